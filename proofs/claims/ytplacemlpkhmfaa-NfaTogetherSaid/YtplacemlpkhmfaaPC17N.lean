/- Part of the proof: conditions and contracts of functions of this program. No condition of its own. -/
import Derived.Test.YtplacemlpkhmfaaPC17L
set_option linter.unusedVariables false
set_option linter.unusedSimpArgs false
namespace Go.Proofs.Ytplacemlpkhmfaa
open Go Go.Eng Go.Rx Go.Proofs Go.RowKit
set_option maxRecDepth 100000
def ZxR(_:Nat)(s:List Int)(cell tok:Value)(m:Mem):Prop:=SlI false s cell m∧tok=.slice none 0 0
theorem Zwv(A:Nf)(cb:Nat)(base:Mem):ZxF A 81 [] [.pointer (some ⟨cb,0,none⟩)] cb (fun _ _ l=>l) ZxR base:=by
 rintro s n l la lc ca cn cc ta tn tc m hb ⟨_,ht⟩ hl fH _ hn
 simp only[Value.slice.injEq]at ht
 obtain⟨rfl,rfl,rfl⟩:=ht
 apply Zk2
 unfold Zik
 exact⟨rfl,rfl,Mem.le_refl _,_,_,_,_,_,_,rfl,rfl,⟨la,lc,rfl,hl,fH,fun h=>by cases h⟩,rfl⟩
def Zxt(l:List Int)(e:Int):Value→Mem→List (List Value)→Prop:=fun v m' _=>∃w,v=.tuple #[w,.int .i64 e]∧SlI false l w m'
theorem Zo2{l:List Int}{e:Int}:∀(v:Value)(m':Mem) (css:List (List Value)),Zxt l e v m' css→Shape.fits (.tup [.slice,.int .i64]) v=true:=by
 rintro v m' css ⟨w,rfl,a,c,rfl,_⟩;rfl
theorem Zww{stt:Bool}(A:Nf)(hq:∀q∈A.sets,QOk q)(v:Value)(bs:List Nat)(ba:Option Addr)(bc:Nat)(m:Mem)(h:NfR stt A v m)(hb:Byt m ba bs):
  CX Try.prog 29 #[v,.slice ba bs.length bc] m [] (Zxt (if A.runE bs.length=0 then A.run bs [-1]else[]) (A.runE bs.length)):=by
 have h':=h
 obtain⟨s,f,x,y,rfl,⟨sa,sc,rfl,hs',fD,jv⟩,⟨fa,fc,vs,rfl,hf,iE,iY,jc⟩,⟨xa,xc,rfl,hx,gz,iG⟩,⟨ya,yc,rfl,hy,eR,jx⟩⟩:=h
 apply Zp8
 unfold ZlZ
 intro b m1 bJ _ _ _ b1
 have gt:SlI false [] (.slice none 0 0) m1:=⟨none,0,rfl,.inl rfl,by simp,fun _ _=>rfl⟩
 refine Zo0 (Ztp A hq _ bs ba bc false 81 [] [.pointer (some ⟨b1,0,none⟩)] b1 (fun _ _ l=>l) ZxR (fun j s a b m m' h hm=>⟨h.1.mono hm,h.2⟩) [] none 0 0 none 0 0 m1 (Zwv A b1 m1) (h'.mono bJ) (hb.mono bJ) ⟨gt,rfl⟩) (by rintro v m' css tvs ⟨rfl,_⟩;rfl) ?_
 rintro n m2 jZ _ cs a c d ⟨hn,bP,j,a1,n1,c1,a2,n2,c2,cG,dF,dA,_⟩
 simp only[Value.int.injEq,true_and]at hn
 subst hn
 obtain rfl:cs=[.slice a1 n1 c1]:=by simpa using cG
 refine Zan (v:=.slice a1 n1 c1) rfl ⟨m2,Mem.le_trans bJ bP,Mem.le_refl _,_,rfl,?_⟩
 rw[Zq0]at dA
 exact dA
def ZxS(j:Nat)(s:List Int)(cell tok:Value)(m:Mem):Prop:=SlI false s cell m∧tok=cell∧s.length≤j∧j≤4097
theorem ZsG{stt:Bool}(A:Nf)(hA:A.Ok)(cb b:Nat)(v0 v1 v2 v3:Value)(base:Mem)(hb:base.reads b 0 [v0,v1,v2,v3,.bool A.empty])(h:NfR stt A (.agg #[v0,v1,v2,v3,.bool A.empty]) base):ZxF A 82 [] [.pointer (some ⟨b,0,none⟩),.pointer (some ⟨cb,0,none⟩)] cb (fun s n l=>if A.accepts l then s++[(n:Int)]else s) ZxS base:=by
 rintro s n l la lc ca cn cc ta tn tc m ue ⟨⟨sa,sc,pQ,bQ,bO,_⟩,ht,jv,k7⟩ hl fH jt hn
 simp only[Value.slice.injEq]at ht pQ
 obtain⟨rfl,rfl,rfl⟩:=ht
 obtain⟨rfl,rfl,rfl⟩:=pQ
 apply Zhm
 unfold Zft
 refine⟨v0,v1,v2,v3,.bool A.empty,hb.mono ue,?_⟩
 refine Zai (Zl3 A hA _ l la lc m (h.mono ue) hl fH jt) fun m1 bJ=>Zaa (fun ha=>?_) (fun ha=>?_)
 ·intro b3 gk
  have cN:=Mem.le_add gk [Value.int .i64 (n:Int)]
  refine⟨.inl rfl,ZaM s,[.int .i64 (n:Int)],by rw[Zec,Nat.mul_one],rfl,(bQ.mono bJ).mono cN,Zj7,by simp[Value.oneCell'],by omega,by omega,fun a' c' m2 bP fZ _=>⟨rfl,rfl,Mem.le_trans bJ (Mem.le_trans cN bP),_,_,_,_,_,_,rfl,rfl,?_⟩⟩
  simp only[ha,if_true]
  refine⟨⟨a',c',by simp,?_,by rw[List.length_append,List.length_singleton];omega,fun h=>by cases h⟩,rfl,by rw[List.length_append,List.length_singleton];omega,by omega⟩
  rw[Zof];exact fZ
 ·refine⟨rfl,rfl,bJ,_,_,_,_,_,_,rfl,rfl,?_⟩
  simp only[ha]
  exact⟨⟨_,_,rfl,bQ.mono bJ,bO,fun h=>by cases h⟩,rfl,by simp;omega,by omega⟩
theorem ZmJ{stt:Bool}(A:Nf)(hA:A.right=true)(hq:∀q∈A.sets,QOk q)(v:Value)(bs:List Nat)(ba:Option Addr)(bc:Nat)(m:Mem)(h:NfR stt A v m)(hb:Byt m ba bs):
  CX Try.prog 30 #[v,.slice ba bs.length bc] m [] (Zxt (if A.runE bs.length=0 then A.search bs else[]) (A.runE bs.length)):=by
 have h':=h
 obtain⟨s,f,x,y,rfl,⟨sa,sc,rfl,hs',fD,jv⟩,⟨fa,fc,vs,rfl,hf,iE,iY,jc⟩,⟨xa,xc,rfl,hx,gz,iG⟩,⟨ya,yc,rfl,hy,eR,jx⟩⟩:=h
 apply Zk3
 unfold Zha
 intro b m1 bJ wo _ _ b1
 have gt:SlI false [] (.slice none 0 0) m1:=⟨none,0,rfl,.inl rfl,by simp,fun _ _=>rfl⟩
 refine Zo0 (Ztp A hq _ bs ba bc true 82 [] [.pointer (some ⟨b,0,none⟩),.pointer (some ⟨b1,0,none⟩)] b1 (fun s n l=>if A.accepts l then s++[(n:Int)]else s) ZxS (fun j s a b m m' h hm=>⟨h.1.mono hm,h.2⟩) [] none 0 0 none 0 0 m1 (ZsG A (Zg3.1 hA) b1 b _ _ _ _ m1 wo (h'.mono bJ)) (h'.mono bJ) (hb.mono bJ) ⟨gt,rfl,by simp,by omega⟩) (by rintro v m' css tvs ⟨rfl,_⟩;rfl) ?_
 rintro n m2 jZ _ cs a c d ⟨hn,bP,j,a1,n1,c1,a2,n2,c2,cG,dF,dA,_⟩
 simp only[Value.int.injEq,true_and]at hn
 subst hn
 obtain rfl:cs=[.slice a1 n1 c1]:=by simpa using cG
 refine Zan (v:=.slice a1 n1 c1) rfl ⟨m2,Mem.le_trans bJ bP,Mem.le_refl _,_,rfl,?_⟩
 exact dA
theorem Zj9{stt:Bool}(A:Nf)(hq:∀q∈A.sets,QOk q)(v:Value)(bs:List Nat)(ba:Option Addr)(bc:Nat)(m:Mem)(h:NfR stt A v m)(hb:Byt m ba bs)(bO:bs.length≤4096):
  CX Try.prog 18 #[v,.slice ba bs.length bc] m [] (Ret (.tuple #[.bool (A.right&&A.matches bs),.int .i64 (if A.right then 0 else 171)])):=by
 have h':=h
 obtain⟨s,f,x,y,rfl,⟨sa,sc,rfl,hs',fD,jv⟩,⟨fa,fc,vs,rfl,hf,iE,iY,jc⟩,⟨xa,xc,rfl,hx,gz,iG⟩,⟨ya,yc,rfl,hy,eR,jx⟩⟩:=h
 apply Zjg
 unfold Zgb
 intro b m1 bJ _
 refine Zam (Zww A hq _ bs ba bc m1 (h'.mono bJ) (hb.mono bJ)) Zo2 ?_
 rintro a n c e m2 bP ⟨w,hv,a',c',rfl,bQ,hl,_⟩
 simp only[Value.tuple.injEq,Array.mk.injEq,List.cons.injEq,Value.slice.injEq,Value.int.injEq,true_and,and_true]at hv
 obtain⟨⟨rfl,rfl,rfl⟩,rfl⟩:=hv
 have kt:=Mem.le_trans bJ bP
 by_cases hr:A.right=true
 ·have he:A.runE bs.length=0:=by unfold Nf.runE;rw[if_neg (by rw[hr];simp),if_neg (by omega)]
  simp only[he,if_true]at bQ hl ⊢
  have hA:=Zg3.1 hr
  refine⟨A.matches bs,0,ZcH rfl ?_,Zag kt ?_⟩
  ·refine Zai (Zl3 A hA _ _ a c m2 (h'.mono kt) bQ hl (ZlR hA bs _ (Zmt A))) fun m3 cJ=>?_
   first|exact⟨rfl,rfl⟩|exact⟨by trivial,rfl⟩
  ·rw[hr];rfl
 ·have hr':A.right=false:=by simpa using hr
  have he:A.runE bs.length=171:=by unfold Nf.runE;rw[if_pos hr']
  refine⟨false,171,ZbD (by rw[he];rfl) ?_,Zag kt ?_⟩
  ·rw[he];first|exact⟨rfl,rfl⟩|exact⟨by trivial,rfl⟩
  ·rw[hr'];rfl
end Go.Proofs.Ytplacemlpkhmfaa

