/- Part of the proof: conditions and contracts of functions of this program. No condition of its own. -/
import Derived.Test.YtplacemlpkhmfaaPC17L
set_option linter.unusedVariables false
set_option linter.unusedSimpArgs false
namespace Go.Proofs.Ytplacemlpkhmfaa
open Go Go.Eng Go.Rx Go.Proofs Go.RowKit
set_option maxRecDepth 100000
def Zxg(_:Nat)(s:List Int)(cell tok:Value)(m:Mem):Prop:=SlI false s cell m∧tok=.slice none 0 0
theorem ZvS(A:Nf)(cb:Nat)(base:Mem):Zw9 A 81 [] [.pointer (some ⟨cb,0,none⟩)] cb (fun _ _ l=>l) Zxg base:=by
 rintro s n l la lc ca cn cc ta tn tc m hb ⟨_,ht⟩ hl eL _ hn
 simp only[Value.slice.injEq]at ht
 obtain⟨rfl,rfl,rfl⟩:=ht
 apply Zkz
 unfold ZhU
 exact⟨rfl,rfl,Mem.le_refl _,_,_,_,_,_,_,rfl,rfl,⟨la,lc,rfl,hl,eL,fun h=>by cases h⟩,rfl⟩
def ZwQ(l:List Int)(e:Int):Value→Mem→List (List Value)→Prop:=fun v m' _=>∃w,v=.tuple #[w,.int .i64 e]∧SlI false l w m'
theorem Zom{l:List Int}{e:Int}:∀(v:Value)(m':Mem) (css:List (List Value)),ZwQ l e v m' css→Shape.fits (.tup [.slice,.int .i64]) v=true:=by
 rintro v m' css ⟨w,rfl,a,c,rfl,_⟩;rfl
theorem ZvT{stt:Bool}(A:Nf)(hq:∀q∈A.sets,QOk q)(v:Value)(bs:List Nat)(ba:Option Addr)(bc:Nat)(m:Mem)(h:NfR stt A v m)(hb:Byt m ba bs):
  CX Try.prog 29 #[v,.slice ba bs.length bc] m [] (ZwQ (if A.runE bs.length=0 then A.run bs [-1]else[]) (A.runE bs.length)):=by
 have h':=h
 obtain⟨s,f,x,y,rfl,⟨sa,sc,rfl,hs',eP,jd⟩,⟨fa,fc,vs,rfl,hf,ie,iE,iM⟩,⟨xa,xc,rfl,hx,gd,hU⟩,⟨ya,yc,rfl,hy,eI,iN⟩⟩:=h
 apply Zlx
 unfold Zio
 intro b m1 bH _ _ _ b1
 have gf:SlI false [] (.slice none 0 0) m1:=⟨none,0,rfl,.inl rfl,by simp,fun _ _=>rfl⟩
 refine ZkH (ZsF A hq _ bs ba bc false 81 [] [.pointer (some ⟨b1,0,none⟩)] b1 (fun _ _ l=>l) Zxg (fun j s a b m m' h hm=>⟨h.1.mono hm,h.2⟩) [] none 0 0 none 0 0 m1 (ZvS A b1 m1) (h'.mono bH) (hb.mono bH) ⟨gf,rfl⟩) (by rintro v m' css tvs ⟨rfl,_⟩;rfl) ?_
 rintro n m2 iT _ cs a c d ⟨hn,bN,j,a1,n1,c1,a2,n2,c2,cH,dA,cX,_⟩
 simp only[Value.int.injEq,true_and]at hn
 subst hn
 obtain rfl:cs=[.slice a1 n1 c1]:=by simpa using cH
 refine Zap (v:=.slice a1 n1 c1) rfl ⟨m2,Mem.le_trans bH bN,Mem.le_refl _,_,rfl,?_⟩
 rw[Zqm]at cX
 exact cX
def Zxh(j:Nat)(s:List Int)(cell tok:Value)(m:Mem):Prop:=SlI false s cell m∧tok=cell∧s.length≤j∧j≤4097
theorem ZrX{stt:Bool}(A:Nf)(hA:A.Ok)(cb b:Nat)(v0 v1 v2 v3:Value)(base:Mem)(hb:base.reads b 0 [v0,v1,v2,v3,.bool A.empty])(h:NfR stt A (.agg #[v0,v1,v2,v3,.bool A.empty]) base):Zw9 A 82 [] [.pointer (some ⟨b,0,none⟩),.pointer (some ⟨cb,0,none⟩)] cb (fun s n l=>if A.accepts l then s++[(n:Int)]else s) Zxh base:=by
 rintro s n l la lc ca cn cc ta tn tc m tN ⟨⟨sa,sc,pA,bM,bO,_⟩,ht,jd,kN⟩ hl eL jk hn
 simp only[Value.slice.injEq]at ht pA
 obtain⟨rfl,rfl,rfl⟩:=ht
 obtain⟨rfl,rfl,rfl⟩:=pA
 apply Zg2
 unfold Ze9
 refine⟨v0,v1,v2,v3,.bool A.empty,hb.mono tN,?_⟩
 refine Zaj (ZlA A hA _ l la lc m (h.mono tN) hl eL jk) fun m1 bH=>Zab (fun ha=>?_) (fun ha=>?_)
 ·intro b3 gm
  have cN:=Mem.le_add gm [Value.int .i64 (n:Int)]
  refine⟨.inl rfl,ZaA s,[.int .i64 (n:Int)],by rw[Zch,Nat.mul_one],rfl,(bM.mono bH).mono cN,Zfo,by simp[Value.oneCell'],by omega,by omega,fun a' c' m2 bN gQ _=>⟨rfl,rfl,Mem.le_trans bH (Mem.le_trans cN bN),_,_,_,_,_,_,rfl,rfl,?_⟩⟩
  simp only[ha,if_true]
  refine⟨⟨a',c',by simp,?_,by rw[List.length_append,List.length_singleton];omega,fun h=>by cases h⟩,rfl,by rw[List.length_append,List.length_singleton];omega,by omega⟩
  rw[Zko];exact gQ
 ·refine⟨rfl,rfl,bH,_,_,_,_,_,_,rfl,rfl,?_⟩
  simp only[ha]
  exact⟨⟨_,_,rfl,bM.mono bH,bO,fun h=>by cases h⟩,rfl,by simp;omega,by omega⟩
theorem Zmf{stt:Bool}(A:Nf)(hA:A.right=true)(hq:∀q∈A.sets,QOk q)(v:Value)(bs:List Nat)(ba:Option Addr)(bc:Nat)(m:Mem)(h:NfR stt A v m)(hb:Byt m ba bs):
  CX Try.prog 30 #[v,.slice ba bs.length bc] m [] (ZwQ (if A.runE bs.length=0 then A.search bs else[]) (A.runE bs.length)):=by
 have h':=h
 obtain⟨s,f,x,y,rfl,⟨sa,sc,rfl,hs',eP,jd⟩,⟨fa,fc,vs,rfl,hf,ie,iE,iM⟩,⟨xa,xc,rfl,hx,gd,hU⟩,⟨ya,yc,rfl,hy,eI,iN⟩⟩:=h
 apply ZgQ
 unfold ZeD
 intro b m1 bH sd _ _ b1
 have gf:SlI false [] (.slice none 0 0) m1:=⟨none,0,rfl,.inl rfl,by simp,fun _ _=>rfl⟩
 refine ZkH (ZsF A hq _ bs ba bc true 82 [] [.pointer (some ⟨b,0,none⟩),.pointer (some ⟨b1,0,none⟩)] b1 (fun s n l=>if A.accepts l then s++[(n:Int)]else s) Zxh (fun j s a b m m' h hm=>⟨h.1.mono hm,h.2⟩) [] none 0 0 none 0 0 m1 (ZrX A (Zfy.1 hA) b1 b _ _ _ _ m1 sd (h'.mono bH)) (h'.mono bH) (hb.mono bH) ⟨gf,rfl,by simp,by omega⟩) (by rintro v m' css tvs ⟨rfl,_⟩;rfl) ?_
 rintro n m2 iT _ cs a c d ⟨hn,bN,j,a1,n1,c1,a2,n2,c2,cH,dA,cX,_⟩
 simp only[Value.int.injEq,true_and]at hn
 subst hn
 obtain rfl:cs=[.slice a1 n1 c1]:=by simpa using cH
 refine Zap (v:=.slice a1 n1 c1) rfl ⟨m2,Mem.le_trans bH bN,Mem.le_refl _,_,rfl,?_⟩
 exact cX
theorem Zon{stt:Bool}(A:Nf)(hq:∀q∈A.sets,QOk q)(v:Value)(bs:List Nat)(ba:Option Addr)(bc:Nat)(m:Mem)(h:NfR stt A v m)(hb:Byt m ba bs)(bO:bs.length≤4096):
  CX Try.prog 18 #[v,.slice ba bs.length bc] m [] (Ret (.tuple #[.bool (A.right&&A.matches bs),.int .i64 (if A.right then 0 else 171)])):=by
 have h':=h
 obtain⟨s,f,x,y,rfl,⟨sa,sc,rfl,hs',eP,jd⟩,⟨fa,fc,vs,rfl,hf,ie,iE,iM⟩,⟨xa,xc,rfl,hx,gd,hU⟩,⟨ya,yc,rfl,hy,eI,iN⟩⟩:=h
 apply ZfY
 unfold ZdR
 intro b m1 bH _
 refine Zam (ZvT A hq _ bs ba bc m1 (h'.mono bH) (hb.mono bH)) Zom ?_
 rintro a n c e m2 bN ⟨w,hv,a',c',rfl,bM,hl,_⟩
 simp only[Value.tuple.injEq,Array.mk.injEq,List.cons.injEq,Value.slice.injEq,Value.int.injEq,true_and,and_true]at hv
 obtain⟨⟨rfl,rfl,rfl⟩,rfl⟩:=hv
 have je:=Mem.le_trans bH bN
 by_cases hr:A.right=true
 ·have he:A.runE bs.length=0:=by unfold Nf.runE;rw[if_neg (by rw[hr];simp),if_neg (by omega)]
  simp only[he,if_true]at bM hl ⊢
  have hA:=Zfy.1 hr
  refine⟨A.matches bs,0,Zcx rfl ?_,Zah je ?_⟩
  ·refine Zaj (ZlA A hA _ _ a c m2 (h'.mono je) bM hl (Zln hA bs _ (ZlZ A))) fun m3 cG=>?_
   first|exact⟨rfl,rfl⟩|exact⟨by trivial,rfl⟩
  ·rw[hr];rfl
 ·have hr':A.right=false:=by simpa using hr
  have he:A.runE bs.length=171:=by unfold Nf.runE;rw[if_pos hr']
  refine⟨false,171,Zbz (by rw[he];rfl) ?_,Zah je ?_⟩
  ·rw[he];first|exact⟨rfl,rfl⟩|exact⟨by trivial,rfl⟩
  ·rw[hr'];rfl
end Go.Proofs.Ytplacemlpkhmfaa

