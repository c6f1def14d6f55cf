/- Part of the proof: conditions and contracts of functions of this program. No condition of its own. -/
import Derived.Test.YtplacemlpkhmfaaPC17L
set_option linter.unusedVariables false
set_option linter.unusedSimpArgs false
namespace Go.Proofs.Ytplacemlpkhmfaa
open Go Go.Eng Go.Rx Go.Proofs Go.RowKit
set_option maxRecDepth 100000
def Zzc(_:Nat)(s:List Int)(cell tok:Value)(m:Mem):Prop:=SlI false s cell m∧tok=.slice none 0 0
theorem Zx7(A:Nf)(cb:Nat)(base:Mem):Zy1 A 81 [] [.pointer (some ⟨cb,0,none⟩)] cb (fun _ _ l=>l) Zzc base:=by
 rintro s n l la lc ca cn cc ta tn tc m hb ⟨_,ht⟩ hl fN _ hn
 simp only[Value.slice.injEq]at ht
 obtain⟨rfl,rfl,rfl⟩:=ht
 apply Zl3
 unfold Zi5
 exact⟨rfl,rfl,Mem.le_refl _,_,_,_,_,_,_,rfl,rfl,⟨la,lc,rfl,hl,fN,fun h=>by cases h⟩,rfl⟩
def ZyE(l:List Int)(e:Int):Value→Mem→List (List Value)→Prop:=fun v m' _=>∃w,v=.tuple #[w,.int .i64 e]∧SlI false l w m'
theorem Zjd{l:List Int}{e:Int}:∀(v:Value)(m':Mem) (css:List (List Value)),ZyE l e v m' css→Shape.fits (.tup [.slice,.int .i64]) v=true:=by
 rintro v m' css ⟨w,rfl,a,c,rfl,_⟩;rfl
theorem Zx8{stt:Bool}(A:Nf)(hq:∀q∈A.sets,QOk q)(v:Value)(bs:List Nat)(ba:Option Addr)(bc:Nat)(m:Mem)(h:NfR stt A v m)(hb:Byt m ba bs):
  CX Try.prog 29 #[v,.slice ba bs.length bc] m [] (ZyE (if A.runE bs.length=0 then A.run bs [-1]else[]) (A.runE bs.length)):=by
 have h':=h
 obtain⟨s,f,x,y,rfl,⟨sa,sc,rfl,hs',fB,jm⟩,⟨fa,fc,vs,rfl,hf,im,jJ,iK⟩,⟨xa,xc,rfl,hx,gq,iq⟩,⟨ya,yc,rfl,hy,eQ,jn⟩⟩:=h
 apply Zrc
 unfold Zm2
 intro b m1 bJ _ _ _ b1
 have gD:SlI false [] (.slice none 0 0) m1:=⟨none,0,rfl,.inl rfl,by simp,fun _ _=>rfl⟩
 refine Zp2 (ZuI A hq _ bs ba bc false 81 [] [.pointer (some ⟨b1,0,none⟩)] b1 (fun _ _ l=>l) Zzc (fun j s a b m m' h hm=>⟨h.1.mono hm,h.2⟩) [] none 0 0 none 0 0 m1 (Zx7 A b1 m1) (h'.mono bJ) (hb.mono bJ) ⟨gD,rfl⟩) (by rintro v m' css tvs ⟨rfl,_⟩;rfl) ?_
 rintro n m2 j7 _ cs a c d ⟨hn,bT,j,a1,n1,c1,a2,n2,c2,cK,dE,dH,_⟩
 simp only[Value.int.injEq,true_and]at hn
 subst hn
 obtain rfl:cs=[.slice a1 n1 c1]:=by simpa using cK
 refine Zam (v:=.slice a1 n1 c1) rfl ⟨m2,Mem.le_trans bJ bT,Mem.le_refl _,_,rfl,?_⟩
 rw[Zr5]at dH
 exact dH
def Zzd(j:Nat)(s:List Int)(cell tok:Value)(m:Mem):Prop:=SlI false s cell m∧tok=cell∧s.length≤j∧j≤4097
theorem ZtN{stt:Bool}(A:Nf)(hA:A.Ok)(cb b:Nat)(v0 v1 v2 v3:Value)(base:Mem)(hb:base.reads b 0 [v0,v1,v2,v3,.bool A.empty])(h:NfR stt A (.agg #[v0,v1,v2,v3,.bool A.empty]) base):Zy1 A 82 [] [.pointer (some ⟨b,0,none⟩),.pointer (some ⟨cb,0,none⟩)] cb (fun s n l=>if A.accepts l then s++[(n:Int)]else s) Zzd base:=by
 rintro s n l la lc ca cn cc ta tn tc m t5 ⟨⟨sa,sc,pV,bZ,bX,_⟩,ht,jm,lj⟩ hl fN jF hn
 simp only[Value.slice.injEq]at ht pV
 obtain⟨rfl,rfl,rfl⟩:=ht
 obtain⟨rfl,rfl,rfl⟩:=pV
 apply ZhY
 unfold ZfW
 refine⟨v0,v1,v2,v3,.bool A.empty,hb.mono t5,?_⟩
 refine Zak (Zm5 A hA _ l la lc m (h.mono t5) hl fN jF) fun m1 bJ=>Zab (fun ha=>?_) (fun ha=>?_)
 ·intro b3 gv
  have cS:=Mem.le_add gv [Value.int .i64 (n:Int)]
  refine⟨.inl rfl,ZaA s,[.int .i64 (n:Int)],by rw[Zcr,Nat.mul_one],rfl,(bZ.mono bJ).mono cS,Zk7,by simp[Value.oneCell'],by omega,by omega,fun a' c' m2 bT hU _=>⟨rfl,rfl,Mem.le_trans bJ (Mem.le_trans cS bT),_,_,_,_,_,_,rfl,rfl,?_⟩⟩
  simp only[ha,if_true]
  refine⟨⟨a',c',by simp,?_,by rw[List.length_append,List.length_singleton];omega,fun h=>by cases h⟩,rfl,by rw[List.length_append,List.length_singleton];omega,by omega⟩
  rw[ZiI];exact hU
 ·refine⟨rfl,rfl,bJ,_,_,_,_,_,_,rfl,rfl,?_⟩
  simp only[ha]
  exact⟨⟨_,_,rfl,bZ.mono bJ,bX,fun h=>by cases h⟩,rfl,by simp;omega,by omega⟩
theorem Zje{stt:Bool}(A:Nf)(hA:A.right=true)(hq:∀q∈A.sets,QOk q)(v:Value)(bs:List Nat)(ba:Option Addr)(bc:Nat)(m:Mem)(h:NfR stt A v m)(hb:Byt m ba bs):
  CX Try.prog 30 #[v,.slice ba bs.length bc] m [] (ZyE (if A.runE bs.length=0 then A.search bs else[]) (A.runE bs.length)):=by
 have h':=h
 obtain⟨s,f,x,y,rfl,⟨sa,sc,rfl,hs',fB,jm⟩,⟨fa,fc,vs,rfl,hf,im,jJ,iK⟩,⟨xa,xc,rfl,hx,gq,iq⟩,⟨ya,yc,rfl,hy,eQ,jn⟩⟩:=h
 apply Zl4
 unfold ZhM
 intro b m1 bJ wg _ _ b1
 have gD:SlI false [] (.slice none 0 0) m1:=⟨none,0,rfl,.inl rfl,by simp,fun _ _=>rfl⟩
 refine Zp2 (ZuI A hq _ bs ba bc true 82 [] [.pointer (some ⟨b,0,none⟩),.pointer (some ⟨b1,0,none⟩)] b1 (fun s n l=>if A.accepts l then s++[(n:Int)]else s) Zzd (fun j s a b m m' h hm=>⟨h.1.mono hm,h.2⟩) [] none 0 0 none 0 0 m1 (ZtN A (Zgj.1 hA) b1 b _ _ _ _ m1 wg (h'.mono bJ)) (h'.mono bJ) (hb.mono bJ) ⟨gD,rfl,by simp,by omega⟩) (by rintro v m' css tvs ⟨rfl,_⟩;rfl) ?_
 rintro n m2 j7 _ cs a c d ⟨hn,bT,j,a1,n1,c1,a2,n2,c2,cK,dE,dH,_⟩
 simp only[Value.int.injEq,true_and]at hn
 subst hn
 obtain rfl:cs=[.slice a1 n1 c1]:=by simpa using cK
 refine Zam (v:=.slice a1 n1 c1) rfl ⟨m2,Mem.le_trans bJ bT,Mem.le_refl _,_,rfl,?_⟩
 exact dH
theorem Zk9{stt:Bool}(A:Nf)(hq:∀q∈A.sets,QOk q)(v:Value)(bs:List Nat)(ba:Option Addr)(bc:Nat)(m:Mem)(h:NfR stt A v m)(hb:Byt m ba bs)(bX:bs.length≤4096):
  CX Try.prog 18 #[v,.slice ba bs.length bc] m [] (Ret (.tuple #[.bool (A.right&&A.matches bs),.int .i64 (if A.right then 0 else 171)])):=by
 have h':=h
 obtain⟨s,f,x,y,rfl,⟨sa,sc,rfl,hs',fB,jm⟩,⟨fa,fc,vs,rfl,hf,im,jJ,iK⟩,⟨xa,xc,rfl,hx,gq,iq⟩,⟨ya,yc,rfl,hy,eQ,jn⟩⟩:=h
 apply Zj7
 unfold ZgR
 intro b m1 bJ _
 refine Zap (Zx8 A hq _ bs ba bc m1 (h'.mono bJ) (hb.mono bJ)) Zjd ?_
 rintro a n c e m2 bT ⟨w,hv,a',c',rfl,bZ,hl,_⟩
 simp only[Value.tuple.injEq,Array.mk.injEq,List.cons.injEq,Value.slice.injEq,Value.int.injEq,true_and,and_true]at hv
 obtain⟨⟨rfl,rfl,rfl⟩,rfl⟩:=hv
 have ky:=Mem.le_trans bJ bT
 by_cases hr:A.right=true
 ·have he:A.runE bs.length=0:=by unfold Nf.runE;rw[if_neg (by rw[hr];simp),if_neg (by omega)]
  simp only[he,if_true]at bZ hl ⊢
  have hA:=Zgj.1 hr
  refine⟨A.matches bs,0,ZcG rfl ?_,Zac ky ?_⟩
  ·refine Zak (Zm5 A hA _ _ a c m2 (h'.mono ky) bZ hl (ZmO hA bs _ (Znt A))) fun m3 cH=>?_
   first|exact⟨rfl,rfl⟩|exact⟨by trivial,rfl⟩
  ·rw[hr];rfl
 ·have hr':A.right=false:=by simpa using hr
  have he:A.runE bs.length=171:=by unfold Nf.runE;rw[if_pos hr']
  refine⟨false,171,Za7 (by rw[he];rfl) ?_,Zac ky ?_⟩
  ·rw[he];first|exact⟨rfl,rfl⟩|exact⟨by trivial,rfl⟩
  ·rw[hr'];rfl
end Go.Proofs.Ytplacemlpkhmfaa

