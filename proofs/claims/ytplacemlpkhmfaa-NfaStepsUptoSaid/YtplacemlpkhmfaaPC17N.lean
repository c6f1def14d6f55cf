/- Part of the proof: conditions and contracts of functions of this program. No condition of its own. -/
import Derived.Test.YtplacemlpkhmfaaPC17L
set_option linter.unusedVariables false
set_option linter.unusedSimpArgs false
namespace Go.Proofs.Ytplacemlpkhmfaa
open Go Go.Eng Go.Rx Go.Proofs Go.RowKit
set_option maxRecDepth 100000
def Zwl(_:Nat)(s:List Int)(cell tok:Value)(m:Mem):Prop:=SlI false s cell m∧tok=.slice none 0 0
theorem Zva(A:Nf)(cb:Nat)(base:Mem):Zv7 A 81 [] [.pointer (some ⟨cb,0,none⟩)] cb (fun _ _ l=>l) Zwl base:=by
 rintro s n l la lc ca cn cc ta tn tc m hb ⟨_,ht⟩ hl dM _ hn
 simp only[Value.slice.injEq]at ht
 obtain⟨rfl,rfl,rfl⟩:=ht
 apply Zkj
 unfold ZhF
 exact⟨rfl,rfl,Mem.le_refl _,_,_,_,_,_,_,rfl,rfl,⟨la,lc,rfl,hl,dM,fun h=>by cases h⟩,rfl⟩
def ZvW(l:List Int)(e:Int):Value→Mem→List (List Value)→Prop:=fun v m' _=>∃w,v=.tuple #[w,.int .i64 e]∧SlI false l w m'
theorem Zn5{l:List Int}{e:Int}:∀(v:Value)(m':Mem) (css:List (List Value)),ZvW l e v m' css→Shape.fits (.tup [.slice,.int .i64]) v=true:=by
 rintro v m' css ⟨w,rfl,a,c,rfl,_⟩;rfl
theorem Zvb{stt:Bool}(A:Nf)(hq:∀q∈A.sets,QOk q)(v:Value)(bs:List Nat)(ba:Option Addr)(bc:Nat)(m:Mem)(h:NfR stt A v m)(hb:Byt m ba bs):
  CX Try.prog 29 #[v,.slice ba bs.length bc] m [] (ZvW (if A.runE bs.length=0 then A.run bs [-1]else[]) (A.runE bs.length)):=by
 have h':=h
 obtain⟨s,f,x,y,rfl,⟨sa,sc,rfl,hs',dL,iw⟩,⟨fa,fc,vs,rfl,hf,f8,gN,fT⟩,⟨xa,xc,rfl,hx,dY,gq⟩,⟨ya,yc,rfl,hy,dD,gC⟩⟩:=h
 apply Zpa
 unfold Zll
 intro b m1 bD _ _ _ b1
 have fN:SlI false [] (.slice none 0 0) m1:=⟨none,0,rfl,.inl rfl,by simp,fun _ _=>rfl⟩
 refine ZnY (Zr9 A hq _ bs ba bc false 81 [] [.pointer (some ⟨b1,0,none⟩)] b1 (fun _ _ l=>l) Zwl (fun j s a b m m' h hm=>⟨h.1.mono hm,h.2⟩) [] none 0 0 none 0 0 m1 (Zva A b1 m1) (h'.mono bD) (hb.mono bD) ⟨fN,rfl⟩) (by rintro v m' css tvs ⟨rfl,_⟩;rfl) ?_
 rintro n m2 ma _ cs a c d ⟨hn,bZ,j,a1,n1,c1,a2,n2,c2,cF,dB,dA,_⟩
 simp only[Value.int.injEq,true_and]at hn
 subst hn
 obtain rfl:cs=[.slice a1 n1 c1]:=by simpa using cF
 refine Zas (v:=.slice a1 n1 c1) rfl ⟨m2,Mem.le_trans bD bZ,Mem.le_refl _,_,rfl,?_⟩
 rw[ZpR]at dA
 exact dA
def Zwm(j:Nat)(s:List Int)(cell tok:Value)(m:Mem):Prop:=SlI false s cell m∧tok=cell∧s.length≤j∧j≤4097
theorem Zrw{stt:Bool}(A:Nf)(hA:A.Ok)(cb b:Nat)(v0 v1 v2 v3:Value)(base:Mem)(hb:base.reads b 0 [v0,v1,v2,v3,.bool A.empty])(h:NfR stt A (.agg #[v0,v1,v2,v3,.bool A.empty]) base):Zv7 A 82 [] [.pointer (some ⟨b,0,none⟩),.pointer (some ⟨cb,0,none⟩)] cb (fun s n l=>if A.accepts l then s++[(n:Int)]else s) Zwm base:=by
 rintro s n l la lc ca cn cc ta tn tc m tU ⟨⟨sa,sc,pP,cV,bY,_⟩,ht,iw,k8⟩ hl dM jv hn
 simp only[Value.slice.injEq]at ht pP
 obtain⟨rfl,rfl,rfl⟩:=ht
 obtain⟨rfl,rfl,rfl⟩:=pP
 apply ZgF
 unfold ZeB
 refine⟨v0,v1,v2,v3,.bool A.empty,hb.mono tU,?_⟩
 refine Zah (Zia A hA _ l la lc m (h.mono tU) hl dM jv) fun m1 bD=>Zab (fun ha=>?_) (fun ha=>?_)
 ·intro b3 fP
  have cQ:=Mem.le_add fP [Value.int .i64 (n:Int)]
  refine⟨.inl rfl,Zaq s,[.int .i64 (n:Int)],by rw[ZcZ,Nat.mul_one],rfl,(cV.mono bD).mono cQ,Zfk,by simp[Value.oneCell'],by omega,by omega,fun a' c' m2 bZ gB _=>⟨rfl,rfl,Mem.le_trans bD (Mem.le_trans cQ bZ),_,_,_,_,_,_,rfl,rfl,?_⟩⟩
  simp only[ha,if_true]
  refine⟨⟨a',c',by simp,?_,by rw[List.length_append,List.length_singleton];omega,fun h=>by cases h⟩,rfl,by rw[List.length_append,List.length_singleton];omega,by omega⟩
  rw[Znr];exact gB
 ·refine⟨rfl,rfl,bD,_,_,_,_,_,_,rfl,rfl,?_⟩
  simp only[ha]
  exact⟨⟨_,_,rfl,cV.mono bD,bY,fun h=>by cases h⟩,rfl,by simp;omega,by omega⟩
theorem Zl1{stt:Bool}(A:Nf)(hA:A.right=true)(hq:∀q∈A.sets,QOk q)(v:Value)(bs:List Nat)(ba:Option Addr)(bc:Nat)(m:Mem)(h:NfR stt A v m)(hb:Byt m ba bs):
  CX Try.prog 30 #[v,.slice ba bs.length bc] m [] (ZvW (if A.runE bs.length=0 then A.search bs else[]) (A.runE bs.length)):=by
 have h':=h
 obtain⟨s,f,x,y,rfl,⟨sa,sc,rfl,hs',dL,iw⟩,⟨fa,fc,vs,rfl,hf,f8,gN,fT⟩,⟨xa,xc,rfl,hx,dY,gq⟩,⟨ya,yc,rfl,hy,dD,gC⟩⟩:=h
 apply Zkk
 unfold Zgv
 intro b m1 bD vT _ _ b1
 have fN:SlI false [] (.slice none 0 0) m1:=⟨none,0,rfl,.inl rfl,by simp,fun _ _=>rfl⟩
 refine ZnY (Zr9 A hq _ bs ba bc true 82 [] [.pointer (some ⟨b,0,none⟩),.pointer (some ⟨b1,0,none⟩)] b1 (fun s n l=>if A.accepts l then s++[(n:Int)]else s) Zwm (fun j s a b m m' h hm=>⟨h.1.mono hm,h.2⟩) [] none 0 0 none 0 0 m1 (Zrw A (ZeX.1 hA) b1 b _ _ _ _ m1 vT (h'.mono bD)) (h'.mono bD) (hb.mono bD) ⟨fN,rfl,by simp,by omega⟩) (by rintro v m' css tvs ⟨rfl,_⟩;rfl) ?_
 rintro n m2 ma _ cs a c d ⟨hn,bZ,j,a1,n1,c1,a2,n2,c2,cF,dB,dA,_⟩
 simp only[Value.int.injEq,true_and]at hn
 subst hn
 obtain rfl:cs=[.slice a1 n1 c1]:=by simpa using cF
 refine Zas (v:=.slice a1 n1 c1) rfl ⟨m2,Mem.le_trans bD bZ,Mem.le_refl _,_,rfl,?_⟩
 exact dA
theorem Zn6{stt:Bool}(A:Nf)(hq:∀q∈A.sets,QOk q)(v:Value)(bs:List Nat)(ba:Option Addr)(bc:Nat)(m:Mem)(h:NfR stt A v m)(hb:Byt m ba bs)(bY:bs.length≤4096):
  CX Try.prog 18 #[v,.slice ba bs.length bc] m [] (Ret (.tuple #[.bool (A.right&&A.matches bs),.int .i64 (if A.right then 0 else 171)])):=by
 have h':=h
 obtain⟨s,f,x,y,rfl,⟨sa,sc,rfl,hs',dL,iw⟩,⟨fa,fc,vs,rfl,hf,f8,gN,fT⟩,⟨xa,xc,rfl,hx,dY,gq⟩,⟨ya,yc,rfl,hy,dD,gC⟩⟩:=h
 apply ZiE
 unfold Zfn
 intro b m1 bD _
 refine Zat (Zvb A hq _ bs ba bc m1 (h'.mono bD) (hb.mono bD)) Zn5 ?_
 rintro a n c e m2 bZ ⟨w,hv,a',c',rfl,cV,hl,_⟩
 simp only[Value.tuple.injEq,Array.mk.injEq,List.cons.injEq,Value.slice.injEq,Value.int.injEq,true_and,and_true]at hv
 obtain⟨⟨rfl,rfl,rfl⟩,rfl⟩:=hv
 have hU:=Mem.le_trans bD bZ
 by_cases hr:A.right=true
 ·have he:A.runE bs.length=0:=by unfold Nf.runE;rw[if_neg (by rw[hr];simp),if_neg (by omega)]
  simp only[he,if_true]at cV hl ⊢
  have hA:=ZeX.1 hr
  refine⟨A.matches bs,0,Zcc rfl ?_,Zad hU ?_⟩
  ·refine Zah (Zia A hA _ _ a c m2 (h'.mono hU) cV hl (Zk9 hA bs _ (ZlJ A))) fun m3 cD=>?_
   first|exact⟨rfl,rfl⟩|exact⟨by trivial,rfl⟩
  ·rw[hr];rfl
 ·have hr':A.right=false:=by simpa using hr
  have he:A.runE bs.length=171:=by unfold Nf.runE;rw[if_pos hr']
  refine⟨false,171,Zbo (by rw[he];rfl) ?_,Zad hU ?_⟩
  ·rw[he];first|exact⟨rfl,rfl⟩|exact⟨by trivial,rfl⟩
  ·rw[hr'];rfl
end Go.Proofs.Ytplacemlpkhmfaa

