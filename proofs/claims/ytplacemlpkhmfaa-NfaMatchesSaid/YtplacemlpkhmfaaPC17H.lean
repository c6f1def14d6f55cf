/- Part of the proof: conditions and contracts of functions of this program. No condition of its own. -/
import Derived.Test.YtplacemlpkhmfaaPVNC
import Derived.Test.YtplacemlpkhmfaaPC17A
import Derived.Test.YtplacemlpkhmfaaPVB
import Derived.Test.YtplacemlpkhmfaaPC13Q
import Derived.Test.YtplacemlpkhmfaaMr
set_option linter.unusedVariables false
set_option linter.unusedSimpArgs false
namespace Go.Proofs.Ytplacemlpkhmfaa
open Go Go.Eng Go.Rx Go.Proofs Go.RowKit
set_option maxRecDepth 100000
theorem ZaF{α:Type}{l:List α}{k:Nat}(h:k < l.length):∃x,l[k]?=some x:=⟨l[k],by simp[h]⟩
theorem Zcd{α:Type}{l:List α}{k:Nat}{x:α}(h:l[k]?=some x):l.drop k=x::l.drop (k+1):=by
 obtain⟨hk,he⟩:=List.getElem?_eq_some_iff.1 h
 rw[List.drop_eq_getElem_cons hk,he]
theorem Zjc(l:List Int)(lo hi:Int)(a:Option Addr)(c:Nat)(m:Mem)(h:rowRd m a (ZaA l))(hl:l.length≤1000000)(nM : -10≤lo∧lo≤10):CX Try.prog 70 #[.slice a l.length c,.int .i64 lo,.int .i64 hi] m [] (Ret (.bool (Zeh l (lo - 1) hi))):=by
 apply Zl9
 unfold ZhO
 refine⟨fun xs _ _ m' q=>∃(k:Nat)(z:Int),k≤l.length∧xs=[.int .i64 z,.int .i64 k]∧Zeh (l.drop k) z hi=Zeh l (lo - 1) hi∧m.le m'∧q=l.length - k,⟨_,0,lo - 1,Nat.zero_le _,by rw[Zat (by omega) (by omega)];rfl,rfl,Mem.le_refl _,rfl⟩,?_⟩
 rintro z' k' m1 q bJ ⟨k,z,hk,hx,he,_,hq⟩
 simp only[List.cons.injEq,Value.int.injEq,true_and,and_true]at hx
 obtain⟨rfl,rfl⟩:=hx
 subst hq
 refine Zab (fun bS=>?_) (fun cX=>?_)
 ·have bR:k < l.length:=by have:=of_decide_eq_true bS;omega
  obtain⟨x,hx⟩:=ZaF bR
  obtain⟨b,o,ip,cU⟩:=Zd9 (h.mono bJ) hx
  rw[Zcd hx,Zeh]at he
  refine⟨b,o,ip,⟨by omega,by omega⟩,_,(by rw[Int.toNat_natCast];exact cU),!(decide (z' < x)&&decide (x≤hi)),Zaa rfl (Zab (fun h1=>?_) (fun h1=>Zaa rfl ?_)),Zab (fun h2=>Zac bJ ?_) (fun h2=>Zaa rfl ⟨_,by omega,k+1,x,bR,by rw[Zat (by omega) (by omega)];rfl,?_,bJ,rfl⟩)⟩
  ·have:¬z' < x:=by have:=of_decide_eq_true h1;simp only[intOf]at this;omega
   simp[this]
  ·have h1':z' < x:=by have:=of_decide_eq_false h1;simp only[intOf]at this;omega
   simp only[h1',decide_true,Bool.true_and,intOf]
   refine congrArg (fun z=>[Value.bool z]) ?_
   rw[Bool.eq_iff_iff];simp
  ·simp only[Bool.not_eq_true']at h2
   rw[←he]
   show Value.bool false=_
   congr 1
   rw[←Bool.and_assoc,h2,Bool.false_and]
  ·simp only[Bool.not_eq_false']at h2
   rw[←he,←Bool.and_assoc,h2,Bool.true_and]
 ·have:k=l.length:=by have:=of_decide_eq_false cX;omega
  subst this
  rw[List.drop_length,Zeh]at he
  refine Zac bJ ?_
  rw[←he]
theorem ZvJ{α:Type}{l:List α}{p:α→Bool}{k:Nat}{x:α}(h:l[k]?=some x):(l.drop k).all p=(p x&&(l.drop (k+1)).all p):=by
 rw[Zcd h,List.all_cons]
theorem Zma{st:Bool}(A:Nf)(v:Value)(m:Mem)(h:NfR st A v m):CX Try.prog 21 #[v] m [] (Ret (.bool A.right)):=by
 obtain⟨s,f,x,y,rfl,⟨sa,sc,rfl,hs,fB,jm⟩,⟨fa,fc,vs,rfl,hf,im,jJ,iK⟩,⟨xa,xc,rfl,hx,gq,iq⟩,⟨ya,yc,rfl,hy,eQ,jn⟩⟩:=h
 apply ZnJ
 unfold Zjb
 intro b m1 bJ _
 have hw:IntKind.i64.wrap ((A.sets.length:Int) - 1)=A.top:=Zat (by omega) (by omega)
 simp only[hw]
 refine⟨!(decide (A.sets.length≤400)&&(decide (A.fol.length=A.sets.length)&&(Zeh A.first (-1) A.top&&Zeh A.last (-1) A.top))),?_,?_⟩
 ·refine Zab (fun h1=>⟨by trivial,?_⟩) (fun h1=>Zab (fun h2=>⟨by trivial,?_⟩) (fun h2=>?_))
  ·have:¬A.sets.length≤400:=by have:=of_decide_eq_true h1;omega
   simp[this]
  ·have:¬A.fol.length=A.sets.length:=by
    simp only[Bool.not_eq_true',beq_eq_false_iff_ne,ne_eq]at h2;omega
   simp[this]
  ·have h1':A.sets.length≤400:=by have:=of_decide_eq_false h1;omega
   have h2':A.fol.length=A.sets.length:=by
    simp only[Bool.not_eq_false',beq_iff_eq]at h2;omega
   refine Zak (Zjc A.first 0 A.top xa xc m1 (hx.mono bJ) gq ⟨by omega,by omega⟩) fun m2 bT=>Zab (fun h3=>⟨by trivial,?_⟩) (fun h3=>?_)
   ·have:Zeh A.first (-1) A.top=false:=by simpa using h3
    simp[this]
   ·have h3':Zeh A.first (-1) A.top=true:=by simpa using h3
    refine Zak (Zjc A.last 0 A.top ya yc m2 ((hy.mono bJ).mono bT) eQ ⟨by omega,by omega⟩) fun m3 cH=>⟨by trivial,?_⟩
    simp[h1',h2',h3']
 ·refine Zab (fun h1=>Zac bJ ?_) (fun h1=>?_)
  ·simp only[Bool.not_eq_true']at h1
   show Value.bool false=.bool A.right
   congr 1
   unfold Nf.right
   revert h1
   cases decide (A.sets.length≤400) <;> cases decide (A.fol.length=A.sets.length) <;> cases Zeh A.first (-1) A.top <;> cases Zeh A.last (-1) A.top <;> simp
  ·simp only[Bool.not_eq_false',Bool.and_eq_true,decide_eq_true_eq]at h1
   obtain⟨vK,tT,vL,vM⟩:=h1
   have hA:A.right=(A.fol.zip A.sets).all fun p=>Zeh p.1 (-1) A.top&&!(p.2 == zQ):=by
    unfold Nf.right;simp[vK,tT,vL,vM]
   have iy:(A.fol.zip A.sets).length=A.fol.length:=by simp[tT]
   refine⟨fun xs _ _ m' q=>∃k:Nat,k≤A.fol.length∧xs=[.int .i64 k]∧((A.fol.zip A.sets).drop k).all (fun p=>Zeh p.1 (-1) A.top&&!(p.2 == zQ))=A.right∧m.le m'∧q=A.fol.length - k,⟨_,0,Nat.zero_le _,rfl,by rw[hA];rfl,bJ,rfl⟩,?_⟩
   rintro z m2 q bT ⟨k,hk,hz,he,_,hq⟩
   obtain rfl:z=k:=by simpa using hz
   subst hq
   have jK:=Mem.le_trans bJ bT
   refine Zab (fun bS=>?_) (fun cX=>?_)
   ·have bR:k < A.fol.length:=by have:=of_decide_eq_true bS;omega
    obtain⟨l,hl⟩:=ZaF bR
    obtain⟨q4,nO⟩:=ZaF (l:=A.sets) (k:=k) (by omega)
    obtain⟨u,hu⟩:=ZaF (l:=vs) (k:=k) (by omega)
    obtain⟨la,lc,rfl,gX,fN,p7⟩:=(iK k u l hu hl).mono jK
    obtain⟨fb,fo,jE,gI⟩:=Zgi (hf.mono jK) hu
    have r9:(A.fol.zip A.sets)[k]?=some (l,q4):=List.getElem?_zip_eq_some.2 ⟨hl,nO⟩
    rw[ZvJ r9]at he
    refine⟨fb,fo,jE,⟨by omega,by omega⟩,_,(by rw[Int.toNat_natCast];exact gI),!(Zeh l (-1) A.top&&!(q4 == zQ)),?_,Zab (fun h2=>Zac jK ?_) (fun h2=>⟨by trivial,_,by omega,k+1,bR,by rw[Zat (by omega) (by omega)];rfl,?_,jK,rfl⟩)⟩
    ·refine Zak (Zjc l 0 A.top la lc m2 gX fN ⟨by omega,by omega⟩) fun m3 cH=>Zab (fun h3=>⟨by trivial,?_⟩) (fun h3=>?_)
     ·have:Zeh l (-1) A.top=false:=by simpa using h3
      simp[this]
     ·have h3':Zeh l (-1) A.top=true:=by simpa using h3
      obtain⟨sb,so,iX,jo⟩:=ZlM (hs.mono jK) nO
      refine⟨sb,so,iX,⟨by omega,by omega⟩,_,_,_,_,(by rw[Int.toNat_natCast];exact jo.mono cH),_,Zq4 _ _ _ _ _ _ _ _,by trivial,?_⟩
      simp only[h3',Bool.true_and,Bool.not_not]
      refine congrArg (fun z=>[Value.bool z]) ?_
      obtain⟨q0,q1,q2,q3⟩:=q4
      show _=((q0,q1,q2,q3) == ((0,0,0,0):QS))
      rw[Bool.eq_iff_iff]
      simp[and_assoc]
    ·simp only[Bool.not_eq_true']at h2
     rw[←he,h2];rfl
    ·simp only[Bool.not_eq_false']at h2
     rw[←he,h2,Bool.true_and]
   ·have:k=A.fol.length:=by have:=of_decide_eq_false cX;omega
    subst this
    refine Zac jK ?_
    rw[←he,←iy,List.drop_length];rfl
theorem Zsp{α:Type}{l r:List α}{k:Nat}{x y:α}(hx:l[k]?=some x)(hy:r[k]?=some y):l.drop k=r.drop k↔(x=y∧l.drop (k+1)=r.drop (k+1)):=by
 rw[Zcd hx,Zcd hy,List.cons.injEq]
theorem Zp0(l r:List Int)(a b:Option Addr)(c d:Nat)(m:Mem)(hl:rowRd m a (ZaA l))(hr:rowRd m b (ZaA r))(hn:l.length≤1000000):CX Try.prog 23 #[.slice a l.length c,.slice b r.length d] m [] (Ret (.bool (decide (l=r)))):=by
 apply ZdE
 unfold Zb7
 refine Zab (fun h=>Zac (Mem.le_refl _) ?_) (fun h=>?_)
 ·have:¬l=r:=fun e=>by subst e;simp at h
  simp[Ret,this]
 have bX:l.length=r.length:=by
  simp only[Bool.not_eq_false',beq_iff_eq]at h;omega
 refine⟨fun xs css _ m' q=>∃k:Nat,k≤l.length∧xs=[.int .i64 k]∧(l.drop k=r.drop k↔l=r)∧m.le m'∧q=l.length - k,⟨_,0,by omega,rfl,Iff.rfl,Mem.le_refl _,rfl⟩,?_⟩
 rintro z m1 q bJ ⟨k,hk,hz,he,_,hq⟩
 obtain rfl:z=k:=by simpa using hz
 subst hq
 refine Zab (fun bS=>?_) (fun cX=>?_)
 ·have bR:k < l.length:=by have:=of_decide_eq_true bS;omega
  obtain⟨x,hx⟩:=ZaF bR
  obtain⟨y,hy⟩:=ZaF (l:=r) (k:=k) (by omega)
  obtain⟨b1,o1,h1,h1'⟩:=Zd9 (hl.mono bJ) hx
  obtain⟨b2,o2,h2,h2'⟩:=Zd9 (hr.mono bJ) hy
  rw[Zsp hx hy]at he
  refine⟨b1,o1,h1,⟨by omega,by omega⟩,_,(by rw[Int.toNat_natCast];exact h1'),b2,o2,h2,⟨by omega,by omega⟩,_,(by rw[Int.toNat_natCast];exact h2'),Zaa rfl (Zab (fun h3=>Zac bJ ?_) (fun h3=>⟨_,by omega,k+1,bR,by rw[Zat (by omega) (by omega)];rfl,?_,bJ,rfl⟩))⟩
  ·have:¬x=y:=by simpa[intOf]using h3
   simp only[Ret];congr 1
   rw[eq_comm,decide_eq_false_iff_not,←he];exact fun h=>this h.1
  ·have:x=y:=by simpa[intOf]using h3
   rw[←he];simp[this]
 ·have:k=l.length:=by have:=of_decide_eq_false cX;omega
  subst this
  refine Zac bJ ?_
  simp only[Ret];congr 1
  rw[eq_comm,decide_eq_true_eq,←he,List.drop_length,bX,List.drop_length]
theorem Zx5(l r:List QS)(a b:Option Addr)(c d:Nat)(m:Mem)(hl:rowRd m a (ZbY l))(hr:rowRd m b (ZbY r))(hn:l.length≤1000000):CX Try.prog 71 #[.slice a l.length c,.slice b r.length d] m [] (Ret (.bool (decide (l=r)))):=by
 apply ZbM
 unfold Za0
 refine Zab (fun h=>Zac (Mem.le_refl _) ?_) (fun h=>?_)
 ·have:¬l=r:=fun e=>by subst e;simp at h
  simp[Ret,this]
 have bX:l.length=r.length:=by
  simp only[Bool.not_eq_false',beq_iff_eq]at h;omega
 refine⟨fun xs css _ m' q=>∃k:Nat,k≤l.length∧xs=[.int .i64 k]∧(l.drop k=r.drop k↔l=r)∧m.le m'∧q=l.length - k,⟨_,0,by omega,rfl,Iff.rfl,Mem.le_refl _,rfl⟩,?_⟩
 rintro z m1 q bJ ⟨k,hk,hz,he,_,hq⟩
 obtain rfl:z=k:=by simpa using hz
 subst hq
 refine Zab (fun bS=>?_) (fun cX=>?_)
 ·have bR:k < l.length:=by have:=of_decide_eq_true bS;omega
  obtain⟨x,hx⟩:=ZaF bR
  obtain⟨y,hy⟩:=ZaF (l:=r) (k:=k) (by omega)
  obtain⟨b1,o1,h1,h1'⟩:=ZlM (hl.mono bJ) hx
  obtain⟨b2,o2,h2,h2'⟩:=ZlM (hr.mono bJ) hy
  rw[Zsp hx hy]at he
  refine⟨b1,o1,h1,⟨by omega,by omega⟩,_,_,_,_,(by rw[Int.toNat_natCast];exact h1'),b2,o2,h2,⟨by omega,by omega⟩,_,_,_,_,(by rw[Int.toNat_natCast];exact h2'),_,Zq4 _ _ _ _ _ _ _ _,Zab (fun h3=>Zac bJ ?_) (fun h3=>⟨_,by omega,k+1,bR,by rw[Zat (by omega) (by omega)];rfl,?_,bJ,rfl⟩)⟩
  ·have:¬x=y:=fun e=>by subst e;simp at h3
   simp only[Ret];congr 1
   rw[eq_comm,decide_eq_false_iff_not,←he];exact fun h=>this h.1
  ·have:x=y:=by
    obtain⟨x0,x1,x2,x3⟩:=x
    obtain⟨y0,y1,y2,y3⟩:=y
    simp at h3 ⊢
    exact⟨h3.1.1.1,h3.1.1.2,h3.1.2,h3.2⟩
   rw[←he];simp[this]
 ·have:k=l.length:=by have:=of_decide_eq_false cX;omega
  subst this
  refine Zac bJ ?_
  simp only[Ret];congr 1
  rw[eq_comm,decide_eq_true_eq,←he,List.drop_length,bX,List.drop_length]
theorem Zx6{st st':Bool}(l r:List (List Int))(v w:Value)(m:Mem)(hl:FolR st l v m)(hr:FolR st' r w m):CX Try.prog 72 #[v,w,.func (.func 23) #[] #[]] m [] (Ret (.bool (decide (l=r)))):=by
 obtain⟨a,c,vs,rfl,h1,h2,h3,h4⟩:=hl
 obtain⟨b,d,ws,rfl,k1,k2,k3,k4⟩:=hr
 apply Zbw a l.length c b r.length d _ [] []
 unfold ZaW
 refine Zab (fun h=>Zac (Mem.le_refl _) ?_) (fun h=>?_)
 ·have:¬l=r:=fun e=>by subst e;simp at h
  simp[Ret,this]
 have bX:l.length=r.length:=by
  simp only[Bool.not_eq_false',beq_iff_eq]at h;omega
 refine⟨fun xs css _ m' q=>∃k:Nat,k≤l.length∧xs=[.int .i64 k]∧(l.drop k=r.drop k↔l=r)∧m.le m'∧q=l.length - k,⟨_,0,by omega,rfl,Iff.rfl,Mem.le_refl _,rfl⟩,?_⟩
 rintro z m1 q bJ ⟨k,hk,hz,he,_,hq⟩
 obtain rfl:z=k:=by simpa using hz
 subst hq
 refine Zab (fun bS=>?_) (fun cX=>?_)
 ·have bR:k < l.length:=by have:=of_decide_eq_true bS;omega
  obtain⟨x,hx⟩:=ZaF bR
  obtain⟨y,hy⟩:=ZaF (l:=r) (k:=k) (by omega)
  obtain⟨vx,pQ⟩:=ZaF (l:=vs) (k:=k) (by omega)
  obtain⟨wy,tU⟩:=ZaF (l:=ws) (k:=k) (by omega)
  obtain⟨xa,xc,rfl,iP,gq,iq⟩:=(h4 k vx x pQ hx).mono bJ
  obtain⟨ya,yc,rfl,kM,eQ,jn⟩:=(k4 k wy y tU hy).mono bJ
  obtain⟨b1,o1,e1,e1'⟩:=Zgi (h1.mono bJ) pQ
  obtain⟨b2,o2,e2,e2'⟩:=Zgi (k1.mono bJ) tU
  rw[Zsp hx hy]at he
  refine⟨b1,o1,e1,⟨by omega,by omega⟩,_,(by rw[Int.toNat_natCast];exact e1'),b2,o2,e2,⟨by omega,by omega⟩,_,(by rw[Int.toNat_natCast];exact e2'),?_⟩
  refine Zak (Zp0 x y xa ya xc yc m1 iP kM gq) fun m2 bT=>Zab (fun h3=>Zac (Mem.le_trans bJ bT) ?_) (fun h3=>⟨_,by omega,k+1,bR,by rw[Zat (by omega) (by omega)];rfl,?_,Mem.le_trans bJ bT,rfl⟩)
  ·have:¬x=y:=by simpa using h3
   simp only[Ret];congr 1
   rw[eq_comm,decide_eq_false_iff_not,←he];exact fun h=>this h.1
  ·have:x=y:=by simpa using h3
   rw[←he];simp[this]
 ·have:k=l.length:=by have:=of_decide_eq_false cX;omega
  subst this
  refine Zac bJ ?_
  simp only[Ret];congr 1
  rw[eq_comm,decide_eq_true_eq,←he,List.drop_length,bX,List.drop_length]
theorem Zn1{st st':Bool}(A B:Nf)(v w:Value)(m:Mem)(h:NfR st A v m)(k:NfR st' B w m):CX Try.prog 22 #[v,w] m [] (Ret (.bool (decide (A=B)))):=by
 obtain⟨s,f,x,y,rfl,⟨sa,sc,rfl,hs,fB,jm⟩,hf,⟨xa,xc,rfl,hx,gq,iq⟩,⟨ya,yc,rfl,hy,eQ,jn⟩⟩:=h
 obtain⟨s',f',x',y',rfl,⟨sa',sc',rfl,hs',vN,vO⟩,hf',⟨xa',xc',rfl,hx',vP,vQ⟩,⟨ya',yc',rfl,hy',vR,vS⟩⟩:=k
 obtain⟨fa,fc,vs,rfl,kF⟩:=id hf
 obtain⟨fa',fc',vs',rfl,vT⟩:=id hf'
 apply ZpX
 unfold Zk4
 intro b m1 bJ _ b1 m2 bT _
 have ik:=Mem.le_trans bJ bT
 obtain⟨As,Af,A1,A2,Ae⟩:=A
 obtain⟨Bs,Bf,B1,B2,Be⟩:=B
 refine⟨decide ((⟨As,Af,A1,A2,Ae⟩:Nf)=⟨Bs,Bf,B1,B2,Be⟩),?_,Zac ik rfl⟩
 refine Zak (Zx5 As Bs _ _ _ _ m2 (hs.mono ik) (hs'.mono ik) fB) fun m3 cH=>?_
 have lf:=Mem.le_trans ik cH
 refine Zab (fun e1=>?_) (fun e1=>⟨by trivial,by simp[show ¬As=Bs by simpa using e1]⟩)
 refine Zak (Zx6 Af Bf _ _ m3 (hf.mono lf) (hf'.mono lf)) fun m4 cQ=>?_
 have lN:=Mem.le_trans lf cQ
 refine Zab (fun e2=>?_) (fun e2=>⟨by trivial,by simp[show ¬Af=Bf by simpa using e2]⟩)
 refine Zak (Zp0 A1 B1 _ _ _ _ m4 (hx.mono lN) (hx'.mono lN) gq) fun m5 cW=>?_
 have lO:=Mem.le_trans lN cW
 refine Zab (fun e3=>?_) (fun e3=>⟨by trivial,by simp[show ¬A1=B1 by simpa using e3]⟩)
 refine Zak (Zp0 A2 B2 _ _ _ _ m5 (hy.mono lO) (hy'.mono lO) eQ) fun m6 eV=>?_
 refine Zab (fun e4=>⟨by trivial,?_⟩) (fun e4=>⟨by trivial,by simp[show ¬A2=B2 by simpa using e4]⟩)
 refine congrArg (fun z=>[Value.bool z]) ?_
 rw[Bool.eq_iff_iff]
 simp[of_decide_eq_true e1,of_decide_eq_true e2,of_decide_eq_true e3,of_decide_eq_true e4]
theorem ZjE{m:Mem}{a:Option Addr}{xs:List Value}(h:rowRd m a xs)(ha:a.isNone=true):xs=[]:=by
 rcases h with h|⟨b,o,h1,_⟩
 ·exact h
 ·rw[h1]at ha;simp at ha
theorem Zrk{st:Bool}(l:List Int)(v:Value)(m:Mem)(h:SlI st l v m):CXT Try.prog 44 #[v] m 1 (fun v m' _=>SlI st l v m'):=by
 obtain⟨a,c,rfl,h1,h2,l4⟩:=h
 apply Zb0
 unfold Zbj
 refine Zab (fun hn=>?_) (fun hn=>⟨⟨rfl,Int.le_refl _,by decide,by decide⟩,fun b hb=>⟨.inl rfl,[],ZaA l,rfl,by rw[Zcr];omega,.inl rfl,h1,fun u hu=>?_,by omega,by omega,fun a' c' m' hm' hr _=>⟨rfl,a',c',by rw[Nat.zero_add],hr,h2,fun e1 e2=>?_⟩⟩⟩)
 ·have:=ZjE h1 hn
  obtain rfl:l=[]:=by simpa[ZaA]using this
  exact⟨rfl,none,0,rfl,.inl rfl,by simp,fun _ _=>rfl⟩
 ·obtain⟨i,_,rfl⟩:=List.mem_map.1 hu
  rfl
 ·rw[l4 e1 e2]at hn;simp at hn
theorem Zmb{st:Bool}(l:List Int)(v:Value)(m:Mem)(h:SlI st l v m):CX Try.prog 44 #[v] m [] (fun v m' _=>SlI st l v m'):=(Zrk l v m h).toCX
theorem ZtL(l:List QS)(v:Value)(m:Mem)(h:SlQ true l v m):CX Try.prog 77 #[v] m [] (fun v m' _=>SlQ true l v m'):=by
 obtain⟨a,c,rfl,h1,h2,l4⟩:=h
 apply ZbN
 unfold Za1
 refine Zab (fun hn=>?_) (fun hn=>fun b hb=>?_)
 ·have:=congrArg List.length (ZjE h1 hn)
  rw[ZiC]at this
  obtain rfl:l=[]:=List.eq_nil_of_length_eq_zero (by simp at this;omega)
  exact⟨_,Mem.le_refl _,Mem.le_refl _,none,0,rfl,.inl rfl,by simp,fun _ _=>rfl⟩
 ·have k8:l.length≠0:=fun e=>by
   rw[l4 rfl (List.eq_nil_of_length_eq_zero e)]at hn;simp at hn
  refine⟨.inr (by omega),[],ZbY l,rfl,by rw[ZiC],.inl rfl,h1.mono (Mem.le_add hb _),fun u hu=>?_,by omega,by omega,fun a' c' m' hm' hr=>⟨m',Mem.le_trans (Mem.le_add hb _) hm',Mem.le_refl _,a',c',by rw[Nat.zero_add],hr,h2,fun _ e=>by subst e;simp at k8⟩⟩
  obtain⟨q,_,hq⟩:=List.mem_flatMap.1 hu
  simp only[List.mem_cons,List.not_mem_nil,or_false]at hq
  rcases hq with rfl|rfl|rfl|rfl <;> rfl
theorem ZdG{st:Bool}{l:List Int}:∀(v:Value)(m':Mem) (css:List (List Value)),SlI st l v m'→Shape.fits .slice v=true:=by
 rintro v m' css ⟨a,c,rfl,_⟩;rfl
theorem ZvK{st:Bool}{l:List QS}:∀(v:Value)(m':Mem) (css:List (List Value)),SlQ st l v m'→Shape.fits .slice v=true:=by
 rintro v m' css ⟨a,c,rfl,_⟩;rfl
def FolG(m:Mem)(a:Option Addr)(fol:List (List Int)):Prop:=∃vs,rowRd m a vs∧vs.length=fol.length∧∀(i:Nat)(v:Value)(l:List Int),vs[i]?=some v→fol[i]?=some l→SlI true l v m
theorem FolG.mono{m m':Mem}{a:Option Addr}{fol:List (List Int)}(h:FolG m a fol)(k:m.le m'):FolG m' a fol:=by
 obtain⟨vs,h1,h2,h3⟩:=h
 exact⟨vs,h1.mono k,h2,fun i v l hv hl=>(h3 i v l hv hl).mono k⟩
theorem Zk7{m:Mem}{b:Nat}{v:Value}:rowRd (m.add b [v]) (some ⟨b,0,none⟩) [v]:=.inr ⟨b,0,rfl,fun j u hj=>by rw[Nat.zero_add,Mem.add_same];exact hj⟩
theorem Zp1{m m2 M:Mem}{a':Option Addr}{fol:List (List Int)}{l:List Int}{w:Value}{vs:List Value}(h2:vs.length=fol.length)(h3:∀(i:Nat)(v:Value)(l:List Int),vs[i]?=some v→fol[i]?=some l→SlI true l v m)(hm:m.le M)(hr:rowRd m2 a' (vs++[w]))(bT:m2.le M)(hw:SlI true l w M):FolG M a' (fol++[l]):=by
 refine⟨vs++[w],hr.mono bT,by simp[h2],fun i v l' hv hl'=>?_⟩
 rw[List.getElem?_append]at hv hl'
 split at hv
 ·rw[if_pos (by omega)]at hl'
  exact(h3 i v l' hv hl').mono hm
 ·rw[if_neg (by omega)]at hl'
  have e1:=List.getElem?_eq_some_iff.1 hv
  have e2:=List.getElem?_eq_some_iff.1 hl'
  obtain⟨_,e1⟩:=e1
  obtain⟨_,e2⟩:=e2
  rw[List.getElem_singleton]at e1 e2
  subst e1 e2;exact hw
theorem ZvL(A:Nf)(v:Value)(m:Mem)(h:NfR true A v m)(hN:A.fol.length≤1000):CX Try.prog 26 #[v] m [] (fun v m' _=>NfR true A v m'):=by
 obtain⟨s,f,x,y,rfl,⟨sa,sc,rfl,hs,fB,jm⟩,⟨fa,fc,vs,rfl,hf,im,jJ,iK⟩,⟨xa,xc,rfl,hx,gq,iq⟩,⟨ya,yc,rfl,hy,eQ,jn⟩⟩:=h
 apply ZpY
 unfold Zk5
 intro b0 m1 bJ _ b1
 refine⟨fun i _ _=>if i=2 then(fun v m' _=>SlQ true A.sets v m')else if i=5 then(fun v m' _=>SlI true A.first v m')else(fun v m' _=>SlI true A.last v m'),?_⟩
 refine⟨_,rfl,ZtL A.sets _ m1 ⟨sa,sc,rfl,hs.mono bJ,fB,jm⟩,ZvK,fun a2 n2 c2 m2 bT sd=>?_⟩
 refine⟨_,rfl,Zmb A.first _ m2 ⟨xa,xc,rfl,(hx.mono bJ).mono bT,gq,iq⟩,ZdG,fun a3 n3 c3 m3 cH se=>?_⟩
 refine⟨_,rfl,Zmb A.last _ m3 ⟨ya,yc,rfl,((hy.mono bJ).mono bT).mono cH,eQ,jn⟩,ZdG,fun a4 n4 c4 m4 cQ sf=>?_⟩
 intro b2 M _ dG gW eJ
 have mO:m.le M:=Mem.le_trans bJ (Mem.le_trans bT dG)
 have fZ:SlQ true A.sets (.slice a2 n2 c2) M:=(show SlQ true A.sets _ m2 from sd).mono dG
 have pW:SlI true A.first (.slice a3 n3 c3) M:=(show SlI true A.first _ m3 from se).mono gW
 have vU:SlI true A.last (.slice a4 n4 c4) M:=(show SlI true A.last _ m4 from sf).mono eJ
 refine⟨fun xs css tvs m' q=>∃(k:Nat)(a:Option Addr)(c:Nat),k≤A.fol.length∧xs=[.int .i64 k]∧css=[[.slice a2 n2 c2,.slice a k c,.slice a3 n3 c3,.slice a4 n4 c4,.bool A.empty]]∧tvs=[.slice a k c]∧M.le m'∧FolG m' a (A.fol.take k)∧q=A.fol.length - k,⟨_,0,none,0,Nat.zero_le _,rfl,rfl,rfl,Mem.le_refl _,⟨[],.inl rfl,rfl,fun i v l hv=>by simp at hv⟩,rfl⟩,?_⟩
 rintro z cs a n c m5 q cW ⟨k,a',c',hk,hz,cK,dE,_,hG,hq⟩
 obtain rfl:z=k:=by simpa using hz
 obtain rfl:cs=_:=by simpa using cK
 simp only[List.cons.injEq,Value.slice.injEq,and_true]at dE
 obtain⟨rfl,rfl,rfl⟩:=dE
 subst hq
 refine Zab (fun bS=>?_) (fun cX=>?_)
 ·have bR:n < A.fol.length:=by have:=of_decide_eq_true bS;omega
  obtain⟨l,hl⟩:=ZaF bR
  obtain⟨u,hu⟩:=ZaF (l:=vs) (k:=n) (by omega)
  have vV:=iK n u l hu hl
  obtain⟨fb,fo,jE,gI⟩:=Zgi (hf.mono (Mem.le_trans mO cW)) hu
  refine⟨fb,fo,jE,⟨by omega,by omega⟩,_,(by rw[Int.toNat_natCast];exact gI),fun _ _ _=>(fun v m' _=>SlI true l v m'),Zam (v:=.slice a n c) rfl ⟨_,rfl,Zmb l u m5 (vV.mono (Mem.le_trans mO cW)),ZdG,fun a6 n6 c6 m6 eV sg b4 si=>Zaa rfl ?_⟩⟩
  obtain⟨ws,eR,eZ,lH⟩:=hG
  have gp:(A.fol.take n).length=n:=by rw[List.length_take];omega
  have ku:=Mem.le_add si [Value.slice a6 n6 c6]
  refine⟨.inl rfl,ws,[.slice a6 n6 c6],by rw[eZ,gp];simp[slN],rfl,(eR.mono eV).mono ku,Zk7,by simp[Value.oneCell'],by show(n+1)*24≤_;omega,by show n+1≤_;omega,fun a7 c7 m7 jb vW=>Zaa rfl fun M2 oU sj vX sk=>⟨rfl,_,by omega,n+1,a7,c7,bR,by rw[Zat (by omega) (by omega)];rfl,rfl,rfl,Mem.le_trans cW oU,?_,rfl⟩⟩
  have e:A.fol.take (n+1)=A.fol.take n++[l]:=by rw[List.take_add_one,hl];rfl
  rw[e]
  exact Zp1 eZ lH oU vW sk ((show SlI true l _ m6 from sg).mono sj)
 ·have:n=A.fol.length:=by have:=of_decide_eq_false cX;omega
  subst this
  rw[List.take_length]at hG
  obtain⟨ws,eR,eZ,lH⟩:=hG
  refine Zaa rfl ⟨_,Mem.le_trans mO cW,Mem.le_refl _,_,_,_,_,rfl,fZ.mono cW,⟨a,c,ws,rfl,eR,eZ,by omega,lH⟩,pW.mono cW,vU.mono cW⟩
end Go.Proofs.Ytplacemlpkhmfaa

