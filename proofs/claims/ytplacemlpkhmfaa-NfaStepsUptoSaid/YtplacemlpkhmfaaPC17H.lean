/- Part of the proof: conditions and contracts of functions of this program. No condition of its own. -/
import Derived.Test.YtplacemlpkhmfaaPVNC
import Derived.Test.YtplacemlpkhmfaaPC17A
import Derived.Test.YtplacemlpkhmfaaPVB
import Derived.Test.YtplacemlpkhmfaaPC13Q
import Derived.Test.YtplacemlpkhmfaaMr
set_option linter.unusedVariables false
set_option linter.unusedSimpArgs false
namespace Go.Proofs.Ytplacemlpkhmfaa
open Go Go.Eng Go.Rx Go.Proofs Go.RowKit
set_option maxRecDepth 100000
theorem Zam{α:Type}{l:List α}{k:Nat}(h:k < l.length):∃x,l[k]?=some x:=⟨l[k],by simp[h]⟩
theorem Zce{α:Type}{l:List α}{k:Nat}{x:α}(h:l[k]?=some x):l.drop k=x::l.drop (k+1):=by
 obtain⟨hk,he⟩:=List.getElem?_eq_some_iff.1 h
 rw[List.drop_eq_getElem_cons hk,he]
theorem ZhB(l:List Int)(lo hi:Int)(a:Option Addr)(c:Nat)(m:Mem)(h:rowRd m a (Zaq l))(hl:l.length≤1000000)(tg : -10≤lo∧lo≤10):CX Try.prog 70 #[.slice a l.length c,.int .i64 lo,.int .i64 hi] m [] (Ret (.bool (ZbD l (lo - 1) hi))):=by
 apply Zkd
 unfold Zgt
 refine⟨fun xs _ _ m' q=>∃(k:Nat)(z:Int),k≤l.length∧xs=[.int .i64 z,.int .i64 k]∧ZbD (l.drop k) z hi=ZbD l (lo - 1) hi∧m.le m'∧q=l.length - k,⟨_,0,lo - 1,Nat.zero_le _,by rw[Zau (by omega) (by omega)];rfl,rfl,Mem.le_refl _,rfl⟩,?_⟩
 rintro z' k' m1 q bD ⟨k,z,hk,hx,he,_,hq⟩
 simp only[List.cons.injEq,Value.int.injEq,true_and,and_true]at hx
 obtain⟨rfl,rfl⟩:=hx
 subst hq
 refine Zab (fun bV=>?_) (fun cK=>?_)
 ·have bF:k < l.length:=by have:=of_decide_eq_true bV;omega
  obtain⟨x,hx⟩:=Zam bF
  obtain⟨b,o,gp,cO⟩:=Zba (h.mono bD) hx
  rw[Zce hx,ZbD]at he
  refine⟨b,o,gp,⟨by omega,by omega⟩,_,(by rw[Int.toNat_natCast];exact cO),!(decide (z' < x)&&decide (x≤hi)),Zaa rfl (Zab (fun h1=>?_) (fun h1=>Zaa rfl ?_)),Zab (fun h2=>Zad bD ?_) (fun h2=>Zaa rfl ⟨_,by omega,k+1,x,bF,by rw[Zau (by omega) (by omega)];rfl,?_,bD,rfl⟩)⟩
  ·have:¬z' < x:=by have:=of_decide_eq_true h1;simp only[intOf]at this;omega
   simp[this]
  ·have h1':z' < x:=by have:=of_decide_eq_false h1;simp only[intOf]at this;omega
   simp only[h1',decide_true,Bool.true_and,intOf]
   refine congrArg (fun z=>[Value.bool z]) ?_
   rw[Bool.eq_iff_iff];simp
  ·simp only[Bool.not_eq_true']at h2
   rw[←he]
   show Value.bool false=_
   congr 1
   rw[←Bool.and_assoc,h2,Bool.false_and]
  ·simp only[Bool.not_eq_false']at h2
   rw[←he,←Bool.and_assoc,h2,Bool.true_and]
 ·have:k=l.length:=by have:=of_decide_eq_false cK;omega
  subst this
  rw[List.drop_length,ZbD]at he
  refine Zad bD ?_
  rw[←he]
theorem ZpX{α:Type}{l:List α}{p:α→Bool}{k:Nat}{x:α}(h:l[k]?=some x):(l.drop k).all p=(p x&&(l.drop (k+1)).all p):=by
 rw[Zce h,List.all_cons]
theorem Zkf{st:Bool}(A:Nf)(v:Value)(m:Mem)(h:NfR st A v m):CX Try.prog 21 #[v] m [] (Ret (.bool A.right)):=by
 obtain⟨s,f,x,y,rfl,⟨sa,sc,rfl,hs,dL,iw⟩,⟨fa,fc,vs,rfl,hf,f8,gN,fT⟩,⟨xa,xc,rfl,hx,dY,gq⟩,⟨ya,yc,rfl,hy,dD,gC⟩⟩:=h
 apply ZlV
 unfold Zhu
 intro b m1 bD _
 have hw:IntKind.i64.wrap ((A.sets.length:Int) - 1)=A.top:=Zau (by omega) (by omega)
 simp only[hw]
 refine⟨!(decide (A.sets.length≤400)&&(decide (A.fol.length=A.sets.length)&&(ZbD A.first (-1) A.top&&ZbD A.last (-1) A.top))),?_,?_⟩
 ·refine Zab (fun h1=>⟨by trivial,?_⟩) (fun h1=>Zab (fun h2=>⟨by trivial,?_⟩) (fun h2=>?_))
  ·have:¬A.sets.length≤400:=by have:=of_decide_eq_true h1;omega
   simp[this]
  ·have:¬A.fol.length=A.sets.length:=by
    simp only[Bool.not_eq_true',beq_eq_false_iff_ne,ne_eq]at h2;omega
   simp[this]
  ·have h1':A.sets.length≤400:=by have:=of_decide_eq_false h1;omega
   have h2':A.fol.length=A.sets.length:=by
    simp only[Bool.not_eq_false',beq_iff_eq]at h2;omega
   refine Zah (ZhB A.first 0 A.top xa xc m1 (hx.mono bD) dY ⟨by omega,by omega⟩) fun m2 bZ=>Zab (fun h3=>⟨by trivial,?_⟩) (fun h3=>?_)
   ·have:ZbD A.first (-1) A.top=false:=by simpa using h3
    simp[this]
   ·have h3':ZbD A.first (-1) A.top=true:=by simpa using h3
    refine Zah (ZhB A.last 0 A.top ya yc m2 ((hy.mono bD).mono bZ) dD ⟨by omega,by omega⟩) fun m3 cD=>⟨by trivial,?_⟩
    simp[h1',h2',h3']
 ·refine Zab (fun h1=>Zad bD ?_) (fun h1=>?_)
  ·simp only[Bool.not_eq_true']at h1
   show Value.bool false=.bool A.right
   congr 1
   unfold Nf.right
   revert h1
   cases decide (A.sets.length≤400) <;> cases decide (A.fol.length=A.sets.length) <;> cases ZbD A.first (-1) A.top <;> cases ZbD A.last (-1) A.top <;> simp
  ·simp only[Bool.not_eq_false',Bool.and_eq_true,decide_eq_true_eq]at h1
   obtain⟨rH,oD,rI,rJ⟩:=h1
   have hA:A.right=(A.fol.zip A.sets).all fun p=>ZbD p.1 (-1) A.top&&!(p.2 == zQ):=by
    unfold Nf.right;simp[rH,oD,rI,rJ]
   have hP:(A.fol.zip A.sets).length=A.fol.length:=by simp[oD]
   refine⟨fun xs _ _ m' q=>∃k:Nat,k≤A.fol.length∧xs=[.int .i64 k]∧((A.fol.zip A.sets).drop k).all (fun p=>ZbD p.1 (-1) A.top&&!(p.2 == zQ))=A.right∧m.le m'∧q=A.fol.length - k,⟨_,0,Nat.zero_le _,rfl,by rw[hA];rfl,bD,rfl⟩,?_⟩
   rintro z m2 q bZ ⟨k,hk,hz,he,_,hq⟩
   obtain rfl:z=k:=by simpa using hz
   subst hq
   have gi:=Mem.le_trans bD bZ
   refine Zab (fun bV=>?_) (fun cK=>?_)
   ·have bF:k < A.fol.length:=by have:=of_decide_eq_true bV;omega
    obtain⟨l,hl⟩:=Zam bF
    obtain⟨q4,kH⟩:=Zam (l:=A.sets) (k:=k) (by omega)
    obtain⟨u,hu⟩:=Zam (l:=vs) (k:=k) (by omega)
    obtain⟨la,lc,rfl,pW,dM,tF⟩:=(fT k u l hu hl).mono gi
    obtain⟨fb,fo,gz,dU⟩:=ZbO (hf.mono gi) hu
    have mu:(A.fol.zip A.sets)[k]?=some (l,q4):=List.getElem?_zip_eq_some.2 ⟨hl,kH⟩
    rw[ZpX mu]at he
    refine⟨fb,fo,gz,⟨by omega,by omega⟩,_,(by rw[Int.toNat_natCast];exact dU),!(ZbD l (-1) A.top&&!(q4 == zQ)),?_,Zab (fun h2=>Zad gi ?_) (fun h2=>⟨by trivial,_,by omega,k+1,bF,by rw[Zau (by omega) (by omega)];rfl,?_,gi,rfl⟩)⟩
    ·refine Zah (ZhB l 0 A.top la lc m2 pW dM ⟨by omega,by omega⟩) fun m3 cD=>Zab (fun h3=>⟨by trivial,?_⟩) (fun h3=>?_)
     ·have:ZbD l (-1) A.top=false:=by simpa using h3
      simp[this]
     ·have h3':ZbD l (-1) A.top=true:=by simpa using h3
      obtain⟨sb,so,iD,eD⟩:=Zgm (hs.mono gi) kH
      refine⟨sb,so,iD,⟨by omega,by omega⟩,_,_,_,_,(by rw[Int.toNat_natCast];exact eD.mono cD),_,ZoY _ _ _ _ _ _ _ _,by trivial,?_⟩
      simp only[h3',Bool.true_and,Bool.not_not]
      refine congrArg (fun z=>[Value.bool z]) ?_
      obtain⟨q0,q1,q2,q3⟩:=q4
      show _=((q0,q1,q2,q3) == ((0,0,0,0):QS))
      rw[Bool.eq_iff_iff]
      simp[and_assoc]
    ·simp only[Bool.not_eq_true']at h2
     rw[←he,h2];rfl
    ·simp only[Bool.not_eq_false']at h2
     rw[←he,h2,Bool.true_and]
   ·have:k=A.fol.length:=by have:=of_decide_eq_false cK;omega
    subst this
    refine Zad gi ?_
    rw[←he,←hP,List.drop_length];rfl
theorem ZnO{α:Type}{l r:List α}{k:Nat}{x y:α}(hx:l[k]?=some x)(hy:r[k]?=some y):l.drop k=r.drop k↔(x=y∧l.drop (k+1)=r.drop (k+1)):=by
 rw[Zce hx,Zce hy,List.cons.injEq]
theorem ZiB(l r:List Int)(a b:Option Addr)(c d:Nat)(m:Mem)(hl:rowRd m a (Zaq l))(hr:rowRd m b (Zaq r))(hn:l.length≤1000000):CX Try.prog 23 #[.slice a l.length c,.slice b r.length d] m [] (Ret (.bool (decide (l=r)))):=by
 apply Zc1
 unfold ZbP
 refine Zab (fun h=>Zad (Mem.le_refl _) ?_) (fun h=>?_)
 ·have:¬l=r:=fun e=>by subst e;simp at h
  simp[Ret,this]
 have bY:l.length=r.length:=by
  simp only[Bool.not_eq_false',beq_iff_eq]at h;omega
 refine⟨fun xs css _ m' q=>∃k:Nat,k≤l.length∧xs=[.int .i64 k]∧(l.drop k=r.drop k↔l=r)∧m.le m'∧q=l.length - k,⟨_,0,by omega,rfl,Iff.rfl,Mem.le_refl _,rfl⟩,?_⟩
 rintro z m1 q bD ⟨k,hk,hz,he,_,hq⟩
 obtain rfl:z=k:=by simpa using hz
 subst hq
 refine Zab (fun bV=>?_) (fun cK=>?_)
 ·have bF:k < l.length:=by have:=of_decide_eq_true bV;omega
  obtain⟨x,hx⟩:=Zam bF
  obtain⟨y,hy⟩:=Zam (l:=r) (k:=k) (by omega)
  obtain⟨b1,o1,h1,h1'⟩:=Zba (hl.mono bD) hx
  obtain⟨b2,o2,h2,h2'⟩:=Zba (hr.mono bD) hy
  rw[ZnO hx hy]at he
  refine⟨b1,o1,h1,⟨by omega,by omega⟩,_,(by rw[Int.toNat_natCast];exact h1'),b2,o2,h2,⟨by omega,by omega⟩,_,(by rw[Int.toNat_natCast];exact h2'),Zaa rfl (Zab (fun h3=>Zad bD ?_) (fun h3=>⟨_,by omega,k+1,bF,by rw[Zau (by omega) (by omega)];rfl,?_,bD,rfl⟩))⟩
  ·have:¬x=y:=by simpa[intOf]using h3
   simp only[Ret];congr 1
   rw[eq_comm,decide_eq_false_iff_not,←he];exact fun h=>this h.1
  ·have:x=y:=by simpa[intOf]using h3
   rw[←he];simp[this]
 ·have:k=l.length:=by have:=of_decide_eq_false cK;omega
  subst this
  refine Zad bD ?_
  simp only[Ret];congr 1
  rw[eq_comm,decide_eq_true_eq,←he,List.drop_length,bY,List.drop_length]
theorem Zu5(l r:List QS)(a b:Option Addr)(c d:Nat)(m:Mem)(hl:rowRd m a (Zby l))(hr:rowRd m b (Zby r))(hn:l.length≤1000000):CX Try.prog 71 #[.slice a l.length c,.slice b r.length d] m [] (Ret (.bool (decide (l=r)))):=by
 apply ZbA
 unfold ZaV
 refine Zab (fun h=>Zad (Mem.le_refl _) ?_) (fun h=>?_)
 ·have:¬l=r:=fun e=>by subst e;simp at h
  simp[Ret,this]
 have bY:l.length=r.length:=by
  simp only[Bool.not_eq_false',beq_iff_eq]at h;omega
 refine⟨fun xs css _ m' q=>∃k:Nat,k≤l.length∧xs=[.int .i64 k]∧(l.drop k=r.drop k↔l=r)∧m.le m'∧q=l.length - k,⟨_,0,by omega,rfl,Iff.rfl,Mem.le_refl _,rfl⟩,?_⟩
 rintro z m1 q bD ⟨k,hk,hz,he,_,hq⟩
 obtain rfl:z=k:=by simpa using hz
 subst hq
 refine Zab (fun bV=>?_) (fun cK=>?_)
 ·have bF:k < l.length:=by have:=of_decide_eq_true bV;omega
  obtain⟨x,hx⟩:=Zam bF
  obtain⟨y,hy⟩:=Zam (l:=r) (k:=k) (by omega)
  obtain⟨b1,o1,h1,h1'⟩:=Zgm (hl.mono bD) hx
  obtain⟨b2,o2,h2,h2'⟩:=Zgm (hr.mono bD) hy
  rw[ZnO hx hy]at he
  refine⟨b1,o1,h1,⟨by omega,by omega⟩,_,_,_,_,(by rw[Int.toNat_natCast];exact h1'),b2,o2,h2,⟨by omega,by omega⟩,_,_,_,_,(by rw[Int.toNat_natCast];exact h2'),_,ZoY _ _ _ _ _ _ _ _,Zab (fun h3=>Zad bD ?_) (fun h3=>⟨_,by omega,k+1,bF,by rw[Zau (by omega) (by omega)];rfl,?_,bD,rfl⟩)⟩
  ·have:¬x=y:=fun e=>by subst e;simp at h3
   simp only[Ret];congr 1
   rw[eq_comm,decide_eq_false_iff_not,←he];exact fun h=>this h.1
  ·have:x=y:=by
    obtain⟨x0,x1,x2,x3⟩:=x
    obtain⟨y0,y1,y2,y3⟩:=y
    simp at h3 ⊢
    exact⟨h3.1.1.1,h3.1.1.2,h3.1.2,h3.2⟩
   rw[←he];simp[this]
 ·have:k=l.length:=by have:=of_decide_eq_false cK;omega
  subst this
  refine Zad bD ?_
  simp only[Ret];congr 1
  rw[eq_comm,decide_eq_true_eq,←he,List.drop_length,bY,List.drop_length]
theorem Zt6{st st':Bool}(l r:List (List Int))(v w:Value)(m:Mem)(hl:FolR st l v m)(hr:FolR st' r w m):CX Try.prog 72 #[v,w,.func (.func 23) #[] #[]] m [] (Ret (.bool (decide (l=r)))):=by
 obtain⟨a,c,vs,rfl,h1,h2,h3,h4⟩:=hl
 obtain⟨b,d,ws,rfl,k1,k2,k3,k4⟩:=hr
 apply Zbk a l.length c b r.length d _ [] []
 unfold ZaR
 refine Zab (fun h=>Zad (Mem.le_refl _) ?_) (fun h=>?_)
 ·have:¬l=r:=fun e=>by subst e;simp at h
  simp[Ret,this]
 have bY:l.length=r.length:=by
  simp only[Bool.not_eq_false',beq_iff_eq]at h;omega
 refine⟨fun xs css _ m' q=>∃k:Nat,k≤l.length∧xs=[.int .i64 k]∧(l.drop k=r.drop k↔l=r)∧m.le m'∧q=l.length - k,⟨_,0,by omega,rfl,Iff.rfl,Mem.le_refl _,rfl⟩,?_⟩
 rintro z m1 q bD ⟨k,hk,hz,he,_,hq⟩
 obtain rfl:z=k:=by simpa using hz
 subst hq
 refine Zab (fun bV=>?_) (fun cK=>?_)
 ·have bF:k < l.length:=by have:=of_decide_eq_true bV;omega
  obtain⟨x,hx⟩:=Zam bF
  obtain⟨y,hy⟩:=Zam (l:=r) (k:=k) (by omega)
  obtain⟨vx,pK⟩:=Zam (l:=vs) (k:=k) (by omega)
  obtain⟨wy,tG⟩:=Zam (l:=ws) (k:=k) (by omega)
  obtain⟨xa,xc,rfl,iL,dY,gq⟩:=(h4 k vx x pK hx).mono bD
  obtain⟨ya,yc,rfl,kE,dD,gC⟩:=(k4 k wy y tG hy).mono bD
  obtain⟨b1,o1,e1,e1'⟩:=ZbO (h1.mono bD) pK
  obtain⟨b2,o2,e2,e2'⟩:=ZbO (k1.mono bD) tG
  rw[ZnO hx hy]at he
  refine⟨b1,o1,e1,⟨by omega,by omega⟩,_,(by rw[Int.toNat_natCast];exact e1'),b2,o2,e2,⟨by omega,by omega⟩,_,(by rw[Int.toNat_natCast];exact e2'),?_⟩
  refine Zah (ZiB x y xa ya xc yc m1 iL kE dY) fun m2 bZ=>Zab (fun h3=>Zad (Mem.le_trans bD bZ) ?_) (fun h3=>⟨_,by omega,k+1,bF,by rw[Zau (by omega) (by omega)];rfl,?_,Mem.le_trans bD bZ,rfl⟩)
  ·have:¬x=y:=by simpa using h3
   simp only[Ret];congr 1
   rw[eq_comm,decide_eq_false_iff_not,←he];exact fun h=>this h.1
  ·have:x=y:=by simpa using h3
   rw[←he];simp[this]
 ·have:k=l.length:=by have:=of_decide_eq_false cK;omega
  subst this
  refine Zad bD ?_
  simp only[Ret];congr 1
  rw[eq_comm,decide_eq_true_eq,←he,List.drop_length,bY,List.drop_length]
theorem Zkg{st st':Bool}(A B:Nf)(v w:Value)(m:Mem)(h:NfR st A v m)(k:NfR st' B w m):CX Try.prog 22 #[v,w] m [] (Ret (.bool (decide (A=B)))):=by
 obtain⟨s,f,x,y,rfl,⟨sa,sc,rfl,hs,dL,iw⟩,hf,⟨xa,xc,rfl,hx,dY,gq⟩,⟨ya,yc,rfl,hy,dD,gC⟩⟩:=h
 obtain⟨s',f',x',y',rfl,⟨sa',sc',rfl,hs',oE,rK⟩,hf',⟨xa',xc',rfl,hx',oF,oG⟩,⟨ya',yc',rfl,hy',oH,oI⟩⟩:=k
 obtain⟨fa,fc,vs,rfl,kS⟩:=id hf
 obtain⟨fa',fc',vs',rfl,rL⟩:=id hf'
 apply ZnJ
 unfold Zjo
 intro b m1 bD _ b1 m2 bZ _
 have dN:=Mem.le_trans bD bZ
 obtain⟨As,Af,A1,A2,Ae⟩:=A
 obtain⟨Bs,Bf,B1,B2,Be⟩:=B
 refine⟨decide ((⟨As,Af,A1,A2,Ae⟩:Nf)=⟨Bs,Bf,B1,B2,Be⟩),?_,Zad dN rfl⟩
 refine Zah (Zu5 As Bs _ _ _ _ m2 (hs.mono dN) (hs'.mono dN) dL) fun m3 cD=>?_
 have iE:=Mem.le_trans dN cD
 refine Zab (fun e1=>?_) (fun e1=>⟨by trivial,by simp[show ¬As=Bs by simpa using e1]⟩)
 refine Zah (Zt6 Af Bf _ _ m3 (hf.mono iE) (hf'.mono iE)) fun m4 dC=>?_
 have iF:=Mem.le_trans iE dC
 refine Zab (fun e2=>?_) (fun e2=>⟨by trivial,by simp[show ¬Af=Bf by simpa using e2]⟩)
 refine Zah (ZiB A1 B1 _ _ _ _ m4 (hx.mono iF) (hx'.mono iF) dY) fun m5 cX=>?_
 have iG:=Mem.le_trans iF cX
 refine Zab (fun e3=>?_) (fun e3=>⟨by trivial,by simp[show ¬A1=B1 by simpa using e3]⟩)
 refine Zah (ZiB A2 B2 _ _ _ _ m5 (hy.mono iG) (hy'.mono iG) dD) fun m6 fQ=>?_
 refine Zab (fun e4=>⟨by trivial,?_⟩) (fun e4=>⟨by trivial,by simp[show ¬A2=B2 by simpa using e4]⟩)
 refine congrArg (fun z=>[Value.bool z]) ?_
 rw[Bool.eq_iff_iff]
 simp[of_decide_eq_true e1,of_decide_eq_true e2,of_decide_eq_true e3,of_decide_eq_true e4]
theorem Zlh{m:Mem}{a:Option Addr}{xs:List Value}(h:rowRd m a xs)(ha:a.isNone=true):xs=[]:=by
 rcases h with h|⟨b,o,h1,_⟩
 ·exact h
 ·rw[h1]at ha;simp at ha
def At0(v:Value):Prop:=∀b o,slA v=some ⟨b,o,none⟩→o=0
theorem ZpY{m:Mem}{b:Nat}{a':Option Addr}{n c:Nat}{v:Value}(h:TokFact m (some ⟨b,0,none⟩) a' n c)(hv:slA v=a'):At0 v:=fun b' o e=>by
 rcases h.2 with h|⟨b2,o2,h1,h2⟩
 ·rw[hv,h]at e;cases e
 ·rw[hv]at e
  rcases h2 with h2|h2
  ·rw[←h2]at e;cases e;rfl
  ·rw[h1]at e;cases e;exact h2.1
theorem Zr2:At0 (.slice none 0 0):=fun b o e=>by simp[slA]at e
theorem Zh5{st:Bool}(l:List Int)(v:Value)(m:Mem)(h:SlI st l v m):CXT Try.prog 44 #[v] m 1 (fun v m' _=>SlI st l v m'∧At0 v):=by
 obtain⟨a,c,rfl,h1,h2,lQ⟩:=h
 apply ZcN
 unfold ZbQ
 refine Zab (fun hn=>?_) (fun hn=>⟨⟨rfl,Int.le_refl _,by decide,by decide⟩,fun b hb=>⟨.inl rfl,[],Zaq l,rfl,by rw[ZcZ];omega,.inl rfl,h1,fun u hu=>?_,by omega,by omega,fun a' c' m' hm' hr gz=>⟨rfl,⟨a',c',by rw[Nat.zero_add],hr,h2,fun e1 e2=>?_⟩,ZpY gz rfl⟩⟩⟩)
 ·have:=Zlh h1 hn
  obtain rfl:l=[]:=by simpa[Zaq]using this
  exact⟨rfl,⟨none,0,rfl,.inl rfl,by simp,fun _ _=>rfl⟩,Zr2⟩
 ·obtain⟨i,_,rfl⟩:=List.mem_map.1 hu
  rfl
 ·rw[lQ e1 e2]at hn;simp at hn
theorem ZhC{st:Bool}(l:List Int)(v:Value)(m:Mem)(h:SlI st l v m):CX Try.prog 44 #[v] m [] (fun v m' _=>SlI st l v m'):=(Zh5 l v m h).toCX.mono fun _ _ _ _ h=>h.1
theorem Zli{st:Bool}(l:List QS)(v:Value)(m:Mem)(h:SlQ st l v m):CXT Try.prog 77 #[v] m 4 (fun v m' _=>SlQ st l v m'∧At0 v):=by
 obtain⟨a,c,rfl,h1,h2,lQ⟩:=h
 apply Zbu
 unfold ZaW
 refine Zab (fun hn=>?_) (fun hn=>⟨⟨rfl,Int.le_refl _,by decide,by decide⟩,fun b hb=>⟨.inl rfl,[],Zby l,rfl,by rw[Zdy],.inl rfl,h1,fun u hu=>?_,by omega,by omega,fun a' c' m' hm' hr gz=>⟨rfl,⟨a',c',by rw[Nat.zero_add],hr,h2,fun e1 e2=>?_⟩,ZpY gz rfl⟩⟩⟩)
 ·have:=congrArg List.length (Zlh h1 hn)
  rw[Zdy]at this
  obtain rfl:l=[]:=List.eq_nil_of_length_eq_zero (by simp at this;omega)
  exact⟨rfl,⟨none,0,rfl,.inl rfl,by simp,fun _ _=>rfl⟩,Zr2⟩
 ·obtain⟨q,_,hq⟩:=List.mem_flatMap.1 hu
  simp only[List.mem_cons,List.not_mem_nil,or_false]at hq
  rcases hq with rfl|rfl|rfl|rfl <;> rfl
 ·rw[lQ e1 e2]at hn;simp at hn
def FreshI(m:Mem)(l:List Int)(v:Value)(m':Mem):Prop:=SlI true l v m'∧∃a c,v=.slice a l.length c∧((a=none∧c=0)∨∃b,a=some ⟨b,0,none⟩∧l.length≤c∧m.free b∧∀q,l.length≤q→q < c→∃u,m' b q=some u)
def Zrf(m:Mem)(l:List QS)(v:Value)(m':Mem):Prop:=SlQ true l v m'∧∀b o,slA v=some ⟨b,o,none⟩→m.free b
theorem FreshI.free{m m':Mem}{l:List Int}{v:Value}(h:FreshI m l v m'):∀b o,slA v=some ⟨b,o,none⟩→m.free b:=fun b o e=>by
 obtain⟨_,a,c,rfl,⟨rfl,_⟩|⟨b',rfl,_,hf,_⟩⟩:=h
 ·simp[slA]at e
 ·simp[slA]at e;exact e.1 ▸ hf
theorem Zh6(l:List Int)(v:Value)(m:Mem)(h:SlI true l v m):CX Try.prog 44 #[v] m [] (fun v m' _=>FreshI m l v m'):=(Zh5 l v m h).room.mono (by
 rintro v m' css cQ ⟨m1,h0,h1,⟨hS,hA⟩,cL⟩
 refine⟨hS.mono h1,?_⟩
 obtain⟨a,c,rfl,_⟩:=hS
 rcases cL with e|⟨b,o,n,c2,e,hH,hf,hq⟩
 ·simp only[Value.slice.injEq]at e
  exact⟨a,c,rfl,.inl ⟨e.1,e.2.2⟩⟩
 ·simp only[Value.slice.injEq]at e
  obtain⟨rfl,rfl,rfl⟩:=e
  obtain rfl:o=0:=hA b o rfl
  exact⟨_,c,rfl,.inr ⟨b,rfl,hH,hf,fun q g1 g2=>by have:=hq q (by omega) (by omega);rwa [Nat.zero_add]at this⟩⟩)
theorem Zo5(l:List QS)(v:Value)(m:Mem)(h:SlQ true l v m):CX Try.prog 77 #[v] m [] (fun v m' _=>Zrf m l v m'):=(Zli l v m h).room.mono (by
 rintro v m' css cQ ⟨m1,h0,h1,⟨hS,hA⟩,cL⟩
 refine⟨hS.mono h1,fun b' o' e'=>?_⟩
 rcases cL with e|⟨b,o,n,c2,e,hH,hf,hq⟩
 ·rw[e]at e';simp[slA]at e'
 ·rw[e]at e';simp[slA]at e';exact e'.1 ▸ hf)
theorem ZbB{st:Bool}{l:List Int}:∀(v:Value)(m':Mem) (css:List (List Value)),SlI st l v m'→Shape.fits .slice v=true:=by
 rintro v m' css ⟨a,c,rfl,_⟩;rfl
theorem ZpZ{st:Bool}{l:List QS}:∀(v:Value)(m':Mem) (css:List (List Value)),SlQ st l v m'→Shape.fits .slice v=true:=by
 rintro v m' css ⟨a,c,rfl,_⟩;rfl
def FolG(m:Mem)(a:Option Addr)(fol:List (List Int)):Prop:=∃vs,rowRd m a vs∧vs.length=fol.length∧∀(i:Nat)(v:Value)(l:List Int),vs[i]?=some v→fol[i]?=some l→SlI true l v m
theorem FolG.mono{m m':Mem}{a:Option Addr}{fol:List (List Int)}(h:FolG m a fol)(k:m.le m'):FolG m' a fol:=by
 obtain⟨vs,h1,h2,h3⟩:=h
 exact⟨vs,h1.mono k,h2,fun i v l hv hl=>(h3 i v l hv hl).mono k⟩
theorem Zfk{m:Mem}{b:Nat}{v:Value}:rowRd (m.add b [v]) (some ⟨b,0,none⟩) [v]:=.inr ⟨b,0,rfl,fun j u hj=>by rw[Nat.zero_add,Mem.add_same];exact hj⟩
theorem Zrg{m m2 M:Mem}{a':Option Addr}{fol:List (List Int)}{l:List Int}{w:Value}{vs:List Value}(h2:vs.length=fol.length)(h3:∀(i:Nat)(v:Value)(l:List Int),vs[i]?=some v→fol[i]?=some l→SlI true l v m)(hm:m.le M)(hr:rowRd m2 a' (vs++[w]))(bZ:m2.le M)(hw:SlI true l w M):FolG M a' (fol++[l]):=by
 refine⟨vs++[w],hr.mono bZ,by simp[h2],fun i v l' hv hl'=>?_⟩
 rw[List.getElem?_append]at hv hl'
 split at hv
 ·rw[if_pos (by omega)]at hl'
  exact(h3 i v l' hv hl').mono hm
 ·rw[if_neg (by omega)]at hl'
  have e1:=List.getElem?_eq_some_iff.1 hv
  have e2:=List.getElem?_eq_some_iff.1 hl'
  obtain⟨_,e1⟩:=e1
  obtain⟨_,e2⟩:=e2
  rw[List.getElem_singleton]at e1 e2
  subst e1 e2;exact hw
theorem Zez{m:Mem}{a:Option Addr}{xs:List Value}(h:rowRd m a xs)(hx:xs≠[]){b o:Nat}(ha:a=some ⟨b,o,none⟩):¬m.free b:=by
 rcases h with h|⟨b',o',h1,h2⟩
 ·exact absurd h hx
 ·rw[h1]at ha;cases ha
  intro hf
  match xs,hx with
  | x::xs,_=>
   have:=h2 0 x rfl
   rw[hf]at this;cases this
theorem ZfR{l:List Int}{v:Value}{m:Mem}(h:SlI true l v m){b o:Nat}(ha:slA v=some ⟨b,o,none⟩):¬m.free b:=by
 obtain⟨a,c,rfl,h1,h2,h3⟩:=h
 have hl:l≠[]:=fun e=>by have:=h3 rfl e;rw[show slA (.slice a l.length c)=a from rfl,this]at ha;cases ha
 exact Zez h1 (fun e=>hl (by simpa[Zaq]using e)) ha
theorem Zkh{l:List QS}{v:Value}{m:Mem}(h:SlQ true l v m){b o:Nat}(ha:slA v=some ⟨b,o,none⟩):¬m.free b:=by
 obtain⟨a,c,rfl,h1,h2,h3⟩:=h
 have hl:l≠[]:=fun e=>by have:=h3 rfl e;rw[show slA (.slice a l.length c)=a from rfl,this]at ha;cases ha
 exact Zez h1 (fun e=>hl (by
  have:=congrArg List.length e
  rw[Zdy]at this
  exact List.eq_nil_of_length_eq_zero (by simp at this;omega))) ha
theorem Zfl{m m':Mem}(h:m.le m'){b:Nat}(hf:m'.free b):m.free b:=fun o=>by
 cases he:m b o with
 | none=>rfl
 | some v=>have:=h _ _ _ he;rw[hf o]at this;cases this
structure CopyR (A:Nf)(m:Mem)(sa:Option Addr)(sc:Nat)(fa:Option Addr)(fc:Nat)(xa:Option Addr)(xc:Nat)(ya:Option Addr)(yc:Nat)(vs:List Value)(m':Mem):Prop where
 le:m.le m'
 sets:SlQ true A.sets (.slice sa A.sets.length sc) m'
 row:rowRd m' fa vs
 len:vs.length=A.fol.length
 fl:A.fol.length≤1000000
 fol:∀(i:Nat)(v:Value)(l:List Int),vs[i]?=some v→A.fol[i]?=some l→SlI true l v m'∧(∀b o,slA v=some ⟨b,o,none⟩→m.free b∧(∀o',fa≠some ⟨b,o',none⟩)∧(∀o',sa≠some ⟨b,o',none⟩)∧(∀o',xa≠some ⟨b,o',none⟩)∧∀o',ya≠some ⟨b,o',none⟩)
 first:FreshI m A.first (.slice xa A.first.length xc) m'
 last:FreshI m A.last (.slice ya A.last.length yc) m'
 nf:A.fol=[]→fa=none
 fs:∀b o,sa=some ⟨b,o,none⟩→m.free b
 ff:∀b o,fa=some ⟨b,o,none⟩→m.free b
 sf:∀b o o',sa=some ⟨b,o,none⟩→fa≠some ⟨b,o',none⟩
 sx:∀b o o',sa=some ⟨b,o,none⟩→xa≠some ⟨b,o',none⟩
 sy:∀b o o',sa=some ⟨b,o,none⟩→ya≠some ⟨b,o',none⟩
 fx:∀b o o',fa=some ⟨b,o,none⟩→xa≠some ⟨b,o',none⟩
 fy:∀b o o',fa=some ⟨b,o,none⟩→ya≠some ⟨b,o',none⟩
 xy:∀b o o',xa=some ⟨b,o,none⟩→ya≠some ⟨b,o',none⟩
def CopyV(A:Nf)(m:Mem)(v:Value)(m':Mem):Prop:=∃sa sc fa fc xa xc ya yc vs,v=.agg #[.slice sa A.sets.length sc,.slice fa A.fol.length fc,.slice xa A.first.length xc,.slice ya A.last.length yc,.bool A.empty]∧CopyR A m sa sc fa fc xa xc ya yc vs m'
theorem CopyV.nf{A:Nf}{m m':Mem}{v:Value}(h:CopyV A m v m'):NfR true A v m':=by
 obtain⟨sa,sc,fa,fc,xa,xc,ya,yc,vs,rfl,h⟩:=h
 exact⟨_,_,_,_,rfl,h.sets,⟨fa,fc,vs,rfl,h.row,h.len,h.fl,fun i v l hv hl=>(h.fol i v l hv hl).1⟩,h.first.1,h.last.1⟩
theorem FreshI.mono{m m' M:Mem}{l:List Int}{v:Value}(h:FreshI m l v m')(k:m'.le M):FreshI m l v M:=by
 obtain⟨h1,a,c,e,h2⟩:=h
 exact⟨h1.mono k,a,c,e,h2.imp id fun⟨b,g1,g2,g3,g4⟩=>⟨b,g1,g2,g3,fun q q1 q2=>(g4 q q1 q2).imp fun u hu=>k _ _ _ hu⟩⟩
theorem FreshI.less{m m0 m':Mem}{l:List Int}{v:Value}(h:FreshI m l v m')(k:m0.le m):FreshI m0 l v m':=by
 obtain⟨h1,a,c,e,h2⟩:=h
 exact⟨h1,a,c,e,h2.imp id fun⟨b,g1,g2,g3,g4⟩=>⟨b,g1,g2,Zfl k g3,g4⟩⟩
theorem Zh7{m:Mem}{l:List Int}:∀(v:Value)(m':Mem) (css:List (List Value)),FreshI m l v m'→Shape.fits .slice v=true:=fun v m' css h=>ZbB v m' css h.1
theorem ZnP{m:Mem}{l:List QS}:∀(v:Value)(m':Mem) (css:List (List Value)),Zrf m l v m'→Shape.fits .slice v=true:=fun v m' css h=>ZpZ v m' css h.1
def ZvV(A:Nf)(M:Mem)(k:Nat)(a:Option Addr)(m':Mem):Prop:=∃vs,rowRd m' a vs∧vs.length=k∧(k=0→a=none)∧(∀b o,a=some ⟨b,o,none⟩→M.free b)∧
 ∀(i:Nat)(v:Value)(l:List Int),vs[i]?=some v→A.fol[i]?=some l→SlI true l v m'∧∀b o,slA v=some ⟨b,o,none⟩→M.free b∧∀o',a≠some ⟨b,o',none⟩
theorem ZsP(A:Nf)(v:Value)(m:Mem)(h:NfR true A v m)(hN:A.fol.length≤1000):CX Try.prog 26 #[v] m [] (fun v m' _=>CopyV A m v m'):=by
 obtain⟨s,f,x,y,rfl,⟨sa,sc,rfl,hs,dL,iw⟩,⟨fa,fc,vs,rfl,hf,f8,gN,fT⟩,⟨xa,xc,rfl,hx,dY,gq⟩,⟨ya,yc,rfl,hy,dD,gC⟩⟩:=h
 apply Zjp
 unfold Zgu
 intro b0 m1 bD _ _ _ b1
 refine⟨fun i _ m=>if i=2 then(fun v m' _=>Zrf m A.sets v m')else if i=5 then(fun v m' _=>FreshI m A.first v m')else(fun v m' _=>FreshI m A.last v m'),?_⟩
 refine⟨_,rfl,Zo5 A.sets _ m1 ⟨sa,sc,rfl,hs.mono bD,dL,iw⟩,ZnP,fun a2 n2 c2 m2 bZ jm=>?_⟩
 refine⟨_,rfl,Zh6 A.first _ m2 ⟨xa,xc,rfl,(hx.mono bD).mono bZ,dY,gq⟩,Zh7,fun a3 n3 c3 m3 cD iQ=>?_⟩
 refine⟨_,rfl,Zh6 A.last _ m3 ⟨ya,yc,rfl,((hy.mono bD).mono bZ).mono cD,dD,gC⟩,Zh7,fun a4 n4 c4 m4 dC iR=>?_⟩
 have jm:Zrf m1 A.sets (.slice a2 n2 c2) m2:=jm
 have iQ:FreshI m2 A.first (.slice a3 n3 c3) m3:=iQ
 have iR:FreshI m3 A.last (.slice a4 n4 c4) m4:=iR
 intro b2 M gj fZ jx j8
 have gO:m.le M:=Mem.le_trans bD gj
 have hU:m.le m2:=Mem.le_trans bD bZ
 have kT:m.le m3:=Mem.le_trans hU cD
 have en2:n2=A.sets.length:=by obtain⟨⟨_,_,e,_⟩,_⟩:=jm;simp at e;exact e.2.1
 have en3:n3=A.first.length:=by obtain⟨⟨_,_,e,_⟩,_⟩:=iQ;simp at e;exact e.2.1
 have en4:n4=A.last.length:=by obtain⟨⟨_,_,e,_⟩,_⟩:=iR;simp at e;exact e.2.1
 subst en2 en3 en4
 have ksM:∀b o,a2=some ⟨b,o,none⟩→¬M.free b:=fun b o e=>Zkh (jm.1.mono fZ) e
 have kxM:∀b o,a3=some ⟨b,o,none⟩→¬M.free b:=fun b o e=>ZfR (iQ.1.mono jx) e
 have kyM:∀b o,a4=some ⟨b,o,none⟩→¬M.free b:=fun b o e=>ZfR (iR.1.mono j8) e
 refine⟨fun xs css tvs m' q=>∃(k:Nat)(a:Option Addr)(c:Nat),k≤A.fol.length∧xs=[.int .i64 k]∧css=[[.slice a2 A.sets.length c2,.slice a k c,.slice a3 A.first.length c3,.slice a4 A.last.length c4,.bool A.empty]]∧tvs=[.slice a k c]∧M.le m'∧ZvV A M k a m'∧q=A.fol.length - k,
  ⟨_,0,none,0,by omega,rfl,rfl,rfl,Mem.le_refl _,⟨[],.inl rfl,rfl,fun _=>rfl,fun b o e=>(by cases e),fun i v l hv=>by simp at hv⟩,rfl⟩,?_⟩
 rintro z cs a n c m5 q _ ⟨k,a',c',hk,hz,cF,dB,cX,hG,hq⟩
 obtain rfl:z=k:=by simpa using hz
 obtain rfl:cs=_:=by simpa using cF
 simp only[List.cons.injEq,Value.slice.injEq,and_true]at dB
 obtain⟨rfl,rfl,rfl⟩:=dB
 subst hq
 refine Zab (fun bV=>?_) (fun cK=>?_)
 ·have bF:n < A.fol.length:=by have:=of_decide_eq_true bV;omega
  obtain⟨l,hl⟩:=Zam bF
  obtain⟨u,hu⟩:=Zam (l:=vs) (k:=n) (by omega)
  have rM:=fT n u l hu hl
  obtain⟨fb,fo,gz,dU⟩:=ZbO (hf.mono (Mem.le_trans gO cX)) hu
  refine⟨fb,fo,gz,⟨by omega,by omega⟩,_,(by rw[Int.toNat_natCast];exact dU),fun _ _ m=>(fun v m' _=>FreshI m l v m'),Zas (v:=.slice a n c) rfl ⟨_,rfl,Zh6 l u m5 (rM.mono (Mem.le_trans gO cX)),Zh7,fun a6 n6 c6 m6 fQ i9 b4 mw=>Zaa rfl ?_⟩⟩
  have i9:FreshI m5 l (.slice a6 n6 c6) m6:=i9
  obtain⟨ws,dT,dE,oJ,j9,iv⟩:=hG
  have fR:=Mem.le_add mw [Value.slice a6 n6 c6]
  refine⟨.inl rfl,ws,[.slice a6 n6 c6],by rw[dE];simp[slN],rfl,(dT.mono fQ).mono fR,Zfk,by simp[Value.oneCell'],by show(n+1)*24≤_;omega,by show n+1≤_;omega,fun a7 c7 m7 jy kU my=>Zaa rfl fun M2 jz lz pX kV=>⟨by trivial,A.fol.length - (n+1),by omega,n+1,a7,c7,by omega,?_,rfl,rfl,Mem.le_trans cX jz,?_,rfl⟩⟩
  ·rw[Zau (by omega) (by omega)];rfl
  ·have cZ:∀b o,a7=some ⟨b,o,none⟩→a=a7∨(m6.add b4 [Value.slice a6 n6 c6]).free b:=fun b o e=>by
    rcases my.2 with h|⟨b',o',h1,h2⟩
    ·rw[h]at e;cases e
    ·rw[h1]at e;cases e
     exact h2.imp id (·.2)
   have kW:=Mem.le_trans cX (Mem.le_trans fQ fR)
   refine⟨ws++[.slice a6 n6 c6],kU.mono kV,by simp[dE],fun e=>by omega,fun b o e=>?_,fun i v l' hv hl'=>?_⟩
   ·rcases cZ b o e with h|h
    ·exact j9 b o (h.trans e)
    ·exact Zfl kW h
   ·rw[List.getElem?_append]at hv
    split at hv
    ·obtain⟨g1,g2⟩:=iv i v l' hv hl'
     refine⟨g1.mono jz,fun b o e=>⟨(g2 b o e).1,fun o' e7=>?_⟩⟩
     rcases cZ b o' e7 with h|h
     ·exact(g2 b o e).2 o' (h.trans e7)
     ·exact ZfR (g1.mono (Mem.le_trans fQ fR)) e h
    ·rename_i cK
     have gk:i=n:=by
      have:=(List.getElem?_eq_some_iff.1 hv).1
      simp at this;omega
     subst gk
     rw[dE,Nat.sub_self]at hv
     obtain rfl:Value.slice a6 n6 c6=v:=by simpa using hv
     obtain rfl:l=l':=by rw[hl]at hl';exact Option.some.inj hl'
     refine⟨i9.1.mono lz,fun b o e=>⟨Zfl cX (i9.free b o e),fun o' e7=>?_⟩⟩
     rcases cZ b o' e7 with h|h
     ·have rN:i≠0:=fun e0=>by rw[oJ e0]at h;rw[←h]at e7;cases e7
      exact Zez dT (fun e0=>rN (by rw[←dE,e0];rfl)) (h.trans e7) (i9.free b o e)
     ·exact ZfR (i9.1.mono fR) e h
 ·have:n=A.fol.length:=by have:=of_decide_eq_false cK;omega
  subst this
  obtain⟨ws,dT,dE,oJ,j9,iv⟩:=hG
  refine Zaa rfl ⟨m5,Mem.le_trans gO cX,Mem.le_refl _,a2,c2,a,c,a3,c3,a4,c4,ws,rfl,?_⟩
  exact {
   le:=Mem.le_trans gO cX
   sets:=jm.1.mono (Mem.le_trans fZ cX)
   row:=dT
   len:=dE
   fl:=by omega
   fol:=fun i v l hv hl=>⟨(iv i v l hv hl).1,fun b o e=>⟨Zfl gO ((iv i v l hv hl).2 b o e).1,((iv i v l hv hl).2 b o e).2,fun o' es=>ksM b o' es ((iv i v l hv hl).2 b o e).1,fun o' es=>kxM b o' es ((iv i v l hv hl).2 b o e).1,fun o' es=>kyM b o' es ((iv i v l hv hl).2 b o e).1⟩⟩
   first:=(iQ.less hU).mono (Mem.le_trans jx cX)
   last:=(iR.less kT).mono (Mem.le_trans j8 cX)
   nf:=fun e=>oJ (by rw[e];rfl)
   fs:=fun b o e=>Zfl bD (jm.2 b o e)
   ff:=fun b o e=>Zfl gO (j9 b o e)
   sf:=fun b o o' es ef=>ksM b o es (j9 b o' ef)
   sx:=fun b o o' es ex=>Zkh jm.1 es (iQ.free b o' ex)
   sy:=fun b o o' es ey=>Zkh (jm.1.mono cD) es (iR.free b o' ey)
   fx:=fun b o o' ef ex=>kxM b o' ex (j9 b o ef)
   fy:=fun b o o' ef ey=>kyM b o' ey (j9 b o ef)
   xy:=fun b o o' ex ey=>ZfR iQ.1 ex (iR.free b o' ey) }
theorem ZsQ(A:Nf)(v:Value)(m:Mem)(h:NfR true A v m)(hN:A.fol.length≤1000):CX Try.prog 26 #[v] m [] (fun v m' _=>NfR true A v m'):=(ZsP A v m h hN).mono fun _ _ _ _ h=>h.nf
end Go.Proofs.Ytplacemlpkhmfaa

