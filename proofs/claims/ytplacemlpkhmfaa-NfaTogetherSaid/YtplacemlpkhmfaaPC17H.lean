/- Part of the proof: conditions and contracts of functions of this program. No condition of its own. -/
import Derived.Test.YtplacemlpkhmfaaPVNC
import Derived.Test.YtplacemlpkhmfaaPC17A
import Derived.Test.YtplacemlpkhmfaaPVB
import Derived.Test.YtplacemlpkhmfaaPC13Q
import Derived.Test.YtplacemlpkhmfaaMr
set_option linter.unusedVariables false
set_option linter.unusedSimpArgs false
namespace Go.Proofs.Ytplacemlpkhmfaa
open Go Go.Eng Go.Rx Go.Proofs Go.RowKit
set_option maxRecDepth 100000
theorem ZaN{α:Type}{l:List α}{k:Nat}(h:k < l.length):∃x,l[k]?=some x:=⟨l[k],by simp[h]⟩
theorem Zc0{α:Type}{l:List α}{k:Nat}{x:α}(h:l[k]?=some x):l.drop k=x::l.drop (k+1):=by
 obtain⟨hk,he⟩:=List.getElem?_eq_some_iff.1 h
 rw[List.drop_eq_getElem_cons hk,he]
theorem Zir(l:List Int)(lo hi:Int)(a:Option Addr)(c:Nat)(m:Mem)(h:rowRd m a (ZaM l))(hl:l.length≤1000000)(tJ : -10≤lo∧lo≤10):CX Try.prog 70 #[.slice a l.length c,.int .i64 lo,.int .i64 hi] m [] (Ret (.bool (Zed l (lo - 1) hi))):=by
 apply Zk7
 unfold Zhc
 refine⟨fun xs _ _ m' q=>∃(k:Nat)(z:Int),k≤l.length∧xs=[.int .i64 z,.int .i64 k]∧Zed (l.drop k) z hi=Zed l (lo - 1) hi∧m.le m'∧q=l.length - k,⟨_,0,lo - 1,Nat.zero_le _,by rw[ZaA (by omega) (by omega)];rfl,rfl,Mem.le_refl _,rfl⟩,?_⟩
 rintro z' k' m1 q bJ ⟨k,z,hk,hx,he,_,hq⟩
 simp only[List.cons.injEq,Value.int.injEq,true_and,and_true]at hx
 obtain⟨rfl,rfl⟩:=hx
 subst hq
 refine Zaa (fun bM=>?_) (fun cR=>?_)
 ·have bL:k < l.length:=by have:=of_decide_eq_true bM;omega
  obtain⟨x,hx⟩:=ZaN bL
  obtain⟨b,o,ig,cQ⟩:=Zd2 (h.mono bJ) hx
  rw[Zc0 hx,Zed]at he
  refine⟨b,o,ig,⟨by omega,by omega⟩,_,(by rw[Int.toNat_natCast];exact cQ),!(decide (z' < x)&&decide (x≤hi)),Zab rfl (Zaa (fun h1=>?_) (fun h1=>Zab rfl ?_)),Zaa (fun h2=>Zag bJ ?_) (fun h2=>Zab rfl ⟨_,by omega,k+1,x,bL,by rw[ZaA (by omega) (by omega)];rfl,?_,bJ,rfl⟩)⟩
  ·have:¬z' < x:=by have:=of_decide_eq_true h1;simp only[intOf]at this;omega
   simp[this]
  ·have h1':z' < x:=by have:=of_decide_eq_false h1;simp only[intOf]at this;omega
   simp only[h1',decide_true,Bool.true_and,intOf]
   refine congrArg (fun z=>[Value.bool z]) ?_
   rw[Bool.eq_iff_iff];simp
  ·simp only[Bool.not_eq_true']at h2
   rw[←he]
   show Value.bool false=_
   congr 1
   rw[←Bool.and_assoc,h2,Bool.false_and]
  ·simp only[Bool.not_eq_false']at h2
   rw[←he,←Bool.and_assoc,h2,Bool.true_and]
 ·have:k=l.length:=by have:=of_decide_eq_false cR;omega
  subst this
  rw[List.drop_length,Zed]at he
  refine Zag bJ ?_
  rw[←he]
theorem Zuf{α:Type}{l:List α}{p:α→Bool}{k:Nat}{x:α}(h:l[k]?=some x):(l.drop k).all p=(p x&&(l.drop (k+1)).all p):=by
 rw[Zc0 h,List.all_cons]
theorem Zm5{st:Bool}(A:Nf)(v:Value)(m:Mem)(h:NfR st A v m):CX Try.prog 21 #[v] m [] (Ret (.bool A.right)):=by
 obtain⟨s,f,x,y,rfl,⟨sa,sc,rfl,hs,fD,jv⟩,⟨fa,fc,vs,rfl,hf,iE,iY,jc⟩,⟨xa,xc,rfl,hx,gz,iG⟩,⟨ya,yc,rfl,hy,eR,jx⟩⟩:=h
 apply ZmI
 unfold Ziq
 intro b m1 bJ _
 have hw:IntKind.i64.wrap ((A.sets.length:Int) - 1)=A.top:=ZaA (by omega) (by omega)
 simp only[hw]
 refine⟨!(decide (A.sets.length≤400)&&(decide (A.fol.length=A.sets.length)&&(Zed A.first (-1) A.top&&Zed A.last (-1) A.top))),?_,?_⟩
 ·refine Zaa (fun h1=>⟨by trivial,?_⟩) (fun h1=>Zaa (fun h2=>⟨by trivial,?_⟩) (fun h2=>?_))
  ·have:¬A.sets.length≤400:=by have:=of_decide_eq_true h1;omega
   simp[this]
  ·have:¬A.fol.length=A.sets.length:=by
    simp only[Bool.not_eq_true',beq_eq_false_iff_ne,ne_eq]at h2;omega
   simp[this]
  ·have h1':A.sets.length≤400:=by have:=of_decide_eq_false h1;omega
   have h2':A.fol.length=A.sets.length:=by
    simp only[Bool.not_eq_false',beq_iff_eq]at h2;omega
   refine Zai (Zir A.first 0 A.top xa xc m1 (hx.mono bJ) gz ⟨by omega,by omega⟩) fun m2 bP=>Zaa (fun h3=>⟨by trivial,?_⟩) (fun h3=>?_)
   ·have:Zed A.first (-1) A.top=false:=by simpa using h3
    simp[this]
   ·have h3':Zed A.first (-1) A.top=true:=by simpa using h3
    refine Zai (Zir A.last 0 A.top ya yc m2 ((hy.mono bJ).mono bP) eR ⟨by omega,by omega⟩) fun m3 cJ=>⟨by trivial,?_⟩
    simp[h1',h2',h3']
 ·refine Zaa (fun h1=>Zag bJ ?_) (fun h1=>?_)
  ·simp only[Bool.not_eq_true']at h1
   show Value.bool false=.bool A.right
   congr 1
   unfold Nf.right
   revert h1
   cases decide (A.sets.length≤400) <;> cases decide (A.fol.length=A.sets.length) <;> cases Zed A.first (-1) A.top <;> cases Zed A.last (-1) A.top <;> simp
  ·simp only[Bool.not_eq_false',Bool.and_eq_true,decide_eq_true_eq]at h1
   obtain⟨vN,t5,vO,vP⟩:=h1
   have hA:A.right=(A.fol.zip A.sets).all fun p=>Zed p.1 (-1) A.top&&!(p.2 == zQ):=by
    unfold Nf.right;simp[vN,t5,vO,vP]
   have ik:(A.fol.zip A.sets).length=A.fol.length:=by simp[t5]
   refine⟨fun xs _ _ m' q=>∃k:Nat,k≤A.fol.length∧xs=[.int .i64 k]∧((A.fol.zip A.sets).drop k).all (fun p=>Zed p.1 (-1) A.top&&!(p.2 == zQ))=A.right∧m.le m'∧q=A.fol.length - k,⟨_,0,Nat.zero_le _,rfl,by rw[hA];rfl,bJ,rfl⟩,?_⟩
   rintro z m2 q bP ⟨k,hk,hz,he,_,hq⟩
   obtain rfl:z=k:=by simpa using hz
   subst hq
   have jy:=Mem.le_trans bJ bP
   refine Zaa (fun bM=>?_) (fun cR=>?_)
   ·have bL:k < A.fol.length:=by have:=of_decide_eq_true bM;omega
    obtain⟨l,hl⟩:=ZaN bL
    obtain⟨q4,nQ⟩:=ZaN (l:=A.sets) (k:=k) (by omega)
    obtain⟨u,hu⟩:=ZaN (l:=vs) (k:=k) (by omega)
    obtain⟨la,lc,rfl,hO,fH,pY⟩:=(jc k u l hu hl).mono jy
    obtain⟨fb,fo,j4,ib⟩:=Zg1 (hf.mono jy) hu
    have sj:(A.fol.zip A.sets)[k]?=some (l,q4):=List.getElem?_zip_eq_some.2 ⟨hl,nQ⟩
    rw[Zuf sj]at he
    refine⟨fb,fo,j4,⟨by omega,by omega⟩,_,(by rw[Int.toNat_natCast];exact ib),!(Zed l (-1) A.top&&!(q4 == zQ)),?_,Zaa (fun h2=>Zag jy ?_) (fun h2=>⟨by trivial,_,by omega,k+1,bL,by rw[ZaA (by omega) (by omega)];rfl,?_,jy,rfl⟩)⟩
    ·refine Zai (Zir l 0 A.top la lc m2 hO fH ⟨by omega,by omega⟩) fun m3 cJ=>Zaa (fun h3=>⟨by trivial,?_⟩) (fun h3=>?_)
     ·have:Zed l (-1) A.top=false:=by simpa using h3
      simp[this]
     ·have h3':Zed l (-1) A.top=true:=by simpa using h3
      obtain⟨sb,so,mI,jd⟩:=ZkM (hs.mono jy) nQ
      refine⟨sb,so,mI,⟨by omega,by omega⟩,_,_,_,_,(by rw[Int.toNat_natCast];exact jd.mono cJ),_,Zp2 _ _ _ _ _ _ _ _,by trivial,?_⟩
      simp only[h3',Bool.true_and,Bool.not_not]
      refine congrArg (fun z=>[Value.bool z]) ?_
      obtain⟨q0,q1,q2,q3⟩:=q4
      show _=((q0,q1,q2,q3) == ((0,0,0,0):QS))
      rw[Bool.eq_iff_iff]
      simp[and_assoc]
    ·simp only[Bool.not_eq_true']at h2
     rw[←he,h2];rfl
    ·simp only[Bool.not_eq_false']at h2
     rw[←he,h2,Bool.true_and]
   ·have:k=A.fol.length:=by have:=of_decide_eq_false cR;omega
    subst this
    refine Zag jy ?_
    rw[←he,←ik,List.drop_length];rfl
theorem Zrk{α:Type}{l r:List α}{k:Nat}{x y:α}(hx:l[k]?=some x)(hy:r[k]?=some y):l.drop k=r.drop k↔(x=y∧l.drop (k+1)=r.drop (k+1)):=by
 rw[Zc0 hx,Zc0 hy,List.cons.injEq]
theorem Zqf(l r:List Int)(a b:Option Addr)(c d:Nat)(m:Mem)(hl:rowRd m a (ZaM l))(hr:rowRd m b (ZaM r))(hn:l.length≤1000000):CX Try.prog 23 #[.slice a l.length c,.slice b r.length d] m [] (Ret (.bool (decide (l=r)))):=by
 apply ZdB
 unfold Zcd
 refine Zaa (fun h=>Zag (Mem.le_refl _) ?_) (fun h=>?_)
 ·have:¬l=r:=fun e=>by subst e;simp at h
  simp[Ret,this]
 have bO:l.length=r.length:=by
  simp only[Bool.not_eq_false',beq_iff_eq]at h;omega
 refine⟨fun xs css _ m' q=>∃k:Nat,k≤l.length∧xs=[.int .i64 k]∧(l.drop k=r.drop k↔l=r)∧m.le m'∧q=l.length - k,⟨_,0,by omega,rfl,Iff.rfl,Mem.le_refl _,rfl⟩,?_⟩
 rintro z m1 q bJ ⟨k,hk,hz,he,_,hq⟩
 obtain rfl:z=k:=by simpa using hz
 subst hq
 refine Zaa (fun bM=>?_) (fun cR=>?_)
 ·have bL:k < l.length:=by have:=of_decide_eq_true bM;omega
  obtain⟨x,hx⟩:=ZaN bL
  obtain⟨y,hy⟩:=ZaN (l:=r) (k:=k) (by omega)
  obtain⟨b1,o1,h1,h1'⟩:=Zd2 (hl.mono bJ) hx
  obtain⟨b2,o2,h2,h2'⟩:=Zd2 (hr.mono bJ) hy
  rw[Zrk hx hy]at he
  refine⟨b1,o1,h1,⟨by omega,by omega⟩,_,(by rw[Int.toNat_natCast];exact h1'),b2,o2,h2,⟨by omega,by omega⟩,_,(by rw[Int.toNat_natCast];exact h2'),Zab rfl (Zaa (fun h3=>Zag bJ ?_) (fun h3=>⟨_,by omega,k+1,bL,by rw[ZaA (by omega) (by omega)];rfl,?_,bJ,rfl⟩))⟩
  ·have:¬x=y:=by simpa[intOf]using h3
   simp only[Ret];congr 1
   rw[eq_comm,decide_eq_false_iff_not,←he];exact fun h=>this h.1
  ·have:x=y:=by simpa[intOf]using h3
   rw[←he];simp[this]
 ·have:k=l.length:=by have:=of_decide_eq_false cR;omega
  subst this
  refine Zag bJ ?_
  simp only[Ret];congr 1
  rw[eq_comm,decide_eq_true_eq,←he,List.drop_length,bO,List.drop_length]
theorem Zwt(l r:List QS)(a b:Option Addr)(c d:Nat)(m:Mem)(hl:rowRd m a (Zb4 l))(hr:rowRd m b (Zb4 r))(hn:l.length≤1000000):CX Try.prog 71 #[.slice a l.length c,.slice b r.length d] m [] (Ret (.bool (decide (l=r)))):=by
 apply ZbQ
 unfold Za7
 refine Zaa (fun h=>Zag (Mem.le_refl _) ?_) (fun h=>?_)
 ·have:¬l=r:=fun e=>by subst e;simp at h
  simp[Ret,this]
 have bO:l.length=r.length:=by
  simp only[Bool.not_eq_false',beq_iff_eq]at h;omega
 refine⟨fun xs css _ m' q=>∃k:Nat,k≤l.length∧xs=[.int .i64 k]∧(l.drop k=r.drop k↔l=r)∧m.le m'∧q=l.length - k,⟨_,0,by omega,rfl,Iff.rfl,Mem.le_refl _,rfl⟩,?_⟩
 rintro z m1 q bJ ⟨k,hk,hz,he,_,hq⟩
 obtain rfl:z=k:=by simpa using hz
 subst hq
 refine Zaa (fun bM=>?_) (fun cR=>?_)
 ·have bL:k < l.length:=by have:=of_decide_eq_true bM;omega
  obtain⟨x,hx⟩:=ZaN bL
  obtain⟨y,hy⟩:=ZaN (l:=r) (k:=k) (by omega)
  obtain⟨b1,o1,h1,h1'⟩:=ZkM (hl.mono bJ) hx
  obtain⟨b2,o2,h2,h2'⟩:=ZkM (hr.mono bJ) hy
  rw[Zrk hx hy]at he
  refine⟨b1,o1,h1,⟨by omega,by omega⟩,_,_,_,_,(by rw[Int.toNat_natCast];exact h1'),b2,o2,h2,⟨by omega,by omega⟩,_,_,_,_,(by rw[Int.toNat_natCast];exact h2'),_,Zp2 _ _ _ _ _ _ _ _,Zaa (fun h3=>Zag bJ ?_) (fun h3=>⟨_,by omega,k+1,bL,by rw[ZaA (by omega) (by omega)];rfl,?_,bJ,rfl⟩)⟩
  ·have:¬x=y:=fun e=>by subst e;simp at h3
   simp only[Ret];congr 1
   rw[eq_comm,decide_eq_false_iff_not,←he];exact fun h=>this h.1
  ·have:x=y:=by
    obtain⟨x0,x1,x2,x3⟩:=x
    obtain⟨y0,y1,y2,y3⟩:=y
    simp at h3 ⊢
    exact⟨h3.1.1.1,h3.1.1.2,h3.1.2,h3.2⟩
   rw[←he];simp[this]
 ·have:k=l.length:=by have:=of_decide_eq_false cR;omega
  subst this
  refine Zag bJ ?_
  simp only[Ret];congr 1
  rw[eq_comm,decide_eq_true_eq,←he,List.drop_length,bO,List.drop_length]
theorem Zwu{st st':Bool}(l r:List (List Int))(v w:Value)(m:Mem)(hl:FolR st l v m)(hr:FolR st' r w m):CX Try.prog 72 #[v,w,.func (.func 23) #[] #[]] m [] (Ret (.bool (decide (l=r)))):=by
 obtain⟨a,c,vs,rfl,h1,h2,h3,h4⟩:=hl
 obtain⟨b,d,ws,rfl,k1,k2,k3,k4⟩:=hr
 apply ZbC a l.length c b r.length d _ [] []
 unfold Za1
 refine Zaa (fun h=>Zag (Mem.le_refl _) ?_) (fun h=>?_)
 ·have:¬l=r:=fun e=>by subst e;simp at h
  simp[Ret,this]
 have bO:l.length=r.length:=by
  simp only[Bool.not_eq_false',beq_iff_eq]at h;omega
 refine⟨fun xs css _ m' q=>∃k:Nat,k≤l.length∧xs=[.int .i64 k]∧(l.drop k=r.drop k↔l=r)∧m.le m'∧q=l.length - k,⟨_,0,by omega,rfl,Iff.rfl,Mem.le_refl _,rfl⟩,?_⟩
 rintro z m1 q bJ ⟨k,hk,hz,he,_,hq⟩
 obtain rfl:z=k:=by simpa using hz
 subst hq
 refine Zaa (fun bM=>?_) (fun cR=>?_)
 ·have bL:k < l.length:=by have:=of_decide_eq_true bM;omega
  obtain⟨x,hx⟩:=ZaN bL
  obtain⟨y,hy⟩:=ZaN (l:=r) (k:=k) (by omega)
  obtain⟨vx,pM⟩:=ZaN (l:=vs) (k:=k) (by omega)
  obtain⟨wy,t6⟩:=ZaN (l:=ws) (k:=k) (by omega)
  obtain⟨xa,xc,rfl,fY,gz,iG⟩:=(h4 k vx x pM hx).mono bJ
  obtain⟨ya,yc,rfl,kH,eR,jx⟩:=(k4 k wy y t6 hy).mono bJ
  obtain⟨b1,o1,e1,e1'⟩:=Zg1 (h1.mono bJ) pM
  obtain⟨b2,o2,e2,e2'⟩:=Zg1 (k1.mono bJ) t6
  rw[Zrk hx hy]at he
  refine⟨b1,o1,e1,⟨by omega,by omega⟩,_,(by rw[Int.toNat_natCast];exact e1'),b2,o2,e2,⟨by omega,by omega⟩,_,(by rw[Int.toNat_natCast];exact e2'),?_⟩
  refine Zai (Zqf x y xa ya xc yc m1 fY kH gz) fun m2 bP=>Zaa (fun h3=>Zag (Mem.le_trans bJ bP) ?_) (fun h3=>⟨_,by omega,k+1,bL,by rw[ZaA (by omega) (by omega)];rfl,?_,Mem.le_trans bJ bP,rfl⟩)
  ·have:¬x=y:=by simpa using h3
   simp only[Ret];congr 1
   rw[eq_comm,decide_eq_false_iff_not,←he];exact fun h=>this h.1
  ·have:x=y:=by simpa using h3
   rw[←he];simp[this]
 ·have:k=l.length:=by have:=of_decide_eq_false cR;omega
  subst this
  refine Zag bJ ?_
  simp only[Ret];congr 1
  rw[eq_comm,decide_eq_true_eq,←he,List.drop_length,bO,List.drop_length]
theorem Zm6{st st':Bool}(A B:Nf)(v w:Value)(m:Mem)(h:NfR st A v m)(k:NfR st' B w m):CX Try.prog 22 #[v,w] m [] (Ret (.bool (decide (A=B)))):=by
 obtain⟨s,f,x,y,rfl,⟨sa,sc,rfl,hs,fD,jv⟩,hf,⟨xa,xc,rfl,hx,gz,iG⟩,⟨ya,yc,rfl,hy,eR,jx⟩⟩:=h
 obtain⟨s',f',x',y',rfl,⟨sa',sc',rfl,hs',vQ,vR⟩,hf',⟨xa',xc',rfl,hx',vS,vT⟩,⟨ya',yc',rfl,hy',vU,vV⟩⟩:=k
 obtain⟨fa,fc,vs,rfl,kV⟩:=id hf
 obtain⟨fa',fc',vs',rfl,vW⟩:=id hf'
 apply ZoW
 unfold Zj4
 intro b m1 bJ _ b1 m2 bP _
 have iy:=Mem.le_trans bJ bP
 obtain⟨As,Af,A1,A2,Ae⟩:=A
 obtain⟨Bs,Bf,B1,B2,Be⟩:=B
 refine⟨decide ((⟨As,Af,A1,A2,Ae⟩:Nf)=⟨Bs,Bf,B1,B2,Be⟩),?_,Zag iy rfl⟩
 refine Zai (Zwt As Bs _ _ _ _ m2 (hs.mono iy) (hs'.mono iy) fD) fun m3 cJ=>?_
 have kE:=Mem.le_trans iy cJ
 refine Zaa (fun e1=>?_) (fun e1=>⟨by trivial,by simp[show ¬As=Bs by simpa using e1]⟩)
 refine Zai (Zwu Af Bf _ _ m3 (hf.mono kE) (hf'.mono kE)) fun m4 cY=>?_
 have lD:=Mem.le_trans kE cY
 refine Zaa (fun e2=>?_) (fun e2=>⟨by trivial,by simp[show ¬Af=Bf by simpa using e2]⟩)
 refine Zai (Zqf A1 B1 _ _ _ _ m4 (hx.mono lD) (hx'.mono lD) gz) fun m5 eA=>?_
 have lE:=Mem.le_trans lD eA
 refine Zaa (fun e3=>?_) (fun e3=>⟨by trivial,by simp[show ¬A1=B1 by simpa using e3]⟩)
 refine Zai (Zqf A2 B2 _ _ _ _ m5 (hy.mono lE) (hy'.mono lE) eR) fun m6 i8=>?_
 refine Zaa (fun e4=>⟨by trivial,?_⟩) (fun e4=>⟨by trivial,by simp[show ¬A2=B2 by simpa using e4]⟩)
 refine congrArg (fun z=>[Value.bool z]) ?_
 rw[Bool.eq_iff_iff]
 simp[of_decide_eq_true e1,of_decide_eq_true e2,of_decide_eq_true e3,of_decide_eq_true e4]
theorem Zl2{m:Mem}{a:Option Addr}{xs:List Value}(h:rowRd m a xs)(ha:a.isNone=true):xs=[]:=by
 rcases h with h|⟨b,o,h1,_⟩
 ·exact h
 ·rw[h1]at ha;simp at ha
theorem Zqg{st:Bool}(l:List Int)(v:Value)(m:Mem)(h:SlI st l v m):CXT Try.prog 44 #[v] m 1 (fun v m' _=>SlI st l v m'):=by
 obtain⟨a,c,rfl,h1,h2,lU⟩:=h
 apply Zdk
 unfold Zcf
 refine Zaa (fun hn=>?_) (fun hn=>⟨⟨rfl,Int.le_refl _,by decide,by decide⟩,fun b hb=>⟨.inl rfl,[],ZaM l,rfl,by rw[Zec];omega,.inl rfl,h1,fun u hu=>?_,by omega,by omega,fun a' c' m' hm' hr _=>⟨rfl,a',c',by rw[Nat.zero_add],hr,h2,fun e1 e2=>?_⟩⟩⟩)
 ·have:=Zl2 h1 hn
  obtain rfl:l=[]:=by simpa[ZaM]using this
  exact⟨rfl,none,0,rfl,.inl rfl,by simp,fun _ _=>rfl⟩
 ·obtain⟨i,_,rfl⟩:=List.mem_map.1 hu
  rfl
 ·rw[lU e1 e2]at hn;simp at hn
theorem Zk8{st:Bool}(l:List Int)(v:Value)(m:Mem)(h:SlI st l v m):CX Try.prog 44 #[v] m [] (fun v m' _=>SlI st l v m'):=(Zqg l v m h).toCX
theorem ZsD(l:List QS)(v:Value)(m:Mem)(h:SlQ true l v m):CX Try.prog 77 #[v] m [] (fun v m' _=>SlQ true l v m'):=by
 obtain⟨a,c,rfl,h1,h2,lU⟩:=h
 apply ZbR
 unfold Za8
 refine Zaa (fun hn=>?_) (fun hn=>fun b hb=>?_)
 ·have:=congrArg List.length (Zl2 h1 hn)
  rw[ZhV]at this
  obtain rfl:l=[]:=List.eq_nil_of_length_eq_zero (by simp at this;omega)
  exact⟨_,Mem.le_refl _,Mem.le_refl _,none,0,rfl,.inl rfl,by simp,fun _ _=>rfl⟩
 ·have nv:l.length≠0:=fun e=>by
   rw[lU rfl (List.eq_nil_of_length_eq_zero e)]at hn;simp at hn
  refine⟨.inr (by omega),[],Zb4 l,rfl,by rw[ZhV],.inl rfl,h1.mono (Mem.le_add hb _),fun u hu=>?_,by omega,by omega,fun a' c' m' hm' hr=>⟨m',Mem.le_trans (Mem.le_add hb _) hm',Mem.le_refl _,a',c',by rw[Nat.zero_add],hr,h2,fun _ e=>by subst e;simp at nv⟩⟩
  obtain⟨q,_,hq⟩:=List.mem_flatMap.1 hu
  simp only[List.mem_cons,List.not_mem_nil,or_false]at hq
  rcases hq with rfl|rfl|rfl|rfl <;> rfl
theorem Zd4{st:Bool}{l:List Int}:∀(v:Value)(m':Mem) (css:List (List Value)),SlI st l v m'→Shape.fits .slice v=true:=by
 rintro v m' css ⟨a,c,rfl,_⟩;rfl
theorem Zug{st:Bool}{l:List QS}:∀(v:Value)(m':Mem) (css:List (List Value)),SlQ st l v m'→Shape.fits .slice v=true:=by
 rintro v m' css ⟨a,c,rfl,_⟩;rfl
def FolG(m:Mem)(a:Option Addr)(fol:List (List Int)):Prop:=∃vs,rowRd m a vs∧vs.length=fol.length∧∀(i:Nat)(v:Value)(l:List Int),vs[i]?=some v→fol[i]?=some l→SlI true l v m
theorem FolG.mono{m m':Mem}{a:Option Addr}{fol:List (List Int)}(h:FolG m a fol)(k:m.le m'):FolG m' a fol:=by
 obtain⟨vs,h1,h2,h3⟩:=h
 exact⟨vs,h1.mono k,h2,fun i v l hv hl=>(h3 i v l hv hl).mono k⟩
theorem Zj7{m:Mem}{b:Nat}{v:Value}:rowRd (m.add b [v]) (some ⟨b,0,none⟩) [v]:=.inr ⟨b,0,rfl,fun j u hj=>by rw[Nat.zero_add,Mem.add_same];exact hj⟩
theorem ZoZ{m m2 M:Mem}{a':Option Addr}{fol:List (List Int)}{l:List Int}{w:Value}{vs:List Value}(h2:vs.length=fol.length)(h3:∀(i:Nat)(v:Value)(l:List Int),vs[i]?=some v→fol[i]?=some l→SlI true l v m)(hm:m.le M)(hr:rowRd m2 a' (vs++[w]))(bP:m2.le M)(hw:SlI true l w M):FolG M a' (fol++[l]):=by
 refine⟨vs++[w],hr.mono bP,by simp[h2],fun i v l' hv hl'=>?_⟩
 rw[List.getElem?_append]at hv hl'
 split at hv
 ·rw[if_pos (by omega)]at hl'
  exact(h3 i v l' hv hl').mono hm
 ·rw[if_neg (by omega)]at hl'
  have e1:=List.getElem?_eq_some_iff.1 hv
  have e2:=List.getElem?_eq_some_iff.1 hl'
  obtain⟨_,e1⟩:=e1
  obtain⟨_,e2⟩:=e2
  rw[List.getElem_singleton]at e1 e2
  subst e1 e2;exact hw
theorem Zuh(A:Nf)(v:Value)(m:Mem)(h:NfR true A v m)(hN:A.fol.length≤1000):CX Try.prog 26 #[v] m [] (fun v m' _=>NfR true A v m'):=by
 obtain⟨s,f,x,y,rfl,⟨sa,sc,rfl,hs,fD,jv⟩,⟨fa,fc,vs,rfl,hf,iE,iY,jc⟩,⟨xa,xc,rfl,hx,gz,iG⟩,⟨ya,yc,rfl,hy,eR,jx⟩⟩:=h
 apply ZoX
 unfold Zj5
 intro b0 m1 bJ _ b1
 refine⟨fun i _ _=>if i=2 then(fun v m' _=>SlQ true A.sets v m')else if i=5 then(fun v m' _=>SlI true A.first v m')else(fun v m' _=>SlI true A.last v m'),?_⟩
 refine⟨_,rfl,ZsD A.sets _ m1 ⟨sa,sc,rfl,hs.mono bJ,fD,jv⟩,Zug,fun a2 n2 c2 m2 bP vX=>?_⟩
 refine⟨_,rfl,Zk8 A.first _ m2 ⟨xa,xc,rfl,(hx.mono bJ).mono bP,gz,iG⟩,Zd4,fun a3 n3 c3 m3 cJ vY=>?_⟩
 refine⟨_,rfl,Zk8 A.last _ m3 ⟨ya,yc,rfl,((hy.mono bJ).mono bP).mono cJ,eR,jx⟩,Zd4,fun a4 n4 c4 m4 cY vZ=>?_⟩
 intro b2 M _ fJ ju jI
 have mJ:m.le M:=Mem.le_trans bJ (Mem.le_trans bP fJ)
 have gj:SlQ true A.sets (.slice a2 n2 c2) M:=(show SlQ true A.sets _ m2 from vX).mono fJ
 have pR:SlI true A.first (.slice a3 n3 c3) M:=(show SlI true A.first _ m3 from vY).mono ju
 have v4:SlI true A.last (.slice a4 n4 c4) M:=(show SlI true A.last _ m4 from vZ).mono jI
 refine⟨fun xs css tvs m' q=>∃(k:Nat)(a:Option Addr)(c:Nat),k≤A.fol.length∧xs=[.int .i64 k]∧css=[[.slice a2 n2 c2,.slice a k c,.slice a3 n3 c3,.slice a4 n4 c4,.bool A.empty]]∧tvs=[.slice a k c]∧M.le m'∧FolG m' a (A.fol.take k)∧q=A.fol.length - k,⟨_,0,none,0,Nat.zero_le _,rfl,rfl,rfl,Mem.le_refl _,⟨[],.inl rfl,rfl,fun i v l hv=>by simp at hv⟩,rfl⟩,?_⟩
 rintro z cs a n c m5 q eA ⟨k,a',c',hk,hz,cG,dF,_,hG,hq⟩
 obtain rfl:z=k:=by simpa using hz
 obtain rfl:cs=_:=by simpa using cG
 simp only[List.cons.injEq,Value.slice.injEq,and_true]at dF
 obtain⟨rfl,rfl,rfl⟩:=dF
 subst hq
 refine Zaa (fun bM=>?_) (fun cR=>?_)
 ·have bL:n < A.fol.length:=by have:=of_decide_eq_true bM;omega
  obtain⟨l,hl⟩:=ZaN bL
  obtain⟨u,hu⟩:=ZaN (l:=vs) (k:=n) (by omega)
  have v5:=jc n u l hu hl
  obtain⟨fb,fo,j4,ib⟩:=Zg1 (hf.mono (Mem.le_trans mJ eA)) hu
  refine⟨fb,fo,j4,⟨by omega,by omega⟩,_,(by rw[Int.toNat_natCast];exact ib),fun _ _ _=>(fun v m' _=>SlI true l v m'),Zan (v:=.slice a n c) rfl ⟨_,rfl,Zk8 l u m5 (v5.mono (Mem.le_trans mJ eA)),Zd4,fun a6 n6 c6 m6 i8 sk b4 sm=>Zab rfl ?_⟩⟩
  obtain⟨ws,eJ,eH,jG⟩:=hG
  have gf:(A.fol.take n).length=n:=by rw[List.length_take];omega
  have kn:=Mem.le_add sm [Value.slice a6 n6 c6]
  refine⟨.inl rfl,ws,[.slice a6 n6 c6],by rw[eH,gf];simp[slN],rfl,(eJ.mono i8).mono kn,Zj7,by simp[Value.oneCell'],by show(n+1)*24≤_;omega,by show n+1≤_;omega,fun a7 c7 m7 kX v6=>Zab rfl fun M2 oZ sn v7 sq=>⟨rfl,_,by omega,n+1,a7,c7,bL,by rw[ZaA (by omega) (by omega)];rfl,rfl,rfl,Mem.le_trans eA oZ,?_,rfl⟩⟩
  have e:A.fol.take (n+1)=A.fol.take n++[l]:=by rw[List.take_add_one,hl];rfl
  rw[e]
  exact ZoZ eH jG oZ v6 sq ((show SlI true l _ m6 from sk).mono sn)
 ·have:n=A.fol.length:=by have:=of_decide_eq_false cR;omega
  subst this
  rw[List.take_length]at hG
  obtain⟨ws,eJ,eH,jG⟩:=hG
  refine Zab rfl ⟨_,Mem.le_trans mJ eA,Mem.le_refl _,_,_,_,_,rfl,gj.mono eA,⟨a,c,ws,rfl,eJ,eH,by omega,jG⟩,pR.mono eA,v4.mono eA⟩
end Go.Proofs.Ytplacemlpkhmfaa

