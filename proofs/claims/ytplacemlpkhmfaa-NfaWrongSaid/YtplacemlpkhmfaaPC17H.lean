/- Part of the proof: conditions and contracts of functions of this program. No condition of its own. -/
import Derived.Test.YtplacemlpkhmfaaPVNC
import Derived.Test.YtplacemlpkhmfaaPC17A
import Derived.Test.YtplacemlpkhmfaaPVB
import Derived.Test.YtplacemlpkhmfaaPC13Q
import Derived.Test.YtplacemlpkhmfaaMr
set_option linter.unusedVariables false
set_option linter.unusedSimpArgs false
namespace Go.Proofs.Ytplacemlpkhmfaa
open Go Go.Eng Go.Rx Go.Proofs Go.RowKit
set_option maxRecDepth 100000
theorem ZaE{α:Type}{l:List α}{k:Nat}(h:k < l.length):∃x,l[k]?=some x:=⟨l[k],by simp[h]⟩
theorem ZcO{α:Type}{l:List α}{k:Nat}{x:α}(h:l[k]?=some x):l.drop k=x::l.drop (k+1):=by
 obtain⟨hk,he⟩:=List.getElem?_eq_some_iff.1 h
 rw[List.drop_eq_getElem_cons hk,he]
theorem Zd7(l:List Int)(lo hi:Int)(a:Option Addr)(c:Nat)(m:Mem)(h:rowRd m a (ZaA l))(hl:l.length≤1000000)(s7 : -10≤lo∧lo≤10):CX Try.prog 70 #[.slice a l.length c,.int .i64 lo,.int .i64 hi] m [] (Ret (.bool (Zdc l (lo - 1) hi))):=by
 apply ZkD
 unfold ZgS
 refine⟨fun xs _ _ m' q=>∃(k:Nat)(z:Int),k≤l.length∧xs=[.int .i64 z,.int .i64 k]∧Zdc (l.drop k) z hi=Zdc l (lo - 1) hi∧m.le m'∧q=l.length - k,⟨_,0,lo - 1,Nat.zero_le _,by rw[Zax (by omega) (by omega)];rfl,rfl,Mem.le_refl _,rfl⟩,?_⟩
 rintro z' k' m1 q bH ⟨k,z,hk,hx,he,_,hq⟩
 simp only[List.cons.injEq,Value.int.injEq,true_and,and_true]at hx
 obtain⟨rfl,rfl⟩:=hx
 subst hq
 refine Zab (fun bK=>?_) (fun cS=>?_)
 ·have bJ:k < l.length:=by have:=of_decide_eq_true bK;omega
  obtain⟨x,hx⟩:=ZaE bJ
  obtain⟨b,o,hQ,cM⟩:=ZdP (h.mono bH) hx
  rw[ZcO hx,Zdc]at he
  refine⟨b,o,hQ,⟨by omega,by omega⟩,_,(by rw[Int.toNat_natCast];exact cM),!(decide (z' < x)&&decide (x≤hi)),Zaa rfl (Zab (fun h1=>?_) (fun h1=>Zaa rfl ?_)),Zab (fun h2=>Zah bH ?_) (fun h2=>Zaa rfl ⟨_,by omega,k+1,x,bJ,by rw[Zax (by omega) (by omega)];rfl,?_,bH,rfl⟩)⟩
  ·have:¬z' < x:=by have:=of_decide_eq_true h1;simp only[intOf]at this;omega
   simp[this]
  ·have h1':z' < x:=by have:=of_decide_eq_false h1;simp only[intOf]at this;omega
   simp only[h1',decide_true,Bool.true_and,intOf]
   refine congrArg (fun z=>[Value.bool z]) ?_
   rw[Bool.eq_iff_iff];simp
  ·simp only[Bool.not_eq_true']at h2
   rw[←he]
   show Value.bool false=_
   congr 1
   rw[←Bool.and_assoc,h2,Bool.false_and]
  ·simp only[Bool.not_eq_false']at h2
   rw[←he,←Bool.and_assoc,h2,Bool.true_and]
 ·have:k=l.length:=by have:=of_decide_eq_false cS;omega
  subst this
  rw[List.drop_length,Zdc]at he
  refine Zah bH ?_
  rw[←he]
theorem Ztt{α:Type}{l:List α}{p:α→Bool}{k:Nat}{x:α}(h:l[k]?=some x):(l.drop k).all p=(p x&&(l.drop (k+1)).all p):=by
 rw[ZcO h,List.all_cons]
theorem Zip{st:Bool}(A:Nf)(v:Value)(m:Mem)(h:NfR st A v m):CX Try.prog 21 #[v] m [] (Ret (.bool A.right)):=by
 obtain⟨s,f,x,y,rfl,⟨sa,sc,rfl,hs,eP,jd⟩,⟨fa,fc,vs,rfl,hf,ie,iE,iM⟩,⟨xa,xc,rfl,hx,gd,hU⟩,⟨ya,yc,rfl,hy,eI,iN⟩⟩:=h
 apply Zc6
 unfold Zcl
 intro b m1 bH _
 have hw:IntKind.i64.wrap ((A.sets.length:Int) - 1)=A.top:=Zax (by omega) (by omega)
 simp only[hw]
 refine⟨!(decide (A.sets.length≤400)&&(decide (A.fol.length=A.sets.length)&&(Zdc A.first (-1) A.top&&Zdc A.last (-1) A.top))),?_,?_⟩
 ·refine Zab (fun h1=>⟨by trivial,?_⟩) (fun h1=>Zab (fun h2=>⟨by trivial,?_⟩) (fun h2=>?_))
  ·have:¬A.sets.length≤400:=by have:=of_decide_eq_true h1;omega
   simp[this]
  ·have:¬A.fol.length=A.sets.length:=by
    simp only[Bool.not_eq_true',beq_eq_false_iff_ne,ne_eq]at h2;omega
   simp[this]
  ·have h1':A.sets.length≤400:=by have:=of_decide_eq_false h1;omega
   have h2':A.fol.length=A.sets.length:=by
    simp only[Bool.not_eq_false',beq_iff_eq]at h2;omega
   refine Zaj (Zd7 A.first 0 A.top xa xc m1 (hx.mono bH) gd ⟨by omega,by omega⟩) fun m2 bN=>Zab (fun h3=>⟨by trivial,?_⟩) (fun h3=>?_)
   ·have:Zdc A.first (-1) A.top=false:=by simpa using h3
    simp[this]
   ·have h3':Zdc A.first (-1) A.top=true:=by simpa using h3
    refine Zaj (Zd7 A.last 0 A.top ya yc m2 ((hy.mono bH).mono bN) eI ⟨by omega,by omega⟩) fun m3 cG=>⟨by trivial,?_⟩
    simp[h1',h2',h3']
 ·refine Zab (fun h1=>Zah bH ?_) (fun h1=>?_)
  ·simp only[Bool.not_eq_true']at h1
   show Value.bool false=.bool A.right
   congr 1
   unfold Nf.right
   revert h1
   cases decide (A.sets.length≤400) <;> cases decide (A.fol.length=A.sets.length) <;> cases Zdc A.first (-1) A.top <;> cases Zdc A.last (-1) A.top <;> simp
  ·simp only[Bool.not_eq_false',Bool.and_eq_true,decide_eq_true_eq]at h1
   obtain⟨vp,tF,vq,vr⟩:=h1
   have hA:A.right=(A.fol.zip A.sets).all fun p=>Zdc p.1 (-1) A.top&&!(p.2 == zQ):=by
    unfold Nf.right;simp[vp,tF,vq,vr]
   have gO:(A.fol.zip A.sets).length=A.fol.length:=by simp[tF]
   refine⟨fun xs _ _ m' q=>∃k:Nat,k≤A.fol.length∧xs=[.int .i64 k]∧((A.fol.zip A.sets).drop k).all (fun p=>Zdc p.1 (-1) A.top&&!(p.2 == zQ))=A.right∧m.le m'∧q=A.fol.length - k,⟨_,0,Nat.zero_le _,rfl,by rw[hA];rfl,bH,rfl⟩,?_⟩
   rintro z m2 q bN ⟨k,hk,hz,he,_,hq⟩
   obtain rfl:z=k:=by simpa using hz
   subst hq
   have jm:=Mem.le_trans bH bN
   refine Zab (fun bK=>?_) (fun cS=>?_)
   ·have bJ:k < A.fol.length:=by have:=of_decide_eq_true bK;omega
    obtain⟨l,hl⟩:=ZaE bJ
    obtain⟨q4,nw⟩:=ZaE (l:=A.sets) (k:=k) (by omega)
    obtain⟨u,hu⟩:=ZaE (l:=vs) (k:=k) (by omega)
    obtain⟨la,lc,rfl,gX,eL,rq⟩:=(iM k u l hu hl).mono jm
    obtain⟨fb,fo,fX,fL⟩:=ZgK (hf.mono jm) hu
    have rM:(A.fol.zip A.sets)[k]?=some (l,q4):=List.getElem?_zip_eq_some.2 ⟨hl,nw⟩
    rw[Ztt rM]at he
    refine⟨fb,fo,fX,⟨by omega,by omega⟩,_,(by rw[Int.toNat_natCast];exact fL),!(Zdc l (-1) A.top&&!(q4 == zQ)),?_,Zab (fun h2=>Zah jm ?_) (fun h2=>⟨by trivial,_,by omega,k+1,bJ,by rw[Zax (by omega) (by omega)];rfl,?_,jm,rfl⟩)⟩
    ·refine Zaj (Zd7 l 0 A.top la lc m2 gX eL ⟨by omega,by omega⟩) fun m3 cG=>Zab (fun h3=>⟨by trivial,?_⟩) (fun h3=>?_)
     ·have:Zdc l (-1) A.top=false:=by simpa using h3
      simp[this]
     ·have h3':Zdc l (-1) A.top=true:=by simpa using h3
      obtain⟨sb,so,jn,ik⟩:=Zkm (hs.mono jm) nw
      refine⟨sb,so,jn,⟨by omega,by omega⟩,_,_,_,_,(by rw[Int.toNat_natCast];exact ik.mono cG),_,ZnX _ _ _ _ _ _ _ _,by trivial,?_⟩
      simp only[h3',Bool.true_and,Bool.not_not]
      refine congrArg (fun z=>[Value.bool z]) ?_
      obtain⟨q0,q1,q2,q3⟩:=q4
      show _=((q0,q1,q2,q3) == ((0,0,0,0):QS))
      rw[Bool.eq_iff_iff]
      simp[and_assoc]
    ·simp only[Bool.not_eq_true']at h2
     rw[←he,h2];rfl
    ·simp only[Bool.not_eq_false']at h2
     rw[←he,h2,Bool.true_and]
   ·have:k=A.fol.length:=by have:=of_decide_eq_false cS;omega
    subst this
    refine Zah jm ?_
    rw[←he,←gO,List.drop_length];rfl
theorem Zqy{α:Type}{l r:List α}{k:Nat}{x y:α}(hx:l[k]?=some x)(hy:r[k]?=some y):l.drop k=r.drop k↔(x=y∧l.drop (k+1)=r.drop (k+1)):=by
 rw[ZcO hx,ZcO hy,List.cons.injEq]
theorem Zpy(l r:List Int)(a b:Option Addr)(c d:Nat)(m:Mem)(hl:rowRd m a (ZaA l))(hr:rowRd m b (ZaA r))(hn:l.length≤1000000):CX Try.prog 23 #[.slice a l.length c,.slice b r.length d] m [] (Ret (.bool (decide (l=r)))):=by
 apply Zdo
 unfold Zb2
 refine Zab (fun h=>Zah (Mem.le_refl _) ?_) (fun h=>?_)
 ·have:¬l=r:=fun e=>by subst e;simp at h
  simp[Ret,this]
 have bO:l.length=r.length:=by
  simp only[Bool.not_eq_false',beq_iff_eq]at h;omega
 refine⟨fun xs css _ m' q=>∃k:Nat,k≤l.length∧xs=[.int .i64 k]∧(l.drop k=r.drop k↔l=r)∧m.le m'∧q=l.length - k,⟨_,0,by omega,rfl,Iff.rfl,Mem.le_refl _,rfl⟩,?_⟩
 rintro z m1 q bH ⟨k,hk,hz,he,_,hq⟩
 obtain rfl:z=k:=by simpa using hz
 subst hq
 refine Zab (fun bK=>?_) (fun cS=>?_)
 ·have bJ:k < l.length:=by have:=of_decide_eq_true bK;omega
  obtain⟨x,hx⟩:=ZaE bJ
  obtain⟨y,hy⟩:=ZaE (l:=r) (k:=k) (by omega)
  obtain⟨b1,o1,h1,h1'⟩:=ZdP (hl.mono bH) hx
  obtain⟨b2,o2,h2,h2'⟩:=ZdP (hr.mono bH) hy
  rw[Zqy hx hy]at he
  refine⟨b1,o1,h1,⟨by omega,by omega⟩,_,(by rw[Int.toNat_natCast];exact h1'),b2,o2,h2,⟨by omega,by omega⟩,_,(by rw[Int.toNat_natCast];exact h2'),Zaa rfl (Zab (fun h3=>Zah bH ?_) (fun h3=>⟨_,by omega,k+1,bJ,by rw[Zax (by omega) (by omega)];rfl,?_,bH,rfl⟩))⟩
  ·have:¬x=y:=by simpa[intOf]using h3
   simp only[Ret];congr 1
   rw[eq_comm,decide_eq_false_iff_not,←he];exact fun h=>this h.1
  ·have:x=y:=by simpa[intOf]using h3
   rw[←he];simp[this]
 ·have:k=l.length:=by have:=of_decide_eq_false cS;omega
  subst this
  refine Zah bH ?_
  simp only[Ret];congr 1
  rw[eq_comm,decide_eq_true_eq,←he,List.drop_length,bO,List.drop_length]
theorem ZvQ(l r:List QS)(a b:Option Addr)(c d:Nat)(m:Mem)(hl:rowRd m a (ZbU l))(hr:rowRd m b (ZbU r))(hn:l.length≤1000000):CX Try.prog 71 #[.slice a l.length c,.slice b r.length d] m [] (Ret (.bool (decide (l=r)))):=by
 apply ZbH
 unfold Za2
 refine Zab (fun h=>Zah (Mem.le_refl _) ?_) (fun h=>?_)
 ·have:¬l=r:=fun e=>by subst e;simp at h
  simp[Ret,this]
 have bO:l.length=r.length:=by
  simp only[Bool.not_eq_false',beq_iff_eq]at h;omega
 refine⟨fun xs css _ m' q=>∃k:Nat,k≤l.length∧xs=[.int .i64 k]∧(l.drop k=r.drop k↔l=r)∧m.le m'∧q=l.length - k,⟨_,0,by omega,rfl,Iff.rfl,Mem.le_refl _,rfl⟩,?_⟩
 rintro z m1 q bH ⟨k,hk,hz,he,_,hq⟩
 obtain rfl:z=k:=by simpa using hz
 subst hq
 refine Zab (fun bK=>?_) (fun cS=>?_)
 ·have bJ:k < l.length:=by have:=of_decide_eq_true bK;omega
  obtain⟨x,hx⟩:=ZaE bJ
  obtain⟨y,hy⟩:=ZaE (l:=r) (k:=k) (by omega)
  obtain⟨b1,o1,h1,h1'⟩:=Zkm (hl.mono bH) hx
  obtain⟨b2,o2,h2,h2'⟩:=Zkm (hr.mono bH) hy
  rw[Zqy hx hy]at he
  refine⟨b1,o1,h1,⟨by omega,by omega⟩,_,_,_,_,(by rw[Int.toNat_natCast];exact h1'),b2,o2,h2,⟨by omega,by omega⟩,_,_,_,_,(by rw[Int.toNat_natCast];exact h2'),_,ZnX _ _ _ _ _ _ _ _,Zab (fun h3=>Zah bH ?_) (fun h3=>⟨_,by omega,k+1,bJ,by rw[Zax (by omega) (by omega)];rfl,?_,bH,rfl⟩)⟩
  ·have:¬x=y:=fun e=>by subst e;simp at h3
   simp only[Ret];congr 1
   rw[eq_comm,decide_eq_false_iff_not,←he];exact fun h=>this h.1
  ·have:x=y:=by
    obtain⟨x0,x1,x2,x3⟩:=x
    obtain⟨y0,y1,y2,y3⟩:=y
    simp at h3 ⊢
    exact⟨h3.1.1.1,h3.1.1.2,h3.1.2,h3.2⟩
   rw[←he];simp[this]
 ·have:k=l.length:=by have:=of_decide_eq_false cS;omega
  subst this
  refine Zah bH ?_
  simp only[Ret];congr 1
  rw[eq_comm,decide_eq_true_eq,←he,List.drop_length,bO,List.drop_length]
theorem ZvR{st st':Bool}(l r:List (List Int))(v w:Value)(m:Mem)(hl:FolR st l v m)(hr:FolR st' r w m):CX Try.prog 72 #[v,w,.func (.func 23) #[] #[]] m [] (Ret (.bool (decide (l=r)))):=by
 obtain⟨a,c,vs,rfl,h1,h2,h3,h4⟩:=hl
 obtain⟨b,d,ws,rfl,k1,k2,k3,k4⟩:=hr
 apply Zby a l.length c b r.length d _ [] []
 unfold ZaY
 refine Zab (fun h=>Zah (Mem.le_refl _) ?_) (fun h=>?_)
 ·have:¬l=r:=fun e=>by subst e;simp at h
  simp[Ret,this]
 have bO:l.length=r.length:=by
  simp only[Bool.not_eq_false',beq_iff_eq]at h;omega
 refine⟨fun xs css _ m' q=>∃k:Nat,k≤l.length∧xs=[.int .i64 k]∧(l.drop k=r.drop k↔l=r)∧m.le m'∧q=l.length - k,⟨_,0,by omega,rfl,Iff.rfl,Mem.le_refl _,rfl⟩,?_⟩
 rintro z m1 q bH ⟨k,hk,hz,he,_,hq⟩
 obtain rfl:z=k:=by simpa using hz
 subst hq
 refine Zab (fun bK=>?_) (fun cS=>?_)
 ·have bJ:k < l.length:=by have:=of_decide_eq_true bK;omega
  obtain⟨x,hx⟩:=ZaE bJ
  obtain⟨y,hy⟩:=ZaE (l:=r) (k:=k) (by omega)
  obtain⟨vx,pv⟩:=ZaE (l:=vs) (k:=k) (by omega)
  obtain⟨wy,tG⟩:=ZaE (l:=ws) (k:=k) (by omega)
  obtain⟨xa,xc,rfl,fV,gd,hU⟩:=(h4 k vx x pv hx).mono bH
  obtain⟨ya,yc,rfl,ku,eI,iN⟩:=(k4 k wy y tG hy).mono bH
  obtain⟨b1,o1,e1,e1'⟩:=ZgK (h1.mono bH) pv
  obtain⟨b2,o2,e2,e2'⟩:=ZgK (k1.mono bH) tG
  rw[Zqy hx hy]at he
  refine⟨b1,o1,e1,⟨by omega,by omega⟩,_,(by rw[Int.toNat_natCast];exact e1'),b2,o2,e2,⟨by omega,by omega⟩,_,(by rw[Int.toNat_natCast];exact e2'),?_⟩
  refine Zaj (Zpy x y xa ya xc yc m1 fV ku gd) fun m2 bN=>Zab (fun h3=>Zah (Mem.le_trans bH bN) ?_) (fun h3=>⟨_,by omega,k+1,bJ,by rw[Zax (by omega) (by omega)];rfl,?_,Mem.le_trans bH bN,rfl⟩)
  ·have:¬x=y:=by simpa using h3
   simp only[Ret];congr 1
   rw[eq_comm,decide_eq_false_iff_not,←he];exact fun h=>this h.1
  ·have:x=y:=by simpa using h3
   rw[←he];simp[this]
 ·have:k=l.length:=by have:=of_decide_eq_false cS;omega
  subst this
  refine Zah bH ?_
  simp only[Ret];congr 1
  rw[eq_comm,decide_eq_true_eq,←he,List.drop_length,bO,List.drop_length]
theorem Ziq{st st':Bool}(A B:Nf)(v w:Value)(m:Mem)(h:NfR st A v m)(k:NfR st' B w m):CX Try.prog 22 #[v,w] m [] (Ret (.bool (decide (A=B)))):=by
 obtain⟨s,f,x,y,rfl,⟨sa,sc,rfl,hs,eP,jd⟩,hf,⟨xa,xc,rfl,hx,gd,hU⟩,⟨ya,yc,rfl,hy,eI,iN⟩⟩:=h
 obtain⟨s',f',x',y',rfl,⟨sa',sc',rfl,hs',vt,vu⟩,hf',⟨xa',xc',rfl,hx',vv,vA⟩,⟨ya',yc',rfl,hy',vB,vC⟩⟩:=k
 obtain⟨fa,fc,vs,rfl,kn⟩:=id hf
 obtain⟨fa',fc',vs',rfl,vD⟩:=id hf'
 apply Zoi
 unfold ZjF
 intro b m1 bH _ b1 m2 bN _
 have il:=Mem.le_trans bH bN
 obtain⟨As,Af,A1,A2,Ae⟩:=A
 obtain⟨Bs,Bf,B1,B2,Be⟩:=B
 refine⟨decide ((⟨As,Af,A1,A2,Ae⟩:Nf)=⟨Bs,Bf,B1,B2,Be⟩),?_,Zah il rfl⟩
 refine Zaj (ZvQ As Bs _ _ _ _ m2 (hs.mono il) (hs'.mono il) eP) fun m3 cG=>?_
 have me:=Mem.le_trans il cG
 refine Zab (fun e1=>?_) (fun e1=>⟨by trivial,by simp[show ¬As=Bs by simpa using e1]⟩)
 refine Zaj (ZvR Af Bf _ _ m3 (hf.mono me) (hf'.mono me)) fun m4 cY=>?_
 have ko:=Mem.le_trans me cY
 refine Zab (fun e2=>?_) (fun e2=>⟨by trivial,by simp[show ¬Af=Bf by simpa using e2]⟩)
 refine Zaj (Zpy A1 B1 _ _ _ _ m4 (hx.mono ko) (hx'.mono ko) gd) fun m5 dX=>?_
 have iZ:=Mem.le_trans ko dX
 refine Zab (fun e3=>?_) (fun e3=>⟨by trivial,by simp[show ¬A1=B1 by simpa using e3]⟩)
 refine Zaj (Zpy A2 B2 _ _ _ _ m5 (hy.mono iZ) (hy'.mono iZ) eI) fun m6 gu=>?_
 refine Zab (fun e4=>⟨by trivial,?_⟩) (fun e4=>⟨by trivial,by simp[show ¬A2=B2 by simpa using e4]⟩)
 refine congrArg (fun z=>[Value.bool z]) ?_
 rw[Bool.eq_iff_iff]
 simp[of_decide_eq_true e1,of_decide_eq_true e2,of_decide_eq_true e3,of_decide_eq_true e4]
theorem Zir{m:Mem}{a:Option Addr}{xs:List Value}(h:rowRd m a xs)(ha:a.isNone=true):xs=[]:=by
 rcases h with h|⟨b,o,h1,_⟩
 ·exact h
 ·rw[h1]at ha;simp at ha
def At0(v:Value):Prop:=∀b o,slA v=some ⟨b,o,none⟩→o=0
theorem Zqz{m:Mem}{b:Nat}{a':Option Addr}{n c:Nat}{v:Value}(h:TokFact m (some ⟨b,0,none⟩) a' n c)(hv:slA v=a'):At0 v:=fun b' o e=>by
 rcases h.2 with h|⟨b2,o2,h1,h2⟩
 ·rw[hv,h]at e;cases e
 ·rw[hv]at e
  rcases h2 with h2|h2
  ·rw[←h2]at e;cases e;rfl
  ·rw[h1]at e;cases e;exact h2.1
theorem ZsC:At0 (.slice none 0 0):=fun b o e=>by simp[slA]at e
theorem Zpz{st:Bool}(l:List Int)(v:Value)(m:Mem)(h:SlI st l v m):CXT Try.prog 44 #[v] m 1 (fun v m' _=>SlI st l v m'∧At0 v):=by
 obtain⟨a,c,rfl,h1,h2,lE⟩:=h
 apply Zc7
 unfold Zb4
 refine Zab (fun hn=>?_) (fun hn=>⟨⟨rfl,Int.le_refl _,by decide,by decide⟩,fun b hb=>⟨.inl rfl,[],ZaA l,rfl,by rw[Zch];omega,.inl rfl,h1,fun u hu=>?_,by omega,by omega,fun a' c' m' hm' hr fX=>⟨rfl,⟨a',c',by rw[Nat.zero_add],hr,h2,fun e1 e2=>?_⟩,Zqz fX rfl⟩⟩⟩)
 ·have:=Zir h1 hn
  obtain rfl:l=[]:=by simpa[ZaA]using this
  exact⟨rfl,⟨none,0,rfl,.inl rfl,by simp,fun _ _=>rfl⟩,ZsC⟩
 ·obtain⟨i,_,rfl⟩:=List.mem_map.1 hu
  rfl
 ·rw[lE e1 e2]at hn;simp at hn
theorem ZpA(l:List QS)(v:Value)(m:Mem)(h:SlQ true l v m):CXT Try.prog 77 #[v] m 4 (fun v m' _=>SlQ true l v m'∧At0 v):=by
 obtain⟨a,c,rfl,h1,h2,lE⟩:=h
 apply ZbE
 unfold Za3
 refine Zab (fun hn=>?_) (fun hn=>⟨⟨rfl,Int.le_refl _,by decide,by decide⟩,fun b hb=>⟨.inl rfl,[],ZbU l,rfl,by rw[Zdl],.inl rfl,h1,fun u hu=>?_,by omega,by omega,fun a' c' m' hm' hr fX=>⟨rfl,⟨a',c',by rw[Nat.zero_add],hr,h2,fun e1 e2=>?_⟩,Zqz fX rfl⟩⟩⟩)
 ·have:=congrArg List.length (Zir h1 hn)
  rw[Zdl]at this
  obtain rfl:l=[]:=List.eq_nil_of_length_eq_zero (by simp at this;omega)
  exact⟨rfl,⟨none,0,rfl,.inl rfl,by simp,fun _ _=>rfl⟩,ZsC⟩
 ·obtain⟨q,_,hq⟩:=List.mem_flatMap.1 hu
  simp only[List.mem_cons,List.not_mem_nil,or_false]at hq
  rcases hq with rfl|rfl|rfl|rfl <;> rfl
 ·rw[lE e1 e2]at hn;simp at hn
def FreshI(m:Mem)(l:List Int)(v:Value)(m':Mem):Prop:=SlI true l v m'∧∃a c,v=.slice a l.length c∧((a=none∧c=0)∨∃b,a=some ⟨b,0,none⟩∧l.length≤c∧m.free b∧∀q,l.length≤q→q < c→∃u,m' b q=some u)
def ZrU(m:Mem)(l:List QS)(v:Value)(m':Mem):Prop:=SlQ true l v m'∧∀b o,slA v=some ⟨b,o,none⟩→m.free b
theorem FreshI.free{m m':Mem}{l:List Int}{v:Value}(h:FreshI m l v m'):∀b o,slA v=some ⟨b,o,none⟩→m.free b:=fun b o e=>by
 obtain⟨_,a,c,rfl,⟨rfl,_⟩|⟨b',rfl,_,hf,_⟩⟩:=h
 ·simp[slA]at e
 ·simp[slA]at e;exact e.1 ▸ hf
theorem Zis(l:List Int)(v:Value)(m:Mem)(h:SlI true l v m):CX Try.prog 44 #[v] m [] (fun v m' _=>FreshI m l v m'):=(Zpz l v m h).room.mono (by
 rintro v m' css cN ⟨m1,h0,h1,⟨hS,hA⟩,cJ⟩
 refine⟨hS.mono h1,?_⟩
 obtain⟨a,c,rfl,_⟩:=hS
 rcases cJ with e|⟨b,o,n,c2,e,fZ,hf,hq⟩
 ·simp only[Value.slice.injEq]at e
  exact⟨a,c,rfl,.inl ⟨e.1,e.2.2⟩⟩
 ·simp only[Value.slice.injEq]at e
  obtain⟨rfl,rfl,rfl⟩:=e
  obtain rfl:o=0:=hA b o rfl
  exact⟨_,c,rfl,.inr ⟨b,rfl,fZ,hf,fun q g1 g2=>by have:=hq q (by omega) (by omega);rwa [Nat.zero_add]at this⟩⟩)
theorem ZpB(l:List QS)(v:Value)(m:Mem)(h:SlQ true l v m):CX Try.prog 77 #[v] m [] (fun v m' _=>ZrU m l v m'):=(ZpA l v m h).room.mono (by
 rintro v m' css cN ⟨m1,h0,h1,⟨hS,hA⟩,cJ⟩
 refine⟨hS.mono h1,fun b' o' e'=>?_⟩
 rcases cJ with e|⟨b,o,n,c2,e,fZ,hf,hq⟩
 ·rw[e]at e';simp[slA]at e'
 ·rw[e]at e';simp[slA]at e';exact e'.1 ▸ hf)
theorem ZfM{st:Bool}{l:List Int}:∀(v:Value)(m':Mem) (css:List (List Value)),SlI st l v m'→Shape.fits .slice v=true:=by
 rintro v m' css ⟨a,c,rfl,_⟩;rfl
theorem Ztu{st:Bool}{l:List QS}:∀(v:Value)(m':Mem) (css:List (List Value)),SlQ st l v m'→Shape.fits .slice v=true:=by
 rintro v m' css ⟨a,c,rfl,_⟩;rfl
def FolG(m:Mem)(a:Option Addr)(fol:List (List Int)):Prop:=∃vs,rowRd m a vs∧vs.length=fol.length∧∀(i:Nat)(v:Value)(l:List Int),vs[i]?=some v→fol[i]?=some l→SlI true l v m
theorem FolG.mono{m m':Mem}{a:Option Addr}{fol:List (List Int)}(h:FolG m a fol)(k:m.le m'):FolG m' a fol:=by
 obtain⟨vs,h1,h2,h3⟩:=h
 exact⟨vs,h1.mono k,h2,fun i v l hv hl=>(h3 i v l hv hl).mono k⟩
theorem Zfo{m:Mem}{b:Nat}{v:Value}:rowRd (m.add b [v]) (some ⟨b,0,none⟩) [v]:=.inr ⟨b,0,rfl,fun j u hj=>by rw[Nat.zero_add,Mem.add_same];exact hj⟩
theorem ZrV{m m2 M:Mem}{a':Option Addr}{fol:List (List Int)}{l:List Int}{w:Value}{vs:List Value}(h2:vs.length=fol.length)(h3:∀(i:Nat)(v:Value)(l:List Int),vs[i]?=some v→fol[i]?=some l→SlI true l v m)(hm:m.le M)(hr:rowRd m2 a' (vs++[w]))(bN:m2.le M)(hw:SlI true l w M):FolG M a' (fol++[l]):=by
 refine⟨vs++[w],hr.mono bN,by simp[h2],fun i v l' hv hl'=>?_⟩
 rw[List.getElem?_append]at hv hl'
 split at hv
 ·rw[if_pos (by omega)]at hl'
  exact(h3 i v l' hv hl').mono hm
 ·rw[if_neg (by omega)]at hl'
  have e1:=List.getElem?_eq_some_iff.1 hv
  have e2:=List.getElem?_eq_some_iff.1 hl'
  obtain⟨_,e1⟩:=e1
  obtain⟨_,e2⟩:=e2
  rw[List.getElem_singleton]at e1 e2
  subst e1 e2;exact hw
theorem ZjI{st:Bool}{l:List Int}{v:Value}{m:Mem}{B:Nat→Prop}(h:SlI st l v m)(hn:∀b o,slA v=some ⟨b,o,none⟩→l≠[]→¬B b):SlI st l v (m.off B):=by
 obtain⟨a,c,rfl,h1,h2⟩:=h
 refine⟨a,c,rfl,?_,h2⟩
 rcases h1 with h1|⟨b,o,h3,h4⟩
 ·exact .inl h1
 ·by_cases he:l=[]
  ·left;rw[he];rfl
  ·exact .inr ⟨b,o,h3,fun j v hj=>by rw[Mem.off_at (hn b o h3 he)];exact h4 j v hj⟩
theorem ZuO{st:Bool}{l:List QS}{v:Value}{m:Mem}{B:Nat→Prop}(h:SlQ st l v m)(hn:∀b o,slA v=some ⟨b,o,none⟩→l≠[]→¬B b):SlQ st l v (m.off B):=by
 obtain⟨a,c,rfl,h1,h2⟩:=h
 refine⟨a,c,rfl,?_,h2⟩
 rcases h1 with h1|⟨b,o,h3,h4⟩
 ·exact .inl h1
 ·by_cases he:l=[]
  ·left;rw[he];rfl
  ·exact .inr ⟨b,o,h3,fun j v hj=>by rw[Mem.off_at (hn b o h3 he)];exact h4 j v hj⟩
theorem ZuP{xs:List Value}{a:Option Addr}{m:Mem}{B:Nat→Prop}(h:rowRd m a xs)(hn:∀b o,a=some ⟨b,o,none⟩→¬B b):rowRd (m.off B) a xs:=by
 rcases h with h1|⟨b,o,h3,h4⟩
 ·exact .inl h1
 ·exact .inr ⟨b,o,h3,fun j v hj=>by rw[Mem.off_at (hn b o h3)];exact h4 j v hj⟩
theorem ZkE{m:Mem}{a:Option Addr}{xs:List Value}(h:rowRd m a xs)(hx:xs≠[]){b o:Nat}(ha:a=some ⟨b,o,none⟩):¬m.free b:=by
 rcases h with h|⟨b',o',h1,h2⟩
 ·exact absurd h hx
 ·rw[h1]at ha;cases ha
  intro hf
  match xs,hx with
  | x::xs,_=>
   have:=h2 0 x rfl
   rw[hf]at this;cases this
theorem Zgn{l:List Int}{v:Value}{m:Mem}(h:SlI true l v m){b o:Nat}(ha:slA v=some ⟨b,o,none⟩):¬m.free b:=by
 obtain⟨a,c,rfl,h1,h2,h3⟩:=h
 have hl:l≠[]:=fun e=>by have:=h3 rfl e;rw[show slA (.slice a l.length c)=a from rfl,this]at ha;cases ha
 exact ZkE h1 (fun e=>hl (by simpa[ZaA]using e)) ha
theorem ZkF{l:List QS}{v:Value}{m:Mem}(h:SlQ true l v m){b o:Nat}(ha:slA v=some ⟨b,o,none⟩):¬m.free b:=by
 obtain⟨a,c,rfl,h1,h2,h3⟩:=h
 have hl:l≠[]:=fun e=>by have:=h3 rfl e;rw[show slA (.slice a l.length c)=a from rfl,this]at ha;cases ha
 exact ZkE h1 (fun e=>hl (by
  have:=congrArg List.length e
  rw[Zdl]at this
  exact List.eq_nil_of_length_eq_zero (by simp at this;omega))) ha
theorem Ztv{m m':Mem}{b:Nat}(h:m.le m')(hf:m.free b):m.le (m'.off fun k=>k=b):=fun k o v hv=>by
 have hk:k≠b:=fun e=>by subst e;rw[hf o]at hv;cases hv
 rw[Mem.off_at (Y:=fun k=>k=b) hk];exact h k o v hv
theorem Zeh{m m':Mem}(h:m.le m'){b:Nat}(hf:m'.free b):m.free b:=fun o=>by
 cases he:m b o with
 | none=>rfl
 | some v=>have:=h _ _ _ he;rw[hf o]at this;cases this
structure CopyR (A:Nf)(m:Mem)(sa:Option Addr)(sc:Nat)(fa:Option Addr)(fc:Nat)(xa:Option Addr)(xc:Nat)(ya:Option Addr)(yc:Nat)(vs:List Value)(m':Mem):Prop where
 le:m.le m'
 sets:SlQ true A.sets (.slice sa A.sets.length sc) m'
 row:rowRd m' fa vs
 len:vs.length=A.fol.length
 fl:A.fol.length≤1000000
 fol:∀(i:Nat)(v:Value)(l:List Int),vs[i]?=some v→A.fol[i]?=some l→SlI true l v m'∧(∀b o,slA v=some ⟨b,o,none⟩→m.free b∧(∀o',fa≠some ⟨b,o',none⟩)∧(∀o',sa≠some ⟨b,o',none⟩)∧(∀o',xa≠some ⟨b,o',none⟩)∧∀o',ya≠some ⟨b,o',none⟩)
 first:FreshI m A.first (.slice xa A.first.length xc) m'
 last:FreshI m A.last (.slice ya A.last.length yc) m'
 nf:A.fol=[]→fa=none
 fs:∀b o,sa=some ⟨b,o,none⟩→m.free b
 ff:∀b o,fa=some ⟨b,o,none⟩→m.free b
 sf:∀b o o',sa=some ⟨b,o,none⟩→fa≠some ⟨b,o',none⟩
 sx:∀b o o',sa=some ⟨b,o,none⟩→xa≠some ⟨b,o',none⟩
 sy:∀b o o',sa=some ⟨b,o,none⟩→ya≠some ⟨b,o',none⟩
 fx:∀b o o',fa=some ⟨b,o,none⟩→xa≠some ⟨b,o',none⟩
 fy:∀b o o',fa=some ⟨b,o,none⟩→ya≠some ⟨b,o',none⟩
 xy:∀b o o',xa=some ⟨b,o,none⟩→ya≠some ⟨b,o',none⟩
def CopyV(A:Nf)(m:Mem)(v:Value)(m':Mem):Prop:=∃sa sc fa fc xa xc ya yc vs,v=.agg #[.slice sa A.sets.length sc,.slice fa A.fol.length fc,.slice xa A.first.length xc,.slice ya A.last.length yc,.bool A.empty]∧CopyR A m sa sc fa fc xa xc ya yc vs m'
theorem CopyV.nf{A:Nf}{m m':Mem}{v:Value}(h:CopyV A m v m'):NfR true A v m':=by
 obtain⟨sa,sc,fa,fc,xa,xc,ya,yc,vs,rfl,h⟩:=h
 exact⟨_,_,_,_,rfl,h.sets,⟨fa,fc,vs,rfl,h.row,h.len,h.fl,fun i v l hv hl=>(h.fol i v l hv hl).1⟩,h.first.1,h.last.1⟩
theorem FreshI.mono{m m' M:Mem}{l:List Int}{v:Value}(h:FreshI m l v m')(k:m'.le M):FreshI m l v M:=by
 obtain⟨h1,a,c,e,h2⟩:=h
 exact⟨h1.mono k,a,c,e,h2.imp id fun⟨b,g1,g2,g3,g4⟩=>⟨b,g1,g2,g3,fun q q1 q2=>(g4 q q1 q2).imp fun u hu=>k _ _ _ hu⟩⟩
theorem FreshI.less{m m0 m':Mem}{l:List Int}{v:Value}(h:FreshI m l v m')(k:m0.le m):FreshI m0 l v m':=by
 obtain⟨h1,a,c,e,h2⟩:=h
 exact⟨h1,a,c,e,h2.imp id fun⟨b,g1,g2,g3,g4⟩=>⟨b,g1,g2,Zeh k g3,g4⟩⟩
theorem Zit{m:Mem}{l:List Int}:∀(v:Value)(m':Mem) (css:List (List Value)),FreshI m l v m'→Shape.fits .slice v=true:=fun v m' css h=>ZfM v m' css h.1
theorem Zok{m:Mem}{l:List QS}:∀(v:Value)(m':Mem) (css:List (List Value)),ZrU m l v m'→Shape.fits .slice v=true:=fun v m' css h=>Ztu v m' css h.1
def ZwP(A:Nf)(M:Mem)(k:Nat)(a:Option Addr)(m':Mem):Prop:=∃vs,rowRd m' a vs∧vs.length=k∧(k=0→a=none)∧(∀b o,a=some ⟨b,o,none⟩→M.free b)∧
 ∀(i:Nat)(v:Value)(l:List Int),vs[i]?=some v→A.fol[i]?=some l→SlI true l v m'∧∀b o,slA v=some ⟨b,o,none⟩→M.free b∧∀o',a≠some ⟨b,o',none⟩
theorem ZqA(A:Nf)(v:Value)(m:Mem)(h:NfR true A v m)(hN:A.fol.length≤1000):CX Try.prog 26 #[v] m [] (fun v m' _=>CopyV A m v m'):=by
 obtain⟨s,f,x,y,rfl,⟨sa,sc,rfl,hs,eP,jd⟩,⟨fa,fc,vs,rfl,hf,ie,iE,iM⟩,⟨xa,xc,rfl,hx,gd,hU⟩,⟨ya,yc,rfl,hy,eI,iN⟩⟩:=h
 apply Zoj
 unfold ZjG
 intro b0 m1 bH _ _ _ b1
 refine⟨fun i _ m=>if i=2 then(fun v m' _=>ZrU m A.sets v m')else if i=5 then(fun v m' _=>FreshI m A.first v m')else(fun v m' _=>FreshI m A.last v m'),?_⟩
 refine⟨_,rfl,ZpB A.sets _ m1 ⟨sa,sc,rfl,hs.mono bH,eP,jd⟩,Zok,fun a2 n2 c2 m2 bN kK=>?_⟩
 refine⟨_,rfl,Zis A.first _ m2 ⟨xa,xc,rfl,(hx.mono bH).mono bN,gd,hU⟩,Zit,fun a3 n3 c3 m3 cG mg=>?_⟩
 refine⟨_,rfl,Zis A.last _ m3 ⟨ya,yc,rfl,((hy.mono bH).mono bN).mono cG,eI,iN⟩,Zit,fun a4 n4 c4 m4 cY mh=>?_⟩
 have kK:ZrU m1 A.sets (.slice a2 n2 c2) m2:=kK
 have mg:FreshI m2 A.first (.slice a3 n3 c3) m3:=mg
 have mh:FreshI m3 A.last (.slice a4 n4 c4) m4:=mh
 intro b2 M gR fN jA jB
 have jo:m.le M:=Mem.le_trans bH gR
 have je:m.le m2:=Mem.le_trans bH bN
 have oB:m.le m3:=Mem.le_trans je cG
 have en2:n2=A.sets.length:=by obtain⟨⟨_,_,e,_⟩,_⟩:=kK;simp at e;exact e.2.1
 have en3:n3=A.first.length:=by obtain⟨⟨_,_,e,_⟩,_⟩:=mg;simp at e;exact e.2.1
 have en4:n4=A.last.length:=by obtain⟨⟨_,_,e,_⟩,_⟩:=mh;simp at e;exact e.2.1
 subst en2 en3 en4
 have ksM:∀b o,a2=some ⟨b,o,none⟩→¬M.free b:=fun b o e=>ZkF (kK.1.mono fN) e
 have kxM:∀b o,a3=some ⟨b,o,none⟩→¬M.free b:=fun b o e=>Zgn (mg.1.mono jA) e
 have kyM:∀b o,a4=some ⟨b,o,none⟩→¬M.free b:=fun b o e=>Zgn (mh.1.mono jB) e
 refine⟨fun xs css tvs m' q=>∃(k:Nat)(a:Option Addr)(c:Nat),k≤A.fol.length∧xs=[.int .i64 k]∧css=[[.slice a2 A.sets.length c2,.slice a k c,.slice a3 A.first.length c3,.slice a4 A.last.length c4,.bool A.empty]]∧tvs=[.slice a k c]∧M.le m'∧ZwP A M k a m'∧q=A.fol.length - k,
  ⟨_,0,none,0,by omega,rfl,rfl,rfl,Mem.le_refl _,⟨[],.inl rfl,rfl,fun _=>rfl,fun b o e=>(by cases e),fun i v l hv=>by simp at hv⟩,rfl⟩,?_⟩
 rintro z cs a n c m5 q _ ⟨k,a',c',hk,hz,cH,dA,dX,hG,hq⟩
 obtain rfl:z=k:=by simpa using hz
 obtain rfl:cs=_:=by simpa using cH
 simp only[List.cons.injEq,Value.slice.injEq,and_true]at dA
 obtain⟨rfl,rfl,rfl⟩:=dA
 subst hq
 refine Zab (fun bK=>?_) (fun cS=>?_)
 ·have bJ:n < A.fol.length:=by have:=of_decide_eq_true bK;omega
  obtain⟨l,hl⟩:=ZaE bJ
  obtain⟨u,hu⟩:=ZaE (l:=vs) (k:=n) (by omega)
  have vE:=iM n u l hu hl
  obtain⟨fb,fo,fX,fL⟩:=ZgK (hf.mono (Mem.le_trans jo dX)) hu
  refine⟨fb,fo,fX,⟨by omega,by omega⟩,_,(by rw[Int.toNat_natCast];exact fL),fun _ _ m=>(fun v m' _=>FreshI m l v m'),Zap (v:=.slice a n c) rfl ⟨_,rfl,Zis l u m5 (vE.mono (Mem.le_trans jo dX)),Zit,fun a6 n6 c6 m6 gu ll b4 rN=>Zaa rfl ?_⟩⟩
  have ll:FreshI m5 l (.slice a6 n6 c6) m6:=ll
  obtain⟨ws,eD,eC,rO,mW,jl⟩:=hG
  have iF:=Mem.le_add rN [Value.slice a6 n6 c6]
  refine⟨.inl rfl,ws,[.slice a6 n6 c6],by rw[eC];simp[slN],rfl,(eD.mono gu).mono iF,Zfo,by simp[Value.oneCell'],by show(n+1)*24≤_;omega,by show n+1≤_;omega,fun a7 c7 m7 lm rP rQ=>Zaa rfl fun M2 oC rR vF rS=>⟨by trivial,A.fol.length - (n+1),by omega,n+1,a7,c7,by omega,?_,rfl,rfl,Mem.le_trans dX oC,?_,rfl⟩⟩
  ·rw[Zax (by omega) (by omega)];rfl
  ·have cU:∀b o,a7=some ⟨b,o,none⟩→a=a7∨(m6.add b4 [Value.slice a6 n6 c6]).free b:=fun b o e=>by
    rcases rQ.2 with h|⟨b',o',h1,h2⟩
    ·rw[h]at e;cases e
    ·rw[h1]at e;cases e
     exact h2.imp id (·.2)
   have mV:=Mem.le_trans dX (Mem.le_trans gu iF)
   refine⟨ws++[.slice a6 n6 c6],rP.mono rS,by simp[eC],fun e=>by omega,fun b o e=>?_,fun i v l' hv hl'=>?_⟩
   ·rcases cU b o e with h|h
    ·exact mW b o (h.trans e)
    ·exact Zeh mV h
   ·rw[List.getElem?_append]at hv
    split at hv
    ·obtain⟨g1,g2⟩:=jl i v l' hv hl'
     refine⟨g1.mono oC,fun b o e=>⟨(g2 b o e).1,fun o' e7=>?_⟩⟩
     rcases cU b o' e7 with h|h
     ·exact(g2 b o e).2 o' (h.trans e7)
     ·exact Zgn (g1.mono (Mem.le_trans gu iF)) e h
    ·rename_i cS
     have gL:i=n:=by
      have:=(List.getElem?_eq_some_iff.1 hv).1
      simp at this;omega
     subst gL
     rw[eC,Nat.sub_self]at hv
     obtain rfl:Value.slice a6 n6 c6=v:=by simpa using hv
     obtain rfl:l=l':=by rw[hl]at hl';exact Option.some.inj hl'
     refine⟨ll.1.mono rR,fun b o e=>⟨Zeh dX (ll.free b o e),fun o' e7=>?_⟩⟩
     rcases cU b o' e7 with h|h
     ·have vG:i≠0:=fun e0=>by rw[rO e0]at h;rw[←h]at e7;cases e7
      exact ZkE eD (fun e0=>vG (by rw[←eC,e0];rfl)) (h.trans e7) (ll.free b o e)
     ·exact Zgn (ll.1.mono iF) e h
 ·have:n=A.fol.length:=by have:=of_decide_eq_false cS;omega
  subst this
  obtain⟨ws,eD,eC,rO,mW,jl⟩:=hG
  refine Zaa rfl ⟨m5,Mem.le_trans jo dX,Mem.le_refl _,a2,c2,a,c,a3,c3,a4,c4,ws,rfl,?_⟩
  exact {
   le:=Mem.le_trans jo dX
   sets:=kK.1.mono (Mem.le_trans fN dX)
   row:=eD
   len:=eC
   fl:=by omega
   fol:=fun i v l hv hl=>⟨(jl i v l hv hl).1,fun b o e=>⟨Zeh jo ((jl i v l hv hl).2 b o e).1,((jl i v l hv hl).2 b o e).2,fun o' es=>ksM b o' es ((jl i v l hv hl).2 b o e).1,fun o' es=>kxM b o' es ((jl i v l hv hl).2 b o e).1,fun o' es=>kyM b o' es ((jl i v l hv hl).2 b o e).1⟩⟩
   first:=(mg.less je).mono (Mem.le_trans jA dX)
   last:=(mh.less oB).mono (Mem.le_trans jB dX)
   nf:=fun e=>rO (by rw[e];rfl)
   fs:=fun b o e=>Zeh bH (kK.2 b o e)
   ff:=fun b o e=>Zeh jo (mW b o e)
   sf:=fun b o o' es ef=>ksM b o es (mW b o' ef)
   sx:=fun b o o' es ex=>ZkF kK.1 es (mg.free b o' ex)
   sy:=fun b o o' es ey=>ZkF (kK.1.mono cG) es (mh.free b o' ey)
   fx:=fun b o o' ef ex=>kxM b o' ex (mW b o ef)
   fy:=fun b o o' ef ey=>kyM b o' ey (mW b o ef)
   xy:=fun b o o' ex ey=>Zgn mg.1 ex (mh.free b o' ey) }
theorem Ztw(A:Nf)(v:Value)(m:Mem)(h:NfR true A v m)(hN:A.fol.length≤1000):CX Try.prog 26 #[v] m [] (fun v m' _=>NfR true A v m'):=(ZqA A v m h hN).mono fun _ _ _ _ h=>h.nf
end Go.Proofs.Ytplacemlpkhmfaa

