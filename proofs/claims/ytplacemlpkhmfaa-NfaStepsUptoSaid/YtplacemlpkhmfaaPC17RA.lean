/- Part of the proof: conditions and contracts of functions of this program. No condition of its own. -/
import Derived.Test.YtplacemlpkhmfaaPC17A
import Derived.Test.YtplacemlpkhmfaaPVNR
import Derived.Test.YtplacemlpkhmfaaPC13B
import Derived.Test.YtplacemlpkhmfaaMr
set_option linter.unusedVariables false
set_option linter.unusedSimpArgs false
namespace Go.Proofs.Ytplacemlpkhmfaa
open Go Go.Eng Go.Rx Go.Proofs Go.RowKit
set_option maxRecDepth 100000
theorem Zam{α:Type}{l:List α}{k:Nat}(h:k < l.length):∃x,l[k]?=some x:=⟨l[k],by simp[h]⟩
theorem Zce{α:Type}{l:List α}{k:Nat}{x:α}(h:l[k]?=some x):l.drop k=x::l.drop (k+1):=by
 obtain⟨hk,he⟩:=List.getElem?_eq_some_iff.1 h
 rw[List.drop_eq_getElem_cons hk,he]
theorem Zhx(l:List Int)(lo hi:Int)(a:Option Addr)(c:Nat)(m:Mem)(h:rowRd m a (Zaq l))(hl:l.length≤1000000)(s9 : -10≤lo∧lo≤10):CX Try.prog 70 #[.slice a l.length c,.int .i64 lo,.int .i64 hi] m [] (Ret (.bool (ZbC l (lo - 1) hi))):=by
 apply Zj6
 unfold Zgp
 refine⟨fun xs _ _ m' q=>∃(k:Nat)(z:Int),k≤l.length∧xs=[.int .i64 z,.int .i64 k]∧ZbC (l.drop k) z hi=ZbC l (lo - 1) hi∧m.le m'∧q=l.length - k,⟨_,0,lo - 1,Nat.zero_le _,by rw[Zau (by omega) (by omega)];rfl,rfl,Mem.le_refl _,rfl⟩,?_⟩
 rintro z' k' m1 q bE ⟨k,z,hk,hx,he,_,hq⟩
 simp only[List.cons.injEq,Value.int.injEq,true_and,and_true]at hx
 obtain⟨rfl,rfl⟩:=hx
 subst hq
 refine Zab (fun bV=>?_) (fun cM=>?_)
 ·have bF:k < l.length:=by have:=of_decide_eq_true bV;omega
  obtain⟨x,hx⟩:=Zam bF
  obtain⟨b,o,gj,cN⟩:=Zba (h.mono bE) hx
  rw[Zce hx,ZbC]at he
  refine⟨b,o,gj,⟨by omega,by omega⟩,_,(by rw[Int.toNat_natCast];exact cN),!(decide (z' < x)&&decide (x≤hi)),Zaa rfl (Zab (fun h1=>?_) (fun h1=>Zaa rfl ?_)),Zab (fun h2=>Zad bE ?_) (fun h2=>Zaa rfl ⟨_,by omega,k+1,x,bF,by rw[Zau (by omega) (by omega)];rfl,?_,bE,rfl⟩)⟩
  ·have:¬z' < x:=by have:=of_decide_eq_true h1;simp only[intOf]at this;omega
   simp[this]
  ·have h1':z' < x:=by have:=of_decide_eq_false h1;simp only[intOf]at this;omega
   simp only[h1',decide_true,Bool.true_and,intOf]
   refine congrArg (fun z=>[Value.bool z]) ?_
   rw[Bool.eq_iff_iff];simp
  ·simp only[Bool.not_eq_true']at h2
   rw[←he]
   show Value.bool false=_
   congr 1
   rw[←Bool.and_assoc,h2,Bool.false_and]
  ·simp only[Bool.not_eq_false']at h2
   rw[←he,←Bool.and_assoc,h2,Bool.true_and]
 ·have:k=l.length:=by have:=of_decide_eq_false cM;omega
  subst this
  rw[List.drop_length,ZbC]at he
  refine Zad bE ?_
  rw[←he]
theorem ZpR{α:Type}{l:List α}{p:α→Bool}{k:Nat}{x:α}(h:l[k]?=some x):(l.drop k).all p=(p x&&(l.drop (k+1)).all p):=by
 rw[Zce h,List.all_cons]
theorem Zj8{st:Bool}(A:Nf)(v:Value)(m:Mem)(h:NfR st A v m):CX Try.prog 21 #[v] m [] (Ret (.bool A.right)):=by
 obtain⟨s,f,x,y,rfl,⟨sa,sc,rfl,hs,dP,iN⟩,⟨fa,fc,vs,rfl,hf,f9,gZ,fW⟩,⟨xa,xc,rfl,hx,eD,gz⟩,⟨ya,yc,rfl,hy,dD,hH⟩⟩:=h
 apply ZlP
 unfold Zhq
 intro b m1 bE _
 have hw:IntKind.i64.wrap ((A.sets.length:Int) - 1)=A.top:=Zau (by omega) (by omega)
 simp only[hw]
 refine⟨!(decide (A.sets.length≤400)&&(decide (A.fol.length=A.sets.length)&&(ZbC A.first (-1) A.top&&ZbC A.last (-1) A.top))),?_,?_⟩
 ·refine Zab (fun h1=>⟨by trivial,?_⟩) (fun h1=>Zab (fun h2=>⟨by trivial,?_⟩) (fun h2=>?_))
  ·have:¬A.sets.length≤400:=by have:=of_decide_eq_true h1;omega
   simp[this]
  ·have:¬A.fol.length=A.sets.length:=by
    simp only[Bool.not_eq_true',beq_eq_false_iff_ne,ne_eq]at h2;omega
   simp[this]
  ·have h1':A.sets.length≤400:=by have:=of_decide_eq_false h1;omega
   have h2':A.fol.length=A.sets.length:=by
    simp only[Bool.not_eq_false',beq_iff_eq]at h2;omega
   refine Zah (Zhx A.first 0 A.top xa xc m1 (hx.mono bE) eD ⟨by omega,by omega⟩) fun m2 bZ=>Zab (fun h3=>⟨by trivial,?_⟩) (fun h3=>?_)
   ·have:ZbC A.first (-1) A.top=false:=by simpa using h3
    simp[this]
   ·have h3':ZbC A.first (-1) A.top=true:=by simpa using h3
    refine Zah (Zhx A.last 0 A.top ya yc m2 ((hy.mono bE).mono bZ) dD ⟨by omega,by omega⟩) fun m3 cD=>⟨by trivial,?_⟩
    simp[h1',h2',h3']
 ·refine Zab (fun h1=>Zad bE ?_) (fun h1=>?_)
  ·simp only[Bool.not_eq_true']at h1
   show Value.bool false=.bool A.right
   congr 1
   unfold Nf.right
   revert h1
   cases decide (A.sets.length≤400) <;> cases decide (A.fol.length=A.sets.length) <;> cases ZbC A.first (-1) A.top <;> cases ZbC A.last (-1) A.top <;> simp
  ·simp only[Bool.not_eq_false',Bool.and_eq_true,decide_eq_true_eq]at h1
   obtain⟨rE,oz,rF,rG⟩:=h1
   have hA:A.right=(A.fol.zip A.sets).all fun p=>ZbC p.1 (-1) A.top&&!(p.2 == zQ):=by
    unfold Nf.right;simp[rE,oz,rF,rG]
   have gV:(A.fol.zip A.sets).length=A.fol.length:=by simp[oz]
   refine⟨fun xs _ _ m' q=>∃k:Nat,k≤A.fol.length∧xs=[.int .i64 k]∧((A.fol.zip A.sets).drop k).all (fun p=>ZbC p.1 (-1) A.top&&!(p.2 == zQ))=A.right∧m.le m'∧q=A.fol.length - k,⟨_,0,Nat.zero_le _,rfl,by rw[hA];rfl,bE,rfl⟩,?_⟩
   rintro z m2 q bZ ⟨k,hk,hz,he,_,hq⟩
   obtain rfl:z=k:=by simpa using hz
   subst hq
   have ge:=Mem.le_trans bE bZ
   refine Zab (fun bV=>?_) (fun cM=>?_)
   ·have bF:k < A.fol.length:=by have:=of_decide_eq_true bV;omega
    obtain⟨l,hl⟩:=Zam bF
    obtain⟨q4,kA⟩:=Zam (l:=A.sets) (k:=k) (by omega)
    obtain⟨u,hu⟩:=Zam (l:=vs) (k:=k) (by omega)
    obtain⟨la,lc,rfl,pT,dL,tC⟩:=(fW k u l hu hl).mono ge
    obtain⟨fb,fo,gE,eA⟩:=ZbX (hf.mono ge) hu
    have mj:(A.fol.zip A.sets)[k]?=some (l,q4):=List.getElem?_zip_eq_some.2 ⟨hl,kA⟩
    rw[ZpR mj]at he
    refine⟨fb,fo,gE,⟨by omega,by omega⟩,_,(by rw[Int.toNat_natCast];exact eA),!(ZbC l (-1) A.top&&!(q4 == zQ)),?_,Zab (fun h2=>Zad ge ?_) (fun h2=>⟨by trivial,_,by omega,k+1,bF,by rw[Zau (by omega) (by omega)];rfl,?_,ge,rfl⟩)⟩
    ·refine Zah (Zhx l 0 A.top la lc m2 pT dL ⟨by omega,by omega⟩) fun m3 cD=>Zab (fun h3=>⟨by trivial,?_⟩) (fun h3=>?_)
     ·have:ZbC l (-1) A.top=false:=by simpa using h3
      simp[this]
     ·have h3':ZbC l (-1) A.top=true:=by simpa using h3
      obtain⟨sb,so,iA,eB⟩:=Zgi (hs.mono ge) kA
      refine⟨sb,so,iA,⟨by omega,by omega⟩,_,_,_,_,(by rw[Int.toNat_natCast];exact eB.mono cD),_,ZoU _ _ _ _ _ _ _ _,by trivial,?_⟩
      simp only[h3',Bool.true_and,Bool.not_not]
      refine congrArg (fun z=>[Value.bool z]) ?_
      obtain⟨q0,q1,q2,q3⟩:=q4
      show _=((q0,q1,q2,q3) == ((0,0,0,0):QS))
      rw[Bool.eq_iff_iff]
      simp[and_assoc]
    ·simp only[Bool.not_eq_true']at h2
     rw[←he,h2];rfl
    ·simp only[Bool.not_eq_false']at h2
     rw[←he,h2,Bool.true_and]
   ·have:k=A.fol.length:=by have:=of_decide_eq_false cM;omega
    subst this
    refine Zad ge ?_
    rw[←he,←gV,List.drop_length];rfl
theorem ZnK{α:Type}{l r:List α}{k:Nat}{x y:α}(hx:l[k]?=some x)(hy:r[k]?=some y):l.drop k=r.drop k↔(x=y∧l.drop (k+1)=r.drop (k+1)):=by
 rw[Zce hx,Zce hy,List.cons.injEq]
theorem Ziu(l r:List Int)(a b:Option Addr)(c d:Nat)(m:Mem)(hl:rowRd m a (Zaq l))(hr:rowRd m b (Zaq r))(hn:l.length≤1000000):CX Try.prog 23 #[.slice a l.length c,.slice b r.length d] m [] (Ret (.bool (decide (l=r)))):=by
 apply Zc1
 unfold ZbO
 refine Zab (fun h=>Zad (Mem.le_refl _) ?_) (fun h=>?_)
 ·have:¬l=r:=fun e=>by subst e;simp at h
  simp[Ret,this]
 have bY:l.length=r.length:=by
  simp only[Bool.not_eq_false',beq_iff_eq]at h;omega
 refine⟨fun xs css _ m' q=>∃k:Nat,k≤l.length∧xs=[.int .i64 k]∧(l.drop k=r.drop k↔l=r)∧m.le m'∧q=l.length - k,⟨_,0,by omega,rfl,Iff.rfl,Mem.le_refl _,rfl⟩,?_⟩
 rintro z m1 q bE ⟨k,hk,hz,he,_,hq⟩
 obtain rfl:z=k:=by simpa using hz
 subst hq
 refine Zab (fun bV=>?_) (fun cM=>?_)
 ·have bF:k < l.length:=by have:=of_decide_eq_true bV;omega
  obtain⟨x,hx⟩:=Zam bF
  obtain⟨y,hy⟩:=Zam (l:=r) (k:=k) (by omega)
  obtain⟨b1,o1,h1,h1'⟩:=Zba (hl.mono bE) hx
  obtain⟨b2,o2,h2,h2'⟩:=Zba (hr.mono bE) hy
  rw[ZnK hx hy]at he
  refine⟨b1,o1,h1,⟨by omega,by omega⟩,_,(by rw[Int.toNat_natCast];exact h1'),b2,o2,h2,⟨by omega,by omega⟩,_,(by rw[Int.toNat_natCast];exact h2'),Zaa rfl (Zab (fun h3=>Zad bE ?_) (fun h3=>⟨_,by omega,k+1,bF,by rw[Zau (by omega) (by omega)];rfl,?_,bE,rfl⟩))⟩
  ·have:¬x=y:=by simpa[intOf]using h3
   simp only[Ret];congr 1
   rw[eq_comm,decide_eq_false_iff_not,←he];exact fun h=>this h.1
  ·have:x=y:=by simpa[intOf]using h3
   rw[←he];simp[this]
 ·have:k=l.length:=by have:=of_decide_eq_false cM;omega
  subst this
  refine Zad bE ?_
  simp only[Ret];congr 1
  rw[eq_comm,decide_eq_true_eq,←he,List.drop_length,bY,List.drop_length]
theorem ZuW(l r:List QS)(a b:Option Addr)(c d:Nat)(m:Mem)(hl:rowRd m a (Zby l))(hr:rowRd m b (Zby r))(hn:l.length≤1000000):CX Try.prog 71 #[.slice a l.length c,.slice b r.length d] m [] (Ret (.bool (decide (l=r)))):=by
 apply ZbA
 unfold ZaV
 refine Zab (fun h=>Zad (Mem.le_refl _) ?_) (fun h=>?_)
 ·have:¬l=r:=fun e=>by subst e;simp at h
  simp[Ret,this]
 have bY:l.length=r.length:=by
  simp only[Bool.not_eq_false',beq_iff_eq]at h;omega
 refine⟨fun xs css _ m' q=>∃k:Nat,k≤l.length∧xs=[.int .i64 k]∧(l.drop k=r.drop k↔l=r)∧m.le m'∧q=l.length - k,⟨_,0,by omega,rfl,Iff.rfl,Mem.le_refl _,rfl⟩,?_⟩
 rintro z m1 q bE ⟨k,hk,hz,he,_,hq⟩
 obtain rfl:z=k:=by simpa using hz
 subst hq
 refine Zab (fun bV=>?_) (fun cM=>?_)
 ·have bF:k < l.length:=by have:=of_decide_eq_true bV;omega
  obtain⟨x,hx⟩:=Zam bF
  obtain⟨y,hy⟩:=Zam (l:=r) (k:=k) (by omega)
  obtain⟨b1,o1,h1,h1'⟩:=Zgi (hl.mono bE) hx
  obtain⟨b2,o2,h2,h2'⟩:=Zgi (hr.mono bE) hy
  rw[ZnK hx hy]at he
  refine⟨b1,o1,h1,⟨by omega,by omega⟩,_,_,_,_,(by rw[Int.toNat_natCast];exact h1'),b2,o2,h2,⟨by omega,by omega⟩,_,_,_,_,(by rw[Int.toNat_natCast];exact h2'),_,ZoU _ _ _ _ _ _ _ _,Zab (fun h3=>Zad bE ?_) (fun h3=>⟨_,by omega,k+1,bF,by rw[Zau (by omega) (by omega)];rfl,?_,bE,rfl⟩)⟩
  ·have:¬x=y:=fun e=>by subst e;simp at h3
   simp only[Ret];congr 1
   rw[eq_comm,decide_eq_false_iff_not,←he];exact fun h=>this h.1
  ·have:x=y:=by
    obtain⟨x0,x1,x2,x3⟩:=x
    obtain⟨y0,y1,y2,y3⟩:=y
    simp at h3 ⊢
    exact⟨h3.1.1.1,h3.1.1.2,h3.1.2,h3.2⟩
   rw[←he];simp[this]
 ·have:k=l.length:=by have:=of_decide_eq_false cM;omega
  subst this
  refine Zad bE ?_
  simp only[Ret];congr 1
  rw[eq_comm,decide_eq_true_eq,←he,List.drop_length,bY,List.drop_length]
theorem ZtW{st st':Bool}(l r:List (List Int))(v w:Value)(m:Mem)(hl:FolR st l v m)(hr:FolR st' r w m):CX Try.prog 72 #[v,w,.func (.func 23) #[] #[]] m [] (Ret (.bool (decide (l=r)))):=by
 obtain⟨a,c,vs,rfl,h1,h2,h3,h4⟩:=hl
 obtain⟨b,d,ws,rfl,k1,k2,k3,k4⟩:=hr
 apply Zbk a l.length c b r.length d _ [] []
 unfold ZaR
 refine Zab (fun h=>Zad (Mem.le_refl _) ?_) (fun h=>?_)
 ·have:¬l=r:=fun e=>by subst e;simp at h
  simp[Ret,this]
 have bY:l.length=r.length:=by
  simp only[Bool.not_eq_false',beq_iff_eq]at h;omega
 refine⟨fun xs css _ m' q=>∃k:Nat,k≤l.length∧xs=[.int .i64 k]∧(l.drop k=r.drop k↔l=r)∧m.le m'∧q=l.length - k,⟨_,0,by omega,rfl,Iff.rfl,Mem.le_refl _,rfl⟩,?_⟩
 rintro z m1 q bE ⟨k,hk,hz,he,_,hq⟩
 obtain rfl:z=k:=by simpa using hz
 subst hq
 refine Zab (fun bV=>?_) (fun cM=>?_)
 ·have bF:k < l.length:=by have:=of_decide_eq_true bV;omega
  obtain⟨x,hx⟩:=Zam bF
  obtain⟨y,hy⟩:=Zam (l:=r) (k:=k) (by omega)
  obtain⟨vx,pH⟩:=Zam (l:=vs) (k:=k) (by omega)
  obtain⟨wy,tD⟩:=Zam (l:=ws) (k:=k) (by omega)
  obtain⟨xa,xc,rfl,iI,eD,gz⟩:=(h4 k vx x pH hx).mono bE
  obtain⟨ya,yc,rfl,kw,dD,hH⟩:=(k4 k wy y tD hy).mono bE
  obtain⟨b1,o1,e1,e1'⟩:=ZbX (h1.mono bE) pH
  obtain⟨b2,o2,e2,e2'⟩:=ZbX (k1.mono bE) tD
  rw[ZnK hx hy]at he
  refine⟨b1,o1,e1,⟨by omega,by omega⟩,_,(by rw[Int.toNat_natCast];exact e1'),b2,o2,e2,⟨by omega,by omega⟩,_,(by rw[Int.toNat_natCast];exact e2'),?_⟩
  refine Zah (Ziu x y xa ya xc yc m1 iI kw eD) fun m2 bZ=>Zab (fun h3=>Zad (Mem.le_trans bE bZ) ?_) (fun h3=>⟨_,by omega,k+1,bF,by rw[Zau (by omega) (by omega)];rfl,?_,Mem.le_trans bE bZ,rfl⟩)
  ·have:¬x=y:=by simpa using h3
   simp only[Ret];congr 1
   rw[eq_comm,decide_eq_false_iff_not,←he];exact fun h=>this h.1
  ·have:x=y:=by simpa using h3
   rw[←he];simp[this]
 ·have:k=l.length:=by have:=of_decide_eq_false cM;omega
  subst this
  refine Zad bE ?_
  simp only[Ret];congr 1
  rw[eq_comm,decide_eq_true_eq,←he,List.drop_length,bY,List.drop_length]
theorem Zj9{st st':Bool}(A B:Nf)(v w:Value)(m:Mem)(h:NfR st A v m)(k:NfR st' B w m):CX Try.prog 22 #[v,w] m [] (Ret (.bool (decide (A=B)))):=by
 obtain⟨s,f,x,y,rfl,⟨sa,sc,rfl,hs,dP,iN⟩,hf,⟨xa,xc,rfl,hx,eD,gz⟩,⟨ya,yc,rfl,hy,dD,hH⟩⟩:=h
 obtain⟨s',f',x',y',rfl,⟨sa',sc',rfl,hs',oA,rH⟩,hf',⟨xa',xc',rfl,hx',oB,oC⟩,⟨ya',yc',rfl,hy',oD,oE⟩⟩:=k
 obtain⟨fa,fc,vs,rfl,kL⟩:=id hf
 obtain⟨fa',fc',vs',rfl,rI⟩:=id hf'
 apply ZnE
 unfold Zjh
 intro b m1 bE _ b1 m2 bZ _
 have dE:=Mem.le_trans bE bZ
 obtain⟨As,Af,A1,A2,Ae⟩:=A
 obtain⟨Bs,Bf,B1,B2,Be⟩:=B
 refine⟨decide ((⟨As,Af,A1,A2,Ae⟩:Nf)=⟨Bs,Bf,B1,B2,Be⟩),?_,Zad dE rfl⟩
 refine Zah (ZuW As Bs _ _ _ _ m2 (hs.mono dE) (hs'.mono dE) dP) fun m3 cD=>?_
 have iB:=Mem.le_trans dE cD
 refine Zab (fun e1=>?_) (fun e1=>⟨by trivial,by simp[show ¬As=Bs by simpa using e1]⟩)
 refine Zah (ZtW Af Bf _ _ m3 (hf.mono iB) (hf'.mono iB)) fun m4 cZ=>?_
 have iC:=Mem.le_trans iB cZ
 refine Zab (fun e2=>?_) (fun e2=>⟨by trivial,by simp[show ¬Af=Bf by simpa using e2]⟩)
 refine Zah (Ziu A1 B1 _ _ _ _ m4 (hx.mono iC) (hx'.mono iC) eD) fun m5 dB=>?_
 have iD:=Mem.le_trans iC dB
 refine Zab (fun e3=>?_) (fun e3=>⟨by trivial,by simp[show ¬A1=B1 by simpa using e3]⟩)
 refine Zah (Ziu A2 B2 _ _ _ _ m5 (hy.mono iD) (hy'.mono iD) dD) fun m6 gd=>?_
 refine Zab (fun e4=>⟨by trivial,?_⟩) (fun e4=>⟨by trivial,by simp[show ¬A2=B2 by simpa using e4]⟩)
 refine congrArg (fun z=>[Value.bool z]) ?_
 rw[Bool.eq_iff_iff]
 simp[of_decide_eq_true e1,of_decide_eq_true e2,of_decide_eq_true e3,of_decide_eq_true e4]
theorem Zla{m:Mem}{a:Option Addr}{xs:List Value}(h:rowRd m a xs)(ha:a.isNone=true):xs=[]:=by
 rcases h with h|⟨b,o,h1,_⟩
 ·exact h
 ·rw[h1]at ha;simp at ha
def At0(v:Value):Prop:=∀b o,slA v=some ⟨b,o,none⟩→o=0
theorem ZpS{m:Mem}{b:Nat}{a':Option Addr}{n c:Nat}{v:Value}(h:TokFact m (some ⟨b,0,none⟩) a' n c)(hv:slA v=a'):At0 v:=fun b' o e=>by
 rcases h.2 with h|⟨b2,o2,h1,h2⟩
 ·rw[hv,h]at e;cases e
 ·rw[hv]at e
  rcases h2 with h2|h2
  ·rw[←h2]at e;cases e;rfl
  ·rw[h1]at e;cases e;exact h2.1
theorem ZrW:At0 (.slice none 0 0):=fun b o e=>by simp[slA]at e
theorem Zlb{st:Bool}(l:List Int)(v:Value)(m:Mem)(h:SlI st l v m):CXT Try.prog 44 #[v] m 1 (fun v m' _=>SlI st l v m'∧At0 v):=by
 obtain⟨a,c,rfl,h1,h2,lK⟩:=h
 apply ZcN
 unfold ZbP
 refine Zab (fun hn=>?_) (fun hn=>⟨⟨rfl,Int.le_refl _,by decide,by decide⟩,fun b hb=>⟨.inl rfl,[],Zaq l,rfl,by rw[ZcZ];omega,.inl rfl,h1,fun u hu=>?_,by omega,by omega,fun a' c' m' hm' hr gE=>⟨rfl,⟨a',c',by rw[Nat.zero_add],hr,h2,fun e1 e2=>?_⟩,ZpS gE rfl⟩⟩⟩)
 ·have:=Zla h1 hn
  obtain rfl:l=[]:=by simpa[Zaq]using this
  exact⟨rfl,⟨none,0,rfl,.inl rfl,by simp,fun _ _=>rfl⟩,ZrW⟩
 ·obtain⟨i,_,rfl⟩:=List.mem_map.1 hu
  rfl
 ·rw[lK e1 e2]at hn;simp at hn
theorem Zhy{st:Bool}(l:List Int)(v:Value)(m:Mem)(h:SlI st l v m):CX Try.prog 44 #[v] m [] (fun v m' _=>SlI st l v m'):=(Zlb l v m h).toCX.mono fun _ _ _ _ h=>h.1
theorem Zo1{st:Bool}(l:List QS)(v:Value)(m:Mem)(h:SlQ st l v m):CXT Try.prog 77 #[v] m 4 (fun v m' _=>SlQ st l v m'∧At0 v):=by
 obtain⟨a,c,rfl,h1,h2,lK⟩:=h
 apply Zbu
 unfold ZaW
 refine Zab (fun hn=>?_) (fun hn=>⟨⟨rfl,Int.le_refl _,by decide,by decide⟩,fun b hb=>⟨.inl rfl,[],Zby l,rfl,by rw[Zep],.inl rfl,h1,fun u hu=>?_,by omega,by omega,fun a' c' m' hm' hr gE=>⟨rfl,⟨a',c',by rw[Nat.zero_add],hr,h2,fun e1 e2=>?_⟩,ZpS gE rfl⟩⟩⟩)
 ·have:=congrArg List.length (Zla h1 hn)
  rw[Zep]at this
  obtain rfl:l=[]:=List.eq_nil_of_length_eq_zero (by simp at this;omega)
  exact⟨rfl,⟨none,0,rfl,.inl rfl,by simp,fun _ _=>rfl⟩,ZrW⟩
 ·obtain⟨q,_,hq⟩:=List.mem_flatMap.1 hu
  simp only[List.mem_cons,List.not_mem_nil,or_false]at hq
  rcases hq with rfl|rfl|rfl|rfl <;> rfl
 ·rw[lK e1 e2]at hn;simp at hn
def FreshI(m:Mem)(l:List Int)(v:Value)(m':Mem):Prop:=SlI true l v m'∧∃a c,v=.slice a l.length c∧((a=none∧c=0)∨∃b,a=some ⟨b,0,none⟩∧l.length≤c∧m.free b∧∀q,l.length≤q→q < c→∃u,m' b q=some u)
theorem FreshI.free{m m':Mem}{l:List Int}{v:Value}(h:FreshI m l v m'):∀b o,slA v=some ⟨b,o,none⟩→m.free b:=fun b o e=>by
 obtain⟨_,a,c,rfl,⟨rfl,_⟩|⟨b',rfl,_,hf,_⟩⟩:=h
 ·simp[slA]at e
 ·simp[slA]at e;exact e.1 ▸ hf
theorem ZbH{st:Bool}{l:List Int}:∀(v:Value)(m':Mem) (css:List (List Value)),SlI st l v m'→Shape.fits .slice v=true:=by
 rintro v m' css ⟨a,c,rfl,_⟩;rfl
theorem ZsJ{st:Bool}{l:List QS}:∀(v:Value)(m':Mem) (css:List (List Value)),SlQ st l v m'→Shape.fits .slice v=true:=by
 rintro v m' css ⟨a,c,rfl,_⟩;rfl
def FolG(m:Mem)(a:Option Addr)(fol:List (List Int)):Prop:=∃vs,rowRd m a vs∧vs.length=fol.length∧∀(i:Nat)(v:Value)(l:List Int),vs[i]?=some v→fol[i]?=some l→SlI true l v m
theorem FolG.mono{m m':Mem}{a:Option Addr}{fol:List (List Int)}(h:FolG m a fol)(k:m.le m'):FolG m' a fol:=by
 obtain⟨vs,h1,h2,h3⟩:=h
 exact⟨vs,h1.mono k,h2,fun i v l hv hl=>(h3 i v l hv hl).mono k⟩
theorem Zgq{m:Mem}{b:Nat}{v:Value}:rowRd (m.add b [v]) (some ⟨b,0,none⟩) [v]:=.inr ⟨b,0,rfl,fun j u hj=>by rw[Nat.zero_add,Mem.add_same];exact hj⟩
theorem Zq8{m m2 M:Mem}{a':Option Addr}{fol:List (List Int)}{l:List Int}{w:Value}{vs:List Value}(h2:vs.length=fol.length)(h3:∀(i:Nat)(v:Value)(l:List Int),vs[i]?=some v→fol[i]?=some l→SlI true l v m)(hm:m.le M)(hr:rowRd m2 a' (vs++[w]))(bZ:m2.le M)(hw:SlI true l w M):FolG M a' (fol++[l]):=by
 refine⟨vs++[w],hr.mono bZ,by simp[h2],fun i v l' hv hl'=>?_⟩
 rw[List.getElem?_append]at hv hl'
 split at hv
 ·rw[if_pos (by omega)]at hl'
  exact(h3 i v l' hv hl').mono hm
 ·rw[if_neg (by omega)]at hl'
  have e1:=List.getElem?_eq_some_iff.1 hv
  have e2:=List.getElem?_eq_some_iff.1 hl'
  obtain⟨_,e1⟩:=e1
  obtain⟨_,e2⟩:=e2
  rw[List.getElem_singleton]at e1 e2
  subst e1 e2;exact hw
theorem Zka{m:Mem}{a:Option Addr}{xs:List Value}(h:rowRd m a xs)(hx:xs≠[]){b o:Nat}(ha:a=some ⟨b,o,none⟩):¬m.free b:=by
 rcases h with h|⟨b',o',h1,h2⟩
 ·exact absurd h hx
 ·rw[h1]at ha;cases ha
  intro hf
  match xs,hx with
  | x::xs,_=>
   have:=h2 0 x rfl
   rw[hf]at this;cases this
theorem ZnL{m m':Mem}(h:m.le m'){b:Nat}(hf:m'.free b):m.free b:=fun o=>by
 cases he:m b o with
 | none=>rfl
 | some v=>have:=h _ _ _ he;rw[hf o]at this;cases this
structure CopyR (A:Nf)(m:Mem)(sa:Option Addr)(sc:Nat)(fa:Option Addr)(fc:Nat)(xa:Option Addr)(xc:Nat)(ya:Option Addr)(yc:Nat)(vs:List Value)(m':Mem):Prop where
 le:m.le m'
 sets:SlQ true A.sets (.slice sa A.sets.length sc) m'
 row:rowRd m' fa vs
 len:vs.length=A.fol.length
 fl:A.fol.length≤1000000
 fol:∀(i:Nat)(v:Value)(l:List Int),vs[i]?=some v→A.fol[i]?=some l→SlI true l v m'∧(∀b o,slA v=some ⟨b,o,none⟩→m.free b∧(∀o',fa≠some ⟨b,o',none⟩)∧(∀o',sa≠some ⟨b,o',none⟩)∧(∀o',xa≠some ⟨b,o',none⟩)∧∀o',ya≠some ⟨b,o',none⟩)
 first:FreshI m A.first (.slice xa A.first.length xc) m'
 last:FreshI m A.last (.slice ya A.last.length yc) m'
 nf:A.fol=[]→fa=none
 fs:∀b o,sa=some ⟨b,o,none⟩→m.free b
 ff:∀b o,fa=some ⟨b,o,none⟩→m.free b
 sf:∀b o o',sa=some ⟨b,o,none⟩→fa≠some ⟨b,o',none⟩
 sx:∀b o o',sa=some ⟨b,o,none⟩→xa≠some ⟨b,o',none⟩
 sy:∀b o o',sa=some ⟨b,o,none⟩→ya≠some ⟨b,o',none⟩
 fx:∀b o o',fa=some ⟨b,o,none⟩→xa≠some ⟨b,o',none⟩
 fy:∀b o o',fa=some ⟨b,o,none⟩→ya≠some ⟨b,o',none⟩
 xy:∀b o o',xa=some ⟨b,o,none⟩→ya≠some ⟨b,o',none⟩
def CopyV(A:Nf)(m:Mem)(v:Value)(m':Mem):Prop:=∃sa sc fa fc xa xc ya yc vs,v=.agg #[.slice sa A.sets.length sc,.slice fa A.fol.length fc,.slice xa A.first.length xc,.slice ya A.last.length yc,.bool A.empty]∧CopyR A m sa sc fa fc xa xc ya yc vs m'
theorem CopyV.nf{A:Nf}{m m':Mem}{v:Value}(h:CopyV A m v m'):NfR true A v m':=by
 obtain⟨sa,sc,fa,fc,xa,xc,ya,yc,vs,rfl,h⟩:=h
 exact⟨_,_,_,_,rfl,h.sets,⟨fa,fc,vs,rfl,h.row,h.len,h.fl,fun i v l hv hl=>(h.fol i v l hv hl).1⟩,h.first.1,h.last.1⟩
theorem FreshI.mono{m m' M:Mem}{l:List Int}{v:Value}(h:FreshI m l v m')(k:m'.le M):FreshI m l v M:=by
 obtain⟨h1,a,c,e,h2⟩:=h
 exact⟨h1.mono k,a,c,e,h2.imp id fun⟨b,g1,g2,g3,g4⟩=>⟨b,g1,g2,g3,fun q q1 q2=>(g4 q q1 q2).imp fun u hu=>k _ _ _ hu⟩⟩
theorem FreshI.less{m m0 m':Mem}{l:List Int}{v:Value}(h:FreshI m l v m')(k:m0.le m):FreshI m0 l v m':=by
 obtain⟨h1,a,c,e,h2⟩:=h
 exact⟨h1,a,c,e,h2.imp id fun⟨b,g1,g2,g3,g4⟩=>⟨b,g1,g2,ZnL k g3,g4⟩⟩
end Go.Proofs.Ytplacemlpkhmfaa
set_option linter.unusedVariables false
set_option linter.unusedSimpArgs false
namespace Go.Proofs.Ytplacemlpkhmfaa
open Go Go.Eng Go.Rx Go.Proofs Go.RowKit
set_option maxRecDepth 100000
theorem ZrX{P:Program}{w:World}{n:Nat}{f:Nat→(Option Bool×Unit)→Sem (ForInStep (Option Bool×Unit))}{p:Nat→Bool}(hf:∀i,i < n→(f i (none,())).run P w=.ok (if p i then .yield (none,())else .done (some false,())) w):
  ∀k i,i+k≤n→(forIn (List.range' i k) (none,()) f).run P w=.ok (if(List.range' i k).all p then(none,())else(some false,())) w
 | 0,i,h=>by simp
 | k+1,i,h=>by
  rw[List.range'_succ,List.forIn_cons,Sem.run_bind,hf i (by omega),Result.andThen_ok,List.all_cons]
  cases p i with
  | false=>simp
  | true=>
   have:=ZrX hf k (i+1) (by omega)
   rw[Bool.true_and]
   exact this
theorem ZuX(xs ys:List Int)(hx:xs.length=256)(hy:ys.length=256):EqIs Try.prog 141 (.agg (Zaq xs).toArray) (.agg (Zaq ys).toArray) (decide (xs=ys)):=by
 refine⟨fun w=>?_,fun op ox oy w=>Zhl (by kernel_rfl) op ox oy _ _ w⟩
 have u3:=Try.underlying3
 have a3:=Try.isAgg3
 have z3:=Try.sizeOf3
 rw[Op.equal,Op.maxDepth,show(10000:Nat)=9999+1 from rfl,Op.equalIn]
 simp only[Sem.run_bind,run_underlying Try.underlying141,Result.andThen_ok]
 simp only[Std.Legacy.Range.forIn_eq_forIn_range',Std.Legacy.Range.size,Nat.sub_zero,Nat.add_sub_cancel,Nat.div_one]
 rw[z3,Result.andThen_ok,ZrX (n:=256) (p:=fun i=>decide (xs[i]?=ys[i]?)) (fun i hi=>?_) 256 0 (by omega),Result.andThen_ok]
 ·by_cases h:xs=ys
  ·subst h;simp
  ·have:(List.range' 0 256).all (fun i=>decide (xs[i]?=ys[i]?))=false:=by
    rw[Bool.eq_false_iff]
    intro hh
    apply h
    refine List.ext_getElem? fun i=>?_
    by_cases hi:i < 256
    ·have:=List.all_eq_true.1 hh i (by simp[List.mem_range',hi])
     simpa using this
    ·rw[List.getElem?_eq_none_iff.2 (by omega),List.getElem?_eq_none_iff.2 (by omega)]
   rw[this];simp[h]
 ·obtain⟨x,tE⟩:∃x,xs[i]?=some x:=⟨_,List.getElem?_eq_getElem (by omega)⟩
  obtain⟨y,tF⟩:∃y,ys[i]?=some y:=⟨_,List.getElem?_eq_getElem (by omega)⟩
  have gx:(Zaq xs).toArray[i]?=some (.int .i64 x):=by simp[Zaq,tE]
  have gy:(Zaq ys).toArray[i]?=some (.int .i64 y):=by simp[Zaq,tF]
  rw[Nat.mul_one]
  simp only[part,Sem.run_bind,a3,Result.andThen_ok,gx,gy]
  have he:(Op.equalIn 9999 3 (.int .i64 x) (.int .i64 y)).run Try.prog w=.ok (x == y) w:=by
   rw[show(9999:Nat)=9998+1 from rfl,Op.equalIn]
   simp[Sem.run_bind,run_underlying u3]
  rw[if_neg (by decide),if_neg (by decide)]
  simp only[Sem.run_pure,Result.andThen_ok,he,tE,tF]
  by_cases tG:x=y
  ·subst tG;simp
  ·simp[tG]
theorem ZfO(q:QS):Zbz q=Zaq ((List.range 256).map (Zod q)):=by simp[Zbz,Zaq]
theorem Zwj{q r:QS}(hq:QOk q)(hr:QOk r):EqIs Try.prog 141 (.agg (Zbz q).toArray) (.agg (Zbz r).toArray) (decide (q=r)):=by
 have h:=ZuX ((List.range 256).map (Zod q)) ((List.range 256).map (Zod r)) (by simp) (by simp)
 rw[←ZfO,←ZfO]at h
 have e:decide ((List.range 256).map (Zod q)=(List.range 256).map (Zod r))=decide (q=r):=by
  rw[decide_eq_decide]
  constructor
  ·intro e;exact ZoJ hq hr (by rw[ZfO,ZfO,e])
  ·rintro rfl;rfl
 rw[e]at h;exact h
theorem Zwk{q:QS}{j:Nat}(hj:j < 4):([.int .u64 q.1,.int .u64 q.2.1,.int .u64 q.2.2.1,.int .u64 q.2.2.2]:List Value)[j]?=some (.int .u64 (ZgJ q j)):=by
 have:j=0∨j=1∨j=2∨j=3:=by omega
 rcases this with rfl|rfl|rfl|rfl <;> rfl
def Zl1(q:QS)(k:Nat):List Value:=(List.range 256).map fun c=>.int .i64 (if c < k then Zod q c else 0)
theorem Zez(q:QS)(k:Nat):(Zl1 q k).length=256:=by simp[Zl1]
theorem Zo2(q:QS){k:Nat}(h:k < 256):Zan (Zl1 q k) k [.int .i64 (Zod q k)]=Zl1 q (k+1):=by
 rw[Zk3 (by rw[Zez];exact h)]
 refine List.ext_getElem? fun j=>?_
 by_cases hj:j < 256
 ·by_cases e:j=k
  ·subst e
   rw[List.getElem?_set_self (by rw[Zez];exact h)]
   simp[Zl1,h]
  ·rw[List.getElem?_set_ne (fun x=>e x.symm)]
   simp only[Zl1,List.getElem?_map,List.getElem?_range hj,Option.map_some]
   have:(j < k+1)↔j < k:=by omega
   simp only[this]
 ·rw[List.getElem?_eq_none_iff.2 (by rw[List.length_set,Zez];omega),List.getElem?_eq_none_iff.2 (by rw[Zez];omega)]
theorem Zo3(q:QS):List.replicate 256 (Value.int .i64 0)=Zl1 q 0:=by
 refine(List.eq_replicate_iff.2 ⟨Zez q 0,fun u hu=>?_⟩).symm
 obtain⟨c,_,rfl⟩:=List.mem_map.1 hu
 rw[if_neg (Nat.not_lt_zero c)]
theorem Zq9(q:QS):Zl1 q 256=Zbz q:=by
 unfold Zl1 Zbz
 refine List.map_congr_left fun c hc=>?_
 rw[if_pos (List.mem_range.1 hc)]
theorem ZsK{w:Int}(h0:0≤w)(i:Nat):Int.tmod ((w.toNat / 2 ^ i:Nat):Int) 2=if w.toNat.testBit i then 1 else 0:=by
 rw[show Int.tmod ((w.toNat / 2 ^ i:Nat):Int) 2=((w.toNat / 2 ^ i % 2:Nat):Int) from rfl,ZtM]
 split <;> rfl
theorem ZnM(q:QS):Zcq (Zbz q)=true:=by
 have:∀l:List Value,(∀u∈l,u.oneCell'=true)→Zcq l=true:=by
  intro l
  induction l with
  | nil=>intro _;rfl
  | cons u l ih=>intro h;simp only[Zcq,h u (by simp),Bool.true_and];exact ih fun x hx=>h x (by simp[hx])
 exact this _ (Zk4 q)
theorem ZsL(q:QS)(hq:QOk q)(m:Mem):CX Try.prog 99 #[.agg #[.int .u64 q.1,.int .u64 q.2.1,.int .u64 q.2.2.1,.int .u64 q.2.2.2]] m [] (Ret (.agg (Zbz q).toArray)):=by
 apply Zim
 unfold Zff
 intro b m1 bE _ b1 b2
 refine⟨fun xs css _ m' n=>∃k:Nat,k≤256∧xs=[.int .i64 k]∧css=[Zl1 q k]∧m.le m'∧n=256 - k,⟨_,0,by omega,rfl,by rw[Zo3 q],bE,rfl⟩,?_⟩
 rintro z cs m2 n _ ⟨k,hk,hz,cG,bZ,hn⟩
 obtain rfl:z=k:=by simpa using hz
 obtain rfl:cs=Zl1 q k:=by simpa using cG
 subst hn
 have e64:Int.tdiv (k:Int) 64=((k / 64:Nat):Int):=rfl
 have em:Int.tmod (k:Int) 64=((k % 64:Nat):Int):=rfl
 refine Zab (fun bV=>?_) (fun cM=>?_)
 ·have hk':k < 256:=by have:=of_decide_eq_true bV;omega
  have hw:=Zmd hq (k / 64)
  rw[e64,em,Zau (by omega) (by omega),Int.toNat_natCast,Int.toNat_natCast,Nat.mul_one,Nat.mul_one,Nat.zero_add,Nat.zero_add]
  refine⟨by decide,⟨by omega,by omega⟩,Zat (Zwk (q:=q) (by omega)) ?_⟩
  refine⟨fun xs _ _ m' n=>∃i:Nat,i≤k % 64∧xs=[.int .u64 (((ZgJ q (k / 64)).toNat / 2 ^ i:Nat):Int),.int .i64 i]∧m2.le m'∧n=k % 64 - i,Zaa rfl ⟨_,0,by omega,?_,Mem.le_refl _,rfl⟩,?_⟩
  ·rw[Nat.pow_zero,Nat.div_one,Int.toNat_of_nonneg hw.1];rfl
  rintro x z m3 n2 cD ⟨i,hi,hx,_,hn⟩
  simp only[List.cons.injEq,Value.int.injEq,true_and,and_true]at hx
  obtain⟨rfl,rfl⟩:=hx
  subst hn
  refine⟨by decide,Zab (fun h1=>?_) (fun h1=>?_)⟩
  ·have h1':i < k % 64:=by have:=of_decide_eq_true h1;omega
   refine⟨by decide,by trivial,_,by omega,i+1,h1',?_,cD,rfl⟩
   have e2:Int.tdiv (((ZgJ q (k / 64)).toNat / 2 ^ i:Nat):Int) 2=(((ZgJ q (k / 64)).toNat / 2 ^ (i+1):Nat):Int):=by
    rw[Nat.pow_succ,←Nat.div_div_eq_div_mul];rfl
   have hb:(ZgJ q (k / 64)).toNat / 2 ^ (i+1) < 18446744073709551616:=Nat.lt_of_le_of_lt (Nat.div_le_self _ _) (by omega)
   rw[e2,Zs1 _ hb,Zau (by omega) (by omega)];rfl
  ·have:i=k % 64:=by have:=of_decide_eq_false h1;omega
   subst this
   have ic:IntKind.i64.wrap (Int.tmod (((ZgJ q (k / 64)).toNat / 2 ^ (k % 64):Nat):Int) 2)=Zod q k:=by
    rw[ZsK hw.1,Zod,Zno]
    split <;> rfl
   refine⟨by decide,⟨by omega,by omega⟩,Zaa (by rw[Zez,Nat.ble_eq];omega) ⟨by trivial,_,by omega,k+1,hk',by rw[Zau (by omega) (by omega)];rfl,?_,Mem.le_trans bZ cD,rfl⟩⟩
   rw[ic,Zo2 q hk']
 ·have:k=256:=by have:=of_decide_eq_false cM;omega
  subst this
  rw[Zq9]
  exact Zaa (by rw[Zbe,ZnM];rfl) (Zad bZ rfl)
theorem ZsM(q:QS)(m:Mem):CX Try.prog 101 #[.agg (Zbz q).toArray] m [] (Ret (.int .i64 (Zs8 q 256))):=by
 apply Zj1
 unfold Zgm
 refine Zaa (by rw[Zbe];rfl) fun b m1 bE _=>?_
 refine⟨fun xs _ _ m' n=>∃k:Nat,k≤256∧xs=[.int .i64 (Zs8 q k),.int .i64 k]∧m.le m'∧n=256 - k,⟨_,0,by omega,rfl,bE,rfl⟩,?_⟩
 rintro s z m2 n _ ⟨k,hk,hx,bZ,hn⟩
 simp only[List.cons.injEq,Value.int.injEq,true_and,and_true]at hx
 obtain⟨rfl,rfl⟩:=hx
 subst hn
 refine Zab (fun bV=>?_) (fun cM=>?_)
 ·have hk':k < 256:=by have:=of_decide_eq_true bV;omega
  have h1:=ZpN q k
  have h2:=ZpM q k
  rw[Int.toNat_natCast,Nat.mul_one,Nat.zero_add]
  refine⟨⟨by omega,by omega⟩,Zat (ZfL q hk') (Zaa rfl ⟨by trivial,_,by omega,k+1,hk',?_,bZ,rfl⟩)⟩
  simp only[intOf]
  rw[Zau (by omega) (by omega),Zau (by omega) (by omega)];rfl
 ·have:k=256:=by have:=of_decide_eq_false cM;omega
  subst this
  exact Zad bZ rfl
def Zc7(l:List QS):List Value:=l.flatMap Zbz
theorem Zlc(l:List QS):(Zc7 l).length=l.length*256:=by
 induction l with
 | nil=>rfl
 | cons q l ih=>rw[Zc7,List.flatMap_cons,List.length_append,Zbe,←Zc7,ih,List.length_cons];omega
theorem Zra{l:List QS}{i:Nat}{q:QS}(h:l[i]?=some q){j:Nat}{v:Value}(hv:(Zbz q)[j]?=some v):(Zc7 l)[i*256+j]?=some v:=by
 have hj:j < 256:=by have:=(List.getElem?_eq_some_iff.1 hv).1;rwa [Zbe]at this
 induction l generalizing i with
 | nil=>simp at h
 | cons r l ih=>
  rw[Zc7,List.flatMap_cons,←Zc7]
  cases i with
  | zero=>
   simp at h;subst h
   rw[Nat.zero_mul,Nat.zero_add,List.getElem?_append_left (by rw[Zbe];exact hj)];exact hv
  | succ i=>
   rw[List.getElem?_append_right (by rw[Zbe];omega),Zbe,show(i+1)*256+j - 256=i*256+j by omega]
   exact ih (by simpa using h)
theorem Zh1{m:Mem}{a:Option Addr}{l:List QS}(h:rowRd m a (Zc7 l)){i:Nat}{q:QS}(hq:l[i]?=some q):∃b o,a=some ⟨b,o,none⟩∧m.reads b (o+i*256) (Zbz q):=by
 rcases h with h|⟨b,o,h1,h2⟩
 ·have:=congrArg List.length h
  rw[Zlc]at this
  have:=(List.getElem?_eq_some_iff.1 hq).1
  simp at *;omega
 ·exact⟨b,o,h1,fun j v hv=>by have:=h2 _ v (Zra hq hv);rwa [←Nat.add_assoc]at this⟩
def SlS(l:List QS)(v:Value)(m:Mem):Prop:=∃a c,v=.slice a l.length c∧rowRd m a (Zc7 l)∧l.length≤1000000
theorem SlS.mono{l:List QS}{v:Value}{m m':Mem}(h:SlS l v m)(k:m.le m'):SlS l v m':=by
 obtain⟨a,c,e,h1,h2⟩:=h
 exact⟨a,c,e,h1.mono k,h2⟩
def RefR(A:Nf)(v:Value)(m:Mem):Prop:=∃s f x y,v=.agg #[s,f,x,y,.bool A.empty]∧SlS A.sets s m∧FolR false A.fol f m∧SlI false A.first x m∧SlI false A.last y m
theorem RefR.mono{A:Nf}{v:Value}{m m':Mem}(h:RefR A v m)(k:m.le m'):RefR A v m':=by
 obtain⟨s,f,x,y,e,h1,h2,h3,h4⟩:=h
 exact⟨s,f,x,y,e,h1.mono k,h2.mono k,h3.mono k,h4.mono k⟩
theorem ZuY(l r:List QS)(pU:∀q∈l,QOk q)(kp:∀q∈r,QOk q)(a b:Option Addr)(c d:Nat)(m:Mem)(hl:rowRd m a (Zc7 l))(hr:rowRd m b (Zc7 r))(hn:l.length≤1000000):CX Try.prog 102 #[.slice a l.length c,.slice b r.length d] m [] (Ret (.bool (decide (l=r)))):=by
 apply Zbj
 unfold ZaQ
 refine Zab (fun h=>Zad (Mem.le_refl _) ?_) (fun h=>?_)
 ·have:¬l=r:=fun e=>by subst e;simp at h
  simp[Ret,this]
 have bY:l.length=r.length:=by
  simp only[Bool.not_eq_false',beq_iff_eq]at h;omega
 refine⟨fun xs css _ m' q=>∃k:Nat,k≤l.length∧xs=[.int .i64 k]∧(l.drop k=r.drop k↔l=r)∧m.le m'∧q=l.length - k,⟨_,0,by omega,rfl,Iff.rfl,Mem.le_refl _,rfl⟩,?_⟩
 rintro z m1 q bE ⟨k,hk,hz,he,_,hq⟩
 obtain rfl:z=k:=by simpa using hz
 subst hq
 refine Zab (fun bV=>?_) (fun cM=>?_)
 ·have bF:k < l.length:=by have:=of_decide_eq_true bV;omega
  obtain⟨x,hx⟩:=Zam bF
  obtain⟨y,hy⟩:=Zam (l:=r) (k:=k) (by omega)
  obtain⟨b1,o1,h1,h1'⟩:=Zh1 (hl.mono bE) hx
  obtain⟨b2,o2,h2,h2'⟩:=Zh1 (hr.mono bE) hy
  rw[ZnK hx hy]at he
  refine⟨b1,o1,h1,⟨by omega,by omega⟩,_,Zbe x,(by rw[Int.toNat_natCast];exact h1'),b2,o2,h2,⟨by omega,by omega⟩,_,Zbe y,(by rw[Int.toNat_natCast];exact h2'),_,Zwj (pU x (List.mem_of_getElem? hx)) (kp y (List.mem_of_getElem? hy)),Zab (fun h3=>Zad bE ?_) (fun h3=>⟨_,by omega,k+1,bF,by rw[Zau (by omega) (by omega)];rfl,?_,bE,rfl⟩)⟩
  ·have:¬x=y:=by simpa using h3
   simp only[Ret];congr 1
   rw[eq_comm,decide_eq_false_iff_not,←he];exact fun h=>this h.1
  ·have:x=y:=by simpa using h3
   rw[←he];simp[this]
 ·have:k=l.length:=by have:=of_decide_eq_false cM;omega
  subst this
  refine Zad bE ?_
  simp only[Ret];congr 1
  rw[eq_comm,decide_eq_true_eq,←he,List.drop_length,bY,List.drop_length]
end Go.Proofs.Ytplacemlpkhmfaa
