/- Part of the proof: conditions and contracts of functions of this program. No condition of its own. -/
import Derived.Test.YtplacemlpkhmfaaPC17RB
set_option linter.unusedVariables false
set_option linter.unusedSimpArgs false
namespace Go.Proofs.Ytplacemlpkhmfaa
open Go Go.Eng Go.Rx Go.Proofs Go.RowKit
set_option maxRecDepth 100000
theorem Zsb(q:QS)(c:Nat):(intOf (.int .i64 (Zoh q c)) == 1)=Zq1 q c:=by
 unfold Zoh
 cases Zq1 q c <;> rfl
set_option maxHeartbeats 1600000 in
theorem ZsX(A:Nf)(hA:A.Ok)(v:Value)(l:List Int)(a:Option Addr)(c ch:Nat)(ip:ch < 256)(m:Mem)(h:RefR A v m)(hl:rowRd m a (Zaq l))(dM:l.length≤1000000)(hs:A.states l=true):CX Try.prog 48 #[v,.slice a l.length c,.int .u8 ch] m [] (fun v m' _=>SlI true (A.step l ch) v m'):=by
 obtain⟨s,f,x,y,rfl,⟨sa,sc,rfl,hs',dL⟩,⟨fa,fc,vs,rfl,hf,f8,gN,fT⟩,⟨xa,xc,rfl,kZ,dY,gq⟩,⟨ya,yc,rfl,hy,dD,gC⟩⟩:=h
 have hn:=hA.n
 have bY:=hA.len
 apply Zkc
 unfold Zgs
 intro b m1 bD _
 refine⟨⟨by omega,by omega,by omega,by omega⟩,fun b1=>?_⟩
 simp only[Int.toNat_natCast]
 refine⟨fun xs css _ m' q=>∃k:Nat,k≤l.length∧xs=[.int .i64 k]∧css=[ZbX (ZgM (Zky A l ch k 0) A.sets.length)]∧m1.le m'∧q=l.length - k,⟨_,0,Nat.zero_le _,rfl,by rw[Zrs,ZoP],Mem.le_refl _,rfl⟩,?_⟩
 rintro z cs m2 q bZ ⟨k,hk,hz,cF,_,hq⟩
 obtain rfl:z=k:=by simpa using hz
 obtain rfl:cs=ZbX (ZgM (Zky A l ch k 0) A.sets.length):=by simpa using cF
 subst hq
 have dN:=Mem.le_trans bD bZ
 refine Zab (fun bV=>?_) (fun cK=>?_)
 ·have bF:k < l.length:=by have:=of_decide_eq_true bV;omega
  obtain⟨p,hp⟩:=Zam bF
  obtain⟨b2,o,gp,cO⟩:=Zba (hl.mono dN) hp
  have kL:=ZfL hs p (List.mem_of_getElem? hp)
  have dT:IntKind.i64.wrap ((k:Int)+1)=((k+1:Nat):Int):=by rw[Zau (by omega) (by omega)];rfl
  have fin:∀(j:Nat)(m3:Mem),m2.le m3→(A.fromL p).length=j→∃n',n' < l.length - k∧∃k':Nat,k'≤l.length∧([.int .i64 (IntKind.i64.wrap ((k:Int)+1))]:List Value)=[.int .i64 k']∧[ZbX (ZgM (Zky A l ch k j) A.sets.length)]=[ZbX (ZgM (Zky A l ch k' 0) A.sets.length)]∧m1.le m3∧n'=l.length - k':=fun j m3 cD hj=>
   ⟨_,by omega,k+1,bF,by rw[dT],by rw[←hj,Zq5 hp],Mem.le_trans bZ cD,rfl⟩
  refine⟨b2,o,gp,⟨by omega,by omega⟩,_,(by rw[Int.toNat_natCast];exact cO),Zaa rfl (Zab (fun cM=>?_) (fun cM=>?_))⟩
  ·have l6:0≤p:=by simpa[intOf]using cM
   have j5:¬p=-1:=by omega
   have kw:p.toNat < A.fol.length:=by unfold Nf.top at kL;omega
   obtain⟨w,hw⟩:=Zam kw
   obtain⟨u,hu⟩:=Zam (l:=vs) (k:=p.toNat) (by omega)
   obtain⟨wa,wc,rfl,iV,r6,_⟩:=(fT _ u w hu hw).mono dN
   obtain⟨fb,fo,gz,dU⟩:=ZbO (hf.mono dN) hu
   have fD:A.fromL p=w:=by unfold Nf.fromL;rw[if_neg j5,hw];rfl
   refine⟨b2,o,gp,⟨by omega,by omega⟩,.int .i64 p,(by rw[Int.toNat_natCast];exact cO),Zaa rfl ⟨fb,fo,gz,⟨by show 0≤p;omega,by show p < (A.fol.length:Nat);omega⟩,_,(show m2 fb (fo+p.toNat*1)=some _ from dU),?_⟩⟩
   refine⟨fun xs css _ m' q=>∃j:Nat,j≤w.length∧xs=[.int .i64 j]∧css=[ZbX (ZgM (Zky A l ch k j) A.sets.length)]∧m2.le m'∧q=w.length - j,⟨_,0,Nat.zero_le _,rfl,rfl,Mem.le_refl _,rfl⟩,?_⟩
   rintro z cs m3 q cD ⟨j,hj,hz,cF,_,hq⟩
   obtain rfl:z=j:=by simpa using hz
   obtain rfl:cs=ZbX (ZgM (Zky A l ch k j) A.sets.length):=by simpa using cF
   subst hq
   refine Zaa rfl (Zab (fun eK=>?_) (fun gU=>?_))
   ·have cS:j < w.length:=by have:=of_decide_eq_true eK;simp only[slN]at this;omega
    obtain⟨x,hx⟩:=Zam cS
    obtain⟨b3,o3,iz,gT⟩:=Zba (iV.mono cD) hx
    have kZ:(A.fromL p)[j]?=some x:=by rw[fD];exact hx
    obtain⟨i,rfl,hi,qq,jA,gV⟩:=Zp7 hA kZ
    obtain⟨sb,so,iD,eD⟩:=Zh8 ((hs'.mono dN).mono cD) jA
    have dE:IntKind.i64.wrap ((j:Int)+1)=((j+1:Nat):Int):=by rw[Zau (by omega) (by omega)];rfl
    have cP:=eD ch _ (ZfO qq ip)
    refine Zaa rfl ⟨b3,o3,iz,⟨by omega,by show(j:Int) < (w.length:Nat);omega⟩,.int .i64 (i:Int),(by rw[Int.toNat_natCast];exact gT),Zaa rfl ⟨sb,so,iD,⟨by show(0:Int)≤(i:Int);omega,by show(i:Int) < (A.sets.length:Nat);omega⟩,⟨by omega,by omega⟩,_,(by simp only[intOf,Int.toNat_natCast,Nat.mul_one];exact cP),Zaa rfl ?_⟩⟩
    rw[Zsb]
    refine Zab (fun hh=>?_) (fun hh=>?_)
    ·refine Zaa rfl ⟨b3,o3,iz,⟨by omega,by show(j:Int) < (w.length:Nat);omega⟩,.int .i64 (i:Int),(by rw[Int.toNat_natCast];exact gT),Zaa rfl ⟨⟨by show(0:Int)≤(i:Int);omega,by show(i:Int) < (A.sets.length:Nat);omega⟩,?_⟩⟩
     have mJ:=ZpV hp kZ hi (by rw[←gV];exact hh)
     have jB:[ZbX ((ZgM (Zky A l ch k j) A.sets.length).set i 1)]=[ZbX (ZgM (Zky A l ch k (j+1)) A.sets.length)]:=by rw[mJ]
     refine Zsa (P:=fun cc=>_∧∃n',n' < w.length - j∧∃j':Nat,j'≤w.length∧([.int .i64 (IntKind.i64.wrap ((j:Int)+1))]:List Value)=[.int .i64 j']∧cc=[ZbX (ZgM (Zky A l ch k j') A.sets.length)]∧m2.le m3∧n'=w.length - j') (ZeY _ _) hi ⟨by trivial,_,by omega,j+1,cS,by rw[dE],jB,cD,rfl⟩
    ·have jB:=Znw (n:=A.sets.length) hp kZ (by rw[←gV];exact hh)
     exact⟨by trivial,_,by omega,j+1,cS,by rw[dE],by rw[jB],cD,rfl⟩
   ·have:j=w.length:=by have:=of_decide_eq_false gU;simp only[slN]at this;omega
    exact⟨by trivial,fin j m3 cD (by rw[fD,this])⟩
  ·have j5:p=-1:=by
    have:¬0≤p:=by simpa[intOf]using cM
    omega
   have fD:A.fromL p=A.first:=by unfold Nf.fromL;rw[if_pos j5]
   refine⟨fun xs css _ m' q=>∃j:Nat,j≤A.first.length∧xs=[.int .i64 j]∧css=[ZbX (ZgM (Zky A l ch k j) A.sets.length)]∧m2.le m'∧q=A.first.length - j,⟨_,0,Nat.zero_le _,rfl,rfl,Mem.le_refl _,rfl⟩,?_⟩
   rintro z cs m3 q cD ⟨j,hj,hz,cF,_,hq⟩
   obtain rfl:z=j:=by simpa using hz
   obtain rfl:cs=ZbX (ZgM (Zky A l ch k j) A.sets.length):=by simpa using cF
   subst hq
   refine Zab (fun eK=>?_) (fun gU=>?_)
   ·have cS:j < A.first.length:=by have:=of_decide_eq_true eK;omega
    obtain⟨x,hx⟩:=Zam cS
    obtain⟨b3,o3,iz,gT⟩:=Zba ((kZ.mono dN).mono cD) hx
    have mK:(A.fromL p)[j]?=some x:=by rw[fD];exact hx
    obtain⟨i,rfl,hi,qq,jA,gV⟩:=Zp7 hA mK
    obtain⟨sb,so,iD,eD⟩:=Zh8 ((hs'.mono dN).mono cD) jA
    have dE:IntKind.i64.wrap ((j:Int)+1)=((j+1:Nat):Int):=by rw[Zau (by omega) (by omega)];rfl
    have cP:=eD ch _ (ZfO qq ip)
    refine⟨b3,o3,iz,⟨by omega,by omega⟩,.int .i64 (i:Int),(by rw[Int.toNat_natCast];exact gT),Zaa rfl ⟨sb,so,iD,⟨by show(0:Int)≤(i:Int);omega,by show(i:Int) < (A.sets.length:Nat);omega⟩,⟨by omega,by omega⟩,_,(by simp only[intOf,Int.toNat_natCast,Nat.mul_one];exact cP),Zaa rfl ?_⟩⟩
    rw[Zsb]
    refine Zab (fun hh=>?_) (fun hh=>?_)
    ·refine⟨b3,o3,iz,⟨by omega,by omega⟩,.int .i64 (i:Int),(by rw[Int.toNat_natCast];exact gT),Zaa rfl ⟨⟨by show(0:Int)≤(i:Int);omega,by show(i:Int) < (A.sets.length:Nat);omega⟩,?_⟩⟩
     have mJ:=ZpV hp mK hi (by rw[←gV];exact hh)
     have jB:[ZbX ((ZgM (Zky A l ch k j) A.sets.length).set i 1)]=[ZbX (ZgM (Zky A l ch k (j+1)) A.sets.length)]:=by rw[mJ]
     refine Zsa (P:=fun cc=>_∧∃n',n' < A.first.length - j∧∃j':Nat,j'≤A.first.length∧([.int .i64 (IntKind.i64.wrap ((j:Int)+1))]:List Value)=[.int .i64 j']∧cc=[ZbX (ZgM (Zky A l ch k j') A.sets.length)]∧m2.le m3∧n'=A.first.length - j') (ZeY _ _) hi ⟨by trivial,_,by omega,j+1,cS,by rw[dE],jB,cD,rfl⟩
    ·have jB:=Znw (n:=A.sets.length) hp mK (by rw[←gV];exact hh)
     exact⟨by trivial,_,by omega,j+1,cS,by rw[dE],by rw[jB],cD,rfl⟩
   ·have:j=A.first.length:=by have:=of_decide_eq_false gU;omega
    exact⟨by trivial,fin j m3 cD (by rw[fD,this])⟩
 ·have:k=l.length:=by have:=of_decide_eq_false cK;omega
  subst this
  intro m3 cD fP
  have cV:rowRd m3 (some ⟨b1,0,none⟩) (ZbX (ZgM (Zky A l ch l.length 0) A.sets.length)):=.inr ⟨b1,0,rfl,fP⟩
  refine Zat (ZsW (Zky A l ch l.length 0) A.sets.length _ _ m3 cV (by omega)) ZbB ?_
  intro a4 n4 c4 m4 dC hR
  refine⟨m4,Mem.le_trans dN (Mem.le_trans cD dC),Mem.le_refl _,?_⟩
  rw[ZsF hA]at hR
  exact hR
theorem Zn1(A:Nf)(hA:A.Ok)(v:Value)(l:List Int)(a:Option Addr)(c:Nat)(m:Mem)(h:RefR A v m)(hl:rowRd m a (Zaq l))(dM:l.length≤1000000)(hs:A.states l=true):CX Try.prog 49 #[v,.slice a l.length c] m [] (Ret (.bool (A.accepts l))):=by
 obtain⟨s,f,x,y,rfl,⟨sa,sc,rfl,hs',dL⟩,⟨fa,fc,vs,rfl,hf,f8,gN,fT⟩,⟨xa,xc,rfl,kZ,dY,gq⟩,⟨ya,yc,rfl,hy,dD,gC⟩⟩:=h
 apply ZgB
 unfold ZdI
 intro b m1 bD _
 refine⟨fun xs css _ m' q=>∃k:Nat,k≤l.length∧xs=[.int .i64 k]∧(l.drop k).any A.acc1=A.accepts l∧m.le m'∧q=l.length - k,⟨_,0,Nat.zero_le _,rfl,rfl,bD,rfl⟩,?_⟩
 rintro z m2 q bZ ⟨k,hk,hz,he,dN,hq⟩
 obtain rfl:z=k:=by simpa using hz
 subst hq
 refine Zab (fun bV=>?_) (fun cK=>?_)
 ·have bF:k < l.length:=by have:=of_decide_eq_true bV;omega
  obtain⟨p,hp⟩:=Zam bF
  obtain⟨b2,o,gp,cO⟩:=Zba (hl.mono dN) hp
  have gL:m2 b2 (o+(k:Int).toNat*1)=some (.int .i64 p):=by rw[Int.toNat_natCast];exact cO
  have kL:=ZfL hs p (List.mem_of_getElem? hp)
  rw[Zce hp,List.any_cons]at he
  have nx:A.acc1 p=false→∀M:Mem,m2.le M→∃n',n' < l.length - k∧∃k':Nat,k'≤l.length∧([.int .i64 (IntKind.i64.wrap ((k:Int)+1))]:List Value)=[.int .i64 k']∧(l.drop k').any A.acc1=A.accepts l∧m.le M∧n'=l.length - k':=fun ha M hM=>
   ⟨_,by omega,k+1,bF,by rw[Zau (by omega) (by omega)];rfl,by rw[←he,ha,Bool.false_or],Mem.le_trans dN hM,rfl⟩
  have yes:A.acc1 p=true→Ret (.bool (A.accepts l)) (.bool true) m2 []:=fun ha=>by
   rw[←he,ha,Bool.true_or]
  have pc:0≤p→A.acc1 p=decide (p∈A.last):=fun h0=>by
   rw[Bool.eq_iff_iff,decide_eq_true_eq];exact ZsG hA h0
  refine⟨fun _ _ _=>Ret (.bool (decide (p∈A.last))),b2,o,gp,⟨by omega,by omega⟩,_,gL,Zaa rfl (Zab (fun h1=>?_) (fun h1=>?_))⟩
  ·have j5:p=-1:=by have:=of_decide_eq_true h1;simp only[intOf]at this;omega
   have ha:A.acc1 p=A.empty:=by unfold Nf.acc1;rw[if_pos j5]
   refine Zab (fun h2 M hM _=>?_) (fun h2=>?_)
   ·refine⟨m2,dN,hM,?_⟩
    exact yes (by rw[ha];exact h2)
   ·refine⟨b2,o,gp,⟨by omega,by omega⟩,_,gL,Zaa rfl (Zab (fun h3=>?_) (fun h3 M hM _=>⟨by trivial,nx (by rw[ha];exact h2) M hM⟩))⟩
    have:0≤p:=by simpa[intOf]using h3
    omega
  ·have l6:0≤p:=by have:=of_decide_eq_false h1;simp only[intOf]at this;omega
   refine⟨b2,o,gp,⟨by omega,by omega⟩,.int .i64 p,gL,Zaa rfl (Zab (fun h3=>?_) (fun h3=>?_))⟩
   ·refine⟨b2,o,gp,⟨by omega,by omega⟩,.int .i64 p,gL,_,rfl,Zuh A.last p ya yc m2 (hy.mono dN) dD,fun v _ _ h=>by rw[h];rfl,?_⟩
    intro b4 m3 cD hv M gj fZ
    obtain rfl:b4=decide (p∈A.last):=by simpa[Ret]using hv
    refine Zab (fun h4=>⟨m2,dN,gj,yes (by rw[pc l6];exact h4)⟩) (fun h4=>⟨by trivial,nx (by rw[pc l6];exact h4) M gj⟩)
   ·exfalso
    have:=of_decide_eq_false h3
    simp only[intOf]at this;omega
 ·have:k=l.length:=by have:=of_decide_eq_false cK;omega
  subst this
  rw[List.drop_length]at he
  refine Zad dN ?_
  rw[←he];rfl
end Go.Proofs.Ytplacemlpkhmfaa

