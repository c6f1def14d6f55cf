/- Part of the proof: conditions and contracts of functions of this program. No condition of its own. -/
import Derived.Test.YtplacemlpkhmfaaPVP
import Derived.Test.YtplacemlpkhmfaaPC13X
import Derived.Test.YtplacemlpkhmfaaMr
set_option linter.unusedVariables false
set_option linter.unusedSimpArgs false
set_option linter.unusedSectionVars false
namespace Go.Proofs.Ytplacemlpkhmfaa
open Go Go.Eng Go.Rx Go.Proofs Go.RowKit
set_option maxRecDepth 100000
theorem Zn2(m:Mem):Rep m T0:=Za5 (k:=0) (mn:=0) (mx:=0) (a:=none) (c:=0) (l:=[]) ⟨by simp,.inl rfl⟩ (by omega) (by omega) (by omega)
theorem ZpH(m:Mem):Rep m T1:=Za5 (k:=1) (mn:=0) (mx:=0) (a:=none) (c:=0) (l:=[]) ⟨by simp,.inl rfl⟩ (by omega) (by omega) (by omega)
theorem Zts(t:T)(m:Mem)(hr:Rep m t)(hc:t.clean=true):CX Try.prog 83 #[t.v] m [] (Ret (.bool true)):=by
 apply Zqj
 unfold Zl5
 intro b m1 bJ _
 refine⟨true,Zai (Zrc t T0 m1 (hr.mono bJ) (Zn2 _)) fun m2 bP=>Zaa (fun _=>⟨by trivial,rfl⟩) (fun _=>?_),Zag bJ rfl⟩
 have h:=ZiT t m2 (hr.mono (Mem.le_trans bJ bP))
 rw[hc]at h
 exact Zai h fun m3 cJ=>⟨by trivial,rfl⟩
theorem ZgD(t:T)(m:Mem)(hr:Rep m t):CX Try.prog 86 #[t.v] m [] (Zgo (Zv8 t)):=by
 apply Zlb
 unfold Zhd
 intro b m1 bJ _ b1
 refine Zai (ZiT t m1 (hr.mono bJ)) fun m2 bP=>Zaa (fun h=>?_) (fun h=>?_)
 ·exact⟨m2,Mem.le_trans bJ bP,Mem.le_refl _,T0,rfl,Zn2 _,.inr ⟨by simpa using h,rfl⟩,Zvb⟩
 ·have hc:t.clean=true:=by simpa using h
  refine Zam (Zld t m2 (hr.mono (Mem.le_trans bJ bP)) (Zg6 hc)) Zba (ZdF fun t' m3 cJ hr' ht'=>?_)
  exact⟨m3,Mem.le_trans bJ (Mem.le_trans bP cJ),Mem.le_refl _,t',rfl,hr',.inl ⟨hc,ht'.1⟩,ht'.2⟩
theorem Ztt(k w:Int)(L:List T)(a:Option Addr)(c:Nat)(m:Mem)(hL:RepL m a L)(hl:L.length≤1000)(hs:∀x∈L,x.subs.length≤10000):CX Try.prog 74 #[.int .u8 k,.int .u8 w,.slice a L.length c] m [] (fun v m' _=>∃a' c',v=.slice a' (Zcn k w L).length c'∧RepL m' a' (Zcn k w L)):=by
 apply Zqk
 unfold Zl6
 have bQ:=Zcb hL
 have cK:=Zeb hL
 have iY:∀i,(Zcn k w (L.take i)).length≤10001000:=fun i=>by
  have:=Zh1 k w (L.take i) fun x hx=>hs x (List.mem_of_mem_take hx)
  have h2:(L.take i).length≤1000:=by rw[List.length_take];omega
  omega
 refine⟨fun xs css tvs m' q=>∃(i:Nat)(a:Option Addr)(c:Nat),i≤L.length∧xs=[.slice a (Zcn k w (L.take i)).length c,.int .i64 i]∧tvs=[.slice a (Zcn k w (L.take i)).length c]∧rowRd m' a (Rx.Zco (Zcn k w (L.take i)))∧q=L.length - i,⟨_,0,none,0,by omega,rfl,rfl,.inl rfl,rfl⟩,?_⟩
 rintro a1 n1 c1 z a2 n2 c2 m1 q bJ ⟨i,a',c',hi,eG,dF,gP,hq⟩
 simp only[List.cons.injEq,Value.slice.injEq,Value.int.injEq,true_and,and_true]at eG dF
 obtain⟨⟨rfl,rfl,rfl⟩,rfl⟩:=eG
 obtain⟨rfl,rfl,rfl⟩:=dF
 refine Zaa (fun bM=>?_) (fun cR=>?_)
 ·have bL:i < L.length:=by have:=of_decide_eq_true bM;omega
  obtain⟨x,hx⟩:=Zie bL
  obtain⟨b0,o0,j6,cQ⟩:=Zc2 (bQ.mono bJ) hx
  have fY:=(cK x (List.mem_of_getElem? hx)).mono bJ
  have eG:=hs x (List.mem_of_getElem? hx)
  have hw:IntKind.i64.wrap ((i:Int)+1)=((i+1:Nat):Int):=by rw[ZaA (by omega) (by omega)];rfl
  have cO:=ZpP k w (L.take i) x
  rw[←ZqO hx]at cO
  have md:=iY i
  simp only[hw,Int.toNat_natCast]
  refine⟨b0,o0,j6,⟨by omega,by omega⟩,_,_,_,_,_,_,_,_,cQ,fun b3=>Zab rfl (Zab rfl (Zaa (fun hk=>?_) (fun hk=>Zab rfl (Zaa (fun hw'=>?_) (fun hw' b4 oU=>?_)))))⟩
  ·have hk':x.k=k:=by simpa[RowKit.intOf]using hk
   have jh:Zg5 k w x=x.subs:=by unfold Zg5;rw[if_pos hk']
   rw[jh]at cO
   refine Zab rfl ⟨.inl trivial,Rx.Zco (Zcn k w (L.take i)),Rx.Zco x.subs,Zau _,Zau _,gP,Zcb fY.subs,ZxG _,?_,?_,fun a5 c5 m5 eA kx=>⟨L.length - (i+1),by omega,i+1,a5,c5,by omega,?_,?_,?_,rfl⟩⟩
   ·simp only[T.sl,slN];omega
   ·simp only[T.sl,slN];omega
   ·rw[cO,List.length_append];rfl
   ·rw[cO,List.length_append];rfl
   ·rw[cO,ZaQ];exact kx
  ·have hk':¬x.k=k:=by simpa[RowKit.intOf]using hk
   have eH:x.k=w:=by simpa[RowKit.intOf]using hw'
   have jh:Zg5 k w x=[]:=by unfold Zg5;rw[if_neg hk',if_pos eH]
   rw[jh,List.append_nil]at cO
   exact⟨L.length - (i+1),by omega,i+1,a2,c2,by omega,by rw[cO],by rw[cO],by rw[cO];exact gP,rfl⟩
  ·have hk':¬x.k=k:=by simpa[RowKit.intOf]using hk
   have eH:¬x.k=w:=by simpa[RowKit.intOf]using hw'
   have jh:Zg5 k w x=[x]:=by unfold Zg5;rw[if_neg hk',if_neg eH]
   rw[jh]at cO
   refine⟨.inl trivial,Rx.Zco (Zcn k w (L.take i)),x.cs,Zau _,rfl,gP.mono (Mem.le_add oU _),.inr ⟨b4,0,rfl,fun j v hj=>by rw[Nat.zero_add,Mem.add_same];exact hj⟩,by have:=ZxG [x];simpa[Rx.Zco]using this,by omega,by omega,fun a5 c5 m5 eA kx=>⟨L.length - (i+1),by omega,i+1,a5,c5,by omega,?_,?_,?_,rfl⟩⟩
   ·rw[cO,List.length_append];rfl
   ·rw[cO,List.length_append];rfl
   ·rw[cO,Zn3];exact kx
 ·have oA:i=L.length:=by have:=of_decide_eq_false cR;omega
  subst oA
  rw[List.take_length]at gP ⊢
  have md:=iY L.length
  rw[List.take_length]at md
  refine⟨m1,bJ,Mem.le_refl _,a2,c2,rfl,ZlI gP (fun t ht=>?_) (by omega)⟩
  simp only[Zcn,List.mem_flatten,List.mem_map]at ht
  obtain⟨_,⟨x,hx,rfl⟩,ht⟩:=ht
  have fY:=(cK x hx).mono bJ
  unfold Zg5 at ht
  split at ht
  ·exact Zeb fY.subs t ht
  ·split at ht
   ·simp at ht
   ·simp at ht;subst ht;exact fY
theorem Zo8(k:Int)(hk:k=3∨k=4)(a:Option Addr)(c:Nat)(l:List T)(u:T)(m:Mem)(hl:RepL m a l)(hu:Rep m u)(fH:l.length≤1000000000):CX Try.prog 73 #[.int .u8 k,.slice a l.length c,u.v] m [] (Zgo (ZvL k a c u l)):=by
 apply ZmL
 unfold Zis
 intro b m1 bJ _ b1
 have bQ:=Zcb (hl.mono bJ)
 match l,hl,fH,bQ with
 | [],hl,fH,bQ=>exact ZxQ rfl ⟨m1,bJ,Mem.le_refl _,u,rfl,hu.mono bJ,rfl⟩
 | [x],hl,fH,bQ=>
  refine Zrq rfl (ZxQ rfl ?_)
  obtain⟨b0,o0,j6,cQ⟩:=Zc2 bQ (i:=0) (t:=x) rfl
  refine⟨b0,o0,j6,⟨by omega,by simp⟩,_,_,_,_,_,_,_,_,cQ,Zam (ZgD x m1 ((Zeb hl x (by simp)).mono bJ)) Zba (ZdF fun t' m2 bP hr' ht'=>?_)⟩
  exact⟨m2,Mem.le_trans bJ bP,Mem.le_refl _,t',rfl,hr',ht'⟩
 | x::y::l,hl,fH,bQ=>
  refine Zrq (by simp;omega) (Zrq (by simp;omega) ?_)
  have jW:Rep m1 (Zbb k 0 0 a c (x::y::l)):=Za5 (hl.mono bJ) (by omega) (by omega) (by omega)
  refine Zam (ZgD (Zbb k 0 0 a c (x::y::l)) m1 jW) Zba (ZdF fun t' m2 bP hr' ht'=>?_)
  exact⟨m2,Mem.le_trans bJ bP,Mem.le_refl _,t',rfl,hr',ht'⟩
theorem ZgE{t:T}(h:t.clean=true):t.subs.length≤10000:=by
 have h1:=Zg6 h
 rw[ZqR]at h1
 have:=Zn5 t.subs
 omega
theorem Zxu(L:List T)(a:Option Addr)(c:Nat)(m:Mem)(hL:RepL m a L)(hl:L.length≤1000)(hc:∀x∈L,x.clean=true):CX Try.prog 32 #[.slice a L.length c] m [] (Zgo fun t'=>∃a c,ZvL 4 a c T0 (Zcn 4 0 L) t'):=by
 apply Zuk
 unfold Zrm
 intro b
 have bQ:=Zcb hL
 have cK:=Zeb hL
 refine⟨fun xs css tvs m' q=>∃i:Nat,i≤L.length∧xs=[.int .i64 i]∧q=L.length - i,⟨_,0,by omega,rfl,rfl⟩,?_⟩
 rintro z cs m1 q bJ ⟨i,hi,eG,hq⟩
 obtain rfl:z=i:=by simpa using eG
 refine Zaa (fun bM=>?_) (fun cR=>?_)
 ·have bL:i < L.length:=by have:=of_decide_eq_true bM;omega
  obtain⟨x,hx⟩:=Zie bL
  obtain⟨b0,o0,j6,cQ⟩:=Zc2 (bQ.mono bJ) hx
  have fY:=(cK x (List.mem_of_getElem? hx)).mono bJ
  have hw:IntKind.i64.wrap ((i:Int)+1)=((i+1:Nat):Int):=by rw[ZaA (by omega) (by omega)];rfl
  simp only[hw,Int.toNat_natCast]
  exact⟨b0,o0,j6,⟨by omega,by omega⟩,_,_,_,_,_,_,_,_,cQ,fun b3=>Zab rfl (Zai (Zts x m1 fY (hc x (List.mem_of_getElem? hx))) fun m2 bP=>Zrq rfl ⟨by trivial,L.length - (i+1),by omega,i+1,by omega,rfl,rfl⟩)⟩
 ·refine Zam (Ztt 4 0 L a c m1 (hL.mono bJ) hl fun x hx=>ZgE (hc x hx)) (fun v _ _ ⟨a,c,e,_⟩=>by rw[e];rfl) ?_
  rintro a2 n2 c2 m2 bP ⟨a',c',hv,hF⟩
  simp only[Value.slice.injEq]at hv
  obtain⟨rfl,rfl,rfl⟩:=hv
  have iY:=Zh1 4 0 L fun x hx=>ZgE (hc x hx)
  refine Zam (Zo8 4 (.inr rfl) a2 c2 (Zcn 4 0 L) T0 m2 hF (Zn2 _) (by omega)) Zba (ZdF fun t' m3 cJ hr' ht'=>?_)
  exact⟨m3,Mem.le_trans bJ (Mem.le_trans bP cJ),Mem.le_refl _,t',rfl,hr',a2,c2,ht'⟩
theorem Zwz(L:List T)(a:Option Addr)(c:Nat)(m:Mem)(hL:RepL m a L)(hl:L.length≤1000)(hc:∀x∈L,x.clean=true):CX Try.prog 24 #[.slice a L.length c] m [] (Zgo fun t'=>∃a c,ZvL 3 a c T1 (Zcn 3 1 L) t'):=by
 apply ZsJ
 unfold Zo5
 intro b
 have bQ:=Zcb hL
 have cK:=Zeb hL
 refine⟨fun xs css tvs m' q=>∃i:Nat,i≤L.length∧xs=[.int .i64 i]∧q=L.length - i,⟨_,0,by omega,rfl,rfl⟩,?_⟩
 rintro z cs m1 q bJ ⟨i,hi,eG,hq⟩
 obtain rfl:z=i:=by simpa using eG
 refine Zaa (fun bM=>?_) (fun cR=>?_)
 ·have bL:i < L.length:=by have:=of_decide_eq_true bM;omega
  obtain⟨x,hx⟩:=Zie bL
  obtain⟨b0,o0,j6,cQ⟩:=Zc2 (bQ.mono bJ) hx
  have fY:=(cK x (List.mem_of_getElem? hx)).mono bJ
  have ui:=hc x (List.mem_of_getElem? hx)
  have hk:=Zol ui
  have eT:=ZiT x m1 fY
  rw[ui]at eT
  have hw:IntKind.i64.wrap ((i:Int)+1)=((i+1:Nat):Int):=by rw[ZaA (by omega) (by omega)];rfl
  simp only[hw,Int.toNat_natCast]
  refine⟨b0,o0,j6,⟨by omega,by omega⟩,_,_,_,_,_,_,_,_,cQ,fun b3=>Zab rfl ⟨false,?_,Zrq rfl ⟨by trivial,L.length - (i+1),by omega,i+1,by omega,rfl,rfl⟩⟩⟩
  refine Zab rfl (Zrq (by simpa[RowKit.intOf]using hk) ?_)
  exact Zai eT fun m2 bP=>⟨by trivial,rfl⟩
 ·refine Zam (Ztt 3 1 L a c m1 (hL.mono bJ) hl fun x hx=>ZgE (hc x hx)) (fun v _ _ ⟨a,c,e,_⟩=>by rw[e];rfl) ?_
  rintro a2 n2 c2 m2 bP ⟨a',c',hv,hF⟩
  simp only[Value.slice.injEq]at hv
  obtain⟨rfl,rfl,rfl⟩:=hv
  have iY:=Zh1 3 1 L fun x hx=>ZgE (hc x hx)
  refine Zam (Zo8 3 (.inl rfl) a2 c2 (Zcn 3 1 L) T1 m2 hF (ZpH _) (by omega)) Zba (ZdF fun t' m3 cJ hr' ht'=>?_)
  exact⟨m3,Mem.le_trans bJ (Mem.le_trans bP cJ),Mem.le_refl _,t',rfl,hr',a2,c2,ht'⟩
theorem Zqm(t:T)(m:Mem)(hr:Rep m t):CX Try.prog 34 #[t.v] m [] (Zgo fun t'=>∃a c,Zv8 (Zbb 6 0 0 a c [t]) t'):=by
 apply Zlc
 unfold Zhe
 intro b m1 bJ _ b1 b2 p8
 have cN:=Mem.le_trans bJ (Mem.le_add p8 t.cs)
 have hL:RepL (m1.add b2 t.cs) (some ⟨b2,0,none⟩) [t]:=ZkF (fun j v hj=>by rw[Nat.zero_add,Mem.add_same];exact hj) (hr.mono cN)
 have jW:Rep (m1.add b2 t.cs) (Zbb 6 0 0 (some ⟨b2,0,none⟩) 1 [t]):=Za5 hL (by omega) (by omega) (by omega)
 refine Zam (ZgD (Zbb 6 0 0 (some ⟨b2,0,none⟩) 1 [t]) (m1.add b2 t.cs) jW) Zba (ZdF fun t' m2 bP hr' ht'=>?_)
 exact⟨m2,Mem.le_trans cN bP,Mem.le_refl _,t',rfl,hr',_,_,ht'⟩
set_option maxHeartbeats 1600000 in
theorem Zun(t:T)(lo hi:Int)(m:Mem)(hr:Rep m t)(hc:t.clean=true):CX Try.prog 33 #[t.v,.int .i64 lo,.int .i64 hi] m [] (Zgo (Zvc t lo hi)):=by
 apply Zo6
 unfold Zka
 intro b m1 bJ _ b1
 have hk:=Zol hc
 have hk':(t.k == 0)=false:=by simpa using hk
 have uj:=ZoE lo hi
 generalize hB:Zcm lo hi=B at uj
 have hz:∃z,(lo == 0&&hi == 0)=z:=⟨_,rfl⟩
 have ho:∃o,(lo == 1&&hi == 1)=o:=⟨_,rfl⟩
 obtain⟨z,hz⟩:=hz
 obtain⟨o,ho⟩:=ho
 have ww:z=true→lo=0∧hi=0:=fun h=>by rw[h]at hz;simpa using hz
 have nk:o=true→lo=1∧hi=1:=fun h=>by rw[h]at ho;simpa using ho
 refine⟨z,o,?_,!z&&(!o&&!B),?_,Zaa (fun h=>?_) (fun h=>⟨false,?_,Zrq rfl ⟨z||t.k == 1,?_,Zaa (fun h2=>?_) (fun h2=>Zaa (fun h3=>?_) (fun h3 b4 oU=>?_))⟩⟩)⟩
 ·rw[←hz,←ho]
  refine Zaa (fun h=>Zaa (fun h2=>⟨by trivial,?_⟩) (fun h2=>⟨by trivial,?_⟩)) (fun h=>Zaa (fun h2=>⟨by trivial,?_⟩) (fun h2=>⟨by trivial,?_⟩)) <;> rw[h,h2] <;> rfl
 ·refine Zai (Zts t m1 (hr.mono bJ) hc) fun m2 bP=>Zrq rfl (Zaa (fun h=>Zaa (fun h2=>?_) (fun h2=>?_)) (fun h=>?_))
  ·refine Zai (uj m2) fun m3 cJ=>⟨by trivial,?_⟩
   rw[h,h2];rfl
  ·refine⟨by trivial,?_⟩
   rw[h,h2];rfl
  ·refine⟨by trivial,?_⟩
   rw[h];rfl
 ·exact⟨m1,bJ,Mem.le_refl _,T0,rfl,Zn2 _,.inl ⟨rfl,by
   cases z <;> cases o <;> cases B <;> simp_all⟩⟩
 ·exact Zrq hk' ⟨by trivial,rfl⟩
 ·refine Zaa (fun h3=>⟨by trivial,?_⟩) (fun h3=>Zrq hk' ⟨by trivial,?_⟩)
  ·rw[h3];rfl
  ·rw[h3];rfl
 ·refine⟨m1,bJ,Mem.le_refl _,T1,rfl,ZpH _,.inr (.inl ⟨rfl,?_⟩)⟩
  cases z with
  | true=>exact .inl (ww rfl)
  | false=>
   right
   refine⟨by simpa using h2,?_⟩
   cases o with
   | true=>exact .inl (nk rfl)
   | false=>right;simpa[hB]using h
 ·refine Zam (Zld t m1 (hr.mono bJ) (Zg6 hc)) Zba (ZdF fun t' m2 bP hr' ht'=>?_)
  have:=nk (by simpa using h3)
  exact⟨m2,Mem.le_trans bJ bP,Mem.le_refl _,t',rfl,hr',.inr (.inr (.inl ⟨this.1,this.2,ht'.1⟩))⟩
 ·have cN:=Mem.le_trans bJ (Mem.le_add oU t.cs)
  have hL:RepL (m1.add b4 t.cs) (some ⟨b4,0,none⟩) [t]:=ZkF (fun j v hj=>by rw[Nat.zero_add,Mem.add_same];exact hj) (hr.mono cN)
  have wx:B=true:=by
   rw[h3]at h
   have:z=false:=by
    cases z with
    | true=>simp at h2
    | false=>rfl
   rw[this]at h
   simpa using h
  have hb:=hB.trans wx
  have gD:0≤lo∧lo≤16∧-1≤hi∧hi≤16:=by
   unfold Zcm at hb
   simp only[Bool.and_eq_true,Bool.not_eq_true',Bool.or_eq_false_iff,Bool.or_eq_true,decide_eq_false_iff_not,decide_eq_true_eq,beq_iff_eq]at hb
   omega
  have jW:Rep (m1.add b4 t.cs) (Zbb 5 lo hi (some ⟨b4,0,none⟩) 1 [t]):=Za5 hL (by omega) (by omega) (by omega)
  refine Zam (ZgD (Zbb 5 lo hi (some ⟨b4,0,none⟩) 1 [t]) (m1.add b4 t.cs) jW) Zba (ZdF fun t' m2 bP hr' ht'=>?_)
  exact⟨m2,Mem.le_trans cN bP,Mem.le_refl _,t',rfl,hr',.inr (.inr (.inr ⟨_,_,ht'⟩))⟩
end Go.Proofs.Ytplacemlpkhmfaa

