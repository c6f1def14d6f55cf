/- Part of the proof: conditions and contracts of functions of this program. No condition of its own. -/
import Derived.Test.YtplacemlpkhmfaaPVP
import Derived.Test.YtplacemlpkhmfaaPC13X
import Derived.Test.YtplacemlpkhmfaaMr
set_option linter.unusedVariables false
set_option linter.unusedSimpArgs false
set_option linter.unusedSectionVars false
namespace Go.Proofs.Ytplacemlpkhmfaa
open Go Go.Eng Go.Rx Go.Proofs Go.RowKit
set_option maxRecDepth 100000
theorem Zs8(m:Mem):Rep m T0:=Zbh (k:=0) (mn:=0) (mx:=0) (a:=none) (c:=0) (l:=[]) ⟨by simp,.inl rfl⟩ (by omega) (by omega) (by omega)
theorem Zrk(m:Mem):Rep m T1:=Zbh (k:=1) (mn:=0) (mx:=0) (a:=none) (c:=0) (l:=[]) ⟨by simp,.inl rfl⟩ (by omega) (by omega) (by omega)
theorem Zlv(t:T)(m:Mem)(hr:Rep m t):CX Try.prog 86 #[t.v] m [] (Zjj (Zws t)):=by
 apply Zkx
 unfold ZgO
 intro b m1 bH _ b1
 refine Zaj (Zmv t m1 (hr.mono bH)) fun m2 bN=>Zab (fun h=>?_) (fun h=>?_)
 ·exact⟨m2,Mem.le_trans bH bN,Mem.le_refl _,T0,rfl,Zs8 _,.inr ⟨by simpa using h,rfl⟩,Zuq⟩
 ·have hc:t.clean=true:=by simpa using h
  refine Zam (Zn7 t m2 (hr.mono (Mem.le_trans bH bN)) (Zjk hc)) Zb8 (ZgY fun t' m3 cG hr' ht'=>?_)
  exact⟨m3,Mem.le_trans bH (Mem.le_trans bN cG),Mem.le_refl _,t',rfl,hr',.inl ⟨hc,ht'.1⟩,ht'.2⟩
theorem ZuH(k w:Int)(L:List T)(a:Option Addr)(c:Nat)(m:Mem)(hL:RepL m a L)(hl:L.length≤1000)(hs:∀x∈L,x.subs.length≤10000):CX Try.prog 74 #[.int .u8 k,.int .u8 w,.slice a L.length c] m [] (fun v m' _=>∃a' c',v=.slice a' (Zec k w L).length c'∧RepL m' a' (Zec k w L)):=by
 apply Zpo
 unfold Zlu
 have bM:=Zcg hL
 have cK:=Ze0 hL
 have iE:∀i,(Zec k w (L.take i)).length≤10001000:=fun i=>by
  have:=Zki k w (L.take i) fun x hx=>hs x (List.mem_of_mem_take hx)
  have h2:(L.take i).length≤1000:=by rw[List.length_take];omega
  omega
 refine⟨fun xs css tvs m' q=>∃(i:Nat)(a:Option Addr)(c:Nat),i≤L.length∧xs=[.slice a (Zec k w (L.take i)).length c,.int .i64 i]∧tvs=[.slice a (Zec k w (L.take i)).length c]∧rowRd m' a (Rx.Zcc (Zec k w (L.take i)))∧q=L.length - i,⟨_,0,none,0,by omega,rfl,rfl,.inl rfl,rfl⟩,?_⟩
 rintro a1 n1 c1 z a2 n2 c2 m1 q bH ⟨i,a',c',hi,eM,dA,gH,hq⟩
 simp only[List.cons.injEq,Value.slice.injEq,Value.int.injEq,true_and,and_true]at eM dA
 obtain⟨⟨rfl,rfl,rfl⟩,rfl⟩:=eM
 obtain⟨rfl,rfl,rfl⟩:=dA
 refine Zab (fun bK=>?_) (fun cS=>?_)
 ·have bJ:i < L.length:=by have:=of_decide_eq_true bK;omega
  obtain⟨x,hx⟩:=Zjx bJ
  obtain⟨b0,o0,kH,cM⟩:=Zdn (bM.mono bH) hx
  have fV:=(cK x (List.mem_of_getElem? hx)).mono bH
  have eM:=hs x (List.mem_of_getElem? hx)
  have hw:IntKind.i64.wrap ((i:Int)+1)=((i+1:Nat):Int):=by rw[Zax (by omega) (by omega)];rfl
  have cO:=Zo0 k w (L.take i) x
  rw[←Zqa hx]at cO
  have lS:=iE i
  simp only[hw,Int.toNat_natCast]
  refine⟨b0,o0,kH,⟨by omega,by omega⟩,_,_,_,_,_,_,_,_,cM,fun b3=>Zaa rfl (Zaa rfl (Zab (fun hk=>?_) (fun hk=>Zaa rfl (Zab (fun hw'=>?_) (fun hw' b4 rD=>?_)))))⟩
  ·have hk':x.k=k:=by simpa[RowKit.intOf]using hk
   have i5:Zgc k w x=x.subs:=by unfold Zgc;rw[if_pos hk']
   rw[i5]at cO
   refine Zaa rfl ⟨.inl trivial,Rx.Zcc (Zec k w (L.take i)),Rx.Zcc x.subs,Zau _,Zau _,gH,Zcg fV.subs,Zw6 _,?_,?_,fun a5 c5 m5 dX j2=>⟨L.length - (i+1),by omega,i+1,a5,c5,by omega,?_,?_,?_,rfl⟩⟩
   ·simp only[T.sl,slN];omega
   ·simp only[T.sl,slN];omega
   ·rw[cO,List.length_append];rfl
   ·rw[cO,List.length_append];rfl
   ·rw[cO,ZaM];exact j2
  ·have hk':¬x.k=k:=by simpa[RowKit.intOf]using hk
   have eC:x.k=w:=by simpa[RowKit.intOf]using hw'
   have i5:Zgc k w x=[]:=by unfold Zgc;rw[if_neg hk',if_pos eC]
   rw[i5,List.append_nil]at cO
   exact⟨L.length - (i+1),by omega,i+1,a2,c2,by omega,by rw[cO],by rw[cO],by rw[cO];exact gH,rfl⟩
  ·have hk':¬x.k=k:=by simpa[RowKit.intOf]using hk
   have eC:¬x.k=w:=by simpa[RowKit.intOf]using hw'
   have i5:Zgc k w x=[x]:=by unfold Zgc;rw[if_neg hk',if_neg eC]
   rw[i5]at cO
   refine⟨.inl trivial,Rx.Zcc (Zec k w (L.take i)),x.cs,Zau _,rfl,gH.mono (Mem.le_add rD _),.inr ⟨b4,0,rfl,fun j v hj=>by rw[Nat.zero_add,Mem.add_same];exact hj⟩,by have:=Zw6 [x];simpa[Rx.Zcc]using this,by omega,by omega,fun a5 c5 m5 dX j2=>⟨L.length - (i+1),by omega,i+1,a5,c5,by omega,?_,?_,?_,rfl⟩⟩
   ·rw[cO,List.length_append];rfl
   ·rw[cO,List.length_append];rfl
   ·rw[cO,Znr];exact j2
 ·have nW:i=L.length:=by have:=of_decide_eq_false cS;omega
  subst nW
  rw[List.take_length]at gH ⊢
  have lS:=iE L.length
  rw[List.take_length]at lS
  refine⟨m1,bH,Mem.le_refl _,a2,c2,rfl,Zle gH (fun t ht=>?_) (by omega)⟩
  simp only[Zec,List.mem_flatten,List.mem_map]at ht
  obtain⟨_,⟨x,hx,rfl⟩,ht⟩:=ht
  have fV:=(cK x hx).mono bH
  unfold Zgc at ht
  split at ht
  ·exact Ze0 fV.subs t ht
  ·split at ht
   ·simp at ht
   ·simp at ht;subst ht;exact fV
theorem ZrI(k:Int)(hk:k=3∨k=4)(a:Option Addr)(c:Nat)(l:List T)(u:T)(m:Mem)(hl:RepL m a l)(hu:Rep m u)(eL:l.length≤1000000000):CX Try.prog 73 #[.int .u8 k,.slice a l.length c,u.v] m [] (Zjj (Zw2 k a c u l)):=by
 apply Zl9
 unfold ZhQ
 intro b m1 bH _ b1
 have bM:=Zcg (hl.mono bH)
 match l,hl,eL,bM with
 | [],hl,eL,bM=>exact Zqp rfl ⟨m1,bH,Mem.le_refl _,u,rfl,hu.mono bH,rfl⟩
 | [x],hl,eL,bM=>
  refine Zlr rfl (Zqp rfl ?_)
  obtain⟨b0,o0,kH,cM⟩:=Zdn bM (i:=0) (t:=x) rfl
  refine⟨b0,o0,kH,⟨by omega,by simp⟩,_,_,_,_,_,_,_,_,cM,Zam (Zlv x m1 ((Ze0 hl x (by simp)).mono bH)) Zb8 (ZgY fun t' m2 bN hr' ht'=>?_)⟩
  exact⟨m2,Mem.le_trans bH bN,Mem.le_refl _,t',rfl,hr',ht'⟩
 | x::y::l,hl,eL,bM=>
  refine Zlr (by simp;omega) (Zlr (by simp;omega) ?_)
  have lP:Rep m1 (Za0 k 0 0 a c (x::y::l)):=Zbh (hl.mono bH) (by omega) (by omega) (by omega)
  refine Zam (Zlv (Za0 k 0 0 a c (x::y::l)) m1 lP) Zb8 (ZgY fun t' m2 bN hr' ht'=>?_)
  exact⟨m2,Mem.le_trans bH bN,Mem.le_refl _,t',rfl,hr',ht'⟩
theorem Zlw{t:T}(h:t.clean=true):t.subs.length≤10000:=by
 have h1:=Zjk h
 rw[Zqe]at h1
 have:=Znt t.subs
 omega
theorem ZvP(L:List T)(a:Option Addr)(c:Nat)(m:Mem)(hL:RepL m a L)(hl:L.length≤1000)(hc:∀x∈L,x.clean=true):CX Try.prog 24 #[.slice a L.length c] m [] (Zjj fun t'=>∃a c,Zw2 3 a c T1 (Zec 3 1 L) t'):=by
 apply ZrH
 unfold Zn5
 intro b
 have bM:=Zcg hL
 have cK:=Ze0 hL
 refine⟨fun xs css tvs m' q=>∃i:Nat,i≤L.length∧xs=[.int .i64 i]∧q=L.length - i,⟨_,0,by omega,rfl,rfl⟩,?_⟩
 rintro z cs m1 q bH ⟨i,hi,eM,hq⟩
 obtain rfl:z=i:=by simpa using eM
 refine Zab (fun bK=>?_) (fun cS=>?_)
 ·have bJ:i < L.length:=by have:=of_decide_eq_true bK;omega
  obtain⟨x,hx⟩:=Zjx bJ
  obtain⟨b0,o0,kH,cM⟩:=Zdn (bM.mono bH) hx
  have fV:=(cK x (List.mem_of_getElem? hx)).mono bH
  have l6:=hc x (List.mem_of_getElem? hx)
  have hk:=Zur l6
  have fM:=Zmv x m1 fV
  rw[l6]at fM
  have hw:IntKind.i64.wrap ((i:Int)+1)=((i+1:Nat):Int):=by rw[Zax (by omega) (by omega)];rfl
  simp only[hw,Int.toNat_natCast]
  refine⟨b0,o0,kH,⟨by omega,by omega⟩,_,_,_,_,_,_,_,_,cM,fun b3=>Zaa rfl ⟨false,?_,Zlr rfl ⟨by trivial,L.length - (i+1),by omega,i+1,by omega,rfl,rfl⟩⟩⟩
  refine Zaa rfl (Zlr (by simpa[RowKit.intOf]using hk) ?_)
  exact Zaj fM fun m2 bN=>⟨by trivial,rfl⟩
 ·refine Zam (ZuH 3 1 L a c m1 (hL.mono bH) hl fun x hx=>Zlw (hc x hx)) (fun v _ _ ⟨a,c,e,_⟩=>by rw[e];rfl) ?_
  rintro a2 n2 c2 m2 bN ⟨a',c',hv,hF⟩
  simp only[Value.slice.injEq]at hv
  obtain⟨rfl,rfl,rfl⟩:=hv
  have iE:=Zki 3 1 L fun x hx=>Zlw (hc x hx)
  refine Zam (ZrI 3 (.inl rfl) a2 c2 (Zec 3 1 L) T1 m2 hF (Zrk _) (by omega)) Zb8 (ZgY fun t' m3 cG hr' ht'=>?_)
  exact⟨m3,Mem.le_trans bH (Mem.le_trans bN cG),Mem.le_refl _,t',rfl,hr',a2,c2,ht'⟩
end Go.Proofs.Ytplacemlpkhmfaa

