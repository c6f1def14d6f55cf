/- Part of the proof: conditions and contracts of functions of this program. No condition of its own. -/
import Derived.Test.YtplacemlpkhmfaaPC13H
import Derived.Test.YtplacemlpkhmfaaMr
set_option linter.unusedVariables false
set_option linter.unusedSimpArgs false
set_option linter.unusedSectionVars false
namespace Go.Proofs.Ytplacemlpkhmfaa
open Go Go.Eng Go.Rx Go.Proofs Go.RowKit
set_option maxRecDepth 100000
theorem Zfz(k:Int)(t:T):ZbL k t=if t.k=k then t.subs else if k=3∧t.k=1 then[]else[t]:=rfl
theorem ZeC(l:List T):∀u∈Rx.Zcc l,u.oneCell'=true:=by
 intro u hu
 simp only[Rx.Zcc,List.mem_flatten,List.mem_map]at hu
 obtain⟨_,⟨t,_,rfl⟩,h⟩:=hu
 simp only[T.cs,List.mem_cons,List.not_mem_nil,or_false,T.sl]at h
 rcases h with rfl|rfl|rfl|rfl|rfl|rfl|rfl|rfl <;> rfl
theorem Zmw(k:Int)(t u:T)(hk:k=3∨k=4)(m:Mem)(hr:Rep m t)(hu:Rep m u)(ht:(ZbL k t).length≤10000)(u0:(ZbL k u).length≤10000):CX Try.prog 65 #[.int .u8 k,t.v,u.v] m [] (Zjj (fun r=>∃a c,r=Zfx k a c (ZbL k t++ZbL k u))):=by
 apply ZiJ
 unfold ZfV
 intro b m1 bH _ b1 m2 bN _ b2 b3 mT
 have iT:=Mem.le_trans bH bN
 have fS:m.le (m2.add b3 (t.cs++u.cs)):=Mem.le_trans iT (Mem.le_add mT _)
 refine⟨fun xs css tvs m' q=>∃(i:Nat)(l:List T)(a:Option Addr)(c:Nat),i≤2∧xs=[.slice a l.length c,.int .i64 i]∧tvs=[.slice a l.length c]∧l=(([t,u].take i).map (ZbL k)).flatten∧rowRd m' a (Rx.Zcc l)∧q=2 - i,⟨2,0,[],none,0,by omega,rfl,rfl,rfl,.inl rfl,rfl⟩,?_⟩
 rintro a n c z a1 n1 c1 m3 q cG ⟨i,l,a',c',hi,eM,dA,hl,bM,hq⟩
 simp only[List.cons.injEq,Value.slice.injEq,Value.int.injEq,true_and,and_true]at eM dA
 obtain⟨⟨rfl,rfl,rfl⟩,rfl⟩:=eM
 obtain⟨rfl,rfl,rfl⟩:=dA
 have iW:=Mem.le_trans fS cG
 have eL:l.length≤20000:=by
  rw[hl]
  have:i=0∨i=1∨i=2:=by omega
  rcases this with rfl|rfl|rfl <;> simp <;> omega
 refine Zab (fun bK=>?_) (fun cS=>?_)
 ·have h2:i=0∨i=1:=by have:=of_decide_eq_true bK;omega
  rcases h2 with rfl|rfl
  ·
   refine⟨⟨by omega,by omega⟩,Zaa rfl fun b4=>Zaa rfl (Zap (v:=.int .u8 t.k) rfl (Zaa rfl (Zab (fun dZ=>Zap (v:=t.sl) rfl (Zaa rfl ?_)) (fun dZ=>?_))))⟩
   ·have gw:t.k=k:=by simpa[RowKit.intOf]using dZ
    have hj:ZbL k t=t.subs:=by rw[Zfz,if_pos gw]
    have bO:=ht
    rw[hj]at bO
    refine⟨.inl rfl,Rx.Zcc l,Rx.Zcc t.subs,Zau _,Zau _,bM,(Zcg (hr.subs)).mono iW,ZeC _,?_,?_,fun a2 c2 m4 cY cW=>⟨by trivial,1,by omega,1,l++t.subs,a2,c2,by omega,?_,?_,?_,?_,?_⟩⟩
    ·simp only[T.sl,slN];omega
    ·simp only[T.sl,slN];omega
    ·rw[List.length_append];rfl
    ·rw[List.length_append];rfl
    ·rw[hl,←hj];simp
    ·rw[ZaM];exact cW
    ·omega
   ·have gw:¬t.k=k:=by simpa[RowKit.intOf]using dZ
    refine⟨k == 3&&t.k == 1,Zab (fun h=>Zap (v:=.int .u8 t.k) rfl (Zaa rfl ⟨by trivial,by trivial,?_⟩)) (fun h=>⟨by trivial,by trivial,?_⟩),Zab (fun h=>⟨by trivial,1,by omega,1,l,_,_,by omega,rfl,rfl,?_,bM,by omega⟩) (fun h=>Zaa rfl fun b6 l9=>?_)⟩
    ·rw[h];rfl
    ·rw[h];rfl
    ·have:k=3∧t.k=1:=by simpa using h
     have hj:ZbL k t=[]:=by rw[Zfz,if_neg gw,if_pos this]
     rw[hl];simp[hj]
    ·have:¬(k=3∧t.k=1):=by simpa using h
     have hj:ZbL k t=[t]:=by rw[Zfz,if_neg gw,if_neg this]
     have ij:=Mem.le_add l9 t.cs
     refine⟨.inl rfl,Rx.Zcc l,t.cs,Zau _,rfl,bM.mono ij,.inr ⟨b6,0,rfl,fun j v hj=>by rw[Nat.zero_add,Mem.add_same];exact hj⟩,by rw[←Zbu];exact ZeC _,by omega,by omega,fun a2 c2 m4 cY cW=>⟨by trivial,1,by omega,1,l++[t],a2,c2,by omega,?_,?_,?_,?_,?_⟩⟩
     ·rw[List.length_append];rfl
     ·rw[List.length_append];rfl
     ·rw[hl];simp[hj]
     ·rw[ZaM,Zbu];exact cW
     ·omega
  ·
   refine⟨⟨by omega,by omega⟩,Zaa rfl fun b4=>Zaa rfl (Zap (v:=.int .u8 u.k) rfl (Zaa rfl (Zab (fun dZ=>Zap (v:=u.sl) rfl (Zaa rfl ?_)) (fun dZ=>?_))))⟩
   ·have gw:u.k=k:=by simpa[RowKit.intOf]using dZ
    have hj:ZbL k u=u.subs:=by rw[Zfz,if_pos gw]
    have bO:=u0
    rw[hj]at bO
    refine⟨.inl rfl,Rx.Zcc l,Rx.Zcc u.subs,Zau _,Zau _,bM,(Zcg (hu.subs)).mono iW,ZeC _,?_,?_,fun a2 c2 m4 cY cW=>⟨by trivial,0,by omega,2,l++u.subs,a2,c2,by omega,?_,?_,?_,?_,?_⟩⟩
    ·simp only[T.sl,slN];omega
    ·simp only[T.sl,slN];omega
    ·rw[List.length_append];rfl
    ·rw[List.length_append];rfl
    ·rw[hl,←hj];simp
    ·rw[ZaM];exact cW
    ·omega
   ·have gw:¬u.k=k:=by simpa[RowKit.intOf]using dZ
    refine⟨k == 3&&u.k == 1,Zab (fun h=>Zap (v:=.int .u8 u.k) rfl (Zaa rfl ⟨by trivial,by trivial,?_⟩)) (fun h=>⟨by trivial,by trivial,?_⟩),Zab (fun h=>⟨by trivial,0,by omega,2,l,_,_,by omega,rfl,rfl,?_,bM,by omega⟩) (fun h=>Zaa rfl fun b6 l9=>?_)⟩
    ·rw[h];rfl
    ·rw[h];rfl
    ·have:k=3∧u.k=1:=by simpa using h
     have hj:ZbL k u=[]:=by rw[Zfz,if_neg gw,if_pos this]
     rw[hl];simp[hj]
    ·have:¬(k=3∧u.k=1):=by simpa using h
     have hj:ZbL k u=[u]:=by rw[Zfz,if_neg gw,if_neg this]
     have ij:=Mem.le_add l9 u.cs
     refine⟨.inl rfl,Rx.Zcc l,u.cs,Zau _,rfl,bM.mono ij,.inr ⟨b6,0,rfl,fun j v hj=>by rw[Nat.zero_add,Mem.add_same];exact hj⟩,by rw[←Zbu];exact ZeC _,by omega,by omega,fun a2 c2 m4 cY cW=>⟨by trivial,0,by omega,2,l++[u],a2,c2,by omega,?_,?_,?_,?_,?_⟩⟩
     ·rw[List.length_append];rfl
     ·rw[List.length_append];rfl
     ·rw[hl];simp[hj]
     ·rw[ZaM,Zbu];exact cW
     ·omega
 ·have:i=2:=by have:=of_decide_eq_false cS;omega
  subst this
  have hl':ZbL k t++ZbL k u=l:=by rw[hl];simp
  rw[hl']
  have cK:∀x∈l,Rep m3 x:=by
   have key:∀t:T,Rep m t→∀x∈ZbL k t,Rep m3 x:=by
    intro t hr x hx
    rw[Zfz]at hx
    split at hx
    ·exact Ze0 (hr.subs.mono iW) x hx
    ·split at hx
     ·simp at hx
     ·simp at hx;subst hx;exact hr.mono iW
   rw[←hl']
   intro x hx
   rcases List.mem_append.1 hx with hx|hx
   ·exact key t hr x hx
   ·exact key u hu x hx
  refine Zab (fun h0=>?_) (fun h0=>Zab (fun h1=>?_) (fun h1=>?_))
  ·have:l=[]:=by simpa using h0
   subst this
   exact Zah iW ⟨T1,rfl,Zrk _,none,0,rfl⟩
  ·have rq:l.length=1:=by
    have:((l.length:Int) == 1)=true:=h1
    have:=of_decide_eq_true this;omega
   obtain⟨x,rfl⟩:∃x,l=[x]:=by
    match l,rq with
    | [x],_=>exact⟨x,rfl⟩
   rcases bM with bM|⟨b6,o,ha,cM⟩
   ·simp[Rx.Zcc,T.cs]at bM
   ·rw[Zbu]at cM
    exact⟨b6,o,ha,⟨by omega,by simp⟩,_,_,_,_,_,_,_,_,cM,Zaa rfl (Zji iW ⟨x,rfl,cK x (by simp),none,0,rfl⟩)⟩
  ·have pG:¬l.length=0:=fun e=>by rw[e]at h0;simp at h0
   have mO:¬l.length=1:=fun e=>by rw[e]at h1;simp at h1
   obtain⟨x,y,r,rfl⟩:∃x y r,l=x::y::r:=by
    match l,pG,mO with
    | [],h,_=>simp at h
    | [x],_,h=>simp at h
    | x::y::r,_,_=>exact⟨x,y,r,rfl⟩
   refine Zji iW ⟨Za0 k 0 0 _ _ (x::y::r),rfl,Zbh (Zle bM cK (by omega)) (by omega) (by omega) (by omega),_,_,rfl⟩
end Go.Proofs.Ytplacemlpkhmfaa

