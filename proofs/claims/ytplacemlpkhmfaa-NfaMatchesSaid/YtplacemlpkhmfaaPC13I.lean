/- Part of the proof: conditions and contracts of functions of this program. No condition of its own. -/
import Derived.Test.YtplacemlpkhmfaaPC13H
import Derived.Test.YtplacemlpkhmfaaMr
set_option linter.unusedVariables false
set_option linter.unusedSimpArgs false
set_option linter.unusedSectionVars false
namespace Go.Proofs.Ytplacemlpkhmfaa
open Go Go.Eng Go.Rx Go.Proofs Go.RowKit
set_option maxRecDepth 100000
theorem Zgn(k:Int)(t:T):ZbQ k t=if t.k=k then t.subs else if k=3∧t.k=1 then[]else[t]:=rfl
theorem Zfh(l:List T):∀u∈Rx.Zdg l,u.oneCell'=true:=by
 intro u hu
 simp only[Rx.Zdg,List.mem_flatten,List.mem_map]at hu
 obtain⟨_,⟨t,_,rfl⟩,h⟩:=hu
 simp only[T.cs,List.mem_cons,List.not_mem_nil,or_false,T.sl]at h
 rcases h with rfl|rfl|rfl|rfl|rfl|rfl|rfl|rfl <;> rfl
theorem Zn0(k:Int)(t u:T)(hk:k=3∨k=4)(m:Mem)(hr:Rep m t)(hu:Rep m u)(ht:(ZbQ k t).length≤10000)(vr:(ZbQ k u).length≤10000):CX Try.prog 65 #[.int .u8 k,t.v,u.v] m [] (ZrT (fun r=>∃a c,r=ZhS k a c (ZbQ k t++ZbQ k u))):=by
 apply ZjY
 unfold ZgM
 intro b m1 bJ _ b1 m2 bT _ b2 b3 nA
 have j7:=Mem.le_trans bJ bT
 have ii:m.le (m2.add b3 (t.cs++u.cs)):=Mem.le_trans j7 (Mem.le_add nA _)
 refine⟨fun xs css tvs m' q=>∃(i:Nat)(l:List T)(a:Option Addr)(c:Nat),i≤2∧xs=[.slice a l.length c,.int .i64 i]∧tvs=[.slice a l.length c]∧l=(([t,u].take i).map (ZbQ k)).flatten∧rowRd m' a (Rx.Zdg l)∧q=2 - i,⟨2,0,[],none,0,by omega,rfl,rfl,rfl,.inl rfl,rfl⟩,?_⟩
 rintro a n c z a1 n1 c1 m3 q cH ⟨i,l,a',c',hi,gn,dE,hl,bZ,hq⟩
 simp only[List.cons.injEq,Value.slice.injEq,Value.int.injEq,true_and,and_true]at gn dE
 obtain⟨⟨rfl,rfl,rfl⟩,rfl⟩:=gn
 obtain⟨rfl,rfl,rfl⟩:=dE
 have jj:=Mem.le_trans ii cH
 have fN:l.length≤20000:=by
  rw[hl]
  have:i=0∨i=1∨i=2:=by omega
  rcases this with rfl|rfl|rfl <;> simp <;> omega
 refine Zab (fun bS=>?_) (fun cX=>?_)
 ·have h2:i=0∨i=1:=by have:=of_decide_eq_true bS;omega
  rcases h2 with rfl|rfl
  ·
   refine⟨⟨by omega,by omega⟩,Zaa rfl fun b4=>Zaa rfl (Zam (v:=.int .u8 t.k) rfl (Zaa rfl (Zab (fun eP=>Zam (v:=t.sl) rfl (Zaa rfl ?_)) (fun eP=>?_))))⟩
   ·have gM:t.k=k:=by simpa[RowKit.intOf]using eP
    have hj:ZbQ k t=t.subs:=by rw[Zgn,if_pos gM]
    have bX:=ht
    rw[hj]at bX
    refine⟨.inl rfl,Rx.Zdg l,Rx.Zdg t.subs,ZaO _,ZaO _,bZ,(ZkC (hr.subs)).mono jj,Zfh _,?_,?_,fun a2 c2 m4 cQ cV=>⟨by trivial,1,by omega,1,l++t.subs,a2,c2,by omega,?_,?_,?_,?_,?_⟩⟩
    ·simp only[T.sl,slN];omega
    ·simp only[T.sl,slN];omega
    ·rw[List.length_append];rfl
    ·rw[List.length_append];rfl
    ·rw[hl,←hj];simp
    ·rw[ZaP];exact cV
    ·omega
   ·have gM:¬t.k=k:=by simpa[RowKit.intOf]using eP
    refine⟨k == 3&&t.k == 1,Zab (fun h=>Zam (v:=.int .u8 t.k) rfl (Zaa rfl ⟨by trivial,by trivial,?_⟩)) (fun h=>⟨by trivial,by trivial,?_⟩),Zab (fun h=>⟨by trivial,1,by omega,1,l,_,_,by omega,rfl,rfl,?_,bZ,by omega⟩) (fun h=>Zaa rfl fun b6 mK=>?_)⟩
    ·rw[h];rfl
    ·rw[h];rfl
    ·have:k=3∧t.k=1:=by simpa using h
     have hj:ZbQ k t=[]:=by rw[Zgn,if_neg gM,if_pos this]
     rw[hl];simp[hj]
    ·have:¬(k=3∧t.k=1):=by simpa using h
     have hj:ZbQ k t=[t]:=by rw[Zgn,if_neg gM,if_neg this]
     have iB:=Mem.le_add mK t.cs
     refine⟨.inl rfl,Rx.Zdg l,t.cs,ZaO _,rfl,bZ.mono iB,.inr ⟨b6,0,rfl,fun j v hj=>by rw[Nat.zero_add,Mem.add_same];exact hj⟩,by rw[←Zbs];exact Zfh _,by omega,by omega,fun a2 c2 m4 cQ cV=>⟨by trivial,1,by omega,1,l++[t],a2,c2,by omega,?_,?_,?_,?_,?_⟩⟩
     ·rw[List.length_append];rfl
     ·rw[List.length_append];rfl
     ·rw[hl];simp[hj]
     ·rw[ZaP,Zbs];exact cV
     ·omega
  ·
   refine⟨⟨by omega,by omega⟩,Zaa rfl fun b4=>Zaa rfl (Zam (v:=.int .u8 u.k) rfl (Zaa rfl (Zab (fun eP=>Zam (v:=u.sl) rfl (Zaa rfl ?_)) (fun eP=>?_))))⟩
   ·have gM:u.k=k:=by simpa[RowKit.intOf]using eP
    have hj:ZbQ k u=u.subs:=by rw[Zgn,if_pos gM]
    have bX:=vr
    rw[hj]at bX
    refine⟨.inl rfl,Rx.Zdg l,Rx.Zdg u.subs,ZaO _,ZaO _,bZ,(ZkC (hu.subs)).mono jj,Zfh _,?_,?_,fun a2 c2 m4 cQ cV=>⟨by trivial,0,by omega,2,l++u.subs,a2,c2,by omega,?_,?_,?_,?_,?_⟩⟩
    ·simp only[T.sl,slN];omega
    ·simp only[T.sl,slN];omega
    ·rw[List.length_append];rfl
    ·rw[List.length_append];rfl
    ·rw[hl,←hj];simp
    ·rw[ZaP];exact cV
    ·omega
   ·have gM:¬u.k=k:=by simpa[RowKit.intOf]using eP
    refine⟨k == 3&&u.k == 1,Zab (fun h=>Zam (v:=.int .u8 u.k) rfl (Zaa rfl ⟨by trivial,by trivial,?_⟩)) (fun h=>⟨by trivial,by trivial,?_⟩),Zab (fun h=>⟨by trivial,0,by omega,2,l,_,_,by omega,rfl,rfl,?_,bZ,by omega⟩) (fun h=>Zaa rfl fun b6 mK=>?_)⟩
    ·rw[h];rfl
    ·rw[h];rfl
    ·have:k=3∧u.k=1:=by simpa using h
     have hj:ZbQ k u=[]:=by rw[Zgn,if_neg gM,if_pos this]
     rw[hl];simp[hj]
    ·have:¬(k=3∧u.k=1):=by simpa using h
     have hj:ZbQ k u=[u]:=by rw[Zgn,if_neg gM,if_neg this]
     have iB:=Mem.le_add mK u.cs
     refine⟨.inl rfl,Rx.Zdg l,u.cs,ZaO _,rfl,bZ.mono iB,.inr ⟨b6,0,rfl,fun j v hj=>by rw[Nat.zero_add,Mem.add_same];exact hj⟩,by rw[←Zbs];exact Zfh _,by omega,by omega,fun a2 c2 m4 cQ cV=>⟨by trivial,0,by omega,2,l++[u],a2,c2,by omega,?_,?_,?_,?_,?_⟩⟩
     ·rw[List.length_append];rfl
     ·rw[List.length_append];rfl
     ·rw[hl];simp[hj]
     ·rw[ZaP,Zbs];exact cV
     ·omega
 ·have:i=2:=by have:=of_decide_eq_false cX;omega
  subst this
  have hl':ZbQ k t++ZbQ k u=l:=by rw[hl];simp
  rw[hl']
  have dB:∀x∈l,Rep m3 x:=by
   have key:∀t:T,Rep m t→∀x∈ZbQ k t,Rep m3 x:=by
    intro t hr x hx
    rw[Zgn]at hx
    split at hx
    ·exact Zs7 (hr.subs.mono jj) x hx
    ·split at hx
     ·simp at hx
     ·simp at hx;subst hx;exact hr.mono jj
   rw[←hl']
   intro x hx
   rcases List.mem_append.1 hx with hx|hx
   ·exact key t hr x hx
   ·exact key u hu x hx
  refine Zab (fun h0=>?_) (fun h0=>Zab (fun h1=>?_) (fun h1=>?_))
  ·have:l=[]:=by simpa using h0
   subst this
   exact Zac jj ⟨T1,rfl,ZwF _,none,0,rfl⟩
  ·have p7:l.length=1:=by
    have:((l.length:Int) == 1)=true:=h1
    have:=of_decide_eq_true this;omega
   obtain⟨x,rfl⟩:∃x,l=[x]:=by
    match l,p7 with
    | [x],_=>exact⟨x,rfl⟩
   rcases bZ with bZ|⟨b6,o,ha,cU⟩
   ·simp[Rx.Zdg,T.cs]at bZ
   ·rw[Zbs]at cU
    exact⟨b6,o,ha,⟨by omega,by simp⟩,_,_,_,_,_,_,_,_,cU,Zaa rfl (ZkB jj ⟨x,rfl,dB x (by simp),none,0,rfl⟩)⟩
  ·have k8:¬l.length=0:=fun e=>by rw[e]at h0;simp at h0
   have mo:¬l.length=1:=fun e=>by rw[e]at h1;simp at h1
   obtain⟨x,y,r,rfl⟩:∃x y r,l=x::y::r:=by
    match l,k8,mo with
    | [],h,_=>simp at h
    | [x],_,h=>simp at h
    | x::y::r,_,_=>exact⟨x,y,r,rfl⟩
   refine ZkB jj ⟨ZbD k 0 0 _ _ (x::y::r),rfl,Zb5 (Zuk bZ dB (by omega)) (by omega) (by omega) (by omega),_,_,rfl⟩
end Go.Proofs.Ytplacemlpkhmfaa

