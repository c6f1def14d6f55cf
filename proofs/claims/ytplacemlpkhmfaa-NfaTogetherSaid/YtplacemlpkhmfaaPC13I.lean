/- Part of the proof: conditions and contracts of functions of this program. No condition of its own. -/
import Derived.Test.YtplacemlpkhmfaaPC13H
import Derived.Test.YtplacemlpkhmfaaMr
set_option linter.unusedVariables false
set_option linter.unusedSimpArgs false
set_option linter.unusedSectionVars false
namespace Go.Proofs.Ytplacemlpkhmfaa
open Go Go.Eng Go.Rx Go.Proofs Go.RowKit
set_option maxRecDepth 100000
theorem ZfP(k:Int)(t:T):ZbU k t=if t.k=k then t.subs else if k=3∧t.k=1 then[]else[t]:=rfl
theorem ZeQ(l:List T):∀u∈Rx.Zco l,u.oneCell'=true:=by
 intro u hu
 simp only[Rx.Zco,List.mem_flatten,List.mem_map]at hu
 obtain⟨_,⟨t,_,rfl⟩,h⟩:=hu
 simp only[T.cs,List.mem_cons,List.not_mem_nil,or_false,T.sl]at h
 rcases h with rfl|rfl|rfl|rfl|rfl|rfl|rfl|rfl <;> rfl
theorem Zm4(k:Int)(t u:T)(hk:k=3∨k=4)(m:Mem)(hr:Rep m t)(hu:Rep m u)(ht:(ZbU k t).length≤10000)(vC:(ZbU k u).length≤10000):CX Try.prog 65 #[.int .u8 k,t.v,u.v] m [] (Zgo (fun r=>∃a c,r=Zhi k a c (ZbU k t++ZbU k u))):=by
 apply Zi9
 unfold Zf8
 intro b m1 bJ _ b1 m2 bP _ b2 b3 nu
 have jZ:=Mem.le_trans bJ bP
 have gZ:m.le (m2.add b3 (t.cs++u.cs)):=Mem.le_trans jZ (Mem.le_add nu _)
 refine⟨fun xs css tvs m' q=>∃(i:Nat)(l:List T)(a:Option Addr)(c:Nat),i≤2∧xs=[.slice a l.length c,.int .i64 i]∧tvs=[.slice a l.length c]∧l=(([t,u].take i).map (ZbU k)).flatten∧rowRd m' a (Rx.Zco l)∧q=2 - i,⟨2,0,[],none,0,by omega,rfl,rfl,rfl,.inl rfl,rfl⟩,?_⟩
 rintro a n c z a1 n1 c1 m3 q cJ ⟨i,l,a',c',hi,eG,dF,hl,bQ,hq⟩
 simp only[List.cons.injEq,Value.slice.injEq,Value.int.injEq,true_and,and_true]at eG dF
 obtain⟨⟨rfl,rfl,rfl⟩,rfl⟩:=eG
 obtain⟨rfl,rfl,rfl⟩:=dF
 have i9:=Mem.le_trans gZ cJ
 have fH:l.length≤20000:=by
  rw[hl]
  have:i=0∨i=1∨i=2:=by omega
  rcases this with rfl|rfl|rfl <;> simp <;> omega
 refine Zaa (fun bM=>?_) (fun cR=>?_)
 ·have h2:i=0∨i=1:=by have:=of_decide_eq_true bM;omega
  rcases h2 with rfl|rfl
  ·
   refine⟨⟨by omega,by omega⟩,Zab rfl fun b4=>Zab rfl (Zan (v:=.int .u8 t.k) rfl (Zab rfl (Zaa (fun eC=>Zan (v:=t.sl) rfl (Zab rfl ?_)) (fun eC=>?_))))⟩
   ·have gF:t.k=k:=by simpa[RowKit.intOf]using eC
    have hj:ZbU k t=t.subs:=by rw[ZfP,if_pos gF]
    have bO:=ht
    rw[hj]at bO
    refine⟨.inl rfl,Rx.Zco l,Rx.Zco t.subs,Zau _,Zau _,bQ,(Zcb (hr.subs)).mono i9,ZeQ _,?_,?_,fun a2 c2 m4 cY cW=>⟨by trivial,1,by omega,1,l++t.subs,a2,c2,by omega,?_,?_,?_,?_,?_⟩⟩
    ·simp only[T.sl,slN];omega
    ·simp only[T.sl,slN];omega
    ·rw[List.length_append];rfl
    ·rw[List.length_append];rfl
    ·rw[hl,←hj];simp
    ·rw[ZaQ];exact cW
    ·omega
   ·have gF:¬t.k=k:=by simpa[RowKit.intOf]using eC
    refine⟨k == 3&&t.k == 1,Zaa (fun h=>Zan (v:=.int .u8 t.k) rfl (Zab rfl ⟨by trivial,by trivial,?_⟩)) (fun h=>⟨by trivial,by trivial,?_⟩),Zaa (fun h=>⟨by trivial,1,by omega,1,l,_,_,by omega,rfl,rfl,?_,bQ,by omega⟩) (fun h=>Zab rfl fun b6 ly=>?_)⟩
    ·rw[h];rfl
    ·rw[h];rfl
    ·have:k=3∧t.k=1:=by simpa using h
     have hj:ZbU k t=[]:=by rw[ZfP,if_neg gF,if_pos this]
     rw[hl];simp[hj]
    ·have:¬(k=3∧t.k=1):=by simpa using h
     have hj:ZbU k t=[t]:=by rw[ZfP,if_neg gF,if_neg this]
     have iw:=Mem.le_add ly t.cs
     refine⟨.inl rfl,Rx.Zco l,t.cs,Zau _,rfl,bQ.mono iw,.inr ⟨b6,0,rfl,fun j v hj=>by rw[Nat.zero_add,Mem.add_same];exact hj⟩,by rw[←Zby];exact ZeQ _,by omega,by omega,fun a2 c2 m4 cY cW=>⟨by trivial,1,by omega,1,l++[t],a2,c2,by omega,?_,?_,?_,?_,?_⟩⟩
     ·rw[List.length_append];rfl
     ·rw[List.length_append];rfl
     ·rw[hl];simp[hj]
     ·rw[ZaQ,Zby];exact cW
     ·omega
  ·
   refine⟨⟨by omega,by omega⟩,Zab rfl fun b4=>Zab rfl (Zan (v:=.int .u8 u.k) rfl (Zab rfl (Zaa (fun eC=>Zan (v:=u.sl) rfl (Zab rfl ?_)) (fun eC=>?_))))⟩
   ·have gF:u.k=k:=by simpa[RowKit.intOf]using eC
    have hj:ZbU k u=u.subs:=by rw[ZfP,if_pos gF]
    have bO:=vC
    rw[hj]at bO
    refine⟨.inl rfl,Rx.Zco l,Rx.Zco u.subs,Zau _,Zau _,bQ,(Zcb (hu.subs)).mono i9,ZeQ _,?_,?_,fun a2 c2 m4 cY cW=>⟨by trivial,0,by omega,2,l++u.subs,a2,c2,by omega,?_,?_,?_,?_,?_⟩⟩
    ·simp only[T.sl,slN];omega
    ·simp only[T.sl,slN];omega
    ·rw[List.length_append];rfl
    ·rw[List.length_append];rfl
    ·rw[hl,←hj];simp
    ·rw[ZaQ];exact cW
    ·omega
   ·have gF:¬u.k=k:=by simpa[RowKit.intOf]using eC
    refine⟨k == 3&&u.k == 1,Zaa (fun h=>Zan (v:=.int .u8 u.k) rfl (Zab rfl ⟨by trivial,by trivial,?_⟩)) (fun h=>⟨by trivial,by trivial,?_⟩),Zaa (fun h=>⟨by trivial,0,by omega,2,l,_,_,by omega,rfl,rfl,?_,bQ,by omega⟩) (fun h=>Zab rfl fun b6 ly=>?_)⟩
    ·rw[h];rfl
    ·rw[h];rfl
    ·have:k=3∧u.k=1:=by simpa using h
     have hj:ZbU k u=[]:=by rw[ZfP,if_neg gF,if_pos this]
     rw[hl];simp[hj]
    ·have:¬(k=3∧u.k=1):=by simpa using h
     have hj:ZbU k u=[u]:=by rw[ZfP,if_neg gF,if_neg this]
     have iw:=Mem.le_add ly u.cs
     refine⟨.inl rfl,Rx.Zco l,u.cs,Zau _,rfl,bQ.mono iw,.inr ⟨b6,0,rfl,fun j v hj=>by rw[Nat.zero_add,Mem.add_same];exact hj⟩,by rw[←Zby];exact ZeQ _,by omega,by omega,fun a2 c2 m4 cY cW=>⟨by trivial,0,by omega,2,l++[u],a2,c2,by omega,?_,?_,?_,?_,?_⟩⟩
     ·rw[List.length_append];rfl
     ·rw[List.length_append];rfl
     ·rw[hl];simp[hj]
     ·rw[ZaQ,Zby];exact cW
     ·omega
 ·have:i=2:=by have:=of_decide_eq_false cR;omega
  subst this
  have hl':ZbU k t++ZbU k u=l:=by rw[hl];simp
  rw[hl']
  have cK:∀x∈l,Rep m3 x:=by
   have key:∀t:T,Rep m t→∀x∈ZbU k t,Rep m3 x:=by
    intro t hr x hx
    rw[ZfP]at hx
    split at hx
    ·exact Zeb (hr.subs.mono i9) x hx
    ·split at hx
     ·simp at hx
     ·simp at hx;subst hx;exact hr.mono i9
   rw[←hl']
   intro x hx
   rcases List.mem_append.1 hx with hx|hx
   ·exact key t hr x hx
   ·exact key u hu x hx
  refine Zaa (fun h0=>?_) (fun h0=>Zaa (fun h1=>?_) (fun h1=>?_))
  ·have:l=[]:=by simpa using h0
   subst this
   exact Zag i9 ⟨T1,rfl,ZpH _,none,0,rfl⟩
  ·have pY:l.length=1:=by
    have:((l.length:Int) == 1)=true:=h1
    have:=of_decide_eq_true this;omega
   obtain⟨x,rfl⟩:∃x,l=[x]:=by
    match l,pY with
    | [x],_=>exact⟨x,rfl⟩
   rcases bQ with bQ|⟨b6,o,ha,cQ⟩
   ·simp[Rx.Zco,T.cs]at bQ
   ·rw[Zby]at cQ
    exact⟨b6,o,ha,⟨by omega,by simp⟩,_,_,_,_,_,_,_,_,cQ,Zab rfl (ZjJ i9 ⟨x,rfl,cK x (by simp),none,0,rfl⟩)⟩
  ·have nv:¬l.length=0:=fun e=>by rw[e]at h0;simp at h0
   have ni:¬l.length=1:=fun e=>by rw[e]at h1;simp at h1
   obtain⟨x,y,r,rfl⟩:∃x y r,l=x::y::r:=by
    match l,nv,ni with
    | [],h,_=>simp at h
    | [x],_,h=>simp at h
    | x::y::r,_,_=>exact⟨x,y,r,rfl⟩
   refine ZjJ i9 ⟨Zbb k 0 0 _ _ (x::y::r),rfl,Za5 (ZlI bQ cK (by omega)) (by omega) (by omega) (by omega),_,_,rfl⟩
end Go.Proofs.Ytplacemlpkhmfaa

