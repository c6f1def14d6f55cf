/- Part of the proof: conditions and contracts of functions of this program. No condition of its own. -/
import Derived.Test.YtplacemlpkhmfaaPC17A
import Derived.Test.YtplacemlpkhmfaaMc
import Derived.Test.YtplacemlpkhmfaaMr
import Derived.Test.YtplacemlpkhmfaaPVNB
import Derived.Test.YtplacemlpkhmfaaPC17RA
import Derived.Test.YtplacemlpkhmfaaPC13B
set_option linter.unusedVariables false
set_option linter.unusedSimpArgs false
namespace Go.Proofs.Ytplacemlpkhmfaa
open Go Go.Eng Go.Rx Go.Proofs Go.RowKit
set_option maxRecDepth 100000
theorem Zrd{m:Mem}{b o:Nat}{v:Value}{cs:List Value}(h:m.reads b 0 cs)(ho:o < cs.length):(m.upd b o [v]).reads b 0 (Zan cs o [v]):=by
 intro j u hu
 rw[Nat.zero_add]
 simp only[Zan,List.length_singleton]at hu
 simp only[Mem.upd,List.length_singleton,true_and]
 by_cases hj:j < o
 ·rw[if_neg (by omega)]
  rw[List.append_assoc,List.getElem?_append_left (by simp;omega),List.getElem?_take,if_pos hj]at hu
  have:=h j u hu
  rwa [Nat.zero_add]at this
 ·by_cases he:j=o
  ·subst he
   rw[if_pos ⟨Nat.le_refl _,by omega⟩]
   rw[List.append_assoc,List.getElem?_append_right (by simp;omega)]at hu
   simp only[List.length_take,Nat.min_eq_left (Nat.le_of_lt ho),Nat.sub_self]at hu ⊢
   simpa using hu
  ·rw[if_neg (by omega)]
   rw[List.append_assoc,List.getElem?_append_right (by simp;omega),List.length_take,Nat.min_eq_left (Nat.le_of_lt ho)]at hu
   rw[List.getElem?_append_right (by simp;omega),List.length_singleton,List.getElem?_drop]at hu
   have:=h _ u hu
   rwa [Nat.zero_add,show o+1+(j - o - 1)=j by omega]at this
theorem ZtX(f g:Nat)(b n c:Nat)(A B:List Value)(m:Mem)(hr:m.reads b 0 (A++bwL f++B)):
  CXY Try.prog 141 #[.pointer (some ⟨b,A.length,none⟩),bwV g] m (fun k=>k=b) [] [⟨.slice (some ⟨b,0,none⟩) n c,7⟩]
   (fun v m' css tvs=>v=.tuple #[]∧css=[]∧tvs=[.slice (some ⟨b,0,none⟩) n c]∧m'.reads b 0 (A++bwL (f|||g)++B)):=by
 apply ZfM
 unfold ZdI
 intro b1 m1 bE _ k8 _
 have eI:b1≠b:=fun e=>by
  have h1:=hr A.length _ (by rw[show A.length=A.length+0 from rfl,Znd (ZkX (f:=f) (j:=0) (by omega))])
  rw[Nat.zero_add]at h1
  rw[e]at k8
  rw[k8]at h1;cases h1
 refine⟨fun xs css tvs m' q=>∃k:Nat,k≤7∧xs=[.int .i64 k]∧m'.reads b 0 (A++orB f g k++B)∧q=7 - k,⟨7,0,by omega,rfl,hr.mono bE,rfl⟩,?_⟩
 rintro x m2 q _ ⟨k,hk,hx,cN,hq⟩
 obtain rfl:x=k:=by simpa using hx
 refine Zab (fun bV=>?_) (fun cM=>?_)
 ·have bF:k < 7:=by have:=of_decide_eq_true bV;omega
  have h1:=ZrP (f:=f) (g:=g) (k:=k) bF
  rw[if_neg (by omega)]at h1
  have h2:=ZkX (f:=g) bF
  have h3:=cN _ _ (Znd (A:=A) (B:=B) h1)
  rw[Nat.zero_add]at h3
  simp only[Int.toNat_natCast,Nat.zero_add,Nat.mul_one]
  refine⟨⟨by omega,by omega⟩,_,h3,⟨by omega,by omega⟩,Zat h2 (Zaa rfl ⟨⟨by omega,by omega⟩,⟨[.int .u64 (wdN f k:Nat)],rfl,fun j v hv=>?_⟩,fun o=>by simp[Mem.off],by trivial,eI,by trivial,by trivial,7 - (k+1),by omega,k+1,by omega,?_,?_,rfl⟩)⟩
  ·cases j with
   | zero=>simp at hv;subst hv;exact h3
   | succ j=>simp at hv
  ·rw[Zau (by omega) (by omega)];rfl
  ·simp only[intOf]
   rw[Zl7 _ _ (Zna _ _) (Zna _ _)]
   have h4:=Zrd (v:=.int .u64 ((wdN f k|||wdN g k:Nat):Int)) cN (o:=A.length+k) (by simp[Znb];omega)
   rw[ZhY (by rw[Znb];omega),ZpI bF]at h4
   exact h4
 ·have:k=7:=by have:=of_decide_eq_false cM;omega
  subst this
  exact⟨rfl,rfl,rfl,cN⟩
end Go.Proofs.Ytplacemlpkhmfaa
set_option linter.unusedVariables false
set_option linter.unusedSimpArgs false
namespace Go.Proofs.Ytplacemlpkhmfaa
open Go Go.Eng Go.Rx Go.Proofs Go.RowKit
set_option maxRecDepth 100000
theorem ZeK{m:Mem}{v:Value}{k esz:Nat}{cs:List Value}(h:RowOk m v k cs){b:Nat}(hb:(Tok.mk v esz).blk=some b):∃c,v=.slice (some ⟨b,0,none⟩) k c∧m.reads b 0 cs∧k≠0:=by
 rcases h with⟨_,rfl⟩|⟨b',c,rfl,h2,h3⟩
 ·simp[Tok.blk]at hb
 ·simp[Tok.blk]at hb;subst hb;exact⟨c,rfl,h2,h3⟩
theorem Zgs{l:List Nat}(h:l.length≠0):∃n:Nat,(ZcY l)[0]?=some (.int .u64 (n:Int)):=by
 cases l with
 | nil=>simp at h
 | cons f l=>exact⟨wdN f 0,rfl⟩
theorem ZnS{m:Mem}{Y:Nat→Prop}{b o:Nat}{cs:List Value}(h:m.reads b o cs)(hb:¬Y b):(m.off Y).reads b o cs:=fun j v hv=>by
 rw[Mem.off_at hb];exact h j v hv
theorem ZpT(s:Ms)(a b mkb:Nat)(t0a t1a:Option Addr)(t0n t0c t1n t1c:Nat)(m:Mem)(h:MkRow m (.slice t0a t0n t0c) (.slice t1a t1n t1c) s)(bY:s.fol.length≤448)(ha:∀i,a.testBit i=true→i < s.fol.length):
  CXY Try.prog 164 #[.pointer (some ⟨mkb,0,none⟩),bwV a,bwV b] m (Yof (.slice t0a t0n t0c) (.slice t1a t1n t1c)) [⟨mkb,[.slice t0a t0n t0c,.slice t1a t1n t1c],98,2,false,true⟩] [⟨.slice t0a t0n t0c,4⟩,⟨.slice t1a t1n t1c,7⟩]
   (fun v m' css tvs=>v=.tuple #[]∧css=[[.slice t0a t0n t0c,.slice t1a t1n t1c]]∧tvs=[.slice t0a t0n t0c,.slice t1a t1n t1c]∧MkRow m' (.slice t0a t0n t0c) (.slice t1a t1n t1c) ⟨s.sets,Zdf s.fol a b⟩):=by
 apply ZeZ
 unfold Zdh
 intro b0 m1 bE _ kL _ b1 m2 bZ rJ k8 _ b2 m3 cD _ tH _
 have ml:m1.le m3:=Mem.le_trans bZ cD
 have rK:m.le m3:=Mem.le_trans bE ml
 have blk1:∀{k},(Tok.mk (.slice t1a t1n t1c) 7).blk=some k→∃n:Nat,m k 0=some (.int .u64 (n:Int)):=fun {k} hk=>by
  obtain⟨c,_,h2,h3⟩:=ZeK h.row1 hk
  obtain⟨n,hn⟩:=Zgs h3
  exact⟨n,by have:=h2 0 _ hn;simpa using this⟩
 have mY:∀k,Yof (.slice t0a t0n t0c) (.slice t1a t1n t1c) k→∀{m':Mem} {b':Nat},m.le m'→m'.free b'→b'≠k:=fun k hk m' b' cP hf e=>by
  subst e
  rcases hk with hk|hk
  ·obtain⟨c,_,h2,h3⟩:=ZeK h.row0 hk
   have:∃v,(Zby s.sets)[0]?=some v:=by
    cases hs:(Zby s.sets)[0]? with
    | some v=>exact⟨v,rfl⟩
    | none=>
     have:=Zep s.sets
     rw[List.getElem?_eq_none_iff]at hs;omega
   obtain⟨v,hv⟩:=this
   have:=cP _ _ _ (h2 0 v hv)
   rw[hf]at this;cases this
  ·obtain⟨n,hn⟩:=blk1 hk
   have:=cP _ _ _ hn
   rw[hf]at this;cases this
 refine Zas (ZrV b1 0 m3) (fun v m' _ h=>by obtain⟨c,rfl,_⟩:=h;rfl) fun g fi ca m4 cZ hg=>?_
 obtain⟨c,hv,hc⟩:=hg
 simp only[Value.func.injEq,Fn.func.injEq,Array.mk.injEq]at hv
 obtain⟨rfl,rfl,rfl⟩:=hv
 have mo:m.le m4:=Mem.le_trans rK cZ
 let Z:Nat→Prop:=fun k=>(Tok.mk (.slice t1a t1n t1c) 7).blk=some k
 have vk:¬Z b1:=fun hz=>mY b1 (.inr hz) bE k8 rfl
 have vm:¬Z c:=fun hz=>by
  obtain⟨n,hn⟩:=blk1 hz
  have h1:=mo _ _ _ hn
  have h2:=hc 0 _ rfl
  rw[Nat.zero_add]at h2
  rw[h1]at h2;cases h2
 have pL:=ZpQ a b1 0 c (m4.off Z) (ZnS ((rJ.mono cD).mono cZ) vk) (ZnS hc vm)
 refine⟨m4.off Z,Mem.off_le m4 Z,_,pL,fun x hx=>?_,fun xs css tvs m' q=>tvs=[.slice t1a t1n t1c]∧q≤(Zcf a).length∧(m4.off Z).le m'∧RowOk m' (.slice t0a t0n t0c) s.sets.length (Zby s.sets)∧RowOk m' (.slice t1a t1n t1c) s.fol.length (ZcY (ZfE s.fol ((Zcf a).take q) b)),
  ⟨rfl,Nat.zero_le _,Mem.off_le _ _,h.row0.mono mo,by rw[List.take_zero,ZqQ];exact h.row1.mono mo⟩,?_,?_⟩
 ·obtain⟨i,_,rfl⟩:=List.mem_map.1 hx
  rfl
 ·rintro n a' n1 c1 m' q cP hq ⟨dA,oq,_,kp,dS⟩
  obtain⟨rfl,rfl,rfl⟩:a'=t1a∧n1=t1n∧c1=t1c:=by simpa using dA
  have hq':(Zcf a)[q]?.map (fun i=>[Value.int .i64 (i:Nat)])=some [.int .i64 n]:=by rw[←List.getElem?_map];exact hq
  cases hi:(Zcf a)[q]? with
  | none=>rw[hi]at hq';cases hq'
  | some i=>
   rw[hi]at hq'
   obtain rfl:(i:Int)=n:=by simpa using hq'
   have rq:=(List.getElem?_eq_some_iff.1 hi).1
   have oF:i∈Zcf a:=List.mem_of_getElem? hi
   have jz:=ha i (ZjT.1 oF).2
   have oG:i ∉ (Zcf a).take q:=fun hm=>by
    obtain⟨j,hj⟩:=List.getElem?_of_mem hm
    rw[List.getElem?_take]at hj
    split at hj
    ·have hp:=Zhb a
     have h1:=(List.getElem?_eq_some_iff.1 hj)
     have h2:=(List.getElem?_eq_some_iff.1 hi)
     have:=List.pairwise_iff_getElem.1 hp j q h1.1 h2.1 (by assumption)
     rw[h1.2,h2.2]at this;omega
    ·cases hj
   obtain⟨x,hx⟩:∃x,s.fol[i]?=some x:=⟨s.fol[i],by simp[jz]⟩
   have jG:=ZqR (b:=b) hx oG
   have bF:=(List.getElem?_eq_some_iff.1 jG).1
   have pQ:=ZpJ jG
   have cH:ZcY (ZfE s.fol ((Zcf a).take (q+1)) b)=ZcY ((ZfE s.fol ((Zcf a).take q) b).take i)++bwL (x|||b)++ZcY ((ZfE s.fol ((Zcf a).take q) b).drop (i+1)):=by
    rw[List.take_add_one,hi]
    show ZcY (ZfE s.fol ((Zcf a).take q++[i]) b)=_
    rw[ZoF hx oG,ZqP bF]
   rcases dS with⟨h0,_⟩|⟨bb,c,hv,cN,hk⟩
   ·omega
   ·simp only[Value.slice.injEq]at hv
    obtain⟨rfl,rfl,rfl⟩:=hv
    have hA:(ZcY ((ZfE s.fol ((Zcf a).take q) b).take i)).length=i*7:=by
     rw[Zhc,List.length_take,Nat.min_eq_left (by omega)]
    rw[pQ]at cN
    have iz:=ZtX x b bb s.fol.length c1 (ZcY ((ZfE s.fol ((Zcf a).take q) b).take i)) (ZcY ((ZfE s.fol ((Zcf a).take q) b).drop (i+1))) m' cN
    rw[hA]at iz
    simp only[Nat.zero_add,Int.toNat_natCast]
    refine⟨fun _ _ _ _ _ _=>True,by trivial,Zat (v:=.slice (some ⟨bb,0,none⟩) s.fol.length c1) rfl (Zaa rfl ⟨bb,0,rfl,⟨by omega,by show(i:Int) < (s.fol.length:Nat);omega⟩,(fun k=>k=bb),_,(by rw[Nat.zero_add];exact iz),?_,?_,?_,?_⟩)⟩
    ·intro t ht k hk
     obtain rfl:=List.mem_singleton.1 ht
     simp[Tok.blk]at hk;exact hk.symm
    ·intro k hk
     refine .inl ⟨_,List.mem_singleton.2 rfl,?_⟩
     rw[hk];rfl
    ·rintro v _ _ _ ⟨rfl,_⟩;rfl
    ·rintro m5 dB wn a5 c5 d5 ⟨_,_,rL,rM⟩
     have keep:∀k o v,k≠bb→m' k o=some v→m5 k o=some v:=fun k o v hk hv=>dB k o v (by rw[Mem.off_at (Y:=fun k=>k=bb) hk];exact hv)
     have kM:(m4.off Z).le m5:=fun k o v hv=>by
      by_cases hk:k=bb
      ·subst hk
       unfold Mem.off at hv
       rw[if_pos (show Z k by rfl)]at hv;cases hv
      ·exact keep k o v hk (cP k o v hv)
     refine⟨kM,by trivial,by trivial,rL,by omega,kM,?_,.inr ⟨bb,c1,rfl,by rw[cH];exact rM,hk⟩⟩
     rcases kp with h0|⟨b6,c6,h6,h7,h8⟩
     ·exact .inl h0
     ·refine .inr ⟨b6,c6,h6,fun j v hv=>?_,h8⟩
      refine keep _ _ _ (fun e=>?_) (h7 j v hv)
      subst e
      exact h.ne b6 (by rw[h6];rfl) rfl
 ·rintro a' n1 c1 m' cP ⟨dA,_,_,kp,dS⟩
  obtain⟨rfl,rfl,rfl⟩:a'=t1a∧n1=t1n∧c1=t1c:=by simpa using dA
  refine⟨by trivial,rfl,rfl,rfl,kp,?_,h.ne⟩
  have e:ZfE s.fol ((Zcf a).take ((Zcf a).map fun i=>[Value.int .i64 (i:Nat)]).length) b=Zdf s.fol a b:=by
   rw[List.length_map,List.take_length]
   exact ZqS fun i hi=>by rw[ZjT];exact⟨fun h=>h.2,fun h=>⟨by omega,h⟩⟩
  rw[e]at dS
  show RowOk m' _ (Zdf s.fol a b).length _
  rw[ZjU];exact dS
end Go.Proofs.Ytplacemlpkhmfaa
set_option linter.unusedVariables false
set_option linter.unusedSimpArgs false
namespace Go.Proofs.Ytplacemlpkhmfaa
open Go Go.Eng Go.Rx Go.Proofs Go.RowKit
set_option maxRecDepth 100000
def Zre(t0 t1:Value)(s:Ms)(v:Value)(w:Value)(m':Mem)(css:List (List Value))(tvs:List Value):Prop:=w=v∧css=[[t0,t1]]∧tvs=[t0,t1]∧MkRow m' t0 t1 s
theorem Ze8(s:Ms)(p q:Pt)(mkb:Nat)(t0a t1a:Option Addr)(t0n t0c t1n t1c:Nat)(m:Mem)(h:MkRow m (.slice t0a t0n t0c) (.slice t1a t1n t1c) s)(bY:s.fol.length≤448)(ha:∀i,p.last.testBit i=true→i < s.fol.length):
  CXY Try.prog 139 #[.pointer (some ⟨mkb,0,none⟩),p.v,q.v] m (Yof (.slice t0a t0n t0c) (.slice t1a t1n t1c)) [⟨mkb,[.slice t0a t0n t0c,.slice t1a t1n t1c],98,2,false,true⟩] [⟨.slice t0a t0n t0c,4⟩,⟨.slice t1a t1n t1c,7⟩]
   (Zre (.slice t0a t0n t0c) (.slice t1a t1n t1c) ⟨s.sets,Zdf s.fol p.last q.first⟩ (Zs2 p q).v):=by
 apply Ze0
 unfold Zdi
 intro b0 m1 bE _ kL _ b1 m2 bZ _ k8 _ b2
 have h2:=h.mono (Mem.le_trans bE bZ)
 refine⟨_,_,ZpT s p.last q.first mkb t0a t1a t0n t0c t1n t1c m2 h2 bY ha,fun t ht k hk=>?_,fun k hk=>.inl ?_,?_,?_⟩
 ·simp only[List.mem_cons,List.not_mem_nil,or_false]at ht
  rcases ht with rfl|rfl
  ·exact .inl hk
  ·exact .inr hk
 ·rcases hk with hk|hk
  ·exact⟨_,by simp,hk⟩
  ·exact⟨_,by simp,hk⟩
 ·rintro v _ _ _ ⟨rfl,_⟩;rfl
 ·rintro m3 _ _ cs a c d a1 c1 d1 ⟨_,cG,dA,cV⟩
  obtain rfl:cs=[.slice t0a t0n t0c,.slice t1a t1n t1c]:=by simpa using cG
  simp only[List.cons.injEq,Value.slice.injEq,and_true]at dA
  obtain⟨⟨rfl,rfl,rfl⟩,rfl,rfl,rfl⟩:=dA
  obtain⟨pf,pl,pn⟩:=p
  obtain⟨qf,ql,qn⟩:=q
  have fin:∀{r:Pt} {cs:List Value} {m4:Mem},m3.le m4→cs=r.cs→r=Zs2 ⟨pf,pl,pn⟩ ⟨qf,ql,qn⟩→Zre (.slice a c d) (.slice a1 c1 d1) ⟨s.sets,Zdf s.fol pl qf⟩ (Zs2 ⟨pf,pl,pn⟩ ⟨qf,ql,qn⟩).v (.agg cs.toArray) m4 [[.slice a c d,.slice a1 c1 d1]] [.slice a c d,.slice a1 c1 d1]:=fun hm hc hr=>⟨by rw[hc,←hr,Pt.v_cs],rfl,rfl,cV.mono hm⟩
  cases pn <;> cases qn
  ·intro b
   exact⟨rfl,fin (r:=⟨pf,ql,false⟩) (Mem.le_refl _) rfl rfl⟩
  ·intro b
   refine⟨_,trivial,ZnH ql pl b 102 15 (bwL pf) [Value.bool false] m3 (by omega),fun v _ _ h=>by rw[h.1];rfl,fun m4 cZ cs1 i5=>?_⟩
   obtain rfl:cs1=_:=by simpa using i5.2
   exact Zaa rfl ⟨rfl,fin (r:=⟨pf,ql|||pl,false⟩) cZ rfl rfl⟩
  ·intro b
   refine⟨_,trivial,ZnH pf qf b 102 15 [] (bwL ql++[Value.bool false]) m3 (by omega),fun v _ _ h=>by rw[h.1];rfl,fun m4 cZ cs1 i5=>?_⟩
   obtain rfl:cs1=_:=by simpa using i5.2
   exact Zaa rfl ⟨rfl,fin (r:=⟨pf|||qf,ql,false⟩) cZ rfl rfl⟩
  ·intro b
   refine⟨_,trivial,ZnH pf qf b 102 15 [] (bwL ql++[Value.bool true]) m3 (by omega),fun v _ _ h=>by rw[h.1];rfl,fun m4 cZ cs1 i5=>?_⟩
   obtain rfl:cs1=_:=by simpa using i5.2
   refine⟨_,trivial,ZnH ql pl b 102 15 (bwL (pf|||qf)) [Value.bool true] m4 (by omega),fun v _ _ h=>by rw[h.1];rfl,fun m5 dB cs2 j0=>?_⟩
   obtain rfl:cs2=_:=by simpa using j0.2
   exact Zaa rfl ⟨rfl,fin (r:=⟨pf|||qf,ql|||pl,true⟩) (Mem.le_trans cZ dB) rfl rfl⟩
end Go.Proofs.Ytplacemlpkhmfaa
set_option linter.unusedVariables false
set_option linter.unusedSimpArgs false
namespace Go.Proofs.Ytplacemlpkhmfaa
open Go Go.Eng Go.Rx Go.Proofs Go.RowKit
set_option maxRecDepth 100000
def MkR(t0 t1:Value)(m:Mem)(r:Pt×Ms)(w:Value)(m':Mem)(css:List (List Value))(tvs:List Value):Prop:=
 ∃a n c a1 n1 c1,w=r.1.v∧css=[[.slice a n c,.slice a1 n1 c1]]∧tvs=[.slice a n c,.slice a1 n1 c1]∧MkRow m' (.slice a n c) (.slice a1 n1 c1) r.2∧∀b,Yof (.slice a n c) (.slice a1 n1 c1) b→Yof t0 t1 b∨m.free b
theorem Zkf{m:Mem}{a:Option Addr}{n c k:Nat}{cs:List Value}(h:RowOk m (.slice a n c) k cs)(hc:k=0→cs=[]):n=k∧rowRd m a cs∧(a=none∨∃b,a=some ⟨b,0,none⟩):=by
 rcases h with⟨h1,h2⟩|⟨b,c',h1,h2,h3⟩
 ·simp only[Value.slice.injEq]at h2
  exact⟨by omega,.inl (hc h1),.inl h2.1⟩
 ·simp only[Value.slice.injEq]at h1
  exact⟨h1.2.1,.inr ⟨b,0,h1.1,h2⟩,.inr ⟨b,h1.1⟩⟩
theorem ZpU{m m':Mem}(h:m.le m'){b:Nat}(hf:m'.free b):m.free b:=fun o=>by
 cases he:m b o with
 | none=>rfl
 | some v=>have:=h _ _ _ he;rw[hf o]at this;cases this
theorem ZrY{m m2:Mem}{a a':Option Addr}{k c':Nat}{cs ds:List Value}(hd:ds≠[])(ha:a=none∨∃b,a=some ⟨b,0,none⟩)(hr:rowRd m2 a' (cs++ds))(hf:TokFact m a a' (k+1) c'):RowOk m2 (.slice a' (k+1) c') (k+1) (cs++ds)∧∀b esz,(Tok.mk (.slice a' (k+1) c') esz).blk=some b→(∀n0 c0 e0,(Tok.mk (.slice a n0 c0) e0).blk=some b)∨m.free b:=by
 have cJ:cs++ds≠[]:=by simp[hd]
 replace hf:=hf.old (fun b o e=>by
  rcases ha with h|⟨b',h⟩
  ·rw[h]at e;cases e
  ·rw[h]at e;cases e;rfl)
 rcases hr with h|⟨b,o,h1,h2⟩
 ·exact absurd h cJ
 ·rcases hf.2 with h|⟨b',h3,h4⟩
  ·rw[h]at h1;cases h1
  ·rw[h3]at h1
   simp only[Option.some.injEq,Addr.mk.injEq,and_true]at h1
   obtain⟨rfl,rfl⟩:=h1
   refine⟨.inr ⟨b',c',by rw[h3],h2,by omega⟩,fun b esz hb=>?_⟩
   subst h3
   simp[Tok.blk]at hb
   subst hb
   rcases h4 with h4|h4
   ·exact .inl fun _ _ _=>by rw[h4];rfl
   ·exact .inr h4
theorem ZtY(t:T)(s:Ms)(c0b mkb:Nat)(t0a t1a:Option Addr)(t0n t0c t1n t1c:Nat)(m:Mem)(h:MkRow m (.slice t0a t0n t0c) (.slice t1a t1n t1c) s)(pU:s.sets.length < 448)(pK:s.fol.length=s.sets.length)(lq:m c0b 0=some (.pointer (some ⟨mkb,0,none⟩))):
  CXY Try.prog 137 #[t.v,.pointer (some ⟨c0b,0,none⟩)] m (Yof (.slice t0a t0n t0c) (.slice t1a t1n t1c)) [⟨mkb,[.slice t0a t0n t0c,.slice t1a t1n t1c],98,2,false,true⟩] [⟨.slice t0a t0n t0c,4⟩,⟨.slice t1a t1n t1c,7⟩]
   (MkR (.slice t0a t0n t0c) (.slice t1a t1n t1c) m (⟨2 ^ s.sets.length,2 ^ s.sets.length,false⟩,⟨s.sets++[(t.s0,t.s1,t.s2,t.s3)],s.fol++[0]⟩)):=by
 apply Zdz
 unfold Zch
 obtain⟨rfl,kp,lK⟩:=Zkf h.row0 (fun e=>by rw[List.eq_nil_of_length_eq_zero e];rfl)
 obtain⟨rfl,dS,jj⟩:=Zkf h.row1 (fun e=>by rw[List.eq_nil_of_length_eq_zero e];rfl)
 intro b0 m1 bE _ kL _ bA bB
 have hp:=bE _ _ _ lq
 refine⟨_,hp,Zaa rfl (Zaa rfl ⟨rfl,Zat (v:=.slice t0a s.sets.length t0c) rfl (Zaa rfl ⟨_,hp,_,hp,_,hp,Zaa rfl (Zaa rfl ⟨rfl,Zat (v:=.slice t0a s.sets.length t0c) rfl ?_⟩)⟩)⟩)⟩
 intro b1 k8
 have jR:=Mem.le_add k8 [Value.int .u64 t.s0,.int .u64 t.s1,.int .u64 t.s2,.int .u64 t.s3]
 refine Zaa rfl ⟨.inl rfl,Zby s.sets,[.int .u64 t.s0,.int .u64 t.s1,.int .u64 t.s2,.int .u64 t.s3],by rw[Zep];rfl,rfl,(kp.mono bE).mono jR,.inr ⟨b1,0,rfl,fun j v hv=>by rw[Mem.add_same];simpa using hv⟩,fun u hu=>?_,by show(s.sets.length+1)*32≤_;omega,by show s.sets.length+1≤_;omega,?_⟩
 ·simp only[List.mem_cons,List.not_mem_nil,or_false]at hu
  rcases hu with rfl|rfl|rfl|rfl <;> rfl
 intro a2 c2 m2 bZ eC tH
 obtain⟨iO,lr⟩:=ZrY (by simp) lK eC tH
 refine⟨_,hp,Zaa rfl (Zaa rfl ⟨rfl,Zat (v:=.slice t1a s.fol.length t1c) rfl ?_⟩)⟩
 intro b2 wo V tI vn vo
 refine Zaa rfl ⟨.inl rfl,ZcY s.fol,bwL 0,by rw[Zhc];rfl,rfl,(dS.mono bE).mono tI,.inr ⟨b2,0,rfl,fun j v hv=>vo _ _ _ (by rw[Mem.add_same];rw[ZkY]at hv;simpa using hv)⟩,fun u hu=>?_,by show(s.fol.length+1)*56≤_;omega,by show s.fol.length+1≤_;omega,?_⟩
 ·rw[ZkY]at hu
  simp only[List.mem_cons,List.not_mem_nil,or_false]at hu
  rcases hu with rfl|rfl|rfl|rfl|rfl|rfl|rfl <;> rfl
 intro a3 c3 m3 cD gO vp
 obtain⟨j1,ls⟩:=ZrY (by rw[ZkY];simp) jj gO vp
 refine Zaa rfl (Zaa rfl ⟨rfl,by show(0+0+1≤1+1);omega,Zaa rfl (Zaa rfl ⟨rfl,by show(0+1+1≤2);omega,?_⟩)⟩)
 intro M gt _ gq _ kq
 refine⟨_,trivial,Zk9 0 s.sets.length pU bB 102 15 [] (bwL 0++[Value.bool false]) M (by omega),fun v _ _ h=>by rw[h.1];rfl,fun m5 dB cs5 j2=>?_⟩
 obtain rfl:cs5=_:=by simpa using j2.2
 refine⟨_,trivial,Zk9 0 s.sets.length pU bB 102 15 (bwL (2 ^ s.sets.length)) [Value.bool false] m5 (by omega),fun v _ _ h=>by rw[h.1];rfl,fun m6 gd cs6 rN=>?_⟩
 obtain rfl:cs6=_:=by simpa using rN.2
 have mq:M.le m6:=Mem.le_trans dB gd
 refine Zaa rfl ⟨rfl,_,_,_,_,_,_,?_,rfl,rfl,⟨?_,?_,?_⟩,?_⟩
 ·rfl
 ·show RowOk m6 _ (s.sets++_).length (Zby (s.sets++_))
  rw[ZqN,List.length_append]
  exact iO.mono (Mem.le_trans gq mq)
 ·show RowOk m6 _ (s.fol++_).length (ZcY (s.fol++_))
  rw[ZqO,List.length_append]
  exact j1.mono (Mem.le_trans kq mq)
 ·intro b hb hb'
  rcases ls b 7 hb' with h1|h1
  ·rcases lr b 4 hb with h2|h2
   ·exact h.ne b (h2 _ _ _) (h1 _ _ _)
   ·obtain⟨_,_,q1,q2⟩:=ZeK h.row1 (h1 _ _ 7)
    obtain⟨n,hn⟩:=Zgs q2
    have:=bE _ _ _ (q1 0 _ hn)
    have:=jR _ _ _ this
    rw[h2]at this;cases this
  ·obtain⟨_,_,q1,q2⟩:=ZeK iO hb
   have:=vn _ _ _ (q1 0 _ (List.getElem?_eq_getElem (by simp)))
   rw[h1]at this;cases this
 ·intro b hb
  rcases hb with hb|hb
  ·rcases lr b 4 hb with h2|h2
   ·exact .inl (.inl (h2 _ _ _))
   ·exact .inr (ZpU (Mem.le_trans bE jR) h2)
  ·rcases ls b 7 hb with h2|h2
   ·exact .inl (.inr (h2 _ _ _))
   ·exact .inr (ZpU (Mem.le_trans bE tI) h2)
end Go.Proofs.Ytplacemlpkhmfaa
set_option linter.unusedVariables false
set_option linter.unusedSimpArgs false
namespace Go.Proofs.Ytplacemlpkhmfaa
open Go Go.Eng Go.Rx Go.Proofs Go.RowKit
set_option maxRecDepth 100000
theorem ZpV{m m':Mem}(Y:Nat→Prop)(h:m.le m'):(m.off Y).le (m'.off Y):=fun b o v hv=>by
 unfold Mem.off at hv ⊢
 split at hv
 ·cases hv
 ·rename_i hY;rw[if_neg hY];exact h _ _ _ hv
theorem ZtZ{m:Mem}{Y:Nat→Prop}{b:Nat}(h:m.free b):(m.off Y).free b:=fun o=>by
 unfold Mem.off;split
 ·rfl
 ·exact h o
structure MkSt (m:Mem)(v0 v1:Value)(m':Mem)(v0' v1':Value)(s':Ms):Prop where
 row:MkRow m' v0' v1' s'
 base:(m.off (Yof v0 v1)).le (m'.off (Yof v0' v1'))
 new:∀b,Yof v0' v1' b→Yof v0 v1 b∨m.free b
 ok:MsOk s'
theorem MkSt.step{m m' m'':Mem}{v0 v1 v0' v1' v0'' v1'':Value}{s' s'':Ms}(h:MkSt m v0 v1 m' v0' v1' s')(cP:(m'.off (Yof v0' v1')).le m'')(hr:MkRow m'' v0'' v1'' s'')(hn:∀b,Yof v0'' v1'' b→Yof v0' v1' b∨m'.free b)(hs:MsOk s''):MkSt m v0 v1 m'' v0'' v1'' s'':=by
 refine⟨hr,Mem.le_trans h.base (Zng cP hn),fun b hb=>?_,hs⟩
 rcases hn b hb with h1|h1
 ·exact h.new b h1
 ·by_cases hY:Yof v0 v1 b
  ·exact .inl hY
  ·refine .inr fun o=>?_
   have h2:=ZpU h.base (b:=b) (ZtZ h1) o
   rwa [Mem.off_at hY]at h2
theorem MkSt.mono{m m' m'':Mem}{v0 v1 v0' v1':Value}{s':Ms}(h:MkSt m v0 v1 m' v0' v1' s')(hm:m'.le m''):MkSt m v0 v1 m'' v0' v1' s':=
 ⟨h.row.mono hm,Mem.le_trans h.base (ZpV _ hm),h.new,h.ok⟩
theorem MkSt.refl{m m':Mem}{v0 v1:Value}{s:Ms}(h:MkRow m v0 v1 s)(hs:MsOk s)(hm:m.le m'):MkSt m v0 v1 m' v0 v1 s:=
 ⟨h.mono hm,ZpV _ hm,fun b hb=>.inl hb,hs⟩
theorem lentC{P:Program}{g:FuncId}{args:Array Value}{m:Mem}{v0 v1:Value}{xs:List Box}{R0:Value→Mem→List (List Value)→List Value→Prop}{Q:Nat→Prop}{F:Shape}{K:(Nat→Prop)→(Value→Mem→List (List Value)→List Value→Prop)→Prop}(h:CXY P g args m (Yof v0 v1) xs [⟨v0,4⟩,⟨v1,7⟩] R0)(hf:∀v m' css tvs,R0 v m' css tvs→Shape.fits F v=true)(k:K (Yof v0 v1) R0):
  ∃(Y1:Nat→Prop) (R:Value→Mem→List (List Value)→List Value→Prop),CXY P g args m Y1 xs [⟨v0,4⟩,⟨v1,7⟩] R∧(∀t:Tok,t∈[Tok.mk v0 4,Tok.mk v1 7]→∀b,t.blk=some b→Y1 b)∧(∀b,Y1 b→(∃t:Tok,t∈[Tok.mk v0 4,Tok.mk v1 7]∧t.blk=some b)∨Q b)∧(∀v m' css tvs,R v m' css tvs→Shape.fits F v=true)∧K Y1 R:=by
 refine⟨_,_,h,fun t ht b hb=>?_,fun b hb=>.inl ?_,hf,k⟩
 ·simp only[List.mem_cons,List.not_mem_nil,or_false]at ht
  rcases ht with rfl|rfl
  ·exact .inl hb
  ·exact .inr hb
 ·rcases hb with hb|hb
  ·exact⟨_,by simp,hb⟩
  ·exact⟨_,by simp,hb⟩
abbrev Zvq:=Int→Int→Int→Int→Int→Int→Int→Int→Int→Int→Int→Int→Int→Int→Bool→Mem→List Value→Option Addr→Nat→Nat→Option Addr→Nat→Nat→Prop
theorem Zb9{t0 t1:Value}{m:Mem}{r:Pt×Ms}:∀v m' css tvs,MkR t0 t1 m r v m' css tvs→Shape.fits (.agg [.int .u64,.int .u64,.int .u64,.int .u64,.int .u64,.int .u64,.int .u64,.int .u64,.int .u64,.int .u64,.int .u64,.int .u64,.int .u64,.int .u64,.bool]) v=true:=by
 rintro v m' css tvs ⟨a,n,c,a1,n1,c1,rfl,_⟩;rfl
theorem ZdD{t0 t1:Value}{s:Ms}{p:Pt}:∀v m' css tvs,Zre t0 t1 s p.v v m' css tvs→Shape.fits (.agg [.int .u64,.int .u64,.int .u64,.int .u64,.int .u64,.int .u64,.int .u64,.int .u64,.int .u64,.int .u64,.int .u64,.int .u64,.int .u64,.int .u64,.bool]) v=true:=by
 rintro v m' css tvs ⟨rfl,_⟩;rfl
theorem ZfQ{m0 mm:Mem}{w0 w1 v0 v1:Value}{s:Ms}{r:Pt×Ms}{K:Zvq}(cH:MkSt m0 w0 w1 mm v0 v1 s)(gw:MsOk r.2)
  (k:∀(m':Mem)(a:Option Addr)(n c:Nat)(a1:Option Addr)(n1 c1:Nat),MkSt m0 w0 w1 m' (.slice a n c) (.slice a1 n1 c1) r.2→K (wdN r.1.first 0:Nat) (wdN r.1.first 1:Nat) (wdN r.1.first 2:Nat) (wdN r.1.first 3:Nat) (wdN r.1.first 4:Nat) (wdN r.1.first 5:Nat) (wdN r.1.first 6:Nat) (wdN r.1.last 0:Nat) (wdN r.1.last 1:Nat) (wdN r.1.last 2:Nat) (wdN r.1.last 3:Nat) (wdN r.1.last 4:Nat) (wdN r.1.last 5:Nat) (wdN r.1.last 6:Nat) r.1.null m' [.slice a n c,.slice a1 n1 c1] a n c a1 n1 c1):
  ∀(n0 n1 n2 n3 n4 n5 n6 n7 n8 n9 n10 n11 n12 n13:Int)(b:Bool)(m':Mem),(mm.off (Yof v0 v1)).le m'→(∀(b o:Nat)(u:Value),m' b o=some u→mm b o=some u∨Yof v0 v1 b∨mm.free b)→∀(cs:List Value)(a:Option Addr)(c d:Nat)(a1:Option Addr)(c1 d1:Nat),
   MkR v0 v1 mm r (.agg #[.int .u64 n0,.int .u64 n1,.int .u64 n2,.int .u64 n3,.int .u64 n4,.int .u64 n5,.int .u64 n6,.int .u64 n7,.int .u64 n8,.int .u64 n9,.int .u64 n10,.int .u64 n11,.int .u64 n12,.int .u64 n13,.bool b]) m' [cs] [.slice a c d,.slice a1 c1 d1]→K n0 n1 n2 n3 n4 n5 n6 n7 n8 n9 n10 n11 n12 n13 b m' cs a c d a1 c1 d1:=by
 rintro n0 n1 n2 n3 n4 n5 n6 n7 n8 n9 n10 n11 n12 n13 b m' cP _ cs a c d a1 c1 d1 ⟨a',n',c',a1',n1',c1',hv,cG,dA,cV,dC⟩
 obtain rfl:cs=[.slice a' n' c',.slice a1' n1' c1']:=by simpa using cG
 simp only[List.cons.injEq,Value.slice.injEq,and_true]at dA
 obtain⟨⟨rfl,rfl,rfl⟩,rfl,rfl,rfl⟩:=dA
 simp only[Pt.v,Value.agg.injEq,Array.mk.injEq,List.cons.injEq,Value.int.injEq,Value.bool.injEq,true_and,and_true]at hv
 obtain⟨rfl,rfl,rfl,rfl,rfl,rfl,rfl,rfl,rfl,rfl,rfl,rfl,rfl,rfl,rfl⟩:=hv
 exact k _ _ _ _ _ _ _ (cH.step cP cV dC gw)
theorem ZlS{m0 mm:Mem}{w0 w1 v0 v1:Value}{s s2:Ms}{p:Pt}{K:Zvq}(cH:MkSt m0 w0 w1 mm v0 v1 s)(gw:MsOk s2)
  (k:∀(m':Mem)(a:Option Addr)(n c:Nat)(a1:Option Addr)(n1 c1:Nat),MkSt m0 w0 w1 m' (.slice a n c) (.slice a1 n1 c1) s2→K (wdN p.first 0:Nat) (wdN p.first 1:Nat) (wdN p.first 2:Nat) (wdN p.first 3:Nat) (wdN p.first 4:Nat) (wdN p.first 5:Nat) (wdN p.first 6:Nat) (wdN p.last 0:Nat) (wdN p.last 1:Nat) (wdN p.last 2:Nat) (wdN p.last 3:Nat) (wdN p.last 4:Nat) (wdN p.last 5:Nat) (wdN p.last 6:Nat) p.null m' [.slice a n c,.slice a1 n1 c1] a n c a1 n1 c1):
  ∀(n0 n1 n2 n3 n4 n5 n6 n7 n8 n9 n10 n11 n12 n13:Int)(b:Bool)(m':Mem),(mm.off (Yof v0 v1)).le m'→(∀(b o:Nat)(u:Value),m' b o=some u→mm b o=some u∨Yof v0 v1 b∨mm.free b)→∀(cs:List Value)(a:Option Addr)(c d:Nat)(a1:Option Addr)(c1 d1:Nat),
   Zre v0 v1 s2 p.v (.agg #[.int .u64 n0,.int .u64 n1,.int .u64 n2,.int .u64 n3,.int .u64 n4,.int .u64 n5,.int .u64 n6,.int .u64 n7,.int .u64 n8,.int .u64 n9,.int .u64 n10,.int .u64 n11,.int .u64 n12,.int .u64 n13,.bool b]) m' [cs] [.slice a c d,.slice a1 c1 d1]→K n0 n1 n2 n3 n4 n5 n6 n7 n8 n9 n10 n11 n12 n13 b m' cs a c d a1 c1 d1:=by
 rintro n0 n1 n2 n3 n4 n5 n6 n7 n8 n9 n10 n11 n12 n13 b m' cP _ cs a c d a1 c1 d1 ⟨hv,cG,dA,cV⟩
 simp only[List.cons.injEq,and_true]at dA
 obtain⟨rfl,rfl⟩:=dA
 obtain rfl:cs=[.slice a c d,.slice a1 c1 d1]:=by simpa using cG
 simp only[Pt.v,Value.agg.injEq,Array.mk.injEq,List.cons.injEq,Value.int.injEq,Value.bool.injEq,true_and,and_true]at hv
 obtain⟨rfl,rfl,rfl,rfl,rfl,rfl,rfl,rfl,rfl,rfl,rfl,rfl,rfl,rfl,rfl⟩:=hv
 exact k _ _ _ _ _ _ _ (cH.step cP cV (fun b hb=>.inl hb) gw)
def MkC(t:T):Prop:=∀(s:Ms)(mkb:Nat)(t0a t1a:Option Addr)(t0n t0c t1n t1c:Nat)(m:Mem),MkRow m (.slice t0a t0n t0c) (.slice t1a t1n t1c) s→MsOk s→Rep (m.off (Yof (.slice t0a t0n t0c) (.slice t1a t1n t1c))) t→(mk t s).2.sets.length≤448→
 CXY Try.prog 61 #[.pointer (some ⟨mkb,0,none⟩),t.v] m (Yof (.slice t0a t0n t0c) (.slice t1a t1n t1c)) [⟨mkb,[.slice t0a t0n t0c,.slice t1a t1n t1c],98,2,false,true⟩] [⟨.slice t0a t0n t0c,4⟩,⟨.slice t1a t1n t1c,7⟩] (MkR (.slice t0a t0n t0c) (.slice t1a t1n t1c) m (mk t s))
theorem MkSt.out{m m':Mem}{v0 v1:Value}{s':Ms}{a:Option Addr}{n c:Nat}{a1:Option Addr}{n1 c1:Nat}{r:Pt×Ms}{w:Value}(h:MkSt m v0 v1 m' (.slice a n c) (.slice a1 n1 c1) s')(hw:w=r.1.v)(hs:s'=r.2):MkR v0 v1 m r w m' [[.slice a n c,.slice a1 n1 c1]] [.slice a n c,.slice a1 n1 c1]:=
 ⟨a,n,c,a1,n1,c1,hw,rfl,rfl,hs ▸ h.row,h.new⟩
theorem Zt0(t:T)(ih:∀x∈t.subs,MkC x)(s:Ms)(c0b mkb:Nat)(t0a t1a:Option Addr)(t0n t0c t1n t1c:Nat)(m:Mem)(h:MkRow m (.slice t0a t0n t0c) (.slice t1a t1n t1c) s)(hs:MsOk s)(hr:Rep (m.off (Yof (.slice t0a t0n t0c) (.slice t1a t1n t1c))) t)(lq:(m.off (Yof (.slice t0a t0n t0c) (.slice t1a t1n t1c))) c0b 0=some (.pointer (some ⟨mkb,0,none⟩)))(hN:(ZgH t.subs ⟨0,0,true⟩ s).2.sets.length≤448):
  CXY Try.prog 138 #[t.v,.pointer (some ⟨c0b,0,none⟩)] m (Yof (.slice t0a t0n t0c) (.slice t1a t1n t1c)) [⟨mkb,[.slice t0a t0n t0c,.slice t1a t1n t1c],98,2,false,true⟩] [⟨.slice t0a t0n t0c,4⟩,⟨.slice t1a t1n t1c,7⟩]
   (MkR (.slice t0a t0n t0c) (.slice t1a t1n t1c) m (ZgH t.subs ⟨0,0,true⟩ s)):=by
 apply ZdA
 unfold Zci
 intro b0 m1 bE _ kL jj b1 b2
 have bY:=(Zdd hr).1
 refine⟨fun xs css tvs m' q=>∃(k:Nat)(out:Pt)(s':Ms)(a:Option Addr)(n c:Nat)(a1:Option Addr)(n1 c1:Nat),k≤t.subs.length∧xs=[.int .i64 k]∧css=[out.cs,[.slice a n c,.slice a1 n1 c1]]∧tvs=[.slice a n c,.slice a1 n1 c1]∧q=t.subs.length - k∧MkSt m (.slice t0a t0n t0c) (.slice t1a t1n t1c) m' (.slice a n c) (.slice a1 n1 c1) s'∧PtIn s'.sets.length out∧ZgH (t.subs.drop k) out s'=ZgH t.subs ⟨0,0,true⟩ s,
  ⟨_,0,⟨0,0,true⟩,s,t0a,t0n,t0c,t1a,t1n,t1c,Nat.zero_le _,rfl,rfl,rfl,rfl,MkSt.refl h hs bE,ZbK _ _,rfl⟩,?_⟩
 rintro x cs cs1 a n c a1 n1 c1 m2 q _ ⟨k,out,s',a',n',c',a1',n1',c1',hk,hx,cG,dA,hq,cH,lu,heq⟩
 obtain rfl:x=k:=by simpa using hx
 simp only[List.cons.injEq,and_true]at cG
 obtain⟨rfl,rfl⟩:=cG
 simp only[List.cons.injEq,Value.slice.injEq,and_true]at dA
 obtain⟨⟨rfl,rfl,rfl⟩,rfl,rfl,rfl⟩:=dA
 subst hq
 refine Zab (fun bV=>?_) (fun cM=>?_)
 ·have bF:k < t.subs.length:=by have:=of_decide_eq_true bV;omega
  obtain⟨y,hy⟩:∃y,t.subs[k]?=some y:=⟨t.subs[k],by simp[bF]⟩
  rcases(Zdd hr).2 with he|⟨bt,ot,gf,mr⟩
  ·rw[he]at bF;simp at bF
  obtain⟨cN,lw⟩:=mr.get hy
  have eC:=(cN.mono cH.base).mono (Mem.off_le m2 _)
  have eL:=ZoH hy out s'
  have fE:=Zd3 y s' cH.ok
  have oH:=Zeq fE.ok (lu.mono fE.le) fE.pt
  have hO:=Zer (t.subs.drop (k+1)) _ _ oH.ok oH.pt
  rw[←eL,heq]at hO
  have jA:(mk y s').2.sets.length≤448:=Nat.le_trans oH.le (Nat.le_trans hO.le hN)
  refine⟨bt,ot,gf,⟨by omega,by omega⟩,_,_,_,_,_,_,_,_,(by rw[Int.toNat_natCast];exact eC),fun b3=>Zaa rfl ⟨_,lq,_,lq,?_⟩⟩
  refine lentC (ih y (List.mem_of_getElem? hy) s' mkb _ _ _ _ _ _ m2 cH.row cH.ok (Rep.mono cH.base y lw) jA) Zb9 (ZfQ cH fE.ok fun m3 a3 n3 c3 a4 n4 c4 cW=>?_)
  refine lentC (Ze8 (mk y s').2 out (mk y s').1 mkb _ _ _ _ _ _ m3 cW.row (by rw[fE.ok.len];exact jA) (fun i hi=>by rw[fE.ok.len];exact(lu.mono fE.le).2 i hi)) ZdD (ZlS cW oH.ok fun m5 a5 n5 c5 a6 n6 c6 fQ=>?_)
  refine⟨rfl,rfl,_,?_,k+1,(Zie out (mk y s').1 (mk y s').2).1,_,_,_,_,_,_,_,bF,?_,rfl,rfl,rfl,fQ,oH.pt,?_⟩
  ·omega
  ·rw[Zau (by omega) (by omega)];rfl
  ·exact eL.symm.trans heq
 ·have hk':k=t.subs.length:=by have:=of_decide_eq_false cM;omega
  subst hk'
  rw[List.drop_length,ZgH]at heq
  refine Zaa rfl ⟨rfl,cH.out ?_ ?_⟩
  ·rw[←heq];rfl
  ·rw[←heq]
theorem Zt1(t:T)(ih:∀x∈t.subs,MkC x)(s:Ms)(c0b mkb:Nat)(t0a t1a:Option Addr)(t0n t0c t1n t1c:Nat)(m:Mem)(h:MkRow m (.slice t0a t0n t0c) (.slice t1a t1n t1c) s)(hs:MsOk s)(hr:Rep (m.off (Yof (.slice t0a t0n t0c) (.slice t1a t1n t1c))) t)(lq:(m.off (Yof (.slice t0a t0n t0c) (.slice t1a t1n t1c))) c0b 0=some (.pointer (some ⟨mkb,0,none⟩)))(hN:(ZfD t.subs ⟨0,0,false⟩ s).2.sets.length≤448):
  CXY Try.prog 140 #[t.v,.pointer (some ⟨c0b,0,none⟩)] m (Yof (.slice t0a t0n t0c) (.slice t1a t1n t1c)) [⟨mkb,[.slice t0a t0n t0c,.slice t1a t1n t1c],98,2,false,true⟩] [⟨.slice t0a t0n t0c,4⟩,⟨.slice t1a t1n t1c,7⟩]
   (MkR (.slice t0a t0n t0c) (.slice t1a t1n t1c) m (ZfD t.subs ⟨0,0,false⟩ s)):=by
 apply ZdB
 unfold Zck
 intro b0 m1 bE _ kL jj b1 b2
 have bY:=(Zdd hr).1
 refine⟨fun xs css tvs m' q=>∃(k:Nat)(out:Pt)(s':Ms)(a:Option Addr)(n c:Nat)(a1:Option Addr)(n1 c1:Nat),k≤t.subs.length∧xs=[.int .i64 k]∧css=[out.cs,[.slice a n c,.slice a1 n1 c1]]∧tvs=[.slice a n c,.slice a1 n1 c1]∧q=t.subs.length - k∧MkSt m (.slice t0a t0n t0c) (.slice t1a t1n t1c) m' (.slice a n c) (.slice a1 n1 c1) s'∧PtIn s'.sets.length out∧ZfD (t.subs.drop k) out s'=ZfD t.subs ⟨0,0,false⟩ s,
  ⟨_,0,⟨0,0,false⟩,s,t0a,t0n,t0c,t1a,t1n,t1c,Nat.zero_le _,rfl,rfl,rfl,rfl,MkSt.refl h hs bE,ZbK _ _,rfl⟩,?_⟩
 rintro x cs cs1 a n c a1 n1 c1 m2 q _ ⟨k,out,s',a',n',c',a1',n1',c1',hk,hx,cG,dA,hq,cH,lu,heq⟩
 obtain rfl:x=k:=by simpa using hx
 simp only[List.cons.injEq,and_true]at cG
 obtain⟨rfl,rfl⟩:=cG
 simp only[List.cons.injEq,Value.slice.injEq,and_true]at dA
 obtain⟨⟨rfl,rfl,rfl⟩,rfl,rfl,rfl⟩:=dA
 subst hq
 refine Zab (fun bV=>?_) (fun cM=>?_)
 ·have bF:k < t.subs.length:=by have:=of_decide_eq_true bV;omega
  obtain⟨y,hy⟩:∃y,t.subs[k]?=some y:=⟨t.subs[k],by simp[bF]⟩
  rcases(Zdd hr).2 with he|⟨bt,ot,gf,mr⟩
  ·rw[he]at bF;simp at bF
  obtain⟨cN,lw⟩:=mr.get hy
  have eC:=(cN.mono cH.base).mono (Mem.off_le m2 _)
  have eL:=ZoI hy out s'
  have fE:=Zd3 y s' cH.ok
  have oI:=ZrQ (lu.mono fE.le) fE.pt
  have hO:=Zes (t.subs.drop (k+1)) _ _ fE.ok oI
  rw[←eL,heq]at hO
  have jA:(mk y s').2.sets.length≤448:=Nat.le_trans hO.le hN
  refine⟨bt,ot,gf,⟨by omega,by omega⟩,_,_,_,_,_,_,_,_,(by rw[Int.toNat_natCast];exact eC),fun b3=>Zaa rfl ⟨_,Mem.off_le _ _ _ _ _ (cH.base _ _ _ lq),?_⟩⟩
  refine lentC (ih y (List.mem_of_getElem? hy) s' mkb _ _ _ _ _ _ m2 cH.row cH.ok (Rep.mono cH.base y lw) jA) Zb9 (ZfQ cH fE.ok fun m3 a3 n3 c3 a4 n4 c4 cW b6=>?_)
  refine⟨_,trivial,ZnH out.first (mk y s').1.first b2 102 15 [] (bwL out.last++[Value.bool out.null]) m3 (by omega),fun v _ _ h=>by rw[h.1];rfl,fun m4 cZ cs1 i5=>?_⟩
  obtain rfl:cs1=_:=by simpa using i5.2
  refine⟨_,trivial,ZnH out.last (mk y s').1.last b2 102 15 (bwL (out.first|||(mk y s').1.first)) [Value.bool out.null] m4 (by omega),fun v _ _ h=>by rw[h.1];rfl,fun m5 dB cs2 j0=>?_⟩
  obtain rfl:cs2=_:=by simpa using j0.2
  have fQ:=cW.mono (Mem.le_trans cZ dB)
  have fin:∀cs:List Value,cs=(Zvx out (mk y s').1).cs→∃n',n' < t.subs.length - k∧(fun(xs:List Value) (css:List (List Value)) (tvs:List Value) (m':Mem) (q:Nat)=>∃(k:Nat)(out:Pt)(s':Ms)(a:Option Addr)(n c:Nat)(a1:Option Addr)(n1 c1:Nat),k≤t.subs.length∧xs=[.int .i64 k]∧css=[out.cs,[.slice a n c,.slice a1 n1 c1]]∧tvs=[.slice a n c,.slice a1 n1 c1]∧q=t.subs.length - k∧MkSt m (.slice t0a t0n t0c) (.slice t1a t1n t1c) m' (.slice a n c) (.slice a1 n1 c1) s'∧PtIn s'.sets.length out∧ZfD (t.subs.drop k) out s'=ZfD t.subs ⟨0,0,false⟩ s) [.int .i64 (IntKind.i64.wrap ((k:Int)+1))] [cs,[.slice a3 n3 c3,.slice a4 n4 c4]] [.slice a3 n3 c3,.slice a4 n4 c4] m5 n':=fun cs cG=>
   ⟨_,by omega,k+1,Zvx out (mk y s').1,_,_,_,_,_,_,_,bF,by rw[Zau (by omega) (by omega)];rfl,by rw[cG],rfl,rfl,fQ,oI,eL.symm.trans heq⟩
  obtain⟨of,ol,on⟩:=out
  refine Zat (v:=.bool on) rfl ?_
  generalize wp:(mk y s').1=r1 at fin ⊢
  obtain⟨rf,rl,rn⟩:=r1
  cases on <;> cases rn
  ·exact Zaa rfl (Zbo rfl (Zaa rfl ⟨rfl,rfl,fin _ rfl⟩))
  ·exact Zaa rfl (Zbo rfl (Zaa rfl ⟨rfl,rfl,fin _ rfl⟩))
  ·exact Zaa rfl (Zcc rfl (Zaa rfl ⟨rfl,rfl,fin _ rfl⟩))
  ·exact Zaa rfl (Zcc rfl (Zaa rfl ⟨rfl,rfl,fin _ rfl⟩))
 ·have hk':k=t.subs.length:=by have:=of_decide_eq_false cM;omega
  subst hk'
  rw[List.drop_length,ZfD]at heq
  refine Zaa rfl ⟨rfl,cH.out ?_ ?_⟩
  ·rw[←heq];rfl
  ·rw[←heq]
theorem Zrf(t:T)(ht:t.subs.length=1)(ih:∀x∈t.subs,MkC x)(s:Ms)(c0b mkb:Nat)(t0a t1a:Option Addr)(t0n t0c t1n t1c:Nat)(m:Mem)(h:MkRow m (.slice t0a t0n t0c) (.slice t1a t1n t1c) s)(hs:MsOk s)(hr:Rep (m.off (Yof (.slice t0a t0n t0c) (.slice t1a t1n t1c))) t)(lq:(m.off (Yof (.slice t0a t0n t0c) (.slice t1a t1n t1c))) c0b 0=some (.pointer (some ⟨mkb,0,none⟩)))(hN:(ZlB t.subs s).2.sets.length≤448):
  CXY Try.prog 143 #[t.v,.pointer (some ⟨c0b,0,none⟩)] m (Yof (.slice t0a t0n t0c) (.slice t1a t1n t1c)) [⟨mkb,[.slice t0a t0n t0c,.slice t1a t1n t1c],98,2,false,true⟩] [⟨.slice t0a t0n t0c,4⟩,⟨.slice t1a t1n t1c,7⟩]
   (MkR (.slice t0a t0n t0c) (.slice t1a t1n t1c) m (ZlB t.subs s)):=by
 apply ZdC
 unfold Zcl
 intro b0 m1 bE _ kL jj b1
 have cH:=MkSt.refl h hs bE
 obtain⟨y,hy⟩:∃y,t.subs[0]?=some y:=⟨t.subs[0],by simp[ht]⟩
 have vq:ZlB t.subs s=mk y s:=by
  cases hl:t.subs with
  | nil=>rw[hl]at hy;simp at hy
  | cons z l=>rw[hl]at hy;simp at hy;subst hy;rw[ZlB]
 rw[vq]at hN ⊢
 rcases(Zdd hr).2 with he|⟨bt,ot,gf,mr⟩
 ·rw[he]at ht;simp at ht
 obtain⟨cN,lw⟩:=mr.get hy
 have eC:=(cN.mono cH.base).mono (Mem.off_le m1 _)
 have fE:=Zd3 y s hs
 refine⟨fun _ _ _ _ _ _=>True,_,bE _ _ _ (Mem.off_le _ _ _ _ _ lq),bt,ot,gf,⟨by omega,by omega⟩,_,_,_,_,_,_,_,_,(by rw[Nat.zero_mul]at eC;exact eC),?_⟩
 refine lentC (ih y (List.mem_of_getElem? hy) s mkb _ _ _ _ _ _ m1 cH.row cH.ok (Rep.mono cH.base y lw) hN) Zb9 (ZfQ cH fE.ok fun m3 a3 n3 c3 a4 n4 c4 cW=>?_)
 exact⟨rfl,cW.out rfl rfl⟩
end Go.Proofs.Ytplacemlpkhmfaa
set_option linter.unusedVariables false
set_option linter.unusedSimpArgs false
namespace Go.Proofs.Ytplacemlpkhmfaa
open Go Go.Eng Go.Rx Go.Proofs Go.RowKit
set_option maxRecDepth 100000
theorem ZnT{mn mx:Int}(h:ZfB mn mx=true):0≤mn∧mn≤16∧(mx=-1∨(1≤mx∧mx≤16)):=by
 unfold ZfB at h
 simp only[Bool.and_eq_true,Bool.not_eq_true',Bool.or_eq_false_iff,Bool.or_eq_true,decide_eq_false_iff_not,decide_eq_true_eq,beq_iff_eq]at h
 omega
theorem ZpW{l:List T}{y:T}(h:l[0]?=some y)(s:Ms):ZlB l s=mk y s:=by
 cases l with
 | nil=>simp at h
 | cons z l=>simp at h;subst h;rw[ZlB]
theorem Zrg(f:Ms→Pt×Ms)(mn mx:Int)(N k:Nat)(hk:k < N)(out:Pt)(s:Ms)(s2:Ms)(hU:s2=if mx=-1∧k+1=N then⟨(f s).2.sets,Zdf (f s).2.fol (f s).1.last (f s).1.first⟩ else(f s).2)(y:Pt)(hy:y=⟨(f s).1.first,(f s).1.last,(f s).1.null||decide ((k:Int) ≥ mn)⟩):
  Znf f mn mx N (N - k) k out s=Znf f mn mx N (N - (k+1)) (k+1) (Zie out y s2).1 (Zie out y s2).2:=by
 subst hU hy
 rw[show N - k=(N - (k+1))+1 by omega,Znf]
abbrev ZvY(t:T)(s:Ms)(m:Mem)(v0 v1:Value)(N:Nat):List Value→List (List Value)→List Value→Mem→Nat→Prop:=fun xs css tvs m' q=>∃(k:Nat)(out:Pt)(s':Ms)(a:Option Addr)(n c:Nat)(a1:Option Addr)(n1 c1:Nat),k≤N∧xs=[.int .i64 k]∧css=[out.cs,[.slice a n c,.slice a1 n1 c1]]∧tvs=[.slice a n c,.slice a1 n1 c1]∧q=N - k∧MkSt m v0 v1 m' (.slice a n c) (.slice a1 n1 c1) s'∧PtIn s'.sets.length out∧Znf (fun s=>ZlB t.subs s) t.mn t.mx N (N - k) k out s'=Znf (fun s=>ZlB t.subs s) t.mn t.mx N N 0 ⟨0,0,true⟩ s
theorem Zo7(t:T)(ht:t.subs.length=1)(hb:ZfB t.mn t.mx=true)(ih:∀x∈t.subs,MkC x)(s:Ms)(mkb:Nat)(t0a t1a:Option Addr)(t0n t0c t1n t1c:Nat)(m:Mem)(h:MkRow m (.slice t0a t0n t0c) (.slice t1a t1n t1c) s)(hs:MsOk s)(hr:Rep (m.off (Yof (.slice t0a t0n t0c) (.slice t1a t1n t1c))) t)(hN:(Znf (fun s=>ZlB t.subs s) t.mn t.mx (ZqM t.mn t.mx) (ZqM t.mn t.mx) 0 ⟨0,0,true⟩ s).2.sets.length≤448):
  CXY Try.prog 142 #[.pointer (some ⟨mkb,0,none⟩),t.v] m (Yof (.slice t0a t0n t0c) (.slice t1a t1n t1c)) [⟨mkb,[.slice t0a t0n t0c,.slice t1a t1n t1c],98,2,false,true⟩] [⟨.slice t0a t0n t0c,4⟩,⟨.slice t1a t1n t1c,7⟩]
   (MkR (.slice t0a t0n t0c) (.slice t1a t1n t1c) m (Znf (fun s=>ZlB t.subs s) t.mn t.mx (ZqM t.mn t.mx) (ZqM t.mn t.mx) 0 ⟨0,0,true⟩ s)):=by
 apply ZdZ
 unfold ZcE
 intro b0 m1 bE _ kL jj b1
 obtain⟨eI,ip,fP⟩:=ZnT hb
 obtain⟨y,hy⟩:∃y,t.subs[0]?=some y:=⟨t.subs[0],by simp[ht]⟩
 have tJ:=List.mem_of_getElem? hy
 rcases(Zdd hr).2 with he|⟨bt,ot,gf,mr⟩
 ·rw[he]at ht;simp at ht
 obtain⟨cN,lw⟩:=mr.get hy
 rw[Nat.zero_mul]at cN
 generalize rO:ZqM t.mn t.mx=N at hN ⊢
 have vr:N≤16:=by
  rw[←rO];unfold ZqM;split <;> omega
 have Zs4:∀(q k:Nat)(out:Pt)(s':Ms),MsOk s'→PtIn s'.sets.length out→Grows s' (Znf (fun s=>ZlB t.subs s) t.mn t.mx N q k out s'):=fun q k out s' h1 h2=>ZfF (fun s h=>Zed _ s h) _ _ _ _ _ _ _ h1 h2
 have round:∀(k:Nat)(out:Pt)(s' s2:Ms)(z:Pt),k < N→MsOk s'→PtIn s'.sets.length out→s2=(if t.mx=-1∧k+1=N then⟨(mk y s').2.sets,Zdf (mk y s').2.fol (mk y s').1.last (mk y s').1.first⟩ else(mk y s').2)→z=⟨(mk y s').1.first,(mk y s').1.last,(mk y s').1.null||decide ((k:Int) ≥ t.mn)⟩→
   Znf (fun s=>ZlB t.subs s) t.mn t.mx N (N - k) k out s'=Znf (fun s=>ZlB t.subs s) t.mn t.mx N N 0 ⟨0,0,true⟩ s→Grows s' (mk y s')∧(mk y s').2.sets.length≤448∧MsOk s2∧s2.sets=(mk y s').2.sets∧PtIn s2.sets.length out∧PtIn s2.sets.length z∧Grows s2 (Zie out z s2)∧
   Znf (fun s=>ZlB t.subs s) t.mn t.mx N (N - (k+1)) (k+1) (Zie out z s2).1 (Zie out z s2).2=Znf (fun s=>ZlB t.subs s) t.mn t.mx N N 0 ⟨0,0,true⟩ s:=by
  intro k out s' s2 z hk hs' hp hU hz heq
  have eL:=Zrg (fun s=>ZlB t.subs s) t.mn t.mx N k hk out s' s2 (by simp only[ZpW hy];exact hU) z (by simp only[ZpW hy];exact hz)
  have fE:=Zd3 y s' hs'
  have e:s2.sets=(mk y s').2.sets:=by rw[hU];split <;> rfl
  have h2:MsOk s2:=by
   rw[hU];split
   ·exact fE.ok.loop _ _ fE.pt.1
   ·exact fE.ok
  have fG:PtIn s2.sets.length out:=hp.mono (by rw[e];exact fE.le)
  have iY:PtIn s2.sets.length z:=by rw[e,hz];exact fE.pt
  have h3:=Zeq h2 fG iY
  have h4:=Zs4 (N - (k+1)) (k+1) _ _ h3.ok h3.pt
  rw[←eL,heq]at h4
  refine⟨fE,?_,h2,e,fG,iY,h3,eL.symm.trans heq⟩
  rw[←e];exact Nat.le_trans h3.le (Nat.le_trans h4.le hN)
 have start:ZvY t s m (.slice t0a t0n t0c) (.slice t1a t1n t1c) N [.int .i64 0] [ZbQ,[.slice t0a t0n t0c,.slice t1a t1n t1c]] [.slice t0a t0n t0c,.slice t1a t1n t1c] m1 N:=
  ⟨0,⟨0,0,true⟩,s,t0a,t0n,t0c,t1a,t1n,t1c,Nat.zero_le _,rfl,rfl,rfl,rfl,MkSt.refl h hs bE,ZbK _ _,rfl⟩
 refine Zab (fun jv=>?_) (fun jv=>?_)
 ·have j3:t.mx=-1:=by simpa using jv
  have pR:(if(1:Int) > t.mn then(1:Int)else t.mn)=(N:Int):=by
   rw[←rO];unfold ZqM;rw[if_pos j3];split <;> omega
  intro b2
  simp only[pR]
  refine⟨ZvY t s m (.slice t0a t0n t0c) (.slice t1a t1n t1c) N,⟨_,start⟩,?_⟩
  rintro x cs cs1 a n c a1 n1 c1 m2 q _ ⟨k,out,s',a',n',c',a1',n1',c1',hk,hx,cG,dA,hq,cH,lu,heq⟩
  obtain rfl:x=k:=by simpa using hx
  simp only[List.cons.injEq,and_true]at cG
  obtain⟨rfl,rfl⟩:=cG
  simp only[List.cons.injEq,Value.slice.injEq,and_true]at dA
  obtain⟨⟨rfl,rfl,rfl⟩,rfl,rfl,rfl⟩:=dA
  subst hq
  have eC:=(cN.mono cH.base).mono (Mem.off_le m2 _)
  refine Zab (fun bV=>?_) (fun cM=>?_)
  ·have bF:k < N:=by have:=of_decide_eq_true bV;omega
   obtain⟨fE,jA,j4,iU,fG,iY,hO,dF⟩:=round k out s' _ _ bF cH.ok lu rfl rfl heq
   have eF:IntKind.i64.wrap ((N:Int) - 1)=(N:Int) - 1:=Zau (by omega) (by omega)
   refine⟨bt,ot,gf,⟨by omega,by omega⟩,_,_,_,_,_,_,_,_,eC,?_⟩
   refine lentC (ih y tJ s' mkb _ _ _ _ _ _ m2 cH.row cH.ok (Rep.mono cH.base y lw) jA) Zb9 (ZfQ cH fE.ok fun m3 a3 n3 c3 a4 n4 c4 cW b5=>?_)
   refine⟨decide (k+1=N),Zcc jv ⟨by trivial,by trivial,by rw[eF];congr 2;rw[Bool.eq_iff_iff];simp;omega⟩,?_⟩
   have hw:IntKind.i64.wrap ((k:Int)+1)=((k+1:Nat):Int):=by rw[Zau (by omega) (by omega)];rfl
   by_cases dO:k+1=N
   ·have ec:(if t.mx=-1∧k+1=N then(⟨(mk y s').2.sets,Zdf (mk y s').2.fol (mk y s').1.last (mk y s').1.first⟩:Ms)else(mk y s').2)=⟨(mk y s').2.sets,Zdf (mk y s').2.fol (mk y s').1.last (mk y s').1.first⟩:=if_pos ⟨j3,dO⟩
    rw[ec]at j4 iU fG iY hO dF
    refine Zcc (by simp[dO]) ?_
    refine lentC (ZpT (mk y s').2 (mk y s').1.last (mk y s').1.first mkb _ _ _ _ _ _ m3 cW.row (by rw[fE.ok.len];exact jA) (fun i hi=>by rw[fE.ok.len];exact fE.pt.2 i hi)) (by rintro v m' css tvs ⟨rfl,_⟩;rfl) ?_
    rintro m4 ij _ cs3 a5 n5 c5 a6 n6 c6 ⟨_,rP,oJ,iP⟩
    simp only[List.cons.injEq,Value.slice.injEq,and_true]at oJ
    obtain⟨⟨rfl,rfl,rfl⟩,rfl,rfl,rfl⟩:=oJ
    obtain rfl:cs3=[.slice a5 n5 c5,.slice a6 n6 c6]:=by simpa using rP
    have kN:=cW.step ij iP (fun b hb=>.inl hb) j4
    generalize dS:(mk y s').1=r1 at *
    obtain⟨rf,rl,rn⟩:=r1
    have ha:∀i,out.last.testBit i=true→i < (Zdf (mk y s').2.fol rl rf).length:=fun i hi=>by rw[ZjU,fE.ok.len];exact fG.2 i hi
    have hl:(Zdf (mk y s').2.fol rl rf).length≤448:=by rw[ZjU,fE.ok.len];exact jA
    cases rn
    ·refine Zbo rfl (lentC (Ze8 ⟨(mk y s').2.sets,Zdf (mk y s').2.fol rl rf⟩ out ⟨rf,rl,false||decide ((k:Int) ≥ t.mn)⟩ mkb _ _ _ _ _ _ m4 kN.row hl ha) ZdD (ZlS kN hO.ok fun m5 a7 n7 c7 a8 n8 c8 fQ=>?_))
     exact⟨by trivial,by trivial,_,by omega,k+1,_,_,_,_,_,_,_,_,bF,by rw[hw],rfl,rfl,rfl,fQ,hO.pt,dF⟩
    ·refine Zcc rfl (lentC (Ze8 ⟨(mk y s').2.sets,Zdf (mk y s').2.fol rl rf⟩ out ⟨rf,rl,true||decide ((k:Int) ≥ t.mn)⟩ mkb _ _ _ _ _ _ m4 kN.row hl ha) ZdD (ZlS kN hO.ok fun m5 a7 n7 c7 a8 n8 c8 fQ=>?_))
     exact⟨by trivial,by trivial,_,by omega,k+1,_,_,_,_,_,_,_,_,bF,by rw[hw],rfl,rfl,rfl,fQ,hO.pt,dF⟩
   ·have ec:(if t.mx=-1∧k+1=N then(⟨(mk y s').2.sets,Zdf (mk y s').2.fol (mk y s').1.last (mk y s').1.first⟩:Ms)else(mk y s').2)=(mk y s').2:=if_neg fun h=>dO h.2
    rw[ec]at j4 iU fG iY hO dF
    refine Zbo (by simp[dO]) ?_
    generalize dS:(mk y s').1=r1 at *
    obtain⟨rf,rl,rn⟩:=r1
    have ha:∀i,out.last.testBit i=true→i < (mk y s').2.fol.length:=fun i hi=>by rw[fE.ok.len];exact fG.2 i hi
    have hl:(mk y s').2.fol.length≤448:=by rw[fE.ok.len];exact jA
    cases rn
    ·refine Zbo rfl (lentC (Ze8 (mk y s').2 out ⟨rf,rl,false||decide ((k:Int) ≥ t.mn)⟩ mkb _ _ _ _ _ _ m3 cW.row hl ha) ZdD (ZlS cW hO.ok fun m5 a7 n7 c7 a8 n8 c8 fQ=>?_))
     exact⟨by trivial,by trivial,_,by omega,k+1,_,_,_,_,_,_,_,_,bF,by rw[hw],rfl,rfl,rfl,fQ,hO.pt,dF⟩
    ·refine Zcc rfl (lentC (Ze8 (mk y s').2 out ⟨rf,rl,true||decide ((k:Int) ≥ t.mn)⟩ mkb _ _ _ _ _ _ m3 cW.row hl ha) ZdD (ZlS cW hO.ok fun m5 a7 n7 c7 a8 n8 c8 fQ=>?_))
     exact⟨by trivial,by trivial,_,by omega,k+1,_,_,_,_,_,_,_,_,bF,by rw[hw],rfl,rfl,rfl,fQ,hO.pt,dF⟩
  ·have hk':k=N:=by have:=of_decide_eq_false cM;omega
   subst hk'
   rw[Nat.sub_self,Znf]at heq
   refine Zaa rfl ⟨by trivial,cH.out ?_ ?_⟩
   ·rw[←heq];rfl
   ·rw[←heq]
 ·have j3:¬t.mx=-1:=by simpa using jv
  have pR:t.mx=(N:Int):=by
   rw[←rO];unfold ZqM;rw[if_neg j3];omega
  intro b2
  refine⟨ZvY t s m (.slice t0a t0n t0c) (.slice t1a t1n t1c) N,⟨_,start⟩,?_⟩
  rintro x cs cs1 a n c a1 n1 c1 m2 q _ ⟨k,out,s',a',n',c',a1',n1',c1',hk,hx,cG,dA,hq,cH,lu,heq⟩
  obtain rfl:x=k:=by simpa using hx
  simp only[List.cons.injEq,and_true]at cG
  obtain⟨rfl,rfl⟩:=cG
  simp only[List.cons.injEq,Value.slice.injEq,and_true]at dA
  obtain⟨⟨rfl,rfl,rfl⟩,rfl,rfl,rfl⟩:=dA
  subst hq
  have eC:=(cN.mono cH.base).mono (Mem.off_le m2 _)
  refine Zab (fun bV=>?_) (fun cM=>?_)
  ·have bF:k < N:=by have:=of_decide_eq_true bV;omega
   obtain⟨fE,jA,j4,iU,fG,iY,hO,dF⟩:=round k out s' _ _ bF cH.ok lu rfl rfl heq
   refine⟨bt,ot,gf,⟨by omega,by omega⟩,_,_,_,_,_,_,_,_,eC,?_⟩
   refine lentC (ih y tJ s' mkb _ _ _ _ _ _ m2 cH.row cH.ok (Rep.mono cH.base y lw) jA) Zb9 (ZfQ cH fE.ok fun m3 a3 n3 c3 a4 n4 c4 cW b5=>?_)
   refine⟨false,Zbo jv ⟨by trivial,by trivial,rfl⟩,Zbo rfl ?_⟩
   have hw:IntKind.i64.wrap ((k:Int)+1)=((k+1:Nat):Int):=by rw[Zau (by omega) (by omega)];rfl
   have ec:(if t.mx=-1∧k+1=N then(⟨(mk y s').2.sets,Zdf (mk y s').2.fol (mk y s').1.last (mk y s').1.first⟩:Ms)else(mk y s').2)=(mk y s').2:=if_neg fun h=>j3 h.1
   rw[ec]at j4 iU fG iY hO dF
   generalize dS:(mk y s').1=r1 at *
   obtain⟨rf,rl,rn⟩:=r1
   have ha:∀i,out.last.testBit i=true→i < (mk y s').2.fol.length:=fun i hi=>by rw[fE.ok.len];exact fG.2 i hi
   have hl:(mk y s').2.fol.length≤448:=by rw[fE.ok.len];exact jA
   cases rn
   ·refine Zbo rfl (lentC (Ze8 (mk y s').2 out ⟨rf,rl,false||decide ((k:Int) ≥ t.mn)⟩ mkb _ _ _ _ _ _ m3 cW.row hl ha) ZdD (ZlS cW hO.ok fun m5 a7 n7 c7 a8 n8 c8 fQ=>?_))
    exact⟨by trivial,by trivial,_,by omega,k+1,_,_,_,_,_,_,_,_,bF,by rw[hw],rfl,rfl,rfl,fQ,hO.pt,dF⟩
   ·refine Zcc rfl (lentC (Ze8 (mk y s').2 out ⟨rf,rl,true||decide ((k:Int) ≥ t.mn)⟩ mkb _ _ _ _ _ _ m3 cW.row hl ha) ZdD (ZlS cW hO.ok fun m5 a7 n7 c7 a8 n8 c8 fQ=>?_))
    exact⟨by trivial,by trivial,_,by omega,k+1,_,_,_,_,_,_,_,_,bF,by rw[hw],rfl,rfl,rfl,fQ,hO.pt,dF⟩
  ·have hk':k=N:=by have:=of_decide_eq_false cM;omega
   subst hk'
   rw[Nat.sub_self,Znf]at heq
   refine Zaa rfl ⟨by trivial,cH.out ?_ ?_⟩
   ·rw[←heq];rfl
   ·rw[←heq]
def Ziy(b:Nat):Value→Mem→List (List Value)→Prop:=fun v m' _=>∃c,m'.reads c 0 [.pointer (some ⟨b,0,none⟩)]∧v=.agg #[.func (.func 135) #[] #[],.func (.func 136) #[] #[],.func (.func 137) #[] #[.pointer (some ⟨c,0,none⟩)],.func (.func 138) #[] #[.pointer (some ⟨c,0,none⟩)],.func (.func 140) #[] #[.pointer (some ⟨c,0,none⟩)],.func (.func 142) #[.pointer (some ⟨b,0,none⟩)] #[],.func (.func 143) #[] #[.pointer (some ⟨c,0,none⟩)]]
theorem ZeL(b:Nat)(m:Mem):CX Try.prog 109 #[.pointer (some ⟨b,0,none⟩)] m [] (Ziy b):=by
 apply ZeY
 unfold Zc2
 intro c m1 bE hc b1
 exact⟨m1,bE,Mem.le_refl _,c,hc,rfl⟩
theorem ZcF{b:Nat}:∀(v:Value)(m':Mem) (css:List (List Value)),Ziy b v m' css→Shape.fits (.agg [.fn,.fn,.fn,.fn,.fn,.fn,.fn]) v=true:=by
 rintro v m' css ⟨c,_,rfl⟩;rfl
theorem Zt2(t:T)(m:Mem):CX Try.prog 136 #[t.v] m [] (Ret (Pt.v ⟨0,0,true⟩)):=by
 apply ZdO
 unfold Zcg
 intro c m1 bE hc b1
 exact⟨m1,bE,Mem.le_refl _,rfl⟩
theorem Zrh(t:T)(s:Ms)(mkb:Nat)(t0a t1a:Option Addr)(t0n t0c t1n t1c:Nat)(m:Mem)(h:MkRow m (.slice t0a t0n t0c) (.slice t1a t1n t1c) s):
  CXY Try.prog 136 #[t.v] m (Yof (.slice t0a t0n t0c) (.slice t1a t1n t1c)) [⟨mkb,[.slice t0a t0n t0c,.slice t1a t1n t1c],98,2,false,true⟩] [⟨.slice t0a t0n t0c,4⟩,⟨.slice t1a t1n t1c,7⟩]
   (MkR (.slice t0a t0n t0c) (.slice t1a t1n t1c) m (⟨0,0,true⟩,s)):=
 (CX.frameY (Zt2 t m) _ _ _).mono fun v m' css tvs _ h2=>⟨_,_,_,_,_,_,h2.2.2.2,h2.2.1,h2.2.2.1,h.mono h2.1,fun b hb=>.inl hb⟩
theorem ZvZ{m m':Mem}{v0 v1:Value}{s:Ms}{c:Nat}{p:Option Addr}(h:MkRow m v0 v1 s)(hm:m.le m')(hc:m' c 0=some (.pointer p)):¬Yof v0 v1 c:=by
 rintro(hY|hY)
 ·obtain⟨c',_,h2,h3⟩:=ZeK h.row0 hY
  cases hs:s.sets with
  | nil=>rw[hs]at h3;simp at h3
  | cons q l=>
   rw[hs]at h2
   have:=hm _ _ _ (h2 0 (.int .u64 q.1) rfl)
   rw[Nat.add_zero,hc]at this;cases this
 ·obtain⟨c',_,h2,h3⟩:=ZeK h.row1 hY
  obtain⟨n,hn⟩:=Zgs h3
  have:=hm _ _ _ (h2 0 _ hn)
  rw[Nat.add_zero,hc]at this;cases this
theorem Zjm{b:Nat}{m':Mem}{css:List (List Value)}{g g1 g2 g3 g4 g5 g6:FuncId}{fi ca fi1 ca1 fi2 ca2 fi3 ca3 fi4 ca4 fi5 ca5 fi6 ca6:List Value}(h:Ziy b (.agg #[.func (.func g) fi.toArray ca.toArray,.func (.func g1) fi1.toArray ca1.toArray,.func (.func g2) fi2.toArray ca2.toArray,.func (.func g3) fi3.toArray ca3.toArray,.func (.func g4) fi4.toArray ca4.toArray,.func (.func g5) fi5.toArray ca5.toArray,.func (.func g6) fi6.toArray ca6.toArray]) m' css):
  ∃c,m' c 0=some (.pointer (some ⟨b,0,none⟩))∧(g1=136∧fi1=[]∧ca1=[])∧(g2=137∧fi2=[]∧ca2=[.pointer (some ⟨c,0,none⟩)])∧(g3=138∧fi3=[]∧ca3=[.pointer (some ⟨c,0,none⟩)])∧(g4=140∧fi4=[]∧ca4=[.pointer (some ⟨c,0,none⟩)])∧(g5=142∧fi5=[.pointer (some ⟨b,0,none⟩)]∧ca5=[])∧(g6=143∧fi6=[]∧ca6=[.pointer (some ⟨c,0,none⟩)]):=by
 obtain⟨c,hc,hv⟩:=h
 simp only[Value.agg.injEq,Array.mk.injEq,List.cons.injEq,Value.func.injEq,Fn.func.injEq,and_true,true_and]at hv
 obtain⟨_,h1,h2,h3,h4,h5,h6⟩:=hv
 exact⟨c,by simpa using hc 0 _ rfl,h1,h2,h3,h4,h5,h6⟩
theorem ZrZ:∀t:T,(∀x∈t.nodes,x.right=true)→MkC t:=by
 intro t cC
 have ih:∀x∈t.subs,MkC x:=fun x hx=>ZrZ x fun y hy=>cC y (by
  rw[Zcp]
  obtain⟨i,hi⟩:=List.getElem?_of_mem hx
  rw[ZeV hi];simp[hy])
 have i6:t.right=true:=cC t (by rw[Zcp];simp)
 intro s mkb t0a t1a t0n t0c t1n t1c m cV hs hr hN
 rw[ZvH]at hN ⊢
 have hk:t.k=1∨t.k=2∨t.k=3∨t.k=4∨(t.k=5∧t.subs.length=1∧ZfB t.mn t.mx=true)∨(t.k=6∧t.subs.length=1):=by
  unfold T.right at i6
  rw[Bool.and_eq_true]at i6
  have h2:=i6.2
  by_cases h1:t.k=1;· exact .inl h1
  by_cases h3:t.k=2;· exact .inr (.inl h3)
  by_cases h4:t.k=3;· exact .inr (.inr (.inl h4))
  by_cases h5:t.k=4;· exact .inr (.inr (.inr (.inl h5)))
  by_cases h6:t.k=5
  ·rw[if_neg h1,if_neg h3,if_neg h4,if_neg h5,if_pos h6]at h2
   simp only[Bool.and_eq_true,beq_iff_eq]at h2
   exact .inr (.inr (.inr (.inr (.inl ⟨h6,h2.1,h2.2.1⟩))))
  ·rw[if_neg h1,if_neg h3,if_neg h4,if_neg h5,if_neg h6]at h2
   simp only[Bool.and_eq_true,beq_iff_eq]at h2
   exact .inr (.inr (.inr (.inr (.inr h2))))
 obtain⟨k,s0,s1,s2,s3,mn,mx,a,c,l⟩:=t
 rcases hk with hk|hk|hk|hk|⟨hk,h1,hb⟩|⟨hk,h1⟩
 ·obtain rfl:k=1:=hk
  rw[if_neg (by simp[T.k]),if_pos (by rfl)]at hN ⊢
  apply ZdP
  unfold Zcw
  intro b m1 bE _ hf _ b1
  refine⟨fun _ _ _=>Ziy mkb,_,rfl,ZeL mkb m1,ZcF,?_⟩
  intro g fi ca g1 fi1 ca1 g2 fi2 ca2 g3 fi3 ca3 g4 fi4 ca4 g5 fi5 ca5 g6 fi6 ca6 m2 bZ hR
  obtain⟨cc,jB,⟨rfl,rfl,rfl⟩,⟨rfl,rfl,rfl⟩,⟨rfl,rfl,rfl⟩,⟨rfl,rfl,rfl⟩,⟨rfl,rfl,rfl⟩,rfl,rfl,rfl⟩:=Zjm hR
  refine⟨⟨by omega,by omega⟩,fun M gt gq=>?_⟩
  have cH:=MkSt.refl cV hs (Mem.le_trans bE gt)
  refine lentC (Zrh (.node 1 s0 s1 s2 s3 mn mx a c l) s mkb _ _ _ _ _ _ M cH.row) Zb9 (ZfQ cH hs fun m3 a3 n3 c3 a4 n4 c4 cW=>?_)
  exact⟨rfl,cW.out rfl rfl⟩
 ·obtain rfl:k=2:=hk
  rw[if_neg (by simp[T.k]),if_neg (by simp[T.k]),if_pos (by rfl)]at hN ⊢
  apply ZdQ
  unfold Zcx
  intro b m1 bE _ hf _ b1
  refine⟨fun _ _ _=>Ziy mkb,_,rfl,ZeL mkb m1,ZcF,?_⟩
  intro g fi ca g1 fi1 ca1 g2 fi2 ca2 g3 fi3 ca3 g4 fi4 ca4 g5 fi5 ca5 g6 fi6 ca6 m2 bZ hR
  obtain⟨cc,jB,⟨rfl,rfl,rfl⟩,⟨rfl,rfl,rfl⟩,⟨rfl,rfl,rfl⟩,⟨rfl,rfl,rfl⟩,⟨rfl,rfl,rfl⟩,rfl,rfl,rfl⟩:=Zjm hR
  refine⟨⟨by omega,by omega⟩,fun M gt gq=>?_⟩
  have cH:=MkSt.refl cV hs (Mem.le_trans bE gt)
  simp only[List.length_append,List.length_singleton]at hN
  refine lentC (ZtY (.node 2 s0 s1 s2 s3 mn mx a c l) s cc mkb _ _ _ _ _ _ M cH.row (by omega) hs.len (gq _ _ _ jB)) Zb9 (ZfQ cH (Znh hs _).ok fun m3 a3 n3 c3 a4 n4 c4 cW=>?_)
  exact⟨rfl,cW.out rfl rfl⟩
 ·obtain rfl:k=3:=hk
  rw[if_neg (by simp[T.k]),if_neg (by simp[T.k]),if_neg (by simp[T.k]),if_pos (by rfl)]at hN ⊢
  apply ZdR
  unfold Zcy
  intro b m1 bE _ hf _ b1
  refine⟨fun _ _ _=>Ziy mkb,_,rfl,ZeL mkb m1,ZcF,?_⟩
  intro g fi ca g1 fi1 ca1 g2 fi2 ca2 g3 fi3 ca3 g4 fi4 ca4 g5 fi5 ca5 g6 fi6 ca6 m2 bZ hR
  obtain⟨cc,jB,⟨rfl,rfl,rfl⟩,⟨rfl,rfl,rfl⟩,⟨rfl,rfl,rfl⟩,⟨rfl,rfl,rfl⟩,⟨rfl,rfl,rfl⟩,rfl,rfl,rfl⟩:=Zjm hR
  refine⟨⟨by omega,by omega⟩,fun M gt gq=>?_⟩
  have cH:=MkSt.refl cV hs (Mem.le_trans bE gt)
  have oK:(M.off (Yof (.slice t0a t0n t0c) (.slice t1a t1n t1c))) cc 0=some (.pointer (some ⟨mkb,0,none⟩)):=by
   rw[Mem.off_at (ZvZ cH.row (Mem.le_refl _) (gq _ _ _ jB))];exact gq _ _ _ jB
  refine lentC (Zt0 (.node 3 s0 s1 s2 s3 mn mx a c l) ih s cc mkb _ _ _ _ _ _ M cH.row hs (Rep.mono cH.base _ hr) oK hN) Zb9 (ZfQ cH (Zer _ _ _ hs (ZbK _ _)).ok fun m3 a3 n3 c3 a4 n4 c4 cW=>?_)
  exact⟨rfl,cW.out rfl rfl⟩
 ·obtain rfl:k=4:=hk
  rw[if_neg (by simp[T.k]),if_neg (by simp[T.k]),if_neg (by simp[T.k]),if_neg (by simp[T.k]),if_pos (by rfl)]at hN ⊢
  apply ZdS
  unfold Zcz
  intro b m1 bE _ hf _ b1
  refine⟨fun _ _ _=>Ziy mkb,_,rfl,ZeL mkb m1,ZcF,?_⟩
  intro g fi ca g1 fi1 ca1 g2 fi2 ca2 g3 fi3 ca3 g4 fi4 ca4 g5 fi5 ca5 g6 fi6 ca6 m2 bZ hR
  obtain⟨cc,jB,⟨rfl,rfl,rfl⟩,⟨rfl,rfl,rfl⟩,⟨rfl,rfl,rfl⟩,⟨rfl,rfl,rfl⟩,⟨rfl,rfl,rfl⟩,rfl,rfl,rfl⟩:=Zjm hR
  refine⟨⟨by omega,by omega⟩,fun M gt gq=>?_⟩
  have cH:=MkSt.refl cV hs (Mem.le_trans bE gt)
  have oK:(M.off (Yof (.slice t0a t0n t0c) (.slice t1a t1n t1c))) cc 0=some (.pointer (some ⟨mkb,0,none⟩)):=by
   rw[Mem.off_at (ZvZ cH.row (Mem.le_refl _) (gq _ _ _ jB))];exact gq _ _ _ jB
  refine lentC (Zt1 (.node 4 s0 s1 s2 s3 mn mx a c l) ih s cc mkb _ _ _ _ _ _ M cH.row hs (Rep.mono cH.base _ hr) oK hN) Zb9 (ZfQ cH (Zes _ _ _ hs (ZbK _ _)).ok fun m3 a3 n3 c3 a4 n4 c4 cW=>?_)
  exact⟨rfl,cW.out rfl rfl⟩
 ·obtain rfl:k=5:=hk
  rw[if_neg (by simp[T.k]),if_neg (by simp[T.k]),if_neg (by simp[T.k]),if_neg (by simp[T.k]),if_neg (by simp[T.k]),if_pos (by rfl)]at hN ⊢
  apply ZdT
  unfold ZcA
  intro b m1 bE _ hf _ b1
  refine⟨fun _ _ _=>Ziy mkb,_,rfl,ZeL mkb m1,ZcF,?_⟩
  intro g fi ca g1 fi1 ca1 g2 fi2 ca2 g3 fi3 ca3 g4 fi4 ca4 g5 fi5 ca5 g6 fi6 ca6 m2 bZ hR
  obtain⟨cc,jB,⟨rfl,rfl,rfl⟩,⟨rfl,rfl,rfl⟩,⟨rfl,rfl,rfl⟩,⟨rfl,rfl,rfl⟩,⟨rfl,rfl,rfl⟩,rfl,rfl,rfl⟩:=Zjm hR
  refine⟨⟨by omega,by omega⟩,fun M gt gq=>?_⟩
  have cH:=MkSt.refl cV hs (Mem.le_trans bE gt)
  refine lentC (Zo7 (.node 5 s0 s1 s2 s3 mn mx a c l) h1 hb ih s mkb _ _ _ _ _ _ M cH.row hs (Rep.mono cH.base _ hr) hN) Zb9 (ZfQ cH (ZfF (fun s h=>Zed _ s h) _ _ _ _ _ _ _ hs (ZbK _ _)).ok fun m3 a3 n3 c3 a4 n4 c4 cW=>?_)
  exact⟨rfl,cW.out rfl rfl⟩
 ·obtain rfl:k=6:=hk
  rw[if_neg (by simp[T.k]),if_neg (by simp[T.k]),if_neg (by simp[T.k]),if_neg (by simp[T.k]),if_neg (by simp[T.k]),if_neg (by simp[T.k])]at hN ⊢
  apply ZdU
  unfold ZcB
  intro b m1 bE _ hf _ b1
  refine⟨fun _ _ _=>Ziy mkb,_,rfl,ZeL mkb m1,ZcF,?_⟩
  intro g fi ca g1 fi1 ca1 g2 fi2 ca2 g3 fi3 ca3 g4 fi4 ca4 g5 fi5 ca5 g6 fi6 ca6 m2 bZ hR
  obtain⟨cc,jB,⟨rfl,rfl,rfl⟩,⟨rfl,rfl,rfl⟩,⟨rfl,rfl,rfl⟩,⟨rfl,rfl,rfl⟩,⟨rfl,rfl,rfl⟩,rfl,rfl,rfl⟩:=Zjm hR
  refine⟨⟨by omega,by omega⟩,fun M gt gq=>?_⟩
  have cH:=MkSt.refl cV hs (Mem.le_trans bE gt)
  have oK:(M.off (Yof (.slice t0a t0n t0c) (.slice t1a t1n t1c))) cc 0=some (.pointer (some ⟨mkb,0,none⟩)):=by
   rw[Mem.off_at (ZvZ cH.row (Mem.le_refl _) (gq _ _ _ jB))];exact gq _ _ _ jB
  refine lentC (Zrf (.node 6 s0 s1 s2 s3 mn mx a c l) h1 ih s cc mkb _ _ _ _ _ _ M cH.row hs (Rep.mono cH.base _ hr) oK hN) Zb9 (ZfQ cH (Zed _ _ hs).ok fun m3 a3 n3 c3 a4 n4 c4 cW=>?_)
  exact⟨rfl,cW.out rfl rfl⟩
termination_by t=>SizeOf.sizeOf t
decreasing_by exact ZqG hx
end Go.Proofs.Ytplacemlpkhmfaa
set_option linter.unusedVariables false
set_option linter.unusedSimpArgs false
namespace Go.Proofs.Ytplacemlpkhmfaa
open Go Go.Eng Go.Rx Go.Proofs Go.RowKit
set_option maxRecDepth 100000
theorem Zr0{f:Nat}{v:Value}{m:Mem}(h:SlN (Zcf f) v m):SlI true (ZbZ f) v m:=by
 obtain⟨a,c,rfl,h2,h3⟩:=h
 refine⟨a,c,by simp[ZbZ],?_,by have:=Znk f;omega,fun _ e=>h3 (by simpa[ZbZ]using e)⟩
 have e:Zaq (ZbZ f)=ZbW (Zcf f):=by simp[Zaq,ZbZ,ZbW]
 rw[e];exact h2
theorem ZsN(f:Nat)(b o:Nat)(m:Mem)(hb:m.reads b o (bwL f)):CX Try.prog 62 #[.pointer (some ⟨b,o,none⟩)] m [] (fun v m' _=>SlI true (ZbZ f) v m'∧NewS m v):=
 (ZnJ f b o m hb).mono fun _ _ _ _ h=>⟨Zr0 h.1,h.2⟩
theorem Zmf(f:Nat)(b o:Nat)(m:Mem)(hb:m.reads b o (bwL f)):CX Try.prog 62 #[.pointer (some ⟨b,o,none⟩)] m [] (fun v m' _=>SlI true (ZbZ f) v m'):=
 (ZsI f b o m hb).mono fun _ _ _ _ h=>Zr0 h
theorem Zvr(m:Mem):NfR true nf0 (.agg #[.slice none 0 0,.slice none 0 0,.slice none 0 0,.slice none 0 0,.bool false]) m:=
 ⟨_,_,_,_,rfl,⟨none,0,rfl,.inl rfl,by simp[nf0],fun _ _=>rfl⟩,⟨none,0,[],rfl,.inl rfl,rfl,by simp[nf0],fun i v l hv=>by simp at hv⟩,⟨none,0,rfl,.inl rfl,by simp[nf0],fun _ _=>rfl⟩,⟨none,0,rfl,.inl rfl,by simp[nf0],fun _ _=>rfl⟩⟩
def NfE(A:Nf)(e:Int):Value→Mem→List (List Value)→Prop:=fun v m' _=>∃w,v=.tuple #[w,.int .i64 e]∧NfR true A w m'
theorem Zh2{m:Mem}{b o:Nat}{l r:List Value}(h:m.reads b o (l++r)):m.reads b o l:=fun j v hv=>h j v (by rw[List.getElem?_append_left (List.getElem?_eq_some_iff.1 hv).1];exact hv)
theorem Zjn{m:Mem}{b o:Nat}{l r:List Value}(h:m.reads b o (l++r)):m.reads b (o+l.length) r:=fun j v hv=>by
 have:=h (l.length+j) v (by rw[List.getElem?_append_right (by omega),Nat.add_sub_cancel_left];exact hv)
 rwa [←Nat.add_assoc]at this
theorem Zt3(t:T)(m:Mem)(hr:Rep m t):CX Try.prog 14 #[t.v] m [] (NfE t.ofN t.ofE):=by
 apply Zq6
 unfold ZnC
 intro b m1 bE _ kL jj b1
 have dS:=Rep.mono bE t hr
 refine⟨t.isNone,Zab (fun h=>?_) (fun h=>⟨rfl,?_⟩),?_⟩
 ·refine Zah (ZtR t T0 m1 dS (ZuR m1)) fun m2 bZ=>⟨rfl,?_⟩
  unfold T.isNone;rw[h,Bool.true_and]
 ·unfold T.isNone;rw[h,Bool.false_and]
 refine Zab (fun h=>?_) (fun h=>?_)
 ·refine⟨_,bE,Mem.le_refl _,_,by unfold T.ofE;rw[if_pos h],?_⟩
  unfold T.ofN;rw[if_pos h];exact Zvr _
 have eN:t.ofN=if t.nfit then t.auto else nf0:=by unfold T.ofN;rw[h];rfl
 have eE:t.ofE=if t.nfit then 0 else 170:=by unfold T.ofE;rw[h];rfl
 refine⟨!t.nfit,?_,?_⟩
 ·refine Zah (ZsE t m1 dS) fun m2 bZ=>Zab (fun hc=>⟨rfl,?_⟩) (fun hc=>?_)
  ·have:t.clean=false:=by simpa using hc
   unfold T.nfit;rw[this];rfl
  have hc':t.clean=true:=by simpa using hc
  refine Zdo (ZtQ t m2 (Rep.mono bZ t dS)) fun m3 cD=>Zab (fun hz=>⟨rfl,?_⟩) (fun hz=>?_)
  ·have:¬t.size≤120:=by have:=of_decide_eq_true hz;omega
   unfold T.nfit;simp[this]
  have hz':t.size≤120:=by have:=of_decide_eq_false hz;omega
  refine Zdo (ZlI t m3 (Rep.mono cD t (Rep.mono bZ t dS))) fun m4 cZ=>⟨rfl,?_⟩
  refine congrArg (fun z=>[Value.bool z]) ?_
  unfold T.nfit;rw[hc',Bool.eq_iff_iff];simp[hz']
 refine Zab (fun hb=>?_) (fun hb b4=>?_)
 ·have:t.nfit=false:=by simpa using hb
  refine⟨_,bE,Mem.le_refl _,_,by rw[eE,this];rfl,?_⟩
  rw[eN,this];exact Zvr _
 have eG:t.nfit=true:=by simpa using hb
 rw[eN,eE,eG]
 simp only[if_true]
 have j5:=eG
 unfold T.nfit at j5
 simp only[Bool.and_eq_true,decide_eq_true_eq]at j5
 obtain⟨hc,_,hp⟩:=j5
 have fZ:=hc
 unfold T.clean at fZ
 simp only[Bool.and_eq_true,List.all_eq_true]at fZ
 have hQ:t.pos≤400:=by unfold T.positions at hp;rw[fZ.1]at hp;simpa using hp
 have mt:=ZjV t fZ.2 (by omega) ⟨[],[]⟩
 have hN:(mk t ⟨[],[]⟩).2.sets.length≤448:=by rw[mt];simp;omega
 have hY:∀k,¬Yof (.slice none 0 0) (.slice none 0 0) k:=by
  rintro k (h|h) <;> simp[Tok.blk]at h
 have cV:MkRow m1 (.slice none 0 0) (.slice none 0 0) ⟨[],[]⟩:=⟨.inl ⟨rfl,rfl⟩,.inl ⟨rfl,rfl⟩,fun b hb=>by simp[Tok.blk]at hb⟩
 have cI:MsOk ⟨[],[]⟩:=⟨rfl,fun j x hj=>by simp at hj⟩
 have oL:Rep (m1.off (Yof (.slice none 0 0) (.slice none 0 0))) t:=Rep.mono (fun b o v hv=>by rw[Mem.off_at (hY b)];exact hv) t dS
 have cH:=MkSt.refl cV cI (Mem.le_refl m1)
 have hg:=Zd3 t ⟨[],[]⟩ cI
 refine lentC (ZrZ t fZ.2 ⟨[],[]⟩ b4 none none 0 0 0 0 m1 cV cI oL hN) Zb9 (ZfQ cH hg.ok fun m3 a3 n3 c3 a4 n4 c4 cW=>?_)
 generalize lg:mk t ⟨[],[]⟩=r at *
 obtain⟨p,s'⟩:=r
 have oM:t.auto=ZtK (p,s'):=by unfold T.auto;rw[lg]
 have jE:m.le m3:=Mem.le_trans bE (Mem.le_trans (fun b o v hv=>by rw[Mem.off_at (hY b)];exact hv) (Mem.le_trans cW.base (Mem.off_le m3 _)))
 intro b6 m4 cZ vt
 have mu:m4.reads b6 0 (bwL p.first++(bwL p.last++[Value.bool p.null])):=vt
 have hF:=Zh2 mu
 have hL:m4.reads b6 7 (bwL p.last):=by have:=Zh2 (Zjn mu);rwa [Znc,Nat.zero_add]at this
 obtain⟨rfl,oq,_⟩:=Zkf cW.row.row0 (fun e=>by rw[List.eq_nil_of_length_eq_zero e];rfl)
 obtain⟨rfl,jc,_⟩:=Zkf cW.row.row1 (fun e=>by rw[List.eq_nil_of_length_eq_zero e];rfl)
 have oN:s'.sets=[]→a3=none:=fun e=>by
  rcases cW.row.row0 with⟨_,h2⟩|⟨_,_,_,_,h3⟩
  ·simp only[Value.slice.injEq]at h2;exact h2.1
  ·rw[e]at h3;simp at h3
 refine⟨fun i _ _=>if i=5 then(fun v m' _=>SlI true (ZbZ p.first) v m')else(fun v m' _=>SlI true (ZbZ p.last) v m'),Zat (v:=.slice a3 s'.sets.length c3) rfl ?_⟩
 refine⟨_,rfl,Zmf p.first b6 0 m4 hF,ZbH,fun a5 n5 c5 m5 dB vu=>?_⟩
 refine⟨_,rfl,Zmf p.last b6 7 m5 (hL.mono dB),ZbH,fun a6 n6 c6 m6 gd lx=>?_⟩
 refine⟨.bool p.null,by simpa using mu 14 _ rfl,Zaa rfl (Zaa rfl (Zaa rfl (Zaa rfl fun b7=>Zaa rfl fun M ly na mq=>⟨by trivial,Zat (v:=.slice a4 s'.fol.length c4) rfl (Zaa rfl ?_)⟩)))⟩
 have kr:m3.le M:=Mem.le_trans cZ ly
 have vv:SlI true (ZbZ p.first) (.slice a5 n5 c5) M:=(show SlI true (ZbZ p.first) _ m5 from vu).mono na
 have vA:SlI true (ZbZ p.last) (.slice a6 n6 c6) M:=(show SlI true (ZbZ p.last) _ m6 from lx).mono mq
 have bY:s'.fol.length≤448:=by rw[hg.ok.len];exact hN
 have tK:s'.sets.length≤448:=hN
 refine⟨fun xs css tvs m' q=>∃(k:Nat)(a:Option Addr)(c:Nat),k≤s'.fol.length∧xs=[.int .i64 k]∧css=[[.slice a3 s'.sets.length c3,.slice a k c,.slice a5 n5 c5,.slice a6 n6 c6,.bool p.null]]∧tvs=[.slice a k c]∧M.le m'∧FolG m' a ((s'.fol.map ZbZ).take k)∧q=s'.fol.length - k,⟨_,0,none,0,Nat.zero_le _,rfl,rfl,rfl,Mem.le_refl _,⟨[],.inl rfl,rfl,fun i v l hv=>by simp at hv⟩,rfl⟩,?_⟩
 rintro z cs a n c m7 q _ ⟨k,a',c',hk,hz,cG,dA,nb,hG,hq⟩
 obtain rfl:z=k:=by simpa using hz
 obtain rfl:cs=_:=by simpa using cG
 simp only[List.cons.injEq,Value.slice.injEq,and_true]at dA
 obtain⟨rfl,rfl,rfl⟩:=dA
 subst hq
 refine Zab (fun bV=>?_) (fun cM=>?_)
 ·have bF:n < s'.fol.length:=by have:=of_decide_eq_true bV;simp only[slN]at this;omega
  obtain⟨x,hx⟩:=Zam bF
  have oO:=jc.mono (Mem.le_trans kr nb)
  rcases oO with h0|⟨fb,fo,gE,eA⟩
  ·have:=congrArg List.length h0
   rw[Zhc]at this;simp at this;omega
  rw[ZpJ hx,List.append_assoc]at eA
  have vB:m7.reads fb (fo+n*7) (bwL x):=by
   have:=Zh2 (Zjn eA)
   rwa [Zhc,List.length_take,Nat.min_eq_left (by omega)]at this
  refine Zaa rfl ⟨fb,fo,gE,⟨by omega,by show(n:Int) < (s'.fol.length:Nat);omega⟩,_,_,_,_,_,_,_,(by rw[Int.toNat_natCast];exact vB),fun b9=>Zaa rfl fun m8 j6 oP=>⟨fun _ _ _=>(fun v m' _=>SlI true (ZbZ x) v m'),Zat (v:=.slice a n c) rfl ⟨_,rfl,Zmf x b9 0 m8 oP,ZbH,fun a10 n10 c10 m9 oQ vC b10 rQ=>Zaa rfl ?_⟩⟩⟩
  obtain⟨ws,eF,dQ,ko⟩:=hG
  have gA:((s'.fol.map ZbZ).take n).length=n:=by rw[List.length_take,List.length_map];omega
  have ij:=Mem.le_add rQ [Value.slice a10 n10 c10]
  refine⟨.inl rfl,ws,[.slice a10 n10 c10],by rw[dQ,gA];simp[slN],rfl,((eF.mono j6).mono oQ).mono ij,Zgq,by simp[Value.oneCell'],by show(n+1)*24≤_;omega,by show n+1≤_;omega,fun a11 c11 m10 j7 rR _=>Zaa rfl fun M2 kt ng rS mw=>⟨by trivial,by trivial,by trivial,_,by omega,n+1,a11,c11,bF,by rw[Zau (by omega) (by omega)];rfl,rfl,rfl,Mem.le_trans nb (Mem.le_trans j6 kt),?_,rfl⟩⟩
  have e:(s'.fol.map ZbZ).take (n+1)=(s'.fol.map ZbZ).take n++[ZbZ x]:=by rw[List.take_add_one,List.getElem?_map,hx];rfl
  rw[e]
  exact Zq8 dQ ko (Mem.le_trans j6 kt) rR mw ((show SlI true (ZbZ x) _ m9 from vC).mono ng)
 ·have:n=s'.fol.length:=by have:=of_decide_eq_false cM;simp only[slN]at this;omega
  subst this
  have jO:(s'.fol.map ZbZ).take s'.fol.length=s'.fol.map ZbZ:=List.take_of_length_le (by simp)
  rw[jO]at hG
  obtain⟨ws,eF,dQ,ko⟩:=hG
  have cC:m.le m7:=Mem.le_trans jE (Mem.le_trans kr nb)
  refine Zaa rfl ⟨_,cC,Mem.le_refl _,_,rfl,?_⟩
  rw[oM]
  exact⟨_,_,_,_,rfl,⟨a3,c3,rfl,(oq.mono kr).mono nb,by show s'.sets.length≤_;omega,fun _ e=>oN e⟩,⟨a,c,ws,by show _=Value.slice a (s'.fol.map ZbZ).length c;rw[List.length_map],eF,dQ,by show(s'.fol.map ZbZ).length≤_;rw[List.length_map];omega,ko⟩,vv.mono nb,vA.mono nb⟩
end Go.Proofs.Ytplacemlpkhmfaa
set_option linter.unusedVariables false
set_option linter.unusedSimpArgs false
namespace Go.Proofs.Ytplacemlpkhmfaa
open Go Go.Eng Go.Rx Go.Proofs Go.RowKit
set_option maxRecDepth 100000
theorem Zh3{st:Bool}(l:List Int)(v:Value)(m:Mem)(h:SlI st l v m):CX Try.prog 44 #[v] m [] (fun v m' _=>SlI st l v m'∧NewS m v):=(Zlb l v m h).room.mono fun v m' css cP ⟨m1,h0,h1,⟨hS,_⟩,hr⟩=>⟨hS.mono h1,Zme hr⟩
theorem Zo8{st:Bool}(l:List QS)(v:Value)(m:Mem)(h:SlQ st l v m):CX Try.prog 77 #[v] m [] (fun v m' _=>SlQ st l v m'∧NewS m v):=(Zo1 l v m h).room.mono fun v m' css cP ⟨m1,h0,h1,⟨hS,_⟩,hr⟩=>⟨hS.mono h1,Zme hr⟩
theorem Zuj{st:Bool}{l:List Int}{v:Value}{m:Mem}(h:SlI st l v m)(hl:l≠[]){b o:Nat}(ha:slA v=some ⟨b,o,none⟩):¬m.free b:=by
 obtain⟨a,c,rfl,h1,_⟩:=h
 exact Zka h1 (fun e=>hl (by simpa[Zaq]using e)) ha
theorem Zv0{st:Bool}{l:List QS}{v:Value}{m:Mem}(h:SlQ st l v m)(hl:l≠[]){b o:Nat}(ha:slA v=some ⟨b,o,none⟩):¬m.free b:=by
 obtain⟨a,c,rfl,h1,_⟩:=h
 exact Zka h1 (fun e=>hl (by
  have:=congrArg List.length e
  rw[Zep]at this
  exact List.eq_nil_of_length_eq_zero (by simp at this;omega))) ha
def Zri(a:Option Addr)(v:Value):Prop:=∀b o o',slA v=some ⟨b,o,none⟩→a≠some ⟨b,o',none⟩
def CopyS(st:Bool)(A:Nf)(m:Mem)(v:Value)(m':Mem):Prop:=∃s f x y,v=.agg #[s,f,x,y,.bool A.empty]∧(SlQ st A.sets s m'∧NewS m s)∧(SlI st A.first x m'∧NewS m x)∧(SlI st A.last y m'∧NewS m y)∧∃a c vs,f=.slice a A.fol.length c∧rowRd m' a vs∧vs.length=A.fol.length∧A.fol.length≤1000000∧(A.sets≠[]→Zri a s)∧(A.first≠[]→Zri a x)∧(A.last≠[]→Zri a y)∧∀(i:Nat)(v:Value)(l:List Int),vs[i]?=some v→A.fol[i]?=some l→SlI st l v m'∧NewS m v∧(l≠[]→Zri a v)
theorem CopyS.nf{st:Bool}{A:Nf}{m m':Mem}{v:Value}(h:CopyS st A m v m'):NfR st A v m':=by
 obtain⟨s,f,x,y,rfl,h1,h2,h3,a,c,vs,rfl,h4,h5,h6,g1,g2,g3,h7⟩:=h
 exact⟨_,_,_,_,rfl,h1.1,⟨a,c,vs,rfl,h4,h5,h6,fun i v l hv hl=>(h7 i v l hv hl).1⟩,h2.1,h3.1⟩
theorem CopyS.mono{st:Bool}{A:Nf}{m m' M:Mem}{v:Value}(h:CopyS st A m v m')(k:m'.le M):CopyS st A m v M:=by
 obtain⟨s,f,x,y,rfl,h1,h2,h3,a,c,vs,rfl,h4,h5,h6,g1,g2,g3,h7⟩:=h
 exact⟨_,_,_,_,rfl,⟨h1.1.mono k,h1.2⟩,⟨h2.1.mono k,h2.2⟩,⟨h3.1.mono k,h3.2⟩,a,c,vs,rfl,h4.mono k,h5,h6,g1,g2,g3,fun i v l hv hl=>⟨(h7 i v l hv hl).1.mono k,(h7 i v l hv hl).2⟩⟩
theorem Zlf{st:Bool}{A:Nf}{m:Mem}:∀(v:Value)(m':Mem) (css:List (List Value)),CopyS st A m v m'→Shape.fits (.agg [.slice,.slice,.slice,.slice,.bool]) v=true:=by
 rintro v m' css ⟨s,f,x,y,rfl,⟨⟨_,_,rfl,_⟩,_⟩,⟨⟨_,_,rfl,_⟩,_⟩,⟨⟨_,_,rfl,_⟩,_⟩,_,_,_,rfl,_⟩;rfl
set_option maxHeartbeats 800000 in
theorem ZpX{st:Bool}(A:Nf)(v:Value)(m:Mem)(h:NfR st A v m)(hN:A.fol.length≤1000):CX Try.prog 26 #[v] m [] (fun v m' _=>CopyS st A m v m'):=by
 obtain⟨s,f,x,y,rfl,⟨sa,sc,rfl,hs,dP,iN⟩,⟨fa,fc,vs,rfl,hf,f9,gZ,fW⟩,⟨xa,xc,rfl,hx,eD,gz⟩,⟨ya,yc,rfl,hy,dD,hH⟩⟩:=h
 apply ZnF
 unfold Zji
 intro b0 m1 bE _ _ _ b1
 refine⟨fun i _ m=>if i=2 then(fun v m' _=>SlQ st A.sets v m'∧NewS m v)else if i=5 then(fun v m' _=>SlI st A.first v m'∧NewS m v)else(fun v m' _=>SlI st A.last v m'∧NewS m v),?_⟩
 refine⟨_,rfl,Zo8 A.sets _ m1 ⟨sa,sc,rfl,hs.mono bE,dP,iN⟩,fun v m' css h=>ZsJ v m' css h.1,fun a2 n2 c2 m2 bZ oR=>?_⟩
 refine⟨_,rfl,Zh3 A.first _ m2 ⟨xa,xc,rfl,(hx.mono bE).mono bZ,eD,gz⟩,fun v m' css h=>ZbH v m' css h.1,fun a3 n3 c3 m3 cD kO=>?_⟩
 refine⟨_,rfl,Zh3 A.last _ m3 ⟨ya,yc,rfl,((hy.mono bE).mono bZ).mono cD,dD,hH⟩,fun v m' css h=>ZbH v m' css h.1,fun a4 n4 c4 m4 cZ kP=>?_⟩
 have oR:SlQ st A.sets (.slice a2 n2 c2) m2∧NewS m1 (.slice a2 n2 c2):=oR
 have kO:SlI st A.first (.slice a3 n3 c3) m3∧NewS m2 (.slice a3 n3 c3):=kO
 have kP:SlI st A.last (.slice a4 n4 c4) m4∧NewS m3 (.slice a4 n4 c4):=kP
 intro b2 M gt gq kq ly
 have kQ:m.le M:=Mem.le_trans bE gt
 have ir:m.le m2:=Mem.le_trans bE bZ
 have my:m.le m3:=Mem.le_trans ir cD
 refine⟨fun xs css tvs m' q=>∃(k:Nat)(a:Option Addr)(c:Nat),k≤A.fol.length∧xs=[.int .i64 k]∧css=[[.slice a2 n2 c2,.slice a k c,.slice a3 n3 c3,.slice a4 n4 c4,.bool A.empty]]∧tvs=[.slice a k c]∧M.le m'∧(∃ws,rowRd m' a ws∧ws.length=k∧(k=0→a=none)∧(∀b o,a=some ⟨b,o,none⟩→M.free b)∧∀(i:Nat)(v:Value)(l:List Int),ws[i]?=some v→A.fol[i]?=some l→SlI st l v m'∧NewS m v∧(l≠[]→Zri a v))∧q=A.fol.length - k,
  ⟨_,0,none,0,by omega,rfl,rfl,rfl,Mem.le_refl _,⟨[],.inl rfl,rfl,fun _=>rfl,fun b o e=>(by cases e),fun i v l hv=>by simp at hv⟩,rfl⟩,?_⟩
 rintro z cs a n c m5 q _ ⟨k,a',c',hk,hz,cG,dA,dB,⟨ws,eF,dQ,vD,pV,ko⟩,hq⟩
 obtain rfl:z=k:=by simpa using hz
 obtain rfl:cs=_:=by simpa using cG
 simp only[List.cons.injEq,Value.slice.injEq,and_true]at dA
 obtain⟨rfl,rfl,rfl⟩:=dA
 subst hq
 refine Zab (fun bV=>?_) (fun cM=>?_)
 ·have bF:n < A.fol.length:=by have:=of_decide_eq_true bV;omega
  obtain⟨l,hl⟩:=Zam bF
  obtain⟨u,hu⟩:=Zam (l:=vs) (k:=n) (by omega)
  have vE:=fW n u l hu hl
  obtain⟨fb,fo,gE,eA⟩:=ZbX (hf.mono (Mem.le_trans kQ dB)) hu
  refine⟨fb,fo,gE,⟨by omega,by omega⟩,_,(by rw[Int.toNat_natCast];exact eA),fun _ _ m=>(fun v m' _=>SlI st l v m'∧NewS m v),Zat (v:=.slice a n c) rfl ⟨_,rfl,Zh3 l u m5 (vE.mono (Mem.le_trans kQ dB)),fun v m' css h=>ZbH v m' css h.1,fun a6 n6 c6 m6 gd lx b4 oS=>Zaa rfl ?_⟩⟩
  have lx:SlI st l (.slice a6 n6 c6) m6∧NewS m5 (.slice a6 n6 c6):=lx
  have ij:=Mem.le_add oS [Value.slice a6 n6 c6]
  refine⟨.inl rfl,ws,[.slice a6 n6 c6],by rw[dQ];simp[slN],rfl,(eF.mono gd).mono ij,Zgq,by simp[Value.oneCell'],by show(n+1)*24≤_;omega,by show n+1≤_;omega,fun a7 c7 m7 jC mz rT=>Zaa rfl fun M2 kt ng rS mw=>?_⟩
  have dC:∀b o,a7=some ⟨b,o,none⟩→a=a7∨(m6.add b4 [Value.slice a6 n6 c6]).free b:=fun b o e=>by
   rcases rT.2 with h|⟨b',o',h1,h2⟩
   ·rw[h]at e;cases e
   ·rw[h1]at e;cases e
    exact h2.imp id (·.2)
  refine⟨by trivial,A.fol.length - (n+1),by omega,n+1,a7,c7,by omega,?_,rfl,rfl,Mem.le_trans dB kt,⟨ws++[.slice a6 n6 c6],mz.mono mw,by simp[dQ],fun e=>by omega,fun b o e=>?_,fun i v l' hv hl'=>?_⟩,rfl⟩
  ·rw[Zau (by omega) (by omega)];rfl
  ·rcases dC b o e with h|h
   ·exact pV b o (h.trans e)
   ·exact ZnL (Mem.le_trans dB (Mem.le_trans gd ij)) h
  ·rw[List.getElem?_append]at hv
   split at hv
   ·obtain⟨g1,g2,g3⟩:=ko i v l' hv hl'
    refine⟨g1.mono kt,g2,fun cJ b o o' e e7=>?_⟩
    rcases dC b o' e7 with h|h
    ·exact g3 cJ b o o' e (h.trans e7)
    ·exact Zuj (g1.mono (Mem.le_trans gd ij)) cJ e h
   ·rename_i cM
    have gu:i=n:=by
     have:=(List.getElem?_eq_some_iff.1 hv).1
     simp at this;omega
    subst gu
    rw[dQ,Nat.sub_self]at hv
    obtain rfl:Value.slice a6 n6 c6=v:=by simpa using hv
    obtain rfl:l=l':=by rw[hl]at hl';exact Option.some.inj hl'
    refine⟨lx.1.mono ng,lx.2.less (Mem.le_trans kQ dB),fun cJ b o o' e e7=>?_⟩
    rcases dC b o' e7 with h|h
    ·have vF:i≠0:=fun e0=>by rw[vD e0]at h;rw[←h]at e7;cases e7
     exact Zka eF (fun e0=>vF (by rw[←dQ,e0];rfl)) (h.trans e7) (lx.2 b o e)
    ·exact Zuj (lx.1.mono ij) cJ e h
 ·have:n=A.fol.length:=by have:=of_decide_eq_false cM;omega
  subst this
  exact Zaa rfl ⟨m5,Mem.le_trans kQ dB,Mem.le_refl _,_,_,_,_,rfl,⟨oR.1.mono (Mem.le_trans gq dB),oR.2.less bE⟩,⟨kO.1.mono (Mem.le_trans kq dB),kO.2.less ir⟩,⟨kP.1.mono (Mem.le_trans ly dB),kP.2.less my⟩,a,c,ws,rfl,eF,dQ,gZ,fun cJ b o o' e ea=>Zv0 (oR.1.mono gq) cJ e (pV b o' ea),fun cJ b o o' e ea=>Zuj (kO.1.mono kq) cJ e (pV b o' ea),fun cJ b o o' e ea=>Zuj (kP.1.mono ly) cJ e (pV b o' ea),ko⟩
end Go.Proofs.Ytplacemlpkhmfaa
