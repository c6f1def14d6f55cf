/- Part of the proof: conditions and contracts of functions of this program. No condition of its own. -/
import Derived.Test.YtplacemlpkhmfaaPC17H
import Derived.Test.YtplacemlpkhmfaaMc
import Derived.Test.YtplacemlpkhmfaaMr
import Derived.Test.YtplacemlpkhmfaaPVNB
import Derived.Test.YtplacemlpkhmfaaPVC
set_option linter.unusedVariables false
set_option linter.unusedSimpArgs false
namespace Go.Proofs.Ytplacemlpkhmfaa
open Go Go.Eng Go.Rx Go.Proofs Go.RowKit
set_option maxRecDepth 100000
theorem Zsq{m:Mem}{b o:Nat}{v:Value}{cs:List Value}(h:m.reads b 0 cs)(ho:o < cs.length):(m.upd b o [v]).reads b 0 (Zan cs o [v]):=by
 intro j u hu
 rw[Nat.zero_add]
 simp only[Zan,List.length_singleton]at hu
 simp only[Mem.upd,List.length_singleton,true_and]
 by_cases hj:j < o
 ·rw[if_neg (by omega)]
  rw[List.append_assoc,List.getElem?_append_left (by simp;omega),List.getElem?_take,if_pos hj]at hu
  have:=h j u hu
  rwa [Nat.zero_add]at this
 ·by_cases he:j=o
  ·subst he
   rw[if_pos ⟨Nat.le_refl _,by omega⟩]
   rw[List.append_assoc,List.getElem?_append_right (by simp;omega)]at hu
   simp only[List.length_take,Nat.min_eq_left (Nat.le_of_lt ho),Nat.sub_self]at hu ⊢
   simpa using hu
  ·rw[if_neg (by omega)]
   rw[List.append_assoc,List.getElem?_append_right (by simp;omega),List.length_take,Nat.min_eq_left (Nat.le_of_lt ho)]at hu
   rw[List.getElem?_append_right (by simp;omega),List.length_singleton,List.getElem?_drop]at hu
   have:=h _ u hu
   rwa [Nat.zero_add,show o+1+(j - o - 1)=j by omega]at this
theorem Zvt(f g:Nat)(b n c:Nat)(A B:List Value)(m:Mem)(hr:m.reads b 0 (A++bwL f++B)):
  CXY Try.prog 141 #[.pointer (some ⟨b,A.length,none⟩),bwV g] m (fun k=>k=b) [] [⟨.slice (some ⟨b,0,none⟩) n c,7⟩]
   (fun v m' css tvs=>v=.tuple #[]∧css=[]∧tvs=[.slice (some ⟨b,0,none⟩) n c]∧m'.reads b 0 (A++bwL (f|||g)++B)):=by
 apply Zgb
 unfold Zd2
 intro b1 m1 aZ _ kV _
 have eL:b1≠b:=fun e=>by
  have h1:=hr A.length _ (by rw[show A.length=A.length+0 from rfl,Zn2 (ZhD (f:=f) (j:=0) (by omega))])
  rw[Nat.zero_add]at h1
  rw[e]at kV
  rw[kV]at h1;cases h1
 refine⟨fun xs css tvs m' q=>∃k:Nat,k≤7∧xs=[.int .i64 k]∧m'.reads b 0 (A++orB f g k++B)∧q=7 - k,⟨7,0,by omega,rfl,hr.mono aZ,rfl⟩,?_⟩
 rintro x m2 q _ ⟨k,hk,hx,cO,hq⟩
 obtain rfl:x=k:=by simpa using hx
 refine Zab (fun bK=>?_) (fun cL=>?_)
 ·have aY:k < 7:=by have:=of_decide_eq_true bK;omega
  have h1:=Zs3 (f:=f) (g:=g) (k:=k) aY
  rw[if_neg (by omega)]at h1
  have h2:=ZhD (f:=g) aY
  have h3:=cO _ _ (Zn2 (A:=A) (B:=B) h1)
  rw[Nat.zero_add]at h3
  simp only[Int.toNat_natCast,Nat.zero_add,Nat.mul_one]
  refine⟨⟨by omega,by omega⟩,_,h3,⟨by omega,by omega⟩,Zas h2 (Zaa rfl ⟨⟨by omega,by omega⟩,⟨[.int .u64 (wdN f k:Nat)],rfl,fun j v hv=>?_⟩,fun o=>by simp[Mem.off],by trivial,eL,by trivial,by trivial,7 - (k+1),by omega,k+1,by omega,?_,?_,rfl⟩)⟩
  ·cases j with
   | zero=>simp at hv;subst hv;exact h3
   | succ j=>simp at hv
  ·rw[Zat (by omega) (by omega)];rfl
  ·simp only[intOf]
   rw[ZmX _ _ (ZiW _ _) (ZiW _ _)]
   have h4:=Zsq (v:=.int .u64 ((wdN f k|||wdN g k:Nat):Int)) cO (o:=A.length+k) (by simp[Zn0];omega)
   rw[Ziv (by rw[Zn0];omega),ZqF aY]at h4
   exact h4
 ·have:k=7:=by have:=of_decide_eq_false cL;omega
  subst this
  exact⟨rfl,rfl,rfl,cO⟩
end Go.Proofs.Ytplacemlpkhmfaa
set_option linter.unusedVariables false
set_option linter.unusedSimpArgs false
namespace Go.Proofs.Ytplacemlpkhmfaa
open Go Go.Eng Go.Rx Go.Proofs Go.RowKit
set_option maxRecDepth 100000
theorem Ze7{m:Mem}{v:Value}{k esz:Nat}{cs:List Value}(h:RowOk m v k cs){b:Nat}(hb:(Tok.mk v esz).blk=some b):∃c,v=.slice (some ⟨b,0,none⟩) k c∧m.reads b 0 cs∧k≠0:=by
 rcases h with⟨_,rfl⟩|⟨b',c,rfl,h2,h3⟩
 ·simp[Tok.blk]at hb
 ·simp[Tok.blk]at hb;subst hb;exact⟨c,rfl,h2,h3⟩
theorem ZgU{l:List Nat}(h:l.length≠0):∃n:Nat,(Zdg l)[0]?=some (.int .u64 (n:Int)):=by
 cases l with
 | nil=>simp at h
 | cons f l=>exact⟨wdN f 0,rfl⟩
theorem ZoN{m:Mem}{Y:Nat→Prop}{b o:Nat}{cs:List Value}(h:m.reads b o cs)(hb:¬Y b):(m.off Y).reads b o cs:=fun j v hv=>by
 rw[Mem.off_at hb];exact h j v hv
theorem Zq2(s:Ms)(a b mkb:Nat)(t0a t1a:Option Addr)(t0n t0c t1n t1c:Nat)(m:Mem)(h:MkRow m (.slice t0a t0n t0c) (.slice t1a t1n t1c) s)(bN:s.fol.length≤448)(ha:∀i,a.testBit i=true→i < s.fol.length):
  CXY Try.prog 164 #[.pointer (some ⟨mkb,0,none⟩),bwV a,bwV b] m (Yof (.slice t0a t0n t0c) (.slice t1a t1n t1c)) [⟨mkb,[.slice t0a t0n t0c,.slice t1a t1n t1c],98,2,false,true⟩] [⟨.slice t0a t0n t0c,4⟩,⟨.slice t1a t1n t1c,7⟩]
   (fun v m' css tvs=>v=.tuple #[]∧css=[[.slice t0a t0n t0c,.slice t1a t1n t1c]]∧tvs=[.slice t0a t0n t0c,.slice t1a t1n t1c]∧MkRow m' (.slice t0a t0n t0c) (.slice t1a t1n t1c) ⟨s.sets,ZbZ s.fol a b⟩):=by
 apply Zfm
 unfold ZdC
 intro b0 m1 aZ _ k8 _ b1 m2 bO sQ kV _ b2 m3 bR _ qL _
 have nj:m1.le m3:=Mem.le_trans bO bR
 have sR:m.le m3:=Mem.le_trans aZ nj
 have blk1:∀{k},(Tok.mk (.slice t1a t1n t1c) 7).blk=some k→∃n:Nat,m k 0=some (.int .u64 (n:Int)):=fun {k} hk=>by
  obtain⟨c,_,h2,h3⟩:=Ze7 h.row1 hk
  obtain⟨n,hn⟩:=ZgU h3
  exact⟨n,by have:=h2 0 _ hn;simpa using this⟩
 have mZ:∀k,Yof (.slice t0a t0n t0c) (.slice t1a t1n t1c) k→∀{m':Mem} {b':Nat},m.le m'→m'.free b'→b'≠k:=fun k hk m' b' cP hf e=>by
  subst e
  rcases hk with hk|hk
  ·obtain⟨c,_,h2,h3⟩:=Ze7 h.row0 hk
   have:∃v,(ZbC s.sets)[0]?=some v:=by
    cases hs:(ZbC s.sets)[0]? with
    | some v=>exact⟨v,rfl⟩
    | none=>
     have:=ZeL s.sets
     rw[List.getElem?_eq_none_iff]at hs;omega
   obtain⟨v,hv⟩:=this
   have:=cP _ _ _ (h2 0 v hv)
   rw[hf]at this;cases this
  ·obtain⟨n,hn⟩:=blk1 hk
   have:=cP _ _ _ hn
   rw[hf]at this;cases this
 refine Zaq (Ztc b1 0 m3) (fun v m' _ h=>by obtain⟨c,rfl,_⟩:=h;rfl) fun g fi ca m4 cT hg=>?_
 obtain⟨c,hv,hc⟩:=hg
 simp only[Value.func.injEq,Fn.func.injEq,Array.mk.injEq]at hv
 obtain⟨rfl,rfl,rfl⟩:=hv
 have nk:m.le m4:=Mem.le_trans sR cT
 let Z:Nat→Prop:=fun k=>(Tok.mk (.slice t1a t1n t1c) 7).blk=some k
 have wC:¬Z b1:=fun hz=>mZ b1 (.inr hz) aZ kV rfl
 have wD:¬Z c:=fun hz=>by
  obtain⟨n,hn⟩:=blk1 hz
  have h1:=nk _ _ _ hn
  have h2:=hc 0 _ rfl
  rw[Nat.zero_add]at h2
  rw[h1]at h2;cases h2
 have qC:=ZqZ a b1 0 c (m4.off Z) (ZoN ((sQ.mono bR).mono cT) wC) (ZoN hc wD)
 refine⟨m4.off Z,Mem.off_le m4 Z,_,qC,fun x hx=>?_,fun xs css tvs m' q=>tvs=[.slice t1a t1n t1c]∧q≤(Zcp a).length∧(m4.off Z).le m'∧RowOk m' (.slice t0a t0n t0c) s.sets.length (ZbC s.sets)∧RowOk m' (.slice t1a t1n t1c) s.fol.length (Zdg (Zf0 s.fol ((Zcp a).take q) b)),
  ⟨rfl,Nat.zero_le _,Mem.off_le _ _,h.row0.mono nk,by rw[List.take_zero,Zr2];exact h.row1.mono nk⟩,?_,?_⟩
 ·obtain⟨i,_,rfl⟩:=List.mem_map.1 hx
  rfl
 ·rintro n a' n1 c1 m' q cP hq ⟨dC,pv,_,k9,dX⟩
  obtain⟨rfl,rfl,rfl⟩:a'=t1a∧n1=t1n∧c1=t1c:=by simpa using dC
  have hq':(Zcp a)[q]?.map (fun i=>[Value.int .i64 (i:Nat)])=some [.int .i64 n]:=by rw[←List.getElem?_map];exact hq
  cases hi:(Zcp a)[q]? with
  | none=>rw[hi]at hq';cases hq'
  | some i=>
   rw[hi]at hq'
   obtain rfl:(i:Int)=n:=by simpa using hq'
   have sk:=(List.getElem?_eq_some_iff.1 hi).1
   have pB:i∈Zcp a:=List.mem_of_getElem? hi
   have j4:=ha i (Zkx.1 pB).2
   have pC:i ∉ (Zcp a).take q:=fun hm=>by
    obtain⟨j,hj⟩:=List.getElem?_of_mem hm
    rw[List.getElem?_take]at hj
    split at hj
    ·have hp:=ZhE a
     have h1:=(List.getElem?_eq_some_iff.1 hj)
     have h2:=(List.getElem?_eq_some_iff.1 hi)
     have:=List.pairwise_iff_getElem.1 hp j q h1.1 h2.1 (by assumption)
     rw[h1.2,h2.2]at this;omega
    ·cases hj
   obtain⟨x,hx⟩:∃x,s.fol[i]?=some x:=⟨s.fol[i],by simp[j4]⟩
   have kb:=Zr3 (b:=b) hx pC
   have aY:=(List.getElem?_eq_some_iff.1 kb).1
   have qH:=ZqK kb
   have bV:Zdg (Zf0 s.fol ((Zcp a).take (q+1)) b)=Zdg ((Zf0 s.fol ((Zcp a).take q) b).take i)++bwL (x|||b)++Zdg ((Zf0 s.fol ((Zcp a).take q) b).drop (i+1)):=by
    rw[List.take_add_one,hi]
    show Zdg (Zf0 s.fol ((Zcp a).take q++[i]) b)=_
    rw[ZpA hx pC,Zr1 aY]
   rcases dX with⟨h0,_⟩|⟨bb,c,hv,cO,hk⟩
   ·omega
   ·simp only[Value.slice.injEq]at hv
    obtain⟨rfl,rfl,rfl⟩:=hv
    have hA:(Zdg ((Zf0 s.fol ((Zcp a).take q) b).take i)).length=i*7:=by
     rw[ZhF,List.length_take,Nat.min_eq_left (by omega)]
    rw[qH]at cO
    have iA:=Zvt x b bb s.fol.length c1 (Zdg ((Zf0 s.fol ((Zcp a).take q) b).take i)) (Zdg ((Zf0 s.fol ((Zcp a).take q) b).drop (i+1))) m' cO
    rw[hA]at iA
    simp only[Nat.zero_add,Int.toNat_natCast]
    refine⟨fun _ _ _ _ _ _=>True,by trivial,Zas (v:=.slice (some ⟨bb,0,none⟩) s.fol.length c1) rfl (Zaa rfl ⟨bb,0,rfl,⟨by omega,by show(i:Int) < (s.fol.length:Nat);omega⟩,(fun k=>k=bb),_,(by rw[Nat.zero_add];exact iA),?_,?_,?_,?_⟩)⟩
    ·intro t ht k hk
     obtain rfl:=List.mem_singleton.1 ht
     simp[Tok.blk]at hk;exact hk.symm
    ·intro k hk
     refine .inl ⟨_,List.mem_singleton.2 rfl,?_⟩
     rw[hk];rfl
    ·rintro v _ _ _ ⟨rfl,_⟩;rfl
    ·rintro m5 cV xI a5 c5 d5 ⟨_,_,sS,sT⟩
     have keep:∀k o v,k≠bb→m' k o=some v→m5 k o=some v:=fun k o v hk hv=>cV k o v (by rw[Mem.off_at (Y:=fun k=>k=bb) hk];exact hv)
     have lF:(m4.off Z).le m5:=fun k o v hv=>by
      by_cases hk:k=bb
      ·subst hk
       unfold Mem.off at hv
       rw[if_pos (show Z k by rfl)]at hv;cases hv
      ·exact keep k o v hk (cP k o v hv)
     refine⟨lF,by trivial,by trivial,sS,by omega,lF,?_,.inr ⟨bb,c1,rfl,by rw[bV];exact sT,hk⟩⟩
     rcases k9 with h0|⟨b6,c6,h6,h7,h8⟩
     ·exact .inl h0
     ·refine .inr ⟨b6,c6,h6,fun j v hv=>?_,h8⟩
      refine keep _ _ _ (fun e=>?_) (h7 j v hv)
      subst e
      exact h.ne b6 (by rw[h6];rfl) rfl
 ·rintro a' n1 c1 m' cP ⟨dC,_,_,k9,dX⟩
  obtain⟨rfl,rfl,rfl⟩:a'=t1a∧n1=t1n∧c1=t1c:=by simpa using dC
  refine⟨by trivial,rfl,rfl,rfl,k9,?_,h.ne⟩
  have e:Zf0 s.fol ((Zcp a).take ((Zcp a).map fun i=>[Value.int .i64 (i:Nat)]).length) b=ZbZ s.fol a b:=by
   rw[List.length_map,List.take_length]
   exact Zr4 fun i hi=>by rw[Zkx];exact⟨fun h=>h.2,fun h=>⟨by omega,h⟩⟩
  rw[e]at dX
  show RowOk m' _ (ZbZ s.fol a b).length _
  rw[Zkz];exact dX
end Go.Proofs.Ytplacemlpkhmfaa
set_option linter.unusedVariables false
set_option linter.unusedSimpArgs false
namespace Go.Proofs.Ytplacemlpkhmfaa
open Go Go.Eng Go.Rx Go.Proofs Go.RowKit
set_option maxRecDepth 100000
def Zsr(t0 t1:Value)(s:Ms)(v:Value)(w:Value)(m':Mem)(css:List (List Value))(tvs:List Value):Prop:=w=v∧css=[[t0,t1]]∧tvs=[t0,t1]∧MkRow m' t0 t1 s
theorem Zfv(s:Ms)(p q:Pt)(mkb:Nat)(t0a t1a:Option Addr)(t0n t0c t1n t1c:Nat)(m:Mem)(h:MkRow m (.slice t0a t0n t0c) (.slice t1a t1n t1c) s)(bN:s.fol.length≤448)(ha:∀i,p.last.testBit i=true→i < s.fol.length):
  CXY Try.prog 139 #[.pointer (some ⟨mkb,0,none⟩),p.v,q.v] m (Yof (.slice t0a t0n t0c) (.slice t1a t1n t1c)) [⟨mkb,[.slice t0a t0n t0c,.slice t1a t1n t1c],98,2,false,true⟩] [⟨.slice t0a t0n t0c,4⟩,⟨.slice t1a t1n t1c,7⟩]
   (Zsr (.slice t0a t0n t0c) (.slice t1a t1n t1c) ⟨s.sets,ZbZ s.fol p.last q.first⟩ (ZmQ p q).v):=by
 apply Zfn
 unfold ZdD
 intro b0 m1 aZ _ k8 _ b1 m2 bO _ kV _ b2
 have h2:=h.mono (Mem.le_trans aZ bO)
 refine⟨_,_,Zq2 s p.last q.first mkb t0a t1a t0n t0c t1n t1c m2 h2 bN ha,fun t ht k hk=>?_,fun k hk=>.inl ?_,?_,?_⟩
 ·simp only[List.mem_cons,List.not_mem_nil,or_false]at ht
  rcases ht with rfl|rfl
  ·exact .inl hk
  ·exact .inr hk
 ·rcases hk with hk|hk
  ·exact⟨_,by simp,hk⟩
  ·exact⟨_,by simp,hk⟩
 ·rintro v _ _ _ ⟨rfl,_⟩;rfl
 ·rintro m3 _ _ cs a c d a1 c1 d1 ⟨_,bT,dC,bU⟩
  obtain rfl:cs=[.slice t0a t0n t0c,.slice t1a t1n t1c]:=by simpa using bT
  simp only[List.cons.injEq,Value.slice.injEq,and_true]at dC
  obtain⟨⟨rfl,rfl,rfl⟩,rfl,rfl,rfl⟩:=dC
  obtain⟨pf,pl,pn⟩:=p
  obtain⟨qf,ql,qn⟩:=q
  have fin:∀{r:Pt} {cs:List Value} {m4:Mem},m3.le m4→cs=r.cs→r=ZmQ ⟨pf,pl,pn⟩ ⟨qf,ql,qn⟩→Zsr (.slice a c d) (.slice a1 c1 d1) ⟨s.sets,ZbZ s.fol pl qf⟩ (ZmQ ⟨pf,pl,pn⟩ ⟨qf,ql,qn⟩).v (.agg cs.toArray) m4 [[.slice a c d,.slice a1 c1 d1]] [.slice a c d,.slice a1 c1 d1]:=fun hm hc hr=>⟨by rw[hc,←hr,Pt.v_cs],rfl,rfl,bU.mono hm⟩
  cases pn <;> cases qn
  ·intro b
   exact⟨rfl,fin (r:=⟨pf,ql,false⟩) (Mem.le_refl _) rfl rfl⟩
  ·intro b
   refine⟨_,trivial,Zow ql pl b 102 15 (bwL pf) [Value.bool false] m3 (by omega),fun v _ _ h=>by rw[h.1];rfl,fun m4 cT cs1 jn=>?_⟩
   obtain rfl:cs1=_:=by simpa using jn.2
   exact Zaa rfl ⟨rfl,fin (r:=⟨pf,ql|||pl,false⟩) cT rfl rfl⟩
  ·intro b
   refine⟨_,trivial,Zow pf qf b 102 15 [] (bwL ql++[Value.bool false]) m3 (by omega),fun v _ _ h=>by rw[h.1];rfl,fun m4 cT cs1 jn=>?_⟩
   obtain rfl:cs1=_:=by simpa using jn.2
   exact Zaa rfl ⟨rfl,fin (r:=⟨pf|||qf,ql,false⟩) cT rfl rfl⟩
  ·intro b
   refine⟨_,trivial,Zow pf qf b 102 15 [] (bwL ql++[Value.bool true]) m3 (by omega),fun v _ _ h=>by rw[h.1];rfl,fun m4 cT cs1 jn=>?_⟩
   obtain rfl:cs1=_:=by simpa using jn.2
   refine⟨_,trivial,Zow ql pl b 102 15 (bwL (pf|||qf)) [Value.bool true] m4 (by omega),fun v _ _ h=>by rw[h.1];rfl,fun m5 cV cs2 kD=>?_⟩
   obtain rfl:cs2=_:=by simpa using kD.2
   exact Zaa rfl ⟨rfl,fin (r:=⟨pf|||qf,ql|||pl,true⟩) (Mem.le_trans cT cV) rfl rfl⟩
end Go.Proofs.Ytplacemlpkhmfaa
set_option linter.unusedVariables false
set_option linter.unusedSimpArgs false
namespace Go.Proofs.Ytplacemlpkhmfaa
open Go Go.Eng Go.Rx Go.Proofs Go.RowKit
set_option maxRecDepth 100000
def MkR(t0 t1:Value)(m:Mem)(r:Pt×Ms)(w:Value)(m':Mem)(css:List (List Value))(tvs:List Value):Prop:=
 ∃a n c a1 n1 c1,w=r.1.v∧css=[[.slice a n c,.slice a1 n1 c1]]∧tvs=[.slice a n c,.slice a1 n1 c1]∧MkRow m' (.slice a n c) (.slice a1 n1 c1) r.2∧∀b,Yof (.slice a n c) (.slice a1 n1 c1) b→Yof t0 t1 b∨m.free b
theorem Zk3{m:Mem}{a:Option Addr}{n c k:Nat}{cs:List Value}(h:RowOk m (.slice a n c) k cs)(hc:k=0→cs=[]):n=k∧rowRd m a cs∧(a=none∨∃b,a=some ⟨b,0,none⟩):=by
 rcases h with⟨h1,h2⟩|⟨b,c',h1,h2,h3⟩
 ·simp only[Value.slice.injEq]at h2
  exact⟨by omega,.inl (hc h1),.inl h2.1⟩
 ·simp only[Value.slice.injEq]at h1
  exact⟨h1.2.1,.inr ⟨b,0,h1.1,h2⟩,.inr ⟨b,h1.1⟩⟩
theorem Zq3{m m':Mem}(h:m.le m'){b:Nat}(hf:m'.free b):m.free b:=fun o=>by
 cases he:m b o with
 | none=>rfl
 | some v=>have:=h _ _ _ he;rw[hf o]at this;cases this
theorem Ztg{m m2:Mem}{a a':Option Addr}{k c':Nat}{cs ds:List Value}(hd:ds≠[])(ha:a=none∨∃b,a=some ⟨b,0,none⟩)(hr:rowRd m2 a' (cs++ds))(hf:TokFact m a a' (k+1) c'):RowOk m2 (.slice a' (k+1) c') (k+1) (cs++ds)∧∀b esz,(Tok.mk (.slice a' (k+1) c') esz).blk=some b→(∀n0 c0 e0,(Tok.mk (.slice a n0 c0) e0).blk=some b)∨m.free b:=by
 have cM:cs++ds≠[]:=by simp[hd]
 replace hf:=hf.old (fun b o e=>by
  rcases ha with h|⟨b',h⟩
  ·rw[h]at e;cases e
  ·rw[h]at e;cases e;rfl)
 rcases hr with h|⟨b,o,h1,h2⟩
 ·exact absurd h cM
 ·rcases hf.2 with h|⟨b',h3,h4⟩
  ·rw[h]at h1;cases h1
  ·rw[h3]at h1
   simp only[Option.some.injEq,Addr.mk.injEq,and_true]at h1
   obtain⟨rfl,rfl⟩:=h1
   refine⟨.inr ⟨b',c',by rw[h3],h2,by omega⟩,fun b esz hb=>?_⟩
   subst h3
   simp[Tok.blk]at hb
   subst hb
   rcases h4 with h4|h4
   ·exact .inl fun _ _ _=>by rw[h4];rfl
   ·exact .inr h4
theorem Zvu(t:T)(s:Ms)(c0b mkb:Nat)(t0a t1a:Option Addr)(t0n t0c t1n t1c:Nat)(m:Mem)(h:MkRow m (.slice t0a t0n t0c) (.slice t1a t1n t1c) s)(ni:s.sets.length < 448)(kv:s.fol.length=s.sets.length)(ma:m c0b 0=some (.pointer (some ⟨mkb,0,none⟩))):
  CXY Try.prog 137 #[t.v,.pointer (some ⟨c0b,0,none⟩)] m (Yof (.slice t0a t0n t0c) (.slice t1a t1n t1c)) [⟨mkb,[.slice t0a t0n t0c,.slice t1a t1n t1c],98,2,false,true⟩] [⟨.slice t0a t0n t0c,4⟩,⟨.slice t1a t1n t1c,7⟩]
   (MkR (.slice t0a t0n t0c) (.slice t1a t1n t1c) m (⟨2 ^ s.sets.length,2 ^ s.sets.length,false⟩,⟨s.sets++[(t.s0,t.s1,t.s2,t.s3)],s.fol++[0]⟩)):=by
 apply ZdS
 unfold Zcy
 obtain⟨rfl,k9,mB⟩:=Zk3 h.row0 (fun e=>by rw[List.eq_nil_of_length_eq_zero e];rfl)
 obtain⟨rfl,dX,jv⟩:=Zk3 h.row1 (fun e=>by rw[List.eq_nil_of_length_eq_zero e];rfl)
 intro b0 m1 aZ _ k8 _ bA bB
 have hp:=aZ _ _ _ ma
 refine⟨_,hp,Zaa rfl (Zaa rfl ⟨rfl,Zas (v:=.slice t0a s.sets.length t0c) rfl (Zaa rfl ⟨_,hp,_,hp,_,hp,Zaa rfl (Zaa rfl ⟨rfl,Zas (v:=.slice t0a s.sets.length t0c) rfl ?_⟩)⟩)⟩)⟩
 intro b1 kV
 have kt:=Mem.le_add kV [Value.int .u64 t.s0,.int .u64 t.s1,.int .u64 t.s2,.int .u64 t.s3]
 refine Zaa rfl ⟨.inl rfl,ZbC s.sets,[.int .u64 t.s0,.int .u64 t.s1,.int .u64 t.s2,.int .u64 t.s3],by rw[ZeL];rfl,rfl,(k9.mono aZ).mono kt,.inr ⟨b1,0,rfl,fun j v hv=>by rw[Mem.add_same];simpa using hv⟩,fun u hu=>?_,by show(s.sets.length+1)*32≤_;omega,by show s.sets.length+1≤_;omega,?_⟩
 ·simp only[List.mem_cons,List.not_mem_nil,or_false]at hu
  rcases hu with rfl|rfl|rfl|rfl <;> rfl
 intro a2 c2 m2 bO eK qL
 obtain⟨i5,md⟩:=Ztg (by simp) mB eK qL
 refine⟨_,hp,Zaa rfl (Zaa rfl ⟨rfl,Zas (v:=.slice t1a s.fol.length t1c) rfl ?_⟩)⟩
 intro b2 xJ V uM wE wF
 refine Zaa rfl ⟨.inl rfl,Zdg s.fol,bwL 0,by rw[ZhF];rfl,rfl,(dX.mono aZ).mono uM,.inr ⟨b2,0,rfl,fun j v hv=>wF _ _ _ (by rw[Mem.add_same];rw[ZjE]at hv;simpa using hv)⟩,fun u hu=>?_,by show(s.fol.length+1)*56≤_;omega,by show s.fol.length+1≤_;omega,?_⟩
 ·rw[ZjE]at hu
  simp only[List.mem_cons,List.not_mem_nil,or_false]at hu
  rcases hu with rfl|rfl|rfl|rfl|rfl|rfl|rfl <;> rfl
 intro a3 c3 m3 bR hU wG
 obtain⟨i6,me⟩:=Ztg (by rw[ZjE];simp) jv hU wG
 refine Zaa rfl (Zaa rfl ⟨rfl,by show(0+0+1≤1+1);omega,Zaa rfl (Zaa rfl ⟨rfl,by show(0+1+1≤2);omega,?_⟩)⟩)
 intro M fK _ eQ _ jo
 refine⟨_,trivial,ZjQ 0 s.sets.length ni bB 102 15 [] (bwL 0++[Value.bool false]) M (by omega),fun v _ _ h=>by rw[h.1];rfl,fun m5 cV cs5 jp=>?_⟩
 obtain rfl:cs5=_:=by simpa using jp.2
 refine⟨_,trivial,ZjQ 0 s.sets.length ni bB 102 15 (bwL (2 ^ s.sets.length)) [Value.bool false] m5 (by omega),fun v _ _ h=>by rw[h.1];rfl,fun m6 eJ cs6 sU=>?_⟩
 obtain rfl:cs6=_:=by simpa using sU.2
 have jT:M.le m6:=Mem.le_trans cV eJ
 refine Zaa rfl ⟨rfl,_,_,_,_,_,_,?_,rfl,rfl,⟨?_,?_,?_⟩,?_⟩
 ·rfl
 ·show RowOk m6 _ (s.sets++_).length (ZbC (s.sets++_))
  rw[ZrZ,List.length_append]
  exact i5.mono (Mem.le_trans eQ jT)
 ·show RowOk m6 _ (s.fol++_).length (Zdg (s.fol++_))
  rw[Zr0,List.length_append]
  exact i6.mono (Mem.le_trans jo jT)
 ·intro b hb hb'
  rcases me b 7 hb' with h1|h1
  ·rcases md b 4 hb with h2|h2
   ·exact h.ne b (h2 _ _ _) (h1 _ _ _)
   ·obtain⟨_,_,q1,q2⟩:=Ze7 h.row1 (h1 _ _ 7)
    obtain⟨n,hn⟩:=ZgU q2
    have:=aZ _ _ _ (q1 0 _ hn)
    have:=kt _ _ _ this
    rw[h2]at this;cases this
  ·obtain⟨_,_,q1,q2⟩:=Ze7 i5 hb
   have:=wE _ _ _ (q1 0 _ (List.getElem?_eq_getElem (by simp)))
   rw[h1]at this;cases this
 ·intro b hb
  rcases hb with hb|hb
  ·rcases md b 4 hb with h2|h2
   ·exact .inl (.inl (h2 _ _ _))
   ·exact .inr (Zq3 (Mem.le_trans aZ kt) h2)
  ·rcases me b 7 hb with h2|h2
   ·exact .inl (.inr (h2 _ _ _))
   ·exact .inr (Zq3 (Mem.le_trans aZ uM) h2)
end Go.Proofs.Ytplacemlpkhmfaa
set_option linter.unusedVariables false
set_option linter.unusedSimpArgs false
namespace Go.Proofs.Ytplacemlpkhmfaa
open Go Go.Eng Go.Rx Go.Proofs Go.RowKit
set_option maxRecDepth 100000
theorem Zq4{m m':Mem}(Y:Nat→Prop)(h:m.le m'):(m.off Y).le (m'.off Y):=fun b o v hv=>by
 unfold Mem.off at hv ⊢
 split at hv
 ·cases hv
 ·rename_i hY;rw[if_neg hY];exact h _ _ _ hv
theorem Zvv{m:Mem}{Y:Nat→Prop}{b:Nat}(h:m.free b):(m.off Y).free b:=fun o=>by
 unfold Mem.off;split
 ·rfl
 ·exact h o
structure MkSt (m:Mem)(v0 v1:Value)(m':Mem)(v0' v1':Value)(s':Ms):Prop where
 row:MkRow m' v0' v1' s'
 base:(m.off (Yof v0 v1)).le (m'.off (Yof v0' v1'))
 new:∀b,Yof v0' v1' b→Yof v0 v1 b∨m.free b
 ok:MsOk s'
theorem MkSt.step{m m' m'':Mem}{v0 v1 v0' v1' v0'' v1'':Value}{s' s'':Ms}(h:MkSt m v0 v1 m' v0' v1' s')(cP:(m'.off (Yof v0' v1')).le m'')(hr:MkRow m'' v0'' v1'' s'')(hn:∀b,Yof v0'' v1'' b→Yof v0' v1' b∨m'.free b)(hs:MsOk s''):MkSt m v0 v1 m'' v0'' v1'' s'':=by
 refine⟨hr,Mem.le_trans h.base (Zn8 cP hn),fun b hb=>?_,hs⟩
 rcases hn b hb with h1|h1
 ·exact h.new b h1
 ·by_cases hY:Yof v0 v1 b
  ·exact .inl hY
  ·refine .inr fun o=>?_
   have h2:=Zq3 h.base (b:=b) (Zvv h1) o
   rwa [Mem.off_at hY]at h2
theorem MkSt.mono{m m' m'':Mem}{v0 v1 v0' v1':Value}{s':Ms}(h:MkSt m v0 v1 m' v0' v1' s')(hm:m'.le m''):MkSt m v0 v1 m'' v0' v1' s':=
 ⟨h.row.mono hm,Mem.le_trans h.base (Zq4 _ hm),h.new,h.ok⟩
theorem MkSt.refl{m m':Mem}{v0 v1:Value}{s:Ms}(h:MkRow m v0 v1 s)(hs:MsOk s)(hm:m.le m'):MkSt m v0 v1 m' v0 v1 s:=
 ⟨h.mono hm,Zq4 _ hm,fun b hb=>.inl hb,hs⟩
theorem lentC{P:Program}{g:FuncId}{args:Array Value}{m:Mem}{v0 v1:Value}{xs:List Box}{R0:Value→Mem→List (List Value)→List Value→Prop}{Q:Nat→Prop}{F:Shape}{K:(Nat→Prop)→(Value→Mem→List (List Value)→List Value→Prop)→Prop}(h:CXY P g args m (Yof v0 v1) xs [⟨v0,4⟩,⟨v1,7⟩] R0)(hf:∀v m' css tvs,R0 v m' css tvs→Shape.fits F v=true)(k:K (Yof v0 v1) R0):
  ∃(Y1:Nat→Prop) (R:Value→Mem→List (List Value)→List Value→Prop),CXY P g args m Y1 xs [⟨v0,4⟩,⟨v1,7⟩] R∧(∀t:Tok,t∈[Tok.mk v0 4,Tok.mk v1 7]→∀b,t.blk=some b→Y1 b)∧(∀b,Y1 b→(∃t:Tok,t∈[Tok.mk v0 4,Tok.mk v1 7]∧t.blk=some b)∨Q b)∧(∀v m' css tvs,R v m' css tvs→Shape.fits F v=true)∧K Y1 R:=by
 refine⟨_,_,h,fun t ht b hb=>?_,fun b hb=>.inl ?_,hf,k⟩
 ·simp only[List.mem_cons,List.not_mem_nil,or_false]at ht
  rcases ht with rfl|rfl
  ·exact .inl hb
  ·exact .inr hb
 ·rcases hb with hb|hb
  ·exact⟨_,by simp,hb⟩
  ·exact⟨_,by simp,hb⟩
abbrev Zw3:=Int→Int→Int→Int→Int→Int→Int→Int→Int→Int→Int→Int→Int→Int→Bool→Mem→List Value→Option Addr→Nat→Nat→Option Addr→Nat→Nat→Prop
theorem Zcq{t0 t1:Value}{m:Mem}{r:Pt×Ms}:∀v m' css tvs,MkR t0 t1 m r v m' css tvs→Shape.fits (.agg [.int .u64,.int .u64,.int .u64,.int .u64,.int .u64,.int .u64,.int .u64,.int .u64,.int .u64,.int .u64,.int .u64,.int .u64,.int .u64,.int .u64,.bool]) v=true:=by
 rintro v m' css tvs ⟨a,n,c,a1,n1,c1,rfl,_⟩;rfl
theorem ZdW{t0 t1:Value}{s:Ms}{p:Pt}:∀v m' css tvs,Zsr t0 t1 s p.v v m' css tvs→Shape.fits (.agg [.int .u64,.int .u64,.int .u64,.int .u64,.int .u64,.int .u64,.int .u64,.int .u64,.int .u64,.int .u64,.int .u64,.int .u64,.int .u64,.int .u64,.bool]) v=true:=by
 rintro v m' css tvs ⟨rfl,_⟩;rfl
theorem Zgf{m0 mm:Mem}{w0 w1 v0 v1:Value}{s:Ms}{r:Pt×Ms}{K:Zw3}(bV:MkSt m0 w0 w1 mm v0 v1 s)(gJ:MsOk r.2)
  (k:∀(m':Mem)(a:Option Addr)(n c:Nat)(a1:Option Addr)(n1 c1:Nat),MkSt m0 w0 w1 m' (.slice a n c) (.slice a1 n1 c1) r.2→K (wdN r.1.first 0:Nat) (wdN r.1.first 1:Nat) (wdN r.1.first 2:Nat) (wdN r.1.first 3:Nat) (wdN r.1.first 4:Nat) (wdN r.1.first 5:Nat) (wdN r.1.first 6:Nat) (wdN r.1.last 0:Nat) (wdN r.1.last 1:Nat) (wdN r.1.last 2:Nat) (wdN r.1.last 3:Nat) (wdN r.1.last 4:Nat) (wdN r.1.last 5:Nat) (wdN r.1.last 6:Nat) r.1.null m' [.slice a n c,.slice a1 n1 c1] a n c a1 n1 c1):
  ∀(n0 n1 n2 n3 n4 n5 n6 n7 n8 n9 n10 n11 n12 n13:Int)(b:Bool)(m':Mem),(mm.off (Yof v0 v1)).le m'→(∀(b o:Nat)(u:Value),m' b o=some u→mm b o=some u∨Yof v0 v1 b∨mm.free b)→∀(cs:List Value)(a:Option Addr)(c d:Nat)(a1:Option Addr)(c1 d1:Nat),
   MkR v0 v1 mm r (.agg #[.int .u64 n0,.int .u64 n1,.int .u64 n2,.int .u64 n3,.int .u64 n4,.int .u64 n5,.int .u64 n6,.int .u64 n7,.int .u64 n8,.int .u64 n9,.int .u64 n10,.int .u64 n11,.int .u64 n12,.int .u64 n13,.bool b]) m' [cs] [.slice a c d,.slice a1 c1 d1]→K n0 n1 n2 n3 n4 n5 n6 n7 n8 n9 n10 n11 n12 n13 b m' cs a c d a1 c1 d1:=by
 rintro n0 n1 n2 n3 n4 n5 n6 n7 n8 n9 n10 n11 n12 n13 b m' cP _ cs a c d a1 c1 d1 ⟨a',n',c',a1',n1',c1',hv,bT,dC,bU,dN⟩
 obtain rfl:cs=[.slice a' n' c',.slice a1' n1' c1']:=by simpa using bT
 simp only[List.cons.injEq,Value.slice.injEq,and_true]at dC
 obtain⟨⟨rfl,rfl,rfl⟩,rfl,rfl,rfl⟩:=dC
 simp only[Pt.v,Value.agg.injEq,Array.mk.injEq,List.cons.injEq,Value.int.injEq,Value.bool.injEq,true_and,and_true]at hv
 obtain⟨rfl,rfl,rfl,rfl,rfl,rfl,rfl,rfl,rfl,rfl,rfl,rfl,rfl,rfl,rfl⟩:=hv
 exact k _ _ _ _ _ _ _ (bV.step cP bU dN gJ)
theorem ZmH{m0 mm:Mem}{w0 w1 v0 v1:Value}{s s2:Ms}{p:Pt}{K:Zw3}(bV:MkSt m0 w0 w1 mm v0 v1 s)(gJ:MsOk s2)
  (k:∀(m':Mem)(a:Option Addr)(n c:Nat)(a1:Option Addr)(n1 c1:Nat),MkSt m0 w0 w1 m' (.slice a n c) (.slice a1 n1 c1) s2→K (wdN p.first 0:Nat) (wdN p.first 1:Nat) (wdN p.first 2:Nat) (wdN p.first 3:Nat) (wdN p.first 4:Nat) (wdN p.first 5:Nat) (wdN p.first 6:Nat) (wdN p.last 0:Nat) (wdN p.last 1:Nat) (wdN p.last 2:Nat) (wdN p.last 3:Nat) (wdN p.last 4:Nat) (wdN p.last 5:Nat) (wdN p.last 6:Nat) p.null m' [.slice a n c,.slice a1 n1 c1] a n c a1 n1 c1):
  ∀(n0 n1 n2 n3 n4 n5 n6 n7 n8 n9 n10 n11 n12 n13:Int)(b:Bool)(m':Mem),(mm.off (Yof v0 v1)).le m'→(∀(b o:Nat)(u:Value),m' b o=some u→mm b o=some u∨Yof v0 v1 b∨mm.free b)→∀(cs:List Value)(a:Option Addr)(c d:Nat)(a1:Option Addr)(c1 d1:Nat),
   Zsr v0 v1 s2 p.v (.agg #[.int .u64 n0,.int .u64 n1,.int .u64 n2,.int .u64 n3,.int .u64 n4,.int .u64 n5,.int .u64 n6,.int .u64 n7,.int .u64 n8,.int .u64 n9,.int .u64 n10,.int .u64 n11,.int .u64 n12,.int .u64 n13,.bool b]) m' [cs] [.slice a c d,.slice a1 c1 d1]→K n0 n1 n2 n3 n4 n5 n6 n7 n8 n9 n10 n11 n12 n13 b m' cs a c d a1 c1 d1:=by
 rintro n0 n1 n2 n3 n4 n5 n6 n7 n8 n9 n10 n11 n12 n13 b m' cP _ cs a c d a1 c1 d1 ⟨hv,bT,dC,bU⟩
 simp only[List.cons.injEq,and_true]at dC
 obtain⟨rfl,rfl⟩:=dC
 obtain rfl:cs=[.slice a c d,.slice a1 c1 d1]:=by simpa using bT
 simp only[Pt.v,Value.agg.injEq,Array.mk.injEq,List.cons.injEq,Value.int.injEq,Value.bool.injEq,true_and,and_true]at hv
 obtain⟨rfl,rfl,rfl,rfl,rfl,rfl,rfl,rfl,rfl,rfl,rfl,rfl,rfl,rfl,rfl⟩:=hv
 exact k _ _ _ _ _ _ _ (bV.step cP bU (fun b hb=>.inl hb) gJ)
def MkC(t:T):Prop:=∀(s:Ms)(mkb:Nat)(t0a t1a:Option Addr)(t0n t0c t1n t1c:Nat)(m:Mem),MkRow m (.slice t0a t0n t0c) (.slice t1a t1n t1c) s→MsOk s→Rep (m.off (Yof (.slice t0a t0n t0c) (.slice t1a t1n t1c))) t→(mk t s).2.sets.length≤448→
 CXY Try.prog 61 #[.pointer (some ⟨mkb,0,none⟩),t.v] m (Yof (.slice t0a t0n t0c) (.slice t1a t1n t1c)) [⟨mkb,[.slice t0a t0n t0c,.slice t1a t1n t1c],98,2,false,true⟩] [⟨.slice t0a t0n t0c,4⟩,⟨.slice t1a t1n t1c,7⟩] (MkR (.slice t0a t0n t0c) (.slice t1a t1n t1c) m (mk t s))
theorem MkSt.out{m m':Mem}{v0 v1:Value}{s':Ms}{a:Option Addr}{n c:Nat}{a1:Option Addr}{n1 c1:Nat}{r:Pt×Ms}{w:Value}(h:MkSt m v0 v1 m' (.slice a n c) (.slice a1 n1 c1) s')(hw:w=r.1.v)(hs:s'=r.2):MkR v0 v1 m r w m' [[.slice a n c,.slice a1 n1 c1]] [.slice a n c,.slice a1 n1 c1]:=
 ⟨a,n,c,a1,n1,c1,hw,rfl,rfl,hs ▸ h.row,h.new⟩
theorem Zvw(t:T)(ih:∀x∈t.subs,MkC x)(s:Ms)(c0b mkb:Nat)(t0a t1a:Option Addr)(t0n t0c t1n t1c:Nat)(m:Mem)(h:MkRow m (.slice t0a t0n t0c) (.slice t1a t1n t1c) s)(hs:MsOk s)(hr:Rep (m.off (Yof (.slice t0a t0n t0c) (.slice t1a t1n t1c))) t)(ma:(m.off (Yof (.slice t0a t0n t0c) (.slice t1a t1n t1c))) c0b 0=some (.pointer (some ⟨mkb,0,none⟩)))(hN:(Zha t.subs ⟨0,0,true⟩ s).2.sets.length≤448):
  CXY Try.prog 138 #[t.v,.pointer (some ⟨c0b,0,none⟩)] m (Yof (.slice t0a t0n t0c) (.slice t1a t1n t1c)) [⟨mkb,[.slice t0a t0n t0c,.slice t1a t1n t1c],98,2,false,true⟩] [⟨.slice t0a t0n t0c,4⟩,⟨.slice t1a t1n t1c,7⟩]
   (MkR (.slice t0a t0n t0c) (.slice t1a t1n t1c) m (Zha t.subs ⟨0,0,true⟩ s)):=by
 apply ZdT
 unfold Zcz
 intro b0 m1 aZ _ k8 jv b1 b2
 have bN:=(Zdw hr).1
 refine⟨fun xs css tvs m' q=>∃(k:Nat)(out:Pt)(s':Ms)(a:Option Addr)(n c:Nat)(a1:Option Addr)(n1 c1:Nat),k≤t.subs.length∧xs=[.int .i64 k]∧css=[out.cs,[.slice a n c,.slice a1 n1 c1]]∧tvs=[.slice a n c,.slice a1 n1 c1]∧q=t.subs.length - k∧MkSt m (.slice t0a t0n t0c) (.slice t1a t1n t1c) m' (.slice a n c) (.slice a1 n1 c1) s'∧PtIn s'.sets.length out∧Zha (t.subs.drop k) out s'=Zha t.subs ⟨0,0,true⟩ s,
  ⟨_,0,⟨0,0,true⟩,s,t0a,t0n,t0c,t1a,t1n,t1c,Nat.zero_le _,rfl,rfl,rfl,rfl,MkSt.refl h hs aZ,ZbR _ _,rfl⟩,?_⟩
 rintro x cs cs1 a n c a1 n1 c1 m2 q _ ⟨k,out,s',a',n',c',a1',n1',c1',hk,hx,bT,dC,hq,bV,mf,heq⟩
 obtain rfl:x=k:=by simpa using hx
 simp only[List.cons.injEq,and_true]at bT
 obtain⟨rfl,rfl⟩:=bT
 simp only[List.cons.injEq,Value.slice.injEq,and_true]at dC
 obtain⟨⟨rfl,rfl,rfl⟩,rfl,rfl,rfl⟩:=dC
 subst hq
 refine Zab (fun bK=>?_) (fun cL=>?_)
 ·have aY:k < t.subs.length:=by have:=of_decide_eq_true bK;omega
  obtain⟨y,hy⟩:∃y,t.subs[k]?=some y:=⟨t.subs[k],by simp[aY]⟩
  rcases(Zdw hr).2 with he|⟨bt,ot,gw,nm⟩
  ·rw[he]at aY;simp at aY
  obtain⟨cO,mg⟩:=nm.get hy
  have eK:=(cO.mono bV.base).mono (Mem.off_le m2 _)
  have eV:=ZpB hy out s'
  have fN:=Zem y s' bV.ok
  have pD:=ZeM fN.ok (mf.mono fN.le) fN.pt
  have ii:=ZeN (t.subs.drop (k+1)) _ _ pD.ok pD.pt
  rw[←eV,heq]at ii
  have j5:(mk y s').2.sets.length≤448:=Nat.le_trans pD.le (Nat.le_trans ii.le hN)
  refine⟨bt,ot,gw,⟨by omega,by omega⟩,_,_,_,_,_,_,_,_,(by rw[Int.toNat_natCast];exact eK),fun b3=>Zaa rfl ⟨_,ma,_,ma,?_⟩⟩
  refine lentC (ih y (List.mem_of_getElem? hy) s' mkb _ _ _ _ _ _ m2 bV.row bV.ok (Rep.mono bV.base y mg) j5) Zcq (Zgf bV fN.ok fun m3 a3 n3 c3 a4 n4 c4 cZ=>?_)
  refine lentC (Zfv (mk y s').2 out (mk y s').1 mkb _ _ _ _ _ _ m3 cZ.row (by rw[fN.ok.len];exact j5) (fun i hi=>by rw[fN.ok.len];exact(mf.mono fN.le).2 i hi)) ZdW (ZmH cZ pD.ok fun m5 a5 n5 c5 a6 n6 c6 fY=>?_)
  refine⟨rfl,rfl,_,?_,k+1,(Zcd out (mk y s').1 (mk y s').2).1,_,_,_,_,_,_,_,aY,?_,rfl,rfl,rfl,fY,pD.pt,?_⟩
  ·omega
  ·rw[Zat (by omega) (by omega)];rfl
  ·exact eV.symm.trans heq
 ·have hk':k=t.subs.length:=by have:=of_decide_eq_false cL;omega
  subst hk'
  rw[List.drop_length,Zha]at heq
  refine Zaa rfl ⟨rfl,bV.out ?_ ?_⟩
  ·rw[←heq];rfl
  ·rw[←heq]
theorem Zvx(t:T)(ih:∀x∈t.subs,MkC x)(s:Ms)(c0b mkb:Nat)(t0a t1a:Option Addr)(t0n t0c t1n t1c:Nat)(m:Mem)(h:MkRow m (.slice t0a t0n t0c) (.slice t1a t1n t1c) s)(hs:MsOk s)(hr:Rep (m.off (Yof (.slice t0a t0n t0c) (.slice t1a t1n t1c))) t)(ma:(m.off (Yof (.slice t0a t0n t0c) (.slice t1a t1n t1c))) c0b 0=some (.pointer (some ⟨mkb,0,none⟩)))(hN:(ZfZ t.subs ⟨0,0,false⟩ s).2.sets.length≤448):
  CXY Try.prog 140 #[t.v,.pointer (some ⟨c0b,0,none⟩)] m (Yof (.slice t0a t0n t0c) (.slice t1a t1n t1c)) [⟨mkb,[.slice t0a t0n t0c,.slice t1a t1n t1c],98,2,false,true⟩] [⟨.slice t0a t0n t0c,4⟩,⟨.slice t1a t1n t1c,7⟩]
   (MkR (.slice t0a t0n t0c) (.slice t1a t1n t1c) m (ZfZ t.subs ⟨0,0,false⟩ s)):=by
 apply ZdU
 unfold ZcB
 intro b0 m1 aZ _ k8 jv b1 b2
 have bN:=(Zdw hr).1
 refine⟨fun xs css tvs m' q=>∃(k:Nat)(out:Pt)(s':Ms)(a:Option Addr)(n c:Nat)(a1:Option Addr)(n1 c1:Nat),k≤t.subs.length∧xs=[.int .i64 k]∧css=[out.cs,[.slice a n c,.slice a1 n1 c1]]∧tvs=[.slice a n c,.slice a1 n1 c1]∧q=t.subs.length - k∧MkSt m (.slice t0a t0n t0c) (.slice t1a t1n t1c) m' (.slice a n c) (.slice a1 n1 c1) s'∧PtIn s'.sets.length out∧ZfZ (t.subs.drop k) out s'=ZfZ t.subs ⟨0,0,false⟩ s,
  ⟨_,0,⟨0,0,false⟩,s,t0a,t0n,t0c,t1a,t1n,t1c,Nat.zero_le _,rfl,rfl,rfl,rfl,MkSt.refl h hs aZ,ZbR _ _,rfl⟩,?_⟩
 rintro x cs cs1 a n c a1 n1 c1 m2 q _ ⟨k,out,s',a',n',c',a1',n1',c1',hk,hx,bT,dC,hq,bV,mf,heq⟩
 obtain rfl:x=k:=by simpa using hx
 simp only[List.cons.injEq,and_true]at bT
 obtain⟨rfl,rfl⟩:=bT
 simp only[List.cons.injEq,Value.slice.injEq,and_true]at dC
 obtain⟨⟨rfl,rfl,rfl⟩,rfl,rfl,rfl⟩:=dC
 subst hq
 refine Zab (fun bK=>?_) (fun cL=>?_)
 ·have aY:k < t.subs.length:=by have:=of_decide_eq_true bK;omega
  obtain⟨y,hy⟩:∃y,t.subs[k]?=some y:=⟨t.subs[k],by simp[aY]⟩
  rcases(Zdw hr).2 with he|⟨bt,ot,gw,nm⟩
  ·rw[he]at aY;simp at aY
  obtain⟨cO,mg⟩:=nm.get hy
  have eK:=(cO.mono bV.base).mono (Mem.off_le m2 _)
  have eV:=ZpC hy out s'
  have fN:=Zem y s' bV.ok
  have pE:=Zs7 (mf.mono fN.le) fN.pt
  have ii:=ZeO (t.subs.drop (k+1)) _ _ fN.ok pE
  rw[←eV,heq]at ii
  have j5:(mk y s').2.sets.length≤448:=Nat.le_trans ii.le hN
  refine⟨bt,ot,gw,⟨by omega,by omega⟩,_,_,_,_,_,_,_,_,(by rw[Int.toNat_natCast];exact eK),fun b3=>Zaa rfl ⟨_,Mem.off_le _ _ _ _ _ (bV.base _ _ _ ma),?_⟩⟩
  refine lentC (ih y (List.mem_of_getElem? hy) s' mkb _ _ _ _ _ _ m2 bV.row bV.ok (Rep.mono bV.base y mg) j5) Zcq (Zgf bV fN.ok fun m3 a3 n3 c3 a4 n4 c4 cZ b6=>?_)
  refine⟨_,trivial,Zow out.first (mk y s').1.first b2 102 15 [] (bwL out.last++[Value.bool out.null]) m3 (by omega),fun v _ _ h=>by rw[h.1];rfl,fun m4 cT cs1 jn=>?_⟩
  obtain rfl:cs1=_:=by simpa using jn.2
  refine⟨_,trivial,Zow out.last (mk y s').1.last b2 102 15 (bwL (out.first|||(mk y s').1.first)) [Value.bool out.null] m4 (by omega),fun v _ _ h=>by rw[h.1];rfl,fun m5 cV cs2 kD=>?_⟩
  obtain rfl:cs2=_:=by simpa using kD.2
  have fY:=cZ.mono (Mem.le_trans cT cV)
  have fin:∀cs:List Value,cs=(Zxc out (mk y s').1).cs→∃n',n' < t.subs.length - k∧(fun(xs:List Value) (css:List (List Value)) (tvs:List Value) (m':Mem) (q:Nat)=>∃(k:Nat)(out:Pt)(s':Ms)(a:Option Addr)(n c:Nat)(a1:Option Addr)(n1 c1:Nat),k≤t.subs.length∧xs=[.int .i64 k]∧css=[out.cs,[.slice a n c,.slice a1 n1 c1]]∧tvs=[.slice a n c,.slice a1 n1 c1]∧q=t.subs.length - k∧MkSt m (.slice t0a t0n t0c) (.slice t1a t1n t1c) m' (.slice a n c) (.slice a1 n1 c1) s'∧PtIn s'.sets.length out∧ZfZ (t.subs.drop k) out s'=ZfZ t.subs ⟨0,0,false⟩ s) [.int .i64 (IntKind.i64.wrap ((k:Int)+1))] [cs,[.slice a3 n3 c3,.slice a4 n4 c4]] [.slice a3 n3 c3,.slice a4 n4 c4] m5 n':=fun cs bT=>
   ⟨_,by omega,k+1,Zxc out (mk y s').1,_,_,_,_,_,_,_,aY,by rw[Zat (by omega) (by omega)];rfl,by rw[bT],rfl,rfl,fY,pE,eV.symm.trans heq⟩
  obtain⟨of,ol,on⟩:=out
  refine Zas (v:=.bool on) rfl ?_
  generalize xK:(mk y s').1=r1 at fin ⊢
  obtain⟨rf,rl,rn⟩:=r1
  cases on <;> cases rn
  ·exact Zaa rfl (Zbe rfl (Zaa rfl ⟨rfl,rfl,fin _ rfl⟩))
  ·exact Zaa rfl (Zbe rfl (Zaa rfl ⟨rfl,rfl,fin _ rfl⟩))
  ·exact Zaa rfl (ZbW rfl (Zaa rfl ⟨rfl,rfl,fin _ rfl⟩))
  ·exact Zaa rfl (ZbW rfl (Zaa rfl ⟨rfl,rfl,fin _ rfl⟩))
 ·have hk':k=t.subs.length:=by have:=of_decide_eq_false cL;omega
  subst hk'
  rw[List.drop_length,ZfZ]at heq
  refine Zaa rfl ⟨rfl,bV.out ?_ ?_⟩
  ·rw[←heq];rfl
  ·rw[←heq]
theorem Zss(t:T)(ht:t.subs.length=1)(ih:∀x∈t.subs,MkC x)(s:Ms)(c0b mkb:Nat)(t0a t1a:Option Addr)(t0n t0c t1n t1c:Nat)(m:Mem)(h:MkRow m (.slice t0a t0n t0c) (.slice t1a t1n t1c) s)(hs:MsOk s)(hr:Rep (m.off (Yof (.slice t0a t0n t0c) (.slice t1a t1n t1c))) t)(ma:(m.off (Yof (.slice t0a t0n t0c) (.slice t1a t1n t1c))) c0b 0=some (.pointer (some ⟨mkb,0,none⟩)))(hN:(Zmo t.subs s).2.sets.length≤448):
  CXY Try.prog 143 #[t.v,.pointer (some ⟨c0b,0,none⟩)] m (Yof (.slice t0a t0n t0c) (.slice t1a t1n t1c)) [⟨mkb,[.slice t0a t0n t0c,.slice t1a t1n t1c],98,2,false,true⟩] [⟨.slice t0a t0n t0c,4⟩,⟨.slice t1a t1n t1c,7⟩]
   (MkR (.slice t0a t0n t0c) (.slice t1a t1n t1c) m (Zmo t.subs s)):=by
 apply ZdV
 unfold ZcC
 intro b0 m1 aZ _ k8 jv b1
 have bV:=MkSt.refl h hs aZ
 obtain⟨y,hy⟩:∃y,t.subs[0]?=some y:=⟨t.subs[0],by simp[ht]⟩
 have wH:Zmo t.subs s=mk y s:=by
  cases hl:t.subs with
  | nil=>rw[hl]at hy;simp at hy
  | cons z l=>rw[hl]at hy;simp at hy;subst hy;rw[Zmo]
 rw[wH]at hN ⊢
 rcases(Zdw hr).2 with he|⟨bt,ot,gw,nm⟩
 ·rw[he]at ht;simp at ht
 obtain⟨cO,mg⟩:=nm.get hy
 have eK:=(cO.mono bV.base).mono (Mem.off_le m1 _)
 have fN:=Zem y s hs
 refine⟨fun _ _ _ _ _ _=>True,_,aZ _ _ _ (Mem.off_le _ _ _ _ _ ma),bt,ot,gw,⟨by omega,by omega⟩,_,_,_,_,_,_,_,_,(by rw[Nat.zero_mul]at eK;exact eK),?_⟩
 refine lentC (ih y (List.mem_of_getElem? hy) s mkb _ _ _ _ _ _ m1 bV.row bV.ok (Rep.mono bV.base y mg) hN) Zcq (Zgf bV fN.ok fun m3 a3 n3 c3 a4 n4 c4 cZ=>?_)
 exact⟨rfl,cZ.out rfl rfl⟩
end Go.Proofs.Ytplacemlpkhmfaa
set_option linter.unusedVariables false
set_option linter.unusedSimpArgs false
namespace Go.Proofs.Ytplacemlpkhmfaa
open Go Go.Eng Go.Rx Go.Proofs Go.RowKit
set_option maxRecDepth 100000
theorem ZoO{mn mx:Int}(h:ZfY mn mx=true):0≤mn∧mn≤16∧(mx=-1∨(1≤mx∧mx≤16)):=by
 unfold ZfY at h
 simp only[Bool.and_eq_true,Bool.not_eq_true',Bool.or_eq_false_iff,Bool.or_eq_true,decide_eq_false_iff_not,decide_eq_true_eq,beq_iff_eq]at h
 omega
theorem Zq5{l:List T}{y:T}(h:l[0]?=some y)(s:Ms):Zmo l s=mk y s:=by
 cases l with
 | nil=>simp at h
 | cons z l=>simp at h;subst h;rw[Zmo]
theorem Zst(f:Ms→Pt×Ms)(mn mx:Int)(N k:Nat)(hk:k < N)(out:Pt)(s:Ms)(s2:Ms)(il:s2=if mx=-1∧k+1=N then⟨(f s).2.sets,ZbZ (f s).2.fol (f s).1.last (f s).1.first⟩ else(f s).2)(y:Pt)(hy:y=⟨(f s).1.first,(f s).1.last,(f s).1.null||decide ((k:Int) ≥ mn)⟩):
  Zn7 f mn mx N (N - k) k out s=Zn7 f mn mx N (N - (k+1)) (k+1) (Zcd out y s2).1 (Zcd out y s2).2:=by
 subst il hy
 rw[show N - k=(N - (k+1))+1 by omega,Zn7]
abbrev ZxA(t:T)(s:Ms)(m:Mem)(v0 v1:Value)(N:Nat):List Value→List (List Value)→List Value→Mem→Nat→Prop:=fun xs css tvs m' q=>∃(k:Nat)(out:Pt)(s':Ms)(a:Option Addr)(n c:Nat)(a1:Option Addr)(n1 c1:Nat),k≤N∧xs=[.int .i64 k]∧css=[out.cs,[.slice a n c,.slice a1 n1 c1]]∧tvs=[.slice a n c,.slice a1 n1 c1]∧q=N - k∧MkSt m v0 v1 m' (.slice a n c) (.slice a1 n1 c1) s'∧PtIn s'.sets.length out∧Zn7 (fun s=>Zmo t.subs s) t.mn t.mx N (N - k) k out s'=Zn7 (fun s=>Zmo t.subs s) t.mn t.mx N N 0 ⟨0,0,true⟩ s
theorem Zp7(t:T)(ht:t.subs.length=1)(hb:ZfY t.mn t.mx=true)(ih:∀x∈t.subs,MkC x)(s:Ms)(mkb:Nat)(t0a t1a:Option Addr)(t0n t0c t1n t1c:Nat)(m:Mem)(h:MkRow m (.slice t0a t0n t0c) (.slice t1a t1n t1c) s)(hs:MsOk s)(hr:Rep (m.off (Yof (.slice t0a t0n t0c) (.slice t1a t1n t1c))) t)(hN:(Zn7 (fun s=>Zmo t.subs s) t.mn t.mx (ZrY t.mn t.mx) (ZrY t.mn t.mx) 0 ⟨0,0,true⟩ s).2.sets.length≤448):
  CXY Try.prog 142 #[.pointer (some ⟨mkb,0,none⟩),t.v] m (Yof (.slice t0a t0n t0c) (.slice t1a t1n t1c)) [⟨mkb,[.slice t0a t0n t0c,.slice t1a t1n t1c],98,2,false,true⟩] [⟨.slice t0a t0n t0c,4⟩,⟨.slice t1a t1n t1c,7⟩]
   (MkR (.slice t0a t0n t0c) (.slice t1a t1n t1c) m (Zn7 (fun s=>Zmo t.subs s) t.mn t.mx (ZrY t.mn t.mx) (ZrY t.mn t.mx) 0 ⟨0,0,true⟩ s)):=by
 apply Zej
 unfold ZcU
 intro b0 m1 aZ _ k8 jv b1
 obtain⟨eL,gN,fW⟩:=ZoO hb
 obtain⟨y,hy⟩:∃y,t.subs[0]?=some y:=⟨t.subs[0],by simp[ht]⟩
 have uN:=List.mem_of_getElem? hy
 rcases(Zdw hr).2 with he|⟨bt,ot,gw,nm⟩
 ·rw[he]at ht;simp at ht
 obtain⟨cO,mg⟩:=nm.get hy
 rw[Nat.zero_mul]at cO
 generalize sV:ZrY t.mn t.mx=N at hN ⊢
 have wI:N≤16:=by
  rw[←sV];unfold ZrY;split <;> omega
 have ZuB:∀(q k:Nat)(out:Pt)(s':Ms),MsOk s'→PtIn s'.sets.length out→Grows s' (Zn7 (fun s=>Zmo t.subs s) t.mn t.mx N q k out s'):=fun q k out s' h1 h2=>Zf1 (fun s h=>Zey _ s h) _ _ _ _ _ _ _ h1 h2
 have round:∀(k:Nat)(out:Pt)(s' s2:Ms)(z:Pt),k < N→MsOk s'→PtIn s'.sets.length out→s2=(if t.mx=-1∧k+1=N then⟨(mk y s').2.sets,ZbZ (mk y s').2.fol (mk y s').1.last (mk y s').1.first⟩ else(mk y s').2)→z=⟨(mk y s').1.first,(mk y s').1.last,(mk y s').1.null||decide ((k:Int) ≥ t.mn)⟩→
   Zn7 (fun s=>Zmo t.subs s) t.mn t.mx N (N - k) k out s'=Zn7 (fun s=>Zmo t.subs s) t.mn t.mx N N 0 ⟨0,0,true⟩ s→Grows s' (mk y s')∧(mk y s').2.sets.length≤448∧MsOk s2∧s2.sets=(mk y s').2.sets∧PtIn s2.sets.length out∧PtIn s2.sets.length z∧Grows s2 (Zcd out z s2)∧
   Zn7 (fun s=>Zmo t.subs s) t.mn t.mx N (N - (k+1)) (k+1) (Zcd out z s2).1 (Zcd out z s2).2=Zn7 (fun s=>Zmo t.subs s) t.mn t.mx N N 0 ⟨0,0,true⟩ s:=by
  intro k out s' s2 z hk hs' hp il hz heq
  have eV:=Zst (fun s=>Zmo t.subs s) t.mn t.mx N k hk out s' s2 (by simp only[Zq5 hy];exact il) z (by simp only[Zq5 hy];exact hz)
  have fN:=Zem y s' hs'
  have e:s2.sets=(mk y s').2.sets:=by rw[il];split <;> rfl
  have h2:MsOk s2:=by
   rw[il];split
   ·exact fN.ok.loop _ _ fN.pt.1
   ·exact fN.ok
  have dM:PtIn s2.sets.length out:=hp.mono (by rw[e];exact fN.le)
  have ji:PtIn s2.sets.length z:=by rw[e,hz];exact fN.pt
  have h3:=ZeM h2 dM ji
  have h4:=ZuB (N - (k+1)) (k+1) _ _ h3.ok h3.pt
  rw[←eV,heq]at h4
  refine⟨fN,?_,h2,e,dM,ji,h3,eV.symm.trans heq⟩
  rw[←e];exact Nat.le_trans h3.le (Nat.le_trans h4.le hN)
 have start:ZxA t s m (.slice t0a t0n t0c) (.slice t1a t1n t1c) N [.int .i64 0] [Zb2,[.slice t0a t0n t0c,.slice t1a t1n t1c]] [.slice t0a t0n t0c,.slice t1a t1n t1c] m1 N:=
  ⟨0,⟨0,0,true⟩,s,t0a,t0n,t0c,t1a,t1n,t1c,Nat.zero_le _,rfl,rfl,rfl,rfl,MkSt.refl h hs aZ,ZbR _ _,rfl⟩
 refine Zab (fun j2=>?_) (fun j2=>?_)
 ·have kE:t.mx=-1:=by simpa using j2
  have qI:(if(1:Int) > t.mn then(1:Int)else t.mn)=(N:Int):=by
   rw[←sV];unfold ZrY;rw[if_pos kE];split <;> omega
  intro b2
  simp only[qI]
  refine⟨ZxA t s m (.slice t0a t0n t0c) (.slice t1a t1n t1c) N,⟨_,start⟩,?_⟩
  rintro x cs cs1 a n c a1 n1 c1 m2 q _ ⟨k,out,s',a',n',c',a1',n1',c1',hk,hx,bT,dC,hq,bV,mf,heq⟩
  obtain rfl:x=k:=by simpa using hx
  simp only[List.cons.injEq,and_true]at bT
  obtain⟨rfl,rfl⟩:=bT
  simp only[List.cons.injEq,Value.slice.injEq,and_true]at dC
  obtain⟨⟨rfl,rfl,rfl⟩,rfl,rfl,rfl⟩:=dC
  subst hq
  have eK:=(cO.mono bV.base).mono (Mem.off_le m2 _)
  refine Zab (fun bK=>?_) (fun cL=>?_)
  ·have aY:k < N:=by have:=of_decide_eq_true bK;omega
   obtain⟨fN,j5,kF,jd,dM,ji,ii,fU⟩:=round k out s' _ _ aY bV.ok mf rfl rfl heq
   have dZ:IntKind.i64.wrap ((N:Int) - 1)=(N:Int) - 1:=Zat (by omega) (by omega)
   refine⟨bt,ot,gw,⟨by omega,by omega⟩,_,_,_,_,_,_,_,_,eK,?_⟩
   refine lentC (ih y uN s' mkb _ _ _ _ _ _ m2 bV.row bV.ok (Rep.mono bV.base y mg) j5) Zcq (Zgf bV fN.ok fun m3 a3 n3 c3 a4 n4 c4 cZ b5=>?_)
   refine⟨decide (k+1=N),ZbW j2 ⟨by trivial,by trivial,by rw[dZ];congr 2;rw[Bool.eq_iff_iff];simp;omega⟩,?_⟩
   have hw:IntKind.i64.wrap ((k:Int)+1)=((k+1:Nat):Int):=by rw[Zat (by omega) (by omega)];rfl
   by_cases dB:k+1=N
   ·have ec:(if t.mx=-1∧k+1=N then(⟨(mk y s').2.sets,ZbZ (mk y s').2.fol (mk y s').1.last (mk y s').1.first⟩:Ms)else(mk y s').2)=⟨(mk y s').2.sets,ZbZ (mk y s').2.fol (mk y s').1.last (mk y s').1.first⟩:=if_pos ⟨kE,dB⟩
    rw[ec]at kF jd dM ji ii fU
    refine ZbW (by simp[dB]) ?_
    refine lentC (Zq2 (mk y s').2 (mk y s').1.last (mk y s').1.first mkb _ _ _ _ _ _ m3 cZ.row (by rw[fN.ok.len];exact j5) (fun i hi=>by rw[fN.ok.len];exact fN.pt.2 i hi)) (by rintro v m' css tvs ⟨rfl,_⟩;rfl) ?_
    rintro m4 iw _ cs3 a5 n5 c5 a6 n6 c6 ⟨_,sW,pF,gk⟩
    simp only[List.cons.injEq,Value.slice.injEq,and_true]at pF
    obtain⟨⟨rfl,rfl,rfl⟩,rfl,rfl,rfl⟩:=pF
    obtain rfl:cs3=[.slice a5 n5 c5,.slice a6 n6 c6]:=by simpa using sW
    have lG:=cZ.step iw gk (fun b hb=>.inl hb) kF
    generalize dX:(mk y s').1=r1 at *
    obtain⟨rf,rl,rn⟩:=r1
    have ha:∀i,out.last.testBit i=true→i < (ZbZ (mk y s').2.fol rl rf).length:=fun i hi=>by rw[Zkz,fN.ok.len];exact dM.2 i hi
    have hl:(ZbZ (mk y s').2.fol rl rf).length≤448:=by rw[Zkz,fN.ok.len];exact j5
    cases rn
    ·refine Zbe rfl (lentC (Zfv ⟨(mk y s').2.sets,ZbZ (mk y s').2.fol rl rf⟩ out ⟨rf,rl,false||decide ((k:Int) ≥ t.mn)⟩ mkb _ _ _ _ _ _ m4 lG.row hl ha) ZdW (ZmH lG ii.ok fun m5 a7 n7 c7 a8 n8 c8 fY=>?_))
     exact⟨by trivial,by trivial,_,by omega,k+1,_,_,_,_,_,_,_,_,aY,by rw[hw],rfl,rfl,rfl,fY,ii.pt,fU⟩
    ·refine ZbW rfl (lentC (Zfv ⟨(mk y s').2.sets,ZbZ (mk y s').2.fol rl rf⟩ out ⟨rf,rl,true||decide ((k:Int) ≥ t.mn)⟩ mkb _ _ _ _ _ _ m4 lG.row hl ha) ZdW (ZmH lG ii.ok fun m5 a7 n7 c7 a8 n8 c8 fY=>?_))
     exact⟨by trivial,by trivial,_,by omega,k+1,_,_,_,_,_,_,_,_,aY,by rw[hw],rfl,rfl,rfl,fY,ii.pt,fU⟩
   ·have ec:(if t.mx=-1∧k+1=N then(⟨(mk y s').2.sets,ZbZ (mk y s').2.fol (mk y s').1.last (mk y s').1.first⟩:Ms)else(mk y s').2)=(mk y s').2:=if_neg fun h=>dB h.2
    rw[ec]at kF jd dM ji ii fU
    refine Zbe (by simp[dB]) ?_
    generalize dX:(mk y s').1=r1 at *
    obtain⟨rf,rl,rn⟩:=r1
    have ha:∀i,out.last.testBit i=true→i < (mk y s').2.fol.length:=fun i hi=>by rw[fN.ok.len];exact dM.2 i hi
    have hl:(mk y s').2.fol.length≤448:=by rw[fN.ok.len];exact j5
    cases rn
    ·refine Zbe rfl (lentC (Zfv (mk y s').2 out ⟨rf,rl,false||decide ((k:Int) ≥ t.mn)⟩ mkb _ _ _ _ _ _ m3 cZ.row hl ha) ZdW (ZmH cZ ii.ok fun m5 a7 n7 c7 a8 n8 c8 fY=>?_))
     exact⟨by trivial,by trivial,_,by omega,k+1,_,_,_,_,_,_,_,_,aY,by rw[hw],rfl,rfl,rfl,fY,ii.pt,fU⟩
    ·refine ZbW rfl (lentC (Zfv (mk y s').2 out ⟨rf,rl,true||decide ((k:Int) ≥ t.mn)⟩ mkb _ _ _ _ _ _ m3 cZ.row hl ha) ZdW (ZmH cZ ii.ok fun m5 a7 n7 c7 a8 n8 c8 fY=>?_))
     exact⟨by trivial,by trivial,_,by omega,k+1,_,_,_,_,_,_,_,_,aY,by rw[hw],rfl,rfl,rfl,fY,ii.pt,fU⟩
  ·have hk':k=N:=by have:=of_decide_eq_false cL;omega
   subst hk'
   rw[Nat.sub_self,Zn7]at heq
   refine Zaa rfl ⟨by trivial,bV.out ?_ ?_⟩
   ·rw[←heq];rfl
   ·rw[←heq]
 ·have kE:¬t.mx=-1:=by simpa using j2
  have qI:t.mx=(N:Int):=by
   rw[←sV];unfold ZrY;rw[if_neg kE];omega
  intro b2
  refine⟨ZxA t s m (.slice t0a t0n t0c) (.slice t1a t1n t1c) N,⟨_,start⟩,?_⟩
  rintro x cs cs1 a n c a1 n1 c1 m2 q _ ⟨k,out,s',a',n',c',a1',n1',c1',hk,hx,bT,dC,hq,bV,mf,heq⟩
  obtain rfl:x=k:=by simpa using hx
  simp only[List.cons.injEq,and_true]at bT
  obtain⟨rfl,rfl⟩:=bT
  simp only[List.cons.injEq,Value.slice.injEq,and_true]at dC
  obtain⟨⟨rfl,rfl,rfl⟩,rfl,rfl,rfl⟩:=dC
  subst hq
  have eK:=(cO.mono bV.base).mono (Mem.off_le m2 _)
  refine Zab (fun bK=>?_) (fun cL=>?_)
  ·have aY:k < N:=by have:=of_decide_eq_true bK;omega
   obtain⟨fN,j5,kF,jd,dM,ji,ii,fU⟩:=round k out s' _ _ aY bV.ok mf rfl rfl heq
   refine⟨bt,ot,gw,⟨by omega,by omega⟩,_,_,_,_,_,_,_,_,eK,?_⟩
   refine lentC (ih y uN s' mkb _ _ _ _ _ _ m2 bV.row bV.ok (Rep.mono bV.base y mg) j5) Zcq (Zgf bV fN.ok fun m3 a3 n3 c3 a4 n4 c4 cZ b5=>?_)
   refine⟨false,Zbe j2 ⟨by trivial,by trivial,rfl⟩,Zbe rfl ?_⟩
   have hw:IntKind.i64.wrap ((k:Int)+1)=((k+1:Nat):Int):=by rw[Zat (by omega) (by omega)];rfl
   have ec:(if t.mx=-1∧k+1=N then(⟨(mk y s').2.sets,ZbZ (mk y s').2.fol (mk y s').1.last (mk y s').1.first⟩:Ms)else(mk y s').2)=(mk y s').2:=if_neg fun h=>kE h.1
   rw[ec]at kF jd dM ji ii fU
   generalize dX:(mk y s').1=r1 at *
   obtain⟨rf,rl,rn⟩:=r1
   have ha:∀i,out.last.testBit i=true→i < (mk y s').2.fol.length:=fun i hi=>by rw[fN.ok.len];exact dM.2 i hi
   have hl:(mk y s').2.fol.length≤448:=by rw[fN.ok.len];exact j5
   cases rn
   ·refine Zbe rfl (lentC (Zfv (mk y s').2 out ⟨rf,rl,false||decide ((k:Int) ≥ t.mn)⟩ mkb _ _ _ _ _ _ m3 cZ.row hl ha) ZdW (ZmH cZ ii.ok fun m5 a7 n7 c7 a8 n8 c8 fY=>?_))
    exact⟨by trivial,by trivial,_,by omega,k+1,_,_,_,_,_,_,_,_,aY,by rw[hw],rfl,rfl,rfl,fY,ii.pt,fU⟩
   ·refine ZbW rfl (lentC (Zfv (mk y s').2 out ⟨rf,rl,true||decide ((k:Int) ≥ t.mn)⟩ mkb _ _ _ _ _ _ m3 cZ.row hl ha) ZdW (ZmH cZ ii.ok fun m5 a7 n7 c7 a8 n8 c8 fY=>?_))
    exact⟨by trivial,by trivial,_,by omega,k+1,_,_,_,_,_,_,_,_,aY,by rw[hw],rfl,rfl,rfl,fY,ii.pt,fU⟩
  ·have hk':k=N:=by have:=of_decide_eq_false cL;omega
   subst hk'
   rw[Nat.sub_self,Zn7]at heq
   refine Zaa rfl ⟨by trivial,bV.out ?_ ?_⟩
   ·rw[←heq];rfl
   ·rw[←heq]
def Zjd(b:Nat):Value→Mem→List (List Value)→Prop:=fun v m' _=>∃c,m'.reads c 0 [.pointer (some ⟨b,0,none⟩)]∧v=.agg #[.func (.func 135) #[] #[],.func (.func 136) #[] #[],.func (.func 137) #[] #[.pointer (some ⟨c,0,none⟩)],.func (.func 138) #[] #[.pointer (some ⟨c,0,none⟩)],.func (.func 140) #[] #[.pointer (some ⟨c,0,none⟩)],.func (.func 142) #[.pointer (some ⟨b,0,none⟩)] #[],.func (.func 143) #[] #[.pointer (some ⟨c,0,none⟩)]]
theorem Ze8(b:Nat)(m:Mem):CX Try.prog 109 #[.pointer (some ⟨b,0,none⟩)] m [] (Zjd b):=by
 apply Zfl
 unfold Zdl
 intro c m1 aZ hc b1
 exact⟨m1,aZ,Mem.le_refl _,c,hc,rfl⟩
theorem ZcV{b:Nat}:∀(v:Value)(m':Mem) (css:List (List Value)),Zjd b v m' css→Shape.fits (.agg [.fn,.fn,.fn,.fn,.fn,.fn,.fn]) v=true:=by
 rintro v m' css ⟨c,_,rfl⟩;rfl
theorem Zvy(t:T)(m:Mem):CX Try.prog 136 #[t.v] m [] (Ret (Pt.v ⟨0,0,true⟩)):=by
 apply Zd8
 unfold Zcx
 intro c m1 aZ hc b1
 exact⟨m1,aZ,Mem.le_refl _,rfl⟩
theorem Zsu(t:T)(s:Ms)(mkb:Nat)(t0a t1a:Option Addr)(t0n t0c t1n t1c:Nat)(m:Mem)(h:MkRow m (.slice t0a t0n t0c) (.slice t1a t1n t1c) s):
  CXY Try.prog 136 #[t.v] m (Yof (.slice t0a t0n t0c) (.slice t1a t1n t1c)) [⟨mkb,[.slice t0a t0n t0c,.slice t1a t1n t1c],98,2,false,true⟩] [⟨.slice t0a t0n t0c,4⟩,⟨.slice t1a t1n t1c,7⟩]
   (MkR (.slice t0a t0n t0c) (.slice t1a t1n t1c) m (⟨0,0,true⟩,s)):=
 (CX.frameY (Zvy t m) _ _ _).mono fun v m' css tvs _ h2=>⟨_,_,_,_,_,_,h2.2.2.2,h2.2.1,h2.2.2.1,h.mono h2.1,fun b hb=>.inl hb⟩
theorem ZxB{m m':Mem}{v0 v1:Value}{s:Ms}{c:Nat}{p:Option Addr}(h:MkRow m v0 v1 s)(hm:m.le m')(hc:m' c 0=some (.pointer p)):¬Yof v0 v1 c:=by
 rintro(hY|hY)
 ·obtain⟨c',_,h2,h3⟩:=Ze7 h.row0 hY
  cases hs:s.sets with
  | nil=>rw[hs]at h3;simp at h3
  | cons q l=>
   rw[hs]at h2
   have:=hm _ _ _ (h2 0 (.int .u64 q.1) rfl)
   rw[Nat.add_zero,hc]at this;cases this
 ·obtain⟨c',_,h2,h3⟩:=Ze7 h.row1 hY
  obtain⟨n,hn⟩:=ZgU h3
  have:=hm _ _ _ (h2 0 _ hn)
  rw[Nat.add_zero,hc]at this;cases this
theorem Zj1{b:Nat}{m':Mem}{css:List (List Value)}{g g1 g2 g3 g4 g5 g6:FuncId}{fi ca fi1 ca1 fi2 ca2 fi3 ca3 fi4 ca4 fi5 ca5 fi6 ca6:List Value}(h:Zjd b (.agg #[.func (.func g) fi.toArray ca.toArray,.func (.func g1) fi1.toArray ca1.toArray,.func (.func g2) fi2.toArray ca2.toArray,.func (.func g3) fi3.toArray ca3.toArray,.func (.func g4) fi4.toArray ca4.toArray,.func (.func g5) fi5.toArray ca5.toArray,.func (.func g6) fi6.toArray ca6.toArray]) m' css):
  ∃c,m' c 0=some (.pointer (some ⟨b,0,none⟩))∧(g1=136∧fi1=[]∧ca1=[])∧(g2=137∧fi2=[]∧ca2=[.pointer (some ⟨c,0,none⟩)])∧(g3=138∧fi3=[]∧ca3=[.pointer (some ⟨c,0,none⟩)])∧(g4=140∧fi4=[]∧ca4=[.pointer (some ⟨c,0,none⟩)])∧(g5=142∧fi5=[.pointer (some ⟨b,0,none⟩)]∧ca5=[])∧(g6=143∧fi6=[]∧ca6=[.pointer (some ⟨c,0,none⟩)]):=by
 obtain⟨c,hc,hv⟩:=h
 simp only[Value.agg.injEq,Array.mk.injEq,List.cons.injEq,Value.func.injEq,Fn.func.injEq,and_true,true_and]at hv
 obtain⟨_,h1,h2,h3,h4,h5,h6⟩:=hv
 exact⟨c,by simpa using hc 0 _ rfl,h1,h2,h3,h4,h5,h6⟩
theorem Zth:∀t:T,(∀x∈t.nodes,x.right=true)→MkC t:=by
 intro t bS
 have ih:∀x∈t.subs,MkC x:=fun x hx=>Zth x fun y hy=>bS y (by
  rw[ZcG]
  obtain⟨i,hi⟩:=List.getElem?_of_mem hx
  rw[Zfi hi];simp[hy])
 have jq:t.right=true:=bS t (by rw[ZcG];simp)
 intro s mkb t0a t1a t0n t0c t1n t1c m bU hs hr hN
 rw[Zxl]at hN ⊢
 have hk:t.k=1∨t.k=2∨t.k=3∨t.k=4∨(t.k=5∧t.subs.length=1∧ZfY t.mn t.mx=true)∨(t.k=6∧t.subs.length=1):=by
  unfold T.right at jq
  rw[Bool.and_eq_true]at jq
  have h2:=jq.2
  by_cases h1:t.k=1;· exact .inl h1
  by_cases h3:t.k=2;· exact .inr (.inl h3)
  by_cases h4:t.k=3;· exact .inr (.inr (.inl h4))
  by_cases h5:t.k=4;· exact .inr (.inr (.inr (.inl h5)))
  by_cases h6:t.k=5
  ·rw[if_neg h1,if_neg h3,if_neg h4,if_neg h5,if_pos h6]at h2
   simp only[Bool.and_eq_true,beq_iff_eq]at h2
   exact .inr (.inr (.inr (.inr (.inl ⟨h6,h2.1,h2.2.1⟩))))
  ·rw[if_neg h1,if_neg h3,if_neg h4,if_neg h5,if_neg h6]at h2
   simp only[Bool.and_eq_true,beq_iff_eq]at h2
   exact .inr (.inr (.inr (.inr (.inr h2))))
 obtain⟨k,s0,s1,s2,s3,mn,mx,a,c,l⟩:=t
 rcases hk with hk|hk|hk|hk|⟨hk,h1,hb⟩|⟨hk,h1⟩
 ·obtain rfl:k=1:=hk
  rw[if_neg (by simp[T.k]),if_pos (by rfl)]at hN ⊢
  apply Zd9
  unfold ZcM
  intro b m1 aZ _ hf _ b1
  refine⟨fun _ _ _=>Zjd mkb,_,rfl,Ze8 mkb m1,ZcV,?_⟩
  intro g fi ca g1 fi1 ca1 g2 fi2 ca2 g3 fi3 ca3 g4 fi4 ca4 g5 fi5 ca5 g6 fi6 ca6 m2 bO hR
  obtain⟨cc,j6,⟨rfl,rfl,rfl⟩,⟨rfl,rfl,rfl⟩,⟨rfl,rfl,rfl⟩,⟨rfl,rfl,rfl⟩,⟨rfl,rfl,rfl⟩,rfl,rfl,rfl⟩:=Zj1 hR
  refine⟨⟨by omega,by omega⟩,fun M fK eQ=>?_⟩
  have bV:=MkSt.refl bU hs (Mem.le_trans aZ fK)
  refine lentC (Zsu (.node 1 s0 s1 s2 s3 mn mx a c l) s mkb _ _ _ _ _ _ M bV.row) Zcq (Zgf bV hs fun m3 a3 n3 c3 a4 n4 c4 cZ=>?_)
  exact⟨rfl,cZ.out rfl rfl⟩
 ·obtain rfl:k=2:=hk
  rw[if_neg (by simp[T.k]),if_neg (by simp[T.k]),if_pos (by rfl)]at hN ⊢
  apply Zea
  unfold ZcN
  intro b m1 aZ _ hf _ b1
  refine⟨fun _ _ _=>Zjd mkb,_,rfl,Ze8 mkb m1,ZcV,?_⟩
  intro g fi ca g1 fi1 ca1 g2 fi2 ca2 g3 fi3 ca3 g4 fi4 ca4 g5 fi5 ca5 g6 fi6 ca6 m2 bO hR
  obtain⟨cc,j6,⟨rfl,rfl,rfl⟩,⟨rfl,rfl,rfl⟩,⟨rfl,rfl,rfl⟩,⟨rfl,rfl,rfl⟩,⟨rfl,rfl,rfl⟩,rfl,rfl,rfl⟩:=Zj1 hR
  refine⟨⟨by omega,by omega⟩,fun M fK eQ=>?_⟩
  have bV:=MkSt.refl bU hs (Mem.le_trans aZ fK)
  simp only[List.length_append,List.length_singleton]at hN
  refine lentC (Zvu (.node 2 s0 s1 s2 s3 mn mx a c l) s cc mkb _ _ _ _ _ _ M bV.row (by omega) hs.len (eQ _ _ _ j6)) Zcq (Zgf bV (ZhH hs _).ok fun m3 a3 n3 c3 a4 n4 c4 cZ=>?_)
  exact⟨rfl,cZ.out rfl rfl⟩
 ·obtain rfl:k=3:=hk
  rw[if_neg (by simp[T.k]),if_neg (by simp[T.k]),if_neg (by simp[T.k]),if_pos (by rfl)]at hN ⊢
  apply Zeb
  unfold ZcO
  intro b m1 aZ _ hf _ b1
  refine⟨fun _ _ _=>Zjd mkb,_,rfl,Ze8 mkb m1,ZcV,?_⟩
  intro g fi ca g1 fi1 ca1 g2 fi2 ca2 g3 fi3 ca3 g4 fi4 ca4 g5 fi5 ca5 g6 fi6 ca6 m2 bO hR
  obtain⟨cc,j6,⟨rfl,rfl,rfl⟩,⟨rfl,rfl,rfl⟩,⟨rfl,rfl,rfl⟩,⟨rfl,rfl,rfl⟩,⟨rfl,rfl,rfl⟩,rfl,rfl,rfl⟩:=Zj1 hR
  refine⟨⟨by omega,by omega⟩,fun M fK eQ=>?_⟩
  have bV:=MkSt.refl bU hs (Mem.le_trans aZ fK)
  have pG:(M.off (Yof (.slice t0a t0n t0c) (.slice t1a t1n t1c))) cc 0=some (.pointer (some ⟨mkb,0,none⟩)):=by
   rw[Mem.off_at (ZxB bV.row (Mem.le_refl _) (eQ _ _ _ j6))];exact eQ _ _ _ j6
  refine lentC (Zvw (.node 3 s0 s1 s2 s3 mn mx a c l) ih s cc mkb _ _ _ _ _ _ M bV.row hs (Rep.mono bV.base _ hr) pG hN) Zcq (Zgf bV (ZeN _ _ _ hs (ZbR _ _)).ok fun m3 a3 n3 c3 a4 n4 c4 cZ=>?_)
  exact⟨rfl,cZ.out rfl rfl⟩
 ·obtain rfl:k=4:=hk
  rw[if_neg (by simp[T.k]),if_neg (by simp[T.k]),if_neg (by simp[T.k]),if_neg (by simp[T.k]),if_pos (by rfl)]at hN ⊢
  apply Zec
  unfold ZcP
  intro b m1 aZ _ hf _ b1
  refine⟨fun _ _ _=>Zjd mkb,_,rfl,Ze8 mkb m1,ZcV,?_⟩
  intro g fi ca g1 fi1 ca1 g2 fi2 ca2 g3 fi3 ca3 g4 fi4 ca4 g5 fi5 ca5 g6 fi6 ca6 m2 bO hR
  obtain⟨cc,j6,⟨rfl,rfl,rfl⟩,⟨rfl,rfl,rfl⟩,⟨rfl,rfl,rfl⟩,⟨rfl,rfl,rfl⟩,⟨rfl,rfl,rfl⟩,rfl,rfl,rfl⟩:=Zj1 hR
  refine⟨⟨by omega,by omega⟩,fun M fK eQ=>?_⟩
  have bV:=MkSt.refl bU hs (Mem.le_trans aZ fK)
  have pG:(M.off (Yof (.slice t0a t0n t0c) (.slice t1a t1n t1c))) cc 0=some (.pointer (some ⟨mkb,0,none⟩)):=by
   rw[Mem.off_at (ZxB bV.row (Mem.le_refl _) (eQ _ _ _ j6))];exact eQ _ _ _ j6
  refine lentC (Zvx (.node 4 s0 s1 s2 s3 mn mx a c l) ih s cc mkb _ _ _ _ _ _ M bV.row hs (Rep.mono bV.base _ hr) pG hN) Zcq (Zgf bV (ZeO _ _ _ hs (ZbR _ _)).ok fun m3 a3 n3 c3 a4 n4 c4 cZ=>?_)
  exact⟨rfl,cZ.out rfl rfl⟩
 ·obtain rfl:k=5:=hk
  rw[if_neg (by simp[T.k]),if_neg (by simp[T.k]),if_neg (by simp[T.k]),if_neg (by simp[T.k]),if_neg (by simp[T.k]),if_pos (by rfl)]at hN ⊢
  apply Zed
  unfold ZcQ
  intro b m1 aZ _ hf _ b1
  refine⟨fun _ _ _=>Zjd mkb,_,rfl,Ze8 mkb m1,ZcV,?_⟩
  intro g fi ca g1 fi1 ca1 g2 fi2 ca2 g3 fi3 ca3 g4 fi4 ca4 g5 fi5 ca5 g6 fi6 ca6 m2 bO hR
  obtain⟨cc,j6,⟨rfl,rfl,rfl⟩,⟨rfl,rfl,rfl⟩,⟨rfl,rfl,rfl⟩,⟨rfl,rfl,rfl⟩,⟨rfl,rfl,rfl⟩,rfl,rfl,rfl⟩:=Zj1 hR
  refine⟨⟨by omega,by omega⟩,fun M fK eQ=>?_⟩
  have bV:=MkSt.refl bU hs (Mem.le_trans aZ fK)
  refine lentC (Zp7 (.node 5 s0 s1 s2 s3 mn mx a c l) h1 hb ih s mkb _ _ _ _ _ _ M bV.row hs (Rep.mono bV.base _ hr) hN) Zcq (Zgf bV (Zf1 (fun s h=>Zey _ s h) _ _ _ _ _ _ _ hs (ZbR _ _)).ok fun m3 a3 n3 c3 a4 n4 c4 cZ=>?_)
  exact⟨rfl,cZ.out rfl rfl⟩
 ·obtain rfl:k=6:=hk
  rw[if_neg (by simp[T.k]),if_neg (by simp[T.k]),if_neg (by simp[T.k]),if_neg (by simp[T.k]),if_neg (by simp[T.k]),if_neg (by simp[T.k])]at hN ⊢
  apply Zee
  unfold ZcR
  intro b m1 aZ _ hf _ b1
  refine⟨fun _ _ _=>Zjd mkb,_,rfl,Ze8 mkb m1,ZcV,?_⟩
  intro g fi ca g1 fi1 ca1 g2 fi2 ca2 g3 fi3 ca3 g4 fi4 ca4 g5 fi5 ca5 g6 fi6 ca6 m2 bO hR
  obtain⟨cc,j6,⟨rfl,rfl,rfl⟩,⟨rfl,rfl,rfl⟩,⟨rfl,rfl,rfl⟩,⟨rfl,rfl,rfl⟩,⟨rfl,rfl,rfl⟩,rfl,rfl,rfl⟩:=Zj1 hR
  refine⟨⟨by omega,by omega⟩,fun M fK eQ=>?_⟩
  have bV:=MkSt.refl bU hs (Mem.le_trans aZ fK)
  have pG:(M.off (Yof (.slice t0a t0n t0c) (.slice t1a t1n t1c))) cc 0=some (.pointer (some ⟨mkb,0,none⟩)):=by
   rw[Mem.off_at (ZxB bV.row (Mem.le_refl _) (eQ _ _ _ j6))];exact eQ _ _ _ j6
  refine lentC (Zss (.node 6 s0 s1 s2 s3 mn mx a c l) h1 ih s cc mkb _ _ _ _ _ _ M bV.row hs (Rep.mono bV.base _ hr) pG hN) Zcq (Zgf bV (Zey _ _ hs).ok fun m3 a3 n3 c3 a4 n4 c4 cZ=>?_)
  exact⟨rfl,cZ.out rfl rfl⟩
termination_by t=>SizeOf.sizeOf t
decreasing_by exact ZrT hx
end Go.Proofs.Ytplacemlpkhmfaa
set_option linter.unusedVariables false
set_option linter.unusedSimpArgs false
namespace Go.Proofs.Ytplacemlpkhmfaa
open Go Go.Eng Go.Rx Go.Proofs Go.RowKit
set_option maxRecDepth 100000
theorem Zti{f:Nat}{v:Value}{m:Mem}(h:SlN (Zcp f) v m):SlI true (Zb0 f) v m:=by
 obtain⟨a,c,rfl,h2,h3⟩:=h
 refine⟨a,c,by simp[Zb0],?_,by have:=Zob f;omega,fun _ e=>h3 (by simpa[Zb0]using e)⟩
 have e:Zap (Zb0 f)=ZaT (Zcp f):=by simp[Zap,Zb0,ZaT]
 rw[e];exact h2
theorem Zub(f:Nat)(b o:Nat)(m:Mem)(hb:m.reads b o (bwL f)):CX Try.prog 62 #[.pointer (some ⟨b,o,none⟩)] m [] (fun v m' _=>SlI true (Zb0 f) v m'∧NewS m v):=
 (Zoy f b o m hb).mono fun _ _ _ _ h=>⟨Zti h.1,h.2⟩
theorem Zk4(f:Nat)(b o:Nat)(m:Mem)(hb:m.reads b o (bwL f)):CX Try.prog 62 #[.pointer (some ⟨b,o,none⟩)] m [] (fun v m' _=>SlI true (Zb0 f) v m'):=
 (Zt3 f b o m hb).mono fun _ _ _ _ h=>Zti h
theorem Zwg(m:Mem):NfR true nf0 (.agg #[.slice none 0 0,.slice none 0 0,.slice none 0 0,.slice none 0 0,.bool false]) m:=
 ⟨_,_,_,_,rfl,⟨none,0,rfl,.inl rfl,by simp[nf0],fun _ _=>rfl⟩,⟨none,0,[],rfl,.inl rfl,rfl,by simp[nf0],fun i v l hv=>by simp at hv⟩,⟨none,0,rfl,.inl rfl,by simp[nf0],fun _ _=>rfl⟩,⟨none,0,rfl,.inl rfl,by simp[nf0],fun _ _=>rfl⟩⟩
def NfE(A:Nf)(e:Int):Value→Mem→List (List Value)→Prop:=fun v m' _=>∃w,v=.tuple #[w,.int .i64 e]∧NfR true A w m'
theorem ZiE{m:Mem}{b o:Nat}{l r:List Value}(h:m.reads b o (l++r)):m.reads b o l:=fun j v hv=>h j v (by rw[List.getElem?_append_left (List.getElem?_eq_some_iff.1 hv).1];exact hv)
theorem Zj2{m:Mem}{b o:Nat}{l r:List Value}(h:m.reads b o (l++r)):m.reads b (o+l.length) r:=fun j v hv=>by
 have:=h (l.length+j) v (by rw[List.getElem?_append_right (by omega),Nat.add_sub_cancel_left];exact hv)
 rwa [←Nat.add_assoc]at this
theorem Zvz(t:T)(m:Mem)(hr:Rep m t):CX Try.prog 14 #[t.v] m [] (NfE t.ofN t.ofE):=by
 apply Zsd
 unfold Zos
 intro b m1 aZ _ k8 jv b1
 have dX:=Rep.mono aZ t hr
 refine⟨t.isNone,Zab (fun h=>?_) (fun h=>⟨rfl,?_⟩),?_⟩
 ·refine Zah (Zvp t T0 m1 dX (Zwt m1)) fun m2 bO=>⟨rfl,?_⟩
  unfold T.isNone;rw[h,Bool.true_and]
 ·unfold T.isNone;rw[h,Bool.false_and]
 refine Zab (fun h=>?_) (fun h=>?_)
 ·refine⟨_,aZ,Mem.le_refl _,_,by unfold T.ofE;rw[if_pos h],?_⟩
  unfold T.ofN;rw[if_pos h];exact Zwg _
 have eN:t.ofN=if t.nfit then t.auto else nf0:=by unfold T.ofN;rw[h];rfl
 have eE:t.ofE=if t.nfit then 0 else 170:=by unfold T.ofE;rw[h];rfl
 refine⟨!t.nfit,?_,?_⟩
 ·refine Zah (Zt7 t m1 dX) fun m2 bO=>Zab (fun hc=>⟨rfl,?_⟩) (fun hc=>?_)
  ·have:t.clean=false:=by simpa using hc
   unfold T.nfit;rw[this];rfl
  have hc':t.clean=true:=by simpa using hc
  refine Zfh (Zvo t m2 (Rep.mono bO t dX)) fun m3 bR=>Zab (fun hz=>⟨rfl,?_⟩) (fun hz=>?_)
  ·have:¬t.size≤120:=by have:=of_decide_eq_true hz;omega
   unfold T.nfit;simp[this]
  have hz':t.size≤120:=by have:=of_decide_eq_false hz;omega
  refine Zfh (ZmD t m3 (Rep.mono bR t (Rep.mono bO t dX))) fun m4 cT=>⟨rfl,?_⟩
  refine congrArg (fun z=>[Value.bool z]) ?_
  unfold T.nfit;rw[hc',Bool.eq_iff_iff];simp[hz']
 refine Zab (fun hb=>?_) (fun hb b4=>?_)
 ·have:t.nfit=false:=by simpa using hb
  refine⟨_,aZ,Mem.le_refl _,_,by rw[eE,this];rfl,?_⟩
  rw[eN,this];exact Zwg _
 have eM:t.nfit=true:=by simpa using hb
 rw[eN,eE,eM]
 simp only[if_true]
 have kG:=eM
 unfold T.nfit at kG
 simp only[Bool.and_eq_true,decide_eq_true_eq]at kG
 obtain⟨hc,_,hp⟩:=kG
 have gq:=hc
 unfold T.clean at gq
 simp only[Bool.and_eq_true,List.all_eq_true]at gq
 have gu:t.pos≤400:=by unfold T.positions at hp;rw[gq.1]at hp;simpa using hp
 have nn:=ZkA t gq.2 (by omega) ⟨[],[]⟩
 have hN:(mk t ⟨[],[]⟩).2.sets.length≤448:=by rw[nn];simp;omega
 have hY:∀k,¬Yof (.slice none 0 0) (.slice none 0 0) k:=by
  rintro k (h|h) <;> simp[Tok.blk]at h
 have bU:MkRow m1 (.slice none 0 0) (.slice none 0 0) ⟨[],[]⟩:=⟨.inl ⟨rfl,rfl⟩,.inl ⟨rfl,rfl⟩,fun b hb=>by simp[Tok.blk]at hb⟩
 have cK:MsOk ⟨[],[]⟩:=⟨rfl,fun j x hj=>by simp at hj⟩
 have pH:Rep (m1.off (Yof (.slice none 0 0) (.slice none 0 0))) t:=Rep.mono (fun b o v hv=>by rw[Mem.off_at (hY b)];exact hv) t dX
 have bV:=MkSt.refl bU cK (Mem.le_refl m1)
 have hg:=Zem t ⟨[],[]⟩ cK
 refine lentC (Zth t gq.2 ⟨[],[]⟩ b4 none none 0 0 0 0 m1 bU cK pH hN) Zcq (Zgf bV hg.ok fun m3 a3 n3 c3 a4 n4 c4 cZ=>?_)
 generalize lY:mk t ⟨[],[]⟩=r at *
 obtain⟨p,s'⟩:=r
 have pI:t.auto=Zvd (p,s'):=by unfold T.auto;rw[lY]
 have j9:m.le m3:=Mem.le_trans aZ (Mem.le_trans (fun b o v hv=>by rw[Mem.off_at (hY b)];exact hv) (Mem.le_trans cZ.base (Mem.off_le m3 _)))
 intro b6 m4 cT sX
 have np:m4.reads b6 0 (bwL p.first++(bwL p.last++[Value.bool p.null])):=sX
 have hF:=ZiE np
 have hL:m4.reads b6 7 (bwL p.last):=by have:=ZiE (Zj2 np);rwa [Zn1,Nat.zero_add]at this
 obtain⟨rfl,pv,_⟩:=Zk3 cZ.row.row0 (fun e=>by rw[List.eq_nil_of_length_eq_zero e];rfl)
 obtain⟨rfl,iC,_⟩:=Zk3 cZ.row.row1 (fun e=>by rw[List.eq_nil_of_length_eq_zero e];rfl)
 have pJ:s'.sets=[]→a3=none:=fun e=>by
  rcases cZ.row.row0 with⟨_,h2⟩|⟨_,_,_,_,h3⟩
  ·simp only[Value.slice.injEq]at h2;exact h2.1
  ·rw[e]at h3;simp at h3
 refine⟨fun i _ _=>if i=5 then(fun v m' _=>SlI true (Zb0 p.first) v m')else(fun v m' _=>SlI true (Zb0 p.last) v m'),Zas (v:=.slice a3 s'.sets.length c3) rfl ?_⟩
 refine⟨_,rfl,Zk4 p.first b6 0 m4 hF,Za7,fun a5 n5 c5 m5 cV wJ=>?_⟩
 refine⟨_,rfl,Zk4 p.last b6 7 m5 (hL.mono cV),Za7,fun a6 n6 c6 m6 eJ mh=>?_⟩
 refine⟨.bool p.null,by simpa using np 14 _ rfl,Zaa rfl (Zaa rfl (Zaa rfl (Zaa rfl fun b7=>Zaa rfl fun M jU wK jT=>⟨by trivial,Zas (v:=.slice a4 s'.fol.length c4) rfl (Zaa rfl ?_)⟩)))⟩
 have sY:m3.le M:=Mem.le_trans cT jU
 have wL:SlI true (Zb0 p.first) (.slice a5 n5 c5) M:=(show SlI true (Zb0 p.first) _ m5 from wJ).mono wK
 have wM:SlI true (Zb0 p.last) (.slice a6 n6 c6) M:=(show SlI true (Zb0 p.last) _ m6 from mh).mono jT
 have bN:s'.fol.length≤448:=by rw[hg.ok.len];exact hN
 have uO:s'.sets.length≤448:=hN
 refine⟨fun xs css tvs m' q=>∃(k:Nat)(a:Option Addr)(c:Nat),k≤s'.fol.length∧xs=[.int .i64 k]∧css=[[.slice a3 s'.sets.length c3,.slice a k c,.slice a5 n5 c5,.slice a6 n6 c6,.bool p.null]]∧tvs=[.slice a k c]∧M.le m'∧FolG m' a ((s'.fol.map Zb0).take k)∧q=s'.fol.length - k,⟨_,0,none,0,Nat.zero_le _,rfl,rfl,rfl,Mem.le_refl _,⟨[],.inl rfl,rfl,fun i v l hv=>by simp at hv⟩,rfl⟩,?_⟩
 rintro z cs a n c m7 q _ ⟨k,a',c',hk,hz,bT,dC,i7,hG,hq⟩
 obtain rfl:z=k:=by simpa using hz
 obtain rfl:cs=_:=by simpa using bT
 simp only[List.cons.injEq,Value.slice.injEq,and_true]at dC
 obtain⟨rfl,rfl,rfl⟩:=dC
 subst hq
 refine Zab (fun bK=>?_) (fun cL=>?_)
 ·have aY:n < s'.fol.length:=by have:=of_decide_eq_true bK;simp only[slN]at this;omega
  obtain⟨x,hx⟩:=Zak aY
  have pK:=iC.mono (Mem.le_trans sY i7)
  rcases pK with h0|⟨fb,fo,eU,dH⟩
  ·have:=congrArg List.length h0
   rw[ZhF]at this;simp at this;omega
  rw[ZqK hx,List.append_assoc]at dH
  have wN:m7.reads fb (fo+n*7) (bwL x):=by
   have:=ZiE (Zj2 dH)
   rwa [ZhF,List.length_take,Nat.min_eq_left (by omega)]at this
  refine Zaa rfl ⟨fb,fo,eU,⟨by omega,by show(n:Int) < (s'.fol.length:Nat);omega⟩,_,_,_,_,_,_,_,(by rw[Int.toNat_natCast];exact wN),fun b9=>Zaa rfl fun m8 je pL=>⟨fun _ _ _=>(fun v m' _=>SlI true (Zb0 x) v m'),Zas (v:=.slice a n c) rfl ⟨_,rfl,Zk4 x b9 0 m8 pL,Za7,fun a10 n10 c10 m9 jV wO b10 sZ=>Zaa rfl ?_⟩⟩⟩
  obtain⟨ws,dZ,dL,jS⟩:=hG
  have gL:((s'.fol.map Zb0).take n).length=n:=by rw[List.length_take,List.length_map];omega
  have iw:=Mem.le_add sZ [Value.slice a10 n10 c10]
  refine⟨.inl rfl,ws,[.slice a10 n10 c10],by rw[dL,gL];simp[slN],rfl,((dZ.mono je).mono jV).mono iw,ZdB,by simp[Value.oneCell'],by show(n+1)*24≤_;omega,by show n+1≤_;omega,fun a11 c11 m10 gm s4 _=>Zaa rfl fun M2 ld oF s5 nq=>⟨by trivial,by trivial,by trivial,_,by omega,n+1,a11,c11,aY,by rw[Zat (by omega) (by omega)];rfl,rfl,rfl,Mem.le_trans i7 (Mem.le_trans je ld),?_,rfl⟩⟩
  have e:(s'.fol.map Zb0).take (n+1)=(s'.fol.map Zb0).take n++[Zb0 x]:=by rw[List.take_add_one,List.getElem?_map,hx];rfl
  rw[e]
  exact Zsf dL jS (Mem.le_trans je ld) s4 nq ((show SlI true (Zb0 x) _ m9 from wO).mono oF)
 ·have:n=s'.fol.length:=by have:=of_decide_eq_false cL;simp only[slN]at this;omega
  subst this
  have kp:(s'.fol.map Zb0).take s'.fol.length=s'.fol.map Zb0:=List.take_of_length_le (by simp)
  rw[kp]at hG
  obtain⟨ws,dZ,dL,jS⟩:=hG
  have bS:m.le m7:=Mem.le_trans j9 (Mem.le_trans sY i7)
  refine Zaa rfl ⟨_,bS,Mem.le_refl _,_,rfl,?_⟩
  rw[pI]
  exact⟨_,_,_,_,rfl,⟨a3,c3,rfl,(pv.mono sY).mono i7,by show s'.sets.length≤_;omega,fun _ e=>pJ e⟩,⟨a,c,ws,by show _=Value.slice a (s'.fol.map Zb0).length c;rw[List.length_map],dZ,dL,by show(s'.fol.map Zb0).length≤_;rw[List.length_map];omega,jS⟩,wL.mono i7,wM.mono i7⟩
end Go.Proofs.Ytplacemlpkhmfaa
set_option linter.unusedVariables false
set_option linter.unusedSimpArgs false
namespace Go.Proofs.Ytplacemlpkhmfaa
open Go Go.Eng Go.Rx Go.Proofs Go.RowKit
set_option maxRecDepth 100000
theorem ZiF{st:Bool}(l:List Int)(v:Value)(m:Mem)(h:SlI st l v m):CX Try.prog 44 #[v] m [] (fun v m' _=>SlI st l v m'∧NewS m v):=(ZlS l v m h).room.mono fun v m' css cP ⟨m1,h0,h1,⟨hS,_⟩,hr⟩=>⟨hS.mono h1,Zm6 hr⟩
theorem Zp8{st:Bool}(l:List QS)(v:Value)(m:Mem)(h:SlQ st l v m):CX Try.prog 77 #[v] m [] (fun v m' _=>SlQ st l v m'∧NewS m v):=(ZpS l v m h).room.mono fun v m' css cP ⟨m1,h0,h1,⟨hS,_⟩,hr⟩=>⟨hS.mono h1,Zm6 hr⟩
theorem ZxX{st:Bool}{l:List Int}{v:Value}{m:Mem}(h:SlI st l v m):SlI false l v m:=by
 obtain⟨a,c,e,g1,g2,_⟩:=h
 exact⟨a,c,e,g1,g2,fun e=>by cases e⟩
theorem ZvS{st:Bool}{l:List Int}{v:Value}{m:Mem}(h:SlI st l v m)(hl:l≠[]){b o:Nat}(ha:slA v=some ⟨b,o,none⟩):¬m.free b:=by
 obtain⟨a,c,rfl,h1,_⟩:=h
 exact ZkW h1 (fun e=>hl (by simpa[Zap]using e)) ha
theorem ZxC{st:Bool}{l:List QS}{v:Value}{m:Mem}(h:SlQ st l v m)(hl:l≠[]){b o:Nat}(ha:slA v=some ⟨b,o,none⟩):¬m.free b:=by
 obtain⟨a,c,rfl,h1,_⟩:=h
 exact ZkW h1 (fun e=>hl (by
  have:=congrArg List.length e
  rw[ZeL]at this
  exact List.eq_nil_of_length_eq_zero (by simp at this;omega))) ha
def Zsv(a:Option Addr)(v:Value):Prop:=∀b o o',slA v=some ⟨b,o,none⟩→a≠some ⟨b,o',none⟩
def CopyS(st:Bool)(A:Nf)(m:Mem)(v:Value)(m':Mem):Prop:=∃s f x y,v=.agg #[s,f,x,y,.bool A.empty]∧(SlQ st A.sets s m'∧NewS m s)∧(SlI st A.first x m'∧NewS m x)∧(SlI st A.last y m'∧NewS m y)∧∃a c vs,f=.slice a A.fol.length c∧rowRd m' a vs∧vs.length=A.fol.length∧A.fol.length≤1000000∧(A.sets≠[]→Zsv a s)∧(A.first≠[]→Zsv a x)∧(A.last≠[]→Zsv a y)∧∀(i:Nat)(v:Value)(l:List Int),vs[i]?=some v→A.fol[i]?=some l→SlI st l v m'∧NewS m v∧(l≠[]→Zsv a v)
theorem CopyS.nf{st:Bool}{A:Nf}{m m':Mem}{v:Value}(h:CopyS st A m v m'):NfR st A v m':=by
 obtain⟨s,f,x,y,rfl,h1,h2,h3,a,c,vs,rfl,h4,h5,h6,g1,g2,g3,h7⟩:=h
 exact⟨_,_,_,_,rfl,h1.1,⟨a,c,vs,rfl,h4,h5,h6,fun i v l hv hl=>(h7 i v l hv hl).1⟩,h2.1,h3.1⟩
theorem CopyS.mono{st:Bool}{A:Nf}{m m' M:Mem}{v:Value}(h:CopyS st A m v m')(k:m'.le M):CopyS st A m v M:=by
 obtain⟨s,f,x,y,rfl,h1,h2,h3,a,c,vs,rfl,h4,h5,h6,g1,g2,g3,h7⟩:=h
 exact⟨_,_,_,_,rfl,⟨h1.1.mono k,h1.2⟩,⟨h2.1.mono k,h2.2⟩,⟨h3.1.mono k,h3.2⟩,a,c,vs,rfl,h4.mono k,h5,h6,g1,g2,g3,fun i v l hv hl=>⟨(h7 i v l hv hl).1.mono k,(h7 i v l hv hl).2⟩⟩
theorem ZiG{st:Bool}{A:Nf}{m:Mem}:∀(v:Value)(m':Mem) (css:List (List Value)),CopyS st A m v m'→Shape.fits (.agg [.slice,.slice,.slice,.slice,.bool]) v=true:=by
 rintro v m' css ⟨s,f,x,y,rfl,⟨⟨_,_,rfl,_⟩,_⟩,⟨⟨_,_,rfl,_⟩,_⟩,⟨⟨_,_,rfl,_⟩,_⟩,_,_,_,rfl,_⟩;rfl
set_option maxHeartbeats 800000 in
theorem Zq6{st:Bool}(A:Nf)(v:Value)(m:Mem)(h:NfR st A v m)(hN:A.fol.length≤1000):CX Try.prog 26 #[v] m [] (fun v m' _=>CopyS st A m v m'):=by
 obtain⟨s,f,x,y,rfl,⟨sa,sc,rfl,hs,dK,iq⟩,⟨fa,fc,vs,rfl,hf,eR,f8,eF⟩,⟨xa,xc,rfl,hx,dU,fX⟩,⟨ya,yc,rfl,hy,dG,gj⟩⟩:=h
 apply Zov
 unfold ZjO
 intro b0 m1 aZ _ _ _ b1
 refine⟨fun i _ m=>if i=2 then(fun v m' _=>SlQ st A.sets v m'∧NewS m v)else if i=5 then(fun v m' _=>SlI st A.first v m'∧NewS m v)else(fun v m' _=>SlI st A.last v m'∧NewS m v),?_⟩
 refine⟨_,rfl,Zp8 A.sets _ m1 ⟨sa,sc,rfl,hs.mono aZ,dK,iq⟩,fun v m' css h=>Zt4 v m' css h.1,fun a2 n2 c2 m2 bO lf=>?_⟩
 refine⟨_,rfl,ZiF A.first _ m2 ⟨xa,xc,rfl,(hx.mono aZ).mono bO,dU,fX⟩,fun v m' css h=>Za7 v m' css h.1,fun a3 n3 c3 m3 bR jr=>?_⟩
 refine⟨_,rfl,ZiF A.last _ m3 ⟨ya,yc,rfl,((hy.mono aZ).mono bO).mono bR,dG,gj⟩,fun v m' css h=>Za7 v m' css h.1,fun a4 n4 c4 m4 cT jW=>?_⟩
 have lf:SlQ st A.sets (.slice a2 n2 c2) m2∧NewS m1 (.slice a2 n2 c2):=lf
 have jr:SlI st A.first (.slice a3 n3 c3) m3∧NewS m2 (.slice a3 n3 c3):=jr
 have jW:SlI st A.last (.slice a4 n4 c4) m4∧NewS m3 (.slice a4 n4 c4):=jW
 intro b2 M fK eQ jo jU
 have lH:m.le M:=Mem.le_trans aZ fK
 have js:m.le m2:=Mem.le_trans aZ bO
 have nr:m.le m3:=Mem.le_trans js bR
 refine⟨fun xs css tvs m' q=>∃(k:Nat)(a:Option Addr)(c:Nat),k≤A.fol.length∧xs=[.int .i64 k]∧css=[[.slice a2 n2 c2,.slice a k c,.slice a3 n3 c3,.slice a4 n4 c4,.bool A.empty]]∧tvs=[.slice a k c]∧M.le m'∧(∃ws,rowRd m' a ws∧ws.length=k∧(k=0→a=none)∧(∀b o,a=some ⟨b,o,none⟩→M.free b)∧∀(i:Nat)(v:Value)(l:List Int),ws[i]?=some v→A.fol[i]?=some l→SlI st l v m'∧NewS m v∧(l≠[]→Zsv a v))∧q=A.fol.length - k,
  ⟨_,0,none,0,by omega,rfl,rfl,rfl,Mem.le_refl _,⟨[],.inl rfl,rfl,fun _=>rfl,fun b o e=>(by cases e),fun i v l hv=>by simp at hv⟩,rfl⟩,?_⟩
 rintro z cs a n c m5 q _ ⟨k,a',c',hk,hz,bT,dC,cV,⟨ws,dZ,dL,wP,qM,jS⟩,hq⟩
 obtain rfl:z=k:=by simpa using hz
 obtain rfl:cs=_:=by simpa using bT
 simp only[List.cons.injEq,Value.slice.injEq,and_true]at dC
 obtain⟨rfl,rfl,rfl⟩:=dC
 subst hq
 refine Zab (fun bK=>?_) (fun cL=>?_)
 ·have aY:n < A.fol.length:=by have:=of_decide_eq_true bK;omega
  obtain⟨l,hl⟩:=Zak aY
  obtain⟨u,hu⟩:=Zak (l:=vs) (k:=n) (by omega)
  have wQ:=eF n u l hu hl
  obtain⟨fb,fo,eU,dH⟩:=Za6 (hf.mono (Mem.le_trans lH cV)) hu
  refine⟨fb,fo,eU,⟨by omega,by omega⟩,_,(by rw[Int.toNat_natCast];exact dH),fun _ _ m=>(fun v m' _=>SlI st l v m'∧NewS m v),Zas (v:=.slice a n c) rfl ⟨_,rfl,ZiF l u m5 (wQ.mono (Mem.le_trans lH cV)),fun v m' css h=>Za7 v m' css h.1,fun a6 n6 c6 m6 eJ mh b4 nt=>Zaa rfl ?_⟩⟩
  have mh:SlI st l (.slice a6 n6 c6) m6∧NewS m5 (.slice a6 n6 c6):=mh
  have iw:=Mem.le_add nt [Value.slice a6 n6 c6]
  refine⟨.inl rfl,ws,[.slice a6 n6 c6],by rw[dL];simp[slN],rfl,(dZ.mono eJ).mono iw,ZdB,by simp[Value.oneCell'],by show(n+1)*24≤_;omega,by show n+1≤_;omega,fun a7 c7 m7 iH nu s6=>Zaa rfl fun M2 ld oF s5 nq=>?_⟩
  have dN:∀b o,a7=some ⟨b,o,none⟩→a=a7∨(m6.add b4 [Value.slice a6 n6 c6]).free b:=fun b o e=>by
   rcases s6.2 with h|⟨b',o',h1,h2⟩
   ·rw[h]at e;cases e
   ·rw[h1]at e;cases e
    exact h2.imp id (·.2)
  refine⟨by trivial,A.fol.length - (n+1),by omega,n+1,a7,c7,by omega,?_,rfl,rfl,Mem.le_trans cV ld,⟨ws++[.slice a6 n6 c6],nu.mono nq,by simp[dL],fun e=>by omega,fun b o e=>?_,fun i v l' hv hl'=>?_⟩,rfl⟩
  ·rw[Zat (by omega) (by omega)];rfl
  ·rcases dN b o e with h|h
   ·exact qM b o (h.trans e)
   ·exact ZlT (Mem.le_trans cV (Mem.le_trans eJ iw)) h
  ·rw[List.getElem?_append]at hv
   split at hv
   ·obtain⟨g1,g2,g3⟩:=jS i v l' hv hl'
    refine⟨g1.mono ld,g2,fun cM b o o' e e7=>?_⟩
    rcases dN b o' e7 with h|h
    ·exact g3 cM b o o' e (h.trans e7)
    ·exact ZvS (g1.mono (Mem.le_trans eJ iw)) cM e h
   ·rename_i cL
    have gd:i=n:=by
     have:=(List.getElem?_eq_some_iff.1 hv).1
     simp at this;omega
    subst gd
    rw[dL,Nat.sub_self]at hv
    obtain rfl:Value.slice a6 n6 c6=v:=by simpa using hv
    obtain rfl:l=l':=by rw[hl]at hl';exact Option.some.inj hl'
    refine⟨mh.1.mono oF,mh.2.less (Mem.le_trans lH cV),fun cM b o o' e e7=>?_⟩
    rcases dN b o' e7 with h|h
    ·have wR:i≠0:=fun e0=>by rw[wP e0]at h;rw[←h]at e7;cases e7
     exact ZkW dZ (fun e0=>wR (by rw[←dL,e0];rfl)) (h.trans e7) (mh.2 b o e)
    ·exact ZvS (mh.1.mono iw) cM e h
 ·have:n=A.fol.length:=by have:=of_decide_eq_false cL;omega
  subst this
  exact Zaa rfl ⟨m5,Mem.le_trans lH cV,Mem.le_refl _,_,_,_,_,rfl,⟨lf.1.mono (Mem.le_trans eQ cV),lf.2.less aZ⟩,⟨jr.1.mono (Mem.le_trans jo cV),jr.2.less js⟩,⟨jW.1.mono (Mem.le_trans jU cV),jW.2.less nr⟩,a,c,ws,rfl,dZ,dL,f8,fun cM b o o' e ea=>ZxC (lf.1.mono eQ) cM e (qM b o' ea),fun cM b o o' e ea=>ZvS (jr.1.mono jo) cM e (qM b o' ea),fun cM b o o' e ea=>ZvS (jW.1.mono jU) cM e (qM b o' ea),jS⟩
end Go.Proofs.Ytplacemlpkhmfaa
