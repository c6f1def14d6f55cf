/- Part of the proof: conditions and contracts of functions of this program. No condition of its own. -/
import Derived.Test.YtplacemlpkhmfaaPVNB
import Derived.Test.YtplacemlpkhmfaaPC17B
set_option linter.unusedVariables false
set_option linter.unusedSimpArgs false
namespace Go.Proofs.Ytplacemlpkhmfaa
open Go Go.Eng Go.Rx Go.Proofs Go.RowKit
set_option maxRecDepth 100000
theorem Zfm{m:Mem}{v:Value}{k esz:Nat}{cs:List Value}(h:RowOk m v k cs){b:Nat}(hb:(Tok.mk v esz).blk=some b):∃c,v=.slice (some ⟨b,0,none⟩) k c∧m.reads b 0 cs∧k≠0:=by
 rcases h with⟨_,rfl⟩|⟨b',c,rfl,h2,h3⟩
 ·simp[Tok.blk]at hb
 ·simp[Tok.blk]at hb;subst hb;exact⟨c,rfl,h2,h3⟩
theorem ZgR{l:List Nat}(h:l.length≠0):∃n:Nat,(Zdk l)[0]?=some (.int .u64 (n:Int)):=by
 cases l with
 | nil=>simp at h
 | cons f l=>exact⟨wdN f 0,rfl⟩
theorem Zoe{m:Mem}{Y:Nat→Prop}{b o:Nat}{cs:List Value}(h:m.reads b o cs)(hb:¬Y b):(m.off Y).reads b o cs:=fun j v hv=>by
 rw[Mem.off_at hb];exact h j v hv
theorem Zqu(s:Ms)(a b mkb:Nat)(t0a t1a:Option Addr)(t0n t0c t1n t1c:Nat)(m:Mem)(h:MkRow m (.slice t0a t0n t0c) (.slice t1a t1n t1c) s)(bO:s.fol.length≤448)(ha:∀i,a.testBit i=true→i < s.fol.length):
  CXY Try.prog 164 #[.pointer (some ⟨mkb,0,none⟩),bwV a,bwV b] m (Yof (.slice t0a t0n t0c) (.slice t1a t1n t1c)) [⟨mkb,[.slice t0a t0n t0c,.slice t1a t1n t1c],98,2,false,true⟩] [⟨.slice t0a t0n t0c,4⟩,⟨.slice t1a t1n t1c,7⟩]
   (fun v m' css tvs=>v=.tuple #[]∧css=[[.slice t0a t0n t0c,.slice t1a t1n t1c]]∧tvs=[.slice t0a t0n t0c,.slice t1a t1n t1c]∧MkRow m' (.slice t0a t0n t0c) (.slice t1a t1n t1c) ⟨s.sets,Zdr s.fol a b⟩):=by
 apply ZfC
 unfold ZdG
 intro b0 m1 bH _ kn _ b1 m2 bN rG i5 _ b2 m3 cG _ tC _
 have j3:m1.le m3:=Mem.le_trans bN cG
 have rH:m.le m3:=Mem.le_trans bH j3
 have blk1:∀{k},(Tok.mk (.slice t1a t1n t1c) 7).blk=some k→∃n:Nat,m k 0=some (.int .u64 (n:Int)):=fun {k} hk=>by
  obtain⟨c,_,h2,h3⟩:=Zfm h.row1 hk
  obtain⟨n,hn⟩:=ZgR h3
  exact⟨n,by have:=h2 0 _ hn;simpa using this⟩
 have rh:∀k,Yof (.slice t0a t0n t0c) (.slice t1a t1n t1c) k→∀{m':Mem} {b':Nat},m.le m'→m'.free b'→b'≠k:=fun k hk m' b' cN hf e=>by
  subst e
  rcases hk with hk|hk
  ·obtain⟨c,_,h2,h3⟩:=Zfm h.row0 hk
   have:∃v,(ZbU s.sets)[0]?=some v:=by
    cases hs:(ZbU s.sets)[0]? with
    | some v=>exact⟨v,rfl⟩
    | none=>
     have:=Zdl s.sets
     rw[List.getElem?_eq_none_iff]at hs;omega
   obtain⟨v,hv⟩:=this
   have:=cN _ _ _ (h2 0 v hv)
   rw[hf]at this;cases this
  ·obtain⟨n,hn⟩:=blk1 hk
   have:=cN _ _ _ hn
   rw[hf]at this;cases this
 refine Zam (Zsz b1 0 m3) (fun v m' _ h=>by obtain⟨c,rfl,_⟩:=h;rfl) fun g fi ca m4 cY hg=>?_
 obtain⟨c,hv,hc⟩:=hg
 simp only[Value.func.injEq,Fn.func.injEq,Array.mk.injEq]at hv
 obtain⟨rfl,rfl,rfl⟩:=hv
 have mf:m.le m4:=Mem.le_trans rH cY
 let Z:Nat→Prop:=fun k=>(Tok.mk (.slice t1a t1n t1c) 7).blk=some k
 have vh:¬Z b1:=fun hz=>rh b1 (.inr hz) bH i5 rfl
 have vj:¬Z c:=fun hz=>by
  obtain⟨n,hn⟩:=blk1 hz
  have h1:=mf _ _ _ hn
  have h2:=hc 0 _ rfl
  rw[Nat.zero_add]at h2
  rw[h1]at h2;cases h2
 have pz:=Zqt a b1 0 c (m4.off Z) (Zoe ((rG.mono cG).mono cY) vh) (Zoe hc vj)
 refine⟨m4.off Z,Mem.off_le m4 Z,_,pz,fun x hx=>?_,fun xs css tvs m' q=>tvs=[.slice t1a t1n t1c]∧q≤(ZcG a).length∧(m4.off Z).le m'∧RowOk m' (.slice t0a t0n t0c) s.sets.length (ZbU s.sets)∧RowOk m' (.slice t1a t1n t1c) s.fol.length (Zdk (Zgd s.fol ((ZcG a).take q) b)),
  ⟨rfl,Nat.zero_le _,Mem.off_le _ _,h.row0.mono mf,by rw[List.take_zero,Zrr];exact h.row1.mono mf⟩,?_,?_⟩
 ·obtain⟨i,_,rfl⟩:=List.mem_map.1 hx
  rfl
 ·rintro n a' n1 c1 m' q cN hq ⟨dA,rd,_,om,eB⟩
  obtain⟨rfl,rfl,rfl⟩:a'=t1a∧n1=t1n∧c1=t1c:=by simpa using dA
  have hq':(ZcG a)[q]?.map (fun i=>[Value.int .i64 (i:Nat)])=some [.int .i64 n]:=by rw[←List.getElem?_map];exact hq
  cases hi:(ZcG a)[q]? with
  | none=>rw[hi]at hq';cases hq'
  | some i=>
   rw[hi]at hq'
   obtain rfl:(i:Int)=n:=by simpa using hq'
   have re:=(List.getElem?_eq_some_iff.1 hi).1
   have oo:i∈ZcG a:=List.mem_of_getElem? hi
   have jC:=ha i (Zkj.1 oo).2
   have oq:i ∉ (ZcG a).take q:=fun hm=>by
    obtain⟨j,hj⟩:=List.getElem?_of_mem hm
    rw[List.getElem?_take]at hj
    split at hj
    ·have hp:=ZhA a
     have h1:=(List.getElem?_eq_some_iff.1 hj)
     have h2:=(List.getElem?_eq_some_iff.1 hi)
     have:=List.pairwise_iff_getElem.1 hp j q h1.1 h2.1 (by assumption)
     rw[h1.2,h2.2]at this;omega
    ·cases hj
   obtain⟨x,hx⟩:∃x,s.fol[i]?=some x:=⟨s.fol[i],by simp[jC]⟩
   have iO:=Zrs (b:=b) hx oq
   have bJ:=(List.getElem?_eq_some_iff.1 iO).1
   have k9:=Zqj iO
   have cF:Zdk (Zgd s.fol ((ZcG a).take (q+1)) b)=Zdk ((Zgd s.fol ((ZcG a).take q) b).take i)++bwL (x|||b)++Zdk ((Zgd s.fol ((ZcG a).take q) b).drop (i+1)):=by
    rw[List.take_add_one,hi]
    show Zdk (Zgd s.fol ((ZcG a).take q++[i]) b)=_
    rw[Zo2 hx oq,Zrq bJ]
   rcases eB with⟨h0,_⟩|⟨bb,c,hv,cM,hk⟩
   ·omega
   ·simp only[Value.slice.injEq]at hv
    obtain⟨rfl,rfl,rfl⟩:=hv
    have hA:(Zdk ((Zgd s.fol ((ZcG a).take q) b).take i)).length=i*7:=by
     rw[ZhC,List.length_take,Nat.min_eq_left (by omega)]
    rw[k9]at cM
    have hO:=ZuI x b bb s.fol.length c1 (Zdk ((Zgd s.fol ((ZcG a).take q) b).take i)) (Zdk ((Zgd s.fol ((ZcG a).take q) b).drop (i+1))) m' cM
    rw[hA]at hO
    simp only[Nat.zero_add,Int.toNat_natCast]
    refine⟨fun _ _ _ _ _ _=>True,by trivial,Zap (v:=.slice (some ⟨bb,0,none⟩) s.fol.length c1) rfl (Zaa rfl ⟨bb,0,rfl,⟨by omega,by show(i:Int) < (s.fol.length:Nat);omega⟩,(fun k=>k=bb),_,(by rw[Nat.zero_add];exact hO),?_,?_,?_,?_⟩)⟩
    ·intro t ht k hk
     obtain rfl:=List.mem_singleton.1 ht
     simp[Tok.blk]at hk;exact hk.symm
    ·intro k hk
     refine .inl ⟨_,List.mem_singleton.2 rfl,?_⟩
     rw[hk];rfl
    ·rintro v _ _ _ ⟨rfl,_⟩;rfl
    ·rintro m5 dX wj a5 c5 d5 ⟨_,_,rI,rJ⟩
     have keep:∀k o v,k≠bb→m' k o=some v→m5 k o=some v:=fun k o v hk hv=>dX k o v (by rw[Mem.off_at (Y:=fun k=>k=bb) hk];exact hv)
     have ou:(m4.off Z).le m5:=fun k o v hv=>by
      by_cases hk:k=bb
      ·subst hk
       unfold Mem.off at hv
       rw[if_pos (show Z k by rfl)]at hv;cases hv
      ·exact keep k o v hk (cN k o v hv)
     refine⟨ou,by trivial,by trivial,rI,by omega,ou,?_,.inr ⟨bb,c1,rfl,by rw[cF];exact rJ,hk⟩⟩
     rcases om with h0|⟨b6,c6,h6,h7,h8⟩
     ·exact .inl h0
     ·refine .inr ⟨b6,c6,h6,fun j v hv=>?_,h8⟩
      refine keep _ _ _ (fun e=>?_) (h7 j v hv)
      subst e
      exact h.ne b6 (by rw[h6];rfl) rfl
 ·rintro a' n1 c1 m' cN ⟨dA,_,_,om,eB⟩
  obtain⟨rfl,rfl,rfl⟩:a'=t1a∧n1=t1n∧c1=t1c:=by simpa using dA
  refine⟨by trivial,rfl,rfl,rfl,om,?_,h.ne⟩
  have e:Zgd s.fol ((ZcG a).take ((ZcG a).map fun i=>[Value.int .i64 (i:Nat)]).length) b=Zdr s.fol a b:=by
   rw[List.length_map,List.take_length]
   exact Zrt fun i hi=>by rw[Zkj];exact⟨fun h=>h.2,fun h=>⟨by omega,h⟩⟩
  rw[e]at eB
  show RowOk m' _ (Zdr s.fol a b).length _
  rw[Zkk];exact eB
end Go.Proofs.Ytplacemlpkhmfaa

