/- Part of the proof: conditions and contracts of functions of this program. No condition of its own. -/
import Derived.Test.YtplacemlpkhmfaaPVNB
import Derived.Test.YtplacemlpkhmfaaPC17B
set_option linter.unusedVariables false
set_option linter.unusedSimpArgs false
namespace Go.Proofs.Ytplacemlpkhmfaa
open Go Go.Eng Go.Rx Go.Proofs Go.RowKit
set_option maxRecDepth 100000
theorem ZfG{m:Mem}{v:Value}{k esz:Nat}{cs:List Value}(h:RowOk m v k cs){b:Nat}(hb:(Tok.mk v esz).blk=some b):∃c,v=.slice (some ⟨b,0,none⟩) k c∧m.reads b 0 cs∧k≠0:=by
 rcases h with⟨_,rfl⟩|⟨b',c,rfl,h2,h3⟩
 ·simp[Tok.blk]at hb
 ·simp[Tok.blk]at hb;subst hb;exact⟨c,rfl,h2,h3⟩
theorem Zhb{l:List Nat}(h:l.length≠0):∃n:Nat,(Zdy l)[0]?=some (.int .u64 (n:Int)):=by
 cases l with
 | nil=>simp at h
 | cons f l=>exact⟨wdN f 0,rfl⟩
theorem ZoS{m:Mem}{Y:Nat→Prop}{b o:Nat}{cs:List Value}(h:m.reads b o cs)(hb:¬Y b):(m.off Y).reads b o cs:=fun j v hv=>by
 rw[Mem.off_at hb];exact h j v hv
theorem Zrg(s:Ms)(a b mkb:Nat)(t0a t1a:Option Addr)(t0n t0c t1n t1c:Nat)(m:Mem)(h:MkRow m (.slice t0a t0n t0c) (.slice t1a t1n t1c) s)(bO:s.fol.length≤448)(ha:∀i,a.testBit i=true→i < s.fol.length):
  CXY Try.prog 164 #[.pointer (some ⟨mkb,0,none⟩),bwV a,bwV b] m (Yof (.slice t0a t0n t0c) (.slice t1a t1n t1c)) [⟨mkb,[.slice t0a t0n t0c,.slice t1a t1n t1c],98,2,false,true⟩] [⟨.slice t0a t0n t0c,4⟩,⟨.slice t1a t1n t1c,7⟩]
   (fun v m' css tvs=>v=.tuple #[]∧css=[[.slice t0a t0n t0c,.slice t1a t1n t1c]]∧tvs=[.slice t0a t0n t0c,.slice t1a t1n t1c]∧MkRow m' (.slice t0a t0n t0c) (.slice t1a t1n t1c) ⟨s.sets,ZbV s.fol a b⟩):=by
 apply ZfR
 unfold ZdU
 intro b0 m1 bJ _ kV _ b1 m2 bP r8 jh _ b2 m3 cJ _ p8 _
 have mG:m1.le m3:=Mem.le_trans bP cJ
 have r9:m.le m3:=Mem.le_trans bJ mG
 have blk1:∀{k},(Tok.mk (.slice t1a t1n t1c) 7).blk=some k→∃n:Nat,m k 0=some (.int .u64 (n:Int)):=fun {k} hk=>by
  obtain⟨c,_,h2,h3⟩:=ZfG h.row1 hk
  obtain⟨n,hn⟩:=Zhb h3
  exact⟨n,by have:=h2 0 _ hn;simpa using this⟩
 have rH:∀k,Yof (.slice t0a t0n t0c) (.slice t1a t1n t1c) k→∀{m':Mem} {b':Nat},m.le m'→m'.free b'→b'≠k:=fun k hk m' b' cN hf e=>by
  subst e
  rcases hk with hk|hk
  ·obtain⟨c,_,h2,h3⟩:=ZfG h.row0 hk
   have:∃v,(Zb4 s.sets)[0]?=some v:=by
    cases hs:(Zb4 s.sets)[0]? with
    | some v=>exact⟨v,rfl⟩
    | none=>
     have:=ZhV s.sets
     rw[List.getElem?_eq_none_iff]at hs;omega
   obtain⟨v,hv⟩:=this
   have:=cN _ _ _ (h2 0 v hv)
   rw[hf]at this;cases this
  ·obtain⟨n,hn⟩:=blk1 hk
   have:=cN _ _ _ hn
   rw[hf]at this;cases this
 refine Zam (Ztj b1 0 m3) (fun v m' _ h=>by obtain⟨c,rfl,_⟩:=h;rfl) fun g fi ca m4 cY hg=>?_
 obtain⟨c,hv,hc⟩:=hg
 simp only[Value.func.injEq,Fn.func.injEq,Array.mk.injEq]at hv
 obtain⟨rfl,rfl,rfl⟩:=hv
 have mH:m.le m4:=Mem.le_trans r9 cY
 let Z:Nat→Prop:=fun k=>(Tok.mk (.slice t1a t1n t1c) 7).blk=some k
 have vK:¬Z b1:=fun hz=>rH b1 (.inr hz) bJ jh rfl
 have vL:¬Z c:=fun hz=>by
  obtain⟨n,hn⟩:=blk1 hz
  have h1:=mH _ _ _ hn
  have h2:=hc 0 _ rfl
  rw[Nat.zero_add]at h2
  rw[h1]at h2;cases h2
 have pP:=Zrf a b1 0 c (m4.off Z) (ZoS ((r8.mono cJ).mono cY) vK) (ZoS hc vL)
 refine⟨m4.off Z,Mem.off_le m4 Z,_,pP,fun x hx=>?_,fun xs css tvs m' q=>tvs=[.slice t1a t1n t1c]∧q≤(ZcS a).length∧(m4.off Z).le m'∧RowOk m' (.slice t0a t0n t0c) s.sets.length (Zb4 s.sets)∧RowOk m' (.slice t1a t1n t1c) s.fol.length (Zdy (Zgr s.fol ((ZcS a).take q) b)),
  ⟨rfl,Nat.zero_le _,Mem.off_le _ _,h.row0.mono mH,by rw[List.take_zero,Zr7];exact h.row1.mono mH⟩,?_,?_⟩
 ·obtain⟨i,_,rfl⟩:=List.mem_map.1 hx
  rfl
 ·rintro n a' n1 c1 m' q cN hq ⟨dF,rF,_,oP,eF⟩
  obtain⟨rfl,rfl,rfl⟩:a'=t1a∧n1=t1n∧c1=t1c:=by simpa using dF
  have hq':(ZcS a)[q]?.map (fun i=>[Value.int .i64 (i:Nat)])=some [.int .i64 n]:=by rw[←List.getElem?_map];exact hq
  cases hi:(ZcS a)[q]? with
  | none=>rw[hi]at hq';cases hq'
  | some i=>
   rw[hi]at hq'
   obtain rfl:(i:Int)=n:=by simpa using hq'
   have rG:=(List.getElem?_eq_some_iff.1 hi).1
   have oQ:i∈ZcS a:=List.mem_of_getElem? hi
   have jJ:=ha i (ZkK.1 oQ).2
   have oR:i ∉ (ZcS a).take q:=fun hm=>by
    obtain⟨j,hj⟩:=List.getElem?_of_mem hm
    rw[List.getElem?_take]at hj
    split at hj
    ·have hp:=ZhU a
     have h1:=(List.getElem?_eq_some_iff.1 hj)
     have h2:=(List.getElem?_eq_some_iff.1 hi)
     have:=List.pairwise_iff_getElem.1 hp j q h1.1 h2.1 (by assumption)
     rw[h1.2,h2.2]at this;omega
    ·cases hj
   obtain⟨x,hx⟩:∃x,s.fol[i]?=some x:=⟨s.fol[i],by simp[jJ]⟩
   have jN:=Zr8 (b:=b) hx oR
   have bL:=(List.getElem?_eq_some_iff.1 jN).1
   have pV:=ZqU jN
   have cL:Zdy (Zgr s.fol ((ZcS a).take (q+1)) b)=Zdy ((Zgr s.fol ((ZcS a).take q) b).take i)++bwL (x|||b)++Zdy ((Zgr s.fol ((ZcS a).take q) b).drop (i+1)):=by
    rw[List.take_add_one,hi]
    show Zdy (Zgr s.fol ((ZcS a).take q++[i]) b)=_
    rw[ZpK hx oR,Zr6 bL]
   rcases eF with⟨h0,_⟩|⟨bb,c,hv,cQ,hk⟩
   ·omega
   ·simp only[Value.slice.injEq]at hv
    obtain⟨rfl,rfl,rfl⟩:=hv
    have hA:(Zdy ((Zgr s.fol ((ZcS a).take q) b).take i)).length=i*7:=by
     rw[ZhW,List.length_take,Nat.min_eq_left (by omega)]
    rw[pV]at cQ
    have ic:=Zvt x b bb s.fol.length c1 (Zdy ((Zgr s.fol ((ZcS a).take q) b).take i)) (Zdy ((Zgr s.fol ((ZcS a).take q) b).drop (i+1))) m' cQ
    rw[hA]at ic
    simp only[Nat.zero_add,Int.toNat_natCast]
    refine⟨fun _ _ _ _ _ _=>True,by trivial,Zan (v:=.slice (some ⟨bb,0,none⟩) s.fol.length c1) rfl (Zab rfl ⟨bb,0,rfl,⟨by omega,by show(i:Int) < (s.fol.length:Nat);omega⟩,(fun k=>k=bb),_,(by rw[Nat.zero_add];exact ic),?_,?_,?_,?_⟩)⟩
    ·intro t ht k hk
     obtain rfl:=List.mem_singleton.1 ht
     simp[Tok.blk]at hk;exact hk.symm
    ·intro k hk
     refine .inl ⟨_,List.mem_singleton.2 rfl,?_⟩
     rw[hk];rfl
    ·rintro v _ _ _ ⟨rfl,_⟩;rfl
    ·rintro m5 eA wX a5 c5 d5 ⟨_,_,sd,se⟩
     have keep:∀k o v,k≠bb→m' k o=some v→m5 k o=some v:=fun k o v hk hv=>eA k o v (by rw[Mem.off_at (Y:=fun k=>k=bb) hk];exact hv)
     have oS:(m4.off Z).le m5:=fun k o v hv=>by
      by_cases hk:k=bb
      ·subst hk
       unfold Mem.off at hv
       rw[if_pos (show Z k by rfl)]at hv;cases hv
      ·exact keep k o v hk (cN k o v hv)
     refine⟨oS,by trivial,by trivial,sd,by omega,oS,?_,.inr ⟨bb,c1,rfl,by rw[cL];exact se,hk⟩⟩
     rcases oP with h0|⟨b6,c6,h6,h7,h8⟩
     ·exact .inl h0
     ·refine .inr ⟨b6,c6,h6,fun j v hv=>?_,h8⟩
      refine keep _ _ _ (fun e=>?_) (h7 j v hv)
      subst e
      exact h.ne b6 (by rw[h6];rfl) rfl
 ·rintro a' n1 c1 m' cN ⟨dF,_,_,oP,eF⟩
  obtain⟨rfl,rfl,rfl⟩:a'=t1a∧n1=t1n∧c1=t1c:=by simpa using dF
  refine⟨by trivial,rfl,rfl,rfl,oP,?_,h.ne⟩
  have e:Zgr s.fol ((ZcS a).take ((ZcS a).map fun i=>[Value.int .i64 (i:Nat)]).length) b=ZbV s.fol a b:=by
   rw[List.length_map,List.take_length]
   exact Zr9 fun i hi=>by rw[ZkK];exact⟨fun h=>h.2,fun h=>⟨by omega,h⟩⟩
  rw[e]at eF
  show RowOk m' _ (ZbV s.fol a b).length _
  rw[ZkL];exact eF
end Go.Proofs.Ytplacemlpkhmfaa

