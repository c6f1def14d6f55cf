/- Part of the proof: conditions and contracts of functions of this program. No condition of its own. -/
import Derived.Test.YtplacemlpkhmfaaPVNB
import Derived.Test.YtplacemlpkhmfaaPC17B
set_option linter.unusedVariables false
set_option linter.unusedSimpArgs false
namespace Go.Proofs.Ytplacemlpkhmfaa
open Go Go.Eng Go.Rx Go.Proofs Go.RowKit
set_option maxRecDepth 100000
theorem Zf9{m:Mem}{v:Value}{k esz:Nat}{cs:List Value}(h:RowOk m v k cs){b:Nat}(hb:(Tok.mk v esz).blk=some b):∃c,v=.slice (some ⟨b,0,none⟩) k c∧m.reads b 0 cs∧k≠0:=by
 rcases h with⟨_,rfl⟩|⟨b',c,rfl,h2,h3⟩
 ·simp[Tok.blk]at hb
 ·simp[Tok.blk]at hb;subst hb;exact⟨c,rfl,h2,h3⟩
theorem ZhN{l:List Nat}(h:l.length≠0):∃n:Nat,(Zdz l)[0]?=some (.int .u64 (n:Int)):=by
 cases l with
 | nil=>simp at h
 | cons f l=>exact⟨wdN f 0,rfl⟩
theorem ZpT{m:Mem}{Y:Nat→Prop}{b o:Nat}{cs:List Value}(h:m.reads b o cs)(hb:¬Y b):(m.off Y).reads b o cs:=fun j v hv=>by
 rw[Mem.off_at hb];exact h j v hv
theorem Zsl(s:Ms)(a b mkb:Nat)(t0a t1a:Option Addr)(t0n t0c t1n t1c:Nat)(m:Mem)(h:MkRow m (.slice t0a t0n t0c) (.slice t1a t1n t1c) s)(bX:s.fol.length≤448)(ha:∀i,a.testBit i=true→i < s.fol.length):
  CXY Try.prog 164 #[.pointer (some ⟨mkb,0,none⟩),bwV a,bwV b] m (Yof (.slice t0a t0n t0c) (.slice t1a t1n t1c)) [⟨mkb,[.slice t0a t0n t0c,.slice t1a t1n t1c],98,2,false,true⟩] [⟨.slice t0a t0n t0c,4⟩,⟨.slice t1a t1n t1c,7⟩]
   (fun v m' css tvs=>v=.tuple #[]∧css=[[.slice t0a t0n t0c,.slice t1a t1n t1c]]∧tvs=[.slice t0a t0n t0c,.slice t1a t1n t1c]∧MkRow m' (.slice t0a t0n t0c) (.slice t1a t1n t1c) ⟨s.sets,ZbR s.fol a b⟩):=by
 apply Zgq
 unfold Zd0
 intro b0 m1 bJ _ kF _ b1 m2 bT rY kC _ b2 m3 cH _ qa _
 have mM:m1.le m3:=Mem.le_trans bT cH
 have rZ:m.le m3:=Mem.le_trans bJ mM
 have blk1:∀{k},(Tok.mk (.slice t1a t1n t1c) 7).blk=some k→∃n:Nat,m k 0=some (.int .u64 (n:Int)):=fun {k} hk=>by
  obtain⟨c,_,h2,h3⟩:=Zf9 h.row1 hk
  obtain⟨n,hn⟩:=ZhN h3
  exact⟨n,by have:=h2 0 _ hn;simpa using this⟩
 have rC:∀k,Yof (.slice t0a t0n t0c) (.slice t1a t1n t1c) k→∀{m':Mem} {b':Nat},m.le m'→m'.free b'→b'≠k:=fun k hk m' b' cS hf e=>by
  subst e
  rcases hk with hk|hk
  ·obtain⟨c,_,h2,h3⟩:=Zf9 h.row0 hk
   have:∃v,(ZbY s.sets)[0]?=some v:=by
    cases hs:(ZbY s.sets)[0]? with
    | some v=>exact⟨v,rfl⟩
    | none=>
     have:=ZiC s.sets
     rw[List.getElem?_eq_none_iff]at hs;omega
   obtain⟨v,hv⟩:=this
   have:=cS _ _ _ (h2 0 v hv)
   rw[hf]at this;cases this
  ·obtain⟨n,hn⟩:=blk1 hk
   have:=cS _ _ _ hn
   rw[hf]at this;cases this
 refine Zap (ZuC b1 0 m3) (fun v m' _ h=>by obtain⟨c,rfl,_⟩:=h;rfl) fun g fi ca m4 cQ hg=>?_
 obtain⟨c,hv,hc⟩:=hg
 simp only[Value.func.injEq,Fn.func.injEq,Array.mk.injEq]at hv
 obtain⟨rfl,rfl,rfl⟩:=hv
 have mN:m.le m4:=Mem.le_trans rZ cQ
 let Z:Nat→Prop:=fun k=>(Tok.mk (.slice t1a t1n t1c) 7).blk=some k
 have vE:¬Z b1:=fun hz=>rC b1 (.inr hz) bJ kC rfl
 have vF:¬Z c:=fun hz=>by
  obtain⟨n,hn⟩:=blk1 hz
  have h1:=mN _ _ _ hn
  have h2:=hc 0 _ rfl
  rw[Nat.zero_add]at h2
  rw[h1]at h2;cases h2
 have pU:=Zsk a b1 0 c (m4.off Z) (ZpT ((rY.mono cH).mono cQ) vE) (ZpT hc vF)
 refine⟨m4.off Z,Mem.off_le m4 Z,_,pU,fun x hx=>?_,fun xs css tvs m' q=>tvs=[.slice t1a t1n t1c]∧q≤(ZcI a).length∧(m4.off Z).le m'∧RowOk m' (.slice t0a t0n t0c) s.sets.length (ZbY s.sets)∧RowOk m' (.slice t1a t1n t1c) s.fol.length (Zdz (Zg8 s.fol ((ZcI a).take q) b)),
  ⟨rfl,Nat.zero_le _,Mem.off_le _ _,h.row0.mono mN,by rw[List.take_zero,Ztd];exact h.row1.mono mN⟩,?_,?_⟩
 ·obtain⟨i,_,rfl⟩:=List.mem_map.1 hx
  rfl
 ·rintro n a' n1 c1 m' q cS hq ⟨dE,rA,_,oM,eO⟩
  obtain⟨rfl,rfl,rfl⟩:a'=t1a∧n1=t1n∧c1=t1c:=by simpa using dE
  have hq':(ZcI a)[q]?.map (fun i=>[Value.int .i64 (i:Nat)])=some [.int .i64 n]:=by rw[←List.getElem?_map];exact hq
  cases hi:(ZcI a)[q]? with
  | none=>rw[hi]at hq';cases hq'
  | some i=>
   rw[hi]at hq'
   obtain rfl:(i:Int)=n:=by simpa using hq'
   have rB:=(List.getElem?_eq_some_iff.1 hi).1
   have oN:i∈ZcI a:=List.mem_of_getElem? hi
   have jR:=ha i (ZlK.1 oN).2
   have oO:i ∉ (ZcI a).take q:=fun hm=>by
    obtain⟨j,hj⟩:=List.getElem?_of_mem hm
    rw[List.getElem?_take]at hj
    split at hj
    ·have hp:=ZiB a
     have h1:=(List.getElem?_eq_some_iff.1 hj)
     have h2:=(List.getElem?_eq_some_iff.1 hi)
     have:=List.pairwise_iff_getElem.1 hp j q h1.1 h2.1 (by assumption)
     rw[h1.2,h2.2]at this;omega
    ·cases hj
   obtain⟨x,hx⟩:∃x,s.fol[i]?=some x:=⟨s.fol[i],by simp[jR]⟩
   have jW:=Zte (b:=b) hx oO
   have bR:=(List.getElem?_eq_some_iff.1 jW).1
   have p6:=ZrZ jW
   have cM:Zdz (Zg8 s.fol ((ZcI a).take (q+1)) b)=Zdz ((Zg8 s.fol ((ZcI a).take q) b).take i)++bwL (x|||b)++Zdz ((Zg8 s.fol ((ZcI a).take q) b).drop (i+1)):=by
    rw[List.take_add_one,hi]
    show Zdz (Zg8 s.fol ((ZcI a).take q++[i]) b)=_
    rw[ZqJ hx oO,Ztc bR]
   rcases eO with⟨h0,_⟩|⟨bb,c,hv,cU,hk⟩
   ·omega
   ·simp only[Value.slice.injEq]at hv
    obtain⟨rfl,rfl,rfl⟩:=hv
    have hA:(Zdz ((Zg8 s.fol ((ZcI a).take q) b).take i)).length=i*7:=by
     rw[ZiD,List.length_take,Nat.min_eq_left (by omega)]
    rw[p6]at cU
    have iH:=Zw6 x b bb s.fol.length c1 (Zdz ((Zg8 s.fol ((ZcI a).take q) b).take i)) (Zdz ((Zg8 s.fol ((ZcI a).take q) b).drop (i+1))) m' cU
    rw[hA]at iH
    simp only[Nat.zero_add,Int.toNat_natCast]
    refine⟨fun _ _ _ _ _ _=>True,by trivial,Zam (v:=.slice (some ⟨bb,0,none⟩) s.fol.length c1) rfl (Zaa rfl ⟨bb,0,rfl,⟨by omega,by show(i:Int) < (s.fol.length:Nat);omega⟩,(fun k=>k=bb),_,(by rw[Nat.zero_add];exact iH),?_,?_,?_,?_⟩)⟩
    ·intro t ht k hk
     obtain rfl:=List.mem_singleton.1 ht
     simp[Tok.blk]at hk;exact hk.symm
    ·intro k hk
     refine .inl ⟨_,List.mem_singleton.2 rfl,?_⟩
     rw[hk];rfl
    ·rintro v _ _ _ ⟨rfl,_⟩;rfl
    ·rintro m5 cW wF a5 c5 d5 ⟨_,_,r5,r6⟩
     have keep:∀k o v,k≠bb→m' k o=some v→m5 k o=some v:=fun k o v hk hv=>cW k o v (by rw[Mem.off_at (Y:=fun k=>k=bb) hk];exact hv)
     have oP:(m4.off Z).le m5:=fun k o v hv=>by
      by_cases hk:k=bb
      ·subst hk
       unfold Mem.off at hv
       rw[if_pos (show Z k by rfl)]at hv;cases hv
      ·exact keep k o v hk (cS k o v hv)
     refine⟨oP,by trivial,by trivial,r5,by omega,oP,?_,.inr ⟨bb,c1,rfl,by rw[cM];exact r6,hk⟩⟩
     rcases oM with h0|⟨b6,c6,h6,h7,h8⟩
     ·exact .inl h0
     ·refine .inr ⟨b6,c6,h6,fun j v hv=>?_,h8⟩
      refine keep _ _ _ (fun e=>?_) (h7 j v hv)
      subst e
      exact h.ne b6 (by rw[h6];rfl) rfl
 ·rintro a' n1 c1 m' cS ⟨dE,_,_,oM,eO⟩
  obtain⟨rfl,rfl,rfl⟩:a'=t1a∧n1=t1n∧c1=t1c:=by simpa using dE
  refine⟨by trivial,rfl,rfl,rfl,oM,?_,h.ne⟩
  have e:Zg8 s.fol ((ZcI a).take ((ZcI a).map fun i=>[Value.int .i64 (i:Nat)]).length) b=ZbR s.fol a b:=by
   rw[List.length_map,List.take_length]
   exact Ztf fun i hi=>by rw[ZlK];exact⟨fun h=>h.2,fun h=>⟨by omega,h⟩⟩
  rw[e]at eO
  show RowOk m' _ (ZbR s.fol a b).length _
  rw[ZlL];exact eO
end Go.Proofs.Ytplacemlpkhmfaa

