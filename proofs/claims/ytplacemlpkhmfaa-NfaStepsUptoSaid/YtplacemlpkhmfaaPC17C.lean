/- Part of the proof: conditions and contracts of functions of this program. No condition of its own. -/
import Derived.Test.YtplacemlpkhmfaaPVNB
import Derived.Test.YtplacemlpkhmfaaPC17B
set_option linter.unusedVariables false
set_option linter.unusedSimpArgs false
namespace Go.Proofs.Ytplacemlpkhmfaa
open Go Go.Eng Go.Rx Go.Proofs Go.RowKit
set_option maxRecDepth 100000
theorem ZeL{m:Mem}{v:Value}{k esz:Nat}{cs:List Value}(h:RowOk m v k cs){b:Nat}(hb:(Tok.mk v esz).blk=some b):∃c,v=.slice (some ⟨b,0,none⟩) k c∧m.reads b 0 cs∧k≠0:=by
 rcases h with⟨_,rfl⟩|⟨b',c,rfl,h2,h3⟩
 ·simp[Tok.blk]at hb
 ·simp[Tok.blk]at hb;subst hb;exact⟨c,rfl,h2,h3⟩
theorem Zgw{l:List Nat}(h:l.length≠0):∃n:Nat,(ZcY l)[0]?=some (.int .u64 (n:Int)):=by
 cases l with
 | nil=>simp at h
 | cons f l=>exact⟨wdN f 0,rfl⟩
theorem ZnW{m:Mem}{Y:Nat→Prop}{b o:Nat}{cs:List Value}(h:m.reads b o cs)(hb:¬Y b):(m.off Y).reads b o cs:=fun j v hv=>by
 rw[Mem.off_at hb];exact h j v hv
theorem Zp0(s:Ms)(a b mkb:Nat)(t0a t1a:Option Addr)(t0n t0c t1n t1c:Nat)(m:Mem)(h:MkRow m (.slice t0a t0n t0c) (.slice t1a t1n t1c) s)(bY:s.fol.length≤448)(ha:∀i,a.testBit i=true→i < s.fol.length):
  CXY Try.prog 164 #[.pointer (some ⟨mkb,0,none⟩),bwV a,bwV b] m (Yof (.slice t0a t0n t0c) (.slice t1a t1n t1c)) [⟨mkb,[.slice t0a t0n t0c,.slice t1a t1n t1c],98,2,false,true⟩] [⟨.slice t0a t0n t0c,4⟩,⟨.slice t1a t1n t1c,7⟩]
   (fun v m' css tvs=>v=.tuple #[]∧css=[[.slice t0a t0n t0c,.slice t1a t1n t1c]]∧tvs=[.slice t0a t0n t0c,.slice t1a t1n t1c]∧MkRow m' (.slice t0a t0n t0c) (.slice t1a t1n t1c) ⟨s.sets,Zdf s.fol a b⟩):=by
 apply Ze0
 unfold Zdh
 intro b0 m1 bD _ kS _ b1 m2 bZ rO lj _ b2 m3 cD _ tK _
 have mz:m1.le m3:=Mem.le_trans bZ cD
 have rP:m.le m3:=Mem.le_trans bD mz
 have blk1:∀{k},(Tok.mk (.slice t1a t1n t1c) 7).blk=some k→∃n:Nat,m k 0=some (.int .u64 (n:Int)):=fun {k} hk=>by
  obtain⟨c,_,h2,h3⟩:=ZeL h.row1 hk
  obtain⟨n,hn⟩:=Zgw h3
  exact⟨n,by have:=h2 0 _ hn;simpa using this⟩
 have nb:∀k,Yof (.slice t0a t0n t0c) (.slice t1a t1n t1c) k→∀{m':Mem} {b':Nat},m.le m'→m'.free b'→b'≠k:=fun k hk m' b' cQ hf e=>by
  subst e
  rcases hk with hk|hk
  ·obtain⟨c,_,h2,h3⟩:=ZeL h.row0 hk
   have:∃v,(Zby s.sets)[0]?=some v:=by
    cases hs:(Zby s.sets)[0]? with
    | some v=>exact⟨v,rfl⟩
    | none=>
     have:=Zdy s.sets
     rw[List.getElem?_eq_none_iff]at hs;omega
   obtain⟨v,hv⟩:=this
   have:=cQ _ _ _ (h2 0 v hv)
   rw[hf]at this;cases this
  ·obtain⟨n,hn⟩:=blk1 hk
   have:=cQ _ _ _ hn
   rw[hf]at this;cases this
 refine Zat (Zr1 b1 0 m3) (fun v m' _ h=>by obtain⟨c,rfl,_⟩:=h;rfl) fun g fi ca m4 dC hg=>?_
 obtain⟨c,hv,hc⟩:=hg
 simp only[Value.func.injEq,Fn.func.injEq,Array.mk.injEq]at hv
 obtain⟨rfl,rfl,rfl⟩:=hv
 have mA:m.le m4:=Mem.le_trans rP dC
 let Z:Nat→Prop:=fun k=>(Tok.mk (.slice t1a t1n t1c) 7).blk=some k
 have vo:¬Z b1:=fun hz=>nb b1 (.inr hz) bD lj rfl
 have vp:¬Z c:=fun hz=>by
  obtain⟨n,hn⟩:=blk1 hz
  have h1:=mA _ _ _ hn
  have h2:=hc 0 _ rfl
  rw[Nat.zero_add]at h2
  rw[h1]at h2;cases h2
 have pO:=ZpW a b1 0 c (m4.off Z) (ZnW ((rO.mono cD).mono dC) vo) (ZnW hc vp)
 refine⟨m4.off Z,Mem.off_le m4 Z,_,pO,fun x hx=>?_,fun xs css tvs m' q=>tvs=[.slice t1a t1n t1c]∧q≤(Zcf a).length∧(m4.off Z).le m'∧RowOk m' (.slice t0a t0n t0c) s.sets.length (Zby s.sets)∧RowOk m' (.slice t1a t1n t1c) s.fol.length (ZcY (ZfH s.fol ((Zcf a).take q) b)),
  ⟨rfl,Nat.zero_le _,Mem.off_le _ _,h.row0.mono mA,by rw[List.take_zero,ZqW];exact h.row1.mono mA⟩,?_,?_⟩
 ·obtain⟨i,_,rfl⟩:=List.mem_map.1 hx
  rfl
 ·rintro n a' n1 c1 m' q cQ hq ⟨dB,oz,_,kA,dS⟩
  obtain⟨rfl,rfl,rfl⟩:a'=t1a∧n1=t1n∧c1=t1c:=by simpa using dB
  have hq':(Zcf a)[q]?.map (fun i=>[Value.int .i64 (i:Nat)])=some [.int .i64 n]:=by rw[←List.getElem?_map];exact hq
  cases hi:(Zcf a)[q]? with
  | none=>rw[hi]at hq';cases hq'
  | some i=>
   rw[hi]at hq'
   obtain rfl:(i:Int)=n:=by simpa using hq'
   have rv:=(List.getElem?_eq_some_iff.1 hi).1
   have oK:i∈Zcf a:=List.mem_of_getElem? hi
   have jI:=ha i (Zj0.1 oK).2
   have oL:i ∉ (Zcf a).take q:=fun hm=>by
    obtain⟨j,hj⟩:=List.getElem?_of_mem hm
    rw[List.getElem?_take]at hj
    split at hj
    ·have hp:=Zhf a
     have h1:=(List.getElem?_eq_some_iff.1 hj)
     have h2:=(List.getElem?_eq_some_iff.1 hi)
     have:=List.pairwise_iff_getElem.1 hp j q h1.1 h2.1 (by assumption)
     rw[h1.2,h2.2]at this;omega
    ·cases hj
   obtain⟨x,hx⟩:∃x,s.fol[i]?=some x:=⟨s.fol[i],by simp[jI]⟩
   have jO:=ZqX (b:=b) hx oL
   have bF:=(List.getElem?_eq_some_iff.1 jO).1
   have pT:=ZpO jO
   have cH:ZcY (ZfH s.fol ((Zcf a).take (q+1)) b)=ZcY ((ZfH s.fol ((Zcf a).take q) b).take i)++bwL (x|||b)++ZcY ((ZfH s.fol ((Zcf a).take q) b).drop (i+1)):=by
    rw[List.take_add_one,hi]
    show ZcY (ZfH s.fol ((Zcf a).take q++[i]) b)=_
    rw[ZoJ hx oL,ZqV bF]
   rcases dS with⟨h0,_⟩|⟨bb,c,hv,cO,hk⟩
   ·omega
   ·simp only[Value.slice.injEq]at hv
    obtain⟨rfl,rfl,rfl⟩:=hv
    have hA:(ZcY ((ZfH s.fol ((Zcf a).take q) b).take i)).length=i*7:=by
     rw[Zhg,List.length_take,Nat.min_eq_left (by omega)]
    rw[pT]at cO
    have iC:=Zt7 x b bb s.fol.length c1 (ZcY ((ZfH s.fol ((Zcf a).take q) b).take i)) (ZcY ((ZfH s.fol ((Zcf a).take q) b).drop (i+1))) m' cO
    rw[hA]at iC
    simp only[Nat.zero_add,Int.toNat_natCast]
    refine⟨fun _ _ _ _ _ _=>True,by trivial,Zas (v:=.slice (some ⟨bb,0,none⟩) s.fol.length c1) rfl (Zaa rfl ⟨bb,0,rfl,⟨by omega,by show(i:Int) < (s.fol.length:Nat);omega⟩,(fun k=>k=bb),_,(by rw[Nat.zero_add];exact iC),?_,?_,?_,?_⟩)⟩
    ·intro t ht k hk
     obtain rfl:=List.mem_singleton.1 ht
     simp[Tok.blk]at hk;exact hk.symm
    ·intro k hk
     refine .inl ⟨_,List.mem_singleton.2 rfl,?_⟩
     rw[hk];rfl
    ·rintro v _ _ _ ⟨rfl,_⟩;rfl
    ·rintro m5 cX wn a5 c5 d5 ⟨_,_,rQ,rR⟩
     have keep:∀k o v,k≠bb→m' k o=some v→m5 k o=some v:=fun k o v hk hv=>cX k o v (by rw[Mem.off_at (Y:=fun k=>k=bb) hk];exact hv)
     have kX:(m4.off Z).le m5:=fun k o v hv=>by
      by_cases hk:k=bb
      ·subst hk
       unfold Mem.off at hv
       rw[if_pos (show Z k by rfl)]at hv;cases hv
      ·exact keep k o v hk (cQ k o v hv)
     refine⟨kX,by trivial,by trivial,rQ,by omega,kX,?_,.inr ⟨bb,c1,rfl,by rw[cH];exact rR,hk⟩⟩
     rcases kA with h0|⟨b6,c6,h6,h7,h8⟩
     ·exact .inl h0
     ·refine .inr ⟨b6,c6,h6,fun j v hv=>?_,h8⟩
      refine keep _ _ _ (fun e=>?_) (h7 j v hv)
      subst e
      exact h.ne b6 (by rw[h6];rfl) rfl
 ·rintro a' n1 c1 m' cQ ⟨dB,_,_,kA,dS⟩
  obtain⟨rfl,rfl,rfl⟩:a'=t1a∧n1=t1n∧c1=t1c:=by simpa using dB
  refine⟨by trivial,rfl,rfl,rfl,kA,?_,h.ne⟩
  have e:ZfH s.fol ((Zcf a).take ((Zcf a).map fun i=>[Value.int .i64 (i:Nat)]).length) b=Zdf s.fol a b:=by
   rw[List.length_map,List.take_length]
   exact ZqY fun i hi=>by rw[Zj0];exact⟨fun h=>h.2,fun h=>⟨by omega,h⟩⟩
  rw[e]at dS
  show RowOk m' _ (Zdf s.fol a b).length _
  rw[Zj1];exact dS
end Go.Proofs.Ytplacemlpkhmfaa

