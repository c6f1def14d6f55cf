/- Part of the proof: conditions and contracts of functions of this program. No condition of its own. -/
import Derived.Test.YtplacemlpkhmfaaPVNM
import Derived.Test.YtplacemlpkhmfaaPC17Q
import Derived.Test.YtplacemlpkhmfaaPC17R
import Derived.Test.YtplacemlpkhmfaaPC17N
import Derived.Test.YtplacemlpkhmfaaPC17O
import Derived.Test.YtplacemlpkhmfaaPC13E
import Derived.Test.YtplacemlpkhmfaaPC13J
import Derived.Test.YtplacemlpkhmfaaMr
set_option linter.unusedVariables false
set_option linter.unusedSimpArgs false
namespace Go.Proofs.Ytplacemlpkhmfaa
open Go Go.Eng Go.Rx Go.Proofs Go.RowKit
set_option maxRecDepth 100000
theorem ZvR{t:T}(h:t.nfit=true):(Zv3 t.auto).length=t.auto.sets.length:=by
 classical
 have hn:t.auto.sets.length≤400:=(ZiK h).n
 unfold Zv3
 rw[List.length_map]
 have e:((List.range 448).filter fun i=>decide (t.auto.Reach i∧t.auto.turn.Reach i))=List.range t.auto.sets.length:=by
  refine ZmU _ _ (List.pairwise_lt_range.filter _) List.pairwise_lt_range fun x=>?_
  simp only[List.mem_filter,List.mem_range,decide_eq_true_eq,Ztm h]
  omega
 have e2:=congrArg List.length e
 rw[List.length_range]at e2
 exact e2
theorem ZtR{m:Mem}{a:Option Addr}{s:List Nat}(h:Byt m a s)(k:Nat):Byt m a (s.take k):=by
 refine⟨?_,fun c hc=>h.2 c (List.mem_of_mem_take hc)⟩
 rcases h.1 with h1|⟨b,o,h1,h2⟩
 ·left;rw[h1];simp
 ·exact .inr ⟨b,o,h1,fun j v hj=>h2 j v (by
   rw[List.map_take,List.getElem?_take]at hj
   split at hj
   ·exact hj
   ·cases hj)⟩
def Zjf(t:T)(s:List Nat)(k:Nat):Bool:=decide (0 < (ZwR t s k).length)
theorem Zro{t:T}(hg:t.good=true){s:List Nat}(hs:s.length≤512)(k:Nat)(hk:k≤s.length):Zjf t s k=true↔∃i,i≤k∧t.M s i k:=by
 unfold Zjf
 rw[decide_eq_true_eq]
 constructor
 ·intro h
  obtain⟨i,hi⟩:=List.exists_mem_of_length_pos h
  have:=(Zsd hg hs hk).1 hi
  exact⟨i,Zzb hg this,this⟩
 ·rintro⟨i,_,h⟩
  exact List.length_pos_of_mem ((Zsd hg hs hk).2 h)
def Zfc(t:T)(s:List Nat)(k:Nat):List Int:=((List.range k).filter (Zjf t s)).map fun j:Nat=>(j:Int)
theorem Zla(t:T)(s:List Nat)(k:Nat):Zfc t s (k+1)=Zfc t s k++if Zjf t s k then[(k:Int)]else[]:=by
 unfold Zfc
 rw[List.range_succ,List.filter_append,List.map_append]
 congr 1
 rw[List.filter_cons]
 cases Zjf t s k <;> rfl
theorem Zrp(t:T)(s:List Nat)(k:Nat):(Zfc t s k).length≤k:=by
 unfold Zfc
 rw[List.length_map]
 exact Nat.le_trans (List.length_filter_le _ _) (by simp)
theorem Zmd(l:List (Nat×Nat×Nat))(a:Option Addr)(c:Nat)(s:List Nat)(sa:Option Addr)(sc:Nat)(m:Mem)(hl:Sm m a l)(hc:l.length≤c)(hs:Byt m sa s)(t8:s.length≤sc):CX Try.prog 8 #[.slice a l.length c,.slice sa s.length sc] m [] (Ret (.bool true)):=by
 apply ZfU
 unfold Zc4
 refine Zak (Zrn m) fun m1 bJ=>Za7 rfl ?_
 refine Zap (Zw2 l a c m1 (hl.mono bJ) hc) Ziz (Zs6 fun t m2 bT hr ht=>?_)
 intro b
 have hm:(if(30:Int) < (s.length:Int)then(30:Int)else(s.length:Int))=((s.take 30).length:Nat):=by
  rw[List.length_take];split <;> omega
 have gt:ZaJ sa 0 sc 1=sa:=rfl
 simp only[hm,gt,Int.toNat_natCast,Nat.sub_zero]
 refine⟨⟨by omega,by rw[List.length_take];omega⟩,?_⟩
 have tf:(s.take 30).length≤30:=by rw[List.length_take];omega
 have pE:=(ZtR hs 30).mono (Mem.le_trans bJ bT)
 generalize gy:s.take 30=bs at *
 have pj:=Zv2 t m2 hr
 rw[(Zpe ht).1,(Zpe ht).2]at pj
 have dQ:=(ZmP ht).1
 have lT:=(ZqH ht).1
 have hA:=ZiK dQ
 have pF:=ZqP dQ
 have hq:=ZxW hr
 have pG:=ZvR dQ
 have pH:=Zpd dQ
 have pI:=Znv dQ bs
 have lg:=Zpq dQ bs (Zjf t bs) (Zro lT (by omega))
 have fV:t.positions=t.pos:=by unfold T.positions;rw[(ZdD dQ).1,if_pos rfl]
 have hw:∀i:Nat,i≤bs.length→t.wrong bs.length i=0:=fun i hi=>by rw[ZqQ ht];unfold ZyY;rw[if_neg (by omega),if_neg (by omega)]
 have wo:T.matches t bs=t.auto.matches bs:=by
  rw[Bool.eq_iff_iff,pI]
  unfold T.matches
  have pJ:=hw 0 (Nat.zero_le _)
  simp only[Int.natCast_zero]at pJ
  rw[pJ]
  have:=Zvl lT (s:=bs) (by omega) (i:=0) (j:=bs.length) (by omega)
  rw[Nat.pow_zero]at this
  simp only[beq_self_eq_true,Bool.true_and]
  exact this
 clear pI
 generalize wK:t.auto=A at *
 refine Zap pj ZgA (ZuK fun a1 a2 a3 a4 c1 c2 c3 c4 m3 cH hN b2=>?_)
 have lh:=pE.mono cH
 have pB:=Zk9 A hq _ bs sa sc m3 hN lh (by omega)
 rw[pF,if_pos rfl,Bool.true_and]at pB
 refine Zap pB (by rintro v m' css rfl;rfl) ?_
 rintro b3 n13 m4 cQ hv
 simp only[Ret,Value.tuple.injEq,Array.mk.injEq,List.cons.injEq,Value.bool.injEq,Value.int.injEq,true_and,and_true]at hv
 obtain⟨rfl,rfl⟩:=hv
 have pJ:=hw 0 (Nat.zero_le _)
 simp only[Int.natCast_zero]at pJ
 have t9:=Zq7 t sa bs sc m4 (hr.mono (Mem.le_trans cH cQ)) (fun _=>lh.mono cQ)
 rw[pJ,wo]at t9
 refine Zap t9 (by rintro v m' css rfl;rfl) ?_
 rintro b4 n14 m5 cW hv
 simp only[Ret,Value.tuple.injEq,Array.mk.injEq,List.cons.injEq,Value.bool.injEq,Value.int.injEq,true_and,and_true]at hv
 obtain⟨rfl,rfl⟩:=hv
 have kJ:=Mem.le_trans cQ cW
 have ua:=Zje A pF hq _ bs sa sc m5 (hN.mono kJ) (lh.mono kJ)
 have bY:A.runE bs.length=0:=by unfold Nf.runE;rw[if_neg (by rw[pF];simp),if_neg (by omega)]
 rw[bY,if_pos rfl,lg]at ua
 refine Zap ua Zjd (ZvQ fun a13 c5 m6 eV pK wp=>?_)
 have ub:=Mem.le_trans kJ eV
 refine Zap (Zrm A _ m6 (hN.mono ub) pF) Zjd (ZvQ fun a16 c6 m7 jb lP wL=>?_)
 have tg:=Mem.le_trans ub jb
 refine⟨fun k _ _=>bif Nat.beq k 12 then Ret (.bool true)else Ret (.int .i64 t.positions),ZxY rfl ?_⟩
 have nr:=Zma A _ m7 (hN.mono tg)
 rw[pF]at nr
 refine⟨Ret (.bool true),rfl,nr,(by rintro v m' css rfl;rfl),?_⟩
 rintro b5 m8 kH hv
 obtain rfl:b5=true:=by simpa[Ret]using hv
 refine ZxY rfl (ZxY (by cases A.matches bs <;> rfl) (ZxY (by rw[pG];simp) ?_))
 refine⟨Ret (.int .i64 t.positions),rfl,Zgk t m8 (hr.mono (Mem.le_trans cH (Mem.le_trans tg kH))),(by rintro v m' css rfl;rfl),?_⟩
 rintro n19 m9 qb hv M dR dG gW
 obtain rfl:n19=t.positions:=by simpa[Ret]using hv
 refine ZxY (by rw[fV,←pH];simp) ?_
 have fU:IntKind.i64.wrap ((bs.length:Int)+1)=((bs.length+1:Nat):Int):=by rw[Zat (by omega) (by omega)];rfl
 refine⟨fun xs css tvs m' q=>∃(k:Nat)(a':Option Addr)(c':Nat),k≤bs.length+1∧xs=[.slice a' (Zfc t bs k).length c',.int .i64 k]∧tvs=[.slice a' (Zfc t bs k).length c']∧rowRd m' a' (ZaA (Zfc t bs k))∧q=bs.length+1 - k,
  ⟨_,0,none,0,by omega,rfl,rfl,.inl rfl,rfl⟩,?_⟩
 rintro a26 n20 c7 n21 a27 n22 c8 m10 q jL ⟨k,a',c',hk,gn,dE,bZ,rfl⟩
 simp only[List.cons.injEq,Value.slice.injEq,Value.int.injEq,true_and,and_true]at gn dE
 obtain⟨⟨rfl,rfl,rfl⟩,rfl⟩:=gn
 obtain⟨rfl,rfl,rfl⟩:=dE
 rw[fU]
 have mR:m3.le m10:=Mem.le_trans tg (Mem.le_trans dR jL)
 refine Zab (fun bS=>?_) (fun cX=>?_)
 ·have hk':k≤bs.length:=by have:=of_decide_eq_true bS;omega
  have uc:=Ztx t sa bs sc k m10 (hr.mono (Mem.le_trans cH mR)) (fun _=>lh.mono mR)
  have nB:T.list t bs (k:Int) true=ZwR t bs k:=by
   unfold T.list;rw[if_pos (hw k hk')];rfl
  rw[hw k hk',nB]at uc
  refine Zap uc Zm0 ?_
  rintro a30 n24 c9 n25 m11 jp ⟨ax,cx,hv,ti⟩
  simp only[Value.tuple.injEq,Array.mk.injEq,List.cons.injEq,Value.slice.injEq,Value.int.injEq,true_and,and_true]at hv
  obtain⟨⟨rfl,rfl,rfl⟩,rfl⟩:=hv
  refine ZxY rfl ?_
  have ud:IntKind.i64.wrap ((k:Int)+1)=((k+1:Nat):Int):=by rw[Zat (by omega) (by omega)];rfl
  have wM:=Zrp t bs k
  refine Zab (fun hp=>?_) (fun hp=>?_)
  ·have nb:Zjf t bs k=true:=by
    unfold Zjf;rw[decide_eq_true_eq];have:=of_decide_eq_true hp;omega
   have kI:=Zla t bs k
   rw[nb,if_pos rfl]at kI
   have fZ:(Zfc t bs (k+1)).length=(Zfc t bs k).length+1:=by rw[kI,List.length_append,List.length_singleton]
   intro b6 cA
   refine⟨.inl rfl,ZaA (Zfc t bs k),[.int .i64 k],by simp[ZaA],rfl,(bZ.mono jp).mono (Mem.le_add cA _),.inr ⟨b6,0,rfl,fun j v hj=>by rw[Nat.zero_add,Mem.add_same];exact hj⟩,?_,by omega,by omega,?_⟩
   ·intro u hu
    obtain rfl:u=.int .i64 k:=by simpa using hu
    rfl
   ·intro a2 c2 m12 iV gj
    rw[ud]
    refine⟨by trivial,_,?_,k+1,a2,c2,by omega,by rw[fZ],by rw[fZ],?_,rfl⟩
    ·omega
    ·rw[kI,ZiI];exact gj
  ·have nb:Zjf t bs k=false:=by
    unfold Zjf;rw[decide_eq_false_iff_not];have:=of_decide_eq_false hp;omega
   have kI:=Zla t bs k
   rw[nb]at kI
   have nf:Zfc t bs (k+1)=Zfc t bs k:=by rw[kI];simp
   rw[ud]
   refine⟨by trivial,_,?_,k+1,_,_,by omega,by rw[nf],by rw[nf],by rw[nf];exact bZ.mono jp,rfl⟩
   omega
 ·have hk':k=bs.length+1:=by have:=of_decide_eq_false cX;omega
  subst hk'
  refine Zak (Zp0 (Zfc t bs (bs.length+1)) (Zfc t bs (bs.length+1)) a13 _ c5 _ m10 (pK.mono (Mem.le_trans jb (Mem.le_trans dR jL))) bZ wp) fun m11 jp=>?_
  refine Zac (Mem.le_trans bJ (Mem.le_trans bT (Mem.le_trans cH (Mem.le_trans mR jp)))) ?_
  simp
end Go.Proofs.Ytplacemlpkhmfaa

