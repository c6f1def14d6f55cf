/- Part of the proof: conditions and contracts of functions of this program. No condition of its own. -/
import Derived.Test.YtplacemlpkhmfaaPVNR
import Derived.Test.YtplacemlpkhmfaaPC17H
import Derived.Test.YtplacemlpkhmfaaPC13Q
import Derived.Test.YtplacemlpkhmfaaPC13E
import Derived.Test.YtplacemlpkhmfaaMr
set_option linter.unusedVariables false
set_option linter.unusedSimpArgs false
namespace Go.Proofs.Ytplacemlpkhmfaa
open Go Go.Eng Go.Rx Go.Proofs Go.RowKit
set_option maxRecDepth 100000
theorem Zr3{P:Program}{w:World}{n:Nat}{f:Nat→(Option Bool×Unit)→Sem (ForInStep (Option Bool×Unit))}{p:Nat→Bool}(hf:∀i,i < n→(f i (none,())).run P w=.ok (if p i then .yield (none,())else .done (some false,())) w):
  ∀k i,i+k≤n→(forIn (List.range' i k) (none,()) f).run P w=.ok (if(List.range' i k).all p then(none,())else(some false,())) w
 | 0,i,h=>by simp
 | k+1,i,h=>by
  rw[List.range'_succ,List.forIn_cons,Sem.run_bind,hf i (by omega),Result.andThen_ok,List.all_cons]
  cases p i with
  | false=>simp
  | true=>
   have:=Zr3 hf k (i+1) (by omega)
   rw[Bool.true_and]
   exact this
theorem Zu6(xs ys:List Int)(hx:xs.length=256)(hy:ys.length=256):EqIs Try.prog 141 (.agg (Zaq xs).toArray) (.agg (Zaq ys).toArray) (decide (xs=ys)):=by
 refine⟨fun w=>?_,fun op ox oy w=>Zhp (by kernel_rfl) op ox oy _ _ w⟩
 have u3:=Try.underlying3
 have a3:=Try.isAgg3
 have z3:=Try.sizeOf3
 rw[Op.equal,Op.maxDepth,show(10000:Nat)=9999+1 from rfl,Op.equalIn]
 simp only[Sem.run_bind,run_underlying Try.underlying141,Result.andThen_ok]
 simp only[Std.Legacy.Range.forIn_eq_forIn_range',Std.Legacy.Range.size,Nat.sub_zero,Nat.add_sub_cancel,Nat.div_one]
 rw[z3,Result.andThen_ok,Zr3 (n:=256) (p:=fun i=>decide (xs[i]?=ys[i]?)) (fun i hi=>?_) 256 0 (by omega),Result.andThen_ok]
 ·by_cases h:xs=ys
  ·subst h;simp
  ·have:(List.range' 0 256).all (fun i=>decide (xs[i]?=ys[i]?))=false:=by
    rw[Bool.eq_false_iff]
    intro hh
    apply h
    refine List.ext_getElem? fun i=>?_
    by_cases hi:i < 256
    ·have:=List.all_eq_true.1 hh i (by simp[List.mem_range',hi])
     simpa using this
    ·rw[List.getElem?_eq_none_iff.2 (by omega),List.getElem?_eq_none_iff.2 (by omega)]
   rw[this];simp[h]
 ·obtain⟨x,tH⟩:∃x,xs[i]?=some x:=⟨_,List.getElem?_eq_getElem (by omega)⟩
  obtain⟨y,tI⟩:∃y,ys[i]?=some y:=⟨_,List.getElem?_eq_getElem (by omega)⟩
  have gx:(Zaq xs).toArray[i]?=some (.int .i64 x):=by simp[Zaq,tH]
  have gy:(Zaq ys).toArray[i]?=some (.int .i64 y):=by simp[Zaq,tI]
  rw[Nat.mul_one]
  simp only[part,Sem.run_bind,a3,Result.andThen_ok,gx,gy]
  have he:(Op.equalIn 9999 3 (.int .i64 x) (.int .i64 y)).run Try.prog w=.ok (x == y) w:=by
   rw[show(9999:Nat)=9998+1 from rfl,Op.equalIn]
   simp[Sem.run_bind,run_underlying u3]
  rw[if_neg (by decide),if_neg (by decide)]
  simp only[Sem.run_pure,Result.andThen_ok,he,tH,tI]
  by_cases tJ:x=y
  ·subst tJ;simp
  ·simp[tJ]
theorem ZfS(q:QS):Zbz q=Zaq ((List.range 256).map (Zoh q)):=by simp[Zbz,Zaq]
theorem Zwr{q r:QS}(hq:QOk q)(hr:QOk r):EqIs Try.prog 141 (.agg (Zbz q).toArray) (.agg (Zbz r).toArray) (decide (q=r)):=by
 have h:=Zu6 ((List.range 256).map (Zoh q)) ((List.range 256).map (Zoh r)) (by simp) (by simp)
 rw[←ZfS,←ZfS]at h
 have e:decide ((List.range 256).map (Zoh q)=(List.range 256).map (Zoh r))=decide (q=r):=by
  rw[decide_eq_decide]
  constructor
  ·intro e;exact ZoN hq hr (by rw[ZfS,ZfS,e])
  ·rintro rfl;rfl
 rw[e]at h;exact h
theorem Zws{q:QS}{j:Nat}(hj:j < 4):([.int .u64 q.1,.int .u64 q.2.1,.int .u64 q.2.2.1,.int .u64 q.2.2.2]:List Value)[j]?=some (.int .u64 (ZgN q j)):=by
 have:j=0∨j=1∨j=2∨j=3:=by omega
 rcases this with rfl|rfl|rfl|rfl <;> rfl
def Zl7(q:QS)(k:Nat):List Value:=(List.range 256).map fun c=>.int .i64 (if c < k then Zoh q c else 0)
theorem ZeA(q:QS)(k:Nat):(Zl7 q k).length=256:=by simp[Zl7]
theorem Zo6(q:QS){k:Nat}(h:k < 256):Zan (Zl7 q k) k [.int .i64 (Zoh q k)]=Zl7 q (k+1):=by
 rw[Zla (by rw[ZeA];exact h)]
 refine List.ext_getElem? fun j=>?_
 by_cases hj:j < 256
 ·by_cases e:j=k
  ·subst e
   rw[List.getElem?_set_self (by rw[ZeA];exact h)]
   simp[Zl7,h]
  ·rw[List.getElem?_set_ne (fun x=>e x.symm)]
   simp only[Zl7,List.getElem?_map,List.getElem?_range hj,Option.map_some]
   have:(j < k+1)↔j < k:=by omega
   simp only[this]
 ·rw[List.getElem?_eq_none_iff.2 (by rw[List.length_set,ZeA];omega),List.getElem?_eq_none_iff.2 (by rw[ZeA];omega)]
theorem Zo7(q:QS):List.replicate 256 (Value.int .i64 0)=Zl7 q 0:=by
 refine(List.eq_replicate_iff.2 ⟨ZeA q 0,fun u hu=>?_⟩).symm
 obtain⟨c,_,rfl⟩:=List.mem_map.1 hu
 rw[if_neg (Nat.not_lt_zero c)]
theorem Zrh(q:QS):Zl7 q 256=Zbz q:=by
 unfold Zl7 Zbz
 refine List.map_congr_left fun c hc=>?_
 rw[if_pos (List.mem_range.1 hc)]
theorem ZsR{w:Int}(h0:0≤w)(i:Nat):Int.tmod ((w.toNat / 2 ^ i:Nat):Int) 2=if w.toNat.testBit i then 1 else 0:=by
 rw[show Int.tmod ((w.toNat / 2 ^ i:Nat):Int) 2=((w.toNat / 2 ^ i % 2:Nat):Int) from rfl,ZtW]
 split <;> rfl
theorem ZnQ(q:QS):Zcq (Zbz q)=true:=by
 have:∀l:List Value,(∀u∈l,u.oneCell'=true)→Zcq l=true:=by
  intro l
  induction l with
  | nil=>intro _;rfl
  | cons u l ih=>intro h;simp only[Zcq,h u (by simp),Bool.true_and];exact ih fun x hx=>h x (by simp[hx])
 exact this _ (Zlb q)
theorem ZsS(q:QS)(hq:QOk q)(m:Mem):CX Try.prog 99 #[.agg #[.int .u64 q.1,.int .u64 q.2.1,.int .u64 q.2.2.1,.int .u64 q.2.2.2]] m [] (Ret (.agg (Zbz q).toArray)):=by
 apply Zit
 unfold Zfg
 intro b m1 bD _ b1 b2
 refine⟨fun xs css _ m' n=>∃k:Nat,k≤256∧xs=[.int .i64 k]∧css=[Zl7 q k]∧m.le m'∧n=256 - k,⟨_,0,by omega,rfl,by rw[Zo7 q],bD,rfl⟩,?_⟩
 rintro z cs m2 n _ ⟨k,hk,hz,cF,bZ,hn⟩
 obtain rfl:z=k:=by simpa using hz
 obtain rfl:cs=Zl7 q k:=by simpa using cF
 subst hn
 have e64:Int.tdiv (k:Int) 64=((k / 64:Nat):Int):=rfl
 have em:Int.tmod (k:Int) 64=((k % 64:Nat):Int):=rfl
 refine Zab (fun bV=>?_) (fun cK=>?_)
 ·have hk':k < 256:=by have:=of_decide_eq_true bV;omega
  have hw:=Zmi hq (k / 64)
  rw[e64,em,Zau (by omega) (by omega),Int.toNat_natCast,Int.toNat_natCast,Nat.mul_one,Nat.mul_one,Nat.zero_add,Nat.zero_add]
  refine⟨by decide,⟨by omega,by omega⟩,Zas (Zws (q:=q) (by omega)) ?_⟩
  refine⟨fun xs _ _ m' n=>∃i:Nat,i≤k % 64∧xs=[.int .u64 (((ZgN q (k / 64)).toNat / 2 ^ i:Nat):Int),.int .i64 i]∧m2.le m'∧n=k % 64 - i,Zaa rfl ⟨_,0,by omega,?_,Mem.le_refl _,rfl⟩,?_⟩
  ·rw[Nat.pow_zero,Nat.div_one,Int.toNat_of_nonneg hw.1];rfl
  rintro x z m3 n2 cD ⟨i,hi,hx,_,hn⟩
  simp only[List.cons.injEq,Value.int.injEq,true_and,and_true]at hx
  obtain⟨rfl,rfl⟩:=hx
  subst hn
  refine⟨by decide,Zab (fun h1=>?_) (fun h1=>?_)⟩
  ·have h1':i < k % 64:=by have:=of_decide_eq_true h1;omega
   refine⟨by decide,by trivial,_,by omega,i+1,h1',?_,cD,rfl⟩
   have e2:Int.tdiv (((ZgN q (k / 64)).toNat / 2 ^ i:Nat):Int) 2=(((ZgN q (k / 64)).toNat / 2 ^ (i+1):Nat):Int):=by
    rw[Nat.pow_succ,←Nat.div_div_eq_div_mul];rfl
   have hb:(ZgN q (k / 64)).toNat / 2 ^ (i+1) < 18446744073709551616:=Nat.lt_of_le_of_lt (Nat.div_le_self _ _) (by omega)
   rw[e2,Zta _ hb,Zau (by omega) (by omega)];rfl
  ·have:i=k % 64:=by have:=of_decide_eq_false h1;omega
   subst this
   have ij:IntKind.i64.wrap (Int.tmod (((ZgN q (k / 64)).toNat / 2 ^ (k % 64):Nat):Int) 2)=Zoh q k:=by
    rw[ZsR hw.1,Zoh,Znt]
    split <;> rfl
   refine⟨by decide,⟨by omega,by omega⟩,Zaa (by rw[ZeA,Nat.ble_eq];omega) ⟨by trivial,_,by omega,k+1,hk',by rw[Zau (by omega) (by omega)];rfl,?_,Mem.le_trans bZ cD,rfl⟩⟩
   rw[ij,Zo6 q hk']
 ·have:k=256:=by have:=of_decide_eq_false cK;omega
  subst this
  rw[Zrh]
  exact Zaa (by rw[Zbe,ZnQ];rfl) (Zad bZ rfl)
theorem ZsT(q:QS)(m:Mem):CX Try.prog 101 #[.agg (Zbz q).toArray] m [] (Ret (.int .i64 (Zti q 256))):=by
 apply Zj8
 unfold Zgq
 refine Zaa (by rw[Zbe];rfl) fun b m1 bD _=>?_
 refine⟨fun xs _ _ m' n=>∃k:Nat,k≤256∧xs=[.int .i64 (Zti q k),.int .i64 k]∧m.le m'∧n=256 - k,⟨_,0,by omega,rfl,bD,rfl⟩,?_⟩
 rintro s z m2 n _ ⟨k,hk,hx,bZ,hn⟩
 simp only[List.cons.injEq,Value.int.injEq,true_and,and_true]at hx
 obtain⟨rfl,rfl⟩:=hx
 subst hn
 refine Zab (fun bV=>?_) (fun cK=>?_)
 ·have hk':k < 256:=by have:=of_decide_eq_true bV;omega
  have h1:=ZpT q k
  have h2:=ZpS q k
  rw[Int.toNat_natCast,Nat.mul_one,Nat.zero_add]
  refine⟨⟨by omega,by omega⟩,Zas (ZfO q hk') (Zaa rfl ⟨by trivial,_,by omega,k+1,hk',?_,bZ,rfl⟩)⟩
  simp only[intOf]
  rw[Zau (by omega) (by omega),Zau (by omega) (by omega)];rfl
 ·have:k=256:=by have:=of_decide_eq_false cK;omega
  subst this
  exact Zad bZ rfl
def Zc7(l:List QS):List Value:=l.flatMap Zbz
theorem Zlj(l:List QS):(Zc7 l).length=l.length*256:=by
 induction l with
 | nil=>rfl
 | cons q l ih=>rw[Zc7,List.flatMap_cons,List.length_append,Zbe,←Zc7,ih,List.length_cons];omega
theorem Zri{l:List QS}{i:Nat}{q:QS}(h:l[i]?=some q){j:Nat}{v:Value}(hv:(Zbz q)[j]?=some v):(Zc7 l)[i*256+j]?=some v:=by
 have hj:j < 256:=by have:=(List.getElem?_eq_some_iff.1 hv).1;rwa [Zbe]at this
 induction l generalizing i with
 | nil=>simp at h
 | cons r l ih=>
  rw[Zc7,List.flatMap_cons,←Zc7]
  cases i with
  | zero=>
   simp at h;subst h
   rw[Nat.zero_mul,Nat.zero_add,List.getElem?_append_left (by rw[Zbe];exact hj)];exact hv
  | succ i=>
   rw[List.getElem?_append_right (by rw[Zbe];omega),Zbe,show(i+1)*256+j - 256=i*256+j by omega]
   exact ih (by simpa using h)
theorem Zh8{m:Mem}{a:Option Addr}{l:List QS}(h:rowRd m a (Zc7 l)){i:Nat}{q:QS}(hq:l[i]?=some q):∃b o,a=some ⟨b,o,none⟩∧m.reads b (o+i*256) (Zbz q):=by
 rcases h with h|⟨b,o,h1,h2⟩
 ·have:=congrArg List.length h
  rw[Zlj]at this
  have:=(List.getElem?_eq_some_iff.1 hq).1
  simp at *;omega
 ·exact⟨b,o,h1,fun j v hv=>by have:=h2 _ v (Zri hq hv);rwa [←Nat.add_assoc]at this⟩
def SlS(l:List QS)(v:Value)(m:Mem):Prop:=∃a c,v=.slice a l.length c∧rowRd m a (Zc7 l)∧l.length≤1000000
theorem SlS.mono{l:List QS}{v:Value}{m m':Mem}(h:SlS l v m)(k:m.le m'):SlS l v m':=by
 obtain⟨a,c,e,h1,h2⟩:=h
 exact⟨a,c,e,h1.mono k,h2⟩
def RefR(A:Nf)(v:Value)(m:Mem):Prop:=∃s f x y,v=.agg #[s,f,x,y,.bool A.empty]∧SlS A.sets s m∧FolR false A.fol f m∧SlI false A.first x m∧SlI false A.last y m
theorem RefR.mono{A:Nf}{v:Value}{m m':Mem}(h:RefR A v m)(k:m.le m'):RefR A v m':=by
 obtain⟨s,f,x,y,e,h1,h2,h3,h4⟩:=h
 exact⟨s,f,x,y,e,h1.mono k,h2.mono k,h3.mono k,h4.mono k⟩
theorem Zu7(l r:List QS)(pY:∀q∈l,QOk q)(kA:∀q∈r,QOk q)(a b:Option Addr)(c d:Nat)(m:Mem)(hl:rowRd m a (Zc7 l))(hr:rowRd m b (Zc7 r))(hn:l.length≤1000000):CX Try.prog 102 #[.slice a l.length c,.slice b r.length d] m [] (Ret (.bool (decide (l=r)))):=by
 apply Zbj
 unfold ZaQ
 refine Zab (fun h=>Zad (Mem.le_refl _) ?_) (fun h=>?_)
 ·have:¬l=r:=fun e=>by subst e;simp at h
  simp[Ret,this]
 have bY:l.length=r.length:=by
  simp only[Bool.not_eq_false',beq_iff_eq]at h;omega
 refine⟨fun xs css _ m' q=>∃k:Nat,k≤l.length∧xs=[.int .i64 k]∧(l.drop k=r.drop k↔l=r)∧m.le m'∧q=l.length - k,⟨_,0,by omega,rfl,Iff.rfl,Mem.le_refl _,rfl⟩,?_⟩
 rintro z m1 q bD ⟨k,hk,hz,he,_,hq⟩
 obtain rfl:z=k:=by simpa using hz
 subst hq
 refine Zab (fun bV=>?_) (fun cK=>?_)
 ·have bF:k < l.length:=by have:=of_decide_eq_true bV;omega
  obtain⟨x,hx⟩:=Zam bF
  obtain⟨y,hy⟩:=Zam (l:=r) (k:=k) (by omega)
  obtain⟨b1,o1,h1,h1'⟩:=Zh8 (hl.mono bD) hx
  obtain⟨b2,o2,h2,h2'⟩:=Zh8 (hr.mono bD) hy
  rw[ZnO hx hy]at he
  refine⟨b1,o1,h1,⟨by omega,by omega⟩,_,Zbe x,(by rw[Int.toNat_natCast];exact h1'),b2,o2,h2,⟨by omega,by omega⟩,_,Zbe y,(by rw[Int.toNat_natCast];exact h2'),_,Zwr (pY x (List.mem_of_getElem? hx)) (kA y (List.mem_of_getElem? hy)),Zab (fun h3=>Zad bD ?_) (fun h3=>⟨_,by omega,k+1,bF,by rw[Zau (by omega) (by omega)];rfl,?_,bD,rfl⟩)⟩
  ·have:¬x=y:=by simpa using h3
   simp only[Ret];congr 1
   rw[eq_comm,decide_eq_false_iff_not,←he];exact fun h=>this h.1
  ·have:x=y:=by simpa using h3
   rw[←he];simp[this]
 ·have:k=l.length:=by have:=of_decide_eq_false cK;omega
  subst this
  refine Zad bD ?_
  simp only[Ret];congr 1
  rw[eq_comm,decide_eq_true_eq,←he,List.drop_length,bY,List.drop_length]
end Go.Proofs.Ytplacemlpkhmfaa

