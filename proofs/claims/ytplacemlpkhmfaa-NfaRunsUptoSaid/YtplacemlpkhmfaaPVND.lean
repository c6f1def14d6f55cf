/- Part of the proof: conditions and contracts of functions of this program. No condition of its own. -/
import Derived.Test.YtplacemlpkhmfaaPC17H
import Derived.Test.YtplacemlpkhmfaaPVC
import Derived.Test.YtplacemlpkhmfaaMr
import Derived.Test.YtplacemlpkhmfaaPVNC
import Derived.Test.YtplacemlpkhmfaaPEnv
import Derived.Test.YtplacemlpkhmfaaMc
set_option linter.unusedVariables false
set_option linter.unusedSimpArgs false
namespace Go.Proofs.Ytplacemlpkhmfaa
open Go Go.Eng Go.Rx Go.Proofs Go.RowKit
set_option maxRecDepth 100000
theorem Zw2(i:Nat):Int.tdiv (i:Int) 64=((i / 64:Nat):Int):=rfl
theorem Zvr(i:Nat):Int.tmod (i:Int) 64=((i % 64:Nat):Int):=rfl
theorem sh6:∀c:Nat,c < 256→IntKind.u8.wrap ((BitVec.ofInt 8 (c:Int)&&&BitVec.ofInt 8 63).toNat:Int)=((c % 64:Nat):Int)∧Int.fdiv (c:Int) (2 ^ 6)=((c / 64:Nat):Int):=by decide
theorem Zvs(t:T)(c:Nat)(hc:c < 256)(m:Mem)(hr:Rep m t):CX Try.prog 117 #[.agg #[.int .u64 t.s0,.int .u64 t.s1,.int .u64 t.s2,.int .u64 t.s3],.int .u8 c] m [] (Ret (.bool (t.hasB c))):=by
 apply Zoz
 unfold ZjR
 intro b m1 aZ _
 obtain⟨h1,h2⟩:=sh6 c hc
 simp only[h1,h2,Int.toNat_natCast,Nat.zero_add,Nat.mul_one]
 have cK:=Zws hr
 have hw:∃w:Int,[Value.int .u64 t.s0,.int .u64 t.s1,.int .u64 t.s2,.int .u64 t.s3][c / 64]?=some (.int .u64 w)∧0≤w∧w < 18446744073709551616∧t.hasB c=w.toNat.testBit (c % 64):=by
  have:c / 64=0∨c / 64=1∨c / 64=2∨c / 64=3:=by omega
  unfold T.hasB
  rcases this with e|e|e|e
  ·exact⟨t.s0,by rw[e];rfl,cK.s0.1,cK.s0.2,by simp[e]⟩
  ·exact⟨t.s1,by rw[e];rfl,cK.s1.1,cK.s1.2,by simp[e]⟩
  ·exact⟨t.s2,by rw[e];rfl,cK.s2.1,cK.s2.2,by simp[e]⟩
  ·exact⟨t.s3,by rw[e];rfl,cK.s3.1,cK.s3.2,by simp[e]⟩
 obtain⟨w,dZ,dL,jS,sP⟩:=hw
 refine⟨by omega,⟨by omega,by omega⟩,Zas dZ (Zaa rfl ⟨by omega,Zag aZ ?_⟩)⟩
 rw[sP,Nat.min_eq_left (by omega)]
 obtain⟨n,rfl⟩:∃n:Nat,w=n:=⟨w.toNat,by omega⟩
 show Value.bool (IntKind.u64.wrap _ == 1)=_
 simp only[intOf]
 rw[ZmY _ _ (by omega)]
 simp
end Go.Proofs.Ytplacemlpkhmfaa
set_option linter.unusedVariables false
set_option linter.unusedSimpArgs false
namespace Go.Proofs.Ytplacemlpkhmfaa
open Go Go.Eng Go.Proofs Go.RowKit Go.Rx
end Go.Proofs.Ytplacemlpkhmfaa
set_option linter.unusedVariables false
set_option linter.unusedSimpArgs false
set_option linter.unusedSectionVars false
namespace Go.Proofs.Ytplacemlpkhmfaa
open Go Go.Eng Go.Rx Go.Proofs Go.RowKit
set_option maxRecDepth 100000
abbrev txV(a:Option Addr)(s:List Nat)(c:Nat)(back:Bool):Value:=.agg #[.slice a s.length c,.bool back]
def IH(a:Option Addr)(s:List Nat)(c:Nat)(back:Bool)(t:T):Prop:=∀x∈t.subs,∀(f:Nat)(m:Mem),f < Zxz→Rep m x→Byt m a s→CX Try.prog 89 #[txV a s c back,x.v,plV f] m [] (Ret (plV (x.lead s back f)))
section
variable (t:T) (a:Option Addr) (s:List Nat) (c:Nat) (back:Bool) (f:Nat) (m:Mem) (hr:Rep m t) (hb:Byt m a s) (hs:s.length≤512) (ih:IH a s c back t) (hf:f < Zxz)
include hr hb hs ih hf
end
end Go.Proofs.Ytplacemlpkhmfaa
set_option linter.unusedVariables false
set_option linter.unusedSimpArgs false
set_option linter.unusedSectionVars false
namespace Go.Proofs.Ytplacemlpkhmfaa
open Go Go.Eng Go.Rx Go.Proofs Go.RowKit
set_option maxRecDepth 100000
def T.matches(t:T)(s:List Nat):Bool:=t.wrong s.length 0 == 0&&(t.lead s false 1).testBit s.length
end Go.Proofs.Ytplacemlpkhmfaa
set_option linter.unusedVariables false
set_option linter.unusedSimpArgs false
namespace Go.Proofs.Ytplacemlpkhmfaa
open Go Go.Eng Go.Rx Go.Proofs Go.RowKit
set_option maxRecDepth 100000
theorem Ztf{P:Program}{w:World}{n:Nat}{f:Nat→(Option Bool×Unit)→Sem (ForInStep (Option Bool×Unit))}{p:Nat→Bool}(hf:∀i,i < n→(f i (none,())).run P w=.ok (if p i then .yield (none,())else .done (some false,())) w):
  ∀k i,i+k≤n→(forIn (List.range' i k) (none,()) f).run P w=.ok (if(List.range' i k).all p then(none,())else(some false,())) w
 | 0,i,h=>by simp
 | k+1,i,h=>by
  rw[List.range'_succ,List.forIn_cons,Sem.run_bind,hf i (by omega),Result.andThen_ok,List.all_cons]
  cases p i with
  | false=>simp
  | true=>
   have:=Ztf hf k (i+1) (by omega)
   rw[Bool.true_and]
   exact this
theorem Zwx(xs ys:List Int)(hx:xs.length=256)(hy:ys.length=256):EqIs Try.prog 141 (.agg (Zap xs).toArray) (.agg (Zap ys).toArray) (decide (xs=ys)):=by
 refine⟨fun w=>?_,fun op ox oy w=>Zh0 (by kernel_rfl) op ox oy _ _ w⟩
 have u3:=Try.underlying3
 have a3:=Try.isAgg3
 have z3:=Try.sizeOf3
 rw[Op.equal,Op.maxDepth,show(10000:Nat)=9999+1 from rfl,Op.equalIn]
 simp only[Sem.run_bind,run_underlying Try.underlying141,Result.andThen_ok]
 simp only[Std.Legacy.Range.forIn_eq_forIn_range',Std.Legacy.Range.size,Nat.sub_zero,Nat.add_sub_cancel,Nat.div_one]
 rw[z3,Result.andThen_ok,Ztf (n:=256) (p:=fun i=>decide (xs[i]?=ys[i]?)) (fun i hi=>?_) 256 0 (by omega),Result.andThen_ok]
 ·by_cases h:xs=ys
  ·subst h;simp
  ·have:(List.range' 0 256).all (fun i=>decide (xs[i]?=ys[i]?))=false:=by
    rw[Bool.eq_false_iff]
    intro hh
    apply h
    refine List.ext_getElem? fun i=>?_
    by_cases hi:i < 256
    ·have:=List.all_eq_true.1 hh i (by simp[List.mem_range',hi])
     simpa using this
    ·rw[List.getElem?_eq_none_iff.2 (by omega),List.getElem?_eq_none_iff.2 (by omega)]
   rw[this];simp[h]
 ·obtain⟨x,uJ⟩:∃x,xs[i]?=some x:=⟨_,List.getElem?_eq_getElem (by omega)⟩
  obtain⟨y,uK⟩:∃y,ys[i]?=some y:=⟨_,List.getElem?_eq_getElem (by omega)⟩
  have gx:(Zap xs).toArray[i]?=some (.int .i64 x):=by simp[Zap,uJ]
  have gy:(Zap ys).toArray[i]?=some (.int .i64 y):=by simp[Zap,uK]
  rw[Nat.mul_one]
  simp only[part,Sem.run_bind,a3,Result.andThen_ok,gx,gy]
  have he:(Op.equalIn 9999 3 (.int .i64 x) (.int .i64 y)).run Try.prog w=.ok (x == y) w:=by
   rw[show(9999:Nat)=9998+1 from rfl,Op.equalIn]
   simp[Sem.run_bind,run_underlying u3]
  rw[if_neg (by decide),if_neg (by decide)]
  simp only[Sem.run_pure,Result.andThen_ok,he,uJ,uK]
  by_cases uL:x=y
  ·subst uL;simp
  ·simp[uL]
theorem Zgd(q:QS):ZbD q=Zap ((List.range 256).map (Zo8 q)):=by simp[ZbD,Zap]
theorem ZxV{q r:QS}(hq:QOk q)(hr:QOk r):EqIs Try.prog 141 (.agg (ZbD q).toArray) (.agg (ZbD r).toArray) (decide (q=r)):=by
 have h:=Zwx ((List.range 256).map (Zo8 q)) ((List.range 256).map (Zo8 r)) (by simp) (by simp)
 rw[←Zgd,←Zgd]at h
 have e:decide ((List.range 256).map (Zo8 q)=(List.range 256).map (Zo8 r))=decide (q=r):=by
  rw[decide_eq_decide]
  constructor
  ·intro e;exact ZpE hq hr (by rw[Zgd,Zgd,e])
  ·rintro rfl;rfl
 rw[e]at h;exact h
theorem ZxW{q:QS}{j:Nat}(hj:j < 4):([.int .u64 q.1,.int .u64 q.2.1,.int .u64 q.2.2.1,.int .u64 q.2.2.2]:List Value)[j]?=some (.int .u64 (Zhb q j)):=by
 have:j=0∨j=1∨j=2∨j=3:=by omega
 rcases this with rfl|rfl|rfl|rfl <;> rfl
def ZmR(q:QS)(k:Nat):List Value:=(List.range 256).map fun c=>.int .i64 (if c < k then Zo8 q c else 0)
theorem ZeW(q:QS)(k:Nat):(ZmR q k).length=256:=by simp[ZmR]
theorem Zp1(q:QS){k:Nat}(h:k < 256):Zan (ZmR q k) k [.int .i64 (Zo8 q k)]=ZmR q (k+1):=by
 rw[Zf8 (by rw[ZeW];exact h)]
 refine List.ext_getElem? fun j=>?_
 by_cases hj:j < 256
 ·by_cases e:j=k
  ·subst e
   rw[List.getElem?_set_self (by rw[ZeW];exact h)]
   simp[ZmR,h]
  ·rw[List.getElem?_set_ne (fun x=>e x.symm)]
   simp only[ZmR,List.getElem?_map,List.getElem?_range hj,Option.map_some]
   have:(j < k+1)↔j < k:=by omega
   simp only[this]
 ·rw[List.getElem?_eq_none_iff.2 (by rw[List.length_set,ZeW];omega),List.getElem?_eq_none_iff.2 (by rw[ZeW];omega)]
theorem Zp2(q:QS):List.replicate 256 (Value.int .i64 0)=ZmR q 0:=by
 refine(List.eq_replicate_iff.2 ⟨ZeW q 0,fun u hu=>?_⟩).symm
 obtain⟨c,_,rfl⟩:=List.mem_map.1 hu
 rw[if_neg (Nat.not_lt_zero c)]
theorem Zsm(q:QS):ZmR q 256=ZbD q:=by
 unfold ZmR ZbD
 refine List.map_congr_left fun c hc=>?_
 rw[if_pos (List.mem_range.1 hc)]
theorem Zt8{w:Int}(h0:0≤w)(i:Nat):Int.tmod ((w.toNat / 2 ^ i:Nat):Int) 2=if w.toNat.testBit i then 1 else 0:=by
 rw[show Int.tmod ((w.toNat / 2 ^ i:Nat):Int) 2=((w.toNat / 2 ^ i % 2:Nat):Int) from rfl,Zvi]
 split <;> rfl
theorem ZoI(q:QS):Zcu (ZbD q)=true:=by
 have:∀l:List Value,(∀u∈l,u.oneCell'=true)→Zcu l=true:=by
  intro l
  induction l with
  | nil=>intro _;rfl
  | cons u l ih=>intro h;simp only[Zcu,h u (by simp),Bool.true_and];exact ih fun x hx=>h x (by simp[hx])
 exact this _ (ZlP q)
theorem Zt9(q:QS)(hq:QOk q)(m:Mem):CX Try.prog 99 #[.agg #[.int .u64 q.1,.int .u64 q.2.1,.int .u64 q.2.2.1,.int .u64 q.2.2.2]] m [] (Ret (.agg (ZbD q).toArray)):=by
 apply Zi0
 unfold ZfE
 intro b m1 aZ _ b1 b2
 refine⟨fun xs css _ m' n=>∃k:Nat,k≤256∧xs=[.int .i64 k]∧css=[ZmR q k]∧m.le m'∧n=256 - k,⟨_,0,by omega,rfl,by rw[Zp2 q],aZ,rfl⟩,?_⟩
 rintro z cs m2 n _ ⟨k,hk,hz,bT,bO,hn⟩
 obtain rfl:z=k:=by simpa using hz
 obtain rfl:cs=ZmR q k:=by simpa using bT
 subst hn
 have e64:Int.tdiv (k:Int) 64=((k / 64:Nat):Int):=rfl
 have em:Int.tmod (k:Int) 64=((k % 64:Nat):Int):=rfl
 refine Zab (fun bK=>?_) (fun cL=>?_)
 ·have hk':k < 256:=by have:=of_decide_eq_true bK;omega
  have hw:=Zm4 hq (k / 64)
  rw[e64,em,Zat (by omega) (by omega),Int.toNat_natCast,Int.toNat_natCast,Nat.mul_one,Nat.mul_one,Nat.zero_add,Nat.zero_add]
  refine⟨by decide,⟨by omega,by omega⟩,Zas (ZxW (q:=q) (by omega)) ?_⟩
  refine⟨fun xs _ _ m' n=>∃i:Nat,i≤k % 64∧xs=[.int .u64 (((Zhb q (k / 64)).toNat / 2 ^ i:Nat):Int),.int .i64 i]∧m2.le m'∧n=k % 64 - i,Zaa rfl ⟨_,0,by omega,?_,Mem.le_refl _,rfl⟩,?_⟩
  ·rw[Nat.pow_zero,Nat.div_one,Int.toNat_of_nonneg hw.1];rfl
  rintro x z m3 n2 bR ⟨i,hi,hx,_,hn⟩
  simp only[List.cons.injEq,Value.int.injEq,true_and,and_true]at hx
  obtain⟨rfl,rfl⟩:=hx
  subst hn
  refine⟨by decide,Zab (fun h1=>?_) (fun h1=>?_)⟩
  ·have h1':i < k % 64:=by have:=of_decide_eq_true h1;omega
   refine⟨by decide,by trivial,_,by omega,i+1,h1',?_,bR,rfl⟩
   have e2:Int.tdiv (((Zhb q (k / 64)).toNat / 2 ^ i:Nat):Int) 2=(((Zhb q (k / 64)).toNat / 2 ^ (i+1):Nat):Int):=by
    rw[Nat.pow_succ,←Nat.div_div_eq_div_mul];rfl
   have hb:(Zhb q (k / 64)).toNat / 2 ^ (i+1) < 18446744073709551616:=Nat.lt_of_le_of_lt (Nat.div_le_self _ _) (by omega)
   rw[e2,Zs2 _ hb,Zat (by omega) (by omega)];rfl
  ·have:i=k % 64:=by have:=of_decide_eq_false h1;omega
   subst this
   have gG:IntKind.i64.wrap (Int.tmod (((Zhb q (k / 64)).toNat / 2 ^ (k % 64):Nat):Int) 2)=Zo8 q k:=by
    rw[Zt8 hw.1,Zo8,Zoe]
    split <;> rfl
   refine⟨by decide,⟨by omega,by omega⟩,Zaa (by rw[ZeW,Nat.ble_eq];omega) ⟨by trivial,_,by omega,k+1,hk',by rw[Zat (by omega) (by omega)];rfl,?_,Mem.le_trans bO bR,rfl⟩⟩
   rw[gG,Zp1 q hk']
 ·have:k=256:=by have:=of_decide_eq_false cL;omega
  subst this
  rw[Zsm]
  exact Zaa (by rw[Zbl,ZoI];rfl) (Zag bO rfl)
theorem Zua(q:QS)(m:Mem):CX Try.prog 101 #[.agg (ZbD q).toArray] m [] (Ret (.int .i64 (ZuF q 256))):=by
 apply ZkO
 unfold ZgM
 refine Zaa (by rw[Zbl];rfl) fun b m1 aZ _=>?_
 refine⟨fun xs _ _ m' n=>∃k:Nat,k≤256∧xs=[.int .i64 (ZuF q k),.int .i64 k]∧m.le m'∧n=256 - k,⟨_,0,by omega,rfl,aZ,rfl⟩,?_⟩
 rintro s z m2 n _ ⟨k,hk,hx,bO,hn⟩
 simp only[List.cons.injEq,Value.int.injEq,true_and,and_true]at hx
 obtain⟨rfl,rfl⟩:=hx
 subst hn
 refine Zab (fun bK=>?_) (fun cL=>?_)
 ·have hk':k < 256:=by have:=of_decide_eq_true bK;omega
  have h1:=ZqV q k
  have h2:=ZqU q k
  rw[Int.toNat_natCast,Nat.mul_one,Nat.zero_add]
  refine⟨⟨by omega,by omega⟩,Zas (Zf9 q hk') (Zaa rfl ⟨by trivial,_,by omega,k+1,hk',?_,bO,rfl⟩)⟩
  simp only[intOf]
  rw[Zat (by omega) (by omega),Zat (by omega) (by omega)];rfl
 ·have:k=256:=by have:=of_decide_eq_false cL;omega
  subst this
  exact Zag bO rfl
def Zdq(l:List QS):List Value:=l.flatMap ZbD
theorem ZlX(l:List QS):(Zdq l).length=l.length*256:=by
 induction l with
 | nil=>rfl
 | cons q l ih=>rw[Zdq,List.flatMap_cons,List.length_append,Zbl,←Zdq,ih,List.length_cons];omega
theorem Zsn{l:List QS}{i:Nat}{q:QS}(h:l[i]?=some q){j:Nat}{v:Value}(hv:(ZbD q)[j]?=some v):(Zdq l)[i*256+j]?=some v:=by
 have hj:j < 256:=by have:=(List.getElem?_eq_some_iff.1 hv).1;rwa [Zbl]at this
 induction l generalizing i with
 | nil=>simp at h
 | cons r l ih=>
  rw[Zdq,List.flatMap_cons,←Zdq]
  cases i with
  | zero=>
   simp at h;subst h
   rw[Nat.zero_mul,Nat.zero_add,List.getElem?_append_left (by rw[Zbl];exact hj)];exact hv
  | succ i=>
   rw[List.getElem?_append_right (by rw[Zbl];omega),Zbl,show(i+1)*256+j - 256=i*256+j by omega]
   exact ih (by simpa using h)
theorem ZiC{m:Mem}{a:Option Addr}{l:List QS}(h:rowRd m a (Zdq l)){i:Nat}{q:QS}(hq:l[i]?=some q):∃b o,a=some ⟨b,o,none⟩∧m.reads b (o+i*256) (ZbD q):=by
 rcases h with h|⟨b,o,h1,h2⟩
 ·have:=congrArg List.length h
  rw[ZlX]at this
  have:=(List.getElem?_eq_some_iff.1 hq).1
  simp at *;omega
 ·exact⟨b,o,h1,fun j v hv=>by have:=h2 _ v (Zsn hq hv);rwa [←Nat.add_assoc]at this⟩
def SlS(l:List QS)(v:Value)(m:Mem):Prop:=∃a c,v=.slice a l.length c∧rowRd m a (Zdq l)∧l.length≤1000000
theorem SlS.mono{l:List QS}{v:Value}{m m':Mem}(h:SlS l v m)(k:m.le m'):SlS l v m':=by
 obtain⟨a,c,e,h1,h2⟩:=h
 exact⟨a,c,e,h1.mono k,h2⟩
def RefR(A:Nf)(v:Value)(m:Mem):Prop:=∃s f x y,v=.agg #[s,f,x,y,.bool A.empty]∧SlS A.sets s m∧FolR false A.fol f m∧SlI false A.first x m∧SlI false A.last y m
theorem RefR.mono{A:Nf}{v:Value}{m m':Mem}(h:RefR A v m)(k:m.le m'):RefR A v m':=by
 obtain⟨s,f,x,y,e,h1,h2,h3,h4⟩:=h
 exact⟨s,f,x,y,e,h1.mono k,h2.mono k,h3.mono k,h4.mono k⟩
theorem Zwy(l r:List QS)(ni:∀q∈l,QOk q)(k9:∀q∈r,QOk q)(a b:Option Addr)(c d:Nat)(m:Mem)(hl:rowRd m a (Zdq l))(hr:rowRd m b (Zdq r))(hn:l.length≤1000000):CX Try.prog 102 #[.slice a l.length c,.slice b r.length d] m [] (Ret (.bool (decide (l=r)))):=by
 apply Zbp
 unfold ZaP
 refine Zab (fun h=>Zag (Mem.le_refl _) ?_) (fun h=>?_)
 ·have:¬l=r:=fun e=>by subst e;simp at h
  simp[Ret,this]
 have bN:l.length=r.length:=by
  simp only[Bool.not_eq_false',beq_iff_eq]at h;omega
 refine⟨fun xs css _ m' q=>∃k:Nat,k≤l.length∧xs=[.int .i64 k]∧(l.drop k=r.drop k↔l=r)∧m.le m'∧q=l.length - k,⟨_,0,by omega,rfl,Iff.rfl,Mem.le_refl _,rfl⟩,?_⟩
 rintro z m1 q aZ ⟨k,hk,hz,he,_,hq⟩
 obtain rfl:z=k:=by simpa using hz
 subst hq
 refine Zab (fun bK=>?_) (fun cL=>?_)
 ·have aY:k < l.length:=by have:=of_decide_eq_true bK;omega
  obtain⟨x,hx⟩:=Zak aY
  obtain⟨y,hy⟩:=Zak (l:=r) (k:=k) (by omega)
  obtain⟨b1,o1,h1,h1'⟩:=ZiC (hl.mono aZ) hx
  obtain⟨b2,o2,h2,h2'⟩:=ZiC (hr.mono aZ) hy
  rw[ZoA hx hy]at he
  refine⟨b1,o1,h1,⟨by omega,by omega⟩,_,Zbl x,(by rw[Int.toNat_natCast];exact h1'),b2,o2,h2,⟨by omega,by omega⟩,_,Zbl y,(by rw[Int.toNat_natCast];exact h2'),_,ZxV (ni x (List.mem_of_getElem? hx)) (k9 y (List.mem_of_getElem? hy)),Zab (fun h3=>Zag aZ ?_) (fun h3=>⟨_,by omega,k+1,aY,by rw[Zat (by omega) (by omega)];rfl,?_,aZ,rfl⟩)⟩
  ·have:¬x=y:=by simpa using h3
   simp only[Ret];congr 1
   rw[eq_comm,decide_eq_false_iff_not,←he];exact fun h=>this h.1
  ·have:x=y:=by simpa using h3
   rw[←he];simp[this]
 ·have:k=l.length:=by have:=of_decide_eq_false cL;omega
  subst this
  refine Zag aZ ?_
  simp only[Ret];congr 1
  rw[eq_comm,decide_eq_true_eq,←he,List.drop_length,bN,List.drop_length]
end Go.Proofs.Ytplacemlpkhmfaa
set_option linter.unusedVariables false
namespace Go.Proofs.Ytplacemlpkhmfaa
open Go Go.Eng Go.Proofs Go.RowKit
open Go.Value (int slice agg)
open Go.IntKind (u8 u64 i64)
set_option maxRecDepth 100000
noncomputable def Zh8:Env:={ EB with
 joins:=(fun i=>bif Nat.beq i 1 then some [(4,.bool)]else none) }
def Zd4(p0:Int)(c0b c0o c1b c1o:Nat)(m:Mem)(R:RT):Prop:=
 ∃(b:Bool),br (p0 == (-1:Int)) (∃(v:Value),m c0b (c0o+4)=some v∧bif Zal v then bif Zal v then bif Zal v then bif Zal v then bif Zal v then bif Zal v then bif Zal v then bif
 Zal v then chk (Zae v) (br (Zad v) ([Value.bool true]=[Value.bool b]) False)else chk (Zae v) (br (Zad v) (chk (Zae v) (br (Zad v) ([Value.bool true]=[Value.bool b]) False)) False)else chk
 (Zae v) (br (Zad v) ([Value.bool true]=[Value.bool b]) False)else chk (Zae v) (br (Zad v) (bif Zal v then bif Zal v then chk (Zae v) (br (Zad v) ([Value.bool true]=[Value.bool b]) False)
 else chk (Zae v) (br (Zad v) (chk (Zae v) (br (Zad v) ([Value.bool true]=[Value.bool b]) False)) False)else chk (Zae v) (br (Zad v) ([Value.bool true]=[Value.bool b]) False)) (bif Zal v then
 bif Zal v then chk (Zae v) (br (Zad v) ([Value.bool true]=[Value.bool b]) False)else chk (Zae v) (br (Zad v) (chk (Zae v) (br (Zad v) ([Value.bool true]=[Value.bool b]) False)) False)else chk
 (Zae v) (br (Zad v) ([Value.bool true]=[Value.bool b]) False)))else chk (Zae v) (br (Zad v) ([Value.bool true]=[Value.bool b]) False)else chk (Zae v) (br (Zad v) (bif Zal v then bif Zal v
 then bif Zal v then bif Zal v then chk (Zae v) (br (Zad v) ([Value.bool true]=[Value.bool b]) False)else chk (Zae v) (br (Zad v) (chk (Zae v) (br (Zad v) ([Value.bool true]=[Value.bool b])
 False)) False)else chk (Zae v) (br (Zad v) ([Value.bool true]=[Value.bool b]) False)else chk (Zae v) (br (Zad v) (bif Zal v then bif Zal v then chk (Zae v) (br (Zad v) ([Value.bool true] =
 [Value.bool b]) False)else chk (Zae v) (br (Zad v) (chk (Zae v) (br (Zad v) ([Value.bool true]=[Value.bool b]) False)) False)else chk (Zae v) (br (Zad v) ([Value.bool true]=[Value.bool b])
 False)) (bif Zal v then bif Zal v then chk (Zae v) (br (Zad v) ([Value.bool true]=[Value.bool b]) False)else chk (Zae v) (br (Zad v) (chk (Zae v) (br (Zad v) ([Value.bool true]=[Value.bool
 b]) False)) False)else chk (Zae v) (br (Zad v) ([Value.bool true]=[Value.bool b]) False)))else chk (Zae v) (br (Zad v) ([Value.bool true]=[Value.bool b]) False)) False)else chk (Zae v) (br (Zad
 v) ([Value.bool true]=[Value.bool b]) False)else chk (Zae v) (br (Zad v) (bif Zal v then bif Zal v then bif Zal v then bif Zal v then bif Zal v then bif Zal v then chk (Zae v) (br
 (Zad v) ([Value.bool true]=[Value.bool b]) False)else chk (Zae v) (br (Zad v) (chk (Zae v) (br (Zad v) ([Value.bool true]=[Value.bool b]) False)) False)else chk (Zae v) (br (Zad v)
 ([Value.bool true]=[Value.bool b]) False)else chk (Zae v) (br (Zad v) (bif Zal v then bif Zal v then chk (Zae v) (br (Zad v) ([Value.bool true]=[Value.bool b]) False)else chk (Zae v) (br
 (Zad v) (chk (Zae v) (br (Zad v) ([Value.bool true]=[Value.bool b]) False)) False)else chk (Zae v) (br (Zad v) ([Value.bool true]=[Value.bool b]) False)) (bif Zal v then bif Zal v then chk
 (Zae v) (br (Zad v) ([Value.bool true]=[Value.bool b]) False)else chk (Zae v) (br (Zad v) (chk (Zae v) (br (Zad v) ([Value.bool true]=[Value.bool b]) False)) False)else chk (Zae v) (br (Zad
 v) ([Value.bool true]=[Value.bool b]) False)))else chk (Zae v) (br (Zad v) ([Value.bool true]=[Value.bool b]) False)else chk (Zae v) (br (Zad v) (bif Zal v then bif Zal v then bif Zal v
 then bif Zal v then chk (Zae v) (br (Zad v) ([Value.bool true]=[Value.bool b]) False)else chk (Zae v) (br (Zad v) (chk (Zae v) (br (Zad v) ([Value.bool true]=[Value.bool b]) False)) False)
 else chk (Zae v) (br (Zad v) ([Value.bool true]=[Value.bool b]) False)else chk (Zae v) (br (Zad v) (bif Zal v then bif Zal v then chk (Zae v) (br (Zad v) ([Value.bool true]=[Value.bool b])
 False)else chk (Zae v) (br (Zad v) (chk (Zae v) (br (Zad v) ([Value.bool true]=[Value.bool b]) False)) False)else chk (Zae v) (br (Zad v) ([Value.bool true]=[Value.bool b]) False)) (bif Zal v
 then bif Zal v then chk (Zae v) (br (Zad v) ([Value.bool true]=[Value.bool b]) False)else chk (Zae v) (br (Zad v) (chk (Zae v) (br (Zad v) ([Value.bool true]=[Value.bool b]) False)) False)
 else chk (Zae v) (br (Zad v) ([Value.bool true]=[Value.bool b]) False)))else chk (Zae v) (br (Zad v) ([Value.bool true]=[Value.bool b]) False)) False)else chk (Zae v) (br (Zad v) ([Value.bool
 true]=[Value.bool b]) False)) (bif Zal v then bif Zal v then bif Zal v then bif Zal v then bif Zal v then bif Zal v then chk (Zae v) (br (Zad v) ([Value.bool true]=[Value.bool b])
 False)else chk (Zae v) (br (Zad v) (chk (Zae v) (br (Zad v) ([Value.bool true]=[Value.bool b]) False)) False)else chk (Zae v) (br (Zad v) ([Value.bool true]=[Value.bool b]) False)else chk
 (Zae v) (br (Zad v) (bif Zal v then bif Zal v then chk (Zae v) (br (Zad v) ([Value.bool true]=[Value.bool b]) False)else chk (Zae v) (br (Zad v) (chk (Zae v) (br (Zad v) ([Value.bool
 true]=[Value.bool b]) False)) False)else chk (Zae v) (br (Zad v) ([Value.bool true]=[Value.bool b]) False)) (bif Zal v then bif Zal v then chk (Zae v) (br (Zad v) ([Value.bool true] =
 [Value.bool b]) False)else chk (Zae v) (br (Zad v) (chk (Zae v) (br (Zad v) ([Value.bool true]=[Value.bool b]) False)) False)else chk (Zae v) (br (Zad v) ([Value.bool true]=[Value.bool b])
 False)))else chk (Zae v) (br (Zad v) ([Value.bool true]=[Value.bool b]) False)else chk (Zae v) (br (Zad v) (bif Zal v then bif Zal v then bif Zal v then bif Zal v then chk (Zae v) (br
 (Zad v) ([Value.bool true]=[Value.bool b]) False)else chk (Zae v) (br (Zad v) (chk (Zae v) (br (Zad v) ([Value.bool true]=[Value.bool b]) False)) False)else chk (Zae v) (br (Zad v)
 ([Value.bool true]=[Value.bool b]) False)else chk (Zae v) (br (Zad v) (bif Zal v then bif Zal v then chk (Zae v) (br (Zad v) ([Value.bool true]=[Value.bool b]) False)else chk (Zae v) (br
 (Zad v) (chk (Zae v) (br (Zad v) ([Value.bool true]=[Value.bool b]) False)) False)else chk (Zae v) (br (Zad v) ([Value.bool true]=[Value.bool b]) False)) (bif Zal v then bif Zal v then chk
 (Zae v) (br (Zad v) ([Value.bool true]=[Value.bool b]) False)else chk (Zae v) (br (Zad v) (chk (Zae v) (br (Zad v) ([Value.bool true]=[Value.bool b]) False)) False)else chk (Zae v) (br (Zad
 v) ([Value.bool true]=[Value.bool b]) False)))else chk (Zae v) (br (Zad v) ([Value.bool true]=[Value.bool b]) False)) (bif Zal v then bif Zal v then bif Zal v then bif Zal v then chk (Zae
 v) (br (Zad v) ([Value.bool true]=[Value.bool b]) False)else chk (Zae v) (br (Zad v) (chk (Zae v) (br (Zad v) ([Value.bool true]=[Value.bool b]) False)) False)else chk (Zae v) (br (Zad v)
 ([Value.bool true]=[Value.bool b]) False)else chk (Zae v) (br (Zad v) (bif Zal v then bif Zal v then chk (Zae v) (br (Zad v) ([Value.bool true]=[Value.bool b]) False)else chk (Zae v) (br
 (Zad v) (chk (Zae v) (br (Zad v) ([Value.bool true]=[Value.bool b]) False)) False)else chk (Zae v) (br (Zad v) ([Value.bool true]=[Value.bool b]) False)) (br (!p0 == (-1:Int)) (∃(R:RT),True∧
 CX Try.prog 115 (Array.mk [Value.pointer (some (Addr.mk c1b c1o none)),int i64 p0]) m [] R∧ZaA Shape.bool R∧∀(aa:Bool)(m':Mem),Mem.le m m'→R (Value.bool aa) m' []→bif Zal v then bif Zal v then
 chk (Zae v) (br (Zad v) ([Value.bool true]=[Value.bool b]) False)else chk (Zae v) (br (Zad v) (chk (Zae v) (br (Zad v) ([Value.bool true]=[Value.bool b]) False)) (chk (Zae v) (br (Zad v)
 ([Value.bool true]=[Value.bool b]) ([Value.bool aa]=[Value.bool b]))))else chk (Zae v) (br (Zad v) ([Value.bool true]=[Value.bool b]) ([Value.bool aa]=[Value.bool b]))) (bif Zal v then bif Zal v
 then chk (Zae v) (br (Zad v) ([Value.bool true]=[Value.bool b]) False)else chk (Zae v) (br (Zad v) (chk (Zae v) (br (Zad v) ([Value.bool true]=[Value.bool b]) False)) (chk (Zae v) (br (Zad
 v) ([Value.bool true]=[Value.bool b]) ([Value.bool false]=[Value.bool b]))))else chk (Zae v) (br (Zad v) ([Value.bool true]=[Value.bool b]) ([Value.bool false]=[Value.bool b])))))else chk (Zae v) (br
 (Zad v) ([Value.bool true]=[Value.bool b]) (br (!p0 == (-1:Int)) (∃(R:RT),True∧CX Try.prog 115 (Array.mk [Value.pointer (some (Addr.mk c1b c1o none)),int i64 p0]) m [] R∧ZaA Shape.bool R∧∀(aa:Bool)
 (m':Mem),Mem.le m m'→R (Value.bool aa) m' []→[Value.bool aa]=[Value.bool b]) ([Value.bool false]=[Value.bool b])))))else chk (Zae v) (br (Zad v) ([Value.bool true]=[Value.bool b]) (br (!p0 == (-1:
 Int)) (∃(R:RT),True∧CX Try.prog 115 (Array.mk [Value.pointer (some (Addr.mk c1b c1o none)),int i64 p0]) m [] R∧ZaA Shape.bool R∧∀(aa:Bool)(m':Mem),Mem.le m m'→R (Value.bool aa) m' []→[Value.bool
 aa]=[Value.bool b]) ([Value.bool false]=[Value.bool b])))))else chk (Zae v) (br (Zad v) ([Value.bool true]=[Value.bool b]) (br (!p0 == (-1:Int)) (∃(R:RT),True∧CX Try.prog 115 (Array.mk
 [Value.pointer (some (Addr.mk c1b c1o none)),int i64 p0]) m [] R∧ZaA Shape.bool R∧∀(aa:Bool)(m':Mem),Mem.le m m'→R (Value.bool aa) m' []→[Value.bool aa]=[Value.bool b]) ([Value.bool false] =
 [Value.bool b])))) (br (!p0 == (-1:Int)) (∃(R:RT),True∧CX Try.prog 115 (Array.mk [Value.pointer (some (Addr.mk c1b c1o none)),int i64 p0]) m [] R∧ZaA Shape.bool R∧∀(aa:Bool)(m':Mem),Mem.le m m'→R
 (Value.bool aa) m' []→[Value.bool aa]=[Value.bool b]) ([Value.bool false]=[Value.bool b]))∧∃(m'':Mem),Mem.le m m''∧Mem.le m'' m∧R (Value.bool b) m'' []
theorem Zg4(p0:Int)(c0b c0o c1b c1o:Nat)(m:Mem)(R:RT)(h:Zd4 p0 c0b c0o c1b c1o m R):CX Try.prog 114 #[.int .i64 p0,.pointer (some ⟨c0b,c0o,none⟩),.pointer (some ⟨c1b,c1o,none⟩)] m [] R:=
 Zaj (E:=Zh8) Zaw mix Try.func114 [.v (.int .i64 p0),.v (.pointer (some ⟨c0b,c0o,none⟩)),.v (.pointer (some ⟨c1b,c1o,none⟩))] [] (by kernel_rfl) (Eq.mp (by kernel_rfl) h)
noncomputable def Zcs:Env:={ EB with
 loops:=(fun i=>bif Nat.beq i 2 then⟨[(8,.int .i64)],[],[],false⟩ else⟨[],[],[],false⟩) }
def Zbt(p0a:Option Addr)(p0n p0c p1g:Nat)(p1fi p1ca:List Value)(m:Mem)(R:RT):Prop:=
 ∃(I:IT),(∃(n:Nat),I [int i64 0] [] [] m n)∧∀(n:Int)(m':Mem)(n_1:Nat),Mem.le m m'→I [int i64 n] [] [] m' n_1→br (decide (n < (↑p0n:Int))) (∃(b:Nat),∃(o:Nat),p0a=some (Addr.mk b o none)
 ∧ Zac n p0n∧∃(v:Value),m' b (o+Int.toNat n*1)=some v∧∃(R_1:RT),True∧CX Try.prog p1g (Array.mk (List.append (List.append p1fi [v]) p1ca)) m' [] R_1∧ZaA Shape.bool R_1∧∀(b:Bool) (m'_1:
 Mem),Mem.le m' m'_1→R_1 (Value.bool b) m'_1 []→br b (∃(m'':Mem),Mem.le m m''∧Mem.le m'' m'_1∧R (int i64 n) m'' []) (∃(n':Nat),n' < n_1∧I [int i64 (IntKind.wrap i64 (n+(1:Int)))] [] [] m'_1 n')) (∃
 (m'':Mem),Mem.le m m''∧Mem.le m'' m'∧R (int i64 (-1:Int)) m'' [])
theorem Zck(p0a:Option Addr)(p0n p0c p1g:Nat)(p1fi p1ca:List Value)(m:Mem)(R:RT)(h:Zbt p0a p0n p0c p1g p1fi p1ca m R):CX Try.prog 146 #[.slice p0a p0n p0c,.func (.func p1g) p1fi.toArray p1ca.toArray] m [] R:=
 Zaj (E:=Zcs) Zaw mix Try.func146 [.v (.slice p0a p0n p0c),.v (.func (.func p1g) p1fi.toArray p1ca.toArray)] [] (by kernel_rfl) (Eq.mp (by kernel_rfl) h)
noncomputable def Zb6:Env:=EB
def Za3(p0a:Option Addr)(p0n p0c p1g:Nat)(p1fi p1ca:List Value)(m:Mem)(R:RT):Prop:=
 ∃(R_1:RT),True∧CX Try.prog 146 (Array.mk [slice p0a p0n p0c,Value.func (Fn.func p1g) (Array.mk p1fi) (Array.mk p1ca)]) m [] R_1∧ZaA (Shape.int i64) R_1∧∀(n:Int)(m':Mem),Mem.le m m'→R_1 (int i64 n)
 m' []→∃(m'':Mem),Mem.le m m''∧Mem.le m'' m'∧R (Value.bool (decide (n ≥ (0:Int)))) m'' []
theorem ZbU(p0a:Option Addr)(p0n p0c p1g:Nat)(p1fi p1ca:List Value)(m:Mem)(R:RT)(h:Za3 p0a p0n p0c p1g p1fi p1ca m R):CX Try.prog 113 #[.slice p0a p0n p0c,.func (.func p1g) p1fi.toArray p1ca.toArray] m [] R:=
 Zaj (E:=Zb6) Zaw mix Try.func113 [.v (.slice p0a p0n p0c),.v (.func (.func p1g) p1fi.toArray p1ca.toArray)] [] (by kernel_rfl) (Eq.mp (by kernel_rfl) h)
noncomputable def ZkZ:Env:={ EB with
 frzNew:=[2]
 frzAt:=(fun i=>bif Nat.beq i 11 then[5]else[]) }
def ZfH(aL:Option Addr)(aA aM:Nat)(aK:Option Addr)(aB aN:Nat)(aG:Option Addr)(aD aJ:Nat)(aH:Option Addr)(aE aI:Nat)(aC:Bool)(p1a:Option Addr)(p1n p1c:Nat)(m:Mem)(R:RT):Prop:=
 ∀(b:Nat)(m':Mem),Mem.le m m'→Mem.reads m' b 0 [slice aL aA aM,slice aK aB aN,slice aG aD aJ,slice aH aE aI,Value.bool aC]→∃(R_1:RT),True∧CX Try.prog 112
 (Array.mk [slice aH aE aI]) m' [] R_1∧ZaA (Shape.agg [Shape.int u64,Shape.int u64,Shape.int u64,Shape.int u64,Shape.int u64,Shape.int u64,Shape.int u64]) R_1∧∀(n n_1 n_2 n_3 n_4 n_5 n_6:Int) (m'_1
 : Mem),Mem.le m' m'_1→R_1 (agg (Array.mk [int u64 n,int u64 n_1,int u64 n_2,int u64 n_3,int u64 n_4,int u64 n_5,int u64 n_6])) m'_1 []→∀(b_1:Nat)(m':Mem),Mem.le m'_1 m'→Mem.reads m' b_1 0 [int u64 n,
 int u64 n_1,int u64 n_2,int u64 n_3,int u64 n_4,int u64 n_5,int u64 n_6]→∃(R_2:RT),True∧CX Try.prog 113 (Array.mk [slice p1a p1n p1c,Value.func (Fn.func 114) (Array.mk []) (Array.mk [Value.pointer (some
 (Addr.mk b 0 none)),Value.pointer (some (Addr.mk b_1 0 none))])]) m' [] R_2∧ZaA Shape.bool R_2∧∀(b:Bool)(m'_2:Mem),Mem.le m' m'_2→R_2 (Value.bool b) m'_2 []→∃(m'':Mem),Mem.le m m''∧Mem.le m'' m'_2
 ∧ R (Value.bool b) m'' []
theorem Zi9(aL:Option Addr)(aA aM:Nat)(aK:Option Addr)(aB aN:Nat)(aG:Option Addr)(aD aJ:Nat)(aH:Option Addr)(aE aI:Nat)(aC:Bool)(p1a:Option Addr)(p1n p1c:Nat)(m:Mem)(R:RT)(h:ZfH aL aA aM aK aB aN aG aD aJ aH aE aI aC p1a p1n p1c m R):CX Try.prog 68 #[.agg #[.slice aL aA aM,.slice aK aB aN,.slice aG aD aJ,.slice aH aE aI,.bool aC],.slice p1a p1n p1c] m [] R:=
 Zaj (E:=ZkZ) Zaw mix Try.func68 [.v (.agg #[.slice aL aA aM,.slice aK aB aN,.slice aG aD aJ,.slice aH aE aI,.bool aC]),.v (.slice p1a p1n p1c)] [] (by kernel_rfl) (Eq.mp (by kernel_rfl) h)
noncomputable def ZoJ:Env:={ EB with
 frzNew:=[2] }
def Zh9(aL:Option Addr)(aA aM:Nat)(aK:Option Addr)(aB aN:Nat)(aG:Option Addr)(aD aJ:Nat)(aH:Option Addr)(aE aI:Nat)(aC:Bool)(p1a:Option Addr)(p1n p1c:Nat)(m:Mem)(R:RT):Prop:=
 ∀(b:Nat)(m':Mem),Mem.le m m'→Mem.reads m' b 0 [slice aL aA aM,slice aK aB aN,slice aG aD aJ,slice aH aE aI,Value.bool aC]→∃(R_1:RT),True∧CX Try.prog 21
 (Array.mk [agg (Array.mk [slice aL aA aM,slice aK aB aN,slice aG aD aJ,slice aH aE aI,Value.bool aC])]) m' [] R_1∧ZaA Shape.bool R_1∧∀(b:Bool)(m'_1:Mem),Mem.le m'
 m'_1→R_1 (Value.bool b) m'_1 []→br (!b) (∃(m'':Mem),Mem.le m m''∧Mem.le m'' m'_1∧R (int i64 171) m'' []) (∃(R_2:RT),True∧CX Try.prog 70 (Array.mk [slice p1a p1n p1c,int i64 (-1:Int),int i64
 (IntKind.wrap i64 ((↑aA:Int) - (1:Int)))]) m'_1 [] R_2∧ZaA Shape.bool R_2∧∀(b:Bool)(m':Mem),Mem.le m'_1 m'→R_2 (Value.bool b) m' []→br (!b) (∃(m'':Mem),Mem.le m m''∧Mem.le m'' m'∧R (int
 i64 172) m'' []) (∃(m'':Mem),Mem.le m m''∧Mem.le m'' m'∧R (int i64 0) m'' []))
theorem ZmF(aL:Option Addr)(aA aM:Nat)(aK:Option Addr)(aB aN:Nat)(aG:Option Addr)(aD aJ:Nat)(aH:Option Addr)(aE aI:Nat)(aC:Bool)(p1a:Option Addr)(p1n p1c:Nat)(m:Mem)(R:RT)(h:Zh9 aL aA aM aK aB aN aG aD aJ aH aE aI aC p1a p1n p1c m R):CX Try.prog 78 #[.agg #[.slice aL aA aM,.slice aK aB aN,.slice aG aD aJ,.slice aH aE aI,.bool aC],.slice p1a p1n p1c] m [] R:=
 Zaj (E:=ZoJ) Zaw mix Try.func78 [.v (.agg #[.slice aL aA aM,.slice aK aB aN,.slice aG aD aJ,.slice aH aE aI,.bool aC]),.v (.slice p1a p1n p1c)] [] (by kernel_rfl) (Eq.mp (by kernel_rfl) h)
noncomputable def Zp3:Env:={ EB with
 loops:=(fun i=>bif Nat.beq i 3 then⟨[(15,.int .i64)],[7],[],false⟩ else bif Nat.beq i 9 then⟨[(30,.int .i64)],[7],[],false⟩ else⟨[],[],[],false⟩)
 frzNew:=[3]
 frzAt:=(fun i=>bif Nat.beq i 45 then[7]else[]) }
def ZjX(aL:Option Addr)(aA aM:Nat)(aK:Option Addr)(aB aN:Nat)(aG:Option Addr)(aD aJ:Nat)(aH:Option Addr)(aE aI:Nat)(aC:Bool)(p1a:Option Addr)(p1n p1c:Nat)(p2:Int)(m:Mem)(R:RT):Prop:=
 ∀(b:Nat)(m':Mem),Mem.le m m'→Mem.reads m' b 0 [slice aL aA aM,slice aK aB aN,slice aG aD aJ,slice aH aE aI,Value.bool aC]→∀(aa:Nat),∃(I:IT),(∃(n:Nat),I
 [int i64 0] [[int u64 0,int u64 0,int u64 0,int u64 0,int u64 0,int u64 0,int u64 0]] [] m' n)∧∀(n:Int)(cs:List Value)(ad:Mem)(an:Nat),Mem.le m' ad→I [int i64 n] [cs] [] ad an→br (decide (n <
 (↑p1n:Int))) (∃(ao:Nat),∃(o:Nat),p1a=some (Addr.mk ao o none)∧Zac n p1n∧∃(v:Value),ad ao (o+Int.toNat n*1)=some v∧chk (ZaY i64 v&&decide (i64=i64)) (br (!RowKit.intOf v == (-1:
 Int)) (chk (ZaK v) (∃(ah:Nat),∃(o:Nat),aK=some (Addr.mk ah o none)∧Zac (RowKit.intOf v) aB∧∃(ae:Value),ad ah (o+Int.toNat (RowKit.intOf v)*1)=some ae∧chk (Zc8 ae) (∃(af:IT),
 (∃(n:Nat),af [int i64 0] [cs] [] ad n)∧∀(ac:Int)(cs:List Value)(m':Mem)(ag:Nat),Mem.le ad m'→af [int i64 ac] [cs] [] m' ag→br (decide (ac < (↑(slN ae):Int))) (chk (Zc8 ae) (∃(ai:Nat),∃(o:
 Nat),slA ae=some (Addr.mk ai o none)∧Zac ac (slN ae)∧∃(v:Value),m' ai (o+Int.toNat ac*1)=some v∧chk (ZaK v) (∃(aj:Nat),∃(o:Nat),aL=some (Addr.mk aj o none)∧Zac
 (RowKit.intOf v) aA∧∃(ak:Value),∃(al:Value),∃(am:Value),∃(ap:Value),Mem.reads m' aj (o+Int.toNat (RowKit.intOf v)*4) [ak,al,am,ap]∧∃(R:RT),True∧CX Try.prog 117 (Array.mk [agg
 (Array.mk [ak,al,am,ap]),int u8 p2]) m' [] R∧ZaA Shape.bool R∧∀(aq:Bool)(ab:Mem),Mem.le m' ab→R (Value.bool aq) ab []→br aq (∃(R:RT),True∧CX Try.prog 116 (Array.mk [Value.pointer (some (Addr.mk
 aa 0 none)),v]) ab [Box.mk aa cs 100 7 false true] R∧ZaA (Shape.tup []) R∧∀(m':Mem),Mem.le ab m'→∀(cs:List Value),R (Value.tuple (Array.mk [])) m' [cs]→[some (Box.mk aa [] 100 7 false true),some
 (Box.mk b [slice aL aA aM,slice aK aB aN,slice aG aD aJ,slice aH aE aI,Value.bool aC] 26 5 true true)]=[some (Box.mk aa [] 100 7 false true),some (Box.mk b [slice aL aA
 aM,slice aK aB aN,slice aG aD aJ,slice aH aE aI,Value.bool aC] 26 5 true true)]∧∃(n':Nat),n' < ag∧af [int i64 (IntKind.wrap i64 (ac+(1:Int)))] [cs] [] m' n') ([some
 (Box.mk aa [] 100 7 false true),some (Box.mk b [slice aL aA aM,slice aK aB aN,slice aG aD aJ,slice aH aE aI,Value.bool aC] 26 5 true true)]=[some (Box.mk aa [] 100 7 false
 true),some (Box.mk b [slice aL aA aM,slice aK aB aN,slice aG aD aJ,slice aH aE aI,Value.bool aC] 26 5 true true)]∧∃(n':Nat),n' < ag∧af [int i64 (IntKind.wrap i64 (ac +
 (1:Int)))] [cs] [] ab n')))) ([some (Box.mk aa [] 100 7 false true),some (Box.mk b [slice aL aA aM,slice aK aB aN,slice aG aD aJ,slice aH aE aI,Value.bool aC] 26 5 true
 true)]=[some (Box.mk aa [] 100 7 false true),some (Box.mk b [slice aL aA aM,slice aK aB aN,slice aG aD aJ,slice aH aE aI,Value.bool aC] 26 5 true true)]∧∃(n':Nat),n' <
 an∧I [int i64 (IntKind.wrap i64 (n+(1:Int)))] [cs] [] m' n')))) (∃(af:IT),(∃(n:Nat),af [int i64 0] [cs] [] ad n)∧∀(ac:Int)(cs:List Value)(m':Mem)(ag:Nat),Mem.le ad m'→af [int i64 ac] [cs]
 [] m' ag→br (decide (ac < (↑aD:Int))) (∃(ah:Nat),∃(o:Nat),aG=some (Addr.mk ah o none)∧Zac ac aD∧∃(v:Value),m' ah (o+Int.toNat ac*1)=some v∧chk (ZaK v) (∃(ai:Nat),∃(o
 : Nat),aL=some (Addr.mk ai o none)∧Zac (RowKit.intOf v) aA∧∃(ae:Value),∃(ak:Value),∃(al:Value),∃(am:Value),Mem.reads m' ai (o+Int.toNat (RowKit.intOf v)*4) [ae,ak,al,am]∧∃(R:
 RT),True∧CX Try.prog 117 (Array.mk [agg (Array.mk [ae,ak,al,am]),int u8 p2]) m' [] R∧ZaA Shape.bool R∧∀(aj:Bool)(ab:Mem),Mem.le m' ab→R (Value.bool aj) ab []→br aj (∃(R:RT),True∧CX Try.prog
 116 (Array.mk [Value.pointer (some (Addr.mk aa 0 none)),v]) ab [Box.mk aa cs 100 7 false true] R∧ZaA (Shape.tup []) R∧∀(m':Mem),Mem.le ab m'→∀(cs:List Value),R (Value.tuple (Array.mk [])) m' [cs]→[some
 (Box.mk aa [] 100 7 false true),some (Box.mk b [slice aL aA aM,slice aK aB aN,slice aG aD aJ,slice aH aE aI,Value.bool aC] 26 5 true true)]=[some (Box.mk aa [] 100 7 false
 true),some (Box.mk b [slice aL aA aM,slice aK aB aN,slice aG aD aJ,slice aH aE aI,Value.bool aC] 26 5 true true)]∧∃(n':Nat),n' < ag∧af [int i64 (IntKind.wrap i64 (ac +
 (1:Int)))] [cs] [] m' n') ([some (Box.mk aa [] 100 7 false true),some (Box.mk b [slice aL aA aM,slice aK aB aN,slice aG aD aJ,slice aH aE aI,Value.bool aC] 26 5 true true)] =
 [some (Box.mk aa [] 100 7 false true),some (Box.mk b [slice aL aA aM,slice aK aB aN,slice aG aD aJ,slice aH aE aI,Value.bool aC] 26 5 true true)]∧∃(n':Nat),n' < ag∧af
 [int i64 (IntKind.wrap i64 (ac+(1:Int)))] [cs] [] ab n'))) ([some (Box.mk aa [] 100 7 false true),some (Box.mk b [slice aL aA aM,slice aK aB aN,slice aG aD aJ,slice aH aE aI,
 Value.bool aC] 26 5 true true)]=[some (Box.mk aa [] 100 7 false true),some (Box.mk b [slice aL aA aM,slice aK aB aN,slice aG aD aJ,slice aH aE aI,Value.bool aC] 26 5 true
 true)]∧∃(n':Nat),n' < an∧I [int i64 (IntKind.wrap i64 (n+(1:Int)))] [cs] [] m' n')))) (∀(m':Mem),Mem.le ad m'→Mem.reads m' aa 0 cs→∃(R_1:RT),True∧CX Try.prog 62 (Array.mk [Value.pointer (some
 (Addr.mk aa 0 none))]) m' [] R_1∧ZaA Shape.slice R_1∧∀(a:Option Addr)(n c:Nat)(ab:Mem),Mem.le m' ab→R_1 (slice a n c) ab []→∃(m'':Mem),Mem.le m m''∧Mem.le m'' ab∧R (slice a n c) m'' [])
theorem ZoK(aL:Option Addr)(aA aM:Nat)(aK:Option Addr)(aB aN:Nat)(aG:Option Addr)(aD aJ:Nat)(aH:Option Addr)(aE aI:Nat)(aC:Bool)(p1a:Option Addr)(p1n p1c:Nat)(p2:Int)(m:Mem)(R:RT)(h:ZjX aL aA aM aK aB aN aG aD aJ aH aE aI aC p1a p1n p1c p2 m R):CX Try.prog 79 #[.agg #[.slice aL aA aM,.slice aK aB aN,.slice aG aD aJ,.slice aH aE aI,.bool aC],.slice p1a p1n p1c,.int .u8 p2] m [] R:=
 Zaj (E:=Zp3) Zaw mix Try.func79 [.v (.agg #[.slice aL aA aM,.slice aK aB aN,.slice aG aD aJ,.slice aH aE aI,.bool aC]),.v (.slice p1a p1n p1c),.v (.int .u8 p2)] [] (by kernel_rfl) (Eq.mp (by kernel_rfl) h)
noncomputable def Zp4:Env:={ EB with
 frzNew:=[3] }
def ZjY(aL:Option Addr)(aA aM:Nat)(aK:Option Addr)(aB aN:Nat)(aG:Option Addr)(aD aJ:Nat)(aH:Option Addr)(aE aI:Nat)(aC:Bool)(p1a:Option Addr)(p1n p1c:Nat)(p2:Int)(m:Mem)(R:RT):Prop:=
 ∀(b:Nat)(m':Mem),Mem.le m m'→Mem.reads m' b 0 [slice aL aA aM,slice aK aB aN,slice aG aD aJ,slice aH aE aI,Value.bool aC]→∃(R_1:RT),True∧CX Try.prog 78
 (Array.mk [agg (Array.mk [slice aL aA aM,slice aK aB aN,slice aG aD aJ,slice aH aE aI,Value.bool aC]),slice p1a p1n p1c]) m' [] R_1∧ZaA (Shape.int i64) R_1∧∀(n:Int)
 (m'_1:Mem),Mem.le m' m'_1→R_1 (int i64 n) m'_1 []→br (!n == (0:Int)) (∃(m'':Mem),Mem.le m m''∧Mem.le m'' m'_1∧R (Value.tuple (Array.mk [slice none 0 0,int i64 n])) m'' []) (∃(R_2:RT),True∧CX
 Try.prog 79 (Array.mk [agg (Array.mk [slice aL aA aM,slice aK aB aN,slice aG aD aJ,slice aH aE aI,Value.bool aC]),slice p1a p1n p1c,int u8 p2]) m'_1 [] R_2∧ZaA Shape.slice
 R_2∧∀(a:Option Addr)(n c:Nat)(m':Mem),Mem.le m'_1 m'→R_2 (slice a n c) m' []→∃(m'':Mem),Mem.le m m''∧Mem.le m'' m'∧R (Value.tuple (Array.mk [slice a n c,int i64 0])) m'' [])
theorem ZoL(aL:Option Addr)(aA aM:Nat)(aK:Option Addr)(aB aN:Nat)(aG:Option Addr)(aD aJ:Nat)(aH:Option Addr)(aE aI:Nat)(aC:Bool)(p1a:Option Addr)(p1n p1c:Nat)(p2:Int)(m:Mem)(R:RT)(h:ZjY aL aA aM aK aB aN aG aD aJ aH aE aI aC p1a p1n p1c p2 m R):CX Try.prog 27 #[.agg #[.slice aL aA aM,.slice aK aB aN,.slice aG aD aJ,.slice aH aE aI,.bool aC],.slice p1a p1n p1c,.int .u8 p2] m [] R:=
 Zaj (E:=Zp4) Zaw mix Try.func27 [.v (.agg #[.slice aL aA aM,.slice aK aB aN,.slice aG aD aJ,.slice aH aE aI,.bool aC]),.v (.slice p1a p1n p1c),.v (.int .u8 p2)] [] (by kernel_rfl) (Eq.mp (by kernel_rfl) h)
noncomputable def Zso:Env:={ EB with
 loops:=(fun i=>bif Nat.beq i 8 then⟨[(9,.slice),(26,.int .i64)],[100000],[(38,1),(900,1)],false⟩ else⟨[],[],[],false⟩)
 tokOf:=(fun i=>bif Nat.beq i 38 then 38 else 0)
 borrow:=(fun i=>bif Nat.beq i 23 then[100000]else bif Nat.beq i 43 then[100000]else[])
 frzNew:=[4]
 thaw:=true
 tails:=true
 lentC:=(fun i=>bif Nat.beq i 23 then some [(900,1)]else bif Nat.beq i 43 then some [(900,1)]else none) }
def ZiD(aL:Option Addr)(aA aM:Nat)(aK:Option Addr)(aB aN:Nat)(aG:Option Addr)(aD aJ:Nat)(aH:Option Addr)(aE aI:Nat)(aC:Bool)(p1a:Option Addr)(p1n p1c:Nat)(p2:Bool)(p3g:Nat)(p3fi p3ca:List Value)(ca:Option Addr)(cn cc cb:Nat)(t0a:Option Addr)(t0n t0c:Nat)(m:Mem)(Y:Nat→Prop)(R:RTY):Prop:=
 ∀(b:Nat)(m':Mem),Mem.le m m'→Mem.reads m' b 0 [slice aL aA aM,slice aK aB aN,slice aG aD aJ,slice aH aE aI,Value.bool aC]→Mem.free m b→(∀(b' o:Nat)(u:Value),
 m' b' o=some u→m b' o=some u∨b'=b)→∃(R_1:RT),True∧CX Try.prog 21 (Array.mk [agg (Array.mk [slice aL aA aM,slice aK aB aN,slice aG aD aJ,slice aH aE aI,Value.bool
 aC])]) m' [] R_1∧ZaA Shape.bool R_1∧∀(ar:Bool)(ai:Mem),Mem.le m' ai→R_1 (Value.bool ar) ai []→br (!ar) (Box.mk cb [slice ca cn cc] 24 1 false true=Box.mk cb [slice ca cn cc] 24 1 false true∧R (int
 i64 171) ai [[slice ca cn cc]] [slice t0a t0n t0c]) (br (decide ((↑p1n:Int) > (4096:Int))) (Box.mk cb [slice ca cn cc] 24 1 false true=Box.mk cb [slice ca cn cc] 24 1 false true∧R (int i64 3) ai [[slice ca cn
 cc]] [slice t0a t0n t0c]) (∀(ac:Nat),Mem.free ai ac→∃(ao:Nat→Prop),∃(R_2:Value→Mem→List (List Value)→List Value→Prop),CXY Try.prog p3g (Array.mk (List.append (List.append p3fi [int i64 0,slice
 (some (Addr.mk ac 0 none)) 1 1]) p3ca)) (Mem.add ai ac [int i64 (-1:Int)]) ao [Box.mk cb [slice ca cn cc] 24 1 false true] [Tok.mk (slice t0a t0n t0c) 1] R_2∧(∀(t:Tok),t∈[Tok.mk (slice t0a t0n t0c) 1]→∀(b:
 Nat),Tok.blk t=some b→ao b)∧(∀(ak:Nat),ao ak→(∃(t:Tok),t∈[Tok.mk (slice t0a t0n t0c) 1]∧Tok.blk t=some ak)∨Mem.free (Mem.off m Y) ak∧(∃(o:Nat),∃(v:Value),Mem.add ai ac [int i64 (-1:
 Int)] ak o=some v)∧ac≠ak∧b≠ak∧True)∧(∀(v:Value)(m':Mem) (css:List (List Value)) (tvs:List Value),R_2 v m' css tvs→Shape.fits (Shape.tup []) v=true)∧∀(m':Mem),Mem.le (Mem.off (Mem.add
 ai ac [int i64 (-1:Int)]) ao) m'→(∀(b o:Nat)(u:Value),m' b o=some u→Mem.add ai ac [int i64 (-1:Int)] b o=some u∨ao b∨Mem.free (Mem.add ai ac [int i64 (-1:Int)]) b)→∀(cs:List Value) (a:
 Option Addr) (c d:Nat),R_2 (Value.tuple (Array.mk [])) m' [cs] [slice a c d]→∃(I:IT),(∃(n:Nat),I [slice (some (Addr.mk ac 0 none)) 1 1,int i64 0] [cs] [slice none 0 0,slice a c d] m' n)∧∀(a:Option
 Addr) (n c:Nat) (aj:Int) (cs:List Value) (al:Option Addr) (am an:Nat) (af:Option Addr) (ag ah:Nat) (m':Mem) (ap:Nat),True→I [slice a n c,int i64 aj] [cs] [slice al am an,slice af ag ah] m' ap→br
 (decide (aj < (↑p1n:Int))) (∃(ak:Nat),∃(o:Nat),p1a=some (Addr.mk ak o none)∧Zac aj p1n∧∃(v:Value),m' ak (o+Int.toNat aj*1)=some v∧∃(R:RT),True∧CX Try.prog 79 (Array.mk [agg
 (Array.mk [slice aL aA aM,slice aK aB aN,slice aG aD aJ,slice aH aE aI,Value.bool aC]),slice a n c,v]) m' [] R∧ZaA Shape.slice R∧∀(a:Option Addr)(n c:Nat) (ad:
 Mem),Mem.le m' ad→R (slice a n c) ad []→br p2 (∀(aa:Nat),Mem.free ad aa→br (Nat.beq n 0) (∃(ae:Nat→Prop),∃(R:Value→Mem→List (List Value)→List Value→Prop),CXY Try.prog p3g (Array.mk
 (List.append (List.append p3fi [int i64 (IntKind.wrap i64 (aj+(1:Int))),slice (some (Addr.mk aa 0 none)) 1 1]) p3ca)) (Mem.add ad aa [int i64 (-1:Int)]) ae [Box.mk cb cs 24 1 false true] [Tok.mk (slice af ag ah)
 1] R∧(∀(t:Tok),t∈[Tok.mk (slice af ag ah) 1]→∀(b:Nat),Tok.blk t=some b→ae b)∧(∀(ab:Nat),ae ab→(∃(t:Tok),t∈[Tok.mk (slice af ag ah) 1]∧Tok.blk t=some ab)∨Mem.free (Mem.off m Y) ab∧
 (∃(o:Nat),∃(v:Value),Mem.add ad aa [int i64 (-1:Int)] ab o=some v)∧aa≠ab∧ac≠ab∧b≠ab∧Tok.blk (Tok.mk (slice al am an) 1)≠some ab∧Tok.blk (Tok.mk (slice al am an) 1)≠some ab∧True)∧(∀(v
 : Value) (m':Mem) (css:List (List Value)) (tvs:List Value),R v m' css tvs→Shape.fits (Shape.tup []) v=true)∧∀(m':Mem),Mem.le (Mem.off (Mem.add ad aa [int i64 (-1:Int)]) ae) m'→(∀(b o:Nat) (u:
 Value),m' b o=some u→Mem.add ad aa [int i64 (-1:Int)] b o=some u∨ae b∨Mem.free (Mem.add ad aa [int i64 (-1:Int)]) b)→∀(cs:List Value)(a:Option Addr)(c d:Nat),R (Value.tuple (Array.mk [])) m'
 [cs] [slice a c d]→[some (Box.mk ac [int i64 (-1:Int)] 3 1 true true),some (Box.mk b [slice aL aA aM,slice aK aB aN,slice aG aD aJ,slice aH aE aI,Value.bool aC] 26 5 true
 true),some (Box.mk cb [] 24 1 false true)]=[some (Box.mk ac [int i64 (-1:Int)] 3 1 true true),some (Box.mk b [slice aL aA aM,slice aK aB aN,slice aG aD aJ,slice aH aE aI,
 Value.bool aC] 26 5 true true),some (Box.mk cb [] 24 1 false true)]∧([none,none]:List (Option Tok))=[none,none]∧∃(n':Nat),n' < ap∧I [slice (some (Addr.mk aa 0 none)) 1 1,int i64 (IntKind.wrap i64 (aj
 + (1:Int)))] [cs] [slice al am an,slice a c d] m' n') (((∃(a:Option Addr),∃(n:Nat),∃(c:Nat),∃(k:Nat),Tok.mk (slice al am an) 1=Tok.mk (slice a n c) 1∧k≤n∧slice (some (Addr.mk aa 0 none)) 1 1 =
 slice (Za2 a k c 1) (n - k) (c - k))∨slice (some (Addr.mk aa 0 none)) 1 1=slice none 0 0∨1 < 1+n)∧∃(xs:List Value),∃(ys:List Value),List.length xs=1*1∧List.length ys=n*1∧rowRd (Mem.add
 ad aa [int i64 (-1:Int)]) (some (Addr.mk aa 0 none)) xs∧rowRd (Mem.add ad aa [int i64 (-1:Int)]) a ys∧(∀(u:Value),u∈ys→Value.oneCell' u=true)∧(1+n)*8≤140737488355328∧1+n ≤
 9223372036854775807∧∀(a':Option Addr)(c':Nat)(m':Mem),Mem.le (Mem.add ad aa [int i64 (-1:Int)]) m'→rowRd m' a' (List.append xs ys)→TokFact (Mem.add ad aa [int i64 (-1:Int)]) (some (Addr.mk aa 0
 none)) a' (1+n) c'→∃(ae:Nat→Prop),∃(R:Value→Mem→List (List Value)→List Value→Prop),CXY Try.prog p3g (Array.mk (List.append (List.append p3fi [int i64 (IntKind.wrap i64 (aj+(1:Int))),slice a'
 (1+n) c']) p3ca)) m' ae [Box.mk cb cs 24 1 false true] [Tok.mk (slice af ag ah) 1] R∧(∀(t:Tok),t∈[Tok.mk (slice af ag ah) 1]→∀(b:Nat),Tok.blk t=some b→ae b)∧(∀(ab:Nat),ae ab→(∃(t:Tok),t ∈
 [Tok.mk (slice af ag ah) 1]∧Tok.blk t=some ab)∨Mem.free (Mem.off m Y) ab∧(∃(o:Nat),∃(v:Value),m' ab o=some v)∧aa≠ab∧ac≠ab∧b≠ab∧Tok.blk (Tok.mk (slice a' (1+n) c') 1)≠some ab∧Tok.blk
 (Tok.mk (slice a' (1+n) c') 1)≠some ab∧True)∧(∀(v:Value)(m':Mem) (css:List (List Value)) (tvs:List Value),R v m' css tvs→Shape.fits (Shape.tup []) v=true)∧∀(aq:Mem),Mem.le (Mem.off m' ae) aq
 → (∀(b o:Nat)(u:Value),aq b o=some u→m' b o=some u∨ae b∨Mem.free m' b)→∀(cs:List Value)(a:Option Addr)(c d:Nat),R (Value.tuple (Array.mk [])) aq [cs] [slice a c d]→[some (Box.mk ac [int
 i64 (-1:Int)] 3 1 true true),some (Box.mk b [slice aL aA aM,slice aK aB aN,slice aG aD aJ,slice aH aE aI,Value.bool aC] 26 5 true true),some (Box.mk cb [] 24 1 false true)]
 = [some (Box.mk ac [int i64 (-1:Int)] 3 1 true true),some (Box.mk b [slice aL aA aM,slice aK aB aN,slice aG aD aJ,slice aH aE aI,Value.bool aC] 26 5 true true),some (Box.mk
 cb [] 24 1 false true)]∧([none,none]:List (Option Tok))=[none,none]∧∃(n':Nat),n' < ap∧I [slice a' (1+n) c',int i64 (IntKind.wrap i64 (aj+(1:Int)))] [cs] [slice a' (1+n) c',slice a c d] aq n'))
 (∃(ae:Nat→Prop),∃(R:Value→Mem→List (List Value)→List Value→Prop),CXY Try.prog p3g (Array.mk (List.append (List.append p3fi [int i64 (IntKind.wrap i64 (aj+(1:Int))),slice a n c]) p3ca)) ad ae
 [Box.mk cb cs 24 1 false true] [Tok.mk (slice af ag ah) 1] R∧(∀(t:Tok),t∈[Tok.mk (slice af ag ah) 1]→∀(b:Nat),Tok.blk t=some b→ae b)∧(∀(aa:Nat),ae aa→(∃(t:Tok),t∈[Tok.mk (slice af ag ah)
 1]∧Tok.blk t=some aa)∨Mem.free (Mem.off m Y) aa∧(∃(o:Nat),∃(v:Value),ad aa o=some v)∧ac≠aa∧b≠aa∧Tok.blk (Tok.mk (slice al am an) 1)≠some aa∧True)∧(∀(v:Value)(m':Mem) (css:List
 (List Value)) (tvs:List Value),R v m' css tvs→Shape.fits (Shape.tup []) v=true)∧∀(m':Mem),Mem.le (Mem.off ad ae) m'→(∀(b o:Nat)(u:Value),m' b o=some u→ad b o=some u∨ae b∨Mem.free ad b)→
 ∀(cs:List Value)(au:Option Addr)(av d:Nat),R (Value.tuple (Array.mk [])) m' [cs] [slice au av d]→[some (Box.mk ac [int i64 (-1:Int)] 3 1 true true),some (Box.mk b [slice aL aA aM,slice aK
 aB aN,slice aG aD aJ,slice aH aE aI,Value.bool aC] 26 5 true true),some (Box.mk cb [] 24 1 false true)]=[some (Box.mk ac [int i64 (-1:Int)] 3 1 true true),some (Box.mk b [slice aL
 aA aM,slice aK aB aN,slice aG aD aJ,slice aH aE aI,Value.bool aC] 26 5 true true),some (Box.mk cb [] 24 1 false true)]∧([none,none]:List (Option Tok))=[none,none]∧∃(n'
 : Nat),n' < ap∧I [slice a n c,int i64 (IntKind.wrap i64 (aj+(1:Int)))] [cs] [slice al am an,slice au av d] m' n')) (Box.mk cb [slice ca cn cc] 24 1 false true=Box.mk cb [slice ca cn cc] 24 1 false true∧R
 (int i64 0) m' [cs] [slice af ag ah])))
theorem ZjZ(aL:Option Addr)(aA aM:Nat)(aK:Option Addr)(aB aN:Nat)(aG:Option Addr)(aD aJ:Nat)(aH:Option Addr)(aE aI:Nat)(aC:Bool)(p1a:Option Addr)(p1n p1c:Nat)(p2:Bool)(p3g:Nat)(p3fi p3ca:List Value)(ca:Option Addr)(cn cc cb:Nat)(t0a:Option Addr)(t0n t0c:Nat)(m:Mem)(Y:Nat→Prop)(R:RTY)(h:ZiD aL aA aM aK aB aN aG aD aJ aH aE aI aC p1a p1n p1c p2 p3g p3fi p3ca ca cn cc cb t0a t0n t0c m Y R):CXY Try.prog 80 #[.agg #[.slice aL aA aM,.slice aK aB aN,.slice aG aD aJ,.slice aH aE aI,.bool aC],.slice p1a p1n p1c,.bool p2,.func (.func p3g) p3fi.toArray p3ca.toArray] m Y [⟨cb,[.slice ca cn cc],24,1,false,true⟩] [⟨.slice t0a t0n t0c,1⟩] R:=
 ZaL (E:=Zso) Zaw mix Try.func80 [.v (.agg #[.slice aL aA aM,.slice aK aB aN,.slice aG aD aJ,.slice aH aE aI,.bool aC]),.v (.slice p1a p1n p1c),.v (.bool p2),.v (.func (.func p3g) p3fi.toArray p3ca.toArray)] [⟨cb,[.slice ca cn cc],24,1,false,true⟩] [900] [⟨.slice t0a t0n t0c,1⟩] (by decide) (by kernel_rfl) (Eq.mp (by kernel_rfl) h)
noncomputable def ZoM:Env:={ EB with
 thaw:=true }
def Zia(p0:Int)(p1a:Option Addr)(p1n p1c c0b:Nat)(c0_0a:Option Addr)(c0_0n c0_0c:Nat)(t0a:Option Addr)(t0n t0c:Nat)(m:Mem)(Y:Nat→Prop)(R:RTY):Prop:=
 Box.mk c0b [slice c0_0a c0_0n c0_0c] 24 1 false true=Box.mk c0b [slice c0_0a c0_0n c0_0c] 24 1 false true∧R (Value.tuple (Array.mk [])) m [[slice p1a p1n p1c]] [slice t0a t0n t0c]
theorem Zk0(p0:Int)(p1a:Option Addr)(p1n p1c c0b:Nat)(c0_0a:Option Addr)(c0_0n c0_0c:Nat)(t0a:Option Addr)(t0n t0c:Nat)(m:Mem)(Y:Nat→Prop)(R:RTY)(h:Zia p0 p1a p1n p1c c0b c0_0a c0_0n c0_0c t0a t0n t0c m Y R):CXY Try.prog 81 #[.int .i64 p0,.slice p1a p1n p1c,.pointer (some ⟨c0b,0,none⟩)] m Y [⟨c0b,[.slice c0_0a c0_0n c0_0c],24,1,false,true⟩] [⟨.slice t0a t0n t0c,1⟩] R:=
 ZaL (E:=ZoM) Zaw mix Try.func81 [.v (.int .i64 p0),.v (.slice p1a p1n p1c),.loc 100000 0] [⟨c0b,[.slice c0_0a c0_0n c0_0c],24,1,false,true⟩] [900] [⟨.slice t0a t0n t0c,1⟩] (by decide) (by kernel_rfl) (Eq.mp (by kernel_rfl) h)
noncomputable def Zsp:Env:={ EB with
 borrow:=(fun i=>bif Nat.beq i 11 then[6]else[])
 frzNew:=[2]
 thaw:=true
 lentC:=(fun i=>bif Nat.beq i 11 then some [(900,1)]else none) }
def ZlY(aL:Option Addr)(aA aM:Nat)(aK:Option Addr)(aB aN:Nat)(aG:Option Addr)(aD aJ:Nat)(aH:Option Addr)(aE aI:Nat)(aC:Bool)(p1a:Option Addr)(p1n p1c:Nat)(m:Mem)(R:RT):Prop:=
 ∀(b:Nat)(m':Mem),Mem.le m m'→Mem.reads m' b 0 [slice aL aA aM,slice aK aB aN,slice aG aD aJ,slice aH aE aI,Value.bool aC]→Mem.free m b→(∀(b' o:Nat)(u:Value),
 m' b' o=some u→m b' o=some u∨b'=b)→∀(b_1:Nat),∃(Y:Nat→Prop),∃(R_1:Value→Mem→List (List Value)→List Value→Prop),CXY Try.prog 80 (Array.mk [agg (Array.mk [slice aL aA aM,slice
 aK aB aN,slice aG aD aJ,slice aH aE aI,Value.bool aC]),slice p1a p1n p1c,Value.bool false,Value.func (Fn.func 81) (Array.mk []) (Array.mk [Value.pointer (some (Addr.mk b_1 0 none))])])
 m' Y [Box.mk b_1 [slice none 0 0] 24 1 false true] [Tok.mk (slice none 0 0) 1] R_1∧(∀(t:Tok),t∈[Tok.mk (slice none 0 0) 1]→∀(b:Nat),Tok.blk t=some b→Y b)∧(∀(b_2:Nat),Y b_2→(∃(t:Tok),t ∈
 [Tok.mk (slice none 0 0) 1]∧Tok.blk t=some b_2)∨Mem.free m b_2∧(∃(o:Nat),∃(v:Value),m' b_2 o=some v)∧b≠b_2∧True)∧(∀(v:Value)(m':Mem) (css:List (List Value)) (tvs:List Value),R_1 v m'
 css tvs→Shape.fits (Shape.int i64) v=true)∧∀(n:Int)(m'_1:Mem),Mem.le (Mem.off m' Y) m'_1→(∀(b o:Nat)(u:Value),m'_1 b o=some u→m' b o=some u∨Y b∨Mem.free m' b)→∀(cs:List Value) (a:
 Option Addr) (c d:Nat),R_1 (int i64 n) m'_1 [cs] [slice a c d]→Eng.ZsM cs 0 fun(v:Value)=>∃(m'':Mem),Mem.le m m''∧Mem.le m'' m'_1∧R (Value.tuple (Array.mk [v,int i64 n])) m'' []
theorem Zp5(aL:Option Addr)(aA aM:Nat)(aK:Option Addr)(aB aN:Nat)(aG:Option Addr)(aD aJ:Nat)(aH:Option Addr)(aE aI:Nat)(aC:Bool)(p1a:Option Addr)(p1n p1c:Nat)(m:Mem)(R:RT)(h:ZlY aL aA aM aK aB aN aG aD aJ aH aE aI aC p1a p1n p1c m R):CX Try.prog 29 #[.agg #[.slice aL aA aM,.slice aK aB aN,.slice aG aD aJ,.slice aH aE aI,.bool aC],.slice p1a p1n p1c] m [] R:=
 Zaj (E:=Zsp) Zaw mix Try.func29 [.v (.agg #[.slice aL aA aM,.slice aK aB aN,.slice aG aD aJ,.slice aH aE aI,.bool aC]),.v (.slice p1a p1n p1c)] [] (by kernel_rfl) (Eq.mp (by kernel_rfl) h)
noncomputable def Zja:Env:={ EB with
 tokOf:=(fun i=>bif Nat.beq i 12 then 900 else 0)
 thaw:=true }
def ZeX(p0:Int)(p1a:Option Addr)(p1n p1c c0b c0o c1b:Nat)(c1_0a:Option Addr)(c1_0n c1_0c:Nat)(t0a:Option Addr)(t0n t0c:Nat)(m:Mem)(Y:Nat→Prop)(R:RTY):Prop:=
 ∃(v:Value),∃(v_1:Value),∃(v_2:Value),∃(v_3:Value),∃(v_4:Value),Mem.reads m c0b c0o [v,v_1,v_2,v_3,v_4]∧∃(R_1:RT),True∧CX Try.prog 68 (Array.mk [agg (Array.mk [v,v_1,v_2,v_3,v_4]),
 slice p1a p1n p1c]) m [] R_1∧ZaA Shape.bool R_1∧∀(b:Bool)(m':Mem),Mem.le m m'→R_1 (Value.bool b) m' []→br b (∀(b:Nat),Mem.free m' b→(Tok.mk (slice t0a t0n t0c) 1=Tok.mk (slice c1_0a c1_0n c1_0c)
 1∨slice c1_0a c1_0n c1_0c=slice none 0 0∨c1_0c < c1_0n+1)∧∃(xs:List Value),∃(ys:List Value),List.length xs=c1_0n*1∧List.length ys=1*1∧rowRd (Mem.add m' b [int i64 p0]) c1_0a xs∧rowRd
 (Mem.add m' b [int i64 p0]) (some (Addr.mk b 0 none)) ys∧(∀(u:Value),u∈ys→Value.oneCell' u=true)∧(c1_0n+1)*8≤140737488355328∧c1_0n+1≤9223372036854775807∧∀(a':Option Addr)(c':Nat) (m'_1
 : Mem),Mem.le (Mem.add m' b [int i64 p0]) m'_1→rowRd m'_1 a' (List.append xs ys)→TokFact (Mem.add m' b [int i64 p0]) c1_0a a' (c1_0n+1) c'→Box.mk c1b [slice c1_0a c1_0n c1_0c] 24 1 false true=Box.mk c1b
 [slice c1_0a c1_0n c1_0c] 24 1 false true∧R (Value.tuple (Array.mk [])) m'_1 [[slice a' (c1_0n+1) c']] [slice a' (c1_0n+1) c']) (Box.mk c1b [slice c1_0a c1_0n c1_0c] 24 1 false true=Box.mk c1b [slice c1_0a c1_0n
 c1_0c] 24 1 false true∧R (Value.tuple (Array.mk [])) m' [[slice c1_0a c1_0n c1_0c]] [slice t0a t0n t0c])
theorem Zg5(p0:Int)(p1a:Option Addr)(p1n p1c c0b c0o c1b:Nat)(c1_0a:Option Addr)(c1_0n c1_0c:Nat)(t0a:Option Addr)(t0n t0c:Nat)(m:Mem)(Y:Nat→Prop)(R:RTY)(h:ZeX p0 p1a p1n p1c c0b c0o c1b c1_0a c1_0n c1_0c t0a t0n t0c m Y R):CXY Try.prog 82 #[.int .i64 p0,.slice p1a p1n p1c,.pointer (some ⟨c0b,c0o,none⟩),.pointer (some ⟨c1b,0,none⟩)] m Y [⟨c1b,[.slice c1_0a c1_0n c1_0c],24,1,false,true⟩] [⟨.slice t0a t0n t0c,1⟩] R:=
 ZaL (E:=Zja) Zaw mix Try.func82 [.v (.int .i64 p0),.v (.slice p1a p1n p1c),.v (.pointer (some ⟨c0b,c0o,none⟩)),.loc 100000 0] [⟨c1b,[.slice c1_0a c1_0n c1_0c],24,1,false,true⟩] [900] [⟨.slice t0a t0n t0c,1⟩] (by decide) (by kernel_rfl) (Eq.mp (by kernel_rfl) h)
noncomputable def ZmG:Env:={ EB with
 borrow:=(fun i=>bif Nat.beq i 11 then[6]else[])
 frzNew:=[2]
 thaw:=true
 lentC:=(fun i=>bif Nat.beq i 11 then some [(900,1)]else none) }
def Zeo(aL:Option Addr)(aA aM:Nat)(aK:Option Addr)(aB aN:Nat)(aG:Option Addr)(aD aJ:Nat)(aH:Option Addr)(aE aI:Nat)(aC:Bool)(p1a:Option Addr)(p1n p1c:Nat)(m:Mem)(R:RT):Prop:=
 ∀(b:Nat)(m':Mem),Mem.le m m'→Mem.reads m' b 0 [slice aL aA aM,slice aK aB aN,slice aG aD aJ,slice aH aE aI,Value.bool aC]→Mem.free m b→(∀(b' o:Nat)(u:Value),
 m' b' o=some u→m b' o=some u∨b'=b)→∀(b_1:Nat),∃(Y:Nat→Prop),∃(R_1:Value→Mem→List (List Value)→List Value→Prop),CXY Try.prog 80 (Array.mk [agg (Array.mk [slice aL aA aM,slice
 aK aB aN,slice aG aD aJ,slice aH aE aI,Value.bool aC]),slice p1a p1n p1c,Value.bool true,Value.func (Fn.func 82) (Array.mk []) (Array.mk [Value.pointer (some (Addr.mk b 0 none)),
 Value.pointer (some (Addr.mk b_1 0 none))])]) m' Y [Box.mk b_1 [slice none 0 0] 24 1 false true] [Tok.mk (slice none 0 0) 1] R_1∧(∀(t:Tok),t∈[Tok.mk (slice none 0 0) 1]→∀(b:Nat),Tok.blk t=some b→Y b)∧
 (∀(b_2:Nat),Y b_2→(∃(t:Tok),t∈[Tok.mk (slice none 0 0) 1]∧Tok.blk t=some b_2)∨Mem.free m b_2∧(∃(o:Nat),∃(v:Value),m' b_2 o=some v)∧b≠b_2∧True)∧(∀(v:Value)(m':Mem) (css:List
 (List Value)) (tvs:List Value),R_1 v m' css tvs→Shape.fits (Shape.int i64) v=true)∧∀(n:Int)(m'_1:Mem),Mem.le (Mem.off m' Y) m'_1→(∀(b o:Nat)(u:Value),m'_1 b o=some u→m' b o=some u∨Y b∨
 Mem.free m' b)→∀(cs:List Value)(a:Option Addr)(c d:Nat),R_1 (int i64 n) m'_1 [cs] [slice a c d]→Eng.ZsM cs 0 fun(v:Value)=>∃(m'':Mem),Mem.le m m''∧Mem.le m'' m'_1∧R (Value.tuple (Array.mk [v,
 int i64 n])) m'' []
theorem ZgS(aL:Option Addr)(aA aM:Nat)(aK:Option Addr)(aB aN:Nat)(aG:Option Addr)(aD aJ:Nat)(aH:Option Addr)(aE aI:Nat)(aC:Bool)(p1a:Option Addr)(p1n p1c:Nat)(m:Mem)(R:RT)(h:Zeo aL aA aM aK aB aN aG aD aJ aH aE aI aC p1a p1n p1c m R):CX Try.prog 30 #[.agg #[.slice aL aA aM,.slice aK aB aN,.slice aG aD aJ,.slice aH aE aI,.bool aC],.slice p1a p1n p1c] m [] R:=
 Zaj (E:=ZmG) Zaw mix Try.func30 [.v (.agg #[.slice aL aA aM,.slice aK aB aN,.slice aG aD aJ,.slice aH aE aI,.bool aC]),.v (.slice p1a p1n p1c)] [] (by kernel_rfl) (Eq.mp (by kernel_rfl) h)
noncomputable def Zk1:Env:={ EB with
 joins:=(fun i=>bif Nat.beq i 2 then some [(4,.bool),(5,.int .i64)]else none)
 frzNew:=[2] }
def ZfI(aL:Option Addr)(aA aM:Nat)(aK:Option Addr)(aB aN:Nat)(aG:Option Addr)(aD aJ:Nat)(aH:Option Addr)(aE aI:Nat)(aC:Bool)(p1a:Option Addr)(p1n p1c:Nat)(m:Mem)(R:RT):Prop:=
 ∀(b:Nat)(m':Mem),Mem.le m m'→Mem.reads m' b 0 [slice aL aA aM,slice aK aB aN,slice aG aD aJ,slice aH aE aI,Value.bool aC]→∃(R_1:RT),True∧CX Try.prog 29
 (Array.mk [agg (Array.mk [slice aL aA aM,slice aK aB aN,slice aG aD aJ,slice aH aE aI,Value.bool aC]),slice p1a p1n p1c]) m' [] R_1∧ZaA (Shape.tup [Shape.slice,Shape.int
 i64]) R_1∧∀(a:Option Addr)(n c:Nat)(n_1:Int)(m'_1:Mem),Mem.le m' m'_1→R_1 (Value.tuple (Array.mk [slice a n c,int i64 n_1])) m'_1 []→∃(b_1:Bool),∃(n_2:Int),br (n_1 == (0:Int)) (∃(R:RT),
 True∧CX Try.prog 68 (Array.mk [agg (Array.mk [slice aL aA aM,slice aK aB aN,slice aG aD aJ,slice aH aE aI,Value.bool aC]),slice a n c]) m'_1 [] R∧ZaA Shape.bool R∧∀(b_2
 : Bool) (m':Mem),Mem.le m'_1 m'→R (Value.bool b_2) m' []→[some (Box.mk b [slice aL aA aM,slice aK aB aN,slice aG aD aJ,slice aH aE aI,Value.bool aC] 26 5 true true)] =
 [some (Box.mk b [slice aL aA aM,slice aK aB aN,slice aG aD aJ,slice aH aE aI,Value.bool aC] 26 5 true true)]∧[Value.bool b_2,int i64 n_1]=[Value.bool b_1,int i64 n_2])
 ([some (Box.mk b [slice aL aA aM,slice aK aB aN,slice aG aD aJ,slice aH aE aI,Value.bool aC] 26 5 true true)]=[some (Box.mk b [slice aL aA aM,slice aK aB
 aN,slice aG aD aJ,slice aH aE aI,Value.bool aC] 26 5 true true)]∧[Value.bool false,int i64 n_1]=[Value.bool b_1,int i64 n_2])∧∃(m'':Mem),Mem.le m m''∧Mem.le m'' m'_1∧R
 (Value.tuple (Array.mk [Value.bool b_1,int i64 n_2])) m'' []
theorem Zjb(aL:Option Addr)(aA aM:Nat)(aK:Option Addr)(aB aN:Nat)(aG:Option Addr)(aD aJ:Nat)(aH:Option Addr)(aE aI:Nat)(aC:Bool)(p1a:Option Addr)(p1n p1c:Nat)(m:Mem)(R:RT)(h:ZfI aL aA aM aK aB aN aG aD aJ aH aE aI aC p1a p1n p1c m R):CX Try.prog 18 #[.agg #[.slice aL aA aM,.slice aK aB aN,.slice aG aD aJ,.slice aH aE aI,.bool aC],.slice p1a p1n p1c] m [] R:=
 Zaj (E:=Zk1) Zaw mix Try.func18 [.v (.agg #[.slice aL aA aM,.slice aK aB aN,.slice aG aD aJ,.slice aH aE aI,.bool aC]),.v (.slice p1a p1n p1c)] [] (by kernel_rfl) (Eq.mp (by kernel_rfl) h)
noncomputable def Zk2:Env:={ EB with
 loops:=(fun i=>bif Nat.beq i 3 then⟨[(4,.slice)],[3],[(28,1)],false⟩ else⟨[],[],[],false⟩)
 tokOf:=(fun i=>bif Nat.beq i 28 then 28 else 0)
 frzNew:=[1]
 tokC:=(fun i=>bif Nat.beq i 8 then some (28,1)else none)
 thaw:=true
 tails:=true }
def ZfJ(aL:Option Addr)(aA aM:Nat)(aK:Option Addr)(aB aN:Nat)(aG:Option Addr)(aD aJ:Nat)(aH:Option Addr)(aE aI:Nat)(aC:Bool)(m:Mem)(R:RT):Prop:=
 ∀(b:Nat)(m':Mem),Mem.le m m'→Mem.reads m' b 0 [slice aL aA aM,slice aK aB aN,slice aG aD aJ,slice aH aE aI,Value.bool aC]→Mem.free m b→(∀(b' o:Nat)(u:Value),
 m' b' o=some u→m b' o=some u∨b'=b)→∀(ac ab:Nat),∃(R_1:RT),CXT Try.prog 44 (Array.mk [slice aG aD aJ]) m' 1 R_1∧ZaA Shape.slice R_1∧∀(a:Option Addr)(n c:Nat)(ai:Mem),Mem.le m'
 ai→R_1 (slice a n c) ai []→∃(I:IT),(∃(ad:Nat),I [slice a n c] [[int u64 0,int u64 0,int u64 0,int u64 0,int u64 0,int u64 0,int u64 0]] [slice a n c] ai ad)∧∀(a:Option Addr)(n c:Nat) (cs:List
 Value) (af:Option Addr) (ad ag:Nat) (m':Mem) (ah:Nat),True→I [slice a n c] [cs] [slice af ad ag] m' ah→br (decide ((↑n:Int) > (0:Int))) (∃(am:Nat),∃(o:Nat),a=some (Addr.mk am o none)∧Zac
 (0:Int) n∧∃(v:Value),m' am (o+0)=some v∧((0:Int)≤(1:Int)∧(1:Int)≤(↑n:Int))∧∃(R:RT),True∧CX Try.prog 115 (Array.mk [Value.pointer (some (Addr.mk ab 0 none)),v]) m' [Box.mk ab cs 100 7
 false true] R∧ZaA Shape.bool R∧∀(an:Bool)(ae:Mem),Mem.le m' ae→∀(cs:List Value),R (Value.bool an) ae [cs]→br (!an) (∃(R:RT),True∧CX Try.prog 116 (Array.mk [Value.pointer (some (Addr.mk ab 0
 none)),v]) ae [Box.mk ab cs 100 7 false true] R∧ZaA (Shape.tup []) R∧∀(m':Mem),Mem.le ae m'→∀(cs:List Value),R (Value.tuple (Array.mk [])) m' [cs]→chk (ZaK v) (∃(ao:Nat),∃(o:Nat),aK =
 some (Addr.mk ao o none)∧Zac (RowKit.intOf v) aB∧∃(aa:Value),m' ao (o+Int.toNat (RowKit.intOf v)*1)=some aa∧chk (Zc8 aa&&true) (br (Nat.beq (slN aa) 0) (chk (Nat.ble (n - Int.toNat (1:Int))
 (c - Int.toNat (1:Int))) ([some (Box.mk ab [] 100 7 false true),some (Box.mk ac [int u64 0,int u64 0,int u64 0,int u64 0,int u64 0,int u64 0,int u64 0] 100 7 false true),some (Box.mk b [slice aL aA
 aM,slice aK aB aN,slice aG aD aJ,slice aH aE aI,Value.bool aC] 26 5 true true)]=[some (Box.mk ab [] 100 7 false true),some (Box.mk ac [int u64 0,int u64 0,int u64 0,int u64 0,
 int u64 0,int u64 0,int u64 0] 100 7 false true),some (Box.mk b [slice aL aA aM,slice aK aB aN,slice aG aD aJ,slice aH aE aI,Value.bool aC] 26 5 true true)]∧([none]:List
 (Option Tok))=[none]∧∃(n':Nat),n' < ah∧I [slice (Za2 a (Int.toNat (1:Int)) c 1) (n - Int.toNat (1:Int)) (c - Int.toNat (1:Int))] [cs] [slice af ad ag] m' n')) (((∃(ap:Option Addr),∃(aj:Nat),∃
 (ak:Nat),∃(k:Nat),Tok.mk (slice af ad ag) 1=Tok.mk (slice ap aj ak) 1∧k≤aj∧slice (Za2 a (Int.toNat (1:Int)) c 1) (n - Int.toNat (1:Int)) (c - Int.toNat (1:Int))=slice (Za2 ap k ak 1) (aj -
 k) (ak - k))∨slice (Za2 a (Int.toNat (1:Int)) c 1) (n - Int.toNat (1:Int)) (c - Int.toNat (1:Int))=slice none 0 0∨c - Int.toNat (1:Int) < n - Int.toNat (1:Int)+slN aa)∧∃(xs:List Value),∃(ys:
 List Value),List.length xs=(n - Int.toNat (1:Int))*1∧List.length ys=slN aa*1∧rowRd m' (Za2 a (Int.toNat (1:Int)) c 1) xs∧rowRd m' (slA aa) ys∧(∀(u:Value),u∈ys→Value.oneCell' u=true)∧
 (n - Int.toNat (1:Int)+slN aa)*8≤140737488355328∧n - Int.toNat (1:Int)+slN aa≤9223372036854775807∧∀(a':Option Addr)(c':Nat)(al:Mem),Mem.le m' al→rowRd al a' (List.append xs ys)→TokFact m'
 (Za2 a (Int.toNat (1:Int)) c 1) a' (n - Int.toNat (1:Int)+slN aa) c'→[some (Box.mk ab [] 100 7 false true),some (Box.mk ac [int u64 0,int u64 0,int u64 0,int u64 0,int u64 0,int u64 0,int u64 0] 100 7
 false true),some (Box.mk b [slice aL aA aM,slice aK aB aN,slice aG aD aJ,slice aH aE aI,Value.bool aC] 26 5 true true)]=[some (Box.mk ab [] 100 7 false true),some (Box.mk ac
 [int u64 0,int u64 0,int u64 0,int u64 0,int u64 0,int u64 0,int u64 0] 100 7 false true),some (Box.mk b [slice aL aA aM,slice aK aB aN,slice aG aD aJ,slice aH aE aI,
 Value.bool aC] 26 5 true true)]∧([none]:List (Option Tok))=[none]∧∃(n':Nat),n' < ah∧I [slice a' (n - Int.toNat (1:Int)+slN aa) c'] [cs] [slice a' (n - Int.toNat (1:Int)+slN aa) c'] al n'))))
 ([some (Box.mk ab [] 100 7 false true),some (Box.mk ac [int u64 0,int u64 0,int u64 0,int u64 0,int u64 0,int u64 0,int u64 0] 100 7 false true),some (Box.mk b [slice aL aA aM,slice aK aB aN,
 slice aG aD aJ,slice aH aE aI,Value.bool aC] 26 5 true true)]=[some (Box.mk ab [] 100 7 false true),some (Box.mk ac [int u64 0,int u64 0,int u64 0,int u64 0,int u64 0,int u64 0,int u64 0]
 100 7 false true),some (Box.mk b [slice aL aA aM,slice aK aB aN,slice aG aD aJ,slice aH aE aI,Value.bool aC] 26 5 true true)]∧([none]:List (Option Tok))=[none]∧∃(n':
 Nat),n' < ah∧I [slice (Za2 a (Int.toNat (1:Int)) c 1) (n - Int.toNat (1:Int)) (c - Int.toNat (1:Int))] [cs] [slice af ad ag] ae n')) (chk (Nat.beq (List.length cs) 7&&Zcu cs) (∃(m'':Mem),Mem.le m m''
 ∧ Mem.le m'' m'∧R (agg (Array.mk cs)) m'' []))
theorem Zjc(aL:Option Addr)(aA aM:Nat)(aK:Option Addr)(aB aN:Nat)(aG:Option Addr)(aD aJ:Nat)(aH:Option Addr)(aE aI:Nat)(aC:Bool)(m:Mem)(R:RT)(h:ZfJ aL aA aM aK aB aN aG aD aJ aH aE aI aC m R):CX Try.prog 69 #[.agg #[.slice aL aA aM,.slice aK aB aN,.slice aG aD aJ,.slice aH aE aI,.bool aC]] m [] R:=
 Zaj (E:=Zk2) Zaw mix Try.func69 [.v (.agg #[.slice aL aA aM,.slice aK aB aN,.slice aG aD aJ,.slice aH aE aI,.bool aC])] [] (by kernel_rfl) (Eq.mp (by kernel_rfl) h)
noncomputable def Zp6:Env:={ EB with
 loops:=(fun i=>bif Nat.beq i 6 then⟨[(21,.int .i64)],[6],[],false⟩ else⟨[],[],[],false⟩)
 dr:=(fun i=>bif Nat.beq i 4 then[⟨0,[1],[],none,[],[]⟩,⟨1,[],[],none,[0],[]⟩,⟨2,[4],[],none,[],[]⟩,⟨3,[],[],none,[0,1,2],[1]⟩,⟨4,[6],[6],none,[],[]⟩,⟨5,[7],[7],none,[],[]⟩,⟨6,[6],[6],none,[0,1,2,3,4,5],[]⟩,⟨7,[7],[7],none,[0,1,2,3,4,5,6],[]⟩]else bif Nat.beq i 8 then[⟨0,[],[],none,[],[]⟩,⟨1,[6],[],none,[0],[]⟩,⟨2,[6],[],none,[0,1],[]⟩,⟨3,[],[],none,[],[]⟩,⟨4,[7],[],none,[3],[]⟩,⟨5,[7],[],none,[3,4],[]⟩,⟨6,[],[],none,[0,1,2,3,4,5],[]⟩,⟨7,[6],[],none,[0,1,2,3,4,5,6],[]⟩,⟨8,[6],[6],none,[0,1,2,3,4,5,6,7],[]⟩]else[])
 frzNew:=[1]
 frzAt:=(fun i=>bif Nat.beq i 33 then[6]else[]) }
def ZgT(aL:Option Addr)(aA aM:Nat)(aK:Option Addr)(aB aN:Nat)(aG:Option Addr)(aD aJ:Nat)(aH:Option Addr)(aE aI:Nat)(aC:Bool)(m:Mem)(R:RT):Prop:=
 ∀(b:Nat)(m':Mem),Mem.le m m'→Mem.reads m' b 0 [slice aL aA aM,slice aK aB aN,slice aG aD aJ,slice aH aE aI,Value.bool aC]→∃(R_1:RT),True∧CX Try.prog 16
 (Array.mk [agg (Array.mk [slice aL aA aM,slice aK aB aN,slice aG aD aJ,slice aH aE aI,Value.bool aC])]) m' [] R_1∧ZaA (Shape.tup [Shape.agg [Shape.slice,Shape.slice,
 Shape.slice,Shape.slice,Shape.bool],Shape.int i64]) R_1∧∀(a:Option Addr)(n c:Nat)(ak:Option Addr)(al am:Nat)(an:Option Addr)(ao ap:Nat)(aq:Option Addr)(ar au:Nat)(av:Bool)(ay:Int) (ab
 : Mem),Mem.le m' ab→R_1 (Value.tuple (Array.mk [agg (Array.mk [slice a n c,slice ak al am,slice an ao ap,slice aq ar au,Value.bool av]),int i64 ay])) ab []→∀(a0:Nat),br (!ay == (0:Int)) (∃(m'':Mem),
 Mem.le m m''∧Mem.le m'' ab∧R (Value.tuple (Array.mk [slice none 0 0,int i64 ay])) m'' []) (∃(f:Fx),∃(R_2:RT),R_2=f 1 [agg (Array.mk [slice aL aA aM,slice aK aB aN,slice aG aD
 aJ,slice aH aE aI,Value.bool aC])] ab∧CX Try.prog 69 (Array.mk [agg (Array.mk [slice aL aA aM,slice aK aB aN,slice aG aD aJ,slice aH aE aI,Value.bool aC])]) ab
 [] R_2∧ZaA (Shape.agg [Shape.int u64,Shape.int u64,Shape.int u64,Shape.int u64,Shape.int u64,Shape.int u64,Shape.int u64]) R_2∧∀(a1 a2 a3 a4 a5 a6 a7:Int)(m':Mem),Mem.le ab m'→R_2 (agg (Array.mk [int
 u64 a1,int u64 a2,int u64 a3,int u64 a4,int u64 a5,int u64 a6,int u64 a7])) m' []→∃(R_3:RT),R_3=f 3 [agg (Array.mk [slice a n c,slice ak al am,slice an ao ap,slice aq ar au,Value.bool av])] m'∧CX
 Try.prog 69 (Array.mk [agg (Array.mk [slice a n c,slice ak al am,slice an ao ap,slice aq ar au,Value.bool av])]) m' [] R_3∧ZaA (Shape.agg [Shape.int u64,Shape.int u64,Shape.int u64,Shape.int u64,Shape.int
 u64,Shape.int u64,Shape.int u64]) R_3∧∀(ac ad ae af ag ah ai:Int)(az:Mem),Mem.le m' az→R_3 (agg (Array.mk [int u64 ac,int u64 ad,int u64 ae,int u64 af,int u64 ag,int u64 ah,int u64 ai])) az []→∀(aj
 aw:Nat) (M:Mem),Mem.le ab M→Mem.le m' M→Mem.le az M→∃(I:IT),(∃(n:Nat),I [int i64 0] [[int u64 a1,int u64 a2,int u64 a3,int u64 a4,int u64 a5,int u64 a6,int u64 a7]] [] M n)∧∀(aa:Int) (cs:
 List Value) (m':Mem) (a8:Nat),Mem.le M m'→I [int i64 aa] [cs] [] m' a8→br (decide (aa < (7:Int))) (Zac aa 7∧Eng.ZsM cs (0+Int.toNat aa*1) fun(v:Value)=>Zac aa 7∧Eng.ZsM [int u64 ac,int
 u64 ad,int u64 ae,int u64 af,int u64 ag,int u64 ah,int u64 ai] (0+Int.toNat aa*1) fun(a9:Value)=>chk (ZaY u64 v&&ZaY u64 a9) (Zac aa 7∧chk (Nat.ble (0+Int.toNat aa*1+1) (List.length cs))
 ([some (Box.mk aj [] 100 7 false true),some (Box.mk aw [int u64 ac,int u64 ad,int u64 ae,int u64 af,int u64 ag,int u64 ah,int u64 ai] 100 7 false true),some (Box.mk aj [] 100 7 false true),some (Box.mk aw [int
 u64 ac,int u64 ad,int u64 ae,int u64 af,int u64 ag,int u64 ah,int u64 ai] 100 7 false true),some (Box.mk a0 [slice a n c,slice ak al am,slice an ao ap,slice aq ar au,Value.bool av] 26 5 false true),some
 (Box.mk b [slice aL aA aM,slice aK aB aN,slice aG aD aJ,slice aH aE aI,Value.bool aC] 26 5 true true)]=[some (Box.mk aj [] 100 7 false true),some (Box.mk aw [int u64 ac,int
 u64 ad,int u64 ae,int u64 af,int u64 ag,int u64 ah,int u64 ai] 100 7 false true),some (Box.mk aj [] 100 7 false true),some (Box.mk aw [int u64 ac,int u64 ad,int u64 ae,int u64 af,int u64 ag,int u64 ah,int
 u64 ai] 100 7 false true),some (Box.mk a0 [slice a n c,slice ak al am,slice an ao ap,slice aq ar au,Value.bool av] 26 5 false true),some (Box.mk b [slice aL aA aM,slice aK aB aN,slice aG
 aD aJ,slice aH aE aI,Value.bool aC] 26 5 true true)]∧∃(n':Nat),n' < a8∧I [int i64 (IntKind.wrap i64 (aa+(1:Int)))] [Zan cs (0+Int.toNat aa*1) [int u64 (IntKind.wrap u64
 (↑(BitVec.toNat (BitVec.ofInt 64 (RowKit.intOf v)&&&BitVec.ofInt 64 (RowKit.intOf a9))):Int))]] [] m' n'))) (∀(ax:Mem),Mem.le m' ax→Mem.reads ax aj 0 cs→∃(R_4:RT),True∧CX Try.prog 62 (Array.mk
 [Value.pointer (some (Addr.mk aj 0 none))]) ax [] R_4∧ZaA Shape.slice R_4∧∀(a:Option Addr)(n c:Nat)(m':Mem),Mem.le ax m'→R_4 (slice a n c) m' []→∃(m'':Mem),Mem.le m m''∧Mem.le m'' m'∧R
 (Value.tuple (Array.mk [slice a n c,int i64 0])) m'' []))
theorem Zj0(aL:Option Addr)(aA aM:Nat)(aK:Option Addr)(aB aN:Nat)(aG:Option Addr)(aD aJ:Nat)(aH:Option Addr)(aE aI:Nat)(aC:Bool)(m:Mem)(R:RT)(h:ZgT aL aA aM aK aB aN aG aD aJ aH aE aI aC m R):CX Try.prog 20 #[.agg #[.slice aL aA aM,.slice aK aB aN,.slice aG aD aJ,.slice aH aE aI,.bool aC]] m [] R:=
 Zaj (E:=Zp6) Zaw mix Try.func20 [.v (.agg #[.slice aL aA aM,.slice aK aB aN,.slice aG aD aJ,.slice aH aE aI,.bool aC])] [] (by kernel_rfl) (Eq.mp (by kernel_rfl) h)
noncomputable def Zc4:Env:={ EB with
 tokOf:=(fun i=>bif Nat.beq i 2 then 7 else bif Nat.beq i 7 then 7 else 0)
 tokC:=(fun i=>bif Nat.beq i 5 then some (7,1)else none)
 thaw:=true }
def ZbI(p0a:Option Addr)(p0n p0c:Nat)(m:Mem)(R:RT):Prop:=
 br (Option.isNone p0a) (slice none 0 0=slice none 0 0∧R (slice none 0 0) m []) (((0:Int)=(0:Int)∧(0:Int)≤(0:Int)∧(0:Int)*(↑(1:Nat):Int)≤(281474976710656:Int)∧(0:Int) ≤
 (9223372036854775807:Int))∧∀(b:Nat),Mem.free m b→(Tok.mk (slice (some (Addr.mk b 0 none)) 0 (Int.toNat (0:Int))) 1=Tok.mk (slice (some (Addr.mk b 0 none)) 0 (Int.toNat (0:Int))) 1∨slice (some (Addr.mk
 b 0 none)) 0 (Int.toNat (0:Int))=slice none 0 0∨Int.toNat (0:Int) < 0+p0n)∧∃(xs:List Value),∃(ys:List Value),List.length xs=0*1∧List.length ys=p0n*1∧rowRd m (some (Addr.mk b 0 none)) xs∧
 rowRd m p0a ys∧(∀(u:Value),u∈ys→Value.oneCell' u=true)∧(0+p0n)*1≤140737488355328∧0+p0n≤9223372036854775807∧∀(a':Option Addr)(c':Nat)(m':Mem),Mem.le m m'→rowRd m' a' (List.append
 xs ys)→TokFact m (some (Addr.mk b 0 none)) a' (0+p0n) c'→some (Tok.mk (slice a' (0+p0n) c') 1)=some (Tok.mk (slice a' (0+p0n) c') 1)∧R (slice a' (0+p0n) c') m' [])
theorem Zct(p0a:Option Addr)(p0n p0c:Nat)(m:Mem)(R:RT)(h:ZbI p0a p0n p0c m R):CXT Try.prog 17 #[.slice p0a p0n p0c] m 1 R:=
 ZfX (E:=Zc4) Zaw mix Try.func17 [.v (.slice p0a p0n p0c)] (by kernel_rfl) (Eq.mp (by kernel_rfl) h)
end Go.Proofs.Ytplacemlpkhmfaa
