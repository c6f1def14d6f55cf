/- Trees of regexes, what they mean, and xF they lie in memory; plain, no program is named. No condition. -/
import Derived.Test.YtplacemlpkhmfaaMc
set_option linter.unusedVariables false
set_option linter.unusedSimpArgs false
namespace Go.Rx
open Go Go.Eng Go.RowKit
def wdN(f j:Nat):Nat:=(f >>> (64*j)) % 2 ^ 64
theorem ZiW(f j:Nat):wdN f j < 18446744073709551616:=by
 unfold wdN
 exact Nat.mod_lt _ (by decide)
theorem ZlG(f j k:Nat):(wdN f j).testBit k=(decide (k < 64)&&f.testBit (64*j+k)):=by
 unfold wdN
 rw[Nat.testBit_mod_two_pow,Nat.testBit_shiftRight]
theorem Zu7(f g j:Nat):wdN (f|||g) j=wdN f j|||wdN g j:=by
 apply Nat.eq_of_testBit_eq
 intro k
 simp only[ZlG,Nat.testBit_or]
 cases decide (k < 64) <;> simp
theorem Zu8{q r j:Nat}(hr:r < 64):wdN (2 ^ (64*q+r)) j=if j=q then 2 ^ r else 0:=by
 apply Nat.eq_of_testBit_eq
 intro k
 rw[ZlG,Nat.testBit_two_pow]
 by_cases hj:j=q
 ·subst hj
  rw[if_pos rfl,Nat.testBit_two_pow]
  by_cases hk:k < 64
  ·simp[hk]
  ·have:¬r=k:=by omega
   simp[hk,this]
 ·rw[if_neg hj]
  simp only[Nat.zero_testBit,Bool.and_eq_false_iff,decide_eq_false_iff_not]
  omega
theorem Zs2(n:Nat)(h:n < 18446744073709551616):IntKind.u64.wrap (n:Int)=n:=by
 unfold IntKind.wrap
 have e:(2:Int) ^ 64=18446744073709551616:=by decide
 simp only[IntKind.bits,IntKind.signed,Bool.false_and,Bool.false_eq_true,if_false,e]
 omega
theorem Zxb(a:Nat)(h:a < 18446744073709551616):(BitVec.ofInt 64 (a:Int)).toNat=a:=by
 rw[BitVec.toNat_ofInt]
 have e:((2:Nat) ^ 64:Nat)=18446744073709551616:=by decide
 rw[e];omega
theorem ZmX(a b:Nat)(ha:a < 18446744073709551616)(hb:b < 18446744073709551616):IntKind.u64.wrap ((BitVec.ofInt 64 (a:Int)|||BitVec.ofInt 64 (b:Int)).toNat:Int)=((a|||b:Nat):Int):=by
 rw[BitVec.toNat_or,Zxb a ha,Zxb b hb]
 exact Zs2 _ (Nat.or_lt_two_pow (n:=64) ha hb)
theorem ZmY(a r:Nat)(ha:a < 18446744073709551616):(IntKind.u64.wrap ((BitVec.ofInt 64 (Int.fdiv (a:Int) (2 ^ r))&&&BitVec.ofInt 64 1).toNat:Int) == 1)=a.testBit r:=by
 have e:Int.fdiv (a:Int) (2 ^ r)=((a >>> r:Nat):Int):=by
  rw[Nat.shiftRight_eq_div_pow,Int.fdiv_eq_ediv_of_nonneg _ (Int.pow_nonneg (by omega))]
  push_cast
  rfl
 have bK:a >>> r < 18446744073709551616:=Nat.lt_of_le_of_lt (Nat.shiftRight_le a r) ha
 rw[e,BitVec.toNat_and,Zxb _ bK]
 have h1:(BitVec.ofInt 64 1).toNat=1:=by decide
 rw[h1,Zs2 _ (Nat.lt_of_le_of_lt Nat.and_le_left bK),Nat.and_one_is_mod]
 have e2:a.testBit r=decide (a >>> r % 2=1):=by
  rw[Nat.shiftRight_eq_div_pow];exact Nat.testBit_eq_decide_div_mod_eq
 rw[e2,Bool.eq_iff_iff]
 simp only[beq_iff_eq,decide_eq_true_eq]
 omega
def plV(f:Nat):Value:=.agg #[.int .u64 (wdN f 0:Nat),.int .u64 (wdN f 1:Nat),.int .u64 (wdN f 2:Nat),.int .u64 (wdN f 3:Nat),.int .u64 (wdN f 4:Nat),.int .u64 (wdN f 5:Nat),.int .u64 (wdN f 6:Nat),.int .u64 (wdN f 7:Nat),.int .u64 (wdN f 8:Nat)]
end Go.Rx
namespace Go.Rx
open Go Go.Eng Go.RowKit
def bwL(f:Nat):List Value:=[.int .u64 (wdN f 0:Nat),.int .u64 (wdN f 1:Nat),.int .u64 (wdN f 2:Nat),.int .u64 (wdN f 3:Nat),.int .u64 (wdN f 4:Nat),.int .u64 (wdN f 5:Nat),.int .u64 (wdN f 6:Nat)]
def bwV(f:Nat):Value:=.agg #[.int .u64 (wdN f 0:Nat),.int .u64 (wdN f 1:Nat),.int .u64 (wdN f 2:Nat),.int .u64 (wdN f 3:Nat),.int .u64 (wdN f 4:Nat),.int .u64 (wdN f 5:Nat),.int .u64 (wdN f 6:Nat)]
theorem ZhD{f j:Nat}(h:j < 7):(bwL f)[j]?=some (.int .u64 (wdN f j:Nat)):=by
 have:j=0∨j=1∨j=2∨j=3∨j=4∨j=5∨j=6:=by omega
 rcases this with rfl|rfl|rfl|rfl|rfl|rfl|rfl <;> rfl
theorem Zwr{f q r:Nat}(hq:q < 7)(hr:r < 64):Zan (bwL f) q [.int .u64 ((wdN f q|||2 ^ r:Nat):Int)]=bwL (f|||2 ^ (64*q+r)):=by
 unfold bwL
 simp only[Zu7,Zu8 hr]
 have:q=0∨q=1∨q=2∨q=3∨q=4∨q=5∨q=6:=by omega
 rcases this with rfl|rfl|rfl|rfl|rfl|rfl|rfl <;> simp[Zan,Nat.or_zero]
theorem ZjE:bwL 0=[.int .u64 0,.int .u64 0,.int .u64 0,.int .u64 0,.int .u64 0,.int .u64 0,.int .u64 0]:=by simp[bwL,wdN]
def orB(f g k:Nat):List Value:=(List.range 7).map fun j=>.int .u64 ((if j < k then wdN (f|||g) j else wdN f j:Nat):Int)
theorem Zs3{f g k j:Nat}(h:j < 7):(orB f g k)[j]?=some (.int .u64 ((if j < k then wdN (f|||g) j else wdN f j:Nat):Int)):=by
 simp[orB,h]
theorem Zn0(f g k:Nat):(orB f g k).length=7:=by simp[orB]
theorem Zn1(f:Nat):(bwL f).length=7:=rfl
theorem ZqF{f g k:Nat}(h:k < 7):Zan (orB f g k) k [.int .u64 ((wdN f k|||wdN g k:Nat):Int)]=orB f g (k+1):=by
 rw[←Zu7]
 have:k=0∨k=1∨k=2∨k=3∨k=4∨k=5∨k=6:=by omega
 rcases this with rfl|rfl|rfl|rfl|rfl|rfl|rfl <;> rfl
theorem Ziv{A L B:List Value}{q:Nat}{v:Value}(h:q < L.length):Zan (A++L++B) (A.length+q) [v]=A++Zan L q [v]++B:=by
 simp only[Zan,List.length_singleton]
 have h1:(A++L++B).take (A.length+q)=A++L.take q:=by
  rw[List.append_assoc,List.take_append,List.take_of_length_le (by omega),Nat.add_sub_cancel_left,List.take_append_of_le_length (by omega)]
 have h2:(A++L++B).drop (A.length+q+1)=L.drop (q+1)++B:=by
  rw[List.append_assoc,Nat.add_assoc,List.drop_append,List.drop_eq_nil_of_le (by omega),List.nil_append,Nat.add_sub_cancel_left,List.drop_append_of_le_length (by omega)]
 rw[h1,h2];simp
theorem Zn2{A L B:List Value}{q:Nat}{v:Value}(h:L[q]?=some v):(A++L++B)[A.length+q]?=some v:=by
 have hq:=(List.getElem?_eq_some_iff.1 h).1
 rw[List.append_assoc,List.getElem?_append_right (by omega),Nat.add_sub_cancel_left,List.getElem?_append_left hq,h]
def Zcp(f:Nat):List Nat:=(List.range 448).filter fun i=>f.testBit i
theorem Zpz(f k:Nat)(h:k≤448):(Zcp f).take (((List.range k).filter fun i=>f.testBit i).length)=(List.range k).filter fun i=>f.testBit i:=by
 have e:List.range 448=List.range k++(List.range 448).drop k:=by
  have:=(List.take_append_drop k (List.range 448)).symm
  rwa [List.take_range,Nat.min_eq_left h]at this
 unfold Zcp
 conv=>lhs;rw[e,List.filter_append]
 rw[List.take_left']
 rfl
theorem ZtO(f k:Nat)(h:k < 448)(hb:f.testBit k=true):(Zcp f)[((List.range k).filter fun i=>f.testBit i).length]?=some k:=by
 have h1:=Zpz f (k+1) (by omega)
 have e:(List.range (k+1)).filter (fun i=>f.testBit i)=(List.range k).filter (fun i=>f.testBit i)++[k]:=by
  rw[List.range_succ,List.filter_append];simp[hb]
 rw[e]at h1
 have h2:=congrArg (fun l=>l[((List.range k).filter fun i=>f.testBit i).length]?) h1
 simpa[List.getElem?_take]using h2
theorem Zn3(f:Nat):(Zcp f).length≤448:=by
 unfold Zcp
 exact Nat.le_trans (List.length_filter_le _ _) (by simp)
theorem Zkx{f i:Nat}:i∈Zcp f↔i < 448∧f.testBit i=true:=by simp[Zcp]
theorem ZhE(f:Nat):(Zcp f).Pairwise (· < ·):=(List.pairwise_lt_range (n:=448)).filter _
end Go.Rx
namespace Go.Rx
open Go Go.Eng
inductive T where
 | node (k s0 s1 s2 s3 mn mx:Int) (a:Option Addr) (c:Nat) (subs:List T)
def T.k:T→Int
 | .node k _ _ _ _ _ _ _ _ _=>k
def T.s0:T→Int
 | .node _ s _ _ _ _ _ _ _ _=>s
def T.s1:T→Int
 | .node _ _ s _ _ _ _ _ _ _=>s
def T.s2:T→Int
 | .node _ _ _ s _ _ _ _ _ _=>s
def T.s3:T→Int
 | .node _ _ _ _ s _ _ _ _ _=>s
def T.mn:T→Int
 | .node _ _ _ _ _ x _ _ _ _=>x
def T.mx:T→Int
 | .node _ _ _ _ _ _ x _ _ _=>x
def T.a:T→Option Addr
 | .node _ _ _ _ _ _ _ a _ _=>a
def T.c:T→Nat
 | .node _ _ _ _ _ _ _ _ c _=>c
def T.subs:T→List T
 | .node _ _ _ _ _ _ _ _ _ l=>l
def T.sl(t:T):Value:=.slice t.a t.subs.length t.c
def T.cs(t:T):List Value:=[.int .u8 t.k,.int .u64 t.s0,.int .u64 t.s1,.int .u64 t.s2,.int .u64 t.s3,.int .i64 t.mn,.int .i64 t.mx,t.sl]
def T.v(t:T):Value:=.agg #[.int .u8 t.k,.int .u64 t.s0,.int .u64 t.s1,.int .u64 t.s2,.int .u64 t.s3,.int .i64 t.mn,.int .i64 t.mx,.slice t.a t.subs.length t.c]
structure OkN (k s0 s1 s2 s3 mn mx:Int):Prop where
 k:0≤k∧k < 256
 s0:0≤s0∧s0 < 18446744073709551616
 s1:0≤s1∧s1 < 18446744073709551616
 s2:0≤s2∧s2 < 18446744073709551616
 s3:0≤s3∧s3 < 18446744073709551616
 mn : -9223372036854775808≤mn∧mn≤9223372036854775807
 mx : -9223372036854775808≤mx∧mx≤9223372036854775807
mutual
def Rep(m:Mem):T→Prop
 | .node k s0 s1 s2 s3 mn mx a _ l=>l.length≤1000000000000000∧(l=[]∨∃b o,a=some ⟨b,o,none⟩∧RepAt m b o l)∧OkN k s0 s1 s2 s3 mn mx
def RepAt(m:Mem)(b:Nat):Nat→List T→Prop
 | _,[]=>True
 | o,t::l=>m.reads b o t.cs∧Rep m t∧RepAt m b (o+8) l
end
theorem Zdw{m:Mem}{t:T}:Rep m t→(t.subs.length≤1000000000000000∧(t.subs=[]∨∃b o,t.a=some ⟨b,o,none⟩∧RepAt m b o t.subs)):=by
 cases t;simp only[Rep,T.subs,T.a];exact fun h=>⟨h.1,h.2.1⟩
theorem Zws{m:Mem}{t:T}:Rep m t→OkN t.k t.s0 t.s1 t.s2 t.s3 t.mn t.mx:=by
 cases t;simp only[Rep];exact fun h=>h.2.2
mutual
theorem Rep.mono{m m':Mem}(h:m.le m'):∀t:T,Rep m t→Rep m' t
 | .node _ _ _ _ _ _ _ a _ l,hr=>by
  simp only[Rep]at *
  refine⟨hr.1,?_,hr.2.2⟩
  rcases hr.2.1 with hr|⟨b,o,h1,h2⟩
  ·exact .inl hr
  ·exact .inr ⟨b,o,h1,RepAt.mono h b o l h2⟩
theorem RepAt.mono{m m':Mem}(h:m.le m')(b:Nat):∀(o:Nat)(l:List T),RepAt m b o l→RepAt m' b o l
 | _,[],_=>by simp only[RepAt]
 | o,t::l,hr=>by
  simp only[RepAt]at *
  exact⟨hr.1.mono h,Rep.mono h t hr.2.1,RepAt.mono h b (o+8) l hr.2.2⟩
end
theorem RepAt.get{m:Mem}{b:Nat}:∀{o:Nat} {l:List T} {i:Nat} {t:T},RepAt m b o l→l[i]?=some t→m.reads b (o+i*8) t.cs∧Rep m t
 | o,[],i,t,_,hi=>by simp at hi
 | o,x::l,0,t,h,hi=>by
  simp only[RepAt]at h
  simp at hi;subst hi
  exact⟨by simpa using h.1,h.2.1⟩
 | o,x::l,i+1,t,h,hi=>by
  simp only[RepAt]at h
  have:=h.2.2.get (i:=i) (by simpa using hi)
  rw[show o+(i+1)*8=o+8+i*8 by omega]
  exact this
mutual
def T.nodes:T→List T
 | .node k s0 s1 s2 s3 mn mx a c l=>.node k s0 s1 s2 s3 mn mx a c l::ZaF l
def ZaF:List T→List T
 | []=>[]
 | t::l=>t.nodes++ZaF l
end
theorem ZcG(t:T):t.nodes=t::ZaF t.subs:=by cases t;simp only[T.nodes,T.subs]
theorem Zdf(l r:List T):ZaF (l++r)=ZaF l++ZaF r:=by
 induction l with
 | nil=>simp[ZaF]
 | cons t l ih=>simp[ZaF,ih,List.append_assoc]
theorem Zn4{l:List T}{i:Nat}{t:T}(h:l[i]?=some t):ZaF (l.take (i+1))=ZaF (l.take i)++t.nodes:=by
 have:l.take (i+1)=l.take i++[t]:=by
  rw[List.take_add_one,h];rfl
 rw[this,Zdf];simp[ZaF]
theorem Zfi{l:List T}{i:Nat}{t:T}(h:l[i]?=some t):ZaF l=ZaF (l.take i)++(t.nodes++ZaF (l.drop (i+1))):=by
 have bK:=(List.getElem?_eq_some_iff.1 h).1
 have e:l=l.take i++(t::l.drop (i+1)):=by
  have:=List.drop_eq_getElem_cons bK
  rw[(List.getElem?_eq_some_iff.1 h).2]at this
  rw[←this,List.take_append_drop]
 conv=>lhs;rw[e,Zdf]
 simp[ZaF]
theorem ZtP{t x z:T}{i q:Nat}(hx:t.subs[i]?=some x)(hz:x.nodes[q]?=some z):t.nodes[1+(ZaF (t.subs.take i)).length+q]?=some z:=by
 have hq:=(List.getElem?_eq_some_iff.1 hz).1
 rw[ZcG,show 1+(ZaF (t.subs.take i)).length+q=((ZaF (t.subs.take i)).length+q)+1 by omega,List.getElem?_cons_succ,Zfi hx,List.getElem?_append_right (by omega),List.getElem?_append_left (by omega),show(ZaF (List.take i t.subs)).length+q - (ZaF (List.take i t.subs)).length=q by omega]
 exact hz
theorem ZrT{t x:T}(h:x∈t.subs):SizeOf.sizeOf x < SizeOf.sizeOf t:=by
 cases t with
 | node k s0 s1 s2 s3 mn mx a c l=>
  have h':x∈l:=h
  have:=List.sizeOf_lt_of_mem h'
  simp only[T.node.sizeOf_spec]
  omega
theorem ZrU(t:T):Shape.fitsL [.agg [.int .u8,.int .u64,.int .u64,.int .u64,.int .u64,.int .i64,.int .i64,.slice]] [t.v]=true:=by
 simp[Shape.fitsL,Shape.fits,T.v]
mutual
theorem ZqG{m:Mem}:∀(t:T),Rep m t→∀x∈t.nodes,Rep m x
 | .node k s0 s1 s2 s3 mn mx a c l,hr,x,hx=>by
  simp only[T.nodes,List.mem_cons]at hx
  rcases hx with rfl|hx
  ·exact hr
  ·simp only[Rep]at hr
   rcases hr.2.1 with h|⟨b,o,_,h⟩
   ·subst h;simp[ZaF]at hx
   ·exact Zn5 b o l h x hx
theorem Zn5{m:Mem}(b:Nat):∀(o:Nat)(l:List T),RepAt m b o l→∀x∈ZaF l,Rep m x
 | _,[],_,x,hx=>by simp[ZaF]at hx
 | o,t::l,hr,x,hx=>by
  simp only[RepAt]at hr
  simp only[ZaF,List.mem_append]at hx
  rcases hx with hx|hx
  ·exact ZqG t hr.2.1 x hx
  ·exact Zn5 b (o+8) l hr.2.2 x hx
end
theorem ZrV{m:Mem}{t x:T}(h:Rep m t)(hx:x∈t.nodes):Rep m x:=ZqG t h x hx
def ZfY(least most:Int):Bool:=!(decide (least < 0)||decide (least > 16)||(least == 1&&most == 1))&&(most == -1||(decide (most ≥ 1)&&decide (most≤16)&&decide (most ≥ least)))
def T.has(t:T)(k:Int):Bool:=t.subs.any fun x=>x.k == k
def T.light(t:T):Bool:=decide (t.nodes.length≤10000)
def T.setZ(t:T):Bool:=t.s0 == 0&&t.s1 == 0&&t.s2 == 0&&t.s3 == 0
def T.right(t:T):Bool:=
 !(t.k != 2&&!t.setZ||(t.k != 5&&(t.mn != 0||t.mx != 0)||(decide (t.k < 3)&&decide (0 < t.subs.length)))) &&
 (if t.k=1 then true else if t.k=2 then !t.setZ else if t.k=3 then decide (1 < t.subs.length)&&(!t.has 1&&!t.has 3)else if t.k=4 then decide (1 < t.subs.length)&&!t.has 4
  else if t.k=5 then t.subs.length == 1&&(ZfY t.mn t.mx&&!t.has 1)else t.k == 6&&t.subs.length == 1)
def T.clean(t:T):Bool:=t.light&&t.nodes.all T.right
def T.size(t:T):Int:=if t.light then t.nodes.length else 10001
def T.groups(t:T):Int:=if t.light then(t.nodes.countP fun x=>x.k == 6:Nat)else 10001
def ZlH(x y:Int):Int:=if y > x then y else x
def ZmZ(x y:Int):Int:=if y < x then y else x
def ZuE(k mn mx sum:Int):Int:=ZmZ (if k=5 then sum*ZmZ (if mx=-1 then ZlH (ZlH mn 0) 1 else ZlH (ZlH mn 0) mx) 10001 else sum) 10001
mutual
def T.pos:T→Int
 | .node k _ _ _ _ mn mx _ _ l=>ZuE k mn mx ((if k=2 then 1 else 0)+ZdH l)
def ZdH:List T→Int
 | []=>0
 | t::l=>t.pos+ZdH l
end
def T.positions(t:T):Int:=if t.light then t.pos else 10001
def T.check(t:T):Int:=if t.clean=false then 80 else if t.size > 120 then 81 else if t.positions > 400 then 82 else if t.groups > 9 then 83 else 0
mutual
def T.same:T→T→Bool
 | .node k s0 s1 s2 s3 mn mx _ _ l,.node k' s0' s1' s2' s3' mn' mx' _ _ l'=>k == k'&&((s0 == s0'&&s1 == s1'&&s2 == s2'&&s3 == s3')&&(mn == mn'&&(mx == mx'&&Zg9 l l')))
def Zg9:List T→List T→Bool
 | [],[]=>true
 | t::l,t'::l'=>t.same t'&&Zg9 l l'
 | _,_=>false
end
theorem Zu9(t u:T):t.same u=(t.k == u.k&&((t.s0 == u.s0&&t.s1 == u.s1&&t.s2 == u.s2&&t.s3 == u.s3)&&(t.mn == u.mn&&(t.mx == u.mx&&Zg9 t.subs u.subs)))):=by
 cases t;cases u;simp only[T.same,T.k,T.s0,T.s1,T.s2,T.s3,T.mn,T.mx,T.subs]
theorem Zn6:∀{l r:List T},¬l.length=r.length→Zg9 l r=false
 | [],[],h=>by simp at h
 | [],_::_,_=>by simp[Zg9]
 | _::_,[],_=>by simp[Zg9]
 | x::l,y::r,h=>by
  simp only[Zg9,Zn6 (l:=l) (r:=r) (by simpa using h),Bool.and_false]
theorem ZqH:∀{l r:List T} {i:Nat} {x y:T},l[i]?=some x→r[i]?=some y→x.same y=false→Zg9 l r=false
 | [],r,i,x,y,h,_,_=>by simp at h
 | _::_,[],i,x,y,_,h,_=>by simp at h
 | a::l,b::r,0,x,y,h,k,e=>by
  simp at h k;subst h k
  simp[Zg9,e]
 | a::l,b::r,i+1,x,y,h,k,e=>by
  simp only[Zg9,ZqH (l:=l) (r:=r) (i:=i) (by simpa using h) (by simpa using k) e,Bool.and_false]
theorem ZlI:∀{l r:List T} {i:Nat} {x y:T},l[i]?=some x→r[i]?=some y→Zg9 (l.take i) (r.take i)=true→x.same y=true→True→Zg9 (l.take (i+1)) (r.take (i+1))=true
 | [],r,i,x,y,h,_,_,_,_=>by simp at h
 | _::_,[],i,x,y,_,h,_,_,_=>by simp at h
 | a::l,b::r,0,x,y,h,k,_,e,_=>by
  simp at h k;subst h k
  simp[Zg9,e]
 | a::l,b::r,i+1,x,y,h,k,hs,e,_=>by
  simp only[List.take_succ_cons,Zg9,Bool.and_eq_true]at hs ⊢
  exact⟨hs.1,ZlI (by simpa using h) (by simpa using k) hs.2 e trivial⟩
theorem ZtQ(t:T):t.pos=ZuE t.k t.mn t.mx ((if t.k=2 then 1 else 0)+ZdH t.subs):=by
 cases t;simp only[T.pos,T.k,T.mn,T.mx,T.subs];congr 1
theorem ZgD(l r:List T):ZdH (l++r)=ZdH l+ZdH r:=by
 induction l with
 | nil=>simp[ZdH]
 | cons t l ih=>simp[ZdH,ih,Int.add_assoc]
theorem ZrW{l:List T}{i:Nat}{t:T}(h:l[i]?=some t):ZdH (l.take (i+1))=ZdH (l.take i)+t.pos:=by
 have:l.take (i+1)=l.take i++[t]:=by
  rw[List.take_add_one,h];rfl
 rw[this,ZgD];simp[ZdH]
theorem ZqI(x y:Int):x≤ZlH x y∧y≤ZlH x y:=by unfold ZlH;split <;> omega
theorem ZqJ(x y:Int):ZmZ x y≤x∧ZmZ x y≤y:=by unfold ZmZ;split <;> omega
theorem Zs4{x y:Int}(h:0≤x)(k:0≤y):0≤ZmZ x y:=by unfold ZmZ;split <;> omega
def ZvR(mn mx:Int):Int:=ZmZ (if mx=-1 then ZlH (ZlH mn 0) 1 else ZlH (ZlH mn 0) mx) 10001
theorem Zs5(mn mx:Int):0≤ZvR mn mx∧ZvR mn mx≤10001:=by
 unfold ZvR
 refine⟨Zs4 ?_ (by omega),(ZqJ _ _).2⟩
 have h1:=ZqI mn 0
 split
 ·have:=ZqI (ZlH mn 0) 1;omega
 ·have:=ZqI (ZlH mn 0) mx;omega
theorem Zva{k mn mx sum:Int}(h:0≤sum):0≤ZuE k mn mx sum∧ZuE k mn mx sum≤10001:=by
 have h2:=Int.mul_nonneg h (Zs5 mn mx).1
 unfold ZuE
 refine⟨Zs4 ?_ (by omega),(ZqJ _ _).2⟩
 split
 ·exact h2
 ·exact h
mutual
theorem Zky:∀t:T,0≤t.pos∧t.pos≤10001
 | .node k _ _ _ _ mn mx _ _ l=>by
  simp only[T.pos]
  have:=ZgE l
  exact Zva (by split <;> omega)
theorem ZgE:∀l:List T,0≤ZdH l
 | []=>by simp[ZdH]
 | t::l=>by
  simp only[ZdH]
  have:=Zky t
  have:=ZgE l
  omega
end
theorem Zs6:∀l:List T,ZdH l≤10001*l.length
 | []=>by simp[ZdH]
 | t::l=>by
  simp only[ZdH,List.length_cons]
  have:=Zky t
  have:=Zs6 l
  omega
theorem Zvb(t:T):t.subs.length < t.nodes.length:=by
 rw[ZcG,List.length_cons]
 have:∀l:List T,l.length≤(ZaF l).length:=by
  intro l
  induction l with
  | nil=>simp[ZaF]
  | cons x l ih=>simp only[ZaF,List.length_cons,List.length_append];rw[ZcG];simp;omega
 have:=this t.subs
 omega
theorem ZrX{t x:T}(h:x∈t.subs):x.nodes.length < t.nodes.length:=by
 obtain⟨i,hi⟩:=List.getElem?_of_mem h
 rw[ZcG t,List.length_cons,Zfi hi]
 simp;omega
def T.hasB(t:T)(c:Nat):Bool:=((if c / 64=0 then t.s0 else if c / 64=1 then t.s1 else if c / 64=2 then t.s2 else t.s3).toNat).testBit (c % 64)
end Go.Rx
namespace Go.Rx
open Go Go.Eng Go.RowKit
structure Pt where
 first:Nat
 last:Nat
 null:Bool
structure Ms where
 sets:List (Int×Int×Int×Int)
 fol:List Nat
def Pt.v(p:Pt):Value:=.agg #[.int .u64 (wdN p.first 0:Nat),.int .u64 (wdN p.first 1:Nat),.int .u64 (wdN p.first 2:Nat),.int .u64 (wdN p.first 3:Nat),.int .u64 (wdN p.first 4:Nat),.int .u64 (wdN p.first 5:Nat),.int .u64 (wdN p.first 6:Nat),.int .u64 (wdN p.last 0:Nat),.int .u64 (wdN p.last 1:Nat),.int .u64 (wdN p.last 2:Nat),.int .u64 (wdN p.last 3:Nat),.int .u64 (wdN p.last 4:Nat),.int .u64 (wdN p.last 5:Nat),.int .u64 (wdN p.last 6:Nat),.bool p.null]
def Pt.cs(p:Pt):List Value:=bwL p.first++bwL p.last++[Value.bool p.null]
theorem Pt.v_cs(p:Pt):p.v=.agg p.cs.toArray:=rfl
def ZbZ(fol:List Nat)(a b:Nat):List Nat:=fol.mapIdx fun i x=>if a.testBit i then x|||b else x
theorem Zkz(fol:List Nat)(a b:Nat):(ZbZ fol a b).length=fol.length:=by simp[ZbZ]
def ZmQ(p q:Pt):Pt:=⟨if p.null then p.first|||q.first else p.first,if q.null then q.last|||p.last else q.last,p.null&&q.null⟩
def Zcd(p q:Pt)(s:Ms):Pt×Ms:=(ZmQ p q,⟨s.sets,ZbZ s.fol p.last q.first⟩)
def Zxc(p q:Pt):Pt:=⟨p.first|||q.first,p.last|||q.last,p.null||q.null⟩
def Zn7(f:Ms→Pt×Ms)(mn mx:Int)(n:Nat):Nat→Nat→Pt→Ms→Pt×Ms
 | 0,_,out,s=>(out,s)
 | q+1,i,out,s=>
  let x:=(f s).1
  let s1:=(f s).2
  let s2:Ms:=if mx=-1∧i+1=n then⟨s1.sets,ZbZ s1.fol x.last x.first⟩ else s1
  let y:Pt:=⟨x.first,x.last,x.null||decide ((i:Int) ≥ mn)⟩
  Zn7 f mn mx n q (i+1) (Zcd out y s2).1 (Zcd out y s2).2
def ZrY(mn mx:Int):Nat:=(if mx=-1 then max mn 1 else mx).toNat
mutual
def mk:T→Ms→Pt×Ms
 | .node k s0 s1 s2 s3 mn mx _ _ l,s=>
  if k=0 then(⟨0,0,false⟩,s)
  else if k=1 then(⟨0,0,true⟩,s)
  else if k=2 then(⟨2 ^ s.sets.length,2 ^ s.sets.length,false⟩,⟨s.sets++[(s0,s1,s2,s3)],s.fol++[0]⟩)
  else if k=3 then Zha l ⟨0,0,true⟩ s
  else if k=4 then ZfZ l ⟨0,0,false⟩ s
  else if k=5 then Zn7 (fun s=>Zmo l s) mn mx (ZrY mn mx) (ZrY mn mx) 0 ⟨0,0,true⟩ s
  else Zmo l s
def Zmo:List T→Ms→Pt×Ms
 | [],s=>(⟨0,0,false⟩,s)
 | t::_,s=>mk t s
def Zha:List T→Pt→Ms→Pt×Ms
 | [],out,s=>(out,s)
 | t::l,out,s=>Zha l (Zcd out (mk t s).1 (mk t s).2).1 (Zcd out (mk t s).1 (mk t s).2).2
def ZfZ:List T→Pt→Ms→Pt×Ms
 | [],out,s=>(out,s)
 | t::l,out,s=>ZfZ l (Zxc out (mk t s).1) (mk t s).2
end
def ZbC(l:List (Int×Int×Int×Int)):List Value:=l.flatMap fun q=>[.int .u64 q.1,.int .u64 q.2.1,.int .u64 q.2.2.1,.int .u64 q.2.2.2]
def Zdg(l:List Nat):List Value:=l.flatMap bwL
theorem ZeL(l:List (Int×Int×Int×Int)):(ZbC l).length=l.length*4:=by
 induction l with
 | nil=>rfl
 | cons a l ih=>simp only[ZbC,List.flatMap_cons,List.length_append,List.length_cons,List.length_nil]at *;omega
theorem ZhF(l:List Nat):(Zdg l).length=l.length*7:=by
 induction l with
 | nil=>rfl
 | cons a l ih=>simp only[Zdg,List.flatMap_cons,List.length_append,Zn1,List.length_cons]at *;omega
theorem ZrZ(l l':List (Int×Int×Int×Int)):ZbC (l++l')=ZbC l++ZbC l':=by simp[ZbC]
theorem Zr0(l l':List Nat):Zdg (l++l')=Zdg l++Zdg l':=by simp[Zdg]
def Yof(v0 v1:Value)(b:Nat):Prop:=(Tok.mk v0 4).blk=some b∨(Tok.mk v1 7).blk=some b
def RowOk(m:Mem)(v:Value)(k:Nat)(cs:List Value):Prop:=(k=0∧v=.slice none 0 0)∨∃b c,v=.slice (some ⟨b,0,none⟩) k c∧m.reads b 0 cs∧k≠0
structure MkRow (m:Mem)(v0 v1:Value)(s:Ms):Prop where
 row0:RowOk m v0 s.sets.length (ZbC s.sets)
 row1:RowOk m v1 s.fol.length (Zdg s.fol)
 ne:∀b,(Tok.mk v0 4).blk=some b→(Tok.mk v1 7).blk≠some b
structure MkOk (M0 m:Mem)(v0 v1:Value)(s:Ms):Prop extends MkRow m v0 v1 s where
 base:M0.le (m.off (Yof v0 v1))
theorem Zn8{m m':Mem}{Y Y':Nat→Prop}(h:(m.off Y).le m')(hn:∀b,Y' b→Y b∨m.free b):(m.off Y).le (m'.off Y'):=fun b o v hv=>by
 unfold Mem.off at hv ⊢
 split at hv
 ·cases hv
 ·rename_i hY
  have:¬Y' b:=fun h'=>by
   rcases hn b h' with h1|h1
   ·exact hY h1
   ·rw[h1 o]at hv;cases hv
  rw[if_neg this]
  have:=h b o v (by unfold Mem.off;rw[if_neg hY];exact hv)
  exact this
theorem MkOk.next{M0 m m':Mem}{v0 v1 v0' v1':Value}{s s':Ms}(h:MkOk M0 m v0 v1 s)(cP:(m.off (Yof v0 v1)).le m')(hn:∀b,Yof v0' v1' b→Yof v0 v1 b∨m.free b)(hr:MkRow m' v0' v1' s'):MkOk M0 m' v0' v1' s':=
 {hr with base:=Mem.le_trans h.base (Zn8 cP hn) }
theorem MkOk.free{M0 m:Mem}{v0 v1:Value}{s:Ms}(h:MkOk M0 m v0 v1 s){b:Nat}(hb:Yof v0 v1 b):M0.free b:=fun o=>by
 cases he:M0 b o with
 | none=>rfl
 | some u=>
  have:=h.base b o u he
  unfold Mem.off at this
  rw[if_pos hb]at this;cases this
theorem MkOk.le{M0 m:Mem}{v0 v1:Value}{s:Ms}(h:MkOk M0 m v0 v1 s):M0.le m:=Mem.le_trans h.base (Mem.off_le m _)
theorem RowOk.mono{m m':Mem}{v:Value}{k:Nat}{cs:List Value}(h:RowOk m v k cs)(hm:m.le m'):RowOk m' v k cs:=by
 rcases h with h|⟨b,c,h1,h2,h3⟩
 ·exact .inl h
 ·exact .inr ⟨b,c,h1,h2.mono hm,h3⟩
theorem MkRow.mono{m m':Mem}{v0 v1:Value}{s:Ms}(h:MkRow m v0 v1 s)(hm:m.le m'):MkRow m' v0 v1 s:=⟨h.row0.mono hm,h.row1.mono hm,h.ne⟩
theorem ZjF(l r:List Nat)(f:Nat):Zdg (l++f::r)=Zdg l++bwL f++Zdg r:=by simp[Zdg]
theorem ZqK{l:List Nat}{i f:Nat}(h:l[i]?=some f):Zdg l=Zdg (l.take i)++bwL f++Zdg (l.drop (i+1)):=by
 obtain⟨hi,hf⟩:=List.getElem?_eq_some_iff.1 h
 have e:l=l.take i++f::l.drop (i+1):=by
  conv=>lhs;rw[←List.take_append_drop i l]
  rw[List.drop_eq_getElem_cons hi,hf]
 conv=>lhs;rw[e]
 exact ZjF _ _ _
theorem Zr1{l:List Nat}{i f:Nat}(hi:i < l.length):Zdg (l.set i f)=Zdg (l.take i)++bwL f++Zdg (l.drop (i+1)):=by
 have e:l.set i f=l.take i++f::l.drop (i+1):=List.set_eq_take_append_cons_drop.trans (if_pos hi)
 rw[e];exact ZjF _ _ _
def Zf0(fol ds:List Nat)(b:Nat):List Nat:=fol.mapIdx fun i x=>if i∈ds then x|||b else x
theorem Zr2(fol:List Nat)(b:Nat):Zf0 fol [] b=fol:=by
 unfold Zf0
 apply List.ext_getElem? fun i=>?_
 simp
theorem Zr3{fol ds:List Nat}{b i x:Nat}(h:fol[i]?=some x)(hi:i ∉ ds):(Zf0 fol ds b)[i]?=some x:=by
 simp[Zf0,h,hi]
theorem ZpA{fol ds:List Nat}{b i x:Nat}(h:fol[i]?=some x)(hi:i ∉ ds):Zf0 fol (ds++[i]) b=(Zf0 fol ds b).set i (x|||b):=by
 apply List.ext_getElem? fun j=>?_
 rw[List.getElem?_set]
 have bK:=(List.getElem?_eq_some_iff.1 h).1
 by_cases e:i=j
 ·subst e
  have hx:=(List.getElem?_eq_some_iff.1 h).2
  simp[Zf0,bK,hx]
 ·rw[if_neg e]
  have:j≠i:=fun h=>e h.symm
  simp[Zf0,this]
theorem Zr4{fol ds:List Nat}{a b:Nat}(h:∀i,i < fol.length→(i∈ds↔a.testBit i=true)):Zf0 fol ds b=ZbZ fol a b:=by
 unfold Zf0 ZbZ
 apply List.ext_getElem? fun j=>?_
 rw[List.getElem?_mapIdx,List.getElem?_mapIdx]
 cases hj:fol[j]? with
 | none=>rfl
 | some x=>
  have:=h j (List.getElem?_eq_some_iff.1 hj).1
  simp only[Option.map_some,Option.some.injEq]
  by_cases hd:j∈ds
  ·rw[if_pos hd,if_pos (this.1 hd)]
  ·rw[if_neg hd,if_neg (fun h=>hd (this.2 h))]
end Go.Rx
namespace Go.Rx
open Go Go.Eng Go.RowKit
def PtIn(n:Nat)(p:Pt):Prop:=(∀i,p.first.testBit i=true→i < n)∧(∀i,p.last.testBit i=true→i < n)
structure MsOk (s:Ms):Prop where
 len:s.fol.length=s.sets.length
 fol:∀(j x:Nat),s.fol[j]?=some x→∀i,x.testBit i=true→i < s.sets.length
theorem PtIn.mono{n n':Nat}{p:Pt}(h:PtIn n p)(hn:n≤n'):PtIn n' p:=⟨fun i hi=>Nat.lt_of_lt_of_le (h.1 i hi) hn,fun i hi=>Nat.lt_of_lt_of_le (h.2 i hi) hn⟩
theorem ZbR(n:Nat)(b:Bool):PtIn n ⟨0,0,b⟩:=⟨fun i hi=>by simp at hi,fun i hi=>by simp at hi⟩
theorem ZhG{a b i:Nat}(h:(a|||b).testBit i=true):a.testBit i=true∨b.testBit i=true:=by
 simpa[Nat.testBit_or]using h
theorem MsOk.loop{s:Ms}(h:MsOk s)(a b:Nat)(hb:∀i,b.testBit i=true→i < s.sets.length):MsOk ⟨s.sets,ZbZ s.fol a b⟩:=by
 refine⟨by simp[ZbZ,h.len],fun j x hj i hi=>?_⟩
 simp only[ZbZ,List.getElem?_mapIdx]at hj
 obtain⟨y,hy,rfl⟩:=Option.map_eq_some_iff.1 hj
 by_cases gn:a.testBit j=true
 ·rw[if_pos gn]at hi
  rcases ZhG hi with h1|h1
  ·exact h.fol j y hy i h1
  ·exact hb i h1
 ·rw[if_neg gn]at hi
  exact h.fol j y hy i hi
theorem ZqL{n:Nat}{p q:Pt}(hp:PtIn n p)(hq:PtIn n q):PtIn n (ZmQ p q):=by
 obtain⟨pf,pl,pn⟩:=p
 obtain⟨qf,ql,qn⟩:=q
 constructor
 ·intro i hi
  cases pn
  ·exact hp.1 i hi
  ·rcases ZhG hi with h|h
   ·exact hp.1 i h
   ·exact hq.1 i h
 ·intro i hi
  cases qn
  ·exact hq.2 i hi
  ·rcases ZhG hi with h|h
   ·exact hq.2 i h
   ·exact hp.2 i h
theorem Zs7{n:Nat}{p q:Pt}(hp:PtIn n p)(hq:PtIn n q):PtIn n (Zxc p q):=
 ⟨fun i hi=>(ZhG hi).elim (hp.1 i) (hq.1 i),fun i hi=>(ZhG hi).elim (hp.2 i) (hq.2 i)⟩
structure Grows (s:Ms)(r:Pt×Ms):Prop where
 le:s.sets.length≤r.2.sets.length
 ok:MsOk r.2
 pt:PtIn r.2.sets.length r.1
theorem ZeM{p q:Pt}{s:Ms}(h:MsOk s)(hp:PtIn s.sets.length p)(hq:PtIn s.sets.length q):Grows s (Zcd p q s):=
 ⟨Nat.le_refl _,h.loop _ _ hq.1,ZqL hp hq⟩
theorem Grows.trans{s s1:Ms}{p:Pt}{r:Pt×Ms}(h:Grows s (p,s1))(k:Grows s1 r):Grows s r:=⟨Nat.le_trans h.le k.le,k.ok,k.pt⟩
theorem Zf1{f:Ms→Pt×Ms}(hf:∀s,MsOk s→Grows s (f s))(mn mx:Int)(n:Nat):∀(q i:Nat)(out:Pt)(s:Ms),MsOk s→PtIn s.sets.length out→Grows s (Zn7 f mn mx n q i out s)
 | 0,i,out,s,h,hp=>⟨Nat.le_refl _,h,hp⟩
 | q+1,i,out,s,h,hp=>by
  unfold Zn7
  have h1:=hf s h
  simp only
  generalize il:(if mx=-1∧i+1=n then(⟨(f s).2.sets,ZbZ (f s).2.fol (f s).1.last (f s).1.first⟩:Ms)else(f s).2)=s2
  have e:s2.sets=(f s).2.sets:=by rw[←il];split <;> rfl
  have h2:MsOk s2:=by
   rw[←il];split
   ·exact h1.ok.loop _ _ h1.pt.1
   ·exact h1.ok
  have cP:s.sets.length≤s2.sets.length:=by rw[e];exact h1.le
  have h3:Grows s2 (Zcd out ⟨(f s).1.first,(f s).1.last,(f s).1.null||decide ((i:Int) ≥ mn)⟩ s2):=ZeM h2 (hp.mono cP) (by rw[e];exact h1.pt)
  have h4:=Zf1 hf mn mx n q (i+1) _ _ h3.ok h3.pt
  exact⟨Nat.le_trans cP (Nat.le_trans h3.le h4.le),h4.ok,h4.pt⟩
theorem ZtR{n i:Nat}(h:(2 ^ n).testBit i=true):i=n:=by
 rw[Nat.testBit_two_pow]at h;exact(of_decide_eq_true h).symm
theorem ZhH{s:Ms}(h:MsOk s)(q:Int×Int×Int×Int):Grows s (⟨2 ^ s.sets.length,2 ^ s.sets.length,false⟩,⟨s.sets++[q],s.fol++[0]⟩):=by
 refine⟨by simp,⟨by simp[h.len],fun j x hj i hi=>?_⟩,?_,?_⟩
 ·rw[List.getElem?_append]at hj
  split at hj
  ·have:=h.fol j x hj i hi
   simp;omega
  ·have:=(List.getElem?_eq_some_iff.1 hj)
   obtain⟨_,h2⟩:=this
   have:x=0:=by
    rw[List.getElem_singleton]at h2;exact h2.symm
   subst this;simp at hi
 ·intro i hi;have:=ZtR hi;simp;omega
 ·intro i hi;have:=ZtR hi;simp;omega
mutual
theorem Zem:∀(t:T)(s:Ms),MsOk s→Grows s (mk t s)
 | .node k s0 s1 s2 s3 mn mx a c l,s,h=>by
  unfold mk
  split
  ·exact⟨Nat.le_refl _,h,ZbR _ _⟩
  split
  ·exact⟨Nat.le_refl _,h,ZbR _ _⟩
  split
  ·exact ZhH h _
  split
  ·exact ZeN l _ s h (ZbR _ _)
  split
  ·exact ZeO l _ s h (ZbR _ _)
  split
  ·exact Zf1 (fun s h=>Zey l s h) _ _ _ _ _ _ _ h (ZbR _ _)
  ·exact Zey l s h
theorem Zey:∀(l:List T)(s:Ms),MsOk s→Grows s (Zmo l s)
 | [],s,h=>by unfold Zmo;exact⟨Nat.le_refl _,h,ZbR _ _⟩
 | t::l,s,h=>by unfold Zmo;exact Zem t s h
theorem ZeN:∀(l:List T)(out:Pt)(s:Ms),MsOk s→PtIn s.sets.length out→Grows s (Zha l out s)
 | [],out,s,h,hp=>by unfold Zha;exact⟨Nat.le_refl _,h,hp⟩
 | t::l,out,s,h,hp=>by
  unfold Zha
  have h1:=Zem t s h
  have h2:=ZeM h1.ok (hp.mono h1.le) h1.pt
  have h3:=ZeN l _ _ h2.ok h2.pt
  exact⟨Nat.le_trans h1.le (Nat.le_trans h2.le h3.le),h3.ok,h3.pt⟩
theorem ZeO:∀(l:List T)(out:Pt)(s:Ms),MsOk s→PtIn s.sets.length out→Grows s (ZfZ l out s)
 | [],out,s,h,hp=>by unfold ZfZ;exact⟨Nat.le_refl _,h,hp⟩
 | t::l,out,s,h,hp=>by
  unfold ZfZ
  have h1:=Zem t s h
  have h3:=ZeO l _ _ h1.ok (Zs7 (hp.mono h1.le) h1.pt)
  exact⟨Nat.le_trans h1.le h3.le,h3.ok,h3.pt⟩
end
theorem Zxl(t:T)(s:Ms):mk t s=(if t.k=0 then(⟨0,0,false⟩,s)
  else if t.k=1 then(⟨0,0,true⟩,s)
  else if t.k=2 then(⟨2 ^ s.sets.length,2 ^ s.sets.length,false⟩,⟨s.sets++[(t.s0,t.s1,t.s2,t.s3)],s.fol++[0]⟩)
  else if t.k=3 then Zha t.subs ⟨0,0,true⟩ s
  else if t.k=4 then ZfZ t.subs ⟨0,0,false⟩ s
  else if t.k=5 then Zn7 (fun s=>Zmo t.subs s) t.mn t.mx (ZrY t.mn t.mx) (ZrY t.mn t.mx) 0 ⟨0,0,true⟩ s
  else Zmo t.subs s):=by
 cases t;rw[mk];rfl
theorem ZpB{l:List T}{k:Nat}{t:T}(h:l[k]?=some t)(out:Pt)(s:Ms):Zha (l.drop k) out s=Zha (l.drop (k+1)) (Zcd out (mk t s).1 (mk t s).2).1 (Zcd out (mk t s).1 (mk t s).2).2:=by
 obtain⟨hk,he⟩:=List.getElem?_eq_some_iff.1 h
 rw[List.drop_eq_getElem_cons hk,he,Zha]
theorem ZpC{l:List T}{k:Nat}{t:T}(h:l[k]?=some t)(out:Pt)(s:Ms):ZfZ (l.drop k) out s=ZfZ (l.drop (k+1)) (Zxc out (mk t s).1) (mk t s).2:=by
 obtain⟨hk,he⟩:=List.getElem?_eq_some_iff.1 h
 rw[List.drop_eq_getElem_cons hk,he,ZfZ]
theorem ZlJ{f:Ms→Pt×Ms}{c:Nat}(hf:∀s,(f s).2.sets.length=s.sets.length+c)(mn mx:Int)(n:Nat):∀(q i:Nat)(out:Pt)(s:Ms),(Zn7 f mn mx n q i out s).2.sets.length=s.sets.length+q*c
 | 0,i,out,s=>by simp[Zn7]
 | q+1,i,out,s=>by
  unfold Zn7
  simp only
  rw[ZlJ hf]
  have h2:(if mx=-1∧i+1=n then(⟨(f s).2.sets,ZbZ (f s).2.fol (f s).1.last (f s).1.first⟩:Ms)else(f s).2).sets.length=s.sets.length+c:=by
   split <;> exact hf s
  show(Ms.sets _).length+_=_
  simp only[Zcd]
  rw[h2,Nat.add_mul];omega
theorem Zn9{x:Int}(h:ZmZ x 10001≤10000):ZmZ x 10001=x∧x≤10000:=by
 unfold ZmZ at *
 split at h
 ·omega
 ·rename_i h2;exact⟨if_neg h2,h⟩
theorem ZtS{mn mx:Int}(h:ZfY mn mx=true):ZmZ (if mx=-1 then ZlH (ZlH mn 0) 1 else ZlH (ZlH mn 0) mx) 10001=(ZrY mn mx:Nat)∧1≤ZrY mn mx:=by
 unfold ZfY at h
 simp only[Bool.and_eq_true,Bool.not_eq_true',Bool.or_eq_false_iff,Bool.or_eq_true,decide_eq_false_iff_not,decide_eq_true_eq,beq_iff_eq]at h
 unfold ZrY ZmZ ZlH
 by_cases hm:mx=-1
 ·simp only[hm,if_true]
  split <;> split <;> split <;> omega
 ·simp only[hm,if_false]
  split <;> split <;> split <;> omega
theorem Zoa{t:T}(h:t.right=true):(t.k=1∧t.subs=[])∨(t.k=2∧t.subs=[]∧t.setZ=false)∨t.k=3∨t.k=4∨(t.k=5∧t.subs.length=1∧ZfY t.mn t.mx=true)∨(t.k=6∧t.subs.length=1):=by
 unfold T.right at h
 rw[Bool.and_eq_true]at h
 obtain⟨h0,h2⟩:=h
 simp only[Bool.not_eq_true',Bool.or_eq_false_iff,Bool.and_eq_false_iff,decide_eq_false_iff_not]at h0
 have hz:t.k < 3→t.subs=[]:=fun hk=>by
  have h1:=h0.2.2
  rcases h1 with h1|h1
  ·omega
  ·cases hs:t.subs with
   | nil=>rfl
   | cons a l=>rw[hs]at h1;simp at h1
 by_cases h1:t.k=1;· exact .inl ⟨h1,hz (by omega)⟩
 by_cases h3:t.k=2
 ·rw[if_neg h1,if_pos h3]at h2
  exact .inr (.inl ⟨h3,hz (by omega),by simpa using h2⟩)
 by_cases h4:t.k=3;· exact .inr (.inr (.inl h4))
 by_cases h5:t.k=4;· exact .inr (.inr (.inr (.inl h5)))
 by_cases h6:t.k=5
 ·rw[if_neg h1,if_neg h3,if_neg h4,if_neg h5,if_pos h6]at h2
  simp only[Bool.and_eq_true,beq_iff_eq]at h2
  exact .inr (.inr (.inr (.inr (.inl ⟨h6,h2.1,h2.2.1⟩))))
 ·rw[if_neg h1,if_neg h3,if_neg h4,if_neg h5,if_neg h6]at h2
  simp only[Bool.and_eq_true,beq_iff_eq]at h2
  exact .inr (.inr (.inr (.inr (.inr h2))))
mutual
theorem ZkA:∀(t:T),(∀x∈t.nodes,x.right=true)→t.pos≤10000→∀s:Ms,(mk t s).2.sets.length=s.sets.length+t.pos.toNat
 | .node k s0 s1 s2 s3 mn mx a c l,bS,hp,s=>by
  have hr:=Zoa (bS (.node k s0 s1 s2 s3 mn mx a c l) (by simp[T.nodes]))
  have hl:∀x∈ZaF l,x.right=true:=fun x hx=>bS x (by simp[T.nodes,hx])
  simp only[T.k,T.subs,T.mn,T.mx]at hr
  have wi:=ZgE l
  simp only[T.pos,ZuE]at hp ⊢
  rw[mk]
  rcases hr with⟨hk,hs⟩|⟨hk,hs,_⟩|hk|hk|⟨hk,h1,hb⟩|⟨hk,h1⟩
  ·subst hk hs;simp[ZdH,ZmZ]
  ·subst hk hs;simp[ZdH,ZmZ]
  ·subst hk
   have hq:=Zn9 hp
   rw[hq.1]
   simp only[show ¬(3:Int)=0 by omega,show ¬(3:Int)=1 by omega,show ¬(3:Int)=2 by omega,show ¬(3:Int)=5 by omega,if_false,if_true,Int.zero_add]at hq ⊢
   exact ZjG l hl (by omega) _ s
  ·subst hk
   have hq:=Zn9 hp
   rw[hq.1]
   simp only[show ¬(4:Int)=0 by omega,show ¬(4:Int)=1 by omega,show ¬(4:Int)=2 by omega,show ¬(4:Int)=3 by omega,show ¬(4:Int)=5 by omega,if_false,if_true,Int.zero_add]at hq ⊢
   exact ZjH l hl (by omega) _ s
  ·subst hk
   have hq:=Zn9 hp
   rw[hq.1]
   obtain⟨hF,ow⟩:=ZtS hb
   simp only[show ¬(5:Int)=0 by omega,show ¬(5:Int)=1 by omega,show ¬(5:Int)=2 by omega,show ¬(5:Int)=3 by omega,show ¬(5:Int)=4 by omega,if_false,if_true,Int.zero_add,hF]at hq ⊢
   have cP:ZdH l≤10000:=by
    have h2:ZdH l*1≤ZdH l*(ZrY mn mx:Nat):=Int.mul_le_mul_of_nonneg_left (by omega) wi
    omega
   have hf:=fun s=>ZlK l h1 hl cP s
   rw[ZlJ hf]
   obtain⟨z,hz⟩:∃z:Nat,ZdH l=z:=⟨(ZdH l).toNat,by omega⟩
   rw[hz,Int.toNat_natCast,←Int.natCast_mul,Int.toNat_natCast,Nat.mul_comm]
  ·subst hk
   have hq:=Zn9 hp
   rw[hq.1]
   simp only[show ¬(6:Int)=0 by omega,show ¬(6:Int)=1 by omega,show ¬(6:Int)=2 by omega,show ¬(6:Int)=3 by omega,show ¬(6:Int)=4 by omega,show ¬(6:Int)=5 by omega,if_false,if_true,Int.zero_add]at hq ⊢
   exact ZlK l h1 hl (by omega) s
theorem ZlK:∀(l:List T),l.length=1→(∀x∈ZaF l,x.right=true)→ZdH l≤10000→∀s:Ms,(Zmo l s).2.sets.length=s.sets.length+(ZdH l).toNat
 | [],h,_,_,_=>by simp at h
 | [t],_,bS,hp,s=>by
  simp only[Zmo,ZdH,Int.add_zero]at hp ⊢
  exact ZkA t (fun x hx=>bS x (by simp[ZaF,hx])) hp s
 | _::_::_,h,_,_,_=>by simp at h
theorem ZjG:∀(l:List T),(∀x∈ZaF l,x.right=true)→ZdH l≤10000→∀(out:Pt)(s:Ms),(Zha l out s).2.sets.length=s.sets.length+(ZdH l).toNat
 | [],_,_,out,s=>by simp[Zha,ZdH]
 | t::l,bS,hp,out,s=>by
  have h1:=Zky t
  have h2:=ZgE l
  simp only[Zha,ZdH]at hp ⊢
  rw[ZjG l (fun x hx=>bS x (by simp[ZaF,hx])) (by omega)]
  show(mk t s).2.sets.length+_=_
  rw[ZkA t (fun x hx=>bS x (by simp[ZaF,hx])) (by omega) s]
  omega
theorem ZjH:∀(l:List T),(∀x∈ZaF l,x.right=true)→ZdH l≤10000→∀(out:Pt)(s:Ms),(ZfZ l out s).2.sets.length=s.sets.length+(ZdH l).toNat
 | [],_,_,out,s=>by simp[ZfZ,ZdH]
 | t::l,bS,hp,out,s=>by
  have h1:=Zky t
  have h2:=ZgE l
  simp only[ZfZ,ZdH]at hp ⊢
  rw[ZjH l (fun x hx=>bS x (by simp[ZaF,hx])) (by omega)]
  rw[ZkA t (fun x hx=>bS x (by simp[ZaF,hx])) (by omega) s]
  omega
end
end Go.Rx
set_option linter.unusedSectionVars false
namespace Go.Rx
open Go Go.Eng Go.RowKit
def Byt(m:Mem)(a:Option Addr)(s:List Nat):Prop:=(s=[]∨∃b o,a=some ⟨b,o,none⟩∧m.reads b o (s.map fun c:Nat=>Value.int .u8 c))∧∀c∈s,c < 256
theorem Byt.mono{m m':Mem}{a s}(h:Byt m a s)(hm:m.le m'):Byt m' a s:=by
 refine⟨?_,h.2⟩
 rcases h.1 with h|⟨b,o,h1,h2⟩
 ·exact .inl h
 ·exact .inr ⟨b,o,h1,h2.mono hm⟩
theorem Byt.get{m:Mem}{a s}(h:Byt m a s){i c:Nat}(hi:s[i]?=some c):(∃b o,a=some ⟨b,o,none⟩∧m b (o+i)=some (.int .u8 c))∧c < 256:=by
 refine⟨?_,h.2 c (List.mem_of_getElem? hi)⟩
 rcases h.1 with h|⟨b,o,h1,h2⟩
 ·subst h;simp at hi
 ·exact⟨b,o,h1,h2 i _ (by rw[List.getElem?_map,hi];rfl)⟩
def Zxm(t:T)(back:Bool)(f i c out:Nat):Nat:=if(f.testBit (if back then i+1 else i)&&t.hasB c)=true then out|||2 ^ (if back then i else i+1)else out
def ZxH(t:T)(back:Bool)(f:Nat):List Nat→Nat→Nat→Nat
 | [],_,out=>out
 | c::s,i,out=>ZxH t back f s (i+1) (Zxm t back f i c out)
def Zxy(g:Nat→Nat):Nat→Nat→Nat
 | 0,f=>f
 | n+1,f=>Zxy g n (g f)
def ZwU(g:Nat→Nat)(mx:Int):Nat→Int→Nat→Nat→Nat
 | 0,_,out,_=>out
 | n+1,k,out,last=>if k=mx then out else if out|||g last=out then out else ZwU g mx n (IntKind.i64.wrap (k+1)) (out|||g last) (g last)
@[irreducible] def ZxT:Nat:=576
abbrev Zxz:Nat:=2 ^ ZxT
def ZxU(g:Nat→Nat)(mn mx:Int)(f:Nat):Nat:=ZwU g mx (Zxz+1) mn (Zxy g mn.toNat f) (Zxy g mn.toNat f)
mutual
def T.lead(s:List Nat)(back:Bool):T→Nat→Nat
 | .node k s0 s1 s2 s3 mn mx a c l=>fun f=>
  if k=1 then f else if k=2 then ZxH (.node k s0 s1 s2 s3 mn mx a c l) back f s 0 0
  else if k=3 then(if back then ZwW s back l f else ZwV s back l f)
  else if k=4 then ZxI s back l f 0
  else if k=5 then ZxU (ZwX s back l) mn mx f
  else if k=6 then ZwX s back l f else 0
def ZwV(s:List Nat)(back:Bool):List T→Nat→Nat
 | []=>fun f=>f
 | t::l=>fun f=>ZwV s back l (t.lead s back f)
def ZwW(s:List Nat)(back:Bool):List T→Nat→Nat
 | []=>fun f=>f
 | t::l=>fun f=>t.lead s back (ZwW s back l f)
def ZxI(s:List Nat)(back:Bool):List T→Nat→Nat→Nat
 | []=>fun _ out=>out
 | t::l=>fun f out=>ZxI s back l f (out|||t.lead s back f)
def ZwX(s:List Nat)(back:Bool):List T→Nat→Nat
 | []=>fun f=>f
 | t::_=>fun f=>t.lead s back f
end
section
variable {s:List Nat} {back:Bool}
end
theorem Zcw{α:Type}{l:List α}{i:Nat}{x:α}(h:l[i]?=some x):l.drop i=x::l.drop (i+1):=by
 obtain⟨h1,h2⟩:=List.getElem?_eq_some_iff.1 h
 rw[List.drop_eq_getElem_cons h1,h2]
section
variable (s:List Nat) (back:Bool) (hs:s.length≤512)
include hs
end
end Go.Rx
namespace Go.Rx
open Go Go.Eng Go.RowKit
def T0:T:=.node 0 0 0 0 0 0 0 none 0 []
def T1:T:=.node 1 0 0 0 0 0 0 none 0 []
theorem Zwt(m:Mem):Rep m T0:=by simp only[T0,Rep];exact⟨by simp,.inl trivial,by constructor <;> decide⟩
def T.isNone(t:T):Bool:=t.k == 0&&(t.light&&(T0.light&&t.same T0))
def T.wrong(t:T)(len:Nat)(i:Int):Int:=if(!t.isNone&&!(t.check == 0))=true then 130 else if(len:Int) > 512 then 3 else if i < 0∨i > len then 2 else 0
structure Rg where
 bg:Bool
 en:Bool
 t:T
def Rg.v(r:Rg):Value:=.agg #[.bool r.bg,.bool r.en,.int .u8 r.t.k,.int .u64 r.t.s0,.int .u64 r.t.s1,.int .u64 r.t.s2,.int .u64 r.t.s3,.int .i64 r.t.mn,.int .i64 r.t.mx,.slice r.t.a r.t.subs.length r.t.c]
def Rg.cs(r:Rg):List Value:=[.bool r.bg,.bool r.en,.int .u8 r.t.k,.int .u64 r.t.s0,.int .u64 r.t.s1,.int .u64 r.t.s2,.int .u64 r.t.s3,.int .i64 r.t.mn,.int .i64 r.t.mx,.slice r.t.a r.t.subs.length r.t.c]
def Rgs(m:Mem)(a:Option Addr)(l:List Rg):Prop:=l.length≤1000000000000000∧(l=[]∨∃b o,a=some ⟨b,o,none⟩∧∀i r,l[i]?=some r→m.reads b (o+i*10) r.cs)∧∀r∈l,Rep m r.t
theorem Rgs.mono{m m':Mem}{a l}(h:Rgs m a l)(hm:m.le m'):Rgs m' a l:=by
 refine⟨h.1,?_,fun r hr=>(h.2.2 r hr).mono hm⟩
 rcases h.2.1 with h|⟨b,o,h1,h2⟩
 ·exact .inl h
 ·exact .inr ⟨b,o,h1,fun i r hi=>(h2 i r hi).mono hm⟩
def Zwu(f:Nat):List Nat:=(List.range 513).filter fun i=>f.testBit i
def Zvc(n:Nat):List Nat→Option Nat
 | []=>none
 | i::_=>if i > n then none else some i
def Rg.from(s:List Nat)(n:Nat)(r:Rg):Option Nat:=if(r.en&&decide ((n:Int) < s.length))=true then none else if r.bg then(if(r.t.lead s true (2 ^ n)).testBit 0 then some 0 else none)else
 Zvc n (Zwu (r.t.lead s true (2 ^ n)))
def Rg.wrong(r:Rg)(len:Nat)(n:Int):Int:=if r.t.check=0 then r.t.wrong len n else 130
def Zwv(l:List Rg)(len:Nat)(n:Int):Int:=if(l.length:Int) > 64 then 5 else if l.all (fun r=>r.t.check == 0)then T1.wrong len n else 130
end Go.Rx
namespace Go.Rx
open Go Go.Eng Go.RowKit
abbrev QS:=Int×Int×Int×Int
structure Nf where
 sets:List QS
 fol:List (List Int)
 first:List Int
 last:List Int
 empty:Bool
deriving DecidableEq
def Zap(l:List Int):List Value:=l.map fun i=>.int .i64 i
theorem ZbS(l:List Int):(Zap l).length=l.length:=by simp[Zap]
def SlI(st:Bool)(l:List Int)(v:Value)(m:Mem):Prop:=∃a c,v=.slice a l.length c∧rowRd m a (Zap l)∧l.length≤1000000∧(st=true→l=[]→a=none)
def SlQ(st:Bool)(l:List QS)(v:Value)(m:Mem):Prop:=∃a c,v=.slice a l.length c∧rowRd m a (ZbC l)∧l.length≤1000000∧(st=true→l=[]→a=none)
def FolR(st:Bool)(fol:List (List Int))(v:Value)(m:Mem):Prop:=∃a c vs,v=.slice a fol.length c∧rowRd m a vs∧vs.length=fol.length∧fol.length≤1000000∧∀(i:Nat)(v:Value)(l:List Int),vs[i]?=some v→fol[i]?=some l→SlI st l v m
def NfR(st:Bool)(A:Nf)(v:Value)(m:Mem):Prop:=∃s f x y,v=.agg #[s,f,x,y,.bool A.empty]∧SlQ st A.sets s m∧FolR st A.fol f m∧SlI st A.first x m∧SlI st A.last y m
theorem SlI.mono{st:Bool}{l:List Int}{v:Value}{m m':Mem}(h:SlI st l v m)(k:m.le m'):SlI st l v m':=by
 obtain⟨a,c,h1,h2,h3⟩:=h;exact⟨a,c,h1,h2.mono k,h3⟩
theorem SlQ.mono{st:Bool}{l:List QS}{v:Value}{m m':Mem}(h:SlQ st l v m)(k:m.le m'):SlQ st l v m':=by
 obtain⟨a,c,h1,h2,h3⟩:=h;exact⟨a,c,h1,h2.mono k,h3⟩
theorem FolR.mono{st:Bool}{l:List (List Int)}{v:Value}{m m':Mem}(h:FolR st l v m)(k:m.le m'):FolR st l v m':=by
 obtain⟨a,c,vs,h1,h2,h3,h4,h5⟩:=h;exact⟨a,c,vs,h1,h2.mono k,h3,h4,fun i v l hv hl=>(h5 i v l hv hl).mono k⟩
theorem NfR.mono{st:Bool}{A:Nf}{v:Value}{m m':Mem}(h:NfR st A v m)(k:m.le m'):NfR st A v m':=by
 obtain⟨s,f,x,y,h1,h2,h3,h4,h5⟩:=h;exact⟨s,f,x,y,h1,h2.mono k,h3.mono k,h4.mono k,h5.mono k⟩
theorem Za5{m:Mem}{a:Option Addr}{l:List Int}(h:rowRd m a (Zap l)){i:Nat}{x:Int}(hx:l[i]?=some x):∃b o,a=some ⟨b,o,none⟩∧m b (o+i*1)=some (.int .i64 x):=by
 have hv:(Zap l)[i]?=some (.int .i64 x):=by simp[Zap,hx]
 rcases h with h|⟨b,o,h1,h2⟩
 ·rw[h]at hv;simp at hv
 ·exact⟨b,o,h1,by have:=h2 i _ hv;rwa [Nat.mul_one]⟩
theorem Za6{m:Mem}{a:Option Addr}{l:List Value}(h:rowRd m a l){i:Nat}{x:Value}(hx:l[i]?=some x):∃b o,a=some ⟨b,o,none⟩∧m b (o+i*1)=some x:=by
 rcases h with h|⟨b,o,h1,h2⟩
 ·rw[h]at hx;simp at hx
 ·exact⟨b,o,h1,by have:=h2 i _ hx;rwa [Nat.mul_one]⟩
def qCs(q:QS):List Value:=[.int .u64 q.1,.int .u64 q.2.1,.int .u64 q.2.2.1,.int .u64 q.2.2.2]
theorem Zm0{l:List QS}{i:Nat}{q:QS}(h:l[i]?=some q){j:Nat}{v:Value}(hv:(qCs q)[j]?=some v):(ZbC l)[i*4+j]?=some v:=by
 have hj:j < 4:=by have:=(List.getElem?_eq_some_iff.1 hv).1;simpa[qCs]using this
 induction l generalizing i with
 | nil=>simp at h
 | cons a l ih=>
  show(qCs a++ZbC l)[i*4+j]?=some v
  cases i with
  | zero=>
   simp at h;subst h
   rw[Nat.zero_mul,Nat.zero_add,List.getElem?_append_left (by simpa[qCs]using hj)];exact hv
  | succ i=>
   rw[List.getElem?_append_right (by simp[qCs];omega)]
   have:=ih (by simpa using h)
   rw[show(i+1)*4+j - (qCs a).length=i*4+j by simp[qCs];omega];exact this
theorem ZgF{m:Mem}{a:Option Addr}{l:List QS}(h:rowRd m a (ZbC l)){i:Nat}{x:QS}(hx:l[i]?=some x):∃b o,a=some ⟨b,o,none⟩∧m.reads b (o+i*4) [.int .u64 x.1,.int .u64 x.2.1,.int .u64 x.2.2.1,.int .u64 x.2.2.2]:=by
 rcases h with h|⟨b,o,h1,h2⟩
 ·have:=Zm0 hx (j:=0) (v:=.int .u64 x.1) rfl
  rw[h]at this;simp at this
 ·refine⟨b,o,h1,fun j v hv=>?_⟩
  have:=h2 _ _ (Zm0 hx hv)
  rwa [←Nat.add_assoc]at this
def ZbG:List Int→Int→Int→Bool
 | [],_,_=>true
 | p::l,lo,hi=>decide (lo < p)&&(decide (p≤hi)&&ZbG l p hi)
def zQ:QS:=(0,0,0,0)
def Nf.top(A:Nf):Int:=(A.sets.length:Int) - 1
def Nf.right(A:Nf):Bool:=
 decide (A.sets.length≤400)&&(decide (A.fol.length=A.sets.length)&&(ZbG A.first (-1) A.top&&(ZbG A.last (-1) A.top&&((A.fol.zip A.sets).all fun p=>ZbG p.1 (-1) A.top&&!(p.2 == zQ)))))
theorem Zce{l:List Int}:∀{lo hi:Int},ZbG l lo hi=true↔(l.Pairwise (· < ·)∧∀x∈l,lo < x∧x≤hi):=by
 induction l with
 | nil=>intro lo hi;simp[ZbG]
 | cons p l ih=>
  intro lo hi
  simp only[ZbG,Bool.and_eq_true,decide_eq_true_eq,ih,List.pairwise_cons,List.mem_cons,forall_eq_or_imp]
  constructor
  ·rintro⟨h1,h2,h3,h4⟩
   exact⟨⟨fun x hx=>(h4 x hx).1,h3⟩,⟨h1,h2⟩,fun x hx=>⟨Int.lt_trans h1 (h4 x hx).1,(h4 x hx).2⟩⟩
  ·rintro⟨⟨h1,h2⟩,⟨h3,h4⟩,h5⟩
   exact⟨h3,h4,h2,fun x hx=>⟨h1 x hx,(h5 x hx).2⟩⟩
def Zb0(f:Nat):List Int:=(Zcp f).map fun i:Nat=>(i:Int)
theorem Zr5{f:Nat}{x:Int}:x∈Zb0 f↔∃i:Nat,i < 448∧f.testBit i=true∧x=i:=by
 simp only[Zb0,List.mem_map,Zkx]
 constructor
 ·rintro⟨i,⟨h1,h2⟩,rfl⟩;exact⟨i,h1,h2,rfl⟩
 ·rintro⟨i,h1,h2,rfl⟩;exact⟨i,⟨h1,h2⟩,rfl⟩
theorem ZhI(f:Nat):(Zb0 f).Pairwise (· < ·):=by
 unfold Zb0
 rw[List.pairwise_map]
 exact(ZhE f).imp (by intro a b h;omega)
theorem Zob(f:Nat):(Zb0 f).length≤448:=by simp[Zb0,Zn3]
def Zvd(r:Pt×Ms):Nf:=⟨r.2.sets,r.2.fol.map Zb0,Zb0 r.1.first,Zb0 r.1.last,r.1.null⟩
def T.auto(t:T):Nf:=Zvd (mk t ⟨[],[]⟩)
def T.nfit(t:T):Bool:=t.clean&&(decide (t.size≤120)&&decide (t.positions≤400))
def nf0:Nf:=⟨[],[],[],[],false⟩
def T.ofN(t:T):Nf:=if t.isNone then nf0 else if t.nfit then t.auto else nf0
def T.ofE(t:T):Int:=if t.isNone then 0 else if t.nfit then 0 else 170
end Go.Rx
namespace Go.Rx
open Go Go.Eng Go.RowKit
abbrev TRK:=Int→Int→Int→Int→Int→Int→Int→Option Addr→Nat→Nat→Mem→Prop
def Zb8(c j:Nat):Int:=if c / 64=j then((2 ^ (c % 64):Nat):Int)else 0
def Zbo(c:Nat):T:=.node 2 (Zb8 c 0) (Zb8 c 1) (Zb8 c 2) (Zb8 c 3) 0 0 none 0 []
theorem Zen(c j:Nat):0≤Zb8 c j∧Zb8 c j < 18446744073709551616:=by
 unfold Zb8
 split
 ·have h:(2:Nat) ^ (c % 64) < 2 ^ 64:=Nat.pow_lt_pow_right (by omega) (by omega)
  have e:(2:Nat) ^ 64=18446744073709551616:=by decide
  rw[e]at h
  generalize (2:Nat) ^ (c % 64)=w at *
  exact⟨by omega,by omega⟩
 ·omega
theorem Zf2(c:Nat)(m:Mem):Rep m (Zbo c):=by
 simp only[Zbo,Rep]
 exact⟨by simp,.inl trivial,⟨by omega,Zen c 0,Zen c 1,Zen c 2,Zen c 3,by omega,by omega⟩⟩
def RepL(m:Mem)(a:Option Addr)(l:List T):Prop:=l.length≤1000000000000000∧(l=[]∨∃b o,a=some ⟨b,o,none⟩∧RepAt m b o l)
theorem RepL.mono{m m':Mem}{a l}(h:RepL m a l)(hm:m.le m'):RepL m' a l:=by
 refine⟨h.1,?_⟩
 rcases h.2 with h|⟨b,o,h1,h2⟩
 ·exact .inl h
 ·exact .inr ⟨b,o,h1,h2.mono hm⟩
theorem Rep.subs{m:Mem}{t:T}(h:Rep m t):RepL m t.a t.subs:=Zdw h
def ZfC(k mn mx:Int)(a:Option Addr)(c:Nat)(l:List T):T:=.node k 0 0 0 0 mn mx a c l
theorem Zdx{m:Mem}{k mn mx:Int}{a:Option Addr}{c:Nat}{l:List T}(h:RepL m a l)(hk:0≤k∧k < 256)(h1 : -9223372036854775808≤mn∧mn≤9223372036854775807)(h2 : -9223372036854775808≤mx∧mx≤9223372036854775807):Rep m (ZfC k mn mx a c l):=by
 simp only[ZfC,Rep]
 exact⟨h.1,h.2,⟨hk,by omega,by omega,by omega,by omega,h1,h2⟩⟩
def ZeA(l:List T):List Value:=(l.map T.cs).flatten
theorem Ziw(l:List T):(ZeA l).length=l.length*8:=by
 induction l with
 | nil=>rfl
 | cons t l ih=>simp[ZeA,T.cs]at ih ⊢;omega
theorem ZkB(l r:List T):ZeA (l++r)=ZeA l++ZeA r:=by simp[ZeA]
theorem ZqM{m:Mem}{b:Nat}:∀{o:Nat} {l:List T},m.reads b o (ZeA l)→(∀t∈l,Rep m t)→RepAt m b o l
 | o,[],_,_=>by simp only[RepAt]
 | o,t::l,h,hr=>by
  simp only[RepAt]
  refine⟨fun j v hj=>?_,hr t (by simp),ZqM (fun j v hj=>?_) fun x hx=>hr x (by simp[hx])⟩
  ·refine h j v ?_
   simp only[ZeA,List.map_cons,List.flatten_cons]
   rw[List.getElem?_append_left (List.getElem?_eq_some_iff.1 hj).1];exact hj
  ·have:=h (8+j) v (by
    simp only[ZeA,List.map_cons,List.flatten_cons]
    rw[List.getElem?_append_right (by simp[T.cs])]
    have e:8+j - t.cs.length=j:=by simp[T.cs]
    rw[e];exact hj)
   rw[show o+8+j=o+(8+j) by omega];exact this
theorem Zve{m:Mem}{a:Option Addr}{l:List T}(h:rowRd m a (ZeA l))(hr:∀t∈l,Rep m t)(hl:l.length≤1000000000000000):RepL m a l:=by
 refine⟨hl,?_⟩
 cases l with
 | nil=>exact .inl rfl
 | cons t l=>
  rcases h with h|⟨b,o,h1,h2⟩
  ·simp[ZeA,T.cs]at h
  ·exact .inr ⟨b,o,h1,ZqM h2 hr⟩
end Go.Rx
namespace Go.Rx
open Go Go.Eng Go.RowKit
def Zo6(p:Nat)(cur:List (List Int))(q:Int):List (List Int):=cur.modify q.toNat (fun l=>l++[(p:Int)])
def ZgG(p:Nat)(cur:List (List Int))(l:List Int):List (List Int):=l.foldl (Zo6 p) cur
def Zdh:List (List Int)→Nat→List (List Int)→List (List Int)
 | [],_,cur=>cur
 | l::r,p,cur=>Zdh r (p+1) (ZgG p cur l)
def Zf3(fol:List (List Int)):List (List Int):=Zdh fol 0 (List.replicate fol.length [])
def Nf.turn(A:Nf):Nf:=⟨A.sets,Zf3 A.fol,A.last,A.first,A.empty⟩
theorem Zf4(p:Nat)(cur:List (List Int))(q:Int):(Zo6 p cur q).length=cur.length:=by simp[Zo6]
theorem ZkC{p:Nat}{cur:List (List Int)}{q:Int}{i:Nat}{l:List Int}(h:cur[i]?=some l):(Zo6 p cur q)[i]?=some (if q.toNat=i then l++[(p:Int)]else l):=by
 unfold Zo6
 rw[List.getElem?_modify,h]
 split <;> rfl
theorem Zoc(p:Nat)(l:List Int):∀cur:List (List Int),(ZgG p cur l).length=cur.length:=by
 induction l with
 | nil=>intro cur;rfl
 | cons q l ih=>intro cur;show(ZgG p (Zo6 p cur q) l).length=_;rw[ih,Zf4]
theorem ZhJ:∀(r:List (List Int)) (p:Nat) (cur:List (List Int)),(Zdh r p cur).length=cur.length
 | [],p,cur=>rfl
 | l::r,p,cur=>by rw[Zdh,ZhJ,Zoc]
theorem Zdi(fol:List (List Int)):(Zf3 fol).length=fol.length:=by simp[Zf3,ZhJ]
theorem ZjI{p i:Nat}:∀{l:List Int},l.Pairwise (· < ·)→(∀x∈l,0≤x)→∀{cur:List (List Int)} {c:List Int},cur[i]?=some c→(ZgG p cur l)[i]?=some (c++if(i:Int)∈l then[(p:Int)]else[])
 | [],_,_,cur,c,h=>by simp[ZgG,h]
 | q::l,hl,hn,cur,c,h=>by
  rw[List.pairwise_cons]at hl
  show(ZgG p (Zo6 p cur q) l)[i]?=_
  rw[ZjI hl.2 (fun x hx=>hn x (by simp[hx])) (ZkC h)]
  have hq:=hn q (by simp)
  by_cases uD:q.toNat=i
  ·have:(i:Int)=q:=by omega
   have rA:(i:Int) ∉ l:=fun hm=>by have:=hl.1 _ hm;omega
   rw[if_pos uD,if_neg rA,if_pos (by simp[this]),List.append_nil]
  ·have:¬(i:Int)=q:=by omega
   rw[if_neg uD]
   simp[this]
theorem ZhK{i:Nat}:∀{r:List (List Int)} {p:Nat},(∀l∈r,l.Pairwise (· < ·)∧∀x∈l,0≤x)→∀{cur:List (List Int)} {c:List Int},cur[i]?=some c→(Zdh r p cur)[i]?=some (c++(((List.range r.length).filter fun k=>decide ((i:Int)∈(r[k]?).getD [])).map fun k:Nat=>((p+k:Nat):Int)))
 | [],p,_,cur,c,h=>by simp[Zdh,h]
 | l::r,p,hr,cur,c,h=>by
  have h1:=hr l (by simp)
  rw[Zdh,ZhK (fun l hl=>hr l (by simp[hl])) (ZjI h1.1 h1.2 h),List.length_cons,List.range_succ_eq_map,List.filter_cons,List.append_assoc]
  congr 2
  have e:(List.map Nat.succ (List.range r.length)).filter (fun k=>decide ((i:Int)∈((l::r)[k]?).getD []))=((List.range r.length).filter fun k=>decide ((i:Int)∈(r[k]?).getD [])).map Nat.succ:=by
   rw[List.filter_map];rfl
  rw[e]
  have e2:(((List.range r.length).filter fun k=>decide ((i:Int)∈(r[k]?).getD [])).map Nat.succ).map (fun k:Nat=>((p+k:Nat):Int))=((List.range r.length).filter fun k=>decide ((i:Int)∈(r[k]?).getD [])).map fun k:Nat=>((p+1+k:Nat):Int):=by
   rw[List.map_map];apply List.map_congr_left;intro k _;simp;omega
  by_cases hi:(i:Int)∈l
  ·rw[if_pos hi,if_pos (by simp[hi]),List.map_cons,e2];simp
  ·rw[if_neg hi,if_neg (by simp[hi]),e2];simp
theorem ZkD{fol:List (List Int)}{i:Nat}(hi:i < fol.length)(hr:∀l∈fol,l.Pairwise (· < ·)∧∀x∈l,0≤x):(Zf3 fol)[i]?=some (((List.range fol.length).filter fun k=>decide ((i:Int)∈(fol[k]?).getD [])).map fun k:Nat=>(k:Int)):=by
 unfold Zf3
 rw[ZhK hr (c:=[]) (by simp[hi])]
 simp
theorem Zr6{fol:List (List Int)}{i:Nat}{l:List Int}(h:(Zf3 fol)[i]?=some l)(hr:∀l∈fol,l.Pairwise (· < ·)∧∀x∈l,0≤x){x:Int}:x∈l↔∃(k:Nat)(r:List Int),x=k∧fol[k]?=some r∧(i:Int)∈r:=by
 have hi:i < fol.length:=by have:=(List.getElem?_eq_some_iff.1 h).1;rwa [Zdi]at this
 rw[ZkD hi hr]at h
 cases h
 simp only[List.mem_map,List.mem_filter,List.mem_range,decide_eq_true_eq]
 constructor
 ·rintro⟨k,⟨h1,h2⟩,rfl⟩
  rw[List.getElem?_eq_getElem h1]at h2
  exact⟨k,fol[k],rfl,List.getElem?_eq_getElem h1,h2⟩
 ·rintro⟨k,r,rfl,h1,h2⟩
  exact⟨k,⟨(List.getElem?_eq_some_iff.1 h1).1,by rw[h1];exact h2⟩,rfl⟩
theorem ZhL{fol:List (List Int)}{i:Nat}{l:List Int}(h:(Zf3 fol)[i]?=some l)(hr:∀l∈fol,l.Pairwise (· < ·)∧∀x∈l,0≤x):l.Pairwise (· < ·)∧l.length≤fol.length:=by
 have hi:i < fol.length:=by have:=(List.getElem?_eq_some_iff.1 h).1;rwa [Zdi]at this
 rw[ZkD hi hr]at h
 cases h
 constructor
 ·rw[List.pairwise_map]
  exact((List.pairwise_lt_range (n:=fol.length)).filter _).imp (by intro a b h;omega)
 ·rw[List.length_map];exact Nat.le_trans (List.length_filter_le _ _) (by simp)
structure Nf.Ok (A:Nf):Prop where
 n:A.sets.length≤400
 len:A.fol.length=A.sets.length
 first:A.first.Pairwise (· < ·)∧∀x∈A.first,-1 < x∧x≤A.top
 last:A.last.Pairwise (· < ·)∧∀x∈A.last,-1 < x∧x≤A.top
 fol:∀l∈A.fol,l.Pairwise (· < ·)∧∀x∈l,-1 < x∧x≤A.top
 sets:∀q∈A.sets,q≠zQ
theorem ZdI{A:Nf}:A.right=true↔A.Ok:=by
 unfold Nf.right
 simp only[Bool.and_eq_true,decide_eq_true_eq,List.all_eq_true,Zce,Bool.not_eq_true',beq_eq_false_iff_ne]
 constructor
 ·rintro⟨h1,h2,h3,h4,h5⟩
  refine⟨h1,h2,h3,h4,fun l hl=>?_,fun q hq=>?_⟩
  ·obtain⟨i,hi⟩:=List.getElem?_of_mem hl
   have bK:=(List.getElem?_eq_some_iff.1 hi).1
   have:(A.fol.zip A.sets)[i]?=some (l,A.sets[i]'(by omega)):=List.getElem?_zip_eq_some.2 ⟨hi,List.getElem?_eq_getElem (by omega)⟩
   exact(h5 _ (List.mem_of_getElem? this)).1
  ·obtain⟨i,hi⟩:=List.getElem?_of_mem hq
   have bK:=(List.getElem?_eq_some_iff.1 hi).1
   have:(A.fol.zip A.sets)[i]?=some (A.fol[i]'(by omega),q):=List.getElem?_zip_eq_some.2 ⟨List.getElem?_eq_getElem (by omega),hi⟩
   exact(h5 _ (List.mem_of_getElem? this)).2
 ·rintro⟨h1,h2,h3,h4,h5,h6⟩
  refine⟨h1,h2,h3,h4,fun p hp=>?_⟩
  obtain⟨l,q⟩:=p
  exact⟨h5 l (List.of_mem_zip hp).1,h6 q (List.of_mem_zip hp).2⟩
theorem Nf.Ok.rows{A:Nf}(h:A.Ok):∀l∈A.fol,l.Pairwise (· < ·)∧∀x∈l,0≤x:=fun l hl=>⟨(h.fol l hl).1,fun x hx=>by have:=((h.fol l hl).2 x hx).1;omega⟩
theorem Zs8{A:Nf}(h:A.Ok):A.turn.Ok:=by
 refine⟨h.n,by show(Zf3 A.fol).length=_;rw[Zdi];exact h.len,h.last,h.first,fun l hl=>?_,h.sets⟩
 obtain⟨i,hi⟩:=List.getElem?_of_mem (show l∈Zf3 A.fol from hl)
 refine⟨(ZhL hi h.rows).1,fun x hx=>?_⟩
 obtain⟨k,r,rfl,h1,h2⟩:=(Zr6 hi h.rows).1 hx
 have:=(List.getElem?_eq_some_iff.1 h1).1
 have:=h.len
 show _∧(k:Int)≤A.top
 unfold Nf.top;omega
structure TurnI (base m:Mem)(b:Nat)(F:Nat→Option (Nat×Nat))(cur:List (List Int)):Prop where
 le:base.le m
 fr:base.free b
 cell:∀(q:Nat)(l:List Int),cur[q]?=some l→(F q=none∧l=[]∧m b q=some (.slice none 0 0))∨∃bq c,F q=some (bq,c)∧l≠[]∧l.length≤c∧m b q=some (.slice (some ⟨bq,0,none⟩) l.length c)∧(∀o,o < c→∃v,m bq o=some v)∧m.reads bq 0 (Zap l)∧base.free bq∧bq≠b
 ne:∀(q q' b0 c c':Nat),F q=some (b0,c)→F q'=some (b0,c')→q=q'
 dom:∀(q:Nat)(x:Nat×Nat),F q=some x→q < cur.length
theorem Zm1{m m':Mem}(h:m.le m'){b:Nat}(hf:m'.free b):m.free b:=fun o=>by
 cases he:m b o with
 | none=>rfl
 | some v=>have:=h _ _ _ he;rw[hf o]at this;cases this
theorem ZkE(l r:List Int):Zap (l++r)=Zap l++Zap r:=by simp[Zap]
theorem TurnI.push{base m:Mem}{b:Nat}{F:Nat→Option (Nat×Nat)}{cur:List (List Int)}(h:TurnI base m b F cur){q:Int}{p:Nat}{l:List Int}(pv:0≤q)(hq:cur[q.toNat]?=some l){a:Option Addr}{c:Nat}(hm:m b q.toNat=some (.slice a l.length c)){m1 m2 M:Mem}(aZ:(m.cutA a (l.length*1)).le m1)
  {a':Option Addr} {c':Nat} (hr:rowRd m2 a' (Zap l++[.int .i64 (p:Int)])) (hf:TokFact m1 a a' (l.length+1) c') (wj:(m.cutA a (l.length*1)).le M) (eQ:m2.le M) (zs:List Value) (hz:zs.length=(c' - (l.length+1))*1):
  ∃F',TurnI base ((M.upd b q.toNat [.slice a' (l.length+1) c']).addA a' ((l.length+1)*1) zs) b F' (Zo6 p cur q):=by
 have sk:=(List.getElem?_eq_some_iff.1 hq).1
 have wk:∀b o,a=some ⟨b,o,none⟩→o=0:=fun b1 o1 e=>by
  rcases h.cell _ _ hq with⟨_,_,h3⟩|⟨bq,c0,_,_,_,h4,_⟩
  ·rw[hm,e]at h3;simp at h3
  ·rw[hm,e]at h4;simp at h4;exact h4.1.2
 obtain⟨hc',gM⟩:=hf.old wk
 rcases hr with hr|⟨b',o',ha',cO⟩
 ·have:=congrArg List.length hr;simp at this
 rcases gM with mZ|⟨b2,gN,fW⟩
 ·rw[mZ]at ha';cases ha'
 rw[gN]at ha'
 simp only[Option.some.injEq,Addr.mk.injEq,and_true]at ha'
 obtain⟨rfl,rfl⟩:=ha'
 subst gN
 have gP:∀k o v,m k o=some v→(∀bq c0,F q.toNat=some (bq,c0)→k≠bq)→M k o=some v:=fun k o v hv hk=>by
  refine wj k o v ?_
  unfold Mem.cutA
  split
  ·rename_i k0 o0 s0
   rcases h.cell _ _ hq with⟨_,_,h3⟩|⟨bq,c0,h1,_,_,h4,_⟩
   ·rw[hm]at h3;simp only[Option.some.injEq,Value.slice.injEq]at h3;exact absurd h3.1 (by simp)
   ·rw[hm]at h4
    simp only[Option.some.injEq,Value.slice.injEq,Addr.mk.injEq]at h4
    rw[if_neg (fun hc=>hk bq c0 h1 (hc.1.trans h4.1.1))];exact hv
  ·exact hv
 have hb'k:∀k o v,m k o=some v→(∀bq c0,F q.toNat=some (bq,c0)→k≠bq)→k≠b2:=fun k o v hv hk e=>by
  subst e
  have lE:(m.cutA a (l.length*1)) k o=some v:=by
   unfold Mem.cutA
   split
   ·rename_i k0 o0 s0
    rcases h.cell _ _ hq with⟨_,_,h3⟩|⟨bq,c0,h1,_,_,h4,_⟩
    ·rw[hm]at h3;simp only[Option.some.injEq,Value.slice.injEq]at h3;exact absurd h3.1 (by simp)
    ·rw[hm]at h4
     simp only[Option.some.injEq,Value.slice.injEq,Addr.mk.injEq]at h4
     rw[if_neg (fun hc=>hk bq c0 h1 (hc.1.trans h4.1.1))];exact hv
   ·exact hv
  rcases fW with fW|fW
  ·rcases h.cell _ _ hq with⟨_,_,h3⟩|⟨bq,c0,h1,_,_,h4,_⟩
   ·rw[hm,fW]at h3;simp only[Option.some.injEq,Value.slice.injEq]at h3;exact absurd h3.1 (by simp)
   ·rw[hm,fW]at h4
    simp only[Option.some.injEq,Value.slice.injEq,Addr.mk.injEq]at h4
    exact hk bq c0 h1 h4.1.1
  ·have:=aZ _ _ _ lE
   rw[fW o]at this;cases this
 have oC:∀q' x,cur[q']?=some x→∃v,m b q'=some v:=fun q' x hx=>by
  rcases h.cell _ _ hx with⟨_,_,h3⟩|⟨_,_,_,_,_,h4,_⟩
  ·exact⟨_,h3⟩
  ·exact⟨_,h4⟩
 have sm:∀bq c0,F q.toNat=some (bq,c0)→b≠bq:=fun bq c0 h1 e=>by
  rcases h.cell _ _ hq with⟨h3,_,_⟩|⟨bq',c0',h1',_,_,_,_,_,_,h8⟩
  ·rw[h3]at h1;cases h1
  ·rw[h1]at h1';cases h1';exact h8 e.symm
 have gC:b≠b2:=by
  obtain⟨v,hv⟩:=oC _ _ hq
  exact hb'k b _ v hv sm
 let N:=(M.upd b q.toNat [.slice (some ⟨b2,0,none⟩) (l.length+1) c']).addA (some ⟨b2,0,none⟩) ((l.length+1)*1) zs
 have hN:∀k o,k≠b2→(k≠b∨o≠q.toNat)→N k o=M k o:=fun k o hk wl=>by
  show Mem.addAt _ b2 _ zs k o=_
  unfold Mem.addAt
  rw[if_neg (fun hc=>hk hc.1)]
  unfold Mem.upd
  rw[if_neg]
  rintro⟨e1,e2,e3⟩
  simp at e3
  rcases wl with h|h
  ·exact h e1
  ·omega
 have qI:N b q.toNat=some (.slice (some ⟨b2,0,none⟩) (l.length+1) c'):=by
  show Mem.addAt _ b2 _ zs b q.toNat=_
  unfold Mem.addAt
  rw[if_neg (fun hc=>gC hc.1)]
  unfold Mem.upd
  rw[if_pos ⟨rfl,Nat.le_refl _,by simp⟩];simp
 have na:base.free b2:=by
  rcases fW with fW|fW
  ·rcases h.cell _ _ hq with⟨_,_,h3⟩|⟨bq,c0,h1,_,_,h4,_,_,h7,_⟩
   ·rw[hm,fW]at h3;simp only[Option.some.injEq,Value.slice.injEq]at h3;exact absurd h3.1 (by simp)
   ·rw[hm,fW]at h4
    simp only[Option.some.injEq,Value.slice.injEq,Addr.mk.injEq]at h4
    rw[h4.1.1];exact h7
  ·intro o
   cases he:base b2 o with
   | none=>rfl
   | some v=>
    exfalso
    refine hb'k b2 o v (h.le _ _ _ he) (fun bq c0 h1 e=>?_) rfl
    rcases h.cell _ _ hq with⟨h3,_,_⟩|⟨bq',c0',h1',_,_,_,_,_,h7,_⟩
    ·rw[h3]at h1;cases h1
    ·rw[h1]at h1';cases h1'
     rw[e,h7 o]at he;cases he
 refine⟨fun i=>if i=q.toNat then some (b2,c')else F i,?_⟩
 show TurnI base N b _ _
 refine⟨fun k o v hv=>?_,h.fr,fun i x hx=>?_,fun i i' b0 c0 c0' h1 h2=>?_,fun i x hx=>?_⟩
 ·have gt:k≠b2:=fun e=>by subst e;rw[na o]at hv;cases hv
  have jb:k≠b:=fun e=>by subst e;rw[h.fr o]at hv;cases hv
  rw[hN k o gt (.inl jb)]
  refine gP k o v (h.le _ _ _ hv) fun bq c0 h1 e=>?_
  rcases h.cell _ _ hq with⟨h3,_,_⟩|⟨bq',c0',h1',_,_,_,_,_,h7,_⟩
  ·rw[h3]at h1;cases h1
  ·rw[h1]at h1';cases h1'
   rw[e,h7 o]at hv;cases hv
 ·have sn:i < cur.length:=by have:=(List.getElem?_eq_some_iff.1 hx).1;rwa [Zf4]at this
  obtain⟨y,hy⟩:∃y,cur[i]?=some y:=⟨_,List.getElem?_eq_getElem sn⟩
  rw[ZkC hy]at hx
  by_cases hi:i=q.toNat
  ·subst hi
   rw[hq]at hy;cases hy
   rw[if_pos rfl]at hx;cases hx
   refine .inr ⟨b2,c',by simp,by simp,by simpa using hc',by rw[List.length_append];exact qI,fun o ho=>?_,fun j v hj=>?_,na,gC.symm⟩
   ·show ∃v,Mem.addAt _ b2 _ zs b2 o=some v
    unfold Mem.addAt
    by_cases sq:0+(l.length+1)*1≤o
    ·rw[if_pos ⟨rfl,sq⟩]
     have:o - (0+(l.length+1)*1) < zs.length:=by omega
     rw[List.getElem?_eq_getElem this];exact⟨_,rfl⟩
    ·rw[if_neg (fun hc=>sq hc.2)]
     have hv:=cO o ((Zap l++[.int .i64 (p:Int)])[o]'(by simp[ZbS];omega)) (List.getElem?_eq_getElem _)
     rw[Nat.zero_add]at hv
     rw[Mem.upd_other _ gC.symm]
     exact⟨_,eQ _ _ _ hv⟩
   ·show Mem.addAt _ b2 _ zs b2 (0+j)=some v
    have wm:=(List.getElem?_eq_some_iff.1 hj).1
    rw[ZbS,List.length_append,List.length_singleton]at wm
    unfold Mem.addAt
    rw[if_neg (by omega),Mem.upd_other _ gC.symm]
    rw[ZkE]at hj
    exact eQ _ _ _ (cO j v hj)
  ·rw[if_neg (fun e=>hi e.symm)]at hx
   obtain rfl:y=x:=Option.some.inj hx
   have pw:∀x,F i=some x→∀bq c0,F q.toNat=some (bq,c0)→x.1≠bq:=fun x h1 bq c0 h2 e=>by
    obtain⟨x1,x2⟩:=x
    simp only at e;subst e
    exact hi (h.ne _ _ _ _ _ h1 h2)
   rcases h.cell _ _ hy with⟨h1,h2,h3⟩|⟨bq,c0,h1,h2,h3,h4,h5,h6,h7,h8⟩
   ·refine .inl ⟨by simp only[if_neg hi];exact h1,h2,?_⟩
    rw[hN b i gC (.inr hi)]
    exact gP _ _ _ h3 sm
   ·have hk:∀bq' c0',F q.toNat=some (bq',c0')→bq≠bq':=fun bq' c0' h=>pw _ h1 bq' c0' h
    have gt:bq≠b2:=by
     cases y with
     | nil=>exact absurd rfl h2
     | cons z y=>
      have:=h6 0 (.int .i64 z) rfl
      exact hb'k _ _ _ this hk
    refine .inr ⟨bq,c0,by simp only[if_neg hi];exact h1,h2,h3,?_,fun o ho=>?_,fun j v hj=>?_,h7,h8⟩
    ·rw[hN b i gC (.inr hi)];exact gP _ _ _ h4 sm
    ·obtain⟨v,hv⟩:=h5 o ho
     exact⟨v,by rw[hN bq o gt (.inl h8)];exact gP _ _ _ hv hk⟩
    ·rw[hN bq _ gt (.inl h8)];exact gP _ _ _ (h6 j v hj) hk
 ·have key:∀j c1,F j=some (b2,c1)→j=q.toNat:=fun j c1 hj=>by
   have kC:=h.dom _ _ hj
   rcases h.cell j _ (List.getElem?_eq_getElem kC)with⟨h3,_,_⟩|⟨bq,c0,g1,g2,_,_,_,g6,_,_⟩
   ·rw[h3]at hj;cases hj
   ·rw[hj]at g1;cases g1
    cases pw:F q.toNat with
    | none=>
     exfalso
     have:∃z y,cur[j]'kC=z::y:=by
      cases hc:cur[j]'kC with
      | nil=>exact absurd hc g2
      | cons z y=>exact⟨z,y,rfl⟩
     obtain⟨z,y,sr⟩:=this
     have hv:=g6 0 (.int .i64 z) (by rw[sr];rfl)
     exact hb'k _ _ _ hv (fun bq c0 h1=>by rw[pw]at h1;cases h1) rfl
    | some x=>
     obtain⟨x1,x2⟩:=x
     by_cases jx:x1=b2
     ·subst jx;exact h.ne _ _ _ _ _ hj pw
     ·exfalso
      have:∃z y,cur[j]'kC=z::y:=by
       cases hc:cur[j]'kC with
       | nil=>exact absurd hc g2
       | cons z y=>exact⟨z,y,rfl⟩
      obtain⟨z,y,sr⟩:=this
      have hv:=g6 0 (.int .i64 z) (by rw[sr];rfl)
      exact hb'k _ _ _ hv (fun bq c0 h1 e=>by rw[pw]at h1;cases h1;exact jx e.symm) rfl
  split at h1 <;> split at h2
  ·omega
  ·simp only[Option.some.injEq,Prod.mk.injEq]at h1
   rw[←h1.1]at h2
   have:=key _ _ h2;omega
  ·simp only[Option.some.injEq,Prod.mk.injEq]at h2
   rw[←h2.1]at h1
   have:=key _ _ h1;omega
  ·exact h.ne _ _ _ _ _ h1 h2
 ·rw[Zf4]
  split at hx
  ·omega
  ·exact h.dom _ _ hx
end Go.Rx
namespace Go.Rx
open Go Go.Eng Go.RowKit
def Zvf(q:QS):T:=.node 2 q.1 q.2.1 q.2.2.1 q.2.2.2 0 0 none 0 []
def Zrh(q:QS)(c:Nat):Bool:=(Zvf q).hasB c
def QOk(q:QS):Prop:=(0≤q.1∧q.1 < 18446744073709551616)∧(0≤q.2.1∧q.2.1 < 18446744073709551616)∧(0≤q.2.2.1∧q.2.2.1 < 18446744073709551616)∧(0≤q.2.2.2∧q.2.2.2 < 18446744073709551616)
theorem Zxn{q:QS}(h:QOk q)(m:Mem):Rep m (Zvf q):=by
 simp only[Zvf,Rep]
 exact⟨by simp,.inl trivial,⟨by omega,h.1,h.2.1,h.2.2.1,h.2.2.2,by omega,by omega⟩⟩
def Zwd(l:List Int)(f:Nat):Nat:=l.foldl (fun f p=>f|||2 ^ p.toNat) f
def Nf.fromL(A:Nf)(p:Int):List Int:=if p=-1 then A.first else(A.fol[p.toNat]?).getD []
def Nf.hasAt(A:Nf)(q:Int)(c:Nat):Bool:=Zrh ((A.sets[q.toNat]?).getD zQ) c
def Nf.step1(A:Nf)(c:Nat)(f:Nat)(q:Int):Nat:=if A.hasAt q c then f|||2 ^ q.toNat else f
def Nf.stepM(A:Nf)(l:List Int)(c:Nat)(f:Nat):Nat:=l.foldl (fun f p=>(A.fromL p).foldl (A.step1 c) f) f
def Nf.step(A:Nf)(l:List Int)(c:Nat):List Int:=Zb0 (A.stepM l c 0)
def Nf.acc1(A:Nf)(p:Int):Bool:=if p=-1 then A.empty else(Zwd A.last 0).testBit p.toNat
def Nf.accepts(A:Nf)(l:List Int):Bool:=l.any A.acc1
def Nf.states(A:Nf)(l:List Int):Bool:=ZbG l (-2) A.top
theorem Zf5{A:Nf}{l:List Int}(h:A.states l=true):∀p∈l,-1≤p∧p≤A.top:=fun p hp=>by
 have:=(Zce.1 h).2 p hp;omega
theorem ZqN:∀(l:List Int)(f i:Nat),(∀p∈l,0≤p)→((Zwd l f).testBit i=true↔f.testBit i=true∨(i:Int)∈l)
 | [],f,i,_=>by simp[Zwd]
 | p::l,f,i,h=>by
  have hp:=h p (by simp)
  show(Zwd l (f|||2 ^ p.toNat)).testBit i=true↔_
  rw[ZqN l _ i (fun p hp=>h p (by simp[hp]))]
  simp only[Nat.testBit_or,Bool.or_eq_true,Nat.testBit_two_pow,decide_eq_true_eq,List.mem_cons]
  have:p.toNat=i↔(i:Int)=p:=by omega
  rw[this,or_assoc]
theorem ZlL{A:Nf}{c:Nat}:∀(l:List Int)(f i:Nat),(∀p∈l,0≤p)→((l.foldl (A.step1 c) f).testBit i=true↔f.testBit i=true∨((i:Int)∈l∧A.hasAt i c=true))
 | [],f,i,_=>by simp
 | p::l,f,i,h=>by
  have hp:=h p (by simp)
  rw[List.foldl_cons,ZlL l _ i (fun p hp=>h p (by simp[hp]))]
  have e:p.toNat=i↔(i:Int)=p:=by omega
  unfold Nf.step1
  by_cases hh:A.hasAt p c=true
  ·rw[if_pos hh]
   simp only[Nat.testBit_or,Bool.or_eq_true,Nat.testBit_two_pow,decide_eq_true_eq,List.mem_cons,e]
   constructor
   ·rintro((h1|h1)|h1)
    ·exact .inl h1
    ·exact .inr ⟨.inl h1,by rw[h1];exact hh⟩
    ·exact .inr ⟨.inr h1.1,h1.2⟩
   ·rintro(h1|⟨h1|h1,h2⟩)
    ·exact .inl (.inl h1)
    ·exact .inl (.inr h1)
    ·exact .inr ⟨h1,h2⟩
  ·rw[if_neg hh]
   constructor
   ·rintro(h1|h1)
    ·exact .inl h1
    ·exact .inr ⟨by simp[h1.1],h1.2⟩
   ·rintro(h1|⟨h1,h2⟩)
    ·exact .inl h1
    ·rcases List.mem_cons.1 h1 with h1|h1
     ·rw[h1]at h2;exact absurd h2 hh
     ·exact .inr ⟨h1,h2⟩
theorem Zf6{A:Nf}(h:A.Ok)(p:Int):(A.fromL p).Pairwise (· < ·)∧∀x∈A.fromL p,-1 < x∧x≤A.top:=by
 unfold Nf.fromL
 split
 ·exact h.first
 ·cases hl:A.fol[p.toNat]? with
  | none=>exact⟨by simp,by simp⟩
  | some l=>exact h.fol l (List.mem_of_getElem? hl)
theorem Zix{A:Nf}(hA:A.Ok){c:Nat}:∀(l:List Int)(f i:Nat),((A.stepM l c f).testBit i=true↔f.testBit i=true∨((∃p∈l,(i:Int)∈A.fromL p)∧A.hasAt i c=true))
 | [],f,i=>by simp[Nf.stepM]
 | p::l,f,i=>by
  show(A.stepM l c ((A.fromL p).foldl (A.step1 c) f)).testBit i=true↔_
  rw[Zix hA l,ZlL _ _ _ (fun x hx=>by have:=(Zf6 hA p).2 x hx;omega)]
  constructor
  ·rintro((h1|h1)|⟨⟨q,h1,h2⟩,h3⟩)
   ·exact .inl h1
   ·exact .inr ⟨⟨p,by simp,h1.1⟩,h1.2⟩
   ·exact .inr ⟨⟨q,by simp[h1],h2⟩,h3⟩
  ·rintro(h1|⟨⟨q,h1,h2⟩,h3⟩)
   ·exact .inl (.inl h1)
   ·rcases List.mem_cons.1 h1 with h1|h1
    ·subst h1;exact .inl (.inr ⟨h2,h3⟩)
    ·exact .inr ⟨⟨q,h1,h2⟩,h3⟩
theorem Zfj{A:Nf}(hA:A.Ok){l:List Int}{c:Nat}{x:Int}:x∈A.step l c↔0≤x∧(∃p∈l,x∈A.fromL p)∧A.hasAt x c=true:=by
 unfold Nf.step
 rw[Zr5]
 constructor
 ·rintro⟨i,h1,h2,rfl⟩
  have:=(Zix hA l 0 i).1 h2
  simp at this
  exact⟨by omega,this.1,this.2⟩
 ·rintro⟨h0,⟨p,h1,h2⟩,h3⟩
  have hb:=(Zf6 hA p).2 x h2
  have hn:=hA.n
  unfold Nf.top at hb
  refine⟨x.toNat,by omega,?_,by omega⟩
  rw[Zix hA]
  refine .inr ⟨⟨p,h1,?_⟩,?_⟩
  ·rw[show((x.toNat:Nat):Int)=x by omega];exact h2
  ·rw[show((x.toNat:Nat):Int)=x by omega];exact h3
theorem ZjJ{A:Nf}(hA:A.Ok)(l:List Int)(c:Nat):A.states (A.step l c)=true:=by
 unfold Nf.states
 rw[Zce]
 refine⟨ZhI _,fun x hx=>?_⟩
 obtain⟨h0,⟨p,_,h2⟩,_⟩:=(Zfj hA).1 hx
 have:=(Zf6 hA p).2 x h2
 omega
def Nf.next(A:Nf)(again:Bool)(l:List Int)(c:Nat):List Int:=if again then -1::A.step l c else A.step l c
def Nf.runL{S:Type}(A:Nf)(again:Bool)(st:S→Nat→List Int→S):List Nat→Nat→List Int→S→S
 | [],_,_,s=>s
 | c::bs,i,l,s=>A.runL again st bs (i+1) (A.next again l c) (st s (i+1) (A.next again l c))
theorem Zod{A:Nf}(hA:A.Ok)(again:Bool)(l:List Int)(c:Nat):A.states (A.next again l c)=true:=by
 unfold Nf.next
 have h:=ZjJ hA l c
 split
 ·unfold Nf.states at h ⊢
  rw[Zce]at h ⊢
  refine⟨?_,fun x hx=>?_⟩
  ·rw[List.pairwise_cons]
   refine⟨fun x hx=>?_,h.1⟩
   obtain⟨h0,_⟩:=(Zfj hA).1 hx
   omega
  ·rcases List.mem_cons.1 hx with rfl|hx
   ·exact⟨by omega,by unfold Nf.top;omega⟩
   ·exact h.2 x hx
 ·exact h
def Nf.run(A:Nf)(b:List Nat)(l:List Int):List Int:=b.foldl (fun l c=>A.step l c) l
def Nf.matches(A:Nf)(b:List Nat):Bool:=A.accepts (A.run b [-1])
def Nf.search(A:Nf)(b:List Nat):List Int:=A.runL true (fun s n l=>if A.accepts l then s++[(n:Int)]else s) b 0 [-1] (if A.accepts [-1]then[0]else[])
theorem ZqO(A:Nf):∀(b:List Nat)(i:Nat)(l:List Int),A.runL false (fun _ _ l=>l) b i l l=A.run b l
 | [],i,l=>rfl
 | c::b,i,l=>by rw[Nf.runL,ZqO A b];rfl
theorem Zf7{A:Nf}(hA:A.Ok):∀(b:List Nat)(l:List Int),A.states l=true→A.states (A.run b l)=true
 | [],l,h=>h
 | c::b,l,h=>Zf7 hA b _ (ZjJ hA l c)
theorem Zfk(A:Nf):A.states [-1]=true:=by
 unfold Nf.states
 rw[Zce]
 exact⟨by simp,fun x hx=>by rw[List.mem_singleton]at hx;subst hx;unfold Nf.top;omega⟩
def Nf.err(A:Nf)(l:List Int):Int:=if A.right=false then 171 else if A.states l=false then 172 else 0
def Nf.runE(A:Nf)(n:Nat):Int:=if A.right=false then 171 else if 4096 < n then 3 else 0
inductive Nf.Reach (A:Nf):Nat→Prop
 | first {p:Nat} (h:(p:Int)∈A.first):A.Reach p
 | fol {p q:Nat} {l:List Int} (h:A.Reach p) (hl:A.fol[p]?=some l) (hq:(q:Int)∈l):A.Reach q
end Go.Rx
namespace Go.Rx
open Go Go.Eng Go.RowKit
def T.good(t:T):Bool:=t.nodes.all T.right
def isG(t:T):Bool:=t.k == 6
theorem ZlM(p:T→Bool):∀l:List T,(ZaF l).all p=l.all fun t=>t.nodes.all p
 | []=>rfl
 | t::l=>by simp only[ZaF,List.all_append,List.all_cons,ZlM p l]
theorem Zs9(t:T):t.good=(t.right&&t.subs.all T.good):=by
 unfold T.good;rw[ZcG,List.all_cons,ZlM]
def grL(l:List T):Nat:=(ZaF l).countP isG
def szL(l:List T):Nat:=(ZaF l).length
def T.gr(t:T):Nat:=t.nodes.countP isG
theorem ZlN(l r:List T):szL (l++r)=szL l+szL r:=by unfold szL;rw[Zdf,List.length_append]
theorem ZlO(l r:List T):grL (l++r)=grL l+grL r:=by unfold grL;rw[Zdf,List.countP_append]
theorem ZqP(t:T):szL [t]=t.nodes.length:=by simp[szL,ZaF]
theorem ZqQ(t:T):grL [t]=t.gr:=by simp[grL,ZaF,T.gr]
theorem Zm2(t:T):ZdH [t]=t.pos:=by simp[ZdH]
theorem Zm3(t:T)(l:List T):szL (t::l)=t.nodes.length+szL l:=by simp[szL,ZaF]
theorem ZqR(t:T)(l:List T):grL (t::l)=t.gr+grL l:=by simp[grL,ZaF,T.gr,List.countP_append]
theorem Zwe(t:T):t.nodes.length=1+szL t.subs:=by rw[ZcG,List.length_cons,szL];omega
theorem ZwY(t:T):t.gr=(if isG t=true then 1 else 0)+grL t.subs:=by
 unfold T.gr;rw[ZcG,List.countP_cons,grL];omega
theorem Zvg(l:List T):l.length≤szL l:=by
 induction l with
 | nil=>simp
 | cons t l ih=>rw[Zm3,Zwe,List.length_cons];omega
def Zo7(k:Int)(t:T):List T:=if t.k=k then t.subs else if k=3∧t.k=1 then[]else[t]
def ZpD(k:Int)(a:Option Addr)(c:Nat):List T→T
 | []=>T1
 | [x]=>x
 | x::y::l=>ZfC k 0 0 a c (x::y::l)
theorem ZkF{t:T}{k:Int}(h:t.has k=false):∀x∈t.subs,x.k≠k:=by
 intro x hx e
 unfold T.has at h
 have:=List.any_eq_false.1 h x hx
 simp[e]at this
theorem Zvh{t:T}{k:Int}(h:∀x∈t.subs,x.k≠k):t.has k=false:=by
 unfold T.has
 rw[List.any_eq_false]
 intro x hx
 have:=h x hx
 simpa using this
theorem ZqS{k:Int}{t:T}(hk:k=3∨k=4)(hg:t.good=true)(hp:t.pos≤10000):(∀x∈Zo7 k t,x.good=true∧x.k≠k∧(k=3→x.k≠1))∧szL (Zo7 k t)≤t.nodes.length∧grL (Zo7 k t)≤t.gr∧ZdH (Zo7 k t)≤t.pos:=by
 have hg':=hg
 rw[Zs9,Bool.and_eq_true,List.all_eq_true]at hg'
 unfold Zo7
 split
 ·rename_i eO
  refine⟨fun x hx=>⟨hg'.2 x hx,?_⟩,by rw[Zwe];omega,by rw[ZwY];omega,?_⟩
  ·have hr:=hg'.1
   unfold T.right at hr
   rw[Bool.and_eq_true]at hr
   have hr:=hr.2
   rcases hk with rfl|rfl
   ·simp only[eO]at hr
    simp at hr
    exact⟨ZkF hr.2.2 x hx,fun _=>ZkF hr.2.1 x hx⟩
   ·simp only[eO]at hr
    simp at hr
    exact⟨ZkF hr.2 x hx,fun h=>by omega⟩
  ·rw[ZtQ]at hp ⊢
   have h5:¬t.k=5:=by omega
   have h2:¬t.k=2:=by omega
   unfold ZuE at hp ⊢
   rw[if_neg h5,if_neg h2,Int.zero_add]at hp ⊢
   unfold ZmZ at hp ⊢
   split at hp
   ·omega
   ·split <;> omega
 ·rename_i eO
  split
  ·refine⟨fun x hx=>by simp at hx,by simp[szL,ZaF],by simp[grL,ZaF],?_⟩
   simp only[ZdH];exact(Zky t).1
  ·rename_i wn
   refine⟨fun x hx=>?_,by rw[ZqP];exact Nat.le_refl _,by rw[ZqQ];exact Nat.le_refl _,by rw[Zm2];exact Int.le_refl _⟩
   simp at hx;subst hx
   exact⟨hg,eO,fun h=>fun h1=>wn ⟨h,h1⟩⟩
theorem Zr7{k:Int}(hk:k=3∨k=4)(a:Option Addr)(c:Nat):∀{l:List T},(∀x∈l,x.good=true∧x.k≠k∧(k=3→x.k≠1))→(ZpD k a c l).good=true∧(ZpD k a c l).nodes.length≤1+szL l∧(ZpD k a c l).gr≤grL l∧(ZpD k a c l).pos≤ZdH l
 | [],_=>⟨show T1.good=true by decide,show T1.nodes.length≤1 by decide,show T1.gr≤0 by decide,show T1.pos≤0 by decide⟩
 | [x],h=>by
  rw[ZqP,ZqQ,Zm2]
  exact⟨(h x (by simp)).1,by show x.nodes.length≤_;omega,Nat.le_refl _,Int.le_refl _⟩
 | x::y::l,h=>by
  show(ZfC k 0 0 a c (x::y::l)).good=true∧(ZfC k 0 0 a c (x::y::l)).nodes.length≤_∧(ZfC k 0 0 a c (x::y::l)).gr≤_∧(ZfC k 0 0 a c (x::y::l)).pos≤_
  have hs:(ZfC k 0 0 a c (x::y::l)).subs=x::y::l:=rfl
  have eO:(ZfC k 0 0 a c (x::y::l)).k=k:=rfl
  have hz:(ZfC k 0 0 a c (x::y::l)).setZ=true:=rfl
  have uE:(ZfC k 0 0 a c (x::y::l)).mn=0:=rfl
  have j2:(ZfC k 0 0 a c (x::y::l)).mx=0:=rfl
  refine⟨?_,by rw[Zwe,hs];exact Nat.le_refl _,?_,?_⟩
  ·rw[Zs9,Bool.and_eq_true,List.all_eq_true,hs]
   refine⟨?_,fun z hz=>(h z hz).1⟩
   have h1:k=3→(ZfC k 0 0 a c (x::y::l)).has 1=false:=fun e=>Zvh fun z hz=>(h z hz).2.2 e
   have h2:(ZfC k 0 0 a c (x::y::l)).has k=false:=Zvh fun z hz=>(h z hz).2.1
   unfold T.right
   rw[eO,hz,uE,j2,hs]
   rcases hk with rfl|rfl
   ·simp[h1 rfl,h2]
   ·simp[h2]
  ·rw[ZwY,hs,isG,eO]
   rcases hk with rfl|rfl <;> simp
  ·rw[ZtQ,eO,uE,j2,hs]
   unfold ZuE
   rw[if_neg (by omega),if_neg (by omega),Int.zero_add]
   exact(ZqJ _ _).1
structure J (i:Nat)(ts:List T)(u g:Nat):Prop where
 good:∀t∈ts,t.good=true
 sz:szL ts≤i
 pos:ZdH ts≤(i*u:Nat)
 u1:1≤u
 u16:u≤16
 gr:grL ts≤g
 g9:g≤9
theorem J.zero:J 0 [] 1 0:=⟨by simp,by simp[szL,ZaF],by simp[ZdH],by omega,by omega,by simp[grL,ZaF],by omega⟩
theorem J.skip{i ts u g}(h:J i ts u g):J (i+1) ts u g:=
 ⟨h.good,by have:=h.sz;omega,by have:=h.pos;have e:(i+1)*u=i*u+u:=Nat.succ_mul i u;rw[e];omega,h.u1,h.u16,h.gr,h.g9⟩
theorem J.push{i ts u g}(h:J i ts u g){t:T}(hg:t.good=true)(hs:t.nodes.length=1)(hp:t.pos≤1)(hr:t.gr=0):J (i+1) (ts++[t]) u g:=by
 refine⟨fun x hx=>?_,?_,?_,h.u1,h.u16,?_,h.g9⟩
 ·rcases List.mem_append.1 hx with hx|hx
  ·exact h.good x hx
  ·simp at hx;subst hx;exact hg
 ·rw[ZlN,ZqP,hs];have:=h.sz;omega
 ·rw[ZgD,Zm2];have:=h.pos;have:=h.u1;have e:(i+1)*u=i*u+u:=Nat.succ_mul i u;rw[e];omega
 ·rw[ZlO,ZqQ,hr];have:=h.gr;omega
theorem J.pos400{i ts u g}(h:J i ts u g)(hi:i≤25):ZdH ts≤400:=by
 have h1:=h.pos
 have:i*u≤25*16:=Nat.mul_le_mul hi h.u16
 omega
structure F (t:T)(l:List T):Prop where
 good:t.good=true
 goods:∀x∈l,x.good=true
 sz:t.nodes.length+szL l+l.length≤60
 pos:t.pos+ZdH l≤400
 gr:t.gr+grL l≤9
theorem F.start{i u g}{t:T}{l:List T}(h:J i (t::l) u g)(hi:i≤25):F t l:=by
 have h1:=h.sz
 have h2:=h.pos400 hi
 have h3:=h.gr
 rw[Zm3]at h1
 rw[ZqR]at h3
 have:=Zvg l
 have:=h.g9
 exact⟨h.good t (by simp),fun x hx=>h.good x (by simp[hx]),by omega,by simpa[ZdH]using h2,by omega⟩
theorem F.step{t x:T}{l:List T}(h:F t (x::l))(a:Option Addr)(c:Nat):F (ZpD 4 a c (Zo7 4 t++Zo7 4 x)) l:=by
 have h1:=h.sz
 have h2:=h.pos
 have h3:=h.gr
 rw[Zm3,List.length_cons]at h1
 rw[ZqR]at h3
 simp only[ZdH]at h2
 have n1:=ZgE l
 have n2:=(Zky x).1
 have n3:=(Zky t).1
 obtain⟨a1,a2,a3,a4⟩:=ZqS (.inr rfl) h.good (by omega) (t:=t)
 obtain⟨b1,b2,b3,b4⟩:=ZqS (.inr rfl) (h.goods x (by simp)) (by omega)
 obtain⟨c1,c2,c3,c4⟩:=Zr7 (.inr rfl) a c (l:=Zo7 4 t++Zo7 4 x) (fun z hz=>by
  rcases List.mem_append.1 hz with hz|hz
  ·exact a1 z hz
  ·exact b1 z hz)
 rw[ZlN]at c2
 rw[ZlO]at c3
 rw[ZgD]at c4
 exact⟨c1,fun z hz=>h.goods z (by simp[hz]),by omega,by omega,by omega⟩
theorem F.done{t:T}{l:List T}(h:F t l):t.check=0:=by
 have h1:=h.sz
 have h2:=h.pos
 have h3:=h.gr
 have n1:=ZgE l
 have hl:t.light=true:=by unfold T.light;exact decide_eq_true (by omega)
 have hc:t.clean=true:=by unfold T.clean;rw[hl];exact h.good
 have hg:((t.nodes.countP fun x=>x.k == 6:Nat))=t.gr:=rfl
 unfold T.check
 rw[hc]
 unfold T.size T.positions T.groups
 rw[hl,hg]
 simp only[if_true,Bool.true_eq_false,if_false]
 rw[if_neg (by omega),if_neg (by omega),if_neg (by omega)]
end Go.Rx
namespace Go.Rx
open Go Go.Eng Go.RowKit
structure Bad (t:T):Prop where
 k:t.k≠0
 no:t.check≠0
structure Says (t:T)(len:Nat)(i:Int)(e:Int):Prop where
 one:t.wrong len i=e
 rg:Rg.wrong ⟨false,false,t⟩ len i=e
 all:Zwv [⟨false,false,t⟩] len i=e
structure Asks (k:Nat)(t:T)(len:Nat)(i e:Int):Prop where
 wo:Says t len i e
 zero:k≤1→Says t len 0 e
 no:e≠0
 len:len≤513
end Go.Rx
namespace Go.Rx
open Go Go.Eng Go.RowKit
end Go.Rx
namespace Go.Rx
open Go Go.Eng Go.RowKit
set_option maxRecDepth 100000
mutual
def T.er:T→T
 | .node k s0 s1 s2 s3 mn mx _ _ l=>.node k s0 s1 s2 s3 mn mx none 0 (erL l)
def erL:List T→List T
 | []=>[]
 | t::l=>t.er::erL l
end
theorem Zta:∀l:List T,erL l=l.map T.er
 | []=>rfl
 | t::l=>by simp only[erL,List.map_cons,Zta l]
@[simp] theorem ZxZ (t:T):t.er.k=t.k:=by cases t;rfl
@[simp] theorem ZxJ (t:T):t.er.s0=t.s0:=by cases t;rfl
@[simp] theorem ZxK (t:T):t.er.s1=t.s1:=by cases t;rfl
@[simp] theorem ZxL (t:T):t.er.s2=t.s2:=by cases t;rfl
@[simp] theorem ZxM (t:T):t.er.s3=t.s3:=by cases t;rfl
@[simp] theorem ZxN (t:T):t.er.mn=t.mn:=by cases t;rfl
@[simp] theorem ZxO (t:T):t.er.mx=t.mx:=by cases t;rfl
@[simp] theorem ZwZ (t:T):t.er.subs=t.subs.map T.er:=by cases t;simp only[T.er,T.subs,Zta]
end Go.Rx
namespace Go.Rx
open Go Go.Eng Go.RowKit
abbrev Re:=Nat→Nat→Prop
def pow(R:Re):Nat→Re
 | 0=>fun i j=>i=j
 | n+1=>fun i j=>∃m,R i m∧pow R n m j
theorem ZqT{R Q:Re}(h:∀i j,R i j→Q i j):∀n i j,pow R n i j→pow Q n i j
 | 0,_,_,e=>e
 | n+1,i,j,⟨m,h1,h2⟩=>⟨m,h _ _ h1,ZqT h n _ _ h2⟩
mutual
def T.M(s:List Nat):T→Re
 | .node k s0 s1 s2 s3 mn mx a c l=>fun i j=>
  if k=1 then i=j else if k=2 then j=i+1∧∃b,s[i]?=some b∧(T.node k s0 s1 s2 s3 mn mx a c l).hasB b=true
  else if k=3 then MC s l i j else if k=4 then MA s l i j
  else if k=5 then ∃n:Nat,mn.toNat≤n∧(mx=-1∨n≤mx.toNat)∧pow (MH s l) n i j
  else if k=6 then MH s l i j else False
def MC(s:List Nat):List T→Re
 | []=>fun i j=>i=j
 | t::l=>fun i j=>∃m,t.M s i m∧MC s l m j
def MA(s:List Nat):List T→Re
 | []=>fun _ _=>False
 | t::l=>fun i j=>t.M s i j∨MA s l i j
def MH(s:List Nat):List T→Re
 | []=>fun i j=>i=j
 | t::_=>t.M s
end
section
variable {s:List Nat}
end
def Fwd(R:Re):Prop:=∀i j,R i j→i≤j
def Sh(s s':List Nat)(R R':Re):Prop:=∀i j i',R i j→(∀p,i+p < j→s[i+p]?=s'[i'+p]?)→R' i' (i'+(j - i))
def Len(s:List Nat)(R:Re):Prop:=∀i j,R i j→i≤s.length→j≤s.length
structure Nice (s s':List Nat)(R R':Re):Prop where
 fwd:Fwd R
 sh:Sh s s' R R'
 len:Len s R
end Go.Rx
namespace Go.Rx
open Go Go.Eng Go.RowKit
set_option maxRecDepth 100000
end Go.Rx
namespace Go.Rx
open Go Go.Eng Go.RowKit
set_option maxRecDepth 100000
def Zwf(F n:Nat)(u:List Nat):List Nat:=(u.filter fun k:Nat=>decide ((k:Int) - F≤n)).map fun k=>k - F
end Go.Rx
namespace Go.Rx
open Go Go.Eng Go.RowKit
set_option maxRecDepth 100000
end Go.Rx
namespace Go.Rx
open Go Go.Eng Go.RowKit
set_option maxRecDepth 100000
end Go.Rx
namespace Go.Rx
open Go Go.Eng Go.RowKit
set_option maxRecDepth 100000
def Zcf(g:Nat→Bool)(n:Nat):List Nat:=(List.range n).map fun j=>if g j then 1 else 0
theorem ZbN(g:Nat→Bool)(n:Nat):(Zcf g n).length=n:=by simp[Zcf]
theorem Ziy(g:Nat→Bool){n j:Nat}(h:j < n):(Zcf g n)[j]?=some (if g j then 1 else 0):=by simp[Zcf,h]
theorem ZkG(g:Nat→Bool){n j:Nat}(h:j < n)(v:Bool):(Zcf g n).set j (if v then 1 else 0)=Zcf (fun x=>if x=j then v else g x) n:=by
 refine List.ext_getElem? fun i=>?_
 rw[List.getElem?_set]
 by_cases hi:i < n
 ·rw[Ziy _ hi,ZbN]
  by_cases e:j=i
  ·subst e;rw[Ziy _ hi];simp[h]
  ·rw[if_neg e,Ziy _ hi,if_neg (Ne.symm e)]
 ·rw[List.getElem?_eq_none_iff.2 (by rw[ZbN];omega),List.getElem?_eq_none_iff.2 (by rw[ZbN];omega),ZbN]
  by_cases e:j=i
  ·subst e;exact absurd h hi
  ·rw[if_neg e]
theorem Zbk{g h:Nat→Bool}{n:Nat}(e:∀j,j < n→g j=h j):Zcf g n=Zcf h n:=by
 unfold Zcf
 refine List.map_congr_left fun j hj=>?_
 rw[e j (List.mem_range.1 hj)]
theorem Zf8{l:List Value}{i:Nat}{v:Value}(h:i < l.length):Zan l i [v]=l.set i v:=by
 refine List.ext_getElem? fun j=>?_
 unfold Zan
 simp only[List.length_cons,List.length_nil]
 rw[List.getElem?_set]
 by_cases h1:j < i
 ·rw[List.append_assoc,List.getElem?_append_left (by rw[List.length_take];omega),List.getElem?_take,if_pos h1,if_neg (by omega)]
 ·rw[List.append_assoc,List.getElem?_append_right (by rw[List.length_take];omega),List.length_take,Nat.min_eq_left (by omega)]
  by_cases h2:j=i
  ·subst h2;simp[h]
  ·rw[List.getElem?_append_right (by simp;omega),if_neg (by omega),List.getElem?_drop]
   congr 1
   simp;omega
end Go.Rx
namespace Go.Rx
open Go Go.Eng Go.RowKit
set_option maxRecDepth 100000
def Zo8(q:QS)(c:Nat):Int:=if Zrh q c then 1 else 0
def ZbD(q:QS):List Value:=(List.range 256).map fun c=>Value.int .i64 (Zo8 q c)
theorem Zbl(q:QS):(ZbD q).length=256:=by simp[ZbD]
theorem Zf9(q:QS){c:Nat}(h:c < 256):(ZbD q)[c]?=some (.int .i64 (Zo8 q c)):=by simp[ZbD,h]
theorem ZlP(q:QS):∀u∈ZbD q,u.oneCell'=true:=by
 intro u hu
 obtain⟨c,_,rfl⟩:=List.mem_map.1 hu
 rfl
def Zhb(q:QS)(j:Nat):Int:=if j=0 then q.1 else if j=1 then q.2.1 else if j=2 then q.2.2.1 else q.2.2.2
theorem Zoe(q:QS)(c:Nat):Zrh q c=(Zhb q (c / 64)).toNat.testBit (c % 64):=rfl
theorem Zm4{q:QS}(h:QOk q)(j:Nat):0≤Zhb q j∧Zhb q j < 18446744073709551616:=by
 obtain⟨h0,h1,h2,h3⟩:=h
 unfold Zhb
 split
 ·exact h0
 ·split
  ·exact h1
  ·split
   ·exact h2
   ·exact h3
theorem Zvi(n i:Nat):n / 2 ^ i % 2=if n.testBit i then 1 else 0:=by
 rw[Nat.testBit_eq_decide_div_mod_eq]
 have:=Nat.mod_two_eq_zero_or_one (n / 2 ^ i)
 by_cases h:n / 2 ^ i % 2=1
 ·simp[h]
 ·have h0:n / 2 ^ i % 2=0:=by omega
  simp[h0]
theorem Zvj{q r:QS}(hq:QOk q)(hr:QOk r)(h:∀c,c < 256→Zrh q c=Zrh r c):q=r:=by
 have key:∀j,j < 4→Zhb q j=Zhb r j:=fun j hj=>by
  have a:=Zm4 hq j
  have b:=Zm4 hr j
  have e:(Zhb q j).toNat=(Zhb r j).toNat:=by
   apply Nat.eq_of_testBit_eq
   intro i
   by_cases hi:i < 64
   ·have:=h (64*j+i) (by omega)
    rw[Zoe,Zoe,show(64*j+i) / 64=j by omega,show(64*j+i) % 64=i by omega]at this
    exact this
   ·have p:2 ^ 64≤2 ^ i:=Nat.pow_le_pow_right (by omega) (by omega)
    rw[Nat.testBit_lt_two_pow (by omega),Nat.testBit_lt_two_pow (by omega)]
  omega
 obtain⟨q0,q1,q2,q3⟩:=q
 obtain⟨r0,r1,r2,r3⟩:=r
 have h0:=key 0 (by omega)
 have h1:=key 1 (by omega)
 have h2:=key 2 (by omega)
 have h3:=key 3 (by omega)
 simp only[Zhb]at h0 h1 h2 h3
 simp at h0 h1 h2 h3
 rw[h0,h1,h2,h3]
theorem ZpE{q r:QS}(hq:QOk q)(hr:QOk r)(h:ZbD q=ZbD r):q=r:=by
 refine Zvj hq hr fun c hc=>?_
 have h1:=Zf9 q hc
 rw[h,Zf9 r hc]at h1
 simp only[Option.some.injEq,Value.int.injEq,true_and,Zo8]at h1
 cases h2:Zrh q c <;> cases h3:Zrh r c <;> rw[h2,h3]at h1 <;> simp at h1 ⊢
theorem Zxo:QOk zQ:=by unfold QOk zQ;simp
theorem Zvk(c:Nat):Zrh zQ c=false:=by
 rw[Zoe]
 have:Zhb zQ (c / 64)=0:=by unfold Zhb zQ;simp
 rw[this];simp
def ZuF(q:QS):Nat→Int
 | 0=>0
 | n+1=>ZuF q n+Zo8 q n
theorem ZqU(q:QS)(c:Nat):0≤Zo8 q c∧Zo8 q c≤1:=by unfold Zo8;split <;> omega
theorem ZqV(q:QS):∀n:Nat,0≤ZuF q n∧ZuF q n≤n
 | 0=>by simp[ZuF]
 | n+1=>by have:=ZqV q n;have:=ZqU q n;simp only[ZuF];omega
theorem Zof(q:QS):∀n:Nat,ZuF q n=0↔∀c,c < n→Zrh q c=false
 | 0=>by simp[ZuF]
 | n+1=>by
  have h1:=ZqV q n
  have h2:=ZqU q n
  have ih:=Zof q n
  have hb:Zo8 q n=0↔Zrh q n=false:=by unfold Zo8;cases Zrh q n <;> simp
  simp only[ZuF]
  constructor
  ·intro h c hc
   by_cases e:c=n
   ·subst e;exact hb.1 (by omega)
   ·exact ih.1 (by omega) c (by omega)
  ·intro h
   have a:=ih.2 fun c hc=>h c (by omega)
   have b:=hb.2 (h n (by omega))
   omega
theorem Zog{q:QS}(hq:QOk q):ZuF q 256=0↔q=zQ:=by
 rw[Zof]
 constructor
 ·intro h
  exact Zvj hq Zxo fun c hc=>by rw[h c hc,Zvk]
 ·rintro rfl c _;exact Zvk c
theorem ZqW{l:List Int}{lo hi:Int}(h:ZbG l lo hi=true){k:Nat}{v:Int}(hv:l[k]?=some v):lo < v∧v≤hi∧∀u,0 < k→l[k - 1]?=some u→u < v:=by
 obtain⟨hp,hb⟩:=Zce.1 h
 have hb:=hb v (List.mem_of_getElem? hv)
 refine⟨hb.1,hb.2,fun u hk hu=>?_⟩
 obtain⟨h1,e1⟩:=List.getElem?_eq_some_iff.1 hv
 obtain⟨h2,e2⟩:=List.getElem?_eq_some_iff.1 hu
 have:=List.pairwise_iff_getElem.1 hp (k - 1) k h2 h1 (by omega)
 rw[e1,e2]at this;exact this
theorem Zr8{l:List Int}{lo hi:Int}{k:Nat}{v:Int}(hv:l[k]?=some v)(h:ZbG (l.take k) lo hi=true)(h1:lo < v)(h2:v≤hi)(h3:∀u,0 < k→l[k - 1]?=some u→u < v):ZbG (l.take (k+1)) lo hi=true:=by
 obtain⟨hp,hb⟩:=Zce.1 h
 have e:l.take (k+1)=l.take k++[v]:=by rw[List.take_add_one,hv];rfl
 rw[e,Zce,List.pairwise_append]
 refine⟨⟨hp,by simp,fun x hx y hy=>?_⟩,fun x hx=>?_⟩
 ·rw[List.mem_singleton]at hy;subst hy
  obtain⟨i,hi'⟩:=List.getElem?_of_mem hx
  have qJ:i < k:=by have:=(List.getElem?_eq_some_iff.1 hi').1;simp at this;omega
  have mH:=(List.getElem?_eq_some_iff.1 hv).1
  obtain⟨u,hu⟩:∃u,l[k - 1]?=some u:=⟨_,List.getElem?_eq_getElem (by omega)⟩
  have wp:=h3 u (by omega) hu
  by_cases e2:i=k - 1
  ·subst e2
   rw[List.getElem?_take,if_pos qJ]at hi'
   rw[hi']at hu;cases hu;exact wp
  ·have hu':(l.take k)[k - 1]?=some u:=by rw[List.getElem?_take,if_pos (by omega)];exact hu
   obtain⟨a1,b1⟩:=List.getElem?_eq_some_iff.1 hi'
   obtain⟨a2,b2⟩:=List.getElem?_eq_some_iff.1 hu'
   have:=List.pairwise_iff_getElem.1 hp i (k - 1) a1 a2 (by omega)
   rw[b1,b2]at this;omega
 ·rcases List.mem_append.1 hx with hx|hx
  ·exact hb x hx
  ·rw[List.mem_singleton]at hx;subst hx;exact⟨h1,h2⟩
def Zcg(g:Nat→Bool)(n:Nat):List Int:=((List.range n).filter g).map fun i:Nat=>(i:Int)
theorem ZlQ(g:Nat→Bool)(n:Nat):Zcg g (n+1)=Zcg g n++if g n then[(n:Int)]else[]:=by
 unfold Zcg
 rw[List.range_succ,List.filter_append,List.map_append]
 congr 1
 rw[List.filter_cons]
 cases g n <;> rfl
theorem Zoh(g:Nat→Bool)(n:Nat):(Zcg g n).length≤n:=by
 unfold Zcg
 rw[List.length_map]
 exact Nat.le_trans (List.length_filter_le _ _) (by simp)
theorem Zoi{g:Nat→Bool}{n:Nat}{x:Int}:x∈Zcg g n↔∃i:Nat,i < n∧g i=true∧x=i:=by
 unfold Zcg
 simp only[List.mem_map,List.mem_filter,List.mem_range]
 constructor
 ·rintro⟨i,⟨h1,h2⟩,rfl⟩;exact⟨i,h1,h2,rfl⟩
 ·rintro⟨i,h1,h2,rfl⟩;exact⟨i,⟨h1,h2⟩,rfl⟩
theorem ZhM(g:Nat→Bool)(n:Nat):(Zcg g n).Pairwise (· < ·):=by
 unfold Zcg
 rw[List.pairwise_map]
 exact(List.pairwise_lt_range.filter _).imp fun h=>by omega
theorem ZgH:∀(l l':List Int),l.Pairwise (· < ·)→l'.Pairwise (· < ·)→(∀x,x∈l↔x∈l')→l=l'
 | [],[],_,_,_=>rfl
 | [],y::l',_,_,h=>by have:=(h y).2 (by simp);simp at this
 | x::l,[],_,_,h=>by have:=(h x).1 (by simp);simp at this
 | x::l,y::l',h1,h2,h=>by
  rw[List.pairwise_cons]at h1 h2
  have e:x=y:=by
   have a:=(h x).1 (by simp)
   have b:=(h y).2 (by simp)
   rcases List.mem_cons.1 a with a|a
   ·exact a
   ·rcases List.mem_cons.1 b with b|b
    ·exact b.symm
    ·have:=h1.1 y b;have:=h2.1 x a;omega
  subst e
  rw[ZgH l l' h1.2 h2.2 fun z=>?_]
  constructor
  ·intro hz
   rcases List.mem_cons.1 ((h z).1 (by simp[hz]))with e|e
   ·subst e;have:=h1.1 z hz;omega
   ·exact e
  ·intro hz
   rcases List.mem_cons.1 ((h z).2 (by simp[hz]))with e|e
   ·subst e;have:=h2.1 z hz;omega
   ·exact e
noncomputable def Zlf(A:Nf)(l:List Int)(c i k:Nat):Nat→Bool:=open Classical in fun x=>decide (((∃p∈l.take i,(x:Int)∈A.fromL p)∨∃p,l[i]?=some p∧(x:Int)∈(A.fromL p).take k)∧A.hasAt x c=true)
theorem ZdJ{A:Nf}{l:List Int}{c i k x:Nat}:Zlf A l c i k x=true↔(((∃p∈l.take i,(x:Int)∈A.fromL p)∨∃p,l[i]?=some p∧(x:Int)∈(A.fromL p).take k)∧A.hasAt x c=true):=by unfold Zlf;simp
theorem ZpF(A:Nf)(l:List Int)(c n:Nat):Zcf (fun _=>false) n=Zcf (Zlf A l c 0 0) n:=by
 refine Zbk fun x hx=>?_
 rw[Bool.eq_iff_iff,ZdJ]
 simp
theorem Zr9{A:Nf}{l:List Int}{c i n:Nat}{p:Int}(hp:l[i]?=some p):Zcf (Zlf A l c i (A.fromL p).length) n=Zcf (Zlf A l c (i+1) 0) n:=by
 refine Zbk fun x hx=>?_
 rw[Bool.eq_iff_iff,ZdJ,ZdJ]
 have e:l.take (i+1)=l.take i++[p]:=by rw[List.take_add_one,hp];rfl
 rw[e]
 simp only[List.mem_append,List.mem_singleton,List.take_zero,List.not_mem_nil,and_false,exists_false,or_false]
 constructor
 ·rintro⟨⟨r,h1,h2⟩|⟨r,h1,h2⟩,h3⟩
  ·exact⟨⟨r,.inl h1,h2⟩,h3⟩
  ·rw[hp]at h1;cases h1
   rw[List.take_length]at h2
   exact⟨⟨p,.inr rfl,h2⟩,h3⟩
 ·rintro⟨⟨r,h1|h1,h2⟩,h3⟩
  ·exact⟨.inl ⟨r,h1,h2⟩,h3⟩
  ·subst h1
   exact⟨.inr ⟨r,hp,by rw[List.take_length];exact h2⟩,h3⟩
theorem ZqX{A:Nf}{l:List Int}{c i k n q:Nat}{p:Int}(hp:l[i]?=some p)(hk:(A.fromL p)[k]?=some (q:Int))(hq:q < n)(hh:A.hasAt q c=true):(Zcf (Zlf A l c i k) n).set q 1=Zcf (Zlf A l c i (k+1)) n:=by
 have e1:=ZkG (Zlf A l c i k) hq true
 rw[if_pos rfl]at e1
 rw[e1]
 refine Zbk fun x hx=>?_
 have e:(A.fromL p).take (k+1)=(A.fromL p).take k++[(q:Int)]:=by rw[List.take_add_one,hk];rfl
 rw[Bool.eq_iff_iff,ZdJ]
 by_cases ex:x=q
 ·subst ex
  simp only[if_true,true_iff]
  exact⟨.inr ⟨p,hp,by rw[e];simp⟩,hh⟩
 ·rw[if_neg ex,ZdJ]
  have:∀r,l[i]?=some r→((x:Int)∈(A.fromL r).take (k+1)↔(x:Int)∈(A.fromL r).take k):=fun r hr=>by
   rw[hp]at hr;cases hr
   rw[e];simp;omega
  constructor
  ·rintro⟨h1|⟨r,h1,h2⟩,h3⟩
   ·exact⟨.inl h1,h3⟩
   ·exact⟨.inr ⟨r,h1,(this r h1).2 h2⟩,h3⟩
  ·rintro⟨h1|⟨r,h1,h2⟩,h3⟩
   ·exact⟨.inl h1,h3⟩
   ·exact⟨.inr ⟨r,h1,(this r h1).1 h2⟩,h3⟩
theorem Zoj{A:Nf}{l:List Int}{c i k n q:Nat}{p:Int}(hp:l[i]?=some p)(hk:(A.fromL p)[k]?=some (q:Int))(hh:A.hasAt q c=false):Zcf (Zlf A l c i k) n=Zcf (Zlf A l c i (k+1)) n:=by
 refine Zbk fun x hx=>?_
 have e:(A.fromL p).take (k+1)=(A.fromL p).take k++[(q:Int)]:=by rw[List.take_add_one,hk];rfl
 rw[Bool.eq_iff_iff,ZdJ,ZdJ]
 have key:A.hasAt x c=true→∀r,l[i]?=some r→((x:Int)∈(A.fromL r).take (k+1)↔(x:Int)∈(A.fromL r).take k):=fun hx r hr=>by
  rw[hp]at hr;cases hr
  rw[e]
  have:(x:Int)≠q:=fun ee=>by rw[ee,hh]at hx;cases hx
  simp[this]
 constructor
 ·rintro⟨h1|⟨r,h1,h2⟩,h3⟩
  ·exact⟨.inl h1,h3⟩
  ·exact⟨.inr ⟨r,h1,(key h3 r h1).2 h2⟩,h3⟩
 ·rintro⟨h1|⟨r,h1,h2⟩,h3⟩
  ·exact⟨.inl h1,h3⟩
  ·exact⟨.inr ⟨r,h1,(key h3 r h1).1 h2⟩,h3⟩
theorem ZtT{A:Nf}(hA:A.Ok)(l:List Int)(c:Nat):Zcg (Zlf A l c l.length 0) A.sets.length=A.step l c:=by
 refine ZgH _ _ (ZhM _ _) (ZhI _) fun x=>?_
 rw[Zoi,Zfj hA]
 constructor
 ·rintro⟨i,h1,h2,rfl⟩
  obtain⟨⟨r,h3,h4⟩|⟨r,h3,h4⟩,h5⟩:=ZdJ.1 h2
  ·rw[List.take_length]at h3;exact⟨by omega,⟨r,h3,h4⟩,h5⟩
  ·rw[List.take_zero]at h4;cases h4
 ·rintro⟨h0,⟨p,h1,h2⟩,h3⟩
  obtain⟨i,rfl⟩:∃i:Nat,x=i:=⟨x.toNat,by omega⟩
  refine⟨i,?_,ZdJ.2 ⟨.inl ⟨p,by rw[List.take_length];exact h1,h2⟩,h3⟩,rfl⟩
  have hb:(i:Int)≤A.top:=by
   unfold Nf.fromL at h2
   split at h2
   ·exact(hA.first.2 _ h2).2
   ·cases hl:A.fol[p.toNat]? with
    | none=>rw[hl]at h2;cases h2
    | some r=>rw[hl]at h2;exact((hA.fol r (List.mem_of_getElem? hl)).2 _ h2).2
  unfold Nf.top at hb;omega
end Go.Rx
namespace Go.Rx
open Go Go.Eng Go.RowKit
theorem ZtU{A:Nf}(hA:A.Ok){q:Int}(h:0≤q):A.acc1 q=true↔q∈A.last:=by
 unfold Nf.acc1
 rw[if_neg (by omega),ZqN _ _ _ (fun p hp=>by have:=(hA.last.2 p hp).1;omega),show((q.toNat:Nat):Int)=q by omega]
 simp
end Go.Rx
namespace Go.Rx
open Go Go.Eng Go.RowKit
def Zmp(f:Nat):Nat:=((List.range 448).filter fun i=>!f.testBit i).length
theorem ZkH{α:Type}{p p':α→Bool}:∀{l:List α} {x:α},(∀y,p' y=true→p y=true)→x∈l→p x=true→p' x=false→(l.filter p').length+1≤(l.filter p).length
 | [],x,_,h,_,_=>by simp at h
 | y::l,x,lm,h,h1,h2=>by
  have cP:∀l:List α,(l.filter p').length≤(l.filter p).length:=fun l=>by
   induction l with
   | nil=>simp
   | cons z l ih=>
    simp only[List.filter_cons]
    by_cases hz:p' z=true
    ·rw[if_pos hz,if_pos (lm z hz)];simp;exact ih
    ·rw[if_neg hz];split
     ·simp;omega
     ·exact ih
  simp only[List.filter_cons]
  rcases List.mem_cons.1 h with rfl|h
  ·rw[if_pos h1,if_neg (by simp[h2])]
   have:=cP l
   simp;omega
  ·have ih:=ZkH lm h h1 h2
   by_cases hz:p' y=true
   ·rw[if_pos hz,if_pos (lm y hz)];simp;omega
   ·rw[if_neg hz];split
    ·simp;omega
    ·exact ih
theorem ZpG{f i:Nat}(hi:i < 448)(h:f.testBit i=false):Zmp (f|||2 ^ i)+1≤Zmp f:=by
 unfold Zmp
 refine ZkH (x:=i) (fun y hy=>?_) (by simp[hi]) (by simp[h]) (by simp[Nat.testBit_or,Nat.testBit_two_pow])
 simp only[Bool.not_eq_true',Nat.testBit_or,Bool.or_eq_false_iff]at hy ⊢
 exact hy.1
theorem Zsa(f:Nat):Zmp f≤448:=by
 unfold Zmp
 exact Nat.le_trans (List.length_filter_le _ _) (by simp)
structure Seek (A:Nf)(todo:List Int)(f:Nat):Prop where
 rng:∀x∈todo,0≤x∧x≤A.top∧A.Reach x.toNat
 in_:∀i,f.testBit i=true→A.Reach i
 first:∀x∈A.first,x∈todo∨f.testBit x.toNat=true
 fol:∀(i:Nat)(l:List Int),f.testBit i=true→A.fol[i]?=some l→∀x∈l,x∈todo∨f.testBit x.toNat=true
theorem Seek.start{A:Nf}(hA:A.Ok):Seek A A.first 0:=by
 refine⟨fun x hx=>?_,fun i hi=>by simp at hi,fun x hx=>.inl hx,fun i l hi=>by simp at hi⟩
 have:=hA.first.2 x hx
 exact⟨by omega,this.2,.first (by rw[show((x.toNat:Nat):Int)=x by omega];exact hx)⟩
theorem Seek.skip{A:Nf}{x:Int}{todo:List Int}{f:Nat}(h:Seek A (x::todo) f)(hx:f.testBit x.toNat=true):Seek A todo f:=by
 refine⟨fun y hy=>h.rng y (by simp[hy]),h.in_,fun y hy=>?_,fun i l hi hl y hy=>?_⟩
 ·rcases h.first y hy with h1|h1
  ·rcases List.mem_cons.1 h1 with rfl|h1
   ·exact .inr hx
   ·exact .inl h1
  ·exact .inr h1
 ·rcases h.fol i l hi hl y hy with h1|h1
  ·rcases List.mem_cons.1 h1 with rfl|h1
   ·exact .inr hx
   ·exact .inl h1
  ·exact .inr h1
theorem Seek.take{A:Nf}(hA:A.Ok){x:Int}{todo l:List Int}{f:Nat}(h:Seek A (x::todo) f)(hl:A.fol[x.toNat]?=some l):Seek A (todo++l) (f|||2 ^ x.toNat):=by
 have hx:=h.rng x (by simp)
 have gG:∀i,(f|||2 ^ x.toNat).testBit i=true↔f.testBit i=true∨i=x.toNat:=fun i=>by
  simp only[Nat.testBit_or,Bool.or_eq_true,Nat.testBit_two_pow,decide_eq_true_eq]
  exact⟨fun h=>h.imp_right Eq.symm,fun h=>h.imp_right Eq.symm⟩
 refine⟨fun y hy=>?_,fun i hi=>?_,fun y hy=>?_,fun i r hi hr y hy=>?_⟩
 ·rcases List.mem_append.1 hy with hy|hy
  ·exact h.rng y (by simp[hy])
  ·have hb:=(hA.fol l (List.mem_of_getElem? hl)).2 y hy
   exact⟨by omega,hb.2,.fol hx.2.2 hl (by rw[show((y.toNat:Nat):Int)=y by omega];exact hy)⟩
 ·rcases(gG i).1 hi with h1|rfl
  ·exact h.in_ i h1
  ·exact hx.2.2
 ·rcases h.first y hy with h1|h1
  ·rcases List.mem_cons.1 h1 with rfl|h1
   ·exact .inr ((gG _).2 (.inr rfl))
   ·exact .inl (by simp[h1])
  ·exact .inr ((gG _).2 (.inl h1))
 ·rcases(gG i).1 hi with h1|rfl
  ·rcases h.fol i r h1 hr y hy with h2|h2
   ·rcases List.mem_cons.1 h2 with rfl|h2
    ·exact .inr ((gG _).2 (.inr rfl))
    ·exact .inl (by simp[h2])
   ·exact .inr ((gG _).2 (.inl h2))
  ·rw[hl]at hr;cases hr
   exact .inl (by simp[hy])
theorem Seek.done{A:Nf}(hA:A.Ok){f:Nat}(h:Seek A [] f)(i:Nat):f.testBit i=true↔A.Reach i:=by
 refine⟨h.in_ i,fun hr=>?_⟩
 induction hr with
 | first hp=>
  rcases h.first _ hp with h1|h1
  ·simp at h1
  ·simpa using h1
 | fol _ hl hq ih=>
  rcases h.fol _ _ ih hl _ hq with h1|h1
  ·simp at h1
  ·simpa using h1
end Go.Rx
namespace Go.Rx
open Go Go.Eng Go.RowKit
inductive Vw (E H:Nat→Nat→Prop):Nat→Nat→Nat→Nat→Prop
 | one {p i:Nat} (h:H p i):Vw E H p i p (i+1)
 | step {p i r q j:Nat} (h:H p i) (e:E p r) (k:Vw E H r (i+1) q j):Vw E H p i q j
theorem Vw.mono{E E' H H':Nat→Nat→Prop}{D:Nat→Prop}(hE:∀p r,D p→E p r→E' p r∧D r)(hH:∀p i,D p→H p i→H' p i){p i q j:Nat}(h:Vw E H p i q j):D p→Vw E' H' p i q j∧D q:=by
 induction h with
 | one h=>exact fun hd=>⟨.one (hH _ _ hd h),hd⟩
 | step h e _ ih=>exact fun hd=>⟨.step (hH _ _ hd h) (hE _ _ hd e).1 (ih (hE _ _ hd e).2).1,(ih (hE _ _ hd e).2).2⟩
theorem Vw.trans{E H:Nat→Nat→Prop}{p i q m r q' j:Nat}(h:Vw E H p i q m)(e:E q r)(k:Vw E H r m q' j):Vw E H p i q' j:=by
 induction h with
 | one h=>exact .step h e k
 | step h e1 _ ih=>exact .step h e1 (ih e k)
theorem Vw.split{E E' H:Nat→Nat→Prop}{D1 D2 L1 F2:Nat→Prop}(h1:∀p r,D1 p→E' p r→(E p r∧D1 r)∨(L1 p∧F2 r))(hF:∀r,F2 r→D2 r)(h2:∀p r,D2 p→E' p r→E p r∧D2 r){p i q j:Nat}(h:Vw E' H p i q j):
  D1 p→(D1 q∧Vw E H p i q j)∨∃l f m,L1 l∧F2 f∧D1 l∧D2 q∧Vw E H p i l m∧Vw E H f m q j:=by
 induction h with
 | one h=>exact fun hd=>.inl ⟨hd,.one h⟩
 | @step p i r q j h e k ih=>
  intro hd
  rcases h1 _ _ hd e with⟨e1,hr⟩|⟨hl,hf⟩
  ·rcases ih hr with⟨g1,g2⟩|⟨l,f,m,g1,g2,g3,g4,g5,g6⟩
   ·exact .inl ⟨g1,.step h e1 g2⟩
   ·exact .inr ⟨l,f,m,g1,g2,g3,g4,.step h e1 g5,g6⟩
  ·obtain⟨g1,g2⟩:=k.mono (E':=E) (H':=H) (D:=D2) h2 (fun _ _ _ h=>h) (hF r hf)
   exact .inr ⟨p,r,i+1,hl,hf,hd,g2,.one h,g1⟩
def Seg(E H:Nat→Nat→Prop)(F L:Nat→Prop):Re:=fun i j=>∃p q,F p∧L q∧Vw E H p i q j
theorem Vw.rounds{E E' H:Nat→Nat→Prop}{D F L:Nat→Prop}(h1:∀p r,D p→E' p r→(E p r∧D r)∨(L p∧F r))(hF:∀r,F r→D r){p i q j:Nat}(h:Vw E' H p i q j):
  D p→L q→∃l m n,Vw E H p i l m∧L l∧pow (Seg E H F L) n m j:=by
 induction h with
 | @one p i h=>exact fun _ hl=>⟨p,i+1,0,.one h,hl,rfl⟩
 | @step p i r q j h e k ih=>
  intro hd hl
  rcases h1 _ _ hd e with⟨e1,hr⟩|⟨hp,hf⟩
  ·obtain⟨l,m,n,g1,g2,g3⟩:=ih hr hl
   exact⟨l,m,n,.step h e1 g1,g2,g3⟩
  ·obtain⟨l,m,n,g1,g2,g3⟩:=ih (hF r hf) hl
   exact⟨p,i+1,n+1,.one h,hp,m,⟨r,l,hf,g2,g1⟩,g3⟩
theorem Zok{E E' H:Nat→Nat→Prop}{D F L:Nat→Prop}(hE:∀p r,D p→E p r→E' p r∧D r)(uF:∀p r,L p→F r→E' p r)(hF:∀r,F r→D r):∀(n:Nat){p i l m j:Nat},D p→Vw E H p i l m→L l→pow (Seg E H F L) n m j→∃q,L q∧Vw E' H p i q j
 | 0,p,i,l,m,j,hd,h,hl,e=>by
  have e':m=j:=e
  subst e'
  exact⟨l,hl,(h.mono hE (fun _ _ _ h=>h) hd).1⟩
 | n+1,p,i,l,m,j,hd,h,hl,⟨m2,⟨f,l2,hf,jA,h2⟩,h3⟩=>by
  obtain⟨q,hq,h4⟩:=Zok hE uF hF n (hF f hf) h2 jA h3
  exact⟨q,hq,(h.mono hE (fun _ _ _ h=>h) hd).1.trans (uF l f hl hf) h4⟩
def Est(st:Ms)(p r:Nat):Prop:=∃x,st.fol[p]?=some x∧x.testBit r=true
def Hst(s:List Nat)(st:Ms)(p i:Nat):Prop:=∃q c,st.sets[p]?=some q∧s[i]?=some c∧Zrh q c=true
structure Ext (st st':Ms):Prop where
 sets:∀(p:Nat)(q:QS),st.sets[p]?=some q→st'.sets[p]?=some q
 fol:∀(p x:Nat),st.fol[p]?=some x→st'.fol[p]?=some x
theorem Ext.refl(st:Ms):Ext st st:=⟨fun _ _ h=>h,fun _ _ h=>h⟩
theorem Ext.trans{a b c:Ms}(h:Ext a b)(k:Ext b c):Ext a c:=⟨fun p q e=>k.sets p q (h.sets p q e),fun p x e=>k.fol p x (h.fol p x e)⟩
theorem ZkI{fol:List Nat}{a b p:Nat}:(ZbZ fol a b)[p]?=(fol[p]?).map fun x=>if a.testBit p then x|||b else x:=by
 simp[ZbZ,List.getElem?_mapIdx]
structure Comp (s:List Nat)(n0:Nat)(st:Ms)(P:Pt)(R:Re):Prop where
 ok:MsOk st
 le:n0≤st.sets.length
 pin:PtIn st.sets.length P
 fst:∀p,P.first.testBit p=true→n0≤p
 lst:∀p,P.last.testBit p=true→n0≤p
 edge:∀p r,n0≤p→Est st p r→n0≤r
 lang:∀i j,R i j↔(P.null=true∧i=j)∨Seg (Est st) (Hst s st) (fun p=>P.first.testBit p=true) (fun p=>P.last.testBit p=true) i j
theorem Zsb{st:Ms}(h:MsOk st){p r:Nat}(e:Est st p r):p < st.sets.length∧r < st.sets.length:=by
 obtain⟨x,h1,h2⟩:=e
 exact⟨by rw[←h.len];exact(List.getElem?_eq_some_iff.1 h1).1,h.fol p x h1 r h2⟩
theorem Comp.congr{s:List Nat}{n0:Nat}{st:Ms}{P:Pt}{R R':Re}(h:Comp s n0 st P R)(e:∀i j,R' i j↔R i j):Comp s n0 st P R':=⟨h.ok,h.le,h.pin,h.fst,h.lst,h.edge,fun i j=>(e i j).trans (h.lang i j)⟩
theorem Comp.seq{s:List Nat}{n0:Nat}{st1 st2:Ms}{P X:Pt}{R1 R2:Re}(h1:Comp s n0 st1 P R1)(h2:Comp s st1.sets.length st2 X R2)(hx:Ext st1 st2):Comp s n0 (Zcd P X st2).2 (Zcd P X st2).1 (fun i j=>∃m,R1 i m∧R2 m j):=by
 have bN:st1.sets.length≤st2.sets.length:=h2.le
 have ss:MsOk (Zcd P X st2).2:=h2.ok.loop _ _ h2.pin.1
 have oD:∀p r,Est (Zcd P X st2).2 p r↔Est st2 p r∨(p < st2.sets.length∧P.last.testBit p=true∧X.first.testBit r=true):=fun p r=>by
  unfold Est
  simp only[Zcd,ZkI]
  constructor
  ·rintro⟨x,h3,h4⟩
   obtain⟨y,hy,rfl⟩:=Option.map_eq_some_iff.1 h3
   have hp:p < st2.sets.length:=by rw[←h2.ok.len];exact(List.getElem?_eq_some_iff.1 hy).1
   by_cases hl:P.last.testBit p=true
   ·rw[if_pos hl]at h4
    rcases ZhG h4 with h5|h5
    ·exact .inl ⟨y,hy,h5⟩
    ·exact .inr ⟨hp,hl,h5⟩
   ·rw[if_neg hl]at h4;exact .inl ⟨y,hy,h4⟩
  ·rintro(⟨x,h3,h4⟩|⟨hp,hl,h4⟩)
   ·refine⟨_,by rw[h3];rfl,?_⟩
    split
    ·simp[Nat.testBit_or,h4]
    ·exact h4
   ·obtain⟨y,hy⟩:∃y,st2.fol[p]?=some y:=⟨_,List.getElem?_eq_getElem (by rw[h2.ok.len];exact hp)⟩
    exact⟨_,by rw[hy];rfl,by simp only[if_pos hl];simp[Nat.testBit_or,h4]⟩
 have xG:∀p i,Hst s (Zcd P X st2).2 p i↔Hst s st2 p i:=fun p i=>Iff.rfl
 have e12:∀p r,p < st1.sets.length→(Est st2 p r↔Est st1 p r):=fun p r hp=>by
  obtain⟨y,hy⟩:∃y,st1.fol[p]?=some y:=⟨_,List.getElem?_eq_getElem (by rw[h1.ok.len];exact hp)⟩
  constructor
  ·rintro⟨x,h3,h4⟩
   rw[hx.fol p y hy]at h3;cases h3
   exact⟨y,hy,h4⟩
  ·rintro⟨x,h3,h4⟩;exact⟨x,hx.fol p x h3,h4⟩
 have H12:∀p i,p < st1.sets.length→(Hst s st2 p i↔Hst s st1 p i):=fun p i hp=>by
  obtain⟨y,hy⟩:∃y,st1.sets[p]?=some y:=⟨_,List.getElem?_eq_getElem hp⟩
  constructor
  ·rintro⟨q,c,h3,h4⟩
   rw[hx.sets p y hy]at h3;cases h3
   exact⟨y,c,hy,h4⟩
  ·rintro⟨q,c,h3,h4⟩;exact⟨q,c,hx.sets p q h3,h4⟩
 let D1:Nat→Prop:=fun p=>n0≤p∧p < st1.sets.length
 let D2:Nat→Prop:=fun p=>st1.sets.length≤p
 have a1:∀p r,D1 p→Est (Zcd P X st2).2 p r→(Est st2 p r∧D1 r)∨(P.last.testBit p=true∧X.first.testBit r=true):=fun p r hd he=>by
  rcases(oD p r).1 he with h3|h3
  ·have h4:=(e12 p r hd.2).1 h3
   exact .inl ⟨h3,h1.edge p r hd.1 h4,(Zsb h1.ok h4).2⟩
  ·exact .inr h3.2
 have a2:∀p r,D2 p→Est (Zcd P X st2).2 p r→Est st2 p r∧D2 r:=fun p r hd he=>by
  rcases(oD p r).1 he with h3|h3
  ·exact⟨h3,h2.edge p r hd h3⟩
  ·have:=h1.pin.2 p h3.2.1
   exact absurd this (by have:st1.sets.length≤p:=hd;omega)
 have aF:∀r,X.first.testBit r=true→D2 r:=fun r hr=>h2.fst r hr
 have w1:∀{p i q j},D1 p→(Vw (Est st2) (Hst s st2) p i q j↔Vw (Est st1) (Hst s st1) p i q j):=fun {p i q j} hd=>
  ⟨fun h=>(h.mono (D:=D1) (fun p r hd he=>by have h4:=(e12 p r hd.2).1 he;exact⟨h4,h1.edge p r hd.1 h4,(Zsb h1.ok h4).2⟩) (fun p i hd h=>(H12 p i hd.2).1 h) hd).1,
   fun h=>(h.mono (D:=D1) (fun p r hd he=>⟨(e12 p r hd.2).2 he,h1.edge p r hd.1 he,(Zsb h1.ok he).2⟩) (fun p i hd h=>(H12 p i hd.2).2 h) hd).1⟩
 have up1:∀{p i q j},D1 p→Vw (Est st1) (Hst s st1) p i q j→Vw (Est (Zcd P X st2).2) (Hst s (Zcd P X st2).2) p i q j:=fun {p i q j} hd h=>
  (((w1 hd).2 h).mono (D:=D1) (fun p r hd he=>⟨(oD p r).2 (.inl he),by have h4:=(e12 p r hd.2).1 he;exact⟨h1.edge p r hd.1 h4,(Zsb h1.ok h4).2⟩⟩) (fun p i _ h=>h) hd).1
 have up2:∀{p i q j},D2 p→Vw (Est st2) (Hst s st2) p i q j→Vw (Est (Zcd P X st2).2) (Hst s (Zcd P X st2).2) p i q j:=fun {p i q j} hd h=>
  (h.mono (D:=D2) (fun p r hd he=>⟨(oD p r).2 (.inl he),h2.edge p r hd he⟩) (fun p i _ h=>h) hd).1
 have d1f:∀p,P.first.testBit p=true→D1 p:=fun p hp=>⟨h1.fst p hp,h1.pin.1 p hp⟩
 have d1l:∀p,P.last.testBit p=true→D1 p:=fun p hp=>⟨h1.lst p hp,h1.pin.2 p hp⟩
 have gU:∀p,(ZmQ P X).first.testBit p=true↔P.first.testBit p=true∨(P.null=true∧X.first.testBit p=true):=fun p=>by
  unfold ZmQ
  cases P.null <;> simp[Nat.testBit_or]
 have dB:∀p,(ZmQ P X).last.testBit p=true↔X.last.testBit p=true∨(X.null=true∧P.last.testBit p=true):=fun p=>by
  unfold ZmQ
  cases X.null <;> simp[Nat.testBit_or]
 refine⟨ss,Nat.le_trans h1.le bN,ZqL (h1.pin.mono bN) h2.pin,fun p hp=>?_,fun p hp=>?_,fun p r hp he=>?_,fun i j=>?_⟩
 ·rcases(gU p).1 hp with h|⟨_,h⟩
  ·exact h1.fst p h
  ·exact Nat.le_trans h1.le (h2.fst p h)
 ·rcases(dB p).1 hp with h|⟨_,h⟩
  ·exact Nat.le_trans h1.le (h2.lst p h)
  ·exact h1.lst p h
 ·rcases(oD p r).1 he with h|⟨_,_,h⟩
  ·by_cases iG:p < st1.sets.length
   ·exact h1.edge p r hp ((e12 p r iG).1 h)
   ·exact Nat.le_trans h1.le (h2.edge p r (by omega) h)
  ·exact Nat.le_trans h1.le (h2.fst r h)
 ·constructor
  ·rintro⟨m,g1,g2⟩
   rcases(h1.lang i m).1 g1 with⟨n1,rfl⟩|⟨p,q,hp,hq,hv⟩
   ·rcases(h2.lang i j).1 g2 with⟨n2,rfl⟩|⟨p2,q2,dM,jy,jR⟩
    ·exact .inl ⟨by show(P.null&&X.null)=true;rw[n1,n2];rfl,rfl⟩
    ·exact .inr ⟨p2,q2,(gU _).2 (.inr ⟨n1,dM⟩),(dB _).2 (.inl jy),up2 (aF _ dM) jR⟩
   ·rcases(h2.lang m j).1 g2 with⟨n2,rfl⟩|⟨p2,q2,dM,jy,jR⟩
    ·exact .inr ⟨p,q,(gU _).2 (.inl hp),(dB _).2 (.inr ⟨n2,hq⟩),up1 (d1f _ hp) hv⟩
    ·exact .inr ⟨p,q2,(gU _).2 (.inl hp),(dB _).2 (.inl jy),(up1 (d1f _ hp) hv).trans ((oD q p2).2 (.inr ⟨by have:=(d1l q hq).2;omega,hq,dM⟩)) (up2 (aF _ dM) jR)⟩
  ·rintro(⟨hn,rfl⟩|⟨p,q,hp,hq,hv⟩)
   ·have hn':(P.null&&X.null)=true:=hn
    rw[Bool.and_eq_true]at hn'
    exact⟨i,(h1.lang i i).2 (.inl ⟨hn'.1,rfl⟩),(h2.lang i i).2 (.inl ⟨hn'.2,rfl⟩)⟩
   ·rcases(gU p).1 hp with iG|⟨n1,dM⟩
    ·rcases hv.split (E:=Est st2) (D1:=D1) (D2:=D2) a1 aF a2 (d1f p iG)with⟨px,lE⟩|⟨l,f,m,hl,hf,mN,px,wq,wt⟩
     ·rcases(dB q).1 hq with jy|⟨n2,iC⟩
      ·exact absurd (h2.lst q jy) (by have:=px.2;omega)
      ·exact⟨j,(h1.lang i j).2 (.inr ⟨p,q,iG,iC,(w1 (d1f p iG)).1 lE⟩),(h2.lang j j).2 (.inl ⟨n2,rfl⟩)⟩
     ·rcases(dB q).1 hq with jy|⟨n2,iC⟩
      ·exact⟨m,(h1.lang i m).2 (.inr ⟨p,l,iG,hl,(w1 (d1f p iG)).1 wq⟩),(h2.lang m j).2 (.inr ⟨f,q,hf,jy,wt⟩)⟩
      ·exact absurd (d1l q iC).2 (by have:st1.sets.length≤q:=px;omega)
    ·obtain⟨jR,px⟩:=hv.mono (E':=Est st2) (H':=Hst s st2) (D:=D2) a2 (fun _ _ _ h=>h) (aF p dM)
     rcases(dB q).1 hq with jy|⟨n2,iC⟩
     ·exact⟨i,(h1.lang i i).2 (.inl ⟨n1,rfl⟩),(h2.lang i j).2 (.inr ⟨p,q,dM,jy,jR⟩)⟩
     ·exact absurd (d1l q iC).2 (by have:st1.sets.length≤q:=px;omega)
theorem Comp.loop{s:List Nat}{n0:Nat}{st:Ms}{P:Pt}{R:Re}(h:Comp s n0 st P R):Comp s n0 ⟨st.sets,ZbZ st.fol P.last P.first⟩ P (fun i j=>∃n,1≤n∧pow R n i j):=by
 have cK:MsOk ⟨st.sets,ZbZ st.fol P.last P.first⟩:=h.ok.loop _ _ h.pin.1
 have hE:∀p r,Est ⟨st.sets,ZbZ st.fol P.last P.first⟩ p r↔Est st p r∨(p < st.sets.length∧P.last.testBit p=true∧P.first.testBit r=true):=fun p r=>by
  unfold Est
  simp only[ZkI]
  constructor
  ·rintro⟨x,h3,h4⟩
   obtain⟨y,hy,rfl⟩:=Option.map_eq_some_iff.1 h3
   have hp:p < st.sets.length:=by rw[←h.ok.len];exact(List.getElem?_eq_some_iff.1 hy).1
   by_cases hl:P.last.testBit p=true
   ·rw[if_pos hl]at h4
    rcases ZhG h4 with h5|h5
    ·exact .inl ⟨y,hy,h5⟩
    ·exact .inr ⟨hp,hl,h5⟩
   ·rw[if_neg hl]at h4;exact .inl ⟨y,hy,h4⟩
  ·rintro(⟨x,h3,h4⟩|⟨hp,hl,h4⟩)
   ·refine⟨_,by rw[h3];rfl,?_⟩
    split
    ·simp[Nat.testBit_or,h4]
    ·exact h4
   ·obtain⟨y,hy⟩:∃y,st.fol[p]?=some y:=⟨_,List.getElem?_eq_getElem (by rw[h.ok.len];exact hp)⟩
    exact⟨_,by rw[hy];rfl,by simp only[if_pos hl];simp[Nat.testBit_or,h4]⟩
 let D:Nat→Prop:=fun p=>n0≤p
 let Q:Re:=Seg (Est st) (Hst s st) (fun p=>P.first.testBit p=true) (fun p=>P.last.testBit p=true)
 have a1:∀p r,D p→Est ⟨st.sets,ZbZ st.fol P.last P.first⟩ p r→(Est st p r∧D r)∨(P.last.testBit p=true∧P.first.testBit r=true):=fun p r hd he=>by
  rcases(hE p r).1 he with h3|h3
  ·exact .inl ⟨h3,h.edge p r hd h3⟩
  ·exact .inr h3.2
 have su:∀i j,Seg (Est ⟨st.sets,ZbZ st.fol P.last P.first⟩) (Hst s ⟨st.sets,ZbZ st.fol P.last P.first⟩) (fun p=>P.first.testBit p=true) (fun p=>P.last.testBit p=true) i j↔∃n,1≤n∧pow Q n i j:=fun i j=>by
  constructor
  ·rintro⟨p,q,hp,hq,hv⟩
   obtain⟨l,m,n,g1,g2,g3⟩:=Vw.rounds (E:=Est st) (D:=D) (F:=fun p=>P.first.testBit p=true) (L:=fun p=>P.last.testBit p=true) a1 (fun r hr=>h.fst r hr) hv (h.fst p hp) hq
   exact⟨n+1,by omega,m,⟨p,l,hp,g2,g1⟩,g3⟩
  ·rintro⟨n,hn,hw⟩
   obtain⟨k,rfl⟩:∃k,n=k+1:=⟨n - 1,by omega⟩
   obtain⟨m,⟨p,l,hp,hl,hv⟩,hr⟩:=hw
   obtain⟨q,hq,jR⟩:=Zok (E:=Est st) (E':=Est ⟨st.sets,ZbZ st.fol P.last P.first⟩) (D:=D) (F:=fun p=>P.first.testBit p=true) (L:=fun p=>P.last.testBit p=true) (fun p r hd he=>⟨(hE p r).2 (.inl he),h.edge p r hd he⟩) (fun p r hp hr=>(hE p r).2 (.inr ⟨h.pin.2 p hp,hp,hr⟩)) (fun r hr=>h.fst r hr) k (h.fst p hp) hv hl hr
   exact⟨p,q,hp,hq,jR⟩
 refine⟨cK,h.le,h.pin,h.fst,h.lst,fun p r hp he=>?_,fun i j=>?_⟩
 ·rcases(hE p r).1 he with h3|h3
  ·exact h.edge p r hp h3
  ·exact h.fst r h3.2.2
 ·rw[su]
  have sw:∀i j,R i j↔(P.null=true∧i=j)∨Q i j:=h.lang
  constructor
  ·rintro⟨n,hn,hw⟩
   have key:∀n i j,pow R n i j→(i=j∧(n=0∨P.null=true))∨∃k,1≤k∧pow Q k i j:=fun n=>by
    induction n with
    | zero=>exact fun i j e=>.inl ⟨e,.inl rfl⟩
    | succ n ih=>
     rintro i j ⟨m,g1,g2⟩
     rcases(sw i m).1 g1 with⟨hn,rfl⟩|hq
     ·rcases ih i j g2 with⟨e,_⟩|h3
      ·exact .inl ⟨e,.inr hn⟩
      ·exact .inr h3
     ·rcases ih m j g2 with⟨rfl,_⟩|⟨k,hk,h3⟩
      ·exact .inr ⟨1,by omega,m,hq,rfl⟩
      ·exact .inr ⟨k+1,by omega,m,hq,h3⟩
   rcases key n i j hw with⟨rfl,h0|h0⟩|h3
   ·omega
   ·exact .inl ⟨h0,rfl⟩
   ·exact .inr h3
  ·rintro(⟨hn,rfl⟩|⟨n,hn,hw⟩)
   ·exact⟨1,by omega,i,(sw i i).2 (.inl ⟨hn,rfl⟩),rfl⟩
   ·exact⟨n,hn,ZqT (fun i j h=>(sw i j).2 (.inr h)) n i j hw⟩
end Go.Rx
namespace Go.Rx
open Go Go.Eng Go.RowKit
def Src(l:List T)(s:Ms)(r:Pt×Ms):Prop:=∀q∈r.2.sets,q∈s.sets∨∃x∈l,x.k=2∧q=(x.s0,x.s1,x.s2,x.s3)
theorem Src.refl(l:List T)(s:Ms)(p:Pt):Src l s (p,s):=fun q hq=>.inl hq
theorem Src.mono{l l':List T}{s:Ms}{r:Pt×Ms}(h:Src l s r)(hl:∀x∈l,x∈l'):Src l' s r:=fun q hq=>(h q hq).imp_right fun⟨x,h1,h2⟩=>⟨x,hl x h1,h2⟩
theorem Src.trans{l:List T}{s s1:Ms}{p:Pt}{r:Pt×Ms}(h:Src l s (p,s1))(k:Src l s1 r):Src l s r:=fun q hq=>by
 rcases k q hq with h1|h1
 ·exact h q h1
 ·exact .inr h1
end Go.Rx
namespace Go.Rx
open Go Go.Eng Go.RowKit
end Go.Rx
namespace Go.Rx
open Go Go.Eng Go.RowKit
inductive Pth (st:Ms):Nat→Nat→Prop
 | refl (p:Nat):Pth st p p
 | step {p r q:Nat} (e:Est st p r) (k:Pth st r q):Pth st p q
theorem Pth.mono{st st':Ms}(h:∀p r,Est st p r→Est st' p r){p q:Nat}(k:Pth st p q):Pth st' p q:=by
 induction k with
 | refl p=>exact .refl p
 | step e _ ih=>exact .step (h _ _ e) ih
theorem Pth.trans{st:Ms}{p r q:Nat}(h:Pth st p r)(k:Pth st r q):Pth st p q:=by
 induction h with
 | refl p=>exact k
 | step e _ ih=>exact .step e (ih k)
theorem Ext.est{a b:Ms}(h:Ext a b){p r:Nat}(e:Est a p r):Est b p r:=by
 obtain⟨x,h1,h2⟩:=e
 exact⟨x,h.fol p x h1,h2⟩
theorem Zm5{st:Ms}(h:MsOk st)(a b:Nat){p r:Nat}:Est ⟨st.sets,ZbZ st.fol a b⟩ p r↔Est st p r∨(p < st.sets.length∧a.testBit p=true∧b.testBit r=true):=by
 unfold Est
 simp only[ZkI]
 constructor
 ·rintro⟨x,h3,h4⟩
  obtain⟨y,hy,rfl⟩:=Option.map_eq_some_iff.1 h3
  have hp:p < st.sets.length:=by rw[←h.len];exact(List.getElem?_eq_some_iff.1 hy).1
  by_cases hl:a.testBit p=true
  ·rw[if_pos hl]at h4
   rcases ZhG h4 with h5|h5
   ·exact .inl ⟨y,hy,h5⟩
   ·exact .inr ⟨hp,hl,h5⟩
  ·rw[if_neg hl]at h4;exact .inl ⟨y,hy,h4⟩
 ·rintro(⟨x,h3,h4⟩|⟨hp,hl,h4⟩)
  ·refine⟨_,by rw[h3];rfl,?_⟩
   split
   ·simp[Nat.testBit_or,h4]
   ·exact h4
  ·obtain⟨y,hy⟩:∃y,st.fol[p]?=some y:=⟨_,List.getElem?_eq_getElem (by rw[h.len];exact hp)⟩
   exact⟨_,by rw[hy];rfl,by simp only[if_pos hl];simp[Nat.testBit_or,h4]⟩
structure Liv (n0:Nat)(st:Ms)(P:Pt):Prop where
 ok:MsOk st
 le:n0≤st.sets.length
 fst:∀p,P.first.testBit p=true→n0≤p∧p < st.sets.length
 lst:∀p,P.last.testBit p=true→n0≤p∧p < st.sets.length
 fr:∀p,n0≤p→p < st.sets.length→∃a,P.first.testBit a=true∧Pth st a p
 to:∀p,n0≤p→p < st.sets.length→∃b,P.last.testBit b=true∧Pth st p b
def NeP(P:Pt):Prop:=P.null=true∨((∃a,P.first.testBit a=true)∧∃b,P.last.testBit b=true)
theorem Liv.nil{st:Ms}(h:MsOk st)(b:Bool):Liv st.sets.length st ⟨0,0,b⟩:=
 ⟨h,Nat.le_refl _,fun p hp=>by simp at hp,fun p hp=>by simp at hp,fun p h1 h2=>by omega,fun p h1 h2=>by omega⟩
theorem Liv.loop{n0:Nat}{st:Ms}{P:Pt}(h:Liv n0 st P):Liv n0 ⟨st.sets,ZbZ st.fol P.last P.first⟩ P:=by
 have hm:∀p r,Est st p r→Est ⟨st.sets,ZbZ st.fol P.last P.first⟩ p r:=fun p r e=>(Zm5 h.ok _ _).2 (.inl e)
 refine⟨h.ok.loop _ _ (fun p hp=>(h.fst p hp).2),h.le,h.fst,h.lst,fun p h1 h2=>?_,fun p h1 h2=>?_⟩
 ·obtain⟨a,h3,h4⟩:=h.fr p h1 h2;exact⟨a,h3,h4.mono hm⟩
 ·obtain⟨a,h3,h4⟩:=h.to p h1 h2;exact⟨a,h3,h4.mono hm⟩
theorem NeP.then{P X:Pt}(h:NeP P)(k:NeP X):NeP (ZmQ P X):=by
 unfold NeP ZmQ at *
 cases hp:P.null <;> cases hx:X.null <;> simp only[hp,hx,Bool.false_eq_true,if_false,if_true,false_or,or_false,true_or,Bool.and_false,Bool.and_true,Bool.false_and]at *
 ·obtain⟨⟨a,ha⟩,b,hb⟩:=h
  exact⟨⟨a,ha⟩,k.2⟩
 ·obtain⟨⟨a,ha⟩,b,hb⟩:=h
  exact⟨⟨a,ha⟩,b,by simp[Nat.testBit_or,hb]⟩
 ·obtain⟨⟨a,ha⟩,b,hb⟩:=k
  exact⟨⟨a,by simp[Nat.testBit_or,ha]⟩,b,hb⟩
theorem Liv.seq{n0:Nat}{st1 st2:Ms}{P X:Pt}(h1:Liv n0 st1 P)(h2:Liv st1.sets.length st2 X)(hx:Ext st1 st2)(hP:NeP P)(hX:NeP X):Liv n0 (Zcd P X st2).2 (Zcd P X st2).1:=by
 have cP:=h1.le
 have bN:=h2.le
 have bO:∀p r,Est st2 p r→Est (Zcd P X st2).2 p r:=fun p r e=>(Zm5 h2.ok _ _).2 (.inl e)
 have aZ:∀p r,Est st1 p r→Est (Zcd P X st2).2 p r:=fun p r e=>bO p r (hx.est e)
 have hj:∀p r,P.last.testBit p=true→X.first.testBit r=true→Est (Zcd P X st2).2 p r:=fun p r hp hr=>(Zm5 h2.ok _ _).2 (.inr ⟨by have:=(h1.lst p hp).2;omega,hp,hr⟩)
 have ow:∀a,P.first.testBit a=true→(Zcd P X st2).1.first.testBit a=true:=fun a ha=>by
  show(if P.null=true then P.first|||X.first else P.first).testBit a=true
  split
  ·simp[Nat.testBit_or,ha]
  ·exact ha
 have uG:∀a,X.last.testBit a=true→(Zcd P X st2).1.last.testBit a=true:=fun a ha=>by
  show(if X.null=true then X.last|||P.last else X.last).testBit a=true
  split
  ·simp[Nat.testBit_or,ha]
  ·exact ha
 refine⟨h2.ok.loop _ _ (fun p hp=>(h2.fst p hp).2),Nat.le_trans cP bN,fun p hp=>?_,fun p hp=>?_,fun p hp dM=>?_,fun p hp dM=>?_⟩
 ·have hp':(if P.null=true then P.first|||X.first else P.first).testBit p=true:=hp
  show n0≤p∧p < st2.sets.length
  split at hp'
  ·rcases ZhG hp' with h|h
   ·have:=h1.fst p h;omega
   ·have:=h2.fst p h;omega
  ·have:=h1.fst p hp';omega
 ·have hp':(if X.null=true then X.last|||P.last else X.last).testBit p=true:=hp
  show n0≤p∧p < st2.sets.length
  split at hp'
  ·rcases ZhG hp' with h|h
   ·have:=h2.lst p h;omega
   ·have:=h1.lst p h;omega
  ·have:=h2.lst p hp';omega
 ·by_cases hs:p < st1.sets.length
  ·obtain⟨a,h3,h4⟩:=h1.fr p hp hs
   exact⟨a,ow a h3,h4.mono aZ⟩
  ·obtain⟨a,h3,h4⟩:=h2.fr p (by omega) dM
   rcases hP with hn|⟨_,b,hb⟩
   ·refine⟨a,?_,h4.mono bO⟩
    show(if P.null=true then P.first|||X.first else P.first).testBit a=true
    rw[if_pos hn];simp[Nat.testBit_or,h3]
   ·obtain⟨c,h5,h6⟩:=h1.fr b (h1.lst b hb).1 (h1.lst b hb).2
    exact⟨c,ow c h5,(h6.mono aZ).trans (.step (hj b a hb h3) (h4.mono bO))⟩
 ·by_cases hs:p < st1.sets.length
  ·obtain⟨b,h3,h4⟩:=h1.to p hp hs
   rcases hX with hn|⟨⟨a,ha⟩,_⟩
   ·refine⟨b,?_,h4.mono aZ⟩
    show(if X.null=true then X.last|||P.last else X.last).testBit b=true
    rw[if_pos hn];simp[Nat.testBit_or,h3]
   ·obtain⟨c,h5,h6⟩:=h2.to a (h2.fst a ha).1 (h2.fst a ha).2
    exact⟨c,uG c h5,(h4.mono aZ).trans (.step (hj b a h3 ha) (h6.mono bO))⟩
  ·obtain⟨b,h3,h4⟩:=h2.to p (by omega) dM
   exact⟨b,uG b h3,h4.mono bO⟩
theorem Zol{n p:Nat}:(2 ^ n).testBit p=true↔p=n:=⟨ZtR,fun e=>by rw[e];simp[Nat.testBit_two_pow]⟩
theorem Liv.one{st:Ms}(h:MsOk st)(q:Int×Int×Int×Int):Liv st.sets.length ⟨st.sets++[q],st.fol++[0]⟩ ⟨2 ^ st.sets.length,2 ^ st.sets.length,false⟩:=by
 refine⟨(ZhH h _).ok,(ZhH h _).le,fun p hp=>?_,fun p hp=>?_,fun p hp dM=>?_,fun p hp dM=>?_⟩
 ·rw[Zol.1 hp];exact⟨Nat.le_refl _,by simp⟩
 ·rw[Zol.1 hp];exact⟨Nat.le_refl _,by simp⟩
 ·simp only[List.length_append,List.length_singleton]at dM
  obtain rfl:p=st.sets.length:=by omega
  exact⟨_,Zol.2 rfl,.refl _⟩
 ·simp only[List.length_append,List.length_singleton]at dM
  obtain rfl:p=st.sets.length:=by omega
  exact⟨_,Zol.2 rfl,.refl _⟩
end Go.Rx
namespace Go.Rx
open Go Go.Eng Go.RowKit
theorem Vw.lt{E H:Nat→Nat→Prop}{p i q j:Nat}(h:Vw E H p i q j):i < j:=by
 induction h with
 | one _=>omega
 | step _ _ _ ih=>omega
def Nf.behind(A:Nf)(s:List Nat)(again:Bool)(k:Nat):List Int:=(s.take k).foldl (A.next again) [-1]
theorem ZjK(A:Nf)(s:List Nat)(again:Bool){k c:Nat}(h:s[k]?=some c):A.behind s again (k+1)=A.next again (A.behind s again k) c:=by
 unfold Nf.behind
 rw[List.take_add_one,h,Option.toList_some,List.foldl_append]
 rfl
theorem ZtV{A:Nf}(hA:A.Ok){again:Bool}{l:List Int}{c:Nat}{x:Int}:x∈A.next again l c↔(again=true∧x=-1)∨(0≤x∧(∃p∈l,x∈A.fromL p)∧A.hasAt x c=true):=by
 unfold Nf.next
 cases again
 ·simp only[Bool.false_eq_true,if_false,false_and,false_or];exact Zfj hA
 ·simp only[if_true,List.mem_cons,true_and,Zfj hA]
theorem ZjL(A:Nf)(s:List Nat):∀(b:List Nat)(k:Nat)(out:List Int),s.drop k=b→A.runL true (fun s n l=>if A.accepts l then s++[(n:Int)]else s) b k (A.behind s true k) out=out++(((List.range b.length).map (· + (k+1))).filter fun j=>A.accepts (A.behind s true j)).map fun j:Nat=>(j:Int)
 | [],k,out,_=>by simp[Nf.runL]
 | c::b,k,out,hd=>by
  have hc:s[k]?=some c:=by
   have:=congrArg List.head? hd
   rwa [List.head?_drop,List.head?_cons]at this
  have hd':s.drop (k+1)=b:=by rw[←List.tail_drop,hd,List.tail_cons]
  rw[Nf.runL,←ZjK _ _ _ hc,ZjL A s b (k+1) _ hd']
  rw[List.length_cons,List.range_succ_eq_map,List.map_cons,List.map_map,List.filter_cons,Nat.zero_add]
  rw[show((fun x=>x+(k+1))∘Nat.succ)=(fun x=>x+(k+1+1)) from funext fun x=>by simp only[Function.comp];omega]
  cases A.accepts (A.behind s true (k+1)) <;> simp
end Go.Rx
namespace Go.Rx
open Go Go.Eng Go.RowKit
set_option maxRecDepth 100000
theorem ZtW(A:Nf)(b:List Nat)(c:Nat)(l:List Int):A.run (b++[c]) l=A.step (A.run b l) c:=by
 unfold Nf.run
 rw[List.foldl_append];rfl
def Nf.part(A:Nf)(s:List Nat)(i k:Nat):List Int:=A.run ((s.take k).drop i) [-1]
theorem Zdj(A:Nf)(s:List Nat){i k:Nat}(h:k≤i):A.part s i k=[-1]:=by
 unfold Nf.part
 rw[List.drop_eq_nil_of_le (by simp;omega)];rfl
theorem ZhN(A:Nf){s:List Nat}{i k c:Nat}(hi:i≤k)(hc:s[k]?=some c):A.part s i (k+1)=A.step (A.part s i k) c:=by
 unfold Nf.part
 have hk:=(List.getElem?_eq_some_iff.1 hc).1
 rw[List.take_add_one,hc,Option.toList_some,List.drop_append_of_le_length (by simp;omega),ZtW]
theorem ZjM{A:Nf}(hA:A.Ok)(s:List Nat)(i k:Nat):A.states (A.part s i k)=true:=Zf7 hA _ _ (Zfk A)
theorem ZgI{A:Nf}(hA:A.Ok)(s:List Nat):∀k,k≤s.length→∀x:Int,x∈A.behind s true k↔∃i,i≤k∧x∈A.part s i k
 | 0,_,x=>by
  unfold Nf.behind
  simp only[List.take_zero,List.foldl_nil]
  constructor
  ·intro h;exact⟨0,Nat.le_refl _,by rw[Zdj A s (Nat.le_refl _)];exact h⟩
  ·rintro⟨i,hi,h⟩
   rw[Zdj A s (by omega)]at h;exact h
 | k+1,hk,x=>by
  obtain⟨c,hc⟩:∃c,s[k]?=some c:=⟨_,List.getElem?_eq_getElem (by omega)⟩
  have ih:=ZgI hA s k (by omega)
  rw[ZjK _ _ _ hc,ZtV hA]
  simp only[true_and]
  constructor
  ·rintro(rfl|⟨h0,⟨p,hp,hx⟩,hh⟩)
   ·exact⟨k+1,Nat.le_refl _,by rw[Zdj A s (Nat.le_refl _)];simp⟩
   ·obtain⟨i,hi,hp'⟩:=(ih p).1 hp
    exact⟨i,by omega,by rw[ZhN A hi hc,Zfj hA];exact⟨h0,⟨p,hp',hx⟩,hh⟩⟩
  ·rintro⟨i,hi,h⟩
   by_cases e:i=k+1
   ·rw[Zdj A s (by omega)]at h
    left;simpa using h
   ·rw[ZhN A (by omega) hc,Zfj hA]at h
    obtain⟨h0,⟨p,hp,hx⟩,hh⟩:=h
    exact .inr ⟨h0,⟨p,(ih p).2 ⟨i,by omega,hp⟩,hx⟩,hh⟩
theorem ZiX{A:Nf}(hA:A.Ok){s:List Nat}{k:Nat}(hk:k≤s.length):A.accepts (A.behind s true k)=true↔∃i,i≤k∧A.accepts (A.part s i k)=true:=by
 unfold Nf.accepts
 simp only[List.any_eq_true]
 constructor
 ·rintro⟨x,hx,ha⟩
  obtain⟨i,hi,h⟩:=(ZgI hA s k hk x).1 hx
  exact⟨i,hi,x,h,ha⟩
 ·rintro⟨i,hi,x,h,ha⟩
  exact⟨x,(ZgI hA s k hk x).2 ⟨i,hi,h⟩,ha⟩
noncomputable def Zdy(A:Nf)(s:List Nat)(i k:Nat):Nat→Bool:=open Classical in fun x=>decide ((∃j,j < i∧j≤x∧A.accepts (A.part s j x)=true)∨(i≤x∧x < k∧A.accepts (A.part s i x)=true))
theorem Zch{A:Nf}{s:List Nat}{i k x:Nat}:Zdy A s i k x=true↔((∃j,j < i∧j≤x∧A.accepts (A.part s j x)=true)∨(i≤x∧x < k∧A.accepts (A.part s i x)=true)):=by unfold Zdy;simp
theorem Zom(A:Nf)(s:List Nat)(n:Nat):Zcf (fun _=>false) n=Zcf (Zdy A s 0 0) n:=by
 refine Zbk fun x hx=>?_
 rw[Bool.eq_iff_iff,Zch]
 simp
theorem ZpH(A:Nf)(s:List Nat)(i n:Nat):Zcf (Zdy A s i 0) n=Zcf (Zdy A s i i) n:=by
 refine Zbk fun x hx=>?_
 rw[Bool.eq_iff_iff,Zch,Zch]
 have:¬(i≤x∧x < i∧A.accepts (A.part s i x)=true):=fun h=>by omega
 simp[this]
theorem ZpI(A:Nf)(s:List Nat)(i n:Nat):Zcf (Zdy A s i n) n=Zcf (Zdy A s (i+1) 0) n:=by
 refine Zbk fun x hx=>?_
 rw[Bool.eq_iff_iff,Zch,Zch]
 constructor
 ·rintro(⟨j,h1,h2⟩|⟨h1,_,h2⟩)
  ·exact .inl ⟨j,by omega,h2⟩
  ·exact .inl ⟨i,by omega,h1,h2⟩
 ·rintro(⟨j,h1,h2,h3⟩|⟨_,h2,_⟩)
  ·by_cases e:j=i
   ·subst e;exact .inr ⟨h2,hx,h3⟩
   ·exact .inl ⟨j,by omega,h2,h3⟩
  ·omega
theorem Zsc{A:Nf}{s:List Nat}{i k n:Nat}(hi:i≤k)(hk:k < n)(h:A.accepts (A.part s i k)=true):(Zcf (Zdy A s i k) n).set k 1=Zcf (Zdy A s i (k+1)) n:=by
 have e1:=ZkG (Zdy A s i k) hk true
 rw[if_pos rfl]at e1
 rw[e1]
 refine Zbk fun x hx=>?_
 rw[Bool.eq_iff_iff,Zch]
 by_cases e:x=k
 ·subst e
  simp only[if_true,true_iff]
  exact .inr ⟨hi,by omega,h⟩
 ·rw[if_neg e,Zch]
  have:x < k+1↔x < k:=by omega
  rw[this]
theorem ZpJ{A:Nf}{s:List Nat}{i k n:Nat}(h:A.accepts (A.part s i k)=false):Zcf (Zdy A s i k) n=Zcf (Zdy A s i (k+1)) n:=by
 refine Zbk fun x hx=>?_
 rw[Bool.eq_iff_iff,Zch,Zch]
 by_cases e:x=k
 ·subst e
  rw[h];simp
 ·have:x < k+1↔x < k:=by omega
  rw[this]
theorem Zon{A:Nf}(hA:A.Ok)(s:List Nat):Zcg (Zdy A s (s.length+1) 0) (s.length+1)=A.search s:=by
 have h1:=ZjL A s s 0 (if A.accepts [-1]then[0]else[]) rfl
 have hb:A.behind s true 0=[-1]:=rfl
 rw[hb]at h1
 unfold Nf.search
 rw[h1]
 unfold Zcg
 have e:((List.range (s.length+1)).filter (Zdy A s (s.length+1) 0))=(List.range (s.length+1)).filter fun j=>A.accepts (A.behind s true j):=by
  apply List.filter_congr
  intro k hk
  rw[List.mem_range]at hk
  rw[Bool.eq_iff_iff,Zch,ZiX hA (by omega)]
  constructor
  ·rintro(⟨j,_,h2,h3⟩|⟨_,h2,_⟩)
   ·exact⟨j,h2,h3⟩
   ·omega
  ·rintro⟨j,h2,h3⟩
   exact .inl ⟨j,by omega,h2,h3⟩
 rw[e,List.range_succ_eq_map,List.filter_cons,hb]
 rw[show(List.range s.length).map Nat.succ=(List.range s.length).map (· + (0+1)) from rfl]
 cases A.accepts [-1] <;> simp
def Zri(A:Nf)(p:Nat):Nat→Bool:=fun q=>decide ((p:Int)∈(A.fol[q]?).getD [])
theorem ZtX{A:Nf}(hA:A.Ok){p:Nat}(hp:p < A.fol.length):A.turn.fol[p]?=some (Zcg (Zri A p) A.fol.length):=by
 show(Zf3 A.fol)[p]?=_
 rw[ZkD hp hA.rows];rfl
def Zux(g:Nat→Bool)(n:Nat):Nat:=((List.range n).filter fun x=>!g x).length
def Zuy(g:Nat→Bool)(q:Nat):Nat→Bool:=fun x=>if x=q then true else g x
theorem ZtY{g:Nat→Bool}{n q:Nat}(hq:q < n)(h:g q=false):Zux (Zuy g q) n+1≤Zux g n:=by
 unfold Zux
 refine ZkH (x:=q) (fun y hy=>?_) (by simp[hq]) (by simp[h]) (by simp[Zuy])
 unfold Zuy at hy
 split at hy
 ·simp at hy
 ·exact hy
theorem ZtZ{g:Nat→Bool}{n q:Nat}(hq:q < n):(Zcf g n).set q 1=Zcf (Zuy g q) n:=by
 have e1:=ZkG g hq true
 rw[if_pos rfl]at e1
 exact e1
theorem Zoo{g:Nat→Bool}{q x:Nat}(h:g x=true):Zuy g q x=true:=by unfold Zuy;split <;> simp[h]
theorem ZqY{A:Nf}(hA:A.Ok){p:Nat}(h:A.Reach p):p < A.sets.length:=by
 cases h with
 | first h=>have:=(hA.first.2 _ h).2;unfold Nf.top at this;omega
 | fol h hl hq=>have:=((hA.fol _ (List.mem_of_getElem? hl)).2 _ hq).2;unfold Nf.top at this;omega
structure Light (A:Nf)(g:Nat→Bool):Prop where
 in_:∀x,g x=true→A.Reach x
 first:∀x:Nat,(x:Int)∈A.first→g x=true
def Closed(A:Nf)(g:Nat→Bool)(p k:Nat):Prop:=(∀(p':Nat)(l:List Int),p' < p→g p'=true→A.fol[p']?=some l→∀q:Nat,(q:Int)∈l→g q=true)∧(∀l:List Int,g p=true→A.fol[p]?=some l→∀q:Nat,(q:Int)∈l.take k→g q=true)
theorem Zop(A:Nf)(g:Nat→Bool):Closed A g 0 0:=⟨fun p' l h=>by omega,fun l _ _ q hq=>by simp at hq⟩
theorem Closed.next{A:Nf}{g:Nat→Bool}{p k:Nat}(h:Closed A g p k)(hk:g p=true→∀l,A.fol[p]?=some l→l.length≤k):Closed A g (p+1) 0:=by
 refine⟨fun p' l h1 h2 h3 q hq=>?_,fun l _ _ q hq=>by simp at hq⟩
 by_cases e:p'=p
 ·subst e
  refine h.2 l h2 h3 q ?_
  rw[List.take_of_length_le (hk h2 l h3)];exact hq
 ·exact h.1 p' l (by omega) h2 h3 q hq
theorem Closed.one{A:Nf}{g:Nat→Bool}{p k q:Nat}{l:List Int}(h:Closed A g p k)(hl:A.fol[p]?=some l)(hk:l[k]?=some (q:Int))(hq:g q=true):Closed A g p (k+1):=by
 refine⟨h.1,fun l' h1 h2 q' hq'=>?_⟩
 rw[hl]at h2;cases h2
 rw[List.take_add_one,hk]at hq'
 rcases List.mem_append.1 hq' with h3|h3
 ·exact h.2 l h1 hl q' h3
 ·simp at h3
  have:q'=q:=by omega
  rw[this];exact hq
theorem ZpK{A:Nf}(hA:A.Ok){g:Nat→Bool}(h:Light A g)(hc:Closed A g A.sets.length 0):∀x,g x=true↔A.Reach x:=fun x=>by
 refine⟨h.in_ x,fun hr=>?_⟩
 induction hr with
 | first h1=>exact h.first _ h1
 | @fol p q l h1 hl hq ih=>exact hc.1 p l (ZqY hA h1) ih hl q hq
end Go.Rx
