/- Trees of regexes, what they mean, and v9 they lie in memory; plain, no program is named. No condition. -/
import Derived.Test.YthiefodednaikaaMc
set_option linter.unusedVariables false
set_option linter.unusedSimpArgs false
set_option linter.unusedSectionVars false
namespace Go.Rx
open Go Go.Eng
inductive T where
 | node (k s0 s1 s2 s3 mn mx:Int) (a:Option Addr) (c:Nat) (subs:List T)
def T.k:T->Int
 | .node k _ _ _ _ _ _ _ _ _=>k
def T.s0:T->Int
 | .node _ s _ _ _ _ _ _ _ _=>s
def T.s1:T->Int
 | .node _ _ s _ _ _ _ _ _ _=>s
def T.s2:T->Int
 | .node _ _ _ s _ _ _ _ _ _=>s
def T.s3:T->Int
 | .node _ _ _ _ s _ _ _ _ _=>s
def T.mn:T->Int
 | .node _ _ _ _ _ x _ _ _ _=>x
def T.mx:T->Int
 | .node _ _ _ _ _ _ x _ _ _=>x
def T.a:T->Option Addr
 | .node _ _ _ _ _ _ _ a _ _=>a
def T.c:T->Nat
 | .node _ _ _ _ _ _ _ _ c _=>c
def T.subs:T->List T
 | .node _ _ _ _ _ _ _ _ _ l=>l
def T.sl(t:T):Value:=.slice t.a t.subs.length t.c
def T.cs(t:T):List Value:=[.int .u8 t.k,.int .u64 t.s0,.int .u64 t.s1,.int .u64 t.s2,.int .u64 t.s3,.int .i64 t.mn,.int .i64 t.mx,t.sl]
def T.v(t:T):Value:=.agg #[.int .u8 t.k,.int .u64 t.s0,.int .u64 t.s1,.int .u64 t.s2,.int .u64 t.s3,.int .i64 t.mn,.int .i64 t.mx,.slice t.a t.subs.length t.c]
structure OkN (k s0 s1 s2 s3 mn mx:Int):Prop where
 k:0<=k/\k < 256
 s0:0<=s0/\s0 < 18446744073709551616
 s1:0<=s1/\s1 < 18446744073709551616
 s2:0<=s2/\s2 < 18446744073709551616
 s3:0<=s3/\s3 < 18446744073709551616
 mn : -9223372036854775808<=mn/\mn<=9223372036854775807
 mx : -9223372036854775808<=mx/\mx<=9223372036854775807
mutual
def Rep(m:Mem):T->Prop
 | .node k s0 s1 s2 s3 mn mx a _ l=>l.length<=1000000000000000/\(l=[]\/∃b o,a=some ⟨b,o,none⟩/\RepAt m b o l)/\OkN k s0 s1 s2 s3 mn mx
def RepAt(m:Mem)(b:Nat):Nat->List T->Prop
 | _,[]=>True
 | o,t::l=>m.reads b o t.cs/\Rep m t/\RepAt m b (o+8) l
end
theorem Zev{m:Mem}{t:T}:Rep m t->(t.subs.length<=1000000000000000/\(t.subs=[]\/∃b o,t.a=some ⟨b,o,none⟩/\RepAt m b o t.subs)):=by
 cases t;simp only[Rep,T.subs,T.a];exact λh=>⟨h.1,h.2.1⟩
theorem ZuC{m:Mem}{t:T}:Rep m t->OkN t.k t.s0 t.s1 t.s2 t.s3 t.mn t.mx:=by
 cases t;simp only[Rep];exact λh=>h.2.2
theorem Zwe{m:Mem}{t:T}(h1:t.subs.length<=1000000000000000)(h2:t.subs=[]\/∃b o,t.a=some ⟨b,o,none⟩/\RepAt m b o t.subs)(h3:OkN t.k t.s0 t.s1 t.s2 t.s3 t.mn t.mx):Rep m t:=by
 cases t;simp only[Rep];exact⟨h1,h2,h3⟩
mutual
theorem Rep.mono{m m':Mem}(h:m.le m'):∀t:T,Rep m t->Rep m' t
 | .node _ _ _ _ _ _ _ a _ l,hr=>by
  simp only[Rep]at *
  refine⟨hr.1,?_,hr.2.2⟩
  rcases hr.2.1 with hr|⟨b,o,h1,h2⟩
  ·exact .inl hr
  ·exact .inr ⟨b,o,h1,RepAt.mono h b o l h2⟩
theorem RepAt.mono{m m':Mem}(h:m.le m')(b:Nat):∀(o:Nat)(l:List T),RepAt m b o l->RepAt m' b o l
 | _,[],_=>by simp only[RepAt]
 | o,t::l,hr=>by
  simp only[RepAt]at *
  exact⟨hr.1.mono h,Rep.mono h t hr.2.1,RepAt.mono h b (o+8) l hr.2.2⟩
end
theorem RepAt.get{m:Mem}{b:Nat}:∀{o:Nat} {l:List T} {i:Nat} {t:T},RepAt m b o l->l[i]?=some t->m.reads b (o+i*8) t.cs/\Rep m t
 | o,[],i,t,_,hi=>by simp at hi
 | o,x::l,0,t,h,hi=>by
  simp only[RepAt]at h
  simp at hi;subst hi
  exact⟨by simpa using h.1,h.2.1⟩
 | o,x::l,i+1,t,h,hi=>by
  simp only[RepAt]at h
  have:=h.2.2.get (i:=i) (by simpa using hi)
  rw[show o+(i+1)*8=o+8+i*8 by omega]
  exact this
mutual
def T.nodes:T->List T
 | .node k s0 s1 s2 s3 mn mx a c l=>.node k s0 s1 s2 s3 mn mx a c l::Zaz l
def Zaz:List T->List T
 | []=>[]
 | t::l=>t.nodes++Zaz l
end
theorem Zbi(t:T):t.nodes=t::Zaz t.subs:=by cases t;simp only[T.nodes,T.subs]
theorem ZcB(l r:List T):Zaz (l++r)=Zaz l++Zaz r:=by
 induction l with
 | nil=>simp[Zaz]
 | cons t l ih=>simp[Zaz,ih,List.append_assoc]
theorem Zhp{l:List T}{i:Nat}{t:T}(h:l[i]?=some t):Zaz (l.take (i+1))=Zaz (l.take i)++t.nodes:=by
 have:l.take (i+1)=l.take i++[t]:=by
  rw[List.take_add_one,h];rfl
 rw[this,ZcB];simp[Zaz]
theorem ZfT{l:List T}{i:Nat}{t:T}(h:l[i]?=some t):Zaz l=Zaz (l.take i)++(t.nodes++Zaz (l.drop (i+1))):=by
 have bB:=(List.getElem?_eq_some_iff.1 h).1
 have e:l=l.take i++(t::l.drop (i+1)):=by
  have:=List.drop_eq_getElem_cons bB
  rw[(List.getElem?_eq_some_iff.1 h).2]at this
  rw[<-this,List.take_append_drop]
 conv=>lhs;rw[e,ZcB]
 simp[Zaz]
theorem ZuD{t x z:T}{i q:Nat}(hx:t.subs[i]?=some x)(hz:x.nodes[q]?=some z):t.nodes[1+(Zaz (t.subs.take i)).length+q]?=some z:=by
 have hq:=(List.getElem?_eq_some_iff.1 hz).1
 rw[Zbi,show 1+(Zaz (t.subs.take i)).length+q=((Zaz (t.subs.take i)).length+q)+1 by omega,List.getElem?_cons_succ,ZfT hx,List.getElem?_append_right (by omega),List.getElem?_append_left (by omega),show(Zaz (List.take i t.subs)).length+q - (Zaz (List.take i t.subs)).length=q by omega]
 exact hz
theorem ZfU{t x:T}(h:x∈t.subs):SizeOf.sizeOf x < SizeOf.sizeOf t:=by
 cases t with
 | node k s0 s1 s2 s3 mn mx a c l=>
  have h':x∈l:=h
  have:=List.sizeOf_lt_of_mem h'
  simp only[T.node.sizeOf_spec]
  omega
theorem Zqq(t:T):Shape.fitsL [.agg [.int .u8,.int .u64,.int .u64,.int .u64,.int .u64,.int .i64,.int .i64,.slice]] [t.v]=true:=by
 simp[Shape.fitsL,Shape.fits,T.v]
mutual
theorem Zro{m:Mem}:∀(t:T),Rep m t->∀x∈t.nodes,Rep m x
 | .node k s0 s1 s2 s3 mn mx a c l,hr,x,hx=>by
  simp only[T.nodes,List.mem_cons]at hx
  rcases hx with rfl|hx
  ·exact hr
  ·simp only[Rep]at hr
   rcases hr.2.1 with h|⟨b,o,_,h⟩
   ·subst h;simp[Zaz]at hx
   ·exact Zo4 b o l h x hx
theorem Zo4{m:Mem}(b:Nat):∀(o:Nat)(l:List T),RepAt m b o l->∀x∈Zaz l,Rep m x
 | _,[],_,x,hx=>by simp[Zaz]at hx
 | o,t::l,hr,x,hx=>by
  simp only[RepAt]at hr
  simp only[Zaz,List.mem_append]at hx
  rcases hx with hx|hx
  ·exact Zro t hr.2.1 x hx
  ·exact Zo4 b (o+8) l hr.2.2 x hx
end
theorem ZsH{m:Mem}{t x:T}(h:Rep m t)(hx:x∈t.nodes):Rep m x:=Zro t h x hx
def Zd7(least most:Int):Bool:=!(decide (least < 0)||decide (least > 16)||(least == 1&&most == 1))&&(most == -1||(decide (most ≥ 1)&&decide (most<=16)&&decide (most ≥ least)))
def T.has(t:T)(k:Int):Bool:=t.subs.any λx=>x.k == k
def T.light(t:T):Bool:=decide (t.nodes.length<=10000)
def T.setZ(t:T):Bool:=t.s0 == 0&&t.s1 == 0&&t.s2 == 0&&t.s3 == 0
def T.right(t:T):Bool:=
 !(t.k != 2&&!t.setZ||(t.k != 5&&(t.mn != 0||t.mx != 0)||(decide (t.k < 3)&&decide (0 < t.subs.length)))) &&
 (if t.k=1 then true else if t.k=2 then !t.setZ else if t.k=3 then decide (1 < t.subs.length)&&(!t.has 1&&!t.has 3)else if t.k=4 then decide (1 < t.subs.length)&&!t.has 4
  else if t.k=5 then t.subs.length == 1&&(Zd7 t.mn t.mx&&!t.has 1)else t.k == 6&&t.subs.length == 1)
def T.clean(t:T):Bool:=t.light&&t.nodes.all T.right
def T.size(t:T):Int:=if t.light then t.nodes.length else 10001
def T.groups(t:T):Int:=if t.light then(t.nodes.countP λx=>x.k == 6:Nat)else 10001
def ZnV(x y:Int):Int:=if y > x then y else x
def Znt(x y:Int):Int:=if y < x then y else x
def ZtP(k mn mx sum:Int):Int:=Znt (if k=5 then sum*Znt (if mx=-1 then ZnV (ZnV mn 0) 1 else ZnV (ZnV mn 0) mx) 10001 else sum) 10001
mutual
def T.pos:T->Int
 | .node k _ _ _ _ mn mx _ _ l=>ZtP k mn mx ((if k=2 then 1 else 0)+ZfL l)
def ZfL:List T->Int
 | []=>0
 | t::l=>t.pos+ZfL l
end
def T.positions(t:T):Int:=if t.light then t.pos else 10001
def T.check(t:T):Int:=if t.clean=false then 80 else if t.size > 120 then 81 else if t.positions > 400 then 82 else if t.groups > 9 then 83 else 0
mutual
def T.same:T->T->Bool
 | .node k s0 s1 s2 s3 mn mx _ _ l,.node k' s0' s1' s2' s3' mn' mx' _ _ l'=>k == k'&&((s0 == s0'&&s1 == s1'&&s2 == s2'&&s3 == s3')&&(mn == mn'&&(mx == mx'&&Zfi l l')))
def Zfi:List T->List T->Bool
 | [],[]=>true
 | t::l,t'::l'=>t.same t'&&Zfi l l'
 | _,_=>false
end
theorem ZtQ(t u:T):t.same u=(t.k == u.k&&((t.s0 == u.s0&&t.s1 == u.s1&&t.s2 == u.s2&&t.s3 == u.s3)&&(t.mn == u.mn&&(t.mx == u.mx&&Zfi t.subs u.subs)))):=by
 cases t;cases u;simp only[T.same,T.k,T.s0,T.s1,T.s2,T.s3,T.mn,T.mx,T.subs]
theorem Zlo:∀{l r:List T},¬l.length=r.length->Zfi l r=false
 | [],[],h=>by simp at h
 | [],_::_,_=>by simp[Zfi]
 | _::_,[],_=>by simp[Zfi]
 | x::l,y::r,h=>by
  simp only[Zfi,Zlo (l:=l) (r:=r) (by simpa using h),Bool.and_false]
theorem Zn1:∀{l r:List T} {i:Nat} {x y:T},l[i]?=some x->r[i]?=some y->x.same y=false->Zfi l r=false
 | [],r,i,x,y,h,_,_=>by simp at h
 | _::_,[],i,x,y,_,h,_=>by simp at h
 | a::l,b::r,0,x,y,h,k,e=>by
  simp at h k;subst h k
  simp[Zfi,e]
 | a::l,b::r,i+1,x,y,h,k,e=>by
  simp only[Zfi,Zn1 (l:=l) (r:=r) (i:=i) (by simpa using h) (by simpa using k) e,Bool.and_false]
theorem Zjs:∀{l r:List T} {i:Nat} {x y:T},l[i]?=some x->r[i]?=some y->Zfi (l.take i) (r.take i)=true->x.same y=true->True->Zfi (l.take (i+1)) (r.take (i+1))=true
 | [],r,i,x,y,h,_,_,_,_=>by simp at h
 | _::_,[],i,x,y,_,h,_,_,_=>by simp at h
 | a::l,b::r,0,x,y,h,k,_,e,_=>by
  simp at h k;subst h k
  simp[Zfi,e]
 | a::l,b::r,i+1,x,y,h,k,hs,e,_=>by
  simp only[List.take_succ_cons,Zfi,Bool.and_eq_true]at hs ⊢
  exact⟨hs.1,Zjs (by simpa using h) (by simpa using k) hs.2 e trivial⟩
theorem ZsI(t:T):t.pos=ZtP t.k t.mn t.mx ((if t.k=2 then 1 else 0)+ZfL t.subs):=by
 cases t;simp only[T.pos,T.k,T.mn,T.mx,T.subs];congr 1
theorem Zhq(l r:List T):ZfL (l++r)=ZfL l+ZfL r:=by
 induction l with
 | nil=>simp[ZfL]
 | cons t l ih=>simp[ZfL,ih,Int.add_assoc]
theorem Zo5{l:List T}{i:Nat}{t:T}(h:l[i]?=some t):ZfL (l.take (i+1))=ZfL (l.take i)+t.pos:=by
 have:l.take (i+1)=l.take i++[t]:=by
  rw[List.take_add_one,h];rfl
 rw[this,Zhq];simp[ZfL]
theorem Zrp(x y:Int):x<=ZnV x y/\y<=ZnV x y:=by unfold ZnV;split <;> omega
theorem Zrq(x y:Int):Znt x y<=x/\Znt x y<=y:=by unfold Znt;split <;> omega
theorem ZtR{x y:Int}(h:0<=x)(k:0<=y):0<=Znt x y:=by unfold Znt;split <;> omega
def ZvF(mn mx:Int):Int:=Znt (if mx=-1 then ZnV (ZnV mn 0) 1 else ZnV (ZnV mn 0) mx) 10001
theorem Zrr(mn mx:Int):0<=ZvF mn mx/\ZvF mn mx<=10001:=by
 unfold ZvF
 refine⟨ZtR ?_ (by omega),(Zrq _ _).2⟩
 have h1:=Zrp mn 0
 split
 ·have:=Zrp (ZnV mn 0) 1;omega
 ·have:=Zrp (ZnV mn 0) mx;omega
theorem Zwf{k mn mx sum:Int}(h:0<=sum):0<=ZtP k mn mx sum/\ZtP k mn mx sum<=10001:=by
 have h2:=Int.mul_nonneg h (Zrr mn mx).1
 unfold ZtP
 refine⟨ZtR ?_ (by omega),(Zrq _ _).2⟩
 split
 ·exact h2
 ·exact h
mutual
theorem Znu:∀t:T,0<=t.pos/\t.pos<=10001
 | .node k _ _ _ _ mn mx _ _ l=>by
  simp only[T.pos]
  have:=ZkG l
  exact Zwf (by split <;> omega)
theorem ZkG:∀l:List T,0<=ZfL l
 | []=>by simp[ZfL]
 | t::l=>by
  simp only[ZfL]
  have:=Znu t
  have:=ZkG l
  omega
end
theorem Zrs:∀l:List T,ZfL l<=10001*l.length
 | []=>by simp[ZfL]
 | t::l=>by
  simp only[ZfL,List.length_cons]
  have:=Znu t
  have:=Zrs l
  omega
theorem Zo6(t:T):t.subs.length < t.nodes.length:=by
 rw[Zbi,List.length_cons]
 have:∀l:List T,l.length<=(Zaz l).length:=by
  intro l
  induction l with
  | nil=>simp[Zaz]
  | cons x l ih=>simp only[Zaz,List.length_cons,List.length_append];rw[Zbi];simp;omega
 have:=this t.subs
 omega
theorem Zit{t x:T}(h:x∈t.subs):x.nodes.length < t.nodes.length:=by
 obtain⟨i,hi⟩:=List.getElem?_of_mem h
 rw[Zbi t,List.length_cons,ZfT hi]
 simp;omega
def T.hasB(t:T)(c:Nat):Bool:=((if c / 64=0 then t.s0 else if c / 64=1 then t.s1 else if c / 64=2 then t.s2 else t.s3).toNat).testBit (c % 64)
end Go.Rx
namespace Go.Rx
open Go Go.Eng Go.RowKit
def wdN(f j:Nat):Nat:=(f >>> (64*j)) % 2 ^ 64
theorem ZuE(f j:Nat):wdN f j < 18446744073709551616:=by
 unfold wdN
 exact Nat.mod_lt _ (by decide)
theorem Zo7(f j k:Nat):(wdN f j).testBit k=(decide (k < 64)&&f.testBit (64*j+k)):=by
 unfold wdN
 rw[Nat.testBit_mod_two_pow,Nat.testBit_shiftRight]
theorem Zxx(f g j:Nat):wdN (f|||g) j=wdN f j|||wdN g j:=by
 apply Nat.eq_of_testBit_eq
 intro k
 simp only[Zo7,Nat.testBit_or]
 cases decide (k < 64) <;> simp
theorem Zwg{q r j:Nat}(hr:r < 64):wdN (2 ^ (64*q+r)) j=if j=q then 2 ^ r else 0:=by
 apply Nat.eq_of_testBit_eq
 intro k
 rw[Zo7,Nat.testBit_two_pow]
 by_cases hj:j=q
 ·subst hj
  rw[if_pos rfl,Nat.testBit_two_pow]
  by_cases hk:k < 64
  ·simp[hk]
  ·have:¬r=k:=by omega
   simp[hk,this]
 ·rw[if_neg hj]
  simp only[Nat.zero_testBit,Bool.and_eq_false_iff,decide_eq_false_iff_not]
  omega
theorem ZvG(n:Nat)(h:n < 18446744073709551616):IntKind.u64.wrap (n:Int)=n:=by
 unfold IntKind.wrap
 have e:(2:Int) ^ 64=18446744073709551616:=by decide
 simp only[IntKind.bits,IntKind.signed,Bool.false_and,Bool.false_eq_true,if_false,e]
 omega
theorem Zy4(a:Nat)(h:a < 18446744073709551616):(BitVec.ofInt 64 (a:Int)).toNat=a:=by
 rw[BitVec.toNat_ofInt]
 have e:((2:Nat) ^ 64:Nat)=18446744073709551616:=by decide
 rw[e];omega
theorem ZuF(a b:Nat)(ha:a < 18446744073709551616)(hb:b < 18446744073709551616):IntKind.u64.wrap ((BitVec.ofInt 64 (a:Int)|||BitVec.ofInt 64 (b:Int)).toNat:Int)=((a|||b:Nat):Int):=by
 rw[BitVec.toNat_or,Zy4 a ha,Zy4 b hb]
 exact ZvG _ (Nat.or_lt_two_pow (n:=64) ha hb)
theorem Zrt(a r:Nat)(ha:a < 18446744073709551616):(IntKind.u64.wrap ((BitVec.ofInt 64 (Int.fdiv (a:Int) (2 ^ r))&&&BitVec.ofInt 64 1).toNat:Int) == 1)=a.testBit r:=by
 have e:Int.fdiv (a:Int) (2 ^ r)=((a >>> r:Nat):Int):=by
  rw[Nat.shiftRight_eq_div_pow,Int.fdiv_eq_ediv_of_nonneg _ (Int.pow_nonneg (by omega))]
  push_cast
  rfl
 have bB:a >>> r < 18446744073709551616:=Nat.lt_of_le_of_lt (Nat.shiftRight_le a r) ha
 rw[e,BitVec.toNat_and,Zy4 _ bB]
 have h1:(BitVec.ofInt 64 1).toNat=1:=by decide
 rw[h1,ZvG _ (Nat.lt_of_le_of_lt Nat.and_le_left bB),Nat.and_one_is_mod]
 have e2:a.testBit r=decide (a >>> r % 2=1):=by
  rw[Nat.shiftRight_eq_div_pow];exact Nat.testBit_eq_decide_div_mod_eq
 rw[e2,Bool.eq_iff_iff]
 simp only[beq_iff_eq,decide_eq_true_eq]
 omega
def plL(f:Nat):List Value:=[.int .u64 (wdN f 0:Nat),.int .u64 (wdN f 1:Nat),.int .u64 (wdN f 2:Nat),.int .u64 (wdN f 3:Nat),.int .u64 (wdN f 4:Nat),.int .u64 (wdN f 5:Nat),.int .u64 (wdN f 6:Nat),.int .u64 (wdN f 7:Nat),.int .u64 (wdN f 8:Nat)]
def plV(f:Nat):Value:=.agg #[.int .u64 (wdN f 0:Nat),.int .u64 (wdN f 1:Nat),.int .u64 (wdN f 2:Nat),.int .u64 (wdN f 3:Nat),.int .u64 (wdN f 4:Nat),.int .u64 (wdN f 5:Nat),.int .u64 (wdN f 6:Nat),.int .u64 (wdN f 7:Nat),.int .u64 (wdN f 8:Nat)]
theorem ZtS{f j:Nat}(h:j < 9):(plL f)[j]?=some (.int .u64 (wdN f j:Nat)):=by
 have:j=0\/j=1\/j=2\/j=3\/j=4\/j=5\/j=6\/j=7\/j=8:=by omega
 rcases this with rfl|rfl|rfl|rfl|rfl|rfl|rfl|rfl|rfl <;> rfl
theorem ZyC{q r:Nat}(hq:q < 9)(hr:r < 64):Zam (List.replicate 9 (Value.int .u64 0)) q [.int .u64 ((2 ^ r:Nat):Int)]=plL (2 ^ (64*q+r)):=by
 unfold plL
 simp only[Zwg hr]
 have:q=0\/q=1\/q=2\/q=3\/q=4\/q=5\/q=6\/q=7\/q=8:=by omega
 rcases this with rfl|rfl|rfl|rfl|rfl|rfl|rfl|rfl|rfl <;> rfl
def orL(f g k:Nat):List Value:=(List.range 9).map λj=>.int .u64 ((if j < k then wdN (f|||g) j else wdN f j:Nat):Int)
theorem Zwh{f g k j:Nat}(h:j < 9):(orL f g k)[j]?=some (.int .u64 ((if j < k then wdN (f|||g) j else wdN f j:Nat):Int)):=by
 simp[orL,h]
theorem ZuG{f g k:Nat}(h:k < 9):Zam (orL f g k) k [.int .u64 ((wdN f k|||wdN g k:Nat):Int)]=orL f g (k+1):=by
 rw[<-Zxx]
 have:k=0\/k=1\/k=2\/k=3\/k=4\/k=5\/k=6\/k=7\/k=8:=by omega
 rcases this with rfl|rfl|rfl|rfl|rfl|rfl|rfl|rfl|rfl <;> rfl
def Byt(m:Mem)(a:Option Addr)(s:List Nat):Prop:=(s=[]\/∃b o,a=some ⟨b,o,none⟩/\m.reads b o (s.map λc:Nat=>Value.int .u8 c))/\∀c∈s,c < 256
theorem Byt.mono{m m':Mem}{a s}(h:Byt m a s)(hm:m.le m'):Byt m' a s:=by
 refine⟨?_,h.2⟩
 rcases h.1 with h|⟨b,o,h1,h2⟩
 ·exact .inl h
 ·exact .inr ⟨b,o,h1,h2.mono hm⟩
theorem Byt.get{m:Mem}{a s}(h:Byt m a s){i c:Nat}(hi:s[i]?=some c):(∃b o,a=some ⟨b,o,none⟩/\m b (o+i)=some (.int .u8 c))/\c < 256:=by
 refine⟨?_,h.2 c (List.mem_of_getElem? hi)⟩
 rcases h.1 with h|⟨b,o,h1,h2⟩
 ·subst h;simp at hi
 ·exact⟨b,o,h1,h2 i _ (by rw[List.getElem?_map,hi];rfl)⟩
def Zo8(t:T)(back:Bool)(f i c out:Nat):Nat:=if(f.testBit (if back then i+1 else i)&&t.hasB c)=true then out|||2 ^ (if back then i else i+1)else out
def Zr5(t:T)(back:Bool)(f:Nat):List Nat->Nat->Nat->Nat
 | [],_,out=>out
 | c::s,i,out=>Zr5 t back f s (i+1) (Zo8 t back f i c out)
def ZvH(g:Nat->Nat):Nat->Nat->Nat
 | 0,f=>f
 | n+1,f=>ZvH g n (g f)
def ZpX(g:Nat->Nat)(mx:Int):Nat->Int->Nat->Nat->Nat
 | 0,_,out,_=>out
 | n+1,k,out,last=>if k=mx then out else if out|||g last=out then out else ZpX g mx n (IntKind.i64.wrap (k+1)) (out|||g last) (g last)
@[irreducible] def Zy5:Nat:=576
theorem Zo9:Zy5=576:=by unfold Zy5;rfl
abbrev Zcn:Nat:=2 ^ Zy5
theorem Zru{n:Nat}(h:n < 576):2 ^ n < Zcn:=Nat.pow_lt_pow_right (by omega) (by rw[Zo9];exact h)
def Zwi(g:Nat->Nat)(mn mx:Int)(f:Nat):Nat:=ZpX g mx (Zcn+1) mn (ZvH g mn.toNat f) (ZvH g mn.toNat f)
mutual
def T.lead(s:List Nat)(back:Bool):T->Nat->Nat
 | .node k s0 s1 s2 s3 mn mx a c l=>λf=>
  if k=1 then f else if k=2 then Zr5 (.node k s0 s1 s2 s3 mn mx a c l) back f s 0 0
  else if k=3 then(if back then Zgd s back l f else ZgQ s back l f)
  else if k=4 then Zqr s back l f 0
  else if k=5 then Zwi (ZfM s back l) mn mx f
  else if k=6 then ZfM s back l f else 0
def ZgQ(s:List Nat)(back:Bool):List T->Nat->Nat
 | []=>λf=>f
 | t::l=>λf=>ZgQ s back l (t.lead s back f)
def Zgd(s:List Nat)(back:Bool):List T->Nat->Nat
 | []=>λf=>f
 | t::l=>λf=>t.lead s back (Zgd s back l f)
def Zqr(s:List Nat)(back:Bool):List T->Nat->Nat->Nat
 | []=>λ_ out=>out
 | t::l=>λf out=>Zqr s back l f (out|||t.lead s back f)
def ZfM(s:List Nat)(back:Bool):List T->Nat->Nat
 | []=>λf=>f
 | t::_=>λf=>t.lead s back f
end
section
variable {s:List Nat} {back:Bool}
theorem ZuH{t:T}(h:t.k=0)(f:Nat):t.lead s back f=0:=by cases t;simp only[T.k]at h;subst h;simp[T.lead]
theorem Zwj{t:T}(h:t.k=1)(f:Nat):t.lead s back f=f:=by cases t;simp only[T.k]at h;subst h;simp[T.lead]
theorem Zwk{t:T}(h:t.k=2)(f:Nat):t.lead s back f=Zr5 t back f s 0 0:=by cases t;simp only[T.k]at h;subst h;simp[T.lead]
theorem ZuI{t:T}(h:t.k=3)(f:Nat):t.lead s back f=if back then Zgd s back t.subs f else ZgQ s back t.subs f:=by cases t;simp only[T.k]at h;subst h;simp[T.lead,T.subs]
theorem Zwl{t:T}(h:t.k=4)(f:Nat):t.lead s back f=Zqr s back t.subs f 0:=by cases t;simp only[T.k]at h;subst h;simp[T.lead,T.subs]
theorem Zwm{t:T}(h:t.k=5)(f:Nat):t.lead s back f=Zwi (ZfM s back t.subs) t.mn t.mx f:=by cases t;simp only[T.k]at h;subst h;simp[T.lead,T.subs,T.mn,T.mx]
theorem Zwn{t:T}(h:t.k=6)(f:Nat):t.lead s back f=ZfM s back t.subs f:=by cases t;simp only[T.k]at h;subst h;simp[T.lead,T.subs]
theorem ZmE{g:Nat->Nat}{mx:Int}{n:Nat}{k:Int}{out last:Nat}:ZpX g mx (n+1) k out last=(if k=mx then out else if out|||g last=out then out else ZpX g mx n (IntKind.i64.wrap (k+1)) (out|||g last) (g last)):=rfl
theorem Zqs(t:T)(l:List T)(f:Nat):ZgQ s back (t::l) f=ZgQ s back l (t.lead s back f):=by rw[ZgQ]
theorem Zpa(t:T)(l:List T)(f out:Nat):Zqr s back (t::l) f out=Zqr s back l f (out|||t.lead s back f):=by rw[Zqr]
theorem Zrv(f out:Nat):Zqr s back [] f out=out:=by rw[Zqr]
theorem Zqt(l:List T)(x:T)(f:Nat):Zgd s back (l++[x]) f=Zgd s back l (x.lead s back f):=by
 induction l with
 | nil=>simp[Zgd]
 | cons t l ih=>simp[Zgd,ih]
end
theorem ZkH{α:Type}{l:List α}{i:Nat}{x:α}(h:l[i]?=some x):l.drop i=x::l.drop (i+1):=by
 obtain⟨h1,h2⟩:=List.getElem?_eq_some_iff.1 h
 rw[List.drop_eq_getElem_cons h1,h2]
theorem Ziu{α:Type}{l:List α}{i:Nat}{x:α}(h:l[i]?=some x):l.take (i+1)=l.take i++[x]:=by
 rw[List.take_add_one,h];rfl
theorem ZuJ{t:T}{back:Bool}{f i c out:Nat}(hi:i < 575)(h:out < Zcn):Zo8 t back f i c out < Zcn:=by
 have hj:(if back then i else i+1) < 576:=by cases back <;> simp <;> omega
 have hp:2 ^ (if back then i else i+1) < Zcn:=Zru hj
 have ho:=Nat.or_lt_two_pow h hp
 unfold Zo8
 by_cases hc:(f.testBit (if back then i+1 else i)&&t.hasB c)=true
 ·rw[if_pos hc];exact ho
 ·rw[if_neg hc];exact h
theorem ZtT{t:T}{back:Bool}{f:Nat}:∀(s:List Nat)(i out:Nat),i+s.length < 575->out < Zcn->Zr5 t back f s i out < Zcn
 | [],_,_,_,h=>h
 | c::s,i,out,hi,h=>ZtT s (i+1) _ (by simp at hi;omega) (ZuJ (by simp at hi;omega) h)
theorem Zpb{g:Nat->Nat}(hg:∀f,f < Zcn->g f < Zcn):∀(n f:Nat),f < Zcn->ZvH g n f < Zcn
 | 0,_,h=>h
 | n+1,f,h=>Zpb hg n _ (hg _ h)
theorem Zrw{g:Nat->Nat}{mx:Int}(hg:∀f,f < Zcn->g f < Zcn):∀(n:Nat)(k:Int)(out last:Nat),out < Zcn->last < Zcn->ZpX g mx n k out last < Zcn
 | 0,_,_,_,h,_=>h
 | n+1,k,out,last,h,h'=>by
  unfold ZpX
  split
  ·exact h
  ·split
   ·exact h
   ·exact Zrw hg n _ _ _ (Nat.or_lt_two_pow h (hg _ h')) (hg _ h')
section
variable (s:List Nat) (back:Bool) (hs:s.length<=512)
include hs
mutual
theorem Zfj:∀(t:T)(f:Nat),f < Zcn->t.lead s back f < Zcn
 | .node k s0 s1 s2 s3 mn mx a c l,f,h=>by
  unfold T.lead
  split
  ·exact h
  split
  ·exact ZtT s 0 0 (by omega) (Nat.two_pow_pos _)
  split
  ·split
   ·exact Zn2 l f h
   ·exact Zrx l f h
  split
  ·exact ZtU l f 0 h (Nat.two_pow_pos _)
  split
  ·exact Zrw (λf h=>Zlp l f h) _ _ _ _ (Zpb (λf h=>Zlp l f h) _ _ h) (Zpb (λf h=>Zlp l f h) _ _ h)
  split
  ·exact Zlp l f h
  ·exact Nat.two_pow_pos _
theorem Zrx:∀(l:List T)(f:Nat),f < Zcn->ZgQ s back l f < Zcn
 | [],f,h=>by unfold ZgQ;exact h
 | t::l,f,h=>by unfold ZgQ;exact Zrx l _ (Zfj t f h)
theorem Zn2:∀(l:List T)(f:Nat),f < Zcn->Zgd s back l f < Zcn
 | [],f,h=>by unfold Zgd;exact h
 | t::l,f,h=>by unfold Zgd;exact Zfj t _ (Zn2 l f h)
theorem ZtU:∀(l:List T)(f out:Nat),f < Zcn->out < Zcn->Zqr s back l f out < Zcn
 | [],f,out,h,h'=>by unfold Zqr;exact h'
 | t::l,f,out,h,h'=>by unfold Zqr;exact ZtU l f _ h (Nat.or_lt_two_pow h' (Zfj t f h))
theorem Zlp:∀(l:List T)(f:Nat),f < Zcn->ZfM s back l f < Zcn
 | [],f,h=>by unfold ZfM;exact h
 | t::l,f,h=>by unfold ZfM;exact Zfj t f h
end
end
theorem Zxy{f g:Nat}(hf:f < Zcn)(hg:g < Zcn)(h:∀j,j < 9->wdN f j=wdN g j):f=g:=by
 apply Nat.eq_of_testBit_eq
 intro i
 by_cases hi:i < 576
 ·have e:=congrArg (λw=>Nat.testBit w (i % 64)) (h (i / 64) (by omega))
  simp only[Zo7,show 64*(i / 64)+i % 64=i by omega,show i % 64 < 64 by omega,decide_true,Bool.true_and]at e
  exact e
 ·rw[Nat.testBit_lt_two_pow (Nat.lt_of_lt_of_le hf (Nat.pow_le_pow_right (by omega) (by rw[Zo9];omega))),Nat.testBit_lt_two_pow (Nat.lt_of_lt_of_le hg (Nat.pow_le_pow_right (by omega) (by rw[Zo9];omega)))]
abbrev PLK:=Int->Int->Int->Int->Int->Int->Int->Int->Int->Mem->Prop
theorem Zmc{X:Nat}{m:Mem}{K:PLK}(k:∀m',m.le m'->K (wdN X 0:Nat) (wdN X 1:Nat) (wdN X 2:Nat) (wdN X 3:Nat) (wdN X 4:Nat) (wdN X 5:Nat) (wdN X 6:Nat) (wdN X 7:Nat) (wdN X 8:Nat) m'):
  ∀(n0 n1 n2 n3 n4 n5 n6 n7 n8:Int)(m':Mem),m.le m'->Ret (plV X) (.agg #[.int .u64 n0,.int .u64 n1,.int .u64 n2,.int .u64 n3,.int .u64 n4,.int .u64 n5,.int .u64 n6,.int .u64 n7,.int .u64 n8]) m' []->K n0 n1 n2 n3 n4 n5 n6 n7 n8 m':=by
 intro n0 n1 n2 n3 n4 n5 n6 n7 n8 m' hm h
 simp only[Ret,plV,Value.agg.injEq,Array.mk.injEq,List.cons.injEq,Value.int.injEq,true_and,and_true]at h
 obtain⟨rfl,rfl,rfl,rfl,rfl,rfl,rfl,rfl,rfl⟩:=h
 exact k m' hm
theorem Zba{X:Nat}:∀(v:Value)(m':Mem) (css:List (List Value)),Ret (plV X) v m' css->Shape.fits (.agg [.int .u64,.int .u64,.int .u64,.int .u64,.int .u64,.int .u64,.int .u64,.int .u64,.int .u64]) v=true:=λv _ _ e=>by rw[e];rfl
def T.walks(t:T):Prop:=t.k=0\/∀x∈t.nodes,x.right=true
theorem ZsJ{t x:T}(h:t.walks)(h0:t.k≠0)(hx:x∈t.subs):x.walks:=by
 rcases h with h|h
 ·exact absurd h h0
 ·refine .inr λy hy=>h y ?_
  obtain⟨i,hi⟩:=List.getElem?_of_mem hx
  rw[Zbi,ZfT hi]
  simp[hy]
def T0:T:=.node 0 0 0 0 0 0 0 none 0 []
def T1:T:=.node 1 0 0 0 0 0 0 none 0 []
theorem Zpc(m:Mem):Rep m T0:=by simp only[T0,Rep];exact⟨by simp,.inl trivial,by constructor <;> decide⟩
theorem ZuK(m:Mem):Rep m T1:=by simp only[T1,Rep];exact⟨by simp,.inl trivial,by constructor <;> decide⟩
def T.isNone(t:T):Bool:=t.k == 0&&(t.light&&(T0.light&&t.same T0))
def T.wrong(t:T)(len:Nat)(i:Int):Int:=if(!t.isNone&&!(t.check == 0))=true then 130 else if(len:Int) > 512 then 3 else if i < 0\/i > len then 2 else 0
theorem Zge{t:T}(h:t.check=0):t.walks:=by
 unfold T.check at h
 split at h
 ·exact absurd h (by decide)
 ·rename_i hc
  have hc':t.clean=true:=by simpa using hc
  unfold T.clean at hc'
  rw[Bool.and_eq_true]at hc'
  exact .inr λx hx=>List.all_eq_true.1 hc'.2 x hx
theorem Zew{t:T}{len:Nat}{i:Int}(h:t.wrong len i=0):t.walks/\len<=512/\0<=i/\i<=len:=by
 unfold T.wrong at h
 split at h
 ·exact absurd h (by decide)
 ·rename_i hc
  split at h
  ·exact absurd h (by decide)
  ·split at h
   ·exact absurd h (by decide)
   ·refine⟨?_,by omega,by omega,by omega⟩
    simp only[Bool.and_eq_true,Bool.not_eq_true',beq_eq_false_iff_ne,ne_eq,not_and,Decidable.not_not]at hc
    by_cases hn:t.isNone=true
    ·left
     unfold T.isNone at hn
     rw[Bool.and_eq_true]at hn
     simpa using hn.1
    ·exact Zge (hc (by simpa using hn))
structure Rg where
 bg:Bool
 en:Bool
 t:T
def Rg.v(r:Rg):Value:=.agg #[.bool r.bg,.bool r.en,.int .u8 r.t.k,.int .u64 r.t.s0,.int .u64 r.t.s1,.int .u64 r.t.s2,.int .u64 r.t.s3,.int .i64 r.t.mn,.int .i64 r.t.mx,.slice r.t.a r.t.subs.length r.t.c]
def Rg.cs(r:Rg):List Value:=[.bool r.bg,.bool r.en,.int .u8 r.t.k,.int .u64 r.t.s0,.int .u64 r.t.s1,.int .u64 r.t.s2,.int .u64 r.t.s3,.int .i64 r.t.mn,.int .i64 r.t.mx,.slice r.t.a r.t.subs.length r.t.c]
def Rgs(m:Mem)(a:Option Addr)(l:List Rg):Prop:=l.length<=1000000000000000/\(l=[]\/∃b o,a=some ⟨b,o,none⟩/\∀i r,l[i]?=some r->m.reads b (o+i*10) r.cs)/\∀r∈l,Rep m r.t
theorem Rgs.mono{m m':Mem}{a l}(h:Rgs m a l)(hm:m.le m'):Rgs m' a l:=by
 refine⟨h.1,?_,λr hr=>(h.2.2 r hr).mono hm⟩
 rcases h.2.1 with h|⟨b,o,h1,h2⟩
 ·exact .inl h
 ·exact .inr ⟨b,o,h1,λi r hi=>(h2 i r hi).mono hm⟩
def ZbR(f:Nat):List Nat:=(List.range 513).filter λi=>f.testBit i
theorem Zn3(f:Nat):(ZbR f).length<=513:=by
 have:=List.length_filter_le (λi=>f.testBit i) (List.range 513)
 simpa[ZbR]using this
def ZmF(n:Nat):List Nat->Option Nat
 | []=>none
 | i::_=>if i > n then none else some i
def Rg.from(s:List Nat)(n:Nat)(r:Rg):Option Nat:=if(r.en&&decide ((n:Int) < s.length))=true then none else if r.bg then(if(r.t.lead s true (2 ^ n)).testBit 0 then some 0 else none)else
 ZmF n (ZbR (r.t.lead s true (2 ^ n)))
def ZmG:Option Nat->List Value
 | some i=>[.int .i64 (i:Nat),.bool true]
 | none=>[.int .i64 0,.bool false]
def Rg.wrong(r:Rg)(len:Nat)(n:Int):Int:=if r.t.check=0 then r.t.wrong len n else 130
def Za7(l:List Rg)(len:Nat)(n:Int):Int:=if(l.length:Int) > 64 then 5 else if l.all (λr=>r.t.check == 0)then T1.wrong len n else 130
def Zex(s:List Nat)(n:Nat):List Rg->Nat->Option (Nat×Nat)
 | [],_=>none
 | r::l,k=>match r.from s n with
  | some i=>some (k,i)
  | none=>Zex s n l (k+1)
def ZsK(n:Nat):Option (Nat×Nat)->List Value
 | some (k,i)=>[.agg #[.int .i64 (k:Nat),.int .i64 (i:Nat),.int .i64 (n:Nat)],.bool true]
 | none=>[.agg #[.int .i64 0,.int .i64 0,.int .i64 0],.bool false]
def Zc6(l:List Rg)(s:List Nat):Nat->Nat->Option (Nat×Nat×Nat)
 | 0,_=>none
 | c+1,n=>match Zex s n l 0 with
  | some (k,i)=>some (k,i,n)
  | none=>Zc6 l s c (n+1)
def Znv:Option (Nat×Nat×Nat)->List Value
 | some (k,i,n)=>[.agg #[.int .i64 (k:Nat),.int .i64 (i:Nat),.int .i64 (n:Nat)],.bool true]
 | none=>[.agg #[.int .i64 0,.int .i64 0,.int .i64 0],.bool false]
def Zb1(φ:T->Prop):Value->Mem->List (List Value)->Prop:=λv m' _=>∃t:T,v=t.v/\Rep m' t/\φ t
abbrev TRK:=Int->Int->Int->Int->Int->Int->Int->Option Addr->Nat->Nat->Mem->Prop
theorem Zbo{φ:T->Prop}{m:Mem}{K:TRK}(k:∀(t:T)(m':Mem),m.le m'->Rep m' t->φ t->K t.k t.s0 t.s1 t.s2 t.s3 t.mn t.mx t.a t.subs.length t.c m'):
  ∀(n0 n1 n2 n3 n4 n5 n6:Int)(a:Option Addr)(n c:Nat)(m':Mem),m.le m'->Zb1 φ (.agg #[.int .u8 n0,.int .u64 n1,.int .u64 n2,.int .u64 n3,.int .u64 n4,.int .i64 n5,.int .i64 n6,.slice a n c]) m' []->K n0 n1 n2 n3 n4 n5 n6 a n c m':=by
 rintro n0 n1 n2 n3 n4 n5 n6 a n c m' hm ⟨t,hv,hr,hp⟩
 simp only[T.v,Value.agg.injEq,Array.mk.injEq,List.cons.injEq,Value.int.injEq,Value.slice.injEq,true_and,and_true]at hv
 obtain⟨rfl,rfl,rfl,rfl,rfl,rfl,rfl,rfl,rfl,rfl⟩:=hv
 exact k t m' hm hr hp
theorem ZaA{φ:T->Prop}:∀(v:Value)(m':Mem) (css:List (List Value)),Zb1 φ v m' css->Shape.fits (.agg [.int .u8,.int .u64,.int .u64,.int .u64,.int .u64,.int .i64,.int .i64,.slice]) v=true:=λv _ _ ⟨t,e,_⟩=>by rw[e];rfl
def ZmH(c j:Nat):Int:=if c / 64=j then((2 ^ (c % 64):Nat):Int)else 0
def Zai(c:Nat):T:=.node 2 (ZmH c 0) (ZmH c 1) (ZmH c 2) (ZmH c 3) 0 0 none 0 []
theorem Zlq(c j:Nat):0<=ZmH c j/\ZmH c j < 18446744073709551616:=by
 unfold ZmH
 split
 ·have h:(2:Nat) ^ (c % 64) < 2 ^ 64:=Nat.pow_lt_pow_right (by omega) (by omega)
  have e:(2:Nat) ^ 64=18446744073709551616:=by decide
  rw[e]at h
  generalize (2:Nat) ^ (c % 64)=w at *
  exact⟨by omega,by omega⟩
 ·omega
theorem Zcc(c:Nat)(m:Mem):Rep m (Zai c):=by
 simp only[Zai,Rep]
 exact⟨by simp,.inl trivial,⟨by omega,Zlq c 0,Zlq c 1,Zlq c 2,Zlq c 3,by omega,by omega⟩⟩
def RepL(m:Mem)(a:Option Addr)(l:List T):Prop:=l.length<=1000000000000000/\(l=[]\/∃b o,a=some ⟨b,o,none⟩/\RepAt m b o l)
theorem RepL.mono{m m':Mem}{a l}(h:RepL m a l)(hm:m.le m'):RepL m' a l:=by
 refine⟨h.1,?_⟩
 rcases h.2 with h|⟨b,o,h1,h2⟩
 ·exact .inl h
 ·exact .inr ⟨b,o,h1,h2.mono hm⟩
theorem Rep.subs{m:Mem}{t:T}(h:Rep m t):RepL m t.a t.subs:=Zev h
def Zaw(k mn mx:Int)(a:Option Addr)(c:Nat)(l:List T):T:=.node k 0 0 0 0 mn mx a c l
theorem ZbO{m:Mem}{k mn mx:Int}{a:Option Addr}{c:Nat}{l:List T}(h:RepL m a l)(hk:0<=k/\k < 256)(h1 : -9223372036854775808<=mn/\mn<=9223372036854775807)(h2 : -9223372036854775808<=mx/\mx<=9223372036854775807):Rep m (Zaw k mn mx a c l):=by
 simp only[Zaw,Rep]
 exact⟨h.1,h.2,⟨hk,by omega,by omega,by omega,by omega,h1,h2⟩⟩
theorem ZuL{m:Mem}{b:Nat}{t:T}(h:m.reads b 0 t.cs)(hr:Rep m t):RepL m (some ⟨b,0,none⟩) [t]:=⟨by simp,.inr ⟨b,0,rfl,by simp only[RepAt];exact⟨h,hr,trivial⟩⟩⟩
def ZcD(l:List T):List Value:=(l.map T.cs).flatten
theorem Zcd(l:List T):(ZcD l).length=l.length*8:=by
 induction l with
 | nil=>rfl
 | cons t l ih=>simp[ZcD,T.cs]at ih ⊢;omega
theorem Zpd(l:List T)(t:T):ZcD (l++[t])=ZcD l++t.cs:=by simp[ZcD]
theorem Zdi(l r:List T):ZcD (l++r)=ZcD l++ZcD r:=by simp[ZcD]
theorem Zry{m:Mem}{b:Nat}:∀{o:Nat} {l:List T},m.reads b o (ZcD l)->(∀t∈l,Rep m t)->RepAt m b o l
 | o,[],_,_=>by simp only[RepAt]
 | o,t::l,h,hr=>by
  simp only[RepAt]
  refine⟨λj v hj=>?_,hr t (by simp),Zry (λj v hj=>?_) λx hx=>hr x (by simp[hx])⟩
  ·refine h j v ?_
   simp only[ZcD,List.map_cons,List.flatten_cons]
   rw[List.getElem?_append_left (List.getElem?_eq_some_iff.1 hj).1];exact hj
  ·have:=h (8+j) v (by
    simp only[ZcD,List.map_cons,List.flatten_cons]
    rw[List.getElem?_append_right (by simp[T.cs])]
    have e:8+j - t.cs.length=j:=by simp[T.cs]
    rw[e];exact hj)
   rw[show o+8+j=o+(8+j) by omega];exact this
theorem Ziv{m:Mem}{a:Option Addr}{l:List T}(h:rowRd m a (ZcD l))(hr:∀t∈l,Rep m t)(hl:l.length<=1000000000000000):RepL m a l:=by
 refine⟨hl,?_⟩
 cases l with
 | nil=>exact .inl rfl
 | cons t l=>
  rcases h with h|⟨b,o,h1,h2⟩
  ·simp[ZcD,T.cs]at h
  ·exact .inr ⟨b,o,h1,Zry h2 hr⟩
def T.good(t:T):Bool:=t.nodes.all T.right
def isG(t:T):Bool:=t.k == 6
theorem ZmI(p:T->Bool):∀l:List T,(Zaz l).all p=l.all λt=>t.nodes.all p
 | []=>rfl
 | t::l=>by simp only[Zaz,List.all_append,List.all_cons,ZmI p l]
theorem ZmJ(t:T):t.good=(t.right&&t.subs.all T.good):=by
 unfold T.good;rw[Zbi,List.all_cons,ZmI]
def grL(l:List T):Nat:=(Zaz l).countP isG
def szL(l:List T):Nat:=(Zaz l).length
def T.gr(t:T):Nat:=t.nodes.countP isG
theorem ZmK(l r:List T):szL (l++r)=szL l+szL r:=by unfold szL;rw[ZcB,List.length_append]
theorem ZmL(l r:List T):grL (l++r)=grL l+grL r:=by unfold grL;rw[ZcB,List.countP_append]
theorem Zrz(t:T):szL [t]=t.nodes.length:=by simp[szL,Zaz]
theorem ZrA(t:T):grL [t]=t.gr:=by simp[grL,Zaz,T.gr]
theorem Zn4(t:T):ZfL [t]=t.pos:=by simp[ZfL]
theorem ZuM(t:T)(l:List T):szL (t::l)=t.nodes.length+szL l:=by simp[szL,Zaz]
theorem ZuN(t:T)(l:List T):grL (t::l)=t.gr+grL l:=by simp[grL,Zaz,T.gr,List.countP_append]
theorem Zya(t:T):t.nodes.length=1+szL t.subs:=by rw[Zbi,List.length_cons,szL];omega
theorem Zyb(t:T):t.gr=(if isG t=true then 1 else 0)+grL t.subs:=by
 unfold T.gr;rw[Zbi,List.countP_cons,grL];omega
def ZpY(k:Int)(t:T):List T:=if t.k=k then t.subs else if k=3/\t.k=1 then[]else[t]
def Zqu(k:Int)(a:Option Addr)(c:Nat):List T->T
 | []=>T1
 | [x]=>x
 | x::y::l=>Zaw k 0 0 a c (x::y::l)
theorem Zlr{t:T}{k:Int}(h:t.has k=false):∀x∈t.subs,x.k≠k:=by
 intro x hx e
 unfold T.has at h
 have:=List.any_eq_false.1 h x hx
 simp[e]at this
theorem Zwo{t:T}{k:Int}(h:∀x∈t.subs,x.k≠k):t.has k=false:=by
 unfold T.has
 rw[List.any_eq_false]
 intro x hx
 have:=h x hx
 simpa using this
theorem ZrB{k:Int}{t:T}(hk:k=3\/k=4)(hg:t.good=true)(hp:t.pos<=10000):(∀x∈ZpY k t,x.good=true/\x.k≠k/\(k=3->x.k≠1))/\szL (ZpY k t)<=t.nodes.length/\grL (ZpY k t)<=t.gr/\ZfL (ZpY k t)<=t.pos:=by
 have hg':=hg
 rw[ZmJ,Bool.and_eq_true,List.all_eq_true]at hg'
 unfold ZpY
 split
 ·rename_i eH
  refine⟨λx hx=>⟨hg'.2 x hx,?_⟩,by rw[Zya];omega,by rw[Zyb];omega,?_⟩
  ·have hr:=hg'.1
   unfold T.right at hr
   rw[Bool.and_eq_true]at hr
   have hr:=hr.2
   rcases hk with rfl|rfl
   ·simp only[eH]at hr
    simp at hr
    exact⟨Zlr hr.2.2 x hx,λ_=>Zlr hr.2.1 x hx⟩
   ·simp only[eH]at hr
    simp at hr
    exact⟨Zlr hr.2 x hx,λh=>by omega⟩
  ·rw[ZsI]at hp ⊢
   have h5:¬t.k=5:=by omega
   have h2:¬t.k=2:=by omega
   unfold ZtP at hp ⊢
   rw[if_neg h5,if_neg h2,Int.zero_add]at hp ⊢
   unfold Znt at hp ⊢
   split at hp
   ·omega
   ·split <;> omega
 ·rename_i eH
  split
  ·refine⟨λx hx=>by simp at hx,by simp[szL,Zaz],by simp[grL,Zaz],?_⟩
   simp only[ZfL];exact(Znu t).1
  ·rename_i uo
   refine⟨λx hx=>?_,by rw[Zrz];exact Nat.le_refl _,by rw[ZrA];exact Nat.le_refl _,by rw[Zn4];exact Int.le_refl _⟩
   simp at hx;subst hx
   exact⟨hg,eH,λh=>λh1=>uo ⟨h,h1⟩⟩
theorem ZsL{k:Int}(hk:k=3\/k=4)(a:Option Addr)(c:Nat):∀{l:List T},(∀x∈l,x.good=true/\x.k≠k/\(k=3->x.k≠1))->(Zqu k a c l).good=true/\(Zqu k a c l).nodes.length<=1+szL l/\(Zqu k a c l).gr<=grL l/\(Zqu k a c l).pos<=ZfL l
 | [],_=>⟨show T1.good=true by decide,show T1.nodes.length<=1 by decide,show T1.gr<=0 by decide,show T1.pos<=0 by decide⟩
 | [x],h=>by
  rw[Zrz,ZrA,Zn4]
  exact⟨(h x (by simp)).1,by show x.nodes.length<=_;omega,Nat.le_refl _,Int.le_refl _⟩
 | x::y::l,h=>by
  show(Zaw k 0 0 a c (x::y::l)).good=true/\(Zaw k 0 0 a c (x::y::l)).nodes.length<=_/\(Zaw k 0 0 a c (x::y::l)).gr<=_/\(Zaw k 0 0 a c (x::y::l)).pos<=_
  have hs:(Zaw k 0 0 a c (x::y::l)).subs=x::y::l:=rfl
  have eH:(Zaw k 0 0 a c (x::y::l)).k=k:=rfl
  have hz:(Zaw k 0 0 a c (x::y::l)).setZ=true:=rfl
  have j3:(Zaw k 0 0 a c (x::y::l)).mn=0:=rfl
  have ii:(Zaw k 0 0 a c (x::y::l)).mx=0:=rfl
  refine⟨?_,by rw[Zya,hs];exact Nat.le_refl _,?_,?_⟩
  ·rw[ZmJ,Bool.and_eq_true,List.all_eq_true,hs]
   refine⟨?_,λz hz=>(h z hz).1⟩
   have h1:k=3->(Zaw k 0 0 a c (x::y::l)).has 1=false:=λe=>Zwo λz hz=>(h z hz).2.2 e
   have h2:(Zaw k 0 0 a c (x::y::l)).has k=false:=Zwo λz hz=>(h z hz).2.1
   unfold T.right
   rw[eH,hz,j3,ii,hs]
   rcases hk with rfl|rfl
   ·simp[h1 rfl,h2]
   ·simp[h2]
  ·rw[Zyb,hs,isG,eH]
   rcases hk with rfl|rfl <;> simp
  ·rw[ZsI,eH,j3,ii,hs]
   unfold ZtP
   rw[if_neg (by omega),if_neg (by omega),Int.zero_add]
   exact(Zrq _ _).1
structure J (i:Nat)(ts:List T)(u g:Nat):Prop where
 good:∀t∈ts,t.good=true
 sz:szL ts<=i
 pos:ZfL ts<=(i*u:Nat)
 u1:1<=u
 u16:u<=16
 gr:grL ts<=g
 g9:g<=9
theorem J.zero:J 0 [] 1 0:=⟨by simp,by simp[szL,Zaz],by simp[ZfL],by omega,by omega,by simp[grL,Zaz],by omega⟩
theorem J.skip{i ts u g}(h:J i ts u g):J (i+1) ts u g:=
 ⟨h.good,by have:=h.sz;omega,by have:=h.pos;have e:(i+1)*u=i*u+u:=Nat.succ_mul i u;rw[e];omega,h.u1,h.u16,h.gr,h.g9⟩
theorem J.push{i ts u g}(h:J i ts u g){t:T}(hg:t.good=true)(hs:t.nodes.length=1)(hp:t.pos<=1)(hr:t.gr=0):J (i+1) (ts++[t]) u g:=by
 refine⟨λx hx=>?_,?_,?_,h.u1,h.u16,?_,h.g9⟩
 ·rcases List.mem_append.1 hx with hx|hx
  ·exact h.good x hx
  ·simp at hx;subst hx;exact hg
 ·rw[ZmK,Zrz,hs];have:=h.sz;omega
 ·rw[Zhq,Zn4];have:=h.pos;have:=h.u1;have e:(i+1)*u=i*u+u:=Nat.succ_mul i u;rw[e];omega
 ·rw[ZmL,ZrA,hr];have:=h.gr;omega
structure F (t:T)(l:List T):Prop where
 good:t.good=true
 goods:∀x∈l,x.good=true
 sz:t.nodes.length+szL l+l.length<=60
 pos:t.pos+ZfL l<=400
 gr:t.gr+grL l<=9
theorem F.step{t x:T}{l:List T}(h:F t (x::l))(a:Option Addr)(c:Nat):F (Zqu 4 a c (ZpY 4 t++ZpY 4 x)) l:=by
 have h1:=h.sz
 have h2:=h.pos
 have h3:=h.gr
 rw[ZuM,List.length_cons]at h1
 rw[ZuN]at h3
 simp only[ZfL]at h2
 have n1:=ZkG l
 have n2:=(Znu x).1
 have n3:=(Znu t).1
 obtain⟨a1,a2,a3,a4⟩:=ZrB (.inr rfl) h.good (by omega) (t:=t)
 obtain⟨b1,b2,b3,b4⟩:=ZrB (.inr rfl) (h.goods x (by simp)) (by omega)
 obtain⟨c1,c2,c3,c4⟩:=ZsL (.inr rfl) a c (l:=ZpY 4 t++ZpY 4 x) (λz hz=>by
  rcases List.mem_append.1 hz with hz|hz
  ·exact a1 z hz
  ·exact b1 z hz)
 rw[ZmK]at c2
 rw[ZmL]at c3
 rw[Zhq]at c4
 exact⟨c1,λz hz=>h.goods z (by simp[hz]),by omega,by omega,by omega⟩
theorem F.done{t:T}{l:List T}(h:F t l):t.check=0:=by
 have h1:=h.sz
 have h2:=h.pos
 have h3:=h.gr
 have n1:=ZkG l
 have hl:t.light=true:=by unfold T.light;exact decide_eq_true (by omega)
 have hc:t.clean=true:=by unfold T.clean;rw[hl];exact h.good
 have hg:((t.nodes.countP λx=>x.k == 6:Nat))=t.gr:=rfl
 unfold T.check
 rw[hc]
 unfold T.size T.positions T.groups
 rw[hl,hg]
 simp only[if_true,Bool.true_eq_false,if_false]
 rw[if_neg (by omega),if_neg (by omega),if_neg (by omega)]
theorem ZmM{t:T}(h:t.check=0):t.good=true/\t.nodes.length<=120:=by
 unfold T.check at h
 split at h
 ·exact absurd h (by decide)
 ·rename_i hc
  have hc':t.clean=true:=by simpa using hc
  unfold T.clean at hc'
  rw[Bool.and_eq_true]at hc'
  split at h
  ·exact absurd h (by decide)
  ·rename_i hz
   unfold T.size at hz
   rw[hc'.1]at hz
   simp only[if_true]at hz
   exact⟨hc'.2,by omega⟩
def bwL(f:Nat):List Value:=[.int .u64 (wdN f 0:Nat),.int .u64 (wdN f 1:Nat),.int .u64 (wdN f 2:Nat),.int .u64 (wdN f 3:Nat),.int .u64 (wdN f 4:Nat),.int .u64 (wdN f 5:Nat),.int .u64 (wdN f 6:Nat)]
def ZyD(f:Nat):List Nat:=(List.range 448).filter λi=>f.testBit i
structure Pt where
 first:Nat
 last:Nat
 null:Bool
structure Ms where
 sets:List (Int×Int×Int×Int)
 fol:List Nat
def Pt.v(p:Pt):Value:=.agg #[.int .u64 (wdN p.first 0:Nat),.int .u64 (wdN p.first 1:Nat),.int .u64 (wdN p.first 2:Nat),.int .u64 (wdN p.first 3:Nat),.int .u64 (wdN p.first 4:Nat),.int .u64 (wdN p.first 5:Nat),.int .u64 (wdN p.first 6:Nat),.int .u64 (wdN p.last 0:Nat),.int .u64 (wdN p.last 1:Nat),.int .u64 (wdN p.last 2:Nat),.int .u64 (wdN p.last 3:Nat),.int .u64 (wdN p.last 4:Nat),.int .u64 (wdN p.last 5:Nat),.int .u64 (wdN p.last 6:Nat),.bool p.null]
def Pt.cs(p:Pt):List Value:=bwL p.first++bwL p.last++[Value.bool p.null]
def ZvI(fol:List Nat)(a b:Nat):List Nat:=fol.mapIdx λi x=>if a.testBit i then x|||b else x
def ZyE(p q:Pt):Pt:=⟨if p.null then p.first|||q.first else p.first,if q.null then q.last|||p.last else q.last,p.null&&q.null⟩
def Zwp(p q:Pt)(s:Ms):Pt×Ms:=(ZyE p q,⟨s.sets,ZvI s.fol p.last q.first⟩)
def Zzo(p q:Pt):Pt:=⟨p.first|||q.first,p.last|||q.last,p.null||q.null⟩
def Zzb(f:Ms->Pt×Ms)(mn mx:Int)(n:Nat):Nat->Nat->Pt->Ms->Pt×Ms
 | 0,_,out,s=>(out,s)
 | q+1,i,out,s=>
  let x:=(f s).1
  let s1:=(f s).2
  let s2:Ms:=if mx=-1/\i+1=n then⟨s1.sets,ZvI s1.fol x.last x.first⟩ else s1
  let y:Pt:=⟨x.first,x.last,x.null||decide ((i:Int) ≥ mn)⟩
  Zzb f mn mx n q (i+1) (Zwp out y s2).1 (Zwp out y s2).2
def Zzc(mn mx:Int):Nat:=(if mx=-1 then max mn 1 else mx).toNat
mutual
def mk:T->Ms->Pt×Ms
 | .node k s0 s1 s2 s3 mn mx _ _ l,s=>
  if k=0 then(⟨0,0,false⟩,s)
  else if k=1 then(⟨0,0,true⟩,s)
  else if k=2 then(⟨2 ^ s.sets.length,2 ^ s.sets.length,false⟩,⟨s.sets++[(s0,s1,s2,s3)],s.fol++[0]⟩)
  else if k=3 then Zyc l ⟨0,0,true⟩ s
  else if k=4 then Zyd l ⟨0,0,false⟩ s
  else if k=5 then Zzb (λs=>Zzd l s) mn mx (Zzc mn mx) (Zzc mn mx) 0 ⟨0,0,true⟩ s
  else Zzd l s
def Zzd:List T->Ms->Pt×Ms
 | [],s=>(⟨0,0,false⟩,s)
 | t::_,s=>mk t s
def Zyc:List T->Pt->Ms->Pt×Ms
 | [],out,s=>(out,s)
 | t::l,out,s=>Zyc l (Zwp out (mk t s).1 (mk t s).2).1 (Zwp out (mk t s).1 (mk t s).2).2
def Zyd:List T->Pt->Ms->Pt×Ms
 | [],out,s=>(out,s)
 | t::l,out,s=>Zyd l (Zzo out (mk t s).1) (mk t s).2
end
def ZhZ(l:List (Int×Int×Int×Int)):List Value:=l.flatMap λq=>[.int .u64 q.1,.int .u64 q.2.1,.int .u64 q.2.2.1,.int .u64 q.2.2.2]
def ZyF(l:List Nat):List Value:=l.flatMap bwL
def Yof(v0 v1:Value)(b:Nat):Prop:=(Tok.mk v0 4).blk=some b\/(Tok.mk v1 7).blk=some b
def RowOk(m:Mem)(v:Value)(k:Nat)(cs:List Value):Prop:=(k=0/\v=.slice none 0 0)\/∃b c,v=.slice (some ⟨b,0,none⟩) k c/\m.reads b 0 cs/\k≠0
structure MkRow (m:Mem)(v0 v1:Value)(s:Ms):Prop where
 row0:RowOk m v0 s.sets.length (ZhZ s.sets)
 row1:RowOk m v1 s.fol.length (ZyF s.fol)
 ne:∀b,(Tok.mk v0 4).blk=some b->(Tok.mk v1 7).blk≠some b
structure MkOk (M0 m:Mem)(v0 v1:Value)(s:Ms):Prop extends MkRow m v0 v1 s where
 base:M0.le (m.off (Yof v0 v1))
theorem ZsM{m m':Mem}{Y Y':Nat->Prop}(h:(m.off Y).le m')(hn:∀b,Y' b->Y b\/m.free b):(m.off Y).le (m'.off Y'):=λb o v hv=>by
 unfold Mem.off at hv ⊢
 split at hv
 ·cases hv
 ·rename_i hY
  have:¬Y' b:=λh'=>by
   rcases hn b h' with h1|h1
   ·exact hY h1
   ·rw[h1 o]at hv;cases hv
  rw[if_neg this]
  have:=h b o v (by unfold Mem.off;rw[if_neg hY];exact hv)
  exact this
theorem MkOk.next{M0 m m':Mem}{v0 v1 v0' v1':Value}{s s':Ms}(h:MkOk M0 m v0 v1 s)(cL:(m.off (Yof v0 v1)).le m')(hn:∀b,Yof v0' v1' b->Yof v0 v1 b\/m.free b)(hr:MkRow m' v0' v1' s'):MkOk M0 m' v0' v1' s':=
 {hr with base:=mLt h.base (ZsM cL hn) }
theorem MkOk.free{M0 m:Mem}{v0 v1:Value}{s:Ms}(h:MkOk M0 m v0 v1 s){b:Nat}(hb:Yof v0 v1 b):M0.free b:=λo=>by
 cases he:M0 b o with
 | none=>rfl
 | some u=>
  have:=h.base b o u he
  unfold Mem.off at this
  rw[if_pos hb]at this;cases this
theorem MkOk.le{M0 m:Mem}{v0 v1:Value}{s:Ms}(h:MkOk M0 m v0 v1 s):M0.le m:=mLt h.base (Mem.off_le m _)
theorem RowOk.mono{m m':Mem}{v:Value}{k:Nat}{cs:List Value}(h:RowOk m v k cs)(hm:m.le m'):RowOk m' v k cs:=by
 rcases h with h|⟨b,c,h1,h2,h3⟩
 ·exact .inl h
 ·exact .inr ⟨b,c,h1,h2.mono hm,h3⟩
theorem MkRow.mono{m m':Mem}{v0 v1:Value}{s:Ms}(h:MkRow m v0 v1 s)(hm:m.le m'):MkRow m' v0 v1 s:=⟨h.row0.mono hm,h.row1.mono hm,h.ne⟩
def PtIn(n:Nat)(p:Pt):Prop:=(∀i,p.first.testBit i=true->i < n)/\(∀i,p.last.testBit i=true->i < n)
structure MsOk (s:Ms):Prop where
 len:s.fol.length=s.sets.length
 fol:∀(j x:Nat),s.fol[j]?=some x->∀i,x.testBit i=true->i < s.sets.length
theorem PtIn.mono{n n':Nat}{p:Pt}(h:PtIn n p)(hn:n<=n'):PtIn n' p:=⟨λi hi=>Nat.lt_of_lt_of_le (h.1 i hi) hn,λi hi=>Nat.lt_of_lt_of_le (h.2 i hi) hn⟩
theorem Zxz{a b i:Nat}(h:(a|||b).testBit i=true):a.testBit i=true\/b.testBit i=true:=by
 simpa[Nat.testBit_or]using h
theorem MsOk.loop{s:Ms}(h:MsOk s)(a b:Nat)(hb:∀i,b.testBit i=true->i < s.sets.length):MsOk ⟨s.sets,ZvI s.fol a b⟩:=by
 refine⟨by simp[ZvI,h.len],λj x hj i hi=>?_⟩
 simp only[ZvI,List.getElem?_mapIdx]at hj
 obtain⟨y,hy,rfl⟩:=Option.map_eq_some_iff.1 hj
 by_cases lF:a.testBit j=true
 ·rw[if_pos lF]at hi
  rcases Zxz hi with h1|h1
  ·exact h.fol j y hy i h1
  ·exact hb i h1
 ·rw[if_neg lF]at hi
  exact h.fol j y hy i hi
structure Grows (s:Ms)(r:Pt×Ms):Prop where
 le:s.sets.length<=r.2.sets.length
 ok:MsOk r.2
 pt:PtIn r.2.sets.length r.1
theorem Grows.trans{s s1:Ms}{p:Pt}{r:Pt×Ms}(h:Grows s (p,s1))(k:Grows s1 r):Grows s r:=⟨Nat.le_trans h.le k.le,k.ok,k.pt⟩
abbrev QS:=Int×Int×Int×Int
structure Nf where
 sets:List QS
 fol:List (List Int)
 first:List Int
 last:List Int
 empty:Bool
deriving DecidableEq
def Zhr(l:List Int):List Value:=l.map λi=>.int .i64 i
theorem Zpe(l:List Int):(Zhr l).length=l.length:=by simp[Zhr]
def SlI(st:Bool)(l:List Int)(v:Value)(m:Mem):Prop:=∃a c,v=.slice a l.length c/\rowRd m a (Zhr l)/\l.length<=1000000/\(st=true->l=[]->a=none)
def SlQ(st:Bool)(l:List QS)(v:Value)(m:Mem):Prop:=∃a c,v=.slice a l.length c/\rowRd m a (ZhZ l)/\l.length<=1000000/\(st=true->l=[]->a=none)
def FolR(st:Bool)(fol:List (List Int))(v:Value)(m:Mem):Prop:=∃a c vs,v=.slice a fol.length c/\rowRd m a vs/\vs.length=fol.length/\fol.length<=1000000/\∀(i:Nat)(v:Value)(l:List Int),vs[i]?=some v->fol[i]?=some l->SlI st l v m
def NfR(st:Bool)(A:Nf)(v:Value)(m:Mem):Prop:=∃s f x y,v=.agg #[s,f,x,y,.bool A.empty]/\SlQ st A.sets s m/\FolR st A.fol f m/\SlI st A.first x m/\SlI st A.last y m
theorem SlI.mono{st:Bool}{l:List Int}{v:Value}{m m':Mem}(h:SlI st l v m)(k:m.le m'):SlI st l v m':=by
 obtain⟨a,c,h1,h2,h3⟩:=h;exact⟨a,c,h1,h2.mono k,h3⟩
theorem SlQ.mono{st:Bool}{l:List QS}{v:Value}{m m':Mem}(h:SlQ st l v m)(k:m.le m'):SlQ st l v m':=by
 obtain⟨a,c,h1,h2,h3⟩:=h;exact⟨a,c,h1,h2.mono k,h3⟩
theorem FolR.mono{st:Bool}{l:List (List Int)}{v:Value}{m m':Mem}(h:FolR st l v m)(k:m.le m'):FolR st l v m':=by
 obtain⟨a,c,vs,h1,h2,h3,h4,h5⟩:=h;exact⟨a,c,vs,h1,h2.mono k,h3,h4,λi v l hv hl=>(h5 i v l hv hl).mono k⟩
theorem NfR.mono{st:Bool}{A:Nf}{v:Value}{m m':Mem}(h:NfR st A v m)(k:m.le m'):NfR st A v m':=by
 obtain⟨s,f,x,y,h1,h2,h3,h4,h5⟩:=h;exact⟨s,f,x,y,h1,h2.mono k,h3.mono k,h4.mono k,h5.mono k⟩
def Zwq:List Int->Int->Int->Bool
 | [],_,_=>true
 | p::l,lo,hi=>decide (lo < p)&&(decide (p<=hi)&&Zwq l p hi)
def zQ:QS:=(0,0,0,0)
def Nf.top(A:Nf):Int:=(A.sets.length:Int) - 1
def Nf.right(A:Nf):Bool:=
 decide (A.sets.length<=400)&&(decide (A.fol.length=A.sets.length)&&(Zwq A.first (-1) A.top&&(Zwq A.last (-1) A.top&&((A.fol.zip A.sets).all λp=>Zwq p.1 (-1) A.top&&!(p.2 == zQ)))))
def ZyG(f:Nat):List Int:=(ZyD f).map λi:Nat=>(i:Int)
def ZvJ(p:Nat)(cur:List (List Int))(q:Int):List (List Int):=cur.modify q.toNat (λl=>l++[(p:Int)])
theorem Zpf(p:Nat)(cur:List (List Int))(q:Int):(ZvJ p cur q).length=cur.length:=by simp[ZvJ]
theorem ZsN{p:Nat}{cur:List (List Int)}{q:Int}{i:Nat}{l:List Int}(h:cur[i]?=some l):(ZvJ p cur q)[i]?=some (if q.toNat=i then l++[(p:Int)]else l):=by
 unfold ZvJ
 rw[List.getElem?_modify,h]
 split <;> rfl
structure Nf.Ok (A:Nf):Prop where
 n:A.sets.length<=400
 len:A.fol.length=A.sets.length
 first:A.first.Pairwise (· < ·)/\∀x∈A.first,-1 < x/\x<=A.top
 last:A.last.Pairwise (· < ·)/\∀x∈A.last,-1 < x/\x<=A.top
 fol:∀l∈A.fol,l.Pairwise (· < ·)/\∀x∈l,-1 < x/\x<=A.top
 sets:∀q∈A.sets,q≠zQ
structure TurnI (base m:Mem)(b:Nat)(F:Nat->Option (Nat×Nat))(cur:List (List Int)):Prop where
 le:base.le m
 fr:base.free b
 cell:∀(q:Nat)(l:List Int),cur[q]?=some l->(F q=none/\l=[]/\m b q=some (.slice none 0 0))\/∃bq c,F q=some (bq,c)/\l≠[]/\l.length<=c/\m b q=some (.slice (some ⟨bq,0,none⟩) l.length c)/\(∀o,o < c->∃v,m bq o=some v)/\m.reads bq 0 (Zhr l)/\base.free bq/\bq≠b
 ne:∀(q q' b0 c c':Nat),F q=some (b0,c)->F q'=some (b0,c')->q=q'
 dom:∀(q:Nat)(x:Nat×Nat),F q=some x->q < cur.length
theorem ZsO(l r:List Int):Zhr (l++r)=Zhr l++Zhr r:=by simp[Zhr]
theorem TurnI.push{base m:Mem}{b:Nat}{F:Nat->Option (Nat×Nat)}{cur:List (List Int)}(h:TurnI base m b F cur){q:Int}{p:Nat}{l:List Int}(oY:0<=q)(hq:cur[q.toNat]?=some l){a:Option Addr}{c:Nat}(hm:m b q.toNat=some (.slice a l.length c)){m1 m2 M:Mem}(aW:(m.cutA a (l.length*1)).le m1)
  {a':Option Addr} {c':Nat} (hr:rowRd m2 a' (Zhr l++[.int .i64 (p:Int)])) (hf:TokFact m1 a a' (l.length+1) c') (oZ:(m.cutA a (l.length*1)).le M) (cT:m2.le M) (zs:List Value) (hz:zs.length=(c' - (l.length+1))*1):
  ∃F',TurnI base ((M.upd b q.toNat [.slice a' (l.length+1) c']).addA a' ((l.length+1)*1) zs) b F' (ZvJ p cur q):=by
 have uq:=(List.getElem?_eq_some_iff.1 hq).1
 have ur:∀b o,a=some ⟨b,o,none⟩->o=0:=λb1 o1 e=>by
  rcases h.cell _ _ hq with⟨_,_,h3⟩|⟨bq,c0,_,_,_,h4,_⟩
  ·rw[hm,e]at h3;simp at h3
  ·rw[hm,e]at h4;simp at h4;exact h4.1.2
 obtain⟨hc',fM⟩:=hf.old ur
 rcases hr with hr|⟨b',o',ha',cJ⟩
 ·have:=congrArg List.length hr;simp at this
 rcases fM with qH|⟨b2,dS,eN⟩
 ·rw[qH]at ha';cases ha'
 rw[dS]at ha'
 simp only[Option.some.injEq,Addr.mk.injEq,and_true]at ha'
 obtain⟨rfl,rfl⟩:=ha'
 subst dS
 have fP:∀k o v,m k o=some v->(∀bq c0,F q.toNat=some (bq,c0)->k≠bq)->M k o=some v:=λk o v hv hk=>by
  refine oZ k o v ?_
  unfold Mem.cutA
  split
  ·rename_i k0 o0 s0
   rcases h.cell _ _ hq with⟨_,_,h3⟩|⟨bq,c0,h1,_,_,h4,_⟩
   ·rw[hm]at h3;simp only[Option.some.injEq,Value.slice.injEq]at h3;exact absurd h3.1 (by simp)
   ·rw[hm]at h4
    simp only[Option.some.injEq,Value.slice.injEq,Addr.mk.injEq]at h4
    rw[if_neg (λhc=>hk bq c0 h1 (hc.1.trans h4.1.1))];exact hv
  ·exact hv
 have hb'k:∀k o v,m k o=some v->(∀bq c0,F q.toNat=some (bq,c0)->k≠bq)->k≠b2:=λk o v hv hk e=>by
  subst e
  have mw:(m.cutA a (l.length*1)) k o=some v:=by
   unfold Mem.cutA
   split
   ·rename_i k0 o0 s0
    rcases h.cell _ _ hq with⟨_,_,h3⟩|⟨bq,c0,h1,_,_,h4,_⟩
    ·rw[hm]at h3;simp only[Option.some.injEq,Value.slice.injEq]at h3;exact absurd h3.1 (by simp)
    ·rw[hm]at h4
     simp only[Option.some.injEq,Value.slice.injEq,Addr.mk.injEq]at h4
     rw[if_neg (λhc=>hk bq c0 h1 (hc.1.trans h4.1.1))];exact hv
   ·exact hv
  rcases eN with eN|eN
  ·rcases h.cell _ _ hq with⟨_,_,h3⟩|⟨bq,c0,h1,_,_,h4,_⟩
   ·rw[hm,eN]at h3;simp only[Option.some.injEq,Value.slice.injEq]at h3;exact absurd h3.1 (by simp)
   ·rw[hm,eN]at h4
    simp only[Option.some.injEq,Value.slice.injEq,Addr.mk.injEq]at h4
    exact hk bq c0 h1 h4.1.1
  ·have:=aW _ _ _ mw
   rw[eN o]at this;cases this
 have lG:∀q' x,cur[q']?=some x->∃v,m b q'=some v:=λq' x hx=>by
  rcases h.cell _ _ hx with⟨_,_,h3⟩|⟨_,_,_,_,_,h4,_⟩
  ·exact⟨_,h3⟩
  ·exact⟨_,h4⟩
 have qI:∀bq c0,F q.toNat=some (bq,c0)->b≠bq:=λbq c0 h1 e=>by
  rcases h.cell _ _ hq with⟨h3,_,_⟩|⟨bq',c0',h1',_,_,_,_,_,_,h8⟩
  ·rw[h3]at h1;cases h1
  ·rw[h1]at h1';cases h1';exact h8 e.symm
 have gn:b≠b2:=by
  obtain⟨v,hv⟩:=lG _ _ hq
  exact hb'k b _ v hv qI
 let N:=(M.upd b q.toNat [.slice (some ⟨b2,0,none⟩) (l.length+1) c']).addA (some ⟨b2,0,none⟩) ((l.length+1)*1) zs
 have hN:∀k o,k≠b2->(k≠b\/o≠q.toNat)->N k o=M k o:=λk o hk ut=>by
  show Mem.addAt _ b2 _ zs k o=_
  unfold Mem.addAt
  rw[if_neg (λhc=>hk hc.1)]
  unfold Mem.upd
  rw[if_neg]
  rintro⟨e1,e2,e3⟩
  simp at e3
  rcases ut with h|h
  ·exact h e1
  ·omega
 have sA:N b q.toNat=some (.slice (some ⟨b2,0,none⟩) (l.length+1) c'):=by
  show Mem.addAt _ b2 _ zs b q.toNat=_
  unfold Mem.addAt
  rw[if_neg (λhc=>gn hc.1)]
  unfold Mem.upd
  rw[if_pos ⟨rfl,Nat.le_refl _,by simp⟩];simp
 have nG:base.free b2:=by
  rcases eN with eN|eN
  ·rcases h.cell _ _ hq with⟨_,_,h3⟩|⟨bq,c0,h1,_,_,h4,_,_,h7,_⟩
   ·rw[hm,eN]at h3;simp only[Option.some.injEq,Value.slice.injEq]at h3;exact absurd h3.1 (by simp)
   ·rw[hm,eN]at h4
    simp only[Option.some.injEq,Value.slice.injEq,Addr.mk.injEq]at h4
    rw[h4.1.1];exact h7
  ·intro o
   cases he:base b2 o with
   | none=>rfl
   | some v=>
    exfalso
    refine hb'k b2 o v (h.le _ _ _ he) (λbq c0 h1 e=>?_) rfl
    rcases h.cell _ _ hq with⟨h3,_,_⟩|⟨bq',c0',h1',_,_,_,_,_,h7,_⟩
    ·rw[h3]at h1;cases h1
    ·rw[h1]at h1';cases h1'
     rw[e,h7 o]at he;cases he
 refine⟨λi=>if i=q.toNat then some (b2,c')else F i,?_⟩
 show TurnI base N b _ _
 refine⟨λk o v hv=>?_,h.fr,λi x hx=>?_,λi i' b0 c0 c0' h1 h2=>?_,λi x hx=>?_⟩
 ·have eB:k≠b2:=λe=>by subst e;rw[nG o]at hv;cases hv
  have ij:k≠b:=λe=>by subst e;rw[h.fr o]at hv;cases hv
  rw[hN k o eB (.inl ij)]
  refine fP k o v (h.le _ _ _ hv) λbq c0 h1 e=>?_
  rcases h.cell _ _ hq with⟨h3,_,_⟩|⟨bq',c0',h1',_,_,_,_,_,h7,_⟩
  ·rw[h3]at h1;cases h1
  ·rw[h1]at h1';cases h1'
   rw[e,h7 o]at hv;cases hv
 ·have qJ:i < cur.length:=by have:=(List.getElem?_eq_some_iff.1 hx).1;rwa [Zpf]at this
  obtain⟨y,hy⟩:∃y,cur[i]?=some y:=⟨_,List.getElem?_eq_getElem qJ⟩
  rw[ZsN hy]at hx
  by_cases hi:i=q.toNat
  ·subst hi
   rw[hq]at hy;cases hy
   rw[if_pos rfl]at hx;cases hx
   refine .inr ⟨b2,c',by simp,by simp,by simpa using hc',by rw[List.length_append];exact sA,λo ho=>?_,λj v hj=>?_,nG,gn.symm⟩
   ·show ∃v,Mem.addAt _ b2 _ zs b2 o=some v
    unfold Mem.addAt
    by_cases sB:0+(l.length+1)*1<=o
    ·rw[if_pos ⟨rfl,sB⟩]
     have:o - (0+(l.length+1)*1) < zs.length:=by omega
     rw[List.getElem?_eq_getElem this];exact⟨_,rfl⟩
    ·rw[if_neg (λhc=>sB hc.2)]
     have hv:=cJ o ((Zhr l++[.int .i64 (p:Int)])[o]'(by simp[Zpe];omega)) (List.getElem?_eq_getElem _)
     rw[Nat.zero_add]at hv
     rw[Mem.upd_other _ gn.symm]
     exact⟨_,cT _ _ _ hv⟩
   ·show Mem.addAt _ b2 _ zs b2 (0+j)=some v
    have uu:=(List.getElem?_eq_some_iff.1 hj).1
    rw[Zpe,List.length_append,List.length_singleton]at uu
    unfold Mem.addAt
    rw[if_neg (by omega),Mem.upd_other _ gn.symm]
    rw[ZsO]at hj
    exact cT _ _ _ (cJ j v hj)
  ·rw[if_neg (λe=>hi e.symm)]at hx
   obtain rfl:y=x:=Option.some.inj hx
   have nH:∀x,F i=some x->∀bq c0,F q.toNat=some (bq,c0)->x.1≠bq:=λx h1 bq c0 h2 e=>by
    obtain⟨x1,x2⟩:=x
    simp only at e;subst e
    exact hi (h.ne _ _ _ _ _ h1 h2)
   rcases h.cell _ _ hy with⟨h1,h2,h3⟩|⟨bq,c0,h1,h2,h3,h4,h5,h6,h7,h8⟩
   ·refine .inl ⟨by simp only[if_neg hi];exact h1,h2,?_⟩
    rw[hN b i gn (.inr hi)]
    exact fP _ _ _ h3 qI
   ·have hk:∀bq' c0',F q.toNat=some (bq',c0')->bq≠bq':=λbq' c0' h=>nH _ h1 bq' c0' h
    have eB:bq≠b2:=by
     cases y with
     | nil=>exact absurd rfl h2
     | cons z y=>
      have:=h6 0 (.int .i64 z) rfl
      exact hb'k _ _ _ this hk
    refine .inr ⟨bq,c0,by simp only[if_neg hi];exact h1,h2,h3,?_,λo ho=>?_,λj v hj=>?_,h7,h8⟩
    ·rw[hN b i gn (.inr hi)];exact fP _ _ _ h4 qI
    ·obtain⟨v,hv⟩:=h5 o ho
     exact⟨v,by rw[hN bq o eB (.inl h8)];exact fP _ _ _ hv hk⟩
    ·rw[hN bq _ eB (.inl h8)];exact fP _ _ _ (h6 j v hj) hk
 ·have key:∀j c1,F j=some (b2,c1)->j=q.toNat:=λj c1 hj=>by
   have jl:=h.dom _ _ hj
   rcases h.cell j _ (List.getElem?_eq_getElem jl)with⟨h3,_,_⟩|⟨bq,c0,g1,g2,_,_,_,g6,_,_⟩
   ·rw[h3]at hj;cases hj
   ·rw[hj]at g1;cases g1
    cases nH:F q.toNat with
    | none=>
     exfalso
     have:∃z y,cur[j]'jl=z::y:=by
      cases hc:cur[j]'jl with
      | nil=>exact absurd hc g2
      | cons z y=>exact⟨z,y,rfl⟩
     obtain⟨z,y,qK⟩:=this
     have hv:=g6 0 (.int .i64 z) (by rw[qK];rfl)
     exact hb'k _ _ _ hv (λbq c0 h1=>by rw[nH]at h1;cases h1) rfl
    | some x=>
     obtain⟨x1,x2⟩:=x
     by_cases eR:x1=b2
     ·subst eR;exact h.ne _ _ _ _ _ hj nH
     ·exfalso
      have:∃z y,cur[j]'jl=z::y:=by
       cases hc:cur[j]'jl with
       | nil=>exact absurd hc g2
       | cons z y=>exact⟨z,y,rfl⟩
      obtain⟨z,y,qK⟩:=this
      have hv:=g6 0 (.int .i64 z) (by rw[qK];rfl)
      exact hb'k _ _ _ hv (λbq c0 h1 e=>by rw[nH]at h1;cases h1;exact eR e.symm) rfl
  split at h1 <;> split at h2
  ·omega
  ·simp only[Option.some.injEq,Prod.mk.injEq]at h1
   rw[<-h1.1]at h2
   have:=key _ _ h2;omega
  ·simp only[Option.some.injEq,Prod.mk.injEq]at h2
   rw[<-h2.1]at h1
   have:=key _ _ h1;omega
  ·exact h.ne _ _ _ _ _ h1 h2
 ·rw[Zpf]
  split at hx
  ·omega
  ·exact h.dom _ _ hx
def ZyH(q:QS):T:=.node 2 q.1 q.2.1 q.2.2.1 q.2.2.2 0 0 none 0 []
def ZvN(q:QS)(c:Nat):Bool:=(ZyH q).hasB c
def QOk(q:QS):Prop:=(0<=q.1/\q.1 < 18446744073709551616)/\(0<=q.2.1/\q.2.1 < 18446744073709551616)/\(0<=q.2.2.1/\q.2.2.1 < 18446744073709551616)/\(0<=q.2.2.2/\q.2.2.2 < 18446744073709551616)
def Zzp(l:List Int)(f:Nat):Nat:=l.foldl (λf p=>f|||2 ^ p.toNat) f
def Nf.fromL(A:Nf)(p:Int):List Int:=if p=-1 then A.first else(A.fol[p.toNat]?).getD []
def Nf.hasAt(A:Nf)(q:Int)(c:Nat):Bool:=ZvN ((A.sets[q.toNat]?).getD zQ) c
def Nf.step1(A:Nf)(c:Nat)(f:Nat)(q:Int):Nat:=if A.hasAt q c then f|||2 ^ q.toNat else f
def Nf.stepM(A:Nf)(l:List Int)(c:Nat)(f:Nat):Nat:=l.foldl (λf p=>(A.fromL p).foldl (A.step1 c) f) f
def Nf.step(A:Nf)(l:List Int)(c:Nat):List Int:=ZyG (A.stepM l c 0)
def Nf.acc1(A:Nf)(p:Int):Bool:=if p=-1 then A.empty else(Zzp A.last 0).testBit p.toNat
def Nf.accepts(A:Nf)(l:List Int):Bool:=l.any A.acc1
def Nf.next(A:Nf)(again:Bool)(l:List Int)(c:Nat):List Int:=if again then -1::A.step l c else A.step l c
def Nf.run(A:Nf)(b:List Nat)(l:List Int):List Int:=b.foldl (λl c=>A.step l c) l
def Nf.matches(A:Nf)(b:List Nat):Bool:=A.accepts (A.run b [-1])
inductive Nf.Reach (A:Nf):Nat->Prop
 | first {p:Nat} (h:(p:Int)∈A.first):A.Reach p
 | fol {p q:Nat} {l:List Int} (h:A.Reach p) (hl:A.fol[p]?=some l) (hq:(q:Int)∈l):A.Reach q
structure Bad (t:T):Prop where
 k:t.k≠0
 no:t.check≠0
structure Says (t:T)(len:Nat)(i:Int)(e:Int):Prop where
 one:t.wrong len i=e
 rg:Rg.wrong ⟨false,false,t⟩ len i=e
 all:Za7 [⟨false,false,t⟩] len i=e
structure Asks (k:Nat)(t:T)(len:Nat)(i e:Int):Prop where
 uv:Says t len i e
 zero:k<=1->Says t len 0 e
 no:e≠0
 len:len<=513
theorem ZkI{l:List Rg}{s:List Nat}:∀{c n k i to:Nat},Zc6 l s c n=some (k,i,to)->n<=to/\to < n+c/\Zex s to l 0=some (k,i)
 | 0,n,k,i,to,h=>by simp[Zc6]at h
 | c+1,n,k,i,to,h=>by
  simp only[Zc6]at h
  cases hl:Zex s n l 0 with
  | some p=>
   obtain⟨k',i'⟩:=p
   simp only[hl,Option.some.injEq,Prod.mk.injEq]at h
   obtain⟨rfl,rfl,rfl⟩:=h
   exact⟨by omega,by omega,hl⟩
  | none=>
   simp only[hl]at h
   have:=ZkI h
   exact⟨by omega,by omega,this.2.2⟩
theorem ZmN{r:Rg}{s:List Nat}{c n k i to:Nat}(h:Zc6 [r] s c n=some (k,i,to)):k=0:=by
 have:=(ZkI h).2.2
 simp only[Zex]at this
 cases hr:r.from s to with
 | some j=>simp[hr]at this;exact this.1.symm
 | none=>simp[hr]at this
end Go.Rx
namespace Go.Rx
open Go Go.Eng Go.RowKit
set_option maxRecDepth 100000
theorem Zhs{t:T}(h:t.good=true):t.right=true/\∀x∈t.subs,x.good=true:=by
 rw[ZmJ,Bool.and_eq_true,List.all_eq_true]at h;exact h
theorem ZtV{t:T}(h:t.right=true):t.k=1\/t.k=2\/t.k=3\/t.k=4\/(t.k=5/\(∃x,t.subs=[x])/\0<=t.mn/\t.mn<=16/\(t.mx=-1\/(1<=t.mx/\t.mn<=t.mx/\t.mx<=16)))\/(t.k=6/\∃x,t.subs=[x]):=by
 have one:(t.subs.length == 1)=true->∃x,t.subs=[x]:=λe=>by
  have:t.subs.length=1:=by simpa using e
  match cF:t.subs,this with
  | [x],_=>exact⟨x,rfl⟩
 unfold T.right at h
 rw[Bool.and_eq_true]at h
 have h:=h.2
 by_cases h1:t.k=1
 ·exact .inl h1
 by_cases h2:t.k=2
 ·exact .inr (.inl h2)
 by_cases h3:t.k=3
 ·exact .inr (.inr (.inl h3))
 by_cases h4:t.k=4
 ·exact .inr (.inr (.inr (.inl h4)))
 by_cases h5:t.k=5
 ·rw[if_neg h1,if_neg h2,if_neg h3,if_neg h4,if_pos h5]at h
  rw[Bool.and_eq_true,Bool.and_eq_true]at h
  obtain⟨a,b,_⟩:=h
  unfold Zd7 at b
  simp at b
  exact .inr (.inr (.inr (.inr (.inl ⟨h5,one a,by omega,by omega,by omega⟩))))
 ·rw[if_neg h1,if_neg h2,if_neg h3,if_neg h4,if_neg h5,Bool.and_eq_true]at h
  exact .inr (.inr (.inr (.inr (.inr ⟨by simpa using h.1,one h.2⟩))))
mutual
def T.er:T->T
 | .node k s0 s1 s2 s3 mn mx _ _ l=>.node k s0 s1 s2 s3 mn mx none 0 (erL l)
def erL:List T->List T
 | []=>[]
 | t::l=>t.er::erL l
end
theorem ZtW:∀l:List T,erL l=l.map T.er
 | []=>rfl
 | t::l=>by simp only[erL,List.map_cons,ZtW l]
@[simp] theorem Zzv (t:T):t.er.k=t.k:=by cases t;rfl
@[simp] theorem Zze (t:T):t.er.s0=t.s0:=by cases t;rfl
@[simp] theorem Zzf (t:T):t.er.s1=t.s1:=by cases t;rfl
@[simp] theorem Zzg (t:T):t.er.s2=t.s2:=by cases t;rfl
@[simp] theorem Zzh (t:T):t.er.s3=t.s3:=by cases t;rfl
@[simp] theorem Zzi (t:T):t.er.mn=t.mn:=by cases t;rfl
@[simp] theorem Zzj (t:T):t.er.mx=t.mx:=by cases t;rfl
@[simp] theorem Zye (t:T):t.er.subs=t.subs.map T.er:=by cases t;simp only[T.er,T.subs,ZtW]
end Go.Rx
namespace Go.Rx
open Go Go.Eng Go.RowKit
abbrev Re:=Nat->Nat->Prop
def pow(R:Re):Nat->Re
 | 0=>λi j=>i=j
 | n+1=>λi j=>∃m,R i m/\pow R n m j
theorem ZrC(R:Re):∀(a b i j:Nat),pow R (a+b) i j↔∃m,pow R a i m/\pow R b m j
 | 0,b,i,j=>by simp[pow]
 | a+1,b,i,j=>by
  rw[show a+1+b=(a+b)+1 by omega]
  constructor
  ·rintro⟨m,h1,h2⟩
   obtain⟨k,h3,h4⟩:=(ZrC R a b m j).1 h2
   exact⟨k,⟨m,h1,h3⟩,h4⟩
  ·rintro⟨k,⟨m,h1,h3⟩,h4⟩
   exact⟨m,h1,(ZrC R a b m j).2 ⟨k,h3,h4⟩⟩
theorem ZfV(R:Re)(n i j:Nat):pow R (n+1) i j↔∃m,pow R n i m/\R m j:=by
 rw[ZrC R n 1];simp[pow]
mutual
def T.M(s:List Nat):T->Re
 | .node k s0 s1 s2 s3 mn mx a c l=>λi j=>
  if k=1 then i=j else if k=2 then j=i+1/\∃b,s[i]?=some b/\(T.node k s0 s1 s2 s3 mn mx a c l).hasB b=true
  else if k=3 then MC s l i j else if k=4 then MA s l i j
  else if k=5 then ∃n:Nat,mn.toNat<=n/\(mx=-1\/n<=mx.toNat)/\pow (MH s l) n i j
  else if k=6 then MH s l i j else False
def MC(s:List Nat):List T->Re
 | []=>λi j=>i=j
 | t::l=>λi j=>∃m,t.M s i m/\MC s l m j
def MA(s:List Nat):List T->Re
 | []=>λ_ _=>False
 | t::l=>λi j=>t.M s i j\/MA s l i j
def MH(s:List Nat):List T->Re
 | []=>λi j=>i=j
 | t::_=>t.M s
end
def Zgf(back:Bool)(R:Re)(f:Nat)(j:Nat):Prop:=∃i,f.testBit i=true/\(if back then R j i else R i j)
def Zgg(s:List Nat)(back:Bool)(g:Nat->Nat)(R:Re):Prop:=∀f,f < Zcn->∀j,(g f).testBit j=true↔Zgf back R f j
theorem Zwr{back:Bool}{R Q:Re}{f j:Nat}:Zgf back (λa b=>R a b\/Q a b) f j↔Zgf back R f j\/Zgf back Q f j:=by
 unfold Zgf
 cases back <;> constructor <;> rintro h
 ·obtain⟨i,h1,h2|h2⟩:=h
  ·exact .inl ⟨i,h1,h2⟩
  ·exact .inr ⟨i,h1,h2⟩
 ·rcases h with⟨i,h1,h2⟩|⟨i,h1,h2⟩
  ·exact⟨i,h1,.inl h2⟩
  ·exact⟨i,h1,.inr h2⟩
 ·obtain⟨i,h1,h2|h2⟩:=h
  ·exact .inl ⟨i,h1,h2⟩
  ·exact .inr ⟨i,h1,h2⟩
 ·rcases h with⟨i,h1,h2⟩|⟨i,h1,h2⟩
  ·exact⟨i,h1,.inl h2⟩
  ·exact⟨i,h1,.inr h2⟩
theorem Zpg(back:Bool)(f j:Nat):Zgf back (λa b=>a=b) f j↔f.testBit j=true:=by
 unfold Zgf
 cases back <;> constructor
 ·rintro⟨i,h1,h2⟩;simp at h2;subst h2;exact h1
 ·intro h;exact⟨j,h,by simp⟩
 ·rintro⟨i,h1,h2⟩;simp at h2;subst h2;exact h1
 ·intro h;exact⟨j,h,by simp⟩
theorem ZsP{s:List Nat}{g h:Nat->Nat}{R Q:Re}(hg:Zgg s false g R)(hh:Zgg s false h Q)(bB:∀f,f < Zcn->g f < Zcn):Zgg s false (λf=>h (g f)) (λi j=>∃m,R i m/\Q m j):=by
 intro f hf j
 rw[hh _ (bB f hf) j]
 unfold Zgf
 constructor
 ·rintro⟨m,h1,h2⟩
  obtain⟨i,h3,h4⟩:=(hg f hf m).1 h1
  exact⟨i,h3,m,h4,h2⟩
 ·rintro⟨i,h3,m,h4,h2⟩
  exact⟨m,(hg f hf m).2 ⟨i,h3,h4⟩,h2⟩
theorem Zqv{s:List Nat}{g h:Nat->Nat}{R Q:Re}(hg:Zgg s true g R)(hh:Zgg s true h Q)(bB:∀f,f < Zcn->h f < Zcn):Zgg s true (λf=>g (h f)) (λi j=>∃m,R i m/\Q m j):=by
 intro f hf j
 rw[hg _ (bB f hf) j]
 unfold Zgf
 constructor
 ·rintro⟨m,h1,h2⟩
  obtain⟨i,h3,h4⟩:=(hh f hf m).1 h1
  exact⟨i,h3,m,h2,h4⟩
 ·rintro⟨i,h3,m,h4,h2⟩
  exact⟨m,(hh f hf m).2 ⟨i,h3,h2⟩,h4⟩
theorem Zph(t:T)(back:Bool)(f:Nat):∀(s:List Nat)(i out j:Nat),(Zr5 t back f s i out).testBit j=true↔out.testBit j=true\/∃p b,s[p]?=some b/\t.hasB b=true/\f.testBit (if back then i+p+1 else i+p)=true/\j=(if back then i+p else i+p+1)
 | [],i,out,j=>by simp[Zr5]
 | c::s,i,out,j=>by
  simp only[Zr5]
  rw[Zph t back f s (i+1)]
  have h0:(Zo8 t back f i c out).testBit j=true↔out.testBit j=true\/(t.hasB c=true/\f.testBit (if back then i+1 else i)=true/\j=(if back then i else i+1)):=by
   unfold Zo8
   by_cases h:(f.testBit (if back then i+1 else i)&&t.hasB c)=true
   ·rw[if_pos h]
    rw[Bool.and_eq_true]at h
    rw[Nat.testBit_or,Bool.or_eq_true,Nat.testBit_two_pow]
    constructor
    ·rintro(h1|h1)
     ·exact .inl h1
     ·exact .inr ⟨h.2,h.1,by simpa using(of_decide_eq_true h1).symm⟩
    ·rintro(h1|⟨_,_,h1⟩)
     ·exact .inl h1
     ·exact .inr (decide_eq_true h1.symm)
   ·rw[if_neg h]
    rw[Bool.and_eq_true]at h
    constructor
    ·exact .inl
    ·rintro(h1|⟨h1,h2,_⟩)
     ·exact h1
     ·exact absurd ⟨h2,h1⟩ h
  rw[h0]
  constructor
  ·rintro((h|⟨h1,h2,h3⟩)|⟨p,b,h1,h2,h3,h4⟩)
   ·exact .inl h
   ·exact .inr ⟨0,c,rfl,h1,by simpa using h2,by simpa using h3⟩
   ·exact .inr ⟨p+1,b,by simpa using h1,h2,by rw[show i+(p+1)=i+1+p by omega];exact h3,by rw[show i+(p+1)=i+1+p by omega];exact h4⟩
  ·rintro(h|⟨p,b,h1,h2,h3,h4⟩)
   ·exact .inl (.inl h)
   ·cases p with
    | zero=>simp at h1;subst h1;exact .inl (.inr ⟨h2,by simpa using h3,by simpa using h4⟩)
    | succ p=>exact .inr ⟨p,b,by simpa using h1,h2,by rw[show i+1+p=i+(p+1) by omega];exact h3,by rw[show i+1+p=i+(p+1) by omega];exact h4⟩
theorem ZsQ(s:List Nat)(back:Bool)(t:T):Zgg s back (λf=>Zr5 t back f s 0 0) (λi j=>j=i+1/\∃b,s[i]?=some b/\t.hasB b=true):=by
 intro f hf j
 rw[Zph]
 unfold Zgf
 cases back with
 | false=>
  constructor
  ·rintro(h|⟨p,b,h1,h2,h3,h4⟩)
   ·simp at h
   ·simp at h3 h4;exact⟨p,h3,by simp;exact⟨h4,b,h1,h2⟩⟩
  ·rintro⟨i,h1,h2⟩
   simp at h2
   obtain⟨rfl,b,h3,h4⟩:=h2
   exact .inr ⟨i,b,h3,h4,by simpa using h1,by simp⟩
 | true=>
  constructor
  ·rintro(h|⟨p,b,h1,h2,h3,h4⟩)
   ·simp at h
   ·simp at h3 h4;subst h4;exact⟨j+1,h3,by simp;exact⟨b,h1,h2⟩⟩
  ·rintro⟨i,h1,h2⟩
   simp at h2
   obtain⟨rfl,b,h3,h4⟩:=h2
   exact .inr ⟨j,b,h3,h4,by simpa using h1,by simp⟩
theorem Zls(back:Bool)(R:Re)(n f j:Nat):Zgf back (pow R (n+1)) f j↔∃i,Zgf back (pow R n) f i/\(if back then R j i else R i j):=by
 unfold Zgf
 cases back with
 | false=>
  simp only[Bool.false_eq_true,if_false]
  constructor
  ·rintro⟨i,h1,h2⟩
   obtain⟨m,h3,h4⟩:=(ZfV R n i j).1 h2
   exact⟨m,⟨i,h1,h3⟩,h4⟩
  ·rintro⟨m,⟨i,h1,h3⟩,h4⟩
   exact⟨i,h1,(ZfV R n i j).2 ⟨m,h3,h4⟩⟩
 | true=>
  simp only[if_true]
  constructor
  ·rintro⟨i,h1,m,h3,h4⟩
   exact⟨m,⟨i,h1,h4⟩,h3⟩
  ·rintro⟨m,⟨i,h1,h4⟩,h3⟩
   exact⟨i,h1,m,h3,h4⟩
def cnt(f:Nat):Nat:=(List.range 576).countP λi=>f.testBit i
theorem ZuO(f:Nat):cnt f<=576:=by
 have:=List.countP_le_length (p:=λi=>f.testBit i) (l:=List.range 576)
 simpa[cnt]using this
theorem Zlt{α:Type}{p q:α->Bool}:∀{l:List α},(∀x,p x=true->q x=true)->(∃x∈l,q x=true/\p x=false)->l.countP p < l.countP q
 | [],_,h=>by obtain⟨x,h,_⟩:=h;simp at h
 | y::l,jE,⟨x,hx,h1,h2⟩=>by
  have sC:l.countP p<=l.countP q:=List.countP_mono_left λx _ h=>jE x h
  rw[List.countP_cons,List.countP_cons]
  by_cases e:p y=true
  ·rw[if_pos e,if_pos (jE y e)]
   have cW:x≠y:=λe'=>by rw[e',e]at h2;cases h2
   have:=Zlt jE ⟨x,(List.mem_cons.1 hx).resolve_left cW,h1,h2⟩
   omega
  ·rw[if_neg e]
   by_cases e2:q y=true
   ·rw[if_pos e2];omega
   ·have cW:x≠y:=λe'=>e2 (e' ▸ h1)
    have:=Zlt jE ⟨x,(List.mem_cons.1 hx).resolve_left cW,h1,h2⟩
    omega
theorem ZtX{f i:Nat}(hf:f < Zcn)(hi:¬i < 576):f.testBit i=false:=
 Nat.testBit_lt_two_pow (Nat.lt_of_lt_of_le hf (Nat.pow_le_pow_right (by omega) (by rw[Zo9];omega)))
theorem ZxA{out x:Nat}(ho:out < Zcn)(hx:x < Zcn)(h:¬out|||x=out):cnt out < cnt (out|||x):=by
 refine Zlt (λi hi=>by simp[hi]) ?_
 refine Classical.byContradiction λhn=>h (Nat.eq_of_testBit_eq λi=>?_)
 by_cases hi:i < 576
 ·rw[Nat.testBit_or]
  cases e1:out.testBit i with
  | true=>rfl
  | false=>
   cases e2:x.testBit i with
   | false=>rfl
   | true=>exact absurd ⟨i,List.mem_range.2 hi,by rw[Nat.testBit_or,e1,e2];rfl,e1⟩ hn
 ·rw[ZtX (Nat.or_lt_two_pow ho hx) hi,ZtX ho hi]
theorem Zqw{s:List Nat}{back:Bool}{g:Nat->Nat}{R:Re}(hg:Zgg s back g R)(bB:∀f,f < Zcn->g f < Zcn){mx:Int}{mn f0:Nat}(sD:f0 < Zcn)(j3:mn<=16):
  ∀(fuel K out last:Nat),out < Zcn->last < Zcn->mn<=K->(mx=-1\/(K:Int)<=mx)->K<=mn+cnt out->577 - cnt out<=fuel->
   (∀j,last.testBit j=true↔Zgf back (pow R K) f0 j)->(∀j,out.testBit j=true↔∃n,mn<=n/\n<=K/\Zgf back (pow R n) f0 j)->
   ∀j,(ZpX g mx fuel K out last).testBit j=true↔∃n,mn<=n/\(mx=-1\/n<=mx.toNat)/\Zgf back (pow R n) f0 j:=by
 intro fuel
 induction fuel with
 | zero=>intro K out last _ _ _ _ _ iV _ _ j;have:=ZuO out;omega
 | succ fuel ihf=>
  intro K out last ho hl hK ii wc iV dE cX j
  have mu:=bB last hl
  have jm:∀j,(g last).testBit j=true↔Zgf back (pow R (K+1)) f0 j:=λj=>by
   rw[hg last hl j,Zls]
   constructor
   ·rintro⟨i,h1,h2⟩;exact⟨i,(dE i).1 h1,h2⟩
   ·rintro⟨i,h1,h2⟩;exact⟨i,(dE i).2 h1,h2⟩
  rw[ZmE]
  by_cases hm:(K:Int)=mx
  ·rw[if_pos hm,cX]
   constructor
   ·rintro⟨n,h1,h2,h3⟩;exact⟨n,h1,.inr (by omega),h3⟩
   ·rintro⟨n,h1,h2,h3⟩;exact⟨n,h1,by rcases h2 with h2|h2 <;> omega,h3⟩
  ·rw[if_neg hm]
   by_cases hs:out|||g last=out
   ·rw[if_pos hs,cX]
    have fI:∀j,(g last).testBit j=true->out.testBit j=true:=λj h=>by
     rw[<-hs,Nat.testBit_or,h];simp
    have lH:∀d j,Zgf back (pow R (K+d)) f0 j->out.testBit j=true:=by
     intro d
     induction d with
     | zero=>intro j h;exact(cX j).2 ⟨K,hK,Nat.le_refl _,h⟩
     | succ d ih=>
      intro j h
      rw[show K+(d+1)=(K+d)+1 by omega,Zls]at h
      obtain⟨i,h1,h2⟩:=h
      obtain⟨n,h3,h4,h5⟩:=(cX i).1 (ih i h1)
      have h6:Zgf back (pow R (n+1)) f0 j:=(Zls back R n f0 j).2 ⟨i,h5,h2⟩
      by_cases hn:n+1<=K
      ·exact(cX j).2 ⟨n+1,by omega,hn,h6⟩
      ·have:n=K:=by omega
       subst this
       exact fI j ((jm j).2 h6)
    constructor
    ·rintro⟨n,h1,h2,h3⟩;exact⟨n,h1,by rcases ii with h|h;exact .inl h;exact .inr (by omega),h3⟩
    ·rintro⟨n,h1,h2,h3⟩
     by_cases hn:n<=K
     ·exact⟨n,h1,hn,h3⟩
     ·have:=lH (n - K) j (by rw[show K+(n - K)=n by omega];exact h3)
      exact(cX j).1 this
   ·rw[if_neg hs]
    have hc:=ZxA ho mu hs
    have fL:=ZuO (out|||g last)
    have hw:IntKind.i64.wrap ((K:Int)+1)=((K+1:Nat):Int):=by rw[Zao (by omega) (by omega)];rfl
    rw[hw]
    refine ihf (K+1) _ _ (Nat.or_lt_two_pow ho mu) mu (by omega) ?_ (by omega) (by omega) jm ?_ j
    ·rcases ii with h|h
     ·exact .inl h
     ·exact .inr (by omega)
    ·intro j
     rw[Nat.testBit_or,Bool.or_eq_true,cX,jm]
     constructor
     ·rintro(⟨n,h1,h2,h3⟩|h)
      ·exact⟨n,h1,by omega,h3⟩
      ·exact⟨K+1,by omega,Nat.le_refl _,h⟩
     ·rintro⟨n,h1,h2,h3⟩
      by_cases hn:n<=K
      ·exact .inl ⟨n,h1,hn,h3⟩
      ·have:n=K+1:=by omega
       subst this;exact .inr h3
theorem Zpi{s:List Nat}{back:Bool}{g:Nat->Nat}{R:Re}(hg:Zgg s back g R)(bB:∀f,f < Zcn->g f < Zcn):∀(n f:Nat),f < Zcn->∀j,(ZvH g n f).testBit j=true↔Zgf back (pow R n) f j
 | 0,f,hf,j=>by
  show f.testBit j=true↔Zgf back (λa b=>a=b) f j
  rw[Zpg]
 | n+1,f,hf,j=>by
  show(ZvH g n (g f)).testBit j=true↔_
  rw[Zpi hg bB n (g f) (bB f hf) j]
  unfold Zgf
  cases back with
  | false=>
   simp only[Bool.false_eq_true,if_false]
   constructor
   ·rintro⟨m,h1,h2⟩
    obtain⟨i,h3,h4⟩:=(hg f hf m).1 h1
    exact⟨i,h3,m,by simpa using h4,h2⟩
   ·rintro⟨i,h3,m,h4,h2⟩
    exact⟨m,(hg f hf m).2 ⟨i,h3,by simpa using h4⟩,h2⟩
  | true=>
   simp only[if_true]
   constructor
   ·rintro⟨m,h1,h2⟩
    obtain⟨i,h3,h4⟩:=(hg f hf m).1 h1
    exact⟨i,h3,(ZfV R n j i).2 ⟨m,h2,by simpa using h4⟩⟩
   ·rintro⟨i,h3,h4⟩
    obtain⟨m,h5,h6⟩:=(ZfV R n j i).1 h4
    exact⟨m,(hg f hf m).2 ⟨i,h3,by simpa using h6⟩,h5⟩
theorem ZsR{s:List Nat}{back:Bool}{g:Nat->Nat}{R:Re}(hg:Zgg s back g R)(bB:∀f,f < Zcn->g f < Zcn){mn mx:Int}(h0:0<=mn)(qL:mn<=16)(ii:mx=-1\/mn<=mx):
  Zgg s back (Zwi g mn mx) (λi j=>∃n:Nat,mn.toNat<=n/\(mx=-1\/n<=mx.toNat)/\pow R n i j):=by
 intro f hf j
 obtain⟨k,rfl⟩:∃k:Nat,mn=k:=⟨mn.toNat,by omega⟩
 have hi:=Zpb bB k f hf
 have hb:=Zpi hg bB k f hf
 have uw:1024 < Zcn:=Zru (n:=10) (by omega)
 unfold Zwi
 rw[Int.toNat_natCast]
 have:=Zqw hg bB (mx:=mx) hf (show k<=16 by omega) (Zcn+1) k (ZvH g k f) (ZvH g k f) hi hi (Nat.le_refl _) ii (by omega) (by have:=ZuO (ZvH g k f);omega) hb (λj=>by
  rw[hb]
  constructor
  ·intro h;exact⟨k,Nat.le_refl _,Nat.le_refl _,h⟩
  ·rintro⟨n,h1,h2,h3⟩;obtain rfl:n=k:=by omega
   exact h3) j
 rw[this]
 unfold Zgf
 cases back with
 | false=>
  simp only[Bool.false_eq_true,if_false]
  constructor
  ·rintro⟨n,h1,h2,i,h3,h4⟩;exact⟨i,h3,n,h1,h2,h4⟩
  ·rintro⟨i,h3,n,h1,h2,h4⟩;exact⟨n,h1,h2,i,h3,h4⟩
 | true=>
  simp only[if_true]
  constructor
  ·rintro⟨n,h1,h2,i,h3,h4⟩;exact⟨i,h3,n,h1,h2,h4⟩
  ·rintro⟨i,h3,n,h1,h2,h4⟩;exact⟨n,h1,h2,i,h3,h4⟩
section
variable {s:List Nat}
theorem M_1{t:T}(h:t.k=1)(i j:Nat):t.M s i j↔i=j:=by cases t;simp only[T.k]at h;subst h;simp[T.M]
theorem M_2{t:T}(h:t.k=2)(i j:Nat):t.M s i j↔(j=i+1/\∃b,s[i]?=some b/\t.hasB b=true):=by cases t;simp only[T.k]at h;subst h;simp[T.M]
theorem M_3{t:T}(h:t.k=3)(i j:Nat):t.M s i j↔MC s t.subs i j:=by cases t;simp only[T.k]at h;subst h;simp[T.M,T.subs]
theorem M_4{t:T}(h:t.k=4)(i j:Nat):t.M s i j↔MA s t.subs i j:=by cases t;simp only[T.k]at h;subst h;simp[T.M,T.subs]
theorem M_5{t:T}(h:t.k=5)(i j:Nat):t.M s i j↔∃n:Nat,t.mn.toNat<=n/\(t.mx=-1\/n<=t.mx.toNat)/\pow (MH s t.subs) n i j:=by cases t;simp only[T.k]at h;subst h;simp[T.M,T.subs,T.mn,T.mx]
theorem M_6{t:T}(h:t.k=6)(i j:Nat):t.M s i j↔MH s t.subs i j:=by cases t;simp only[T.k]at h;subst h;simp[T.M,T.subs]
theorem Zlu(i j:Nat):MC s [] i j↔i=j:=by simp[MC]
theorem Zht(t:T)(l:List T)(i j:Nat):MC s (t::l) i j↔∃m,t.M s i m/\MC s l m j:=by simp[MC]
theorem Znw(i j:Nat):MA s [] i j↔False:=by simp[MA]
theorem Zhu(t:T)(l:List T)(i j:Nat):MA s (t::l) i j↔(t.M s i j\/MA s l i j):=by simp[MA]
theorem Zgh(t:T)(l:List T):MH s (t::l)=t.M s:=by simp[MH]
theorem Zct{back:Bool}{g h:Nat->Nat}{R Q:Re}(hg:Zgg s back g R)(e:∀f,h f=g f)(k:∀i j,Q i j↔R i j):Zgg s back h Q:=by
 intro f hf j
 rw[e,hg f hf j]
 unfold Zgf
 cases back <;> simp only[k]
theorem ZkJ(hs:s.length<=512):∀(l:List T),(∀x∈l,Zgg s false (x.lead s false) (x.M s))->Zgg s false (ZgQ s false l) (MC s l)
 | [],_=>by
  intro f hf j
  have e:Zgf false (MC s []) f j↔Zgf false (λa b=>a=b) f j:=by unfold Zgf;simp only[Zlu]
  rw[e,Zpg];rw[ZgQ]
 | t::l,h=>Zct (ZsP (h t (by simp)) (ZkJ hs l λx hx=>h x (by simp[hx])) (Zfj s false hs t)) (λf=>by rw[ZgQ]) (λi j=>Zht t l i j)
theorem ZkK(hs:s.length<=512):∀(l:List T),(∀x∈l,Zgg s true (x.lead s true) (x.M s))->Zgg s true (Zgd s true l) (MC s l)
 | [],_=>by
  intro f hf j
  have e:Zgf true (MC s []) f j↔Zgf true (λa b=>a=b) f j:=by unfold Zgf;simp only[Zlu]
  rw[e,Zpg];rw[Zgd]
 | t::l,h=>Zct (Zqv (h t (by simp)) (ZkK hs l λx hx=>h x (by simp[hx])) (Zn2 s true hs l)) (λf=>by rw[Zgd]) (λi j=>Zht t l i j)
theorem Zpj{back:Bool}(hs:s.length<=512):∀(l:List T),(∀x∈l,Zgg s back (x.lead s back) (x.M s))->∀f,f < Zcn->∀out j,(Zqr s back l f out).testBit j=true↔(out.testBit j=true\/Zgf back (MA s l) f j)
 | [],_,f,hf,out,j=>by
  rw[Zrv]
  constructor
  ·exact .inl
  ·rintro(h|⟨i,_,h⟩)
   ·exact h
   ·cases back <;> simp[Znw]at h
 | t::l,h,f,hf,out,j=>by
  rw[Zpa,Zpj hs l (λx hx=>h x (by simp[hx])) f hf,Nat.testBit_or,Bool.or_eq_true,h t (by simp) f hf j]
  have e:Zgf back (MA s (t::l)) f j↔Zgf back (λa b=>t.M s a b\/MA s l a b) f j:=by unfold Zgf;cases back <;> simp only[Zhu]
  rw[e,Zwr,or_assoc]
theorem Zpk(back:Bool)(x:T):ZfM s back [x]=x.lead s back:=by
 funext f;rw[ZfM]
theorem Zjt(back:Bool)(hs:s.length<=512):∀t:T,t.good=true->Zgg s back (t.lead s back) (t.M s)
 | t,hg=>by
  obtain⟨hr,cF⟩:=Zhs hg
  have ih:∀x∈t.subs,Zgg s back (x.lead s back) (x.M s):=λx hx=>Zjt back hs x (cF x hx)
  rcases ZtV hr with h|h|h|h|⟨h,⟨x,hx⟩,h0,qL,ii⟩|⟨h,x,hx⟩
  ·intro f hf j
   have e:Zgf back (t.M s) f j↔Zgf back (λa b=>a=b) f j:=by unfold Zgf;cases back <;> simp only[M_1 h]
   rw[e,Zpg,Zwj h]
  ·exact Zct (ZsQ s back t) (λf=>Zwk h f) (λi j=>M_2 h i j)
  ·cases back with
   | false=>exact Zct (ZkJ hs t.subs ih) (λf=>by rw[ZuI h];rfl) (λi j=>M_3 h i j)
   | true=>exact Zct (ZkK hs t.subs ih) (λf=>by rw[ZuI h];rfl) (λi j=>M_3 h i j)
  ·intro f hf j
   rw[Zwl h,Zpj hs t.subs ih f hf]
   have e:Zgf back (t.M s) f j↔Zgf back (MA s t.subs) f j:=by unfold Zgf;cases back <;> simp only[M_4 h]
   rw[e];simp
  ·have hx':x∈t.subs:=by rw[hx];simp
   have hl:=ZsR (mn:=t.mn) (mx:=t.mx) (ih x hx') (Zfj s back hs x) h0 qL (by omega)
   exact Zct hl (λf=>by rw[Zwm h,hx,Zpk]) (λi j=>by rw[M_5 h,hx,Zgh])
  ·have hx':x∈t.subs:=by rw[hx];simp
   exact Zct (ih x hx') (λf=>by rw[Zwn h,hx,Zpk]) (λi j=>by rw[M_6 h,hx,Zgh])
termination_by t=>SizeOf.sizeOf t
decreasing_by exact ZfU hx
end
def Fwd(R:Re):Prop:=∀i j,R i j->i<=j
def Sh(s s':List Nat)(R R':Re):Prop:=∀i j i',R i j->(∀p,i+p < j->s[i+p]?=s'[i'+p]?)->R' i' (i'+(j - i))
def Len(s:List Nat)(R:Re):Prop:=∀i j,R i j->i<=s.length->j<=s.length
structure Nice (s s':List Nat)(R R':Re):Prop where
 fwd:Fwd R
 sh:Sh s s' R R'
 len:Len s R
theorem ZrD(s s':List Nat):Nice s s' (λi j=>i=j) (λi j=>i=j):=
 ⟨λi j h=>by omega,λi j i' h _=>by omega,λi j h k=>by omega⟩
theorem ZrE{s s':List Nat}{R R' Q Q':Re}(h:Nice s s' R R')(k:Nice s s' Q Q'):Nice s s' (λi j=>∃m,R i m/\Q m j) (λi j=>∃m,R' i m/\Q' m j):=by
 refine⟨λi j ⟨m,h1,h2⟩=>Nat.le_trans (h.fwd _ _ h1) (k.fwd _ _ h2),λi j i' ⟨m,h1,h2⟩ hs=>?_,λi j ⟨m,h1,h2⟩ hi=>k.len _ _ h2 (h.len _ _ h1 hi)⟩
 have a:=h.fwd _ _ h1
 have b:=k.fwd _ _ h2
 refine⟨i'+(m - i),h.sh _ _ _ h1 λp hp=>hs p (by omega),?_⟩
 have:=k.sh _ _ (i'+(m - i)) h2 λp hp=>by
  have:=hs ((m - i)+p) (by omega)
  rw[show i+(m - i+p)=m+p by omega,show i'+(m - i+p)=i'+(m - i)+p by omega]at this
  exact this
 rw[show i'+(m - i)+(j - m)=i'+(j - i) by omega]at this
 exact this
theorem Zlv{s s':List Nat}{R R':Re}(h:Nice s s' R R'):∀n,Nice s s' (pow R n) (pow R' n)
 | 0=>ZrD s s'
 | n+1=>ZrE h (Zlv h n)
theorem ZdO{s s':List Nat}{R R' Q Q':Re}(h:Nice s s' R R')(e:∀i j,Q i j↔R i j)(e':∀i j,Q' i j↔R' i j):Nice s s' Q Q':=
 ⟨λi j k=>h.fwd i j ((e i j).1 k),λi j i' k hs=>(e' _ _).2 (h.sh i j i' ((e i j).1 k) hs),λi j k hi=>h.len i j ((e i j).1 k) hi⟩
theorem Zyf{s s':List Nat}:∀(l:List T),(∀x∈l,Nice s s' (x.M s) (x.M s'))->Nice s s' (MC s l) (MC s' l)
 | [],_=>ZdO (ZrD s s') (λi j=>Zlu i j) (λi j=>Zlu i j)
 | t::l,h=>ZdO (ZrE (h t (by simp)) (Zyf l λx hx=>h x (by simp[hx]))) (λi j=>Zht t l i j) (λi j=>Zht t l i j)
theorem Zyg{s s':List Nat}:∀(l:List T),(∀x∈l,Nice s s' (x.M s) (x.M s'))->Nice s s' (MA s l) (MA s' l)
 | [],_=>⟨λi j h=>by rw[Znw]at h;exact h.elim,λi j i' h=>by rw[Znw]at h;exact h.elim,λi j h=>by rw[Znw]at h;exact h.elim⟩
 | t::l,h=>by
  have h1:=h t (by simp)
  have h2:=Zyg l λx hx=>h x (by simp[hx])
  refine⟨λi j k=>?_,λi j i' k hs=>?_,λi j k hi=>?_⟩
  ·rcases(Zhu t l i j).1 k with k|k
   ·exact h1.fwd _ _ k
   ·exact h2.fwd _ _ k
  ·refine(Zhu t l _ _).2 ?_
   rcases(Zhu t l i j).1 k with k|k
   ·exact .inl (h1.sh _ _ _ k hs)
   ·exact .inr (h2.sh _ _ _ k hs)
  ·rcases(Zhu t l i j).1 k with k|k
   ·exact h1.len _ _ k hi
   ·exact h2.len _ _ k hi
theorem ZuP(s s':List Nat):∀t:T,t.good=true->Nice s s' (t.M s) (t.M s')
 | t,hg=>by
  obtain⟨hr,cF⟩:=Zhs hg
  have ih:∀x∈t.subs,Nice s s' (x.M s) (x.M s'):=λx hx=>ZuP s s' x (cF x hx)
  rcases ZtV hr with h|h|h|h|⟨h,⟨x,hx⟩,h0,qL,ii⟩|⟨h,x,hx⟩
  ·exact ZdO (ZrD s s') (λi j=>M_1 h i j) (λi j=>M_1 h i j)
  ·refine⟨λi j k=>?_,λi j i' k hs=>?_,λi j k hi=>?_⟩
   ·have:=(M_2 h i j).1 k;omega
   ·obtain⟨rfl,b,h1,h2⟩:=(M_2 h i j).1 k
    refine(M_2 h _ _).2 ⟨by omega,b,?_,h2⟩
    have:=hs 0 (by omega)
    simp only[Nat.add_zero]at this
    rw[<-this];exact h1
   ·obtain⟨rfl,b,h1,h2⟩:=(M_2 h i j).1 k
    have:=(List.getElem?_eq_some_iff.1 h1).1
    omega
  ·exact ZdO (Zyf t.subs ih) (λi j=>M_3 h i j) (λi j=>M_3 h i j)
  ·exact ZdO (Zyg t.subs ih) (λi j=>M_4 h i j) (λi j=>M_4 h i j)
  ·have hn:=ih x (by rw[hx];simp)
   refine⟨λi j k=>?_,λi j i' k hs=>?_,λi j k hi=>?_⟩
   ·obtain⟨n,_,_,h3⟩:=(M_5 h i j).1 k
    rw[hx,Zgh]at h3
    exact(Zlv hn n).fwd _ _ h3
   ·obtain⟨n,h1,h2,h3⟩:=(M_5 h i j).1 k
    rw[hx,Zgh]at h3
    refine(M_5 h _ _).2 ⟨n,h1,h2,?_⟩
    rw[hx,Zgh]
    exact(Zlv hn n).sh _ _ _ h3 hs
   ·obtain⟨n,_,_,h3⟩:=(M_5 h i j).1 k
    rw[hx,Zgh]at h3
    exact(Zlv hn n).len _ _ h3 hi
  ·have hn:=ih x (by rw[hx];simp)
   exact ZdO hn (λi j=>by rw[M_6 h,hx,Zgh]) (λi j=>by rw[M_6 h,hx,Zgh])
termination_by t=>SizeOf.sizeOf t
decreasing_by exact ZfU hx
theorem Zyr{t:T}(hg:t.good=true){s:List Nat}{i j:Nat}(h:t.M s i j):i<=j:=(ZuP s s t hg).fwd _ _ h
theorem Zyh{t:T}(hg:t.good=true){s:List Nat}{i j:Nat}(h:t.M s i j)(hi:i<=s.length):j<=s.length:=(ZuP s s t hg).len _ _ h hi
theorem ZkL(n i:Nat):(2 ^ n).testBit i=true↔n=i:=by rw[Nat.testBit_two_pow];simp
theorem ZuQ{t:T}(hg:t.good=true){s:List Nat}(hs:s.length<=512){i j:Nat}(hi:i < 576):(t.lead s false (2 ^ i)).testBit j=true↔t.M s i j:=by
 rw[Zjt false hs t hg _ (Zru hi) j]
 unfold Zgf
 simp only[ZkL,Bool.false_eq_true,if_false]
 constructor
 ·rintro⟨k,rfl,h⟩;exact h
 ·intro h;exact⟨i,rfl,h⟩
theorem ZfW{t:T}(hg:t.good=true){s:List Nat}(hs:s.length<=512){i j:Nat}(hj:j < 576):(t.lead s true (2 ^ j)).testBit i=true↔t.M s i j:=by
 rw[Zjt true hs t hg _ (Zru hj) i]
 unfold Zgf
 simp only[ZkL,if_true]
 constructor
 ·rintro⟨k,rfl,h⟩;exact h
 ·intro h;exact⟨j,rfl,h⟩
end Go.Rx
namespace Go.Rx
open Go Go.Eng Go.RowKit
set_option maxRecDepth 100000
theorem Ziw(p:Nat->Bool):∀(n a:Nat),match(List.range' a n).filter p with
  | []=>∀i,a<=i->i < a+n->p i=false
  | x::_=>p x=true/\a<=x/\x < a+n/\∀i,a<=i->i < x->p i=false
 | 0,a=>by simp;omega
 | n+1,a=>by
  have ih:=Ziw p n (a+1)
  rw[List.range'_succ,List.filter_cons]
  by_cases h:p a=true
  ·rw[if_pos h];exact⟨h,Nat.le_refl _,by omega,λi h1 h2=>by omega⟩
  ·rw[if_neg h]
   have h':p a=false:=by simpa using h
   cases hf:(List.range' (a+1) n).filter p with
   | nil=>
    rw[hf]at ih
    intro i h1 h2
    by_cases e:i=a
    ·subst e;exact h'
    ·exact ih i (by omega) (by omega)
   | cons x l=>
    rw[hf]at ih
    obtain⟨h1,h2,h3,h4⟩:=ih
    refine⟨h1,by omega,by omega,λi h5 h6=>?_⟩
    by_cases e:i=a
    ·subst e;exact h'
    ·exact h4 i (by omega) h6
theorem ZmO(f:Nat):match ZbR f with
  | []=>∀i,i < 513->f.testBit i=false
  | x::_=>f.testBit x=true/\x < 513/\∀i,i < x->f.testBit i=false:=by
 have h:=Ziw (λi=>f.testBit i) 513 0
 unfold ZbR
 rw[List.range_eq_range']
 cases hf:(List.range' 0 513).filter λi=>f.testBit i with
 | nil=>rw[hf]at h;exact λi hi=>h i (by omega) (by omega)
 | cons x l=>rw[hf]at h;exact⟨h.1,by have:=h.2.2.1;omega,λi hi=>h.2.2.2 i (by omega) hi⟩
def Beg(r:Rg)(s:List Nat)(n i:Nat):Prop:=r.t.M s i n/\(i=0\/r.bg=false)
def ZsS(r:Rg)(s:List Nat)(n:Nat):Prop:=r.en=false\/n=s.length
theorem ZsT{r:Rg}(hg:r.t.good=true){s:List Nat}(hs:s.length<=512){n:Nat}(hn:n<=s.length){i:Nat}(h:r.from s n=some i):ZsS r s n/\Beg r s n i/\∀j,j < i->¬Beg r s n j:=by
 unfold Rg.from at h
 have lI:n < 576:=by omega
 split at h
 ·cases h
 ·rename_i he
  have ho:ZsS r s n:=by
   unfold ZsS
   cases ux:r.en with
   | false=>exact .inl rfl
   | true=>
    right
    rw[ux]at he
    simp at he
    omega
  refine⟨ho,?_⟩
  split at h
  ·rename_i hb
   split at h
   ·rename_i h0
    cases h
    exact⟨⟨(ZfW hg hs lI).1 h0,.inl rfl⟩,λj hj=>by omega⟩
   ·cases h
  ·rename_i hb
   have hb':r.bg=false:=by simpa using hb
   have hf:=ZmO (r.t.lead s true (2 ^ n))
   cases hl:ZbR (r.t.lead s true (2 ^ n))with
   | nil=>rw[hl]at h;simp[ZmF]at h
   | cons x l=>
    rw[hl]at h hf
    simp only[ZmF]at h
    split at h
    ·cases h
    ·cases h
     exact⟨⟨(ZfW hg hs lI).1 hf.1,.inr hb'⟩,λj hj k=>by
      have:=hf.2.2 j hj
      rw[(ZfW hg hs lI).2 k.1]at this;cases this⟩
theorem ZsU{r:Rg}(hg:r.t.good=true){s:List Nat}(hs:s.length<=512){n:Nat}(hn:n<=s.length)(h:r.from s n=none)(ho:ZsS r s n):∀i,¬Beg r s n i:=by
 intro i hi
 have lI:n < 576:=by omega
 unfold Rg.from at h
 have he:¬(r.en&&decide ((n:Int) < s.length))=true:=by
  unfold ZsS at ho
  rcases ho with ho|ho
  ·rw[ho];simp
  ·simp;omega
 rw[if_neg he]at h
 split at h
 ·rename_i hb
  have h0:i=0:=by
   rcases hi.2 with h|h
   ·exact h
   ·rw[hb]at h;cases h
  subst h0
  rw[if_pos ((ZfW hg hs lI).2 hi.1)]at h;cases h
 ·have hf:=ZmO (r.t.lead s true (2 ^ n))
  have fI:=Zyr hg hi.1
  cases hl:ZbR (r.t.lead s true (2 ^ n))with
  | nil=>
   rw[hl]at hf
   have:=hf i (by omega)
   rw[(ZfW hg hs lI).2 hi.1]at this;cases this
  | cons x l=>
   rw[hl]at h hf
   simp only[ZmF]at h
   split at h
   ·rename_i hx
    have:=hf.2.2 i (by omega)
    rw[(ZfW hg hs lI).2 hi.1]at this;cases this
   ·cases h
theorem Ze7:∀(l l':List Nat),l.Pairwise (· < ·)->l'.Pairwise (· < ·)->(∀x,x∈l↔x∈l')->l=l'
 | [],[],_,_,_=>rfl
 | [],y::l',_,_,h=>by have:=(h y).2 (by simp);simp at this
 | x::l,[],_,_,h=>by have:=(h x).1 (by simp);simp at this
 | x::l,y::l',h1,h2,h=>by
  rw[List.pairwise_cons]at h1 h2
  have pa:x=y:=by
   have a:=(h x).1 (by simp)
   have b:=(h y).2 (by simp)
   rcases List.mem_cons.1 a with a|a
   ·exact a
   ·rcases List.mem_cons.1 b with b|b
    ·exact b.symm
    ·have:=h1.1 y b;have:=h2.1 x a;omega
  subst pa
  rw[Ze7 l l' h1.2 h2.2 λz=>?_]
  constructor
  ·intro hz
   have:=(h z).1 (by simp[hz])
   rcases List.mem_cons.1 this with e|e
   ·have:=h1.1 z hz;omega
   ·exact e
  ·intro hz
   have:=(h z).2 (by simp[hz])
   rcases List.mem_cons.1 this with e|e
   ·have:=h2.1 z hz;omega
   ·exact e
theorem Zpl(f:Nat):(ZbR f).Pairwise (· < ·):=by
 unfold ZbR
 exact List.Pairwise.filter _ List.pairwise_lt_range
theorem Zju{f x:Nat}:x∈ZbR f↔x < 513/\f.testBit x=true:=by
 unfold ZbR;simp
def ZtY(t:T)(s:List Nat)(i:Nat):List Nat:=ZbR (t.lead s false (2 ^ i))
def Zws(t:T)(s:List Nat)(j:Nat):List Nat:=ZbR (t.lead s true (2 ^ j))
theorem ZuR{t:T}(hg:t.good=true){s:List Nat}(hs:s.length<=512){i j:Nat}(hi:i<=s.length):j∈ZtY t s i↔t.M s i j:=by
 unfold ZtY
 rw[Zju,ZuQ hg hs (by omega)]
 constructor
 ·exact λh=>h.2
 ·intro h;have:=Zyh hg h hi;exact⟨by omega,h⟩
theorem ZuS{t:T}(hg:t.good=true){s:List Nat}(hs:s.length<=512){i j:Nat}(hj:j<=s.length):i∈Zws t s j↔t.M s i j:=by
 unfold Zws
 rw[Zju,ZfW hg hs (by omega)]
 constructor
 ·exact λh=>h.2
 ·intro h;have:=Zyr hg h;exact⟨by omega,h⟩
theorem ZsV(s:List Nat)(l r:List T)(i j:Nat):MA s (l++r) i j↔MA s l i j\/MA s r i j:=by
 induction l with
 | nil=>simp[Znw]
 | cons t l ih=>rw[List.cons_append,Zhu,Zhu,ih];exact or_assoc.symm
theorem ZsW(s:List Nat)(l r:List T):∀i j,MC s (l++r) i j↔∃m,MC s l i m/\MC s r m j:=by
 induction l with
 | nil=>intro i j;simp[Zlu]
 | cons t l ih=>
  intro i j
  rw[List.cons_append,Zht]
  simp only[ih,Zht]
  constructor
  ·rintro⟨a,h1,b,h2,h3⟩;exact⟨b,⟨a,h1,h2⟩,h3⟩
  ·rintro⟨b,⟨a,h1,h2⟩,h3⟩;exact⟨a,h1,b,h2,h3⟩
theorem ZrF{R:Re}(hf:Fwd R):∀c i j,pow R (c+1) i j->j < i+(c+1)->pow R c i j
 | 0,i,j,⟨m,h1,h2⟩,hj=>by
  have h2:m=j:=h2
  subst h2
  have:=hf _ _ h1
  show i=m
  omega
 | c+1,i,j,⟨m,h1,h2⟩,hj=>by
  by_cases e:m=i
  ·subst e;exact h2
  ·have:=hf _ _ h1
   exact⟨m,h1,ZrF hf c m j h2 (by omega)⟩
theorem Zpm{R:Re}(hf:Fwd R){B i j:Nat}(hj:j<=i+B):∀d,pow R (B+d) i j->pow R B i j
 | 0,h=>h
 | d+1,h=>Zpm hf hj d (ZrF hf (B+d) i j h (by omega))
theorem Zqx{l:List Value}{i:Nat}{v:Value}(h:i < l.length):Zam l i [v]=l.set i v:=by
 refine List.ext_getElem? λj=>?_
 unfold Zam
 simp only[List.length_cons,List.length_nil]
 rw[List.getElem?_set]
 by_cases h1:j < i
 ·rw[List.append_assoc,List.getElem?_append_left (by rw[List.length_take];omega),List.getElem?_take,if_pos h1,if_neg (by omega)]
 ·rw[List.append_assoc,List.getElem?_append_right (by rw[List.length_take];omega),List.length_take,Nat.min_eq_left (by omega)]
  by_cases h2:j=i
  ·subst h2;simp[h]
  ·rw[List.getElem?_append_right (by simp;omega),if_neg (by omega),List.getElem?_drop]
   congr 1
   simp;omega
def ZtZ(q:QS)(c:Nat):Int:=if ZvN q c then 1 else 0
def ZaY(q:QS):List Value:=(List.range 256).map λc=>Value.int .i64 (ZtZ q c)
theorem ZaB(q:QS):(ZaY q).length=256:=by simp[ZaY]
theorem Zlw(q:QS){c:Nat}(h:c < 256):(ZaY q)[c]?=some (.int .i64 (ZtZ q c)):=by simp[ZaY,h]
theorem Zjv(q:QS):∀u∈ZaY q,u.oneCell'=true:=by
 intro u hu
 obtain⟨c,_,rfl⟩:=List.mem_map.1 hu
 rfl
def Zix(q:QS)(j:Nat):Int:=if j=0 then q.1 else if j=1 then q.2.1 else if j=2 then q.2.2.1 else q.2.2.2
theorem Zpn(q:QS)(c:Nat):ZvN q c=(Zix q (c / 64)).toNat.testBit (c % 64):=rfl
theorem Zn5{q:QS}(h:QOk q)(j:Nat):0<=Zix q j/\Zix q j < 18446744073709551616:=by
 obtain⟨h0,h1,h2,h3⟩:=h
 unfold Zix
 split
 ·exact h0
 ·split
  ·exact h1
  ·split
   ·exact h2
   ·exact h3
theorem Zwt(n i:Nat):n / 2 ^ i % 2=if n.testBit i then 1 else 0:=by
 rw[Nat.testBit_eq_decide_div_mod_eq]
 have:=Nat.mod_two_eq_zero_or_one (n / 2 ^ i)
 by_cases h:n / 2 ^ i % 2=1
 ·simp[h]
 ·have h0:n / 2 ^ i % 2=0:=by omega
  simp[h0]
theorem ZxB{q r:QS}(hq:QOk q)(hr:QOk r)(h:∀c,c < 256->ZvN q c=ZvN r c):q=r:=by
 have key:∀j,j < 4->Zix q j=Zix r j:=λj hj=>by
  have a:=Zn5 hq j
  have b:=Zn5 hr j
  have e:(Zix q j).toNat=(Zix r j).toNat:=by
   apply Nat.eq_of_testBit_eq
   intro i
   by_cases hi:i < 64
   ·have:=h (64*j+i) (by omega)
    rw[Zpn,Zpn,show(64*j+i) / 64=j by omega,show(64*j+i) % 64=i by omega]at this
    exact this
   ·have p:2 ^ 64<=2 ^ i:=Nat.pow_le_pow_right (by omega) (by omega)
    rw[Nat.testBit_lt_two_pow (by omega),Nat.testBit_lt_two_pow (by omega)]
  omega
 obtain⟨q0,q1,q2,q3⟩:=q
 obtain⟨r0,r1,r2,r3⟩:=r
 have h0:=key 0 (by omega)
 have h1:=key 1 (by omega)
 have h2:=key 2 (by omega)
 have h3:=key 3 (by omega)
 simp only[Zix]at h0 h1 h2 h3
 simp at h0 h1 h2 h3
 rw[h0,h1,h2,h3]
theorem Zqy{q r:QS}(hq:QOk q)(hr:QOk r)(h:ZaY q=ZaY r):q=r:=by
 refine ZxB hq hr λc hc=>?_
 have h1:=Zlw q hc
 rw[h,Zlw r hc]at h1
 simp only[Option.some.injEq,Value.int.injEq,true_and,ZtZ]at h1
 cases h2:ZvN q c <;> cases h3:ZvN r c <;> rw[h2,h3]at h1 <;> simp at h1 ⊢
def T.q(t:T):QS:=(t.s0,t.s1,t.s2,t.s3)
def rcs(k:Int)(q:QS)(mn mx:Int)(a:Option Addr)(n c:Nat):List Value:=.int .i64 k::(ZaY q++[.int .i64 mn,.int .i64 mx,.slice a n c])
theorem Ziy(k:Int)(q:QS)(mn mx:Int)(a:Option Addr)(n c:Nat):(rcs k q mn mx a n c).length=260:=by simp[rcs,ZaB]
theorem Zn6(k:Int)(q:QS)(mn mx:Int)(a:Option Addr)(n c:Nat):(rcs k q mn mx a n c)[0]?=some (.int .i64 k):=rfl
theorem Zwu(k:Int)(q:QS)(mn mx:Int)(a:Option Addr)(n c:Nat){j:Nat}(h:j < 256):(rcs k q mn mx a n c)[1+j]?=some (.int .i64 (ZtZ q j)):=by
 rw[rcs,Nat.add_comm,List.getElem?_cons_succ,List.getElem?_append_left (by rw[ZaB];exact h),Zlw q h]
theorem ZxC(k:Int)(q:QS)(mn mx:Int)(a:Option Addr)(n c:Nat):(rcs k q mn mx a n c)[257]?=some (.int .i64 mn):=by
 rw[rcs,List.getElem?_cons_succ,List.getElem?_append_right (by rw[ZaB];omega),ZaB];rfl
theorem ZxD(k:Int)(q:QS)(mn mx:Int)(a:Option Addr)(n c:Nat):(rcs k q mn mx a n c)[258]?=some (.int .i64 mx):=by
 rw[rcs,List.getElem?_cons_succ,List.getElem?_append_right (by rw[ZaB];omega),ZaB];rfl
theorem ZxE(k:Int)(q:QS)(mn mx:Int)(a:Option Addr)(n c:Nat):(rcs k q mn mx a n c)[259]?=some (.slice a n c):=by
 rw[rcs,List.getElem?_cons_succ,List.getElem?_append_right (by rw[ZaB];omega),ZaB];rfl
theorem ZrG(k:Int)(q:QS)(mn mx:Int)(a:Option Addr)(n c:Nat):((rcs k q mn mx a n c).drop 1).take 256=ZaY q:=by
 rw[rcs,List.drop_succ_cons,List.drop_zero,List.take_left' (ZaB q)]
theorem Zt0(k:Int)(q:QS)(mn mx:Int)(a:Option Addr)(n c:Nat):∀u∈rcs k q mn mx a n c,u.oneCell'=true:=by
 intro u hu
 unfold rcs at hu
 rcases List.mem_cons.1 hu with rfl|hu
 ·rfl
 ·rcases List.mem_append.1 hu with hu|hu
  ·exact Zjv q u hu
  ·simp only[List.mem_cons,List.not_mem_nil,or_false]at hu
   rcases hu with rfl|rfl|rfl <;> rfl
mutual
def RefT(m:Mem):T->List Value->Prop
 | .node k s0 s1 s2 s3 mn mx _ _ l,cs=>OkN k s0 s1 s2 s3 mn mx/\l.length<=1000000/\∃a c css,cs=rcs k (s0,s1,s2,s3) mn mx a l.length c/\rowRd m a css.flatten/\RefAt m l css/\l.length<=c
def RefAt(m:Mem):List T->List (List Value)->Prop
 | [],css=>css=[]
 | t::l,css=>∃cs r,css=cs::r/\RefT m t cs/\RefAt m l r
end
theorem Zb5{m:Mem}{t:T}{cs:List Value}:RefT m t cs↔(OkN t.k t.s0 t.s1 t.s2 t.s3 t.mn t.mx/\t.subs.length<=1000000/\∃a c css,cs=rcs t.k t.q t.mn t.mx a t.subs.length c/\rowRd m a css.flatten/\RefAt m t.subs css/\t.subs.length<=c):=by
 cases t;simp only[RefT,T.k,T.s0,T.s1,T.s2,T.s3,T.mn,T.mx,T.subs,T.q]
theorem Zwv{t:T}(h:OkN t.k t.s0 t.s1 t.s2 t.s3 t.mn t.mx):QOk t.q:=⟨h.s0,h.s1,h.s2,h.s3⟩
theorem RefT.len{m:Mem}{t:T}{cs:List Value}(h:RefT m t cs):cs.length=260:=by
 obtain⟨_,_,a,c,css,rfl,_⟩:=Zb5.1 h
 exact Ziy _ _ _ _ _ _ _
theorem RefT.one{m:Mem}{t:T}{cs:List Value}(h:RefT m t cs):∀u∈cs,u.oneCell'=true:=by
 obtain⟨_,_,a,c,css,rfl,_⟩:=Zb5.1 h
 exact Zt0 _ _ _ _ _ _ _
theorem RefAt.len{m:Mem}:∀{l:List T} {css:List (List Value)},RefAt m l css->css.length=l.length
 | [],css,h=>by simp only[RefAt]at h;rw[h];rfl
 | t::l,css,h=>by
  simp only[RefAt]at h
  obtain⟨cs,r,rfl,_,h2⟩:=h
  simp[h2.len]
theorem RefAt.get{m:Mem}:∀{l:List T} {css:List (List Value)} {i:Nat} {t:T},RefAt m l css->l[i]?=some t->∃cs,css[i]?=some cs/\RefT m t cs
 | [],css,i,t,h,hi=>by simp at hi
 | t::l,css,i,u,h,hi=>by
  simp only[RefAt]at h
  obtain⟨cs,r,rfl,h1,h2⟩:=h
  cases i with
  | zero=>simp at hi;subst hi;exact⟨cs,rfl,h1⟩
  | succ i=>simpa using h2.get (i:=i) (by simpa using hi)
theorem RefAt.all{m:Mem}:∀{l:List T} {css:List (List Value)},RefAt m l css->∀cs∈css,cs.length=260
 | [],css,h,cs,hc=>by simp only[RefAt]at h;rw[h]at hc;cases hc
 | t::l,css,h,cs,hc=>by
  simp only[RefAt]at h
  obtain⟨cs',r,rfl,h1,h2⟩:=h
  rcases List.mem_cons.1 hc with rfl|hc
  ·exact h1.len
  ·exact h2.all cs hc
theorem RefAt.snoc{m:Mem}:∀{l:List T} {css:List (List Value)} {t:T} {cs:List Value},RefAt m l css->RefT m t cs->RefAt m (l++[t]) (css++[cs])
 | [],css,t,cs,h,h1=>by
  simp only[RefAt]at h
  subst h
  simp only[List.nil_append,RefAt]
  exact⟨cs,[],rfl,h1,rfl⟩
 | x::l,css,t,cs,h,h1=>by
  simp only[RefAt]at h
  obtain⟨cs',r,rfl,h2,h3⟩:=h
  simp only[List.cons_append,RefAt]
  exact⟨cs',r++[cs],rfl,h2,h3.snoc h1⟩
mutual
theorem RefT.mono{m m':Mem}(k:m.le m'):∀{t:T} {cs:List Value},RefT m t cs->RefT m' t cs
 | .node _ _ _ _ _ _ _ _ _ l,cs,h=>by
  simp only[RefT]at h ⊢
  obtain⟨h1,h2,a,c,css,h3,h4,h5,h6⟩:=h
  exact⟨h1,h2,a,c,css,h3,h4.mono k,RefAt.mono k h5,h6⟩
theorem RefAt.mono{m m':Mem}(k:m.le m'):∀{l:List T} {css:List (List Value)},RefAt m l css->RefAt m' l css
 | [],css,h=>by simpa only[RefAt]using h
 | t::l,css,h=>by
  simp only[RefAt]at h ⊢
  obtain⟨cs,r,e,h1,h2⟩:=h
  exact⟨cs,r,e,RefT.mono k h1,RefAt.mono k h2⟩
end
theorem ZrH{css:List (List Value)}(h:∀cs∈css,cs.length=260):css.flatten.length=css.length*260:=by
 induction css with
 | nil=>rfl
 | cons cs r ih=>
  rw[List.flatten_cons,List.length_append,h cs (by simp),ih λx hx=>h x (by simp[hx]),List.length_cons];omega
theorem Zww{css:List (List Value)}(h:∀cs∈css,cs.length=260){i:Nat}{cs:List Value}(hi:css[i]?=some cs){j:Nat}{v:Value}(hv:cs[j]?=some v):css.flatten[i*260+j]?=some v:=by
 induction css generalizing i with
 | nil=>simp at hi
 | cons c r ih=>
  have hj:j < 260:=by have:=(List.getElem?_eq_some_iff.1 hv).1;rw[h cs (List.mem_of_getElem? hi)]at this;exact this
  have hc:=h c (by simp)
  rw[List.flatten_cons]
  cases i with
  | zero=>
   simp at hi;subst hi
   rw[Nat.zero_mul,Nat.zero_add,List.getElem?_append_left (by omega)];exact hv
  | succ i=>
   rw[List.getElem?_append_right (by omega),hc,show(i+1)*260+j - 260=i*260+j by omega]
   exact ih (λx hx=>h x (by simp[hx])) (by simpa using hi)
theorem Ziz{m:Mem}{a:Option Addr}{l:List T}{css:List (List Value)}(hr:rowRd m a css.flatten)(h:RefAt m l css){i:Nat}{t:T}(hi:l[i]?=some t):∃b o cs,a=some ⟨b,o,none⟩/\m.reads b (o+i*260) cs/\RefT m t cs:=by
 obtain⟨cs,h1,h2⟩:=h.get hi
 rcases hr with hr|⟨b,o,e,hr⟩
 ·have:=ZrH h.all
  rw[hr]at this
  have:=(List.getElem?_eq_some_iff.1 h1).1
  simp at *;omega
 ·exact⟨b,o,cs,e,λj v hv=>by have:=hr _ v (Zww h.all h1 hv);rwa [<-Nat.add_assoc]at this,h2⟩
mutual
def RepW(m:Mem):T->Prop
 | .node k s0 s1 s2 s3 mn mx a _ l=>l.length<=9223372036854775807/\(l=[]\/∃b o,a=some ⟨b,o,none⟩/\RepWAt m b o l)/\OkN k s0 s1 s2 s3 mn mx
def RepWAt(m:Mem)(b:Nat):Nat->List T->Prop
 | _,[]=>True
 | o,t::l=>m.reads b o t.cs/\RepW m t/\RepWAt m b (o+8) l
end
theorem RepWAt.get{m:Mem}{b:Nat}:∀{l:List T} {o i:Nat} {t:T},RepWAt m b o l->l[i]?=some t->m.reads b (o+i*8) t.cs/\RepW m t
 | [],o,i,t,h,hi=>by simp at hi
 | x::l,o,0,t,h,hi=>by
  simp at hi;subst hi
  simp only[RepWAt]at h
  simpa using⟨h.1,h.2.1⟩
 | x::l,o,i+1,t,h,hi=>by
  simp only[RepWAt]at h
  have:=h.2.2.get (i:=i) (by simpa using hi)
  rw[show o+(i+1)*8=o+8+i*8 by omega]
  exact this
mutual
theorem RepW.mono{m m':Mem}(h:m.le m'):∀t:T,RepW m t->RepW m' t
 | .node _ _ _ _ _ _ _ a _ l,hr=>by
  simp only[RepW]at *
  exact⟨hr.1,hr.2.1.imp id λ⟨b,o,e,k⟩=>⟨b,o,e,RepWAt.mono h l o k⟩,hr.2.2⟩
theorem RepWAt.mono{m m':Mem}(h:m.le m'){b:Nat}:∀(l:List T)(o:Nat),RepWAt m b o l->RepWAt m' b o l
 | [],o,_=>by simp only[RepWAt]
 | t::l,o,hr=>by
  simp only[RepWAt]at *
  exact⟨λj v hv=>h _ _ _ (hr.1 j v hv),RepW.mono h t hr.2.1,RepWAt.mono h l (o+8) hr.2.2⟩
end
def Zt1(t:T):Bool:=decide (1<=t.k)&&(decide (t.k<=6)&&((t.k == 2) == !t.setZ))&&((if t.k=5 then decide (0<=t.mn/\t.mn<=16)&&(t.mx == -1||(decide (0 < t.mx)&&(decide (t.mx < 17)&&(decide (t.mn<=t.mx)&&!(t.mn == 1&&t.mx == 1)))))else t.mn == 0&&t.mx == 0) &&
 ((if t.k < 3 then t.subs.length == 0 else if t.k < 5 then decide (2<=t.subs.length)else t.subs.length == 1)))
def Zlx(k:Int)(x:T):Bool:=!((k == 3&&(x.k == 1||x.k == 3))||(k == 4&&x.k == 4)||(k == 5&&x.k == 1))
theorem Zn7(k:Int)(l:List T)(h:∀x:T,Zlx k x=true):l.all (Zlx k)=true:=List.all_eq_true.2 λx _=>h x
theorem ZyI(l:List T):l.all (Zlx 3)=(!(l.any λx=>x.k == 1)&&!(l.any λx=>x.k == 3)):=by
 induction l with
 | nil=>rfl
 | cons x l ih=>
  rw[List.all_cons,List.any_cons,List.any_cons,ih]
  have:Zlx 3 x=(!(x.k == 1)&&!(x.k == 3)):=by unfold Zlx;cases x.k == 1 <;> cases x.k == 3 <;> simp
  rw[this]
  cases x.k == 1 <;> cases x.k == 3 <;> simp
theorem ZyJ(l:List T):l.all (Zlx 4)=!(l.any λx=>x.k == 4):=by
 induction l with
 | nil=>rfl
 | cons x l ih=>
  rw[List.all_cons,List.any_cons,ih]
  have:Zlx 4 x=!(x.k == 4):=by unfold Zlx;cases x.k == 4 <;> simp
  rw[this]
  cases x.k == 4 <;> simp
theorem ZyK(l:List T):l.all (Zlx 5)=!(l.any λx=>x.k == 1):=by
 induction l with
 | nil=>rfl
 | cons x l ih=>
  rw[List.all_cons,List.any_cons,ih]
  have:Zlx 5 x=!(x.k == 1):=by unfold Zlx;cases x.k == 1 <;> simp
  rw[this]
  cases x.k == 1 <;> simp
theorem ZyL(mn mx:Int):(decide (0<=mn/\mn<=16)&&(mx == -1||(decide (0 < mx)&&(decide (mx < 17)&&(decide (mn<=mx)&&!(mn == 1&&mx == 1))))))=Zd7 mn mx:=by
 unfold Zd7
 rw[Bool.eq_iff_iff]
 simp only[Bool.and_eq_true,Bool.or_eq_true,Bool.not_eq_true',decide_eq_true_eq,beq_iff_eq,Bool.or_eq_false_iff,Bool.and_eq_false_iff,decide_eq_false_iff_not,beq_eq_false_iff_ne,ge_iff_le]
 omega
theorem Zqz(t:T):(Zt1 t&&t.subs.all (Zlx t.k))=t.right:=by
 have len0:(t.subs.length == 0)=!decide (0 < t.subs.length):=by
  rw[Bool.eq_iff_iff];simp
 unfold Zt1 T.right T.has
 rw[ZyL]
 by_cases h1:t.k=1
 ·rw[Zn7 t.k t.subs (λx=>by unfold Zlx;rw[h1];simp),h1,len0]
  cases t.setZ <;> cases decide (0 < t.subs.length) <;> cases hm:t.mn == 0 <;> cases hx:t.mx == 0 <;> simp[bne,hm,hx]
 by_cases h2:t.k=2
 ·rw[Zn7 t.k t.subs (λx=>by unfold Zlx;rw[h2];simp),h2,len0]
  cases t.setZ <;> cases decide (0 < t.subs.length) <;> cases hm:t.mn == 0 <;> cases hx:t.mx == 0 <;> simp[bne,hm,hx]
 have k2:(t.k == 2)=false:=by simpa using h2
 by_cases h3:t.k=3
 ·rw[h3,ZyI]
  cases t.setZ <;> cases hm:t.mn == 0 <;> cases hx:t.mx == 0 <;> simp[bne,hm,hx,Nat.succ_le_iff]
 by_cases h4:t.k=4
 ·rw[h4,ZyJ]
  cases t.setZ <;> cases hm:t.mn == 0 <;> cases hx:t.mx == 0 <;> simp[bne,hm,hx,Nat.succ_le_iff]
 by_cases h5:t.k=5
 ·rw[h5,ZyK]
  cases t.setZ <;> cases Zd7 t.mn t.mx <;> cases t.subs.length == 1 <;> simp[bne]
 by_cases h6:t.k=6
 ·rw[Zn7 t.k t.subs (λx=>by unfold Zlx;rw[h6];simp),h6]
  cases t.setZ <;> cases hm:t.mn == 0 <;> cases hx:t.mx == 0 <;> simp[bne,hm,hx]
 have:(decide (1<=t.k)&&decide (t.k<=6))=false:=by
  rw[Bool.and_eq_false_iff];simp;omega
 have k6:(t.k == 6)=false:=by simpa using h6
 rw[if_neg h1,if_neg h2,if_neg h3,if_neg h4,if_neg (c:=t.k=5) h5,k6]
 simp only[Bool.false_and,Bool.and_false]
 rw[<-Bool.and_assoc (decide (1<=t.k)),this]
 simp
 intro _ _ _ h
 exact absurd h h5
def Zt2(t:T)(most:Int):Int:=if(t.nodes.length:Int)<=most then t.nodes.length else most+1
def ZpT(t:T)(most:Int)(k:Nat):Int:=if((1+(Zaz (t.subs.take k)).length:Nat):Int)<=most then((1+(Zaz (t.subs.take k)).length:Nat):Int)else most+1
theorem ZsX(t:T){most:Int}(h:0<=most):ZpT t most 0=1:=by
 unfold ZpT
 simp only[List.take_zero,Zaz,List.length_nil]
 split <;> omega
theorem Zpo{l:List T}(k:Nat):(Zaz (l.take k)).length<=(Zaz l).length:=by
 have e:Zaz l=Zaz (l.take k)++Zaz (l.drop k):=by rw[<-ZcB,List.take_append_drop]
 rw[e,List.length_append];omega
theorem ZsY{t x:T}{most:Int}{k:Nat}(h:t.subs[k]?=some x)(hs:ZpT t most k<=most):ZpT t most (k+1)=ZpT t most k+Zt2 x (most - ZpT t most k):=by
 have hk:ZpT t most k=((1+(Zaz (t.subs.take k)).length:Nat):Int):=by
  unfold ZpT at hs ⊢
  split at hs
  ·rename_i h1;rw[if_pos h1]
  ·omega
 rw[hk]at hs ⊢
 unfold ZpT Zt2
 rw[Zhp h,List.length_append]
 split <;> split <;> omega
theorem ZsZ{t:T}{most:Int}{k:Nat}(hs:most < ZpT t most k):ZpT t most k=Zt2 t most:=by
 have h1:=Zpo (l:=t.subs) k
 have h2:t.nodes.length=1+(Zaz t.subs).length:=by rw[Zbi,List.length_cons];omega
 unfold ZpT at hs ⊢
 unfold Zt2
 split at hs
 ·omega
 ·rename_i h3
  rw[if_neg h3,if_neg (by omega)]
theorem ZuT(t:T)(most:Int):ZpT t most t.subs.length=Zt2 t most:=by
 have h2:t.nodes.length=1+(Zaz t.subs).length:=by rw[Zbi,List.length_cons];omega
 unfold ZpT Zt2
 rw[List.take_length,h2]
theorem Zwx(t:T){most:Int}(h:0<=most):1<=Zt2 t most/\Zt2 t most<=most+1:=by
 have h2:t.nodes.length=1+(Zaz t.subs).length:=by rw[Zbi,List.length_cons];omega
 unfold Zt2
 split <;> omega
theorem Zwy(t:T){most:Int}(h:0<=most)(k:Nat):1<=ZpT t most k/\ZpT t most k<=most+1:=by
 unfold ZpT
 split <;> omega
theorem ZqA(t:T):decide (Zt2 t 10000 < 10001)=t.light:=by
 unfold Zt2 T.light
 rw[decide_eq_decide]
 split <;> omega
theorem Zs0(t:T):Zt2 t 10000=t.size:=by
 unfold Zt2 T.size T.light
 by_cases h:t.nodes.length<=10000
 ·rw[if_pos (by omega),if_pos (by simpa using h)]
 ·rw[if_neg (by omega),if_neg (by simpa using h)];rfl
theorem ZrI(t:T):t.good=(Zt1 t&&t.subs.all λx=>Zlx t.k x&&x.good):=by
 have e:=ZmJ t
 have e2:∀l:List T,(l.all λx=>Zlx t.k x&&x.good)=(l.all (Zlx t.k)&&l.all T.good):=by
  intro l
  induction l with
  | nil=>rfl
  | cons x l ih=>
   simp only[List.all_cons,ih]
   cases Zlx t.k x <;> cases x.good <;> simp
 rw[e,e2,<-Zqz,Bool.and_assoc]
theorem ZxF(t:T):t.gr=(if t.k=6 then 1 else 0)+grL t.subs:=by
 unfold T.gr grL
 rw[Zbi,List.countP_cons]
 have:(isG t=true)↔t.k=6:=by unfold isG;simp
 simp only[this]
 omega
theorem ZiA{l:List T}{i:Nat}{t:T}(h:l[i]?=some t):grL (l.take (i+1))=grL (l.take i)+t.gr:=by
 unfold grL T.gr
 rw[Zhp h,List.countP_append]
theorem ZyM(t:T):t.gr<=t.nodes.length:=List.countP_le_length
theorem ZxG(l:List T):grL l<=(Zaz l).length:=List.countP_le_length
noncomputable def Zh1(R:Re):Nat->Nat->Bool:=open Classical in λi j=>decide (R i j)
theorem Zap{R:Re}{i j:Nat}:Zh1 R i j=true↔R i j:=by unfold Zh1;simp
def Zyi(n:Nat)(a b:Nat->Nat->Bool):Re:=λx y=>∃k,x<=k/\k<=y/\k < n/\a x k=true/\b k y=true
def ZgR(n:Nat)(a b:Nat->Nat->Bool)(i k j:Nat):Re:=λx y=>(x < i/\Zyi n a b x y)\/(x=i/\((∃k',i<=k'/\k' < k/\k'<=y/\a i k'=true/\b k' y=true)\/(k<=y/\y < j/\a i k=true/\b k y=true)))
theorem Zpp(n:Nat)(a b:Nat->Nat->Bool)(x y:Nat):¬ZgR n a b 0 0 0 x y:=by
 rintro(⟨h,_⟩|⟨_,⟨k,_,h,_⟩|⟨_,h,_⟩⟩) <;> omega
theorem Zs1{n:Nat}{a b:Nat->Nat->Bool}{i x y:Nat}:ZgR n a b i i i x y↔ZgR n a b i 0 0 x y:=by
 unfold ZgR
 constructor
 ·rintro(h|⟨h,⟨k,h1,h2,_⟩|⟨h1,h2,_⟩⟩)
  ·exact .inl h
  ·omega
  ·omega
 ·rintro(h|⟨h,⟨k,h1,h2,_⟩|⟨h1,h2,_⟩⟩)
  ·exact .inl h
  ·omega
  ·omega
theorem ZqB{n:Nat}{a b:Nat->Nat->Bool}{i x y:Nat}(hy:y < n):ZgR n a b i n n x y↔ZgR n a b (i+1) 0 0 x y:=by
 unfold ZgR Zyi
 constructor
 ·rintro(⟨h,k,h1,h2,h3⟩|⟨h,⟨k,h1,h2,h3,h4⟩|⟨h1,h2,_⟩⟩)
  ·exact .inl ⟨by omega,k,h1,h2,h3⟩
  ·subst h;exact .inl ⟨by omega,k,h1,h3,h2,h4⟩
  ·omega
 ·rintro(⟨h,k,h1,h2,h3,h4⟩|⟨h,⟨k,h1,h2,_⟩|⟨_,h2,_⟩⟩)
  ·by_cases e:x=i
   ·subst e;exact .inr ⟨rfl,.inl ⟨k,h1,h3,h2,h4⟩⟩
   ·exact .inl ⟨by omega,k,h1,h2,h3,h4⟩
  ·omega
  ·omega
theorem Zs2{n:Nat}{a b:Nat->Nat->Bool}{i k j x y:Nat}(qM:i<=k)(hy:y < n)(hj:n<=j\/a i k=false):ZgR n a b i k j x y↔ZgR n a b i (k+1) (k+1) x y:=by
 unfold ZgR
 refine or_congr_right (and_congr_right λhx=>?_)
 constructor
 ·rintro(⟨k',h1,h2,h3⟩|⟨h1,h2,h3,h4⟩)
  ·exact .inl ⟨k',h1,by omega,h3⟩
  ·exact .inl ⟨k,qM,by omega,h1,h3,h4⟩
 ·rintro(⟨k',h1,h2,h3,h4,h5⟩|⟨h1,h2,_⟩)
  ·by_cases e:k'=k
   ·subst e
    rcases hj with hj|hj
    ·exact .inr ⟨h3,by omega,h4,h5⟩
    ·rw[hj]at h4;cases h4
   ·exact .inl ⟨k',h1,by omega,h3,h4,h5⟩
  ·omega
theorem Zpq{n:Nat}{a b:Nat->Nat->Bool}{i k j x y:Nat}(pc:k<=j)(ha:a i k=true):ZgR n a b i k (j+1) x y↔(ZgR n a b i k j x y\/(x=i/\y=j/\b k j=true)):=by
 unfold ZgR
 constructor
 ·rintro(h|⟨h,h1|⟨h1,h2,h3,h4⟩⟩)
  ·exact .inl (.inl h)
  ·exact .inl (.inr ⟨h,.inl h1⟩)
  ·by_cases e:y=j
   ·subst e;exact .inr ⟨h,rfl,h4⟩
   ·exact .inl (.inr ⟨h,.inr ⟨h1,by omega,h3,h4⟩⟩)
 ·rintro((h|⟨h,h1|⟨h1,h2,h3⟩⟩)|⟨h1,h2,h3⟩)
  ·exact .inl h
  ·exact .inr ⟨h,.inl h1⟩
  ·exact .inr ⟨h,.inr ⟨h1,by omega,h3⟩⟩
  ·subst h2;exact .inr ⟨h1,.inr ⟨pc,by omega,ha,h3⟩⟩
theorem ZqC{n:Nat}{a b:Nat->Nat->Bool}{x y:Nat}(hx:x < n):ZgR n a b n 0 0 x y↔Zyi n a b x y:=by
 unfold ZgR
 constructor
 ·rintro(h|⟨h,_⟩)
  ·exact h.2
  ·omega
 ·exact λh=>.inl ⟨hx,h⟩
theorem Zn8{n:Nat}{R Q:Re}(hR:Fwd R)(hQ:Fwd Q){x y:Nat}(hy:y < n):Zyi n (Zh1 R) (Zh1 Q) x y↔∃k,R x k/\Q k y:=by
 unfold Zyi
 simp only[Zap]
 constructor
 ·rintro⟨k,_,_,_,h1,h2⟩;exact⟨k,h1,h2⟩
 ·rintro⟨k,h1,h2⟩
  have:=hR _ _ h1
  have:=hQ _ _ h2
  exact⟨k,by omega,by omega,by omega,h1,h2⟩
theorem ZuU{R:Re}(hf:Fwd R){mn size:Nat}{mx:Int}{i j:Nat}(hj:j < size)(ii:mx=-1\/0<=mx):(∃k:Nat,mn<=k/\(k:Int)<=(if mx < 0 then((mn+size:Nat):Int)else mx)/\pow R k i j)↔∃n:Nat,mn<=n/\(mx=-1\/n<=mx.toNat)/\pow R n i j:=by
 constructor
 ·rintro⟨k,h1,h2,h3⟩
  refine⟨k,h1,?_,h3⟩
  rcases ii with h|h
  ·exact .inl h
  ·rw[if_neg (by omega)]at h2;exact .inr (by omega)
 ·rintro⟨n,h1,h2,h3⟩
  rcases h2 with h2|h2
  ·rw[if_pos (by omega)]
   by_cases hn:n<=mn+size
   ·exact⟨n,h1,by omega,h3⟩
   ·obtain⟨d,rfl⟩:∃d,n=(mn+size)+d:=⟨n - (mn+size),by omega⟩
    exact⟨mn+size,by omega,by omega,Zpm hf (by omega) d h3⟩
  ·by_cases hx:mx=-1
   ·subst hx
    simp at h2
    subst h2
    exact⟨0,h1,by simp;omega,h3⟩
   ·refine⟨n,h1,?_,h3⟩
    rw[if_neg (by omega)];omega
def bV(v:Bool):Value:=.int .i64 (if v then 1 else 0)
def Zt3(g:Nat->Bool)(n:Nat):List Value:=(List.range n).map λj=>bV (g j)
theorem ZrJ(g:Nat->Bool)(n:Nat):(Zt3 g n).length=n:=by simp[Zt3]
theorem Zhv(g:Nat->Bool){n j:Nat}(h:j < n):(Zt3 g n)[j]?=some (bV (g j)):=by simp[Zt3,h]
theorem ZmP{g h:Nat->Bool}{n:Nat}(e:∀j,j < n->g j=h j):Zt3 g n=Zt3 h n:=by
 unfold Zt3
 refine List.map_congr_left λj hj=>?_
 rw[e j (List.mem_range.1 hj)]
theorem ZmQ(n:Nat):(List.replicate n [Value.int .i64 0]).flatten=Zt3 (λ_=>false) n:=by
 unfold Zt3
 have:∀k:Nat,(List.replicate k [Value.int .i64 0]).flatten=List.replicate k (Value.int .i64 0):=by
  intro k
  induction k with
  | zero=>rfl
  | succ k ih=>rw[List.replicate_succ,List.flatten_cons,ih];rfl
 rw[this]
 refine(List.eq_replicate_iff.2 ⟨by simp,λu hu=>?_⟩).symm
 obtain⟨_,_,rfl⟩:=List.mem_map.1 hu
 rfl
def Zwz(bs:Nat->Nat)(n k:Nat):List Value:=(List.range k).map λi=>.slice (some ⟨bs i,0,none⟩) n n
theorem ZrK(bs:Nat->Nat)(n k:Nat):(Zwz bs n k).length=k:=by simp[Zwz]
theorem ZwA(bs:Nat->Nat)(n:Nat){i k:Nat}(h:i < k):(Zwz bs n k)[i]?=some (.slice (some ⟨bs i,0,none⟩) n n):=by simp[Zwz,h]
theorem Zs3(bs:Nat->Nat)(n k b:Nat):Zwz (λi=>if i=k then b else bs i) n (k+1)=Zwz bs n k++[.slice (some ⟨b,0,none⟩) n n]:=by
 unfold Zwz
 rw[List.range_succ,List.map_append]
 congr 1
 ·refine List.map_congr_left λi hi=>?_
  have:=List.mem_range.1 hi
  simp only[if_neg (show ¬i=k by omega)]
 ·simp
structure Tab (m:Mem)(g:Nat->Nat->Bool)(n k:Nat)(a:Option Addr)(bs:Nat->Nat):Prop where
 out:rowRd m a (Zwz bs n k)
 row:∀i,i < k->m.reads (bs i) 0 (Zt3 (g i) n)
 inj:∀i j,i < k->j < k->bs i=bs j->i=j
 sep:∀b o,a=some ⟨b,o,none⟩->∀i,i < k->bs i≠b
def TabNew(m:Mem)(k:Nat)(a:Option Addr)(bs:Nat->Nat):Prop:=(∀i,i < k->m.free (bs i))/\∀b o,a=some ⟨b,o,none⟩->m.free b
theorem Zdj{m m':Mem}(h:m.le m'){b:Nat}(hf:m'.free b):m.free b:=λo=>by
 cases he:m b o with
 | none=>rfl
 | some v=>have:=h _ _ _ he;rw[hf o]at this;cases this
theorem Zw3{m M:Mem}{b b' o:Nat}{v:Value}(hk:m b o=some v)(h:m.le M)(hf:M.free b'):b≠b':=λe=>by
 subst e
 have:=h _ _ _ hk
 rw[hf o]at this;cases this
theorem TabNew.less{m m':Mem}(h:m.le m'){k:Nat}{a:Option Addr}{bs:Nat->Nat}(hn:TabNew m' k a bs):TabNew m k a bs:=⟨λi hi=>Zdj h (hn.1 i hi),λb o e=>Zdj h (hn.2 b o e)⟩
section
variable {m m':Mem} {g:Nat->Nat->Bool} {n k:Nat} {a:Option Addr} {bs:Nat->Nat}
theorem Tab.mono(h:Tab m g n k a bs)(hm:m.le m'):Tab m' g n k a bs:=⟨h.out.mono hm,λi hi j v hv=>hm _ _ _ (h.row i hi j v hv),h.inj,h.sep⟩
theorem Tab.get(h:Tab m g n k a bs){i:Nat}(hi:i < k):∃b o,a=some ⟨b,o,none⟩/\m b (o+i*1)=some (.slice (some ⟨bs i,0,none⟩) n n):=by
 rcases h.out with e|⟨b,o,e,hr⟩
 ·have:=ZrK bs n k
  rw[e]at this;simp at this;omega
 ·exact⟨b,o,e,by have:=hr i _ (ZwA bs n hi);rwa [Nat.mul_one]⟩
theorem Tab.cell(h:Tab m g n k a bs){i j:Nat}(hi:i < k)(hj:j < n):m (bs i) (0+j*1)=some (bV (g i j)):=by
 have:=h.row i hi j _ (Zhv (g i) hj)
 rwa [Nat.mul_one]
theorem Tab.congr{g':Nat->Nat->Bool}(h:Tab m g n k a bs)(e:∀i j,i < k->j < n->(g i j=true↔g' i j=true)):Tab m g' n k a bs:=
 ⟨h.out,λi hi=>by rw[<-ZmP (g:=g i) (h:=g' i) λj hj=>Bool.eq_iff_iff.2 (e i j hi hj)];exact h.row i hi,h.inj,h.sep⟩
theorem Zs4{a:Option Addr}{xs:List Value}{b p:Nat}{ys:List Value}(h:rowRd m a xs)(hn:∀b' o,a=some ⟨b',o,none⟩->b'≠b):rowRd (m.upd b p ys) a xs:=by
 rcases h with h|⟨b',o,e,h⟩
 ·exact .inl h
 ·refine .inr ⟨b',o,e,λj v hv=>?_⟩
  rw[Mem.upd_other _ (hn b' o e)];exact h j v hv
theorem Tab.upd(h:Tab m g n k a bs){i j:Nat}(hi:i < k)(hj:j < n)(v:Bool):Tab (m.upd (bs i) (0+j*1) [bV v]) (λx y=>if x=i/\y=j then v else g x y) n k a bs:=by
 refine⟨Zs4 h.out λb o e he=>h.sep b o e i hi he.symm,λx hx y u hu=>?_,h.inj,h.sep⟩
 have hy:y < n:=by have:=(List.getElem?_eq_some_iff.1 hu).1;rwa [ZrJ]at this
 rw[Zhv _ hy]at hu
 cases hu
 by_cases e:x=i
 ·subst e
  simp only[Mem.upd,List.length_cons,List.length_nil,true_and]
  by_cases e2:y=j
  ·subst e2
   rw[if_pos (by omega),if_pos rfl,show 0+y - (0+y*1)=0 by omega];rfl
  ·rw[if_neg (by omega),if_neg e2]
   exact h.row x hx y _ (Zhv _ hy)
 ·rw[Mem.upd_other _ (λhe=>e (h.inj x i hx hi he)),if_neg (λhc=>e hc.1)]
  exact h.row x hx y _ (Zhv _ hy)
theorem ZuV{m:Mem}{b n j:Nat}{g:Nat->Bool}(h:m.reads b 0 (Zt3 g n))(hj:j < n)(v:Bool):(m.upd b (0+j*1) [bV v]).reads b 0 (Zt3 (λy=>if y=j then v else g y) n):=λy u hu=>by
 have hy:y < n:=by have:=(List.getElem?_eq_some_iff.1 hu).1;rwa [ZrJ]at this
 rw[Zhv _ hy]at hu
 cases hu
 simp only[Mem.upd,List.length_cons,List.length_nil,true_and]
 by_cases e2:y=j
 ·subst e2
  rw[if_pos (by omega),if_pos rfl,show 0+y - (0+y*1)=0 by omega];rfl
 ·rw[if_neg (by omega),if_neg e2]
  exact h y _ (Zhv _ hy)
theorem Tab.off(h:Tab m' g n k a bs){m1:Mem}(hn:TabNew m1 k a bs){Y:Nat->Prop}(hY:∀b,Y b->∃o v,m1 b o=some v):Tab (m'.off Y) g n k a bs:=by
 have cW:∀b,m1.free b->¬Y b:=λb hf hy=>by
  obtain⟨o,v,hv⟩:=hY b hy
  rw[hf o]at hv;cases hv
 refine⟨?_,λi hi j v hv=>by rw[Mem.off_at (cW _ (hn.1 i hi))];exact h.row i hi j v hv,h.inj,h.sep⟩
 rcases h.out with e|⟨b,o,e,hr⟩
 ·exact .inl e
 ·exact .inr ⟨b,o,e,λj v hv=>by rw[Mem.off_at (cW _ (hn.2 b o e))];exact hr j v hv⟩
theorem Tab.zero(hm:Mem):Tab hm g n 0 none bs:=⟨.inl rfl,λi hi=>by omega,λi j hi=>by omega,λb o e=>by cases e⟩
theorem Tab.snoc{M M0:Mem}{b:Nat}{a':Option Addr}(h:Tab m g n k a bs)(h0:k=0->a=none)(hn:0 < n)(hb:m.free b)(hM:m.le M0)(oZ:M0.le M)(bU:M0.reads b 0 (Zt3 (g k) n))(cX:rowRd M a' (Zwz bs n k++[.slice (some ⟨b,0,none⟩) n n]))
  (ha:a'=none\/∃b' o,a'=some ⟨b',o,none⟩/\(a=a'\/(o=0/\M0.free b'))):Tab M g n (k+1) a' (λi=>if i=k then b else bs i):=by
 have kn:∀i,i < k->m (bs i) 0=some (bV (g i 0)):=λi hi=>by have:=h.cell hi (j:=0) hn;simpa using this
 have kb:M0 b 0=some (bV (g k 0)):=by have:=bU 0 _ (Zhv _ hn);simpa using this
 refine⟨by rw[Zs3];exact cX,λi hi=>?_,λi j hi hj e=>?_,λb' o e i hi=>?_⟩
 ·by_cases e:i=k
  ·subst e
   rw[if_pos rfl]
   exact λj v hv=>oZ _ _ _ (bU j v hv)
  ·rw[if_neg e]
   exact λj v hv=>oZ _ _ _ (hM _ _ _ (h.row i (by omega) j v hv))
 ·by_cases e1:i=k
  ·by_cases e2:j=k
   ·omega
   ·rw[if_pos e1,if_neg e2]at e
    exact absurd e.symm (Zw3 (kn j (by omega)) (Mem.le_refl _) hb)
  ·by_cases e2:j=k
   ·rw[if_neg e1,if_pos e2]at e
    exact absurd e (Zw3 (kn i (by omega)) (Mem.le_refl _) hb)
   ·rw[if_neg e1,if_neg e2]at e
    exact h.inj i j (by omega) (by omega) e
 ·rcases ha with ha|⟨b2,o2,ha,jI⟩
  ·rw[ha]at e;cases e
  rw[e]at ha
  cases ha
  rcases jI with jI|⟨_,jI⟩
  ·by_cases e1:i=k
   ·rw[if_pos e1]
    rintro rfl
    rcases Nat.eq_zero_or_pos k with hk|hk
    ·rw[h0 hk,e]at jI;cases jI
    ·obtain⟨b3,o3,e3,h3⟩:=h.get hk
     rw[e3,e]at jI
     cases jI
     rw[hb]at h3;cases h3
   ·rw[if_neg e1]
    exact h.sep _ _ (jI.trans e) i (by omega)
  ·by_cases e1:i=k
   ·rw[if_pos e1]
    exact Zw3 kb (Mem.le_refl _) jI
   ·rw[if_neg e1]
    exact Zw3 (kn i (by omega)) hM jI
end
theorem ZwB(s:List Nat)(l:List T)(x:T)(i j:Nat):MC s (l++[x]) i j↔∃m,MC s l i m/\x.M s m j:=by
 rw[ZsW]
 simp only[Zht,Zlu]
 constructor
 ·rintro⟨m,h1,m',h2,rfl⟩;exact⟨m,h1,h2⟩
 ·rintro⟨m,h1,h2⟩;exact⟨m,h1,j,h2,rfl⟩
theorem ZwC(s:List Nat)(l:List T)(x:T)(i j:Nat):MA s (l++[x]) i j↔MA s l i j\/x.M s i j:=by
 rw[ZsV]
 simp only[Zhu,Znw,or_false]
theorem Zs5{t:T}(hg:t.good=true)(s:List Nat):Fwd (t.M s):=λi j h=>Zyr hg h
theorem ZwD(s:List Nat):∀{l:List T},(∀x∈l,x.good=true)->Fwd (MC s l)
 | [],_=>λi j h=>by rw[Zlu]at h;omega
 | x::l,hl=>λi j h=>by
  rw[Zht]at h
  obtain⟨m,h1,h2⟩:=h
  have:=Zs5 (hl x (by simp)) s i m h1
  have:=ZwD s (λy hy=>hl y (by simp[hy])) m j h2
  omega
theorem ZrL{R:Re}(hf:Fwd R):∀n,Fwd (pow R n)
 | 0=>λi j h=>by have h:i=j:=h;omega
 | n+1=>λi j h=>by
  rw[ZfV]at h
  obtain⟨m,h1,h2⟩:=h
  have:=ZrL hf n i m h1
  have:=hf m j h2
  omega
theorem ZgS{t x:T}(h:t.good=true)(hx:x∈t.subs):x.good=true:=by
 rw[ZmJ,Bool.and_eq_true,List.all_eq_true]at h
 exact h.2 x hx
theorem ZuW{t:T}(h:t.good=true):Zt1 t=true:=by
 rw[ZrI,Bool.and_eq_true]at h
 exact h.1
theorem ZrM{t:T}(h:t.good=true)(hk:t.k=5\/t.k=6):∃x,t.subs=[x]:=by
 have h:=ZuW h
 unfold Zt1 at h
 simp only[Bool.and_eq_true]at h
 have h2:=h.2.2
 have h3:t.subs.length=1:=by
  rcases hk with hk|hk
  ·rw[hk]at h2;simpa using h2
  ·rw[hk]at h2;simpa using h2
 match h4:t.subs,h3 with
 | [x],_=>exact⟨x,rfl⟩
theorem ZkM{t:T}(h:t.good=true)(hk:t.k=5):(0<=t.mn/\t.mn<=16)/\(t.mx=-1\/(0 < t.mx/\t.mx < 17)):=by
 have h:=ZuW h
 unfold Zt1 at h
 simp only[Bool.and_eq_true]at h
 have h2:=h.2.1
 rw[if_pos hk]at h2
 simp only[Bool.and_eq_true,Bool.or_eq_true,decide_eq_true_eq,beq_iff_eq]at h2
 exact⟨h2.1,h2.2.imp id λh=>⟨h.1,h.2.1⟩⟩
theorem ZwE{t:T}(h:t.good=true):1<=t.k/\t.k<=6:=by
 have h:=ZuW h
 unfold Zt1 at h
 simp only[Bool.and_eq_true,decide_eq_true_eq]at h
 exact⟨h.1.1,h.1.2.1⟩
def ZwF(R:Re)(mn k:Nat):Re:=λi j=>∃q,mn<=q/\q < k/\pow R q i j
theorem Zs6(R:Re)(mn i j:Nat):¬ZwF R mn 0 i j:=λ⟨q,_,h,_⟩=>by omega
theorem ZuX{R:Re}{mn k:Nat}(h:mn<=k)(i j:Nat):ZwF R mn (k+1) i j↔ZwF R mn k i j\/pow R k i j:=by
 unfold ZwF
 constructor
 ·rintro⟨q,h1,h2,h3⟩
  by_cases e:q=k
  ·subst e;exact .inr h3
  ·exact .inl ⟨q,h1,by omega,h3⟩
 ·rintro(⟨q,h1,h2,h3⟩|h3)
  ·exact⟨q,h1,by omega,h3⟩
  ·exact⟨k,h,by omega,h3⟩
theorem Zs7{R:Re}{mn k:Nat}(h:k < mn)(i j:Nat):ZwF R mn (k+1) i j↔ZwF R mn k i j:=by
 unfold ZwF
 constructor
 ·rintro⟨q,h1,h2,h3⟩;omega
 ·rintro⟨q,h1,h2,h3⟩;exact⟨q,h1,by omega,h3⟩
theorem ZuY{s:List Nat}{t x:T}(hg:t.good=true)(hk:t.k=5)(hx:t.subs=[x]){k i j:Nat}(hj:j < s.length+1)(h:(k:Int)=(if t.mx < 0 then t.mn+((s.length+1:Nat):Int)else t.mx)+1):ZwF (x.M s) t.mn.toNat k i j↔t.M s i j:=by
 obtain⟨eS,dS⟩:=ZkM hg hk
 have my:=ZgS (x:=x) hg (by rw[hx];simp)
 have e:MH s t.subs=x.M s:=by rw[hx];simp[MH]
 rw[M_5 hk,e,<-ZuU (Zs5 my s) hj (dS.imp id λh=>by omega)]
 unfold ZwF
 constructor
 ·rintro⟨q,h1,h2,h3⟩
  refine⟨q,h1,?_,h3⟩
  split at h <;> rename_i h5
  ·rw[if_pos h5];omega
  ·rw[if_neg h5];omega
 ·rintro⟨q,h1,h2,h3⟩
  refine⟨q,h1,?_,h3⟩
  split at h <;> rename_i h5
  ·rw[if_pos h5]at h2;omega
  ·rw[if_neg h5]at h2;omega
theorem Tab.off'{m:Mem}{g:Nat->Nat->Bool}{n k:Nat}{a:Option Addr}{bs:Nat->Nat}(h:Tab m g n k a bs){Y:Nat->Prop}(h1:∀i,i < k->¬Y (bs i))(h2:∀b o,a=some ⟨b,o,none⟩->¬Y b):Tab (m.off Y) g n k a bs:=by
 refine⟨?_,λi hi j v hv=>by rw[Mem.off_at (h1 i hi)];exact h.row i hi j v hv,h.inj,h.sep⟩
 rcases h.out with e|⟨b,o,e,hr⟩
 ·exact .inl e
 ·exact .inr ⟨b,o,e,λj v hv=>by rw[Mem.off_at (h2 b o e)];exact hr j v hv⟩
def Zzk(Y:Nat->Prop)(n:Nat)(a:Option Addr)(bs:Nat->Nat):Prop:=(∀i,i < n->¬Y (bs i))/\∀b o,a=some ⟨b,o,none⟩->¬Y b
def ZqD(n:Nat)(bs:Nat->Nat):Nat->Prop:=λb=>∃i,i < n/\b=bs i
theorem Zjw{m:Mem}{g:Nat->Nat->Bool}{n:Nat}{a:Option Addr}{bs:Nat->Nat}(h:Tab m g n n a bs){a':Option Addr}{cs:Nat->Nat}(hn:TabNew m n a' cs)(h0:0 < n):Zzk (ZqD n bs) n a' cs:=by
 have kn:∀b,ZqD n bs b->∃v,m b 0=some v:=λb ⟨i,hi,e⟩=>by
  have:=h.cell hi h0
  rw[Nat.zero_mul]at this
  exact⟨_,by rw[e];exact this⟩
 refine⟨λi hi hY=>?_,λb o e hY=>?_⟩
 ·obtain⟨v,hv⟩:=kn _ hY
  rw[hn.1 i hi 0]at hv;cases hv
 ·obtain⟨v,hv⟩:=kn _ hY
  rw[hn.2 b o e 0]at hv;cases hv
theorem Zpr{m m':Mem}{Y:Nat->Prop}(h:m.le m')(hY:∀b,Y b->m.free b):m.le (m'.off Y):=λb o v hv=>by
 have:¬Y b:=λhy=>by rw[hY b hy o]at hv;cases hv
 rw[Mem.off_at this];exact h _ _ _ hv
def RgR(m:Mem)(r:Rg)(cs:List Value):Prop:=∃ds,cs=.bool r.bg::.bool r.en::ds/\RefT m r.t ds
theorem RgR.len{m:Mem}{r:Rg}{cs:List Value}(h:RgR m r cs):cs.length=262:=by
 obtain⟨ds,rfl,h⟩:=h
 simp[h.len]
theorem RgR.mono{m m':Mem}{r:Rg}{cs:List Value}(h:RgR m r cs)(hm:m.le m'):RgR m' r cs:=by
 obtain⟨ds,rfl,h⟩:=h
 exact⟨ds,rfl,h.mono hm⟩
theorem RgR.root{m:Mem}{r:Rg}{cs:List Value}(h:RgR m r cs):RefT m r.t ((cs.drop 2).take 260):=by
 obtain⟨ds,rfl,h⟩:=h
 have:(ds.take 260)=ds:=List.take_of_length_le (by rw[h.len];omega)
 show RefT m r.t (ds.take 260)
 rw[this];exact h
def ZwG(bg:Bool)(g:Nat->Nat->Bool)(n k:Nat):Bool:=g k n&&(k == 0||!bg)
def ZyN(bg en:Bool)(g:Nat->Nat->Bool)(size n:Nat)(z:Int):Prop:=
 (z=-1/\((en=true/\n+1 < size)\/∀k,k<=n->ZwG bg g n k=false))\/∃k:Nat,z=k/\k<=n/\¬(en=true/\n+1 < size)/\ZwG bg g n k=true/\∀j,j < k->ZwG bg g n j=false
def Zs8:Option Nat->Int
 | none=>-1
 | some k=>k
theorem Zly{r:Rg}{s:List Nat}{n k:Nat}:ZwG r.bg (Zh1 (r.t.M s)) n k=true↔Beg r s n k:=by
 unfold ZwG Beg
 rw[Bool.and_eq_true,Zap,Bool.or_eq_true,beq_iff_eq,Bool.not_eq_true']
theorem Zps{r:Rg}{s:List Nat}{n:Nat}{z:Int}(hg:r.t.good=true)(hs:s.length<=512)(hn:n<=s.length)(h:ZyN r.bg r.en (Zh1 (r.t.M s)) (s.length+1) n z):z=Zs8 (r.from s n):=by
 have op:¬(r.en=true/\n+1 < s.length+1)->ZsS r s n:=λh=>by
  unfold ZsS
  cases he:r.en with
  | false=>exact .inl rfl
  | true=>
   have:¬n+1 < s.length+1:=λh'=>h ⟨he,h'⟩
   exact .inr (by omega)
 cases hf:r.from s n with
 | none=>
  rcases h with⟨h,_⟩|⟨k,_,_,ho,hk,_⟩
  ·exact h
  ·exact absurd (Zly.1 hk) (ZsU hg hs hn hf (op ho) k)
 | some i=>
  obtain⟨ho,hb,iM⟩:=ZsT hg hs hn hf
  have fI:=Zyr hg hb.1
  rcases h with⟨_,h|h⟩|⟨k,hz,_,_,hk,hm⟩
  ·rcases ho with ho|ho
   ·rw[ho]at h;cases h.1
   ·have:=h.2;omega
  ·have:=h i fI
   rw[Zly.2 hb]at this;cases this
  ·have e:k=i:=by
    rcases Nat.lt_trichotomy k i with h1|h1|h1
    ·exact absurd (Zly.1 hk) (iM k h1)
    ·exact h1
    ·have:=hm i h1
     rw[Zly.2 hb]at this;cases this
   rw[hz,e];rfl
theorem Zpt{N:Nat}{css:List (List Value)}(h:∀cs∈css,cs.length=N):css.flatten.length=css.length*N:=by
 induction css with
 | nil=>simp
 | cons cs r ih=>
  rw[List.flatten_cons,List.length_append,h cs (by simp),ih λx hx=>h x (by simp[hx]),List.length_cons,Nat.succ_mul];omega
theorem ZuZ{N:Nat}{css:List (List Value)}(h:∀cs∈css,cs.length=N){i:Nat}{cs:List Value}(hi:css[i]?=some cs){j:Nat}{v:Value}(hv:cs[j]?=some v):css.flatten[i*N+j]?=some v:=by
 induction css generalizing i with
 | nil=>simp at hi
 | cons c r ih=>
  have hj:j < N:=by have:=(List.getElem?_eq_some_iff.1 hv).1;rw[h cs (List.mem_of_getElem? hi)]at this;exact this
  have hc:=h c (by simp)
  rw[List.flatten_cons]
  cases i with
  | zero=>
   simp at hi;subst hi
   rw[Nat.zero_mul,Nat.zero_add,List.getElem?_append_left (by omega)];exact hv
  | succ i=>
   have e:(i+1)*N=i*N+N:=Nat.succ_mul i N
   rw[List.getElem?_append_right (by omega),hc,show(i+1)*N+j - N=i*N+j by omega]
   exact ih (λx hx=>h x (by simp[hx])) (by simpa using hi)
structure RgsR (m:Mem)(a:Option Addr)(l:List Rg)(css:List (List Value)):Prop where
 len:css.length=l.length
 all:∀(i:Nat)(cs:List Value),css[i]?=some cs->∃r,l[i]?=some r/\RgR m r cs
 row:rowRd m a css.flatten
theorem RgsR.sizes{m:Mem}{a:Option Addr}{l:List Rg}{css:List (List Value)}(h:RgsR m a l css):∀cs∈css,cs.length=262:=λcs hc=>by
 obtain⟨i,hi⟩:=List.getElem?_of_mem hc
 obtain⟨r,_,hr⟩:=h.all i cs hi
 exact hr.len
theorem RgsR.mono{m m':Mem}{a:Option Addr}{l:List Rg}{css:List (List Value)}(h:RgsR m a l css)(hm:m.le m'):RgsR m' a l css:=
 ⟨h.len,λi cs hi=>by obtain⟨r,h1,h2⟩:=h.all i cs hi;exact⟨r,h1,h2.mono hm⟩,h.row.mono hm⟩
theorem RgsR.get{m:Mem}{a:Option Addr}{l:List Rg}{css:List (List Value)}(h:RgsR m a l css){i:Nat}{r:Rg}(hi:l[i]?=some r):∃b o cs,a=some ⟨b,o,none⟩/\m.reads b (o+i*262) cs/\RgR m r cs:=by
 have bB:i < css.length:=by rw[h.len];exact(List.getElem?_eq_some_iff.1 hi).1
 obtain⟨cs,cV⟩:∃cs,css[i]?=some cs:=⟨_,List.getElem?_eq_getElem bB⟩
 obtain⟨r',hr',hR⟩:=h.all i cs cV
 rw[hi]at hr';cases hr'
 rcases h.row with e|⟨b,o,e,hr⟩
 ·have:=Zpt h.sizes
  rw[e]at this
  simp at this;omega
 ·exact⟨b,o,cs,e,λj v hv=>by have:=hr _ v (ZuZ h.sizes cV hv);rwa [<-Nat.add_assoc]at this,hR⟩
theorem RgR.one{m:Mem}{r:Rg}{cs:List Value}(h:RgR m r cs):∀u∈cs,u.oneCell'=true:=by
 obtain⟨ds,rfl,hd⟩:=h
 intro u hu
 simp only[List.mem_cons]at hu
 rcases hu with rfl|rfl|hu
 ·rfl
 ·rfl
 ·exact hd.one u hu
theorem RgsR.snoc{m:Mem}{a a':Option Addr}{l:List Rg}{css:List (List Value)}{r:Rg}{cs:List Value}(h:RgsR m a l css)(hr:RgR m r cs)(bU:rowRd m a' (css.flatten++cs)):RgsR m a' (l++[r]) (css++[cs]):=by
 refine⟨by simp[h.len],λi ds hi=>?_,by rw[List.flatten_append,List.flatten_singleton];exact bU⟩
 have hl:=h.len
 by_cases bB:i < css.length
 ·rw[List.getElem?_append_left bB]at hi
  obtain⟨r',h1,h2⟩:=h.all i ds hi
  exact⟨r',by rw[List.getElem?_append_left (by omega)];exact h1,h2⟩
 ·have gK:=(List.getElem?_eq_some_iff.1 hi).1
  simp at gK
  have e:i=css.length:=by omega
  subst e
  rw[List.getElem?_append_right (Nat.le_refl _),Nat.sub_self]at hi
  cases hi
  exact⟨r,by rw[hl,List.getElem?_append_right (Nat.le_refl _),Nat.sub_self];rfl,hr⟩
end Go.Rx