/- Trees of regexes, what they mean, and sX they lie in memory; plain, no program is named. No condition. -/
import Derived.Test.YthiefodednaikaaMc
set_option linter.unusedVariables false
set_option linter.unusedSimpArgs false
namespace Go.Rx
open Go Go.Eng
inductive T where
 | node (k s0 s1 s2 s3 mn mx:Int) (a:Option Addr) (c:Nat) (subs:List T)
def T.k:T→Int
 | .node k _ _ _ _ _ _ _ _ _=>k
def T.s0:T→Int
 | .node _ s _ _ _ _ _ _ _ _=>s
def T.s1:T→Int
 | .node _ _ s _ _ _ _ _ _ _=>s
def T.s2:T→Int
 | .node _ _ _ s _ _ _ _ _ _=>s
def T.s3:T→Int
 | .node _ _ _ _ s _ _ _ _ _=>s
def T.mn:T→Int
 | .node _ _ _ _ _ x _ _ _ _=>x
def T.mx:T→Int
 | .node _ _ _ _ _ _ x _ _ _=>x
def T.a:T→Option Addr
 | .node _ _ _ _ _ _ _ a _ _=>a
def T.c:T→Nat
 | .node _ _ _ _ _ _ _ _ c _=>c
def T.subs:T→List T
 | .node _ _ _ _ _ _ _ _ _ l=>l
def T.sl(t:T):Value:=.slice t.a t.subs.length t.c
def T.cs(t:T):List Value:=[.int .u8 t.k,.int .u64 t.s0,.int .u64 t.s1,.int .u64 t.s2,.int .u64 t.s3,.int .i64 t.mn,.int .i64 t.mx,t.sl]
def T.v(t:T):Value:=.agg #[.int .u8 t.k,.int .u64 t.s0,.int .u64 t.s1,.int .u64 t.s2,.int .u64 t.s3,.int .i64 t.mn,.int .i64 t.mx,.slice t.a t.subs.length t.c]
structure OkN (k s0 s1 s2 s3 mn mx:Int):Prop where
 k:0≤k∧k < 256
 s0:0≤s0∧s0 < 18446744073709551616
 s1:0≤s1∧s1 < 18446744073709551616
 s2:0≤s2∧s2 < 18446744073709551616
 s3:0≤s3∧s3 < 18446744073709551616
 mn : -9223372036854775808≤mn∧mn≤9223372036854775807
 mx : -9223372036854775808≤mx∧mx≤9223372036854775807
mutual
def Rep(m:Mem):T→Prop
 | .node k s0 s1 s2 s3 mn mx a _ l=>l.length≤1000000000000000∧(l=[]∨∃b o,a=some ⟨b,o,none⟩∧RepAt m b o l)∧OkN k s0 s1 s2 s3 mn mx
def RepAt(m:Mem)(b:Nat):Nat→List T→Prop
 | _,[]=>True
 | o,t::l=>m.reads b o t.cs∧Rep m t∧RepAt m b (o+8) l
end
theorem ZdC{m:Mem}{t:T}:Rep m t→(t.subs.length≤1000000000000000∧(t.subs=[]∨∃b o,t.a=some ⟨b,o,none⟩∧RepAt m b o t.subs)):=by
 cases t;simp only[Rep,T.subs,T.a];exact fun h=>⟨h.1,h.2.1⟩
theorem ZsV{m:Mem}{t:T}:Rep m t→OkN t.k t.s0 t.s1 t.s2 t.s3 t.mn t.mx:=by
 cases t;simp only[Rep];exact fun h=>h.2.2
mutual
theorem Rep.mono{m m':Mem}(h:m.le m'):∀t:T,Rep m t→Rep m' t
 | .node _ _ _ _ _ _ _ a _ l,hr=>by
  simp only[Rep]at *
  refine⟨hr.1,?_,hr.2.2⟩
  rcases hr.2.1 with hr|⟨b,o,h1,h2⟩
  ·exact .inl hr
  ·exact .inr ⟨b,o,h1,RepAt.mono h b o l h2⟩
theorem RepAt.mono{m m':Mem}(h:m.le m')(b:Nat):∀(o:Nat)(l:List T),RepAt m b o l→RepAt m' b o l
 | _,[],_=>by simp only[RepAt]
 | o,t::l,hr=>by
  simp only[RepAt]at *
  exact⟨hr.1.mono h,Rep.mono h t hr.2.1,RepAt.mono h b (o+8) l hr.2.2⟩
end
theorem RepAt.get{m:Mem}{b:Nat}:∀{o:Nat} {l:List T} {i:Nat} {t:T},RepAt m b o l→l[i]?=some t→m.reads b (o+i*8) t.cs∧Rep m t
 | o,[],i,t,_,hi=>by simp at hi
 | o,x::l,0,t,h,hi=>by
  simp only[RepAt]at h
  simp at hi;subst hi
  exact⟨by simpa using h.1,h.2.1⟩
 | o,x::l,i+1,t,h,hi=>by
  simp only[RepAt]at h
  have:=h.2.2.get (i:=i) (by simpa using hi)
  rw[show o+(i+1)*8=o+8+i*8 by omega]
  exact this
mutual
def T.nodes:T→List T
 | .node k s0 s1 s2 s3 mn mx a c l=>.node k s0 s1 s2 s3 mn mx a c l::Zay l
def Zay:List T→List T
 | []=>[]
 | t::l=>t.nodes++Zay l
end
theorem Zbf(t:T):t.nodes=t::Zay t.subs:=by cases t;simp only[T.nodes,T.subs]
theorem Zb3(l r:List T):Zay (l++r)=Zay l++Zay r:=by
 induction l with
 | nil=>simp[Zay]
 | cons t l ih=>simp[Zay,ih,List.append_assoc]
theorem Zgg{l:List T}{i:Nat}{t:T}(h:l[i]?=some t):Zay (l.take (i+1))=Zay (l.take i)++t.nodes:=by
 have:l.take (i+1)=l.take i++[t]:=by
  rw[List.take_add_one,h];rfl
 rw[this,Zb3];simp[Zay]
theorem ZeQ{l:List T}{i:Nat}{t:T}(h:l[i]?=some t):Zay l=Zay (l.take i)++(t.nodes++Zay (l.drop (i+1))):=by
 have bA:=(List.getElem?_eq_some_iff.1 h).1
 have e:l=l.take i++(t::l.drop (i+1)):=by
  have:=List.drop_eq_getElem_cons bA
  rw[(List.getElem?_eq_some_iff.1 h).2]at this
  rw[←this,List.take_append_drop]
 conv=>lhs;rw[e,Zb3]
 simp[Zay]
theorem ZsW{t x z:T}{i q:Nat}(hx:t.subs[i]?=some x)(hz:x.nodes[q]?=some z):t.nodes[1+(Zay (t.subs.take i)).length+q]?=some z:=by
 have hq:=(List.getElem?_eq_some_iff.1 hz).1
 rw[Zbf,show 1+(Zay (t.subs.take i)).length+q=((Zay (t.subs.take i)).length+q)+1 by omega,List.getElem?_cons_succ,ZeQ hx,List.getElem?_append_right (by omega),List.getElem?_append_left (by omega),show(Zay (List.take i t.subs)).length+q - (Zay (List.take i t.subs)).length=q by omega]
 exact hz
theorem Zeh{t x:T}(h:x∈t.subs):SizeOf.sizeOf x < SizeOf.sizeOf t:=by
 cases t with
 | node k s0 s1 s2 s3 mn mx a c l=>
  have h':x∈l:=h
  have:=List.sizeOf_lt_of_mem h'
  simp only[T.node.sizeOf_spec]
  omega
theorem ZoM(t:T):Shape.fitsL [.agg [.int .u8,.int .u64,.int .u64,.int .u64,.int .u64,.int .i64,.int .i64,.slice]] [t.v]=true:=by
 simp[Shape.fitsL,Shape.fits,T.v]
mutual
theorem ZpM{m:Mem}:∀(t:T),Rep m t→∀x∈t.nodes,Rep m x
 | .node k s0 s1 s2 s3 mn mx a c l,hr,x,hx=>by
  simp only[T.nodes,List.mem_cons]at hx
  rcases hx with rfl|hx
  ·exact hr
  ·simp only[Rep]at hr
   rcases hr.2.1 with h|⟨b,o,_,h⟩
   ·subst h;simp[Zay]at hx
   ·exact Znu b o l h x hx
theorem Znu{m:Mem}(b:Nat):∀(o:Nat)(l:List T),RepAt m b o l→∀x∈Zay l,Rep m x
 | _,[],_,x,hx=>by simp[Zay]at hx
 | o,t::l,hr,x,hx=>by
  simp only[RepAt]at hr
  simp only[Zay,List.mem_append]at hx
  rcases hx with hx|hx
  ·exact ZpM t hr.2.1 x hx
  ·exact Znu b (o+8) l hr.2.2 x hx
end
theorem Zq1{m:Mem}{t x:T}(h:Rep m t)(hx:x∈t.nodes):Rep m x:=ZpM t h x hx
def Zdh(least most:Int):Bool:=!(decide (least < 0)||decide (least > 16)||(least == 1&&most == 1))&&(most == -1||(decide (most ≥ 1)&&decide (most≤16)&&decide (most ≥ least)))
def T.has(t:T)(k:Int):Bool:=t.subs.any fun x=>x.k == k
def T.light(t:T):Bool:=decide (t.nodes.length≤10000)
def T.setZ(t:T):Bool:=t.s0 == 0&&t.s1 == 0&&t.s2 == 0&&t.s3 == 0
def T.right(t:T):Bool:=
 !(t.k != 2&&!t.setZ||(t.k != 5&&(t.mn != 0||t.mx != 0)||(decide (t.k < 3)&&decide (0 < t.subs.length)))) &&
 (if t.k=1 then true else if t.k=2 then !t.setZ else if t.k=3 then decide (1 < t.subs.length)&&(!t.has 1&&!t.has 3)else if t.k=4 then decide (1 < t.subs.length)&&!t.has 4
  else if t.k=5 then t.subs.length == 1&&(Zdh t.mn t.mx&&!t.has 1)else t.k == 6&&t.subs.length == 1)
def T.clean(t:T):Bool:=t.light&&t.nodes.all T.right
def T.size(t:T):Int:=if t.light then t.nodes.length else 10001
def T.groups(t:T):Int:=if t.light then(t.nodes.countP fun x=>x.k == 6:Nat)else 10001
def Zmm(x y:Int):Int:=if y > x then y else x
def ZlV(x y:Int):Int:=if y < x then y else x
def Zr6(k mn mx sum:Int):Int:=ZlV (if k=5 then sum*ZlV (if mx=-1 then Zmm (Zmm mn 0) 1 else Zmm (Zmm mn 0) mx) 10001 else sum) 10001
mutual
def T.pos:T→Int
 | .node k _ _ _ _ mn mx _ _ l=>Zr6 k mn mx ((if k=2 then 1 else 0)+ZeI l)
def ZeI:List T→Int
 | []=>0
 | t::l=>t.pos+ZeI l
end
def T.positions(t:T):Int:=if t.light then t.pos else 10001
def T.check(t:T):Int:=if t.clean=false then 80 else if t.size > 120 then 81 else if t.positions > 400 then 82 else if t.groups > 9 then 83 else 0
mutual
def T.same:T→T→Bool
 | .node k s0 s1 s2 s3 mn mx _ _ l,.node k' s0' s1' s2' s3' mn' mx' _ _ l'=>k == k'&&((s0 == s0'&&s1 == s1'&&s2 == s2'&&s3 == s3')&&(mn == mn'&&(mx == mx'&&Zei l l')))
def Zei:List T→List T→Bool
 | [],[]=>true
 | t::l,t'::l'=>t.same t'&&Zei l l'
 | _,_=>false
end
theorem Zr7(t u:T):t.same u=(t.k == u.k&&((t.s0 == u.s0&&t.s1 == u.s1&&t.s2 == u.s2&&t.s3 == u.s3)&&(t.mn == u.mn&&(t.mx == u.mx&&Zei t.subs u.subs)))):=by
 cases t;cases u;simp only[T.same,T.k,T.s0,T.s1,T.s2,T.s3,T.mn,T.mx,T.subs]
theorem Zj4:∀{l r:List T},¬l.length=r.length→Zei l r=false
 | [],[],h=>by simp at h
 | [],_::_,_=>by simp[Zei]
 | _::_,[],_=>by simp[Zei]
 | x::l,y::r,h=>by
  simp only[Zei,Zj4 (l:=l) (r:=r) (by simpa using h),Bool.and_false]
theorem Zmt:∀{l r:List T} {i:Nat} {x y:T},l[i]?=some x→r[i]?=some y→x.same y=false→Zei l r=false
 | [],r,i,x,y,h,_,_=>by simp at h
 | _::_,[],i,x,y,_,h,_=>by simp at h
 | a::l,b::r,0,x,y,h,k,e=>by
  simp at h k;subst h k
  simp[Zei,e]
 | a::l,b::r,i+1,x,y,h,k,e=>by
  simp only[Zei,Zmt (l:=l) (r:=r) (i:=i) (by simpa using h) (by simpa using k) e,Bool.and_false]
theorem Zh6:∀{l r:List T} {i:Nat} {x y:T},l[i]?=some x→r[i]?=some y→Zei (l.take i) (r.take i)=true→x.same y=true→True→Zei (l.take (i+1)) (r.take (i+1))=true
 | [],r,i,x,y,h,_,_,_,_=>by simp at h
 | _::_,[],i,x,y,_,h,_,_,_=>by simp at h
 | a::l,b::r,0,x,y,h,k,_,e,_=>by
  simp at h k;subst h k
  simp[Zei,e]
 | a::l,b::r,i+1,x,y,h,k,hs,e,_=>by
  simp only[List.take_succ_cons,Zei,Bool.and_eq_true]at hs ⊢
  exact⟨hs.1,Zh6 (by simpa using h) (by simpa using k) hs.2 e trivial⟩
theorem Zq2(t:T):t.pos=Zr6 t.k t.mn t.mx ((if t.k=2 then 1 else 0)+ZeI t.subs):=by
 cases t;simp only[T.pos,T.k,T.mn,T.mx,T.subs];congr 1
theorem Zgh(l r:List T):ZeI (l++r)=ZeI l+ZeI r:=by
 induction l with
 | nil=>simp[ZeI]
 | cons t l ih=>simp[ZeI,ih,Int.add_assoc]
theorem Znv{l:List T}{i:Nat}{t:T}(h:l[i]?=some t):ZeI (l.take (i+1))=ZeI (l.take i)+t.pos:=by
 have:l.take (i+1)=l.take i++[t]:=by
  rw[List.take_add_one,h];rfl
 rw[this,Zgh];simp[ZeI]
theorem ZpN(x y:Int):x≤Zmm x y∧y≤Zmm x y:=by unfold Zmm;split <;> omega
theorem ZpO(x y:Int):ZlV x y≤x∧ZlV x y≤y:=by unfold ZlV;split <;> omega
theorem Zr8{x y:Int}(h:0≤x)(k:0≤y):0≤ZlV x y:=by unfold ZlV;split <;> omega
def ZtO(mn mx:Int):Int:=ZlV (if mx=-1 then Zmm (Zmm mn 0) 1 else Zmm (Zmm mn 0) mx) 10001
theorem ZpP(mn mx:Int):0≤ZtO mn mx∧ZtO mn mx≤10001:=by
 unfold ZtO
 refine⟨Zr8 ?_ (by omega),(ZpO _ _).2⟩
 have h1:=ZpN mn 0
 split
 ·have:=ZpN (Zmm mn 0) 1;omega
 ·have:=ZpN (Zmm mn 0) mx;omega
theorem Zun{k mn mx sum:Int}(h:0≤sum):0≤Zr6 k mn mx sum∧Zr6 k mn mx sum≤10001:=by
 have h2:=Int.mul_nonneg h (ZpP mn mx).1
 unfold Zr6
 refine⟨Zr8 ?_ (by omega),(ZpO _ _).2⟩
 split
 ·exact h2
 ·exact h
mutual
theorem ZlW:∀t:T,0≤t.pos∧t.pos≤10001
 | .node k _ _ _ _ mn mx _ _ l=>by
  simp only[T.pos]
  have:=Zjl l
  exact Zun (by split <;> omega)
theorem Zjl:∀l:List T,0≤ZeI l
 | []=>by simp[ZeI]
 | t::l=>by
  simp only[ZeI]
  have:=ZlW t
  have:=Zjl l
  omega
end
theorem ZpQ:∀l:List T,ZeI l≤10001*l.length
 | []=>by simp[ZeI]
 | t::l=>by
  simp only[ZeI,List.length_cons]
  have:=ZlW t
  have:=ZpQ l
  omega
theorem Zld(t:T):t.subs.length < t.nodes.length:=by
 rw[Zbf,List.length_cons]
 have:∀l:List T,l.length≤(Zay l).length:=by
  intro l
  induction l with
  | nil=>simp[Zay]
  | cons x l ih=>simp only[Zay,List.length_cons,List.length_append];rw[Zbf];simp;omega
 have:=this t.subs
 omega
theorem Zhb{t x:T}(h:x∈t.subs):x.nodes.length < t.nodes.length:=by
 obtain⟨i,hi⟩:=List.getElem?_of_mem h
 rw[Zbf t,List.length_cons,ZeQ hi]
 simp;omega
def T.hasB(t:T)(c:Nat):Bool:=((if c / 64=0 then t.s0 else if c / 64=1 then t.s1 else if c / 64=2 then t.s2 else t.s3).toNat).testBit (c % 64)
end Go.Rx
namespace Go.Rx
open Go Go.Eng Go.RowKit
def wdN(f j:Nat):Nat:=(f >>> (64*j)) % 2 ^ 64
theorem ZsX(f j:Nat):wdN f j < 18446744073709551616:=by
 unfold wdN
 exact Nat.mod_lt _ (by decide)
theorem Znw(f j k:Nat):(wdN f j).testBit k=(decide (k < 64)&&f.testBit (64*j+k)):=by
 unfold wdN
 rw[Nat.testBit_mod_two_pow,Nat.testBit_shiftRight]
theorem ZvF(f g j:Nat):wdN (f|||g) j=wdN f j|||wdN g j:=by
 apply Nat.eq_of_testBit_eq
 intro k
 simp only[Znw,Nat.testBit_or]
 cases decide (k < 64) <;> simp
theorem Zuo{q r j:Nat}(hr:r < 64):wdN (2 ^ (64*q+r)) j=if j=q then 2 ^ r else 0:=by
 apply Nat.eq_of_testBit_eq
 intro k
 rw[Znw,Nat.testBit_two_pow]
 by_cases hj:j=q
 ·subst hj
  rw[if_pos rfl,Nat.testBit_two_pow]
  by_cases hk:k < 64
  ·simp[hk]
  ·have:¬r=k:=by omega
   simp[hk,this]
 ·rw[if_neg hj]
  simp only[Nat.zero_testBit,Bool.and_eq_false_iff,decide_eq_false_iff_not]
  omega
theorem ZtP(n:Nat)(h:n < 18446744073709551616):IntKind.u64.wrap (n:Int)=n:=by
 unfold IntKind.wrap
 have e:(2:Int) ^ 64=18446744073709551616:=by decide
 simp only[IntKind.bits,IntKind.signed,Bool.false_and,Bool.false_eq_true,if_false,e]
 omega
theorem Zxd(a:Nat)(h:a < 18446744073709551616):(BitVec.ofInt 64 (a:Int)).toNat=a:=by
 rw[BitVec.toNat_ofInt]
 have e:((2:Nat) ^ 64:Nat)=18446744073709551616:=by decide
 rw[e];omega
theorem ZsY(a b:Nat)(ha:a < 18446744073709551616)(hb:b < 18446744073709551616):IntKind.u64.wrap ((BitVec.ofInt 64 (a:Int)|||BitVec.ofInt 64 (b:Int)).toNat:Int)=((a|||b:Nat):Int):=by
 rw[BitVec.toNat_or,Zxd a ha,Zxd b hb]
 exact ZtP _ (Nat.or_lt_two_pow (n:=64) ha hb)
theorem ZpR(a r:Nat)(ha:a < 18446744073709551616):(IntKind.u64.wrap ((BitVec.ofInt 64 (Int.fdiv (a:Int) (2 ^ r))&&&BitVec.ofInt 64 1).toNat:Int) == 1)=a.testBit r:=by
 have e:Int.fdiv (a:Int) (2 ^ r)=((a >>> r:Nat):Int):=by
  rw[Nat.shiftRight_eq_div_pow,Int.fdiv_eq_ediv_of_nonneg _ (Int.pow_nonneg (by omega))]
  push_cast
  rfl
 have bA:a >>> r < 18446744073709551616:=Nat.lt_of_le_of_lt (Nat.shiftRight_le a r) ha
 rw[e,BitVec.toNat_and,Zxd _ bA]
 have h1:(BitVec.ofInt 64 1).toNat=1:=by decide
 rw[h1,ZtP _ (Nat.lt_of_le_of_lt Nat.and_le_left bA),Nat.and_one_is_mod]
 have e2:a.testBit r=decide (a >>> r % 2=1):=by
  rw[Nat.shiftRight_eq_div_pow];exact Nat.testBit_eq_decide_div_mod_eq
 rw[e2,Bool.eq_iff_iff]
 simp only[beq_iff_eq,decide_eq_true_eq]
 omega
def plL(f:Nat):List Value:=[.int .u64 (wdN f 0:Nat),.int .u64 (wdN f 1:Nat),.int .u64 (wdN f 2:Nat),.int .u64 (wdN f 3:Nat),.int .u64 (wdN f 4:Nat),.int .u64 (wdN f 5:Nat),.int .u64 (wdN f 6:Nat),.int .u64 (wdN f 7:Nat),.int .u64 (wdN f 8:Nat)]
def plV(f:Nat):Value:=.agg #[.int .u64 (wdN f 0:Nat),.int .u64 (wdN f 1:Nat),.int .u64 (wdN f 2:Nat),.int .u64 (wdN f 3:Nat),.int .u64 (wdN f 4:Nat),.int .u64 (wdN f 5:Nat),.int .u64 (wdN f 6:Nat),.int .u64 (wdN f 7:Nat),.int .u64 (wdN f 8:Nat)]
theorem Zr9{f j:Nat}(h:j < 9):(plL f)[j]?=some (.int .u64 (wdN f j:Nat)):=by
 have:j=0∨j=1∨j=2∨j=3∨j=4∨j=5∨j=6∨j=7∨j=8:=by omega
 rcases this with rfl|rfl|rfl|rfl|rfl|rfl|rfl|rfl|rfl <;> rfl
theorem ZwK{q r:Nat}(hq:q < 9)(hr:r < 64):Zaj (List.replicate 9 (Value.int .u64 0)) q [.int .u64 ((2 ^ r:Nat):Int)]=plL (2 ^ (64*q+r)):=by
 unfold plL
 simp only[Zuo hr]
 have:q=0∨q=1∨q=2∨q=3∨q=4∨q=5∨q=6∨q=7∨q=8:=by omega
 rcases this with rfl|rfl|rfl|rfl|rfl|rfl|rfl|rfl|rfl <;> rfl
def orL(f g k:Nat):List Value:=(List.range 9).map fun j=>.int .u64 ((if j < k then wdN (f|||g) j else wdN f j:Nat):Int)
theorem Zup{f g k j:Nat}(h:j < 9):(orL f g k)[j]?=some (.int .u64 ((if j < k then wdN (f|||g) j else wdN f j:Nat):Int)):=by
 simp[orL,h]
theorem ZsZ{f g k:Nat}(h:k < 9):Zaj (orL f g k) k [.int .u64 ((wdN f k|||wdN g k:Nat):Int)]=orL f g (k+1):=by
 rw[←ZvF]
 have:k=0∨k=1∨k=2∨k=3∨k=4∨k=5∨k=6∨k=7∨k=8:=by omega
 rcases this with rfl|rfl|rfl|rfl|rfl|rfl|rfl|rfl|rfl <;> rfl
end Go.Rx
set_option linter.unusedSectionVars false
namespace Go.Rx
open Go Go.Eng Go.RowKit
def Byt(m:Mem)(a:Option Addr)(s:List Nat):Prop:=(s=[]∨∃b o,a=some ⟨b,o,none⟩∧m.reads b o (s.map fun c:Nat=>Value.int .u8 c))∧∀c∈s,c < 256
theorem Byt.mono{m m':Mem}{a s}(h:Byt m a s)(hm:m.le m'):Byt m' a s:=by
 refine⟨?_,h.2⟩
 rcases h.1 with h|⟨b,o,h1,h2⟩
 ·exact .inl h
 ·exact .inr ⟨b,o,h1,h2.mono hm⟩
theorem Byt.get{m:Mem}{a s}(h:Byt m a s){i c:Nat}(hi:s[i]?=some c):(∃b o,a=some ⟨b,o,none⟩∧m b (o+i)=some (.int .u8 c))∧c < 256:=by
 refine⟨?_,h.2 c (List.mem_of_getElem? hi)⟩
 rcases h.1 with h|⟨b,o,h1,h2⟩
 ·subst h;simp at hi
 ·exact⟨b,o,h1,h2 i _ (by rw[List.getElem?_map,hi];rfl)⟩
def Znx(t:T)(back:Bool)(f i c out:Nat):Nat:=if(f.testBit (if back then i+1 else i)&&t.hasB c)=true then out|||2 ^ (if back then i else i+1)else out
def Zqq(t:T)(back:Bool)(f:Nat):List Nat→Nat→Nat→Nat
 | [],_,out=>out
 | c::s,i,out=>Zqq t back f s (i+1) (Znx t back f i c out)
def ZtQ(g:Nat→Nat):Nat→Nat→Nat
 | 0,f=>f
 | n+1,f=>ZtQ g n (g f)
def Zoj(g:Nat→Nat)(mx:Int):Nat→Int→Nat→Nat→Nat
 | 0,_,out,_=>out
 | n+1,k,out,last=>if k=mx then out else if out|||g last=out then out else Zoj g mx n (IntKind.i64.wrap (k+1)) (out|||g last) (g last)
@[irreducible] def Zxe:Nat:=576
theorem Zny:Zxe=576:=by unfold Zxe;rfl
abbrev ZbR:Nat:=2 ^ Zxe
theorem Zsa{n:Nat}(h:n < 576):2 ^ n < ZbR:=Nat.pow_lt_pow_right (by omega) (by rw[Zny];exact h)
def Zuq(g:Nat→Nat)(mn mx:Int)(f:Nat):Nat:=Zoj g mx (ZbR+1) mn (ZtQ g mn.toNat f) (ZtQ g mn.toNat f)
mutual
def T.lead(s:List Nat)(back:Bool):T→Nat→Nat
 | .node k s0 s1 s2 s3 mn mx a c l=>fun f=>
  if k=1 then f else if k=2 then Zqq (.node k s0 s1 s2 s3 mn mx a c l) back f s 0 0
  else if k=3 then(if back then Ze6 s back l f else ZfJ s back l f)
  else if k=4 then ZoN s back l f 0
  else if k=5 then Zuq (ZeJ s back l) mn mx f
  else if k=6 then ZeJ s back l f else 0
def ZfJ(s:List Nat)(back:Bool):List T→Nat→Nat
 | []=>fun f=>f
 | t::l=>fun f=>ZfJ s back l (t.lead s back f)
def Ze6(s:List Nat)(back:Bool):List T→Nat→Nat
 | []=>fun f=>f
 | t::l=>fun f=>t.lead s back (Ze6 s back l f)
def ZoN(s:List Nat)(back:Bool):List T→Nat→Nat→Nat
 | []=>fun _ out=>out
 | t::l=>fun f out=>ZoN s back l f (out|||t.lead s back f)
def ZeJ(s:List Nat)(back:Bool):List T→Nat→Nat
 | []=>fun f=>f
 | t::_=>fun f=>t.lead s back f
end
section
variable {s:List Nat} {back:Bool}
theorem ZvG{t:T}(h:t.k=0)(f:Nat):t.lead s back f=0:=by cases t;simp only[T.k]at h;subst h;simp[T.lead]
theorem Zur{t:T}(h:t.k=1)(f:Nat):t.lead s back f=f:=by cases t;simp only[T.k]at h;subst h;simp[T.lead]
theorem Zus{t:T}(h:t.k=2)(f:Nat):t.lead s back f=Zqq t back f s 0 0:=by cases t;simp only[T.k]at h;subst h;simp[T.lead]
theorem Zs0{t:T}(h:t.k=3)(f:Nat):t.lead s back f=if back then Ze6 s back t.subs f else ZfJ s back t.subs f:=by cases t;simp only[T.k]at h;subst h;simp[T.lead,T.subs]
theorem Zut{t:T}(h:t.k=4)(f:Nat):t.lead s back f=ZoN s back t.subs f 0:=by cases t;simp only[T.k]at h;subst h;simp[T.lead,T.subs]
theorem Zuu{t:T}(h:t.k=5)(f:Nat):t.lead s back f=Zuq (ZeJ s back t.subs) t.mn t.mx f:=by cases t;simp only[T.k]at h;subst h;simp[T.lead,T.subs,T.mn,T.mx]
theorem Zuv{t:T}(h:t.k=6)(f:Nat):t.lead s back f=ZeJ s back t.subs f:=by cases t;simp only[T.k]at h;subst h;simp[T.lead,T.subs]
theorem Zle{g:Nat→Nat}{mx:Int}{n:Nat}{k:Int}{out last:Nat}:Zoj g mx (n+1) k out last=(if k=mx then out else if out|||g last=out then out else Zoj g mx n (IntKind.i64.wrap (k+1)) (out|||g last) (g last)):=rfl
theorem ZoO(t:T)(l:List T)(f:Nat):ZfJ s back (t::l) f=ZfJ s back l (t.lead s back f):=by rw[ZfJ]
theorem Znz(t:T)(l:List T)(f out:Nat):ZoN s back (t::l) f out=ZoN s back l f (out|||t.lead s back f):=by rw[ZoN]
theorem ZpS(f out:Nat):ZoN s back [] f out=out:=by rw[ZoN]
theorem ZoP(l:List T)(x:T)(f:Nat):Ze6 s back (l++[x]) f=Ze6 s back l (x.lead s back f):=by
 induction l with
 | nil=>simp[Ze6]
 | cons t l ih=>simp[Ze6,ih]
end
theorem Zjm{α:Type}{l:List α}{i:Nat}{x:α}(h:l[i]?=some x):l.drop i=x::l.drop (i+1):=by
 obtain⟨h1,h2⟩:=List.getElem?_eq_some_iff.1 h
 rw[List.drop_eq_getElem_cons h1,h2]
theorem Zjn{α:Type}{l:List α}{i:Nat}{x:α}(h:l[i]?=some x):l.take (i+1)=l.take i++[x]:=by
 rw[List.take_add_one,h];rfl
theorem Zs1{t:T}{back:Bool}{f i c out:Nat}(hi:i < 575)(h:out < ZbR):Znx t back f i c out < ZbR:=by
 have hj:(if back then i else i+1) < 576:=by cases back <;> simp <;> omega
 have hp:2 ^ (if back then i else i+1) < ZbR:=Zsa hj
 have ho:=Nat.or_lt_two_pow h hp
 unfold Znx
 by_cases hc:(f.testBit (if back then i+1 else i)&&t.hasB c)=true
 ·rw[if_pos hc];exact ho
 ·rw[if_neg hc];exact h
theorem Zsb{t:T}{back:Bool}{f:Nat}:∀(s:List Nat)(i out:Nat),i+s.length < 575→out < ZbR→Zqq t back f s i out < ZbR
 | [],_,_,_,h=>h
 | c::s,i,out,hi,h=>Zsb s (i+1) _ (by simp at hi;omega) (Zs1 (by simp at hi;omega) h)
theorem ZnA{g:Nat→Nat}(hg:∀f,f < ZbR→g f < ZbR):∀(n f:Nat),f < ZbR→ZtQ g n f < ZbR
 | 0,_,h=>h
 | n+1,f,h=>ZnA hg n _ (hg _ h)
theorem ZpT{g:Nat→Nat}{mx:Int}(hg:∀f,f < ZbR→g f < ZbR):∀(n:Nat)(k:Int)(out last:Nat),out < ZbR→last < ZbR→Zoj g mx n k out last < ZbR
 | 0,_,_,_,h,_=>h
 | n+1,k,out,last,h,h'=>by
  unfold Zoj
  split
  ·exact h
  ·split
   ·exact h
   ·exact ZpT hg n _ _ _ (Nat.or_lt_two_pow h (hg _ h')) (hg _ h')
section
variable (s:List Nat) (back:Bool) (hs:s.length≤512)
include hs
mutual
theorem Zej:∀(t:T)(f:Nat),f < ZbR→t.lead s back f < ZbR
 | .node k s0 s1 s2 s3 mn mx a c l,f,h=>by
  unfold T.lead
  split
  ·exact h
  split
  ·exact Zsb s 0 0 (by omega) (Nat.two_pow_pos _)
  split
  ·split
   ·exact Zmu l f h
   ·exact ZpU l f h
  split
  ·exact Zsc l f 0 h (Nat.two_pow_pos _)
  split
  ·exact ZpT (fun f h=>Zj5 l f h) _ _ _ _ (ZnA (fun f h=>Zj5 l f h) _ _ h) (ZnA (fun f h=>Zj5 l f h) _ _ h)
  split
  ·exact Zj5 l f h
  ·exact Nat.two_pow_pos _
theorem ZpU:∀(l:List T)(f:Nat),f < ZbR→ZfJ s back l f < ZbR
 | [],f,h=>by unfold ZfJ;exact h
 | t::l,f,h=>by unfold ZfJ;exact ZpU l _ (Zej t f h)
theorem Zmu:∀(l:List T)(f:Nat),f < ZbR→Ze6 s back l f < ZbR
 | [],f,h=>by unfold Ze6;exact h
 | t::l,f,h=>by unfold Ze6;exact Zej t _ (Zmu l f h)
theorem Zsc:∀(l:List T)(f out:Nat),f < ZbR→out < ZbR→ZoN s back l f out < ZbR
 | [],f,out,h,h'=>by unfold ZoN;exact h'
 | t::l,f,out,h,h'=>by unfold ZoN;exact Zsc l f _ h (Nat.or_lt_two_pow h' (Zej t f h))
theorem Zj5:∀(l:List T)(f:Nat),f < ZbR→ZeJ s back l f < ZbR
 | [],f,h=>by unfold ZeJ;exact h
 | t::l,f,h=>by unfold ZeJ;exact Zej t f h
end
end
theorem ZvH{f g:Nat}(hf:f < ZbR)(hg:g < ZbR)(h:∀j,j < 9→wdN f j=wdN g j):f=g:=by
 apply Nat.eq_of_testBit_eq
 intro i
 by_cases hi:i < 576
 ·have e:=congrArg (fun w=>Nat.testBit w (i % 64)) (h (i / 64) (by omega))
  simp only[Znw,show 64*(i / 64)+i % 64=i by omega,show i % 64 < 64 by omega,decide_true,Bool.true_and]at e
  exact e
 ·rw[Nat.testBit_lt_two_pow (Nat.lt_of_lt_of_le hf (Nat.pow_le_pow_right (by omega) (by rw[Zny];omega))),Nat.testBit_lt_two_pow (Nat.lt_of_lt_of_le hg (Nat.pow_le_pow_right (by omega) (by rw[Zny];omega)))]
abbrev PLK:=Int→Int→Int→Int→Int→Int→Int→Int→Int→Mem→Prop
theorem ZlX{X:Nat}{m:Mem}{K:PLK}(k:∀m',m.le m'→K (wdN X 0:Nat) (wdN X 1:Nat) (wdN X 2:Nat) (wdN X 3:Nat) (wdN X 4:Nat) (wdN X 5:Nat) (wdN X 6:Nat) (wdN X 7:Nat) (wdN X 8:Nat) m'):
  ∀(n0 n1 n2 n3 n4 n5 n6 n7 n8:Int)(m':Mem),m.le m'→Ret (plV X) (.agg #[.int .u64 n0,.int .u64 n1,.int .u64 n2,.int .u64 n3,.int .u64 n4,.int .u64 n5,.int .u64 n6,.int .u64 n7,.int .u64 n8]) m' []→K n0 n1 n2 n3 n4 n5 n6 n7 n8 m':=by
 intro n0 n1 n2 n3 n4 n5 n6 n7 n8 m' hm h
 simp only[Ret,plV,Value.agg.injEq,Array.mk.injEq,List.cons.injEq,Value.int.injEq,true_and,and_true]at h
 obtain⟨rfl,rfl,rfl,rfl,rfl,rfl,rfl,rfl,rfl⟩:=h
 exact k m' hm
theorem Za1{X:Nat}:∀(v:Value)(m':Mem) (css:List (List Value)),Ret (plV X) v m' css→Shape.fits (.agg [.int .u64,.int .u64,.int .u64,.int .u64,.int .u64,.int .u64,.int .u64,.int .u64,.int .u64]) v=true:=fun v _ _ e=>by rw[e];rfl
def T.walks(t:T):Prop:=t.k=0∨∀x∈t.nodes,x.right=true
theorem Zq3{t x:T}(h:t.walks)(h0:t.k≠0)(hx:x∈t.subs):x.walks:=by
 rcases h with h|h
 ·exact absurd h h0
 ·refine .inr fun y hy=>h y ?_
  obtain⟨i,hi⟩:=List.getElem?_of_mem hx
  rw[Zbf,ZeQ hi]
  simp[hy]
end Go.Rx
namespace Go.Rx
open Go Go.Eng Go.RowKit
def T0:T:=.node 0 0 0 0 0 0 0 none 0 []
def T1:T:=.node 1 0 0 0 0 0 0 none 0 []
theorem ZvI(m:Mem):Rep m T0:=by simp only[T0,Rep];exact⟨by simp,.inl trivial,by constructor <;> decide⟩
theorem ZvJ(m:Mem):Rep m T1:=by simp only[T1,Rep];exact⟨by simp,.inl trivial,by constructor <;> decide⟩
def T.isNone(t:T):Bool:=t.k == 0&&(t.light&&(T0.light&&t.same T0))
def T.wrong(t:T)(len:Nat)(i:Int):Int:=if(!t.isNone&&!(t.check == 0))=true then 130 else if(len:Int) > 512 then 3 else if i < 0∨i > len then 2 else 0
theorem Ze7{t:T}(h:t.check=0):t.walks:=by
 unfold T.check at h
 split at h
 ·exact absurd h (by decide)
 ·rename_i hc
  have hc':t.clean=true:=by simpa using hc
  unfold T.clean at hc'
  rw[Bool.and_eq_true]at hc'
  exact .inr fun x hx=>List.all_eq_true.1 hc'.2 x hx
theorem Zlf{t:T}{len:Nat}{i:Int}(h:t.wrong len i=0):t.walks∧len≤512∧0≤i∧i≤len:=by
 unfold T.wrong at h
 split at h
 ·exact absurd h (by decide)
 ·rename_i hc
  split at h
  ·exact absurd h (by decide)
  ·split at h
   ·exact absurd h (by decide)
   ·refine⟨?_,by omega,by omega,by omega⟩
    simp only[Bool.and_eq_true,Bool.not_eq_true',beq_eq_false_iff_ne,ne_eq,not_and,Decidable.not_not]at hc
    by_cases hn:t.isNone=true
    ·left
     unfold T.isNone at hn
     rw[Bool.and_eq_true]at hn
     simpa using hn.1
    ·exact Ze7 (hc (by simpa using hn))
structure Rg where
 bg:Bool
 en:Bool
 t:T
def Rg.v(r:Rg):Value:=.agg #[.bool r.bg,.bool r.en,.int .u8 r.t.k,.int .u64 r.t.s0,.int .u64 r.t.s1,.int .u64 r.t.s2,.int .u64 r.t.s3,.int .i64 r.t.mn,.int .i64 r.t.mx,.slice r.t.a r.t.subs.length r.t.c]
def Rg.cs(r:Rg):List Value:=[.bool r.bg,.bool r.en,.int .u8 r.t.k,.int .u64 r.t.s0,.int .u64 r.t.s1,.int .u64 r.t.s2,.int .u64 r.t.s3,.int .i64 r.t.mn,.int .i64 r.t.mx,.slice r.t.a r.t.subs.length r.t.c]
def Rgs(m:Mem)(a:Option Addr)(l:List Rg):Prop:=l.length≤1000000000000000∧(l=[]∨∃b o,a=some ⟨b,o,none⟩∧∀i r,l[i]?=some r→m.reads b (o+i*10) r.cs)∧∀r∈l,Rep m r.t
theorem Rgs.mono{m m':Mem}{a l}(h:Rgs m a l)(hm:m.le m'):Rgs m' a l:=by
 refine⟨h.1,?_,fun r hr=>(h.2.2 r hr).mono hm⟩
 rcases h.2.1 with h|⟨b,o,h1,h2⟩
 ·exact .inl h
 ·exact .inr ⟨b,o,h1,fun i r hi=>(h2 i r hi).mono hm⟩
def Zcs(f:Nat):List Nat:=(List.range 513).filter fun i=>f.testBit i
theorem Zs2(f:Nat):(Zcs f).length≤513:=by
 have:=List.length_filter_le (fun i=>f.testBit i) (List.range 513)
 simpa[Zcs]using this
def Zlg(n:Nat):List Nat→Option Nat
 | []=>none
 | i::_=>if i > n then none else some i
def Rg.from(s:List Nat)(n:Nat)(r:Rg):Option Nat:=if(r.en&&decide ((n:Int) < s.length))=true then none else if r.bg then(if(r.t.lead s true (2 ^ n)).testBit 0 then some 0 else none)else
 Zlg n (Zcs (r.t.lead s true (2 ^ n)))
def Zlh:Option Nat→List Value
 | some i=>[.int .i64 (i:Nat),.bool true]
 | none=>[.int .i64 0,.bool false]
def Rg.wrong(r:Rg)(len:Nat)(n:Int):Int:=if r.t.check=0 then r.t.wrong len n else 130
def ZaY(l:List Rg)(len:Nat)(n:Int):Int:=if(l.length:Int) > 64 then 5 else if l.all (fun r=>r.t.check == 0)then T1.wrong len n else 130
def ZdD(s:List Nat)(n:Nat):List Rg→Nat→Option (Nat×Nat)
 | [],_=>none
 | r::l,k=>match r.from s n with
  | some i=>some (k,i)
  | none=>ZdD s n l (k+1)
def Zq4(n:Nat):Option (Nat×Nat)→List Value
 | some (k,i)=>[.agg #[.int .i64 (k:Nat),.int .i64 (i:Nat),.int .i64 (n:Nat)],.bool true]
 | none=>[.agg #[.int .i64 0,.int .i64 0,.int .i64 0],.bool false]
def Zct(l:List Rg)(s:List Nat):Nat→Nat→Option (Nat×Nat×Nat)
 | 0,_=>none
 | c+1,n=>match ZdD s n l 0 with
  | some (k,i)=>some (k,i,n)
  | none=>Zct l s c (n+1)
def ZlY:Option (Nat×Nat×Nat)→List Value
 | some (k,i,n)=>[.agg #[.int .i64 (k:Nat),.int .i64 (i:Nat),.int .i64 (n:Nat)],.bool true]
 | none=>[.agg #[.int .i64 0,.int .i64 0,.int .i64 0],.bool false]
end Go.Rx
namespace Go.Rx
open Go Go.Eng Go.RowKit
def Zih(φ:T→Prop):Value→Mem→List (List Value)→Prop:=fun v m' _=>∃t:T,v=t.v∧Rep m' t∧φ t
abbrev TRK:=Int→Int→Int→Int→Int→Int→Int→Option Addr→Nat→Nat→Mem→Prop
theorem ZdI{φ:T→Prop}{m:Mem}{K:TRK}(k:∀(t:T)(m':Mem),m.le m'→Rep m' t→φ t→K t.k t.s0 t.s1 t.s2 t.s3 t.mn t.mx t.a t.subs.length t.c m'):
  ∀(n0 n1 n2 n3 n4 n5 n6:Int)(a:Option Addr)(n c:Nat)(m':Mem),m.le m'→Zih φ (.agg #[.int .u8 n0,.int .u64 n1,.int .u64 n2,.int .u64 n3,.int .u64 n4,.int .i64 n5,.int .i64 n6,.slice a n c]) m' []→K n0 n1 n2 n3 n4 n5 n6 a n c m':=by
 rintro n0 n1 n2 n3 n4 n5 n6 a n c m' hm ⟨t,hv,hr,hp⟩
 simp only[T.v,Value.agg.injEq,Array.mk.injEq,List.cons.injEq,Value.int.injEq,Value.slice.injEq,true_and,and_true]at hv
 obtain⟨rfl,rfl,rfl,rfl,rfl,rfl,rfl,rfl,rfl,rfl⟩:=hv
 exact k t m' hm hr hp
theorem Za7{φ:T→Prop}:∀(v:Value)(m':Mem) (css:List (List Value)),Zih φ v m' css→Shape.fits (.agg [.int .u8,.int .u64,.int .u64,.int .u64,.int .u64,.int .i64,.int .i64,.slice]) v=true:=fun v _ _ ⟨t,e,_⟩=>by rw[e];rfl
def Zli(c j:Nat):Int:=if c / 64=j then((2 ^ (c % 64):Nat):Int)else 0
def Zaz(c:Nat):T:=.node 2 (Zli c 0) (Zli c 1) (Zli c 2) (Zli c 3) 0 0 none 0 []
theorem Zj6(c j:Nat):0≤Zli c j∧Zli c j < 18446744073709551616:=by
 unfold Zli
 split
 ·have h:(2:Nat) ^ (c % 64) < 2 ^ 64:=Nat.pow_lt_pow_right (by omega) (by omega)
  have e:(2:Nat) ^ 64=18446744073709551616:=by decide
  rw[e]at h
  generalize (2:Nat) ^ (c % 64)=w at *
  exact⟨by omega,by omega⟩
 ·omega
theorem Zd6(c:Nat)(m:Mem):Rep m (Zaz c):=by
 simp only[Zaz,Rep]
 exact⟨by simp,.inl trivial,⟨by omega,Zj6 c 0,Zj6 c 1,Zj6 c 2,Zj6 c 3,by omega,by omega⟩⟩
def RepL(m:Mem)(a:Option Addr)(l:List T):Prop:=l.length≤1000000000000000∧(l=[]∨∃b o,a=some ⟨b,o,none⟩∧RepAt m b o l)
theorem RepL.mono{m m':Mem}{a l}(h:RepL m a l)(hm:m.le m'):RepL m' a l:=by
 refine⟨h.1,?_⟩
 rcases h.2 with h|⟨b,o,h1,h2⟩
 ·exact .inl h
 ·exact .inr ⟨b,o,h1,h2.mono hm⟩
theorem Rep.subs{m:Mem}{t:T}(h:Rep m t):RepL m t.a t.subs:=ZdC h
def ZbF(k mn mx:Int)(a:Option Addr)(c:Nat)(l:List T):T:=.node k 0 0 0 0 mn mx a c l
theorem Zek{m:Mem}{k mn mx:Int}{a:Option Addr}{c:Nat}{l:List T}(h:RepL m a l)(hk:0≤k∧k < 256)(h1 : -9223372036854775808≤mn∧mn≤9223372036854775807)(h2 : -9223372036854775808≤mx∧mx≤9223372036854775807):Rep m (ZbF k mn mx a c l):=by
 simp only[ZbF,Rep]
 exact⟨h.1,h.2,⟨hk,by omega,by omega,by omega,by omega,h1,h2⟩⟩
theorem Zs3{m:Mem}{b:Nat}{t:T}(h:m.reads b 0 t.cs)(hr:Rep m t):RepL m (some ⟨b,0,none⟩) [t]:=⟨by simp,.inr ⟨b,0,rfl,by simp only[RepAt];exact⟨h,hr,trivial⟩⟩⟩
def Zcy(l:List T):List Value:=(l.map T.cs).flatten
theorem ZfK(l:List T):(Zcy l).length=l.length*8:=by
 induction l with
 | nil=>rfl
 | cons t l ih=>simp[Zcy,T.cs]at ih ⊢;omega
theorem Zgi(l r:List T):Zcy (l++r)=Zcy l++Zcy r:=by simp[Zcy]
theorem ZpV{m:Mem}{b:Nat}:∀{o:Nat} {l:List T},m.reads b o (Zcy l)→(∀t∈l,Rep m t)→RepAt m b o l
 | o,[],_,_=>by simp only[RepAt]
 | o,t::l,h,hr=>by
  simp only[RepAt]
  refine⟨fun j v hj=>?_,hr t (by simp),ZpV (fun j v hj=>?_) fun x hx=>hr x (by simp[hx])⟩
  ·refine h j v ?_
   simp only[Zcy,List.map_cons,List.flatten_cons]
   rw[List.getElem?_append_left (List.getElem?_eq_some_iff.1 hj).1];exact hj
  ·have:=h (8+j) v (by
    simp only[Zcy,List.map_cons,List.flatten_cons]
    rw[List.getElem?_append_right (by simp[T.cs])]
    have e:8+j - t.cs.length=j:=by simp[T.cs]
    rw[e];exact hj)
   rw[show o+8+j=o+(8+j) by omega];exact this
theorem Zsd{m:Mem}{a:Option Addr}{l:List T}(h:rowRd m a (Zcy l))(hr:∀t∈l,Rep m t)(hl:l.length≤1000000000000000):RepL m a l:=by
 refine⟨hl,?_⟩
 cases l with
 | nil=>exact .inl rfl
 | cons t l=>
  rcases h with h|⟨b,o,h1,h2⟩
  ·simp[Zcy,T.cs]at h
  ·exact .inr ⟨b,o,h1,ZpV h2 hr⟩
end Go.Rx
namespace Go.Rx
open Go Go.Eng Go.RowKit
def T.good(t:T):Bool:=t.nodes.all T.right
def isG(t:T):Bool:=t.k == 6
theorem Zlj(p:T→Bool):∀l:List T,(Zay l).all p=l.all fun t=>t.nodes.all p
 | []=>rfl
 | t::l=>by simp only[Zay,List.all_append,List.all_cons,Zlj p l]
theorem Zlk(t:T):t.good=(t.right&&t.subs.all T.good):=by
 unfold T.good;rw[Zbf,List.all_cons,Zlj]
def grL(l:List T):Nat:=(Zay l).countP isG
def szL(l:List T):Nat:=(Zay l).length
def T.gr(t:T):Nat:=t.nodes.countP isG
theorem Zll(l r:List T):szL (l++r)=szL l+szL r:=by unfold szL;rw[Zb3,List.length_append]
theorem Zlm(l r:List T):grL (l++r)=grL l+grL r:=by unfold grL;rw[Zb3,List.countP_append]
theorem ZpW(t:T):szL [t]=t.nodes.length:=by simp[szL,Zay]
theorem ZpX(t:T):grL [t]=t.gr:=by simp[grL,Zay,T.gr]
theorem Zmv(t:T):ZeI [t]=t.pos:=by simp[ZeI]
theorem Zs4(t:T)(l:List T):szL (t::l)=t.nodes.length+szL l:=by simp[szL,Zay]
theorem Zs5(t:T)(l:List T):grL (t::l)=t.gr+grL l:=by simp[grL,Zay,T.gr,List.countP_append]
theorem Zwn(t:T):t.nodes.length=1+szL t.subs:=by rw[Zbf,List.length_cons,szL];omega
theorem Zwo(t:T):t.gr=(if isG t=true then 1 else 0)+grL t.subs:=by
 unfold T.gr;rw[Zbf,List.countP_cons,grL];omega
def Zok(k:Int)(t:T):List T:=if t.k=k then t.subs else if k=3∧t.k=1 then[]else[t]
def ZoQ(k:Int)(a:Option Addr)(c:Nat):List T→T
 | []=>T1
 | [x]=>x
 | x::y::l=>ZbF k 0 0 a c (x::y::l)
theorem Zj7{t:T}{k:Int}(h:t.has k=false):∀x∈t.subs,x.k≠k:=by
 intro x hx e
 unfold T.has at h
 have:=List.any_eq_false.1 h x hx
 simp[e]at this
theorem Zuw{t:T}{k:Int}(h:∀x∈t.subs,x.k≠k):t.has k=false:=by
 unfold T.has
 rw[List.any_eq_false]
 intro x hx
 have:=h x hx
 simpa using this
theorem ZpY{k:Int}{t:T}(hk:k=3∨k=4)(hg:t.good=true)(hp:t.pos≤10000):(∀x∈Zok k t,x.good=true∧x.k≠k∧(k=3→x.k≠1))∧szL (Zok k t)≤t.nodes.length∧grL (Zok k t)≤t.gr∧ZeI (Zok k t)≤t.pos:=by
 have hg':=hg
 rw[Zlk,Bool.and_eq_true,List.all_eq_true]at hg'
 unfold Zok
 split
 ·rename_i eG
  refine⟨fun x hx=>⟨hg'.2 x hx,?_⟩,by rw[Zwn];omega,by rw[Zwo];omega,?_⟩
  ·have hr:=hg'.1
   unfold T.right at hr
   rw[Bool.and_eq_true]at hr
   have hr:=hr.2
   rcases hk with rfl|rfl
   ·simp only[eG]at hr
    simp at hr
    exact⟨Zj7 hr.2.2 x hx,fun _=>Zj7 hr.2.1 x hx⟩
   ·simp only[eG]at hr
    simp at hr
    exact⟨Zj7 hr.2 x hx,fun h=>by omega⟩
  ·rw[Zq2]at hp ⊢
   have h5:¬t.k=5:=by omega
   have h2:¬t.k=2:=by omega
   unfold Zr6 at hp ⊢
   rw[if_neg h5,if_neg h2,Int.zero_add]at hp ⊢
   unfold ZlV at hp ⊢
   split at hp
   ·omega
   ·split <;> omega
 ·rename_i eG
  split
  ·refine⟨fun x hx=>by simp at hx,by simp[szL,Zay],by simp[grL,Zay],?_⟩
   simp only[ZeI];exact(ZlW t).1
  ·rename_i rJ
   refine⟨fun x hx=>?_,by rw[ZpW];exact Nat.le_refl _,by rw[ZpX];exact Nat.le_refl _,by rw[Zmv];exact Int.le_refl _⟩
   simp at hx;subst hx
   exact⟨hg,eG,fun h=>fun h1=>rJ ⟨h,h1⟩⟩
theorem Zq5{k:Int}(hk:k=3∨k=4)(a:Option Addr)(c:Nat):∀{l:List T},(∀x∈l,x.good=true∧x.k≠k∧(k=3→x.k≠1))→(ZoQ k a c l).good=true∧(ZoQ k a c l).nodes.length≤1+szL l∧(ZoQ k a c l).gr≤grL l∧(ZoQ k a c l).pos≤ZeI l
 | [],_=>⟨show T1.good=true by decide,show T1.nodes.length≤1 by decide,show T1.gr≤0 by decide,show T1.pos≤0 by decide⟩
 | [x],h=>by
  rw[ZpW,ZpX,Zmv]
  exact⟨(h x (by simp)).1,by show x.nodes.length≤_;omega,Nat.le_refl _,Int.le_refl _⟩
 | x::y::l,h=>by
  show(ZbF k 0 0 a c (x::y::l)).good=true∧(ZbF k 0 0 a c (x::y::l)).nodes.length≤_∧(ZbF k 0 0 a c (x::y::l)).gr≤_∧(ZbF k 0 0 a c (x::y::l)).pos≤_
  have hs:(ZbF k 0 0 a c (x::y::l)).subs=x::y::l:=rfl
  have eG:(ZbF k 0 0 a c (x::y::l)).k=k:=rfl
  have hz:(ZbF k 0 0 a c (x::y::l)).setZ=true:=rfl
  have jC:(ZbF k 0 0 a c (x::y::l)).mn=0:=rfl
  have gV:(ZbF k 0 0 a c (x::y::l)).mx=0:=rfl
  refine⟨?_,by rw[Zwn,hs];exact Nat.le_refl _,?_,?_⟩
  ·rw[Zlk,Bool.and_eq_true,List.all_eq_true,hs]
   refine⟨?_,fun z hz=>(h z hz).1⟩
   have h1:k=3→(ZbF k 0 0 a c (x::y::l)).has 1=false:=fun e=>Zuw fun z hz=>(h z hz).2.2 e
   have h2:(ZbF k 0 0 a c (x::y::l)).has k=false:=Zuw fun z hz=>(h z hz).2.1
   unfold T.right
   rw[eG,hz,jC,gV,hs]
   rcases hk with rfl|rfl
   ·simp[h1 rfl,h2]
   ·simp[h2]
  ·rw[Zwo,hs,isG,eG]
   rcases hk with rfl|rfl <;> simp
  ·rw[Zq2,eG,jC,gV,hs]
   unfold Zr6
   rw[if_neg (by omega),if_neg (by omega),Int.zero_add]
   exact(ZpO _ _).1
structure J (i:Nat)(ts:List T)(u g:Nat):Prop where
 good:∀t∈ts,t.good=true
 sz:szL ts≤i
 pos:ZeI ts≤(i*u:Nat)
 u1:1≤u
 u16:u≤16
 gr:grL ts≤g
 g9:g≤9
theorem J.zero:J 0 [] 1 0:=⟨by simp,by simp[szL,Zay],by simp[ZeI],by omega,by omega,by simp[grL,Zay],by omega⟩
theorem J.skip{i ts u g}(h:J i ts u g):J (i+1) ts u g:=
 ⟨h.good,by have:=h.sz;omega,by have:=h.pos;have e:(i+1)*u=i*u+u:=Nat.succ_mul i u;rw[e];omega,h.u1,h.u16,h.gr,h.g9⟩
theorem J.push{i ts u g}(h:J i ts u g){t:T}(hg:t.good=true)(hs:t.nodes.length=1)(hp:t.pos≤1)(hr:t.gr=0):J (i+1) (ts++[t]) u g:=by
 refine⟨fun x hx=>?_,?_,?_,h.u1,h.u16,?_,h.g9⟩
 ·rcases List.mem_append.1 hx with hx|hx
  ·exact h.good x hx
  ·simp at hx;subst hx;exact hg
 ·rw[Zll,ZpW,hs];have:=h.sz;omega
 ·rw[Zgh,Zmv];have:=h.pos;have:=h.u1;have e:(i+1)*u=i*u+u:=Nat.succ_mul i u;rw[e];omega
 ·rw[Zlm,ZpX,hr];have:=h.gr;omega
structure F (t:T)(l:List T):Prop where
 good:t.good=true
 goods:∀x∈l,x.good=true
 sz:t.nodes.length+szL l+l.length≤60
 pos:t.pos+ZeI l≤400
 gr:t.gr+grL l≤9
theorem F.step{t x:T}{l:List T}(h:F t (x::l))(a:Option Addr)(c:Nat):F (ZoQ 4 a c (Zok 4 t++Zok 4 x)) l:=by
 have h1:=h.sz
 have h2:=h.pos
 have h3:=h.gr
 rw[Zs4,List.length_cons]at h1
 rw[Zs5]at h3
 simp only[ZeI]at h2
 have n1:=Zjl l
 have n2:=(ZlW x).1
 have n3:=(ZlW t).1
 obtain⟨a1,a2,a3,a4⟩:=ZpY (.inr rfl) h.good (by omega) (t:=t)
 obtain⟨b1,b2,b3,b4⟩:=ZpY (.inr rfl) (h.goods x (by simp)) (by omega)
 obtain⟨c1,c2,c3,c4⟩:=Zq5 (.inr rfl) a c (l:=Zok 4 t++Zok 4 x) (fun z hz=>by
  rcases List.mem_append.1 hz with hz|hz
  ·exact a1 z hz
  ·exact b1 z hz)
 rw[Zll]at c2
 rw[Zlm]at c3
 rw[Zgh]at c4
 exact⟨c1,fun z hz=>h.goods z (by simp[hz]),by omega,by omega,by omega⟩
theorem F.done{t:T}{l:List T}(h:F t l):t.check=0:=by
 have h1:=h.sz
 have h2:=h.pos
 have h3:=h.gr
 have n1:=Zjl l
 have hl:t.light=true:=by unfold T.light;exact decide_eq_true (by omega)
 have hc:t.clean=true:=by unfold T.clean;rw[hl];exact h.good
 have hg:((t.nodes.countP fun x=>x.k == 6:Nat))=t.gr:=rfl
 unfold T.check
 rw[hc]
 unfold T.size T.positions T.groups
 rw[hl,hg]
 simp only[if_true,Bool.true_eq_false,if_false]
 rw[if_neg (by omega),if_neg (by omega),if_neg (by omega)]
theorem Zln{t:T}(h:t.check=0):t.good=true∧t.nodes.length≤120:=by
 unfold T.check at h
 split at h
 ·exact absurd h (by decide)
 ·rename_i hc
  have hc':t.clean=true:=by simpa using hc
  unfold T.clean at hc'
  rw[Bool.and_eq_true]at hc'
  split at h
  ·exact absurd h (by decide)
  ·rename_i hz
   unfold T.size at hz
   rw[hc'.1]at hz
   simp only[if_true]at hz
   exact⟨hc'.2,by omega⟩
end Go.Rx
namespace Go.Rx
open Go Go.Eng Go.RowKit
def bwL(f:Nat):List Value:=[.int .u64 (wdN f 0:Nat),.int .u64 (wdN f 1:Nat),.int .u64 (wdN f 2:Nat),.int .u64 (wdN f 3:Nat),.int .u64 (wdN f 4:Nat),.int .u64 (wdN f 5:Nat),.int .u64 (wdN f 6:Nat)]
def ZwL(f:Nat):List Nat:=(List.range 448).filter fun i=>f.testBit i
end Go.Rx
namespace Go.Rx
open Go Go.Eng Go.RowKit
structure Pt where
 first:Nat
 last:Nat
 null:Bool
structure Ms where
 sets:List (Int×Int×Int×Int)
 fol:List Nat
def Pt.v(p:Pt):Value:=.agg #[.int .u64 (wdN p.first 0:Nat),.int .u64 (wdN p.first 1:Nat),.int .u64 (wdN p.first 2:Nat),.int .u64 (wdN p.first 3:Nat),.int .u64 (wdN p.first 4:Nat),.int .u64 (wdN p.first 5:Nat),.int .u64 (wdN p.first 6:Nat),.int .u64 (wdN p.last 0:Nat),.int .u64 (wdN p.last 1:Nat),.int .u64 (wdN p.last 2:Nat),.int .u64 (wdN p.last 3:Nat),.int .u64 (wdN p.last 4:Nat),.int .u64 (wdN p.last 5:Nat),.int .u64 (wdN p.last 6:Nat),.bool p.null]
def Pt.cs(p:Pt):List Value:=bwL p.first++bwL p.last++[Value.bool p.null]
def ZtR(fol:List Nat)(a b:Nat):List Nat:=fol.mapIdx fun i x=>if a.testBit i then x|||b else x
def ZwM(p q:Pt):Pt:=⟨if p.null then p.first|||q.first else p.first,if q.null then q.last|||p.last else q.last,p.null&&q.null⟩
def Zux(p q:Pt)(s:Ms):Pt×Ms:=(ZwM p q,⟨s.sets,ZtR s.fol p.last q.first⟩)
def ZxA(p q:Pt):Pt:=⟨p.first|||q.first,p.last|||q.last,p.null||q.null⟩
def Zxl(f:Ms→Pt×Ms)(mn mx:Int)(n:Nat):Nat→Nat→Pt→Ms→Pt×Ms
 | 0,_,out,s=>(out,s)
 | q+1,i,out,s=>
  let x:=(f s).1
  let s1:=(f s).2
  let s2:Ms:=if mx=-1∧i+1=n then⟨s1.sets,ZtR s1.fol x.last x.first⟩ else s1
  let y:Pt:=⟨x.first,x.last,x.null||decide ((i:Int) ≥ mn)⟩
  Zxl f mn mx n q (i+1) (Zux out y s2).1 (Zux out y s2).2
def Zxm(mn mx:Int):Nat:=(if mx=-1 then max mn 1 else mx).toNat
mutual
def mk:T→Ms→Pt×Ms
 | .node k s0 s1 s2 s3 mn mx _ _ l,s=>
  if k=0 then(⟨0,0,false⟩,s)
  else if k=1 then(⟨0,0,true⟩,s)
  else if k=2 then(⟨2 ^ s.sets.length,2 ^ s.sets.length,false⟩,⟨s.sets++[(s0,s1,s2,s3)],s.fol++[0]⟩)
  else if k=3 then Zwp l ⟨0,0,true⟩ s
  else if k=4 then Zwq l ⟨0,0,false⟩ s
  else if k=5 then Zxl (fun s=>Zxn l s) mn mx (Zxm mn mx) (Zxm mn mx) 0 ⟨0,0,true⟩ s
  else Zxn l s
def Zxn:List T→Ms→Pt×Ms
 | [],s=>(⟨0,0,false⟩,s)
 | t::_,s=>mk t s
def Zwp:List T→Pt→Ms→Pt×Ms
 | [],out,s=>(out,s)
 | t::l,out,s=>Zwp l (Zux out (mk t s).1 (mk t s).2).1 (Zux out (mk t s).1 (mk t s).2).2
def Zwq:List T→Pt→Ms→Pt×Ms
 | [],out,s=>(out,s)
 | t::l,out,s=>Zwq l (ZxA out (mk t s).1) (mk t s).2
end
def ZgI(l:List (Int×Int×Int×Int)):List Value:=l.flatMap fun q=>[.int .u64 q.1,.int .u64 q.2.1,.int .u64 q.2.2.1,.int .u64 q.2.2.2]
def ZwN(l:List Nat):List Value:=l.flatMap bwL
def Yof(v0 v1:Value)(b:Nat):Prop:=(Tok.mk v0 4).blk=some b∨(Tok.mk v1 7).blk=some b
def RowOk(m:Mem)(v:Value)(k:Nat)(cs:List Value):Prop:=(k=0∧v=.slice none 0 0)∨∃b c,v=.slice (some ⟨b,0,none⟩) k c∧m.reads b 0 cs∧k≠0
structure MkRow (m:Mem)(v0 v1:Value)(s:Ms):Prop where
 row0:RowOk m v0 s.sets.length (ZgI s.sets)
 row1:RowOk m v1 s.fol.length (ZwN s.fol)
 ne:∀b,(Tok.mk v0 4).blk=some b→(Tok.mk v1 7).blk≠some b
structure MkOk (M0 m:Mem)(v0 v1:Value)(s:Ms):Prop extends MkRow m v0 v1 s where
 base:M0.le (m.off (Yof v0 v1))
theorem Zq6{m m':Mem}{Y Y':Nat→Prop}(h:(m.off Y).le m')(hn:∀b,Y' b→Y b∨m.free b):(m.off Y).le (m'.off Y'):=fun b o v hv=>by
 unfold Mem.off at hv ⊢
 split at hv
 ·cases hv
 ·rename_i hY
  have:¬Y' b:=fun h'=>by
   rcases hn b h' with h1|h1
   ·exact hY h1
   ·rw[h1 o]at hv;cases hv
  rw[if_neg this]
  have:=h b o v (by unfold Mem.off;rw[if_neg hY];exact hv)
  exact this
theorem MkOk.next{M0 m m':Mem}{v0 v1 v0' v1':Value}{s s':Ms}(h:MkOk M0 m v0 v1 s)(cI:(m.off (Yof v0 v1)).le m')(hn:∀b,Yof v0' v1' b→Yof v0 v1 b∨m.free b)(hr:MkRow m' v0' v1' s'):MkOk M0 m' v0' v1' s':=
 {hr with base:=Mem.le_trans h.base (Zq6 cI hn) }
theorem MkOk.free{M0 m:Mem}{v0 v1:Value}{s:Ms}(h:MkOk M0 m v0 v1 s){b:Nat}(hb:Yof v0 v1 b):M0.free b:=fun o=>by
 cases he:M0 b o with
 | none=>rfl
 | some u=>
  have:=h.base b o u he
  unfold Mem.off at this
  rw[if_pos hb]at this;cases this
theorem MkOk.le{M0 m:Mem}{v0 v1:Value}{s:Ms}(h:MkOk M0 m v0 v1 s):M0.le m:=Mem.le_trans h.base (Mem.off_le m _)
theorem RowOk.mono{m m':Mem}{v:Value}{k:Nat}{cs:List Value}(h:RowOk m v k cs)(hm:m.le m'):RowOk m' v k cs:=by
 rcases h with h|⟨b,c,h1,h2,h3⟩
 ·exact .inl h
 ·exact .inr ⟨b,c,h1,h2.mono hm,h3⟩
theorem MkRow.mono{m m':Mem}{v0 v1:Value}{s:Ms}(h:MkRow m v0 v1 s)(hm:m.le m'):MkRow m' v0 v1 s:=⟨h.row0.mono hm,h.row1.mono hm,h.ne⟩
end Go.Rx
namespace Go.Rx
open Go Go.Eng Go.RowKit
def PtIn(n:Nat)(p:Pt):Prop:=(∀i,p.first.testBit i=true→i < n)∧(∀i,p.last.testBit i=true→i < n)
structure MsOk (s:Ms):Prop where
 len:s.fol.length=s.sets.length
 fol:∀(j x:Nat),s.fol[j]?=some x→∀i,x.testBit i=true→i < s.sets.length
theorem PtIn.mono{n n':Nat}{p:Pt}(h:PtIn n p)(hn:n≤n'):PtIn n' p:=⟨fun i hi=>Nat.lt_of_lt_of_le (h.1 i hi) hn,fun i hi=>Nat.lt_of_lt_of_le (h.2 i hi) hn⟩
theorem ZvK{a b i:Nat}(h:(a|||b).testBit i=true):a.testBit i=true∨b.testBit i=true:=by
 simpa[Nat.testBit_or]using h
theorem MsOk.loop{s:Ms}(h:MsOk s)(a b:Nat)(hb:∀i,b.testBit i=true→i < s.sets.length):MsOk ⟨s.sets,ZtR s.fol a b⟩:=by
 refine⟨by simp[ZtR,h.len],fun j x hj i hi=>?_⟩
 simp only[ZtR,List.getElem?_mapIdx]at hj
 obtain⟨y,hy,rfl⟩:=Option.map_eq_some_iff.1 hj
 by_cases kN:a.testBit j=true
 ·rw[if_pos kN]at hi
  rcases ZvK hi with h1|h1
  ·exact h.fol j y hy i h1
  ·exact hb i h1
 ·rw[if_neg kN]at hi
  exact h.fol j y hy i hi
structure Grows (s:Ms)(r:Pt×Ms):Prop where
 le:s.sets.length≤r.2.sets.length
 ok:MsOk r.2
 pt:PtIn r.2.sets.length r.1
theorem Grows.trans{s s1:Ms}{p:Pt}{r:Pt×Ms}(h:Grows s (p,s1))(k:Grows s1 r):Grows s r:=⟨Nat.le_trans h.le k.le,k.ok,k.pt⟩
end Go.Rx
namespace Go.Rx
open Go Go.Eng Go.RowKit
abbrev QS:=Int×Int×Int×Int
structure Nf where
 sets:List QS
 fol:List (List Int)
 first:List Int
 last:List Int
 empty:Bool
deriving DecidableEq
def Zgj(l:List Int):List Value:=l.map fun i=>.int .i64 i
theorem ZnB(l:List Int):(Zgj l).length=l.length:=by simp[Zgj]
def SlI(st:Bool)(l:List Int)(v:Value)(m:Mem):Prop:=∃a c,v=.slice a l.length c∧rowRd m a (Zgj l)∧l.length≤1000000∧(st=true→l=[]→a=none)
def SlQ(st:Bool)(l:List QS)(v:Value)(m:Mem):Prop:=∃a c,v=.slice a l.length c∧rowRd m a (ZgI l)∧l.length≤1000000∧(st=true→l=[]→a=none)
def FolR(st:Bool)(fol:List (List Int))(v:Value)(m:Mem):Prop:=∃a c vs,v=.slice a fol.length c∧rowRd m a vs∧vs.length=fol.length∧fol.length≤1000000∧∀(i:Nat)(v:Value)(l:List Int),vs[i]?=some v→fol[i]?=some l→SlI st l v m
def NfR(st:Bool)(A:Nf)(v:Value)(m:Mem):Prop:=∃s f x y,v=.agg #[s,f,x,y,.bool A.empty]∧SlQ st A.sets s m∧FolR st A.fol f m∧SlI st A.first x m∧SlI st A.last y m
theorem SlI.mono{st:Bool}{l:List Int}{v:Value}{m m':Mem}(h:SlI st l v m)(k:m.le m'):SlI st l v m':=by
 obtain⟨a,c,h1,h2,h3⟩:=h;exact⟨a,c,h1,h2.mono k,h3⟩
theorem SlQ.mono{st:Bool}{l:List QS}{v:Value}{m m':Mem}(h:SlQ st l v m)(k:m.le m'):SlQ st l v m':=by
 obtain⟨a,c,h1,h2,h3⟩:=h;exact⟨a,c,h1,h2.mono k,h3⟩
theorem FolR.mono{st:Bool}{l:List (List Int)}{v:Value}{m m':Mem}(h:FolR st l v m)(k:m.le m'):FolR st l v m':=by
 obtain⟨a,c,vs,h1,h2,h3,h4,h5⟩:=h;exact⟨a,c,vs,h1,h2.mono k,h3,h4,fun i v l hv hl=>(h5 i v l hv hl).mono k⟩
theorem NfR.mono{st:Bool}{A:Nf}{v:Value}{m m':Mem}(h:NfR st A v m)(k:m.le m'):NfR st A v m':=by
 obtain⟨s,f,x,y,h1,h2,h3,h4,h5⟩:=h;exact⟨s,f,x,y,h1,h2.mono k,h3.mono k,h4.mono k,h5.mono k⟩
def Zuy:List Int→Int→Int→Bool
 | [],_,_=>true
 | p::l,lo,hi=>decide (lo < p)&&(decide (p≤hi)&&Zuy l p hi)
def zQ:QS:=(0,0,0,0)
def Nf.top(A:Nf):Int:=(A.sets.length:Int) - 1
def Nf.right(A:Nf):Bool:=
 decide (A.sets.length≤400)&&(decide (A.fol.length=A.sets.length)&&(Zuy A.first (-1) A.top&&(Zuy A.last (-1) A.top&&((A.fol.zip A.sets).all fun p=>Zuy p.1 (-1) A.top&&!(p.2 == zQ)))))
def ZwO(f:Nat):List Int:=(ZwL f).map fun i:Nat=>(i:Int)
end Go.Rx
namespace Go.Rx
open Go Go.Eng Go.RowKit
def ZtS(p:Nat)(cur:List (List Int))(q:Int):List (List Int):=cur.modify q.toNat (fun l=>l++[(p:Int)])
theorem ZnC(p:Nat)(cur:List (List Int))(q:Int):(ZtS p cur q).length=cur.length:=by simp[ZtS]
theorem Zq7{p:Nat}{cur:List (List Int)}{q:Int}{i:Nat}{l:List Int}(h:cur[i]?=some l):(ZtS p cur q)[i]?=some (if q.toNat=i then l++[(p:Int)]else l):=by
 unfold ZtS
 rw[List.getElem?_modify,h]
 split <;> rfl
structure Nf.Ok (A:Nf):Prop where
 n:A.sets.length≤400
 len:A.fol.length=A.sets.length
 first:A.first.Pairwise (· < ·)∧∀x∈A.first,-1 < x∧x≤A.top
 last:A.last.Pairwise (· < ·)∧∀x∈A.last,-1 < x∧x≤A.top
 fol:∀l∈A.fol,l.Pairwise (· < ·)∧∀x∈l,-1 < x∧x≤A.top
 sets:∀q∈A.sets,q≠zQ
structure TurnI (base m:Mem)(b:Nat)(F:Nat→Option (Nat×Nat))(cur:List (List Int)):Prop where
 le:base.le m
 fr:base.free b
 cell:∀(q:Nat)(l:List Int),cur[q]?=some l→(F q=none∧l=[]∧m b q=some (.slice none 0 0))∨∃bq c,F q=some (bq,c)∧l≠[]∧l.length≤c∧m b q=some (.slice (some ⟨bq,0,none⟩) l.length c)∧(∀o,o < c→∃v,m bq o=some v)∧m.reads bq 0 (Zgj l)∧base.free bq∧bq≠b
 ne:∀(q q' b0 c c':Nat),F q=some (b0,c)→F q'=some (b0,c')→q=q'
 dom:∀(q:Nat)(x:Nat×Nat),F q=some x→q < cur.length
theorem Zq8(l r:List Int):Zgj (l++r)=Zgj l++Zgj r:=by simp[Zgj]
theorem TurnI.push{base m:Mem}{b:Nat}{F:Nat→Option (Nat×Nat)}{cur:List (List Int)}(h:TurnI base m b F cur){q:Int}{p:Nat}{l:List Int}(nh:0≤q)(hq:cur[q.toNat]?=some l){a:Option Addr}{c:Nat}(hm:m b q.toNat=some (.slice a l.length c)){m1 m2 M:Mem}(aW:(m.cutA a (l.length*1)).le m1)
  {a':Option Addr} {c':Nat} (hr:rowRd m2 a' (Zgj l++[.int .i64 (p:Int)])) (hf:TokFact m1 a a' (l.length+1) c') (ni:(m.cutA a (l.length*1)).le M) (cW:m2.le M) (zs:List Value) (hz:zs.length=(c' - (l.length+1))*1):
  ∃F',TurnI base ((M.upd b q.toNat [.slice a' (l.length+1) c']).addA a' ((l.length+1)*1) zs) b F' (ZtS p cur q):=by
 have rK:=(List.getElem?_eq_some_iff.1 hq).1
 have rL:∀b o,a=some ⟨b,o,none⟩→o=0:=fun b1 o1 e=>by
  rcases h.cell _ _ hq with⟨_,_,h3⟩|⟨bq,c0,_,_,_,h4,_⟩
  ·rw[hm,e]at h3;simp at h3
  ·rw[hm,e]at h4;simp at h4;exact h4.1.2
 obtain⟨hc',fD⟩:=hf.old rL
 rcases hr with hr|⟨b',o',ha',cH⟩
 ·have:=congrArg List.length hr;simp at this
 rcases fD with o7|⟨b2,dT,fB⟩
 ·rw[o7]at ha';cases ha'
 rw[dT]at ha'
 simp only[Option.some.injEq,Addr.mk.injEq,and_true]at ha'
 obtain⟨rfl,rfl⟩:=ha'
 subst dT
 have fF:∀k o v,m k o=some v→(∀bq c0,F q.toNat=some (bq,c0)→k≠bq)→M k o=some v:=fun k o v hv hk=>by
  refine ni k o v ?_
  unfold Mem.cutA
  split
  ·rename_i k0 o0 s0
   rcases h.cell _ _ hq with⟨_,_,h3⟩|⟨bq,c0,h1,_,_,h4,_⟩
   ·rw[hm]at h3;simp only[Option.some.injEq,Value.slice.injEq]at h3;exact absurd h3.1 (by simp)
   ·rw[hm]at h4
    simp only[Option.some.injEq,Value.slice.injEq,Addr.mk.injEq]at h4
    rw[if_neg (fun hc=>hk bq c0 h1 (hc.1.trans h4.1.1))];exact hv
  ·exact hv
 have hb'k:∀k o v,m k o=some v→(∀bq c0,F q.toNat=some (bq,c0)→k≠bq)→k≠b2:=fun k o v hv hk e=>by
  subst e
  have rM:(m.cutA a (l.length*1)) k o=some v:=by
   unfold Mem.cutA
   split
   ·rename_i k0 o0 s0
    rcases h.cell _ _ hq with⟨_,_,h3⟩|⟨bq,c0,h1,_,_,h4,_⟩
    ·rw[hm]at h3;simp only[Option.some.injEq,Value.slice.injEq]at h3;exact absurd h3.1 (by simp)
    ·rw[hm]at h4
     simp only[Option.some.injEq,Value.slice.injEq,Addr.mk.injEq]at h4
     rw[if_neg (fun hc=>hk bq c0 h1 (hc.1.trans h4.1.1))];exact hv
   ·exact hv
  rcases fB with fB|fB
  ·rcases h.cell _ _ hq with⟨_,_,h3⟩|⟨bq,c0,h1,_,_,h4,_⟩
   ·rw[hm,fB]at h3;simp only[Option.some.injEq,Value.slice.injEq]at h3;exact absurd h3.1 (by simp)
   ·rw[hm,fB]at h4
    simp only[Option.some.injEq,Value.slice.injEq,Addr.mk.injEq]at h4
    exact hk bq c0 h1 h4.1.1
  ·have:=aW _ _ _ rM
   rw[fB o]at this;cases this
 have mj:∀q' x,cur[q']?=some x→∃v,m b q'=some v:=fun q' x hx=>by
  rcases h.cell _ _ hx with⟨_,_,h3⟩|⟨_,_,_,_,_,h4,_⟩
  ·exact⟨_,h3⟩
  ·exact⟨_,h4⟩
 have o8:∀bq c0,F q.toNat=some (bq,c0)→b≠bq:=fun bq c0 h1 e=>by
  rcases h.cell _ _ hq with⟨h3,_,_⟩|⟨bq',c0',h1',_,_,_,_,_,_,h8⟩
  ·rw[h3]at h1;cases h1
  ·rw[h1]at h1';cases h1';exact h8 e.symm
 have fQ:b≠b2:=by
  obtain⟨v,hv⟩:=mj _ _ hq
  exact hb'k b _ v hv o8
 let N:=(M.upd b q.toNat [.slice (some ⟨b2,0,none⟩) (l.length+1) c']).addA (some ⟨b2,0,none⟩) ((l.length+1)*1) zs
 have hN:∀k o,k≠b2→(k≠b∨o≠q.toNat)→N k o=M k o:=fun k o hk rN=>by
  show Mem.addAt _ b2 _ zs k o=_
  unfold Mem.addAt
  rw[if_neg (fun hc=>hk hc.1)]
  unfold Mem.upd
  rw[if_neg]
  rintro⟨e1,e2,e3⟩
  simp at e3
  rcases rN with h|h
  ·exact h e1
  ·omega
 have qf:N b q.toNat=some (.slice (some ⟨b2,0,none⟩) (l.length+1) c'):=by
  show Mem.addAt _ b2 _ zs b q.toNat=_
  unfold Mem.addAt
  rw[if_neg (fun hc=>fQ hc.1)]
  unfold Mem.upd
  rw[if_pos ⟨rfl,Nat.le_refl _,by simp⟩];simp
 have ml:base.free b2:=by
  rcases fB with fB|fB
  ·rcases h.cell _ _ hq with⟨_,_,h3⟩|⟨bq,c0,h1,_,_,h4,_,_,h7,_⟩
   ·rw[hm,fB]at h3;simp only[Option.some.injEq,Value.slice.injEq]at h3;exact absurd h3.1 (by simp)
   ·rw[hm,fB]at h4
    simp only[Option.some.injEq,Value.slice.injEq,Addr.mk.injEq]at h4
    rw[h4.1.1];exact h7
  ·intro o
   cases he:base b2 o with
   | none=>rfl
   | some v=>
    exfalso
    refine hb'k b2 o v (h.le _ _ _ he) (fun bq c0 h1 e=>?_) rfl
    rcases h.cell _ _ hq with⟨h3,_,_⟩|⟨bq',c0',h1',_,_,_,_,_,h7,_⟩
    ·rw[h3]at h1;cases h1
    ·rw[h1]at h1';cases h1'
     rw[e,h7 o]at he;cases he
 refine⟨fun i=>if i=q.toNat then some (b2,c')else F i,?_⟩
 show TurnI base N b _ _
 refine⟨fun k o v hv=>?_,h.fr,fun i x hx=>?_,fun i i' b0 c0 c0' h1 h2=>?_,fun i x hx=>?_⟩
 ·have eH:k≠b2:=fun e=>by subst e;rw[ml o]at hv;cases hv
  have gW:k≠b:=fun e=>by subst e;rw[h.fr o]at hv;cases hv
  rw[hN k o eH (.inl gW)]
  refine fF k o v (h.le _ _ _ hv) fun bq c0 h1 e=>?_
  rcases h.cell _ _ hq with⟨h3,_,_⟩|⟨bq',c0',h1',_,_,_,_,_,h7,_⟩
  ·rw[h3]at h1;cases h1
  ·rw[h1]at h1';cases h1'
   rw[e,h7 o]at hv;cases hv
 ·have pa:i < cur.length:=by have:=(List.getElem?_eq_some_iff.1 hx).1;rwa [ZnC]at this
  obtain⟨y,hy⟩:∃y,cur[i]?=some y:=⟨_,List.getElem?_eq_getElem pa⟩
  rw[Zq7 hy]at hx
  by_cases hi:i=q.toNat
  ·subst hi
   rw[hq]at hy;cases hy
   rw[if_pos rfl]at hx;cases hx
   refine .inr ⟨b2,c',by simp,by simp,by simpa using hc',by rw[List.length_append];exact qf,fun o ho=>?_,fun j v hj=>?_,ml,fQ.symm⟩
   ·show ∃v,Mem.addAt _ b2 _ zs b2 o=some v
    unfold Mem.addAt
    by_cases qg:0+(l.length+1)*1≤o
    ·rw[if_pos ⟨rfl,qg⟩]
     have:o - (0+(l.length+1)*1) < zs.length:=by omega
     rw[List.getElem?_eq_getElem this];exact⟨_,rfl⟩
    ·rw[if_neg (fun hc=>qg hc.2)]
     have hv:=cH o ((Zgj l++[.int .i64 (p:Int)])[o]'(by simp[ZnB];omega)) (List.getElem?_eq_getElem _)
     rw[Nat.zero_add]at hv
     rw[Mem.upd_other _ fQ.symm]
     exact⟨_,cW _ _ _ hv⟩
   ·show Mem.addAt _ b2 _ zs b2 (0+j)=some v
    have rO:=(List.getElem?_eq_some_iff.1 hj).1
    rw[ZnB,List.length_append,List.length_singleton]at rO
    unfold Mem.addAt
    rw[if_neg (by omega),Mem.upd_other _ fQ.symm]
    rw[Zq8]at hj
    exact cW _ _ _ (cH j v hj)
  ·rw[if_neg (fun e=>hi e.symm)]at hx
   obtain rfl:y=x:=Option.some.inj hx
   have mo:∀x,F i=some x→∀bq c0,F q.toNat=some (bq,c0)→x.1≠bq:=fun x h1 bq c0 h2 e=>by
    obtain⟨x1,x2⟩:=x
    simp only at e;subst e
    exact hi (h.ne _ _ _ _ _ h1 h2)
   rcases h.cell _ _ hy with⟨h1,h2,h3⟩|⟨bq,c0,h1,h2,h3,h4,h5,h6,h7,h8⟩
   ·refine .inl ⟨by simp only[if_neg hi];exact h1,h2,?_⟩
    rw[hN b i fQ (.inr hi)]
    exact fF _ _ _ h3 o8
   ·have hk:∀bq' c0',F q.toNat=some (bq',c0')→bq≠bq':=fun bq' c0' h=>mo _ h1 bq' c0' h
    have eH:bq≠b2:=by
     cases y with
     | nil=>exact absurd rfl h2
     | cons z y=>
      have:=h6 0 (.int .i64 z) rfl
      exact hb'k _ _ _ this hk
    refine .inr ⟨bq,c0,by simp only[if_neg hi];exact h1,h2,h3,?_,fun o ho=>?_,fun j v hj=>?_,h7,h8⟩
    ·rw[hN b i fQ (.inr hi)];exact fF _ _ _ h4 o8
    ·obtain⟨v,hv⟩:=h5 o ho
     exact⟨v,by rw[hN bq o eH (.inl h8)];exact fF _ _ _ hv hk⟩
    ·rw[hN bq _ eH (.inl h8)];exact fF _ _ _ (h6 j v hj) hk
 ·have key:∀j c1,F j=some (b2,c1)→j=q.toNat:=fun j c1 hj=>by
   have iU:=h.dom _ _ hj
   rcases h.cell j _ (List.getElem?_eq_getElem iU)with⟨h3,_,_⟩|⟨bq,c0,g1,g2,_,_,_,g6,_,_⟩
   ·rw[h3]at hj;cases hj
   ·rw[hj]at g1;cases g1
    cases mo:F q.toNat with
    | none=>
     exfalso
     have:∃z y,cur[j]'iU=z::y:=by
      cases hc:cur[j]'iU with
      | nil=>exact absurd hc g2
      | cons z y=>exact⟨z,y,rfl⟩
     obtain⟨z,y,pc⟩:=this
     have hv:=g6 0 (.int .i64 z) (by rw[pc];rfl)
     exact hb'k _ _ _ hv (fun bq c0 h1=>by rw[mo]at h1;cases h1) rfl
    | some x=>
     obtain⟨x1,x2⟩:=x
     by_cases eN:x1=b2
     ·subst eN;exact h.ne _ _ _ _ _ hj mo
     ·exfalso
      have:∃z y,cur[j]'iU=z::y:=by
       cases hc:cur[j]'iU with
       | nil=>exact absurd hc g2
       | cons z y=>exact⟨z,y,rfl⟩
      obtain⟨z,y,pc⟩:=this
      have hv:=g6 0 (.int .i64 z) (by rw[pc];rfl)
      exact hb'k _ _ _ hv (fun bq c0 h1 e=>by rw[mo]at h1;cases h1;exact eN e.symm) rfl
  split at h1 <;> split at h2
  ·omega
  ·simp only[Option.some.injEq,Prod.mk.injEq]at h1
   rw[←h1.1]at h2
   have:=key _ _ h2;omega
  ·simp only[Option.some.injEq,Prod.mk.injEq]at h2
   rw[←h2.1]at h1
   have:=key _ _ h1;omega
  ·exact h.ne _ _ _ _ _ h1 h2
 ·rw[ZnC]
  split at hx
  ·omega
  ·exact h.dom _ _ hx
end Go.Rx
namespace Go.Rx
open Go Go.Eng Go.RowKit
def ZwP(q:QS):T:=.node 2 q.1 q.2.1 q.2.2.1 q.2.2.2 0 0 none 0 []
def ZtW(q:QS)(c:Nat):Bool:=(ZwP q).hasB c
def QOk(q:QS):Prop:=(0≤q.1∧q.1 < 18446744073709551616)∧(0≤q.2.1∧q.2.1 < 18446744073709551616)∧(0≤q.2.2.1∧q.2.2.1 < 18446744073709551616)∧(0≤q.2.2.2∧q.2.2.2 < 18446744073709551616)
def ZxB(l:List Int)(f:Nat):Nat:=l.foldl (fun f p=>f|||2 ^ p.toNat) f
def Nf.fromL(A:Nf)(p:Int):List Int:=if p=-1 then A.first else(A.fol[p.toNat]?).getD []
def Nf.hasAt(A:Nf)(q:Int)(c:Nat):Bool:=ZtW ((A.sets[q.toNat]?).getD zQ) c
def Nf.step1(A:Nf)(c:Nat)(f:Nat)(q:Int):Nat:=if A.hasAt q c then f|||2 ^ q.toNat else f
def Nf.stepM(A:Nf)(l:List Int)(c:Nat)(f:Nat):Nat:=l.foldl (fun f p=>(A.fromL p).foldl (A.step1 c) f) f
def Nf.step(A:Nf)(l:List Int)(c:Nat):List Int:=ZwO (A.stepM l c 0)
def Nf.acc1(A:Nf)(p:Int):Bool:=if p=-1 then A.empty else(ZxB A.last 0).testBit p.toNat
def Nf.accepts(A:Nf)(l:List Int):Bool:=l.any A.acc1
def Nf.next(A:Nf)(again:Bool)(l:List Int)(c:Nat):List Int:=if again then -1::A.step l c else A.step l c
def Nf.run(A:Nf)(b:List Nat)(l:List Int):List Int:=b.foldl (fun l c=>A.step l c) l
def Nf.matches(A:Nf)(b:List Nat):Bool:=A.accepts (A.run b [-1])
inductive Nf.Reach (A:Nf):Nat→Prop
 | first {p:Nat} (h:(p:Int)∈A.first):A.Reach p
 | fol {p q:Nat} {l:List Int} (h:A.Reach p) (hl:A.fol[p]?=some l) (hq:(q:Int)∈l):A.Reach q
end Go.Rx
namespace Go.Rx
open Go Go.Eng Go.RowKit
structure Bad (t:T):Prop where
 k:t.k≠0
 no:t.check≠0
structure Says (t:T)(len:Nat)(i:Int)(e:Int):Prop where
 one:t.wrong len i=e
 rg:Rg.wrong ⟨false,false,t⟩ len i=e
 all:ZaY [⟨false,false,t⟩] len i=e
structure Asks (k:Nat)(t:T)(len:Nat)(i e:Int):Prop where
 rP:Says t len i e
 zero:k≤1→Says t len 0 e
 no:e≠0
 len:len≤513
end Go.Rx
namespace Go.Rx
open Go Go.Eng Go.RowKit
theorem Zjo{l:List Rg}{s:List Nat}:∀{c n k i to:Nat},Zct l s c n=some (k,i,to)→n≤to∧to < n+c∧ZdD s to l 0=some (k,i)
 | 0,n,k,i,to,h=>by simp[Zct]at h
 | c+1,n,k,i,to,h=>by
  simp only[Zct]at h
  cases hl:ZdD s n l 0 with
  | some p=>
   obtain⟨k',i'⟩:=p
   simp only[hl,Option.some.injEq,Prod.mk.injEq]at h
   obtain⟨rfl,rfl,rfl⟩:=h
   exact⟨by omega,by omega,hl⟩
  | none=>
   simp only[hl]at h
   have:=Zjo h
   exact⟨by omega,by omega,this.2.2⟩
theorem Zlo{r:Rg}{s:List Nat}{c n k i to:Nat}(h:Zct [r] s c n=some (k,i,to)):k=0:=by
 have:=(Zjo h).2.2
 simp only[ZdD]at this
 cases hr:r.from s to with
 | some j=>simp[hr]at this;exact this.1.symm
 | none=>simp[hr]at this
end Go.Rx
namespace Go.Rx
open Go Go.Eng Go.RowKit
set_option maxRecDepth 100000
theorem Zgk{t:T}(h:t.good=true):t.right=true∧∀x∈t.subs,x.good=true:=by
 rw[Zlk,Bool.and_eq_true,List.all_eq_true]at h;exact h
theorem Zse{t:T}(h:t.right=true):t.k=1∨t.k=2∨t.k=3∨t.k=4∨(t.k=5∧(∃x,t.subs=[x])∧0≤t.mn∧t.mn≤16∧(t.mx=-1∨(1≤t.mx∧t.mn≤t.mx∧t.mx≤16)))∨(t.k=6∧∃x,t.subs=[x]):=by
 have one:(t.subs.length == 1)=true→∃x,t.subs=[x]:=fun e=>by
  have:t.subs.length=1:=by simpa using e
  match cC:t.subs,this with
  | [x],_=>exact⟨x,rfl⟩
 unfold T.right at h
 rw[Bool.and_eq_true]at h
 have h:=h.2
 by_cases h1:t.k=1
 ·exact .inl h1
 by_cases h2:t.k=2
 ·exact .inr (.inl h2)
 by_cases h3:t.k=3
 ·exact .inr (.inr (.inl h3))
 by_cases h4:t.k=4
 ·exact .inr (.inr (.inr (.inl h4)))
 by_cases h5:t.k=5
 ·rw[if_neg h1,if_neg h2,if_neg h3,if_neg h4,if_pos h5]at h
  rw[Bool.and_eq_true,Bool.and_eq_true]at h
  obtain⟨a,b,_⟩:=h
  unfold Zdh at b
  simp at b
  exact .inr (.inr (.inr (.inr (.inl ⟨h5,one a,by omega,by omega,by omega⟩))))
 ·rw[if_neg h1,if_neg h2,if_neg h3,if_neg h4,if_neg h5,Bool.and_eq_true]at h
  exact .inr (.inr (.inr (.inr (.inr ⟨by simpa using h.1,one h.2⟩))))
mutual
def T.er:T→T
 | .node k s0 s1 s2 s3 mn mx _ _ l=>.node k s0 s1 s2 s3 mn mx none 0 (erL l)
def erL:List T→List T
 | []=>[]
 | t::l=>t.er::erL l
end
theorem Zsf:∀l:List T,erL l=l.map T.er
 | []=>rfl
 | t::l=>by simp only[erL,List.map_cons,Zsf l]
@[simp] theorem ZxG (t:T):t.er.k=t.k:=by cases t;rfl
@[simp] theorem Zxo (t:T):t.er.s0=t.s0:=by cases t;rfl
@[simp] theorem Zxp (t:T):t.er.s1=t.s1:=by cases t;rfl
@[simp] theorem Zxq (t:T):t.er.s2=t.s2:=by cases t;rfl
@[simp] theorem Zxr (t:T):t.er.s3=t.s3:=by cases t;rfl
@[simp] theorem Zxs (t:T):t.er.mn=t.mn:=by cases t;rfl
@[simp] theorem Zxt (t:T):t.er.mx=t.mx:=by cases t;rfl
@[simp] theorem Zwr (t:T):t.er.subs=t.subs.map T.er:=by cases t;simp only[T.er,T.subs,Zsf]
end Go.Rx
namespace Go.Rx
open Go Go.Eng Go.RowKit
abbrev Re:=Nat→Nat→Prop
def pow(R:Re):Nat→Re
 | 0=>fun i j=>i=j
 | n+1=>fun i j=>∃m,R i m∧pow R n m j
theorem ZpZ(R:Re):∀(a b i j:Nat),pow R (a+b) i j↔∃m,pow R a i m∧pow R b m j
 | 0,b,i,j=>by simp[pow]
 | a+1,b,i,j=>by
  rw[show a+1+b=(a+b)+1 by omega]
  constructor
  ·rintro⟨m,h1,h2⟩
   obtain⟨k,h3,h4⟩:=(ZpZ R a b m j).1 h2
   exact⟨k,⟨m,h1,h3⟩,h4⟩
  ·rintro⟨k,⟨m,h1,h3⟩,h4⟩
   exact⟨m,h1,(ZpZ R a b m j).2 ⟨k,h3,h4⟩⟩
theorem ZeR(R:Re)(n i j:Nat):pow R (n+1) i j↔∃m,pow R n i m∧R m j:=by
 rw[ZpZ R n 1];simp[pow]
mutual
def T.M(s:List Nat):T→Re
 | .node k s0 s1 s2 s3 mn mx a c l=>fun i j=>
  if k=1 then i=j else if k=2 then j=i+1∧∃b,s[i]?=some b∧(T.node k s0 s1 s2 s3 mn mx a c l).hasB b=true
  else if k=3 then MC s l i j else if k=4 then MA s l i j
  else if k=5 then ∃n:Nat,mn.toNat≤n∧(mx=-1∨n≤mx.toNat)∧pow (MH s l) n i j
  else if k=6 then MH s l i j else False
def MC(s:List Nat):List T→Re
 | []=>fun i j=>i=j
 | t::l=>fun i j=>∃m,t.M s i m∧MC s l m j
def MA(s:List Nat):List T→Re
 | []=>fun _ _=>False
 | t::l=>fun i j=>t.M s i j∨MA s l i j
def MH(s:List Nat):List T→Re
 | []=>fun i j=>i=j
 | t::_=>t.M s
end
def Zfx(back:Bool)(R:Re)(f:Nat)(j:Nat):Prop:=∃i,f.testBit i=true∧(if back then R j i else R i j)
def Ze8(s:List Nat)(back:Bool)(g:Nat→Nat)(R:Re):Prop:=∀f,f < ZbR→∀j,(g f).testBit j=true↔Zfx back R f j
theorem Zuz{back:Bool}{R Q:Re}{f j:Nat}:Zfx back (fun a b=>R a b∨Q a b) f j↔Zfx back R f j∨Zfx back Q f j:=by
 unfold Zfx
 cases back <;> constructor <;> rintro h
 ·obtain⟨i,h1,h2|h2⟩:=h
  ·exact .inl ⟨i,h1,h2⟩
  ·exact .inr ⟨i,h1,h2⟩
 ·rcases h with⟨i,h1,h2⟩|⟨i,h1,h2⟩
  ·exact⟨i,h1,.inl h2⟩
  ·exact⟨i,h1,.inr h2⟩
 ·obtain⟨i,h1,h2|h2⟩:=h
  ·exact .inl ⟨i,h1,h2⟩
  ·exact .inr ⟨i,h1,h2⟩
 ·rcases h with⟨i,h1,h2⟩|⟨i,h1,h2⟩
  ·exact⟨i,h1,.inl h2⟩
  ·exact⟨i,h1,.inr h2⟩
theorem ZnD(back:Bool)(f j:Nat):Zfx back (fun a b=>a=b) f j↔f.testBit j=true:=by
 unfold Zfx
 cases back <;> constructor
 ·rintro⟨i,h1,h2⟩;simp at h2;subst h2;exact h1
 ·intro h;exact⟨j,h,by simp⟩
 ·rintro⟨i,h1,h2⟩;simp at h2;subst h2;exact h1
 ·intro h;exact⟨j,h,by simp⟩
theorem Zq9{s:List Nat}{g h:Nat→Nat}{R Q:Re}(hg:Ze8 s false g R)(hh:Ze8 s false h Q)(bA:∀f,f < ZbR→g f < ZbR):Ze8 s false (fun f=>h (g f)) (fun i j=>∃m,R i m∧Q m j):=by
 intro f hf j
 rw[hh _ (bA f hf) j]
 unfold Zfx
 constructor
 ·rintro⟨m,h1,h2⟩
  obtain⟨i,h3,h4⟩:=(hg f hf m).1 h1
  exact⟨i,h3,m,h4,h2⟩
 ·rintro⟨i,h3,m,h4,h2⟩
  exact⟨m,(hg f hf m).2 ⟨i,h3,h4⟩,h2⟩
theorem ZoR{s:List Nat}{g h:Nat→Nat}{R Q:Re}(hg:Ze8 s true g R)(hh:Ze8 s true h Q)(bA:∀f,f < ZbR→h f < ZbR):Ze8 s true (fun f=>g (h f)) (fun i j=>∃m,R i m∧Q m j):=by
 intro f hf j
 rw[hg _ (bA f hf) j]
 unfold Zfx
 constructor
 ·rintro⟨m,h1,h2⟩
  obtain⟨i,h3,h4⟩:=(hh f hf m).1 h1
  exact⟨i,h3,m,h2,h4⟩
 ·rintro⟨i,h3,m,h4,h2⟩
  exact⟨m,(hh f hf m).2 ⟨i,h3,h2⟩,h4⟩
theorem ZnE(t:T)(back:Bool)(f:Nat):∀(s:List Nat)(i out j:Nat),(Zqq t back f s i out).testBit j=true↔out.testBit j=true∨∃p b,s[p]?=some b∧t.hasB b=true∧f.testBit (if back then i+p+1 else i+p)=true∧j=(if back then i+p else i+p+1)
 | [],i,out,j=>by simp[Zqq]
 | c::s,i,out,j=>by
  simp only[Zqq]
  rw[ZnE t back f s (i+1)]
  have h0:(Znx t back f i c out).testBit j=true↔out.testBit j=true∨(t.hasB c=true∧f.testBit (if back then i+1 else i)=true∧j=(if back then i else i+1)):=by
   unfold Znx
   by_cases h:(f.testBit (if back then i+1 else i)&&t.hasB c)=true
   ·rw[if_pos h]
    rw[Bool.and_eq_true]at h
    rw[Nat.testBit_or,Bool.or_eq_true,Nat.testBit_two_pow]
    constructor
    ·rintro(h1|h1)
     ·exact .inl h1
     ·exact .inr ⟨h.2,h.1,by simpa using(of_decide_eq_true h1).symm⟩
    ·rintro(h1|⟨_,_,h1⟩)
     ·exact .inl h1
     ·exact .inr (decide_eq_true h1.symm)
   ·rw[if_neg h]
    rw[Bool.and_eq_true]at h
    constructor
    ·exact .inl
    ·rintro(h1|⟨h1,h2,_⟩)
     ·exact h1
     ·exact absurd ⟨h2,h1⟩ h
  rw[h0]
  constructor
  ·rintro((h|⟨h1,h2,h3⟩)|⟨p,b,h1,h2,h3,h4⟩)
   ·exact .inl h
   ·exact .inr ⟨0,c,rfl,h1,by simpa using h2,by simpa using h3⟩
   ·exact .inr ⟨p+1,b,by simpa using h1,h2,by rw[show i+(p+1)=i+1+p by omega];exact h3,by rw[show i+(p+1)=i+1+p by omega];exact h4⟩
  ·rintro(h|⟨p,b,h1,h2,h3,h4⟩)
   ·exact .inl (.inl h)
   ·cases p with
    | zero=>simp at h1;subst h1;exact .inl (.inr ⟨h2,by simpa using h3,by simpa using h4⟩)
    | succ p=>exact .inr ⟨p,b,by simpa using h1,h2,by rw[show i+1+p=i+(p+1) by omega];exact h3,by rw[show i+1+p=i+(p+1) by omega];exact h4⟩
theorem Zra(s:List Nat)(back:Bool)(t:T):Ze8 s back (fun f=>Zqq t back f s 0 0) (fun i j=>j=i+1∧∃b,s[i]?=some b∧t.hasB b=true):=by
 intro f hf j
 rw[ZnE]
 unfold Zfx
 cases back with
 | false=>
  constructor
  ·rintro(h|⟨p,b,h1,h2,h3,h4⟩)
   ·simp at h
   ·simp at h3 h4;exact⟨p,h3,by simp;exact⟨h4,b,h1,h2⟩⟩
  ·rintro⟨i,h1,h2⟩
   simp at h2
   obtain⟨rfl,b,h3,h4⟩:=h2
   exact .inr ⟨i,b,h3,h4,by simpa using h1,by simp⟩
 | true=>
  constructor
  ·rintro(h|⟨p,b,h1,h2,h3,h4⟩)
   ·simp at h
   ·simp at h3 h4;subst h4;exact⟨j+1,h3,by simp;exact⟨b,h1,h2⟩⟩
  ·rintro⟨i,h1,h2⟩
   simp at h2
   obtain⟨rfl,b,h3,h4⟩:=h2
   exact .inr ⟨j,b,h3,h4,by simpa using h1,by simp⟩
theorem Zj8(back:Bool)(R:Re)(n f j:Nat):Zfx back (pow R (n+1)) f j↔∃i,Zfx back (pow R n) f i∧(if back then R j i else R i j):=by
 unfold Zfx
 cases back with
 | false=>
  simp only[Bool.false_eq_true,if_false]
  constructor
  ·rintro⟨i,h1,h2⟩
   obtain⟨m,h3,h4⟩:=(ZeR R n i j).1 h2
   exact⟨m,⟨i,h1,h3⟩,h4⟩
  ·rintro⟨m,⟨i,h1,h3⟩,h4⟩
   exact⟨i,h1,(ZeR R n i j).2 ⟨m,h3,h4⟩⟩
 | true=>
  simp only[if_true]
  constructor
  ·rintro⟨i,h1,m,h3,h4⟩
   exact⟨m,⟨i,h1,h4⟩,h3⟩
  ·rintro⟨m,⟨i,h1,h4⟩,h3⟩
   exact⟨i,h1,m,h3,h4⟩
def cnt(f:Nat):Nat:=(List.range 576).countP fun i=>f.testBit i
theorem Zs6(f:Nat):cnt f≤576:=by
 have:=List.countP_le_length (p:=fun i=>f.testBit i) (l:=List.range 576)
 simpa[cnt]using this
theorem Zj9{α:Type}{p q:α→Bool}:∀{l:List α},(∀x,p x=true→q x=true)→(∃x∈l,q x=true∧p x=false)→l.countP p < l.countP q
 | [],_,h=>by obtain⟨x,h,_⟩:=h;simp at h
 | y::l,ji,⟨x,hx,h1,h2⟩=>by
  have qh:l.countP p≤l.countP q:=List.countP_mono_left fun x _ h=>ji x h
  rw[List.countP_cons,List.countP_cons]
  by_cases e:p y=true
  ·rw[if_pos e,if_pos (ji y e)]
   have cS:x≠y:=fun e'=>by rw[e',e]at h2;cases h2
   have:=Zj9 ji ⟨x,(List.mem_cons.1 hx).resolve_left cS,h1,h2⟩
   omega
  ·rw[if_neg e]
   by_cases e2:q y=true
   ·rw[if_pos e2];omega
   ·have cS:x≠y:=fun e'=>e2 (e' ▸ h1)
    have:=Zj9 ji ⟨x,(List.mem_cons.1 hx).resolve_left cS,h1,h2⟩
    omega
theorem Zsg{f i:Nat}(hf:f < ZbR)(hi:¬i < 576):f.testBit i=false:=
 Nat.testBit_lt_two_pow (Nat.lt_of_lt_of_le hf (Nat.pow_le_pow_right (by omega) (by rw[Zny];omega)))
theorem ZvL{out x:Nat}(ho:out < ZbR)(hx:x < ZbR)(h:¬out|||x=out):cnt out < cnt (out|||x):=by
 refine Zj9 (fun i hi=>by simp[hi]) ?_
 refine Classical.byContradiction fun hn=>h (Nat.eq_of_testBit_eq fun i=>?_)
 by_cases hi:i < 576
 ·rw[Nat.testBit_or]
  cases e1:out.testBit i with
  | true=>rfl
  | false=>
   cases e2:x.testBit i with
   | false=>rfl
   | true=>exact absurd ⟨i,List.mem_range.2 hi,by rw[Nat.testBit_or,e1,e2];rfl,e1⟩ hn
 ·rw[Zsg (Nat.or_lt_two_pow ho hx) hi,Zsg ho hi]
theorem ZoS{s:List Nat}{back:Bool}{g:Nat→Nat}{R:Re}(hg:Ze8 s back g R)(bA:∀f,f < ZbR→g f < ZbR){mx:Int}{mn f0:Nat}(qi:f0 < ZbR)(jC:mn≤16):
  ∀(fuel K out last:Nat),out < ZbR→last < ZbR→mn≤K→(mx=-1∨(K:Int)≤mx)→K≤mn+cnt out→577 - cnt out≤fuel→
   (∀j,last.testBit j=true↔Zfx back (pow R K) f0 j)→(∀j,out.testBit j=true↔∃n,mn≤n∧n≤K∧Zfx back (pow R n) f0 j)→
   ∀j,(Zoj g mx fuel K out last).testBit j=true↔∃n,mn≤n∧(mx=-1∨n≤mx.toNat)∧Zfx back (pow R n) f0 j:=by
 intro fuel
 induction fuel with
 | zero=>intro K out last _ _ _ _ _ iE _ _ j;have:=Zs6 out;omega
 | succ fuel ihf=>
  intro K out last ho hl hK gV sY iE dA cU j
  have ln:=bA last hl
  have iV:∀j,(g last).testBit j=true↔Zfx back (pow R (K+1)) f0 j:=fun j=>by
   rw[hg last hl j,Zj8]
   constructor
   ·rintro⟨i,h1,h2⟩;exact⟨i,(dA i).1 h1,h2⟩
   ·rintro⟨i,h1,h2⟩;exact⟨i,(dA i).2 h1,h2⟩
  rw[Zle]
  by_cases hm:(K:Int)=mx
  ·rw[if_pos hm,cU]
   constructor
   ·rintro⟨n,h1,h2,h3⟩;exact⟨n,h1,.inr (by omega),h3⟩
   ·rintro⟨n,h1,h2,h3⟩;exact⟨n,h1,by rcases h2 with h2|h2 <;> omega,h3⟩
  ·rw[if_neg hm]
   by_cases hs:out|||g last=out
   ·rw[if_pos hs,cU]
    have eW:∀j,(g last).testBit j=true→out.testBit j=true:=fun j h=>by
     rw[←hs,Nat.testBit_or,h];simp
    have kO:∀d j,Zfx back (pow R (K+d)) f0 j→out.testBit j=true:=by
     intro d
     induction d with
     | zero=>intro j h;exact(cU j).2 ⟨K,hK,Nat.le_refl _,h⟩
     | succ d ih=>
      intro j h
      rw[show K+(d+1)=(K+d)+1 by omega,Zj8]at h
      obtain⟨i,h1,h2⟩:=h
      obtain⟨n,h3,h4,h5⟩:=(cU i).1 (ih i h1)
      have h6:Zfx back (pow R (n+1)) f0 j:=(Zj8 back R n f0 j).2 ⟨i,h5,h2⟩
      by_cases hn:n+1≤K
      ·exact(cU j).2 ⟨n+1,by omega,hn,h6⟩
      ·have:n=K:=by omega
       subst this
       exact eW j ((iV j).2 h6)
    constructor
    ·rintro⟨n,h1,h2,h3⟩;exact⟨n,h1,by rcases gV with h|h;exact .inl h;exact .inr (by omega),h3⟩
    ·rintro⟨n,h1,h2,h3⟩
     by_cases hn:n≤K
     ·exact⟨n,h1,hn,h3⟩
     ·have:=kO (n - K) j (by rw[show K+(n - K)=n by omega];exact h3)
      exact(cU j).1 this
   ·rw[if_neg hs]
    have hc:=ZvL ho ln hs
    have fC:=Zs6 (out|||g last)
    have hw:IntKind.i64.wrap ((K:Int)+1)=((K+1:Nat):Int):=by rw[Zap (by omega) (by omega)];rfl
    rw[hw]
    refine ihf (K+1) _ _ (Nat.or_lt_two_pow ho ln) ln (by omega) ?_ (by omega) (by omega) iV ?_ j
    ·rcases gV with h|h
     ·exact .inl h
     ·exact .inr (by omega)
    ·intro j
     rw[Nat.testBit_or,Bool.or_eq_true,cU,iV]
     constructor
     ·rintro(⟨n,h1,h2,h3⟩|h)
      ·exact⟨n,h1,by omega,h3⟩
      ·exact⟨K+1,by omega,Nat.le_refl _,h⟩
     ·rintro⟨n,h1,h2,h3⟩
      by_cases hn:n≤K
      ·exact .inl ⟨n,h1,hn,h3⟩
      ·have:n=K+1:=by omega
       subst this;exact .inr h3
theorem ZnF{s:List Nat}{back:Bool}{g:Nat→Nat}{R:Re}(hg:Ze8 s back g R)(bA:∀f,f < ZbR→g f < ZbR):∀(n f:Nat),f < ZbR→∀j,(ZtQ g n f).testBit j=true↔Zfx back (pow R n) f j
 | 0,f,hf,j=>by
  show f.testBit j=true↔Zfx back (fun a b=>a=b) f j
  rw[ZnD]
 | n+1,f,hf,j=>by
  show(ZtQ g n (g f)).testBit j=true↔_
  rw[ZnF hg bA n (g f) (bA f hf) j]
  unfold Zfx
  cases back with
  | false=>
   simp only[Bool.false_eq_true,if_false]
   constructor
   ·rintro⟨m,h1,h2⟩
    obtain⟨i,h3,h4⟩:=(hg f hf m).1 h1
    exact⟨i,h3,m,by simpa using h4,h2⟩
   ·rintro⟨i,h3,m,h4,h2⟩
    exact⟨m,(hg f hf m).2 ⟨i,h3,by simpa using h4⟩,h2⟩
  | true=>
   simp only[if_true]
   constructor
   ·rintro⟨m,h1,h2⟩
    obtain⟨i,h3,h4⟩:=(hg f hf m).1 h1
    exact⟨i,h3,(ZeR R n j i).2 ⟨m,h2,by simpa using h4⟩⟩
   ·rintro⟨i,h3,h4⟩
    obtain⟨m,h5,h6⟩:=(ZeR R n j i).1 h4
    exact⟨m,(hg f hf m).2 ⟨i,h3,by simpa using h6⟩,h5⟩
theorem Zrb{s:List Nat}{back:Bool}{g:Nat→Nat}{R:Re}(hg:Ze8 s back g R)(bA:∀f,f < ZbR→g f < ZbR){mn mx:Int}(h0:0≤mn)(pd:mn≤16)(gV:mx=-1∨mn≤mx):
  Ze8 s back (Zuq g mn mx) (fun i j=>∃n:Nat,mn.toNat≤n∧(mx=-1∨n≤mx.toNat)∧pow R n i j):=by
 intro f hf j
 obtain⟨k,rfl⟩:∃k:Nat,mn=k:=⟨mn.toNat,by omega⟩
 have hi:=ZnA bA k f hf
 have hb:=ZnF hg bA k f hf
 have rQ:1024 < ZbR:=Zsa (n:=10) (by omega)
 unfold Zuq
 rw[Int.toNat_natCast]
 have:=ZoS hg bA (mx:=mx) hf (show k≤16 by omega) (ZbR+1) k (ZtQ g k f) (ZtQ g k f) hi hi (Nat.le_refl _) gV (by omega) (by have:=Zs6 (ZtQ g k f);omega) hb (fun j=>by
  rw[hb]
  constructor
  ·intro h;exact⟨k,Nat.le_refl _,Nat.le_refl _,h⟩
  ·rintro⟨n,h1,h2,h3⟩;obtain rfl:n=k:=by omega
   exact h3) j
 rw[this]
 unfold Zfx
 cases back with
 | false=>
  simp only[Bool.false_eq_true,if_false]
  constructor
  ·rintro⟨n,h1,h2,i,h3,h4⟩;exact⟨i,h3,n,h1,h2,h4⟩
  ·rintro⟨i,h3,n,h1,h2,h4⟩;exact⟨n,h1,h2,i,h3,h4⟩
 | true=>
  simp only[if_true]
  constructor
  ·rintro⟨n,h1,h2,i,h3,h4⟩;exact⟨i,h3,n,h1,h2,h4⟩
  ·rintro⟨i,h3,n,h1,h2,h4⟩;exact⟨n,h1,h2,i,h3,h4⟩
section
variable {s:List Nat}
theorem M_1{t:T}(h:t.k=1)(i j:Nat):t.M s i j↔i=j:=by cases t;simp only[T.k]at h;subst h;simp[T.M]
theorem M_2{t:T}(h:t.k=2)(i j:Nat):t.M s i j↔(j=i+1∧∃b,s[i]?=some b∧t.hasB b=true):=by cases t;simp only[T.k]at h;subst h;simp[T.M]
theorem M_3{t:T}(h:t.k=3)(i j:Nat):t.M s i j↔MC s t.subs i j:=by cases t;simp only[T.k]at h;subst h;simp[T.M,T.subs]
theorem M_4{t:T}(h:t.k=4)(i j:Nat):t.M s i j↔MA s t.subs i j:=by cases t;simp only[T.k]at h;subst h;simp[T.M,T.subs]
theorem M_5{t:T}(h:t.k=5)(i j:Nat):t.M s i j↔∃n:Nat,t.mn.toNat≤n∧(t.mx=-1∨n≤t.mx.toNat)∧pow (MH s t.subs) n i j:=by cases t;simp only[T.k]at h;subst h;simp[T.M,T.subs,T.mn,T.mx]
theorem M_6{t:T}(h:t.k=6)(i j:Nat):t.M s i j↔MH s t.subs i j:=by cases t;simp only[T.k]at h;subst h;simp[T.M,T.subs]
theorem Zka(i j:Nat):MC s [] i j↔i=j:=by simp[MC]
theorem Zgl(t:T)(l:List T)(i j:Nat):MC s (t::l) i j↔∃m,t.M s i m∧MC s l m j:=by simp[MC]
theorem ZlZ(i j:Nat):MA s [] i j↔False:=by simp[MA]
theorem Zgm(t:T)(l:List T)(i j:Nat):MA s (t::l) i j↔(t.M s i j∨MA s l i j):=by simp[MA]
theorem Ze9(t:T)(l:List T):MH s (t::l)=t.M s:=by simp[MH]
theorem ZbW{back:Bool}{g h:Nat→Nat}{R Q:Re}(hg:Ze8 s back g R)(e:∀f,h f=g f)(k:∀i j,Q i j↔R i j):Ze8 s back h Q:=by
 intro f hf j
 rw[e,hg f hf j]
 unfold Zfx
 cases back <;> simp only[k]
theorem Zjp(hs:s.length≤512):∀(l:List T),(∀x∈l,Ze8 s false (x.lead s false) (x.M s))→Ze8 s false (ZfJ s false l) (MC s l)
 | [],_=>by
  intro f hf j
  have e:Zfx false (MC s []) f j↔Zfx false (fun a b=>a=b) f j:=by unfold Zfx;simp only[Zka]
  rw[e,ZnD];rw[ZfJ]
 | t::l,h=>ZbW (Zq9 (h t (by simp)) (Zjp hs l fun x hx=>h x (by simp[hx])) (Zej s false hs t)) (fun f=>by rw[ZfJ]) (fun i j=>Zgl t l i j)
theorem Zjq(hs:s.length≤512):∀(l:List T),(∀x∈l,Ze8 s true (x.lead s true) (x.M s))→Ze8 s true (Ze6 s true l) (MC s l)
 | [],_=>by
  intro f hf j
  have e:Zfx true (MC s []) f j↔Zfx true (fun a b=>a=b) f j:=by unfold Zfx;simp only[Zka]
  rw[e,ZnD];rw[Ze6]
 | t::l,h=>ZbW (ZoR (h t (by simp)) (Zjq hs l fun x hx=>h x (by simp[hx])) (Zmu s true hs l)) (fun f=>by rw[Ze6]) (fun i j=>Zgl t l i j)
theorem ZnG{back:Bool}(hs:s.length≤512):∀(l:List T),(∀x∈l,Ze8 s back (x.lead s back) (x.M s))→∀f,f < ZbR→∀out j,(ZoN s back l f out).testBit j=true↔(out.testBit j=true∨Zfx back (MA s l) f j)
 | [],_,f,hf,out,j=>by
  rw[ZpS]
  constructor
  ·exact .inl
  ·rintro(h|⟨i,_,h⟩)
   ·exact h
   ·cases back <;> simp[ZlZ]at h
 | t::l,h,f,hf,out,j=>by
  rw[Znz,ZnG hs l (fun x hx=>h x (by simp[hx])) f hf,Nat.testBit_or,Bool.or_eq_true,h t (by simp) f hf j]
  have e:Zfx back (MA s (t::l)) f j↔Zfx back (fun a b=>t.M s a b∨MA s l a b) f j:=by unfold Zfx;cases back <;> simp only[Zgm]
  rw[e,Zuz,or_assoc]
theorem ZnH(back:Bool)(x:T):ZeJ s back [x]=x.lead s back:=by
 funext f;rw[ZeJ]
theorem Zlp(back:Bool)(hs:s.length≤512):∀t:T,t.good=true→Ze8 s back (t.lead s back) (t.M s)
 | t,hg=>by
  obtain⟨hr,cC⟩:=Zgk hg
  have ih:∀x∈t.subs,Ze8 s back (x.lead s back) (x.M s):=fun x hx=>Zlp back hs x (cC x hx)
  rcases Zse hr with h|h|h|h|⟨h,⟨x,hx⟩,h0,pd,gV⟩|⟨h,x,hx⟩
  ·intro f hf j
   have e:Zfx back (t.M s) f j↔Zfx back (fun a b=>a=b) f j:=by unfold Zfx;cases back <;> simp only[M_1 h]
   rw[e,ZnD,Zur h]
  ·exact ZbW (Zra s back t) (fun f=>Zus h f) (fun i j=>M_2 h i j)
  ·cases back with
   | false=>exact ZbW (Zjp hs t.subs ih) (fun f=>by rw[Zs0 h];rfl) (fun i j=>M_3 h i j)
   | true=>exact ZbW (Zjq hs t.subs ih) (fun f=>by rw[Zs0 h];rfl) (fun i j=>M_3 h i j)
  ·intro f hf j
   rw[Zut h,ZnG hs t.subs ih f hf]
   have e:Zfx back (t.M s) f j↔Zfx back (MA s t.subs) f j:=by unfold Zfx;cases back <;> simp only[M_4 h]
   rw[e];simp
  ·have hx':x∈t.subs:=by rw[hx];simp
   have hl:=Zrb (mn:=t.mn) (mx:=t.mx) (ih x hx') (Zej s back hs x) h0 pd (by omega)
   exact ZbW hl (fun f=>by rw[Zuu h,hx,ZnH]) (fun i j=>by rw[M_5 h,hx,Ze9])
  ·have hx':x∈t.subs:=by rw[hx];simp
   exact ZbW (ih x hx') (fun f=>by rw[Zuv h,hx,ZnH]) (fun i j=>by rw[M_6 h,hx,Ze9])
termination_by t=>SizeOf.sizeOf t
decreasing_by exact Zeh hx
end
def Fwd(R:Re):Prop:=∀i j,R i j→i≤j
def Sh(s s':List Nat)(R R':Re):Prop:=∀i j i',R i j→(∀p,i+p < j→s[i+p]?=s'[i'+p]?)→R' i' (i'+(j - i))
def Len(s:List Nat)(R:Re):Prop:=∀i j,R i j→i≤s.length→j≤s.length
structure Nice (s s':List Nat)(R R':Re):Prop where
 fwd:Fwd R
 sh:Sh s s' R R'
 len:Len s R
theorem Zp0(s s':List Nat):Nice s s' (fun i j=>i=j) (fun i j=>i=j):=
 ⟨fun i j h=>by omega,fun i j i' h _=>by omega,fun i j h k=>by omega⟩
theorem Zp1{s s':List Nat}{R R' Q Q':Re}(h:Nice s s' R R')(k:Nice s s' Q Q'):Nice s s' (fun i j=>∃m,R i m∧Q m j) (fun i j=>∃m,R' i m∧Q' m j):=by
 refine⟨fun i j ⟨m,h1,h2⟩=>Nat.le_trans (h.fwd _ _ h1) (k.fwd _ _ h2),fun i j i' ⟨m,h1,h2⟩ hs=>?_,fun i j ⟨m,h1,h2⟩ hi=>k.len _ _ h2 (h.len _ _ h1 hi)⟩
 have a:=h.fwd _ _ h1
 have b:=k.fwd _ _ h2
 refine⟨i'+(m - i),h.sh _ _ _ h1 fun p hp=>hs p (by omega),?_⟩
 have:=k.sh _ _ (i'+(m - i)) h2 fun p hp=>by
  have:=hs ((m - i)+p) (by omega)
  rw[show i+(m - i+p)=m+p by omega,show i'+(m - i+p)=i'+(m - i)+p by omega]at this
  exact this
 rw[show i'+(m - i)+(j - m)=i'+(j - i) by omega]at this
 exact this
theorem Zkb{s s':List Nat}{R R':Re}(h:Nice s s' R R'):∀n,Nice s s' (pow R n) (pow R' n)
 | 0=>Zp0 s s'
 | n+1=>Zp1 h (Zkb h n)
theorem Zc0{s s':List Nat}{R R' Q Q':Re}(h:Nice s s' R R')(e:∀i j,Q i j↔R i j)(e':∀i j,Q' i j↔R' i j):Nice s s' Q Q':=
 ⟨fun i j k=>h.fwd i j ((e i j).1 k),fun i j i' k hs=>(e' _ _).2 (h.sh i j i' ((e i j).1 k) hs),fun i j k hi=>h.len i j ((e i j).1 k) hi⟩
theorem Zws{s s':List Nat}:∀(l:List T),(∀x∈l,Nice s s' (x.M s) (x.M s'))→Nice s s' (MC s l) (MC s' l)
 | [],_=>Zc0 (Zp0 s s') (fun i j=>Zka i j) (fun i j=>Zka i j)
 | t::l,h=>Zc0 (Zp1 (h t (by simp)) (Zws l fun x hx=>h x (by simp[hx]))) (fun i j=>Zgl t l i j) (fun i j=>Zgl t l i j)
theorem Zwt{s s':List Nat}:∀(l:List T),(∀x∈l,Nice s s' (x.M s) (x.M s'))→Nice s s' (MA s l) (MA s' l)
 | [],_=>⟨fun i j h=>by rw[ZlZ]at h;exact h.elim,fun i j i' h=>by rw[ZlZ]at h;exact h.elim,fun i j h=>by rw[ZlZ]at h;exact h.elim⟩
 | t::l,h=>by
  have h1:=h t (by simp)
  have h2:=Zwt l fun x hx=>h x (by simp[hx])
  refine⟨fun i j k=>?_,fun i j i' k hs=>?_,fun i j k hi=>?_⟩
  ·rcases(Zgm t l i j).1 k with k|k
   ·exact h1.fwd _ _ k
   ·exact h2.fwd _ _ k
  ·refine(Zgm t l _ _).2 ?_
   rcases(Zgm t l i j).1 k with k|k
   ·exact .inl (h1.sh _ _ _ k hs)
   ·exact .inr (h2.sh _ _ _ k hs)
  ·rcases(Zgm t l i j).1 k with k|k
   ·exact h1.len _ _ k hi
   ·exact h2.len _ _ k hi
theorem ZuA(s s':List Nat):∀t:T,t.good=true→Nice s s' (t.M s) (t.M s')
 | t,hg=>by
  obtain⟨hr,cC⟩:=Zgk hg
  have ih:∀x∈t.subs,Nice s s' (x.M s) (x.M s'):=fun x hx=>ZuA s s' x (cC x hx)
  rcases Zse hr with h|h|h|h|⟨h,⟨x,hx⟩,h0,pd,gV⟩|⟨h,x,hx⟩
  ·exact Zc0 (Zp0 s s') (fun i j=>M_1 h i j) (fun i j=>M_1 h i j)
  ·refine⟨fun i j k=>?_,fun i j i' k hs=>?_,fun i j k hi=>?_⟩
   ·have:=(M_2 h i j).1 k;omega
   ·obtain⟨rfl,b,h1,h2⟩:=(M_2 h i j).1 k
    refine(M_2 h _ _).2 ⟨by omega,b,?_,h2⟩
    have:=hs 0 (by omega)
    simp only[Nat.add_zero]at this
    rw[←this];exact h1
   ·obtain⟨rfl,b,h1,h2⟩:=(M_2 h i j).1 k
    have:=(List.getElem?_eq_some_iff.1 h1).1
    omega
  ·exact Zc0 (Zws t.subs ih) (fun i j=>M_3 h i j) (fun i j=>M_3 h i j)
  ·exact Zc0 (Zwt t.subs ih) (fun i j=>M_4 h i j) (fun i j=>M_4 h i j)
  ·have hn:=ih x (by rw[hx];simp)
   refine⟨fun i j k=>?_,fun i j i' k hs=>?_,fun i j k hi=>?_⟩
   ·obtain⟨n,_,_,h3⟩:=(M_5 h i j).1 k
    rw[hx,Ze9]at h3
    exact(Zkb hn n).fwd _ _ h3
   ·obtain⟨n,h1,h2,h3⟩:=(M_5 h i j).1 k
    rw[hx,Ze9]at h3
    refine(M_5 h _ _).2 ⟨n,h1,h2,?_⟩
    rw[hx,Ze9]
    exact(Zkb hn n).sh _ _ _ h3 hs
   ·obtain⟨n,_,_,h3⟩:=(M_5 h i j).1 k
    rw[hx,Ze9]at h3
    exact(Zkb hn n).len _ _ h3 hi
  ·have hn:=ih x (by rw[hx];simp)
   exact Zc0 hn (fun i j=>by rw[M_6 h,hx,Ze9]) (fun i j=>by rw[M_6 h,hx,Ze9])
termination_by t=>SizeOf.sizeOf t
decreasing_by exact Zeh hx
theorem Zxf{t:T}(hg:t.good=true){s:List Nat}{i j:Nat}(h:t.M s i j):i≤j:=(ZuA s s t hg).fwd _ _ h
theorem ZnI(n i:Nat):(2 ^ n).testBit i=true↔n=i:=by rw[Nat.testBit_two_pow];simp
theorem Zgn{t:T}(hg:t.good=true){s:List Nat}(hs:s.length≤512){i j:Nat}(hj:j < 576):(t.lead s true (2 ^ j)).testBit i=true↔t.M s i j:=by
 rw[Zlp true hs t hg _ (Zsa hj) i]
 unfold Zfx
 simp only[ZnI,if_true]
 constructor
 ·rintro⟨k,rfl,h⟩;exact h
 ·intro h;exact⟨j,rfl,h⟩
end Go.Rx
namespace Go.Rx
open Go Go.Eng Go.RowKit
set_option maxRecDepth 100000
theorem Zhc(p:Nat→Bool):∀(n a:Nat),match(List.range' a n).filter p with
  | []=>∀i,a≤i→i < a+n→p i=false
  | x::_=>p x=true∧a≤x∧x < a+n∧∀i,a≤i→i < x→p i=false
 | 0,a=>by simp;omega
 | n+1,a=>by
  have ih:=Zhc p n (a+1)
  rw[List.range'_succ,List.filter_cons]
  by_cases h:p a=true
  ·rw[if_pos h];exact⟨h,Nat.le_refl _,by omega,fun i h1 h2=>by omega⟩
  ·rw[if_neg h]
   have h':p a=false:=by simpa using h
   cases hf:(List.range' (a+1) n).filter p with
   | nil=>
    rw[hf]at ih
    intro i h1 h2
    by_cases e:i=a
    ·subst e;exact h'
    ·exact ih i (by omega) (by omega)
   | cons x l=>
    rw[hf]at ih
    obtain⟨h1,h2,h3,h4⟩:=ih
    refine⟨h1,by omega,by omega,fun i h5 h6=>?_⟩
    by_cases e:i=a
    ·subst e;exact h'
    ·exact h4 i (by omega) h6
theorem Zlq(f:Nat):match Zcs f with
  | []=>∀i,i < 513→f.testBit i=false
  | x::_=>f.testBit x=true∧x < 513∧∀i,i < x→f.testBit i=false:=by
 have h:=Zhc (fun i=>f.testBit i) 513 0
 unfold Zcs
 rw[List.range_eq_range']
 cases hf:(List.range' 0 513).filter fun i=>f.testBit i with
 | nil=>rw[hf]at h;exact fun i hi=>h i (by omega) (by omega)
 | cons x l=>rw[hf]at h;exact⟨h.1,by have:=h.2.2.1;omega,fun i hi=>h.2.2.2 i (by omega) hi⟩
def Beg(r:Rg)(s:List Nat)(n i:Nat):Prop:=r.t.M s i n∧(i=0∨r.bg=false)
def Zrc(r:Rg)(s:List Nat)(n:Nat):Prop:=r.en=false∨n=s.length
theorem Zrd{r:Rg}(hg:r.t.good=true){s:List Nat}(hs:s.length≤512){n:Nat}(hn:n≤s.length){i:Nat}(h:r.from s n=some i):Zrc r s n∧Beg r s n i∧∀j,j < i→¬Beg r s n j:=by
 unfold Rg.from at h
 have kP:n < 576:=by omega
 split at h
 ·cases h
 ·rename_i he
  have ho:Zrc r s n:=by
   unfold Zrc
   cases rR:r.en with
   | false=>exact .inl rfl
   | true=>
    right
    rw[rR]at he
    simp at he
    omega
  refine⟨ho,?_⟩
  split at h
  ·rename_i hb
   split at h
   ·rename_i h0
    cases h
    exact⟨⟨(Zgn hg hs kP).1 h0,.inl rfl⟩,fun j hj=>by omega⟩
   ·cases h
  ·rename_i hb
   have hb':r.bg=false:=by simpa using hb
   have hf:=Zlq (r.t.lead s true (2 ^ n))
   cases hl:Zcs (r.t.lead s true (2 ^ n))with
   | nil=>rw[hl]at h;simp[Zlg]at h
   | cons x l=>
    rw[hl]at h hf
    simp only[Zlg]at h
    split at h
    ·cases h
    ·cases h
     exact⟨⟨(Zgn hg hs kP).1 hf.1,.inr hb'⟩,fun j hj k=>by
      have:=hf.2.2 j hj
      rw[(Zgn hg hs kP).2 k.1]at this;cases this⟩
theorem Zre{r:Rg}(hg:r.t.good=true){s:List Nat}(hs:s.length≤512){n:Nat}(hn:n≤s.length)(h:r.from s n=none)(ho:Zrc r s n):∀i,¬Beg r s n i:=by
 intro i hi
 have kP:n < 576:=by omega
 unfold Rg.from at h
 have he:¬(r.en&&decide ((n:Int) < s.length))=true:=by
  unfold Zrc at ho
  rcases ho with ho|ho
  ·rw[ho];simp
  ·simp;omega
 rw[if_neg he]at h
 split at h
 ·rename_i hb
  have h0:i=0:=by
   rcases hi.2 with h|h
   ·exact h
   ·rw[hb]at h;cases h
  subst h0
  rw[if_pos ((Zgn hg hs kP).2 hi.1)]at h;cases h
 ·have hf:=Zlq (r.t.lead s true (2 ^ n))
  have eW:=Zxf hg hi.1
  cases hl:Zcs (r.t.lead s true (2 ^ n))with
  | nil=>
   rw[hl]at hf
   have:=hf i (by omega)
   rw[(Zgn hg hs kP).2 hi.1]at this;cases this
  | cons x l=>
   rw[hl]at h hf
   simp only[Zlg]at h
   split at h
   ·rename_i hx
    have:=hf.2.2 i (by omega)
    rw[(Zgn hg hs kP).2 hi.1]at this;cases this
   ·cases h
end Go.Rx
namespace Go.Rx
open Go Go.Eng Go.RowKit
set_option maxRecDepth 100000
end Go.Rx
namespace Go.Rx
open Go Go.Eng Go.RowKit
set_option maxRecDepth 100000
end Go.Rx
namespace Go.Rx
open Go Go.Eng Go.RowKit
set_option maxRecDepth 100000
theorem Zrf(s:List Nat)(l r:List T)(i j:Nat):MA s (l++r) i j↔MA s l i j∨MA s r i j:=by
 induction l with
 | nil=>simp[ZlZ]
 | cons t l ih=>rw[List.cons_append,Zgm,Zgm,ih];exact or_assoc.symm
theorem Zrg(s:List Nat)(l r:List T):∀i j,MC s (l++r) i j↔∃m,MC s l i m∧MC s r m j:=by
 induction l with
 | nil=>intro i j;simp[Zka]
 | cons t l ih=>
  intro i j
  rw[List.cons_append,Zgl]
  simp only[ih,Zgl]
  constructor
  ·rintro⟨a,h1,b,h2,h3⟩;exact⟨b,⟨a,h1,h2⟩,h3⟩
  ·rintro⟨b,⟨a,h1,h2⟩,h3⟩;exact⟨a,h1,b,h2,h3⟩
end Go.Rx
namespace Go.Rx
open Go Go.Eng Go.RowKit
set_option maxRecDepth 100000
theorem Zp2{R:Re}(hf:Fwd R):∀c i j,pow R (c+1) i j→j < i+(c+1)→pow R c i j
 | 0,i,j,⟨m,h1,h2⟩,hj=>by
  have h2:m=j:=h2
  subst h2
  have:=hf _ _ h1
  show i=m
  omega
 | c+1,i,j,⟨m,h1,h2⟩,hj=>by
  by_cases e:m=i
  ·subst e;exact h2
  ·have:=hf _ _ h1
   exact⟨m,h1,Zp2 hf c m j h2 (by omega)⟩
theorem ZnJ{R:Re}(hf:Fwd R){B i j:Nat}(hj:j≤i+B):∀d,pow R (B+d) i j→pow R B i j
 | 0,h=>h
 | d+1,h=>ZnJ hf hj d (Zp2 hf (B+d) i j h (by omega))
theorem ZoT{l:List Value}{i:Nat}{v:Value}(h:i < l.length):Zaj l i [v]=l.set i v:=by
 refine List.ext_getElem? fun j=>?_
 unfold Zaj
 simp only[List.length_cons,List.length_nil]
 rw[List.getElem?_set]
 by_cases h1:j < i
 ·rw[List.append_assoc,List.getElem?_append_left (by rw[List.length_take];omega),List.getElem?_take,if_pos h1,if_neg (by omega)]
 ·rw[List.append_assoc,List.getElem?_append_right (by rw[List.length_take];omega),List.length_take,Nat.min_eq_left (by omega)]
  by_cases h2:j=i
  ·subst h2;simp[h]
  ·rw[List.getElem?_append_right (by simp;omega),if_neg (by omega),List.getElem?_drop]
   congr 1
   simp;omega
end Go.Rx
namespace Go.Rx
open Go Go.Eng Go.RowKit
set_option maxRecDepth 100000
def Zsh(q:QS)(c:Nat):Int:=if ZtW q c then 1 else 0
def ZaP(q:QS):List Value:=(List.range 256).map fun c=>Value.int .i64 (Zsh q c)
theorem Zau(q:QS):(ZaP q).length=256:=by simp[ZaP]
theorem Zkc(q:QS){c:Nat}(h:c < 256):(ZaP q)[c]?=some (.int .i64 (Zsh q c)):=by simp[ZaP,h]
theorem Zh7(q:QS):∀u∈ZaP q,u.oneCell'=true:=by
 intro u hu
 obtain⟨c,_,rfl⟩:=List.mem_map.1 hu
 rfl
def Zhd(q:QS)(j:Nat):Int:=if j=0 then q.1 else if j=1 then q.2.1 else if j=2 then q.2.2.1 else q.2.2.2
theorem ZnK(q:QS)(c:Nat):ZtW q c=(Zhd q (c / 64)).toNat.testBit (c % 64):=rfl
theorem Zmw{q:QS}(h:QOk q)(j:Nat):0≤Zhd q j∧Zhd q j < 18446744073709551616:=by
 obtain⟨h0,h1,h2,h3⟩:=h
 unfold Zhd
 split
 ·exact h0
 ·split
  ·exact h1
  ·split
   ·exact h2
   ·exact h3
theorem ZuB(n i:Nat):n / 2 ^ i % 2=if n.testBit i then 1 else 0:=by
 rw[Nat.testBit_eq_decide_div_mod_eq]
 have:=Nat.mod_two_eq_zero_or_one (n / 2 ^ i)
 by_cases h:n / 2 ^ i % 2=1
 ·simp[h]
 ·have h0:n / 2 ^ i % 2=0:=by omega
  simp[h0]
theorem ZvM{q r:QS}(hq:QOk q)(hr:QOk r)(h:∀c,c < 256→ZtW q c=ZtW r c):q=r:=by
 have key:∀j,j < 4→Zhd q j=Zhd r j:=fun j hj=>by
  have a:=Zmw hq j
  have b:=Zmw hr j
  have e:(Zhd q j).toNat=(Zhd r j).toNat:=by
   apply Nat.eq_of_testBit_eq
   intro i
   by_cases hi:i < 64
   ·have:=h (64*j+i) (by omega)
    rw[ZnK,ZnK,show(64*j+i) / 64=j by omega,show(64*j+i) % 64=i by omega]at this
    exact this
   ·have p:2 ^ 64≤2 ^ i:=Nat.pow_le_pow_right (by omega) (by omega)
    rw[Nat.testBit_lt_two_pow (by omega),Nat.testBit_lt_two_pow (by omega)]
  omega
 obtain⟨q0,q1,q2,q3⟩:=q
 obtain⟨r0,r1,r2,r3⟩:=r
 have h0:=key 0 (by omega)
 have h1:=key 1 (by omega)
 have h2:=key 2 (by omega)
 have h3:=key 3 (by omega)
 simp only[Zhd]at h0 h1 h2 h3
 simp at h0 h1 h2 h3
 rw[h0,h1,h2,h3]
theorem ZoU{q r:QS}(hq:QOk q)(hr:QOk r)(h:ZaP q=ZaP r):q=r:=by
 refine ZvM hq hr fun c hc=>?_
 have h1:=Zkc q hc
 rw[h,Zkc r hc]at h1
 simp only[Option.some.injEq,Value.int.injEq,true_and,Zsh]at h1
 cases h2:ZtW q c <;> cases h3:ZtW r c <;> rw[h2,h3]at h1 <;> simp at h1 ⊢
end Go.Rx
namespace Go.Rx
open Go Go.Eng Go.RowKit
set_option maxRecDepth 100000
def T.q(t:T):QS:=(t.s0,t.s1,t.s2,t.s3)
def rcs(k:Int)(q:QS)(mn mx:Int)(a:Option Addr)(n c:Nat):List Value:=.int .i64 k::(ZaP q++[.int .i64 mn,.int .i64 mx,.slice a n c])
theorem Zhe(k:Int)(q:QS)(mn mx:Int)(a:Option Addr)(n c:Nat):(rcs k q mn mx a n c).length=260:=by simp[rcs,Zau]
theorem Zmx(k:Int)(q:QS)(mn mx:Int)(a:Option Addr)(n c:Nat):(rcs k q mn mx a n c)[0]?=some (.int .i64 k):=rfl
theorem ZuC(k:Int)(q:QS)(mn mx:Int)(a:Option Addr)(n c:Nat){j:Nat}(h:j < 256):(rcs k q mn mx a n c)[1+j]?=some (.int .i64 (Zsh q j)):=by
 rw[rcs,Nat.add_comm,List.getElem?_cons_succ,List.getElem?_append_left (by rw[Zau];exact h),Zkc q h]
theorem ZvN(k:Int)(q:QS)(mn mx:Int)(a:Option Addr)(n c:Nat):(rcs k q mn mx a n c)[257]?=some (.int .i64 mn):=by
 rw[rcs,List.getElem?_cons_succ,List.getElem?_append_right (by rw[Zau];omega),Zau];rfl
theorem ZvO(k:Int)(q:QS)(mn mx:Int)(a:Option Addr)(n c:Nat):(rcs k q mn mx a n c)[258]?=some (.int .i64 mx):=by
 rw[rcs,List.getElem?_cons_succ,List.getElem?_append_right (by rw[Zau];omega),Zau];rfl
theorem ZvP(k:Int)(q:QS)(mn mx:Int)(a:Option Addr)(n c:Nat):(rcs k q mn mx a n c)[259]?=some (.slice a n c):=by
 rw[rcs,List.getElem?_cons_succ,List.getElem?_append_right (by rw[Zau];omega),Zau];rfl
theorem Zp3(k:Int)(q:QS)(mn mx:Int)(a:Option Addr)(n c:Nat):((rcs k q mn mx a n c).drop 1).take 256=ZaP q:=by
 rw[rcs,List.drop_succ_cons,List.drop_zero,List.take_left' (Zau q)]
theorem Zsi(k:Int)(q:QS)(mn mx:Int)(a:Option Addr)(n c:Nat):∀u∈rcs k q mn mx a n c,u.oneCell'=true:=by
 intro u hu
 unfold rcs at hu
 rcases List.mem_cons.1 hu with rfl|hu
 ·rfl
 ·rcases List.mem_append.1 hu with hu|hu
  ·exact Zh7 q u hu
  ·simp only[List.mem_cons,List.not_mem_nil,or_false]at hu
   rcases hu with rfl|rfl|rfl <;> rfl
mutual
def RefT(m:Mem):T→List Value→Prop
 | .node k s0 s1 s2 s3 mn mx _ _ l,cs=>OkN k s0 s1 s2 s3 mn mx∧l.length≤1000000∧∃a c css,cs=rcs k (s0,s1,s2,s3) mn mx a l.length c∧rowRd m a css.flatten∧RefAt m l css
def RefAt(m:Mem):List T→List (List Value)→Prop
 | [],css=>css=[]
 | t::l,css=>∃cs r,css=cs::r∧RefT m t cs∧RefAt m l r
end
theorem ZbO{m:Mem}{t:T}{cs:List Value}:RefT m t cs↔(OkN t.k t.s0 t.s1 t.s2 t.s3 t.mn t.mx∧t.subs.length≤1000000∧∃a c css,cs=rcs t.k t.q t.mn t.mx a t.subs.length c∧rowRd m a css.flatten∧RefAt m t.subs css):=by
 cases t;simp only[RefT,T.k,T.s0,T.s1,T.s2,T.s3,T.mn,T.mx,T.subs,T.q]
theorem ZuD{t:T}(h:OkN t.k t.s0 t.s1 t.s2 t.s3 t.mn t.mx):QOk t.q:=⟨h.s0,h.s1,h.s2,h.s3⟩
theorem RefT.len{m:Mem}{t:T}{cs:List Value}(h:RefT m t cs):cs.length=260:=by
 obtain⟨_,_,a,c,css,rfl,_⟩:=ZbO.1 h
 exact Zhe _ _ _ _ _ _ _
theorem RefT.one{m:Mem}{t:T}{cs:List Value}(h:RefT m t cs):∀u∈cs,u.oneCell'=true:=by
 obtain⟨_,_,a,c,css,rfl,_⟩:=ZbO.1 h
 exact Zsi _ _ _ _ _ _ _
theorem RefAt.len{m:Mem}:∀{l:List T} {css:List (List Value)},RefAt m l css→css.length=l.length
 | [],css,h=>by simp only[RefAt]at h;rw[h];rfl
 | t::l,css,h=>by
  simp only[RefAt]at h
  obtain⟨cs,r,rfl,_,h2⟩:=h
  simp[h2.len]
theorem RefAt.get{m:Mem}:∀{l:List T} {css:List (List Value)} {i:Nat} {t:T},RefAt m l css→l[i]?=some t→∃cs,css[i]?=some cs∧RefT m t cs
 | [],css,i,t,h,hi=>by simp at hi
 | t::l,css,i,u,h,hi=>by
  simp only[RefAt]at h
  obtain⟨cs,r,rfl,h1,h2⟩:=h
  cases i with
  | zero=>simp at hi;subst hi;exact⟨cs,rfl,h1⟩
  | succ i=>simpa using h2.get (i:=i) (by simpa using hi)
theorem RefAt.all{m:Mem}:∀{l:List T} {css:List (List Value)},RefAt m l css→∀cs∈css,cs.length=260
 | [],css,h,cs,hc=>by simp only[RefAt]at h;rw[h]at hc;cases hc
 | t::l,css,h,cs,hc=>by
  simp only[RefAt]at h
  obtain⟨cs',r,rfl,h1,h2⟩:=h
  rcases List.mem_cons.1 hc with rfl|hc
  ·exact h1.len
  ·exact h2.all cs hc
theorem RefAt.snoc{m:Mem}:∀{l:List T} {css:List (List Value)} {t:T} {cs:List Value},RefAt m l css→RefT m t cs→RefAt m (l++[t]) (css++[cs])
 | [],css,t,cs,h,h1=>by
  simp only[RefAt]at h
  subst h
  simp only[List.nil_append,RefAt]
  exact⟨cs,[],rfl,h1,rfl⟩
 | x::l,css,t,cs,h,h1=>by
  simp only[RefAt]at h
  obtain⟨cs',r,rfl,h2,h3⟩:=h
  simp only[List.cons_append,RefAt]
  exact⟨cs',r++[cs],rfl,h2,h3.snoc h1⟩
mutual
theorem RefT.mono{m m':Mem}(k:m.le m'):∀{t:T} {cs:List Value},RefT m t cs→RefT m' t cs
 | .node _ _ _ _ _ _ _ _ _ l,cs,h=>by
  simp only[RefT]at h ⊢
  obtain⟨h1,h2,a,c,css,h3,h4,h5⟩:=h
  exact⟨h1,h2,a,c,css,h3,h4.mono k,RefAt.mono k h5⟩
theorem RefAt.mono{m m':Mem}(k:m.le m'):∀{l:List T} {css:List (List Value)},RefAt m l css→RefAt m' l css
 | [],css,h=>by simpa only[RefAt]using h
 | t::l,css,h=>by
  simp only[RefAt]at h ⊢
  obtain⟨cs,r,e,h1,h2⟩:=h
  exact⟨cs,r,e,RefT.mono k h1,RefAt.mono k h2⟩
end
theorem Zp4{css:List (List Value)}(h:∀cs∈css,cs.length=260):css.flatten.length=css.length*260:=by
 induction css with
 | nil=>rfl
 | cons cs r ih=>
  rw[List.flatten_cons,List.length_append,h cs (by simp),ih fun x hx=>h x (by simp[hx]),List.length_cons];omega
theorem ZuE{css:List (List Value)}(h:∀cs∈css,cs.length=260){i:Nat}{cs:List Value}(hi:css[i]?=some cs){j:Nat}{v:Value}(hv:cs[j]?=some v):css.flatten[i*260+j]?=some v:=by
 induction css generalizing i with
 | nil=>simp at hi
 | cons c r ih=>
  have hj:j < 260:=by have:=(List.getElem?_eq_some_iff.1 hv).1;rw[h cs (List.mem_of_getElem? hi)]at this;exact this
  have hc:=h c (by simp)
  rw[List.flatten_cons]
  cases i with
  | zero=>
   simp at hi;subst hi
   rw[Nat.zero_mul,Nat.zero_add,List.getElem?_append_left (by omega)];exact hv
  | succ i=>
   rw[List.getElem?_append_right (by omega),hc,show(i+1)*260+j - 260=i*260+j by omega]
   exact ih (fun x hx=>h x (by simp[hx])) (by simpa using hi)
theorem Zhf{m:Mem}{a:Option Addr}{l:List T}{css:List (List Value)}(hr:rowRd m a css.flatten)(h:RefAt m l css){i:Nat}{t:T}(hi:l[i]?=some t):∃b o cs,a=some ⟨b,o,none⟩∧m.reads b (o+i*260) cs∧RefT m t cs:=by
 obtain⟨cs,h1,h2⟩:=h.get hi
 rcases hr with hr|⟨b,o,e,hr⟩
 ·have:=Zp4 h.all
  rw[hr]at this
  have:=(List.getElem?_eq_some_iff.1 h1).1
  simp at *;omega
 ·exact⟨b,o,cs,e,fun j v hv=>by have:=hr _ v (ZuE h.all h1 hv);rwa [←Nat.add_assoc]at this,h2⟩
mutual
def RepW(m:Mem):T→Prop
 | .node k s0 s1 s2 s3 mn mx a _ l=>l.length≤9223372036854775807∧(l=[]∨∃b o,a=some ⟨b,o,none⟩∧RepWAt m b o l)∧OkN k s0 s1 s2 s3 mn mx
def RepWAt(m:Mem)(b:Nat):Nat→List T→Prop
 | _,[]=>True
 | o,t::l=>m.reads b o t.cs∧RepW m t∧RepWAt m b (o+8) l
end
theorem Zmy{m:Mem}{t:T}:RepW m t↔(t.subs.length≤9223372036854775807∧(t.subs=[]∨∃b o,t.a=some ⟨b,o,none⟩∧RepWAt m b o t.subs)∧OkN t.k t.s0 t.s1 t.s2 t.s3 t.mn t.mx):=by
 cases t;simp only[RepW,T.k,T.s0,T.s1,T.s2,T.s3,T.mn,T.mx,T.subs,T.a]
theorem RepWAt.get{m:Mem}{b:Nat}:∀{l:List T} {o i:Nat} {t:T},RepWAt m b o l→l[i]?=some t→m.reads b (o+i*8) t.cs∧RepW m t
 | [],o,i,t,h,hi=>by simp at hi
 | x::l,o,0,t,h,hi=>by
  simp at hi;subst hi
  simp only[RepWAt]at h
  simpa using⟨h.1,h.2.1⟩
 | x::l,o,i+1,t,h,hi=>by
  simp only[RepWAt]at h
  have:=h.2.2.get (i:=i) (by simpa using hi)
  rw[show o+(i+1)*8=o+8+i*8 by omega]
  exact this
theorem ZnL{m:Mem}{b:Nat}:∀{l:List T} {o:Nat},(∀(i:Nat)(t:T),l[i]?=some t→m.reads b (o+i*8) t.cs∧RepW m t)→RepWAt m b o l
 | [],o,h=>by simp only[RepWAt]
 | x::l,o,h=>by
  simp only[RepWAt]
  have h0:=h 0 x rfl
  rw[Nat.zero_mul,Nat.add_zero]at h0
  refine⟨h0.1,h0.2,ZnL fun i t hi=>?_⟩
  have:=h (i+1) t (by simpa using hi)
  rwa [show o+(i+1)*8=o+8+i*8 by omega]at this
mutual
theorem RepW.mono{m m':Mem}(h:m.le m'):∀t:T,RepW m t→RepW m' t
 | .node _ _ _ _ _ _ _ a _ l,hr=>by
  simp only[RepW]at *
  exact⟨hr.1,hr.2.1.imp id fun⟨b,o,e,k⟩=>⟨b,o,e,RepWAt.mono h l o k⟩,hr.2.2⟩
theorem RepWAt.mono{m m':Mem}(h:m.le m'){b:Nat}:∀(l:List T)(o:Nat),RepWAt m b o l→RepWAt m' b o l
 | [],o,_=>by simp only[RepWAt]
 | t::l,o,hr=>by
  simp only[RepWAt]at *
  exact⟨fun j v hv=>h _ _ _ (hr.1 j v hv),RepW.mono h t hr.2.1,RepWAt.mono h l (o+8) hr.2.2⟩
end
mutual
theorem Zp5{m:Mem}:∀t:T,t.nodes.length≤1000000→RepW m t→Rep m t
 | .node k s0 s1 s2 s3 mn mx a c l,hn,hr=>by
  have h1:=Zld (.node k s0 s1 s2 s3 mn mx a c l)
  simp only[T.nodes,T.subs,List.length_cons]at hn h1
  simp only[RepW,Rep]at *
  exact⟨by omega,hr.2.1.imp id fun⟨b,o,e,k⟩=>⟨b,o,e,Zlr l o (by omega) k⟩,hr.2.2⟩
theorem Zlr{m:Mem}{b:Nat}:∀(l:List T)(o:Nat),(Zay l).length≤1000000→RepWAt m b o l→RepAt m b o l
 | [],o,_,_=>by simp only[RepAt]
 | t::l,o,hn,hr=>by
  simp only[Zay,List.length_append]at hn
  simp only[RepWAt,RepAt]at *
  exact⟨hr.1,Zp5 t (by omega) hr.2.1,Zlr l (o+8) (by omega) hr.2.2⟩
end
def Zsj(t:T):Bool:=decide (1≤t.k)&&(decide (t.k≤6)&&((t.k == 2) == !t.setZ))&&((if t.k=5 then decide (0≤t.mn∧t.mn≤16)&&(t.mx == -1||(decide (0 < t.mx)&&(decide (t.mx < 17)&&(decide (t.mn≤t.mx)&&!(t.mn == 1&&t.mx == 1)))))else t.mn == 0&&t.mx == 0) &&
 ((if t.k < 3 then t.subs.length == 0 else if t.k < 5 then decide (2≤t.subs.length)else t.subs.length == 1)))
def Zkd(k:Int)(x:T):Bool:=!((k == 3&&(x.k == 1||x.k == 3))||(k == 4&&x.k == 4)||(k == 5&&x.k == 1))
theorem Zmz(k:Int)(l:List T)(h:∀x:T,Zkd k x=true):l.all (Zkd k)=true:=List.all_eq_true.2 fun x _=>h x
theorem ZwQ(l:List T):l.all (Zkd 3)=(!(l.any fun x=>x.k == 1)&&!(l.any fun x=>x.k == 3)):=by
 induction l with
 | nil=>rfl
 | cons x l ih=>
  rw[List.all_cons,List.any_cons,List.any_cons,ih]
  have:Zkd 3 x=(!(x.k == 1)&&!(x.k == 3)):=by unfold Zkd;cases x.k == 1 <;> cases x.k == 3 <;> simp
  rw[this]
  cases x.k == 1 <;> cases x.k == 3 <;> simp
theorem ZwR(l:List T):l.all (Zkd 4)=!(l.any fun x=>x.k == 4):=by
 induction l with
 | nil=>rfl
 | cons x l ih=>
  rw[List.all_cons,List.any_cons,ih]
  have:Zkd 4 x=!(x.k == 4):=by unfold Zkd;cases x.k == 4 <;> simp
  rw[this]
  cases x.k == 4 <;> simp
theorem ZwS(l:List T):l.all (Zkd 5)=!(l.any fun x=>x.k == 1):=by
 induction l with
 | nil=>rfl
 | cons x l ih=>
  rw[List.all_cons,List.any_cons,ih]
  have:Zkd 5 x=!(x.k == 1):=by unfold Zkd;cases x.k == 1 <;> simp
  rw[this]
  cases x.k == 1 <;> simp
theorem ZwT(mn mx:Int):(decide (0≤mn∧mn≤16)&&(mx == -1||(decide (0 < mx)&&(decide (mx < 17)&&(decide (mn≤mx)&&!(mn == 1&&mx == 1))))))=Zdh mn mx:=by
 unfold Zdh
 rw[Bool.eq_iff_iff]
 simp only[Bool.and_eq_true,Bool.or_eq_true,Bool.not_eq_true',decide_eq_true_eq,beq_iff_eq,Bool.or_eq_false_iff,Bool.and_eq_false_iff,decide_eq_false_iff_not,beq_eq_false_iff_ne,ge_iff_le]
 omega
theorem ZoV(t:T):(Zsj t&&t.subs.all (Zkd t.k))=t.right:=by
 have len0:(t.subs.length == 0)=!decide (0 < t.subs.length):=by
  rw[Bool.eq_iff_iff];simp
 unfold Zsj T.right T.has
 rw[ZwT]
 by_cases h1:t.k=1
 ·rw[Zmz t.k t.subs (fun x=>by unfold Zkd;rw[h1];simp),h1,len0]
  cases t.setZ <;> cases decide (0 < t.subs.length) <;> cases hm:t.mn == 0 <;> cases hx:t.mx == 0 <;> simp[bne,hm,hx]
 by_cases h2:t.k=2
 ·rw[Zmz t.k t.subs (fun x=>by unfold Zkd;rw[h2];simp),h2,len0]
  cases t.setZ <;> cases decide (0 < t.subs.length) <;> cases hm:t.mn == 0 <;> cases hx:t.mx == 0 <;> simp[bne,hm,hx]
 have k2:(t.k == 2)=false:=by simpa using h2
 by_cases h3:t.k=3
 ·rw[h3,ZwQ]
  cases t.setZ <;> cases hm:t.mn == 0 <;> cases hx:t.mx == 0 <;> simp[bne,hm,hx,Nat.succ_le_iff]
 by_cases h4:t.k=4
 ·rw[h4,ZwR]
  cases t.setZ <;> cases hm:t.mn == 0 <;> cases hx:t.mx == 0 <;> simp[bne,hm,hx,Nat.succ_le_iff]
 by_cases h5:t.k=5
 ·rw[h5,ZwS]
  cases t.setZ <;> cases Zdh t.mn t.mx <;> cases t.subs.length == 1 <;> simp[bne]
 by_cases h6:t.k=6
 ·rw[Zmz t.k t.subs (fun x=>by unfold Zkd;rw[h6];simp),h6]
  cases t.setZ <;> cases hm:t.mn == 0 <;> cases hx:t.mx == 0 <;> simp[bne,hm,hx]
 have:(decide (1≤t.k)&&decide (t.k≤6))=false:=by
  rw[Bool.and_eq_false_iff];simp;omega
 have k6:(t.k == 6)=false:=by simpa using h6
 rw[if_neg h1,if_neg h2,if_neg h3,if_neg h4,if_neg (c:=t.k=5) h5,k6]
 simp only[Bool.false_and,Bool.and_false]
 rw[←Bool.and_assoc (decide (1≤t.k)),this]
 simp
 intro _ _ _ h
 exact absurd h h5
def Zrh(t:T)(most:Int):Int:=if(t.nodes.length:Int)≤most then t.nodes.length else most+1
def Zl0(t:T)(most:Int)(k:Nat):Int:=if((1+(Zay (t.subs.take k)).length:Nat):Int)≤most then((1+(Zay (t.subs.take k)).length:Nat):Int)else most+1
theorem ZnM(t:T){most:Int}(h:0≤most):Zl0 t most 0=1:=by
 unfold Zl0
 simp only[List.take_zero,Zay,List.length_nil]
 split <;> omega
theorem ZnN{l:List T}(k:Nat):(Zay (l.take k)).length≤(Zay l).length:=by
 have e:Zay l=Zay (l.take k)++Zay (l.drop k):=by rw[←Zb3,List.take_append_drop]
 rw[e,List.length_append];omega
theorem ZnO{t x:T}{most:Int}{k:Nat}(h:t.subs[k]?=some x)(hs:Zl0 t most k≤most):Zl0 t most (k+1)=Zl0 t most k+Zrh x (most - Zl0 t most k):=by
 have hk:Zl0 t most k=((1+(Zay (t.subs.take k)).length:Nat):Int):=by
  unfold Zl0 at hs ⊢
  split at hs
  ·rename_i h1;rw[if_pos h1]
  ·omega
 rw[hk]at hs ⊢
 unfold Zl0 Zrh
 rw[Zgg h,List.length_append]
 split <;> split <;> omega
theorem ZnP{t:T}{most:Int}{k:Nat}(hs:most < Zl0 t most k):Zl0 t most k=Zrh t most:=by
 have h1:=ZnN (l:=t.subs) k
 have h2:t.nodes.length=1+(Zay t.subs).length:=by rw[Zbf,List.length_cons];omega
 unfold Zl0 at hs ⊢
 unfold Zrh
 split at hs
 ·omega
 ·rename_i h3
  rw[if_neg h3,if_neg (by omega)]
theorem Zp6(t:T)(most:Int):Zl0 t most t.subs.length=Zrh t most:=by
 have h2:t.nodes.length=1+(Zay t.subs).length:=by rw[Zbf,List.length_cons];omega
 unfold Zl0 Zrh
 rw[List.take_length,h2]
theorem Zsk(t:T){most:Int}(h:0≤most):1≤Zrh t most∧Zrh t most≤most+1:=by
 have h2:t.nodes.length=1+(Zay t.subs).length:=by rw[Zbf,List.length_cons];omega
 unfold Zrh
 split <;> omega
theorem Zsl(t:T){most:Int}(h:0≤most)(k:Nat):1≤Zl0 t most k∧Zl0 t most k≤most+1:=by
 unfold Zl0
 split <;> omega
theorem ZoW(t:T):decide (Zrh t 10000 < 10001)=t.light:=by
 unfold Zrh T.light
 rw[decide_eq_decide]
 split <;> omega
theorem Zri(t:T):Zrh t 10000=t.size:=by
 unfold Zrh T.size T.light
 by_cases h:t.nodes.length≤10000
 ·rw[if_pos (by omega),if_pos (by simpa using h)]
 ·rw[if_neg (by omega),if_neg (by simpa using h)];rfl
theorem Zp7(t:T):t.good=(Zsj t&&t.subs.all fun x=>Zkd t.k x&&x.good):=by
 have e:=Zlk t
 have e2:∀l:List T,(l.all fun x=>Zkd t.k x&&x.good)=(l.all (Zkd t.k)&&l.all T.good):=by
  intro l
  induction l with
  | nil=>rfl
  | cons x l ih=>
   simp only[List.all_cons,ih]
   cases Zkd t.k x <;> cases x.good <;> simp
 rw[e,e2,←ZoV,Bool.and_assoc]
theorem ZvQ(t:T):t.gr=(if t.k=6 then 1 else 0)+grL t.subs:=by
 unfold T.gr grL
 rw[Zbf,List.countP_cons]
 have:(isG t=true)↔t.k=6:=by unfold isG;simp
 simp only[this]
 omega
theorem Zke{l:List T}{i:Nat}{t:T}(h:l[i]?=some t):grL (l.take (i+1))=grL (l.take i)+t.gr:=by
 unfold grL T.gr
 rw[Zgg h,List.countP_append]
theorem ZwU(t:T):t.gr≤t.nodes.length:=List.countP_le_length
theorem ZvR(l:List T):grL l≤(Zay l).length:=List.countP_le_length
end Go.Rx
namespace Go.Rx
open Go Go.Eng Go.RowKit
set_option maxRecDepth 100000
noncomputable def Zmn(R:Re):Nat→Nat→Bool:=open Classical in fun i j=>decide (R i j)
theorem Zam{R:Re}{i j:Nat}:Zmn R i j=true↔R i j:=by unfold Zmn;simp
def Zwu(n:Nat)(a b:Nat→Nat→Bool):Re:=fun x y=>∃k,x≤k∧k≤y∧k < n∧a x k=true∧b k y=true
def ZfL(n:Nat)(a b:Nat→Nat→Bool)(i k j:Nat):Re:=fun x y=>(x < i∧Zwu n a b x y)∨(x=i∧((∃k',i≤k'∧k' < k∧k'≤y∧a i k'=true∧b k' y=true)∨(k≤y∧y < j∧a i k=true∧b k y=true)))
theorem ZnQ(n:Nat)(a b:Nat→Nat→Bool)(x y:Nat):¬ZfL n a b 0 0 0 x y:=by
 rintro(⟨h,_⟩|⟨_,⟨k,_,h,_⟩|⟨_,h,_⟩⟩) <;> omega
theorem Zrj{n:Nat}{a b:Nat→Nat→Bool}{i x y:Nat}:ZfL n a b i i i x y↔ZfL n a b i 0 0 x y:=by
 unfold ZfL
 constructor
 ·rintro(h|⟨h,⟨k,h1,h2,_⟩|⟨h1,h2,_⟩⟩)
  ·exact .inl h
  ·omega
  ·omega
 ·rintro(h|⟨h,⟨k,h1,h2,_⟩|⟨h1,h2,_⟩⟩)
  ·exact .inl h
  ·omega
  ·omega
theorem ZoX{n:Nat}{a b:Nat→Nat→Bool}{i x y:Nat}(hy:y < n):ZfL n a b i n n x y↔ZfL n a b (i+1) 0 0 x y:=by
 unfold ZfL Zwu
 constructor
 ·rintro(⟨h,k,h1,h2,h3⟩|⟨h,⟨k,h1,h2,h3,h4⟩|⟨h1,h2,_⟩⟩)
  ·exact .inl ⟨by omega,k,h1,h2,h3⟩
  ·subst h;exact .inl ⟨by omega,k,h1,h3,h2,h4⟩
  ·omega
 ·rintro(⟨h,k,h1,h2,h3,h4⟩|⟨h,⟨k,h1,h2,_⟩|⟨_,h2,_⟩⟩)
  ·by_cases e:x=i
   ·subst e;exact .inr ⟨rfl,.inl ⟨k,h1,h3,h2,h4⟩⟩
   ·exact .inl ⟨by omega,k,h1,h2,h3,h4⟩
  ·omega
  ·omega
theorem Zrk{n:Nat}{a b:Nat→Nat→Bool}{i k j x y:Nat}(pf:i≤k)(hy:y < n)(hj:n≤j∨a i k=false):ZfL n a b i k j x y↔ZfL n a b i (k+1) (k+1) x y:=by
 unfold ZfL
 refine or_congr_right (and_congr_right fun hx=>?_)
 constructor
 ·rintro(⟨k',h1,h2,h3⟩|⟨h1,h2,h3,h4⟩)
  ·exact .inl ⟨k',h1,by omega,h3⟩
  ·exact .inl ⟨k,pf,by omega,h1,h3,h4⟩
 ·rintro(⟨k',h1,h2,h3,h4,h5⟩|⟨h1,h2,_⟩)
  ·by_cases e:k'=k
   ·subst e
    rcases hj with hj|hj
    ·exact .inr ⟨h3,by omega,h4,h5⟩
    ·rw[hj]at h4;cases h4
   ·exact .inl ⟨k',h1,by omega,h3,h4,h5⟩
  ·omega
theorem ZnR{n:Nat}{a b:Nat→Nat→Bool}{i k j x y:Nat}(nj:k≤j)(ha:a i k=true):ZfL n a b i k (j+1) x y↔(ZfL n a b i k j x y∨(x=i∧y=j∧b k j=true)):=by
 unfold ZfL
 constructor
 ·rintro(h|⟨h,h1|⟨h1,h2,h3,h4⟩⟩)
  ·exact .inl (.inl h)
  ·exact .inl (.inr ⟨h,.inl h1⟩)
  ·by_cases e:y=j
   ·subst e;exact .inr ⟨h,rfl,h4⟩
   ·exact .inl (.inr ⟨h,.inr ⟨h1,by omega,h3,h4⟩⟩)
 ·rintro((h|⟨h,h1|⟨h1,h2,h3⟩⟩)|⟨h1,h2,h3⟩)
  ·exact .inl h
  ·exact .inr ⟨h,.inl h1⟩
  ·exact .inr ⟨h,.inr ⟨h1,by omega,h3⟩⟩
  ·subst h2;exact .inr ⟨h1,.inr ⟨nj,by omega,ha,h3⟩⟩
theorem ZoY{n:Nat}{a b:Nat→Nat→Bool}{x y:Nat}(hx:x < n):ZfL n a b n 0 0 x y↔Zwu n a b x y:=by
 unfold ZfL
 constructor
 ·rintro(h|⟨h,_⟩)
  ·exact h.2
  ·omega
 ·exact fun h=>.inl ⟨hx,h⟩
theorem ZmA{n:Nat}{R Q:Re}(hR:Fwd R)(hQ:Fwd Q){x y:Nat}(hy:y < n):Zwu n (Zmn R) (Zmn Q) x y↔∃k,R x k∧Q k y:=by
 unfold Zwu
 simp only[Zam]
 constructor
 ·rintro⟨k,_,_,_,h1,h2⟩;exact⟨k,h1,h2⟩
 ·rintro⟨k,h1,h2⟩
  have:=hR _ _ h1
  have:=hQ _ _ h2
  exact⟨k,by omega,by omega,by omega,h1,h2⟩
theorem Zs7{R:Re}(hf:Fwd R){mn size:Nat}{mx:Int}{i j:Nat}(hj:j < size)(gV:mx=-1∨0≤mx):(∃k:Nat,mn≤k∧(k:Int)≤(if mx < 0 then((mn+size:Nat):Int)else mx)∧pow R k i j)↔∃n:Nat,mn≤n∧(mx=-1∨n≤mx.toNat)∧pow R n i j:=by
 constructor
 ·rintro⟨k,h1,h2,h3⟩
  refine⟨k,h1,?_,h3⟩
  rcases gV with h|h
  ·exact .inl h
  ·rw[if_neg (by omega)]at h2;exact .inr (by omega)
 ·rintro⟨n,h1,h2,h3⟩
  rcases h2 with h2|h2
  ·rw[if_pos (by omega)]
   by_cases hn:n≤mn+size
   ·exact⟨n,h1,by omega,h3⟩
   ·obtain⟨d,rfl⟩:∃d,n=(mn+size)+d:=⟨n - (mn+size),by omega⟩
    exact⟨mn+size,by omega,by omega,ZnJ hf (by omega) d h3⟩
  ·by_cases hx:mx=-1
   ·subst hx
    simp at h2
    subst h2
    exact⟨0,h1,by simp;omega,h3⟩
   ·refine⟨n,h1,?_,h3⟩
    rw[if_neg (by omega)];omega
end Go.Rx
namespace Go.Rx
open Go Go.Eng Go.RowKit
set_option maxRecDepth 100000
def bV(v:Bool):Value:=.int .i64 (if v then 1 else 0)
def Zsm(g:Nat→Bool)(n:Nat):List Value:=(List.range n).map fun j=>bV (g j)
theorem Zp8(g:Nat→Bool)(n:Nat):(Zsm g n).length=n:=by simp[Zsm]
theorem Zgo(g:Nat→Bool){n j:Nat}(h:j < n):(Zsm g n)[j]?=some (bV (g j)):=by simp[Zsm,h]
theorem Zls{g h:Nat→Bool}{n:Nat}(e:∀j,j < n→g j=h j):Zsm g n=Zsm h n:=by
 unfold Zsm
 refine List.map_congr_left fun j hj=>?_
 rw[e j (List.mem_range.1 hj)]
theorem Zlt(n:Nat):(List.replicate n [Value.int .i64 0]).flatten=Zsm (fun _=>false) n:=by
 unfold Zsm
 have:∀k:Nat,(List.replicate k [Value.int .i64 0]).flatten=List.replicate k (Value.int .i64 0):=by
  intro k
  induction k with
  | zero=>rfl
  | succ k ih=>rw[List.replicate_succ,List.flatten_cons,ih];rfl
 rw[this]
 refine(List.eq_replicate_iff.2 ⟨by simp,fun u hu=>?_⟩).symm
 obtain⟨_,_,rfl⟩:=List.mem_map.1 hu
 rfl
def ZuF(bs:Nat→Nat)(n k:Nat):List Value:=(List.range k).map fun i=>.slice (some ⟨bs i,0,none⟩) n n
theorem Zp9(bs:Nat→Nat)(n k:Nat):(ZuF bs n k).length=k:=by simp[ZuF]
theorem ZuG(bs:Nat→Nat)(n:Nat){i k:Nat}(h:i < k):(ZuF bs n k)[i]?=some (.slice (some ⟨bs i,0,none⟩) n n):=by simp[ZuF,h]
theorem Zrl(bs:Nat→Nat)(n k b:Nat):ZuF (fun i=>if i=k then b else bs i) n (k+1)=ZuF bs n k++[.slice (some ⟨b,0,none⟩) n n]:=by
 unfold ZuF
 rw[List.range_succ,List.map_append]
 congr 1
 ·refine List.map_congr_left fun i hi=>?_
  have:=List.mem_range.1 hi
  simp only[if_neg (show ¬i=k by omega)]
 ·simp
structure Tab (m:Mem)(g:Nat→Nat→Bool)(n k:Nat)(a:Option Addr)(bs:Nat→Nat):Prop where
 out:rowRd m a (ZuF bs n k)
 row:∀i,i < k→m.reads (bs i) 0 (Zsm (g i) n)
 inj:∀i j,i < k→j < k→bs i=bs j→i=j
 sep:∀b o,a=some ⟨b,o,none⟩→∀i,i < k→bs i≠b
def TabNew(m:Mem)(k:Nat)(a:Option Addr)(bs:Nat→Nat):Prop:=(∀i,i < k→m.free (bs i))∧∀b o,a=some ⟨b,o,none⟩→m.free b
theorem ZgE{m m':Mem}(h:m.le m'){b:Nat}(hf:m'.free b):m.free b:=fun o=>by
 cases he:m b o with
 | none=>rfl
 | some v=>have:=h _ _ _ he;rw[hf o]at this;cases this
theorem ZvS{m M:Mem}{b b' o:Nat}{v:Value}(hk:m b o=some v)(h:m.le M)(hf:M.free b'):b≠b':=fun e=>by
 subst e
 have:=h _ _ _ hk
 rw[hf o]at this;cases this
theorem TabNew.less{m m':Mem}(h:m.le m'){k:Nat}{a:Option Addr}{bs:Nat→Nat}(hn:TabNew m' k a bs):TabNew m k a bs:=⟨fun i hi=>ZgE h (hn.1 i hi),fun b o e=>ZgE h (hn.2 b o e)⟩
section
variable {m m':Mem} {g:Nat→Nat→Bool} {n k:Nat} {a:Option Addr} {bs:Nat→Nat}
theorem Tab.mono(h:Tab m g n k a bs)(hm:m.le m'):Tab m' g n k a bs:=⟨h.out.mono hm,fun i hi j v hv=>hm _ _ _ (h.row i hi j v hv),h.inj,h.sep⟩
theorem Tab.get(h:Tab m g n k a bs){i:Nat}(hi:i < k):∃b o,a=some ⟨b,o,none⟩∧m b (o+i*1)=some (.slice (some ⟨bs i,0,none⟩) n n):=by
 rcases h.out with e|⟨b,o,e,hr⟩
 ·have:=Zp9 bs n k
  rw[e]at this;simp at this;omega
 ·exact⟨b,o,e,by have:=hr i _ (ZuG bs n hi);rwa [Nat.mul_one]⟩
theorem Tab.cell(h:Tab m g n k a bs){i j:Nat}(hi:i < k)(hj:j < n):m (bs i) (0+j*1)=some (bV (g i j)):=by
 have:=h.row i hi j _ (Zgo (g i) hj)
 rwa [Nat.mul_one]
theorem Tab.congr{g':Nat→Nat→Bool}(h:Tab m g n k a bs)(e:∀i j,i < k→j < n→(g i j=true↔g' i j=true)):Tab m g' n k a bs:=
 ⟨h.out,fun i hi=>by rw[←Zls (g:=g i) (h:=g' i) fun j hj=>Bool.eq_iff_iff.2 (e i j hi hj)];exact h.row i hi,h.inj,h.sep⟩
theorem Zrm{a:Option Addr}{xs:List Value}{b p:Nat}{ys:List Value}(h:rowRd m a xs)(hn:∀b' o,a=some ⟨b',o,none⟩→b'≠b):rowRd (m.upd b p ys) a xs:=by
 rcases h with h|⟨b',o,e,h⟩
 ·exact .inl h
 ·refine .inr ⟨b',o,e,fun j v hv=>?_⟩
  rw[Mem.upd_other _ (hn b' o e)];exact h j v hv
theorem Tab.upd(h:Tab m g n k a bs){i j:Nat}(hi:i < k)(hj:j < n)(v:Bool):Tab (m.upd (bs i) (0+j*1) [bV v]) (fun x y=>if x=i∧y=j then v else g x y) n k a bs:=by
 refine⟨Zrm h.out fun b o e he=>h.sep b o e i hi he.symm,fun x hx y u hu=>?_,h.inj,h.sep⟩
 have hy:y < n:=by have:=(List.getElem?_eq_some_iff.1 hu).1;rwa [Zp8]at this
 rw[Zgo _ hy]at hu
 cases hu
 by_cases e:x=i
 ·subst e
  simp only[Mem.upd,List.length_cons,List.length_nil,true_and]
  by_cases e2:y=j
  ·subst e2
   rw[if_pos (by omega),if_pos rfl,show 0+y - (0+y*1)=0 by omega];rfl
  ·rw[if_neg (by omega),if_neg e2]
   exact h.row x hx y _ (Zgo _ hy)
 ·rw[Mem.upd_other _ (fun he=>e (h.inj x i hx hi he)),if_neg (fun hc=>e hc.1)]
  exact h.row x hx y _ (Zgo _ hy)
theorem Zs8{m:Mem}{b n j:Nat}{g:Nat→Bool}(h:m.reads b 0 (Zsm g n))(hj:j < n)(v:Bool):(m.upd b (0+j*1) [bV v]).reads b 0 (Zsm (fun y=>if y=j then v else g y) n):=fun y u hu=>by
 have hy:y < n:=by have:=(List.getElem?_eq_some_iff.1 hu).1;rwa [Zp8]at this
 rw[Zgo _ hy]at hu
 cases hu
 simp only[Mem.upd,List.length_cons,List.length_nil,true_and]
 by_cases e2:y=j
 ·subst e2
  rw[if_pos (by omega),if_pos rfl,show 0+y - (0+y*1)=0 by omega];rfl
 ·rw[if_neg (by omega),if_neg e2]
  exact h y _ (Zgo _ hy)
theorem Tab.off(h:Tab m' g n k a bs){m1:Mem}(hn:TabNew m1 k a bs){Y:Nat→Prop}(hY:∀b,Y b→∃o v,m1 b o=some v):Tab (m'.off Y) g n k a bs:=by
 have cS:∀b,m1.free b→¬Y b:=fun b hf hy=>by
  obtain⟨o,v,hv⟩:=hY b hy
  rw[hf o]at hv;cases hv
 refine⟨?_,fun i hi j v hv=>by rw[Mem.off_at (cS _ (hn.1 i hi))];exact h.row i hi j v hv,h.inj,h.sep⟩
 rcases h.out with e|⟨b,o,e,hr⟩
 ·exact .inl e
 ·exact .inr ⟨b,o,e,fun j v hv=>by rw[Mem.off_at (cS _ (hn.2 b o e))];exact hr j v hv⟩
theorem Tab.zero(hm:Mem):Tab hm g n 0 none bs:=⟨.inl rfl,fun i hi=>by omega,fun i j hi=>by omega,fun b o e=>by cases e⟩
theorem Tab.snoc{M M0:Mem}{b:Nat}{a':Option Addr}(h:Tab m g n k a bs)(h0:k=0→a=none)(hn:0 < n)(hb:m.free b)(hM:m.le M0)(ni:M0.le M)(cJ:M0.reads b 0 (Zsm (g k) n))(cU:rowRd M a' (ZuF bs n k++[.slice (some ⟨b,0,none⟩) n n]))
  (ha:a'=none∨∃b' o,a'=some ⟨b',o,none⟩∧(a=a'∨(o=0∧M0.free b'))):Tab M g n (k+1) a' (fun i=>if i=k then b else bs i):=by
 have kn:∀i,i < k→m (bs i) 0=some (bV (g i 0)):=fun i hi=>by have:=h.cell hi (j:=0) hn;simpa using this
 have kb:M0 b 0=some (bV (g k 0)):=by have:=cJ 0 _ (Zgo _ hn);simpa using this
 refine⟨by rw[Zrl];exact cU,fun i hi=>?_,fun i j hi hj e=>?_,fun b' o e i hi=>?_⟩
 ·by_cases e:i=k
  ·subst e
   rw[if_pos rfl]
   exact fun j v hv=>ni _ _ _ (cJ j v hv)
  ·rw[if_neg e]
   exact fun j v hv=>ni _ _ _ (hM _ _ _ (h.row i (by omega) j v hv))
 ·by_cases e1:i=k
  ·by_cases e2:j=k
   ·omega
   ·rw[if_pos e1,if_neg e2]at e
    exact absurd e.symm (ZvS (kn j (by omega)) (Mem.le_refl _) hb)
  ·by_cases e2:j=k
   ·rw[if_neg e1,if_pos e2]at e
    exact absurd e (ZvS (kn i (by omega)) (Mem.le_refl _) hb)
   ·rw[if_neg e1,if_neg e2]at e
    exact h.inj i j (by omega) (by omega) e
 ·rcases ha with ha|⟨b2,o2,ha,jl⟩
  ·rw[ha]at e;cases e
  rw[e]at ha
  cases ha
  rcases jl with jl|⟨_,jl⟩
  ·by_cases e1:i=k
   ·rw[if_pos e1]
    rintro rfl
    rcases Nat.eq_zero_or_pos k with hk|hk
    ·rw[h0 hk,e]at jl;cases jl
    ·obtain⟨b3,o3,e3,h3⟩:=h.get hk
     rw[e3,e]at jl
     cases jl
     rw[hb]at h3;cases h3
   ·rw[if_neg e1]
    exact h.sep _ _ (jl.trans e) i (by omega)
  ·by_cases e1:i=k
   ·rw[if_pos e1]
    exact ZvS kb (Mem.le_refl _) jl
   ·rw[if_neg e1]
    exact ZvS (kn i (by omega)) hM jl
end
end Go.Rx
namespace Go.Rx
open Go Go.Eng Go.RowKit
set_option maxRecDepth 100000
theorem ZuH(s:List Nat)(l:List T)(x:T)(i j:Nat):MC s (l++[x]) i j↔∃m,MC s l i m∧x.M s m j:=by
 rw[Zrg]
 simp only[Zgl,Zka]
 constructor
 ·rintro⟨m,h1,m',h2,rfl⟩;exact⟨m,h1,h2⟩
 ·rintro⟨m,h1,h2⟩;exact⟨m,h1,j,h2,rfl⟩
theorem ZuI(s:List Nat)(l:List T)(x:T)(i j:Nat):MA s (l++[x]) i j↔MA s l i j∨x.M s i j:=by
 rw[Zrf]
 simp only[Zgm,ZlZ,or_false]
theorem Zrn{t:T}(hg:t.good=true)(s:List Nat):Fwd (t.M s):=fun i j h=>Zxf hg h
theorem ZuJ(s:List Nat):∀{l:List T},(∀x∈l,x.good=true)→Fwd (MC s l)
 | [],_=>fun i j h=>by rw[Zka]at h;omega
 | x::l,hl=>fun i j h=>by
  rw[Zgl]at h
  obtain⟨m,h1,h2⟩:=h
  have:=Zrn (hl x (by simp)) s i m h1
  have:=ZuJ s (fun y hy=>hl y (by simp[hy])) m j h2
  omega
theorem Zqa{R:Re}(hf:Fwd R):∀n,Fwd (pow R n)
 | 0=>fun i j h=>by have h:i=j:=h;omega
 | n+1=>fun i j h=>by
  rw[ZeR]at h
  obtain⟨m,h1,h2⟩:=h
  have:=Zqa hf n i m h1
  have:=hf m j h2
  omega
theorem ZfM{t x:T}(h:t.good=true)(hx:x∈t.subs):x.good=true:=by
 rw[Zlk,Bool.and_eq_true,List.all_eq_true]at h
 exact h.2 x hx
theorem Zs9{t:T}(h:t.good=true):Zsj t=true:=by
 rw[Zp7,Bool.and_eq_true]at h
 exact h.1
theorem Zqb{t:T}(h:t.good=true)(hk:t.k=5∨t.k=6):∃x,t.subs=[x]:=by
 have h:=Zs9 h
 unfold Zsj at h
 simp only[Bool.and_eq_true]at h
 have h2:=h.2.2
 have h3:t.subs.length=1:=by
  rcases hk with hk|hk
  ·rw[hk]at h2;simpa using h2
  ·rw[hk]at h2;simpa using h2
 match h4:t.subs,h3 with
 | [x],_=>exact⟨x,rfl⟩
theorem Zjr{t:T}(h:t.good=true)(hk:t.k=5):(0≤t.mn∧t.mn≤16)∧(t.mx=-1∨(0 < t.mx∧t.mx < 17)):=by
 have h:=Zs9 h
 unfold Zsj at h
 simp only[Bool.and_eq_true]at h
 have h2:=h.2.1
 rw[if_pos hk]at h2
 simp only[Bool.and_eq_true,Bool.or_eq_true,decide_eq_true_eq,beq_iff_eq]at h2
 exact⟨h2.1,h2.2.imp id fun h=>⟨h.1,h.2.1⟩⟩
theorem ZvT{t:T}(h:t.good=true):1≤t.k∧t.k≤6:=by
 have h:=Zs9 h
 unfold Zsj at h
 simp only[Bool.and_eq_true,decide_eq_true_eq]at h
 exact⟨h.1.1,h.1.2.1⟩
def ZuK(R:Re)(mn k:Nat):Re:=fun i j=>∃q,mn≤q∧q < k∧pow R q i j
theorem Zro(R:Re)(mn i j:Nat):¬ZuK R mn 0 i j:=fun⟨q,_,h,_⟩=>by omega
theorem Zta{R:Re}{mn k:Nat}(h:mn≤k)(i j:Nat):ZuK R mn (k+1) i j↔ZuK R mn k i j∨pow R k i j:=by
 unfold ZuK
 constructor
 ·rintro⟨q,h1,h2,h3⟩
  by_cases e:q=k
  ·subst e;exact .inr h3
  ·exact .inl ⟨q,h1,by omega,h3⟩
 ·rintro(⟨q,h1,h2,h3⟩|h3)
  ·exact⟨q,h1,by omega,h3⟩
  ·exact⟨k,h,by omega,h3⟩
theorem Zrp{R:Re}{mn k:Nat}(h:k < mn)(i j:Nat):ZuK R mn (k+1) i j↔ZuK R mn k i j:=by
 unfold ZuK
 constructor
 ·rintro⟨q,h1,h2,h3⟩;omega
 ·rintro⟨q,h1,h2,h3⟩;exact⟨q,h1,by omega,h3⟩
theorem Ztb{s:List Nat}{t x:T}(hg:t.good=true)(hk:t.k=5)(hx:t.subs=[x]){k i j:Nat}(hj:j < s.length+1)(h:(k:Int)=(if t.mx < 0 then t.mn+((s.length+1:Nat):Int)else t.mx)+1):ZuK (x.M s) t.mn.toNat k i j↔t.M s i j:=by
 obtain⟨eZ,dT⟩:=Zjr hg hk
 have lp:=ZfM (x:=x) hg (by rw[hx];simp)
 have e:MH s t.subs=x.M s:=by rw[hx];simp[MH]
 rw[M_5 hk,e,←Zs7 (Zrn lp s) hj (dT.imp id fun h=>by omega)]
 unfold ZuK
 constructor
 ·rintro⟨q,h1,h2,h3⟩
  refine⟨q,h1,?_,h3⟩
  split at h <;> rename_i h5
  ·rw[if_pos h5];omega
  ·rw[if_neg h5];omega
 ·rintro⟨q,h1,h2,h3⟩
  refine⟨q,h1,?_,h3⟩
  split at h <;> rename_i h5
  ·rw[if_pos h5]at h2;omega
  ·rw[if_neg h5]at h2;omega
theorem Tab.off'{m:Mem}{g:Nat→Nat→Bool}{n k:Nat}{a:Option Addr}{bs:Nat→Nat}(h:Tab m g n k a bs){Y:Nat→Prop}(h1:∀i,i < k→¬Y (bs i))(h2:∀b o,a=some ⟨b,o,none⟩→¬Y b):Tab (m.off Y) g n k a bs:=by
 refine⟨?_,fun i hi j v hv=>by rw[Mem.off_at (h1 i hi)];exact h.row i hi j v hv,h.inj,h.sep⟩
 rcases h.out with e|⟨b,o,e,hr⟩
 ·exact .inl e
 ·exact .inr ⟨b,o,e,fun j v hv=>by rw[Mem.off_at (h2 b o e)];exact hr j v hv⟩
def Zxu(Y:Nat→Prop)(n:Nat)(a:Option Addr)(bs:Nat→Nat):Prop:=(∀i,i < n→¬Y (bs i))∧∀b o,a=some ⟨b,o,none⟩→¬Y b
def ZoZ(n:Nat)(bs:Nat→Nat):Nat→Prop:=fun b=>∃i,i < n∧b=bs i
theorem Zh8{m:Mem}{g:Nat→Nat→Bool}{n:Nat}{a:Option Addr}{bs:Nat→Nat}(h:Tab m g n n a bs){a':Option Addr}{cs:Nat→Nat}(hn:TabNew m n a' cs)(h0:0 < n):Zxu (ZoZ n bs) n a' cs:=by
 have kn:∀b,ZoZ n bs b→∃v,m b 0=some v:=fun b ⟨i,hi,e⟩=>by
  have:=h.cell hi h0
  rw[Nat.zero_mul]at this
  exact⟨_,by rw[e];exact this⟩
 refine⟨fun i hi hY=>?_,fun b o e hY=>?_⟩
 ·obtain⟨v,hv⟩:=kn _ hY
  rw[hn.1 i hi 0]at hv;cases hv
 ·obtain⟨v,hv⟩:=kn _ hY
  rw[hn.2 b o e 0]at hv;cases hv
theorem ZnS{m m':Mem}{Y:Nat→Prop}(h:m.le m')(hY:∀b,Y b→m.free b):m.le (m'.off Y):=fun b o v hv=>by
 have:¬Y b:=fun hy=>by rw[hY b hy o]at hv;cases hv
 rw[Mem.off_at this];exact h _ _ _ hv
end Go.Rx
namespace Go.Rx
open Go Go.Eng Go.RowKit
set_option maxRecDepth 100000
def RgR(m:Mem)(r:Rg)(cs:List Value):Prop:=∃ds,cs=.bool r.bg::.bool r.en::ds∧RefT m r.t ds
theorem RgR.len{m:Mem}{r:Rg}{cs:List Value}(h:RgR m r cs):cs.length=262:=by
 obtain⟨ds,rfl,h⟩:=h
 simp[h.len]
theorem RgR.mono{m m':Mem}{r:Rg}{cs:List Value}(h:RgR m r cs)(hm:m.le m'):RgR m' r cs:=by
 obtain⟨ds,rfl,h⟩:=h
 exact⟨ds,rfl,h.mono hm⟩
theorem RgR.root{m:Mem}{r:Rg}{cs:List Value}(h:RgR m r cs):RefT m r.t ((cs.drop 2).take 260):=by
 obtain⟨ds,rfl,h⟩:=h
 have:(ds.take 260)=ds:=List.take_of_length_le (by rw[h.len];omega)
 show RefT m r.t (ds.take 260)
 rw[this];exact h
def ZuL(bg:Bool)(g:Nat→Nat→Bool)(n k:Nat):Bool:=g k n&&(k == 0||!bg)
def ZwV(bg en:Bool)(g:Nat→Nat→Bool)(size n:Nat)(z:Int):Prop:=
 (z=-1∧((en=true∧n+1 < size)∨∀k,k≤n→ZuL bg g n k=false))∨∃k:Nat,z=k∧k≤n∧¬(en=true∧n+1 < size)∧ZuL bg g n k=true∧∀j,j < k→ZuL bg g n j=false
def Zrq:Option Nat→Int
 | none=>-1
 | some k=>k
theorem Zkf{r:Rg}{s:List Nat}{n k:Nat}:ZuL r.bg (Zmn (r.t.M s)) n k=true↔Beg r s n k:=by
 unfold ZuL Beg
 rw[Bool.and_eq_true,Zam,Bool.or_eq_true,beq_iff_eq,Bool.not_eq_true']
theorem ZnT{r:Rg}{s:List Nat}{n:Nat}{z:Int}(hg:r.t.good=true)(hs:s.length≤512)(hn:n≤s.length)(h:ZwV r.bg r.en (Zmn (r.t.M s)) (s.length+1) n z):z=Zrq (r.from s n):=by
 have op:¬(r.en=true∧n+1 < s.length+1)→Zrc r s n:=fun h=>by
  unfold Zrc
  cases he:r.en with
  | false=>exact .inl rfl
  | true=>
   have:¬n+1 < s.length+1:=fun h'=>h ⟨he,h'⟩
   exact .inr (by omega)
 cases hf:r.from s n with
 | none=>
  rcases h with⟨h,_⟩|⟨k,_,_,ho,hk,_⟩
  ·exact h
  ·exact absurd (Zkf.1 hk) (Zre hg hs hn hf (op ho) k)
 | some i=>
  obtain⟨ho,hb,iv⟩:=Zrd hg hs hn hf
  have eW:=Zxf hg hb.1
  rcases h with⟨_,h|h⟩|⟨k,hz,_,_,hk,hm⟩
  ·rcases ho with ho|ho
   ·rw[ho]at h;cases h.1
   ·have:=h.2;omega
  ·have:=h i eW
   rw[Zkf.2 hb]at this;cases this
  ·have e:k=i:=by
    rcases Nat.lt_trichotomy k i with h1|h1|h1
    ·exact absurd (Zkf.1 hk) (iv k h1)
    ·exact h1
    ·have:=hm i h1
     rw[Zkf.2 hb]at this;cases this
   rw[hz,e];rfl
theorem ZnU{N:Nat}{css:List (List Value)}(h:∀cs∈css,cs.length=N):css.flatten.length=css.length*N:=by
 induction css with
 | nil=>simp
 | cons cs r ih=>
  rw[List.flatten_cons,List.length_append,h cs (by simp),ih fun x hx=>h x (by simp[hx]),List.length_cons,Nat.succ_mul];omega
theorem Ztc{N:Nat}{css:List (List Value)}(h:∀cs∈css,cs.length=N){i:Nat}{cs:List Value}(hi:css[i]?=some cs){j:Nat}{v:Value}(hv:cs[j]?=some v):css.flatten[i*N+j]?=some v:=by
 induction css generalizing i with
 | nil=>simp at hi
 | cons c r ih=>
  have hj:j < N:=by have:=(List.getElem?_eq_some_iff.1 hv).1;rw[h cs (List.mem_of_getElem? hi)]at this;exact this
  have hc:=h c (by simp)
  rw[List.flatten_cons]
  cases i with
  | zero=>
   simp at hi;subst hi
   rw[Nat.zero_mul,Nat.zero_add,List.getElem?_append_left (by omega)];exact hv
  | succ i=>
   have e:(i+1)*N=i*N+N:=Nat.succ_mul i N
   rw[List.getElem?_append_right (by omega),hc,show(i+1)*N+j - N=i*N+j by omega]
   exact ih (fun x hx=>h x (by simp[hx])) (by simpa using hi)
structure RgsR (m:Mem)(a:Option Addr)(l:List Rg)(css:List (List Value)):Prop where
 len:css.length=l.length
 all:∀(i:Nat)(cs:List Value),css[i]?=some cs→∃r,l[i]?=some r∧RgR m r cs
 row:rowRd m a css.flatten
theorem RgsR.sizes{m:Mem}{a:Option Addr}{l:List Rg}{css:List (List Value)}(h:RgsR m a l css):∀cs∈css,cs.length=262:=fun cs hc=>by
 obtain⟨i,hi⟩:=List.getElem?_of_mem hc
 obtain⟨r,_,hr⟩:=h.all i cs hi
 exact hr.len
theorem RgsR.mono{m m':Mem}{a:Option Addr}{l:List Rg}{css:List (List Value)}(h:RgsR m a l css)(hm:m.le m'):RgsR m' a l css:=
 ⟨h.len,fun i cs hi=>by obtain⟨r,h1,h2⟩:=h.all i cs hi;exact⟨r,h1,h2.mono hm⟩,h.row.mono hm⟩
theorem RgsR.get{m:Mem}{a:Option Addr}{l:List Rg}{css:List (List Value)}(h:RgsR m a l css){i:Nat}{r:Rg}(hi:l[i]?=some r):∃b o cs,a=some ⟨b,o,none⟩∧m.reads b (o+i*262) cs∧RgR m r cs:=by
 have bA:i < css.length:=by rw[h.len];exact(List.getElem?_eq_some_iff.1 hi).1
 obtain⟨cs,cR⟩:∃cs,css[i]?=some cs:=⟨_,List.getElem?_eq_getElem bA⟩
 obtain⟨r',hr',hR⟩:=h.all i cs cR
 rw[hi]at hr';cases hr'
 rcases h.row with e|⟨b,o,e,hr⟩
 ·have:=ZnU h.sizes
  rw[e]at this
  simp at this;omega
 ·exact⟨b,o,cs,e,fun j v hv=>by have:=hr _ v (Ztc h.sizes cR hv);rwa [←Nat.add_assoc]at this,hR⟩
theorem RgR.one{m:Mem}{r:Rg}{cs:List Value}(h:RgR m r cs):∀u∈cs,u.oneCell'=true:=by
 obtain⟨ds,rfl,hd⟩:=h
 intro u hu
 simp only[List.mem_cons]at hu
 rcases hu with rfl|rfl|hu
 ·rfl
 ·rfl
 ·exact hd.one u hu
theorem RgsR.snoc{m:Mem}{a a':Option Addr}{l:List Rg}{css:List (List Value)}{r:Rg}{cs:List Value}(h:RgsR m a l css)(hr:RgR m r cs)(cJ:rowRd m a' (css.flatten++cs)):RgsR m a' (l++[r]) (css++[cs]):=by
 refine⟨by simp[h.len],fun i ds hi=>?_,by rw[List.flatten_append,List.flatten_singleton];exact cJ⟩
 have hl:=h.len
 by_cases bA:i < css.length
 ·rw[List.getElem?_append_left bA]at hi
  obtain⟨r',h1,h2⟩:=h.all i ds hi
  exact⟨r',by rw[List.getElem?_append_left (by omega)];exact h1,h2⟩
 ·have gA:=(List.getElem?_eq_some_iff.1 hi).1
  simp at gA
  have e:i=css.length:=by omega
  subst e
  rw[List.getElem?_append_right (Nat.le_refl _),Nat.sub_self]at hi
  cases hi
  exact⟨r,by rw[hl,List.getElem?_append_right (Nat.le_refl _),Nat.sub_self];rfl,hr⟩
end Go.Rx
