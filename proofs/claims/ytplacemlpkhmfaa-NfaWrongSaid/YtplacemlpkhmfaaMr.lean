/- Trees of regexes, what they mean, and wh they lie in memory; plain, no program is named. No condition. -/
import Derived.Test.YtplacemlpkhmfaaMc
set_option linter.unusedVariables false
set_option linter.unusedSimpArgs false
namespace Go.Rx
open Go Go.Eng
inductive T where
 | node (k s0 s1 s2 s3 mn mx:Int) (a:Option Addr) (c:Nat) (subs:List T)
def T.k:T→Int
 | .node k _ _ _ _ _ _ _ _ _=>k
def T.s0:T→Int
 | .node _ s _ _ _ _ _ _ _ _=>s
def T.s1:T→Int
 | .node _ _ s _ _ _ _ _ _ _=>s
def T.s2:T→Int
 | .node _ _ _ s _ _ _ _ _ _=>s
def T.s3:T→Int
 | .node _ _ _ _ s _ _ _ _ _=>s
def T.mn:T→Int
 | .node _ _ _ _ _ x _ _ _ _=>x
def T.mx:T→Int
 | .node _ _ _ _ _ _ x _ _ _=>x
def T.a:T→Option Addr
 | .node _ _ _ _ _ _ _ a _ _=>a
def T.c:T→Nat
 | .node _ _ _ _ _ _ _ _ c _=>c
def T.subs:T→List T
 | .node _ _ _ _ _ _ _ _ _ l=>l
def T.sl(t:T):Value:=.slice t.a t.subs.length t.c
def T.cs(t:T):List Value:=[.int .u8 t.k,.int .u64 t.s0,.int .u64 t.s1,.int .u64 t.s2,.int .u64 t.s3,.int .i64 t.mn,.int .i64 t.mx,t.sl]
def T.v(t:T):Value:=.agg #[.int .u8 t.k,.int .u64 t.s0,.int .u64 t.s1,.int .u64 t.s2,.int .u64 t.s3,.int .i64 t.mn,.int .i64 t.mx,.slice t.a t.subs.length t.c]
structure OkN (k s0 s1 s2 s3 mn mx:Int):Prop where
 k:0≤k∧k < 256
 s0:0≤s0∧s0 < 18446744073709551616
 s1:0≤s1∧s1 < 18446744073709551616
 s2:0≤s2∧s2 < 18446744073709551616
 s3:0≤s3∧s3 < 18446744073709551616
 mn : -9223372036854775808≤mn∧mn≤9223372036854775807
 mx : -9223372036854775808≤mx∧mx≤9223372036854775807
mutual
def Rep(m:Mem):T→Prop
 | .node k s0 s1 s2 s3 mn mx a _ l=>l.length≤1000000000000000∧(l=[]∨∃b o,a=some ⟨b,o,none⟩∧RepAt m b o l)∧OkN k s0 s1 s2 s3 mn mx
def RepAt(m:Mem)(b:Nat):Nat→List T→Prop
 | _,[]=>True
 | o,t::l=>m.reads b o t.cs∧Rep m t∧RepAt m b (o+8) l
end
theorem ZdA{m:Mem}{t:T}:Rep m t→(t.subs.length≤1000000000000000∧(t.subs=[]∨∃b o,t.a=some ⟨b,o,none⟩∧RepAt m b o t.subs)):=by
 cases t;simp only[Rep,T.subs,T.a];exact fun h=>⟨h.1,h.2.1⟩
theorem Zs5{m:Mem}{t:T}:Rep m t→OkN t.k t.s0 t.s1 t.s2 t.s3 t.mn t.mx:=by
 cases t;simp only[Rep];exact fun h=>h.2.2
theorem ZvG{m:Mem}{t:T}(h1:t.subs.length≤1000000000000000)(h2:t.subs=[]∨∃b o,t.a=some ⟨b,o,none⟩∧RepAt m b o t.subs)(h3:OkN t.k t.s0 t.s1 t.s2 t.s3 t.mn t.mx):Rep m t:=by
 cases t;simp only[Rep];exact⟨h1,h2,h3⟩
mutual
theorem Rep.mono{m m':Mem}(h:m.le m'):∀t:T,Rep m t→Rep m' t
 | .node _ _ _ _ _ _ _ a _ l,hr=>by
  simp only[Rep]at *
  refine⟨hr.1,?_,hr.2.2⟩
  rcases hr.2.1 with hr|⟨b,o,h1,h2⟩
  ·exact .inl hr
  ·exact .inr ⟨b,o,h1,RepAt.mono h b o l h2⟩
theorem RepAt.mono{m m':Mem}(h:m.le m')(b:Nat):∀(o:Nat)(l:List T),RepAt m b o l→RepAt m' b o l
 | _,[],_=>by simp only[RepAt]
 | o,t::l,hr=>by
  simp only[RepAt]at *
  exact⟨hr.1.mono h,Rep.mono h t hr.2.1,RepAt.mono h b (o+8) l hr.2.2⟩
end
theorem RepAt.get{m:Mem}{b:Nat}:∀{o:Nat} {l:List T} {i:Nat} {t:T},RepAt m b o l→l[i]?=some t→m.reads b (o+i*8) t.cs∧Rep m t
 | o,[],i,t,_,hi=>by simp at hi
 | o,x::l,0,t,h,hi=>by
  simp only[RepAt]at h
  simp at hi;subst hi
  exact⟨by simpa using h.1,h.2.1⟩
 | o,x::l,i+1,t,h,hi=>by
  simp only[RepAt]at h
  have:=h.2.2.get (i:=i) (by simpa using hi)
  rw[show o+(i+1)*8=o+8+i*8 by omega]
  exact this
mutual
def T.nodes:T→List T
 | .node k s0 s1 s2 s3 mn mx a c l=>.node k s0 s1 s2 s3 mn mx a c l::Zar l
def Zar:List T→List T
 | []=>[]
 | t::l=>t.nodes++Zar l
end
theorem Za5(t:T):t.nodes=t::Zar t.subs:=by cases t;simp only[T.nodes,T.subs]
theorem Zdj(l r:List T):Zar (l++r)=Zar l++Zar r:=by
 induction l with
 | nil=>simp[Zar]
 | cons t l ih=>simp[Zar,ih,List.append_assoc]
theorem Znm{l:List T}{i:Nat}{t:T}(h:l[i]?=some t):Zar (l.take (i+1))=Zar (l.take i)++t.nodes:=by
 have:l.take (i+1)=l.take i++[t]:=by
  rw[List.take_add_one,h];rfl
 rw[this,Zdj];simp[Zar]
theorem ZdZ{l:List T}{i:Nat}{t:T}(h:l[i]?=some t):Zar l=Zar (l.take i)++(t.nodes++Zar (l.drop (i+1))):=by
 have bK:=(List.getElem?_eq_some_iff.1 h).1
 have e:l=l.take i++(t::l.drop (i+1)):=by
  have:=List.drop_eq_getElem_cons bK
  rw[(List.getElem?_eq_some_iff.1 h).2]at this
  rw[←this,List.take_append_drop]
 conv=>lhs;rw[e,Zdj]
 simp[Zar]
theorem Zs6{t x z:T}{i q:Nat}(hx:t.subs[i]?=some x)(hz:x.nodes[q]?=some z):t.nodes[1+(Zar (t.subs.take i)).length+q]?=some z:=by
 have hq:=(List.getElem?_eq_some_iff.1 hz).1
 rw[Za5,show 1+(Zar (t.subs.take i)).length+q=((Zar (t.subs.take i)).length+q)+1 by omega,List.getElem?_cons_succ,ZdZ hx,List.getElem?_append_right (by omega),List.getElem?_append_left (by omega),show(Zar (List.take i t.subs)).length+q - (Zar (List.take i t.subs)).length=q by omega]
 exact hz
theorem ZoX{t x:T}(h:x∈t.subs):SizeOf.sizeOf x < SizeOf.sizeOf t:=by
 cases t with
 | node k s0 s1 s2 s3 mn mx a c l=>
  have h':x∈l:=h
  have:=List.sizeOf_lt_of_mem h'
  simp only[T.node.sizeOf_spec]
  omega
theorem Zrg(t:T):Shape.fitsL [.agg [.int .u8,.int .u64,.int .u64,.int .u64,.int .u64,.int .i64,.int .i64,.slice]] [t.v]=true:=by
 simp[Shape.fitsL,Shape.fits,T.v]
mutual
theorem Zp5{m:Mem}:∀(t:T),Rep m t→∀x∈t.nodes,Rep m x
 | .node k s0 s1 s2 s3 mn mx a c l,hr,x,hx=>by
  simp only[T.nodes,List.mem_cons]at hx
  rcases hx with rfl|hx
  ·exact hr
  ·simp only[Rep]at hr
   rcases hr.2.1 with h|⟨b,o,_,h⟩
   ·subst h;simp[Zar]at hx
   ·exact Znn b o l h x hx
theorem Znn{m:Mem}(b:Nat):∀(o:Nat)(l:List T),RepAt m b o l→∀x∈Zar l,Rep m x
 | _,[],_,x,hx=>by simp[Zar]at hx
 | o,t::l,hr,x,hx=>by
  simp only[RepAt]at hr
  simp only[Zar,List.mem_append]at hx
  rcases hx with hx|hx
  ·exact Zp5 t hr.2.1 x hx
  ·exact Znn b (o+8) l hr.2.2 x hx
end
theorem Zno{m:Mem}{t x:T}(h:Rep m t)(hx:x∈t.nodes):Rep m x:=Zp5 t h x hx
def Zd0(least most:Int):Bool:=!(decide (least < 0)||decide (least > 16)||(least == 1&&most == 1))&&(most == -1||(decide (most ≥ 1)&&decide (most≤16)&&decide (most ≥ least)))
def T.has(t:T)(k:Int):Bool:=t.subs.any fun x=>x.k == k
def T.light(t:T):Bool:=decide (t.nodes.length≤10000)
def T.setZ(t:T):Bool:=t.s0 == 0&&t.s1 == 0&&t.s2 == 0&&t.s3 == 0
def T.right(t:T):Bool:=
 !(t.k != 2&&!t.setZ||(t.k != 5&&(t.mn != 0||t.mx != 0)||(decide (t.k < 3)&&decide (0 < t.subs.length)))) &&
 (if t.k=1 then true else if t.k=2 then !t.setZ else if t.k=3 then decide (1 < t.subs.length)&&(!t.has 1&&!t.has 3)else if t.k=4 then decide (1 < t.subs.length)&&!t.has 4
  else if t.k=5 then t.subs.length == 1&&(Zd0 t.mn t.mx&&!t.has 1)else t.k == 6&&t.subs.length == 1)
def T.clean(t:T):Bool:=t.light&&t.nodes.all T.right
def T.size(t:T):Int:=if t.light then t.nodes.length else 10001
def T.groups(t:T):Int:=if t.light then(t.nodes.countP fun x=>x.k == 6:Nat)else 10001
def Zla(x y:Int):Int:=if y > x then y else x
def Zlb(x y:Int):Int:=if y < x then y else x
def Zrh(k mn mx sum:Int):Int:=Zlb (if k=5 then sum*Zlb (if mx=-1 then Zla (Zla mn 0) 1 else Zla (Zla mn 0) mx) 10001 else sum) 10001
mutual
def T.pos:T→Int
 | .node k _ _ _ _ mn mx _ _ l=>Zrh k mn mx ((if k=2 then 1 else 0)+ZcF l)
def ZcF:List T→Int
 | []=>0
 | t::l=>t.pos+ZcF l
end
def T.positions(t:T):Int:=if t.light then t.pos else 10001
def T.check(t:T):Int:=if t.clean=false then 80 else if t.size > 120 then 81 else if t.positions > 400 then 82 else if t.groups > 9 then 83 else 0
mutual
def T.same:T→T→Bool
 | .node k s0 s1 s2 s3 mn mx _ _ l,.node k' s0' s1' s2' s3' mn' mx' _ _ l'=>k == k'&&((s0 == s0'&&s1 == s1'&&s2 == s2'&&s3 == s3')&&(mn == mn'&&(mx == mx'&&Zg8 l l')))
def Zg8:List T→List T→Bool
 | [],[]=>true
 | t::l,t'::l'=>t.same t'&&Zg8 l l'
 | _,_=>false
end
theorem Zuh(t u:T):t.same u=(t.k == u.k&&((t.s0 == u.s0&&t.s1 == u.s1&&t.s2 == u.s2&&t.s3 == u.s3)&&(t.mn == u.mn&&(t.mx == u.mx&&Zg8 t.subs u.subs)))):=by
 cases t;cases u;simp only[T.same,T.k,T.s0,T.s1,T.s2,T.s3,T.mn,T.mx,T.subs]
theorem Znp:∀{l r:List T},¬l.length=r.length→Zg8 l r=false
 | [],[],h=>by simp at h
 | [],_::_,_=>by simp[Zg8]
 | _::_,[],_=>by simp[Zg8]
 | x::l,y::r,h=>by
  simp only[Zg8,Znp (l:=l) (r:=r) (by simpa using h),Bool.and_false]
theorem Zp6:∀{l r:List T} {i:Nat} {x y:T},l[i]?=some x→r[i]?=some y→x.same y=false→Zg8 l r=false
 | [],r,i,x,y,h,_,_=>by simp at h
 | _::_,[],i,x,y,_,h,_=>by simp at h
 | a::l,b::r,0,x,y,h,k,e=>by
  simp at h k;subst h k
  simp[Zg8,e]
 | a::l,b::r,i+1,x,y,h,k,e=>by
  simp only[Zg8,Zp6 (l:=l) (r:=r) (i:=i) (by simpa using h) (by simpa using k) e,Bool.and_false]
theorem Zlc:∀{l r:List T} {i:Nat} {x y:T},l[i]?=some x→r[i]?=some y→Zg8 (l.take i) (r.take i)=true→x.same y=true→True→Zg8 (l.take (i+1)) (r.take (i+1))=true
 | [],r,i,x,y,h,_,_,_,_=>by simp at h
 | _::_,[],i,x,y,_,h,_,_,_=>by simp at h
 | a::l,b::r,0,x,y,h,k,_,e,_=>by
  simp at h k;subst h k
  simp[Zg8,e]
 | a::l,b::r,i+1,x,y,h,k,hs,e,_=>by
  simp only[List.take_succ_cons,Zg8,Bool.and_eq_true]at hs ⊢
  exact⟨hs.1,Zlc (by simpa using h) (by simpa using k) hs.2 e trivial⟩
theorem ZlX(t:T):t.pos=Zrh t.k t.mn t.mx ((if t.k=2 then 1 else 0)+ZcF t.subs):=by
 cases t;simp only[T.pos,T.k,T.mn,T.mx,T.subs];congr 1
theorem Zbg(l r:List T):ZcF (l++r)=ZcF l+ZcF r:=by
 induction l with
 | nil=>simp[ZcF]
 | cons t l ih=>simp[ZcF,ih,Int.add_assoc]
theorem Zri{l:List T}{i:Nat}{t:T}(h:l[i]?=some t):ZcF (l.take (i+1))=ZcF (l.take i)+t.pos:=by
 have:l.take (i+1)=l.take i++[t]:=by
  rw[List.take_add_one,h];rfl
 rw[this,Zbg];simp[ZcF]
theorem Zp7(x y:Int):x≤Zla x y∧y≤Zla x y:=by unfold Zla;split <;> omega
theorem Zld(x y:Int):Zlb x y≤x∧Zlb x y≤y:=by unfold Zlb;split <;> omega
theorem Zsj{x y:Int}(h:0≤x)(k:0≤y):0≤Zlb x y:=by unfold Zlb;split <;> omega
def Zs7(mn mx:Int):Int:=Zlb (if mx=-1 then Zla (Zla mn 0) 1 else Zla (Zla mn 0) mx) 10001
theorem Zsk(mn mx:Int):0≤Zs7 mn mx∧Zs7 mn mx≤10001:=by
 unfold Zs7
 refine⟨Zsj ?_ (by omega),(Zld _ _).2⟩
 have h1:=Zp7 mn 0
 split
 ·have:=Zp7 (Zla mn 0) 1;omega
 ·have:=Zp7 (Zla mn 0) mx;omega
theorem Zui{k mn mx sum:Int}(h:0≤sum):0≤Zrh k mn mx sum∧Zrh k mn mx sum≤10001:=by
 have h2:=Int.mul_nonneg h (Zsk mn mx).1
 unfold Zrh
 refine⟨Zsj ?_ (by omega),(Zld _ _).2⟩
 split
 ·exact h2
 ·exact h
mutual
theorem Zgb:∀t:T,0≤t.pos∧t.pos≤10001
 | .node k _ _ _ _ mn mx _ _ l=>by
  simp only[T.pos]
  have:=Zeb l
  exact Zui (by split <;> omega)
theorem Zeb:∀l:List T,0≤ZcF l
 | []=>by simp[ZcF]
 | t::l=>by
  simp only[ZcF]
  have:=Zgb t
  have:=Zeb l
  omega
end
theorem Zsl:∀l:List T,ZcF l≤10001*l.length
 | []=>by simp[ZcF]
 | t::l=>by
  simp only[ZcF,List.length_cons]
  have:=Zgb t
  have:=Zsl l
  omega
theorem Zsm(t:T):t.subs.length < t.nodes.length:=by
 rw[Za5,List.length_cons]
 have:∀l:List T,l.length≤(Zar l).length:=by
  intro l
  induction l with
  | nil=>simp[Zar]
  | cons x l ih=>simp only[Zar,List.length_cons,List.length_append];rw[Za5];simp;omega
 have:=this t.subs
 omega
theorem Zrj{t x:T}(h:x∈t.subs):x.nodes.length < t.nodes.length:=by
 obtain⟨i,hi⟩:=List.getElem?_of_mem h
 rw[Za5 t,List.length_cons,ZdZ hi]
 simp;omega
def T.hasB(t:T)(c:Nat):Bool:=((if c / 64=0 then t.s0 else if c / 64=1 then t.s1 else if c / 64=2 then t.s2 else t.s3).toNat).testBit (c % 64)
end Go.Rx
namespace Go.Rx
open Go Go.Eng Go.RowKit
def wdN(f j:Nat):Nat:=(f >>> (64*j)) % 2 ^ 64
theorem Znq(f j:Nat):wdN f j < 18446744073709551616:=by
 unfold wdN
 exact Nat.mod_lt _ (by decide)
theorem Zp8(f j k:Nat):(wdN f j).testBit k=(decide (k < 64)&&f.testBit (64*j+k)):=by
 unfold wdN
 rw[Nat.testBit_mod_two_pow,Nat.testBit_shiftRight]
theorem Zuj(f g j:Nat):wdN (f|||g) j=wdN f j|||wdN g j:=by
 apply Nat.eq_of_testBit_eq
 intro k
 simp only[Zp8,Nat.testBit_or]
 cases decide (k < 64) <;> simp
theorem Zuk{q r j:Nat}(hr:r < 64):wdN (2 ^ (64*q+r)) j=if j=q then 2 ^ r else 0:=by
 apply Nat.eq_of_testBit_eq
 intro k
 rw[Zp8,Nat.testBit_two_pow]
 by_cases hj:j=q
 ·subst hj
  rw[if_pos rfl,Nat.testBit_two_pow]
  by_cases hk:k < 64
  ·simp[hk]
  ·have:¬r=k:=by omega
   simp[hk,this]
 ·rw[if_neg hj]
  simp only[Nat.zero_testBit,Bool.and_eq_false_iff,decide_eq_false_iff_not]
  omega
theorem ZtJ(n:Nat)(h:n < 18446744073709551616):IntKind.u64.wrap (n:Int)=n:=by
 unfold IntKind.wrap
 have e:(2:Int) ^ 64=18446744073709551616:=by decide
 simp only[IntKind.bits,IntKind.signed,Bool.false_and,Bool.false_eq_true,if_false,e]
 omega
theorem ZwX(a:Nat)(h:a < 18446744073709551616):(BitVec.ofInt 64 (a:Int)).toNat=a:=by
 rw[BitVec.toNat_ofInt]
 have e:((2:Nat) ^ 64:Nat)=18446744073709551616:=by decide
 rw[e];omega
theorem Zkc(a b:Nat)(ha:a < 18446744073709551616)(hb:b < 18446744073709551616):IntKind.u64.wrap ((BitVec.ofInt 64 (a:Int)|||BitVec.ofInt 64 (b:Int)).toNat:Int)=((a|||b:Nat):Int):=by
 rw[BitVec.toNat_or,ZwX a ha,ZwX b hb]
 exact ZtJ _ (Nat.or_lt_two_pow (n:=64) ha hb)
theorem Zp9(a r:Nat)(ha:a < 18446744073709551616):(IntKind.u64.wrap ((BitVec.ofInt 64 (Int.fdiv (a:Int) (2 ^ r))&&&BitVec.ofInt 64 1).toNat:Int) == 1)=a.testBit r:=by
 have e:Int.fdiv (a:Int) (2 ^ r)=((a >>> r:Nat):Int):=by
  rw[Nat.shiftRight_eq_div_pow,Int.fdiv_eq_ediv_of_nonneg _ (Int.pow_nonneg (by omega))]
  push_cast
  rfl
 have bK:a >>> r < 18446744073709551616:=Nat.lt_of_le_of_lt (Nat.shiftRight_le a r) ha
 rw[e,BitVec.toNat_and,ZwX _ bK]
 have h1:(BitVec.ofInt 64 1).toNat=1:=by decide
 rw[h1,ZtJ _ (Nat.lt_of_le_of_lt Nat.and_le_left bK),Nat.and_one_is_mod]
 have e2:a.testBit r=decide (a >>> r % 2=1):=by
  rw[Nat.shiftRight_eq_div_pow];exact Nat.testBit_eq_decide_div_mod_eq
 rw[e2,Bool.eq_iff_iff]
 simp only[beq_iff_eq,decide_eq_true_eq]
 omega
def plV(f:Nat):Value:=.agg #[.int .u64 (wdN f 0:Nat),.int .u64 (wdN f 1:Nat),.int .u64 (wdN f 2:Nat),.int .u64 (wdN f 3:Nat),.int .u64 (wdN f 4:Nat),.int .u64 (wdN f 5:Nat),.int .u64 (wdN f 6:Nat),.int .u64 (wdN f 7:Nat),.int .u64 (wdN f 8:Nat)]
end Go.Rx
set_option linter.unusedSectionVars false
namespace Go.Rx
open Go Go.Eng Go.RowKit
def Byt(m:Mem)(a:Option Addr)(s:List Nat):Prop:=(s=[]∨∃b o,a=some ⟨b,o,none⟩∧m.reads b o (s.map fun c:Nat=>Value.int .u8 c))∧∀c∈s,c < 256
theorem Byt.mono{m m':Mem}{a s}(h:Byt m a s)(hm:m.le m'):Byt m' a s:=by
 refine⟨?_,h.2⟩
 rcases h.1 with h|⟨b,o,h1,h2⟩
 ·exact .inl h
 ·exact .inr ⟨b,o,h1,h2.mono hm⟩
theorem Byt.get{m:Mem}{a s}(h:Byt m a s){i c:Nat}(hi:s[i]?=some c):(∃b o,a=some ⟨b,o,none⟩∧m b (o+i)=some (.int .u8 c))∧c < 256:=by
 refine⟨?_,h.2 c (List.mem_of_getElem? hi)⟩
 rcases h.1 with h|⟨b,o,h1,h2⟩
 ·subst h;simp at hi
 ·exact⟨b,o,h1,h2 i _ (by rw[List.getElem?_map,hi];rfl)⟩
def ZwC(t:T)(back:Bool)(f i c out:Nat):Nat:=if(f.testBit (if back then i+1 else i)&&t.hasB c)=true then out|||2 ^ (if back then i else i+1)else out
def Zxd(t:T)(back:Bool)(f:Nat):List Nat→Nat→Nat→Nat
 | [],_,out=>out
 | c::s,i,out=>Zxd t back f s (i+1) (ZwC t back f i c out)
def ZwY(g:Nat→Nat):Nat→Nat→Nat
 | 0,f=>f
 | n+1,f=>ZwY g n (g f)
def Zwa(g:Nat→Nat)(mx:Int):Nat→Int→Nat→Nat→Nat
 | 0,_,out,_=>out
 | n+1,k,out,last=>if k=mx then out else if out|||g last=out then out else Zwa g mx n (IntKind.i64.wrap (k+1)) (out|||g last) (g last)
@[irreducible] def Zxk:Nat:=576
abbrev ZwZ:Nat:=2 ^ Zxk
def Zxl(g:Nat→Nat)(mn mx:Int)(f:Nat):Nat:=Zwa g mx (ZwZ+1) mn (ZwY g mn.toNat f) (ZwY g mn.toNat f)
mutual
def T.lead(s:List Nat)(back:Bool):T→Nat→Nat
 | .node k s0 s1 s2 s3 mn mx a c l=>fun f=>
  if k=1 then f else if k=2 then Zxd (.node k s0 s1 s2 s3 mn mx a c l) back f s 0 0
  else if k=3 then(if back then Zwc s back l f else Zwb s back l f)
  else if k=4 then Zxe s back l f 0
  else if k=5 then Zxl (Zwd s back l) mn mx f
  else if k=6 then Zwd s back l f else 0
def Zwb(s:List Nat)(back:Bool):List T→Nat→Nat
 | []=>fun f=>f
 | t::l=>fun f=>Zwb s back l (t.lead s back f)
def Zwc(s:List Nat)(back:Bool):List T→Nat→Nat
 | []=>fun f=>f
 | t::l=>fun f=>t.lead s back (Zwc s back l f)
def Zxe(s:List Nat)(back:Bool):List T→Nat→Nat→Nat
 | []=>fun _ out=>out
 | t::l=>fun f out=>Zxe s back l f (out|||t.lead s back f)
def Zwd(s:List Nat)(back:Bool):List T→Nat→Nat
 | []=>fun f=>f
 | t::_=>fun f=>t.lead s back f
end
section
variable {s:List Nat} {back:Bool}
end
theorem ZcO{α:Type}{l:List α}{i:Nat}{x:α}(h:l[i]?=some x):l.drop i=x::l.drop (i+1):=by
 obtain⟨h1,h2⟩:=List.getElem?_eq_some_iff.1 h
 rw[List.drop_eq_getElem_cons h1,h2]
theorem Zqa{α:Type}{l:List α}{i:Nat}{x:α}(h:l[i]?=some x):l.take (i+1)=l.take i++[x]:=by
 rw[List.take_add_one,h];rfl
section
variable (s:List Nat) (back:Bool) (hs:s.length≤512)
include hs
end
end Go.Rx
namespace Go.Rx
open Go Go.Eng Go.RowKit
def T0:T:=.node 0 0 0 0 0 0 0 none 0 []
def T1:T:=.node 1 0 0 0 0 0 0 none 0 []
theorem Zs8(m:Mem):Rep m T0:=by simp only[T0,Rep];exact⟨by simp,.inl trivial,by constructor <;> decide⟩
theorem Zrk(m:Mem):Rep m T1:=by simp only[T1,Rep];exact⟨by simp,.inl trivial,by constructor <;> decide⟩
def T.isNone(t:T):Bool:=t.k == 0&&(t.light&&(T0.light&&t.same T0))
def T.wrong(t:T)(len:Nat)(i:Int):Int:=if(!t.isNone&&!(t.check == 0))=true then 130 else if(len:Int) > 512 then 3 else if i < 0∨i > len then 2 else 0
structure Rg where
 bg:Bool
 en:Bool
 t:T
def Rg.v(r:Rg):Value:=.agg #[.bool r.bg,.bool r.en,.int .u8 r.t.k,.int .u64 r.t.s0,.int .u64 r.t.s1,.int .u64 r.t.s2,.int .u64 r.t.s3,.int .i64 r.t.mn,.int .i64 r.t.mx,.slice r.t.a r.t.subs.length r.t.c]
def Rg.cs(r:Rg):List Value:=[.bool r.bg,.bool r.en,.int .u8 r.t.k,.int .u64 r.t.s0,.int .u64 r.t.s1,.int .u64 r.t.s2,.int .u64 r.t.s3,.int .i64 r.t.mn,.int .i64 r.t.mx,.slice r.t.a r.t.subs.length r.t.c]
def Rgs(m:Mem)(a:Option Addr)(l:List Rg):Prop:=l.length≤1000000000000000∧(l=[]∨∃b o,a=some ⟨b,o,none⟩∧∀i r,l[i]?=some r→m.reads b (o+i*10) r.cs)∧∀r∈l,Rep m r.t
theorem Rgs.mono{m m':Mem}{a l}(h:Rgs m a l)(hm:m.le m'):Rgs m' a l:=by
 refine⟨h.1,?_,fun r hr=>(h.2.2 r hr).mono hm⟩
 rcases h.2.1 with h|⟨b,o,h1,h2⟩
 ·exact .inl h
 ·exact .inr ⟨b,o,h1,fun i r hi=>(h2 i r hi).mono hm⟩
def ZvH(f:Nat):List Nat:=(List.range 513).filter fun i=>f.testBit i
def Zul(n:Nat):List Nat→Option Nat
 | []=>none
 | i::_=>if i > n then none else some i
def Rg.from(s:List Nat)(n:Nat)(r:Rg):Option Nat:=if(r.en&&decide ((n:Int) < s.length))=true then none else if r.bg then(if(r.t.lead s true (2 ^ n)).testBit 0 then some 0 else none)else
 Zul n (ZvH (r.t.lead s true (2 ^ n)))
def Rg.wrong(r:Rg)(len:Nat)(n:Int):Int:=if r.t.check=0 then r.t.wrong len n else 130
def ZvI(l:List Rg)(len:Nat)(n:Int):Int:=if(l.length:Int) > 64 then 5 else if l.all (fun r=>r.t.check == 0)then T1.wrong len n else 130
end Go.Rx
namespace Go.Rx
open Go Go.Eng Go.RowKit
def Zjj(φ:T→Prop):Value→Mem→List (List Value)→Prop:=fun v m' _=>∃t:T,v=t.v∧Rep m' t∧φ t
abbrev TRK:=Int→Int→Int→Int→Int→Int→Int→Option Addr→Nat→Nat→Mem→Prop
theorem ZgY{φ:T→Prop}{m:Mem}{K:TRK}(k:∀(t:T)(m':Mem),m.le m'→Rep m' t→φ t→K t.k t.s0 t.s1 t.s2 t.s3 t.mn t.mx t.a t.subs.length t.c m'):
  ∀(n0 n1 n2 n3 n4 n5 n6:Int)(a:Option Addr)(n c:Nat)(m':Mem),m.le m'→Zjj φ (.agg #[.int .u8 n0,.int .u64 n1,.int .u64 n2,.int .u64 n3,.int .u64 n4,.int .i64 n5,.int .i64 n6,.slice a n c]) m' []→K n0 n1 n2 n3 n4 n5 n6 a n c m':=by
 rintro n0 n1 n2 n3 n4 n5 n6 a n c m' hm ⟨t,hv,hr,hp⟩
 simp only[T.v,Value.agg.injEq,Array.mk.injEq,List.cons.injEq,Value.int.injEq,Value.slice.injEq,true_and,and_true]at hv
 obtain⟨rfl,rfl,rfl,rfl,rfl,rfl,rfl,rfl,rfl,rfl⟩:=hv
 exact k t m' hm hr hp
theorem Zb8{φ:T→Prop}:∀(v:Value)(m':Mem) (css:List (List Value)),Zjj φ v m' css→Shape.fits (.agg [.int .u8,.int .u64,.int .u64,.int .u64,.int .u64,.int .i64,.int .i64,.slice]) v=true:=fun v _ _ ⟨t,e,_⟩=>by rw[e];rfl
def ZbJ(c j:Nat):Int:=if c / 64=j then((2 ^ (c % 64):Nat):Int)else 0
def Zaq(c:Nat):T:=.node 2 (ZbJ c 0) (ZbJ c 1) (ZbJ c 2) (ZbJ c 3) 0 0 none 0 []
theorem ZeA(c j:Nat):0≤ZbJ c j∧ZbJ c j < 18446744073709551616:=by
 unfold ZbJ
 split
 ·have h:(2:Nat) ^ (c % 64) < 2 ^ 64:=Nat.pow_lt_pow_right (by omega) (by omega)
  have e:(2:Nat) ^ 64=18446744073709551616:=by decide
  rw[e]at h
  generalize (2:Nat) ^ (c % 64)=w at *
  exact⟨by omega,by omega⟩
 ·omega
theorem ZeO(c:Nat)(m:Mem):Rep m (Zaq c):=by
 simp only[Zaq,Rep]
 exact⟨by simp,.inl trivial,⟨by omega,ZeA c 0,ZeA c 1,ZeA c 2,ZeA c 3,by omega,by omega⟩⟩
def RepL(m:Mem)(a:Option Addr)(l:List T):Prop:=l.length≤1000000000000000∧(l=[]∨∃b o,a=some ⟨b,o,none⟩∧RepAt m b o l)
theorem RepL.mono{m m':Mem}{a l}(h:RepL m a l)(hm:m.le m'):RepL m' a l:=by
 refine⟨h.1,?_⟩
 rcases h.2 with h|⟨b,o,h1,h2⟩
 ·exact .inl h
 ·exact .inr ⟨b,o,h1,h2.mono hm⟩
theorem Rep.subs{m:Mem}{t:T}(h:Rep m t):RepL m t.a t.subs:=ZdA h
def Za0(k mn mx:Int)(a:Option Addr)(c:Nat)(l:List T):T:=.node k 0 0 0 0 mn mx a c l
theorem Zbh{m:Mem}{k mn mx:Int}{a:Option Addr}{c:Nat}{l:List T}(h:RepL m a l)(hk:0≤k∧k < 256)(h1 : -9223372036854775808≤mn∧mn≤9223372036854775807)(h2 : -9223372036854775808≤mx∧mx≤9223372036854775807):Rep m (Za0 k mn mx a c l):=by
 simp only[Za0,Rep]
 exact⟨h.1,h.2,⟨hk,by omega,by omega,by omega,by omega,h1,h2⟩⟩
theorem Zqb{m:Mem}{b:Nat}{t:T}(h:m.reads b 0 t.cs)(hr:Rep m t):RepL m (some ⟨b,0,none⟩) [t]:=⟨by simp,.inr ⟨b,0,rfl,by simp only[RepAt];exact⟨h,hr,trivial⟩⟩⟩
def Zcc(l:List T):List Value:=(l.map T.cs).flatten
theorem Zau(l:List T):(Zcc l).length=l.length*8:=by
 induction l with
 | nil=>rfl
 | cons t l ih=>simp[Zcc,T.cs]at ih ⊢;omega
theorem Znr(l:List T)(t:T):Zcc (l++[t])=Zcc l++t.cs:=by simp[Zcc]
theorem ZaM(l r:List T):Zcc (l++r)=Zcc l++Zcc r:=by simp[Zcc]
theorem Zqc{m:Mem}{b:Nat}:∀{o:Nat} {l:List T},m.reads b o (Zcc l)→(∀t∈l,Rep m t)→RepAt m b o l
 | o,[],_,_=>by simp only[RepAt]
 | o,t::l,h,hr=>by
  simp only[RepAt]
  refine⟨fun j v hj=>?_,hr t (by simp),Zqc (fun j v hj=>?_) fun x hx=>hr x (by simp[hx])⟩
  ·refine h j v ?_
   simp only[Zcc,List.map_cons,List.flatten_cons]
   rw[List.getElem?_append_left (List.getElem?_eq_some_iff.1 hj).1];exact hj
  ·have:=h (8+j) v (by
    simp only[Zcc,List.map_cons,List.flatten_cons]
    rw[List.getElem?_append_right (by simp[T.cs])]
    have e:8+j - t.cs.length=j:=by simp[T.cs]
    rw[e];exact hj)
   rw[show o+8+j=o+(8+j) by omega];exact this
theorem Zle{m:Mem}{a:Option Addr}{l:List T}(h:rowRd m a (Zcc l))(hr:∀t∈l,Rep m t)(hl:l.length≤1000000000000000):RepL m a l:=by
 refine⟨hl,?_⟩
 cases l with
 | nil=>exact .inl rfl
 | cons t l=>
  rcases h with h|⟨b,o,h1,h2⟩
  ·simp[Zcc,T.cs]at h
  ·exact .inr ⟨b,o,h1,Zqc h2 hr⟩
theorem Zcg{m:Mem}{a:Option Addr}{l:List T}(h:RepL m a l):rowRd m a (Zcc l):=by
 have key:∀(l:List T)(b o:Nat),RepAt m b o l→m.reads b o (Zcc l):=by
  intro l
  induction l with
  | nil=>intro b o _ j v hj;simp[Zcc]at hj
  | cons t l ih=>
   intro b o hr j v hj
   simp only[RepAt]at hr
   simp only[Zcc,List.map_cons,List.flatten_cons]at hj
   by_cases bK:j < 8
   ·rw[List.getElem?_append_left (by simpa[T.cs]using bK)]at hj
    exact hr.1 j v hj
   ·rw[List.getElem?_append_right (by simp[T.cs];omega)]at hj
    have:=ih b (o+8) hr.2.2 (j - 8) v (by simpa[T.cs,Zcc]using hj)
    rw[show o+8+(j - 8)=o+j by omega]at this;exact this
 rcases h.2 with h|⟨b,o,h1,h2⟩
 ·subst h;exact .inl rfl
 ·exact .inr ⟨b,o,h1,key l b o h2⟩
theorem Ze0{m:Mem}{a:Option Addr}{l:List T}(h:RepL m a l):∀t∈l,Rep m t:=by
 rcases h.2 with h|⟨b,o,_,h⟩
 ·subst h;simp
 ·intro t ht
  obtain⟨i,hi⟩:=List.getElem?_of_mem ht
  exact(h.get hi).2
def Zw0(j:Nat)(w c:Nat):Nat:=if c / 64=j then w|||2 ^ (c % 64)else w
def Zr6(bs:List Nat)(j:Nat):Nat:=bs.foldl (Zw0 j) 0
theorem Zrl(l:List Nat)(c j:Nat):Zr6 (l++[c]) j=if c / 64=j then Zr6 l j|||2 ^ (c % 64)else Zr6 l j:=by
 unfold Zr6
 rw[List.foldl_append];rfl
theorem Zsn(l:List Nat)(j:Nat):Zr6 l j < 18446744073709551616:=by
 have key:∀(l:List Nat)(w:Nat),w < 2 ^ 64→l.foldl (Zw0 j) w < 2 ^ 64:=by
  intro l
  induction l with
  | nil=>intro w h;exact h
  | cons c l ih=>
   intro w h
   refine ih _ ?_
   unfold Zw0
   split
   ·exact Nat.or_lt_two_pow h (Nat.pow_lt_pow_right (by omega) (by omega))
   ·exact h
 exact key l 0 (by decide)
def Zkd(bs:List Nat):T:=.node 2 (Zr6 bs 0:Nat) (Zr6 bs 1:Nat) (Zr6 bs 2:Nat) (Zr6 bs 3:Nat) 0 0 none 0 []
theorem Zns(bs:List Nat)(m:Mem):Rep m (Zkd bs):=by
 simp only[Zkd,Rep]
 have h:=Zsn bs
 exact⟨by simp,.inl trivial,⟨by omega,⟨by omega,by have:=h 0;omega⟩,⟨by omega,by have:=h 1;omega⟩,⟨by omega,by have:=h 2;omega⟩,⟨by omega,by have:=h 3;omega⟩,by omega,by omega⟩⟩
def Zso(bs:List Nat):List Value:=[.int .u64 (Zr6 bs 0:Nat),.int .u64 (Zr6 bs 1:Nat),.int .u64 (Zr6 bs 2:Nat),.int .u64 (Zr6 bs 3:Nat)]
theorem Zrm(bs:List Nat){j:Nat}(h:j < 4):(Zso bs)[j]?=some (.int .u64 (Zr6 bs j:Nat)):=by
 have:j=0∨j=1∨j=2∨j=3:=by omega
 rcases this with rfl|rfl|rfl|rfl <;> rfl
theorem ZoY(l:List Nat){c j:Nat}(hj:c / 64=j)(h:j < 4):Zan (Zso l) j [.int .u64 ((Zr6 l j|||2 ^ (c % 64):Nat):Int)]=Zso (l++[c]):=by
 unfold Zso
 simp only[Zrl,hj]
 have:j=0∨j=1∨j=2∨j=3:=by omega
 rcases this with rfl|rfl|rfl|rfl <;> rfl
def ZdN(n:Nat):List Nat:=([[97],[98],[97,98],[97],[98],[99],[97,98,99],[98,99],[10],[0,255],[97],[98]][n % 12]?).getD []
end Go.Rx
namespace Go.Rx
open Go Go.Eng Go.RowKit
def T.good(t:T):Bool:=t.nodes.all T.right
def isG(t:T):Bool:=t.k == 6
theorem Zlf(p:T→Bool):∀l:List T,(Zar l).all p=l.all fun t=>t.nodes.all p
 | []=>rfl
 | t::l=>by simp only[Zar,List.all_append,List.all_cons,Zlf p l]
theorem Zlg(t:T):t.good=(t.right&&t.subs.all T.good):=by
 unfold T.good;rw[Za5,List.all_cons,Zlf]
def grL(l:List T):Nat:=(Zar l).countP isG
def szL(l:List T):Nat:=(Zar l).length
def T.gr(t:T):Nat:=t.nodes.countP isG
theorem ZaQ(l r:List T):szL (l++r)=szL l+szL r:=by unfold szL;rw[Zdj,List.length_append]
theorem ZbV(l r:List T):grL (l++r)=grL l+grL r:=by unfold grL;rw[Zdj,List.countP_append]
theorem ZbK(t:T):szL [t]=t.nodes.length:=by simp[szL,Zar]
theorem ZdB(t:T):grL [t]=t.gr:=by simp[grL,Zar,T.gr]
theorem Zcq(t:T):ZcF [t]=t.pos:=by simp[ZcF]
theorem Zke(t:T)(l:List T):szL (t::l)=t.nodes.length+szL l:=by simp[szL,Zar]
theorem Zqd(t:T)(l:List T):grL (t::l)=t.gr+grL l:=by simp[grL,Zar,T.gr,List.countP_append]
theorem Zqe(t:T):t.nodes.length=1+szL t.subs:=by rw[Za5,List.length_cons,szL];omega
theorem Zum(t:T):t.gr=(if isG t=true then 1 else 0)+grL t.subs:=by
 unfold T.gr;rw[Za5,List.countP_cons,grL];omega
theorem Znt(l:List T):l.length≤szL l:=by
 induction l with
 | nil=>simp
 | cons t l ih=>rw[Zke,Zqe,List.length_cons];omega
def ZbL(k:Int)(t:T):List T:=if t.k=k then t.subs else if k=3∧t.k=1 then[]else[t]
def Zfx(k:Int)(a:Option Addr)(c:Nat):List T→T
 | []=>T1
 | [x]=>x
 | x::y::l=>Za0 k 0 0 a c (x::y::l)
theorem Zkf{t:T}{k:Int}(h:t.has k=false):∀x∈t.subs,x.k≠k:=by
 intro x hx e
 unfold T.has at h
 have:=List.any_eq_false.1 h x hx
 simp[e]at this
theorem Zs9{t:T}{k:Int}(h:∀x∈t.subs,x.k≠k):t.has k=false:=by
 unfold T.has
 rw[List.any_eq_false]
 intro x hx
 have:=h x hx
 simpa using this
theorem Zkg{k:Int}{t:T}(hk:k=3∨k=4)(hg:t.good=true)(hp:t.pos≤10000):(∀x∈ZbL k t,x.good=true∧x.k≠k∧(k=3→x.k≠1))∧szL (ZbL k t)≤t.nodes.length∧grL (ZbL k t)≤t.gr∧ZcF (ZbL k t)≤t.pos:=by
 have hg':=hg
 rw[Zlg,Bool.and_eq_true,List.all_eq_true]at hg'
 unfold ZbL
 split
 ·rename_i dZ
  refine⟨fun x hx=>⟨hg'.2 x hx,?_⟩,by rw[Zqe];omega,by rw[Zum];omega,?_⟩
  ·have hr:=hg'.1
   unfold T.right at hr
   rw[Bool.and_eq_true]at hr
   have hr:=hr.2
   rcases hk with rfl|rfl
   ·simp only[dZ]at hr
    simp at hr
    exact⟨Zkf hr.2.2 x hx,fun _=>Zkf hr.2.1 x hx⟩
   ·simp only[dZ]at hr
    simp at hr
    exact⟨Zkf hr.2 x hx,fun h=>by omega⟩
  ·rw[ZlX]at hp ⊢
   have h5:¬t.k=5:=by omega
   have h2:¬t.k=2:=by omega
   unfold Zrh at hp ⊢
   rw[if_neg h5,if_neg h2,Int.zero_add]at hp ⊢
   unfold Zlb at hp ⊢
   split at hp
   ·omega
   ·split <;> omega
 ·rename_i dZ
  split
  ·refine⟨fun x hx=>by simp at hx,by simp[szL,Zar],by simp[grL,Zar],?_⟩
   simp only[ZcF];exact(Zgb t).1
  ·rename_i uN
   refine⟨fun x hx=>?_,by rw[ZbK];exact Nat.le_refl _,by rw[ZdB];exact Nat.le_refl _,by rw[Zcq];exact Int.le_refl _⟩
   simp at hx;subst hx
   exact⟨hg,dZ,fun h=>fun h1=>uN ⟨h,h1⟩⟩
theorem Znu{k:Int}(hk:k=3∨k=4)(a:Option Addr)(c:Nat):∀{l:List T},(∀x∈l,x.good=true∧x.k≠k∧(k=3→x.k≠1))→(Zfx k a c l).good=true∧(Zfx k a c l).nodes.length≤1+szL l∧(Zfx k a c l).gr≤grL l∧(Zfx k a c l).pos≤ZcF l
 | [],_=>⟨show T1.good=true by decide,show T1.nodes.length≤1 by decide,show T1.gr≤0 by decide,show T1.pos≤0 by decide⟩
 | [x],h=>by
  rw[ZbK,ZdB,Zcq]
  exact⟨(h x (by simp)).1,by show x.nodes.length≤_;omega,Nat.le_refl _,Int.le_refl _⟩
 | x::y::l,h=>by
  show(Za0 k 0 0 a c (x::y::l)).good=true∧(Za0 k 0 0 a c (x::y::l)).nodes.length≤_∧(Za0 k 0 0 a c (x::y::l)).gr≤_∧(Za0 k 0 0 a c (x::y::l)).pos≤_
  have hs:(Za0 k 0 0 a c (x::y::l)).subs=x::y::l:=rfl
  have dZ:(Za0 k 0 0 a c (x::y::l)).k=k:=rfl
  have hz:(Za0 k 0 0 a c (x::y::l)).setZ=true:=rfl
  have tz:(Za0 k 0 0 a c (x::y::l)).mn=0:=rfl
  have jt:(Za0 k 0 0 a c (x::y::l)).mx=0:=rfl
  refine⟨?_,by rw[Zqe,hs];exact Nat.le_refl _,?_,?_⟩
  ·rw[Zlg,Bool.and_eq_true,List.all_eq_true,hs]
   refine⟨?_,fun z hz=>(h z hz).1⟩
   have h1:k=3→(Za0 k 0 0 a c (x::y::l)).has 1=false:=fun e=>Zs9 fun z hz=>(h z hz).2.2 e
   have h2:(Za0 k 0 0 a c (x::y::l)).has k=false:=Zs9 fun z hz=>(h z hz).2.1
   unfold T.right
   rw[dZ,hz,tz,jt,hs]
   rcases hk with rfl|rfl
   ·simp[h1 rfl,h2]
   ·simp[h2]
  ·rw[Zum,hs,isG,dZ]
   rcases hk with rfl|rfl <;> simp
  ·rw[ZlX,dZ,tz,jt,hs]
   unfold Zrh
   rw[if_neg (by omega),if_neg (by omega),Int.zero_add]
   exact(Zld _ _).1
structure J (i:Nat)(ts:List T)(u g:Nat):Prop where
 good:∀t∈ts,t.good=true
 sz:szL ts≤i
 pos:ZcF ts≤(i*u:Nat)
 u1:1≤u
 u16:u≤16
 gr:grL ts≤g
 g9:g≤9
theorem J.zero:J 0 [] 1 0:=⟨by simp,by simp[szL,Zar],by simp[ZcF],by omega,by omega,by simp[grL,Zar],by omega⟩
theorem J.skip{i ts u g}(h:J i ts u g):J (i+1) ts u g:=
 ⟨h.good,by have:=h.sz;omega,by have:=h.pos;have e:(i+1)*u=i*u+u:=Nat.succ_mul i u;rw[e];omega,h.u1,h.u16,h.gr,h.g9⟩
theorem J.push{i ts u g}(h:J i ts u g){t:T}(hg:t.good=true)(hs:t.nodes.length=1)(hp:t.pos≤1)(hr:t.gr=0):J (i+1) (ts++[t]) u g:=by
 refine⟨fun x hx=>?_,?_,?_,h.u1,h.u16,?_,h.g9⟩
 ·rcases List.mem_append.1 hx with hx|hx
  ·exact h.good x hx
  ·simp at hx;subst hx;exact hg
 ·rw[ZaQ,ZbK,hs];have:=h.sz;omega
 ·rw[Zbg,Zcq];have:=h.pos;have:=h.u1;have e:(i+1)*u=i*u+u:=Nat.succ_mul i u;rw[e];omega
 ·rw[ZbV,ZdB,hr];have:=h.gr;omega
theorem J.pos400{i ts u g}(h:J i ts u g)(hi:i≤25):ZcF ts≤400:=by
 have h1:=h.pos
 have:i*u≤25*16:=Nat.mul_le_mul hi h.u16
 omega
theorem J.join{i ts u g}{x y:T}(h:J i (ts++[x,y]) u g)(hi:i≤25){k:Int}(hk:k=3∨k=4)(a:Option Addr)(c:Nat):J (i+1) (ts++[Zfx k a c (ZbL k x++ZbL k y)]) u g:=by
 have h4:=h.pos400 hi
 have hz:=h.sz
 have hp:=h.pos
 have k8:=h.gr
 rw[show ts++[x,y]=ts++([x]++[y]) from rfl]at h4 hz hp k8
 rw[Zbg,Zbg,Zcq,Zcq]at h4 hp
 rw[ZaQ,ZaQ,ZbK,ZbK]at hz
 rw[ZbV,ZbV,ZdB,ZdB]at k8
 have n1:=Zeb ts
 have n2:=(Zgb x).1
 have n3:=(Zgb y).1
 obtain⟨a1,a2,a3,a4⟩:=Zkg hk (h.good x (by simp)) (by omega)
 obtain⟨b1,b2,b3,b4⟩:=Zkg hk (h.good y (by simp)) (by omega)
 obtain⟨c1,c2,c3,c4⟩:=Znu hk a c (l:=ZbL k x++ZbL k y) (fun z hz=>by
  rcases List.mem_append.1 hz with hz|hz
  ·exact a1 z hz
  ·exact b1 z hz)
 rw[ZaQ]at c2
 rw[ZbV]at c3
 rw[Zbg]at c4
 refine⟨fun z hz=>?_,?_,?_,h.u1,h.u16,?_,h.g9⟩
 ·rcases List.mem_append.1 hz with hz|hz
  ·exact h.good z (by simp[hz])
  ·simp at hz;subst hz;exact c1
 ·rw[ZaQ,ZbK];omega
 ·rw[Zbg,Zcq];have e:(i+1)*u=i*u+u:=Nat.succ_mul i u;rw[e];omega
 ·rw[ZbV,ZdB];omega
theorem J.group{i ts u g}{x:T}(h:J i (ts++[x]) u g)(hg:g < 9)(a:Option Addr)(c:Nat):J (i+1) (ts++[Za0 6 0 0 a c [x]]) u (g+1):=by
 have hz:=h.sz
 have hp:=h.pos
 have k8:=h.gr
 rw[Zbg,Zcq]at hp
 rw[ZaQ,ZbK]at hz
 rw[ZbV,ZdB]at k8
 have hs:(Za0 6 0 0 a c [x]).subs=[x]:=rfl
 refine⟨fun z hz=>?_,?_,?_,h.u1,h.u16,?_,by omega⟩
 ·rcases List.mem_append.1 hz with hz|hz
  ·exact h.good z (by simp[hz])
  ·simp at hz;subst hz
   rw[Zlg,Bool.and_eq_true,List.all_eq_true]
   refine⟨rfl,fun z hz=>?_⟩
   rw[hs]at hz;simp at hz;subst hz
   exact h.good z (by simp)
 ·rw[ZaQ,ZbK,Zqe,hs,ZbK];omega
 ·rw[Zbg,Zcq,ZlX,hs,Zcq]
  have:Zrh (Za0 6 0 0 a c [x]).k (Za0 6 0 0 a c [x]).mn (Za0 6 0 0 a c [x]).mx ((if(Za0 6 0 0 a c [x]).k=2 then 1 else 0)+x.pos)≤x.pos:=by
   show Zlb (if(6:Int)=5 then _ else(if(6:Int)=2 then 1 else 0)+x.pos) 10001≤_
   rw[if_neg (by omega),if_neg (by omega),Int.zero_add]
   exact(Zld _ _).1
  have e:(i+1)*u=i*u+u:=Nat.succ_mul i u
  rw[e];omega
 ·rw[ZbV,ZdB,Zum,hs,ZdB]
  split <;> omega
theorem J.rep{i ts u g}{x:T}(h:J i (ts++[x]) u g)(hx:x.k≠1){mn mx:Int}(hb:Zd0 mn mx=true){w:Nat}(hw:Zs7 mn mx≤w)(h1:1≤w)(hu:u*w≤16)(a:Option Addr)(c:Nat):J (i+1) (ts++[Za0 5 mn mx a c [x]]) (u*w) g:=by
 have hz:=h.sz
 have hp:=h.pos
 have k8:=h.gr
 rw[Zbg,Zcq]at hp
 rw[ZaQ,ZbK]at hz
 rw[ZbV,ZdB]at k8
 have hs:(Za0 5 mn mx a c [x]).subs=[x]:=rfl
 have n1:=Zeb ts
 have n2:=(Zgb x).1
 refine⟨fun z hz=>?_,?_,?_,?_,hu,?_,h.g9⟩
 ·rcases List.mem_append.1 hz with hz|hz
  ·exact h.good z (by simp[hz])
  ·simp at hz;subst hz
   rw[Zlg,Bool.and_eq_true,List.all_eq_true]
   refine⟨?_,fun z hz=>?_⟩
   ·have hh:(Za0 5 mn mx a c [x]).has 1=false:=Zs9 fun z hz=>by rw[hs]at hz;simp at hz;subst hz;exact hx
    unfold T.right
    rw[hh,hs,show(Za0 5 mn mx a c [x]).k=5 from rfl,show(Za0 5 mn mx a c [x]).setZ=true from rfl,show(Za0 5 mn mx a c [x]).mn=mn from rfl,show(Za0 5 mn mx a c [x]).mx=mx from rfl,hb]
    simp
   ·rw[hs]at hz;simp at hz;subst hz
    exact h.good z (by simp)
 ·rw[ZaQ,ZbK,Zqe,hs,ZbK];omega
 ·rw[Zbg,Zcq,ZlX,hs,Zcq]
  have key:Zrh (Za0 5 mn mx a c [x]).k (Za0 5 mn mx a c [x]).mn (Za0 5 mn mx a c [x]).mx ((if(Za0 5 mn mx a c [x]).k=2 then 1 else 0)+x.pos)≤x.pos*w:=by
   show Zlb (if(5:Int)=5 then((if(5:Int)=2 then 1 else 0)+x.pos)*Zs7 mn mx else _) 10001≤_
   rw[if_pos rfl,if_neg (by omega),Int.zero_add]
   exact Int.le_trans (Zld _ _).1 (Int.mul_le_mul_of_nonneg_left hw n2)
  have k2:ZcF ts≤ZcF ts*w:=by
   have:=Int.mul_le_mul_of_nonneg_left (show(1:Int)≤w by omega) n1
   rw[Int.mul_one]at this;exact this
  have k3:(ZcF ts+x.pos)*w≤((i*u:Nat):Int)*w:=Int.mul_le_mul_of_nonneg_right hp (by omega)
  rw[Int.add_mul]at k3
  have e:(i+1)*(u*w)=i*u*w+u*w:=by rw[Nat.succ_mul,Nat.mul_assoc]
  have e2:(((i*u:Nat):Int)*w)=((i*u*w:Nat):Int):=by push_cast;rfl
  rw[e2]at k3
  rw[e]
  generalize i*u*w=A at *
  generalize u*w=B at *
  generalize ZcF ts*(w:Int)=D at *
  generalize x.pos*(w:Int)=F at *
  omega
 ·have:=Nat.mul_le_mul h.u1 h1;omega
 ·rw[ZbV,ZdB,Zum,hs,ZdB,isG,show(Za0 5 mn mx a c [x]).k=5 from rfl]
  simp;omega
structure F (t:T)(l:List T):Prop where
 good:t.good=true
 goods:∀x∈l,x.good=true
 sz:t.nodes.length+szL l+l.length≤60
 pos:t.pos+ZcF l≤400
 gr:t.gr+grL l≤9
theorem F.start{i u g}{t:T}{l:List T}(h:J i (t::l) u g)(hi:i≤25):F t l:=by
 have h1:=h.sz
 have h2:=h.pos400 hi
 have h3:=h.gr
 rw[Zke]at h1
 rw[Zqd]at h3
 have:=Znt l
 have:=h.g9
 exact⟨h.good t (by simp),fun x hx=>h.good x (by simp[hx]),by omega,by simpa[ZcF]using h2,by omega⟩
theorem F.step{t x:T}{l:List T}(h:F t (x::l))(a:Option Addr)(c:Nat):F (Zfx 4 a c (ZbL 4 t++ZbL 4 x)) l:=by
 have h1:=h.sz
 have h2:=h.pos
 have h3:=h.gr
 rw[Zke,List.length_cons]at h1
 rw[Zqd]at h3
 simp only[ZcF]at h2
 have n1:=Zeb l
 have n2:=(Zgb x).1
 have n3:=(Zgb t).1
 obtain⟨a1,a2,a3,a4⟩:=Zkg (.inr rfl) h.good (by omega) (t:=t)
 obtain⟨b1,b2,b3,b4⟩:=Zkg (.inr rfl) (h.goods x (by simp)) (by omega)
 obtain⟨c1,c2,c3,c4⟩:=Znu (.inr rfl) a c (l:=ZbL 4 t++ZbL 4 x) (fun z hz=>by
  rcases List.mem_append.1 hz with hz|hz
  ·exact a1 z hz
  ·exact b1 z hz)
 rw[ZaQ]at c2
 rw[ZbV]at c3
 rw[Zbg]at c4
 exact⟨c1,fun z hz=>h.goods z (by simp[hz]),by omega,by omega,by omega⟩
theorem F.done{t:T}{l:List T}(h:F t l):t.check=0:=by
 have h1:=h.sz
 have h2:=h.pos
 have h3:=h.gr
 have n1:=Zeb l
 have hl:t.light=true:=by unfold T.light;exact decide_eq_true (by omega)
 have hc:t.clean=true:=by unfold T.clean;rw[hl];exact h.good
 have hg:((t.nodes.countP fun x=>x.k == 6:Nat))=t.gr:=rfl
 unfold T.check
 rw[hc]
 unfold T.size T.positions T.groups
 rw[hl,hg]
 simp only[if_true,Bool.true_eq_false,if_false]
 rw[if_neg (by omega),if_neg (by omega),if_neg (by omega)]
theorem ZoZ{t:T}(h:t.check=0):t.good=true∧t.nodes.length≤120:=by
 unfold T.check at h
 split at h
 ·exact absurd h (by decide)
 ·rename_i hc
  have hc':t.clean=true:=by simpa using hc
  unfold T.clean at hc'
  rw[Bool.and_eq_true]at hc'
  split at h
  ·exact absurd h (by decide)
  ·rename_i hz
   unfold T.size at hz
   rw[hc'.1]at hz
   simp only[if_true]at hz
   exact⟨hc'.2,by omega⟩
theorem Zqf(n:Nat):(Zkd (ZdN n)).good=true∧(Zkd (ZdN n)).nodes.length=1∧(Zkd (ZdN n)).pos≤1∧(Zkd (ZdN n)).gr=0:=by
 have h:n % 12=0∨n % 12=1∨n % 12=2∨n % 12=3∨n % 12=4∨n % 12=5∨n % 12=6∨n % 12=7∨n % 12=8∨n % 12=9∨n % 12=10∨n % 12=11:=by omega
 unfold ZdN
 rcases h with e|e|e|e|e|e|e|e|e|e|e|e <;> rw[e] <;> exact⟨by decide,by decide,by decide,by decide⟩
theorem Zun:T1.good=true∧T1.nodes.length=1∧T1.pos≤1∧T1.gr=0:=⟨by decide,by decide,by decide,by decide⟩
theorem Ze1{k:Int}{t:T}:(ZbL k t).length≤t.nodes.length:=by
 unfold ZbL
 have:=Zsm t
 have:=Zqe t
 split
 ·omega
 ·split <;> simp <;> omega
end Go.Rx
namespace Go.Rx
open Go Go.Eng Go.RowKit
set_option maxRecDepth 100000
theorem Zkh{t:T}(h:t.good=true):t.right=true∧∀x∈t.subs,x.good=true:=by
 rw[Zlg,Bool.and_eq_true,List.all_eq_true]at h;exact h
theorem Zuo{t:T}(h:t.right=true):t.k=1∨t.k=2∨t.k=3∨t.k=4∨(t.k=5∧(∃x,t.subs=[x])∧0≤t.mn∧t.mn≤16∧(t.mx=-1∨(1≤t.mx∧t.mn≤t.mx∧t.mx≤16)))∨(t.k=6∧∃x,t.subs=[x]):=by
 have one:(t.subs.length == 1)=true→∃x,t.subs=[x]:=fun e=>by
  have:t.subs.length=1:=by simpa using e
  match dT:t.subs,this with
  | [x],_=>exact⟨x,rfl⟩
 unfold T.right at h
 rw[Bool.and_eq_true]at h
 have h:=h.2
 by_cases h1:t.k=1
 ·exact .inl h1
 by_cases h2:t.k=2
 ·exact .inr (.inl h2)
 by_cases h3:t.k=3
 ·exact .inr (.inr (.inl h3))
 by_cases h4:t.k=4
 ·exact .inr (.inr (.inr (.inl h4)))
 by_cases h5:t.k=5
 ·rw[if_neg h1,if_neg h2,if_neg h3,if_neg h4,if_pos h5]at h
  rw[Bool.and_eq_true,Bool.and_eq_true]at h
  obtain⟨a,b,_⟩:=h
  unfold Zd0 at b
  simp at b
  exact .inr (.inr (.inr (.inr (.inl ⟨h5,one a,by omega,by omega,by omega⟩))))
 ·rw[if_neg h1,if_neg h2,if_neg h3,if_neg h4,if_neg h5,Bool.and_eq_true]at h
  exact .inr (.inr (.inr (.inr (.inr ⟨by simpa using h.1,one h.2⟩))))
mutual
def T.er:T→T
 | .node k s0 s1 s2 s3 mn mx _ _ l=>.node k s0 s1 s2 s3 mn mx none 0 (erL l)
def erL:List T→List T
 | []=>[]
 | t::l=>t.er::erL l
end
theorem Zqg:∀l:List T,erL l=l.map T.er
 | []=>rfl
 | t::l=>by simp only[erL,List.map_cons,Zqg l]
@[simp] theorem Zw1 (t:T):t.er.k=t.k:=by cases t;rfl
@[simp] theorem ZwD (t:T):t.er.s0=t.s0:=by cases t;rfl
@[simp] theorem ZwE (t:T):t.er.s1=t.s1:=by cases t;rfl
@[simp] theorem ZwF (t:T):t.er.s2=t.s2:=by cases t;rfl
@[simp] theorem ZwG (t:T):t.er.s3=t.s3:=by cases t;rfl
@[simp] theorem ZwH (t:T):t.er.mn=t.mn:=by cases t;rfl
@[simp] theorem ZwI (t:T):t.er.mx=t.mx:=by cases t;rfl
@[simp] theorem Zsp (t:T):t.er.subs=t.subs.map T.er:=by cases t;simp only[T.er,T.subs,Zqg]
mutual
theorem Zms:∀t:T,t.er.nodes=t.nodes.map T.er
 | .node k s0 s1 s2 s3 mn mx a c l=>by
  simp only[T.er,T.nodes,List.map_cons]
  rw[Znv l]
theorem Znv:∀l:List T,Zar (erL l)=(Zar l).map T.er
 | []=>rfl
 | t::l=>by simp only[erL,Zar,List.map_append,Zms t,Znv l]
end
theorem ZvJ(t:T)(k:Int):t.er.has k=t.has k:=by
 unfold T.has;rw[Zsp,List.any_map];congr 1;funext x;simp
theorem Zta(t:T):t.er.right=t.right:=by
 unfold T.right T.setZ
 simp only[ZvJ,Zw1,ZwD,ZwE,ZwF,ZwG,ZwH,ZwI,Zsp,List.length_map]
theorem Ztb(t:T):t.er.light=t.light:=by unfold T.light;rw[Zms,List.length_map]
theorem ZvK(l:List T):(l.map T.er).all T.right=l.all T.right:=by
 rw[List.all_map];congr 1;funext x;exact Zta x
theorem Zqh(t:T):t.er.clean=t.clean:=by unfold T.clean;rw[Ztb,Zms,ZvK]
mutual
theorem Ztc:∀t:T,t.er.pos=t.pos
 | .node k s0 s1 s2 s3 mn mx a c l=>by simp only[T.er,T.pos,Zsq l]
theorem Zsq:∀l:List T,ZcF (erL l)=ZcF l
 | []=>rfl
 | t::l=>by simp only[erL,ZcF,Ztc t,Zsq l]
end
def T.caps(t:T):Prop:=∀x∈t.nodes,x.subs.length≤x.c
theorem Znw{k s0 s1 s2 s3 mn mx:Int}{a:Option Addr}{c:Nat}{l:List T}(h:l.length≤c)(hl:∀x∈l,x.caps):(T.node k s0 s1 s2 s3 mn mx a c l).caps:=by
 intro y hy
 rw[Za5]at hy
 rcases List.mem_cons.1 hy with rfl|hy
 ·exact h
 ·obtain⟨x,hx,hy⟩:∃x∈l,y∈x.nodes:=by
   have:∀l:List T,y∈Zar l→∃x∈l,y∈x.nodes:=fun l=>by
    induction l with
    | nil=>intro h;simp[Zar]at h
    | cons x l ih=>
     intro h
     simp only[Zar,List.mem_append]at h
     rcases h with h|h
     ·exact⟨x,by simp,h⟩
     ·obtain⟨z,hz,h⟩:=ih h
      exact⟨z,by simp[hz],h⟩
   exact this l hy
  exact hl x hx y hy
theorem Ztd{t u:T}(h:t.er=u.er):t.clean=u.clean:=by rw[←Zqh t,h,Zqh]
theorem ZwJ{t u:T}(h:t.er=u.er):t.k=u.k:=by rw[←Zw1 t,h,Zw1]
theorem Zup{k s0 s1 s2 s3 mn mx:Int}{a a':Option Addr}{c c':Nat}{l l':List T}(h:l.map T.er=l'.map T.er):(T.node k s0 s1 s2 s3 mn mx a c l).er=(T.node k s0 s1 s2 s3 mn mx a' c' l').er:=by
 simp only[T.er,Zqg,h]
def Zws(t t':T):Prop:=((t.clean=true∧t'.er=t.er)∨(t.clean=false∧t'=T0))∧t'.caps
theorem Zuq:T0.caps:=Znw (by simp) (by simp)
def Zw2(k:Int)(a:Option Addr)(c:Nat)(u:T):List T→T→Prop
 | [],t'=>t'=u
 | [x],t'=>Zws x t'
 | x::y::l,t'=>Zws (Za0 k 0 0 a c (x::y::l)) t'
def Zgc(k w:Int)(x:T):List T:=if x.k=k then x.subs else if x.k=w then[]else[x]
def Zec(k w:Int)(L:List T):List T:=(L.map (Zgc k w)).flatten
theorem Zo0(k w:Int)(L:List T)(x:T):Zec k w (L++[x])=Zec k w L++Zgc k w x:=by simp[Zec]
theorem Zki(k w:Int):∀(L:List T),(∀x∈L,x.subs.length≤10000)→(Zec k w L).length≤L.length*10001
 | [],_=>by simp[Zec]
 | x::L,h=>by
  have ih:=Zki k w L fun y hy=>h y (by simp[hy])
  have hx:=h x (by simp)
  have h1:(Zgc k w x).length≤10001:=by
   unfold Zgc
   split
   ·omega
   ·split <;> simp
  have e:(Zec k w (x::L)).length=(Zgc k w x).length+(Zec k w L).length:=by simp[Zec]
  rw[e,List.length_cons]
  omega
theorem Zur{t:T}(h:t.clean=true):t.k≠0:=by
 have hg:t.good=true:=by
  unfold T.clean at h
  rw[Bool.and_eq_true]at h
  exact h.2
 have:=(Zkh hg).1
 rcases Zuo this with h|h|h|h|⟨h,_⟩|⟨h,_⟩ <;> omega
theorem Znx{t:T}(h:t.check=0):t.clean=true:=by
 unfold T.check at h
 split at h
 ·cases h
 ·rename_i hc;simpa using hc
theorem Zjk{t:T}(h:t.clean=true):t.nodes.length≤10000:=by
 unfold T.clean T.light at h
 rw[Bool.and_eq_true]at h
 exact of_decide_eq_true h.1
end Go.Rx
namespace Go.Rx
open Go Go.Eng Go.RowKit
def bwL(f:Nat):List Value:=[.int .u64 (wdN f 0:Nat),.int .u64 (wdN f 1:Nat),.int .u64 (wdN f 2:Nat),.int .u64 (wdN f 3:Nat),.int .u64 (wdN f 4:Nat),.int .u64 (wdN f 5:Nat),.int .u64 (wdN f 6:Nat)]
def bwV(f:Nat):Value:=.agg #[.int .u64 (wdN f 0:Nat),.int .u64 (wdN f 1:Nat),.int .u64 (wdN f 2:Nat),.int .u64 (wdN f 3:Nat),.int .u64 (wdN f 4:Nat),.int .u64 (wdN f 5:Nat),.int .u64 (wdN f 6:Nat)]
theorem Zlh{f j:Nat}(h:j < 7):(bwL f)[j]?=some (.int .u64 (wdN f j:Nat)):=by
 have:j=0∨j=1∨j=2∨j=3∨j=4∨j=5∨j=6:=by omega
 rcases this with rfl|rfl|rfl|rfl|rfl|rfl|rfl <;> rfl
theorem ZvL{f q r:Nat}(hq:q < 7)(hr:r < 64):Zan (bwL f) q [.int .u64 ((wdN f q|||2 ^ r:Nat):Int)]=bwL (f|||2 ^ (64*q+r)):=by
 unfold bwL
 simp only[Zuj,Zuk hr]
 have:q=0∨q=1∨q=2∨q=3∨q=4∨q=5∨q=6:=by omega
 rcases this with rfl|rfl|rfl|rfl|rfl|rfl|rfl <;> simp[Zan,Nat.or_zero]
theorem Zli:bwL 0=[.int .u64 0,.int .u64 0,.int .u64 0,.int .u64 0,.int .u64 0,.int .u64 0,.int .u64 0]:=by simp[bwL,wdN]
def orB(f g k:Nat):List Value:=(List.range 7).map fun j=>.int .u64 ((if j < k then wdN (f|||g) j else wdN f j:Nat):Int)
theorem Zsr{f g k j:Nat}(h:j < 7):(orB f g k)[j]?=some (.int .u64 ((if j < k then wdN (f|||g) j else wdN f j:Nat):Int)):=by
 simp[orB,h]
theorem Zny(f g k:Nat):(orB f g k).length=7:=by simp[orB]
theorem Znz(f:Nat):(bwL f).length=7:=rfl
theorem Zqi{f g k:Nat}(h:k < 7):Zan (orB f g k) k [.int .u64 ((wdN f k|||wdN g k:Nat):Int)]=orB f g (k+1):=by
 rw[←Zuj]
 have:k=0∨k=1∨k=2∨k=3∨k=4∨k=5∨k=6:=by omega
 rcases this with rfl|rfl|rfl|rfl|rfl|rfl|rfl <;> rfl
theorem Zij{A L B:List Value}{q:Nat}{v:Value}(h:q < L.length):Zan (A++L++B) (A.length+q) [v]=A++Zan L q [v]++B:=by
 simp only[Zan,List.length_singleton]
 have h1:(A++L++B).take (A.length+q)=A++L.take q:=by
  rw[List.append_assoc,List.take_append,List.take_of_length_le (by omega),Nat.add_sub_cancel_left,List.take_append_of_le_length (by omega)]
 have h2:(A++L++B).drop (A.length+q+1)=L.drop (q+1)++B:=by
  rw[List.append_assoc,Nat.add_assoc,List.drop_append,List.drop_eq_nil_of_le (by omega),List.nil_append,Nat.add_sub_cancel_left,List.drop_append_of_le_length (by omega)]
 rw[h1,h2];simp
theorem ZnA{A L B:List Value}{q:Nat}{v:Value}(h:L[q]?=some v):(A++L++B)[A.length+q]?=some v:=by
 have hq:=(List.getElem?_eq_some_iff.1 h).1
 rw[List.append_assoc,List.getElem?_append_right (by omega),Nat.add_sub_cancel_left,List.getElem?_append_left hq,h]
def ZcG(f:Nat):List Nat:=(List.range 448).filter fun i=>f.testBit i
theorem Zo1(f k:Nat)(h:k≤448):(ZcG f).take (((List.range k).filter fun i=>f.testBit i).length)=(List.range k).filter fun i=>f.testBit i:=by
 have e:List.range 448=List.range k++(List.range 448).drop k:=by
  have:=(List.take_append_drop k (List.range 448)).symm
  rwa [List.take_range,Nat.min_eq_left h]at this
 unfold ZcG
 conv=>lhs;rw[e,List.filter_append]
 rw[List.take_left']
 rfl
theorem Zte(f k:Nat)(h:k < 448)(hb:f.testBit k=true):(ZcG f)[((List.range k).filter fun i=>f.testBit i).length]?=some k:=by
 have h1:=Zo1 f (k+1) (by omega)
 have e:(List.range (k+1)).filter (fun i=>f.testBit i)=(List.range k).filter (fun i=>f.testBit i)++[k]:=by
  rw[List.range_succ,List.filter_append];simp[hb]
 rw[e]at h1
 have h2:=congrArg (fun l=>l[((List.range k).filter fun i=>f.testBit i).length]?) h1
 simpa[List.getElem?_take]using h2
theorem ZnB(f:Nat):(ZcG f).length≤448:=by
 unfold ZcG
 exact Nat.le_trans (List.length_filter_le _ _) (by simp)
theorem Zkj{f i:Nat}:i∈ZcG f↔i < 448∧f.testBit i=true:=by simp[ZcG]
theorem ZhA(f:Nat):(ZcG f).Pairwise (· < ·):=(List.pairwise_lt_range (n:=448)).filter _
end Go.Rx
namespace Go.Rx
open Go Go.Eng Go.RowKit
structure Pt where
 first:Nat
 last:Nat
 null:Bool
structure Ms where
 sets:List (Int×Int×Int×Int)
 fol:List Nat
def Pt.v(p:Pt):Value:=.agg #[.int .u64 (wdN p.first 0:Nat),.int .u64 (wdN p.first 1:Nat),.int .u64 (wdN p.first 2:Nat),.int .u64 (wdN p.first 3:Nat),.int .u64 (wdN p.first 4:Nat),.int .u64 (wdN p.first 5:Nat),.int .u64 (wdN p.first 6:Nat),.int .u64 (wdN p.last 0:Nat),.int .u64 (wdN p.last 1:Nat),.int .u64 (wdN p.last 2:Nat),.int .u64 (wdN p.last 3:Nat),.int .u64 (wdN p.last 4:Nat),.int .u64 (wdN p.last 5:Nat),.int .u64 (wdN p.last 6:Nat),.bool p.null]
def Pt.cs(p:Pt):List Value:=bwL p.first++bwL p.last++[Value.bool p.null]
theorem Pt.v_cs(p:Pt):p.v=.agg p.cs.toArray:=rfl
def Zdr(fol:List Nat)(a b:Nat):List Nat:=fol.mapIdx fun i x=>if a.testBit i then x|||b else x
theorem Zkk(fol:List Nat)(a b:Nat):(Zdr fol a b).length=fol.length:=by simp[Zdr]
def ZtK(p q:Pt):Pt:=⟨if p.null then p.first|||q.first else p.first,if q.null then q.last|||p.last else q.last,p.null&&q.null⟩
def ZhB(p q:Pt)(s:Ms):Pt×Ms:=(ZtK p q,⟨s.sets,Zdr s.fol p.last q.first⟩)
def Zwt(p q:Pt):Pt:=⟨p.first|||q.first,p.last|||q.last,p.null||q.null⟩
def Zmn(f:Ms→Pt×Ms)(mn mx:Int)(n:Nat):Nat→Nat→Pt→Ms→Pt×Ms
 | 0,_,out,s=>(out,s)
 | q+1,i,out,s=>
  let x:=(f s).1
  let s1:=(f s).2
  let s2:Ms:=if mx=-1∧i+1=n then⟨s1.sets,Zdr s1.fol x.last x.first⟩ else s1
  let y:Pt:=⟨x.first,x.last,x.null||decide ((i:Int) ≥ mn)⟩
  Zmn f mn mx n q (i+1) (ZhB out y s2).1 (ZhB out y s2).2
def Zrn(mn mx:Int):Nat:=(if mx=-1 then max mn 1 else mx).toNat
mutual
def mk:T→Ms→Pt×Ms
 | .node k s0 s1 s2 s3 mn mx _ _ l,s=>
  if k=0 then(⟨0,0,false⟩,s)
  else if k=1 then(⟨0,0,true⟩,s)
  else if k=2 then(⟨2 ^ s.sets.length,2 ^ s.sets.length,false⟩,⟨s.sets++[(s0,s1,s2,s3)],s.fol++[0]⟩)
  else if k=3 then ZfS l ⟨0,0,true⟩ s
  else if k=4 then Ze2 l ⟨0,0,false⟩ s
  else if k=5 then Zmn (fun s=>Zkl l s) mn mx (Zrn mn mx) (Zrn mn mx) 0 ⟨0,0,true⟩ s
  else Zkl l s
def Zkl:List T→Ms→Pt×Ms
 | [],s=>(⟨0,0,false⟩,s)
 | t::_,s=>mk t s
def ZfS:List T→Pt→Ms→Pt×Ms
 | [],out,s=>(out,s)
 | t::l,out,s=>ZfS l (ZhB out (mk t s).1 (mk t s).2).1 (ZhB out (mk t s).1 (mk t s).2).2
def Ze2:List T→Pt→Ms→Pt×Ms
 | [],out,s=>(out,s)
 | t::l,out,s=>Ze2 l (Zwt out (mk t s).1) (mk t s).2
end
def ZbU(l:List (Int×Int×Int×Int)):List Value:=l.flatMap fun q=>[.int .u64 q.1,.int .u64 q.2.1,.int .u64 q.2.2.1,.int .u64 q.2.2.2]
def Zdk(l:List Nat):List Value:=l.flatMap bwL
theorem Zdl(l:List (Int×Int×Int×Int)):(ZbU l).length=l.length*4:=by
 induction l with
 | nil=>rfl
 | cons a l ih=>simp only[ZbU,List.flatMap_cons,List.length_append,List.length_cons,List.length_nil]at *;omega
theorem ZhC(l:List Nat):(Zdk l).length=l.length*7:=by
 induction l with
 | nil=>rfl
 | cons a l ih=>simp only[Zdk,List.flatMap_cons,List.length_append,Znz,List.length_cons]at *;omega
theorem Zro(l l':List (Int×Int×Int×Int)):ZbU (l++l')=ZbU l++ZbU l':=by simp[ZbU]
theorem Zrp(l l':List Nat):Zdk (l++l')=Zdk l++Zdk l':=by simp[Zdk]
def Yof(v0 v1:Value)(b:Nat):Prop:=(Tok.mk v0 4).blk=some b∨(Tok.mk v1 7).blk=some b
def RowOk(m:Mem)(v:Value)(k:Nat)(cs:List Value):Prop:=(k=0∧v=.slice none 0 0)∨∃b c,v=.slice (some ⟨b,0,none⟩) k c∧m.reads b 0 cs∧k≠0
structure MkRow (m:Mem)(v0 v1:Value)(s:Ms):Prop where
 row0:RowOk m v0 s.sets.length (ZbU s.sets)
 row1:RowOk m v1 s.fol.length (Zdk s.fol)
 ne:∀b,(Tok.mk v0 4).blk=some b→(Tok.mk v1 7).blk≠some b
structure MkOk (M0 m:Mem)(v0 v1:Value)(s:Ms):Prop extends MkRow m v0 v1 s where
 base:M0.le (m.off (Yof v0 v1))
theorem ZnC{m m':Mem}{Y Y':Nat→Prop}(h:(m.off Y).le m')(hn:∀b,Y' b→Y b∨m.free b):(m.off Y).le (m'.off Y'):=fun b o v hv=>by
 unfold Mem.off at hv ⊢
 split at hv
 ·cases hv
 ·rename_i hY
  have:¬Y' b:=fun h'=>by
   rcases hn b h' with h1|h1
   ·exact hY h1
   ·rw[h1 o]at hv;cases hv
  rw[if_neg this]
  have:=h b o v (by unfold Mem.off;rw[if_neg hY];exact hv)
  exact this
theorem MkOk.next{M0 m m':Mem}{v0 v1 v0' v1':Value}{s s':Ms}(h:MkOk M0 m v0 v1 s)(cN:(m.off (Yof v0 v1)).le m')(hn:∀b,Yof v0' v1' b→Yof v0 v1 b∨m.free b)(hr:MkRow m' v0' v1' s'):MkOk M0 m' v0' v1' s':=
 {hr with base:=Mem.le_trans h.base (ZnC cN hn) }
theorem MkOk.free{M0 m:Mem}{v0 v1:Value}{s:Ms}(h:MkOk M0 m v0 v1 s){b:Nat}(hb:Yof v0 v1 b):M0.free b:=fun o=>by
 cases he:M0 b o with
 | none=>rfl
 | some u=>
  have:=h.base b o u he
  unfold Mem.off at this
  rw[if_pos hb]at this;cases this
theorem MkOk.le{M0 m:Mem}{v0 v1:Value}{s:Ms}(h:MkOk M0 m v0 v1 s):M0.le m:=Mem.le_trans h.base (Mem.off_le m _)
theorem RowOk.mono{m m':Mem}{v:Value}{k:Nat}{cs:List Value}(h:RowOk m v k cs)(hm:m.le m'):RowOk m' v k cs:=by
 rcases h with h|⟨b,c,h1,h2,h3⟩
 ·exact .inl h
 ·exact .inr ⟨b,c,h1,h2.mono hm,h3⟩
theorem MkRow.mono{m m':Mem}{v0 v1:Value}{s:Ms}(h:MkRow m v0 v1 s)(hm:m.le m'):MkRow m' v0 v1 s:=⟨h.row0.mono hm,h.row1.mono hm,h.ne⟩
theorem Zjl(l r:List Nat)(f:Nat):Zdk (l++f::r)=Zdk l++bwL f++Zdk r:=by simp[Zdk]
theorem Zqj{l:List Nat}{i f:Nat}(h:l[i]?=some f):Zdk l=Zdk (l.take i)++bwL f++Zdk (l.drop (i+1)):=by
 obtain⟨hi,hf⟩:=List.getElem?_eq_some_iff.1 h
 have e:l=l.take i++f::l.drop (i+1):=by
  conv=>lhs;rw[←List.take_append_drop i l]
  rw[List.drop_eq_getElem_cons hi,hf]
 conv=>lhs;rw[e]
 exact Zjl _ _ _
theorem Zrq{l:List Nat}{i f:Nat}(hi:i < l.length):Zdk (l.set i f)=Zdk (l.take i)++bwL f++Zdk (l.drop (i+1)):=by
 have e:l.set i f=l.take i++f::l.drop (i+1):=List.set_eq_take_append_cons_drop.trans (if_pos hi)
 rw[e];exact Zjl _ _ _
def Zgd(fol ds:List Nat)(b:Nat):List Nat:=fol.mapIdx fun i x=>if i∈ds then x|||b else x
theorem Zrr(fol:List Nat)(b:Nat):Zgd fol [] b=fol:=by
 unfold Zgd
 apply List.ext_getElem? fun i=>?_
 simp
theorem Zrs{fol ds:List Nat}{b i x:Nat}(h:fol[i]?=some x)(hi:i ∉ ds):(Zgd fol ds b)[i]?=some x:=by
 simp[Zgd,h,hi]
theorem Zo2{fol ds:List Nat}{b i x:Nat}(h:fol[i]?=some x)(hi:i ∉ ds):Zgd fol (ds++[i]) b=(Zgd fol ds b).set i (x|||b):=by
 apply List.ext_getElem? fun j=>?_
 rw[List.getElem?_set]
 have bK:=(List.getElem?_eq_some_iff.1 h).1
 by_cases e:i=j
 ·subst e
  have hx:=(List.getElem?_eq_some_iff.1 h).2
  simp[Zgd,bK,hx]
 ·rw[if_neg e]
  have:j≠i:=fun h=>e h.symm
  simp[Zgd,this]
theorem Zrt{fol ds:List Nat}{a b:Nat}(h:∀i,i < fol.length→(i∈ds↔a.testBit i=true)):Zgd fol ds b=Zdr fol a b:=by
 unfold Zgd Zdr
 apply List.ext_getElem? fun j=>?_
 rw[List.getElem?_mapIdx,List.getElem?_mapIdx]
 cases hj:fol[j]? with
 | none=>rfl
 | some x=>
  have:=h j (List.getElem?_eq_some_iff.1 hj).1
  simp only[Option.map_some,Option.some.injEq]
  by_cases hd:j∈ds
  ·rw[if_pos hd,if_pos (this.1 hd)]
  ·rw[if_neg hd,if_neg (fun h=>hd (this.2 h))]
end Go.Rx
namespace Go.Rx
open Go Go.Eng Go.RowKit
def PtIn(n:Nat)(p:Pt):Prop:=(∀i,p.first.testBit i=true→i < n)∧(∀i,p.last.testBit i=true→i < n)
structure MsOk (s:Ms):Prop where
 len:s.fol.length=s.sets.length
 fol:∀(j x:Nat),s.fol[j]?=some x→∀i,x.testBit i=true→i < s.sets.length
theorem PtIn.mono{n n':Nat}{p:Pt}(h:PtIn n p)(hn:n≤n'):PtIn n' p:=⟨fun i hi=>Nat.lt_of_lt_of_le (h.1 i hi) hn,fun i hi=>Nat.lt_of_lt_of_le (h.2 i hi) hn⟩
theorem ZbW(n:Nat)(b:Bool):PtIn n ⟨0,0,b⟩:=⟨fun i hi=>by simp at hi,fun i hi=>by simp at hi⟩
theorem Zo3{a b i:Nat}(h:(a|||b).testBit i=true):a.testBit i=true∨b.testBit i=true:=by
 simpa[Nat.testBit_or]using h
theorem MsOk.loop{s:Ms}(h:MsOk s)(a b:Nat)(hb:∀i,b.testBit i=true→i < s.sets.length):MsOk ⟨s.sets,Zdr s.fol a b⟩:=by
 refine⟨by simp[Zdr,h.len],fun j x hj i hi=>?_⟩
 simp only[Zdr,List.getElem?_mapIdx]at hj
 obtain⟨y,hy,rfl⟩:=Option.map_eq_some_iff.1 hj
 by_cases hQ:a.testBit j=true
 ·rw[if_pos hQ]at hi
  rcases Zo3 hi with h1|h1
  ·exact h.fol j y hy i h1
  ·exact hb i h1
 ·rw[if_neg hQ]at hi
  exact h.fol j y hy i hi
theorem Ztf{n:Nat}{p q:Pt}(hp:PtIn n p)(hq:PtIn n q):PtIn n (ZtK p q):=by
 obtain⟨pf,pl,pn⟩:=p
 obtain⟨qf,ql,qn⟩:=q
 constructor
 ·intro i hi
  cases pn
  ·exact hp.1 i hi
  ·rcases Zo3 hi with h|h
   ·exact hp.1 i h
   ·exact hq.1 i h
 ·intro i hi
  cases qn
  ·exact hq.2 i hi
  ·rcases Zo3 hi with h|h
   ·exact hq.2 i h
   ·exact hp.2 i h
theorem Zss{n:Nat}{p q:Pt}(hp:PtIn n p)(hq:PtIn n q):PtIn n (Zwt p q):=
 ⟨fun i hi=>(Zo3 hi).elim (hp.1 i) (hq.1 i),fun i hi=>(Zo3 hi).elim (hp.2 i) (hq.2 i)⟩
structure Grows (s:Ms)(r:Pt×Ms):Prop where
 le:s.sets.length≤r.2.sets.length
 ok:MsOk r.2
 pt:PtIn r.2.sets.length r.1
theorem Ze3{p q:Pt}{s:Ms}(h:MsOk s)(hp:PtIn s.sets.length p)(hq:PtIn s.sets.length q):Grows s (ZhB p q s):=
 ⟨Nat.le_refl _,h.loop _ _ hq.1,Ztf hp hq⟩
theorem Grows.trans{s s1:Ms}{p:Pt}{r:Pt×Ms}(h:Grows s (p,s1))(k:Grows s1 r):Grows s r:=⟨Nat.le_trans h.le k.le,k.ok,k.pt⟩
theorem Zge{f:Ms→Pt×Ms}(hf:∀s,MsOk s→Grows s (f s))(mn mx:Int)(n:Nat):∀(q i:Nat)(out:Pt)(s:Ms),MsOk s→PtIn s.sets.length out→Grows s (Zmn f mn mx n q i out s)
 | 0,i,out,s,h,hp=>⟨Nat.le_refl _,h,hp⟩
 | q+1,i,out,s,h,hp=>by
  unfold Zmn
  have h1:=hf s h
  simp only
  generalize gk:(if mx=-1∧i+1=n then(⟨(f s).2.sets,Zdr (f s).2.fol (f s).1.last (f s).1.first⟩:Ms)else(f s).2)=s2
  have e:s2.sets=(f s).2.sets:=by rw[←gk];split <;> rfl
  have h2:MsOk s2:=by
   rw[←gk];split
   ·exact h1.ok.loop _ _ h1.pt.1
   ·exact h1.ok
  have cN:s.sets.length≤s2.sets.length:=by rw[e];exact h1.le
  have h3:Grows s2 (ZhB out ⟨(f s).1.first,(f s).1.last,(f s).1.null||decide ((i:Int) ≥ mn)⟩ s2):=Ze3 h2 (hp.mono cN) (by rw[e];exact h1.pt)
  have h4:=Zge hf mn mx n q (i+1) _ _ h3.ok h3.pt
  exact⟨Nat.le_trans cN (Nat.le_trans h3.le h4.le),h4.ok,h4.pt⟩
theorem Zus{n i:Nat}(h:(2 ^ n).testBit i=true):i=n:=by
 rw[Nat.testBit_two_pow]at h;exact(of_decide_eq_true h).symm
theorem ZnD{s:Ms}(h:MsOk s)(q:Int×Int×Int×Int):Grows s (⟨2 ^ s.sets.length,2 ^ s.sets.length,false⟩,⟨s.sets++[q],s.fol++[0]⟩):=by
 refine⟨by simp,⟨by simp[h.len],fun j x hj i hi=>?_⟩,?_,?_⟩
 ·rw[List.getElem?_append]at hj
  split at hj
  ·have:=h.fol j x hj i hi
   simp;omega
  ·have:=(List.getElem?_eq_some_iff.1 hj)
   obtain⟨_,h2⟩:=this
   have:x=0:=by
    rw[List.getElem_singleton]at h2;exact h2.symm
   subst this;simp at hi
 ·intro i hi;have:=Zus hi;simp;omega
 ·intro i hi;have:=Zus hi;simp;omega
mutual
theorem ZdO:∀(t:T)(s:Ms),MsOk s→Grows s (mk t s)
 | .node k s0 s1 s2 s3 mn mx a c l,s,h=>by
  unfold mk
  split
  ·exact⟨Nat.le_refl _,h,ZbW _ _⟩
  split
  ·exact⟨Nat.le_refl _,h,ZbW _ _⟩
  split
  ·exact ZnD h _
  split
  ·exact Ze4 l _ s h (ZbW _ _)
  split
  ·exact Ze5 l _ s h (ZbW _ _)
  split
  ·exact Zge (fun s h=>ZeP l s h) _ _ _ _ _ _ _ h (ZbW _ _)
  ·exact ZeP l s h
theorem ZeP:∀(l:List T)(s:Ms),MsOk s→Grows s (Zkl l s)
 | [],s,h=>by unfold Zkl;exact⟨Nat.le_refl _,h,ZbW _ _⟩
 | t::l,s,h=>by unfold Zkl;exact ZdO t s h
theorem Ze4:∀(l:List T)(out:Pt)(s:Ms),MsOk s→PtIn s.sets.length out→Grows s (ZfS l out s)
 | [],out,s,h,hp=>by unfold ZfS;exact⟨Nat.le_refl _,h,hp⟩
 | t::l,out,s,h,hp=>by
  unfold ZfS
  have h1:=ZdO t s h
  have h2:=Ze3 h1.ok (hp.mono h1.le) h1.pt
  have h3:=Ze4 l _ _ h2.ok h2.pt
  exact⟨Nat.le_trans h1.le (Nat.le_trans h2.le h3.le),h3.ok,h3.pt⟩
theorem Ze5:∀(l:List T)(out:Pt)(s:Ms),MsOk s→PtIn s.sets.length out→Grows s (Ze2 l out s)
 | [],out,s,h,hp=>by unfold Ze2;exact⟨Nat.le_refl _,h,hp⟩
 | t::l,out,s,h,hp=>by
  unfold Ze2
  have h1:=ZdO t s h
  have h3:=Ze5 l _ _ h1.ok (Zss (hp.mono h1.le) h1.pt)
  exact⟨Nat.le_trans h1.le h3.le,h3.ok,h3.pt⟩
end
theorem ZwK(t:T)(s:Ms):mk t s=(if t.k=0 then(⟨0,0,false⟩,s)
  else if t.k=1 then(⟨0,0,true⟩,s)
  else if t.k=2 then(⟨2 ^ s.sets.length,2 ^ s.sets.length,false⟩,⟨s.sets++[(t.s0,t.s1,t.s2,t.s3)],s.fol++[0]⟩)
  else if t.k=3 then ZfS t.subs ⟨0,0,true⟩ s
  else if t.k=4 then Ze2 t.subs ⟨0,0,false⟩ s
  else if t.k=5 then Zmn (fun s=>Zkl t.subs s) t.mn t.mx (Zrn t.mn t.mx) (Zrn t.mn t.mx) 0 ⟨0,0,true⟩ s
  else Zkl t.subs s):=by
 cases t;rw[mk];rfl
theorem Zo4{l:List T}{k:Nat}{t:T}(h:l[k]?=some t)(out:Pt)(s:Ms):ZfS (l.drop k) out s=ZfS (l.drop (k+1)) (ZhB out (mk t s).1 (mk t s).2).1 (ZhB out (mk t s).1 (mk t s).2).2:=by
 obtain⟨hk,he⟩:=List.getElem?_eq_some_iff.1 h
 rw[List.drop_eq_getElem_cons hk,he,ZfS]
theorem Zo5{l:List T}{k:Nat}{t:T}(h:l[k]?=some t)(out:Pt)(s:Ms):Ze2 (l.drop k) out s=Ze2 (l.drop (k+1)) (Zwt out (mk t s).1) (mk t s).2:=by
 obtain⟨hk,he⟩:=List.getElem?_eq_some_iff.1 h
 rw[List.drop_eq_getElem_cons hk,he,Ze2]
theorem Zlj{f:Ms→Pt×Ms}{c:Nat}(hf:∀s,(f s).2.sets.length=s.sets.length+c)(mn mx:Int)(n:Nat):∀(q i:Nat)(out:Pt)(s:Ms),(Zmn f mn mx n q i out s).2.sets.length=s.sets.length+q*c
 | 0,i,out,s=>by simp[Zmn]
 | q+1,i,out,s=>by
  unfold Zmn
  simp only
  rw[Zlj hf]
  have h2:(if mx=-1∧i+1=n then(⟨(f s).2.sets,Zdr (f s).2.fol (f s).1.last (f s).1.first⟩:Ms)else(f s).2).sets.length=s.sets.length+c:=by
   split <;> exact hf s
  show(Ms.sets _).length+_=_
  simp only[ZhB]
  rw[h2,Nat.add_mul];omega
theorem ZnE{x:Int}(h:Zlb x 10001≤10000):Zlb x 10001=x∧x≤10000:=by
 unfold Zlb at *
 split at h
 ·omega
 ·rename_i h2;exact⟨if_neg h2,h⟩
theorem Ztg{mn mx:Int}(h:Zd0 mn mx=true):Zlb (if mx=-1 then Zla (Zla mn 0) 1 else Zla (Zla mn 0) mx) 10001=(Zrn mn mx:Nat)∧1≤Zrn mn mx:=by
 unfold Zd0 at h
 simp only[Bool.and_eq_true,Bool.not_eq_true',Bool.or_eq_false_iff,Bool.or_eq_true,decide_eq_false_iff_not,decide_eq_true_eq,beq_iff_eq]at h
 unfold Zrn Zlb Zla
 by_cases hm:mx=-1
 ·simp only[hm,if_true]
  split <;> split <;> split <;> omega
 ·simp only[hm,if_false]
  split <;> split <;> split <;> omega
theorem Zjm{t:T}(h:t.right=true):(t.k=1∧t.subs=[])∨(t.k=2∧t.subs=[]∧t.setZ=false)∨t.k=3∨t.k=4∨(t.k=5∧t.subs.length=1∧Zd0 t.mn t.mx=true)∨(t.k=6∧t.subs.length=1):=by
 unfold T.right at h
 rw[Bool.and_eq_true]at h
 obtain⟨h0,h2⟩:=h
 simp only[Bool.not_eq_true',Bool.or_eq_false_iff,Bool.and_eq_false_iff,decide_eq_false_iff_not]at h0
 have hz:t.k < 3→t.subs=[]:=fun hk=>by
  have h1:=h0.2.2
  rcases h1 with h1|h1
  ·omega
  ·cases hs:t.subs with
   | nil=>rfl
   | cons a l=>rw[hs]at h1;simp at h1
 by_cases h1:t.k=1;· exact .inl ⟨h1,hz (by omega)⟩
 by_cases h3:t.k=2
 ·rw[if_neg h1,if_pos h3]at h2
  exact .inr (.inl ⟨h3,hz (by omega),by simpa using h2⟩)
 by_cases h4:t.k=3;· exact .inr (.inr (.inl h4))
 by_cases h5:t.k=4;· exact .inr (.inr (.inr (.inl h5)))
 by_cases h6:t.k=5
 ·rw[if_neg h1,if_neg h3,if_neg h4,if_neg h5,if_pos h6]at h2
  simp only[Bool.and_eq_true,beq_iff_eq]at h2
  exact .inr (.inr (.inr (.inr (.inl ⟨h6,h2.1,h2.2.1⟩))))
 ·rw[if_neg h1,if_neg h3,if_neg h4,if_neg h5,if_neg h6]at h2
  simp only[Bool.and_eq_true,beq_iff_eq]at h2
  exact .inr (.inr (.inr (.inr (.inr h2))))
mutual
theorem Zik:∀(t:T),(∀x∈t.nodes,x.right=true)→t.pos≤10000→∀s:Ms,(mk t s).2.sets.length=s.sets.length+t.pos.toNat
 | .node k s0 s1 s2 s3 mn mx a c l,cC,hp,s=>by
  have hr:=Zjm (cC (.node k s0 s1 s2 s3 mn mx a c l) (by simp[T.nodes]))
  have hl:∀x∈Zar l,x.right=true:=fun x hx=>cC x (by simp[T.nodes,hx])
  simp only[T.k,T.subs,T.mn,T.mx]at hr
  have rc:=Zeb l
  simp only[T.pos,Zrh]at hp ⊢
  rw[mk]
  rcases hr with⟨hk,hs⟩|⟨hk,hs,_⟩|hk|hk|⟨hk,h1,hb⟩|⟨hk,h1⟩
  ·subst hk hs;simp[ZcF,Zlb]
  ·subst hk hs;simp[ZcF,Zlb]
  ·subst hk
   have hq:=ZnE hp
   rw[hq.1]
   simp only[show ¬(3:Int)=0 by omega,show ¬(3:Int)=1 by omega,show ¬(3:Int)=2 by omega,show ¬(3:Int)=5 by omega,if_false,if_true,Int.zero_add]at hq ⊢
   exact Zjn l hl (by omega) _ s
  ·subst hk
   have hq:=ZnE hp
   rw[hq.1]
   simp only[show ¬(4:Int)=0 by omega,show ¬(4:Int)=1 by omega,show ¬(4:Int)=2 by omega,show ¬(4:Int)=3 by omega,show ¬(4:Int)=5 by omega,if_false,if_true,Int.zero_add]at hq ⊢
   exact Zjo l hl (by omega) _ s
  ·subst hk
   have hq:=ZnE hp
   rw[hq.1]
   obtain⟨hF,qH⟩:=Ztg hb
   simp only[show ¬(5:Int)=0 by omega,show ¬(5:Int)=1 by omega,show ¬(5:Int)=2 by omega,show ¬(5:Int)=3 by omega,show ¬(5:Int)=4 by omega,if_false,if_true,Int.zero_add,hF]at hq ⊢
   have cN:ZcF l≤10000:=by
    have h2:ZcF l*1≤ZcF l*(Zrn mn mx:Nat):=Int.mul_le_mul_of_nonneg_left (by omega) rc
    omega
   have hf:=fun s=>Zlk l h1 hl cN s
   rw[Zlj hf]
   obtain⟨z,hz⟩:∃z:Nat,ZcF l=z:=⟨(ZcF l).toNat,by omega⟩
   rw[hz,Int.toNat_natCast,←Int.natCast_mul,Int.toNat_natCast,Nat.mul_comm]
  ·subst hk
   have hq:=ZnE hp
   rw[hq.1]
   simp only[show ¬(6:Int)=0 by omega,show ¬(6:Int)=1 by omega,show ¬(6:Int)=2 by omega,show ¬(6:Int)=3 by omega,show ¬(6:Int)=4 by omega,show ¬(6:Int)=5 by omega,if_false,if_true,Int.zero_add]at hq ⊢
   exact Zlk l h1 hl (by omega) s
theorem Zlk:∀(l:List T),l.length=1→(∀x∈Zar l,x.right=true)→ZcF l≤10000→∀s:Ms,(Zkl l s).2.sets.length=s.sets.length+(ZcF l).toNat
 | [],h,_,_,_=>by simp at h
 | [t],_,cC,hp,s=>by
  simp only[Zkl,ZcF,Int.add_zero]at hp ⊢
  exact Zik t (fun x hx=>cC x (by simp[Zar,hx])) hp s
 | _::_::_,h,_,_,_=>by simp at h
theorem Zjn:∀(l:List T),(∀x∈Zar l,x.right=true)→ZcF l≤10000→∀(out:Pt)(s:Ms),(ZfS l out s).2.sets.length=s.sets.length+(ZcF l).toNat
 | [],_,_,out,s=>by simp[ZfS,ZcF]
 | t::l,cC,hp,out,s=>by
  have h1:=Zgb t
  have h2:=Zeb l
  simp only[ZfS,ZcF]at hp ⊢
  rw[Zjn l (fun x hx=>cC x (by simp[Zar,hx])) (by omega)]
  show(mk t s).2.sets.length+_=_
  rw[Zik t (fun x hx=>cC x (by simp[Zar,hx])) (by omega) s]
  omega
theorem Zjo:∀(l:List T),(∀x∈Zar l,x.right=true)→ZcF l≤10000→∀(out:Pt)(s:Ms),(Ze2 l out s).2.sets.length=s.sets.length+(ZcF l).toNat
 | [],_,_,out,s=>by simp[Ze2,ZcF]
 | t::l,cC,hp,out,s=>by
  have h1:=Zgb t
  have h2:=Zeb l
  simp only[Ze2,ZcF]at hp ⊢
  rw[Zjo l (fun x hx=>cC x (by simp[Zar,hx])) (by omega)]
  rw[Zik t (fun x hx=>cC x (by simp[Zar,hx])) (by omega) s]
  omega
end
end Go.Rx
namespace Go.Rx
open Go Go.Eng Go.RowKit
abbrev QS:=Int×Int×Int×Int
structure Nf where
 sets:List QS
 fol:List (List Int)
 first:List Int
 last:List Int
 empty:Bool
deriving DecidableEq
def ZaA(l:List Int):List Value:=l.map fun i=>.int .i64 i
theorem Zch(l:List Int):(ZaA l).length=l.length:=by simp[ZaA]
def SlI(st:Bool)(l:List Int)(v:Value)(m:Mem):Prop:=∃a c,v=.slice a l.length c∧rowRd m a (ZaA l)∧l.length≤1000000∧(st=true→l=[]→a=none)
def SlQ(st:Bool)(l:List QS)(v:Value)(m:Mem):Prop:=∃a c,v=.slice a l.length c∧rowRd m a (ZbU l)∧l.length≤1000000∧(st=true→l=[]→a=none)
def FolR(st:Bool)(fol:List (List Int))(v:Value)(m:Mem):Prop:=∃a c vs,v=.slice a fol.length c∧rowRd m a vs∧vs.length=fol.length∧fol.length≤1000000∧∀(i:Nat)(v:Value)(l:List Int),vs[i]?=some v→fol[i]?=some l→SlI st l v m
def NfR(st:Bool)(A:Nf)(v:Value)(m:Mem):Prop:=∃s f x y,v=.agg #[s,f,x,y,.bool A.empty]∧SlQ st A.sets s m∧FolR st A.fol f m∧SlI st A.first x m∧SlI st A.last y m
theorem SlI.mono{st:Bool}{l:List Int}{v:Value}{m m':Mem}(h:SlI st l v m)(k:m.le m'):SlI st l v m':=by
 obtain⟨a,c,h1,h2,h3⟩:=h;exact⟨a,c,h1,h2.mono k,h3⟩
theorem SlQ.mono{st:Bool}{l:List QS}{v:Value}{m m':Mem}(h:SlQ st l v m)(k:m.le m'):SlQ st l v m':=by
 obtain⟨a,c,h1,h2,h3⟩:=h;exact⟨a,c,h1,h2.mono k,h3⟩
theorem FolR.mono{st:Bool}{l:List (List Int)}{v:Value}{m m':Mem}(h:FolR st l v m)(k:m.le m'):FolR st l v m':=by
 obtain⟨a,c,vs,h1,h2,h3,h4,h5⟩:=h;exact⟨a,c,vs,h1,h2.mono k,h3,h4,fun i v l hv hl=>(h5 i v l hv hl).mono k⟩
theorem NfR.mono{st:Bool}{A:Nf}{v:Value}{m m':Mem}(h:NfR st A v m)(k:m.le m'):NfR st A v m':=by
 obtain⟨s,f,x,y,h1,h2,h3,h4,h5⟩:=h;exact⟨s,f,x,y,h1,h2.mono k,h3.mono k,h4.mono k,h5.mono k⟩
theorem ZdP{m:Mem}{a:Option Addr}{l:List Int}(h:rowRd m a (ZaA l)){i:Nat}{x:Int}(hx:l[i]?=some x):∃b o,a=some ⟨b,o,none⟩∧m b (o+i*1)=some (.int .i64 x):=by
 have hv:(ZaA l)[i]?=some (.int .i64 x):=by simp[ZaA,hx]
 rcases h with h|⟨b,o,h1,h2⟩
 ·rw[h]at hv;simp at hv
 ·exact⟨b,o,h1,by have:=h2 i _ hv;rwa [Nat.mul_one]⟩
theorem ZgK{m:Mem}{a:Option Addr}{l:List Value}(h:rowRd m a l){i:Nat}{x:Value}(hx:l[i]?=some x):∃b o,a=some ⟨b,o,none⟩∧m b (o+i*1)=some x:=by
 rcases h with h|⟨b,o,h1,h2⟩
 ·rw[h]at hx;simp at hx
 ·exact⟨b,o,h1,by have:=h2 i _ hx;rwa [Nat.mul_one]⟩
def qCs(q:QS):List Value:=[.int .u64 q.1,.int .u64 q.2.1,.int .u64 q.2.2.1,.int .u64 q.2.2.2]
theorem Zmt{l:List QS}{i:Nat}{q:QS}(h:l[i]?=some q){j:Nat}{v:Value}(hv:(qCs q)[j]?=some v):(ZbU l)[i*4+j]?=some v:=by
 have hj:j < 4:=by have:=(List.getElem?_eq_some_iff.1 hv).1;simpa[qCs]using this
 induction l generalizing i with
 | nil=>simp at h
 | cons a l ih=>
  show(qCs a++ZbU l)[i*4+j]?=some v
  cases i with
  | zero=>
   simp at h;subst h
   rw[Nat.zero_mul,Nat.zero_add,List.getElem?_append_left (by simpa[qCs]using hj)];exact hv
  | succ i=>
   rw[List.getElem?_append_right (by simp[qCs];omega)]
   have:=ih (by simpa using h)
   rw[show(i+1)*4+j - (qCs a).length=i*4+j by simp[qCs];omega];exact this
theorem Zkm{m:Mem}{a:Option Addr}{l:List QS}(h:rowRd m a (ZbU l)){i:Nat}{x:QS}(hx:l[i]?=some x):∃b o,a=some ⟨b,o,none⟩∧m.reads b (o+i*4) [.int .u64 x.1,.int .u64 x.2.1,.int .u64 x.2.2.1,.int .u64 x.2.2.2]:=by
 rcases h with h|⟨b,o,h1,h2⟩
 ·have:=Zmt hx (j:=0) (v:=.int .u64 x.1) rfl
  rw[h]at this;simp at this
 ·refine⟨b,o,h1,fun j v hv=>?_⟩
  have:=h2 _ _ (Zmt hx hv)
  rwa [←Nat.add_assoc]at this
def Zdc:List Int→Int→Int→Bool
 | [],_,_=>true
 | p::l,lo,hi=>decide (lo < p)&&(decide (p≤hi)&&Zdc l p hi)
def zQ:QS:=(0,0,0,0)
def Nf.top(A:Nf):Int:=(A.sets.length:Int) - 1
def Nf.right(A:Nf):Bool:=
 decide (A.sets.length≤400)&&(decide (A.fol.length=A.sets.length)&&(Zdc A.first (-1) A.top&&(Zdc A.last (-1) A.top&&((A.fol.zip A.sets).all fun p=>Zdc p.1 (-1) A.top&&!(p.2 == zQ)))))
theorem Zb9{l:List Int}:∀{lo hi:Int},Zdc l lo hi=true↔(l.Pairwise (· < ·)∧∀x∈l,lo < x∧x≤hi):=by
 induction l with
 | nil=>intro lo hi;simp[Zdc]
 | cons p l ih=>
  intro lo hi
  simp only[Zdc,Bool.and_eq_true,decide_eq_true_eq,ih,List.pairwise_cons,List.mem_cons,forall_eq_or_imp]
  constructor
  ·rintro⟨h1,h2,h3,h4⟩
   exact⟨⟨fun x hx=>(h4 x hx).1,h3⟩,⟨h1,h2⟩,fun x hx=>⟨Int.lt_trans h1 (h4 x hx).1,(h4 x hx).2⟩⟩
  ·rintro⟨⟨h1,h2⟩,⟨h3,h4⟩,h5⟩
   exact⟨h3,h4,h2,fun x hx=>⟨h1 x hx,(h5 x hx).2⟩⟩
def ZbX(f:Nat):List Int:=(ZcG f).map fun i:Nat=>(i:Int)
theorem ZnF{f:Nat}{x:Int}:x∈ZbX f↔∃i:Nat,i < 448∧f.testBit i=true∧x=i:=by
 simp only[ZbX,List.mem_map,Zkj]
 constructor
 ·rintro⟨i,⟨h1,h2⟩,rfl⟩;exact⟨i,h1,h2,rfl⟩
 ·rintro⟨i,h1,h2,rfl⟩;exact⟨i,⟨h1,h2⟩,rfl⟩
theorem ZhD(f:Nat):(ZbX f).Pairwise (· < ·):=by
 unfold ZbX
 rw[List.pairwise_map]
 exact(ZhA f).imp (by intro a b h;omega)
theorem ZnG(f:Nat):(ZbX f).length≤448:=by simp[ZbX,ZnB]
theorem Zo6{f n:Nat}(hn:n≤448)(h:∀i,f.testBit i=true→i < n):Zdc (ZbX f) (-1) ((n:Int) - 1)=true:=by
 rw[Zb9]
 refine⟨ZhD f,fun x hx=>?_⟩
 obtain⟨i,h1,h2,rfl⟩:=ZnF.1 hx
 have:=h i h2;omega
def Zut(r:Pt×Ms):Nf:=⟨r.2.sets,r.2.fol.map ZbX,ZbX r.1.first,ZbX r.1.last,r.1.null⟩
def T.auto(t:T):Nf:=Zut (mk t ⟨[],[]⟩)
def T.nfit(t:T):Bool:=t.clean&&(decide (t.size≤120)&&decide (t.positions≤400))
def nf0:Nf:=⟨[],[],[],[],false⟩
def T.ofN(t:T):Nf:=if t.isNone then nf0 else if t.nfit then t.auto else nf0
def T.ofE(t:T):Int:=if t.isNone then 0 else if t.nfit then 0 else 170
end Go.Rx
namespace Go.Rx
open Go Go.Eng Go.RowKit
def Zov(p:Nat)(cur:List (List Int))(q:Int):List (List Int):=cur.modify q.toNat (fun l=>l++[(p:Int)])
def ZgL(p:Nat)(cur:List (List Int))(l:List Int):List (List Int):=l.foldl (Zov p) cur
def Zdm:List (List Int)→Nat→List (List Int)→List (List Int)
 | [],_,cur=>cur
 | l::r,p,cur=>Zdm r (p+1) (ZgL p cur l)
def Zjp(fol:List (List Int)):List (List Int):=Zdm fol 0 (List.replicate fol.length [])
def Nf.turn(A:Nf):Nf:=⟨A.sets,Zjp A.fol,A.last,A.first,A.empty⟩
theorem Zgf(p:Nat)(cur:List (List Int))(q:Int):(Zov p cur q).length=cur.length:=by simp[Zov]
theorem Zkn{p:Nat}{cur:List (List Int)}{q:Int}{i:Nat}{l:List Int}(h:cur[i]?=some l):(Zov p cur q)[i]?=some (if q.toNat=i then l++[(p:Int)]else l):=by
 unfold Zov
 rw[List.getElem?_modify,h]
 split <;> rfl
theorem ZnH(p:Nat)(l:List Int):∀cur:List (List Int),(ZgL p cur l).length=cur.length:=by
 induction l with
 | nil=>intro cur;rfl
 | cons q l ih=>intro cur;show(ZgL p (Zov p cur q) l).length=_;rw[ih,Zgf]
theorem ZhE:∀(r:List (List Int)) (p:Nat) (cur:List (List Int)),(Zdm r p cur).length=cur.length
 | [],p,cur=>rfl
 | l::r,p,cur=>by rw[Zdm,ZhE,ZnH]
theorem Zgg(fol:List (List Int)):(Zjp fol).length=fol.length:=by simp[Zjp,ZhE]
theorem Zjq{p i:Nat}:∀{l:List Int},l.Pairwise (· < ·)→(∀x∈l,0≤x)→∀{cur:List (List Int)} {c:List Int},cur[i]?=some c→(ZgL p cur l)[i]?=some (c++if(i:Int)∈l then[(p:Int)]else[])
 | [],_,_,cur,c,h=>by simp[ZgL,h]
 | q::l,hl,hn,cur,c,h=>by
  rw[List.pairwise_cons]at hl
  show(ZgL p (Zov p cur q) l)[i]?=_
  rw[Zjq hl.2 (fun x hx=>hn x (by simp[hx])) (Zkn h)]
  have hq:=hn q (by simp)
  by_cases tA:q.toNat=i
  ·have:(i:Int)=q:=by omega
   have qv:(i:Int) ∉ l:=fun hm=>by have:=hl.1 _ hm;omega
   rw[if_pos tA,if_neg qv,if_pos (by simp[this]),List.append_nil]
  ·have:¬(i:Int)=q:=by omega
   rw[if_neg tA]
   simp[this]
theorem ZhF{i:Nat}:∀{r:List (List Int)} {p:Nat},(∀l∈r,l.Pairwise (· < ·)∧∀x∈l,0≤x)→∀{cur:List (List Int)} {c:List Int},cur[i]?=some c→(Zdm r p cur)[i]?=some (c++(((List.range r.length).filter fun k=>decide ((i:Int)∈(r[k]?).getD [])).map fun k:Nat=>((p+k:Nat):Int)))
 | [],p,_,cur,c,h=>by simp[Zdm,h]
 | l::r,p,hr,cur,c,h=>by
  have h1:=hr l (by simp)
  rw[Zdm,ZhF (fun l hl=>hr l (by simp[hl])) (Zjq h1.1 h1.2 h),List.length_cons,List.range_succ_eq_map,List.filter_cons,List.append_assoc]
  congr 2
  have e:(List.map Nat.succ (List.range r.length)).filter (fun k=>decide ((i:Int)∈((l::r)[k]?).getD []))=((List.range r.length).filter fun k=>decide ((i:Int)∈(r[k]?).getD [])).map Nat.succ:=by
   rw[List.filter_map];rfl
  rw[e]
  have e2:(((List.range r.length).filter fun k=>decide ((i:Int)∈(r[k]?).getD [])).map Nat.succ).map (fun k:Nat=>((p+k:Nat):Int))=((List.range r.length).filter fun k=>decide ((i:Int)∈(r[k]?).getD [])).map fun k:Nat=>((p+1+k:Nat):Int):=by
   rw[List.map_map];apply List.map_congr_left;intro k _;simp;omega
  by_cases hi:(i:Int)∈l
  ·rw[if_pos hi,if_pos (by simp[hi]),List.map_cons,e2];simp
  ·rw[if_neg hi,if_neg (by simp[hi]),e2];simp
theorem Zru{fol:List (List Int)}{i:Nat}(hi:i < fol.length)(hr:∀l∈fol,l.Pairwise (· < ·)∧∀x∈l,0≤x):(Zjp fol)[i]?=some (((List.range fol.length).filter fun k=>decide ((i:Int)∈(fol[k]?).getD [])).map fun k:Nat=>(k:Int)):=by
 unfold Zjp
 rw[ZhF hr (c:=[]) (by simp[hi])]
 simp
theorem ZlY{fol:List (List Int)}{i:Nat}{l:List Int}(h:(Zjp fol)[i]?=some l)(hr:∀l∈fol,l.Pairwise (· < ·)∧∀x∈l,0≤x):l.Pairwise (· < ·)∧l.length≤fol.length:=by
 have hi:i < fol.length:=by have:=(List.getElem?_eq_some_iff.1 h).1;rwa [Zgg]at this
 rw[Zru hi hr]at h
 cases h
 constructor
 ·rw[List.pairwise_map]
  exact((List.pairwise_lt_range (n:=fol.length)).filter _).imp (by intro a b h;omega)
 ·rw[List.length_map];exact Nat.le_trans (List.length_filter_le _ _) (by simp)
structure Nf.Ok (A:Nf):Prop where
 n:A.sets.length≤400
 len:A.fol.length=A.sets.length
 first:A.first.Pairwise (· < ·)∧∀x∈A.first,-1 < x∧x≤A.top
 last:A.last.Pairwise (· < ·)∧∀x∈A.last,-1 < x∧x≤A.top
 fol:∀l∈A.fol,l.Pairwise (· < ·)∧∀x∈l,-1 < x∧x≤A.top
 sets:∀q∈A.sets,q≠zQ
theorem Zfy{A:Nf}:A.right=true↔A.Ok:=by
 unfold Nf.right
 simp only[Bool.and_eq_true,decide_eq_true_eq,List.all_eq_true,Zb9,Bool.not_eq_true',beq_eq_false_iff_ne]
 constructor
 ·rintro⟨h1,h2,h3,h4,h5⟩
  refine⟨h1,h2,h3,h4,fun l hl=>?_,fun q hq=>?_⟩
  ·obtain⟨i,hi⟩:=List.getElem?_of_mem hl
   have bK:=(List.getElem?_eq_some_iff.1 hi).1
   have:(A.fol.zip A.sets)[i]?=some (l,A.sets[i]'(by omega)):=List.getElem?_zip_eq_some.2 ⟨hi,List.getElem?_eq_getElem (by omega)⟩
   exact(h5 _ (List.mem_of_getElem? this)).1
  ·obtain⟨i,hi⟩:=List.getElem?_of_mem hq
   have bK:=(List.getElem?_eq_some_iff.1 hi).1
   have:(A.fol.zip A.sets)[i]?=some (A.fol[i]'(by omega),q):=List.getElem?_zip_eq_some.2 ⟨List.getElem?_eq_getElem (by omega),hi⟩
   exact(h5 _ (List.mem_of_getElem? this)).2
 ·rintro⟨h1,h2,h3,h4,h5,h6⟩
  refine⟨h1,h2,h3,h4,fun p hp=>?_⟩
  obtain⟨l,q⟩:=p
  exact⟨h5 l (List.of_mem_zip hp).1,h6 q (List.of_mem_zip hp).2⟩
theorem Nf.Ok.rows{A:Nf}(h:A.Ok):∀l∈A.fol,l.Pairwise (· < ·)∧∀x∈l,0≤x:=fun l hl=>⟨(h.fol l hl).1,fun x hx=>by have:=((h.fol l hl).2 x hx).1;omega⟩
structure TurnI (base m:Mem)(b:Nat)(F:Nat→Option (Nat×Nat))(cur:List (List Int)):Prop where
 le:base.le m
 fr:base.free b
 cell:∀(q:Nat)(l:List Int),cur[q]?=some l→(F q=none∧l=[]∧m b q=some (.slice none 0 0))∨∃bq c,F q=some (bq,c)∧l≠[]∧l.length≤c∧m b q=some (.slice (some ⟨bq,0,none⟩) l.length c)∧(∀o,o < c→∃v,m bq o=some v)∧m.reads bq 0 (ZaA l)∧base.free bq∧bq≠b
 ne:∀(q q' b0 c c':Nat),F q=some (b0,c)→F q'=some (b0,c')→q=q'
 dom:∀(q:Nat)(x:Nat×Nat),F q=some x→q < cur.length
theorem Zqk{m m':Mem}(h:m.le m'){b:Nat}(hf:m'.free b):m.free b:=fun o=>by
 cases he:m b o with
 | none=>rfl
 | some v=>have:=h _ _ _ he;rw[hf o]at this;cases this
theorem Zko(l r:List Int):ZaA (l++r)=ZaA l++ZaA r:=by simp[ZaA]
theorem TurnI.push{base m:Mem}{b:Nat}{F:Nat→Option (Nat×Nat)}{cur:List (List Int)}(h:TurnI base m b F cur){q:Int}{p:Nat}{l:List Int}(rd:0≤q)(hq:cur[q.toNat]?=some l){a:Option Addr}{c:Nat}(hm:m b q.toNat=some (.slice a l.length c)){m1 m2 M:Mem}(bH:(m.cutA a (l.length*1)).le m1)
  {a':Option Addr} {c':Nat} (hr:rowRd m2 a' (ZaA l++[.int .i64 (p:Int)])) (hf:TokFact m1 a a' (l.length+1) c') (uO:(m.cutA a (l.length*1)).le M) (fN:m2.le M) (zs:List Value) (hz:zs.length=(c' - (l.length+1))*1):
  ∃F',TurnI base ((M.upd b q.toNat [.slice a' (l.length+1) c']).addA a' ((l.length+1)*1) zs) b F' (Zov p cur q):=by
 have re:=(List.getElem?_eq_some_iff.1 hq).1
 have kH:∀b o,a=some ⟨b,o,none⟩→o=0:=fun b1 o1 e=>by
  rcases h.cell _ _ hq with⟨_,_,h3⟩|⟨bq,c0,_,_,_,h4,_⟩
  ·rw[hm,e]at h3;simp at h3
  ·rw[hm,e]at h4;simp at h4;exact h4.1.2
 obtain⟨hc',gv⟩:=hf.old kH
 rcases hr with hr|⟨b',o',ha',cM⟩
 ·have:=congrArg List.length hr;simp at this
 rcases gv with rh|⟨b2,ic,gm⟩
 ·rw[rh]at ha';cases ha'
 rw[ic]at ha'
 simp only[Option.some.injEq,Addr.mk.injEq,and_true]at ha'
 obtain⟨rfl,rfl⟩:=ha'
 subst ic
 have gA:∀k o v,m k o=some v→(∀bq c0,F q.toNat=some (bq,c0)→k≠bq)→M k o=some v:=fun k o v hv hk=>by
  refine uO k o v ?_
  unfold Mem.cutA
  split
  ·rename_i k0 o0 s0
   rcases h.cell _ _ hq with⟨_,_,h3⟩|⟨bq,c0,h1,_,_,h4,_⟩
   ·rw[hm]at h3;simp only[Option.some.injEq,Value.slice.injEq]at h3;exact absurd h3.1 (by simp)
   ·rw[hm]at h4
    simp only[Option.some.injEq,Value.slice.injEq,Addr.mk.injEq]at h4
    rw[if_neg (fun hc=>hk bq c0 h1 (hc.1.trans h4.1.1))];exact hv
  ·exact hv
 have hb'k:∀k o v,m k o=some v→(∀bq c0,F q.toNat=some (bq,c0)→k≠bq)→k≠b2:=fun k o v hv hk e=>by
  subst e
  have uP:(m.cutA a (l.length*1)) k o=some v:=by
   unfold Mem.cutA
   split
   ·rename_i k0 o0 s0
    rcases h.cell _ _ hq with⟨_,_,h3⟩|⟨bq,c0,h1,_,_,h4,_⟩
    ·rw[hm]at h3;simp only[Option.some.injEq,Value.slice.injEq]at h3;exact absurd h3.1 (by simp)
    ·rw[hm]at h4
     simp only[Option.some.injEq,Value.slice.injEq,Addr.mk.injEq]at h4
     rw[if_neg (fun hc=>hk bq c0 h1 (hc.1.trans h4.1.1))];exact hv
   ·exact hv
  rcases gm with gm|gm
  ·rcases h.cell _ _ hq with⟨_,_,h3⟩|⟨bq,c0,h1,_,_,h4,_⟩
   ·rw[hm,gm]at h3;simp only[Option.some.injEq,Value.slice.injEq]at h3;exact absurd h3.1 (by simp)
   ·rw[hm,gm]at h4
    simp only[Option.some.injEq,Value.slice.injEq,Addr.mk.injEq]at h4
    exact hk bq c0 h1 h4.1.1
  ·have:=bH _ _ _ uP
   rw[gm o]at this;cases this
 have mS:∀q' x,cur[q']?=some x→∃v,m b q'=some v:=fun q' x hx=>by
  rcases h.cell _ _ hx with⟨_,_,h3⟩|⟨_,_,_,_,_,h4,_⟩
  ·exact⟨_,h3⟩
  ·exact⟨_,h4⟩
 have ri:∀bq c0,F q.toNat=some (bq,c0)→b≠bq:=fun bq c0 h1 e=>by
  rcases h.cell _ _ hq with⟨h3,_,_⟩|⟨bq',c0',h1',_,_,_,_,_,_,h8⟩
  ·rw[h3]at h1;cases h1
  ·rw[h1]at h1';cases h1';exact h8 e.symm
 have gN:b≠b2:=by
  obtain⟨v,hv⟩:=mS _ _ hq
  exact hb'k b _ v hv ri
 let N:=(M.upd b q.toNat [.slice (some ⟨b2,0,none⟩) (l.length+1) c']).addA (some ⟨b2,0,none⟩) ((l.length+1)*1) zs
 have hN:∀k o,k≠b2→(k≠b∨o≠q.toNat)→N k o=M k o:=fun k o hk uQ=>by
  show Mem.addAt _ b2 _ zs k o=_
  unfold Mem.addAt
  rw[if_neg (fun hc=>hk hc.1)]
  unfold Mem.upd
  rw[if_neg]
  rintro⟨e1,e2,e3⟩
  simp at e3
  rcases uQ with h|h
  ·exact h e1
  ·omega
 have pE:N b q.toNat=some (.slice (some ⟨b2,0,none⟩) (l.length+1) c'):=by
  show Mem.addAt _ b2 _ zs b q.toNat=_
  unfold Mem.addAt
  rw[if_neg (fun hc=>gN hc.1)]
  unfold Mem.upd
  rw[if_pos ⟨rfl,Nat.le_refl _,by simp⟩];simp
 have l5:base.free b2:=by
  rcases gm with gm|gm
  ·rcases h.cell _ _ hq with⟨_,_,h3⟩|⟨bq,c0,h1,_,_,h4,_,_,h7,_⟩
   ·rw[hm,gm]at h3;simp only[Option.some.injEq,Value.slice.injEq]at h3;exact absurd h3.1 (by simp)
   ·rw[hm,gm]at h4
    simp only[Option.some.injEq,Value.slice.injEq,Addr.mk.injEq]at h4
    rw[h4.1.1];exact h7
  ·intro o
   cases he:base b2 o with
   | none=>rfl
   | some v=>
    exfalso
    refine hb'k b2 o v (h.le _ _ _ he) (fun bq c0 h1 e=>?_) rfl
    rcases h.cell _ _ hq with⟨h3,_,_⟩|⟨bq',c0',h1',_,_,_,_,_,h7,_⟩
    ·rw[h3]at h1;cases h1
    ·rw[h1]at h1';cases h1'
     rw[e,h7 o]at he;cases he
 refine⟨fun i=>if i=q.toNat then some (b2,c')else F i,?_⟩
 show TurnI base N b _ _
 refine⟨fun k o v hv=>?_,h.fr,fun i x hx=>?_,fun i i' b0 c0 c0' h1 h2=>?_,fun i x hx=>?_⟩
 ·have gj:k≠b2:=fun e=>by subst e;rw[l5 o]at hv;cases hv
  have iI:k≠b:=fun e=>by subst e;rw[h.fr o]at hv;cases hv
  rw[hN k o gj (.inl iI)]
  refine gA k o v (h.le _ _ _ hv) fun bq c0 h1 e=>?_
  rcases h.cell _ _ hq with⟨h3,_,_⟩|⟨bq',c0',h1',_,_,_,_,_,h7,_⟩
  ·rw[h3]at h1;cases h1
  ·rw[h1]at h1';cases h1'
   rw[e,h7 o]at hv;cases hv
 ·have rj:i < cur.length:=by have:=(List.getElem?_eq_some_iff.1 hx).1;rwa [Zgf]at this
  obtain⟨y,hy⟩:∃y,cur[i]?=some y:=⟨_,List.getElem?_eq_getElem rj⟩
  rw[Zkn hy]at hx
  by_cases hi:i=q.toNat
  ·subst hi
   rw[hq]at hy;cases hy
   rw[if_pos rfl]at hx;cases hx
   refine .inr ⟨b2,c',by simp,by simp,by simpa using hc',by rw[List.length_append];exact pE,fun o ho=>?_,fun j v hj=>?_,l5,gN.symm⟩
   ·show ∃v,Mem.addAt _ b2 _ zs b2 o=some v
    unfold Mem.addAt
    by_cases pF:0+(l.length+1)*1≤o
    ·rw[if_pos ⟨rfl,pF⟩]
     have:o - (0+(l.length+1)*1) < zs.length:=by omega
     rw[List.getElem?_eq_getElem this];exact⟨_,rfl⟩
    ·rw[if_neg (fun hc=>pF hc.2)]
     have hv:=cM o ((ZaA l++[.int .i64 (p:Int)])[o]'(by simp[Zch];omega)) (List.getElem?_eq_getElem _)
     rw[Nat.zero_add]at hv
     rw[Mem.upd_other _ gN.symm]
     exact⟨_,fN _ _ _ hv⟩
   ·show Mem.addAt _ b2 _ zs b2 (0+j)=some v
    have uR:=(List.getElem?_eq_some_iff.1 hj).1
    rw[Zch,List.length_append,List.length_singleton]at uR
    unfold Mem.addAt
    rw[if_neg (by omega),Mem.upd_other _ gN.symm]
    rw[Zko]at hj
    exact fN _ _ _ (cM j v hj)
  ·rw[if_neg (fun e=>hi e.symm)]at hx
   obtain rfl:y=x:=Option.some.inj hx
   have oa:∀x,F i=some x→∀bq c0,F q.toNat=some (bq,c0)→x.1≠bq:=fun x h1 bq c0 h2 e=>by
    obtain⟨x1,x2⟩:=x
    simp only at e;subst e
    exact hi (h.ne _ _ _ _ _ h1 h2)
   rcases h.cell _ _ hy with⟨h1,h2,h3⟩|⟨bq,c0,h1,h2,h3,h4,h5,h6,h7,h8⟩
   ·refine .inl ⟨by simp only[if_neg hi];exact h1,h2,?_⟩
    rw[hN b i gN (.inr hi)]
    exact gA _ _ _ h3 ri
   ·have hk:∀bq' c0',F q.toNat=some (bq',c0')→bq≠bq':=fun bq' c0' h=>oa _ h1 bq' c0' h
    have gj:bq≠b2:=by
     cases y with
     | nil=>exact absurd rfl h2
     | cons z y=>
      have:=h6 0 (.int .i64 z) rfl
      exact hb'k _ _ _ this hk
    refine .inr ⟨bq,c0,by simp only[if_neg hi];exact h1,h2,h3,?_,fun o ho=>?_,fun j v hj=>?_,h7,h8⟩
    ·rw[hN b i gN (.inr hi)];exact gA _ _ _ h4 ri
    ·obtain⟨v,hv⟩:=h5 o ho
     exact⟨v,by rw[hN bq o gj (.inl h8)];exact gA _ _ _ hv hk⟩
    ·rw[hN bq _ gj (.inl h8)];exact gA _ _ _ (h6 j v hj) hk
 ·have key:∀j c1,F j=some (b2,c1)→j=q.toNat:=fun j c1 hj=>by
   have jW:=h.dom _ _ hj
   rcases h.cell j _ (List.getElem?_eq_getElem jW)with⟨h3,_,_⟩|⟨bq,c0,g1,g2,_,_,_,g6,_,_⟩
   ·rw[h3]at hj;cases hj
   ·rw[hj]at g1;cases g1
    cases oa:F q.toNat with
    | none=>
     exfalso
     have:∃z y,cur[j]'jW=z::y:=by
      cases hc:cur[j]'jW with
      | nil=>exact absurd hc g2
      | cons z y=>exact⟨z,y,rfl⟩
     obtain⟨z,y,rk⟩:=this
     have hv:=g6 0 (.int .i64 z) (by rw[rk];rfl)
     exact hb'k _ _ _ hv (fun bq c0 h1=>by rw[oa]at h1;cases h1) rfl
    | some x=>
     obtain⟨x1,x2⟩:=x
     by_cases i4:x1=b2
     ·subst i4;exact h.ne _ _ _ _ _ hj oa
     ·exfalso
      have:∃z y,cur[j]'jW=z::y:=by
       cases hc:cur[j]'jW with
       | nil=>exact absurd hc g2
       | cons z y=>exact⟨z,y,rfl⟩
      obtain⟨z,y,rk⟩:=this
      have hv:=g6 0 (.int .i64 z) (by rw[rk];rfl)
      exact hb'k _ _ _ hv (fun bq c0 h1 e=>by rw[oa]at h1;cases h1;exact i4 e.symm) rfl
  split at h1 <;> split at h2
  ·omega
  ·simp only[Option.some.injEq,Prod.mk.injEq]at h1
   rw[←h1.1]at h2
   have:=key _ _ h2;omega
  ·simp only[Option.some.injEq,Prod.mk.injEq]at h2
   rw[←h2.1]at h1
   have:=key _ _ h1;omega
  ·exact h.ne _ _ _ _ _ h1 h2
 ·rw[Zgf]
  split at hx
  ·omega
  ·exact h.dom _ _ hx
end Go.Rx
namespace Go.Rx
open Go Go.Eng Go.RowKit
def Zuu(q:QS):T:=.node 2 q.1 q.2.1 q.2.2.1 q.2.2.2 0 0 none 0 []
def Zw3(q:QS)(c:Nat):Bool:=(Zuu q).hasB c
def QOk(q:QS):Prop:=(0≤q.1∧q.1 < 18446744073709551616)∧(0≤q.2.1∧q.2.1 < 18446744073709551616)∧(0≤q.2.2.1∧q.2.2.1 < 18446744073709551616)∧(0≤q.2.2.2∧q.2.2.2 < 18446744073709551616)
theorem ZwL{q:QS}(h:QOk q)(m:Mem):Rep m (Zuu q):=by
 simp only[Zuu,Rep]
 exact⟨by simp,.inl trivial,⟨by omega,h.1,h.2.1,h.2.2.1,h.2.2.2,by omega,by omega⟩⟩
def Zwu(l:List Int)(f:Nat):Nat:=l.foldl (fun f p=>f|||2 ^ p.toNat) f
def Nf.fromL(A:Nf)(p:Int):List Int:=if p=-1 then A.first else(A.fol[p.toNat]?).getD []
def Nf.hasAt(A:Nf)(q:Int)(c:Nat):Bool:=Zw3 ((A.sets[q.toNat]?).getD zQ) c
def Nf.step1(A:Nf)(c:Nat)(f:Nat)(q:Int):Nat:=if A.hasAt q c then f|||2 ^ q.toNat else f
def Nf.stepM(A:Nf)(l:List Int)(c:Nat)(f:Nat):Nat:=l.foldl (fun f p=>(A.fromL p).foldl (A.step1 c) f) f
def Nf.step(A:Nf)(l:List Int)(c:Nat):List Int:=ZbX (A.stepM l c 0)
def Nf.acc1(A:Nf)(p:Int):Bool:=if p=-1 then A.empty else(Zwu A.last 0).testBit p.toNat
def Nf.accepts(A:Nf)(l:List Int):Bool:=l.any A.acc1
def Nf.states(A:Nf)(l:List Int):Bool:=Zdc l (-2) A.top
theorem Zll{A:Nf}{l:List Int}(h:A.states l=true):∀p∈l,-1≤p∧p≤A.top:=fun p hp=>by
 have:=(Zb9.1 h).2 p hp;omega
theorem Zlm{A:Nf}{c:Nat}:∀(l:List Int)(f i:Nat),(∀p∈l,0≤p)→((l.foldl (A.step1 c) f).testBit i=true↔f.testBit i=true∨((i:Int)∈l∧A.hasAt i c=true))
 | [],f,i,_=>by simp
 | p::l,f,i,h=>by
  have hp:=h p (by simp)
  rw[List.foldl_cons,Zlm l _ i (fun p hp=>h p (by simp[hp]))]
  have e:p.toNat=i↔(i:Int)=p:=by omega
  unfold Nf.step1
  by_cases hh:A.hasAt p c=true
  ·rw[if_pos hh]
   simp only[Nat.testBit_or,Bool.or_eq_true,Nat.testBit_two_pow,decide_eq_true_eq,List.mem_cons,e]
   constructor
   ·rintro((h1|h1)|h1)
    ·exact .inl h1
    ·exact .inr ⟨.inl h1,by rw[h1];exact hh⟩
    ·exact .inr ⟨.inr h1.1,h1.2⟩
   ·rintro(h1|⟨h1|h1,h2⟩)
    ·exact .inl (.inl h1)
    ·exact .inl (.inr h1)
    ·exact .inr ⟨h1,h2⟩
  ·rw[if_neg hh]
   constructor
   ·rintro(h1|h1)
    ·exact .inl h1
    ·exact .inr ⟨by simp[h1.1],h1.2⟩
   ·rintro(h1|⟨h1,h2⟩)
    ·exact .inl h1
    ·rcases List.mem_cons.1 h1 with h1|h1
     ·rw[h1]at h2;exact absurd h2 hh
     ·exact .inr ⟨h1,h2⟩
theorem ZhG{A:Nf}(h:A.Ok)(p:Int):(A.fromL p).Pairwise (· < ·)∧∀x∈A.fromL p,-1 < x∧x≤A.top:=by
 unfold Nf.fromL
 split
 ·exact h.first
 ·cases hl:A.fol[p.toNat]? with
  | none=>exact⟨by simp,by simp⟩
  | some l=>exact h.fol l (List.mem_of_getElem? hl)
theorem Zil{A:Nf}(hA:A.Ok){c:Nat}:∀(l:List Int)(f i:Nat),((A.stepM l c f).testBit i=true↔f.testBit i=true∨((∃p∈l,(i:Int)∈A.fromL p)∧A.hasAt i c=true))
 | [],f,i=>by simp[Nf.stepM]
 | p::l,f,i=>by
  show(A.stepM l c ((A.fromL p).foldl (A.step1 c) f)).testBit i=true↔_
  rw[Zil hA l,Zlm _ _ _ (fun x hx=>by have:=(ZhG hA p).2 x hx;omega)]
  constructor
  ·rintro((h1|h1)|⟨⟨q,h1,h2⟩,h3⟩)
   ·exact .inl h1
   ·exact .inr ⟨⟨p,by simp,h1.1⟩,h1.2⟩
   ·exact .inr ⟨⟨q,by simp[h1],h2⟩,h3⟩
  ·rintro(h1|⟨⟨q,h1,h2⟩,h3⟩)
   ·exact .inl (.inl h1)
   ·rcases List.mem_cons.1 h1 with h1|h1
    ·subst h1;exact .inl (.inr ⟨h2,h3⟩)
    ·exact .inr ⟨⟨q,h1,h2⟩,h3⟩
theorem Zql{A:Nf}(hA:A.Ok){l:List Int}{c:Nat}{x:Int}:x∈A.step l c↔0≤x∧(∃p∈l,x∈A.fromL p)∧A.hasAt x c=true:=by
 unfold Nf.step
 rw[ZnF]
 constructor
 ·rintro⟨i,h1,h2,rfl⟩
  have:=(Zil hA l 0 i).1 h2
  simp at this
  exact⟨by omega,this.1,this.2⟩
 ·rintro⟨h0,⟨p,h1,h2⟩,h3⟩
  have hb:=(ZhG hA p).2 x h2
  have hn:=hA.n
  unfold Nf.top at hb
  refine⟨x.toNat,by omega,?_,by omega⟩
  rw[Zil hA]
  refine .inr ⟨⟨p,h1,?_⟩,?_⟩
  ·rw[show((x.toNat:Nat):Int)=x by omega];exact h2
  ·rw[show((x.toNat:Nat):Int)=x by omega];exact h3
theorem Zjr{A:Nf}(hA:A.Ok)(l:List Int)(c:Nat):A.states (A.step l c)=true:=by
 unfold Nf.states
 rw[Zb9]
 refine⟨ZhD _,fun x hx=>?_⟩
 obtain⟨h0,⟨p,_,h2⟩,_⟩:=(Zql hA).1 hx
 have:=(ZhG hA p).2 x h2
 omega
def Nf.next(A:Nf)(again:Bool)(l:List Int)(c:Nat):List Int:=if again then -1::A.step l c else A.step l c
def Nf.runL{S:Type}(A:Nf)(again:Bool)(st:S→Nat→List Int→S):List Nat→Nat→List Int→S→S
 | [],_,_,s=>s
 | c::bs,i,l,s=>A.runL again st bs (i+1) (A.next again l c) (st s (i+1) (A.next again l c))
theorem ZnI{A:Nf}(hA:A.Ok)(again:Bool)(l:List Int)(c:Nat):A.states (A.next again l c)=true:=by
 unfold Nf.next
 have h:=Zjr hA l c
 split
 ·unfold Nf.states at h ⊢
  rw[Zb9]at h ⊢
  refine⟨?_,fun x hx=>?_⟩
  ·rw[List.pairwise_cons]
   refine⟨fun x hx=>?_,h.1⟩
   obtain⟨h0,_⟩:=(Zql hA).1 hx
   omega
  ·rcases List.mem_cons.1 hx with rfl|hx
   ·exact⟨by omega,by unfold Nf.top;omega⟩
   ·exact h.2 x hx
 ·exact h
def Nf.run(A:Nf)(b:List Nat)(l:List Int):List Int:=b.foldl (fun l c=>A.step l c) l
def Nf.matches(A:Nf)(b:List Nat):Bool:=A.accepts (A.run b [-1])
def Nf.search(A:Nf)(b:List Nat):List Int:=A.runL true (fun s n l=>if A.accepts l then s++[(n:Int)]else s) b 0 [-1] (if A.accepts [-1]then[0]else[])
theorem Zqm(A:Nf):∀(b:List Nat)(i:Nat)(l:List Int),A.runL false (fun _ _ l=>l) b i l l=A.run b l
 | [],i,l=>rfl
 | c::b,i,l=>by rw[Nf.runL,Zqm A b];rfl
theorem Zln{A:Nf}(hA:A.Ok):∀(b:List Nat)(l:List Int),A.states l=true→A.states (A.run b l)=true
 | [],l,h=>h
 | c::b,l,h=>Zln hA b _ (Zjr hA l c)
theorem ZlZ(A:Nf):A.states [-1]=true:=by
 unfold Nf.states
 rw[Zb9]
 exact⟨by simp,fun x hx=>by rw[List.mem_singleton]at hx;subst hx;unfold Nf.top;omega⟩
def Nf.err(A:Nf)(l:List Int):Int:=if A.right=false then 171 else if A.states l=false then 172 else 0
def Nf.runE(A:Nf)(n:Nat):Int:=if A.right=false then 171 else if 4096 < n then 3 else 0
inductive Nf.Reach (A:Nf):Nat→Prop
 | first {p:Nat} (h:(p:Int)∈A.first):A.Reach p
 | fol {p q:Nat} {l:List Int} (h:A.Reach p) (hl:A.fol[p]?=some l) (hq:(q:Int)∈l):A.Reach q
end Go.Rx
namespace Go.Rx
open Go Go.Eng Go.RowKit
structure Seek (A:Nf)(todo:List Int)(f:Nat):Prop where
 rng:∀x∈todo,0≤x∧x≤A.top∧A.Reach x.toNat
 in_:∀i,f.testBit i=true→A.Reach i
 first:∀x∈A.first,x∈todo∨f.testBit x.toNat=true
 fol:∀(i:Nat)(l:List Int),f.testBit i=true→A.fol[i]?=some l→∀x∈l,x∈todo∨f.testBit x.toNat=true
theorem Seek.start{A:Nf}(hA:A.Ok):Seek A A.first 0:=by
 refine⟨fun x hx=>?_,fun i hi=>by simp at hi,fun x hx=>.inl hx,fun i l hi=>by simp at hi⟩
 have:=hA.first.2 x hx
 exact⟨by omega,this.2,.first (by rw[show((x.toNat:Nat):Int)=x by omega];exact hx)⟩
theorem Seek.skip{A:Nf}{x:Int}{todo:List Int}{f:Nat}(h:Seek A (x::todo) f)(hx:f.testBit x.toNat=true):Seek A todo f:=by
 refine⟨fun y hy=>h.rng y (by simp[hy]),h.in_,fun y hy=>?_,fun i l hi hl y hy=>?_⟩
 ·rcases h.first y hy with h1|h1
  ·rcases List.mem_cons.1 h1 with rfl|h1
   ·exact .inr hx
   ·exact .inl h1
  ·exact .inr h1
 ·rcases h.fol i l hi hl y hy with h1|h1
  ·rcases List.mem_cons.1 h1 with rfl|h1
   ·exact .inr hx
   ·exact .inl h1
  ·exact .inr h1
theorem Seek.take{A:Nf}(hA:A.Ok){x:Int}{todo l:List Int}{f:Nat}(h:Seek A (x::todo) f)(hl:A.fol[x.toNat]?=some l):Seek A (todo++l) (f|||2 ^ x.toNat):=by
 have hx:=h.rng x (by simp)
 have iB:∀i,(f|||2 ^ x.toNat).testBit i=true↔f.testBit i=true∨i=x.toNat:=fun i=>by
  simp only[Nat.testBit_or,Bool.or_eq_true,Nat.testBit_two_pow,decide_eq_true_eq]
  exact⟨fun h=>h.imp_right Eq.symm,fun h=>h.imp_right Eq.symm⟩
 refine⟨fun y hy=>?_,fun i hi=>?_,fun y hy=>?_,fun i r hi hr y hy=>?_⟩
 ·rcases List.mem_append.1 hy with hy|hy
  ·exact h.rng y (by simp[hy])
  ·have hb:=(hA.fol l (List.mem_of_getElem? hl)).2 y hy
   exact⟨by omega,hb.2,.fol hx.2.2 hl (by rw[show((y.toNat:Nat):Int)=y by omega];exact hy)⟩
 ·rcases(iB i).1 hi with h1|rfl
  ·exact h.in_ i h1
  ·exact hx.2.2
 ·rcases h.first y hy with h1|h1
  ·rcases List.mem_cons.1 h1 with rfl|h1
   ·exact .inr ((iB _).2 (.inr rfl))
   ·exact .inl (by simp[h1])
  ·exact .inr ((iB _).2 (.inl h1))
 ·rcases(iB i).1 hi with h1|rfl
  ·rcases h.fol i r h1 hr y hy with h2|h2
   ·rcases List.mem_cons.1 h2 with rfl|h2
    ·exact .inr ((iB _).2 (.inr rfl))
    ·exact .inl (by simp[h2])
   ·exact .inr ((iB _).2 (.inl h2))
  ·rw[hl]at hr;cases hr
   exact .inl (by simp[hy])
theorem Seek.done{A:Nf}(hA:A.Ok){f:Nat}(h:Seek A [] f)(i:Nat):f.testBit i=true↔A.Reach i:=by
 refine⟨h.in_ i,fun hr=>?_⟩
 induction hr with
 | first hp=>
  rcases h.first _ hp with h1|h1
  ·simp at h1
  ·simpa using h1
 | fol _ hl hq ih=>
  rcases h.fol _ _ ih hl _ hq with h1|h1
  ·simp at h1
  ·simpa using h1
end Go.Rx
namespace Go.Rx
open Go Go.Eng Go.RowKit
def Src(l:List T)(s:Ms)(r:Pt×Ms):Prop:=∀q∈r.2.sets,q∈s.sets∨∃x∈l,x.k=2∧q=(x.s0,x.s1,x.s2,x.s3)
theorem Src.refl(l:List T)(s:Ms)(p:Pt):Src l s (p,s):=fun q hq=>.inl hq
theorem Src.mono{l l':List T}{s:Ms}{r:Pt×Ms}(h:Src l s r)(hl:∀x∈l,x∈l'):Src l' s r:=fun q hq=>(h q hq).imp_right fun⟨x,h1,h2⟩=>⟨x,hl x h1,h2⟩
theorem Src.trans{l:List T}{s s1:Ms}{p:Pt}{r:Pt×Ms}(h:Src l s (p,s1))(k:Src l s1 r):Src l s r:=fun q hq=>by
 rcases k q hq with h1|h1
 ·exact h q h1
 ·exact .inr h1
theorem Zqn{f:Ms→Pt×Ms}{l:List T}(hf:∀s,Src l s (f s))(mn mx:Int)(n:Nat):∀(q i:Nat)(out:Pt)(s:Ms),Src l s (Zmn f mn mx n q i out s)
 | 0,i,out,s=>Src.refl _ _ _
 | q+1,i,out,s=>by
  unfold Zmn
  simp only
  generalize gk:(if mx=-1∧i+1=n then(⟨(f s).2.sets,Zdr (f s).2.fol (f s).1.last (f s).1.first⟩:Ms)else(f s).2)=s2
  have e:s2.sets=(f s).2.sets:=by rw[←gk];split <;> rfl
  have h1:Src l s (out,s2):=fun q hq=>hf s q (by rw[←e];exact hq)
  refine h1.trans (fun q hq=>?_)
  have:=Zqn hf mn mx n _ _ _ _ q hq
  exact this
mutual
theorem Zo7:∀(t:T)(s:Ms),Src t.nodes s (mk t s)
 | .node k s0 s1 s2 s3 mn mx a c l,s=>by
  unfold mk
  split
  ·exact Src.refl _ _ _
  split
  ·exact Src.refl _ _ _
  split
  ·rename_i hk
   intro q hq
   simp only[List.mem_append,List.mem_singleton]at hq
   rcases hq with hq|rfl
   ·exact .inl hq
   ·exact .inr ⟨.node k s0 s1 s2 s3 mn mx a c l,by rw[Za5];simp,hk,rfl⟩
  split
  ·exact(ZnJ l _ s).mono (fun x hx=>by rw[Za5];exact List.mem_cons_of_mem _ hx)
  split
  ·exact(ZnK l _ s).mono (fun x hx=>by rw[Za5];exact List.mem_cons_of_mem _ hx)
  split
  ·exact(Zqn (fun s=>Zqo l s) _ _ _ _ _ _ _).mono (fun x hx=>by rw[Za5];exact List.mem_cons_of_mem _ hx)
  ·exact(Zqo l s).mono (fun x hx=>by rw[Za5];exact List.mem_cons_of_mem _ hx)
theorem Zqo:∀(l:List T)(s:Ms),Src (Zar l) s (Zkl l s)
 | [],s=>by unfold Zkl;exact Src.refl _ _ _
 | t::l,s=>by unfold Zkl;exact(Zo7 t s).mono (fun x hx=>by simp[Zar,hx])
theorem ZnJ:∀(l:List T)(out:Pt)(s:Ms),Src (Zar l) s (ZfS l out s)
 | [],out,s=>by unfold ZfS;exact Src.refl _ _ _
 | t::l,out,s=>by
  unfold ZfS
  have h1:Src (Zar (t::l)) s (mk t s):=(Zo7 t s).mono (fun x hx=>by simp[Zar,hx])
  have h2:Src (Zar (t::l)) s (out,(ZhB out (mk t s).1 (mk t s).2).2):=h1
  exact h2.trans ((ZnJ l _ _).mono (fun x hx=>by simp[Zar,hx]))
theorem ZnK:∀(l:List T)(out:Pt)(s:Ms),Src (Zar l) s (Ze2 l out s)
 | [],out,s=>by unfold Ze2;exact Src.refl _ _ _
 | t::l,out,s=>by
  unfold Ze2
  have h1:Src (Zar (t::l)) s (mk t s):=(Zo7 t s).mono (fun x hx=>by simp[Zar,hx])
  have h2:Src (Zar (t::l)) s (out,(mk t s).2):=h1
  exact h2.trans ((ZnK l _ _).mono (fun x hx=>by simp[Zar,hx]))
end
theorem ZnL{t:T}(h:t.nfit=true):t.light=true∧(∀x∈t.nodes,x.right=true)∧t.pos≤400:=by
 unfold T.nfit at h
 simp only[Bool.and_eq_true,decide_eq_true_eq]at h
 obtain⟨hc,_,hp⟩:=h
 unfold T.clean at hc
 simp only[Bool.and_eq_true,List.all_eq_true]at hc
 refine⟨hc.1,hc.2,?_⟩
 unfold T.positions at hp
 rw[hc.1]at hp;simpa using hp
theorem ZnM{t:T}(h:t.nfit=true):(t.auto.sets.length:Int)=t.pos:=by
 obtain⟨_,h1,h2⟩:=ZnL h
 have:=Zik t h1 (by omega) ⟨[],[]⟩
 have h3:=(Zgb t).1
 show((mk t ⟨[],[]⟩).2.sets.length:Int)=_
 rw[this];simp;omega
theorem Zst{t:T}(h:t.nfit=true):t.auto.Ok:=by
 obtain⟨_,h1,h2⟩:=ZnL h
 have hc:=ZnM h
 have hg:=ZdO t ⟨[],[]⟩ ⟨rfl,fun j x hj=>by simp at hj⟩
 have hn:t.auto.sets.length≤400:=by omega
 have hn':(mk t ⟨[],[]⟩).2.sets.length≤400:=hn
 have hl:t.auto.fol.length=t.auto.sets.length:=by
  show((mk t ⟨[],[]⟩).2.fol.map ZbX).length=_
  rw[List.length_map];exact hg.ok.len
 have jX:∀f:Nat,(∀i,f.testBit i=true→i < (mk t ⟨[],[]⟩).2.sets.length)→(ZbX f).Pairwise (· < ·)∧∀x∈ZbX f,-1 < x∧x≤t.auto.top:=fun f hf=>by
  have:=Zo6 (f:=f) (n:=t.auto.sets.length) (by omega) hf
  rw[Zb9]at this
  exact this
 refine⟨hn,hl,jX _ hg.pt.1,jX _ hg.pt.2,fun l hl=>?_,fun q hq e=>?_⟩
 ·obtain⟨f,hf,rfl⟩:=List.mem_map.1 (show l∈(mk t ⟨[],[]⟩).2.fol.map ZbX from hl)
  obtain⟨j,hj⟩:=List.getElem?_of_mem hf
  exact jX f (hg.ok.fol j f hj)
 ·rcases Zo7 t ⟨[],[]⟩ q hq with h3|⟨x,hx,hk,rfl⟩
  ·simp at h3
  ·have hr:=Zjm (h1 x hx)
   rw[hk]at hr
   have hz:x.setZ=false:=by
    rcases hr with h4|h4|h4|h4|h4|h4
    ·omega
    ·exact h4.2.2
    ·omega
    ·omega
    ·omega
    ·omega
   unfold zQ at e
   simp only[Prod.mk.injEq]at e
   unfold T.setZ at hz
   rw[e.1,e.2.1,e.2.2.1,e.2.2.2]at hz;simp at hz
theorem Zo8{t:T}(h:t.nfit=true):t.auto.right=true:=Zfy.2 (Zst h)
theorem ZvM{t:T}{m:Mem}(h:Rep m t):∀q∈t.auto.sets,QOk q:=fun q hq=>by
 rcases Zo7 t ⟨[],[]⟩ q hq with h3|⟨x,hx,hk,rfl⟩
 ·simp at h3
 ·have:=Zs5 (Zno h hx)
  exact⟨this.s0,this.s1,this.s2,this.s3⟩
end Go.Rx
namespace Go.Rx
open Go Go.Eng Go.RowKit
structure Bad (t:T):Prop where
 k:t.k≠0
 no:t.check≠0
structure Says (t:T)(len:Nat)(i:Int)(e:Int):Prop where
 one:t.wrong len i=e
 rg:Rg.wrong ⟨false,false,t⟩ len i=e
 all:ZvI [⟨false,false,t⟩] len i=e
structure Asks (k:Nat)(t:T)(len:Nat)(i e:Int):Prop where
 uS:Says t len i e
 zero:k≤1→Says t len 0 e
 no:e≠0
 len:len≤513
end Go.Rx
namespace Go.Rx
open Go Go.Eng Go.RowKit
end Go.Rx
namespace Go.Rx
open Go Go.Eng Go.RowKit
abbrev Re:=Nat→Nat→Prop
def pow(R:Re):Nat→Re
 | 0=>fun i j=>i=j
 | n+1=>fun i j=>∃m,R i m∧pow R n m j
mutual
def T.M(s:List Nat):T→Re
 | .node k s0 s1 s2 s3 mn mx a c l=>fun i j=>
  if k=1 then i=j else if k=2 then j=i+1∧∃b,s[i]?=some b∧(T.node k s0 s1 s2 s3 mn mx a c l).hasB b=true
  else if k=3 then MC s l i j else if k=4 then MA s l i j
  else if k=5 then ∃n:Nat,mn.toNat≤n∧(mx=-1∨n≤mx.toNat)∧pow (MH s l) n i j
  else if k=6 then MH s l i j else False
def MC(s:List Nat):List T→Re
 | []=>fun i j=>i=j
 | t::l=>fun i j=>∃m,t.M s i m∧MC s l m j
def MA(s:List Nat):List T→Re
 | []=>fun _ _=>False
 | t::l=>fun i j=>t.M s i j∨MA s l i j
def MH(s:List Nat):List T→Re
 | []=>fun i j=>i=j
 | t::_=>t.M s
end
section
variable {s:List Nat}
end
def Fwd(R:Re):Prop:=∀i j,R i j→i≤j
def Sh(s s':List Nat)(R R':Re):Prop:=∀i j i',R i j→(∀p,i+p < j→s[i+p]?=s'[i'+p]?)→R' i' (i'+(j - i))
def Len(s:List Nat)(R:Re):Prop:=∀i j,R i j→i≤s.length→j≤s.length
structure Nice (s s':List Nat)(R R':Re):Prop where
 fwd:Fwd R
 sh:Sh s s' R R'
 len:Len s R
end Go.Rx
namespace Go.Rx
open Go Go.Eng Go.RowKit
set_option maxRecDepth 100000
end Go.Rx
namespace Go.Rx
open Go Go.Eng Go.RowKit
set_option maxRecDepth 100000
def Zvs(F n:Nat)(u:List Nat):List Nat:=(u.filter fun k:Nat=>decide ((k:Int) - F≤n)).map fun k=>k - F
end Go.Rx
namespace Go.Rx
open Go Go.Eng Go.RowKit
set_option maxRecDepth 100000
end Go.Rx
namespace Go.Rx
open Go Go.Eng Go.RowKit
set_option maxRecDepth 100000
end Go.Rx
namespace Go.Rx
open Go Go.Eng Go.RowKit
set_option maxRecDepth 100000
mutual
def T.alts:T→List T
 | .node k s0 s1 s2 s3 mn mx a c l=>(if k=4 then[.node k s0 s1 s2 s3 mn mx a c l]else[])++Zvt l
def Zvt:List T→List T
 | []=>[]
 | t::l=>t.alts++Zvt l
end
def Zw4(L:List T):T:=(Zfx 3 none 0 (Zec 3 1 L)).er
def Zw5(L:List T):T:=(Zfx 4 none 0 (Zec 4 0 L)).er
structure Made (L:List T)(r:T):Prop where
 good:r.good=true
 sz:r.nodes.length≤1+szL L
 gr:r.gr=grL L
 er:r.er=r
def T.isC(t:T):Bool:=t.k == 2
def Zsu(t:T):List T:=if t.k=2 then[t]else if t.k=3 then t.subs.takeWhile T.isC else[]
def Zuv(a b:T):Bool:=a.s0 == b.s0&&(a.s1 == b.s1&&(a.s2 == b.s2&&a.s3 == b.s3))
def ZnN:List T→List T→Nat
 | a::l,b::r=>if Zuv a b then ZnN l r+1 else 0
 | _,_=>0
structure C4 where
 a:Nat
 f:Nat
 t:Nat
 n:Nat
deriving DecidableEq
def C4.v(c:C4):Value:=.agg #[.int .i64 (c.a:Nat),.int .i64 (c.f:Nat),.int .i64 (c.t:Nat),.int .i64 (c.n:Nat)]
def runE(n f:Nat):List T→Nat→List T→List C4
 | _,_,[]=>[]
 | s,t,x::r=>if ZnN s (Zsu x)=0 then[]else⟨n,f,t,ZnN s (Zsu x)⟩::runE n f (s.take (ZnN s (Zsu x))) (t+1) r
def Zwe(n:Nat):Nat→List T→List C4
 | _,[]=>[]
 | f,x::r=>runE n f (Zsu x) (f+2) r++Zwe n (f+1) r
def Zwf:Nat→List T→List C4
 | _,[]=>[]
 | n,a::l=>Zwe n 0 a.subs++Zwf (n+1) l
def T.cuts(t:T):List C4:=Zwf 0 t.alts
def ZwM(n:Nat)(x:T):T:=if x.k=2 then T1 else Zw4 (x.subs.drop n)
def Zvu:Bool→List T→List T
 | _,[]=>[]
 | e,x::r=>if x.k≠1∨e=false then x::Zvu (e||x.k == 1) r else Zvu (e||x.k == 1) r
def Zxm(subs:List T)(c:C4):T:=Zw4 (((Zsu (subs[c.f]?.getD T0)).take c.n)++[Zw5 (Zvu false (((subs.take c.t).drop c.f).map (ZwM c.n)))])
def Zxf(subs:List T)(c:C4):List T:=subs.take c.f++Zxm subs c::subs.drop c.t
structure Fit (subs:List T)(c:C4):Prop where
 two:c.f+2≤c.t
 le:c.t≤subs.length
 pos:1≤c.n
 head:∀i x,c.f≤i→i < c.t→subs[i]?=some x→c.n≤(Zsu x).length
end Go.Rx
namespace Go.Rx
open Go Go.Eng Go.RowKit
set_option maxRecDepth 100000
structure OneOk (seg:List T)(n:Nat)(r:T):Prop where
 good:r.good=true
 sz:r.nodes.length≤2+n+szL seg
 gr:r.gr=grL seg
 er:r.er=r
 k:r.k=2∨r.k=3
structure CutOk (subs:List T)(L:List T):Prop where
 good:∀x∈L,x.good=true
 sz:szL L≤3+2*szL subs
 gr:grL L=grL subs
 ne:L≠[]
 k:∀x∈L,x.k≠1∨x∈subs
mutual
def T.cutAt(c:C4):T→Nat→T×Nat
 | .node k s0 s1 s2 s3 mn mx a cc l,n=>
  if k=4∧n=c.a then(Zw5 (Zxf l c),n+1+(Zvt (Zxf l c)).length)
  else(if k=3 then Zw4 (ZnO c l (if k=4 then n+1 else n)).1 else if k=4 then Zw5 (ZnO c l (if k=4 then n+1 else n)).1 else .node k s0 s1 s2 s3 mn mx none 0 (ZnO c l (if k=4 then n+1 else n)).1,(ZnO c l (if k=4 then n+1 else n)).2)
def ZnO(c:C4):List T→Nat→List T×Nat
 | [],n=>([],n)
 | t::l,n=>((t.cutAt c n).1::(ZnO c l (t.cutAt c n).2).1,(ZnO c l (t.cutAt c n).2).2)
end
structure AtOk (t r:T):Prop where
 good:r.good=true
 sz:r.nodes.length≤3*t.nodes.length
 gr:r.gr=t.gr
 er:r.er=r
 k:t.k≠1→r.k≠1
end Go.Rx
namespace Go.Rx
open Go Go.Eng Go.RowKit
set_option maxRecDepth 100000
structure Top where
 c:C4
 g:Int
 t:T
def C4.zero:C4:=⟨0,0,0,0⟩
def ZwN(t:T)(c:C4):Int:=(t.nodes.length:Int) - ((t.cutAt c 0).1.nodes.length:Int)
structure TopOk (t:T)(b:Top):Prop where
 or:(b.g=0∧b.c=C4.zero∧b.t=t.er)∨(0 < b.g∧b.c∈t.cuts∧b.g=ZwN t b.c∧b.t=(t.cutAt b.c 0).1)
end Go.Rx
namespace Go.Rx
open Go Go.Eng Go.RowKit
set_option maxRecDepth 100000
structure Made2 (t f:T):Prop where
 good:f.good=true
 gr:f.gr=t.gr
 pos:f.pos≤t.pos
 er:f.er=f
 less:f.nodes.length < t.nodes.length∨f=t.er
end Go.Rx
namespace Go.Rx
open Go Go.Eng Go.RowKit
set_option maxRecDepth 100000
theorem Zth:∀c:Fin 256,(Zaq c.val).right=true:=by decide +kernel
theorem ZhH(c:Nat):(Zaq c).nodes=[Zaq c]:=by rw[Za5];rfl
theorem ZvN(c:Nat)(t:T):Zec 3 1 [Zaq c,t]=Zaq c::Zgc 3 1 t:=by
 unfold Zec
 simp only[List.map_cons,List.map_nil,List.flatten_cons,List.flatten_nil,List.append_nil]
 rw[show Zgc 3 1 (Zaq c)=[Zaq c] from rfl];rfl
theorem Zo9{t:T}:(Zar (Zgc 3 1 t)).length≤t.nodes.length∧∀x∈Zar (Zgc 3 1 t),x∈t.nodes:=by
 unfold Zgc
 split
 ·rw[Za5 t];exact⟨by simp,fun x hx=>List.mem_cons_of_mem _ hx⟩
 ·split
  ·exact⟨by simp[Zar],fun x hx=>by simp[Zar]at hx⟩
  ·simp only[Zar,List.append_nil];exact⟨Nat.le_refl _,fun x hx=>hx⟩
theorem Zuw{cc:Nat}(jc:cc < 256){t w:T}{a:Option Addr}{c:Nat}(ht:t.check=0)(h:Zw2 3 a c T1 (Zec 3 1 [Zaq cc,t]) w):w.clean=true∧1≤w.pos∧w.k≠0:=by
 have hx:(Zaq cc).right=true:=Zth ⟨cc,jc⟩
 have hg:=ZoZ ht
 have tB:∀x∈t.nodes,x.right=true:=by have:=hg.1;unfold T.good at this;exact List.all_eq_true.1 this
 rw[ZvN]at h
 obtain⟨n1,n2⟩:=Zo9 (t:=t)
 have key:∀u:T,u.clean=true→w.er=u.er→1≤u.pos→u.k≠0→w.clean=true∧1≤w.pos∧w.k≠0:=fun u h1 h2 h3 h4=>by
  refine⟨by rw[Ztd h2];exact h1,?_,by rw[ZwJ h2];exact h4⟩
  have:w.pos=u.pos:=by rw[←Ztc w,h2,Ztc]
  omega
 have uT:(Zaq cc).pos=1:=by
  rw[ZlX]
  show Zrh 2 0 0 (1+0)=1
  decide
 have l6:(Zaq cc).clean=true:=by
  unfold T.clean T.light
  rw[ZhH]
  simp[hx]
 cases hf:Zgc 3 1 t with
 | nil=>
  rw[hf]at h
  have h:Zws (Zaq cc) w:=h
  rcases h.1 with⟨_,h2⟩|⟨h2,_⟩
  ·exact key _ l6 h2 (by omega) (by rw[show(Zaq cc).k=2 from rfl];decide)
  ·rw[l6]at h2;cases h2
 | cons y l=>
  rw[hf]at h
  have h:Zws (Za0 3 0 0 a c (Zaq cc::y::l)) w:=h
  rw[hf]at n1 n2
  have rc:(Za0 3 0 0 a c (Zaq cc::y::l)).nodes=Za0 3 0 0 a c (Zaq cc::y::l)::(Zaq cc::Zar (y::l)):=by
   rw[Za5]
   show _::Zar (Zaq cc::y::l)=_
   rw[show Zar (Zaq cc::y::l)=(Zaq cc).nodes++Zar (y::l) from by simp only[Zar],ZhH];rfl
  have hk:∀x∈y::l,x.k≠1∧x.k≠3:=by
   intro x hx
   rw[←hf]at hx
   unfold Zgc at hx
   split at hx
   ·rename_i h3
    have hr:=tB t (by rw[Za5];simp)
    unfold T.right at hr
    rw[h3]at hr
    simp only[Bool.and_eq_true,Bool.not_eq_true',decide_eq_true_eq]at hr
    simp at hr
    obtain⟨_,_,h1,h2⟩:=hr
    unfold T.has at h1 h2
    rw[List.any_eq_false]at h1 h2
    exact⟨by simpa using h1 x hx,by simpa using h2 x hx⟩
   ·rename_i h3
    split at hx
    ·simp at hx
    ·rename_i h1
     simp at hx;subst hx;exact⟨h1,h3⟩
  have gE:(Za0 3 0 0 a c (Zaq cc::y::l)).right=true:=by
   have hh:∀k:Int,k=1∨k=3→(Za0 3 0 0 a c (Zaq cc::y::l)).has k=false:=fun k hk'=>by
    unfold T.has
    rw[List.any_eq_false]
    intro x hx
    have hx:x∈Zaq cc::y::l:=hx
    rcases List.mem_cons.1 hx with rfl|hx
    ·rw[show(Zaq cc).k=2 from rfl];rcases hk' with rfl|rfl <;> decide
    ·have:=hk x hx
     rcases hk' with rfl|rfl
     ·simpa using this.1
     ·simpa using this.2
   unfold T.right
   rw[show(Za0 3 0 0 a c (Zaq cc::y::l)).k=3 from rfl,show(Za0 3 0 0 a c (Zaq cc::y::l)).mn=0 from rfl,show(Za0 3 0 0 a c (Zaq cc::y::l)).mx=0 from rfl,hh 1 (.inl rfl),hh 3 (.inr rfl),show(Za0 3 0 0 a c (Zaq cc::y::l)).setZ=true from rfl,show(Za0 3 0 0 a c (Zaq cc::y::l)).subs=Zaq cc::y::l from rfl]
   simp
  have jY:(Za0 3 0 0 a c (Zaq cc::y::l)).clean=true:=by
   unfold T.clean T.light
   rw[rc,Bool.and_eq_true,decide_eq_true_eq,List.all_eq_true]
   refine⟨by simp only[List.length_cons];have:=hg.2;omega,fun x hx'=>?_⟩
   rcases List.mem_cons.1 hx' with rfl|hx'
   ·exact gE
   ·rcases List.mem_cons.1 hx' with rfl|hx'
    ·exact hx
    ·exact tB x (n2 x hx')
  rcases h.1 with⟨_,h2⟩|⟨h2,_⟩
  ·refine key _ jY h2 ?_ (by rw[show(Za0 3 0 0 a c (Zaq cc::y::l)).k=3 from rfl];decide)
   rw[ZlX]
   show 1≤Zrh 3 0 0 (0+ZcF (Zaq cc::y::l))
   have h1:=Zeb (y::l)
   rw[show ZcF (Zaq cc::y::l)=(Zaq cc).pos+ZcF (y::l) from by simp only[ZcF],uT]
   unfold Zrh Zlb
   rw[if_neg (show ¬((3:Int)=5) by decide)]
   split <;> omega
  ·rw[jY]at h2;cases h2
theorem Zmu{A:Nf}(h:¬A.Ok):A.right=false:=by
 cases hr:A.right with
 | false=>rfl
 | true=>exact absurd (Zfy.1 hr) h
end Go.Rx
namespace Go.Rx
open Go Go.Eng Go.RowKit
set_option maxRecDepth 100000
theorem Zpa{l:List Value}{i:Nat}{v:Value}(h:i < l.length):Zan l i [v]=l.set i v:=by
 refine List.ext_getElem? fun j=>?_
 unfold Zan
 simp only[List.length_cons,List.length_nil]
 rw[List.getElem?_set]
 by_cases h1:j < i
 ·rw[List.append_assoc,List.getElem?_append_left (by rw[List.length_take];omega),List.getElem?_take,if_pos h1,if_neg (by omega)]
 ·rw[List.append_assoc,List.getElem?_append_right (by rw[List.length_take];omega),List.length_take,Nat.min_eq_left (by omega)]
  by_cases h2:j=i
  ·subst h2;simp[h]
  ·rw[List.getElem?_append_right (by simp;omega),if_neg (by omega),List.getElem?_drop]
   congr 1
   simp;omega
end Go.Rx
namespace Go.Rx
open Go Go.Eng Go.RowKit
set_option maxRecDepth 100000
end Go.Rx

