/- Trees of regexes, what they mean, and wS they lie in memory; plain, no program is named. No condition. -/
import Derived.Test.YtplacemlpkhmfaaMc
set_option linter.unusedVariables false
set_option linter.unusedSimpArgs false
namespace Go.Rx
open Go Go.Eng
inductive T where
 | node (k s0 s1 s2 s3 mn mx:Int) (a:Option Addr) (c:Nat) (subs:List T)
def T.k:T→Int
 | .node k _ _ _ _ _ _ _ _ _=>k
def T.s0:T→Int
 | .node _ s _ _ _ _ _ _ _ _=>s
def T.s1:T→Int
 | .node _ _ s _ _ _ _ _ _ _=>s
def T.s2:T→Int
 | .node _ _ _ s _ _ _ _ _ _=>s
def T.s3:T→Int
 | .node _ _ _ _ s _ _ _ _ _=>s
def T.mn:T→Int
 | .node _ _ _ _ _ x _ _ _ _=>x
def T.mx:T→Int
 | .node _ _ _ _ _ _ x _ _ _=>x
def T.a:T→Option Addr
 | .node _ _ _ _ _ _ _ a _ _=>a
def T.c:T→Nat
 | .node _ _ _ _ _ _ _ _ c _=>c
def T.subs:T→List T
 | .node _ _ _ _ _ _ _ _ _ l=>l
def T.sl(t:T):Value:=.slice t.a t.subs.length t.c
def T.cs(t:T):List Value:=[.int .u8 t.k,.int .u64 t.s0,.int .u64 t.s1,.int .u64 t.s2,.int .u64 t.s3,.int .i64 t.mn,.int .i64 t.mx,t.sl]
def T.v(t:T):Value:=.agg #[.int .u8 t.k,.int .u64 t.s0,.int .u64 t.s1,.int .u64 t.s2,.int .u64 t.s3,.int .i64 t.mn,.int .i64 t.mx,.slice t.a t.subs.length t.c]
structure OkN (k s0 s1 s2 s3 mn mx:Int):Prop where
 k:0≤k∧k < 256
 s0:0≤s0∧s0 < 18446744073709551616
 s1:0≤s1∧s1 < 18446744073709551616
 s2:0≤s2∧s2 < 18446744073709551616
 s3:0≤s3∧s3 < 18446744073709551616
 mn : -9223372036854775808≤mn∧mn≤9223372036854775807
 mx : -9223372036854775808≤mx∧mx≤9223372036854775807
mutual
def Rep(m:Mem):T→Prop
 | .node k s0 s1 s2 s3 mn mx a _ l=>l.length≤1000000000000000∧(l=[]∨∃b o,a=some ⟨b,o,none⟩∧RepAt m b o l)∧OkN k s0 s1 s2 s3 mn mx
def RepAt(m:Mem)(b:Nat):Nat→List T→Prop
 | _,[]=>True
 | o,t::l=>m.reads b o t.cs∧Rep m t∧RepAt m b (o+8) l
end
theorem ZdO{m:Mem}{t:T}:Rep m t→(t.subs.length≤1000000000000000∧(t.subs=[]∨∃b o,t.a=some ⟨b,o,none⟩∧RepAt m b o t.subs)):=by
 cases t;simp only[Rep,T.subs,T.a];exact fun h=>⟨h.1,h.2.1⟩
theorem ZtP{m:Mem}{t:T}:Rep m t→OkN t.k t.s0 t.s1 t.s2 t.s3 t.mn t.mx:=by
 cases t;simp only[Rep];exact fun h=>h.2.2
theorem Zwk{m:Mem}{t:T}(h1:t.subs.length≤1000000000000000)(h2:t.subs=[]∨∃b o,t.a=some ⟨b,o,none⟩∧RepAt m b o t.subs)(h3:OkN t.k t.s0 t.s1 t.s2 t.s3 t.mn t.mx):Rep m t:=by
 cases t;simp only[Rep];exact⟨h1,h2,h3⟩
mutual
theorem Rep.mono{m m':Mem}(h:m.le m'):∀t:T,Rep m t→Rep m' t
 | .node _ _ _ _ _ _ _ a _ l,hr=>by
  simp only[Rep]at *
  refine⟨hr.1,?_,hr.2.2⟩
  rcases hr.2.1 with hr|⟨b,o,h1,h2⟩
  ·exact .inl hr
  ·exact .inr ⟨b,o,h1,RepAt.mono h b o l h2⟩
theorem RepAt.mono{m m':Mem}(h:m.le m')(b:Nat):∀(o:Nat)(l:List T),RepAt m b o l→RepAt m' b o l
 | _,[],_=>by simp only[RepAt]
 | o,t::l,hr=>by
  simp only[RepAt]at *
  exact⟨hr.1.mono h,Rep.mono h t hr.2.1,RepAt.mono h b (o+8) l hr.2.2⟩
end
theorem RepAt.get{m:Mem}{b:Nat}:∀{o:Nat} {l:List T} {i:Nat} {t:T},RepAt m b o l→l[i]?=some t→m.reads b (o+i*8) t.cs∧Rep m t
 | o,[],i,t,_,hi=>by simp at hi
 | o,x::l,0,t,h,hi=>by
  simp only[RepAt]at h
  simp at hi;subst hi
  exact⟨by simpa using h.1,h.2.1⟩
 | o,x::l,i+1,t,h,hi=>by
  simp only[RepAt]at h
  have:=h.2.2.get (i:=i) (by simpa using hi)
  rw[show o+(i+1)*8=o+8+i*8 by omega]
  exact this
mutual
def T.nodes:T→List T
 | .node k s0 s1 s2 s3 mn mx a c l=>.node k s0 s1 s2 s3 mn mx a c l::Zax l
def Zax:List T→List T
 | []=>[]
 | t::l=>t.nodes++Zax l
end
theorem Za4(t:T):t.nodes=t::Zax t.subs:=by cases t;simp only[T.nodes,T.subs]
theorem Zdw(l r:List T):Zax (l++r)=Zax l++Zax r:=by
 induction l with
 | nil=>simp[Zax]
 | cons t l ih=>simp[Zax,ih,List.append_assoc]
theorem ZnX{l:List T}{i:Nat}{t:T}(h:l[i]?=some t):Zax (l.take (i+1))=Zax (l.take i)++t.nodes:=by
 have:l.take (i+1)=l.take i++[t]:=by
  rw[List.take_add_one,h];rfl
 rw[this,Zdw];simp[Zax]
theorem Zcs{l:List T}{i:Nat}{t:T}(h:l[i]?=some t):Zax l=Zax (l.take i)++(t.nodes++Zax (l.drop (i+1))):=by
 have bM:=(List.getElem?_eq_some_iff.1 h).1
 have e:l=l.take i++(t::l.drop (i+1)):=by
  have:=List.drop_eq_getElem_cons bM
  rw[(List.getElem?_eq_some_iff.1 h).2]at this
  rw[←this,List.take_append_drop]
 conv=>lhs;rw[e,Zdw]
 simp[Zax]
theorem ZtQ{t x z:T}{i q:Nat}(hx:t.subs[i]?=some x)(hz:x.nodes[q]?=some z):t.nodes[1+(Zax (t.subs.take i)).length+q]?=some z:=by
 have hq:=(List.getElem?_eq_some_iff.1 hz).1
 rw[Za4,show 1+(Zax (t.subs.take i)).length+q=((Zax (t.subs.take i)).length+q)+1 by omega,List.getElem?_cons_succ,Zcs hx,List.getElem?_append_right (by omega),List.getElem?_append_left (by omega),show(Zax (List.take i t.subs)).length+q - (Zax (List.take i t.subs)).length=q by omega]
 exact hz
theorem ZkD{t x:T}(h:x∈t.subs):SizeOf.sizeOf x < SizeOf.sizeOf t:=by
 cases t with
 | node k s0 s1 s2 s3 mn mx a c l=>
  have h':x∈l:=h
  have:=List.sizeOf_lt_of_mem h'
  simp only[T.node.sizeOf_spec]
  omega
theorem ZpF(t:T):Shape.fitsL [.agg [.int .u8,.int .u64,.int .u64,.int .u64,.int .u64,.int .i64,.int .i64,.slice]] [t.v]=true:=by
 simp[Shape.fitsL,Shape.fits,T.v]
mutual
theorem ZqJ{m:Mem}:∀(t:T),Rep m t→∀x∈t.nodes,Rep m x
 | .node k s0 s1 s2 s3 mn mx a c l,hr,x,hx=>by
  simp only[T.nodes,List.mem_cons]at hx
  rcases hx with rfl|hx
  ·exact hr
  ·simp only[Rep]at hr
   rcases hr.2.1 with h|⟨b,o,_,h⟩
   ·subst h;simp[Zax]at hx
   ·exact ZnY b o l h x hx
theorem ZnY{m:Mem}(b:Nat):∀(o:Nat)(l:List T),RepAt m b o l→∀x∈Zax l,Rep m x
 | _,[],_,x,hx=>by simp[Zax]at hx
 | o,t::l,hr,x,hx=>by
  simp only[RepAt]at hr
  simp only[Zax,List.mem_append]at hx
  rcases hx with hx|hx
  ·exact ZqJ t hr.2.1 x hx
  ·exact ZnY b (o+8) l hr.2.2 x hx
end
theorem ZnZ{m:Mem}{t x:T}(h:Rep m t)(hx:x∈t.nodes):Rep m x:=ZqJ t h x hx
def Zcm(least most:Int):Bool:=!(decide (least < 0)||decide (least > 16)||(least == 1&&most == 1))&&(most == -1||(decide (most ≥ 1)&&decide (most≤16)&&decide (most ≥ least)))
def T.has(t:T)(k:Int):Bool:=t.subs.any fun x=>x.k == k
def T.light(t:T):Bool:=decide (t.nodes.length≤10000)
def T.setZ(t:T):Bool:=t.s0 == 0&&t.s1 == 0&&t.s2 == 0&&t.s3 == 0
def T.right(t:T):Bool:=
 !(t.k != 2&&!t.setZ||(t.k != 5&&(t.mn != 0||t.mx != 0)||(decide (t.k < 3)&&decide (0 < t.subs.length)))) &&
 (if t.k=1 then true else if t.k=2 then !t.setZ else if t.k=3 then decide (1 < t.subs.length)&&(!t.has 1&&!t.has 3)else if t.k=4 then decide (1 < t.subs.length)&&!t.has 4
  else if t.k=5 then t.subs.length == 1&&(Zcm t.mn t.mx&&!t.has 1)else t.k == 6&&t.subs.length == 1)
def T.clean(t:T):Bool:=t.light&&t.nodes.all T.right
def T.size(t:T):Int:=if t.light then t.nodes.length else 10001
def T.groups(t:T):Int:=if t.light then(t.nodes.countP fun x=>x.k == 6:Nat)else 10001
def ZlF(x y:Int):Int:=if y > x then y else x
def Zmr(x y:Int):Int:=if y < x then y else x
def ZtR(k mn mx sum:Int):Int:=Zmr (if k=5 then sum*Zmr (if mx=-1 then ZlF (ZlF mn 0) 1 else ZlF (ZlF mn 0) mx) 10001 else sum) 10001
mutual
def T.pos:T→Int
 | .node k _ _ _ _ mn mx _ _ l=>ZtR k mn mx ((if k=2 then 1 else 0)+Zdx l)
def Zdx:List T→Int
 | []=>0
 | t::l=>t.pos+Zdx l
end
def T.positions(t:T):Int:=if t.light then t.pos else 10001
def T.check(t:T):Int:=if t.clean=false then 80 else if t.size > 120 then 81 else if t.positions > 400 then 82 else if t.groups > 9 then 83 else 0
mutual
def T.same:T→T→Bool
 | .node k s0 s1 s2 s3 mn mx _ _ l,.node k' s0' s1' s2' s3' mn' mx' _ _ l'=>k == k'&&((s0 == s0'&&s1 == s1'&&s2 == s2'&&s3 == s3')&&(mn == mn'&&(mx == mx'&&Zhs l l')))
def Zhs:List T→List T→Bool
 | [],[]=>true
 | t::l,t'::l'=>t.same t'&&Zhs l l'
 | _,_=>false
end
theorem Zu1(t u:T):t.same u=(t.k == u.k&&((t.s0 == u.s0&&t.s1 == u.s1&&t.s2 == u.s2&&t.s3 == u.s3)&&(t.mn == u.mn&&(t.mx == u.mx&&Zhs t.subs u.subs)))):=by
 cases t;cases u;simp only[T.same,T.k,T.s0,T.s1,T.s2,T.s3,T.mn,T.mx,T.subs]
theorem Zn0:∀{l r:List T},¬l.length=r.length→Zhs l r=false
 | [],[],h=>by simp at h
 | [],_::_,_=>by simp[Zhs]
 | _::_,[],_=>by simp[Zhs]
 | x::l,y::r,h=>by
  simp only[Zhs,Zn0 (l:=l) (r:=r) (by simpa using h),Bool.and_false]
theorem ZqK:∀{l r:List T} {i:Nat} {x y:T},l[i]?=some x→r[i]?=some y→x.same y=false→Zhs l r=false
 | [],r,i,x,y,h,_,_=>by simp at h
 | _::_,[],i,x,y,_,h,_=>by simp at h
 | a::l,b::r,0,x,y,h,k,e=>by
  simp at h k;subst h k
  simp[Zhs,e]
 | a::l,b::r,i+1,x,y,h,k,e=>by
  simp only[Zhs,ZqK (l:=l) (r:=r) (i:=i) (by simpa using h) (by simpa using k) e,Bool.and_false]
theorem ZlG:∀{l r:List T} {i:Nat} {x y:T},l[i]?=some x→r[i]?=some y→Zhs (l.take i) (r.take i)=true→x.same y=true→True→Zhs (l.take (i+1)) (r.take (i+1))=true
 | [],r,i,x,y,h,_,_,_,_=>by simp at h
 | _::_,[],i,x,y,_,h,_,_,_=>by simp at h
 | a::l,b::r,0,x,y,h,k,_,e,_=>by
  simp at h k;subst h k
  simp[Zhs,e]
 | a::l,b::r,i+1,x,y,h,k,hs,e,_=>by
  simp only[List.take_succ_cons,Zhs,Bool.and_eq_true]at hs ⊢
  exact⟨hs.1,ZlG (by simpa using h) (by simpa using k) hs.2 e trivial⟩
theorem ZpG(t:T):t.pos=ZtR t.k t.mn t.mx ((if t.k=2 then 1 else 0)+Zdx t.subs):=by
 cases t;simp only[T.pos,T.k,T.mn,T.mx,T.subs];congr 1
theorem Zbk(l r:List T):Zdx (l++r)=Zdx l+Zdx r:=by
 induction l with
 | nil=>simp[Zdx]
 | cons t l ih=>simp[Zdx,ih,Int.add_assoc]
theorem Zr0{l:List T}{i:Nat}{t:T}(h:l[i]?=some t):Zdx (l.take (i+1))=Zdx (l.take i)+t.pos:=by
 have:l.take (i+1)=l.take i++[t]:=by
  rw[List.take_add_one,h];rfl
 rw[this,Zbk];simp[Zdx]
theorem ZqL(x y:Int):x≤ZlF x y∧y≤ZlF x y:=by unfold ZlF;split <;> omega
theorem ZlH(x y:Int):Zmr x y≤x∧Zmr x y≤y:=by unfold Zmr;split <;> omega
theorem Zs3{x y:Int}(h:0≤x)(k:0≤y):0≤Zmr x y:=by unfold Zmr;split <;> omega
def ZtS(mn mx:Int):Int:=Zmr (if mx=-1 then ZlF (ZlF mn 0) 1 else ZlF (ZlF mn 0) mx) 10001
theorem Zs4(mn mx:Int):0≤ZtS mn mx∧ZtS mn mx≤10001:=by
 unfold ZtS
 refine⟨Zs3 ?_ (by omega),(ZlH _ _).2⟩
 have h1:=ZqL mn 0
 split
 ·have:=ZqL (ZlF mn 0) 1;omega
 ·have:=ZqL (ZlF mn 0) mx;omega
theorem Zu2{k mn mx sum:Int}(h:0≤sum):0≤ZtR k mn mx sum∧ZtR k mn mx sum≤10001:=by
 have h2:=Int.mul_nonneg h (Zs4 mn mx).1
 unfold ZtR
 refine⟨Zs3 ?_ (by omega),(ZlH _ _).2⟩
 split
 ·exact h2
 ·exact h
mutual
theorem Zgn:∀t:T,0≤t.pos∧t.pos≤10001
 | .node k _ _ _ _ mn mx _ _ l=>by
  simp only[T.pos]
  have:=Zfe l
  exact Zu2 (by split <;> omega)
theorem Zfe:∀l:List T,0≤Zdx l
 | []=>by simp[Zdx]
 | t::l=>by
  simp only[Zdx]
  have:=Zgn t
  have:=Zfe l
  omega
end
theorem Zs5:∀l:List T,Zdx l≤10001*l.length
 | []=>by simp[Zdx]
 | t::l=>by
  simp only[Zdx,List.length_cons]
  have:=Zgn t
  have:=Zs5 l
  omega
theorem Zs6(t:T):t.subs.length < t.nodes.length:=by
 rw[Za4,List.length_cons]
 have:∀l:List T,l.length≤(Zax l).length:=by
  intro l
  induction l with
  | nil=>simp[Zax]
  | cons x l ih=>simp only[Zax,List.length_cons,List.length_append];rw[Za4];simp;omega
 have:=this t.subs
 omega
theorem Zr1{t x:T}(h:x∈t.subs):x.nodes.length < t.nodes.length:=by
 obtain⟨i,hi⟩:=List.getElem?_of_mem h
 rw[Za4 t,List.length_cons,Zcs hi]
 simp;omega
def T.hasB(t:T)(c:Nat):Bool:=((if c / 64=0 then t.s0 else if c / 64=1 then t.s1 else if c / 64=2 then t.s2 else t.s3).toNat).testBit (c % 64)
end Go.Rx
namespace Go.Rx
open Go Go.Eng Go.RowKit
def wdN(f j:Nat):Nat:=(f >>> (64*j)) % 2 ^ 64
theorem Zn1(f j:Nat):wdN f j < 18446744073709551616:=by
 unfold wdN
 exact Nat.mod_lt _ (by decide)
theorem ZqM(f j k:Nat):(wdN f j).testBit k=(decide (k < 64)&&f.testBit (64*j+k)):=by
 unfold wdN
 rw[Nat.testBit_mod_two_pow,Nat.testBit_shiftRight]
theorem Zu3(f g j:Nat):wdN (f|||g) j=wdN f j|||wdN g j:=by
 apply Nat.eq_of_testBit_eq
 intro k
 simp only[ZqM,Nat.testBit_or]
 cases decide (k < 64) <;> simp
theorem Zu4{q r j:Nat}(hr:r < 64):wdN (2 ^ (64*q+r)) j=if j=q then 2 ^ r else 0:=by
 apply Nat.eq_of_testBit_eq
 intro k
 rw[ZqM,Nat.testBit_two_pow]
 by_cases hj:j=q
 ·subst hj
  rw[if_pos rfl,Nat.testBit_two_pow]
  by_cases hk:k < 64
  ·simp[hk]
  ·have:¬r=k:=by omega
   simp[hk,this]
 ·rw[if_neg hj]
  simp only[Nat.zero_testBit,Bool.and_eq_false_iff,decide_eq_false_iff_not]
  omega
theorem Zuy(n:Nat)(h:n < 18446744073709551616):IntKind.u64.wrap (n:Int)=n:=by
 unfold IntKind.wrap
 have e:(2:Int) ^ 64=18446744073709551616:=by decide
 simp only[IntKind.bits,IntKind.signed,Bool.false_and,Bool.false_eq_true,if_false,e]
 omega
theorem Zxz(a:Nat)(h:a < 18446744073709551616):(BitVec.ofInt 64 (a:Int)).toNat=a:=by
 rw[BitVec.toNat_ofInt]
 have e:((2:Nat) ^ 64:Nat)=18446744073709551616:=by decide
 rw[e];omega
theorem ZkE(a b:Nat)(ha:a < 18446744073709551616)(hb:b < 18446744073709551616):IntKind.u64.wrap ((BitVec.ofInt 64 (a:Int)|||BitVec.ofInt 64 (b:Int)).toNat:Int)=((a|||b:Nat):Int):=by
 rw[BitVec.toNat_or,Zxz a ha,Zxz b hb]
 exact Zuy _ (Nat.or_lt_two_pow (n:=64) ha hb)
theorem ZqN(a r:Nat)(ha:a < 18446744073709551616):(IntKind.u64.wrap ((BitVec.ofInt 64 (Int.fdiv (a:Int) (2 ^ r))&&&BitVec.ofInt 64 1).toNat:Int) == 1)=a.testBit r:=by
 have e:Int.fdiv (a:Int) (2 ^ r)=((a >>> r:Nat):Int):=by
  rw[Nat.shiftRight_eq_div_pow,Int.fdiv_eq_ediv_of_nonneg _ (Int.pow_nonneg (by omega))]
  push_cast
  rfl
 have bM:a >>> r < 18446744073709551616:=Nat.lt_of_le_of_lt (Nat.shiftRight_le a r) ha
 rw[e,BitVec.toNat_and,Zxz _ bM]
 have h1:(BitVec.ofInt 64 1).toNat=1:=by decide
 rw[h1,Zuy _ (Nat.lt_of_le_of_lt Nat.and_le_left bM),Nat.and_one_is_mod]
 have e2:a.testBit r=decide (a >>> r % 2=1):=by
  rw[Nat.shiftRight_eq_div_pow];exact Nat.testBit_eq_decide_div_mod_eq
 rw[e2,Bool.eq_iff_iff]
 simp only[beq_iff_eq,decide_eq_true_eq]
 omega
def plV(f:Nat):Value:=.agg #[.int .u64 (wdN f 0:Nat),.int .u64 (wdN f 1:Nat),.int .u64 (wdN f 2:Nat),.int .u64 (wdN f 3:Nat),.int .u64 (wdN f 4:Nat),.int .u64 (wdN f 5:Nat),.int .u64 (wdN f 6:Nat),.int .u64 (wdN f 7:Nat),.int .u64 (wdN f 8:Nat)]
end Go.Rx
set_option linter.unusedSectionVars false
namespace Go.Rx
open Go Go.Eng Go.RowKit
def Byt(m:Mem)(a:Option Addr)(s:List Nat):Prop:=(s=[]∨∃b o,a=some ⟨b,o,none⟩∧m.reads b o (s.map fun c:Nat=>Value.int .u8 c))∧∀c∈s,c < 256
theorem Byt.mono{m m':Mem}{a s}(h:Byt m a s)(hm:m.le m'):Byt m' a s:=by
 refine⟨?_,h.2⟩
 rcases h.1 with h|⟨b,o,h1,h2⟩
 ·exact .inl h
 ·exact .inr ⟨b,o,h1,h2.mono hm⟩
theorem Byt.get{m:Mem}{a s}(h:Byt m a s){i c:Nat}(hi:s[i]?=some c):(∃b o,a=some ⟨b,o,none⟩∧m b (o+i)=some (.int .u8 c))∧c < 256:=by
 refine⟨?_,h.2 c (List.mem_of_getElem? hi)⟩
 rcases h.1 with h|⟨b,o,h1,h2⟩
 ·subst h;simp at hi
 ·exact⟨b,o,h1,h2 i _ (by rw[List.getElem?_map,hi];rfl)⟩
def Zxi(t:T)(back:Bool)(f i c out:Nat):Nat:=if(f.testBit (if back then i+1 else i)&&t.hasB c)=true then out|||2 ^ (if back then i else i+1)else out
def ZxK(t:T)(back:Bool)(f:Nat):List Nat→Nat→Nat→Nat
 | [],_,out=>out
 | c::s,i,out=>ZxK t back f s (i+1) (Zxi t back f i c out)
def ZxA(g:Nat→Nat):Nat→Nat→Nat
 | 0,f=>f
 | n+1,f=>ZxA g n (g f)
def ZwM(g:Nat→Nat)(mx:Int):Nat→Int→Nat→Nat→Nat
 | 0,_,out,_=>out
 | n+1,k,out,last=>if k=mx then out else if out|||g last=out then out else ZwM g mx n (IntKind.i64.wrap (k+1)) (out|||g last) (g last)
@[irreducible] def ZxW:Nat:=576
abbrev ZxB:Nat:=2 ^ ZxW
def ZxX(g:Nat→Nat)(mn mx:Int)(f:Nat):Nat:=ZwM g mx (ZxB+1) mn (ZxA g mn.toNat f) (ZxA g mn.toNat f)
mutual
def T.lead(s:List Nat)(back:Bool):T→Nat→Nat
 | .node k s0 s1 s2 s3 mn mx a c l=>fun f=>
  if k=1 then f else if k=2 then ZxK (.node k s0 s1 s2 s3 mn mx a c l) back f s 0 0
  else if k=3 then(if back then ZwO s back l f else ZwN s back l f)
  else if k=4 then ZxL s back l f 0
  else if k=5 then ZxX (ZwP s back l) mn mx f
  else if k=6 then ZwP s back l f else 0
def ZwN(s:List Nat)(back:Bool):List T→Nat→Nat
 | []=>fun f=>f
 | t::l=>fun f=>ZwN s back l (t.lead s back f)
def ZwO(s:List Nat)(back:Bool):List T→Nat→Nat
 | []=>fun f=>f
 | t::l=>fun f=>t.lead s back (ZwO s back l f)
def ZxL(s:List Nat)(back:Bool):List T→Nat→Nat→Nat
 | []=>fun _ out=>out
 | t::l=>fun f out=>ZxL s back l f (out|||t.lead s back f)
def ZwP(s:List Nat)(back:Bool):List T→Nat→Nat
 | []=>fun f=>f
 | t::_=>fun f=>t.lead s back f
end
section
variable {s:List Nat} {back:Bool}
end
theorem Zc0{α:Type}{l:List α}{i:Nat}{x:α}(h:l[i]?=some x):l.drop i=x::l.drop (i+1):=by
 obtain⟨h1,h2⟩:=List.getElem?_eq_some_iff.1 h
 rw[List.drop_eq_getElem_cons h1,h2]
theorem ZqO{α:Type}{l:List α}{i:Nat}{x:α}(h:l[i]?=some x):l.take (i+1)=l.take i++[x]:=by
 rw[List.take_add_one,h];rfl
section
variable (s:List Nat) (back:Bool) (hs:s.length≤512)
include hs
end
end Go.Rx
namespace Go.Rx
open Go Go.Eng Go.RowKit
def T0:T:=.node 0 0 0 0 0 0 0 none 0 []
def T1:T:=.node 1 0 0 0 0 0 0 none 0 []
theorem Zn2(m:Mem):Rep m T0:=by simp only[T0,Rep];exact⟨by simp,.inl trivial,by constructor <;> decide⟩
theorem ZpH(m:Mem):Rep m T1:=by simp only[T1,Rep];exact⟨by simp,.inl trivial,by constructor <;> decide⟩
def T.isNone(t:T):Bool:=t.k == 0&&(t.light&&(T0.light&&t.same T0))
def T.wrong(t:T)(len:Nat)(i:Int):Int:=if(!t.isNone&&!(t.check == 0))=true then 130 else if(len:Int) > 512 then 3 else if i < 0∨i > len then 2 else 0
structure Rg where
 bg:Bool
 en:Bool
 t:T
def Rg.v(r:Rg):Value:=.agg #[.bool r.bg,.bool r.en,.int .u8 r.t.k,.int .u64 r.t.s0,.int .u64 r.t.s1,.int .u64 r.t.s2,.int .u64 r.t.s3,.int .i64 r.t.mn,.int .i64 r.t.mx,.slice r.t.a r.t.subs.length r.t.c]
def Rg.cs(r:Rg):List Value:=[.bool r.bg,.bool r.en,.int .u8 r.t.k,.int .u64 r.t.s0,.int .u64 r.t.s1,.int .u64 r.t.s2,.int .u64 r.t.s3,.int .i64 r.t.mn,.int .i64 r.t.mx,.slice r.t.a r.t.subs.length r.t.c]
def Rgs(m:Mem)(a:Option Addr)(l:List Rg):Prop:=l.length≤1000000000000000∧(l=[]∨∃b o,a=some ⟨b,o,none⟩∧∀i r,l[i]?=some r→m.reads b (o+i*10) r.cs)∧∀r∈l,Rep m r.t
theorem Rgs.mono{m m':Mem}{a l}(h:Rgs m a l)(hm:m.le m'):Rgs m' a l:=by
 refine⟨h.1,?_,fun r hr=>(h.2.2 r hr).mono hm⟩
 rcases h.2.1 with h|⟨b,o,h1,h2⟩
 ·exact .inl h
 ·exact .inr ⟨b,o,h1,fun i r hi=>(h2 i r hi).mono hm⟩
def Zwl(f:Nat):List Nat:=(List.range 513).filter fun i=>f.testBit i
def Zu5(n:Nat):List Nat→Option Nat
 | []=>none
 | i::_=>if i > n then none else some i
def Rg.from(s:List Nat)(n:Nat)(r:Rg):Option Nat:=if(r.en&&decide ((n:Int) < s.length))=true then none else if r.bg then(if(r.t.lead s true (2 ^ n)).testBit 0 then some 0 else none)else
 Zu5 n (Zwl (r.t.lead s true (2 ^ n)))
def Rg.wrong(r:Rg)(len:Nat)(n:Int):Int:=if r.t.check=0 then r.t.wrong len n else 130
def Zwm(l:List Rg)(len:Nat)(n:Int):Int:=if(l.length:Int) > 64 then 5 else if l.all (fun r=>r.t.check == 0)then T1.wrong len n else 130
end Go.Rx
namespace Go.Rx
open Go Go.Eng Go.RowKit
def Zgo(φ:T→Prop):Value→Mem→List (List Value)→Prop:=fun v m' _=>∃t:T,v=t.v∧Rep m' t∧φ t
abbrev TRK:=Int→Int→Int→Int→Int→Int→Int→Option Addr→Nat→Nat→Mem→Prop
theorem ZdF{φ:T→Prop}{m:Mem}{K:TRK}(k:∀(t:T)(m':Mem),m.le m'→Rep m' t→φ t→K t.k t.s0 t.s1 t.s2 t.s3 t.mn t.mx t.a t.subs.length t.c m'):
  ∀(n0 n1 n2 n3 n4 n5 n6:Int)(a:Option Addr)(n c:Nat)(m':Mem),m.le m'→Zgo φ (.agg #[.int .u8 n0,.int .u64 n1,.int .u64 n2,.int .u64 n3,.int .u64 n4,.int .i64 n5,.int .i64 n6,.slice a n c]) m' []→K n0 n1 n2 n3 n4 n5 n6 a n c m':=by
 rintro n0 n1 n2 n3 n4 n5 n6 a n c m' hm ⟨t,hv,hr,hp⟩
 simp only[T.v,Value.agg.injEq,Array.mk.injEq,List.cons.injEq,Value.int.injEq,Value.slice.injEq,true_and,and_true]at hv
 obtain⟨rfl,rfl,rfl,rfl,rfl,rfl,rfl,rfl,rfl,rfl⟩:=hv
 exact k t m' hm hr hp
theorem Zba{φ:T→Prop}:∀(v:Value)(m':Mem) (css:List (List Value)),Zgo φ v m' css→Shape.fits (.agg [.int .u8,.int .u64,.int .u64,.int .u64,.int .u64,.int .i64,.int .i64,.slice]) v=true:=fun v _ _ ⟨t,e,_⟩=>by rw[e];rfl
def Zck(c j:Nat):Int:=if c / 64=j then((2 ^ (c % 64):Nat):Int)else 0
def Zbw(c:Nat):T:=.node 2 (Zck c 0) (Zck c 1) (Zck c 2) (Zck c 3) 0 0 none 0 []
theorem ZeO(c j:Nat):0≤Zck c j∧Zck c j < 18446744073709551616:=by
 unfold Zck
 split
 ·have h:(2:Nat) ^ (c % 64) < 2 ^ 64:=Nat.pow_lt_pow_right (by omega) (by omega)
  have e:(2:Nat) ^ 64=18446744073709551616:=by decide
  rw[e]at h
  generalize (2:Nat) ^ (c % 64)=w at *
  exact⟨by omega,by omega⟩
 ·omega
theorem Zgp(c:Nat)(m:Mem):Rep m (Zbw c):=by
 simp only[Zbw,Rep]
 exact⟨by simp,.inl trivial,⟨by omega,ZeO c 0,ZeO c 1,ZeO c 2,ZeO c 3,by omega,by omega⟩⟩
def RepL(m:Mem)(a:Option Addr)(l:List T):Prop:=l.length≤1000000000000000∧(l=[]∨∃b o,a=some ⟨b,o,none⟩∧RepAt m b o l)
theorem RepL.mono{m m':Mem}{a l}(h:RepL m a l)(hm:m.le m'):RepL m' a l:=by
 refine⟨h.1,?_⟩
 rcases h.2 with h|⟨b,o,h1,h2⟩
 ·exact .inl h
 ·exact .inr ⟨b,o,h1,h2.mono hm⟩
theorem Rep.subs{m:Mem}{t:T}(h:Rep m t):RepL m t.a t.subs:=ZdO h
def Zbb(k mn mx:Int)(a:Option Addr)(c:Nat)(l:List T):T:=.node k 0 0 0 0 mn mx a c l
theorem Za5{m:Mem}{k mn mx:Int}{a:Option Addr}{c:Nat}{l:List T}(h:RepL m a l)(hk:0≤k∧k < 256)(h1 : -9223372036854775808≤mn∧mn≤9223372036854775807)(h2 : -9223372036854775808≤mx∧mx≤9223372036854775807):Rep m (Zbb k mn mx a c l):=by
 simp only[Zbb,Rep]
 exact⟨h.1,h.2,⟨hk,by omega,by omega,by omega,by omega,h1,h2⟩⟩
theorem ZkF{m:Mem}{b:Nat}{t:T}(h:m.reads b 0 t.cs)(hr:Rep m t):RepL m (some ⟨b,0,none⟩) [t]:=⟨by simp,.inr ⟨b,0,rfl,by simp only[RepAt];exact⟨h,hr,trivial⟩⟩⟩
def Zco(l:List T):List Value:=(l.map T.cs).flatten
theorem Zau(l:List T):(Zco l).length=l.length*8:=by
 induction l with
 | nil=>rfl
 | cons t l ih=>simp[Zco,T.cs]at ih ⊢;omega
theorem Zn3(l:List T)(t:T):Zco (l++[t])=Zco l++t.cs:=by simp[Zco]
theorem ZaQ(l r:List T):Zco (l++r)=Zco l++Zco r:=by simp[Zco]
theorem ZqP{m:Mem}{b:Nat}:∀{o:Nat} {l:List T},m.reads b o (Zco l)→(∀t∈l,Rep m t)→RepAt m b o l
 | o,[],_,_=>by simp only[RepAt]
 | o,t::l,h,hr=>by
  simp only[RepAt]
  refine⟨fun j v hj=>?_,hr t (by simp),ZqP (fun j v hj=>?_) fun x hx=>hr x (by simp[hx])⟩
  ·refine h j v ?_
   simp only[Zco,List.map_cons,List.flatten_cons]
   rw[List.getElem?_append_left (List.getElem?_eq_some_iff.1 hj).1];exact hj
  ·have:=h (8+j) v (by
    simp only[Zco,List.map_cons,List.flatten_cons]
    rw[List.getElem?_append_right (by simp[T.cs])]
    have e:8+j - t.cs.length=j:=by simp[T.cs]
    rw[e];exact hj)
   rw[show o+8+j=o+(8+j) by omega];exact this
theorem ZlI{m:Mem}{a:Option Addr}{l:List T}(h:rowRd m a (Zco l))(hr:∀t∈l,Rep m t)(hl:l.length≤1000000000000000):RepL m a l:=by
 refine⟨hl,?_⟩
 cases l with
 | nil=>exact .inl rfl
 | cons t l=>
  rcases h with h|⟨b,o,h1,h2⟩
  ·simp[Zco,T.cs]at h
  ·exact .inr ⟨b,o,h1,ZqP h2 hr⟩
theorem Zcb{m:Mem}{a:Option Addr}{l:List T}(h:RepL m a l):rowRd m a (Zco l):=by
 have key:∀(l:List T)(b o:Nat),RepAt m b o l→m.reads b o (Zco l):=by
  intro l
  induction l with
  | nil=>intro b o _ j v hj;simp[Zco]at hj
  | cons t l ih=>
   intro b o hr j v hj
   simp only[RepAt]at hr
   simp only[Zco,List.map_cons,List.flatten_cons]at hj
   by_cases bM:j < 8
   ·rw[List.getElem?_append_left (by simpa[T.cs]using bM)]at hj
    exact hr.1 j v hj
   ·rw[List.getElem?_append_right (by simp[T.cs];omega)]at hj
    have:=ih b (o+8) hr.2.2 (j - 8) v (by simpa[T.cs,Zco]using hj)
    rw[show o+8+(j - 8)=o+j by omega]at this;exact this
 rcases h.2 with h|⟨b,o,h1,h2⟩
 ·subst h;exact .inl rfl
 ·exact .inr ⟨b,o,h1,key l b o h2⟩
theorem Zeb{m:Mem}{a:Option Addr}{l:List T}(h:RepL m a l):∀t∈l,Rep m t:=by
 rcases h.2 with h|⟨b,o,_,h⟩
 ·subst h;simp
 ·intro t ht
  obtain⟨i,hi⟩:=List.getElem?_of_mem ht
  exact(h.get hi).2
def ZxC(j:Nat)(w c:Nat):Nat:=if c / 64=j then w|||2 ^ (c % 64)else w
def ZsP(bs:List Nat)(j:Nat):Nat:=bs.foldl (ZxC j) 0
theorem Zr2(l:List Nat)(c j:Nat):ZsP (l++[c]) j=if c / 64=j then ZsP l j|||2 ^ (c % 64)else ZsP l j:=by
 unfold ZsP
 rw[List.foldl_append];rfl
theorem Zs7(l:List Nat)(j:Nat):ZsP l j < 18446744073709551616:=by
 have key:∀(l:List Nat)(w:Nat),w < 2 ^ 64→l.foldl (ZxC j) w < 2 ^ 64:=by
  intro l
  induction l with
  | nil=>intro w h;exact h
  | cons c l ih=>
   intro w h
   refine ih _ ?_
   unfold ZxC
   split
   ·exact Nat.or_lt_two_pow h (Nat.pow_lt_pow_right (by omega) (by omega))
   ·exact h
 exact key l 0 (by decide)
def ZkG(bs:List Nat):T:=.node 2 (ZsP bs 0:Nat) (ZsP bs 1:Nat) (ZsP bs 2:Nat) (ZsP bs 3:Nat) 0 0 none 0 []
theorem Zn4(bs:List Nat)(m:Mem):Rep m (ZkG bs):=by
 simp only[ZkG,Rep]
 have h:=Zs7 bs
 exact⟨by simp,.inl trivial,⟨by omega,⟨by omega,by have:=h 0;omega⟩,⟨by omega,by have:=h 1;omega⟩,⟨by omega,by have:=h 2;omega⟩,⟨by omega,by have:=h 3;omega⟩,by omega,by omega⟩⟩
def Zs8(bs:List Nat):List Value:=[.int .u64 (ZsP bs 0:Nat),.int .u64 (ZsP bs 1:Nat),.int .u64 (ZsP bs 2:Nat),.int .u64 (ZsP bs 3:Nat)]
theorem Zr3(bs:List Nat){j:Nat}(h:j < 4):(Zs8 bs)[j]?=some (.int .u64 (ZsP bs j:Nat)):=by
 have:j=0∨j=1∨j=2∨j=3:=by omega
 rcases this with rfl|rfl|rfl|rfl <;> rfl
theorem ZpI(l:List Nat){c j:Nat}(hj:c / 64=j)(h:j < 4):Zao (Zs8 l) j [.int .u64 ((ZsP l j|||2 ^ (c % 64):Nat):Int)]=Zs8 (l++[c]):=by
 unfold Zs8
 simp only[Zr2,hj]
 have:j=0∨j=1∨j=2∨j=3:=by omega
 rcases this with rfl|rfl|rfl|rfl <;> rfl
def Zd0(n:Nat):List Nat:=([[97],[98],[97,98],[97],[98],[99],[97,98,99],[98,99],[10],[0,255],[97],[98]][n % 12]?).getD []
end Go.Rx
namespace Go.Rx
open Go Go.Eng Go.RowKit
def T.good(t:T):Bool:=t.nodes.all T.right
def isG(t:T):Bool:=t.k == 6
theorem ZlJ(p:T→Bool):∀l:List T,(Zax l).all p=l.all fun t=>t.nodes.all p
 | []=>rfl
 | t::l=>by simp only[Zax,List.all_append,List.all_cons,ZlJ p l]
theorem ZlK(t:T):t.good=(t.right&&t.subs.all T.good):=by
 unfold T.good;rw[Za4,List.all_cons,ZlJ]
def grL(l:List T):Nat:=(Zax l).countP isG
def szL(l:List T):Nat:=(Zax l).length
def T.gr(t:T):Nat:=t.nodes.countP isG
theorem ZaU(l r:List T):szL (l++r)=szL l+szL r:=by unfold szL;rw[Zdw,List.length_append]
theorem Zb5(l r:List T):grL (l++r)=grL l+grL r:=by unfold grL;rw[Zdw,List.countP_append]
theorem ZbT(t:T):szL [t]=t.nodes.length:=by simp[szL,Zax]
theorem ZdP(t:T):grL [t]=t.gr:=by simp[grL,Zax,T.gr]
theorem ZcD(t:T):Zdx [t]=t.pos:=by simp[Zdx]
theorem ZkH(t:T)(l:List T):szL (t::l)=t.nodes.length+szL l:=by simp[szL,Zax]
theorem ZqQ(t:T)(l:List T):grL (t::l)=t.gr+grL l:=by simp[grL,Zax,T.gr,List.countP_append]
theorem ZqR(t:T):t.nodes.length=1+szL t.subs:=by rw[Za4,List.length_cons,szL];omega
theorem Zu6(t:T):t.gr=(if isG t=true then 1 else 0)+grL t.subs:=by
 unfold T.gr;rw[Za4,List.countP_cons,grL];omega
theorem Zn5(l:List T):l.length≤szL l:=by
 induction l with
 | nil=>simp
 | cons t l ih=>rw[ZkH,ZqR,List.length_cons];omega
def ZbU(k:Int)(t:T):List T:=if t.k=k then t.subs else if k=3∧t.k=1 then[]else[t]
def Zhi(k:Int)(a:Option Addr)(c:Nat):List T→T
 | []=>T1
 | [x]=>x
 | x::y::l=>Zbb k 0 0 a c (x::y::l)
theorem ZkI{t:T}{k:Int}(h:t.has k=false):∀x∈t.subs,x.k≠k:=by
 intro x hx e
 unfold T.has at h
 have:=List.any_eq_false.1 h x hx
 simp[e]at this
theorem ZtT{t:T}{k:Int}(h:∀x∈t.subs,x.k≠k):t.has k=false:=by
 unfold T.has
 rw[List.any_eq_false]
 intro x hx
 have:=h x hx
 simpa using this
theorem ZkJ{k:Int}{t:T}(hk:k=3∨k=4)(hg:t.good=true)(hp:t.pos≤10000):(∀x∈ZbU k t,x.good=true∧x.k≠k∧(k=3→x.k≠1))∧szL (ZbU k t)≤t.nodes.length∧grL (ZbU k t)≤t.gr∧Zdx (ZbU k t)≤t.pos:=by
 have hg':=hg
 rw[ZlK,Bool.and_eq_true,List.all_eq_true]at hg'
 unfold ZbU
 split
 ·rename_i eC
  refine⟨fun x hx=>⟨hg'.2 x hx,?_⟩,by rw[ZqR];omega,by rw[Zu6];omega,?_⟩
  ·have hr:=hg'.1
   unfold T.right at hr
   rw[Bool.and_eq_true]at hr
   have hr:=hr.2
   rcases hk with rfl|rfl
   ·simp only[eC]at hr
    simp at hr
    exact⟨ZkI hr.2.2 x hx,fun _=>ZkI hr.2.1 x hx⟩
   ·simp only[eC]at hr
    simp at hr
    exact⟨ZkI hr.2 x hx,fun h=>by omega⟩
  ·rw[ZpG]at hp ⊢
   have h5:¬t.k=5:=by omega
   have h2:¬t.k=2:=by omega
   unfold ZtR at hp ⊢
   rw[if_neg h5,if_neg h2,Int.zero_add]at hp ⊢
   unfold Zmr at hp ⊢
   split at hp
   ·omega
   ·split <;> omega
 ·rename_i eC
  split
  ·refine⟨fun x hx=>by simp at hx,by simp[szL,Zax],by simp[grL,Zax],?_⟩
   simp only[Zdx];exact(Zgn t).1
  ·rename_i vj
   refine⟨fun x hx=>?_,by rw[ZbT];exact Nat.le_refl _,by rw[ZdP];exact Nat.le_refl _,by rw[ZcD];exact Int.le_refl _⟩
   simp at hx;subst hx
   exact⟨hg,eC,fun h=>fun h1=>vj ⟨h,h1⟩⟩
theorem Zn6{k:Int}(hk:k=3∨k=4)(a:Option Addr)(c:Nat):∀{l:List T},(∀x∈l,x.good=true∧x.k≠k∧(k=3→x.k≠1))→(Zhi k a c l).good=true∧(Zhi k a c l).nodes.length≤1+szL l∧(Zhi k a c l).gr≤grL l∧(Zhi k a c l).pos≤Zdx l
 | [],_=>⟨show T1.good=true by decide,show T1.nodes.length≤1 by decide,show T1.gr≤0 by decide,show T1.pos≤0 by decide⟩
 | [x],h=>by
  rw[ZbT,ZdP,ZcD]
  exact⟨(h x (by simp)).1,by show x.nodes.length≤_;omega,Nat.le_refl _,Int.le_refl _⟩
 | x::y::l,h=>by
  show(Zbb k 0 0 a c (x::y::l)).good=true∧(Zbb k 0 0 a c (x::y::l)).nodes.length≤_∧(Zbb k 0 0 a c (x::y::l)).gr≤_∧(Zbb k 0 0 a c (x::y::l)).pos≤_
  have hs:(Zbb k 0 0 a c (x::y::l)).subs=x::y::l:=rfl
  have eC:(Zbb k 0 0 a c (x::y::l)).k=k:=rfl
  have hz:(Zbb k 0 0 a c (x::y::l)).setZ=true:=rfl
  have pW:(Zbb k 0 0 a c (x::y::l)).mn=0:=rfl
  have jo:(Zbb k 0 0 a c (x::y::l)).mx=0:=rfl
  refine⟨?_,by rw[ZqR,hs];exact Nat.le_refl _,?_,?_⟩
  ·rw[ZlK,Bool.and_eq_true,List.all_eq_true,hs]
   refine⟨?_,fun z hz=>(h z hz).1⟩
   have h1:k=3→(Zbb k 0 0 a c (x::y::l)).has 1=false:=fun e=>ZtT fun z hz=>(h z hz).2.2 e
   have h2:(Zbb k 0 0 a c (x::y::l)).has k=false:=ZtT fun z hz=>(h z hz).2.1
   unfold T.right
   rw[eC,hz,pW,jo,hs]
   rcases hk with rfl|rfl
   ·simp[h1 rfl,h2]
   ·simp[h2]
  ·rw[Zu6,hs,isG,eC]
   rcases hk with rfl|rfl <;> simp
  ·rw[ZpG,eC,pW,jo,hs]
   unfold ZtR
   rw[if_neg (by omega),if_neg (by omega),Int.zero_add]
   exact(ZlH _ _).1
structure J (i:Nat)(ts:List T)(u g:Nat):Prop where
 good:∀t∈ts,t.good=true
 sz:szL ts≤i
 pos:Zdx ts≤(i*u:Nat)
 u1:1≤u
 u16:u≤16
 gr:grL ts≤g
 g9:g≤9
theorem J.zero:J 0 [] 1 0:=⟨by simp,by simp[szL,Zax],by simp[Zdx],by omega,by omega,by simp[grL,Zax],by omega⟩
theorem J.skip{i ts u g}(h:J i ts u g):J (i+1) ts u g:=
 ⟨h.good,by have:=h.sz;omega,by have:=h.pos;have e:(i+1)*u=i*u+u:=Nat.succ_mul i u;rw[e];omega,h.u1,h.u16,h.gr,h.g9⟩
theorem J.push{i ts u g}(h:J i ts u g){t:T}(hg:t.good=true)(hs:t.nodes.length=1)(hp:t.pos≤1)(hr:t.gr=0):J (i+1) (ts++[t]) u g:=by
 refine⟨fun x hx=>?_,?_,?_,h.u1,h.u16,?_,h.g9⟩
 ·rcases List.mem_append.1 hx with hx|hx
  ·exact h.good x hx
  ·simp at hx;subst hx;exact hg
 ·rw[ZaU,ZbT,hs];have:=h.sz;omega
 ·rw[Zbk,ZcD];have:=h.pos;have:=h.u1;have e:(i+1)*u=i*u+u:=Nat.succ_mul i u;rw[e];omega
 ·rw[Zb5,ZdP,hr];have:=h.gr;omega
theorem J.pos400{i ts u g}(h:J i ts u g)(hi:i≤25):Zdx ts≤400:=by
 have h1:=h.pos
 have:i*u≤25*16:=Nat.mul_le_mul hi h.u16
 omega
theorem J.join{i ts u g}{x y:T}(h:J i (ts++[x,y]) u g)(hi:i≤25){k:Int}(hk:k=3∨k=4)(a:Option Addr)(c:Nat):J (i+1) (ts++[Zhi k a c (ZbU k x++ZbU k y)]) u g:=by
 have h4:=h.pos400 hi
 have hz:=h.sz
 have hp:=h.pos
 have ls:=h.gr
 rw[show ts++[x,y]=ts++([x]++[y]) from rfl]at h4 hz hp ls
 rw[Zbk,Zbk,ZcD,ZcD]at h4 hp
 rw[ZaU,ZaU,ZbT,ZbT]at hz
 rw[Zb5,Zb5,ZdP,ZdP]at ls
 have n1:=Zfe ts
 have n2:=(Zgn x).1
 have n3:=(Zgn y).1
 obtain⟨a1,a2,a3,a4⟩:=ZkJ hk (h.good x (by simp)) (by omega)
 obtain⟨b1,b2,b3,b4⟩:=ZkJ hk (h.good y (by simp)) (by omega)
 obtain⟨c1,c2,c3,c4⟩:=Zn6 hk a c (l:=ZbU k x++ZbU k y) (fun z hz=>by
  rcases List.mem_append.1 hz with hz|hz
  ·exact a1 z hz
  ·exact b1 z hz)
 rw[ZaU]at c2
 rw[Zb5]at c3
 rw[Zbk]at c4
 refine⟨fun z hz=>?_,?_,?_,h.u1,h.u16,?_,h.g9⟩
 ·rcases List.mem_append.1 hz with hz|hz
  ·exact h.good z (by simp[hz])
  ·simp at hz;subst hz;exact c1
 ·rw[ZaU,ZbT];omega
 ·rw[Zbk,ZcD];have e:(i+1)*u=i*u+u:=Nat.succ_mul i u;rw[e];omega
 ·rw[Zb5,ZdP];omega
theorem J.group{i ts u g}{x:T}(h:J i (ts++[x]) u g)(hg:g < 9)(a:Option Addr)(c:Nat):J (i+1) (ts++[Zbb 6 0 0 a c [x]]) u (g+1):=by
 have hz:=h.sz
 have hp:=h.pos
 have ls:=h.gr
 rw[Zbk,ZcD]at hp
 rw[ZaU,ZbT]at hz
 rw[Zb5,ZdP]at ls
 have hs:(Zbb 6 0 0 a c [x]).subs=[x]:=rfl
 refine⟨fun z hz=>?_,?_,?_,h.u1,h.u16,?_,by omega⟩
 ·rcases List.mem_append.1 hz with hz|hz
  ·exact h.good z (by simp[hz])
  ·simp at hz;subst hz
   rw[ZlK,Bool.and_eq_true,List.all_eq_true]
   refine⟨rfl,fun z hz=>?_⟩
   rw[hs]at hz;simp at hz;subst hz
   exact h.good z (by simp)
 ·rw[ZaU,ZbT,ZqR,hs,ZbT];omega
 ·rw[Zbk,ZcD,ZpG,hs,ZcD]
  have:ZtR (Zbb 6 0 0 a c [x]).k (Zbb 6 0 0 a c [x]).mn (Zbb 6 0 0 a c [x]).mx ((if(Zbb 6 0 0 a c [x]).k=2 then 1 else 0)+x.pos)≤x.pos:=by
   show Zmr (if(6:Int)=5 then _ else(if(6:Int)=2 then 1 else 0)+x.pos) 10001≤_
   rw[if_neg (by omega),if_neg (by omega),Int.zero_add]
   exact(ZlH _ _).1
  have e:(i+1)*u=i*u+u:=Nat.succ_mul i u
  rw[e];omega
 ·rw[Zb5,ZdP,Zu6,hs,ZdP]
  split <;> omega
theorem J.rep{i ts u g}{x:T}(h:J i (ts++[x]) u g)(hx:x.k≠1){mn mx:Int}(hb:Zcm mn mx=true){w:Nat}(hw:ZtS mn mx≤w)(h1:1≤w)(hu:u*w≤16)(a:Option Addr)(c:Nat):J (i+1) (ts++[Zbb 5 mn mx a c [x]]) (u*w) g:=by
 have hz:=h.sz
 have hp:=h.pos
 have ls:=h.gr
 rw[Zbk,ZcD]at hp
 rw[ZaU,ZbT]at hz
 rw[Zb5,ZdP]at ls
 have hs:(Zbb 5 mn mx a c [x]).subs=[x]:=rfl
 have n1:=Zfe ts
 have n2:=(Zgn x).1
 refine⟨fun z hz=>?_,?_,?_,?_,hu,?_,h.g9⟩
 ·rcases List.mem_append.1 hz with hz|hz
  ·exact h.good z (by simp[hz])
  ·simp at hz;subst hz
   rw[ZlK,Bool.and_eq_true,List.all_eq_true]
   refine⟨?_,fun z hz=>?_⟩
   ·have hh:(Zbb 5 mn mx a c [x]).has 1=false:=ZtT fun z hz=>by rw[hs]at hz;simp at hz;subst hz;exact hx
    unfold T.right
    rw[hh,hs,show(Zbb 5 mn mx a c [x]).k=5 from rfl,show(Zbb 5 mn mx a c [x]).setZ=true from rfl,show(Zbb 5 mn mx a c [x]).mn=mn from rfl,show(Zbb 5 mn mx a c [x]).mx=mx from rfl,hb]
    simp
   ·rw[hs]at hz;simp at hz;subst hz
    exact h.good z (by simp)
 ·rw[ZaU,ZbT,ZqR,hs,ZbT];omega
 ·rw[Zbk,ZcD,ZpG,hs,ZcD]
  have key:ZtR (Zbb 5 mn mx a c [x]).k (Zbb 5 mn mx a c [x]).mn (Zbb 5 mn mx a c [x]).mx ((if(Zbb 5 mn mx a c [x]).k=2 then 1 else 0)+x.pos)≤x.pos*w:=by
   show Zmr (if(5:Int)=5 then((if(5:Int)=2 then 1 else 0)+x.pos)*ZtS mn mx else _) 10001≤_
   rw[if_pos rfl,if_neg (by omega),Int.zero_add]
   exact Int.le_trans (ZlH _ _).1 (Int.mul_le_mul_of_nonneg_left hw n2)
  have k2:Zdx ts≤Zdx ts*w:=by
   have:=Int.mul_le_mul_of_nonneg_left (show(1:Int)≤w by omega) n1
   rw[Int.mul_one]at this;exact this
  have k3:(Zdx ts+x.pos)*w≤((i*u:Nat):Int)*w:=Int.mul_le_mul_of_nonneg_right hp (by omega)
  rw[Int.add_mul]at k3
  have e:(i+1)*(u*w)=i*u*w+u*w:=by rw[Nat.succ_mul,Nat.mul_assoc]
  have e2:(((i*u:Nat):Int)*w)=((i*u*w:Nat):Int):=by push_cast;rfl
  rw[e2]at k3
  rw[e]
  generalize i*u*w=A at *
  generalize u*w=B at *
  generalize Zdx ts*(w:Int)=D at *
  generalize x.pos*(w:Int)=F at *
  omega
 ·have:=Nat.mul_le_mul h.u1 h1;omega
 ·rw[Zb5,ZdP,Zu6,hs,ZdP,isG,show(Zbb 5 mn mx a c [x]).k=5 from rfl]
  simp;omega
structure F (t:T)(l:List T):Prop where
 good:t.good=true
 goods:∀x∈l,x.good=true
 sz:t.nodes.length+szL l+l.length≤60
 pos:t.pos+Zdx l≤400
 gr:t.gr+grL l≤9
theorem F.start{i u g}{t:T}{l:List T}(h:J i (t::l) u g)(hi:i≤25):F t l:=by
 have h1:=h.sz
 have h2:=h.pos400 hi
 have h3:=h.gr
 rw[ZkH]at h1
 rw[ZqQ]at h3
 have:=Zn5 l
 have:=h.g9
 exact⟨h.good t (by simp),fun x hx=>h.good x (by simp[hx]),by omega,by simpa[Zdx]using h2,by omega⟩
theorem F.step{t x:T}{l:List T}(h:F t (x::l))(a:Option Addr)(c:Nat):F (Zhi 4 a c (ZbU 4 t++ZbU 4 x)) l:=by
 have h1:=h.sz
 have h2:=h.pos
 have h3:=h.gr
 rw[ZkH,List.length_cons]at h1
 rw[ZqQ]at h3
 simp only[Zdx]at h2
 have n1:=Zfe l
 have n2:=(Zgn x).1
 have n3:=(Zgn t).1
 obtain⟨a1,a2,a3,a4⟩:=ZkJ (.inr rfl) h.good (by omega) (t:=t)
 obtain⟨b1,b2,b3,b4⟩:=ZkJ (.inr rfl) (h.goods x (by simp)) (by omega)
 obtain⟨c1,c2,c3,c4⟩:=Zn6 (.inr rfl) a c (l:=ZbU 4 t++ZbU 4 x) (fun z hz=>by
  rcases List.mem_append.1 hz with hz|hz
  ·exact a1 z hz
  ·exact b1 z hz)
 rw[ZaU]at c2
 rw[Zb5]at c3
 rw[Zbk]at c4
 exact⟨c1,fun z hz=>h.goods z (by simp[hz]),by omega,by omega,by omega⟩
theorem F.done{t:T}{l:List T}(h:F t l):t.check=0:=by
 have h1:=h.sz
 have h2:=h.pos
 have h3:=h.gr
 have n1:=Zfe l
 have hl:t.light=true:=by unfold T.light;exact decide_eq_true (by omega)
 have hc:t.clean=true:=by unfold T.clean;rw[hl];exact h.good
 have hg:((t.nodes.countP fun x=>x.k == 6:Nat))=t.gr:=rfl
 unfold T.check
 rw[hc]
 unfold T.size T.positions T.groups
 rw[hl,hg]
 simp only[if_true,Bool.true_eq_false,if_false]
 rw[if_neg (by omega),if_neg (by omega),if_neg (by omega)]
theorem Zgq{t:T}(h:t.check=0):t.good=true∧t.nodes.length≤120:=by
 unfold T.check at h
 split at h
 ·exact absurd h (by decide)
 ·rename_i hc
  have hc':t.clean=true:=by simpa using hc
  unfold T.clean at hc'
  rw[Bool.and_eq_true]at hc'
  split at h
  ·exact absurd h (by decide)
  ·rename_i hz
   unfold T.size at hz
   rw[hc'.1]at hz
   simp only[if_true]at hz
   exact⟨hc'.2,by omega⟩
theorem ZqS(n:Nat):(ZkG (Zd0 n)).good=true∧(ZkG (Zd0 n)).nodes.length=1∧(ZkG (Zd0 n)).pos≤1∧(ZkG (Zd0 n)).gr=0:=by
 have h:n % 12=0∨n % 12=1∨n % 12=2∨n % 12=3∨n % 12=4∨n % 12=5∨n % 12=6∨n % 12=7∨n % 12=8∨n % 12=9∨n % 12=10∨n % 12=11:=by omega
 unfold Zd0
 rcases h with e|e|e|e|e|e|e|e|e|e|e|e <;> rw[e] <;> exact⟨by decide,by decide,by decide,by decide⟩
theorem Zu7:T1.good=true∧T1.nodes.length=1∧T1.pos≤1∧T1.gr=0:=⟨by decide,by decide,by decide,by decide⟩
theorem Zff{k:Int}{t:T}:(ZbU k t).length≤t.nodes.length:=by
 unfold ZbU
 have:=Zs6 t
 have:=ZqR t
 split
 ·omega
 ·split <;> simp <;> omega
end Go.Rx
namespace Go.Rx
open Go Go.Eng Go.RowKit
def bwL(f:Nat):List Value:=[.int .u64 (wdN f 0:Nat),.int .u64 (wdN f 1:Nat),.int .u64 (wdN f 2:Nat),.int .u64 (wdN f 3:Nat),.int .u64 (wdN f 4:Nat),.int .u64 (wdN f 5:Nat),.int .u64 (wdN f 6:Nat)]
def bwV(f:Nat):Value:=.agg #[.int .u64 (wdN f 0:Nat),.int .u64 (wdN f 1:Nat),.int .u64 (wdN f 2:Nat),.int .u64 (wdN f 3:Nat),.int .u64 (wdN f 4:Nat),.int .u64 (wdN f 5:Nat),.int .u64 (wdN f 6:Nat)]
theorem ZlL{f j:Nat}(h:j < 7):(bwL f)[j]?=some (.int .u64 (wdN f j:Nat)):=by
 have:j=0∨j=1∨j=2∨j=3∨j=4∨j=5∨j=6:=by omega
 rcases this with rfl|rfl|rfl|rfl|rfl|rfl|rfl <;> rfl
theorem Zwn{f q r:Nat}(hq:q < 7)(hr:r < 64):Zao (bwL f) q [.int .u64 ((wdN f q|||2 ^ r:Nat):Int)]=bwL (f|||2 ^ (64*q+r)):=by
 unfold bwL
 simp only[Zu3,Zu4 hr]
 have:q=0∨q=1∨q=2∨q=3∨q=4∨q=5∨q=6:=by omega
 rcases this with rfl|rfl|rfl|rfl|rfl|rfl|rfl <;> simp[Zao,Nat.or_zero]
theorem ZlM:bwL 0=[.int .u64 0,.int .u64 0,.int .u64 0,.int .u64 0,.int .u64 0,.int .u64 0,.int .u64 0]:=by simp[bwL,wdN]
def orB(f g k:Nat):List Value:=(List.range 7).map fun j=>.int .u64 ((if j < k then wdN (f|||g) j else wdN f j:Nat):Int)
theorem Zs9{f g k j:Nat}(h:j < 7):(orB f g k)[j]?=some (.int .u64 ((if j < k then wdN (f|||g) j else wdN f j:Nat):Int)):=by
 simp[orB,h]
theorem Zn7(f g k:Nat):(orB f g k).length=7:=by simp[orB]
theorem Zn8(f:Nat):(bwL f).length=7:=rfl
theorem ZqT{f g k:Nat}(h:k < 7):Zao (orB f g k) k [.int .u64 ((wdN f k|||wdN g k:Nat):Int)]=orB f g (k+1):=by
 rw[←Zu3]
 have:k=0∨k=1∨k=2∨k=3∨k=4∨k=5∨k=6:=by omega
 rcases this with rfl|rfl|rfl|rfl|rfl|rfl|rfl <;> rfl
theorem ZiL{A L B:List Value}{q:Nat}{v:Value}(h:q < L.length):Zao (A++L++B) (A.length+q) [v]=A++Zao L q [v]++B:=by
 simp only[Zao,List.length_singleton]
 have h1:(A++L++B).take (A.length+q)=A++L.take q:=by
  rw[List.append_assoc,List.take_append,List.take_of_length_le (by omega),Nat.add_sub_cancel_left,List.take_append_of_le_length (by omega)]
 have h2:(A++L++B).drop (A.length+q+1)=L.drop (q+1)++B:=by
  rw[List.append_assoc,Nat.add_assoc,List.drop_append,List.drop_eq_nil_of_le (by omega),List.nil_append,Nat.add_sub_cancel_left,List.drop_append_of_le_length (by omega)]
 rw[h1,h2];simp
theorem Zn9{A L B:List Value}{q:Nat}{v:Value}(h:L[q]?=some v):(A++L++B)[A.length+q]?=some v:=by
 have hq:=(List.getElem?_eq_some_iff.1 h).1
 rw[List.append_assoc,List.getElem?_append_right (by omega),Nat.add_sub_cancel_left,List.getElem?_append_left hq,h]
def ZcS(f:Nat):List Nat:=(List.range 448).filter fun i=>f.testBit i
theorem ZpJ(f k:Nat)(h:k≤448):(ZcS f).take (((List.range k).filter fun i=>f.testBit i).length)=(List.range k).filter fun i=>f.testBit i:=by
 have e:List.range 448=List.range k++(List.range 448).drop k:=by
  have:=(List.take_append_drop k (List.range 448)).symm
  rwa [List.take_range,Nat.min_eq_left h]at this
 unfold ZcS
 conv=>lhs;rw[e,List.filter_append]
 rw[List.take_left']
 rfl
theorem ZtU(f k:Nat)(h:k < 448)(hb:f.testBit k=true):(ZcS f)[((List.range k).filter fun i=>f.testBit i).length]?=some k:=by
 have h1:=ZpJ f (k+1) (by omega)
 have e:(List.range (k+1)).filter (fun i=>f.testBit i)=(List.range k).filter (fun i=>f.testBit i)++[k]:=by
  rw[List.range_succ,List.filter_append];simp[hb]
 rw[e]at h1
 have h2:=congrArg (fun l=>l[((List.range k).filter fun i=>f.testBit i).length]?) h1
 simpa[List.getElem?_take]using h2
theorem Zoa(f:Nat):(ZcS f).length≤448:=by
 unfold ZcS
 exact Nat.le_trans (List.length_filter_le _ _) (by simp)
theorem ZkK{f i:Nat}:i∈ZcS f↔i < 448∧f.testBit i=true:=by simp[ZcS]
theorem ZhU(f:Nat):(ZcS f).Pairwise (· < ·):=(List.pairwise_lt_range (n:=448)).filter _
end Go.Rx
namespace Go.Rx
open Go Go.Eng Go.RowKit
structure Pt where
 first:Nat
 last:Nat
 null:Bool
structure Ms where
 sets:List (Int×Int×Int×Int)
 fol:List Nat
def Pt.v(p:Pt):Value:=.agg #[.int .u64 (wdN p.first 0:Nat),.int .u64 (wdN p.first 1:Nat),.int .u64 (wdN p.first 2:Nat),.int .u64 (wdN p.first 3:Nat),.int .u64 (wdN p.first 4:Nat),.int .u64 (wdN p.first 5:Nat),.int .u64 (wdN p.first 6:Nat),.int .u64 (wdN p.last 0:Nat),.int .u64 (wdN p.last 1:Nat),.int .u64 (wdN p.last 2:Nat),.int .u64 (wdN p.last 3:Nat),.int .u64 (wdN p.last 4:Nat),.int .u64 (wdN p.last 5:Nat),.int .u64 (wdN p.last 6:Nat),.bool p.null]
def Pt.cs(p:Pt):List Value:=bwL p.first++bwL p.last++[Value.bool p.null]
theorem Pt.v_cs(p:Pt):p.v=.agg p.cs.toArray:=rfl
def ZbV(fol:List Nat)(a b:Nat):List Nat:=fol.mapIdx fun i x=>if a.testBit i then x|||b else x
theorem ZkL(fol:List Nat)(a b:Nat):(ZbV fol a b).length=fol.length:=by simp[ZbV]
def ZmU(p q:Pt):Pt:=⟨if p.null then p.first|||q.first else p.first,if q.null then q.last|||p.last else q.last,p.null&&q.null⟩
def Zcc(p q:Pt)(s:Ms):Pt×Ms:=(ZmU p q,⟨s.sets,ZbV s.fol p.last q.first⟩)
def ZsQ(p q:Pt):Pt:=⟨p.first|||q.first,p.last|||q.last,p.null||q.null⟩
def Zht(f:Ms→Pt×Ms)(mn mx:Int)(n:Nat):Nat→Nat→Pt→Ms→Pt×Ms
 | 0,_,out,s=>(out,s)
 | q+1,i,out,s=>
  let x:=(f s).1
  let s1:=(f s).2
  let s2:Ms:=if mx=-1∧i+1=n then⟨s1.sets,ZbV s1.fol x.last x.first⟩ else s1
  let y:Pt:=⟨x.first,x.last,x.null||decide ((i:Int) ≥ mn)⟩
  Zht f mn mx n q (i+1) (Zcc out y s2).1 (Zcc out y s2).2
def ZmV(mn mx:Int):Nat:=(if mx=-1 then max mn 1 else mx).toNat
mutual
def mk:T→Ms→Pt×Ms
 | .node k s0 s1 s2 s3 mn mx _ _ l,s=>
  if k=0 then(⟨0,0,false⟩,s)
  else if k=1 then(⟨0,0,true⟩,s)
  else if k=2 then(⟨2 ^ s.sets.length,2 ^ s.sets.length,false⟩,⟨s.sets++[(s0,s1,s2,s3)],s.fol++[0]⟩)
  else if k=3 then Zc1 l ⟨0,0,true⟩ s
  else if k=4 then ZcJ l ⟨0,0,false⟩ s
  else if k=5 then Zht (fun s=>Zhj l s) mn mx (ZmV mn mx) (ZmV mn mx) 0 ⟨0,0,true⟩ s
  else Zhj l s
def Zhj:List T→Ms→Pt×Ms
 | [],s=>(⟨0,0,false⟩,s)
 | t::_,s=>mk t s
def Zc1:List T→Pt→Ms→Pt×Ms
 | [],out,s=>(out,s)
 | t::l,out,s=>Zc1 l (Zcc out (mk t s).1 (mk t s).2).1 (Zcc out (mk t s).1 (mk t s).2).2
def ZcJ:List T→Pt→Ms→Pt×Ms
 | [],out,s=>(out,s)
 | t::l,out,s=>ZcJ l (ZsQ out (mk t s).1) (mk t s).2
end
def Zb4(l:List (Int×Int×Int×Int)):List Value:=l.flatMap fun q=>[.int .u64 q.1,.int .u64 q.2.1,.int .u64 q.2.2.1,.int .u64 q.2.2.2]
def Zdy(l:List Nat):List Value:=l.flatMap bwL
theorem ZhV(l:List (Int×Int×Int×Int)):(Zb4 l).length=l.length*4:=by
 induction l with
 | nil=>rfl
 | cons a l ih=>simp only[Zb4,List.flatMap_cons,List.length_append,List.length_cons,List.length_nil]at *;omega
theorem ZhW(l:List Nat):(Zdy l).length=l.length*7:=by
 induction l with
 | nil=>rfl
 | cons a l ih=>simp only[Zdy,List.flatMap_cons,List.length_append,Zn8,List.length_cons]at *;omega
theorem Zr4(l l':List (Int×Int×Int×Int)):Zb4 (l++l')=Zb4 l++Zb4 l':=by simp[Zb4]
theorem Zr5(l l':List Nat):Zdy (l++l')=Zdy l++Zdy l':=by simp[Zdy]
def Yof(v0 v1:Value)(b:Nat):Prop:=(Tok.mk v0 4).blk=some b∨(Tok.mk v1 7).blk=some b
def RowOk(m:Mem)(v:Value)(k:Nat)(cs:List Value):Prop:=(k=0∧v=.slice none 0 0)∨∃b c,v=.slice (some ⟨b,0,none⟩) k c∧m.reads b 0 cs∧k≠0
structure MkRow (m:Mem)(v0 v1:Value)(s:Ms):Prop where
 row0:RowOk m v0 s.sets.length (Zb4 s.sets)
 row1:RowOk m v1 s.fol.length (Zdy s.fol)
 ne:∀b,(Tok.mk v0 4).blk=some b→(Tok.mk v1 7).blk≠some b
structure MkOk (M0 m:Mem)(v0 v1:Value)(s:Ms):Prop extends MkRow m v0 v1 s where
 base:M0.le (m.off (Yof v0 v1))
theorem Zob{m m':Mem}{Y Y':Nat→Prop}(h:(m.off Y).le m')(hn:∀b,Y' b→Y b∨m.free b):(m.off Y).le (m'.off Y'):=fun b o v hv=>by
 unfold Mem.off at hv ⊢
 split at hv
 ·cases hv
 ·rename_i hY
  have:¬Y' b:=fun h'=>by
   rcases hn b h' with h1|h1
   ·exact hY h1
   ·rw[h1 o]at hv;cases hv
  rw[if_neg this]
  have:=h b o v (by unfold Mem.off;rw[if_neg hY];exact hv)
  exact this
theorem MkOk.next{M0 m m':Mem}{v0 v1 v0' v1':Value}{s s':Ms}(h:MkOk M0 m v0 v1 s)(cN:(m.off (Yof v0 v1)).le m')(hn:∀b,Yof v0' v1' b→Yof v0 v1 b∨m.free b)(hr:MkRow m' v0' v1' s'):MkOk M0 m' v0' v1' s':=
 {hr with base:=Mem.le_trans h.base (Zob cN hn) }
theorem MkOk.free{M0 m:Mem}{v0 v1:Value}{s:Ms}(h:MkOk M0 m v0 v1 s){b:Nat}(hb:Yof v0 v1 b):M0.free b:=fun o=>by
 cases he:M0 b o with
 | none=>rfl
 | some u=>
  have:=h.base b o u he
  unfold Mem.off at this
  rw[if_pos hb]at this;cases this
theorem MkOk.le{M0 m:Mem}{v0 v1:Value}{s:Ms}(h:MkOk M0 m v0 v1 s):M0.le m:=Mem.le_trans h.base (Mem.off_le m _)
theorem RowOk.mono{m m':Mem}{v:Value}{k:Nat}{cs:List Value}(h:RowOk m v k cs)(hm:m.le m'):RowOk m' v k cs:=by
 rcases h with h|⟨b,c,h1,h2,h3⟩
 ·exact .inl h
 ·exact .inr ⟨b,c,h1,h2.mono hm,h3⟩
theorem MkRow.mono{m m':Mem}{v0 v1:Value}{s:Ms}(h:MkRow m v0 v1 s)(hm:m.le m'):MkRow m' v0 v1 s:=⟨h.row0.mono hm,h.row1.mono hm,h.ne⟩
theorem ZjK(l r:List Nat)(f:Nat):Zdy (l++f::r)=Zdy l++bwL f++Zdy r:=by simp[Zdy]
theorem ZqU{l:List Nat}{i f:Nat}(h:l[i]?=some f):Zdy l=Zdy (l.take i)++bwL f++Zdy (l.drop (i+1)):=by
 obtain⟨hi,hf⟩:=List.getElem?_eq_some_iff.1 h
 have e:l=l.take i++f::l.drop (i+1):=by
  conv=>lhs;rw[←List.take_append_drop i l]
  rw[List.drop_eq_getElem_cons hi,hf]
 conv=>lhs;rw[e]
 exact ZjK _ _ _
theorem Zr6{l:List Nat}{i f:Nat}(hi:i < l.length):Zdy (l.set i f)=Zdy (l.take i)++bwL f++Zdy (l.drop (i+1)):=by
 have e:l.set i f=l.take i++f::l.drop (i+1):=List.set_eq_take_append_cons_drop.trans (if_pos hi)
 rw[e];exact ZjK _ _ _
def Zgr(fol ds:List Nat)(b:Nat):List Nat:=fol.mapIdx fun i x=>if i∈ds then x|||b else x
theorem Zr7(fol:List Nat)(b:Nat):Zgr fol [] b=fol:=by
 unfold Zgr
 apply List.ext_getElem? fun i=>?_
 simp
theorem Zr8{fol ds:List Nat}{b i x:Nat}(h:fol[i]?=some x)(hi:i ∉ ds):(Zgr fol ds b)[i]?=some x:=by
 simp[Zgr,h,hi]
theorem ZpK{fol ds:List Nat}{b i x:Nat}(h:fol[i]?=some x)(hi:i ∉ ds):Zgr fol (ds++[i]) b=(Zgr fol ds b).set i (x|||b):=by
 apply List.ext_getElem? fun j=>?_
 rw[List.getElem?_set]
 have bM:=(List.getElem?_eq_some_iff.1 h).1
 by_cases e:i=j
 ·subst e
  have hx:=(List.getElem?_eq_some_iff.1 h).2
  simp[Zgr,bM,hx]
 ·rw[if_neg e]
  have:j≠i:=fun h=>e h.symm
  simp[Zgr,this]
theorem Zr9{fol ds:List Nat}{a b:Nat}(h:∀i,i < fol.length→(i∈ds↔a.testBit i=true)):Zgr fol ds b=ZbV fol a b:=by
 unfold Zgr ZbV
 apply List.ext_getElem? fun j=>?_
 rw[List.getElem?_mapIdx,List.getElem?_mapIdx]
 cases hj:fol[j]? with
 | none=>rfl
 | some x=>
  have:=h j (List.getElem?_eq_some_iff.1 hj).1
  simp only[Option.map_some,Option.some.injEq]
  by_cases hd:j∈ds
  ·rw[if_pos hd,if_pos (this.1 hd)]
  ·rw[if_neg hd,if_neg (fun h=>hd (this.2 h))]
end Go.Rx
namespace Go.Rx
open Go Go.Eng Go.RowKit
def PtIn(n:Nat)(p:Pt):Prop:=(∀i,p.first.testBit i=true→i < n)∧(∀i,p.last.testBit i=true→i < n)
structure MsOk (s:Ms):Prop where
 len:s.fol.length=s.sets.length
 fol:∀(j x:Nat),s.fol[j]?=some x→∀i,x.testBit i=true→i < s.sets.length
theorem PtIn.mono{n n':Nat}{p:Pt}(h:PtIn n p)(hn:n≤n'):PtIn n' p:=⟨fun i hi=>Nat.lt_of_lt_of_le (h.1 i hi) hn,fun i hi=>Nat.lt_of_lt_of_le (h.2 i hi) hn⟩
theorem ZbN(n:Nat)(b:Bool):PtIn n ⟨0,0,b⟩:=⟨fun i hi=>by simp at hi,fun i hi=>by simp at hi⟩
theorem Zgs{a b i:Nat}(h:(a|||b).testBit i=true):a.testBit i=true∨b.testBit i=true:=by
 simpa[Nat.testBit_or]using h
theorem MsOk.loop{s:Ms}(h:MsOk s)(a b:Nat)(hb:∀i,b.testBit i=true→i < s.sets.length):MsOk ⟨s.sets,ZbV s.fol a b⟩:=by
 refine⟨by simp[ZbV,h.len],fun j x hj i hi=>?_⟩
 simp only[ZbV,List.getElem?_mapIdx]at hj
 obtain⟨y,hy,rfl⟩:=Option.map_eq_some_iff.1 hj
 by_cases ig:a.testBit j=true
 ·rw[if_pos ig]at hi
  rcases Zgs hi with h1|h1
  ·exact h.fol j y hy i h1
  ·exact hb i h1
 ·rw[if_neg ig]at hi
  exact h.fol j y hy i hi
theorem ZqV{n:Nat}{p q:Pt}(hp:PtIn n p)(hq:PtIn n q):PtIn n (ZmU p q):=by
 obtain⟨pf,pl,pn⟩:=p
 obtain⟨qf,ql,qn⟩:=q
 constructor
 ·intro i hi
  cases pn
  ·exact hp.1 i hi
  ·rcases Zgs hi with h|h
   ·exact hp.1 i h
   ·exact hq.1 i h
 ·intro i hi
  cases qn
  ·exact hq.2 i hi
  ·rcases Zgs hi with h|h
   ·exact hq.2 i h
   ·exact hp.2 i h
theorem ZqW{n:Nat}{p q:Pt}(hp:PtIn n p)(hq:PtIn n q):PtIn n (ZsQ p q):=
 ⟨fun i hi=>(Zgs hi).elim (hp.1 i) (hq.1 i),fun i hi=>(Zgs hi).elim (hp.2 i) (hq.2 i)⟩
structure Grows (s:Ms)(r:Pt×Ms):Prop where
 le:s.sets.length≤r.2.sets.length
 ok:MsOk r.2
 pt:PtIn r.2.sets.length r.1
theorem Zfg{p q:Pt}{s:Ms}(h:MsOk s)(hp:PtIn s.sets.length p)(hq:PtIn s.sets.length q):Grows s (Zcc p q s):=
 ⟨Nat.le_refl _,h.loop _ _ hq.1,ZqV hp hq⟩
theorem Grows.trans{s s1:Ms}{p:Pt}{r:Pt×Ms}(h:Grows s (p,s1))(k:Grows s1 r):Grows s r:=⟨Nat.le_trans h.le k.le,k.ok,k.pt⟩
theorem Zgt{f:Ms→Pt×Ms}(hf:∀s,MsOk s→Grows s (f s))(mn mx:Int)(n:Nat):∀(q i:Nat)(out:Pt)(s:Ms),MsOk s→PtIn s.sets.length out→Grows s (Zht f mn mx n q i out s)
 | 0,i,out,s,h,hp=>⟨Nat.le_refl _,h,hp⟩
 | q+1,i,out,s,h,hp=>by
  unfold Zht
  have h1:=hf s h
  simp only
  generalize gj:(if mx=-1∧i+1=n then(⟨(f s).2.sets,ZbV (f s).2.fol (f s).1.last (f s).1.first⟩:Ms)else(f s).2)=s2
  have e:s2.sets=(f s).2.sets:=by rw[←gj];split <;> rfl
  have h2:MsOk s2:=by
   rw[←gj];split
   ·exact h1.ok.loop _ _ h1.pt.1
   ·exact h1.ok
  have cN:s.sets.length≤s2.sets.length:=by rw[e];exact h1.le
  have h3:Grows s2 (Zcc out ⟨(f s).1.first,(f s).1.last,(f s).1.null||decide ((i:Int) ≥ mn)⟩ s2):=Zfg h2 (hp.mono cN) (by rw[e];exact h1.pt)
  have h4:=Zgt hf mn mx n q (i+1) _ _ h3.ok h3.pt
  exact⟨Nat.le_trans cN (Nat.le_trans h3.le h4.le),h4.ok,h4.pt⟩
theorem Zsa{n i:Nat}(h:(2 ^ n).testBit i=true):i=n:=by
 rw[Nat.testBit_two_pow]at h;exact(of_decide_eq_true h).symm
theorem Zgu{s:Ms}(h:MsOk s)(q:Int×Int×Int×Int):Grows s (⟨2 ^ s.sets.length,2 ^ s.sets.length,false⟩,⟨s.sets++[q],s.fol++[0]⟩):=by
 refine⟨by simp,⟨by simp[h.len],fun j x hj i hi=>?_⟩,?_,?_⟩
 ·rw[List.getElem?_append]at hj
  split at hj
  ·have:=h.fol j x hj i hi
   simp;omega
  ·have:=(List.getElem?_eq_some_iff.1 hj)
   obtain⟨_,h2⟩:=this
   have:x=0:=by
    rw[List.getElem_singleton]at h2;exact h2.symm
   subst this;simp at hi
 ·intro i hi;have:=Zsa hi;simp;omega
 ·intro i hi;have:=Zsa hi;simp;omega
mutual
theorem Zd1:∀(t:T)(s:Ms),MsOk s→Grows s (mk t s)
 | .node k s0 s1 s2 s3 mn mx a c l,s,h=>by
  unfold mk
  split
  ·exact⟨Nat.le_refl _,h,ZbN _ _⟩
  split
  ·exact⟨Nat.le_refl _,h,ZbN _ _⟩
  split
  ·exact Zgu h _
  split
  ·exact Zfh l _ s h (ZbN _ _)
  split
  ·exact Zfi l _ s h (ZbN _ _)
  split
  ·exact Zgt (fun s h=>Ze1 l s h) _ _ _ _ _ _ _ h (ZbN _ _)
  ·exact Ze1 l s h
theorem Ze1:∀(l:List T)(s:Ms),MsOk s→Grows s (Zhj l s)
 | [],s,h=>by unfold Zhj;exact⟨Nat.le_refl _,h,ZbN _ _⟩
 | t::l,s,h=>by unfold Zhj;exact Zd1 t s h
theorem Zfh:∀(l:List T)(out:Pt)(s:Ms),MsOk s→PtIn s.sets.length out→Grows s (Zc1 l out s)
 | [],out,s,h,hp=>by unfold Zc1;exact⟨Nat.le_refl _,h,hp⟩
 | t::l,out,s,h,hp=>by
  unfold Zc1
  have h1:=Zd1 t s h
  have h2:=Zfg h1.ok (hp.mono h1.le) h1.pt
  have h3:=Zfh l _ _ h2.ok h2.pt
  exact⟨Nat.le_trans h1.le (Nat.le_trans h2.le h3.le),h3.ok,h3.pt⟩
theorem Zfi:∀(l:List T)(out:Pt)(s:Ms),MsOk s→PtIn s.sets.length out→Grows s (ZcJ l out s)
 | [],out,s,h,hp=>by unfold ZcJ;exact⟨Nat.le_refl _,h,hp⟩
 | t::l,out,s,h,hp=>by
  unfold ZcJ
  have h1:=Zd1 t s h
  have h3:=Zfi l _ _ h1.ok (ZqW (hp.mono h1.le) h1.pt)
  exact⟨Nat.le_trans h1.le h3.le,h3.ok,h3.pt⟩
end
theorem Zv6(t:T)(s:Ms):mk t s=(if t.k=0 then(⟨0,0,false⟩,s)
  else if t.k=1 then(⟨0,0,true⟩,s)
  else if t.k=2 then(⟨2 ^ s.sets.length,2 ^ s.sets.length,false⟩,⟨s.sets++[(t.s0,t.s1,t.s2,t.s3)],s.fol++[0]⟩)
  else if t.k=3 then Zc1 t.subs ⟨0,0,true⟩ s
  else if t.k=4 then ZcJ t.subs ⟨0,0,false⟩ s
  else if t.k=5 then Zht (fun s=>Zhj t.subs s) t.mn t.mx (ZmV t.mn t.mx) (ZmV t.mn t.mx) 0 ⟨0,0,true⟩ s
  else Zhj t.subs s):=by
 cases t;rw[mk];rfl
theorem ZpL{l:List T}{k:Nat}{t:T}(h:l[k]?=some t)(out:Pt)(s:Ms):Zc1 (l.drop k) out s=Zc1 (l.drop (k+1)) (Zcc out (mk t s).1 (mk t s).2).1 (Zcc out (mk t s).1 (mk t s).2).2:=by
 obtain⟨hk,he⟩:=List.getElem?_eq_some_iff.1 h
 rw[List.drop_eq_getElem_cons hk,he,Zc1]
theorem ZpM{l:List T}{k:Nat}{t:T}(h:l[k]?=some t)(out:Pt)(s:Ms):ZcJ (l.drop k) out s=ZcJ (l.drop (k+1)) (ZsQ out (mk t s).1) (mk t s).2:=by
 obtain⟨hk,he⟩:=List.getElem?_eq_some_iff.1 h
 rw[List.drop_eq_getElem_cons hk,he,ZcJ]
theorem ZlN{f:Ms→Pt×Ms}{c:Nat}(hf:∀s,(f s).2.sets.length=s.sets.length+c)(mn mx:Int)(n:Nat):∀(q i:Nat)(out:Pt)(s:Ms),(Zht f mn mx n q i out s).2.sets.length=s.sets.length+q*c
 | 0,i,out,s=>by simp[Zht]
 | q+1,i,out,s=>by
  unfold Zht
  simp only
  rw[ZlN hf]
  have h2:(if mx=-1∧i+1=n then(⟨(f s).2.sets,ZbV (f s).2.fol (f s).1.last (f s).1.first⟩:Ms)else(f s).2).sets.length=s.sets.length+c:=by
   split <;> exact hf s
  show(Ms.sets _).length+_=_
  simp only[Zcc]
  rw[h2,Nat.add_mul];omega
theorem Zoc{x:Int}(h:Zmr x 10001≤10000):Zmr x 10001=x∧x≤10000:=by
 unfold Zmr at *
 split at h
 ·omega
 ·rename_i h2;exact⟨if_neg h2,h⟩
theorem ZtV{mn mx:Int}(h:Zcm mn mx=true):Zmr (if mx=-1 then ZlF (ZlF mn 0) 1 else ZlF (ZlF mn 0) mx) 10001=(ZmV mn mx:Nat)∧1≤ZmV mn mx:=by
 unfold Zcm at h
 simp only[Bool.and_eq_true,Bool.not_eq_true',Bool.or_eq_false_iff,Bool.or_eq_true,decide_eq_false_iff_not,decide_eq_true_eq,beq_iff_eq]at h
 unfold ZmV Zmr ZlF
 by_cases hm:mx=-1
 ·simp only[hm,if_true]
  split <;> split <;> split <;> omega
 ·simp only[hm,if_false]
  split <;> split <;> split <;> omega
theorem ZdQ{t:T}(h:t.right=true):(t.k=1∧t.subs=[])∨(t.k=2∧t.subs=[]∧t.setZ=false)∨t.k=3∨t.k=4∨(t.k=5∧t.subs.length=1∧Zcm t.mn t.mx=true)∨(t.k=6∧t.subs.length=1):=by
 unfold T.right at h
 rw[Bool.and_eq_true]at h
 obtain⟨h0,h2⟩:=h
 simp only[Bool.not_eq_true',Bool.or_eq_false_iff,Bool.and_eq_false_iff,decide_eq_false_iff_not]at h0
 have hz:t.k < 3→t.subs=[]:=fun hk=>by
  have h1:=h0.2.2
  rcases h1 with h1|h1
  ·omega
  ·cases hs:t.subs with
   | nil=>rfl
   | cons a l=>rw[hs]at h1;simp at h1
 by_cases h1:t.k=1;· exact .inl ⟨h1,hz (by omega)⟩
 by_cases h3:t.k=2
 ·rw[if_neg h1,if_pos h3]at h2
  exact .inr (.inl ⟨h3,hz (by omega),by simpa using h2⟩)
 by_cases h4:t.k=3;· exact .inr (.inr (.inl h4))
 by_cases h5:t.k=4;· exact .inr (.inr (.inr (.inl h5)))
 by_cases h6:t.k=5
 ·rw[if_neg h1,if_neg h3,if_neg h4,if_neg h5,if_pos h6]at h2
  simp only[Bool.and_eq_true,beq_iff_eq]at h2
  exact .inr (.inr (.inr (.inr (.inl ⟨h6,h2.1,h2.2.1⟩))))
 ·rw[if_neg h1,if_neg h3,if_neg h4,if_neg h5,if_neg h6]at h2
  simp only[Bool.and_eq_true,beq_iff_eq]at h2
  exact .inr (.inr (.inr (.inr (.inr h2))))
mutual
theorem ZiM:∀(t:T),(∀x∈t.nodes,x.right=true)→t.pos≤10000→∀s:Ms,(mk t s).2.sets.length=s.sets.length+t.pos.toNat
 | .node k s0 s1 s2 s3 mn mx a c l,bV,hp,s=>by
  have hr:=ZdQ (bV (.node k s0 s1 s2 s3 mn mx a c l) (by simp[T.nodes]))
  have hl:∀x∈Zax l,x.right=true:=fun x hx=>bV x (by simp[T.nodes,hx])
  simp only[T.k,T.subs,T.mn,T.mx]at hr
  have vk:=Zfe l
  simp only[T.pos,ZtR]at hp ⊢
  rw[mk]
  rcases hr with⟨hk,hs⟩|⟨hk,hs,_⟩|hk|hk|⟨hk,h1,hb⟩|⟨hk,h1⟩
  ·subst hk hs;simp[Zdx,Zmr]
  ·subst hk hs;simp[Zdx,Zmr]
  ·subst hk
   have hq:=Zoc hp
   rw[hq.1]
   simp only[show ¬(3:Int)=0 by omega,show ¬(3:Int)=1 by omega,show ¬(3:Int)=2 by omega,show ¬(3:Int)=5 by omega,if_false,if_true,Int.zero_add]at hq ⊢
   exact ZjL l hl (by omega) _ s
  ·subst hk
   have hq:=Zoc hp
   rw[hq.1]
   simp only[show ¬(4:Int)=0 by omega,show ¬(4:Int)=1 by omega,show ¬(4:Int)=2 by omega,show ¬(4:Int)=3 by omega,show ¬(4:Int)=5 by omega,if_false,if_true,Int.zero_add]at hq ⊢
   exact ZjM l hl (by omega) _ s
  ·subst hk
   have hq:=Zoc hp
   rw[hq.1]
   obtain⟨hF,nh⟩:=ZtV hb
   simp only[show ¬(5:Int)=0 by omega,show ¬(5:Int)=1 by omega,show ¬(5:Int)=2 by omega,show ¬(5:Int)=3 by omega,show ¬(5:Int)=4 by omega,if_false,if_true,Int.zero_add,hF]at hq ⊢
   have cN:Zdx l≤10000:=by
    have h2:Zdx l*1≤Zdx l*(ZmV mn mx:Nat):=Int.mul_le_mul_of_nonneg_left (by omega) vk
    omega
   have hf:=fun s=>ZlO l h1 hl cN s
   rw[ZlN hf]
   obtain⟨z,hz⟩:∃z:Nat,Zdx l=z:=⟨(Zdx l).toNat,by omega⟩
   rw[hz,Int.toNat_natCast,←Int.natCast_mul,Int.toNat_natCast,Nat.mul_comm]
  ·subst hk
   have hq:=Zoc hp
   rw[hq.1]
   simp only[show ¬(6:Int)=0 by omega,show ¬(6:Int)=1 by omega,show ¬(6:Int)=2 by omega,show ¬(6:Int)=3 by omega,show ¬(6:Int)=4 by omega,show ¬(6:Int)=5 by omega,if_false,if_true,Int.zero_add]at hq ⊢
   exact ZlO l h1 hl (by omega) s
theorem ZlO:∀(l:List T),l.length=1→(∀x∈Zax l,x.right=true)→Zdx l≤10000→∀s:Ms,(Zhj l s).2.sets.length=s.sets.length+(Zdx l).toNat
 | [],h,_,_,_=>by simp at h
 | [t],_,bV,hp,s=>by
  simp only[Zhj,Zdx,Int.add_zero]at hp ⊢
  exact ZiM t (fun x hx=>bV x (by simp[Zax,hx])) hp s
 | _::_::_,h,_,_,_=>by simp at h
theorem ZjL:∀(l:List T),(∀x∈Zax l,x.right=true)→Zdx l≤10000→∀(out:Pt)(s:Ms),(Zc1 l out s).2.sets.length=s.sets.length+(Zdx l).toNat
 | [],_,_,out,s=>by simp[Zc1,Zdx]
 | t::l,bV,hp,out,s=>by
  have h1:=Zgn t
  have h2:=Zfe l
  simp only[Zc1,Zdx]at hp ⊢
  rw[ZjL l (fun x hx=>bV x (by simp[Zax,hx])) (by omega)]
  show(mk t s).2.sets.length+_=_
  rw[ZiM t (fun x hx=>bV x (by simp[Zax,hx])) (by omega) s]
  omega
theorem ZjM:∀(l:List T),(∀x∈Zax l,x.right=true)→Zdx l≤10000→∀(out:Pt)(s:Ms),(ZcJ l out s).2.sets.length=s.sets.length+(Zdx l).toNat
 | [],_,_,out,s=>by simp[ZcJ,Zdx]
 | t::l,bV,hp,out,s=>by
  have h1:=Zgn t
  have h2:=Zfe l
  simp only[ZcJ,Zdx]at hp ⊢
  rw[ZjM l (fun x hx=>bV x (by simp[Zax,hx])) (by omega)]
  rw[ZiM t (fun x hx=>bV x (by simp[Zax,hx])) (by omega) s]
  omega
end
end Go.Rx
namespace Go.Rx
open Go Go.Eng Go.RowKit
abbrev QS:=Int×Int×Int×Int
structure Nf where
 sets:List QS
 fol:List (List Int)
 first:List Int
 last:List Int
 empty:Bool
deriving DecidableEq
def ZaM(l:List Int):List Value:=l.map fun i=>.int .i64 i
theorem Zec(l:List Int):(ZaM l).length=l.length:=by simp[ZaM]
def SlI(st:Bool)(l:List Int)(v:Value)(m:Mem):Prop:=∃a c,v=.slice a l.length c∧rowRd m a (ZaM l)∧l.length≤1000000∧(st=true→l=[]→a=none)
def SlQ(st:Bool)(l:List QS)(v:Value)(m:Mem):Prop:=∃a c,v=.slice a l.length c∧rowRd m a (Zb4 l)∧l.length≤1000000∧(st=true→l=[]→a=none)
def FolR(st:Bool)(fol:List (List Int))(v:Value)(m:Mem):Prop:=∃a c vs,v=.slice a fol.length c∧rowRd m a vs∧vs.length=fol.length∧fol.length≤1000000∧∀(i:Nat)(v:Value)(l:List Int),vs[i]?=some v→fol[i]?=some l→SlI st l v m
def NfR(st:Bool)(A:Nf)(v:Value)(m:Mem):Prop:=∃s f x y,v=.agg #[s,f,x,y,.bool A.empty]∧SlQ st A.sets s m∧FolR st A.fol f m∧SlI st A.first x m∧SlI st A.last y m
theorem SlI.mono{st:Bool}{l:List Int}{v:Value}{m m':Mem}(h:SlI st l v m)(k:m.le m'):SlI st l v m':=by
 obtain⟨a,c,h1,h2,h3⟩:=h;exact⟨a,c,h1,h2.mono k,h3⟩
theorem SlQ.mono{st:Bool}{l:List QS}{v:Value}{m m':Mem}(h:SlQ st l v m)(k:m.le m'):SlQ st l v m':=by
 obtain⟨a,c,h1,h2,h3⟩:=h;exact⟨a,c,h1,h2.mono k,h3⟩
theorem FolR.mono{st:Bool}{l:List (List Int)}{v:Value}{m m':Mem}(h:FolR st l v m)(k:m.le m'):FolR st l v m':=by
 obtain⟨a,c,vs,h1,h2,h3,h4,h5⟩:=h;exact⟨a,c,vs,h1,h2.mono k,h3,h4,fun i v l hv hl=>(h5 i v l hv hl).mono k⟩
theorem NfR.mono{st:Bool}{A:Nf}{v:Value}{m m':Mem}(h:NfR st A v m)(k:m.le m'):NfR st A v m':=by
 obtain⟨s,f,x,y,h1,h2,h3,h4,h5⟩:=h;exact⟨s,f,x,y,h1,h2.mono k,h3.mono k,h4.mono k,h5.mono k⟩
theorem Zd2{m:Mem}{a:Option Addr}{l:List Int}(h:rowRd m a (ZaM l)){i:Nat}{x:Int}(hx:l[i]?=some x):∃b o,a=some ⟨b,o,none⟩∧m b (o+i*1)=some (.int .i64 x):=by
 have hv:(ZaM l)[i]?=some (.int .i64 x):=by simp[ZaM,hx]
 rcases h with h|⟨b,o,h1,h2⟩
 ·rw[h]at hv;simp at hv
 ·exact⟨b,o,h1,by have:=h2 i _ hv;rwa [Nat.mul_one]⟩
theorem Zg1{m:Mem}{a:Option Addr}{l:List Value}(h:rowRd m a l){i:Nat}{x:Value}(hx:l[i]?=some x):∃b o,a=some ⟨b,o,none⟩∧m b (o+i*1)=some x:=by
 rcases h with h|⟨b,o,h1,h2⟩
 ·rw[h]at hx;simp at hx
 ·exact⟨b,o,h1,by have:=h2 i _ hx;rwa [Nat.mul_one]⟩
def qCs(q:QS):List Value:=[.int .u64 q.1,.int .u64 q.2.1,.int .u64 q.2.2.1,.int .u64 q.2.2.2]
theorem ZqX{l:List QS}{i:Nat}{q:QS}(h:l[i]?=some q){j:Nat}{v:Value}(hv:(qCs q)[j]?=some v):(Zb4 l)[i*4+j]?=some v:=by
 have hj:j < 4:=by have:=(List.getElem?_eq_some_iff.1 hv).1;simpa[qCs]using this
 induction l generalizing i with
 | nil=>simp at h
 | cons a l ih=>
  show(qCs a++Zb4 l)[i*4+j]?=some v
  cases i with
  | zero=>
   simp at h;subst h
   rw[Nat.zero_mul,Nat.zero_add,List.getElem?_append_left (by simpa[qCs]using hj)];exact hv
  | succ i=>
   rw[List.getElem?_append_right (by simp[qCs];omega)]
   have:=ih (by simpa using h)
   rw[show(i+1)*4+j - (qCs a).length=i*4+j by simp[qCs];omega];exact this
theorem ZkM{m:Mem}{a:Option Addr}{l:List QS}(h:rowRd m a (Zb4 l)){i:Nat}{x:QS}(hx:l[i]?=some x):∃b o,a=some ⟨b,o,none⟩∧m.reads b (o+i*4) [.int .u64 x.1,.int .u64 x.2.1,.int .u64 x.2.2.1,.int .u64 x.2.2.2]:=by
 rcases h with h|⟨b,o,h1,h2⟩
 ·have:=ZqX hx (j:=0) (v:=.int .u64 x.1) rfl
  rw[h]at this;simp at this
 ·refine⟨b,o,h1,fun j v hv=>?_⟩
  have:=h2 _ _ (ZqX hx hv)
  rwa [←Nat.add_assoc]at this
def Zed:List Int→Int→Int→Bool
 | [],_,_=>true
 | p::l,lo,hi=>decide (lo < p)&&(decide (p≤hi)&&Zed l p hi)
def zQ:QS:=(0,0,0,0)
def Nf.top(A:Nf):Int:=(A.sets.length:Int) - 1
def Nf.right(A:Nf):Bool:=
 decide (A.sets.length≤400)&&(decide (A.fol.length=A.sets.length)&&(Zed A.first (-1) A.top&&(Zed A.last (-1) A.top&&((A.fol.zip A.sets).all fun p=>Zed p.1 (-1) A.top&&!(p.2 == zQ)))))
theorem Zdz{l:List Int}:∀{lo hi:Int},Zed l lo hi=true↔(l.Pairwise (· < ·)∧∀x∈l,lo < x∧x≤hi):=by
 induction l with
 | nil=>intro lo hi;simp[Zed]
 | cons p l ih=>
  intro lo hi
  simp only[Zed,Bool.and_eq_true,decide_eq_true_eq,ih,List.pairwise_cons,List.mem_cons,forall_eq_or_imp]
  constructor
  ·rintro⟨h1,h2,h3,h4⟩
   exact⟨⟨fun x hx=>(h4 x hx).1,h3⟩,⟨h1,h2⟩,fun x hx=>⟨Int.lt_trans h1 (h4 x hx).1,(h4 x hx).2⟩⟩
  ·rintro⟨⟨h1,h2⟩,⟨h3,h4⟩,h5⟩
   exact⟨h3,h4,h2,fun x hx=>⟨h1 x hx,(h5 x hx).2⟩⟩
def ZbJ(f:Nat):List Int:=(ZcS f).map fun i:Nat=>(i:Int)
theorem Zee{f:Nat}{x:Int}:x∈ZbJ f↔∃i:Nat,i < 448∧f.testBit i=true∧x=i:=by
 simp only[ZbJ,List.mem_map,ZkK]
 constructor
 ·rintro⟨i,⟨h1,h2⟩,rfl⟩;exact⟨i,h1,h2,rfl⟩
 ·rintro⟨i,h1,h2,rfl⟩;exact⟨i,⟨h1,h2⟩,rfl⟩
theorem ZhX(f:Nat):(ZbJ f).Pairwise (· < ·):=by
 unfold ZbJ
 rw[List.pairwise_map]
 exact(ZhU f).imp (by intro a b h;omega)
theorem Zod(f:Nat):(ZbJ f).length≤448:=by simp[ZbJ,Zoa]
theorem ZpN{f n:Nat}(hn:n≤448)(h:∀i,f.testBit i=true→i < n):Zed (ZbJ f) (-1) ((n:Int) - 1)=true:=by
 rw[Zdz]
 refine⟨ZhX f,fun x hx=>?_⟩
 obtain⟨i,h1,h2,rfl⟩:=Zee.1 hx
 have:=h i h2;omega
def Zu8(r:Pt×Ms):Nf:=⟨r.2.sets,r.2.fol.map ZbJ,ZbJ r.1.first,ZbJ r.1.last,r.1.null⟩
def T.auto(t:T):Nf:=Zu8 (mk t ⟨[],[]⟩)
def T.nfit(t:T):Bool:=t.clean&&(decide (t.size≤120)&&decide (t.positions≤400))
def nf0:Nf:=⟨[],[],[],[],false⟩
def T.ofN(t:T):Nf:=if t.isNone then nf0 else if t.nfit then t.auto else nf0
def T.ofE(t:T):Int:=if t.isNone then 0 else if t.nfit then 0 else 170
end Go.Rx
namespace Go.Rx
open Go Go.Eng Go.RowKit
def Zpd(p:Nat)(cur:List (List Int))(q:Int):List (List Int):=cur.modify q.toNat (fun l=>l++[(p:Int)])
def Zg2(p:Nat)(cur:List (List Int))(l:List Int):List (List Int):=l.foldl (Zpd p) cur
def ZdA:List (List Int)→Nat→List (List Int)→List (List Int)
 | [],_,cur=>cur
 | l::r,p,cur=>ZdA r (p+1) (Zg2 p cur l)
def ZjN(fol:List (List Int)):List (List Int):=ZdA fol 0 (List.replicate fol.length [])
def Nf.turn(A:Nf):Nf:=⟨A.sets,ZjN A.fol,A.last,A.first,A.empty⟩
theorem Zgv(p:Nat)(cur:List (List Int))(q:Int):(Zpd p cur q).length=cur.length:=by simp[Zpd]
theorem ZkN{p:Nat}{cur:List (List Int)}{q:Int}{i:Nat}{l:List Int}(h:cur[i]?=some l):(Zpd p cur q)[i]?=some (if q.toNat=i then l++[(p:Int)]else l):=by
 unfold Zpd
 rw[List.getElem?_modify,h]
 split <;> rfl
theorem Zoe(p:Nat)(l:List Int):∀cur:List (List Int),(Zg2 p cur l).length=cur.length:=by
 induction l with
 | nil=>intro cur;rfl
 | cons q l ih=>intro cur;show(Zg2 p (Zpd p cur q) l).length=_;rw[ih,Zgv]
theorem ZhY:∀(r:List (List Int)) (p:Nat) (cur:List (List Int)),(ZdA r p cur).length=cur.length
 | [],p,cur=>rfl
 | l::r,p,cur=>by rw[ZdA,ZhY,Zoe]
theorem Zgw(fol:List (List Int)):(ZjN fol).length=fol.length:=by simp[ZjN,ZhY]
theorem ZjO{p i:Nat}:∀{l:List Int},l.Pairwise (· < ·)→(∀x∈l,0≤x)→∀{cur:List (List Int)} {c:List Int},cur[i]?=some c→(Zg2 p cur l)[i]?=some (c++if(i:Int)∈l then[(p:Int)]else[])
 | [],_,_,cur,c,h=>by simp[Zg2,h]
 | q::l,hl,hn,cur,c,h=>by
  rw[List.pairwise_cons]at hl
  show(Zg2 p (Zpd p cur q) l)[i]?=_
  rw[ZjO hl.2 (fun x hx=>hn x (by simp[hx])) (ZkN h)]
  have hq:=hn q (by simp)
  by_cases tV:q.toNat=i
  ·have:(i:Int)=q:=by omega
   have qT:(i:Int) ∉ l:=fun hm=>by have:=hl.1 _ hm;omega
   rw[if_pos tV,if_neg qT,if_pos (by simp[this]),List.append_nil]
  ·have:¬(i:Int)=q:=by omega
   rw[if_neg tV]
   simp[this]
theorem ZhZ{i:Nat}:∀{r:List (List Int)} {p:Nat},(∀l∈r,l.Pairwise (· < ·)∧∀x∈l,0≤x)→∀{cur:List (List Int)} {c:List Int},cur[i]?=some c→(ZdA r p cur)[i]?=some (c++(((List.range r.length).filter fun k=>decide ((i:Int)∈(r[k]?).getD [])).map fun k:Nat=>((p+k:Nat):Int)))
 | [],p,_,cur,c,h=>by simp[ZdA,h]
 | l::r,p,hr,cur,c,h=>by
  have h1:=hr l (by simp)
  rw[ZdA,ZhZ (fun l hl=>hr l (by simp[hl])) (ZjO h1.1 h1.2 h),List.length_cons,List.range_succ_eq_map,List.filter_cons,List.append_assoc]
  congr 2
  have e:(List.map Nat.succ (List.range r.length)).filter (fun k=>decide ((i:Int)∈((l::r)[k]?).getD []))=((List.range r.length).filter fun k=>decide ((i:Int)∈(r[k]?).getD [])).map Nat.succ:=by
   rw[List.filter_map];rfl
  rw[e]
  have e2:(((List.range r.length).filter fun k=>decide ((i:Int)∈(r[k]?).getD [])).map Nat.succ).map (fun k:Nat=>((p+k:Nat):Int))=((List.range r.length).filter fun k=>decide ((i:Int)∈(r[k]?).getD [])).map fun k:Nat=>((p+1+k:Nat):Int):=by
   rw[List.map_map];apply List.map_congr_left;intro k _;simp;omega
  by_cases hi:(i:Int)∈l
  ·rw[if_pos hi,if_pos (by simp[hi]),List.map_cons,e2];simp
  ·rw[if_neg hi,if_neg (by simp[hi]),e2];simp
theorem Zsb{fol:List (List Int)}{i:Nat}(hi:i < fol.length)(hr:∀l∈fol,l.Pairwise (· < ·)∧∀x∈l,0≤x):(ZjN fol)[i]?=some (((List.range fol.length).filter fun k=>decide ((i:Int)∈(fol[k]?).getD [])).map fun k:Nat=>(k:Int)):=by
 unfold ZjN
 rw[ZhZ hr (c:=[]) (by simp[hi])]
 simp
theorem Zms{fol:List (List Int)}{i:Nat}{l:List Int}(h:(ZjN fol)[i]?=some l)(hr:∀l∈fol,l.Pairwise (· < ·)∧∀x∈l,0≤x):l.Pairwise (· < ·)∧l.length≤fol.length:=by
 have hi:i < fol.length:=by have:=(List.getElem?_eq_some_iff.1 h).1;rwa [Zgw]at this
 rw[Zsb hi hr]at h
 cases h
 constructor
 ·rw[List.pairwise_map]
  exact((List.pairwise_lt_range (n:=fol.length)).filter _).imp (by intro a b h;omega)
 ·rw[List.length_map];exact Nat.le_trans (List.length_filter_le _ _) (by simp)
structure Nf.Ok (A:Nf):Prop where
 n:A.sets.length≤400
 len:A.fol.length=A.sets.length
 first:A.first.Pairwise (· < ·)∧∀x∈A.first,-1 < x∧x≤A.top
 last:A.last.Pairwise (· < ·)∧∀x∈A.last,-1 < x∧x≤A.top
 fol:∀l∈A.fol,l.Pairwise (· < ·)∧∀x∈l,-1 < x∧x≤A.top
 sets:∀q∈A.sets,q≠zQ
theorem Zg3{A:Nf}:A.right=true↔A.Ok:=by
 unfold Nf.right
 simp only[Bool.and_eq_true,decide_eq_true_eq,List.all_eq_true,Zdz,Bool.not_eq_true',beq_eq_false_iff_ne]
 constructor
 ·rintro⟨h1,h2,h3,h4,h5⟩
  refine⟨h1,h2,h3,h4,fun l hl=>?_,fun q hq=>?_⟩
  ·obtain⟨i,hi⟩:=List.getElem?_of_mem hl
   have bM:=(List.getElem?_eq_some_iff.1 hi).1
   have:(A.fol.zip A.sets)[i]?=some (l,A.sets[i]'(by omega)):=List.getElem?_zip_eq_some.2 ⟨hi,List.getElem?_eq_getElem (by omega)⟩
   exact(h5 _ (List.mem_of_getElem? this)).1
  ·obtain⟨i,hi⟩:=List.getElem?_of_mem hq
   have bM:=(List.getElem?_eq_some_iff.1 hi).1
   have:(A.fol.zip A.sets)[i]?=some (A.fol[i]'(by omega),q):=List.getElem?_zip_eq_some.2 ⟨List.getElem?_eq_getElem (by omega),hi⟩
   exact(h5 _ (List.mem_of_getElem? this)).2
 ·rintro⟨h1,h2,h3,h4,h5,h6⟩
  refine⟨h1,h2,h3,h4,fun p hp=>?_⟩
  obtain⟨l,q⟩:=p
  exact⟨h5 l (List.of_mem_zip hp).1,h6 q (List.of_mem_zip hp).2⟩
theorem Nf.Ok.rows{A:Nf}(h:A.Ok):∀l∈A.fol,l.Pairwise (· < ·)∧∀x∈l,0≤x:=fun l hl=>⟨(h.fol l hl).1,fun x hx=>by have:=((h.fol l hl).2 x hx).1;omega⟩
structure TurnI (base m:Mem)(b:Nat)(F:Nat→Option (Nat×Nat))(cur:List (List Int)):Prop where
 le:base.le m
 fr:base.free b
 cell:∀(q:Nat)(l:List Int),cur[q]?=some l→(F q=none∧l=[]∧m b q=some (.slice none 0 0))∨∃bq c,F q=some (bq,c)∧l≠[]∧l.length≤c∧m b q=some (.slice (some ⟨bq,0,none⟩) l.length c)∧(∀o,o < c→∃v,m bq o=some v)∧m.reads bq 0 (ZaM l)∧base.free bq∧bq≠b
 ne:∀(q q' b0 c c':Nat),F q=some (b0,c)→F q'=some (b0,c')→q=q'
 dom:∀(q:Nat)(x:Nat×Nat),F q=some x→q < cur.length
theorem ZqY{m m':Mem}(h:m.le m'){b:Nat}(hf:m'.free b):m.free b:=fun o=>by
 cases he:m b o with
 | none=>rfl
 | some v=>have:=h _ _ _ he;rw[hf o]at this;cases this
theorem Zof(l r:List Int):ZaM (l++r)=ZaM l++ZaM r:=by simp[ZaM]
theorem TurnI.push{base m:Mem}{b:Nat}{F:Nat→Option (Nat×Nat)}{cur:List (List Int)}(h:TurnI base m b F cur){q:Int}{p:Nat}{l:List Int}(rF:0≤q)(hq:cur[q.toNat]?=some l){a:Option Addr}{c:Nat}(hm:m b q.toNat=some (.slice a l.length c)){m1 m2 M:Mem}(bJ:(m.cutA a (l.length*1)).le m1)
  {a':Option Addr} {c':Nat} (hr:rowRd m2 a' (ZaM l++[.int .i64 (p:Int)])) (hf:TokFact m1 a a' (l.length+1) c') (vm:(m.cutA a (l.length*1)).le M) (fJ:m2.le M) (zs:List Value) (hz:zs.length=(c' - (l.length+1))*1):
  ∃F',TurnI base ((M.upd b q.toNat [.slice a' (l.length+1) c']).addA a' ((l.length+1)*1) zs) b F' (Zpd p cur q):=by
 have rG:=(List.getElem?_eq_some_iff.1 hq).1
 have j6:∀b o,a=some ⟨b,o,none⟩→o=0:=fun b1 o1 e=>by
  rcases h.cell _ _ hq with⟨_,_,h3⟩|⟨bq,c0,_,_,_,h4,_⟩
  ·rw[hm,e]at h3;simp at h3
  ·rw[hm,e]at h4;simp at h4;exact h4.1.2
 obtain⟨hc',gE⟩:=hf.old j6
 rcases hr with hr|⟨b',o',ha',cQ⟩
 ·have:=congrArg List.length hr;simp at this
 rcases gE with rH|⟨b2,il,gk⟩
 ·rw[rH]at ha';cases ha'
 rw[il]at ha'
 simp only[Option.some.injEq,Addr.mk.injEq,and_true]at ha'
 obtain⟨rfl,rfl⟩:=ha'
 subst il
 have gH:∀k o v,m k o=some v→(∀bq c0,F q.toNat=some (bq,c0)→k≠bq)→M k o=some v:=fun k o v hv hk=>by
  refine vm k o v ?_
  unfold Mem.cutA
  split
  ·rename_i k0 o0 s0
   rcases h.cell _ _ hq with⟨_,_,h3⟩|⟨bq,c0,h1,_,_,h4,_⟩
   ·rw[hm]at h3;simp only[Option.some.injEq,Value.slice.injEq]at h3;exact absurd h3.1 (by simp)
   ·rw[hm]at h4
    simp only[Option.some.injEq,Value.slice.injEq,Addr.mk.injEq]at h4
    rw[if_neg (fun hc=>hk bq c0 h1 (hc.1.trans h4.1.1))];exact hv
  ·exact hv
 have hb'k:∀k o v,m k o=some v→(∀bq c0,F q.toNat=some (bq,c0)→k≠bq)→k≠b2:=fun k o v hv hk e=>by
  subst e
  have oF:(m.cutA a (l.length*1)) k o=some v:=by
   unfold Mem.cutA
   split
   ·rename_i k0 o0 s0
    rcases h.cell _ _ hq with⟨_,_,h3⟩|⟨bq,c0,h1,_,_,h4,_⟩
    ·rw[hm]at h3;simp only[Option.some.injEq,Value.slice.injEq]at h3;exact absurd h3.1 (by simp)
    ·rw[hm]at h4
     simp only[Option.some.injEq,Value.slice.injEq,Addr.mk.injEq]at h4
     rw[if_neg (fun hc=>hk bq c0 h1 (hc.1.trans h4.1.1))];exact hv
   ·exact hv
  rcases gk with gk|gk
  ·rcases h.cell _ _ hq with⟨_,_,h3⟩|⟨bq,c0,h1,_,_,h4,_⟩
   ·rw[hm,gk]at h3;simp only[Option.some.injEq,Value.slice.injEq]at h3;exact absurd h3.1 (by simp)
   ·rw[hm,gk]at h4
    simp only[Option.some.injEq,Value.slice.injEq,Addr.mk.injEq]at h4
    exact hk bq c0 h1 h4.1.1
  ·have:=bJ _ _ _ oF
   rw[gk o]at this;cases this
 have nr:∀q' x,cur[q']?=some x→∃v,m b q'=some v:=fun q' x hx=>by
  rcases h.cell _ _ hx with⟨_,_,h3⟩|⟨_,_,_,_,_,h4,_⟩
  ·exact⟨_,h3⟩
  ·exact⟨_,h4⟩
 have rI:∀bq c0,F q.toNat=some (bq,c0)→b≠bq:=fun bq c0 h1 e=>by
  rcases h.cell _ _ hq with⟨h3,_,_⟩|⟨bq',c0',h1',_,_,_,_,_,_,h8⟩
  ·rw[h3]at h1;cases h1
  ·rw[h1]at h1';cases h1';exact h8 e.symm
 have gD:b≠b2:=by
  obtain⟨v,hv⟩:=nr _ _ hq
  exact hb'k b _ v hv rI
 let N:=(M.upd b q.toNat [.slice (some ⟨b2,0,none⟩) (l.length+1) c']).addA (some ⟨b2,0,none⟩) ((l.length+1)*1) zs
 have hN:∀k o,k≠b2→(k≠b∨o≠q.toNat)→N k o=M k o:=fun k o hk vn=>by
  show Mem.addAt _ b2 _ zs k o=_
  unfold Mem.addAt
  rw[if_neg (fun hc=>hk hc.1)]
  unfold Mem.upd
  rw[if_neg]
  rintro⟨e1,e2,e3⟩
  simp at e3
  rcases vn with h|h
  ·exact h e1
  ·omega
 have pX:N b q.toNat=some (.slice (some ⟨b2,0,none⟩) (l.length+1) c'):=by
  show Mem.addAt _ b2 _ zs b q.toNat=_
  unfold Mem.addAt
  rw[if_neg (fun hc=>gD hc.1)]
  unfold Mem.upd
  rw[if_pos ⟨rfl,Nat.le_refl _,by simp⟩];simp
 have mu:base.free b2:=by
  rcases gk with gk|gk
  ·rcases h.cell _ _ hq with⟨_,_,h3⟩|⟨bq,c0,h1,_,_,h4,_,_,h7,_⟩
   ·rw[hm,gk]at h3;simp only[Option.some.injEq,Value.slice.injEq]at h3;exact absurd h3.1 (by simp)
   ·rw[hm,gk]at h4
    simp only[Option.some.injEq,Value.slice.injEq,Addr.mk.injEq]at h4
    rw[h4.1.1];exact h7
  ·intro o
   cases he:base b2 o with
   | none=>rfl
   | some v=>
    exfalso
    refine hb'k b2 o v (h.le _ _ _ he) (fun bq c0 h1 e=>?_) rfl
    rcases h.cell _ _ hq with⟨h3,_,_⟩|⟨bq',c0',h1',_,_,_,_,_,h7,_⟩
    ·rw[h3]at h1;cases h1
    ·rw[h1]at h1';cases h1'
     rw[e,h7 o]at he;cases he
 refine⟨fun i=>if i=q.toNat then some (b2,c')else F i,?_⟩
 show TurnI base N b _ _
 refine⟨fun k o v hv=>?_,h.fr,fun i x hx=>?_,fun i i' b0 c0 c0' h1 h2=>?_,fun i x hx=>?_⟩
 ·have gA:k≠b2:=fun e=>by subst e;rw[mu o]at hv;cases hv
  have iT:k≠b:=fun e=>by subst e;rw[h.fr o]at hv;cases hv
  rw[hN k o gA (.inl iT)]
  refine gH k o v (h.le _ _ _ hv) fun bq c0 h1 e=>?_
  rcases h.cell _ _ hq with⟨h3,_,_⟩|⟨bq',c0',h1',_,_,_,_,_,h7,_⟩
  ·rw[h3]at h1;cases h1
  ·rw[h1]at h1';cases h1'
   rw[e,h7 o]at hv;cases hv
 ·have rJ:i < cur.length:=by have:=(List.getElem?_eq_some_iff.1 hx).1;rwa [Zgv]at this
  obtain⟨y,hy⟩:∃y,cur[i]?=some y:=⟨_,List.getElem?_eq_getElem rJ⟩
  rw[ZkN hy]at hx
  by_cases hi:i=q.toNat
  ·subst hi
   rw[hq]at hy;cases hy
   rw[if_pos rfl]at hx;cases hx
   refine .inr ⟨b2,c',by simp,by simp,by simpa using hc',by rw[List.length_append];exact pX,fun o ho=>?_,fun j v hj=>?_,mu,gD.symm⟩
   ·show ∃v,Mem.addAt _ b2 _ zs b2 o=some v
    unfold Mem.addAt
    by_cases tW:0+(l.length+1)*1≤o
    ·rw[if_pos ⟨rfl,tW⟩]
     have:o - (0+(l.length+1)*1) < zs.length:=by omega
     rw[List.getElem?_eq_getElem this];exact⟨_,rfl⟩
    ·rw[if_neg (fun hc=>tW hc.2)]
     have hv:=cQ o ((ZaM l++[.int .i64 (p:Int)])[o]'(by simp[Zec];omega)) (List.getElem?_eq_getElem _)
     rw[Nat.zero_add]at hv
     rw[Mem.upd_other _ gD.symm]
     exact⟨_,fJ _ _ _ hv⟩
   ·show Mem.addAt _ b2 _ zs b2 (0+j)=some v
    have vo:=(List.getElem?_eq_some_iff.1 hj).1
    rw[Zec,List.length_append,List.length_singleton]at vo
    unfold Mem.addAt
    rw[if_neg (by omega),Mem.upd_other _ gD.symm]
    rw[Zof]at hj
    exact fJ _ _ _ (cQ j v hj)
  ·rw[if_neg (fun e=>hi e.symm)]at hx
   obtain rfl:y=x:=Option.some.inj hx
   have oG:∀x,F i=some x→∀bq c0,F q.toNat=some (bq,c0)→x.1≠bq:=fun x h1 bq c0 h2 e=>by
    obtain⟨x1,x2⟩:=x
    simp only at e;subst e
    exact hi (h.ne _ _ _ _ _ h1 h2)
   rcases h.cell _ _ hy with⟨h1,h2,h3⟩|⟨bq,c0,h1,h2,h3,h4,h5,h6,h7,h8⟩
   ·refine .inl ⟨by simp only[if_neg hi];exact h1,h2,?_⟩
    rw[hN b i gD (.inr hi)]
    exact gH _ _ _ h3 rI
   ·have hk:∀bq' c0',F q.toNat=some (bq',c0')→bq≠bq':=fun bq' c0' h=>oG _ h1 bq' c0' h
    have gA:bq≠b2:=by
     cases y with
     | nil=>exact absurd rfl h2
     | cons z y=>
      have:=h6 0 (.int .i64 z) rfl
      exact hb'k _ _ _ this hk
    refine .inr ⟨bq,c0,by simp only[if_neg hi];exact h1,h2,h3,?_,fun o ho=>?_,fun j v hj=>?_,h7,h8⟩
    ·rw[hN b i gD (.inr hi)];exact gH _ _ _ h4 rI
    ·obtain⟨v,hv⟩:=h5 o ho
     exact⟨v,by rw[hN bq o gA (.inl h8)];exact gH _ _ _ hv hk⟩
    ·rw[hN bq _ gA (.inl h8)];exact gH _ _ _ (h6 j v hj) hk
 ·have key:∀j c1,F j=some (b2,c1)→j=q.toNat:=fun j c1 hj=>by
   have j7:=h.dom _ _ hj
   rcases h.cell j _ (List.getElem?_eq_getElem j7)with⟨h3,_,_⟩|⟨bq,c0,g1,g2,_,_,_,g6,_,_⟩
   ·rw[h3]at hj;cases hj
   ·rw[hj]at g1;cases g1
    cases oG:F q.toNat with
    | none=>
     exfalso
     have:∃z y,cur[j]'j7=z::y:=by
      cases hc:cur[j]'j7 with
      | nil=>exact absurd hc g2
      | cons z y=>exact⟨z,y,rfl⟩
     obtain⟨z,y,rK⟩:=this
     have hv:=g6 0 (.int .i64 z) (by rw[rK];rfl)
     exact hb'k _ _ _ hv (fun bq c0 h1=>by rw[oG]at h1;cases h1) rfl
    | some x=>
     obtain⟨x1,x2⟩:=x
     by_cases jg:x1=b2
     ·subst jg;exact h.ne _ _ _ _ _ hj oG
     ·exfalso
      have:∃z y,cur[j]'j7=z::y:=by
       cases hc:cur[j]'j7 with
       | nil=>exact absurd hc g2
       | cons z y=>exact⟨z,y,rfl⟩
      obtain⟨z,y,rK⟩:=this
      have hv:=g6 0 (.int .i64 z) (by rw[rK];rfl)
      exact hb'k _ _ _ hv (fun bq c0 h1 e=>by rw[oG]at h1;cases h1;exact jg e.symm) rfl
  split at h1 <;> split at h2
  ·omega
  ·simp only[Option.some.injEq,Prod.mk.injEq]at h1
   rw[←h1.1]at h2
   have:=key _ _ h2;omega
  ·simp only[Option.some.injEq,Prod.mk.injEq]at h2
   rw[←h2.1]at h1
   have:=key _ _ h1;omega
  ·exact h.ne _ _ _ _ _ h1 h2
 ·rw[Zgv]
  split at hx
  ·omega
  ·exact h.dom _ _ hx
end Go.Rx
namespace Go.Rx
open Go Go.Eng Go.RowKit
def Zu9(q:QS):T:=.node 2 q.1 q.2.1 q.2.2.1 q.2.2.2 0 0 none 0 []
def Zw7(q:QS)(c:Nat):Bool:=(Zu9 q).hasB c
def QOk(q:QS):Prop:=(0≤q.1∧q.1 < 18446744073709551616)∧(0≤q.2.1∧q.2.1 < 18446744073709551616)∧(0≤q.2.2.1∧q.2.2.1 < 18446744073709551616)∧(0≤q.2.2.2∧q.2.2.2 < 18446744073709551616)
theorem Zxj{q:QS}(h:QOk q)(m:Mem):Rep m (Zu9 q):=by
 simp only[Zu9,Rep]
 exact⟨by simp,.inl trivial,⟨by omega,h.1,h.2.1,h.2.2.1,h.2.2.2,by omega,by omega⟩⟩
def Zv7(l:List Int)(f:Nat):Nat:=l.foldl (fun f p=>f|||2 ^ p.toNat) f
def Nf.fromL(A:Nf)(p:Int):List Int:=if p=-1 then A.first else(A.fol[p.toNat]?).getD []
def Nf.hasAt(A:Nf)(q:Int)(c:Nat):Bool:=Zw7 ((A.sets[q.toNat]?).getD zQ) c
def Nf.step1(A:Nf)(c:Nat)(f:Nat)(q:Int):Nat:=if A.hasAt q c then f|||2 ^ q.toNat else f
def Nf.stepM(A:Nf)(l:List Int)(c:Nat)(f:Nat):Nat:=l.foldl (fun f p=>(A.fromL p).foldl (A.step1 c) f) f
def Nf.step(A:Nf)(l:List Int)(c:Nat):List Int:=ZbJ (A.stepM l c 0)
def Nf.acc1(A:Nf)(p:Int):Bool:=if p=-1 then A.empty else(Zv7 A.last 0).testBit p.toNat
def Nf.accepts(A:Nf)(l:List Int):Bool:=l.any A.acc1
def Nf.states(A:Nf)(l:List Int):Bool:=Zed l (-2) A.top
theorem ZlP{A:Nf}{l:List Int}(h:A.states l=true):∀p∈l,-1≤p∧p≤A.top:=fun p hp=>by
 have:=(Zdz.1 h).2 p hp;omega
theorem ZqZ:∀(l:List Int)(f i:Nat),(∀p∈l,0≤p)→((Zv7 l f).testBit i=true↔f.testBit i=true∨(i:Int)∈l)
 | [],f,i,_=>by simp[Zv7]
 | p::l,f,i,h=>by
  have hp:=h p (by simp)
  show(Zv7 l (f|||2 ^ p.toNat)).testBit i=true↔_
  rw[ZqZ l _ i (fun p hp=>h p (by simp[hp]))]
  simp only[Nat.testBit_or,Bool.or_eq_true,Nat.testBit_two_pow,decide_eq_true_eq,List.mem_cons]
  have:p.toNat=i↔(i:Int)=p:=by omega
  rw[this,or_assoc]
theorem ZlQ{A:Nf}{c:Nat}:∀(l:List Int)(f i:Nat),(∀p∈l,0≤p)→((l.foldl (A.step1 c) f).testBit i=true↔f.testBit i=true∨((i:Int)∈l∧A.hasAt i c=true))
 | [],f,i,_=>by simp
 | p::l,f,i,h=>by
  have hp:=h p (by simp)
  rw[List.foldl_cons,ZlQ l _ i (fun p hp=>h p (by simp[hp]))]
  have e:p.toNat=i↔(i:Int)=p:=by omega
  unfold Nf.step1
  by_cases hh:A.hasAt p c=true
  ·rw[if_pos hh]
   simp only[Nat.testBit_or,Bool.or_eq_true,Nat.testBit_two_pow,decide_eq_true_eq,List.mem_cons,e]
   constructor
   ·rintro((h1|h1)|h1)
    ·exact .inl h1
    ·exact .inr ⟨.inl h1,by rw[h1];exact hh⟩
    ·exact .inr ⟨.inr h1.1,h1.2⟩
   ·rintro(h1|⟨h1|h1,h2⟩)
    ·exact .inl (.inl h1)
    ·exact .inl (.inr h1)
    ·exact .inr ⟨h1,h2⟩
  ·rw[if_neg hh]
   constructor
   ·rintro(h1|h1)
    ·exact .inl h1
    ·exact .inr ⟨by simp[h1.1],h1.2⟩
   ·rintro(h1|⟨h1,h2⟩)
    ·exact .inl h1
    ·rcases List.mem_cons.1 h1 with h1|h1
     ·rw[h1]at h2;exact absurd h2 hh
     ·exact .inr ⟨h1,h2⟩
theorem Zh0{A:Nf}(h:A.Ok)(p:Int):(A.fromL p).Pairwise (· < ·)∧∀x∈A.fromL p,-1 < x∧x≤A.top:=by
 unfold Nf.fromL
 split
 ·exact h.first
 ·cases hl:A.fol[p.toNat]? with
  | none=>exact⟨by simp,by simp⟩
  | some l=>exact h.fol l (List.mem_of_getElem? hl)
theorem ZiN{A:Nf}(hA:A.Ok){c:Nat}:∀(l:List Int)(f i:Nat),((A.stepM l c f).testBit i=true↔f.testBit i=true∨((∃p∈l,(i:Int)∈A.fromL p)∧A.hasAt i c=true))
 | [],f,i=>by simp[Nf.stepM]
 | p::l,f,i=>by
  show(A.stepM l c ((A.fromL p).foldl (A.step1 c) f)).testBit i=true↔_
  rw[ZiN hA l,ZlQ _ _ _ (fun x hx=>by have:=(Zh0 hA p).2 x hx;omega)]
  constructor
  ·rintro((h1|h1)|⟨⟨q,h1,h2⟩,h3⟩)
   ·exact .inl h1
   ·exact .inr ⟨⟨p,by simp,h1.1⟩,h1.2⟩
   ·exact .inr ⟨⟨q,by simp[h1],h2⟩,h3⟩
  ·rintro(h1|⟨⟨q,h1,h2⟩,h3⟩)
   ·exact .inl (.inl h1)
   ·rcases List.mem_cons.1 h1 with h1|h1
    ·subst h1;exact .inl (.inr ⟨h2,h3⟩)
    ·exact .inr ⟨⟨q,h1,h2⟩,h3⟩
theorem ZkO{A:Nf}(hA:A.Ok){l:List Int}{c:Nat}{x:Int}:x∈A.step l c↔0≤x∧(∃p∈l,x∈A.fromL p)∧A.hasAt x c=true:=by
 unfold Nf.step
 rw[Zee]
 constructor
 ·rintro⟨i,h1,h2,rfl⟩
  have:=(ZiN hA l 0 i).1 h2
  simp at this
  exact⟨by omega,this.1,this.2⟩
 ·rintro⟨h0,⟨p,h1,h2⟩,h3⟩
  have hb:=(Zh0 hA p).2 x h2
  have hn:=hA.n
  unfold Nf.top at hb
  refine⟨x.toNat,by omega,?_,by omega⟩
  rw[ZiN hA]
  refine .inr ⟨⟨p,h1,?_⟩,?_⟩
  ·rw[show((x.toNat:Nat):Int)=x by omega];exact h2
  ·rw[show((x.toNat:Nat):Int)=x by omega];exact h3
theorem ZjP{A:Nf}(hA:A.Ok)(l:List Int)(c:Nat):A.states (A.step l c)=true:=by
 unfold Nf.states
 rw[Zdz]
 refine⟨ZhX _,fun x hx=>?_⟩
 obtain⟨h0,⟨p,_,h2⟩,_⟩:=(ZkO hA).1 hx
 have:=(Zh0 hA p).2 x h2
 omega
def Nf.next(A:Nf)(again:Bool)(l:List Int)(c:Nat):List Int:=if again then -1::A.step l c else A.step l c
def Nf.runL{S:Type}(A:Nf)(again:Bool)(st:S→Nat→List Int→S):List Nat→Nat→List Int→S→S
 | [],_,_,s=>s
 | c::bs,i,l,s=>A.runL again st bs (i+1) (A.next again l c) (st s (i+1) (A.next again l c))
theorem Zog{A:Nf}(hA:A.Ok)(again:Bool)(l:List Int)(c:Nat):A.states (A.next again l c)=true:=by
 unfold Nf.next
 have h:=ZjP hA l c
 split
 ·unfold Nf.states at h ⊢
  rw[Zdz]at h ⊢
  refine⟨?_,fun x hx=>?_⟩
  ·rw[List.pairwise_cons]
   refine⟨fun x hx=>?_,h.1⟩
   obtain⟨h0,_⟩:=(ZkO hA).1 hx
   omega
  ·rcases List.mem_cons.1 hx with rfl|hx
   ·exact⟨by omega,by unfold Nf.top;omega⟩
   ·exact h.2 x hx
 ·exact h
def Nf.run(A:Nf)(b:List Nat)(l:List Int):List Int:=b.foldl (fun l c=>A.step l c) l
def Nf.matches(A:Nf)(b:List Nat):Bool:=A.accepts (A.run b [-1])
def Nf.search(A:Nf)(b:List Nat):List Int:=A.runL true (fun s n l=>if A.accepts l then s++[(n:Int)]else s) b 0 [-1] (if A.accepts [-1]then[0]else[])
theorem Zq0(A:Nf):∀(b:List Nat)(i:Nat)(l:List Int),A.runL false (fun _ _ l=>l) b i l l=A.run b l
 | [],i,l=>rfl
 | c::b,i,l=>by rw[Nf.runL,Zq0 A b];rfl
theorem ZlR{A:Nf}(hA:A.Ok):∀(b:List Nat)(l:List Int),A.states l=true→A.states (A.run b l)=true
 | [],l,h=>h
 | c::b,l,h=>ZlR hA b _ (ZjP hA l c)
theorem Zmt(A:Nf):A.states [-1]=true:=by
 unfold Nf.states
 rw[Zdz]
 exact⟨by simp,fun x hx=>by rw[List.mem_singleton]at hx;subst hx;unfold Nf.top;omega⟩
def Nf.err(A:Nf)(l:List Int):Int:=if A.right=false then 171 else if A.states l=false then 172 else 0
def Nf.runE(A:Nf)(n:Nat):Int:=if A.right=false then 171 else if 4096 < n then 3 else 0
inductive Nf.Reach (A:Nf):Nat→Prop
 | first {p:Nat} (h:(p:Int)∈A.first):A.Reach p
 | fol {p q:Nat} {l:List Int} (h:A.Reach p) (hl:A.fol[p]?=some l) (hq:(q:Int)∈l):A.Reach q
end Go.Rx
namespace Go.Rx
open Go Go.Eng Go.RowKit
structure Seek (A:Nf)(todo:List Int)(f:Nat):Prop where
 rng:∀x∈todo,0≤x∧x≤A.top∧A.Reach x.toNat
 in_:∀i,f.testBit i=true→A.Reach i
 first:∀x∈A.first,x∈todo∨f.testBit x.toNat=true
 fol:∀(i:Nat)(l:List Int),f.testBit i=true→A.fol[i]?=some l→∀x∈l,x∈todo∨f.testBit x.toNat=true
theorem Seek.start{A:Nf}(hA:A.Ok):Seek A A.first 0:=by
 refine⟨fun x hx=>?_,fun i hi=>by simp at hi,fun x hx=>.inl hx,fun i l hi=>by simp at hi⟩
 have:=hA.first.2 x hx
 exact⟨by omega,this.2,.first (by rw[show((x.toNat:Nat):Int)=x by omega];exact hx)⟩
theorem Seek.skip{A:Nf}{x:Int}{todo:List Int}{f:Nat}(h:Seek A (x::todo) f)(hx:f.testBit x.toNat=true):Seek A todo f:=by
 refine⟨fun y hy=>h.rng y (by simp[hy]),h.in_,fun y hy=>?_,fun i l hi hl y hy=>?_⟩
 ·rcases h.first y hy with h1|h1
  ·rcases List.mem_cons.1 h1 with rfl|h1
   ·exact .inr hx
   ·exact .inl h1
  ·exact .inr h1
 ·rcases h.fol i l hi hl y hy with h1|h1
  ·rcases List.mem_cons.1 h1 with rfl|h1
   ·exact .inr hx
   ·exact .inl h1
  ·exact .inr h1
theorem Seek.take{A:Nf}(hA:A.Ok){x:Int}{todo l:List Int}{f:Nat}(h:Seek A (x::todo) f)(hl:A.fol[x.toNat]?=some l):Seek A (todo++l) (f|||2 ^ x.toNat):=by
 have hx:=h.rng x (by simp)
 have fU:∀i,(f|||2 ^ x.toNat).testBit i=true↔f.testBit i=true∨i=x.toNat:=fun i=>by
  simp only[Nat.testBit_or,Bool.or_eq_true,Nat.testBit_two_pow,decide_eq_true_eq]
  exact⟨fun h=>h.imp_right Eq.symm,fun h=>h.imp_right Eq.symm⟩
 refine⟨fun y hy=>?_,fun i hi=>?_,fun y hy=>?_,fun i r hi hr y hy=>?_⟩
 ·rcases List.mem_append.1 hy with hy|hy
  ·exact h.rng y (by simp[hy])
  ·have hb:=(hA.fol l (List.mem_of_getElem? hl)).2 y hy
   exact⟨by omega,hb.2,.fol hx.2.2 hl (by rw[show((y.toNat:Nat):Int)=y by omega];exact hy)⟩
 ·rcases(fU i).1 hi with h1|rfl
  ·exact h.in_ i h1
  ·exact hx.2.2
 ·rcases h.first y hy with h1|h1
  ·rcases List.mem_cons.1 h1 with rfl|h1
   ·exact .inr ((fU _).2 (.inr rfl))
   ·exact .inl (by simp[h1])
  ·exact .inr ((fU _).2 (.inl h1))
 ·rcases(fU i).1 hi with h1|rfl
  ·rcases h.fol i r h1 hr y hy with h2|h2
   ·rcases List.mem_cons.1 h2 with rfl|h2
    ·exact .inr ((fU _).2 (.inr rfl))
    ·exact .inl (by simp[h2])
   ·exact .inr ((fU _).2 (.inl h2))
  ·rw[hl]at hr;cases hr
   exact .inl (by simp[hy])
theorem Seek.done{A:Nf}(hA:A.Ok){f:Nat}(h:Seek A [] f)(i:Nat):f.testBit i=true↔A.Reach i:=by
 refine⟨h.in_ i,fun hr=>?_⟩
 induction hr with
 | first hp=>
  rcases h.first _ hp with h1|h1
  ·simp at h1
  ·simpa using h1
 | fol _ hl hq ih=>
  rcases h.fol _ _ ih hl _ hq with h1|h1
  ·simp at h1
  ·simpa using h1
end Go.Rx
namespace Go.Rx
open Go Go.Eng Go.RowKit
def Src(l:List T)(s:Ms)(r:Pt×Ms):Prop:=∀q∈r.2.sets,q∈s.sets∨∃x∈l,x.k=2∧q=(x.s0,x.s1,x.s2,x.s3)
theorem Src.refl(l:List T)(s:Ms)(p:Pt):Src l s (p,s):=fun q hq=>.inl hq
theorem Src.mono{l l':List T}{s:Ms}{r:Pt×Ms}(h:Src l s r)(hl:∀x∈l,x∈l'):Src l' s r:=fun q hq=>(h q hq).imp_right fun⟨x,h1,h2⟩=>⟨x,hl x h1,h2⟩
theorem Src.trans{l:List T}{s s1:Ms}{p:Pt}{r:Pt×Ms}(h:Src l s (p,s1))(k:Src l s1 r):Src l s r:=fun q hq=>by
 rcases k q hq with h1|h1
 ·exact h q h1
 ·exact .inr h1
theorem Zq1{f:Ms→Pt×Ms}{l:List T}(hf:∀s,Src l s (f s))(mn mx:Int)(n:Nat):∀(q i:Nat)(out:Pt)(s:Ms),Src l s (Zht f mn mx n q i out s)
 | 0,i,out,s=>Src.refl _ _ _
 | q+1,i,out,s=>by
  unfold Zht
  simp only
  generalize gj:(if mx=-1∧i+1=n then(⟨(f s).2.sets,ZbV (f s).2.fol (f s).1.last (f s).1.first⟩:Ms)else(f s).2)=s2
  have e:s2.sets=(f s).2.sets:=by rw[←gj];split <;> rfl
  have h1:Src l s (out,s2):=fun q hq=>hf s q (by rw[←e];exact hq)
  refine h1.trans (fun q hq=>?_)
  have:=Zq1 hf mn mx n _ _ _ _ q hq
  exact this
mutual
theorem ZpO:∀(t:T)(s:Ms),Src t.nodes s (mk t s)
 | .node k s0 s1 s2 s3 mn mx a c l,s=>by
  unfold mk
  split
  ·exact Src.refl _ _ _
  split
  ·exact Src.refl _ _ _
  split
  ·rename_i hk
   intro q hq
   simp only[List.mem_append,List.mem_singleton]at hq
   rcases hq with hq|rfl
   ·exact .inl hq
   ·exact .inr ⟨.node k s0 s1 s2 s3 mn mx a c l,by rw[Za4];simp,hk,rfl⟩
  split
  ·exact(Zoh l _ s).mono (fun x hx=>by rw[Za4];exact List.mem_cons_of_mem _ hx)
  split
  ·exact(Zoi l _ s).mono (fun x hx=>by rw[Za4];exact List.mem_cons_of_mem _ hx)
  split
  ·exact(Zq1 (fun s=>Zq2 l s) _ _ _ _ _ _ _).mono (fun x hx=>by rw[Za4];exact List.mem_cons_of_mem _ hx)
  ·exact(Zq2 l s).mono (fun x hx=>by rw[Za4];exact List.mem_cons_of_mem _ hx)
theorem Zq2:∀(l:List T)(s:Ms),Src (Zax l) s (Zhj l s)
 | [],s=>by unfold Zhj;exact Src.refl _ _ _
 | t::l,s=>by unfold Zhj;exact(ZpO t s).mono (fun x hx=>by simp[Zax,hx])
theorem Zoh:∀(l:List T)(out:Pt)(s:Ms),Src (Zax l) s (Zc1 l out s)
 | [],out,s=>by unfold Zc1;exact Src.refl _ _ _
 | t::l,out,s=>by
  unfold Zc1
  have h1:Src (Zax (t::l)) s (mk t s):=(ZpO t s).mono (fun x hx=>by simp[Zax,hx])
  have h2:Src (Zax (t::l)) s (out,(Zcc out (mk t s).1 (mk t s).2).2):=h1
  exact h2.trans ((Zoh l _ _).mono (fun x hx=>by simp[Zax,hx]))
theorem Zoi:∀(l:List T)(out:Pt)(s:Ms),Src (Zax l) s (ZcJ l out s)
 | [],out,s=>by unfold ZcJ;exact Src.refl _ _ _
 | t::l,out,s=>by
  unfold ZcJ
  have h1:Src (Zax (t::l)) s (mk t s):=(ZpO t s).mono (fun x hx=>by simp[Zax,hx])
  have h2:Src (Zax (t::l)) s (out,(mk t s).2):=h1
  exact h2.trans ((Zoi l _ _).mono (fun x hx=>by simp[Zax,hx]))
end
theorem Zfj{t:T}(h:t.nfit=true):t.light=true∧(∀x∈t.nodes,x.right=true)∧t.pos≤400:=by
 unfold T.nfit at h
 simp only[Bool.and_eq_true,decide_eq_true_eq]at h
 obtain⟨hc,_,hp⟩:=h
 unfold T.clean at hc
 simp only[Bool.and_eq_true,List.all_eq_true]at hc
 refine⟨hc.1,hc.2,?_⟩
 unfold T.positions at hp
 rw[hc.1]at hp;simpa using hp
theorem Zsc{t:T}(h:t.nfit=true):(t.auto.sets.length:Int)=t.pos:=by
 obtain⟨_,h1,h2⟩:=Zfj h
 have:=ZiM t h1 (by omega) ⟨[],[]⟩
 have h3:=(Zgn t).1
 show((mk t ⟨[],[]⟩).2.sets.length:Int)=_
 rw[this];simp;omega
theorem Zoj{t:T}(h:t.nfit=true):t.auto.Ok:=by
 obtain⟨_,h1,h2⟩:=Zfj h
 have hc:=Zsc h
 have hg:=Zd1 t ⟨[],[]⟩ ⟨rfl,fun j x hj=>by simp at hj⟩
 have hn:t.auto.sets.length≤400:=by omega
 have hn':(mk t ⟨[],[]⟩).2.sets.length≤400:=hn
 have hl:t.auto.fol.length=t.auto.sets.length:=by
  show((mk t ⟨[],[]⟩).2.fol.map ZbJ).length=_
  rw[List.length_map];exact hg.ok.len
 have j8:∀f:Nat,(∀i,f.testBit i=true→i < (mk t ⟨[],[]⟩).2.sets.length)→(ZbJ f).Pairwise (· < ·)∧∀x∈ZbJ f,-1 < x∧x≤t.auto.top:=fun f hf=>by
  have:=ZpN (f:=f) (n:=t.auto.sets.length) (by omega) hf
  rw[Zdz]at this
  exact this
 refine⟨hn,hl,j8 _ hg.pt.1,j8 _ hg.pt.2,fun l hl=>?_,fun q hq e=>?_⟩
 ·obtain⟨f,hf,rfl⟩:=List.mem_map.1 (show l∈(mk t ⟨[],[]⟩).2.fol.map ZbJ from hl)
  obtain⟨j,hj⟩:=List.getElem?_of_mem hf
  exact j8 f (hg.ok.fol j f hj)
 ·rcases ZpO t ⟨[],[]⟩ q hq with h3|⟨x,hx,hk,rfl⟩
  ·simp at h3
  ·have hr:=ZdQ (h1 x hx)
   rw[hk]at hr
   have hz:x.setZ=false:=by
    rcases hr with h4|h4|h4|h4|h4|h4
    ·omega
    ·exact h4.2.2
    ·omega
    ·omega
    ·omega
    ·omega
   unfold zQ at e
   simp only[Prod.mk.injEq]at e
   unfold T.setZ at hz
   rw[e.1,e.2.1,e.2.2.1,e.2.2.2]at hz;simp at hz
theorem ZiO{t:T}(h:t.nfit=true):t.auto.right=true:=Zg3.2 (Zoj h)
theorem ZtW{t:T}{m:Mem}(h:Rep m t):∀q∈t.auto.sets,QOk q:=fun q hq=>by
 rcases ZpO t ⟨[],[]⟩ q hq with h3|⟨x,hx,hk,rfl⟩
 ·simp at h3
 ·have:=ZtP (ZnZ h hx)
  exact⟨this.s0,this.s1,this.s2,this.s3⟩
theorem ZbK{t:T}(h:t.check=0):t.nfit=true∧t.isNone=false:=by
 unfold T.check at h
 have hc:t.clean=true:=by
  cases hc:t.clean with
  | true=>rfl
  | false=>rw[hc]at h;simp at h
 rw[if_neg (by rw[hc];simp)]at h
 by_cases hs:t.size > 120
 ·rw[if_pos hs]at h;omega
 rw[if_neg hs]at h
 by_cases hp:t.positions > 400
 ·rw[if_pos hp]at h;omega
 refine⟨by unfold T.nfit;rw[hc];simp;omega,?_⟩
 have hr:t.right=true:=by
  unfold T.clean at hc
  simp only[Bool.and_eq_true,List.all_eq_true]at hc
  exact hc.2 t (by rw[Za4];simp)
 unfold T.isNone
 rcases ZdQ hr with h1|h1|h1|h1|h1|h1
 ·rw[h1.1];rfl
 ·rw[h1.1];rfl
 ·rw[h1];rfl
 ·rw[h1];rfl
 ·rw[h1.1];rfl
 ·rw[h1.1];rfl
theorem Zfk{t:T}(h:t.check=0):t.ofN=t.auto∧t.ofE=0:=by
 obtain⟨h1,h2⟩:=ZbK h
 unfold T.ofN T.ofE
 rw[h1,h2];exact⟨rfl,rfl⟩
end Go.Rx
namespace Go.Rx
open Go Go.Eng Go.RowKit
set_option maxRecDepth 100000
theorem Zg4{t:T}(h:t.good=true):t.right=true∧∀x∈t.subs,x.good=true:=by
 rw[ZlK,Bool.and_eq_true,List.all_eq_true]at h;exact h
theorem Zta{t:T}(h:t.right=true):t.k=1∨t.k=2∨t.k=3∨t.k=4∨(t.k=5∧(∃x,t.subs=[x])∧0≤t.mn∧t.mn≤16∧(t.mx=-1∨(1≤t.mx∧t.mn≤t.mx∧t.mx≤16)))∨(t.k=6∧∃x,t.subs=[x]):=by
 have one:(t.subs.length == 1)=true→∃x,t.subs=[x]:=fun e=>by
  have:t.subs.length=1:=by simpa using e
  match dC:t.subs,this with
  | [x],_=>exact⟨x,rfl⟩
 unfold T.right at h
 rw[Bool.and_eq_true]at h
 have h:=h.2
 by_cases h1:t.k=1
 ·exact .inl h1
 by_cases h2:t.k=2
 ·exact .inr (.inl h2)
 by_cases h3:t.k=3
 ·exact .inr (.inr (.inl h3))
 by_cases h4:t.k=4
 ·exact .inr (.inr (.inr (.inl h4)))
 by_cases h5:t.k=5
 ·rw[if_neg h1,if_neg h2,if_neg h3,if_neg h4,if_pos h5]at h
  rw[Bool.and_eq_true,Bool.and_eq_true]at h
  obtain⟨a,b,_⟩:=h
  unfold Zcm at b
  simp at b
  exact .inr (.inr (.inr (.inr (.inl ⟨h5,one a,by omega,by omega,by omega⟩))))
 ·rw[if_neg h1,if_neg h2,if_neg h3,if_neg h4,if_neg h5,Bool.and_eq_true]at h
  exact .inr (.inr (.inr (.inr (.inr ⟨by simpa using h.1,one h.2⟩))))
mutual
def T.er:T→T
 | .node k s0 s1 s2 s3 mn mx _ _ l=>.node k s0 s1 s2 s3 mn mx none 0 (erL l)
def erL:List T→List T
 | []=>[]
 | t::l=>t.er::erL l
end
theorem Zq3:∀l:List T,erL l=l.map T.er
 | []=>rfl
 | t::l=>by simp only[erL,List.map_cons,Zq3 l]
@[simp] theorem Zx1 (t:T):t.er.k=t.k:=by cases t;rfl
@[simp] theorem Zxk (t:T):t.er.s0=t.s0:=by cases t;rfl
@[simp] theorem Zxl (t:T):t.er.s1=t.s1:=by cases t;rfl
@[simp] theorem Zxm (t:T):t.er.s2=t.s2:=by cases t;rfl
@[simp] theorem Zxn (t:T):t.er.s3=t.s3:=by cases t;rfl
@[simp] theorem ZxM (t:T):t.er.mn=t.mn:=by cases t;rfl
@[simp] theorem ZxN (t:T):t.er.mx=t.mx:=by cases t;rfl
@[simp] theorem ZwQ (t:T):t.er.subs=t.subs.map T.er:=by cases t;simp only[T.er,T.subs,Zq3]
def T.caps(t:T):Prop:=∀x∈t.nodes,x.subs.length≤x.c
theorem Zok{k s0 s1 s2 s3 mn mx:Int}{a:Option Addr}{c:Nat}{l:List T}(h:l.length≤c)(hl:∀x∈l,x.caps):(T.node k s0 s1 s2 s3 mn mx a c l).caps:=by
 intro y hy
 rw[Za4]at hy
 rcases List.mem_cons.1 hy with rfl|hy
 ·exact h
 ·obtain⟨x,hx,hy⟩:∃x∈l,y∈x.nodes:=by
   have:∀l:List T,y∈Zax l→∃x∈l,y∈x.nodes:=fun l=>by
    induction l with
    | nil=>intro h;simp[Zax]at h
    | cons x l ih=>
     intro h
     simp only[Zax,List.mem_append]at h
     rcases h with h|h
     ·exact⟨x,by simp,h⟩
     ·obtain⟨z,hz,h⟩:=ih h
      exact⟨z,by simp[hz],h⟩
   exact this l hy
  exact hl x hx y hy
theorem Zva{k s0 s1 s2 s3 mn mx:Int}{a a':Option Addr}{c c':Nat}{l l':List T}(h:l.map T.er=l'.map T.er):(T.node k s0 s1 s2 s3 mn mx a c l).er=(T.node k s0 s1 s2 s3 mn mx a' c' l').er:=by
 simp only[T.er,Zq3,h]
def Zv8(t t':T):Prop:=((t.clean=true∧t'.er=t.er)∨(t.clean=false∧t'=T0))∧t'.caps
theorem Zvb:T0.caps:=Zok (by simp) (by simp)
def ZvL(k:Int)(a:Option Addr)(c:Nat)(u:T):List T→T→Prop
 | [],t'=>t'=u
 | [x],t'=>Zv8 x t'
 | x::y::l,t'=>Zv8 (Zbb k 0 0 a c (x::y::l)) t'
def Zg5(k w:Int)(x:T):List T:=if x.k=k then x.subs else if x.k=w then[]else[x]
def Zcn(k w:Int)(L:List T):List T:=(L.map (Zg5 k w)).flatten
theorem ZpP(k w:Int)(L:List T)(x:T):Zcn k w (L++[x])=Zcn k w L++Zg5 k w x:=by simp[Zcn]
theorem Zh1(k w:Int):∀(L:List T),(∀x∈L,x.subs.length≤10000)→(Zcn k w L).length≤L.length*10001
 | [],_=>by simp[Zcn]
 | x::L,h=>by
  have ih:=Zh1 k w L fun y hy=>h y (by simp[hy])
  have hx:=h x (by simp)
  have h1:(Zg5 k w x).length≤10001:=by
   unfold Zg5
   split
   ·omega
   ·split <;> simp
  have e:(Zcn k w (x::L)).length=(Zg5 k w x).length+(Zcn k w L).length:=by simp[Zcn]
  rw[e,List.length_cons]
  omega
theorem Zm0:T0.check=80:=by decide
theorem Zol{t:T}(h:t.clean=true):t.k≠0:=by
 have hg:t.good=true:=by
  unfold T.clean at h
  rw[Bool.and_eq_true]at h
  exact h.2
 have:=(Zg4 hg).1
 rcases Zta this with h|h|h|h|⟨h,_⟩|⟨h,_⟩ <;> omega
theorem Zfl{t:T}(h:t.check=0):t.clean=true:=by
 unfold T.check at h
 split at h
 ·cases h
 ·rename_i hc;simpa using hc
theorem Zg6{t:T}(h:t.clean=true):t.nodes.length≤10000:=by
 unfold T.clean T.light at h
 rw[Bool.and_eq_true]at h
 exact of_decide_eq_true h.1
def Zvc(n:T)(lo hi:Int)(t':T):Prop:=
 (t'=T0∧Zcm lo hi=false)∨(t'=T1∧((lo=0∧hi=0)∨(n.k=1∧((lo=1∧hi=1)∨Zcm lo hi=true))))∨(lo=1∧hi=1∧t'.er=n.er)∨∃a c,Zv8 (Zbb 5 lo hi a c [n]) t'
theorem Zsd{lo hi:Int}(h:Zcm lo hi=true):0≤lo∧(hi=-1∨lo≤hi):=by
 unfold Zcm at h
 simp only[Bool.and_eq_true,Bool.not_eq_true',Bool.or_eq_false_iff,Bool.or_eq_true,decide_eq_false_iff_not,decide_eq_true_eq,beq_iff_eq]at h
 omega
end Go.Rx
namespace Go.Rx
open Go Go.Eng Go.RowKit
structure Bad (t:T):Prop where
 k:t.k≠0
 no:t.check≠0
structure Says (t:T)(len:Nat)(i:Int)(e:Int):Prop where
 one:t.wrong len i=e
 rg:Rg.wrong ⟨false,false,t⟩ len i=e
 all:Zwm [⟨false,false,t⟩] len i=e
structure Asks (k:Nat)(t:T)(len:Nat)(i e:Int):Prop where
 vp:Says t len i e
 zero:k≤1→Says t len 0 e
 no:e≠0
 len:len≤513
end Go.Rx
namespace Go.Rx
open Go Go.Eng Go.RowKit
end Go.Rx
namespace Go.Rx
open Go Go.Eng Go.RowKit
abbrev Re:=Nat→Nat→Prop
def pow(R:Re):Nat→Re
 | 0=>fun i j=>i=j
 | n+1=>fun i j=>∃m,R i m∧pow R n m j
theorem ZlS(R:Re):∀(a b i j:Nat),pow R (a+b) i j↔∃m,pow R a i m∧pow R b m j
 | 0,b,i,j=>by simp[pow]
 | a+1,b,i,j=>by
  rw[show a+1+b=(a+b)+1 by omega]
  constructor
  ·rintro⟨m,h1,h2⟩
   obtain⟨k,h3,h4⟩:=(ZlS R a b m j).1 h2
   exact⟨k,⟨m,h1,h3⟩,h4⟩
  ·rintro⟨k,⟨m,h1,h3⟩,h4⟩
   exact⟨m,h1,(ZlS R a b m j).2 ⟨k,h3,h4⟩⟩
theorem ZkP(R:Re)(n i j:Nat):pow R (n+1) i j↔∃m,pow R n i m∧R m j:=by
 rw[ZlS R n 1];simp[pow]
theorem Zq4{R Q:Re}(h:∀i j,R i j→Q i j):∀n i j,pow R n i j→pow Q n i j
 | 0,_,_,e=>e
 | n+1,i,j,⟨m,h1,h2⟩=>⟨m,h _ _ h1,Zq4 h n _ _ h2⟩
mutual
def T.M(s:List Nat):T→Re
 | .node k s0 s1 s2 s3 mn mx a c l=>fun i j=>
  if k=1 then i=j else if k=2 then j=i+1∧∃b,s[i]?=some b∧(T.node k s0 s1 s2 s3 mn mx a c l).hasB b=true
  else if k=3 then MC s l i j else if k=4 then MA s l i j
  else if k=5 then ∃n:Nat,mn.toNat≤n∧(mx=-1∨n≤mx.toNat)∧pow (MH s l) n i j
  else if k=6 then MH s l i j else False
def MC(s:List Nat):List T→Re
 | []=>fun i j=>i=j
 | t::l=>fun i j=>∃m,t.M s i m∧MC s l m j
def MA(s:List Nat):List T→Re
 | []=>fun _ _=>False
 | t::l=>fun i j=>t.M s i j∨MA s l i j
def MH(s:List Nat):List T→Re
 | []=>fun i j=>i=j
 | t::_=>t.M s
end
section
variable {s:List Nat}
theorem M_1{t:T}(h:t.k=1)(i j:Nat):t.M s i j↔i=j:=by cases t;simp only[T.k]at h;subst h;simp[T.M]
theorem M_2{t:T}(h:t.k=2)(i j:Nat):t.M s i j↔(j=i+1∧∃b,s[i]?=some b∧t.hasB b=true):=by cases t;simp only[T.k]at h;subst h;simp[T.M]
theorem M_3{t:T}(h:t.k=3)(i j:Nat):t.M s i j↔MC s t.subs i j:=by cases t;simp only[T.k]at h;subst h;simp[T.M,T.subs]
theorem M_4{t:T}(h:t.k=4)(i j:Nat):t.M s i j↔MA s t.subs i j:=by cases t;simp only[T.k]at h;subst h;simp[T.M,T.subs]
theorem M_5{t:T}(h:t.k=5)(i j:Nat):t.M s i j↔∃n:Nat,t.mn.toNat≤n∧(t.mx=-1∨n≤t.mx.toNat)∧pow (MH s t.subs) n i j:=by cases t;simp only[T.k]at h;subst h;simp[T.M,T.subs,T.mn,T.mx]
theorem M_6{t:T}(h:t.k=6)(i j:Nat):t.M s i j↔MH s t.subs i j:=by cases t;simp only[T.k]at h;subst h;simp[T.M,T.subs]
theorem Zh2(i j:Nat):MC s [] i j↔i=j:=by simp[MC]
theorem Zer(t:T)(l:List T)(i j:Nat):MC s (t::l) i j↔∃m,t.M s i m∧MC s l m j:=by simp[MC]
theorem ZkQ(i j:Nat):MA s [] i j↔False:=by simp[MA]
theorem ZdR(t:T)(l:List T)(i j:Nat):MA s (t::l) i j↔(t.M s i j∨MA s l i j):=by simp[MA]
theorem Zfm(t:T)(l:List T):MH s (t::l)=t.M s:=by simp[MH]
end
def Fwd(R:Re):Prop:=∀i j,R i j→i≤j
def Sh(s s':List Nat)(R R':Re):Prop:=∀i j i',R i j→(∀p,i+p < j→s[i+p]?=s'[i'+p]?)→R' i' (i'+(j - i))
def Len(s:List Nat)(R:Re):Prop:=∀i j,R i j→i≤s.length→j≤s.length
structure Nice (s s':List Nat)(R R':Re):Prop where
 fwd:Fwd R
 sh:Sh s s' R R'
 len:Len s R
theorem Zq5(s s':List Nat):Nice s s' (fun i j=>i=j) (fun i j=>i=j):=
 ⟨fun i j h=>by omega,fun i j i' h _=>by omega,fun i j h k=>by omega⟩
theorem Zq6{s s':List Nat}{R R' Q Q':Re}(h:Nice s s' R R')(k:Nice s s' Q Q'):Nice s s' (fun i j=>∃m,R i m∧Q m j) (fun i j=>∃m,R' i m∧Q' m j):=by
 refine⟨fun i j ⟨m,h1,h2⟩=>Nat.le_trans (h.fwd _ _ h1) (k.fwd _ _ h2),fun i j i' ⟨m,h1,h2⟩ hs=>?_,fun i j ⟨m,h1,h2⟩ hi=>k.len _ _ h2 (h.len _ _ h1 hi)⟩
 have a:=h.fwd _ _ h1
 have b:=k.fwd _ _ h2
 refine⟨i'+(m - i),h.sh _ _ _ h1 fun p hp=>hs p (by omega),?_⟩
 have:=k.sh _ _ (i'+(m - i)) h2 fun p hp=>by
  have:=hs ((m - i)+p) (by omega)
  rw[show i+(m - i+p)=m+p by omega,show i'+(m - i+p)=i'+(m - i)+p by omega]at this
  exact this
 rw[show i'+(m - i)+(j - m)=i'+(j - i) by omega]at this
 exact this
theorem ZkR{s s':List Nat}{R R':Re}(h:Nice s s' R R'):∀n,Nice s s' (pow R n) (pow R' n)
 | 0=>Zq5 s s'
 | n+1=>Zq6 h (ZkR h n)
theorem ZdS{s s':List Nat}{R R' Q Q':Re}(h:Nice s s' R R')(e:∀i j,Q i j↔R i j)(e':∀i j,Q' i j↔R' i j):Nice s s' Q Q':=
 ⟨fun i j k=>h.fwd i j ((e i j).1 k),fun i j i' k hs=>(e' _ _).2 (h.sh i j i' ((e i j).1 k) hs),fun i j k hi=>h.len i j ((e i j).1 k) hi⟩
theorem ZwR{s s':List Nat}:∀(l:List T),(∀x∈l,Nice s s' (x.M s) (x.M s'))→Nice s s' (MC s l) (MC s' l)
 | [],_=>ZdS (Zq5 s s') (fun i j=>Zh2 i j) (fun i j=>Zh2 i j)
 | t::l,h=>ZdS (Zq6 (h t (by simp)) (ZwR l fun x hx=>h x (by simp[hx]))) (fun i j=>Zer t l i j) (fun i j=>Zer t l i j)
theorem ZwS{s s':List Nat}:∀(l:List T),(∀x∈l,Nice s s' (x.M s) (x.M s'))→Nice s s' (MA s l) (MA s' l)
 | [],_=>⟨fun i j h=>by rw[ZkQ]at h;exact h.elim,fun i j i' h=>by rw[ZkQ]at h;exact h.elim,fun i j h=>by rw[ZkQ]at h;exact h.elim⟩
 | t::l,h=>by
  have h1:=h t (by simp)
  have h2:=ZwS l fun x hx=>h x (by simp[hx])
  refine⟨fun i j k=>?_,fun i j i' k hs=>?_,fun i j k hi=>?_⟩
  ·rcases(ZdR t l i j).1 k with k|k
   ·exact h1.fwd _ _ k
   ·exact h2.fwd _ _ k
  ·refine(ZdR t l _ _).2 ?_
   rcases(ZdR t l i j).1 k with k|k
   ·exact .inl (h1.sh _ _ _ k hs)
   ·exact .inr (h2.sh _ _ _ k hs)
  ·rcases(ZdR t l i j).1 k with k|k
   ·exact h1.len _ _ k hi
   ·exact h2.len _ _ k hi
theorem ZpQ(s s':List Nat):∀t:T,t.good=true→Nice s s' (t.M s) (t.M s')
 | t,hg=>by
  obtain⟨hr,dC⟩:=Zg4 hg
  have ih:∀x∈t.subs,Nice s s' (x.M s) (x.M s'):=fun x hx=>ZpQ s s' x (dC x hx)
  rcases Zta hr with h|h|h|h|⟨h,⟨x,hx⟩,h0,wT,jo⟩|⟨h,x,hx⟩
  ·exact ZdS (Zq5 s s') (fun i j=>M_1 h i j) (fun i j=>M_1 h i j)
  ·refine⟨fun i j k=>?_,fun i j i' k hs=>?_,fun i j k hi=>?_⟩
   ·have:=(M_2 h i j).1 k;omega
   ·obtain⟨rfl,b,h1,h2⟩:=(M_2 h i j).1 k
    refine(M_2 h _ _).2 ⟨by omega,b,?_,h2⟩
    have:=hs 0 (by omega)
    simp only[Nat.add_zero]at this
    rw[←this];exact h1
   ·obtain⟨rfl,b,h1,h2⟩:=(M_2 h i j).1 k
    have:=(List.getElem?_eq_some_iff.1 h1).1
    omega
  ·exact ZdS (ZwR t.subs ih) (fun i j=>M_3 h i j) (fun i j=>M_3 h i j)
  ·exact ZdS (ZwS t.subs ih) (fun i j=>M_4 h i j) (fun i j=>M_4 h i j)
  ·have hn:=ih x (by rw[hx];simp)
   refine⟨fun i j k=>?_,fun i j i' k hs=>?_,fun i j k hi=>?_⟩
   ·obtain⟨n,_,_,h3⟩:=(M_5 h i j).1 k
    rw[hx,Zfm]at h3
    exact(ZkR hn n).fwd _ _ h3
   ·obtain⟨n,h1,h2,h3⟩:=(M_5 h i j).1 k
    rw[hx,Zfm]at h3
    refine(M_5 h _ _).2 ⟨n,h1,h2,?_⟩
    rw[hx,Zfm]
    exact(ZkR hn n).sh _ _ _ h3 hs
   ·obtain⟨n,_,_,h3⟩:=(M_5 h i j).1 k
    rw[hx,Zfm]at h3
    exact(ZkR hn n).len _ _ h3 hi
  ·have hn:=ih x (by rw[hx];simp)
   exact ZdS hn (fun i j=>by rw[M_6 h,hx,Zfm]) (fun i j=>by rw[M_6 h,hx,Zfm])
termination_by t=>SizeOf.sizeOf t
decreasing_by exact ZkD hx
theorem ZxO{t:T}(hg:t.good=true){s:List Nat}{i j:Nat}(h:t.M s i j):i≤j:=(ZpQ s s t hg).fwd _ _ h
theorem Zxo{t:T}(hg:t.good=true){s:List Nat}{i j:Nat}(h:t.M s i j)(hi:i≤s.length):j≤s.length:=(ZpQ s s t hg).len _ _ h hi
theorem Zwo{t:T}(hg:t.good=true){s s':List Nat}{i j i' j':Nat}(hl:j'+i=i'+j)(kD:i≤j)(hs:∀p,i+p < j→s[i+p]?=s'[i'+p]?):t.M s i j↔t.M s' i' j':=by
 constructor
 ·intro h
  have:=(ZpQ s s' t hg).sh _ _ i' h hs
  rw[show i'+(j - i)=j' by omega]at this
  exact this
 ·intro h
  have:=(ZpQ s' s t hg).sh _ _ i h fun p hp=>(hs p (by omega)).symm
  rw[show i+(j' - i')=j by omega]at this
  exact this
end Go.Rx
namespace Go.Rx
open Go Go.Eng Go.RowKit
set_option maxRecDepth 100000
theorem Zxp{t:T}(hg:t.good=true){s:List Nat}{i n:Nat}(hi:i≤n)(hn:n≤s.length):t.M ((s.drop i).take (n - i)) 0 ((s.drop i).take (n - i)).length↔t.M s i n:=by
 have hl:((s.drop i).take (n - i)).length=n - i:=by simp;omega
 rw[hl]
 refine Zwo hg (by omega) (by omega) fun p hp=>?_
 rw[Nat.zero_add,List.getElem?_take,if_pos (by omega),List.getElem?_drop]
end Go.Rx
namespace Go.Rx
open Go Go.Eng Go.RowKit
set_option maxRecDepth 100000
def Zv9(F n:Nat)(u:List Nat):List Nat:=(u.filter fun k:Nat=>decide ((k:Int) - F≤n)).map fun k=>k - F
end Go.Rx
namespace Go.Rx
open Go Go.Eng Go.RowKit
set_option maxRecDepth 100000
theorem Zvd(t:T)(c:Nat):t.er.hasB c=t.hasB c:=by unfold T.hasB;simp only[Zxk,Zxl,Zxm,Zxn]
mutual
theorem Zw8(s:List Nat):∀t:T,t.er.M s=t.M s
 | .node k s0 s1 s2 s3 mn mx a c l=>by
  funext i j
  have hb:∀b,(T.node k s0 s1 s2 s3 mn mx none 0 (erL l)).hasB b=(T.node k s0 s1 s2 s3 mn mx a c l).hasB b:=fun b=>Zvd (.node k s0 s1 s2 s3 mn mx a c l) b
  simp only[T.er,T.M,ZwT s l,ZwU s l,Zxq s l,hb]
theorem ZwT(s:List Nat):∀l:List T,MC s (erL l)=MC s l
 | []=>rfl
 | t::l=>by funext i j;simp only[erL,MC,Zw8 s t,ZwT s l]
theorem ZwU(s:List Nat):∀l:List T,MA s (erL l)=MA s l
 | []=>rfl
 | t::l=>by funext i j;simp only[erL,MA,Zw8 s t,ZwU s l]
theorem Zxq(s:List Nat):∀l:List T,MH s (erL l)=MH s l
 | []=>rfl
 | t::l=>by funext i j;simp only[erL,MH,Zw8 s t]
end
theorem ZxP{t u:T}(h:t.er=u.er)(s:List Nat):t.M s=u.M s:=by rw[←Zw8 s t,h,Zw8]
end Go.Rx
namespace Go.Rx
open Go Go.Eng Go.RowKit
set_option maxRecDepth 100000
theorem Zom{t t':T}(h:Zv8 t t')(hc:t'.check=0)(s:List Nat):t'.M s=t.M s:=by
 rcases h.1 with⟨_,h⟩|⟨_,h⟩
 ·exact ZxP h s
 ·subst h;rw[Zm0]at hc;cases hc
theorem Zse(s:List Nat)(l r:List T)(i j:Nat):MA s (l++r) i j↔MA s l i j∨MA s r i j:=by
 induction l with
 | nil=>simp[ZkQ]
 | cons t l ih=>rw[List.cons_append,ZdR,ZdR,ih];exact or_assoc.symm
theorem Zsf(s:List Nat)(l r:List T):∀i j,MC s (l++r) i j↔∃m,MC s l i m∧MC s r m j:=by
 induction l with
 | nil=>intro i j;simp[Zh2]
 | cons t l ih=>
  intro i j
  rw[List.cons_append,Zer]
  simp only[ih,Zer]
  constructor
  ·rintro⟨a,h1,b,h2,h3⟩;exact⟨b,⟨a,h1,h2⟩,h3⟩
  ·rintro⟨b,⟨a,h1,h2⟩,h3⟩;exact⟨a,h1,b,h2,h3⟩
theorem Zve{a:Option Addr}{c:Nat}:∀{l:List T} {t':T},ZvL 4 a c T0 l t'→t'.check=0→∀s i j,t'.M s i j↔MA s l i j
 | [],t',h,hc,s,i,j=>by
  have h:t'=T0:=h
  subst h;rw[Zm0]at hc;cases hc
 | [x],t',h,hc,s,i,j=>by
  rw[Zom h hc s,ZdR,ZkQ,or_false]
 | x::y::l,t',h,hc,s,i,j=>by
  rw[Zom h hc s,M_4 rfl];rfl
theorem ZtX{a:Option Addr}{c:Nat}:∀{l:List T} {t':T},ZvL 3 a c T1 l t'→t'.check=0→∀s i j,t'.M s i j↔MC s l i j
 | [],t',h,hc,s,i,j=>by
  have h:t'=T1:=h
  subst h;rw[M_1 rfl,Zh2]
 | [x],t',h,hc,s,i,j=>by
  rw[Zom h hc s,Zer]
  simp only[Zh2]
  exact⟨fun h=>⟨j,h,rfl⟩,fun⟨m,h,e⟩=>e ▸ h⟩
 | x::y::l,t',h,hc,s,i,j=>by
  rw[Zom h hc s,M_3 rfl];rfl
theorem Ztb(s:List Nat)(i j:Nat):∀L:List T,(∀x∈L,x.k≠0)→(MA s (Zcn 4 0 L) i j↔MA s L i j)
 | [],_=>by simp[Zcn]
 | x::L,h=>by
  have ih:=Ztb s i j L fun y hy=>h y (by simp[hy])
  have e:Zcn 4 0 (x::L)=Zg5 4 0 x++Zcn 4 0 L:=by simp[Zcn]
  rw[e,Zse,ZdR,ih]
  have:MA s (Zg5 4 0 x) i j↔x.M s i j:=by
   unfold Zg5
   by_cases h4:x.k=4
   ·rw[if_pos h4,M_4 h4]
   ·rw[if_neg h4,if_neg (h x (by simp)),ZdR,ZkQ,or_false]
  rw[this]
theorem Ztc(s:List Nat):∀(L:List T)(i j:Nat),(MC s (Zcn 3 1 L) i j↔MC s L i j)
 | [],i,j=>by simp[Zcn]
 | x::L,i,j=>by
  have ih:=Ztc s L
  have e:Zcn 3 1 (x::L)=Zg5 3 1 x++Zcn 3 1 L:=by simp[Zcn]
  rw[e,Zsf,Zer]
  have:∀m,MC s (Zg5 3 1 x) i m↔x.M s i m:=by
   intro m
   unfold Zg5
   by_cases h3:x.k=3
   ·rw[if_pos h3,M_3 h3]
   ·rw[if_neg h3]
    by_cases h1:x.k=1
    ·rw[if_pos h1,Zh2,M_1 h1]
    ·rw[if_neg h1,Zer]
     simp only[Zh2]
     exact⟨fun⟨a,h,e⟩=>e ▸ h,fun h=>⟨m,h,rfl⟩⟩
  simp only[this,ih]
theorem Zwp(n i j:Nat):pow (fun a b=>a=b) n i j↔i=j:=by
 induction n generalizing i j with
 | zero=>rfl
 | succ n ih=>
  show(∃m,i=m∧pow (fun a b=>a=b) n m j)↔i=j
  simp only[ih]
  exact⟨fun⟨m,h1,h2⟩=>h1.trans h2,fun h=>⟨i,rfl,h⟩⟩
theorem Zvf{n t':T}{lo hi:Int}(h:Zvc n lo hi t')(hc:t'.check=0)(s:List Nat)(i j:Nat):t'.M s i j↔∃c:Nat,lo.toNat≤c∧(hi=-1∨c≤hi.toNat)∧pow (n.M s) c i j:=by
 rcases h with⟨h,_⟩|⟨h,h2⟩|⟨rfl,rfl,h⟩|⟨a,c,h⟩
 ·subst h;rw[Zm0]at hc;cases hc
 ·subst h
  rw[M_1 rfl]
  rcases h2 with⟨rfl,rfl⟩|⟨hk,hb⟩
  ·constructor
   ·intro h;exact⟨0,by decide,.inr (by decide),h⟩
   ·rintro⟨c,_,h|h,hp⟩
    ·cases h
    ·have:c=0:=by
      have:(0:Int).toNat=0:=rfl
      omega
     subst this;exact hp
  ·have hM:n.M s=fun a b=>a=b:=by funext a b;rw[M_1 hk]
   rw[hM]
   simp only[Zwp]
   constructor
   ·intro h
    rcases hb with⟨rfl,rfl⟩|hb
    ·exact⟨1,by decide,.inr (by decide),h⟩
    ·have:=Zsd hb
     exact⟨lo.toNat,Nat.le_refl _,by omega,h⟩
   ·rintro⟨_,_,_,h⟩;exact h
 ·rw[ZxP h s]
  constructor
  ·intro h;exact⟨1,by decide,.inr (by decide),j,h,rfl⟩
  ·rintro⟨c,h1,h2,hp⟩
   have:c=1:=by
    have:(1:Int).toNat=1:=rfl
    omega
   subst this
   obtain⟨m,h1,h2⟩:=hp
   have h2:m=j:=h2
   subst h2;exact h1
 ·rw[Zom h hc s,M_5 rfl]
  show(∃c:Nat,lo.toNat≤c∧(hi=-1∨c≤hi.toNat)∧pow (MH s [n]) c i j)↔_
  rw[Zfm]
end Go.Rx
namespace Go.Rx
open Go Go.Eng Go.RowKit
set_option maxRecDepth 100000
def ZkS(g:Nat→Bool)(n:Nat):List Nat:=(List.range n).map fun j=>if g j then 1 else 0
theorem ZfO(g:Nat→Bool)(n:Nat):(ZkS g n).length=n:=by simp[ZkS]
theorem ZiP(g:Nat→Bool){n j:Nat}(h:j < n):(ZkS g n)[j]?=some (if g j then 1 else 0):=by simp[ZkS,h]
theorem Zq7(g:Nat→Bool){n j:Nat}(h:j < n)(v:Bool):(ZkS g n).set j (if v then 1 else 0)=ZkS (fun x=>if x=j then v else g x) n:=by
 refine List.ext_getElem? fun i=>?_
 rw[List.getElem?_set]
 by_cases hi:i < n
 ·rw[ZiP _ hi,ZfO]
  by_cases e:j=i
  ·subst e;rw[ZiP _ hi];simp[h]
  ·rw[if_neg e,ZiP _ hi,if_neg (Ne.symm e)]
 ·rw[List.getElem?_eq_none_iff.2 (by rw[ZfO];omega),List.getElem?_eq_none_iff.2 (by rw[ZfO];omega),ZfO]
  by_cases e:j=i
  ·subst e;exact absurd h hi
  ·rw[if_neg e]
theorem Ze2{g h:Nat→Bool}{n:Nat}(e:∀j,j < n→g j=h j):ZkS g n=ZkS h n:=by
 unfold ZkS
 refine List.map_congr_left fun j hj=>?_
 rw[e j (List.mem_range.1 hj)]
theorem ZpR{l:List Value}{i:Nat}{v:Value}(h:i < l.length):Zao l i [v]=l.set i v:=by
 refine List.ext_getElem? fun j=>?_
 unfold Zao
 simp only[List.length_cons,List.length_nil]
 rw[List.getElem?_set]
 by_cases h1:j < i
 ·rw[List.append_assoc,List.getElem?_append_left (by rw[List.length_take];omega),List.getElem?_take,if_pos h1,if_neg (by omega)]
 ·rw[List.append_assoc,List.getElem?_append_right (by rw[List.length_take];omega),List.length_take,Nat.min_eq_left (by omega)]
  by_cases h2:j=i
  ·subst h2;simp[h]
  ·rw[List.getElem?_append_right (by simp;omega),if_neg (by omega),List.getElem?_drop]
   congr 1
   simp;omega
end Go.Rx
namespace Go.Rx
open Go Go.Eng Go.RowKit
set_option maxRecDepth 100000
theorem Zon{P:List Value→Prop}{cs:List Value}{n i:Nat}{v:Value}(hn:cs.length=n)(hi:i < n)(h:P (cs.set i v)):(bif Nat.beq (n*1) 1&&Nat.beq (i*1) 0 then P [v]else chk (Nat.ble (i*1+1) cs.length) (P (Zao cs (i*1) [v]))):=by
 rw[Nat.mul_one,Nat.mul_one]
 cases hb:(Nat.beq n 1&&Nat.beq i 0)with
 | true=>
  rw[Bool.and_eq_true]at hb
  have h1:=Nat.eq_of_beq_eq_true hb.1
  have h2:=Nat.eq_of_beq_eq_true hb.2
  subst h2
  match cs,hn with
  | [c],_=>exact h
  | [],hn=>simp at hn;omega
  | _::_::_,hn=>simp at hn;omega
 | false=>
  refine Zab (Nat.ble_eq_true_of_le (by omega)) ?_
  rw[ZpR (by omega)]
  exact h
end Go.Rx
namespace Go.Rx
open Go Go.Eng Go.RowKit
inductive Vw (E H:Nat→Nat→Prop):Nat→Nat→Nat→Nat→Prop
 | one {p i:Nat} (h:H p i):Vw E H p i p (i+1)
 | step {p i r q j:Nat} (h:H p i) (e:E p r) (k:Vw E H r (i+1) q j):Vw E H p i q j
theorem Vw.mono{E E' H H':Nat→Nat→Prop}{D:Nat→Prop}(hE:∀p r,D p→E p r→E' p r∧D r)(hH:∀p i,D p→H p i→H' p i){p i q j:Nat}(h:Vw E H p i q j):D p→Vw E' H' p i q j∧D q:=by
 induction h with
 | one h=>exact fun hd=>⟨.one (hH _ _ hd h),hd⟩
 | step h e _ ih=>exact fun hd=>⟨.step (hH _ _ hd h) (hE _ _ hd e).1 (ih (hE _ _ hd e).2).1,(ih (hE _ _ hd e).2).2⟩
theorem Vw.trans{E H:Nat→Nat→Prop}{p i q m r q' j:Nat}(h:Vw E H p i q m)(e:E q r)(k:Vw E H r m q' j):Vw E H p i q' j:=by
 induction h with
 | one h=>exact .step h e k
 | step h e1 _ ih=>exact .step h e1 (ih e k)
theorem Vw.split{E E' H:Nat→Nat→Prop}{D1 D2 L1 F2:Nat→Prop}(h1:∀p r,D1 p→E' p r→(E p r∧D1 r)∨(L1 p∧F2 r))(hF:∀r,F2 r→D2 r)(h2:∀p r,D2 p→E' p r→E p r∧D2 r){p i q j:Nat}(h:Vw E' H p i q j):
  D1 p→(D1 q∧Vw E H p i q j)∨∃l f m,L1 l∧F2 f∧D1 l∧D2 q∧Vw E H p i l m∧Vw E H f m q j:=by
 induction h with
 | one h=>exact fun hd=>.inl ⟨hd,.one h⟩
 | @step p i r q j h e k ih=>
  intro hd
  rcases h1 _ _ hd e with⟨e1,hr⟩|⟨hl,hf⟩
  ·rcases ih hr with⟨g1,g2⟩|⟨l,f,m,g1,g2,g3,g4,g5,g6⟩
   ·exact .inl ⟨g1,.step h e1 g2⟩
   ·exact .inr ⟨l,f,m,g1,g2,g3,g4,.step h e1 g5,g6⟩
  ·obtain⟨g1,g2⟩:=k.mono (E':=E) (H':=H) (D:=D2) h2 (fun _ _ _ h=>h) (hF r hf)
   exact .inr ⟨p,r,i+1,hl,hf,hd,g2,.one h,g1⟩
def Seg(E H:Nat→Nat→Prop)(F L:Nat→Prop):Re:=fun i j=>∃p q,F p∧L q∧Vw E H p i q j
theorem Vw.rounds{E E' H:Nat→Nat→Prop}{D F L:Nat→Prop}(h1:∀p r,D p→E' p r→(E p r∧D r)∨(L p∧F r))(hF:∀r,F r→D r){p i q j:Nat}(h:Vw E' H p i q j):
  D p→L q→∃l m n,Vw E H p i l m∧L l∧pow (Seg E H F L) n m j:=by
 induction h with
 | @one p i h=>exact fun _ hl=>⟨p,i+1,0,.one h,hl,rfl⟩
 | @step p i r q j h e k ih=>
  intro hd hl
  rcases h1 _ _ hd e with⟨e1,hr⟩|⟨hp,hf⟩
  ·obtain⟨l,m,n,g1,g2,g3⟩:=ih hr hl
   exact⟨l,m,n,.step h e1 g1,g2,g3⟩
  ·obtain⟨l,m,n,g1,g2,g3⟩:=ih (hF r hf) hl
   exact⟨p,i+1,n+1,.one h,hp,m,⟨r,l,hf,g2,g1⟩,g3⟩
theorem Zoo{E E' H:Nat→Nat→Prop}{D F L:Nat→Prop}(hE:∀p r,D p→E p r→E' p r∧D r)(tX:∀p r,L p→F r→E' p r)(hF:∀r,F r→D r):∀(n:Nat){p i l m j:Nat},D p→Vw E H p i l m→L l→pow (Seg E H F L) n m j→∃q,L q∧Vw E' H p i q j
 | 0,p,i,l,m,j,hd,h,hl,e=>by
  have e':m=j:=e
  subst e'
  exact⟨l,hl,(h.mono hE (fun _ _ _ h=>h) hd).1⟩
 | n+1,p,i,l,m,j,hd,h,hl,⟨m2,⟨f,l2,hf,kB,h2⟩,h3⟩=>by
  obtain⟨q,hq,h4⟩:=Zoo hE tX hF n (hF f hf) h2 kB h3
  exact⟨q,hq,(h.mono hE (fun _ _ _ h=>h) hd).1.trans (tX l f hl hf) h4⟩
def Est(st:Ms)(p r:Nat):Prop:=∃x,st.fol[p]?=some x∧x.testBit r=true
def Hst(s:List Nat)(st:Ms)(p i:Nat):Prop:=∃q c,st.sets[p]?=some q∧s[i]?=some c∧Zw7 q c=true
structure Ext (st st':Ms):Prop where
 sets:∀(p:Nat)(q:QS),st.sets[p]?=some q→st'.sets[p]?=some q
 fol:∀(p x:Nat),st.fol[p]?=some x→st'.fol[p]?=some x
theorem Ext.refl(st:Ms):Ext st st:=⟨fun _ _ h=>h,fun _ _ h=>h⟩
theorem Ext.trans{a b c:Ms}(h:Ext a b)(k:Ext b c):Ext a c:=⟨fun p q e=>k.sets p q (h.sets p q e),fun p x e=>k.fol p x (h.fol p x e)⟩
theorem Zh3{fol:List Nat}{a b p:Nat}:(ZbV fol a b)[p]?=(fol[p]?).map fun x=>if a.testBit p then x|||b else x:=by
 simp[ZbV,List.getElem?_mapIdx]
structure Comp (s:List Nat)(n0:Nat)(st:Ms)(P:Pt)(R:Re):Prop where
 ok:MsOk st
 le:n0≤st.sets.length
 pin:PtIn st.sets.length P
 fst:∀p,P.first.testBit p=true→n0≤p
 lst:∀p,P.last.testBit p=true→n0≤p
 edge:∀p r,n0≤p→Est st p r→n0≤r
 lang:∀i j,R i j↔(P.null=true∧i=j)∨Seg (Est st) (Hst s st) (fun p=>P.first.testBit p=true) (fun p=>P.last.testBit p=true) i j
theorem Zh4{st:Ms}(h:MsOk st){p r:Nat}(e:Est st p r):p < st.sets.length∧r < st.sets.length:=by
 obtain⟨x,h1,h2⟩:=e
 exact⟨by rw[←h.len];exact(List.getElem?_eq_some_iff.1 h1).1,h.fol p x h1 r h2⟩
theorem Comp.congr{s:List Nat}{n0:Nat}{st:Ms}{P:Pt}{R R':Re}(h:Comp s n0 st P R)(e:∀i j,R' i j↔R i j):Comp s n0 st P R':=⟨h.ok,h.le,h.pin,h.fst,h.lst,h.edge,fun i j=>(e i j).trans (h.lang i j)⟩
theorem Comp.opt{s:List Nat}{n0:Nat}{st:Ms}{P:Pt}{R:Re}(h:Comp s n0 st P R)(b:Bool):Comp s n0 st ⟨P.first,P.last,P.null||b⟩ (fun i j=>R i j∨(b=true∧i=j)):=by
 refine⟨h.ok,h.le,h.pin,h.fst,h.lst,h.edge,fun i j=>?_⟩
 rw[h.lang i j]
 cases hn:P.null <;> cases b <;> simp[or_comm]
theorem Comp.seq{s:List Nat}{n0:Nat}{st1 st2:Ms}{P X:Pt}{R1 R2:Re}(h1:Comp s n0 st1 P R1)(h2:Comp s st1.sets.length st2 X R2)(hx:Ext st1 st2):Comp s n0 (Zcc P X st2).2 (Zcc P X st2).1 (fun i j=>∃m,R1 i m∧R2 m j):=by
 have bO:st1.sets.length≤st2.sets.length:=h2.le
 have rL:MsOk (Zcc P X st2).2:=h2.ok.loop _ _ h2.pin.1
 have nt:∀p r,Est (Zcc P X st2).2 p r↔Est st2 p r∨(p < st2.sets.length∧P.last.testBit p=true∧X.first.testBit r=true):=fun p r=>by
  unfold Est
  simp only[Zcc,Zh3]
  constructor
  ·rintro⟨x,h3,h4⟩
   obtain⟨y,hy,rfl⟩:=Option.map_eq_some_iff.1 h3
   have hp:p < st2.sets.length:=by rw[←h2.ok.len];exact(List.getElem?_eq_some_iff.1 hy).1
   by_cases hl:P.last.testBit p=true
   ·rw[if_pos hl]at h4
    rcases Zgs h4 with h5|h5
    ·exact .inl ⟨y,hy,h5⟩
    ·exact .inr ⟨hp,hl,h5⟩
   ·rw[if_neg hl]at h4;exact .inl ⟨y,hy,h4⟩
  ·rintro(⟨x,h3,h4⟩|⟨hp,hl,h4⟩)
   ·refine⟨_,by rw[h3];rfl,?_⟩
    split
    ·simp[Nat.testBit_or,h4]
    ·exact h4
   ·obtain⟨y,hy⟩:∃y,st2.fol[p]?=some y:=⟨_,List.getElem?_eq_getElem (by rw[h2.ok.len];exact hp)⟩
    exact⟨_,by rw[hy];rfl,by simp only[if_pos hl];simp[Nat.testBit_or,h4]⟩
 have wU:∀p i,Hst s (Zcc P X st2).2 p i↔Hst s st2 p i:=fun p i=>Iff.rfl
 have e12:∀p r,p < st1.sets.length→(Est st2 p r↔Est st1 p r):=fun p r hp=>by
  obtain⟨y,hy⟩:∃y,st1.fol[p]?=some y:=⟨_,List.getElem?_eq_getElem (by rw[h1.ok.len];exact hp)⟩
  constructor
  ·rintro⟨x,h3,h4⟩
   rw[hx.fol p y hy]at h3;cases h3
   exact⟨y,hy,h4⟩
  ·rintro⟨x,h3,h4⟩;exact⟨x,hx.fol p x h3,h4⟩
 have H12:∀p i,p < st1.sets.length→(Hst s st2 p i↔Hst s st1 p i):=fun p i hp=>by
  obtain⟨y,hy⟩:∃y,st1.sets[p]?=some y:=⟨_,List.getElem?_eq_getElem hp⟩
  constructor
  ·rintro⟨q,c,h3,h4⟩
   rw[hx.sets p y hy]at h3;cases h3
   exact⟨y,c,hy,h4⟩
  ·rintro⟨q,c,h3,h4⟩;exact⟨q,c,hx.sets p q h3,h4⟩
 let D1:Nat→Prop:=fun p=>n0≤p∧p < st1.sets.length
 let D2:Nat→Prop:=fun p=>st1.sets.length≤p
 have a1:∀p r,D1 p→Est (Zcc P X st2).2 p r→(Est st2 p r∧D1 r)∨(P.last.testBit p=true∧X.first.testBit r=true):=fun p r hd he=>by
  rcases(nt p r).1 he with h3|h3
  ·have h4:=(e12 p r hd.2).1 h3
   exact .inl ⟨h3,h1.edge p r hd.1 h4,(Zh4 h1.ok h4).2⟩
  ·exact .inr h3.2
 have a2:∀p r,D2 p→Est (Zcc P X st2).2 p r→Est st2 p r∧D2 r:=fun p r hd he=>by
  rcases(nt p r).1 he with h3|h3
  ·exact⟨h3,h2.edge p r hd h3⟩
  ·have:=h1.pin.2 p h3.2.1
   exact absurd this (by have:st1.sets.length≤p:=hd;omega)
 have aF:∀r,X.first.testBit r=true→D2 r:=fun r hr=>h2.fst r hr
 have w1:∀{p i q j},D1 p→(Vw (Est st2) (Hst s st2) p i q j↔Vw (Est st1) (Hst s st1) p i q j):=fun {p i q j} hd=>
  ⟨fun h=>(h.mono (D:=D1) (fun p r hd he=>by have h4:=(e12 p r hd.2).1 he;exact⟨h4,h1.edge p r hd.1 h4,(Zh4 h1.ok h4).2⟩) (fun p i hd h=>(H12 p i hd.2).1 h) hd).1,
   fun h=>(h.mono (D:=D1) (fun p r hd he=>⟨(e12 p r hd.2).2 he,h1.edge p r hd.1 he,(Zh4 h1.ok he).2⟩) (fun p i hd h=>(H12 p i hd.2).2 h) hd).1⟩
 have up1:∀{p i q j},D1 p→Vw (Est st1) (Hst s st1) p i q j→Vw (Est (Zcc P X st2).2) (Hst s (Zcc P X st2).2) p i q j:=fun {p i q j} hd h=>
  (((w1 hd).2 h).mono (D:=D1) (fun p r hd he=>⟨(nt p r).2 (.inl he),by have h4:=(e12 p r hd.2).1 he;exact⟨h1.edge p r hd.1 h4,(Zh4 h1.ok h4).2⟩⟩) (fun p i _ h=>h) hd).1
 have up2:∀{p i q j},D2 p→Vw (Est st2) (Hst s st2) p i q j→Vw (Est (Zcc P X st2).2) (Hst s (Zcc P X st2).2) p i q j:=fun {p i q j} hd h=>
  (h.mono (D:=D2) (fun p r hd he=>⟨(nt p r).2 (.inl he),h2.edge p r hd he⟩) (fun p i _ h=>h) hd).1
 have d1f:∀p,P.first.testBit p=true→D1 p:=fun p hp=>⟨h1.fst p hp,h1.pin.1 p hp⟩
 have d1l:∀p,P.last.testBit p=true→D1 p:=fun p hp=>⟨h1.lst p hp,h1.pin.2 p hp⟩
 have dG:∀p,(ZmU P X).first.testBit p=true↔P.first.testBit p=true∨(P.null=true∧X.first.testBit p=true):=fun p=>by
  unfold ZmU
  cases P.null <;> simp[Nat.testBit_or]
 have cF:∀p,(ZmU P X).last.testBit p=true↔X.last.testBit p=true∨(X.null=true∧P.last.testBit p=true):=fun p=>by
  unfold ZmU
  cases X.null <;> simp[Nat.testBit_or]
 refine⟨rL,Nat.le_trans h1.le bO,ZqV (h1.pin.mono bO) h2.pin,fun p hp=>?_,fun p hp=>?_,fun p r hp he=>?_,fun i j=>?_⟩
 ·rcases(dG p).1 hp with h|⟨_,h⟩
  ·exact h1.fst p h
  ·exact Nat.le_trans h1.le (h2.fst p h)
 ·rcases(cF p).1 hp with h|⟨_,h⟩
  ·exact Nat.le_trans h1.le (h2.lst p h)
  ·exact h1.lst p h
 ·rcases(nt p r).1 he with h|⟨_,_,h⟩
  ·by_cases iF:p < st1.sets.length
   ·exact h1.edge p r hp ((e12 p r iF).1 h)
   ·exact Nat.le_trans h1.le (h2.edge p r (by omega) h)
  ·exact Nat.le_trans h1.le (h2.fst r h)
 ·constructor
  ·rintro⟨m,g1,g2⟩
   rcases(h1.lang i m).1 g1 with⟨n1,rfl⟩|⟨p,q,hp,hq,hv⟩
   ·rcases(h2.lang i j).1 g2 with⟨n2,rfl⟩|⟨p2,q2,dD,iD,mw⟩
    ·exact .inl ⟨by show(P.null&&X.null)=true;rw[n1,n2];rfl,rfl⟩
    ·exact .inr ⟨p2,q2,(dG _).2 (.inr ⟨n1,dD⟩),(cF _).2 (.inl iD),up2 (aF _ dD) mw⟩
   ·rcases(h2.lang m j).1 g2 with⟨n2,rfl⟩|⟨p2,q2,dD,iD,mw⟩
    ·exact .inr ⟨p,q,(dG _).2 (.inl hp),(cF _).2 (.inr ⟨n2,hq⟩),up1 (d1f _ hp) hv⟩
    ·exact .inr ⟨p,q2,(dG _).2 (.inl hp),(cF _).2 (.inl iD),(up1 (d1f _ hp) hv).trans ((nt q p2).2 (.inr ⟨by have:=(d1l q hq).2;omega,hq,dD⟩)) (up2 (aF _ dD) mw)⟩
  ·rintro(⟨hn,rfl⟩|⟨p,q,hp,hq,hv⟩)
   ·have hn':(P.null&&X.null)=true:=hn
    rw[Bool.and_eq_true]at hn'
    exact⟨i,(h1.lang i i).2 (.inl ⟨hn'.1,rfl⟩),(h2.lang i i).2 (.inl ⟨hn'.2,rfl⟩)⟩
   ·rcases(dG p).1 hp with iF|⟨n1,dD⟩
    ·rcases hv.split (E:=Est st2) (D1:=D1) (D2:=D2) a1 aF a2 (d1f p iF)with⟨lu,oF⟩|⟨l,f,m,hl,hf,l8,lu,vq,vr⟩
     ·rcases(cF q).1 hq with iD|⟨n2,gB⟩
      ·exact absurd (h2.lst q iD) (by have:=lu.2;omega)
      ·exact⟨j,(h1.lang i j).2 (.inr ⟨p,q,iF,gB,(w1 (d1f p iF)).1 oF⟩),(h2.lang j j).2 (.inl ⟨n2,rfl⟩)⟩
     ·rcases(cF q).1 hq with iD|⟨n2,gB⟩
      ·exact⟨m,(h1.lang i m).2 (.inr ⟨p,l,iF,hl,(w1 (d1f p iF)).1 vq⟩),(h2.lang m j).2 (.inr ⟨f,q,hf,iD,vr⟩)⟩
      ·exact absurd (d1l q gB).2 (by have:st1.sets.length≤q:=lu;omega)
    ·obtain⟨mw,lu⟩:=hv.mono (E':=Est st2) (H':=Hst s st2) (D:=D2) a2 (fun _ _ _ h=>h) (aF p dD)
     rcases(cF q).1 hq with iD|⟨n2,gB⟩
     ·exact⟨i,(h1.lang i i).2 (.inl ⟨n1,rfl⟩),(h2.lang i j).2 (.inr ⟨p,q,dD,iD,mw⟩)⟩
     ·exact absurd (d1l q gB).2 (by have:st1.sets.length≤q:=lu;omega)
theorem Comp.alt{s:List Nat}{n0:Nat}{st1 st2:Ms}{P X:Pt}{R1 R2:Re}(h1:Comp s n0 st1 P R1)(h2:Comp s st1.sets.length st2 X R2)(hx:Ext st1 st2):Comp s n0 st2 (ZsQ P X) (fun i j=>R1 i j∨R2 i j):=by
 have bO:st1.sets.length≤st2.sets.length:=h2.le
 have e12:∀p r,p < st1.sets.length→(Est st2 p r↔Est st1 p r):=fun p r hp=>by
  obtain⟨y,hy⟩:∃y,st1.fol[p]?=some y:=⟨_,List.getElem?_eq_getElem (by rw[h1.ok.len];exact hp)⟩
  constructor
  ·rintro⟨x,h3,h4⟩
   rw[hx.fol p y hy]at h3;cases h3
   exact⟨y,hy,h4⟩
  ·rintro⟨x,h3,h4⟩;exact⟨x,hx.fol p x h3,h4⟩
 have H12:∀p i,p < st1.sets.length→(Hst s st2 p i↔Hst s st1 p i):=fun p i hp=>by
  obtain⟨y,hy⟩:∃y,st1.sets[p]?=some y:=⟨_,List.getElem?_eq_getElem hp⟩
  constructor
  ·rintro⟨q,c,h3,h4⟩
   rw[hx.sets p y hy]at h3;cases h3
   exact⟨y,c,hy,h4⟩
  ·rintro⟨q,c,h3,h4⟩;exact⟨q,c,hx.sets p q h3,h4⟩
 let D1:Nat→Prop:=fun p=>n0≤p∧p < st1.sets.length
 have w1:∀{p i q j},D1 p→Vw (Est st2) (Hst s st2) p i q j→Vw (Est st1) (Hst s st1) p i q j∧D1 q:=fun {p i q j} hd h=>
  h.mono (D:=D1) (fun p r hd he=>by have h4:=(e12 p r hd.2).1 he;exact⟨h4,h1.edge p r hd.1 h4,(Zh4 h1.ok h4).2⟩) (fun p i hd h=>(H12 p i hd.2).1 h) hd
 have w1':∀{p i q j},D1 p→Vw (Est st1) (Hst s st1) p i q j→Vw (Est st2) (Hst s st2) p i q j:=fun {p i q j} hd h=>
  (h.mono (D:=D1) (fun p r hd he=>⟨(e12 p r hd.2).2 he,h1.edge p r hd.1 he,(Zh4 h1.ok he).2⟩) (fun p i hd h=>(H12 p i hd.2).2 h) hd).1
 have w2:∀{p i q j},st1.sets.length≤p→Vw (Est st2) (Hst s st2) p i q j→st1.sets.length≤q:=fun {p i q j} hd h=>
  (h.mono (E':=Est st2) (H':=Hst s st2) (D:=fun p=>st1.sets.length≤p) (fun p r hd he=>⟨he,h2.edge p r hd he⟩) (fun p i _ h=>h) hd).2
 have d1f:∀p,P.first.testBit p=true→D1 p:=fun p hp=>⟨h1.fst p hp,h1.pin.1 p hp⟩
 have d1l:∀p,P.last.testBit p=true→D1 p:=fun p hp=>⟨h1.lst p hp,h1.pin.2 p hp⟩
 have dG:∀p,(ZsQ P X).first.testBit p=true↔P.first.testBit p=true∨X.first.testBit p=true:=fun p=>by simp[ZsQ,Nat.testBit_or]
 have cF:∀p,(ZsQ P X).last.testBit p=true↔P.last.testBit p=true∨X.last.testBit p=true:=fun p=>by simp[ZsQ,Nat.testBit_or]
 refine⟨h2.ok,Nat.le_trans h1.le bO,ZqW (h1.pin.mono bO) h2.pin,fun p hp=>?_,fun p hp=>?_,fun p r hp he=>?_,fun i j=>?_⟩
 ·rcases(dG p).1 hp with h|h
  ·exact h1.fst p h
  ·exact Nat.le_trans h1.le (h2.fst p h)
 ·rcases(cF p).1 hp with h|h
  ·exact h1.lst p h
  ·exact Nat.le_trans h1.le (h2.lst p h)
 ·by_cases iF:p < st1.sets.length
  ·exact h1.edge p r hp ((e12 p r iF).1 he)
  ·exact Nat.le_trans h1.le (h2.edge p r (by omega) he)
 ·constructor
  ·rintro(g|g)
   ·rcases(h1.lang i j).1 g with⟨n1,rfl⟩|⟨p,q,hp,hq,hv⟩
    ·exact .inl ⟨by show(P.null||X.null)=true;rw[n1];rfl,rfl⟩
    ·exact .inr ⟨p,q,(dG _).2 (.inl hp),(cF _).2 (.inl hq),w1' (d1f p hp) hv⟩
   ·rcases(h2.lang i j).1 g with⟨n1,rfl⟩|⟨p,q,hp,hq,hv⟩
    ·exact .inl ⟨by show(P.null||X.null)=true;rw[n1,Bool.or_true],rfl⟩
    ·exact .inr ⟨p,q,(dG _).2 (.inr hp),(cF _).2 (.inr hq),hv⟩
  ·rintro(⟨hn,rfl⟩|⟨p,q,hp,hq,hv⟩)
   ·have hn':(P.null||X.null)=true:=hn
    rw[Bool.or_eq_true]at hn'
    rcases hn' with h|h
    ·exact .inl ((h1.lang i i).2 (.inl ⟨h,rfl⟩))
    ·exact .inr ((h2.lang i i).2 (.inl ⟨h,rfl⟩))
   ·rcases(dG p).1 hp with iF|dD
    ·obtain⟨oF,lu⟩:=w1 (d1f p iF) hv
     rcases(cF q).1 hq with gB|iD
     ·exact .inl ((h1.lang i j).2 (.inr ⟨p,q,iF,gB,oF⟩))
     ·exact absurd (h2.lst q iD) (by have:=lu.2;omega)
    ·have lu:=w2 (h2.fst p dD) hv
     rcases(cF q).1 hq with gB|iD
     ·exact absurd (d1l q gB).2 (by omega)
     ·exact .inr ((h2.lang i j).2 (.inr ⟨p,q,dD,iD,hv⟩))
theorem Comp.loop{s:List Nat}{n0:Nat}{st:Ms}{P:Pt}{R:Re}(h:Comp s n0 st P R):Comp s n0 ⟨st.sets,ZbV st.fol P.last P.first⟩ P (fun i j=>∃n,1≤n∧pow R n i j):=by
 have cH:MsOk ⟨st.sets,ZbV st.fol P.last P.first⟩:=h.ok.loop _ _ h.pin.1
 have hE:∀p r,Est ⟨st.sets,ZbV st.fol P.last P.first⟩ p r↔Est st p r∨(p < st.sets.length∧P.last.testBit p=true∧P.first.testBit r=true):=fun p r=>by
  unfold Est
  simp only[Zh3]
  constructor
  ·rintro⟨x,h3,h4⟩
   obtain⟨y,hy,rfl⟩:=Option.map_eq_some_iff.1 h3
   have hp:p < st.sets.length:=by rw[←h.ok.len];exact(List.getElem?_eq_some_iff.1 hy).1
   by_cases hl:P.last.testBit p=true
   ·rw[if_pos hl]at h4
    rcases Zgs h4 with h5|h5
    ·exact .inl ⟨y,hy,h5⟩
    ·exact .inr ⟨hp,hl,h5⟩
   ·rw[if_neg hl]at h4;exact .inl ⟨y,hy,h4⟩
  ·rintro(⟨x,h3,h4⟩|⟨hp,hl,h4⟩)
   ·refine⟨_,by rw[h3];rfl,?_⟩
    split
    ·simp[Nat.testBit_or,h4]
    ·exact h4
   ·obtain⟨y,hy⟩:∃y,st.fol[p]?=some y:=⟨_,List.getElem?_eq_getElem (by rw[h.ok.len];exact hp)⟩
    exact⟨_,by rw[hy];rfl,by simp only[if_pos hl];simp[Nat.testBit_or,h4]⟩
 let D:Nat→Prop:=fun p=>n0≤p
 let Q:Re:=Seg (Est st) (Hst s st) (fun p=>P.first.testBit p=true) (fun p=>P.last.testBit p=true)
 have a1:∀p r,D p→Est ⟨st.sets,ZbV st.fol P.last P.first⟩ p r→(Est st p r∧D r)∨(P.last.testBit p=true∧P.first.testBit r=true):=fun p r hd he=>by
  rcases(hE p r).1 he with h3|h3
  ·exact .inl ⟨h3,h.edge p r hd h3⟩
  ·exact .inr h3.2
 have rM:∀i j,Seg (Est ⟨st.sets,ZbV st.fol P.last P.first⟩) (Hst s ⟨st.sets,ZbV st.fol P.last P.first⟩) (fun p=>P.first.testBit p=true) (fun p=>P.last.testBit p=true) i j↔∃n,1≤n∧pow Q n i j:=fun i j=>by
  constructor
  ·rintro⟨p,q,hp,hq,hv⟩
   obtain⟨l,m,n,g1,g2,g3⟩:=Vw.rounds (E:=Est st) (D:=D) (F:=fun p=>P.first.testBit p=true) (L:=fun p=>P.last.testBit p=true) a1 (fun r hr=>h.fst r hr) hv (h.fst p hp) hq
   exact⟨n+1,by omega,m,⟨p,l,hp,g2,g1⟩,g3⟩
  ·rintro⟨n,hn,hw⟩
   obtain⟨k,rfl⟩:∃k,n=k+1:=⟨n - 1,by omega⟩
   obtain⟨m,⟨p,l,hp,hl,hv⟩,hr⟩:=hw
   obtain⟨q,hq,mw⟩:=Zoo (E:=Est st) (E':=Est ⟨st.sets,ZbV st.fol P.last P.first⟩) (D:=D) (F:=fun p=>P.first.testBit p=true) (L:=fun p=>P.last.testBit p=true) (fun p r hd he=>⟨(hE p r).2 (.inl he),h.edge p r hd he⟩) (fun p r hp hr=>(hE p r).2 (.inr ⟨h.pin.2 p hp,hp,hr⟩)) (fun r hr=>h.fst r hr) k (h.fst p hp) hv hl hr
   exact⟨p,q,hp,hq,mw⟩
 refine⟨cH,h.le,h.pin,h.fst,h.lst,fun p r hp he=>?_,fun i j=>?_⟩
 ·rcases(hE p r).1 he with h3|h3
  ·exact h.edge p r hp h3
  ·exact h.fst r h3.2.2
 ·rw[rM]
  have rN:∀i j,R i j↔(P.null=true∧i=j)∨Q i j:=h.lang
  constructor
  ·rintro⟨n,hn,hw⟩
   have key:∀n i j,pow R n i j→(i=j∧(n=0∨P.null=true))∨∃k,1≤k∧pow Q k i j:=fun n=>by
    induction n with
    | zero=>exact fun i j e=>.inl ⟨e,.inl rfl⟩
    | succ n ih=>
     rintro i j ⟨m,g1,g2⟩
     rcases(rN i m).1 g1 with⟨hn,rfl⟩|hq
     ·rcases ih i j g2 with⟨e,_⟩|h3
      ·exact .inl ⟨e,.inr hn⟩
      ·exact .inr h3
     ·rcases ih m j g2 with⟨rfl,_⟩|⟨k,hk,h3⟩
      ·exact .inr ⟨1,by omega,m,hq,rfl⟩
      ·exact .inr ⟨k+1,by omega,m,hq,h3⟩
   rcases key n i j hw with⟨rfl,h0|h0⟩|h3
   ·omega
   ·exact .inl ⟨h0,rfl⟩
   ·exact .inr h3
  ·rintro(⟨hn,rfl⟩|⟨n,hn,hw⟩)
   ·exact⟨1,by omega,i,(rN i i).2 (.inl ⟨hn,rfl⟩),rfl⟩
   ·exact⟨n,hn,Zq4 (fun i j h=>(rN i j).2 (.inr h)) n i j hw⟩
end Go.Rx
namespace Go.Rx
open Go Go.Eng Go.RowKit
theorem Zq8{A:Nf}(hA:A.Ok){q:Int}(h:0≤q):A.acc1 q=true↔q∈A.last:=by
 unfold Nf.acc1
 rw[if_neg (by omega),ZqZ _ _ _ (fun p hp=>by have:=(hA.last.2 p hp).1;omega),show((q.toNat:Nat):Int)=q by omega]
 simp
theorem Zop(A:Nf):A.fromL (-1)=A.first:=by unfold Nf.fromL;rw[if_pos rfl]
end Go.Rx
namespace Go.Rx
open Go Go.Eng Go.RowKit
theorem ZkT(s:List Nat){st:Ms}(h:MsOk st)(b:Bool):Comp s st.sets.length st ⟨0,0,b⟩ (fun i j=>b=true∧i=j):=by
 refine⟨h,Nat.le_refl _,ZbN _ _,fun p hp=>by simp at hp,fun p hp=>by simp at hp,fun p r hp he=>by have:=(Zh4 h he).1;omega,fun i j=>?_⟩
 constructor
 ·exact fun g=>.inl g
 ·rintro(g|⟨p,q,hp,_⟩)
  ·exact g
  ·simp at hp
theorem ZiQ{st0 st2:Ms}(h0:MsOk st0)(hx:Ext st0 st2){a b:Nat}(ha:∀p,a.testBit p=true→st0.sets.length≤p):Ext st0 ⟨st2.sets,ZbV st2.fol a b⟩:=by
 refine⟨hx.sets,fun p x hp=>?_⟩
 have bM:p < st0.sets.length:=by rw[←h0.len];exact(List.getElem?_eq_some_iff.1 hp).1
 show(ZbV st2.fol a b)[p]?=some x
 rw[Zh3,hx.fol p x hp]
 simp only[Option.map_some]
 rw[if_neg (fun h=>by have:=ha p h;omega)]
theorem ZtY(s:List Nat){st:Ms}(h:MsOk st)(q:QS):Comp s st.sets.length ⟨st.sets++[q],st.fol++[0]⟩ ⟨2 ^ st.sets.length,2 ^ st.sets.length,false⟩ (fun i j=>j=i+1∧∃c,s[i]?=some c∧Zw7 q c=true):=by
 have hg:=Zgu h q
 have fU:∀p,(2 ^ st.sets.length).testBit p=true↔p=st.sets.length:=fun p=>⟨Zsa,fun e=>by rw[e];simp[Nat.testBit_two_pow]⟩
 have kT:(st.sets++[q])[st.sets.length]?=some q:=by simp
 have iq:∀r,¬Est ⟨st.sets++[q],st.fol++[0]⟩ st.sets.length r:=fun r ⟨x,h1,h2⟩=>by
  have:(st.fol++[0])[st.sets.length]?=some 0:=by rw[←h.len];simp
  rw[this]at h1;cases h1;simp at h2
 refine⟨hg.ok,hg.le,hg.pt,fun p hp=>by rw[(fU p).1 hp];exact Nat.le_refl _,fun p hp=>by rw[(fU p).1 hp];exact Nat.le_refl _,fun p r hp he=>?_,fun i j=>?_⟩
 ·have:=(Zh4 hg.ok he).1
  simp only[List.length_append,List.length_singleton]at this
  obtain rfl:p=st.sets.length:=by omega
  exact absurd he (iq r)
 ·constructor
  ·rintro⟨rfl,c,h1,h2⟩
   exact .inr ⟨_,_,(fU _).2 rfl,(fU _).2 rfl,.one ⟨q,c,kT,h1,h2⟩⟩
  ·rintro(⟨h1,_⟩|⟨p,p',hp,hp',hv⟩)
   ·cases h1
   ·obtain rfl:=(fU p).1 hp
    cases hv with
    | one h1=>
     obtain⟨q',c,h2,h3,h4⟩:=h1
     have h2':(st.sets++[q])[st.sets.length]?=some q':=h2
     rw[kT]at h2';cases h2'
     exact⟨rfl,c,h3,h4⟩
    | step h1 e _=>exact absurd e (iq _)
theorem Zvg(st:Ms)(q:QS):Ext st ⟨st.sets++[q],st.fol++[0]⟩:=
 ⟨fun p x h=>by show(st.sets++[q])[p]?=_;rw[List.getElem?_append_left (List.getElem?_eq_some_iff.1 h).1];exact h,fun p x h=>by show(st.fol++[0])[p]?=_;rw[List.getElem?_append_left (List.getElem?_eq_some_iff.1 h).1];exact h⟩
def Lk(R:Re)(mn k:Nat):Re:=fun i j=>∃n,min mn k≤n∧n≤k∧pow R n i j
theorem Zvh(R:Re)(mn k:Nat)(i j:Nat):Lk R mn (k+1) i j↔∃m,Lk R mn k i m∧(R m j∨(decide (mn≤k)=true∧m=j)):=by
 simp only[decide_eq_true_eq]
 constructor
 ·rintro⟨n,h1,h2,h3⟩
  by_cases hc:n≤k∧mn≤k
  ·exact⟨j,⟨n,by omega,hc.1,h3⟩,.inr ⟨hc.2,rfl⟩⟩
  ·cases n with
   | zero=>omega
   | succ n=>
    obtain⟨m,h4,h5⟩:=(ZkP R n i j).1 h3
    exact⟨m,⟨n,by omega,by omega,h4⟩,.inl h5⟩
 ·rintro⟨m,⟨n,h1,h2,h3⟩,h4|⟨h4,rfl⟩⟩
  ·exact⟨n+1,by omega,by omega,(ZkP R n i j).2 ⟨m,h3,h4⟩⟩
  ·exact⟨n,by omega,by omega,h3⟩
theorem Zvi(R:Re)(mn:Nat)(i j:Nat):(∃m,Lk R mn (max mn 1 - 1) i m∧((∃n,1≤n∧pow R n m j)∨(decide (mn≤max mn 1 - 1)=true∧m=j)))↔∃n,mn≤n∧pow R n i j:=by
 simp only[decide_eq_true_eq]
 constructor
 ·rintro⟨m,⟨n,h1,h2,h3⟩,⟨n2,h4,h5⟩|⟨h4,rfl⟩⟩
  ·exact⟨n+n2,by omega,(ZlS R n n2 i j).2 ⟨m,h3,h5⟩⟩
  ·exact⟨n,by omega,h3⟩
 ·rintro⟨n,h1,h2⟩
  by_cases h0:n=0
  ·subst h0
   exact⟨i,⟨0,by omega,by omega,rfl⟩,.inr ⟨by omega,h2⟩⟩
  ·obtain⟨m,h3,h4⟩:=(ZlS R (max mn 1 - 1) (n - (max mn 1 - 1)) i j).1 (by rw[show max mn 1 - 1+(n - (max mn 1 - 1))=n by omega];exact h2)
   exact⟨m,⟨_,by omega,Nat.le_refl _,h3⟩,.inl ⟨_,by omega,h4⟩⟩
theorem Zoq{s:List Nat}{f:Ms→Pt×Ms}{R:Re}(hf:∀st,MsOk st→Comp s st.sets.length (f st).2 (f st).1 R∧Ext st (f st).2){mn mx:Int}(pW:0≤mn){st0:Ms}(h0:MsOk st0){N:Nat}(hN:1≤N)(my:mx=-1→N=max mn.toNat 1):
  ∀(q k:Nat)(out:Pt)(st:Ms),q+k=N→0 < q→Comp s st0.sets.length st out (Lk R mn.toNat k)→Ext st0 st→
   Comp s st0.sets.length (Zht f mn mx N q k out st).2 (Zht f mn mx N q k out st).1 (if mx=-1 then(fun i j=>∃n,mn.toNat≤n∧pow R n i j)else Lk R mn.toNat N)∧Ext st0 (Zht f mn mx N q k out st).2
 | 0,k,out,st,_,h,_,_=>by omega
 | q+1,k,out,st,wV,_,hc,hx=>by
  obtain⟨hX,rO⟩:=hf st hc.ok
  have hd:decide ((k:Int) ≥ mn)=decide (mn.toNat≤k):=by rw[Bool.eq_iff_iff,decide_eq_true_eq,decide_eq_true_eq];omega
  by_cases cF:mx=-1∧k+1=N
  ·have hq:q=0:=by omega
   subst hq
   have oH:=hX.loop.opt (decide ((k:Int) ≥ mn))
   have tY:Ext st ⟨(f st).2.sets,ZbV (f st).2.fol (f st).1.last (f st).1.first⟩:=ZiQ hc.ok rO hX.lst
   have mz:=hc.seq oH tY
   rw[Zht,Zht]
   simp only[if_pos cF]
   refine⟨mz.congr fun i j=>?_,ZiQ h0 (hx.trans tY) hc.lst⟩
   rw[if_pos cF.1,hd]
   have hk:k=max mn.toNat 1 - 1:=by have:=my cF.1;omega
   rw[hk]
   exact(Zvi R mn.toNat i j).symm
  ·have rP:=hX.opt (decide ((k:Int) ≥ mn))
   have mz:=hc.seq rP rO
   have eK:Comp s st0.sets.length (Zcc out ⟨(f st).1.first,(f st).1.last,(f st).1.null||decide ((k:Int) ≥ mn)⟩ (f st).2).2 (Zcc out ⟨(f st).1.first,(f st).1.last,(f st).1.null||decide ((k:Int) ≥ mn)⟩ (f st).2).1 (Lk R mn.toNat (k+1)):=
    mz.congr fun i j=>by rw[hd];exact Zvh R mn.toNat k i j
   have iG:Ext st0 (Zcc out ⟨(f st).1.first,(f st).1.last,(f st).1.null||decide ((k:Int) ≥ mn)⟩ (f st).2).2:=ZiQ h0 (hx.trans rO) hc.lst
   rw[Zht]
   simp only[if_neg cF]
   by_cases hq:q=0
   ·subst hq
    have tZ:k+1=N:=by omega
    rw[Zht]
    rw[if_neg (fun h=>cF ⟨h,tZ⟩),←tZ]
    exact⟨eK,iG⟩
   ·exact Zoq hf pW h0 hN my q (k+1) _ _ (by omega) (by omega) eK iG
theorem ZlT{s:List Nat}{st0:Ms}(h0:MsOk st0):∀(l:List T),(∀x∈l,∀st,MsOk st→Comp s st.sets.length (mk x st).2 (mk x st).1 (x.M s)∧Ext st (mk x st).2)→∀(out:Pt)(st:Ms)(R:Re),Comp s st0.sets.length st out R→Ext st0 st→
  Comp s st0.sets.length (Zc1 l out st).2 (Zc1 l out st).1 (fun i j=>∃m,R i m∧MC s l m j)∧Ext st0 (Zc1 l out st).2
 | [],_,out,st,R,hc,hx=>by
  rw[Zc1]
  refine⟨hc.congr fun i j=>?_,hx⟩
  constructor
  ·rintro⟨m,h1,h2⟩;rw[Zh2]at h2;exact h2 ▸ h1
  ·exact fun h=>⟨j,h,(Zh2 j j).2 rfl⟩
 | t::l,hl,out,st,R,hc,hx=>by
  rw[Zc1]
  obtain⟨h1,h2⟩:=hl t (by simp) st hc.ok
  obtain⟨h3,h4⟩:=ZlT h0 l (fun x hx=>hl x (by simp[hx])) _ _ _ (hc.seq h1 h2) (ZiQ h0 (hx.trans h2) hc.lst)
  refine⟨h3.congr fun i j=>?_,h4⟩
  constructor
  ·rintro⟨m,g1,g2⟩
   obtain⟨m2,g3,g4⟩:=(Zer t l m j).1 g2
   exact⟨m2,⟨m,g1,g3⟩,g4⟩
  ·rintro⟨m2,⟨m,g1,g3⟩,g4⟩
   exact⟨m,g1,(Zer t l m j).2 ⟨m2,g3,g4⟩⟩
theorem ZlU{s:List Nat}{st0:Ms}(h0:MsOk st0):∀(l:List T),(∀x∈l,∀st,MsOk st→Comp s st.sets.length (mk x st).2 (mk x st).1 (x.M s)∧Ext st (mk x st).2)→∀(out:Pt)(st:Ms)(R:Re),Comp s st0.sets.length st out R→Ext st0 st→
  Comp s st0.sets.length (ZcJ l out st).2 (ZcJ l out st).1 (fun i j=>R i j∨MA s l i j)∧Ext st0 (ZcJ l out st).2
 | [],_,out,st,R,hc,hx=>by
  rw[ZcJ]
  refine⟨hc.congr fun i j=>?_,hx⟩
  rw[ZkQ,or_false]
 | t::l,hl,out,st,R,hc,hx=>by
  rw[ZcJ]
  obtain⟨h1,h2⟩:=hl t (by simp) st hc.ok
  obtain⟨h3,h4⟩:=ZlU h0 l (fun x hx=>hl x (by simp[hx])) _ _ _ (hc.alt h1 h2) (hx.trans h2)
  refine⟨h3.congr fun i j=>?_,h4⟩
  rw[ZdR,or_assoc]
theorem Zq9(s:List Nat):∀(t:T),(∀x∈t.nodes,x.right=true)→∀st,MsOk st→Comp s st.sets.length (mk t st).2 (mk t st).1 (t.M s)∧Ext st (mk t st).2:=by
 intro t bV st h
 have ih:∀x∈t.subs,∀st,MsOk st→Comp s st.sets.length (mk x st).2 (mk x st).1 (x.M s)∧Ext st (mk x st).2:=fun x hx=>Zq9 s x fun y hy=>bV y (by
  rw[Za4]
  obtain⟨i,hi⟩:=List.getElem?_of_mem hx
  rw[Zcs hi];simp[hy])
 have hr:=ZdQ (bV t (by rw[Za4];simp))
 have mA:t.subs.length=1→∃x,t.subs=[x]:=fun hl=>by
  match hs:t.subs,hl with
  | [x],_=>exact⟨x,rfl⟩
 rw[Zv6]
 rcases hr with⟨hk,_⟩|⟨hk,_⟩|hk|hk|⟨hk,h1,hb⟩|⟨hk,h1⟩
 ·rw[if_neg (by omega),if_pos hk]
  refine⟨(ZkT s h true).congr fun i j=>?_,Ext.refl _⟩
  rw[M_1 hk];simp
 ·rw[if_neg (by omega),if_neg (by omega),if_pos hk]
  refine⟨(ZtY s h _).congr fun i j=>?_,Zvg _ _⟩
  rw[M_2 hk];rfl
 ·rw[if_neg (by omega),if_neg (by omega),if_neg (by omega),if_pos hk]
  obtain⟨h2,h3⟩:=ZlT h t.subs ih _ _ _ (ZkT s h true) (Ext.refl _)
  refine⟨h2.congr fun i j=>?_,h3⟩
  rw[M_3 hk]
  constructor
  ·exact fun g=>⟨i,⟨rfl,rfl⟩,g⟩
  ·rintro⟨m,⟨_,rfl⟩,g⟩;exact g
 ·rw[if_neg (by omega),if_neg (by omega),if_neg (by omega),if_neg (by omega),if_pos hk]
  obtain⟨h2,h3⟩:=ZlU h t.subs ih _ _ _ (ZkT s h false) (Ext.refl _)
  refine⟨h2.congr fun i j=>?_,h3⟩
  rw[M_4 hk];simp
 ·rw[if_neg (by omega),if_neg (by omega),if_neg (by omega),if_neg (by omega),if_neg (by omega),if_pos hk]
  obtain⟨x,hx⟩:=mA h1
  have rQ:0≤t.mn∧(t.mx=-1∨(1≤t.mx∧t.mn≤t.mx)):=by
   unfold Zcm at hb
   simp only[Bool.and_eq_true,Bool.not_eq_true',Bool.or_eq_false_iff,Bool.or_eq_true,decide_eq_false_iff_not,decide_eq_true_eq,beq_iff_eq]at hb
   omega
  have hN:1≤ZmV t.mn t.mx∧(t.mx=-1→ZmV t.mn t.mx=max t.mn.toNat 1):=by
   unfold ZmV
   by_cases hm:t.mx=-1
   ·rw[if_pos hm];omega
   ·rw[if_neg hm];omega
  have hf:∀st,MsOk st→Comp s st.sets.length (Zhj t.subs st).2 (Zhj t.subs st).1 (MH s t.subs)∧Ext st (Zhj t.subs st).2:=fun st cL=>by
   rw[hx,Zhj,Zfm]
   exact ih x (by rw[hx];simp) st cL
  have mB:Comp s st.sets.length st ⟨0,0,true⟩ (Lk (MH s t.subs) t.mn.toNat 0):=(ZkT s h true).congr fun i j=>by
   constructor
   ·rintro⟨n,_,h3,h4⟩
    obtain rfl:n=0:=by omega
    exact⟨rfl,h4⟩
   ·rintro⟨_,rfl⟩;exact⟨0,by omega,by omega,rfl⟩
  obtain⟨h2,h3⟩:=Zoq (f:=fun s=>Zhj t.subs s) hf rQ.1 h hN.1 hN.2 (ZmV t.mn t.mx) 0 ⟨0,0,true⟩ st (by omega) (by omega) mB (Ext.refl _)
  refine⟨h2.congr fun i j=>?_,h3⟩
  rw[M_5 hk]
  by_cases hm:t.mx=-1
  ·rw[if_pos hm]
   constructor
   ·rintro⟨n,g1,_,g3⟩;exact⟨n,g1,g3⟩
   ·rintro⟨n,g1,g3⟩;exact⟨n,g1,.inl hm,g3⟩
  ·rw[if_neg hm]
   have e:ZmV t.mn t.mx=t.mx.toNat:=by unfold ZmV;rw[if_neg hm]
   constructor
   ·rintro⟨n,g1,g2|g2,g3⟩
    ·exact absurd g2 hm
    ·exact⟨n,by omega,by omega,g3⟩
   ·rintro⟨n,g1,g2,g3⟩;exact⟨n,by omega,.inr (by omega),g3⟩
 ·rw[if_neg (by omega),if_neg (by omega),if_neg (by omega),if_neg (by omega),if_neg (by omega),if_neg (by omega)]
  obtain⟨x,hx⟩:=mA h1
  rw[hx,Zhj]
  obtain⟨h2,h3⟩:=ih x (by rw[hx];simp) st h
  refine⟨h2.congr fun i j=>?_,h3⟩
  rw[M_6 hk,hx,Zfm]
termination_by t=>SizeOf.sizeOf t
decreasing_by exact ZkD hx
end Go.Rx
namespace Go.Rx
open Go Go.Eng Go.RowKit
inductive Pth (st:Ms):Nat→Nat→Prop
 | refl (p:Nat):Pth st p p
 | step {p r q:Nat} (e:Est st p r) (k:Pth st r q):Pth st p q
theorem Pth.mono{st st':Ms}(h:∀p r,Est st p r→Est st' p r){p q:Nat}(k:Pth st p q):Pth st' p q:=by
 induction k with
 | refl p=>exact .refl p
 | step e _ ih=>exact .step (h _ _ e) ih
theorem Pth.trans{st:Ms}{p r q:Nat}(h:Pth st p r)(k:Pth st r q):Pth st p q:=by
 induction h with
 | refl p=>exact k
 | step e _ ih=>exact .step e (ih k)
theorem Ext.est{a b:Ms}(h:Ext a b){p r:Nat}(e:Est a p r):Est b p r:=by
 obtain⟨x,h1,h2⟩:=e
 exact⟨x,h.fol p x h1,h2⟩
theorem Zm1{st:Ms}(h:MsOk st)(a b:Nat){p r:Nat}:Est ⟨st.sets,ZbV st.fol a b⟩ p r↔Est st p r∨(p < st.sets.length∧a.testBit p=true∧b.testBit r=true):=by
 unfold Est
 simp only[Zh3]
 constructor
 ·rintro⟨x,h3,h4⟩
  obtain⟨y,hy,rfl⟩:=Option.map_eq_some_iff.1 h3
  have hp:p < st.sets.length:=by rw[←h.len];exact(List.getElem?_eq_some_iff.1 hy).1
  by_cases hl:a.testBit p=true
  ·rw[if_pos hl]at h4
   rcases Zgs h4 with h5|h5
   ·exact .inl ⟨y,hy,h5⟩
   ·exact .inr ⟨hp,hl,h5⟩
  ·rw[if_neg hl]at h4;exact .inl ⟨y,hy,h4⟩
 ·rintro(⟨x,h3,h4⟩|⟨hp,hl,h4⟩)
  ·refine⟨_,by rw[h3];rfl,?_⟩
   split
   ·simp[Nat.testBit_or,h4]
   ·exact h4
  ·obtain⟨y,hy⟩:∃y,st.fol[p]?=some y:=⟨_,List.getElem?_eq_getElem (by rw[h.len];exact hp)⟩
   exact⟨_,by rw[hy];rfl,by simp only[if_pos hl];simp[Nat.testBit_or,h4]⟩
structure Liv (n0:Nat)(st:Ms)(P:Pt):Prop where
 ok:MsOk st
 le:n0≤st.sets.length
 fst:∀p,P.first.testBit p=true→n0≤p∧p < st.sets.length
 lst:∀p,P.last.testBit p=true→n0≤p∧p < st.sets.length
 fr:∀p,n0≤p→p < st.sets.length→∃a,P.first.testBit a=true∧Pth st a p
 to:∀p,n0≤p→p < st.sets.length→∃b,P.last.testBit b=true∧Pth st p b
def NeP(P:Pt):Prop:=P.null=true∨((∃a,P.first.testBit a=true)∧∃b,P.last.testBit b=true)
theorem Liv.nil{st:Ms}(h:MsOk st)(b:Bool):Liv st.sets.length st ⟨0,0,b⟩:=
 ⟨h,Nat.le_refl _,fun p hp=>by simp at hp,fun p hp=>by simp at hp,fun p h1 h2=>by omega,fun p h1 h2=>by omega⟩
theorem Liv.opt{n0:Nat}{st:Ms}{P:Pt}(h:Liv n0 st P)(b:Bool):Liv n0 st ⟨P.first,P.last,b⟩:=⟨h.ok,h.le,h.fst,h.lst,h.fr,h.to⟩
theorem NeP.opt{P:Pt}(h:NeP P)(b:Bool):NeP ⟨P.first,P.last,P.null||b⟩:=by
 rcases h with h|h
 ·exact .inl (by simp[h])
 ·exact .inr h
theorem Liv.loop{n0:Nat}{st:Ms}{P:Pt}(h:Liv n0 st P):Liv n0 ⟨st.sets,ZbV st.fol P.last P.first⟩ P:=by
 have hm:∀p r,Est st p r→Est ⟨st.sets,ZbV st.fol P.last P.first⟩ p r:=fun p r e=>(Zm1 h.ok _ _).2 (.inl e)
 refine⟨h.ok.loop _ _ (fun p hp=>(h.fst p hp).2),h.le,h.fst,h.lst,fun p h1 h2=>?_,fun p h1 h2=>?_⟩
 ·obtain⟨a,h3,h4⟩:=h.fr p h1 h2;exact⟨a,h3,h4.mono hm⟩
 ·obtain⟨a,h3,h4⟩:=h.to p h1 h2;exact⟨a,h3,h4.mono hm⟩
theorem NeP.then{P X:Pt}(h:NeP P)(k:NeP X):NeP (ZmU P X):=by
 unfold NeP ZmU at *
 cases hp:P.null <;> cases hx:X.null <;> simp only[hp,hx,Bool.false_eq_true,if_false,if_true,false_or,or_false,true_or,Bool.and_false,Bool.and_true,Bool.false_and]at *
 ·obtain⟨⟨a,ha⟩,b,hb⟩:=h
  exact⟨⟨a,ha⟩,k.2⟩
 ·obtain⟨⟨a,ha⟩,b,hb⟩:=h
  exact⟨⟨a,ha⟩,b,by simp[Nat.testBit_or,hb]⟩
 ·obtain⟨⟨a,ha⟩,b,hb⟩:=k
  exact⟨⟨a,by simp[Nat.testBit_or,ha]⟩,b,hb⟩
theorem Liv.seq{n0:Nat}{st1 st2:Ms}{P X:Pt}(h1:Liv n0 st1 P)(h2:Liv st1.sets.length st2 X)(hx:Ext st1 st2)(hP:NeP P)(hX:NeP X):Liv n0 (Zcc P X st2).2 (Zcc P X st2).1:=by
 have cN:=h1.le
 have bO:=h2.le
 have bP:∀p r,Est st2 p r→Est (Zcc P X st2).2 p r:=fun p r e=>(Zm1 h2.ok _ _).2 (.inl e)
 have bJ:∀p r,Est st1 p r→Est (Zcc P X st2).2 p r:=fun p r e=>bP p r (hx.est e)
 have hj:∀p r,P.last.testBit p=true→X.first.testBit r=true→Est (Zcc P X st2).2 p r:=fun p r hp hr=>(Zm1 h2.ok _ _).2 (.inr ⟨by have:=(h1.lst p hp).2;omega,hp,hr⟩)
 have nh:∀a,P.first.testBit a=true→(Zcc P X st2).1.first.testBit a=true:=fun a ha=>by
  show(if P.null=true then P.first|||X.first else P.first).testBit a=true
  split
  ·simp[Nat.testBit_or,ha]
  ·exact ha
 have mC:∀a,X.last.testBit a=true→(Zcc P X st2).1.last.testBit a=true:=fun a ha=>by
  show(if X.null=true then X.last|||P.last else X.last).testBit a=true
  split
  ·simp[Nat.testBit_or,ha]
  ·exact ha
 refine⟨h2.ok.loop _ _ (fun p hp=>(h2.fst p hp).2),Nat.le_trans cN bO,fun p hp=>?_,fun p hp=>?_,fun p hp dD=>?_,fun p hp dD=>?_⟩
 ·have hp':(if P.null=true then P.first|||X.first else P.first).testBit p=true:=hp
  show n0≤p∧p < st2.sets.length
  split at hp'
  ·rcases Zgs hp' with h|h
   ·have:=h1.fst p h;omega
   ·have:=h2.fst p h;omega
  ·have:=h1.fst p hp';omega
 ·have hp':(if X.null=true then X.last|||P.last else X.last).testBit p=true:=hp
  show n0≤p∧p < st2.sets.length
  split at hp'
  ·rcases Zgs hp' with h|h
   ·have:=h2.lst p h;omega
   ·have:=h1.lst p h;omega
  ·have:=h2.lst p hp';omega
 ·by_cases hs:p < st1.sets.length
  ·obtain⟨a,h3,h4⟩:=h1.fr p hp hs
   exact⟨a,nh a h3,h4.mono bJ⟩
  ·obtain⟨a,h3,h4⟩:=h2.fr p (by omega) dD
   rcases hP with hn|⟨_,b,hb⟩
   ·refine⟨a,?_,h4.mono bP⟩
    show(if P.null=true then P.first|||X.first else P.first).testBit a=true
    rw[if_pos hn];simp[Nat.testBit_or,h3]
   ·obtain⟨c,h5,h6⟩:=h1.fr b (h1.lst b hb).1 (h1.lst b hb).2
    exact⟨c,nh c h5,(h6.mono bJ).trans (.step (hj b a hb h3) (h4.mono bP))⟩
 ·by_cases hs:p < st1.sets.length
  ·obtain⟨b,h3,h4⟩:=h1.to p hp hs
   rcases hX with hn|⟨⟨a,ha⟩,_⟩
   ·refine⟨b,?_,h4.mono bJ⟩
    show(if X.null=true then X.last|||P.last else X.last).testBit b=true
    rw[if_pos hn];simp[Nat.testBit_or,h3]
   ·obtain⟨c,h5,h6⟩:=h2.to a (h2.fst a ha).1 (h2.fst a ha).2
    exact⟨c,mC c h5,(h4.mono bJ).trans (.step (hj b a h3 ha) (h6.mono bP))⟩
  ·obtain⟨b,h3,h4⟩:=h2.to p (by omega) dD
   exact⟨b,mC b h3,h4.mono bP⟩
theorem Liv.alt{n0:Nat}{st1 st2:Ms}{P X:Pt}(h1:Liv n0 st1 P)(h2:Liv st1.sets.length st2 X)(hx:Ext st1 st2):Liv n0 st2 (ZsQ P X):=by
 have cN:=h1.le
 have bO:=h2.le
 refine⟨h2.ok,Nat.le_trans cN bO,fun p hp=>?_,fun p hp=>?_,fun p hp dD=>?_,fun p hp dD=>?_⟩
 ·rcases Zgs (show(P.first|||X.first).testBit p=true from hp)with h|h
  ·have:=h1.fst p h;omega
  ·have:=h2.fst p h;omega
 ·rcases Zgs (show(P.last|||X.last).testBit p=true from hp)with h|h
  ·have:=h1.lst p h;omega
  ·have:=h2.lst p h;omega
 ·by_cases hs:p < st1.sets.length
  ·obtain⟨a,h3,h4⟩:=h1.fr p hp hs
   exact⟨a,by show(P.first|||X.first).testBit a=true;simp[Nat.testBit_or,h3],h4.mono fun _ _ e=>hx.est e⟩
  ·obtain⟨a,h3,h4⟩:=h2.fr p (by omega) dD
   exact⟨a,by show(P.first|||X.first).testBit a=true;simp[Nat.testBit_or,h3],h4⟩
 ·by_cases hs:p < st1.sets.length
  ·obtain⟨a,h3,h4⟩:=h1.to p hp hs
   exact⟨a,by show(P.last|||X.last).testBit a=true;simp[Nat.testBit_or,h3],h4.mono fun _ _ e=>hx.est e⟩
  ·obtain⟨a,h3,h4⟩:=h2.to p (by omega) dD
   exact⟨a,by show(P.last|||X.last).testBit a=true;simp[Nat.testBit_or,h3],h4⟩
theorem NeP.alt2{P X:Pt}(h:NeP X):NeP (ZsQ P X):=by
 rcases h with h|⟨⟨a,ha⟩,b,hb⟩
 ·exact .inl (by simp[ZsQ,h])
 ·exact .inr ⟨⟨a,by simp[ZsQ,Nat.testBit_or,ha]⟩,b,by simp[ZsQ,Nat.testBit_or,hb]⟩
def ZwV(f:Ms→Pt×Ms):Prop:=∀st,MsOk st→Liv st.sets.length (f st).2 (f st).1∧NeP (f st).1∧Ext st (f st).2
theorem Zm2{f:Ms→Pt×Ms}(hf:ZwV f){mn mx:Int}{n0:Nat}{N:Nat}:
  ∀(q k:Nat)(out:Pt)(st:Ms),Liv n0 st out→NeP out→Liv n0 (Zht f mn mx N q k out st).2 (Zht f mn mx N q k out st).1∧NeP (Zht f mn mx N q k out st).1
 | 0,k,out,st,h,hn=>⟨h,hn⟩
 | q+1,k,out,st,h,hn=>by
  obtain⟨h1,h2,h3⟩:=hf st h.ok
  rw[Zht]
  by_cases hl:mx=-1∧k+1=N
  ·simp only[if_pos hl]
   exact Zm2 hf q (k+1) _ _ (h.seq (h1.loop.opt _) (ZiQ h.ok h3 fun p hp=>(h1.lst p hp).1) hn (h2.opt _)) (hn.then (h2.opt _))
  ·simp only[if_neg hl]
   exact Zm2 hf q (k+1) _ _ (h.seq (h1.opt _) h3 hn (h2.opt _)) (hn.then (h2.opt _))
theorem Zor{n0:Nat}:∀(l:List T),(∀x∈l,ZwV (mk x))→∀(out:Pt)(st:Ms),Liv n0 st out→NeP out→Liv n0 (Zc1 l out st).2 (Zc1 l out st).1∧NeP (Zc1 l out st).1
 | [],_,out,st,h,hn=>by rw[Zc1];exact⟨h,hn⟩
 | t::l,hl,out,st,h,hn=>by
  rw[Zc1]
  obtain⟨h1,h2,h3⟩:=hl t (by simp) st h.ok
  exact Zor l (fun x hx=>hl x (by simp[hx])) _ _ (h.seq h1 h3 hn h2) (hn.then h2)
theorem Zos{n0:Nat}:∀(l:List T),(∀x∈l,ZwV (mk x))→∀(out:Pt)(st:Ms),Liv n0 st out→Liv n0 (ZcJ l out st).2 (ZcJ l out st).1∧(NeP out∨l≠[]→NeP (ZcJ l out st).1)
 | [],_,out,st,h=>by rw[ZcJ];exact⟨h,fun g=>g.elim id fun g=>absurd rfl g⟩
 | t::l,hl,out,st,h=>by
  rw[ZcJ]
  obtain⟨h1,h2,h3⟩:=hl t (by simp) st h.ok
  obtain⟨h4,h5⟩:=Zos l (fun x hx=>hl x (by simp[hx])) _ _ (h.alt h1 h3)
  exact⟨h4,fun _=>h5 (.inl h2.alt2)⟩
theorem ZjQ{n p:Nat}:(2 ^ n).testBit p=true↔p=n:=⟨Zsa,fun e=>by rw[e];simp[Nat.testBit_two_pow]⟩
theorem Liv.one{st:Ms}(h:MsOk st)(q:Int×Int×Int×Int):Liv st.sets.length ⟨st.sets++[q],st.fol++[0]⟩ ⟨2 ^ st.sets.length,2 ^ st.sets.length,false⟩:=by
 refine⟨(Zgu h _).ok,(Zgu h _).le,fun p hp=>?_,fun p hp=>?_,fun p hp dD=>?_,fun p hp dD=>?_⟩
 ·rw[ZjQ.1 hp];exact⟨Nat.le_refl _,by simp⟩
 ·rw[ZjQ.1 hp];exact⟨Nat.le_refl _,by simp⟩
 ·simp only[List.length_append,List.length_singleton]at dD
  obtain rfl:p=st.sets.length:=by omega
  exact⟨_,ZjQ.2 rfl,.refl _⟩
 ·simp only[List.length_append,List.length_singleton]at dD
  obtain rfl:p=st.sets.length:=by omega
  exact⟨_,ZjQ.2 rfl,.refl _⟩
theorem Zsg:∀(t:T),(∀x∈t.nodes,x.right=true)→ZwV (mk t):=by
 intro t bV st h
 have oI:=(Zq9 [] t bV st h).2
 refine⟨?_,?_,oI⟩ <;> revert oI
 all_goals
  intro _
  have ih:∀x∈t.subs,ZwV (mk x):=fun x hx=>Zsg x fun y hy=>bV y (by
   rw[Za4]
   obtain⟨i,hi⟩:=List.getElem?_of_mem hx
   rw[Zcs hi];simp[hy])
  have eW:=bV t (by rw[Za4];simp)
  have hr:=ZdQ eW
  have mA:t.subs.length=1→∃x,t.subs=[x]:=fun hl=>by
   match hs:t.subs,hl with
   | [x],_=>exact⟨x,rfl⟩
  rw[Zv6]
  rcases hr with⟨hk,_⟩|⟨hk,_⟩|hk|hk|⟨hk,h1,hb⟩|⟨hk,h1⟩
  ·rw[if_neg (by omega),if_pos hk]
   first|exact Liv.nil h true|exact .inl rfl
  ·rw[if_neg (by omega),if_neg (by omega),if_pos hk]
   first|exact Liv.one h _|exact .inr ⟨⟨_,ZjQ.2 rfl⟩,_,ZjQ.2 rfl⟩
  ·rw[if_neg (by omega),if_neg (by omega),if_neg (by omega),if_pos hk]
   have hh:=Zor t.subs ih _ _ (Liv.nil h true) (.inl rfl)
   first|exact hh.1|exact hh.2
  ·rw[if_neg (by omega),if_neg (by omega),if_neg (by omega),if_neg (by omega),if_pos hk]
   have hh:=Zos t.subs ih _ _ (Liv.nil h false)
   have dH:t.subs≠[]:=fun e=>by
    unfold T.right at eW
    rw[if_neg (by omega),if_neg (by omega),if_neg (by omega),if_pos hk,e]at eW
    simp at eW
   first|exact hh.1|exact hh.2 (.inr dH)
  ·rw[if_neg (by omega),if_neg (by omega),if_neg (by omega),if_neg (by omega),if_neg (by omega),if_pos hk]
   obtain⟨x,hx⟩:=mA h1
   have hf:ZwV (fun s=>Zhj t.subs s):=by
    rw[hx]
    intro s hs
    have:=ih x (by rw[hx];simp) s hs
    simpa only[Zhj]using this
   have hh:=Zm2 hf (mn:=t.mn) (mx:=t.mx) (N:=ZmV t.mn t.mx) (ZmV t.mn t.mx) 0 ⟨0,0,true⟩ st (Liv.nil h true) (.inl rfl)
   first|exact hh.1|exact hh.2
  ·rw[if_neg (by omega),if_neg (by omega),if_neg (by omega),if_neg (by omega),if_neg (by omega),if_neg (by omega)]
   obtain⟨x,hx⟩:=mA h1
   have hh:=ih x (by rw[hx];simp) st h
   rw[hx,Zhj]
   first|exact hh.1|exact hh.2.1
termination_by t=>SizeOf.sizeOf t
decreasing_by all_goals exact ZkD hx
theorem ZtZ{t:T}(h:t.nfit=true){p r:Nat}(e:Est (mk t ⟨[],[]⟩).2 p r):(r:Int)∈t.auto.fromL p:=by
 obtain⟨x,h1,h2⟩:=e
 have cH:=(Zsg t (Zfj h).2.1 ⟨[],[]⟩ ⟨rfl,fun j x hj=>by simp at hj⟩).1.ok
 have hr:=cH.fol p x h1 r h2
 have hn:t.auto.sets.length≤400:=(Zoj h).n
 have hn':(mk t ⟨[],[]⟩).2.sets.length≤400:=hn
 unfold Nf.fromL
 rw[if_neg (by omega),Int.toNat_natCast,show t.auto.fol=(mk t ⟨[],[]⟩).2.fol.map ZbJ from rfl,List.getElem?_map,h1]
 exact Zee.2 ⟨r,by omega,h2,rfl⟩
theorem Zt0{t:T}(h:t.nfit=true){p:Nat}{r:Int}(e:r∈t.auto.fromL p):∃k:Nat,r=k∧Est (mk t ⟨[],[]⟩).2 p k:=by
 unfold Nf.fromL at e
 rw[if_neg (by omega),Int.toNat_natCast,show t.auto.fol=(mk t ⟨[],[]⟩).2.fol.map ZbJ from rfl,List.getElem?_map]at e
 cases hx:(mk t ⟨[],[]⟩).2.fol[p]? with
 | none=>rw[hx]at e;simp at e
 | some x=>
  rw[hx]at e
  obtain⟨i,_,h2,h3⟩:=Zee.1 (show r∈ZbJ x from e)
  exact⟨i,h3,x,hx,h2⟩
end Go.Rx
namespace Go.Rx
open Go Go.Eng Go.RowKit
theorem Vw.lt{E H:Nat→Nat→Prop}{p i q j:Nat}(h:Vw E H p i q j):i < j:=by
 induction h with
 | one _=>omega
 | step _ _ _ ih=>omega
theorem Ztd{E H:Nat→Nat→Prop}{p i q k:Nat}:Vw E H p i q (k+1)↔(∃r,Vw E H p i r k∧E r q∧H q k)∨(i=k∧p=q∧H p k):=by
 constructor
 ·intro h
  generalize hj:k+1=j at h
  induction h with
  | @one p i h=>
   obtain rfl:k=i:=by omega
   exact .inr ⟨rfl,rfl,h⟩
  | @step p i r q j h e v ih=>
   rcases ih hj with⟨r2,h1,h2,h3⟩|⟨rfl,rfl,h2⟩
   ·exact .inl ⟨r2,.step h e h1,h2,h3⟩
   ·exact .inl ⟨p,.one h,e,h2⟩
 ·rintro(⟨r,h1,h2,h3⟩|⟨rfl,rfl,h⟩)
  ·exact h1.trans h2 (.one h3)
  ·exact .one h
def Nf.behind(A:Nf)(s:List Nat)(again:Bool)(k:Nat):List Int:=(s.take k).foldl (A.next again) [-1]
theorem Zot(A:Nf)(s:List Nat)(again:Bool){k c:Nat}(h:s[k]?=some c):A.behind s again (k+1)=A.next again (A.behind s again k) c:=by
 unfold Nf.behind
 rw[List.take_add_one,h,Option.toList_some,List.foldl_append]
 rfl
theorem Zt1{A:Nf}(hA:A.Ok){again:Bool}{l:List Int}{c:Nat}{x:Int}:x∈A.next again l c↔(again=true∧x=-1)∨(0≤x∧(∃p∈l,x∈A.fromL p)∧A.hasAt x c=true):=by
 unfold Nf.next
 cases again
 ·simp only[Bool.false_eq_true,if_false,false_and,false_or];exact ZkO hA
 ·simp only[if_true,List.mem_cons,true_and,ZkO hA]
theorem ZiR{t:T}(h:t.nfit=true){s:List Nat}{again:Bool}:∀(k:Nat),k≤s.length→∀x:Int,x∈t.auto.behind s again k↔(x=-1∧(k=0∨again=true))∨∃(p q i:Nat),x=q∧(again=true∨i=0)∧(mk t ⟨[],[]⟩).1.first.testBit p=true∧Vw (Est (mk t ⟨[],[]⟩).2) (Hst s (mk t ⟨[],[]⟩).2) p i q k:=by
 have hA:=Zoj h
 have hl:=(Zsg t (Zfj h).2.1 ⟨[],[]⟩ ⟨rfl,fun j x hj=>by simp at hj⟩).1
 have hn:t.auto.sets.length≤400:=hA.n
 have hn':(mk t ⟨[],[]⟩).2.sets.length≤400:=hn
 have kT:t.auto.sets=(mk t ⟨[],[]⟩).2.sets:=rfl
 intro k
 induction k with
 | zero=>
  intro _ x
  unfold Nf.behind
  simp only[List.take_zero,List.foldl_nil,List.mem_singleton,true_or,and_true]
  exact⟨.inl,fun g=>g.elim id fun⟨p,q,i,_,_,_,hv⟩=>absurd hv.lt (by omega)⟩
 | succ k ih=>
  intro hk x
  obtain⟨c,hc⟩:∃c,s[k]?=some c:=⟨_,List.getElem?_eq_getElem (by omega)⟩
  rw[Zot _ _ _ hc,Zt1 hA]
  have hH:∀q:Nat,q < t.auto.sets.length→(t.auto.hasAt q c=true↔Hst s (mk t ⟨[],[]⟩).2 q k):=fun q hq=>by
   obtain⟨u,hu⟩:∃u,t.auto.sets[q]?=some u:=⟨_,List.getElem?_eq_getElem hq⟩
   unfold Nf.hasAt Hst
   rw[Int.toNat_natCast,hu]
   constructor
   ·intro g;exact⟨u,c,hu,hc,g⟩
   ·rintro⟨u',c',h1,h2,h3⟩
    rw[←kT,hu]at h1;rw[hc]at h2
    cases h1;cases h2;exact h3
  have dG:∀y:Int,y∈t.auto.fromL (-1)↔∃q:Nat,y=q∧(mk t ⟨[],[]⟩).1.first.testBit q=true:=fun y=>by
   rw[Zop]
   show y∈ZbJ _↔_
   rw[Zee]
   constructor
   ·rintro⟨i,_,h1,h2⟩;exact⟨i,h2,h1⟩
   ·rintro⟨i,h2,h1⟩;exact⟨i,by have:=(hl.fst i h1).2;omega,h1,h2⟩
  have hk':k≤s.length:=by omega
  constructor
  ·rintro(⟨h1,h2⟩|⟨h0,⟨p,hp,hx⟩,f9⟩)
   ·exact .inl ⟨h2,.inr h1⟩
   ·right
    rcases(ih hk' p).1 hp with⟨rfl,h2⟩|⟨f,q,i,rfl,h3,h4,h5⟩
    ·obtain⟨q,rfl,hq⟩:=(dG x).1 hx
     have hw:=(hH q (hl.fst q hq).2).1 f9
     exact⟨q,q,k,rfl,h2.symm,hq,.one hw⟩
    ·obtain⟨r,rfl,he⟩:=Zt0 h hx
     have hw:=(hH r (Zh4 hl.ok he).2).1 f9
     exact⟨f,r,i,rfl,h3,h4,Ztd.2 (.inl ⟨q,h5,he,hw⟩)⟩
  ·rintro(⟨rfl,h1|h1⟩|⟨p,q,i,rfl,h2,h3,h4⟩)
   ·omega
   ·exact .inl ⟨h1,rfl⟩
   ·right
    rcases Ztd.1 h4 with⟨r,h5,h6,h7⟩|⟨rfl,rfl,h7⟩
    ·exact⟨by omega,⟨r,(ih hk' r).2 (.inr ⟨p,r,i,rfl,h2,h3,h5⟩),ZtZ h h6⟩,(hH q (Zh4 hl.ok h6).2).2 h7⟩
    ·exact⟨by omega,⟨-1,(ih hk' (-1)).2 (.inl ⟨rfl,h2.symm⟩),(dG _).2 ⟨p,rfl,h3⟩⟩,(hH p (hl.fst p h3).2).2 h7⟩
theorem ZpS{t:T}(h:t.nfit=true){s:List Nat}{again:Bool}{k:Nat}(hk:k≤s.length):t.auto.accepts (t.auto.behind s again k)=true↔∃i,i≤k∧(again=true∨i=0)∧t.M s i k:=by
 have hA:=Zoj h
 have hl:=(Zsg t (Zfj h).2.1 ⟨[],[]⟩ ⟨rfl,fun j x hj=>by simp at hj⟩).1
 have hc:=(Zq9 s t (Zfj h).2.1 ⟨[],[]⟩ ⟨rfl,fun j x hj=>by simp at hj⟩).1
 have hn:t.auto.sets.length≤400:=hA.n
 have hn':(mk t ⟨[],[]⟩).2.sets.length≤400:=hn
 unfold Nf.accepts
 rw[List.any_eq_true]
 constructor
 ·rintro⟨x,hx,ha⟩
  rcases(ZiR h k hk x).1 hx with⟨rfl,h2⟩|⟨p,q,i,rfl,h3,h4,h5⟩
  ·have ha':t.auto.empty=true:=by simpa[Nf.acc1]using ha
   refine⟨k,Nat.le_refl _,h2.symm,(hc.lang k k).2 (.inl ⟨ha',rfl⟩)⟩
  ·rw[Zq8 hA (by omega)]at ha
   obtain⟨j,_,h6,h7⟩:=Zee.1 (show(q:Int)∈ZbJ (mk t ⟨[],[]⟩).1.last from ha)
   obtain rfl:q=j:=by omega
   exact⟨i,by have:=h5.lt;omega,h3,(hc.lang i k).2 (.inr ⟨p,q,h4,h6,h5⟩)⟩
 ·rintro⟨i,hi,h1,h2⟩
  rcases(hc.lang i k).1 h2 with⟨h3,rfl⟩|⟨p,q,h3,h4,h5⟩
  ·exact⟨-1,(ZiR h i hk _).2 (.inl ⟨rfl,h1.symm⟩),by unfold Nf.acc1;rw[if_pos rfl];exact h3⟩
  ·exact⟨q,(ZiR h k hk _).2 (.inr ⟨p,q,i,rfl,h1,h3,h5⟩),(Zq8 hA (by omega)).2 (Zee.2 ⟨q,by have:=(hl.lst q h4).2;omega,h4,rfl⟩)⟩
theorem ZbO{t:T}(h:t.nfit=true)(s:List Nat):t.auto.matches s=true↔t.M s 0 s.length:=by
 have e:t.auto.run s [-1]=t.auto.behind s false s.length:=by
  unfold Nf.run Nf.behind
  rw[List.take_length]
  rfl
 unfold Nf.matches
 rw[e,ZpS h (Nat.le_refl _)]
 constructor
 ·rintro⟨i,_,h1|rfl,h2⟩
  ·cases h1
  ·exact h2
 ·exact fun h=>⟨0,Nat.zero_le _,.inr rfl,h⟩
end Go.Rx
namespace Go.Rx
open Go Go.Eng Go.RowKit
set_option maxRecDepth 100000
def ZuC(R:Re)(k:Nat):Prop:=∃c,pow R c 0 k
theorem Zsh{R:Re}{i k:Nat}(h:ZuC R i)(h2:R i k):ZuC R k:=by
 obtain⟨c,hc⟩:=h
 exact⟨c+1,(ZkP R c 0 k).2 ⟨i,hc,h2⟩⟩
theorem Zra{R:Re}(hf:Fwd R):∀c k,pow R c 0 k→k=0∨∃i,i < k∧ZuC R i∧R i k
 | 0,k,h=>.inl (show k=0 from Eq.symm h)
 | c+1,k,h=>by
  obtain⟨i,h1,h2⟩:=(ZkP R c 0 k).1 h
  by_cases e:i=k
  ·subst e;exact Zra hf c i h1
  ·have:=hf _ _ h2
   exact .inr ⟨i,by omega,⟨c,h1⟩,h2⟩
noncomputable def Zmu(R:Re)(i k x:Nat):Bool:=open Classical in decide (x=0∨(∃i',i' < i∧i' < x∧ZuC R i'∧R i' x)∨(i < x∧x < k∧ZuC R i∧R i x))
theorem Zfn{R:Re}{i k x:Nat}:Zmu R i k x=true↔(x=0∨(∃i',i' < i∧i' < x∧ZuC R i'∧R i' x)∨(i < x∧x < k∧ZuC R i∧R i x)):=by unfold Zmu;simp
theorem Zsi(R:Re)(n:Nat)(hn:0 < n):(ZkS (fun _=>false) n).set 0 1=ZkS (Zmu R 0 0) n:=by
 rw[show(1:Nat)=if true=true then 1 else 0 from rfl,Zq7 _ hn]
 refine Ze2 fun x hx=>?_
 rw[Bool.eq_iff_iff,Zfn]
 by_cases e:x=0 <;> simp[e]
theorem Zvj{R:Re}{i n:Nat}:ZkS (Zmu R i 0) n=ZkS (Zmu R i (i+1)) n:=by
 refine Ze2 fun x hx=>?_
 rw[Bool.eq_iff_iff,Zfn,Zfn]
 constructor
 ·rintro(h|h|h)
  ·exact .inl h
  ·exact .inr (.inl h)
  ·omega
 ·rintro(h|h|h)
  ·exact .inl h
  ·exact .inr (.inl h)
  ·omega
theorem Zm3{R:Re}(hf:Fwd R){i k:Nat}:Zmu R i k i=true↔ZuC R i:=by
 rw[Zfn]
 constructor
 ·rintro(h|⟨i',_,_,h1,h2⟩|h)
  ·subst h;exact⟨0,rfl⟩
  ·exact Zsh h1 h2
  ·omega
 ·rintro⟨c,hc⟩
  rcases Zra hf c i hc with h|⟨i',h1,h2,h3⟩
  ·exact .inl h
  ·exact .inr (.inl ⟨i',h1,h1,h2,h3⟩)
theorem Zvk{R:Re}{i k n:Nat}(hk:k < n)(hi:i < k)(hs:ZuC R i)(h:R i k):(ZkS (Zmu R i k) n).set k 1=ZkS (Zmu R i (k+1)) n:=by
 have e1:=Zq7 (Zmu R i k) hk true
 rw[if_pos rfl]at e1
 rw[e1]
 refine Ze2 fun x hx=>?_
 rw[Bool.eq_iff_iff,Zfn]
 by_cases e:x=k
 ·subst e
  simp only[if_true,true_iff]
  exact .inr (.inr ⟨hi,by omega,hs,h⟩)
 ·rw[if_neg e,Zfn]
  constructor
  ·rintro(h|h|h)
   ·exact .inl h
   ·exact .inr (.inl h)
   ·exact .inr (.inr ⟨h.1,by omega,h.2.2⟩)
  ·rintro(h|h|h)
   ·exact .inl h
   ·exact .inr (.inl h)
   ·exact .inr (.inr ⟨h.1,by omega,h.2.2⟩)
theorem Zt2{R:Re}{i k n:Nat}(h:¬R i k):ZkS (Zmu R i k) n=ZkS (Zmu R i (k+1)) n:=by
 refine Ze2 fun x hx=>?_
 rw[Bool.eq_iff_iff,Zfn,Zfn]
 constructor
 ·rintro(h|h|h)
  ·exact .inl h
  ·exact .inr (.inl h)
  ·exact .inr (.inr ⟨h.1,by omega,h.2.2⟩)
 ·rintro(h1|h1|h1)
  ·exact .inl h1
  ·exact .inr (.inl h1)
  ·by_cases e:x=k
   ·subst e;exact absurd h1.2.2.2 h
   ·exact .inr (.inr ⟨h1.1,by omega,h1.2.2⟩)
theorem Zt3{R:Re}(hf:Fwd R){i k n:Nat}(h:k=n∨¬ZuC R i):ZkS (Zmu R i k) n=ZkS (Zmu R (i+1) 0) n:=by
 refine Ze2 fun x hx=>?_
 rw[Bool.eq_iff_iff,Zfn,Zfn]
 constructor
 ·rintro(h1|⟨i',h1,h2⟩|h1)
  ·exact .inl h1
  ·exact .inr (.inl ⟨i',by omega,h2⟩)
  ·exact .inr (.inl ⟨i,by omega,h1.1,h1.2.2⟩)
 ·rintro(h1|⟨i',h1,h2,h3,h4⟩|h1)
  ·exact .inl h1
  ·by_cases e:i'=i
   ·subst e
    rcases h with h|h
    ·exact .inr (.inr ⟨h2,by omega,h3,h4⟩)
    ·exact absurd h3 h
   ·exact .inr (.inl ⟨i',by omega,h2,h3,h4⟩)
  ·omega
noncomputable def ZvM(R Q:Re)(n i:Nat):Bool:=open Classical in decide (∃i',i' < i∧R 0 i'∧Q i' n)
theorem Zsj{R Q:Re}{n i:Nat}{A B:Bool}(hA:A=true↔R 0 i)(hB:B=true↔Q i n):ZvM R Q n (i+1)=(ZvM R Q n i||(A&&B)):=by
 rw[Bool.eq_iff_iff]
 unfold ZvM
 simp only[Bool.or_eq_true,Bool.and_eq_true,decide_eq_true_eq,hA,hB]
 constructor
 ·rintro⟨i',h1,h2⟩
  by_cases e:i'=i
  ·subst e;exact .inr h2
  ·exact .inl ⟨i',by omega,h2⟩
 ·rintro(⟨i',h1,h2⟩|h)
  ·exact⟨i',by omega,h2⟩
  ·exact⟨i,by omega,h⟩
theorem Zrb{t:T}(h:t.nfit=true)(hg:t.good=true){S:List Nat}{i j:Nat}(hi:i≤j)(hj:j≤S.length):t.auto.matches ((S.drop i).take (j - i))=true↔t.M S i j:=(ZbO h _).trans (Zxp hg hi hj)
theorem Zxr{t u w:T}{a c}(ht:t.check=0)(hu:u.check=0)(h:ZvL 4 a c T0 (Zcn 4 0 [t,u]) w)(hw:w.check=0)(S:List Nat):w.auto.matches S=(t.auto.matches S||u.auto.matches S):=by
 rw[Bool.eq_iff_iff,Bool.or_eq_true,ZbO (ZbK hw).1,ZbO (ZbK ht).1,ZbO (ZbK hu).1,Zve h hw,Ztb _ _ _ _ (by
  intro x hx
  simp at hx
  rcases hx with rfl|rfl
  ·exact Zol (Zfl ht)
  ·exact Zol (Zfl hu)),ZdR,ZdR,ZkQ,or_false]
theorem Zwq{t u w:T}{a c}(ht:t.check=0)(h:ZvL 3 a c T1 (Zcn 3 1 [t,u]) w)(hw:w.check=0)(S:List Nat):w.auto.matches S=ZvM (t.M S) (u.M S) S.length (S.length+1):=by
 rw[Bool.eq_iff_iff,ZbO (ZbK hw).1,ZtX h hw,Ztc,Zer]
 unfold ZvM
 simp only[Zer,Zh2,decide_eq_true_eq]
 constructor
 ·rintro⟨i,h1,j,h2,rfl⟩
  have:=Zxo (Zgq ht).1 h1 (by omega)
  exact⟨i,by omega,h1,h2⟩
 ·rintro⟨i,_,h1,h2⟩;exact⟨i,h1,_,h2,rfl⟩
theorem Zt4{t w:T}(ht:t.check=0)(h:Zvc t 0 (-1) w)(hw:w.check=0)(S:List Nat):w.auto.matches S=Zmu (t.M S) S.length 0 S.length:=by
 have hf:Fwd (t.M S):=fun i j h=>ZxO (Zgq ht).1 h
 rw[Bool.eq_iff_iff,ZbO (ZbK hw).1,Zvf h hw,Zm3 hf]
 constructor
 ·rintro⟨c,_,_,h⟩;exact⟨c,h⟩
 ·rintro⟨c,h⟩;exact⟨c,by simp,.inl rfl,h⟩
theorem Zt5{t w:T}{a c}(ht:t.check=0)(h:Zv8 (Zbb 6 0 0 a c [t]) w)(hw:w.check=0)(S:List Nat):w.auto.matches S=t.auto.matches S:=by
 rw[Bool.eq_iff_iff,ZbO (ZbK hw).1,ZbO (ZbK ht).1,Zom h hw,M_6 rfl,show(Zbb 6 0 0 a c [t]).subs=[t] from rfl,Zfm]
end Go.Rx

