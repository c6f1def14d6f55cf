/- Trees of regexes, what they mean, and wz they lie in memory; plain, no program is named. No condition. -/
import Derived.Test.YtplacemlpkhmfaaMc
set_option linter.unusedVariables false
set_option linter.unusedSimpArgs false
namespace Go.Rx
open Go Go.Eng
inductive T where
 | node (k s0 s1 s2 s3 mn mx:Int) (a:Option Addr) (c:Nat) (subs:List T)
def T.k:T→Int
 | .node k _ _ _ _ _ _ _ _ _=>k
def T.s0:T→Int
 | .node _ s _ _ _ _ _ _ _ _=>s
def T.s1:T→Int
 | .node _ _ s _ _ _ _ _ _ _=>s
def T.s2:T→Int
 | .node _ _ _ s _ _ _ _ _ _=>s
def T.s3:T→Int
 | .node _ _ _ _ s _ _ _ _ _=>s
def T.mn:T→Int
 | .node _ _ _ _ _ x _ _ _ _=>x
def T.mx:T→Int
 | .node _ _ _ _ _ _ x _ _ _=>x
def T.a:T→Option Addr
 | .node _ _ _ _ _ _ _ a _ _=>a
def T.c:T→Nat
 | .node _ _ _ _ _ _ _ _ c _=>c
def T.subs:T→List T
 | .node _ _ _ _ _ _ _ _ _ l=>l
def T.sl(t:T):Value:=.slice t.a t.subs.length t.c
def T.cs(t:T):List Value:=[.int .u8 t.k,.int .u64 t.s0,.int .u64 t.s1,.int .u64 t.s2,.int .u64 t.s3,.int .i64 t.mn,.int .i64 t.mx,t.sl]
def T.v(t:T):Value:=.agg #[.int .u8 t.k,.int .u64 t.s0,.int .u64 t.s1,.int .u64 t.s2,.int .u64 t.s3,.int .i64 t.mn,.int .i64 t.mx,.slice t.a t.subs.length t.c]
structure OkN (k s0 s1 s2 s3 mn mx:Int):Prop where
 k:0≤k∧k < 256
 s0:0≤s0∧s0 < 18446744073709551616
 s1:0≤s1∧s1 < 18446744073709551616
 s2:0≤s2∧s2 < 18446744073709551616
 s3:0≤s3∧s3 < 18446744073709551616
 mn : -9223372036854775808≤mn∧mn≤9223372036854775807
 mx : -9223372036854775808≤mx∧mx≤9223372036854775807
mutual
def Rep(m:Mem):T→Prop
 | .node k s0 s1 s2 s3 mn mx a _ l=>l.length≤1000000000000000∧(l=[]∨∃b o,a=some ⟨b,o,none⟩∧RepAt m b o l)∧OkN k s0 s1 s2 s3 mn mx
def RepAt(m:Mem)(b:Nat):Nat→List T→Prop
 | _,[]=>True
 | o,t::l=>m.reads b o t.cs∧Rep m t∧RepAt m b (o+8) l
end
theorem Zcp{m:Mem}{t:T}:Rep m t→(t.subs.length≤1000000000000000∧(t.subs=[]∨∃b o,t.a=some ⟨b,o,none⟩∧RepAt m b o t.subs)):=by
 cases t;simp only[Rep,T.subs,T.a];exact fun h=>⟨h.1,h.2.1⟩
theorem Zu8{m:Mem}{t:T}:Rep m t→OkN t.k t.s0 t.s1 t.s2 t.s3 t.mn t.mx:=by
 cases t;simp only[Rep];exact fun h=>h.2.2
mutual
theorem Rep.mono{m m':Mem}(h:m.le m'):∀t:T,Rep m t→Rep m' t
 | .node _ _ _ _ _ _ _ a _ l,hr=>by
  simp only[Rep]at *
  refine⟨hr.1,?_,hr.2.2⟩
  rcases hr.2.1 with hr|⟨b,o,h1,h2⟩
  ·exact .inl hr
  ·exact .inr ⟨b,o,h1,RepAt.mono h b o l h2⟩
theorem RepAt.mono{m m':Mem}(h:m.le m')(b:Nat):∀(o:Nat)(l:List T),RepAt m b o l→RepAt m' b o l
 | _,[],_=>by simp only[RepAt]
 | o,t::l,hr=>by
  simp only[RepAt]at *
  exact⟨hr.1.mono h,Rep.mono h t hr.2.1,RepAt.mono h b (o+8) l hr.2.2⟩
end
theorem RepAt.get{m:Mem}{b:Nat}:∀{o:Nat} {l:List T} {i:Nat} {t:T},RepAt m b o l→l[i]?=some t→m.reads b (o+i*8) t.cs∧Rep m t
 | o,[],i,t,_,hi=>by simp at hi
 | o,x::l,0,t,h,hi=>by
  simp only[RepAt]at h
  simp at hi;subst hi
  exact⟨by simpa using h.1,h.2.1⟩
 | o,x::l,i+1,t,h,hi=>by
  simp only[RepAt]at h
  have:=h.2.2.get (i:=i) (by simpa using hi)
  rw[show o+(i+1)*8=o+8+i*8 by omega]
  exact this
mutual
def T.nodes:T→List T
 | .node k s0 s1 s2 s3 mn mx a c l=>.node k s0 s1 s2 s3 mn mx a c l::Zau l
def Zau:List T→List T
 | []=>[]
 | t::l=>t.nodes++Zau l
end
theorem ZaX(t:T):t.nodes=t::Zau t.subs:=by cases t;simp only[T.nodes,T.subs]
theorem Zdw(l r:List T):Zau (l++r)=Zau l++Zau r:=by
 induction l with
 | nil=>simp[Zau]
 | cons t l ih=>simp[Zau,ih,List.append_assoc]
theorem ZoQ{l:List T}{i:Nat}{t:T}(h:l[i]?=some t):Zau (l.take (i+1))=Zau (l.take i)++t.nodes:=by
 have:l.take (i+1)=l.take i++[t]:=by
  rw[List.take_add_one,h];rfl
 rw[this,Zdw];simp[Zau]
theorem Zcq{l:List T}{i:Nat}{t:T}(h:l[i]?=some t):Zau l=Zau (l.take i)++(t.nodes++Zau (l.drop (i+1))):=by
 have bS:=(List.getElem?_eq_some_iff.1 h).1
 have e:l=l.take i++(t::l.drop (i+1)):=by
  have:=List.drop_eq_getElem_cons bS
  rw[(List.getElem?_eq_some_iff.1 h).2]at this
  rw[←this,List.take_append_drop]
 conv=>lhs;rw[e,Zdw]
 simp[Zau]
theorem Zu9{t x z:T}{i q:Nat}(hx:t.subs[i]?=some x)(hz:x.nodes[q]?=some z):t.nodes[1+(Zau (t.subs.take i)).length+q]?=some z:=by
 have hq:=(List.getElem?_eq_some_iff.1 hz).1
 rw[ZaX,show 1+(Zau (t.subs.take i)).length+q=((Zau (t.subs.take i)).length+q)+1 by omega,List.getElem?_cons_succ,Zcq hx,List.getElem?_append_right (by omega),List.getElem?_append_left (by omega),show(Zau (List.take i t.subs)).length+q - (Zau (List.take i t.subs)).length=q by omega]
 exact hz
theorem ZjU{t x:T}(h:x∈t.subs):SizeOf.sizeOf x < SizeOf.sizeOf t:=by
 cases t with
 | node k s0 s1 s2 s3 mn mx a c l=>
  have h':x∈l:=h
  have:=List.sizeOf_lt_of_mem h'
  simp only[T.node.sizeOf_spec]
  omega
theorem ZqB(t:T):Shape.fitsL [.agg [.int .u8,.int .u64,.int .u64,.int .u64,.int .u64,.int .i64,.int .i64,.slice]] [t.v]=true:=by
 simp[Shape.fitsL,Shape.fits,T.v]
mutual
theorem ZrM{m:Mem}:∀(t:T),Rep m t→∀x∈t.nodes,Rep m x
 | .node k s0 s1 s2 s3 mn mx a c l,hr,x,hx=>by
  simp only[T.nodes,List.mem_cons]at hx
  rcases hx with rfl|hx
  ·exact hr
  ·simp only[Rep]at hr
   rcases hr.2.1 with h|⟨b,o,_,h⟩
   ·subst h;simp[Zau]at hx
   ·exact ZoR b o l h x hx
theorem ZoR{m:Mem}(b:Nat):∀(o:Nat)(l:List T),RepAt m b o l→∀x∈Zau l,Rep m x
 | _,[],_,x,hx=>by simp[Zau]at hx
 | o,t::l,hr,x,hx=>by
  simp only[RepAt]at hr
  simp only[Zau,List.mem_append]at hx
  rcases hx with hx|hx
  ·exact ZrM t hr.2.1 x hx
  ·exact ZoR b (o+8) l hr.2.2 x hx
end
theorem ZoS{m:Mem}{t x:T}(h:Rep m t)(hx:x∈t.nodes):Rep m x:=ZrM t h x hx
def Zdx(least most:Int):Bool:=!(decide (least < 0)||decide (least > 16)||(least == 1&&most == 1))&&(most == -1||(decide (most ≥ 1)&&decide (most≤16)&&decide (most ≥ least)))
def T.has(t:T)(k:Int):Bool:=t.subs.any fun x=>x.k == k
def T.light(t:T):Bool:=decide (t.nodes.length≤10000)
def T.setZ(t:T):Bool:=t.s0 == 0&&t.s1 == 0&&t.s2 == 0&&t.s3 == 0
def T.right(t:T):Bool:=
 !(t.k != 2&&!t.setZ||(t.k != 5&&(t.mn != 0||t.mx != 0)||(decide (t.k < 3)&&decide (0 < t.subs.length)))) &&
 (if t.k=1 then true else if t.k=2 then !t.setZ else if t.k=3 then decide (1 < t.subs.length)&&(!t.has 1&&!t.has 3)else if t.k=4 then decide (1 < t.subs.length)&&!t.has 4
  else if t.k=5 then t.subs.length == 1&&(Zdx t.mn t.mx&&!t.has 1)else t.k == 6&&t.subs.length == 1)
def T.clean(t:T):Bool:=t.light&&t.nodes.all T.right
def T.size(t:T):Int:=if t.light then t.nodes.length else 10001
def T.groups(t:T):Int:=if t.light then(t.nodes.countP fun x=>x.k == 6:Nat)else 10001
def ZmE(x y:Int):Int:=if y > x then y else x
def Zns(x y:Int):Int:=if y < x then y else x
def Zva(k mn mx sum:Int):Int:=Zns (if k=5 then sum*Zns (if mx=-1 then ZmE (ZmE mn 0) 1 else ZmE (ZmE mn 0) mx) 10001 else sum) 10001
mutual
def T.pos:T→Int
 | .node k _ _ _ _ mn mx _ _ l=>Zva k mn mx ((if k=2 then 1 else 0)+Zdy l)
def Zdy:List T→Int
 | []=>0
 | t::l=>t.pos+Zdy l
end
def T.positions(t:T):Int:=if t.light then t.pos else 10001
def T.check(t:T):Int:=if t.clean=false then 80 else if t.size > 120 then 81 else if t.positions > 400 then 82 else if t.groups > 9 then 83 else 0
mutual
def T.same:T→T→Bool
 | .node k s0 s1 s2 s3 mn mx _ _ l,.node k' s0' s1' s2' s3' mn' mx' _ _ l'=>k == k'&&((s0 == s0'&&s1 == s1'&&s2 == s2'&&s3 == s3')&&(mn == mn'&&(mx == mx'&&Zh6 l l')))
def Zh6:List T→List T→Bool
 | [],[]=>true
 | t::l,t'::l'=>t.same t'&&Zh6 l l'
 | _,_=>false
end
theorem Zwv(t u:T):t.same u=(t.k == u.k&&((t.s0 == u.s0&&t.s1 == u.s1&&t.s2 == u.s2&&t.s3 == u.s3)&&(t.mn == u.mn&&(t.mx == u.mx&&Zh6 t.subs u.subs)))):=by
 cases t;cases u;simp only[T.same,T.k,T.s0,T.s1,T.s2,T.s3,T.mn,T.mx,T.subs]
theorem ZoT:∀{l r:List T},¬l.length=r.length→Zh6 l r=false
 | [],[],h=>by simp at h
 | [],_::_,_=>by simp[Zh6]
 | _::_,[],_=>by simp[Zh6]
 | x::l,y::r,h=>by
  simp only[Zh6,ZoT (l:=l) (r:=r) (by simpa using h),Bool.and_false]
theorem ZrN:∀{l r:List T} {i:Nat} {x y:T},l[i]?=some x→r[i]?=some y→x.same y=false→Zh6 l r=false
 | [],r,i,x,y,h,_,_=>by simp at h
 | _::_,[],i,x,y,_,h,_=>by simp at h
 | a::l,b::r,0,x,y,h,k,e=>by
  simp at h k;subst h k
  simp[Zh6,e]
 | a::l,b::r,i+1,x,y,h,k,e=>by
  simp only[Zh6,ZrN (l:=l) (r:=r) (i:=i) (by simpa using h) (by simpa using k) e,Bool.and_false]
theorem ZmF:∀{l r:List T} {i:Nat} {x y:T},l[i]?=some x→r[i]?=some y→Zh6 (l.take i) (r.take i)=true→x.same y=true→True→Zh6 (l.take (i+1)) (r.take (i+1))=true
 | [],r,i,x,y,h,_,_,_,_=>by simp at h
 | _::_,[],i,x,y,_,h,_,_,_=>by simp at h
 | a::l,b::r,0,x,y,h,k,_,e,_=>by
  simp at h k;subst h k
  simp[Zh6,e]
 | a::l,b::r,i+1,x,y,h,k,hs,e,_=>by
  simp only[List.take_succ_cons,Zh6,Bool.and_eq_true]at hs ⊢
  exact⟨hs.1,ZmF (by simpa using h) (by simpa using k) hs.2 e trivial⟩
theorem ZqC(t:T):t.pos=Zva t.k t.mn t.mx ((if t.k=2 then 1 else 0)+Zdy t.subs):=by
 cases t;simp only[T.pos,T.k,T.mn,T.mx,T.subs];congr 1
theorem Zbc(l r:List T):Zdy (l++r)=Zdy l+Zdy r:=by
 induction l with
 | nil=>simp[Zdy]
 | cons t l ih=>simp[Zdy,ih,Int.add_assoc]
theorem Zs2{l:List T}{i:Nat}{t:T}(h:l[i]?=some t):Zdy (l.take (i+1))=Zdy (l.take i)+t.pos:=by
 have:l.take (i+1)=l.take i++[t]:=by
  rw[List.take_add_one,h];rfl
 rw[this,Zbc];simp[Zdy]
theorem ZrO(x y:Int):x≤ZmE x y∧y≤ZmE x y:=by unfold ZmE;split <;> omega
theorem ZmG(x y:Int):Zns x y≤x∧Zns x y≤y:=by unfold Zns;split <;> omega
theorem Zua{x y:Int}(h:0≤x)(k:0≤y):0≤Zns x y:=by unfold Zns;split <;> omega
def Zvb(mn mx:Int):Int:=Zns (if mx=-1 then ZmE (ZmE mn 0) 1 else ZmE (ZmE mn 0) mx) 10001
theorem Zub(mn mx:Int):0≤Zvb mn mx∧Zvb mn mx≤10001:=by
 unfold Zvb
 refine⟨Zua ?_ (by omega),(ZmG _ _).2⟩
 have h1:=ZrO mn 0
 split
 ·have:=ZrO (ZmE mn 0) 1;omega
 ·have:=ZrO (ZmE mn 0) mx;omega
theorem Zww{k mn mx sum:Int}(h:0≤sum):0≤Zva k mn mx sum∧Zva k mn mx sum≤10001:=by
 have h2:=Int.mul_nonneg h (Zub mn mx).1
 unfold Zva
 refine⟨Zua ?_ (by omega),(ZmG _ _).2⟩
 split
 ·exact h2
 ·exact h
mutual
theorem Zg4:∀t:T,0≤t.pos∧t.pos≤10001
 | .node k _ _ _ _ mn mx _ _ l=>by
  simp only[T.pos]
  have:=ZfE l
  exact Zww (by split <;> omega)
theorem ZfE:∀l:List T,0≤Zdy l
 | []=>by simp[Zdy]
 | t::l=>by
  simp only[Zdy]
  have:=Zg4 t
  have:=ZfE l
  omega
end
theorem Zuc:∀l:List T,Zdy l≤10001*l.length
 | []=>by simp[Zdy]
 | t::l=>by
  simp only[Zdy,List.length_cons]
  have:=Zg4 t
  have:=Zuc l
  omega
theorem Zud(t:T):t.subs.length < t.nodes.length:=by
 rw[ZaX,List.length_cons]
 have:∀l:List T,l.length≤(Zau l).length:=by
  intro l
  induction l with
  | nil=>simp[Zau]
  | cons x l ih=>simp only[Zau,List.length_cons,List.length_append];rw[ZaX];simp;omega
 have:=this t.subs
 omega
theorem Zs3{t x:T}(h:x∈t.subs):x.nodes.length < t.nodes.length:=by
 obtain⟨i,hi⟩:=List.getElem?_of_mem h
 rw[ZaX t,List.length_cons,Zcq hi]
 simp;omega
def T.hasB(t:T)(c:Nat):Bool:=((if c / 64=0 then t.s0 else if c / 64=1 then t.s1 else if c / 64=2 then t.s2 else t.s3).toNat).testBit (c % 64)
end Go.Rx
namespace Go.Rx
open Go Go.Eng Go.RowKit
def wdN(f j:Nat):Nat:=(f >>> (64*j)) % 2 ^ 64
theorem Zg5(f j:Nat):wdN f j < 18446744073709551616:=by
 unfold wdN
 exact Nat.mod_lt _ (by decide)
theorem Ziy(f j k:Nat):(wdN f j).testBit k=(decide (k < 64)&&f.testBit (64*j+k)):=by
 unfold wdN
 rw[Nat.testBit_mod_two_pow,Nat.testBit_shiftRight]
theorem Zvc(f g j:Nat):wdN (f|||g) j=wdN f j|||wdN g j:=by
 apply Nat.eq_of_testBit_eq
 intro k
 simp only[Ziy,Nat.testBit_or]
 cases decide (k < 64) <;> simp
theorem Zue{q r j:Nat}(hr:r < 64):wdN (2 ^ (64*q+r)) j=if j=q then 2 ^ r else 0:=by
 apply Nat.eq_of_testBit_eq
 intro k
 rw[Ziy,Nat.testBit_two_pow]
 by_cases hj:j=q
 ·subst hj
  rw[if_pos rfl,Nat.testBit_two_pow]
  by_cases hk:k < 64
  ·simp[hk]
  ·have:¬r=k:=by omega
   simp[hk,this]
 ·rw[if_neg hj]
  simp only[Nat.zero_testBit,Bool.and_eq_false_iff,decide_eq_false_iff_not]
  omega
theorem Zs4(n:Nat)(h:n < 18446744073709551616):IntKind.u64.wrap (n:Int)=n:=by
 unfold IntKind.wrap
 have e:(2:Int) ^ 64=18446744073709551616:=by decide
 simp only[IntKind.bits,IntKind.signed,Bool.false_and,Bool.false_eq_true,if_false,e]
 omega
theorem ZyC(a:Nat)(h:a < 18446744073709551616):(BitVec.ofInt 64 (a:Int)).toNat=a:=by
 rw[BitVec.toNat_ofInt]
 have e:((2:Nat) ^ 64:Nat)=18446744073709551616:=by decide
 rw[e];omega
theorem Zjw(a b:Nat)(ha:a < 18446744073709551616)(hb:b < 18446744073709551616):IntKind.u64.wrap ((BitVec.ofInt 64 (a:Int)|||BitVec.ofInt 64 (b:Int)).toNat:Int)=((a|||b:Nat):Int):=by
 rw[BitVec.toNat_or,ZyC a ha,ZyC b hb]
 exact Zs4 _ (Nat.or_lt_two_pow (n:=64) ha hb)
theorem ZlE(a r:Nat)(ha:a < 18446744073709551616):(IntKind.u64.wrap ((BitVec.ofInt 64 (Int.fdiv (a:Int) (2 ^ r))&&&BitVec.ofInt 64 1).toNat:Int) == 1)=a.testBit r:=by
 have e:Int.fdiv (a:Int) (2 ^ r)=((a >>> r:Nat):Int):=by
  rw[Nat.shiftRight_eq_div_pow,Int.fdiv_eq_ediv_of_nonneg _ (Int.pow_nonneg (by omega))]
  push_cast
  rfl
 have bS:a >>> r < 18446744073709551616:=Nat.lt_of_le_of_lt (Nat.shiftRight_le a r) ha
 rw[e,BitVec.toNat_and,ZyC _ bS]
 have h1:(BitVec.ofInt 64 1).toNat=1:=by decide
 rw[h1,Zs4 _ (Nat.lt_of_le_of_lt Nat.and_le_left bS),Nat.and_one_is_mod]
 have e2:a.testBit r=decide (a >>> r % 2=1):=by
  rw[Nat.shiftRight_eq_div_pow];exact Nat.testBit_eq_decide_div_mod_eq
 rw[e2,Bool.eq_iff_iff]
 simp only[beq_iff_eq,decide_eq_true_eq]
 omega
def plL(f:Nat):List Value:=[.int .u64 (wdN f 0:Nat),.int .u64 (wdN f 1:Nat),.int .u64 (wdN f 2:Nat),.int .u64 (wdN f 3:Nat),.int .u64 (wdN f 4:Nat),.int .u64 (wdN f 5:Nat),.int .u64 (wdN f 6:Nat),.int .u64 (wdN f 7:Nat),.int .u64 (wdN f 8:Nat)]
def plV(f:Nat):Value:=.agg #[.int .u64 (wdN f 0:Nat),.int .u64 (wdN f 1:Nat),.int .u64 (wdN f 2:Nat),.int .u64 (wdN f 3:Nat),.int .u64 (wdN f 4:Nat),.int .u64 (wdN f 5:Nat),.int .u64 (wdN f 6:Nat),.int .u64 (wdN f 7:Nat),.int .u64 (wdN f 8:Nat)]
theorem Zuf{f j:Nat}(h:j < 9):(plL f)[j]?=some (.int .u64 (wdN f j:Nat)):=by
 have:j=0∨j=1∨j=2∨j=3∨j=4∨j=5∨j=6∨j=7∨j=8:=by omega
 rcases this with rfl|rfl|rfl|rfl|rfl|rfl|rfl|rfl|rfl <;> rfl
theorem ZyO{q r:Nat}(hq:q < 9)(hr:r < 64):Zan (List.replicate 9 (Value.int .u64 0)) q [.int .u64 ((2 ^ r:Nat):Int)]=plL (2 ^ (64*q+r)):=by
 unfold plL
 simp only[Zue hr]
 have:q=0∨q=1∨q=2∨q=3∨q=4∨q=5∨q=6∨q=7∨q=8:=by omega
 rcases this with rfl|rfl|rfl|rfl|rfl|rfl|rfl|rfl|rfl <;> rfl
def orL(f g k:Nat):List Value:=(List.range 9).map fun j=>.int .u64 ((if j < k then wdN (f|||g) j else wdN f j:Nat):Int)
theorem Zwx{f g k j:Nat}(h:j < 9):(orL f g k)[j]?=some (.int .u64 ((if j < k then wdN (f|||g) j else wdN f j:Nat):Int)):=by
 simp[orL,h]
theorem Zvd{f g k:Nat}(h:k < 9):Zan (orL f g k) k [.int .u64 ((wdN f k|||wdN g k:Nat):Int)]=orL f g (k+1):=by
 rw[←Zvc]
 have:k=0∨k=1∨k=2∨k=3∨k=4∨k=5∨k=6∨k=7∨k=8:=by omega
 rcases this with rfl|rfl|rfl|rfl|rfl|rfl|rfl|rfl|rfl <;> rfl
end Go.Rx
set_option linter.unusedSectionVars false
namespace Go.Rx
open Go Go.Eng Go.RowKit
def Byt(m:Mem)(a:Option Addr)(s:List Nat):Prop:=(s=[]∨∃b o,a=some ⟨b,o,none⟩∧m.reads b o (s.map fun c:Nat=>Value.int .u8 c))∧∀c∈s,c < 256
theorem Byt.mono{m m':Mem}{a s}(h:Byt m a s)(hm:m.le m'):Byt m' a s:=by
 refine⟨?_,h.2⟩
 rcases h.1 with h|⟨b,o,h1,h2⟩
 ·exact .inl h
 ·exact .inr ⟨b,o,h1,h2.mono hm⟩
theorem Byt.get{m:Mem}{a s}(h:Byt m a s){i c:Nat}(hi:s[i]?=some c):(∃b o,a=some ⟨b,o,none⟩∧m b (o+i)=some (.int .u8 c))∧c < 256:=by
 refine⟨?_,h.2 c (List.mem_of_getElem? hi)⟩
 rcases h.1 with h|⟨b,o,h1,h2⟩
 ·subst h;simp at hi
 ·exact⟨b,o,h1,h2 i _ (by rw[List.getElem?_map,hi];rfl)⟩
def ZoU(t:T)(back:Bool)(f i c out:Nat):Nat:=if(f.testBit (if back then i+1 else i)&&t.hasB c)=true then out|||2 ^ (if back then i else i+1)else out
def Zsr(t:T)(back:Bool)(f:Nat):List Nat→Nat→Nat→Nat
 | [],_,out=>out
 | c::s,i,out=>Zsr t back f s (i+1) (ZoU t back f i c out)
def Zv1(g:Nat→Nat):Nat→Nat→Nat
 | 0,f=>f
 | n+1,f=>Zv1 g n (g f)
def Zp9(g:Nat→Nat)(mx:Int):Nat→Int→Nat→Nat→Nat
 | 0,_,out,_=>out
 | n+1,k,out,last=>if k=mx then out else if out|||g last=out then out else Zp9 g mx n (IntKind.i64.wrap (k+1)) (out|||g last) (g last)
@[irreducible] def ZyW:Nat:=576
theorem ZoV:ZyW=576:=by unfold ZyW;rfl
abbrev Zcl:Nat:=2 ^ ZyW
theorem Zug{n:Nat}(h:n < 576):2 ^ n < Zcl:=Nat.pow_lt_pow_right (by omega) (by rw[ZoV];exact h)
def Zwy(g:Nat→Nat)(mn mx:Int)(f:Nat):Nat:=Zp9 g mx (Zcl+1) mn (Zv1 g mn.toNat f) (Zv1 g mn.toNat f)
mutual
def T.lead(s:List Nat)(back:Bool):T→Nat→Nat
 | .node k s0 s1 s2 s3 mn mx a c l=>fun f=>
  if k=1 then f else if k=2 then Zsr (.node k s0 s1 s2 s3 mn mx a c l) back f s 0 0
  else if k=3 then(if back then ZgG s back l f else Zg6 s back l f)
  else if k=4 then ZqD s back l f 0
  else if k=5 then Zwy (Zgb s back l) mn mx f
  else if k=6 then Zgb s back l f else 0
def Zg6(s:List Nat)(back:Bool):List T→Nat→Nat
 | []=>fun f=>f
 | t::l=>fun f=>Zg6 s back l (t.lead s back f)
def ZgG(s:List Nat)(back:Bool):List T→Nat→Nat
 | []=>fun f=>f
 | t::l=>fun f=>t.lead s back (ZgG s back l f)
def ZqD(s:List Nat)(back:Bool):List T→Nat→Nat→Nat
 | []=>fun _ out=>out
 | t::l=>fun f out=>ZqD s back l f (out|||t.lead s back f)
def Zgb(s:List Nat)(back:Bool):List T→Nat→Nat
 | []=>fun f=>f
 | t::_=>fun f=>t.lead s back f
end
section
variable {s:List Nat} {back:Bool}
theorem ZxS{t:T}(h:t.k=0)(f:Nat):t.lead s back f=0:=by cases t;simp only[T.k]at h;subst h;simp[T.lead]
theorem Zwz{t:T}(h:t.k=1)(f:Nat):t.lead s back f=f:=by cases t;simp only[T.k]at h;subst h;simp[T.lead]
theorem ZwA{t:T}(h:t.k=2)(f:Nat):t.lead s back f=Zsr t back f s 0 0:=by cases t;simp only[T.k]at h;subst h;simp[T.lead]
theorem Zve{t:T}(h:t.k=3)(f:Nat):t.lead s back f=if back then ZgG s back t.subs f else Zg6 s back t.subs f:=by cases t;simp only[T.k]at h;subst h;simp[T.lead,T.subs]
theorem ZwB{t:T}(h:t.k=4)(f:Nat):t.lead s back f=ZqD s back t.subs f 0:=by cases t;simp only[T.k]at h;subst h;simp[T.lead,T.subs]
theorem ZwC{t:T}(h:t.k=5)(f:Nat):t.lead s back f=Zwy (Zgb s back t.subs) t.mn t.mx f:=by cases t;simp only[T.k]at h;subst h;simp[T.lead,T.subs,T.mn,T.mx]
theorem ZwD{t:T}(h:t.k=6)(f:Nat):t.lead s back f=Zgb s back t.subs f:=by cases t;simp only[T.k]at h;subst h;simp[T.lead,T.subs]
theorem ZmH{g:Nat→Nat}{mx:Int}{n:Nat}{k:Int}{out last:Nat}:Zp9 g mx (n+1) k out last=(if k=mx then out else if out|||g last=out then out else Zp9 g mx n (IntKind.i64.wrap (k+1)) (out|||g last) (g last)):=rfl
theorem ZqE(t:T)(l:List T)(f:Nat):Zg6 s back (t::l) f=Zg6 s back l (t.lead s back f):=by rw[Zg6]
theorem ZoW(t:T)(l:List T)(f out:Nat):ZqD s back (t::l) f out=ZqD s back l f (out|||t.lead s back f):=by rw[ZqD]
theorem ZrP(f out:Nat):ZqD s back [] f out=out:=by rw[ZqD]
theorem ZqF(l:List T)(x:T)(f:Nat):ZgG s back (l++[x]) f=ZgG s back l (x.lead s back f):=by
 induction l with
 | nil=>simp[ZgG]
 | cons t l ih=>simp[ZgG,ih]
end
theorem Zcd{α:Type}{l:List α}{i:Nat}{x:α}(h:l[i]?=some x):l.drop i=x::l.drop (i+1):=by
 obtain⟨h1,h2⟩:=List.getElem?_eq_some_iff.1 h
 rw[List.drop_eq_getElem_cons h1,h2]
theorem ZrQ{α:Type}{l:List α}{i:Nat}{x:α}(h:l[i]?=some x):l.take (i+1)=l.take i++[x]:=by
 rw[List.take_add_one,h];rfl
theorem Zvf{t:T}{back:Bool}{f i c out:Nat}(hi:i < 575)(h:out < Zcl):ZoU t back f i c out < Zcl:=by
 have hj:(if back then i else i+1) < 576:=by cases back <;> simp <;> omega
 have hp:2 ^ (if back then i else i+1) < Zcl:=Zug hj
 have ho:=Nat.or_lt_two_pow h hp
 unfold ZoU
 by_cases hc:(f.testBit (if back then i+1 else i)&&t.hasB c)=true
 ·rw[if_pos hc];exact ho
 ·rw[if_neg hc];exact h
theorem Zuh{t:T}{back:Bool}{f:Nat}:∀(s:List Nat)(i out:Nat),i+s.length < 575→out < Zcl→Zsr t back f s i out < Zcl
 | [],_,_,_,h=>h
 | c::s,i,out,hi,h=>Zuh s (i+1) _ (by simp at hi;omega) (Zvf (by simp at hi;omega) h)
theorem ZoX{g:Nat→Nat}(hg:∀f,f < Zcl→g f < Zcl):∀(n f:Nat),f < Zcl→Zv1 g n f < Zcl
 | 0,_,h=>h
 | n+1,f,h=>ZoX hg n _ (hg _ h)
theorem ZrR{g:Nat→Nat}{mx:Int}(hg:∀f,f < Zcl→g f < Zcl):∀(n:Nat)(k:Int)(out last:Nat),out < Zcl→last < Zcl→Zp9 g mx n k out last < Zcl
 | 0,_,_,_,h,_=>h
 | n+1,k,out,last,h,h'=>by
  unfold Zp9
  split
  ·exact h
  ·split
   ·exact h
   ·exact ZrR hg n _ _ _ (Nat.or_lt_two_pow h (hg _ h')) (hg _ h')
section
variable (s:List Nat) (back:Bool) (hs:s.length≤512)
include hs
mutual
theorem ZfF:∀(t:T)(f:Nat),f < Zcl→t.lead s back f < Zcl
 | .node k s0 s1 s2 s3 mn mx a c l,f,h=>by
  unfold T.lead
  split
  ·exact h
  split
  ·exact Zuh s 0 0 (by omega) (Nat.two_pow_pos _)
  split
  ·split
   ·exact ZnV l f h
   ·exact ZrS l f h
  split
  ·exact Zui l f 0 h (Nat.two_pow_pos _)
  split
  ·exact ZrR (fun f h=>ZlF l f h) _ _ _ _ (ZoX (fun f h=>ZlF l f h) _ _ h) (ZoX (fun f h=>ZlF l f h) _ _ h)
  split
  ·exact ZlF l f h
  ·exact Nat.two_pow_pos _
theorem ZrS:∀(l:List T)(f:Nat),f < Zcl→Zg6 s back l f < Zcl
 | [],f,h=>by unfold Zg6;exact h
 | t::l,f,h=>by unfold Zg6;exact ZrS l _ (ZfF t f h)
theorem ZnV:∀(l:List T)(f:Nat),f < Zcl→ZgG s back l f < Zcl
 | [],f,h=>by unfold ZgG;exact h
 | t::l,f,h=>by unfold ZgG;exact ZfF t _ (ZnV l f h)
theorem Zui:∀(l:List T)(f out:Nat),f < Zcl→out < Zcl→ZqD s back l f out < Zcl
 | [],f,out,h,h'=>by unfold ZqD;exact h'
 | t::l,f,out,h,h'=>by unfold ZqD;exact Zui l f _ h (Nat.or_lt_two_pow h' (ZfF t f h))
theorem ZlF:∀(l:List T)(f:Nat),f < Zcl→Zgb s back l f < Zcl
 | [],f,h=>by unfold Zgb;exact h
 | t::l,f,h=>by unfold Zgb;exact ZfF t f h
end
end
theorem ZxT{f g:Nat}(hf:f < Zcl)(hg:g < Zcl)(h:∀j,j < 9→wdN f j=wdN g j):f=g:=by
 apply Nat.eq_of_testBit_eq
 intro i
 by_cases hi:i < 576
 ·have e:=congrArg (fun w=>Nat.testBit w (i % 64)) (h (i / 64) (by omega))
  simp only[Ziy,show 64*(i / 64)+i % 64=i by omega,show i % 64 < 64 by omega,decide_true,Bool.true_and]at e
  exact e
 ·rw[Nat.testBit_lt_two_pow (Nat.lt_of_lt_of_le hf (Nat.pow_le_pow_right (by omega) (by rw[ZoV];omega))),Nat.testBit_lt_two_pow (Nat.lt_of_lt_of_le hg (Nat.pow_le_pow_right (by omega) (by rw[ZoV];omega)))]
abbrev PLK:=Int→Int→Int→Int→Int→Int→Int→Int→Int→Mem→Prop
theorem ZnW{X:Nat}{m:Mem}{K:PLK}(k:∀m',m.le m'→K (wdN X 0:Nat) (wdN X 1:Nat) (wdN X 2:Nat) (wdN X 3:Nat) (wdN X 4:Nat) (wdN X 5:Nat) (wdN X 6:Nat) (wdN X 7:Nat) (wdN X 8:Nat) m'):
  ∀(n0 n1 n2 n3 n4 n5 n6 n7 n8:Int)(m':Mem),m.le m'→Ret (plV X) (.agg #[.int .u64 n0,.int .u64 n1,.int .u64 n2,.int .u64 n3,.int .u64 n4,.int .u64 n5,.int .u64 n6,.int .u64 n7,.int .u64 n8]) m' []→K n0 n1 n2 n3 n4 n5 n6 n7 n8 m':=by
 intro n0 n1 n2 n3 n4 n5 n6 n7 n8 m' hm h
 simp only[Ret,plV,Value.agg.injEq,Array.mk.injEq,List.cons.injEq,Value.int.injEq,true_and,and_true]at h
 obtain⟨rfl,rfl,rfl,rfl,rfl,rfl,rfl,rfl,rfl⟩:=h
 exact k m' hm
theorem Zbi{X:Nat}:∀(v:Value)(m':Mem) (css:List (List Value)),Ret (plV X) v m' css→Shape.fits (.agg [.int .u64,.int .u64,.int .u64,.int .u64,.int .u64,.int .u64,.int .u64,.int .u64,.int .u64]) v=true:=fun v _ _ e=>by rw[e];rfl
def T.walks(t:T):Prop:=t.k=0∨∀x∈t.nodes,x.right=true
theorem Zs5{t x:T}(h:t.walks)(h0:t.k≠0)(hx:x∈t.subs):x.walks:=by
 rcases h with h|h
 ·exact absurd h h0
 ·refine .inr fun y hy=>h y ?_
  obtain⟨i,hi⟩:=List.getElem?_of_mem hx
  rw[ZaX,Zcq hi]
  simp[hy]
end Go.Rx
namespace Go.Rx
open Go Go.Eng Go.RowKit
def T0:T:=.node 0 0 0 0 0 0 0 none 0 []
def T1:T:=.node 1 0 0 0 0 0 0 none 0 []
theorem ZwE(m:Mem):Rep m T0:=by simp only[T0,Rep];exact⟨by simp,.inl trivial,by constructor <;> decide⟩
theorem ZwF(m:Mem):Rep m T1:=by simp only[T1,Rep];exact⟨by simp,.inl trivial,by constructor <;> decide⟩
def T.isNone(t:T):Bool:=t.k == 0&&(t.light&&(T0.light&&t.same T0))
def T.wrong(t:T)(len:Nat)(i:Int):Int:=if(!t.isNone&&!(t.check == 0))=true then 130 else if(len:Int) > 512 then 3 else if i < 0∨i > len then 2 else 0
theorem ZjV{t:T}(h:t.check=0):t.walks:=by
 unfold T.check at h
 split at h
 ·exact absurd h (by decide)
 ·rename_i hc
  have hc':t.clean=true:=by simpa using hc
  unfold T.clean at hc'
  rw[Bool.and_eq_true]at hc'
  exact .inr fun x hx=>List.all_eq_true.1 hc'.2 x hx
theorem Zuj{t:T}{len:Nat}{i:Int}(h:t.wrong len i=0):t.walks∧len≤512∧0≤i∧i≤len:=by
 unfold T.wrong at h
 split at h
 ·exact absurd h (by decide)
 ·rename_i hc
  split at h
  ·exact absurd h (by decide)
  ·split at h
   ·exact absurd h (by decide)
   ·refine⟨?_,by omega,by omega,by omega⟩
    simp only[Bool.and_eq_true,Bool.not_eq_true',beq_eq_false_iff_ne,ne_eq,not_and,Decidable.not_not]at hc
    by_cases hn:t.isNone=true
    ·left
     unfold T.isNone at hn
     rw[Bool.and_eq_true]at hn
     simpa using hn.1
    ·exact ZjV (hc (by simpa using hn))
structure Rg where
 bg:Bool
 en:Bool
 t:T
def Rg.v(r:Rg):Value:=.agg #[.bool r.bg,.bool r.en,.int .u8 r.t.k,.int .u64 r.t.s0,.int .u64 r.t.s1,.int .u64 r.t.s2,.int .u64 r.t.s3,.int .i64 r.t.mn,.int .i64 r.t.mx,.slice r.t.a r.t.subs.length r.t.c]
def Rg.cs(r:Rg):List Value:=[.bool r.bg,.bool r.en,.int .u8 r.t.k,.int .u64 r.t.s0,.int .u64 r.t.s1,.int .u64 r.t.s2,.int .u64 r.t.s3,.int .i64 r.t.mn,.int .i64 r.t.mx,.slice r.t.a r.t.subs.length r.t.c]
def Rgs(m:Mem)(a:Option Addr)(l:List Rg):Prop:=l.length≤1000000000000000∧(l=[]∨∃b o,a=some ⟨b,o,none⟩∧∀i r,l[i]?=some r→m.reads b (o+i*10) r.cs)∧∀r∈l,Rep m r.t
theorem Rgs.mono{m m':Mem}{a l}(h:Rgs m a l)(hm:m.le m'):Rgs m' a l:=by
 refine⟨h.1,?_,fun r hr=>(h.2.2 r hr).mono hm⟩
 rcases h.2.1 with h|⟨b,o,h1,h2⟩
 ·exact .inl h
 ·exact .inr ⟨b,o,h1,fun i r hi=>(h2 i r hi).mono hm⟩
def ZeM(f:Nat):List Nat:=(List.range 513).filter fun i=>f.testBit i
theorem Zvg(f:Nat):(ZeM f).length≤513:=by
 have:=List.length_filter_le (fun i=>f.testBit i) (List.range 513)
 simpa[ZeM]using this
def ZwG(n:Nat):List Nat→Option Nat
 | []=>none
 | i::_=>if i > n then none else some i
def Rg.from(s:List Nat)(n:Nat)(r:Rg):Option Nat:=if(r.en&&decide ((n:Int) < s.length))=true then none else if r.bg then(if(r.t.lead s true (2 ^ n)).testBit 0 then some 0 else none)else
 ZwG n (ZeM (r.t.lead s true (2 ^ n)))
def Rg.wrong(r:Rg)(len:Nat)(n:Int):Int:=if r.t.check=0 then r.t.wrong len n else 130
def ZxU(l:List Rg)(len:Nat)(n:Int):Int:=if(l.length:Int) > 64 then 5 else if l.all (fun r=>r.t.check == 0)then T1.wrong len n else 130
end Go.Rx
namespace Go.Rx
open Go Go.Eng Go.RowKit
def ZrT(φ:T→Prop):Value→Mem→List (List Value)→Prop:=fun v m' _=>∃t:T,v=t.v∧Rep m' t∧φ t
abbrev TRK:=Int→Int→Int→Int→Int→Int→Int→Option Addr→Nat→Nat→Mem→Prop
theorem Zs6{φ:T→Prop}{m:Mem}{K:TRK}(k:∀(t:T)(m':Mem),m.le m'→Rep m' t→φ t→K t.k t.s0 t.s1 t.s2 t.s3 t.mn t.mx t.a t.subs.length t.c m'):
  ∀(n0 n1 n2 n3 n4 n5 n6:Int)(a:Option Addr)(n c:Nat)(m':Mem),m.le m'→ZrT φ (.agg #[.int .u8 n0,.int .u64 n1,.int .u64 n2,.int .u64 n3,.int .u64 n4,.int .i64 n5,.int .i64 n6,.slice a n c]) m' []→K n0 n1 n2 n3 n4 n5 n6 a n c m':=by
 rintro n0 n1 n2 n3 n4 n5 n6 a n c m' hm ⟨t,hv,hr,hp⟩
 simp only[T.v,Value.agg.injEq,Array.mk.injEq,List.cons.injEq,Value.int.injEq,Value.slice.injEq,true_and,and_true]at hv
 obtain⟨rfl,rfl,rfl,rfl,rfl,rfl,rfl,rfl,rfl,rfl⟩:=hv
 exact k t m' hm hr hp
theorem Ziz{φ:T→Prop}:∀(v:Value)(m':Mem) (css:List (List Value)),ZrT φ v m' css→Shape.fits (.agg [.int .u8,.int .u64,.int .u64,.int .u64,.int .u64,.int .i64,.int .i64,.slice]) v=true:=fun v _ _ ⟨t,e,_⟩=>by rw[e];rfl
def Zce(c j:Nat):Int:=if c / 64=j then((2 ^ (c % 64):Nat):Int)else 0
def Zbq(c:Nat):T:=.node 2 (Zce c 0) (Zce c 1) (Zce c 2) (Zce c 3) 0 0 none 0 []
theorem Zff(c j:Nat):0≤Zce c j∧Zce c j < 18446744073709551616:=by
 unfold Zce
 split
 ·have h:(2:Nat) ^ (c % 64) < 2 ^ 64:=Nat.pow_lt_pow_right (by omega) (by omega)
  have e:(2:Nat) ^ 64=18446744073709551616:=by decide
  rw[e]at h
  generalize (2:Nat) ^ (c % 64)=w at *
  exact⟨by omega,by omega⟩
 ·omega
theorem Zg7(c:Nat)(m:Mem):Rep m (Zbq c):=by
 simp only[Zbq,Rep]
 exact⟨by simp,.inl trivial,⟨by omega,Zff c 0,Zff c 1,Zff c 2,Zff c 3,by omega,by omega⟩⟩
def RepL(m:Mem)(a:Option Addr)(l:List T):Prop:=l.length≤1000000000000000∧(l=[]∨∃b o,a=some ⟨b,o,none⟩∧RepAt m b o l)
theorem RepL.mono{m m':Mem}{a l}(h:RepL m a l)(hm:m.le m'):RepL m' a l:=by
 refine⟨h.1,?_⟩
 rcases h.2 with h|⟨b,o,h1,h2⟩
 ·exact .inl h
 ·exact .inr ⟨b,o,h1,h2.mono hm⟩
theorem Rep.subs{m:Mem}{t:T}(h:Rep m t):RepL m t.a t.subs:=Zcp h
def ZbD(k mn mx:Int)(a:Option Addr)(c:Nat)(l:List T):T:=.node k 0 0 0 0 mn mx a c l
theorem Zb5{m:Mem}{k mn mx:Int}{a:Option Addr}{c:Nat}{l:List T}(h:RepL m a l)(hk:0≤k∧k < 256)(h1 : -9223372036854775808≤mn∧mn≤9223372036854775807)(h2 : -9223372036854775808≤mx∧mx≤9223372036854775807):Rep m (ZbD k mn mx a c l):=by
 simp only[ZbD,Rep]
 exact⟨h.1,h.2,⟨hk,by omega,by omega,by omega,by omega,h1,h2⟩⟩
theorem ZrU{m:Mem}{b:Nat}{t:T}(h:m.reads b 0 t.cs)(hr:Rep m t):RepL m (some ⟨b,0,none⟩) [t]:=⟨by simp,.inr ⟨b,0,rfl,by simp only[RepAt];exact⟨h,hr,trivial⟩⟩⟩
def Zdg(l:List T):List Value:=(l.map T.cs).flatten
theorem ZaO(l:List T):(Zdg l).length=l.length*8:=by
 induction l with
 | nil=>rfl
 | cons t l ih=>simp[Zdg,T.cs]at ih ⊢;omega
theorem ZaP(l r:List T):Zdg (l++r)=Zdg l++Zdg r:=by simp[Zdg]
theorem ZrV{m:Mem}{b:Nat}:∀{o:Nat} {l:List T},m.reads b o (Zdg l)→(∀t∈l,Rep m t)→RepAt m b o l
 | o,[],_,_=>by simp only[RepAt]
 | o,t::l,h,hr=>by
  simp only[RepAt]
  refine⟨fun j v hj=>?_,hr t (by simp),ZrV (fun j v hj=>?_) fun x hx=>hr x (by simp[hx])⟩
  ·refine h j v ?_
   simp only[Zdg,List.map_cons,List.flatten_cons]
   rw[List.getElem?_append_left (List.getElem?_eq_some_iff.1 hj).1];exact hj
  ·have:=h (8+j) v (by
    simp only[Zdg,List.map_cons,List.flatten_cons]
    rw[List.getElem?_append_right (by simp[T.cs])]
    have e:8+j - t.cs.length=j:=by simp[T.cs]
    rw[e];exact hj)
   rw[show o+8+j=o+(8+j) by omega];exact this
theorem Zuk{m:Mem}{a:Option Addr}{l:List T}(h:rowRd m a (Zdg l))(hr:∀t∈l,Rep m t)(hl:l.length≤1000000000000000):RepL m a l:=by
 refine⟨hl,?_⟩
 cases l with
 | nil=>exact .inl rfl
 | cons t l=>
  rcases h with h|⟨b,o,h1,h2⟩
  ·simp[Zdg,T.cs]at h
  ·exact .inr ⟨b,o,h1,ZrV h2 hr⟩
theorem ZkC{m:Mem}{a:Option Addr}{l:List T}(h:RepL m a l):rowRd m a (Zdg l):=by
 have key:∀(l:List T)(b o:Nat),RepAt m b o l→m.reads b o (Zdg l):=by
  intro l
  induction l with
  | nil=>intro b o _ j v hj;simp[Zdg]at hj
  | cons t l ih=>
   intro b o hr j v hj
   simp only[RepAt]at hr
   simp only[Zdg,List.map_cons,List.flatten_cons]at hj
   by_cases bS:j < 8
   ·rw[List.getElem?_append_left (by simpa[T.cs]using bS)]at hj
    exact hr.1 j v hj
   ·rw[List.getElem?_append_right (by simp[T.cs];omega)]at hj
    have:=ih b (o+8) hr.2.2 (j - 8) v (by simpa[T.cs,Zdg]using hj)
    rw[show o+8+(j - 8)=o+j by omega]at this;exact this
 rcases h.2 with h|⟨b,o,h1,h2⟩
 ·subst h;exact .inl rfl
 ·exact .inr ⟨b,o,h1,key l b o h2⟩
theorem Zs7{m:Mem}{a:Option Addr}{l:List T}(h:RepL m a l):∀t∈l,Rep m t:=by
 rcases h.2 with h|⟨b,o,_,h⟩
 ·subst h;simp
 ·intro t ht
  obtain⟨i,hi⟩:=List.getElem?_of_mem ht
  exact(h.get hi).2
def ZyX(j:Nat)(w c:Nat):Nat:=if c / 64=j then w|||2 ^ (c % 64)else w
def ZtW(bs:List Nat)(j:Nat):Nat:=bs.foldl (ZyX j) 0
theorem Zs8(l:List Nat)(c j:Nat):ZtW (l++[c]) j=if c / 64=j then ZtW l j|||2 ^ (c % 64)else ZtW l j:=by
 unfold ZtW
 rw[List.foldl_append];rfl
theorem Zul(l:List Nat)(j:Nat):ZtW l j < 18446744073709551616:=by
 have key:∀(l:List Nat)(w:Nat),w < 2 ^ 64→l.foldl (ZyX j) w < 2 ^ 64:=by
  intro l
  induction l with
  | nil=>intro w h;exact h
  | cons c l ih=>
   intro w h
   refine ih _ ?_
   unfold ZyX
   split
   ·exact Nat.or_lt_two_pow h (Nat.pow_lt_pow_right (by omega) (by omega))
   ·exact h
 exact key l 0 (by decide)
def ZlG(bs:List Nat):T:=.node 2 (ZtW bs 0:Nat) (ZtW bs 1:Nat) (ZtW bs 2:Nat) (ZtW bs 3:Nat) 0 0 none 0 []
theorem ZoY(bs:List Nat)(m:Mem):Rep m (ZlG bs):=by
 simp only[ZlG,Rep]
 have h:=Zul bs
 exact⟨by simp,.inl trivial,⟨by omega,⟨by omega,by have:=h 0;omega⟩,⟨by omega,by have:=h 1;omega⟩,⟨by omega,by have:=h 2;omega⟩,⟨by omega,by have:=h 3;omega⟩,by omega,by omega⟩⟩
def Zum(bs:List Nat):List Value:=[.int .u64 (ZtW bs 0:Nat),.int .u64 (ZtW bs 1:Nat),.int .u64 (ZtW bs 2:Nat),.int .u64 (ZtW bs 3:Nat)]
theorem Zs9(bs:List Nat){j:Nat}(h:j < 4):(Zum bs)[j]?=some (.int .u64 (ZtW bs j:Nat)):=by
 have:j=0∨j=1∨j=2∨j=3:=by omega
 rcases this with rfl|rfl|rfl|rfl <;> rfl
theorem ZqG(l:List Nat){c j:Nat}(hj:c / 64=j)(h:j < 4):Zan (Zum l) j [.int .u64 ((ZtW l j|||2 ^ (c % 64):Nat):Int)]=Zum (l++[c]):=by
 unfold Zum
 simp only[Zs8,hj]
 have:j=0∨j=1∨j=2∨j=3:=by omega
 rcases this with rfl|rfl|rfl|rfl <;> rfl
def Zd7(n:Nat):List Nat:=([[97],[98],[97,98],[97],[98],[99],[97,98,99],[98,99],[10],[0,255],[97],[98]][n % 12]?).getD []
end Go.Rx
namespace Go.Rx
open Go Go.Eng Go.RowKit
def T.good(t:T):Bool:=t.nodes.all T.right
def isG(t:T):Bool:=t.k == 6
theorem ZmI(p:T→Bool):∀l:List T,(Zau l).all p=l.all fun t=>t.nodes.all p
 | []=>rfl
 | t::l=>by simp only[Zau,List.all_append,List.all_cons,ZmI p l]
theorem ZmJ(t:T):t.good=(t.right&&t.subs.all T.good):=by
 unfold T.good;rw[ZaX,List.all_cons,ZmI]
def grL(l:List T):Nat:=(Zau l).countP isG
def szL(l:List T):Nat:=(Zau l).length
def T.gr(t:T):Nat:=t.nodes.countP isG
theorem ZaQ(l r:List T):szL (l++r)=szL l+szL r:=by unfold szL;rw[Zdw,List.length_append]
theorem ZbZ(l r:List T):grL (l++r)=grL l+grL r:=by unfold grL;rw[Zdw,List.countP_append]
theorem ZbP(t:T):szL [t]=t.nodes.length:=by simp[szL,Zau]
theorem ZdW(t:T):grL [t]=t.gr:=by simp[grL,Zau,T.gr]
theorem ZcC(t:T):Zdy [t]=t.pos:=by simp[Zdy]
theorem ZlH(t:T)(l:List T):szL (t::l)=t.nodes.length+szL l:=by simp[szL,Zau]
theorem ZrW(t:T)(l:List T):grL (t::l)=t.gr+grL l:=by simp[grL,Zau,T.gr,List.countP_append]
theorem Zun(t:T):t.nodes.length=1+szL t.subs:=by rw[ZaX,List.length_cons,szL];omega
theorem ZwH(t:T):t.gr=(if isG t=true then 1 else 0)+grL t.subs:=by
 unfold T.gr;rw[ZaX,List.countP_cons,grL];omega
theorem Zuo(l:List T):l.length≤szL l:=by
 induction l with
 | nil=>simp
 | cons t l ih=>rw[ZlH,Zun,List.length_cons];omega
def ZbQ(k:Int)(t:T):List T:=if t.k=k then t.subs else if k=3∧t.k=1 then[]else[t]
def ZhS(k:Int)(a:Option Addr)(c:Nat):List T→T
 | []=>T1
 | [x]=>x
 | x::y::l=>ZbD k 0 0 a c (x::y::l)
theorem ZlI{t:T}{k:Int}(h:t.has k=false):∀x∈t.subs,x.k≠k:=by
 intro x hx e
 unfold T.has at h
 have:=List.any_eq_false.1 h x hx
 simp[e]at this
theorem Zvh{t:T}{k:Int}(h:∀x∈t.subs,x.k≠k):t.has k=false:=by
 unfold T.has
 rw[List.any_eq_false]
 intro x hx
 have:=h x hx
 simpa using this
theorem ZlJ{k:Int}{t:T}(hk:k=3∨k=4)(hg:t.good=true)(hp:t.pos≤10000):(∀x∈ZbQ k t,x.good=true∧x.k≠k∧(k=3→x.k≠1))∧szL (ZbQ k t)≤t.nodes.length∧grL (ZbQ k t)≤t.gr∧Zdy (ZbQ k t)≤t.pos:=by
 have hg':=hg
 rw[ZmJ,Bool.and_eq_true,List.all_eq_true]at hg'
 unfold ZbQ
 split
 ·rename_i eP
  refine⟨fun x hx=>⟨hg'.2 x hx,?_⟩,by rw[Zun];omega,by rw[ZwH];omega,?_⟩
  ·have hr:=hg'.1
   unfold T.right at hr
   rw[Bool.and_eq_true]at hr
   have hr:=hr.2
   rcases hk with rfl|rfl
   ·simp only[eP]at hr
    simp at hr
    exact⟨ZlI hr.2.2 x hx,fun _=>ZlI hr.2.1 x hx⟩
   ·simp only[eP]at hr
    simp at hr
    exact⟨ZlI hr.2 x hx,fun h=>by omega⟩
  ·rw[ZqC]at hp ⊢
   have h5:¬t.k=5:=by omega
   have h2:¬t.k=2:=by omega
   unfold Zva at hp ⊢
   rw[if_neg h5,if_neg h2,Int.zero_add]at hp ⊢
   unfold Zns at hp ⊢
   split at hp
   ·omega
   ·split <;> omega
 ·rename_i eP
  split
  ·refine⟨fun x hx=>by simp at hx,by simp[szL,Zau],by simp[grL,Zau],?_⟩
   simp only[Zdy];exact(Zg4 t).1
  ·rename_i u0
   refine⟨fun x hx=>?_,by rw[ZbP];exact Nat.le_refl _,by rw[ZdW];exact Nat.le_refl _,by rw[ZcC];exact Int.le_refl _⟩
   simp at hx;subst hx
   exact⟨hg,eP,fun h=>fun h1=>u0 ⟨h,h1⟩⟩
theorem ZoZ{k:Int}(hk:k=3∨k=4)(a:Option Addr)(c:Nat):∀{l:List T},(∀x∈l,x.good=true∧x.k≠k∧(k=3→x.k≠1))→(ZhS k a c l).good=true∧(ZhS k a c l).nodes.length≤1+szL l∧(ZhS k a c l).gr≤grL l∧(ZhS k a c l).pos≤Zdy l
 | [],_=>⟨show T1.good=true by decide,show T1.nodes.length≤1 by decide,show T1.gr≤0 by decide,show T1.pos≤0 by decide⟩
 | [x],h=>by
  rw[ZbP,ZdW,ZcC]
  exact⟨(h x (by simp)).1,by show x.nodes.length≤_;omega,Nat.le_refl _,Int.le_refl _⟩
 | x::y::l,h=>by
  show(ZbD k 0 0 a c (x::y::l)).good=true∧(ZbD k 0 0 a c (x::y::l)).nodes.length≤_∧(ZbD k 0 0 a c (x::y::l)).gr≤_∧(ZbD k 0 0 a c (x::y::l)).pos≤_
  have hs:(ZbD k 0 0 a c (x::y::l)).subs=x::y::l:=rfl
  have eP:(ZbD k 0 0 a c (x::y::l)).k=k:=rfl
  have hz:(ZbD k 0 0 a c (x::y::l)).setZ=true:=rfl
  have kE:(ZbD k 0 0 a c (x::y::l)).mn=0:=rfl
  have iu:(ZbD k 0 0 a c (x::y::l)).mx=0:=rfl
  refine⟨?_,by rw[Zun,hs];exact Nat.le_refl _,?_,?_⟩
  ·rw[ZmJ,Bool.and_eq_true,List.all_eq_true,hs]
   refine⟨?_,fun z hz=>(h z hz).1⟩
   have h1:k=3→(ZbD k 0 0 a c (x::y::l)).has 1=false:=fun e=>Zvh fun z hz=>(h z hz).2.2 e
   have h2:(ZbD k 0 0 a c (x::y::l)).has k=false:=Zvh fun z hz=>(h z hz).2.1
   unfold T.right
   rw[eP,hz,kE,iu,hs]
   rcases hk with rfl|rfl
   ·simp[h1 rfl,h2]
   ·simp[h2]
  ·rw[ZwH,hs,isG,eP]
   rcases hk with rfl|rfl <;> simp
  ·rw[ZqC,eP,kE,iu,hs]
   unfold Zva
   rw[if_neg (by omega),if_neg (by omega),Int.zero_add]
   exact(ZmG _ _).1
structure J (i:Nat)(ts:List T)(u g:Nat):Prop where
 good:∀t∈ts,t.good=true
 sz:szL ts≤i
 pos:Zdy ts≤(i*u:Nat)
 u1:1≤u
 u16:u≤16
 gr:grL ts≤g
 g9:g≤9
theorem J.zero:J 0 [] 1 0:=⟨by simp,by simp[szL,Zau],by simp[Zdy],by omega,by omega,by simp[grL,Zau],by omega⟩
theorem J.skip{i ts u g}(h:J i ts u g):J (i+1) ts u g:=
 ⟨h.good,by have:=h.sz;omega,by have:=h.pos;have e:(i+1)*u=i*u+u:=Nat.succ_mul i u;rw[e];omega,h.u1,h.u16,h.gr,h.g9⟩
theorem J.push{i ts u g}(h:J i ts u g){t:T}(hg:t.good=true)(hs:t.nodes.length=1)(hp:t.pos≤1)(hr:t.gr=0):J (i+1) (ts++[t]) u g:=by
 refine⟨fun x hx=>?_,?_,?_,h.u1,h.u16,?_,h.g9⟩
 ·rcases List.mem_append.1 hx with hx|hx
  ·exact h.good x hx
  ·simp at hx;subst hx;exact hg
 ·rw[ZaQ,ZbP,hs];have:=h.sz;omega
 ·rw[Zbc,ZcC];have:=h.pos;have:=h.u1;have e:(i+1)*u=i*u+u:=Nat.succ_mul i u;rw[e];omega
 ·rw[ZbZ,ZdW,hr];have:=h.gr;omega
theorem J.pos400{i ts u g}(h:J i ts u g)(hi:i≤25):Zdy ts≤400:=by
 have h1:=h.pos
 have:i*u≤25*16:=Nat.mul_le_mul hi h.u16
 omega
theorem J.join{i ts u g}{x y:T}(h:J i (ts++[x,y]) u g)(hi:i≤25){k:Int}(hk:k=3∨k=4)(a:Option Addr)(c:Nat):J (i+1) (ts++[ZhS k a c (ZbQ k x++ZbQ k y)]) u g:=by
 have h4:=h.pos400 hi
 have hz:=h.sz
 have hp:=h.pos
 have lC:=h.gr
 rw[show ts++[x,y]=ts++([x]++[y]) from rfl]at h4 hz hp lC
 rw[Zbc,Zbc,ZcC,ZcC]at h4 hp
 rw[ZaQ,ZaQ,ZbP,ZbP]at hz
 rw[ZbZ,ZbZ,ZdW,ZdW]at lC
 have n1:=ZfE ts
 have n2:=(Zg4 x).1
 have n3:=(Zg4 y).1
 obtain⟨a1,a2,a3,a4⟩:=ZlJ hk (h.good x (by simp)) (by omega)
 obtain⟨b1,b2,b3,b4⟩:=ZlJ hk (h.good y (by simp)) (by omega)
 obtain⟨c1,c2,c3,c4⟩:=ZoZ hk a c (l:=ZbQ k x++ZbQ k y) (fun z hz=>by
  rcases List.mem_append.1 hz with hz|hz
  ·exact a1 z hz
  ·exact b1 z hz)
 rw[ZaQ]at c2
 rw[ZbZ]at c3
 rw[Zbc]at c4
 refine⟨fun z hz=>?_,?_,?_,h.u1,h.u16,?_,h.g9⟩
 ·rcases List.mem_append.1 hz with hz|hz
  ·exact h.good z (by simp[hz])
  ·simp at hz;subst hz;exact c1
 ·rw[ZaQ,ZbP];omega
 ·rw[Zbc,ZcC];have e:(i+1)*u=i*u+u:=Nat.succ_mul i u;rw[e];omega
 ·rw[ZbZ,ZdW];omega
theorem J.group{i ts u g}{x:T}(h:J i (ts++[x]) u g)(hg:g < 9)(a:Option Addr)(c:Nat):J (i+1) (ts++[ZbD 6 0 0 a c [x]]) u (g+1):=by
 have hz:=h.sz
 have hp:=h.pos
 have lC:=h.gr
 rw[Zbc,ZcC]at hp
 rw[ZaQ,ZbP]at hz
 rw[ZbZ,ZdW]at lC
 have hs:(ZbD 6 0 0 a c [x]).subs=[x]:=rfl
 refine⟨fun z hz=>?_,?_,?_,h.u1,h.u16,?_,by omega⟩
 ·rcases List.mem_append.1 hz with hz|hz
  ·exact h.good z (by simp[hz])
  ·simp at hz;subst hz
   rw[ZmJ,Bool.and_eq_true,List.all_eq_true]
   refine⟨rfl,fun z hz=>?_⟩
   rw[hs]at hz;simp at hz;subst hz
   exact h.good z (by simp)
 ·rw[ZaQ,ZbP,Zun,hs,ZbP];omega
 ·rw[Zbc,ZcC,ZqC,hs,ZcC]
  have:Zva (ZbD 6 0 0 a c [x]).k (ZbD 6 0 0 a c [x]).mn (ZbD 6 0 0 a c [x]).mx ((if(ZbD 6 0 0 a c [x]).k=2 then 1 else 0)+x.pos)≤x.pos:=by
   show Zns (if(6:Int)=5 then _ else(if(6:Int)=2 then 1 else 0)+x.pos) 10001≤_
   rw[if_neg (by omega),if_neg (by omega),Int.zero_add]
   exact(ZmG _ _).1
  have e:(i+1)*u=i*u+u:=Nat.succ_mul i u
  rw[e];omega
 ·rw[ZbZ,ZdW,ZwH,hs,ZdW]
  split <;> omega
theorem J.rep{i ts u g}{x:T}(h:J i (ts++[x]) u g)(hx:x.k≠1){mn mx:Int}(hb:Zdx mn mx=true){w:Nat}(hw:Zvb mn mx≤w)(h1:1≤w)(hu:u*w≤16)(a:Option Addr)(c:Nat):J (i+1) (ts++[ZbD 5 mn mx a c [x]]) (u*w) g:=by
 have hz:=h.sz
 have hp:=h.pos
 have lC:=h.gr
 rw[Zbc,ZcC]at hp
 rw[ZaQ,ZbP]at hz
 rw[ZbZ,ZdW]at lC
 have hs:(ZbD 5 mn mx a c [x]).subs=[x]:=rfl
 have n1:=ZfE ts
 have n2:=(Zg4 x).1
 refine⟨fun z hz=>?_,?_,?_,?_,hu,?_,h.g9⟩
 ·rcases List.mem_append.1 hz with hz|hz
  ·exact h.good z (by simp[hz])
  ·simp at hz;subst hz
   rw[ZmJ,Bool.and_eq_true,List.all_eq_true]
   refine⟨?_,fun z hz=>?_⟩
   ·have hh:(ZbD 5 mn mx a c [x]).has 1=false:=Zvh fun z hz=>by rw[hs]at hz;simp at hz;subst hz;exact hx
    unfold T.right
    rw[hh,hs,show(ZbD 5 mn mx a c [x]).k=5 from rfl,show(ZbD 5 mn mx a c [x]).setZ=true from rfl,show(ZbD 5 mn mx a c [x]).mn=mn from rfl,show(ZbD 5 mn mx a c [x]).mx=mx from rfl,hb]
    simp
   ·rw[hs]at hz;simp at hz;subst hz
    exact h.good z (by simp)
 ·rw[ZaQ,ZbP,Zun,hs,ZbP];omega
 ·rw[Zbc,ZcC,ZqC,hs,ZcC]
  have key:Zva (ZbD 5 mn mx a c [x]).k (ZbD 5 mn mx a c [x]).mn (ZbD 5 mn mx a c [x]).mx ((if(ZbD 5 mn mx a c [x]).k=2 then 1 else 0)+x.pos)≤x.pos*w:=by
   show Zns (if(5:Int)=5 then((if(5:Int)=2 then 1 else 0)+x.pos)*Zvb mn mx else _) 10001≤_
   rw[if_pos rfl,if_neg (by omega),Int.zero_add]
   exact Int.le_trans (ZmG _ _).1 (Int.mul_le_mul_of_nonneg_left hw n2)
  have k2:Zdy ts≤Zdy ts*w:=by
   have:=Int.mul_le_mul_of_nonneg_left (show(1:Int)≤w by omega) n1
   rw[Int.mul_one]at this;exact this
  have k3:(Zdy ts+x.pos)*w≤((i*u:Nat):Int)*w:=Int.mul_le_mul_of_nonneg_right hp (by omega)
  rw[Int.add_mul]at k3
  have e:(i+1)*(u*w)=i*u*w+u*w:=by rw[Nat.succ_mul,Nat.mul_assoc]
  have e2:(((i*u:Nat):Int)*w)=((i*u*w:Nat):Int):=by push_cast;rfl
  rw[e2]at k3
  rw[e]
  generalize i*u*w=A at *
  generalize u*w=B at *
  generalize Zdy ts*(w:Int)=D at *
  generalize x.pos*(w:Int)=F at *
  omega
 ·have:=Nat.mul_le_mul h.u1 h1;omega
 ·rw[ZbZ,ZdW,ZwH,hs,ZdW,isG,show(ZbD 5 mn mx a c [x]).k=5 from rfl]
  simp;omega
structure F (t:T)(l:List T):Prop where
 good:t.good=true
 goods:∀x∈l,x.good=true
 sz:t.nodes.length+szL l+l.length≤60
 pos:t.pos+Zdy l≤400
 gr:t.gr+grL l≤9
theorem F.start{i u g}{t:T}{l:List T}(h:J i (t::l) u g)(hi:i≤25):F t l:=by
 have h1:=h.sz
 have h2:=h.pos400 hi
 have h3:=h.gr
 rw[ZlH]at h1
 rw[ZrW]at h3
 have:=Zuo l
 have:=h.g9
 exact⟨h.good t (by simp),fun x hx=>h.good x (by simp[hx]),by omega,by simpa[Zdy]using h2,by omega⟩
theorem F.step{t x:T}{l:List T}(h:F t (x::l))(a:Option Addr)(c:Nat):F (ZhS 4 a c (ZbQ 4 t++ZbQ 4 x)) l:=by
 have h1:=h.sz
 have h2:=h.pos
 have h3:=h.gr
 rw[ZlH,List.length_cons]at h1
 rw[ZrW]at h3
 simp only[Zdy]at h2
 have n1:=ZfE l
 have n2:=(Zg4 x).1
 have n3:=(Zg4 t).1
 obtain⟨a1,a2,a3,a4⟩:=ZlJ (.inr rfl) h.good (by omega) (t:=t)
 obtain⟨b1,b2,b3,b4⟩:=ZlJ (.inr rfl) (h.goods x (by simp)) (by omega)
 obtain⟨c1,c2,c3,c4⟩:=ZoZ (.inr rfl) a c (l:=ZbQ 4 t++ZbQ 4 x) (fun z hz=>by
  rcases List.mem_append.1 hz with hz|hz
  ·exact a1 z hz
  ·exact b1 z hz)
 rw[ZaQ]at c2
 rw[ZbZ]at c3
 rw[Zbc]at c4
 exact⟨c1,fun z hz=>h.goods z (by simp[hz]),by omega,by omega,by omega⟩
theorem F.done{t:T}{l:List T}(h:F t l):t.check=0:=by
 have h1:=h.sz
 have h2:=h.pos
 have h3:=h.gr
 have n1:=ZfE l
 have hl:t.light=true:=by unfold T.light;exact decide_eq_true (by omega)
 have hc:t.clean=true:=by unfold T.clean;rw[hl];exact h.good
 have hg:((t.nodes.countP fun x=>x.k == 6:Nat))=t.gr:=rfl
 unfold T.check
 rw[hc]
 unfold T.size T.positions T.groups
 rw[hl,hg]
 simp only[if_true,Bool.true_eq_false,if_false]
 rw[if_neg (by omega),if_neg (by omega),if_neg (by omega)]
theorem ZqH{t:T}(h:t.check=0):t.good=true∧t.nodes.length≤120:=by
 unfold T.check at h
 split at h
 ·exact absurd h (by decide)
 ·rename_i hc
  have hc':t.clean=true:=by simpa using hc
  unfold T.clean at hc'
  rw[Bool.and_eq_true]at hc'
  split at h
  ·exact absurd h (by decide)
  ·rename_i hz
   unfold T.size at hz
   rw[hc'.1]at hz
   simp only[if_true]at hz
   exact⟨hc'.2,by omega⟩
theorem ZrX(n:Nat):(ZlG (Zd7 n)).good=true∧(ZlG (Zd7 n)).nodes.length=1∧(ZlG (Zd7 n)).pos≤1∧(ZlG (Zd7 n)).gr=0:=by
 have h:n % 12=0∨n % 12=1∨n % 12=2∨n % 12=3∨n % 12=4∨n % 12=5∨n % 12=6∨n % 12=7∨n % 12=8∨n % 12=9∨n % 12=10∨n % 12=11:=by omega
 unfold Zd7
 rcases h with e|e|e|e|e|e|e|e|e|e|e|e <;> rw[e] <;> exact⟨by decide,by decide,by decide,by decide⟩
theorem ZwI:T1.good=true∧T1.nodes.length=1∧T1.pos≤1∧T1.gr=0:=⟨by decide,by decide,by decide,by decide⟩
theorem ZfG{k:Int}{t:T}:(ZbQ k t).length≤t.nodes.length:=by
 unfold ZbQ
 have:=Zud t
 have:=Zun t
 split
 ·omega
 ·split <;> simp <;> omega
end Go.Rx
namespace Go.Rx
open Go Go.Eng Go.RowKit
def bwL(f:Nat):List Value:=[.int .u64 (wdN f 0:Nat),.int .u64 (wdN f 1:Nat),.int .u64 (wdN f 2:Nat),.int .u64 (wdN f 3:Nat),.int .u64 (wdN f 4:Nat),.int .u64 (wdN f 5:Nat),.int .u64 (wdN f 6:Nat)]
def bwV(f:Nat):Value:=.agg #[.int .u64 (wdN f 0:Nat),.int .u64 (wdN f 1:Nat),.int .u64 (wdN f 2:Nat),.int .u64 (wdN f 3:Nat),.int .u64 (wdN f 4:Nat),.int .u64 (wdN f 5:Nat),.int .u64 (wdN f 6:Nat)]
theorem ZiA{f j:Nat}(h:j < 7):(bwL f)[j]?=some (.int .u64 (wdN f j:Nat)):=by
 have:j=0∨j=1∨j=2∨j=3∨j=4∨j=5∨j=6:=by omega
 rcases this with rfl|rfl|rfl|rfl|rfl|rfl|rfl <;> rfl
theorem ZxV{f q r:Nat}(hq:q < 7)(hr:r < 64):Zan (bwL f) q [.int .u64 ((wdN f q|||2 ^ r:Nat):Int)]=bwL (f|||2 ^ (64*q+r)):=by
 unfold bwL
 simp only[Zvc,Zue hr]
 have:q=0∨q=1∨q=2∨q=3∨q=4∨q=5∨q=6:=by omega
 rcases this with rfl|rfl|rfl|rfl|rfl|rfl|rfl <;> simp[Zan,Nat.or_zero]
theorem ZkD:bwL 0=[.int .u64 0,.int .u64 0,.int .u64 0,.int .u64 0,.int .u64 0,.int .u64 0,.int .u64 0]:=by simp[bwL,wdN]
def orB(f g k:Nat):List Value:=(List.range 7).map fun j=>.int .u64 ((if j < k then wdN (f|||g) j else wdN f j:Nat):Int)
theorem Zup{f g k j:Nat}(h:j < 7):(orB f g k)[j]?=some (.int .u64 ((if j < k then wdN (f|||g) j else wdN f j:Nat):Int)):=by
 simp[orB,h]
theorem Zo0(f g k:Nat):(orB f g k).length=7:=by simp[orB]
theorem Zo1(f:Nat):(bwL f).length=7:=rfl
theorem ZrY{f g k:Nat}(h:k < 7):Zan (orB f g k) k [.int .u64 ((wdN f k|||wdN g k:Nat):Int)]=orB f g (k+1):=by
 rw[←Zvc]
 have:k=0∨k=1∨k=2∨k=3∨k=4∨k=5∨k=6:=by omega
 rcases this with rfl|rfl|rfl|rfl|rfl|rfl|rfl <;> rfl
theorem Zjx{A L B:List Value}{q:Nat}{v:Value}(h:q < L.length):Zan (A++L++B) (A.length+q) [v]=A++Zan L q [v]++B:=by
 simp only[Zan,List.length_singleton]
 have h1:(A++L++B).take (A.length+q)=A++L.take q:=by
  rw[List.append_assoc,List.take_append,List.take_of_length_le (by omega),Nat.add_sub_cancel_left,List.take_append_of_le_length (by omega)]
 have h2:(A++L++B).drop (A.length+q+1)=L.drop (q+1)++B:=by
  rw[List.append_assoc,Nat.add_assoc,List.drop_append,List.drop_eq_nil_of_le (by omega),List.nil_append,Nat.add_sub_cancel_left,List.drop_append_of_le_length (by omega)]
 rw[h1,h2];simp
theorem Zo2{A L B:List Value}{q:Nat}{v:Value}(h:L[q]?=some v):(A++L++B)[A.length+q]?=some v:=by
 have hq:=(List.getElem?_eq_some_iff.1 h).1
 rw[List.append_assoc,List.getElem?_append_right (by omega),Nat.add_sub_cancel_left,List.getElem?_append_left hq,h]
def ZcI(f:Nat):List Nat:=(List.range 448).filter fun i=>f.testBit i
theorem ZqI(f k:Nat)(h:k≤448):(ZcI f).take (((List.range k).filter fun i=>f.testBit i).length)=(List.range k).filter fun i=>f.testBit i:=by
 have e:List.range 448=List.range k++(List.range 448).drop k:=by
  have:=(List.take_append_drop k (List.range 448)).symm
  rwa [List.take_range,Nat.min_eq_left h]at this
 unfold ZcI
 conv=>lhs;rw[e,List.filter_append]
 rw[List.take_left']
 rfl
theorem Zvi(f k:Nat)(h:k < 448)(hb:f.testBit k=true):(ZcI f)[((List.range k).filter fun i=>f.testBit i).length]?=some k:=by
 have h1:=ZqI f (k+1) (by omega)
 have e:(List.range (k+1)).filter (fun i=>f.testBit i)=(List.range k).filter (fun i=>f.testBit i)++[k]:=by
  rw[List.range_succ,List.filter_append];simp[hb]
 rw[e]at h1
 have h2:=congrArg (fun l=>l[((List.range k).filter fun i=>f.testBit i).length]?) h1
 simpa[List.getElem?_take]using h2
theorem Zo3(f:Nat):(ZcI f).length≤448:=by
 unfold ZcI
 exact Nat.le_trans (List.length_filter_le _ _) (by simp)
theorem ZlK{f i:Nat}:i∈ZcI f↔i < 448∧f.testBit i=true:=by simp[ZcI]
theorem ZiB(f:Nat):(ZcI f).Pairwise (· < ·):=(List.pairwise_lt_range (n:=448)).filter _
end Go.Rx
namespace Go.Rx
open Go Go.Eng Go.RowKit
structure Pt where
 first:Nat
 last:Nat
 null:Bool
structure Ms where
 sets:List (Int×Int×Int×Int)
 fol:List Nat
def Pt.v(p:Pt):Value:=.agg #[.int .u64 (wdN p.first 0:Nat),.int .u64 (wdN p.first 1:Nat),.int .u64 (wdN p.first 2:Nat),.int .u64 (wdN p.first 3:Nat),.int .u64 (wdN p.first 4:Nat),.int .u64 (wdN p.first 5:Nat),.int .u64 (wdN p.first 6:Nat),.int .u64 (wdN p.last 0:Nat),.int .u64 (wdN p.last 1:Nat),.int .u64 (wdN p.last 2:Nat),.int .u64 (wdN p.last 3:Nat),.int .u64 (wdN p.last 4:Nat),.int .u64 (wdN p.last 5:Nat),.int .u64 (wdN p.last 6:Nat),.bool p.null]
def Pt.cs(p:Pt):List Value:=bwL p.first++bwL p.last++[Value.bool p.null]
theorem Pt.v_cs(p:Pt):p.v=.agg p.cs.toArray:=rfl
def ZbR(fol:List Nat)(a b:Nat):List Nat:=fol.mapIdx fun i x=>if a.testBit i then x|||b else x
theorem ZlL(fol:List Nat)(a b:Nat):(ZbR fol a b).length=fol.length:=by simp[ZbR]
def ZnP(p q:Pt):Pt:=⟨if p.null then p.first|||q.first else p.first,if q.null then q.last|||p.last else q.last,p.null&&q.null⟩
def Zb6(p q:Pt)(s:Ms):Pt×Ms:=(ZnP p q,⟨s.sets,ZbR s.fol p.last q.first⟩)
def ZtX(p q:Pt):Pt:=⟨p.first|||q.first,p.last|||q.last,p.null||q.null⟩
def Zh7(f:Ms→Pt×Ms)(mn mx:Int)(n:Nat):Nat→Nat→Pt→Ms→Pt×Ms
 | 0,_,out,s=>(out,s)
 | q+1,i,out,s=>
  let x:=(f s).1
  let s1:=(f s).2
  let s2:Ms:=if mx=-1∧i+1=n then⟨s1.sets,ZbR s1.fol x.last x.first⟩ else s1
  let y:Pt:=⟨x.first,x.last,x.null||decide ((i:Int) ≥ mn)⟩
  Zh7 f mn mx n q (i+1) (Zb6 out y s2).1 (Zb6 out y s2).2
def ZnQ(mn mx:Int):Nat:=(if mx=-1 then max mn 1 else mx).toNat
mutual
def mk:T→Ms→Pt×Ms
 | .node k s0 s1 s2 s3 mn mx _ _ l,s=>
  if k=0 then(⟨0,0,false⟩,s)
  else if k=1 then(⟨0,0,true⟩,s)
  else if k=2 then(⟨2 ^ s.sets.length,2 ^ s.sets.length,false⟩,⟨s.sets++[(s0,s1,s2,s3)],s.fol++[0]⟩)
  else if k=3 then Zc2 l ⟨0,0,true⟩ s
  else if k=4 then ZcJ l ⟨0,0,false⟩ s
  else if k=5 then Zh7 (fun s=>ZhT l s) mn mx (ZnQ mn mx) (ZnQ mn mx) 0 ⟨0,0,true⟩ s
  else ZhT l s
def ZhT:List T→Ms→Pt×Ms
 | [],s=>(⟨0,0,false⟩,s)
 | t::_,s=>mk t s
def Zc2:List T→Pt→Ms→Pt×Ms
 | [],out,s=>(out,s)
 | t::l,out,s=>Zc2 l (Zb6 out (mk t s).1 (mk t s).2).1 (Zb6 out (mk t s).1 (mk t s).2).2
def ZcJ:List T→Pt→Ms→Pt×Ms
 | [],out,s=>(out,s)
 | t::l,out,s=>ZcJ l (ZtX out (mk t s).1) (mk t s).2
end
def ZbY(l:List (Int×Int×Int×Int)):List Value:=l.flatMap fun q=>[.int .u64 q.1,.int .u64 q.2.1,.int .u64 q.2.2.1,.int .u64 q.2.2.2]
def Zdz(l:List Nat):List Value:=l.flatMap bwL
theorem ZiC(l:List (Int×Int×Int×Int)):(ZbY l).length=l.length*4:=by
 induction l with
 | nil=>rfl
 | cons a l ih=>simp only[ZbY,List.flatMap_cons,List.length_append,List.length_cons,List.length_nil]at *;omega
theorem ZiD(l:List Nat):(Zdz l).length=l.length*7:=by
 induction l with
 | nil=>rfl
 | cons a l ih=>simp only[Zdz,List.flatMap_cons,List.length_append,Zo1,List.length_cons]at *;omega
theorem Zta(l l':List (Int×Int×Int×Int)):ZbY (l++l')=ZbY l++ZbY l':=by simp[ZbY]
theorem Ztb(l l':List Nat):Zdz (l++l')=Zdz l++Zdz l':=by simp[Zdz]
def Yof(v0 v1:Value)(b:Nat):Prop:=(Tok.mk v0 4).blk=some b∨(Tok.mk v1 7).blk=some b
def RowOk(m:Mem)(v:Value)(k:Nat)(cs:List Value):Prop:=(k=0∧v=.slice none 0 0)∨∃b c,v=.slice (some ⟨b,0,none⟩) k c∧m.reads b 0 cs∧k≠0
structure MkRow (m:Mem)(v0 v1:Value)(s:Ms):Prop where
 row0:RowOk m v0 s.sets.length (ZbY s.sets)
 row1:RowOk m v1 s.fol.length (Zdz s.fol)
 ne:∀b,(Tok.mk v0 4).blk=some b→(Tok.mk v1 7).blk≠some b
structure MkOk (M0 m:Mem)(v0 v1:Value)(s:Ms):Prop extends MkRow m v0 v1 s where
 base:M0.le (m.off (Yof v0 v1))
theorem Zo4{m m':Mem}{Y Y':Nat→Prop}(h:(m.off Y).le m')(hn:∀b,Y' b→Y b∨m.free b):(m.off Y).le (m'.off Y'):=fun b o v hv=>by
 unfold Mem.off at hv ⊢
 split at hv
 ·cases hv
 ·rename_i hY
  have:¬Y' b:=fun h'=>by
   rcases hn b h' with h1|h1
   ·exact hY h1
   ·rw[h1 o]at hv;cases hv
  rw[if_neg this]
  have:=h b o v (by unfold Mem.off;rw[if_neg hY];exact hv)
  exact this
theorem MkOk.next{M0 m m':Mem}{v0 v1 v0' v1':Value}{s s':Ms}(h:MkOk M0 m v0 v1 s)(cS:(m.off (Yof v0 v1)).le m')(hn:∀b,Yof v0' v1' b→Yof v0 v1 b∨m.free b)(hr:MkRow m' v0' v1' s'):MkOk M0 m' v0' v1' s':=
 {hr with base:=Mem.le_trans h.base (Zo4 cS hn) }
theorem MkOk.free{M0 m:Mem}{v0 v1:Value}{s:Ms}(h:MkOk M0 m v0 v1 s){b:Nat}(hb:Yof v0 v1 b):M0.free b:=fun o=>by
 cases he:M0 b o with
 | none=>rfl
 | some u=>
  have:=h.base b o u he
  unfold Mem.off at this
  rw[if_pos hb]at this;cases this
theorem MkOk.le{M0 m:Mem}{v0 v1:Value}{s:Ms}(h:MkOk M0 m v0 v1 s):M0.le m:=Mem.le_trans h.base (Mem.off_le m _)
theorem RowOk.mono{m m':Mem}{v:Value}{k:Nat}{cs:List Value}(h:RowOk m v k cs)(hm:m.le m'):RowOk m' v k cs:=by
 rcases h with h|⟨b,c,h1,h2,h3⟩
 ·exact .inl h
 ·exact .inr ⟨b,c,h1,h2.mono hm,h3⟩
theorem MkRow.mono{m m':Mem}{v0 v1:Value}{s:Ms}(h:MkRow m v0 v1 s)(hm:m.le m'):MkRow m' v0 v1 s:=⟨h.row0.mono hm,h.row1.mono hm,h.ne⟩
theorem ZkE(l r:List Nat)(f:Nat):Zdz (l++f::r)=Zdz l++bwL f++Zdz r:=by simp[Zdz]
theorem ZrZ{l:List Nat}{i f:Nat}(h:l[i]?=some f):Zdz l=Zdz (l.take i)++bwL f++Zdz (l.drop (i+1)):=by
 obtain⟨hi,hf⟩:=List.getElem?_eq_some_iff.1 h
 have e:l=l.take i++f::l.drop (i+1):=by
  conv=>lhs;rw[←List.take_append_drop i l]
  rw[List.drop_eq_getElem_cons hi,hf]
 conv=>lhs;rw[e]
 exact ZkE _ _ _
theorem Ztc{l:List Nat}{i f:Nat}(hi:i < l.length):Zdz (l.set i f)=Zdz (l.take i)++bwL f++Zdz (l.drop (i+1)):=by
 have e:l.set i f=l.take i++f::l.drop (i+1):=List.set_eq_take_append_cons_drop.trans (if_pos hi)
 rw[e];exact ZkE _ _ _
def Zg8(fol ds:List Nat)(b:Nat):List Nat:=fol.mapIdx fun i x=>if i∈ds then x|||b else x
theorem Ztd(fol:List Nat)(b:Nat):Zg8 fol [] b=fol:=by
 unfold Zg8
 apply List.ext_getElem? fun i=>?_
 simp
theorem Zte{fol ds:List Nat}{b i x:Nat}(h:fol[i]?=some x)(hi:i ∉ ds):(Zg8 fol ds b)[i]?=some x:=by
 simp[Zg8,h,hi]
theorem ZqJ{fol ds:List Nat}{b i x:Nat}(h:fol[i]?=some x)(hi:i ∉ ds):Zg8 fol (ds++[i]) b=(Zg8 fol ds b).set i (x|||b):=by
 apply List.ext_getElem? fun j=>?_
 rw[List.getElem?_set]
 have bS:=(List.getElem?_eq_some_iff.1 h).1
 by_cases e:i=j
 ·subst e
  have hx:=(List.getElem?_eq_some_iff.1 h).2
  simp[Zg8,bS,hx]
 ·rw[if_neg e]
  have:j≠i:=fun h=>e h.symm
  simp[Zg8,this]
theorem Ztf{fol ds:List Nat}{a b:Nat}(h:∀i,i < fol.length→(i∈ds↔a.testBit i=true)):Zg8 fol ds b=ZbR fol a b:=by
 unfold Zg8 ZbR
 apply List.ext_getElem? fun j=>?_
 rw[List.getElem?_mapIdx,List.getElem?_mapIdx]
 cases hj:fol[j]? with
 | none=>rfl
 | some x=>
  have:=h j (List.getElem?_eq_some_iff.1 hj).1
  simp only[Option.map_some,Option.some.injEq]
  by_cases hd:j∈ds
  ·rw[if_pos hd,if_pos (this.1 hd)]
  ·rw[if_neg hd,if_neg (fun h=>hd (this.2 h))]
end Go.Rx
namespace Go.Rx
open Go Go.Eng Go.RowKit
def PtIn(n:Nat)(p:Pt):Prop:=(∀i,p.first.testBit i=true→i < n)∧(∀i,p.last.testBit i=true→i < n)
structure MsOk (s:Ms):Prop where
 len:s.fol.length=s.sets.length
 fol:∀(j x:Nat),s.fol[j]?=some x→∀i,x.testBit i=true→i < s.sets.length
theorem PtIn.mono{n n':Nat}{p:Pt}(h:PtIn n p)(hn:n≤n'):PtIn n' p:=⟨fun i hi=>Nat.lt_of_lt_of_le (h.1 i hi) hn,fun i hi=>Nat.lt_of_lt_of_le (h.2 i hi) hn⟩
theorem ZbE(n:Nat)(b:Bool):PtIn n ⟨0,0,b⟩:=⟨fun i hi=>by simp at hi,fun i hi=>by simp at hi⟩
theorem Zg9{a b i:Nat}(h:(a|||b).testBit i=true):a.testBit i=true∨b.testBit i=true:=by
 simpa[Nat.testBit_or]using h
theorem MsOk.loop{s:Ms}(h:MsOk s)(a b:Nat)(hb:∀i,b.testBit i=true→i < s.sets.length):MsOk ⟨s.sets,ZbR s.fol a b⟩:=by
 refine⟨by simp[ZbR,h.len],fun j x hj i hi=>?_⟩
 simp only[ZbR,List.getElem?_mapIdx]at hj
 obtain⟨y,hy,rfl⟩:=Option.map_eq_some_iff.1 hj
 by_cases ip:a.testBit j=true
 ·rw[if_pos ip]at hi
  rcases Zg9 hi with h1|h1
  ·exact h.fol j y hy i h1
  ·exact hb i h1
 ·rw[if_neg ip]at hi
  exact h.fol j y hy i hi
theorem Zr0{n:Nat}{p q:Pt}(hp:PtIn n p)(hq:PtIn n q):PtIn n (ZnP p q):=by
 obtain⟨pf,pl,pn⟩:=p
 obtain⟨qf,ql,qn⟩:=q
 constructor
 ·intro i hi
  cases pn
  ·exact hp.1 i hi
  ·rcases Zg9 hi with h|h
   ·exact hp.1 i h
   ·exact hq.1 i h
 ·intro i hi
  cases qn
  ·exact hq.2 i hi
  ·rcases Zg9 hi with h|h
   ·exact hq.2 i h
   ·exact hp.2 i h
theorem Zr1{n:Nat}{p q:Pt}(hp:PtIn n p)(hq:PtIn n q):PtIn n (ZtX p q):=
 ⟨fun i hi=>(Zg9 hi).elim (hp.1 i) (hq.1 i),fun i hi=>(Zg9 hi).elim (hp.2 i) (hq.2 i)⟩
structure Grows (s:Ms)(r:Pt×Ms):Prop where
 le:s.sets.length≤r.2.sets.length
 ok:MsOk r.2
 pt:PtIn r.2.sets.length r.1
theorem ZfH{p q:Pt}{s:Ms}(h:MsOk s)(hp:PtIn s.sets.length p)(hq:PtIn s.sets.length q):Grows s (Zb6 p q s):=
 ⟨Nat.le_refl _,h.loop _ _ hq.1,Zr0 hp hq⟩
theorem Grows.trans{s s1:Ms}{p:Pt}{r:Pt×Ms}(h:Grows s (p,s1))(k:Grows s1 r):Grows s r:=⟨Nat.le_trans h.le k.le,k.ok,k.pt⟩
theorem Zha{f:Ms→Pt×Ms}(hf:∀s,MsOk s→Grows s (f s))(mn mx:Int)(n:Nat):∀(q i:Nat)(out:Pt)(s:Ms),MsOk s→PtIn s.sets.length out→Grows s (Zh7 f mn mx n q i out s)
 | 0,i,out,s,h,hp=>⟨Nat.le_refl _,h,hp⟩
 | q+1,i,out,s,h,hp=>by
  unfold Zh7
  have h1:=hf s h
  simp only
  generalize fZ:(if mx=-1∧i+1=n then(⟨(f s).2.sets,ZbR (f s).2.fol (f s).1.last (f s).1.first⟩:Ms)else(f s).2)=s2
  have e:s2.sets=(f s).2.sets:=by rw[←fZ];split <;> rfl
  have h2:MsOk s2:=by
   rw[←fZ];split
   ·exact h1.ok.loop _ _ h1.pt.1
   ·exact h1.ok
  have cS:s.sets.length≤s2.sets.length:=by rw[e];exact h1.le
  have h3:Grows s2 (Zb6 out ⟨(f s).1.first,(f s).1.last,(f s).1.null||decide ((i:Int) ≥ mn)⟩ s2):=ZfH h2 (hp.mono cS) (by rw[e];exact h1.pt)
  have h4:=Zha hf mn mx n q (i+1) _ _ h3.ok h3.pt
  exact⟨Nat.le_trans cS (Nat.le_trans h3.le h4.le),h4.ok,h4.pt⟩
theorem Ztg{n i:Nat}(h:(2 ^ n).testBit i=true):i=n:=by
 rw[Nat.testBit_two_pow]at h;exact(of_decide_eq_true h).symm
theorem Zhb{s:Ms}(h:MsOk s)(q:Int×Int×Int×Int):Grows s (⟨2 ^ s.sets.length,2 ^ s.sets.length,false⟩,⟨s.sets++[q],s.fol++[0]⟩):=by
 refine⟨by simp,⟨by simp[h.len],fun j x hj i hi=>?_⟩,?_,?_⟩
 ·rw[List.getElem?_append]at hj
  split at hj
  ·have:=h.fol j x hj i hi
   simp;omega
  ·have:=(List.getElem?_eq_some_iff.1 hj)
   obtain⟨_,h2⟩:=this
   have:x=0:=by
    rw[List.getElem_singleton]at h2;exact h2.symm
   subst this;simp at hi
 ·intro i hi;have:=Ztg hi;simp;omega
 ·intro i hi;have:=Ztg hi;simp;omega
mutual
theorem Zd8:∀(t:T)(s:Ms),MsOk s→Grows s (mk t s)
 | .node k s0 s1 s2 s3 mn mx a c l,s,h=>by
  unfold mk
  split
  ·exact⟨Nat.le_refl _,h,ZbE _ _⟩
  split
  ·exact⟨Nat.le_refl _,h,ZbE _ _⟩
  split
  ·exact Zhb h _
  split
  ·exact ZfI l _ s h (ZbE _ _)
  split
  ·exact ZfJ l _ s h (ZbE _ _)
  split
  ·exact Zha (fun s h=>Zfr l s h) _ _ _ _ _ _ _ h (ZbE _ _)
  ·exact Zfr l s h
theorem Zfr:∀(l:List T)(s:Ms),MsOk s→Grows s (ZhT l s)
 | [],s,h=>by unfold ZhT;exact⟨Nat.le_refl _,h,ZbE _ _⟩
 | t::l,s,h=>by unfold ZhT;exact Zd8 t s h
theorem ZfI:∀(l:List T)(out:Pt)(s:Ms),MsOk s→PtIn s.sets.length out→Grows s (Zc2 l out s)
 | [],out,s,h,hp=>by unfold Zc2;exact⟨Nat.le_refl _,h,hp⟩
 | t::l,out,s,h,hp=>by
  unfold Zc2
  have h1:=Zd8 t s h
  have h2:=ZfH h1.ok (hp.mono h1.le) h1.pt
  have h3:=ZfI l _ _ h2.ok h2.pt
  exact⟨Nat.le_trans h1.le (Nat.le_trans h2.le h3.le),h3.ok,h3.pt⟩
theorem ZfJ:∀(l:List T)(out:Pt)(s:Ms),MsOk s→PtIn s.sets.length out→Grows s (ZcJ l out s)
 | [],out,s,h,hp=>by unfold ZcJ;exact⟨Nat.le_refl _,h,hp⟩
 | t::l,out,s,h,hp=>by
  unfold ZcJ
  have h1:=Zd8 t s h
  have h3:=ZfJ l _ _ h1.ok (Zr1 (hp.mono h1.le) h1.pt)
  exact⟨Nat.le_trans h1.le h3.le,h3.ok,h3.pt⟩
end
theorem ZxF(t:T)(s:Ms):mk t s=(if t.k=0 then(⟨0,0,false⟩,s)
  else if t.k=1 then(⟨0,0,true⟩,s)
  else if t.k=2 then(⟨2 ^ s.sets.length,2 ^ s.sets.length,false⟩,⟨s.sets++[(t.s0,t.s1,t.s2,t.s3)],s.fol++[0]⟩)
  else if t.k=3 then Zc2 t.subs ⟨0,0,true⟩ s
  else if t.k=4 then ZcJ t.subs ⟨0,0,false⟩ s
  else if t.k=5 then Zh7 (fun s=>ZhT t.subs s) t.mn t.mx (ZnQ t.mn t.mx) (ZnQ t.mn t.mx) 0 ⟨0,0,true⟩ s
  else ZhT t.subs s):=by
 cases t;rw[mk];rfl
theorem ZqK{l:List T}{k:Nat}{t:T}(h:l[k]?=some t)(out:Pt)(s:Ms):Zc2 (l.drop k) out s=Zc2 (l.drop (k+1)) (Zb6 out (mk t s).1 (mk t s).2).1 (Zb6 out (mk t s).1 (mk t s).2).2:=by
 obtain⟨hk,he⟩:=List.getElem?_eq_some_iff.1 h
 rw[List.drop_eq_getElem_cons hk,he,Zc2]
theorem ZqL{l:List T}{k:Nat}{t:T}(h:l[k]?=some t)(out:Pt)(s:Ms):ZcJ (l.drop k) out s=ZcJ (l.drop (k+1)) (ZtX out (mk t s).1) (mk t s).2:=by
 obtain⟨hk,he⟩:=List.getElem?_eq_some_iff.1 h
 rw[List.drop_eq_getElem_cons hk,he,ZcJ]
theorem ZmK{f:Ms→Pt×Ms}{c:Nat}(hf:∀s,(f s).2.sets.length=s.sets.length+c)(mn mx:Int)(n:Nat):∀(q i:Nat)(out:Pt)(s:Ms),(Zh7 f mn mx n q i out s).2.sets.length=s.sets.length+q*c
 | 0,i,out,s=>by simp[Zh7]
 | q+1,i,out,s=>by
  unfold Zh7
  simp only
  rw[ZmK hf]
  have h2:(if mx=-1∧i+1=n then(⟨(f s).2.sets,ZbR (f s).2.fol (f s).1.last (f s).1.first⟩:Ms)else(f s).2).sets.length=s.sets.length+c:=by
   split <;> exact hf s
  show(Ms.sets _).length+_=_
  simp only[Zb6]
  rw[h2,Nat.add_mul];omega
theorem Zo5{x:Int}(h:Zns x 10001≤10000):Zns x 10001=x∧x≤10000:=by
 unfold Zns at *
 split at h
 ·omega
 ·rename_i h2;exact⟨if_neg h2,h⟩
theorem Zvj{mn mx:Int}(h:Zdx mn mx=true):Zns (if mx=-1 then ZmE (ZmE mn 0) 1 else ZmE (ZmE mn 0) mx) 10001=(ZnQ mn mx:Nat)∧1≤ZnQ mn mx:=by
 unfold Zdx at h
 simp only[Bool.and_eq_true,Bool.not_eq_true',Bool.or_eq_false_iff,Bool.or_eq_true,decide_eq_false_iff_not,decide_eq_true_eq,beq_iff_eq]at h
 unfold ZnQ Zns ZmE
 by_cases hm:mx=-1
 ·simp only[hm,if_true]
  split <;> split <;> split <;> omega
 ·simp only[hm,if_false]
  split <;> split <;> split <;> omega
theorem ZdX{t:T}(h:t.right=true):(t.k=1∧t.subs=[])∨(t.k=2∧t.subs=[]∧t.setZ=false)∨t.k=3∨t.k=4∨(t.k=5∧t.subs.length=1∧Zdx t.mn t.mx=true)∨(t.k=6∧t.subs.length=1):=by
 unfold T.right at h
 rw[Bool.and_eq_true]at h
 obtain⟨h0,h2⟩:=h
 simp only[Bool.not_eq_true',Bool.or_eq_false_iff,Bool.and_eq_false_iff,decide_eq_false_iff_not]at h0
 have hz:t.k < 3→t.subs=[]:=fun hk=>by
  have h1:=h0.2.2
  rcases h1 with h1|h1
  ·omega
  ·cases hs:t.subs with
   | nil=>rfl
   | cons a l=>rw[hs]at h1;simp at h1
 by_cases h1:t.k=1;· exact .inl ⟨h1,hz (by omega)⟩
 by_cases h3:t.k=2
 ·rw[if_neg h1,if_pos h3]at h2
  exact .inr (.inl ⟨h3,hz (by omega),by simpa using h2⟩)
 by_cases h4:t.k=3;· exact .inr (.inr (.inl h4))
 by_cases h5:t.k=4;· exact .inr (.inr (.inr (.inl h5)))
 by_cases h6:t.k=5
 ·rw[if_neg h1,if_neg h3,if_neg h4,if_neg h5,if_pos h6]at h2
  simp only[Bool.and_eq_true,beq_iff_eq]at h2
  exact .inr (.inr (.inr (.inr (.inl ⟨h6,h2.1,h2.2.1⟩))))
 ·rw[if_neg h1,if_neg h3,if_neg h4,if_neg h5,if_neg h6]at h2
  simp only[Bool.and_eq_true,beq_iff_eq]at h2
  exact .inr (.inr (.inr (.inr (.inr h2))))
mutual
theorem Zjy:∀(t:T),(∀x∈t.nodes,x.right=true)→t.pos≤10000→∀s:Ms,(mk t s).2.sets.length=s.sets.length+t.pos.toNat
 | .node k s0 s1 s2 s3 mn mx a c l,cB,hp,s=>by
  have hr:=ZdX (cB (.node k s0 s1 s2 s3 mn mx a c l) (by simp[T.nodes]))
  have hl:∀x∈Zau l,x.right=true:=fun x hx=>cB x (by simp[T.nodes,hx])
  simp only[T.k,T.subs,T.mn,T.mx]at hr
  have u2:=ZfE l
  simp only[T.pos,Zva]at hp ⊢
  rw[mk]
  rcases hr with⟨hk,hs⟩|⟨hk,hs,_⟩|hk|hk|⟨hk,h1,hb⟩|⟨hk,h1⟩
  ·subst hk hs;simp[Zdy,Zns]
  ·subst hk hs;simp[Zdy,Zns]
  ·subst hk
   have hq:=Zo5 hp
   rw[hq.1]
   simp only[show ¬(3:Int)=0 by omega,show ¬(3:Int)=1 by omega,show ¬(3:Int)=2 by omega,show ¬(3:Int)=5 by omega,if_false,if_true,Int.zero_add]at hq ⊢
   exact ZkF l hl (by omega) _ s
  ·subst hk
   have hq:=Zo5 hp
   rw[hq.1]
   simp only[show ¬(4:Int)=0 by omega,show ¬(4:Int)=1 by omega,show ¬(4:Int)=2 by omega,show ¬(4:Int)=3 by omega,show ¬(4:Int)=5 by omega,if_false,if_true,Int.zero_add]at hq ⊢
   exact ZkG l hl (by omega) _ s
  ·subst hk
   have hq:=Zo5 hp
   rw[hq.1]
   obtain⟨hF,np⟩:=Zvj hb
   simp only[show ¬(5:Int)=0 by omega,show ¬(5:Int)=1 by omega,show ¬(5:Int)=2 by omega,show ¬(5:Int)=3 by omega,show ¬(5:Int)=4 by omega,if_false,if_true,Int.zero_add,hF]at hq ⊢
   have cS:Zdy l≤10000:=by
    have h2:Zdy l*1≤Zdy l*(ZnQ mn mx:Nat):=Int.mul_le_mul_of_nonneg_left (by omega) u2
    omega
   have hf:=fun s=>ZmL l h1 hl cS s
   rw[ZmK hf]
   obtain⟨z,hz⟩:∃z:Nat,Zdy l=z:=⟨(Zdy l).toNat,by omega⟩
   rw[hz,Int.toNat_natCast,←Int.natCast_mul,Int.toNat_natCast,Nat.mul_comm]
  ·subst hk
   have hq:=Zo5 hp
   rw[hq.1]
   simp only[show ¬(6:Int)=0 by omega,show ¬(6:Int)=1 by omega,show ¬(6:Int)=2 by omega,show ¬(6:Int)=3 by omega,show ¬(6:Int)=4 by omega,show ¬(6:Int)=5 by omega,if_false,if_true,Int.zero_add]at hq ⊢
   exact ZmL l h1 hl (by omega) s
theorem ZmL:∀(l:List T),l.length=1→(∀x∈Zau l,x.right=true)→Zdy l≤10000→∀s:Ms,(ZhT l s).2.sets.length=s.sets.length+(Zdy l).toNat
 | [],h,_,_,_=>by simp at h
 | [t],_,cB,hp,s=>by
  simp only[ZhT,Zdy,Int.add_zero]at hp ⊢
  exact Zjy t (fun x hx=>cB x (by simp[Zau,hx])) hp s
 | _::_::_,h,_,_,_=>by simp at h
theorem ZkF:∀(l:List T),(∀x∈Zau l,x.right=true)→Zdy l≤10000→∀(out:Pt)(s:Ms),(Zc2 l out s).2.sets.length=s.sets.length+(Zdy l).toNat
 | [],_,_,out,s=>by simp[Zc2,Zdy]
 | t::l,cB,hp,out,s=>by
  have h1:=Zg4 t
  have h2:=ZfE l
  simp only[Zc2,Zdy]at hp ⊢
  rw[ZkF l (fun x hx=>cB x (by simp[Zau,hx])) (by omega)]
  show(mk t s).2.sets.length+_=_
  rw[Zjy t (fun x hx=>cB x (by simp[Zau,hx])) (by omega) s]
  omega
theorem ZkG:∀(l:List T),(∀x∈Zau l,x.right=true)→Zdy l≤10000→∀(out:Pt)(s:Ms),(ZcJ l out s).2.sets.length=s.sets.length+(Zdy l).toNat
 | [],_,_,out,s=>by simp[ZcJ,Zdy]
 | t::l,cB,hp,out,s=>by
  have h1:=Zg4 t
  have h2:=ZfE l
  simp only[ZcJ,Zdy]at hp ⊢
  rw[ZkG l (fun x hx=>cB x (by simp[Zau,hx])) (by omega)]
  rw[Zjy t (fun x hx=>cB x (by simp[Zau,hx])) (by omega) s]
  omega
end
end Go.Rx
namespace Go.Rx
open Go Go.Eng Go.RowKit
abbrev QS:=Int×Int×Int×Int
structure Nf where
 sets:List QS
 fol:List (List Int)
 first:List Int
 last:List Int
 empty:Bool
deriving DecidableEq
def ZaA(l:List Int):List Value:=l.map fun i=>.int .i64 i
theorem Zcr(l:List Int):(ZaA l).length=l.length:=by simp[ZaA]
def SlI(st:Bool)(l:List Int)(v:Value)(m:Mem):Prop:=∃a c,v=.slice a l.length c∧rowRd m a (ZaA l)∧l.length≤1000000∧(st=true→l=[]→a=none)
def SlQ(st:Bool)(l:List QS)(v:Value)(m:Mem):Prop:=∃a c,v=.slice a l.length c∧rowRd m a (ZbY l)∧l.length≤1000000∧(st=true→l=[]→a=none)
def FolR(st:Bool)(fol:List (List Int))(v:Value)(m:Mem):Prop:=∃a c vs,v=.slice a fol.length c∧rowRd m a vs∧vs.length=fol.length∧fol.length≤1000000∧∀(i:Nat)(v:Value)(l:List Int),vs[i]?=some v→fol[i]?=some l→SlI st l v m
def NfR(st:Bool)(A:Nf)(v:Value)(m:Mem):Prop:=∃s f x y,v=.agg #[s,f,x,y,.bool A.empty]∧SlQ st A.sets s m∧FolR st A.fol f m∧SlI st A.first x m∧SlI st A.last y m
theorem SlI.mono{st:Bool}{l:List Int}{v:Value}{m m':Mem}(h:SlI st l v m)(k:m.le m'):SlI st l v m':=by
 obtain⟨a,c,h1,h2,h3⟩:=h;exact⟨a,c,h1,h2.mono k,h3⟩
theorem SlQ.mono{st:Bool}{l:List QS}{v:Value}{m m':Mem}(h:SlQ st l v m)(k:m.le m'):SlQ st l v m':=by
 obtain⟨a,c,h1,h2,h3⟩:=h;exact⟨a,c,h1,h2.mono k,h3⟩
theorem FolR.mono{st:Bool}{l:List (List Int)}{v:Value}{m m':Mem}(h:FolR st l v m)(k:m.le m'):FolR st l v m':=by
 obtain⟨a,c,vs,h1,h2,h3,h4,h5⟩:=h;exact⟨a,c,vs,h1,h2.mono k,h3,h4,fun i v l hv hl=>(h5 i v l hv hl).mono k⟩
theorem NfR.mono{st:Bool}{A:Nf}{v:Value}{m m':Mem}(h:NfR st A v m)(k:m.le m'):NfR st A v m':=by
 obtain⟨s,f,x,y,h1,h2,h3,h4,h5⟩:=h;exact⟨s,f,x,y,h1,h2.mono k,h3.mono k,h4.mono k,h5.mono k⟩
theorem Zd9{m:Mem}{a:Option Addr}{l:List Int}(h:rowRd m a (ZaA l)){i:Nat}{x:Int}(hx:l[i]?=some x):∃b o,a=some ⟨b,o,none⟩∧m b (o+i*1)=some (.int .i64 x):=by
 have hv:(ZaA l)[i]?=some (.int .i64 x):=by simp[ZaA,hx]
 rcases h with h|⟨b,o,h1,h2⟩
 ·rw[h]at hv;simp at hv
 ·exact⟨b,o,h1,by have:=h2 i _ hv;rwa [Nat.mul_one]⟩
theorem Zgi{m:Mem}{a:Option Addr}{l:List Value}(h:rowRd m a l){i:Nat}{x:Value}(hx:l[i]?=some x):∃b o,a=some ⟨b,o,none⟩∧m b (o+i*1)=some x:=by
 rcases h with h|⟨b,o,h1,h2⟩
 ·rw[h]at hx;simp at hx
 ·exact⟨b,o,h1,by have:=h2 i _ hx;rwa [Nat.mul_one]⟩
def qCs(q:QS):List Value:=[.int .u64 q.1,.int .u64 q.2.1,.int .u64 q.2.2.1,.int .u64 q.2.2.2]
theorem Zr2{l:List QS}{i:Nat}{q:QS}(h:l[i]?=some q){j:Nat}{v:Value}(hv:(qCs q)[j]?=some v):(ZbY l)[i*4+j]?=some v:=by
 have hj:j < 4:=by have:=(List.getElem?_eq_some_iff.1 hv).1;simpa[qCs]using this
 induction l generalizing i with
 | nil=>simp at h
 | cons a l ih=>
  show(qCs a++ZbY l)[i*4+j]?=some v
  cases i with
  | zero=>
   simp at h;subst h
   rw[Nat.zero_mul,Nat.zero_add,List.getElem?_append_left (by simpa[qCs]using hj)];exact hv
  | succ i=>
   rw[List.getElem?_append_right (by simp[qCs];omega)]
   have:=ih (by simpa using h)
   rw[show(i+1)*4+j - (qCs a).length=i*4+j by simp[qCs];omega];exact this
theorem ZlM{m:Mem}{a:Option Addr}{l:List QS}(h:rowRd m a (ZbY l)){i:Nat}{x:QS}(hx:l[i]?=some x):∃b o,a=some ⟨b,o,none⟩∧m.reads b (o+i*4) [.int .u64 x.1,.int .u64 x.2.1,.int .u64 x.2.2.1,.int .u64 x.2.2.2]:=by
 rcases h with h|⟨b,o,h1,h2⟩
 ·have:=Zr2 hx (j:=0) (v:=.int .u64 x.1) rfl
  rw[h]at this;simp at this
 ·refine⟨b,o,h1,fun j v hv=>?_⟩
  have:=h2 _ _ (Zr2 hx hv)
  rwa [←Nat.add_assoc]at this
def Zeh:List Int→Int→Int→Bool
 | [],_,_=>true
 | p::l,lo,hi=>decide (lo < p)&&(decide (p≤hi)&&Zeh l p hi)
def zQ:QS:=(0,0,0,0)
def Nf.top(A:Nf):Int:=(A.sets.length:Int) - 1
def Nf.right(A:Nf):Bool:=
 decide (A.sets.length≤400)&&(decide (A.fol.length=A.sets.length)&&(Zeh A.first (-1) A.top&&(Zeh A.last (-1) A.top&&((A.fol.zip A.sets).all fun p=>Zeh p.1 (-1) A.top&&!(p.2 == zQ)))))
theorem ZdA{l:List Int}:∀{lo hi:Int},Zeh l lo hi=true↔(l.Pairwise (· < ·)∧∀x∈l,lo < x∧x≤hi):=by
 induction l with
 | nil=>intro lo hi;simp[Zeh]
 | cons p l ih=>
  intro lo hi
  simp only[Zeh,Bool.and_eq_true,decide_eq_true_eq,ih,List.pairwise_cons,List.mem_cons,forall_eq_or_imp]
  constructor
  ·rintro⟨h1,h2,h3,h4⟩
   exact⟨⟨fun x hx=>(h4 x hx).1,h3⟩,⟨h1,h2⟩,fun x hx=>⟨Int.lt_trans h1 (h4 x hx).1,(h4 x hx).2⟩⟩
  ·rintro⟨⟨h1,h2⟩,⟨h3,h4⟩,h5⟩
   exact⟨h3,h4,h2,fun x hx=>⟨h1 x hx,(h5 x hx).2⟩⟩
def Zbn(f:Nat):List Int:=(ZcI f).map fun i:Nat=>(i:Int)
theorem ZcU{f:Nat}{x:Int}:x∈Zbn f↔∃i:Nat,i < 448∧f.testBit i=true∧x=i:=by
 simp only[Zbn,List.mem_map,ZlK]
 constructor
 ·rintro⟨i,⟨h1,h2⟩,rfl⟩;exact⟨i,h1,h2,rfl⟩
 ·rintro⟨i,h1,h2,rfl⟩;exact⟨i,⟨h1,h2⟩,rfl⟩
theorem ZiE(f:Nat):(Zbn f).Pairwise (· < ·):=by
 unfold Zbn
 rw[List.pairwise_map]
 exact(ZiB f).imp (by intro a b h;omega)
theorem Zo6(f:Nat):(Zbn f).length≤448:=by simp[Zbn,Zo3]
theorem ZqM{f n:Nat}(hn:n≤448)(h:∀i,f.testBit i=true→i < n):Zeh (Zbn f) (-1) ((n:Int) - 1)=true:=by
 rw[ZdA]
 refine⟨ZiE f,fun x hx=>?_⟩
 obtain⟨i,h1,h2,rfl⟩:=ZcU.1 hx
 have:=h i h2;omega
def ZwJ(r:Pt×Ms):Nf:=⟨r.2.sets,r.2.fol.map Zbn,Zbn r.1.first,Zbn r.1.last,r.1.null⟩
def T.auto(t:T):Nf:=ZwJ (mk t ⟨[],[]⟩)
def T.nfit(t:T):Bool:=t.clean&&(decide (t.size≤120)&&decide (t.positions≤400))
def nf0:Nf:=⟨[],[],[],[],false⟩
def T.ofN(t:T):Nf:=if t.isNone then nf0 else if t.nfit then t.auto else nf0
def T.ofE(t:T):Int:=if t.isNone then 0 else if t.nfit then 0 else 170
end Go.Rx
namespace Go.Rx
open Go Go.Eng Go.RowKit
def Zqa(p:Nat)(cur:List (List Int))(q:Int):List (List Int):=cur.modify q.toNat (fun l=>l++[(p:Int)])
def ZhG(p:Nat)(cur:List (List Int))(l:List Int):List (List Int):=l.foldl (Zqa p) cur
def ZdB:List (List Int)→Nat→List (List Int)→List (List Int)
 | [],_,cur=>cur
 | l::r,p,cur=>ZdB r (p+1) (ZhG p cur l)
def ZgH(fol:List (List Int)):List (List Int):=ZdB fol 0 (List.replicate fol.length [])
def Nf.turn(A:Nf):Nf:=⟨A.sets,ZgH A.fol,A.last,A.first,A.empty⟩
theorem Zhc(p:Nat)(cur:List (List Int))(q:Int):(Zqa p cur q).length=cur.length:=by simp[Zqa]
theorem ZlN{p:Nat}{cur:List (List Int)}{q:Int}{i:Nat}{l:List Int}(h:cur[i]?=some l):(Zqa p cur q)[i]?=some (if q.toNat=i then l++[(p:Int)]else l):=by
 unfold Zqa
 rw[List.getElem?_modify,h]
 split <;> rfl
theorem Zo7(p:Nat)(l:List Int):∀cur:List (List Int),(ZhG p cur l).length=cur.length:=by
 induction l with
 | nil=>intro cur;rfl
 | cons q l ih=>intro cur;show(ZhG p (Zqa p cur q) l).length=_;rw[ih,Zhc]
theorem ZiF:∀(r:List (List Int)) (p:Nat) (cur:List (List Int)),(ZdB r p cur).length=cur.length
 | [],p,cur=>rfl
 | l::r,p,cur=>by rw[ZdB,ZiF,Zo7]
theorem ZdC(fol:List (List Int)):(ZgH fol).length=fol.length:=by simp[ZgH,ZiF]
theorem ZkH{p i:Nat}:∀{l:List Int},l.Pairwise (· < ·)→(∀x∈l,0≤x)→∀{cur:List (List Int)} {c:List Int},cur[i]?=some c→(ZhG p cur l)[i]?=some (c++if(i:Int)∈l then[(p:Int)]else[])
 | [],_,_,cur,c,h=>by simp[ZhG,h]
 | q::l,hl,hn,cur,c,h=>by
  rw[List.pairwise_cons]at hl
  show(ZhG p (Zqa p cur q) l)[i]?=_
  rw[ZkH hl.2 (fun x hx=>hn x (by simp[hx])) (ZlN h)]
  have hq:=hn q (by simp)
  by_cases tK:q.toNat=i
  ·have:(i:Int)=q:=by omega
   have qO:(i:Int) ∉ l:=fun hm=>by have:=hl.1 _ hm;omega
   rw[if_pos tK,if_neg qO,if_pos (by simp[this]),List.append_nil]
  ·have:¬(i:Int)=q:=by omega
   rw[if_neg tK]
   simp[this]
theorem ZiG{i:Nat}:∀{r:List (List Int)} {p:Nat},(∀l∈r,l.Pairwise (· < ·)∧∀x∈l,0≤x)→∀{cur:List (List Int)} {c:List Int},cur[i]?=some c→(ZdB r p cur)[i]?=some (c++(((List.range r.length).filter fun k=>decide ((i:Int)∈(r[k]?).getD [])).map fun k:Nat=>((p+k:Nat):Int)))
 | [],p,_,cur,c,h=>by simp[ZdB,h]
 | l::r,p,hr,cur,c,h=>by
  have h1:=hr l (by simp)
  rw[ZdB,ZiG (fun l hl=>hr l (by simp[hl])) (ZkH h1.1 h1.2 h),List.length_cons,List.range_succ_eq_map,List.filter_cons,List.append_assoc]
  congr 2
  have e:(List.map Nat.succ (List.range r.length)).filter (fun k=>decide ((i:Int)∈((l::r)[k]?).getD []))=((List.range r.length).filter fun k=>decide ((i:Int)∈(r[k]?).getD [])).map Nat.succ:=by
   rw[List.filter_map];rfl
  rw[e]
  have e2:(((List.range r.length).filter fun k=>decide ((i:Int)∈(r[k]?).getD [])).map Nat.succ).map (fun k:Nat=>((p+k:Nat):Int))=((List.range r.length).filter fun k=>decide ((i:Int)∈(r[k]?).getD [])).map fun k:Nat=>((p+1+k:Nat):Int):=by
   rw[List.map_map];apply List.map_congr_left;intro k _;simp;omega
  by_cases hi:(i:Int)∈l
  ·rw[if_pos hi,if_pos (by simp[hi]),List.map_cons,e2];simp
  ·rw[if_neg hi,if_neg (by simp[hi]),e2];simp
theorem Zo8{fol:List (List Int)}{i:Nat}(hi:i < fol.length)(hr:∀l∈fol,l.Pairwise (· < ·)∧∀x∈l,0≤x):(ZgH fol)[i]?=some (((List.range fol.length).filter fun k=>decide ((i:Int)∈(fol[k]?).getD [])).map fun k:Nat=>(k:Int)):=by
 unfold ZgH
 rw[ZiG hr (c:=[]) (by simp[hi])]
 simp
theorem ZlO{fol:List (List Int)}{i:Nat}{l:List Int}(h:(ZgH fol)[i]?=some l)(hr:∀l∈fol,l.Pairwise (· < ·)∧∀x∈l,0≤x){x:Int}:x∈l↔∃(k:Nat)(r:List Int),x=k∧fol[k]?=some r∧(i:Int)∈r:=by
 have hi:i < fol.length:=by have:=(List.getElem?_eq_some_iff.1 h).1;rwa [ZdC]at this
 rw[Zo8 hi hr]at h
 cases h
 simp only[List.mem_map,List.mem_filter,List.mem_range,decide_eq_true_eq]
 constructor
 ·rintro⟨k,⟨h1,h2⟩,rfl⟩
  rw[List.getElem?_eq_getElem h1]at h2
  exact⟨k,fol[k],rfl,List.getElem?_eq_getElem h1,h2⟩
 ·rintro⟨k,r,rfl,h1,h2⟩
  exact⟨k,⟨(List.getElem?_eq_some_iff.1 h1).1,by rw[h1];exact h2⟩,rfl⟩
theorem ZiH{fol:List (List Int)}{i:Nat}{l:List Int}(h:(ZgH fol)[i]?=some l)(hr:∀l∈fol,l.Pairwise (· < ·)∧∀x∈l,0≤x):l.Pairwise (· < ·)∧l.length≤fol.length:=by
 have hi:i < fol.length:=by have:=(List.getElem?_eq_some_iff.1 h).1;rwa [ZdC]at this
 rw[Zo8 hi hr]at h
 cases h
 constructor
 ·rw[List.pairwise_map]
  exact((List.pairwise_lt_range (n:=fol.length)).filter _).imp (by intro a b h;omega)
 ·rw[List.length_map];exact Nat.le_trans (List.length_filter_le _ _) (by simp)
structure Nf.Ok (A:Nf):Prop where
 n:A.sets.length≤400
 len:A.fol.length=A.sets.length
 first:A.first.Pairwise (· < ·)∧∀x∈A.first,-1 < x∧x≤A.top
 last:A.last.Pairwise (· < ·)∧∀x∈A.last,-1 < x∧x≤A.top
 fol:∀l∈A.fol,l.Pairwise (· < ·)∧∀x∈l,-1 < x∧x≤A.top
 sets:∀q∈A.sets,q≠zQ
theorem Zgj{A:Nf}:A.right=true↔A.Ok:=by
 unfold Nf.right
 simp only[Bool.and_eq_true,decide_eq_true_eq,List.all_eq_true,ZdA,Bool.not_eq_true',beq_eq_false_iff_ne]
 constructor
 ·rintro⟨h1,h2,h3,h4,h5⟩
  refine⟨h1,h2,h3,h4,fun l hl=>?_,fun q hq=>?_⟩
  ·obtain⟨i,hi⟩:=List.getElem?_of_mem hl
   have bS:=(List.getElem?_eq_some_iff.1 hi).1
   have:(A.fol.zip A.sets)[i]?=some (l,A.sets[i]'(by omega)):=List.getElem?_zip_eq_some.2 ⟨hi,List.getElem?_eq_getElem (by omega)⟩
   exact(h5 _ (List.mem_of_getElem? this)).1
  ·obtain⟨i,hi⟩:=List.getElem?_of_mem hq
   have bS:=(List.getElem?_eq_some_iff.1 hi).1
   have:(A.fol.zip A.sets)[i]?=some (A.fol[i]'(by omega),q):=List.getElem?_zip_eq_some.2 ⟨List.getElem?_eq_getElem (by omega),hi⟩
   exact(h5 _ (List.mem_of_getElem? this)).2
 ·rintro⟨h1,h2,h3,h4,h5,h6⟩
  refine⟨h1,h2,h3,h4,fun p hp=>?_⟩
  obtain⟨l,q⟩:=p
  exact⟨h5 l (List.of_mem_zip hp).1,h6 q (List.of_mem_zip hp).2⟩
theorem Nf.Ok.rows{A:Nf}(h:A.Ok):∀l∈A.fol,l.Pairwise (· < ·)∧∀x∈l,0≤x:=fun l hl=>⟨(h.fol l hl).1,fun x hx=>by have:=((h.fol l hl).2 x hx).1;omega⟩
theorem ZwK{A:Nf}(h:A.Ok):A.turn.Ok:=by
 refine⟨h.n,by show(ZgH A.fol).length=_;rw[ZdC];exact h.len,h.last,h.first,fun l hl=>?_,h.sets⟩
 obtain⟨i,hi⟩:=List.getElem?_of_mem (show l∈ZgH A.fol from hl)
 refine⟨(ZiH hi h.rows).1,fun x hx=>?_⟩
 obtain⟨k,r,rfl,h1,h2⟩:=(ZlO hi h.rows).1 hx
 have:=(List.getElem?_eq_some_iff.1 h1).1
 have:=h.len
 show _∧(k:Int)≤A.top
 unfold Nf.top;omega
structure TurnI (base m:Mem)(b:Nat)(F:Nat→Option (Nat×Nat))(cur:List (List Int)):Prop where
 le:base.le m
 fr:base.free b
 cell:∀(q:Nat)(l:List Int),cur[q]?=some l→(F q=none∧l=[]∧m b q=some (.slice none 0 0))∨∃bq c,F q=some (bq,c)∧l≠[]∧l.length≤c∧m b q=some (.slice (some ⟨bq,0,none⟩) l.length c)∧(∀o,o < c→∃v,m bq o=some v)∧m.reads bq 0 (ZaA l)∧base.free bq∧bq≠b
 ne:∀(q q' b0 c c':Nat),F q=some (b0,c)→F q'=some (b0,c')→q=q'
 dom:∀(q:Nat)(x:Nat×Nat),F q=some x→q < cur.length
theorem Zr3{m m':Mem}(h:m.le m'){b:Nat}(hf:m'.free b):m.free b:=fun o=>by
 cases he:m b o with
 | none=>rfl
 | some v=>have:=h _ _ _ he;rw[hf o]at this;cases this
theorem ZiI(l r:List Int):ZaA (l++r)=ZaA l++ZaA r:=by simp[ZaA]
theorem TurnI.push{base m:Mem}{b:Nat}{F:Nat→Option (Nat×Nat)}{cur:List (List Int)}(h:TurnI base m b F cur){q:Int}{p:Nat}{l:List Int}(rA:0≤q)(hq:cur[q.toNat]?=some l){a:Option Addr}{c:Nat}(hm:m b q.toNat=some (.slice a l.length c)){m1 m2 M:Mem}(bJ:(m.cutA a (l.length*1)).le m1)
  {a':Option Addr} {c':Nat} (hr:rowRd m2 a' (ZaA l++[.int .i64 (p:Int)])) (hf:TokFact m1 a a' (l.length+1) c') (u4:(m.cutA a (l.length*1)).le M) (dG:m2.le M) (zs:List Value) (hz:zs.length=(c' - (l.length+1))*1):
  ∃F',TurnI base ((M.upd b q.toNat [.slice a' (l.length+1) c']).addA a' ((l.length+1)*1) zs) b F' (Zqa p cur q):=by
 have rB:=(List.getElem?_eq_some_iff.1 hq).1
 have u5:∀b o,a=some ⟨b,o,none⟩→o=0:=fun b1 o1 e=>by
  rcases h.cell _ _ hq with⟨_,_,h3⟩|⟨bq,c0,_,_,_,h4,_⟩
  ·rw[hm,e]at h3;simp at h3
  ·rw[hm,e]at h4;simp at h4;exact h4.1.2
 obtain⟨hc',gL⟩:=hf.old u5
 rcases hr with hr|⟨b',o',ha',cU⟩
 ·have:=congrArg List.length hr;simp at this
 rcases gL with rC|⟨b2,gu,gv⟩
 ·rw[rC]at ha';cases ha'
 rw[gu]at ha'
 simp only[Option.some.injEq,Addr.mk.injEq,and_true]at ha'
 obtain⟨rfl,rfl⟩:=ha'
 subst gu
 have gP:∀k o v,m k o=some v→(∀bq c0,F q.toNat=some (bq,c0)→k≠bq)→M k o=some v:=fun k o v hv hk=>by
  refine u4 k o v ?_
  unfold Mem.cutA
  split
  ·rename_i k0 o0 s0
   rcases h.cell _ _ hq with⟨_,_,h3⟩|⟨bq,c0,h1,_,_,h4,_⟩
   ·rw[hm]at h3;simp only[Option.some.injEq,Value.slice.injEq]at h3;exact absurd h3.1 (by simp)
   ·rw[hm]at h4
    simp only[Option.some.injEq,Value.slice.injEq,Addr.mk.injEq]at h4
    rw[if_neg (fun hc=>hk bq c0 h1 (hc.1.trans h4.1.1))];exact hv
  ·exact hv
 have hb'k:∀k o v,m k o=some v→(∀bq c0,F q.toNat=some (bq,c0)→k≠bq)→k≠b2:=fun k o v hv hk e=>by
  subst e
  have lD:(m.cutA a (l.length*1)) k o=some v:=by
   unfold Mem.cutA
   split
   ·rename_i k0 o0 s0
    rcases h.cell _ _ hq with⟨_,_,h3⟩|⟨bq,c0,h1,_,_,h4,_⟩
    ·rw[hm]at h3;simp only[Option.some.injEq,Value.slice.injEq]at h3;exact absurd h3.1 (by simp)
    ·rw[hm]at h4
     simp only[Option.some.injEq,Value.slice.injEq,Addr.mk.injEq]at h4
     rw[if_neg (fun hc=>hk bq c0 h1 (hc.1.trans h4.1.1))];exact hv
   ·exact hv
  rcases gv with gv|gv
  ·rcases h.cell _ _ hq with⟨_,_,h3⟩|⟨bq,c0,h1,_,_,h4,_⟩
   ·rw[hm,gv]at h3;simp only[Option.some.injEq,Value.slice.injEq]at h3;exact absurd h3.1 (by simp)
   ·rw[hm,gv]at h4
    simp only[Option.some.injEq,Value.slice.injEq,Addr.mk.injEq]at h4
    exact hk bq c0 h1 h4.1.1
  ·have:=bJ _ _ _ lD
   rw[gv o]at this;cases this
 have lE:∀q' x,cur[q']?=some x→∃v,m b q'=some v:=fun q' x hx=>by
  rcases h.cell _ _ hx with⟨_,_,h3⟩|⟨_,_,_,_,_,h4,_⟩
  ·exact⟨_,h3⟩
  ·exact⟨_,h4⟩
 have rD:∀bq c0,F q.toNat=some (bq,c0)→b≠bq:=fun bq c0 h1 e=>by
  rcases h.cell _ _ hq with⟨h3,_,_⟩|⟨bq',c0',h1',_,_,_,_,_,_,h8⟩
  ·rw[h3]at h1;cases h1
  ·rw[h1]at h1';cases h1';exact h8 e.symm
 have gy:b≠b2:=by
  obtain⟨v,hv⟩:=lE _ _ hq
  exact hb'k b _ v hv rD
 let N:=(M.upd b q.toNat [.slice (some ⟨b2,0,none⟩) (l.length+1) c']).addA (some ⟨b2,0,none⟩) ((l.length+1)*1) zs
 have hN:∀k o,k≠b2→(k≠b∨o≠q.toNat)→N k o=M k o:=fun k o hk u6=>by
  show Mem.addAt _ b2 _ zs k o=_
  unfold Mem.addAt
  rw[if_neg (fun hc=>hk hc.1)]
  unfold Mem.upd
  rw[if_neg]
  rintro⟨e1,e2,e3⟩
  simp at e3
  rcases u6 with h|h
  ·exact h e1
  ·omega
 have oD:N b q.toNat=some (.slice (some ⟨b2,0,none⟩) (l.length+1) c'):=by
  show Mem.addAt _ b2 _ zs b q.toNat=_
  unfold Mem.addAt
  rw[if_neg (fun hc=>gy hc.1)]
  unfold Mem.upd
  rw[if_pos ⟨rfl,Nat.le_refl _,by simp⟩];simp
 have mB:base.free b2:=by
  rcases gv with gv|gv
  ·rcases h.cell _ _ hq with⟨_,_,h3⟩|⟨bq,c0,h1,_,_,h4,_,_,h7,_⟩
   ·rw[hm,gv]at h3;simp only[Option.some.injEq,Value.slice.injEq]at h3;exact absurd h3.1 (by simp)
   ·rw[hm,gv]at h4
    simp only[Option.some.injEq,Value.slice.injEq,Addr.mk.injEq]at h4
    rw[h4.1.1];exact h7
  ·intro o
   cases he:base b2 o with
   | none=>rfl
   | some v=>
    exfalso
    refine hb'k b2 o v (h.le _ _ _ he) (fun bq c0 h1 e=>?_) rfl
    rcases h.cell _ _ hq with⟨h3,_,_⟩|⟨bq',c0',h1',_,_,_,_,_,h7,_⟩
    ·rw[h3]at h1;cases h1
    ·rw[h1]at h1';cases h1'
     rw[e,h7 o]at he;cases he
 refine⟨fun i=>if i=q.toNat then some (b2,c')else F i,?_⟩
 show TurnI base N b _ _
 refine⟨fun k o v hv=>?_,h.fr,fun i x hx=>?_,fun i i' b0 c0 c0' h1 h2=>?_,fun i x hx=>?_⟩
 ·have gN:k≠b2:=fun e=>by subst e;rw[mB o]at hv;cases hv
  have i8:k≠b:=fun e=>by subst e;rw[h.fr o]at hv;cases hv
  rw[hN k o gN (.inl i8)]
  refine gP k o v (h.le _ _ _ hv) fun bq c0 h1 e=>?_
  rcases h.cell _ _ hq with⟨h3,_,_⟩|⟨bq',c0',h1',_,_,_,_,_,h7,_⟩
  ·rw[h3]at h1;cases h1
  ·rw[h1]at h1';cases h1'
   rw[e,h7 o]at hv;cases hv
 ·have rE:i < cur.length:=by have:=(List.getElem?_eq_some_iff.1 hx).1;rwa [Zhc]at this
  obtain⟨y,hy⟩:∃y,cur[i]?=some y:=⟨_,List.getElem?_eq_getElem rE⟩
  rw[ZlN hy]at hx
  by_cases hi:i=q.toNat
  ·subst hi
   rw[hq]at hy;cases hy
   rw[if_pos rfl]at hx;cases hx
   refine .inr ⟨b2,c',by simp,by simp,by simpa using hc',by rw[List.length_append];exact oD,fun o ho=>?_,fun j v hj=>?_,mB,gy.symm⟩
   ·show ∃v,Mem.addAt _ b2 _ zs b2 o=some v
    unfold Mem.addAt
    by_cases tL:0+(l.length+1)*1≤o
    ·rw[if_pos ⟨rfl,tL⟩]
     have:o - (0+(l.length+1)*1) < zs.length:=by omega
     rw[List.getElem?_eq_getElem this];exact⟨_,rfl⟩
    ·rw[if_neg (fun hc=>tL hc.2)]
     have hv:=cU o ((ZaA l++[.int .i64 (p:Int)])[o]'(by simp[Zcr];omega)) (List.getElem?_eq_getElem _)
     rw[Nat.zero_add]at hv
     rw[Mem.upd_other _ gy.symm]
     exact⟨_,dG _ _ _ hv⟩
   ·show Mem.addAt _ b2 _ zs b2 (0+j)=some v
    have u9:=(List.getElem?_eq_some_iff.1 hj).1
    rw[Zcr,List.length_append,List.length_singleton]at u9
    unfold Mem.addAt
    rw[if_neg (by omega),Mem.upd_other _ gy.symm]
    rw[ZiI]at hj
    exact dG _ _ _ (cU j v hj)
  ·rw[if_neg (fun e=>hi e.symm)]at hx
   obtain rfl:y=x:=Option.some.inj hx
   have oE:∀x,F i=some x→∀bq c0,F q.toNat=some (bq,c0)→x.1≠bq:=fun x h1 bq c0 h2 e=>by
    obtain⟨x1,x2⟩:=x
    simp only at e;subst e
    exact hi (h.ne _ _ _ _ _ h1 h2)
   rcases h.cell _ _ hy with⟨h1,h2,h3⟩|⟨bq,c0,h1,h2,h3,h4,h5,h6,h7,h8⟩
   ·refine .inl ⟨by simp only[if_neg hi];exact h1,h2,?_⟩
    rw[hN b i gy (.inr hi)]
    exact gP _ _ _ h3 rD
   ·have hk:∀bq' c0',F q.toNat=some (bq',c0')→bq≠bq':=fun bq' c0' h=>oE _ h1 bq' c0' h
    have gN:bq≠b2:=by
     cases y with
     | nil=>exact absurd rfl h2
     | cons z y=>
      have:=h6 0 (.int .i64 z) rfl
      exact hb'k _ _ _ this hk
    refine .inr ⟨bq,c0,by simp only[if_neg hi];exact h1,h2,h3,?_,fun o ho=>?_,fun j v hj=>?_,h7,h8⟩
    ·rw[hN b i gy (.inr hi)];exact gP _ _ _ h4 rD
    ·obtain⟨v,hv⟩:=h5 o ho
     exact⟨v,by rw[hN bq o gN (.inl h8)];exact gP _ _ _ hv hk⟩
    ·rw[hN bq _ gN (.inl h8)];exact gP _ _ _ (h6 j v hj) hk
 ·have key:∀j c1,F j=some (b2,c1)→j=q.toNat:=fun j c1 hj=>by
   have kg:=h.dom _ _ hj
   rcases h.cell j _ (List.getElem?_eq_getElem kg)with⟨h3,_,_⟩|⟨bq,c0,g1,g2,_,_,_,g6,_,_⟩
   ·rw[h3]at hj;cases hj
   ·rw[hj]at g1;cases g1
    cases oE:F q.toNat with
    | none=>
     exfalso
     have:∃z y,cur[j]'kg=z::y:=by
      cases hc:cur[j]'kg with
      | nil=>exact absurd hc g2
      | cons z y=>exact⟨z,y,rfl⟩
     obtain⟨z,y,rF⟩:=this
     have hv:=g6 0 (.int .i64 z) (by rw[rF];rfl)
     exact hb'k _ _ _ hv (fun bq c0 h1=>by rw[oE]at h1;cases h1) rfl
    | some x=>
     obtain⟨x1,x2⟩:=x
     by_cases gB:x1=b2
     ·subst gB;exact h.ne _ _ _ _ _ hj oE
     ·exfalso
      have:∃z y,cur[j]'kg=z::y:=by
       cases hc:cur[j]'kg with
       | nil=>exact absurd hc g2
       | cons z y=>exact⟨z,y,rfl⟩
      obtain⟨z,y,rF⟩:=this
      have hv:=g6 0 (.int .i64 z) (by rw[rF];rfl)
      exact hb'k _ _ _ hv (fun bq c0 h1 e=>by rw[oE]at h1;cases h1;exact gB e.symm) rfl
  split at h1 <;> split at h2
  ·omega
  ·simp only[Option.some.injEq,Prod.mk.injEq]at h1
   rw[←h1.1]at h2
   have:=key _ _ h2;omega
  ·simp only[Option.some.injEq,Prod.mk.injEq]at h2
   rw[←h2.1]at h1
   have:=key _ _ h1;omega
  ·exact h.ne _ _ _ _ _ h1 h2
 ·rw[Zhc]
  split at hx
  ·omega
  ·exact h.dom _ _ hx
end Go.Rx
namespace Go.Rx
open Go Go.Eng Go.RowKit
def ZwL(q:QS):T:=.node 2 q.1 q.2.1 q.2.2.1 q.2.2.2 0 0 none 0 []
def ZyD(q:QS)(c:Nat):Bool:=(ZwL q).hasB c
def QOk(q:QS):Prop:=(0≤q.1∧q.1 < 18446744073709551616)∧(0≤q.2.1∧q.2.1 < 18446744073709551616)∧(0≤q.2.2.1∧q.2.2.1 < 18446744073709551616)∧(0≤q.2.2.2∧q.2.2.2 < 18446744073709551616)
theorem ZyP{q:QS}(h:QOk q)(m:Mem):Rep m (ZwL q):=by
 simp only[ZwL,Rep]
 exact⟨by simp,.inl trivial,⟨by omega,h.1,h.2.1,h.2.2.1,h.2.2.2,by omega,by omega⟩⟩
def ZxG(l:List Int)(f:Nat):Nat:=l.foldl (fun f p=>f|||2 ^ p.toNat) f
def Nf.fromL(A:Nf)(p:Int):List Int:=if p=-1 then A.first else(A.fol[p.toNat]?).getD []
def Nf.hasAt(A:Nf)(q:Int)(c:Nat):Bool:=ZyD ((A.sets[q.toNat]?).getD zQ) c
def Nf.step1(A:Nf)(c:Nat)(f:Nat)(q:Int):Nat:=if A.hasAt q c then f|||2 ^ q.toNat else f
def Nf.stepM(A:Nf)(l:List Int)(c:Nat)(f:Nat):Nat:=l.foldl (fun f p=>(A.fromL p).foldl (A.step1 c) f) f
def Nf.step(A:Nf)(l:List Int)(c:Nat):List Int:=Zbn (A.stepM l c 0)
def Nf.acc1(A:Nf)(p:Int):Bool:=if p=-1 then A.empty else(ZxG A.last 0).testBit p.toNat
def Nf.accepts(A:Nf)(l:List Int):Bool:=l.any A.acc1
def Nf.states(A:Nf)(l:List Int):Bool:=Zeh l (-2) A.top
theorem ZmM{A:Nf}{l:List Int}(h:A.states l=true):∀p∈l,-1≤p∧p≤A.top:=fun p hp=>by
 have:=(ZdA.1 h).2 p hp;omega
theorem Zr4:∀(l:List Int)(f i:Nat),(∀p∈l,0≤p)→((ZxG l f).testBit i=true↔f.testBit i=true∨(i:Int)∈l)
 | [],f,i,_=>by simp[ZxG]
 | p::l,f,i,h=>by
  have hp:=h p (by simp)
  show(ZxG l (f|||2 ^ p.toNat)).testBit i=true↔_
  rw[Zr4 l _ i (fun p hp=>h p (by simp[hp]))]
  simp only[Nat.testBit_or,Bool.or_eq_true,Nat.testBit_two_pow,decide_eq_true_eq,List.mem_cons]
  have:p.toNat=i↔(i:Int)=p:=by omega
  rw[this,or_assoc]
theorem ZmN{A:Nf}{c:Nat}:∀(l:List Int)(f i:Nat),(∀p∈l,0≤p)→((l.foldl (A.step1 c) f).testBit i=true↔f.testBit i=true∨((i:Int)∈l∧A.hasAt i c=true))
 | [],f,i,_=>by simp
 | p::l,f,i,h=>by
  have hp:=h p (by simp)
  rw[List.foldl_cons,ZmN l _ i (fun p hp=>h p (by simp[hp]))]
  have e:p.toNat=i↔(i:Int)=p:=by omega
  unfold Nf.step1
  by_cases hh:A.hasAt p c=true
  ·rw[if_pos hh]
   simp only[Nat.testBit_or,Bool.or_eq_true,Nat.testBit_two_pow,decide_eq_true_eq,List.mem_cons,e]
   constructor
   ·rintro((h1|h1)|h1)
    ·exact .inl h1
    ·exact .inr ⟨.inl h1,by rw[h1];exact hh⟩
    ·exact .inr ⟨.inr h1.1,h1.2⟩
   ·rintro(h1|⟨h1|h1,h2⟩)
    ·exact .inl (.inl h1)
    ·exact .inl (.inr h1)
    ·exact .inr ⟨h1,h2⟩
  ·rw[if_neg hh]
   constructor
   ·rintro(h1|h1)
    ·exact .inl h1
    ·exact .inr ⟨by simp[h1.1],h1.2⟩
   ·rintro(h1|⟨h1,h2⟩)
    ·exact .inl h1
    ·rcases List.mem_cons.1 h1 with h1|h1
     ·rw[h1]at h2;exact absurd h2 hh
     ·exact .inr ⟨h1,h2⟩
theorem ZiJ{A:Nf}(h:A.Ok)(p:Int):(A.fromL p).Pairwise (· < ·)∧∀x∈A.fromL p,-1 < x∧x≤A.top:=by
 unfold Nf.fromL
 split
 ·exact h.first
 ·cases hl:A.fol[p.toNat]? with
  | none=>exact⟨by simp,by simp⟩
  | some l=>exact h.fol l (List.mem_of_getElem? hl)
theorem Zjz{A:Nf}(hA:A.Ok){c:Nat}:∀(l:List Int)(f i:Nat),((A.stepM l c f).testBit i=true↔f.testBit i=true∨((∃p∈l,(i:Int)∈A.fromL p)∧A.hasAt i c=true))
 | [],f,i=>by simp[Nf.stepM]
 | p::l,f,i=>by
  show(A.stepM l c ((A.fromL p).foldl (A.step1 c) f)).testBit i=true↔_
  rw[Zjz hA l,ZmN _ _ _ (fun x hx=>by have:=(ZiJ hA p).2 x hx;omega)]
  constructor
  ·rintro((h1|h1)|⟨⟨q,h1,h2⟩,h3⟩)
   ·exact .inl h1
   ·exact .inr ⟨⟨p,by simp,h1.1⟩,h1.2⟩
   ·exact .inr ⟨⟨q,by simp[h1],h2⟩,h3⟩
  ·rintro(h1|⟨⟨q,h1,h2⟩,h3⟩)
   ·exact .inl (.inl h1)
   ·rcases List.mem_cons.1 h1 with h1|h1
    ·subst h1;exact .inl (.inr ⟨h2,h3⟩)
    ·exact .inr ⟨⟨q,h1,h2⟩,h3⟩
theorem ZlP{A:Nf}(hA:A.Ok){l:List Int}{c:Nat}{x:Int}:x∈A.step l c↔0≤x∧(∃p∈l,x∈A.fromL p)∧A.hasAt x c=true:=by
 unfold Nf.step
 rw[ZcU]
 constructor
 ·rintro⟨i,h1,h2,rfl⟩
  have:=(Zjz hA l 0 i).1 h2
  simp at this
  exact⟨by omega,this.1,this.2⟩
 ·rintro⟨h0,⟨p,h1,h2⟩,h3⟩
  have hb:=(ZiJ hA p).2 x h2
  have hn:=hA.n
  unfold Nf.top at hb
  refine⟨x.toNat,by omega,?_,by omega⟩
  rw[Zjz hA]
  refine .inr ⟨⟨p,h1,?_⟩,?_⟩
  ·rw[show((x.toNat:Nat):Int)=x by omega];exact h2
  ·rw[show((x.toNat:Nat):Int)=x by omega];exact h3
theorem ZkI{A:Nf}(hA:A.Ok)(l:List Int)(c:Nat):A.states (A.step l c)=true:=by
 unfold Nf.states
 rw[ZdA]
 refine⟨ZiE _,fun x hx=>?_⟩
 obtain⟨h0,⟨p,_,h2⟩,_⟩:=(ZlP hA).1 hx
 have:=(ZiJ hA p).2 x h2
 omega
def Nf.next(A:Nf)(again:Bool)(l:List Int)(c:Nat):List Int:=if again then -1::A.step l c else A.step l c
def Nf.runL{S:Type}(A:Nf)(again:Bool)(st:S→Nat→List Int→S):List Nat→Nat→List Int→S→S
 | [],_,_,s=>s
 | c::bs,i,l,s=>A.runL again st bs (i+1) (A.next again l c) (st s (i+1) (A.next again l c))
theorem Zo9{A:Nf}(hA:A.Ok)(again:Bool)(l:List Int)(c:Nat):A.states (A.next again l c)=true:=by
 unfold Nf.next
 have h:=ZkI hA l c
 split
 ·unfold Nf.states at h ⊢
  rw[ZdA]at h ⊢
  refine⟨?_,fun x hx=>?_⟩
  ·rw[List.pairwise_cons]
   refine⟨fun x hx=>?_,h.1⟩
   obtain⟨h0,_⟩:=(ZlP hA).1 hx
   omega
  ·rcases List.mem_cons.1 hx with rfl|hx
   ·exact⟨by omega,by unfold Nf.top;omega⟩
   ·exact h.2 x hx
 ·exact h
def Nf.run(A:Nf)(b:List Nat)(l:List Int):List Int:=b.foldl (fun l c=>A.step l c) l
def Nf.matches(A:Nf)(b:List Nat):Bool:=A.accepts (A.run b [-1])
def Nf.search(A:Nf)(b:List Nat):List Int:=A.runL true (fun s n l=>if A.accepts l then s++[(n:Int)]else s) b 0 [-1] (if A.accepts [-1]then[0]else[])
theorem Zr5(A:Nf):∀(b:List Nat)(i:Nat)(l:List Int),A.runL false (fun _ _ l=>l) b i l l=A.run b l
 | [],i,l=>rfl
 | c::b,i,l=>by rw[Nf.runL,Zr5 A b];rfl
theorem ZmO{A:Nf}(hA:A.Ok):∀(b:List Nat)(l:List Int),A.states l=true→A.states (A.run b l)=true
 | [],l,h=>h
 | c::b,l,h=>ZmO hA b _ (ZkI hA l c)
theorem Znt(A:Nf):A.states [-1]=true:=by
 unfold Nf.states
 rw[ZdA]
 exact⟨by simp,fun x hx=>by rw[List.mem_singleton]at hx;subst hx;unfold Nf.top;omega⟩
def Nf.err(A:Nf)(l:List Int):Int:=if A.right=false then 171 else if A.states l=false then 172 else 0
def Nf.runE(A:Nf)(n:Nat):Int:=if A.right=false then 171 else if 4096 < n then 3 else 0
inductive Nf.Reach (A:Nf):Nat→Prop
 | first {p:Nat} (h:(p:Int)∈A.first):A.Reach p
 | fol {p q:Nat} {l:List Int} (h:A.Reach p) (hl:A.fol[p]?=some l) (hq:(q:Int)∈l):A.Reach q
end Go.Rx
namespace Go.Rx
open Go Go.Eng Go.RowKit
def Znu(f:Nat):Nat:=((List.range 448).filter fun i=>!f.testBit i).length
theorem Zpa{α:Type}{p p':α→Bool}:∀{l:List α} {x:α},(∀y,p' y=true→p y=true)→x∈l→p x=true→p' x=false→(l.filter p').length+1≤(l.filter p).length
 | [],x,_,h,_,_=>by simp at h
 | y::l,x,kO,h,h1,h2=>by
  have cS:∀l:List α,(l.filter p').length≤(l.filter p).length:=fun l=>by
   induction l with
   | nil=>simp
   | cons z l ih=>
    simp only[List.filter_cons]
    by_cases hz:p' z=true
    ·rw[if_pos hz,if_pos (kO z hz)];simp;exact ih
    ·rw[if_neg hz];split
     ·simp;omega
     ·exact ih
  simp only[List.filter_cons]
  rcases List.mem_cons.1 h with rfl|h
  ·rw[if_pos h1,if_neg (by simp[h2])]
   have:=cS l
   simp;omega
  ·have ih:=Zpa kO h h1 h2
   by_cases hz:p' y=true
   ·rw[if_pos hz,if_pos (kO y hz)];simp;omega
   ·rw[if_neg hz];split
    ·simp;omega
    ·exact ih
theorem ZqN{f i:Nat}(hi:i < 448)(h:f.testBit i=false):Znu (f|||2 ^ i)+1≤Znu f:=by
 unfold Znu
 refine Zpa (x:=i) (fun y hy=>?_) (by simp[hi]) (by simp[h]) (by simp[Nat.testBit_or,Nat.testBit_two_pow])
 simp only[Bool.not_eq_true',Nat.testBit_or,Bool.or_eq_false_iff]at hy ⊢
 exact hy.1
theorem Zth(f:Nat):Znu f≤448:=by
 unfold Znu
 exact Nat.le_trans (List.length_filter_le _ _) (by simp)
structure Seek (A:Nf)(todo:List Int)(f:Nat):Prop where
 rng:∀x∈todo,0≤x∧x≤A.top∧A.Reach x.toNat
 in_:∀i,f.testBit i=true→A.Reach i
 first:∀x∈A.first,x∈todo∨f.testBit x.toNat=true
 fol:∀(i:Nat)(l:List Int),f.testBit i=true→A.fol[i]?=some l→∀x∈l,x∈todo∨f.testBit x.toNat=true
theorem Seek.start{A:Nf}(hA:A.Ok):Seek A A.first 0:=by
 refine⟨fun x hx=>?_,fun i hi=>by simp at hi,fun x hx=>.inl hx,fun i l hi=>by simp at hi⟩
 have:=hA.first.2 x hx
 exact⟨by omega,this.2,.first (by rw[show((x.toNat:Nat):Int)=x by omega];exact hx)⟩
theorem Seek.skip{A:Nf}{x:Int}{todo:List Int}{f:Nat}(h:Seek A (x::todo) f)(hx:f.testBit x.toNat=true):Seek A todo f:=by
 refine⟨fun y hy=>h.rng y (by simp[hy]),h.in_,fun y hy=>?_,fun i l hi hl y hy=>?_⟩
 ·rcases h.first y hy with h1|h1
  ·rcases List.mem_cons.1 h1 with rfl|h1
   ·exact .inr hx
   ·exact .inl h1
  ·exact .inr h1
 ·rcases h.fol i l hi hl y hy with h1|h1
  ·rcases List.mem_cons.1 h1 with rfl|h1
   ·exact .inr hx
   ·exact .inl h1
  ·exact .inr h1
theorem Seek.take{A:Nf}(hA:A.Ok){x:Int}{todo l:List Int}{f:Nat}(h:Seek A (x::todo) f)(hl:A.fol[x.toNat]?=some l):Seek A (todo++l) (f|||2 ^ x.toNat):=by
 have hx:=h.rng x (by simp)
 have eY:∀i,(f|||2 ^ x.toNat).testBit i=true↔f.testBit i=true∨i=x.toNat:=fun i=>by
  simp only[Nat.testBit_or,Bool.or_eq_true,Nat.testBit_two_pow,decide_eq_true_eq]
  exact⟨fun h=>h.imp_right Eq.symm,fun h=>h.imp_right Eq.symm⟩
 refine⟨fun y hy=>?_,fun i hi=>?_,fun y hy=>?_,fun i r hi hr y hy=>?_⟩
 ·rcases List.mem_append.1 hy with hy|hy
  ·exact h.rng y (by simp[hy])
  ·have hb:=(hA.fol l (List.mem_of_getElem? hl)).2 y hy
   exact⟨by omega,hb.2,.fol hx.2.2 hl (by rw[show((y.toNat:Nat):Int)=y by omega];exact hy)⟩
 ·rcases(eY i).1 hi with h1|rfl
  ·exact h.in_ i h1
  ·exact hx.2.2
 ·rcases h.first y hy with h1|h1
  ·rcases List.mem_cons.1 h1 with rfl|h1
   ·exact .inr ((eY _).2 (.inr rfl))
   ·exact .inl (by simp[h1])
  ·exact .inr ((eY _).2 (.inl h1))
 ·rcases(eY i).1 hi with h1|rfl
  ·rcases h.fol i r h1 hr y hy with h2|h2
   ·rcases List.mem_cons.1 h2 with rfl|h2
    ·exact .inr ((eY _).2 (.inr rfl))
    ·exact .inl (by simp[h2])
   ·exact .inr ((eY _).2 (.inl h2))
  ·rw[hl]at hr;cases hr
   exact .inl (by simp[hy])
theorem Seek.done{A:Nf}(hA:A.Ok){f:Nat}(h:Seek A [] f)(i:Nat):f.testBit i=true↔A.Reach i:=by
 refine⟨h.in_ i,fun hr=>?_⟩
 induction hr with
 | first hp=>
  rcases h.first _ hp with h1|h1
  ·simp at h1
  ·simpa using h1
 | fol _ hl hq ih=>
  rcases h.fol _ _ ih hl _ hq with h1|h1
  ·simp at h1
  ·simpa using h1
end Go.Rx
namespace Go.Rx
open Go Go.Eng Go.RowKit
def Src(l:List T)(s:Ms)(r:Pt×Ms):Prop:=∀q∈r.2.sets,q∈s.sets∨∃x∈l,x.k=2∧q=(x.s0,x.s1,x.s2,x.s3)
theorem Src.refl(l:List T)(s:Ms)(p:Pt):Src l s (p,s):=fun q hq=>.inl hq
theorem Src.mono{l l':List T}{s:Ms}{r:Pt×Ms}(h:Src l s r)(hl:∀x∈l,x∈l'):Src l' s r:=fun q hq=>(h q hq).imp_right fun⟨x,h1,h2⟩=>⟨x,hl x h1,h2⟩
theorem Src.trans{l:List T}{s s1:Ms}{p:Pt}{r:Pt×Ms}(h:Src l s (p,s1))(k:Src l s1 r):Src l s r:=fun q hq=>by
 rcases k q hq with h1|h1
 ·exact h q h1
 ·exact .inr h1
theorem Zr6{f:Ms→Pt×Ms}{l:List T}(hf:∀s,Src l s (f s))(mn mx:Int)(n:Nat):∀(q i:Nat)(out:Pt)(s:Ms),Src l s (Zh7 f mn mx n q i out s)
 | 0,i,out,s=>Src.refl _ _ _
 | q+1,i,out,s=>by
  unfold Zh7
  simp only
  generalize fZ:(if mx=-1∧i+1=n then(⟨(f s).2.sets,ZbR (f s).2.fol (f s).1.last (f s).1.first⟩:Ms)else(f s).2)=s2
  have e:s2.sets=(f s).2.sets:=by rw[←fZ];split <;> rfl
  have h1:Src l s (out,s2):=fun q hq=>hf s q (by rw[←e];exact hq)
  refine h1.trans (fun q hq=>?_)
  have:=Zr6 hf mn mx n _ _ _ _ q hq
  exact this
mutual
theorem ZqO:∀(t:T)(s:Ms),Src t.nodes s (mk t s)
 | .node k s0 s1 s2 s3 mn mx a c l,s=>by
  unfold mk
  split
  ·exact Src.refl _ _ _
  split
  ·exact Src.refl _ _ _
  split
  ·rename_i hk
   intro q hq
   simp only[List.mem_append,List.mem_singleton]at hq
   rcases hq with hq|rfl
   ·exact .inl hq
   ·exact .inr ⟨.node k s0 s1 s2 s3 mn mx a c l,by rw[ZaX];simp,hk,rfl⟩
  split
  ·exact(Zpb l _ s).mono (fun x hx=>by rw[ZaX];exact List.mem_cons_of_mem _ hx)
  split
  ·exact(Zpc l _ s).mono (fun x hx=>by rw[ZaX];exact List.mem_cons_of_mem _ hx)
  split
  ·exact(Zr6 (fun s=>Zr7 l s) _ _ _ _ _ _ _).mono (fun x hx=>by rw[ZaX];exact List.mem_cons_of_mem _ hx)
  ·exact(Zr7 l s).mono (fun x hx=>by rw[ZaX];exact List.mem_cons_of_mem _ hx)
theorem Zr7:∀(l:List T)(s:Ms),Src (Zau l) s (ZhT l s)
 | [],s=>by unfold ZhT;exact Src.refl _ _ _
 | t::l,s=>by unfold ZhT;exact(ZqO t s).mono (fun x hx=>by simp[Zau,hx])
theorem Zpb:∀(l:List T)(out:Pt)(s:Ms),Src (Zau l) s (Zc2 l out s)
 | [],out,s=>by unfold Zc2;exact Src.refl _ _ _
 | t::l,out,s=>by
  unfold Zc2
  have h1:Src (Zau (t::l)) s (mk t s):=(ZqO t s).mono (fun x hx=>by simp[Zau,hx])
  have h2:Src (Zau (t::l)) s (out,(Zb6 out (mk t s).1 (mk t s).2).2):=h1
  exact h2.trans ((Zpb l _ _).mono (fun x hx=>by simp[Zau,hx]))
theorem Zpc:∀(l:List T)(out:Pt)(s:Ms),Src (Zau l) s (ZcJ l out s)
 | [],out,s=>by unfold ZcJ;exact Src.refl _ _ _
 | t::l,out,s=>by
  unfold ZcJ
  have h1:Src (Zau (t::l)) s (mk t s):=(ZqO t s).mono (fun x hx=>by simp[Zau,hx])
  have h2:Src (Zau (t::l)) s (out,(mk t s).2):=h1
  exact h2.trans ((Zpc l _ _).mono (fun x hx=>by simp[Zau,hx]))
end
theorem ZdD{t:T}(h:t.nfit=true):t.light=true∧(∀x∈t.nodes,x.right=true)∧t.pos≤400:=by
 unfold T.nfit at h
 simp only[Bool.and_eq_true,decide_eq_true_eq]at h
 obtain⟨hc,_,hp⟩:=h
 unfold T.clean at hc
 simp only[Bool.and_eq_true,List.all_eq_true]at hc
 refine⟨hc.1,hc.2,?_⟩
 unfold T.positions at hp
 rw[hc.1]at hp;simpa using hp
theorem Zpd{t:T}(h:t.nfit=true):(t.auto.sets.length:Int)=t.pos:=by
 obtain⟨_,h1,h2⟩:=ZdD h
 have:=Zjy t h1 (by omega) ⟨[],[]⟩
 have h3:=(Zg4 t).1
 show((mk t ⟨[],[]⟩).2.sets.length:Int)=_
 rw[this];simp;omega
theorem ZiK{t:T}(h:t.nfit=true):t.auto.Ok:=by
 obtain⟨_,h1,h2⟩:=ZdD h
 have hc:=Zpd h
 have hg:=Zd8 t ⟨[],[]⟩ ⟨rfl,fun j x hj=>by simp at hj⟩
 have hn:t.auto.sets.length≤400:=by omega
 have hn':(mk t ⟨[],[]⟩).2.sets.length≤400:=hn
 have hl:t.auto.fol.length=t.auto.sets.length:=by
  show((mk t ⟨[],[]⟩).2.fol.map Zbn).length=_
  rw[List.length_map];exact hg.ok.len
 have kh:∀f:Nat,(∀i,f.testBit i=true→i < (mk t ⟨[],[]⟩).2.sets.length)→(Zbn f).Pairwise (· < ·)∧∀x∈Zbn f,-1 < x∧x≤t.auto.top:=fun f hf=>by
  have:=ZqM (f:=f) (n:=t.auto.sets.length) (by omega) hf
  rw[ZdA]at this
  exact this
 refine⟨hn,hl,kh _ hg.pt.1,kh _ hg.pt.2,fun l hl=>?_,fun q hq e=>?_⟩
 ·obtain⟨f,hf,rfl⟩:=List.mem_map.1 (show l∈(mk t ⟨[],[]⟩).2.fol.map Zbn from hl)
  obtain⟨j,hj⟩:=List.getElem?_of_mem hf
  exact kh f (hg.ok.fol j f hj)
 ·rcases ZqO t ⟨[],[]⟩ q hq with h3|⟨x,hx,hk,rfl⟩
  ·simp at h3
  ·have hr:=ZdX (h1 x hx)
   rw[hk]at hr
   have hz:x.setZ=false:=by
    rcases hr with h4|h4|h4|h4|h4|h4
    ·omega
    ·exact h4.2.2
    ·omega
    ·omega
    ·omega
    ·omega
   unfold zQ at e
   simp only[Prod.mk.injEq]at e
   unfold T.setZ at hz
   rw[e.1,e.2.1,e.2.2.1,e.2.2.2]at hz;simp at hz
theorem ZqP{t:T}(h:t.nfit=true):t.auto.right=true:=Zgj.2 (ZiK h)
theorem ZxW{t:T}{m:Mem}(h:Rep m t):∀q∈t.auto.sets,QOk q:=fun q hq=>by
 rcases ZqO t ⟨[],[]⟩ q hq with h3|⟨x,hx,hk,rfl⟩
 ·simp at h3
 ·have:=Zu8 (ZoS h hx)
  exact⟨this.s0,this.s1,this.s2,this.s3⟩
theorem ZmP{t:T}(h:t.check=0):t.nfit=true∧t.isNone=false:=by
 unfold T.check at h
 have hc:t.clean=true:=by
  cases hc:t.clean with
  | true=>rfl
  | false=>rw[hc]at h;simp at h
 rw[if_neg (by rw[hc];simp)]at h
 by_cases hs:t.size > 120
 ·rw[if_pos hs]at h;omega
 rw[if_neg hs]at h
 by_cases hp:t.positions > 400
 ·rw[if_pos hp]at h;omega
 refine⟨by unfold T.nfit;rw[hc];simp;omega,?_⟩
 have hr:t.right=true:=by
  unfold T.clean at hc
  simp only[Bool.and_eq_true,List.all_eq_true]at hc
  exact hc.2 t (by rw[ZaX];simp)
 unfold T.isNone
 rcases ZdX hr with h1|h1|h1|h1|h1|h1
 ·rw[h1.1];rfl
 ·rw[h1.1];rfl
 ·rw[h1];rfl
 ·rw[h1];rfl
 ·rw[h1.1];rfl
 ·rw[h1.1];rfl
theorem Zpe{t:T}(h:t.check=0):t.ofN=t.auto∧t.ofE=0:=by
 obtain⟨h1,h2⟩:=ZmP h
 unfold T.ofN T.ofE
 rw[h1,h2];exact⟨rfl,rfl⟩
end Go.Rx
namespace Go.Rx
open Go Go.Eng Go.RowKit
structure Bad (t:T):Prop where
 k:t.k≠0
 no:t.check≠0
def ZyY(len:Nat)(i:Int):Int:=if(len:Int) > 512 then 3 else if i < 0∨i > len then 2 else 0
structure Says (t:T)(len:Nat)(i:Int)(e:Int):Prop where
 one:t.wrong len i=e
 rg:Rg.wrong ⟨false,false,t⟩ len i=e
 all:ZxU [⟨false,false,t⟩] len i=e
theorem ZqQ{t:T}(h:t.check=0)(len:Nat)(i:Int):t.wrong len i=ZyY len i:=by
 unfold T.wrong ZyY
 rw[h];simp
structure Asks (k:Nat)(t:T)(len:Nat)(i e:Int):Prop where
 vb:Says t len i e
 zero:k≤1→Says t len 0 e
 no:e≠0
 len:len≤513
end Go.Rx
namespace Go.Rx
open Go Go.Eng Go.RowKit
end Go.Rx
namespace Go.Rx
open Go Go.Eng Go.RowKit
set_option maxRecDepth 100000
theorem ZhH{t:T}(h:t.good=true):t.right=true∧∀x∈t.subs,x.good=true:=by
 rw[ZmJ,Bool.and_eq_true,List.all_eq_true]at h;exact h
theorem Zuq{t:T}(h:t.right=true):t.k=1∨t.k=2∨t.k=3∨t.k=4∨(t.k=5∧(∃x,t.subs=[x])∧0≤t.mn∧t.mn≤16∧(t.mx=-1∨(1≤t.mx∧t.mn≤t.mx∧t.mx≤16)))∨(t.k=6∧∃x,t.subs=[x]):=by
 have one:(t.subs.length == 1)=true→∃x,t.subs=[x]:=fun e=>by
  have:t.subs.length=1:=by simpa using e
  match cR:t.subs,this with
  | [x],_=>exact⟨x,rfl⟩
 unfold T.right at h
 rw[Bool.and_eq_true]at h
 have h:=h.2
 by_cases h1:t.k=1
 ·exact .inl h1
 by_cases h2:t.k=2
 ·exact .inr (.inl h2)
 by_cases h3:t.k=3
 ·exact .inr (.inr (.inl h3))
 by_cases h4:t.k=4
 ·exact .inr (.inr (.inr (.inl h4)))
 by_cases h5:t.k=5
 ·rw[if_neg h1,if_neg h2,if_neg h3,if_neg h4,if_pos h5]at h
  rw[Bool.and_eq_true,Bool.and_eq_true]at h
  obtain⟨a,b,_⟩:=h
  unfold Zdx at b
  simp at b
  exact .inr (.inr (.inr (.inr (.inl ⟨h5,one a,by omega,by omega,by omega⟩))))
 ·rw[if_neg h1,if_neg h2,if_neg h3,if_neg h4,if_neg h5,Bool.and_eq_true]at h
  exact .inr (.inr (.inr (.inr (.inr ⟨by simpa using h.1,one h.2⟩))))
mutual
def T.er:T→T
 | .node k s0 s1 s2 s3 mn mx _ _ l=>.node k s0 s1 s2 s3 mn mx none 0 (erL l)
def erL:List T→List T
 | []=>[]
 | t::l=>t.er::erL l
end
theorem Zur:∀l:List T,erL l=l.map T.er
 | []=>rfl
 | t::l=>by simp only[erL,List.map_cons,Zur l]
@[simp] theorem Zzi (t:T):t.er.k=t.k:=by cases t;rfl
@[simp] theorem Zy5 (t:T):t.er.s0=t.s0:=by cases t;rfl
@[simp] theorem Zy6 (t:T):t.er.s1=t.s1:=by cases t;rfl
@[simp] theorem Zy7 (t:T):t.er.s2=t.s2:=by cases t;rfl
@[simp] theorem Zy8 (t:T):t.er.s3=t.s3:=by cases t;rfl
@[simp] theorem Zy9 (t:T):t.er.mn=t.mn:=by cases t;rfl
@[simp] theorem Zza (t:T):t.er.mx=t.mx:=by cases t;rfl
@[simp] theorem Zyn (t:T):t.er.subs=t.subs.map T.er:=by cases t;simp only[T.er,T.subs,Zur]
end Go.Rx
namespace Go.Rx
open Go Go.Eng Go.RowKit
abbrev Re:=Nat→Nat→Prop
def pow(R:Re):Nat→Re
 | 0=>fun i j=>i=j
 | n+1=>fun i j=>∃m,R i m∧pow R n m j
theorem ZmQ(R:Re):∀(a b i j:Nat),pow R (a+b) i j↔∃m,pow R a i m∧pow R b m j
 | 0,b,i,j=>by simp[pow]
 | a+1,b,i,j=>by
  rw[show a+1+b=(a+b)+1 by omega]
  constructor
  ·rintro⟨m,h1,h2⟩
   obtain⟨k,h3,h4⟩:=(ZmQ R a b m j).1 h2
   exact⟨k,⟨m,h1,h3⟩,h4⟩
  ·rintro⟨k,⟨m,h1,h3⟩,h4⟩
   exact⟨m,h1,(ZmQ R a b m j).2 ⟨k,h3,h4⟩⟩
theorem ZhI(R:Re)(n i j:Nat):pow R (n+1) i j↔∃m,pow R n i m∧R m j:=by
 rw[ZmQ R n 1];simp[pow]
theorem Zr8{R Q:Re}(h:∀i j,R i j→Q i j):∀n i j,pow R n i j→pow Q n i j
 | 0,_,_,e=>e
 | n+1,i,j,⟨m,h1,h2⟩=>⟨m,h _ _ h1,Zr8 h n _ _ h2⟩
mutual
def T.M(s:List Nat):T→Re
 | .node k s0 s1 s2 s3 mn mx a c l=>fun i j=>
  if k=1 then i=j else if k=2 then j=i+1∧∃b,s[i]?=some b∧(T.node k s0 s1 s2 s3 mn mx a c l).hasB b=true
  else if k=3 then MC s l i j else if k=4 then MA s l i j
  else if k=5 then ∃n:Nat,mn.toNat≤n∧(mx=-1∨n≤mx.toNat)∧pow (MH s l) n i j
  else if k=6 then MH s l i j else False
def MC(s:List Nat):List T→Re
 | []=>fun i j=>i=j
 | t::l=>fun i j=>∃m,t.M s i m∧MC s l m j
def MA(s:List Nat):List T→Re
 | []=>fun _ _=>False
 | t::l=>fun i j=>t.M s i j∨MA s l i j
def MH(s:List Nat):List T→Re
 | []=>fun i j=>i=j
 | t::_=>t.M s
end
def ZgI(back:Bool)(R:Re)(f:Nat)(j:Nat):Prop:=∃i,f.testBit i=true∧(if back then R j i else R i j)
def ZgJ(s:List Nat)(back:Bool)(g:Nat→Nat)(R:Re):Prop:=∀f,f < Zcl→∀j,(g f).testBit j=true↔ZgI back R f j
theorem ZwM{back:Bool}{R Q:Re}{f j:Nat}:ZgI back (fun a b=>R a b∨Q a b) f j↔ZgI back R f j∨ZgI back Q f j:=by
 unfold ZgI
 cases back <;> constructor <;> rintro h
 ·obtain⟨i,h1,h2|h2⟩:=h
  ·exact .inl ⟨i,h1,h2⟩
  ·exact .inr ⟨i,h1,h2⟩
 ·rcases h with⟨i,h1,h2⟩|⟨i,h1,h2⟩
  ·exact⟨i,h1,.inl h2⟩
  ·exact⟨i,h1,.inr h2⟩
 ·obtain⟨i,h1,h2|h2⟩:=h
  ·exact .inl ⟨i,h1,h2⟩
  ·exact .inr ⟨i,h1,h2⟩
 ·rcases h with⟨i,h1,h2⟩|⟨i,h1,h2⟩
  ·exact⟨i,h1,.inl h2⟩
  ·exact⟨i,h1,.inr h2⟩
theorem Zpf(back:Bool)(f j:Nat):ZgI back (fun a b=>a=b) f j↔f.testBit j=true:=by
 unfold ZgI
 cases back <;> constructor
 ·rintro⟨i,h1,h2⟩;simp at h2;subst h2;exact h1
 ·intro h;exact⟨j,h,by simp⟩
 ·rintro⟨i,h1,h2⟩;simp at h2;subst h2;exact h1
 ·intro h;exact⟨j,h,by simp⟩
theorem Zti{s:List Nat}{g h:Nat→Nat}{R Q:Re}(hg:ZgJ s false g R)(hh:ZgJ s false h Q)(bS:∀f,f < Zcl→g f < Zcl):ZgJ s false (fun f=>h (g f)) (fun i j=>∃m,R i m∧Q m j):=by
 intro f hf j
 rw[hh _ (bS f hf) j]
 unfold ZgI
 constructor
 ·rintro⟨m,h1,h2⟩
  obtain⟨i,h3,h4⟩:=(hg f hf m).1 h1
  exact⟨i,h3,m,h4,h2⟩
 ·rintro⟨i,h3,m,h4,h2⟩
  exact⟨m,(hg f hf m).2 ⟨i,h3,h4⟩,h2⟩
theorem ZqR{s:List Nat}{g h:Nat→Nat}{R Q:Re}(hg:ZgJ s true g R)(hh:ZgJ s true h Q)(bS:∀f,f < Zcl→h f < Zcl):ZgJ s true (fun f=>g (h f)) (fun i j=>∃m,R i m∧Q m j):=by
 intro f hf j
 rw[hg _ (bS f hf) j]
 unfold ZgI
 constructor
 ·rintro⟨m,h1,h2⟩
  obtain⟨i,h3,h4⟩:=(hh f hf m).1 h1
  exact⟨i,h3,m,h2,h4⟩
 ·rintro⟨i,h3,m,h4,h2⟩
  exact⟨m,(hh f hf m).2 ⟨i,h3,h2⟩,h4⟩
theorem Zpg(t:T)(back:Bool)(f:Nat):∀(s:List Nat)(i out j:Nat),(Zsr t back f s i out).testBit j=true↔out.testBit j=true∨∃p b,s[p]?=some b∧t.hasB b=true∧f.testBit (if back then i+p+1 else i+p)=true∧j=(if back then i+p else i+p+1)
 | [],i,out,j=>by simp[Zsr]
 | c::s,i,out,j=>by
  simp only[Zsr]
  rw[Zpg t back f s (i+1)]
  have h0:(ZoU t back f i c out).testBit j=true↔out.testBit j=true∨(t.hasB c=true∧f.testBit (if back then i+1 else i)=true∧j=(if back then i else i+1)):=by
   unfold ZoU
   by_cases h:(f.testBit (if back then i+1 else i)&&t.hasB c)=true
   ·rw[if_pos h]
    rw[Bool.and_eq_true]at h
    rw[Nat.testBit_or,Bool.or_eq_true,Nat.testBit_two_pow]
    constructor
    ·rintro(h1|h1)
     ·exact .inl h1
     ·exact .inr ⟨h.2,h.1,by simpa using(of_decide_eq_true h1).symm⟩
    ·rintro(h1|⟨_,_,h1⟩)
     ·exact .inl h1
     ·exact .inr (decide_eq_true h1.symm)
   ·rw[if_neg h]
    rw[Bool.and_eq_true]at h
    constructor
    ·exact .inl
    ·rintro(h1|⟨h1,h2,_⟩)
     ·exact h1
     ·exact absurd ⟨h2,h1⟩ h
  rw[h0]
  constructor
  ·rintro((h|⟨h1,h2,h3⟩)|⟨p,b,h1,h2,h3,h4⟩)
   ·exact .inl h
   ·exact .inr ⟨0,c,rfl,h1,by simpa using h2,by simpa using h3⟩
   ·exact .inr ⟨p+1,b,by simpa using h1,h2,by rw[show i+(p+1)=i+1+p by omega];exact h3,by rw[show i+(p+1)=i+1+p by omega];exact h4⟩
  ·rintro(h|⟨p,b,h1,h2,h3,h4⟩)
   ·exact .inl (.inl h)
   ·cases p with
    | zero=>simp at h1;subst h1;exact .inl (.inr ⟨h2,by simpa using h3,by simpa using h4⟩)
    | succ p=>exact .inr ⟨p,b,by simpa using h1,h2,by rw[show i+1+p=i+(p+1) by omega];exact h3,by rw[show i+1+p=i+(p+1) by omega];exact h4⟩
theorem Ztj(s:List Nat)(back:Bool)(t:T):ZgJ s back (fun f=>Zsr t back f s 0 0) (fun i j=>j=i+1∧∃b,s[i]?=some b∧t.hasB b=true):=by
 intro f hf j
 rw[Zpg]
 unfold ZgI
 cases back with
 | false=>
  constructor
  ·rintro(h|⟨p,b,h1,h2,h3,h4⟩)
   ·simp at h
   ·simp at h3 h4;exact⟨p,h3,by simp;exact⟨h4,b,h1,h2⟩⟩
  ·rintro⟨i,h1,h2⟩
   simp at h2
   obtain⟨rfl,b,h3,h4⟩:=h2
   exact .inr ⟨i,b,h3,h4,by simpa using h1,by simp⟩
 | true=>
  constructor
  ·rintro(h|⟨p,b,h1,h2,h3,h4⟩)
   ·simp at h
   ·simp at h3 h4;subst h4;exact⟨j+1,h3,by simp;exact⟨b,h1,h2⟩⟩
  ·rintro⟨i,h1,h2⟩
   simp at h2
   obtain⟨rfl,b,h3,h4⟩:=h2
   exact .inr ⟨j,b,h3,h4,by simpa using h1,by simp⟩
theorem ZlQ(back:Bool)(R:Re)(n f j:Nat):ZgI back (pow R (n+1)) f j↔∃i,ZgI back (pow R n) f i∧(if back then R j i else R i j):=by
 unfold ZgI
 cases back with
 | false=>
  simp only[Bool.false_eq_true,if_false]
  constructor
  ·rintro⟨i,h1,h2⟩
   obtain⟨m,h3,h4⟩:=(ZhI R n i j).1 h2
   exact⟨m,⟨i,h1,h3⟩,h4⟩
  ·rintro⟨m,⟨i,h1,h3⟩,h4⟩
   exact⟨i,h1,(ZhI R n i j).2 ⟨m,h3,h4⟩⟩
 | true=>
  simp only[if_true]
  constructor
  ·rintro⟨i,h1,m,h3,h4⟩
   exact⟨m,⟨i,h1,h4⟩,h3⟩
  ·rintro⟨m,⟨i,h1,h4⟩,h3⟩
   exact⟨i,h1,m,h3,h4⟩
def cnt(f:Nat):Nat:=(List.range 576).countP fun i=>f.testBit i
theorem Zvk(f:Nat):cnt f≤576:=by
 have:=List.countP_le_length (p:=fun i=>f.testBit i) (l:=List.range 576)
 simpa[cnt]using this
theorem ZlR{α:Type}{p q:α→Bool}:∀{l:List α},(∀x,p x=true→q x=true)→(∃x∈l,q x=true∧p x=false)→l.countP p < l.countP q
 | [],_,h=>by obtain⟨x,h,_⟩:=h;simp at h
 | y::l,kB,⟨x,hx,h1,h2⟩=>by
  have gU:l.countP p≤l.countP q:=List.countP_mono_left fun x _ h=>kB x h
  rw[List.countP_cons,List.countP_cons]
  by_cases e:p y=true
  ·rw[if_pos e,if_pos (kB y e)]
   have dI:x≠y:=fun e'=>by rw[e',e]at h2;cases h2
   have:=ZlR kB ⟨x,(List.mem_cons.1 hx).resolve_left dI,h1,h2⟩
   omega
  ·rw[if_neg e]
   by_cases e2:q y=true
   ·rw[if_pos e2];omega
   ·have dI:x≠y:=fun e'=>e2 (e' ▸ h1)
    have:=ZlR kB ⟨x,(List.mem_cons.1 hx).resolve_left dI,h1,h2⟩
    omega
theorem Zus{f i:Nat}(hf:f < Zcl)(hi:¬i < 576):f.testBit i=false:=
 Nat.testBit_lt_two_pow (Nat.lt_of_lt_of_le hf (Nat.pow_le_pow_right (by omega) (by rw[ZoV];omega)))
theorem ZxX{out x:Nat}(ho:out < Zcl)(hx:x < Zcl)(h:¬out|||x=out):cnt out < cnt (out|||x):=by
 refine ZlR (fun i hi=>by simp[hi]) ?_
 refine Classical.byContradiction fun hn=>h (Nat.eq_of_testBit_eq fun i=>?_)
 by_cases hi:i < 576
 ·rw[Nat.testBit_or]
  cases e1:out.testBit i with
  | true=>rfl
  | false=>
   cases e2:x.testBit i with
   | false=>rfl
   | true=>exact absurd ⟨i,List.mem_range.2 hi,by rw[Nat.testBit_or,e1,e2];rfl,e1⟩ hn
 ·rw[Zus (Nat.or_lt_two_pow ho hx) hi,Zus ho hi]
theorem ZqS{s:List Nat}{back:Bool}{g:Nat→Nat}{R:Re}(hg:ZgJ s back g R)(bS:∀f,f < Zcl→g f < Zcl){mx:Int}{mn f0:Nat}(kF:f0 < Zcl)(kE:mn≤16):
  ∀(fuel K out last:Nat),out < Zcl→last < Zcl→mn≤K→(mx=-1∨(K:Int)≤mx)→K≤mn+cnt out→577 - cnt out≤fuel→
   (∀j,last.testBit j=true↔ZgI back (pow R K) f0 j)→(∀j,out.testBit j=true↔∃n,mn≤n∧n≤K∧ZgI back (pow R n) f0 j)→
   ∀j,(Zp9 g mx fuel K out last).testBit j=true↔∃n,mn≤n∧(mx=-1∨n≤mx.toNat)∧ZgI back (pow R n) f0 j:=by
 intro fuel
 induction fuel with
 | zero=>intro K out last _ _ _ _ _ jP _ _ j;have:=Zvk out;omega
 | succ fuel ihf=>
  intro K out last ho hl hK iu wA jP cD eF j
  have nu:=bS last hl
  have dO:∀j,(g last).testBit j=true↔ZgI back (pow R (K+1)) f0 j:=fun j=>by
   rw[hg last hl j,ZlQ]
   constructor
   ·rintro⟨i,h1,h2⟩;exact⟨i,(cD i).1 h1,h2⟩
   ·rintro⟨i,h1,h2⟩;exact⟨i,(cD i).2 h1,h2⟩
  rw[ZmH]
  by_cases hm:(K:Int)=mx
  ·rw[if_pos hm,eF]
   constructor
   ·rintro⟨n,h1,h2,h3⟩;exact⟨n,h1,.inr (by omega),h3⟩
   ·rintro⟨n,h1,h2,h3⟩;exact⟨n,h1,by rcases h2 with h2|h2 <;> omega,h3⟩
  ·rw[if_neg hm]
   by_cases hs:out|||g last=out
   ·rw[if_pos hs,eF]
    have gZ:∀j,(g last).testBit j=true→out.testBit j=true:=fun j h=>by
     rw[←hs,Nat.testBit_or,h];simp
    have mC:∀d j,ZgI back (pow R (K+d)) f0 j→out.testBit j=true:=by
     intro d
     induction d with
     | zero=>intro j h;exact(eF j).2 ⟨K,hK,Nat.le_refl _,h⟩
     | succ d ih=>
      intro j h
      rw[show K+(d+1)=(K+d)+1 by omega,ZlQ]at h
      obtain⟨i,h1,h2⟩:=h
      obtain⟨n,h3,h4,h5⟩:=(eF i).1 (ih i h1)
      have h6:ZgI back (pow R (n+1)) f0 j:=(ZlQ back R n f0 j).2 ⟨i,h5,h2⟩
      by_cases hn:n+1≤K
      ·exact(eF j).2 ⟨n+1,by omega,hn,h6⟩
      ·have:n=K:=by omega
       subst this
       exact gZ j ((dO j).2 h6)
    constructor
    ·rintro⟨n,h1,h2,h3⟩;exact⟨n,h1,by rcases iu with h|h;exact .inl h;exact .inr (by omega),h3⟩
    ·rintro⟨n,h1,h2,h3⟩
     by_cases hn:n≤K
     ·exact⟨n,h1,hn,h3⟩
     ·have:=mC (n - K) j (by rw[show K+(n - K)=n by omega];exact h3)
      exact(eF j).1 this
   ·rw[if_neg hs]
    have hc:=ZxX ho nu hs
    have fT:=Zvk (out|||g last)
    have hw:IntKind.i64.wrap ((K:Int)+1)=((K+1:Nat):Int):=by rw[Zat (by omega) (by omega)];rfl
    rw[hw]
    refine ihf (K+1) _ _ (Nat.or_lt_two_pow ho nu) nu (by omega) ?_ (by omega) (by omega) dO ?_ j
    ·rcases iu with h|h
     ·exact .inl h
     ·exact .inr (by omega)
    ·intro j
     rw[Nat.testBit_or,Bool.or_eq_true,eF,dO]
     constructor
     ·rintro(⟨n,h1,h2,h3⟩|h)
      ·exact⟨n,h1,by omega,h3⟩
      ·exact⟨K+1,by omega,Nat.le_refl _,h⟩
     ·rintro⟨n,h1,h2,h3⟩
      by_cases hn:n≤K
      ·exact .inl ⟨n,h1,hn,h3⟩
      ·have:n=K+1:=by omega
       subst this;exact .inr h3
theorem Zph{s:List Nat}{back:Bool}{g:Nat→Nat}{R:Re}(hg:ZgJ s back g R)(bS:∀f,f < Zcl→g f < Zcl):∀(n f:Nat),f < Zcl→∀j,(Zv1 g n f).testBit j=true↔ZgI back (pow R n) f j
 | 0,f,hf,j=>by
  show f.testBit j=true↔ZgI back (fun a b=>a=b) f j
  rw[Zpf]
 | n+1,f,hf,j=>by
  show(Zv1 g n (g f)).testBit j=true↔_
  rw[Zph hg bS n (g f) (bS f hf) j]
  unfold ZgI
  cases back with
  | false=>
   simp only[Bool.false_eq_true,if_false]
   constructor
   ·rintro⟨m,h1,h2⟩
    obtain⟨i,h3,h4⟩:=(hg f hf m).1 h1
    exact⟨i,h3,m,by simpa using h4,h2⟩
   ·rintro⟨i,h3,m,h4,h2⟩
    exact⟨m,(hg f hf m).2 ⟨i,h3,by simpa using h4⟩,h2⟩
  | true=>
   simp only[if_true]
   constructor
   ·rintro⟨m,h1,h2⟩
    obtain⟨i,h3,h4⟩:=(hg f hf m).1 h1
    exact⟨i,h3,(ZhI R n j i).2 ⟨m,h2,by simpa using h4⟩⟩
   ·rintro⟨i,h3,h4⟩
    obtain⟨m,h5,h6⟩:=(ZhI R n j i).1 h4
    exact⟨m,(hg f hf m).2 ⟨i,h3,by simpa using h6⟩,h5⟩
theorem Ztk{s:List Nat}{back:Bool}{g:Nat→Nat}{R:Re}(hg:ZgJ s back g R)(bS:∀f,f < Zcl→g f < Zcl){mn mx:Int}(h0:0≤mn)(rG:mn≤16)(iu:mx=-1∨mn≤mx):
  ZgJ s back (Zwy g mn mx) (fun i j=>∃n:Nat,mn.toNat≤n∧(mx=-1∨n≤mx.toNat)∧pow R n i j):=by
 intro f hf j
 obtain⟨k,rfl⟩:∃k:Nat,mn=k:=⟨mn.toNat,by omega⟩
 have hi:=ZoX bS k f hf
 have hb:=Zph hg bS k f hf
 have ve:1024 < Zcl:=Zug (n:=10) (by omega)
 unfold Zwy
 rw[Int.toNat_natCast]
 have:=ZqS hg bS (mx:=mx) hf (show k≤16 by omega) (Zcl+1) k (Zv1 g k f) (Zv1 g k f) hi hi (Nat.le_refl _) iu (by omega) (by have:=Zvk (Zv1 g k f);omega) hb (fun j=>by
  rw[hb]
  constructor
  ·intro h;exact⟨k,Nat.le_refl _,Nat.le_refl _,h⟩
  ·rintro⟨n,h1,h2,h3⟩;obtain rfl:n=k:=by omega
   exact h3) j
 rw[this]
 unfold ZgI
 cases back with
 | false=>
  simp only[Bool.false_eq_true,if_false]
  constructor
  ·rintro⟨n,h1,h2,i,h3,h4⟩;exact⟨i,h3,n,h1,h2,h4⟩
  ·rintro⟨i,h3,n,h1,h2,h4⟩;exact⟨n,h1,h2,i,h3,h4⟩
 | true=>
  simp only[if_true]
  constructor
  ·rintro⟨n,h1,h2,i,h3,h4⟩;exact⟨i,h3,n,h1,h2,h4⟩
  ·rintro⟨i,h3,n,h1,h2,h4⟩;exact⟨n,h1,h2,i,h3,h4⟩
section
variable {s:List Nat}
theorem M_1{t:T}(h:t.k=1)(i j:Nat):t.M s i j↔i=j:=by cases t;simp only[T.k]at h;subst h;simp[T.M]
theorem M_2{t:T}(h:t.k=2)(i j:Nat):t.M s i j↔(j=i+1∧∃b,s[i]?=some b∧t.hasB b=true):=by cases t;simp only[T.k]at h;subst h;simp[T.M]
theorem M_3{t:T}(h:t.k=3)(i j:Nat):t.M s i j↔MC s t.subs i j:=by cases t;simp only[T.k]at h;subst h;simp[T.M,T.subs]
theorem M_4{t:T}(h:t.k=4)(i j:Nat):t.M s i j↔MA s t.subs i j:=by cases t;simp only[T.k]at h;subst h;simp[T.M,T.subs]
theorem M_5{t:T}(h:t.k=5)(i j:Nat):t.M s i j↔∃n:Nat,t.mn.toNat≤n∧(t.mx=-1∨n≤t.mx.toNat)∧pow (MH s t.subs) n i j:=by cases t;simp only[T.k]at h;subst h;simp[T.M,T.subs,T.mn,T.mx]
theorem M_6{t:T}(h:t.k=6)(i j:Nat):t.M s i j↔MH s t.subs i j:=by cases t;simp only[T.k]at h;subst h;simp[T.M,T.subs]
theorem Zpi(i j:Nat):MC s [] i j↔i=j:=by simp[MC]
theorem ZkJ(t:T)(l:List T)(i j:Nat):MC s (t::l) i j↔∃m,t.M s i m∧MC s l m j:=by simp[MC]
theorem ZqT(i j:Nat):MA s [] i j↔False:=by simp[MA]
theorem ZkK(t:T)(l:List T)(i j:Nat):MA s (t::l) i j↔(t.M s i j∨MA s l i j):=by simp[MA]
theorem ZfK(t:T)(l:List T):MH s (t::l)=t.M s:=by simp[MH]
theorem Zcs{back:Bool}{g h:Nat→Nat}{R Q:Re}(hg:ZgJ s back g R)(e:∀f,h f=g f)(k:∀i j,Q i j↔R i j):ZgJ s back h Q:=by
 intro f hf j
 rw[e,hg f hf j]
 unfold ZgI
 cases back <;> simp only[k]
theorem ZkL(hs:s.length≤512):∀(l:List T),(∀x∈l,ZgJ s false (x.lead s false) (x.M s))→ZgJ s false (Zg6 s false l) (MC s l)
 | [],_=>by
  intro f hf j
  have e:ZgI false (MC s []) f j↔ZgI false (fun a b=>a=b) f j:=by unfold ZgI;simp only[Zpi]
  rw[e,Zpf];rw[Zg6]
 | t::l,h=>Zcs (Zti (h t (by simp)) (ZkL hs l fun x hx=>h x (by simp[hx])) (ZfF s false hs t)) (fun f=>by rw[Zg6]) (fun i j=>ZkJ t l i j)
theorem ZkM(hs:s.length≤512):∀(l:List T),(∀x∈l,ZgJ s true (x.lead s true) (x.M s))→ZgJ s true (ZgG s true l) (MC s l)
 | [],_=>by
  intro f hf j
  have e:ZgI true (MC s []) f j↔ZgI true (fun a b=>a=b) f j:=by unfold ZgI;simp only[Zpi]
  rw[e,Zpf];rw[ZgG]
 | t::l,h=>Zcs (ZqR (h t (by simp)) (ZkM hs l fun x hx=>h x (by simp[hx])) (ZnV s true hs l)) (fun f=>by rw[ZgG]) (fun i j=>ZkJ t l i j)
theorem Zpj{back:Bool}(hs:s.length≤512):∀(l:List T),(∀x∈l,ZgJ s back (x.lead s back) (x.M s))→∀f,f < Zcl→∀out j,(ZqD s back l f out).testBit j=true↔(out.testBit j=true∨ZgI back (MA s l) f j)
 | [],_,f,hf,out,j=>by
  rw[ZrP]
  constructor
  ·exact .inl
  ·rintro(h|⟨i,_,h⟩)
   ·exact h
   ·cases back <;> simp[ZqT]at h
 | t::l,h,f,hf,out,j=>by
  rw[ZoW,Zpj hs l (fun x hx=>h x (by simp[hx])) f hf,Nat.testBit_or,Bool.or_eq_true,h t (by simp) f hf j]
  have e:ZgI back (MA s (t::l)) f j↔ZgI back (fun a b=>t.M s a b∨MA s l a b) f j:=by unfold ZgI;cases back <;> simp only[ZkK]
  rw[e,ZwM,or_assoc]
theorem Zpk(back:Bool)(x:T):Zgb s back [x]=x.lead s back:=by
 funext f;rw[Zgb]
theorem ZjA(back:Bool)(hs:s.length≤512):∀t:T,t.good=true→ZgJ s back (t.lead s back) (t.M s)
 | t,hg=>by
  obtain⟨hr,cR⟩:=ZhH hg
  have ih:∀x∈t.subs,ZgJ s back (x.lead s back) (x.M s):=fun x hx=>ZjA back hs x (cR x hx)
  rcases Zuq hr with h|h|h|h|⟨h,⟨x,hx⟩,h0,rG,iu⟩|⟨h,x,hx⟩
  ·intro f hf j
   have e:ZgI back (t.M s) f j↔ZgI back (fun a b=>a=b) f j:=by unfold ZgI;cases back <;> simp only[M_1 h]
   rw[e,Zpf,Zwz h]
  ·exact Zcs (Ztj s back t) (fun f=>ZwA h f) (fun i j=>M_2 h i j)
  ·cases back with
   | false=>exact Zcs (ZkL hs t.subs ih) (fun f=>by rw[Zve h];rfl) (fun i j=>M_3 h i j)
   | true=>exact Zcs (ZkM hs t.subs ih) (fun f=>by rw[Zve h];rfl) (fun i j=>M_3 h i j)
  ·intro f hf j
   rw[ZwB h,Zpj hs t.subs ih f hf]
   have e:ZgI back (t.M s) f j↔ZgI back (MA s t.subs) f j:=by unfold ZgI;cases back <;> simp only[M_4 h]
   rw[e];simp
  ·have hx':x∈t.subs:=by rw[hx];simp
   have hl:=Ztk (mn:=t.mn) (mx:=t.mx) (ih x hx') (ZfF s back hs x) h0 rG (by omega)
   exact Zcs hl (fun f=>by rw[ZwC h,hx,Zpk]) (fun i j=>by rw[M_5 h,hx,ZfK])
  ·have hx':x∈t.subs:=by rw[hx];simp
   exact Zcs (ih x hx') (fun f=>by rw[ZwD h,hx,Zpk]) (fun i j=>by rw[M_6 h,hx,ZfK])
termination_by t=>SizeOf.sizeOf t
decreasing_by exact ZjU hx
end
def Fwd(R:Re):Prop:=∀i j,R i j→i≤j
def Sh(s s':List Nat)(R R':Re):Prop:=∀i j i',R i j→(∀p,i+p < j→s[i+p]?=s'[i'+p]?)→R' i' (i'+(j - i))
def Len(s:List Nat)(R:Re):Prop:=∀i j,R i j→i≤s.length→j≤s.length
structure Nice (s s':List Nat)(R R':Re):Prop where
 fwd:Fwd R
 sh:Sh s s' R R'
 len:Len s R
theorem Zr9(s s':List Nat):Nice s s' (fun i j=>i=j) (fun i j=>i=j):=
 ⟨fun i j h=>by omega,fun i j i' h _=>by omega,fun i j h k=>by omega⟩
theorem Zsa{s s':List Nat}{R R' Q Q':Re}(h:Nice s s' R R')(k:Nice s s' Q Q'):Nice s s' (fun i j=>∃m,R i m∧Q m j) (fun i j=>∃m,R' i m∧Q' m j):=by
 refine⟨fun i j ⟨m,h1,h2⟩=>Nat.le_trans (h.fwd _ _ h1) (k.fwd _ _ h2),fun i j i' ⟨m,h1,h2⟩ hs=>?_,fun i j ⟨m,h1,h2⟩ hi=>k.len _ _ h2 (h.len _ _ h1 hi)⟩
 have a:=h.fwd _ _ h1
 have b:=k.fwd _ _ h2
 refine⟨i'+(m - i),h.sh _ _ _ h1 fun p hp=>hs p (by omega),?_⟩
 have:=k.sh _ _ (i'+(m - i)) h2 fun p hp=>by
  have:=hs ((m - i)+p) (by omega)
  rw[show i+(m - i+p)=m+p by omega,show i'+(m - i+p)=i'+(m - i)+p by omega]at this
  exact this
 rw[show i'+(m - i)+(j - m)=i'+(j - i) by omega]at this
 exact this
theorem ZlS{s s':List Nat}{R R':Re}(h:Nice s s' R R'):∀n,Nice s s' (pow R n) (pow R' n)
 | 0=>Zr9 s s'
 | n+1=>Zsa h (ZlS h n)
theorem ZdY{s s':List Nat}{R R' Q Q':Re}(h:Nice s s' R R')(e:∀i j,Q i j↔R i j)(e':∀i j,Q' i j↔R' i j):Nice s s' Q Q':=
 ⟨fun i j k=>h.fwd i j ((e i j).1 k),fun i j i' k hs=>(e' _ _).2 (h.sh i j i' ((e i j).1 k) hs),fun i j k hi=>h.len i j ((e i j).1 k) hi⟩
theorem Zyo{s s':List Nat}:∀(l:List T),(∀x∈l,Nice s s' (x.M s) (x.M s'))→Nice s s' (MC s l) (MC s' l)
 | [],_=>ZdY (Zr9 s s') (fun i j=>Zpi i j) (fun i j=>Zpi i j)
 | t::l,h=>ZdY (Zsa (h t (by simp)) (Zyo l fun x hx=>h x (by simp[hx]))) (fun i j=>ZkJ t l i j) (fun i j=>ZkJ t l i j)
theorem Zyp{s s':List Nat}:∀(l:List T),(∀x∈l,Nice s s' (x.M s) (x.M s'))→Nice s s' (MA s l) (MA s' l)
 | [],_=>⟨fun i j h=>by rw[ZqT]at h;exact h.elim,fun i j i' h=>by rw[ZqT]at h;exact h.elim,fun i j h=>by rw[ZqT]at h;exact h.elim⟩
 | t::l,h=>by
  have h1:=h t (by simp)
  have h2:=Zyp l fun x hx=>h x (by simp[hx])
  refine⟨fun i j k=>?_,fun i j i' k hs=>?_,fun i j k hi=>?_⟩
  ·rcases(ZkK t l i j).1 k with k|k
   ·exact h1.fwd _ _ k
   ·exact h2.fwd _ _ k
  ·refine(ZkK t l _ _).2 ?_
   rcases(ZkK t l i j).1 k with k|k
   ·exact .inl (h1.sh _ _ _ k hs)
   ·exact .inr (h2.sh _ _ _ k hs)
  ·rcases(ZkK t l i j).1 k with k|k
   ·exact h1.len _ _ k hi
   ·exact h2.len _ _ k hi
theorem ZwN(s s':List Nat):∀t:T,t.good=true→Nice s s' (t.M s) (t.M s')
 | t,hg=>by
  obtain⟨hr,cR⟩:=ZhH hg
  have ih:∀x∈t.subs,Nice s s' (x.M s) (x.M s'):=fun x hx=>ZwN s s' x (cR x hx)
  rcases Zuq hr with h|h|h|h|⟨h,⟨x,hx⟩,h0,rG,iu⟩|⟨h,x,hx⟩
  ·exact ZdY (Zr9 s s') (fun i j=>M_1 h i j) (fun i j=>M_1 h i j)
  ·refine⟨fun i j k=>?_,fun i j i' k hs=>?_,fun i j k hi=>?_⟩
   ·have:=(M_2 h i j).1 k;omega
   ·obtain⟨rfl,b,h1,h2⟩:=(M_2 h i j).1 k
    refine(M_2 h _ _).2 ⟨by omega,b,?_,h2⟩
    have:=hs 0 (by omega)
    simp only[Nat.add_zero]at this
    rw[←this];exact h1
   ·obtain⟨rfl,b,h1,h2⟩:=(M_2 h i j).1 k
    have:=(List.getElem?_eq_some_iff.1 h1).1
    omega
  ·exact ZdY (Zyo t.subs ih) (fun i j=>M_3 h i j) (fun i j=>M_3 h i j)
  ·exact ZdY (Zyp t.subs ih) (fun i j=>M_4 h i j) (fun i j=>M_4 h i j)
  ·have hn:=ih x (by rw[hx];simp)
   refine⟨fun i j k=>?_,fun i j i' k hs=>?_,fun i j k hi=>?_⟩
   ·obtain⟨n,_,_,h3⟩:=(M_5 h i j).1 k
    rw[hx,ZfK]at h3
    exact(ZlS hn n).fwd _ _ h3
   ·obtain⟨n,h1,h2,h3⟩:=(M_5 h i j).1 k
    rw[hx,ZfK]at h3
    refine(M_5 h _ _).2 ⟨n,h1,h2,?_⟩
    rw[hx,ZfK]
    exact(ZlS hn n).sh _ _ _ h3 hs
   ·obtain⟨n,_,_,h3⟩:=(M_5 h i j).1 k
    rw[hx,ZfK]at h3
    exact(ZlS hn n).len _ _ h3 hi
  ·have hn:=ih x (by rw[hx];simp)
   exact ZdY hn (fun i j=>by rw[M_6 h,hx,ZfK]) (fun i j=>by rw[M_6 h,hx,ZfK])
termination_by t=>SizeOf.sizeOf t
decreasing_by exact ZjU hx
theorem Zzb{t:T}(hg:t.good=true){s:List Nat}{i j:Nat}(h:t.M s i j):i≤j:=(ZwN s s t hg).fwd _ _ h
theorem ZkN(n i:Nat):(2 ^ n).testBit i=true↔n=i:=by rw[Nat.testBit_two_pow];simp
theorem Zvl{t:T}(hg:t.good=true){s:List Nat}(hs:s.length≤512){i j:Nat}(hi:i < 576):(t.lead s false (2 ^ i)).testBit j=true↔t.M s i j:=by
 rw[ZjA false hs t hg _ (Zug hi) j]
 unfold ZgI
 simp only[ZkN,Bool.false_eq_true,if_false]
 constructor
 ·rintro⟨k,rfl,h⟩;exact h
 ·intro h;exact⟨i,rfl,h⟩
theorem Zvm{t:T}(hg:t.good=true){s:List Nat}(hs:s.length≤512){i j:Nat}(hj:j < 576):(t.lead s true (2 ^ j)).testBit i=true↔t.M s i j:=by
 rw[ZjA true hs t hg _ (Zug hj) i]
 unfold ZgI
 simp only[ZkN,if_true]
 constructor
 ·rintro⟨k,rfl,h⟩;exact h
 ·intro h;exact⟨j,rfl,h⟩
end Go.Rx
namespace Go.Rx
open Go Go.Eng Go.RowKit
inductive Vw (E H:Nat→Nat→Prop):Nat→Nat→Nat→Nat→Prop
 | one {p i:Nat} (h:H p i):Vw E H p i p (i+1)
 | step {p i r q j:Nat} (h:H p i) (e:E p r) (k:Vw E H r (i+1) q j):Vw E H p i q j
theorem Vw.mono{E E' H H':Nat→Nat→Prop}{D:Nat→Prop}(hE:∀p r,D p→E p r→E' p r∧D r)(hH:∀p i,D p→H p i→H' p i){p i q j:Nat}(h:Vw E H p i q j):D p→Vw E' H' p i q j∧D q:=by
 induction h with
 | one h=>exact fun hd=>⟨.one (hH _ _ hd h),hd⟩
 | step h e _ ih=>exact fun hd=>⟨.step (hH _ _ hd h) (hE _ _ hd e).1 (ih (hE _ _ hd e).2).1,(ih (hE _ _ hd e).2).2⟩
theorem Vw.trans{E H:Nat→Nat→Prop}{p i q m r q' j:Nat}(h:Vw E H p i q m)(e:E q r)(k:Vw E H r m q' j):Vw E H p i q' j:=by
 induction h with
 | one h=>exact .step h e k
 | step h e1 _ ih=>exact .step h e1 (ih e k)
theorem Vw.split{E E' H:Nat→Nat→Prop}{D1 D2 L1 F2:Nat→Prop}(h1:∀p r,D1 p→E' p r→(E p r∧D1 r)∨(L1 p∧F2 r))(hF:∀r,F2 r→D2 r)(h2:∀p r,D2 p→E' p r→E p r∧D2 r){p i q j:Nat}(h:Vw E' H p i q j):
  D1 p→(D1 q∧Vw E H p i q j)∨∃l f m,L1 l∧F2 f∧D1 l∧D2 q∧Vw E H p i l m∧Vw E H f m q j:=by
 induction h with
 | one h=>exact fun hd=>.inl ⟨hd,.one h⟩
 | @step p i r q j h e k ih=>
  intro hd
  rcases h1 _ _ hd e with⟨e1,hr⟩|⟨hl,hf⟩
  ·rcases ih hr with⟨g1,g2⟩|⟨l,f,m,g1,g2,g3,g4,g5,g6⟩
   ·exact .inl ⟨g1,.step h e1 g2⟩
   ·exact .inr ⟨l,f,m,g1,g2,g3,g4,.step h e1 g5,g6⟩
  ·obtain⟨g1,g2⟩:=k.mono (E':=E) (H':=H) (D:=D2) h2 (fun _ _ _ h=>h) (hF r hf)
   exact .inr ⟨p,r,i+1,hl,hf,hd,g2,.one h,g1⟩
def Seg(E H:Nat→Nat→Prop)(F L:Nat→Prop):Re:=fun i j=>∃p q,F p∧L q∧Vw E H p i q j
theorem Vw.rounds{E E' H:Nat→Nat→Prop}{D F L:Nat→Prop}(h1:∀p r,D p→E' p r→(E p r∧D r)∨(L p∧F r))(hF:∀r,F r→D r){p i q j:Nat}(h:Vw E' H p i q j):
  D p→L q→∃l m n,Vw E H p i l m∧L l∧pow (Seg E H F L) n m j:=by
 induction h with
 | @one p i h=>exact fun _ hl=>⟨p,i+1,0,.one h,hl,rfl⟩
 | @step p i r q j h e k ih=>
  intro hd hl
  rcases h1 _ _ hd e with⟨e1,hr⟩|⟨hp,hf⟩
  ·obtain⟨l,m,n,g1,g2,g3⟩:=ih hr hl
   exact⟨l,m,n,.step h e1 g1,g2,g3⟩
  ·obtain⟨l,m,n,g1,g2,g3⟩:=ih (hF r hf) hl
   exact⟨p,i+1,n+1,.one h,hp,m,⟨r,l,hf,g2,g1⟩,g3⟩
theorem Zpl{E E' H:Nat→Nat→Prop}{D F L:Nat→Prop}(hE:∀p r,D p→E p r→E' p r∧D r)(tM:∀p r,L p→F r→E' p r)(hF:∀r,F r→D r):∀(n:Nat){p i l m j:Nat},D p→Vw E H p i l m→L l→pow (Seg E H F L) n m j→∃q,L q∧Vw E' H p i q j
 | 0,p,i,l,m,j,hd,h,hl,e=>by
  have e':m=j:=e
  subst e'
  exact⟨l,hl,(h.mono hE (fun _ _ _ h=>h) hd).1⟩
 | n+1,p,i,l,m,j,hd,h,hl,⟨m2,⟨f,l2,hf,jq,h2⟩,h3⟩=>by
  obtain⟨q,hq,h4⟩:=Zpl hE tM hF n (hF f hf) h2 jq h3
  exact⟨q,hq,(h.mono hE (fun _ _ _ h=>h) hd).1.trans (tM l f hl hf) h4⟩
def Est(st:Ms)(p r:Nat):Prop:=∃x,st.fol[p]?=some x∧x.testBit r=true
def Hst(s:List Nat)(st:Ms)(p i:Nat):Prop:=∃q c,st.sets[p]?=some q∧s[i]?=some c∧ZyD q c=true
structure Ext (st st':Ms):Prop where
 sets:∀(p:Nat)(q:QS),st.sets[p]?=some q→st'.sets[p]?=some q
 fol:∀(p x:Nat),st.fol[p]?=some x→st'.fol[p]?=some x
theorem Ext.refl(st:Ms):Ext st st:=⟨fun _ _ h=>h,fun _ _ h=>h⟩
theorem Ext.trans{a b c:Ms}(h:Ext a b)(k:Ext b c):Ext a c:=⟨fun p q e=>k.sets p q (h.sets p q e),fun p x e=>k.fol p x (h.fol p x e)⟩
theorem ZiL{fol:List Nat}{a b p:Nat}:(ZbR fol a b)[p]?=(fol[p]?).map fun x=>if a.testBit p then x|||b else x:=by
 simp[ZbR,List.getElem?_mapIdx]
structure Comp (s:List Nat)(n0:Nat)(st:Ms)(P:Pt)(R:Re):Prop where
 ok:MsOk st
 le:n0≤st.sets.length
 pin:PtIn st.sets.length P
 fst:∀p,P.first.testBit p=true→n0≤p
 lst:∀p,P.last.testBit p=true→n0≤p
 edge:∀p r,n0≤p→Est st p r→n0≤r
 lang:∀i j,R i j↔(P.null=true∧i=j)∨Seg (Est st) (Hst s st) (fun p=>P.first.testBit p=true) (fun p=>P.last.testBit p=true) i j
theorem ZiM{st:Ms}(h:MsOk st){p r:Nat}(e:Est st p r):p < st.sets.length∧r < st.sets.length:=by
 obtain⟨x,h1,h2⟩:=e
 exact⟨by rw[←h.len];exact(List.getElem?_eq_some_iff.1 h1).1,h.fol p x h1 r h2⟩
theorem Comp.congr{s:List Nat}{n0:Nat}{st:Ms}{P:Pt}{R R':Re}(h:Comp s n0 st P R)(e:∀i j,R' i j↔R i j):Comp s n0 st P R':=⟨h.ok,h.le,h.pin,h.fst,h.lst,h.edge,fun i j=>(e i j).trans (h.lang i j)⟩
theorem Comp.opt{s:List Nat}{n0:Nat}{st:Ms}{P:Pt}{R:Re}(h:Comp s n0 st P R)(b:Bool):Comp s n0 st ⟨P.first,P.last,P.null||b⟩ (fun i j=>R i j∨(b=true∧i=j)):=by
 refine⟨h.ok,h.le,h.pin,h.fst,h.lst,h.edge,fun i j=>?_⟩
 rw[h.lang i j]
 cases hn:P.null <;> cases b <;> simp[or_comm]
theorem Comp.seq{s:List Nat}{n0:Nat}{st1 st2:Ms}{P X:Pt}{R1 R2:Re}(h1:Comp s n0 st1 P R1)(h2:Comp s st1.sets.length st2 X R2)(hx:Ext st1 st2):Comp s n0 (Zb6 P X st2).2 (Zb6 P X st2).1 (fun i j=>∃m,R1 i m∧R2 m j):=by
 have bX:st1.sets.length≤st2.sets.length:=h2.le
 have rH:MsOk (Zb6 P X st2).2:=h2.ok.loop _ _ h2.pin.1
 have nv:∀p r,Est (Zb6 P X st2).2 p r↔Est st2 p r∨(p < st2.sets.length∧P.last.testBit p=true∧X.first.testBit r=true):=fun p r=>by
  unfold Est
  simp only[Zb6,ZiL]
  constructor
  ·rintro⟨x,h3,h4⟩
   obtain⟨y,hy,rfl⟩:=Option.map_eq_some_iff.1 h3
   have hp:p < st2.sets.length:=by rw[←h2.ok.len];exact(List.getElem?_eq_some_iff.1 hy).1
   by_cases hl:P.last.testBit p=true
   ·rw[if_pos hl]at h4
    rcases Zg9 h4 with h5|h5
    ·exact .inl ⟨y,hy,h5⟩
    ·exact .inr ⟨hp,hl,h5⟩
   ·rw[if_neg hl]at h4;exact .inl ⟨y,hy,h4⟩
  ·rintro(⟨x,h3,h4⟩|⟨hp,hl,h4⟩)
   ·refine⟨_,by rw[h3];rfl,?_⟩
    split
    ·simp[Nat.testBit_or,h4]
    ·exact h4
   ·obtain⟨y,hy⟩:∃y,st2.fol[p]?=some y:=⟨_,List.getElem?_eq_getElem (by rw[h2.ok.len];exact hp)⟩
    exact⟨_,by rw[hy];rfl,by simp only[if_pos hl];simp[Nat.testBit_or,h4]⟩
 have wB:∀p i,Hst s (Zb6 P X st2).2 p i↔Hst s st2 p i:=fun p i=>Iff.rfl
 have e12:∀p r,p < st1.sets.length→(Est st2 p r↔Est st1 p r):=fun p r hp=>by
  obtain⟨y,hy⟩:∃y,st1.fol[p]?=some y:=⟨_,List.getElem?_eq_getElem (by rw[h1.ok.len];exact hp)⟩
  constructor
  ·rintro⟨x,h3,h4⟩
   rw[hx.fol p y hy]at h3;cases h3
   exact⟨y,hy,h4⟩
  ·rintro⟨x,h3,h4⟩;exact⟨x,hx.fol p x h3,h4⟩
 have H12:∀p i,p < st1.sets.length→(Hst s st2 p i↔Hst s st1 p i):=fun p i hp=>by
  obtain⟨y,hy⟩:∃y,st1.sets[p]?=some y:=⟨_,List.getElem?_eq_getElem hp⟩
  constructor
  ·rintro⟨q,c,h3,h4⟩
   rw[hx.sets p y hy]at h3;cases h3
   exact⟨y,c,hy,h4⟩
  ·rintro⟨q,c,h3,h4⟩;exact⟨q,c,hx.sets p q h3,h4⟩
 let D1:Nat→Prop:=fun p=>n0≤p∧p < st1.sets.length
 let D2:Nat→Prop:=fun p=>st1.sets.length≤p
 have a1:∀p r,D1 p→Est (Zb6 P X st2).2 p r→(Est st2 p r∧D1 r)∨(P.last.testBit p=true∧X.first.testBit r=true):=fun p r hd he=>by
  rcases(nv p r).1 he with h3|h3
  ·have h4:=(e12 p r hd.2).1 h3
   exact .inl ⟨h3,h1.edge p r hd.1 h4,(ZiM h1.ok h4).2⟩
  ·exact .inr h3.2
 have a2:∀p r,D2 p→Est (Zb6 P X st2).2 p r→Est st2 p r∧D2 r:=fun p r hd he=>by
  rcases(nv p r).1 he with h3|h3
  ·exact⟨h3,h2.edge p r hd h3⟩
  ·have:=h1.pin.2 p h3.2.1
   exact absurd this (by have:st1.sets.length≤p:=hd;omega)
 have aF:∀r,X.first.testBit r=true→D2 r:=fun r hr=>h2.fst r hr
 have w1:∀{p i q j},D1 p→(Vw (Est st2) (Hst s st2) p i q j↔Vw (Est st1) (Hst s st1) p i q j):=fun {p i q j} hd=>
  ⟨fun h=>(h.mono (D:=D1) (fun p r hd he=>by have h4:=(e12 p r hd.2).1 he;exact⟨h4,h1.edge p r hd.1 h4,(ZiM h1.ok h4).2⟩) (fun p i hd h=>(H12 p i hd.2).1 h) hd).1,
   fun h=>(h.mono (D:=D1) (fun p r hd he=>⟨(e12 p r hd.2).2 he,h1.edge p r hd.1 he,(ZiM h1.ok he).2⟩) (fun p i hd h=>(H12 p i hd.2).2 h) hd).1⟩
 have up1:∀{p i q j},D1 p→Vw (Est st1) (Hst s st1) p i q j→Vw (Est (Zb6 P X st2).2) (Hst s (Zb6 P X st2).2) p i q j:=fun {p i q j} hd h=>
  (((w1 hd).2 h).mono (D:=D1) (fun p r hd he=>⟨(nv p r).2 (.inl he),by have h4:=(e12 p r hd.2).1 he;exact⟨h1.edge p r hd.1 h4,(ZiM h1.ok h4).2⟩⟩) (fun p i _ h=>h) hd).1
 have up2:∀{p i q j},D2 p→Vw (Est st2) (Hst s st2) p i q j→Vw (Est (Zb6 P X st2).2) (Hst s (Zb6 P X st2).2) p i q j:=fun {p i q j} hd h=>
  (h.mono (D:=D2) (fun p r hd he=>⟨(nv p r).2 (.inl he),h2.edge p r hd he⟩) (fun p i _ h=>h) hd).1
 have d1f:∀p,P.first.testBit p=true→D1 p:=fun p hp=>⟨h1.fst p hp,h1.pin.1 p hp⟩
 have d1l:∀p,P.last.testBit p=true→D1 p:=fun p hp=>⟨h1.lst p hp,h1.pin.2 p hp⟩
 have dM:∀p,(ZnP P X).first.testBit p=true↔P.first.testBit p=true∨(P.null=true∧X.first.testBit p=true):=fun p=>by
  unfold ZnP
  cases P.null <;> simp[Nat.testBit_or]
 have cD:∀p,(ZnP P X).last.testBit p=true↔X.last.testBit p=true∨(X.null=true∧P.last.testBit p=true):=fun p=>by
  unfold ZnP
  cases X.null <;> simp[Nat.testBit_or]
 refine⟨rH,Nat.le_trans h1.le bX,Zr0 (h1.pin.mono bX) h2.pin,fun p hp=>?_,fun p hp=>?_,fun p r hp he=>?_,fun i j=>?_⟩
 ·rcases(dM p).1 hp with h|⟨_,h⟩
  ·exact h1.fst p h
  ·exact Nat.le_trans h1.le (h2.fst p h)
 ·rcases(cD p).1 hp with h|⟨_,h⟩
  ·exact Nat.le_trans h1.le (h2.lst p h)
  ·exact h1.lst p h
 ·rcases(nv p r).1 he with h|⟨_,_,h⟩
  ·by_cases iI:p < st1.sets.length
   ·exact h1.edge p r hp ((e12 p r iI).1 h)
   ·exact Nat.le_trans h1.le (h2.edge p r (by omega) h)
  ·exact Nat.le_trans h1.le (h2.fst r h)
 ·constructor
  ·rintro⟨m,g1,g2⟩
   rcases(h1.lang i m).1 g1 with⟨n1,rfl⟩|⟨p,q,hp,hq,hv⟩
   ·rcases(h2.lang i j).1 g2 with⟨n2,rfl⟩|⟨p2,q2,dK,ib,kG⟩
    ·exact .inl ⟨by show(P.null&&X.null)=true;rw[n1,n2];rfl,rfl⟩
    ·exact .inr ⟨p2,q2,(dM _).2 (.inr ⟨n1,dK⟩),(cD _).2 (.inl ib),up2 (aF _ dK) kG⟩
   ·rcases(h2.lang m j).1 g2 with⟨n2,rfl⟩|⟨p2,q2,dK,ib,kG⟩
    ·exact .inr ⟨p,q,(dM _).2 (.inl hp),(cD _).2 (.inr ⟨n2,hq⟩),up1 (d1f _ hp) hv⟩
    ·exact .inr ⟨p,q2,(dM _).2 (.inl hp),(cD _).2 (.inl ib),(up1 (d1f _ hp) hv).trans ((nv q p2).2 (.inr ⟨by have:=(d1l q hq).2;omega,hq,dK⟩)) (up2 (aF _ dK) kG)⟩
  ·rintro(⟨hn,rfl⟩|⟨p,q,hp,hq,hv⟩)
   ·have hn':(P.null&&X.null)=true:=hn
    rw[Bool.and_eq_true]at hn'
    exact⟨i,(h1.lang i i).2 (.inl ⟨hn'.1,rfl⟩),(h2.lang i i).2 (.inl ⟨hn'.2,rfl⟩)⟩
   ·rcases(dM p).1 hp with iI|⟨n1,dK⟩
    ·rcases hv.split (E:=Est st2) (D1:=D1) (D2:=D2) a1 aF a2 (d1f p iI)with⟨lF,lD⟩|⟨l,f,m,hl,hf,mh,lF,vf,vg⟩
     ·rcases(cD q).1 hq with ib|⟨n2,gK⟩
      ·exact absurd (h2.lst q ib) (by have:=lF.2;omega)
      ·exact⟨j,(h1.lang i j).2 (.inr ⟨p,q,iI,gK,(w1 (d1f p iI)).1 lD⟩),(h2.lang j j).2 (.inl ⟨n2,rfl⟩)⟩
     ·rcases(cD q).1 hq with ib|⟨n2,gK⟩
      ·exact⟨m,(h1.lang i m).2 (.inr ⟨p,l,iI,hl,(w1 (d1f p iI)).1 vf⟩),(h2.lang m j).2 (.inr ⟨f,q,hf,ib,vg⟩)⟩
      ·exact absurd (d1l q gK).2 (by have:st1.sets.length≤q:=lF;omega)
    ·obtain⟨kG,lF⟩:=hv.mono (E':=Est st2) (H':=Hst s st2) (D:=D2) a2 (fun _ _ _ h=>h) (aF p dK)
     rcases(cD q).1 hq with ib|⟨n2,gK⟩
     ·exact⟨i,(h1.lang i i).2 (.inl ⟨n1,rfl⟩),(h2.lang i j).2 (.inr ⟨p,q,dK,ib,kG⟩)⟩
     ·exact absurd (d1l q gK).2 (by have:st1.sets.length≤q:=lF;omega)
theorem Comp.alt{s:List Nat}{n0:Nat}{st1 st2:Ms}{P X:Pt}{R1 R2:Re}(h1:Comp s n0 st1 P R1)(h2:Comp s st1.sets.length st2 X R2)(hx:Ext st1 st2):Comp s n0 st2 (ZtX P X) (fun i j=>R1 i j∨R2 i j):=by
 have bX:st1.sets.length≤st2.sets.length:=h2.le
 have e12:∀p r,p < st1.sets.length→(Est st2 p r↔Est st1 p r):=fun p r hp=>by
  obtain⟨y,hy⟩:∃y,st1.fol[p]?=some y:=⟨_,List.getElem?_eq_getElem (by rw[h1.ok.len];exact hp)⟩
  constructor
  ·rintro⟨x,h3,h4⟩
   rw[hx.fol p y hy]at h3;cases h3
   exact⟨y,hy,h4⟩
  ·rintro⟨x,h3,h4⟩;exact⟨x,hx.fol p x h3,h4⟩
 have H12:∀p i,p < st1.sets.length→(Hst s st2 p i↔Hst s st1 p i):=fun p i hp=>by
  obtain⟨y,hy⟩:∃y,st1.sets[p]?=some y:=⟨_,List.getElem?_eq_getElem hp⟩
  constructor
  ·rintro⟨q,c,h3,h4⟩
   rw[hx.sets p y hy]at h3;cases h3
   exact⟨y,c,hy,h4⟩
  ·rintro⟨q,c,h3,h4⟩;exact⟨q,c,hx.sets p q h3,h4⟩
 let D1:Nat→Prop:=fun p=>n0≤p∧p < st1.sets.length
 have w1:∀{p i q j},D1 p→Vw (Est st2) (Hst s st2) p i q j→Vw (Est st1) (Hst s st1) p i q j∧D1 q:=fun {p i q j} hd h=>
  h.mono (D:=D1) (fun p r hd he=>by have h4:=(e12 p r hd.2).1 he;exact⟨h4,h1.edge p r hd.1 h4,(ZiM h1.ok h4).2⟩) (fun p i hd h=>(H12 p i hd.2).1 h) hd
 have w1':∀{p i q j},D1 p→Vw (Est st1) (Hst s st1) p i q j→Vw (Est st2) (Hst s st2) p i q j:=fun {p i q j} hd h=>
  (h.mono (D:=D1) (fun p r hd he=>⟨(e12 p r hd.2).2 he,h1.edge p r hd.1 he,(ZiM h1.ok he).2⟩) (fun p i hd h=>(H12 p i hd.2).2 h) hd).1
 have w2:∀{p i q j},st1.sets.length≤p→Vw (Est st2) (Hst s st2) p i q j→st1.sets.length≤q:=fun {p i q j} hd h=>
  (h.mono (E':=Est st2) (H':=Hst s st2) (D:=fun p=>st1.sets.length≤p) (fun p r hd he=>⟨he,h2.edge p r hd he⟩) (fun p i _ h=>h) hd).2
 have d1f:∀p,P.first.testBit p=true→D1 p:=fun p hp=>⟨h1.fst p hp,h1.pin.1 p hp⟩
 have d1l:∀p,P.last.testBit p=true→D1 p:=fun p hp=>⟨h1.lst p hp,h1.pin.2 p hp⟩
 have dM:∀p,(ZtX P X).first.testBit p=true↔P.first.testBit p=true∨X.first.testBit p=true:=fun p=>by simp[ZtX,Nat.testBit_or]
 have cD:∀p,(ZtX P X).last.testBit p=true↔P.last.testBit p=true∨X.last.testBit p=true:=fun p=>by simp[ZtX,Nat.testBit_or]
 refine⟨h2.ok,Nat.le_trans h1.le bX,Zr1 (h1.pin.mono bX) h2.pin,fun p hp=>?_,fun p hp=>?_,fun p r hp he=>?_,fun i j=>?_⟩
 ·rcases(dM p).1 hp with h|h
  ·exact h1.fst p h
  ·exact Nat.le_trans h1.le (h2.fst p h)
 ·rcases(cD p).1 hp with h|h
  ·exact h1.lst p h
  ·exact Nat.le_trans h1.le (h2.lst p h)
 ·by_cases iI:p < st1.sets.length
  ·exact h1.edge p r hp ((e12 p r iI).1 he)
  ·exact Nat.le_trans h1.le (h2.edge p r (by omega) he)
 ·constructor
  ·rintro(g|g)
   ·rcases(h1.lang i j).1 g with⟨n1,rfl⟩|⟨p,q,hp,hq,hv⟩
    ·exact .inl ⟨by show(P.null||X.null)=true;rw[n1];rfl,rfl⟩
    ·exact .inr ⟨p,q,(dM _).2 (.inl hp),(cD _).2 (.inl hq),w1' (d1f p hp) hv⟩
   ·rcases(h2.lang i j).1 g with⟨n1,rfl⟩|⟨p,q,hp,hq,hv⟩
    ·exact .inl ⟨by show(P.null||X.null)=true;rw[n1,Bool.or_true],rfl⟩
    ·exact .inr ⟨p,q,(dM _).2 (.inr hp),(cD _).2 (.inr hq),hv⟩
  ·rintro(⟨hn,rfl⟩|⟨p,q,hp,hq,hv⟩)
   ·have hn':(P.null||X.null)=true:=hn
    rw[Bool.or_eq_true]at hn'
    rcases hn' with h|h
    ·exact .inl ((h1.lang i i).2 (.inl ⟨h,rfl⟩))
    ·exact .inr ((h2.lang i i).2 (.inl ⟨h,rfl⟩))
   ·rcases(dM p).1 hp with iI|dK
    ·obtain⟨lD,lF⟩:=w1 (d1f p iI) hv
     rcases(cD q).1 hq with gK|ib
     ·exact .inl ((h1.lang i j).2 (.inr ⟨p,q,iI,gK,lD⟩))
     ·exact absurd (h2.lst q ib) (by have:=lF.2;omega)
    ·have lF:=w2 (h2.fst p dK) hv
     rcases(cD q).1 hq with gK|ib
     ·exact absurd (d1l q gK).2 (by omega)
     ·exact .inr ((h2.lang i j).2 (.inr ⟨p,q,dK,ib,hv⟩))
theorem Comp.loop{s:List Nat}{n0:Nat}{st:Ms}{P:Pt}{R:Re}(h:Comp s n0 st P R):Comp s n0 ⟨st.sets,ZbR st.fol P.last P.first⟩ P (fun i j=>∃n,1≤n∧pow R n i j):=by
 have cO:MsOk ⟨st.sets,ZbR st.fol P.last P.first⟩:=h.ok.loop _ _ h.pin.1
 have hE:∀p r,Est ⟨st.sets,ZbR st.fol P.last P.first⟩ p r↔Est st p r∨(p < st.sets.length∧P.last.testBit p=true∧P.first.testBit r=true):=fun p r=>by
  unfold Est
  simp only[ZiL]
  constructor
  ·rintro⟨x,h3,h4⟩
   obtain⟨y,hy,rfl⟩:=Option.map_eq_some_iff.1 h3
   have hp:p < st.sets.length:=by rw[←h.ok.len];exact(List.getElem?_eq_some_iff.1 hy).1
   by_cases hl:P.last.testBit p=true
   ·rw[if_pos hl]at h4
    rcases Zg9 h4 with h5|h5
    ·exact .inl ⟨y,hy,h5⟩
    ·exact .inr ⟨hp,hl,h5⟩
   ·rw[if_neg hl]at h4;exact .inl ⟨y,hy,h4⟩
  ·rintro(⟨x,h3,h4⟩|⟨hp,hl,h4⟩)
   ·refine⟨_,by rw[h3];rfl,?_⟩
    split
    ·simp[Nat.testBit_or,h4]
    ·exact h4
   ·obtain⟨y,hy⟩:∃y,st.fol[p]?=some y:=⟨_,List.getElem?_eq_getElem (by rw[h.ok.len];exact hp)⟩
    exact⟨_,by rw[hy];rfl,by simp only[if_pos hl];simp[Nat.testBit_or,h4]⟩
 let D:Nat→Prop:=fun p=>n0≤p
 let Q:Re:=Seg (Est st) (Hst s st) (fun p=>P.first.testBit p=true) (fun p=>P.last.testBit p=true)
 have a1:∀p r,D p→Est ⟨st.sets,ZbR st.fol P.last P.first⟩ p r→(Est st p r∧D r)∨(P.last.testBit p=true∧P.first.testBit r=true):=fun p r hd he=>by
  rcases(hE p r).1 he with h3|h3
  ·exact .inl ⟨h3,h.edge p r hd h3⟩
  ·exact .inr h3.2
 have rI:∀i j,Seg (Est ⟨st.sets,ZbR st.fol P.last P.first⟩) (Hst s ⟨st.sets,ZbR st.fol P.last P.first⟩) (fun p=>P.first.testBit p=true) (fun p=>P.last.testBit p=true) i j↔∃n,1≤n∧pow Q n i j:=fun i j=>by
  constructor
  ·rintro⟨p,q,hp,hq,hv⟩
   obtain⟨l,m,n,g1,g2,g3⟩:=Vw.rounds (E:=Est st) (D:=D) (F:=fun p=>P.first.testBit p=true) (L:=fun p=>P.last.testBit p=true) a1 (fun r hr=>h.fst r hr) hv (h.fst p hp) hq
   exact⟨n+1,by omega,m,⟨p,l,hp,g2,g1⟩,g3⟩
  ·rintro⟨n,hn,hw⟩
   obtain⟨k,rfl⟩:∃k,n=k+1:=⟨n - 1,by omega⟩
   obtain⟨m,⟨p,l,hp,hl,hv⟩,hr⟩:=hw
   obtain⟨q,hq,kG⟩:=Zpl (E:=Est st) (E':=Est ⟨st.sets,ZbR st.fol P.last P.first⟩) (D:=D) (F:=fun p=>P.first.testBit p=true) (L:=fun p=>P.last.testBit p=true) (fun p r hd he=>⟨(hE p r).2 (.inl he),h.edge p r hd he⟩) (fun p r hp hr=>(hE p r).2 (.inr ⟨h.pin.2 p hp,hp,hr⟩)) (fun r hr=>h.fst r hr) k (h.fst p hp) hv hl hr
   exact⟨p,q,hp,hq,kG⟩
 refine⟨cO,h.le,h.pin,h.fst,h.lst,fun p r hp he=>?_,fun i j=>?_⟩
 ·rcases(hE p r).1 he with h3|h3
  ·exact h.edge p r hp h3
  ·exact h.fst r h3.2.2
 ·rw[rI]
  have rJ:∀i j,R i j↔(P.null=true∧i=j)∨Q i j:=h.lang
  constructor
  ·rintro⟨n,hn,hw⟩
   have key:∀n i j,pow R n i j→(i=j∧(n=0∨P.null=true))∨∃k,1≤k∧pow Q k i j:=fun n=>by
    induction n with
    | zero=>exact fun i j e=>.inl ⟨e,.inl rfl⟩
    | succ n ih=>
     rintro i j ⟨m,g1,g2⟩
     rcases(rJ i m).1 g1 with⟨hn,rfl⟩|hq
     ·rcases ih i j g2 with⟨e,_⟩|h3
      ·exact .inl ⟨e,.inr hn⟩
      ·exact .inr h3
     ·rcases ih m j g2 with⟨rfl,_⟩|⟨k,hk,h3⟩
      ·exact .inr ⟨1,by omega,m,hq,rfl⟩
      ·exact .inr ⟨k+1,by omega,m,hq,h3⟩
   rcases key n i j hw with⟨rfl,h0|h0⟩|h3
   ·omega
   ·exact .inl ⟨h0,rfl⟩
   ·exact .inr h3
  ·rintro(⟨hn,rfl⟩|⟨n,hn,hw⟩)
   ·exact⟨1,by omega,i,(rJ i i).2 (.inl ⟨hn,rfl⟩),rfl⟩
   ·exact⟨n,hn,Zr8 (fun i j h=>(rJ i j).2 (.inr h)) n i j hw⟩
end Go.Rx
namespace Go.Rx
open Go Go.Eng Go.RowKit
theorem Ztl{A:Nf}(hA:A.Ok){p q:Int}(hp:0≤p)(hq:0≤q):p∈A.turn.fromL q↔q∈A.fromL p:=by
 have bX:=hA.len
 unfold Nf.fromL
 rw[if_neg (by omega),if_neg (by omega)]
 show p∈((ZgH A.fol)[q.toNat]?).getD []↔_
 constructor
 ·intro h
  cases hl:(ZgH A.fol)[q.toNat]? with
  | none=>rw[hl]at h;simp at h
  | some l=>
   rw[hl]at h
   obtain⟨k,r,rfl,h1,h2⟩:=(ZlO hl hA.rows).1 h
   rw[Int.toNat_natCast,h1]
   rwa [show((q.toNat:Nat):Int)=q by omega]at h2
 ·intro h
  cases hl:A.fol[p.toNat]? with
  | none=>rw[hl]at h;simp at h
  | some l=>
   rw[hl]at h
   have h':q∈l:=h
   have hb:=(hA.fol l (List.mem_of_getElem? hl)).2 q h'
   have ib:q.toNat < (ZgH A.fol).length:=by rw[ZdC];unfold Nf.top at hb;omega
   rw[List.getElem?_eq_getElem ib]
   exact(ZlO (List.getElem?_eq_getElem ib) hA.rows).2 ⟨p.toNat,l,by omega,hl,by rw[show((q.toNat:Nat):Int)=q by omega];exact h'⟩
theorem Zsb{A:Nf}(hA:A.Ok){q:Int}(h:0≤q):A.acc1 q=true↔q∈A.last:=by
 unfold Nf.acc1
 rw[if_neg (by omega),Zr4 _ _ _ (fun p hp=>by have:=(hA.last.2 p hp).1;omega),show((q.toNat:Nat):Int)=q by omega]
 simp
theorem Zpm(A:Nf):A.fromL (-1)=A.first:=by unfold Nf.fromL;rw[if_pos rfl]
end Go.Rx
namespace Go.Rx
open Go Go.Eng Go.RowKit
theorem ZlT(s:List Nat){st:Ms}(h:MsOk st)(b:Bool):Comp s st.sets.length st ⟨0,0,b⟩ (fun i j=>b=true∧i=j):=by
 refine⟨h,Nat.le_refl _,ZbE _ _,fun p hp=>by simp at hp,fun p hp=>by simp at hp,fun p r hp he=>by have:=(ZiM h he).1;omega,fun i j=>?_⟩
 constructor
 ·exact fun g=>.inl g
 ·rintro(g|⟨p,q,hp,_⟩)
  ·exact g
  ·simp at hp
theorem ZjB{st0 st2:Ms}(h0:MsOk st0)(hx:Ext st0 st2){a b:Nat}(ha:∀p,a.testBit p=true→st0.sets.length≤p):Ext st0 ⟨st2.sets,ZbR st2.fol a b⟩:=by
 refine⟨hx.sets,fun p x hp=>?_⟩
 have bS:p < st0.sets.length:=by rw[←h0.len];exact(List.getElem?_eq_some_iff.1 hp).1
 show(ZbR st2.fol a b)[p]?=some x
 rw[ZiL,hx.fol p x hp]
 simp only[Option.map_some]
 rw[if_neg (fun h=>by have:=ha p h;omega)]
theorem Zvn(s:List Nat){st:Ms}(h:MsOk st)(q:QS):Comp s st.sets.length ⟨st.sets++[q],st.fol++[0]⟩ ⟨2 ^ st.sets.length,2 ^ st.sets.length,false⟩ (fun i j=>j=i+1∧∃c,s[i]?=some c∧ZyD q c=true):=by
 have hg:=Zhb h q
 have eY:∀p,(2 ^ st.sets.length).testBit p=true↔p=st.sets.length:=fun p=>⟨Ztg,fun e=>by rw[e];simp[Nat.testBit_two_pow]⟩
 have kZ:(st.sets++[q])[st.sets.length]?=some q:=by simp
 have iJ:∀r,¬Est ⟨st.sets++[q],st.fol++[0]⟩ st.sets.length r:=fun r ⟨x,h1,h2⟩=>by
  have:(st.fol++[0])[st.sets.length]?=some 0:=by rw[←h.len];simp
  rw[this]at h1;cases h1;simp at h2
 refine⟨hg.ok,hg.le,hg.pt,fun p hp=>by rw[(eY p).1 hp];exact Nat.le_refl _,fun p hp=>by rw[(eY p).1 hp];exact Nat.le_refl _,fun p r hp he=>?_,fun i j=>?_⟩
 ·have:=(ZiM hg.ok he).1
  simp only[List.length_append,List.length_singleton]at this
  obtain rfl:p=st.sets.length:=by omega
  exact absurd he (iJ r)
 ·constructor
  ·rintro⟨rfl,c,h1,h2⟩
   exact .inr ⟨_,_,(eY _).2 rfl,(eY _).2 rfl,.one ⟨q,c,kZ,h1,h2⟩⟩
  ·rintro(⟨h1,_⟩|⟨p,p',hp,hp',hv⟩)
   ·cases h1
   ·obtain rfl:=(eY p).1 hp
    cases hv with
    | one h1=>
     obtain⟨q',c,h2,h3,h4⟩:=h1
     have h2':(st.sets++[q])[st.sets.length]?=some q':=h2
     rw[kZ]at h2';cases h2'
     exact⟨rfl,c,h3,h4⟩
    | step h1 e _=>exact absurd e (iJ _)
theorem ZwO(st:Ms)(q:QS):Ext st ⟨st.sets++[q],st.fol++[0]⟩:=
 ⟨fun p x h=>by show(st.sets++[q])[p]?=_;rw[List.getElem?_append_left (List.getElem?_eq_some_iff.1 h).1];exact h,fun p x h=>by show(st.fol++[0])[p]?=_;rw[List.getElem?_append_left (List.getElem?_eq_some_iff.1 h).1];exact h⟩
def Lk(R:Re)(mn k:Nat):Re:=fun i j=>∃n,min mn k≤n∧n≤k∧pow R n i j
theorem ZwP(R:Re)(mn k:Nat)(i j:Nat):Lk R mn (k+1) i j↔∃m,Lk R mn k i m∧(R m j∨(decide (mn≤k)=true∧m=j)):=by
 simp only[decide_eq_true_eq]
 constructor
 ·rintro⟨n,h1,h2,h3⟩
  by_cases hc:n≤k∧mn≤k
  ·exact⟨j,⟨n,by omega,hc.1,h3⟩,.inr ⟨hc.2,rfl⟩⟩
  ·cases n with
   | zero=>omega
   | succ n=>
    obtain⟨m,h4,h5⟩:=(ZhI R n i j).1 h3
    exact⟨m,⟨n,by omega,by omega,h4⟩,.inl h5⟩
 ·rintro⟨m,⟨n,h1,h2,h3⟩,h4|⟨h4,rfl⟩⟩
  ·exact⟨n+1,by omega,by omega,(ZhI R n i j).2 ⟨m,h3,h4⟩⟩
  ·exact⟨n,by omega,by omega,h3⟩
theorem ZwQ(R:Re)(mn:Nat)(i j:Nat):(∃m,Lk R mn (max mn 1 - 1) i m∧((∃n,1≤n∧pow R n m j)∨(decide (mn≤max mn 1 - 1)=true∧m=j)))↔∃n,mn≤n∧pow R n i j:=by
 simp only[decide_eq_true_eq]
 constructor
 ·rintro⟨m,⟨n,h1,h2,h3⟩,⟨n2,h4,h5⟩|⟨h4,rfl⟩⟩
  ·exact⟨n+n2,by omega,(ZmQ R n n2 i j).2 ⟨m,h3,h5⟩⟩
  ·exact⟨n,by omega,h3⟩
 ·rintro⟨n,h1,h2⟩
  by_cases h0:n=0
  ·subst h0
   exact⟨i,⟨0,by omega,by omega,rfl⟩,.inr ⟨by omega,h2⟩⟩
  ·obtain⟨m,h3,h4⟩:=(ZmQ R (max mn 1 - 1) (n - (max mn 1 - 1)) i j).1 (by rw[show max mn 1 - 1+(n - (max mn 1 - 1))=n by omega];exact h2)
   exact⟨m,⟨_,by omega,Nat.le_refl _,h3⟩,.inl ⟨_,by omega,h4⟩⟩
theorem Zpn{s:List Nat}{f:Ms→Pt×Ms}{R:Re}(hf:∀st,MsOk st→Comp s st.sets.length (f st).2 (f st).1 R∧Ext st (f st).2){mn mx:Int}(kE:0≤mn){st0:Ms}(h0:MsOk st0){N:Nat}(hN:1≤N)(tN:mx=-1→N=max mn.toNat 1):
  ∀(q k:Nat)(out:Pt)(st:Ms),q+k=N→0 < q→Comp s st0.sets.length st out (Lk R mn.toNat k)→Ext st0 st→
   Comp s st0.sets.length (Zh7 f mn mx N q k out st).2 (Zh7 f mn mx N q k out st).1 (if mx=-1 then(fun i j=>∃n,mn.toNat≤n∧pow R n i j)else Lk R mn.toNat N)∧Ext st0 (Zh7 f mn mx N q k out st).2
 | 0,k,out,st,_,h,_,_=>by omega
 | q+1,k,out,st,wC,_,hc,hx=>by
  obtain⟨hX,rK⟩:=hf st hc.ok
  have hd:decide ((k:Int) ≥ mn)=decide (mn.toNat≤k):=by rw[Bool.eq_iff_iff,decide_eq_true_eq,decide_eq_true_eq];omega
  by_cases cD:mx=-1∧k+1=N
  ·have hq:q=0:=by omega
   subst hq
   have oF:=hX.loop.opt (decide ((k:Int) ≥ mn))
   have tO:Ext st ⟨(f st).2.sets,ZbR (f st).2.fol (f st).1.last (f st).1.first⟩:=ZjB hc.ok rK hX.lst
   have mD:=hc.seq oF tO
   rw[Zh7,Zh7]
   simp only[if_pos cD]
   refine⟨mD.congr fun i j=>?_,ZjB h0 (hx.trans tO) hc.lst⟩
   rw[if_pos cD.1,hd]
   have hk:k=max mn.toNat 1 - 1:=by have:=tN cD.1;omega
   rw[hk]
   exact(ZwQ R mn.toNat i j).symm
  ·have rL:=hX.opt (decide ((k:Int) ≥ mn))
   have mD:=hc.seq rL rK
   have dO:Comp s st0.sets.length (Zb6 out ⟨(f st).1.first,(f st).1.last,(f st).1.null||decide ((k:Int) ≥ mn)⟩ (f st).2).2 (Zb6 out ⟨(f st).1.first,(f st).1.last,(f st).1.null||decide ((k:Int) ≥ mn)⟩ (f st).2).1 (Lk R mn.toNat (k+1)):=
    mD.congr fun i j=>by rw[hd];exact ZwP R mn.toNat k i j
   have iq:Ext st0 (Zb6 out ⟨(f st).1.first,(f st).1.last,(f st).1.null||decide ((k:Int) ≥ mn)⟩ (f st).2).2:=ZjB h0 (hx.trans rK) hc.lst
   rw[Zh7]
   simp only[if_neg cD]
   by_cases hq:q=0
   ·subst hq
    have tP:k+1=N:=by omega
    rw[Zh7]
    rw[if_neg (fun h=>cD ⟨h,tP⟩),←tP]
    exact⟨dO,iq⟩
   ·exact Zpn hf kE h0 hN tN q (k+1) _ _ (by omega) (by omega) dO iq
theorem ZmR{s:List Nat}{st0:Ms}(h0:MsOk st0):∀(l:List T),(∀x∈l,∀st,MsOk st→Comp s st.sets.length (mk x st).2 (mk x st).1 (x.M s)∧Ext st (mk x st).2)→∀(out:Pt)(st:Ms)(R:Re),Comp s st0.sets.length st out R→Ext st0 st→
  Comp s st0.sets.length (Zc2 l out st).2 (Zc2 l out st).1 (fun i j=>∃m,R i m∧MC s l m j)∧Ext st0 (Zc2 l out st).2
 | [],_,out,st,R,hc,hx=>by
  rw[Zc2]
  refine⟨hc.congr fun i j=>?_,hx⟩
  constructor
  ·rintro⟨m,h1,h2⟩;rw[Zpi]at h2;exact h2 ▸ h1
  ·exact fun h=>⟨j,h,(Zpi j j).2 rfl⟩
 | t::l,hl,out,st,R,hc,hx=>by
  rw[Zc2]
  obtain⟨h1,h2⟩:=hl t (by simp) st hc.ok
  obtain⟨h3,h4⟩:=ZmR h0 l (fun x hx=>hl x (by simp[hx])) _ _ _ (hc.seq h1 h2) (ZjB h0 (hx.trans h2) hc.lst)
  refine⟨h3.congr fun i j=>?_,h4⟩
  constructor
  ·rintro⟨m,g1,g2⟩
   obtain⟨m2,g3,g4⟩:=(ZkJ t l m j).1 g2
   exact⟨m2,⟨m,g1,g3⟩,g4⟩
  ·rintro⟨m2,⟨m,g1,g3⟩,g4⟩
   exact⟨m,g1,(ZkJ t l m j).2 ⟨m2,g3,g4⟩⟩
theorem ZmS{s:List Nat}{st0:Ms}(h0:MsOk st0):∀(l:List T),(∀x∈l,∀st,MsOk st→Comp s st.sets.length (mk x st).2 (mk x st).1 (x.M s)∧Ext st (mk x st).2)→∀(out:Pt)(st:Ms)(R:Re),Comp s st0.sets.length st out R→Ext st0 st→
  Comp s st0.sets.length (ZcJ l out st).2 (ZcJ l out st).1 (fun i j=>R i j∨MA s l i j)∧Ext st0 (ZcJ l out st).2
 | [],_,out,st,R,hc,hx=>by
  rw[ZcJ]
  refine⟨hc.congr fun i j=>?_,hx⟩
  rw[ZqT,or_false]
 | t::l,hl,out,st,R,hc,hx=>by
  rw[ZcJ]
  obtain⟨h1,h2⟩:=hl t (by simp) st hc.ok
  obtain⟨h3,h4⟩:=ZmS h0 l (fun x hx=>hl x (by simp[hx])) _ _ _ (hc.alt h1 h2) (hx.trans h2)
  refine⟨h3.congr fun i j=>?_,h4⟩
  rw[ZkK,or_assoc]
theorem Zsc(s:List Nat):∀(t:T),(∀x∈t.nodes,x.right=true)→∀st,MsOk st→Comp s st.sets.length (mk t st).2 (mk t st).1 (t.M s)∧Ext st (mk t st).2:=by
 intro t cB st h
 have ih:∀x∈t.subs,∀st,MsOk st→Comp s st.sets.length (mk x st).2 (mk x st).1 (x.M s)∧Ext st (mk x st).2:=fun x hx=>Zsc s x fun y hy=>cB y (by
  rw[ZaX]
  obtain⟨i,hi⟩:=List.getElem?_of_mem hx
  rw[Zcq hi];simp[hy])
 have hr:=ZdX (cB t (by rw[ZaX];simp))
 have mE:t.subs.length=1→∃x,t.subs=[x]:=fun hl=>by
  match hs:t.subs,hl with
  | [x],_=>exact⟨x,rfl⟩
 rw[ZxF]
 rcases hr with⟨hk,_⟩|⟨hk,_⟩|hk|hk|⟨hk,h1,hb⟩|⟨hk,h1⟩
 ·rw[if_neg (by omega),if_pos hk]
  refine⟨(ZlT s h true).congr fun i j=>?_,Ext.refl _⟩
  rw[M_1 hk];simp
 ·rw[if_neg (by omega),if_neg (by omega),if_pos hk]
  refine⟨(Zvn s h _).congr fun i j=>?_,ZwO _ _⟩
  rw[M_2 hk];rfl
 ·rw[if_neg (by omega),if_neg (by omega),if_neg (by omega),if_pos hk]
  obtain⟨h2,h3⟩:=ZmR h t.subs ih _ _ _ (ZlT s h true) (Ext.refl _)
  refine⟨h2.congr fun i j=>?_,h3⟩
  rw[M_3 hk]
  constructor
  ·exact fun g=>⟨i,⟨rfl,rfl⟩,g⟩
  ·rintro⟨m,⟨_,rfl⟩,g⟩;exact g
 ·rw[if_neg (by omega),if_neg (by omega),if_neg (by omega),if_neg (by omega),if_pos hk]
  obtain⟨h2,h3⟩:=ZmS h t.subs ih _ _ _ (ZlT s h false) (Ext.refl _)
  refine⟨h2.congr fun i j=>?_,h3⟩
  rw[M_4 hk];simp
 ·rw[if_neg (by omega),if_neg (by omega),if_neg (by omega),if_neg (by omega),if_neg (by omega),if_pos hk]
  obtain⟨x,hx⟩:=mE h1
  have k7:0≤t.mn∧(t.mx=-1∨(1≤t.mx∧t.mn≤t.mx)):=by
   unfold Zdx at hb
   simp only[Bool.and_eq_true,Bool.not_eq_true',Bool.or_eq_false_iff,Bool.or_eq_true,decide_eq_false_iff_not,decide_eq_true_eq,beq_iff_eq]at hb
   omega
  have hN:1≤ZnQ t.mn t.mx∧(t.mx=-1→ZnQ t.mn t.mx=max t.mn.toNat 1):=by
   unfold ZnQ
   by_cases hm:t.mx=-1
   ·rw[if_pos hm];omega
   ·rw[if_neg hm];omega
  have hf:∀st,MsOk st→Comp s st.sets.length (ZhT t.subs st).2 (ZhT t.subs st).1 (MH s t.subs)∧Ext st (ZhT t.subs st).2:=fun st cM=>by
   rw[hx,ZhT,ZfK]
   exact ih x (by rw[hx];simp) st cM
  have mF:Comp s st.sets.length st ⟨0,0,true⟩ (Lk (MH s t.subs) t.mn.toNat 0):=(ZlT s h true).congr fun i j=>by
   constructor
   ·rintro⟨n,_,h3,h4⟩
    obtain rfl:n=0:=by omega
    exact⟨rfl,h4⟩
   ·rintro⟨_,rfl⟩;exact⟨0,by omega,by omega,rfl⟩
  obtain⟨h2,h3⟩:=Zpn (f:=fun s=>ZhT t.subs s) hf k7.1 h hN.1 hN.2 (ZnQ t.mn t.mx) 0 ⟨0,0,true⟩ st (by omega) (by omega) mF (Ext.refl _)
  refine⟨h2.congr fun i j=>?_,h3⟩
  rw[M_5 hk]
  by_cases hm:t.mx=-1
  ·rw[if_pos hm]
   constructor
   ·rintro⟨n,g1,_,g3⟩;exact⟨n,g1,g3⟩
   ·rintro⟨n,g1,g3⟩;exact⟨n,g1,.inl hm,g3⟩
  ·rw[if_neg hm]
   have e:ZnQ t.mn t.mx=t.mx.toNat:=by unfold ZnQ;rw[if_neg hm]
   constructor
   ·rintro⟨n,g1,g2|g2,g3⟩
    ·exact absurd g2 hm
    ·exact⟨n,by omega,by omega,g3⟩
   ·rintro⟨n,g1,g2,g3⟩;exact⟨n,by omega,.inr (by omega),g3⟩
 ·rw[if_neg (by omega),if_neg (by omega),if_neg (by omega),if_neg (by omega),if_neg (by omega),if_neg (by omega)]
  obtain⟨x,hx⟩:=mE h1
  rw[hx,ZhT]
  obtain⟨h2,h3⟩:=ih x (by rw[hx];simp) st h
  refine⟨h2.congr fun i j=>?_,h3⟩
  rw[M_6 hk,hx,ZfK]
termination_by t=>SizeOf.sizeOf t
decreasing_by exact ZjU hx
end Go.Rx
namespace Go.Rx
open Go Go.Eng Go.RowKit
inductive Pth (st:Ms):Nat→Nat→Prop
 | refl (p:Nat):Pth st p p
 | step {p r q:Nat} (e:Est st p r) (k:Pth st r q):Pth st p q
theorem Pth.mono{st st':Ms}(h:∀p r,Est st p r→Est st' p r){p q:Nat}(k:Pth st p q):Pth st' p q:=by
 induction k with
 | refl p=>exact .refl p
 | step e _ ih=>exact .step (h _ _ e) ih
theorem Pth.trans{st:Ms}{p r q:Nat}(h:Pth st p r)(k:Pth st r q):Pth st p q:=by
 induction h with
 | refl p=>exact k
 | step e _ ih=>exact .step e (ih k)
theorem Ext.est{a b:Ms}(h:Ext a b){p r:Nat}(e:Est a p r):Est b p r:=by
 obtain⟨x,h1,h2⟩:=e
 exact⟨x,h.fol p x h1,h2⟩
theorem ZnX{st:Ms}(h:MsOk st)(a b:Nat){p r:Nat}:Est ⟨st.sets,ZbR st.fol a b⟩ p r↔Est st p r∨(p < st.sets.length∧a.testBit p=true∧b.testBit r=true):=by
 unfold Est
 simp only[ZiL]
 constructor
 ·rintro⟨x,h3,h4⟩
  obtain⟨y,hy,rfl⟩:=Option.map_eq_some_iff.1 h3
  have hp:p < st.sets.length:=by rw[←h.len];exact(List.getElem?_eq_some_iff.1 hy).1
  by_cases hl:a.testBit p=true
  ·rw[if_pos hl]at h4
   rcases Zg9 h4 with h5|h5
   ·exact .inl ⟨y,hy,h5⟩
   ·exact .inr ⟨hp,hl,h5⟩
  ·rw[if_neg hl]at h4;exact .inl ⟨y,hy,h4⟩
 ·rintro(⟨x,h3,h4⟩|⟨hp,hl,h4⟩)
  ·refine⟨_,by rw[h3];rfl,?_⟩
   split
   ·simp[Nat.testBit_or,h4]
   ·exact h4
  ·obtain⟨y,hy⟩:∃y,st.fol[p]?=some y:=⟨_,List.getElem?_eq_getElem (by rw[h.len];exact hp)⟩
   exact⟨_,by rw[hy];rfl,by simp only[if_pos hl];simp[Nat.testBit_or,h4]⟩
structure Liv (n0:Nat)(st:Ms)(P:Pt):Prop where
 ok:MsOk st
 le:n0≤st.sets.length
 fst:∀p,P.first.testBit p=true→n0≤p∧p < st.sets.length
 lst:∀p,P.last.testBit p=true→n0≤p∧p < st.sets.length
 fr:∀p,n0≤p→p < st.sets.length→∃a,P.first.testBit a=true∧Pth st a p
 to:∀p,n0≤p→p < st.sets.length→∃b,P.last.testBit b=true∧Pth st p b
def NeP(P:Pt):Prop:=P.null=true∨((∃a,P.first.testBit a=true)∧∃b,P.last.testBit b=true)
theorem Liv.nil{st:Ms}(h:MsOk st)(b:Bool):Liv st.sets.length st ⟨0,0,b⟩:=
 ⟨h,Nat.le_refl _,fun p hp=>by simp at hp,fun p hp=>by simp at hp,fun p h1 h2=>by omega,fun p h1 h2=>by omega⟩
theorem Liv.opt{n0:Nat}{st:Ms}{P:Pt}(h:Liv n0 st P)(b:Bool):Liv n0 st ⟨P.first,P.last,b⟩:=⟨h.ok,h.le,h.fst,h.lst,h.fr,h.to⟩
theorem NeP.opt{P:Pt}(h:NeP P)(b:Bool):NeP ⟨P.first,P.last,P.null||b⟩:=by
 rcases h with h|h
 ·exact .inl (by simp[h])
 ·exact .inr h
theorem Liv.loop{n0:Nat}{st:Ms}{P:Pt}(h:Liv n0 st P):Liv n0 ⟨st.sets,ZbR st.fol P.last P.first⟩ P:=by
 have hm:∀p r,Est st p r→Est ⟨st.sets,ZbR st.fol P.last P.first⟩ p r:=fun p r e=>(ZnX h.ok _ _).2 (.inl e)
 refine⟨h.ok.loop _ _ (fun p hp=>(h.fst p hp).2),h.le,h.fst,h.lst,fun p h1 h2=>?_,fun p h1 h2=>?_⟩
 ·obtain⟨a,h3,h4⟩:=h.fr p h1 h2;exact⟨a,h3,h4.mono hm⟩
 ·obtain⟨a,h3,h4⟩:=h.to p h1 h2;exact⟨a,h3,h4.mono hm⟩
theorem NeP.then{P X:Pt}(h:NeP P)(k:NeP X):NeP (ZnP P X):=by
 unfold NeP ZnP at *
 cases hp:P.null <;> cases hx:X.null <;> simp only[hp,hx,Bool.false_eq_true,if_false,if_true,false_or,or_false,true_or,Bool.and_false,Bool.and_true,Bool.false_and]at *
 ·obtain⟨⟨a,ha⟩,b,hb⟩:=h
  exact⟨⟨a,ha⟩,k.2⟩
 ·obtain⟨⟨a,ha⟩,b,hb⟩:=h
  exact⟨⟨a,ha⟩,b,by simp[Nat.testBit_or,hb]⟩
 ·obtain⟨⟨a,ha⟩,b,hb⟩:=k
  exact⟨⟨a,by simp[Nat.testBit_or,ha]⟩,b,hb⟩
theorem Liv.seq{n0:Nat}{st1 st2:Ms}{P X:Pt}(h1:Liv n0 st1 P)(h2:Liv st1.sets.length st2 X)(hx:Ext st1 st2)(hP:NeP P)(hX:NeP X):Liv n0 (Zb6 P X st2).2 (Zb6 P X st2).1:=by
 have cS:=h1.le
 have bX:=h2.le
 have bT:∀p r,Est st2 p r→Est (Zb6 P X st2).2 p r:=fun p r e=>(ZnX h2.ok _ _).2 (.inl e)
 have bJ:∀p r,Est st1 p r→Est (Zb6 P X st2).2 p r:=fun p r e=>bT p r (hx.est e)
 have hj:∀p r,P.last.testBit p=true→X.first.testBit r=true→Est (Zb6 P X st2).2 p r:=fun p r hp hr=>(ZnX h2.ok _ _).2 (.inr ⟨by have:=(h1.lst p hp).2;omega,hp,hr⟩)
 have np:∀a,P.first.testBit a=true→(Zb6 P X st2).1.first.testBit a=true:=fun a ha=>by
  show(if P.null=true then P.first|||X.first else P.first).testBit a=true
  split
  ·simp[Nat.testBit_or,ha]
  ·exact ha
 have tQ:∀a,X.last.testBit a=true→(Zb6 P X st2).1.last.testBit a=true:=fun a ha=>by
  show(if X.null=true then X.last|||P.last else X.last).testBit a=true
  split
  ·simp[Nat.testBit_or,ha]
  ·exact ha
 refine⟨h2.ok.loop _ _ (fun p hp=>(h2.fst p hp).2),Nat.le_trans cS bX,fun p hp=>?_,fun p hp=>?_,fun p hp dK=>?_,fun p hp dK=>?_⟩
 ·have hp':(if P.null=true then P.first|||X.first else P.first).testBit p=true:=hp
  show n0≤p∧p < st2.sets.length
  split at hp'
  ·rcases Zg9 hp' with h|h
   ·have:=h1.fst p h;omega
   ·have:=h2.fst p h;omega
  ·have:=h1.fst p hp';omega
 ·have hp':(if X.null=true then X.last|||P.last else X.last).testBit p=true:=hp
  show n0≤p∧p < st2.sets.length
  split at hp'
  ·rcases Zg9 hp' with h|h
   ·have:=h2.lst p h;omega
   ·have:=h1.lst p h;omega
  ·have:=h2.lst p hp';omega
 ·by_cases hs:p < st1.sets.length
  ·obtain⟨a,h3,h4⟩:=h1.fr p hp hs
   exact⟨a,np a h3,h4.mono bJ⟩
  ·obtain⟨a,h3,h4⟩:=h2.fr p (by omega) dK
   rcases hP with hn|⟨_,b,hb⟩
   ·refine⟨a,?_,h4.mono bT⟩
    show(if P.null=true then P.first|||X.first else P.first).testBit a=true
    rw[if_pos hn];simp[Nat.testBit_or,h3]
   ·obtain⟨c,h5,h6⟩:=h1.fr b (h1.lst b hb).1 (h1.lst b hb).2
    exact⟨c,np c h5,(h6.mono bJ).trans (.step (hj b a hb h3) (h4.mono bT))⟩
 ·by_cases hs:p < st1.sets.length
  ·obtain⟨b,h3,h4⟩:=h1.to p hp hs
   rcases hX with hn|⟨⟨a,ha⟩,_⟩
   ·refine⟨b,?_,h4.mono bJ⟩
    show(if X.null=true then X.last|||P.last else X.last).testBit b=true
    rw[if_pos hn];simp[Nat.testBit_or,h3]
   ·obtain⟨c,h5,h6⟩:=h2.to a (h2.fst a ha).1 (h2.fst a ha).2
    exact⟨c,tQ c h5,(h4.mono bJ).trans (.step (hj b a h3 ha) (h6.mono bT))⟩
  ·obtain⟨b,h3,h4⟩:=h2.to p (by omega) dK
   exact⟨b,tQ b h3,h4.mono bT⟩
theorem Liv.alt{n0:Nat}{st1 st2:Ms}{P X:Pt}(h1:Liv n0 st1 P)(h2:Liv st1.sets.length st2 X)(hx:Ext st1 st2):Liv n0 st2 (ZtX P X):=by
 have cS:=h1.le
 have bX:=h2.le
 refine⟨h2.ok,Nat.le_trans cS bX,fun p hp=>?_,fun p hp=>?_,fun p hp dK=>?_,fun p hp dK=>?_⟩
 ·rcases Zg9 (show(P.first|||X.first).testBit p=true from hp)with h|h
  ·have:=h1.fst p h;omega
  ·have:=h2.fst p h;omega
 ·rcases Zg9 (show(P.last|||X.last).testBit p=true from hp)with h|h
  ·have:=h1.lst p h;omega
  ·have:=h2.lst p h;omega
 ·by_cases hs:p < st1.sets.length
  ·obtain⟨a,h3,h4⟩:=h1.fr p hp hs
   exact⟨a,by show(P.first|||X.first).testBit a=true;simp[Nat.testBit_or,h3],h4.mono fun _ _ e=>hx.est e⟩
  ·obtain⟨a,h3,h4⟩:=h2.fr p (by omega) dK
   exact⟨a,by show(P.first|||X.first).testBit a=true;simp[Nat.testBit_or,h3],h4⟩
 ·by_cases hs:p < st1.sets.length
  ·obtain⟨a,h3,h4⟩:=h1.to p hp hs
   exact⟨a,by show(P.last|||X.last).testBit a=true;simp[Nat.testBit_or,h3],h4.mono fun _ _ e=>hx.est e⟩
  ·obtain⟨a,h3,h4⟩:=h2.to p (by omega) dK
   exact⟨a,by show(P.last|||X.last).testBit a=true;simp[Nat.testBit_or,h3],h4⟩
theorem NeP.alt2{P X:Pt}(h:NeP X):NeP (ZtX P X):=by
 rcases h with h|⟨⟨a,ha⟩,b,hb⟩
 ·exact .inl (by simp[ZtX,h])
 ·exact .inr ⟨⟨a,by simp[ZtX,Nat.testBit_or,ha]⟩,b,by simp[ZtX,Nat.testBit_or,hb]⟩
def Zyq(f:Ms→Pt×Ms):Prop:=∀st,MsOk st→Liv st.sets.length (f st).2 (f st).1∧NeP (f st).1∧Ext st (f st).2
theorem ZnY{f:Ms→Pt×Ms}(hf:Zyq f){mn mx:Int}{n0:Nat}{N:Nat}:
  ∀(q k:Nat)(out:Pt)(st:Ms),Liv n0 st out→NeP out→Liv n0 (Zh7 f mn mx N q k out st).2 (Zh7 f mn mx N q k out st).1∧NeP (Zh7 f mn mx N q k out st).1
 | 0,k,out,st,h,hn=>⟨h,hn⟩
 | q+1,k,out,st,h,hn=>by
  obtain⟨h1,h2,h3⟩:=hf st h.ok
  rw[Zh7]
  by_cases hl:mx=-1∧k+1=N
  ·simp only[if_pos hl]
   exact ZnY hf q (k+1) _ _ (h.seq (h1.loop.opt _) (ZjB h.ok h3 fun p hp=>(h1.lst p hp).1) hn (h2.opt _)) (hn.then (h2.opt _))
  ·simp only[if_neg hl]
   exact ZnY hf q (k+1) _ _ (h.seq (h1.opt _) h3 hn (h2.opt _)) (hn.then (h2.opt _))
theorem Zpo{n0:Nat}:∀(l:List T),(∀x∈l,Zyq (mk x))→∀(out:Pt)(st:Ms),Liv n0 st out→NeP out→Liv n0 (Zc2 l out st).2 (Zc2 l out st).1∧NeP (Zc2 l out st).1
 | [],_,out,st,h,hn=>by rw[Zc2];exact⟨h,hn⟩
 | t::l,hl,out,st,h,hn=>by
  rw[Zc2]
  obtain⟨h1,h2,h3⟩:=hl t (by simp) st h.ok
  exact Zpo l (fun x hx=>hl x (by simp[hx])) _ _ (h.seq h1 h3 hn h2) (hn.then h2)
theorem Zpp{n0:Nat}:∀(l:List T),(∀x∈l,Zyq (mk x))→∀(out:Pt)(st:Ms),Liv n0 st out→Liv n0 (ZcJ l out st).2 (ZcJ l out st).1∧(NeP out∨l≠[]→NeP (ZcJ l out st).1)
 | [],_,out,st,h=>by rw[ZcJ];exact⟨h,fun g=>g.elim id fun g=>absurd rfl g⟩
 | t::l,hl,out,st,h=>by
  rw[ZcJ]
  obtain⟨h1,h2,h3⟩:=hl t (by simp) st h.ok
  obtain⟨h4,h5⟩:=Zpp l (fun x hx=>hl x (by simp[hx])) _ _ (h.alt h1 h3)
  exact⟨h4,fun _=>h5 (.inl h2.alt2)⟩
theorem ZkO{n p:Nat}:(2 ^ n).testBit p=true↔p=n:=⟨Ztg,fun e=>by rw[e];simp[Nat.testBit_two_pow]⟩
theorem Liv.one{st:Ms}(h:MsOk st)(q:Int×Int×Int×Int):Liv st.sets.length ⟨st.sets++[q],st.fol++[0]⟩ ⟨2 ^ st.sets.length,2 ^ st.sets.length,false⟩:=by
 refine⟨(Zhb h _).ok,(Zhb h _).le,fun p hp=>?_,fun p hp=>?_,fun p hp dK=>?_,fun p hp dK=>?_⟩
 ·rw[ZkO.1 hp];exact⟨Nat.le_refl _,by simp⟩
 ·rw[ZkO.1 hp];exact⟨Nat.le_refl _,by simp⟩
 ·simp only[List.length_append,List.length_singleton]at dK
  obtain rfl:p=st.sets.length:=by omega
  exact⟨_,ZkO.2 rfl,.refl _⟩
 ·simp only[List.length_append,List.length_singleton]at dK
  obtain rfl:p=st.sets.length:=by omega
  exact⟨_,ZkO.2 rfl,.refl _⟩
theorem ZqU:∀(t:T),(∀x∈t.nodes,x.right=true)→Zyq (mk t):=by
 intro t cB st h
 have oG:=(Zsc [] t cB st h).2
 refine⟨?_,?_,oG⟩ <;> revert oG
 all_goals
  intro _
  have ih:∀x∈t.subs,Zyq (mk x):=fun x hx=>ZqU x fun y hy=>cB y (by
   rw[ZaX]
   obtain⟨i,hi⟩:=List.getElem?_of_mem hx
   rw[Zcq hi];simp[hy])
  have fD:=cB t (by rw[ZaX];simp)
  have hr:=ZdX fD
  have mE:t.subs.length=1→∃x,t.subs=[x]:=fun hl=>by
   match hs:t.subs,hl with
   | [x],_=>exact⟨x,rfl⟩
  rw[ZxF]
  rcases hr with⟨hk,_⟩|⟨hk,_⟩|hk|hk|⟨hk,h1,hb⟩|⟨hk,h1⟩
  ·rw[if_neg (by omega),if_pos hk]
   first|exact Liv.nil h true|exact .inl rfl
  ·rw[if_neg (by omega),if_neg (by omega),if_pos hk]
   first|exact Liv.one h _|exact .inr ⟨⟨_,ZkO.2 rfl⟩,_,ZkO.2 rfl⟩
  ·rw[if_neg (by omega),if_neg (by omega),if_neg (by omega),if_pos hk]
   have hh:=Zpo t.subs ih _ _ (Liv.nil h true) (.inl rfl)
   first|exact hh.1|exact hh.2
  ·rw[if_neg (by omega),if_neg (by omega),if_neg (by omega),if_neg (by omega),if_pos hk]
   have hh:=Zpp t.subs ih _ _ (Liv.nil h false)
   have dI:t.subs≠[]:=fun e=>by
    unfold T.right at fD
    rw[if_neg (by omega),if_neg (by omega),if_neg (by omega),if_pos hk,e]at fD
    simp at fD
   first|exact hh.1|exact hh.2 (.inr dI)
  ·rw[if_neg (by omega),if_neg (by omega),if_neg (by omega),if_neg (by omega),if_neg (by omega),if_pos hk]
   obtain⟨x,hx⟩:=mE h1
   have hf:Zyq (fun s=>ZhT t.subs s):=by
    rw[hx]
    intro s hs
    have:=ih x (by rw[hx];simp) s hs
    simpa only[ZhT]using this
   have hh:=ZnY hf (mn:=t.mn) (mx:=t.mx) (N:=ZnQ t.mn t.mx) (ZnQ t.mn t.mx) 0 ⟨0,0,true⟩ st (Liv.nil h true) (.inl rfl)
   first|exact hh.1|exact hh.2
  ·rw[if_neg (by omega),if_neg (by omega),if_neg (by omega),if_neg (by omega),if_neg (by omega),if_neg (by omega)]
   obtain⟨x,hx⟩:=mE h1
   have hh:=ih x (by rw[hx];simp) st h
   rw[hx,ZhT]
   first|exact hh.1|exact hh.2.1
termination_by t=>SizeOf.sizeOf t
decreasing_by all_goals exact ZjU hx
theorem ZnZ{t:T}(h:t.nfit=true){p r:Nat}(e:Est (mk t ⟨[],[]⟩).2 p r):(r:Int)∈t.auto.fromL p:=by
 obtain⟨x,h1,h2⟩:=e
 have cO:=(ZqU t (ZdD h).2.1 ⟨[],[]⟩ ⟨rfl,fun j x hj=>by simp at hj⟩).1.ok
 have hr:=cO.fol p x h1 r h2
 have hn:t.auto.sets.length≤400:=(ZiK h).n
 have hn':(mk t ⟨[],[]⟩).2.sets.length≤400:=hn
 unfold Nf.fromL
 rw[if_neg (by omega),Int.toNat_natCast,show t.auto.fol=(mk t ⟨[],[]⟩).2.fol.map Zbn from rfl,List.getElem?_map,h1]
 exact ZcU.2 ⟨r,by omega,h2,rfl⟩
theorem Zvo{t:T}(h:t.nfit=true){p:Nat}{r:Int}(e:r∈t.auto.fromL p):∃k:Nat,r=k∧Est (mk t ⟨[],[]⟩).2 p k:=by
 unfold Nf.fromL at e
 rw[if_neg (by omega),Int.toNat_natCast,show t.auto.fol=(mk t ⟨[],[]⟩).2.fol.map Zbn from rfl,List.getElem?_map]at e
 cases hx:(mk t ⟨[],[]⟩).2.fol[p]? with
 | none=>rw[hx]at e;simp at e
 | some x=>
  rw[hx]at e
  obtain⟨i,_,h2,h3⟩:=ZcU.1 (show r∈Zbn x from e)
  exact⟨i,h3,x,hx,h2⟩
theorem ZmT{A:Nf}{p q:Nat}(h:A.Reach p)(hq:(q:Int)∈A.fromL p):A.Reach q:=by
 unfold Nf.fromL at hq
 rw[if_neg (by omega),Int.toNat_natCast]at hq
 cases hl:A.fol[p]? with
 | none=>rw[hl]at hq;simp at hq
 | some l=>rw[hl]at hq;exact .fol h hl hq
theorem Ztm{t:T}(h:t.nfit=true)(i:Nat):t.auto.Reach i∧t.auto.turn.Reach i↔i < t.auto.sets.length:=by
 have hA:=ZiK h
 have hl:=(ZqU t (ZdD h).2.1 ⟨[],[]⟩ ⟨rfl,fun j x hj=>by simp at hj⟩).1
 have hn:t.auto.sets.length≤400:=hA.n
 have hn':(mk t ⟨[],[]⟩).2.sets.length≤400:=hn
 constructor
 ·rintro⟨h1,_⟩
  cases h1 with
  | first hp=>
   have:=(hA.first.2 _ hp).2
   unfold Nf.top at this;omega
  | fol _ hl hq=>
   have:=((hA.fol _ (List.mem_of_getElem? hl)).2 _ hq).2
   unfold Nf.top at this;omega
 ·intro hi
  constructor
  ·obtain⟨a,h1,h2⟩:=hl.fr i (Nat.zero_le _) hi
   have ha:t.auto.Reach a:=.first (ZcU.2 ⟨a,by have:=(hl.fst a h1).2;omega,h1,rfl⟩)
   clear h1
   induction h2 with
   | refl p=>exact ha
   | step e _ ih=>exact ih hi (ZmT ha (ZnZ h e))
  ·obtain⟨b,h1,h2⟩:=hl.to i (Nat.zero_le _) hi
   have hb:t.auto.turn.Reach b:=.first (show(b:Int)∈t.auto.last from ZcU.2 ⟨b,by have:=(hl.lst b h1).2;omega,h1,rfl⟩)
   clear h1 hi
   induction h2 with
   | refl p=>exact hb
   | step e _ ih=>exact ZmT (ih hb) ((Ztl hA (by omega) (by omega)).2 (ZnZ h e))
end Go.Rx
namespace Go.Rx
open Go Go.Eng Go.RowKit
set_option maxRecDepth 100000
end Go.Rx
namespace Go.Rx
open Go Go.Eng Go.RowKit
set_option maxRecDepth 100000
theorem ZmU:∀(l l':List Nat),l.Pairwise (· < ·)→l'.Pairwise (· < ·)→(∀x,x∈l↔x∈l')→l=l'
 | [],[],_,_,_=>rfl
 | [],y::l',_,_,h=>by have:=(h y).2 (by simp);simp at this
 | x::l,[],_,_,h=>by have:=(h x).1 (by simp);simp at this
 | x::l,y::l',h1,h2,h=>by
  rw[List.pairwise_cons]at h1 h2
  have vh:x=y:=by
   have a:=(h x).1 (by simp)
   have b:=(h y).2 (by simp)
   rcases List.mem_cons.1 a with a|a
   ·exact a
   ·rcases List.mem_cons.1 b with b|b
    ·exact b.symm
    ·have:=h1.1 y b;have:=h2.1 x a;omega
  subst vh
  rw[ZmU l l' h1.2 h2.2 fun z=>?_]
  constructor
  ·intro hz
   have:=(h z).1 (by simp[hz])
   rcases List.mem_cons.1 this with e|e
   ·have:=h1.1 z hz;omega
   ·exact e
  ·intro hz
   have:=(h z).2 (by simp[hz])
   rcases List.mem_cons.1 this with e|e
   ·have:=h2.1 z hz;omega
   ·exact e
theorem Zvp{f x:Nat}:x∈ZeM f↔x < 513∧f.testBit x=true:=by
 unfold ZeM;simp
def ZwR(t:T)(s:List Nat)(j:Nat):List Nat:=ZeM (t.lead s true (2 ^ j))
theorem Zsd{t:T}(hg:t.good=true){s:List Nat}(hs:s.length≤512){i j:Nat}(hj:j≤s.length):i∈ZwR t s j↔t.M s i j:=by
 unfold ZwR
 rw[Zvp,Zvm hg hs (by omega)]
 constructor
 ·exact fun h=>h.2
 ·intro h;have:=Zzb hg h;exact⟨by omega,h⟩
def ZxH(F n:Nat)(u:List Nat):List Nat:=(u.filter fun k:Nat=>decide ((k:Int) - F≤n)).map fun k=>k - F
end Go.Rx
namespace Go.Rx
open Go Go.Eng Go.RowKit
theorem Vw.lt{E H:Nat→Nat→Prop}{p i q j:Nat}(h:Vw E H p i q j):i < j:=by
 induction h with
 | one _=>omega
 | step _ _ _ ih=>omega
theorem Zut{E H:Nat→Nat→Prop}{p i q k:Nat}:Vw E H p i q (k+1)↔(∃r,Vw E H p i r k∧E r q∧H q k)∨(i=k∧p=q∧H p k):=by
 constructor
 ·intro h
  generalize hj:k+1=j at h
  induction h with
  | @one p i h=>
   obtain rfl:k=i:=by omega
   exact .inr ⟨rfl,rfl,h⟩
  | @step p i r q j h e v ih=>
   rcases ih hj with⟨r2,h1,h2,h3⟩|⟨rfl,rfl,h2⟩
   ·exact .inl ⟨r2,.step h e h1,h2,h3⟩
   ·exact .inl ⟨p,.one h,e,h2⟩
 ·rintro(⟨r,h1,h2,h3⟩|⟨rfl,rfl,h⟩)
  ·exact h1.trans h2 (.one h3)
  ·exact .one h
def Nf.behind(A:Nf)(s:List Nat)(again:Bool)(k:Nat):List Int:=(s.take k).foldl (A.next again) [-1]
theorem ZkP(A:Nf)(s:List Nat)(again:Bool){k c:Nat}(h:s[k]?=some c):A.behind s again (k+1)=A.next again (A.behind s again k) c:=by
 unfold Nf.behind
 rw[List.take_add_one,h,Option.toList_some,List.foldl_append]
 rfl
theorem Zvq{A:Nf}(hA:A.Ok){again:Bool}{l:List Int}{c:Nat}{x:Int}:x∈A.next again l c↔(again=true∧x=-1)∨(0≤x∧(∃p∈l,x∈A.fromL p)∧A.hasAt x c=true):=by
 unfold Nf.next
 cases again
 ·simp only[Bool.false_eq_true,if_false,false_and,false_or];exact ZlP hA
 ·simp only[if_true,List.mem_cons,true_and,ZlP hA]
theorem ZjC{t:T}(h:t.nfit=true){s:List Nat}{again:Bool}:∀(k:Nat),k≤s.length→∀x:Int,x∈t.auto.behind s again k↔(x=-1∧(k=0∨again=true))∨∃(p q i:Nat),x=q∧(again=true∨i=0)∧(mk t ⟨[],[]⟩).1.first.testBit p=true∧Vw (Est (mk t ⟨[],[]⟩).2) (Hst s (mk t ⟨[],[]⟩).2) p i q k:=by
 have hA:=ZiK h
 have hl:=(ZqU t (ZdD h).2.1 ⟨[],[]⟩ ⟨rfl,fun j x hj=>by simp at hj⟩).1
 have hn:t.auto.sets.length≤400:=hA.n
 have hn':(mk t ⟨[],[]⟩).2.sets.length≤400:=hn
 have kZ:t.auto.sets=(mk t ⟨[],[]⟩).2.sets:=rfl
 intro k
 induction k with
 | zero=>
  intro _ x
  unfold Nf.behind
  simp only[List.take_zero,List.foldl_nil,List.mem_singleton,true_or,and_true]
  exact⟨.inl,fun g=>g.elim id fun⟨p,q,i,_,_,_,hv⟩=>absurd hv.lt (by omega)⟩
 | succ k ih=>
  intro hk x
  obtain⟨c,hc⟩:∃c,s[k]?=some c:=⟨_,List.getElem?_eq_getElem (by omega)⟩
  rw[ZkP _ _ _ hc,Zvq hA]
  have hH:∀q:Nat,q < t.auto.sets.length→(t.auto.hasAt q c=true↔Hst s (mk t ⟨[],[]⟩).2 q k):=fun q hq=>by
   obtain⟨u,hu⟩:∃u,t.auto.sets[q]?=some u:=⟨_,List.getElem?_eq_getElem hq⟩
   unfold Nf.hasAt Hst
   rw[Int.toNat_natCast,hu]
   constructor
   ·intro g;exact⟨u,c,hu,hc,g⟩
   ·rintro⟨u',c',h1,h2,h3⟩
    rw[←kZ,hu]at h1;rw[hc]at h2
    cases h1;cases h2;exact h3
  have dM:∀y:Int,y∈t.auto.fromL (-1)↔∃q:Nat,y=q∧(mk t ⟨[],[]⟩).1.first.testBit q=true:=fun y=>by
   rw[Zpm]
   show y∈Zbn _↔_
   rw[ZcU]
   constructor
   ·rintro⟨i,_,h1,h2⟩;exact⟨i,h2,h1⟩
   ·rintro⟨i,h2,h1⟩;exact⟨i,by have:=(hl.fst i h1).2;omega,h1,h2⟩
  have hk':k≤s.length:=by omega
  constructor
  ·rintro(⟨h1,h2⟩|⟨h0,⟨p,hp,hx⟩,gl⟩)
   ·exact .inl ⟨h2,.inr h1⟩
   ·right
    rcases(ih hk' p).1 hp with⟨rfl,h2⟩|⟨f,q,i,rfl,h3,h4,h5⟩
    ·obtain⟨q,rfl,hq⟩:=(dM x).1 hx
     have hw:=(hH q (hl.fst q hq).2).1 gl
     exact⟨q,q,k,rfl,h2.symm,hq,.one hw⟩
    ·obtain⟨r,rfl,he⟩:=Zvo h hx
     have hw:=(hH r (ZiM hl.ok he).2).1 gl
     exact⟨f,r,i,rfl,h3,h4,Zut.2 (.inl ⟨q,h5,he,hw⟩)⟩
  ·rintro(⟨rfl,h1|h1⟩|⟨p,q,i,rfl,h2,h3,h4⟩)
   ·omega
   ·exact .inl ⟨h1,rfl⟩
   ·right
    rcases Zut.1 h4 with⟨r,h5,h6,h7⟩|⟨rfl,rfl,h7⟩
    ·exact⟨by omega,⟨r,(ih hk' r).2 (.inr ⟨p,r,i,rfl,h2,h3,h5⟩),ZnZ h h6⟩,(hH q (ZiM hl.ok h6).2).2 h7⟩
    ·exact⟨by omega,⟨-1,(ih hk' (-1)).2 (.inl ⟨rfl,h2.symm⟩),(dM _).2 ⟨p,rfl,h3⟩⟩,(hH p (hl.fst p h3).2).2 h7⟩
theorem ZmV{t:T}(h:t.nfit=true){s:List Nat}{again:Bool}{k:Nat}(hk:k≤s.length):t.auto.accepts (t.auto.behind s again k)=true↔∃i,i≤k∧(again=true∨i=0)∧t.M s i k:=by
 have hA:=ZiK h
 have hl:=(ZqU t (ZdD h).2.1 ⟨[],[]⟩ ⟨rfl,fun j x hj=>by simp at hj⟩).1
 have hc:=(Zsc s t (ZdD h).2.1 ⟨[],[]⟩ ⟨rfl,fun j x hj=>by simp at hj⟩).1
 have hn:t.auto.sets.length≤400:=hA.n
 have hn':(mk t ⟨[],[]⟩).2.sets.length≤400:=hn
 unfold Nf.accepts
 rw[List.any_eq_true]
 constructor
 ·rintro⟨x,hx,ha⟩
  rcases(ZjC h k hk x).1 hx with⟨rfl,h2⟩|⟨p,q,i,rfl,h3,h4,h5⟩
  ·have ha':t.auto.empty=true:=by simpa[Nf.acc1]using ha
   refine⟨k,Nat.le_refl _,h2.symm,(hc.lang k k).2 (.inl ⟨ha',rfl⟩)⟩
  ·rw[Zsb hA (by omega)]at ha
   obtain⟨j,_,h6,h7⟩:=ZcU.1 (show(q:Int)∈Zbn (mk t ⟨[],[]⟩).1.last from ha)
   obtain rfl:q=j:=by omega
   exact⟨i,by have:=h5.lt;omega,h3,(hc.lang i k).2 (.inr ⟨p,q,h4,h6,h5⟩)⟩
 ·rintro⟨i,hi,h1,h2⟩
  rcases(hc.lang i k).1 h2 with⟨h3,rfl⟩|⟨p,q,h3,h4,h5⟩
  ·exact⟨-1,(ZjC h i hk _).2 (.inl ⟨rfl,h1.symm⟩),by unfold Nf.acc1;rw[if_pos rfl];exact h3⟩
  ·exact⟨q,(ZjC h k hk _).2 (.inr ⟨p,q,i,rfl,h1,h3,h5⟩),(Zsb hA (by omega)).2 (ZcU.2 ⟨q,by have:=(hl.lst q h4).2;omega,h4,rfl⟩)⟩
theorem Znv{t:T}(h:t.nfit=true)(s:List Nat):t.auto.matches s=true↔t.M s 0 s.length:=by
 have e:t.auto.run s [-1]=t.auto.behind s false s.length:=by
  unfold Nf.run Nf.behind
  rw[List.take_length]
  rfl
 unfold Nf.matches
 rw[e,ZmV h (Nat.le_refl _)]
 constructor
 ·rintro⟨i,_,h1|rfl,h2⟩
  ·cases h1
  ·exact h2
 ·exact fun h=>⟨0,Nat.zero_le _,.inr rfl,h⟩
theorem ZkQ(A:Nf)(s:List Nat):∀(b:List Nat)(k:Nat)(out:List Int),s.drop k=b→A.runL true (fun s n l=>if A.accepts l then s++[(n:Int)]else s) b k (A.behind s true k) out=out++(((List.range b.length).map (· + (k+1))).filter fun j=>A.accepts (A.behind s true j)).map fun j:Nat=>(j:Int)
 | [],k,out,_=>by simp[Nf.runL]
 | c::b,k,out,hd=>by
  have hc:s[k]?=some c:=by
   have:=congrArg List.head? hd
   rwa [List.head?_drop,List.head?_cons]at this
  have hd':s.drop (k+1)=b:=by rw[←List.tail_drop,hd,List.tail_cons]
  rw[Nf.runL,←ZkP _ _ _ hc,ZkQ A s b (k+1) _ hd']
  rw[List.length_cons,List.range_succ_eq_map,List.map_cons,List.map_map,List.filter_cons,Nat.zero_add]
  rw[show((fun x=>x+(k+1))∘Nat.succ)=(fun x=>x+(k+1+1)) from funext fun x=>by simp only[Function.comp];omega]
  cases A.accepts (A.behind s true (k+1)) <;> simp
theorem Zpq{t:T}(h:t.nfit=true)(s:List Nat)(p:Nat→Bool)(hp:∀k,k≤s.length→(p k=true↔∃i,i≤k∧t.M s i k)):t.auto.search s=((List.range (s.length+1)).filter p).map fun j:Nat=>(j:Int):=by
 have h1:=ZkQ t.auto s s 0 (if t.auto.accepts [-1]then[0]else[]) rfl
 have hb:t.auto.behind s true 0=[-1]:=rfl
 rw[hb]at h1
 unfold Nf.search
 rw[h1]
 have e:((List.range (s.length+1)).filter p)=(List.range (s.length+1)).filter fun j=>t.auto.accepts (t.auto.behind s true j):=by
  apply List.filter_congr
  intro k hk
  rw[List.mem_range]at hk
  rw[Bool.eq_iff_iff,hp k (by omega),ZmV h (by omega)]
  simp
 rw[e,List.range_succ_eq_map,List.filter_cons,hb]
 rw[show(List.range s.length).map Nat.succ=(List.range s.length).map (· + (0+1)) from rfl]
 cases t.auto.accepts [-1] <;> simp
end Go.Rx

