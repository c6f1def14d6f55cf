/- Trees of regexes, what they mean, and CA they lie in memory; plain, no program is named. No condition. -/
import Derived.Test.YtgclajkldphoaaaMc
set_option linter.unusedVariables false
set_option linter.unusedSimpArgs false
set_option linter.unusedSectionVars false
namespace Go.Rx
open Go Go.Eng
inductive T where
 | node (k s0 s1 s2 s3 mn mx:Int) (a:Option Addr) (c:Nat) (subs:List T)
def T.k:T->Int
 | .node k _ _ _ _ _ _ _ _ _=>k
def T.s0:T->Int
 | .node _ s _ _ _ _ _ _ _ _=>s
def T.s1:T->Int
 | .node _ _ s _ _ _ _ _ _ _=>s
def T.s2:T->Int
 | .node _ _ _ s _ _ _ _ _ _=>s
def T.s3:T->Int
 | .node _ _ _ _ s _ _ _ _ _=>s
def T.mn:T->Int
 | .node _ _ _ _ _ x _ _ _ _=>x
def T.mx:T->Int
 | .node _ _ _ _ _ _ x _ _ _=>x
def T.a:T->Option Addr
 | .node _ _ _ _ _ _ _ a _ _=>a
def T.c:T->Nat
 | .node _ _ _ _ _ _ _ _ c _=>c
def T.subs:T->List T
 | .node _ _ _ _ _ _ _ _ _ l=>l
def T.sl(t:T):Value:=.slice t.a t.subs.length t.c
def T.cs(t:T):List Value:=[.int .u8 t.k,.int .u64 t.s0,.int .u64 t.s1,.int .u64 t.s2,.int .u64 t.s3,.int .i64 t.mn,.int .i64 t.mx,t.sl]
def T.v(t:T):Value:=.agg #[.int .u8 t.k,.int .u64 t.s0,.int .u64 t.s1,.int .u64 t.s2,.int .u64 t.s3,.int .i64 t.mn,.int .i64 t.mx,.slice t.a t.subs.length t.c]
structure OkN (k s0 s1 s2 s3 mn mx:Int):Prop where
 k:0<=k/\k < 256
 s0:0<=s0/\s0 < 18446744073709551616
 s1:0<=s1/\s1 < 18446744073709551616
 s2:0<=s2/\s2 < 18446744073709551616
 s3:0<=s3/\s3 < 18446744073709551616
 mn : -9223372036854775808<=mn/\mn<=9223372036854775807
 mx : -9223372036854775808<=mx/\mx<=9223372036854775807
mutual
def Rep(m:Mem):T->Prop
 | .node k s0 s1 s2 s3 mn mx a _ l=>l.length<=1000000000000000/\(l=[]\/∃b o,a=some ⟨b,o,none⟩/\RepAt m b o l)/\OkN k s0 s1 s2 s3 mn mx
def RepAt(m:Mem)(b:Nat):Nat->List T->Prop
 | _,[]=>True
 | o,t::l=>m.reads b o t.cs/\Rep m t/\RepAt m b (o+8) l
end
theorem ZdM{m:Mem}{t:T}:Rep m t->(t.subs.length<=1000000000000000/\(t.subs=[]\/∃b o,t.a=some ⟨b,o,none⟩/\RepAt m b o t.subs)):=by
 cases t;simp only[Rep,T.subs,T.a];exact λh=>⟨h.1,h.2.1⟩
theorem Zvz{m:Mem}{t:T}:Rep m t->OkN t.k t.s0 t.s1 t.s2 t.s3 t.mn t.mx:=by
 cases t;simp only[Rep];exact λh=>h.2.2
theorem Zy6{m:Mem}{t:T}(h1:t.subs.length<=1000000000000000)(h2:t.subs=[]\/∃b o,t.a=some ⟨b,o,none⟩/\RepAt m b o t.subs)(h3:OkN t.k t.s0 t.s1 t.s2 t.s3 t.mn t.mx):Rep m t:=by
 cases t;simp only[Rep];exact⟨h1,h2,h3⟩
mutual
theorem Rep.mono{m m':Mem}(h:m.le m'):∀t:T,Rep m t->Rep m' t
 | .node _ _ _ _ _ _ _ a _ l,hr=>by
  simp only[Rep]at *
  refine⟨hr.1,?_,hr.2.2⟩
  rcases hr.2.1 with hr|⟨b,o,h1,h2⟩
  ·exact .inl hr
  ·exact .inr ⟨b,o,h1,RepAt.mono h b o l h2⟩
theorem RepAt.mono{m m':Mem}(h:m.le m')(b:Nat):∀(o:Nat)(l:List T),RepAt m b o l->RepAt m' b o l
 | _,[],_=>by simp only[RepAt]
 | o,t::l,hr=>by
  simp only[RepAt]at *
  exact⟨hr.1.mono h,Rep.mono h t hr.2.1,RepAt.mono h b (o+8) l hr.2.2⟩
end
theorem RepAt.get{m:Mem}{b:Nat}:∀{o:Nat} {l:List T} {i:Nat} {t:T},RepAt m b o l->l[i]?=some t->m.reads b (o+i*8) t.cs/\Rep m t
 | o,[],i,t,_,hi=>by simp at hi
 | o,x::l,0,t,h,hi=>by
  simp only[RepAt]at h
  simp at hi;subst hi
  exact⟨by simpa using h.1,h.2.1⟩
 | o,x::l,i+1,t,h,hi=>by
  simp only[RepAt]at h
  have:=h.2.2.get (i:=i) (by simpa using hi)
  rw[show o+(i+1)*8=o+8+i*8 by omega]
  exact this
mutual
def T.nodes:T->List T
 | .node k s0 s1 s2 s3 mn mx a c l=>.node k s0 s1 s2 s3 mn mx a c l::Zak l
def Zak:List T->List T
 | []=>[]
 | t::l=>t.nodes++Zak l
end
theorem Zbk(t:T):t.nodes=t::Zak t.subs:=by cases t;simp only[T.nodes,T.subs]
theorem Zc0(l r:List T):Zak (l++r)=Zak l++Zak r:=by
 induction l with
 | nil=>simp[Zak]
 | cons t l ih=>simp[Zak,ih,List.append_assoc]
theorem ZhG{l:List T}{i:Nat}{t:T}(h:l[i]?=some t):Zak (l.take (i+1))=Zak (l.take i)++t.nodes:=by
 have:l.take (i+1)=l.take i++[t]:=by
  rw[List.take_add_one,h];rfl
 rw[this,Zc0];simp[Zak]
theorem Zew{l:List T}{i:Nat}{t:T}(h:l[i]?=some t):Zak l=Zak (l.take i)++(t.nodes++Zak (l.drop (i+1))):=by
 have bF:=(List.getElem?_eq_some_iff.1 h).1
 have e:l=l.take i++(t::l.drop (i+1)):=by
  have:=List.drop_eq_getElem_cons bF
  rw[(List.getElem?_eq_some_iff.1 h).2]at this
  rw[<-this,List.take_append_drop]
 conv=>lhs;rw[e,Zc0]
 simp[Zak]
theorem ZvA{t x z:T}{i q:Nat}(hx:t.subs[i]?=some x)(hz:x.nodes[q]?=some z):t.nodes[1+(Zak (t.subs.take i)).length+q]?=some z:=by
 have hq:=(List.getElem?_eq_some_iff.1 hz).1
 rw[Zbk,show 1+(Zak (t.subs.take i)).length+q=((Zak (t.subs.take i)).length+q)+1 by omega,List.getElem?_cons_succ,Zew hx,List.getElem?_append_right (by omega),List.getElem?_append_left (by omega),show(Zak (List.take i t.subs)).length+q - (Zak (List.take i t.subs)).length=q by omega]
 exact hz
theorem ZoP{t x:T}(h:x∈t.subs):SizeOf.sizeOf x < SizeOf.sizeOf t:=by
 cases t with
 | node k s0 s1 s2 s3 mn mx a c l=>
  have h':x∈l:=h
  have:=List.sizeOf_lt_of_mem h'
  simp only[T.node.sizeOf_spec]
  omega
theorem ZqO(t:T):Shape.fitsL [.agg [.int .u8,.int .u64,.int .u64,.int .u64,.int .u64,.int .i64,.int .i64,.slice]] [t.v]=true:=by
 simp[Shape.fitsL,Shape.fits,T.v]
mutual
theorem ZrL{m:Mem}:∀(t:T),Rep m t->∀x∈t.nodes,Rep m x
 | .node k s0 s1 s2 s3 mn mx a c l,hr,x,hx=>by
  simp only[T.nodes,List.mem_cons]at hx
  rcases hx with rfl|hx
  ·exact hr
  ·simp only[Rep]at hr
   rcases hr.2.1 with h|⟨b,o,_,h⟩
   ·subst h;simp[Zak]at hx
   ·exact ZoQ b o l h x hx
theorem ZoQ{m:Mem}(b:Nat):∀(o:Nat)(l:List T),RepAt m b o l->∀x∈Zak l,Rep m x
 | _,[],_,x,hx=>by simp[Zak]at hx
 | o,t::l,hr,x,hx=>by
  simp only[RepAt]at hr
  simp only[Zak,List.mem_append]at hx
  rcases hx with hx|hx
  ·exact ZrL t hr.2.1 x hx
  ·exact ZoQ b (o+8) l hr.2.2 x hx
end
theorem Ztx{m:Mem}{t x:T}(h:Rep m t)(hx:x∈t.nodes):Rep m x:=ZrL t h x hx
def Zis(least most:Int):Bool:=!(decide (least < 0)||decide (least > 16)||(least == 1&&most == 1))&&(most == -1||(decide (most ≥ 1)&&decide (most<=16)&&decide (most ≥ least)))
def T.has(t:T)(k:Int):Bool:=t.subs.any λx=>x.k == k
def T.light(t:T):Bool:=decide (t.nodes.length<=10000)
def T.setZ(t:T):Bool:=t.s0 == 0&&t.s1 == 0&&t.s2 == 0&&t.s3 == 0
def T.right(t:T):Bool:=
 !(t.k != 2&&!t.setZ||(t.k != 5&&(t.mn != 0||t.mx != 0)||(decide (t.k < 3)&&decide (0 < t.subs.length)))) &&
 (if t.k=1 then true else if t.k=2 then !t.setZ else if t.k=3 then decide (1 < t.subs.length)&&(!t.has 1&&!t.has 3)else if t.k=4 then decide (1 < t.subs.length)&&!t.has 4
  else if t.k=5 then t.subs.length == 1&&(Zis t.mn t.mx&&!t.has 1)else t.k == 6&&t.subs.length == 1)
def T.clean(t:T):Bool:=t.light&&t.nodes.all T.right
def T.size(t:T):Int:=if t.light then t.nodes.length else 10001
def T.groups(t:T):Int:=if t.light then(t.nodes.countP λx=>x.k == 6:Nat)else 10001
def Zp4(x y:Int):Int:=if y > x then y else x
def ZqP(x y:Int):Int:=if y < x then y else x
def Zut(k mn mx sum:Int):Int:=ZqP (if k=5 then sum*ZqP (if mx=-1 then Zp4 (Zp4 mn 0) 1 else Zp4 (Zp4 mn 0) mx) 10001 else sum) 10001
mutual
def T.pos:T->Int
 | .node k _ _ _ _ mn mx _ _ l=>Zut k mn mx ((if k=2 then 1 else 0)+ZeS l)
def ZeS:List T->Int
 | []=>0
 | t::l=>t.pos+ZeS l
end
def T.positions(t:T):Int:=if t.light then t.pos else 10001
def T.check(t:T):Int:=if t.clean=false then 80 else if t.size > 120 then 81 else if t.positions > 400 then 82 else if t.groups > 9 then 83 else 0
mutual
def T.same:T->T->Bool
 | .node k s0 s1 s2 s3 mn mx _ _ l,.node k' s0' s1' s2' s3' mn' mx' _ _ l'=>k == k'&&((s0 == s0'&&s1 == s1'&&s2 == s2'&&s3 == s3')&&(mn == mn'&&(mx == mx'&&Zh6 l l')))
def Zh6:List T->List T->Bool
 | [],[]=>true
 | t::l,t'::l'=>t.same t'&&Zh6 l l'
 | _,_=>false
end
theorem Zxg(t u:T):t.same u=(t.k == u.k&&((t.s0 == u.s0&&t.s1 == u.s1&&t.s2 == u.s2&&t.s3 == u.s3)&&(t.mn == u.mn&&(t.mx == u.mx&&Zh6 t.subs u.subs)))):=by
 cases t;cases u;simp only[T.same,T.k,T.s0,T.s1,T.s2,T.s3,T.mn,T.mx,T.subs]
theorem ZoR:∀{l r:List T},¬l.length=r.length->Zh6 l r=false
 | [],[],h=>by simp at h
 | [],_::_,_=>by simp[Zh6]
 | _::_,[],_=>by simp[Zh6]
 | x::l,y::r,h=>by
  simp only[Zh6,ZoR (l:=l) (r:=r) (by simpa using h),Bool.and_false]
theorem ZrM:∀{l r:List T} {i:Nat} {x y:T},l[i]?=some x->r[i]?=some y->x.same y=false->Zh6 l r=false
 | [],r,i,x,y,h,_,_=>by simp at h
 | _::_,[],i,x,y,_,h,_=>by simp at h
 | a::l,b::r,0,x,y,h,k,e=>by
  simp at h k;subst h k
  simp[Zh6,e]
 | a::l,b::r,i+1,x,y,h,k,e=>by
  simp only[Zh6,ZrM (l:=l) (r:=r) (i:=i) (by simpa using h) (by simpa using k) e,Bool.and_false]
theorem Zmr:∀{l r:List T} {i:Nat} {x y:T},l[i]?=some x->r[i]?=some y->Zh6 (l.take i) (r.take i)=true->x.same y=true->True->Zh6 (l.take (i+1)) (r.take (i+1))=true
 | [],r,i,x,y,h,_,_,_,_=>by simp at h
 | _::_,[],i,x,y,_,h,_,_,_=>by simp at h
 | a::l,b::r,0,x,y,h,k,_,e,_=>by
  simp at h k;subst h k
  simp[Zh6,e]
 | a::l,b::r,i+1,x,y,h,k,hs,e,_=>by
  simp only[List.take_succ_cons,Zh6,Bool.and_eq_true]at hs ⊢
  exact⟨hs.1,Zmr (by simpa using h) (by simpa using k) hs.2 e trivial⟩
theorem ZoS(t:T):t.pos=Zut t.k t.mn t.mx ((if t.k=2 then 1 else 0)+ZeS t.subs):=by
 cases t;simp only[T.pos,T.k,T.mn,T.mx,T.subs];congr 1
theorem Zbn(l r:List T):ZeS (l++r)=ZeS l+ZeS r:=by
 induction l with
 | nil=>simp[ZeS]
 | cons t l ih=>simp[ZeS,ih,Int.add_assoc]
theorem Zty{l:List T}{i:Nat}{t:T}(h:l[i]?=some t):ZeS (l.take (i+1))=ZeS (l.take i)+t.pos:=by
 have:l.take (i+1)=l.take i++[t]:=by
  rw[List.take_add_one,h];rfl
 rw[this,Zbn];simp[ZeS]
theorem ZrN(x y:Int):x<=Zp4 x y/\y<=Zp4 x y:=by unfold Zp4;split <;> omega
theorem Zms(x y:Int):ZqP x y<=x/\ZqP x y<=y:=by unfold ZqP;split <;> omega
theorem Zuu{x y:Int}(h:0<=x)(k:0<=y):0<=ZqP x y:=by unfold ZqP;split <;> omega
def ZvB(mn mx:Int):Int:=ZqP (if mx=-1 then Zp4 (Zp4 mn 0) 1 else Zp4 (Zp4 mn 0) mx) 10001
theorem Zuv(mn mx:Int):0<=ZvB mn mx/\ZvB mn mx<=10001:=by
 unfold ZvB
 refine⟨Zuu ?_ (by omega),(Zms _ _).2⟩
 have h1:=ZrN mn 0
 split
 ·have:=ZrN (Zp4 mn 0) 1;omega
 ·have:=ZrN (Zp4 mn 0) mx;omega
theorem Zxh{k mn mx sum:Int}(h:0<=sum):0<=Zut k mn mx sum/\Zut k mn mx sum<=10001:=by
 have h2:=Int.mul_nonneg h (Zuv mn mx).1
 unfold Zut
 refine⟨Zuu ?_ (by omega),(Zms _ _).2⟩
 split
 ·exact h2
 ·exact h
mutual
theorem Zit:∀t:T,0<=t.pos/\t.pos<=10001
 | .node k _ _ _ _ mn mx _ _ l=>by
  simp only[T.pos]
  have:=ZhH l
  exact Zxh (by split <;> omega)
theorem ZhH:∀l:List T,0<=ZeS l
 | []=>by simp[ZeS]
 | t::l=>by
  simp only[ZeS]
  have:=Zit t
  have:=ZhH l
  omega
end
theorem Zuw:∀l:List T,ZeS l<=10001*l.length
 | []=>by simp[ZeS]
 | t::l=>by
  simp only[ZeS,List.length_cons]
  have:=Zit t
  have:=Zuw l
  omega
theorem Zux(t:T):t.subs.length < t.nodes.length:=by
 rw[Zbk,List.length_cons]
 have:∀l:List T,l.length<=(Zak l).length:=by
  intro l
  induction l with
  | nil=>simp[Zak]
  | cons x l ih=>simp only[Zak,List.length_cons,List.length_append];rw[Zbk];simp;omega
 have:=this t.subs
 omega
theorem Ztz{t x:T}(h:x∈t.subs):x.nodes.length < t.nodes.length:=by
 obtain⟨i,hi⟩:=List.getElem?_of_mem h
 rw[Zbk t,List.length_cons,Zew hi]
 simp;omega
def T.hasB(t:T)(c:Nat):Bool:=((if c / 64=0 then t.s0 else if c / 64=1 then t.s1 else if c / 64=2 then t.s2 else t.s3).toNat).testBit (c % 64)
end Go.Rx
namespace Go.Rx
open Go Go.Eng Go.RowKit
def wdN(f j:Nat):Nat:=(f >>> (64*j)) % 2 ^ 64
theorem ZvC(f j:Nat):wdN f j < 18446744073709551616:=by
 unfold wdN
 exact Nat.mod_lt _ (by decide)
theorem ZoT(f j k:Nat):(wdN f j).testBit k=(decide (k < 64)&&f.testBit (64*j+k)):=by
 unfold wdN
 rw[Nat.testBit_mod_two_pow,Nat.testBit_shiftRight]
theorem Zy7(f g j:Nat):wdN (f|||g) j=wdN f j|||wdN g j:=by
 apply Nat.eq_of_testBit_eq
 intro k
 simp only[ZoT,Nat.testBit_or]
 cases decide (k < 64) <;> simp
theorem Zxi{q r j:Nat}(hr:r < 64):wdN (2 ^ (64*q+r)) j=if j=q then 2 ^ r else 0:=by
 apply Nat.eq_of_testBit_eq
 intro k
 rw[ZoT,Nat.testBit_two_pow]
 by_cases hj:j=q
 ·subst hj
  rw[if_pos rfl,Nat.testBit_two_pow]
  by_cases hk:k < 64
  ·simp[hk]
  ·have:¬r=k:=by omega
   simp[hk,this]
 ·rw[if_neg hj]
  simp only[Nat.zero_testBit,Bool.and_eq_false_iff,decide_eq_false_iff_not]
  omega
theorem Zuy(n:Nat)(h:n < 18446744073709551616):IntKind.u64.wrap (n:Int)=n:=by
 unfold IntKind.wrap
 have e:(2:Int) ^ 64=18446744073709551616:=by decide
 simp only[IntKind.bits,IntKind.signed,Bool.false_and,Bool.false_eq_true,if_false,e]
 omega
theorem ZAZ(a:Nat)(h:a < 18446744073709551616):(BitVec.ofInt 64 (a:Int)).toNat=a:=by
 rw[BitVec.toNat_ofInt]
 have e:((2:Nat) ^ 64:Nat)=18446744073709551616:=by decide
 rw[e];omega
theorem ZrO(a b:Nat)(ha:a < 18446744073709551616)(hb:b < 18446744073709551616):IntKind.u64.wrap ((BitVec.ofInt 64 (a:Int)|||BitVec.ofInt 64 (b:Int)).toNat:Int)=((a|||b:Nat):Int):=by
 rw[BitVec.toNat_or,ZAZ a ha,ZAZ b hb]
 exact Zuy _ (Nat.or_lt_two_pow (n:=64) ha hb)
theorem ZrP(a r:Nat)(ha:a < 18446744073709551616):(IntKind.u64.wrap ((BitVec.ofInt 64 (Int.fdiv (a:Int) (2 ^ r))&&&BitVec.ofInt 64 1).toNat:Int) == 1)=a.testBit r:=by
 have e:Int.fdiv (a:Int) (2 ^ r)=((a >>> r:Nat):Int):=by
  rw[Nat.shiftRight_eq_div_pow,Int.fdiv_eq_ediv_of_nonneg _ (Int.pow_nonneg (by omega))]
  push_cast
  rfl
 have bF:a >>> r < 18446744073709551616:=Nat.lt_of_le_of_lt (Nat.shiftRight_le a r) ha
 rw[e,BitVec.toNat_and,ZAZ _ bF]
 have h1:(BitVec.ofInt 64 1).toNat=1:=by decide
 rw[h1,Zuy _ (Nat.lt_of_le_of_lt Nat.and_le_left bF),Nat.and_one_is_mod]
 have e2:a.testBit r=decide (a >>> r % 2=1):=by
  rw[Nat.shiftRight_eq_div_pow];exact Nat.testBit_eq_decide_div_mod_eq
 rw[e2,Bool.eq_iff_iff]
 simp only[beq_iff_eq,decide_eq_true_eq]
 omega
def plL(f:Nat):List Value:=[.int .u64 (wdN f 0:Nat),.int .u64 (wdN f 1:Nat),.int .u64 (wdN f 2:Nat),.int .u64 (wdN f 3:Nat),.int .u64 (wdN f 4:Nat),.int .u64 (wdN f 5:Nat),.int .u64 (wdN f 6:Nat),.int .u64 (wdN f 7:Nat),.int .u64 (wdN f 8:Nat)]
def plV(f:Nat):Value:=.agg #[.int .u64 (wdN f 0:Nat),.int .u64 (wdN f 1:Nat),.int .u64 (wdN f 2:Nat),.int .u64 (wdN f 3:Nat),.int .u64 (wdN f 4:Nat),.int .u64 (wdN f 5:Nat),.int .u64 (wdN f 6:Nat),.int .u64 (wdN f 7:Nat),.int .u64 (wdN f 8:Nat)]
theorem Zuz{f j:Nat}(h:j < 9):(plL f)[j]?=some (.int .u64 (wdN f j:Nat)):=by
 have:j=0\/j=1\/j=2\/j=3\/j=4\/j=5\/j=6\/j=7\/j=8:=by omega
 rcases this with rfl|rfl|rfl|rfl|rfl|rfl|rfl|rfl|rfl <;> rfl
theorem ZAe{q r:Nat}(hq:q < 9)(hr:r < 64):ZaG (List.replicate 9 (Value.int .u64 0)) q [.int .u64 ((2 ^ r:Nat):Int)]=plL (2 ^ (64*q+r)):=by
 unfold plL
 simp only[Zxi hr]
 have:q=0\/q=1\/q=2\/q=3\/q=4\/q=5\/q=6\/q=7\/q=8:=by omega
 rcases this with rfl|rfl|rfl|rfl|rfl|rfl|rfl|rfl|rfl <;> rfl
def orL(f g k:Nat):List Value:=(List.range 9).map λj=>.int .u64 ((if j < k then wdN (f|||g) j else wdN f j:Nat):Int)
theorem Zxj{f g k j:Nat}(h:j < 9):(orL f g k)[j]?=some (.int .u64 ((if j < k then wdN (f|||g) j else wdN f j:Nat):Int)):=by
 simp[orL,h]
theorem ZvD{f g k:Nat}(h:k < 9):ZaG (orL f g k) k [.int .u64 ((wdN f k|||wdN g k:Nat):Int)]=orL f g (k+1):=by
 rw[<-Zy7]
 have:k=0\/k=1\/k=2\/k=3\/k=4\/k=5\/k=6\/k=7\/k=8:=by omega
 rcases this with rfl|rfl|rfl|rfl|rfl|rfl|rfl|rfl|rfl <;> rfl
def Byt(m:Mem)(a:Option Addr)(s:List Nat):Prop:=(s=[]\/∃b o,a=some ⟨b,o,none⟩/\m.reads b o (s.map λc:Nat=>Value.int .u8 c))/\∀c∈s,c < 256
theorem Byt.mono{m m':Mem}{a s}(h:Byt m a s)(hm:m.le m'):Byt m' a s:=by
 refine⟨?_,h.2⟩
 rcases h.1 with h|⟨b,o,h1,h2⟩
 ·exact .inl h
 ·exact .inr ⟨b,o,h1,h2.mono hm⟩
theorem Byt.get{m:Mem}{a s}(h:Byt m a s){i c:Nat}(hi:s[i]?=some c):(∃b o,a=some ⟨b,o,none⟩/\m b (o+i)=some (.int .u8 c))/\c < 256:=by
 refine⟨?_,h.2 c (List.mem_of_getElem? hi)⟩
 rcases h.1 with h|⟨b,o,h1,h2⟩
 ·subst h;simp at hi
 ·exact⟨b,o,h1,h2 i _ (by rw[List.getElem?_map,hi];rfl)⟩
def ZoU(t:T)(back:Bool)(f i c out:Nat):Nat:=if(f.testBit (if back then i+1 else i)&&t.hasB c)=true then out|||2 ^ (if back then i else i+1)else out
def ZsL(t:T)(back:Bool)(f:Nat):List Nat->Nat->Nat->Nat
 | [],_,out=>out
 | c::s,i,out=>ZsL t back f s (i+1) (ZoU t back f i c out)
def ZwC(g:Nat->Nat):Nat->Nat->Nat
 | 0,f=>f
 | n+1,f=>ZwC g n (g f)
def Zqc(g:Nat->Nat)(mx:Int):Nat->Int->Nat->Nat->Nat
 | 0,_,out,_=>out
 | n+1,k,out,last=>if k=mx then out else if out|||g last=out then out else Zqc g mx n (IntKind.i64.wrap (k+1)) (out|||g last) (g last)
@[irreducible] def ZA0:Nat:=576
theorem ZoV:ZA0=576:=by unfold ZA0;rfl
abbrev ZcS:Nat:=2 ^ ZA0
theorem Zxk{n:Nat}(h:n < 576):2 ^ n < ZcS:=Nat.pow_lt_pow_right (by omega) (by rw[ZoV];exact h)
def Zxl(g:Nat->Nat)(mn mx:Int)(f:Nat):Nat:=Zqc g mx (ZcS+1) mn (ZwC g mn.toNat f) (ZwC g mn.toNat f)
mutual
def T.lead(s:List Nat)(back:Bool):T->Nat->Nat
 | .node k s0 s1 s2 s3 mn mx a c l=>λf=>
  if k=1 then f else if k=2 then ZsL (.node k s0 s1 s2 s3 mn mx a c l) back f s 0 0
  else if k=3 then(if back then ZgC s back l f else Zg6 s back l f)
  else if k=4 then ZqQ s back l f 0
  else if k=5 then Zxl (Zf9 s back l) mn mx f
  else if k=6 then Zf9 s back l f else 0
def Zg6(s:List Nat)(back:Bool):List T->Nat->Nat
 | []=>λf=>f
 | t::l=>λf=>Zg6 s back l (t.lead s back f)
def ZgC(s:List Nat)(back:Bool):List T->Nat->Nat
 | []=>λf=>f
 | t::l=>λf=>t.lead s back (ZgC s back l f)
def ZqQ(s:List Nat)(back:Bool):List T->Nat->Nat->Nat
 | []=>λ_ out=>out
 | t::l=>λf out=>ZqQ s back l f (out|||t.lead s back f)
def Zf9(s:List Nat)(back:Bool):List T->Nat->Nat
 | []=>λf=>f
 | t::_=>λf=>t.lead s back f
end
section
variable {s:List Nat} {back:Bool}
theorem Zy8{t:T}(h:t.k=0)(f:Nat):t.lead s back f=0:=by cases t;simp only[T.k]at h;subst h;simp[T.lead]
theorem Zxm{t:T}(h:t.k=1)(f:Nat):t.lead s back f=f:=by cases t;simp only[T.k]at h;subst h;simp[T.lead]
theorem Zxn{t:T}(h:t.k=2)(f:Nat):t.lead s back f=ZsL t back f s 0 0:=by cases t;simp only[T.k]at h;subst h;simp[T.lead]
theorem ZvE{t:T}(h:t.k=3)(f:Nat):t.lead s back f=if back then ZgC s back t.subs f else Zg6 s back t.subs f:=by cases t;simp only[T.k]at h;subst h;simp[T.lead,T.subs]
theorem Zxo{t:T}(h:t.k=4)(f:Nat):t.lead s back f=ZqQ s back t.subs f 0:=by cases t;simp only[T.k]at h;subst h;simp[T.lead,T.subs]
theorem Zxp{t:T}(h:t.k=5)(f:Nat):t.lead s back f=Zxl (Zf9 s back t.subs) t.mn t.mx f:=by cases t;simp only[T.k]at h;subst h;simp[T.lead,T.subs,T.mn,T.mx]
theorem Zxq{t:T}(h:t.k=6)(f:Nat):t.lead s back f=Zf9 s back t.subs f:=by cases t;simp only[T.k]at h;subst h;simp[T.lead,T.subs]
theorem Zmt{g:Nat->Nat}{mx:Int}{n:Nat}{k:Int}{out last:Nat}:Zqc g mx (n+1) k out last=(if k=mx then out else if out|||g last=out then out else Zqc g mx n (IntKind.i64.wrap (k+1)) (out|||g last) (g last)):=rfl
theorem ZqR(t:T)(l:List T)(f:Nat):Zg6 s back (t::l) f=Zg6 s back l (t.lead s back f):=by rw[Zg6]
theorem ZoW(t:T)(l:List T)(f out:Nat):ZqQ s back (t::l) f out=ZqQ s back l f (out|||t.lead s back f):=by rw[ZqQ]
theorem ZrQ(f out:Nat):ZqQ s back [] f out=out:=by rw[ZqQ]
theorem ZqS(l:List T)(x:T)(f:Nat):ZgC s back (l++[x]) f=ZgC s back l (x.lead s back f):=by
 induction l with
 | nil=>simp[ZgC]
 | cons t l ih=>simp[ZgC,ih]
end
theorem Ziu{α:Type}{l:List α}{i:Nat}{x:α}(h:l[i]?=some x):l.drop i=x::l.drop (i+1):=by
 obtain⟨h1,h2⟩:=List.getElem?_eq_some_iff.1 h
 rw[List.drop_eq_getElem_cons h1,h2]
theorem Zcf{α:Type}{l:List α}{i:Nat}{x:α}(h:l[i]?=some x):l.take (i+1)=l.take i++[x]:=by
 rw[List.take_add_one,h];rfl
theorem ZvF{t:T}{back:Bool}{f i c out:Nat}(hi:i < 575)(h:out < ZcS):ZoU t back f i c out < ZcS:=by
 have hj:(if back then i else i+1) < 576:=by cases back <;> simp <;> omega
 have hp:2 ^ (if back then i else i+1) < ZcS:=Zxk hj
 have ho:=Nat.or_lt_two_pow h hp
 unfold ZoU
 by_cases hc:(f.testBit (if back then i+1 else i)&&t.hasB c)=true
 ·rw[if_pos hc];exact ho
 ·rw[if_neg hc];exact h
theorem ZuA{t:T}{back:Bool}{f:Nat}:∀(s:List Nat)(i out:Nat),i+s.length < 575->out < ZcS->ZsL t back f s i out < ZcS
 | [],_,_,_,h=>h
 | c::s,i,out,hi,h=>ZuA s (i+1) _ (by simp at hi;omega) (ZvF (by simp at hi;omega) h)
theorem ZoX{g:Nat->Nat}(hg:∀f,f < ZcS->g f < ZcS):∀(n f:Nat),f < ZcS->ZwC g n f < ZcS
 | 0,_,h=>h
 | n+1,f,h=>ZoX hg n _ (hg _ h)
theorem ZrR{g:Nat->Nat}{mx:Int}(hg:∀f,f < ZcS->g f < ZcS):∀(n:Nat)(k:Int)(out last:Nat),out < ZcS->last < ZcS->Zqc g mx n k out last < ZcS
 | 0,_,_,_,h,_=>h
 | n+1,k,out,last,h,h'=>by
  unfold Zqc
  split
  ·exact h
  ·split
   ·exact h
   ·exact ZrR hg n _ _ _ (Nat.or_lt_two_pow h (hg _ h')) (hg _ h')
section
variable (s:List Nat) (back:Bool) (hs:s.length<=512)
include hs
mutual
theorem ZfO:∀(t:T)(f:Nat),f < ZcS->t.lead s back f < ZcS
 | .node k s0 s1 s2 s3 mn mx a c l,f,h=>by
  unfold T.lead
  split
  ·exact h
  split
  ·exact ZuA s 0 0 (by omega) (Nat.two_pow_pos _)
  split
  ·split
   ·exact ZnW l f h
   ·exact ZrS l f h
  split
  ·exact ZuB l f 0 h (Nat.two_pow_pos _)
  split
  ·exact ZrR (λf h=>Zlg l f h) _ _ _ _ (ZoX (λf h=>Zlg l f h) _ _ h) (ZoX (λf h=>Zlg l f h) _ _ h)
  split
  ·exact Zlg l f h
  ·exact Nat.two_pow_pos _
theorem ZrS:∀(l:List T)(f:Nat),f < ZcS->Zg6 s back l f < ZcS
 | [],f,h=>by unfold Zg6;exact h
 | t::l,f,h=>by unfold Zg6;exact ZrS l _ (ZfO t f h)
theorem ZnW:∀(l:List T)(f:Nat),f < ZcS->ZgC s back l f < ZcS
 | [],f,h=>by unfold ZgC;exact h
 | t::l,f,h=>by unfold ZgC;exact ZfO t _ (ZnW l f h)
theorem ZuB:∀(l:List T)(f out:Nat),f < ZcS->out < ZcS->ZqQ s back l f out < ZcS
 | [],f,out,h,h'=>by unfold ZqQ;exact h'
 | t::l,f,out,h,h'=>by unfold ZqQ;exact ZuB l f _ h (Nat.or_lt_two_pow h' (ZfO t f h))
theorem Zlg:∀(l:List T)(f:Nat),f < ZcS->Zf9 s back l f < ZcS
 | [],f,h=>by unfold Zf9;exact h
 | t::l,f,h=>by unfold Zf9;exact ZfO t f h
end
end
theorem Zy9{f g:Nat}(hf:f < ZcS)(hg:g < ZcS)(h:∀j,j < 9->wdN f j=wdN g j):f=g:=by
 apply Nat.eq_of_testBit_eq
 intro i
 by_cases hi:i < 576
 ·have e:=congrArg (λw=>Nat.testBit w (i % 64)) (h (i / 64) (by omega))
  simp only[ZoT,show 64*(i / 64)+i % 64=i by omega,show i % 64 < 64 by omega,decide_true,Bool.true_and]at e
  exact e
 ·rw[Nat.testBit_lt_two_pow (Nat.lt_of_lt_of_le hf (Nat.pow_le_pow_right (by omega) (by rw[ZoV];omega))),Nat.testBit_lt_two_pow (Nat.lt_of_lt_of_le hg (Nat.pow_le_pow_right (by omega) (by rw[ZoV];omega)))]
abbrev PLK:=Int->Int->Int->Int->Int->Int->Int->Int->Int->Mem->Prop
theorem Zp5{X:Nat}{m:Mem}{K:PLK}(k:∀m',m.le m'->K (wdN X 0:Nat) (wdN X 1:Nat) (wdN X 2:Nat) (wdN X 3:Nat) (wdN X 4:Nat) (wdN X 5:Nat) (wdN X 6:Nat) (wdN X 7:Nat) (wdN X 8:Nat) m'):
  ∀(n0 n1 n2 n3 n4 n5 n6 n7 n8:Int)(m':Mem),m.le m'->Ret (plV X) (.agg #[.int .u64 n0,.int .u64 n1,.int .u64 n2,.int .u64 n3,.int .u64 n4,.int .u64 n5,.int .u64 n6,.int .u64 n7,.int .u64 n8]) m' []->K n0 n1 n2 n3 n4 n5 n6 n7 n8 m':=by
 intro n0 n1 n2 n3 n4 n5 n6 n7 n8 m' hm h
 simp only[Ret,plV,Value.agg.injEq,Array.mk.injEq,List.cons.injEq,Value.int.injEq,true_and,and_true]at h
 obtain⟨rfl,rfl,rfl,rfl,rfl,rfl,rfl,rfl,rfl⟩:=h
 exact k m' hm
theorem ZbG{X:Nat}:∀(v:Value)(m':Mem) (css:List (List Value)),Ret (plV X) v m' css->Shape.fits (.agg [.int .u64,.int .u64,.int .u64,.int .u64,.int .u64,.int .u64,.int .u64,.int .u64,.int .u64]) v=true:=λv _ _ e=>by rw[e];rfl
def T.walks(t:T):Prop:=t.k=0\/∀x∈t.nodes,x.right=true
theorem ZtA{t x:T}(h:t.walks)(h0:t.k≠0)(hx:x∈t.subs):x.walks:=by
 rcases h with h|h
 ·exact absurd h h0
 ·refine .inr λy hy=>h y ?_
  obtain⟨i,hi⟩:=List.getElem?_of_mem hx
  rw[Zbk,Zew hi]
  simp[hy]
def T0:T:=.node 0 0 0 0 0 0 0 none 0 []
def T1:T:=.node 1 0 0 0 0 0 0 none 0 []
theorem ZqT(m:Mem):Rep m T0:=by simp only[T0,Rep];exact⟨by simp,.inl trivial,by constructor <;> decide⟩
theorem ZtB(m:Mem):Rep m T1:=by simp only[T1,Rep];exact⟨by simp,.inl trivial,by constructor <;> decide⟩
def T.isNone(t:T):Bool:=t.k == 0&&(t.light&&(T0.light&&t.same T0))
def T.wrong(t:T)(len:Nat)(i:Int):Int:=if(!t.isNone&&!(t.check == 0))=true then 130 else if(len:Int) > 512 then 3 else if i < 0\/i > len then 2 else 0
theorem ZjI{t:T}(h:t.check=0):t.walks:=by
 unfold T.check at h
 split at h
 ·exact absurd h (by decide)
 ·rename_i hc
  have hc':t.clean=true:=by simpa using hc
  unfold T.clean at hc'
  rw[Bool.and_eq_true]at hc'
  exact .inr λx hx=>List.all_eq_true.1 hc'.2 x hx
theorem Zxr{t:T}{len:Nat}{i:Int}(h:t.wrong len i=0):t.walks/\len<=512/\0<=i/\i<=len:=by
 unfold T.wrong at h
 split at h
 ·exact absurd h (by decide)
 ·rename_i hc
  split at h
  ·exact absurd h (by decide)
  ·split at h
   ·exact absurd h (by decide)
   ·refine⟨?_,by omega,by omega,by omega⟩
    simp only[Bool.and_eq_true,Bool.not_eq_true',beq_eq_false_iff_ne,ne_eq,not_and,Decidable.not_not]at hc
    by_cases hn:t.isNone=true
    ·left
     unfold T.isNone at hn
     rw[Bool.and_eq_true]at hn
     simpa using hn.1
    ·exact ZjI (hc (by simpa using hn))
structure Rg where
 bg:Bool
 en:Bool
 t:T
def Rg.v(r:Rg):Value:=.agg #[.bool r.bg,.bool r.en,.int .u8 r.t.k,.int .u64 r.t.s0,.int .u64 r.t.s1,.int .u64 r.t.s2,.int .u64 r.t.s3,.int .i64 r.t.mn,.int .i64 r.t.mx,.slice r.t.a r.t.subs.length r.t.c]
def Rg.cs(r:Rg):List Value:=[.bool r.bg,.bool r.en,.int .u8 r.t.k,.int .u64 r.t.s0,.int .u64 r.t.s1,.int .u64 r.t.s2,.int .u64 r.t.s3,.int .i64 r.t.mn,.int .i64 r.t.mx,.slice r.t.a r.t.subs.length r.t.c]
def Rgs(m:Mem)(a:Option Addr)(l:List Rg):Prop:=l.length<=1000000000000000/\(l=[]\/∃b o,a=some ⟨b,o,none⟩/\∀i r,l[i]?=some r->m.reads b (o+i*10) r.cs)/\∀r∈l,Rep m r.t
theorem Rgs.mono{m m':Mem}{a l}(h:Rgs m a l)(hm:m.le m'):Rgs m' a l:=by
 refine⟨h.1,?_,λr hr=>(h.2.2 r hr).mono hm⟩
 rcases h.2.1 with h|⟨b,o,h1,h2⟩
 ·exact .inl h
 ·exact .inr ⟨b,o,h1,λi r hi=>(h2 i r hi).mono hm⟩
def Zza(f:Nat):List Nat:=(List.range 513).filter λi=>f.testBit i
def Zxs(n:Nat):List Nat->Option Nat
 | []=>none
 | i::_=>if i > n then none else some i
def Rg.from(s:List Nat)(n:Nat)(r:Rg):Option Nat:=if(r.en&&decide ((n:Int) < s.length))=true then none else if r.bg then(if(r.t.lead s true (2 ^ n)).testBit 0 then some 0 else none)else
 Zxs n (Zza (r.t.lead s true (2 ^ n)))
def Rg.wrong(r:Rg)(len:Nat)(n:Int):Int:=if r.t.check=0 then r.t.wrong len n else 130
def Zzb(l:List Rg)(len:Nat)(n:Int):Int:=if(l.length:Int) > 64 then 5 else if l.all (λr=>r.t.check == 0)then T1.wrong len n else 130
def Zcu(φ:T->Prop):Value->Mem->List (List Value)->Prop:=λv m' _=>∃t:T,v=t.v/\Rep m' t/\φ t
abbrev TRK:=Int->Int->Int->Int->Int->Int->Int->Option Addr->Nat->Nat->Mem->Prop
theorem Zco{φ:T->Prop}{m:Mem}{K:TRK}(k:∀(t:T)(m':Mem),m.le m'->Rep m' t->φ t->K t.k t.s0 t.s1 t.s2 t.s3 t.mn t.mx t.a t.subs.length t.c m'):
  ∀(n0 n1 n2 n3 n4 n5 n6:Int)(a:Option Addr)(n c:Nat)(m':Mem),m.le m'->Zcu φ (.agg #[.int .u8 n0,.int .u64 n1,.int .u64 n2,.int .u64 n3,.int .u64 n4,.int .i64 n5,.int .i64 n6,.slice a n c]) m' []->K n0 n1 n2 n3 n4 n5 n6 a n c m':=by
 rintro n0 n1 n2 n3 n4 n5 n6 a n c m' hm ⟨t,hv,hr,hp⟩
 simp only[T.v,Value.agg.injEq,Array.mk.injEq,List.cons.injEq,Value.int.injEq,Value.slice.injEq,true_and,and_true]at hv
 obtain⟨rfl,rfl,rfl,rfl,rfl,rfl,rfl,rfl,rfl,rfl⟩:=hv
 exact k t m' hm hr hp
theorem ZaL{φ:T->Prop}:∀(v:Value)(m':Mem) (css:List (List Value)),Zcu φ v m' css->Shape.fits (.agg [.int .u8,.int .u64,.int .u64,.int .u64,.int .u64,.int .i64,.int .i64,.slice]) v=true:=λv _ _ ⟨t,e,_⟩=>by rw[e];rfl
def Zmu(c j:Nat):Int:=if c / 64=j then((2 ^ (c % 64):Nat):Int)else 0
def Zei(c:Nat):T:=.node 2 (Zmu c 0) (Zmu c 1) (Zmu c 2) (Zmu c 3) 0 0 none 0 []
theorem Zlh(c j:Nat):0<=Zmu c j/\Zmu c j < 18446744073709551616:=by
 unfold Zmu
 split
 ·have h:(2:Nat) ^ (c % 64) < 2 ^ 64:=Nat.pow_lt_pow_right (by omega) (by omega)
  have e:(2:Nat) ^ 64=18446744073709551616:=by decide
  rw[e]at h
  generalize (2:Nat) ^ (c % 64)=w at *
  exact⟨by omega,by omega⟩
 ·omega
theorem ZqU(c:Nat)(m:Mem):Rep m (Zei c):=by
 simp only[Zei,Rep]
 exact⟨by simp,.inl trivial,⟨by omega,Zlh c 0,Zlh c 1,Zlh c 2,Zlh c 3,by omega,by omega⟩⟩
def RepL(m:Mem)(a:Option Addr)(l:List T):Prop:=l.length<=1000000000000000/\(l=[]\/∃b o,a=some ⟨b,o,none⟩/\RepAt m b o l)
theorem RepL.mono{m m':Mem}{a l}(h:RepL m a l)(hm:m.le m'):RepL m' a l:=by
 refine⟨h.1,?_⟩
 rcases h.2 with h|⟨b,o,h1,h2⟩
 ·exact .inl h
 ·exact .inr ⟨b,o,h1,h2.mono hm⟩
theorem Rep.subs{m:Mem}{t:T}(h:Rep m t):RepL m t.a t.subs:=ZdM h
def Zap(k mn mx:Int)(a:Option Addr)(c:Nat)(l:List T):T:=.node k 0 0 0 0 mn mx a c l
theorem Zbo{m:Mem}{k mn mx:Int}{a:Option Addr}{c:Nat}{l:List T}(h:RepL m a l)(hk:0<=k/\k < 256)(h1 : -9223372036854775808<=mn/\mn<=9223372036854775807)(h2 : -9223372036854775808<=mx/\mx<=9223372036854775807):Rep m (Zap k mn mx a c l):=by
 simp only[Zap,Rep]
 exact⟨h.1,h.2,⟨hk,by omega,by omega,by omega,by omega,h1,h2⟩⟩
theorem Zjo{m:Mem}{b:Nat}{t:T}(h:m.reads b 0 t.cs)(hr:Rep m t):RepL m (some ⟨b,0,none⟩) [t]:=⟨by simp,.inr ⟨b,0,rfl,by simp only[RepAt];exact⟨h,hr,trivial⟩⟩⟩
def ZcF(l:List T):List Value:=(l.map T.cs).flatten
theorem Zan(l:List T):(ZcF l).length=l.length*8:=by
 induction l with
 | nil=>rfl
 | cons t l ih=>simp[ZcF,T.cs]at ih ⊢;omega
theorem ZoY(l:List T)(t:T):ZcF (l++[t])=ZcF l++t.cs:=by simp[ZcF]
theorem ZaP(l r:List T):ZcF (l++r)=ZcF l++ZcF r:=by simp[ZcF]
theorem ZrT{m:Mem}{b:Nat}:∀{o:Nat} {l:List T},m.reads b o (ZcF l)->(∀t∈l,Rep m t)->RepAt m b o l
 | o,[],_,_=>by simp only[RepAt]
 | o,t::l,h,hr=>by
  simp only[RepAt]
  refine⟨λj v hj=>?_,hr t (by simp),ZrT (λj v hj=>?_) λx hx=>hr x (by simp[hx])⟩
  ·refine h j v ?_
   simp only[ZcF,List.map_cons,List.flatten_cons]
   rw[List.getElem?_append_left (List.getElem?_eq_some_iff.1 hj).1];exact hj
  ·have:=h (8+j) v (by
    simp only[ZcF,List.map_cons,List.flatten_cons]
    rw[List.getElem?_append_right (by simp[T.cs])]
    have e:8+j - t.cs.length=j:=by simp[T.cs]
    rw[e];exact hj)
   rw[show o+8+j=o+(8+j) by omega];exact this
theorem Zmv{m:Mem}{a:Option Addr}{l:List T}(h:rowRd m a (ZcF l))(hr:∀t∈l,Rep m t)(hl:l.length<=1000000000000000):RepL m a l:=by
 refine⟨hl,?_⟩
 cases l with
 | nil=>exact .inl rfl
 | cons t l=>
  rcases h with h|⟨b,o,h1,h2⟩
  ·simp[ZcF,T.cs]at h
  ·exact .inr ⟨b,o,h1,ZrT h2 hr⟩
theorem Zcg{m:Mem}{a:Option Addr}{l:List T}(h:RepL m a l):rowRd m a (ZcF l):=by
 have key:∀(l:List T)(b o:Nat),RepAt m b o l->m.reads b o (ZcF l):=by
  intro l
  induction l with
  | nil=>intro b o _ j v hj;simp[ZcF]at hj
  | cons t l ih=>
   intro b o hr j v hj
   simp only[RepAt]at hr
   simp only[ZcF,List.map_cons,List.flatten_cons]at hj
   by_cases bF:j < 8
   ·rw[List.getElem?_append_left (by simpa[T.cs]using bF)]at hj
    exact hr.1 j v hj
   ·rw[List.getElem?_append_right (by simp[T.cs];omega)]at hj
    have:=ih b (o+8) hr.2.2 (j - 8) v (by simpa[T.cs,ZcF]using hj)
    rw[show o+8+(j - 8)=o+j by omega]at this;exact this
 rcases h.2 with h|⟨b,o,h1,h2⟩
 ·subst h;exact .inl rfl
 ·exact .inr ⟨b,o,h1,key l b o h2⟩
theorem Zex{m:Mem}{a:Option Addr}{l:List T}(h:RepL m a l):∀t∈l,Rep m t:=by
 rcases h.2 with h|⟨b,o,_,h⟩
 ·subst h;simp
 ·intro t ht
  obtain⟨i,hi⟩:=List.getElem?_of_mem ht
  exact(h.get hi).2
def ZA1(j:Nat)(w c:Nat):Nat:=if c / 64=j then w|||2 ^ (c % 64)else w
def Zue(bs:List Nat)(j:Nat):Nat:=bs.foldl (ZA1 j) 0
theorem ZtC(l:List Nat)(c j:Nat):Zue (l++[c]) j=if c / 64=j then Zue l j|||2 ^ (c % 64)else Zue l j:=by
 unfold Zue
 rw[List.foldl_append];rfl
theorem ZuC(l:List Nat)(j:Nat):Zue l j < 18446744073709551616:=by
 have key:∀(l:List Nat)(w:Nat),w < 2 ^ 64->l.foldl (ZA1 j) w < 2 ^ 64:=by
  intro l
  induction l with
  | nil=>intro w h;exact h
  | cons c l ih=>
   intro w h
   refine ih _ ?_
   unfold ZA1
   split
   ·exact Nat.or_lt_two_pow h (Nat.pow_lt_pow_right (by omega) (by omega))
   ·exact h
 exact key l 0 (by decide)
def Zli(bs:List Nat):T:=.node 2 (Zue bs 0:Nat) (Zue bs 1:Nat) (Zue bs 2:Nat) (Zue bs 3:Nat) 0 0 none 0 []
theorem ZoZ(bs:List Nat)(m:Mem):Rep m (Zli bs):=by
 simp only[Zli,Rep]
 have h:=ZuC bs
 exact⟨by simp,.inl trivial,⟨by omega,⟨by omega,by have:=h 0;omega⟩,⟨by omega,by have:=h 1;omega⟩,⟨by omega,by have:=h 2;omega⟩,⟨by omega,by have:=h 3;omega⟩,by omega,by omega⟩⟩
def ZuD(bs:List Nat):List Value:=[.int .u64 (Zue bs 0:Nat),.int .u64 (Zue bs 1:Nat),.int .u64 (Zue bs 2:Nat),.int .u64 (Zue bs 3:Nat)]
theorem ZtD(bs:List Nat){j:Nat}(h:j < 4):(ZuD bs)[j]?=some (.int .u64 (Zue bs j:Nat)):=by
 have:j=0\/j=1\/j=2\/j=3:=by omega
 rcases this with rfl|rfl|rfl|rfl <;> rfl
theorem ZqV(l:List Nat){c j:Nat}(hj:c / 64=j)(h:j < 4):ZaG (ZuD l) j [.int .u64 ((Zue l j|||2 ^ (c % 64):Nat):Int)]=ZuD (l++[c]):=by
 unfold ZuD
 simp only[ZtC,hj]
 have:j=0\/j=1\/j=2\/j=3:=by omega
 rcases this with rfl|rfl|rfl|rfl <;> rfl
def Zes(n:Nat):List Nat:=([[97],[98],[97,98],[97],[98],[99],[97,98,99],[98,99],[10],[0,255],[97],[98]][n % 12]?).getD []
def T.good(t:T):Bool:=t.nodes.all T.right
def isG(t:T):Bool:=t.k == 6
theorem Zmw(p:T->Bool):∀l:List T,(Zak l).all p=l.all λt=>t.nodes.all p
 | []=>rfl
 | t::l=>by simp only[Zak,List.all_append,List.all_cons,Zmw p l]
theorem Zkj(t:T):t.good=(t.right&&t.subs.all T.good):=by
 unfold T.good;rw[Zbk,List.all_cons,Zmw]
def grL(l:List T):Nat:=(Zak l).countP isG
def szL(l:List T):Nat:=(Zak l).length
def T.gr(t:T):Nat:=t.nodes.countP isG
theorem ZaV(l r:List T):szL (l++r)=szL l+szL r:=by unfold szL;rw[Zc0,List.length_append]
theorem Zb6(l r:List T):grL (l++r)=grL l+grL r:=by unfold grL;rw[Zc0,List.countP_append]
theorem ZbW(t:T):szL [t]=t.nodes.length:=by simp[szL,Zak]
theorem Zej(t:T):grL [t]=t.gr:=by simp[grL,Zak,T.gr]
theorem Zc1(t:T):ZeS [t]=t.pos:=by simp[ZeS]
theorem Zlj(t:T)(l:List T):szL (t::l)=t.nodes.length+szL l:=by simp[szL,Zak]
theorem ZrU(t:T)(l:List T):grL (t::l)=t.gr+grL l:=by simp[grL,Zak,T.gr,List.countP_append]
theorem ZrV(t:T):t.nodes.length=1+szL t.subs:=by rw[Zbk,List.length_cons,szL];omega
theorem Zxt(t:T):t.gr=(if isG t=true then 1 else 0)+grL t.subs:=by
 unfold T.gr;rw[Zbk,List.countP_cons,grL];omega
theorem Zo0(l:List T):l.length<=szL l:=by
 induction l with
 | nil=>simp
 | cons t l ih=>rw[Zlj,ZrV,List.length_cons];omega
def ZbX(k:Int)(t:T):List T:=if t.k=k then t.subs else if k=3/\t.k=1 then[]else[t]
def Zh0(k:Int)(a:Option Addr)(c:Nat):List T->T
 | []=>T1
 | [x]=>x
 | x::y::l=>Zap k 0 0 a c (x::y::l)
theorem Zlk{t:T}{k:Int}(h:t.has k=false):∀x∈t.subs,x.k≠k:=by
 intro x hx e
 unfold T.has at h
 have:=List.any_eq_false.1 h x hx
 simp[e]at this
theorem ZvG{t:T}{k:Int}(h:∀x∈t.subs,x.k≠k):t.has k=false:=by
 unfold T.has
 rw[List.any_eq_false]
 intro x hx
 have:=h x hx
 simpa using this
theorem Zll{k:Int}{t:T}(hk:k=3\/k=4)(hg:t.good=true)(hp:t.pos<=10000):(∀x∈ZbX k t,x.good=true/\x.k≠k/\(k=3->x.k≠1))/\szL (ZbX k t)<=t.nodes.length/\grL (ZbX k t)<=t.gr/\ZeS (ZbX k t)<=t.pos:=by
 have hg':=hg
 rw[Zkj,Bool.and_eq_true,List.all_eq_true]at hg'
 unfold ZbX
 split
 ·rename_i dM
  refine⟨λx hx=>⟨hg'.2 x hx,?_⟩,by rw[ZrV];omega,by rw[Zxt];omega,?_⟩
  ·have hr:=hg'.1
   unfold T.right at hr
   rw[Bool.and_eq_true]at hr
   have hr:=hr.2
   rcases hk with rfl|rfl
   ·simp only[dM]at hr
    simp at hr
    exact⟨Zlk hr.2.2 x hx,λ_=>Zlk hr.2.1 x hx⟩
   ·simp only[dM]at hr
    simp at hr
    exact⟨Zlk hr.2 x hx,λh=>by omega⟩
  ·rw[ZoS]at hp ⊢
   have h5:¬t.k=5:=by omega
   have h2:¬t.k=2:=by omega
   unfold Zut at hp ⊢
   rw[if_neg h5,if_neg h2,Int.zero_add]at hp ⊢
   unfold ZqP at hp ⊢
   split at hp
   ·omega
   ·split <;> omega
 ·rename_i dM
  split
  ·refine⟨λx hx=>by simp at hx,by simp[szL,Zak],by simp[grL,Zak],?_⟩
   simp only[ZeS];exact(Zit t).1
  ·rename_i Ak
   refine⟨λx hx=>?_,by rw[ZbW];exact Nat.le_refl _,by rw[Zej];exact Nat.le_refl _,by rw[Zc1];exact Int.le_refl _⟩
   simp at hx;subst hx
   exact⟨hg,dM,λh=>λh1=>Ak ⟨h,h1⟩⟩
theorem Zo1{k:Int}(hk:k=3\/k=4)(a:Option Addr)(c:Nat):∀{l:List T},(∀x∈l,x.good=true/\x.k≠k/\(k=3->x.k≠1))->(Zh0 k a c l).good=true/\(Zh0 k a c l).nodes.length<=1+szL l/\(Zh0 k a c l).gr<=grL l/\(Zh0 k a c l).pos<=ZeS l
 | [],_=>⟨show T1.good=true by decide,show T1.nodes.length<=1 by decide,show T1.gr<=0 by decide,show T1.pos<=0 by decide⟩
 | [x],h=>by
  rw[ZbW,Zej,Zc1]
  exact⟨(h x (by simp)).1,by show x.nodes.length<=_;omega,Nat.le_refl _,Int.le_refl _⟩
 | x::y::l,h=>by
  show(Zap k 0 0 a c (x::y::l)).good=true/\(Zap k 0 0 a c (x::y::l)).nodes.length<=_/\(Zap k 0 0 a c (x::y::l)).gr<=_/\(Zap k 0 0 a c (x::y::l)).pos<=_
  have hs:(Zap k 0 0 a c (x::y::l)).subs=x::y::l:=rfl
  have dM:(Zap k 0 0 a c (x::y::l)).k=k:=rfl
  have hz:(Zap k 0 0 a c (x::y::l)).setZ=true:=rfl
  have fX:(Zap k 0 0 a c (x::y::l)).mn=0:=rfl
  have eX:(Zap k 0 0 a c (x::y::l)).mx=0:=rfl
  refine⟨?_,by rw[ZrV,hs];exact Nat.le_refl _,?_,?_⟩
  ·rw[Zkj,Bool.and_eq_true,List.all_eq_true,hs]
   refine⟨?_,λz hz=>(h z hz).1⟩
   have h1:k=3->(Zap k 0 0 a c (x::y::l)).has 1=false:=λe=>ZvG λz hz=>(h z hz).2.2 e
   have h2:(Zap k 0 0 a c (x::y::l)).has k=false:=ZvG λz hz=>(h z hz).2.1
   unfold T.right
   rw[dM,hz,fX,eX,hs]
   rcases hk with rfl|rfl
   ·simp[h1 rfl,h2]
   ·simp[h2]
  ·rw[Zxt,hs,isG,dM]
   rcases hk with rfl|rfl <;> simp
  ·rw[ZoS,dM,fX,eX,hs]
   unfold Zut
   rw[if_neg (by omega),if_neg (by omega),Int.zero_add]
   exact(Zms _ _).1
structure J (i:Nat)(ts:List T)(u g:Nat):Prop where
 good:∀t∈ts,t.good=true
 sz:szL ts<=i
 pos:ZeS ts<=(i*u:Nat)
 u1:1<=u
 u16:u<=16
 gr:grL ts<=g
 g9:g<=9
theorem J.zero:J 0 [] 1 0:=⟨by simp,by simp[szL,Zak],by simp[ZeS],by omega,by omega,by simp[grL,Zak],by omega⟩
theorem J.skip{i ts u g}(h:J i ts u g):J (i+1) ts u g:=
 ⟨h.good,by have:=h.sz;omega,by have:=h.pos;have e:(i+1)*u=i*u+u:=Nat.succ_mul i u;rw[e];omega,h.u1,h.u16,h.gr,h.g9⟩
theorem J.push{i ts u g}(h:J i ts u g){t:T}(hg:t.good=true)(hs:t.nodes.length=1)(hp:t.pos<=1)(hr:t.gr=0):J (i+1) (ts++[t]) u g:=by
 refine⟨λx hx=>?_,?_,?_,h.u1,h.u16,?_,h.g9⟩
 ·rcases List.mem_append.1 hx with hx|hx
  ·exact h.good x hx
  ·simp at hx;subst hx;exact hg
 ·rw[ZaV,ZbW,hs];have:=h.sz;omega
 ·rw[Zbn,Zc1];have:=h.pos;have:=h.u1;have e:(i+1)*u=i*u+u:=Nat.succ_mul i u;rw[e];omega
 ·rw[Zb6,Zej,hr];have:=h.gr;omega
theorem J.pos400{i ts u g}(h:J i ts u g)(hi:i<=25):ZeS ts<=400:=by
 have h1:=h.pos
 have:i*u<=25*16:=Nat.mul_le_mul hi h.u16
 omega
theorem J.join{i ts u g}{x y:T}(h:J i (ts++[x,y]) u g)(hi:i<=25){k:Int}(hk:k=3\/k=4)(a:Option Addr)(c:Nat):J (i+1) (ts++[Zh0 k a c (ZbX k x++ZbX k y)]) u g:=by
 have h4:=h.pos400 hi
 have hz:=h.sz
 have hp:=h.pos
 have jI:=h.gr
 rw[show ts++[x,y]=ts++([x]++[y]) from rfl]at h4 hz hp jI
 rw[Zbn,Zbn,Zc1,Zc1]at h4 hp
 rw[ZaV,ZaV,ZbW,ZbW]at hz
 rw[Zb6,Zb6,Zej,Zej]at jI
 have n1:=ZhH ts
 have n2:=(Zit x).1
 have n3:=(Zit y).1
 obtain⟨a1,a2,a3,a4⟩:=Zll hk (h.good x (by simp)) (by omega)
 obtain⟨b1,b2,b3,b4⟩:=Zll hk (h.good y (by simp)) (by omega)
 obtain⟨c1,c2,c3,c4⟩:=Zo1 hk a c (l:=ZbX k x++ZbX k y) (λz hz=>by
  rcases List.mem_append.1 hz with hz|hz
  ·exact a1 z hz
  ·exact b1 z hz)
 rw[ZaV]at c2
 rw[Zb6]at c3
 rw[Zbn]at c4
 refine⟨λz hz=>?_,?_,?_,h.u1,h.u16,?_,h.g9⟩
 ·rcases List.mem_append.1 hz with hz|hz
  ·exact h.good z (by simp[hz])
  ·simp at hz;subst hz;exact c1
 ·rw[ZaV,ZbW];omega
 ·rw[Zbn,Zc1];have e:(i+1)*u=i*u+u:=Nat.succ_mul i u;rw[e];omega
 ·rw[Zb6,Zej];omega
theorem J.group{i ts u g}{x:T}(h:J i (ts++[x]) u g)(hg:g < 9)(a:Option Addr)(c:Nat):J (i+1) (ts++[Zap 6 0 0 a c [x]]) u (g+1):=by
 have hz:=h.sz
 have hp:=h.pos
 have jI:=h.gr
 rw[Zbn,Zc1]at hp
 rw[ZaV,ZbW]at hz
 rw[Zb6,Zej]at jI
 have hs:(Zap 6 0 0 a c [x]).subs=[x]:=rfl
 refine⟨λz hz=>?_,?_,?_,h.u1,h.u16,?_,by omega⟩
 ·rcases List.mem_append.1 hz with hz|hz
  ·exact h.good z (by simp[hz])
  ·simp at hz;subst hz
   rw[Zkj,Bool.and_eq_true,List.all_eq_true]
   refine⟨rfl,λz hz=>?_⟩
   rw[hs]at hz;simp at hz;subst hz
   exact h.good z (by simp)
 ·rw[ZaV,ZbW,ZrV,hs,ZbW];omega
 ·rw[Zbn,Zc1,ZoS,hs,Zc1]
  have:Zut (Zap 6 0 0 a c [x]).k (Zap 6 0 0 a c [x]).mn (Zap 6 0 0 a c [x]).mx ((if(Zap 6 0 0 a c [x]).k=2 then 1 else 0)+x.pos)<=x.pos:=by
   show ZqP (if(6:Int)=5 then _ else(if(6:Int)=2 then 1 else 0)+x.pos) 10001<=_
   rw[if_neg (by omega),if_neg (by omega),Int.zero_add]
   exact(Zms _ _).1
  have e:(i+1)*u=i*u+u:=Nat.succ_mul i u
  rw[e];omega
 ·rw[Zb6,Zej,Zxt,hs,Zej]
  split <;> omega
theorem J.rep{i ts u g}{x:T}(h:J i (ts++[x]) u g)(hx:x.k≠1){mn mx:Int}(hb:Zis mn mx=true){w:Nat}(hw:ZvB mn mx<=w)(h1:1<=w)(hu:u*w<=16)(a:Option Addr)(c:Nat):J (i+1) (ts++[Zap 5 mn mx a c [x]]) (u*w) g:=by
 have hz:=h.sz
 have hp:=h.pos
 have jI:=h.gr
 rw[Zbn,Zc1]at hp
 rw[ZaV,ZbW]at hz
 rw[Zb6,Zej]at jI
 have hs:(Zap 5 mn mx a c [x]).subs=[x]:=rfl
 have n1:=ZhH ts
 have n2:=(Zit x).1
 refine⟨λz hz=>?_,?_,?_,?_,hu,?_,h.g9⟩
 ·rcases List.mem_append.1 hz with hz|hz
  ·exact h.good z (by simp[hz])
  ·simp at hz;subst hz
   rw[Zkj,Bool.and_eq_true,List.all_eq_true]
   refine⟨?_,λz hz=>?_⟩
   ·have hh:(Zap 5 mn mx a c [x]).has 1=false:=ZvG λz hz=>by rw[hs]at hz;simp at hz;subst hz;exact hx
    unfold T.right
    rw[hh,hs,show(Zap 5 mn mx a c [x]).k=5 from rfl,show(Zap 5 mn mx a c [x]).setZ=true from rfl,show(Zap 5 mn mx a c [x]).mn=mn from rfl,show(Zap 5 mn mx a c [x]).mx=mx from rfl,hb]
    simp
   ·rw[hs]at hz;simp at hz;subst hz
    exact h.good z (by simp)
 ·rw[ZaV,ZbW,ZrV,hs,ZbW];omega
 ·rw[Zbn,Zc1,ZoS,hs,Zc1]
  have key:Zut (Zap 5 mn mx a c [x]).k (Zap 5 mn mx a c [x]).mn (Zap 5 mn mx a c [x]).mx ((if(Zap 5 mn mx a c [x]).k=2 then 1 else 0)+x.pos)<=x.pos*w:=by
   show ZqP (if(5:Int)=5 then((if(5:Int)=2 then 1 else 0)+x.pos)*ZvB mn mx else _) 10001<=_
   rw[if_pos rfl,if_neg (by omega),Int.zero_add]
   exact Int.le_trans (Zms _ _).1 (Int.mul_le_mul_of_nonneg_left hw n2)
  have k2:ZeS ts<=ZeS ts*w:=by
   have:=Int.mul_le_mul_of_nonneg_left (show(1:Int)<=w by omega) n1
   rw[Int.mul_one]at this;exact this
  have k3:(ZeS ts+x.pos)*w<=((i*u:Nat):Int)*w:=Int.mul_le_mul_of_nonneg_right hp (by omega)
  rw[Int.add_mul]at k3
  have e:(i+1)*(u*w)=i*u*w+u*w:=by rw[Nat.succ_mul,Nat.mul_assoc]
  have e2:(((i*u:Nat):Int)*w)=((i*u*w:Nat):Int):=by push_cast;rfl
  rw[e2]at k3
  rw[e]
  generalize i*u*w=A at *
  generalize u*w=B at *
  generalize ZeS ts*(w:Int)=D at *
  generalize x.pos*(w:Int)=F at *
  omega
 ·have:=Nat.mul_le_mul h.u1 h1;omega
 ·rw[Zb6,Zej,Zxt,hs,Zej,isG,show(Zap 5 mn mx a c [x]).k=5 from rfl]
  simp;omega
structure F (t:T)(l:List T):Prop where
 good:t.good=true
 goods:∀x∈l,x.good=true
 sz:t.nodes.length+szL l+l.length<=60
 pos:t.pos+ZeS l<=400
 gr:t.gr+grL l<=9
theorem F.start{i u g}{t:T}{l:List T}(h:J i (t::l) u g)(hi:i<=25):F t l:=by
 have h1:=h.sz
 have h2:=h.pos400 hi
 have h3:=h.gr
 rw[Zlj]at h1
 rw[ZrU]at h3
 have:=Zo0 l
 have:=h.g9
 exact⟨h.good t (by simp),λx hx=>h.good x (by simp[hx]),by omega,by simpa[ZeS]using h2,by omega⟩
theorem F.step{t x:T}{l:List T}(h:F t (x::l))(a:Option Addr)(c:Nat):F (Zh0 4 a c (ZbX 4 t++ZbX 4 x)) l:=by
 have h1:=h.sz
 have h2:=h.pos
 have h3:=h.gr
 rw[Zlj,List.length_cons]at h1
 rw[ZrU]at h3
 simp only[ZeS]at h2
 have n1:=ZhH l
 have n2:=(Zit x).1
 have n3:=(Zit t).1
 obtain⟨a1,a2,a3,a4⟩:=Zll (.inr rfl) h.good (by omega) (t:=t)
 obtain⟨b1,b2,b3,b4⟩:=Zll (.inr rfl) (h.goods x (by simp)) (by omega)
 obtain⟨c1,c2,c3,c4⟩:=Zo1 (.inr rfl) a c (l:=ZbX 4 t++ZbX 4 x) (λz hz=>by
  rcases List.mem_append.1 hz with hz|hz
  ·exact a1 z hz
  ·exact b1 z hz)
 rw[ZaV]at c2
 rw[Zb6]at c3
 rw[Zbn]at c4
 exact⟨c1,λz hz=>h.goods z (by simp[hz]),by omega,by omega,by omega⟩
theorem F.done{t:T}{l:List T}(h:F t l):t.check=0:=by
 have h1:=h.sz
 have h2:=h.pos
 have h3:=h.gr
 have n1:=ZhH l
 have hl:t.light=true:=by unfold T.light;exact decide_eq_true (by omega)
 have hc:t.clean=true:=by unfold T.clean;rw[hl];exact h.good
 have hg:((t.nodes.countP λx=>x.k == 6:Nat))=t.gr:=rfl
 unfold T.check
 rw[hc]
 unfold T.size T.positions T.groups
 rw[hl,hg]
 simp only[if_true,Bool.true_eq_false,if_false]
 rw[if_neg (by omega),if_neg (by omega),if_neg (by omega)]
theorem Zcs{t:T}(h:t.check=0):t.good=true/\t.nodes.length<=120:=by
 unfold T.check at h
 split at h
 ·exact absurd h (by decide)
 ·rename_i hc
  have hc':t.clean=true:=by simpa using hc
  unfold T.clean at hc'
  rw[Bool.and_eq_true]at hc'
  split at h
  ·exact absurd h (by decide)
  ·rename_i hz
   unfold T.size at hz
   rw[hc'.1]at hz
   simp only[if_true]at hz
   exact⟨hc'.2,by omega⟩
theorem ZrW(n:Nat):(Zli (Zes n)).good=true/\(Zli (Zes n)).nodes.length=1/\(Zli (Zes n)).pos<=1/\(Zli (Zes n)).gr=0:=by
 have h:n % 12=0\/n % 12=1\/n % 12=2\/n % 12=3\/n % 12=4\/n % 12=5\/n % 12=6\/n % 12=7\/n % 12=8\/n % 12=9\/n % 12=10\/n % 12=11:=by omega
 unfold Zes
 rcases h with e|e|e|e|e|e|e|e|e|e|e|e <;> rw[e] <;> exact⟨by decide,by decide,by decide,by decide⟩
theorem Zxu:T1.good=true/\T1.nodes.length=1/\T1.pos<=1/\T1.gr=0:=⟨by decide,by decide,by decide,by decide⟩
theorem ZfP{k:Int}{t:T}:(ZbX k t).length<=t.nodes.length:=by
 unfold ZbX
 have:=Zux t
 have:=ZrV t
 split
 ·omega
 ·split <;> simp <;> omega
def nsL(l:List Nat):List Value:=l.map λi:Nat=>.int .i64 (i:Nat)
def ZjJ:List Nat->List Nat->List Nat
 | seen,[]=>seen
 | seen,i::l=>if i∈seen then ZjJ seen l else ZjJ (seen++[i]) l
def ddp(l:List Nat):List Nat:=ZjJ [] l
theorem ZnX:∀{l seen:List Nat} {j:Nat},j∈ZjJ seen l↔j∈seen\/j∈l
 | [],seen,j=>by simp[ZjJ]
 | i::l,seen,j=>by
  unfold ZjJ
  by_cases h:i∈seen
  ·rw[if_pos h,ZnX,List.mem_cons]
   constructor
   ·rintro(h1|h1)
    ·exact .inl h1
    ·exact .inr (.inr h1)
   ·rintro(h1|rfl|h1)
    ·exact .inl h1
    ·exact .inl h
    ·exact .inr h1
  ·rw[if_neg h,ZnX,List.mem_append,List.mem_singleton,or_assoc,List.mem_cons]
theorem Zcv{l:List Nat}{j:Nat}:j∈ddp l↔j∈l:=by unfold ddp;rw[ZnX];simp
theorem ZhI:∀{l r seen:List Nat},ZjJ seen (l++r)=ZjJ (ZjJ seen l) r
 | [],r,seen=>rfl
 | i::l,r,seen=>by
  simp only[List.cons_append,ZjJ]
  split
  ·exact ZhI
  ·exact ZhI
def Zhd:List (Nat->List Nat)->Nat->List Nat
 | [],i=>[i]
 | f::r,i=>ddp ((f i).flatMap (Zhd r))
def Ziv(mx:Int)(d:Nat):Bool:=mx == -1||decide ((d:Int) < mx)
def Zbe(mn mx:Int)(d:Nat):Nat:=if mx=-1 then min (d+1) mn.toNat else d+1
def Zcp(f:Nat->List Nat)(mn mx:Int)(d i:Nat):List Nat:=if Ziv mx d=true then(f i).filter λj=>decide (i < j)||decide ((d:Int) < mn)else[]
def ZnO(mn:Int)(d i:Nat):List Nat:=if(d:Int) ≥ mn then[i]else[]
def ZkD(f:Nat->List Nat)(mn mx:Int):Nat->Nat->Nat->List Nat
 | 0,_,_=>[]
 | k+1,d,i=>ddp ((Zcp f mn mx d i).flatMap (ZkD f mn mx k (Zbe mn mx d))++ZnO mn d i)
def mR(len:Nat)(mn mx:Int)(d i:Nat):Nat:=if mx=-1 then(mn.toNat - d)+(len - i)else mx.toNat - d
def ZyO(t:T)(s:List Nat)(i:Nat):List Nat:=match s[i]? with
 | some c=>if t.hasB c=true then[i+1]else[]
 | none=>[]
mutual
def T.e0(s:List Nat):T->Nat->List Nat
 | .node k s0 s1 s2 s3 mn mx a c l=>λi=>
  if k=1 then[i]else if k=2 then ZyO (.node k s0 s1 s2 s3 mn mx a c l) s i
  else if k=6 then ddp (hd0 s l i)
  else if k=4 then ddp (Zo2 s l i)
  else if k=3 then Zhd (e0s s l) i
  else if k=5 then ZkD (hd0 s l) mn mx (mR s.length mn mx 0 i+1) 0 i else[]
def hd0(s:List Nat):List T->Nat->List Nat
 | []=>λ_=>[]
 | t::_=>λi=>t.e0 s i
def Zo2(s:List Nat):List T->Nat->List Nat
 | []=>λ_=>[]
 | t::l=>λi=>t.e0 s i++Zo2 s l i
def e0s(s:List Nat):List T->List (Nat->List Nat)
 | []=>[]
 | t::l=>t.e0 s::e0s s l
end
theorem ZrX(s:List Nat):∀l:List T,e0s s l=l.map (T.e0 s)
 | []=>by simp[e0s]
 | t::l=>by simp[e0s,ZrX s l]
theorem Zo3(s:List Nat)(i:Nat):∀l:List T,Zo2 s l i=(l.map λt=>t.e0 s i).flatten
 | []=>by simp[Zo2]
 | t::l=>by simp[Zo2,Zo3 s i l]
def T.ends(s:List Nat)(t:T)(d i:Nat):List Nat:=
 if t.k=3 then Zhd ((t.subs.map (T.e0 s)).drop d) i else if t.k=5 then ZkD (hd0 s t.subs) t.mn t.mx (mR s.length t.mn t.mx d i+1) d i else t.e0 s i
theorem Za9(s:List Nat)(t:T)(i:Nat):t.ends s 0 i=t.e0 s i:=by
 unfold T.ends
 cases t with
 | node k s0 s1 s2 s3 mn mx a c l=>
  simp only[T.k,T.subs,T.mn,T.mx,List.drop_zero]
  by_cases h:k=3
  ·subst h
   simp[T.e0,ZrX]
  ·simp only[h,if_false]
   by_cases h:k=5
   ·subst h
    simp[T.e0]
   ·simp only[h,if_false]
def T.lists(s:List Nat)(t:T)(d i:Nat):List (List Nat):=
 if t.k=1 then[[i]]else if t.k=2 then(match s[i]? with
  | some c=>if t.hasB c=true then[[i+1]]else[]
  | none=>[])
 else if t.k=6 then[hd0 s t.subs i]
 else if t.k=4 then t.subs.map λx=>x.e0 s i
 else if t.k=3 then(match t.subs[d]? with
  | none=>[[i]]
  | some x=>(x.e0 s i).map λj=>t.ends s (d+1) j)
 else if t.k=5 then((Zcp (hd0 s t.subs) t.mn t.mx d i).map λj=>t.ends s (Zbe t.mn t.mx d) j)++(if(d:Int) ≥ t.mn then[[i]]else[])else[]
def Zde(len:Nat)(f:Nat->List Nat):Prop:=∀i,i<=len->∀j∈f i,i<=j/\j<=len
theorem Zdn{len:Nat}:∀{l:List (Nat->List Nat)},(∀f∈l,Zde len f)->Zde len (Zhd l)
 | [],_,i,hi,j,hj=>by simp[Zhd]at hj;omega
 | f::l,h,i,hi,j,hj=>by
  simp only[Zhd]at hj
  rw[Zcv,List.mem_flatMap]at hj
  obtain⟨x,hx,hj⟩:=hj
  obtain⟨h1,h2⟩:=h f (by simp) i hi x hx
  obtain⟨h3,h4⟩:=Zdn (λf hf=>h f (by simp[hf])) x h2 j hj
  omega
theorem Zbb{f:Nat->List Nat}{mn mx:Int}{d i j:Nat}(h:j∈Zcp f mn mx d i):Ziv mx d=true/\j∈f i/\(i < j\/(d:Int) < mn):=by
 unfold Zcp at h
 split at h
 ·rename_i hm
  rw[List.mem_filter]at h
  simp only[Bool.or_eq_true,decide_eq_true_eq]at h
  exact⟨hm,h.1,h.2⟩
 ·simp at h
theorem Zdo{len:Nat}{f:Nat->List Nat}(hf:Zde len f){mn mx:Int}:∀{k d:Nat},Zde len (ZkD f mn mx k d)
 | 0,d,i,hi,j,hj=>by simp[ZkD]at hj
 | k+1,d,i,hi,j,hj=>by
  simp only[ZkD]at hj
  rw[Zcv,List.mem_append,List.mem_flatMap]at hj
  rcases hj with⟨x,hx,hj⟩|hj
  ·obtain⟨_,h1,_⟩:=Zbb hx
   obtain⟨h2,h3⟩:=hf i hi x h1
   obtain⟨h4,h5⟩:=Zdo hf x h3 j hj
   omega
  ·unfold ZnO at hj
   split at hj
   ·simp at hj;omega
   ·simp at hj
theorem ZrY{len:Nat}{mn mx:Int}{d i j:Nat}(fX:0<=mn)(eX:mx=-1\/mn<=mx)(hm:Ziv mx d=true)(hj:i<=j/\j<=len)(h:i < j\/(d:Int) < mn):mR len mn mx (Zbe mn mx d) j < mR len mn mx d i:=by
 unfold mR Zbe
 unfold Ziv at hm
 simp only[Bool.or_eq_true,beq_iff_eq,decide_eq_true_eq]at hm
 by_cases e:mx=-1
 ·simp only[e,if_true]
  rcases Nat.lt_or_ge d mn.toNat with h1|h1
  ·rw[Nat.min_eq_left (by omega)];omega
  ·rw[Nat.min_eq_right (by omega)];omega
 ·simp only[e,if_false]
  have:=hm.resolve_left e
  omega
theorem Ziw{len:Nat}{f:Nat->List Nat}(hf:Zde len f){mn mx:Int}(fX:0<=mn)(eX:mx=-1\/mn<=mx):∀{k k' d i:Nat},i<=len->mR len mn mx d i < k->mR len mn mx d i < k'->ZkD f mn mx k d i=ZkD f mn mx k' d i
 | 0,k',d,i,_,h,_=>by omega
 | k+1,0,d,i,_,_,h=>by omega
 | k+1,k'+1,d,i,hi,h1,h2=>by
  simp only[ZkD]
  congr 2
  have:∀x∈Zcp f mn mx d i,ZkD f mn mx k (Zbe mn mx d) x=ZkD f mn mx k' (Zbe mn mx d) x:=λx hx=>by
   obtain⟨g1,g2,g3⟩:=Zbb hx
   obtain⟨g4,g5⟩:=hf i hi x g2
   have:=ZrY (len:=len) fX eX g1 ⟨g4,g5⟩ g3
   exact Ziw hf fX eX g5 (by omega) (by omega)
  rw[List.flatMap_def,List.flatMap_def,List.map_congr_left this]
mutual
theorem ZaQ(s:List Nat):∀t:T,Zde s.length (t.e0 s)
 | .node k s0 s1 s2 s3 mn mx a c l=>λi hi j hj=>by
  simp only[T.e0]at hj
  split at hj
  ·simp at hj;omega
  ·split at hj
   ·unfold ZyO at hj
    split at hj
    ·rename_i c hc
     have:=(List.getElem?_eq_some_iff.1 hc).1
     split at hj
     ·simp at hj;omega
     ·simp at hj
    ·simp at hj
   ·split at hj
    ·rw[Zcv]at hj
     exact Za6 s l i hi j hj
    ·split at hj
     ·rw[Zcv]at hj
      exact Zkk s l i hi j hj
     ·split at hj
      ·exact Zdn (ZfB s l) i hi j hj
      ·split at hj
       ·exact Zdo (Za6 s l) i hi j hj
       ·simp at hj
theorem Za6(s:List Nat):∀l:List T,Zde s.length (hd0 s l)
 | []=>λi hi j hj=>by simp[hd0]at hj
 | t::l=>λi hi j hj=>ZaQ s t i hi j (by simpa[hd0]using hj)
theorem Zkk(s:List Nat):∀l:List T,Zde s.length (Zo2 s l)
 | []=>λi hi j hj=>by simp[Zo2]at hj
 | t::l=>λi hi j hj=>by
  simp only[Zo2,List.mem_append]at hj
  rcases hj with hj|hj
  ·exact ZaQ s t i hi j hj
  ·exact Zkk s l i hi j hj
theorem ZfB(s:List Nat):∀l:List T,∀f∈e0s s l,Zde s.length f
 | []=>λf hf=>by simp[e0s]at hf
 | t::l=>λf hf=>by
  simp only[e0s,List.mem_cons]at hf
  rcases hf with rfl|hf
  ·exact ZaQ s t
  ·exact ZfB s l f hf
end
theorem ZhJ(s:List Nat)(t:T)(d:Nat):Zde s.length (t.ends s d):=λi hi j hj=>by
 unfold T.ends at hj
 split at hj
 ·exact Zdn (λf hf=>by
   obtain⟨x,_,rfl⟩:=List.mem_map.1 (List.mem_of_mem_drop hf)
   exact ZaQ s x) i hi j hj
 ·split at hj
  ·exact Zdo (Za6 s t.subs) i hi j hj
  ·exact ZaQ s t i hi j hj
theorem ZqW(s:List Nat)(t:T)(d i:Nat)(hi:i<=s.length)(hk:t.k=5->0<=t.mn/\(t.mx=-1\/t.mn<=t.mx)):t.ends s d i=ddp (t.lists s d i).flatten:=by
 unfold T.ends T.lists
 by_cases h3:t.k=3
 ·simp only[h3,if_true,show ¬(3:Int)=1 by decide,show ¬(3:Int)=2 by decide,show ¬(3:Int)=6 by decide,show ¬(3:Int)=4 by decide,if_false]
  cases hd:t.subs[d]? with
  | none=>
   have:t.subs.length<=d:=List.getElem?_eq_none_iff.1 hd
   rw[List.drop_eq_nil_of_le (by simpa using this)]
   rfl
  | some x=>
   have bF:=(List.getElem?_eq_some_iff.1 hd).1
   rw[List.drop_eq_getElem_cons (by simpa using bF)]
   simp only[Zhd,List.getElem_map]
   have hx:t.subs[d]=x:=(List.getElem?_eq_some_iff.1 hd).2
   rw[hx,List.flatMap_def]
   congr 2
   refine List.map_congr_left λj _=>?_
   unfold T.ends
   rw[if_pos h3]
 ·simp only[h3,if_false]
  by_cases h5:t.k=5
  ·obtain⟨fX,eX⟩:=hk h5
   simp only[h5,if_true,show ¬(5:Int)=1 by decide,show ¬(5:Int)=2 by decide,show ¬(5:Int)=6 by decide,show ¬(5:Int)=4 by decide,if_false]
   simp only[ZkD]
   congr 1
   rw[List.flatten_append]
   congr 1
   ·rw[List.flatMap_def]
    congr 1
    refine List.map_congr_left λj hj=>?_
    obtain⟨g1,g2,g3⟩:=Zbb hj
    obtain⟨g4,g5⟩:=Za6 s t.subs i hi j g2
    have:=ZrY (len:=s.length) fX eX g1 ⟨g4,g5⟩ g3
    unfold T.ends
    rw[if_neg (by rw[h5];decide),if_pos h5]
    exact Ziw (Za6 s t.subs) fX eX g5 (by omega) (by omega)
   ·unfold ZnO;split <;> rfl
  ·simp only[h5,if_false]
   cases t with
   | node k s0 s1 s2 s3 mn mx a c l=>
    simp only[T.k]at h3 h5 ⊢
    simp only[T.e0,h3,h5,if_false,T.subs]
    by_cases h1:k=1
    ·simp[h1,ddp,ZjJ]
    ·simp only[h1,if_false]
     by_cases h2:k=2
     ·simp only[h2,if_true]
      unfold ZyO
      cases s[i]? with
      | none=>rfl
      | some ch=>simp only;split <;> rfl
     ·simp only[h2,if_false]
      by_cases h6:k=6
      ·simp[h6]
      ·simp only[h6,if_false]
       by_cases h4:k=4
       ·simp only[h4,if_true];rw[Zo3]
       ·simp only[h4,if_false];rfl
noncomputable abbrev but(m:Mem)(kb:Nat):Mem:=m.off (λb=>b=kb)
theorem Zlm{m:Mem}{kb:Nat}(o:Nat):but m kb kb o=none:=Mem.off_free (Y:=λb=>b=kb) rfl o
theorem Znh{m:Mem}{kb b:Nat}(h:b≠kb)(o:Nat):but m kb b o=m b o:=Mem.off_at (Y:=λb=>b=kb) h o
theorem Zni{m:Mem}{kb:Nat}:(but m kb).k kb=none:=Mem.off_kn (Y:=λb=>b=kb) rfl
theorem ZzJ{m:Mem}{kb b:Nat}(h:b≠kb):(but m kb).k b=m.k b:=Mem.off_k (Y:=λb=>b=kb) h
theorem Zix(m:Mem)(kb:Nat):(but m kb).le m:=Mem.off_le _ _
theorem Zfs{m m':Mem}{kb:Nat}(h:(but m kb).le m'):(but m kb).le (but m' kb):=⟨λb o v hv=>by
 by_cases e:b=kb
 ·subst e;rw[Zlm]at hv;cases hv
 ·rw[Znh e];exact h.c b o v hv,λb v hv=>by
 by_cases e:b=kb
 ·subst e;rw[Zni]at hv;cases hv
 ·rw[ZzJ e];exact h.k b v hv⟩
theorem Zo4{m m':Mem}{kb:Nat}(h:m.le m'):(but m kb).le (but m' kb):=Zfs (mLt (Mem.off_le _ _) h)
inductive Nd where
 | mk (b id grp:Nat) (t:T) (a:Option Addr) (c:Nat) (subs:List Nd)
def Nd.b:Nd->Nat
 | .mk b _ _ _ _ _ _=>b
def Nd.id:Nd->Nat
 | .mk _ i _ _ _ _ _=>i
def Nd.grp:Nd->Nat
 | .mk _ _ g _ _ _ _=>g
def Nd.t:Nd->T
 | .mk _ _ _ t _ _ _=>t
def Nd.a:Nd->Option Addr
 | .mk _ _ _ _ a _ _=>a
def Nd.c:Nd->Nat
 | .mk _ _ _ _ _ c _=>c
def Nd.subs:Nd->List Nd
 | .mk _ _ _ _ _ _ l=>l
def Nd.cs(n:Nd):List Value:=n.t.cs++[.int .i64 n.id,.int .i64 n.grp,.slice n.a n.subs.length n.c]
mutual
def NRep(m:Mem):Nd->Prop
 | .mk b id grp t a c l=>m.reads b 0 (t.cs++[.int .i64 (id:Nat),.int .i64 (grp:Nat),.slice a l.length c])/\(Rep m t/\l.map Nd.t=t.subs)/\(id < 4611686018427387904/\grp < 4611686018427387904)/\(l=[]\/∃b0 o,a=some ⟨b0,o,none⟩/\NRow m b0 o l)
def NRow(m:Mem)(b0:Nat):Nat->List Nd->Prop
 | _,[]=>True
 | o,x::l=>m b0 o=some (ptr x.b 0)/\NRep m x/\NRow m b0 (o+1) l
end
theorem ZdN{m:Mem}{n:Nd}:NRep m n↔m.reads n.b 0 n.cs/\(Rep m n.t/\n.subs.map Nd.t=n.t.subs)/\(n.id < 4611686018427387904/\n.grp < 4611686018427387904)/\(n.subs=[]\/∃b0 o,n.a=some ⟨b0,o,none⟩/\NRow m b0 o n.subs):=by
 cases n;simp only[NRep,Nd.b,Nd.cs,Nd.t,Nd.subs,Nd.a,Nd.id,Nd.grp,Nd.c]
mutual
theorem NRep.mono{m m':Mem}(h:m.le m'):∀n:Nd,NRep m n->NRep m' n
 | .mk b id grp t a c l,hr=>by
  simp only[NRep]at hr ⊢
  refine⟨hr.1.mono h,⟨Rep.mono h t hr.2.1.1,hr.2.1.2⟩,hr.2.2.1,?_⟩
  rcases hr.2.2.2 with h1|⟨b0,o,h1,h2⟩
  ·exact .inl h1
  ·exact .inr ⟨b0,o,h1,NRow.mono h b0 o l h2⟩
theorem NRow.mono{m m':Mem}(h:m.le m')(b0:Nat):∀(o:Nat)(l:List Nd),NRow m b0 o l->NRow m' b0 o l
 | _,[],_=>by simp only[NRow]
 | o,x::l,hr=>by
  simp only[NRow]at hr ⊢
  exact⟨h.c _ _ _ hr.1,NRep.mono h x hr.2.1,NRow.mono h b0 (o+1) l hr.2.2⟩
end
theorem NRow.get{m:Mem}{b0:Nat}:∀{o:Nat} {l:List Nd} {i:Nat} {x:Nd},NRow m b0 o l->l[i]?=some x->m b0 (o+i)=some (ptr x.b 0)/\NRep m x
 | o,[],i,x,_,hi=>by simp at hi
 | o,y::l,0,x,h,hi=>by
  simp only[NRow]at h
  simp at hi;subst hi
  exact⟨h.1,h.2.1⟩
 | o,y::l,i+1,x,h,hi=>by
  simp only[NRow]at h
  have:=h.2.2.get (i:=i) (by simpa using hi)
  rw[show o+(i+1)=o+1+i by omega];exact this
mutual
def Nd.all:Nd->List Nd
 | .mk b id grp t a c l=>.mk b id grp t a c l::ZlU l
def ZlU:List Nd->List Nd
 | []=>[]
 | x::l=>x.all++ZlU l
end
theorem Zxv(n:Nd):n.all=n::ZlU n.subs:=by cases n;simp only[Nd.all,Nd.subs]
theorem Zdg(n:Nd):n∈n.all:=by rw[Zxv];simp
theorem ZvH{l:List Nd}{x y:Nd}(hx:x∈l)(hy:y∈x.all):y∈ZlU l:=by
 induction l with
 | nil=>cases hx
 | cons z l ih=>
  simp only[ZlU,List.mem_append]
  rcases List.mem_cons.1 hx with rfl|hx
  ·exact .inl hy
  ·exact .inr (ih hx)
mutual
theorem Zo5:∀(n x y:Nd),x∈n.all->y∈x.all->y∈n.all
 | .mk b id grp t a c l,x,y,hx,hy=>by
  simp only[Nd.all,List.mem_cons]at hx ⊢
  rcases hx with rfl|hx
  ·simp only[Nd.all,List.mem_cons]at hy;exact hy
  ·exact .inr (Zmx l x y hx hy)
theorem Zmx:∀(l:List Nd)(x y:Nd),x∈ZlU l->y∈x.all->y∈ZlU l
 | [],x,y,hx,_=>by simp[ZlU]at hx
 | z::l,x,y,hx,hy=>by
  simp only[ZlU,List.mem_append]at hx ⊢
  rcases hx with hx|hx
  ·exact .inl (Zo5 z x y hx hy)
  ·exact .inr (Zmx l x y hx hy)
end
theorem ZeZ{n x y:Nd}(h:x∈n.all)(hy:y∈x.subs):y∈n.all:=Zo5 n x y h (by rw[Zxv];exact List.mem_cons_of_mem _ (ZvH hy (Zdg y)))
mutual
theorem ZbL{m:Mem}:∀n:Nd,NRep m n->∀x∈n.all,NRep m x
 | .mk b id grp t a c l,hr,x,hx=>by
  simp only[Nd.all,List.mem_cons]at hx
  rcases hx with rfl|hx
  ·exact hr
  ·simp only[NRep]at hr
   rcases hr.2.2.2 with h|⟨b0,o,_,h⟩
   ·subst h;simp[ZlU]at hx
   ·exact ZrZ b0 o l h x hx
theorem ZrZ{m:Mem}(b0:Nat):∀(o:Nat)(l:List Nd),NRow m b0 o l->∀x∈ZlU l,NRep m x
 | _,[],_,x,hx=>by simp[ZlU]at hx
 | o,y::l,hr,x,hx=>by
  simp only[NRow]at hr
  simp only[ZlU,List.mem_append]at hx
  rcases hx with hx|hx
  ·exact ZbL y hr.2.1 x hx
  ·exact ZrZ b0 (o+1) l hr.2.2 x hx
end
theorem ZzK{n x:Nd}(h:x∈n.subs):SizeOf.sizeOf x < SizeOf.sizeOf n:=by
 cases n with
 | mk b id grp t a c l=>
  have h':x∈l:=h
  have:=List.sizeOf_lt_of_mem h'
  simp only[Nd.mk.sizeOf_spec]
  omega
def plK(id d i:Nat):Value:=.agg #[.int .i64 (id:Nat),.int .i64 (d:Nat),.int .i64 (i:Nat)]
def Memo(B:Mem)(root:Nd)(s:List Nat)(es:List (Value×Value)):Prop:=
 ∀e∈es,∃(n:Nd)(d i:Nat)(a:Option Addr)(c:Nat),n∈root.all/\e=(plK n.id d i,.slice a (n.t.ends s d i).length c)/\rowRd B a (nsL (n.t.ends s d i))
theorem Memo.mono{B B':Mem}{root:Nd}{s:List Nat}{es:List (Value×Value)}(h:Memo B root s es)(hB:B.le B'):Memo B' root s es:=λe he=>by
 obtain⟨n,d,i,a,c,h1,h2,h3⟩:=h e he
 exact⟨n,d,i,a,c,h1,h2,h3.mono hB⟩
structure Fin (B:Mem)(fb kb:Nat)(root:Nd)(sa:Option Addr)(s:List Nat)(sc:Nat):Prop where
 str:B fb 0=some (.slice sa s.length sc)
 memo:B fb 3=some (.map (some kb))
 byt:Byt B sa s
 len:s.length<=512
 rep:NRep B root
 ids:∀x∈root.all,∀y∈root.all,x.id=y.id->x=y
 good:∀x∈root.all,x.t.right=true
theorem Fin.mono{B B':Mem}{fb kb:Nat}{root:Nd}{sa:Option Addr}{s:List Nat}{sc:Nat}(h:Fin B fb kb root sa s sc)(hB:B.le B'):Fin B' fb kb root sa s sc:=
 ⟨hB.c _ _ _ h.str,hB.c _ _ _ h.memo,h.byt.mono hB,h.len,NRep.mono hB _ h.rep,h.ids,h.good⟩
theorem Zo6{m:Mem}{kb:Nat}{Z:Nat->Prop}(hz:Z kb):(m.off Z).le (but m kb):=⟨λb o v h=>by
 by_cases e:Z b
 ·rw[Mem.off_free e]at h;cases h
 ·rw[Mem.off_at e]at h
  rw[Znh (λh':b=kb=>e (by rw[h'];exact hz))];exact h,λb v h=>by
 by_cases e:Z b
 ·rw[Mem.off_kn e]at h;cases h
 ·rw[Mem.off_k e]at h
  rw[ZzJ (λh':b=kb=>e (by rw[h'];exact hz))];exact h⟩
theorem Zo7{m m':Mem}{Z:Nat->Prop}(h:(m.off Z).le m'):(m.off Z).le (m'.off Z):=⟨λb o v hv=>by
 by_cases e:Z b
 ·rw[Mem.off_free e]at hv;cases hv
 ·rw[Mem.off_at e];exact h.c b o v hv,λb v hv=>by
 by_cases e:Z b
 ·rw[Mem.off_kn e]at hv;cases hv
 ·rw[Mem.off_k e];exact h.k b v hv⟩
theorem ZuE{m m':Mem}{kb:Nat}{Z:Nat->Prop}(hz:Z kb)(h:(but m kb).le m'):(m.off Z).le (m'.off Z):=Zo7 (mLt (Zo6 hz) h)
theorem Zgk{m m':Mem}{Z:Nat->Prop}(h:m.le m'):(m.off Z).le (m'.off Z):=Zo7 (mLt (Mem.off_le _ _) h)
def HasM(m:Mem)(kb:Nat)(Z:Nat->Prop)(root:Nd)(s:List Nat):Prop:=∃es,m.k kb=some es/\Memo (m.off Z) root s es
theorem HasM.le{m m':Mem}{kb:Nat}{Z:Nat->Prop}{root:Nd}{s:List Nat}(h:HasM m kb Z root s)(hm:m.le m'):HasM m' kb Z root s:=by
 obtain⟨es,h1,h2⟩:=h
 exact⟨es,hm.k _ _ h1,h2.mono (Zgk hm)⟩
def ZOk(m:Mem)(kb:Nat)(Z:Nat->Prop):Prop:=Z kb/\∀b,Z b->b=kb\/∃v,m b 0=some v
theorem ZOk.next{m m':Mem}{kb:Nat}{Z:Nat->Prop}(h:ZOk m kb Z)(hm:(but m kb).le m'):ZOk m' kb Z:=⟨h.1,λb hb=>by
 rcases h.2 b hb with e|⟨v,hv⟩
 ·exact .inl e
 ·by_cases e:b=kb
  ·exact .inl e
  ·exact .inr ⟨v,hm.c _ _ _ (by rw[Znh e];exact hv)⟩⟩
theorem ZOk.le{m m':Mem}{kb:Nat}{Z:Nat->Prop}(h:ZOk m kb Z)(hm:m.le m'):ZOk m' kb Z:=h.next (mLt (Zix _ _) hm)
theorem ZOk.new{m:Mem}{kb b:Nat}{Z:Nat->Prop}(h:ZOk m kb Z)(hk:∃es,m.k kb=some es)(h1:m.free b)(h2:m.k b=none):¬Z b:=λhb=>by
 rcases h.2 b hb with e|⟨v,hv⟩
 ·subst e
  obtain⟨es,eD⟩:=hk
  rw[eD]at h2;cases h2
 ·rw[h1 0]at hv;cases hv
abbrev PL:=List (Int×Int)
def ZnP(W:Nat->Nat->PL->PL)(E:Nat->List Nat)(len:Nat)(mn mx:Int)(to:Nat):Nat->Nat->Nat->PL->Nat->PL×Nat
 | 0,_,_,P,r=>(P,r)
 | k+1,d,i,P,r=>match(Zcp E mn mx d i).find? (λj=>decide (to∈ZkD E mn mx (mR len mn mx (Zbe mn mx d) j+1) (Zbe mn mx d) j))with
  | none=>(P,r)
  | some j=>ZnP W E len mn mx to k (Zbe mn mx d) j (W i j P) (r+1)
mutual
def T.ngr:T->Nat
 | .node k _ _ _ _ _ _ _ _ l=>(if k=6 then 1 else 0)+ZdO l
def ZdO:List T->Nat
 | []=>0
 | t::l=>t.ngr+ZdO l
end
theorem Zxw(t:T):t.ngr=(if t.k=6 then 1 else 0)+ZdO t.subs:=by cases t;rfl
mutual
def T.wk(s:List Nat):T->Nat->Nat->Nat->PL->PL×Nat
 | .node k s0 s1 s2 s3 mn mx a c l=>λg i to P=>
  if k=6 then(hdW s l (g+1) i to (P.set g ((i:Int),(to:Int))),0)
  else if k=4 then(Zjp s l g i to P,0)
  else if k=3 then(Zjq s l g i to P,0)
  else if k=5 then ZnP (hdW s l g) (hd0 s l) s.length mn mx to (mR s.length mn mx 0 i+1) 0 i P 0
  else(P,0)
def hdW(s:List Nat):List T->Nat->Nat->Nat->PL->PL
 | []=>λ_ _ _ P=>P
 | t::_=>λg i to P=>(t.wk s g i to P).1
def Zjp(s:List Nat):List T->Nat->Nat->Nat->PL->PL
 | []=>λ_ _ _ P=>P
 | t::l=>λg i to P=>if to∈t.e0 s i then(t.wk s g i to P).1 else Zjp s l (g+t.ngr) i to P
def Zjq(s:List Nat):List T->Nat->Nat->Nat->PL->PL
 | []=>λ_ _ _ P=>P
 | t::l=>λg i to P=>match(t.e0 s i).find? (λj=>decide (to∈Zhd (e0s s l) j))with
  | none=>P
  | some j=>Zjq s l (g+t.ngr) j to (t.wk s g i j P).1
end
theorem Zxx(s:List Nat)(t:T)(g i to:Nat)(P:PL):t.wk s g i to P =
  if t.k=6 then(hdW s t.subs (g+1) i to (P.set g ((i:Int),(to:Int))),0)
  else if t.k=4 then(Zjp s t.subs g i to P,0)
  else if t.k=3 then(Zjq s t.subs g i to P,0)
  else if t.k=5 then ZnP (hdW s t.subs g) (hd0 s t.subs) s.length t.mn t.mx to (mR s.length t.mn t.mx 0 i+1) 0 i P 0
  else(P,0):=by cases t;rfl
theorem Zr0{W:Nat->Nat->PL->PL}(hW:∀i j P,(W i j P).length=P.length){E:Nat->List Nat}{len:Nat}{mn mx:Int}{to:Nat}:∀{k d i:Nat} {P:PL} {r:Nat},(ZnP W E len mn mx to k d i P r).1.length=P.length
 | 0,d,i,P,r=>rfl
 | k+1,d,i,P,r=>by
  unfold ZnP
  split
  ·rfl
  ·rw[Zr0 hW,hW]
mutual
theorem Zln(s:List Nat):∀(t:T)(g i to:Nat)(P:PL),(t.wk s g i to P).1.length=P.length
 | .node k s0 s1 s2 s3 mn mx a c l=>λg i to P=>by
  simp only[T.wk]
  split
  ·rw[Zr1 s l];simp
  ·split
   ·exact Zr2 s l _ _ _ _
   ·split
    ·exact Zr3 s l _ _ _ _
    ·split
     ·exact Zr0 λi j P=>Zr1 s l _ _ _ _
     ·rfl
theorem Zr1(s:List Nat):∀(l:List T)(g i to:Nat)(P:PL),(hdW s l g i to P).length=P.length
 | []=>λ_ _ _ _=>by simp[hdW]
 | t::_=>λg i to P=>by simp only[hdW];exact Zln s t g i to P
theorem Zr2(s:List Nat):∀(l:List T)(g i to:Nat)(P:PL),(Zjp s l g i to P).length=P.length
 | []=>λ_ _ _ _=>by simp[Zjp]
 | t::l=>λg i to P=>by
  simp only[Zjp]
  split
  ·exact Zln s t g i to P
  ·exact Zr2 s l _ _ _ _
theorem Zr3(s:List Nat):∀(l:List T)(g i to:Nat)(P:PL),(Zjq s l g i to P).length=P.length
 | []=>λ_ _ _ _=>by simp[Zjq]
 | t::l=>λg i to P=>by
  simp only[Zjq]
  split
  ·rfl
  ·rw[Zr3 s l,Zln s t]
end
theorem Zlo{f:Nat->List Nat}{r:List (Nat->List Nat)}{i to:Nat}:to∈Zhd (f::r) i↔∃j∈f i,to∈Zhd r j:=by
 simp only[Zhd]
 rw[Zcv,List.mem_flatMap]
mutual
def Nd.num:Nd->Nat->Prop
 | .mk b id grp t a c l=>λg=>(t.k=6->grp=g)/\Zxy l (g+if t.k=6 then 1 else 0)
def Zxy:List Nd->Nat->Prop
 | []=>λ_=>True
 | x::l=>λg=>x.num g/\Zxy l (g+x.t.ngr)
end
theorem Zxz(n:Nd)(g:Nat):n.num g↔(n.t.k=6->n.grp=g)/\Zxy n.subs (g+if n.t.k=6 then 1 else 0):=by
 cases n;exact Iff.rfl
def PtAt(m:Mem)(pa:Option Addr)(P:PL):Prop:=(P=[]/\pa=none)\/∃b,pa=some ⟨b,0,none⟩/\(∀q p,P[q]?=some p->m b (q*2)=some (.int .i64 p.1)/\m b (q*2+1)=some (.int .i64 p.2))/\P≠[]
theorem PtAt.mono{m m':Mem}{pa:Option Addr}{P:PL}(h:PtAt m pa P)(hm:m.le m'):PtAt m' pa P:=by
 rcases h with h|⟨b,h1,h2,h3⟩
 ·exact .inl h
 ·exact .inr ⟨b,h1,λq p hq=>⟨hm.c _ _ _ (h2 q p hq).1,hm.c _ _ _ (h2 q p hq).2⟩,h3⟩
theorem PtAt.but{m:Mem}{pa:Option Addr}{P:PL}{kb:Nat}(h:PtAt m pa P)(hk:∀b,pa=some ⟨b,0,none⟩->b≠kb):PtAt (but m kb) pa P:=by
 rcases h with h|⟨b,h1,h2,h3⟩
 ·exact .inl h
 ·exact .inr ⟨b,h1,λq p hq=>by rw[Znh (hk b h1),Znh (hk b h1)];exact h2 q p hq,h3⟩
def Zp(kb:Nat)(pa:Option Addr)(b:Nat):Prop:=b=kb\/pa=some ⟨b,0,none⟩
theorem PtAt.upd{m:Mem}{pa:Option Addr}{P:PL}{b g:Nat}{x y:Int}(h:PtAt m pa P)(hb:pa=some ⟨b,0,none⟩)(hg:g < P.length):PtAt (m.upd b (0+g*2) [.int .i64 x,.int .i64 y]) pa (P.set g (x,y)):=by
 rcases h with⟨h,_⟩|⟨b',h1,h2,h3⟩
 ·subst h;simp at hg
 rw[hb]at h1;cases h1
 refine .inr ⟨b,hb,λq p hq=>?_,by simp[h3]⟩
 rw[Nat.zero_add]
 by_cases e:q=g
 ·subst e
  rw[List.getElem?_set_self hg]at hq
  cases hq
  constructor
  ·show(if b=b/\q*2<=q*2/\q*2 < q*2+2 then _ else _)=_
   rw[if_pos ⟨rfl,by omega,by omega⟩]
   simp
  ·show(if b=b/\q*2<=q*2+1/\q*2+1 < q*2+2 then _ else _)=_
   rw[if_pos ⟨rfl,by omega,by omega⟩]
   simp
 ·rw[List.getElem?_set_ne (Ne.symm e)]at hq
  obtain⟨g1,g2⟩:=h2 q p hq
  constructor
  ·show(if b=b/\g*2<=q*2/\q*2 < g*2+2 then _ else _)=_
   rw[if_neg (by omega)];exact g1
  ·show(if b=b/\g*2<=q*2+1/\q*2+1 < g*2+2 then _ else _)=_
   rw[if_neg (by omega)];exact g2
theorem ZxA{m:Mem}{Z:Nat->Prop}{b o:Nat}{vs:List Value}(h:Z b):(m.off Z).le ((m.upd b o vs).off Z):=⟨λb' o' v hv=>by
 by_cases e:Z b'
 ·rw[Mem.off_free e]at hv;cases hv
 ·rw[Mem.off_at e]at hv ⊢
  rw[Mem.upd_other m (λh':b'=b=>e (by rw[h'];exact h))];exact hv,λb' v hv=>by
 by_cases e:Z b'
 ·rw[Mem.off_kn e]at hv;cases hv
 ·rw[Mem.off_k e]at hv ⊢;exact hv⟩
theorem Zr4{x:Nd}:∀{l:List Nd} {j g:Nat},Zxy (l.drop j) g->l[j]?=some x->x.num g/\Zxy (l.drop (j+1)) (g+x.t.ngr):=λ{l j g} h hx=>by
 rw[Ziu hx]at h
 exact h
mutual
def Nd.idn:Nd->Nat->Prop
 | .mk b id grp t a c l=>λk=>id=k/\ZyP l (k+1)
def ZyP:List Nd->Nat->Prop
 | []=>λ_=>True
 | x::l=>λk=>x.idn k/\ZyP l (k+x.t.nodes.length)
end
theorem Zzc(n:Nd)(k:Nat):n.idn k↔n.id=k/\ZyP n.subs (k+1):=by
 cases n;exact Iff.rfl
theorem Zr5{x:Nd}:∀{l:List Nd} {g:Nat},Zxy l g->x.num (g+ZdO (l.map Nd.t))->Zxy (l++[x]) g
 | [],g,_,h=>⟨by simpa[ZdO]using h,trivial⟩
 | y::l,g,h1,h=>⟨h1.1,Zr5 h1.2 (by simpa[ZdO,Nat.add_assoc]using h)⟩
theorem Zr6{x:Nd}:∀{l:List Nd} {k:Nat},ZyP l k->x.idn (k+(Zak (l.map Nd.t)).length)->ZyP (l++[x]) k
 | [],k,_,h=>⟨by simpa[Zak]using h,trivial⟩
 | y::l,k,h1,h=>⟨h1.1,Zr6 h1.2 (by simpa[Zak,Nat.add_assoc]using h)⟩
theorem Ziy{l:List T}{i:Nat}{t:T}(h:l[i]?=some t):ZdO (l.take (i+1))=ZdO (l.take i)+t.ngr:=by
 have app:∀(a b:List T),ZdO (a++b)=ZdO a+ZdO b:=λa b=>by
  induction a with
  | nil=>simp[ZdO]
  | cons x a ih=>simp[ZdO,ih,Nat.add_assoc]
 rw[Zcf h,app];simp[ZdO]
theorem ZuF{l:List T}{i:Nat}:ZdO (l.take i)<=ZdO l:=by
 induction l generalizing i with
 | nil=>simp[ZdO]
 | cons x l ih=>
  cases i with
  | zero=>simp[ZdO]
  | succ i=>simp only[List.take_succ_cons,ZdO];have:=ih (i:=i);omega
theorem Zo8{l:List T}{i:Nat}:(Zak (l.take i)).length<=(Zak l).length:=by
 induction l generalizing i with
 | nil=>simp[Zak]
 | cons x l ih=>
  cases i with
  | zero=>simp[Zak]
  | succ i=>simp only[List.take_succ_cons,Zak,List.length_append];have:=ih (i:=i);omega
def Nd.ok(n:Nd):Prop:=∀x∈n.all,x.subs.map Nd.t=x.t.subs
theorem ZxB{m:Mem}{n:Nd}(h:NRep m n):n.ok:=λx hx=>(ZdN.1 (ZbL n h x hx)).2.1.2
mutual
theorem ZvI:∀(n:Nd)(k:Nat),(∀x∈n.all,x.subs.map Nd.t=x.t.subs)->n.idn k->∀x∈n.all,k<=x.id/\x.id < k+n.t.nodes.length
 | .mk b id grp t a c l,k,ho,h,x,hx=>by
  obtain⟨rfl,h⟩:=h
  have he:l.map Nd.t=t.subs:=ho (.mk b id grp t a c l) (Zdg _)
  show id<=x.id/\x.id < id+t.nodes.length
  rw[Zbk t,<-he,List.length_cons]
  simp only[Nd.all,List.mem_cons]at hx
  rcases hx with rfl|hx
  ·show id<=id/\id < _
   omega
  ·have:=Zkl l (id+1) (λy hy=>ho y (by simp only[Nd.all,List.mem_cons];exact .inr hy)) h x hx
   omega
theorem Zkl:∀(l:List Nd)(k:Nat),(∀x∈ZlU l,x.subs.map Nd.t=x.t.subs)->ZyP l k->∀x∈ZlU l,k<=x.id/\x.id < k+(Zak (l.map Nd.t)).length
 | [],k,ho,h,x,hx=>by simp[ZlU]at hx
 | y::l,k,ho,h,x,hx=>by
  simp only[ZlU,List.mem_append]at hx ho
  simp only[List.map_cons,Zak,List.length_append]
  rcases hx with hx|hx
  ·have:=ZvI y k (λz hz=>ho z (.inl hz)) h.1 x hx;omega
  ·have:=Zkl l _ (λz hz=>ho z (.inr hz)) h.2 x hx;omega
end
mutual
theorem ZuG:∀(n:Nd)(k:Nat),(∀x∈n.all,x.subs.map Nd.t=x.t.subs)->n.idn k->∀x∈n.all,∀y∈n.all,x.id=y.id->x=y
 | .mk b id grp t a c l,k,ho,h,x,hx,y,hy,e=>by
  obtain⟨rfl,h⟩:=h
  have ho':∀y∈ZlU l,y.subs.map Nd.t=y.t.subs:=λy hy=>ho y (by simp only[Nd.all,List.mem_cons];exact .inr hy)
  simp only[Nd.all,List.mem_cons]at hx hy
  rcases hx with rfl|hx <;> rcases hy with rfl|hy
  ·rfl
  ·have:=Zkl l (id+1) ho' h y hy
   have e:id=y.id:=e
   omega
  ·have:=Zkl l (id+1) ho' h x hx
   have e:x.id=id:=e
   omega
  ·exact Zr7 l _ ho' h x hx y hy e
theorem Zr7:∀(l:List Nd)(k:Nat),(∀x∈ZlU l,x.subs.map Nd.t=x.t.subs)->ZyP l k->∀x∈ZlU l,∀y∈ZlU l,x.id=y.id->x=y
 | [],k,ho,h,x,hx,y,hy,e=>by simp[ZlU]at hx
 | z::l,k,ho,h,x,hx,y,hy,e=>by
  simp only[ZlU,List.mem_append]at hx hy ho
  rcases hx with hx|hx <;> rcases hy with hy|hy
  ·exact ZuG z k (λz hz=>ho z (.inl hz)) h.1 x hx y hy e
  ·have h1:=ZvI z k (λz hz=>ho z (.inl hz)) h.1 x hx
   have h2:=Zkl l _ (λz hz=>ho z (.inr hz)) h.2 y hy
   omega
  ·have h1:=ZvI z k (λz hz=>ho z (.inl hz)) h.1 y hy
   have h2:=Zkl l _ (λz hz=>ho z (.inr hz)) h.2 x hx
   omega
  ·exact Zr7 l _ (λz hz=>ho z (.inr hz)) h.2 x hx y hy e
end
mutual
theorem Zo9:∀(n:Nd),(∀x∈n.all,x.subs.map Nd.t=x.t.subs)->∀x∈n.all,x.t∈n.t.nodes
 | .mk b id grp t a c l,ho,x,hx=>by
  have he:l.map Nd.t=t.subs:=ho (.mk b id grp t a c l) (Zdg _)
  show x.t∈t.nodes
  rw[Zbk t,<-he]
  simp only[Nd.all,List.mem_cons]at hx
  rcases hx with rfl|hx
  ·exact List.mem_cons_self ..
  ·exact List.mem_cons_of_mem _ (Zmy l (λy hy=>ho y (by simp only[Nd.all,List.mem_cons];exact .inr hy)) x hx)
theorem Zmy:∀(l:List Nd),(∀x∈ZlU l,x.subs.map Nd.t=x.t.subs)->∀x∈ZlU l,x.t∈Zak (l.map Nd.t)
 | [],ho,x,hx=>by simp[ZlU]at hx
 | y::l,ho,x,hx=>by
  simp only[ZlU,List.mem_append]at hx ho
  simp only[List.map_cons,Zak,List.mem_append]
  rcases hx with hx|hx
  ·exact .inl (Zo9 y (λz hz=>ho z (.inl hz)) x hx)
  ·exact .inr (Zmy l (λz hz=>ho z (.inr hz)) x hx)
end
mutual
theorem Ziz:∀t:T,t.ngr=t.nodes.countP (λx=>x.k == 6)
 | .node k s0 s1 s2 s3 mn mx a c l=>by
  simp only[T.ngr,T.nodes,List.countP_cons]
  rw[Zmz l,Nat.add_comm]
  congr 1
  show(if k=6 then 1 else 0)=if(k == 6)=true then 1 else 0
  by_cases h:k=6 <;> simp[h]
theorem Zmz:∀l:List T,ZdO l=(Zak l).countP (λx=>x.k == 6)
 | []=>by simp[ZdO,Zak]
 | t::l=>by simp only[ZdO,Zak,List.countP_append];rw[Ziz t,Zmz l]
end
def NewP(m:Mem)(pa pa':Option Addr):Prop:=∀b,pa'=some ⟨b,0,none⟩->pa=pa'\/(m.free b/\m.k b=none)
theorem NewP.same{m:Mem}{pa:Option Addr}:NewP m pa pa:=λ_ _=>.inl rfl
theorem ZuH{m M:Mem}{pa pa':Option Addr}{kb:Nat}(hm:(m.off (λb=>pa=some ⟨b,0,none⟩)).le M)(hp:NewP m pa pa'):(m.off (Zp kb pa)).le (M.off (Zp kb pa')):=by
 have key:∀b,¬Zp kb pa b->(m.free b/\m.k b=none)\/¬Zp kb pa' b:=λb hb=>by
  by_cases e:Zp kb pa' b
  ·rcases e with e|e
   ·exact absurd (.inl e) hb
   ·rcases hp b e with h|h
    ·exact absurd (.inr (h.trans e)) hb
    ·exact .inl h
  ·exact .inr e
 refine⟨λb o v hv=>?_,λb e he=>?_⟩
 ·by_cases hb:Zp kb pa b
  ·rw[Mem.off_free hb]at hv;cases hv
  rw[Mem.off_at hb]at hv
  rcases key b hb with⟨h,_⟩|h
  ·rw[h o]at hv;cases hv
  ·rw[Mem.off_at h]
   refine hm.c _ _ _ ?_
   rw[Mem.off_at (λe=>hb (.inr e))];exact hv
 ·by_cases hb:Zp kb pa b
  ·rw[Mem.off_kn hb]at he;cases he
  rw[Mem.off_k hb]at he
  rcases key b hb with⟨_,h⟩|h
  ·rw[h]at he;cases he
  ·rw[Mem.off_k h]
   refine hm.k _ _ ?_
   rw[Mem.off_k (λe=>hb (.inr e))];exact he
theorem NewP.trans{m M:Mem}{pa pa1 pa2:Option Addr}{kb:Nat}(h1:NewP m pa pa1)(h2:NewP M pa1 pa2)(hm:(m.off (Zp kb pa)).le (M.off (Zp kb pa1)))(hk:∃es,M.k kb=some es):NewP m pa pa2:=λb hb=>by
 rcases h2 b hb with h|⟨h3,h4⟩
 ·rcases h1 b (h.trans hb)with h'|h'
  ·exact .inl (h'.trans h)
  ·exact .inr h'
 ·by_cases e:pa=some ⟨b,0,none⟩
  ·exact .inl (e.trans hb.symm)
  obtain⟨es,eD⟩:=hk
  have hz:¬Zp kb pa b:=λhz=>by
   rcases hz with rfl|hz
   ·rw[eD]at h4;cases h4
   ·exact e hz
  refine .inr ⟨λo=>?_,?_⟩
  ·cases hv:m b o with
   | none=>rfl
   | some v=>
    have:=(Mem.off_le _ _).c _ _ _ (hm.c b o v (by rw[Mem.off_at hz];exact hv))
    rw[h3 o]at this;cases this
  ·cases hv:m.k b with
   | none=>rfl
   | some v=>
    have:=(Mem.off_le _ _).k _ _ (hm.k b v (by rw[Mem.off_k hz];exact hv))
    rw[h4]at this;cases this
def SubsAt(m:Mem)(Z:Nat->Prop)(a:Option Addr)(L:List Nd):Prop:=(L=[]/\a=none)\/∃b,a=some ⟨b,0,none⟩/\¬Z b/\m.reads b 0 (L.map λx=>ptr x.b 0)/\L≠[]
theorem SubsAt.next{m M:Mem}{Z Z':Nat->Prop}{a:Option Addr}{L:List Nd}(h:SubsAt m Z a L)(hm:(m.off Z).le (M.off Z')):SubsAt M Z' a L:=by
 rcases h with h|⟨b,h1,h2,h3,h4⟩
 ·exact .inl h
 have g:∀j v,(L.map λx=>ptr x.b 0)[j]?=some v->(M.off Z') b (0+j)=some v:=λj v hj=>hm.c _ _ _ (by rw[Mem.off_at h2];exact h3 j v hj)
 have hz:¬Z' b:=λhz=>by
  cases L with
  | nil=>exact h4 rfl
  | cons x l=>
   have:=g 0 _ rfl
   rw[Mem.off_free hz]at this;cases this
 exact .inr ⟨b,h1,hz,λj v hj=>(Mem.off_le _ _).c _ _ _ (g j v hj),h4⟩
theorem SubsAt.row{m:Mem}{Z:Nat->Prop}{a:Option Addr}{L:List Nd}(h:SubsAt m Z a L):rowRd m a (L.map λx=>ptr x.b 0):=by
 rcases h with⟨rfl,_⟩|⟨b,h1,_,h3,_⟩
 ·exact .inl rfl
 ·exact .inr ⟨b,0,h1,h3⟩
theorem ZuI{m:Mem}{b0:Nat}:∀{L:List Nd} {o:Nat},m.reads b0 o (L.map λx=>ptr x.b 0)->(∀x∈L,NRep m x)->NRow m b0 o L
 | [],_,_,_=>by simp only[NRow]
 | x::L,o,h1,h2=>by
  simp only[NRow]
  refine⟨h1 0 _ rfl,h2 x (by simp),ZuI (λj v hj=>?_) λy hy=>h2 y (by simp[hy])⟩
  have:=h1 (j+1) v (by simpa using hj)
  rwa [show o+1+j=o+(j+1) by omega]
theorem SubsAt.rep{m:Mem}{Z:Nat->Prop}{a:Option Addr}{L:List Nd}(h:SubsAt m Z a L)(hr:∀x∈L,NRep (m.off Z) x):L=[]\/∃b0 o,a=some ⟨b0,o,none⟩/\NRow (m.off Z) b0 o L:=by
 rcases h with⟨h,_⟩|⟨b,h1,h2,h3,h4⟩
 ·exact .inl h
 ·exact .inr ⟨b,0,h1,ZuI (λj v hj=>by rw[Mem.off_at h2];exact h3 j v hj) hr⟩
def Zey(len:Nat)(p:Int×Int):Prop:=p=(-1,-1)\/(0<=p.1/\p.1<=p.2/\p.2<=len)
theorem ZuJ{W:Nat->Nat->PL->PL}{E:Nat->List Nat}{len:Nat}{mn mx:Int}{to:Nat}(hE:Zde len E)(hW:∀i j P,i<=len->j∈E i->(∀p∈P,Zey len p)->∀p∈W i j P,Zey len p):∀{k d i:Nat} {P:PL} {r:Nat},i<=len->(∀p∈P,Zey len p)->∀p∈(ZnP W E len mn mx to k d i P r).1,Zey len p
 | 0,d,i,P,r,_,hP=>hP
 | k+1,d,i,P,r,hi,hP=>by
  unfold ZnP
  split
  ·exact hP
  ·rename_i j hj
   obtain⟨_,h1,_⟩:=Zbb (List.mem_of_find?_eq_some hj)
   exact ZuJ hE hW (hE i hi j h1).2 (hW i j P hi h1 hP)
mutual
theorem ZxC(s:List Nat):∀(t:T)(g i to:Nat)(P:PL),i<=s.length->to∈t.e0 s i->(∀p∈P,Zey s.length p)->∀p∈(t.wk s g i to P).1,Zey s.length p
 | .node k s0 s1 s2 s3 mn mx a c l=>λg i to P hi ht hP=>by
  have hw:=ZaQ s (.node k s0 s1 s2 s3 mn mx a c l) i hi to ht
  simp only[T.wk]
  split
  ·rename_i h6
   subst h6
   refine ZxD s l _ i to _ hi ?_ λp hp=>?_
   ·simp only[T.e0]at ht
    have ht:to∈ddp (hd0 s l i):=ht
    exact Zcv.1 ht
   ·rcases List.mem_or_eq_of_mem_set hp with h|h
    ·exact hP p h
    ·rw[h];exact .inr ⟨Int.natCast_nonneg i,by show(i:Int)<=to;omega,by show(to:Int)<=s.length;omega⟩
  ·split
   ·exact ZuK s l _ i to _ hi hP
   ·split
    ·exact ZuL s l _ i to _ hi hP
    ·split
     ·exact ZuJ (Za6 s l) (λi j P hi hj hP=>ZxD s l _ i j _ hi hj hP) hi hP
     ·exact hP
theorem ZxD(s:List Nat):∀(l:List T)(g i to:Nat)(P:PL),i<=s.length->to∈hd0 s l i->(∀p∈P,Zey s.length p)->∀p∈hdW s l g i to P,Zey s.length p
 | []=>λ_ _ _ _ _ h hP=>by simp[hd0]at h
 | t::_=>λg i to P hi h hP=>by simp only[hdW];exact ZxC s t g i to P hi (by simpa[hd0]using h) hP
theorem ZuK(s:List Nat):∀(l:List T)(g i to:Nat)(P:PL),i<=s.length->(∀p∈P,Zey s.length p)->∀p∈Zjp s l g i to P,Zey s.length p
 | []=>λ_ _ _ _ _ hP=>by simpa[Zjp]using hP
 | t::l=>λg i to P hi hP=>by
  simp only[Zjp]
  split
  ·rename_i h;exact ZxC s t g i to P hi h hP
  ·exact ZuK s l _ i to P hi hP
theorem ZuL(s:List Nat):∀(l:List T)(g i to:Nat)(P:PL),i<=s.length->(∀p∈P,Zey s.length p)->∀p∈Zjq s l g i to P,Zey s.length p
 | []=>λ_ _ _ _ _ hP=>by simpa[Zjq]using hP
 | t::l=>λg i to P hi hP=>by
  simp only[Zjq]
  split
  ·exact hP
  ·rename_i j hj
   have h1:=List.mem_of_find?_eq_some hj
   exact ZuL s l _ j to _ (ZaQ s t i hi j h1).2 (ZxC s t g i j P hi h1 hP)
end
def Zdp(t:T)(n:Nat):Int:=if t.check≠0 then 140 else if 512 < n then 3 else 0
theorem ZvJ{t:T}{n:Nat}(h:Zdp t n=0):t.check=0/\n<=512:=by
 unfold Zdp at h
 split at h
 ·cases h
 ·rename_i h1
  split at h
  ·cases h
  ·exact⟨Classical.not_not.1 h1,by omega⟩
theorem Zbl{t:T}{n:Nat}(h1:t.check=0)(h2:n<=512):Zdp t n=0:=by unfold Zdp;rw[if_neg (by simp[h1]),if_neg (by omega)]
def Zkm(t:T)(s:List Nat):PL×Nat:=t.wk s 0 0 s.length (List.replicate t.ngr (-1,-1))
def ZuM(t:T)(s:List Nat)(i:Int):List Nat×Int:=if Zdp t s.length≠0 then([],Zdp t s.length)else if i < 0\/i > s.length then([],2)else(t.e0 s i.toNat,0)
def Zb1(t:T)(s:List Nat):PL×Int:=if Zdp t s.length≠0 then([],Zdp t s.length)else if s.length∈t.e0 s 0 then((Zkm t s).1,0)else([],141)
def ZtE(t:T)(s:List Nat):Nat×Int:=if Zdp t s.length≠0 then(0,Zdp t s.length)else if t.k≠5 then(0,2)else if s.length∈t.e0 s 0 then((Zkm t s).2,0)else(0,141)
def ZwL(s:List Nat)(p:Int×Int):List Nat:=(s.take p.2.toNat).drop p.1.toNat
def ZwM(t:T)(s:List Nat):List (List Nat)×Int:=if(Zb1 t s).2≠0 then([],(Zb1 t s).2)else(s::(Zb1 t s).1.map (ZwL s),0)
theorem Zjr(t:T)(s:List Nat):(Zkm t s).1.length=t.ngr:=by unfold Zkm;rw[Zln];simp
theorem ZxE{t:T}{s:List Nat}(h:s.length∈t.e0 s 0):∀p∈(Zkm t s).1,Zey s.length p:=ZxC s t 0 0 _ _ (by omega) h λp hp=>.inl (List.eq_of_mem_replicate hp)
theorem ZuN{t:T}{s:List Nat}:∀p∈(Zb1 t s).1,Zey s.length p:=by
 unfold Zb1
 split
 ·intro p hp;simp at hp
 ·split
  ·rename_i h;exact ZxE h
  ·intro p hp;simp at hp
end Go.Rx
namespace Go.Rx
open Go Go.Eng Go.RowKit
set_option maxRecDepth 100000
theorem ZhK{t:T}(h:t.good=true):t.right=true/\∀x∈t.subs,x.good=true:=by
 rw[Zkj,Bool.and_eq_true,List.all_eq_true]at h;exact h
theorem ZgD{t:T}(h:t.right=true):t.k=1\/t.k=2\/t.k=3\/t.k=4\/(t.k=5/\(∃x,t.subs=[x])/\0<=t.mn/\t.mn<=16/\(t.mx=-1\/(1<=t.mx/\t.mn<=t.mx/\t.mx<=16)))\/(t.k=6/\∃x,t.subs=[x]):=by
 have one:(t.subs.length == 1)=true->∃x,t.subs=[x]:=λe=>by
  have:t.subs.length=1:=by simpa using e
  match bV:t.subs,this with
  | [x],_=>exact⟨x,rfl⟩
 unfold T.right at h
 rw[Bool.and_eq_true]at h
 have h:=h.2
 by_cases h1:t.k=1
 ·exact .inl h1
 by_cases h2:t.k=2
 ·exact .inr (.inl h2)
 by_cases h3:t.k=3
 ·exact .inr (.inr (.inl h3))
 by_cases h4:t.k=4
 ·exact .inr (.inr (.inr (.inl h4)))
 by_cases h5:t.k=5
 ·rw[if_neg h1,if_neg h2,if_neg h3,if_neg h4,if_pos h5]at h
  rw[Bool.and_eq_true,Bool.and_eq_true]at h
  obtain⟨a,b,_⟩:=h
  unfold Zis at b
  simp at b
  exact .inr (.inr (.inr (.inr (.inl ⟨h5,one a,by omega,by omega,by omega⟩))))
 ·rw[if_neg h1,if_neg h2,if_neg h3,if_neg h4,if_neg h5,Bool.and_eq_true]at h
  exact .inr (.inr (.inr (.inr (.inr ⟨by simpa using h.1,one h.2⟩))))
mutual
def T.er:T->T
 | .node k s0 s1 s2 s3 mn mx _ _ l=>.node k s0 s1 s2 s3 mn mx none 0 (erL l)
def erL:List T->List T
 | []=>[]
 | t::l=>t.er::erL l
end
theorem Zpa:∀l:List T,erL l=l.map T.er
 | []=>rfl
 | t::l=>by simp only[erL,List.map_cons,Zpa l]
@[simp] theorem ZAf (t:T):t.er.k=t.k:=by cases t;rfl
@[simp] theorem ZAg (t:T):t.er.s0=t.s0:=by cases t;rfl
@[simp] theorem ZAh (t:T):t.er.s1=t.s1:=by cases t;rfl
@[simp] theorem ZAi (t:T):t.er.s2=t.s2:=by cases t;rfl
@[simp] theorem ZAj (t:T):t.er.s3=t.s3:=by cases t;rfl
@[simp] theorem ZAk (t:T):t.er.mn=t.mn:=by cases t;rfl
@[simp] theorem ZAl (t:T):t.er.mx=t.mx:=by cases t;rfl
@[simp] theorem ZuO (t:T):t.er.subs=t.subs.map T.er:=by cases t;simp only[T.er,T.subs,Zpa]
mutual
theorem Zjs:∀t:T,t.er.nodes=t.nodes.map T.er
 | .node k s0 s1 s2 s3 mn mx a c l=>by
  simp only[T.er,T.nodes,List.map_cons]
  rw[Zpb l]
theorem Zpb:∀l:List T,Zak (erL l)=(Zak l).map T.er
 | []=>rfl
 | t::l=>by simp only[erL,Zak,List.map_append,Zjs t,Zpb l]
end
theorem Zzd(t:T)(k:Int):t.er.has k=t.has k:=by
 unfold T.has;rw[ZuO,List.any_map];congr 1;funext x;simp
theorem ZvK(t:T):t.er.right=t.right:=by
 unfold T.right T.setZ
 simp only[Zzd,ZAf,ZAg,ZAh,ZAi,ZAj,ZAk,ZAl,ZuO,List.length_map]
theorem Zlp(t:T):t.er.light=t.light:=by unfold T.light;rw[Zjs,List.length_map]
theorem Zze(l:List T):(l.map T.er).all T.right=l.all T.right:=by
 rw[List.all_map];congr 1;funext x;exact ZvK x
theorem ZnY(t:T):t.er.clean=t.clean:=by unfold T.clean;rw[Zlp,Zjs,Zze]
theorem ZxF(t:T):t.er.size=t.size:=by unfold T.size;rw[Zlp,Zjs,List.length_map]
theorem ZtF(t:T):t.er.groups=t.groups:=by
 unfold T.groups;rw[Zlp,Zjs,List.countP_map]
 have:((λx:T=>x.k == 6)∘T.er)=λx:T=>x.k == 6:=by funext x;simp
 rw[this]
mutual
theorem ZxG:∀t:T,t.er.pos=t.pos
 | .node k s0 s1 s2 s3 mn mx a c l=>by simp only[T.er,T.pos,ZuP l]
theorem ZuP:∀l:List T,ZeS (erL l)=ZeS l
 | []=>rfl
 | t::l=>by simp only[erL,ZeS,ZxG t,ZuP l]
end
theorem Znj(t:T):t.er.positions=t.positions:=by unfold T.positions;rw[Zlp,ZxG]
theorem ZnZ(t:T):t.er.check=t.check:=by unfold T.check;rw[ZnY,ZxF,Znj,ZtF]
def T.caps(t:T):Prop:=∀x∈t.nodes,x.subs.length<=x.c
theorem Zpc{k s0 s1 s2 s3 mn mx:Int}{a:Option Addr}{c:Nat}{l:List T}(h:l.length<=c)(hl:∀x∈l,x.caps):(T.node k s0 s1 s2 s3 mn mx a c l).caps:=by
 intro y hy
 rw[Zbk]at hy
 rcases List.mem_cons.1 hy with rfl|hy
 ·exact h
 ·obtain⟨x,hx,hy⟩:∃x∈l,y∈x.nodes:=by
   have:∀l:List T,y∈Zak l->∃x∈l,y∈x.nodes:=λl=>by
    induction l with
    | nil=>intro h;simp[Zak]at h
    | cons x l ih=>
     intro h
     simp only[Zak,List.mem_append]at h
     rcases h with h|h
     ·exact⟨x,by simp,h⟩
     ·obtain⟨z,hz,h⟩:=ih h
      exact⟨z,by simp[hz],h⟩
   exact this l hy
  exact hl x hx y hy
theorem Zr8{t u:T}(h:t.er=u.er):t.check=u.check:=by rw[<-ZnZ t,h,ZnZ]
theorem ZvL{t u:T}(h:t.er=u.er):t.clean=u.clean:=by rw[<-ZnY t,h,ZnY]
theorem ZxH{k s0 s1 s2 s3 mn mx:Int}{a a':Option Addr}{c c':Nat}{l l':List T}(h:l.map T.er=l'.map T.er):(T.node k s0 s1 s2 s3 mn mx a c l).er=(T.node k s0 s1 s2 s3 mn mx a' c' l').er:=by
 simp only[T.er,Zpa,h]
def Zzf(t t':T):Prop:=((t.clean=true/\t'.er=t.er)\/(t.clean=false/\t'=T0))/\t'.caps
theorem ZxI:T0.caps:=Zpc (by simp) (by simp)
def ZzL(k:Int)(a:Option Addr)(c:Nat)(u:T):List T->T->Prop
 | [],t'=>t'=u
 | [x],t'=>Zzf x t'
 | x::y::l,t'=>Zzf (Zap k 0 0 a c (x::y::l)) t'
def Zkn(k w:Int)(x:T):List T:=if x.k=k then x.subs else if x.k=w then[]else[x]
def Zek(k w:Int)(L:List T):List T:=(L.map (Zkn k w)).flatten
theorem ZqX(k w:Int)(L:List T)(x:T):Zek k w (L++[x])=Zek k w L++Zkn k w x:=by simp[Zek]
theorem ZiA(k w:Int):∀(L:List T),(∀x∈L,x.subs.length<=10000)->(Zek k w L).length<=L.length*10001
 | [],_=>by simp[Zek]
 | x::L,h=>by
  have ih:=ZiA k w L λy hy=>h y (by simp[hy])
  have hx:=h x (by simp)
  have h1:(Zkn k w x).length<=10001:=by
   unfold Zkn
   split
   ·omega
   ·split <;> simp
  have e:(Zek k w (x::L)).length=(Zkn k w x).length+(Zek k w L).length:=by simp[Zek]
  rw[e,List.length_cons]
  omega
theorem ZxJ{t:T}(h:t.clean=true):t.k≠0:=by
 have hg:t.good=true:=by
  unfold T.clean at h
  rw[Bool.and_eq_true]at h
  exact h.2
 have:=(ZhK hg).1
 rcases ZgD this with h|h|h|h|⟨h,_⟩|⟨h,_⟩ <;> omega
theorem Zko{t:T}(h:t.clean=true):t.nodes.length<=10000:=by
 unfold T.clean T.light at h
 rw[Bool.and_eq_true]at h
 exact of_decide_eq_true h.1
end Go.Rx
namespace Go.Rx
open Go Go.Eng Go.RowKit
mutual
theorem Zg7:∀t:T,t.er.ngr=t.ngr
 | .node k s0 s1 s2 s3 mn mx a c l=>by simp only[T.er,T.ngr,ZuQ l]
theorem ZuQ:∀l:List T,ZdO (erL l)=ZdO l
 | []=>rfl
 | t::l=>by simp only[erL,ZdO,Zg7 t,ZuQ l]
end
mutual
theorem ZgE(s:List Nat):∀t:T,t.er.e0 s=t.e0 s
 | .node k s0 s1 s2 s3 mn mx a c l=>by
  funext i
  have hc:ZyO (.node k s0 s1 s2 s3 mn mx none 0 (erL l)) s i=ZyO (.node k s0 s1 s2 s3 mn mx a c l) s i:=rfl
  simp only[T.er,T.e0,hc,ZxK s l,ZuR s l,ZvM s l]
theorem ZxK(s:List Nat):∀l:List T,hd0 s (erL l)=hd0 s l
 | []=>rfl
 | t::l=>by funext i;simp only[erL,hd0,ZgE s t]
theorem ZuR(s:List Nat):∀l:List T,Zo2 s (erL l)=Zo2 s l
 | []=>rfl
 | t::l=>by funext i;simp only[erL,Zo2,ZgE s t,ZuR s l]
theorem ZvM(s:List Nat):∀l:List T,e0s s (erL l)=e0s s l
 | []=>rfl
 | t::l=>by simp only[erL,e0s,ZgE s t,ZvM s l]
end
mutual
theorem ZxL(s:List Nat):∀t:T,t.er.wk s=t.wk s
 | .node k s0 s1 s2 s3 mn mx a c l=>by
  funext g i to P
  simp only[T.er,T.wk,Zzg s l,ZuS s l,ZuT s l,ZxK s l]
theorem Zzg(s:List Nat):∀l:List T,hdW s (erL l)=hdW s l
 | []=>rfl
 | t::l=>by funext g i to P;simp only[erL,hdW,ZxL s t]
theorem ZuS(s:List Nat):∀l:List T,Zjp s (erL l)=Zjp s l
 | []=>rfl
 | t::l=>by funext g i to P;simp only[erL,Zjp,ZxL s t,ZuS s l,ZgE s t,Zg7 t]
theorem ZuT(s:List Nat):∀l:List T,Zjq s (erL l)=Zjq s l
 | []=>rfl
 | t::l=>by funext g i to P;simp only[erL,Zjq,ZxL s t,ZuT s l,ZgE s t,Zg7 t,ZvM s l]
end
theorem Zn0(t:T)(n:Nat):Zdp t.er n=Zdp t n:=by unfold Zdp;rw[ZnZ]
theorem ZxM(t:T)(s:List Nat)(i:Int):ZuM t.er s i=ZuM t s i:=by unfold ZuM;rw[Zn0,ZgE]
theorem ZhL(t:T)(s:List Nat):Zkm t.er s=Zkm t s:=by unfold Zkm;rw[ZxL,Zg7]
theorem ZgF(t:T)(s:List Nat):Zb1 t.er s=Zb1 t s:=by unfold Zb1;rw[Zn0,ZgE,ZhL]
theorem ZxN(t:T)(s:List Nat):ZtE t.er s=ZtE t s:=by unfold ZtE;rw[Zn0,ZgE,ZhL,ZAf]
theorem ZxO(t:T)(s:List Nat):ZwM t.er s=ZwM t s:=by unfold ZwM;rw[ZgF]
theorem ZmA{t:T}(h:t.check=0):t.groups=t.ngr:=by
 unfold T.check at h
 split at h
 ·exact absurd h (by decide)
 ·rename_i hc
  have hc':t.clean=true:=by simpa using hc
  unfold T.clean at hc'
  rw[Bool.and_eq_true]at hc'
  unfold T.groups
  rw[if_pos hc'.1,Ziz]
theorem ZxP{α:Type}(A P:List α)(g:Nat)(x:α):(A++P).set (A.length+g) x=A++P.set g x:=by
 induction A with
 | nil=>simp
 | cons a A ih=>rw[List.cons_append,show(a::A).length+g=(A.length+g)+1 by simp;omega,List.set_cons_succ,ih];rfl
theorem Zr9(A:PL){W W':Nat->Nat->PL->PL}(hW:∀i j P,W' i j (A++P)=A++W i j P){E:Nat->List Nat}{len:Nat}{mn mx:Int}{to:Nat}:∀{k d i:Nat} {P:PL} {r:Nat},ZnP W' E len mn mx to k d i (A++P) r=(A++(ZnP W E len mn mx to k d i P r).1,(ZnP W E len mn mx to k d i P r).2)
 | 0,d,i,P,r=>rfl
 | k+1,d,i,P,r=>by
  unfold ZnP
  split
  ·rfl
  ·rw[hW,Zr9 A hW]
mutual
theorem ZqY(s:List Nat)(A:PL):∀(t:T)(g i to:Nat)(P:PL),t.wk s (A.length+g) i to (A++P)=(A++(t.wk s g i to P).1,(t.wk s g i to P).2)
 | .node k s0 s1 s2 s3 mn mx a c l=>λg i to P=>by
  simp only[T.wk]
  split
  ·rw[ZxP,Nat.add_assoc,Zsa s A l]
  ·split
   ·rw[Zsb s A l]
   ·split
    ·rw[Zsc s A l]
    ·split
     ·exact Zr9 A λi j P=>Zsa s A l g i j P
     ·rfl
theorem Zsa(s:List Nat)(A:PL):∀(l:List T)(g i to:Nat)(P:PL),hdW s l (A.length+g) i to (A++P)=A++hdW s l g i to P
 | []=>λ_ _ _ _=>by simp[hdW]
 | t::_=>λg i to P=>by simp only[hdW,ZqY s A t]
theorem Zsb(s:List Nat)(A:PL):∀(l:List T)(g i to:Nat)(P:PL),Zjp s l (A.length+g) i to (A++P)=A++Zjp s l g i to P
 | []=>λ_ _ _ _=>by simp[Zjp]
 | t::l=>λg i to P=>by
  simp only[Zjp]
  split
  ·rw[ZqY s A t]
  ·rw[Nat.add_assoc,Zsb s A l]
theorem Zsc(s:List Nat)(A:PL):∀(l:List T)(g i to:Nat)(P:PL),Zjq s l (A.length+g) i to (A++P)=A++Zjq s l g i to P
 | []=>λ_ _ _ _=>by simp[Zjq]
 | t::l=>λg i to P=>by
  simp only[Zjq]
  split
  ·rfl
  ·rw[ZqY s A t,Nat.add_assoc,Zsc s A l]
end
theorem ZvN{α:Type}(P B:List α)(g:Nat)(x:α)(h:g < P.length):(P++B).set g x=P.set g x++B:=by
 rw[List.set_append_left _ _ h]
theorem ZtG{t t':T}{a:Option Addr}{c:Nat}{s:List Nat}(he:t'.er=(Zap 6 0 0 a c [t]).er):Zkm t' s=(((0:Int),(s.length:Int))::(Zkm t s).1,0)/\(s.length∈t'.e0 s 0↔s.length∈t.e0 s 0)/\t'.ngr=t.ngr+1:=by
 have h0:t'.ngr=t.ngr+1:=by
  rw[<-Zg7,he,Zg7]
  show(if(6:Int)=6 then 1 else 0)+(t.ngr+0)=_
  rw[if_pos rfl];omega
 refine⟨?_,?_,h0⟩
 ·have e1:Zkm t' s=Zkm (Zap 6 0 0 a c [t]) s:=by rw[<-ZhL,he,ZhL]
  rw[e1]
  unfold Zkm
  have hn:(Zap 6 0 0 a c [t]).ngr=t.ngr+1:=by rw[<-h0,<-Zg7 t',he,Zg7]
  rw[hn,Zxx]
  show(if(6:Int)=6 then _ else _)=_
  rw[if_pos rfl]
  have hs:(List.replicate (t.ngr+1) ((-1:Int),(-1:Int))).set 0 (((0:Nat):Int),(s.length:Int))=[((0:Int),(s.length:Int))]++List.replicate t.ngr (-1,-1):=rfl
  rw[hs]
  have:=Zsa s [((0:Int),(s.length:Int))] [t] 0 0 s.length (List.replicate t.ngr (-1,-1))
  refine Prod.ext (this.trans ?_) rfl
  simp only[hdW];rfl
 ·have e1:t'.e0 s 0=(Zap 6 0 0 a c [t]).e0 s 0:=by rw[<-ZgE,he,ZgE]
  rw[e1]
  have e2:(Zap 6 0 0 a c [t]).e0 s 0=ddp (hd0 s [t] 0):=by unfold Zap;simp[T.e0]
  rw[e2,Zcv]
  simp[hd0]
theorem Zpd{t:T}{s:List Nat}(h:Zdp t s.length=0):((Zb1 t s).2=0/\s.length∈t.e0 s 0/\(Zb1 t s).1=(Zkm t s).1)\/(Zb1 t s=([],141)/\s.length ∉ t.e0 s 0):=by
 unfold Zb1
 rw[if_neg (by simp[h])]
 by_cases hi:s.length∈t.e0 s 0
 ·rw[if_pos hi];exact .inl ⟨rfl,hi,rfl⟩
 ·rw[if_neg hi];exact .inr ⟨rfl,hi⟩
structure Bad (t:T):Prop where
 k:t.k≠0
 no:t.check≠0
def ZAm(len:Nat)(i:Int):Int:=if(len:Int) > 512 then 3 else if i < 0\/i > len then 2 else 0
structure Says (t:T)(len:Nat)(i:Int)(e:Int):Prop where
 one:t.wrong len i=e
 rg:Rg.wrong ⟨false,false,t⟩ len i=e
 all:Zzb [⟨false,false,t⟩] len i=e
theorem ZmB{t:T}(h:t.check=0)(len:Nat)(i:Int):t.wrong len i=ZAm len i:=by
 unfold T.wrong ZAm
 rw[h];simp
structure Asks (k:Nat)(t:T)(len:Nat)(i e:Int):Prop where
 here:Says t len i e
 zero:k<=1->Says t len 0 e
 no:e≠0
 len:len<=513
abbrev Re:=Nat->Nat->Prop
def pow(R:Re):Nat->Re
 | 0=>λi j=>i=j
 | n+1=>λi j=>∃m,R i m/\pow R n m j
theorem Zsd(R:Re):∀(a b i j:Nat),pow R (a+b) i j↔∃m,pow R a i m/\pow R b m j
 | 0,b,i,j=>by simp[pow]
 | a+1,b,i,j=>by
  rw[show a+1+b=(a+b)+1 by omega]
  constructor
  ·rintro⟨m,h1,h2⟩
   obtain⟨k,h3,h4⟩:=(Zsd R a b m j).1 h2
   exact⟨k,⟨m,h1,h3⟩,h4⟩
  ·rintro⟨k,⟨m,h1,h3⟩,h4⟩
   exact⟨m,h1,(Zsd R a b m j).2 ⟨k,h3,h4⟩⟩
theorem Zlq(R:Re)(n i j:Nat):pow R (n+1) i j↔∃m,pow R n i m/\R m j:=by
 rw[Zsd R n 1];simp[pow]
mutual
def T.M(s:List Nat):T->Re
 | .node k s0 s1 s2 s3 mn mx a c l=>λi j=>
  if k=1 then i=j else if k=2 then j=i+1/\∃b,s[i]?=some b/\(T.node k s0 s1 s2 s3 mn mx a c l).hasB b=true
  else if k=3 then MC s l i j else if k=4 then MA s l i j
  else if k=5 then ∃n:Nat,mn.toNat<=n/\(mx=-1\/n<=mx.toNat)/\pow (MH s l) n i j
  else if k=6 then MH s l i j else False
def MC(s:List Nat):List T->Re
 | []=>λi j=>i=j
 | t::l=>λi j=>∃m,t.M s i m/\MC s l m j
def MA(s:List Nat):List T->Re
 | []=>λ_ _=>False
 | t::l=>λi j=>t.M s i j\/MA s l i j
def MH(s:List Nat):List T->Re
 | []=>λi j=>i=j
 | t::_=>t.M s
end
def ZgT(back:Bool)(R:Re)(f:Nat)(j:Nat):Prop:=∃i,f.testBit i=true/\(if back then R j i else R i j)
def ZgG(s:List Nat)(back:Bool)(g:Nat->Nat)(R:Re):Prop:=∀f,f < ZcS->∀j,(g f).testBit j=true↔ZgT back R f j
theorem ZxQ{back:Bool}{R Q:Re}{f j:Nat}:ZgT back (λa b=>R a b\/Q a b) f j↔ZgT back R f j\/ZgT back Q f j:=by
 unfold ZgT
 cases back <;> constructor <;> rintro h
 ·obtain⟨i,h1,h2|h2⟩:=h
  ·exact .inl ⟨i,h1,h2⟩
  ·exact .inr ⟨i,h1,h2⟩
 ·rcases h with⟨i,h1,h2⟩|⟨i,h1,h2⟩
  ·exact⟨i,h1,.inl h2⟩
  ·exact⟨i,h1,.inr h2⟩
 ·obtain⟨i,h1,h2|h2⟩:=h
  ·exact .inl ⟨i,h1,h2⟩
  ·exact .inr ⟨i,h1,h2⟩
 ·rcases h with⟨i,h1,h2⟩|⟨i,h1,h2⟩
  ·exact⟨i,h1,.inl h2⟩
  ·exact⟨i,h1,.inr h2⟩
theorem Zpe(back:Bool)(f j:Nat):ZgT back (λa b=>a=b) f j↔f.testBit j=true:=by
 unfold ZgT
 cases back <;> constructor
 ·rintro⟨i,h1,h2⟩;simp at h2;subst h2;exact h1
 ·intro h;exact⟨j,h,by simp⟩
 ·rintro⟨i,h1,h2⟩;simp at h2;subst h2;exact h1
 ·intro h;exact⟨j,h,by simp⟩
theorem ZtH{s:List Nat}{g h:Nat->Nat}{R Q:Re}(hg:ZgG s false g R)(hh:ZgG s false h Q)(bF:∀f,f < ZcS->g f < ZcS):ZgG s false (λf=>h (g f)) (λi j=>∃m,R i m/\Q m j):=by
 intro f hf j
 rw[hh _ (bF f hf) j]
 unfold ZgT
 constructor
 ·rintro⟨m,h1,h2⟩
  obtain⟨i,h3,h4⟩:=(hg f hf m).1 h1
  exact⟨i,h3,m,h4,h2⟩
 ·rintro⟨i,h3,m,h4,h2⟩
  exact⟨m,(hg f hf m).2 ⟨i,h3,h4⟩,h2⟩
theorem ZqZ{s:List Nat}{g h:Nat->Nat}{R Q:Re}(hg:ZgG s true g R)(hh:ZgG s true h Q)(bF:∀f,f < ZcS->h f < ZcS):ZgG s true (λf=>g (h f)) (λi j=>∃m,R i m/\Q m j):=by
 intro f hf j
 rw[hg _ (bF f hf) j]
 unfold ZgT
 constructor
 ·rintro⟨m,h1,h2⟩
  obtain⟨i,h3,h4⟩:=(hh f hf m).1 h1
  exact⟨i,h3,m,h2,h4⟩
 ·rintro⟨i,h3,m,h4,h2⟩
  exact⟨m,(hh f hf m).2 ⟨i,h3,h2⟩,h4⟩
theorem Zpf(t:T)(back:Bool)(f:Nat):∀(s:List Nat)(i out j:Nat),(ZsL t back f s i out).testBit j=true↔out.testBit j=true\/∃p b,s[p]?=some b/\t.hasB b=true/\f.testBit (if back then i+p+1 else i+p)=true/\j=(if back then i+p else i+p+1)
 | [],i,out,j=>by simp[ZsL]
 | c::s,i,out,j=>by
  simp only[ZsL]
  rw[Zpf t back f s (i+1)]
  have h0:(ZoU t back f i c out).testBit j=true↔out.testBit j=true\/(t.hasB c=true/\f.testBit (if back then i+1 else i)=true/\j=(if back then i else i+1)):=by
   unfold ZoU
   by_cases h:(f.testBit (if back then i+1 else i)&&t.hasB c)=true
   ·rw[if_pos h]
    rw[Bool.and_eq_true]at h
    rw[Nat.testBit_or,Bool.or_eq_true,Nat.testBit_two_pow]
    constructor
    ·rintro(h1|h1)
     ·exact .inl h1
     ·exact .inr ⟨h.2,h.1,by simpa using(of_decide_eq_true h1).symm⟩
    ·rintro(h1|⟨_,_,h1⟩)
     ·exact .inl h1
     ·exact .inr (decide_eq_true h1.symm)
   ·rw[if_neg h]
    rw[Bool.and_eq_true]at h
    constructor
    ·exact .inl
    ·rintro(h1|⟨h1,h2,_⟩)
     ·exact h1
     ·exact absurd ⟨h2,h1⟩ h
  rw[h0]
  constructor
  ·rintro((h|⟨h1,h2,h3⟩)|⟨p,b,h1,h2,h3,h4⟩)
   ·exact .inl h
   ·exact .inr ⟨0,c,rfl,h1,by simpa using h2,by simpa using h3⟩
   ·exact .inr ⟨p+1,b,by simpa using h1,h2,by rw[show i+(p+1)=i+1+p by omega];exact h3,by rw[show i+(p+1)=i+1+p by omega];exact h4⟩
  ·rintro(h|⟨p,b,h1,h2,h3,h4⟩)
   ·exact .inl (.inl h)
   ·cases p with
    | zero=>simp at h1;subst h1;exact .inl (.inr ⟨h2,by simpa using h3,by simpa using h4⟩)
    | succ p=>exact .inr ⟨p,b,by simpa using h1,h2,by rw[show i+1+p=i+(p+1) by omega];exact h3,by rw[show i+1+p=i+(p+1) by omega];exact h4⟩
theorem ZtI(s:List Nat)(back:Bool)(t:T):ZgG s back (λf=>ZsL t back f s 0 0) (λi j=>j=i+1/\∃b,s[i]?=some b/\t.hasB b=true):=by
 intro f hf j
 rw[Zpf]
 unfold ZgT
 cases back with
 | false=>
  constructor
  ·rintro(h|⟨p,b,h1,h2,h3,h4⟩)
   ·simp at h
   ·simp at h3 h4;exact⟨p,h3,by simp;exact⟨h4,b,h1,h2⟩⟩
  ·rintro⟨i,h1,h2⟩
   simp at h2
   obtain⟨rfl,b,h3,h4⟩:=h2
   exact .inr ⟨i,b,h3,h4,by simpa using h1,by simp⟩
 | true=>
  constructor
  ·rintro(h|⟨p,b,h1,h2,h3,h4⟩)
   ·simp at h
   ·simp at h3 h4;subst h4;exact⟨j+1,h3,by simp;exact⟨b,h1,h2⟩⟩
  ·rintro⟨i,h1,h2⟩
   simp at h2
   obtain⟨rfl,b,h3,h4⟩:=h2
   exact .inr ⟨j,b,h3,h4,by simpa using h1,by simp⟩
theorem Zlr(back:Bool)(R:Re)(n f j:Nat):ZgT back (pow R (n+1)) f j↔∃i,ZgT back (pow R n) f i/\(if back then R j i else R i j):=by
 unfold ZgT
 cases back with
 | false=>
  simp only[Bool.false_eq_true,if_false]
  constructor
  ·rintro⟨i,h1,h2⟩
   obtain⟨m,h3,h4⟩:=(Zlq R n i j).1 h2
   exact⟨m,⟨i,h1,h3⟩,h4⟩
  ·rintro⟨m,⟨i,h1,h3⟩,h4⟩
   exact⟨i,h1,(Zlq R n i j).2 ⟨m,h3,h4⟩⟩
 | true=>
  simp only[if_true]
  constructor
  ·rintro⟨i,h1,m,h3,h4⟩
   exact⟨m,⟨i,h1,h4⟩,h3⟩
  ·rintro⟨m,⟨i,h1,h4⟩,h3⟩
   exact⟨i,h1,m,h3,h4⟩
def cnt(f:Nat):Nat:=(List.range 576).countP λi=>f.testBit i
theorem ZvO(f:Nat):cnt f<=576:=by
 have:=List.countP_le_length (p:=λi=>f.testBit i) (l:=List.range 576)
 simpa[cnt]using this
theorem Zls{α:Type}{p q:α->Bool}:∀{l:List α},(∀x,p x=true->q x=true)->(∃x∈l,q x=true/\p x=false)->l.countP p < l.countP q
 | [],_,h=>by obtain⟨x,h,_⟩:=h;simp at h
 | y::l,oM,⟨x,hx,h1,h2⟩=>by
  have yJ:l.countP p<=l.countP q:=List.countP_mono_left λx _ h=>oM x h
  rw[List.countP_cons,List.countP_cons]
  by_cases e:p y=true
  ·rw[if_pos e,if_pos (oM y e)]
   have cT:x≠y:=λe'=>by rw[e',e]at h2;cases h2
   have:=Zls oM ⟨x,(List.mem_cons.1 hx).resolve_left cT,h1,h2⟩
   omega
  ·rw[if_neg e]
   by_cases e2:q y=true
   ·rw[if_pos e2];omega
   ·have cT:x≠y:=λe'=>e2 (e' ▸ h1)
    have:=Zls oM ⟨x,(List.mem_cons.1 hx).resolve_left cT,h1,h2⟩
    omega
theorem ZuU{f i:Nat}(hf:f < ZcS)(hi:¬i < 576):f.testBit i=false:=
 Nat.testBit_lt_two_pow (Nat.lt_of_lt_of_le hf (Nat.pow_le_pow_right (by omega) (by rw[ZoV];omega)))
theorem Zzh{out x:Nat}(ho:out < ZcS)(hx:x < ZcS)(h:¬out|||x=out):cnt out < cnt (out|||x):=by
 refine Zls (λi hi=>by simp[hi]) ?_
 refine Classical.byContradiction λhn=>h (Nat.eq_of_testBit_eq λi=>?_)
 by_cases hi:i < 576
 ·rw[Nat.testBit_or]
  cases e1:out.testBit i with
  | true=>rfl
  | false=>
   cases e2:x.testBit i with
   | false=>rfl
   | true=>exact absurd ⟨i,List.mem_range.2 hi,by rw[Nat.testBit_or,e1,e2];rfl,e1⟩ hn
 ·rw[ZuU (Nat.or_lt_two_pow ho hx) hi,ZuU ho hi]
theorem Zq0{s:List Nat}{back:Bool}{g:Nat->Nat}{R:Re}(hg:ZgG s back g R)(bF:∀f,f < ZcS->g f < ZcS){mx:Int}{mn f0:Nat}(Al:f0 < ZcS)(fX:mn<=16):
  ∀(fuel K out last:Nat),out < ZcS->last < ZcS->mn<=K->(mx=-1\/(K:Int)<=mx)->K<=mn+cnt out->577 - cnt out<=fuel->
   (∀j,last.testBit j=true↔ZgT back (pow R K) f0 j)->(∀j,out.testBit j=true↔∃n,mn<=n/\n<=K/\ZgT back (pow R n) f0 j)->
   ∀j,(Zqc g mx fuel K out last).testBit j=true↔∃n,mn<=n/\(mx=-1\/n<=mx.toNat)/\ZgT back (pow R n) f0 j:=by
 intro fuel
 induction fuel with
 | zero=>intro K out last _ _ _ _ _ nK _ _ j;have:=ZvO out;omega
 | succ fuel ihf=>
  intro K out last ho hl hK eX CB nK dK dE j
  have qA:=bF last hl
  have nN:∀j,(g last).testBit j=true↔ZgT back (pow R (K+1)) f0 j:=λj=>by
   rw[hg last hl j,Zlr]
   constructor
   ·rintro⟨i,h1,h2⟩;exact⟨i,(dK i).1 h1,h2⟩
   ·rintro⟨i,h1,h2⟩;exact⟨i,(dK i).2 h1,h2⟩
  rw[Zmt]
  by_cases hm:(K:Int)=mx
  ·rw[if_pos hm,dE]
   constructor
   ·rintro⟨n,h1,h2,h3⟩;exact⟨n,h1,.inr (by omega),h3⟩
   ·rintro⟨n,h1,h2,h3⟩;exact⟨n,h1,by rcases h2 with h2|h2 <;> omega,h3⟩
  ·rw[if_neg hm]
   by_cases hs:out|||g last=out
   ·rw[if_pos hs,dE]
    have eL:∀j,(g last).testBit j=true->out.testBit j=true:=λj h=>by
     rw[<-hs,Nat.testBit_or,h];simp
    have rH:∀d j,ZgT back (pow R (K+d)) f0 j->out.testBit j=true:=by
     intro d
     induction d with
     | zero=>intro j h;exact(dE j).2 ⟨K,hK,Nat.le_refl _,h⟩
     | succ d ih=>
      intro j h
      rw[show K+(d+1)=(K+d)+1 by omega,Zlr]at h
      obtain⟨i,h1,h2⟩:=h
      obtain⟨n,h3,h4,h5⟩:=(dE i).1 (ih i h1)
      have h6:ZgT back (pow R (n+1)) f0 j:=(Zlr back R n f0 j).2 ⟨i,h5,h2⟩
      by_cases hn:n+1<=K
      ·exact(dE j).2 ⟨n+1,by omega,hn,h6⟩
      ·have:n=K:=by omega
       subst this
       exact eL j ((nN j).2 h6)
    constructor
    ·rintro⟨n,h1,h2,h3⟩;exact⟨n,h1,by rcases eX with h|h;exact .inl h;exact .inr (by omega),h3⟩
    ·rintro⟨n,h1,h2,h3⟩
     by_cases hn:n<=K
     ·exact⟨n,h1,hn,h3⟩
     ·have:=rH (n - K) j (by rw[show K+(n - K)=n by omega];exact h3)
      exact(dE j).1 this
   ·rw[if_neg hs]
    have hc:=Zzh ho qA hs
    have eJ:=ZvO (out|||g last)
    have hw:IntKind.i64.wrap ((K:Int)+1)=((K+1:Nat):Int):=by rw[ZaO (by omega) (by omega)];rfl
    rw[hw]
    refine ihf (K+1) _ _ (Nat.or_lt_two_pow ho qA) qA (by omega) ?_ (by omega) (by omega) nN ?_ j
    ·rcases eX with h|h
     ·exact .inl h
     ·exact .inr (by omega)
    ·intro j
     rw[Nat.testBit_or,Bool.or_eq_true,dE,nN]
     constructor
     ·rintro(⟨n,h1,h2,h3⟩|h)
      ·exact⟨n,h1,by omega,h3⟩
      ·exact⟨K+1,by omega,Nat.le_refl _,h⟩
     ·rintro⟨n,h1,h2,h3⟩
      by_cases hn:n<=K
      ·exact .inl ⟨n,h1,hn,h3⟩
      ·have:n=K+1:=by omega
       subst this;exact .inr h3
theorem Zpg{s:List Nat}{back:Bool}{g:Nat->Nat}{R:Re}(hg:ZgG s back g R)(bF:∀f,f < ZcS->g f < ZcS):∀(n f:Nat),f < ZcS->∀j,(ZwC g n f).testBit j=true↔ZgT back (pow R n) f j
 | 0,f,hf,j=>by
  show f.testBit j=true↔ZgT back (λa b=>a=b) f j
  rw[Zpe]
 | n+1,f,hf,j=>by
  show(ZwC g n (g f)).testBit j=true↔_
  rw[Zpg hg bF n (g f) (bF f hf) j]
  unfold ZgT
  cases back with
  | false=>
   simp only[Bool.false_eq_true,if_false]
   constructor
   ·rintro⟨m,h1,h2⟩
    obtain⟨i,h3,h4⟩:=(hg f hf m).1 h1
    exact⟨i,h3,m,by simpa using h4,h2⟩
   ·rintro⟨i,h3,m,h4,h2⟩
    exact⟨m,(hg f hf m).2 ⟨i,h3,by simpa using h4⟩,h2⟩
  | true=>
   simp only[if_true]
   constructor
   ·rintro⟨m,h1,h2⟩
    obtain⟨i,h3,h4⟩:=(hg f hf m).1 h1
    exact⟨i,h3,(Zlq R n j i).2 ⟨m,h2,by simpa using h4⟩⟩
   ·rintro⟨i,h3,h4⟩
    obtain⟨m,h5,h6⟩:=(Zlq R n j i).1 h4
    exact⟨m,(hg f hf m).2 ⟨i,h3,by simpa using h6⟩,h5⟩
theorem ZtJ{s:List Nat}{back:Bool}{g:Nat->Nat}{R:Re}(hg:ZgG s back g R)(bF:∀f,f < ZcS->g f < ZcS){mn mx:Int}(h0:0<=mn)(tM:mn<=16)(eX:mx=-1\/mn<=mx):
  ZgG s back (Zxl g mn mx) (λi j=>∃n:Nat,mn.toNat<=n/\(mx=-1\/n<=mx.toNat)/\pow R n i j):=by
 intro f hf j
 obtain⟨k,rfl⟩:∃k:Nat,mn=k:=⟨mn.toNat,by omega⟩
 have hi:=ZoX bF k f hf
 have hb:=Zpg hg bF k f hf
 have Am:1024 < ZcS:=Zxk (n:=10) (by omega)
 unfold Zxl
 rw[Int.toNat_natCast]
 have:=Zq0 hg bF (mx:=mx) hf (show k<=16 by omega) (ZcS+1) k (ZwC g k f) (ZwC g k f) hi hi (Nat.le_refl _) eX (by omega) (by have:=ZvO (ZwC g k f);omega) hb (λj=>by
  rw[hb]
  constructor
  ·intro h;exact⟨k,Nat.le_refl _,Nat.le_refl _,h⟩
  ·rintro⟨n,h1,h2,h3⟩;obtain rfl:n=k:=by omega
   exact h3) j
 rw[this]
 unfold ZgT
 cases back with
 | false=>
  simp only[Bool.false_eq_true,if_false]
  constructor
  ·rintro⟨n,h1,h2,i,h3,h4⟩;exact⟨i,h3,n,h1,h2,h4⟩
  ·rintro⟨i,h3,n,h1,h2,h4⟩;exact⟨n,h1,h2,i,h3,h4⟩
 | true=>
  simp only[if_true]
  constructor
  ·rintro⟨n,h1,h2,i,h3,h4⟩;exact⟨i,h3,n,h1,h2,h4⟩
  ·rintro⟨i,h3,n,h1,h2,h4⟩;exact⟨n,h1,h2,i,h3,h4⟩
section
variable {s:List Nat}
theorem M_1{t:T}(h:t.k=1)(i j:Nat):t.M s i j↔i=j:=by cases t;simp only[T.k]at h;subst h;simp[T.M]
theorem M_2{t:T}(h:t.k=2)(i j:Nat):t.M s i j↔(j=i+1/\∃b,s[i]?=some b/\t.hasB b=true):=by cases t;simp only[T.k]at h;subst h;simp[T.M]
theorem M_3{t:T}(h:t.k=3)(i j:Nat):t.M s i j↔MC s t.subs i j:=by cases t;simp only[T.k]at h;subst h;simp[T.M,T.subs]
theorem M_4{t:T}(h:t.k=4)(i j:Nat):t.M s i j↔MA s t.subs i j:=by cases t;simp only[T.k]at h;subst h;simp[T.M,T.subs]
theorem M_5{t:T}(h:t.k=5)(i j:Nat):t.M s i j↔∃n:Nat,t.mn.toNat<=n/\(t.mx=-1\/n<=t.mx.toNat)/\pow (MH s t.subs) n i j:=by cases t;simp only[T.k]at h;subst h;simp[T.M,T.subs,T.mn,T.mx]
theorem M_6{t:T}(h:t.k=6)(i j:Nat):t.M s i j↔MH s t.subs i j:=by cases t;simp only[T.k]at h;subst h;simp[T.M,T.subs]
theorem ZxR(i j:Nat):MC s [] i j↔i=j:=by simp[MC]
theorem ZuV(t:T)(l:List T)(i j:Nat):MC s (t::l) i j↔∃m,t.M s i m/\MC s l m j:=by simp[MC]
theorem Zzi(i j:Nat):MA s [] i j↔False:=by simp[MA]
theorem ZxS(t:T)(l:List T)(i j:Nat):MA s (t::l) i j↔(t.M s i j\/MA s l i j):=by simp[MA]
theorem ZuW(t:T)(l:List T):MH s (t::l)=t.M s:=by simp[MH]
theorem ZcT{back:Bool}{g h:Nat->Nat}{R Q:Re}(hg:ZgG s back g R)(e:∀f,h f=g f)(k:∀i j,Q i j↔R i j):ZgG s back h Q:=by
 intro f hf j
 rw[e,hg f hf j]
 unfold ZgT
 cases back <;> simp only[k]
theorem Zkp(hs:s.length<=512):∀(l:List T),(∀x∈l,ZgG s false (x.lead s false) (x.M s))->ZgG s false (Zg6 s false l) (MC s l)
 | [],_=>by
  intro f hf j
  have e:ZgT false (MC s []) f j↔ZgT false (λa b=>a=b) f j:=by unfold ZgT;simp only[ZxR]
  rw[e,Zpe];rw[Zg6]
 | t::l,h=>ZcT (ZtH (h t (by simp)) (Zkp hs l λx hx=>h x (by simp[hx])) (ZfO s false hs t)) (λf=>by rw[Zg6]) (λi j=>ZuV t l i j)
theorem Zkq(hs:s.length<=512):∀(l:List T),(∀x∈l,ZgG s true (x.lead s true) (x.M s))->ZgG s true (ZgC s true l) (MC s l)
 | [],_=>by
  intro f hf j
  have e:ZgT true (MC s []) f j↔ZgT true (λa b=>a=b) f j:=by unfold ZgT;simp only[ZxR]
  rw[e,Zpe];rw[ZgC]
 | t::l,h=>ZcT (ZqZ (h t (by simp)) (Zkq hs l λx hx=>h x (by simp[hx])) (ZnW s true hs l)) (λf=>by rw[ZgC]) (λi j=>ZuV t l i j)
theorem Zph{back:Bool}(hs:s.length<=512):∀(l:List T),(∀x∈l,ZgG s back (x.lead s back) (x.M s))->∀f,f < ZcS->∀out j,(ZqQ s back l f out).testBit j=true↔(out.testBit j=true\/ZgT back (MA s l) f j)
 | [],_,f,hf,out,j=>by
  rw[ZrQ]
  constructor
  ·exact .inl
  ·rintro(h|⟨i,_,h⟩)
   ·exact h
   ·cases back <;> simp[Zzi]at h
 | t::l,h,f,hf,out,j=>by
  rw[ZoW,Zph hs l (λx hx=>h x (by simp[hx])) f hf,Nat.testBit_or,Bool.or_eq_true,h t (by simp) f hf j]
  have e:ZgT back (MA s (t::l)) f j↔ZgT back (λa b=>t.M s a b\/MA s l a b) f j:=by unfold ZgT;cases back <;> simp only[ZxS]
  rw[e,ZxQ,or_assoc]
theorem Zpi(back:Bool)(x:T):Zf9 s back [x]=x.lead s back:=by
 funext f;rw[Zf9]
theorem ZmC(back:Bool)(hs:s.length<=512):∀t:T,t.good=true->ZgG s back (t.lead s back) (t.M s)
 | t,hg=>by
  obtain⟨hr,bV⟩:=ZhK hg
  have ih:∀x∈t.subs,ZgG s back (x.lead s back) (x.M s):=λx hx=>ZmC back hs x (bV x hx)
  rcases ZgD hr with h|h|h|h|⟨h,⟨x,hx⟩,h0,tM,eX⟩|⟨h,x,hx⟩
  ·intro f hf j
   have e:ZgT back (t.M s) f j↔ZgT back (λa b=>a=b) f j:=by unfold ZgT;cases back <;> simp only[M_1 h]
   rw[e,Zpe,Zxm h]
  ·exact ZcT (ZtI s back t) (λf=>Zxn h f) (λi j=>M_2 h i j)
  ·cases back with
   | false=>exact ZcT (Zkp hs t.subs ih) (λf=>by rw[ZvE h];rfl) (λi j=>M_3 h i j)
   | true=>exact ZcT (Zkq hs t.subs ih) (λf=>by rw[ZvE h];rfl) (λi j=>M_3 h i j)
  ·intro f hf j
   rw[Zxo h,Zph hs t.subs ih f hf]
   have e:ZgT back (t.M s) f j↔ZgT back (MA s t.subs) f j:=by unfold ZgT;cases back <;> simp only[M_4 h]
   rw[e];simp
  ·have hx':x∈t.subs:=by rw[hx];simp
   have hl:=ZtJ (mn:=t.mn) (mx:=t.mx) (ih x hx') (ZfO s back hs x) h0 tM (by omega)
   exact ZcT hl (λf=>by rw[Zxp h,hx,Zpi]) (λi j=>by rw[M_5 h,hx,ZuW])
  ·have hx':x∈t.subs:=by rw[hx];simp
   exact ZcT (ih x hx') (λf=>by rw[Zxq h,hx,Zpi]) (λi j=>by rw[M_6 h,hx,ZuW])
termination_by t=>SizeOf.sizeOf t
decreasing_by exact ZoP hx
end
def Fwd(R:Re):Prop:=∀i j,R i j->i<=j
def Sh(s s':List Nat)(R R':Re):Prop:=∀i j i',R i j->(∀p,i+p < j->s[i+p]?=s'[i'+p]?)->R' i' (i'+(j - i))
def Len(s:List Nat)(R:Re):Prop:=∀i j,R i j->i<=s.length->j<=s.length
structure Nice (s s':List Nat)(R R':Re):Prop where
 fwd:Fwd R
 sh:Sh s s' R R'
 len:Len s R
theorem Zpj(n i:Nat):(2 ^ n).testBit i=true↔n=i:=by rw[Nat.testBit_two_pow];simp
theorem ZvP{t:T}(hg:t.good=true){s:List Nat}(hs:s.length<=512){i j:Nat}(hi:i < 576):(t.lead s false (2 ^ i)).testBit j=true↔t.M s i j:=by
 rw[ZmC false hs t hg _ (Zxk hi) j]
 unfold ZgT
 simp only[Zpj,Bool.false_eq_true,if_false]
 constructor
 ·rintro⟨k,rfl,h⟩;exact h
 ·intro h;exact⟨i,rfl,h⟩
end Go.Rx
namespace Go.Rx
open Go Go.Eng Go.RowKit
set_option maxRecDepth 100000
def ZzM(F n:Nat)(u:List Nat):List Nat:=(u.filter λk:Nat=>decide ((k:Int) - F<=n)).map λk=>k - F
end Go.Rx
namespace Go.Rx
open Go Go.Eng Go.RowKit
theorem Zn1{f:Nat->List Nat}{R:Re}{len:Nat}{mn mx:Int}(hf:Zde len f)(hR:∀i,i<=len->∀j,j∈f i↔R i j)(fX:0<=mn)(eX:mx=-1\/mn<=mx):∀{k d i j:Nat},i<=len->(mx=-1\/d<=mx.toNat)->mR len mn mx d i < k->(j∈ZkD f mn mx k d i↔∃n:Nat,mn.toNat<=d+n/\(mx=-1\/d+n<=mx.toNat)/\pow R n i j)
 | 0,d,i,j,_,_,h=>by omega
 | k+1,d,i,j,hi,hd,hk=>by
  have rI:∀n':Nat,mn.toNat<=Zbe mn mx d+n'↔mn.toNat<=d+(n'+1):=λn'=>by
   unfold Zbe
   split <;> omega
  simp only[ZkD]
  rw[Zcv,List.mem_append,List.mem_flatMap]
  constructor
  ·rintro(⟨x,hx,hj⟩|hj)
   ·obtain⟨h1,h2,h3⟩:=Zbb hx
    obtain⟨h4,h5⟩:=hf i hi x h2
    have bF:=ZrY (len:=len) fX eX h1 ⟨h4,h5⟩ h3
    unfold Ziv at h1
    simp only[Bool.or_eq_true,beq_iff_eq,decide_eq_true_eq]at h1
    have hd':mx=-1\/Zbe mn mx d<=mx.toNat:=by
     rcases h1 with h1|h1
     ·exact .inl h1
     ·by_cases e:mx=-1
      ·exact .inl e
      ·right;unfold Zbe;rw[if_neg e];omega
    obtain⟨n,g1,g2,g3⟩:=(Zn1 hf hR fX eX h5 hd' (by omega)).1 hj
    refine⟨n+1,(rI n).1 g1,?_,x,(hR i hi x).1 h2,g3⟩
    rcases g2 with g2|g2
    ·exact .inl g2
    ·by_cases e:mx=-1
     ·exact .inl e
     ·right;unfold Zbe at g2;rw[if_neg e]at g2;omega
   ·unfold ZnO at hj
    split at hj
    ·rename_i h
     have wt:j=i:=by simpa using hj
     subst wt
     exact⟨0,by omega,by simpa using hd,rfl⟩
    ·simp at hj
  ·rintro⟨n,g1,g2,g3⟩
   induction n with
   | zero=>
    right
    have g3:i=j:=g3
    subst g3
    unfold ZnO
    rw[if_pos (by omega)];simp
   | succ n ih=>
    obtain⟨x,hx,hp⟩:=g3
    have yK:=(hR i hi x).2 hx
    obtain⟨h4,h5⟩:=hf i hi x yK
    by_cases hc:i < x\/(d:Int) < mn
    ·left
     have hm:Ziv mx d=true:=by
      unfold Ziv
      simp only[Bool.or_eq_true,beq_iff_eq,decide_eq_true_eq]
      rcases g2 with g2|g2
      ·exact .inl g2
      ·by_cases e:mx=-1
       ·exact .inl e
       ·right;omega
     have bF:=ZrY (len:=len) fX eX hm ⟨h4,h5⟩ hc
     refine⟨x,?_,?_⟩
     ·unfold Zcp
      rw[if_pos hm,List.mem_filter]
      exact⟨yK,by simpa using hc⟩
     ·have hd':mx=-1\/Zbe mn mx d<=mx.toNat:=by
       rcases g2 with g2|g2
       ·exact .inl g2
       ·by_cases e:mx=-1
        ·exact .inl e
        ·right;unfold Zbe;rw[if_neg e];omega
      refine(Zn1 hf hR fX eX h5 hd' (by omega)).2 ⟨n,(rI n).2 g1,?_,hp⟩
      rcases g2 with g2|g2
      ·exact .inl g2
      ·by_cases e:mx=-1
       ·exact .inl e
       ·right;unfold Zbe;rw[if_neg e];omega
    ·have:x=i:=by omega
     subst this
     exact ih (by omega) (g2.imp id λh=>by omega) hp
theorem ZfC{t:T}(h:t.good=true):t.right=true/\∀x∈t.subs,x.good=true:=by
 rw[Zkj,Bool.and_eq_true]at h
 exact⟨h.1,List.all_eq_true.1 h.2⟩
mutual
theorem Zz1(s:List Nat):∀t:T,t.good=true->∀i,i<=s.length->∀j,(j∈t.e0 s i↔t.M s i j)
 | .node k s0 s1 s2 s3 mn mx a c l=>λhg i hi j=>by
  obtain⟨hr,hl⟩:=ZfC hg
  have hl:∀x∈l,x.good=true:=hl
  have hk:=ZgD hr
  simp only[T.k,T.subs,T.mn,T.mx]at hk
  simp only[T.e0,T.M]
  by_cases h1:k=1
  ·subst h1;simp[eq_comm]
  by_cases h2:k=2
  ·subst h2
   rw[if_neg (by decide),if_pos rfl,if_neg (by decide),if_pos rfl]
   unfold ZyO
   cases hb:s[i]? with
   | none=>simp
   | some b=>
    simp only
    by_cases hB:(T.node 2 s0 s1 s2 s3 mn mx a c l).hasB b=true
    ·rw[if_pos hB];simp[hB]
    ·rw[if_neg hB];simp[hB]
  by_cases h6:k=6
  ·subst h6
   rw[if_neg (by decide),if_neg (by decide),if_pos rfl,if_neg (by decide),if_neg (by decide),if_neg (by decide),if_neg (by decide),if_neg (by decide),if_pos rfl,Zcv]
   obtain⟨x,hx⟩:∃x,l=[x]:=by
    rcases hk with h|h|h|h|h|h <;> first|omega|exact h.2
   exact ZzN s l hl (by rw[hx];simp) i hi j
  by_cases h4:k=4
  ·subst h4
   rw[if_neg (by decide),if_neg (by decide),if_neg (by decide),if_pos rfl,if_neg (by decide),if_neg (by decide),if_neg (by decide),if_pos rfl,Zcv]
   exact ZxT s l hl i hi j
  by_cases h3:k=3
  ·subst h3
   rw[if_neg (by decide),if_neg (by decide),if_neg (by decide),if_neg (by decide),if_pos rfl,if_neg (by decide),if_neg (by decide),if_pos rfl]
   exact ZvQ s l hl i hi j
  by_cases h5:k=5
  ·subst h5
   rw[if_neg (by decide),if_neg (by decide),if_neg (by decide),if_neg (by decide),if_neg (by decide),if_pos rfl,if_neg (by decide),if_neg (by decide),if_neg (by decide),if_neg (by decide),if_pos rfl]
   obtain⟨⟨x,hx⟩,b1,b2,b3⟩:(∃x,l=[x])/\0<=mn/\mn<=16/\(mx=-1\/(1<=mx/\mn<=mx/\mx<=16)):=by
    rcases hk with h|h|h|h|h|h <;> first|omega|exact⟨h.2.1,h.2.2⟩
   rw[Zn1 (R:=MH s l) (Za6 s l) (λi hi j=>ZzN s l hl (by rw[hx];simp) i hi j) b1 (b3.imp id λh=>h.2.1) hi (b3.imp id λh=>by omega) (Nat.lt_succ_self _)]
   simp only[Nat.zero_add]
  ·exfalso
   rcases hk with h|h|h|h|h|h <;> omega
theorem ZzN(s:List Nat):∀l:List T,(∀x∈l,x.good=true)->l≠[]->∀i,i<=s.length->∀j,(j∈hd0 s l i↔MH s l i j)
 | [],_,h,i,hi,j=>absurd rfl h
 | t::l,hl,_,i,hi,j=>by simp only[hd0,MH];exact Zz1 s t (hl t (by simp)) i hi j
theorem ZxT(s:List Nat):∀l:List T,(∀x∈l,x.good=true)->∀i,i<=s.length->∀j,(j∈Zo2 s l i↔MA s l i j)
 | [],_,i,hi,j=>by simp[Zo2,MA]
 | t::l,hl,i,hi,j=>by
  simp only[Zo2,MA,List.mem_append]
  rw[Zz1 s t (hl t (by simp)) i hi j,ZxT s l (λx hx=>hl x (by simp[hx])) i hi j]
theorem ZvQ(s:List Nat):∀l:List T,(∀x∈l,x.good=true)->∀i,i<=s.length->∀j,(j∈Zhd (e0s s l) i↔MC s l i j)
 | [],_,i,hi,j=>by simp[e0s,Zhd,MC,eq_comm]
 | t::l,hl,i,hi,j=>by
  simp only[e0s,MC]
  rw[Zlo]
  constructor
  ·rintro⟨x,hx,hj⟩
   have kI:=(ZaQ s t i hi x hx).2
   exact⟨x,(Zz1 s t (hl t (by simp)) i hi x).1 hx,(ZvQ s l (λx hx=>hl x (by simp[hx])) x kI j).1 hj⟩
  ·rintro⟨x,hx,hj⟩
   have hx:=(Zz1 s t (hl t (by simp)) i hi x).2 hx
   have kI:=(ZaQ s t i hi x hx).2
   exact⟨x,hx,(ZvQ s l (λx hx=>hl x (by simp[hx])) x kI j).2 hj⟩
end
theorem Zq1{F j:Nat}{l:List Nat}:F+j∈l.map (F + ·)↔j∈l:=by
 rw[List.mem_map]
 constructor
 ·rintro⟨x,h1,h2⟩
  have:x=j:=by omega
  rw[<-this];exact h1
 ·exact λh=>⟨j,h,rfl⟩
theorem Zse(F:Nat):∀(l seen:List Nat),ZjJ (seen.map (F + ·)) (l.map (F + ·))=(ZjJ seen l).map (F + ·)
 | [],seen=>rfl
 | i::l,seen=>by
  simp only[List.map_cons,ZjJ,Zq1]
  split
  ·exact Zse F l seen
  ·have:=Zse F l (seen++[i])
   rw[List.map_append]at this
   exact this
theorem ZtK(F:Nat)(l:List Nat):ddp (l.map (F + ·))=(ddp l).map (F + ·):=Zse F l []
theorem Zsf(F len:Nat){f g:Nat->List Nat}(h:∀x,x<=len->g (F+x)=(f x).map (F + ·)):∀l:List Nat,(∀x∈l,x<=len)->(l.map (F + ·)).flatMap g=(l.flatMap f).map (F + ·)
 | [],_=>rfl
 | x::l,hl=>by
  simp only[List.map_cons,List.flatMap_cons,List.map_append]
  rw[h x (hl x (by simp)),Zsf F len h l λy hy=>hl y (by simp[hy])]
def ShF(F len:Nat)(f g:Nat->List Nat):Prop:=∀x,x<=len->g (F+x)=(f x).map (F + ·)
theorem Zsg{F len:Nat}{f g:Nat->List Nat}(h:ShF F len f g)(mn mx:Int)(d i:Nat)(hi:i<=len):Zcp g mn mx d (F+i)=(Zcp f mn mx d i).map (F + ·):=by
 unfold Zcp
 split
 ·rw[h i hi,List.filter_map]
  congr 1
  refine List.filter_congr λx _=>?_
  simp only[Function.comp]
  congr 1
  exact decide_eq_decide.2 (by omega)
 ·rfl
theorem Zsh{F len:Nat}{f g:Nat->List Nat}(hf:Zde len f)(h:ShF F len f g)(mn mx:Int):∀(k d i:Nat),i<=len->ZkD g mn mx k d (F+i)=(ZkD f mn mx k d i).map (F + ·)
 | 0,d,i,hi=>rfl
 | k+1,d,i,hi=>by
  simp only[ZkD]
  rw[Zsg h mn mx d i hi,Zsf F len (λx hx=>Zsh hf h mn mx k (Zbe mn mx d) x hx) _ (λx hx=>(hf i hi x (Zbb hx).2.1).2)]
  have e:ZnO mn d (F+i)=(ZnO mn d i).map (F + ·):=by unfold ZnO;split <;> rfl
  rw[e,<-List.map_append,ZtK]
theorem ZyQ(F len:Nat)(mn mx:Int)(d i:Nat):mR (F+len) mn mx d (F+i)=mR len mn mx d i:=by
 unfold mR;split <;> omega
mutual
theorem ZuX(f s:List Nat):∀t:T,ShF f.length s.length (t.e0 s) (t.e0 (f++s))
 | .node k s0 s1 s2 s3 mn mx a c l=>λi hi=>by
  simp only[T.e0]
  split
  ·rfl
  ·split
   ·unfold ZyO
    rw[List.getElem?_append_right (by omega),show f.length+i - f.length=i by omega]
    cases s[i]? with
    | none=>rfl
    | some b=>
     simp only
     split
     ·simp[Nat.add_assoc]
     ·rfl
   ·split
    ·rw[ZvR f s l i hi,ZtK]
    ·split
     ·rw[ZuY f s l i hi,ZtK]
     ·split
      ·exact Zsi f s l i hi
      ·split
       ·rw[List.length_append,ZyQ]
        exact Zsh (Za6 s l) (ZvR f s l) mn mx _ 0 i hi
       ·rfl
theorem ZvR(f s:List Nat):∀l:List T,ShF f.length s.length (hd0 s l) (hd0 (f++s) l)
 | []=>λi hi=>rfl
 | t::l=>λi hi=>by simp only[hd0];exact ZuX f s t i hi
theorem ZuY(f s:List Nat):∀l:List T,ShF f.length s.length (Zo2 s l) (Zo2 (f++s) l)
 | []=>λi hi=>rfl
 | t::l=>λi hi=>by simp only[Zo2];rw[ZuX f s t i hi,ZuY f s l i hi,List.map_append]
theorem Zsi(f s:List Nat):∀l:List T,ShF f.length s.length (Zhd (e0s s l)) (Zhd (e0s (f++s) l))
 | []=>λi hi=>rfl
 | t::l=>λi hi=>by
  simp only[e0s,Zhd]
  rw[ZuX f s t i hi,Zsf f.length s.length (Zsi f s l) _ (λx hx=>(ZaQ s t i hi x hx).2),ZtK]
end
def PSh(F:Nat)(P Q:PL):Prop:=P.length=Q.length/\∀(q:Nat)(x y:Int×Int),P[q]?=some x->Q[q]?=some y->y=(-1,-1)\/(x.1=y.1+F/\x.2=y.2+F)
theorem PSh.set{F:Nat}{P Q:PL}(h:PSh F P Q)(g i j:Nat):PSh F (P.set g (((F+i:Nat):Int),((F+j:Nat):Int))) (Q.set g ((i:Int),(j:Int))):=by
 refine⟨by simp[h.1],λq x y hx hy=>?_⟩
 by_cases e:q=g
 ·subst e
  by_cases hl:q < P.length
  ·rw[List.getElem?_set_self hl]at hx
   rw[List.getElem?_set_self (by rw[<-h.1];exact hl)]at hy
   cases hx;cases hy
   right;constructor <;> (simp only;omega)
  ·rw[List.getElem?_eq_none_iff.2 (by simp;omega)]at hx;cases hx
 ·rw[List.getElem?_set_ne (Ne.symm e)]at hx hy
  exact h.2 q x y hx hy
theorem Zsj{F:Nat}{p p':Nat->Bool}:∀{l:List Nat},(∀x∈l,p' (F+x)=p x)->(l.map (F + ·)).find? p'=(l.find? p).map (F + ·)
 | [],_=>rfl
 | x::l,h=>by
  simp only[List.map_cons,List.find?_cons]
  rw[h x (by simp)]
  cases p x with
  | true=>rfl
  | false=>exact Zsj λy hy=>h y (by simp[hy])
theorem Zpk(B:PL){L:Nat}{W:Nat->Nat->PL->PL}(hl:∀i j P,(W i j P).length=P.length)(hW:∀i j P,L<=P.length->W i j (P++B)=W i j P++B){E:Nat->List Nat}{len:Nat}{mn mx:Int}{to:Nat}:∀{k d i:Nat} {P:PL} {r:Nat},L<=P.length->ZnP W E len mn mx to k d i (P++B) r=((ZnP W E len mn mx to k d i P r).1++B,(ZnP W E len mn mx to k d i P r).2)
 | 0,d,i,P,r,_=>rfl
 | k+1,d,i,P,r,h=>by
  unfold ZnP
  split
  ·rfl
  ·rw[hW _ _ _ h,Zpk B hl hW (by rw[hl];exact h)]
mutual
theorem ZmD(s:List Nat)(B:PL):∀(t:T)(g i to:Nat)(P:PL),g+t.ngr<=P.length->t.wk s g i to (P++B)=((t.wk s g i to P).1++B,(t.wk s g i to P).2)
 | .node k s0 s1 s2 s3 mn mx a c l=>λg i to P h=>by
  simp only[T.ngr]at h
  simp only[T.wk]
  split
  ·rename_i h6
   rw[if_pos h6]at h
   rw[ZvN _ _ _ _ (by omega),Zsk s B l (g+1) i to _ (by rw[List.length_set];omega)]
  ·rename_i h6
   rw[if_neg h6]at h
   split
   ·rw[Zpl s B l g i to P (by omega)]
   ·split
    ·rw[Zpm s B l g i to P (by omega)]
    ·split
     ·exact Zpk B (L:=g+ZdO l) (λi j P=>Zr1 s l g i j P) (λi j P h=>Zsk s B l g i j P h) (by omega)
     ·rfl
theorem Zsk(s:List Nat)(B:PL):∀(l:List T)(g i to:Nat)(P:PL),g+ZdO l<=P.length->hdW s l g i to (P++B)=hdW s l g i to P++B
 | []=>λ_ _ _ _ _=>by simp[hdW]
 | t::l=>λg i to P h=>by simp only[ZdO]at h;simp only[hdW,ZmD s B t g i to P (by omega)]
theorem Zpl(s:List Nat)(B:PL):∀(l:List T)(g i to:Nat)(P:PL),g+ZdO l<=P.length->Zjp s l g i to (P++B)=Zjp s l g i to P++B
 | []=>λ_ _ _ _ _=>by simp[Zjp]
 | t::l=>λg i to P h=>by
  simp only[ZdO]at h
  simp only[Zjp]
  split
  ·rw[ZmD s B t g i to P (by omega)]
  ·rw[Zpl s B l (g+t.ngr) i to P (by omega)]
theorem Zpm(s:List Nat)(B:PL):∀(l:List T)(g i to:Nat)(P:PL),g+ZdO l<=P.length->Zjq s l g i to (P++B)=Zjq s l g i to P++B
 | []=>λ_ _ _ _ _=>by simp[Zjq]
 | t::l=>λg i to P h=>by
  simp only[ZdO]at h
  simp only[Zjq]
  split
  ·rfl
  ·rename_i j _
   rw[ZmD s B t g i j P (by omega),Zpm s B l (g+t.ngr) j to _ (by rw[Zln];omega)]
end
def shP(F:Nat)(y:Int×Int):Int×Int:=if y=(-1,-1)then y else(y.1+F,y.2+F)
theorem Zzj(F i j:Nat):shP F ((i:Int),(j:Int))=(((F+i:Nat):Int),((F+j:Nat):Int)):=by
 unfold shP
 rw[if_neg (by intro h;have:=congrArg Prod.fst h;simp only at this;omega)]
 refine Prod.ext ?_ ?_ <;> (simp only;omega)
theorem ZxU(F n:Nat):(List.replicate n ((-1:Int),(-1:Int))).map (shP F)=List.replicate n (-1,-1):=by
 rw[List.map_replicate];congr 1
theorem Zq2(F g i j:Nat)(Q:PL):(Q.map (shP F)).set g (((F+i:Nat):Int),((F+j:Nat):Int))=(Q.set g ((i:Int),(j:Int))).map (shP F):=by
 rw[List.map_set,Zzj]
theorem Zsl{F len:Nat}{W W':Nat->Nat->PL->PL}{E E':Nat->List Nat}(hE:Zde len E)(hS:ShF F len E E')(mn mx:Int)(to:Nat)(hW:∀i j Q,i<=len->j<=len->W' (F+i) (F+j) (Q.map (shP F))=(W i j Q).map (shP F)):∀(k d i:Nat)(Q:PL)(r:Nat),i<=len->
  ZnP W' E' (F+len) mn mx (F+to) k d (F+i) (Q.map (shP F)) r=((ZnP W E len mn mx to k d i Q r).1.map (shP F),(ZnP W E len mn mx to k d i Q r).2)
 | 0,d,i,Q,r,hi=>rfl
 | k+1,d,i,Q,r,hi=>by
  unfold ZnP
  rw[Zsg hS mn mx d i hi,Zsj (p:=λj=>decide (to∈ZkD E mn mx (mR len mn mx (Zbe mn mx d) j+1) (Zbe mn mx d) j)) (λx hx=>by
   rw[ZyQ,Zsh hE hS mn mx _ _ x (hE i hi x (Zbb hx).2.1).2]
   exact decide_eq_decide.2 Zq1)]
  cases gB:(Zcp E mn mx d i).find? (λj=>decide (to∈ZkD E mn mx (mR len mn mx (Zbe mn mx d) j+1) (Zbe mn mx d) j))with
  | none=>rfl
  | some j=>
   have hj:=(hE i hi j (Zbb (List.mem_of_find?_eq_some gB)).2.1).2
   simp only[Option.map_some]
   rw[hW i j Q hi hj]
   exact Zsl hE hS mn mx to hW k (Zbe mn mx d) j _ (r+1) hj
mutual
theorem ZtL(f s:List Nat):∀(t:T)(g i to:Nat)(Q:PL),i<=s.length->to<=s.length->
  t.wk (f++s) g (f.length+i) (f.length+to) (Q.map (shP f.length))=((t.wk s g i to Q).1.map (shP f.length),(t.wk s g i to Q).2)
 | .node k s0 s1 s2 s3 mn mx a c l=>λg i to Q hi ht=>by
  simp only[T.wk]
  split
  ·rw[Zq2,ZuZ f s l _ i to _ hi ht]
  ·split
   ·rw[Zsm f s l _ i to _ hi ht]
   ·split
    ·rw[Zsn f s l _ i to _ hi ht]
    ·split
     ·rw[List.length_append,ZyQ]
      exact Zsl (Za6 s l) (ZvR f s l) mn mx to (λi j Q hi hj=>ZuZ f s l g i j Q hi hj) _ 0 i Q 0 hi
     ·rfl
theorem ZuZ(f s:List Nat):∀(l:List T)(g i to:Nat)(Q:PL),i<=s.length->to<=s.length->hdW (f++s) l g (f.length+i) (f.length+to) (Q.map (shP f.length))=(hdW s l g i to Q).map (shP f.length)
 | []=>λ_ _ _ _ _ _=>by simp[hdW]
 | t::_=>λg i to Q hi ht=>by simp only[hdW];rw[ZtL f s t g i to Q hi ht]
theorem Zsm(f s:List Nat):∀(l:List T)(g i to:Nat)(Q:PL),i<=s.length->to<=s.length->Zjp (f++s) l g (f.length+i) (f.length+to) (Q.map (shP f.length))=(Zjp s l g i to Q).map (shP f.length)
 | []=>λ_ _ _ _ _ _=>by simp[Zjp]
 | t::l=>λg i to Q hi ht=>by
  simp only[Zjp]
  rw[ZuX f s t i hi]
  simp only[Zq1]
  split
  ·rw[ZtL f s t g i to Q hi ht]
  ·exact Zsm f s l _ i to Q hi ht
theorem Zsn(f s:List Nat):∀(l:List T)(g i to:Nat)(Q:PL),i<=s.length->to<=s.length->Zjq (f++s) l g (f.length+i) (f.length+to) (Q.map (shP f.length))=(Zjq s l g i to Q).map (shP f.length)
 | []=>λ_ _ _ _ _ _=>by simp[Zjq]
 | t::l=>λg i to Q hi ht=>by
  simp only[Zjq]
  rw[ZuX f s t i hi,Zsj (p:=λj=>decide (to∈Zhd (e0s s l) j)) (λx hx=>by
   rw[Zsi f s l x (ZaQ s t i hi x hx).2]
   exact decide_eq_decide.2 Zq1)]
  cases gB:(t.e0 s i).find? (λj=>decide (to∈Zhd (e0s s l) j))with
  | none=>rfl
  | some j=>
   have hj:=(ZaQ s t i hi j (List.mem_of_find?_eq_some gB)).2
   simp only[Option.map_some]
   rw[ZtL f s t g i j Q hi hj]
   exact Zsn f s l _ j to _ hj ht
end
theorem Zjt(q:Nat->Bool):∀(l seen:List Nat),ZjJ (seen.filter q) (l.filter q)=(ZjJ seen l).filter q
 | [],seen=>rfl
 | i::l,seen=>by
  by_cases hq:q i=true
  ·rw[List.filter_cons_of_pos hq]
   simp only[ZjJ]
   by_cases h:i∈seen
   ·rw[if_pos h,if_pos (List.mem_filter.2 ⟨h,hq⟩)]
    exact Zjt q l seen
   ·rw[if_neg h,if_neg (λh'=>h (List.mem_filter.1 h').1)]
    have:=Zjt q l (seen++[i])
    rw[List.filter_append,List.filter_cons_of_pos hq]at this
    exact this
  ·rw[List.filter_cons_of_neg hq]
   simp only[ZjJ]
   by_cases h:i∈seen
   ·rw[if_pos h];exact Zjt q l seen
   ·rw[if_neg h]
    have:=Zjt q l (seen++[i])
    rw[List.filter_append,List.filter_cons_of_neg hq,List.filter_nil,List.append_nil]at this
    exact this
def Zpn(n:Nat)(j:Nat):Bool:=decide (j<=n)
theorem Zpo(q:Nat->Bool)(l:List Nat):ddp (l.filter q)=(ddp l).filter q:=Zjt q l []
def TkF(n:Nat)(f f':Nat->List Nat):Prop:=∀i,i<=n->f' i=(f i).filter (Zpn n)
theorem Zso{n len:Nat}{g g':Nat->List Nat}(hg:Zde len g)(h:TkF n g g'):∀l:List Nat,(∀x∈l,x<=len)->(l.filter (Zpn n)).flatMap g'=(l.flatMap g).filter (Zpn n)
 | [],_=>rfl
 | x::l,hl=>by
  have ih:=Zso hg h l λy hy=>hl y (by simp[hy])
  rw[List.flatMap_cons,List.filter_append]
  by_cases hx:Zpn n x=true
  ·rw[List.filter_cons_of_pos hx,List.flatMap_cons,ih,h x (by simpa[Zpn]using hx)]
  ·rw[List.filter_cons_of_neg hx,ih]
   have:(g x).filter (Zpn n)=[]:=by
    rw[List.filter_eq_nil_iff]
    intro y hy
    have:=(hg x (hl x (by simp)) y hy).1
    have hx:¬x<=n:=by simpa[Zpn]using hx
    simp[Zpn];omega
   rw[this,List.nil_append]
theorem Zsp{n:Nat}{f f':Nat->List Nat}(h:TkF n f f')(mn mx:Int)(d i:Nat)(hi:i<=n):Zcp f' mn mx d i=(Zcp f mn mx d i).filter (Zpn n):=by
 unfold Zcp
 split
 ·rw[h i hi,List.filter_filter,List.filter_filter]
  refine List.filter_congr λx _=>Bool.and_comm _ _
 ·rfl
theorem Zsq{n len:Nat}(hn:n<=len){f f':Nat->List Nat}(hf:Zde len f)(h:TkF n f f')(mn mx:Int):∀(k d i:Nat),i<=n->ZkD f' mn mx k d i=(ZkD f mn mx k d i).filter (Zpn n)
 | 0,d,i,hi=>rfl
 | k+1,d,i,hi=>by
  simp only[ZkD]
  rw[Zsp h mn mx d i hi,Zso (Zdo hf) (λx hx=>Zsq hn hf h mn mx k (Zbe mn mx d) x hx) _ (λx hx=>(hf i (by omega) x (Zbb hx).2.1).2)]
  have e:ZnO mn d i=(ZnO mn d i).filter (Zpn n):=by
   unfold ZnO
   split
   ·rw[List.filter_cons_of_pos (by simpa[Zpn]using hi)];rfl
   ·rfl
  conv=>lhs;rw[e]
  rw[<-List.filter_append,Zpo]
theorem ZzO{n len:Nat}(h:n<=len)(mn mx:Int)(d i:Nat):mR n mn mx d i<=mR len mn mx d i:=by unfold mR;split <;> omega
theorem ZxV{t:T}(hr:t.right=true)(hk:t.k=5):0<=t.mn/\(t.mx=-1\/t.mn<=t.mx):=by
 have hk':=ZgD hr
 obtain⟨_,b1,_,b3⟩:(∃x,t.subs=[x])/\0<=t.mn/\t.mn<=16/\(t.mx=-1\/(1<=t.mx/\t.mn<=t.mx/\t.mx<=16)):=by
  rcases hk' with h|h|h|h|h|h <;> first|omega|exact⟨h.2.1,h.2.2⟩
 exact⟨b1,b3.imp id λh=>h.2.1⟩
mutual
theorem ZtM(s:List Nat)(n:Nat)(hn:n<=s.length):∀t:T,t.good=true->TkF n (t.e0 s) (t.e0 (s.take n))
 | .node k s0 s1 s2 s3 mn mx a c l=>λhg i hi=>by
  obtain⟨hr,hl⟩:=ZfC hg
  have hl:∀x∈l,x.good=true:=hl
  have eT:(s.take n).length=n:=by rw[List.length_take];omega
  simp only[T.e0]
  split
  ·rw[List.filter_cons_of_pos (by simpa[Zpn]using hi)];rfl
  ·split
   ·unfold ZyO
    by_cases eL:i < n
    ·rw[List.getElem?_take_of_lt eL]
     cases s[i]? with
     | none=>rfl
     | some b=>
      simp only
      split
      ·rw[List.filter_cons_of_pos (by simp[Zpn];omega)];rfl
      ·rfl
    ·rw[List.getElem?_eq_none_iff.2 (by rw[eT];omega)]
     cases s[i]? with
     | none=>rfl
     | some b=>
      simp only
      split
      ·rw[List.filter_cons_of_neg (by simp[Zpn];omega)];rfl
      ·rfl
   ·split
    ·rw[ZvS s n hn l hl i hi,Zpo]
    ·split
     ·rw[Zu0 s n hn l hl i hi,Zpo]
     ·split
      ·exact Zsr s n hn l hl i hi
      ·split
       ·rename_i h5
        obtain⟨b1,b2⟩:0<=mn/\(mx=-1\/mn<=mx):=ZxV hr h5
        have hw:Zde n (hd0 (s.take n) l):=by have:=Za6 (s.take n) l;rwa [eT]at this
        rw[eT,Ziw (k':=mR s.length mn mx 0 i+1) hw b1 b2 hi (Nat.lt_succ_self _) (by have:=ZzO hn mn mx 0 i;omega)]
        exact Zsq hn (Za6 s l) (ZvS s n hn l hl) mn mx _ 0 i hi
       ·rfl
theorem ZvS(s:List Nat)(n:Nat)(hn:n<=s.length):∀l:List T,(∀x∈l,x.good=true)->TkF n (hd0 s l) (hd0 (s.take n) l)
 | []=>λ_ i hi=>rfl
 | t::l=>λh i hi=>by simp only[hd0];exact ZtM s n hn t (h t (by simp)) i hi
theorem Zu0(s:List Nat)(n:Nat)(hn:n<=s.length):∀l:List T,(∀x∈l,x.good=true)->TkF n (Zo2 s l) (Zo2 (s.take n) l)
 | []=>λ_ i hi=>rfl
 | t::l=>λh i hi=>by
  simp only[Zo2]
  rw[ZtM s n hn t (h t (by simp)) i hi,Zu0 s n hn l (λx hx=>h x (by simp[hx])) i hi,List.filter_append]
theorem Zsr(s:List Nat)(n:Nat)(hn:n<=s.length):∀l:List T,(∀x∈l,x.good=true)->TkF n (Zhd (e0s s l)) (Zhd (e0s (s.take n) l))
 | []=>λ_ i hi=>by
  show[i]=[i].filter (Zpn n)
  rw[List.filter_cons_of_pos (by simpa[Zpn]using hi)];rfl
 | t::l=>λh i hi=>by
  simp only[e0s,Zhd]
  rw[ZtM s n hn t (h t (by simp)) i hi,Zso (Zdn (ZfB s l)) (Zsr s n hn l (λx hx=>h x (by simp[hx]))) _ (λx hx=>(ZaQ s t i (by omega) x hx).2),Zpo]
end
theorem Zss{n:Nat}{p p':Nat->Bool}:∀{l:List Nat},(∀x∈l,x<=n->p' x=p x)->(∀x∈l,n < x->p x=false)->(l.filter (Zpn n)).find? p'=l.find? p
 | [],_,_=>rfl
 | x::l,h1,h2=>by
  have ih:=Zss (l:=l) (λy hy=>h1 y (by simp[hy])) (λy hy=>h2 y (by simp[hy]))
  by_cases hx:x<=n
  ·rw[List.filter_cons_of_pos (by simpa[Zpn]using hx),List.find?_cons,List.find?_cons,h1 x (by simp) hx,ih]
  ·rw[List.filter_cons_of_neg (by simpa[Zpn]using hx),List.find?_cons,h2 x (by simp) (by omega),ih]
theorem Zq3{n j:Nat}{l:List Nat}(h:j<=n):j∈l.filter (Zpn n)↔j∈l:=by rw[List.mem_filter];simp[Zpn,h]
theorem Zu1{n len:Nat}(hn:n<=len){W W':Nat->Nat->PL->PL}{E E':Nat->List Nat}(hE:Zde len E)(hE':Zde n E')(hS:TkF n E E'){mn mx:Int}(fX:0<=mn)(eX:mx=-1\/mn<=mx){to:Nat}(jW:to<=n)(hW:∀i j P,i<=n->j<=n->W' i j P=W i j P):∀(k k' d i:Nat)(P:PL)(r:Nat),i<=n->mR len mn mx d i < k->mR n mn mx d i < k'->
  ZnP W' E' n mn mx to k' d i P r=ZnP W E len mn mx to k d i P r
 | 0,k',d,i,P,r,hi,h,_=>by omega
 | k+1,0,d,i,P,r,hi,_,h=>by omega
 | k+1,k'+1,d,i,P,r,hi,h1,h2=>by
  have eL:i<=len:=by omega
  unfold ZnP
  rw[Zsp hS mn mx d i hi,Zss (p:=λj=>decide (to∈ZkD E mn mx (mR len mn mx (Zbe mn mx d) j+1) (Zbe mn mx d) j)) (λx hx rJ=>by
    rw[Ziw (k':=mR len mn mx (Zbe mn mx d) x+1) hE' fX eX rJ (Nat.lt_succ_self _) (by have:=ZzO hn mn mx (Zbe mn mx d) x;omega),Zsq hn hE hS mn mx _ _ x rJ]
    exact decide_eq_decide.2 (Zq3 jW))
   (λx hx rJ=>decide_eq_false λh=>by
    have:=(Zdo hE (k:=mR len mn mx (Zbe mn mx d) x+1) (d:=Zbe mn mx d) (mn:=mn) (mx:=mx) x (hE i eL x (Zbb hx).2.1).2 to h).1
    omega)]
  cases gB:(Zcp E mn mx d i).find? (λj=>decide (to∈ZkD E mn mx (mR len mn mx (Zbe mn mx d) j+1) (Zbe mn mx d) j))with
  | none=>rfl
  | some j=>
   obtain⟨g1,g2,g3⟩:=Zbb (List.mem_of_find?_eq_some gB)
   obtain⟨g4,g5⟩:=hE i eL j g2
   have An:to∈ZkD E mn mx (mR len mn mx (Zbe mn mx d) j+1) (Zbe mn mx d) j:=by have:=List.find?_some gB;simpa using this
   have tN:j<=n:=by
    have:=(Zdo hE (k:=mR len mn mx (Zbe mn mx d) j+1) (d:=Zbe mn mx d) (mn:=mn) (mx:=mx) j g5 to An).1
    omega
   simp only
   rw[hW i j P hi tN]
   have l1:=ZrY (len:=len) fX eX g1 ⟨g4,g5⟩ g3
   have l2:=ZrY (len:=n) fX eX g1 ⟨g4,tN⟩ g3
   exact Zu1 hn hE hE' hS fX eX jW hW k k' (Zbe mn mx d) j _ (r+1) tN (by omega) (by omega)
mutual
theorem ZxW(s:List Nat)(n:Nat)(hn:n<=s.length):∀(t:T),t.good=true->∀(g i to:Nat)(P:PL),i<=n->to<=n->t.wk (s.take n) g i to P=t.wk s g i to P
 | .node k s0 s1 s2 s3 mn mx a c l=>λhg g i to P hi ht=>by
  obtain⟨hr,hl⟩:=ZfC hg
  have hl:∀x∈l,x.good=true:=hl
  have eT:(s.take n).length=n:=by rw[List.length_take];omega
  simp only[T.wk]
  split
  ·rw[ZxX s n hn l hl _ i to _ hi ht]
  ·split
   ·rw[Zu2 s n hn l hl _ i to _ hi ht]
   ·split
    ·rw[Zu3 s n hn l hl _ i to _ hi ht]
    ·split
     ·rename_i h5
      obtain⟨b1,b2⟩:0<=mn/\(mx=-1\/mn<=mx):=ZxV hr h5
      have hw:Zde n (hd0 (s.take n) l):=by have:=Za6 (s.take n) l;rwa [eT]at this
      rw[eT]
      exact Zu1 hn (Za6 s l) hw (ZvS s n hn l hl) b1 b2 ht (λi j P hi hj=>ZxX s n hn l hl g i j P hi hj) _ _ 0 i P 0 hi (Nat.lt_succ_self _) (Nat.lt_succ_self _)
     ·rfl
theorem ZxX(s:List Nat)(n:Nat)(hn:n<=s.length):∀(l:List T),(∀x∈l,x.good=true)->∀(g i to:Nat)(P:PL),i<=n->to<=n->hdW (s.take n) l g i to P=hdW s l g i to P
 | []=>λ_ _ _ _ _ _ _=>by simp[hdW]
 | t::_=>λh g i to P hi ht=>by simp only[hdW];rw[ZxW s n hn t (h t (by simp)) g i to P hi ht]
theorem Zu2(s:List Nat)(n:Nat)(hn:n<=s.length):∀(l:List T),(∀x∈l,x.good=true)->∀(g i to:Nat)(P:PL),i<=n->to<=n->Zjp (s.take n) l g i to P=Zjp s l g i to P
 | []=>λ_ _ _ _ _ _ _=>by simp[Zjp]
 | t::l=>λh g i to P hi ht=>by
  simp only[Zjp]
  rw[ZtM s n hn t (h t (by simp)) i hi]
  simp only[Zq3 ht]
  split
  ·rw[ZxW s n hn t (h t (by simp)) g i to P hi ht]
  ·exact Zu2 s n hn l (λx hx=>h x (by simp[hx])) _ i to P hi ht
theorem Zu3(s:List Nat)(n:Nat)(hn:n<=s.length):∀(l:List T),(∀x∈l,x.good=true)->∀(g i to:Nat)(P:PL),i<=n->to<=n->Zjq (s.take n) l g i to P=Zjq s l g i to P
 | []=>λ_ _ _ _ _ _ _=>by simp[Zjq]
 | t::l=>λh g i to P hi ht=>by
  have hl:∀x∈l,x.good=true:=λx hx=>h x (by simp[hx])
  simp only[Zjq]
  rw[ZtM s n hn t (h t (by simp)) i hi,Zss (p:=λj=>decide (to∈Zhd (e0s s l) j)) (λx hx rJ=>by
    rw[Zsr s n hn l hl x rJ]
    exact decide_eq_decide.2 (Zq3 ht))
   (λx hx rJ=>decide_eq_false λh'=>by
    have:=(Zdn (ZfB s l) x (ZaQ s t i (by omega) x hx).2 to h').1
    omega)]
  cases gB:(t.e0 s i).find? (λj=>decide (to∈Zhd (e0s s l) j))with
  | none=>rfl
  | some j=>
   have h1:=(ZaQ s t i (by omega) j (List.mem_of_find?_eq_some gB)).2
   have h2:to∈Zhd (e0s s l) j:=by have:=List.find?_some gB;simpa using this
   have hj:j<=n:=by
    have:=(Zdn (ZfB s l) j h1 to h2).1
    omega
   simp only
   rw[ZxW s n hn t (h t (by simp)) g i j P hi hj]
   exact Zu3 s n hn l hl _ j to _ hj ht
end
theorem Zc2{t x:T}{k:Int}{L:List T}{a:Option Addr}{c:Nat}(hk:k=3\/k=4)(hc:t.check=0)(he:t.er=(Zap k 0 0 a c L).er)(hx:x∈L):x.check=0:=by
 rw[Zr8 he]at hc
 obtain⟨hg,hn⟩:=Zcs hc
 have e:(Zap k 0 0 a c L).nodes=Zap k 0 0 a c L::Zak L:=by rw[Zbk];rfl
 have Ao:x.good=true:=(ZfC hg).2 x hx
 obtain⟨A,B,yL⟩:=List.append_of_mem hx
 have q7:Zak L=Zak A++(x.nodes++Zak B):=by rw[yL,Zc0];simp[Zak]
 have Ap:x.nodes.length<=119:=by
  rw[e,q7]at hn;simp only[List.length_cons,List.length_append]at hn;omega
 have hl:x.light=true:=by unfold T.light;exact decide_eq_true (by omega)
 have yM:(Zap k 0 0 a c L).light=true:=by unfold T.light;exact decide_eq_true (by omega)
 have eJ:x.clean=true:=by unfold T.clean;rw[hl];exact Ao
 unfold T.check at hc
 unfold T.check
 rw[eJ]
 split at hc
 ·cases hc
 split at hc
 ·cases hc
 split at hc
 ·cases hc
 rename_i h3
 split at hc
 ·cases hc
 rename_i h4
 have hp:x.pos<=400:=by
  unfold T.positions at h3
  rw[yM,if_pos rfl,ZoS]at h3
  have h3:¬Zut k 0 0 ((if k=2 then 1 else 0)+ZeS L) > 400:=h3
  have oS:∀L:List T,0<=ZeS L:=ZhH
  have cU:∀A:List T,ZeS (A++x::B)=ZeS A+(x.pos+ZeS B):=λA=>by
   induction A with
   | nil=>simp[ZeS]
   | cons y A ih=>rw[List.cons_append,ZeS,ZeS,ih];omega
  rw[yL,cU]at h3
  have:=oS A
  have:=oS B
  have:=(Zit x).1
  unfold Zut ZqP at h3
  rw[if_neg (by omega:¬k=5),if_neg (by omega:¬k=2)]at h3
  split at h3 <;> omega
 have jI:(x.nodes.countP λx=>x.k == 6)<=9:=by
  unfold T.groups at h4
  rw[yM,if_pos rfl,e,List.countP_cons,q7,List.countP_append,List.countP_append]at h4
  omega
 unfold T.size T.positions T.groups
 rw[hl]
 simp only[if_true,Bool.true_eq_false,if_false]
 rw[if_neg (by omega),if_neg (by omega),if_neg (by omega)]
theorem ZxY{E G1 G2:T}{a:Option Addr}{c:Nat}{s:List Nat}(he:E.er=(Zap 4 0 0 a c [G1,G2]).er)(hc:E.check=0)(hs:s.length<=512):
  Zb1 E s=if(Zb1 G1 s).2=0 then((Zb1 G1 s).1++List.replicate G2.ngr (-1,-1),0)else if(Zb1 G2 s).2=0 then(List.replicate G1.ngr (-1,-1)++(Zb1 G2 s).1,0)else([],141):=by
 have c1:=Zc2 (.inr rfl) hc he (x:=G1) (by simp)
 have c2:=Zc2 (.inr rfl) hc he (x:=G2) (by simp)
 have w0:=Zbl hc hs
 have w1:=Zbl c1 hs
 have w2:=Zbl c2 hs
 have e1:Zkm E s=Zkm (Zap 4 0 0 a c [G1,G2]) s:=by rw[<-ZhL,he,ZhL]
 have e2:E.e0 s 0=(Zap 4 0 0 a c [G1,G2]).e0 s 0:=by rw[<-ZgE,he,ZgE]
 have e3:(Zap 4 0 0 a c [G1,G2]).e0 s 0=ddp (Zo2 s [G1,G2] 0):=by unfold Zap;simp[T.e0]
 have hm:s.length∈E.e0 s 0↔s.length∈G1.e0 s 0\/s.length∈G2.e0 s 0:=by
  rw[e2,e3,Zcv];simp[Zo2]
 have hn:(Zap 4 0 0 a c [G1,G2]).ngr=G1.ngr+G2.ngr:=by
  show(if(4:Int)=6 then 1 else 0)+(G1.ngr+(G2.ngr+0))=_
  rw[if_neg (by decide)];omega
 have cX:List.replicate (G1.ngr+G2.ngr) ((-1:Int),(-1:Int))=List.replicate G1.ngr (-1,-1)++List.replicate G2.ngr (-1,-1):=by simp
 have e4:(Zkm E s).1=if s.length∈G1.e0 s 0 then(Zkm G1 s).1++List.replicate G2.ngr (-1,-1)else if s.length∈G2.e0 s 0 then List.replicate G1.ngr (-1,-1)++(Zkm G2 s).1 else List.replicate (G1.ngr+G2.ngr) (-1,-1):=by
  rw[e1]
  unfold Zkm
  rw[hn,Zxx]
  show(if(4:Int)=6 then _ else if(4:Int)=4 then _ else _:PL×Nat).1=_
  rw[if_neg (by decide),if_pos rfl]
  show Zjp s [G1,G2] 0 0 s.length (List.replicate (G1.ngr+G2.ngr) (-1,-1))=_
  simp only[Zjp]
  split
  ·rw[cX,ZmD s _ G1 0 0 s.length _ (by simp)]
  ·split
   ·rw[cX]
    have:=ZqY s (List.replicate G1.ngr ((-1:Int),(-1:Int))) G2 0 0 s.length (List.replicate G2.ngr (-1,-1))
    rw[List.length_replicate,Nat.add_zero]at this
    rw[Nat.zero_add,this]
   ·rfl
 unfold Zb1
 simp only[w0,w1,w2,ne_eq,not_true_eq_false,if_false]
 by_cases h1:s.length∈G1.e0 s 0
 ·rw[if_pos (hm.2 (.inl h1)),if_pos h1,e4,if_pos h1];rfl
 ·by_cases h2:s.length∈G2.e0 s 0
  ·rw[if_pos (hm.2 (.inr h2)),if_neg h1,if_pos h2,e4,if_neg h1,if_pos h2];rfl
  ·rw[if_neg (λh=>(hm.1 h).elim h1 h2),if_neg h1,if_neg h2];rfl
theorem Zlt(p:Nat->Bool):∀(l seen:List Nat),(∀x∈seen,p x=false)->(ZjJ seen l).find? p=l.find? p
 | [],seen,h=>by
  unfold ZjJ
  rw[List.find?_eq_none.2 (λx hx=>by simp[h x hx])];rfl
 | i::l,seen,h=>by
  simp only[ZjJ]
  split
  ·rename_i hi
   rw[List.find?_cons,h i hi]
   exact Zlt p l seen h
  ·cases hp:p i with
   | false=>
    rw[List.find?_cons,hp]
    exact Zlt p l (seen++[i]) λx hx=>by
     rcases List.mem_append.1 hx with hx|hx
     ·exact h x hx
     ·have:x=i:=by simpa using hx
      rw[this];exact hp
   | true=>
    rw[List.find?_cons,hp]
    have:∀(l seen:List Nat),(∃r,seen=r++[i]/\∀x∈r,p x=false)\/seen.find? p=some i->(ZjJ seen l).find? p=some i:=λl=>by
     induction l with
     | nil=>
      intro seen hs
      rcases hs with⟨r,rfl,hr⟩|hs
      ·unfold ZjJ;rw[List.find?_append,List.find?_eq_none.2 (λx hx=>by simp[hr x hx])];simp[hp]
      ·exact hs
     | cons y l ih=>
      intro seen hs
      have hs':seen.find? p=some i:=by
       rcases hs with⟨r,rfl,hr⟩|hs
       ·rw[List.find?_append,List.find?_eq_none.2 (λx hx=>by simp[hr x hx])];simp[hp]
       ·exact hs
      simp only[ZjJ]
      split
      ·exact ih seen (.inr hs')
      ·exact ih (seen++[y]) (.inr (by rw[List.find?_append,hs'];rfl))
    exact this l (seen++[i]) (.inl ⟨seen,rfl,h⟩)
theorem ZvT(p:Nat->Bool)(l:List Nat):(ddp l).find? p=l.find? p:=Zlt p l [] (by simp)
theorem ZvU{l:List Nat}{n:Nat}(h:n∈l):l.find? (λj=>decide (n∈Zhd [] j))=some n:=by
 have hp:∀j,decide (n∈Zhd [] j)=decide (n=j):=λj=>decide_eq_decide.2 (by simp[Zhd])
 simp only[hp]
 induction l with
 | nil=>simp at h
 | cons x l ih=>
  rw[List.find?_cons]
  by_cases e:n=x
  ·subst e;simp
  ·rw[decide_eq_false e]
   exact ih (by rcases List.mem_cons.1 h with h|h;exact absurd h e;exact h)
theorem ZxZ{E G1 G2 t1 t2:T}{a a1 a2:Option Addr}{c c1 c2:Nat}{s:List Nat}(he:E.er=(Zap 3 0 0 a c [G1,G2]).er)(wC:G1.er=(Zap 6 0 0 a1 c1 [t1]).er)(Aq:G2.er=(Zap 6 0 0 a2 c2 [t2]).er)(hc:E.check=0)(hs:s.length<=512):
  Zb1 E s=match(t1.e0 s 0).find? (λi=>decide ((s.drop i).length∈t2.e0 (s.drop i) 0))with
   | none=>([],141)
   | some i=>((Zb1 G1 (s.take i)).1++(Zb1 G2 (s.drop i)).1.map (shP i),0):=by
 have k1:=Zc2 (.inl rfl) hc he (x:=G1) (by simp)
 have k2:=Zc2 (.inl rfl) hc he (x:=G2) (by simp)
 have w0:=Zbl hc hs
 have e1:Zkm E s=Zkm (Zap 3 0 0 a c [G1,G2]) s:=by rw[<-ZhL,he,ZhL]
 have e2:E.e0 s 0=(Zap 3 0 0 a c [G1,G2]).e0 s 0:=by rw[<-ZgE,he,ZgE]
 have e3:(Zap 3 0 0 a c [G1,G2]).e0 s 0=Zhd (e0s s [G1,G2]) 0:=by unfold Zap;simp[T.e0]
 have tO:∀(s:List Nat)(i:Nat),G1.e0 s i=ddp (t1.e0 s i):=λs i=>by
  have:G1.e0 s i=(Zap 6 0 0 a1 c1 [t1]).e0 s i:=by rw[<-ZgE,wC,ZgE]
  rw[this]
  have:(Zap 6 0 0 a1 c1 [t1]).e0 s i=ddp (hd0 s [t1] i):=by unfold Zap;simp[T.e0]
  rw[this];rfl
 have yN:∀(s:List Nat)(i:Nat),G2.e0 s i=ddp (t2.e0 s i):=λs i=>by
  have:G2.e0 s i=(Zap 6 0 0 a2 c2 [t2]).e0 s i:=by rw[<-ZgE,Aq,ZgE]
  rw[this]
  have:(Zap 6 0 0 a2 c2 [t2]).e0 s i=ddp (hd0 s [t2] i):=by unfold Zap;simp[T.e0]
  rw[this];rfl
 have jS:∀i,i<=s.length->(s.length∈G2.e0 s i↔(s.drop i).length∈t2.e0 (s.drop i) 0):=λi hi=>by
  have h:=ZuX (s.take i) (s.drop i) G2 0 (by omega)
  have nJ:(s.take i).length=i:=by rw[List.length_take];omega
  rw[List.take_append_drop,nJ,Nat.add_zero]at h
  rw[h,List.length_drop]
  have:=Zq1 (F:=i) (j:=s.length - i) (l:=G2.e0 (s.drop i) 0)
  rw[show i+(s.length - i)=s.length by omega]at this
  rw[this,yN,Zcv]
 have lL:∀j,s.length∈Zhd (e0s s [G2]) j↔s.length∈G2.e0 s j:=λj=>by
  simp only[e0s]
  rw[Zlo]
  constructor
  ·rintro⟨x,hx,h⟩
   have h:s.length=x:=by simpa[Zhd]using h
   rw[<-h]at hx;exact hx
  ·exact λh=>⟨s.length,h,by simp[Zhd]⟩
 have fT:(G1.e0 s 0).find? (λj=>decide (s.length∈Zhd (e0s s [G2]) j))=(t1.e0 s 0).find? (λi=>decide ((s.drop i).length∈t2.e0 (s.drop i) 0)):=by
  rw[tO,ZvT]
  have hw:∀x∈t1.e0 s 0,x<=s.length:=λx hx=>(ZaQ s t1 0 (by omega) x hx).2
  generalize t1.e0 s 0=l at hw
  induction l with
  | nil=>rfl
  | cons x l ih=>
   rw[List.find?_cons,List.find?_cons,ih λy hy=>hw y (by simp[hy])]
   have:decide (s.length∈Zhd (e0s s [G2]) x)=decide ((s.drop x).length∈t2.e0 (s.drop x) 0):=decide_eq_decide.2 ((lL x).trans (jS x (hw x (by simp))))
   rw[this]
 have cE:s.length∈E.e0 s 0↔∃i,i∈G1.e0 s 0/\s.length∈G2.e0 s i:=by
  rw[e2,e3]
  simp only[e0s]
  rw[Zlo]
  constructor
  ·rintro⟨x,h1,h2⟩;exact⟨x,h1,(lL x).1 (by simpa[e0s]using h2)⟩
  ·rintro⟨x,h1,h2⟩;exact⟨x,h1,by simpa[e0s]using(lL x).2 h2⟩
 cases gB:(t1.e0 s 0).find? (λi=>decide ((s.drop i).length∈t2.e0 (s.drop i) 0))with
 | none=>
  have fL:s.length ∉ E.e0 s 0:=λh=>by
   obtain⟨i,h1,h2⟩:=cE.1 h
   rw[<-fT]at gB
   have:=List.find?_eq_none.1 gB i h1
   exact this (decide_eq_true ((lL i).2 h2))
  unfold Zb1
  rw[if_neg (by simp[w0]),if_neg fL]
 | some i=>
  have gW:i∈t1.e0 s 0:=List.mem_of_find?_eq_some gB
  have iM:(s.drop i).length∈t2.e0 (s.drop i) 0:=by have:=List.find?_some gB;simpa using this
  have rK:=(ZaQ s t1 0 (by omega) i gW).2
  have jW:s.length∈G2.e0 s i:=(jS i rK).2 iM
  have wD:s.length∈E.e0 s 0:=cE.2 ⟨i,by rw[tO,Zcv];exact gW,jW⟩
  have hn:(Zap 3 0 0 a c [G1,G2]).ngr=G1.ngr+G2.ngr:=by
   show(if(3:Int)=6 then 1 else 0)+(G1.ngr+(G2.ngr+0))=_
   rw[if_neg (by decide)];omega
  have eT:(s.take i).length=i:=by rw[List.length_take];omega
  have wy:(s.drop i).length=s.length - i:=List.length_drop ..
  have tP:(Zb1 G1 (s.take i)).1=(G1.wk s 0 0 i (List.replicate G1.ngr (-1,-1))).1:=by
   have w1:=Zbl k1 (n:=(s.take i).length) (by omega)
   have eL:(s.take i).length∈G1.e0 (s.take i) 0:=by
    rw[eT,ZtM s i rK G1 (Zcs k1).1 0 (by omega),Zq3 (Nat.le_refl _),tO,Zcv];exact gW
   unfold Zb1
   rw[if_neg (by rw[w1];simp),if_pos eL]
   unfold Zkm
   rw[eT,ZxW s i rK G1 (Zcs k1).1 0 0 i _ (by omega) (Nat.le_refl _)]
  have tQ:(Zb1 G2 (s.drop i)).1.map (shP i)=(G2.wk s 0 i s.length (List.replicate G2.ngr (-1,-1))).1:=by
   have w2:=Zbl k2 (n:=(s.drop i).length) (by omega)
   have eL:(s.drop i).length∈G2.e0 (s.drop i) 0:=by rw[yN,Zcv];exact iM
   unfold Zb1
   rw[if_neg (by rw[w2];simp),if_pos eL]
   unfold Zkm
   have:=ZtL (s.take i) (s.drop i) G2 0 0 (s.drop i).length (List.replicate G2.ngr (-1,-1)) (by omega) (Nat.le_refl _)
   rw[List.take_append_drop,eT,ZxU,Nat.add_zero,wy,show i+(s.length - i)=s.length by omega]at this
   rw[this,wy]
  have cX:List.replicate (G1.ngr+G2.ngr) ((-1:Int),(-1:Int))=List.replicate G1.ngr (-1,-1)++List.replicate G2.ngr (-1,-1):=by simp
  have e4:(Zkm E s).1=(G1.wk s 0 0 i (List.replicate G1.ngr (-1,-1))).1++(G2.wk s 0 i s.length (List.replicate G2.ngr (-1,-1))).1:=by
   rw[e1]
   unfold Zkm
   rw[hn,Zxx]
   show(if(3:Int)=6 then _ else if(3:Int)=4 then _ else if(3:Int)=3 then _ else _:PL×Nat).1=_
   rw[if_neg (by decide),if_neg (by decide),if_pos rfl]
   show Zjq s [G1,G2] 0 0 s.length (List.replicate (G1.ngr+G2.ngr) (-1,-1))=_
   simp only[Zjq]
   rw[fT,gB]
   simp only
   have wE:(G2.e0 s i).find? (λj=>decide (s.length∈Zhd (e0s s []) j))=some s.length:=ZvU jW
   rw[wE]
   simp only
   rw[cX,ZmD s _ G1 0 0 i _ (by simp)]
   have lY:(G1.wk s 0 0 i (List.replicate G1.ngr (-1,-1))).1.length=G1.ngr:=by rw[Zln,List.length_replicate]
   have:=ZqY s (G1.wk s 0 0 i (List.replicate G1.ngr (-1,-1))).1 G2 0 i s.length (List.replicate G2.ngr (-1,-1))
   rw[lY,Nat.add_zero]at this
   rw[Nat.zero_add,this]
  simp only
  rw[tP,tQ,<-e4]
  unfold Zb1
  rw[if_neg (by simp[w0]),if_pos wD]
theorem Zlu{t:T}(h:t.check=0):t.ngr<=9:=by
 have h1:=ZmA h
 unfold T.check at h
 split at h
 ·cases h
 split at h
 ·cases h
 split at h
 ·cases h
 split at h
 ·cases h
 ·omega
theorem ZvV{G1 t1:T}{a1:Option Addr}{c1:Nat}{s:List Nat}{i:Nat}(wC:G1.er=(Zap 6 0 0 a1 c1 [t1]).er)(hc:G1.check=0)(hs:s.length<=512)(hi:i∈t1.e0 s 0):(Zb1 G1 (s.take i)).2=0:=by
 have rK:=(ZaQ s t1 0 (by omega) i hi).2
 have eT:(s.take i).length=i:=by rw[List.length_take];omega
 have w1:=Zbl hc (n:=(s.take i).length) (by omega)
 have tO:G1.e0 s 0=ddp (t1.e0 s 0):=by
  have:G1.e0 s 0=(Zap 6 0 0 a1 c1 [t1]).e0 s 0:=by rw[<-ZgE,wC,ZgE]
  rw[this]
  have:(Zap 6 0 0 a1 c1 [t1]).e0 s 0=ddp (hd0 s [t1] 0):=by unfold Zap;simp[T.e0]
  rw[this];rfl
 have eL:(s.take i).length∈G1.e0 (s.take i) 0:=by
  rw[eT,ZtM s i rK G1 (Zcs hc).1 0 (by omega),Zq3 (Nat.le_refl _),tO,Zcv];exact hi
 unfold Zb1
 rw[if_neg (by rw[w1];simp),if_pos eL]
theorem Znk{p:Nat->Bool}{l:List Nat}{j x:Nat}(h1:∀y∈l.take j,p y=false)(h2:l[j]?=some x)(h3:p x=true):l.find? p=some x:=by
 have hj:=(List.getElem?_eq_some_iff.1 h2).1
 have e:l=l.take j++x::l.drop (j+1):=by
  have h5:=List.drop_eq_getElem_cons hj
  rw[(List.getElem?_eq_some_iff.1 h2).2]at h5
  rw[<-h5,List.take_append_drop]
 rw[e,List.find?_append,List.find?_eq_none.2 (λy hy=>by simp[h1 y hy]),List.find?_cons,h3];rfl
structure Rnd (E:Nat->List Nat)(W:Nat->Nat->PL->PL)(P0:PL)(mn mx:Int)(i:Nat)(P:PL)(r:Nat):Prop where
 wF:mx=-1\/(r:Int)<=mx
 few:(r:Int)<=mn+i
 none:r=0->i=0/\P=P0
 last:0 < r->∃(fr:Nat)(Pp:PL),fr<=i/\i∈E fr/\(mn < (r:Int)->fr≠i)/\Pp.length=P0.length/\P=W fr i Pp
structure Rounds (t G:T)(lo hi:Int)(s:List Nat)(P:PL)(r:Nat):Prop where
 low:lo<=r
 wF:hi=-1\/(r:Int)<=hi
 few:(r:Int)<=lo+s.length
 len:P.length=t.ngr+1
 none:r=0->s.length=0/\P[0]?=some (-1,-1)
 last:0 < r->∃fr:Nat,fr<=s.length/\s.length∈t.e0 s fr/\(lo < (r:Int)->fr≠s.length)/\P[0]?=some ((fr:Int),(s.length:Int))/\PSh fr P (Zkm G (s.drop fr)).1
end Go.Rx