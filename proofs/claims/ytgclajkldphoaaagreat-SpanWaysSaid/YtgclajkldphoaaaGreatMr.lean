/- Trees of regexes, what they mean, and B9 they lie in memory; plain, no program is named. No condition. -/
import Derived.Test.YtgclajkldphoaaaGreatMc
set_option linter.unusedVariables false
set_option linter.unusedSimpArgs false
set_option linter.unusedSectionVars false
namespace Go.Rx
open Go Go.Eng
inductive T where
 | node (k s0 s1 s2 s3 mn mx:Int) (a:Option Addr) (c:Nat) (subs:List T)
def T.k:T->Int
 | .node k _ _ _ _ _ _ _ _ _=>k
def T.s0:T->Int
 | .node _ s _ _ _ _ _ _ _ _=>s
def T.s1:T->Int
 | .node _ _ s _ _ _ _ _ _ _=>s
def T.s2:T->Int
 | .node _ _ _ s _ _ _ _ _ _=>s
def T.s3:T->Int
 | .node _ _ _ _ s _ _ _ _ _=>s
def T.mn:T->Int
 | .node _ _ _ _ _ x _ _ _ _=>x
def T.mx:T->Int
 | .node _ _ _ _ _ _ x _ _ _=>x
def T.a:T->Option Addr
 | .node _ _ _ _ _ _ _ a _ _=>a
def T.c:T->Nat
 | .node _ _ _ _ _ _ _ _ c _=>c
def T.subs:T->List T
 | .node _ _ _ _ _ _ _ _ _ l=>l
def T.sl(t:T):Value:=.slice t.a t.subs.length t.c
def T.cs(t:T):List Value:=[.int .u8 t.k,.int .u64 t.s0,.int .u64 t.s1,.int .u64 t.s2,.int .u64 t.s3,.int .i64 t.mn,.int .i64 t.mx,t.sl]
def T.v(t:T):Value:=.agg #[.int .u8 t.k,.int .u64 t.s0,.int .u64 t.s1,.int .u64 t.s2,.int .u64 t.s3,.int .i64 t.mn,.int .i64 t.mx,.slice t.a t.subs.length t.c]
structure OkN (k s0 s1 s2 s3 mn mx:Int):Prop where
 k:0<=k/\k < 256
 s0:0<=s0/\s0 < 18446744073709551616
 s1:0<=s1/\s1 < 18446744073709551616
 s2:0<=s2/\s2 < 18446744073709551616
 s3:0<=s3/\s3 < 18446744073709551616
 mn : -9223372036854775808<=mn/\mn<=9223372036854775807
 mx : -9223372036854775808<=mx/\mx<=9223372036854775807
mutual
def Rep(m:Mem):T->Prop
 | .node k s0 s1 s2 s3 mn mx a _ l=>l.length<=1000000000000000/\(l=[]\/∃b o,a=some ⟨b,o,none⟩/\RepAt m b o l)/\OkN k s0 s1 s2 s3 mn mx
def RepAt(m:Mem)(b:Nat):Nat->List T->Prop
 | _,[]=>True
 | o,t::l=>m.reads b o t.cs/\Rep m t/\RepAt m b (o+8) l
end
theorem ZdB{m:Mem}{t:T}:Rep m t->(t.subs.length<=1000000000000000/\(t.subs=[]\/∃b o,t.a=some ⟨b,o,none⟩/\RepAt m b o t.subs)):=by
 cases t;simp only[Rep,T.subs,T.a];exact λh=>⟨h.1,h.2.1⟩
theorem ZvH{m:Mem}{t:T}:Rep m t->OkN t.k t.s0 t.s1 t.s2 t.s3 t.mn t.mx:=by
 cases t;simp only[Rep];exact λh=>h.2.2
theorem Zzi{m:Mem}{t:T}(h1:t.subs.length<=1000000000000000)(h2:t.subs=[]\/∃b o,t.a=some ⟨b,o,none⟩/\RepAt m b o t.subs)(h3:OkN t.k t.s0 t.s1 t.s2 t.s3 t.mn t.mx):Rep m t:=by
 cases t;simp only[Rep];exact⟨h1,h2,h3⟩
mutual
theorem Rep.mono{m m':Mem}(h:m.le m'):∀t:T,Rep m t->Rep m' t
 | .node _ _ _ _ _ _ _ a _ l,hr=>by
  simp only[Rep]at *
  refine⟨hr.1,?_,hr.2.2⟩
  rcases hr.2.1 with hr|⟨b,o,h1,h2⟩
  ·exact .inl hr
  ·exact .inr ⟨b,o,h1,RepAt.mono h b o l h2⟩
theorem RepAt.mono{m m':Mem}(h:m.le m')(b:Nat):∀(o:Nat)(l:List T),RepAt m b o l->RepAt m' b o l
 | _,[],_=>by simp only[RepAt]
 | o,t::l,hr=>by
  simp only[RepAt]at *
  exact⟨hr.1.mono h,Rep.mono h t hr.2.1,RepAt.mono h b (o+8) l hr.2.2⟩
end
theorem RepAt.get{m:Mem}{b:Nat}:∀{o:Nat} {l:List T} {i:Nat} {t:T},RepAt m b o l->l[i]?=some t->m.reads b (o+i*8) t.cs/\Rep m t
 | o,[],i,t,_,hi=>by simp at hi
 | o,x::l,0,t,h,hi=>by
  simp only[RepAt]at h
  simp at hi;subst hi
  exact⟨by simpa using h.1,h.2.1⟩
 | o,x::l,i+1,t,h,hi=>by
  simp only[RepAt]at h
  have:=h.2.2.get (i:=i) (by simpa using hi)
  rw[show o+(i+1)*8=o+8+i*8 by omega]
  exact this
mutual
def T.nodes:T->List T
 | .node k s0 s1 s2 s3 mn mx a c l=>.node k s0 s1 s2 s3 mn mx a c l::Zal l
def Zal:List T->List T
 | []=>[]
 | t::l=>t.nodes++Zal l
end
theorem Zbh(t:T):t.nodes=t::Zal t.subs:=by cases t;simp only[T.nodes,T.subs]
theorem ZcQ(l r:List T):Zal (l++r)=Zal l++Zal r:=by
 induction l with
 | nil=>simp[Zal]
 | cons t l ih=>simp[Zal,ih,List.append_assoc]
theorem Zhu{l:List T}{i:Nat}{t:T}(h:l[i]?=some t):Zal (l.take (i+1))=Zal (l.take i)++t.nodes:=by
 have:l.take (i+1)=l.take i++[t]:=by
  rw[List.take_add_one,h];rfl
 rw[this,ZcQ];simp[Zal]
theorem Zep{l:List T}{i:Nat}{t:T}(h:l[i]?=some t):Zal l=Zal (l.take i)++(t.nodes++Zal (l.drop (i+1))):=by
 have bF:=(List.getElem?_eq_some_iff.1 h).1
 have e:l=l.take i++(t::l.drop (i+1)):=by
  have:=List.drop_eq_getElem_cons bF
  rw[(List.getElem?_eq_some_iff.1 h).2]at this
  rw[<-this,List.take_append_drop]
 conv=>lhs;rw[e,ZcQ]
 simp[Zal]
theorem ZvI{t x z:T}{i q:Nat}(hx:t.subs[i]?=some x)(hz:x.nodes[q]?=some z):t.nodes[1+(Zal (t.subs.take i)).length+q]?=some z:=by
 have hq:=(List.getElem?_eq_some_iff.1 hz).1
 rw[Zbh,show 1+(Zal (t.subs.take i)).length+q=((Zal (t.subs.take i)).length+q)+1 by omega,List.getElem?_cons_succ,Zep hx,List.getElem?_append_right (by omega),List.getElem?_append_left (by omega),show(Zal (List.take i t.subs)).length+q - (Zal (List.take i t.subs)).length=q by omega]
 exact hz
theorem Zm8{t x:T}(h:x∈t.subs):SizeOf.sizeOf x < SizeOf.sizeOf t:=by
 cases t with
 | node k s0 s1 s2 s3 mn mx a c l=>
  have h':x∈l:=h
  have:=List.sizeOf_lt_of_mem h'
  simp only[T.node.sizeOf_spec]
  omega
theorem ZqM(t:T):Shape.fitsL [.agg [.int .u8,.int .u64,.int .u64,.int .u64,.int .u64,.int .i64,.int .i64,.slice]] [t.v]=true:=by
 simp[Shape.fitsL,Shape.fits,T.v]
mutual
theorem ZrF{m:Mem}:∀(t:T),Rep m t->∀x∈t.nodes,Rep m x
 | .node k s0 s1 s2 s3 mn mx a c l,hr,x,hx=>by
  simp only[T.nodes,List.mem_cons]at hx
  rcases hx with rfl|hx
  ·exact hr
  ·simp only[Rep]at hr
   rcases hr.2.1 with h|⟨b,o,_,h⟩
   ·subst h;simp[Zal]at hx
   ·exact ZoP b o l h x hx
theorem ZoP{m:Mem}(b:Nat):∀(o:Nat)(l:List T),RepAt m b o l->∀x∈Zal l,Rep m x
 | _,[],_,x,hx=>by simp[Zal]at hx
 | o,t::l,hr,x,hx=>by
  simp only[RepAt]at hr
  simp only[Zal,List.mem_append]at hx
  rcases hx with hx|hx
  ·exact ZrF t hr.2.1 x hx
  ·exact ZoP b (o+8) l hr.2.2 x hx
end
theorem Ztx{m:Mem}{t x:T}(h:Rep m t)(hx:x∈t.nodes):Rep m x:=ZrF t h x hx
def Zif(least most:Int):Bool:=!(decide (least < 0)||decide (least > 16)||(least == 1&&most == 1))&&(most == -1||(decide (most ≥ 1)&&decide (most<=16)&&decide (most ≥ least)))
def T.has(t:T)(k:Int):Bool:=t.subs.any λx=>x.k == k
def T.light(t:T):Bool:=decide (t.nodes.length<=10000)
def T.setZ(t:T):Bool:=t.s0 == 0&&t.s1 == 0&&t.s2 == 0&&t.s3 == 0
def T.right(t:T):Bool:=
 !(t.k != 2&&!t.setZ||(t.k != 5&&(t.mn != 0||t.mx != 0)||(decide (t.k < 3)&&decide (0 < t.subs.length)))) &&
 (if t.k=1 then true else if t.k=2 then !t.setZ else if t.k=3 then decide (1 < t.subs.length)&&(!t.has 1&&!t.has 3)else if t.k=4 then decide (1 < t.subs.length)&&!t.has 4
  else if t.k=5 then t.subs.length == 1&&(Zif t.mn t.mx&&!t.has 1)else t.k == 6&&t.subs.length == 1)
def T.clean(t:T):Bool:=t.light&&t.nodes.all T.right
def T.size(t:T):Int:=if t.light then t.nodes.length else 10001
def T.groups(t:T):Int:=if t.light then(t.nodes.countP λx=>x.k == 6:Nat)else 10001
def Zp2(x y:Int):Int:=if y > x then y else x
def ZqN(x y:Int):Int:=if y < x then y else x
def ZuF(k mn mx sum:Int):Int:=ZqN (if k=5 then sum*ZqN (if mx=-1 then Zp2 (Zp2 mn 0) 1 else Zp2 (Zp2 mn 0) mx) 10001 else sum) 10001
mutual
def T.pos:T->Int
 | .node k _ _ _ _ mn mx _ _ l=>ZuF k mn mx ((if k=2 then 1 else 0)+ZeK l)
def ZeK:List T->Int
 | []=>0
 | t::l=>t.pos+ZeK l
end
def T.positions(t:T):Int:=if t.light then t.pos else 10001
def T.check(t:T):Int:=if t.clean=false then 80 else if t.size > 120 then 81 else if t.positions > 400 then 82 else if t.groups > 9 then 83 else 0
mutual
def T.same:T->T->Bool
 | .node k s0 s1 s2 s3 mn mx _ _ l,.node k' s0' s1' s2' s3' mn' mx' _ _ l'=>k == k'&&((s0 == s0'&&s1 == s1'&&s2 == s2'&&s3 == s3')&&(mn == mn'&&(mx == mx'&&ZhT l l')))
def ZhT:List T->List T->Bool
 | [],[]=>true
 | t::l,t'::l'=>t.same t'&&ZhT l l'
 | _,_=>false
end
theorem Zxs(t u:T):t.same u=(t.k == u.k&&((t.s0 == u.s0&&t.s1 == u.s1&&t.s2 == u.s2&&t.s3 == u.s3)&&(t.mn == u.mn&&(t.mx == u.mx&&ZhT t.subs u.subs)))):=by
 cases t;cases u;simp only[T.same,T.k,T.s0,T.s1,T.s2,T.s3,T.mn,T.mx,T.subs]
theorem ZoQ:∀{l r:List T},¬l.length=r.length->ZhT l r=false
 | [],[],h=>by simp at h
 | [],_::_,_=>by simp[ZhT]
 | _::_,[],_=>by simp[ZhT]
 | x::l,y::r,h=>by
  simp only[ZhT,ZoQ (l:=l) (r:=r) (by simpa using h),Bool.and_false]
theorem ZrG:∀{l r:List T} {i:Nat} {x y:T},l[i]?=some x->r[i]?=some y->x.same y=false->ZhT l r=false
 | [],r,i,x,y,h,_,_=>by simp at h
 | _::_,[],i,x,y,_,h,_=>by simp at h
 | a::l,b::r,0,x,y,h,k,e=>by
  simp at h k;subst h k
  simp[ZhT,e]
 | a::l,b::r,i+1,x,y,h,k,e=>by
  simp only[ZhT,ZrG (l:=l) (r:=r) (i:=i) (by simpa using h) (by simpa using k) e,Bool.and_false]
theorem Zmk:∀{l r:List T} {i:Nat} {x y:T},l[i]?=some x->r[i]?=some y->ZhT (l.take i) (r.take i)=true->x.same y=true->True->ZhT (l.take (i+1)) (r.take (i+1))=true
 | [],r,i,x,y,h,_,_,_,_=>by simp at h
 | _::_,[],i,x,y,_,h,_,_,_=>by simp at h
 | a::l,b::r,0,x,y,h,k,_,e,_=>by
  simp at h k;subst h k
  simp[ZhT,e]
 | a::l,b::r,i+1,x,y,h,k,hs,e,_=>by
  simp only[List.take_succ_cons,ZhT,Bool.and_eq_true]at hs ⊢
  exact⟨hs.1,Zmk (by simpa using h) (by simpa using k) hs.2 e trivial⟩
theorem ZoR(t:T):t.pos=ZuF t.k t.mn t.mx ((if t.k=2 then 1 else 0)+ZeK t.subs):=by
 cases t;simp only[T.pos,T.k,T.mn,T.mx,T.subs];congr 1
theorem Zbj(l r:List T):ZeK (l++r)=ZeK l+ZeK r:=by
 induction l with
 | nil=>simp[ZeK]
 | cons t l ih=>simp[ZeK,ih,Int.add_assoc]
theorem Zty{l:List T}{i:Nat}{t:T}(h:l[i]?=some t):ZeK (l.take (i+1))=ZeK (l.take i)+t.pos:=by
 have:l.take (i+1)=l.take i++[t]:=by
  rw[List.take_add_one,h];rfl
 rw[this,Zbj];simp[ZeK]
theorem ZrH(x y:Int):x<=Zp2 x y/\y<=Zp2 x y:=by unfold Zp2;split <;> omega
theorem Zml(x y:Int):ZqN x y<=x/\ZqN x y<=y:=by unfold ZqN;split <;> omega
theorem ZuG{x y:Int}(h:0<=x)(k:0<=y):0<=ZqN x y:=by unfold ZqN;split <;> omega
def ZvJ(mn mx:Int):Int:=ZqN (if mx=-1 then Zp2 (Zp2 mn 0) 1 else Zp2 (Zp2 mn 0) mx) 10001
theorem ZuH(mn mx:Int):0<=ZvJ mn mx/\ZvJ mn mx<=10001:=by
 unfold ZvJ
 refine⟨ZuG ?_ (by omega),(Zml _ _).2⟩
 have h1:=ZrH mn 0
 split
 ·have:=ZrH (Zp2 mn 0) 1;omega
 ·have:=ZrH (Zp2 mn 0) mx;omega
theorem Zxt{k mn mx sum:Int}(h:0<=sum):0<=ZuF k mn mx sum/\ZuF k mn mx sum<=10001:=by
 have h2:=Int.mul_nonneg h (ZuH mn mx).1
 unfold ZuF
 refine⟨ZuG ?_ (by omega),(Zml _ _).2⟩
 split
 ·exact h2
 ·exact h
mutual
theorem Zig:∀t:T,0<=t.pos/\t.pos<=10001
 | .node k _ _ _ _ mn mx _ _ l=>by
  simp only[T.pos]
  have:=Zhv l
  exact Zxt (by split <;> omega)
theorem Zhv:∀l:List T,0<=ZeK l
 | []=>by simp[ZeK]
 | t::l=>by
  simp only[ZeK]
  have:=Zig t
  have:=Zhv l
  omega
end
theorem ZuI:∀l:List T,ZeK l<=10001*l.length
 | []=>by simp[ZeK]
 | t::l=>by
  simp only[ZeK,List.length_cons]
  have:=Zig t
  have:=ZuI l
  omega
theorem ZuJ(t:T):t.subs.length < t.nodes.length:=by
 rw[Zbh,List.length_cons]
 have:∀l:List T,l.length<=(Zal l).length:=by
  intro l
  induction l with
  | nil=>simp[Zal]
  | cons x l ih=>simp only[Zal,List.length_cons,List.length_append];rw[Zbh];simp;omega
 have:=this t.subs
 omega
theorem Ztz{t x:T}(h:x∈t.subs):x.nodes.length < t.nodes.length:=by
 obtain⟨i,hi⟩:=List.getElem?_of_mem h
 rw[Zbh t,List.length_cons,Zep hi]
 simp;omega
def T.hasB(t:T)(c:Nat):Bool:=((if c / 64=0 then t.s0 else if c / 64=1 then t.s1 else if c / 64=2 then t.s2 else t.s3).toNat).testBit (c % 64)
end Go.Rx
namespace Go.Rx
open Go Go.Eng Go.RowKit
def wdN(f j:Nat):Nat:=(f >>> (64*j)) % 2 ^ 64
theorem ZvK(f j:Nat):wdN f j < 18446744073709551616:=by
 unfold wdN
 exact Nat.mod_lt _ (by decide)
theorem ZoS(f j k:Nat):(wdN f j).testBit k=(decide (k < 64)&&f.testBit (64*j+k)):=by
 unfold wdN
 rw[Nat.testBit_mod_two_pow,Nat.testBit_shiftRight]
theorem Zzj(f g j:Nat):wdN (f|||g) j=wdN f j|||wdN g j:=by
 apply Nat.eq_of_testBit_eq
 intro k
 simp only[ZoS,Nat.testBit_or]
 cases decide (k < 64) <;> simp
theorem Zxu{q r j:Nat}(hr:r < 64):wdN (2 ^ (64*q+r)) j=if j=q then 2 ^ r else 0:=by
 apply Nat.eq_of_testBit_eq
 intro k
 rw[ZoS,Nat.testBit_two_pow]
 by_cases hj:j=q
 ·subst hj
  rw[if_pos rfl,Nat.testBit_two_pow]
  by_cases hk:k < 64
  ·simp[hk]
  ·have:¬r=k:=by omega
   simp[hk,this]
 ·rw[if_neg hj]
  simp only[Nat.zero_testBit,Bool.and_eq_false_iff,decide_eq_false_iff_not]
  omega
theorem ZwM(n:Nat)(h:n < 18446744073709551616):IntKind.u64.wrap (n:Int)=n:=by
 unfold IntKind.wrap
 have e:(2:Int) ^ 64=18446744073709551616:=by decide
 simp only[IntKind.bits,IntKind.signed,Bool.false_and,Bool.false_eq_true,if_false,e]
 omega
theorem ZBb(a:Nat)(h:a < 18446744073709551616):(BitVec.ofInt 64 (a:Int)).toNat=a:=by
 rw[BitVec.toNat_ofInt]
 have e:((2:Nat) ^ 64:Nat)=18446744073709551616:=by decide
 rw[e];omega
theorem ZrI(a b:Nat)(ha:a < 18446744073709551616)(hb:b < 18446744073709551616):IntKind.u64.wrap ((BitVec.ofInt 64 (a:Int)|||BitVec.ofInt 64 (b:Int)).toNat:Int)=((a|||b:Nat):Int):=by
 rw[BitVec.toNat_or,ZBb a ha,ZBb b hb]
 exact ZwM _ (Nat.or_lt_two_pow (n:=64) ha hb)
theorem ZrJ(a r:Nat)(ha:a < 18446744073709551616):(IntKind.u64.wrap ((BitVec.ofInt 64 (Int.fdiv (a:Int) (2 ^ r))&&&BitVec.ofInt 64 1).toNat:Int) == 1)=a.testBit r:=by
 have e:Int.fdiv (a:Int) (2 ^ r)=((a >>> r:Nat):Int):=by
  rw[Nat.shiftRight_eq_div_pow,Int.fdiv_eq_ediv_of_nonneg _ (Int.pow_nonneg (by omega))]
  push_cast
  rfl
 have bF:a >>> r < 18446744073709551616:=Nat.lt_of_le_of_lt (Nat.shiftRight_le a r) ha
 rw[e,BitVec.toNat_and,ZBb _ bF]
 have h1:(BitVec.ofInt 64 1).toNat=1:=by decide
 rw[h1,ZwM _ (Nat.lt_of_le_of_lt Nat.and_le_left bF),Nat.and_one_is_mod]
 have e2:a.testBit r=decide (a >>> r % 2=1):=by
  rw[Nat.shiftRight_eq_div_pow];exact Nat.testBit_eq_decide_div_mod_eq
 rw[e2,Bool.eq_iff_iff]
 simp only[beq_iff_eq,decide_eq_true_eq]
 omega
def plL(f:Nat):List Value:=[.int .u64 (wdN f 0:Nat),.int .u64 (wdN f 1:Nat),.int .u64 (wdN f 2:Nat),.int .u64 (wdN f 3:Nat),.int .u64 (wdN f 4:Nat),.int .u64 (wdN f 5:Nat),.int .u64 (wdN f 6:Nat),.int .u64 (wdN f 7:Nat),.int .u64 (wdN f 8:Nat)]
def plV(f:Nat):Value:=.agg #[.int .u64 (wdN f 0:Nat),.int .u64 (wdN f 1:Nat),.int .u64 (wdN f 2:Nat),.int .u64 (wdN f 3:Nat),.int .u64 (wdN f 4:Nat),.int .u64 (wdN f 5:Nat),.int .u64 (wdN f 6:Nat),.int .u64 (wdN f 7:Nat),.int .u64 (wdN f 8:Nat)]
theorem ZuK{f j:Nat}(h:j < 9):(plL f)[j]?=some (.int .u64 (wdN f j:Nat)):=by
 have:j=0\/j=1\/j=2\/j=3\/j=4\/j=5\/j=6\/j=7\/j=8:=by omega
 rcases this with rfl|rfl|rfl|rfl|rfl|rfl|rfl|rfl|rfl <;> rfl
theorem ZAq{q r:Nat}(hq:q < 9)(hr:r < 64):ZaH (List.replicate 9 (Value.int .u64 0)) q [.int .u64 ((2 ^ r:Nat):Int)]=plL (2 ^ (64*q+r)):=by
 unfold plL
 simp only[Zxu hr]
 have:q=0\/q=1\/q=2\/q=3\/q=4\/q=5\/q=6\/q=7\/q=8:=by omega
 rcases this with rfl|rfl|rfl|rfl|rfl|rfl|rfl|rfl|rfl <;> rfl
def orL(f g k:Nat):List Value:=(List.range 9).map λj=>.int .u64 ((if j < k then wdN (f|||g) j else wdN f j:Nat):Int)
theorem Zxv{f g k j:Nat}(h:j < 9):(orL f g k)[j]?=some (.int .u64 ((if j < k then wdN (f|||g) j else wdN f j:Nat):Int)):=by
 simp[orL,h]
theorem ZvL{f g k:Nat}(h:k < 9):ZaH (orL f g k) k [.int .u64 ((wdN f k|||wdN g k:Nat):Int)]=orL f g (k+1):=by
 rw[<-Zzj]
 have:k=0\/k=1\/k=2\/k=3\/k=4\/k=5\/k=6\/k=7\/k=8:=by omega
 rcases this with rfl|rfl|rfl|rfl|rfl|rfl|rfl|rfl|rfl <;> rfl
def Byt(m:Mem)(a:Option Addr)(s:List Nat):Prop:=(s=[]\/∃b o,a=some ⟨b,o,none⟩/\m.reads b o (s.map λc:Nat=>Value.int .u8 c))/\∀c∈s,c < 256
theorem Byt.mono{m m':Mem}{a s}(h:Byt m a s)(hm:m.le m'):Byt m' a s:=by
 refine⟨?_,h.2⟩
 rcases h.1 with h|⟨b,o,h1,h2⟩
 ·exact .inl h
 ·exact .inr ⟨b,o,h1,h2.mono hm⟩
theorem Byt.get{m:Mem}{a s}(h:Byt m a s){i c:Nat}(hi:s[i]?=some c):(∃b o,a=some ⟨b,o,none⟩/\m b (o+i)=some (.int .u8 c))/\c < 256:=by
 refine⟨?_,h.2 c (List.mem_of_getElem? hi)⟩
 rcases h.1 with h|⟨b,o,h1,h2⟩
 ·subst h;simp at hi
 ·exact⟨b,o,h1,h2 i _ (by rw[List.getElem?_map,hi];rfl)⟩
def ZoT(t:T)(back:Bool)(f i c out:Nat):Nat:=if(f.testBit (if back then i+1 else i)&&t.hasB c)=true then out|||2 ^ (if back then i else i+1)else out
def ZsM(t:T)(back:Bool)(f:Nat):List Nat->Nat->Nat->Nat
 | [],_,out=>out
 | c::s,i,out=>ZsM t back f s (i+1) (ZoT t back f i c out)
def ZwN(g:Nat->Nat):Nat->Nat->Nat
 | 0,f=>f
 | n+1,f=>ZwN g n (g f)
def Zp9(g:Nat->Nat)(mx:Int):Nat->Int->Nat->Nat->Nat
 | 0,_,out,_=>out
 | n+1,k,out,last=>if k=mx then out else if out|||g last=out then out else Zp9 g mx n (IntKind.i64.wrap (k+1)) (out|||g last) (g last)
@[irreducible] def ZBc:Nat:=576
theorem ZoU:ZBc=576:=by unfold ZBc;rfl
abbrev ZcC:Nat:=2 ^ ZBc
theorem ZwO{n:Nat}(h:n < 576):2 ^ n < ZcC:=Nat.pow_lt_pow_right (by omega) (by rw[ZoU];exact h)
def Zxw(g:Nat->Nat)(mn mx:Int)(f:Nat):Nat:=Zp9 g mx (ZcC+1) mn (ZwN g mn.toNat f) (ZwN g mn.toNat f)
mutual
def T.lead(s:List Nat)(back:Bool):T->Nat->Nat
 | .node k s0 s1 s2 s3 mn mx a c l=>λf=>
  if k=1 then f else if k=2 then ZsM (.node k s0 s1 s2 s3 mn mx a c l) back f s 0 0
  else if k=3 then(if back then Zgs s back l f else ZgU s back l f)
  else if k=4 then ZqO s back l f 0
  else if k=5 then Zxw (Zf1 s back l) mn mx f
  else if k=6 then Zf1 s back l f else 0
def ZgU(s:List Nat)(back:Bool):List T->Nat->Nat
 | []=>λf=>f
 | t::l=>λf=>ZgU s back l (t.lead s back f)
def Zgs(s:List Nat)(back:Bool):List T->Nat->Nat
 | []=>λf=>f
 | t::l=>λf=>t.lead s back (Zgs s back l f)
def ZqO(s:List Nat)(back:Bool):List T->Nat->Nat->Nat
 | []=>λ_ out=>out
 | t::l=>λf out=>ZqO s back l f (out|||t.lead s back f)
def Zf1(s:List Nat)(back:Bool):List T->Nat->Nat
 | []=>λf=>f
 | t::_=>λf=>t.lead s back f
end
section
variable {s:List Nat} {back:Bool}
theorem Zzk{t:T}(h:t.k=0)(f:Nat):t.lead s back f=0:=by cases t;simp only[T.k]at h;subst h;simp[T.lead]
theorem Zxx{t:T}(h:t.k=1)(f:Nat):t.lead s back f=f:=by cases t;simp only[T.k]at h;subst h;simp[T.lead]
theorem Zxy{t:T}(h:t.k=2)(f:Nat):t.lead s back f=ZsM t back f s 0 0:=by cases t;simp only[T.k]at h;subst h;simp[T.lead]
theorem ZvM{t:T}(h:t.k=3)(f:Nat):t.lead s back f=if back then Zgs s back t.subs f else ZgU s back t.subs f:=by cases t;simp only[T.k]at h;subst h;simp[T.lead,T.subs]
theorem Zxz{t:T}(h:t.k=4)(f:Nat):t.lead s back f=ZqO s back t.subs f 0:=by cases t;simp only[T.k]at h;subst h;simp[T.lead,T.subs]
theorem ZxA{t:T}(h:t.k=5)(f:Nat):t.lead s back f=Zxw (Zf1 s back t.subs) t.mn t.mx f:=by cases t;simp only[T.k]at h;subst h;simp[T.lead,T.subs,T.mn,T.mx]
theorem ZxB{t:T}(h:t.k=6)(f:Nat):t.lead s back f=Zf1 s back t.subs f:=by cases t;simp only[T.k]at h;subst h;simp[T.lead,T.subs]
theorem Zmm{g:Nat->Nat}{mx:Int}{n:Nat}{k:Int}{out last:Nat}:Zp9 g mx (n+1) k out last=(if k=mx then out else if out|||g last=out then out else Zp9 g mx n (IntKind.i64.wrap (k+1)) (out|||g last) (g last)):=rfl
theorem ZqP(t:T)(l:List T)(f:Nat):ZgU s back (t::l) f=ZgU s back l (t.lead s back f):=by rw[ZgU]
theorem ZoV(t:T)(l:List T)(f out:Nat):ZqO s back (t::l) f out=ZqO s back l f (out|||t.lead s back f):=by rw[ZqO]
theorem ZrK(f out:Nat):ZqO s back [] f out=out:=by rw[ZqO]
theorem ZqQ(l:List T)(x:T)(f:Nat):Zgs s back (l++[x]) f=Zgs s back l (x.lead s back f):=by
 induction l with
 | nil=>simp[Zgs]
 | cons t l ih=>simp[Zgs,ih]
end
theorem Zih{α:Type}{l:List α}{i:Nat}{x:α}(h:l[i]?=some x):l.drop i=x::l.drop (i+1):=by
 obtain⟨h1,h2⟩:=List.getElem?_eq_some_iff.1 h
 rw[List.drop_eq_getElem_cons h1,h2]
theorem ZbZ{α:Type}{l:List α}{i:Nat}{x:α}(h:l[i]?=some x):l.take (i+1)=l.take i++[x]:=by
 rw[List.take_add_one,h];rfl
theorem ZvN{t:T}{back:Bool}{f i c out:Nat}(hi:i < 575)(h:out < ZcC):ZoT t back f i c out < ZcC:=by
 have hj:(if back then i else i+1) < 576:=by cases back <;> simp <;> omega
 have hp:2 ^ (if back then i else i+1) < ZcC:=ZwO hj
 have ho:=Nat.or_lt_two_pow h hp
 unfold ZoT
 by_cases hc:(f.testBit (if back then i+1 else i)&&t.hasB c)=true
 ·rw[if_pos hc];exact ho
 ·rw[if_neg hc];exact h
theorem ZuL{t:T}{back:Bool}{f:Nat}:∀(s:List Nat)(i out:Nat),i+s.length < 575->out < ZcC->ZsM t back f s i out < ZcC
 | [],_,_,_,h=>h
 | c::s,i,out,hi,h=>ZuL s (i+1) _ (by simp at hi;omega) (ZvN (by simp at hi;omega) h)
theorem ZoW{g:Nat->Nat}(hg:∀f,f < ZcC->g f < ZcC):∀(n f:Nat),f < ZcC->ZwN g n f < ZcC
 | 0,_,h=>h
 | n+1,f,h=>ZoW hg n _ (hg _ h)
theorem ZrL{g:Nat->Nat}{mx:Int}(hg:∀f,f < ZcC->g f < ZcC):∀(n:Nat)(k:Int)(out last:Nat),out < ZcC->last < ZcC->Zp9 g mx n k out last < ZcC
 | 0,_,_,_,h,_=>h
 | n+1,k,out,last,h,h'=>by
  unfold Zp9
  split
  ·exact h
  ·split
   ·exact h
   ·exact ZrL hg n _ _ _ (Nat.or_lt_two_pow h (hg _ h')) (hg _ h')
section
variable (s:List Nat) (back:Bool) (hs:s.length<=512)
include hs
mutual
theorem ZfF:∀(t:T)(f:Nat),f < ZcC->t.lead s back f < ZcC
 | .node k s0 s1 s2 s3 mn mx a c l,f,h=>by
  unfold T.lead
  split
  ·exact h
  split
  ·exact ZuL s 0 0 (by omega) (Nat.two_pow_pos _)
  split
  ·split
   ·exact ZnR l f h
   ·exact ZrM l f h
  split
  ·exact ZuM l f 0 h (Nat.two_pow_pos _)
  split
  ·exact ZrL (λf h=>Zk1 l f h) _ _ _ _ (ZoW (λf h=>Zk1 l f h) _ _ h) (ZoW (λf h=>Zk1 l f h) _ _ h)
  split
  ·exact Zk1 l f h
  ·exact Nat.two_pow_pos _
theorem ZrM:∀(l:List T)(f:Nat),f < ZcC->ZgU s back l f < ZcC
 | [],f,h=>by unfold ZgU;exact h
 | t::l,f,h=>by unfold ZgU;exact ZrM l _ (ZfF t f h)
theorem ZnR:∀(l:List T)(f:Nat),f < ZcC->Zgs s back l f < ZcC
 | [],f,h=>by unfold Zgs;exact h
 | t::l,f,h=>by unfold Zgs;exact ZfF t _ (ZnR l f h)
theorem ZuM:∀(l:List T)(f out:Nat),f < ZcC->out < ZcC->ZqO s back l f out < ZcC
 | [],f,out,h,h'=>by unfold ZqO;exact h'
 | t::l,f,out,h,h'=>by unfold ZqO;exact ZuM l f _ h (Nat.or_lt_two_pow h' (ZfF t f h))
theorem Zk1:∀(l:List T)(f:Nat),f < ZcC->Zf1 s back l f < ZcC
 | [],f,h=>by unfold Zf1;exact h
 | t::l,f,h=>by unfold Zf1;exact ZfF t f h
end
end
theorem Zzl{f g:Nat}(hf:f < ZcC)(hg:g < ZcC)(h:∀j,j < 9->wdN f j=wdN g j):f=g:=by
 apply Nat.eq_of_testBit_eq
 intro i
 by_cases hi:i < 576
 ·have e:=congrArg (λw=>Nat.testBit w (i % 64)) (h (i / 64) (by omega))
  simp only[ZoS,show 64*(i / 64)+i % 64=i by omega,show i % 64 < 64 by omega,decide_true,Bool.true_and]at e
  exact e
 ·rw[Nat.testBit_lt_two_pow (Nat.lt_of_lt_of_le hf (Nat.pow_le_pow_right (by omega) (by rw[ZoU];omega))),Nat.testBit_lt_two_pow (Nat.lt_of_lt_of_le hg (Nat.pow_le_pow_right (by omega) (by rw[ZoU];omega)))]
abbrev PLK:=Int->Int->Int->Int->Int->Int->Int->Int->Int->Mem->Prop
theorem ZnS{X:Nat}{m:Mem}{K:PLK}(k:∀m',m.le m'->K (wdN X 0:Nat) (wdN X 1:Nat) (wdN X 2:Nat) (wdN X 3:Nat) (wdN X 4:Nat) (wdN X 5:Nat) (wdN X 6:Nat) (wdN X 7:Nat) (wdN X 8:Nat) m'):
  ∀(n0 n1 n2 n3 n4 n5 n6 n7 n8:Int)(m':Mem),m.le m'->Ret (plV X) (.agg #[.int .u64 n0,.int .u64 n1,.int .u64 n2,.int .u64 n3,.int .u64 n4,.int .u64 n5,.int .u64 n6,.int .u64 n7,.int .u64 n8]) m' []->K n0 n1 n2 n3 n4 n5 n6 n7 n8 m':=by
 intro n0 n1 n2 n3 n4 n5 n6 n7 n8 m' hm h
 simp only[Ret,plV,Value.agg.injEq,Array.mk.injEq,List.cons.injEq,Value.int.injEq,true_and,and_true]at h
 obtain⟨rfl,rfl,rfl,rfl,rfl,rfl,rfl,rfl,rfl⟩:=h
 exact k m' hm
theorem Zbs{X:Nat}:∀(v:Value)(m':Mem) (css:List (List Value)),Ret (plV X) v m' css->Shape.fits (.agg [.int .u64,.int .u64,.int .u64,.int .u64,.int .u64,.int .u64,.int .u64,.int .u64,.int .u64]) v=true:=λv _ _ e=>by rw[e];rfl
def T.walks(t:T):Prop:=t.k=0\/∀x∈t.nodes,x.right=true
theorem ZtA{t x:T}(h:t.walks)(h0:t.k≠0)(hx:x∈t.subs):x.walks:=by
 rcases h with h|h
 ·exact absurd h h0
 ·refine .inr λy hy=>h y ?_
  obtain⟨i,hi⟩:=List.getElem?_of_mem hx
  rw[Zbh,Zep hi]
  simp[hy]
def T0:T:=.node 0 0 0 0 0 0 0 none 0 []
def T1:T:=.node 1 0 0 0 0 0 0 none 0 []
theorem ZvO(m:Mem):Rep m T0:=by simp only[T0,Rep];exact⟨by simp,.inl trivial,by constructor <;> decide⟩
theorem ZtB(m:Mem):Rep m T1:=by simp only[T1,Rep];exact⟨by simp,.inl trivial,by constructor <;> decide⟩
def T.isNone(t:T):Bool:=t.k == 0&&(t.light&&(T0.light&&t.same T0))
def T.wrong(t:T)(len:Nat)(i:Int):Int:=if(!t.isNone&&!(t.check == 0))=true then 130 else if(len:Int) > 512 then 3 else if i < 0\/i > len then 2 else 0
theorem Zjs{t:T}(h:t.check=0):t.walks:=by
 unfold T.check at h
 split at h
 ·exact absurd h (by decide)
 ·rename_i hc
  have hc':t.clean=true:=by simpa using hc
  unfold T.clean at hc'
  rw[Bool.and_eq_true]at hc'
  exact .inr λx hx=>List.all_eq_true.1 hc'.2 x hx
theorem ZuN{t:T}{len:Nat}{i:Int}(h:t.wrong len i=0):t.walks/\len<=512/\0<=i/\i<=len:=by
 unfold T.wrong at h
 split at h
 ·exact absurd h (by decide)
 ·rename_i hc
  split at h
  ·exact absurd h (by decide)
  ·split at h
   ·exact absurd h (by decide)
   ·refine⟨?_,by omega,by omega,by omega⟩
    simp only[Bool.and_eq_true,Bool.not_eq_true',beq_eq_false_iff_ne,ne_eq,not_and,Decidable.not_not]at hc
    by_cases hn:t.isNone=true
    ·left
     unfold T.isNone at hn
     rw[Bool.and_eq_true]at hn
     simpa using hn.1
    ·exact Zjs (hc (by simpa using hn))
structure Rg where
 bg:Bool
 en:Bool
 t:T
def Rg.v(r:Rg):Value:=.agg #[.bool r.bg,.bool r.en,.int .u8 r.t.k,.int .u64 r.t.s0,.int .u64 r.t.s1,.int .u64 r.t.s2,.int .u64 r.t.s3,.int .i64 r.t.mn,.int .i64 r.t.mx,.slice r.t.a r.t.subs.length r.t.c]
def Rg.cs(r:Rg):List Value:=[.bool r.bg,.bool r.en,.int .u8 r.t.k,.int .u64 r.t.s0,.int .u64 r.t.s1,.int .u64 r.t.s2,.int .u64 r.t.s3,.int .i64 r.t.mn,.int .i64 r.t.mx,.slice r.t.a r.t.subs.length r.t.c]
def Rgs(m:Mem)(a:Option Addr)(l:List Rg):Prop:=l.length<=1000000000000000/\(l=[]\/∃b o,a=some ⟨b,o,none⟩/\∀i r,l[i]?=some r->m.reads b (o+i*10) r.cs)/\∀r∈l,Rep m r.t
theorem Rgs.mono{m m':Mem}{a l}(h:Rgs m a l)(hm:m.le m'):Rgs m' a l:=by
 refine⟨h.1,?_,λr hr=>(h.2.2 r hr).mono hm⟩
 rcases h.2.1 with h|⟨b,o,h1,h2⟩
 ·exact .inl h
 ·exact .inr ⟨b,o,h1,λi r hi=>(h2 i r hi).mono hm⟩
def ZdK(f:Nat):List Nat:=(List.range 513).filter λi=>f.testBit i
theorem ZvP(f:Nat):(ZdK f).length<=513:=by
 have:=List.length_filter_le (λi=>f.testBit i) (List.range 513)
 simpa[ZdK]using this
def ZxC(n:Nat):List Nat->Option Nat
 | []=>none
 | i::_=>if i > n then none else some i
def Rg.from(s:List Nat)(n:Nat)(r:Rg):Option Nat:=if(r.en&&decide ((n:Int) < s.length))=true then none else if r.bg then(if(r.t.lead s true (2 ^ n)).testBit 0 then some 0 else none)else
 ZxC n (ZdK (r.t.lead s true (2 ^ n)))
def Rg.wrong(r:Rg)(len:Nat)(n:Int):Int:=if r.t.check=0 then r.t.wrong len n else 130
def Zzm(l:List Rg)(len:Nat)(n:Int):Int:=if(l.length:Int) > 64 then 5 else if l.all (λr=>r.t.check == 0)then T1.wrong len n else 130
def ZfG(φ:T->Prop):Value->Mem->List (List Value)->Prop:=λv m' _=>∃t:T,v=t.v/\Rep m' t/\φ t
abbrev TRK:=Int->Int->Int->Int->Int->Int->Int->Option Addr->Nat->Nat->Mem->Prop
theorem ZfH{φ:T->Prop}{m:Mem}{K:TRK}(k:∀(t:T)(m':Mem),m.le m'->Rep m' t->φ t->K t.k t.s0 t.s1 t.s2 t.s3 t.mn t.mx t.a t.subs.length t.c m'):
  ∀(n0 n1 n2 n3 n4 n5 n6:Int)(a:Option Addr)(n c:Nat)(m':Mem),m.le m'->ZfG φ (.agg #[.int .u8 n0,.int .u64 n1,.int .u64 n2,.int .u64 n3,.int .u64 n4,.int .i64 n5,.int .i64 n6,.slice a n c]) m' []->K n0 n1 n2 n3 n4 n5 n6 a n c m':=by
 rintro n0 n1 n2 n3 n4 n5 n6 a n c m' hm ⟨t,hv,hr,hp⟩
 simp only[T.v,Value.agg.injEq,Array.mk.injEq,List.cons.injEq,Value.int.injEq,Value.slice.injEq,true_and,and_true]at hv
 obtain⟨rfl,rfl,rfl,rfl,rfl,rfl,rfl,rfl,rfl,rfl⟩:=hv
 exact k t m' hm hr hp
theorem Zbw{φ:T->Prop}:∀(v:Value)(m':Mem) (css:List (List Value)),ZfG φ v m' css->Shape.fits (.agg [.int .u8,.int .u64,.int .u64,.int .u64,.int .u64,.int .i64,.int .i64,.slice]) v=true:=λv _ _ ⟨t,e,_⟩=>by rw[e];rfl
def Zmn(c j:Nat):Int:=if c / 64=j then((2 ^ (c % 64):Nat):Int)else 0
def Zd6(c:Nat):T:=.node 2 (Zmn c 0) (Zmn c 1) (Zmn c 2) (Zmn c 3) 0 0 none 0 []
theorem Zk2(c j:Nat):0<=Zmn c j/\Zmn c j < 18446744073709551616:=by
 unfold Zmn
 split
 ·have h:(2:Nat) ^ (c % 64) < 2 ^ 64:=Nat.pow_lt_pow_right (by omega) (by omega)
  have e:(2:Nat) ^ 64=18446744073709551616:=by decide
  rw[e]at h
  generalize (2:Nat) ^ (c % 64)=w at *
  exact⟨by omega,by omega⟩
 ·omega
theorem ZqR(c:Nat)(m:Mem):Rep m (Zd6 c):=by
 simp only[Zd6,Rep]
 exact⟨by simp,.inl trivial,⟨by omega,Zk2 c 0,Zk2 c 1,Zk2 c 2,Zk2 c 3,by omega,by omega⟩⟩
def RepL(m:Mem)(a:Option Addr)(l:List T):Prop:=l.length<=1000000000000000/\(l=[]\/∃b o,a=some ⟨b,o,none⟩/\RepAt m b o l)
theorem RepL.mono{m m':Mem}{a l}(h:RepL m a l)(hm:m.le m'):RepL m' a l:=by
 refine⟨h.1,?_⟩
 rcases h.2 with h|⟨b,o,h1,h2⟩
 ·exact .inl h
 ·exact .inr ⟨b,o,h1,h2.mono hm⟩
theorem Rep.subs{m:Mem}{t:T}(h:Rep m t):RepL m t.a t.subs:=ZdB h
def Zas(k mn mx:Int)(a:Option Addr)(c:Nat)(l:List T):T:=.node k 0 0 0 0 mn mx a c l
theorem Zbk{m:Mem}{k mn mx:Int}{a:Option Addr}{c:Nat}{l:List T}(h:RepL m a l)(hk:0<=k/\k < 256)(h1 : -9223372036854775808<=mn/\mn<=9223372036854775807)(h2 : -9223372036854775808<=mx/\mx<=9223372036854775807):Rep m (Zas k mn mx a c l):=by
 simp only[Zas,Rep]
 exact⟨h.1,h.2,⟨hk,by omega,by omega,by omega,by omega,h1,h2⟩⟩
theorem Zi9{m:Mem}{b:Nat}{t:T}(h:m.reads b 0 t.cs)(hr:Rep m t):RepL m (some ⟨b,0,none⟩) [t]:=⟨by simp,.inr ⟨b,0,rfl,by simp only[RepAt];exact⟨h,hr,trivial⟩⟩⟩
def Zcu(l:List T):List Value:=(l.map T.cs).flatten
theorem Zao(l:List T):(Zcu l).length=l.length*8:=by
 induction l with
 | nil=>rfl
 | cons t l ih=>simp[Zcu,T.cs]at ih ⊢;omega
theorem ZoX(l:List T)(t:T):Zcu (l++[t])=Zcu l++t.cs:=by simp[Zcu]
theorem ZaL(l r:List T):Zcu (l++r)=Zcu l++Zcu r:=by simp[Zcu]
theorem ZrN{m:Mem}{b:Nat}:∀{o:Nat} {l:List T},m.reads b o (Zcu l)->(∀t∈l,Rep m t)->RepAt m b o l
 | o,[],_,_=>by simp only[RepAt]
 | o,t::l,h,hr=>by
  simp only[RepAt]
  refine⟨λj v hj=>?_,hr t (by simp),ZrN (λj v hj=>?_) λx hx=>hr x (by simp[hx])⟩
  ·refine h j v ?_
   simp only[Zcu,List.map_cons,List.flatten_cons]
   rw[List.getElem?_append_left (List.getElem?_eq_some_iff.1 hj).1];exact hj
  ·have:=h (8+j) v (by
    simp only[Zcu,List.map_cons,List.flatten_cons]
    rw[List.getElem?_append_right (by simp[T.cs])]
    have e:8+j - t.cs.length=j:=by simp[T.cs]
    rw[e];exact hj)
   rw[show o+8+j=o+(8+j) by omega];exact this
theorem Zmo{m:Mem}{a:Option Addr}{l:List T}(h:rowRd m a (Zcu l))(hr:∀t∈l,Rep m t)(hl:l.length<=1000000000000000):RepL m a l:=by
 refine⟨hl,?_⟩
 cases l with
 | nil=>exact .inl rfl
 | cons t l=>
  rcases h with h|⟨b,o,h1,h2⟩
  ·simp[Zcu,T.cs]at h
  ·exact .inr ⟨b,o,h1,ZrN h2 hr⟩
theorem ZcH{m:Mem}{a:Option Addr}{l:List T}(h:RepL m a l):rowRd m a (Zcu l):=by
 have key:∀(l:List T)(b o:Nat),RepAt m b o l->m.reads b o (Zcu l):=by
  intro l
  induction l with
  | nil=>intro b o _ j v hj;simp[Zcu]at hj
  | cons t l ih=>
   intro b o hr j v hj
   simp only[RepAt]at hr
   simp only[Zcu,List.map_cons,List.flatten_cons]at hj
   by_cases bF:j < 8
   ·rw[List.getElem?_append_left (by simpa[T.cs]using bF)]at hj
    exact hr.1 j v hj
   ·rw[List.getElem?_append_right (by simp[T.cs];omega)]at hj
    have:=ih b (o+8) hr.2.2 (j - 8) v (by simpa[T.cs,Zcu]using hj)
    rw[show o+8+(j - 8)=o+j by omega]at this;exact this
 rcases h.2 with h|⟨b,o,h1,h2⟩
 ·subst h;exact .inl rfl
 ·exact .inr ⟨b,o,h1,key l b o h2⟩
theorem ZfI{m:Mem}{a:Option Addr}{l:List T}(h:RepL m a l):∀t∈l,Rep m t:=by
 rcases h.2 with h|⟨b,o,_,h⟩
 ·subst h;simp
 ·intro t ht
  obtain⟨i,hi⟩:=List.getElem?_of_mem ht
  exact(h.get hi).2
def ZBd(j:Nat)(w c:Nat):Nat:=if c / 64=j then w|||2 ^ (c % 64)else w
def Zup(bs:List Nat)(j:Nat):Nat:=bs.foldl (ZBd j) 0
theorem ZtC(l:List Nat)(c j:Nat):Zup (l++[c]) j=if c / 64=j then Zup l j|||2 ^ (c % 64)else Zup l j:=by
 unfold Zup
 rw[List.foldl_append];rfl
theorem ZuO(l:List Nat)(j:Nat):Zup l j < 18446744073709551616:=by
 have key:∀(l:List Nat)(w:Nat),w < 2 ^ 64->l.foldl (ZBd j) w < 2 ^ 64:=by
  intro l
  induction l with
  | nil=>intro w h;exact h
  | cons c l ih=>
   intro w h
   refine ih _ ?_
   unfold ZBd
   split
   ·exact Nat.or_lt_two_pow h (Nat.pow_lt_pow_right (by omega) (by omega))
   ·exact h
 exact key l 0 (by decide)
def Zk3(bs:List Nat):T:=.node 2 (Zup bs 0:Nat) (Zup bs 1:Nat) (Zup bs 2:Nat) (Zup bs 3:Nat) 0 0 none 0 []
theorem ZoY(bs:List Nat)(m:Mem):Rep m (Zk3 bs):=by
 simp only[Zk3,Rep]
 have h:=ZuO bs
 exact⟨by simp,.inl trivial,⟨by omega,⟨by omega,by have:=h 0;omega⟩,⟨by omega,by have:=h 1;omega⟩,⟨by omega,by have:=h 2;omega⟩,⟨by omega,by have:=h 3;omega⟩,by omega,by omega⟩⟩
def ZuP(bs:List Nat):List Value:=[.int .u64 (Zup bs 0:Nat),.int .u64 (Zup bs 1:Nat),.int .u64 (Zup bs 2:Nat),.int .u64 (Zup bs 3:Nat)]
theorem ZtD(bs:List Nat){j:Nat}(h:j < 4):(ZuP bs)[j]?=some (.int .u64 (Zup bs j:Nat)):=by
 have:j=0\/j=1\/j=2\/j=3:=by omega
 rcases this with rfl|rfl|rfl|rfl <;> rfl
theorem ZqS(l:List Nat){c j:Nat}(hj:c / 64=j)(h:j < 4):ZaH (ZuP l) j [.int .u64 ((Zup l j|||2 ^ (c % 64):Nat):Int)]=ZuP (l++[c]):=by
 unfold ZuP
 simp only[ZtC,hj]
 have:j=0\/j=1\/j=2\/j=3:=by omega
 rcases this with rfl|rfl|rfl|rfl <;> rfl
def Zek(n:Nat):List Nat:=([[97],[98],[97,98],[97],[98],[99],[97,98,99],[98,99],[10],[0,255],[97],[98]][n % 12]?).getD []
def T.good(t:T):Bool:=t.nodes.all T.right
def isG(t:T):Bool:=t.k == 6
theorem Zmp(p:T->Bool):∀l:List T,(Zal l).all p=l.all λt=>t.nodes.all p
 | []=>rfl
 | t::l=>by simp only[Zal,List.all_append,List.all_cons,Zmp p l]
theorem Zj4(t:T):t.good=(t.right&&t.subs.all T.good):=by
 unfold T.good;rw[Zbh,List.all_cons,Zmp]
def grL(l:List T):Nat:=(Zal l).countP isG
def szL(l:List T):Nat:=(Zal l).length
def T.gr(t:T):Nat:=t.nodes.countP isG
theorem ZaT(l r:List T):szL (l++r)=szL l+szL r:=by unfold szL;rw[ZcQ,List.length_append]
theorem Zb0(l r:List T):grL (l++r)=grL l+grL r:=by unfold grL;rw[ZcQ,List.countP_append]
theorem ZbQ(t:T):szL [t]=t.nodes.length:=by simp[szL,Zal]
theorem Zd7(t:T):grL [t]=t.gr:=by simp[grL,Zal,T.gr]
theorem ZcR(t:T):ZeK [t]=t.pos:=by simp[ZeK]
theorem Zk4(t:T)(l:List T):szL (t::l)=t.nodes.length+szL l:=by simp[szL,Zal]
theorem ZrO(t:T)(l:List T):grL (t::l)=t.gr+grL l:=by simp[grL,Zal,T.gr,List.countP_append]
theorem ZrP(t:T):t.nodes.length=1+szL t.subs:=by rw[Zbh,List.length_cons,szL];omega
theorem ZxD(t:T):t.gr=(if isG t=true then 1 else 0)+grL t.subs:=by
 unfold T.gr;rw[Zbh,List.countP_cons,grL];omega
theorem ZoZ(l:List T):l.length<=szL l:=by
 induction l with
 | nil=>simp
 | cons t l ih=>rw[Zk4,ZrP,List.length_cons];omega
def ZbR(k:Int)(t:T):List T:=if t.k=k then t.subs else if k=3/\t.k=1 then[]else[t]
def ZhO(k:Int)(a:Option Addr)(c:Nat):List T->T
 | []=>T1
 | [x]=>x
 | x::y::l=>Zas k 0 0 a c (x::y::l)
theorem Zk5{t:T}{k:Int}(h:t.has k=false):∀x∈t.subs,x.k≠k:=by
 intro x hx e
 unfold T.has at h
 have:=List.any_eq_false.1 h x hx
 simp[e]at this
theorem ZvQ{t:T}{k:Int}(h:∀x∈t.subs,x.k≠k):t.has k=false:=by
 unfold T.has
 rw[List.any_eq_false]
 intro x hx
 have:=h x hx
 simpa using this
theorem Zk6{k:Int}{t:T}(hk:k=3\/k=4)(hg:t.good=true)(hp:t.pos<=10000):(∀x∈ZbR k t,x.good=true/\x.k≠k/\(k=3->x.k≠1))/\szL (ZbR k t)<=t.nodes.length/\grL (ZbR k t)<=t.gr/\ZeK (ZbR k t)<=t.pos:=by
 have hg':=hg
 rw[Zj4,Bool.and_eq_true,List.all_eq_true]at hg'
 unfold ZbR
 split
 ·rename_i dM
  refine⟨λx hx=>⟨hg'.2 x hx,?_⟩,by rw[ZrP];omega,by rw[ZxD];omega,?_⟩
  ·have hr:=hg'.1
   unfold T.right at hr
   rw[Bool.and_eq_true]at hr
   have hr:=hr.2
   rcases hk with rfl|rfl
   ·simp only[dM]at hr
    simp at hr
    exact⟨Zk5 hr.2.2 x hx,λ_=>Zk5 hr.2.1 x hx⟩
   ·simp only[dM]at hr
    simp at hr
    exact⟨Zk5 hr.2 x hx,λh=>by omega⟩
  ·rw[ZoR]at hp ⊢
   have h5:¬t.k=5:=by omega
   have h2:¬t.k=2:=by omega
   unfold ZuF at hp ⊢
   rw[if_neg h5,if_neg h2,Int.zero_add]at hp ⊢
   unfold ZqN at hp ⊢
   split at hp
   ·omega
   ·split <;> omega
 ·rename_i dM
  split
  ·refine⟨λx hx=>by simp at hx,by simp[szL,Zal],by simp[grL,Zal],?_⟩
   simp only[ZeK];exact(Zig t).1
  ·rename_i zN
   refine⟨λx hx=>?_,by rw[ZbQ];exact Nat.le_refl _,by rw[Zd7];exact Nat.le_refl _,by rw[ZcR];exact Int.le_refl _⟩
   simp at hx;subst hx
   exact⟨hg,dM,λh=>λh1=>zN ⟨h,h1⟩⟩
theorem Zo0{k:Int}(hk:k=3\/k=4)(a:Option Addr)(c:Nat):∀{l:List T},(∀x∈l,x.good=true/\x.k≠k/\(k=3->x.k≠1))->(ZhO k a c l).good=true/\(ZhO k a c l).nodes.length<=1+szL l/\(ZhO k a c l).gr<=grL l/\(ZhO k a c l).pos<=ZeK l
 | [],_=>⟨show T1.good=true by decide,show T1.nodes.length<=1 by decide,show T1.gr<=0 by decide,show T1.pos<=0 by decide⟩
 | [x],h=>by
  rw[ZbQ,Zd7,ZcR]
  exact⟨(h x (by simp)).1,by show x.nodes.length<=_;omega,Nat.le_refl _,Int.le_refl _⟩
 | x::y::l,h=>by
  show(Zas k 0 0 a c (x::y::l)).good=true/\(Zas k 0 0 a c (x::y::l)).nodes.length<=_/\(Zas k 0 0 a c (x::y::l)).gr<=_/\(Zas k 0 0 a c (x::y::l)).pos<=_
  have hs:(Zas k 0 0 a c (x::y::l)).subs=x::y::l:=rfl
  have dM:(Zas k 0 0 a c (x::y::l)).k=k:=rfl
  have hz:(Zas k 0 0 a c (x::y::l)).setZ=true:=rfl
  have fZ:(Zas k 0 0 a c (x::y::l)).mn=0:=rfl
  have eF:(Zas k 0 0 a c (x::y::l)).mx=0:=rfl
  refine⟨?_,by rw[ZrP,hs];exact Nat.le_refl _,?_,?_⟩
  ·rw[Zj4,Bool.and_eq_true,List.all_eq_true,hs]
   refine⟨?_,λz hz=>(h z hz).1⟩
   have h1:k=3->(Zas k 0 0 a c (x::y::l)).has 1=false:=λe=>ZvQ λz hz=>(h z hz).2.2 e
   have h2:(Zas k 0 0 a c (x::y::l)).has k=false:=ZvQ λz hz=>(h z hz).2.1
   unfold T.right
   rw[dM,hz,fZ,eF,hs]
   rcases hk with rfl|rfl
   ·simp[h1 rfl,h2]
   ·simp[h2]
  ·rw[ZxD,hs,isG,dM]
   rcases hk with rfl|rfl <;> simp
  ·rw[ZoR,dM,fZ,eF,hs]
   unfold ZuF
   rw[if_neg (by omega),if_neg (by omega),Int.zero_add]
   exact(Zml _ _).1
structure J (i:Nat)(ts:List T)(u g:Nat):Prop where
 good:∀t∈ts,t.good=true
 sz:szL ts<=i
 pos:ZeK ts<=(i*u:Nat)
 u1:1<=u
 u16:u<=16
 gr:grL ts<=g
 g9:g<=9
theorem J.zero:J 0 [] 1 0:=⟨by simp,by simp[szL,Zal],by simp[ZeK],by omega,by omega,by simp[grL,Zal],by omega⟩
theorem J.skip{i ts u g}(h:J i ts u g):J (i+1) ts u g:=
 ⟨h.good,by have:=h.sz;omega,by have:=h.pos;have e:(i+1)*u=i*u+u:=Nat.succ_mul i u;rw[e];omega,h.u1,h.u16,h.gr,h.g9⟩
theorem J.push{i ts u g}(h:J i ts u g){t:T}(hg:t.good=true)(hs:t.nodes.length=1)(hp:t.pos<=1)(hr:t.gr=0):J (i+1) (ts++[t]) u g:=by
 refine⟨λx hx=>?_,?_,?_,h.u1,h.u16,?_,h.g9⟩
 ·rcases List.mem_append.1 hx with hx|hx
  ·exact h.good x hx
  ·simp at hx;subst hx;exact hg
 ·rw[ZaT,ZbQ,hs];have:=h.sz;omega
 ·rw[Zbj,ZcR];have:=h.pos;have:=h.u1;have e:(i+1)*u=i*u+u:=Nat.succ_mul i u;rw[e];omega
 ·rw[Zb0,Zd7,hr];have:=h.gr;omega
theorem J.pos400{i ts u g}(h:J i ts u g)(hi:i<=25):ZeK ts<=400:=by
 have h1:=h.pos
 have:i*u<=25*16:=Nat.mul_le_mul hi h.u16
 omega
theorem J.join{i ts u g}{x y:T}(h:J i (ts++[x,y]) u g)(hi:i<=25){k:Int}(hk:k=3\/k=4)(a:Option Addr)(c:Nat):J (i+1) (ts++[ZhO k a c (ZbR k x++ZbR k y)]) u g:=by
 have h4:=h.pos400 hi
 have hz:=h.sz
 have hp:=h.pos
 have lO:=h.gr
 rw[show ts++[x,y]=ts++([x]++[y]) from rfl]at h4 hz hp lO
 rw[Zbj,Zbj,ZcR,ZcR]at h4 hp
 rw[ZaT,ZaT,ZbQ,ZbQ]at hz
 rw[Zb0,Zb0,Zd7,Zd7]at lO
 have n1:=Zhv ts
 have n2:=(Zig x).1
 have n3:=(Zig y).1
 obtain⟨a1,a2,a3,a4⟩:=Zk6 hk (h.good x (by simp)) (by omega)
 obtain⟨b1,b2,b3,b4⟩:=Zk6 hk (h.good y (by simp)) (by omega)
 obtain⟨c1,c2,c3,c4⟩:=Zo0 hk a c (l:=ZbR k x++ZbR k y) (λz hz=>by
  rcases List.mem_append.1 hz with hz|hz
  ·exact a1 z hz
  ·exact b1 z hz)
 rw[ZaT]at c2
 rw[Zb0]at c3
 rw[Zbj]at c4
 refine⟨λz hz=>?_,?_,?_,h.u1,h.u16,?_,h.g9⟩
 ·rcases List.mem_append.1 hz with hz|hz
  ·exact h.good z (by simp[hz])
  ·simp at hz;subst hz;exact c1
 ·rw[ZaT,ZbQ];omega
 ·rw[Zbj,ZcR];have e:(i+1)*u=i*u+u:=Nat.succ_mul i u;rw[e];omega
 ·rw[Zb0,Zd7];omega
theorem J.group{i ts u g}{x:T}(h:J i (ts++[x]) u g)(hg:g < 9)(a:Option Addr)(c:Nat):J (i+1) (ts++[Zas 6 0 0 a c [x]]) u (g+1):=by
 have hz:=h.sz
 have hp:=h.pos
 have lO:=h.gr
 rw[Zbj,ZcR]at hp
 rw[ZaT,ZbQ]at hz
 rw[Zb0,Zd7]at lO
 have hs:(Zas 6 0 0 a c [x]).subs=[x]:=rfl
 refine⟨λz hz=>?_,?_,?_,h.u1,h.u16,?_,by omega⟩
 ·rcases List.mem_append.1 hz with hz|hz
  ·exact h.good z (by simp[hz])
  ·simp at hz;subst hz
   rw[Zj4,Bool.and_eq_true,List.all_eq_true]
   refine⟨rfl,λz hz=>?_⟩
   rw[hs]at hz;simp at hz;subst hz
   exact h.good z (by simp)
 ·rw[ZaT,ZbQ,ZrP,hs,ZbQ];omega
 ·rw[Zbj,ZcR,ZoR,hs,ZcR]
  have:ZuF (Zas 6 0 0 a c [x]).k (Zas 6 0 0 a c [x]).mn (Zas 6 0 0 a c [x]).mx ((if(Zas 6 0 0 a c [x]).k=2 then 1 else 0)+x.pos)<=x.pos:=by
   show ZqN (if(6:Int)=5 then _ else(if(6:Int)=2 then 1 else 0)+x.pos) 10001<=_
   rw[if_neg (by omega),if_neg (by omega),Int.zero_add]
   exact(Zml _ _).1
  have e:(i+1)*u=i*u+u:=Nat.succ_mul i u
  rw[e];omega
 ·rw[Zb0,Zd7,ZxD,hs,Zd7]
  split <;> omega
theorem J.rep{i ts u g}{x:T}(h:J i (ts++[x]) u g)(hx:x.k≠1){mn mx:Int}(hb:Zif mn mx=true){w:Nat}(hw:ZvJ mn mx<=w)(h1:1<=w)(hu:u*w<=16)(a:Option Addr)(c:Nat):J (i+1) (ts++[Zas 5 mn mx a c [x]]) (u*w) g:=by
 have hz:=h.sz
 have hp:=h.pos
 have lO:=h.gr
 rw[Zbj,ZcR]at hp
 rw[ZaT,ZbQ]at hz
 rw[Zb0,Zd7]at lO
 have hs:(Zas 5 mn mx a c [x]).subs=[x]:=rfl
 have n1:=Zhv ts
 have n2:=(Zig x).1
 refine⟨λz hz=>?_,?_,?_,?_,hu,?_,h.g9⟩
 ·rcases List.mem_append.1 hz with hz|hz
  ·exact h.good z (by simp[hz])
  ·simp at hz;subst hz
   rw[Zj4,Bool.and_eq_true,List.all_eq_true]
   refine⟨?_,λz hz=>?_⟩
   ·have hh:(Zas 5 mn mx a c [x]).has 1=false:=ZvQ λz hz=>by rw[hs]at hz;simp at hz;subst hz;exact hx
    unfold T.right
    rw[hh,hs,show(Zas 5 mn mx a c [x]).k=5 from rfl,show(Zas 5 mn mx a c [x]).setZ=true from rfl,show(Zas 5 mn mx a c [x]).mn=mn from rfl,show(Zas 5 mn mx a c [x]).mx=mx from rfl,hb]
    simp
   ·rw[hs]at hz;simp at hz;subst hz
    exact h.good z (by simp)
 ·rw[ZaT,ZbQ,ZrP,hs,ZbQ];omega
 ·rw[Zbj,ZcR,ZoR,hs,ZcR]
  have key:ZuF (Zas 5 mn mx a c [x]).k (Zas 5 mn mx a c [x]).mn (Zas 5 mn mx a c [x]).mx ((if(Zas 5 mn mx a c [x]).k=2 then 1 else 0)+x.pos)<=x.pos*w:=by
   show ZqN (if(5:Int)=5 then((if(5:Int)=2 then 1 else 0)+x.pos)*ZvJ mn mx else _) 10001<=_
   rw[if_pos rfl,if_neg (by omega),Int.zero_add]
   exact Int.le_trans (Zml _ _).1 (Int.mul_le_mul_of_nonneg_left hw n2)
  have k2:ZeK ts<=ZeK ts*w:=by
   have:=Int.mul_le_mul_of_nonneg_left (show(1:Int)<=w by omega) n1
   rw[Int.mul_one]at this;exact this
  have k3:(ZeK ts+x.pos)*w<=((i*u:Nat):Int)*w:=Int.mul_le_mul_of_nonneg_right hp (by omega)
  rw[Int.add_mul]at k3
  have e:(i+1)*(u*w)=i*u*w+u*w:=by rw[Nat.succ_mul,Nat.mul_assoc]
  have e2:(((i*u:Nat):Int)*w)=((i*u*w:Nat):Int):=by push_cast;rfl
  rw[e2]at k3
  rw[e]
  generalize i*u*w=A at *
  generalize u*w=B at *
  generalize ZeK ts*(w:Int)=D at *
  generalize x.pos*(w:Int)=F at *
  omega
 ·have:=Nat.mul_le_mul h.u1 h1;omega
 ·rw[Zb0,Zd7,ZxD,hs,Zd7,isG,show(Zas 5 mn mx a c [x]).k=5 from rfl]
  simp;omega
structure F (t:T)(l:List T):Prop where
 good:t.good=true
 goods:∀x∈l,x.good=true
 sz:t.nodes.length+szL l+l.length<=60
 pos:t.pos+ZeK l<=400
 gr:t.gr+grL l<=9
theorem F.start{i u g}{t:T}{l:List T}(h:J i (t::l) u g)(hi:i<=25):F t l:=by
 have h1:=h.sz
 have h2:=h.pos400 hi
 have h3:=h.gr
 rw[Zk4]at h1
 rw[ZrO]at h3
 have:=ZoZ l
 have:=h.g9
 exact⟨h.good t (by simp),λx hx=>h.good x (by simp[hx]),by omega,by simpa[ZeK]using h2,by omega⟩
theorem F.step{t x:T}{l:List T}(h:F t (x::l))(a:Option Addr)(c:Nat):F (ZhO 4 a c (ZbR 4 t++ZbR 4 x)) l:=by
 have h1:=h.sz
 have h2:=h.pos
 have h3:=h.gr
 rw[Zk4,List.length_cons]at h1
 rw[ZrO]at h3
 simp only[ZeK]at h2
 have n1:=Zhv l
 have n2:=(Zig x).1
 have n3:=(Zig t).1
 obtain⟨a1,a2,a3,a4⟩:=Zk6 (.inr rfl) h.good (by omega) (t:=t)
 obtain⟨b1,b2,b3,b4⟩:=Zk6 (.inr rfl) (h.goods x (by simp)) (by omega)
 obtain⟨c1,c2,c3,c4⟩:=Zo0 (.inr rfl) a c (l:=ZbR 4 t++ZbR 4 x) (λz hz=>by
  rcases List.mem_append.1 hz with hz|hz
  ·exact a1 z hz
  ·exact b1 z hz)
 rw[ZaT]at c2
 rw[Zb0]at c3
 rw[Zbj]at c4
 exact⟨c1,λz hz=>h.goods z (by simp[hz]),by omega,by omega,by omega⟩
theorem F.done{t:T}{l:List T}(h:F t l):t.check=0:=by
 have h1:=h.sz
 have h2:=h.pos
 have h3:=h.gr
 have n1:=Zhv l
 have hl:t.light=true:=by unfold T.light;exact decide_eq_true (by omega)
 have hc:t.clean=true:=by unfold T.clean;rw[hl];exact h.good
 have hg:((t.nodes.countP λx=>x.k == 6:Nat))=t.gr:=rfl
 unfold T.check
 rw[hc]
 unfold T.size T.positions T.groups
 rw[hl,hg]
 simp only[if_true,Bool.true_eq_false,if_false]
 rw[if_neg (by omega),if_neg (by omega),if_neg (by omega)]
theorem Zb1{t:T}(h:t.check=0):t.good=true/\t.nodes.length<=120:=by
 unfold T.check at h
 split at h
 ·exact absurd h (by decide)
 ·rename_i hc
  have hc':t.clean=true:=by simpa using hc
  unfold T.clean at hc'
  rw[Bool.and_eq_true]at hc'
  split at h
  ·exact absurd h (by decide)
  ·rename_i hz
   unfold T.size at hz
   rw[hc'.1]at hz
   simp only[if_true]at hz
   exact⟨hc'.2,by omega⟩
theorem ZrQ(n:Nat):(Zk3 (Zek n)).good=true/\(Zk3 (Zek n)).nodes.length=1/\(Zk3 (Zek n)).pos<=1/\(Zk3 (Zek n)).gr=0:=by
 have h:n % 12=0\/n % 12=1\/n % 12=2\/n % 12=3\/n % 12=4\/n % 12=5\/n % 12=6\/n % 12=7\/n % 12=8\/n % 12=9\/n % 12=10\/n % 12=11:=by omega
 unfold Zek
 rcases h with e|e|e|e|e|e|e|e|e|e|e|e <;> rw[e] <;> exact⟨by decide,by decide,by decide,by decide⟩
theorem ZxE:T1.good=true/\T1.nodes.length=1/\T1.pos<=1/\T1.gr=0:=⟨by decide,by decide,by decide,by decide⟩
theorem ZfJ{k:Int}{t:T}:(ZbR k t).length<=t.nodes.length:=by
 unfold ZbR
 have:=ZuJ t
 have:=ZrP t
 split
 ·omega
 ·split <;> simp <;> omega
def nsL(l:List Nat):List Value:=l.map λi:Nat=>.int .i64 (i:Nat)
def Zjt:List Nat->List Nat->List Nat
 | seen,[]=>seen
 | seen,i::l=>if i∈seen then Zjt seen l else Zjt (seen++[i]) l
def ddp(l:List Nat):List Nat:=Zjt [] l
theorem ZnT:∀{l seen:List Nat} {j:Nat},j∈Zjt seen l↔j∈seen\/j∈l
 | [],seen,j=>by simp[Zjt]
 | i::l,seen,j=>by
  unfold Zjt
  by_cases h:i∈seen
  ·rw[if_pos h,ZnT,List.mem_cons]
   constructor
   ·rintro(h1|h1)
    ·exact .inl h1
    ·exact .inr (.inr h1)
   ·rintro(h1|rfl|h1)
    ·exact .inl h1
    ·exact .inl h
    ·exact .inr h1
  ·rw[if_neg h,ZnT,List.mem_append,List.mem_singleton,or_assoc,List.mem_cons]
theorem ZcU{l:List Nat}{j:Nat}:j∈ddp l↔j∈l:=by unfold ddp;rw[ZnT];simp
theorem Zhw:∀{l r seen:List Nat},Zjt seen (l++r)=Zjt (Zjt seen l) r
 | [],r,seen=>rfl
 | i::l,r,seen=>by
  simp only[List.cons_append,Zjt]
  split
  ·exact Zhw
  ·exact Zhw
def Zg1:List (Nat->List Nat)->Nat->List Nat
 | [],i=>[i]
 | f::r,i=>ddp ((f i).flatMap (Zg1 r))
def Zii(mx:Int)(d:Nat):Bool:=mx == -1||decide ((d:Int) < mx)
def Zbb(mn mx:Int)(d:Nat):Nat:=if mx=-1 then min (d+1) mn.toNat else d+1
def Zch(f:Nat->List Nat)(mn mx:Int)(d i:Nat):List Nat:=if Zii mx d=true then(f i).filter λj=>decide (i < j)||decide ((d:Int) < mn)else[]
def ZnJ(mn:Int)(d i:Nat):List Nat:=if(d:Int) ≥ mn then[i]else[]
def Zkp(f:Nat->List Nat)(mn mx:Int):Nat->Nat->Nat->List Nat
 | 0,_,_=>[]
 | k+1,d,i=>ddp ((Zch f mn mx d i).flatMap (Zkp f mn mx k (Zbb mn mx d))++ZnJ mn d i)
def mR(len:Nat)(mn mx:Int)(d i:Nat):Nat:=if mx=-1 then(mn.toNat - d)+(len - i)else mx.toNat - d
def Zy0(t:T)(s:List Nat)(i:Nat):List Nat:=match s[i]? with
 | some c=>if t.hasB c=true then[i+1]else[]
 | none=>[]
mutual
def T.e0(s:List Nat):T->Nat->List Nat
 | .node k s0 s1 s2 s3 mn mx a c l=>λi=>
  if k=1 then[i]else if k=2 then Zy0 (.node k s0 s1 s2 s3 mn mx a c l) s i
  else if k=6 then ddp (hd0 s l i)
  else if k=4 then ddp (Zqa s l i)
  else if k=3 then Zg1 (e0s s l) i
  else if k=5 then Zkp (hd0 s l) mn mx (mR s.length mn mx 0 i+1) 0 i else[]
def hd0(s:List Nat):List T->Nat->List Nat
 | []=>λ_=>[]
 | t::_=>λi=>t.e0 s i
def Zqa(s:List Nat):List T->Nat->List Nat
 | []=>λ_=>[]
 | t::l=>λi=>t.e0 s i++Zqa s l i
def e0s(s:List Nat):List T->List (Nat->List Nat)
 | []=>[]
 | t::l=>t.e0 s::e0s s l
end
theorem ZrR(s:List Nat):∀l:List T,e0s s l=l.map (T.e0 s)
 | []=>by simp[e0s]
 | t::l=>by simp[e0s,ZrR s l]
theorem Zo1(s:List Nat)(i:Nat):∀l:List T,Zqa s l i=(l.map λt=>t.e0 s i).flatten
 | []=>by simp[Zqa]
 | t::l=>by simp[Zqa,Zo1 s i l]
def T.ends(s:List Nat)(t:T)(d i:Nat):List Nat:=
 if t.k=3 then Zg1 ((t.subs.map (T.e0 s)).drop d) i else if t.k=5 then Zkp (hd0 s t.subs) t.mn t.mx (mR s.length t.mn t.mx d i+1) d i else t.e0 s i
theorem Za3(s:List Nat)(t:T)(i:Nat):t.ends s 0 i=t.e0 s i:=by
 unfold T.ends
 cases t with
 | node k s0 s1 s2 s3 mn mx a c l=>
  simp only[T.k,T.subs,T.mn,T.mx,List.drop_zero]
  by_cases h:k=3
  ·subst h
   simp[T.e0,ZrR]
  ·simp only[h,if_false]
   by_cases h:k=5
   ·subst h
    simp[T.e0]
   ·simp only[h,if_false]
def T.lists(s:List Nat)(t:T)(d i:Nat):List (List Nat):=
 if t.k=1 then[[i]]else if t.k=2 then(match s[i]? with
  | some c=>if t.hasB c=true then[[i+1]]else[]
  | none=>[])
 else if t.k=6 then[hd0 s t.subs i]
 else if t.k=4 then t.subs.map λx=>x.e0 s i
 else if t.k=3 then(match t.subs[d]? with
  | none=>[[i]]
  | some x=>(x.e0 s i).map λj=>t.ends s (d+1) j)
 else if t.k=5 then((Zch (hd0 s t.subs) t.mn t.mx d i).map λj=>t.ends s (Zbb t.mn t.mx d) j)++(if(d:Int) ≥ t.mn then[[i]]else[])else[]
def Zc6(len:Nat)(f:Nat->List Nat):Prop:=∀i,i<=len->∀j∈f i,i<=j/\j<=len
theorem Zde{len:Nat}:∀{l:List (Nat->List Nat)},(∀f∈l,Zc6 len f)->Zc6 len (Zg1 l)
 | [],_,i,hi,j,hj=>by simp[Zg1]at hj;omega
 | f::l,h,i,hi,j,hj=>by
  simp only[Zg1]at hj
  rw[ZcU,List.mem_flatMap]at hj
  obtain⟨x,hx,hj⟩:=hj
  obtain⟨h1,h2⟩:=h f (by simp) i hi x hx
  obtain⟨h3,h4⟩:=Zde (λf hf=>h f (by simp[hf])) x h2 j hj
  omega
theorem Za8{f:Nat->List Nat}{mn mx:Int}{d i j:Nat}(h:j∈Zch f mn mx d i):Zii mx d=true/\j∈f i/\(i < j\/(d:Int) < mn):=by
 unfold Zch at h
 split at h
 ·rename_i hm
  rw[List.mem_filter]at h
  simp only[Bool.or_eq_true,decide_eq_true_eq]at h
  exact⟨hm,h.1,h.2⟩
 ·simp at h
theorem Zdf{len:Nat}{f:Nat->List Nat}(hf:Zc6 len f){mn mx:Int}:∀{k d:Nat},Zc6 len (Zkp f mn mx k d)
 | 0,d,i,hi,j,hj=>by simp[Zkp]at hj
 | k+1,d,i,hi,j,hj=>by
  simp only[Zkp]at hj
  rw[ZcU,List.mem_append,List.mem_flatMap]at hj
  rcases hj with⟨x,hx,hj⟩|hj
  ·obtain⟨_,h1,_⟩:=Za8 hx
   obtain⟨h2,h3⟩:=hf i hi x h1
   obtain⟨h4,h5⟩:=Zdf hf x h3 j hj
   omega
  ·unfold ZnJ at hj
   split at hj
   ·simp at hj;omega
   ·simp at hj
theorem ZrS{len:Nat}{mn mx:Int}{d i j:Nat}(fZ:0<=mn)(eF:mx=-1\/mn<=mx)(hm:Zii mx d=true)(hj:i<=j/\j<=len)(h:i < j\/(d:Int) < mn):mR len mn mx (Zbb mn mx d) j < mR len mn mx d i:=by
 unfold mR Zbb
 unfold Zii at hm
 simp only[Bool.or_eq_true,beq_iff_eq,decide_eq_true_eq]at hm
 by_cases e:mx=-1
 ·simp only[e,if_true]
  rcases Nat.lt_or_ge d mn.toNat with h1|h1
  ·rw[Nat.min_eq_left (by omega)];omega
  ·rw[Nat.min_eq_right (by omega)];omega
 ·simp only[e,if_false]
  have:=hm.resolve_left e
  omega
theorem Zij{len:Nat}{f:Nat->List Nat}(hf:Zc6 len f){mn mx:Int}(fZ:0<=mn)(eF:mx=-1\/mn<=mx):∀{k k' d i:Nat},i<=len->mR len mn mx d i < k->mR len mn mx d i < k'->Zkp f mn mx k d i=Zkp f mn mx k' d i
 | 0,k',d,i,_,h,_=>by omega
 | k+1,0,d,i,_,_,h=>by omega
 | k+1,k'+1,d,i,hi,h1,h2=>by
  simp only[Zkp]
  congr 2
  have:∀x∈Zch f mn mx d i,Zkp f mn mx k (Zbb mn mx d) x=Zkp f mn mx k' (Zbb mn mx d) x:=λx hx=>by
   obtain⟨g1,g2,g3⟩:=Za8 hx
   obtain⟨g4,g5⟩:=hf i hi x g2
   have:=ZrS (len:=len) fZ eF g1 ⟨g4,g5⟩ g3
   exact Zij hf fZ eF g5 (by omega) (by omega)
  rw[List.flatMap_def,List.flatMap_def,List.map_congr_left this]
mutual
theorem ZaO(s:List Nat):∀t:T,Zc6 s.length (t.e0 s)
 | .node k s0 s1 s2 s3 mn mx a c l=>λi hi j hj=>by
  simp only[T.e0]at hj
  split at hj
  ·simp at hj;omega
  ·split at hj
   ·unfold Zy0 at hj
    split at hj
    ·rename_i c hc
     have:=(List.getElem?_eq_some_iff.1 hc).1
     split at hj
     ·simp at hj;omega
     ·simp at hj
    ·simp at hj
   ·split at hj
    ·rw[ZcU]at hj
     exact Za4 s l i hi j hj
    ·split at hj
     ·rw[ZcU]at hj
      exact Zj5 s l i hi j hj
     ·split at hj
      ·exact Zde (Zfs s l) i hi j hj
      ·split at hj
       ·exact Zdf (Za4 s l) i hi j hj
       ·simp at hj
theorem Za4(s:List Nat):∀l:List T,Zc6 s.length (hd0 s l)
 | []=>λi hi j hj=>by simp[hd0]at hj
 | t::l=>λi hi j hj=>ZaO s t i hi j (by simpa[hd0]using hj)
theorem Zj5(s:List Nat):∀l:List T,Zc6 s.length (Zqa s l)
 | []=>λi hi j hj=>by simp[Zqa]at hj
 | t::l=>λi hi j hj=>by
  simp only[Zqa,List.mem_append]at hj
  rcases hj with hj|hj
  ·exact ZaO s t i hi j hj
  ·exact Zj5 s l i hi j hj
theorem Zfs(s:List Nat):∀l:List T,∀f∈e0s s l,Zc6 s.length f
 | []=>λf hf=>by simp[e0s]at hf
 | t::l=>λf hf=>by
  simp only[e0s,List.mem_cons]at hf
  rcases hf with rfl|hf
  ·exact ZaO s t
  ·exact Zfs s l f hf
end
theorem Zhx(s:List Nat)(t:T)(d:Nat):Zc6 s.length (t.ends s d):=λi hi j hj=>by
 unfold T.ends at hj
 split at hj
 ·exact Zde (λf hf=>by
   obtain⟨x,_,rfl⟩:=List.mem_map.1 (List.mem_of_mem_drop hf)
   exact ZaO s x) i hi j hj
 ·split at hj
  ·exact Zdf (Za4 s t.subs) i hi j hj
  ·exact ZaO s t i hi j hj
theorem ZqT(s:List Nat)(t:T)(d i:Nat)(hi:i<=s.length)(hk:t.k=5->0<=t.mn/\(t.mx=-1\/t.mn<=t.mx)):t.ends s d i=ddp (t.lists s d i).flatten:=by
 unfold T.ends T.lists
 by_cases h3:t.k=3
 ·simp only[h3,if_true,show ¬(3:Int)=1 by decide,show ¬(3:Int)=2 by decide,show ¬(3:Int)=6 by decide,show ¬(3:Int)=4 by decide,if_false]
  cases hd:t.subs[d]? with
  | none=>
   have:t.subs.length<=d:=List.getElem?_eq_none_iff.1 hd
   rw[List.drop_eq_nil_of_le (by simpa using this)]
   rfl
  | some x=>
   have bF:=(List.getElem?_eq_some_iff.1 hd).1
   rw[List.drop_eq_getElem_cons (by simpa using bF)]
   simp only[Zg1,List.getElem_map]
   have hx:t.subs[d]=x:=(List.getElem?_eq_some_iff.1 hd).2
   rw[hx,List.flatMap_def]
   congr 2
   refine List.map_congr_left λj _=>?_
   unfold T.ends
   rw[if_pos h3]
 ·simp only[h3,if_false]
  by_cases h5:t.k=5
  ·obtain⟨fZ,eF⟩:=hk h5
   simp only[h5,if_true,show ¬(5:Int)=1 by decide,show ¬(5:Int)=2 by decide,show ¬(5:Int)=6 by decide,show ¬(5:Int)=4 by decide,if_false]
   simp only[Zkp]
   congr 1
   rw[List.flatten_append]
   congr 1
   ·rw[List.flatMap_def]
    congr 1
    refine List.map_congr_left λj hj=>?_
    obtain⟨g1,g2,g3⟩:=Za8 hj
    obtain⟨g4,g5⟩:=Za4 s t.subs i hi j g2
    have:=ZrS (len:=s.length) fZ eF g1 ⟨g4,g5⟩ g3
    unfold T.ends
    rw[if_neg (by rw[h5];decide),if_pos h5]
    exact Zij (Za4 s t.subs) fZ eF g5 (by omega) (by omega)
   ·unfold ZnJ;split <;> rfl
  ·simp only[h5,if_false]
   cases t with
   | node k s0 s1 s2 s3 mn mx a c l=>
    simp only[T.k]at h3 h5 ⊢
    simp only[T.e0,h3,h5,if_false,T.subs]
    by_cases h1:k=1
    ·simp[h1,ddp,Zjt]
    ·simp only[h1,if_false]
     by_cases h2:k=2
     ·simp only[h2,if_true]
      unfold Zy0
      cases s[i]? with
      | none=>rfl
      | some ch=>simp only;split <;> rfl
     ·simp only[h2,if_false]
      by_cases h6:k=6
      ·simp[h6]
      ·simp only[h6,if_false]
       by_cases h4:k=4
       ·simp only[h4,if_true];rw[Zo1]
       ·simp only[h4,if_false];rfl
noncomputable abbrev but(m:Mem)(kb:Nat):Mem:=m.off (λb=>b=kb)
theorem Zk7{m:Mem}{kb:Nat}(o:Nat):but m kb kb o=none:=Mem.off_free (Y:=λb=>b=kb) rfl o
theorem Zm9{m:Mem}{kb b:Nat}(h:b≠kb)(o:Nat):but m kb b o=m b o:=Mem.off_at (Y:=λb=>b=kb) h o
theorem Zna{m:Mem}{kb:Nat}:(but m kb).k kb=none:=Mem.off_kn (Y:=λb=>b=kb) rfl
theorem ZzU{m:Mem}{kb b:Nat}(h:b≠kb):(but m kb).k b=m.k b:=Mem.off_k (Y:=λb=>b=kb) h
theorem Zik(m:Mem)(kb:Nat):(but m kb).le m:=Mem.off_le _ _
theorem Zfh{m m':Mem}{kb:Nat}(h:(but m kb).le m'):(but m kb).le (but m' kb):=⟨λb o v hv=>by
 by_cases e:b=kb
 ·subst e;rw[Zk7]at hv;cases hv
 ·rw[Zm9 e];exact h.c b o v hv,λb v hv=>by
 by_cases e:b=kb
 ·subst e;rw[Zna]at hv;cases hv
 ·rw[ZzU e];exact h.k b v hv⟩
theorem Zo2{m m':Mem}{kb:Nat}(h:m.le m'):(but m kb).le (but m' kb):=Zfh (mLt (Mem.off_le _ _) h)
inductive Nd where
 | mk (b id grp:Nat) (t:T) (a:Option Addr) (c:Nat) (subs:List Nd)
def Nd.b:Nd->Nat
 | .mk b _ _ _ _ _ _=>b
def Nd.id:Nd->Nat
 | .mk _ i _ _ _ _ _=>i
def Nd.grp:Nd->Nat
 | .mk _ _ g _ _ _ _=>g
def Nd.t:Nd->T
 | .mk _ _ _ t _ _ _=>t
def Nd.a:Nd->Option Addr
 | .mk _ _ _ _ a _ _=>a
def Nd.c:Nd->Nat
 | .mk _ _ _ _ _ c _=>c
def Nd.subs:Nd->List Nd
 | .mk _ _ _ _ _ _ l=>l
def Nd.cs(n:Nd):List Value:=n.t.cs++[.int .i64 n.id,.int .i64 n.grp,.slice n.a n.subs.length n.c]
mutual
def NRep(m:Mem):Nd->Prop
 | .mk b id grp t a c l=>m.reads b 0 (t.cs++[.int .i64 (id:Nat),.int .i64 (grp:Nat),.slice a l.length c])/\(Rep m t/\l.map Nd.t=t.subs)/\(id < 4611686018427387904/\grp < 4611686018427387904)/\(l=[]\/∃b0 o,a=some ⟨b0,o,none⟩/\NRow m b0 o l)
def NRow(m:Mem)(b0:Nat):Nat->List Nd->Prop
 | _,[]=>True
 | o,x::l=>m b0 o=some (ptr x.b 0)/\NRep m x/\NRow m b0 (o+1) l
end
theorem ZdC{m:Mem}{n:Nd}:NRep m n↔m.reads n.b 0 n.cs/\(Rep m n.t/\n.subs.map Nd.t=n.t.subs)/\(n.id < 4611686018427387904/\n.grp < 4611686018427387904)/\(n.subs=[]\/∃b0 o,n.a=some ⟨b0,o,none⟩/\NRow m b0 o n.subs):=by
 cases n;simp only[NRep,Nd.b,Nd.cs,Nd.t,Nd.subs,Nd.a,Nd.id,Nd.grp,Nd.c]
mutual
theorem NRep.mono{m m':Mem}(h:m.le m'):∀n:Nd,NRep m n->NRep m' n
 | .mk b id grp t a c l,hr=>by
  simp only[NRep]at hr ⊢
  refine⟨hr.1.mono h,⟨Rep.mono h t hr.2.1.1,hr.2.1.2⟩,hr.2.2.1,?_⟩
  rcases hr.2.2.2 with h1|⟨b0,o,h1,h2⟩
  ·exact .inl h1
  ·exact .inr ⟨b0,o,h1,NRow.mono h b0 o l h2⟩
theorem NRow.mono{m m':Mem}(h:m.le m')(b0:Nat):∀(o:Nat)(l:List Nd),NRow m b0 o l->NRow m' b0 o l
 | _,[],_=>by simp only[NRow]
 | o,x::l,hr=>by
  simp only[NRow]at hr ⊢
  exact⟨h.c _ _ _ hr.1,NRep.mono h x hr.2.1,NRow.mono h b0 (o+1) l hr.2.2⟩
end
theorem NRow.get{m:Mem}{b0:Nat}:∀{o:Nat} {l:List Nd} {i:Nat} {x:Nd},NRow m b0 o l->l[i]?=some x->m b0 (o+i)=some (ptr x.b 0)/\NRep m x
 | o,[],i,x,_,hi=>by simp at hi
 | o,y::l,0,x,h,hi=>by
  simp only[NRow]at h
  simp at hi;subst hi
  exact⟨h.1,h.2.1⟩
 | o,y::l,i+1,x,h,hi=>by
  simp only[NRow]at h
  have:=h.2.2.get (i:=i) (by simpa using hi)
  rw[show o+(i+1)=o+1+i by omega];exact this
mutual
def Nd.all:Nd->List Nd
 | .mk b id grp t a c l=>.mk b id grp t a c l::ZlM l
def ZlM:List Nd->List Nd
 | []=>[]
 | x::l=>x.all++ZlM l
end
theorem ZxF(n:Nd):n.all=n::ZlM n.subs:=by cases n;simp only[Nd.all,Nd.subs]
theorem Zc8(n:Nd):n∈n.all:=by rw[ZxF];simp
theorem ZvR{l:List Nd}{x y:Nd}(hx:x∈l)(hy:y∈x.all):y∈ZlM l:=by
 induction l with
 | nil=>cases hx
 | cons z l ih=>
  simp only[ZlM,List.mem_append]
  rcases List.mem_cons.1 hx with rfl|hx
  ·exact .inl hy
  ·exact .inr (ih hx)
mutual
theorem Zo3:∀(n x y:Nd),x∈n.all->y∈x.all->y∈n.all
 | .mk b id grp t a c l,x,y,hx,hy=>by
  simp only[Nd.all,List.mem_cons]at hx ⊢
  rcases hx with rfl|hx
  ·simp only[Nd.all,List.mem_cons]at hy;exact hy
  ·exact .inr (Zmq l x y hx hy)
theorem Zmq:∀(l:List Nd)(x y:Nd),x∈ZlM l->y∈x.all->y∈ZlM l
 | [],x,y,hx,_=>by simp[ZlM]at hx
 | z::l,x,y,hx,hy=>by
  simp only[ZlM,List.mem_append]at hx ⊢
  rcases hx with hx|hx
  ·exact .inl (Zo3 z x y hx hy)
  ·exact .inr (Zmq l x y hx hy)
end
theorem ZeS{n x y:Nd}(h:x∈n.all)(hy:y∈x.subs):y∈n.all:=Zo3 n x y h (by rw[ZxF];exact List.mem_cons_of_mem _ (ZvR hy (Zc8 y)))
mutual
theorem ZbF{m:Mem}:∀n:Nd,NRep m n->∀x∈n.all,NRep m x
 | .mk b id grp t a c l,hr,x,hx=>by
  simp only[Nd.all,List.mem_cons]at hx
  rcases hx with rfl|hx
  ·exact hr
  ·simp only[NRep]at hr
   rcases hr.2.2.2 with h|⟨b0,o,_,h⟩
   ·subst h;simp[ZlM]at hx
   ·exact ZrT b0 o l h x hx
theorem ZrT{m:Mem}(b0:Nat):∀(o:Nat)(l:List Nd),NRow m b0 o l->∀x∈ZlM l,NRep m x
 | _,[],_,x,hx=>by simp[ZlM]at hx
 | o,y::l,hr,x,hx=>by
  simp only[NRow]at hr
  simp only[ZlM,List.mem_append]at hx
  rcases hx with hx|hx
  ·exact ZbF y hr.2.1 x hx
  ·exact ZrT b0 (o+1) l hr.2.2 x hx
end
theorem ZzV{n x:Nd}(h:x∈n.subs):SizeOf.sizeOf x < SizeOf.sizeOf n:=by
 cases n with
 | mk b id grp t a c l=>
  have h':x∈l:=h
  have:=List.sizeOf_lt_of_mem h'
  simp only[Nd.mk.sizeOf_spec]
  omega
def plK(id d i:Nat):Value:=.agg #[.int .i64 (id:Nat),.int .i64 (d:Nat),.int .i64 (i:Nat)]
def Memo(B:Mem)(root:Nd)(s:List Nat)(es:List (Value×Value)):Prop:=
 ∀e∈es,∃(n:Nd)(d i:Nat)(a:Option Addr)(c:Nat),n∈root.all/\e=(plK n.id d i,.slice a (n.t.ends s d i).length c)/\rowRd B a (nsL (n.t.ends s d i))
theorem Memo.mono{B B':Mem}{root:Nd}{s:List Nat}{es:List (Value×Value)}(h:Memo B root s es)(hB:B.le B'):Memo B' root s es:=λe he=>by
 obtain⟨n,d,i,a,c,h1,h2,h3⟩:=h e he
 exact⟨n,d,i,a,c,h1,h2,h3.mono hB⟩
structure Fin (B:Mem)(fb kb:Nat)(root:Nd)(sa:Option Addr)(s:List Nat)(sc:Nat):Prop where
 str:B fb 0=some (.slice sa s.length sc)
 memo:B fb 3=some (.map (some kb))
 byt:Byt B sa s
 len:s.length<=512
 rep:NRep B root
 ids:∀x∈root.all,∀y∈root.all,x.id=y.id->x=y
 good:∀x∈root.all,x.t.right=true
theorem Fin.mono{B B':Mem}{fb kb:Nat}{root:Nd}{sa:Option Addr}{s:List Nat}{sc:Nat}(h:Fin B fb kb root sa s sc)(hB:B.le B'):Fin B' fb kb root sa s sc:=
 ⟨hB.c _ _ _ h.str,hB.c _ _ _ h.memo,h.byt.mono hB,h.len,NRep.mono hB _ h.rep,h.ids,h.good⟩
theorem Zo4{m:Mem}{kb:Nat}{Z:Nat->Prop}(hz:Z kb):(m.off Z).le (but m kb):=⟨λb o v h=>by
 by_cases e:Z b
 ·rw[Mem.off_free e]at h;cases h
 ·rw[Mem.off_at e]at h
  rw[Zm9 (λh':b=kb=>e (by rw[h'];exact hz))];exact h,λb v h=>by
 by_cases e:Z b
 ·rw[Mem.off_kn e]at h;cases h
 ·rw[Mem.off_k e]at h
  rw[ZzU (λh':b=kb=>e (by rw[h'];exact hz))];exact h⟩
theorem Zo5{m m':Mem}{Z:Nat->Prop}(h:(m.off Z).le m'):(m.off Z).le (m'.off Z):=⟨λb o v hv=>by
 by_cases e:Z b
 ·rw[Mem.off_free e]at hv;cases hv
 ·rw[Mem.off_at e];exact h.c b o v hv,λb v hv=>by
 by_cases e:Z b
 ·rw[Mem.off_kn e]at hv;cases hv
 ·rw[Mem.off_k e];exact h.k b v hv⟩
theorem ZuQ{m m':Mem}{kb:Nat}{Z:Nat->Prop}(hz:Z kb)(h:(but m kb).le m'):(m.off Z).le (m'.off Z):=Zo5 (mLt (Zo4 hz) h)
theorem Zgd{m m':Mem}{Z:Nat->Prop}(h:m.le m'):(m.off Z).le (m'.off Z):=Zo5 (mLt (Mem.off_le _ _) h)
def HasM(m:Mem)(kb:Nat)(Z:Nat->Prop)(root:Nd)(s:List Nat):Prop:=∃es,m.k kb=some es/\Memo (m.off Z) root s es
theorem HasM.le{m m':Mem}{kb:Nat}{Z:Nat->Prop}{root:Nd}{s:List Nat}(h:HasM m kb Z root s)(hm:m.le m'):HasM m' kb Z root s:=by
 obtain⟨es,h1,h2⟩:=h
 exact⟨es,hm.k _ _ h1,h2.mono (Zgd hm)⟩
def ZOk(m:Mem)(kb:Nat)(Z:Nat->Prop):Prop:=Z kb/\∀b,Z b->b=kb\/∃v,m b 0=some v
theorem ZOk.next{m m':Mem}{kb:Nat}{Z:Nat->Prop}(h:ZOk m kb Z)(hm:(but m kb).le m'):ZOk m' kb Z:=⟨h.1,λb hb=>by
 rcases h.2 b hb with e|⟨v,hv⟩
 ·exact .inl e
 ·by_cases e:b=kb
  ·exact .inl e
  ·exact .inr ⟨v,hm.c _ _ _ (by rw[Zm9 e];exact hv)⟩⟩
theorem ZOk.le{m m':Mem}{kb:Nat}{Z:Nat->Prop}(h:ZOk m kb Z)(hm:m.le m'):ZOk m' kb Z:=h.next (mLt (Zik _ _) hm)
theorem ZOk.new{m:Mem}{kb b:Nat}{Z:Nat->Prop}(h:ZOk m kb Z)(hk:∃es,m.k kb=some es)(h1:m.free b)(h2:m.k b=none):¬Z b:=λhb=>by
 rcases h.2 b hb with e|⟨v,hv⟩
 ·subst e
  obtain⟨es,eE⟩:=hk
  rw[eE]at h2;cases h2
 ·rw[h1 0]at hv;cases hv
abbrev PL:=List (Int×Int)
def ZnK(W:Nat->Nat->PL->PL)(E:Nat->List Nat)(len:Nat)(mn mx:Int)(to:Nat):Nat->Nat->Nat->PL->Nat->PL×Nat
 | 0,_,_,P,r=>(P,r)
 | k+1,d,i,P,r=>match(Zch E mn mx d i).find? (λj=>decide (to∈Zkp E mn mx (mR len mn mx (Zbb mn mx d) j+1) (Zbb mn mx d) j))with
  | none=>(P,r)
  | some j=>ZnK W E len mn mx to k (Zbb mn mx d) j (W i j P) (r+1)
mutual
def T.ngr:T->Nat
 | .node k _ _ _ _ _ _ _ _ l=>(if k=6 then 1 else 0)+ZdD l
def ZdD:List T->Nat
 | []=>0
 | t::l=>t.ngr+ZdD l
end
theorem ZxG(t:T):t.ngr=(if t.k=6 then 1 else 0)+ZdD t.subs:=by cases t;rfl
mutual
def T.wk(s:List Nat):T->Nat->Nat->Nat->PL->PL×Nat
 | .node k s0 s1 s2 s3 mn mx a c l=>λg i to P=>
  if k=6 then(hdW s l (g+1) i to (P.set g ((i:Int),(to:Int))),0)
  else if k=4 then(Zju s l g i to P,0)
  else if k=3 then(Zja s l g i to P,0)
  else if k=5 then ZnK (hdW s l g) (hd0 s l) s.length mn mx to (mR s.length mn mx 0 i+1) 0 i P 0
  else(P,0)
def hdW(s:List Nat):List T->Nat->Nat->Nat->PL->PL
 | []=>λ_ _ _ P=>P
 | t::_=>λg i to P=>(t.wk s g i to P).1
def Zju(s:List Nat):List T->Nat->Nat->Nat->PL->PL
 | []=>λ_ _ _ P=>P
 | t::l=>λg i to P=>if to∈t.e0 s i then(t.wk s g i to P).1 else Zju s l (g+t.ngr) i to P
def Zja(s:List Nat):List T->Nat->Nat->Nat->PL->PL
 | []=>λ_ _ _ P=>P
 | t::l=>λg i to P=>match(t.e0 s i).find? (λj=>decide (to∈Zg1 (e0s s l) j))with
  | none=>P
  | some j=>Zja s l (g+t.ngr) j to (t.wk s g i j P).1
end
theorem Zy1(s:List Nat)(t:T)(g i to:Nat)(P:PL):t.wk s g i to P =
  if t.k=6 then(hdW s t.subs (g+1) i to (P.set g ((i:Int),(to:Int))),0)
  else if t.k=4 then(Zju s t.subs g i to P,0)
  else if t.k=3 then(Zja s t.subs g i to P,0)
  else if t.k=5 then ZnK (hdW s t.subs g) (hd0 s t.subs) s.length t.mn t.mx to (mR s.length t.mn t.mx 0 i+1) 0 i P 0
  else(P,0):=by cases t;rfl
theorem ZrU{W:Nat->Nat->PL->PL}(hW:∀i j P,(W i j P).length=P.length){E:Nat->List Nat}{len:Nat}{mn mx:Int}{to:Nat}:∀{k d i:Nat} {P:PL} {r:Nat},(ZnK W E len mn mx to k d i P r).1.length=P.length
 | 0,d,i,P,r=>rfl
 | k+1,d,i,P,r=>by
  unfold ZnK
  split
  ·rfl
  ·rw[ZrU hW,hW]
mutual
theorem Zk8(s:List Nat):∀(t:T)(g i to:Nat)(P:PL),(t.wk s g i to P).1.length=P.length
 | .node k s0 s1 s2 s3 mn mx a c l=>λg i to P=>by
  simp only[T.wk]
  split
  ·rw[ZrV s l];simp
  ·split
   ·exact ZrW s l _ _ _ _
   ·split
    ·exact ZrX s l _ _ _ _
    ·split
     ·exact ZrU λi j P=>ZrV s l _ _ _ _
     ·rfl
theorem ZrV(s:List Nat):∀(l:List T)(g i to:Nat)(P:PL),(hdW s l g i to P).length=P.length
 | []=>λ_ _ _ _=>by simp[hdW]
 | t::_=>λg i to P=>by simp only[hdW];exact Zk8 s t g i to P
theorem ZrW(s:List Nat):∀(l:List T)(g i to:Nat)(P:PL),(Zju s l g i to P).length=P.length
 | []=>λ_ _ _ _=>by simp[Zju]
 | t::l=>λg i to P=>by
  simp only[Zju]
  split
  ·exact Zk8 s t g i to P
  ·exact ZrW s l _ _ _ _
theorem ZrX(s:List Nat):∀(l:List T)(g i to:Nat)(P:PL),(Zja s l g i to P).length=P.length
 | []=>λ_ _ _ _=>by simp[Zja]
 | t::l=>λg i to P=>by
  simp only[Zja]
  split
  ·rfl
  ·rw[ZrX s l,Zk8 s t]
end
theorem Zk9{f:Nat->List Nat}{r:List (Nat->List Nat)}{i to:Nat}:to∈Zg1 (f::r) i↔∃j∈f i,to∈Zg1 r j:=by
 simp only[Zg1]
 rw[ZcU,List.mem_flatMap]
mutual
def Nd.num:Nd->Nat->Prop
 | .mk b id grp t a c l=>λg=>(t.k=6->grp=g)/\ZxH l (g+if t.k=6 then 1 else 0)
def ZxH:List Nd->Nat->Prop
 | []=>λ_=>True
 | x::l=>λg=>x.num g/\ZxH l (g+x.t.ngr)
end
theorem ZxI(n:Nd)(g:Nat):n.num g↔(n.t.k=6->n.grp=g)/\ZxH n.subs (g+if n.t.k=6 then 1 else 0):=by
 cases n;exact Iff.rfl
def PtAt(m:Mem)(pa:Option Addr)(P:PL):Prop:=(P=[]/\pa=none)\/∃b,pa=some ⟨b,0,none⟩/\(∀q p,P[q]?=some p->m b (q*2)=some (.int .i64 p.1)/\m b (q*2+1)=some (.int .i64 p.2))/\P≠[]
theorem PtAt.mono{m m':Mem}{pa:Option Addr}{P:PL}(h:PtAt m pa P)(hm:m.le m'):PtAt m' pa P:=by
 rcases h with h|⟨b,h1,h2,h3⟩
 ·exact .inl h
 ·exact .inr ⟨b,h1,λq p hq=>⟨hm.c _ _ _ (h2 q p hq).1,hm.c _ _ _ (h2 q p hq).2⟩,h3⟩
theorem PtAt.but{m:Mem}{pa:Option Addr}{P:PL}{kb:Nat}(h:PtAt m pa P)(hk:∀b,pa=some ⟨b,0,none⟩->b≠kb):PtAt (but m kb) pa P:=by
 rcases h with h|⟨b,h1,h2,h3⟩
 ·exact .inl h
 ·exact .inr ⟨b,h1,λq p hq=>by rw[Zm9 (hk b h1),Zm9 (hk b h1)];exact h2 q p hq,h3⟩
def Zp(kb:Nat)(pa:Option Addr)(b:Nat):Prop:=b=kb\/pa=some ⟨b,0,none⟩
theorem PtAt.upd{m:Mem}{pa:Option Addr}{P:PL}{b g:Nat}{x y:Int}(h:PtAt m pa P)(hb:pa=some ⟨b,0,none⟩)(hg:g < P.length):PtAt (m.upd b (0+g*2) [.int .i64 x,.int .i64 y]) pa (P.set g (x,y)):=by
 rcases h with⟨h,_⟩|⟨b',h1,h2,h3⟩
 ·subst h;simp at hg
 rw[hb]at h1;cases h1
 refine .inr ⟨b,hb,λq p hq=>?_,by simp[h3]⟩
 rw[Nat.zero_add]
 by_cases e:q=g
 ·subst e
  rw[List.getElem?_set_self hg]at hq
  cases hq
  constructor
  ·show(if b=b/\q*2<=q*2/\q*2 < q*2+2 then _ else _)=_
   rw[if_pos ⟨rfl,by omega,by omega⟩]
   simp
  ·show(if b=b/\q*2<=q*2+1/\q*2+1 < q*2+2 then _ else _)=_
   rw[if_pos ⟨rfl,by omega,by omega⟩]
   simp
 ·rw[List.getElem?_set_ne (Ne.symm e)]at hq
  obtain⟨g1,g2⟩:=h2 q p hq
  constructor
  ·show(if b=b/\g*2<=q*2/\q*2 < g*2+2 then _ else _)=_
   rw[if_neg (by omega)];exact g1
  ·show(if b=b/\g*2<=q*2+1/\q*2+1 < g*2+2 then _ else _)=_
   rw[if_neg (by omega)];exact g2
theorem ZxJ{m:Mem}{Z:Nat->Prop}{b o:Nat}{vs:List Value}(h:Z b):(m.off Z).le ((m.upd b o vs).off Z):=⟨λb' o' v hv=>by
 by_cases e:Z b'
 ·rw[Mem.off_free e]at hv;cases hv
 ·rw[Mem.off_at e]at hv ⊢
  rw[Mem.upd_other m (λh':b'=b=>e (by rw[h'];exact h))];exact hv,λb' v hv=>by
 by_cases e:Z b'
 ·rw[Mem.off_kn e]at hv;cases hv
 ·rw[Mem.off_k e]at hv ⊢;exact hv⟩
theorem ZrY{x:Nd}:∀{l:List Nd} {j g:Nat},ZxH (l.drop j) g->l[j]?=some x->x.num g/\ZxH (l.drop (j+1)) (g+x.t.ngr):=λ{l j g} h hx=>by
 rw[Zih hx]at h
 exact h
mutual
def Nd.idn:Nd->Nat->Prop
 | .mk b id grp t a c l=>λk=>id=k/\Zy2 l (k+1)
def Zy2:List Nd->Nat->Prop
 | []=>λ_=>True
 | x::l=>λk=>x.idn k/\Zy2 l (k+x.t.nodes.length)
end
theorem Zzn(n:Nd)(k:Nat):n.idn k↔n.id=k/\Zy2 n.subs (k+1):=by
 cases n;exact Iff.rfl
theorem ZrZ{x:Nd}:∀{l:List Nd} {g:Nat},ZxH l g->x.num (g+ZdD (l.map Nd.t))->ZxH (l++[x]) g
 | [],g,_,h=>⟨by simpa[ZdD]using h,trivial⟩
 | y::l,g,h1,h=>⟨h1.1,ZrZ h1.2 (by simpa[ZdD,Nat.add_assoc]using h)⟩
theorem Zr0{x:Nd}:∀{l:List Nd} {k:Nat},Zy2 l k->x.idn (k+(Zal (l.map Nd.t)).length)->Zy2 (l++[x]) k
 | [],k,_,h=>⟨by simpa[Zal]using h,trivial⟩
 | y::l,k,h1,h=>⟨h1.1,Zr0 h1.2 (by simpa[Zal,Nat.add_assoc]using h)⟩
theorem Zil{l:List T}{i:Nat}{t:T}(h:l[i]?=some t):ZdD (l.take (i+1))=ZdD (l.take i)+t.ngr:=by
 have app:∀(a b:List T),ZdD (a++b)=ZdD a+ZdD b:=λa b=>by
  induction a with
  | nil=>simp[ZdD]
  | cons x a ih=>simp[ZdD,ih,Nat.add_assoc]
 rw[ZbZ h,app];simp[ZdD]
theorem ZuR{l:List T}{i:Nat}:ZdD (l.take i)<=ZdD l:=by
 induction l generalizing i with
 | nil=>simp[ZdD]
 | cons x l ih=>
  cases i with
  | zero=>simp[ZdD]
  | succ i=>simp only[List.take_succ_cons,ZdD];have:=ih (i:=i);omega
theorem Zo6{l:List T}{i:Nat}:(Zal (l.take i)).length<=(Zal l).length:=by
 induction l generalizing i with
 | nil=>simp[Zal]
 | cons x l ih=>
  cases i with
  | zero=>simp[Zal]
  | succ i=>simp only[List.take_succ_cons,Zal,List.length_append];have:=ih (i:=i);omega
def Nd.ok(n:Nd):Prop:=∀x∈n.all,x.subs.map Nd.t=x.t.subs
theorem ZxK{m:Mem}{n:Nd}(h:NRep m n):n.ok:=λx hx=>(ZdC.1 (ZbF n h x hx)).2.1.2
mutual
theorem ZvS:∀(n:Nd)(k:Nat),(∀x∈n.all,x.subs.map Nd.t=x.t.subs)->n.idn k->∀x∈n.all,k<=x.id/\x.id < k+n.t.nodes.length
 | .mk b id grp t a c l,k,ho,h,x,hx=>by
  obtain⟨rfl,h⟩:=h
  have he:l.map Nd.t=t.subs:=ho (.mk b id grp t a c l) (Zc8 _)
  show id<=x.id/\x.id < id+t.nodes.length
  rw[Zbh t,<-he,List.length_cons]
  simp only[Nd.all,List.mem_cons]at hx
  rcases hx with rfl|hx
  ·show id<=id/\id < _
   omega
  ·have:=Zj6 l (id+1) (λy hy=>ho y (by simp only[Nd.all,List.mem_cons];exact .inr hy)) h x hx
   omega
theorem Zj6:∀(l:List Nd)(k:Nat),(∀x∈ZlM l,x.subs.map Nd.t=x.t.subs)->Zy2 l k->∀x∈ZlM l,k<=x.id/\x.id < k+(Zal (l.map Nd.t)).length
 | [],k,ho,h,x,hx=>by simp[ZlM]at hx
 | y::l,k,ho,h,x,hx=>by
  simp only[ZlM,List.mem_append]at hx ho
  simp only[List.map_cons,Zal,List.length_append]
  rcases hx with hx|hx
  ·have:=ZvS y k (λz hz=>ho z (.inl hz)) h.1 x hx;omega
  ·have:=Zj6 l _ (λz hz=>ho z (.inr hz)) h.2 x hx;omega
end
mutual
theorem ZuS:∀(n:Nd)(k:Nat),(∀x∈n.all,x.subs.map Nd.t=x.t.subs)->n.idn k->∀x∈n.all,∀y∈n.all,x.id=y.id->x=y
 | .mk b id grp t a c l,k,ho,h,x,hx,y,hy,e=>by
  obtain⟨rfl,h⟩:=h
  have ho':∀y∈ZlM l,y.subs.map Nd.t=y.t.subs:=λy hy=>ho y (by simp only[Nd.all,List.mem_cons];exact .inr hy)
  simp only[Nd.all,List.mem_cons]at hx hy
  rcases hx with rfl|hx <;> rcases hy with rfl|hy
  ·rfl
  ·have:=Zj6 l (id+1) ho' h y hy
   have e:id=y.id:=e
   omega
  ·have:=Zj6 l (id+1) ho' h x hx
   have e:x.id=id:=e
   omega
  ·exact Zr1 l _ ho' h x hx y hy e
theorem Zr1:∀(l:List Nd)(k:Nat),(∀x∈ZlM l,x.subs.map Nd.t=x.t.subs)->Zy2 l k->∀x∈ZlM l,∀y∈ZlM l,x.id=y.id->x=y
 | [],k,ho,h,x,hx,y,hy,e=>by simp[ZlM]at hx
 | z::l,k,ho,h,x,hx,y,hy,e=>by
  simp only[ZlM,List.mem_append]at hx hy ho
  rcases hx with hx|hx <;> rcases hy with hy|hy
  ·exact ZuS z k (λz hz=>ho z (.inl hz)) h.1 x hx y hy e
  ·have h1:=ZvS z k (λz hz=>ho z (.inl hz)) h.1 x hx
   have h2:=Zj6 l _ (λz hz=>ho z (.inr hz)) h.2 y hy
   omega
  ·have h1:=ZvS z k (λz hz=>ho z (.inl hz)) h.1 y hy
   have h2:=Zj6 l _ (λz hz=>ho z (.inr hz)) h.2 x hx
   omega
  ·exact Zr1 l _ (λz hz=>ho z (.inr hz)) h.2 x hx y hy e
end
mutual
theorem Zo7:∀(n:Nd),(∀x∈n.all,x.subs.map Nd.t=x.t.subs)->∀x∈n.all,x.t∈n.t.nodes
 | .mk b id grp t a c l,ho,x,hx=>by
  have he:l.map Nd.t=t.subs:=ho (.mk b id grp t a c l) (Zc8 _)
  show x.t∈t.nodes
  rw[Zbh t,<-he]
  simp only[Nd.all,List.mem_cons]at hx
  rcases hx with rfl|hx
  ·exact List.mem_cons_self ..
  ·exact List.mem_cons_of_mem _ (Zmr l (λy hy=>ho y (by simp only[Nd.all,List.mem_cons];exact .inr hy)) x hx)
theorem Zmr:∀(l:List Nd),(∀x∈ZlM l,x.subs.map Nd.t=x.t.subs)->∀x∈ZlM l,x.t∈Zal (l.map Nd.t)
 | [],ho,x,hx=>by simp[ZlM]at hx
 | y::l,ho,x,hx=>by
  simp only[ZlM,List.mem_append]at hx ho
  simp only[List.map_cons,Zal,List.mem_append]
  rcases hx with hx|hx
  ·exact .inl (Zo7 y (λz hz=>ho z (.inl hz)) x hx)
  ·exact .inr (Zmr l (λz hz=>ho z (.inr hz)) x hx)
end
mutual
theorem Zim:∀t:T,t.ngr=t.nodes.countP (λx=>x.k == 6)
 | .node k s0 s1 s2 s3 mn mx a c l=>by
  simp only[T.ngr,T.nodes,List.countP_cons]
  rw[Zms l,Nat.add_comm]
  congr 1
  show(if k=6 then 1 else 0)=if(k == 6)=true then 1 else 0
  by_cases h:k=6 <;> simp[h]
theorem Zms:∀l:List T,ZdD l=(Zal l).countP (λx=>x.k == 6)
 | []=>by simp[ZdD,Zal]
 | t::l=>by simp only[ZdD,Zal,List.countP_append];rw[Zim t,Zms l]
end
def NewP(m:Mem)(pa pa':Option Addr):Prop:=∀b,pa'=some ⟨b,0,none⟩->pa=pa'\/(m.free b/\m.k b=none)
theorem NewP.same{m:Mem}{pa:Option Addr}:NewP m pa pa:=λ_ _=>.inl rfl
theorem ZuT{m M:Mem}{pa pa':Option Addr}{kb:Nat}(hm:(m.off (λb=>pa=some ⟨b,0,none⟩)).le M)(hp:NewP m pa pa'):(m.off (Zp kb pa)).le (M.off (Zp kb pa')):=by
 have key:∀b,¬Zp kb pa b->(m.free b/\m.k b=none)\/¬Zp kb pa' b:=λb hb=>by
  by_cases e:Zp kb pa' b
  ·rcases e with e|e
   ·exact absurd (.inl e) hb
   ·rcases hp b e with h|h
    ·exact absurd (.inr (h.trans e)) hb
    ·exact .inl h
  ·exact .inr e
 refine⟨λb o v hv=>?_,λb e he=>?_⟩
 ·by_cases hb:Zp kb pa b
  ·rw[Mem.off_free hb]at hv;cases hv
  rw[Mem.off_at hb]at hv
  rcases key b hb with⟨h,_⟩|h
  ·rw[h o]at hv;cases hv
  ·rw[Mem.off_at h]
   refine hm.c _ _ _ ?_
   rw[Mem.off_at (λe=>hb (.inr e))];exact hv
 ·by_cases hb:Zp kb pa b
  ·rw[Mem.off_kn hb]at he;cases he
  rw[Mem.off_k hb]at he
  rcases key b hb with⟨_,h⟩|h
  ·rw[h]at he;cases he
  ·rw[Mem.off_k h]
   refine hm.k _ _ ?_
   rw[Mem.off_k (λe=>hb (.inr e))];exact he
theorem NewP.trans{m M:Mem}{pa pa1 pa2:Option Addr}{kb:Nat}(h1:NewP m pa pa1)(h2:NewP M pa1 pa2)(hm:(m.off (Zp kb pa)).le (M.off (Zp kb pa1)))(hk:∃es,M.k kb=some es):NewP m pa pa2:=λb hb=>by
 rcases h2 b hb with h|⟨h3,h4⟩
 ·rcases h1 b (h.trans hb)with h'|h'
  ·exact .inl (h'.trans h)
  ·exact .inr h'
 ·by_cases e:pa=some ⟨b,0,none⟩
  ·exact .inl (e.trans hb.symm)
  obtain⟨es,eE⟩:=hk
  have hz:¬Zp kb pa b:=λhz=>by
   rcases hz with rfl|hz
   ·rw[eE]at h4;cases h4
   ·exact e hz
  refine .inr ⟨λo=>?_,?_⟩
  ·cases hv:m b o with
   | none=>rfl
   | some v=>
    have:=(Mem.off_le _ _).c _ _ _ (hm.c b o v (by rw[Mem.off_at hz];exact hv))
    rw[h3 o]at this;cases this
  ·cases hv:m.k b with
   | none=>rfl
   | some v=>
    have:=(Mem.off_le _ _).k _ _ (hm.k b v (by rw[Mem.off_k hz];exact hv))
    rw[h4]at this;cases this
def SubsAt(m:Mem)(Z:Nat->Prop)(a:Option Addr)(L:List Nd):Prop:=(L=[]/\a=none)\/∃b,a=some ⟨b,0,none⟩/\¬Z b/\m.reads b 0 (L.map λx=>ptr x.b 0)/\L≠[]
theorem SubsAt.next{m M:Mem}{Z Z':Nat->Prop}{a:Option Addr}{L:List Nd}(h:SubsAt m Z a L)(hm:(m.off Z).le (M.off Z')):SubsAt M Z' a L:=by
 rcases h with h|⟨b,h1,h2,h3,h4⟩
 ·exact .inl h
 have g:∀j v,(L.map λx=>ptr x.b 0)[j]?=some v->(M.off Z') b (0+j)=some v:=λj v hj=>hm.c _ _ _ (by rw[Mem.off_at h2];exact h3 j v hj)
 have hz:¬Z' b:=λhz=>by
  cases L with
  | nil=>exact h4 rfl
  | cons x l=>
   have:=g 0 _ rfl
   rw[Mem.off_free hz]at this;cases this
 exact .inr ⟨b,h1,hz,λj v hj=>(Mem.off_le _ _).c _ _ _ (g j v hj),h4⟩
theorem SubsAt.row{m:Mem}{Z:Nat->Prop}{a:Option Addr}{L:List Nd}(h:SubsAt m Z a L):rowRd m a (L.map λx=>ptr x.b 0):=by
 rcases h with⟨rfl,_⟩|⟨b,h1,_,h3,_⟩
 ·exact .inl rfl
 ·exact .inr ⟨b,0,h1,h3⟩
theorem ZuU{m:Mem}{b0:Nat}:∀{L:List Nd} {o:Nat},m.reads b0 o (L.map λx=>ptr x.b 0)->(∀x∈L,NRep m x)->NRow m b0 o L
 | [],_,_,_=>by simp only[NRow]
 | x::L,o,h1,h2=>by
  simp only[NRow]
  refine⟨h1 0 _ rfl,h2 x (by simp),ZuU (λj v hj=>?_) λy hy=>h2 y (by simp[hy])⟩
  have:=h1 (j+1) v (by simpa using hj)
  rwa [show o+1+j=o+(j+1) by omega]
theorem SubsAt.rep{m:Mem}{Z:Nat->Prop}{a:Option Addr}{L:List Nd}(h:SubsAt m Z a L)(hr:∀x∈L,NRep (m.off Z) x):L=[]\/∃b0 o,a=some ⟨b0,o,none⟩/\NRow (m.off Z) b0 o L:=by
 rcases h with⟨h,_⟩|⟨b,h1,h2,h3,h4⟩
 ·exact .inl h
 ·exact .inr ⟨b,0,h1,ZuU (λj v hj=>by rw[Mem.off_at h2];exact h3 j v hj) hr⟩
def Zeq(len:Nat)(p:Int×Int):Prop:=p=(-1,-1)\/(0<=p.1/\p.1<=p.2/\p.2<=len)
theorem ZuV{W:Nat->Nat->PL->PL}{E:Nat->List Nat}{len:Nat}{mn mx:Int}{to:Nat}(hE:Zc6 len E)(hW:∀i j P,i<=len->j∈E i->(∀p∈P,Zeq len p)->∀p∈W i j P,Zeq len p):∀{k d i:Nat} {P:PL} {r:Nat},i<=len->(∀p∈P,Zeq len p)->∀p∈(ZnK W E len mn mx to k d i P r).1,Zeq len p
 | 0,d,i,P,r,_,hP=>hP
 | k+1,d,i,P,r,hi,hP=>by
  unfold ZnK
  split
  ·exact hP
  ·rename_i j hj
   obtain⟨_,h1,_⟩:=Za8 (List.mem_of_find?_eq_some hj)
   exact ZuV hE hW (hE i hi j h1).2 (hW i j P hi h1 hP)
mutual
theorem ZxL(s:List Nat):∀(t:T)(g i to:Nat)(P:PL),i<=s.length->to∈t.e0 s i->(∀p∈P,Zeq s.length p)->∀p∈(t.wk s g i to P).1,Zeq s.length p
 | .node k s0 s1 s2 s3 mn mx a c l=>λg i to P hi ht hP=>by
  have hw:=ZaO s (.node k s0 s1 s2 s3 mn mx a c l) i hi to ht
  simp only[T.wk]
  split
  ·rename_i h6
   subst h6
   refine ZxM s l _ i to _ hi ?_ λp hp=>?_
   ·simp only[T.e0]at ht
    have ht:to∈ddp (hd0 s l i):=ht
    exact ZcU.1 ht
   ·rcases List.mem_or_eq_of_mem_set hp with h|h
    ·exact hP p h
    ·rw[h];exact .inr ⟨Int.natCast_nonneg i,by show(i:Int)<=to;omega,by show(to:Int)<=s.length;omega⟩
  ·split
   ·exact ZuW s l _ i to _ hi hP
   ·split
    ·exact ZuX s l _ i to _ hi hP
    ·split
     ·exact ZuV (Za4 s l) (λi j P hi hj hP=>ZxM s l _ i j _ hi hj hP) hi hP
     ·exact hP
theorem ZxM(s:List Nat):∀(l:List T)(g i to:Nat)(P:PL),i<=s.length->to∈hd0 s l i->(∀p∈P,Zeq s.length p)->∀p∈hdW s l g i to P,Zeq s.length p
 | []=>λ_ _ _ _ _ h hP=>by simp[hd0]at h
 | t::_=>λg i to P hi h hP=>by simp only[hdW];exact ZxL s t g i to P hi (by simpa[hd0]using h) hP
theorem ZuW(s:List Nat):∀(l:List T)(g i to:Nat)(P:PL),i<=s.length->(∀p∈P,Zeq s.length p)->∀p∈Zju s l g i to P,Zeq s.length p
 | []=>λ_ _ _ _ _ hP=>by simpa[Zju]using hP
 | t::l=>λg i to P hi hP=>by
  simp only[Zju]
  split
  ·rename_i h;exact ZxL s t g i to P hi h hP
  ·exact ZuW s l _ i to P hi hP
theorem ZuX(s:List Nat):∀(l:List T)(g i to:Nat)(P:PL),i<=s.length->(∀p∈P,Zeq s.length p)->∀p∈Zja s l g i to P,Zeq s.length p
 | []=>λ_ _ _ _ _ hP=>by simpa[Zja]using hP
 | t::l=>λg i to P hi hP=>by
  simp only[Zja]
  split
  ·exact hP
  ·rename_i j hj
   have h1:=List.mem_of_find?_eq_some hj
   exact ZuX s l _ j to _ (ZaO s t i hi j h1).2 (ZxL s t g i j P hi h1 hP)
end
def ZcV(t:T)(n:Nat):Int:=if t.check≠0 then 140 else if 512 < n then 3 else 0
theorem Zr2{t:T}{n:Nat}(h:ZcV t n=0):t.check=0/\n<=512:=by
 unfold ZcV at h
 split at h
 ·cases h
 ·rename_i h1
  split at h
  ·cases h
  ·exact⟨Classical.not_not.1 h1,by omega⟩
theorem Zdv{t:T}{n:Nat}(h1:t.check=0)(h2:n<=512):ZcV t n=0:=by unfold ZcV;rw[if_neg (by simp[h1]),if_neg (by omega)]
def Znb(t:T)(s:List Nat):PL×Nat:=t.wk s 0 0 s.length (List.replicate t.ngr (-1,-1))
def ZuY(t:T)(s:List Nat)(i:Int):List Nat×Int:=if ZcV t s.length≠0 then([],ZcV t s.length)else if i < 0\/i > s.length then([],2)else(t.e0 s i.toNat,0)
def ZbG(t:T)(s:List Nat):PL×Int:=if ZcV t s.length≠0 then([],ZcV t s.length)else if s.length∈t.e0 s 0 then((Znb t s).1,0)else([],141)
def ZtE(t:T)(s:List Nat):Nat×Int:=if ZcV t s.length≠0 then(0,ZcV t s.length)else if t.k≠5 then(0,2)else if s.length∈t.e0 s 0 then((Znb t s).2,0)else(0,141)
def ZwX(s:List Nat)(p:Int×Int):List Nat:=(s.take p.2.toNat).drop p.1.toNat
def ZwY(t:T)(s:List Nat):List (List Nat)×Int:=if(ZbG t s).2≠0 then([],(ZbG t s).2)else(s::(ZbG t s).1.map (ZwX s),0)
theorem ZnU(t:T)(s:List Nat):(Znb t s).1.length=t.ngr:=by unfold Znb;rw[Zk8];simp
theorem ZxN{t:T}{s:List Nat}(h:s.length∈t.e0 s 0):∀p∈(Znb t s).1,Zeq s.length p:=ZxL s t 0 0 _ _ (by omega) h λp hp=>.inl (List.eq_of_mem_replicate hp)
theorem ZuZ{t:T}{s:List Nat}:∀p∈(ZbG t s).1,Zeq s.length p:=by
 unfold ZbG
 split
 ·intro p hp;simp at hp
 ·split
  ·rename_i h;exact ZxN h
  ·intro p hp;simp at hp
end Go.Rx
namespace Go.Rx
open Go Go.Eng Go.RowKit
set_option maxRecDepth 100000
theorem Zfi{t:T}(h:t.good=true):t.right=true/\∀x∈t.subs,x.good=true:=by
 rw[Zj4,Bool.and_eq_true,List.all_eq_true]at h;exact h
theorem ZfK{t:T}(h:t.right=true):t.k=1\/t.k=2\/t.k=3\/t.k=4\/(t.k=5/\(∃x,t.subs=[x])/\0<=t.mn/\t.mn<=16/\(t.mx=-1\/(1<=t.mx/\t.mn<=t.mx/\t.mx<=16)))\/(t.k=6/\∃x,t.subs=[x]):=by
 have one:(t.subs.length == 1)=true->∃x,t.subs=[x]:=λe=>by
  have:t.subs.length=1:=by simpa using e
  match bV:t.subs,this with
  | [x],_=>exact⟨x,rfl⟩
 unfold T.right at h
 rw[Bool.and_eq_true]at h
 have h:=h.2
 by_cases h1:t.k=1
 ·exact .inl h1
 by_cases h2:t.k=2
 ·exact .inr (.inl h2)
 by_cases h3:t.k=3
 ·exact .inr (.inr (.inl h3))
 by_cases h4:t.k=4
 ·exact .inr (.inr (.inr (.inl h4)))
 by_cases h5:t.k=5
 ·rw[if_neg h1,if_neg h2,if_neg h3,if_neg h4,if_pos h5]at h
  rw[Bool.and_eq_true,Bool.and_eq_true]at h
  obtain⟨a,b,_⟩:=h
  unfold Zif at b
  simp at b
  exact .inr (.inr (.inr (.inr (.inl ⟨h5,one a,by omega,by omega,by omega⟩))))
 ·rw[if_neg h1,if_neg h2,if_neg h3,if_neg h4,if_neg h5,Bool.and_eq_true]at h
  exact .inr (.inr (.inr (.inr (.inr ⟨by simpa using h.1,one h.2⟩))))
mutual
def T.er:T->T
 | .node k s0 s1 s2 s3 mn mx _ _ l=>.node k s0 s1 s2 s3 mn mx none 0 (erL l)
def erL:List T->List T
 | []=>[]
 | t::l=>t.er::erL l
end
theorem Zo8:∀l:List T,erL l=l.map T.er
 | []=>rfl
 | t::l=>by simp only[erL,List.map_cons,Zo8 l]
@[simp] theorem ZAr (t:T):t.er.k=t.k:=by cases t;rfl
@[simp] theorem ZAs (t:T):t.er.s0=t.s0:=by cases t;rfl
@[simp] theorem ZAt (t:T):t.er.s1=t.s1:=by cases t;rfl
@[simp] theorem ZAu (t:T):t.er.s2=t.s2:=by cases t;rfl
@[simp] theorem ZAv (t:T):t.er.s3=t.s3:=by cases t;rfl
@[simp] theorem ZAw (t:T):t.er.mn=t.mn:=by cases t;rfl
@[simp] theorem ZAx (t:T):t.er.mx=t.mx:=by cases t;rfl
@[simp] theorem Zu0 (t:T):t.er.subs=t.subs.map T.er:=by cases t;simp only[T.er,T.subs,Zo8]
mutual
theorem Zjb:∀t:T,t.er.nodes=t.nodes.map T.er
 | .node k s0 s1 s2 s3 mn mx a c l=>by
  simp only[T.er,T.nodes,List.map_cons]
  rw[Zo9 l]
theorem Zo9:∀l:List T,Zal (erL l)=(Zal l).map T.er
 | []=>rfl
 | t::l=>by simp only[erL,Zal,List.map_append,Zjb t,Zo9 l]
end
theorem Zzo(t:T)(k:Int):t.er.has k=t.has k:=by
 unfold T.has;rw[Zu0,List.any_map];congr 1;funext x;simp
theorem ZvT(t:T):t.er.right=t.right:=by
 unfold T.right T.setZ
 simp only[Zzo,ZAr,ZAs,ZAt,ZAu,ZAv,ZAw,ZAx,Zu0,List.length_map]
theorem Zla(t:T):t.er.light=t.light:=by unfold T.light;rw[Zjb,List.length_map]
theorem Zzp(l:List T):(l.map T.er).all T.right=l.all T.right:=by
 rw[List.all_map];congr 1;funext x;exact ZvT x
theorem ZnV(t:T):t.er.clean=t.clean:=by unfold T.clean;rw[Zla,Zjb,Zzp]
theorem ZxO(t:T):t.er.size=t.size:=by unfold T.size;rw[Zla,Zjb,List.length_map]
theorem ZtF(t:T):t.er.groups=t.groups:=by
 unfold T.groups;rw[Zla,Zjb,List.countP_map]
 have:((λx:T=>x.k == 6)∘T.er)=λx:T=>x.k == 6:=by funext x;simp
 rw[this]
mutual
theorem ZxP:∀t:T,t.er.pos=t.pos
 | .node k s0 s1 s2 s3 mn mx a c l=>by simp only[T.er,T.pos,Zu1 l]
theorem Zu1:∀l:List T,ZeK (erL l)=ZeK l
 | []=>rfl
 | t::l=>by simp only[erL,ZeK,ZxP t,Zu1 l]
end
theorem Znc(t:T):t.er.positions=t.positions:=by unfold T.positions;rw[Zla,ZxP]
theorem ZnW(t:T):t.er.check=t.check:=by unfold T.check;rw[ZnV,ZxO,Znc,ZtF]
def T.caps(t:T):Prop:=∀x∈t.nodes,x.subs.length<=x.c
theorem Zpa{k s0 s1 s2 s3 mn mx:Int}{a:Option Addr}{c:Nat}{l:List T}(h:l.length<=c)(hl:∀x∈l,x.caps):(T.node k s0 s1 s2 s3 mn mx a c l).caps:=by
 intro y hy
 rw[Zbh]at hy
 rcases List.mem_cons.1 hy with rfl|hy
 ·exact h
 ·obtain⟨x,hx,hy⟩:∃x∈l,y∈x.nodes:=by
   have:∀l:List T,y∈Zal l->∃x∈l,y∈x.nodes:=λl=>by
    induction l with
    | nil=>intro h;simp[Zal]at h
    | cons x l ih=>
     intro h
     simp only[Zal,List.mem_append]at h
     rcases h with h|h
     ·exact⟨x,by simp,h⟩
     ·obtain⟨z,hz,h⟩:=ih h
      exact⟨z,by simp[hz],h⟩
   exact this l hy
  exact hl x hx y hy
theorem ZvU{t u:T}(h:t.er=u.er):t.check=u.check:=by rw[<-ZnW t,h,ZnW]
theorem ZvV{t u:T}(h:t.er=u.er):t.clean=u.clean:=by rw[<-ZnV t,h,ZnV]
theorem ZxQ{k s0 s1 s2 s3 mn mx:Int}{a a':Option Addr}{c c':Nat}{l l':List T}(h:l.map T.er=l'.map T.er):(T.node k s0 s1 s2 s3 mn mx a c l).er=(T.node k s0 s1 s2 s3 mn mx a' c' l').er:=by
 simp only[T.er,Zo8,h]
def Zzq(t t':T):Prop:=((t.clean=true/\t'.er=t.er)\/(t.clean=false/\t'=T0))/\t'.caps
theorem ZxR:T0.caps:=Zpa (by simp) (by simp)
def ZAy(k:Int)(a:Option Addr)(c:Nat)(u:T):List T->T->Prop
 | [],t'=>t'=u
 | [x],t'=>Zzq x t'
 | x::y::l,t'=>Zzq (Zas k 0 0 a c (x::y::l)) t'
def Zj7(k w:Int)(x:T):List T:=if x.k=k then x.subs else if x.k=w then[]else[x]
def Zfj(k w:Int)(L:List T):List T:=(L.map (Zj7 k w)).flatten
theorem ZqU(k w:Int)(L:List T)(x:T):Zfj k w (L++[x])=Zfj k w L++Zj7 k w x:=by simp[Zfj]
theorem Zlb(k w:Int):∀(L:List T),(∀x∈L,x.subs.length<=10000)->(Zfj k w L).length<=L.length*10001
 | [],_=>by simp[Zfj]
 | x::L,h=>by
  have ih:=Zlb k w L λy hy=>h y (by simp[hy])
  have hx:=h x (by simp)
  have h1:(Zj7 k w x).length<=10001:=by
   unfold Zj7
   split
   ·omega
   ·split <;> simp
  have e:(Zfj k w (x::L)).length=(Zj7 k w x).length+(Zfj k w L).length:=by simp[Zfj]
  rw[e,List.length_cons]
  omega
theorem ZxS{t:T}(h:t.clean=true):t.k≠0:=by
 have hg:t.good=true:=by
  unfold T.clean at h
  rw[Bool.and_eq_true]at h
  exact h.2
 have:=(Zfi hg).1
 rcases ZfK this with h|h|h|h|⟨h,_⟩|⟨h,_⟩ <;> omega
theorem Zj8{t:T}(h:t.clean=true):t.nodes.length<=10000:=by
 unfold T.clean T.light at h
 rw[Bool.and_eq_true]at h
 exact of_decide_eq_true h.1
end Go.Rx
namespace Go.Rx
open Go Go.Eng Go.RowKit
mutual
theorem Zlc:∀t:T,t.er.ngr=t.ngr
 | .node k s0 s1 s2 s3 mn mx a c l=>by simp only[T.er,T.ngr,Zu2 l]
theorem Zu2:∀l:List T,ZdD (erL l)=ZdD l
 | []=>rfl
 | t::l=>by simp only[erL,ZdD,Zlc t,Zu2 l]
end
mutual
theorem Zin(s:List Nat):∀t:T,t.er.e0 s=t.e0 s
 | .node k s0 s1 s2 s3 mn mx a c l=>by
  funext i
  have hc:Zy0 (.node k s0 s1 s2 s3 mn mx none 0 (erL l)) s i=Zy0 (.node k s0 s1 s2 s3 mn mx a c l) s i:=rfl
  simp only[T.er,T.e0,hc,ZxT s l,Zu3 s l,ZvW s l]
theorem ZxT(s:List Nat):∀l:List T,hd0 s (erL l)=hd0 s l
 | []=>rfl
 | t::l=>by funext i;simp only[erL,hd0,Zin s t]
theorem Zu3(s:List Nat):∀l:List T,Zqa s (erL l)=Zqa s l
 | []=>rfl
 | t::l=>by funext i;simp only[erL,Zqa,Zin s t,Zu3 s l]
theorem ZvW(s:List Nat):∀l:List T,e0s s (erL l)=e0s s l
 | []=>rfl
 | t::l=>by simp only[erL,e0s,Zin s t,ZvW s l]
end
mutual
theorem ZxU(s:List Nat):∀t:T,t.er.wk s=t.wk s
 | .node k s0 s1 s2 s3 mn mx a c l=>by
  funext g i to P
  simp only[T.er,T.wk,Zzr s l,Zu4 s l,Zu5 s l,ZxT s l]
theorem Zzr(s:List Nat):∀l:List T,hdW s (erL l)=hdW s l
 | []=>rfl
 | t::l=>by funext g i to P;simp only[erL,hdW,ZxU s t]
theorem Zu4(s:List Nat):∀l:List T,Zju s (erL l)=Zju s l
 | []=>rfl
 | t::l=>by funext g i to P;simp only[erL,Zju,ZxU s t,Zu4 s l,Zin s t,Zlc t]
theorem Zu5(s:List Nat):∀l:List T,Zja s (erL l)=Zja s l
 | []=>rfl
 | t::l=>by funext g i to P;simp only[erL,Zja,ZxU s t,Zu5 s l,Zin s t,Zlc t,ZvW s l]
end
theorem ZnX(t:T)(n:Nat):ZcV t.er n=ZcV t n:=by unfold ZcV;rw[ZnW]
theorem ZxV(t:T)(s:List Nat)(i:Int):ZuY t.er s i=ZuY t s i:=by unfold ZuY;rw[ZnX,Zin]
theorem Zj9(t:T)(s:List Nat):Znb t.er s=Znb t s:=by unfold Znb;rw[ZxU,Zlc]
theorem Zr3(t:T)(s:List Nat):ZbG t.er s=ZbG t s:=by unfold ZbG;rw[ZnX,Zin,Zj9]
theorem ZxW(t:T)(s:List Nat):ZtE t.er s=ZtE t s:=by unfold ZtE;rw[ZnX,Zin,Zj9,ZAr]
theorem ZxX(t:T)(s:List Nat):ZwY t.er s=ZwY t s:=by unfold ZwY;rw[Zr3]
theorem Zjc{t:T}(h:t.check=0):t.groups=t.ngr:=by
 unfold T.check at h
 split at h
 ·exact absurd h (by decide)
 ·rename_i hc
  have hc':t.clean=true:=by simpa using hc
  unfold T.clean at hc'
  rw[Bool.and_eq_true]at hc'
  unfold T.groups
  rw[if_pos hc'.1,Zim]
theorem ZxY{α:Type}(A P:List α)(g:Nat)(x:α):(A++P).set (A.length+g) x=A++P.set g x:=by
 induction A with
 | nil=>simp
 | cons a A ih=>rw[List.cons_append,show(a::A).length+g=(A.length+g)+1 by simp;omega,List.set_cons_succ,ih];rfl
theorem Zr4(A:PL){W W':Nat->Nat->PL->PL}(hW:∀i j P,W' i j (A++P)=A++W i j P){E:Nat->List Nat}{len:Nat}{mn mx:Int}{to:Nat}:∀{k d i:Nat} {P:PL} {r:Nat},ZnK W' E len mn mx to k d i (A++P) r=(A++(ZnK W E len mn mx to k d i P r).1,(ZnK W E len mn mx to k d i P r).2)
 | 0,d,i,P,r=>rfl
 | k+1,d,i,P,r=>by
  unfold ZnK
  split
  ·rfl
  ·rw[hW,Zr4 A hW]
mutual
theorem ZtG(s:List Nat)(A:PL):∀(t:T)(g i to:Nat)(P:PL),t.wk s (A.length+g) i to (A++P)=(A++(t.wk s g i to P).1,(t.wk s g i to P).2)
 | .node k s0 s1 s2 s3 mn mx a c l=>λg i to P=>by
  simp only[T.wk]
  split
  ·rw[ZxY,Nat.add_assoc,Zr5 s A l]
  ·split
   ·rw[Zr6 s A l]
   ·split
    ·rw[Zr7 s A l]
    ·split
     ·exact Zr4 A λi j P=>Zr5 s A l g i j P
     ·rfl
theorem Zr5(s:List Nat)(A:PL):∀(l:List T)(g i to:Nat)(P:PL),hdW s l (A.length+g) i to (A++P)=A++hdW s l g i to P
 | []=>λ_ _ _ _=>by simp[hdW]
 | t::_=>λg i to P=>by simp only[hdW,ZtG s A t]
theorem Zr6(s:List Nat)(A:PL):∀(l:List T)(g i to:Nat)(P:PL),Zju s l (A.length+g) i to (A++P)=A++Zju s l g i to P
 | []=>λ_ _ _ _=>by simp[Zju]
 | t::l=>λg i to P=>by
  simp only[Zju]
  split
  ·rw[ZtG s A t]
  ·rw[Nat.add_assoc,Zr6 s A l]
theorem Zr7(s:List Nat)(A:PL):∀(l:List T)(g i to:Nat)(P:PL),Zja s l (A.length+g) i to (A++P)=A++Zja s l g i to P
 | []=>λ_ _ _ _=>by simp[Zja]
 | t::l=>λg i to P=>by
  simp only[Zja]
  split
  ·rfl
  ·rw[ZtG s A t,Nat.add_assoc,Zr7 s A l]
end
theorem ZvX{α:Type}(P B:List α)(g:Nat)(x:α)(h:g < P.length):(P++B).set g x=P.set g x++B:=by
 rw[List.set_append_left _ _ h]
theorem ZtH{t t':T}{a:Option Addr}{c:Nat}{s:List Nat}(he:t'.er=(Zas 6 0 0 a c [t]).er):Znb t' s=(((0:Int),(s.length:Int))::(Znb t s).1,0)/\(s.length∈t'.e0 s 0↔s.length∈t.e0 s 0)/\t'.ngr=t.ngr+1:=by
 have h0:t'.ngr=t.ngr+1:=by
  rw[<-Zlc,he,Zlc]
  show(if(6:Int)=6 then 1 else 0)+(t.ngr+0)=_
  rw[if_pos rfl];omega
 refine⟨?_,?_,h0⟩
 ·have e1:Znb t' s=Znb (Zas 6 0 0 a c [t]) s:=by rw[<-Zj9,he,Zj9]
  rw[e1]
  unfold Znb
  have hn:(Zas 6 0 0 a c [t]).ngr=t.ngr+1:=by rw[<-h0,<-Zlc t',he,Zlc]
  rw[hn,Zy1]
  show(if(6:Int)=6 then _ else _)=_
  rw[if_pos rfl]
  have hs:(List.replicate (t.ngr+1) ((-1:Int),(-1:Int))).set 0 (((0:Nat):Int),(s.length:Int))=[((0:Int),(s.length:Int))]++List.replicate t.ngr (-1,-1):=rfl
  rw[hs]
  have:=Zr5 s [((0:Int),(s.length:Int))] [t] 0 0 s.length (List.replicate t.ngr (-1,-1))
  refine Prod.ext (this.trans ?_) rfl
  simp only[hdW];rfl
 ·have e1:t'.e0 s 0=(Zas 6 0 0 a c [t]).e0 s 0:=by rw[<-Zin,he,Zin]
  rw[e1]
  have e2:(Zas 6 0 0 a c [t]).e0 s 0=ddp (hd0 s [t] 0):=by unfold Zas;simp[T.e0]
  rw[e2,ZcU]
  simp[hd0]
theorem Zpb{t t':T}{a:Option Addr}{c:Nat}{s:List Nat}(he:t'.er=(Zas 6 0 0 a c [t]).er)(hc:t'.check=0)(ht:(ZbG t s).2=0):ZbG t' s=(((0:Int),(s.length:Int))::(ZbG t s).1,0):=by
 obtain⟨h1,h2,_⟩:=ZtH (s:=s) he
 by_cases hw:ZcV t s.length=0
 ·have hw':ZcV t' s.length=0:=Zdv hc (Zr2 hw).2
  by_cases hi:s.length∈t.e0 s 0
  ·have e:ZbG t s=((Znb t s).1,0):=by unfold ZbG;rw[if_neg (by simp[hw]),if_pos hi]
   unfold ZbG at e ⊢
   rw[e,if_neg (by simp[hw']),if_pos (h2.2 hi),h1]
  ·have e:ZbG t s=([],141):=by unfold ZbG;rw[if_neg (by simp[hw]),if_neg hi]
   rw[e]at ht;cases ht
 ·have e:ZbG t s=([],ZcV t s.length):=by unfold ZbG;rw[if_pos hw]
  rw[e]at ht;exact absurd ht hw
theorem ZxZ{t:T}{s:List Nat}(h:ZcV t s.length=0):((ZbG t s).2=0/\s.length∈t.e0 s 0/\(ZbG t s).1=(Znb t s).1)\/(ZbG t s=([],141)/\s.length ∉ t.e0 s 0):=by
 unfold ZbG
 rw[if_neg (by simp[h])]
 by_cases hi:s.length∈t.e0 s 0
 ·rw[if_pos hi];exact .inl ⟨rfl,hi,rfl⟩
 ·rw[if_neg hi];exact .inr ⟨rfl,hi⟩
structure Bad (t:T):Prop where
 k:t.k≠0
 no:t.check≠0
def Zzs(len:Nat)(i:Int):Int:=if(len:Int) > 512 then 3 else if i < 0\/i > len then 2 else 0
structure Says (t:T)(len:Nat)(i:Int)(e:Int):Prop where
 one:t.wrong len i=e
 rg:Rg.wrong ⟨false,false,t⟩ len i=e
 all:Zzm [⟨false,false,t⟩] len i=e
theorem Zft{t:T}(h:t.check=0)(len:Nat)(i:Int):t.wrong len i=Zzs len i:=by
 unfold T.wrong Zzs
 rw[h];simp
structure Asks (k:Nat)(t:T)(len:Nat)(i e:Int):Prop where
 here:Says t len i e
 zero:k<=1->Says t len 0 e
 no:e≠0
 len:len<=513
abbrev Re:=Nat->Nat->Prop
def pow(R:Re):Nat->Re
 | 0=>λi j=>i=j
 | n+1=>λi j=>∃m,R i m/\pow R n m j
theorem Zr8(R:Re):∀(a b i j:Nat),pow R (a+b) i j↔∃m,pow R a i m/\pow R b m j
 | 0,b,i,j=>by simp[pow]
 | a+1,b,i,j=>by
  rw[show a+1+b=(a+b)+1 by omega]
  constructor
  ·rintro⟨m,h1,h2⟩
   obtain⟨k,h3,h4⟩:=(Zr8 R a b m j).1 h2
   exact⟨k,⟨m,h1,h3⟩,h4⟩
  ·rintro⟨k,⟨m,h1,h3⟩,h4⟩
   exact⟨m,h1,(Zr8 R a b m j).2 ⟨k,h3,h4⟩⟩
theorem Zld(R:Re)(n i j:Nat):pow R (n+1) i j↔∃m,pow R n i m/\R m j:=by
 rw[Zr8 R n 1];simp[pow]
mutual
def T.M(s:List Nat):T->Re
 | .node k s0 s1 s2 s3 mn mx a c l=>λi j=>
  if k=1 then i=j else if k=2 then j=i+1/\∃b,s[i]?=some b/\(T.node k s0 s1 s2 s3 mn mx a c l).hasB b=true
  else if k=3 then MC s l i j else if k=4 then MA s l i j
  else if k=5 then ∃n:Nat,mn.toNat<=n/\(mx=-1\/n<=mx.toNat)/\pow (MH s l) n i j
  else if k=6 then MH s l i j else False
def MC(s:List Nat):List T->Re
 | []=>λi j=>i=j
 | t::l=>λi j=>∃m,t.M s i m/\MC s l m j
def MA(s:List Nat):List T->Re
 | []=>λ_ _=>False
 | t::l=>λi j=>t.M s i j\/MA s l i j
def MH(s:List Nat):List T->Re
 | []=>λi j=>i=j
 | t::_=>t.M s
end
def ZgH(back:Bool)(R:Re)(f:Nat)(j:Nat):Prop:=∃i,f.testBit i=true/\(if back then R j i else R i j)
def Zgt(s:List Nat)(back:Bool)(g:Nat->Nat)(R:Re):Prop:=∀f,f < ZcC->∀j,(g f).testBit j=true↔ZgH back R f j
theorem Zx0{back:Bool}{R Q:Re}{f j:Nat}:ZgH back (λa b=>R a b\/Q a b) f j↔ZgH back R f j\/ZgH back Q f j:=by
 unfold ZgH
 cases back <;> constructor <;> rintro h
 ·obtain⟨i,h1,h2|h2⟩:=h
  ·exact .inl ⟨i,h1,h2⟩
  ·exact .inr ⟨i,h1,h2⟩
 ·rcases h with⟨i,h1,h2⟩|⟨i,h1,h2⟩
  ·exact⟨i,h1,.inl h2⟩
  ·exact⟨i,h1,.inr h2⟩
 ·obtain⟨i,h1,h2|h2⟩:=h
  ·exact .inl ⟨i,h1,h2⟩
  ·exact .inr ⟨i,h1,h2⟩
 ·rcases h with⟨i,h1,h2⟩|⟨i,h1,h2⟩
  ·exact⟨i,h1,.inl h2⟩
  ·exact⟨i,h1,.inr h2⟩
theorem Zpc(back:Bool)(f j:Nat):ZgH back (λa b=>a=b) f j↔f.testBit j=true:=by
 unfold ZgH
 cases back <;> constructor
 ·rintro⟨i,h1,h2⟩;simp at h2;subst h2;exact h1
 ·intro h;exact⟨j,h,by simp⟩
 ·rintro⟨i,h1,h2⟩;simp at h2;subst h2;exact h1
 ·intro h;exact⟨j,h,by simp⟩
theorem ZtI{s:List Nat}{g h:Nat->Nat}{R Q:Re}(hg:Zgt s false g R)(hh:Zgt s false h Q)(bF:∀f,f < ZcC->g f < ZcC):Zgt s false (λf=>h (g f)) (λi j=>∃m,R i m/\Q m j):=by
 intro f hf j
 rw[hh _ (bF f hf) j]
 unfold ZgH
 constructor
 ·rintro⟨m,h1,h2⟩
  obtain⟨i,h3,h4⟩:=(hg f hf m).1 h1
  exact⟨i,h3,m,h4,h2⟩
 ·rintro⟨i,h3,m,h4,h2⟩
  exact⟨m,(hg f hf m).2 ⟨i,h3,h4⟩,h2⟩
theorem ZqV{s:List Nat}{g h:Nat->Nat}{R Q:Re}(hg:Zgt s true g R)(hh:Zgt s true h Q)(bF:∀f,f < ZcC->h f < ZcC):Zgt s true (λf=>g (h f)) (λi j=>∃m,R i m/\Q m j):=by
 intro f hf j
 rw[hg _ (bF f hf) j]
 unfold ZgH
 constructor
 ·rintro⟨m,h1,h2⟩
  obtain⟨i,h3,h4⟩:=(hh f hf m).1 h1
  exact⟨i,h3,m,h2,h4⟩
 ·rintro⟨i,h3,m,h4,h2⟩
  exact⟨m,(hh f hf m).2 ⟨i,h3,h2⟩,h4⟩
theorem Zpd(t:T)(back:Bool)(f:Nat):∀(s:List Nat)(i out j:Nat),(ZsM t back f s i out).testBit j=true↔out.testBit j=true\/∃p b,s[p]?=some b/\t.hasB b=true/\f.testBit (if back then i+p+1 else i+p)=true/\j=(if back then i+p else i+p+1)
 | [],i,out,j=>by simp[ZsM]
 | c::s,i,out,j=>by
  simp only[ZsM]
  rw[Zpd t back f s (i+1)]
  have h0:(ZoT t back f i c out).testBit j=true↔out.testBit j=true\/(t.hasB c=true/\f.testBit (if back then i+1 else i)=true/\j=(if back then i else i+1)):=by
   unfold ZoT
   by_cases h:(f.testBit (if back then i+1 else i)&&t.hasB c)=true
   ·rw[if_pos h]
    rw[Bool.and_eq_true]at h
    rw[Nat.testBit_or,Bool.or_eq_true,Nat.testBit_two_pow]
    constructor
    ·rintro(h1|h1)
     ·exact .inl h1
     ·exact .inr ⟨h.2,h.1,by simpa using(of_decide_eq_true h1).symm⟩
    ·rintro(h1|⟨_,_,h1⟩)
     ·exact .inl h1
     ·exact .inr (decide_eq_true h1.symm)
   ·rw[if_neg h]
    rw[Bool.and_eq_true]at h
    constructor
    ·exact .inl
    ·rintro(h1|⟨h1,h2,_⟩)
     ·exact h1
     ·exact absurd ⟨h2,h1⟩ h
  rw[h0]
  constructor
  ·rintro((h|⟨h1,h2,h3⟩)|⟨p,b,h1,h2,h3,h4⟩)
   ·exact .inl h
   ·exact .inr ⟨0,c,rfl,h1,by simpa using h2,by simpa using h3⟩
   ·exact .inr ⟨p+1,b,by simpa using h1,h2,by rw[show i+(p+1)=i+1+p by omega];exact h3,by rw[show i+(p+1)=i+1+p by omega];exact h4⟩
  ·rintro(h|⟨p,b,h1,h2,h3,h4⟩)
   ·exact .inl (.inl h)
   ·cases p with
    | zero=>simp at h1;subst h1;exact .inl (.inr ⟨h2,by simpa using h3,by simpa using h4⟩)
    | succ p=>exact .inr ⟨p,b,by simpa using h1,h2,by rw[show i+1+p=i+(p+1) by omega];exact h3,by rw[show i+1+p=i+(p+1) by omega];exact h4⟩
theorem ZtJ(s:List Nat)(back:Bool)(t:T):Zgt s back (λf=>ZsM t back f s 0 0) (λi j=>j=i+1/\∃b,s[i]?=some b/\t.hasB b=true):=by
 intro f hf j
 rw[Zpd]
 unfold ZgH
 cases back with
 | false=>
  constructor
  ·rintro(h|⟨p,b,h1,h2,h3,h4⟩)
   ·simp at h
   ·simp at h3 h4;exact⟨p,h3,by simp;exact⟨h4,b,h1,h2⟩⟩
  ·rintro⟨i,h1,h2⟩
   simp at h2
   obtain⟨rfl,b,h3,h4⟩:=h2
   exact .inr ⟨i,b,h3,h4,by simpa using h1,by simp⟩
 | true=>
  constructor
  ·rintro(h|⟨p,b,h1,h2,h3,h4⟩)
   ·simp at h
   ·simp at h3 h4;subst h4;exact⟨j+1,h3,by simp;exact⟨b,h1,h2⟩⟩
  ·rintro⟨i,h1,h2⟩
   simp at h2
   obtain⟨rfl,b,h3,h4⟩:=h2
   exact .inr ⟨j,b,h3,h4,by simpa using h1,by simp⟩
theorem Zle(back:Bool)(R:Re)(n f j:Nat):ZgH back (pow R (n+1)) f j↔∃i,ZgH back (pow R n) f i/\(if back then R j i else R i j):=by
 unfold ZgH
 cases back with
 | false=>
  simp only[Bool.false_eq_true,if_false]
  constructor
  ·rintro⟨i,h1,h2⟩
   obtain⟨m,h3,h4⟩:=(Zld R n i j).1 h2
   exact⟨m,⟨i,h1,h3⟩,h4⟩
  ·rintro⟨m,⟨i,h1,h3⟩,h4⟩
   exact⟨i,h1,(Zld R n i j).2 ⟨m,h3,h4⟩⟩
 | true=>
  simp only[if_true]
  constructor
  ·rintro⟨i,h1,m,h3,h4⟩
   exact⟨m,⟨i,h1,h4⟩,h3⟩
  ·rintro⟨m,⟨i,h1,h4⟩,h3⟩
   exact⟨i,h1,m,h3,h4⟩
def cnt(f:Nat):Nat:=(List.range 576).countP λi=>f.testBit i
theorem ZvY(f:Nat):cnt f<=576:=by
 have:=List.countP_le_length (p:=λi=>f.testBit i) (l:=List.range 576)
 simpa[cnt]using this
theorem Zlf{α:Type}{p q:α->Bool}:∀{l:List α},(∀x,p x=true->q x=true)->(∃x∈l,q x=true/\p x=false)->l.countP p < l.countP q
 | [],_,h=>by obtain⟨x,h,_⟩:=h;simp at h
 | y::l,nT,⟨x,hx,h1,h2⟩=>by
  have ya:l.countP p<=l.countP q:=List.countP_mono_left λx _ h=>nT x h
  rw[List.countP_cons,List.countP_cons]
  by_cases e:p y=true
  ·rw[if_pos e,if_pos (nT y e)]
   have cT:x≠y:=λe'=>by rw[e',e]at h2;cases h2
   have:=Zlf nT ⟨x,(List.mem_cons.1 hx).resolve_left cT,h1,h2⟩
   omega
  ·rw[if_neg e]
   by_cases e2:q y=true
   ·rw[if_pos e2];omega
   ·have cT:x≠y:=λe'=>e2 (e' ▸ h1)
    have:=Zlf nT ⟨x,(List.mem_cons.1 hx).resolve_left cT,h1,h2⟩
    omega
theorem Zu6{f i:Nat}(hf:f < ZcC)(hi:¬i < 576):f.testBit i=false:=
 Nat.testBit_lt_two_pow (Nat.lt_of_lt_of_le hf (Nat.pow_le_pow_right (by omega) (by rw[ZoU];omega)))
theorem Zzt{out x:Nat}(ho:out < ZcC)(hx:x < ZcC)(h:¬out|||x=out):cnt out < cnt (out|||x):=by
 refine Zlf (λi hi=>by simp[hi]) ?_
 refine Classical.byContradiction λhn=>h (Nat.eq_of_testBit_eq λi=>?_)
 by_cases hi:i < 576
 ·rw[Nat.testBit_or]
  cases e1:out.testBit i with
  | true=>rfl
  | false=>
   cases e2:x.testBit i with
   | false=>rfl
   | true=>exact absurd ⟨i,List.mem_range.2 hi,by rw[Nat.testBit_or,e1,e2];rfl,e1⟩ hn
 ·rw[Zu6 (Nat.or_lt_two_pow ho hx) hi,Zu6 ho hi]
theorem ZqW{s:List Nat}{back:Bool}{g:Nat->Nat}{R:Re}(hg:Zgt s back g R)(bF:∀f,f < ZcC->g f < ZcC){mx:Int}{mn f0:Nat}(zO:f0 < ZcC)(fZ:mn<=16):
  ∀(fuel K out last:Nat),out < ZcC->last < ZcC->mn<=K->(mx=-1\/(K:Int)<=mx)->K<=mn+cnt out->577 - cnt out<=fuel->
   (∀j,last.testBit j=true↔ZgH back (pow R K) f0 j)->(∀j,out.testBit j=true↔∃n,mn<=n/\n<=K/\ZgH back (pow R n) f0 j)->
   ∀j,(Zp9 g mx fuel K out last).testBit j=true↔∃n,mn<=n/\(mx=-1\/n<=mx.toNat)/\ZgH back (pow R n) f0 j:=by
 intro fuel
 induction fuel with
 | zero=>intro K out last _ _ _ _ _ mU _ _ j;have:=ZvY out;omega
 | succ fuel ihf=>
  intro K out last ho hl hK eF Ca mU dK dE j
  have pX:=bF last hl
  have gN:∀j,(g last).testBit j=true↔ZgH back (pow R (K+1)) f0 j:=λj=>by
   rw[hg last hl j,Zle]
   constructor
   ·rintro⟨i,h1,h2⟩;exact⟨i,(dK i).1 h1,h2⟩
   ·rintro⟨i,h1,h2⟩;exact⟨i,(dK i).2 h1,h2⟩
  rw[Zmm]
  by_cases hm:(K:Int)=mx
  ·rw[if_pos hm,dE]
   constructor
   ·rintro⟨n,h1,h2,h3⟩;exact⟨n,h1,.inr (by omega),h3⟩
   ·rintro⟨n,h1,h2,h3⟩;exact⟨n,h1,by rcases h2 with h2|h2 <;> omega,h3⟩
  ·rw[if_neg hm]
   by_cases hs:out|||g last=out
   ·rw[if_pos hs,dE]
    have eP:∀j,(g last).testBit j=true->out.testBit j=true:=λj h=>by
     rw[<-hs,Nat.testBit_or,h];simp
    have rn:∀d j,ZgH back (pow R (K+d)) f0 j->out.testBit j=true:=by
     intro d
     induction d with
     | zero=>intro j h;exact(dE j).2 ⟨K,hK,Nat.le_refl _,h⟩
     | succ d ih=>
      intro j h
      rw[show K+(d+1)=(K+d)+1 by omega,Zle]at h
      obtain⟨i,h1,h2⟩:=h
      obtain⟨n,h3,h4,h5⟩:=(dE i).1 (ih i h1)
      have h6:ZgH back (pow R (n+1)) f0 j:=(Zle back R n f0 j).2 ⟨i,h5,h2⟩
      by_cases hn:n+1<=K
      ·exact(dE j).2 ⟨n+1,by omega,hn,h6⟩
      ·have:n=K:=by omega
       subst this
       exact eP j ((gN j).2 h6)
    constructor
    ·rintro⟨n,h1,h2,h3⟩;exact⟨n,h1,by rcases eF with h|h;exact .inl h;exact .inr (by omega),h3⟩
    ·rintro⟨n,h1,h2,h3⟩
     by_cases hn:n<=K
     ·exact⟨n,h1,hn,h3⟩
     ·have:=rn (n - K) j (by rw[show K+(n - K)=n by omega];exact h3)
      exact(dE j).1 this
   ·rw[if_neg hs]
    have hc:=Zzt ho pX hs
    have eK:=ZvY (out|||g last)
    have hw:IntKind.i64.wrap ((K:Int)+1)=((K+1:Nat):Int):=by rw[ZaN (by omega) (by omega)];rfl
    rw[hw]
    refine ihf (K+1) _ _ (Nat.or_lt_two_pow ho pX) pX (by omega) ?_ (by omega) (by omega) gN ?_ j
    ·rcases eF with h|h
     ·exact .inl h
     ·exact .inr (by omega)
    ·intro j
     rw[Nat.testBit_or,Bool.or_eq_true,dE,gN]
     constructor
     ·rintro(⟨n,h1,h2,h3⟩|h)
      ·exact⟨n,h1,by omega,h3⟩
      ·exact⟨K+1,by omega,Nat.le_refl _,h⟩
     ·rintro⟨n,h1,h2,h3⟩
      by_cases hn:n<=K
      ·exact .inl ⟨n,h1,hn,h3⟩
      ·have:n=K+1:=by omega
       subst this;exact .inr h3
theorem Zpe{s:List Nat}{back:Bool}{g:Nat->Nat}{R:Re}(hg:Zgt s back g R)(bF:∀f,f < ZcC->g f < ZcC):∀(n f:Nat),f < ZcC->∀j,(ZwN g n f).testBit j=true↔ZgH back (pow R n) f j
 | 0,f,hf,j=>by
  show f.testBit j=true↔ZgH back (λa b=>a=b) f j
  rw[Zpc]
 | n+1,f,hf,j=>by
  show(ZwN g n (g f)).testBit j=true↔_
  rw[Zpe hg bF n (g f) (bF f hf) j]
  unfold ZgH
  cases back with
  | false=>
   simp only[Bool.false_eq_true,if_false]
   constructor
   ·rintro⟨m,h1,h2⟩
    obtain⟨i,h3,h4⟩:=(hg f hf m).1 h1
    exact⟨i,h3,m,by simpa using h4,h2⟩
   ·rintro⟨i,h3,m,h4,h2⟩
    exact⟨m,(hg f hf m).2 ⟨i,h3,by simpa using h4⟩,h2⟩
  | true=>
   simp only[if_true]
   constructor
   ·rintro⟨m,h1,h2⟩
    obtain⟨i,h3,h4⟩:=(hg f hf m).1 h1
    exact⟨i,h3,(Zld R n j i).2 ⟨m,h2,by simpa using h4⟩⟩
   ·rintro⟨i,h3,h4⟩
    obtain⟨m,h5,h6⟩:=(Zld R n j i).1 h4
    exact⟨m,(hg f hf m).2 ⟨i,h3,by simpa using h6⟩,h5⟩
theorem ZtK{s:List Nat}{back:Bool}{g:Nat->Nat}{R:Re}(hg:Zgt s back g R)(bF:∀f,f < ZcC->g f < ZcC){mn mx:Int}(h0:0<=mn)(uC:mn<=16)(eF:mx=-1\/mn<=mx):
  Zgt s back (Zxw g mn mx) (λi j=>∃n:Nat,mn.toNat<=n/\(mx=-1\/n<=mx.toNat)/\pow R n i j):=by
 intro f hf j
 obtain⟨k,rfl⟩:∃k:Nat,mn=k:=⟨mn.toNat,by omega⟩
 have hi:=ZoW bF k f hf
 have hb:=Zpe hg bF k f hf
 have zP:1024 < ZcC:=ZwO (n:=10) (by omega)
 unfold Zxw
 rw[Int.toNat_natCast]
 have:=ZqW hg bF (mx:=mx) hf (show k<=16 by omega) (ZcC+1) k (ZwN g k f) (ZwN g k f) hi hi (Nat.le_refl _) eF (by omega) (by have:=ZvY (ZwN g k f);omega) hb (λj=>by
  rw[hb]
  constructor
  ·intro h;exact⟨k,Nat.le_refl _,Nat.le_refl _,h⟩
  ·rintro⟨n,h1,h2,h3⟩;obtain rfl:n=k:=by omega
   exact h3) j
 rw[this]
 unfold ZgH
 cases back with
 | false=>
  simp only[Bool.false_eq_true,if_false]
  constructor
  ·rintro⟨n,h1,h2,i,h3,h4⟩;exact⟨i,h3,n,h1,h2,h4⟩
  ·rintro⟨i,h3,n,h1,h2,h4⟩;exact⟨n,h1,h2,i,h3,h4⟩
 | true=>
  simp only[if_true]
  constructor
  ·rintro⟨n,h1,h2,i,h3,h4⟩;exact⟨i,h3,n,h1,h2,h4⟩
  ·rintro⟨i,h3,n,h1,h2,h4⟩;exact⟨n,h1,h2,i,h3,h4⟩
section
variable {s:List Nat}
theorem M_1{t:T}(h:t.k=1)(i j:Nat):t.M s i j↔i=j:=by cases t;simp only[T.k]at h;subst h;simp[T.M]
theorem M_2{t:T}(h:t.k=2)(i j:Nat):t.M s i j↔(j=i+1/\∃b,s[i]?=some b/\t.hasB b=true):=by cases t;simp only[T.k]at h;subst h;simp[T.M]
theorem M_3{t:T}(h:t.k=3)(i j:Nat):t.M s i j↔MC s t.subs i j:=by cases t;simp only[T.k]at h;subst h;simp[T.M,T.subs]
theorem M_4{t:T}(h:t.k=4)(i j:Nat):t.M s i j↔MA s t.subs i j:=by cases t;simp only[T.k]at h;subst h;simp[T.M,T.subs]
theorem M_5{t:T}(h:t.k=5)(i j:Nat):t.M s i j↔∃n:Nat,t.mn.toNat<=n/\(t.mx=-1\/n<=t.mx.toNat)/\pow (MH s t.subs) n i j:=by cases t;simp only[T.k]at h;subst h;simp[T.M,T.subs,T.mn,T.mx]
theorem M_6{t:T}(h:t.k=6)(i j:Nat):t.M s i j↔MH s t.subs i j:=by cases t;simp only[T.k]at h;subst h;simp[T.M,T.subs]
theorem ZtL(i j:Nat):MC s [] i j↔i=j:=by simp[MC]
theorem Zpf(t:T)(l:List T)(i j:Nat):MC s (t::l) i j↔∃m,t.M s i m/\MC s l m j:=by simp[MC]
theorem ZtM(i j:Nat):MA s [] i j↔False:=by simp[MA]
theorem Zmt(t:T)(l:List T)(i j:Nat):MA s (t::l) i j↔(t.M s i j\/MA s l i j):=by simp[MA]
theorem Zhy(t:T)(l:List T):MH s (t::l)=t.M s:=by simp[MH]
theorem ZcI{back:Bool}{g h:Nat->Nat}{R Q:Re}(hg:Zgt s back g R)(e:∀f,h f=g f)(k:∀i j,Q i j↔R i j):Zgt s back h Q:=by
 intro f hf j
 rw[e,hg f hf j]
 unfold ZgH
 cases back <;> simp only[k]
theorem Zka(hs:s.length<=512):∀(l:List T),(∀x∈l,Zgt s false (x.lead s false) (x.M s))->Zgt s false (ZgU s false l) (MC s l)
 | [],_=>by
  intro f hf j
  have e:ZgH false (MC s []) f j↔ZgH false (λa b=>a=b) f j:=by unfold ZgH;simp only[ZtL]
  rw[e,Zpc];rw[ZgU]
 | t::l,h=>ZcI (ZtI (h t (by simp)) (Zka hs l λx hx=>h x (by simp[hx])) (ZfF s false hs t)) (λf=>by rw[ZgU]) (λi j=>Zpf t l i j)
theorem Zkb(hs:s.length<=512):∀(l:List T),(∀x∈l,Zgt s true (x.lead s true) (x.M s))->Zgt s true (Zgs s true l) (MC s l)
 | [],_=>by
  intro f hf j
  have e:ZgH true (MC s []) f j↔ZgH true (λa b=>a=b) f j:=by unfold ZgH;simp only[ZtL]
  rw[e,Zpc];rw[Zgs]
 | t::l,h=>ZcI (ZqV (h t (by simp)) (Zkb hs l λx hx=>h x (by simp[hx])) (ZnR s true hs l)) (λf=>by rw[Zgs]) (λi j=>Zpf t l i j)
theorem Zpg{back:Bool}(hs:s.length<=512):∀(l:List T),(∀x∈l,Zgt s back (x.lead s back) (x.M s))->∀f,f < ZcC->∀out j,(ZqO s back l f out).testBit j=true↔(out.testBit j=true\/ZgH back (MA s l) f j)
 | [],_,f,hf,out,j=>by
  rw[ZrK]
  constructor
  ·exact .inl
  ·rintro(h|⟨i,_,h⟩)
   ·exact h
   ·cases back <;> simp[ZtM]at h
 | t::l,h,f,hf,out,j=>by
  rw[ZoV,Zpg hs l (λx hx=>h x (by simp[hx])) f hf,Nat.testBit_or,Bool.or_eq_true,h t (by simp) f hf j]
  have e:ZgH back (MA s (t::l)) f j↔ZgH back (λa b=>t.M s a b\/MA s l a b) f j:=by unfold ZgH;cases back <;> simp only[Zmt]
  rw[e,Zx0,or_assoc]
theorem Zph(back:Bool)(x:T):Zf1 s back [x]=x.lead s back:=by
 funext f;rw[Zf1]
theorem Zmu(back:Bool)(hs:s.length<=512):∀t:T,t.good=true->Zgt s back (t.lead s back) (t.M s)
 | t,hg=>by
  obtain⟨hr,bV⟩:=Zfi hg
  have ih:∀x∈t.subs,Zgt s back (x.lead s back) (x.M s):=λx hx=>Zmu back hs x (bV x hx)
  rcases ZfK hr with h|h|h|h|⟨h,⟨x,hx⟩,h0,uC,eF⟩|⟨h,x,hx⟩
  ·intro f hf j
   have e:ZgH back (t.M s) f j↔ZgH back (λa b=>a=b) f j:=by unfold ZgH;cases back <;> simp only[M_1 h]
   rw[e,Zpc,Zxx h]
  ·exact ZcI (ZtJ s back t) (λf=>Zxy h f) (λi j=>M_2 h i j)
  ·cases back with
   | false=>exact ZcI (Zka hs t.subs ih) (λf=>by rw[ZvM h];rfl) (λi j=>M_3 h i j)
   | true=>exact ZcI (Zkb hs t.subs ih) (λf=>by rw[ZvM h];rfl) (λi j=>M_3 h i j)
  ·intro f hf j
   rw[Zxz h,Zpg hs t.subs ih f hf]
   have e:ZgH back (t.M s) f j↔ZgH back (MA s t.subs) f j:=by unfold ZgH;cases back <;> simp only[M_4 h]
   rw[e];simp
  ·have hx':x∈t.subs:=by rw[hx];simp
   have hl:=ZtK (mn:=t.mn) (mx:=t.mx) (ih x hx') (ZfF s back hs x) h0 uC (by omega)
   exact ZcI hl (λf=>by rw[ZxA h,hx,Zph]) (λi j=>by rw[M_5 h,hx,Zhy])
  ·have hx':x∈t.subs:=by rw[hx];simp
   exact ZcI (ih x hx') (λf=>by rw[ZxB h,hx,Zph]) (λi j=>by rw[M_6 h,hx,Zhy])
termination_by t=>SizeOf.sizeOf t
decreasing_by exact Zm8 hx
end
def Fwd(R:Re):Prop:=∀i j,R i j->i<=j
def Sh(s s':List Nat)(R R':Re):Prop:=∀i j i',R i j->(∀p,i+p < j->s[i+p]?=s'[i'+p]?)->R' i' (i'+(j - i))
def Len(s:List Nat)(R:Re):Prop:=∀i j,R i j->i<=s.length->j<=s.length
structure Nice (s s':List Nat)(R R':Re):Prop where
 fwd:Fwd R
 sh:Sh s s' R R'
 len:Len s R
theorem Zr9(s s':List Nat):Nice s s' (λi j=>i=j) (λi j=>i=j):=
 ⟨λi j h=>by omega,λi j i' h _=>by omega,λi j h k=>by omega⟩
theorem Zsa{s s':List Nat}{R R' Q Q':Re}(h:Nice s s' R R')(k:Nice s s' Q Q'):Nice s s' (λi j=>∃m,R i m/\Q m j) (λi j=>∃m,R' i m/\Q' m j):=by
 refine⟨λi j ⟨m,h1,h2⟩=>Nat.le_trans (h.fwd _ _ h1) (k.fwd _ _ h2),λi j i' ⟨m,h1,h2⟩ hs=>?_,λi j ⟨m,h1,h2⟩ hi=>k.len _ _ h2 (h.len _ _ h1 hi)⟩
 have a:=h.fwd _ _ h1
 have b:=k.fwd _ _ h2
 refine⟨i'+(m - i),h.sh _ _ _ h1 λp hp=>hs p (by omega),?_⟩
 have:=k.sh _ _ (i'+(m - i)) h2 λp hp=>by
  have:=hs ((m - i)+p) (by omega)
  rw[show i+(m - i+p)=m+p by omega,show i'+(m - i+p)=i'+(m - i)+p by omega]at this
  exact this
 rw[show i'+(m - i)+(j - m)=i'+(j - i) by omega]at this
 exact this
theorem Zlg{s s':List Nat}{R R':Re}(h:Nice s s' R R'):∀n,Nice s s' (pow R n) (pow R' n)
 | 0=>Zr9 s s'
 | n+1=>Zsa h (Zlg h n)
theorem Zd8{s s':List Nat}{R R' Q Q':Re}(h:Nice s s' R R')(e:∀i j,Q i j↔R i j)(e':∀i j,Q' i j↔R' i j):Nice s s' Q Q':=
 ⟨λi j k=>h.fwd i j ((e i j).1 k),λi j i' k hs=>(e' _ _).2 (h.sh i j i' ((e i j).1 k) hs),λi j k hi=>h.len i j ((e i j).1 k) hi⟩
theorem ZzW{s s':List Nat}:∀(l:List T),(∀x∈l,Nice s s' (x.M s) (x.M s'))->Nice s s' (MC s l) (MC s' l)
 | [],_=>Zd8 (Zr9 s s') (λi j=>ZtL i j) (λi j=>ZtL i j)
 | t::l,h=>Zd8 (Zsa (h t (by simp)) (ZzW l λx hx=>h x (by simp[hx]))) (λi j=>Zpf t l i j) (λi j=>Zpf t l i j)
theorem ZzX{s s':List Nat}:∀(l:List T),(∀x∈l,Nice s s' (x.M s) (x.M s'))->Nice s s' (MA s l) (MA s' l)
 | [],_=>⟨λi j h=>by rw[ZtM]at h;exact h.elim,λi j i' h=>by rw[ZtM]at h;exact h.elim,λi j h=>by rw[ZtM]at h;exact h.elim⟩
 | t::l,h=>by
  have h1:=h t (by simp)
  have h2:=ZzX l λx hx=>h x (by simp[hx])
  refine⟨λi j k=>?_,λi j i' k hs=>?_,λi j k hi=>?_⟩
  ·rcases(Zmt t l i j).1 k with k|k
   ·exact h1.fwd _ _ k
   ·exact h2.fwd _ _ k
  ·refine(Zmt t l _ _).2 ?_
   rcases(Zmt t l i j).1 k with k|k
   ·exact .inl (h1.sh _ _ _ k hs)
   ·exact .inr (h2.sh _ _ _ k hs)
  ·rcases(Zmt t l i j).1 k with k|k
   ·exact h1.len _ _ k hi
   ·exact h2.len _ _ k hi
theorem Zx1(s s':List Nat):∀t:T,t.good=true->Nice s s' (t.M s) (t.M s')
 | t,hg=>by
  obtain⟨hr,bV⟩:=Zfi hg
  have ih:∀x∈t.subs,Nice s s' (x.M s) (x.M s'):=λx hx=>Zx1 s s' x (bV x hx)
  rcases ZfK hr with h|h|h|h|⟨h,⟨x,hx⟩,h0,uC,eF⟩|⟨h,x,hx⟩
  ·exact Zd8 (Zr9 s s') (λi j=>M_1 h i j) (λi j=>M_1 h i j)
  ·refine⟨λi j k=>?_,λi j i' k hs=>?_,λi j k hi=>?_⟩
   ·have:=(M_2 h i j).1 k;omega
   ·obtain⟨rfl,b,h1,h2⟩:=(M_2 h i j).1 k
    refine(M_2 h _ _).2 ⟨by omega,b,?_,h2⟩
    have:=hs 0 (by omega)
    simp only[Nat.add_zero]at this
    rw[<-this];exact h1
   ·obtain⟨rfl,b,h1,h2⟩:=(M_2 h i j).1 k
    have:=(List.getElem?_eq_some_iff.1 h1).1
    omega
  ·exact Zd8 (ZzW t.subs ih) (λi j=>M_3 h i j) (λi j=>M_3 h i j)
  ·exact Zd8 (ZzX t.subs ih) (λi j=>M_4 h i j) (λi j=>M_4 h i j)
  ·have hn:=ih x (by rw[hx];simp)
   refine⟨λi j k=>?_,λi j i' k hs=>?_,λi j k hi=>?_⟩
   ·obtain⟨n,_,_,h3⟩:=(M_5 h i j).1 k
    rw[hx,Zhy]at h3
    exact(Zlg hn n).fwd _ _ h3
   ·obtain⟨n,h1,h2,h3⟩:=(M_5 h i j).1 k
    rw[hx,Zhy]at h3
    refine(M_5 h _ _).2 ⟨n,h1,h2,?_⟩
    rw[hx,Zhy]
    exact(Zlg hn n).sh _ _ _ h3 hs
   ·obtain⟨n,_,_,h3⟩:=(M_5 h i j).1 k
    rw[hx,Zhy]at h3
    exact(Zlg hn n).len _ _ h3 hi
  ·have hn:=ih x (by rw[hx];simp)
   exact Zd8 hn (λi j=>by rw[M_6 h,hx,Zhy]) (λi j=>by rw[M_6 h,hx,Zhy])
termination_by t=>SizeOf.sizeOf t
decreasing_by exact Zm8 hx
theorem ZAz{t:T}(hg:t.good=true){s:List Nat}{i j:Nat}(h:t.M s i j)(hi:i<=s.length):j<=s.length:=(Zx1 s s t hg).len _ _ h hi
theorem Zpi(n i:Nat):(2 ^ n).testBit i=true↔n=i:=by rw[Nat.testBit_two_pow];simp
theorem Zsb{t:T}(hg:t.good=true){s:List Nat}(hs:s.length<=512){i j:Nat}(hi:i < 576):(t.lead s false (2 ^ i)).testBit j=true↔t.M s i j:=by
 rw[Zmu false hs t hg _ (ZwO hi) j]
 unfold ZgH
 simp only[Zpi,Bool.false_eq_true,if_false]
 constructor
 ·rintro⟨k,rfl,h⟩;exact h
 ·intro h;exact⟨i,rfl,h⟩
end Go.Rx
namespace Go.Rx
open Go Go.Eng Go.RowKit
set_option maxRecDepth 100000
theorem Zu7(f:Nat):(ZdK f).Pairwise (· < ·):=by
 unfold ZdK
 exact List.Pairwise.filter _ List.pairwise_lt_range
theorem ZvZ{f x:Nat}:x∈ZdK f↔x < 513/\f.testBit x=true:=by
 unfold ZdK;simp
def Zsc(t:T)(s:List Nat)(i:Nat):List Nat:=ZdK (t.lead s false (2 ^ i))
theorem Zv0{t:T}(hg:t.good=true){s:List Nat}(hs:s.length<=512){i j:Nat}(hi:i<=s.length):j∈Zsc t s i↔t.M s i j:=by
 unfold Zsc
 rw[ZvZ,Zsb hg hs (by omega)]
 constructor
 ·exact λh=>h.2
 ·intro h;have:=ZAz hg h hi;exact⟨by omega,h⟩
def ZzY(F n:Nat)(u:List Nat):List Nat:=(u.filter λk:Nat=>decide ((k:Int) - F<=n)).map λk=>k - F
end Go.Rx
namespace Go.Rx
open Go Go.Eng Go.RowKit
theorem ZnY{f:Nat->List Nat}{R:Re}{len:Nat}{mn mx:Int}(hf:Zc6 len f)(hR:∀i,i<=len->∀j,j∈f i↔R i j)(fZ:0<=mn)(eF:mx=-1\/mn<=mx):∀{k d i j:Nat},i<=len->(mx=-1\/d<=mx.toNat)->mR len mn mx d i < k->(j∈Zkp f mn mx k d i↔∃n:Nat,mn.toNat<=d+n/\(mx=-1\/d+n<=mx.toNat)/\pow R n i j)
 | 0,d,i,j,_,_,h=>by omega
 | k+1,d,i,j,hi,hd,hk=>by
  have pY:∀n':Nat,mn.toNat<=Zbb mn mx d+n'↔mn.toNat<=d+(n'+1):=λn'=>by
   unfold Zbb
   split <;> omega
  simp only[Zkp]
  rw[ZcU,List.mem_append,List.mem_flatMap]
  constructor
  ·rintro(⟨x,hx,hj⟩|hj)
   ·obtain⟨h1,h2,h3⟩:=Za8 hx
    obtain⟨h4,h5⟩:=hf i hi x h2
    have bF:=ZrS (len:=len) fZ eF h1 ⟨h4,h5⟩ h3
    unfold Zii at h1
    simp only[Bool.or_eq_true,beq_iff_eq,decide_eq_true_eq]at h1
    have hd':mx=-1\/Zbb mn mx d<=mx.toNat:=by
     rcases h1 with h1|h1
     ·exact .inl h1
     ·by_cases e:mx=-1
      ·exact .inl e
      ·right;unfold Zbb;rw[if_neg e];omega
    obtain⟨n,g1,g2,g3⟩:=(ZnY hf hR fZ eF h5 hd' (by omega)).1 hj
    refine⟨n+1,(pY n).1 g1,?_,x,(hR i hi x).1 h2,g3⟩
    rcases g2 with g2|g2
    ·exact .inl g2
    ·by_cases e:mx=-1
     ·exact .inl e
     ·right;unfold Zbb at g2;rw[if_neg e]at g2;omega
   ·unfold ZnJ at hj
    split at hj
    ·rename_i h
     have v8:j=i:=by simpa using hj
     subst v8
     exact⟨0,by omega,by simpa using hd,rfl⟩
    ·simp at hj
  ·rintro⟨n,g1,g2,g3⟩
   induction n with
   | zero=>
    right
    have g3:i=j:=g3
    subst g3
    unfold ZnJ
    rw[if_pos (by omega)];simp
   | succ n ih=>
    obtain⟨x,hx,hp⟩:=g3
    have yc:=(hR i hi x).2 hx
    obtain⟨h4,h5⟩:=hf i hi x yc
    by_cases hc:i < x\/(d:Int) < mn
    ·left
     have hm:Zii mx d=true:=by
      unfold Zii
      simp only[Bool.or_eq_true,beq_iff_eq,decide_eq_true_eq]
      rcases g2 with g2|g2
      ·exact .inl g2
      ·by_cases e:mx=-1
       ·exact .inl e
       ·right;omega
     have bF:=ZrS (len:=len) fZ eF hm ⟨h4,h5⟩ hc
     refine⟨x,?_,?_⟩
     ·unfold Zch
      rw[if_pos hm,List.mem_filter]
      exact⟨yc,by simpa using hc⟩
     ·have hd':mx=-1\/Zbb mn mx d<=mx.toNat:=by
       rcases g2 with g2|g2
       ·exact .inl g2
       ·by_cases e:mx=-1
        ·exact .inl e
        ·right;unfold Zbb;rw[if_neg e];omega
      refine(ZnY hf hR fZ eF h5 hd' (by omega)).2 ⟨n,(pY n).2 g1,?_,hp⟩
      rcases g2 with g2|g2
      ·exact .inl g2
      ·by_cases e:mx=-1
       ·exact .inl e
       ·right;unfold Zbb;rw[if_neg e];omega
    ·have:x=i:=by omega
     subst this
     exact ih (by omega) (g2.imp id λh=>by omega) hp
theorem Zd9{t:T}(h:t.good=true):t.right=true/\∀x∈t.subs,x.good=true:=by
 rw[Zj4,Bool.and_eq_true]at h
 exact⟨h.1,List.all_eq_true.1 h.2⟩
mutual
theorem ZzZ(s:List Nat):∀t:T,t.good=true->∀i,i<=s.length->∀j,(j∈t.e0 s i↔t.M s i j)
 | .node k s0 s1 s2 s3 mn mx a c l=>λhg i hi j=>by
  obtain⟨hr,hl⟩:=Zd9 hg
  have hl:∀x∈l,x.good=true:=hl
  have hk:=ZfK hr
  simp only[T.k,T.subs,T.mn,T.mx]at hk
  simp only[T.e0,T.M]
  by_cases h1:k=1
  ·subst h1;simp[eq_comm]
  by_cases h2:k=2
  ·subst h2
   rw[if_neg (by decide),if_pos rfl,if_neg (by decide),if_pos rfl]
   unfold Zy0
   cases hb:s[i]? with
   | none=>simp
   | some b=>
    simp only
    by_cases hB:(T.node 2 s0 s1 s2 s3 mn mx a c l).hasB b=true
    ·rw[if_pos hB];simp[hB]
    ·rw[if_neg hB];simp[hB]
  by_cases h6:k=6
  ·subst h6
   rw[if_neg (by decide),if_neg (by decide),if_pos rfl,if_neg (by decide),if_neg (by decide),if_neg (by decide),if_neg (by decide),if_neg (by decide),if_pos rfl,ZcU]
   obtain⟨x,hx⟩:∃x,l=[x]:=by
    rcases hk with h|h|h|h|h|h <;> first|omega|exact h.2
   exact Zz0 s l hl (by rw[hx];simp) i hi j
  by_cases h4:k=4
  ·subst h4
   rw[if_neg (by decide),if_neg (by decide),if_neg (by decide),if_pos rfl,if_neg (by decide),if_neg (by decide),if_neg (by decide),if_pos rfl,ZcU]
   exact Zx2 s l hl i hi j
  by_cases h3:k=3
  ·subst h3
   rw[if_neg (by decide),if_neg (by decide),if_neg (by decide),if_neg (by decide),if_pos rfl,if_neg (by decide),if_neg (by decide),if_pos rfl]
   exact Zv1 s l hl i hi j
  by_cases h5:k=5
  ·subst h5
   rw[if_neg (by decide),if_neg (by decide),if_neg (by decide),if_neg (by decide),if_neg (by decide),if_pos rfl,if_neg (by decide),if_neg (by decide),if_neg (by decide),if_neg (by decide),if_pos rfl]
   obtain⟨⟨x,hx⟩,b1,b2,b3⟩:(∃x,l=[x])/\0<=mn/\mn<=16/\(mx=-1\/(1<=mx/\mn<=mx/\mx<=16)):=by
    rcases hk with h|h|h|h|h|h <;> first|omega|exact⟨h.2.1,h.2.2⟩
   rw[ZnY (R:=MH s l) (Za4 s l) (λi hi j=>Zz0 s l hl (by rw[hx];simp) i hi j) b1 (b3.imp id λh=>h.2.1) hi (b3.imp id λh=>by omega) (Nat.lt_succ_self _)]
   simp only[Nat.zero_add]
  ·exfalso
   rcases hk with h|h|h|h|h|h <;> omega
theorem Zz0(s:List Nat):∀l:List T,(∀x∈l,x.good=true)->l≠[]->∀i,i<=s.length->∀j,(j∈hd0 s l i↔MH s l i j)
 | [],_,h,i,hi,j=>absurd rfl h
 | t::l,hl,_,i,hi,j=>by simp only[hd0,MH];exact ZzZ s t (hl t (by simp)) i hi j
theorem Zx2(s:List Nat):∀l:List T,(∀x∈l,x.good=true)->∀i,i<=s.length->∀j,(j∈Zqa s l i↔MA s l i j)
 | [],_,i,hi,j=>by simp[Zqa,MA]
 | t::l,hl,i,hi,j=>by
  simp only[Zqa,MA,List.mem_append]
  rw[ZzZ s t (hl t (by simp)) i hi j,Zx2 s l (λx hx=>hl x (by simp[hx])) i hi j]
theorem Zv1(s:List Nat):∀l:List T,(∀x∈l,x.good=true)->∀i,i<=s.length->∀j,(j∈Zg1 (e0s s l) i↔MC s l i j)
 | [],_,i,hi,j=>by simp[e0s,Zg1,MC,eq_comm]
 | t::l,hl,i,hi,j=>by
  simp only[e0s,MC]
  rw[Zk9]
  constructor
  ·rintro⟨x,hx,hj⟩
   have nU:=(ZaO s t i hi x hx).2
   exact⟨x,(ZzZ s t (hl t (by simp)) i hi x).1 hx,(Zv1 s l (λx hx=>hl x (by simp[hx])) x nU j).1 hj⟩
  ·rintro⟨x,hx,hj⟩
   have hx:=(ZzZ s t (hl t (by simp)) i hi x).2 hx
   have nU:=(ZaO s t i hi x hx).2
   exact⟨x,hx,(Zv1 s l (λx hx=>hl x (by simp[hx])) x nU j).2 hj⟩
end
theorem Zx3{t:T}(hg:t.good=true){s:List Nat}(hs:s.length<=512){i:Nat}(hi:i<=s.length)(j:Nat):j∈t.e0 s i↔j∈Zsc t s i:=by
 rw[ZzZ s t hg i hi j,Zv0 hg hs hi]
theorem ZqX{F j:Nat}{l:List Nat}:F+j∈l.map (F + ·)↔j∈l:=by
 rw[List.mem_map]
 constructor
 ·rintro⟨x,h1,h2⟩
  have:x=j:=by omega
  rw[<-this];exact h1
 ·exact λh=>⟨j,h,rfl⟩
theorem Zsd(F:Nat):∀(l seen:List Nat),Zjt (seen.map (F + ·)) (l.map (F + ·))=(Zjt seen l).map (F + ·)
 | [],seen=>rfl
 | i::l,seen=>by
  simp only[List.map_cons,Zjt,ZqX]
  split
  ·exact Zsd F l seen
  ·have:=Zsd F l (seen++[i])
   rw[List.map_append]at this
   exact this
theorem ZtN(F:Nat)(l:List Nat):ddp (l.map (F + ·))=(ddp l).map (F + ·):=Zsd F l []
theorem Zse(F len:Nat){f g:Nat->List Nat}(h:∀x,x<=len->g (F+x)=(f x).map (F + ·)):∀l:List Nat,(∀x∈l,x<=len)->(l.map (F + ·)).flatMap g=(l.flatMap f).map (F + ·)
 | [],_=>rfl
 | x::l,hl=>by
  simp only[List.map_cons,List.flatMap_cons,List.map_append]
  rw[h x (hl x (by simp)),Zse F len h l λy hy=>hl y (by simp[hy])]
def ShF(F len:Nat)(f g:Nat->List Nat):Prop:=∀x,x<=len->g (F+x)=(f x).map (F + ·)
theorem Zsf{F len:Nat}{f g:Nat->List Nat}(h:ShF F len f g)(mn mx:Int)(d i:Nat)(hi:i<=len):Zch g mn mx d (F+i)=(Zch f mn mx d i).map (F + ·):=by
 unfold Zch
 split
 ·rw[h i hi,List.filter_map]
  congr 1
  refine List.filter_congr λx _=>?_
  simp only[Function.comp]
  congr 1
  exact decide_eq_decide.2 (by omega)
 ·rfl
theorem Zsg{F len:Nat}{f g:Nat->List Nat}(hf:Zc6 len f)(h:ShF F len f g)(mn mx:Int):∀(k d i:Nat),i<=len->Zkp g mn mx k d (F+i)=(Zkp f mn mx k d i).map (F + ·)
 | 0,d,i,hi=>rfl
 | k+1,d,i,hi=>by
  simp only[Zkp]
  rw[Zsf h mn mx d i hi,Zse F len (λx hx=>Zsg hf h mn mx k (Zbb mn mx d) x hx) _ (λx hx=>(hf i hi x (Za8 hx).2.1).2)]
  have e:ZnJ mn d (F+i)=(ZnJ mn d i).map (F + ·):=by unfold ZnJ;split <;> rfl
  rw[e,<-List.map_append,ZtN]
theorem Zy3(F len:Nat)(mn mx:Int)(d i:Nat):mR (F+len) mn mx d (F+i)=mR len mn mx d i:=by
 unfold mR;split <;> omega
mutual
theorem Zu8(f s:List Nat):∀t:T,ShF f.length s.length (t.e0 s) (t.e0 (f++s))
 | .node k s0 s1 s2 s3 mn mx a c l=>λi hi=>by
  simp only[T.e0]
  split
  ·rfl
  ·split
   ·unfold Zy0
    rw[List.getElem?_append_right (by omega),show f.length+i - f.length=i by omega]
    cases s[i]? with
    | none=>rfl
    | some b=>
     simp only
     split
     ·simp[Nat.add_assoc]
     ·rfl
   ·split
    ·rw[Zv2 f s l i hi,ZtN]
    ·split
     ·rw[Zu9 f s l i hi,ZtN]
     ·split
      ·exact Zsh f s l i hi
      ·split
       ·rw[List.length_append,Zy3]
        exact Zsg (Za4 s l) (Zv2 f s l) mn mx _ 0 i hi
       ·rfl
theorem Zv2(f s:List Nat):∀l:List T,ShF f.length s.length (hd0 s l) (hd0 (f++s) l)
 | []=>λi hi=>rfl
 | t::l=>λi hi=>by simp only[hd0];exact Zu8 f s t i hi
theorem Zu9(f s:List Nat):∀l:List T,ShF f.length s.length (Zqa s l) (Zqa (f++s) l)
 | []=>λi hi=>rfl
 | t::l=>λi hi=>by simp only[Zqa];rw[Zu8 f s t i hi,Zu9 f s l i hi,List.map_append]
theorem Zsh(f s:List Nat):∀l:List T,ShF f.length s.length (Zg1 (e0s s l)) (Zg1 (e0s (f++s) l))
 | []=>λi hi=>rfl
 | t::l=>λi hi=>by
  simp only[e0s,Zg1]
  rw[Zu8 f s t i hi,Zse f.length s.length (Zsh f s l) _ (λx hx=>(ZaO s t i hi x hx).2),ZtN]
end
def PSh(F:Nat)(P Q:PL):Prop:=P.length=Q.length/\∀(q:Nat)(x y:Int×Int),P[q]?=some x->Q[q]?=some y->y=(-1,-1)\/(x.1=y.1+F/\x.2=y.2+F)
theorem PSh.set{F:Nat}{P Q:PL}(h:PSh F P Q)(g i j:Nat):PSh F (P.set g (((F+i:Nat):Int),((F+j:Nat):Int))) (Q.set g ((i:Int),(j:Int))):=by
 refine⟨by simp[h.1],λq x y hx hy=>?_⟩
 by_cases e:q=g
 ·subst e
  by_cases hl:q < P.length
  ·rw[List.getElem?_set_self hl]at hx
   rw[List.getElem?_set_self (by rw[<-h.1];exact hl)]at hy
   cases hx;cases hy
   right;constructor <;> (simp only;omega)
  ·rw[List.getElem?_eq_none_iff.2 (by simp;omega)]at hx;cases hx
 ·rw[List.getElem?_set_ne (Ne.symm e)]at hx hy
  exact h.2 q x y hx hy
theorem Zsi{F:Nat}{p p':Nat->Bool}:∀{l:List Nat},(∀x∈l,p' (F+x)=p x)->(l.map (F + ·)).find? p'=(l.find? p).map (F + ·)
 | [],_=>rfl
 | x::l,h=>by
  simp only[List.map_cons,List.find?_cons]
  rw[h x (by simp)]
  cases p x with
  | true=>rfl
  | false=>exact Zsi λy hy=>h y (by simp[hy])
theorem Zpj(B:PL){L:Nat}{W:Nat->Nat->PL->PL}(hl:∀i j P,(W i j P).length=P.length)(hW:∀i j P,L<=P.length->W i j (P++B)=W i j P++B){E:Nat->List Nat}{len:Nat}{mn mx:Int}{to:Nat}:∀{k d i:Nat} {P:PL} {r:Nat},L<=P.length->ZnK W E len mn mx to k d i (P++B) r=((ZnK W E len mn mx to k d i P r).1++B,(ZnK W E len mn mx to k d i P r).2)
 | 0,d,i,P,r,_=>rfl
 | k+1,d,i,P,r,h=>by
  unfold ZnK
  split
  ·rfl
  ·rw[hW _ _ _ h,Zpj B hl hW (by rw[hl];exact h)]
mutual
theorem Zpk(s:List Nat)(B:PL):∀(t:T)(g i to:Nat)(P:PL),g+t.ngr<=P.length->t.wk s g i to (P++B)=((t.wk s g i to P).1++B,(t.wk s g i to P).2)
 | .node k s0 s1 s2 s3 mn mx a c l=>λg i to P h=>by
  simp only[T.ngr]at h
  simp only[T.wk]
  split
  ·rename_i h6
   rw[if_pos h6]at h
   rw[ZvX _ _ _ _ (by omega),Zsj s B l (g+1) i to _ (by rw[List.length_set];omega)]
  ·rename_i h6
   rw[if_neg h6]at h
   split
   ·rw[Zpl s B l g i to P (by omega)]
   ·split
    ·rw[Zpm s B l g i to P (by omega)]
    ·split
     ·exact Zpj B (L:=g+ZdD l) (λi j P=>ZrV s l g i j P) (λi j P h=>Zsj s B l g i j P h) (by omega)
     ·rfl
theorem Zsj(s:List Nat)(B:PL):∀(l:List T)(g i to:Nat)(P:PL),g+ZdD l<=P.length->hdW s l g i to (P++B)=hdW s l g i to P++B
 | []=>λ_ _ _ _ _=>by simp[hdW]
 | t::l=>λg i to P h=>by simp only[ZdD]at h;simp only[hdW,Zpk s B t g i to P (by omega)]
theorem Zpl(s:List Nat)(B:PL):∀(l:List T)(g i to:Nat)(P:PL),g+ZdD l<=P.length->Zju s l g i to (P++B)=Zju s l g i to P++B
 | []=>λ_ _ _ _ _=>by simp[Zju]
 | t::l=>λg i to P h=>by
  simp only[ZdD]at h
  simp only[Zju]
  split
  ·rw[Zpk s B t g i to P (by omega)]
  ·rw[Zpl s B l (g+t.ngr) i to P (by omega)]
theorem Zpm(s:List Nat)(B:PL):∀(l:List T)(g i to:Nat)(P:PL),g+ZdD l<=P.length->Zja s l g i to (P++B)=Zja s l g i to P++B
 | []=>λ_ _ _ _ _=>by simp[Zja]
 | t::l=>λg i to P h=>by
  simp only[ZdD]at h
  simp only[Zja]
  split
  ·rfl
  ·rename_i j _
   rw[Zpk s B t g i j P (by omega),Zpm s B l (g+t.ngr) j to _ (by rw[Zk8];omega)]
end
def shP(F:Nat)(y:Int×Int):Int×Int:=if y=(-1,-1)then y else(y.1+F,y.2+F)
theorem Zx4(F i j:Nat):shP F ((i:Int),(j:Int))=(((F+i:Nat):Int),((F+j:Nat):Int)):=by
 unfold shP
 rw[if_neg (by intro h;have:=congrArg Prod.fst h;simp only at this;omega)]
 refine Prod.ext ?_ ?_ <;> (simp only;omega)
theorem Zx5(F n:Nat):(List.replicate n ((-1:Int),(-1:Int))).map (shP F)=List.replicate n (-1,-1):=by
 rw[List.map_replicate];congr 1
theorem ZqY(F g i j:Nat)(Q:PL):(Q.map (shP F)).set g (((F+i:Nat):Int),((F+j:Nat):Int))=(Q.set g ((i:Int),(j:Int))).map (shP F):=by
 rw[List.map_set,Zx4]
theorem Zsk{F len:Nat}{W W':Nat->Nat->PL->PL}{E E':Nat->List Nat}(hE:Zc6 len E)(hS:ShF F len E E')(mn mx:Int)(to:Nat)(hW:∀i j Q,i<=len->j<=len->W' (F+i) (F+j) (Q.map (shP F))=(W i j Q).map (shP F)):∀(k d i:Nat)(Q:PL)(r:Nat),i<=len->
  ZnK W' E' (F+len) mn mx (F+to) k d (F+i) (Q.map (shP F)) r=((ZnK W E len mn mx to k d i Q r).1.map (shP F),(ZnK W E len mn mx to k d i Q r).2)
 | 0,d,i,Q,r,hi=>rfl
 | k+1,d,i,Q,r,hi=>by
  unfold ZnK
  rw[Zsf hS mn mx d i hi,Zsi (p:=λj=>decide (to∈Zkp E mn mx (mR len mn mx (Zbb mn mx d) j+1) (Zbb mn mx d) j)) (λx hx=>by
   rw[Zy3,Zsg hE hS mn mx _ _ x (hE i hi x (Za8 hx).2.1).2]
   exact decide_eq_decide.2 ZqX)]
  cases eZ:(Zch E mn mx d i).find? (λj=>decide (to∈Zkp E mn mx (mR len mn mx (Zbb mn mx d) j+1) (Zbb mn mx d) j))with
  | none=>rfl
  | some j=>
   have hj:=(hE i hi j (Za8 (List.mem_of_find?_eq_some eZ)).2.1).2
   simp only[Option.map_some]
   rw[hW i j Q hi hj]
   exact Zsk hE hS mn mx to hW k (Zbb mn mx d) j _ (r+1) hj
mutual
theorem ZtO(f s:List Nat):∀(t:T)(g i to:Nat)(Q:PL),i<=s.length->to<=s.length->
  t.wk (f++s) g (f.length+i) (f.length+to) (Q.map (shP f.length))=((t.wk s g i to Q).1.map (shP f.length),(t.wk s g i to Q).2)
 | .node k s0 s1 s2 s3 mn mx a c l=>λg i to Q hi ht=>by
  simp only[T.wk]
  split
  ·rw[ZqY,Zva f s l _ i to _ hi ht]
  ·split
   ·rw[Zsl f s l _ i to _ hi ht]
   ·split
    ·rw[Zsm f s l _ i to _ hi ht]
    ·split
     ·rw[List.length_append,Zy3]
      exact Zsk (Za4 s l) (Zv2 f s l) mn mx to (λi j Q hi hj=>Zva f s l g i j Q hi hj) _ 0 i Q 0 hi
     ·rfl
theorem Zva(f s:List Nat):∀(l:List T)(g i to:Nat)(Q:PL),i<=s.length->to<=s.length->hdW (f++s) l g (f.length+i) (f.length+to) (Q.map (shP f.length))=(hdW s l g i to Q).map (shP f.length)
 | []=>λ_ _ _ _ _ _=>by simp[hdW]
 | t::_=>λg i to Q hi ht=>by simp only[hdW];rw[ZtO f s t g i to Q hi ht]
theorem Zsl(f s:List Nat):∀(l:List T)(g i to:Nat)(Q:PL),i<=s.length->to<=s.length->Zju (f++s) l g (f.length+i) (f.length+to) (Q.map (shP f.length))=(Zju s l g i to Q).map (shP f.length)
 | []=>λ_ _ _ _ _ _=>by simp[Zju]
 | t::l=>λg i to Q hi ht=>by
  simp only[Zju]
  rw[Zu8 f s t i hi]
  simp only[ZqX]
  split
  ·rw[ZtO f s t g i to Q hi ht]
  ·exact Zsl f s l _ i to Q hi ht
theorem Zsm(f s:List Nat):∀(l:List T)(g i to:Nat)(Q:PL),i<=s.length->to<=s.length->Zja (f++s) l g (f.length+i) (f.length+to) (Q.map (shP f.length))=(Zja s l g i to Q).map (shP f.length)
 | []=>λ_ _ _ _ _ _=>by simp[Zja]
 | t::l=>λg i to Q hi ht=>by
  simp only[Zja]
  rw[Zu8 f s t i hi,Zsi (p:=λj=>decide (to∈Zg1 (e0s s l) j)) (λx hx=>by
   rw[Zsh f s l x (ZaO s t i hi x hx).2]
   exact decide_eq_decide.2 ZqX)]
  cases eZ:(t.e0 s i).find? (λj=>decide (to∈Zg1 (e0s s l) j))with
  | none=>rfl
  | some j=>
   have hj:=(ZaO s t i hi j (List.mem_of_find?_eq_some eZ)).2
   simp only[Option.map_some]
   rw[ZtO f s t g i j Q hi hj]
   exact Zsm f s l _ j to _ hj ht
end
theorem Zjd(q:Nat->Bool):∀(l seen:List Nat),Zjt (seen.filter q) (l.filter q)=(Zjt seen l).filter q
 | [],seen=>rfl
 | i::l,seen=>by
  by_cases hq:q i=true
  ·rw[List.filter_cons_of_pos hq]
   simp only[Zjt]
   by_cases h:i∈seen
   ·rw[if_pos h,if_pos (List.mem_filter.2 ⟨h,hq⟩)]
    exact Zjd q l seen
   ·rw[if_neg h,if_neg (λh'=>h (List.mem_filter.1 h').1)]
    have:=Zjd q l (seen++[i])
    rw[List.filter_append,List.filter_cons_of_pos hq]at this
    exact this
  ·rw[List.filter_cons_of_neg hq]
   simp only[Zjt]
   by_cases h:i∈seen
   ·rw[if_pos h];exact Zjd q l seen
   ·rw[if_neg h]
    have:=Zjd q l (seen++[i])
    rw[List.filter_append,List.filter_cons_of_neg hq,List.filter_nil,List.append_nil]at this
    exact this
def Zpn(n:Nat)(j:Nat):Bool:=decide (j<=n)
theorem Zpo(q:Nat->Bool)(l:List Nat):ddp (l.filter q)=(ddp l).filter q:=Zjd q l []
def TkF(n:Nat)(f f':Nat->List Nat):Prop:=∀i,i<=n->f' i=(f i).filter (Zpn n)
theorem Zsn{n len:Nat}{g g':Nat->List Nat}(hg:Zc6 len g)(h:TkF n g g'):∀l:List Nat,(∀x∈l,x<=len)->(l.filter (Zpn n)).flatMap g'=(l.flatMap g).filter (Zpn n)
 | [],_=>rfl
 | x::l,hl=>by
  have ih:=Zsn hg h l λy hy=>hl y (by simp[hy])
  rw[List.flatMap_cons,List.filter_append]
  by_cases hx:Zpn n x=true
  ·rw[List.filter_cons_of_pos hx,List.flatMap_cons,ih,h x (by simpa[Zpn]using hx)]
  ·rw[List.filter_cons_of_neg hx,ih]
   have:(g x).filter (Zpn n)=[]:=by
    rw[List.filter_eq_nil_iff]
    intro y hy
    have:=(hg x (hl x (by simp)) y hy).1
    have hx:¬x<=n:=by simpa[Zpn]using hx
    simp[Zpn];omega
   rw[this,List.nil_append]
theorem Zso{n:Nat}{f f':Nat->List Nat}(h:TkF n f f')(mn mx:Int)(d i:Nat)(hi:i<=n):Zch f' mn mx d i=(Zch f mn mx d i).filter (Zpn n):=by
 unfold Zch
 split
 ·rw[h i hi,List.filter_filter,List.filter_filter]
  refine List.filter_congr λx _=>Bool.and_comm _ _
 ·rfl
theorem Zsp{n len:Nat}(hn:n<=len){f f':Nat->List Nat}(hf:Zc6 len f)(h:TkF n f f')(mn mx:Int):∀(k d i:Nat),i<=n->Zkp f' mn mx k d i=(Zkp f mn mx k d i).filter (Zpn n)
 | 0,d,i,hi=>rfl
 | k+1,d,i,hi=>by
  simp only[Zkp]
  rw[Zso h mn mx d i hi,Zsn (Zdf hf) (λx hx=>Zsp hn hf h mn mx k (Zbb mn mx d) x hx) _ (λx hx=>(hf i (by omega) x (Za8 hx).2.1).2)]
  have e:ZnJ mn d i=(ZnJ mn d i).filter (Zpn n):=by
   unfold ZnJ
   split
   ·rw[List.filter_cons_of_pos (by simpa[Zpn]using hi)];rfl
   ·rfl
  conv=>lhs;rw[e]
  rw[<-List.filter_append,Zpo]
theorem Zz1{n len:Nat}(h:n<=len)(mn mx:Int)(d i:Nat):mR n mn mx d i<=mR len mn mx d i:=by unfold mR;split <;> omega
theorem Zx6{t:T}(hr:t.right=true)(hk:t.k=5):0<=t.mn/\(t.mx=-1\/t.mn<=t.mx):=by
 have hk':=ZfK hr
 obtain⟨_,b1,_,b3⟩:(∃x,t.subs=[x])/\0<=t.mn/\t.mn<=16/\(t.mx=-1\/(1<=t.mx/\t.mn<=t.mx/\t.mx<=16)):=by
  rcases hk' with h|h|h|h|h|h <;> first|omega|exact⟨h.2.1,h.2.2⟩
 exact⟨b1,b3.imp id λh=>h.2.1⟩
mutual
theorem ZtP(s:List Nat)(n:Nat)(hn:n<=s.length):∀t:T,t.good=true->TkF n (t.e0 s) (t.e0 (s.take n))
 | .node k s0 s1 s2 s3 mn mx a c l=>λhg i hi=>by
  obtain⟨hr,hl⟩:=Zd9 hg
  have hl:∀x∈l,x.good=true:=hl
  have eU:(s.take n).length=n:=by rw[List.length_take];omega
  simp only[T.e0]
  split
  ·rw[List.filter_cons_of_pos (by simpa[Zpn]using hi)];rfl
  ·split
   ·unfold Zy0
    by_cases eP:i < n
    ·rw[List.getElem?_take_of_lt eP]
     cases s[i]? with
     | none=>rfl
     | some b=>
      simp only
      split
      ·rw[List.filter_cons_of_pos (by simp[Zpn];omega)];rfl
      ·rfl
    ·rw[List.getElem?_eq_none_iff.2 (by rw[eU];omega)]
     cases s[i]? with
     | none=>rfl
     | some b=>
      simp only
      split
      ·rw[List.filter_cons_of_neg (by simp[Zpn];omega)];rfl
      ·rfl
   ·split
    ·rw[Zv3 s n hn l hl i hi,Zpo]
    ·split
     ·rw[Zvb s n hn l hl i hi,Zpo]
     ·split
      ·exact Zsq s n hn l hl i hi
      ·split
       ·rename_i h5
        obtain⟨b1,b2⟩:0<=mn/\(mx=-1\/mn<=mx):=Zx6 hr h5
        have hw:Zc6 n (hd0 (s.take n) l):=by have:=Za4 (s.take n) l;rwa [eU]at this
        rw[eU,Zij (k':=mR s.length mn mx 0 i+1) hw b1 b2 hi (Nat.lt_succ_self _) (by have:=Zz1 hn mn mx 0 i;omega)]
        exact Zsp hn (Za4 s l) (Zv3 s n hn l hl) mn mx _ 0 i hi
       ·rfl
theorem Zv3(s:List Nat)(n:Nat)(hn:n<=s.length):∀l:List T,(∀x∈l,x.good=true)->TkF n (hd0 s l) (hd0 (s.take n) l)
 | []=>λ_ i hi=>rfl
 | t::l=>λh i hi=>by simp only[hd0];exact ZtP s n hn t (h t (by simp)) i hi
theorem Zvb(s:List Nat)(n:Nat)(hn:n<=s.length):∀l:List T,(∀x∈l,x.good=true)->TkF n (Zqa s l) (Zqa (s.take n) l)
 | []=>λ_ i hi=>rfl
 | t::l=>λh i hi=>by
  simp only[Zqa]
  rw[ZtP s n hn t (h t (by simp)) i hi,Zvb s n hn l (λx hx=>h x (by simp[hx])) i hi,List.filter_append]
theorem Zsq(s:List Nat)(n:Nat)(hn:n<=s.length):∀l:List T,(∀x∈l,x.good=true)->TkF n (Zg1 (e0s s l)) (Zg1 (e0s (s.take n) l))
 | []=>λ_ i hi=>by
  show[i]=[i].filter (Zpn n)
  rw[List.filter_cons_of_pos (by simpa[Zpn]using hi)];rfl
 | t::l=>λh i hi=>by
  simp only[e0s,Zg1]
  rw[ZtP s n hn t (h t (by simp)) i hi,Zsn (Zde (Zfs s l)) (Zsq s n hn l (λx hx=>h x (by simp[hx]))) _ (λx hx=>(ZaO s t i (by omega) x hx).2),Zpo]
end
theorem Zsr{n:Nat}{p p':Nat->Bool}:∀{l:List Nat},(∀x∈l,x<=n->p' x=p x)->(∀x∈l,n < x->p x=false)->(l.filter (Zpn n)).find? p'=l.find? p
 | [],_,_=>rfl
 | x::l,h1,h2=>by
  have ih:=Zsr (l:=l) (λy hy=>h1 y (by simp[hy])) (λy hy=>h2 y (by simp[hy]))
  by_cases hx:x<=n
  ·rw[List.filter_cons_of_pos (by simpa[Zpn]using hx),List.find?_cons,List.find?_cons,h1 x (by simp) hx,ih]
  ·rw[List.filter_cons_of_neg (by simpa[Zpn]using hx),List.find?_cons,h2 x (by simp) (by omega),ih]
theorem ZqZ{n j:Nat}{l:List Nat}(h:j<=n):j∈l.filter (Zpn n)↔j∈l:=by rw[List.mem_filter];simp[Zpn,h]
theorem Zvc{n len:Nat}(hn:n<=len){W W':Nat->Nat->PL->PL}{E E':Nat->List Nat}(hE:Zc6 len E)(hE':Zc6 n E')(hS:TkF n E E'){mn mx:Int}(fZ:0<=mn)(eF:mx=-1\/mn<=mx){to:Nat}(jS:to<=n)(hW:∀i j P,i<=n->j<=n->W' i j P=W i j P):∀(k k' d i:Nat)(P:PL)(r:Nat),i<=n->mR len mn mx d i < k->mR n mn mx d i < k'->
  ZnK W' E' n mn mx to k' d i P r=ZnK W E len mn mx to k d i P r
 | 0,k',d,i,P,r,hi,h,_=>by omega
 | k+1,0,d,i,P,r,hi,_,h=>by omega
 | k+1,k'+1,d,i,P,r,hi,h1,h2=>by
  have eP:i<=len:=by omega
  unfold ZnK
  rw[Zso hS mn mx d i hi,Zsr (p:=λj=>decide (to∈Zkp E mn mx (mR len mn mx (Zbb mn mx d) j+1) (Zbb mn mx d) j)) (λx hx ro=>by
    rw[Zij (k':=mR len mn mx (Zbb mn mx d) x+1) hE' fZ eF ro (Nat.lt_succ_self _) (by have:=Zz1 hn mn mx (Zbb mn mx d) x;omega),Zsp hn hE hS mn mx _ _ x ro]
    exact decide_eq_decide.2 (ZqZ jS))
   (λx hx ro=>decide_eq_false λh=>by
    have:=(Zdf hE (k:=mR len mn mx (Zbb mn mx d) x+1) (d:=Zbb mn mx d) (mn:=mn) (mx:=mx) x (hE i eP x (Za8 hx).2.1).2 to h).1
    omega)]
  cases eZ:(Zch E mn mx d i).find? (λj=>decide (to∈Zkp E mn mx (mR len mn mx (Zbb mn mx d) j+1) (Zbb mn mx d) j))with
  | none=>rfl
  | some j=>
   obtain⟨g1,g2,g3⟩:=Za8 (List.mem_of_find?_eq_some eZ)
   obtain⟨g4,g5⟩:=hE i eP j g2
   have zQ:to∈Zkp E mn mx (mR len mn mx (Zbb mn mx d) j+1) (Zbb mn mx d) j:=by have:=List.find?_some eZ;simpa using this
   have wi:j<=n:=by
    have:=(Zdf hE (k:=mR len mn mx (Zbb mn mx d) j+1) (d:=Zbb mn mx d) (mn:=mn) (mx:=mx) j g5 to zQ).1
    omega
   simp only
   rw[hW i j P hi wi]
   have l1:=ZrS (len:=len) fZ eF g1 ⟨g4,g5⟩ g3
   have l2:=ZrS (len:=n) fZ eF g1 ⟨g4,wi⟩ g3
   exact Zvc hn hE hE' hS fZ eF jS hW k k' (Zbb mn mx d) j _ (r+1) wi (by omega) (by omega)
mutual
theorem Zx7(s:List Nat)(n:Nat)(hn:n<=s.length):∀(t:T),t.good=true->∀(g i to:Nat)(P:PL),i<=n->to<=n->t.wk (s.take n) g i to P=t.wk s g i to P
 | .node k s0 s1 s2 s3 mn mx a c l=>λhg g i to P hi ht=>by
  obtain⟨hr,hl⟩:=Zd9 hg
  have hl:∀x∈l,x.good=true:=hl
  have eU:(s.take n).length=n:=by rw[List.length_take];omega
  simp only[T.wk]
  split
  ·rw[Zx8 s n hn l hl _ i to _ hi ht]
  ·split
   ·rw[Zvd s n hn l hl _ i to _ hi ht]
   ·split
    ·rw[Zve s n hn l hl _ i to _ hi ht]
    ·split
     ·rename_i h5
      obtain⟨b1,b2⟩:0<=mn/\(mx=-1\/mn<=mx):=Zx6 hr h5
      have hw:Zc6 n (hd0 (s.take n) l):=by have:=Za4 (s.take n) l;rwa [eU]at this
      rw[eU]
      exact Zvc hn (Za4 s l) hw (Zv3 s n hn l hl) b1 b2 ht (λi j P hi hj=>Zx8 s n hn l hl g i j P hi hj) _ _ 0 i P 0 hi (Nat.lt_succ_self _) (Nat.lt_succ_self _)
     ·rfl
theorem Zx8(s:List Nat)(n:Nat)(hn:n<=s.length):∀(l:List T),(∀x∈l,x.good=true)->∀(g i to:Nat)(P:PL),i<=n->to<=n->hdW (s.take n) l g i to P=hdW s l g i to P
 | []=>λ_ _ _ _ _ _ _=>by simp[hdW]
 | t::_=>λh g i to P hi ht=>by simp only[hdW];rw[Zx7 s n hn t (h t (by simp)) g i to P hi ht]
theorem Zvd(s:List Nat)(n:Nat)(hn:n<=s.length):∀(l:List T),(∀x∈l,x.good=true)->∀(g i to:Nat)(P:PL),i<=n->to<=n->Zju (s.take n) l g i to P=Zju s l g i to P
 | []=>λ_ _ _ _ _ _ _=>by simp[Zju]
 | t::l=>λh g i to P hi ht=>by
  simp only[Zju]
  rw[ZtP s n hn t (h t (by simp)) i hi]
  simp only[ZqZ ht]
  split
  ·rw[Zx7 s n hn t (h t (by simp)) g i to P hi ht]
  ·exact Zvd s n hn l (λx hx=>h x (by simp[hx])) _ i to P hi ht
theorem Zve(s:List Nat)(n:Nat)(hn:n<=s.length):∀(l:List T),(∀x∈l,x.good=true)->∀(g i to:Nat)(P:PL),i<=n->to<=n->Zja (s.take n) l g i to P=Zja s l g i to P
 | []=>λ_ _ _ _ _ _ _=>by simp[Zja]
 | t::l=>λh g i to P hi ht=>by
  have hl:∀x∈l,x.good=true:=λx hx=>h x (by simp[hx])
  simp only[Zja]
  rw[ZtP s n hn t (h t (by simp)) i hi,Zsr (p:=λj=>decide (to∈Zg1 (e0s s l) j)) (λx hx ro=>by
    rw[Zsq s n hn l hl x ro]
    exact decide_eq_decide.2 (ZqZ ht))
   (λx hx ro=>decide_eq_false λh'=>by
    have:=(Zde (Zfs s l) x (ZaO s t i (by omega) x hx).2 to h').1
    omega)]
  cases eZ:(t.e0 s i).find? (λj=>decide (to∈Zg1 (e0s s l) j))with
  | none=>rfl
  | some j=>
   have h1:=(ZaO s t i (by omega) j (List.mem_of_find?_eq_some eZ)).2
   have h2:to∈Zg1 (e0s s l) j:=by have:=List.find?_some eZ;simpa using this
   have hj:j<=n:=by
    have:=(Zde (Zfs s l) j h1 to h2).1
    omega
   simp only
   rw[Zx7 s n hn t (h t (by simp)) g i j P hi hj]
   exact Zve s n hn l hl _ j to _ hj ht
end
theorem ZgV{t x:T}{k:Int}{L:List T}{a:Option Addr}{c:Nat}(hk:k=3\/k=4)(hc:t.check=0)(he:t.er=(Zas k 0 0 a c L).er)(hx:x∈L):x.check=0:=by
 rw[ZvU he]at hc
 obtain⟨hg,hn⟩:=Zb1 hc
 have e:(Zas k 0 0 a c L).nodes=Zas k 0 0 a c L::Zal L:=by rw[Zbh];rfl
 have zR:x.good=true:=(Zd9 hg).2 x hx
 obtain⟨A,B,yd⟩:=List.append_of_mem hx
 have qL:Zal L=Zal A++(x.nodes++Zal B):=by rw[yd,ZcQ];simp[Zal]
 have zS:x.nodes.length<=119:=by
  rw[e,qL]at hn;simp only[List.length_cons,List.length_append]at hn;omega
 have hl:x.light=true:=by unfold T.light;exact decide_eq_true (by omega)
 have ye:(Zas k 0 0 a c L).light=true:=by unfold T.light;exact decide_eq_true (by omega)
 have eK:x.clean=true:=by unfold T.clean;rw[hl];exact zR
 unfold T.check at hc
 unfold T.check
 rw[eK]
 split at hc
 ·cases hc
 split at hc
 ·cases hc
 split at hc
 ·cases hc
 rename_i h3
 split at hc
 ·cases hc
 rename_i h4
 have hp:x.pos<=400:=by
  unfold T.positions at h3
  rw[ye,if_pos rfl,ZoR]at h3
  have h3:¬ZuF k 0 0 ((if k=2 then 1 else 0)+ZeK L) > 400:=h3
  have nZ:∀L:List T,0<=ZeK L:=Zhv
  have cV:∀A:List T,ZeK (A++x::B)=ZeK A+(x.pos+ZeK B):=λA=>by
   induction A with
   | nil=>simp[ZeK]
   | cons y A ih=>rw[List.cons_append,ZeK,ZeK,ih];omega
  rw[yd,cV]at h3
  have:=nZ A
  have:=nZ B
  have:=(Zig x).1
  unfold ZuF ZqN at h3
  rw[if_neg (by omega:¬k=5),if_neg (by omega:¬k=2)]at h3
  split at h3 <;> omega
 have lO:(x.nodes.countP λx=>x.k == 6)<=9:=by
  unfold T.groups at h4
  rw[ye,if_pos rfl,e,List.countP_cons,qL,List.countP_append,List.countP_append]at h4
  omega
 unfold T.size T.positions T.groups
 rw[hl]
 simp only[if_true,Bool.true_eq_false,if_false]
 rw[if_neg (by omega),if_neg (by omega),if_neg (by omega)]
theorem Zlh(p:Nat->Bool):∀(l seen:List Nat),(∀x∈seen,p x=false)->(Zjt seen l).find? p=l.find? p
 | [],seen,h=>by
  unfold Zjt
  rw[List.find?_eq_none.2 (λx hx=>by simp[h x hx])];rfl
 | i::l,seen,h=>by
  simp only[Zjt]
  split
  ·rename_i hi
   rw[List.find?_cons,h i hi]
   exact Zlh p l seen h
  ·cases hp:p i with
   | false=>
    rw[List.find?_cons,hp]
    exact Zlh p l (seen++[i]) λx hx=>by
     rcases List.mem_append.1 hx with hx|hx
     ·exact h x hx
     ·have:x=i:=by simpa using hx
      rw[this];exact hp
   | true=>
    rw[List.find?_cons,hp]
    have:∀(l seen:List Nat),(∃r,seen=r++[i]/\∀x∈r,p x=false)\/seen.find? p=some i->(Zjt seen l).find? p=some i:=λl=>by
     induction l with
     | nil=>
      intro seen hs
      rcases hs with⟨r,rfl,hr⟩|hs
      ·unfold Zjt;rw[List.find?_append,List.find?_eq_none.2 (λx hx=>by simp[hr x hx])];simp[hp]
      ·exact hs
     | cons y l ih=>
      intro seen hs
      have hs':seen.find? p=some i:=by
       rcases hs with⟨r,rfl,hr⟩|hs
       ·rw[List.find?_append,List.find?_eq_none.2 (λx hx=>by simp[hr x hx])];simp[hp]
       ·exact hs
      simp only[Zjt]
      split
      ·exact ih seen (.inr hs')
      ·exact ih (seen++[y]) (.inr (by rw[List.find?_append,hs'];rfl))
    exact this l (seen++[i]) (.inl ⟨seen,rfl,h⟩)
theorem Zv4(p:Nat->Bool)(l:List Nat):(ddp l).find? p=l.find? p:=Zlh p l [] (by simp)
theorem Zv5{l:List Nat}{n:Nat}(h:n∈l):l.find? (λj=>decide (n∈Zg1 [] j))=some n:=by
 have hp:∀j,decide (n∈Zg1 [] j)=decide (n=j):=λj=>decide_eq_decide.2 (by simp[Zg1])
 simp only[hp]
 induction l with
 | nil=>simp at h
 | cons x l ih=>
  rw[List.find?_cons]
  by_cases e:n=x
  ·subst e;simp
  ·rw[decide_eq_false e]
   exact ih (by rcases List.mem_cons.1 h with h|h;exact absurd h e;exact h)
theorem Zx9{E G1 G2 t1 t2:T}{a a1 a2:Option Addr}{c c1 c2:Nat}{s:List Nat}(he:E.er=(Zas 3 0 0 a c [G1,G2]).er)(uD:G1.er=(Zas 6 0 0 a1 c1 [t1]).er)(uE:G2.er=(Zas 6 0 0 a2 c2 [t2]).er)(hc:E.check=0)(hs:s.length<=512):
  ZbG E s=match(t1.e0 s 0).find? (λi=>decide ((s.drop i).length∈t2.e0 (s.drop i) 0))with
   | none=>([],141)
   | some i=>((ZbG G1 (s.take i)).1++(ZbG G2 (s.drop i)).1.map (shP i),0):=by
 have k1:=ZgV (.inl rfl) hc he (x:=G1) (by simp)
 have k2:=ZgV (.inl rfl) hc he (x:=G2) (by simp)
 have w0:=Zdv hc hs
 have e1:Znb E s=Znb (Zas 3 0 0 a c [G1,G2]) s:=by rw[<-Zj9,he,Zj9]
 have e2:E.e0 s 0=(Zas 3 0 0 a c [G1,G2]).e0 s 0:=by rw[<-Zin,he,Zin]
 have e3:(Zas 3 0 0 a c [G1,G2]).e0 s 0=Zg1 (e0s s [G1,G2]) 0:=by unfold Zas;simp[T.e0]
 have wj:∀(s:List Nat)(i:Nat),G1.e0 s i=ddp (t1.e0 s i):=λs i=>by
  have:G1.e0 s i=(Zas 6 0 0 a1 c1 [t1]).e0 s i:=by rw[<-Zin,uD,Zin]
  rw[this]
  have:(Zas 6 0 0 a1 c1 [t1]).e0 s i=ddp (hd0 s [t1] i):=by unfold Zas;simp[T.e0]
  rw[this];rfl
 have yf:∀(s:List Nat)(i:Nat),G2.e0 s i=ddp (t2.e0 s i):=λs i=>by
  have:G2.e0 s i=(Zas 6 0 0 a2 c2 [t2]).e0 s i:=by rw[<-Zin,uE,Zin]
  rw[this]
  have:(Zas 6 0 0 a2 c2 [t2]).e0 s i=ddp (hd0 s [t2] i):=by unfold Zas;simp[T.e0]
  rw[this];rfl
 have jN:∀i,i<=s.length->(s.length∈G2.e0 s i↔(s.drop i).length∈t2.e0 (s.drop i) 0):=λi hi=>by
  have h:=Zu8 (s.take i) (s.drop i) G2 0 (by omega)
  have oB:(s.take i).length=i:=by rw[List.length_take];omega
  rw[List.take_append_drop,oB,Nat.add_zero]at h
  rw[h,List.length_drop]
  have:=ZqX (F:=i) (j:=s.length - i) (l:=G2.e0 (s.drop i) 0)
  rw[show i+(s.length - i)=s.length by omega]at this
  rw[this,yf,ZcU]
 have lB:∀j,s.length∈Zg1 (e0s s [G2]) j↔s.length∈G2.e0 s j:=λj=>by
  simp only[e0s]
  rw[Zk9]
  constructor
  ·rintro⟨x,hx,h⟩
   have h:s.length=x:=by simpa[Zg1]using h
   rw[<-h]at hx;exact hx
  ·exact λh=>⟨s.length,h,by simp[Zg1]⟩
 have fT:(G1.e0 s 0).find? (λj=>decide (s.length∈Zg1 (e0s s [G2]) j))=(t1.e0 s 0).find? (λi=>decide ((s.drop i).length∈t2.e0 (s.drop i) 0)):=by
  rw[wj,Zv4]
  have hw:∀x∈t1.e0 s 0,x<=s.length:=λx hx=>(ZaO s t1 0 (by omega) x hx).2
  generalize t1.e0 s 0=l at hw
  induction l with
  | nil=>rfl
  | cons x l ih=>
   rw[List.find?_cons,List.find?_cons,ih λy hy=>hw y (by simp[hy])]
   have:decide (s.length∈Zg1 (e0s s [G2]) x)=decide ((s.drop x).length∈t2.e0 (s.drop x) 0):=decide_eq_decide.2 ((lB x).trans (jN x (hw x (by simp))))
   rw[this]
 have cG:s.length∈E.e0 s 0↔∃i,i∈G1.e0 s 0/\s.length∈G2.e0 s i:=by
  rw[e2,e3]
  simp only[e0s]
  rw[Zk9]
  constructor
  ·rintro⟨x,h1,h2⟩;exact⟨x,h1,(lB x).1 (by simpa[e0s]using h2)⟩
  ·rintro⟨x,h1,h2⟩;exact⟨x,h1,by simpa[e0s]using(lB x).2 h2⟩
 cases eZ:(t1.e0 s 0).find? (λi=>decide ((s.drop i).length∈t2.e0 (s.drop i) 0))with
 | none=>
  have gY:s.length ∉ E.e0 s 0:=λh=>by
   obtain⟨i,h1,h2⟩:=cG.1 h
   rw[<-fT]at eZ
   have:=List.find?_eq_none.1 eZ i h1
   exact this (decide_eq_true ((lB i).2 h2))
  unfold ZbG
  rw[if_neg (by simp[w0]),if_neg gY]
 | some i=>
  have fW:i∈t1.e0 s 0:=List.mem_of_find?_eq_some eZ
  have gW:(s.drop i).length∈t2.e0 (s.drop i) 0:=by have:=List.find?_some eZ;simpa using this
  have pZ:=(ZaO s t1 0 (by omega) i fW).2
  have jS:s.length∈G2.e0 s i:=(jN i pZ).2 gW
  have wl:s.length∈E.e0 s 0:=cG.2 ⟨i,by rw[wj,ZcU];exact fW,jS⟩
  have hn:(Zas 3 0 0 a c [G1,G2]).ngr=G1.ngr+G2.ngr:=by
   show(if(3:Int)=6 then 1 else 0)+(G1.ngr+(G2.ngr+0))=_
   rw[if_neg (by decide)];omega
  have eU:(s.take i).length=i:=by rw[List.length_take];omega
  have tg:(s.drop i).length=s.length - i:=List.length_drop ..
  have zT:(ZbG G1 (s.take i)).1=(G1.wk s 0 0 i (List.replicate G1.ngr (-1,-1))).1:=by
   have w1:=Zdv k1 (n:=(s.take i).length) (by omega)
   have eP:(s.take i).length∈G1.e0 (s.take i) 0:=by
    rw[eU,ZtP s i pZ G1 (Zb1 k1).1 0 (by omega),ZqZ (Nat.le_refl _),wj,ZcU];exact fW
   unfold ZbG
   rw[if_neg (by rw[w1];simp),if_pos eP]
   unfold Znb
   rw[eU,Zx7 s i pZ G1 (Zb1 k1).1 0 0 i _ (by omega) (Nat.le_refl _)]
  have zU:(ZbG G2 (s.drop i)).1.map (shP i)=(G2.wk s 0 i s.length (List.replicate G2.ngr (-1,-1))).1:=by
   have w2:=Zdv k2 (n:=(s.drop i).length) (by omega)
   have eP:(s.drop i).length∈G2.e0 (s.drop i) 0:=by rw[yf,ZcU];exact gW
   unfold ZbG
   rw[if_neg (by rw[w2];simp),if_pos eP]
   unfold Znb
   have:=ZtO (s.take i) (s.drop i) G2 0 0 (s.drop i).length (List.replicate G2.ngr (-1,-1)) (by omega) (Nat.le_refl _)
   rw[List.take_append_drop,eU,Zx5,Nat.add_zero,tg,show i+(s.length - i)=s.length by omega]at this
   rw[this,tg]
  have c7:List.replicate (G1.ngr+G2.ngr) ((-1:Int),(-1:Int))=List.replicate G1.ngr (-1,-1)++List.replicate G2.ngr (-1,-1):=by simp
  have e4:(Znb E s).1=(G1.wk s 0 0 i (List.replicate G1.ngr (-1,-1))).1++(G2.wk s 0 i s.length (List.replicate G2.ngr (-1,-1))).1:=by
   rw[e1]
   unfold Znb
   rw[hn,Zy1]
   show(if(3:Int)=6 then _ else if(3:Int)=4 then _ else if(3:Int)=3 then _ else _:PL×Nat).1=_
   rw[if_neg (by decide),if_neg (by decide),if_pos rfl]
   show Zja s [G1,G2] 0 0 s.length (List.replicate (G1.ngr+G2.ngr) (-1,-1))=_
   simp only[Zja]
   rw[fT,eZ]
   simp only
   have wm:(G2.e0 s i).find? (λj=>decide (s.length∈Zg1 (e0s s []) j))=some s.length:=Zv5 jS
   rw[wm]
   simp only
   rw[c7,Zpk s _ G1 0 0 i _ (by simp)]
   have lX:(G1.wk s 0 0 i (List.replicate G1.ngr (-1,-1))).1.length=G1.ngr:=by rw[Zk8,List.length_replicate]
   have:=ZtG s (G1.wk s 0 0 i (List.replicate G1.ngr (-1,-1))).1 G2 0 i s.length (List.replicate G2.ngr (-1,-1))
   rw[lX,Nat.add_zero]at this
   rw[Nat.zero_add,this]
  simp only
  rw[zT,zU,<-e4]
  unfold ZbG
  rw[if_neg (by simp[w0]),if_pos wl]
theorem Zss{t:T}(h:t.check=0):t.ngr<=9:=by
 have h1:=Zjc h
 unfold T.check at h
 split at h
 ·cases h
 split at h
 ·cases h
 split at h
 ·cases h
 split at h
 ·cases h
 ·omega
structure Rnd (E:Nat->List Nat)(W:Nat->Nat->PL->PL)(P0:PL)(mn mx:Int)(i:Nat)(P:PL)(r:Nat):Prop where
 wn:mx=-1\/(r:Int)<=mx
 few:(r:Int)<=mn+i
 none:r=0->i=0/\P=P0
 last:0 < r->∃(fr:Nat)(Pp:PL),fr<=i/\i∈E fr/\(mn < (r:Int)->fr≠i)/\Pp.length=P0.length/\P=W fr i Pp
structure Rounds (t G:T)(lo hi:Int)(s:List Nat)(P:PL)(r:Nat):Prop where
 low:lo<=r
 wn:hi=-1\/(r:Int)<=hi
 few:(r:Int)<=lo+s.length
 len:P.length=t.ngr+1
 none:r=0->s.length=0/\P[0]?=some (-1,-1)
 last:0 < r->∃fr:Nat,fr<=s.length/\s.length∈t.e0 s fr/\(lo < (r:Int)->fr≠s.length)/\P[0]?=some ((fr:Int),(s.length:Int))/\PSh fr P (Znb G (s.drop fr)).1
end Go.Rx