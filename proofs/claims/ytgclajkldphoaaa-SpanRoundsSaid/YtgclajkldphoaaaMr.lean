/- Trees of regexes, what they mean, and BA they lie in memory; plain, no program is named. No condition. -/
import Derived.Test.YtgclajkldphoaaaMc
set_option linter.unusedVariables false
set_option linter.unusedSimpArgs false
namespace Go.Rx
open Go Go.Eng
inductive T where
 | node (k s0 s1 s2 s3 mn mx:Int) (a:Option Addr) (c:Nat) (subs:List T)
def T.k:T->Int
 | .node k _ _ _ _ _ _ _ _ _=>k
def T.s0:T->Int
 | .node _ s _ _ _ _ _ _ _ _=>s
def T.s1:T->Int
 | .node _ _ s _ _ _ _ _ _ _=>s
def T.s2:T->Int
 | .node _ _ _ s _ _ _ _ _ _=>s
def T.s3:T->Int
 | .node _ _ _ _ s _ _ _ _ _=>s
def T.mn:T->Int
 | .node _ _ _ _ _ x _ _ _ _=>x
def T.mx:T->Int
 | .node _ _ _ _ _ _ x _ _ _=>x
def T.a:T->Option Addr
 | .node _ _ _ _ _ _ _ a _ _=>a
def T.c:T->Nat
 | .node _ _ _ _ _ _ _ _ c _=>c
def T.subs:T->List T
 | .node _ _ _ _ _ _ _ _ _ l=>l
def T.sl(t:T):Value:=.slice t.a t.subs.length t.c
def T.cs(t:T):List Value:=[.int .u8 t.k,.int .u64 t.s0,.int .u64 t.s1,.int .u64 t.s2,.int .u64 t.s3,.int .i64 t.mn,.int .i64 t.mx,t.sl]
def T.v(t:T):Value:=.agg #[.int .u8 t.k,.int .u64 t.s0,.int .u64 t.s1,.int .u64 t.s2,.int .u64 t.s3,.int .i64 t.mn,.int .i64 t.mx,.slice t.a t.subs.length t.c]
structure OkN (k s0 s1 s2 s3 mn mx:Int):Prop where
 k:0<=k/\k < 256
 s0:0<=s0/\s0 < 18446744073709551616
 s1:0<=s1/\s1 < 18446744073709551616
 s2:0<=s2/\s2 < 18446744073709551616
 s3:0<=s3/\s3 < 18446744073709551616
 mn : -9223372036854775808<=mn/\mn<=9223372036854775807
 mx : -9223372036854775808<=mx/\mx<=9223372036854775807
mutual
def Rep(m:Mem):T->Prop
 | .node k s0 s1 s2 s3 mn mx a _ l=>l.length<=1000000000000000/\(l=[]\/∃b o,a=some ⟨b,o,none⟩/\RepAt m b o l)/\OkN k s0 s1 s2 s3 mn mx
def RepAt(m:Mem)(b:Nat):Nat->List T->Prop
 | _,[]=>True
 | o,t::l=>m.reads b o t.cs/\Rep m t/\RepAt m b (o+8) l
end
theorem Zdq{m:Mem}{t:T}:Rep m t->(t.subs.length<=1000000000000000/\(t.subs=[]\/∃b o,t.a=some ⟨b,o,none⟩/\RepAt m b o t.subs)):=by
 cases t;simp only[Rep,T.subs,T.a];exact λh=>⟨h.1,h.2.1⟩
theorem Zul{m:Mem}{t:T}:Rep m t->OkN t.k t.s0 t.s1 t.s2 t.s3 t.mn t.mx:=by
 cases t;simp only[Rep];exact λh=>h.2.2
theorem ZxL{m:Mem}{t:T}(h1:t.subs.length<=1000000000000000)(h2:t.subs=[]\/∃b o,t.a=some ⟨b,o,none⟩/\RepAt m b o t.subs)(h3:OkN t.k t.s0 t.s1 t.s2 t.s3 t.mn t.mx):Rep m t:=by
 cases t;simp only[Rep];exact⟨h1,h2,h3⟩
mutual
theorem Rep.mono{m m':Mem}(h:m.le m'):∀t:T,Rep m t->Rep m' t
 | .node _ _ _ _ _ _ _ a _ l,hr=>by
  simp only[Rep]at *
  refine⟨hr.1,?_,hr.2.2⟩
  rcases hr.2.1 with hr|⟨b,o,h1,h2⟩
  ·exact .inl hr
  ·exact .inr ⟨b,o,h1,RepAt.mono h b o l h2⟩
theorem RepAt.mono{m m':Mem}(h:m.le m')(b:Nat):∀(o:Nat)(l:List T),RepAt m b o l->RepAt m' b o l
 | _,[],_=>by simp only[RepAt]
 | o,t::l,hr=>by
  simp only[RepAt]at *
  exact⟨hr.1.mono h,Rep.mono h t hr.2.1,RepAt.mono h b (o+8) l hr.2.2⟩
end
theorem RepAt.get{m:Mem}{b:Nat}:∀{o:Nat} {l:List T} {i:Nat} {t:T},RepAt m b o l->l[i]?=some t->m.reads b (o+i*8) t.cs/\Rep m t
 | o,[],i,t,_,hi=>by simp at hi
 | o,x::l,0,t,h,hi=>by
  simp only[RepAt]at h
  simp at hi;subst hi
  exact⟨by simpa using h.1,h.2.1⟩
 | o,x::l,i+1,t,h,hi=>by
  simp only[RepAt]at h
  have:=h.2.2.get (i:=i) (by simpa using hi)
  rw[show o+(i+1)*8=o+8+i*8 by omega]
  exact this
mutual
def T.nodes:T->List T
 | .node k s0 s1 s2 s3 mn mx a c l=>.node k s0 s1 s2 s3 mn mx a c l::Zak l
def Zak:List T->List T
 | []=>[]
 | t::l=>t.nodes++Zak l
end
theorem Zbc(t:T):t.nodes=t::Zak t.subs:=by cases t;simp only[T.nodes,T.subs]
theorem Zdr(l r:List T):Zak (l++r)=Zak l++Zak r:=by
 induction l with
 | nil=>simp[Zak]
 | cons t l ih=>simp[Zak,ih,List.append_assoc]
theorem Zg3{l:List T}{i:Nat}{t:T}(h:l[i]?=some t):Zak (l.take (i+1))=Zak (l.take i)++t.nodes:=by
 have:l.take (i+1)=l.take i++[t]:=by
  rw[List.take_add_one,h];rfl
 rw[this,Zdr];simp[Zak]
theorem Zd6{l:List T}{i:Nat}{t:T}(h:l[i]?=some t):Zak l=Zak (l.take i)++(t.nodes++Zak (l.drop (i+1))):=by
 have bF:=(List.getElem?_eq_some_iff.1 h).1
 have e:l=l.take i++(t::l.drop (i+1)):=by
  have:=List.drop_eq_getElem_cons bF
  rw[(List.getElem?_eq_some_iff.1 h).2]at this
  rw[<-this,List.take_append_drop]
 conv=>lhs;rw[e,Zdr]
 simp[Zak]
theorem Zum{t x z:T}{i q:Nat}(hx:t.subs[i]?=some x)(hz:x.nodes[q]?=some z):t.nodes[1+(Zak (t.subs.take i)).length+q]?=some z:=by
 have hq:=(List.getElem?_eq_some_iff.1 hz).1
 rw[Zbc,show 1+(Zak (t.subs.take i)).length+q=((Zak (t.subs.take i)).length+q)+1 by omega,List.getElem?_cons_succ,Zd6 hx,List.getElem?_append_right (by omega),List.getElem?_append_left (by omega),show(Zak (List.take i t.subs)).length+q - (Zak (List.take i t.subs)).length=q by omega]
 exact hz
theorem Zn8{t x:T}(h:x∈t.subs):SizeOf.sizeOf x < SizeOf.sizeOf t:=by
 cases t with
 | node k s0 s1 s2 s3 mn mx a c l=>
  have h':x∈l:=h
  have:=List.sizeOf_lt_of_mem h'
  simp only[T.node.sizeOf_spec]
  omega
theorem Zp6(t:T):Shape.fitsL [.agg [.int .u8,.int .u64,.int .u64,.int .u64,.int .u64,.int .i64,.int .i64,.slice]] [t.v]=true:=by
 simp[Shape.fitsL,Shape.fits,T.v]
mutual
theorem ZqY{m:Mem}:∀(t:T),Rep m t->∀x∈t.nodes,Rep m x
 | .node k s0 s1 s2 s3 mn mx a c l,hr,x,hx=>by
  simp only[T.nodes,List.mem_cons]at hx
  rcases hx with rfl|hx
  ·exact hr
  ·simp only[Rep]at hr
   rcases hr.2.1 with h|⟨b,o,_,h⟩
   ·subst h;simp[Zak]at hx
   ·exact Zn9 b o l h x hx
theorem Zn9{m:Mem}(b:Nat):∀(o:Nat)(l:List T),RepAt m b o l->∀x∈Zak l,Rep m x
 | _,[],_,x,hx=>by simp[Zak]at hx
 | o,t::l,hr,x,hx=>by
  simp only[RepAt]at hr
  simp only[Zak,List.mem_append]at hx
  rcases hx with hx|hx
  ·exact ZqY t hr.2.1 x hx
  ·exact Zn9 b (o+8) l hr.2.2 x hx
end
theorem Zsu{m:Mem}{t x:T}(h:Rep m t)(hx:x∈t.nodes):Rep m x:=ZqY t h x hx
def Zfg(least most:Int):Bool:=!(decide (least < 0)||decide (least > 16)||(least == 1&&most == 1))&&(most == -1||(decide (most ≥ 1)&&decide (most<=16)&&decide (most ≥ least)))
def T.has(t:T)(k:Int):Bool:=t.subs.any λx=>x.k == k
def T.light(t:T):Bool:=decide (t.nodes.length<=10000)
def T.setZ(t:T):Bool:=t.s0 == 0&&t.s1 == 0&&t.s2 == 0&&t.s3 == 0
def T.right(t:T):Bool:=
 !(t.k != 2&&!t.setZ||(t.k != 5&&(t.mn != 0||t.mx != 0)||(decide (t.k < 3)&&decide (0 < t.subs.length)))) &&
 (if t.k=1 then true else if t.k=2 then !t.setZ else if t.k=3 then decide (1 < t.subs.length)&&(!t.has 1&&!t.has 3)else if t.k=4 then decide (1 < t.subs.length)&&!t.has 4
  else if t.k=5 then t.subs.length == 1&&(Zfg t.mn t.mx&&!t.has 1)else t.k == 6&&t.subs.length == 1)
def T.clean(t:T):Bool:=t.light&&t.nodes.all T.right
def T.size(t:T):Int:=if t.light then t.nodes.length else 10001
def T.groups(t:T):Int:=if t.light then(t.nodes.countP λx=>x.k == 6:Nat)else 10001
def Zjz(x y:Int):Int:=if y > x then y else x
def Zm2(x y:Int):Int:=if y < x then y else x
def Zvk(k mn mx sum:Int):Int:=Zm2 (if k=5 then sum*Zm2 (if mx=-1 then Zjz (Zjz mn 0) 1 else Zjz (Zjz mn 0) mx) 10001 else sum) 10001
mutual
def T.pos:T->Int
 | .node k _ _ _ _ mn mx _ _ l=>Zvk k mn mx ((if k=2 then 1 else 0)+ZfB l)
def ZfB:List T->Int
 | []=>0
 | t::l=>t.pos+ZfB l
end
def T.positions(t:T):Int:=if t.light then t.pos else 10001
def T.check(t:T):Int:=if t.clean=false then 80 else if t.size > 120 then 81 else if t.positions > 400 then 82 else if t.groups > 9 then 83 else 0
mutual
def T.same:T->T->Bool
 | .node k s0 s1 s2 s3 mn mx _ _ l,.node k' s0' s1' s2' s3' mn' mx' _ _ l'=>k == k'&&((s0 == s0'&&s1 == s1'&&s2 == s2'&&s3 == s3')&&(mn == mn'&&(mx == mx'&&Zhw l l')))
def Zhw:List T->List T->Bool
 | [],[]=>true
 | t::l,t'::l'=>t.same t'&&Zhw l l'
 | _,_=>false
end
theorem Zv1(t u:T):t.same u=(t.k == u.k&&((t.s0 == u.s0&&t.s1 == u.s1&&t.s2 == u.s2&&t.s3 == u.s3)&&(t.mn == u.mn&&(t.mx == u.mx&&Zhw t.subs u.subs)))):=by
 cases t;cases u;simp only[T.same,T.k,T.s0,T.s1,T.s2,T.s3,T.mn,T.mx,T.subs]
theorem Zoa:∀{l r:List T},¬l.length=r.length->Zhw l r=false
 | [],[],h=>by simp at h
 | [],_::_,_=>by simp[Zhw]
 | _::_,[],_=>by simp[Zhw]
 | x::l,y::r,h=>by
  simp only[Zhw,Zoa (l:=l) (r:=r) (by simpa using h),Bool.and_false]
theorem ZqZ:∀{l r:List T} {i:Nat} {x y:T},l[i]?=some x->r[i]?=some y->x.same y=false->Zhw l r=false
 | [],r,i,x,y,h,_,_=>by simp at h
 | _::_,[],i,x,y,_,h,_=>by simp at h
 | a::l,b::r,0,x,y,h,k,e=>by
  simp at h k;subst h k
  simp[Zhw,e]
 | a::l,b::r,i+1,x,y,h,k,e=>by
  simp only[Zhw,ZqZ (l:=l) (r:=r) (i:=i) (by simpa using h) (by simpa using k) e,Bool.and_false]
theorem ZlG:∀{l r:List T} {i:Nat} {x y:T},l[i]?=some x->r[i]?=some y->Zhw (l.take i) (r.take i)=true->x.same y=true->True->Zhw (l.take (i+1)) (r.take (i+1))=true
 | [],r,i,x,y,h,_,_,_,_=>by simp at h
 | _::_,[],i,x,y,_,h,_,_,_=>by simp at h
 | a::l,b::r,0,x,y,h,k,_,e,_=>by
  simp at h k;subst h k
  simp[Zhw,e]
 | a::l,b::r,i+1,x,y,h,k,hs,e,_=>by
  simp only[List.take_succ_cons,Zhw,Bool.and_eq_true]at hs ⊢
  exact⟨hs.1,ZlG (by simpa using h) (by simpa using k) hs.2 e trivial⟩
theorem Zob(t:T):t.pos=Zvk t.k t.mn t.mx ((if t.k=2 then 1 else 0)+ZfB t.subs):=by
 cases t;simp only[T.pos,T.k,T.mn,T.mx,T.subs];congr 1
theorem Zbf(l r:List T):ZfB (l++r)=ZfB l+ZfB r:=by
 induction l with
 | nil=>simp[ZfB]
 | cons t l ih=>simp[ZfB,ih,Int.add_assoc]
theorem Zsv{l:List T}{i:Nat}{t:T}(h:l[i]?=some t):ZfB (l.take (i+1))=ZfB (l.take i)+t.pos:=by
 have:l.take (i+1)=l.take i++[t]:=by
  rw[List.take_add_one,h];rfl
 rw[this,Zbf];simp[ZfB]
theorem Zq0(x y:Int):x<=Zjz x y/\y<=Zjz x y:=by unfold Zjz;split <;> omega
theorem ZlH(x y:Int):Zm2 x y<=x/\Zm2 x y<=y:=by unfold Zm2;split <;> omega
theorem Ztk{x y:Int}(h:0<=x)(k:0<=y):0<=Zm2 x y:=by unfold Zm2;split <;> omega
def Zun(mn mx:Int):Int:=Zm2 (if mx=-1 then Zjz (Zjz mn 0) 1 else Zjz (Zjz mn 0) mx) 10001
theorem Ztl(mn mx:Int):0<=Zun mn mx/\Zun mn mx<=10001:=by
 unfold Zun
 refine⟨Ztk ?_ (by omega),(ZlH _ _).2⟩
 have h1:=Zq0 mn 0
 split
 ·have:=Zq0 (Zjz mn 0) 1;omega
 ·have:=Zq0 (Zjz mn 0) mx;omega
theorem Zv2{k mn mx sum:Int}(h:0<=sum):0<=Zvk k mn mx sum/\Zvk k mn mx sum<=10001:=by
 have h2:=Int.mul_nonneg h (Ztl mn mx).1
 unfold Zvk
 refine⟨Ztk ?_ (by omega),(ZlH _ _).2⟩
 split
 ·exact h2
 ·exact h
mutual
theorem ZhU:∀t:T,0<=t.pos/\t.pos<=10001
 | .node k _ _ _ _ mn mx _ _ l=>by
  simp only[T.pos]
  have:=ZhV l
  exact Zv2 (by split <;> omega)
theorem ZhV:∀l:List T,0<=ZfB l
 | []=>by simp[ZfB]
 | t::l=>by
  simp only[ZfB]
  have:=ZhU t
  have:=ZhV l
  omega
end
theorem Ztm:∀l:List T,ZfB l<=10001*l.length
 | []=>by simp[ZfB]
 | t::l=>by
  simp only[ZfB,List.length_cons]
  have:=ZhU t
  have:=Ztm l
  omega
theorem Ztn(t:T):t.subs.length < t.nodes.length:=by
 rw[Zbc,List.length_cons]
 have:∀l:List T,l.length<=(Zak l).length:=by
  intro l
  induction l with
  | nil=>simp[Zak]
  | cons x l ih=>simp only[Zak,List.length_cons,List.length_append];rw[Zbc];simp;omega
 have:=this t.subs
 omega
theorem Zsw{t x:T}(h:x∈t.subs):x.nodes.length < t.nodes.length:=by
 obtain⟨i,hi⟩:=List.getElem?_of_mem h
 rw[Zbc t,List.length_cons,Zd6 hi]
 simp;omega
def T.hasB(t:T)(c:Nat):Bool:=((if c / 64=0 then t.s0 else if c / 64=1 then t.s1 else if c / 64=2 then t.s2 else t.s3).toNat).testBit (c % 64)
end Go.Rx
namespace Go.Rx
open Go Go.Eng Go.RowKit
def wdN(f j:Nat):Nat:=(f >>> (64*j)) % 2 ^ 64
theorem Zuo(f j:Nat):wdN f j < 18446744073709551616:=by
 unfold wdN
 exact Nat.mod_lt _ (by decide)
theorem Zoc(f j k:Nat):(wdN f j).testBit k=(decide (k < 64)&&f.testBit (64*j+k)):=by
 unfold wdN
 rw[Nat.testBit_mod_two_pow,Nat.testBit_shiftRight]
theorem ZxM(f g j:Nat):wdN (f|||g) j=wdN f j|||wdN g j:=by
 apply Nat.eq_of_testBit_eq
 intro k
 simp only[Zoc,Nat.testBit_or]
 cases decide (k < 64) <;> simp
theorem Zv3{q r j:Nat}(hr:r < 64):wdN (2 ^ (64*q+r)) j=if j=q then 2 ^ r else 0:=by
 apply Nat.eq_of_testBit_eq
 intro k
 rw[Zoc,Nat.testBit_two_pow]
 by_cases hj:j=q
 ·subst hj
  rw[if_pos rfl,Nat.testBit_two_pow]
  by_cases hk:k < 64
  ·simp[hk]
  ·have:¬r=k:=by omega
   simp[hk,this]
 ·rw[if_neg hj]
  simp only[Nat.zero_testBit,Bool.and_eq_false_iff,decide_eq_false_iff_not]
  omega
theorem Zvl(n:Nat)(h:n < 18446744073709551616):IntKind.u64.wrap (n:Int)=n:=by
 unfold IntKind.wrap
 have e:(2:Int) ^ 64=18446744073709551616:=by decide
 simp only[IntKind.bits,IntKind.signed,Bool.false_and,Bool.false_eq_true,if_false,e]
 omega
theorem Zzw(a:Nat)(h:a < 18446744073709551616):(BitVec.ofInt 64 (a:Int)).toNat=a:=by
 rw[BitVec.toNat_ofInt]
 have e:((2:Nat) ^ 64:Nat)=18446744073709551616:=by decide
 rw[e];omega
theorem Zq1(a b:Nat)(ha:a < 18446744073709551616)(hb:b < 18446744073709551616):IntKind.u64.wrap ((BitVec.ofInt 64 (a:Int)|||BitVec.ofInt 64 (b:Int)).toNat:Int)=((a|||b:Nat):Int):=by
 rw[BitVec.toNat_or,Zzw a ha,Zzw b hb]
 exact Zvl _ (Nat.or_lt_two_pow (n:=64) ha hb)
theorem Zq2(a r:Nat)(ha:a < 18446744073709551616):(IntKind.u64.wrap ((BitVec.ofInt 64 (Int.fdiv (a:Int) (2 ^ r))&&&BitVec.ofInt 64 1).toNat:Int) == 1)=a.testBit r:=by
 have e:Int.fdiv (a:Int) (2 ^ r)=((a >>> r:Nat):Int):=by
  rw[Nat.shiftRight_eq_div_pow,Int.fdiv_eq_ediv_of_nonneg _ (Int.pow_nonneg (by omega))]
  push_cast
  rfl
 have bF:a >>> r < 18446744073709551616:=Nat.lt_of_le_of_lt (Nat.shiftRight_le a r) ha
 rw[e,BitVec.toNat_and,Zzw _ bF]
 have h1:(BitVec.ofInt 64 1).toNat=1:=by decide
 rw[h1,Zvl _ (Nat.lt_of_le_of_lt Nat.and_le_left bF),Nat.and_one_is_mod]
 have e2:a.testBit r=decide (a >>> r % 2=1):=by
  rw[Nat.shiftRight_eq_div_pow];exact Nat.testBit_eq_decide_div_mod_eq
 rw[e2,Bool.eq_iff_iff]
 simp only[beq_iff_eq,decide_eq_true_eq]
 omega
def plL(f:Nat):List Value:=[.int .u64 (wdN f 0:Nat),.int .u64 (wdN f 1:Nat),.int .u64 (wdN f 2:Nat),.int .u64 (wdN f 3:Nat),.int .u64 (wdN f 4:Nat),.int .u64 (wdN f 5:Nat),.int .u64 (wdN f 6:Nat),.int .u64 (wdN f 7:Nat),.int .u64 (wdN f 8:Nat)]
def plV(f:Nat):Value:=.agg #[.int .u64 (wdN f 0:Nat),.int .u64 (wdN f 1:Nat),.int .u64 (wdN f 2:Nat),.int .u64 (wdN f 3:Nat),.int .u64 (wdN f 4:Nat),.int .u64 (wdN f 5:Nat),.int .u64 (wdN f 6:Nat),.int .u64 (wdN f 7:Nat),.int .u64 (wdN f 8:Nat)]
theorem Zto{f j:Nat}(h:j < 9):(plL f)[j]?=some (.int .u64 (wdN f j:Nat)):=by
 have:j=0\/j=1\/j=2\/j=3\/j=4\/j=5\/j=6\/j=7\/j=8:=by omega
 rcases this with rfl|rfl|rfl|rfl|rfl|rfl|rfl|rfl|rfl <;> rfl
theorem ZyO{q r:Nat}(hq:q < 9)(hr:r < 64):ZaI (List.replicate 9 (Value.int .u64 0)) q [.int .u64 ((2 ^ r:Nat):Int)]=plL (2 ^ (64*q+r)):=by
 unfold plL
 simp only[Zv3 hr]
 have:q=0\/q=1\/q=2\/q=3\/q=4\/q=5\/q=6\/q=7\/q=8:=by omega
 rcases this with rfl|rfl|rfl|rfl|rfl|rfl|rfl|rfl|rfl <;> rfl
def orL(f g k:Nat):List Value:=(List.range 9).map λj=>.int .u64 ((if j < k then wdN (f|||g) j else wdN f j:Nat):Int)
theorem Zv4{f g k j:Nat}(h:j < 9):(orL f g k)[j]?=some (.int .u64 ((if j < k then wdN (f|||g) j else wdN f j:Nat):Int)):=by
 simp[orL,h]
theorem Zup{f g k:Nat}(h:k < 9):ZaI (orL f g k) k [.int .u64 ((wdN f k|||wdN g k:Nat):Int)]=orL f g (k+1):=by
 rw[<-ZxM]
 have:k=0\/k=1\/k=2\/k=3\/k=4\/k=5\/k=6\/k=7\/k=8:=by omega
 rcases this with rfl|rfl|rfl|rfl|rfl|rfl|rfl|rfl|rfl <;> rfl
end Go.Rx
set_option linter.unusedSectionVars false
namespace Go.Rx
open Go Go.Eng Go.RowKit
def Byt(m:Mem)(a:Option Addr)(s:List Nat):Prop:=(s=[]\/∃b o,a=some ⟨b,o,none⟩/\m.reads b o (s.map λc:Nat=>Value.int .u8 c))/\∀c∈s,c < 256
theorem Byt.mono{m m':Mem}{a s}(h:Byt m a s)(hm:m.le m'):Byt m' a s:=by
 refine⟨?_,h.2⟩
 rcases h.1 with h|⟨b,o,h1,h2⟩
 ·exact .inl h
 ·exact .inr ⟨b,o,h1,h2.mono hm⟩
theorem Byt.get{m:Mem}{a s}(h:Byt m a s){i c:Nat}(hi:s[i]?=some c):(∃b o,a=some ⟨b,o,none⟩/\m b (o+i)=some (.int .u8 c))/\c < 256:=by
 refine⟨?_,h.2 c (List.mem_of_getElem? hi)⟩
 rcases h.1 with h|⟨b,o,h1,h2⟩
 ·subst h;simp at hi
 ·exact⟨b,o,h1,h2 i _ (by rw[List.getElem?_map,hi];rfl)⟩
def Zod(t:T)(back:Bool)(f i c out:Nat):Nat:=if(f.testBit (if back then i+1 else i)&&t.hasB c)=true then out|||2 ^ (if back then i else i+1)else out
def ZrJ(t:T)(back:Bool)(f:Nat):List Nat->Nat->Nat->Nat
 | [],_,out=>out
 | c::s,i,out=>ZrJ t back f s (i+1) (Zod t back f i c out)
def Zvm(g:Nat->Nat):Nat->Nat->Nat
 | 0,f=>f
 | n+1,f=>Zvm g n (g f)
def Zpt(g:Nat->Nat)(mx:Int):Nat->Int->Nat->Nat->Nat
 | 0,_,out,_=>out
 | n+1,k,out,last=>if k=mx then out else if out|||g last=out then out else Zpt g mx n (IntKind.i64.wrap (k+1)) (out|||g last) (g last)
@[irreducible] def Zzx:Nat:=576
theorem Zoe:Zzx=576:=by unfold Zzx;rfl
abbrev Zcz:Nat:=2 ^ Zzx
theorem Zv5{n:Nat}(h:n < 576):2 ^ n < Zcz:=Nat.pow_lt_pow_right (by omega) (by rw[Zoe];exact h)
def Zv6(g:Nat->Nat)(mn mx:Int)(f:Nat):Nat:=Zpt g mx (Zcz+1) mn (Zvm g mn.toNat f) (Zvm g mn.toNat f)
mutual
def T.lead(s:List Nat)(back:Bool):T->Nat->Nat
 | .node k s0 s1 s2 s3 mn mx a c l=>λf=>
  if k=1 then f else if k=2 then ZrJ (.node k s0 s1 s2 s3 mn mx a c l) back f s 0 0
  else if k=3 then(if back then Zf6 s back l f else Zgw s back l f)
  else if k=4 then Zp7 s back l f 0
  else if k=5 then Zv6 (ZfC s back l) mn mx f
  else if k=6 then ZfC s back l f else 0
def Zgw(s:List Nat)(back:Bool):List T->Nat->Nat
 | []=>λf=>f
 | t::l=>λf=>Zgw s back l (t.lead s back f)
def Zf6(s:List Nat)(back:Bool):List T->Nat->Nat
 | []=>λf=>f
 | t::l=>λf=>t.lead s back (Zf6 s back l f)
def Zp7(s:List Nat)(back:Bool):List T->Nat->Nat->Nat
 | []=>λ_ out=>out
 | t::l=>λf out=>Zp7 s back l f (out|||t.lead s back f)
def ZfC(s:List Nat)(back:Bool):List T->Nat->Nat
 | []=>λf=>f
 | t::_=>λf=>t.lead s back f
end
section
variable {s:List Nat} {back:Bool}
theorem ZxN{t:T}(h:t.k=0)(f:Nat):t.lead s back f=0:=by cases t;simp only[T.k]at h;subst h;simp[T.lead]
theorem Zv7{t:T}(h:t.k=1)(f:Nat):t.lead s back f=f:=by cases t;simp only[T.k]at h;subst h;simp[T.lead]
theorem Zv8{t:T}(h:t.k=2)(f:Nat):t.lead s back f=ZrJ t back f s 0 0:=by cases t;simp only[T.k]at h;subst h;simp[T.lead]
theorem Zuq{t:T}(h:t.k=3)(f:Nat):t.lead s back f=if back then Zf6 s back t.subs f else Zgw s back t.subs f:=by cases t;simp only[T.k]at h;subst h;simp[T.lead,T.subs]
theorem Zv9{t:T}(h:t.k=4)(f:Nat):t.lead s back f=Zp7 s back t.subs f 0:=by cases t;simp only[T.k]at h;subst h;simp[T.lead,T.subs]
theorem Zwa{t:T}(h:t.k=5)(f:Nat):t.lead s back f=Zv6 (ZfC s back t.subs) t.mn t.mx f:=by cases t;simp only[T.k]at h;subst h;simp[T.lead,T.subs,T.mn,T.mx]
theorem Zwb{t:T}(h:t.k=6)(f:Nat):t.lead s back f=ZfC s back t.subs f:=by cases t;simp only[T.k]at h;subst h;simp[T.lead,T.subs]
theorem ZlI{g:Nat->Nat}{mx:Int}{n:Nat}{k:Int}{out last:Nat}:Zpt g mx (n+1) k out last=(if k=mx then out else if out|||g last=out then out else Zpt g mx n (IntKind.i64.wrap (k+1)) (out|||g last) (g last)):=rfl
theorem Zp8(t:T)(l:List T)(f:Nat):Zgw s back (t::l) f=Zgw s back l (t.lead s back f):=by rw[Zgw]
theorem Zof(t:T)(l:List T)(f out:Nat):Zp7 s back (t::l) f out=Zp7 s back l f (out|||t.lead s back f):=by rw[Zp7]
theorem Zq3(f out:Nat):Zp7 s back [] f out=out:=by rw[Zp7]
theorem Zp9(l:List T)(x:T)(f:Nat):Zf6 s back (l++[x]) f=Zf6 s back l (x.lead s back f):=by
 induction l with
 | nil=>simp[Zf6]
 | cons t l ih=>simp[Zf6,ih]
end
theorem ZhW{α:Type}{l:List α}{i:Nat}{x:α}(h:l[i]?=some x):l.drop i=x::l.drop (i+1):=by
 obtain⟨h1,h2⟩:=List.getElem?_eq_some_iff.1 h
 rw[List.drop_eq_getElem_cons h1,h2]
theorem Zce{α:Type}{l:List α}{i:Nat}{x:α}(h:l[i]?=some x):l.take (i+1)=l.take i++[x]:=by
 rw[List.take_add_one,h];rfl
theorem Zur{t:T}{back:Bool}{f i c out:Nat}(hi:i < 575)(h:out < Zcz):Zod t back f i c out < Zcz:=by
 have hj:(if back then i else i+1) < 576:=by cases back <;> simp <;> omega
 have hp:2 ^ (if back then i else i+1) < Zcz:=Zv5 hj
 have ho:=Nat.or_lt_two_pow h hp
 unfold Zod
 by_cases hc:(f.testBit (if back then i+1 else i)&&t.hasB c)=true
 ·rw[if_pos hc];exact ho
 ·rw[if_neg hc];exact h
theorem Ztp{t:T}{back:Bool}{f:Nat}:∀(s:List Nat)(i out:Nat),i+s.length < 575->out < Zcz->ZrJ t back f s i out < Zcz
 | [],_,_,_,h=>h
 | c::s,i,out,hi,h=>Ztp s (i+1) _ (by simp at hi;omega) (Zur (by simp at hi;omega) h)
theorem Zog{g:Nat->Nat}(hg:∀f,f < Zcz->g f < Zcz):∀(n f:Nat),f < Zcz->Zvm g n f < Zcz
 | 0,_,h=>h
 | n+1,f,h=>Zog hg n _ (hg _ h)
theorem Zq4{g:Nat->Nat}{mx:Int}(hg:∀f,f < Zcz->g f < Zcz):∀(n:Nat)(k:Int)(out last:Nat),out < Zcz->last < Zcz->Zpt g mx n k out last < Zcz
 | 0,_,_,_,h,_=>h
 | n+1,k,out,last,h,h'=>by
  unfold Zpt
  split
  ·exact h
  ·split
   ·exact h
   ·exact Zq4 hg n _ _ _ (Nat.or_lt_two_pow h (hg _ h')) (hg _ h')
section
variable (s:List Nat) (back:Bool) (hs:s.length<=512)
include hs
mutual
theorem Zfh:∀(t:T)(f:Nat),f < Zcz->t.lead s back f < Zcz
 | .node k s0 s1 s2 s3 mn mx a c l,f,h=>by
  unfold T.lead
  split
  ·exact h
  split
  ·exact Ztp s 0 0 (by omega) (Nat.two_pow_pos _)
  split
  ·split
   ·exact Zm3 l f h
   ·exact Zq5 l f h
  split
  ·exact Ztq l f 0 h (Nat.two_pow_pos _)
  split
  ·exact Zq4 (λf h=>Zku l f h) _ _ _ _ (Zog (λf h=>Zku l f h) _ _ h) (Zog (λf h=>Zku l f h) _ _ h)
  split
  ·exact Zku l f h
  ·exact Nat.two_pow_pos _
theorem Zq5:∀(l:List T)(f:Nat),f < Zcz->Zgw s back l f < Zcz
 | [],f,h=>by unfold Zgw;exact h
 | t::l,f,h=>by unfold Zgw;exact Zq5 l _ (Zfh t f h)
theorem Zm3:∀(l:List T)(f:Nat),f < Zcz->Zf6 s back l f < Zcz
 | [],f,h=>by unfold Zf6;exact h
 | t::l,f,h=>by unfold Zf6;exact Zfh t _ (Zm3 l f h)
theorem Ztq:∀(l:List T)(f out:Nat),f < Zcz->out < Zcz->Zp7 s back l f out < Zcz
 | [],f,out,h,h'=>by unfold Zp7;exact h'
 | t::l,f,out,h,h'=>by unfold Zp7;exact Ztq l f _ h (Nat.or_lt_two_pow h' (Zfh t f h))
theorem Zku:∀(l:List T)(f:Nat),f < Zcz->ZfC s back l f < Zcz
 | [],f,h=>by unfold ZfC;exact h
 | t::l,f,h=>by unfold ZfC;exact Zfh t f h
end
end
theorem ZxO{f g:Nat}(hf:f < Zcz)(hg:g < Zcz)(h:∀j,j < 9->wdN f j=wdN g j):f=g:=by
 apply Nat.eq_of_testBit_eq
 intro i
 by_cases hi:i < 576
 ·have e:=congrArg (λw=>Nat.testBit w (i % 64)) (h (i / 64) (by omega))
  simp only[Zoc,show 64*(i / 64)+i % 64=i by omega,show i % 64 < 64 by omega,decide_true,Bool.true_and]at e
  exact e
 ·rw[Nat.testBit_lt_two_pow (Nat.lt_of_lt_of_le hf (Nat.pow_le_pow_right (by omega) (by rw[Zoe];omega))),Nat.testBit_lt_two_pow (Nat.lt_of_lt_of_le hg (Nat.pow_le_pow_right (by omega) (by rw[Zoe];omega)))]
abbrev PLK:=Int->Int->Int->Int->Int->Int->Int->Int->Int->Mem->Prop
theorem Zpl{X:Nat}{m:Mem}{K:PLK}(k:∀m',m.le m'->K (wdN X 0:Nat) (wdN X 1:Nat) (wdN X 2:Nat) (wdN X 3:Nat) (wdN X 4:Nat) (wdN X 5:Nat) (wdN X 6:Nat) (wdN X 7:Nat) (wdN X 8:Nat) m'):
  ∀(n0 n1 n2 n3 n4 n5 n6 n7 n8:Int)(m':Mem),m.le m'->Ret (plV X) (.agg #[.int .u64 n0,.int .u64 n1,.int .u64 n2,.int .u64 n3,.int .u64 n4,.int .u64 n5,.int .u64 n6,.int .u64 n7,.int .u64 n8]) m' []->K n0 n1 n2 n3 n4 n5 n6 n7 n8 m':=by
 intro n0 n1 n2 n3 n4 n5 n6 n7 n8 m' hm h
 simp only[Ret,plV,Value.agg.injEq,Array.mk.injEq,List.cons.injEq,Value.int.injEq,true_and,and_true]at h
 obtain⟨rfl,rfl,rfl,rfl,rfl,rfl,rfl,rfl,rfl⟩:=h
 exact k m' hm
theorem Zbx{X:Nat}:∀(v:Value)(m':Mem) (css:List (List Value)),Ret (plV X) v m' css->Shape.fits (.agg [.int .u64,.int .u64,.int .u64,.int .u64,.int .u64,.int .u64,.int .u64,.int .u64,.int .u64]) v=true:=λv _ _ e=>by rw[e];rfl
def T.walks(t:T):Prop:=t.k=0\/∀x∈t.nodes,x.right=true
theorem Zsx{t x:T}(h:t.walks)(h0:t.k≠0)(hx:x∈t.subs):x.walks:=by
 rcases h with h|h
 ·exact absurd h h0
 ·refine .inr λy hy=>h y ?_
  obtain⟨i,hi⟩:=List.getElem?_of_mem hx
  rw[Zbc,Zd6 hi]
  simp[hy]
end Go.Rx
namespace Go.Rx
open Go Go.Eng Go.RowKit
def T0:T:=.node 0 0 0 0 0 0 0 none 0 []
def T1:T:=.node 1 0 0 0 0 0 0 none 0 []
theorem Zqa(m:Mem):Rep m T0:=by simp only[T0,Rep];exact⟨by simp,.inl trivial,by constructor <;> decide⟩
theorem Zsy(m:Mem):Rep m T1:=by simp only[T1,Rep];exact⟨by simp,.inl trivial,by constructor <;> decide⟩
def T.isNone(t:T):Bool:=t.k == 0&&(t.light&&(T0.light&&t.same T0))
def T.wrong(t:T)(len:Nat)(i:Int):Int:=if(!t.isNone&&!(t.check == 0))=true then 130 else if(len:Int) > 512 then 3 else if i < 0\/i > len then 2 else 0
theorem Zi2{t:T}(h:t.check=0):t.walks:=by
 unfold T.check at h
 split at h
 ·exact absurd h (by decide)
 ·rename_i hc
  have hc':t.clean=true:=by simpa using hc
  unfold T.clean at hc'
  rw[Bool.and_eq_true]at hc'
  exact .inr λx hx=>List.all_eq_true.1 hc'.2 x hx
theorem Zwc{t:T}{len:Nat}{i:Int}(h:t.wrong len i=0):t.walks/\len<=512/\0<=i/\i<=len:=by
 unfold T.wrong at h
 split at h
 ·exact absurd h (by decide)
 ·rename_i hc
  split at h
  ·exact absurd h (by decide)
  ·split at h
   ·exact absurd h (by decide)
   ·refine⟨?_,by omega,by omega,by omega⟩
    simp only[Bool.and_eq_true,Bool.not_eq_true',beq_eq_false_iff_ne,ne_eq,not_and,Decidable.not_not]at hc
    by_cases hn:t.isNone=true
    ·left
     unfold T.isNone at hn
     rw[Bool.and_eq_true]at hn
     simpa using hn.1
    ·exact Zi2 (hc (by simpa using hn))
structure Rg where
 bg:Bool
 en:Bool
 t:T
def Rg.v(r:Rg):Value:=.agg #[.bool r.bg,.bool r.en,.int .u8 r.t.k,.int .u64 r.t.s0,.int .u64 r.t.s1,.int .u64 r.t.s2,.int .u64 r.t.s3,.int .i64 r.t.mn,.int .i64 r.t.mx,.slice r.t.a r.t.subs.length r.t.c]
def Rg.cs(r:Rg):List Value:=[.bool r.bg,.bool r.en,.int .u8 r.t.k,.int .u64 r.t.s0,.int .u64 r.t.s1,.int .u64 r.t.s2,.int .u64 r.t.s3,.int .i64 r.t.mn,.int .i64 r.t.mx,.slice r.t.a r.t.subs.length r.t.c]
def Rgs(m:Mem)(a:Option Addr)(l:List Rg):Prop:=l.length<=1000000000000000/\(l=[]\/∃b o,a=some ⟨b,o,none⟩/\∀i r,l[i]?=some r->m.reads b (o+i*10) r.cs)/\∀r∈l,Rep m r.t
theorem Rgs.mono{m m':Mem}{a l}(h:Rgs m a l)(hm:m.le m'):Rgs m' a l:=by
 refine⟨h.1,?_,λr hr=>(h.2.2 r hr).mono hm⟩
 rcases h.2.1 with h|⟨b,o,h1,h2⟩
 ·exact .inl h
 ·exact .inr ⟨b,o,h1,λi r hi=>(h2 i r hi).mono hm⟩
def ZxP(f:Nat):List Nat:=(List.range 513).filter λi=>f.testBit i
def Zwd(n:Nat):List Nat->Option Nat
 | []=>none
 | i::_=>if i > n then none else some i
def Rg.from(s:List Nat)(n:Nat)(r:Rg):Option Nat:=if(r.en&&decide ((n:Int) < s.length))=true then none else if r.bg then(if(r.t.lead s true (2 ^ n)).testBit 0 then some 0 else none)else
 Zwd n (ZxP (r.t.lead s true (2 ^ n)))
def Rg.wrong(r:Rg)(len:Nat)(n:Int):Int:=if r.t.check=0 then r.t.wrong len n else 130
def ZxQ(l:List Rg)(len:Nat)(n:Int):Int:=if(l.length:Int) > 64 then 5 else if l.all (λr=>r.t.check == 0)then T1.wrong len n else 130
end Go.Rx
namespace Go.Rx
open Go Go.Eng Go.RowKit
def Zhx(φ:T->Prop):Value->Mem->List (List Value)->Prop:=λv m' _=>∃t:T,v=t.v/\Rep m' t/\φ t
abbrev TRK:=Int->Int->Int->Int->Int->Int->Int->Option Addr->Nat->Nat->Mem->Prop
theorem Zgx{φ:T->Prop}{m:Mem}{K:TRK}(k:∀(t:T)(m':Mem),m.le m'->Rep m' t->φ t->K t.k t.s0 t.s1 t.s2 t.s3 t.mn t.mx t.a t.subs.length t.c m'):
  ∀(n0 n1 n2 n3 n4 n5 n6:Int)(a:Option Addr)(n c:Nat)(m':Mem),m.le m'->Zhx φ (.agg #[.int .u8 n0,.int .u64 n1,.int .u64 n2,.int .u64 n3,.int .u64 n4,.int .i64 n5,.int .i64 n6,.slice a n c]) m' []->K n0 n1 n2 n3 n4 n5 n6 a n c m':=by
 rintro n0 n1 n2 n3 n4 n5 n6 a n c m' hm ⟨t,hv,hr,hp⟩
 simp only[T.v,Value.agg.injEq,Array.mk.injEq,List.cons.injEq,Value.int.injEq,Value.slice.injEq,true_and,and_true]at hv
 obtain⟨rfl,rfl,rfl,rfl,rfl,rfl,rfl,rfl,rfl,rfl⟩:=hv
 exact k t m' hm hr hp
theorem ZbT{φ:T->Prop}:∀(v:Value)(m':Mem) (css:List (List Value)),Zhx φ v m' css->Shape.fits (.agg [.int .u8,.int .u64,.int .u64,.int .u64,.int .u64,.int .i64,.int .i64,.slice]) v=true:=λv _ _ ⟨t,e,_⟩=>by rw[e];rfl
def ZlJ(c j:Nat):Int:=if c / 64=j then((2 ^ (c % 64):Nat):Int)else 0
def ZdU(c:Nat):T:=.node 2 (ZlJ c 0) (ZlJ c 1) (ZlJ c 2) (ZlJ c 3) 0 0 none 0 []
theorem Zkv(c j:Nat):0<=ZlJ c j/\ZlJ c j < 18446744073709551616:=by
 unfold ZlJ
 split
 ·have h:(2:Nat) ^ (c % 64) < 2 ^ 64:=Nat.pow_lt_pow_right (by omega) (by omega)
  have e:(2:Nat) ^ 64=18446744073709551616:=by decide
  rw[e]at h
  generalize (2:Nat) ^ (c % 64)=w at *
  exact⟨by omega,by omega⟩
 ·omega
theorem Zqb(c:Nat)(m:Mem):Rep m (ZdU c):=by
 simp only[ZdU,Rep]
 exact⟨by simp,.inl trivial,⟨by omega,Zkv c 0,Zkv c 1,Zkv c 2,Zkv c 3,by omega,by omega⟩⟩
def RepL(m:Mem)(a:Option Addr)(l:List T):Prop:=l.length<=1000000000000000/\(l=[]\/∃b o,a=some ⟨b,o,none⟩/\RepAt m b o l)
theorem RepL.mono{m m':Mem}{a l}(h:RepL m a l)(hm:m.le m'):RepL m' a l:=by
 refine⟨h.1,?_⟩
 rcases h.2 with h|⟨b,o,h1,h2⟩
 ·exact .inl h
 ·exact .inr ⟨b,o,h1,h2.mono hm⟩
theorem Rep.subs{m:Mem}{t:T}(h:Rep m t):RepL m t.a t.subs:=Zdq h
def Zap(k mn mx:Int)(a:Option Addr)(c:Nat)(l:List T):T:=.node k 0 0 0 0 mn mx a c l
theorem Zbg{m:Mem}{k mn mx:Int}{a:Option Addr}{c:Nat}{l:List T}(h:RepL m a l)(hk:0<=k/\k < 256)(h1 : -9223372036854775808<=mn/\mn<=9223372036854775807)(h2 : -9223372036854775808<=mx/\mx<=9223372036854775807):Rep m (Zap k mn mx a c l):=by
 simp only[Zap,Rep]
 exact⟨h.1,h.2,⟨hk,by omega,by omega,by omega,by omega,h1,h2⟩⟩
theorem Zg4{m:Mem}{b:Nat}{t:T}(h:m.reads b 0 t.cs)(hr:Rep m t):RepL m (some ⟨b,0,none⟩) [t]:=⟨by simp,.inr ⟨b,0,rfl,by simp only[RepAt];exact⟨h,hr,trivial⟩⟩⟩
def ZcS(l:List T):List Value:=(l.map T.cs).flatten
theorem Zar(l:List T):(ZcS l).length=l.length*8:=by
 induction l with
 | nil=>rfl
 | cons t l ih=>simp[ZcS,T.cs]at ih ⊢;omega
theorem ZaP(l r:List T):ZcS (l++r)=ZcS l++ZcS r:=by simp[ZcS]
theorem Zq6{m:Mem}{b:Nat}:∀{o:Nat} {l:List T},m.reads b o (ZcS l)->(∀t∈l,Rep m t)->RepAt m b o l
 | o,[],_,_=>by simp only[RepAt]
 | o,t::l,h,hr=>by
  simp only[RepAt]
  refine⟨λj v hj=>?_,hr t (by simp),Zq6 (λj v hj=>?_) λx hx=>hr x (by simp[hx])⟩
  ·refine h j v ?_
   simp only[ZcS,List.map_cons,List.flatten_cons]
   rw[List.getElem?_append_left (List.getElem?_eq_some_iff.1 hj).1];exact hj
  ·have:=h (8+j) v (by
    simp only[ZcS,List.map_cons,List.flatten_cons]
    rw[List.getElem?_append_right (by simp[T.cs])]
    have e:8+j - t.cs.length=j:=by simp[T.cs]
    rw[e];exact hj)
   rw[show o+8+j=o+(8+j) by omega];exact this
theorem Zq7{m:Mem}{a:Option Addr}{l:List T}(h:rowRd m a (ZcS l))(hr:∀t∈l,Rep m t)(hl:l.length<=1000000000000000):RepL m a l:=by
 refine⟨hl,?_⟩
 cases l with
 | nil=>exact .inl rfl
 | cons t l=>
  rcases h with h|⟨b,o,h1,h2⟩
  ·simp[ZcS,T.cs]at h
  ·exact .inr ⟨b,o,h1,Zq6 h2 hr⟩
theorem Zg5{m:Mem}{a:Option Addr}{l:List T}(h:RepL m a l):rowRd m a (ZcS l):=by
 have key:∀(l:List T)(b o:Nat),RepAt m b o l->m.reads b o (ZcS l):=by
  intro l
  induction l with
  | nil=>intro b o _ j v hj;simp[ZcS]at hj
  | cons t l ih=>
   intro b o hr j v hj
   simp only[RepAt]at hr
   simp only[ZcS,List.map_cons,List.flatten_cons]at hj
   by_cases bF:j < 8
   ·rw[List.getElem?_append_left (by simpa[T.cs]using bF)]at hj
    exact hr.1 j v hj
   ·rw[List.getElem?_append_right (by simp[T.cs];omega)]at hj
    have:=ih b (o+8) hr.2.2 (j - 8) v (by simpa[T.cs,ZcS]using hj)
    rw[show o+8+(j - 8)=o+j by omega]at this;exact this
 rcases h.2 with h|⟨b,o,h1,h2⟩
 ·subst h;exact .inl rfl
 ·exact .inr ⟨b,o,h1,key l b o h2⟩
theorem Zoh{m:Mem}{a:Option Addr}{l:List T}(h:RepL m a l):∀t∈l,Rep m t:=by
 rcases h.2 with h|⟨b,o,_,h⟩
 ·subst h;simp
 ·intro t ht
  obtain⟨i,hi⟩:=List.getElem?_of_mem ht
  exact(h.get hi).2
def Zzy(j:Nat)(w c:Nat):Nat:=if c / 64=j then w|||2 ^ (c % 64)else w
def Zs5(bs:List Nat)(j:Nat):Nat:=bs.foldl (Zzy j) 0
theorem Zsz(l:List Nat)(c j:Nat):Zs5 (l++[c]) j=if c / 64=j then Zs5 l j|||2 ^ (c % 64)else Zs5 l j:=by
 unfold Zs5
 rw[List.foldl_append];rfl
theorem Ztr(l:List Nat)(j:Nat):Zs5 l j < 18446744073709551616:=by
 have key:∀(l:List Nat)(w:Nat),w < 2 ^ 64->l.foldl (Zzy j) w < 2 ^ 64:=by
  intro l
  induction l with
  | nil=>intro w h;exact h
  | cons c l ih=>
   intro w h
   refine ih _ ?_
   unfold Zzy
   split
   ·exact Nat.or_lt_two_pow h (Nat.pow_lt_pow_right (by omega) (by omega))
   ·exact h
 exact key l 0 (by decide)
def Zkw(bs:List Nat):T:=.node 2 (Zs5 bs 0:Nat) (Zs5 bs 1:Nat) (Zs5 bs 2:Nat) (Zs5 bs 3:Nat) 0 0 none 0 []
theorem Zoi(bs:List Nat)(m:Mem):Rep m (Zkw bs):=by
 simp only[Zkw,Rep]
 have h:=Ztr bs
 exact⟨by simp,.inl trivial,⟨by omega,⟨by omega,by have:=h 0;omega⟩,⟨by omega,by have:=h 1;omega⟩,⟨by omega,by have:=h 2;omega⟩,⟨by omega,by have:=h 3;omega⟩,by omega,by omega⟩⟩
def Zts(bs:List Nat):List Value:=[.int .u64 (Zs5 bs 0:Nat),.int .u64 (Zs5 bs 1:Nat),.int .u64 (Zs5 bs 2:Nat),.int .u64 (Zs5 bs 3:Nat)]
theorem ZsA(bs:List Nat){j:Nat}(h:j < 4):(Zts bs)[j]?=some (.int .u64 (Zs5 bs j:Nat)):=by
 have:j=0\/j=1\/j=2\/j=3:=by omega
 rcases this with rfl|rfl|rfl|rfl <;> rfl
theorem Zqc(l:List Nat){c j:Nat}(hj:c / 64=j)(h:j < 4):ZaI (Zts l) j [.int .u64 ((Zs5 l j|||2 ^ (c % 64):Nat):Int)]=Zts (l++[c]):=by
 unfold Zts
 simp only[Zsz,hj]
 have:j=0\/j=1\/j=2\/j=3:=by omega
 rcases this with rfl|rfl|rfl|rfl <;> rfl
def Zd2(n:Nat):List Nat:=([[97],[98],[97,98],[97],[98],[99],[97,98,99],[98,99],[10],[0,255],[97],[98]][n % 12]?).getD []
end Go.Rx
namespace Go.Rx
open Go Go.Eng Go.RowKit
def T.good(t:T):Bool:=t.nodes.all T.right
def isG(t:T):Bool:=t.k == 6
theorem ZlK(p:T->Bool):∀l:List T,(Zak l).all p=l.all λt=>t.nodes.all p
 | []=>rfl
 | t::l=>by simp only[Zak,List.all_append,List.all_cons,ZlK p l]
theorem ZjA(t:T):t.good=(t.right&&t.subs.all T.good):=by
 unfold T.good;rw[Zbc,List.all_cons,ZlK]
def grL(l:List T):Nat:=(Zak l).countP isG
def szL(l:List T):Nat:=(Zak l).length
def T.gr(t:T):Nat:=t.nodes.countP isG
theorem ZaQ(l r:List T):szL (l++r)=szL l+szL r:=by unfold szL;rw[Zdr,List.length_append]
theorem ZbU(l r:List T):grL (l++r)=grL l+grL r:=by unfold grL;rw[Zdr,List.countP_append]
theorem ZbL(t:T):szL [t]=t.nodes.length:=by simp[szL,Zak]
theorem ZdV(t:T):grL [t]=t.gr:=by simp[grL,Zak,T.gr]
theorem Zco(t:T):ZfB [t]=t.pos:=by simp[ZfB]
theorem Zkx(t:T)(l:List T):szL (t::l)=t.nodes.length+szL l:=by simp[szL,Zak]
theorem Zq8(t:T)(l:List T):grL (t::l)=t.gr+grL l:=by simp[grL,Zak,T.gr,List.countP_append]
theorem ZsB(t:T):t.nodes.length=1+szL t.subs:=by rw[Zbc,List.length_cons,szL];omega
theorem Zwe(t:T):t.gr=(if isG t=true then 1 else 0)+grL t.subs:=by
 unfold T.gr;rw[Zbc,List.countP_cons,grL];omega
theorem Zq9(l:List T):l.length<=szL l:=by
 induction l with
 | nil=>simp
 | cons t l ih=>rw[Zkx,ZsB,List.length_cons];omega
def ZbM(k:Int)(t:T):List T:=if t.k=k then t.subs else if k=3/\t.k=1 then[]else[t]
def Zhs(k:Int)(a:Option Addr)(c:Nat):List T->T
 | []=>T1
 | [x]=>x
 | x::y::l=>Zap k 0 0 a c (x::y::l)
theorem Zky{t:T}{k:Int}(h:t.has k=false):∀x∈t.subs,x.k≠k:=by
 intro x hx e
 unfold T.has at h
 have:=List.any_eq_false.1 h x hx
 simp[e]at this
theorem Zus{t:T}{k:Int}(h:∀x∈t.subs,x.k≠k):t.has k=false:=by
 unfold T.has
 rw[List.any_eq_false]
 intro x hx
 have:=h x hx
 simpa using this
theorem Zkz{k:Int}{t:T}(hk:k=3\/k=4)(hg:t.good=true)(hp:t.pos<=10000):(∀x∈ZbM k t,x.good=true/\x.k≠k/\(k=3->x.k≠1))/\szL (ZbM k t)<=t.nodes.length/\grL (ZbM k t)<=t.gr/\ZfB (ZbM k t)<=t.pos:=by
 have hg':=hg
 rw[ZjA,Bool.and_eq_true,List.all_eq_true]at hg'
 unfold ZbM
 split
 ·rename_i dP
  refine⟨λx hx=>⟨hg'.2 x hx,?_⟩,by rw[ZsB];omega,by rw[Zwe];omega,?_⟩
  ·have hr:=hg'.1
   unfold T.right at hr
   rw[Bool.and_eq_true]at hr
   have hr:=hr.2
   rcases hk with rfl|rfl
   ·simp only[dP]at hr
    simp at hr
    exact⟨Zky hr.2.2 x hx,λ_=>Zky hr.2.1 x hx⟩
   ·simp only[dP]at hr
    simp at hr
    exact⟨Zky hr.2 x hx,λh=>by omega⟩
  ·rw[Zob]at hp ⊢
   have h5:¬t.k=5:=by omega
   have h2:¬t.k=2:=by omega
   unfold Zvk at hp ⊢
   rw[if_neg h5,if_neg h2,Int.zero_add]at hp ⊢
   unfold Zm2 at hp ⊢
   split at hp
   ·omega
   ·split <;> omega
 ·rename_i dP
  split
  ·refine⟨λx hx=>by simp at hx,by simp[szL,Zak],by simp[grL,Zak],?_⟩
   simp only[ZfB];exact(ZhU t).1
  ·rename_i zh
   refine⟨λx hx=>?_,by rw[ZbL];exact Nat.le_refl _,by rw[ZdV];exact Nat.le_refl _,by rw[Zco];exact Int.le_refl _⟩
   simp at hx;subst hx
   exact⟨hg,dP,λh=>λh1=>zh ⟨h,h1⟩⟩
theorem Zoj{k:Int}(hk:k=3\/k=4)(a:Option Addr)(c:Nat):∀{l:List T},(∀x∈l,x.good=true/\x.k≠k/\(k=3->x.k≠1))->(Zhs k a c l).good=true/\(Zhs k a c l).nodes.length<=1+szL l/\(Zhs k a c l).gr<=grL l/\(Zhs k a c l).pos<=ZfB l
 | [],_=>⟨show T1.good=true by decide,show T1.nodes.length<=1 by decide,show T1.gr<=0 by decide,show T1.pos<=0 by decide⟩
 | [x],h=>by
  rw[ZbL,ZdV,Zco]
  exact⟨(h x (by simp)).1,by show x.nodes.length<=_;omega,Nat.le_refl _,Int.le_refl _⟩
 | x::y::l,h=>by
  show(Zap k 0 0 a c (x::y::l)).good=true/\(Zap k 0 0 a c (x::y::l)).nodes.length<=_/\(Zap k 0 0 a c (x::y::l)).gr<=_/\(Zap k 0 0 a c (x::y::l)).pos<=_
  have hs:(Zap k 0 0 a c (x::y::l)).subs=x::y::l:=rfl
  have dP:(Zap k 0 0 a c (x::y::l)).k=k:=rfl
  have hz:(Zap k 0 0 a c (x::y::l)).setZ=true:=rfl
  have fT:(Zap k 0 0 a c (x::y::l)).mn=0:=rfl
  have eS:(Zap k 0 0 a c (x::y::l)).mx=0:=rfl
  refine⟨?_,by rw[ZsB,hs];exact Nat.le_refl _,?_,?_⟩
  ·rw[ZjA,Bool.and_eq_true,List.all_eq_true,hs]
   refine⟨?_,λz hz=>(h z hz).1⟩
   have h1:k=3->(Zap k 0 0 a c (x::y::l)).has 1=false:=λe=>Zus λz hz=>(h z hz).2.2 e
   have h2:(Zap k 0 0 a c (x::y::l)).has k=false:=Zus λz hz=>(h z hz).2.1
   unfold T.right
   rw[dP,hz,fT,eS,hs]
   rcases hk with rfl|rfl
   ·simp[h1 rfl,h2]
   ·simp[h2]
  ·rw[Zwe,hs,isG,dP]
   rcases hk with rfl|rfl <;> simp
  ·rw[Zob,dP,fT,eS,hs]
   unfold Zvk
   rw[if_neg (by omega),if_neg (by omega),Int.zero_add]
   exact(ZlH _ _).1
structure J (i:Nat)(ts:List T)(u g:Nat):Prop where
 good:∀t∈ts,t.good=true
 sz:szL ts<=i
 pos:ZfB ts<=(i*u:Nat)
 u1:1<=u
 u16:u<=16
 gr:grL ts<=g
 g9:g<=9
theorem J.zero:J 0 [] 1 0:=⟨by simp,by simp[szL,Zak],by simp[ZfB],by omega,by omega,by simp[grL,Zak],by omega⟩
theorem J.skip{i ts u g}(h:J i ts u g):J (i+1) ts u g:=
 ⟨h.good,by have:=h.sz;omega,by have:=h.pos;have e:(i+1)*u=i*u+u:=Nat.succ_mul i u;rw[e];omega,h.u1,h.u16,h.gr,h.g9⟩
theorem J.push{i ts u g}(h:J i ts u g){t:T}(hg:t.good=true)(hs:t.nodes.length=1)(hp:t.pos<=1)(hr:t.gr=0):J (i+1) (ts++[t]) u g:=by
 refine⟨λx hx=>?_,?_,?_,h.u1,h.u16,?_,h.g9⟩
 ·rcases List.mem_append.1 hx with hx|hx
  ·exact h.good x hx
  ·simp at hx;subst hx;exact hg
 ·rw[ZaQ,ZbL,hs];have:=h.sz;omega
 ·rw[Zbf,Zco];have:=h.pos;have:=h.u1;have e:(i+1)*u=i*u+u:=Nat.succ_mul i u;rw[e];omega
 ·rw[ZbU,ZdV,hr];have:=h.gr;omega
theorem J.pos400{i ts u g}(h:J i ts u g)(hi:i<=25):ZfB ts<=400:=by
 have h1:=h.pos
 have:i*u<=25*16:=Nat.mul_le_mul hi h.u16
 omega
theorem J.join{i ts u g}{x y:T}(h:J i (ts++[x,y]) u g)(hi:i<=25){k:Int}(hk:k=3\/k=4)(a:Option Addr)(c:Nat):J (i+1) (ts++[Zhs k a c (ZbM k x++ZbM k y)]) u g:=by
 have h4:=h.pos400 hi
 have hz:=h.sz
 have hp:=h.pos
 have lB:=h.gr
 rw[show ts++[x,y]=ts++([x]++[y]) from rfl]at h4 hz hp lB
 rw[Zbf,Zbf,Zco,Zco]at h4 hp
 rw[ZaQ,ZaQ,ZbL,ZbL]at hz
 rw[ZbU,ZbU,ZdV,ZdV]at lB
 have n1:=ZhV ts
 have n2:=(ZhU x).1
 have n3:=(ZhU y).1
 obtain⟨a1,a2,a3,a4⟩:=Zkz hk (h.good x (by simp)) (by omega)
 obtain⟨b1,b2,b3,b4⟩:=Zkz hk (h.good y (by simp)) (by omega)
 obtain⟨c1,c2,c3,c4⟩:=Zoj hk a c (l:=ZbM k x++ZbM k y) (λz hz=>by
  rcases List.mem_append.1 hz with hz|hz
  ·exact a1 z hz
  ·exact b1 z hz)
 rw[ZaQ]at c2
 rw[ZbU]at c3
 rw[Zbf]at c4
 refine⟨λz hz=>?_,?_,?_,h.u1,h.u16,?_,h.g9⟩
 ·rcases List.mem_append.1 hz with hz|hz
  ·exact h.good z (by simp[hz])
  ·simp at hz;subst hz;exact c1
 ·rw[ZaQ,ZbL];omega
 ·rw[Zbf,Zco];have e:(i+1)*u=i*u+u:=Nat.succ_mul i u;rw[e];omega
 ·rw[ZbU,ZdV];omega
theorem J.group{i ts u g}{x:T}(h:J i (ts++[x]) u g)(hg:g < 9)(a:Option Addr)(c:Nat):J (i+1) (ts++[Zap 6 0 0 a c [x]]) u (g+1):=by
 have hz:=h.sz
 have hp:=h.pos
 have lB:=h.gr
 rw[Zbf,Zco]at hp
 rw[ZaQ,ZbL]at hz
 rw[ZbU,ZdV]at lB
 have hs:(Zap 6 0 0 a c [x]).subs=[x]:=rfl
 refine⟨λz hz=>?_,?_,?_,h.u1,h.u16,?_,by omega⟩
 ·rcases List.mem_append.1 hz with hz|hz
  ·exact h.good z (by simp[hz])
  ·simp at hz;subst hz
   rw[ZjA,Bool.and_eq_true,List.all_eq_true]
   refine⟨rfl,λz hz=>?_⟩
   rw[hs]at hz;simp at hz;subst hz
   exact h.good z (by simp)
 ·rw[ZaQ,ZbL,ZsB,hs,ZbL];omega
 ·rw[Zbf,Zco,Zob,hs,Zco]
  have:Zvk (Zap 6 0 0 a c [x]).k (Zap 6 0 0 a c [x]).mn (Zap 6 0 0 a c [x]).mx ((if(Zap 6 0 0 a c [x]).k=2 then 1 else 0)+x.pos)<=x.pos:=by
   show Zm2 (if(6:Int)=5 then _ else(if(6:Int)=2 then 1 else 0)+x.pos) 10001<=_
   rw[if_neg (by omega),if_neg (by omega),Int.zero_add]
   exact(ZlH _ _).1
  have e:(i+1)*u=i*u+u:=Nat.succ_mul i u
  rw[e];omega
 ·rw[ZbU,ZdV,Zwe,hs,ZdV]
  split <;> omega
theorem J.rep{i ts u g}{x:T}(h:J i (ts++[x]) u g)(hx:x.k≠1){mn mx:Int}(hb:Zfg mn mx=true){w:Nat}(hw:Zun mn mx<=w)(h1:1<=w)(hu:u*w<=16)(a:Option Addr)(c:Nat):J (i+1) (ts++[Zap 5 mn mx a c [x]]) (u*w) g:=by
 have hz:=h.sz
 have hp:=h.pos
 have lB:=h.gr
 rw[Zbf,Zco]at hp
 rw[ZaQ,ZbL]at hz
 rw[ZbU,ZdV]at lB
 have hs:(Zap 5 mn mx a c [x]).subs=[x]:=rfl
 have n1:=ZhV ts
 have n2:=(ZhU x).1
 refine⟨λz hz=>?_,?_,?_,?_,hu,?_,h.g9⟩
 ·rcases List.mem_append.1 hz with hz|hz
  ·exact h.good z (by simp[hz])
  ·simp at hz;subst hz
   rw[ZjA,Bool.and_eq_true,List.all_eq_true]
   refine⟨?_,λz hz=>?_⟩
   ·have hh:(Zap 5 mn mx a c [x]).has 1=false:=Zus λz hz=>by rw[hs]at hz;simp at hz;subst hz;exact hx
    unfold T.right
    rw[hh,hs,show(Zap 5 mn mx a c [x]).k=5 from rfl,show(Zap 5 mn mx a c [x]).setZ=true from rfl,show(Zap 5 mn mx a c [x]).mn=mn from rfl,show(Zap 5 mn mx a c [x]).mx=mx from rfl,hb]
    simp
   ·rw[hs]at hz;simp at hz;subst hz
    exact h.good z (by simp)
 ·rw[ZaQ,ZbL,ZsB,hs,ZbL];omega
 ·rw[Zbf,Zco,Zob,hs,Zco]
  have key:Zvk (Zap 5 mn mx a c [x]).k (Zap 5 mn mx a c [x]).mn (Zap 5 mn mx a c [x]).mx ((if(Zap 5 mn mx a c [x]).k=2 then 1 else 0)+x.pos)<=x.pos*w:=by
   show Zm2 (if(5:Int)=5 then((if(5:Int)=2 then 1 else 0)+x.pos)*Zun mn mx else _) 10001<=_
   rw[if_pos rfl,if_neg (by omega),Int.zero_add]
   exact Int.le_trans (ZlH _ _).1 (Int.mul_le_mul_of_nonneg_left hw n2)
  have k2:ZfB ts<=ZfB ts*w:=by
   have:=Int.mul_le_mul_of_nonneg_left (show(1:Int)<=w by omega) n1
   rw[Int.mul_one]at this;exact this
  have k3:(ZfB ts+x.pos)*w<=((i*u:Nat):Int)*w:=Int.mul_le_mul_of_nonneg_right hp (by omega)
  rw[Int.add_mul]at k3
  have e:(i+1)*(u*w)=i*u*w+u*w:=by rw[Nat.succ_mul,Nat.mul_assoc]
  have e2:(((i*u:Nat):Int)*w)=((i*u*w:Nat):Int):=by push_cast;rfl
  rw[e2]at k3
  rw[e]
  generalize i*u*w=A at *
  generalize u*w=B at *
  generalize ZfB ts*(w:Int)=D at *
  generalize x.pos*(w:Int)=F at *
  omega
 ·have:=Nat.mul_le_mul h.u1 h1;omega
 ·rw[ZbU,ZdV,Zwe,hs,ZdV,isG,show(Zap 5 mn mx a c [x]).k=5 from rfl]
  simp;omega
structure F (t:T)(l:List T):Prop where
 good:t.good=true
 goods:∀x∈l,x.good=true
 sz:t.nodes.length+szL l+l.length<=60
 pos:t.pos+ZfB l<=400
 gr:t.gr+grL l<=9
theorem F.start{i u g}{t:T}{l:List T}(h:J i (t::l) u g)(hi:i<=25):F t l:=by
 have h1:=h.sz
 have h2:=h.pos400 hi
 have h3:=h.gr
 rw[Zkx]at h1
 rw[Zq8]at h3
 have:=Zq9 l
 have:=h.g9
 exact⟨h.good t (by simp),λx hx=>h.good x (by simp[hx]),by omega,by simpa[ZfB]using h2,by omega⟩
theorem F.step{t x:T}{l:List T}(h:F t (x::l))(a:Option Addr)(c:Nat):F (Zhs 4 a c (ZbM 4 t++ZbM 4 x)) l:=by
 have h1:=h.sz
 have h2:=h.pos
 have h3:=h.gr
 rw[Zkx,List.length_cons]at h1
 rw[Zq8]at h3
 simp only[ZfB]at h2
 have n1:=ZhV l
 have n2:=(ZhU x).1
 have n3:=(ZhU t).1
 obtain⟨a1,a2,a3,a4⟩:=Zkz (.inr rfl) h.good (by omega) (t:=t)
 obtain⟨b1,b2,b3,b4⟩:=Zkz (.inr rfl) (h.goods x (by simp)) (by omega)
 obtain⟨c1,c2,c3,c4⟩:=Zoj (.inr rfl) a c (l:=ZbM 4 t++ZbM 4 x) (λz hz=>by
  rcases List.mem_append.1 hz with hz|hz
  ·exact a1 z hz
  ·exact b1 z hz)
 rw[ZaQ]at c2
 rw[ZbU]at c3
 rw[Zbf]at c4
 exact⟨c1,λz hz=>h.goods z (by simp[hz]),by omega,by omega,by omega⟩
theorem F.done{t:T}{l:List T}(h:F t l):t.check=0:=by
 have h1:=h.sz
 have h2:=h.pos
 have h3:=h.gr
 have n1:=ZhV l
 have hl:t.light=true:=by unfold T.light;exact decide_eq_true (by omega)
 have hc:t.clean=true:=by unfold T.clean;rw[hl];exact h.good
 have hg:((t.nodes.countP λx=>x.k == 6:Nat))=t.gr:=rfl
 unfold T.check
 rw[hc]
 unfold T.size T.positions T.groups
 rw[hl,hg]
 simp only[if_true,Bool.true_eq_false,if_false]
 rw[if_neg (by omega),if_neg (by omega),if_neg (by omega)]
theorem Zdj{t:T}(h:t.check=0):t.good=true/\t.nodes.length<=120:=by
 unfold T.check at h
 split at h
 ·exact absurd h (by decide)
 ·rename_i hc
  have hc':t.clean=true:=by simpa using hc
  unfold T.clean at hc'
  rw[Bool.and_eq_true]at hc'
  split at h
  ·exact absurd h (by decide)
  ·rename_i hz
   unfold T.size at hz
   rw[hc'.1]at hz
   simp only[if_true]at hz
   exact⟨hc'.2,by omega⟩
theorem Zra(n:Nat):(Zkw (Zd2 n)).good=true/\(Zkw (Zd2 n)).nodes.length=1/\(Zkw (Zd2 n)).pos<=1/\(Zkw (Zd2 n)).gr=0:=by
 have h:n % 12=0\/n % 12=1\/n % 12=2\/n % 12=3\/n % 12=4\/n % 12=5\/n % 12=6\/n % 12=7\/n % 12=8\/n % 12=9\/n % 12=10\/n % 12=11:=by omega
 unfold Zd2
 rcases h with e|e|e|e|e|e|e|e|e|e|e|e <;> rw[e] <;> exact⟨by decide,by decide,by decide,by decide⟩
theorem Zwf:T1.good=true/\T1.nodes.length=1/\T1.pos<=1/\T1.gr=0:=⟨by decide,by decide,by decide,by decide⟩
theorem Zfi{k:Int}{t:T}:(ZbM k t).length<=t.nodes.length:=by
 unfold ZbM
 have:=Ztn t
 have:=ZsB t
 split
 ·omega
 ·split <;> simp <;> omega
end Go.Rx
namespace Go.Rx
open Go Go.Eng Go.RowKit
def nsL(l:List Nat):List Value:=l.map λi:Nat=>.int .i64 (i:Nat)
def Zpm:List Nat->List Nat->List Nat
 | seen,[]=>seen
 | seen,i::l=>if i∈seen then Zpm seen l else Zpm (seen++[i]) l
def ddp(l:List Nat):List Nat:=Zpm [] l
theorem Zm4:∀{l seen:List Nat} {j:Nat},j∈Zpm seen l↔j∈seen\/j∈l
 | [],seen,j=>by simp[Zpm]
 | i::l,seen,j=>by
  unfold Zpm
  by_cases h:i∈seen
  ·rw[if_pos h,Zm4,List.mem_cons]
   constructor
   ·rintro(h1|h1)
    ·exact .inl h1
    ·exact .inr (.inr h1)
   ·rintro(h1|rfl|h1)
    ·exact .inl h1
    ·exact .inl h
    ·exact .inr h1
  ·rw[if_neg h,Zm4,List.mem_append,List.mem_singleton,or_assoc,List.mem_cons]
theorem Zds{l:List Nat}{j:Nat}:j∈ddp l↔j∈l:=by unfold ddp;rw[Zm4];simp
theorem Zg6:∀{l r seen:List Nat},Zpm seen (l++r)=Zpm (Zpm seen l) r
 | [],r,seen=>rfl
 | i::l,r,seen=>by
  simp only[List.cons_append,Zpm]
  split
  ·exact Zg6
  ·exact Zg6
def Zm5:List (Nat->List Nat)->Nat->List Nat
 | [],i=>[i]
 | f::r,i=>ddp ((f i).flatMap (Zm5 r))
def Zhy(mx:Int)(d:Nat):Bool:=mx == -1||decide ((d:Int) < mx)
def Zbq(mn mx:Int)(d:Nat):Nat:=if mx=-1 then min (d+1) mn.toNat else d+1
def ZcK(f:Nat->List Nat)(mn mx:Int)(d i:Nat):List Nat:=if Zhy mx d=true then(f i).filter λj=>decide (i < j)||decide ((d:Int) < mn)else[]
def Zpu(mn:Int)(d i:Nat):List Nat:=if(d:Int) ≥ mn then[i]else[]
def ZkA(f:Nat->List Nat)(mn mx:Int):Nat->Nat->Nat->List Nat
 | 0,_,_=>[]
 | k+1,d,i=>ddp ((ZcK f mn mx d i).flatMap (ZkA f mn mx k (Zbq mn mx d))++Zpu mn d i)
def mR(len:Nat)(mn mx:Int)(d i:Nat):Nat:=if mx=-1 then(mn.toNat - d)+(len - i)else mx.toNat - d
def ZxR(t:T)(s:List Nat)(i:Nat):List Nat:=match s[i]? with
 | some c=>if t.hasB c=true then[i+1]else[]
 | none=>[]
mutual
def T.e0(s:List Nat):T->Nat->List Nat
 | .node k s0 s1 s2 s3 mn mx a c l=>λi=>
  if k=1 then[i]else if k=2 then ZxR (.node k s0 s1 s2 s3 mn mx a c l) s i
  else if k=6 then ddp (hd0 s l i)
  else if k=4 then ddp (ZrK s l i)
  else if k=3 then Zm5 (e0s s l) i
  else if k=5 then ZkA (hd0 s l) mn mx (mR s.length mn mx 0 i+1) 0 i else[]
def hd0(s:List Nat):List T->Nat->List Nat
 | []=>λ_=>[]
 | t::_=>λi=>t.e0 s i
def ZrK(s:List Nat):List T->Nat->List Nat
 | []=>λ_=>[]
 | t::l=>λi=>t.e0 s i++ZrK s l i
def e0s(s:List Nat):List T->List (Nat->List Nat)
 | []=>[]
 | t::l=>t.e0 s::e0s s l
end
theorem Zrb(s:List Nat):∀l:List T,e0s s l=l.map (T.e0 s)
 | []=>by simp[e0s]
 | t::l=>by simp[e0s,Zrb s l]
theorem Zok(s:List Nat)(i:Nat):∀l:List T,ZrK s l i=(l.map λt=>t.e0 s i).flatten
 | []=>by simp[ZrK]
 | t::l=>by simp[ZrK,Zok s i l]
def T.ends(s:List Nat)(t:T)(d i:Nat):List Nat:=
 if t.k=3 then Zm5 ((t.subs.map (T.e0 s)).drop d) i else if t.k=5 then ZkA (hd0 s t.subs) t.mn t.mx (mR s.length t.mn t.mx d i+1) d i else t.e0 s i
theorem Za5(s:List Nat)(t:T)(i:Nat):t.ends s 0 i=t.e0 s i:=by
 unfold T.ends
 cases t with
 | node k s0 s1 s2 s3 mn mx a c l=>
  simp only[T.k,T.subs,T.mn,T.mx,List.drop_zero]
  by_cases h:k=3
  ·subst h
   simp[T.e0,Zrb]
  ·simp only[h,if_false]
   by_cases h:k=5
   ·subst h
    simp[T.e0]
   ·simp only[h,if_false]
def T.lists(s:List Nat)(t:T)(d i:Nat):List (List Nat):=
 if t.k=1 then[[i]]else if t.k=2 then(match s[i]? with
  | some c=>if t.hasB c=true then[[i+1]]else[]
  | none=>[])
 else if t.k=6 then[hd0 s t.subs i]
 else if t.k=4 then t.subs.map λx=>x.e0 s i
 else if t.k=3 then(match t.subs[d]? with
  | none=>[[i]]
  | some x=>(x.e0 s i).map λj=>t.ends s (d+1) j)
 else if t.k=5 then((ZcK (hd0 s t.subs) t.mn t.mx d i).map λj=>t.ends s (Zbq t.mn t.mx d) j)++(if(d:Int) ≥ t.mn then[[i]]else[])else[]
def ZeB(len:Nat)(f:Nat->List Nat):Prop:=∀i,i<=len->∀j∈f i,i<=j/\j<=len
theorem Zg7{len:Nat}:∀{l:List (Nat->List Nat)},(∀f∈l,ZeB len f)->ZeB len (Zm5 l)
 | [],_,i,hi,j,hj=>by simp[Zm5]at hj;omega
 | f::l,h,i,hi,j,hj=>by
  simp only[Zm5]at hj
  rw[Zds,List.mem_flatMap]at hj
  obtain⟨x,hx,hj⟩:=hj
  obtain⟨h1,h2⟩:=h f (by simp) i hi x hx
  obtain⟨h3,h4⟩:=Zg7 (λf hf=>h f (by simp[hf])) x h2 j hj
  omega
theorem Za6{f:Nat->List Nat}{mn mx:Int}{d i j:Nat}(h:j∈ZcK f mn mx d i):Zhy mx d=true/\j∈f i/\(i < j\/(d:Int) < mn):=by
 unfold ZcK at h
 split at h
 ·rename_i hm
  rw[List.mem_filter]at h
  simp only[Bool.or_eq_true,decide_eq_true_eq]at h
  exact⟨hm,h.1,h.2⟩
 ·simp at h
theorem Zg8{len:Nat}{f:Nat->List Nat}(hf:ZeB len f){mn mx:Int}:∀{k d:Nat},ZeB len (ZkA f mn mx k d)
 | 0,d,i,hi,j,hj=>by simp[ZkA]at hj
 | k+1,d,i,hi,j,hj=>by
  simp only[ZkA]at hj
  rw[Zds,List.mem_append,List.mem_flatMap]at hj
  rcases hj with⟨x,hx,hj⟩|hj
  ·obtain⟨_,h1,_⟩:=Za6 hx
   obtain⟨h2,h3⟩:=hf i hi x h1
   obtain⟨h4,h5⟩:=Zg8 hf x h3 j hj
   omega
  ·unfold Zpu at hj
   split at hj
   ·simp at hj;omega
   ·simp at hj
theorem Zrc{len:Nat}{mn mx:Int}{d i j:Nat}(fT:0<=mn)(eS:mx=-1\/mn<=mx)(hm:Zhy mx d=true)(hj:i<=j/\j<=len)(h:i < j\/(d:Int) < mn):mR len mn mx (Zbq mn mx d) j < mR len mn mx d i:=by
 unfold mR Zbq
 unfold Zhy at hm
 simp only[Bool.or_eq_true,beq_iff_eq,decide_eq_true_eq]at hm
 by_cases e:mx=-1
 ·simp only[e,if_true]
  rcases Nat.lt_or_ge d mn.toNat with h1|h1
  ·rw[Nat.min_eq_left (by omega)];omega
  ·rw[Nat.min_eq_right (by omega)];omega
 ·simp only[e,if_false]
  have:=hm.resolve_left e
  omega
theorem ZkB{len:Nat}{f:Nat->List Nat}(hf:ZeB len f){mn mx:Int}(fT:0<=mn)(eS:mx=-1\/mn<=mx):∀{k k' d i:Nat},i<=len->mR len mn mx d i < k->mR len mn mx d i < k'->ZkA f mn mx k d i=ZkA f mn mx k' d i
 | 0,k',d,i,_,h,_=>by omega
 | k+1,0,d,i,_,_,h=>by omega
 | k+1,k'+1,d,i,hi,h1,h2=>by
  simp only[ZkA]
  congr 2
  have:∀x∈ZcK f mn mx d i,ZkA f mn mx k (Zbq mn mx d) x=ZkA f mn mx k' (Zbq mn mx d) x:=λx hx=>by
   obtain⟨g1,g2,g3⟩:=Za6 hx
   obtain⟨g4,g5⟩:=hf i hi x g2
   have:=Zrc (len:=len) fT eS g1 ⟨g4,g5⟩ g3
   exact ZkB hf fT eS g5 (by omega) (by omega)
  rw[List.flatMap_def,List.flatMap_def,List.map_congr_left this]
mutual
theorem Zba(s:List Nat):∀t:T,ZeB s.length (t.e0 s)
 | .node k s0 s1 s2 s3 mn mx a c l=>λi hi j hj=>by
  simp only[T.e0]at hj
  split at hj
  ·simp at hj;omega
  ·split at hj
   ·unfold ZxR at hj
    split at hj
    ·rename_i c hc
     have:=(List.getElem?_eq_some_iff.1 hc).1
     split at hj
     ·simp at hj;omega
     ·simp at hj
    ·simp at hj
   ·split at hj
    ·rw[Zds]at hj
     exact Zbd s l i hi j hj
    ·split at hj
     ·rw[Zds]at hj
      exact ZjB s l i hi j hj
     ·split at hj
      ·exact Zg7 (ZlL s l) i hi j hj
      ·split at hj
       ·exact Zg8 (Zbd s l) i hi j hj
       ·simp at hj
theorem Zbd(s:List Nat):∀l:List T,ZeB s.length (hd0 s l)
 | []=>λi hi j hj=>by simp[hd0]at hj
 | t::l=>λi hi j hj=>Zba s t i hi j (by simpa[hd0]using hj)
theorem ZjB(s:List Nat):∀l:List T,ZeB s.length (ZrK s l)
 | []=>λi hi j hj=>by simp[ZrK]at hj
 | t::l=>λi hi j hj=>by
  simp only[ZrK,List.mem_append]at hj
  rcases hj with hj|hj
  ·exact Zba s t i hi j hj
  ·exact ZjB s l i hi j hj
theorem ZlL(s:List Nat):∀l:List T,∀f∈e0s s l,ZeB s.length f
 | []=>λf hf=>by simp[e0s]at hf
 | t::l=>λf hf=>by
  simp only[e0s,List.mem_cons]at hf
  rcases hf with rfl|hf
  ·exact Zba s t
  ·exact ZlL s l f hf
end
theorem Zg9(s:List Nat)(t:T)(d:Nat):ZeB s.length (t.ends s d):=λi hi j hj=>by
 unfold T.ends at hj
 split at hj
 ·exact Zg7 (λf hf=>by
   obtain⟨x,_,rfl⟩:=List.mem_map.1 (List.mem_of_mem_drop hf)
   exact Zba s x) i hi j hj
 ·split at hj
  ·exact Zg8 (Zbd s t.subs) i hi j hj
  ·exact Zba s t i hi j hj
theorem Zqd(s:List Nat)(t:T)(d i:Nat)(hi:i<=s.length)(hk:t.k=5->0<=t.mn/\(t.mx=-1\/t.mn<=t.mx)):t.ends s d i=ddp (t.lists s d i).flatten:=by
 unfold T.ends T.lists
 by_cases h3:t.k=3
 ·simp only[h3,if_true,show ¬(3:Int)=1 by decide,show ¬(3:Int)=2 by decide,show ¬(3:Int)=6 by decide,show ¬(3:Int)=4 by decide,if_false]
  cases hd:t.subs[d]? with
  | none=>
   have:t.subs.length<=d:=List.getElem?_eq_none_iff.1 hd
   rw[List.drop_eq_nil_of_le (by simpa using this)]
   rfl
  | some x=>
   have bF:=(List.getElem?_eq_some_iff.1 hd).1
   rw[List.drop_eq_getElem_cons (by simpa using bF)]
   simp only[Zm5,List.getElem_map]
   have hx:t.subs[d]=x:=(List.getElem?_eq_some_iff.1 hd).2
   rw[hx,List.flatMap_def]
   congr 2
   refine List.map_congr_left λj _=>?_
   unfold T.ends
   rw[if_pos h3]
 ·simp only[h3,if_false]
  by_cases h5:t.k=5
  ·obtain⟨fT,eS⟩:=hk h5
   simp only[h5,if_true,show ¬(5:Int)=1 by decide,show ¬(5:Int)=2 by decide,show ¬(5:Int)=6 by decide,show ¬(5:Int)=4 by decide,if_false]
   simp only[ZkA]
   congr 1
   rw[List.flatten_append]
   congr 1
   ·rw[List.flatMap_def]
    congr 1
    refine List.map_congr_left λj hj=>?_
    obtain⟨g1,g2,g3⟩:=Za6 hj
    obtain⟨g4,g5⟩:=Zbd s t.subs i hi j g2
    have:=Zrc (len:=s.length) fT eS g1 ⟨g4,g5⟩ g3
    unfold T.ends
    rw[if_neg (by rw[h5];decide),if_pos h5]
    exact ZkB (Zbd s t.subs) fT eS g5 (by omega) (by omega)
   ·unfold Zpu;split <;> rfl
  ·simp only[h5,if_false]
   cases t with
   | node k s0 s1 s2 s3 mn mx a c l=>
    simp only[T.k]at h3 h5 ⊢
    simp only[T.e0,h3,h5,if_false,T.subs]
    by_cases h1:k=1
    ·simp[h1,ddp,Zpm]
    ·simp only[h1,if_false]
     by_cases h2:k=2
     ·simp only[h2,if_true]
      unfold ZxR
      cases s[i]? with
      | none=>rfl
      | some ch=>simp only;split <;> rfl
     ·simp only[h2,if_false]
      by_cases h6:k=6
      ·simp[h6]
      ·simp only[h6,if_false]
       by_cases h4:k=4
       ·simp only[h4,if_true];rw[Zok]
       ·simp only[h4,if_false];rfl
end Go.Rx
namespace Go.Rx
open Go Go.Eng Go.RowKit
noncomputable abbrev but(m:Mem)(kb:Nat):Mem:=m.off (λb=>b=kb)
theorem ZkC{m:Mem}{kb:Nat}(o:Nat):but m kb kb o=none:=Mem.off_free (Y:=λb=>b=kb) rfl o
theorem Zmr{m:Mem}{kb b:Nat}(h:b≠kb)(o:Nat):but m kb b o=m b o:=Mem.off_at (Y:=λb=>b=kb) h o
theorem Zms{m:Mem}{kb:Nat}:(but m kb).k kb=none:=Mem.off_kn (Y:=λb=>b=kb) rfl
theorem Zyk{m:Mem}{kb b:Nat}(h:b≠kb):(but m kb).k b=m.k b:=Mem.off_k (Y:=λb=>b=kb) h
theorem ZhX(m:Mem)(kb:Nat):(but m kb).le m:=Mem.off_le _ _
theorem ZeW{m m':Mem}{kb:Nat}(h:(but m kb).le m'):(but m kb).le (but m' kb):=⟨λb o v hv=>by
 by_cases e:b=kb
 ·subst e;rw[ZkC]at hv;cases hv
 ·rw[Zmr e];exact h.c b o v hv,λb v hv=>by
 by_cases e:b=kb
 ·subst e;rw[Zms]at hv;cases hv
 ·rw[Zyk e];exact h.k b v hv⟩
theorem Zol{m m':Mem}{kb:Nat}(h:m.le m'):(but m kb).le (but m' kb):=ZeW (mLt (Mem.off_le _ _) h)
inductive Nd where
 | mk (b id grp:Nat) (t:T) (a:Option Addr) (c:Nat) (subs:List Nd)
def Nd.b:Nd->Nat
 | .mk b _ _ _ _ _ _=>b
def Nd.id:Nd->Nat
 | .mk _ i _ _ _ _ _=>i
def Nd.grp:Nd->Nat
 | .mk _ _ g _ _ _ _=>g
def Nd.t:Nd->T
 | .mk _ _ _ t _ _ _=>t
def Nd.a:Nd->Option Addr
 | .mk _ _ _ _ a _ _=>a
def Nd.c:Nd->Nat
 | .mk _ _ _ _ _ c _=>c
def Nd.subs:Nd->List Nd
 | .mk _ _ _ _ _ _ l=>l
def Nd.cs(n:Nd):List Value:=n.t.cs++[.int .i64 n.id,.int .i64 n.grp,.slice n.a n.subs.length n.c]
mutual
def NRep(m:Mem):Nd->Prop
 | .mk b id grp t a c l=>m.reads b 0 (t.cs++[.int .i64 (id:Nat),.int .i64 (grp:Nat),.slice a l.length c])/\(Rep m t/\l.map Nd.t=t.subs)/\(id < 4611686018427387904/\grp < 4611686018427387904)/\(l=[]\/∃b0 o,a=some ⟨b0,o,none⟩/\NRow m b0 o l)
def NRow(m:Mem)(b0:Nat):Nat->List Nd->Prop
 | _,[]=>True
 | o,x::l=>m b0 o=some (ptr x.b 0)/\NRep m x/\NRow m b0 (o+1) l
end
theorem Zdt{m:Mem}{n:Nd}:NRep m n↔m.reads n.b 0 n.cs/\(Rep m n.t/\n.subs.map Nd.t=n.t.subs)/\(n.id < 4611686018427387904/\n.grp < 4611686018427387904)/\(n.subs=[]\/∃b0 o,n.a=some ⟨b0,o,none⟩/\NRow m b0 o n.subs):=by
 cases n;simp only[NRep,Nd.b,Nd.cs,Nd.t,Nd.subs,Nd.a,Nd.id,Nd.grp,Nd.c]
mutual
theorem NRep.mono{m m':Mem}(h:m.le m'):∀n:Nd,NRep m n->NRep m' n
 | .mk b id grp t a c l,hr=>by
  simp only[NRep]at hr ⊢
  refine⟨hr.1.mono h,⟨Rep.mono h t hr.2.1.1,hr.2.1.2⟩,hr.2.2.1,?_⟩
  rcases hr.2.2.2 with h1|⟨b0,o,h1,h2⟩
  ·exact .inl h1
  ·exact .inr ⟨b0,o,h1,NRow.mono h b0 o l h2⟩
theorem NRow.mono{m m':Mem}(h:m.le m')(b0:Nat):∀(o:Nat)(l:List Nd),NRow m b0 o l->NRow m' b0 o l
 | _,[],_=>by simp only[NRow]
 | o,x::l,hr=>by
  simp only[NRow]at hr ⊢
  exact⟨h.c _ _ _ hr.1,NRep.mono h x hr.2.1,NRow.mono h b0 (o+1) l hr.2.2⟩
end
theorem NRow.get{m:Mem}{b0:Nat}:∀{o:Nat} {l:List Nd} {i:Nat} {x:Nd},NRow m b0 o l->l[i]?=some x->m b0 (o+i)=some (ptr x.b 0)/\NRep m x
 | o,[],i,x,_,hi=>by simp at hi
 | o,y::l,0,x,h,hi=>by
  simp only[NRow]at h
  simp at hi;subst hi
  exact⟨h.1,h.2.1⟩
 | o,y::l,i+1,x,h,hi=>by
  simp only[NRow]at h
  have:=h.2.2.get (i:=i) (by simpa using hi)
  rw[show o+(i+1)=o+1+i by omega];exact this
mutual
def Nd.all:Nd->List Nd
 | .mk b id grp t a c l=>.mk b id grp t a c l::Zk8 l
def Zk8:List Nd->List Nd
 | []=>[]
 | x::l=>x.all++Zk8 l
end
theorem Zwg(n:Nd):n.all=n::Zk8 n.subs:=by cases n;simp only[Nd.all,Nd.subs]
theorem ZcY(n:Nd):n∈n.all:=by rw[Zwg];simp
theorem Zut{l:List Nd}{x y:Nd}(hx:x∈l)(hy:y∈x.all):y∈Zk8 l:=by
 induction l with
 | nil=>cases hx
 | cons z l ih=>
  simp only[Zk8,List.mem_append]
  rcases List.mem_cons.1 hx with rfl|hx
  ·exact .inl hy
  ·exact .inr (ih hx)
mutual
theorem Zom:∀(n x y:Nd),x∈n.all->y∈x.all->y∈n.all
 | .mk b id grp t a c l,x,y,hx,hy=>by
  simp only[Nd.all,List.mem_cons]at hx ⊢
  rcases hx with rfl|hx
  ·simp only[Nd.all,List.mem_cons]at hy;exact hy
  ·exact .inr (ZlM l x y hx hy)
theorem ZlM:∀(l:List Nd)(x y:Nd),x∈Zk8 l->y∈x.all->y∈Zk8 l
 | [],x,y,hx,_=>by simp[Zk8]at hx
 | z::l,x,y,hx,hy=>by
  simp only[Zk8,List.mem_append]at hx ⊢
  rcases hx with hx|hx
  ·exact .inl (Zom z x y hx hy)
  ·exact .inr (ZlM l x y hx hy)
end
theorem Zew{n x y:Nd}(h:x∈n.all)(hy:y∈x.subs):y∈n.all:=Zom n x y h (by rw[Zwg];exact List.mem_cons_of_mem _ (Zut hy (ZcY y)))
mutual
theorem ZbB{m:Mem}:∀n:Nd,NRep m n->∀x∈n.all,NRep m x
 | .mk b id grp t a c l,hr,x,hx=>by
  simp only[Nd.all,List.mem_cons]at hx
  rcases hx with rfl|hx
  ·exact hr
  ·simp only[NRep]at hr
   rcases hr.2.2.2 with h|⟨b0,o,_,h⟩
   ·subst h;simp[Zk8]at hx
   ·exact Zrd b0 o l h x hx
theorem Zrd{m:Mem}(b0:Nat):∀(o:Nat)(l:List Nd),NRow m b0 o l->∀x∈Zk8 l,NRep m x
 | _,[],_,x,hx=>by simp[Zk8]at hx
 | o,y::l,hr,x,hx=>by
  simp only[NRow]at hr
  simp only[Zk8,List.mem_append]at hx
  rcases hx with hx|hx
  ·exact ZbB y hr.2.1 x hx
  ·exact Zrd b0 (o+1) l hr.2.2 x hx
end
theorem Zyl{n x:Nd}(h:x∈n.subs):SizeOf.sizeOf x < SizeOf.sizeOf n:=by
 cases n with
 | mk b id grp t a c l=>
  have h':x∈l:=h
  have:=List.sizeOf_lt_of_mem h'
  simp only[Nd.mk.sizeOf_spec]
  omega
def plK(id d i:Nat):Value:=.agg #[.int .i64 (id:Nat),.int .i64 (d:Nat),.int .i64 (i:Nat)]
def Memo(B:Mem)(root:Nd)(s:List Nat)(es:List (Value×Value)):Prop:=
 ∀e∈es,∃(n:Nd)(d i:Nat)(a:Option Addr)(c:Nat),n∈root.all/\e=(plK n.id d i,.slice a (n.t.ends s d i).length c)/\rowRd B a (nsL (n.t.ends s d i))
theorem Memo.mono{B B':Mem}{root:Nd}{s:List Nat}{es:List (Value×Value)}(h:Memo B root s es)(hB:B.le B'):Memo B' root s es:=λe he=>by
 obtain⟨n,d,i,a,c,h1,h2,h3⟩:=h e he
 exact⟨n,d,i,a,c,h1,h2,h3.mono hB⟩
structure Fin (B:Mem)(fb kb:Nat)(root:Nd)(sa:Option Addr)(s:List Nat)(sc:Nat):Prop where
 str:B fb 0=some (.slice sa s.length sc)
 memo:B fb 3=some (.map (some kb))
 byt:Byt B sa s
 len:s.length<=512
 rep:NRep B root
 ids:∀x∈root.all,∀y∈root.all,x.id=y.id->x=y
 good:∀x∈root.all,x.t.right=true
theorem Fin.mono{B B':Mem}{fb kb:Nat}{root:Nd}{sa:Option Addr}{s:List Nat}{sc:Nat}(h:Fin B fb kb root sa s sc)(hB:B.le B'):Fin B' fb kb root sa s sc:=
 ⟨hB.c _ _ _ h.str,hB.c _ _ _ h.memo,h.byt.mono hB,h.len,NRep.mono hB _ h.rep,h.ids,h.good⟩
theorem Zon{m:Mem}{kb:Nat}{Z:Nat->Prop}(hz:Z kb):(m.off Z).le (but m kb):=⟨λb o v h=>by
 by_cases e:Z b
 ·rw[Mem.off_free e]at h;cases h
 ·rw[Mem.off_at e]at h
  rw[Zmr (λh':b=kb=>e (by rw[h'];exact hz))];exact h,λb v h=>by
 by_cases e:Z b
 ·rw[Mem.off_kn e]at h;cases h
 ·rw[Mem.off_k e]at h
  rw[Zyk (λh':b=kb=>e (by rw[h'];exact hz))];exact h⟩
theorem Zoo{m m':Mem}{Z:Nat->Prop}(h:(m.off Z).le m'):(m.off Z).le (m'.off Z):=⟨λb o v hv=>by
 by_cases e:Z b
 ·rw[Mem.off_free e]at hv;cases hv
 ·rw[Mem.off_at e];exact h.c b o v hv,λb v hv=>by
 by_cases e:Z b
 ·rw[Mem.off_kn e]at hv;cases hv
 ·rw[Mem.off_k e];exact h.k b v hv⟩
theorem Ztt{m m':Mem}{kb:Nat}{Z:Nat->Prop}(hz:Z kb)(h:(but m kb).le m'):(m.off Z).le (m'.off Z):=Zoo (mLt (Zon hz) h)
theorem ZfP{m m':Mem}{Z:Nat->Prop}(h:m.le m'):(m.off Z).le (m'.off Z):=Zoo (mLt (Mem.off_le _ _) h)
def HasM(m:Mem)(kb:Nat)(Z:Nat->Prop)(root:Nd)(s:List Nat):Prop:=∃es,m.k kb=some es/\Memo (m.off Z) root s es
theorem HasM.le{m m':Mem}{kb:Nat}{Z:Nat->Prop}{root:Nd}{s:List Nat}(h:HasM m kb Z root s)(hm:m.le m'):HasM m' kb Z root s:=by
 obtain⟨es,h1,h2⟩:=h
 exact⟨es,hm.k _ _ h1,h2.mono (ZfP hm)⟩
def ZOk(m:Mem)(kb:Nat)(Z:Nat->Prop):Prop:=Z kb/\∀b,Z b->b=kb\/∃v,m b 0=some v
theorem ZOk.next{m m':Mem}{kb:Nat}{Z:Nat->Prop}(h:ZOk m kb Z)(hm:(but m kb).le m'):ZOk m' kb Z:=⟨h.1,λb hb=>by
 rcases h.2 b hb with e|⟨v,hv⟩
 ·exact .inl e
 ·by_cases e:b=kb
  ·exact .inl e
  ·exact .inr ⟨v,hm.c _ _ _ (by rw[Zmr e];exact hv)⟩⟩
theorem ZOk.le{m m':Mem}{kb:Nat}{Z:Nat->Prop}(h:ZOk m kb Z)(hm:m.le m'):ZOk m' kb Z:=h.next (mLt (ZhX _ _) hm)
theorem ZOk.new{m:Mem}{kb b:Nat}{Z:Nat->Prop}(h:ZOk m kb Z)(hk:∃es,m.k kb=some es)(h1:m.free b)(h2:m.k b=none):¬Z b:=λhb=>by
 rcases h.2 b hb with e|⟨v,hv⟩
 ·subst e
  obtain⟨es,eC⟩:=hk
  rw[eC]at h2;cases h2
 ·rw[h1 0]at hv;cases hv
end Go.Rx
namespace Go.Rx
open Go Go.Eng Go.RowKit
abbrev PL:=List (Int×Int)
def Zm6(W:Nat->Nat->PL->PL)(E:Nat->List Nat)(len:Nat)(mn mx:Int)(to:Nat):Nat->Nat->Nat->PL->Nat->PL×Nat
 | 0,_,_,P,r=>(P,r)
 | k+1,d,i,P,r=>match(ZcK E mn mx d i).find? (λj=>decide (to∈ZkA E mn mx (mR len mn mx (Zbq mn mx d) j+1) (Zbq mn mx d) j))with
  | none=>(P,r)
  | some j=>Zm6 W E len mn mx to k (Zbq mn mx d) j (W i j P) (r+1)
mutual
def T.ngr:T->Nat
 | .node k _ _ _ _ _ _ _ _ l=>(if k=6 then 1 else 0)+Zep l
def Zep:List T->Nat
 | []=>0
 | t::l=>t.ngr+Zep l
end
theorem Zwh(t:T):t.ngr=(if t.k=6 then 1 else 0)+Zep t.subs:=by cases t;rfl
mutual
def T.wk(s:List Nat):T->Nat->Nat->Nat->PL->PL×Nat
 | .node k s0 s1 s2 s3 mn mx a c l=>λg i to P=>
  if k=6 then(hdW s l (g+1) i to (P.set g ((i:Int),(to:Int))),0)
  else if k=4 then(Zm7 s l g i to P,0)
  else if k=3 then(Zm8 s l g i to P,0)
  else if k=5 then Zm6 (hdW s l g) (hd0 s l) s.length mn mx to (mR s.length mn mx 0 i+1) 0 i P 0
  else(P,0)
def hdW(s:List Nat):List T->Nat->Nat->Nat->PL->PL
 | []=>λ_ _ _ P=>P
 | t::_=>λg i to P=>(t.wk s g i to P).1
def Zm7(s:List Nat):List T->Nat->Nat->Nat->PL->PL
 | []=>λ_ _ _ P=>P
 | t::l=>λg i to P=>if to∈t.e0 s i then(t.wk s g i to P).1 else Zm7 s l (g+t.ngr) i to P
def Zm8(s:List Nat):List T->Nat->Nat->Nat->PL->PL
 | []=>λ_ _ _ P=>P
 | t::l=>λg i to P=>match(t.e0 s i).find? (λj=>decide (to∈Zm5 (e0s s l) j))with
  | none=>P
  | some j=>Zm8 s l (g+t.ngr) j to (t.wk s g i j P).1
end
theorem Zwi(s:List Nat)(t:T)(g i to:Nat)(P:PL):t.wk s g i to P =
  if t.k=6 then(hdW s t.subs (g+1) i to (P.set g ((i:Int),(to:Int))),0)
  else if t.k=4 then(Zm7 s t.subs g i to P,0)
  else if t.k=3 then(Zm8 s t.subs g i to P,0)
  else if t.k=5 then Zm6 (hdW s t.subs g) (hd0 s t.subs) s.length t.mn t.mx to (mR s.length t.mn t.mx 0 i+1) 0 i P 0
  else(P,0):=by cases t;rfl
theorem Zm9{W:Nat->Nat->PL->PL}(hW:∀i j P,(W i j P).length=P.length){E:Nat->List Nat}{len:Nat}{mn mx:Int}{to:Nat}:∀{k d i:Nat} {P:PL} {r:Nat},(Zm6 W E len mn mx to k d i P r).1.length=P.length
 | 0,d,i,P,r=>rfl
 | k+1,d,i,P,r=>by
  unfold Zm6
  split
  ·rfl
  ·rw[Zm9 hW,hW]
mutual
theorem Zop(s:List Nat):∀(t:T)(g i to:Nat)(P:PL),(t.wk s g i to P).1.length=P.length
 | .node k s0 s1 s2 s3 mn mx a c l=>λg i to P=>by
  simp only[T.wk]
  split
  ·rw[Zre s l];simp
  ·split
   ·exact Zrf s l _ _ _ _
   ·split
    ·exact Zrg s l _ _ _ _
    ·split
     ·exact Zm9 λi j P=>Zre s l _ _ _ _
     ·rfl
theorem Zre(s:List Nat):∀(l:List T)(g i to:Nat)(P:PL),(hdW s l g i to P).length=P.length
 | []=>λ_ _ _ _=>by simp[hdW]
 | t::_=>λg i to P=>by simp only[hdW];exact Zop s t g i to P
theorem Zrf(s:List Nat):∀(l:List T)(g i to:Nat)(P:PL),(Zm7 s l g i to P).length=P.length
 | []=>λ_ _ _ _=>by simp[Zm7]
 | t::l=>λg i to P=>by
  simp only[Zm7]
  split
  ·exact Zop s t g i to P
  ·exact Zrf s l _ _ _ _
theorem Zrg(s:List Nat):∀(l:List T)(g i to:Nat)(P:PL),(Zm8 s l g i to P).length=P.length
 | []=>λ_ _ _ _=>by simp[Zm8]
 | t::l=>λg i to P=>by
  simp only[Zm8]
  split
  ·rfl
  ·rw[Zrg s l,Zop s t]
end
theorem Zrh{f:Nat->List Nat}{r:List (Nat->List Nat)}{i to:Nat}:to∈Zm5 (f::r) i↔∃j∈f i,to∈Zm5 r j:=by
 simp only[Zm5]
 rw[Zds,List.mem_flatMap]
mutual
def Nd.num:Nd->Nat->Prop
 | .mk b id grp t a c l=>λg=>(t.k=6->grp=g)/\Zwj l (g+if t.k=6 then 1 else 0)
def Zwj:List Nd->Nat->Prop
 | []=>λ_=>True
 | x::l=>λg=>x.num g/\Zwj l (g+x.t.ngr)
end
theorem Zwk(n:Nd)(g:Nat):n.num g↔(n.t.k=6->n.grp=g)/\Zwj n.subs (g+if n.t.k=6 then 1 else 0):=by
 cases n;exact Iff.rfl
def PtAt(m:Mem)(pa:Option Addr)(P:PL):Prop:=(P=[]/\pa=none)\/∃b,pa=some ⟨b,0,none⟩/\(∀q p,P[q]?=some p->m b (q*2)=some (.int .i64 p.1)/\m b (q*2+1)=some (.int .i64 p.2))/\P≠[]
theorem PtAt.mono{m m':Mem}{pa:Option Addr}{P:PL}(h:PtAt m pa P)(hm:m.le m'):PtAt m' pa P:=by
 rcases h with h|⟨b,h1,h2,h3⟩
 ·exact .inl h
 ·exact .inr ⟨b,h1,λq p hq=>⟨hm.c _ _ _ (h2 q p hq).1,hm.c _ _ _ (h2 q p hq).2⟩,h3⟩
theorem PtAt.but{m:Mem}{pa:Option Addr}{P:PL}{kb:Nat}(h:PtAt m pa P)(hk:∀b,pa=some ⟨b,0,none⟩->b≠kb):PtAt (but m kb) pa P:=by
 rcases h with h|⟨b,h1,h2,h3⟩
 ·exact .inl h
 ·exact .inr ⟨b,h1,λq p hq=>by rw[Zmr (hk b h1),Zmr (hk b h1)];exact h2 q p hq,h3⟩
def Zp(kb:Nat)(pa:Option Addr)(b:Nat):Prop:=b=kb\/pa=some ⟨b,0,none⟩
theorem PtAt.upd{m:Mem}{pa:Option Addr}{P:PL}{b g:Nat}{x y:Int}(h:PtAt m pa P)(hb:pa=some ⟨b,0,none⟩)(hg:g < P.length):PtAt (m.upd b (0+g*2) [.int .i64 x,.int .i64 y]) pa (P.set g (x,y)):=by
 rcases h with⟨h,_⟩|⟨b',h1,h2,h3⟩
 ·subst h;simp at hg
 rw[hb]at h1;cases h1
 refine .inr ⟨b,hb,λq p hq=>?_,by simp[h3]⟩
 rw[Nat.zero_add]
 by_cases e:q=g
 ·subst e
  rw[List.getElem?_set_self hg]at hq
  cases hq
  constructor
  ·show(if b=b/\q*2<=q*2/\q*2 < q*2+2 then _ else _)=_
   rw[if_pos ⟨rfl,by omega,by omega⟩]
   simp
  ·show(if b=b/\q*2<=q*2+1/\q*2+1 < q*2+2 then _ else _)=_
   rw[if_pos ⟨rfl,by omega,by omega⟩]
   simp
 ·rw[List.getElem?_set_ne (Ne.symm e)]at hq
  obtain⟨g1,g2⟩:=h2 q p hq
  constructor
  ·show(if b=b/\g*2<=q*2/\q*2 < g*2+2 then _ else _)=_
   rw[if_neg (by omega)];exact g1
  ·show(if b=b/\g*2<=q*2+1/\q*2+1 < g*2+2 then _ else _)=_
   rw[if_neg (by omega)];exact g2
theorem Zwl{m:Mem}{Z:Nat->Prop}{b o:Nat}{vs:List Value}(h:Z b):(m.off Z).le ((m.upd b o vs).off Z):=⟨λb' o' v hv=>by
 by_cases e:Z b'
 ·rw[Mem.off_free e]at hv;cases hv
 ·rw[Mem.off_at e]at hv ⊢
  rw[Mem.upd_other m (λh':b'=b=>e (by rw[h'];exact h))];exact hv,λb' v hv=>by
 by_cases e:Z b'
 ·rw[Mem.off_kn e]at hv;cases hv
 ·rw[Mem.off_k e]at hv ⊢;exact hv⟩
theorem Zri{x:Nd}:∀{l:List Nd} {j g:Nat},Zwj (l.drop j) g->l[j]?=some x->x.num g/\Zwj (l.drop (j+1)) (g+x.t.ngr):=λ{l j g} h hx=>by
 rw[ZhW hx]at h
 exact h
end Go.Rx
namespace Go.Rx
open Go Go.Eng Go.RowKit
mutual
def Nd.idn:Nd->Nat->Prop
 | .mk b id grp t a c l=>λk=>id=k/\Zxt l (k+1)
def Zxt:List Nd->Nat->Prop
 | []=>λ_=>True
 | x::l=>λk=>x.idn k/\Zxt l (k+x.t.nodes.length)
end
theorem ZxS(n:Nd)(k:Nat):n.idn k↔n.id=k/\Zxt n.subs (k+1):=by
 cases n;exact Iff.rfl
theorem Zrj{x:Nd}:∀{l:List Nd} {g:Nat},Zwj l g->x.num (g+Zep (l.map Nd.t))->Zwj (l++[x]) g
 | [],g,_,h=>⟨by simpa[Zep]using h,trivial⟩
 | y::l,g,h1,h=>⟨h1.1,Zrj h1.2 (by simpa[Zep,Nat.add_assoc]using h)⟩
theorem Zrk{x:Nd}:∀{l:List Nd} {k:Nat},Zxt l k->x.idn (k+(Zak (l.map Nd.t)).length)->Zxt (l++[x]) k
 | [],k,_,h=>⟨by simpa[Zak]using h,trivial⟩
 | y::l,k,h1,h=>⟨h1.1,Zrk h1.2 (by simpa[Zak,Nat.add_assoc]using h)⟩
theorem ZhY{l:List T}{i:Nat}{t:T}(h:l[i]?=some t):Zep (l.take (i+1))=Zep (l.take i)+t.ngr:=by
 have app:∀(a b:List T),Zep (a++b)=Zep a+Zep b:=λa b=>by
  induction a with
  | nil=>simp[Zep]
  | cons x a ih=>simp[Zep,ih,Nat.add_assoc]
 rw[Zce h,app];simp[Zep]
theorem Ztu{l:List T}{i:Nat}:Zep (l.take i)<=Zep l:=by
 induction l generalizing i with
 | nil=>simp[Zep]
 | cons x l ih=>
  cases i with
  | zero=>simp[Zep]
  | succ i=>simp only[List.take_succ_cons,Zep];have:=ih (i:=i);omega
theorem Zoq{l:List T}{i:Nat}:(Zak (l.take i)).length<=(Zak l).length:=by
 induction l generalizing i with
 | nil=>simp[Zak]
 | cons x l ih=>
  cases i with
  | zero=>simp[Zak]
  | succ i=>simp only[List.take_succ_cons,Zak,List.length_append];have:=ih (i:=i);omega
def Nd.ok(n:Nd):Prop:=∀x∈n.all,x.subs.map Nd.t=x.t.subs
theorem Zwm{m:Mem}{n:Nd}(h:NRep m n):n.ok:=λx hx=>(Zdt.1 (ZbB n h x hx)).2.1.2
mutual
theorem Zuu:∀(n:Nd)(k:Nat),(∀x∈n.all,x.subs.map Nd.t=x.t.subs)->n.idn k->∀x∈n.all,k<=x.id/\x.id < k+n.t.nodes.length
 | .mk b id grp t a c l,k,ho,h,x,hx=>by
  obtain⟨rfl,h⟩:=h
  have he:l.map Nd.t=t.subs:=ho (.mk b id grp t a c l) (ZcY _)
  show id<=x.id/\x.id < id+t.nodes.length
  rw[Zbc t,<-he,List.length_cons]
  simp only[Nd.all,List.mem_cons]at hx
  rcases hx with rfl|hx
  ·show id<=id/\id < _
   omega
  ·have:=ZjC l (id+1) (λy hy=>ho y (by simp only[Nd.all,List.mem_cons];exact .inr hy)) h x hx
   omega
theorem ZjC:∀(l:List Nd)(k:Nat),(∀x∈Zk8 l,x.subs.map Nd.t=x.t.subs)->Zxt l k->∀x∈Zk8 l,k<=x.id/\x.id < k+(Zak (l.map Nd.t)).length
 | [],k,ho,h,x,hx=>by simp[Zk8]at hx
 | y::l,k,ho,h,x,hx=>by
  simp only[Zk8,List.mem_append]at hx ho
  simp only[List.map_cons,Zak,List.length_append]
  rcases hx with hx|hx
  ·have:=Zuu y k (λz hz=>ho z (.inl hz)) h.1 x hx;omega
  ·have:=ZjC l _ (λz hz=>ho z (.inr hz)) h.2 x hx;omega
end
mutual
theorem Ztv:∀(n:Nd)(k:Nat),(∀x∈n.all,x.subs.map Nd.t=x.t.subs)->n.idn k->∀x∈n.all,∀y∈n.all,x.id=y.id->x=y
 | .mk b id grp t a c l,k,ho,h,x,hx,y,hy,e=>by
  obtain⟨rfl,h⟩:=h
  have ho':∀y∈Zk8 l,y.subs.map Nd.t=y.t.subs:=λy hy=>ho y (by simp only[Nd.all,List.mem_cons];exact .inr hy)
  simp only[Nd.all,List.mem_cons]at hx hy
  rcases hx with rfl|hx <;> rcases hy with rfl|hy
  ·rfl
  ·have:=ZjC l (id+1) ho' h y hy
   have e:id=y.id:=e
   omega
  ·have:=ZjC l (id+1) ho' h x hx
   have e:x.id=id:=e
   omega
  ·exact Zrl l _ ho' h x hx y hy e
theorem Zrl:∀(l:List Nd)(k:Nat),(∀x∈Zk8 l,x.subs.map Nd.t=x.t.subs)->Zxt l k->∀x∈Zk8 l,∀y∈Zk8 l,x.id=y.id->x=y
 | [],k,ho,h,x,hx,y,hy,e=>by simp[Zk8]at hx
 | z::l,k,ho,h,x,hx,y,hy,e=>by
  simp only[Zk8,List.mem_append]at hx hy ho
  rcases hx with hx|hx <;> rcases hy with hy|hy
  ·exact Ztv z k (λz hz=>ho z (.inl hz)) h.1 x hx y hy e
  ·have h1:=Zuu z k (λz hz=>ho z (.inl hz)) h.1 x hx
   have h2:=ZjC l _ (λz hz=>ho z (.inr hz)) h.2 y hy
   omega
  ·have h1:=Zuu z k (λz hz=>ho z (.inl hz)) h.1 y hy
   have h2:=ZjC l _ (λz hz=>ho z (.inr hz)) h.2 x hx
   omega
  ·exact Zrl l _ (λz hz=>ho z (.inr hz)) h.2 x hx y hy e
end
mutual
theorem Zor:∀(n:Nd),(∀x∈n.all,x.subs.map Nd.t=x.t.subs)->∀x∈n.all,x.t∈n.t.nodes
 | .mk b id grp t a c l,ho,x,hx=>by
  have he:l.map Nd.t=t.subs:=ho (.mk b id grp t a c l) (ZcY _)
  show x.t∈t.nodes
  rw[Zbc t,<-he]
  simp only[Nd.all,List.mem_cons]at hx
  rcases hx with rfl|hx
  ·exact List.mem_cons_self ..
  ·exact List.mem_cons_of_mem _ (ZlN l (λy hy=>ho y (by simp only[Nd.all,List.mem_cons];exact .inr hy)) x hx)
theorem ZlN:∀(l:List Nd),(∀x∈Zk8 l,x.subs.map Nd.t=x.t.subs)->∀x∈Zk8 l,x.t∈Zak (l.map Nd.t)
 | [],ho,x,hx=>by simp[Zk8]at hx
 | y::l,ho,x,hx=>by
  simp only[Zk8,List.mem_append]at hx ho
  simp only[List.map_cons,Zak,List.mem_append]
  rcases hx with hx|hx
  ·exact .inl (Zor y (λz hz=>ho z (.inl hz)) x hx)
  ·exact .inr (ZlN l (λz hz=>ho z (.inr hz)) x hx)
end
mutual
theorem Zgy:∀t:T,t.ngr=t.nodes.countP (λx=>x.k == 6)
 | .node k s0 s1 s2 s3 mn mx a c l=>by
  simp only[T.ngr,T.nodes,List.countP_cons]
  rw[ZlO l,Nat.add_comm]
  congr 1
  show(if k=6 then 1 else 0)=if(k == 6)=true then 1 else 0
  by_cases h:k=6 <;> simp[h]
theorem ZlO:∀l:List T,Zep l=(Zak l).countP (λx=>x.k == 6)
 | []=>by simp[Zep,Zak]
 | t::l=>by simp only[Zep,Zak,List.countP_append];rw[Zgy t,ZlO l]
end
def NewP(m:Mem)(pa pa':Option Addr):Prop:=∀b,pa'=some ⟨b,0,none⟩->pa=pa'\/(m.free b/\m.k b=none)
theorem NewP.same{m:Mem}{pa:Option Addr}:NewP m pa pa:=λ_ _=>.inl rfl
theorem Ztw{m M:Mem}{pa pa':Option Addr}{kb:Nat}(hm:(m.off (λb=>pa=some ⟨b,0,none⟩)).le M)(hp:NewP m pa pa'):(m.off (Zp kb pa)).le (M.off (Zp kb pa')):=by
 have key:∀b,¬Zp kb pa b->(m.free b/\m.k b=none)\/¬Zp kb pa' b:=λb hb=>by
  by_cases e:Zp kb pa' b
  ·rcases e with e|e
   ·exact absurd (.inl e) hb
   ·rcases hp b e with h|h
    ·exact absurd (.inr (h.trans e)) hb
    ·exact .inl h
  ·exact .inr e
 refine⟨λb o v hv=>?_,λb e he=>?_⟩
 ·by_cases hb:Zp kb pa b
  ·rw[Mem.off_free hb]at hv;cases hv
  rw[Mem.off_at hb]at hv
  rcases key b hb with⟨h,_⟩|h
  ·rw[h o]at hv;cases hv
  ·rw[Mem.off_at h]
   refine hm.c _ _ _ ?_
   rw[Mem.off_at (λe=>hb (.inr e))];exact hv
 ·by_cases hb:Zp kb pa b
  ·rw[Mem.off_kn hb]at he;cases he
  rw[Mem.off_k hb]at he
  rcases key b hb with⟨_,h⟩|h
  ·rw[h]at he;cases he
  ·rw[Mem.off_k h]
   refine hm.k _ _ ?_
   rw[Mem.off_k (λe=>hb (.inr e))];exact he
theorem NewP.trans{m M:Mem}{pa pa1 pa2:Option Addr}{kb:Nat}(h1:NewP m pa pa1)(h2:NewP M pa1 pa2)(hm:(m.off (Zp kb pa)).le (M.off (Zp kb pa1)))(hk:∃es,M.k kb=some es):NewP m pa pa2:=λb hb=>by
 rcases h2 b hb with h|⟨h3,h4⟩
 ·rcases h1 b (h.trans hb)with h'|h'
  ·exact .inl (h'.trans h)
  ·exact .inr h'
 ·by_cases e:pa=some ⟨b,0,none⟩
  ·exact .inl (e.trans hb.symm)
  obtain⟨es,eC⟩:=hk
  have hz:¬Zp kb pa b:=λhz=>by
   rcases hz with rfl|hz
   ·rw[eC]at h4;cases h4
   ·exact e hz
  refine .inr ⟨λo=>?_,?_⟩
  ·cases hv:m b o with
   | none=>rfl
   | some v=>
    have:=(Mem.off_le _ _).c _ _ _ (hm.c b o v (by rw[Mem.off_at hz];exact hv))
    rw[h3 o]at this;cases this
  ·cases hv:m.k b with
   | none=>rfl
   | some v=>
    have:=(Mem.off_le _ _).k _ _ (hm.k b v (by rw[Mem.off_k hz];exact hv))
    rw[h4]at this;cases this
def SubsAt(m:Mem)(Z:Nat->Prop)(a:Option Addr)(L:List Nd):Prop:=(L=[]/\a=none)\/∃b,a=some ⟨b,0,none⟩/\¬Z b/\m.reads b 0 (L.map λx=>ptr x.b 0)/\L≠[]
theorem SubsAt.next{m M:Mem}{Z Z':Nat->Prop}{a:Option Addr}{L:List Nd}(h:SubsAt m Z a L)(hm:(m.off Z).le (M.off Z')):SubsAt M Z' a L:=by
 rcases h with h|⟨b,h1,h2,h3,h4⟩
 ·exact .inl h
 have g:∀j v,(L.map λx=>ptr x.b 0)[j]?=some v->(M.off Z') b (0+j)=some v:=λj v hj=>hm.c _ _ _ (by rw[Mem.off_at h2];exact h3 j v hj)
 have hz:¬Z' b:=λhz=>by
  cases L with
  | nil=>exact h4 rfl
  | cons x l=>
   have:=g 0 _ rfl
   rw[Mem.off_free hz]at this;cases this
 exact .inr ⟨b,h1,hz,λj v hj=>(Mem.off_le _ _).c _ _ _ (g j v hj),h4⟩
theorem SubsAt.row{m:Mem}{Z:Nat->Prop}{a:Option Addr}{L:List Nd}(h:SubsAt m Z a L):rowRd m a (L.map λx=>ptr x.b 0):=by
 rcases h with⟨rfl,_⟩|⟨b,h1,_,h3,_⟩
 ·exact .inl rfl
 ·exact .inr ⟨b,0,h1,h3⟩
theorem Ztx{m:Mem}{b0:Nat}:∀{L:List Nd} {o:Nat},m.reads b0 o (L.map λx=>ptr x.b 0)->(∀x∈L,NRep m x)->NRow m b0 o L
 | [],_,_,_=>by simp only[NRow]
 | x::L,o,h1,h2=>by
  simp only[NRow]
  refine⟨h1 0 _ rfl,h2 x (by simp),Ztx (λj v hj=>?_) λy hy=>h2 y (by simp[hy])⟩
  have:=h1 (j+1) v (by simpa using hj)
  rwa [show o+1+j=o+(j+1) by omega]
theorem SubsAt.rep{m:Mem}{Z:Nat->Prop}{a:Option Addr}{L:List Nd}(h:SubsAt m Z a L)(hr:∀x∈L,NRep (m.off Z) x):L=[]\/∃b0 o,a=some ⟨b0,o,none⟩/\NRow (m.off Z) b0 o L:=by
 rcases h with⟨h,_⟩|⟨b,h1,h2,h3,h4⟩
 ·exact .inl h
 ·exact .inr ⟨b,0,h1,Ztx (λj v hj=>by rw[Mem.off_at h2];exact h3 j v hj) hr⟩
end Go.Rx
namespace Go.Rx
open Go Go.Eng Go.RowKit
def Zdz(len:Nat)(p:Int×Int):Prop:=p=(-1,-1)\/(0<=p.1/\p.1<=p.2/\p.2<=len)
theorem Zty{W:Nat->Nat->PL->PL}{E:Nat->List Nat}{len:Nat}{mn mx:Int}{to:Nat}(hE:ZeB len E)(hW:∀i j P,i<=len->j∈E i->(∀p∈P,Zdz len p)->∀p∈W i j P,Zdz len p):∀{k d i:Nat} {P:PL} {r:Nat},i<=len->(∀p∈P,Zdz len p)->∀p∈(Zm6 W E len mn mx to k d i P r).1,Zdz len p
 | 0,d,i,P,r,_,hP=>hP
 | k+1,d,i,P,r,hi,hP=>by
  unfold Zm6
  split
  ·exact hP
  ·rename_i j hj
   obtain⟨_,h1,_⟩:=Za6 (List.mem_of_find?_eq_some hj)
   exact Zty hE hW (hE i hi j h1).2 (hW i j P hi h1 hP)
mutual
theorem Zwn(s:List Nat):∀(t:T)(g i to:Nat)(P:PL),i<=s.length->to∈t.e0 s i->(∀p∈P,Zdz s.length p)->∀p∈(t.wk s g i to P).1,Zdz s.length p
 | .node k s0 s1 s2 s3 mn mx a c l=>λg i to P hi ht hP=>by
  have hw:=Zba s (.node k s0 s1 s2 s3 mn mx a c l) i hi to ht
  simp only[T.wk]
  split
  ·rename_i h6
   subst h6
   refine Zwo s l _ i to _ hi ?_ λp hp=>?_
   ·simp only[T.e0]at ht
    have ht:to∈ddp (hd0 s l i):=ht
    exact Zds.1 ht
   ·rcases List.mem_or_eq_of_mem_set hp with h|h
    ·exact hP p h
    ·rw[h];exact .inr ⟨Int.natCast_nonneg i,by show(i:Int)<=to;omega,by show(to:Int)<=s.length;omega⟩
  ·split
   ·exact Ztz s l _ i to _ hi hP
   ·split
    ·exact ZtA s l _ i to _ hi hP
    ·split
     ·exact Zty (Zbd s l) (λi j P hi hj hP=>Zwo s l _ i j _ hi hj hP) hi hP
     ·exact hP
theorem Zwo(s:List Nat):∀(l:List T)(g i to:Nat)(P:PL),i<=s.length->to∈hd0 s l i->(∀p∈P,Zdz s.length p)->∀p∈hdW s l g i to P,Zdz s.length p
 | []=>λ_ _ _ _ _ h hP=>by simp[hd0]at h
 | t::_=>λg i to P hi h hP=>by simp only[hdW];exact Zwn s t g i to P hi (by simpa[hd0]using h) hP
theorem Ztz(s:List Nat):∀(l:List T)(g i to:Nat)(P:PL),i<=s.length->(∀p∈P,Zdz s.length p)->∀p∈Zm7 s l g i to P,Zdz s.length p
 | []=>λ_ _ _ _ _ hP=>by simpa[Zm7]using hP
 | t::l=>λg i to P hi hP=>by
  simp only[Zm7]
  split
  ·rename_i h;exact Zwn s t g i to P hi h hP
  ·exact Ztz s l _ i to P hi hP
theorem ZtA(s:List Nat):∀(l:List T)(g i to:Nat)(P:PL),i<=s.length->(∀p∈P,Zdz s.length p)->∀p∈Zm8 s l g i to P,Zdz s.length p
 | []=>λ_ _ _ _ _ hP=>by simpa[Zm8]using hP
 | t::l=>λg i to P hi hP=>by
  simp only[Zm8]
  split
  ·exact hP
  ·rename_i j hj
   have h1:=List.mem_of_find?_eq_some hj
   exact ZtA s l _ j to _ (Zba s t i hi j h1).2 (Zwn s t g i j P hi h1 hP)
end
def ZcW(t:T)(n:Nat):Int:=if t.check≠0 then 140 else if 512 < n then 3 else 0
theorem Zuv{t:T}{n:Nat}(h:ZcW t n=0):t.check=0/\n<=512:=by
 unfold ZcW at h
 split at h
 ·cases h
 ·rename_i h1
  split at h
  ·cases h
  ·exact⟨Classical.not_not.1 h1,by omega⟩
theorem ZlP{t:T}{n:Nat}(h1:t.check=0)(h2:n<=512):ZcW t n=0:=by unfold ZcW;rw[if_neg (by simp[h1]),if_neg (by omega)]
def ZhZ(t:T)(s:List Nat):PL×Nat:=t.wk s 0 0 s.length (List.replicate t.ngr (-1,-1))
def Zvn(t:T)(s:List Nat)(i:Int):List Nat×Int:=if ZcW t s.length≠0 then([],ZcW t s.length)else if i < 0\/i > s.length then([],2)else(t.e0 s i.toNat,0)
def ZfD(t:T)(s:List Nat):PL×Int:=if ZcW t s.length≠0 then([],ZcW t s.length)else if s.length∈t.e0 s 0 then((ZhZ t s).1,0)else([],141)
def Zna(t:T)(s:List Nat):Nat×Int:=if ZcW t s.length≠0 then(0,ZcW t s.length)else if t.k≠5 then(0,2)else if s.length∈t.e0 s 0 then((ZhZ t s).2,0)else(0,141)
def Zvw(s:List Nat)(p:Int×Int):List Nat:=(s.take p.2.toNat).drop p.1.toNat
def Zvx(t:T)(s:List Nat):List (List Nat)×Int:=if(ZfD t s).2≠0 then([],(ZfD t s).2)else(s::(ZfD t s).1.map (Zvw s),0)
theorem ZkD(t:T)(s:List Nat):(ZhZ t s).1.length=t.ngr:=by unfold ZhZ;rw[Zop];simp
theorem ZtB{t:T}{s:List Nat}(h:s.length∈t.e0 s 0):∀p∈(ZhZ t s).1,Zdz s.length p:=Zwn s t 0 0 _ _ (by omega) h λp hp=>.inl (List.eq_of_mem_replicate hp)
theorem Zwp{t:T}{s:List Nat}:∀p∈(ZfD t s).1,Zdz s.length p:=by
 unfold ZfD
 split
 ·intro p hp;simp at hp
 ·split
  ·rename_i h;exact ZtB h
  ·intro p hp;simp at hp
end Go.Rx
namespace Go.Rx
open Go Go.Eng Go.RowKit
set_option maxRecDepth 100000
theorem Zha{t:T}(h:t.good=true):t.right=true/\∀x∈t.subs,x.good=true:=by
 rw[ZjA,Bool.and_eq_true,List.all_eq_true]at h;exact h
theorem Zhb{t:T}(h:t.right=true):t.k=1\/t.k=2\/t.k=3\/t.k=4\/(t.k=5/\(∃x,t.subs=[x])/\0<=t.mn/\t.mn<=16/\(t.mx=-1\/(1<=t.mx/\t.mn<=t.mx/\t.mx<=16)))\/(t.k=6/\∃x,t.subs=[x]):=by
 have one:(t.subs.length == 1)=true->∃x,t.subs=[x]:=λe=>by
  have:t.subs.length=1:=by simpa using e
  match bV:t.subs,this with
  | [x],_=>exact⟨x,rfl⟩
 unfold T.right at h
 rw[Bool.and_eq_true]at h
 have h:=h.2
 by_cases h1:t.k=1
 ·exact .inl h1
 by_cases h2:t.k=2
 ·exact .inr (.inl h2)
 by_cases h3:t.k=3
 ·exact .inr (.inr (.inl h3))
 by_cases h4:t.k=4
 ·exact .inr (.inr (.inr (.inl h4)))
 by_cases h5:t.k=5
 ·rw[if_neg h1,if_neg h2,if_neg h3,if_neg h4,if_pos h5]at h
  rw[Bool.and_eq_true,Bool.and_eq_true]at h
  obtain⟨a,b,_⟩:=h
  unfold Zfg at b
  simp at b
  exact .inr (.inr (.inr (.inr (.inl ⟨h5,one a,by omega,by omega,by omega⟩))))
 ·rw[if_neg h1,if_neg h2,if_neg h3,if_neg h4,if_neg h5,Bool.and_eq_true]at h
  exact .inr (.inr (.inr (.inr (.inr ⟨by simpa using h.1,one h.2⟩))))
mutual
def T.er:T->T
 | .node k s0 s1 s2 s3 mn mx _ _ l=>.node k s0 s1 s2 s3 mn mx none 0 (erL l)
def erL:List T->List T
 | []=>[]
 | t::l=>t.er::erL l
end
theorem Zos:∀l:List T,erL l=l.map T.er
 | []=>rfl
 | t::l=>by simp only[erL,List.map_cons,Zos l]
@[simp] theorem ZyA (t:T):t.er.k=t.k:=by cases t;rfl
@[simp] theorem ZyP (t:T):t.er.s0=t.s0:=by cases t;rfl
@[simp] theorem ZyQ (t:T):t.er.s1=t.s1:=by cases t;rfl
@[simp] theorem ZyR (t:T):t.er.s2=t.s2:=by cases t;rfl
@[simp] theorem ZyS (t:T):t.er.s3=t.s3:=by cases t;rfl
@[simp] theorem ZyT (t:T):t.er.mn=t.mn:=by cases t;rfl
@[simp] theorem ZyU (t:T):t.er.mx=t.mx:=by cases t;rfl
@[simp] theorem ZtC (t:T):t.er.subs=t.subs.map T.er:=by cases t;simp only[T.er,T.subs,Zos]
mutual
theorem Zhc:∀t:T,t.er.nodes=t.nodes.map T.er
 | .node k s0 s1 s2 s3 mn mx a c l=>by
  simp only[T.er,T.nodes,List.map_cons]
  rw[Zot l]
theorem Zot:∀l:List T,Zak (erL l)=(Zak l).map T.er
 | []=>rfl
 | t::l=>by simp only[erL,Zak,List.map_append,Zhc t,Zot l]
end
theorem ZxT(t:T)(k:Int):t.er.has k=t.has k:=by
 unfold T.has;rw[ZtC,List.any_map];congr 1;funext x;simp
theorem Zuw(t:T):t.er.right=t.right:=by
 unfold T.right T.setZ
 simp only[ZxT,ZyA,ZyP,ZyQ,ZyR,ZyS,ZyT,ZyU,ZtC,List.length_map]
theorem ZkE(t:T):t.er.light=t.light:=by unfold T.light;rw[Zhc,List.length_map]
theorem Zwq(l:List T):(l.map T.er).all T.right=l.all T.right:=by
 rw[List.all_map];congr 1;funext x;exact Zuw x
theorem Znb(t:T):t.er.clean=t.clean:=by unfold T.clean;rw[ZkE,Zhc,Zwq]
theorem ZtD(t:T):t.er.good=t.good:=by unfold T.good;rw[Zhc,Zwq]
theorem Zwr(t:T):t.er.size=t.size:=by unfold T.size;rw[ZkE,Zhc,List.length_map]
theorem ZsC(t:T):t.er.groups=t.groups:=by
 unfold T.groups;rw[ZkE,Zhc,List.countP_map]
 have:((λx:T=>x.k == 6)∘T.er)=λx:T=>x.k == 6:=by funext x;simp
 rw[this]
mutual
theorem Zws:∀t:T,t.er.pos=t.pos
 | .node k s0 s1 s2 s3 mn mx a c l=>by simp only[T.er,T.pos,ZtE l]
theorem ZtE:∀l:List T,ZfB (erL l)=ZfB l
 | []=>rfl
 | t::l=>by simp only[erL,ZfB,Zws t,ZtE l]
end
theorem Zmt(t:T):t.er.positions=t.positions:=by unfold T.positions;rw[ZkE,Zws]
theorem Znc(t:T):t.er.check=t.check:=by unfold T.check;rw[Znb,Zwr,Zmt,ZsC]
def T.caps(t:T):Prop:=∀x∈t.nodes,x.subs.length<=x.c
theorem Zou{k s0 s1 s2 s3 mn mx:Int}{a:Option Addr}{c:Nat}{l:List T}(h:l.length<=c)(hl:∀x∈l,x.caps):(T.node k s0 s1 s2 s3 mn mx a c l).caps:=by
 intro y hy
 rw[Zbc]at hy
 rcases List.mem_cons.1 hy with rfl|hy
 ·exact h
 ·obtain⟨x,hx,hy⟩:∃x∈l,y∈x.nodes:=by
   have:∀l:List T,y∈Zak l->∃x∈l,y∈x.nodes:=λl=>by
    induction l with
    | nil=>intro h;simp[Zak]at h
    | cons x l ih=>
     intro h
     simp only[Zak,List.mem_append]at h
     rcases h with h|h
     ·exact⟨x,by simp,h⟩
     ·obtain⟨z,hz,h⟩:=ih h
      exact⟨z,by simp[hz],h⟩
   exact this l hy
  exact hl x hx y hy
theorem Zrm{t u:T}(h:t.er=u.er):t.check=u.check:=by rw[<-Znc t,h,Znc]
theorem Zux{t u:T}(h:t.er=u.er):t.clean=u.clean:=by rw[<-Znb t,h,Znb]
theorem Zwt{t u:T}(h:t.er=u.er):t.good=u.good:=by rw[<-ZtD t,h,ZtD]
theorem Zwu{k s0 s1 s2 s3 mn mx:Int}{a a':Option Addr}{c c':Nat}{l l':List T}(h:l.map T.er=l'.map T.er):(T.node k s0 s1 s2 s3 mn mx a c l).er=(T.node k s0 s1 s2 s3 mn mx a' c' l').er:=by
 simp only[T.er,Zos,h]
def Zxc(t t':T):Prop:=((t.clean=true/\t'.er=t.er)\/(t.clean=false/\t'=T0))/\t'.caps
theorem Zwv:T0.caps:=Zou (by simp) (by simp)
theorem Zww{t:T}(h:t.clean=true):t.k≠0:=by
 have hg:t.good=true:=by
  unfold T.clean at h
  rw[Bool.and_eq_true]at h
  exact h.2
 have:=(Zha hg).1
 rcases Zhb this with h|h|h|h|⟨h,_⟩|⟨h,_⟩ <;> omega
theorem ZjD{t:T}(h:t.clean=true):t.nodes.length<=10000:=by
 unfold T.clean T.light at h
 rw[Bool.and_eq_true]at h
 exact of_decide_eq_true h.1
def Zxu(n:T)(lo hi:Int)(t':T):Prop:=
 (t'=T0/\Zfg lo hi=false)\/(t'=T1/\((lo=0/\hi=0)\/(n.k=1/\((lo=1/\hi=1)\/Zfg lo hi=true))))\/(lo=1/\hi=1/\t'.er=n.er)\/∃a c,Zxc (Zap 5 lo hi a c [n]) t'
end Go.Rx
namespace Go.Rx
open Go Go.Eng Go.RowKit
mutual
theorem ZkF:∀t:T,t.er.ngr=t.ngr
 | .node k s0 s1 s2 s3 mn mx a c l=>by simp only[T.er,T.ngr,ZtF l]
theorem ZtF:∀l:List T,Zep (erL l)=Zep l
 | []=>rfl
 | t::l=>by simp only[erL,Zep,ZkF t,ZtF l]
end
mutual
theorem ZjE(s:List Nat):∀t:T,t.er.e0 s=t.e0 s
 | .node k s0 s1 s2 s3 mn mx a c l=>by
  funext i
  have hc:ZxR (.node k s0 s1 s2 s3 mn mx none 0 (erL l)) s i=ZxR (.node k s0 s1 s2 s3 mn mx a c l) s i:=rfl
  simp only[T.er,T.e0,hc,Zwx s l,ZtG s l,Zuy s l]
theorem Zwx(s:List Nat):∀l:List T,hd0 s (erL l)=hd0 s l
 | []=>rfl
 | t::l=>by funext i;simp only[erL,hd0,ZjE s t]
theorem ZtG(s:List Nat):∀l:List T,ZrK s (erL l)=ZrK s l
 | []=>rfl
 | t::l=>by funext i;simp only[erL,ZrK,ZjE s t,ZtG s l]
theorem Zuy(s:List Nat):∀l:List T,e0s s (erL l)=e0s s l
 | []=>rfl
 | t::l=>by simp only[erL,e0s,ZjE s t,Zuy s l]
end
mutual
theorem ZtH(s:List Nat):∀t:T,t.er.wk s=t.wk s
 | .node k s0 s1 s2 s3 mn mx a c l=>by
  funext g i to P
  simp only[T.er,T.wk,ZxU s l,ZtI s l,ZtJ s l,Zwx s l]
theorem ZxU(s:List Nat):∀l:List T,hdW s (erL l)=hdW s l
 | []=>rfl
 | t::l=>by funext g i to P;simp only[erL,hdW,ZtH s t]
theorem ZtI(s:List Nat):∀l:List T,Zm7 s (erL l)=Zm7 s l
 | []=>rfl
 | t::l=>by funext g i to P;simp only[erL,Zm7,ZtH s t,ZtI s l,ZjE s t,ZkF t]
theorem ZtJ(s:List Nat):∀l:List T,Zm8 s (erL l)=Zm8 s l
 | []=>rfl
 | t::l=>by funext g i to P;simp only[erL,Zm8,ZtH s t,ZtJ s l,ZjE s t,ZkF t,Zuy s l]
end
theorem Znd(t:T)(n:Nat):ZcW t.er n=ZcW t n:=by unfold ZcW;rw[Znc]
theorem Zwy(t:T)(s:List Nat)(i:Int):Zvn t.er s i=Zvn t s i:=by unfold Zvn;rw[Znd,ZjE]
theorem Zhd(t:T)(s:List Nat):ZhZ t.er s=ZhZ t s:=by unfold ZhZ;rw[ZtH,ZkF]
theorem ZtK(t:T)(s:List Nat):ZfD t.er s=ZfD t s:=by unfold ZfD;rw[Znd,ZjE,Zhd]
theorem Zwz(t:T)(s:List Nat):Zna t.er s=Zna t s:=by unfold Zna;rw[Znd,ZjE,Zhd,ZyA]
theorem ZwA(t:T)(s:List Nat):Zvx t.er s=Zvx t s:=by unfold Zvx;rw[ZtK]
theorem ZlQ{t:T}(h:t.check=0):t.groups=t.ngr:=by
 unfold T.check at h
 split at h
 ·exact absurd h (by decide)
 ·rename_i hc
  have hc':t.clean=true:=by simpa using hc
  unfold T.clean at hc'
  rw[Bool.and_eq_true]at hc'
  unfold T.groups
  rw[if_pos hc'.1,Zgy]
end Go.Rx
namespace Go.Rx
open Go Go.Eng Go.RowKit
theorem ZwB{α:Type}(A P:List α)(g:Nat)(x:α):(A++P).set (A.length+g) x=A++P.set g x:=by
 induction A with
 | nil=>simp
 | cons a A ih=>rw[List.cons_append,show(a::A).length+g=(A.length+g)+1 by simp;omega,List.set_cons_succ,ih];rfl
theorem Zrn(A:PL){W W':Nat->Nat->PL->PL}(hW:∀i j P,W' i j (A++P)=A++W i j P){E:Nat->List Nat}{len:Nat}{mn mx:Int}{to:Nat}:∀{k d i:Nat} {P:PL} {r:Nat},Zm6 W' E len mn mx to k d i (A++P) r=(A++(Zm6 W E len mn mx to k d i P r).1,(Zm6 W E len mn mx to k d i P r).2)
 | 0,d,i,P,r=>rfl
 | k+1,d,i,P,r=>by
  unfold Zm6
  split
  ·rfl
  ·rw[hW,Zrn A hW]
mutual
theorem Zuz(s:List Nat)(A:PL):∀(t:T)(g i to:Nat)(P:PL),t.wk s (A.length+g) i to (A++P)=(A++(t.wk s g i to P).1,(t.wk s g i to P).2)
 | .node k s0 s1 s2 s3 mn mx a c l=>λg i to P=>by
  simp only[T.wk]
  split
  ·rw[ZwB,Nat.add_assoc,Zov s A l]
  ·split
   ·rw[Zro s A l]
   ·split
    ·rw[Zrp s A l]
    ·split
     ·exact Zrn A λi j P=>Zov s A l g i j P
     ·rfl
theorem Zov(s:List Nat)(A:PL):∀(l:List T)(g i to:Nat)(P:PL),hdW s l (A.length+g) i to (A++P)=A++hdW s l g i to P
 | []=>λ_ _ _ _=>by simp[hdW]
 | t::_=>λg i to P=>by simp only[hdW,Zuz s A t]
theorem Zro(s:List Nat)(A:PL):∀(l:List T)(g i to:Nat)(P:PL),Zm7 s l (A.length+g) i to (A++P)=A++Zm7 s l g i to P
 | []=>λ_ _ _ _=>by simp[Zm7]
 | t::l=>λg i to P=>by
  simp only[Zm7]
  split
  ·rw[Zuz s A t]
  ·rw[Nat.add_assoc,Zro s A l]
theorem Zrp(s:List Nat)(A:PL):∀(l:List T)(g i to:Nat)(P:PL),Zm8 s l (A.length+g) i to (A++P)=A++Zm8 s l g i to P
 | []=>λ_ _ _ _=>by simp[Zm8]
 | t::l=>λg i to P=>by
  simp only[Zm8]
  split
  ·rfl
  ·rw[Zuz s A t,Nat.add_assoc,Zrp s A l]
end
theorem Zow{t t':T}{a:Option Addr}{c:Nat}{s:List Nat}(he:t'.er=(Zap 6 0 0 a c [t]).er):ZhZ t' s=(((0:Int),(s.length:Int))::(ZhZ t s).1,0)/\(s.length∈t'.e0 s 0↔s.length∈t.e0 s 0)/\t'.ngr=t.ngr+1:=by
 have h0:t'.ngr=t.ngr+1:=by
  rw[<-ZkF,he,ZkF]
  show(if(6:Int)=6 then 1 else 0)+(t.ngr+0)=_
  rw[if_pos rfl];omega
 refine⟨?_,?_,h0⟩
 ·have e1:ZhZ t' s=ZhZ (Zap 6 0 0 a c [t]) s:=by rw[<-Zhd,he,Zhd]
  rw[e1]
  unfold ZhZ
  have hn:(Zap 6 0 0 a c [t]).ngr=t.ngr+1:=by rw[<-h0,<-ZkF t',he,ZkF]
  rw[hn,Zwi]
  show(if(6:Int)=6 then _ else _)=_
  rw[if_pos rfl]
  have hs:(List.replicate (t.ngr+1) ((-1:Int),(-1:Int))).set 0 (((0:Nat):Int),(s.length:Int))=[((0:Int),(s.length:Int))]++List.replicate t.ngr (-1,-1):=rfl
  rw[hs]
  have:=Zov s [((0:Int),(s.length:Int))] [t] 0 0 s.length (List.replicate t.ngr (-1,-1))
  refine Prod.ext (this.trans ?_) rfl
  simp only[hdW];rfl
 ·have e1:t'.e0 s 0=(Zap 6 0 0 a c [t]).e0 s 0:=by rw[<-ZjE,he,ZjE]
  rw[e1]
  have e2:(Zap 6 0 0 a c [t]).e0 s 0=ddp (hd0 s [t] 0):=by unfold Zap;simp[T.e0]
  rw[e2,Zds]
  simp[hd0]
theorem ZlR{t:T}{s:List Nat}(h:ZcW t s.length=0):((ZfD t s).2=0/\s.length∈t.e0 s 0/\(ZfD t s).1=(ZhZ t s).1)\/(ZfD t s=([],141)/\s.length ∉ t.e0 s 0):=by
 unfold ZfD
 rw[if_neg (by simp[h])]
 by_cases hi:s.length∈t.e0 s 0
 ·rw[if_pos hi];exact .inl ⟨rfl,hi,rfl⟩
 ·rw[if_neg hi];exact .inr ⟨rfl,hi⟩
end Go.Rx
namespace Go.Rx
open Go Go.Eng Go.RowKit
structure Bad (t:T):Prop where
 k:t.k≠0
 no:t.check≠0
def ZyB(len:Nat)(i:Int):Int:=if(len:Int) > 512 then 3 else if i < 0\/i > len then 2 else 0
structure Says (t:T)(len:Nat)(i:Int)(e:Int):Prop where
 one:t.wrong len i=e
 rg:Rg.wrong ⟨false,false,t⟩ len i=e
 all:ZxQ [⟨false,false,t⟩] len i=e
theorem ZiM{t:T}(h:t.check=0)(len:Nat)(i:Int):t.wrong len i=ZyB len i:=by
 unfold T.wrong ZyB
 rw[h];simp
structure Asks (k:Nat)(t:T)(len:Nat)(i e:Int):Prop where
 here:Says t len i e
 zero:k<=1->Says t len 0 e
 no:e≠0
 len:len<=513
end Go.Rx
namespace Go.Rx
open Go Go.Eng Go.RowKit
end Go.Rx
namespace Go.Rx
open Go Go.Eng Go.RowKit
abbrev Re:=Nat->Nat->Prop
def pow(R:Re):Nat->Re
 | 0=>λi j=>i=j
 | n+1=>λi j=>∃m,R i m/\pow R n m j
theorem Zrq(R:Re):∀(a b i j:Nat),pow R (a+b) i j↔∃m,pow R a i m/\pow R b m j
 | 0,b,i,j=>by simp[pow]
 | a+1,b,i,j=>by
  rw[show a+1+b=(a+b)+1 by omega]
  constructor
  ·rintro⟨m,h1,h2⟩
   obtain⟨k,h3,h4⟩:=(Zrq R a b m j).1 h2
   exact⟨k,⟨m,h1,h3⟩,h4⟩
  ·rintro⟨k,⟨m,h1,h3⟩,h4⟩
   exact⟨m,h1,(Zrq R a b m j).2 ⟨k,h3,h4⟩⟩
theorem ZkG(R:Re)(n i j:Nat):pow R (n+1) i j↔∃m,pow R n i m/\R m j:=by
 rw[Zrq R n 1];simp[pow]
mutual
def T.M(s:List Nat):T->Re
 | .node k s0 s1 s2 s3 mn mx a c l=>λi j=>
  if k=1 then i=j else if k=2 then j=i+1/\∃b,s[i]?=some b/\(T.node k s0 s1 s2 s3 mn mx a c l).hasB b=true
  else if k=3 then MC s l i j else if k=4 then MA s l i j
  else if k=5 then ∃n:Nat,mn.toNat<=n/\(mx=-1\/n<=mx.toNat)/\pow (MH s l) n i j
  else if k=6 then MH s l i j else False
def MC(s:List Nat):List T->Re
 | []=>λi j=>i=j
 | t::l=>λi j=>∃m,t.M s i m/\MC s l m j
def MA(s:List Nat):List T->Re
 | []=>λ_ _=>False
 | t::l=>λi j=>t.M s i j\/MA s l i j
def MH(s:List Nat):List T->Re
 | []=>λi j=>i=j
 | t::_=>t.M s
end
def Zgj(back:Bool)(R:Re)(f:Nat)(j:Nat):Prop:=∃i,f.testBit i=true/\(if back then R j i else R i j)
def Zf7(s:List Nat)(back:Bool)(g:Nat->Nat)(R:Re):Prop:=∀f,f < Zcz->∀j,(g f).testBit j=true↔Zgj back R f j
theorem ZwC{back:Bool}{R Q:Re}{f j:Nat}:Zgj back (λa b=>R a b\/Q a b) f j↔Zgj back R f j\/Zgj back Q f j:=by
 unfold Zgj
 cases back <;> constructor <;> rintro h
 ·obtain⟨i,h1,h2|h2⟩:=h
  ·exact .inl ⟨i,h1,h2⟩
  ·exact .inr ⟨i,h1,h2⟩
 ·rcases h with⟨i,h1,h2⟩|⟨i,h1,h2⟩
  ·exact⟨i,h1,.inl h2⟩
  ·exact⟨i,h1,.inr h2⟩
 ·obtain⟨i,h1,h2|h2⟩:=h
  ·exact .inl ⟨i,h1,h2⟩
  ·exact .inr ⟨i,h1,h2⟩
 ·rcases h with⟨i,h1,h2⟩|⟨i,h1,h2⟩
  ·exact⟨i,h1,.inl h2⟩
  ·exact⟨i,h1,.inr h2⟩
theorem Zox(back:Bool)(f j:Nat):Zgj back (λa b=>a=b) f j↔f.testBit j=true:=by
 unfold Zgj
 cases back <;> constructor
 ·rintro⟨i,h1,h2⟩;simp at h2;subst h2;exact h1
 ·intro h;exact⟨j,h,by simp⟩
 ·rintro⟨i,h1,h2⟩;simp at h2;subst h2;exact h1
 ·intro h;exact⟨j,h,by simp⟩
theorem ZsD{s:List Nat}{g h:Nat->Nat}{R Q:Re}(hg:Zf7 s false g R)(hh:Zf7 s false h Q)(bF:∀f,f < Zcz->g f < Zcz):Zf7 s false (λf=>h (g f)) (λi j=>∃m,R i m/\Q m j):=by
 intro f hf j
 rw[hh _ (bF f hf) j]
 unfold Zgj
 constructor
 ·rintro⟨m,h1,h2⟩
  obtain⟨i,h3,h4⟩:=(hg f hf m).1 h1
  exact⟨i,h3,m,h4,h2⟩
 ·rintro⟨i,h3,m,h4,h2⟩
  exact⟨m,(hg f hf m).2 ⟨i,h3,h4⟩,h2⟩
theorem Zqe{s:List Nat}{g h:Nat->Nat}{R Q:Re}(hg:Zf7 s true g R)(hh:Zf7 s true h Q)(bF:∀f,f < Zcz->h f < Zcz):Zf7 s true (λf=>g (h f)) (λi j=>∃m,R i m/\Q m j):=by
 intro f hf j
 rw[hg _ (bF f hf) j]
 unfold Zgj
 constructor
 ·rintro⟨m,h1,h2⟩
  obtain⟨i,h3,h4⟩:=(hh f hf m).1 h1
  exact⟨i,h3,m,h2,h4⟩
 ·rintro⟨i,h3,m,h4,h2⟩
  exact⟨m,(hh f hf m).2 ⟨i,h3,h2⟩,h4⟩
theorem Zoy(t:T)(back:Bool)(f:Nat):∀(s:List Nat)(i out j:Nat),(ZrJ t back f s i out).testBit j=true↔out.testBit j=true\/∃p b,s[p]?=some b/\t.hasB b=true/\f.testBit (if back then i+p+1 else i+p)=true/\j=(if back then i+p else i+p+1)
 | [],i,out,j=>by simp[ZrJ]
 | c::s,i,out,j=>by
  simp only[ZrJ]
  rw[Zoy t back f s (i+1)]
  have h0:(Zod t back f i c out).testBit j=true↔out.testBit j=true\/(t.hasB c=true/\f.testBit (if back then i+1 else i)=true/\j=(if back then i else i+1)):=by
   unfold Zod
   by_cases h:(f.testBit (if back then i+1 else i)&&t.hasB c)=true
   ·rw[if_pos h]
    rw[Bool.and_eq_true]at h
    rw[Nat.testBit_or,Bool.or_eq_true,Nat.testBit_two_pow]
    constructor
    ·rintro(h1|h1)
     ·exact .inl h1
     ·exact .inr ⟨h.2,h.1,by simpa using(of_decide_eq_true h1).symm⟩
    ·rintro(h1|⟨_,_,h1⟩)
     ·exact .inl h1
     ·exact .inr (decide_eq_true h1.symm)
   ·rw[if_neg h]
    rw[Bool.and_eq_true]at h
    constructor
    ·exact .inl
    ·rintro(h1|⟨h1,h2,_⟩)
     ·exact h1
     ·exact absurd ⟨h2,h1⟩ h
  rw[h0]
  constructor
  ·rintro((h|⟨h1,h2,h3⟩)|⟨p,b,h1,h2,h3,h4⟩)
   ·exact .inl h
   ·exact .inr ⟨0,c,rfl,h1,by simpa using h2,by simpa using h3⟩
   ·exact .inr ⟨p+1,b,by simpa using h1,h2,by rw[show i+(p+1)=i+1+p by omega];exact h3,by rw[show i+(p+1)=i+1+p by omega];exact h4⟩
  ·rintro(h|⟨p,b,h1,h2,h3,h4⟩)
   ·exact .inl (.inl h)
   ·cases p with
    | zero=>simp at h1;subst h1;exact .inl (.inr ⟨h2,by simpa using h3,by simpa using h4⟩)
    | succ p=>exact .inr ⟨p,b,by simpa using h1,h2,by rw[show i+1+p=i+(p+1) by omega];exact h3,by rw[show i+1+p=i+(p+1) by omega];exact h4⟩
theorem ZsE(s:List Nat)(back:Bool)(t:T):Zf7 s back (λf=>ZrJ t back f s 0 0) (λi j=>j=i+1/\∃b,s[i]?=some b/\t.hasB b=true):=by
 intro f hf j
 rw[Zoy]
 unfold Zgj
 cases back with
 | false=>
  constructor
  ·rintro(h|⟨p,b,h1,h2,h3,h4⟩)
   ·simp at h
   ·simp at h3 h4;exact⟨p,h3,by simp;exact⟨h4,b,h1,h2⟩⟩
  ·rintro⟨i,h1,h2⟩
   simp at h2
   obtain⟨rfl,b,h3,h4⟩:=h2
   exact .inr ⟨i,b,h3,h4,by simpa using h1,by simp⟩
 | true=>
  constructor
  ·rintro(h|⟨p,b,h1,h2,h3,h4⟩)
   ·simp at h
   ·simp at h3 h4;subst h4;exact⟨j+1,h3,by simp;exact⟨b,h1,h2⟩⟩
  ·rintro⟨i,h1,h2⟩
   simp at h2
   obtain⟨rfl,b,h3,h4⟩:=h2
   exact .inr ⟨j,b,h3,h4,by simpa using h1,by simp⟩
theorem ZkH(back:Bool)(R:Re)(n f j:Nat):Zgj back (pow R (n+1)) f j↔∃i,Zgj back (pow R n) f i/\(if back then R j i else R i j):=by
 unfold Zgj
 cases back with
 | false=>
  simp only[Bool.false_eq_true,if_false]
  constructor
  ·rintro⟨i,h1,h2⟩
   obtain⟨m,h3,h4⟩:=(ZkG R n i j).1 h2
   exact⟨m,⟨i,h1,h3⟩,h4⟩
  ·rintro⟨m,⟨i,h1,h3⟩,h4⟩
   exact⟨i,h1,(ZkG R n i j).2 ⟨m,h3,h4⟩⟩
 | true=>
  simp only[if_true]
  constructor
  ·rintro⟨i,h1,m,h3,h4⟩
   exact⟨m,⟨i,h1,h4⟩,h3⟩
  ·rintro⟨m,⟨i,h1,h4⟩,h3⟩
   exact⟨i,h1,m,h3,h4⟩
def cnt(f:Nat):Nat:=(List.range 576).countP λi=>f.testBit i
theorem ZuA(f:Nat):cnt f<=576:=by
 have:=List.countP_le_length (p:=λi=>f.testBit i) (l:=List.range 576)
 simpa[cnt]using this
theorem ZkI{α:Type}{p q:α->Bool}:∀{l:List α},(∀x,p x=true->q x=true)->(∃x∈l,q x=true/\p x=false)->l.countP p < l.countP q
 | [],_,h=>by obtain⟨x,h,_⟩:=h;simp at h
 | y::l,nG,⟨x,hx,h1,h2⟩=>by
  have xD:l.countP p<=l.countP q:=List.countP_mono_left λx _ h=>nG x h
  rw[List.countP_cons,List.countP_cons]
  by_cases e:p y=true
  ·rw[if_pos e,if_pos (nG y e)]
   have cN:x≠y:=λe'=>by rw[e',e]at h2;cases h2
   have:=ZkI nG ⟨x,(List.mem_cons.1 hx).resolve_left cN,h1,h2⟩
   omega
  ·rw[if_neg e]
   by_cases e2:q y=true
   ·rw[if_pos e2];omega
   ·have cN:x≠y:=λe'=>e2 (e' ▸ h1)
    have:=ZkI nG ⟨x,(List.mem_cons.1 hx).resolve_left cN,h1,h2⟩
    omega
theorem ZtL{f i:Nat}(hf:f < Zcz)(hi:¬i < 576):f.testBit i=false:=
 Nat.testBit_lt_two_pow (Nat.lt_of_lt_of_le hf (Nat.pow_le_pow_right (by omega) (by rw[Zoe];omega)))
theorem ZxV{out x:Nat}(ho:out < Zcz)(hx:x < Zcz)(h:¬out|||x=out):cnt out < cnt (out|||x):=by
 refine ZkI (λi hi=>by simp[hi]) ?_
 refine Classical.byContradiction λhn=>h (Nat.eq_of_testBit_eq λi=>?_)
 by_cases hi:i < 576
 ·rw[Nat.testBit_or]
  cases e1:out.testBit i with
  | true=>rfl
  | false=>
   cases e2:x.testBit i with
   | false=>rfl
   | true=>exact absurd ⟨i,List.mem_range.2 hi,by rw[Nat.testBit_or,e1,e2];rfl,e1⟩ hn
 ·rw[ZtL (Nat.or_lt_two_pow ho hx) hi,ZtL ho hi]
theorem Zqf{s:List Nat}{back:Bool}{g:Nat->Nat}{R:Re}(hg:Zf7 s back g R)(bF:∀f,f < Zcz->g f < Zcz){mx:Int}{mn f0:Nat}(zi:f0 < Zcz)(fT:mn<=16):
  ∀(fuel K out last:Nat),out < Zcz->last < Zcz->mn<=K->(mx=-1\/(K:Int)<=mx)->K<=mn+cnt out->577 - cnt out<=fuel->
   (∀j,last.testBit j=true↔Zgj back (pow R K) f0 j)->(∀j,out.testBit j=true↔∃n,mn<=n/\n<=K/\Zgj back (pow R n) f0 j)->
   ∀j,(Zpt g mx fuel K out last).testBit j=true↔∃n,mn<=n/\(mx=-1\/n<=mx.toNat)/\Zgj back (pow R n) f0 j:=by
 intro fuel
 induction fuel with
 | zero=>intro K out last _ _ _ _ _ mE _ _ j;have:=ZuA out;omega
 | succ fuel ihf=>
  intro K out last ho hl hK eS BB mE dI dC j
  have pN:=bF last hl
  have mI:∀j,(g last).testBit j=true↔Zgj back (pow R (K+1)) f0 j:=λj=>by
   rw[hg last hl j,ZkH]
   constructor
   ·rintro⟨i,h1,h2⟩;exact⟨i,(dI i).1 h1,h2⟩
   ·rintro⟨i,h1,h2⟩;exact⟨i,(dI i).2 h1,h2⟩
  rw[ZlI]
  by_cases hm:(K:Int)=mx
  ·rw[if_pos hm,dC]
   constructor
   ·rintro⟨n,h1,h2,h3⟩;exact⟨n,h1,.inr (by omega),h3⟩
   ·rintro⟨n,h1,h2,h3⟩;exact⟨n,h1,by rcases h2 with h2|h2 <;> omega,h3⟩
  ·rw[if_neg hm]
   by_cases hs:out|||g last=out
   ·rw[if_pos hs,dC]
    have fK:∀j,(g last).testBit j=true->out.testBit j=true:=λj h=>by
     rw[<-hs,Nat.testBit_or,h];simp
    have qW:∀d j,Zgj back (pow R (K+d)) f0 j->out.testBit j=true:=by
     intro d
     induction d with
     | zero=>intro j h;exact(dC j).2 ⟨K,hK,Nat.le_refl _,h⟩
     | succ d ih=>
      intro j h
      rw[show K+(d+1)=(K+d)+1 by omega,ZkH]at h
      obtain⟨i,h1,h2⟩:=h
      obtain⟨n,h3,h4,h5⟩:=(dC i).1 (ih i h1)
      have h6:Zgj back (pow R (n+1)) f0 j:=(ZkH back R n f0 j).2 ⟨i,h5,h2⟩
      by_cases hn:n+1<=K
      ·exact(dC j).2 ⟨n+1,by omega,hn,h6⟩
      ·have:n=K:=by omega
       subst this
       exact fK j ((mI j).2 h6)
    constructor
    ·rintro⟨n,h1,h2,h3⟩;exact⟨n,h1,by rcases eS with h|h;exact .inl h;exact .inr (by omega),h3⟩
    ·rintro⟨n,h1,h2,h3⟩
     by_cases hn:n<=K
     ·exact⟨n,h1,hn,h3⟩
     ·have:=qW (n - K) j (by rw[show K+(n - K)=n by omega];exact h3)
      exact(dC j).1 this
   ·rw[if_neg hs]
    have hc:=ZxV ho pN hs
    have eL:=ZuA (out|||g last)
    have hw:IntKind.i64.wrap ((K:Int)+1)=((K+1:Nat):Int):=by rw[ZaK (by omega) (by omega)];rfl
    rw[hw]
    refine ihf (K+1) _ _ (Nat.or_lt_two_pow ho pN) pN (by omega) ?_ (by omega) (by omega) mI ?_ j
    ·rcases eS with h|h
     ·exact .inl h
     ·exact .inr (by omega)
    ·intro j
     rw[Nat.testBit_or,Bool.or_eq_true,dC,mI]
     constructor
     ·rintro(⟨n,h1,h2,h3⟩|h)
      ·exact⟨n,h1,by omega,h3⟩
      ·exact⟨K+1,by omega,Nat.le_refl _,h⟩
     ·rintro⟨n,h1,h2,h3⟩
      by_cases hn:n<=K
      ·exact .inl ⟨n,h1,hn,h3⟩
      ·have:n=K+1:=by omega
       subst this;exact .inr h3
theorem Zoz{s:List Nat}{back:Bool}{g:Nat->Nat}{R:Re}(hg:Zf7 s back g R)(bF:∀f,f < Zcz->g f < Zcz):∀(n f:Nat),f < Zcz->∀j,(Zvm g n f).testBit j=true↔Zgj back (pow R n) f j
 | 0,f,hf,j=>by
  show f.testBit j=true↔Zgj back (λa b=>a=b) f j
  rw[Zox]
 | n+1,f,hf,j=>by
  show(Zvm g n (g f)).testBit j=true↔_
  rw[Zoz hg bF n (g f) (bF f hf) j]
  unfold Zgj
  cases back with
  | false=>
   simp only[Bool.false_eq_true,if_false]
   constructor
   ·rintro⟨m,h1,h2⟩
    obtain⟨i,h3,h4⟩:=(hg f hf m).1 h1
    exact⟨i,h3,m,by simpa using h4,h2⟩
   ·rintro⟨i,h3,m,h4,h2⟩
    exact⟨m,(hg f hf m).2 ⟨i,h3,by simpa using h4⟩,h2⟩
  | true=>
   simp only[if_true]
   constructor
   ·rintro⟨m,h1,h2⟩
    obtain⟨i,h3,h4⟩:=(hg f hf m).1 h1
    exact⟨i,h3,(ZkG R n j i).2 ⟨m,h2,by simpa using h4⟩⟩
   ·rintro⟨i,h3,h4⟩
    obtain⟨m,h5,h6⟩:=(ZkG R n j i).1 h4
    exact⟨m,(hg f hf m).2 ⟨i,h3,by simpa using h6⟩,h5⟩
theorem ZsF{s:List Nat}{back:Bool}{g:Nat->Nat}{R:Re}(hg:Zf7 s back g R)(bF:∀f,f < Zcz->g f < Zcz){mn mx:Int}(h0:0<=mn)(vD:mn<=16)(eS:mx=-1\/mn<=mx):
  Zf7 s back (Zv6 g mn mx) (λi j=>∃n:Nat,mn.toNat<=n/\(mx=-1\/n<=mx.toNat)/\pow R n i j):=by
 intro f hf j
 obtain⟨k,rfl⟩:∃k:Nat,mn=k:=⟨mn.toNat,by omega⟩
 have hi:=Zog bF k f hf
 have hb:=Zoz hg bF k f hf
 have zj:1024 < Zcz:=Zv5 (n:=10) (by omega)
 unfold Zv6
 rw[Int.toNat_natCast]
 have:=Zqf hg bF (mx:=mx) hf (show k<=16 by omega) (Zcz+1) k (Zvm g k f) (Zvm g k f) hi hi (Nat.le_refl _) eS (by omega) (by have:=ZuA (Zvm g k f);omega) hb (λj=>by
  rw[hb]
  constructor
  ·intro h;exact⟨k,Nat.le_refl _,Nat.le_refl _,h⟩
  ·rintro⟨n,h1,h2,h3⟩;obtain rfl:n=k:=by omega
   exact h3) j
 rw[this]
 unfold Zgj
 cases back with
 | false=>
  simp only[Bool.false_eq_true,if_false]
  constructor
  ·rintro⟨n,h1,h2,i,h3,h4⟩;exact⟨i,h3,n,h1,h2,h4⟩
  ·rintro⟨i,h3,n,h1,h2,h4⟩;exact⟨n,h1,h2,i,h3,h4⟩
 | true=>
  simp only[if_true]
  constructor
  ·rintro⟨n,h1,h2,i,h3,h4⟩;exact⟨i,h3,n,h1,h2,h4⟩
  ·rintro⟨i,h3,n,h1,h2,h4⟩;exact⟨n,h1,h2,i,h3,h4⟩
section
variable {s:List Nat}
theorem M_1{t:T}(h:t.k=1)(i j:Nat):t.M s i j↔i=j:=by cases t;simp only[T.k]at h;subst h;simp[T.M]
theorem M_2{t:T}(h:t.k=2)(i j:Nat):t.M s i j↔(j=i+1/\∃b,s[i]?=some b/\t.hasB b=true):=by cases t;simp only[T.k]at h;subst h;simp[T.M]
theorem M_3{t:T}(h:t.k=3)(i j:Nat):t.M s i j↔MC s t.subs i j:=by cases t;simp only[T.k]at h;subst h;simp[T.M,T.subs]
theorem M_4{t:T}(h:t.k=4)(i j:Nat):t.M s i j↔MA s t.subs i j:=by cases t;simp only[T.k]at h;subst h;simp[T.M,T.subs]
theorem M_5{t:T}(h:t.k=5)(i j:Nat):t.M s i j↔∃n:Nat,t.mn.toNat<=n/\(t.mx=-1\/n<=t.mx.toNat)/\pow (MH s t.subs) n i j:=by cases t;simp only[T.k]at h;subst h;simp[T.M,T.subs,T.mn,T.mx]
theorem M_6{t:T}(h:t.k=6)(i j:Nat):t.M s i j↔MH s t.subs i j:=by cases t;simp only[T.k]at h;subst h;simp[T.M,T.subs]
theorem ZwD(i j:Nat):MC s [] i j↔i=j:=by simp[MC]
theorem ZtM(t:T)(l:List T)(i j:Nat):MC s (t::l) i j↔∃m,t.M s i m/\MC s l m j:=by simp[MC]
theorem ZxW(i j:Nat):MA s [] i j↔False:=by simp[MA]
theorem ZwE(t:T)(l:List T)(i j:Nat):MA s (t::l) i j↔(t.M s i j\/MA s l i j):=by simp[MA]
theorem ZtN(t:T)(l:List T):MH s (t::l)=t.M s:=by simp[MH]
theorem ZcA{back:Bool}{g h:Nat->Nat}{R Q:Re}(hg:Zf7 s back g R)(e:∀f,h f=g f)(k:∀i j,Q i j↔R i j):Zf7 s back h Q:=by
 intro f hf j
 rw[e,hg f hf j]
 unfold Zgj
 cases back <;> simp only[k]
theorem ZjF(hs:s.length<=512):∀(l:List T),(∀x∈l,Zf7 s false (x.lead s false) (x.M s))->Zf7 s false (Zgw s false l) (MC s l)
 | [],_=>by
  intro f hf j
  have e:Zgj false (MC s []) f j↔Zgj false (λa b=>a=b) f j:=by unfold Zgj;simp only[ZwD]
  rw[e,Zox];rw[Zgw]
 | t::l,h=>ZcA (ZsD (h t (by simp)) (ZjF hs l λx hx=>h x (by simp[hx])) (Zfh s false hs t)) (λf=>by rw[Zgw]) (λi j=>ZtM t l i j)
theorem ZjG(hs:s.length<=512):∀(l:List T),(∀x∈l,Zf7 s true (x.lead s true) (x.M s))->Zf7 s true (Zf6 s true l) (MC s l)
 | [],_=>by
  intro f hf j
  have e:Zgj true (MC s []) f j↔Zgj true (λa b=>a=b) f j:=by unfold Zgj;simp only[ZwD]
  rw[e,Zox];rw[Zf6]
 | t::l,h=>ZcA (Zqe (h t (by simp)) (ZjG hs l λx hx=>h x (by simp[hx])) (Zm3 s true hs l)) (λf=>by rw[Zf6]) (λi j=>ZtM t l i j)
theorem ZoA{back:Bool}(hs:s.length<=512):∀(l:List T),(∀x∈l,Zf7 s back (x.lead s back) (x.M s))->∀f,f < Zcz->∀out j,(Zp7 s back l f out).testBit j=true↔(out.testBit j=true\/Zgj back (MA s l) f j)
 | [],_,f,hf,out,j=>by
  rw[Zq3]
  constructor
  ·exact .inl
  ·rintro(h|⟨i,_,h⟩)
   ·exact h
   ·cases back <;> simp[ZxW]at h
 | t::l,h,f,hf,out,j=>by
  rw[Zof,ZoA hs l (λx hx=>h x (by simp[hx])) f hf,Nat.testBit_or,Bool.or_eq_true,h t (by simp) f hf j]
  have e:Zgj back (MA s (t::l)) f j↔Zgj back (λa b=>t.M s a b\/MA s l a b) f j:=by unfold Zgj;cases back <;> simp only[ZwE]
  rw[e,ZwC,or_assoc]
theorem ZoB(back:Bool)(x:T):ZfC s back [x]=x.lead s back:=by
 funext f;rw[ZfC]
theorem ZlS(back:Bool)(hs:s.length<=512):∀t:T,t.good=true->Zf7 s back (t.lead s back) (t.M s)
 | t,hg=>by
  obtain⟨hr,bV⟩:=Zha hg
  have ih:∀x∈t.subs,Zf7 s back (x.lead s back) (x.M s):=λx hx=>ZlS back hs x (bV x hx)
  rcases Zhb hr with h|h|h|h|⟨h,⟨x,hx⟩,h0,vD,eS⟩|⟨h,x,hx⟩
  ·intro f hf j
   have e:Zgj back (t.M s) f j↔Zgj back (λa b=>a=b) f j:=by unfold Zgj;cases back <;> simp only[M_1 h]
   rw[e,Zox,Zv7 h]
  ·exact ZcA (ZsE s back t) (λf=>Zv8 h f) (λi j=>M_2 h i j)
  ·cases back with
   | false=>exact ZcA (ZjF hs t.subs ih) (λf=>by rw[Zuq h];rfl) (λi j=>M_3 h i j)
   | true=>exact ZcA (ZjG hs t.subs ih) (λf=>by rw[Zuq h];rfl) (λi j=>M_3 h i j)
  ·intro f hf j
   rw[Zv9 h,ZoA hs t.subs ih f hf]
   have e:Zgj back (t.M s) f j↔Zgj back (MA s t.subs) f j:=by unfold Zgj;cases back <;> simp only[M_4 h]
   rw[e];simp
  ·have hx':x∈t.subs:=by rw[hx];simp
   have hl:=ZsF (mn:=t.mn) (mx:=t.mx) (ih x hx') (Zfh s back hs x) h0 vD (by omega)
   exact ZcA hl (λf=>by rw[Zwa h,hx,ZoB]) (λi j=>by rw[M_5 h,hx,ZtN])
  ·have hx':x∈t.subs:=by rw[hx];simp
   exact ZcA (ih x hx') (λf=>by rw[Zwb h,hx,ZoB]) (λi j=>by rw[M_6 h,hx,ZtN])
termination_by t=>SizeOf.sizeOf t
decreasing_by exact Zn8 hx
end
def Fwd(R:Re):Prop:=∀i j,R i j->i<=j
def Sh(s s':List Nat)(R R':Re):Prop:=∀i j i',R i j->(∀p,i+p < j->s[i+p]?=s'[i'+p]?)->R' i' (i'+(j - i))
def Len(s:List Nat)(R:Re):Prop:=∀i j,R i j->i<=s.length->j<=s.length
structure Nice (s s':List Nat)(R R':Re):Prop where
 fwd:Fwd R
 sh:Sh s s' R R'
 len:Len s R
theorem ZoC(n i:Nat):(2 ^ n).testBit i=true↔n=i:=by rw[Nat.testBit_two_pow];simp
theorem ZuB{t:T}(hg:t.good=true){s:List Nat}(hs:s.length<=512){i j:Nat}(hi:i < 576):(t.lead s false (2 ^ i)).testBit j=true↔t.M s i j:=by
 rw[ZlS false hs t hg _ (Zv5 hi) j]
 unfold Zgj
 simp only[ZoC,Bool.false_eq_true,if_false]
 constructor
 ·rintro⟨k,rfl,h⟩;exact h
 ·intro h;exact⟨i,rfl,h⟩
end Go.Rx
namespace Go.Rx
open Go Go.Eng Go.RowKit
set_option maxRecDepth 100000
end Go.Rx
namespace Go.Rx
open Go Go.Eng Go.RowKit
set_option maxRecDepth 100000
def Zym(F n:Nat)(u:List Nat):List Nat:=(u.filter λk:Nat=>decide ((k:Int) - F<=n)).map λk=>k - F
end Go.Rx
namespace Go.Rx
open Go Go.Eng Go.RowKit
theorem Zne{f:Nat->List Nat}{R:Re}{len:Nat}{mn mx:Int}(hf:ZeB len f)(hR:∀i,i<=len->∀j,j∈f i↔R i j)(fT:0<=mn)(eS:mx=-1\/mn<=mx):∀{k d i j:Nat},i<=len->(mx=-1\/d<=mx.toNat)->mR len mn mx d i < k->(j∈ZkA f mn mx k d i↔∃n:Nat,mn.toNat<=d+n/\(mx=-1\/d+n<=mx.toNat)/\pow R n i j)
 | 0,d,i,j,_,_,h=>by omega
 | k+1,d,i,j,hi,hd,hk=>by
  have nO:∀n':Nat,mn.toNat<=Zbq mn mx d+n'↔mn.toNat<=d+(n'+1):=λn'=>by
   unfold Zbq
   split <;> omega
  simp only[ZkA]
  rw[Zds,List.mem_append,List.mem_flatMap]
  constructor
  ·rintro(⟨x,hx,hj⟩|hj)
   ·obtain⟨h1,h2,h3⟩:=Za6 hx
    obtain⟨h4,h5⟩:=hf i hi x h2
    have bF:=Zrc (len:=len) fT eS h1 ⟨h4,h5⟩ h3
    unfold Zhy at h1
    simp only[Bool.or_eq_true,beq_iff_eq,decide_eq_true_eq]at h1
    have hd':mx=-1\/Zbq mn mx d<=mx.toNat:=by
     rcases h1 with h1|h1
     ·exact .inl h1
     ·by_cases e:mx=-1
      ·exact .inl e
      ·right;unfold Zbq;rw[if_neg e];omega
    obtain⟨n,g1,g2,g3⟩:=(Zne hf hR fT eS h5 hd' (by omega)).1 hj
    refine⟨n+1,(nO n).1 g1,?_,x,(hR i hi x).1 h2,g3⟩
    rcases g2 with g2|g2
    ·exact .inl g2
    ·by_cases e:mx=-1
     ·exact .inl e
     ·right;unfold Zbq at g2;rw[if_neg e]at g2;omega
   ·unfold Zpu at hj
    split at hj
    ·rename_i h
     have vt:j=i:=by simpa using hj
     subst vt
     exact⟨0,by omega,by simpa using hd,rfl⟩
    ·simp at hj
  ·rintro⟨n,g1,g2,g3⟩
   induction n with
   | zero=>
    right
    have g3:i=j:=g3
    subst g3
    unfold Zpu
    rw[if_pos (by omega)];simp
   | succ n ih=>
    obtain⟨x,hx,hp⟩:=g3
    have xE:=(hR i hi x).2 hx
    obtain⟨h4,h5⟩:=hf i hi x xE
    by_cases hc:i < x\/(d:Int) < mn
    ·left
     have hm:Zhy mx d=true:=by
      unfold Zhy
      simp only[Bool.or_eq_true,beq_iff_eq,decide_eq_true_eq]
      rcases g2 with g2|g2
      ·exact .inl g2
      ·by_cases e:mx=-1
       ·exact .inl e
       ·right;omega
     have bF:=Zrc (len:=len) fT eS hm ⟨h4,h5⟩ hc
     refine⟨x,?_,?_⟩
     ·unfold ZcK
      rw[if_pos hm,List.mem_filter]
      exact⟨xE,by simpa using hc⟩
     ·have hd':mx=-1\/Zbq mn mx d<=mx.toNat:=by
       rcases g2 with g2|g2
       ·exact .inl g2
       ·by_cases e:mx=-1
        ·exact .inl e
        ·right;unfold Zbq;rw[if_neg e];omega
      refine(Zne hf hR fT eS h5 hd' (by omega)).2 ⟨n,(nO n).2 g1,?_,hp⟩
      rcases g2 with g2|g2
      ·exact .inl g2
      ·by_cases e:mx=-1
       ·exact .inl e
       ·right;unfold Zbq;rw[if_neg e];omega
    ·have:x=i:=by omega
     subst this
     exact ih (by omega) (g2.imp id λh=>by omega) hp
theorem Zgz{t:T}(h:t.good=true):t.right=true/\∀x∈t.subs,x.good=true:=by
 rw[ZjA,Bool.and_eq_true]at h
 exact⟨h.1,List.all_eq_true.1 h.2⟩
mutual
theorem ZyC(s:List Nat):∀t:T,t.good=true->∀i,i<=s.length->∀j,(j∈t.e0 s i↔t.M s i j)
 | .node k s0 s1 s2 s3 mn mx a c l=>λhg i hi j=>by
  obtain⟨hr,hl⟩:=Zgz hg
  have hl:∀x∈l,x.good=true:=hl
  have hk:=Zhb hr
  simp only[T.k,T.subs,T.mn,T.mx]at hk
  simp only[T.e0,T.M]
  by_cases h1:k=1
  ·subst h1;simp[eq_comm]
  by_cases h2:k=2
  ·subst h2
   rw[if_neg (by decide),if_pos rfl,if_neg (by decide),if_pos rfl]
   unfold ZxR
   cases hb:s[i]? with
   | none=>simp
   | some b=>
    simp only
    by_cases hB:(T.node 2 s0 s1 s2 s3 mn mx a c l).hasB b=true
    ·rw[if_pos hB];simp[hB]
    ·rw[if_neg hB];simp[hB]
  by_cases h6:k=6
  ·subst h6
   rw[if_neg (by decide),if_neg (by decide),if_pos rfl,if_neg (by decide),if_neg (by decide),if_neg (by decide),if_neg (by decide),if_neg (by decide),if_pos rfl,Zds]
   obtain⟨x,hx⟩:∃x,l=[x]:=by
    rcases hk with h|h|h|h|h|h <;> first|omega|exact h.2
   exact Zyn s l hl (by rw[hx];simp) i hi j
  by_cases h4:k=4
  ·subst h4
   rw[if_neg (by decide),if_neg (by decide),if_neg (by decide),if_pos rfl,if_neg (by decide),if_neg (by decide),if_neg (by decide),if_pos rfl,Zds]
   exact ZwF s l hl i hi j
  by_cases h3:k=3
  ·subst h3
   rw[if_neg (by decide),if_neg (by decide),if_neg (by decide),if_neg (by decide),if_pos rfl,if_neg (by decide),if_neg (by decide),if_pos rfl]
   exact ZuC s l hl i hi j
  by_cases h5:k=5
  ·subst h5
   rw[if_neg (by decide),if_neg (by decide),if_neg (by decide),if_neg (by decide),if_neg (by decide),if_pos rfl,if_neg (by decide),if_neg (by decide),if_neg (by decide),if_neg (by decide),if_pos rfl]
   obtain⟨⟨x,hx⟩,b1,b2,b3⟩:(∃x,l=[x])/\0<=mn/\mn<=16/\(mx=-1\/(1<=mx/\mn<=mx/\mx<=16)):=by
    rcases hk with h|h|h|h|h|h <;> first|omega|exact⟨h.2.1,h.2.2⟩
   rw[Zne (R:=MH s l) (Zbd s l) (λi hi j=>Zyn s l hl (by rw[hx];simp) i hi j) b1 (b3.imp id λh=>h.2.1) hi (b3.imp id λh=>by omega) (Nat.lt_succ_self _)]
   simp only[Nat.zero_add]
  ·exfalso
   rcases hk with h|h|h|h|h|h <;> omega
theorem Zyn(s:List Nat):∀l:List T,(∀x∈l,x.good=true)->l≠[]->∀i,i<=s.length->∀j,(j∈hd0 s l i↔MH s l i j)
 | [],_,h,i,hi,j=>absurd rfl h
 | t::l,hl,_,i,hi,j=>by simp only[hd0,MH];exact ZyC s t (hl t (by simp)) i hi j
theorem ZwF(s:List Nat):∀l:List T,(∀x∈l,x.good=true)->∀i,i<=s.length->∀j,(j∈ZrK s l i↔MA s l i j)
 | [],_,i,hi,j=>by simp[ZrK,MA]
 | t::l,hl,i,hi,j=>by
  simp only[ZrK,MA,List.mem_append]
  rw[ZyC s t (hl t (by simp)) i hi j,ZwF s l (λx hx=>hl x (by simp[hx])) i hi j]
theorem ZuC(s:List Nat):∀l:List T,(∀x∈l,x.good=true)->∀i,i<=s.length->∀j,(j∈Zm5 (e0s s l) i↔MC s l i j)
 | [],_,i,hi,j=>by simp[e0s,Zm5,MC,eq_comm]
 | t::l,hl,i,hi,j=>by
  simp only[e0s,MC]
  rw[Zrh]
  constructor
  ·rintro⟨x,hx,hj⟩
   have nH:=(Zba s t i hi x hx).2
   exact⟨x,(ZyC s t (hl t (by simp)) i hi x).1 hx,(ZuC s l (λx hx=>hl x (by simp[hx])) x nH j).1 hj⟩
  ·rintro⟨x,hx,hj⟩
   have hx:=(ZyC s t (hl t (by simp)) i hi x).2 hx
   have nH:=(Zba s t i hi x hx).2
   exact⟨x,hx,(ZuC s l (λx hx=>hl x (by simp[hx])) x nH j).2 hj⟩
end
end Go.Rx
namespace Go.Rx
open Go Go.Eng Go.RowKit
theorem Zqg{F j:Nat}{l:List Nat}:F+j∈l.map (F + ·)↔j∈l:=by
 rw[List.mem_map]
 constructor
 ·rintro⟨x,h1,h2⟩
  have:x=j:=by omega
  rw[<-this];exact h1
 ·exact λh=>⟨j,h,rfl⟩
theorem Zrr(F:Nat):∀(l seen:List Nat),Zpm (seen.map (F + ·)) (l.map (F + ·))=(Zpm seen l).map (F + ·)
 | [],seen=>rfl
 | i::l,seen=>by
  simp only[List.map_cons,Zpm,Zqg]
  split
  ·exact Zrr F l seen
  ·have:=Zrr F l (seen++[i])
   rw[List.map_append]at this
   exact this
theorem ZsG(F:Nat)(l:List Nat):ddp (l.map (F + ·))=(ddp l).map (F + ·):=Zrr F l []
theorem Zrs(F len:Nat){f g:Nat->List Nat}(h:∀x,x<=len->g (F+x)=(f x).map (F + ·)):∀l:List Nat,(∀x∈l,x<=len)->(l.map (F + ·)).flatMap g=(l.flatMap f).map (F + ·)
 | [],_=>rfl
 | x::l,hl=>by
  simp only[List.map_cons,List.flatMap_cons,List.map_append]
  rw[h x (hl x (by simp)),Zrs F len h l λy hy=>hl y (by simp[hy])]
def ShF(F len:Nat)(f g:Nat->List Nat):Prop:=∀x,x<=len->g (F+x)=(f x).map (F + ·)
theorem Zrt{F len:Nat}{f g:Nat->List Nat}(h:ShF F len f g)(mn mx:Int)(d i:Nat)(hi:i<=len):ZcK g mn mx d (F+i)=(ZcK f mn mx d i).map (F + ·):=by
 unfold ZcK
 split
 ·rw[h i hi,List.filter_map]
  congr 1
  refine List.filter_congr λx _=>?_
  simp only[Function.comp]
  congr 1
  exact decide_eq_decide.2 (by omega)
 ·rfl
theorem Zru{F len:Nat}{f g:Nat->List Nat}(hf:ZeB len f)(h:ShF F len f g)(mn mx:Int):∀(k d i:Nat),i<=len->ZkA g mn mx k d (F+i)=(ZkA f mn mx k d i).map (F + ·)
 | 0,d,i,hi=>rfl
 | k+1,d,i,hi=>by
  simp only[ZkA]
  rw[Zrt h mn mx d i hi,Zrs F len (λx hx=>Zru hf h mn mx k (Zbq mn mx d) x hx) _ (λx hx=>(hf i hi x (Za6 hx).2.1).2)]
  have e:Zpu mn d (F+i)=(Zpu mn d i).map (F + ·):=by unfold Zpu;split <;> rfl
  rw[e,<-List.map_append,ZsG]
theorem Zxv(F len:Nat)(mn mx:Int)(d i:Nat):mR (F+len) mn mx d (F+i)=mR len mn mx d i:=by
 unfold mR;split <;> omega
mutual
theorem ZtO(f s:List Nat):∀t:T,ShF f.length s.length (t.e0 s) (t.e0 (f++s))
 | .node k s0 s1 s2 s3 mn mx a c l=>λi hi=>by
  simp only[T.e0]
  split
  ·rfl
  ·split
   ·unfold ZxR
    rw[List.getElem?_append_right (by omega),show f.length+i - f.length=i by omega]
    cases s[i]? with
    | none=>rfl
    | some b=>
     simp only
     split
     ·simp[Nat.add_assoc]
     ·rfl
   ·split
    ·rw[ZuD f s l i hi,ZsG]
    ·split
     ·rw[ZtP f s l i hi,ZsG]
     ·split
      ·exact Zrv f s l i hi
      ·split
       ·rw[List.length_append,Zxv]
        exact Zru (Zbd s l) (ZuD f s l) mn mx _ 0 i hi
       ·rfl
theorem ZuD(f s:List Nat):∀l:List T,ShF f.length s.length (hd0 s l) (hd0 (f++s) l)
 | []=>λi hi=>rfl
 | t::l=>λi hi=>by simp only[hd0];exact ZtO f s t i hi
theorem ZtP(f s:List Nat):∀l:List T,ShF f.length s.length (ZrK s l) (ZrK (f++s) l)
 | []=>λi hi=>rfl
 | t::l=>λi hi=>by simp only[ZrK];rw[ZtO f s t i hi,ZtP f s l i hi,List.map_append]
theorem Zrv(f s:List Nat):∀l:List T,ShF f.length s.length (Zm5 (e0s s l)) (Zm5 (e0s (f++s) l))
 | []=>λi hi=>rfl
 | t::l=>λi hi=>by
  simp only[e0s,Zm5]
  rw[ZtO f s t i hi,Zrs f.length s.length (Zrv f s l) _ (λx hx=>(Zba s t i hi x hx).2),ZsG]
end
def PSh(F:Nat)(P Q:PL):Prop:=P.length=Q.length/\∀(q:Nat)(x y:Int×Int),P[q]?=some x->Q[q]?=some y->y=(-1,-1)\/(x.1=y.1+F/\x.2=y.2+F)
theorem PSh.set{F:Nat}{P Q:PL}(h:PSh F P Q)(g i j:Nat):PSh F (P.set g (((F+i:Nat):Int),((F+j:Nat):Int))) (Q.set g ((i:Int),(j:Int))):=by
 refine⟨by simp[h.1],λq x y hx hy=>?_⟩
 by_cases e:q=g
 ·subst e
  by_cases hl:q < P.length
  ·rw[List.getElem?_set_self hl]at hx
   rw[List.getElem?_set_self (by rw[<-h.1];exact hl)]at hy
   cases hx;cases hy
   right;constructor <;> (simp only;omega)
  ·rw[List.getElem?_eq_none_iff.2 (by simp;omega)]at hx;cases hx
 ·rw[List.getElem?_set_ne (Ne.symm e)]at hx hy
  exact h.2 q x y hx hy
theorem Zrw{F:Nat}{p p':Nat->Bool}:∀{l:List Nat},(∀x∈l,p' (F+x)=p x)->(l.map (F + ·)).find? p'=(l.find? p).map (F + ·)
 | [],_=>rfl
 | x::l,h=>by
  simp only[List.map_cons,List.find?_cons]
  rw[h x (by simp)]
  cases p x with
  | true=>rfl
  | false=>exact Zrw λy hy=>h y (by simp[hy])
theorem ZtQ{F len:Nat}{W W':Nat->Nat->PL->PL}{E E':Nat->List Nat}(hE:ZeB len E)(hS:ShF F len E E')(mn mx:Int)(to:Nat)(hW:∀i j P Q,i<=len->j<=len->PSh F P Q->PSh F (W' (F+i) (F+j) P) (W i j Q)):∀(k d i:Nat)(P Q:PL)(r:Nat),i<=len->PSh F P Q->
  PSh F (Zm6 W' E' (F+len) mn mx (F+to) k d (F+i) P r).1 (Zm6 W E len mn mx to k d i Q r).1/\(Zm6 W' E' (F+len) mn mx (F+to) k d (F+i) P r).2=(Zm6 W E len mn mx to k d i Q r).2
 | 0,d,i,P,Q,r,hi,h=>⟨h,rfl⟩
 | k+1,d,i,P,Q,r,hi,h=>by
  unfold Zm6
  rw[Zrt hS mn mx d i hi,Zrw (p:=λj=>decide (to∈ZkA E mn mx (mR len mn mx (Zbq mn mx d) j+1) (Zbq mn mx d) j)) (λx hx=>by
   rw[Zxv,Zru hE hS mn mx _ _ x (hE i hi x (Za6 hx).2.1).2]
   exact decide_eq_decide.2 Zqg)]
  cases jR:(ZcK E mn mx d i).find? (λj=>decide (to∈ZkA E mn mx (mR len mn mx (Zbq mn mx d) j+1) (Zbq mn mx d) j))with
  | none=>exact⟨h,rfl⟩
  | some j=>
   have hj:=(hE i hi j (Za6 (List.mem_of_find?_eq_some jR)).2.1).2
   exact ZtQ hE hS mn mx to hW k (Zbq mn mx d) j _ _ (r+1) hj (hW i j P Q hi hj h)
mutual
theorem ZwG(f s:List Nat):∀(t:T)(g i to:Nat)(P Q:PL),i<=s.length->to<=s.length->PSh f.length P Q->
  PSh f.length (t.wk (f++s) g (f.length+i) (f.length+to) P).1 (t.wk s g i to Q).1/\(t.wk (f++s) g (f.length+i) (f.length+to) P).2=(t.wk s g i to Q).2
 | .node k s0 s1 s2 s3 mn mx a c l=>λg i to P Q hi ht h=>by
  simp only[T.wk]
  split
  ·exact⟨ZwH f s l _ i to _ _ hi ht (h.set g i to),rfl⟩
  ·split
   ·exact⟨ZtR f s l _ i to _ _ hi ht h,rfl⟩
   ·split
    ·exact⟨ZtS f s l _ i to _ _ hi ht h,rfl⟩
    ·split
     ·rw[List.length_append,Zxv]
      exact ZtQ (Zbd s l) (ZuD f s l) mn mx to (λi j P Q hi hj h=>ZwH f s l g i j P Q hi hj h) _ 0 i P Q 0 hi h
     ·exact⟨h,rfl⟩
theorem ZwH(f s:List Nat):∀(l:List T)(g i to:Nat)(P Q:PL),i<=s.length->to<=s.length->PSh f.length P Q->PSh f.length (hdW (f++s) l g (f.length+i) (f.length+to) P) (hdW s l g i to Q)
 | []=>λ_ _ _ _ _ _ _ h=>by simpa[hdW]using h
 | t::_=>λg i to P Q hi ht h=>by simp only[hdW];exact(ZwG f s t g i to P Q hi ht h).1
theorem ZtR(f s:List Nat):∀(l:List T)(g i to:Nat)(P Q:PL),i<=s.length->to<=s.length->PSh f.length P Q->PSh f.length (Zm7 (f++s) l g (f.length+i) (f.length+to) P) (Zm7 s l g i to Q)
 | []=>λ_ _ _ _ _ _ _ h=>by simpa[Zm7]using h
 | t::l=>λg i to P Q hi ht h=>by
  simp only[Zm7]
  rw[ZtO f s t i hi]
  simp only[Zqg]
  split
  ·exact(ZwG f s t g i to P Q hi ht h).1
  ·exact ZtR f s l _ i to P Q hi ht h
theorem ZtS(f s:List Nat):∀(l:List T)(g i to:Nat)(P Q:PL),i<=s.length->to<=s.length->PSh f.length P Q->PSh f.length (Zm8 (f++s) l g (f.length+i) (f.length+to) P) (Zm8 s l g i to Q)
 | []=>λ_ _ _ _ _ _ _ h=>by simpa[Zm8]using h
 | t::l=>λg i to P Q hi ht h=>by
  simp only[Zm8]
  rw[ZtO f s t i hi,Zrw (p:=λj=>decide (to∈Zm5 (e0s s l) j)) (λx hx=>by
   rw[Zrv f s l x (Zba s t i hi x hx).2]
   exact decide_eq_decide.2 Zqg)]
  cases jR:(t.e0 s i).find? (λj=>decide (to∈Zm5 (e0s s l) j))with
  | none=>exact h
  | some j=>
   have hj:=(Zba s t i hi j (List.mem_of_find?_eq_some jR)).2
   exact ZtS f s l _ j to _ _ hj ht (ZwG f s t g i j P Q hi hj h).1
end
end Go.Rx
namespace Go.Rx
open Go Go.Eng Go.RowKit
structure Rnd (E:Nat->List Nat)(W:Nat->Nat->PL->PL)(P0:PL)(mn mx:Int)(i:Nat)(P:PL)(r:Nat):Prop where
 high:mx=-1\/(r:Int)<=mx
 few:(r:Int)<=mn+i
 none:r=0->i=0/\P=P0
 last:0 < r->∃(fr:Nat)(Pp:PL),fr<=i/\i∈E fr/\(mn < (r:Int)->fr≠i)/\Pp.length=P0.length/\P=W fr i Pp
theorem ZoD{E:Nat->List Nat}{W:Nat->Nat->PL->PL}{P0:PL}{len:Nat}{mn mx:Int}(hE:ZeB len E)(hW:∀i j P,(W i j P).length=P.length)(fT:0<=mn)(eS:mx=-1\/mn<=mx):∀(k d i:Nat)(P:PL)(r:Nat),i<=len->mR len mn mx d i < k->d=(if mx=-1 then min r mn.toNat else r)->P.length=P0.length->Rnd E W P0 mn mx i P r->len∈ZkA E mn mx (mR len mn mx d i+1) d i->
  Rnd E W P0 mn mx len (Zm6 W E len mn mx len k d i P r).1 (Zm6 W E len mn mx len k d i P r).2/\mn<=(Zm6 W E len mn mx len k d i P r).2
 | 0,d,i,P,r,_,h,_,_,_,_=>by omega
 | k+1,d,i,P,r,hi,hk,hd,hP,hR,bL=>by
  unfold Zm6
  cases jR:(ZcK E mn mx d i).find? (λj=>decide (len∈ZkA E mn mx (mR len mn mx (Zbq mn mx d) j+1) (Zbq mn mx d) j))with
  | none=>
   simp only
   simp only[ZkA]at bL
   rw[Zds,List.mem_append,List.mem_flatMap]at bL
   rcases bL with⟨x,hx,hl⟩|hl
   ·exfalso
    obtain⟨h1,h2,h3⟩:=Za6 hx
    obtain⟨h4,h5⟩:=hE i hi x h2
    have bF:=Zrc (len:=len) fT eS h1 ⟨h4,h5⟩ h3
    have:=List.find?_eq_none.1 jR x hx
    refine this (decide_eq_true ?_)
    rw[ZkB hE fT eS h5 (Nat.lt_succ_self _) bF]
    exact hl
   ·unfold Zpu at hl
    split at hl
    ·rename_i cR
     have hl:len=i:=by simpa using hl
     subst hl
     refine⟨hR,?_⟩
     split at hd <;> omega
    ·simp at hl
  | some j=>
   simp only
   have zk:=List.mem_of_find?_eq_some jR
   have xF:len∈ZkA E mn mx (mR len mn mx (Zbq mn mx d) j+1) (Zbq mn mx d) j:=by have:=List.find?_some jR;simpa using this
   obtain⟨h1,h2,h3⟩:=Za6 zk
   obtain⟨h4,h5⟩:=hE i hi j h2
   have bF:=Zrc (len:=len) fT eS h1 ⟨h4,h5⟩ h3
   have hr:=hR.few
   unfold Zhy at h1
   simp only[Bool.or_eq_true,beq_iff_eq,decide_eq_true_eq]at h1
   refine ZoD hE hW fT eS k (Zbq mn mx d) j (W i j P) (r+1) h5 (by omega) ?_ (by rw[hW,hP]) ⟨?_,?_,λh=>by omega,λ_=>⟨i,P,h4,h2,λh=>?_,hP,rfl⟩⟩ xF
   ·unfold Zbq
    by_cases e:mx=-1
    ·rw[if_pos e]at hd ⊢;rw[if_pos e];omega
    ·rw[if_neg e]at hd ⊢;rw[if_neg e];omega
   ·by_cases e:mx=-1
    ·exact .inl e
    ·right;rw[if_neg e]at hd
     have:=h1.resolve_left e
     omega
   ·by_cases e:mx=-1
    ·rw[if_pos e]at hd;omega
    ·rw[if_neg e]at hd;omega
   ·by_cases e:mx=-1
    ·rw[if_pos e]at hd;omega
    ·rw[if_neg e]at hd;omega
theorem ZoE{t:T}{s:List Nat}{i to:Nat}{P:PL}(hP:P≠[]):∀{G:T} {a:Option Addr} {c:Nat},G.er=(Zap 6 0 0 a c [t]).er->(G.wk s 0 i to P).1[0]?=some ((i:Int),(to:Int)):=λ{G a c} he=>by
 have e:G.wk s 0 i to P=(Zap 6 0 0 a c [t]).wk s 0 i to P:=by rw[<-ZtH,he,ZtH]
 have e2:(Zap 6 0 0 a c [t]).wk s 0 i to P=(hdW s [t] 1 i to (P.set 0 ((i:Int),(to:Int))),0):=by
  rw[Zwi]
  show(if(6:Int)=6 then _ else _)=_
  rw[if_pos rfl];rfl
 rw[e,e2]
 cases P with
 | nil=>exact absurd rfl hP
 | cons p P=>
  have hs:(p::P).set 0 ((i:Int),(to:Int))=[((i:Int),(to:Int))]++P:=rfl
  have:=Zov s [((i:Int),(to:Int))] [t] 0 i to P
  simp only[hs]
  have h2:hdW s [t] 1 i to ([((i:Int),(to:Int))]++P)=[((i:Int),(to:Int))]++hdW s [t] 0 i to P:=this
  rw[h2];rfl
structure Rounds (t G:T)(lo hi:Int)(s:List Nat)(P:PL)(r:Nat):Prop where
 low:lo<=r
 high:hi=-1\/(r:Int)<=hi
 few:(r:Int)<=lo+s.length
 len:P.length=t.ngr+1
 none:r=0->s.length=0/\P[0]?=some (-1,-1)
 last:0 < r->∃fr:Nat,fr<=s.length/\s.length∈t.e0 s fr/\(lo < (r:Int)->fr≠s.length)/\P[0]?=some ((fr:Int),(s.length:Int))/\PSh fr P (ZhZ G (s.drop fr)).1
theorem Zqh{t G t':T}{a a':Option Addr}{c c':Nat}{lo hi:Int}{s:List Nat}(hG:G.er=(Zap 6 0 0 a c [t]).er)(ht':t'.er=(Zap 5 lo hi a' c' [G]).er)(pB:0<=lo)(t5:hi=-1\/lo<=hi)(fK:s.length∈t'.e0 s 0):Rounds t G lo hi s (ZhZ t' s).1 (ZhZ t' s).2:=by
 have lA:G.ngr=t.ngr+1:=(Zow (s:=s) hG).2.2
 have e1:ZhZ t' s=ZhZ (Zap 5 lo hi a' c' [G]) s:=by rw[<-Zhd,ht',Zhd]
 have e2:t'.e0 s 0=(Zap 5 lo hi a' c' [G]).e0 s 0:=by rw[<-ZjE,ht',ZjE]
 have hn:(Zap 5 lo hi a' c' [G]).ngr=t.ngr+1:=by
  show(if(5:Int)=6 then 1 else 0)+(G.ngr+0)=_
  rw[if_neg (by decide),lA];omega
 have zl:∀i j,j∈hd0 s [G] i↔j∈t.e0 s i:=λi j=>by
  simp only[hd0]
  have:G.e0 s i=(Zap 6 0 0 a c [t]).e0 s i:=by rw[<-ZjE,hG,ZjE]
  rw[this]
  have e3:(Zap 6 0 0 a c [t]).e0 s i=ddp (hd0 s [t] i):=by unfold Zap;simp[T.e0]
  rw[e3,Zds];simp[hd0]
 have e3:(Zap 5 lo hi a' c' [G]).e0 s 0=ZkA (hd0 s [G]) lo hi (mR s.length lo hi 0 0+1) 0 0:=by unfold Zap;simp[T.e0]
 rw[e2,e3]at fK
 have e4:ZhZ (Zap 5 lo hi a' c' [G]) s=Zm6 (hdW s [G] 0) (hd0 s [G]) s.length lo hi s.length (mR s.length lo hi 0 0+1) 0 0 (List.replicate (t.ngr+1) (-1,-1)) 0:=by
  unfold ZhZ
  rw[hn,Zwi]
  show(if(5:Int)=6 then _ else if(5:Int)=4 then _ else if(5:Int)=3 then _ else if(5:Int)=5 then _ else _)=_
  rw[if_neg (by decide),if_neg (by decide),if_neg (by decide),if_pos rfl];rfl
 rw[e1,e4]
 have vE:∀i j P,(hdW s [G] 0 i j P).length=P.length:=λi j P=>Zre s [G] 0 i j P
 obtain⟨hR,lT⟩:=ZoD (E:=hd0 s [G]) (W:=hdW s [G] 0) (P0:=List.replicate (t.ngr+1) (-1,-1)) (len:=s.length) (Zbd s [G]) vE pB t5 (mR s.length lo hi 0 0+1) 0 0 (List.replicate (t.ngr+1) (-1,-1)) 0 (by omega) (Nat.lt_succ_self _) (by split <;> omega) rfl ⟨by rcases t5 with h|h;exact .inl h;right;omega,by omega,λ_=>⟨rfl,rfl⟩,λh=>by omega⟩ fK
 refine⟨lT,hR.high,hR.few,?_,λh=>?_,λh=>?_⟩
 ·rw[Zm9 vE];simp
 ·obtain⟨h1,h2⟩:=hR.none h
  exact⟨h1,by rw[h2];simp⟩
 ·obtain⟨fr,Pp,g1,g2,g3,g4,g5⟩:=hR.last h
  have vF:Pp.length=t.ngr+1:=by rw[g4];simp
  have cN:Pp≠[]:=λe=>by rw[e]at vF;simp at vF
  refine⟨fr,g1,(zl fr _).1 g2,g3,?_,?_⟩
  ·rw[g5];simp only[hdW];exact ZoE cN hG
  ·rw[g5]
   simp only[hdW]
   have qX:s.take fr++s.drop fr=s:=List.take_append_drop fr s
   have pL:(s.take fr).length=fr:=by rw[List.length_take];omega
   have vA:(s.drop fr).length=s.length - fr:=List.length_drop ..
   have:=ZwG (s.take fr) (s.drop fr) G 0 0 (s.drop fr).length Pp (List.replicate G.ngr (-1,-1)) (by omega) (by omega) ⟨by rw[vF,lA];simp,λq x y _ hy=>.inl (List.eq_of_mem_replicate (List.mem_of_getElem? hy))⟩
   rw[qX,pL,Nat.add_zero,vA,show fr+(s.length - fr)=s.length by omega]at this
   unfold ZhZ
   rw[vA]
   exact this.1
end Go.Rx
