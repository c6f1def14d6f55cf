/- Trees of regexes, what they mean, and xj they lie in memory; plain, no program is named. No condition. -/
import Derived.Test.YtplacemlpkhmfaaMc
import Derived.Sort.Grow
import Derived.Lib.SlicesCompact
set_option linter.unusedVariables false
set_option linter.unusedSimpArgs false
set_option linter.unusedSectionVars false
namespace Go.Rx
open Go Go.Eng
inductive T where
 | node (k s0 s1 s2 s3 mn mx:Int) (a:Option Addr) (c:Nat) (subs:List T)
def T.k:T->Int
 | .node k _ _ _ _ _ _ _ _ _=>k
def T.s0:T->Int
 | .node _ s _ _ _ _ _ _ _ _=>s
def T.s1:T->Int
 | .node _ _ s _ _ _ _ _ _ _=>s
def T.s2:T->Int
 | .node _ _ _ s _ _ _ _ _ _=>s
def T.s3:T->Int
 | .node _ _ _ _ s _ _ _ _ _=>s
def T.mn:T->Int
 | .node _ _ _ _ _ x _ _ _ _=>x
def T.mx:T->Int
 | .node _ _ _ _ _ _ x _ _ _=>x
def T.a:T->Option Addr
 | .node _ _ _ _ _ _ _ a _ _=>a
def T.c:T->Nat
 | .node _ _ _ _ _ _ _ _ c _=>c
def T.subs:T->List T
 | .node _ _ _ _ _ _ _ _ _ l=>l
def T.sl(t:T):Value:=.slice t.a t.subs.length t.c
def T.cs(t:T):List Value:=[.int .u8 t.k,.int .u64 t.s0,.int .u64 t.s1,.int .u64 t.s2,.int .u64 t.s3,.int .i64 t.mn,.int .i64 t.mx,t.sl]
def T.v(t:T):Value:=.agg #[.int .u8 t.k,.int .u64 t.s0,.int .u64 t.s1,.int .u64 t.s2,.int .u64 t.s3,.int .i64 t.mn,.int .i64 t.mx,.slice t.a t.subs.length t.c]
structure OkN (k s0 s1 s2 s3 mn mx:Int):Prop where
 k:0<=k/\k < 256
 s0:0<=s0/\s0 < 18446744073709551616
 s1:0<=s1/\s1 < 18446744073709551616
 s2:0<=s2/\s2 < 18446744073709551616
 s3:0<=s3/\s3 < 18446744073709551616
 mn : -9223372036854775808<=mn/\mn<=9223372036854775807
 mx : -9223372036854775808<=mx/\mx<=9223372036854775807
mutual
def Rep(m:Mem):T->Prop
 | .node k s0 s1 s2 s3 mn mx a _ l=>l.length<=1000000000000000/\(l=[]\/∃b o,a=some ⟨b,o,none⟩/\RepAt m b o l)/\OkN k s0 s1 s2 s3 mn mx
def RepAt(m:Mem)(b:Nat):Nat->List T->Prop
 | _,[]=>True
 | o,t::l=>m.reads b o t.cs/\Rep m t/\RepAt m b (o+8) l
end
theorem ZcQ{m:Mem}{t:T}:Rep m t->(t.subs.length<=1000000000000000/\(t.subs=[]\/∃b o,t.a=some ⟨b,o,none⟩/\RepAt m b o t.subs)):=by
 cases t;simp only[Rep,T.subs,T.a];exact λh=>⟨h.1,h.2.1⟩
theorem Zsp{m:Mem}{t:T}:Rep m t->OkN t.k t.s0 t.s1 t.s2 t.s3 t.mn t.mx:=by
 cases t;simp only[Rep];exact λh=>h.2.2
mutual
theorem Rep.mono{m m':Mem}(h:m.le m'):∀t:T,Rep m t->Rep m' t
 | .node _ _ _ _ _ _ _ a _ l,hr=>by
  simp only[Rep]at *
  refine⟨hr.1,?_,hr.2.2⟩
  rcases hr.2.1 with hr|⟨b,o,h1,h2⟩
  ·exact .inl hr
  ·exact .inr ⟨b,o,h1,RepAt.mono h b o l h2⟩
theorem RepAt.mono{m m':Mem}(h:m.le m')(b:Nat):∀(o:Nat)(l:List T),RepAt m b o l->RepAt m' b o l
 | _,[],_=>by simp only[RepAt]
 | o,t::l,hr=>by
  simp only[RepAt]at *
  exact⟨hr.1.mono h,Rep.mono h t hr.2.1,RepAt.mono h b (o+8) l hr.2.2⟩
end
theorem RepAt.get{m:Mem}{b:Nat}:∀{o:Nat} {l:List T} {i:Nat} {t:T},RepAt m b o l->l[i]?=some t->m.reads b (o+i*8) t.cs/\Rep m t
 | o,[],i,t,_,hi=>by simp at hi
 | o,x::l,0,t,h,hi=>by
  simp only[RepAt]at h
  simp at hi;subst hi
  exact⟨by simpa using h.1,h.2.1⟩
 | o,x::l,i+1,t,h,hi=>by
  simp only[RepAt]at h
  have:=h.2.2.get (i:=i) (by simpa using hi)
  rw[show o+(i+1)*8=o+8+i*8 by omega]
  exact this
mutual
def T.nodes:T->List T
 | .node k s0 s1 s2 s3 mn mx a c l=>.node k s0 s1 s2 s3 mn mx a c l::Zap l
def Zap:List T->List T
 | []=>[]
 | t::l=>t.nodes++Zap l
end
theorem Zbb(t:T):t.nodes=t::Zap t.subs:=by cases t;simp only[T.nodes,T.subs]
theorem Zcz(l r:List T):Zap (l++r)=Zap l++Zap r:=by
 induction l with
 | nil=>simp[Zap]
 | cons t l ih=>simp[Zap,ih,List.append_assoc]
theorem Zlz{l:List T}{i:Nat}{t:T}(h:l[i]?=some t):Zap (l.take (i+1))=Zap (l.take i)++t.nodes:=by
 have:l.take (i+1)=l.take i++[t]:=by
  rw[List.take_add_one,h];rfl
 rw[this,Zcz];simp[Zap]
theorem Zen{l:List T}{i:Nat}{t:T}(h:l[i]?=some t):Zap l=Zap (l.take i)++(t.nodes++Zap (l.drop (i+1))):=by
 have aH:=(zA0 h).1
 have e:l=l.take i++(t::l.drop (i+1)):=by
  have:=List.drop_eq_getElem_cons aH
  rw[(zA0 h).2]at this
  rw[<-this,List.take_append_drop]
 conv=>lhs;rw[e,Zcz]
 simp[Zap]
theorem Zrg{t x z:T}{i q:Nat}(hx:t.subs[i]?=some x)(hz:x.nodes[q]?=some z):t.nodes[1+(Zap (t.subs.take i)).length+q]?=some z:=by
 have hq:=(zA0 hz).1
 rw[Zbb,show 1+(Zap (t.subs.take i)).length+q=((Zap (t.subs.take i)).length+q)+1 by omega,List.getElem?_cons_succ,Zen hx,zA4 (by omega),zA5 (by omega),show(Zap (List.take i t.subs)).length+q - (Zap (List.take i t.subs)).length=q by omega]
 exact hz
theorem Zpj{t x:T}(h:x∈t.subs):SizeOf.sizeOf x < SizeOf.sizeOf t:=by
 cases t with
 | node k s0 s1 s2 s3 mn mx a c l=>
  have h':x∈l:=h
  have:=List.sizeOf_lt_of_mem h'
  simp only[T.node.sizeOf_spec]
  omega
theorem Zpk(t:T):Shape.fitsL [.agg [.int .u8,.int .u64,.int .u64,.int .u64,.int .u64,.int .i64,.int .i64,.slice]] [t.v]=true:=by
 simp[Shape.fitsL,Shape.fits,T.v]
mutual
theorem Zn8{m:Mem}:∀(t:T),Rep m t->∀x∈t.nodes,Rep m x
 | .node k s0 s1 s2 s3 mn mx a c l,hr,x,hx=>by
  simp only[T.nodes,List.mem_cons]at hx
  rcases hx with rfl|hx
  ·exact hr
  ·simp only[Rep]at hr
   rcases hr.2.1 with h|⟨b,o,_,h⟩
   ·subst h;simp[Zap]at hx
   ·exact ZlA b o l h x hx
theorem ZlA{m:Mem}(b:Nat):∀(o:Nat)(l:List T),RepAt m b o l->∀x∈Zap l,Rep m x
 | _,[],_,x,hx=>by simp[Zap]at hx
 | o,t::l,hr,x,hx=>by
  simp only[RepAt]at hr
  simp only[Zap,List.mem_append]at hx
  rcases hx with hx|hx
  ·exact Zn8 t hr.2.1 x hx
  ·exact ZlA b (o+8) l hr.2.2 x hx
end
theorem ZlB{m:Mem}{t x:T}(h:Rep m t)(hx:x∈t.nodes):Rep m x:=Zn8 t h x hx
def Zdi(least most:Int):Bool:=!(decide (least < 0)||decide (least > 16)||(least == 1&&most == 1))&&(most == -1||(decide (most ≥ 1)&&decide (most<=16)&&decide (most ≥ least)))
def T.has(t:T)(k:Int):Bool:=t.subs.any λx=>x.k == k
def T.light(t:T):Bool:=decide (t.nodes.length<=10000)
def T.setZ(t:T):Bool:=t.s0 == 0&&t.s1 == 0&&t.s2 == 0&&t.s3 == 0
def T.right(t:T):Bool:=
 !(t.k != 2&&!t.setZ||(t.k != 5&&(t.mn != 0||t.mx != 0)||(decide (t.k < 3)&&decide (0 < t.subs.length)))) &&
 (if t.k=1 then true else if t.k=2 then !t.setZ else if t.k=3 then decide (1 < t.subs.length)&&(!t.has 1&&!t.has 3)else if t.k=4 then decide (1 < t.subs.length)&&!t.has 4
  else if t.k=5 then t.subs.length == 1&&(Zdi t.mn t.mx&&!t.has 1)else t.k == 6&&t.subs.length == 1)
def T.clean(t:T):Bool:=t.light&&t.nodes.all T.right
def T.size(t:T):Int:=if t.light then t.nodes.length else 10001
def T.groups(t:T):Int:=if t.light then(t.nodes.countP λx=>x.k == 6:Nat)else 10001
def Zjv(x y:Int):Int:=if y > x then y else x
def Zj6(x y:Int):Int:=if y < x then y else x
def Zrh(k mn mx sum:Int):Int:=Zj6 (if k=5 then sum*Zj6 (if mx=-1 then Zjv (Zjv mn 0) 1 else Zjv (Zjv mn 0) mx) 10001 else sum) 10001
mutual
def T.pos:T->Int
 | .node k _ _ _ _ mn mx _ _ l=>Zrh k mn mx ((if k=2 then 1 else 0)+ZcA l)
def ZcA:List T->Int
 | []=>0
 | t::l=>t.pos+ZcA l
end
def T.positions(t:T):Int:=if t.light then t.pos else 10001
def T.check(t:T):Int:=if t.clean=false then 80 else if t.size > 120 then 81 else if t.positions > 400 then 82 else if t.groups > 9 then 83 else 0
mutual
def T.same:T->T->Bool
 | .node k s0 s1 s2 s3 mn mx _ _ l,.node k' s0' s1' s2' s3' mn' mx' _ _ l'=>k == k'&&((s0 == s0'&&s1 == s1'&&s2 == s2'&&s3 == s3')&&(mn == mn'&&(mx == mx'&&ZfS l l')))
def ZfS:List T->List T->Bool
 | [],[]=>true
 | t::l,t'::l'=>t.same t'&&ZfS l l'
 | _,_=>false
end
theorem Zsq(t u:T):t.same u=(t.k == u.k&&((t.s0 == u.s0&&t.s1 == u.s1&&t.s2 == u.s2&&t.s3 == u.s3)&&(t.mn == u.mn&&(t.mx == u.mx&&ZfS t.subs u.subs)))):=by
 cases t;cases u;simp only[T.same,T.k,T.s0,T.s1,T.s2,T.s3,T.mn,T.mx,T.subs]
theorem ZlC:∀{l r:List T},¬l.length=r.length->ZfS l r=false
 | [],[],h=>by simp at h
 | [],_::_,_=>by simp[ZfS]
 | _::_,[],_=>by simp[ZfS]
 | x::l,y::r,h=>by
  simp only[ZfS,ZlC (l:=l) (r:=r) (by simpa using h),Bool.and_false]
theorem Zn9:∀{l r:List T} {i:Nat} {x y:T},l[i]?=some x->r[i]?=some y->x.same y=false->ZfS l r=false
 | [],r,i,x,y,h,_,_=>by simp at h
 | _::_,[],i,x,y,_,h,_=>by simp at h
 | a::l,b::r,0,x,y,h,k,e=>by
  simp at h k;subst h k
  simp[ZfS,e]
 | a::l,b::r,i+1,x,y,h,k,e=>by
  simp only[ZfS,Zn9 (l:=l) (r:=r) (i:=i) (by simpa using h) (by simpa using k) e,Bool.and_false]
theorem Zjw:∀{l r:List T} {i:Nat} {x y:T},l[i]?=some x->r[i]?=some y->ZfS (l.take i) (r.take i)=true->x.same y=true->True->ZfS (l.take (i+1)) (r.take (i+1))=true
 | [],r,i,x,y,h,_,_,_,_=>by simp at h
 | _::_,[],i,x,y,_,h,_,_,_=>by simp at h
 | a::l,b::r,0,x,y,h,k,_,e,_=>by
  simp at h k;subst h k
  simp[ZfS,e]
 | a::l,b::r,i+1,x,y,h,k,hs,e,_=>by
  simp only[List.take_succ_cons,ZfS,zA7]at hs ⊢
  exact⟨hs.1,Zjw (by simpa using h) (by simpa using k) hs.2 e trivial⟩
theorem Zm5(t:T):t.pos=Zrh t.k t.mn t.mx ((if t.k=2 then 1 else 0)+ZcA t.subs):=by
 cases t;simp only[T.pos,T.k,T.mn,T.mx,T.subs];congr 1
theorem ZaT(l r:List T):ZcA (l++r)=ZcA l+ZcA r:=by
 induction l with
 | nil=>simp[ZcA]
 | cons t l ih=>simp[ZcA,ih,Int.add_assoc]
theorem Zpl{l:List T}{i:Nat}{t:T}(h:l[i]?=some t):ZcA (l.take (i+1))=ZcA (l.take i)+t.pos:=by
 have:l.take (i+1)=l.take i++[t]:=by
  rw[List.take_add_one,h];rfl
 rw[this,ZaT];simp[ZcA]
theorem Zoa(x y:Int):x<=Zjv x y/\y<=Zjv x y:=by unfold Zjv;split <;> omega
theorem Zjx(x y:Int):Zj6 x y<=x/\Zj6 x y<=y:=by unfold Zj6;split <;> omega
theorem Zql{x y:Int}(h:0<=x)(k:0<=y):0<=Zj6 x y:=by unfold Zj6;split <;> omega
def Zri(mn mx:Int):Int:=Zj6 (if mx=-1 then Zjv (Zjv mn 0) 1 else Zjv (Zjv mn 0) mx) 10001
theorem Zqm(mn mx:Int):0<=Zri mn mx/\Zri mn mx<=10001:=by
 unfold Zri
 refine⟨Zql ?_ (by omega),(Zjx _ _).2⟩
 have h1:=Zoa mn 0
 split
 ·have:=Zoa (Zjv mn 0) 1;omega
 ·have:=Zoa (Zjv mn 0) mx;omega
theorem Zsr{k mn mx sum:Int}(h:0<=sum):0<=Zrh k mn mx sum/\Zrh k mn mx sum<=10001:=by
 have h2:=Int.mul_nonneg h (Zqm mn mx).1
 unfold Zrh
 refine⟨Zql ?_ (by omega),(Zjx _ _).2⟩
 split
 ·exact h2
 ·exact h
mutual
theorem ZeY:∀t:T,0<=t.pos/\t.pos<=10001
 | .node k _ _ _ _ mn mx _ _ l=>by
  simp only[T.pos]
  have:=ZdV l
  exact Zsr (by split <;> omega)
theorem ZdV:∀l:List T,0<=ZcA l
 | []=>by simp[ZcA]
 | t::l=>by
  simp only[ZcA]
  have:=ZeY t
  have:=ZdV l
  omega
end
theorem Zqn:∀l:List T,ZcA l<=10001*l.length
 | []=>by simp[ZcA]
 | t::l=>by
  simp only[ZcA,List.length_cons]
  have:=ZeY t
  have:=Zqn l
  omega
theorem Zqo(t:T):t.subs.length < t.nodes.length:=by
 rw[Zbb,List.length_cons]
 have:∀l:List T,l.length<=(Zap l).length:=by
  intro l
  induction l with
  | nil=>simp[Zap]
  | cons x l ih=>simp only[Zap,List.length_cons,zA1];rw[Zbb];simp;omega
 have:=this t.subs
 omega
theorem Zpm{t x:T}(h:x∈t.subs):x.nodes.length < t.nodes.length:=by
 obtain⟨i,hi⟩:=List.getElem?_of_mem h
 rw[Zbb t,List.length_cons,Zen hi]
 simp;omega
def T.hasB(t:T)(c:Nat):Bool:=((if c / 64=0 then t.s0 else if c / 64=1 then t.s1 else if c / 64=2 then t.s2 else t.s3).toNat).testBit (c % 64)
end Go.Rx
namespace Go.Rx
open Go Go.Eng Go.RowKit
def wdN(f j:Nat):Nat:=(f >>> (64*j)) % 2 ^ 64
theorem ZlD(f j:Nat):wdN f j < 18446744073709551616:=by
 unfold wdN
 exact Nat.mod_lt _ (by decide)
theorem Zob(f j k:Nat):(wdN f j).testBit k=(decide (k < 64)&&f.testBit (64*j+k)):=by
 unfold wdN
 rw[Nat.testBit_mod_two_pow,Nat.testBit_shiftRight]
theorem Zss(f g j:Nat):wdN (f|||g) j=wdN f j|||wdN g j:=by
 apply Nat.eq_of_testBit_eq
 intro k
 simp only[Zob,Nat.testBit_or]
 cases decide (k < 64) <;> simp
theorem Zst{q r j:Nat}(hr:r < 64):wdN (2 ^ (64*q+r)) j=if j=q then 2 ^ r else 0:=by
 apply Nat.eq_of_testBit_eq
 intro k
 rw[Zob,Nat.testBit_two_pow]
 by_cases hj:j=q
 ·subst hj
  rw[if_pos rfl,Nat.testBit_two_pow]
  by_cases hk:k < 64
  ·simp[hk]
  ·have:¬r=k:=by omega
   simp[hk,this]
 ·rw[if_neg hj]
  simp only[Nat.zero_testBit,Bool.and_eq_false_iff,decide_eq_false_iff_not]
  omega
theorem ZrS(n:Nat)(h:n < 18446744073709551616):IntKind.u64.wrap (n:Int)=n:=by
 unfold IntKind.wrap
 have e:(2:Int) ^ 64=18446744073709551616:=by decide
 simp only[IntKind.bits,IntKind.signed,Bool.false_and,Bool.false_eq_true,if_false,e]
 omega
theorem ZuC(a:Nat)(h:a < 18446744073709551616):(BitVec.ofInt 64 (a:Int)).toNat=a:=by
 rw[BitVec.toNat_ofInt]
 have e:((2:Nat) ^ 64:Nat)=18446744073709551616:=by decide
 rw[e];omega
theorem ZiA(a b:Nat)(ha:a < 18446744073709551616)(hb:b < 18446744073709551616):IntKind.u64.wrap ((BitVec.ofInt 64 (a:Int)|||BitVec.ofInt 64 (b:Int)).toNat:Int)=((a|||b:Nat):Int):=by
 rw[BitVec.toNat_or,ZuC a ha,ZuC b hb]
 exact ZrS _ (Nat.or_lt_two_pow (n:=64) ha hb)
theorem Zoc(a r:Nat)(ha:a < 18446744073709551616):(IntKind.u64.wrap ((BitVec.ofInt 64 (Int.fdiv (a:Int) (2 ^ r))&&&BitVec.ofInt 64 1).toNat:Int) == 1)=a.testBit r:=by
 have e:Int.fdiv (a:Int) (2 ^ r)=((a >>> r:Nat):Int):=by
  rw[Nat.shiftRight_eq_div_pow,Int.fdiv_eq_ediv_of_nonneg _ (Int.pow_nonneg (by omega))]
  push_cast
  rfl
 have aH:a >>> r < 18446744073709551616:=Nat.lt_of_le_of_lt (Nat.shiftRight_le a r) ha
 rw[e,BitVec.toNat_and,ZuC _ aH]
 have h1:(BitVec.ofInt 64 1).toNat=1:=by decide
 rw[h1,ZrS _ (Nat.lt_of_le_of_lt Nat.and_le_left aH),Nat.and_one_is_mod]
 have e2:a.testBit r=decide (a >>> r % 2=1):=by
  rw[Nat.shiftRight_eq_div_pow];exact Nat.testBit_eq_decide_div_mod_eq
 rw[e2,Bool.eq_iff_iff]
 simp only[beq_iff_eq,decide_eq_true_eq]
 omega
def plV(f:Nat):Value:=.agg #[.int .u64 (wdN f 0:Nat),.int .u64 (wdN f 1:Nat),.int .u64 (wdN f 2:Nat),.int .u64 (wdN f 3:Nat),.int .u64 (wdN f 4:Nat),.int .u64 (wdN f 5:Nat),.int .u64 (wdN f 6:Nat),.int .u64 (wdN f 7:Nat),.int .u64 (wdN f 8:Nat)]
def Byt(m:Mem)(a:Option Addr)(s:List Nat):Prop:=(s=[]\/∃b o,a=some ⟨b,o,none⟩/\m.reads b o (s.map λc:Nat=>Value.int .u8 c))/\∀c∈s,c < 256
theorem Byt.mono{m m':Mem}{a s}(h:Byt m a s)(hm:m.le m'):Byt m' a s:=by
 refine⟨?_,h.2⟩
 rcases h.1 with h|⟨b,o,h1,h2⟩
 ·exact .inl h
 ·exact .inr ⟨b,o,h1,h2.mono hm⟩
theorem Byt.get{m:Mem}{a s}(h:Byt m a s){i c:Nat}(hi:s[i]?=some c):(∃b o,a=some ⟨b,o,none⟩/\m b (o+i)=some (.int .u8 c))/\c < 256:=by
 refine⟨?_,h.2 c (zA2 hi)⟩
 rcases h.1 with h|⟨b,o,h1,h2⟩
 ·subst h;simp at hi
 ·exact⟨b,o,h1,h2 i _ (by rw[List.getElem?_map,hi];rfl)⟩
def Zuq(t:T)(back:Bool)(f i c out:Nat):Nat:=if(f.testBit (if back then i+1 else i)&&t.hasB c)=true then out|||2 ^ (if back then i else i+1)else out
def ZuN(t:T)(back:Bool)(f:Nat):List Nat->Nat->Nat->Nat
 | [],_,out=>out
 | c::s,i,out=>ZuN t back f s (i+1) (Zuq t back f i c out)
def ZuD(g:Nat->Nat):Nat->Nat->Nat
 | 0,f=>f
 | n+1,f=>ZuD g n (g f)
def ZtY(g:Nat->Nat)(mx:Int):Nat->Int->Nat->Nat->Nat
 | 0,_,out,_=>out
 | n+1,k,out,last=>if k=mx then out else if out|||g last=out then out else ZtY g mx n (IntKind.i64.wrap (k+1)) (out|||g last) (g last)
@[irreducible] def ZuV:Nat:=576
abbrev ZuE:Nat:=2 ^ ZuV
def ZuW(g:Nat->Nat)(mn mx:Int)(f:Nat):Nat:=ZtY g mx (ZuE+1) mn (ZuD g mn.toNat f) (ZuD g mn.toNat f)
mutual
def T.lead(s:List Nat)(back:Bool):T->Nat->Nat
 | .node k s0 s1 s2 s3 mn mx a c l=>λf=>
  if k=1 then f else if k=2 then ZuN (.node k s0 s1 s2 s3 mn mx a c l) back f s 0 0
  else if k=3 then(if back then Zt0 s back l f else ZtZ s back l f)
  else if k=4 then ZuO s back l f 0
  else if k=5 then ZuW (Zt1 s back l) mn mx f
  else if k=6 then Zt1 s back l f else 0
def ZtZ(s:List Nat)(back:Bool):List T->Nat->Nat
 | []=>λf=>f
 | t::l=>λf=>ZtZ s back l (t.lead s back f)
def Zt0(s:List Nat)(back:Bool):List T->Nat->Nat
 | []=>λf=>f
 | t::l=>λf=>t.lead s back (Zt0 s back l f)
def ZuO(s:List Nat)(back:Bool):List T->Nat->Nat->Nat
 | []=>λ_ out=>out
 | t::l=>λf out=>ZuO s back l f (out|||t.lead s back f)
def Zt1(s:List Nat)(back:Bool):List T->Nat->Nat
 | []=>λf=>f
 | t::_=>λf=>t.lead s back f
end
section
variable {s:List Nat} {back:Bool}
end
theorem Zcb{α:Type}{l:List α}{i:Nat}{x:α}(h:l[i]?=some x):l.drop i=x::l.drop (i+1):=by
 obtain⟨h1,h2⟩:=zA0 h
 rw[List.drop_eq_getElem_cons h1,h2]
theorem Zgj{α:Type}{l:List α}{i:Nat}{x:α}(h:l[i]?=some x):l.take (i+1)=l.take i++[x]:=by
 rw[List.take_add_one,h];rfl
section
variable (s:List Nat) (back:Bool) (hs:s.length<=512)
include hs
end
def T0:T:=.node 0 0 0 0 0 0 0 none 0 []
def T1:T:=.node 1 0 0 0 0 0 0 none 0 []
theorem Ztx(m:Mem):Rep m T0:=by simp only[T0,Rep];exact⟨by simp,.inl trivial,by constructor <;> decide⟩
theorem Zsu(m:Mem):Rep m T1:=by simp only[T1,Rep];exact⟨by simp,.inl trivial,by constructor <;> decide⟩
def T.isNone(t:T):Bool:=t.k == 0&&(t.light&&(T0.light&&t.same T0))
def T.wrong(t:T)(len:Nat)(i:Int):Int:=if(!t.isNone&&!(t.check == 0))=true then 130 else if(len:Int) > 512 then 3 else if i < 0\/i > len then 2 else 0
structure Rg where
 bg:Bool
 en:Bool
 t:T
def Rg.v(r:Rg):Value:=.agg #[.bool r.bg,.bool r.en,.int .u8 r.t.k,.int .u64 r.t.s0,.int .u64 r.t.s1,.int .u64 r.t.s2,.int .u64 r.t.s3,.int .i64 r.t.mn,.int .i64 r.t.mx,.slice r.t.a r.t.subs.length r.t.c]
def Rg.cs(r:Rg):List Value:=[.bool r.bg,.bool r.en,.int .u8 r.t.k,.int .u64 r.t.s0,.int .u64 r.t.s1,.int .u64 r.t.s2,.int .u64 r.t.s3,.int .i64 r.t.mn,.int .i64 r.t.mx,.slice r.t.a r.t.subs.length r.t.c]
def Rgs(m:Mem)(a:Option Addr)(l:List Rg):Prop:=l.length<=1000000000000000/\(l=[]\/∃b o,a=some ⟨b,o,none⟩/\∀i r,l[i]?=some r->m.reads b (o+i*10) r.cs)/\∀r∈l,Rep m r.t
theorem Rgs.mono{m m':Mem}{a l}(h:Rgs m a l)(hm:m.le m'):Rgs m' a l:=by
 refine⟨h.1,?_,λr hr=>(h.2.2 r hr).mono hm⟩
 rcases h.2.1 with h|⟨b,o,h1,h2⟩
 ·exact .inl h
 ·exact .inr ⟨b,o,h1,λi r hi=>(h2 i r hi).mono hm⟩
def Zty(f:Nat):List Nat:=(List.range 513).filter λi=>f.testBit i
def Zsv(n:Nat):List Nat->Option Nat
 | []=>none
 | i::_=>if i > n then none else some i
def Rg.from(s:List Nat)(n:Nat)(r:Rg):Option Nat:=if(r.en&&decide ((n:Int) < s.length))=true then none else if r.bg then(if(r.t.lead s true (2 ^ n)).testBit 0 then some 0 else none)else
 Zsv n (Zty (r.t.lead s true (2 ^ n)))
def Rg.wrong(r:Rg)(len:Nat)(n:Int):Int:=if r.t.check=0 then r.t.wrong len n else 130
def Ztz(l:List Rg)(len:Nat)(n:Int):Int:=if(l.length:Int) > 64 then 5 else if l.all (λr=>r.t.check == 0)then T1.wrong len n else 130
def Zod(φ:T->Prop):Value->Mem->List (List Value)->Prop:=λv m' _=>∃t:T,v=t.v/\Rep m' t/\φ t
abbrev TRK:=Int->Int->Int->Int->Int->Int->Int->Option Addr->Nat->Nat->Mem->Prop
theorem Zpn{φ:T->Prop}{m:Mem}{K:TRK}(k:∀(t:T)(m':Mem),m.le m'->Rep m' t->φ t->K t.k t.s0 t.s1 t.s2 t.s3 t.mn t.mx t.a t.subs.length t.c m'):
  ∀(n0 n1 n2 n3 n4 n5 n6:Int)(a:Option Addr)(n c:Nat)(m':Mem),m.le m'->Zod φ (.agg #[.int .u8 n0,.int .u64 n1,.int .u64 n2,.int .u64 n3,.int .u64 n4,.int .i64 n5,.int .i64 n6,.slice a n c]) m' []->K n0 n1 n2 n3 n4 n5 n6 a n c m':=by
 rintro n0 n1 n2 n3 n4 n5 n6 a n c m' hm ⟨t,hv,hr,hp⟩
 simp only[T.v,Value.agg.injEq,Array.mk.injEq,List.cons.injEq,Value.int.injEq,Value.slice.injEq,true_and,and_true]at hv
 obtain⟨rfl,rfl,rfl,rfl,rfl,rfl,rfl,rfl,rfl,rfl⟩:=hv
 exact k t m' hm hr hp
theorem Zgk{φ:T->Prop}:∀(v:Value)(m':Mem) (css:List (List Value)),Zod φ v m' css->Shape.fits (.agg [.int .u8,.int .u64,.int .u64,.int .u64,.int .u64,.int .i64,.int .i64,.slice]) v=true:=λv _ _ ⟨t,e,_⟩=>by rw[e];rfl
def ZbJ(c j:Nat):Int:=if c / 64=j then((2 ^ (c % 64):Nat):Int)else 0
def Za4(c:Nat):T:=.node 2 (ZbJ c 0) (ZbJ c 1) (ZbJ c 2) (ZbJ c 3) 0 0 none 0 []
theorem Zdu(c j:Nat):0<=ZbJ c j/\ZbJ c j < 18446744073709551616:=by
 unfold ZbJ
 split
 ·have h:(2:Nat) ^ (c % 64) < 2 ^ 64:=Nat.pow_lt_pow_right (by omega) (by omega)
  have e:(2:Nat) ^ 64=18446744073709551616:=by decide
  rw[e]at h
  generalize (2:Nat) ^ (c % 64)=w at *
  exact⟨by omega,by omega⟩
 ·omega
theorem ZeZ(c:Nat)(m:Mem):Rep m (Za4 c):=by
 simp only[Za4,Rep]
 exact⟨by simp,.inl trivial,⟨by omega,Zdu c 0,Zdu c 1,Zdu c 2,Zdu c 3,by omega,by omega⟩⟩
def RepL(m:Mem)(a:Option Addr)(l:List T):Prop:=l.length<=1000000000000000/\(l=[]\/∃b o,a=some ⟨b,o,none⟩/\RepAt m b o l)
theorem RepL.mono{m m':Mem}{a l}(h:RepL m a l)(hm:m.le m'):RepL m' a l:=by
 refine⟨h.1,?_⟩
 rcases h.2 with h|⟨b,o,h1,h2⟩
 ·exact .inl h
 ·exact .inr ⟨b,o,h1,h2.mono hm⟩
theorem Rep.subs{m:Mem}{t:T}(h:Rep m t):RepL m t.a t.subs:=ZcQ h
def Zbg(k mn mx:Int)(a:Option Addr)(c:Nat)(l:List T):T:=.node k 0 0 0 0 mn mx a c l
theorem ZbB{m:Mem}{k mn mx:Int}{a:Option Addr}{c:Nat}{l:List T}(h:RepL m a l)(hk:0<=k/\k < 256)(h1 : -9223372036854775808<=mn/\mn<=9223372036854775807)(h2 : -9223372036854775808<=mx/\mx<=9223372036854775807):Rep m (Zbg k mn mx a c l):=by
 simp only[Zbg,Rep]
 exact⟨h.1,h.2,⟨hk,by omega,by omega,by omega,by omega,h1,h2⟩⟩
theorem Zoe{m:Mem}{b:Nat}{t:T}(h:m.reads b 0 t.cs)(hr:Rep m t):RepL m (some ⟨b,0,none⟩) [t]:=⟨by simp,.inr ⟨b,0,rfl,by simp only[RepAt];exact⟨h,hr,trivial⟩⟩⟩
def Zcg(l:List T):List Value:=(l.map T.cs).flatten
theorem ZaG(l:List T):(Zcg l).length=l.length*8:=by
 induction l with
 | nil=>rfl
 | cons t l ih=>simp[Zcg,T.cs]at ih ⊢;omega
theorem ZaH(l r:List T):Zcg (l++r)=Zcg l++Zcg r:=by simp[Zcg]
theorem Zof{m:Mem}{b:Nat}:∀{o:Nat} {l:List T},m.reads b o (Zcg l)->(∀t∈l,Rep m t)->RepAt m b o l
 | o,[],_,_=>by simp only[RepAt]
 | o,t::l,h,hr=>by
  simp only[RepAt]
  refine⟨λj v hj=>?_,hr t (by simp),Zof (λj v hj=>?_) λx hx=>hr x (by simp[hx])⟩
  ·refine h j v ?_
   simp only[Zcg,List.map_cons,List.flatten_cons]
   rw[zA5 (zA0 hj).1];exact hj
  ·have:=h (8+j) v (by
    simp only[Zcg,List.map_cons,List.flatten_cons]
    rw[zA4 (by simp[T.cs])]
    have e:8+j - t.cs.length=j:=by simp[T.cs]
    rw[e];exact hj)
   rw[show o+8+j=o+(8+j) by omega];exact this
theorem Zqp{m:Mem}{a:Option Addr}{l:List T}(h:rowRd m a (Zcg l))(hr:∀t∈l,Rep m t)(hl:l.length<=1000000000000000):RepL m a l:=by
 refine⟨hl,?_⟩
 cases l with
 | nil=>exact .inl rfl
 | cons t l=>
  rcases h with h|⟨b,o,h1,h2⟩
  ·simp[Zcg,T.cs]at h
  ·exact .inr ⟨b,o,h1,Zof h2 hr⟩
theorem ZhW{m:Mem}{a:Option Addr}{l:List T}(h:RepL m a l):rowRd m a (Zcg l):=by
 have key:∀(l:List T)(b o:Nat),RepAt m b o l->m.reads b o (Zcg l):=by
  intro l
  induction l with
  | nil=>intro b o _ j v hj;simp[Zcg]at hj
  | cons t l ih=>
   intro b o hr j v hj
   simp only[RepAt]at hr
   simp only[Zcg,List.map_cons,List.flatten_cons]at hj
   by_cases aH:j < 8
   ·rw[zA5 (by simpa[T.cs]using aH)]at hj
    exact hr.1 j v hj
   ·rw[zA4 (by simp[T.cs];omega)]at hj
    have:=ih b (o+8) hr.2.2 (j - 8) v (by simpa[T.cs,Zcg]using hj)
    rw[show o+8+(j - 8)=o+j by omega]at this;exact this
 rcases h.2 with h|⟨b,o,h1,h2⟩
 ·subst h;exact .inl rfl
 ·exact .inr ⟨b,o,h1,key l b o h2⟩
theorem Zpo{m:Mem}{a:Option Addr}{l:List T}(h:RepL m a l):∀t∈l,Rep m t:=by
 rcases h.2 with h|⟨b,o,_,h⟩
 ·subst h;simp
 ·intro t ht
  obtain⟨i,hi⟩:=List.getElem?_of_mem ht
  exact(h.get hi).2
def ZuF(j:Nat)(w c:Nat):Nat:=if c / 64=j then w|||2 ^ (c % 64)else w
def Zp7(bs:List Nat)(j:Nat):Nat:=bs.foldl (ZuF j) 0
theorem Zpp(l:List Nat)(c j:Nat):Zp7 (l++[c]) j=if c / 64=j then Zp7 l j|||2 ^ (c % 64)else Zp7 l j:=by
 unfold Zp7
 rw[List.foldl_append];rfl
theorem Zqq(l:List Nat)(j:Nat):Zp7 l j < 18446744073709551616:=by
 have key:∀(l:List Nat)(w:Nat),w < 2 ^ 64->l.foldl (ZuF j) w < 2 ^ 64:=by
  intro l
  induction l with
  | nil=>intro w h;exact h
  | cons c l ih=>
   intro w h
   refine ih _ ?_
   unfold ZuF
   split
   ·exact Nat.or_lt_two_pow h (Nat.pow_lt_pow_right (by omega) (by omega))
   ·exact h
 exact key l 0 (by decide)
def ZiB(bs:List Nat):T:=.node 2 (Zp7 bs 0:Nat) (Zp7 bs 1:Nat) (Zp7 bs 2:Nat) (Zp7 bs 3:Nat) 0 0 none 0 []
theorem ZlE(bs:List Nat)(m:Mem):Rep m (ZiB bs):=by
 simp only[ZiB,Rep]
 have h:=Zqq bs
 exact⟨by simp,.inl trivial,⟨by omega,⟨by omega,by have:=h 0;omega⟩,⟨by omega,by have:=h 1;omega⟩,⟨by omega,by have:=h 2;omega⟩,⟨by omega,by have:=h 3;omega⟩,by omega,by omega⟩⟩
def Zqr(bs:List Nat):List Value:=[.int .u64 (Zp7 bs 0:Nat),.int .u64 (Zp7 bs 1:Nat),.int .u64 (Zp7 bs 2:Nat),.int .u64 (Zp7 bs 3:Nat)]
theorem Zpq(bs:List Nat){j:Nat}(h:j < 4):(Zqr bs)[j]?=some (.int .u64 (Zp7 bs j:Nat)):=by
 have:j=0\/j=1\/j=2\/j=3:=by omega
 rcases this with rfl|rfl|rfl|rfl <;> rfl
theorem Zm6(l:List Nat){c j:Nat}(hj:c / 64=j)(h:j < 4):Zaw (Zqr l) j [.int .u64 ((Zp7 l j|||2 ^ (c % 64):Nat):Int)]=Zqr (l++[c]):=by
 unfold Zqr
 simp only[Zpp,hj]
 have:j=0\/j=1\/j=2\/j=3:=by omega
 rcases this with rfl|rfl|rfl|rfl <;> rfl
def ZcW(n:Nat):List Nat:=([[97],[98],[97,98],[97],[98],[99],[97,98,99],[98,99],[10],[0,255],[97],[98]][n % 12]?).getD []
def T.good(t:T):Bool:=t.nodes.all T.right
def isG(t:T):Bool:=t.k == 6
theorem Zjy(p:T->Bool):∀l:List T,(Zap l).all p=l.all λt=>t.nodes.all p
 | []=>rfl
 | t::l=>by simp only[Zap,List.all_append,List.all_cons,Zjy p l]
theorem ZlF(t:T):t.good=(t.right&&t.subs.all T.good):=by
 unfold T.good;rw[Zbb,List.all_cons,Zjy]
def grL(l:List T):Nat:=(Zap l).countP isG
def szL(l:List T):Nat:=(Zap l).length
def T.gr(t:T):Nat:=t.nodes.countP isG
theorem ZaI(l r:List T):szL (l++r)=szL l+szL r:=by unfold szL;rw[Zcz,zA1]
theorem Zbt(l r:List T):grL (l++r)=grL l+grL r:=by unfold grL;rw[Zcz,List.countP_append]
theorem Zbj(t:T):szL [t]=t.nodes.length:=by simp[szL,Zap]
theorem ZcR(t:T):grL [t]=t.gr:=by simp[grL,Zap,T.gr]
theorem ZbT(t:T):ZcA [t]=t.pos:=by simp[ZcA]
theorem ZiC(t:T)(l:List T):szL (t::l)=t.nodes.length+szL l:=by simp[szL,Zap]
theorem Zog(t:T)(l:List T):grL (t::l)=t.gr+grL l:=by simp[grL,Zap,T.gr,List.countP_append]
theorem Zqs(t:T):t.nodes.length=1+szL t.subs:=by rw[Zbb,List.length_cons,szL];omega
theorem Zsw(t:T):t.gr=(if isG t=true then 1 else 0)+grL t.subs:=by
 unfold T.gr;rw[Zbb,List.countP_cons,grL];omega
theorem Zqt(l:List T):l.length<=szL l:=by
 induction l with
 | nil=>simp
 | cons t l ih=>rw[ZiC,Zqs,List.length_cons];omega
def Zbk(k:Int)(t:T):List T:=if t.k=k then t.subs else if k=3/\t.k=1 then[]else[t]
def ZfH(k:Int)(a:Option Addr)(c:Nat):List T->T
 | []=>T1
 | [x]=>x
 | x::y::l=>Zbg k 0 0 a c (x::y::l)
theorem ZiD{t:T}{k:Int}(h:t.has k=false):∀x∈t.subs,x.k≠k:=by
 intro x hx e
 unfold T.has at h
 have:=List.any_eq_false.1 h x hx
 simp[e]at this
theorem Zrj{t:T}{k:Int}(h:∀x∈t.subs,x.k≠k):t.has k=false:=by
 unfold T.has
 rw[List.any_eq_false]
 intro x hx
 have:=h x hx
 simpa using this
theorem ZiE{k:Int}{t:T}(hk:k=3\/k=4)(hg:t.good=true)(hp:t.pos<=10000):(∀x∈Zbk k t,x.good=true/\x.k≠k/\(k=3->x.k≠1))/\szL (Zbk k t)<=t.nodes.length/\grL (Zbk k t)<=t.gr/\ZcA (Zbk k t)<=t.pos:=by
 have hg':=hg
 rw[ZlF,zA7,List.all_eq_true]at hg'
 unfold Zbk
 split
 ·rename_i dG
  refine⟨λx hx=>⟨hg'.2 x hx,?_⟩,by rw[Zqs];omega,by rw[Zsw];omega,?_⟩
  ·have hr:=hg'.1
   unfold T.right at hr
   rw[zA7]at hr
   have hr:=hr.2
   rcases hk with rfl|rfl
   ·simp only[dG]at hr
    simp at hr
    exact⟨ZiD hr.2.2 x hx,λ_=>ZiD hr.2.1 x hx⟩
   ·simp only[dG]at hr
    simp at hr
    exact⟨ZiD hr.2 x hx,λh=>by omega⟩
  ·rw[Zm5]at hp ⊢
   have h5:¬t.k=5:=by omega
   have h2:¬t.k=2:=by omega
   unfold Zrh at hp ⊢
   rw[if_neg h5,if_neg h2,Int.zero_add]at hp ⊢
   unfold Zj6 at hp ⊢
   split at hp
   ·omega
   ·split <;> omega
 ·rename_i dG
  split
  ·refine⟨λx hx=>by simp at hx,by simp[szL,Zap],by simp[grL,Zap],?_⟩
   simp only[ZcA];exact(ZeY t).1
  ·rename_i vF
   refine⟨λx hx=>?_,by rw[Zbj];exact Nat.le_refl _,by rw[ZcR];exact Nat.le_refl _,by rw[ZbT];exact Int.le_refl _⟩
   simp at hx;subst hx
   exact⟨hg,dG,λh=>λh1=>vF ⟨h,h1⟩⟩
theorem ZlG{k:Int}(hk:k=3\/k=4)(a:Option Addr)(c:Nat):∀{l:List T},(∀x∈l,x.good=true/\x.k≠k/\(k=3->x.k≠1))->(ZfH k a c l).good=true/\(ZfH k a c l).nodes.length<=1+szL l/\(ZfH k a c l).gr<=grL l/\(ZfH k a c l).pos<=ZcA l
 | [],_=>⟨show T1.good=true by decide,show T1.nodes.length<=1 by decide,show T1.gr<=0 by decide,show T1.pos<=0 by decide⟩
 | [x],h=>by
  rw[Zbj,ZcR,ZbT]
  exact⟨(h x (by simp)).1,by show x.nodes.length<=_;omega,Nat.le_refl _,Int.le_refl _⟩
 | x::y::l,h=>by
  show(Zbg k 0 0 a c (x::y::l)).good=true/\(Zbg k 0 0 a c (x::y::l)).nodes.length<=_/\(Zbg k 0 0 a c (x::y::l)).gr<=_/\(Zbg k 0 0 a c (x::y::l)).pos<=_
  have hs:(Zbg k 0 0 a c (x::y::l)).subs=x::y::l:=rfl
  have dG:(Zbg k 0 0 a c (x::y::l)).k=k:=rfl
  have hz:(Zbg k 0 0 a c (x::y::l)).setZ=true:=rfl
  have uj:(Zbg k 0 0 a c (x::y::l)).mn=0:=rfl
  have je:(Zbg k 0 0 a c (x::y::l)).mx=0:=rfl
  refine⟨?_,by rw[Zqs,hs];exact Nat.le_refl _,?_,?_⟩
  ·rw[ZlF,zA7,List.all_eq_true,hs]
   refine⟨?_,λz hz=>(h z hz).1⟩
   have h1:k=3->(Zbg k 0 0 a c (x::y::l)).has 1=false:=λe=>Zrj λz hz=>(h z hz).2.2 e
   have h2:(Zbg k 0 0 a c (x::y::l)).has k=false:=Zrj λz hz=>(h z hz).2.1
   unfold T.right
   rw[dG,hz,uj,je,hs]
   rcases hk with rfl|rfl
   ·simp[h1 rfl,h2]
   ·simp[h2]
  ·rw[Zsw,hs,isG,dG]
   rcases hk with rfl|rfl <;> simp
  ·rw[Zm5,dG,uj,je,hs]
   unfold Zrh
   rw[if_neg (by omega),if_neg (by omega),Int.zero_add]
   exact(Zjx _ _).1
structure J (i:Nat)(ts:List T)(u g:Nat):Prop where
 good:∀t∈ts,t.good=true
 sz:szL ts<=i
 pos:ZcA ts<=(i*u:Nat)
 u1:1<=u
 u16:u<=16
 gr:grL ts<=g
 g9:g<=9
theorem J.zero:J 0 [] 1 0:=⟨by simp,by simp[szL,Zap],by simp[ZcA],by omega,by omega,by simp[grL,Zap],by omega⟩
theorem J.skip{i ts u g}(h:J i ts u g):J (i+1) ts u g:=
 ⟨h.good,by have:=h.sz;omega,by have:=h.pos;have e:(i+1)*u=i*u+u:=Nat.succ_mul i u;rw[e];omega,h.u1,h.u16,h.gr,h.g9⟩
theorem J.push{i ts u g}(h:J i ts u g){t:T}(hg:t.good=true)(hs:t.nodes.length=1)(hp:t.pos<=1)(hr:t.gr=0):J (i+1) (ts++[t]) u g:=by
 refine⟨λx hx=>?_,?_,?_,h.u1,h.u16,?_,h.g9⟩
 ·rcases List.mem_append.1 hx with hx|hx
  ·exact h.good x hx
  ·simp at hx;subst hx;exact hg
 ·rw[ZaI,Zbj,hs];have:=h.sz;omega
 ·rw[ZaT,ZbT];have:=h.pos;have:=h.u1;have e:(i+1)*u=i*u+u:=Nat.succ_mul i u;rw[e];omega
 ·rw[Zbt,ZcR,hr];have:=h.gr;omega
theorem J.pos400{i ts u g}(h:J i ts u g)(hi:i<=25):ZcA ts<=400:=by
 have h1:=h.pos
 have:i*u<=25*16:=Nat.mul_le_mul hi h.u16
 omega
theorem J.join{i ts u g}{x y:T}(h:J i (ts++[x,y]) u g)(hi:i<=25){k:Int}(hk:k=3\/k=4)(a:Option Addr)(c:Nat):J (i+1) (ts++[ZfH k a c (Zbk k x++Zbk k y)]) u g:=by
 have h4:=h.pos400 hi
 have hz:=h.sz
 have hp:=h.pos
 have k9:=h.gr
 rw[show ts++[x,y]=ts++([x]++[y]) from rfl]at h4 hz hp k9
 rw[ZaT,ZaT,ZbT,ZbT]at h4 hp
 rw[ZaI,ZaI,Zbj,Zbj]at hz
 rw[Zbt,Zbt,ZcR,ZcR]at k9
 have n1:=ZdV ts
 have n2:=(ZeY x).1
 have n3:=(ZeY y).1
 obtain⟨a1,a2,a3,a4⟩:=ZiE hk (h.good x (by simp)) (by omega)
 obtain⟨b1,b2,b3,b4⟩:=ZiE hk (h.good y (by simp)) (by omega)
 obtain⟨c1,c2,c3,c4⟩:=ZlG hk a c (l:=Zbk k x++Zbk k y) (λz hz=>by
  rcases List.mem_append.1 hz with hz|hz
  ·exact a1 z hz
  ·exact b1 z hz)
 rw[ZaI]at c2
 rw[Zbt]at c3
 rw[ZaT]at c4
 refine⟨λz hz=>?_,?_,?_,h.u1,h.u16,?_,h.g9⟩
 ·rcases List.mem_append.1 hz with hz|hz
  ·exact h.good z (by simp[hz])
  ·simp at hz;subst hz;exact c1
 ·rw[ZaI,Zbj];omega
 ·rw[ZaT,ZbT];have e:(i+1)*u=i*u+u:=Nat.succ_mul i u;rw[e];omega
 ·rw[Zbt,ZcR];omega
theorem J.group{i ts u g}{x:T}(h:J i (ts++[x]) u g)(hg:g < 9)(a:Option Addr)(c:Nat):J (i+1) (ts++[Zbg 6 0 0 a c [x]]) u (g+1):=by
 have hz:=h.sz
 have hp:=h.pos
 have k9:=h.gr
 rw[ZaT,ZbT]at hp
 rw[ZaI,Zbj]at hz
 rw[Zbt,ZcR]at k9
 have hs:(Zbg 6 0 0 a c [x]).subs=[x]:=rfl
 refine⟨λz hz=>?_,?_,?_,h.u1,h.u16,?_,by omega⟩
 ·rcases List.mem_append.1 hz with hz|hz
  ·exact h.good z (by simp[hz])
  ·simp at hz;subst hz
   rw[ZlF,zA7,List.all_eq_true]
   refine⟨rfl,λz hz=>?_⟩
   rw[hs]at hz;simp at hz;subst hz
   exact h.good z (by simp)
 ·rw[ZaI,Zbj,Zqs,hs,Zbj];omega
 ·rw[ZaT,ZbT,Zm5,hs,ZbT]
  have:Zrh (Zbg 6 0 0 a c [x]).k (Zbg 6 0 0 a c [x]).mn (Zbg 6 0 0 a c [x]).mx ((if(Zbg 6 0 0 a c [x]).k=2 then 1 else 0)+x.pos)<=x.pos:=by
   show Zj6 (if(6:Int)=5 then _ else(if(6:Int)=2 then 1 else 0)+x.pos) 10001<=_
   rw[if_neg (by omega),if_neg (by omega),Int.zero_add]
   exact(Zjx _ _).1
  have e:(i+1)*u=i*u+u:=Nat.succ_mul i u
  rw[e];omega
 ·rw[Zbt,ZcR,Zsw,hs,ZcR]
  split <;> omega
theorem J.rep{i ts u g}{x:T}(h:J i (ts++[x]) u g)(hx:x.k≠1){mn mx:Int}(hb:Zdi mn mx=true){w:Nat}(hw:Zri mn mx<=w)(h1:1<=w)(hu:u*w<=16)(a:Option Addr)(c:Nat):J (i+1) (ts++[Zbg 5 mn mx a c [x]]) (u*w) g:=by
 have hz:=h.sz
 have hp:=h.pos
 have k9:=h.gr
 rw[ZaT,ZbT]at hp
 rw[ZaI,Zbj]at hz
 rw[Zbt,ZcR]at k9
 have hs:(Zbg 5 mn mx a c [x]).subs=[x]:=rfl
 have n1:=ZdV ts
 have n2:=(ZeY x).1
 refine⟨λz hz=>?_,?_,?_,?_,hu,?_,h.g9⟩
 ·rcases List.mem_append.1 hz with hz|hz
  ·exact h.good z (by simp[hz])
  ·simp at hz;subst hz
   rw[ZlF,zA7,List.all_eq_true]
   refine⟨?_,λz hz=>?_⟩
   ·have hh:(Zbg 5 mn mx a c [x]).has 1=false:=Zrj λz hz=>by rw[hs]at hz;simp at hz;subst hz;exact hx
    unfold T.right
    rw[hh,hs,show(Zbg 5 mn mx a c [x]).k=5 from rfl,show(Zbg 5 mn mx a c [x]).setZ=true from rfl,show(Zbg 5 mn mx a c [x]).mn=mn from rfl,show(Zbg 5 mn mx a c [x]).mx=mx from rfl,hb]
    simp
   ·rw[hs]at hz;simp at hz;subst hz
    exact h.good z (by simp)
 ·rw[ZaI,Zbj,Zqs,hs,Zbj];omega
 ·rw[ZaT,ZbT,Zm5,hs,ZbT]
  have key:Zrh (Zbg 5 mn mx a c [x]).k (Zbg 5 mn mx a c [x]).mn (Zbg 5 mn mx a c [x]).mx ((if(Zbg 5 mn mx a c [x]).k=2 then 1 else 0)+x.pos)<=x.pos*w:=by
   show Zj6 (if(5:Int)=5 then((if(5:Int)=2 then 1 else 0)+x.pos)*Zri mn mx else _) 10001<=_
   rw[if_pos rfl,if_neg (by omega),Int.zero_add]
   exact Int.le_trans (Zjx _ _).1 (Int.mul_le_mul_of_nonneg_left hw n2)
  have k2:ZcA ts<=ZcA ts*w:=by
   have:=Int.mul_le_mul_of_nonneg_left (show(1:Int)<=w by omega) n1
   rw[Int.mul_one]at this;exact this
  have k3:(ZcA ts+x.pos)*w<=((i*u:Nat):Int)*w:=Int.mul_le_mul_of_nonneg_right hp (by omega)
  rw[Int.add_mul]at k3
  have e:(i+1)*(u*w)=i*u*w+u*w:=by rw[Nat.succ_mul,Nat.mul_assoc]
  have e2:(((i*u:Nat):Int)*w)=((i*u*w:Nat):Int):=by push_cast;rfl
  rw[e2]at k3
  rw[e]
  generalize i*u*w=A at *
  generalize u*w=B at *
  generalize ZcA ts*(w:Int)=D at *
  generalize x.pos*(w:Int)=F at *
  omega
 ·have:=Nat.mul_le_mul h.u1 h1;omega
 ·rw[Zbt,ZcR,Zsw,hs,ZcR,isG,show(Zbg 5 mn mx a c [x]).k=5 from rfl]
  simp;omega
structure F (t:T)(l:List T):Prop where
 good:t.good=true
 goods:∀x∈l,x.good=true
 sz:t.nodes.length+szL l+l.length<=60
 pos:t.pos+ZcA l<=400
 gr:t.gr+grL l<=9
theorem F.start{i u g}{t:T}{l:List T}(h:J i (t::l) u g)(hi:i<=25):F t l:=by
 have h1:=h.sz
 have h2:=h.pos400 hi
 have h3:=h.gr
 rw[ZiC]at h1
 rw[Zog]at h3
 have:=Zqt l
 have:=h.g9
 exact⟨h.good t (by simp),λx hx=>h.good x (by simp[hx]),by omega,by simpa[ZcA]using h2,by omega⟩
theorem F.step{t x:T}{l:List T}(h:F t (x::l))(a:Option Addr)(c:Nat):F (ZfH 4 a c (Zbk 4 t++Zbk 4 x)) l:=by
 have h1:=h.sz
 have h2:=h.pos
 have h3:=h.gr
 rw[ZiC,List.length_cons]at h1
 rw[Zog]at h3
 simp only[ZcA]at h2
 have n1:=ZdV l
 have n2:=(ZeY x).1
 have n3:=(ZeY t).1
 obtain⟨a1,a2,a3,a4⟩:=ZiE (.inr rfl) h.good (by omega) (t:=t)
 obtain⟨b1,b2,b3,b4⟩:=ZiE (.inr rfl) (h.goods x (by simp)) (by omega)
 obtain⟨c1,c2,c3,c4⟩:=ZlG (.inr rfl) a c (l:=Zbk 4 t++Zbk 4 x) (λz hz=>by
  rcases List.mem_append.1 hz with hz|hz
  ·exact a1 z hz
  ·exact b1 z hz)
 rw[ZaI]at c2
 rw[Zbt]at c3
 rw[ZaT]at c4
 exact⟨c1,λz hz=>h.goods z (by simp[hz]),by omega,by omega,by omega⟩
theorem F.done{t:T}{l:List T}(h:F t l):t.check=0:=by
 have h1:=h.sz
 have h2:=h.pos
 have h3:=h.gr
 have n1:=ZdV l
 have hl:t.light=true:=by unfold T.light;exact decide_eq_true (by omega)
 have hc:t.clean=true:=by unfold T.clean;rw[hl];exact h.good
 have hg:((t.nodes.countP λx=>x.k == 6:Nat))=t.gr:=rfl
 unfold T.check
 rw[hc]
 unfold T.size T.positions T.groups
 rw[hl,hg]
 simp only[if_true,Bool.true_eq_false,if_false]
 rw[if_neg (by omega),if_neg (by omega),if_neg (by omega)]
theorem Zoh(n:Nat):(ZiB (ZcW n)).good=true/\(ZiB (ZcW n)).nodes.length=1/\(ZiB (ZcW n)).pos<=1/\(ZiB (ZcW n)).gr=0:=by
 have h:n % 12=0\/n % 12=1\/n % 12=2\/n % 12=3\/n % 12=4\/n % 12=5\/n % 12=6\/n % 12=7\/n % 12=8\/n % 12=9\/n % 12=10\/n % 12=11:=by omega
 unfold ZcW
 rcases h with e|e|e|e|e|e|e|e|e|e|e|e <;> rw[e] <;> exact⟨by decide,by decide,by decide,by decide⟩
theorem Zsx:T1.good=true/\T1.nodes.length=1/\T1.pos<=1/\T1.gr=0:=⟨by decide,by decide,by decide,by decide⟩
theorem ZdW{k:Int}{t:T}:(Zbk k t).length<=t.nodes.length:=by
 unfold Zbk
 have:=Zqo t
 have:=Zqs t
 split
 ·omega
 ·split <;> simp <;> omega
def bwL(f:Nat):List Value:=[.int .u64 (wdN f 0:Nat),.int .u64 (wdN f 1:Nat),.int .u64 (wdN f 2:Nat),.int .u64 (wdN f 3:Nat),.int .u64 (wdN f 4:Nat),.int .u64 (wdN f 5:Nat),.int .u64 (wdN f 6:Nat)]
def bwV(f:Nat):Value:=.agg #[.int .u64 (wdN f 0:Nat),.int .u64 (wdN f 1:Nat),.int .u64 (wdN f 2:Nat),.int .u64 (wdN f 3:Nat),.int .u64 (wdN f 4:Nat),.int .u64 (wdN f 5:Nat),.int .u64 (wdN f 6:Nat)]
theorem Zjz{f j:Nat}(h:j < 7):(bwL f)[j]?=some (.int .u64 (wdN f j:Nat)):=by
 have:j=0\/j=1\/j=2\/j=3\/j=4\/j=5\/j=6:=by omega
 rcases this with rfl|rfl|rfl|rfl|rfl|rfl|rfl <;> rfl
theorem ZtA{f q r:Nat}(hq:q < 7)(hr:r < 64):Zaw (bwL f) q [.int .u64 ((wdN f q|||2 ^ r:Nat):Int)]=bwL (f|||2 ^ (64*q+r)):=by
 unfold bwL
 simp only[Zss,Zst hr]
 have:q=0\/q=1\/q=2\/q=3\/q=4\/q=5\/q=6:=by omega
 rcases this with rfl|rfl|rfl|rfl|rfl|rfl|rfl <;> simp[Zaw,Nat.or_zero]
theorem ZjA:bwL 0=[.int .u64 0,.int .u64 0,.int .u64 0,.int .u64 0,.int .u64 0,.int .u64 0,.int .u64 0]:=by simp[bwL,wdN]
def orB(f g k:Nat):List Value:=(List.range 7).map λj=>.int .u64 ((if j < k then wdN (f|||g) j else wdN f j:Nat):Int)
theorem Zqu{f g k j:Nat}(h:j < 7):(orB f g k)[j]?=some (.int .u64 ((if j < k then wdN (f|||g) j else wdN f j:Nat):Int)):=by
 simp[orB,h]
theorem ZlH(f g k:Nat):(orB f g k).length=7:=by simp[orB]
theorem ZlI(f:Nat):(bwL f).length=7:=rfl
theorem Zoi{f g k:Nat}(h:k < 7):Zaw (orB f g k) k [.int .u64 ((wdN f k|||wdN g k:Nat):Int)]=orB f g (k+1):=by
 rw[<-Zss]
 have:k=0\/k=1\/k=2\/k=3\/k=4\/k=5\/k=6:=by omega
 rcases this with rfl|rfl|rfl|rfl|rfl|rfl|rfl <;> rfl
theorem ZgZ{A L B:List Value}{q:Nat}{v:Value}(h:q < L.length):Zaw (A++L++B) (A.length+q) [v]=A++Zaw L q [v]++B:=by
 simp only[Zaw,List.length_singleton]
 have h1:(A++L++B).take (A.length+q)=A++L.take q:=by
  rw[List.append_assoc,List.take_append,List.take_of_length_le (by omega),Nat.add_sub_cancel_left,List.take_append_of_le_length (by omega)]
 have h2:(A++L++B).drop (A.length+q+1)=L.drop (q+1)++B:=by
  rw[List.append_assoc,Nat.add_assoc,List.drop_append,List.drop_eq_nil_of_le (by omega),List.nil_append,Nat.add_sub_cancel_left,List.drop_append_of_le_length (by omega)]
 rw[h1,h2];simp
theorem ZlJ{A L B:List Value}{q:Nat}{v:Value}(h:L[q]?=some v):(A++L++B)[A.length+q]?=some v:=by
 have hq:=(zA0 h).1
 rw[List.append_assoc,zA4 (by omega),Nat.add_sub_cancel_left,zA5 hq,h]
def Zb1(f:Nat):List Nat:=(List.range 448).filter λi=>f.testBit i
theorem Zm7(f k:Nat)(h:k<=448):(Zb1 f).take (((List.range k).filter λi=>f.testBit i).length)=(List.range k).filter λi=>f.testBit i:=by
 have e:List.range 448=List.range k++(List.range 448).drop k:=by
  have:=(List.take_append_drop k (List.range 448)).symm
  rwa [List.take_range,Nat.min_eq_left h]at this
 unfold Zb1
 conv=>lhs;rw[e,List.filter_append]
 rw[List.take_left']
 rfl
theorem Zrk(f k:Nat)(h:k < 448)(hb:f.testBit k=true):(Zb1 f)[((List.range k).filter λi=>f.testBit i).length]?=some k:=by
 have h1:=Zm7 f (k+1) (by omega)
 have e:(List.range (k+1)).filter (λi=>f.testBit i)=(List.range k).filter (λi=>f.testBit i)++[k]:=by
  rw[List.range_succ,List.filter_append];simp[hb]
 rw[e]at h1
 have h2:=congrArg (λl=>l[((List.range k).filter λi=>f.testBit i).length]?) h1
 simpa[List.getElem?_take]using h2
theorem ZlK(f:Nat):(Zb1 f).length<=448:=by
 unfold Zb1
 exact Nat.le_trans (List.length_filter_le _ _) (by simp)
theorem ZiF{f i:Nat}:i∈Zb1 f↔i < 448/\f.testBit i=true:=by simp[Zb1]
theorem Zgl(f:Nat):(Zb1 f).Pairwise (· < ·):=(List.pairwise_lt_range (n:=448)).filter _
structure Pt where
 first:Nat
 last:Nat
 null:Bool
structure Ms where
 sets:List (Int×Int×Int×Int)
 fol:List Nat
def Pt.v(p:Pt):Value:=.agg #[.int .u64 (wdN p.first 0:Nat),.int .u64 (wdN p.first 1:Nat),.int .u64 (wdN p.first 2:Nat),.int .u64 (wdN p.first 3:Nat),.int .u64 (wdN p.first 4:Nat),.int .u64 (wdN p.first 5:Nat),.int .u64 (wdN p.first 6:Nat),.int .u64 (wdN p.last 0:Nat),.int .u64 (wdN p.last 1:Nat),.int .u64 (wdN p.last 2:Nat),.int .u64 (wdN p.last 3:Nat),.int .u64 (wdN p.last 4:Nat),.int .u64 (wdN p.last 5:Nat),.int .u64 (wdN p.last 6:Nat),.bool p.null]
def Pt.cs(p:Pt):List Value:=bwL p.first++bwL p.last++[Value.bool p.null]
theorem Pt.v_cs(p:Pt):p.v=.agg p.cs.toArray:=rfl
def ZcG(fol:List Nat)(a b:Nat):List Nat:=fol.mapIdx λi x=>if a.testBit i then x|||b else x
theorem ZiG(fol:List Nat)(a b:Nat):(ZcG fol a b).length=fol.length:=by simp[ZcG]
def ZrT(p q:Pt):Pt:=⟨if p.null then p.first|||q.first else p.first,if q.null then q.last|||p.last else q.last,p.null&&q.null⟩
def Zgm(p q:Pt)(s:Ms):Pt×Ms:=(ZrT p q,⟨s.sets,ZcG s.fol p.last q.first⟩)
def Zug(p q:Pt):Pt:=⟨p.first|||q.first,p.last|||q.last,p.null||q.null⟩
def Zky(f:Ms->Pt×Ms)(mn mx:Int)(n:Nat):Nat->Nat->Pt->Ms->Pt×Ms
 | 0,_,out,s=>(out,s)
 | q+1,i,out,s=>
  let x:=(f s).1
  let s1:=(f s).2
  let s2:Ms:=if mx=-1/\i+1=n then⟨s1.sets,ZcG s1.fol x.last x.first⟩ else s1
  let y:Pt:=⟨x.first,x.last,x.null||decide ((i:Int) ≥ mn)⟩
  Zky f mn mx n q (i+1) (Zgm out y s2).1 (Zgm out y s2).2
def Zpr(mn mx:Int):Nat:=(if mx=-1 then max mn 1 else mx).toNat
mutual
def mk:T->Ms->Pt×Ms
 | .node k s0 s1 s2 s3 mn mx _ _ l,s=>
  if k=0 then(⟨0,0,false⟩,s)
  else if k=1 then(⟨0,0,true⟩,s)
  else if k=2 then(⟨2 ^ s.sets.length,2 ^ s.sets.length,false⟩,⟨s.sets++[(s0,s1,s2,s3)],s.fol++[0]⟩)
  else if k=3 then ZeK l ⟨0,0,true⟩ s
  else if k=4 then ZdX l ⟨0,0,false⟩ s
  else if k=5 then Zky (λs=>ZiH l s) mn mx (Zpr mn mx) (Zpr mn mx) 0 ⟨0,0,true⟩ s
  else ZiH l s
def ZiH:List T->Ms->Pt×Ms
 | [],s=>(⟨0,0,false⟩,s)
 | t::_,s=>mk t s
def ZeK:List T->Pt->Ms->Pt×Ms
 | [],out,s=>(out,s)
 | t::l,out,s=>ZeK l (Zgm out (mk t s).1 (mk t s).2).1 (Zgm out (mk t s).1 (mk t s).2).2
def ZdX:List T->Pt->Ms->Pt×Ms
 | [],out,s=>(out,s)
 | t::l,out,s=>ZdX l (Zug out (mk t s).1) (mk t s).2
end
def Zbs(l:List (Int×Int×Int×Int)):List Value:=l.flatMap λq=>[.int .u64 q.1,.int .u64 q.2.1,.int .u64 q.2.2.1,.int .u64 q.2.2.2]
def ZcB(l:List Nat):List Value:=l.flatMap bwL
theorem Ze0(l:List (Int×Int×Int×Int)):(Zbs l).length=l.length*4:=by
 induction l with
 | nil=>rfl
 | cons a l ih=>simp only[Zbs,List.flatMap_cons,zA1,List.length_cons,List.length_nil]at *;omega
theorem Zgn(l:List Nat):(ZcB l).length=l.length*7:=by
 induction l with
 | nil=>rfl
 | cons a l ih=>simp only[ZcB,List.flatMap_cons,zA1,ZlI,List.length_cons]at *;omega
theorem Zps(l l':List (Int×Int×Int×Int)):Zbs (l++l')=Zbs l++Zbs l':=by simp[Zbs]
theorem Zpt(l l':List Nat):ZcB (l++l')=ZcB l++ZcB l':=by simp[ZcB]
def Yof(v0 v1:Value)(b:Nat):Prop:=(Tok.mk v0 4).blk=some b\/(Tok.mk v1 7).blk=some b
def RowOk(m:Mem)(v:Value)(k:Nat)(cs:List Value):Prop:=(k=0/\v=.slice none 0 0)\/∃b c,v=.slice (some ⟨b,0,none⟩) k c/\m.reads b 0 cs/\k≠0
structure MkRow (m:Mem)(v0 v1:Value)(s:Ms):Prop where
 row0:RowOk m v0 s.sets.length (Zbs s.sets)
 row1:RowOk m v1 s.fol.length (ZcB s.fol)
 ne:∀b,(Tok.mk v0 4).blk=some b->(Tok.mk v1 7).blk≠some b
structure MkOk (M0 m:Mem)(v0 v1:Value)(s:Ms):Prop extends MkRow m v0 v1 s where
 base:M0.le (m.off (Yof v0 v1))
theorem ZlL{m m':Mem}{Y Y':Nat->Prop}(h:(m.off Y).le m')(hn:∀b,Y' b->Y b\/m.free b):(m.off Y).le (m'.off Y'):=λb o v hv=>by
 unfold Mem.off at hv ⊢
 split at hv
 ·cases hv
 ·rename_i hY
  have:¬Y' b:=λh'=>by
   rcases hn b h' with h1|h1
   ·exact hY h1
   ·rw[h1 o]at hv;cases hv
  rw[if_neg this]
  have:=h b o v (by unfold Mem.off;rw[if_neg hY];exact hv)
  exact this
theorem MkOk.next{M0 m m':Mem}{v0 v1 v0' v1':Value}{s s':Ms}(h:MkOk M0 m v0 v1 s)(cA:(m.off (Yof v0 v1)).le m')(hn:∀b,Yof v0' v1' b->Yof v0 v1 b\/m.free b)(hr:MkRow m' v0' v1' s'):MkOk M0 m' v0' v1' s':=
 {hr with base:=mLt h.base (ZlL cA hn) }
theorem MkOk.free{M0 m:Mem}{v0 v1:Value}{s:Ms}(h:MkOk M0 m v0 v1 s){b:Nat}(hb:Yof v0 v1 b):M0.free b:=λo=>by
 cases he:M0 b o with
 | none=>rfl
 | some u=>
  have:=h.base b o u he
  unfold Mem.off at this
  rw[if_pos hb]at this;cases this
theorem MkOk.le{M0 m:Mem}{v0 v1:Value}{s:Ms}(h:MkOk M0 m v0 v1 s):M0.le m:=mLt h.base (Mem.off_le m _)
theorem RowOk.mono{m m':Mem}{v:Value}{k:Nat}{cs:List Value}(h:RowOk m v k cs)(hm:m.le m'):RowOk m' v k cs:=by
 rcases h with h|⟨b,c,h1,h2,h3⟩
 ·exact .inl h
 ·exact .inr ⟨b,c,h1,h2.mono hm,h3⟩
theorem MkRow.mono{m m':Mem}{v0 v1:Value}{s:Ms}(h:MkRow m v0 v1 s)(hm:m.le m'):MkRow m' v0 v1 s:=⟨h.row0.mono hm,h.row1.mono hm,h.ne⟩
theorem ZhX(l r:List Nat)(f:Nat):ZcB (l++f::r)=ZcB l++bwL f++ZcB r:=by simp[ZcB]
theorem Zoj{l:List Nat}{i f:Nat}(h:l[i]?=some f):ZcB l=ZcB (l.take i)++bwL f++ZcB (l.drop (i+1)):=by
 obtain⟨hi,hf⟩:=zA0 h
 have e:l=l.take i++f::l.drop (i+1):=by
  conv=>lhs;rw[<-List.take_append_drop i l]
  rw[List.drop_eq_getElem_cons hi,hf]
 conv=>lhs;rw[e]
 exact ZhX _ _ _
theorem Zpu{l:List Nat}{i f:Nat}(hi:i < l.length):ZcB (l.set i f)=ZcB (l.take i)++bwL f++ZcB (l.drop (i+1)):=by
 have e:l.set i f=l.take i++f::l.drop (i+1):=List.set_eq_take_append_cons_drop.trans (if_pos hi)
 rw[e];exact ZhX _ _ _
def Ze1(fol ds:List Nat)(b:Nat):List Nat:=fol.mapIdx λi x=>if i∈ds then x|||b else x
theorem Zpv(fol:List Nat)(b:Nat):Ze1 fol [] b=fol:=by
 unfold Ze1
 apply List.ext_getElem? λi=>?_
 simp
theorem Zpw{fol ds:List Nat}{b i x:Nat}(h:fol[i]?=some x)(hi:i ∉ ds):(Ze1 fol ds b)[i]?=some x:=by
 simp[Ze1,h,hi]
theorem Zm8{fol ds:List Nat}{b i x:Nat}(h:fol[i]?=some x)(hi:i ∉ ds):Ze1 fol (ds++[i]) b=(Ze1 fol ds b).set i (x|||b):=by
 apply List.ext_getElem? λj=>?_
 rw[List.getElem?_set]
 have aH:=(zA0 h).1
 by_cases e:i=j
 ·subst e
  have hx:=(zA0 h).2
  simp[Ze1,aH,hx]
 ·rw[if_neg e]
  have:j≠i:=λh=>e h.symm
  simp[Ze1,this]
theorem Zpx{fol ds:List Nat}{a b:Nat}(h:∀i,i < fol.length->(i∈ds↔a.testBit i=true)):Ze1 fol ds b=ZcG fol a b:=by
 unfold Ze1 ZcG
 apply List.ext_getElem? λj=>?_
 rw[List.getElem?_mapIdx,List.getElem?_mapIdx]
 cases hj:fol[j]? with
 | none=>rfl
 | some x=>
  have:=h j (zA0 hj).1
  simp only[Option.map_some,Option.some.injEq]
  by_cases hd:j∈ds
  ·rw[if_pos hd,if_pos (this.1 hd)]
  ·rw[if_neg hd,if_neg (λh=>hd (this.2 h))]
def PtIn(n:Nat)(p:Pt):Prop:=(∀i,p.first.testBit i=true->i < n)/\(∀i,p.last.testBit i=true->i < n)
structure MsOk (s:Ms):Prop where
 len:s.fol.length=s.sets.length
 fol:∀(j x:Nat),s.fol[j]?=some x->∀i,x.testBit i=true->i < s.sets.length
theorem PtIn.mono{n n':Nat}{p:Pt}(h:PtIn n p)(hn:n<=n'):PtIn n' p:=⟨λi hi=>Nat.lt_of_lt_of_le (h.1 i hi) hn,λi hi=>Nat.lt_of_lt_of_le (h.2 i hi) hn⟩
theorem Zbu(n:Nat)(b:Bool):PtIn n ⟨0,0,b⟩:=⟨λi hi=>by simp at hi,λi hi=>by simp at hi⟩
theorem Zm9{a b i:Nat}(h:(a|||b).testBit i=true):a.testBit i=true\/b.testBit i=true:=by
 simpa[Nat.testBit_or]using h
theorem MsOk.loop{s:Ms}(h:MsOk s)(a b:Nat)(hb:∀i,b.testBit i=true->i < s.sets.length):MsOk ⟨s.sets,ZcG s.fol a b⟩:=by
 refine⟨by simp[ZcG,h.len],λj x hj i hi=>?_⟩
 simp only[ZcG,List.getElem?_mapIdx]at hj
 obtain⟨y,hy,rfl⟩:=Option.map_eq_some_iff.1 hj
 by_cases gz:a.testBit j=true
 ·rw[if_pos gz]at hi
  rcases Zm9 hi with h1|h1
  ·exact h.fol j y hy i h1
  ·exact hb i h1
 ·rw[if_neg gz]at hi
  exact h.fol j y hy i hi
theorem Zrl{n:Nat}{p q:Pt}(hp:PtIn n p)(hq:PtIn n q):PtIn n (ZrT p q):=by
 obtain⟨pf,pl,pn⟩:=p
 obtain⟨qf,ql,qn⟩:=q
 constructor
 ·intro i hi
  cases pn
  ·exact hp.1 i hi
  ·rcases Zm9 hi with h|h
   ·exact hp.1 i h
   ·exact hq.1 i h
 ·intro i hi
  cases qn
  ·exact hq.2 i hi
  ·rcases Zm9 hi with h|h
   ·exact hq.2 i h
   ·exact hp.2 i h
theorem Zqv{n:Nat}{p q:Pt}(hp:PtIn n p)(hq:PtIn n q):PtIn n (Zug p q):=
 ⟨λi hi=>(Zm9 hi).elim (hp.1 i) (hq.1 i),λi hi=>(Zm9 hi).elim (hp.2 i) (hq.2 i)⟩
structure Grows (s:Ms)(r:Pt×Ms):Prop where
 le:s.sets.length<=r.2.sets.length
 ok:MsOk r.2
 pt:PtIn r.2.sets.length r.1
theorem ZdY{p q:Pt}{s:Ms}(h:MsOk s)(hp:PtIn s.sets.length p)(hq:PtIn s.sets.length q):Grows s (Zgm p q s):=
 ⟨Nat.le_refl _,h.loop _ _ hq.1,Zrl hp hq⟩
theorem Grows.trans{s s1:Ms}{p:Pt}{r:Pt×Ms}(h:Grows s (p,s1))(k:Grows s1 r):Grows s r:=⟨Nat.le_trans h.le k.le,k.ok,k.pt⟩
theorem Ze2{f:Ms->Pt×Ms}(hf:∀s,MsOk s->Grows s (f s))(mn mx:Int)(n:Nat):∀(q i:Nat)(out:Pt)(s:Ms),MsOk s->PtIn s.sets.length out->Grows s (Zky f mn mx n q i out s)
 | 0,i,out,s,h,hp=>⟨Nat.le_refl _,h,hp⟩
 | q+1,i,out,s,h,hp=>by
  unfold Zky
  have h1:=hf s h
  simp only
  generalize eU:(if mx=-1/\i+1=n then(⟨(f s).2.sets,ZcG (f s).2.fol (f s).1.last (f s).1.first⟩:Ms)else(f s).2)=s2
  have e:s2.sets=(f s).2.sets:=by rw[<-eU];split <;> rfl
  have h2:MsOk s2:=by
   rw[<-eU];split
   ·exact h1.ok.loop _ _ h1.pt.1
   ·exact h1.ok
  have cA:s.sets.length<=s2.sets.length:=by rw[e];exact h1.le
  have h3:Grows s2 (Zgm out ⟨(f s).1.first,(f s).1.last,(f s).1.null||decide ((i:Int) ≥ mn)⟩ s2):=ZdY h2 (hp.mono cA) (by rw[e];exact h1.pt)
  have h4:=Ze2 hf mn mx n q (i+1) _ _ h3.ok h3.pt
  exact⟨Nat.le_trans cA (Nat.le_trans h3.le h4.le),h4.ok,h4.pt⟩
theorem Zsy{n i:Nat}(h:(2 ^ n).testBit i=true):i=n:=by
 rw[Nat.testBit_two_pow]at h;exact(zA6 h).symm
theorem ZlM{s:Ms}(h:MsOk s)(q:Int×Int×Int×Int):Grows s (⟨2 ^ s.sets.length,2 ^ s.sets.length,false⟩,⟨s.sets++[q],s.fol++[0]⟩):=by
 refine⟨by simp,⟨by simp[h.len],λj x hj i hi=>?_⟩,?_,?_⟩
 ·rw[List.getElem?_append]at hj
  split at hj
  ·have:=h.fol j x hj i hi
   simp;omega
  ·have:=(zA0 hj)
   obtain⟨_,h2⟩:=this
   have:x=0:=by
    rw[List.getElem_singleton]at h2;exact h2.symm
   subst this;simp at hi
 ·intro i hi;have:=Zsy hi;simp;omega
 ·intro i hi;have:=Zsy hi;simp;omega
mutual
theorem ZcX:∀(t:T)(s:Ms),MsOk s->Grows s (mk t s)
 | .node k s0 s1 s2 s3 mn mx a c l,s,h=>by
  unfold mk
  split
  ·exact⟨Nat.le_refl _,h,Zbu _ _⟩
  split
  ·exact⟨Nat.le_refl _,h,Zbu _ _⟩
  split
  ·exact ZlM h _
  split
  ·exact ZdZ l _ s h (Zbu _ _)
  split
  ·exact Zd0 l _ s h (Zbu _ _)
  split
  ·exact Ze2 (λs h=>ZdG l s h) _ _ _ _ _ _ _ h (Zbu _ _)
  ·exact ZdG l s h
theorem ZdG:∀(l:List T)(s:Ms),MsOk s->Grows s (ZiH l s)
 | [],s,h=>by unfold ZiH;exact⟨Nat.le_refl _,h,Zbu _ _⟩
 | t::l,s,h=>by unfold ZiH;exact ZcX t s h
theorem ZdZ:∀(l:List T)(out:Pt)(s:Ms),MsOk s->PtIn s.sets.length out->Grows s (ZeK l out s)
 | [],out,s,h,hp=>by unfold ZeK;exact⟨Nat.le_refl _,h,hp⟩
 | t::l,out,s,h,hp=>by
  unfold ZeK
  have h1:=ZcX t s h
  have h2:=ZdY h1.ok (hp.mono h1.le) h1.pt
  have h3:=ZdZ l _ _ h2.ok h2.pt
  exact⟨Nat.le_trans h1.le (Nat.le_trans h2.le h3.le),h3.ok,h3.pt⟩
theorem Zd0:∀(l:List T)(out:Pt)(s:Ms),MsOk s->PtIn s.sets.length out->Grows s (ZdX l out s)
 | [],out,s,h,hp=>by unfold ZdX;exact⟨Nat.le_refl _,h,hp⟩
 | t::l,out,s,h,hp=>by
  unfold ZdX
  have h1:=ZcX t s h
  have h3:=Zd0 l _ _ h1.ok (Zqv (hp.mono h1.le) h1.pt)
  exact⟨Nat.le_trans h1.le h3.le,h3.ok,h3.pt⟩
end
theorem Zur(t:T)(s:Ms):mk t s=(if t.k=0 then(⟨0,0,false⟩,s)
  else if t.k=1 then(⟨0,0,true⟩,s)
  else if t.k=2 then(⟨2 ^ s.sets.length,2 ^ s.sets.length,false⟩,⟨s.sets++[(t.s0,t.s1,t.s2,t.s3)],s.fol++[0]⟩)
  else if t.k=3 then ZeK t.subs ⟨0,0,true⟩ s
  else if t.k=4 then ZdX t.subs ⟨0,0,false⟩ s
  else if t.k=5 then Zky (λs=>ZiH t.subs s) t.mn t.mx (Zpr t.mn t.mx) (Zpr t.mn t.mx) 0 ⟨0,0,true⟩ s
  else ZiH t.subs s):=by
 cases t;rw[mk];rfl
theorem Zna{l:List T}{k:Nat}{t:T}(h:l[k]?=some t)(out:Pt)(s:Ms):ZeK (l.drop k) out s=ZeK (l.drop (k+1)) (Zgm out (mk t s).1 (mk t s).2).1 (Zgm out (mk t s).1 (mk t s).2).2:=by
 obtain⟨hk,he⟩:=zA0 h
 rw[List.drop_eq_getElem_cons hk,he,ZeK]
theorem Znb{l:List T}{k:Nat}{t:T}(h:l[k]?=some t)(out:Pt)(s:Ms):ZdX (l.drop k) out s=ZdX (l.drop (k+1)) (Zug out (mk t s).1) (mk t s).2:=by
 obtain⟨hk,he⟩:=zA0 h
 rw[List.drop_eq_getElem_cons hk,he,ZdX]
theorem ZjB{f:Ms->Pt×Ms}{c:Nat}(hf:∀s,(f s).2.sets.length=s.sets.length+c)(mn mx:Int)(n:Nat):∀(q i:Nat)(out:Pt)(s:Ms),(Zky f mn mx n q i out s).2.sets.length=s.sets.length+q*c
 | 0,i,out,s=>by simp[Zky]
 | q+1,i,out,s=>by
  unfold Zky
  simp only
  rw[ZjB hf]
  have h2:(if mx=-1/\i+1=n then(⟨(f s).2.sets,ZcG (f s).2.fol (f s).1.last (f s).1.first⟩:Ms)else(f s).2).sets.length=s.sets.length+c:=by
   split <;> exact hf s
  show(Ms.sets _).length+_=_
  simp only[Zgm]
  rw[h2,Nat.add_mul];omega
theorem ZlN{x:Int}(h:Zj6 x 10001<=10000):Zj6 x 10001=x/\x<=10000:=by
 unfold Zj6 at *
 split at h
 ·omega
 ·rename_i h2;exact⟨if_neg h2,h⟩
theorem Zrm{mn mx:Int}(h:Zdi mn mx=true):Zj6 (if mx=-1 then Zjv (Zjv mn 0) 1 else Zjv (Zjv mn 0) mx) 10001=(Zpr mn mx:Nat)/\1<=Zpr mn mx:=by
 unfold Zdi at h
 simp only[zA7,Bool.not_eq_true',Bool.or_eq_false_iff,Bool.or_eq_true,decide_eq_false_iff_not,decide_eq_true_eq,beq_iff_eq]at h
 unfold Zpr Zj6 Zjv
 by_cases hm:mx=-1
 ·simp only[hm,if_true]
  split <;> split <;> split <;> omega
 ·simp only[hm,if_false]
  split <;> split <;> split <;> omega
theorem Zfz{t:T}(h:t.right=true):(t.k=1/\t.subs=[])\/(t.k=2/\t.subs=[]/\t.setZ=false)\/t.k=3\/t.k=4\/(t.k=5/\t.subs.length=1/\Zdi t.mn t.mx=true)\/(t.k=6/\t.subs.length=1):=by
 unfold T.right at h
 rw[zA7]at h
 obtain⟨h0,h2⟩:=h
 simp only[Bool.not_eq_true',Bool.or_eq_false_iff,Bool.and_eq_false_iff,decide_eq_false_iff_not]at h0
 have hz:t.k < 3->t.subs=[]:=λhk=>by
  have h1:=h0.2.2
  rcases h1 with h1|h1
  ·omega
  ·cases hs:t.subs with
   | nil=>rfl
   | cons a l=>rw[hs]at h1;simp at h1
 by_cases h1:t.k=1;· exact .inl ⟨h1,hz (by omega)⟩
 by_cases h3:t.k=2
 ·rw[if_neg h1,if_pos h3]at h2
  exact .inr (.inl ⟨h3,hz (by omega),by simpa using h2⟩)
 by_cases h4:t.k=3;· exact .inr (.inr (.inl h4))
 by_cases h5:t.k=4;· exact .inr (.inr (.inr (.inl h5)))
 by_cases h6:t.k=5
 ·rw[if_neg h1,if_neg h3,if_neg h4,if_neg h5,if_pos h6]at h2
  simp only[zA7,beq_iff_eq]at h2
  exact .inr (.inr (.inr (.inr (.inl ⟨h6,h2.1,h2.2.1⟩))))
 ·rw[if_neg h1,if_neg h3,if_neg h4,if_neg h5,if_neg h6]at h2
  simp only[zA7,beq_iff_eq]at h2
  exact .inr (.inr (.inr (.inr (.inr h2))))
mutual
theorem Zg0:∀(t:T),(∀x∈t.nodes,x.right=true)->t.pos<=10000->∀s:Ms,(mk t s).2.sets.length=s.sets.length+t.pos.toNat
 | .node k s0 s1 s2 s3 mn mx a c l,bR,hp,s=>by
  have hr:=Zfz (bR (.node k s0 s1 s2 s3 mn mx a c l) (by simp[T.nodes]))
  have hl:∀x∈Zap l,x.right=true:=λx hx=>bR x (by simp[T.nodes,hx])
  simp only[T.k,T.subs,T.mn,T.mx]at hr
  have vG:=ZdV l
  simp only[T.pos,Zrh]at hp ⊢
  rw[mk]
  rcases hr with⟨hk,hs⟩|⟨hk,hs,_⟩|hk|hk|⟨hk,h1,hb⟩|⟨hk,h1⟩
  ·subst hk hs;simp[ZcA,Zj6]
  ·subst hk hs;simp[ZcA,Zj6]
  ·subst hk
   have hq:=ZlN hp
   rw[hq.1]
   simp only[show ¬(3:Int)=0 by omega,show ¬(3:Int)=1 by omega,show ¬(3:Int)=2 by omega,show ¬(3:Int)=5 by omega,if_false,if_true,Int.zero_add]at hq ⊢
   exact ZhY l hl (by omega) _ s
  ·subst hk
   have hq:=ZlN hp
   rw[hq.1]
   simp only[show ¬(4:Int)=0 by omega,show ¬(4:Int)=1 by omega,show ¬(4:Int)=2 by omega,show ¬(4:Int)=3 by omega,show ¬(4:Int)=5 by omega,if_false,if_true,Int.zero_add]at hq ⊢
   exact ZhZ l hl (by omega) _ s
  ·subst hk
   have hq:=ZlN hp
   rw[hq.1]
   obtain⟨hF,rC⟩:=Zrm hb
   simp only[show ¬(5:Int)=0 by omega,show ¬(5:Int)=1 by omega,show ¬(5:Int)=2 by omega,show ¬(5:Int)=3 by omega,show ¬(5:Int)=4 by omega,if_false,if_true,Int.zero_add,hF]at hq ⊢
   have cA:ZcA l<=10000:=by
    have h2:ZcA l*1<=ZcA l*(Zpr mn mx:Nat):=Int.mul_le_mul_of_nonneg_left (by omega) vG
    omega
   have hf:=λs=>ZjC l h1 hl cA s
   rw[ZjB hf]
   obtain⟨z,hz⟩:∃z:Nat,ZcA l=z:=⟨(ZcA l).toNat,by omega⟩
   rw[hz,zA8,<-Int.natCast_mul,zA8,Nat.mul_comm]
  ·subst hk
   have hq:=ZlN hp
   rw[hq.1]
   simp only[show ¬(6:Int)=0 by omega,show ¬(6:Int)=1 by omega,show ¬(6:Int)=2 by omega,show ¬(6:Int)=3 by omega,show ¬(6:Int)=4 by omega,show ¬(6:Int)=5 by omega,if_false,if_true,Int.zero_add]at hq ⊢
   exact ZjC l h1 hl (by omega) s
theorem ZjC:∀(l:List T),l.length=1->(∀x∈Zap l,x.right=true)->ZcA l<=10000->∀s:Ms,(ZiH l s).2.sets.length=s.sets.length+(ZcA l).toNat
 | [],h,_,_,_=>by simp at h
 | [t],_,bR,hp,s=>by
  simp only[ZiH,ZcA,Int.add_zero]at hp ⊢
  exact Zg0 t (λx hx=>bR x (by simp[Zap,hx])) hp s
 | _::_::_,h,_,_,_=>by simp at h
theorem ZhY:∀(l:List T),(∀x∈Zap l,x.right=true)->ZcA l<=10000->∀(out:Pt)(s:Ms),(ZeK l out s).2.sets.length=s.sets.length+(ZcA l).toNat
 | [],_,_,out,s=>by simp[ZeK,ZcA]
 | t::l,bR,hp,out,s=>by
  have h1:=ZeY t
  have h2:=ZdV l
  simp only[ZeK,ZcA]at hp ⊢
  rw[ZhY l (λx hx=>bR x (by simp[Zap,hx])) (by omega)]
  show(mk t s).2.sets.length+_=_
  rw[Zg0 t (λx hx=>bR x (by simp[Zap,hx])) (by omega) s]
  omega
theorem ZhZ:∀(l:List T),(∀x∈Zap l,x.right=true)->ZcA l<=10000->∀(out:Pt)(s:Ms),(ZdX l out s).2.sets.length=s.sets.length+(ZcA l).toNat
 | [],_,_,out,s=>by simp[ZdX,ZcA]
 | t::l,bR,hp,out,s=>by
  have h1:=ZeY t
  have h2:=ZdV l
  simp only[ZdX,ZcA]at hp ⊢
  rw[ZhZ l (λx hx=>bR x (by simp[Zap,hx])) (by omega)]
  rw[Zg0 t (λx hx=>bR x (by simp[Zap,hx])) (by omega) s]
  omega
end
abbrev QS:=Int×Int×Int×Int
structure Nf where
 sets:List QS
 fol:List (List Int)
 first:List Int
 last:List Int
 empty:Bool
deriving DecidableEq
def Zan(l:List Int):List Value:=l.map λi=>.int .i64 i
theorem Zb3(l:List Int):(Zan l).length=l.length:=by simp[Zan]
def SlI(st:Bool)(l:List Int)(v:Value)(m:Mem):Prop:=∃a c,v=.slice a l.length c/\rowRd m a (Zan l)/\l.length<=1000000/\(st=true->l=[]->a=none)
def SlQ(st:Bool)(l:List QS)(v:Value)(m:Mem):Prop:=∃a c,v=.slice a l.length c/\rowRd m a (Zbs l)/\l.length<=1000000/\(st=true->l=[]->a=none)
def FolR(st:Bool)(fol:List (List Int))(v:Value)(m:Mem):Prop:=∃a c vs,v=.slice a fol.length c/\rowRd m a vs/\vs.length=fol.length/\fol.length<=1000000/\∀(i:Nat)(v:Value)(l:List Int),vs[i]?=some v->fol[i]?=some l->SlI st l v m
def NfR(st:Bool)(A:Nf)(v:Value)(m:Mem):Prop:=∃s f x y,v=.agg #[s,f,x,y,.bool A.empty]/\SlQ st A.sets s m/\FolR st A.fol f m/\SlI st A.first x m/\SlI st A.last y m
theorem SlI.mono{st:Bool}{l:List Int}{v:Value}{m m':Mem}(h:SlI st l v m)(k:m.le m'):SlI st l v m':=by
 obtain⟨a,c,h1,h2,h3⟩:=h;exact⟨a,c,h1,h2.mono k,h3⟩
theorem SlQ.mono{st:Bool}{l:List QS}{v:Value}{m m':Mem}(h:SlQ st l v m)(k:m.le m'):SlQ st l v m':=by
 obtain⟨a,c,h1,h2,h3⟩:=h;exact⟨a,c,h1,h2.mono k,h3⟩
theorem FolR.mono{st:Bool}{l:List (List Int)}{v:Value}{m m':Mem}(h:FolR st l v m)(k:m.le m'):FolR st l v m':=by
 obtain⟨a,c,vs,h1,h2,h3,h4,h5⟩:=h;exact⟨a,c,vs,h1,h2.mono k,h3,h4,λi v l hv hl=>(h5 i v l hv hl).mono k⟩
theorem NfR.mono{st:Bool}{A:Nf}{v:Value}{m m':Mem}(h:NfR st A v m)(k:m.le m'):NfR st A v m':=by
 obtain⟨s,f,x,y,h1,h2,h3,h4,h5⟩:=h;exact⟨s,f,x,y,h1,h2.mono k,h3.mono k,h4.mono k,h5.mono k⟩
theorem ZcY{m:Mem}{a:Option Addr}{l:List Int}(h:rowRd m a (Zan l)){i:Nat}{x:Int}(hx:l[i]?=some x):∃b o,a=some ⟨b,o,none⟩/\m b (o+i*1)=some (.int .i64 x):=by
 have hv:(Zan l)[i]?=some (.int .i64 x):=by simp[Zan,hx]
 rcases h with h|⟨b,o,h1,h2⟩
 ·rw[h]at hv;simp at hv
 ·exact⟨b,o,h1,by have:=h2 i _ hv;rwa [Nat.mul_one]⟩
theorem ZfA{m:Mem}{a:Option Addr}{l:List Value}(h:rowRd m a l){i:Nat}{x:Value}(hx:l[i]?=some x):∃b o,a=some ⟨b,o,none⟩/\m b (o+i*1)=some x:=by
 rcases h with h|⟨b,o,h1,h2⟩
 ·rw[h]at hx;simp at hx
 ·exact⟨b,o,h1,by have:=h2 i _ hx;rwa [Nat.mul_one]⟩
def qCs(q:QS):List Value:=[.int .u64 q.1,.int .u64 q.2.1,.int .u64 q.2.2.1,.int .u64 q.2.2.2]
theorem Zok{l:List QS}{i:Nat}{q:QS}(h:l[i]?=some q){j:Nat}{v:Value}(hv:(qCs q)[j]?=some v):(Zbs l)[i*4+j]?=some v:=by
 have hj:j < 4:=by have:=(zA0 hv).1;simpa[qCs]using this
 induction l generalizing i with
 | nil=>simp at h
 | cons a l ih=>
  show(qCs a++Zbs l)[i*4+j]?=some v
  cases i with
  | zero=>
   simp at h;subst h
   rw[Nat.zero_mul,Nat.zero_add,zA5 (by simpa[qCs]using hj)];exact hv
  | succ i=>
   rw[zA4 (by simp[qCs];omega)]
   have:=ih (by simpa using h)
   rw[show(i+1)*4+j - (qCs a).length=i*4+j by simp[qCs];omega];exact this
theorem ZiI{m:Mem}{a:Option Addr}{l:List QS}(h:rowRd m a (Zbs l)){i:Nat}{x:QS}(hx:l[i]?=some x):∃b o,a=some ⟨b,o,none⟩/\m.reads b (o+i*4) [.int .u64 x.1,.int .u64 x.2.1,.int .u64 x.2.2.1,.int .u64 x.2.2.2]:=by
 rcases h with h|⟨b,o,h1,h2⟩
 ·have:=Zok hx (j:=0) (v:=.int .u64 x.1) rfl
  rw[h]at this;simp at this
 ·refine⟨b,o,h1,λj v hv=>?_⟩
  have:=h2 _ _ (Zok hx hv)
  rwa [<-Nat.add_assoc]at this
def Zc6:List Int->Int->Int->Bool
 | [],_,_=>true
 | p::l,lo,hi=>decide (lo < p)&&(decide (p<=hi)&&Zc6 l p hi)
def zQ:QS:=(0,0,0,0)
def Nf.top(A:Nf):Int:=(A.sets.length:Int) - 1
def Nf.right(A:Nf):Bool:=
 decide (A.sets.length<=400)&&(decide (A.fol.length=A.sets.length)&&(Zc6 A.first (-1) A.top&&(Zc6 A.last (-1) A.top&&((A.fol.zip A.sets).all λp=>Zc6 p.1 (-1) A.top&&!(p.2 == zQ)))))
theorem ZbH{l:List Int}:∀{lo hi:Int},Zc6 l lo hi=true↔(l.Pairwise (· < ·)/\∀x∈l,lo < x/\x<=hi):=by
 induction l with
 | nil=>intro lo hi;simp[Zc6]
 | cons p l ih=>
  intro lo hi
  simp only[Zc6,zA7,decide_eq_true_eq,ih,List.pairwise_cons,List.mem_cons,forall_eq_or_imp]
  constructor
  ·rintro⟨h1,h2,h3,h4⟩
   exact⟨⟨λx hx=>(h4 x hx).1,h3⟩,⟨h1,h2⟩,λx hx=>⟨Int.lt_trans h1 (h4 x hx).1,(h4 x hx).2⟩⟩
  ·rintro⟨⟨h1,h2⟩,⟨h3,h4⟩,h5⟩
   exact⟨h3,h4,h2,λx hx=>⟨h1 x hx,(h5 x hx).2⟩⟩
def Zbv(f:Nat):List Int:=(Zb1 f).map λi:Nat=>(i:Int)
theorem ZlO{f:Nat}{x:Int}:x∈Zbv f↔∃i:Nat,i < 448/\f.testBit i=true/\x=i:=by
 simp only[Zbv,List.mem_map,ZiF]
 constructor
 ·rintro⟨i,⟨h1,h2⟩,rfl⟩;exact⟨i,h1,h2,rfl⟩
 ·rintro⟨i,h1,h2,rfl⟩;exact⟨i,⟨h1,h2⟩,rfl⟩
theorem Zgo(f:Nat):(Zbv f).Pairwise (· < ·):=by
 unfold Zbv
 rw[List.pairwise_map]
 exact(Zgl f).imp (by intro a b h;omega)
theorem ZlP(f:Nat):(Zbv f).length<=448:=by simp[Zbv,ZlK]
theorem Znc{f n:Nat}(hn:n<=448)(h:∀i,f.testBit i=true->i < n):Zc6 (Zbv f) (-1) ((n:Int) - 1)=true:=by
 rw[ZbH]
 refine⟨Zgo f,λx hx=>?_⟩
 obtain⟨i,h1,h2,rfl⟩:=ZlO.1 hx
 have:=h i h2;omega
def Zsz(r:Pt×Ms):Nf:=⟨r.2.sets,r.2.fol.map Zbv,Zbv r.1.first,Zbv r.1.last,r.1.null⟩
def T.auto(t:T):Nf:=Zsz (mk t ⟨[],[]⟩)
def T.nfit(t:T):Bool:=t.clean&&(decide (t.size<=120)&&decide (t.positions<=400))
def nf0:Nf:=⟨[],[],[],[],false⟩
def T.ofN(t:T):Nf:=if t.isNone then nf0 else if t.nfit then t.auto else nf0
def T.ofE(t:T):Int:=if t.isNone then 0 else if t.nfit then 0 else 170
def ZmD(p:Nat)(cur:List (List Int))(q:Int):List (List Int):=cur.modify q.toNat (λl=>l++[(p:Int)])
def ZfB(p:Nat)(cur:List (List Int))(l:List Int):List (List Int):=l.foldl (ZmD p) cur
def ZcC:List (List Int)->Nat->List (List Int)->List (List Int)
 | [],_,cur=>cur
 | l::r,p,cur=>ZcC r (p+1) (ZfB p cur l)
def Zh0(fol:List (List Int)):List (List Int):=ZcC fol 0 (List.replicate fol.length [])
def Nf.turn(A:Nf):Nf:=⟨A.sets,Zh0 A.fol,A.last,A.first,A.empty⟩
theorem Ze3(p:Nat)(cur:List (List Int))(q:Int):(ZmD p cur q).length=cur.length:=by simp[ZmD]
theorem ZiJ{p:Nat}{cur:List (List Int)}{q:Int}{i:Nat}{l:List Int}(h:cur[i]?=some l):(ZmD p cur q)[i]?=some (if q.toNat=i then l++[(p:Int)]else l):=by
 unfold ZmD
 rw[List.getElem?_modify,h]
 split <;> rfl
theorem ZlQ(p:Nat)(l:List Int):∀cur:List (List Int),(ZfB p cur l).length=cur.length:=by
 induction l with
 | nil=>intro cur;rfl
 | cons q l ih=>intro cur;show(ZfB p (ZmD p cur q) l).length=_;rw[ih,Ze3]
theorem Zgp:∀(r:List (List Int)) (p:Nat) (cur:List (List Int)),(ZcC r p cur).length=cur.length
 | [],p,cur=>rfl
 | l::r,p,cur=>by rw[ZcC,Zgp,ZlQ]
theorem Ze4(fol:List (List Int)):(Zh0 fol).length=fol.length:=by simp[Zh0,Zgp]
theorem Zh1{p i:Nat}:∀{l:List Int},l.Pairwise (· < ·)->(∀x∈l,0<=x)->∀{cur:List (List Int)} {c:List Int},cur[i]?=some c->(ZfB p cur l)[i]?=some (c++if(i:Int)∈l then[(p:Int)]else[])
 | [],_,_,cur,c,h=>by simp[ZfB,h]
 | q::l,hl,hn,cur,c,h=>by
  rw[List.pairwise_cons]at hl
  show(ZfB p (ZmD p cur q) l)[i]?=_
  rw[Zh1 hl.2 (λx hx=>hn x (by simp[hx])) (ZiJ h)]
  have hq:=hn q (by simp)
  by_cases uk:q.toNat=i
  ·have:(i:Int)=q:=by omega
   have rm:(i:Int) ∉ l:=λhm=>by have:=hl.1 _ hm;omega
   rw[if_pos uk,if_neg rm,if_pos (by simp[this]),List.append_nil]
  ·have:¬(i:Int)=q:=by omega
   rw[if_neg uk]
   simp[this]
theorem Zgq{i:Nat}:∀{r:List (List Int)} {p:Nat},(∀l∈r,l.Pairwise (· < ·)/\∀x∈l,0<=x)->∀{cur:List (List Int)} {c:List Int},cur[i]?=some c->(ZcC r p cur)[i]?=some (c++(((List.range r.length).filter λk=>decide ((i:Int)∈(r[k]?).getD [])).map λk:Nat=>((p+k:Nat):Int)))
 | [],p,_,cur,c,h=>by simp[ZcC,h]
 | l::r,p,hr,cur,c,h=>by
  have h1:=hr l (by simp)
  rw[ZcC,Zgq (λl hl=>hr l (by simp[hl])) (Zh1 h1.1 h1.2 h),List.length_cons,List.range_succ_eq_map,List.filter_cons,List.append_assoc]
  congr 2
  have e:(List.map Nat.succ (List.range r.length)).filter (λk=>decide ((i:Int)∈((l::r)[k]?).getD []))=((List.range r.length).filter λk=>decide ((i:Int)∈(r[k]?).getD [])).map Nat.succ:=by
   rw[List.filter_map];rfl
  rw[e]
  have e2:(((List.range r.length).filter λk=>decide ((i:Int)∈(r[k]?).getD [])).map Nat.succ).map (λk:Nat=>((p+k:Nat):Int))=((List.range r.length).filter λk=>decide ((i:Int)∈(r[k]?).getD [])).map λk:Nat=>((p+1+k:Nat):Int):=by
   rw[List.map_map];apply List.map_congr_left;intro k _;simp;omega
  by_cases hi:(i:Int)∈l
  ·rw[if_pos hi,if_pos (by simp[hi]),List.map_cons,e2];simp
  ·rw[if_neg hi,if_neg (by simp[hi]),e2];simp
theorem Zpy{fol:List (List Int)}{i:Nat}(hi:i < fol.length)(hr:∀l∈fol,l.Pairwise (· < ·)/\∀x∈l,0<=x):(Zh0 fol)[i]?=some (((List.range fol.length).filter λk=>decide ((i:Int)∈(fol[k]?).getD [])).map λk:Nat=>(k:Int)):=by
 unfold Zh0
 rw[Zgq hr (c:=[]) (by simp[hi])]
 simp
theorem Zj7{fol:List (List Int)}{i:Nat}{l:List Int}(h:(Zh0 fol)[i]?=some l)(hr:∀l∈fol,l.Pairwise (· < ·)/\∀x∈l,0<=x):l.Pairwise (· < ·)/\l.length<=fol.length:=by
 have hi:i < fol.length:=by have:=(zA0 h).1;rwa [Ze4]at this
 rw[Zpy hi hr]at h
 cases h
 constructor
 ·rw[List.pairwise_map]
  exact((List.pairwise_lt_range (n:=fol.length)).filter _).imp (by intro a b h;omega)
 ·rw[List.length_map];exact Nat.le_trans (List.length_filter_le _ _) (by simp)
structure Nf.Ok (A:Nf):Prop where
 n:A.sets.length<=400
 len:A.fol.length=A.sets.length
 first:A.first.Pairwise (· < ·)/\∀x∈A.first,-1 < x/\x<=A.top
 last:A.last.Pairwise (· < ·)/\∀x∈A.last,-1 < x/\x<=A.top
 fol:∀l∈A.fol,l.Pairwise (· < ·)/\∀x∈l,-1 < x/\x<=A.top
 sets:∀q∈A.sets,q≠zQ
theorem Zeo{A:Nf}:A.right=true↔A.Ok:=by
 unfold Nf.right
 simp only[zA7,decide_eq_true_eq,List.all_eq_true,ZbH,Bool.not_eq_true',beq_eq_false_iff_ne]
 constructor
 ·rintro⟨h1,h2,h3,h4,h5⟩
  refine⟨h1,h2,h3,h4,λl hl=>?_,λq hq=>?_⟩
  ·obtain⟨i,hi⟩:=List.getElem?_of_mem hl
   have aH:=(zA0 hi).1
   have:(A.fol.zip A.sets)[i]?=some (l,A.sets[i]'(by omega)):=List.getElem?_zip_eq_some.2 ⟨hi,zA3 (by omega)⟩
   exact(h5 _ (zA2 this)).1
  ·obtain⟨i,hi⟩:=List.getElem?_of_mem hq
   have aH:=(zA0 hi).1
   have:(A.fol.zip A.sets)[i]?=some (A.fol[i]'(by omega),q):=List.getElem?_zip_eq_some.2 ⟨zA3 (by omega),hi⟩
   exact(h5 _ (zA2 this)).2
 ·rintro⟨h1,h2,h3,h4,h5,h6⟩
  refine⟨h1,h2,h3,h4,λp hp=>?_⟩
  obtain⟨l,q⟩:=p
  exact⟨h5 l (List.of_mem_zip hp).1,h6 q (List.of_mem_zip hp).2⟩
theorem Nf.Ok.rows{A:Nf}(h:A.Ok):∀l∈A.fol,l.Pairwise (· < ·)/\∀x∈l,0<=x:=λl hl=>⟨(h.fol l hl).1,λx hx=>by have:=((h.fol l hl).2 x hx).1;omega⟩
structure TurnI (base m:Mem)(b:Nat)(F:Nat->Option (Nat×Nat))(cur:List (List Int)):Prop where
 le:base.le m
 fr:base.free b
 cell:∀(q:Nat)(l:List Int),cur[q]?=some l->(F q=none/\l=[]/\m b q=some (.slice none 0 0))\/∃bq c,F q=some (bq,c)/\l≠[]/\l.length<=c/\m b q=some (.slice (some ⟨bq,0,none⟩) l.length c)/\(∀o,o < c->∃v,m bq o=some v)/\m.reads bq 0 (Zan l)/\base.free bq/\bq≠b
 ne:∀(q q' b0 c c':Nat),F q=some (b0,c)->F q'=some (b0,c')->q=q'
 dom:∀(q:Nat)(x:Nat×Nat),F q=some x->q < cur.length
theorem ZkE{m m':Mem}(h:m.le m'){b:Nat}(hf:m'.free b):m.free b:=λo=>by
 cases he:m b o with
 | none=>rfl
 | some v=>have:=h _ _ _ he;rw[hf o]at this;cases this
theorem ZlR(l r:List Int):Zan (l++r)=Zan l++Zan r:=by simp[Zan]
theorem TurnI.push{base m:Mem}{b:Nat}{F:Nat->Option (Nat×Nat)}{cur:List (List Int)}(h:TurnI base m b F cur){q:Int}{p:Nat}{l:List Int}(r5:0<=q)(hq:cur[q.toNat]?=some l){a:Option Addr}{c:Nat}(hm:m b q.toNat=some (.slice a l.length c)){m1 m2 M:Mem}(aD:(m.cutA a (l.length*1)).le m1)
  {a':Option Addr} {c':Nat} (hr:rowRd m2 a' (Zan l++[.int .i64 (p:Int)])) (hf:TokFact m1 a a' (l.length+1) c') (vH:(m.cutA a (l.length*1)).le M) (dW:m2.le M) (zs:List Value) (hz:zs.length=(c' - (l.length+1))*1):
  ∃F',TurnI base ((M.upd b q.toNat [.slice a' (l.length+1) c']).addA a' ((l.length+1)*1) zs) b F' (ZmD p cur q):=by
 have r6:=(zA0 hq).1
 have vI:∀b o,a=some ⟨b,o,none⟩->o=0:=λb1 o1 e=>by
  rcases h.cell _ _ hq with⟨_,_,h3⟩|⟨bq,c0,_,_,_,h4,_⟩
  ·rw[hm,e]at h3;simp at h3
  ·rw[hm,e]at h4;simp at h4;exact h4.1.2
 obtain⟨hc',fS⟩:=hf.old vI
 rcases hr with hr|⟨b',o',ha',cM⟩
 ·have:=congrArg List.length hr;simp at this
 rcases fS with r7|⟨b2,gj,fH⟩
 ·rw[r7]at ha';cases ha'
 rw[gj]at ha'
 simp only[Option.some.injEq,Addr.mk.injEq,and_true]at ha'
 obtain⟨rfl,rfl⟩:=ha'
 subst gj
 have fX:∀k o v,m k o=some v->(∀bq c0,F q.toNat=some (bq,c0)->k≠bq)->M k o=some v:=λk o v hv hk=>by
  refine vH k o v ?_
  unfold Mem.cutA
  split
  ·rename_i k0 o0 s0
   rcases h.cell _ _ hq with⟨_,_,h3⟩|⟨bq,c0,h1,_,_,h4,_⟩
   ·rw[hm]at h3;simp only[Option.some.injEq,Value.slice.injEq]at h3;exact absurd h3.1 (by simp)
   ·rw[hm]at h4
    simp only[Option.some.injEq,Value.slice.injEq,Addr.mk.injEq]at h4
    rw[if_neg (λhc=>hk bq c0 h1 (hc.1.trans h4.1.1))];exact hv
  ·exact hv
 have hb'k:∀k o v,m k o=some v->(∀bq c0,F q.toNat=some (bq,c0)->k≠bq)->k≠b2:=λk o v hv hk e=>by
  subst e
  have vJ:(m.cutA a (l.length*1)) k o=some v:=by
   unfold Mem.cutA
   split
   ·rename_i k0 o0 s0
    rcases h.cell _ _ hq with⟨_,_,h3⟩|⟨bq,c0,h1,_,_,h4,_⟩
    ·rw[hm]at h3;simp only[Option.some.injEq,Value.slice.injEq]at h3;exact absurd h3.1 (by simp)
    ·rw[hm]at h4
     simp only[Option.some.injEq,Value.slice.injEq,Addr.mk.injEq]at h4
     rw[if_neg (λhc=>hk bq c0 h1 (hc.1.trans h4.1.1))];exact hv
   ·exact hv
  rcases fH with fH|fH
  ·rcases h.cell _ _ hq with⟨_,_,h3⟩|⟨bq,c0,h1,_,_,h4,_⟩
   ·rw[hm,fH]at h3;simp only[Option.some.injEq,Value.slice.injEq]at h3;exact absurd h3.1 (by simp)
   ·rw[hm,fH]at h4
    simp only[Option.some.injEq,Value.slice.injEq,Addr.mk.injEq]at h4
    exact hk bq c0 h1 h4.1.1
  ·have:=aD _ _ _ vJ
   rw[fH o]at this;cases this
 have nq:∀q' x,cur[q']?=some x->∃v,m b q'=some v:=λq' x hx=>by
  rcases h.cell _ _ hx with⟨_,_,h3⟩|⟨_,_,_,_,_,h4,_⟩
  ·exact⟨_,h3⟩
  ·exact⟨_,h4⟩
 have r8:∀bq c0,F q.toNat=some (bq,c0)->b≠bq:=λbq c0 h1 e=>by
  rcases h.cell _ _ hq with⟨h3,_,_⟩|⟨bq',c0',h1',_,_,_,_,_,_,h8⟩
  ·rw[h3]at h1;cases h1
  ·rw[h1]at h1';cases h1';exact h8 e.symm
 have fC:b≠b2:=by
  obtain⟨v,hv⟩:=nq _ _ hq
  exact hb'k b _ v hv r8
 let N:=(M.upd b q.toNat [.slice (some ⟨b2,0,none⟩) (l.length+1) c']).addA (some ⟨b2,0,none⟩) ((l.length+1)*1) zs
 have hN:∀k o,k≠b2->(k≠b\/o≠q.toNat)->N k o=M k o:=λk o hk vK=>by
  show Mem.addAt _ b2 _ zs k o=_
  unfold Mem.addAt
  rw[if_neg (λhc=>hk hc.1)]
  unfold Mem.upd
  rw[if_neg]
  rintro⟨e1,e2,e3⟩
  simp at e3
  rcases vK with h|h
  ·exact h e1
  ·omega
 have qu:N b q.toNat=some (.slice (some ⟨b2,0,none⟩) (l.length+1) c'):=by
  show Mem.addAt _ b2 _ zs b q.toNat=_
  unfold Mem.addAt
  rw[if_neg (λhc=>fC hc.1)]
  unfold Mem.upd
  rw[if_pos ⟨rfl,Nat.le_refl _,by simp⟩];simp
 have l9:base.free b2:=by
  rcases fH with fH|fH
  ·rcases h.cell _ _ hq with⟨_,_,h3⟩|⟨bq,c0,h1,_,_,h4,_,_,h7,_⟩
   ·rw[hm,fH]at h3;simp only[Option.some.injEq,Value.slice.injEq]at h3;exact absurd h3.1 (by simp)
   ·rw[hm,fH]at h4
    simp only[Option.some.injEq,Value.slice.injEq,Addr.mk.injEq]at h4
    rw[h4.1.1];exact h7
  ·intro o
   cases he:base b2 o with
   | none=>rfl
   | some v=>
    exfalso
    refine hb'k b2 o v (h.le _ _ _ he) (λbq c0 h1 e=>?_) rfl
    rcases h.cell _ _ hq with⟨h3,_,_⟩|⟨bq',c0',h1',_,_,_,_,_,h7,_⟩
    ·rw[h3]at h1;cases h1
    ·rw[h1]at h1';cases h1'
     rw[e,h7 o]at he;cases he
 refine⟨λi=>if i=q.toNat then some (b2,c')else F i,?_⟩
 show TurnI base N b _ _
 refine⟨λk o v hv=>?_,h.fr,λi x hx=>?_,λi i' b0 c0 c0' h1 h2=>?_,λi x hx=>?_⟩
 ·have eK:k≠b2:=λe=>by subst e;rw[l9 o]at hv;cases hv
  have gD:k≠b:=λe=>by subst e;rw[h.fr o]at hv;cases hv
  rw[hN k o eK (.inl gD)]
  refine fX k o v (h.le _ _ _ hv) λbq c0 h1 e=>?_
  rcases h.cell _ _ hq with⟨h3,_,_⟩|⟨bq',c0',h1',_,_,_,_,_,h7,_⟩
  ·rw[h3]at h1;cases h1
  ·rw[h1]at h1';cases h1'
   rw[e,h7 o]at hv;cases hv
 ·have r9:i < cur.length:=by have:=(zA0 hx).1;rwa [Ze3]at this
  obtain⟨y,hy⟩:∃y,cur[i]?=some y:=⟨_,zA3 r9⟩
  rw[ZiJ hy]at hx
  by_cases hi:i=q.toNat
  ·subst hi
   rw[hq]at hy;cases hy
   rw[if_pos rfl]at hx;cases hx
   refine .inr ⟨b2,c',by simp,by simp,by simpa using hc',by rw[zA1];exact qu,λo ho=>?_,λj v hj=>?_,l9,fC.symm⟩
   ·show ∃v,Mem.addAt _ b2 _ zs b2 o=some v
    unfold Mem.addAt
    by_cases ul:0+(l.length+1)*1<=o
    ·rw[if_pos ⟨rfl,ul⟩]
     have:o - (0+(l.length+1)*1) < zs.length:=by omega
     rw[zA3 this];exact⟨_,rfl⟩
    ·rw[if_neg (λhc=>ul hc.2)]
     have hv:=cM o ((Zan l++[.int .i64 (p:Int)])[o]'(by simp[Zb3];omega)) (zA3 _)
     rw[Nat.zero_add]at hv
     rw[Mem.upd_other _ fC.symm]
     exact⟨_,dW _ _ _ hv⟩
   ·show Mem.addAt _ b2 _ zs b2 (0+j)=some v
    have ma:=(zA0 hj).1
    rw[Zb3,zA1,List.length_singleton]at ma
    unfold Mem.addAt
    rw[if_neg (by omega),Mem.upd_other _ fC.symm]
    rw[ZlR]at hj
    exact dW _ _ _ (cM j v hj)
  ·rw[if_neg (λe=>hi e.symm)]at hx
   obtain rfl:y=x:=Option.some.inj hx
   have oD:∀x,F i=some x->∀bq c0,F q.toNat=some (bq,c0)->x.1≠bq:=λx h1 bq c0 h2 e=>by
    obtain⟨x1,x2⟩:=x
    simp only at e;subst e
    exact hi (h.ne _ _ _ _ _ h1 h2)
   rcases h.cell _ _ hy with⟨h1,h2,h3⟩|⟨bq,c0,h1,h2,h3,h4,h5,h6,h7,h8⟩
   ·refine .inl ⟨by simp only[if_neg hi];exact h1,h2,?_⟩
    rw[hN b i fC (.inr hi)]
    exact fX _ _ _ h3 r8
   ·have hk:∀bq' c0',F q.toNat=some (bq',c0')->bq≠bq':=λbq' c0' h=>oD _ h1 bq' c0' h
    have eK:bq≠b2:=by
     cases y with
     | nil=>exact absurd rfl h2
     | cons z y=>
      have:=h6 0 (.int .i64 z) rfl
      exact hb'k _ _ _ this hk
    refine .inr ⟨bq,c0,by simp only[if_neg hi];exact h1,h2,h3,?_,λo ho=>?_,λj v hj=>?_,h7,h8⟩
    ·rw[hN b i fC (.inr hi)];exact fX _ _ _ h4 r8
    ·obtain⟨v,hv⟩:=h5 o ho
     exact⟨v,by rw[hN bq o eK (.inl h8)];exact fX _ _ _ hv hk⟩
    ·rw[hN bq _ eK (.inl h8)];exact fX _ _ _ (h6 j v hj) hk
 ·have key:∀j c1,F j=some (b2,c1)->j=q.toNat:=λj c1 hj=>by
   have jJ:=h.dom _ _ hj
   rcases h.cell j _ (zA3 jJ)with⟨h3,_,_⟩|⟨bq,c0,g1,g2,_,_,_,g6,_,_⟩
   ·rw[h3]at hj;cases hj
   ·rw[hj]at g1;cases g1
    cases oD:F q.toNat with
    | none=>
     exfalso
     have:∃z y,cur[j]'jJ=z::y:=by
      cases hc:cur[j]'jJ with
      | nil=>exact absurd hc g2
      | cons z y=>exact⟨z,y,rfl⟩
     obtain⟨z,y,sd⟩:=this
     have hv:=g6 0 (.int .i64 z) (by rw[sd];rfl)
     exact hb'k _ _ _ hv (λbq c0 h1=>by rw[oD]at h1;cases h1) rfl
    | some x=>
     obtain⟨x1,x2⟩:=x
     by_cases iv:x1=b2
     ·subst iv;exact h.ne _ _ _ _ _ hj oD
     ·exfalso
      have:∃z y,cur[j]'jJ=z::y:=by
       cases hc:cur[j]'jJ with
       | nil=>exact absurd hc g2
       | cons z y=>exact⟨z,y,rfl⟩
      obtain⟨z,y,sd⟩:=this
      have hv:=g6 0 (.int .i64 z) (by rw[sd];rfl)
      exact hb'k _ _ _ hv (λbq c0 h1 e=>by rw[oD]at h1;cases h1;exact iv e.symm) rfl
  split at h1 <;> split at h2
  ·omega
  ·simp only[Option.some.injEq,Prod.mk.injEq]at h1
   rw[<-h1.1]at h2
   have:=key _ _ h2;omega
  ·simp only[Option.some.injEq,Prod.mk.injEq]at h2
   rw[<-h2.1]at h1
   have:=key _ _ h1;omega
  ·exact h.ne _ _ _ _ _ h1 h2
 ·rw[Ze3]
  split at hx
  ·omega
  ·exact h.dom _ _ hx
def ZsA(q:QS):T:=.node 2 q.1 q.2.1 q.2.2.1 q.2.2.2 0 0 none 0 []
def ZuG(q:QS)(c:Nat):Bool:=(ZsA q).hasB c
def QOk(q:QS):Prop:=(0<=q.1/\q.1 < 18446744073709551616)/\(0<=q.2.1/\q.2.1 < 18446744073709551616)/\(0<=q.2.2.1/\q.2.2.1 < 18446744073709551616)/\(0<=q.2.2.2/\q.2.2.2 < 18446744073709551616)
theorem Zus{q:QS}(h:QOk q)(m:Mem):Rep m (ZsA q):=by
 simp only[ZsA,Rep]
 exact⟨by simp,.inl trivial,⟨by omega,h.1,h.2.1,h.2.2.1,h.2.2.2,by omega,by omega⟩⟩
def Zuh(l:List Int)(f:Nat):Nat:=l.foldl (λf p=>f|||2 ^ p.toNat) f
def Nf.fromL(A:Nf)(p:Int):List Int:=if p=-1 then A.first else(A.fol[p.toNat]?).getD []
def Nf.hasAt(A:Nf)(q:Int)(c:Nat):Bool:=ZuG ((A.sets[q.toNat]?).getD zQ) c
def Nf.step1(A:Nf)(c:Nat)(f:Nat)(q:Int):Nat:=if A.hasAt q c then f|||2 ^ q.toNat else f
def Nf.stepM(A:Nf)(l:List Int)(c:Nat)(f:Nat):Nat:=l.foldl (λf p=>(A.fromL p).foldl (A.step1 c) f) f
def Nf.step(A:Nf)(l:List Int)(c:Nat):List Int:=Zbv (A.stepM l c 0)
def Nf.acc1(A:Nf)(p:Int):Bool:=if p=-1 then A.empty else(Zuh A.last 0).testBit p.toNat
def Nf.accepts(A:Nf)(l:List Int):Bool:=l.any A.acc1
def Nf.states(A:Nf)(l:List Int):Bool:=Zc6 l (-2) A.top
theorem ZjD{A:Nf}{l:List Int}(h:A.states l=true):∀p∈l,-1<=p/\p<=A.top:=λp hp=>by
 have:=(ZbH.1 h).2 p hp;omega
theorem ZjE{A:Nf}{c:Nat}:∀(l:List Int)(f i:Nat),(∀p∈l,0<=p)->((l.foldl (A.step1 c) f).testBit i=true↔f.testBit i=true\/((i:Int)∈l/\A.hasAt i c=true))
 | [],f,i,_=>by simp
 | p::l,f,i,h=>by
  have hp:=h p (by simp)
  rw[List.foldl_cons,ZjE l _ i (λp hp=>h p (by simp[hp]))]
  have e:p.toNat=i↔(i:Int)=p:=by omega
  unfold Nf.step1
  by_cases hh:A.hasAt p c=true
  ·rw[if_pos hh]
   simp only[Nat.testBit_or,Bool.or_eq_true,Nat.testBit_two_pow,decide_eq_true_eq,List.mem_cons,e]
   constructor
   ·rintro((h1|h1)|h1)
    ·exact .inl h1
    ·exact .inr ⟨.inl h1,by rw[h1];exact hh⟩
    ·exact .inr ⟨.inr h1.1,h1.2⟩
   ·rintro(h1|⟨h1|h1,h2⟩)
    ·exact .inl (.inl h1)
    ·exact .inl (.inr h1)
    ·exact .inr ⟨h1,h2⟩
  ·rw[if_neg hh]
   constructor
   ·rintro(h1|h1)
    ·exact .inl h1
    ·exact .inr ⟨by simp[h1.1],h1.2⟩
   ·rintro(h1|⟨h1,h2⟩)
    ·exact .inl h1
    ·rcases List.mem_cons.1 h1 with h1|h1
     ·rw[h1]at h2;exact absurd h2 hh
     ·exact .inr ⟨h1,h2⟩
theorem Zgr{A:Nf}(h:A.Ok)(p:Int):(A.fromL p).Pairwise (· < ·)/\∀x∈A.fromL p,-1 < x/\x<=A.top:=by
 unfold Nf.fromL
 split
 ·exact h.first
 ·cases hl:A.fol[p.toNat]? with
  | none=>exact⟨by simp,by simp⟩
  | some l=>exact h.fol l (zA2 hl)
theorem Zg1{A:Nf}(hA:A.Ok){c:Nat}:∀(l:List Int)(f i:Nat),((A.stepM l c f).testBit i=true↔f.testBit i=true\/((∃p∈l,(i:Int)∈A.fromL p)/\A.hasAt i c=true))
 | [],f,i=>by simp[Nf.stepM]
 | p::l,f,i=>by
  show(A.stepM l c ((A.fromL p).foldl (A.step1 c) f)).testBit i=true↔_
  rw[Zg1 hA l,ZjE _ _ _ (λx hx=>by have:=(Zgr hA p).2 x hx;omega)]
  constructor
  ·rintro((h1|h1)|⟨⟨q,h1,h2⟩,h3⟩)
   ·exact .inl h1
   ·exact .inr ⟨⟨p,by simp,h1.1⟩,h1.2⟩
   ·exact .inr ⟨⟨q,by simp[h1],h2⟩,h3⟩
  ·rintro(h1|⟨⟨q,h1,h2⟩,h3⟩)
   ·exact .inl (.inl h1)
   ·rcases List.mem_cons.1 h1 with h1|h1
    ·subst h1;exact .inl (.inr ⟨h2,h3⟩)
    ·exact .inr ⟨⟨q,h1,h2⟩,h3⟩
theorem Zep{A:Nf}(hA:A.Ok){l:List Int}{c:Nat}{x:Int}:x∈A.step l c↔0<=x/\(∃p∈l,x∈A.fromL p)/\A.hasAt x c=true:=by
 unfold Nf.step
 rw[ZlO]
 constructor
 ·rintro⟨i,h1,h2,rfl⟩
  have:=(Zg1 hA l 0 i).1 h2
  simp at this
  exact⟨by omega,this.1,this.2⟩
 ·rintro⟨h0,⟨p,h1,h2⟩,h3⟩
  have hb:=(Zgr hA p).2 x h2
  have hn:=hA.n
  unfold Nf.top at hb
  refine⟨x.toNat,by omega,?_,by omega⟩
  rw[Zg1 hA]
  refine .inr ⟨⟨p,h1,?_⟩,?_⟩
  ·rw[show((x.toNat:Nat):Int)=x by omega];exact h2
  ·rw[show((x.toNat:Nat):Int)=x by omega];exact h3
theorem ZcS{A:Nf}(hA:A.Ok)(l:List Int)(c:Nat):A.states (A.step l c)=true:=by
 unfold Nf.states
 rw[ZbH]
 refine⟨Zgo _,λx hx=>?_⟩
 obtain⟨h0,⟨p,_,h2⟩,_⟩:=(Zep hA).1 hx
 have:=(Zgr hA p).2 x h2
 omega
def Nf.next(A:Nf)(again:Bool)(l:List Int)(c:Nat):List Int:=if again then -1::A.step l c else A.step l c
def Nf.runL{S:Type}(A:Nf)(again:Bool)(st:S->Nat->List Int->S):List Nat->Nat->List Int->S->S
 | [],_,_,s=>s
 | c::bs,i,l,s=>A.runL again st bs (i+1) (A.next again l c) (st s (i+1) (A.next again l c))
theorem ZlS{A:Nf}(hA:A.Ok)(again:Bool)(l:List Int)(c:Nat):A.states (A.next again l c)=true:=by
 unfold Nf.next
 have h:=ZcS hA l c
 split
 ·unfold Nf.states at h ⊢
  rw[ZbH]at h ⊢
  refine⟨?_,λx hx=>?_⟩
  ·rw[List.pairwise_cons]
   refine⟨λx hx=>?_,h.1⟩
   obtain⟨h0,_⟩:=(Zep hA).1 hx
   omega
  ·rcases List.mem_cons.1 hx with rfl|hx
   ·exact⟨by omega,by unfold Nf.top;omega⟩
   ·exact h.2 x hx
 ·exact h
def Nf.run(A:Nf)(b:List Nat)(l:List Int):List Int:=b.foldl (λl c=>A.step l c) l
def Nf.matches(A:Nf)(b:List Nat):Bool:=A.accepts (A.run b [-1])
def Nf.search(A:Nf)(b:List Nat):List Int:=A.runL true (λs n l=>if A.accepts l then s++[(n:Int)]else s) b 0 [-1] (if A.accepts [-1]then[0]else[])
theorem Zol(A:Nf):∀(b:List Nat)(i:Nat)(l:List Int),A.runL false (λ_ _ l=>l) b i l l=A.run b l
 | [],i,l=>rfl
 | c::b,i,l=>by rw[Nf.runL,Zol A b];rfl
theorem ZdH{A:Nf}(hA:A.Ok):∀(b:List Nat)(l:List Int),A.states l=true->A.states (A.run b l)=true
 | [],l,h=>h
 | c::b,l,h=>ZdH hA b _ (ZcS hA l c)
theorem Zeq(A:Nf):A.states [-1]=true:=by
 unfold Nf.states
 rw[ZbH]
 exact⟨by simp,λx hx=>by rw[List.mem_singleton]at hx;subst hx;unfold Nf.top;omega⟩
def Nf.err(A:Nf)(l:List Int):Int:=if A.right=false then 171 else if A.states l=false then 172 else 0
def Nf.runE(A:Nf)(n:Nat):Int:=if A.right=false then 171 else if 4096 < n then 3 else 0
inductive Nf.Reach (A:Nf):Nat->Prop
 | first {p:Nat} (h:(p:Int)∈A.first):A.Reach p
 | fol {p q:Nat} {l:List Int} (h:A.Reach p) (hl:A.fol[p]?=some l) (hq:(q:Int)∈l):A.Reach q
theorem ZlT(w:World)(b:Nat)(f:Array Value->Array Value){cur:Array Value}{T:TypeId}{fr:Nat×Nat}(h:w.heap[b]?=some (.cells cur T fr)):(Go.Sort.mapBlock w b f).heap[b]?=some (.cells (f cur) T fr):=by
 unfold Go.Sort.mapBlock
 simp only[Array.getElem?_modify,if_true,h,Option.map_some]
 rfl
theorem Zj8(w:World)(b:Nat)(f:Array Value->Array Value){k:Nat}(h:k≠b):(Go.Sort.mapBlock w b f).heap[k]?=w.heap[k]?:=by
 unfold Go.Sort.mapBlock
 simp only[Array.getElem?_modify]
 rw[if_neg (λe=>h e.symm)]
theorem Zrn(w:World):Go.Sort.grow w #[]=w:=by
 unfold Go.Sort.grow;rw[Array.append_empty]
section
variable {α:Type} [Inhabited α] (enc:α->Value)
set_option maxHeartbeats 1600000 in
theorem Zh2{P:Program}{g:FuncId}{zs ys:List α}{vf:Option Addr->Value}{a:Option Addr}{c N:Nat}{m:Mem}
  (vL:Zeh P g) (hr:rowRd m a (zs.map enc)) (hl:ys.length=zs.length) (hN:zs.length<=N)
  (h0:zs=[]->∀w:World,Calls P g #[.slice a 0 c] w λe w'=>e=.returned (vf a)/\w'=w)
  (h1:zs≠[]->∀(b o:Nat)(w:World),a=some ⟨b,o,none⟩->zs.length<=c->Go.Sort.Holds enc w b o zs.toArray->b < w.heap.size->Calls P g #[.slice (some ⟨b,o,none⟩) zs.length c] w λe w'=>e=.returned (vf a)/\∃n os,w'=Go.Sort.grow (Go.Sort.putRow enc (Go.Sort.ahead w n) b o ys.toArray) os):
  CXY P g #[.slice a zs.length c] m (λk=>(Tok.mk (.slice a N c) 1).blk=some k) [] [⟨.slice a N c,1⟩]
   (λv m' css tvs=>v=vf a/\css=[]/\tvs=[.slice a N c]/\rowRd m' a (ys.map enc)):=by
 refine⟨vL,λw hs _ _ ht j6 hY=>?_⟩
 obtain⟨bP,xk⟩:=ht _ (List.mem_singleton.2 rfl)
 by_cases hz:zs=[]
 ·subst hz
  obtain rfl:ys=[]:=List.eq_nil_of_length_eq_zero (by simpa using hl)
  refine(h0 rfl w).mono ?_
  rintro e w' ⟨rfl,rfl⟩
  refine⟨_,m,[],[.slice a N c],rfl,Mem.off_le _ _,hs,λ_ _ _ h=>.inl h,Upd.refl _ _,rfl,λi x cs hi=>by simp at hi,rfl,λi t tv hi hv=>?_,j6,rfl,rfl,rfl,.inl (by simp)⟩
  cases i with
  | zero=>
   simp at hi hv;subst hi hv
   exact⟨rfl,bP,λb hb=>⟨.inl hb,by simp⟩⟩
  | succ i=>simp at hi
 ·have cE:(zs.map enc)≠[]:=by simp[hz]
  rcases hr with hr|⟨b,o,rfl,cM⟩
  ·exact absurd hr cE
  rcases bP with h2|⟨b',o',n',c',cur,T,fr,hv,gi,hh,bU,eZ,cB⟩
  ·cases h2
  simp only[Value.slice.injEq,Option.some.injEq,Addr.mk.injEq,and_true]at hv
  obtain⟨⟨rfl,rfl⟩,rfl,rfl⟩:=hv
  simp only[Nat.mul_one]at bU cB
  have oE:b < w.heap.size:=(Array.getElem?_eq_some_iff.1 hh).1
  have hH:Go.Sort.Holds enc w b o zs.toArray:=λj hj=>by
   have hj':j < zs.length:=by simpa using hj
   have e:zs.toArray[j]! = zs[j]:=by rw[getElem!_pos _ j hj];simp
   refine⟨?_,?_⟩
   ·have:=hs _ _ _ (cM j (enc zs[j]) (by simp[hj']))
    rw[this,e]
   ·have h2:=eZ (o+j) (by omega)
    obtain⟨f1,f2⟩:=fr
    simp only[World.frozen?,hh,Bool.and_eq_false_iff,decide_eq_false_iff_not]
    simp only at h2
    omega
  refine(h1 hz b o w rfl (by omega) hH oE).mono ?_
  rintro e w' ⟨rfl,n,os,hw'⟩
  have md:(Go.Sort.putRow enc (Go.Sort.ahead w n) b o ys.toArray).heap.size=w.heap.size:=by simp[Go.Sort.putRow,Go.Sort.mapBlock,Go.Sort.ahead]
  have eP:w'.heap[b]?=some (.cells (Go.Sort.putCells enc o ys.toArray cur) T fr):=by
   rw[hw',Go.Sort.heap_grow_old _ _ (by rw[md];exact oE)];exact ZlT _ b _ hh
  have me:∀k,k < w.heap.size->k≠b->w'.heap[k]?=w.heap[k]?:=λk aH hk=>by
   rw[hw',Go.Sort.heap_grow_old _ _ (by rw[md];exact aH)];exact Zj8 _ b _ hk
  have mf:(Go.Sort.putCells enc o ys.toArray cur).size=cur.size:=by simp[Go.Sort.putCells]
  have cH:∀k:Nat,(Go.Sort.putCells enc o ys.toArray cur)[k]?=if o<=k/\k < o+zs.length then(ys.map enc)[k - o]? else cur[k]?:=λk=>by
   simp only[Go.Sort.putCells,Array.getElem?_mapIdx]
   by_cases hk:o<=k/\k < o+zs.length
   ·rw[if_pos hk,Array.getElem?_eq_getElem (by omega),Option.map_some,if_pos (by simp;omega)]
    have:k - o < ys.length:=by omega
    rw[getElem!_pos _ (k - o) (by simpa using this)]
    have e2:(ys.map enc)[k - o]?=some (enc (ys[k - o]'this)):=by
     rw[List.getElem?_map,zA3 this];rfl
    rw[e2];simp
   ·rw[if_neg hk]
    cases cur[k]? with
    | none=>rfl
    | some y=>rw[Option.map_some,if_neg (by simp;omega)]
  refine⟨_,m.upd b o (ys.map enc),[],[.slice (some ⟨b,o,none⟩) N c],rfl,λb1 o1 v hv=>?_,λb1 o1 v hv=>?_,λb1 o1 u hu=>?_,⟨by rw[hw'];rfl,by rw[hw'];rfl,by rw[hw'];rfl,?_,λk hk hn=>?_,λk aH hk=>?_⟩,rfl,λi x cs hi=>by simp at hi,rfl,λi t tv hi hv=>?_,?_,rfl,rfl,rfl,.inr ⟨b,o,rfl,λj v hv=>?_⟩⟩
  ·have dE:b1≠b:=λe=>by
    subst e
    rw[Mem.off_free (by rfl)]at hv;cases hv
   rw[Mem.upd_other _ dE];exact Mem.off_le _ _ _ _ _ hv
  ·by_cases dE:b1=b
   ·subst dE
    simp only[World.cell?,eP,Option.isSome_none,Bool.false_eq_true,if_false]
    rw[cH]
    simp only[Mem.upd,true_and]at hv
    have bG:(ys.map enc).length=zs.length:=by simp[hl]
    rw[bG]at hv
    split at hv
    ·rename_i eW
     rw[if_pos eW];exact hv
    ·rename_i eW
     rw[if_neg eW]
     have:=hs _ _ _ hv
     simpa only[World.cell?,hh,Option.isSome_none,Bool.false_eq_true,if_false]using this
   ·rw[Mem.upd_other _ dE]at hv
    rw[ZaY (me b1 (hs.lt hv) dE)];exact hs _ _ _ hv
  ·by_cases dE:b1=b
   ·subst dE;exact .inr (.inl rfl)
   ·rw[Mem.upd_other _ dE]at hu;exact .inl hu
  ·rw[hw']
   show w.heap.size<=(Go.Sort.grow _ os).heap.size
   have:(Go.Sort.grow (Go.Sort.putRow enc (Go.Sort.ahead w n) b o ys.toArray) os).heap.size=(Go.Sort.putRow enc (Go.Sort.ahead w n) b o ys.toArray).heap.size+os.size:=by simp[Go.Sort.grow]
   rw[this,md];omega
  ·refine me k hk λe=>hn (.inr ?_)
   rw[e];rfl
  ·by_cases gD:k=b
   ·subst gD
    intro c1 T1 fr1 lN i hi
    rw[eP]at lN
    simp only[Option.some.injEq,Obj.cells.injEq]at lN
    obtain⟨rfl,rfl,rfl⟩:=lN
    exact eZ i (by rw[mf]at hi;exact hi)
   ·exact hk.of_eq (me k aH gD)
  ·cases i with
   | zero=>
    simp at hi hv;subst hi hv
    refine⟨rfl,.inr ⟨b,o,_,_,_,T,fr,rfl,gi,eP,by rw[mf,Nat.mul_one];exact bU,λi hi=>eZ i (by rw[mf]at hi;exact hi),λk gK eK=>?_⟩,λb1 dE=>⟨.inl dE,by simp⟩⟩
    simp only[Nat.mul_one]at gK eK
    simp only[Mem.upd,true_and]
    rw[if_neg (by simp;omega)]
    exact cB k gK eK
   | succ i=>simp at hi
  ·intro i j t t' b1 hi hj _ _
   have hi':=(zA0 hi).1
   have hj':=(zA0 hj).1
   simp at hi' hj'
   omega
  ·have ma:=(zA0 hv).1
   simp only[List.length_map]at ma
   simp only[Mem.upd,true_and]
   rw[if_pos ⟨by omega,by rw[List.length_map];omega⟩,Nat.add_sub_cancel_left];exact hv
end
end Go.Rx
namespace Go.Rx
open Go Go.Eng
def ZlU(l:List Int):List Int:=l.mergeSort λx y=>decide (x<=y)
theorem Zd1(l:List Int):(ZlU l).length=l.length:=List.length_mergeSort l
theorem Zpz{l:List Int}{x:Int}:x∈ZlU l↔x∈l:=List.mem_mergeSort
theorem Zgs(l:List Int):(ZlU l).Pairwise (·<=·):=
 (List.pairwise_mergeSort (le:=λx y:Int=>decide (x<=y)) (λa b c h1 h2=>by simp at h1 h2 ⊢;omega) (λa b=>by simp;omega) l).imp λh=>zA6 h
def ZmE(l:List Int):List Int:=Go.Lib.compact (ZlU l)
theorem Zer{zs:List Int}(h:zs.Pairwise (·<=·)):∀m,m<=zs.length->(Go.Lib.compactUpTo zs.toArray m).Pairwise (· < ·)/\∀x,x∈Go.Lib.compactUpTo zs.toArray m↔x∈zs.take m
 | 0,_=>by simp[Go.Lib.compactUpTo]
 | m+1,hm=>by
  obtain⟨h1,h2⟩:=Zer h m (by omega)
  have aH:m < zs.length:=hm
  have em:zs.toArray[m]! = zs[m]:=by rw[getElem!_pos _ m (by simpa using aH)];simp
  have cD:∀x,x∈zs.take (m+1)↔x∈zs.take m\/x=zs[m]:=λx=>by
   rw[List.take_add_one,zA3 aH,List.mem_append];simp
  have cA:∀x∈zs.take m,∀k,m<=k+1->(hk:k < zs.length)->k < m->x<=zs[k]:=λx hx k gK hk eK=>by
   obtain⟨i,hi,rfl⟩:=List.mem_iff_getElem.1 hx
   rw[List.length_take]at hi
   rw[List.getElem_take]
   by_cases e:i=k
   ·subst e;exact Int.le_refl _
   ·exact List.pairwise_iff_getElem.1 h i k (by omega) hk (by omega)
  rw[Go.Lib.compactUpTo_succ]
  cases hk:Go.Lib.keeps zs.toArray m with
  | true=>
   rw[if_pos rfl,em]
   refine⟨List.pairwise_append.2 ⟨h1,List.pairwise_singleton _ _,λx hx y hy=>?_⟩,λx=>?_⟩
   ·rw[List.mem_singleton]at hy;subst hy
    have hx:=(h2 x).1 hx
    have h0:0 < m:=by
     cases m with
     | zero=>simp at hx
     | succ m=>omega
    have cE:zs.toArray[m]!≠zs.toArray[m - 1]!:=by
     unfold Go.Lib.keeps at hk
     have:=zA6 hk
     rcases this with h|h
     ·omega
     ·exact h
    rw[em,getElem!_pos _ (m - 1) (by simp;omega)]at cE
    simp only[List.getElem_toArray]at cE
    have h3:=cA x hx (m - 1) (by omega) (by omega) (by omega)
    have h4:=List.pairwise_iff_getElem.1 h (m - 1) m (by omega) aH (by omega)
    omega
   ·rw[List.mem_append,h2,cD,List.mem_singleton]
  | false=>
   rw[if_neg (by decide),List.append_nil]
   refine⟨h1,λx=>?_⟩
   rw[h2,cD]
   refine⟨.inl,λhx=>hx.elim id λe=>?_⟩
   unfold Go.Lib.keeps at hk
   have hk:=of_decide_eq_false hk
   have eH:m≠0:=λe=>hk (.inl e)
   have he:zs.toArray[m]! = zs.toArray[m - 1]!:=Classical.byContradiction λe=>hk (.inr e)
   rw[em,getElem!_pos _ (m - 1) (by simp;omega)]at he
   simp only[List.getElem_toArray]at he
   rw[e,he]
   exact List.mem_iff_getElem.2 ⟨m - 1,by rw[List.length_take];omega,by rw[List.getElem_take]⟩
theorem ZsB(l:List Int):(ZmE l).Pairwise (· < ·):=(Zer (Zgs l) _ (Nat.le_refl _)).1
theorem Zro{l:List Int}{x:Int}:x∈ZmE l↔x∈l:=by
 have:=(Zer (Zgs l) _ (Nat.le_refl _)).2 x
 rw[List.take_length,Zpz]at this
 exact this
theorem ZtB{l r:List Int}(hl:l.Pairwise (· < ·))(hr:r.Pairwise (· < ·))(h:∀x,x∈l↔x∈r):l=r:=by
 have p:l.Perm r:=(List.perm_ext_iff_of_nodup (hl.imp λh=>by omega) (hr.imp λh=>by omega)).2 h
 exact p.eq_of_pairwise (le:=λx y:Int=>x < y) (λa b _ _ h1 h2=>by omega) hl hr
theorem Zrp(l:List Int):(ZmE l).length<=l.length:=by
 have h1:=Zd1 l
 have h2:(Go.Lib.compact (ZlU l)).length<=(ZlU l).length:=by
  unfold Go.Lib.compact Go.Lib.compactUpTo
  rw[List.length_map]
  exact Nat.le_trans (List.length_filter_le _ _) (by rw[List.length_range];exact Nat.le_refl _)
 unfold ZmE;omega
end Go.Rx
namespace Go.Rx
open Go Go.Eng Go.RowKit
set_option maxRecDepth 100000
theorem ZpA{A:Nf}(hA:A.Ok)(l:List Int)(c:Nat):(A.step l c).Pairwise (· < ·):=by
 have h:=ZcS hA l c
 unfold Nf.states at h
 exact(ZbH.1 h).1
theorem ZpB{A:Nf}(hA:A.Ok)(l:List Int)(c:Nat):ZmE (l.flatMap λp=>A.step [p] c)=A.step l c:=by
 refine ZtB (ZsB _) (ZpA hA l c) λx=>?_
 rw[Zro,List.mem_flatMap,Zep hA]
 constructor
 ·rintro⟨p,hp,hx⟩
  obtain⟨h0,⟨q,hq,h1⟩,h2⟩:=(Zep hA).1 hx
  rw[List.mem_singleton]at hq;subst hq
  exact⟨h0,⟨q,hp,h1⟩,h2⟩
 ·rintro⟨h0,⟨p,hp,h1⟩,h2⟩
  exact⟨p,hp,(Zep hA).2 ⟨h0,⟨p,by simp,h1⟩,h2⟩⟩
theorem Zom{A:Nf}(hA:A.Ok){l r:List Int}(h:∀x∈l,x∈r)(c:Nat):∀x∈A.step l c,x∈A.step r c:=λx hx=>by
 obtain⟨h0,⟨p,hp,h1⟩,h2⟩:=(Zep hA).1 hx
 exact(Zep hA).2 ⟨h0,⟨p,h p hp,h1⟩,h2⟩
theorem Zqw(A:Nf)(b c:List Nat)(l:List Int):A.run (b++c) l=A.run c (A.run b l):=by
 unfold Nf.run;rw[List.foldl_append]
def Nf.far(A:Nf)(b:List Nat)(l:List Int):List Int:=b.foldl (λl c=>A.next true l c) l
theorem ZsC(A:Nf)(b c:List Nat)(l:List Int):A.far (b++c) l=A.far c (A.far b l):=by
 unfold Nf.far;rw[List.foldl_append]
theorem Zrq{A:Nf}(hA:A.Ok){l r:List Int}(h:∀x∈l,x∈r)(c:Nat):∀x∈A.next true l c,x∈A.next true r c:=λx hx=>by
 unfold Nf.next at hx ⊢
 simp only[if_true,List.mem_cons]at hx ⊢
 exact hx.imp_right (Zom hA h c x)
theorem Zqx{A:Nf}(hA:A.Ok):∀(b:List Nat){l r:List Int},(∀x∈l,x∈r)->∀x∈A.far b l,x∈A.far b r
 | [],_,_,h=>h
 | c::b,l,r,h=>Zqx hA b (Zrq hA h c)
theorem Zqy(A:Nf):∀(b:List Nat){l:List Int},(-1:Int)∈l->(-1:Int)∈A.far b l
 | [],_,h=>h
 | c::b,l,_=>Zqy A b (l:=A.next true l c) (by unfold Nf.next;simp)
theorem Zqz{A:Nf}(hA:A.Ok):∀(b:List Nat){l r:List Int},(∀x∈l,x∈r)->∀x∈A.run b l,x∈A.far b r
 | [],_,_,h=>h
 | c::b,l,r,h=>Zqz hA b (l:=A.step l c) (r:=A.next true r c) λx hx=>by
  unfold Nf.next
  simp only[if_true,List.mem_cons]
  exact .inr (Zom hA h c x hx)
theorem ZqA{A:Nf}{l r:List Int}(h:∀x∈l,x∈r)(ha:A.accepts l=true):A.accepts r=true:=by
 unfold Nf.accepts at ha ⊢
 rw[List.any_eq_true]at ha ⊢
 obtain⟨x,hx,h1⟩:=ha
 exact⟨x,h x hx,h1⟩
theorem Zon(A:Nf):∀(b:List Nat)(i:Nat)(l s:List Int)(x:Int),x∈A.runL true (λs n l=>if A.accepts l then s++[(n:Int)]else s) b i l s↔x∈s\/∃k,1<=k/\k<=b.length/\x=((i+k:Nat):Int)/\A.accepts (A.far (b.take k) l)=true
 | [],i,l,s,x=>by
  unfold Nf.runL
  constructor
  ·exact .inl
  ·rintro(h|⟨k,h1,h2,_⟩)
   ·exact h
   ·simp at h2;omega
 | c::b,i,l,s,x=>by
  unfold Nf.runL
  rw[Zon A b (i+1) (A.next true l c) _ x]
  constructor
  ·rintro(h|⟨k,h1,h2,h3,h4⟩)
   ·split at h
    ·rename_i ha
     rcases List.mem_append.1 h with h|h
     ·exact .inl h
     ·rw[List.mem_singleton]at h
      exact .inr ⟨1,by omega,by simp,h,ha⟩
    ·exact .inl h
   ·exact .inr ⟨k+1,by omega,by simp;omega,by rw[h3];congr 1;omega,h4⟩
  ·rintro(h|⟨k,h1,h2,h3,h4⟩)
   ·left;split
    ·exact List.mem_append.2 (.inl h)
    ·exact h
   ·by_cases hk:k=1
    ·subst hk
     left
     have h4:A.accepts (A.next true l c)=true:=h4
     rw[if_pos h4,h3]
     exact List.mem_append.2 (.inr (by simp))
    ·right
     obtain⟨j,rfl⟩:∃j,k=j+1:=⟨k - 1,by omega⟩
     exact⟨j,by omega,by simp at h2;omega,by rw[h3];congr 1;omega,h4⟩
theorem Ze5{A:Nf}(b:List Nat)(x:Int):x∈A.search b↔∃k,k<=b.length/\x=(k:Int)/\A.accepts (A.far (b.take k) [-1])=true:=by
 unfold Nf.search
 rw[Zon]
 constructor
 ·rintro(h|⟨k,h1,h2,h3,h4⟩)
  ·split at h
   ·rename_i ha
    rw[List.mem_singleton]at h
    exact⟨0,by omega,h,ha⟩
   ·simp at h
  ·exact⟨k,h2,by rw[h3,Nat.zero_add],h4⟩
 ·rintro⟨k,h1,h2,h3⟩
  by_cases hk:k=0
  ·subst hk
   left
   have h3:A.accepts [-1]=true:=h3
   rw[if_pos h3,h2];simp
  ·exact .inr ⟨k,by omega,h1,by rw[h2,Nat.zero_add],h3⟩
theorem Znd{A:Nf}(hA:A.Ok)(b:List Nat)(h:A.matches b=true):(b.length:Int)∈A.search b:=
 (Ze5 b _).2 ⟨b.length,Nat.le_refl _,rfl,by
  rw[List.take_length]
  exact ZqA (Zqz hA b λx hx=>hx) h⟩
theorem ZiK{A:Nf}(hA:A.Ok)(b c:List Nat){k:Int}(h:k∈A.search c):(b.length:Int)+k∈A.search (b++c):=by
 obtain⟨j,h1,rfl,h2⟩:=(Ze5 c k).1 h
 refine(Ze5 _ _).2 ⟨b.length+j,by rw[zA1];omega,by omega,?_⟩
 have e:(b++c).take (b.length+j)=b++c.take j:=by rw[List.take_append,List.take_of_length_le (by omega),Nat.add_sub_cancel_left]
 rw[e,ZsC]
 exact ZqA (Zqx hA _ λx hx=>by
  rw[List.mem_singleton]at hx;subst hx
  exact Zqy A b (by simp)) h2
theorem Zne{A:Nf}(c:List Nat){k:Int}(h:k∈A.search c):0<=k/\k<=c.length:=by
 obtain⟨j,h1,rfl,_⟩:=(Ze5 c k).1 h
 omega
end Go.Rx
namespace Go.Rx
open Go Go.Eng Go.RowKit
structure Seek (A:Nf)(todo:List Int)(f:Nat):Prop where
 rng:∀x∈todo,0<=x/\x<=A.top/\A.Reach x.toNat
 in_:∀i,f.testBit i=true->A.Reach i
 first:∀x∈A.first,x∈todo\/f.testBit x.toNat=true
 fol:∀(i:Nat)(l:List Int),f.testBit i=true->A.fol[i]?=some l->∀x∈l,x∈todo\/f.testBit x.toNat=true
theorem Seek.start{A:Nf}(hA:A.Ok):Seek A A.first 0:=by
 refine⟨λx hx=>?_,λi hi=>by simp at hi,λx hx=>.inl hx,λi l hi=>by simp at hi⟩
 have:=hA.first.2 x hx
 exact⟨by omega,this.2,.first (by rw[show((x.toNat:Nat):Int)=x by omega];exact hx)⟩
theorem Seek.skip{A:Nf}{x:Int}{todo:List Int}{f:Nat}(h:Seek A (x::todo) f)(hx:f.testBit x.toNat=true):Seek A todo f:=by
 refine⟨λy hy=>h.rng y (by simp[hy]),h.in_,λy hy=>?_,λi l hi hl y hy=>?_⟩
 ·rcases h.first y hy with h1|h1
  ·rcases List.mem_cons.1 h1 with rfl|h1
   ·exact .inr hx
   ·exact .inl h1
  ·exact .inr h1
 ·rcases h.fol i l hi hl y hy with h1|h1
  ·rcases List.mem_cons.1 h1 with rfl|h1
   ·exact .inr hx
   ·exact .inl h1
  ·exact .inr h1
theorem Seek.take{A:Nf}(hA:A.Ok){x:Int}{todo l:List Int}{f:Nat}(h:Seek A (x::todo) f)(hl:A.fol[x.toNat]?=some l):Seek A (todo++l) (f|||2 ^ x.toNat):=by
 have hx:=h.rng x (by simp)
 have gY:∀i,(f|||2 ^ x.toNat).testBit i=true↔f.testBit i=true\/i=x.toNat:=λi=>by
  simp only[Nat.testBit_or,Bool.or_eq_true,Nat.testBit_two_pow,decide_eq_true_eq]
  exact⟨λh=>h.imp_right Eq.symm,λh=>h.imp_right Eq.symm⟩
 refine⟨λy hy=>?_,λi hi=>?_,λy hy=>?_,λi r hi hr y hy=>?_⟩
 ·rcases List.mem_append.1 hy with hy|hy
  ·exact h.rng y (by simp[hy])
  ·have hb:=(hA.fol l (zA2 hl)).2 y hy
   exact⟨by omega,hb.2,.fol hx.2.2 hl (by rw[show((y.toNat:Nat):Int)=y by omega];exact hy)⟩
 ·rcases(gY i).1 hi with h1|rfl
  ·exact h.in_ i h1
  ·exact hx.2.2
 ·rcases h.first y hy with h1|h1
  ·rcases List.mem_cons.1 h1 with rfl|h1
   ·exact .inr ((gY _).2 (.inr rfl))
   ·exact .inl (by simp[h1])
  ·exact .inr ((gY _).2 (.inl h1))
 ·rcases(gY i).1 hi with h1|rfl
  ·rcases h.fol i r h1 hr y hy with h2|h2
   ·rcases List.mem_cons.1 h2 with rfl|h2
    ·exact .inr ((gY _).2 (.inr rfl))
    ·exact .inl (by simp[h2])
   ·exact .inr ((gY _).2 (.inl h2))
  ·rw[hl]at hr;cases hr
   exact .inl (by simp[hy])
theorem Seek.done{A:Nf}(hA:A.Ok){f:Nat}(h:Seek A [] f)(i:Nat):f.testBit i=true↔A.Reach i:=by
 refine⟨h.in_ i,λhr=>?_⟩
 induction hr with
 | first hp=>
  rcases h.first _ hp with h1|h1
  ·simp at h1
  ·simpa using h1
 | fol _ hl hq ih=>
  rcases h.fol _ _ ih hl _ hq with h1|h1
  ·simp at h1
  ·simpa using h1
def Src(l:List T)(s:Ms)(r:Pt×Ms):Prop:=∀q∈r.2.sets,q∈s.sets\/∃x∈l,x.k=2/\q=(x.s0,x.s1,x.s2,x.s3)
theorem Src.refl(l:List T)(s:Ms)(p:Pt):Src l s (p,s):=λq hq=>.inl hq
theorem Src.mono{l l':List T}{s:Ms}{r:Pt×Ms}(h:Src l s r)(hl:∀x∈l,x∈l'):Src l' s r:=λq hq=>(h q hq).imp_right λ⟨x,h1,h2⟩=>⟨x,hl x h1,h2⟩
theorem Src.trans{l:List T}{s s1:Ms}{p:Pt}{r:Pt×Ms}(h:Src l s (p,s1))(k:Src l s1 r):Src l s r:=λq hq=>by
 rcases k q hq with h1|h1
 ·exact h q h1
 ·exact .inr h1
theorem Zoo{f:Ms->Pt×Ms}{l:List T}(hf:∀s,Src l s (f s))(mn mx:Int)(n:Nat):∀(q i:Nat)(out:Pt)(s:Ms),Src l s (Zky f mn mx n q i out s)
 | 0,i,out,s=>Src.refl _ _ _
 | q+1,i,out,s=>by
  unfold Zky
  simp only
  generalize eU:(if mx=-1/\i+1=n then(⟨(f s).2.sets,ZcG (f s).2.fol (f s).1.last (f s).1.first⟩:Ms)else(f s).2)=s2
  have e:s2.sets=(f s).2.sets:=by rw[<-eU];split <;> rfl
  have h1:Src l s (out,s2):=λq hq=>hf s q (by rw[<-e];exact hq)
  refine h1.trans (λq hq=>?_)
  have:=Zoo hf mn mx n _ _ _ _ q hq
  exact this
mutual
theorem Znf:∀(t:T)(s:Ms),Src t.nodes s (mk t s)
 | .node k s0 s1 s2 s3 mn mx a c l,s=>by
  unfold mk
  split
  ·exact Src.refl _ _ _
  split
  ·exact Src.refl _ _ _
  split
  ·rename_i hk
   intro q hq
   simp only[List.mem_append,List.mem_singleton]at hq
   rcases hq with hq|rfl
   ·exact .inl hq
   ·exact .inr ⟨.node k s0 s1 s2 s3 mn mx a c l,by rw[Zbb];simp,hk,rfl⟩
  split
  ·exact(ZlV l _ s).mono (λx hx=>by rw[Zbb];exact List.mem_cons_of_mem _ hx)
  split
  ·exact(ZlW l _ s).mono (λx hx=>by rw[Zbb];exact List.mem_cons_of_mem _ hx)
  split
  ·exact(Zoo (λs=>Zop l s) _ _ _ _ _ _ _).mono (λx hx=>by rw[Zbb];exact List.mem_cons_of_mem _ hx)
  ·exact(Zop l s).mono (λx hx=>by rw[Zbb];exact List.mem_cons_of_mem _ hx)
theorem Zop:∀(l:List T)(s:Ms),Src (Zap l) s (ZiH l s)
 | [],s=>by unfold ZiH;exact Src.refl _ _ _
 | t::l,s=>by unfold ZiH;exact(Znf t s).mono (λx hx=>by simp[Zap,hx])
theorem ZlV:∀(l:List T)(out:Pt)(s:Ms),Src (Zap l) s (ZeK l out s)
 | [],out,s=>by unfold ZeK;exact Src.refl _ _ _
 | t::l,out,s=>by
  unfold ZeK
  have h1:Src (Zap (t::l)) s (mk t s):=(Znf t s).mono (λx hx=>by simp[Zap,hx])
  have h2:Src (Zap (t::l)) s (out,(Zgm out (mk t s).1 (mk t s).2).2):=h1
  exact h2.trans ((ZlV l _ _).mono (λx hx=>by simp[Zap,hx]))
theorem ZlW:∀(l:List T)(out:Pt)(s:Ms),Src (Zap l) s (ZdX l out s)
 | [],out,s=>by unfold ZdX;exact Src.refl _ _ _
 | t::l,out,s=>by
  unfold ZdX
  have h1:Src (Zap (t::l)) s (mk t s):=(Znf t s).mono (λx hx=>by simp[Zap,hx])
  have h2:Src (Zap (t::l)) s (out,(mk t s).2):=h1
  exact h2.trans ((ZlW l _ _).mono (λx hx=>by simp[Zap,hx]))
end
theorem ZlX{t:T}(h:t.nfit=true):t.light=true/\(∀x∈t.nodes,x.right=true)/\t.pos<=400:=by
 unfold T.nfit at h
 simp only[zA7,decide_eq_true_eq]at h
 obtain⟨hc,_,hp⟩:=h
 unfold T.clean at hc
 simp only[zA7,List.all_eq_true]at hc
 refine⟨hc.1,hc.2,?_⟩
 unfold T.positions at hp
 rw[hc.1]at hp;simpa using hp
theorem ZpC{t:T}(h:t.nfit=true):(t.auto.sets.length:Int)=t.pos:=by
 obtain⟨_,h1,h2⟩:=ZlX h
 have:=Zg0 t h1 (by omega) ⟨[],[]⟩
 have h3:=(ZeY t).1
 show((mk t ⟨[],[]⟩).2.sets.length:Int)=_
 rw[this];simp;omega
theorem ZqB{t:T}(h:t.nfit=true):t.auto.Ok:=by
 obtain⟨_,h1,h2⟩:=ZlX h
 have hc:=ZpC h
 have hg:=ZcX t ⟨[],[]⟩ ⟨rfl,λj x hj=>by simp at hj⟩
 have hn:t.auto.sets.length<=400:=by omega
 have hn':(mk t ⟨[],[]⟩).2.sets.length<=400:=hn
 have hl:t.auto.fol.length=t.auto.sets.length:=by
  show((mk t ⟨[],[]⟩).2.fol.map Zbv).length=_
  rw[List.length_map];exact hg.ok.len
 have jK:∀f:Nat,(∀i,f.testBit i=true->i < (mk t ⟨[],[]⟩).2.sets.length)->(Zbv f).Pairwise (· < ·)/\∀x∈Zbv f,-1 < x/\x<=t.auto.top:=λf hf=>by
  have:=Znc (f:=f) (n:=t.auto.sets.length) (by omega) hf
  rw[ZbH]at this
  exact this
 refine⟨hn,hl,jK _ hg.pt.1,jK _ hg.pt.2,λl hl=>?_,λq hq e=>?_⟩
 ·obtain⟨f,hf,rfl⟩:=List.mem_map.1 (show l∈(mk t ⟨[],[]⟩).2.fol.map Zbv from hl)
  obtain⟨j,hj⟩:=List.getElem?_of_mem hf
  exact jK f (hg.ok.fol j f hj)
 ·rcases Znf t ⟨[],[]⟩ q hq with h3|⟨x,hx,hk,rfl⟩
  ·simp at h3
  ·have hr:=Zfz (h1 x hx)
   rw[hk]at hr
   have hz:x.setZ=false:=by
    rcases hr with h4|h4|h4|h4|h4|h4
    ·omega
    ·exact h4.2.2
    ·omega
    ·omega
    ·omega
    ·omega
   unfold zQ at e
   simp only[Prod.mk.injEq]at e
   unfold T.setZ at hz
   rw[e.1,e.2.1,e.2.2.1,e.2.2.2]at hz;simp at hz
theorem Zng{t:T}(h:t.nfit=true):t.auto.right=true:=Zeo.2 (ZqB h)
theorem ZtC{t:T}{m:Mem}(h:Rep m t):∀q∈t.auto.sets,QOk q:=λq hq=>by
 rcases Znf t ⟨[],[]⟩ q hq with h3|⟨x,hx,hk,rfl⟩
 ·simp at h3
 ·have:=Zsp (ZlB h hx)
  exact⟨this.s0,this.s1,this.s2,this.s3⟩
theorem ZjF{t:T}(h:t.check=0):t.nfit=true/\t.isNone=false:=by
 unfold T.check at h
 have hc:t.clean=true:=by
  cases hc:t.clean with
  | true=>rfl
  | false=>rw[hc]at h;simp at h
 rw[if_neg (by rw[hc];simp)]at h
 by_cases hs:t.size > 120
 ·rw[if_pos hs]at h;omega
 rw[if_neg hs]at h
 by_cases hp:t.positions > 400
 ·rw[if_pos hp]at h;omega
 refine⟨by unfold T.nfit;rw[hc];simp;omega,?_⟩
 have hr:t.right=true:=by
  unfold T.clean at hc
  simp only[zA7,List.all_eq_true]at hc
  exact hc.2 t (by rw[Zbb];simp)
 unfold T.isNone
 rcases Zfz hr with h1|h1|h1|h1|h1|h1
 ·rw[h1.1];rfl
 ·rw[h1.1];rfl
 ·rw[h1];rfl
 ·rw[h1];rfl
 ·rw[h1.1];rfl
 ·rw[h1.1];rfl
theorem ZlY{t:T}(h:t.check=0):t.ofN=t.auto/\t.ofE=0:=by
 obtain⟨h1,h2⟩:=ZjF h
 unfold T.ofN T.ofE
 rw[h1,h2];exact⟨rfl,rfl⟩
structure Bad (t:T):Prop where
 k:t.k≠0
 no:t.check≠0
structure Says (t:T)(len:Nat)(i:Int)(e:Int):Prop where
 one:t.wrong len i=e
 rg:Rg.wrong ⟨false,false,t⟩ len i=e
 all:Ztz [⟨false,false,t⟩] len i=e
structure Asks (k:Nat)(t:T)(len:Nat)(i e:Int):Prop where
 vM:Says t len i e
 zero:k<=1->Says t len 0 e
 no:e≠0
 len:len<=513
end Go.Rx