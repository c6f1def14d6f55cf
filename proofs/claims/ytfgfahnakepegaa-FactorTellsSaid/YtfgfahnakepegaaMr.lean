/- Trees of regexes, what they mean, and Az they lie in memory; plain, no program is named. No condition. -/
import Derived.Test.YtfgfahnakepegaaMc
set_option linter.unusedVariables false
set_option linter.unusedSimpArgs false
namespace Go.Rx
open Go Go.Eng
inductive T where
 | node (k s0 s1 s2 s3 mn mx:Int) (a:Option Addr) (c:Nat) (subs:List T)
def T.k:T->Int
 | .node k _ _ _ _ _ _ _ _ _=>k
def T.s0:T->Int
 | .node _ s _ _ _ _ _ _ _ _=>s
def T.s1:T->Int
 | .node _ _ s _ _ _ _ _ _ _=>s
def T.s2:T->Int
 | .node _ _ _ s _ _ _ _ _ _=>s
def T.s3:T->Int
 | .node _ _ _ _ s _ _ _ _ _=>s
def T.mn:T->Int
 | .node _ _ _ _ _ x _ _ _ _=>x
def T.mx:T->Int
 | .node _ _ _ _ _ _ x _ _ _=>x
def T.a:T->Option Addr
 | .node _ _ _ _ _ _ _ a _ _=>a
def T.c:T->Nat
 | .node _ _ _ _ _ _ _ _ c _=>c
def T.subs:T->List T
 | .node _ _ _ _ _ _ _ _ _ l=>l
def T.sl(t:T):Value:=.slice t.a t.subs.length t.c
def T.cs(t:T):List Value:=[.int .u8 t.k,.int .u64 t.s0,.int .u64 t.s1,.int .u64 t.s2,.int .u64 t.s3,.int .i64 t.mn,.int .i64 t.mx,t.sl]
def T.v(t:T):Value:=.agg #[.int .u8 t.k,.int .u64 t.s0,.int .u64 t.s1,.int .u64 t.s2,.int .u64 t.s3,.int .i64 t.mn,.int .i64 t.mx,.slice t.a t.subs.length t.c]
structure OkN (k s0 s1 s2 s3 mn mx:Int):Prop where
 k:0<=k/\k < 256
 s0:0<=s0/\s0 < 18446744073709551616
 s1:0<=s1/\s1 < 18446744073709551616
 s2:0<=s2/\s2 < 18446744073709551616
 s3:0<=s3/\s3 < 18446744073709551616
 mn : -9223372036854775808<=mn/\mn<=9223372036854775807
 mx : -9223372036854775808<=mx/\mx<=9223372036854775807
mutual
def Rep(m:Mem):T->Prop
 | .node k s0 s1 s2 s3 mn mx a _ l=>l.length<=1000000000000000/\(l=[]\/∃b o,a=some ⟨b,o,none⟩/\RepAt m b o l)/\OkN k s0 s1 s2 s3 mn mx
def RepAt(m:Mem)(b:Nat):Nat->List T->Prop
 | _,[]=>True
 | o,t::l=>m.reads b o t.cs/\Rep m t/\RepAt m b (o+8) l
end
theorem Zhl{m:Mem}{t:T}:Rep m t->(t.subs.length<=1000000000000000/\(t.subs=[]\/∃b o,t.a=some ⟨b,o,none⟩/\RepAt m b o t.subs)):=by
 cases t;simp only[Rep,T.subs,T.a];exact λh=>⟨h.1,h.2.1⟩
theorem ZwZ{m:Mem}{t:T}:Rep m t->OkN t.k t.s0 t.s1 t.s2 t.s3 t.mn t.mx:=by
 cases t;simp only[Rep];exact λh=>h.2.2
theorem ZyF{m:Mem}{t:T}(h1:t.subs.length<=1000000000000000)(h2:t.subs=[]\/∃b o,t.a=some ⟨b,o,none⟩/\RepAt m b o t.subs)(h3:OkN t.k t.s0 t.s1 t.s2 t.s3 t.mn t.mx):Rep m t:=by
 cases t;simp only[Rep];exact⟨h1,h2,h3⟩
mutual
theorem Rep.mono{m m':Mem}(h:m.le m'):∀t:T,Rep m t->Rep m' t
 | .node _ _ _ _ _ _ _ a _ l,hr=>by
  simp only[Rep]at *
  refine⟨hr.1,?_,hr.2.2⟩
  rcases hr.2.1 with hr|⟨b,o,h1,h2⟩
  ·exact .inl hr
  ·exact .inr ⟨b,o,h1,RepAt.mono h b o l h2⟩
theorem RepAt.mono{m m':Mem}(h:m.le m')(b:Nat):∀(o:Nat)(l:List T),RepAt m b o l->RepAt m' b o l
 | _,[],_=>by simp only[RepAt]
 | o,t::l,hr=>by
  simp only[RepAt]at *
  exact⟨hr.1.mono h,Rep.mono h t hr.2.1,RepAt.mono h b (o+8) l hr.2.2⟩
end
theorem RepAt.get{m:Mem}{b:Nat}:∀{o:Nat} {l:List T} {i:Nat} {t:T},RepAt m b o l->l[i]?=some t->m.reads b (o+i*8) t.cs/\Rep m t
 | o,[],i,t,_,hi=>by simp at hi
 | o,x::l,0,t,h,hi=>by
  simp only[RepAt]at h
  simp at hi;subst hi
  exact⟨by simpa using h.1,h.2.1⟩
 | o,x::l,i+1,t,h,hi=>by
  simp only[RepAt]at h
  have:=h.2.2.get (i:=i) (by simpa using hi)
  rw[show o+(i+1)*8=o+8+i*8 by omega]
  exact this
mutual
def T.nodes:T->List T
 | .node k s0 s1 s2 s3 mn mx a c l=>.node k s0 s1 s2 s3 mn mx a c l::Zas l
def Zas:List T->List T
 | []=>[]
 | t::l=>t.nodes++Zas l
end
theorem ZbH(t:T):t.nodes=t::Zas t.subs:=by cases t;simp only[T.nodes,T.subs]
theorem Zc2(l r:List T):Zas (l++r)=Zas l++Zas r:=by
 induction l with
 | nil=>simp[Zas]
 | cons t l ih=>simp[Zas,ih,List.append_assoc]
theorem Zli{l:List T}{i:Nat}{t:T}(h:l[i]?=some t):Zas (l.take (i+1))=Zas (l.take i)++t.nodes:=by
 have:l.take (i+1)=l.take i++[t]:=by
  rw[List.take_add_one,h];rfl
 rw[this,Zc2];simp[Zas]
theorem Zdx{l:List T}{i:Nat}{t:T}(h:l[i]?=some t):Zas l=Zas (l.take i)++(t.nodes++Zas (l.drop (i+1))):=by
 have aS:=(List.getElem?_eq_some_iff.1 h).1
 have e:l=l.take i++(t::l.drop (i+1)):=by
  have:=List.drop_eq_getElem_cons aS
  rw[(List.getElem?_eq_some_iff.1 h).2]at this
  rw[<-this,List.take_append_drop]
 conv=>lhs;rw[e,Zc2]
 simp[Zas]
theorem Zw0{t x z:T}{i q:Nat}(hx:t.subs[i]?=some x)(hz:x.nodes[q]?=some z):t.nodes[1+(Zas (t.subs.take i)).length+q]?=some z:=by
 have hq:=(List.getElem?_eq_some_iff.1 hz).1
 rw[ZbH,show 1+(Zas (t.subs.take i)).length+q=((Zas (t.subs.take i)).length+q)+1 by omega,List.getElem?_cons_succ,Zdx hx,List.getElem?_append_right (by omega),List.getElem?_append_left (by omega),show(Zas (List.take i t.subs)).length+q - (Zas (List.take i t.subs)).length=q by omega]
 exact hz
theorem Zdy{t x:T}(h:x∈t.subs):SizeOf.sizeOf x < SizeOf.sizeOf t:=by
 cases t with
 | node k s0 s1 s2 s3 mn mx a c l=>
  have h':x∈l:=h
  have:=List.sizeOf_lt_of_mem h'
  simp only[T.node.sizeOf_spec]
  omega
theorem Zsg(t:T):Shape.fitsL [.agg [.int .u8,.int .u64,.int .u64,.int .u64,.int .u64,.int .i64,.int .i64,.slice]] [t.v]=true:=by
 simp[Shape.fitsL,Shape.fits,T.v]
mutual
theorem Zty{m:Mem}:∀(t:T),Rep m t->∀x∈t.nodes,Rep m x
 | .node k s0 s1 s2 s3 mn mx a c l,hr,x,hx=>by
  simp only[T.nodes,List.mem_cons]at hx
  rcases hx with rfl|hx
  ·exact hr
  ·simp only[Rep]at hr
   rcases hr.2.1 with h|⟨b,o,_,h⟩
   ·subst h;simp[Zas]at hx
   ·exact ZqD b o l h x hx
theorem ZqD{m:Mem}(b:Nat):∀(o:Nat)(l:List T),RepAt m b o l->∀x∈Zas l,Rep m x
 | _,[],_,x,hx=>by simp[Zas]at hx
 | o,t::l,hr,x,hx=>by
  simp only[RepAt]at hr
  simp only[Zas,List.mem_append]at hx
  rcases hx with hx|hx
  ·exact Zty t hr.2.1 x hx
  ·exact ZqD b (o+8) l hr.2.2 x hx
end
theorem Zl7{m:Mem}{t x:T}(h:Rep m t)(hx:x∈t.nodes):Rep m x:=Zty t h x hx
def Zcm(least most:Int):Bool:=!(decide (least < 0)||decide (least > 16)||(least == 1&&most == 1))&&(most == -1||(decide (most ≥ 1)&&decide (most<=16)&&decide (most ≥ least)))
def T.has(t:T)(k:Int):Bool:=t.subs.any λx=>x.k == k
def T.light(t:T):Bool:=decide (t.nodes.length<=10000)
def T.setZ(t:T):Bool:=t.s0 == 0&&t.s1 == 0&&t.s2 == 0&&t.s3 == 0
def T.right(t:T):Bool:=
 !(t.k != 2&&!t.setZ||(t.k != 5&&(t.mn != 0||t.mx != 0)||(decide (t.k < 3)&&decide (0 < t.subs.length)))) &&
 (if t.k=1 then true else if t.k=2 then !t.setZ else if t.k=3 then decide (1 < t.subs.length)&&(!t.has 1&&!t.has 3)else if t.k=4 then decide (1 < t.subs.length)&&!t.has 4
  else if t.k=5 then t.subs.length == 1&&(Zcm t.mn t.mx&&!t.has 1)else t.k == 6&&t.subs.length == 1)
def T.clean(t:T):Bool:=t.light&&t.nodes.all T.right
def T.size(t:T):Int:=if t.light then t.nodes.length else 10001
def T.groups(t:T):Int:=if t.light then(t.nodes.countP λx=>x.k == 6:Nat)else 10001
def Zw1(x y:Int):Int:=if y > x then y else x
def ZzC(x y:Int):Int:=if y < x then y else x
def ZAc(k mn mx sum:Int):Int:=ZzC (if k=5 then sum*ZzC (if mx=-1 then Zw1 (Zw1 mn 0) 1 else Zw1 (Zw1 mn 0) mx) 10001 else sum) 10001
mutual
def T.pos:T->Int
 | .node k _ _ _ _ mn mx _ _ l=>ZAc k mn mx ((if k=2 then 1 else 0)+ZrM l)
def ZrM:List T->Int
 | []=>0
 | t::l=>t.pos+ZrM l
end
def T.positions(t:T):Int:=if t.light then t.pos else 10001
def T.check(t:T):Int:=if t.clean=false then 80 else if t.size > 120 then 81 else if t.positions > 400 then 82 else if t.groups > 9 then 83 else 0
mutual
def T.same:T->T->Bool
 | .node k s0 s1 s2 s3 mn mx _ _ l,.node k' s0' s1' s2' s3' mn' mx' _ _ l'=>k == k'&&((s0 == s0'&&s1 == s1'&&s2 == s2'&&s3 == s3')&&(mn == mn'&&(mx == mx'&&Zd4 l l')))
def Zd4:List T->List T->Bool
 | [],[]=>true
 | t::l,t'::l'=>t.same t'&&Zd4 l l'
 | _,_=>false
end
theorem Zwi(t u:T):t.same u=(t.k == u.k&&((t.s0 == u.s0&&t.s1 == u.s1&&t.s2 == u.s2&&t.s3 == u.s3)&&(t.mn == u.mn&&(t.mx == u.mx&&Zd4 t.subs u.subs)))):=by
 cases t;cases u;simp only[T.same,T.k,T.s0,T.s1,T.s2,T.s3,T.mn,T.mx,T.subs]
theorem Zl8:∀{l r:List T},¬l.length=r.length->Zd4 l r=false
 | [],[],h=>by simp at h
 | [],_::_,_=>by simp[Zd4]
 | _::_,[],_=>by simp[Zd4]
 | x::l,y::r,h=>by
  simp only[Zd4,Zl8 (l:=l) (r:=r) (by simpa using h),Bool.and_false]
theorem Zpz:∀{l r:List T} {i:Nat} {x y:T},l[i]?=some x->r[i]?=some y->x.same y=false->Zd4 l r=false
 | [],r,i,x,y,h,_,_=>by simp at h
 | _::_,[],i,x,y,_,h,_=>by simp at h
 | a::l,b::r,0,x,y,h,k,e=>by
  simp at h k;subst h k
  simp[Zd4,e]
 | a::l,b::r,i+1,x,y,h,k,e=>by
  simp only[Zd4,Zpz (l:=l) (r:=r) (i:=i) (by simpa using h) (by simpa using k) e,Bool.and_false]
theorem ZjQ:∀{l r:List T} {i:Nat} {x y:T},l[i]?=some x->r[i]?=some y->Zd4 (l.take i) (r.take i)=true->x.same y=true->True->Zd4 (l.take (i+1)) (r.take (i+1))=true
 | [],r,i,x,y,h,_,_,_,_=>by simp at h
 | _::_,[],i,x,y,_,h,_,_,_=>by simp at h
 | a::l,b::r,0,x,y,h,k,_,e,_=>by
  simp at h k;subst h k
  simp[Zd4,e]
 | a::l,b::r,i+1,x,y,h,k,hs,e,_=>by
  simp only[List.take_succ_cons,Zd4,Bool.and_eq_true]at hs ⊢
  exact⟨hs.1,ZjQ (by simpa using h) (by simpa using k) hs.2 e trivial⟩
theorem ZyG(t:T):t.pos=ZAc t.k t.mn t.mx ((if t.k=2 then 1 else 0)+ZrM t.subs):=by
 cases t;simp only[T.pos,T.k,T.mn,T.mx,T.subs];congr 1
theorem Zlj(l r:List T):ZrM (l++r)=ZrM l+ZrM r:=by
 induction l with
 | nil=>simp[ZrM]
 | cons t l ih=>simp[ZrM,ih,Int.add_assoc]
theorem Ztz(x y:Int):x<=Zw1 x y/\y<=Zw1 x y:=by unfold Zw1;split <;> omega
theorem ZtA(x y:Int):ZzC x y<=x/\ZzC x y<=y:=by unfold ZzC;split <;> omega
theorem Zwj{x y:Int}(h:0<=x)(k:0<=y):0<=ZzC x y:=by unfold ZzC;split <;> omega
def ZBU(mn mx:Int):Int:=ZzC (if mx=-1 then Zw1 (Zw1 mn 0) 1 else Zw1 (Zw1 mn 0) mx) 10001
theorem ZyH(mn mx:Int):0<=ZBU mn mx/\ZBU mn mx<=10001:=by
 unfold ZBU
 refine⟨Zwj ?_ (by omega),(ZtA _ _).2⟩
 have h1:=Ztz mn 0
 split
 ·have:=Ztz (Zw1 mn 0) 1;omega
 ·have:=Ztz (Zw1 mn 0) mx;omega
theorem ZyI{k mn mx sum:Int}(h:0<=sum):0<=ZAc k mn mx sum/\ZAc k mn mx sum<=10001:=by
 have h2:=Int.mul_nonneg h (ZyH mn mx).1
 unfold ZAc
 refine⟨Zwj ?_ (by omega),(ZtA _ _).2⟩
 split
 ·exact h2
 ·exact h
mutual
theorem Zu6:∀t:T,0<=t.pos/\t.pos<=10001
 | .node k _ _ _ _ mn mx _ _ l=>by
  simp only[T.pos]
  have:=ZqE l
  exact ZyI (by split <;> omega)
theorem ZqE:∀l:List T,0<=ZrM l
 | []=>by simp[ZrM]
 | t::l=>by
  simp only[ZrM]
  have:=Zu6 t
  have:=ZqE l
  omega
end
theorem ZqF(t:T):t.subs.length < t.nodes.length:=by
 rw[ZbH,List.length_cons]
 have:∀l:List T,l.length<=(Zas l).length:=by
  intro l
  induction l with
  | nil=>simp[Zas]
  | cons x l ih=>simp only[Zas,List.length_cons,List.length_append];rw[ZbH];simp;omega
 have:=this t.subs
 omega
theorem Zu7{t x:T}(h:x∈t.subs):x.nodes.length < t.nodes.length:=by
 obtain⟨i,hi⟩:=List.getElem?_of_mem h
 rw[ZbH t,List.length_cons,Zdx hi]
 simp;omega
def T.hasB(t:T)(c:Nat):Bool:=((if c / 64=0 then t.s0 else if c / 64=1 then t.s1 else if c / 64=2 then t.s2 else t.s3).toNat).testBit (c % 64)
end Go.Rx
namespace Go.Rx
open Go Go.Eng Go.RowKit
def wdN(f j:Nat):Nat:=(f >>> (64*j)) % 2 ^ 64
theorem ZAP(n:Nat)(h:n < 18446744073709551616):IntKind.u64.wrap (n:Int)=n:=by
 unfold IntKind.wrap
 have e:(2:Int) ^ 64=18446744073709551616:=by decide
 simp only[IntKind.bits,IntKind.signed,Bool.false_and,Bool.false_eq_true,if_false,e]
 omega
theorem ZCj(a:Nat)(h:a < 18446744073709551616):(BitVec.ofInt 64 (a:Int)).toNat=a:=by
 rw[BitVec.toNat_ofInt]
 have e:((2:Nat) ^ 64:Nat)=18446744073709551616:=by decide
 rw[e];omega
theorem ZtB(a b:Nat)(ha:a < 18446744073709551616)(hb:b < 18446744073709551616):IntKind.u64.wrap ((BitVec.ofInt 64 (a:Int)|||BitVec.ofInt 64 (b:Int)).toNat:Int)=((a|||b:Nat):Int):=by
 rw[BitVec.toNat_or,ZCj a ha,ZCj b hb]
 exact ZAP _ (Nat.or_lt_two_pow (n:=64) ha hb)
end Go.Rx
set_option linter.unusedSectionVars false
namespace Go.Rx
open Go Go.Eng Go.RowKit
def Byt(m:Mem)(a:Option Addr)(s:List Nat):Prop:=(s=[]\/∃b o,a=some ⟨b,o,none⟩/\m.reads b o (s.map λc:Nat=>Value.int .u8 c))/\∀c∈s,c < 256
theorem Byt.mono{m m':Mem}{a s}(h:Byt m a s)(hm:m.le m'):Byt m' a s:=by
 refine⟨?_,h.2⟩
 rcases h.1 with h|⟨b,o,h1,h2⟩
 ·exact .inl h
 ·exact .inr ⟨b,o,h1,h2.mono hm⟩
theorem Byt.get{m:Mem}{a s}(h:Byt m a s){i c:Nat}(hi:s[i]?=some c):(∃b o,a=some ⟨b,o,none⟩/\m b (o+i)=some (.int .u8 c))/\c < 256:=by
 refine⟨?_,h.2 c (List.mem_of_getElem? hi)⟩
 rcases h.1 with h|⟨b,o,h1,h2⟩
 ·subst h;simp at hi
 ·exact⟨b,o,h1,h2 i _ (by rw[List.getElem?_map,hi];rfl)⟩
def ZBf(t:T)(back:Bool)(f i c out:Nat):Nat:=if(f.testBit (if back then i+1 else i)&&t.hasB c)=true then out|||2 ^ (if back then i else i+1)else out
def ZCk(t:T)(back:Bool)(f:Nat):List Nat->Nat->Nat->Nat
 | [],_,out=>out
 | c::s,i,out=>ZCk t back f s (i+1) (ZBf t back f i c out)
def ZBV(g:Nat->Nat):Nat->Nat->Nat
 | 0,f=>f
 | n+1,f=>ZBV g n (g f)
def ZAQ(g:Nat->Nat)(mx:Int):Nat->Int->Nat->Nat->Nat
 | 0,_,out,_=>out
 | n+1,k,out,last=>if k=mx then out else if out|||g last=out then out else ZAQ g mx n (IntKind.i64.wrap (k+1)) (out|||g last) (g last)
@[irreducible] def ZCE:Nat:=576
abbrev ZCF:Nat:=2 ^ ZCE
def ZCG(g:Nat->Nat)(mn mx:Int)(f:Nat):Nat:=ZAQ g mx (ZCF+1) mn (ZBV g mn.toNat f) (ZBV g mn.toNat f)
mutual
def T.lead(s:List Nat)(back:Bool):T->Nat->Nat
 | .node k s0 s1 s2 s3 mn mx a c l=>λf=>
  if k=1 then f else if k=2 then ZCk (.node k s0 s1 s2 s3 mn mx a c l) back f s 0 0
  else if k=3 then(if back then ZAS s back l f else ZAR s back l f)
  else if k=4 then ZCl s back l f 0
  else if k=5 then ZCG (ZAT s back l) mn mx f
  else if k=6 then ZAT s back l f else 0
def ZAR(s:List Nat)(back:Bool):List T->Nat->Nat
 | []=>λf=>f
 | t::l=>λf=>ZAR s back l (t.lead s back f)
def ZAS(s:List Nat)(back:Bool):List T->Nat->Nat
 | []=>λf=>f
 | t::l=>λf=>t.lead s back (ZAS s back l f)
def ZCl(s:List Nat)(back:Bool):List T->Nat->Nat->Nat
 | []=>λ_ out=>out
 | t::l=>λf out=>ZCl s back l f (out|||t.lead s back f)
def ZAT(s:List Nat)(back:Bool):List T->Nat->Nat
 | []=>λf=>f
 | t::_=>λf=>t.lead s back f
end
section
variable {s:List Nat} {back:Bool}
end
theorem Zb8{α:Type}{l:List α}{i:Nat}{x:α}(h:l[i]?=some x):l.take (i+1)=l.take i++[x]:=by
 rw[List.take_add_one,h];rfl
section
variable (s:List Nat) (back:Bool) (hs:s.length<=512)
include hs
end
end Go.Rx
namespace Go.Rx
open Go Go.Eng Go.RowKit
def T0:T:=.node 0 0 0 0 0 0 0 none 0 []
def T1:T:=.node 1 0 0 0 0 0 0 none 0 []
theorem Zl9(m:Mem):Rep m T0:=by simp only[T0,Rep];exact⟨by simp,.inl trivial,by constructor <;> decide⟩
theorem Zu8(m:Mem):Rep m T1:=by simp only[T1,Rep];exact⟨by simp,.inl trivial,by constructor <;> decide⟩
def T.isNone(t:T):Bool:=t.k == 0&&(t.light&&(T0.light&&t.same T0))
def T.wrong(t:T)(len:Nat)(i:Int):Int:=if(!t.isNone&&!(t.check == 0))=true then 130 else if(len:Int) > 512 then 3 else if i < 0\/i > len then 2 else 0
structure Rg where
 bg:Bool
 en:Bool
 t:T
def Rg.v(r:Rg):Value:=.agg #[.bool r.bg,.bool r.en,.int .u8 r.t.k,.int .u64 r.t.s0,.int .u64 r.t.s1,.int .u64 r.t.s2,.int .u64 r.t.s3,.int .i64 r.t.mn,.int .i64 r.t.mx,.slice r.t.a r.t.subs.length r.t.c]
def Rg.cs(r:Rg):List Value:=[.bool r.bg,.bool r.en,.int .u8 r.t.k,.int .u64 r.t.s0,.int .u64 r.t.s1,.int .u64 r.t.s2,.int .u64 r.t.s3,.int .i64 r.t.mn,.int .i64 r.t.mx,.slice r.t.a r.t.subs.length r.t.c]
def Rgs(m:Mem)(a:Option Addr)(l:List Rg):Prop:=l.length<=1000000000000000/\(l=[]\/∃b o,a=some ⟨b,o,none⟩/\∀i r,l[i]?=some r->m.reads b (o+i*10) r.cs)/\∀r∈l,Rep m r.t
theorem Rgs.mono{m m':Mem}{a l}(h:Rgs m a l)(hm:m.le m'):Rgs m' a l:=by
 refine⟨h.1,?_,λr hr=>(h.2.2 r hr).mono hm⟩
 rcases h.2.1 with h|⟨b,o,h1,h2⟩
 ·exact .inl h
 ·exact .inr ⟨b,o,h1,λi r hi=>(h2 i r hi).mono hm⟩
def ZAd(f:Nat):List Nat:=(List.range 513).filter λi=>f.testBit i
def ZyJ(n:Nat):List Nat->Option Nat
 | []=>none
 | i::_=>if i > n then none else some i
def Rg.from(s:List Nat)(n:Nat)(r:Rg):Option Nat:=if(r.en&&decide ((n:Int) < s.length))=true then none else if r.bg then(if(r.t.lead s true (2 ^ n)).testBit 0 then some 0 else none)else
 ZyJ n (ZAd (r.t.lead s true (2 ^ n)))
def Rg.wrong(r:Rg)(len:Nat)(n:Int):Int:=if r.t.check=0 then r.t.wrong len n else 130
def ZAe(l:List Rg)(len:Nat)(n:Int):Int:=if(l.length:Int) > 64 then 5 else if l.all (λr=>r.t.check == 0)then T1.wrong len n else 130
end Go.Rx
namespace Go.Rx
open Go Go.Eng Go.RowKit
def ZdM(φ:T->Prop):Value->Mem->List (List Value)->Prop:=λv m' _=>∃t:T,v=t.v/\Rep m' t/\φ t
abbrev TRK:=Int->Int->Int->Int->Int->Int->Int->Option Addr->Nat->Nat->Mem->Prop
theorem ZbR{φ:T->Prop}{m:Mem}{K:TRK}(k:∀(t:T)(m':Mem),m.le m'->Rep m' t->φ t->K t.k t.s0 t.s1 t.s2 t.s3 t.mn t.mx t.a t.subs.length t.c m'):
  ∀(n0 n1 n2 n3 n4 n5 n6:Int)(a:Option Addr)(n c:Nat)(m':Mem),m.le m'->ZdM φ (.agg #[.int .u8 n0,.int .u64 n1,.int .u64 n2,.int .u64 n3,.int .u64 n4,.int .i64 n5,.int .i64 n6,.slice a n c]) m' []->K n0 n1 n2 n3 n4 n5 n6 a n c m':=by
 rintro n0 n1 n2 n3 n4 n5 n6 a n c m' hm ⟨t,hv,hr,hp⟩
 simp only[T.v,Value.agg.injEq,Array.mk.injEq,List.cons.injEq,Value.int.injEq,Value.slice.injEq,true_and,and_true]at hv
 obtain⟨rfl,rfl,rfl,rfl,rfl,rfl,rfl,rfl,rfl,rfl⟩:=hv
 exact k t m' hm hr hp
theorem ZaF{φ:T->Prop}:∀(v:Value)(m':Mem) (css:List (List Value)),ZdM φ v m' css->Shape.fits (.agg [.int .u8,.int .u64,.int .u64,.int .u64,.int .u64,.int .i64,.int .i64,.slice]) v=true:=λv _ _ ⟨t,e,_⟩=>by rw[e];rfl
def Zma(c j:Nat):Int:=if c / 64=j then((2 ^ (c % 64):Nat):Int)else 0
def Zao(c:Nat):T:=.node 2 (Zma c 0) (Zma c 1) (Zma c 2) (Zma c 3) 0 0 none 0 []
theorem Zmb(c j:Nat):0<=Zma c j/\Zma c j < 18446744073709551616:=by
 unfold Zma
 split
 ·have h:(2:Nat) ^ (c % 64) < 2 ^ 64:=Nat.pow_lt_pow_right (by omega) (by omega)
  have e:(2:Nat) ^ 64=18446744073709551616:=by decide
  rw[e]at h
  generalize (2:Nat) ^ (c % 64)=w at *
  exact⟨by omega,by omega⟩
 ·omega
theorem ZnX(c:Nat)(m:Mem):Rep m (Zao c):=by
 simp only[Zao,Rep]
 exact⟨by simp,.inl trivial,⟨by omega,Zmb c 0,Zmb c 1,Zmb c 2,Zmb c 3,by omega,by omega⟩⟩
def RepL(m:Mem)(a:Option Addr)(l:List T):Prop:=l.length<=1000000000000000/\(l=[]\/∃b o,a=some ⟨b,o,none⟩/\RepAt m b o l)
theorem RepL.mono{m m':Mem}{a l}(h:RepL m a l)(hm:m.le m'):RepL m' a l:=by
 refine⟨h.1,?_⟩
 rcases h.2 with h|⟨b,o,h1,h2⟩
 ·exact .inl h
 ·exact .inr ⟨b,o,h1,h2.mono hm⟩
theorem Rep.subs{m:Mem}{t:T}(h:Rep m t):RepL m t.a t.subs:=Zhl h
def Zb5(k mn mx:Int)(a:Option Addr)(c:Nat)(l:List T):T:=.node k 0 0 0 0 mn mx a c l
theorem Zd5{m:Mem}{k mn mx:Int}{a:Option Addr}{c:Nat}{l:List T}(h:RepL m a l)(hk:0<=k/\k < 256)(h1 : -9223372036854775808<=mn/\mn<=9223372036854775807)(h2 : -9223372036854775808<=mx/\mx<=9223372036854775807):Rep m (Zb5 k mn mx a c l):=by
 simp only[Zb5,Rep]
 exact⟨h.1,h.2,⟨hk,by omega,by omega,by omega,by omega,h1,h2⟩⟩
theorem ZpA{m:Mem}{b:Nat}{t:T}(h:m.reads b 0 t.cs)(hr:Rep m t):RepL m (some ⟨b,0,none⟩) [t]:=⟨by simp,.inr ⟨b,0,rfl,by simp only[RepAt];exact⟨h,hr,trivial⟩⟩⟩
def ZcM(l:List T):List Value:=(l.map T.cs).flatten
theorem ZaN(l:List T):(ZcM l).length=l.length*8:=by
 induction l with
 | nil=>rfl
 | cons t l ih=>simp[ZcM,T.cs]at ih ⊢;omega
theorem Zd6(l:List T)(t:T):ZcM (l++[t])=ZcM l++t.cs:=by simp[ZcM]
theorem Zcv(l r:List T):ZcM (l++r)=ZcM l++ZcM r:=by simp[ZcM]
theorem ZtC{m:Mem}{b:Nat}:∀{o:Nat} {l:List T},m.reads b o (ZcM l)->(∀t∈l,Rep m t)->RepAt m b o l
 | o,[],_,_=>by simp only[RepAt]
 | o,t::l,h,hr=>by
  simp only[RepAt]
  refine⟨λj v hj=>?_,hr t (by simp),ZtC (λj v hj=>?_) λx hx=>hr x (by simp[hx])⟩
  ·refine h j v ?_
   simp only[ZcM,List.map_cons,List.flatten_cons]
   rw[List.getElem?_append_left (List.getElem?_eq_some_iff.1 hj).1];exact hj
  ·have:=h (8+j) v (by
    simp only[ZcM,List.map_cons,List.flatten_cons]
    rw[List.getElem?_append_right (by simp[T.cs])]
    have e:8+j - t.cs.length=j:=by simp[T.cs]
    rw[e];exact hj)
   rw[show o+8+j=o+(8+j) by omega];exact this
theorem Zd7{m:Mem}{a:Option Addr}{l:List T}(h:rowRd m a (ZcM l))(hr:∀t∈l,Rep m t)(hl:l.length<=1000000000000000):RepL m a l:=by
 refine⟨hl,?_⟩
 cases l with
 | nil=>exact .inl rfl
 | cons t l=>
  rcases h with h|⟨b,o,h1,h2⟩
  ·simp[ZcM,T.cs]at h
  ·exact .inr ⟨b,o,h1,ZtC h2 hr⟩
theorem ZaL{m:Mem}{a:Option Addr}{l:List T}(h:RepL m a l):rowRd m a (ZcM l):=by
 have key:∀(l:List T)(b o:Nat),RepAt m b o l->m.reads b o (ZcM l):=by
  intro l
  induction l with
  | nil=>intro b o _ j v hj;simp[ZcM]at hj
  | cons t l ih=>
   intro b o hr j v hj
   simp only[RepAt]at hr
   simp only[ZcM,List.map_cons,List.flatten_cons]at hj
   by_cases aS:j < 8
   ·rw[List.getElem?_append_left (by simpa[T.cs]using aS)]at hj
    exact hr.1 j v hj
   ·rw[List.getElem?_append_right (by simp[T.cs];omega)]at hj
    have:=ih b (o+8) hr.2.2 (j - 8) v (by simpa[T.cs,ZcM]using hj)
    rw[show o+8+(j - 8)=o+j by omega]at this;exact this
 rcases h.2 with h|⟨b,o,h1,h2⟩
 ·subst h;exact .inl rfl
 ·exact .inr ⟨b,o,h1,key l b o h2⟩
theorem ZbN{m:Mem}{a:Option Addr}{l:List T}(h:RepL m a l):∀t∈l,Rep m t:=by
 rcases h.2 with h|⟨b,o,_,h⟩
 ·subst h;simp
 ·intro t ht
  obtain⟨i,hi⟩:=List.getElem?_of_mem ht
  exact(h.get hi).2
end Go.Rx
namespace Go.Rx
open Go Go.Eng Go.RowKit
def T.good(t:T):Bool:=t.nodes.all T.right
def isG(t:T):Bool:=t.k == 6
theorem ZnY(p:T->Bool):∀l:List T,(Zas l).all p=l.all λt=>t.nodes.all p
 | []=>rfl
 | t::l=>by simp only[Zas,List.all_append,List.all_cons,ZnY p l]
theorem ZfT(t:T):t.good=(t.right&&t.subs.all T.good):=by
 unfold T.good;rw[ZbH,List.all_cons,ZnY]
def grL(l:List T):Nat:=(Zas l).countP isG
def szL(l:List T):Nat:=(Zas l).length
def T.gr(t:T):Nat:=t.nodes.countP isG
theorem Zcn(l r:List T):szL (l++r)=szL l+szL r:=by unfold szL;rw[Zc2,List.length_append]
theorem Zc3(l r:List T):grL (l++r)=grL l+grL r:=by unfold grL;rw[Zc2,List.countP_append]
theorem ZdN(t:T):szL [t]=t.nodes.length:=by simp[szL,Zas]
theorem Zlk(t:T):grL [t]=t.gr:=by simp[grL,Zas,T.gr]
theorem ZpB(t:T):ZrM [t]=t.pos:=by simp[ZrM]
theorem Zbo(t:T)(l:List T):szL (t::l)=t.nodes.length+szL l:=by simp[szL,Zas]
theorem ZdO(t:T)(l:List T):grL (t::l)=t.gr+grL l:=by simp[grL,Zas,T.gr,List.countP_append]
theorem Zcr(t:T):t.nodes.length=1+szL t.subs:=by rw[ZbH,List.length_cons,szL];omega
theorem Zpt(t:T):t.gr=(if isG t=true then 1 else 0)+grL t.subs:=by
 unfold T.gr;rw[ZbH,List.countP_cons,grL];omega
theorem ZbY(l:List T):l.length<=szL l:=by
 induction l with
 | nil=>simp
 | cons t l ih=>rw[Zbo,Zcr,List.length_cons];omega
def ZrN(k:Int)(t:T):List T:=if t.k=k then t.subs else if k=3/\t.k=1 then[]else[t]
def ZcR(k:Int)(a:Option Addr)(c:Nat):List T->T
 | []=>T1
 | [x]=>x
 | x::y::l=>Zb5 k 0 0 a c (x::y::l)
theorem Zco{t:T}{k:Int}(h:t.has k=false):∀x∈t.subs,x.k≠k:=by
 intro x hx e
 unfold T.has at h
 have:=List.any_eq_false.1 h x hx
 simp[e]at this
theorem Zsh{t:T}{k:Int}(h:∀x∈t.subs,x.k≠k):t.has k=false:=by
 unfold T.has
 rw[List.any_eq_false]
 intro x hx
 have:=h x hx
 simpa using this
theorem ZtD{k:Int}{t:T}(hk:k=3\/k=4)(hg:t.good=true)(hp:t.pos<=10000):(∀x∈ZrN k t,x.good=true/\x.k≠k/\(k=3->x.k≠1))/\szL (ZrN k t)<=t.nodes.length/\grL (ZrN k t)<=t.gr/\ZrM (ZrN k t)<=t.pos:=by
 have hg':=hg
 rw[ZfT,Bool.and_eq_true,List.all_eq_true]at hg'
 unfold ZrN
 split
 ·rename_i dQ
  refine⟨λx hx=>⟨hg'.2 x hx,?_⟩,by rw[Zcr];omega,by rw[Zpt];omega,?_⟩
  ·have hr:=hg'.1
   unfold T.right at hr
   rw[Bool.and_eq_true]at hr
   have hr:=hr.2
   rcases hk with rfl|rfl
   ·simp only[dQ]at hr
    simp at hr
    exact⟨Zco hr.2.2 x hx,λ_=>Zco hr.2.1 x hx⟩
   ·simp only[dQ]at hr
    simp at hr
    exact⟨Zco hr.2 x hx,λh=>by omega⟩
  ·rw[ZyG]at hp ⊢
   have h5:¬t.k=5:=by omega
   have h2:¬t.k=2:=by omega
   unfold ZAc at hp ⊢
   rw[if_neg h5,if_neg h2,Int.zero_add]at hp ⊢
   unfold ZzC at hp ⊢
   split at hp
   ·omega
   ·split <;> omega
 ·rename_i dQ
  split
  ·refine⟨λx hx=>by simp at hx,by simp[szL,Zas],by simp[grL,Zas],?_⟩
   simp only[ZrM];exact(Zu6 t).1
  ·rename_i yw
   refine⟨λx hx=>?_,by rw[ZdN];exact Nat.le_refl _,by rw[Zlk];exact Nat.le_refl _,by rw[ZpB];exact Int.le_refl _⟩
   simp at hx;subst hx
   exact⟨hg,dQ,λh=>λh1=>yw ⟨h,h1⟩⟩
theorem ZgD{k:Int}(hk:k=3\/k=4)(a:Option Addr)(c:Nat):∀{l:List T},(∀x∈l,x.good=true/\x.k≠k/\(k=3->x.k≠1))->(ZcR k a c l).good=true/\(ZcR k a c l).nodes.length<=1+szL l/\(ZcR k a c l).gr<=grL l/\(ZcR k a c l).pos<=ZrM l
 | [],_=>⟨show T1.good=true by decide,show T1.nodes.length<=1 by decide,show T1.gr<=0 by decide,show T1.pos<=0 by decide⟩
 | [x],h=>by
  rw[ZdN,Zlk,ZpB]
  exact⟨(h x (by simp)).1,by show x.nodes.length<=_;omega,Nat.le_refl _,Int.le_refl _⟩
 | x::y::l,h=>by
  show(Zb5 k 0 0 a c (x::y::l)).good=true/\(Zb5 k 0 0 a c (x::y::l)).nodes.length<=_/\(Zb5 k 0 0 a c (x::y::l)).gr<=_/\(Zb5 k 0 0 a c (x::y::l)).pos<=_
  have hs:(Zb5 k 0 0 a c (x::y::l)).subs=x::y::l:=rfl
  have dQ:(Zb5 k 0 0 a c (x::y::l)).k=k:=rfl
  have hz:(Zb5 k 0 0 a c (x::y::l)).setZ=true:=rfl
  have qJ:(Zb5 k 0 0 a c (x::y::l)).mn=0:=rfl
  have lX:(Zb5 k 0 0 a c (x::y::l)).mx=0:=rfl
  refine⟨?_,by rw[Zcr,hs];exact Nat.le_refl _,?_,?_⟩
  ·rw[ZfT,Bool.and_eq_true,List.all_eq_true,hs]
   refine⟨?_,λz hz=>(h z hz).1⟩
   have h1:k=3->(Zb5 k 0 0 a c (x::y::l)).has 1=false:=λe=>Zsh λz hz=>(h z hz).2.2 e
   have h2:(Zb5 k 0 0 a c (x::y::l)).has k=false:=Zsh λz hz=>(h z hz).2.1
   unfold T.right
   rw[dQ,hz,qJ,lX,hs]
   rcases hk with rfl|rfl
   ·simp[h1 rfl,h2]
   ·simp[h2]
  ·rw[Zpt,hs,isG,dQ]
   rcases hk with rfl|rfl <;> simp
  ·rw[ZyG,dQ,qJ,lX,hs]
   unfold ZAc
   rw[if_neg (by omega),if_neg (by omega),Int.zero_add]
   exact(ZtA _ _).1
structure J (i:Nat)(ts:List T)(u g:Nat):Prop where
 good:∀t∈ts,t.good=true
 sz:szL ts<=i
 pos:ZrM ts<=(i*u:Nat)
 u1:1<=u
 u16:u<=16
 gr:grL ts<=g
 g9:g<=9
theorem J.zero:J 0 [] 1 0:=⟨by simp,by simp[szL,Zas],by simp[ZrM],by omega,by omega,by simp[grL,Zas],by omega⟩
theorem J.skip{i ts u g}(h:J i ts u g):J (i+1) ts u g:=
 ⟨h.good,by have:=h.sz;omega,by have:=h.pos;have e:(i+1)*u=i*u+u:=Nat.succ_mul i u;rw[e];omega,h.u1,h.u16,h.gr,h.g9⟩
theorem J.push{i ts u g}(h:J i ts u g){t:T}(hg:t.good=true)(hs:t.nodes.length=1)(hp:t.pos<=1)(hr:t.gr=0):J (i+1) (ts++[t]) u g:=by
 refine⟨λx hx=>?_,?_,?_,h.u1,h.u16,?_,h.g9⟩
 ·rcases List.mem_append.1 hx with hx|hx
  ·exact h.good x hx
  ·simp at hx;subst hx;exact hg
 ·rw[Zcn,ZdN,hs];have:=h.sz;omega
 ·rw[Zlj,ZpB];have:=h.pos;have:=h.u1;have e:(i+1)*u=i*u+u:=Nat.succ_mul i u;rw[e];omega
 ·rw[Zc3,Zlk,hr];have:=h.gr;omega
structure F (t:T)(l:List T):Prop where
 good:t.good=true
 goods:∀x∈l,x.good=true
 sz:t.nodes.length+szL l+l.length<=60
 pos:t.pos+ZrM l<=400
 gr:t.gr+grL l<=9
theorem F.step{t x:T}{l:List T}(h:F t (x::l))(a:Option Addr)(c:Nat):F (ZcR 4 a c (ZrN 4 t++ZrN 4 x)) l:=by
 have h1:=h.sz
 have h2:=h.pos
 have h3:=h.gr
 rw[Zbo,List.length_cons]at h1
 rw[ZdO]at h3
 simp only[ZrM]at h2
 have n1:=ZqE l
 have n2:=(Zu6 x).1
 have n3:=(Zu6 t).1
 obtain⟨a1,a2,a3,a4⟩:=ZtD (.inr rfl) h.good (by omega) (t:=t)
 obtain⟨b1,b2,b3,b4⟩:=ZtD (.inr rfl) (h.goods x (by simp)) (by omega)
 obtain⟨c1,c2,c3,c4⟩:=ZgD (.inr rfl) a c (l:=ZrN 4 t++ZrN 4 x) (λz hz=>by
  rcases List.mem_append.1 hz with hz|hz
  ·exact a1 z hz
  ·exact b1 z hz)
 rw[Zcn]at c2
 rw[Zc3]at c3
 rw[Zlj]at c4
 exact⟨c1,λz hz=>h.goods z (by simp[hz]),by omega,by omega,by omega⟩
theorem F.done{t:T}{l:List T}(h:F t l):t.check=0:=by
 have h1:=h.sz
 have h2:=h.pos
 have h3:=h.gr
 have n1:=ZqE l
 have hl:t.light=true:=by unfold T.light;exact decide_eq_true (by omega)
 have hc:t.clean=true:=by unfold T.clean;rw[hl];exact h.good
 have hg:((t.nodes.countP λx=>x.k == 6:Nat))=t.gr:=rfl
 unfold T.check
 rw[hc]
 unfold T.size T.positions T.groups
 rw[hl,hg]
 simp only[if_true,Bool.true_eq_false,if_false]
 rw[if_neg (by omega),if_neg (by omega),if_neg (by omega)]
end Go.Rx
namespace Go.Rx
open Go Go.Eng Go.RowKit
set_option maxRecDepth 100000
theorem Zam{t:T}(h:t.good=true):t.right=true/\∀x∈t.subs,x.good=true:=by
 rw[ZfT,Bool.and_eq_true,List.all_eq_true]at h;exact h
theorem Zll{t:T}(h:t.right=true):t.k=1\/t.k=2\/t.k=3\/t.k=4\/(t.k=5/\(∃x,t.subs=[x])/\0<=t.mn/\t.mn<=16/\(t.mx=-1\/(1<=t.mx/\t.mn<=t.mx/\t.mx<=16)))\/(t.k=6/\∃x,t.subs=[x]):=by
 have one:(t.subs.length == 1)=true->∃x,t.subs=[x]:=λe=>by
  have:t.subs.length=1:=by simpa using e
  match bK:t.subs,this with
  | [x],_=>exact⟨x,rfl⟩
 unfold T.right at h
 rw[Bool.and_eq_true]at h
 have h:=h.2
 by_cases h1:t.k=1
 ·exact .inl h1
 by_cases h2:t.k=2
 ·exact .inr (.inl h2)
 by_cases h3:t.k=3
 ·exact .inr (.inr (.inl h3))
 by_cases h4:t.k=4
 ·exact .inr (.inr (.inr (.inl h4)))
 by_cases h5:t.k=5
 ·rw[if_neg h1,if_neg h2,if_neg h3,if_neg h4,if_pos h5]at h
  rw[Bool.and_eq_true,Bool.and_eq_true]at h
  obtain⟨a,b,_⟩:=h
  unfold Zcm at b
  simp at b
  exact .inr (.inr (.inr (.inr (.inl ⟨h5,one a,by omega,by omega,by omega⟩))))
 ·rw[if_neg h1,if_neg h2,if_neg h3,if_neg h4,if_neg h5,Bool.and_eq_true]at h
  exact .inr (.inr (.inr (.inr (.inr ⟨by simpa using h.1,one h.2⟩))))
mutual
def T.er:T->T
 | .node k s0 s1 s2 s3 mn mx _ _ l=>.node k s0 s1 s2 s3 mn mx none 0 (erL l)
def erL:List T->List T
 | []=>[]
 | t::l=>t.er::erL l
end
theorem ZdP:∀l:List T,erL l=l.map T.er
 | []=>rfl
 | t::l=>by simp only[erL,List.map_cons,ZdP l]
@[simp] theorem Zv3 (t:T):t.er.k=t.k:=by cases t;rfl
@[simp] theorem ZBg (t:T):t.er.s0=t.s0:=by cases t;rfl
@[simp] theorem ZBh (t:T):t.er.s1=t.s1:=by cases t;rfl
@[simp] theorem ZBi (t:T):t.er.s2=t.s2:=by cases t;rfl
@[simp] theorem ZBj (t:T):t.er.s3=t.s3:=by cases t;rfl
@[simp] theorem ZBk (t:T):t.er.mn=t.mn:=by cases t;rfl
@[simp] theorem ZBl (t:T):t.er.mx=t.mx:=by cases t;rfl
@[simp] theorem Zhm (t:T):t.er.subs=t.subs.map T.er:=by cases t;simp only[T.er,T.subs,ZdP]
mutual
theorem Zhn:∀t:T,t.er.nodes=t.nodes.map T.er
 | .node k s0 s1 s2 s3 mn mx a c l=>by
  simp only[T.er,T.nodes,List.map_cons]
  rw[ZqG l]
theorem ZqG:∀l:List T,Zas (erL l)=(Zas l).map T.er
 | []=>rfl
 | t::l=>by simp only[erL,Zas,List.map_append,Zhn t,ZqG l]
end
theorem ZAf(t:T)(k:Int):t.er.has k=t.has k:=by
 unfold T.has;rw[Zhm,List.any_map];congr 1;funext x;simp
theorem Zw2(t:T):t.er.right=t.right:=by
 unfold T.right T.setZ
 simp only[ZAf,Zv3,ZBg,ZBh,ZBi,ZBj,ZBk,ZBl,Zhm,List.length_map]
theorem ZjR(t:T):t.er.light=t.light:=by unfold T.light;rw[Zhn,List.length_map]
theorem ZyK(l:List T):(l.map T.er).all T.right=l.all T.right:=by
 rw[List.all_map];congr 1;funext x;exact Zw2 x
theorem ZtE(t:T):t.er.clean=t.clean:=by unfold T.clean;rw[ZjR,Zhn,ZyK]
theorem Zcw(t:T):t.er.good=t.good:=by unfold T.good;rw[Zhn,ZyK]
def T.caps(t:T):Prop:=∀x∈t.nodes,x.subs.length<=x.c
theorem Zho{t x:T}(h:t.caps)(hx:x∈t.subs):x.caps:=λy hy=>h y (by
 rw[ZbH]
 refine List.mem_cons_of_mem _ ?_
 obtain⟨i,hi⟩:=List.getElem?_of_mem hx
 rw[Zdx hi]
 simp[hy])
theorem ZgE{k s0 s1 s2 s3 mn mx:Int}{a:Option Addr}{c:Nat}{l:List T}(h:l.length<=c)(hl:∀x∈l,x.caps):(T.node k s0 s1 s2 s3 mn mx a c l).caps:=by
 intro y hy
 rw[ZbH]at hy
 rcases List.mem_cons.1 hy with rfl|hy
 ·exact h
 ·obtain⟨x,hx,hy⟩:∃x∈l,y∈x.nodes:=by
   have:∀l:List T,y∈Zas l->∃x∈l,y∈x.nodes:=λl=>by
    induction l with
    | nil=>intro h;simp[Zas]at h
    | cons x l ih=>
     intro h
     simp only[Zas,List.mem_append]at h
     rcases h with h|h
     ·exact⟨x,by simp,h⟩
     ·obtain⟨z,hz,h⟩:=ih h
      exact⟨z,by simp[hz],h⟩
   exact this l hy
  exact hl x hx y hy
theorem Zhp{t:T}(h:t.caps):t.subs.length<=t.c:=h t (by rw[ZbH];simp)
theorem ZtF{k s0 s1 s2 s3 mn mx:Int}{a a':Option Addr}{c c':Nat}{l l':List T}(h:l.map T.er=l'.map T.er):(T.node k s0 s1 s2 s3 mn mx a c l).er=(T.node k s0 s1 s2 s3 mn mx a' c' l').er:=by
 simp only[T.er,ZdP,h]
def ZzD(t t':T):Prop:=((t.clean=true/\t'.er=t.er)\/(t.clean=false/\t'=T0))/\t'.caps
theorem ZiM:T0.caps:=ZgE (by simp) (by simp)
theorem Zlm:T1.caps:=ZgE (by simp) (by simp)
def ZyL(k:Int)(a:Option Addr)(c:Nat)(u:T):List T->T->Prop
 | [],t'=>t'=u
 | [x],t'=>ZzD x t'
 | x::y::l,t'=>ZzD (Zb5 k 0 0 a c (x::y::l)) t'
def ZbV(k w:Int)(x:T):List T:=if x.k=k then x.subs else if x.k=w then[]else[x]
def Za5(k w:Int)(L:List T):List T:=(L.map (ZbV k w)).flatten
theorem Zsi(k w:Int)(L:List T)(x:T):Za5 k w (L++[x])=Za5 k w L++ZbV k w x:=by simp[Za5]
theorem ZiN(k w:Int):∀(L:List T),(∀x∈L,x.subs.length<=10000)->(Za5 k w L).length<=L.length*10001
 | [],_=>by simp[Za5]
 | x::L,h=>by
  have ih:=ZiN k w L λy hy=>h y (by simp[hy])
  have hx:=h x (by simp)
  have h1:(ZbV k w x).length<=10001:=by
   unfold ZbV
   split
   ·omega
   ·split <;> simp
  have e:(Za5 k w (x::L)).length=(ZbV k w x).length+(Za5 k w L).length:=by simp[Za5]
  rw[e,List.length_cons]
  omega
theorem Zwk{t:T}(h:t.clean=true):t.k≠0:=by
 have hg:t.good=true:=by
  unfold T.clean at h
  rw[Bool.and_eq_true]at h
  exact h.2
 have:=(Zam hg).1
 rcases Zll this with h|h|h|h|⟨h,_⟩|⟨h,_⟩ <;> omega
theorem Zhq{t:T}(h:t.check=0):t.clean=true:=by
 unfold T.check at h
 split at h
 ·cases h
 ·rename_i hc;simpa using hc
theorem Zhr{t:T}(h:t.clean=true):t.nodes.length<=10000:=by
 unfold T.clean T.light at h
 rw[Bool.and_eq_true]at h
 exact of_decide_eq_true h.1
def ZzZ(n:T)(lo hi:Int)(t':T):Prop:=
 (t'=T0/\Zcm lo hi=false)\/(t'=T1/\((lo=0/\hi=0)\/(n.k=1/\((lo=1/\hi=1)\/Zcm lo hi=true))))\/(lo=1/\hi=1/\t'.er=n.er)\/∃a c,ZzD (Zb5 5 lo hi a c [n]) t'
theorem Zdc{k:Int}{a:Option Addr}{c:Nat}{u:T}(hu:u.caps):∀{l:List T} {t':T},ZyL k a c u l t'->t'.caps
 | [],t',h=>by
  have h:t'=u:=h
  rw[h];exact hu
 | [x],t',h=>h.2
 | x::y::l,t',h=>h.2
theorem Zsj{n t':T}{lo hi:Int}(h:ZzZ n lo hi t')(hb:Zcm lo hi=true)(hk:n.k≠1):∃a c,ZzD (Zb5 5 lo hi a c [n]) t':=by
 have hb':=hb
 unfold Zcm at hb'
 simp only[Bool.and_eq_true,Bool.not_eq_true',Bool.or_eq_false_iff,Bool.or_eq_true,decide_eq_false_iff_not,decide_eq_true_eq,beq_iff_eq,Bool.and_eq_false_iff,beq_eq_false_iff_ne]at hb'
 rcases h with⟨_,h⟩|⟨_,h⟩|⟨h1,h2,_⟩|h
 ·rw[hb]at h;cases h
 ·rcases h with⟨h1,h2⟩|⟨h,_⟩
  ·omega
  ·exact absurd h hk
 ·omega
 ·exact h
end Go.Rx
namespace Go.Rx
open Go Go.Eng Go.RowKit
set_option maxRecDepth 100000
mutual
def T.alts:T->List T
 | .node k s0 s1 s2 s3 mn mx a c l=>(if k=4 then[.node k s0 s1 s2 s3 mn mx a c l]else[])++ZaA l
def ZaA:List T->List T
 | []=>[]
 | t::l=>t.alts++ZaA l
end
theorem ZeA(t:T):t.alts=(if t.k=4 then[t]else[])++ZaA t.subs:=by cases t;rw[T.alts];rfl
theorem Zdz(l r:List T):ZaA (l++r)=ZaA l++ZaA r:=by
 induction l with
 | nil=>rfl
 | cons t l ih=>simp only[List.cons_append,ZaA,ih,List.append_assoc]
theorem Zsk{l:List T}{i:Nat}{x:T}(h:l[i]?=some x):ZaA (l.drop i)=x.alts++ZaA (l.drop (i+1)):=by
 obtain⟨aS,e⟩:=List.getElem?_eq_some_iff.1 h
 rw[List.drop_eq_getElem_cons aS,e];rfl
theorem ZdQ:∀l:List T,(ZaA l).length<=szL l
 | []=>by simp[ZaA]
 | t::l=>by
  have ih:=ZdQ l
  rw[ZaA,List.length_append,Zbo]
  have:t.alts.length<=t.nodes.length:=by
   rw[ZeA,List.length_append,Zcr]
   have:=ZdQ t.subs
   split <;> simp <;> omega
  omega
termination_by l=>SizeOf.sizeOf l
decreasing_by
 all_goals simp_wf
 all_goals cases t;simp[T.subs];omega
def Zkc(L:List T):T:=(ZcR 3 none 0 (Za5 3 1 L)).er
def Zeq(L:List T):T:=(ZcR 4 none 0 (Za5 4 0 L)).er
theorem Zd8(t:T):t.er.er=t.er:=by
 cases t with
 | node k s0 s1 s2 s3 mn mx a c l=>
  simp only[T.er]
  rw[erL_er l]
where erL_er:∀l:List T,erL (erL l)=erL l
 | []=>rfl
 | t::l=>by simp only[erL,Zd8 t,erL_er l]
def Okk(k:Int)(x:T):Prop:=x.good=true/\x.k≠k/\(k=3->x.k≠1)
theorem ZtG{x:T}(h:x.good=true):∀y∈ZbV 3 1 x,Okk 3 y:=by
 have hg:=h
 rw[ZfT,Bool.and_eq_true,List.all_eq_true]at hg
 intro y hy
 unfold ZbV at hy
 split at hy
 ·rename_i hk
  have hr:=hg.1
  unfold T.right at hr
  rw[Bool.and_eq_true]at hr
  have hr:=hr.2
  simp only[hk]at hr
  simp at hr
  exact⟨hg.2 y hy,Zco hr.2.2 y hy,λ_=>Zco hr.2.1 y hy⟩
 ·split at hy
  ·simp at hy
  ·simp at hy;subst hy
   rename_i h1 h2
   exact⟨h,h1,λ_=>h2⟩
theorem ZoQ{x:T}(h:x.good=true):x.k≠0:=by
 have:=(Zam h).1
 rcases Zll this with h|h|h|h|⟨h,_⟩|⟨h,_⟩ <;> omega
theorem ZtH{x:T}(h:x.good=true):∀y∈ZbV 4 0 x,Okk 4 y:=by
 have hg:=h
 rw[ZfT,Bool.and_eq_true,List.all_eq_true]at hg
 intro y hy
 unfold ZbV at hy
 split at hy
 ·rename_i hk
  have hr:=hg.1
  unfold T.right at hr
  rw[Bool.and_eq_true]at hr
  have hr:=hr.2
  simp only[hk]at hr
  simp at hr
  exact⟨hg.2 y hy,Zco hr.2 y hy,λh=>by omega⟩
 ·split at hy
  ·rename_i h0;exact absurd h0 (ZoQ h)
  ·simp at hy;subst hy
   rename_i h1 h2
   exact⟨h,h1,λh=>by omega⟩
theorem Zmc{k w:Int}{L:List T}(hf:∀x∈L,∀y∈ZbV k w x,Okk k y):∀y∈Za5 k w L,Okk k y:=by
 intro y hy
 simp only[Za5,List.mem_flatten,List.mem_map]at hy
 obtain⟨_,⟨x,hx,rfl⟩,hy⟩:=hy
 exact hf x hx y hy
theorem ZcD(k w:Int)(x:T)(L:List T):Za5 k w (x::L)=ZbV k w x++Za5 k w L:=by simp[Za5]
theorem Zw3{k w:Int}(hk:k=3/\w=1\/k=4/\w=0){x:T}(h:x.good=true):grL (ZbV k w x)=x.gr:=by
 unfold ZbV
 split
 ·rename_i h1
  rw[Zpt,if_neg (by unfold isG;simp;omega)];omega
 ·split
  ·rename_i h1 h2
   rcases hk with⟨rfl,rfl⟩|⟨rfl,rfl⟩
   ·have hr:=(Zam h).1
    have:x.subs=[]:=by
     unfold T.right at hr
     simp only[h2]at hr
     simp at hr
     simpa using hr.2.2
    rw[Zpt,this,if_neg (by unfold isG;simp;omega)];rfl
   ·exact absurd h2 (ZoQ h)
  ·rw[Zlk]
theorem Zw4{k w:Int}{x:T}:szL (ZbV k w x)<=x.nodes.length:=by
 unfold ZbV
 split
 ·rw[Zcr];omega
 ·split
  ·simp[szL,Zas]
  ·rw[ZdN];exact Nat.le_refl _
theorem ZpC{k w:Int}(hk:k=3/\w=1\/k=4/\w=0):∀{L:List T},(∀x∈L,x.good=true)->grL (Za5 k w L)=grL L
 | [],_=>rfl
 | x::L,h=>by
  rw[ZcD,Zc3,Zw3 hk (h x (by simp)),ZdO,ZpC hk λy hy=>h y (by simp[hy])]
theorem ZeS{k w:Int}:∀L:List T,szL (Za5 k w L)<=szL L
 | []=>Nat.le_refl _
 | x::L=>by
  have:=ZeS (k:=k) (w:=w) L
  have:=Zw4 (k:=k) (w:=w) (x:=x)
  rw[ZcD,Zcn,Zbo];omega
theorem ZqH{k:Int}(hk:k=3\/k=4)(a:Option Addr)(c:Nat):∀l:List T,(ZcR k a c l).gr=grL l
 | []=>rfl
 | [x]=>by rw[Zlk];rfl
 | x::y::l=>by
  show(Zb5 k 0 0 a c (x::y::l)).gr=_
  rw[Zpt,if_neg (by
   unfold isG
   show ¬(k == 6)=true
   rcases hk with rfl|rfl <;> simp)]
  show 0+grL (x::y::l)=_
  omega
theorem ZAU(t:T):t.er.gr=t.gr:=by
 unfold T.gr
 rw[Zhn,List.countP_map]
 congr 1
 funext x
 simp[isG]
theorem Zfh(t:T):t.er.nodes.length=t.nodes.length:=by rw[Zhn,List.length_map]
structure Made (L:List T)(r:T):Prop where
 good:r.good=true
 sz:r.nodes.length<=1+szL L
 gr:r.gr=grL L
 er:r.er=r
theorem ZiO{L:List T}(h:∀x∈L,x.good=true):Made L (Zkc L):=by
 have bC:=Zmc (L:=L) λx hx=>ZtG (h x hx)
 have hm:=ZgD (.inl rfl) none 0 bC
 refine⟨by unfold Zkc;rw[Zcw];exact hm.1,?_,?_,Zd8 _⟩
 ·unfold Zkc
  rw[Zfh]
  have:=ZeS (k:=3) (w:=1) L
  omega
 ·unfold Zkc
  rw[ZAU,ZqH (.inl rfl),ZpC (.inl ⟨rfl,rfl⟩) h]
theorem Zfi{L:List T}(h:∀x∈L,x.good=true):Made L (Zeq L):=by
 have bC:=Zmc (L:=L) λx hx=>ZtH (h x hx)
 have hm:=ZgD (.inr rfl) none 0 bC
 refine⟨by unfold Zeq;rw[Zcw];exact hm.1,?_,?_,Zd8 _⟩
 ·unfold Zeq
  rw[Zfh]
  have:=ZeS (k:=4) (w:=0) L
  omega
 ·unfold Zeq
  rw[ZAU,ZqH (.inr rfl),ZpC (.inr ⟨rfl,rfl⟩) h]
theorem Zbg{t:T}(h:t.good=true)(hs:t.nodes.length<=10000):t.clean=true:=by
 unfold T.clean T.light
 rw[Bool.and_eq_true]
 exact⟨decide_eq_true hs,h⟩
theorem ZgF{t:T}(h:t.clean=true):t.good=true/\t.nodes.length<=10000:=by
 unfold T.clean T.light at h
 rw[Bool.and_eq_true]at h
 exact⟨h.2,of_decide_eq_true h.1⟩
theorem Ze4{t t':T}(h:ZzD t t')(hc:t.clean=true):t'.er=t.er:=by
 rcases h.1 with⟨_,h⟩|⟨h,_⟩
 ·exact h
 ·rw[hc]at h;cases h
theorem ZtI{k:Int}(hk:k=3\/k=4){a:Option Addr}{c:Nat}{u:T}:∀{l:List T} {t':T},(∀x∈l,Okk k x)->szL l<=9000->(l=[]->u=T1)->ZyL k a c u l t'->t'.er=(ZcR k none 0 l).er
 | [],t',_,_,hu,h=>by
  have h:t'=u:=h
  rw[h,hu rfl];rfl
 | [x],t',hl,hs,_,h=>by
  rw[ZdN]at hs
  exact Ze4 h (Zbg (hl x (by simp)).1 (show x.nodes.length<=10000 by omega))
 | x::y::l,t',hl,hs,_,h=>by
  have hm:=ZgD hk a c hl
  have h:ZzD (Zb5 k 0 0 a c (x::y::l)) t':=h
  have h2:=hm.2.1
  rw[Ze4 h (Zbg hm.1 (show(ZcR k a c (x::y::l)).nodes.length<=10000 by omega))]
  rfl
theorem Zmd{L:List T}{t':T}{a:Option Addr}{c:Nat}(h:∀x∈L,x.good=true)(hs:szL L<=9000)(hj:ZyL 3 a c T1 (Za5 3 1 L) t'):t'.er=Zkc L:=
 ZtI (.inl rfl) (Zmc λx hx=>ZtG (h x hx)) (Nat.le_trans (ZeS L) hs) (λ_=>rfl) hj
theorem ZpD{x:T}(h:x.good=true):ZbV 4 0 x≠[]:=by
 unfold ZbV
 split
 ·rename_i hk
  have hr:=(Zam h).1
  unfold T.right at hr
  simp only[hk]at hr
  simp at hr
  intro e
  rw[e]at hr
  simp at hr
 ·split
  ·rename_i h0;exact absurd h0 (ZoQ h)
  ·simp
theorem ZqI{L:List T}{t':T}{a:Option Addr}{c:Nat}(h:∀x∈L,x.good=true)(bS:L≠[])(hs:szL L<=9000)(hj:ZyL 4 a c T0 (Za5 4 0 L) t'):t'.er=Zeq L:=by
 refine ZtI (.inr rfl) (Zmc λx hx=>ZtH (h x hx)) (Nat.le_trans (ZeS L) hs) (λe=>?_) hj
 exfalso
 cases L with
 | nil=>exact bS rfl
 | cons x L=>
  rw[ZcD]at e
  exact ZpD (h x (by simp)) (List.append_eq_nil_iff.1 e).1
def T.isC(t:T):Bool:=t.k == 2
def Zan(t:T):List T:=if t.k=2 then[t]else if t.k=3 then t.subs.takeWhile T.isC else[]
def ZcS(a b:T):Bool:=a.s0 == b.s0&&(a.s1 == b.s1&&(a.s2 == b.s2&&a.s3 == b.s3))
def ZaO:List T->List T->Nat
 | a::l,b::r=>if ZcS a b then ZaO l r+1 else 0
 | _,_=>0
theorem Zcp:∀l r:List T,ZaO l r<=l.length/\ZaO l r<=r.length
 | [],r=>by simp[ZaO]
 | a::l,[]=>by simp[ZaO]
 | a::l,b::r=>by
  have:=Zcp l r
  unfold ZaO
  split <;> simp <;> omega
structure C4 where
 a:Nat
 f:Nat
 t:Nat
 n:Nat
deriving DecidableEq
def C4.v(c:C4):Value:=.agg #[.int .i64 (c.a:Nat),.int .i64 (c.f:Nat),.int .i64 (c.t:Nat),.int .i64 (c.n:Nat)]
def runE(n f:Nat):List T->Nat->List T->List C4
 | _,_,[]=>[]
 | s,t,x::r=>if ZaO s (Zan x)=0 then[]else⟨n,f,t,ZaO s (Zan x)⟩::runE n f (s.take (ZaO s (Zan x))) (t+1) r
def ZeT(n:Nat):Nat->List T->List C4
 | _,[]=>[]
 | f,x::r=>runE n f (Zan x) (f+2) r++ZeT n (f+1) r
def Zfj:Nat->List T->List C4
 | _,[]=>[]
 | n,a::l=>ZeT n 0 a.subs++Zfj (n+1) l
def T.cuts(t:T):List C4:=Zfj 0 t.alts
def Zbw(n:Nat)(x:T):T:=if x.k=2 then T1 else Zkc (x.subs.drop n)
def ZcC:Bool->List T->List T
 | _,[]=>[]
 | e,x::r=>if x.k≠1\/e=false then x::ZcC (e||x.k == 1) r else ZcC (e||x.k == 1) r
def Zwl(subs:List T)(c:C4):T:=Zkc (((Zan (subs[c.f]?.getD T0)).take c.n)++[Zeq (ZcC false (((subs.take c.t).drop c.f).map (Zbw c.n)))])
def Zh8(subs:List T)(c:C4):List T:=subs.take c.f++Zwl subs c::subs.drop c.t
structure Fit (subs:List T)(c:C4):Prop where
 two:c.f+2<=c.t
 le:c.t<=subs.length
 pos:1<=c.n
 head:∀i x,c.f<=i->i < c.t->subs[i]?=some x->c.n<=(Zan x).length
theorem Zd9{t:T}(h:t.good=true):∀x∈Zan t,x.good=true/\x.k=2:=by
 intro x hx
 unfold Zan at hx
 split at hx
 ·rename_i hk
  simp at hx;subst hx;exact⟨h,hk⟩
 ·split at hx
  ·have h1:=List.all_eq_true.1 (List.all_takeWhile (l:=t.subs) (p:=T.isC)) x hx
   have h2:=(List.takeWhile_sublist _).mem hx
   exact⟨(Zam h).2 x h2,by simpa[T.isC]using h1⟩
  ·simp at hx
theorem ZjS{x:T}(h:x.good=true)(hk:x.k=2):x.subs=[]/\x.nodes.length=1/\x.gr=0:=by
 have hr:=(Zam h).1
 have hs:x.subs=[]:=by
  unfold T.right at hr
  simp only[hk]at hr
  simp at hr
  simpa using hr.1.2
 refine⟨hs,?_,?_⟩
 ·rw[Zcr,hs];rfl
 ·rw[Zpt,hs,if_neg (by unfold isG;simp;omega)];rfl
theorem ZbL{l:List T}{x:T}(h:x∈l):x.nodes.length<=szL l:=by
 induction l with
 | nil=>simp at h
 | cons y l ih=>
  rw[Zbo]
  rcases List.mem_cons.1 h with rfl|h
  ·omega
  ·have:=ih h;omega
theorem ZcK(l:List T)(n:Nat):szL (l.take n)+szL (l.drop n)=szL l:=by rw[<-Zcn,List.take_append_drop]
theorem Zw5(l:List T)(n:Nat):grL (l.take n)+grL (l.drop n)=grL l:=by rw[<-Zc3,List.take_append_drop]
theorem ZiP{l:List T}(h:∀x∈l,x.good=true/\x.k=2):szL l=l.length/\grL l=0:=by
 induction l with
 | nil=>exact⟨rfl,rfl⟩
 | cons x l ih=>
  have h1:=ZjS (h x (by simp)).1 (h x (by simp)).2
  have h2:=ih λy hy=>h y (by simp[hy])
  rw[Zbo,ZdO,List.length_cons];omega
theorem Zu9{t:T}(hk:t.k=3){n:Nat}(hn:n<=(Zan t).length):t.subs.take n=(Zan t).take n:=by
 unfold Zan at *
 rw[if_neg (by omega),if_pos hk]at *
 have h:=List.takeWhile_prefix (p:=T.isC) (l:=t.subs)
 obtain⟨r,hr⟩:=h
 have e:t.subs.take n=(t.subs.takeWhile T.isC++r).take n:=by rw[hr]
 rw[e,List.take_append_of_le_length hn]
theorem ZqJ{t:T}(h:t.good=true){n:Nat}(hn:n<=(Zan t).length)(h1:1<=n):(Zbw n t).good=true/\(Zbw n t).nodes.length+n<=t.nodes.length+1/\(Zbw n t).gr=t.gr/\(Zbw n t).er=Zbw n t:=by
 unfold Zbw
 split
 ·rename_i hk
  have hc:=ZjS h hk
  have hl:(Zan t).length=1:=by unfold Zan;rw[if_pos hk];rfl
  refine⟨by decide,?_,by rw[hc.2.2];decide,rfl⟩
  rw[show T1.nodes.length=1 by decide];omega
 ·rename_i hk
  have eO:t.k=3:=by
   unfold Zan at hn
   rw[if_neg hk]at hn
   split at hn
   ·assumption
   ·simp at hn;omega
  have hd:∀x∈t.subs.drop n,x.good=true:=λx hx=>(Zam h).2 x (List.mem_of_mem_drop hx)
  have hm:=ZiO hd
  have ht:=ZcK t.subs n
  have hg:=Zw5 t.subs n
  rw[Zu9 eO hn]at ht hg
  have dF:=ZiP (l:=(Zan t).take n) λx hx=>Zd9 h x (List.mem_of_mem_take hx)
  rw[List.length_take,Nat.min_eq_left hn]at dF
  refine⟨hm.good,?_,?_,hm.er⟩
  ·have:=hm.sz
   rw[Zcr t];omega
  ·rw[hm.gr,Zpt t,if_neg (by unfold isG;simp;omega)];omega
theorem ZgG:∀{e:Bool} {l:List T} {x:T},x∈ZcC e l->x∈l
 | _,[],_,h=>by simp[ZcC]at h
 | e,y::l,x,h=>by
  unfold ZcC at h
  split at h
  ·rcases List.mem_cons.1 h with rfl|h
   ·simp
   ·simp[ZgG h]
  ·simp[ZgG h]
theorem Zsl{x:T}(h:x.good=true)(hk:x.k=1):x.gr=0/\x.nodes.length=1:=by
 have hr:=(Zam h).1
 have hs:x.subs=[]:=by
  unfold T.right at hr
  simp only[hk]at hr
  simp at hr
  simpa using hr.2.2
 exact⟨by rw[Zpt,hs,if_neg (by unfold isG;simp;omega)];rfl,by rw[Zcr,hs];rfl⟩
theorem Zme:∀{e:Bool} {l:List T},(∀x∈l,x.good=true)->grL (ZcC e l)=grL l/\szL (ZcC e l)<=szL l
 | _,[],_=>⟨rfl,Nat.le_refl _⟩
 | e,x::l,h=>by
  have ih:=Zme (e:=e||x.k == 1) (l:=l) λy hy=>h y (by simp[hy])
  unfold ZcC
  split
  ·rw[ZdO,Zbo,ZdO,Zbo];omega
  ·rename_i hn
   have hk:x.k=1:=by
    apply Classical.byContradiction
    intro hk;exact hn (.inl hk)
   have:=Zsl (h x (by simp)) hk
   rw[ZdO,Zbo];omega
theorem ZtJ{e:Bool}{x:T}{l:List T}(h:e=false):ZcC e (x::l)≠[]:=by
 unfold ZcC
 rw[if_pos (.inr h)]
 simp
theorem ZpE:∀(t x:T),x∈t.alts->x∈t.nodes/\x.k=4
 | .node k s0 s1 s2 s3 mn mx a c l,x,h=>by
  have iI:=altsL_sub l
  simp only[T.alts,List.mem_append]at h
  simp only[T.nodes,List.mem_cons]
  rcases h with h|h
  ·split at h
   ·rename_i hk
    simp at h;subst h;exact⟨.inl rfl,hk⟩
   ·simp at h
  ·exact⟨.inr (iI x h).1,(iI x h).2⟩
where altsL_sub:∀(l:List T)(x:T),x∈ZaA l->x∈Zas l/\x.k=4
 | [],x,h=>by simp[ZaA]at h
 | t::l,x,h=>by
  simp only[ZaA,List.mem_append]at h
  simp only[Zas,List.mem_append]
  rcases h with h|h
  ·exact⟨.inl (ZpE t x h).1,(ZpE t x h).2⟩
  ·exact⟨.inr (altsL_sub l x h).1,(altsL_sub l x h).2⟩
theorem Zva{α:Type}{xs:List α}{y:Nat}{v:α}{r:List α}(h:xs.drop y=v::r):xs[y]?=some v/\xs.drop (y+1)=r:=by
 have h1:=congrArg (λl=>l[0]?) h
 have h2:=congrArg (List.drop 1) h
 simp at h1 h2
 exact⟨h1,by rw[Nat.add_comm]at h2;simpa[Nat.add_comm]using h2⟩
theorem ZtK(t:T):t.alts.length<=t.nodes.length:=by
 rw[ZeA,List.length_append,Zcr]
 have:=ZdQ t.subs
 split <;> simp <;> omega
mutual
theorem Zwm:∀(t:T),t.caps->∀x∈t.nodes,x.caps
 | .node k s0 s1 s2 s3 mn mx a c l,h,x,hx=>by
  have hl:=ZtL l (λy hy=>Zho h hy)
  simp only[T.nodes,List.mem_cons]at hx
  rcases hx with rfl|hx
  ·exact h
  ·exact hl x hx
theorem ZtL:∀(l:List T),(∀y∈l,y.caps)->∀x∈Zas l,x.caps
 | [],_,x,hx=>by simp[Zas]at hx
 | t::l,h,x,hx=>by
  simp only[Zas,List.mem_append]at hx
  rcases hx with hx|hx
  ·exact Zwm t (h t (by simp)) x hx
  ·exact ZtL l (λy hy=>h y (by simp[hy])) x hx
end
theorem Zsm{t x:T}(h:t.caps)(hx:x∈t.nodes):x.caps:=Zwm t h x hx
end Go.Rx
namespace Go.Rx
open Go Go.Eng Go.RowKit
set_option maxRecDepth 100000
theorem ZtM{subs:List T}{f t:Nat}{x:T}(h:x∈(subs.take t).drop f):∃i,f<=i/\i < t/\subs[i]?=some x:=by
 obtain⟨j,hj⟩:=List.getElem?_of_mem h
 rw[List.getElem?_drop]at hj
 have h2:=(List.getElem?_eq_some_iff.1 hj).1
 rw[List.length_take]at h2
 rw[List.getElem?_take_of_lt (by omega)]at hj
 exact⟨f+j,by omega,by omega,hj⟩
theorem Zvb(subs:List T){f t:Nat}(h:f<=t):subs.take f++((subs.take t).drop f++subs.drop t)=subs:=by
 rw[<-List.append_assoc]
 have:subs.take f++(subs.take t).drop f=subs.take t:=by
  have h1:=List.take_append_drop f (subs.take t)
  rw[List.take_take,Nat.min_eq_left h]at h1
  exact h1
 rw[this,List.take_append_drop]
theorem ZgH{n:Nat}(h1:1<=n):∀{l:List T},(∀x∈l,x.good=true/\n<=(Zan x).length)->(∀y∈l.map (Zbw n),y.good=true/\y.er=y)/\szL (l.map (Zbw n))<=szL l/\grL (l.map (Zbw n))=grL l
 | [],_=>⟨by simp,Nat.le_refl _,rfl⟩
 | x::l,h=>by
  have ih:=ZgH h1 (l:=l) λy hy=>h y (by simp[hy])
  have hx:=ZqJ (h x (by simp)).1 (h x (by simp)).2 h1
  refine⟨λy hy=>?_,?_,?_⟩
  ·rcases List.mem_cons.1 hy with rfl|hy
   ·exact⟨hx.1,hx.2.2.2⟩
   ·exact ih.1 y hy
  ·rw[List.map_cons,Zbo,Zbo];omega
  ·rw[List.map_cons,ZdO,ZdO];omega
theorem Zsn{l:List T}(h:∀x∈l,x.k=2):Za5 3 1 l=l:=by
 induction l with
 | nil=>rfl
 | cons x l ih=>
  rw[ZcD,ih λy hy=>h y (by simp[hy])]
  have:ZbV 3 1 x=[x]:=by unfold ZbV;rw[if_neg (by rw[h x (by simp)];omega),if_neg (by rw[h x (by simp)];omega)]
  rw[this];rfl
theorem ZiQ(k w:Int)(l r:List T):Za5 k w (l++r)=Za5 k w l++Za5 k w r:=by simp[Za5]
theorem ZpF{k:Int}{a:Option Addr}{c:Nat}:∀{l:List T},2<=l.length->(ZcR k a c l).k=k
 | [],h=>by simp at h
 | [x],h=>by simp at h
 | x::y::l,_=>rfl
structure OneOk (seg:List T)(n:Nat)(r:T):Prop where
 good:r.good=true
 sz:r.nodes.length<=2+n+szL seg
 gr:r.gr=grL seg
 er:r.er=r
 k:r.k=2\/r.k=3
theorem ZtN{subs:List T}{c:C4}(hg:∀x∈subs,x.good=true)(hf:Fit subs c):OneOk ((subs.take c.t).drop c.f) c.n (Zwl subs c):=by
 obtain⟨x0,gC⟩:∃x,subs[c.f]?=some x:=⟨_,List.getElem?_eq_getElem (by have:=hf.two;have:=hf.le;omega)⟩
 have mA:=hg x0 (List.mem_of_getElem? gC)
 have lY:=hf.head c.f x0 (Nat.le_refl _) (by have:=hf.two;omega) gC
 have gP:∀x∈(subs.take c.t).drop c.f,x.good=true/\c.n<=(Zan x).length:=λx hx=>by
  obtain⟨i,h1,h2,h3⟩:=ZtM hx
  exact⟨hg x (List.mem_of_getElem? h3),hf.head i x h1 h2 h3⟩
 have hl:=ZgH hf.pos gP
 have hr:=Zme (e:=false) λx hx=>(hl.1 x hx).1
 have iJ:∀y∈ZcC false (((subs.take c.t).drop c.f).map (Zbw c.n)),y.good=true:=λy hy=>(hl.1 y (ZgG hy)).1
 have ha:=Zfi iJ
 have dF:∀x∈(Zan x0).take c.n,x.good=true/\x.k=2:=λx hx=>Zd9 mA x (List.mem_of_mem_take hx)
 have rO:=ZiP dF
 rw[List.length_take,Nat.min_eq_left lY]at rO
 unfold Zwl
 rw[gC]
 simp only[Option.getD_some]
 have aV:∀x∈(Zan x0).take c.n++[Zeq (ZcC false (((subs.take c.t).drop c.f).map (Zbw c.n)))],x.good=true:=λx hx=>by
  rcases List.mem_append.1 hx with hx|hx
  ·exact(dF x hx).1
  ·rw[List.mem_singleton]at hx;subst hx;exact ha.good
 have hm:=ZiO aV
 refine⟨hm.good,?_,?_,hm.er,?_⟩
 ·have h1:=hm.sz
  have h2:=ha.sz
  rw[Zcn,ZdN]at h1
  omega
 ·rw[hm.gr,Zc3,Zlk,ha.gr];omega
 ·unfold Zkc
  rw[Zv3,ZiQ,Zsn λx hx=>(dF x hx).2]
  have aU:((Zan x0).take c.n).length=c.n:=by rw[List.length_take,Nat.min_eq_left lY]
  by_cases h2:2<=((Zan x0).take c.n++Za5 3 1 [Zeq (ZcC false (((subs.take c.t).drop c.f).map (Zbw c.n)))]).length
  ·exact .inr (ZpF h2)
  ·have hp:=hf.pos
   rw[List.length_append,aU]at h2
   have h3:Za5 3 1 [Zeq (ZcC false (((subs.take c.t).drop c.f).map (Zbw c.n)))]=[]:=List.eq_nil_of_length_eq_zero (by omega)
   rw[h3,List.append_nil]
   match hq:(Zan x0).take c.n with
   | []=>rw[hq]at aU;simp at aU;omega
   | [y]=>exact .inl (dF y (by rw[hq];simp)).2
   | y::z::r=>rw[hq]at aU;simp at aU;omega
structure CutOk (subs:List T)(L:List T):Prop where
 good:∀x∈L,x.good=true
 sz:szL L<=3+2*szL subs
 gr:grL L=grL subs
 ne:L≠[]
 k:∀x∈L,x.k≠1\/x∈subs
theorem ZgI(t:T):(Zan t).length<=t.nodes.length:=by
 unfold Zan
 split
 ·rw[Zcr];simp
 ·split
  ·have:=(List.takeWhile_sublist T.isC (l:=t.subs)).length_le
   have:=ZbY t.subs
   rw[Zcr];omega
  ·simp
theorem ZnZ{subs:List T}{c:C4}(hg:∀x∈subs,x.good=true)(hf:Fit subs c):CutOk subs (Zh8 subs c):=by
 have ho:=ZtN hg hf
 have pI:c.f<=c.t:=by have:=hf.two;omega
 have hs:=Zvb subs pI
 have bB:szL (subs.take c.f)+(szL ((subs.take c.t).drop c.f)+szL (subs.drop c.t))=szL subs:=by rw[<-Zcn,<-Zcn,hs]
 have qI:grL (subs.take c.f)+(grL ((subs.take c.t).drop c.f)+grL (subs.drop c.t))=grL subs:=by rw[<-Zc3,<-Zc3,hs]
 have hn:c.n<=szL subs:=by
  obtain⟨x0,gC⟩:∃x,subs[c.f]?=some x:=⟨_,List.getElem?_eq_getElem (by have:=hf.two;have:=hf.le;omega)⟩
  have h1:=hf.head c.f x0 (Nat.le_refl _) (by have:=hf.two;omega) gC
  have h2:=ZbL (List.mem_of_getElem? gC)
  have:=ZgI x0
  omega
 unfold Zh8
 refine⟨λx hx=>?_,?_,?_,by simp,λx hx=>?_⟩
 ·rcases List.mem_append.1 hx with hx|hx
  ·exact hg x (List.mem_of_mem_take hx)
  ·rcases List.mem_cons.1 hx with rfl|hx
   ·exact ho.good
   ·exact hg x (List.mem_of_mem_drop hx)
 ·have:=ho.sz
  rw[Zcn,Zbo]
  omega
 ·have:=ho.gr
  rw[Zc3,ZdO];omega
 ·rcases List.mem_append.1 hx with hx|hx
  ·exact .inr (List.mem_of_mem_take hx)
  ·rcases List.mem_cons.1 hx with rfl|hx
   ·left;rcases ho.k with h|h <;> omega
   ·exact .inr (List.mem_of_mem_drop hx)
mutual
def T.cutAt(c:C4):T->Nat->T×Nat
 | .node k s0 s1 s2 s3 mn mx a cc l,n=>
  if k=4/\n=c.a then(Zeq (Zh8 l c),n+1+(ZaA (Zh8 l c)).length)
  else(if k=3 then Zkc (ZaI c l (if k=4 then n+1 else n)).1 else if k=4 then Zeq (ZaI c l (if k=4 then n+1 else n)).1 else .node k s0 s1 s2 s3 mn mx none 0 (ZaI c l (if k=4 then n+1 else n)).1,(ZaI c l (if k=4 then n+1 else n)).2)
def ZaI(c:C4):List T->Nat->List T×Nat
 | [],n=>([],n)
 | t::l,n=>((t.cutAt c n).1::(ZaI c l (t.cutAt c n).2).1,(ZaI c l (t.cutAt c n).2).2)
end
def T.built(t:T)(L:List T):T:=if t.k=3 then Zkc L else if t.k=4 then Zeq L else .node t.k t.s0 t.s1 t.s2 t.s3 t.mn t.mx none 0 L
theorem Zc4{c:C4}{t:T}{n:Nat}(hk:t.k=4)(hn:n=c.a):t.cutAt c n=(Zeq (Zh8 t.subs c),n+1+(ZaA (Zh8 t.subs c)).length):=by
 cases t
 simp only[T.k]at hk
 rw[T.cutAt,if_pos ⟨hk,hn⟩];rfl
theorem ZbZ{c:C4}{t:T}{n:Nat}(h:¬(t.k=4/\n=c.a)):t.cutAt c n=(t.built (ZaI c t.subs (if t.k=4 then n+1 else n)).1,(ZaI c t.subs (if t.k=4 then n+1 else n)).2):=by
 cases t
 rw[T.cutAt];exact if_neg h
theorem ZyM{l:List T}(h:∀x∈l,x.er=x):l.map T.er=l:=by
 induction l with
 | nil=>rfl
 | cons x l ih=>rw[List.map_cons,h x (by simp),ih λy hy=>h y (by simp[hy])]
theorem Zmf{k w:Int}{l:List T}(h:∀x∈l,x.k≠k/\x.k≠w):Za5 k w l=l:=by
 induction l with
 | nil=>rfl
 | cons x l ih=>
  rw[ZcD,ih λy hy=>h y (by simp[hy])]
  have:ZbV k w x=[x]:=by unfold ZbV;rw[if_neg (h x (by simp)).1,if_neg (h x (by simp)).2]
  rw[this];rfl
theorem Ze5{t:T}(h:t.good=true):t.built (t.subs.map T.er)=t.er:=by
 have hr:=(Zam h).1
 have hs:=(Zam h).2
 unfold T.built
 have bK:∀x∈t.subs.map T.er,∃y∈t.subs,x.k=y.k:=λx hx=>by
  obtain⟨y,hy,rfl⟩:=List.mem_map.1 hx
  exact⟨y,hy,Zv3 y⟩
 split
 ·rename_i hk
  unfold T.right at hr
  rw[Bool.and_eq_true]at hr
  have hz:=hr.1
  have hr:=hr.2
  simp only[hk]at hr hz
  simp at hr hz
  unfold Zkc
  rw[Zmf λx hx=>by
   obtain⟨y,hy,e⟩:=bK x hx
   rw[e]
   exact⟨Zco hr.2.2 y hy,Zco hr.2.1 y hy⟩]
  unfold T.setZ at hz
  cases t with
  | node k s0 s1 s2 s3 mn mx a c l=>
   simp only[T.k,T.subs,T.s0,T.s1,T.s2,T.s3,T.mn,T.mx]at *
   simp at hz
   obtain⟨⟨⟨⟨rfl,rfl⟩,rfl⟩,rfl⟩,rfl,rfl⟩:=hz
   subst hk
   match l,hr with
   | x::y::l,_=>simp only[List.map_cons,ZcR,Zb5,T.er,erL,Zd8,ZdP,List.map_map];congr 3;exact List.map_congr_left λz _=>Zd8 z
 ·split
  ·rename_i hk
   unfold T.right at hr
   rw[Bool.and_eq_true]at hr
   have hz:=hr.1
   have hr:=hr.2
   simp only[hk]at hr hz
   simp at hr hz
   unfold Zeq
   rw[Zmf λx hx=>by
    obtain⟨y,hy,e⟩:=bK x hx
    rw[e]
    exact⟨Zco hr.2 y hy,ZoQ (hs y hy)⟩]
   unfold T.setZ at hz
   cases t with
   | node k s0 s1 s2 s3 mn mx a c l=>
    simp only[T.k,T.subs,T.s0,T.s1,T.s2,T.s3,T.mn,T.mx]at *
    simp at hz
    obtain⟨⟨⟨⟨rfl,rfl⟩,rfl⟩,rfl⟩,rfl,rfl⟩:=hz
    subst hk
    match l,hr with
    | x::y::l,_=>simp only[List.map_cons,ZcR,Zb5,T.er,erL,Zd8,ZdP,List.map_map];congr 3;exact List.map_congr_left λz _=>Zd8 z
  ·cases t;simp only[T.er,ZdP,T.k,T.s0,T.s1,T.s2,T.s3,T.mn,T.mx,T.subs]
mutual
theorem Ze6{c:C4}:∀(t:T)(n:Nat),t.good=true->c.a < n->t.cutAt c n=(t.er,n+t.alts.length)
 | .node k s0 s1 s2 s3 mn mx a cc l,n,hg,hn=>by
  have hs:=(Zam hg).2
  rw[ZbZ (c:=c) (by omega)]
  have h1:=Zfk (c:=c) l (if k=4 then n+1 else n) hs (by split <;> omega)
  show((T.node k s0 s1 s2 s3 mn mx a cc l).built (ZaI c l (if k=4 then n+1 else n)).1,(ZaI c l (if k=4 then n+1 else n)).2)=_
  rw[h1]
  have h2:=Ze5 hg
  have e:(T.node k s0 s1 s2 s3 mn mx a cc l).subs=l:=rfl
  rw[e]at h2
  rw[h2,ZeA,e,List.length_append]
  show(_,(if k=4 then n+1 else n)+(ZaA l).length)=(_,n+((if k=4 then _ else _:List T).length+_))
  congr 1
  split <;> simp <;> omega
theorem Zfk{c:C4}:∀(l:List T)(n:Nat),(∀x∈l,x.good=true)->c.a < n->ZaI c l n=(l.map T.er,n+(ZaA l).length)
 | [],n,_,_=>rfl
 | t::l,n,hg,hn=>by
  rw[ZaI,Ze6 t n (hg t (by simp)) hn]
  simp only[]
  rw[Zfk l (n+t.alts.length) (λx hx=>hg x (by simp[hx])) (by omega)]
  simp only[List.map_cons,ZaA,List.length_append]
  rw[Nat.add_assoc]
end
theorem Zw6(k w:Int)(x:T):(ZbV k w x).map T.er=ZbV k w x.er:=by
 unfold ZbV
 rw[Zv3]
 split
 ·rw[Zhm]
 ·split <;> rfl
theorem ZpG(k w:Int):∀L:List T,(Za5 k w L).map T.er=Za5 k w (L.map T.er)
 | []=>rfl
 | x::L=>by rw[ZcD,List.map_append,Zw6,ZpG k w L,List.map_cons,ZcD]
theorem ZqK(k:Int):∀l:List T,(ZcR k none 0 l).er=(ZcR k none 0 (l.map T.er)).er
 | []=>rfl
 | [x]=>by show x.er=x.er.er;rw[Zd8]
 | x::y::l=>by
  show(Zb5 k 0 0 none 0 (x::y::l)).er=(Zb5 k 0 0 none 0 ((x::y::l).map T.er)).er
  refine ZtF ?_
  rw[List.map_map]
  exact List.map_congr_left λz _=>(Zd8 z).symm
theorem ZqL(L:List T):Zkc L=Zkc (L.map T.er):=by unfold Zkc;rw[ZqK,ZpG]
theorem Zln(L:List T):Zeq L=Zeq (L.map T.er):=by unfold Zeq;rw[ZqK,ZpG]
theorem ZjT{L L':List T}(h:L.map T.er=L'.map T.er):Zkc L=Zkc L':=by rw[ZqL L,h,<-ZqL]
theorem ZjU{L L':List T}(h:L.map T.er=L'.map T.er):Zeq L=Zeq L':=by rw[Zln L,h,<-Zln]
theorem ZjV(x:T):∀(e:Bool)(l:List T),ZcC e (l++[x])=ZcC e l++(if x.k≠1\/(e||l.any λy=>y.k == 1)=false then[x]else[])
 | e,[]=>by
  simp only[List.nil_append,ZcC,List.any_nil,Bool.or_false]
 | e,y::l=>by
  rw[List.cons_append,ZcC,ZcC,ZjV x _ l,List.any_cons,<-Bool.or_assoc]
  split <;> simp
theorem ZjW{x y:T}(h:x.er=y)(hg:y.good=true):x.good=true:=by rw[<-Zcw,h];exact hg
theorem Zmg{x y:T}(h:x.er=y):x.nodes.length=y.nodes.length:=by rw[<-Zfh,h]
theorem Zer:∀{l l':List T},l.map T.er=l'.map T.er->szL l=szL l'
 | [],[],_=>rfl
 | [],_::_,h=>by simp at h
 | _::_,[],h=>by simp at h
 | x::l,y::l',h=>by
  simp only[List.map_cons,List.cons.injEq]at h
  rw[Zbo,Zbo,Zer h.2,<-Zfh x,h.1,Zfh]
mutual
theorem Zmh{c:C4}:∀(t:T)(n:Nat),(t.cutAt c n).2=n+t.alts.length\/c.a < (t.cutAt c n).2
 | .node k s0 s1 s2 s3 mn mx a cc l,n=>by
  have hl:=Zn0 (c:=c) l (if k=4 then n+1 else n)
  by_cases h:(T.node k s0 s1 s2 s3 mn mx a cc l).k=4/\n=c.a
  ·rw[Zc4 h.1 h.2]
   right
   show c.a < n+1+_
   omega
  ·rw[ZbZ h]
   show(ZaI c l (if k=4 then n+1 else n)).2=_\/c.a < (ZaI c l (if k=4 then n+1 else n)).2
   rcases hl with hl|hl
   ·left
    rw[hl,ZeA,List.length_append]
    show(if k=4 then n+1 else n)+(ZaA l).length=n+((if k=4 then _ else _:List T).length+(ZaA l).length)
    split <;> simp <;> omega
   ·exact .inr hl
theorem Zn0{c:C4}:∀(l:List T)(n:Nat),(ZaI c l n).2=n+(ZaA l).length\/c.a < (ZaI c l n).2
 | [],n=>.inl rfl
 | t::l,n=>by
  have h1:=Zmh (c:=c) t n
  have h2:=Zn0 (c:=c) l (t.cutAt c n).2
  rw[ZaI]
  simp only[ZaA,List.length_append]
  rcases h2 with h2|h2
  ·rcases h1 with h1|h1
   ·left;rw[h2,h1];omega
   ·right;rw[h2];omega
  ·exact .inr h2
end
def ZeB(c:C4)(l:List T)(n:Nat):Prop:=∀i al,l[i]?=some al->n+i=c.a->Fit al.subs c
theorem ZgJ{c:C4}{t:T}{n:Nat}(h:ZeB c t.alts n):ZeB c (ZaA t.subs) (if t.k=4 then n+1 else n):=by
 intro i al hi hn
 rw[ZeA]at h
 split at hn
 ·rename_i hk
  rw[if_pos hk]at h
  exact h (i+1) al (by simpa using hi) (by omega)
 ·rename_i hk
  rw[if_neg hk]at h
  exact h i al (by simpa using hi) hn
theorem ZgK{c:C4}{t:T}{l:List T}{n:Nat}(h:ZeB c (ZaA (t::l)) n):ZeB c t.alts n:=λi al hi hn=>h i al (by
 rw[ZaA,List.getElem?_append_left (List.getElem?_eq_some_iff.1 hi).1];exact hi) hn
theorem ZgL{c:C4}{t:T}{l:List T}{n:Nat}(h:ZeB c (ZaA (t::l)) n):ZeB c (ZaA l) (t.cutAt c n).2:=λi al hi hn=>by
 rcases Zmh (c:=c) t n with h1|h1
 ·exact h (t.alts.length+i) al (by rw[ZaA,List.getElem?_append_right (by omega)];simpa using hi) (by omega)
 ·omega
theorem Zea{c:C4}{t:T}{n:Nat}(h:ZeB c t.alts n)(hk:t.k=4)(hn:n=c.a):Fit t.subs c:=h 0 t (by rw[ZeA,if_pos hk];rfl) (by omega)
structure AtOk (t r:T):Prop where
 good:r.good=true
 sz:r.nodes.length<=3*t.nodes.length
 gr:r.gr=t.gr
 er:r.er=r
 k:t.k≠1->r.k≠1
theorem Zmi{k w:Int}(hw:∀x:T,x.good=true->x.k≠w->ZbV k w x≠[]):∀{L:List T},(∀x∈L,x.good=true/\x.k≠w)->L.length<=(Za5 k w L).length
 | [],_=>Nat.zero_le _
 | x::L,h=>by
  have ih:=Zmi hw (L:=L) λy hy=>h y (by simp[hy])
  have h1:=hw x (h x (by simp)).1 (h x (by simp)).2
  have h2:1<=(ZbV k w x).length:=by
   cases hq:ZbV k w x with
   | nil=>exact absurd hq h1
   | cons y r=>simp
  rw[ZcD,List.length_append,List.length_cons];omega
theorem Zw7{x:T}(h:x.good=true)(hk:x.k≠1):ZbV 3 1 x≠[]:=by
 unfold ZbV
 split
 ·rename_i eO
  have hr:=(Zam h).1
  unfold T.right at hr
  simp only[eO]at hr
  simp at hr
  intro e
  rw[e]at hr
  simp at hr
 ·simp[hk]
theorem ZAg{L:List T}(h:∀x∈L,x.good=true/\x.k≠1)(h2:2<=L.length):(Zkc L).k=3:=by
 unfold Zkc
 rw[Zv3]
 exact ZpF (Nat.le_trans h2 (Zmi (λx hx hk=>Zw7 hx hk) h))
theorem ZyN{L:List T}(h:∀x∈L,x.good=true)(h2:2<=L.length):(Zeq L).k=4:=by
 unfold Zeq
 rw[Zv3]
 exact ZpF (Nat.le_trans h2 (Zmi (λx hx _=>ZpD hx) λx hx=>⟨h x hx,ZoQ (h x hx)⟩))
theorem ZAh{subs:List T}{c:C4}(hg:∀x∈subs,x.good=true)(hf:Fit subs c):(Zeq (Zh8 subs c)).k≠1:=by
 have ho:=ZnZ hg hf
 by_cases h2:2<=(Zh8 subs c).length
 ·rw[ZyN ho.good h2];omega
 ·have h1:=ZtN hg hf
  unfold Zh8 at h2 ⊢
  rw[List.length_append,List.length_cons]at h2
  have e1:subs.take c.f=[]:=List.eq_nil_of_length_eq_zero (by omega)
  have e2:subs.drop c.t=[]:=List.eq_nil_of_length_eq_zero (by omega)
  rw[e1,e2,List.nil_append]
  unfold Zeq
  rw[Zv3]
  have:Za5 4 0 [Zwl subs c]=[Zwl subs c]:=Zmf λx hx=>by
   rw[List.mem_singleton]at hx;subst hx
   rcases h1.k with h|h <;> omega
  rw[this]
  show(Zwl subs c).k≠1
  rcases h1.k with h|h <;> omega
theorem Zc5{t:T}(h:t.good=true):(t.k=3->2<=t.subs.length/\∀x∈t.subs,x.k≠1)/\(t.k=4->2<=t.subs.length)/\(t.k=5->(∃x,t.subs=[x]/\x.k≠1)/\Zcm t.mn t.mx=true)/\(t.k=6->∃x,t.subs=[x])/\(t.k=1\/t.k=2->t.subs=[])/\(t.k≠2->t.s0=0/\t.s1=0/\t.s2=0/\t.s3=0)/\(t.k≠5->t.mn=0/\t.mx=0):=by
 have hr:=(Zam h).1
 have hk:=Zll hr
 unfold T.right at hr
 rw[Bool.and_eq_true]at hr
 obtain⟨dJ,dL⟩:=hr
 have one:∀{l:List T},l.length=1->∃x,l=[x]:=λ{l} e=>by
  match l,e with
  | [x],_=>exact⟨x,rfl⟩
 refine⟨λe=>?_,λe=>?_,λe=>?_,λe=>?_,λe=>?_,λe=>?_,λe=>?_⟩
 ·simp only[e]at dL;simp at dL
  exact⟨dL.1,Zco dL.2.1⟩
 ·simp only[e]at dL;simp at dL
  exact dL.1
 ·simp only[e]at dL;simp at dL
  obtain⟨x,hx⟩:=one dL.1
  exact⟨⟨x,hx,Zco dL.2.2 x (by rw[hx];simp)⟩,dL.2.1⟩
 ·simp only[e]at dL;simp at dL
  exact one dL
 ·have:t.k < 3:=by rcases e with e|e <;> omega
  simp[this]at dJ
  cases hq:t.subs with
  | nil=>rfl
  | cons x l=>rw[hq]at dJ;simp at dJ
 ·unfold T.setZ at dJ
  have e':(t.k == 2)=false:=by simpa using e
  simp[e']at dJ
  have:=dJ.1
  simp[e]at this
  omega
 ·simp at dJ
  rcases dJ.2.1 with h|h
  ·exact absurd h e
  ·exact h
theorem Zw8{t:T}{L:List T}(ht:t.good=true)(hl:L.length=t.subs.length)(hg:∀x∈L,x.good=true/\x.er=x)(bB:szL L<=3*szL t.subs)(qI:grL L=grL t.subs)(hk:(∀x∈t.subs,x.k≠1)->∀x∈L,x.k≠1):AtOk t (t.built L):=by
 have hs:=Zc5 ht
 have dQ:=Zll (Zam ht).1
 have wU:=Zcr t
 have gH:=Zpt t
 unfold T.built
 split
 ·rename_i h3
  have hm:=ZiO λx hx=>(hg x hx).1
  have h1:=hs.1 h3
  refine⟨hm.good,by have:=hm.sz;omega,?_,hm.er,λ_=>?_⟩
  ·rw[hm.gr,qI,gH,if_neg (by unfold isG;simp;omega)];omega
  ·rw[ZAg (λx hx=>⟨(hg x hx).1,hk h1.2 x hx⟩) (by omega)];omega
 ·split
  ·rename_i h4
   have hm:=Zfi λx hx=>(hg x hx).1
   have h1:=hs.2.1 h4
   refine⟨hm.good,by have:=hm.sz;omega,?_,hm.er,λ_=>?_⟩
   ·rw[hm.gr,qI,gH,if_neg (by unfold isG;simp;omega)];omega
   ·rw[ZyN (λx hx=>(hg x hx).1) (by omega)];omega
  ·rename_i h3 h4
   have rP:∀r:T,r=.node t.k t.s0 t.s1 t.s2 t.s3 t.mn t.mx none 0 L->r.right=true->AtOk t r:=λr hr tI=>by
    subst hr
    refine⟨?_,?_,?_,?_,λh=>h⟩
    ·rw[ZfT,tI]
     show(true&&L.all T.good)=true
     rw[Bool.true_and,List.all_eq_true]
     exact λx hx=>(hg x hx).1
    ·rw[Zcr]
     show 1+szL L<=_
     omega
    ·rw[Zpt,gH]
     show(if isG (.node t.k t.s0 t.s1 t.s2 t.s3 t.mn t.mx none 0 L)=true then 1 else 0)+grL L=_
     rw[qI];rfl
    ·show T.node t.k t.s0 t.s1 t.s2 t.s3 t.mn t.mx none 0 (erL L)=_
     rw[ZdP,ZyM λx hx=>(hg x hx).2]
   refine rP _ rfl ?_
   have hr:=(Zam ht).1
   have uG:∀k:Int,(k=1->t.has 1=false->(T.node t.k t.s0 t.s1 t.s2 t.s3 t.mn t.mx none 0 L).has 1=false):=λk _ h1=>Zsh λx hx=>hk (Zco h1) x hx
   have e5:t.k=5->(T.node t.k t.s0 t.s1 t.s2 t.s3 t.mn t.mx none 0 L).has 1=false:=λh5=>uG 1 rfl (by
    obtain⟨⟨x,hx,fP⟩,_⟩:=hs.2.2.1 h5
    exact Zsh λy hy=>by rw[hx]at hy;simp at hy;subst hy;exact fP)
   unfold T.right at hr ⊢
   show(!(t.k != 2&&!t.setZ||(t.k != 5&&(t.mn != 0||t.mx != 0)||(decide (t.k < 3)&&decide (0 < L.length))))&&(if t.k=1 then true else if t.k=2 then !t.setZ else if t.k=3 then decide (1 < L.length)&&(!(T.node t.k t.s0 t.s1 t.s2 t.s3 t.mn t.mx none 0 L).has 1&&!(T.node t.k t.s0 t.s1 t.s2 t.s3 t.mn t.mx none 0 L).has 3)else if t.k=4 then decide (1 < L.length)&&!(T.node t.k t.s0 t.s1 t.s2 t.s3 t.mn t.mx none 0 L).has 4 else if t.k=5 then L.length == 1&&(Zcm t.mn t.mx&&!(T.node t.k t.s0 t.s1 t.s2 t.s3 t.mn t.mx none 0 L).has 1)else t.k == 6&&L.length == 1))=true
   rw[hl]
   rw[if_neg h3,if_neg h4]at hr ⊢
   by_cases h5:t.k=5
   ·rw[e5 h5]
    rw[if_neg (by omega),if_neg (by omega),if_pos h5]at hr ⊢
    simp at hr ⊢
    exact⟨hr.1,hr.2.1,hr.2.2.1⟩
   ·rw[if_neg h5]at hr ⊢
    exact hr
mutual
theorem ZjX{c:C4}:∀(t:T)(n:Nat),t.good=true->ZeB c t.alts n->AtOk t (t.cutAt c n).1
 | .node k s0 s1 s2 s3 mn mx a cc l,n,hg,hf=>by
  have hs:=(Zam hg).2
  have hl:=ZiR (c:=c) l (if k=4 then n+1 else n) hs (ZgJ hf)
  by_cases h:(T.node k s0 s1 s2 s3 mn mx a cc l).k=4/\n=c.a
  ·have cB:=Zea hf h.1 h.2
   have ho:=ZnZ hs cB
   have hm:=Zfi ho.good
   have h2:=(Zc5 hg).2.1 h.1
   rw[Zc4 h.1 h.2]
   refine⟨hm.good,?_,?_,hm.er,λ_=>ZAh hs cB⟩
   ·have h3:=hm.sz
    have h4:=ho.sz
    have h5:=ZbY (T.node k s0 s1 s2 s3 mn mx a cc l).subs
    rw[Zcr (T.node k s0 s1 s2 s3 mn mx a cc l)]
    show(Zeq (Zh8 _ c)).nodes.length<=_
    omega
   ·show(Zeq (Zh8 _ c)).gr=_
    rw[hm.gr,ho.gr,Zpt (T.node k s0 s1 s2 s3 mn mx a cc l),if_neg (by
     unfold isG
     have:=h.1
     simp;omega)];omega
  ·rw[ZbZ h]
   exact Zw8 hg hl.1 hl.2.1 hl.2.2.1 hl.2.2.2.1 hl.2.2.2.2
theorem ZiR{c:C4}:∀(l:List T)(n:Nat),(∀x∈l,x.good=true)->ZeB c (ZaA l) n->(ZaI c l n).1.length=l.length/\(∀x∈(ZaI c l n).1,x.good=true/\x.er=x)/\szL (ZaI c l n).1<=3*szL l/\grL (ZaI c l n).1=grL l/\((∀x∈l,x.k≠1)->∀x∈(ZaI c l n).1,x.k≠1)
 | [],n,_,_=>⟨rfl,by simp[ZaI],by simp[ZaI,szL,Zas],rfl,by simp[ZaI]⟩
 | t::l,n,hg,hf=>by
  have h1:=ZjX (c:=c) t n (hg t (by simp)) (ZgK hf)
  have h2:=ZiR (c:=c) l (t.cutAt c n).2 (λx hx=>hg x (by simp[hx])) (ZgL hf)
  rw[ZaI]
  refine⟨?_,λx hx=>?_,?_,?_,λhk x hx=>?_⟩
  ·simp only[List.length_cons,h2.1]
  ·rcases List.mem_cons.1 hx with rfl|hx
   ·exact⟨h1.good,h1.er⟩
   ·exact h2.2.1 x hx
  ·have:=h1.sz
   have:=h2.2.2.1
   simp only[Zbo];omega
  ·have:=h1.gr
   have:=h2.2.2.2.1
   simp only[ZdO];omega
  ·rcases List.mem_cons.1 hx with rfl|hx
   ·exact h1.k (hk t (by simp))
   ·exact h2.2.2.2.2 (λy hy=>hk y (by simp[hy])) x hx
end
theorem ZqM{mn mx:Int}{a:Option Addr}{c:Nat}{o:T}(hb:Zcm mn mx=true)(hk:o.k≠1)(hg:o.good=true):(Zb5 5 mn mx a c [o]).good=true:=by
 rw[ZfT]
 show(T.right _&&[o].all T.good)=true
 rw[Bool.and_eq_true]
 refine⟨?_,by simpa using hg⟩
 have hh:(Zb5 5 mn mx a c [o]).has 1=false:=Zsh λx hx=>by
  have:x=o:=by simpa[Zb5,T.subs]using hx
  rw[this];exact hk
 unfold T.right
 simp[Zb5,T.k,T.setZ,T.s0,T.s1,T.s2,T.s3,T.mn,T.mx,T.subs,hb]at hh ⊢
 exact hh
theorem ZpH{a:Option Addr}{c:Nat}{o:T}(hg:o.good=true):(Zb5 6 0 0 a c [o]).good=true:=by
 rw[ZfT]
 show(T.right _&&[o].all T.good)=true
 rw[Bool.and_eq_true]
 exact⟨rfl,by simpa using hg⟩
theorem Zn1{c:C4}:∀{l:List T} {i n:Nat} {x:T},l[i]?=some x->(ZaI c l n).1[i]?=some (x.cutAt c (ZaI c (l.take i) n).2).1/\(ZaI c (l.take (i+1)) n).2=(x.cutAt c (ZaI c (l.take i) n).2).2
 | [],i,n,x,h=>by simp at h
 | t::l,0,n,x,h=>by
  simp at h;subst h
  simp[ZaI]
 | t::l,i+1,n,x,h=>by
  have ih:=Zn1 (c:=c) (l:=l) (i:=i) (n:=(t.cutAt c n).2) (x:=x) (by simpa using h)
  simp only[List.take_succ_cons,ZaI,List.getElem?_cons_succ]
  exact ih
theorem ZqN{c:C4}:∀{l:List T} {i n:Nat} {x:T},l[i]?=some x->ZeB c (ZaA l) n->ZeB c x.alts (ZaI c (l.take i) n).2
 | [],i,n,x,h,_=>by simp at h
 | t::l,0,n,x,h,hf=>by
  simp at h;subst h
  simpa[ZaI]using ZgK hf
 | t::l,i+1,n,x,h,hf=>by
  have ih:=ZqN (c:=c) (l:=l) (i:=i) (n:=(t.cutAt c n).2) (x:=x) (by simpa using h) (ZgL hf)
  simpa only[List.take_succ_cons,ZaI]using ih
mutual
theorem ZyO:∀t:T,t.er.alts.length=t.alts.length
 | .node k s0 s1 s2 s3 mn mx a c l=>by
  have:=Zmj l
  simp only[T.er,T.alts,List.length_append,this]
  split <;> rfl
theorem Zmj:∀l:List T,(ZaA (erL l)).length=(ZaA l).length
 | []=>rfl
 | t::l=>by simp only[erL,ZaA,List.length_append,ZyO t,Zmj l]
end
theorem Zlo{l l':List T}(h:l.map T.er=l'.map T.er):(ZaA l).length=(ZaA l').length:=by
 rw[<-Zmj l,ZdP,h,<-ZdP,Zmj]
mutual
theorem Zw9{c:C4}:∀(t:T)(n:Nat),t.good=true->ZeB c t.alts n->(t.cutAt c n).2<=n+3*t.nodes.length
 | .node k s0 s1 s2 s3 mn mx a cc l,n,hg,hf=>by
  have hs:=(Zam hg).2
  have hl:=Zmk (c:=c) l (if k=4 then n+1 else n) hs (ZgJ hf)
  have hz:=Zcr (T.node k s0 s1 s2 s3 mn mx a cc l)
  by_cases h:(T.node k s0 s1 s2 s3 mn mx a cc l).k=4/\n=c.a
  ·have cB:=Zea hf h.1 h.2
   have ho:=ZnZ hs cB
   have h1:=ZdQ (Zh8 (T.node k s0 s1 s2 s3 mn mx a cc l).subs c)
   have h2:=(Zc5 hg).2.1 h.1
   have h3:=ZbY (T.node k s0 s1 s2 s3 mn mx a cc l).subs
   have h4:=ho.sz
   rw[Zc4 h.1 h.2]
   show n+1+_<=_
   omega
  ·rw[ZbZ h]
   show(ZaI c l (if k=4 then n+1 else n)).2<=_
   have e:szL (T.node k s0 s1 s2 s3 mn mx a cc l).subs=szL l:=rfl
   rw[hz,e]
   have:(if k=4 then n+1 else n)<=n+1:=by split <;> omega
   omega
theorem Zmk{c:C4}:∀(l:List T)(n:Nat),(∀x∈l,x.good=true)->ZeB c (ZaA l) n->(ZaI c l n).2<=n+3*szL l
 | [],n,_,_=>Nat.le_add_right _ _
 | t::l,n,hg,hf=>by
  have h1:=Zw9 (c:=c) t n (hg t (by simp)) (ZgK hf)
  have h2:=Zmk (c:=c) l (t.cutAt c n).2 (λx hx=>hg x (by simp[hx])) (ZgL hf)
  rw[ZaI,Zbo]
  show(ZaI c l (t.cutAt c n).2).2<=_
  omega
end
theorem Zso{c:C4}{l:List T}{n:Nat}(i:Nat)(h:ZeB c (ZaA l) n):ZeB c (ZaA (l.take i)) n:=λj al hj hn=>h j al (by
 have e:ZaA l=ZaA (l.take i)++ZaA (l.drop i):=by rw[<-Zdz,List.take_append_drop]
 rw[e,List.getElem?_append_left (List.getElem?_eq_some_iff.1 hj).1];exact hj) hn
theorem Zml{α:Type}{l:List α}{f:Nat->α}(h:∀i x,l[i]?=some x->f i=x):(List.range l.length).map f=l:=by
 refine List.ext_getElem? λi=>?_
 rw[List.getElem?_map]
 by_cases hi:i < l.length
 ·rw[List.getElem?_range hi,List.getElem?_eq_getElem hi]
  simp only[Option.map_some]
  rw[h i _ (List.getElem?_eq_getElem hi)]
 ·rw[List.getElem?_eq_none_iff.2 (by simp;omega),List.getElem?_eq_none_iff.2 (by omega)];rfl
end Go.Rx
namespace Go.Rx
open Go Go.Eng Go.RowKit
set_option maxRecDepth 100000
theorem ZtO{n f:Nat}:∀{l:List T} {s:List T} {to:Nat} {c:C4},c∈runE n f s to l->c.a=n/\c.f=f/\to<=c.t/\c.t < to+l.length/\1<=c.n/\c.n<=s.length/\∀i x,to+i<=c.t->l[i]?=some x->c.n<=(Zan x).length
 | [],s,to,c,h=>by simp[runE]at h
 | x::l,s,to,c,h=>by
  rw[runE]at h
  have hc:=Zcp s (Zan x)
  split at h
  ·simp at h
  ·rename_i hk
   rcases List.mem_cons.1 h with rfl|h
   ·refine⟨rfl,rfl,Nat.le_refl _,by simp,by show 1<=ZaO _ _;omega,hc.1,λi y hi hy=>?_⟩
    have hi:to+i<=to:=hi
    obtain rfl:i=0:=by omega
    simp at hy;subst hy
    exact hc.2
   ·obtain⟨h1,h2,h3,h4,h5,h6,h7⟩:=ZtO h
    rw[List.length_take]at h6
    refine⟨h1,h2,by omega,by simp;omega,h5,by omega,λi y hi hy=>?_⟩
    cases i with
    | zero=>simp at hy;subst hy;omega
    | succ i=>exact h7 i y (by omega) (by simpa using hy)
theorem ZqO{n:Nat}:∀{l:List T} {f:Nat} {c:C4},c∈ZeT n f l->c.a=n/\f<=c.f/\c.f+2<=c.t/\c.t<=f+l.length/\1<=c.n/\∀i x,c.f<=f+i->f+i < c.t->l[i]?=some x->c.n<=(Zan x).length
 | [],f,c,h=>by simp[ZeT]at h
 | x::l,f,c,h=>by
  rw[ZeT,List.mem_append]at h
  rcases h with h|h
  ·obtain⟨h1,h2,h3,h4,h5,h6,h7⟩:=ZtO h
   refine⟨h1,by omega,by omega,by simp;omega,h5,λi y eX fU hy=>?_⟩
   cases i with
   | zero=>simp at hy;subst hy;exact h6
   | succ i=>exact h7 i y (by omega) (by simpa using hy)
  ·obtain⟨h1,h2,h3,h4,h5,h6⟩:=ZqO h
   refine⟨h1,by omega,h3,by simp;omega,h5,λi y eX fU hy=>?_⟩
   cases i with
   | zero=>omega
   | succ i=>exact h6 i y (by omega) (by omega) (by simpa using hy)
theorem ZqP:∀{l:List T} {n:Nat} {c:C4},c∈Zfj n l->n<=c.a/\∃al,l[c.a - n]?=some al/\Fit al.subs c
 | [],n,c,h=>by simp[Zfj]at h
 | a::l,n,c,h=>by
  rw[Zfj,List.mem_append]at h
  rcases h with h|h
  ·obtain⟨h1,h2,h3,h4,h5,h6⟩:=ZqO h
   refine⟨by omega,a,by rw[h1,Nat.sub_self];rfl,⟨h3,by omega,h5,λi x eX fU hx=>h6 i x (by omega) (by omega) hx⟩⟩
  ·obtain⟨h1,al,h2,h3⟩:=ZqP h
   refine⟨by omega,al,?_,h3⟩
   rw[show c.a - n=(c.a - (n+1))+1 by omega]
   exact h2
theorem ZdR{t:T}{c:C4}(h:c∈t.cuts):ZeB c t.alts 0:=by
 obtain⟨_,al,h1,h2⟩:=ZqP h
 intro i al' hi hn
 rw[show c.a - 0=i by omega,hi]at h1
 cases h1
 exact h2
theorem ZpI(t:T):Zan t.er=(Zan t).map T.er:=by
 unfold Zan
 rw[Zv3,Zhm]
 split
 ·rfl
 ·split
  ·rw[List.takeWhile_map]
   have:(T.isC∘T.er)=T.isC:=by funext x;simp[T.isC]
   rw[this]
  ·rfl
theorem Zn2:∀l r:List T,ZaO (l.map T.er) (r.map T.er)=ZaO l r
 | [],_=>by simp[ZaO]
 | _::_,[]=>by simp[ZaO]
 | a::l,b::r=>by
  have:ZcS a.er b.er=ZcS a b:=by unfold ZcS;simp
  simp only[List.map_cons,ZaO,this,Zn2 l r]
theorem Zwn(n f:Nat):∀(l s:List T)(to:Nat),runE n f (s.map T.er) to (l.map T.er)=runE n f s to l
 | [],s,to=>rfl
 | x::l,s,to=>by
  rw[List.map_cons,runE,runE,ZpI,Zn2,<-List.map_take,Zwn n f l]
theorem ZtP(n:Nat):∀(l:List T)(f:Nat),ZeT n f (l.map T.er)=ZeT n f l
 | [],f=>rfl
 | x::l,f=>by rw[List.map_cons,ZeT,ZeT,ZpI,Zwn,ZtP n l]
theorem ZtQ:∀(l:List T)(n:Nat),Zfj n (l.map T.er)=Zfj n l
 | [],n=>rfl
 | a::l,n=>by rw[List.map_cons,Zfj,Zfj,Zhm,ZtP,ZtQ l]
mutual
theorem ZtR:∀t:T,t.er.alts=t.alts.map T.er
 | .node k s0 s1 s2 s3 mn mx a c l=>by
  have:=ZqQ l
  simp only[T.er,T.alts,List.map_append,this]
  split <;> rfl
theorem ZqQ:∀l:List T,ZaA (erL l)=(ZaA l).map T.er
 | []=>rfl
 | t::l=>by simp only[erL,ZaA,List.map_append,ZtR t,ZqQ l]
end
theorem ZtS(t:T):t.er.cuts=t.cuts:=by unfold T.cuts;rw[ZtR,ZtQ]
theorem Zxa(n:Nat)(x:T):Zbw n x.er=Zbw n x:=by
 unfold Zbw
 rw[Zv3,Zhm,<-List.map_drop,<-ZqL]
theorem ZyP(l:List T)(c:C4)(hf:c.f < l.length):Zwl (l.map T.er) c=Zwl l c:=by
 unfold Zwl
 rw[List.getElem?_map,List.getElem?_eq_getElem hf]
 simp only[Option.map_some,Option.getD_some,ZpI]
 have e:(Zbw c.n∘T.er)=Zbw c.n:=by funext x;exact Zxa c.n x
 rw[<-List.map_take,<-List.map_take,<-List.map_drop,List.map_map,e]
 refine ZjT ?_
 rw[List.map_append,List.map_append,List.map_map]
 congr 1
 exact List.map_congr_left λz _=>Zd8 z
theorem ZyQ(l:List T)(c:C4)(hf:c.f < l.length):(Zh8 (l.map T.er) c).map T.er=(Zh8 l c).map T.er:=by
 unfold Zh8
 rw[ZyP l c hf,List.map_append,List.map_append,List.map_cons,List.map_cons,<-List.map_take,<-List.map_drop,List.map_map,List.map_map]
 congr 1
 ·exact List.map_congr_left λz _=>Zd8 z
 ·congr 1
  exact List.map_congr_left λz _=>Zd8 z
mutual
theorem ZpJ{c:C4}:∀(t:T)(n:Nat),ZeB c t.alts n->t.er.cutAt c n=t.cutAt c n
 | .node k s0 s1 s2 s3 mn mx a cc l,n,hf=>by
  have hl:=ZqR (c:=c) l (if k=4 then n+1 else n) (ZgJ hf)
  by_cases h:(T.node k s0 s1 s2 s3 mn mx a cc l).k=4/\n=c.a
  ·have cB:=Zea hf h.1 h.2
   rw[Zc4 h.1 h.2,Zc4 (by rw[Zv3];exact h.1) h.2,Zhm]
   have h1:=ZyQ (T.node k s0 s1 s2 s3 mn mx a cc l).subs c (by have:=cB.two;have:=cB.le;omega)
   rw[ZjU h1,Zlo h1]
  ·rw[ZbZ h,ZbZ (by rw[Zv3];exact h),Zv3,Zhm,<-ZdP]
   show(T.built _ (ZaI c (erL l) (if k=4 then n+1 else n)).1,(ZaI c (erL l) (if k=4 then n+1 else n)).2)=_
   rw[hl]
   congr 1
theorem ZqR{c:C4}:∀(l:List T)(n:Nat),ZeB c (ZaA l) n->ZaI c (erL l) n=ZaI c l n
 | [],n,_=>rfl
 | t::l,n,hf=>by
  have h1:=ZpJ (c:=c) t n (ZgK hf)
  rw[erL,ZaI,ZaI,h1]
  rw[ZqR l _ (ZgL hf)]
end
structure Top where
 c:C4
 g:Int
 t:T
def C4.zero:C4:=⟨0,0,0,0⟩
def Zhs(top c:C4)(most gain:Int):Bool:=decide (gain > most)||((gain == most)&&(decide (gain > 0)&&((c.a == top.a)&&((c.f == top.f)&&decide (c.t > top.t)))))
def Zfl(t:T)(c:C4):Int:=(t.nodes.length:Int) - ((t.cutAt c 0).1.nodes.length:Int)
def Zbp(t:T)(b:Top)(c:C4):Top:=if Zhs b.c c b.g (Zfl t c)then⟨c,Zfl t c,(t.cutAt c 0).1⟩ else b
def Zbb(t:T):Top:=t.cuts.foldl (Zbp t) ⟨C4.zero,0,t.er⟩
theorem Zsp{t:T}{c:C4}(h:c∈t.cuts)(b:Top):Zbp t.er b c=Zbp t b c:=by
 unfold Zbp Zfl
 rw[ZpJ t 0 (ZdR h),Zfh]
theorem Zlp{α β:Type}{f g:α->β->α}:∀{l:List β} {b:α},(∀x∈l,∀b,f b x=g b x)->l.foldl f b=l.foldl g b
 | [],b,_=>rfl
 | x::l,b,h=>by
  rw[List.foldl_cons,List.foldl_cons,h x (by simp)]
  exact Zlp λy hy=>h y (by simp[hy])
theorem ZtT(t:T):Zbb t.er=Zbb t:=by
 unfold Zbb
 rw[ZtS,Zd8]
 exact Zlp λc hc b=>Zsp hc b
structure TopOk (t:T)(b:Top):Prop where
 or:(b.g=0/\b.c=C4.zero/\b.t=t.er)\/(0 < b.g/\b.c∈t.cuts/\b.g=Zfl t b.c/\b.t=(t.cutAt b.c 0).1)
theorem Zsq{t:T}{b:Top}(h:TopOk t b){c:C4}(hc:c∈t.cuts):TopOk t (Zbp t b c):=by
 unfold Zbp
 split
 ·rename_i hb
  refine⟨.inr ⟨?_,hc,rfl,rfl⟩⟩
  have h0:0<=b.g:=by rcases h.or with h|h <;> omega
  show 0 < Zfl t c
  unfold Zhs at hb
  simp only[Bool.or_eq_true,Bool.and_eq_true,decide_eq_true_eq]at hb
  rcases hb with hb|⟨_,hb,_⟩ <;> omega
 ·exact h
theorem ZtU{t:T}:∀{l:List C4} {b:Top},(∀c∈l,c∈t.cuts)->TopOk t b->TopOk t (l.foldl (Zbp t) b)
 | [],b,_,h=>h
 | c::l,b,hl,h=>by
  rw[List.foldl_cons]
  exact ZtU (λx hx=>hl x (by simp[hx])) (Zsq h (hl c (by simp)))
theorem Zmm(t:T):TopOk t (Zbb t):=ZtU (λ_ h=>h) ⟨.inl ⟨rfl,rfl,rfl⟩⟩
theorem Zeb{t:T}(hg:t.good=true)(h:0 < (Zbb t).g):(Zbb t).t.good=true/\((Zbb t).t.nodes.length:Int)=t.nodes.length - (Zbb t).g/\(Zbb t).t.er=(Zbb t).t/\(Zbb t).t.gr=t.gr:=by
 rcases(Zmm t).or with h1|⟨_,h2,h3,h4⟩
 ·omega
 ·have ho:=ZjX (c:=(Zbb t).c) t 0 hg (ZdR h2)
  rw[h4]
  refine⟨ho.good,?_,ho.er,ho.gr⟩
  rw[h3];unfold Zfl;omega
def ZcT:Nat->T->T×List C4
 | 0,t=>(t.er,[])
 | k+1,t=>if(Zbb t).g<=0 then(t.er,[])else((ZcT k (Zbb t).t).1,(Zbb t).c::(ZcT k (Zbb t).t).2)
theorem Zn3(k:Nat)(t:T):ZcT k t.er=ZcT k t:=by
 cases k with
 | zero=>unfold ZcT;rw[Zd8]
 | succ k=>unfold ZcT;rw[ZtT,Zd8]
theorem ZfG:∀(n:Nat)(t:T),t.nodes.length<=n->t.good=true->∀k,t.nodes.length<=k->ZcT k t=ZcT t.nodes.length t
 | 0,t,hn,_,k,hk=>by
  have:=Zcr t
  omega
 | n+1,t,hn,hg,k,hk=>by
  have hz:=Zcr t
  obtain⟨k,rfl⟩:∃j,k=j+1:=⟨k - 1,by omega⟩
  obtain⟨j,hj⟩:∃j,t.nodes.length=j+1:=⟨t.nodes.length - 1,by omega⟩
  rw[hj,ZcT,ZcT]
  split
  ·rfl
  ·rename_i hp
   have hb:=Zeb hg (by omega)
   have h1:(Zbb t).t.nodes.length<=n:=by omega
   rw[ZfG n _ h1 hb.1 k (by omega),ZfG n _ h1 hb.1 j (by omega)]
def ZaM(t:T):T×List C4:=ZcT t.nodes.length t
theorem ZcU{t:T}(h:(Zbb t).g<=0):ZaM t=(t.er,[]):=by
 unfold ZaM
 obtain⟨j,hj⟩:∃j,t.nodes.length=j+1:=⟨t.nodes.length - 1,by have:=Zcr t;omega⟩
 rw[hj,ZcT,if_pos h]
theorem ZgM{t:T}(hg:t.good=true)(h:¬(Zbb t).g<=0):ZaM t=((ZaM (Zbb t).t).1,(Zbb t).c::(ZaM (Zbb t).t).2):=by
 have hb:=Zeb hg (by omega)
 unfold ZaM
 obtain⟨j,hj⟩:∃j,t.nodes.length=j+1:=⟨t.nodes.length - 1,by have:=Zcr t;omega⟩
 rw[hj,ZcT,if_neg h,ZfG _ (Zbb t).t (Nat.le_refl _) hb.1 j (by omega)]
theorem ZjY{t u:T}(h:t.er=u.er):ZaM t=ZaM u:=by
 unfold ZaM
 rw[<-Zn3,h,Zn3,<-Zfh t,h,Zfh]
end Go.Rx
namespace Go.Rx
open Go Go.Eng Go.RowKit
def bwL(f:Nat):List Value:=[.int .u64 (wdN f 0:Nat),.int .u64 (wdN f 1:Nat),.int .u64 (wdN f 2:Nat),.int .u64 (wdN f 3:Nat),.int .u64 (wdN f 4:Nat),.int .u64 (wdN f 5:Nat),.int .u64 (wdN f 6:Nat)]
def ZBm(f:Nat):List Nat:=(List.range 448).filter λi=>f.testBit i
end Go.Rx
namespace Go.Rx
open Go Go.Eng Go.RowKit
structure Pt where
 first:Nat
 last:Nat
 null:Bool
structure Ms where
 sets:List (Int×Int×Int×Int)
 fol:List Nat
def Pt.v(p:Pt):Value:=.agg #[.int .u64 (wdN p.first 0:Nat),.int .u64 (wdN p.first 1:Nat),.int .u64 (wdN p.first 2:Nat),.int .u64 (wdN p.first 3:Nat),.int .u64 (wdN p.first 4:Nat),.int .u64 (wdN p.first 5:Nat),.int .u64 (wdN p.first 6:Nat),.int .u64 (wdN p.last 0:Nat),.int .u64 (wdN p.last 1:Nat),.int .u64 (wdN p.last 2:Nat),.int .u64 (wdN p.last 3:Nat),.int .u64 (wdN p.last 4:Nat),.int .u64 (wdN p.last 5:Nat),.int .u64 (wdN p.last 6:Nat),.bool p.null]
def Pt.cs(p:Pt):List Value:=bwL p.first++bwL p.last++[Value.bool p.null]
def Zx0(fol:List Nat)(a b:Nat):List Nat:=fol.mapIdx λi x=>if a.testBit i then x|||b else x
def ZBn(p q:Pt):Pt:=⟨if p.null then p.first|||q.first else p.first,if q.null then q.last|||p.last else q.last,p.null&&q.null⟩
def ZyR(p q:Pt)(s:Ms):Pt×Ms:=(ZBn p q,⟨s.sets,Zx0 s.fol p.last q.first⟩)
def ZCH(p q:Pt):Pt:=⟨p.first|||q.first,p.last|||q.last,p.null||q.null⟩
def ZCm(f:Ms->Pt×Ms)(mn mx:Int)(n:Nat):Nat->Nat->Pt->Ms->Pt×Ms
 | 0,_,out,s=>(out,s)
 | q+1,i,out,s=>
  let x:=(f s).1
  let s1:=(f s).2
  let s2:Ms:=if mx=-1/\i+1=n then⟨s1.sets,Zx0 s1.fol x.last x.first⟩ else s1
  let y:Pt:=⟨x.first,x.last,x.null||decide ((i:Int) ≥ mn)⟩
  ZCm f mn mx n q (i+1) (ZyR out y s2).1 (ZyR out y s2).2
def ZCn(mn mx:Int):Nat:=(if mx=-1 then max mn 1 else mx).toNat
mutual
def mk:T->Ms->Pt×Ms
 | .node k s0 s1 s2 s3 mn mx _ _ l,s=>
  if k=0 then(⟨0,0,false⟩,s)
  else if k=1 then(⟨0,0,true⟩,s)
  else if k=2 then(⟨2 ^ s.sets.length,2 ^ s.sets.length,false⟩,⟨s.sets++[(s0,s1,s2,s3)],s.fol++[0]⟩)
  else if k=3 then ZAV l ⟨0,0,true⟩ s
  else if k=4 then ZAW l ⟨0,0,false⟩ s
  else if k=5 then ZCm (λs=>ZCo l s) mn mx (ZCn mn mx) (ZCn mn mx) 0 ⟨0,0,true⟩ s
  else ZCo l s
def ZCo:List T->Ms->Pt×Ms
 | [],s=>(⟨0,0,false⟩,s)
 | t::_,s=>mk t s
def ZAV:List T->Pt->Ms->Pt×Ms
 | [],out,s=>(out,s)
 | t::l,out,s=>ZAV l (ZyR out (mk t s).1 (mk t s).2).1 (ZyR out (mk t s).1 (mk t s).2).2
def ZAW:List T->Pt->Ms->Pt×Ms
 | [],out,s=>(out,s)
 | t::l,out,s=>ZAW l (ZCH out (mk t s).1) (mk t s).2
end
def Zc9(l:List (Int×Int×Int×Int)):List Value:=l.flatMap λq=>[.int .u64 q.1,.int .u64 q.2.1,.int .u64 q.2.2.1,.int .u64 q.2.2.2]
def ZBo(l:List Nat):List Value:=l.flatMap bwL
def Yof(v0 v1:Value)(b:Nat):Prop:=(Tok.mk v0 4).blk=some b\/(Tok.mk v1 7).blk=some b
def RowOk(m:Mem)(v:Value)(k:Nat)(cs:List Value):Prop:=(k=0/\v=.slice none 0 0)\/∃b c,v=.slice (some ⟨b,0,none⟩) k c/\m.reads b 0 cs/\k≠0
structure MkRow (m:Mem)(v0 v1:Value)(s:Ms):Prop where
 row0:RowOk m v0 s.sets.length (Zc9 s.sets)
 row1:RowOk m v1 s.fol.length (ZBo s.fol)
 ne:∀b,(Tok.mk v0 4).blk=some b->(Tok.mk v1 7).blk≠some b
structure MkOk (M0 m:Mem)(v0 v1:Value)(s:Ms):Prop extends MkRow m v0 v1 s where
 base:M0.le (m.off (Yof v0 v1))
theorem Zvc{m m':Mem}{Y Y':Nat->Prop}(h:(m.off Y).le m')(hn:∀b,Y' b->Y b\/m.free b):(m.off Y).le (m'.off Y'):=λb o v hv=>by
 unfold Mem.off at hv ⊢
 split at hv
 ·cases hv
 ·rename_i hY
  have:¬Y' b:=λh'=>by
   rcases hn b h' with h1|h1
   ·exact hY h1
   ·rw[h1 o]at hv;cases hv
  rw[if_neg this]
  have:=h b o v (by unfold Mem.off;rw[if_neg hY];exact hv)
  exact this
theorem MkOk.next{M0 m m':Mem}{v0 v1 v0' v1':Value}{s s':Ms}(h:MkOk M0 m v0 v1 s)(bE:(m.off (Yof v0 v1)).le m')(hn:∀b,Yof v0' v1' b->Yof v0 v1 b\/m.free b)(hr:MkRow m' v0' v1' s'):MkOk M0 m' v0' v1' s':=
 {hr with base:=mLt h.base (Zvc bE hn) }
theorem MkOk.free{M0 m:Mem}{v0 v1:Value}{s:Ms}(h:MkOk M0 m v0 v1 s){b:Nat}(hb:Yof v0 v1 b):M0.free b:=λo=>by
 cases he:M0 b o with
 | none=>rfl
 | some u=>
  have:=h.base b o u he
  unfold Mem.off at this
  rw[if_pos hb]at this;cases this
theorem MkOk.le{M0 m:Mem}{v0 v1:Value}{s:Ms}(h:MkOk M0 m v0 v1 s):M0.le m:=mLt h.base (Mem.off_le m _)
theorem RowOk.mono{m m':Mem}{v:Value}{k:Nat}{cs:List Value}(h:RowOk m v k cs)(hm:m.le m'):RowOk m' v k cs:=by
 rcases h with h|⟨b,c,h1,h2,h3⟩
 ·exact .inl h
 ·exact .inr ⟨b,c,h1,h2.mono hm,h3⟩
theorem MkRow.mono{m m':Mem}{v0 v1:Value}{s:Ms}(h:MkRow m v0 v1 s)(hm:m.le m'):MkRow m' v0 v1 s:=⟨h.row0.mono hm,h.row1.mono hm,h.ne⟩
end Go.Rx
namespace Go.Rx
open Go Go.Eng Go.RowKit
def PtIn(n:Nat)(p:Pt):Prop:=(∀i,p.first.testBit i=true->i < n)/\(∀i,p.last.testBit i=true->i < n)
structure MsOk (s:Ms):Prop where
 len:s.fol.length=s.sets.length
 fol:∀(j x:Nat),s.fol[j]?=some x->∀i,x.testBit i=true->i < s.sets.length
theorem PtIn.mono{n n':Nat}{p:Pt}(h:PtIn n p)(hn:n<=n'):PtIn n' p:=⟨λi hi=>Nat.lt_of_lt_of_le (h.1 i hi) hn,λi hi=>Nat.lt_of_lt_of_le (h.2 i hi) hn⟩
theorem ZAi{a b i:Nat}(h:(a|||b).testBit i=true):a.testBit i=true\/b.testBit i=true:=by
 simpa[Nat.testBit_or]using h
theorem MsOk.loop{s:Ms}(h:MsOk s)(a b:Nat)(hb:∀i,b.testBit i=true->i < s.sets.length):MsOk ⟨s.sets,Zx0 s.fol a b⟩:=by
 refine⟨by simp[Zx0,h.len],λj x hj i hi=>?_⟩
 simp only[Zx0,List.getElem?_mapIdx]at hj
 obtain⟨y,hy,rfl⟩:=Option.map_eq_some_iff.1 hj
 by_cases wV:a.testBit j=true
 ·rw[if_pos wV]at hi
  rcases ZAi hi with h1|h1
  ·exact h.fol j y hy i h1
  ·exact hb i h1
 ·rw[if_neg wV]at hi
  exact h.fol j y hy i hi
structure Grows (s:Ms)(r:Pt×Ms):Prop where
 le:s.sets.length<=r.2.sets.length
 ok:MsOk r.2
 pt:PtIn r.2.sets.length r.1
theorem Grows.trans{s s1:Ms}{p:Pt}{r:Pt×Ms}(h:Grows s (p,s1))(k:Grows s1 r):Grows s r:=⟨Nat.le_trans h.le k.le,k.ok,k.pt⟩
end Go.Rx
namespace Go.Rx
open Go Go.Eng Go.RowKit
abbrev QS:=Int×Int×Int×Int
structure Nf where
 sets:List QS
 fol:List (List Int)
 first:List Int
 last:List Int
 empty:Bool
deriving DecidableEq
def Zht(l:List Int):List Value:=l.map λi=>.int .i64 i
theorem ZqS(l:List Int):(Zht l).length=l.length:=by simp[Zht]
def SlI(st:Bool)(l:List Int)(v:Value)(m:Mem):Prop:=∃a c,v=.slice a l.length c/\rowRd m a (Zht l)/\l.length<=1000000/\(st=true->l=[]->a=none)
def SlQ(st:Bool)(l:List QS)(v:Value)(m:Mem):Prop:=∃a c,v=.slice a l.length c/\rowRd m a (Zc9 l)/\l.length<=1000000/\(st=true->l=[]->a=none)
def FolR(st:Bool)(fol:List (List Int))(v:Value)(m:Mem):Prop:=∃a c vs,v=.slice a fol.length c/\rowRd m a vs/\vs.length=fol.length/\fol.length<=1000000/\∀(i:Nat)(v:Value)(l:List Int),vs[i]?=some v->fol[i]?=some l->SlI st l v m
def NfR(st:Bool)(A:Nf)(v:Value)(m:Mem):Prop:=∃s f x y,v=.agg #[s,f,x,y,.bool A.empty]/\SlQ st A.sets s m/\FolR st A.fol f m/\SlI st A.first x m/\SlI st A.last y m
theorem SlI.mono{st:Bool}{l:List Int}{v:Value}{m m':Mem}(h:SlI st l v m)(k:m.le m'):SlI st l v m':=by
 obtain⟨a,c,h1,h2,h3⟩:=h;exact⟨a,c,h1,h2.mono k,h3⟩
theorem SlQ.mono{st:Bool}{l:List QS}{v:Value}{m m':Mem}(h:SlQ st l v m)(k:m.le m'):SlQ st l v m':=by
 obtain⟨a,c,h1,h2,h3⟩:=h;exact⟨a,c,h1,h2.mono k,h3⟩
theorem FolR.mono{st:Bool}{l:List (List Int)}{v:Value}{m m':Mem}(h:FolR st l v m)(k:m.le m'):FolR st l v m':=by
 obtain⟨a,c,vs,h1,h2,h3,h4,h5⟩:=h;exact⟨a,c,vs,h1,h2.mono k,h3,h4,λi v l hv hl=>(h5 i v l hv hl).mono k⟩
theorem NfR.mono{st:Bool}{A:Nf}{v:Value}{m m':Mem}(h:NfR st A v m)(k:m.le m'):NfR st A v m':=by
 obtain⟨s,f,x,y,h1,h2,h3,h4,h5⟩:=h;exact⟨s,f,x,y,h1,h2.mono k,h3.mono k,h4.mono k,h5.mono k⟩
def ZyS:List Int->Int->Int->Bool
 | [],_,_=>true
 | p::l,lo,hi=>decide (lo < p)&&(decide (p<=hi)&&ZyS l p hi)
def zQ:QS:=(0,0,0,0)
def Nf.top(A:Nf):Int:=(A.sets.length:Int) - 1
def Nf.right(A:Nf):Bool:=
 decide (A.sets.length<=400)&&(decide (A.fol.length=A.sets.length)&&(ZyS A.first (-1) A.top&&(ZyS A.last (-1) A.top&&((A.fol.zip A.sets).all λp=>ZyS p.1 (-1) A.top&&!(p.2 == zQ)))))
def ZBp(f:Nat):List Int:=(ZBm f).map λi:Nat=>(i:Int)
end Go.Rx
namespace Go.Rx
open Go Go.Eng Go.RowKit
def Zx1(p:Nat)(cur:List (List Int))(q:Int):List (List Int):=cur.modify q.toNat (λl=>l++[(p:Int)])
theorem ZqT(p:Nat)(cur:List (List Int))(q:Int):(Zx1 p cur q).length=cur.length:=by simp[Zx1]
theorem Zvd{p:Nat}{cur:List (List Int)}{q:Int}{i:Nat}{l:List Int}(h:cur[i]?=some l):(Zx1 p cur q)[i]?=some (if q.toNat=i then l++[(p:Int)]else l):=by
 unfold Zx1
 rw[List.getElem?_modify,h]
 split <;> rfl
structure Nf.Ok (A:Nf):Prop where
 n:A.sets.length<=400
 len:A.fol.length=A.sets.length
 first:A.first.Pairwise (· < ·)/\∀x∈A.first,-1 < x/\x<=A.top
 last:A.last.Pairwise (· < ·)/\∀x∈A.last,-1 < x/\x<=A.top
 fol:∀l∈A.fol,l.Pairwise (· < ·)/\∀x∈l,-1 < x/\x<=A.top
 sets:∀q∈A.sets,q≠zQ
structure TurnI (base m:Mem)(b:Nat)(F:Nat->Option (Nat×Nat))(cur:List (List Int)):Prop where
 le:base.le m
 fr:base.free b
 cell:∀(q:Nat)(l:List Int),cur[q]?=some l->(F q=none/\l=[]/\m b q=some (.slice none 0 0))\/∃bq c,F q=some (bq,c)/\l≠[]/\l.length<=c/\m b q=some (.slice (some ⟨bq,0,none⟩) l.length c)/\(∀o,o < c->∃v,m bq o=some v)/\m.reads bq 0 (Zht l)/\base.free bq/\bq≠b
 ne:∀(q q' b0 c c':Nat),F q=some (b0,c)->F q'=some (b0,c')->q=q'
 dom:∀(q:Nat)(x:Nat×Nat),F q=some x->q < cur.length
theorem Zve(l r:List Int):Zht (l++r)=Zht l++Zht r:=by simp[Zht]
theorem TurnI.push{base m:Mem}{b:Nat}{F:Nat->Option (Nat×Nat)}{cur:List (List Int)}(h:TurnI base m b F cur){q:Int}{p:Nat}{l:List Int}(AA:0<=q)(hq:cur[q.toNat]?=some l){a:Option Addr}{c:Nat}(hm:m b q.toNat=some (.slice a l.length c)){m1 m2 M:Mem}(aM:(m.cutA a (l.length*1)).le m1)
  {a':Option Addr} {c':Nat} (hr:rowRd m2 a' (Zht l++[.int .i64 (p:Int)])) (hf:TokFact m1 a a' (l.length+1) c') (s7:(m.cutA a (l.length*1)).le M) (dY:m2.le M) (zs:List Value) (hz:zs.length=(c' - (l.length+1))*1):
  ∃F',TurnI base ((M.upd b q.toNat [.slice a' (l.length+1) c']).addA a' ((l.length+1)*1) zs) b F' (Zx1 p cur q):=by
 have yx:=(List.getElem?_eq_some_iff.1 hq).1
 have eH:∀b o,a=some ⟨b,o,none⟩->o=0:=λb1 o1 e=>by
  rcases h.cell _ _ hq with⟨_,_,h3⟩|⟨bq,c0,_,_,_,h4,_⟩
  ·rw[hm,e]at h3;simp at h3
  ·rw[hm,e]at h4;simp at h4;exact h4.1.2
 obtain⟨hc',fC⟩:=hf.old eH
 rcases hr with hr|⟨b',o',ha',bA⟩
 ·have:=congrArg List.length hr;simp at this
 rcases fC with yy|⟨b2,iE,gQ⟩
 ·rw[yy]at ha';cases ha'
 rw[iE]at ha'
 simp only[Option.some.injEq,Addr.mk.injEq,and_true]at ha'
 obtain⟨rfl,rfl⟩:=ha'
 subst iE
 have fE:∀k o v,m k o=some v->(∀bq c0,F q.toNat=some (bq,c0)->k≠bq)->M k o=some v:=λk o v hv hk=>by
  refine s7 k o v ?_
  unfold Mem.cutA
  split
  ·rename_i k0 o0 s0
   rcases h.cell _ _ hq with⟨_,_,h3⟩|⟨bq,c0,h1,_,_,h4,_⟩
   ·rw[hm]at h3;simp only[Option.some.injEq,Value.slice.injEq]at h3;exact absurd h3.1 (by simp)
   ·rw[hm]at h4
    simp only[Option.some.injEq,Value.slice.injEq,Addr.mk.injEq]at h4
    rw[if_neg (λhc=>hk bq c0 h1 (hc.1.trans h4.1.1))];exact hv
  ·exact hv
 have hb'k:∀k o v,m k o=some v->(∀bq c0,F q.toNat=some (bq,c0)->k≠bq)->k≠b2:=λk o v hv hk e=>by
  subst e
  have yz:(m.cutA a (l.length*1)) k o=some v:=by
   unfold Mem.cutA
   split
   ·rename_i k0 o0 s0
    rcases h.cell _ _ hq with⟨_,_,h3⟩|⟨bq,c0,h1,_,_,h4,_⟩
    ·rw[hm]at h3;simp only[Option.some.injEq,Value.slice.injEq]at h3;exact absurd h3.1 (by simp)
    ·rw[hm]at h4
     simp only[Option.some.injEq,Value.slice.injEq,Addr.mk.injEq]at h4
     rw[if_neg (λhc=>hk bq c0 h1 (hc.1.trans h4.1.1))];exact hv
   ·exact hv
  rcases gQ with gQ|gQ
  ·rcases h.cell _ _ hq with⟨_,_,h3⟩|⟨bq,c0,h1,_,_,h4,_⟩
   ·rw[hm,gQ]at h3;simp only[Option.some.injEq,Value.slice.injEq]at h3;exact absurd h3.1 (by simp)
   ·rw[hm,gQ]at h4
    simp only[Option.some.injEq,Value.slice.injEq,Addr.mk.injEq]at h4
    exact hk bq c0 h1 h4.1.1
  ·have:=aM _ _ _ yz
   rw[gQ o]at this;cases this
 have jT:∀q' x,cur[q']?=some x->∃v,m b q'=some v:=λq' x hx=>by
  rcases h.cell _ _ hx with⟨_,_,h3⟩|⟨_,_,_,_,_,h4,_⟩
  ·exact⟨_,h3⟩
  ·exact⟨_,h4⟩
 have uH:∀bq c0,F q.toNat=some (bq,c0)->b≠bq:=λbq c0 h1 e=>by
  rcases h.cell _ _ hq with⟨h3,_,_⟩|⟨bq',c0',h1',_,_,_,_,_,_,h8⟩
  ·rw[h3]at h1;cases h1
  ·rw[h1]at h1';cases h1';exact h8 e.symm
 have dI:b≠b2:=by
  obtain⟨v,hv⟩:=jT _ _ hq
  exact hb'k b _ v hv uH
 let N:=(M.upd b q.toNat [.slice (some ⟨b2,0,none⟩) (l.length+1) c']).addA (some ⟨b2,0,none⟩) ((l.length+1)*1) zs
 have hN:∀k o,k≠b2->(k≠b\/o≠q.toNat)->N k o=M k o:=λk o hk yA=>by
  show Mem.addAt _ b2 _ zs k o=_
  unfold Mem.addAt
  rw[if_neg (λhc=>hk hc.1)]
  unfold Mem.upd
  rw[if_neg]
  rintro⟨e1,e2,e3⟩
  simp at e3
  rcases yA with h|h
  ·exact h e1
  ·omega
 have yB:N b q.toNat=some (.slice (some ⟨b2,0,none⟩) (l.length+1) c'):=by
  show Mem.addAt _ b2 _ zs b q.toNat=_
  unfold Mem.addAt
  rw[if_neg (λhc=>dI hc.1)]
  unfold Mem.upd
  rw[if_pos ⟨rfl,Nat.le_refl _,by simp⟩];simp
 have rQ:base.free b2:=by
  rcases gQ with gQ|gQ
  ·rcases h.cell _ _ hq with⟨_,_,h3⟩|⟨bq,c0,h1,_,_,h4,_,_,h7,_⟩
   ·rw[hm,gQ]at h3;simp only[Option.some.injEq,Value.slice.injEq]at h3;exact absurd h3.1 (by simp)
   ·rw[hm,gQ]at h4
    simp only[Option.some.injEq,Value.slice.injEq,Addr.mk.injEq]at h4
    rw[h4.1.1];exact h7
  ·intro o
   cases he:base b2 o with
   | none=>rfl
   | some v=>
    exfalso
    refine hb'k b2 o v (h.le _ _ _ he) (λbq c0 h1 e=>?_) rfl
    rcases h.cell _ _ hq with⟨h3,_,_⟩|⟨bq',c0',h1',_,_,_,_,_,h7,_⟩
    ·rw[h3]at h1;cases h1
    ·rw[h1]at h1';cases h1'
     rw[e,h7 o]at he;cases he
 refine⟨λi=>if i=q.toNat then some (b2,c')else F i,?_⟩
 show TurnI base N b _ _
 refine⟨λk o v hv=>?_,h.fr,λi x hx=>?_,λi i' b0 c0 c0' h1 h2=>?_,λi x hx=>?_⟩
 ·have dC:k≠b2:=λe=>by subst e;rw[rQ o]at hv;cases hv
  have iS:k≠b:=λe=>by subst e;rw[h.fr o]at hv;cases hv
  rw[hN k o dC (.inl iS)]
  refine fE k o v (h.le _ _ _ hv) λbq c0 h1 e=>?_
  rcases h.cell _ _ hq with⟨h3,_,_⟩|⟨bq',c0',h1',_,_,_,_,_,h7,_⟩
  ·rw[h3]at h1;cases h1
  ·rw[h1]at h1';cases h1'
   rw[e,h7 o]at hv;cases hv
 ·have uI:i < cur.length:=by have:=(List.getElem?_eq_some_iff.1 hx).1;rwa [ZqT]at this
  obtain⟨y,hy⟩:∃y,cur[i]?=some y:=⟨_,List.getElem?_eq_getElem uI⟩
  rw[Zvd hy]at hx
  by_cases hi:i=q.toNat
  ·subst hi
   rw[hq]at hy;cases hy
   rw[if_pos rfl]at hx;cases hx
   refine .inr ⟨b2,c',by simp,by simp,by simpa using hc',by rw[List.length_append];exact yB,λo ho=>?_,λj v hj=>?_,rQ,dI.symm⟩
   ·show ∃v,Mem.addAt _ b2 _ zs b2 o=some v
    unfold Mem.addAt
    by_cases wW:0+(l.length+1)*1<=o
    ·rw[if_pos ⟨rfl,wW⟩]
     have:o - (0+(l.length+1)*1) < zs.length:=by omega
     rw[List.getElem?_eq_getElem this];exact⟨_,rfl⟩
    ·rw[if_neg (λhc=>wW hc.2)]
     have hv:=bA o ((Zht l++[.int .i64 (p:Int)])[o]'(by simp[ZqS];omega)) (List.getElem?_eq_getElem _)
     rw[Nat.zero_add]at hv
     rw[Mem.upd_other _ dI.symm]
     exact⟨_,dY _ _ _ hv⟩
   ·show Mem.addAt _ b2 _ zs b2 (0+j)=some v
    have wX:=(List.getElem?_eq_some_iff.1 hj).1
    rw[ZqS,List.length_append,List.length_singleton]at wX
    unfold Mem.addAt
    rw[if_neg (by omega),Mem.upd_other _ dI.symm]
    rw[Zve]at hj
    exact dY _ _ _ (bA j v hj)
  ·rw[if_neg (λe=>hi e.symm)]at hx
   obtain rfl:y=x:=Option.some.inj hx
   have rR:∀x,F i=some x->∀bq c0,F q.toNat=some (bq,c0)->x.1≠bq:=λx h1 bq c0 h2 e=>by
    obtain⟨x1,x2⟩:=x
    simp only at e;subst e
    exact hi (h.ne _ _ _ _ _ h1 h2)
   rcases h.cell _ _ hy with⟨h1,h2,h3⟩|⟨bq,c0,h1,h2,h3,h4,h5,h6,h7,h8⟩
   ·refine .inl ⟨by simp only[if_neg hi];exact h1,h2,?_⟩
    rw[hN b i dI (.inr hi)]
    exact fE _ _ _ h3 uH
   ·have hk:∀bq' c0',F q.toNat=some (bq',c0')->bq≠bq':=λbq' c0' h=>rR _ h1 bq' c0' h
    have dC:bq≠b2:=by
     cases y with
     | nil=>exact absurd rfl h2
     | cons z y=>
      have:=h6 0 (.int .i64 z) rfl
      exact hb'k _ _ _ this hk
    refine .inr ⟨bq,c0,by simp only[if_neg hi];exact h1,h2,h3,?_,λo ho=>?_,λj v hj=>?_,h7,h8⟩
    ·rw[hN b i dI (.inr hi)];exact fE _ _ _ h4 uH
    ·obtain⟨v,hv⟩:=h5 o ho
     exact⟨v,by rw[hN bq o dC (.inl h8)];exact fE _ _ _ hv hk⟩
    ·rw[hN bq _ dC (.inl h8)];exact fE _ _ _ (h6 j v hj) hk
 ·have key:∀j c1,F j=some (b2,c1)->j=q.toNat:=λj c1 hj=>by
   have lG:=h.dom _ _ hj
   rcases h.cell j _ (List.getElem?_eq_getElem lG)with⟨h3,_,_⟩|⟨bq,c0,g1,g2,_,_,_,g6,_,_⟩
   ·rw[h3]at hj;cases hj
   ·rw[hj]at g1;cases g1
    cases rR:F q.toNat with
    | none=>
     exfalso
     have:∃z y,cur[j]'lG=z::y:=by
      cases hc:cur[j]'lG with
      | nil=>exact absurd hc g2
      | cons z y=>exact⟨z,y,rfl⟩
     obtain⟨z,y,uJ⟩:=this
     have hv:=g6 0 (.int .i64 z) (by rw[uJ];rfl)
     exact hb'k _ _ _ hv (λbq c0 h1=>by rw[rR]at h1;cases h1) rfl
    | some x=>
     obtain⟨x1,x2⟩:=x
     by_cases fP:x1=b2
     ·subst fP;exact h.ne _ _ _ _ _ hj rR
     ·exfalso
      have:∃z y,cur[j]'lG=z::y:=by
       cases hc:cur[j]'lG with
       | nil=>exact absurd hc g2
       | cons z y=>exact⟨z,y,rfl⟩
      obtain⟨z,y,uJ⟩:=this
      have hv:=g6 0 (.int .i64 z) (by rw[uJ];rfl)
      exact hb'k _ _ _ hv (λbq c0 h1 e=>by rw[rR]at h1;cases h1;exact fP e.symm) rfl
  split at h1 <;> split at h2
  ·omega
  ·simp only[Option.some.injEq,Prod.mk.injEq]at h1
   rw[<-h1.1]at h2
   have:=key _ _ h2;omega
  ·simp only[Option.some.injEq,Prod.mk.injEq]at h2
   rw[<-h2.1]at h1
   have:=key _ _ h1;omega
  ·exact h.ne _ _ _ _ _ h1 h2
 ·rw[ZqT]
  split at hx
  ·omega
  ·exact h.dom _ _ hx
end Go.Rx
namespace Go.Rx
open Go Go.Eng Go.RowKit
def ZBq(q:QS):T:=.node 2 q.1 q.2.1 q.2.2.1 q.2.2.2 0 0 none 0 []
def Zx2(q:QS)(c:Nat):Bool:=(ZBq q).hasB c
def QOk(q:QS):Prop:=(0<=q.1/\q.1 < 18446744073709551616)/\(0<=q.2.1/\q.2.1 < 18446744073709551616)/\(0<=q.2.2.1/\q.2.2.1 < 18446744073709551616)/\(0<=q.2.2.2/\q.2.2.2 < 18446744073709551616)
def Nf.fromL(A:Nf)(p:Int):List Int:=if p=-1 then A.first else(A.fol[p.toNat]?).getD []
def Nf.hasAt(A:Nf)(q:Int)(c:Nat):Bool:=Zx2 ((A.sets[q.toNat]?).getD zQ) c
def Nf.step1(A:Nf)(c:Nat)(f:Nat)(q:Int):Nat:=if A.hasAt q c then f|||2 ^ q.toNat else f
def Nf.stepM(A:Nf)(l:List Int)(c:Nat)(f:Nat):Nat:=l.foldl (λf p=>(A.fromL p).foldl (A.step1 c) f) f
def Nf.step(A:Nf)(l:List Int)(c:Nat):List Int:=ZBp (A.stepM l c 0)
def Nf.next(A:Nf)(again:Bool)(l:List Int)(c:Nat):List Int:=if again then -1::A.step l c else A.step l c
def Nf.run(A:Nf)(b:List Nat)(l:List Int):List Int:=b.foldl (λl c=>A.step l c) l
def Nf.runE(A:Nf)(n:Nat):Int:=if A.right=false then 171 else if 4096 < n then 3 else 0
inductive Nf.Reach (A:Nf):Nat->Prop
 | first {p:Nat} (h:(p:Int)∈A.first):A.Reach p
 | fol {p q:Nat} {l:List Int} (h:A.Reach p) (hl:A.fol[p]?=some l) (hq:(q:Int)∈l):A.Reach q
end Go.Rx
namespace Go.Rx
open Go Go.Eng Go.RowKit
structure Bad (t:T):Prop where
 k:t.k≠0
 no:t.check≠0
structure Says (t:T)(len:Nat)(i:Int)(e:Int):Prop where
 one:t.wrong len i=e
 rg:Rg.wrong ⟨false,false,t⟩ len i=e
 all:ZAe [⟨false,false,t⟩] len i=e
structure Asks (k:Nat)(t:T)(len:Nat)(i e:Int):Prop where
 yC:Says t len i e
 zero:k<=1->Says t len 0 e
 no:e≠0
 len:len<=513
end Go.Rx
namespace Go.Rx
open Go Go.Eng Go.RowKit
end Go.Rx
namespace Go.Rx
open Go Go.Eng Go.RowKit
abbrev Re:=Nat->Nat->Prop
def pow(R:Re):Nat->Re
 | 0=>λi j=>i=j
 | n+1=>λi j=>∃m,R i m/\pow R n m j
mutual
def T.M(s:List Nat):T->Re
 | .node k s0 s1 s2 s3 mn mx a c l=>λi j=>
  if k=1 then i=j else if k=2 then j=i+1/\∃b,s[i]?=some b/\(T.node k s0 s1 s2 s3 mn mx a c l).hasB b=true
  else if k=3 then MC s l i j else if k=4 then MA s l i j
  else if k=5 then ∃n:Nat,mn.toNat<=n/\(mx=-1\/n<=mx.toNat)/\pow (MH s l) n i j
  else if k=6 then MH s l i j else False
def MC(s:List Nat):List T->Re
 | []=>λi j=>i=j
 | t::l=>λi j=>∃m,t.M s i m/\MC s l m j
def MA(s:List Nat):List T->Re
 | []=>λ_ _=>False
 | t::l=>λi j=>t.M s i j\/MA s l i j
def MH(s:List Nat):List T->Re
 | []=>λi j=>i=j
 | t::_=>t.M s
end
section
variable {s:List Nat}
end
def Fwd(R:Re):Prop:=∀i j,R i j->i<=j
def Sh(s s':List Nat)(R R':Re):Prop:=∀i j i',R i j->(∀p,i+p < j->s[i+p]?=s'[i'+p]?)->R' i' (i'+(j - i))
def Len(s:List Nat)(R:Re):Prop:=∀i j,R i j->i<=s.length->j<=s.length
structure Nice (s s':List Nat)(R R':Re):Prop where
 fwd:Fwd R
 sh:Sh s s' R R'
 len:Len s R
end Go.Rx
namespace Go.Rx
open Go Go.Eng Go.RowKit
set_option maxRecDepth 100000
end Go.Rx
namespace Go.Rx
open Go Go.Eng Go.RowKit
set_option maxRecDepth 100000
end Go.Rx
namespace Go.Rx
open Go Go.Eng Go.RowKit
set_option maxRecDepth 100000
end Go.Rx
namespace Go.Rx
open Go Go.Eng Go.RowKit
set_option maxRecDepth 100000
end Go.Rx
namespace Go.Rx
open Go Go.Eng Go.RowKit
set_option maxRecDepth 100000
theorem Zsr{l:List Value}{i:Nat}{v:Value}(h:i < l.length):Zax l i [v]=l.set i v:=by
 refine List.ext_getElem? λj=>?_
 unfold Zax
 simp only[List.length_cons,List.length_nil]
 rw[List.getElem?_set]
 by_cases h1:j < i
 ·rw[List.append_assoc,List.getElem?_append_left (by rw[List.length_take];omega),List.getElem?_take,if_pos h1,if_neg (by omega)]
 ·rw[List.append_assoc,List.getElem?_append_right (by rw[List.length_take];omega),List.length_take,Nat.min_eq_left (by omega)]
  by_cases h2:j=i
  ·subst h2;simp[h]
  ·rw[List.getElem?_append_right (by simp;omega),if_neg (by omega),List.getElem?_drop]
   congr 1
   simp;omega
end Go.Rx
namespace Go.Rx
open Go Go.Eng Go.RowKit
set_option maxRecDepth 100000
def ZrO(q:QS)(c:Nat):Int:=if Zx2 q c then 1 else 0
def ZaH(q:QS):List Value:=(List.range 256).map λc=>Value.int .i64 (ZrO q c)
theorem Zal(q:QS):(ZaH q).length=256:=by simp[ZaH]
theorem Zmn(q:QS){c:Nat}(h:c < 256):(ZaH q)[c]?=some (.int .i64 (ZrO q c)):=by simp[ZaH,h]
theorem ZgN(q:QS):∀u∈ZaH q,u.oneCell'=true:=by
 intro u hu
 obtain⟨c,_,rfl⟩:=List.mem_map.1 hu
 rfl
def Zfz(q:QS)(j:Nat):Int:=if j=0 then q.1 else if j=1 then q.2.1 else if j=2 then q.2.2.1 else q.2.2.2
theorem Zn4(q:QS)(c:Nat):Zx2 q c=(Zfz q (c / 64)).toNat.testBit (c % 64):=rfl
theorem ZfH{q:QS}(h:QOk q)(j:Nat):0<=Zfz q j/\Zfz q j < 18446744073709551616:=by
 obtain⟨h0,h1,h2,h3⟩:=h
 unfold Zfz
 split
 ·exact h0
 ·split
  ·exact h1
  ·split
   ·exact h2
   ·exact h3
theorem ZyT(n i:Nat):n / 2 ^ i % 2=if n.testBit i then 1 else 0:=by
 rw[Nat.testBit_eq_decide_div_mod_eq]
 have:=Nat.mod_two_eq_zero_or_one (n / 2 ^ i)
 by_cases h:n / 2 ^ i % 2=1
 ·simp[h]
 ·have h0:n / 2 ^ i % 2=0:=by omega
  simp[h0]
theorem ZAj{q r:QS}(hq:QOk q)(hr:QOk r)(h:∀c,c < 256->Zx2 q c=Zx2 r c):q=r:=by
 have key:∀j,j < 4->Zfz q j=Zfz r j:=λj hj=>by
  have a:=ZfH hq j
  have b:=ZfH hr j
  have e:(Zfz q j).toNat=(Zfz r j).toNat:=by
   apply Nat.eq_of_testBit_eq
   intro i
   by_cases hi:i < 64
   ·have:=h (64*j+i) (by omega)
    rw[Zn4,Zn4,show(64*j+i) / 64=j by omega,show(64*j+i) % 64=i by omega]at this
    exact this
   ·have p:2 ^ 64<=2 ^ i:=Nat.pow_le_pow_right (by omega) (by omega)
    rw[Nat.testBit_lt_two_pow (by omega),Nat.testBit_lt_two_pow (by omega)]
  omega
 obtain⟨q0,q1,q2,q3⟩:=q
 obtain⟨r0,r1,r2,r3⟩:=r
 have h0:=key 0 (by omega)
 have h1:=key 1 (by omega)
 have h2:=key 2 (by omega)
 have h3:=key 3 (by omega)
 simp only[Zfz]at h0 h1 h2 h3
 simp at h0 h1 h2 h3
 rw[h0,h1,h2,h3]
theorem Zss{q r:QS}(hq:QOk q)(hr:QOk r)(h:ZaH q=ZaH r):q=r:=by
 refine ZAj hq hr λc hc=>?_
 have h1:=Zmn q hc
 rw[h,Zmn r hc]at h1
 simp only[Option.some.injEq,Value.int.injEq,true_and,ZrO]at h1
 cases h2:Zx2 q c <;> cases h3:Zx2 r c <;> rw[h2,h3]at h1 <;> simp at h1 ⊢
end Go.Rx
namespace Go.Rx
open Go Go.Eng Go.RowKit
set_option maxRecDepth 100000
def T.q(t:T):QS:=(t.s0,t.s1,t.s2,t.s3)
def rcs(k:Int)(q:QS)(mn mx:Int)(a:Option Addr)(n c:Nat):List Value:=.int .i64 k::(ZaH q++[.int .i64 mn,.int .i64 mx,.slice a n c])
theorem Zfm(k:Int)(q:QS)(mn mx:Int)(a:Option Addr)(n c:Nat):(rcs k q mn mx a n c).length=260:=by simp[rcs,Zal]
theorem ZpK(k:Int)(q:QS)(mn mx:Int)(a:Option Addr)(n c:Nat):(rcs k q mn mx a n c)[0]?=some (.int .i64 k):=rfl
theorem Zxb(k:Int)(q:QS)(mn mx:Int)(a:Option Addr)(n c:Nat):(rcs k q mn mx a n c)[257]?=some (.int .i64 mn):=by
 rw[rcs,List.getElem?_cons_succ,List.getElem?_append_right (by rw[Zal];omega),Zal];rfl
theorem Zxc(k:Int)(q:QS)(mn mx:Int)(a:Option Addr)(n c:Nat):(rcs k q mn mx a n c)[258]?=some (.int .i64 mx):=by
 rw[rcs,List.getElem?_cons_succ,List.getElem?_append_right (by rw[Zal];omega),Zal];rfl
theorem ZqU(k:Int)(q:QS)(mn mx:Int)(a:Option Addr)(n c:Nat):(rcs k q mn mx a n c)[259]?=some (.slice a n c):=by
 rw[rcs,List.getElem?_cons_succ,List.getElem?_append_right (by rw[Zal];omega),Zal];rfl
theorem Zlq(k:Int)(q:QS)(mn mx:Int)(a:Option Addr)(n c:Nat):((rcs k q mn mx a n c).drop 1).take 256=ZaH q:=by
 rw[rcs,List.drop_succ_cons,List.drop_zero,List.take_left' (Zal q)]
theorem ZqV(k:Int)(q:QS)(mn mx:Int)(a:Option Addr)(n c:Nat):∀u∈rcs k q mn mx a n c,u.oneCell'=true:=by
 intro u hu
 unfold rcs at hu
 rcases List.mem_cons.1 hu with rfl|hu
 ·rfl
 ·rcases List.mem_append.1 hu with hu|hu
  ·exact ZgN q u hu
  ·simp only[List.mem_cons,List.not_mem_nil,or_false]at hu
   rcases hu with rfl|rfl|rfl <;> rfl
mutual
def RefT(m:Mem):T->List Value->Prop
 | .node k s0 s1 s2 s3 mn mx _ _ l,cs=>OkN k s0 s1 s2 s3 mn mx/\l.length<=1000000/\∃a c css,cs=rcs k (s0,s1,s2,s3) mn mx a l.length c/\rowRd m a css.flatten/\RefAt m l css/\l.length<=c
def RefAt(m:Mem):List T->List (List Value)->Prop
 | [],css=>css=[]
 | t::l,css=>∃cs r,css=cs::r/\RefT m t cs/\RefAt m l r
end
theorem Za6{m:Mem}{t:T}{cs:List Value}:RefT m t cs↔(OkN t.k t.s0 t.s1 t.s2 t.s3 t.mn t.mx/\t.subs.length<=1000000/\∃a c css,cs=rcs t.k t.q t.mn t.mx a t.subs.length c/\rowRd m a css.flatten/\RefAt m t.subs css/\t.subs.length<=c):=by
 cases t;simp only[RefT,T.k,T.s0,T.s1,T.s2,T.s3,T.mn,T.mx,T.subs,T.q]
theorem ZtV{t:T}(h:OkN t.k t.s0 t.s1 t.s2 t.s3 t.mn t.mx):QOk t.q:=⟨h.s0,h.s1,h.s2,h.s3⟩
theorem RefT.len{m:Mem}{t:T}{cs:List Value}(h:RefT m t cs):cs.length=260:=by
 obtain⟨_,_,a,c,css,rfl,_⟩:=Za6.1 h
 exact Zfm _ _ _ _ _ _ _
theorem RefT.one{m:Mem}{t:T}{cs:List Value}(h:RefT m t cs):∀u∈cs,u.oneCell'=true:=by
 obtain⟨_,_,a,c,css,rfl,_⟩:=Za6.1 h
 exact ZqV _ _ _ _ _ _ _
theorem RefAt.len{m:Mem}:∀{l:List T} {css:List (List Value)},RefAt m l css->css.length=l.length
 | [],css,h=>by simp only[RefAt]at h;rw[h];rfl
 | t::l,css,h=>by
  simp only[RefAt]at h
  obtain⟨cs,r,rfl,_,h2⟩:=h
  simp[h2.len]
theorem RefAt.get{m:Mem}:∀{l:List T} {css:List (List Value)} {i:Nat} {t:T},RefAt m l css->l[i]?=some t->∃cs,css[i]?=some cs/\RefT m t cs
 | [],css,i,t,h,hi=>by simp at hi
 | t::l,css,i,u,h,hi=>by
  simp only[RefAt]at h
  obtain⟨cs,r,rfl,h1,h2⟩:=h
  cases i with
  | zero=>simp at hi;subst hi;exact⟨cs,rfl,h1⟩
  | succ i=>simpa using h2.get (i:=i) (by simpa using hi)
theorem RefAt.all{m:Mem}:∀{l:List T} {css:List (List Value)},RefAt m l css->∀cs∈css,cs.length=260
 | [],css,h,cs,hc=>by simp only[RefAt]at h;rw[h]at hc;cases hc
 | t::l,css,h,cs,hc=>by
  simp only[RefAt]at h
  obtain⟨cs',r,rfl,h1,h2⟩:=h
  rcases List.mem_cons.1 hc with rfl|hc
  ·exact h1.len
  ·exact h2.all cs hc
theorem RefAt.snoc{m:Mem}:∀{l:List T} {css:List (List Value)} {t:T} {cs:List Value},RefAt m l css->RefT m t cs->RefAt m (l++[t]) (css++[cs])
 | [],css,t,cs,h,h1=>by
  simp only[RefAt]at h
  subst h
  simp only[List.nil_append,RefAt]
  exact⟨cs,[],rfl,h1,rfl⟩
 | x::l,css,t,cs,h,h1=>by
  simp only[RefAt]at h
  obtain⟨cs',r,rfl,h2,h3⟩:=h
  simp only[List.cons_append,RefAt]
  exact⟨cs',r++[cs],rfl,h2,h3.snoc h1⟩
mutual
theorem RefT.mono{m m':Mem}(k:m.le m'):∀{t:T} {cs:List Value},RefT m t cs->RefT m' t cs
 | .node _ _ _ _ _ _ _ _ _ l,cs,h=>by
  simp only[RefT]at h ⊢
  obtain⟨h1,h2,a,c,css,h3,h4,h5,h6⟩:=h
  exact⟨h1,h2,a,c,css,h3,h4.mono k,RefAt.mono k h5,h6⟩
theorem RefAt.mono{m m':Mem}(k:m.le m'):∀{l:List T} {css:List (List Value)},RefAt m l css->RefAt m' l css
 | [],css,h=>by simpa only[RefAt]using h
 | t::l,css,h=>by
  simp only[RefAt]at h ⊢
  obtain⟨cs,r,e,h1,h2⟩:=h
  exact⟨cs,r,e,RefT.mono k h1,RefAt.mono k h2⟩
end
theorem Zb4{css:List (List Value)}(h:∀cs∈css,cs.length=260):css.flatten.length=css.length*260:=by
 induction css with
 | nil=>rfl
 | cons cs r ih=>
  rw[List.flatten_cons,List.length_append,h cs (by simp),ih λx hx=>h x (by simp[hx]),List.length_cons];omega
theorem ZyU{css:List (List Value)}(h:∀cs∈css,cs.length=260){i:Nat}{cs:List Value}(hi:css[i]?=some cs){j:Nat}{v:Value}(hv:cs[j]?=some v):css.flatten[i*260+j]?=some v:=by
 induction css generalizing i with
 | nil=>simp at hi
 | cons c r ih=>
  have hj:j < 260:=by have:=(List.getElem?_eq_some_iff.1 hv).1;rw[h cs (List.mem_of_getElem? hi)]at this;exact this
  have hc:=h c (by simp)
  rw[List.flatten_cons]
  cases i with
  | zero=>
   simp at hi;subst hi
   rw[Nat.zero_mul,Nat.zero_add,List.getElem?_append_left (by omega)];exact hv
  | succ i=>
   rw[List.getElem?_append_right (by omega),hc,show(i+1)*260+j - 260=i*260+j by omega]
   exact ih (λx hx=>h x (by simp[hx])) (by simpa using hi)
theorem ZfI{m:Mem}{l:List T}{css:List (List Value)}(h:RefAt m l css):∀u∈css.flatten,u.oneCell'=true:=by
 intro u hu
 obtain⟨cs,hc,hu⟩:=List.mem_flatten.1 hu
 obtain⟨i,hi⟩:=List.getElem?_of_mem hc
 obtain⟨t,ht⟩:∃t,l[i]?=some t:=⟨_,List.getElem?_eq_getElem (by have:=(List.getElem?_eq_some_iff.1 hi).1;have:=h.len;omega)⟩
 obtain⟨cs',h1,h2⟩:=h.get ht
 rw[hi]at h1;cases h1
 exact h2.one u hu
theorem Zcd{m:Mem}{a:Option Addr}{l:List T}{css:List (List Value)}(hr:rowRd m a css.flatten)(h:RefAt m l css){i:Nat}{t:T}(hi:l[i]?=some t):∃b o cs,a=some ⟨b,o,none⟩/\m.reads b (o+i*260) cs/\RefT m t cs:=by
 obtain⟨cs,h1,h2⟩:=h.get hi
 rcases hr with hr|⟨b,o,e,hr⟩
 ·have:=Zb4 h.all
  rw[hr]at this
  have:=(List.getElem?_eq_some_iff.1 h1).1
  simp at *;omega
 ·exact⟨b,o,cs,e,λj v hv=>by have:=hr _ v (ZyU h.all h1 hv);rwa [<-Nat.add_assoc]at this,h2⟩
mutual
def RepW(m:Mem):T->Prop
 | .node k s0 s1 s2 s3 mn mx a _ l=>l.length<=9223372036854775807/\(l=[]\/∃b o,a=some ⟨b,o,none⟩/\RepWAt m b o l)/\OkN k s0 s1 s2 s3 mn mx
def RepWAt(m:Mem)(b:Nat):Nat->List T->Prop
 | _,[]=>True
 | o,t::l=>m.reads b o t.cs/\RepW m t/\RepWAt m b (o+8) l
end
theorem Zmo{m:Mem}{t:T}:RepW m t↔(t.subs.length<=9223372036854775807/\(t.subs=[]\/∃b o,t.a=some ⟨b,o,none⟩/\RepWAt m b o t.subs)/\OkN t.k t.s0 t.s1 t.s2 t.s3 t.mn t.mx):=by
 cases t;simp only[RepW,T.k,T.s0,T.s1,T.s2,T.s3,T.mn,T.mx,T.subs,T.a]
theorem RepWAt.get{m:Mem}{b:Nat}:∀{l:List T} {o i:Nat} {t:T},RepWAt m b o l->l[i]?=some t->m.reads b (o+i*8) t.cs/\RepW m t
 | [],o,i,t,h,hi=>by simp at hi
 | x::l,o,0,t,h,hi=>by
  simp at hi;subst hi
  simp only[RepWAt]at h
  simpa using⟨h.1,h.2.1⟩
 | x::l,o,i+1,t,h,hi=>by
  simp only[RepWAt]at h
  have:=h.2.2.get (i:=i) (by simpa using hi)
  rw[show o+(i+1)*8=o+8+i*8 by omega]
  exact this
theorem Zmp{m:Mem}{b:Nat}:∀{l:List T} {o:Nat},(∀(i:Nat)(t:T),l[i]?=some t->m.reads b (o+i*8) t.cs/\RepW m t)->RepWAt m b o l
 | [],o,h=>by simp only[RepWAt]
 | x::l,o,h=>by
  simp only[RepWAt]
  have h0:=h 0 x rfl
  rw[Nat.zero_mul,Nat.add_zero]at h0
  refine⟨h0.1,h0.2,Zmp λi t hi=>?_⟩
  have:=h (i+1) t (by simpa using hi)
  rwa [show o+(i+1)*8=o+8+i*8 by omega]at this
mutual
theorem RepW.mono{m m':Mem}(h:m.le m'):∀t:T,RepW m t->RepW m' t
 | .node _ _ _ _ _ _ _ a _ l,hr=>by
  simp only[RepW]at *
  exact⟨hr.1,hr.2.1.imp id λ⟨b,o,e,k⟩=>⟨b,o,e,RepWAt.mono h l o k⟩,hr.2.2⟩
theorem RepWAt.mono{m m':Mem}(h:m.le m'){b:Nat}:∀(l:List T)(o:Nat),RepWAt m b o l->RepWAt m' b o l
 | [],o,_=>by simp only[RepWAt]
 | t::l,o,hr=>by
  simp only[RepWAt]at *
  exact⟨λj v hv=>h _ _ _ (hr.1 j v hv),RepW.mono h t hr.2.1,RepWAt.mono h l (o+8) hr.2.2⟩
end
mutual
theorem ZtW{m:Mem}:∀t:T,t.nodes.length<=1000000->RepW m t->Rep m t
 | .node k s0 s1 s2 s3 mn mx a c l,hn,hr=>by
  have h1:=ZqF (.node k s0 s1 s2 s3 mn mx a c l)
  simp only[T.nodes,T.subs,List.length_cons]at hn h1
  simp only[RepW,Rep]at *
  exact⟨by omega,hr.2.1.imp id λ⟨b,o,e,k⟩=>⟨b,o,e,Zn5 l o (by omega) k⟩,hr.2.2⟩
theorem Zn5{m:Mem}{b:Nat}:∀(l:List T)(o:Nat),(Zas l).length<=1000000->RepWAt m b o l->RepAt m b o l
 | [],o,_,_=>by simp only[RepAt]
 | t::l,o,hn,hr=>by
  simp only[Zas,List.length_append]at hn
  simp only[RepWAt,RepAt]at *
  exact⟨hr.1,ZtW t (by omega) hr.2.1,Zn5 l (o+8) (by omega) hr.2.2⟩
end
def ZyV(t:T):Bool:=decide (1<=t.k)&&(decide (t.k<=6)&&((t.k == 2) == !t.setZ))&&((if t.k=5 then decide (0<=t.mn/\t.mn<=16)&&(t.mx == -1||(decide (0 < t.mx)&&(decide (t.mx < 17)&&(decide (t.mn<=t.mx)&&!(t.mn == 1&&t.mx == 1)))))else t.mn == 0&&t.mx == 0) &&
 ((if t.k < 3 then t.subs.length == 0 else if t.k < 5 then decide (2<=t.subs.length)else t.subs.length == 1)))
def Zmq(k:Int)(x:T):Bool:=!((k == 3&&(x.k == 1||x.k == 3))||(k == 4&&x.k == 4)||(k == 5&&x.k == 1))
theorem ZpL(k:Int)(l:List T)(h:∀x:T,Zmq k x=true):l.all (Zmq k)=true:=List.all_eq_true.2 λx _=>h x
theorem ZBr(l:List T):l.all (Zmq 3)=(!(l.any λx=>x.k == 1)&&!(l.any λx=>x.k == 3)):=by
 induction l with
 | nil=>rfl
 | cons x l ih=>
  rw[List.all_cons,List.any_cons,List.any_cons,ih]
  have:Zmq 3 x=(!(x.k == 1)&&!(x.k == 3)):=by unfold Zmq;cases x.k == 1 <;> cases x.k == 3 <;> simp
  rw[this]
  cases x.k == 1 <;> cases x.k == 3 <;> simp
theorem ZBs(l:List T):l.all (Zmq 4)=!(l.any λx=>x.k == 4):=by
 induction l with
 | nil=>rfl
 | cons x l ih=>
  rw[List.all_cons,List.any_cons,ih]
  have:Zmq 4 x=!(x.k == 4):=by unfold Zmq;cases x.k == 4 <;> simp
  rw[this]
  cases x.k == 4 <;> simp
theorem ZBt(l:List T):l.all (Zmq 5)=!(l.any λx=>x.k == 1):=by
 induction l with
 | nil=>rfl
 | cons x l ih=>
  rw[List.all_cons,List.any_cons,ih]
  have:Zmq 5 x=!(x.k == 1):=by unfold Zmq;cases x.k == 1 <;> simp
  rw[this]
  cases x.k == 1 <;> simp
theorem ZBu(mn mx:Int):(decide (0<=mn/\mn<=16)&&(mx == -1||(decide (0 < mx)&&(decide (mx < 17)&&(decide (mn<=mx)&&!(mn == 1&&mx == 1))))))=Zcm mn mx:=by
 unfold Zcm
 rw[Bool.eq_iff_iff]
 simp only[Bool.and_eq_true,Bool.or_eq_true,Bool.not_eq_true',decide_eq_true_eq,beq_iff_eq,Bool.or_eq_false_iff,Bool.and_eq_false_iff,decide_eq_false_iff_not,beq_eq_false_iff_ne,ge_iff_le]
 omega
theorem Zst(t:T):(ZyV t&&t.subs.all (Zmq t.k))=t.right:=by
 have len0:(t.subs.length == 0)=!decide (0 < t.subs.length):=by
  rw[Bool.eq_iff_iff];simp
 unfold ZyV T.right T.has
 rw[ZBu]
 by_cases h1:t.k=1
 ·rw[ZpL t.k t.subs (λx=>by unfold Zmq;rw[h1];simp),h1,len0]
  cases t.setZ <;> cases decide (0 < t.subs.length) <;> cases hm:t.mn == 0 <;> cases hx:t.mx == 0 <;> simp[bne,hm,hx]
 by_cases h2:t.k=2
 ·rw[ZpL t.k t.subs (λx=>by unfold Zmq;rw[h2];simp),h2,len0]
  cases t.setZ <;> cases decide (0 < t.subs.length) <;> cases hm:t.mn == 0 <;> cases hx:t.mx == 0 <;> simp[bne,hm,hx]
 have k2:(t.k == 2)=false:=by simpa using h2
 by_cases h3:t.k=3
 ·rw[h3,ZBr]
  cases t.setZ <;> cases hm:t.mn == 0 <;> cases hx:t.mx == 0 <;> simp[bne,hm,hx,Nat.succ_le_iff]
 by_cases h4:t.k=4
 ·rw[h4,ZBs]
  cases t.setZ <;> cases hm:t.mn == 0 <;> cases hx:t.mx == 0 <;> simp[bne,hm,hx,Nat.succ_le_iff]
 by_cases h5:t.k=5
 ·rw[h5,ZBt]
  cases t.setZ <;> cases Zcm t.mn t.mx <;> cases t.subs.length == 1 <;> simp[bne]
 by_cases h6:t.k=6
 ·rw[ZpL t.k t.subs (λx=>by unfold Zmq;rw[h6];simp),h6]
  cases t.setZ <;> cases hm:t.mn == 0 <;> cases hx:t.mx == 0 <;> simp[bne,hm,hx]
 have:(decide (1<=t.k)&&decide (t.k<=6))=false:=by
  rw[Bool.and_eq_false_iff];simp;omega
 have k6:(t.k == 6)=false:=by simpa using h6
 rw[if_neg h1,if_neg h2,if_neg h3,if_neg h4,if_neg (c:=t.k=5) h5,k6]
 simp only[Bool.false_and,Bool.and_false]
 rw[<-Bool.and_assoc (decide (1<=t.k)),this]
 simp
 intro _ _ _ h
 exact absurd h h5
def ZtX(t:T)(most:Int):Int:=if(t.nodes.length:Int)<=most then t.nodes.length else most+1
def ZoR(t:T)(most:Int)(k:Nat):Int:=if((1+(Zas (t.subs.take k)).length:Nat):Int)<=most then((1+(Zas (t.subs.take k)).length:Nat):Int)else most+1
theorem ZqW(t:T){most:Int}(h:0<=most):ZoR t most 0=1:=by
 unfold ZoR
 simp only[List.take_zero,Zas,List.length_nil]
 split <;> omega
theorem ZiS{l:List T}(k:Nat):(Zas (l.take k)).length<=(Zas l).length:=by
 have e:Zas l=Zas (l.take k)++Zas (l.drop k):=by rw[<-Zc2,List.take_append_drop]
 rw[e,List.length_append];omega
theorem ZqX{t x:T}{most:Int}{k:Nat}(h:t.subs[k]?=some x)(hs:ZoR t most k<=most):ZoR t most (k+1)=ZoR t most k+ZtX x (most - ZoR t most k):=by
 have hk:ZoR t most k=((1+(Zas (t.subs.take k)).length:Nat):Int):=by
  unfold ZoR at hs ⊢
  split at hs
  ·rename_i h1;rw[if_pos h1]
  ·omega
 rw[hk]at hs ⊢
 unfold ZoR ZtX
 rw[Zli h,List.length_append]
 split <;> split <;> omega
theorem ZqY{t:T}{most:Int}{k:Nat}(hs:most < ZoR t most k):ZoR t most k=ZtX t most:=by
 have h1:=ZiS (l:=t.subs) k
 have h2:t.nodes.length=1+(Zas t.subs).length:=by rw[ZbH,List.length_cons];omega
 unfold ZoR at hs ⊢
 unfold ZtX
 split at hs
 ·omega
 ·rename_i h3
  rw[if_neg h3,if_neg (by omega)]
theorem ZtY(t:T)(most:Int):ZoR t most t.subs.length=ZtX t most:=by
 have h2:t.nodes.length=1+(Zas t.subs).length:=by rw[ZbH,List.length_cons];omega
 unfold ZoR ZtX
 rw[List.take_length,h2]
theorem Zwo(t:T){most:Int}(h:0<=most):1<=ZtX t most/\ZtX t most<=most+1:=by
 have h2:t.nodes.length=1+(Zas t.subs).length:=by rw[ZbH,List.length_cons];omega
 unfold ZtX
 split <;> omega
theorem Zwp(t:T){most:Int}(h:0<=most)(k:Nat):1<=ZoR t most k/\ZoR t most k<=most+1:=by
 unfold ZoR
 split <;> omega
theorem Zsu(t:T):decide (ZtX t 10000 < 10001)=t.light:=by
 unfold ZtX T.light
 rw[decide_eq_decide]
 split <;> omega
theorem Zvf(t:T):ZtX t 10000=t.size:=by
 unfold ZtX T.size T.light
 by_cases h:t.nodes.length<=10000
 ·rw[if_pos (by omega),if_pos (by simpa using h)]
 ·rw[if_neg (by omega),if_neg (by simpa using h)];rfl
theorem Zxd(t:T):t.good=(ZyV t&&t.subs.all λx=>Zmq t.k x&&x.good):=by
 have e:=ZfT t
 have e2:∀l:List T,(l.all λx=>Zmq t.k x&&x.good)=(l.all (Zmq t.k)&&l.all T.good):=by
  intro l
  induction l with
  | nil=>rfl
  | cons x l ih=>
   simp only[List.all_cons,ih]
   cases Zmq t.k x <;> cases x.good <;> simp
 rw[e,e2,<-Zst,Bool.and_assoc]
end Go.Rx
namespace Go.Rx
open Go Go.Eng Go.RowKit
set_option maxRecDepth 100000
end Go.Rx
namespace Go.Rx
open Go Go.Eng Go.RowKit
set_option maxRecDepth 100000
def bV(v:Bool):Value:=.int .i64 (if v then 1 else 0)
def ZzE(g:Nat->Bool)(n:Nat):List Value:=(List.range n).map λj=>bV (g j)
theorem Zxe(g:Nat->Bool)(n:Nat):(ZzE g n).length=n:=by simp[ZzE]
theorem Zn6(g:Nat->Bool){n j:Nat}(h:j < n):(ZzE g n)[j]?=some (bV (g j)):=by simp[ZzE,h]
theorem Zsv{g h:Nat->Bool}{n:Nat}(e:∀j,j < n->g j=h j):ZzE g n=ZzE h n:=by
 unfold ZzE
 refine List.map_congr_left λj hj=>?_
 rw[e j (List.mem_range.1 hj)]
def ZzF(bs:Nat->Nat)(n k:Nat):List Value:=(List.range k).map λi=>.slice (some ⟨bs i,0,none⟩) n n
theorem Zxf(bs:Nat->Nat)(n k:Nat):(ZzF bs n k).length=k:=by simp[ZzF]
theorem ZyW(bs:Nat->Nat)(n:Nat){i k:Nat}(h:i < k):(ZzF bs n k)[i]?=some (.slice (some ⟨bs i,0,none⟩) n n):=by simp[ZzF,h]
theorem Zvg(bs:Nat->Nat)(n k b:Nat):ZzF (λi=>if i=k then b else bs i) n (k+1)=ZzF bs n k++[.slice (some ⟨b,0,none⟩) n n]:=by
 unfold ZzF
 rw[List.range_succ,List.map_append]
 congr 1
 ·refine List.map_congr_left λi hi=>?_
  have:=List.mem_range.1 hi
  simp only[if_neg (show ¬i=k by omega)]
 ·simp
structure Tab (m:Mem)(g:Nat->Nat->Bool)(n k:Nat)(a:Option Addr)(bs:Nat->Nat):Prop where
 out:rowRd m a (ZzF bs n k)
 row:∀i,i < k->m.reads (bs i) 0 (ZzE (g i) n)
 inj:∀i j,i < k->j < k->bs i=bs j->i=j
 sep:∀b o,a=some ⟨b,o,none⟩->∀i,i < k->bs i≠b
def TabNew(m:Mem)(k:Nat)(a:Option Addr)(bs:Nat->Nat):Prop:=(∀i,i < k->m.free (bs i))/\∀b o,a=some ⟨b,o,none⟩->m.free b
theorem Zxg{m m':Mem}(h:m.le m'){b:Nat}(hf:m'.free b):m.free b:=λo=>by
 cases he:m b o with
 | none=>rfl
 | some v=>have:=h _ _ _ he;rw[hf o]at this;cases this
theorem ZBv{m M:Mem}{b b' o:Nat}{v:Value}(hk:m b o=some v)(h:m.le M)(hf:M.free b'):b≠b':=λe=>by
 subst e
 have:=h _ _ _ hk
 rw[hf o]at this;cases this
theorem TabNew.less{m m':Mem}(h:m.le m'){k:Nat}{a:Option Addr}{bs:Nat->Nat}(hn:TabNew m' k a bs):TabNew m k a bs:=⟨λi hi=>Zxg h (hn.1 i hi),λb o e=>Zxg h (hn.2 b o e)⟩
section
variable {m m':Mem} {g:Nat->Nat->Bool} {n k:Nat} {a:Option Addr} {bs:Nat->Nat}
theorem Tab.mono(h:Tab m g n k a bs)(hm:m.le m'):Tab m' g n k a bs:=⟨h.out.mono hm,λi hi j v hv=>hm _ _ _ (h.row i hi j v hv),h.inj,h.sep⟩
theorem Tab.get(h:Tab m g n k a bs){i:Nat}(hi:i < k):∃b o,a=some ⟨b,o,none⟩/\m b (o+i*1)=some (.slice (some ⟨bs i,0,none⟩) n n):=by
 rcases h.out with e|⟨b,o,e,hr⟩
 ·have:=Zxf bs n k
  rw[e]at this;simp at this;omega
 ·exact⟨b,o,e,by have:=hr i _ (ZyW bs n hi);rwa [Nat.mul_one]⟩
theorem Tab.cell(h:Tab m g n k a bs){i j:Nat}(hi:i < k)(hj:j < n):m (bs i) (0+j*1)=some (bV (g i j)):=by
 have:=h.row i hi j _ (Zn6 (g i) hj)
 rwa [Nat.mul_one]
theorem Tab.congr{g':Nat->Nat->Bool}(h:Tab m g n k a bs)(e:∀i j,i < k->j < n->(g i j=true↔g' i j=true)):Tab m g' n k a bs:=
 ⟨h.out,λi hi=>by rw[<-Zsv (g:=g i) (h:=g' i) λj hj=>Bool.eq_iff_iff.2 (e i j hi hj)];exact h.row i hi,h.inj,h.sep⟩
theorem Zvh{a:Option Addr}{xs:List Value}{b p:Nat}{ys:List Value}(h:rowRd m a xs)(hn:∀b' o,a=some ⟨b',o,none⟩->b'≠b):rowRd (m.upd b p ys) a xs:=by
 rcases h with h|⟨b',o,e,h⟩
 ·exact .inl h
 ·refine .inr ⟨b',o,e,λj v hv=>?_⟩
  rw[Mem.upd_other _ (hn b' o e)];exact h j v hv
theorem Tab.upd(h:Tab m g n k a bs){i j:Nat}(hi:i < k)(hj:j < n)(v:Bool):Tab (m.upd (bs i) (0+j*1) [bV v]) (λx y=>if x=i/\y=j then v else g x y) n k a bs:=by
 refine⟨Zvh h.out λb o e he=>h.sep b o e i hi he.symm,λx hx y u hu=>?_,h.inj,h.sep⟩
 have hy:y < n:=by have:=(List.getElem?_eq_some_iff.1 hu).1;rwa [Zxe]at this
 rw[Zn6 _ hy]at hu
 cases hu
 by_cases e:x=i
 ·subst e
  simp only[Mem.upd,List.length_cons,List.length_nil,true_and]
  by_cases e2:y=j
  ·subst e2
   rw[if_pos (by omega),if_pos rfl,show 0+y - (0+y*1)=0 by omega];rfl
  ·rw[if_neg (by omega),if_neg e2]
   exact h.row x hx y _ (Zn6 _ hy)
 ·rw[Mem.upd_other _ (λhe=>e (h.inj x i hx hi he)),if_neg (λhc=>e hc.1)]
  exact h.row x hx y _ (Zn6 _ hy)
theorem Tab.off(h:Tab m' g n k a bs){m1:Mem}(hn:TabNew m1 k a bs){Y:Nat->Prop}(hY:∀b,Y b->∃o v,m1 b o=some v):Tab (m'.off Y) g n k a bs:=by
 have bS:∀b,m1.free b->¬Y b:=λb hf hy=>by
  obtain⟨o,v,hv⟩:=hY b hy
  rw[hf o]at hv;cases hv
 refine⟨?_,λi hi j v hv=>by rw[Mem.off_at (bS _ (hn.1 i hi))];exact h.row i hi j v hv,h.inj,h.sep⟩
 rcases h.out with e|⟨b,o,e,hr⟩
 ·exact .inl e
 ·exact .inr ⟨b,o,e,λj v hv=>by rw[Mem.off_at (bS _ (hn.2 b o e))];exact hr j v hv⟩
theorem Tab.zero(hm:Mem):Tab hm g n 0 none bs:=⟨.inl rfl,λi hi=>by omega,λi j hi=>by omega,λb o e=>by cases e⟩
theorem Tab.snoc{M M0:Mem}{b:Nat}{a':Option Addr}(h:Tab m g n k a bs)(h0:k=0->a=none)(hn:0 < n)(hb:m.free b)(hM:m.le M0)(s7:M0.le M)(aR:M0.reads b 0 (ZzE (g k) n))(dX:rowRd M a' (ZzF bs n k++[.slice (some ⟨b,0,none⟩) n n]))
  (ha:a'=none\/∃b' o,a'=some ⟨b',o,none⟩/\(a=a'\/(o=0/\M0.free b'))):Tab M g n (k+1) a' (λi=>if i=k then b else bs i):=by
 have kn:∀i,i < k->m (bs i) 0=some (bV (g i 0)):=λi hi=>by have:=h.cell hi (j:=0) hn;simpa using this
 have kb:M0 b 0=some (bV (g k 0)):=by have:=aR 0 _ (Zn6 _ hn);simpa using this
 refine⟨by rw[Zvg];exact dX,λi hi=>?_,λi j hi hj e=>?_,λb' o e i hi=>?_⟩
 ·by_cases e:i=k
  ·subst e
   rw[if_pos rfl]
   exact λj v hv=>s7 _ _ _ (aR j v hv)
  ·rw[if_neg e]
   exact λj v hv=>s7 _ _ _ (hM _ _ _ (h.row i (by omega) j v hv))
 ·by_cases e1:i=k
  ·by_cases e2:j=k
   ·omega
   ·rw[if_pos e1,if_neg e2]at e
    exact absurd e.symm (ZBv (kn j (by omega)) (Mem.le_refl _) hb)
  ·by_cases e2:j=k
   ·rw[if_neg e1,if_pos e2]at e
    exact absurd e (ZBv (kn i (by omega)) (Mem.le_refl _) hb)
   ·rw[if_neg e1,if_neg e2]at e
    exact h.inj i j (by omega) (by omega) e
 ·rcases ha with ha|⟨b2,o2,ha,kL⟩
  ·rw[ha]at e;cases e
  rw[e]at ha
  cases ha
  rcases kL with kL|⟨_,kL⟩
  ·by_cases e1:i=k
   ·rw[if_pos e1]
    rintro rfl
    rcases Nat.eq_zero_or_pos k with hk|hk
    ·rw[h0 hk,e]at kL;cases kL
    ·obtain⟨b3,o3,e3,h3⟩:=h.get hk
     rw[e3,e]at kL
     cases kL
     rw[hb]at h3;cases h3
   ·rw[if_neg e1]
    exact h.sep _ _ (kL.trans e) i (by omega)
  ·by_cases e1:i=k
   ·rw[if_pos e1]
    exact ZBv kb (Mem.le_refl _) kL
   ·rw[if_neg e1]
    exact ZBv (kn i (by omega)) hM kL
end
end Go.Rx
namespace Go.Rx
open Go Go.Eng Go.RowKit
set_option maxRecDepth 100000
end Go.Rx
namespace Go.Rx
open Go Go.Eng Go.RowKit
set_option maxRecDepth 100000
theorem ZjZ:∀(n:Nat)(t:T),t.nodes.length<=n->t.good=true->(ZaM t).2.length+(ZaM t).1.nodes.length<=t.nodes.length
 | 0,t,hn,_=>by have:=Zcr t;omega
 | n+1,t,hn,hg=>by
  by_cases h:(Zbb t).g<=0
  ·rw[ZcU h]
   simp[Zfh]
  ·have hb:=Zeb hg (by omega)
   rw[ZgM hg h]
   have ih:=ZjZ n (Zbb t).t (by omega) hb.1
   simp only[List.length_cons]
   omega
theorem Zn7{t:T}(hg:t.good=true):(ZaM t).2.length < t.nodes.length:=by
 have h:=ZjZ _ t (Nat.le_refl _) hg
 have:=Zcr (ZaM t).1
 omega
def LeB(b c:C4):Prop:=b.a < c.a\/(b.a=c.a/\(b.f < c.f\/(b.f=c.f/\c.t<=b.t)))
structure TopAll (t:T)(b:Top)(P:List C4):Prop where
 all:∀c∈P,Zfl t c<=b.g/\(0 < b.g->Zfl t c=b.g->LeB b.c c)
 is:b.g=0\/(0 < b.g/\b.c∈P)
theorem ZtZ(n f:Nat):∀(l s:List T)(to:Nat),(runE n f s to l).length<=l.length
 | [],s,to=>Nat.le_refl _
 | x::l,s,to=>by
  rw[runE]
  split
  ·simp
  ·simp only[List.length_cons]
   have:=ZtZ n f l (s.take (ZaO s (Zan x))) (to+1)
   omega
theorem ZqZ(n:Nat):∀(l:List T)(f:Nat),(ZeT n f l).length<=l.length*l.length
 | [],f=>Nat.le_refl _
 | x::l,f=>by
  rw[ZeT,List.length_append,List.length_cons]
  have h1:=ZtZ n f l (Zan x) (f+2)
  have h2:=ZqZ n l (f+1)
  rw[Nat.add_mul,Nat.mul_add]
  omega
def Zkd:List T->Nat
 | []=>0
 | a::l=>a.subs.length+Zkd l
theorem ZiT(l r:List T):Zkd (l++r)=Zkd l+Zkd r:=by
 induction l with
 | nil=>simp[Zkd]
 | cons x l ih=>simp only[List.cons_append,Zkd,ih];omega
theorem Zq0:∀(l:List T)(n:Nat),(Zfj n l).length<=Zkd l*Zkd l
 | [],n=>Nat.le_refl _
 | a::l,n=>by
  rw[Zfj,List.length_append,Zkd]
  have h1:=ZqZ n a.subs 0
  have h2:=Zq0 l (n+1)
  rw[Nat.add_mul,Nat.mul_add,Nat.mul_add]
  omega
mutual
theorem Zmr:∀t:T,Zkd t.alts+1<=t.nodes.length
 | .node k s0 s1 s2 s3 mn mx a c l=>by
  have h:=Zn8 l
  rw[Zcr,T.alts,ZiT]
  simp only[T.subs]
  split
  ·simp only[Zkd,T.subs];omega
  ·simp only[Zkd];omega
theorem Zn8:∀l:List T,Zkd (ZaA l)+l.length<=szL l
 | []=>Nat.le_refl _
 | t::l=>by
  have h1:=Zmr t
  have h2:=Zn8 l
  rw[Zbo,ZaA,ZiT,List.length_cons]
  omega
end
theorem Zxh{t:T}{n:Nat}(h:t.nodes.length<=n+1):t.cuts.length<=n*n:=by
 have h1:=Zmr t
 have h2:=Zq0 t.alts 0
 exact Nat.le_trans h2 (Nat.mul_le_mul (by omega) (by omega))
theorem Zvi{l:List T}{x:T}(h:x∈l):x.subs.length<=Zkd l:=by
 induction l with
 | nil=>simp at h
 | cons y l ih=>
  rw[Zkd]
  rcases List.mem_cons.1 h with rfl|h
  ·omega
  ·have:=ih h;omega
theorem Zt0:∀(t x:T),x∈t.nodes->x.nodes.length<=t.nodes.length
 | .node k s0 s1 s2 s3 mn mx a c l,x,h=>by
  have hl:=ZiS l
  simp only[T.nodes,List.mem_cons]at h
  rcases h with rfl|h
  ·exact Nat.le_refl _
  ·have:=hl x h
   rw[Zcr (T.node k s0 s1 s2 s3 mn mx a c l)]
   simp only[T.subs]
   omega
where ZiS:∀(l:List T)(x:T),x∈Zas l->x.nodes.length<=szL l
 | [],x,h=>by simp[Zas]at h
 | t::l,x,h=>by
  simp only[Zas,List.mem_append]at h
  rw[Zbo]
  rcases h with h|h
  ·have:=Zt0 t x h;omega
  ·have:=ZiS l x h;omega
end Go.Rx
namespace Go.Rx
open Go Go.Eng Go.RowKit
set_option maxRecDepth 100000
mutual
theorem ZfU{m:Mem}:∀(t:T)(cs:List Value),RefT m t.er cs↔RefT m t cs
 | .node k s0 s1 s2 s3 mn mx a c l,cs=>by
  have hl:(erL l).length=l.length:=by rw[ZdP,List.length_map]
  simp only[T.er,RefT,hl]
  constructor
  ·rintro⟨h1,h2,a,c,css,e,hr,ha,hc⟩
   exact⟨h1,h2,a,c,css,e,hr,(Zhu l css).1 ha,hc⟩
  ·rintro⟨h1,h2,a,c,css,e,hr,ha,hc⟩
   exact⟨h1,h2,a,c,css,e,hr,(Zhu l css).2 ha,hc⟩
theorem Zhu{m:Mem}:∀(l:List T) (css:List (List Value)),RefAt m (erL l) css↔RefAt m l css
 | [],css=>by simp only[erL,RefAt]
 | t::l,css=>by
  simp only[erL,RefAt]
  constructor
  ·rintro⟨cs,r,e,h1,h2⟩
   exact⟨cs,r,e,(ZfU t cs).1 h1,(Zhu l r).1 h2⟩
  ·rintro⟨cs,r,e,h1,h2⟩
   exact⟨cs,r,e,(ZfU t cs).2 h1,(Zhu l r).2 h2⟩
end
theorem RefT.of_er{m:Mem}{t u:T}{cs:List Value}(h:RefT m t cs)(e:t.er=u.er):RefT m u cs:=(ZfU u cs).1 (e ▸ (ZfU t cs).2 h)
theorem RefAt.of_er{m:Mem}{l r:List T}{css:List (List Value)}(h:RefAt m l css)(e:l.map T.er=r.map T.er):RefAt m r css:=by
 rw[<-ZdP,<-ZdP]at e
 exact(Zhu r css).1 (e ▸ (Zhu l css).2 h)
theorem RefAt.append{m:Mem}:∀{l r:List T} {css dss:List (List Value)},RefAt m l css->RefAt m r dss->RefAt m (l++r) (css++dss)
 | [],r,css,dss,h,h2=>by
  simp only[RefAt]at h
  subst h
  simpa using h2
 | x::l,r,css,dss,h,h2=>by
  simp only[RefAt]at h
  obtain⟨cs',k,rfl,h3,h4⟩:=h
  simp only[List.cons_append,RefAt]
  exact⟨cs',k++dss,rfl,h3,h4.append h2⟩
theorem RefAt.take{m:Mem}:∀{l:List T} {css:List (List Value)} (n:Nat),RefAt m l css->RefAt m (l.take n) (css.take n)
 | [],css,n,h=>by
  simp only[RefAt]at h
  subst h
  simp[RefAt]
 | x::l,css,0,h=>by simp[RefAt]
 | x::l,css,n+1,h=>by
  simp only[RefAt]at h
  obtain⟨cs',k,rfl,h3,h4⟩:=h
  simp only[List.take_succ_cons,RefAt]
  exact⟨cs',k.take n,rfl,h3,h4.take n⟩
theorem RefAt.drop{m:Mem}:∀{l:List T} {css:List (List Value)} (n:Nat),RefAt m l css->RefAt m (l.drop n) (css.drop n)
 | [],css,n,h=>by
  simp only[RefAt]at h
  subst h
  simp[RefAt]
 | x::l,css,0,h=>by simpa using h
 | x::l,css,n+1,h=>by
  simp only[RefAt]at h
  obtain⟨cs',k,rfl,h3,h4⟩:=h
  simpa using h4.drop n
theorem RefAt.reps{m:Mem}:∀{l:List T} {css:List (List Value)},RefAt m l css->∀x∈l,OkN x.k x.s0 x.s1 x.s2 x.s3 x.mn x.mx/\x.subs.length<=1000000
 | [],css,h,x,hx=>by cases hx
 | y::l,css,h,x,hx=>by
  simp only[RefAt]at h
  obtain⟨cs',k,rfl,h3,h4⟩:=h
  rcases List.mem_cons.1 hx with rfl|hx
  ·obtain⟨h5,h6,_⟩:=Za6.1 h3
   exact⟨h5,h6⟩
  ·exact h4.reps x hx
theorem ZyX{l:List Value}(h:∀u∈l,u.oneCell'=true):ZbC l=true:=by
 induction l with
 | nil=>rfl
 | cons u l ih=>simp only[ZbC,h u (by simp),Bool.true_and];exact ih λx hx=>h x (by simp[hx])
theorem RefT.chk{m:Mem}{t:T}{cs:List Value}(h:RefT m t cs){K:Prop}(k:K):Go.Eng.chk (Nat.beq cs.length 260) K:=Zaa (by rw[h.len];rfl) k
theorem RefT.chk1{m:Mem}{t:T}{cs:List Value}(h:RefT m t cs){K:Prop}(k:K):Go.Eng.chk (Nat.beq cs.length 260&&ZbC cs) K:=Zaa (by rw[h.len,ZyX h.one];rfl) k
theorem RefT.chk2{m:Mem}{t:T}{cs:List Value}(h:RefT m t cs){K:Prop}(k:K):Go.Eng.chk (Nat.beq cs.length 260&&true) K:=Zaa (by rw[h.len];rfl) k
theorem RefAt.one{m:Mem}{t:T}{cs:List Value}(h:RefT m t cs):RefAt m [t] [cs]:=by
 simp only[RefAt]
 exact⟨cs,[],rfl,h,rfl⟩
theorem RefT.at0{m:Mem}{t:T}{cs:List Value}(h:RefT m t cs):cs[0]?=some (.int .i64 t.k):=by
 obtain⟨_,_,a,c,css,rfl,_⟩:=Za6.1 h
 exact ZpK _ _ _ _ _ _ _
def hdF(s:List T)(y:T):List T:=s.take (ZaO s (Zan y))
def Zny:List T->Nat
 | []=>0
 | x::r=>(r.foldl hdF (Zan x)).length
theorem Zx3:∀(r s:List T),r.foldl hdF s=s.take (r.foldl hdF s).length/\(r.foldl hdF s).length<=s.length
 | [],s=>⟨by simp,Nat.le_refl _⟩
 | y::r,s=>by
  have ih:=Zx3 r (hdF s y)
  have h1:(hdF s y).length=ZaO s (Zan y):=by
   unfold hdF
   have:=(Zcp s (Zan y)).1
   rw[List.length_take,Nat.min_eq_left this]
  have h2:=(Zcp s (Zan y)).1
  rw[List.foldl_cons]
  refine⟨?_,by omega⟩
  conv=>lhs;rw[ih.1]
  unfold hdF
  rw[List.take_take,Nat.min_eq_left (by have:=ih.2;rw[h1]at this;exact this)]
theorem Zvj(x:T)(r:List T)(y:T):Zny (x::r++[y])=ZaO ((Zan x).take (Zny (x::r))) (Zan y):=by
 have h:=Zx3 r (Zan x)
 show((r++[y]).foldl hdF (Zan x)).length=_
 rw[List.foldl_append]
 show(hdF (r.foldl hdF (Zan x)) y).length=_
 have e:(Zan x).take (Zny (x::r))=r.foldl hdF (Zan x):=h.1.symm
 rw[e]
 show((r.foldl hdF (Zan x)).take (ZaO (r.foldl hdF (Zan x)) (Zan y))).length=_
 have:=(Zcp (r.foldl hdF (Zan x)) (Zan y)).1
 rw[List.length_take,Nat.min_eq_left this]
theorem Zxi(x:T):Zny [x]=(Zan x).length:=rfl
theorem ZyY(x:T)(r:List T):Zny (x::r)<=(Zan x).length:=(Zx3 r (Zan x)).2
theorem Zes:∀{a b:List T} {n:Nat} {u v:T},n<=ZaO a b->a[n]?=some u->b[n]?=some v->ZcS u v=true->n+1<=ZaO a b
 | [],b,n,u,v,_,ha,_,_=>by simp at ha
 | x::a,[],n,u,v,_,_,hb,_=>by simp at hb
 | x::a,y::b,0,u,v,h,ha,hb,hs=>by
  simp at ha hb
  subst ha hb
  rw[ZaO,if_pos hs];omega
 | x::a,y::b,n+1,u,v,h,ha,hb,hs=>by
  rw[ZaO]at h ⊢
  split at h
  ·rename_i h0
   rw[if_pos h0]
   have:=Zes (a:=a) (b:=b) (n:=n) (by omega) (by simpa using ha) (by simpa using hb) hs
   omega
  ·omega
theorem Zn9:∀{a b:List T} {n:Nat},n < ZaO a b->∃u v,a[n]?=some u/\b[n]?=some v/\ZcS u v=true
 | [],b,n,h=>by simp[ZaO]at h
 | x::a,[],n,h=>by simp[ZaO]at h
 | x::a,y::b,n,h=>by
  rw[ZaO]at h
  split at h
  ·rename_i h0
   cases n with
   | zero=>exact⟨x,y,rfl,rfl,h0⟩
   | succ n=>simpa using Zn9 (a:=a) (b:=b) (n:=n) (by omega)
  ·omega
def ZBw(x y:T)(n:Nat):Prop:=∃u v,(Zan x)[n]?=some u/\(Zan y)[n]?=some v/\ZcS u v=true
theorem ZoS(u:T):ZcS u u=true:=by simp[ZcS]
theorem Zoa:∀{r s:List T} {n:Nat} {u:T},n<=(r.foldl hdF s).length->s[n]?=some u->(∀y∈r,∃v,(Zan y)[n]?=some v/\ZcS u v=true)->n+1<=(r.foldl hdF s).length
 | [],s,n,u,_,h,_=>by
  have:=(List.getElem?_eq_some_iff.1 h).1
  simp only[List.foldl_nil];omega
 | y::r,s,n,u,hn,h,aV=>by
  rw[List.foldl_cons]at hn ⊢
  have h1:(hdF s y).length=ZaO s (Zan y):=by
   unfold hdF
   have:=(Zcp s (Zan y)).1
   rw[List.length_take,Nat.min_eq_left this]
  have h2:=(Zx3 r (hdF s y)).2
  obtain⟨v,hv,hs⟩:=aV y (by simp)
  have h3:=Zes (a:=s) (b:=Zan y) (n:=n) (by omega) h hv hs
  refine Zoa (u:=u) hn ?_ λz hz=>aV z (by simp[hz])
  unfold hdF
  rw[List.getElem?_take_of_lt (by omega)];exact h
theorem Zt1:∀{r s:List T} {n:Nat},n < (r.foldl hdF s).length->∃u,s[n]?=some u/\∀y∈r,∃v,(Zan y)[n]?=some v/\ZcS u v=true
 | [],s,n,h=>⟨_,List.getElem?_eq_getElem h,by simp⟩
 | y::r,s,n,h=>by
  rw[List.foldl_cons]at h
  have h2:=(Zx3 r (hdF s y)).2
  have h1:(hdF s y).length=ZaO s (Zan y):=by
   unfold hdF
   have:=(Zcp s (Zan y)).1
   rw[List.length_take,Nat.min_eq_left this]
  obtain⟨u,hu,aV⟩:=Zt1 h
  have aS:n < ZaO s (Zan y):=by omega
  obtain⟨u2,v,fI,hv,hs⟩:=Zn9 aS
  have:(hdF s y)[n]?=s[n]?:=by
   unfold hdF
   rw[List.getElem?_take_of_lt aS]
  rw[this,fI]at hu
  have hu:=Option.some.inj hu
  subst hu
  refine⟨_,fI,λz hz=>?_⟩
  rcases List.mem_cons.1 hz with rfl|hz
  ·exact⟨v,hv,hs⟩
  ·exact aV z hz
theorem Zvk{x:T}{r:List T}{n:Nat}(h:n<=Zny (x::r))(aV:∀y∈x::r,ZBw x y n):n+1<=Zny (x::r):=by
 obtain⟨u,v,hu,_,_⟩:=aV x (by simp)
 refine Zoa (u:=u) h hu λy hy=>?_
 obtain⟨u2,v,fI,hv,hs⟩:=aV y (by simp[hy])
 rw[hu]at fI
 cases fI
 exact⟨v,hv,hs⟩
theorem Zvl{x y:T}{r:List T}{n:Nat}(hy:y∈x::r)(h:¬ZBw x y n):Zny (x::r)<=n:=by
 rcases Nat.lt_or_ge n (Zny (x::r))with aS|bM
 ·exfalso
  obtain⟨u,hu,aV⟩:=Zt1 (r:=r) (s:=Zan x) (n:=n) aS
  rcases List.mem_cons.1 hy with rfl|hy
  ·exact h ⟨u,u,hu,hu,ZoS u⟩
  ·obtain⟨v,hv,hs⟩:=aV y hy
   exact h ⟨u,v,hu,hv,hs⟩
 ·exact bM
def seg(l:List T)(f t:Nat):List T:=(l.take t).drop f
theorem ZyZ{l:List T}{f:Nat}{x:T}(h:l[f]?=some x):seg l f (f+1)=[x]:=by
 unfold seg
 have aS:=(List.getElem?_eq_some_iff.1 h).1
 rw[List.take_add_one,h]
 show List.drop f (l.take f++[x])=[x]
 rw[List.drop_append,List.drop_eq_nil_of_le (by rw[List.length_take];omega),List.length_take,Nat.min_eq_left (by omega),Nat.sub_self];rfl
theorem Zt2{l:List T}{f t:Nat}{x:T}(pI:f<=t)(h:l[t]?=some x):seg l f (t+1)=seg l f t++[x]:=by
 unfold seg
 have aS:=(List.getElem?_eq_some_iff.1 h).1
 rw[List.take_add_one,h]
 show List.drop f (l.take t++[x])=_
 rw[List.drop_append,List.length_take,Nat.min_eq_left (by omega),show f - t=0 by omega];rfl
theorem Zwq{l:List T}{f t:Nat}(h:t<=l.length):(seg l f t).length=t - f:=by
 unfold seg
 rw[List.length_drop,List.length_take,Nat.min_eq_left h]
theorem Zhv{l:List T}{f t:Nat}{x:T}(pI:f < t)(h:l[f]?=some x):seg l f t=x::seg l (f+1) t:=by
 unfold seg
 have h2:(l.take t)[f]?=some x:=by rw[List.getElem?_take_of_lt pI];exact h
 have aS:=(List.getElem?_eq_some_iff.1 h2).1
 rw[List.drop_eq_getElem_cons aS,(List.getElem?_eq_some_iff.1 h2).2]
theorem Zxj(n f:Nat):∀(l:List T)(to:Nat),runE n f [] to l=[]
 | [],to=>rfl
 | x::l,to=>by rw[runE,if_pos (by simp[ZaO])]
theorem Zvm(n f:Nat)(x y:T)(pre:List T)(to:Nat)(r:List T):
  runE n f ((Zan x).take (Zny (x::pre))) to (y::r)=(if 0 < Zny (x::pre++[y])then[⟨n,f,to,Zny (x::pre++[y])⟩]else[])++runE n f ((Zan x).take (Zny (x::pre++[y]))) (to+1) r:=by
 have h1:=Zvj x pre y
 rw[runE,<-h1]
 have h2:=(Zcp ((Zan x).take (Zny (x::pre))) (Zan y)).1
 rw[<-h1,List.length_take]at h2
 by_cases h:Zny (x::pre++[y])=0
 ·rw[if_pos h,if_neg (by omega),h,List.take_zero,Zxj];rfl
 ·rw[if_neg h,if_pos (by omega),List.take_take,Nat.min_eq_left (by omega)];rfl
theorem Zxk{l:List T}{n f to:Nat}{x y:T}(hx:l[f]?=some x)(hf:f+1<=to)(hy:l[to]?=some y):
  runE n f ((Zan x).take (Zny (seg l f to))) (to+1) (l.drop to)=(if 0 < Zny (seg l f (to+1))then[⟨n,f,to+1,Zny (seg l f (to+1))⟩]else[])++runE n f ((Zan x).take (Zny (seg l f (to+1)))) (to+2) (l.drop (to+1)):=by
 have aS:=(List.getElem?_eq_some_iff.1 hy).1
 have hd:l.drop to=y::l.drop (to+1):=by rw[List.drop_eq_getElem_cons aS,(List.getElem?_eq_some_iff.1 hy).2]
 rw[hd,Zt2 (by omega) hy,Zhv (by omega) hx]
 exact Zvm n f x y _ _ _
theorem Zy0{l:List T}{n f to:Nat}{s:List T}(h:l.length<=to):runE n f s (to+1) (l.drop to)=[]:=by
 rw[List.drop_eq_nil_of_le h];rfl
theorem Zsw{l:List T}{n f:Nat}{x:T}(hx:l[f]?=some x):ZeT n f (l.drop f)=runE n f ((Zan x).take (Zny (seg l f (f+1)))) (f+2) (l.drop (f+1))++ZeT n (f+1) (l.drop (f+1)):=by
 have aS:=(List.getElem?_eq_some_iff.1 hx).1
 have hd:l.drop f=x::l.drop (f+1):=by rw[List.drop_eq_getElem_cons aS,(List.getElem?_eq_some_iff.1 hx).2]
 rw[hd,ZeT,ZyZ hx,Zxi,List.take_length]
theorem Zsx{l:List T}{n:Nat}{x:T}(hx:l[n]?=some x):Zfj n (l.drop n)=ZeT n 0 (x.subs.drop 0)++Zfj (n+1) (l.drop (n+1)):=by
 have aS:=(List.getElem?_eq_some_iff.1 hx).1
 have hd:l.drop n=x::l.drop (n+1):=by rw[List.drop_eq_getElem_cons aS,(List.getElem?_eq_some_iff.1 hx).2]
 rw[hd,Zfj,List.drop_zero]
theorem ZoT{c:C4}:∀(t:T)(n:Nat),t.good=true->n+t.alts.length<=c.a->t.cutAt c n=(t.er,n+t.alts.length):=by
 intro t
 induction hn:SizeOf.sizeOf t using Nat.strongRecOn generalizing t with
 | ind N ih=>
 intro n hg bE
 have hs:=(Zam hg).2
 have ha:=ZeA t
 have eG:¬(t.k=4/\n=c.a):=by
  rintro⟨hk,he⟩
  rw[ha,if_pos hk]at bE
  simp at bE
  omega
 have hl:∀(l:List T)(p:Nat),(∀x∈l,x∈t.subs)->p+(ZaA l).length<=c.a->ZaI c l p=(l.map T.er,p+(ZaA l).length):=by
  intro l
  induction l with
  | nil=>intro p _ _;rfl
  | cons x l ihl=>
   intro p hm hp
   simp only[ZaA,List.length_append]at hp
   have hx:=hm x (by simp)
   rw[ZaI,ih _ (by have:=Zdy hx;omega) x rfl p (hs x hx) (by omega)]
   simp only[]
   rw[ihl (p+x.alts.length) (λy hy=>hm y (by simp[hy])) (by omega)]
   simp only[List.map_cons,ZaA,List.length_append]
   rw[Nat.add_assoc]
 rw[ZbZ eG,hl t.subs _ (λ_ h=>h) (by
  rw[ha,List.length_append]at bE
  split at bE
  ·rename_i hk;rw[if_pos hk];simp at bE;omega
  ·rename_i hk;rw[if_neg hk];simpa using bE)]
 simp only[]
 rw[Ze5 hg,ha,List.length_append]
 congr 1
 split <;> simp <;> omega
def Zh9(c:C4)(t:T)(n:Nat):T:=if n<=c.a/\c.a < n+t.alts.length then(t.cutAt c n).1 else t.er
def Zb9(c:C4):List T->Nat->List T
 | [],_=>[]
 | t::l,n=>Zh9 c t n::Zb9 c l (n+t.alts.length)
theorem ZfJ{c:C4}:∀(l:List T)(n:Nat),c.a < n->Zb9 c l n=l.map T.er
 | [],n,_=>rfl
 | t::l,n,h=>by
  rw[Zb9,ZfJ l _ (by omega),List.map_cons,Zh9,if_neg (by omega)]
theorem Zj0{c:C4}:∀(l:List T)(n:Nat),(∀x∈l,x.good=true)->(ZaI c l n).1=Zb9 c l n
 | [],n,_=>rfl
 | t::l,n,hg=>by
  have gH:=hg t (by simp)
  have nX:=λx (hx:x∈l)=>hg x (by simp[hx])
  rw[ZaI,Zb9]
  by_cases h1:c.a < n
  ·rw[Ze6 t n gH h1,Zh9,if_neg (by omega),ZfJ _ _ (by omega)]
   simp only[]
   rw[Zfk l _ nX (by omega)]
  ·by_cases h2:c.a < n+t.alts.length
   ·rw[Zh9,if_pos (by omega),ZfJ _ _ (by omega)]
    have:c.a < (t.cutAt c n).2:=by
     rcases Zmh (c:=c) t n with h|h <;> omega
    simp only[]
    rw[Zfk l _ nX this]
   ·rw[ZoT t n gH (by omega),Zh9,if_neg (by omega)]
    simp only[]
    rw[Zj0 l _ nX]
theorem ZfV{c:C4}:∀(l r:List T)(n:Nat),Zb9 c (l++r) n=Zb9 c l n++Zb9 c r (n+(ZaA l).length)
 | [],r,n=>by simp[Zb9,ZaA]
 | t::l,r,n=>by
  rw[List.cons_append,Zb9,Zb9,ZfV l r,List.cons_append]
  simp only[ZaA,List.length_append]
  rw[Nat.add_assoc]
theorem ZoU{c:C4}{l:List T}{i n:Nat}{x:T}(h:l[i]?=some x):Zb9 c (l.take (i+1)) n=Zb9 c (l.take i) n++[Zh9 c x (n+(ZaA (l.take i)).length)]:=by
 rw[List.take_add_one,h]
 show Zb9 c (l.take i++[x]) n=_
 rw[ZfV];rfl
theorem Zj1{l:List T}{i:Nat}{x:T}(h:l[i]?=some x):ZaA (l.take (i+1))=ZaA (l.take i)++x.alts:=by
 rw[List.take_add_one,h]
 show ZaA (l.take i++[x])=_
 rw[Zdz]
 simp[ZaA]
theorem Zvn{c:C4}{t:T}{n:Nat}(hg:t.good=true):(t.cutAt c n).1=if t.k=4/\n=c.a then Zeq (Zh8 t.subs c)else t.built (Zb9 c t.subs (if t.k=4 then n+1 else n)):=by
 split
 ·rename_i h
  rw[Zc4 h.1 h.2]
 ·rename_i h
  rw[ZbZ h]
  simp only[]
  rw[Zj0 _ _ (Zam hg).2]
theorem Zy1{t:T}(h:0 < (Zbb t).g):(Zbb t).t=(t.cutAt (Zbb t).c 0).1/\(Zbb t).c∈t.cuts:=by
 rcases(Zmm t).or with h1|h1
 ·omega
 ·exact⟨h1.2.2.2,h1.2.1⟩
end Go.Rx
namespace Go.Rx
open Go Go.Eng Go.RowKit
set_option maxRecDepth 100000
theorem Zy2(n b:Nat):n % 2 ^ (b+1)=n % 2 ^ b|||(if n.testBit b then 2 ^ b else 0):=by
 apply Nat.eq_of_testBit_eq
 intro i
 rw[Nat.testBit_or,Nat.testBit_mod_two_pow,Nat.testBit_mod_two_pow]
 have h0:(if n.testBit b=true then 2 ^ b else 0).testBit i=(n.testBit b&&decide (b=i)):=by
  cases n.testBit b with
  | true=>rw[if_pos rfl,Nat.testBit_two_pow];rfl
  | false=>simp
 rw[h0]
 rcases Nat.lt_trichotomy i b with h|h|h
 ·rw[decide_eq_true (show i < b+1 by omega),decide_eq_true h,decide_eq_false (show ¬b=i by omega)];simp
 ·subst h
  rw[decide_eq_true (show i < i+1 by omega),decide_eq_false (show ¬i < i by omega),decide_eq_true (rfl:i=i)];simp
 ·rw[decide_eq_false (show ¬i < b+1 by omega),decide_eq_false (show ¬i < b by omega),decide_eq_false (show ¬b=i by omega)];simp
def wP(q:QS)(i j:Nat):Nat:=(Zfz q j).toNat % 2 ^ (min 64 (i - 64*j))
theorem Zq1(q:QS)(j:Nat):wP q 0 j=0:=by
 unfold wP
 rw[show min 64 (0 - 64*j)=0 by omega,Nat.pow_zero,Nat.mod_one]
theorem ZAX(q:QS)(i j:Nat):wP q i j < 18446744073709551616:=by
 unfold wP
 have h1:(Zfz q j).toNat % 2 ^ (min 64 (i - 64*j)) < 2 ^ (min 64 (i - 64*j)):=Nat.mod_lt _ (Nat.two_pow_pos _)
 have h2:2 ^ (min 64 (i - 64*j))<=2 ^ 64:=Nat.pow_le_pow_right (by decide) (Nat.min_le_left _ _)
 omega
theorem Zvo{q:QS}{j:Nat}(hj:j < 4)(h:0<=Zfz q j/\Zfz q j < 18446744073709551616):((wP q 256 j:Nat):Int)=Zfz q j:=by
 unfold wP
 rw[show min 64 (256 - 64*j)=64 by omega,Nat.mod_eq_of_lt (by omega)]
 omega
theorem Zq2(q:QS){i j:Nat}(hi:i < 256):wP q (i+1) j=if j=i / 64 then wP q i j|||(if Zx2 q i then 2 ^ (i % 64)else 0)else wP q i j:=by
 unfold wP
 by_cases hj:j=i / 64
 ·rw[if_pos hj]
  have e1:min 64 (i - 64*j)=i % 64:=by omega
  have e2:min 64 (i+1 - 64*j)=i % 64+1:=by omega
  rw[e1,e2,Zy2,Zn4,hj]
 ·rw[if_neg hj]
  have e:min 64 (i+1 - 64*j)=min 64 (i - 64*j):=by omega
  rw[e]
theorem Zy3:∀c:Fin 256,IntKind.i64.wrap (Int.tdiv (c.val:Int) 64)=((c.val / 64:Nat):Int)/\Int.tmod (c.val:Int) 64=((c.val % 64:Nat):Int):=by decide +kernel
theorem ZAk:∀b:Fin 64,IntKind.u64.wrap (IntKind.u64.wrap 1*2 ^ min (((b.val:Nat):Int).toNat) 64)=((2 ^ b.val:Nat):Int)/\IntKind.u64.wrap (IntKind.u64.wrap 0*2 ^ min (((b.val:Nat):Int).toNat) 64)=0:=by decide +kernel
theorem Zy4(q:QS){i j:Nat}(hi:i < 256):IntKind.u64.wrap ((BitVec.ofInt 64 ((wP q i j:Nat):Int)|||BitVec.ofInt 64 (IntKind.u64.wrap (IntKind.u64.wrap (ZrO q i)*2 ^ min (((i % 64:Nat):Int).toNat) 64))).toNat:Int)=((wP q i j|||(if Zx2 q i then 2 ^ (i % 64)else 0):Nat):Int):=by
 have hb:=ZAk ⟨i % 64,by omega⟩
 have aS:2 ^ (i % 64) < 18446744073709551616:=by
  have:2 ^ (i % 64)<=2 ^ 63:=Nat.pow_le_pow_right (by decide) (by omega)
  omega
 cases hh:Zx2 q i with
 | true=>
  have:ZrO q i=1:=by unfold ZrO;rw[hh];rfl
  rw[this,hb.1,ZtB _ _ (ZAX q i j) aS]
  simp
 | false=>
  have:ZrO q i=0:=by unfold ZrO;rw[hh];rfl
  rw[this,hb.2]
  have:=ZtB (wP q i j) 0 (ZAX q i j) (by decide)
  simpa using this
def wcs(k:Int)(q:QS)(i:Nat)(mn mx:Int):List Value:=[.int .u8 k,.int .u64 (wP q i 0:Nat),.int .u64 (wP q i 1:Nat),.int .u64 (wP q i 2:Nat),.int .u64 (wP q i 3:Nat),.int .i64 mn,.int .i64 mx,.slice none 0 0]
theorem ZAl(k:Int)(q:QS)(i:Nat)(mn mx:Int){j:Nat}(h:j < 4):(wcs k q i mn mx)[1+j*1]?=some (.int .u64 (wP q i j:Nat)):=by
 match j,h with
 | 0,_=>rfl
 | 1,_=>rfl
 | 2,_=>rfl
 | 3,_=>rfl
theorem Zxl(k:Int)(q:QS)(i:Nat)(mn mx:Int)(hi:i < 256):Zax (wcs k q i mn mx) (1+i / 64*1) [.int .u64 ((wP q i (i / 64)|||(if Zx2 q i then 2 ^ (i % 64)else 0):Nat):Int)]=wcs k q (i+1) mn mx:=by
 unfold wcs
 rw[Zq2 q hi,Zq2 q hi,Zq2 q hi,Zq2 q hi]
 have:i / 64=0\/i / 64=1\/i / 64=2\/i / 64=3:=by omega
 rcases this with h|h|h|h <;> rw[h] <;> simp[Zax]
end Go.Rx
