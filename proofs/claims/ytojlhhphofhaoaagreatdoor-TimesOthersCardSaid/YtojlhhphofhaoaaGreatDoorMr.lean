/- Trees of regexes, what they mean, and xw they lie in memory; plain, no program is named. No condition. -/
import Derived.Test.YtojlhhphofhaoaaGreatDoorMc
import Derived.Lib.SliceRun
import Derived.Shelf.SlicesE.Delete
import Derived.Deep.MidRow
import Derived.Test.YtojlhhphofhaoaaGreatDoorMb
set_option linter.unusedVariables false
set_option linter.unusedSimpArgs false
set_option linter.unusedSectionVars false
namespace Go.Rx
open Go Go.Eng
inductive T where
 | node (k s0 s1 s2 s3 mn mx:Int) (a:Option Addr) (c:Nat) (subs:List T)
def T.k:T->Int
 | .node k _ _ _ _ _ _ _ _ _=>k
def T.s0:T->Int
 | .node _ s _ _ _ _ _ _ _ _=>s
def T.s1:T->Int
 | .node _ _ s _ _ _ _ _ _ _=>s
def T.s2:T->Int
 | .node _ _ _ s _ _ _ _ _ _=>s
def T.s3:T->Int
 | .node _ _ _ _ s _ _ _ _ _=>s
def T.mn:T->Int
 | .node _ _ _ _ _ x _ _ _ _=>x
def T.mx:T->Int
 | .node _ _ _ _ _ _ x _ _ _=>x
def T.a:T->Option Addr
 | .node _ _ _ _ _ _ _ a _ _=>a
def T.c:T->Nat
 | .node _ _ _ _ _ _ _ _ c _=>c
def T.subs:T->List T
 | .node _ _ _ _ _ _ _ _ _ l=>l
def T.sl(t:T):Value:=.slice t.a t.subs.length t.c
def T.cs(t:T):List Value:=[.int .u8 t.k,.int .u64 t.s0,.int .u64 t.s1,.int .u64 t.s2,.int .u64 t.s3,.int .i64 t.mn,.int .i64 t.mx,t.sl]
def T.v(t:T):Value:=.agg #[.int .u8 t.k,.int .u64 t.s0,.int .u64 t.s1,.int .u64 t.s2,.int .u64 t.s3,.int .i64 t.mn,.int .i64 t.mx,.slice t.a t.subs.length t.c]
structure OkN (k s0 s1 s2 s3 mn mx:Int):Prop where
 k:0<=k/\k < 256
 s0:0<=s0/\s0 < 18446744073709551616
 s1:0<=s1/\s1 < 18446744073709551616
 s2:0<=s2/\s2 < 18446744073709551616
 s3:0<=s3/\s3 < 18446744073709551616
 mn : -9223372036854775808<=mn/\mn<=9223372036854775807
 mx : -9223372036854775808<=mx/\mx<=9223372036854775807
mutual
def Rep(m:Mem):T->Prop
 | .node k s0 s1 s2 s3 mn mx a _ l=>l.length<=1000000000000000/\(l=[]\/∃b o,a=some ⟨b,o,none⟩/\RepAt m b o l)/\OkN k s0 s1 s2 s3 mn mx
def RepAt(m:Mem)(b:Nat):Nat->List T->Prop
 | _,[]=>True
 | o,t::l=>m.reads b o t.cs/\Rep m t/\RepAt m b (o+8) l
end
theorem Zjq{m:Mem}{t:T}:Rep m t->(t.subs.length<=1000000000000000/\(t.subs=[]\/∃b o,t.a=some ⟨b,o,none⟩/\RepAt m b o t.subs)):=by
 cases t;simp only[Rep,T.subs,T.a];exact λh=>⟨h.1,h.2.1⟩
theorem Zzv{m:Mem}{t:T}:Rep m t->OkN t.k t.s0 t.s1 t.s2 t.s3 t.mn t.mx:=by
 cases t;simp only[Rep];exact λh=>h.2.2
theorem Zzw{m:Mem}{t:T}(h1:t.subs.length<=1000000000000000)(h2:t.subs=[]\/∃b o,t.a=some ⟨b,o,none⟩/\RepAt m b o t.subs)(h3:OkN t.k t.s0 t.s1 t.s2 t.s3 t.mn t.mx):Rep m t:=by
 cases t;simp only[Rep];exact⟨h1,h2,h3⟩
mutual
theorem Rep.mono{m m':Mem}(h:m.le m'):∀t:T,Rep m t->Rep m' t
 | .node _ _ _ _ _ _ _ a _ l,hr=>by
  simp only[Rep]at *
  refine⟨hr.1,?_,hr.2.2⟩
  rcases hr.2.1 with hr|⟨b,o,h1,h2⟩
  ·exact .inl hr
  ·exact .inr ⟨b,o,h1,RepAt.mono h b o l h2⟩
theorem RepAt.mono{m m':Mem}(h:m.le m')(b:Nat):∀(o:Nat)(l:List T),RepAt m b o l->RepAt m' b o l
 | _,[],_=>by simp only[RepAt]
 | o,t::l,hr=>by
  simp only[RepAt]at *
  exact⟨hr.1.mono h,Rep.mono h t hr.2.1,RepAt.mono h b (o+8) l hr.2.2⟩
end
theorem RepAt.get{m:Mem}{b:Nat}:∀{o:Nat} {l:List T} {i:Nat} {t:T},RepAt m b o l->l[i]?=some t->m.reads b (o+i*8) t.cs/\Rep m t
 | o,[],i,t,_,hi=>by simp at hi
 | o,x::l,0,t,h,hi=>by
  simp only[RepAt]at h
  simp at hi;subst hi
  exact⟨by simpa using h.1,h.2.1⟩
 | o,x::l,i+1,t,h,hi=>by
  simp only[RepAt]at h
  have:=h.2.2.get (i:=i) (by simpa using hi)
  rw[show o+(i+1)*8=o+8+i*8 by omega]
  exact this
mutual
def T.nodes:T->List T
 | .node k s0 s1 s2 s3 mn mx a c l=>.node k s0 s1 s2 s3 mn mx a c l::Zaz l
def Zaz:List T->List T
 | []=>[]
 | t::l=>t.nodes++Zaz l
end
theorem Zcy(t:T):t.nodes=t::Zaz t.subs:=by cases t;simp only[T.nodes,T.subs]
theorem Zc3(l r:List T):Zaz (l++r)=Zaz l++Zaz r:=by
 induction l with
 | nil=>simp[Zaz]
 | cons t l ih=>simp[Zaz,ih,List.append_assoc]
theorem Zop{l:List T}{i:Nat}{t:T}(h:l[i]?=some t):Zaz (l.take (i+1))=Zaz (l.take i)++t.nodes:=by
 have:l.take (i+1)=l.take i++[t]:=by
  rw[List.take_add_one,h];rfl
 rw[this,Zc3];simp[Zaz]
theorem Zdu{l:List T}{i:Nat}{t:T}(h:l[i]?=some t):Zaz l=Zaz (l.take i)++(t.nodes++Zaz (l.drop (i+1))):=by
 have aO:=(zA0 h).1
 have e:l=l.take i++(t::l.drop (i+1)):=by
  have:=List.drop_eq_getElem_cons aO
  rw[(zA0 h).2]at this
  rw[<-this,List.take_append_drop]
 conv=>lhs;rw[e,Zc3]
 simp[Zaz]
theorem ZvK{t x z:T}{i q:Nat}(hx:t.subs[i]?=some x)(hz:x.nodes[q]?=some z):t.nodes[1+(Zaz (t.subs.take i)).length+q]?=some z:=by
 have hq:=(zA0 hz).1
 rw[Zcy,show 1+(Zaz (t.subs.take i)).length+q=((Zaz (t.subs.take i)).length+q)+1 by omega,List.getElem?_cons_succ,Zdu hx,zA4 (by omega),zA5 (by omega),show(Zaz (List.take i t.subs)).length+q - (Zaz (List.take i t.subs)).length=q by omega]
 exact hz
theorem Zqv{t x:T}(h:x∈t.subs):SizeOf.sizeOf x < SizeOf.sizeOf t:=by
 cases t with
 | node k s0 s1 s2 s3 mn mx a c l=>
  have h':x∈l:=h
  have:=List.sizeOf_lt_of_mem h'
  simp only[T.node.sizeOf_spec]
  omega
theorem Zqw(t:T):Shape.fitsL [.agg [.int .u8,.int .u64,.int .u64,.int .u64,.int .u64,.int .i64,.int .i64,.slice]] [t.v]=true:=by
 simp[Shape.fitsL,Shape.fits,T.v]
mutual
theorem Zrr{m:Mem}:∀(t:T),Rep m t->∀x∈t.nodes,Rep m x
 | .node k s0 s1 s2 s3 mn mx a c l,hr,x,hx=>by
  simp only[T.nodes,List.mem_cons]at hx
  rcases hx with rfl|hx
  ·exact hr
  ·simp only[Rep]at hr
   rcases hr.2.1 with h|⟨b,o,_,h⟩
   ·subst h;simp[Zaz]at hx
   ·exact Zoq b o l h x hx
theorem Zoq{m:Mem}(b:Nat):∀(o:Nat)(l:List T),RepAt m b o l->∀x∈Zaz l,Rep m x
 | _,[],_,x,hx=>by simp[Zaz]at hx
 | o,t::l,hr,x,hx=>by
  simp only[RepAt]at hr
  simp only[Zaz,List.mem_append]at hx
  rcases hx with hx|hx
  ·exact Zrr t hr.2.1 x hx
  ·exact Zoq b (o+8) l hr.2.2 x hx
end
theorem Zs3{m:Mem}{t x:T}(h:Rep m t)(hx:x∈t.nodes):Rep m x:=Zrr t h x hx
def ZjY(least most:Int):Bool:=!(decide (least < 0)||decide (least > 16)||(least == 1&&most == 1))&&(most == -1||(decide (most ≥ 1)&&decide (most<=16)&&decide (most ≥ least)))
def T.has(t:T)(k:Int):Bool:=t.subs.any λx=>x.k == k
def T.light(t:T):Bool:=decide (t.nodes.length<=10000)
def T.setZ(t:T):Bool:=t.s0 == 0&&t.s1 == 0&&t.s2 == 0&&t.s3 == 0
def T.right(t:T):Bool:=
 !(t.k != 2&&!t.setZ||(t.k != 5&&(t.mn != 0||t.mx != 0)||(decide (t.k < 3)&&decide (0 < t.subs.length)))) &&
 (if t.k=1 then true else if t.k=2 then !t.setZ else if t.k=3 then decide (1 < t.subs.length)&&(!t.has 1&&!t.has 3)else if t.k=4 then decide (1 < t.subs.length)&&!t.has 4
  else if t.k=5 then t.subs.length == 1&&(ZjY t.mn t.mx&&!t.has 1)else t.k == 6&&t.subs.length == 1)
def T.clean(t:T):Bool:=t.light&&t.nodes.all T.right
def T.size(t:T):Int:=if t.light then t.nodes.length else 10001
def T.groups(t:T):Int:=if t.light then(t.nodes.countP λx=>x.k == 6:Nat)else 10001
def ZpQ(x y:Int):Int:=if y > x then y else x
def ZgG(x y:Int):Int:=if y < x then y else x
def ZwZ(k mn mx sum:Int):Int:=ZgG (if k=5 then sum*ZgG (if mx=-1 then ZpQ (ZpQ mn 0) 1 else ZpQ (ZpQ mn 0) mx) 10001 else sum) 10001
mutual
def T.pos:T->Int
 | .node k _ _ _ _ mn mx _ _ l=>ZwZ k mn mx ((if k=2 then 1 else 0)+ZeD l)
def ZeD:List T->Int
 | []=>0
 | t::l=>t.pos+ZeD l
end
def T.positions(t:T):Int:=if t.light then t.pos else 10001
def T.check(t:T):Int:=if t.clean=false then 80 else if t.size > 120 then 81 else if t.positions > 400 then 82 else if t.groups > 9 then 83 else 0
mutual
def T.same:T->T->Bool
 | .node k s0 s1 s2 s3 mn mx _ _ l,.node k' s0' s1' s2' s3' mn' mx' _ _ l'=>k == k'&&((s0 == s0'&&s1 == s1'&&s2 == s2'&&s3 == s3')&&(mn == mn'&&(mx == mx'&&Zeu l l')))
def Zeu:List T->List T->Bool
 | [],[]=>true
 | t::l,t'::l'=>t.same t'&&Zeu l l'
 | _,_=>false
end
theorem ZxF(t u:T):t.same u=(t.k == u.k&&((t.s0 == u.s0&&t.s1 == u.s1&&t.s2 == u.s2&&t.s3 == u.s3)&&(t.mn == u.mn&&(t.mx == u.mx&&Zeu t.subs u.subs)))):=by
 cases t;cases u;simp only[T.same,T.k,T.s0,T.s1,T.s2,T.s3,T.mn,T.mx,T.subs]
theorem Zor:∀{l r:List T},¬l.length=r.length->Zeu l r=false
 | [],[],h=>by simp at h
 | [],_::_,_=>by simp[Zeu]
 | _::_,[],_=>by simp[Zeu]
 | x::l,y::r,h=>by
  simp only[Zeu,Zor (l:=l) (r:=r) (by simpa using h),Bool.and_false]
theorem Zrs:∀{l r:List T} {i:Nat} {x y:T},l[i]?=some x->r[i]?=some y->x.same y=false->Zeu l r=false
 | [],r,i,x,y,h,_,_=>by simp at h
 | _::_,[],i,x,y,_,h,_=>by simp at h
 | a::l,b::r,0,x,y,h,k,e=>by
  simp at h k;subst h k
  simp[Zeu,e]
 | a::l,b::r,i+1,x,y,h,k,e=>by
  simp only[Zeu,Zrs (l:=l) (r:=r) (i:=i) (by simpa using h) (by simpa using k) e,Bool.and_false]
theorem ZlA:∀{l r:List T} {i:Nat} {x y:T},l[i]?=some x->r[i]?=some y->Zeu (l.take i) (r.take i)=true->x.same y=true->True->Zeu (l.take (i+1)) (r.take (i+1))=true
 | [],r,i,x,y,h,_,_,_,_=>by simp at h
 | _::_,[],i,x,y,_,h,_,_,_=>by simp at h
 | a::l,b::r,0,x,y,h,k,_,e,_=>by
  simp at h k;subst h k
  simp[Zeu,e]
 | a::l,b::r,i+1,x,y,h,k,hs,e,_=>by
  simp only[List.take_succ_cons,Zeu,zA7]at hs ⊢
  exact⟨hs.1,ZlA (by simpa using h) (by simpa using k) hs.2 e trivial⟩
theorem Zqx(t:T):t.pos=ZwZ t.k t.mn t.mx ((if t.k=2 then 1 else 0)+ZeD t.subs):=by
 cases t;simp only[T.pos,T.k,T.mn,T.mx,T.subs];congr 1
theorem Za8(l r:List T):ZeD (l++r)=ZeD l+ZeD r:=by
 induction l with
 | nil=>simp[ZeD]
 | cons t l ih=>simp[ZeD,ih,Int.add_assoc]
theorem Zs4{l:List T}{i:Nat}{t:T}(h:l[i]?=some t):ZeD (l.take (i+1))=ZeD (l.take i)+t.pos:=by
 have:l.take (i+1)=l.take i++[t]:=by
  rw[List.take_add_one,h];rfl
 rw[this,Za8];simp[ZeD]
theorem Zrt(x y:Int):x<=ZpQ x y/\y<=ZpQ x y:=by unfold ZpQ;split <;> omega
theorem ZlB(x y:Int):ZgG x y<=x/\ZgG x y<=y:=by unfold ZgG;split <;> omega
theorem ZuL{x y:Int}(h:0<=x)(k:0<=y):0<=ZgG x y:=by unfold ZgG;split <;> omega
def ZvL(mn mx:Int):Int:=ZgG (if mx=-1 then ZpQ (ZpQ mn 0) 1 else ZpQ (ZpQ mn 0) mx) 10001
theorem ZuM(mn mx:Int):0<=ZvL mn mx/\ZvL mn mx<=10001:=by
 unfold ZvL
 refine⟨ZuL ?_ (by omega),(ZlB _ _).2⟩
 have h1:=Zrt mn 0
 split
 ·have:=Zrt (ZpQ mn 0) 1;omega
 ·have:=Zrt (ZpQ mn 0) mx;omega
theorem ZxG{k mn mx sum:Int}(h:0<=sum):0<=ZwZ k mn mx sum/\ZwZ k mn mx sum<=10001:=by
 have h2:=Int.mul_nonneg h (ZuM mn mx).1
 unfold ZwZ
 refine⟨ZuL ?_ (by omega),(ZlB _ _).2⟩
 split
 ·exact h2
 ·exact h
mutual
theorem Zio:∀t:T,0<=t.pos/\t.pos<=10001
 | .node k _ _ _ _ mn mx _ _ l=>by
  simp only[T.pos]
  have:=Zg6 l
  exact ZxG (by split <;> omega)
theorem Zg6:∀l:List T,0<=ZeD l
 | []=>by simp[ZeD]
 | t::l=>by
  simp only[ZeD]
  have:=Zio t
  have:=Zg6 l
  omega
end
theorem ZuN:∀l:List T,ZeD l<=10001*l.length
 | []=>by simp[ZeD]
 | t::l=>by
  simp only[ZeD,List.length_cons]
  have:=Zio t
  have:=ZuN l
  omega
theorem ZuO(t:T):t.subs.length < t.nodes.length:=by
 rw[Zcy,List.length_cons]
 have:∀l:List T,l.length<=(Zaz l).length:=by
  intro l
  induction l with
  | nil=>simp[Zaz]
  | cons x l ih=>simp only[Zaz,List.length_cons,zA1];rw[Zcy];simp;omega
 have:=this t.subs
 omega
theorem Zs5{t x:T}(h:x∈t.subs):x.nodes.length < t.nodes.length:=by
 obtain⟨i,hi⟩:=List.getElem?_of_mem h
 rw[Zcy t,List.length_cons,Zdu hi]
 simp;omega
def T.hasB(t:T)(c:Nat):Bool:=((if c / 64=0 then t.s0 else if c / 64=1 then t.s1 else if c / 64=2 then t.s2 else t.s3).toNat).testBit (c % 64)
end Go.Rx
namespace Go.Rx
open Go Go.Eng Go.RowKit
theorem ZAf(n:Nat)(h:n < 18446744073709551616):IntKind.u64.wrap (n:Int)=n:=by
 unfold IntKind.wrap
 have e:(2:Int) ^ 64=18446744073709551616:=by decide
 simp only[IntKind.bits,IntKind.signed,Bool.false_and,Bool.false_eq_true,if_false,e]
 omega
theorem ZBz(a:Nat)(h:a < 18446744073709551616):(BitVec.ofInt 64 (a:Int)).toNat=a:=by
 rw[BitVec.toNat_ofInt]
 have e:((2:Nat) ^ 64:Nat)=18446744073709551616:=by decide
 rw[e];omega
theorem ZvM(a b:Nat)(ha:a < 18446744073709551616)(hb:b < 18446744073709551616):IntKind.u64.wrap ((BitVec.ofInt 64 (a:Int)|||BitVec.ofInt 64 (b:Int)).toNat:Int)=((a|||b:Nat):Int):=by
 rw[BitVec.toNat_or,ZBz a ha,ZBz b hb]
 exact ZAf _ (Nat.or_lt_two_pow (n:=64) ha hb)
def Byt(m:Mem)(a:Option Addr)(s:List Nat):Prop:=(s=[]\/∃b o,a=some ⟨b,o,none⟩/\m.reads b o (s.map λc:Nat=>Value.int .u8 c))/\∀c∈s,c < 256
theorem Byt.mono{m m':Mem}{a s}(h:Byt m a s)(hm:m.le m'):Byt m' a s:=by
 refine⟨?_,h.2⟩
 rcases h.1 with h|⟨b,o,h1,h2⟩
 ·exact .inl h
 ·exact .inr ⟨b,o,h1,h2.mono hm⟩
theorem Byt.get{m:Mem}{a s}(h:Byt m a s){i c:Nat}(hi:s[i]?=some c):(∃b o,a=some ⟨b,o,none⟩/\m b (o+i)=some (.int .u8 c))/\c < 256:=by
 refine⟨?_,h.2 c (zA2 hi)⟩
 rcases h.1 with h|⟨b,o,h1,h2⟩
 ·subst h;simp at hi
 ·exact⟨b,o,h1,h2 i _ (by rw[List.getElem?_map,hi];rfl)⟩
def ZAT(t:T)(back:Bool)(f i c out:Nat):Nat:=if(f.testBit (if back then i+1 else i)&&t.hasB c)=true then out|||2 ^ (if back then i else i+1)else out
def ZBA(t:T)(back:Bool)(f:Nat):List Nat->Nat->Nat->Nat
 | [],_,out=>out
 | c::s,i,out=>ZBA t back f s (i+1) (ZAT t back f i c out)
def ZBs(g:Nat->Nat):Nat->Nat->Nat
 | 0,f=>f
 | n+1,f=>ZBs g n (g f)
def ZAg(g:Nat->Nat)(mx:Int):Nat->Int->Nat->Nat->Nat
 | 0,_,out,_=>out
 | n+1,k,out,last=>if k=mx then out else if out|||g last=out then out else ZAg g mx n (IntKind.i64.wrap (k+1)) (out|||g last) (g last)
@[irreducible] def ZBH:Nat:=576
abbrev ZBI:Nat:=2 ^ ZBH
def ZBJ(g:Nat->Nat)(mn mx:Int)(f:Nat):Nat:=ZAg g mx (ZBI+1) mn (ZBs g mn.toNat f) (ZBs g mn.toNat f)
mutual
def T.lead(s:List Nat)(back:Bool):T->Nat->Nat
 | .node k s0 s1 s2 s3 mn mx a c l=>λf=>
  if k=1 then f else if k=2 then ZBA (.node k s0 s1 s2 s3 mn mx a c l) back f s 0 0
  else if k=3 then(if back then ZAi s back l f else ZAh s back l f)
  else if k=4 then ZBB s back l f 0
  else if k=5 then ZBJ (ZAj s back l) mn mx f
  else if k=6 then ZAj s back l f else 0
def ZAh(s:List Nat)(back:Bool):List T->Nat->Nat
 | []=>λf=>f
 | t::l=>λf=>ZAh s back l (t.lead s back f)
def ZAi(s:List Nat)(back:Bool):List T->Nat->Nat
 | []=>λf=>f
 | t::l=>λf=>t.lead s back (ZAi s back l f)
def ZBB(s:List Nat)(back:Bool):List T->Nat->Nat->Nat
 | []=>λ_ out=>out
 | t::l=>λf out=>ZBB s back l f (out|||t.lead s back f)
def ZAj(s:List Nat)(back:Bool):List T->Nat->Nat
 | []=>λf=>f
 | t::_=>λf=>t.lead s back f
end
section
variable {s:List Nat} {back:Bool}
end
theorem Zos{α:Type}{l:List α}{i:Nat}{x:α}(h:l[i]?=some x):l.drop i=x::l.drop (i+1):=by
 obtain⟨h1,h2⟩:=zA0 h
 rw[List.drop_eq_getElem_cons h1,h2]
theorem Zru{α:Type}{l:List α}{i:Nat}{x:α}(h:l[i]?=some x):l.take (i+1)=l.take i++[x]:=by
 rw[List.take_add_one,h];rfl
section
variable (s:List Nat) (back:Bool) (hs:s.length<=512)
include hs
end
def T0:T:=.node 0 0 0 0 0 0 0 none 0 []
def T1:T:=.node 1 0 0 0 0 0 0 none 0 []
theorem Zzx(m:Mem):Rep m T0:=by simp only[T0,Rep];exact⟨by simp,.inl trivial,by constructor <;> decide⟩
theorem ZxH(m:Mem):Rep m T1:=by simp only[T1,Rep];exact⟨by simp,.inl trivial,by constructor <;> decide⟩
def T.isNone(t:T):Bool:=t.k == 0&&(t.light&&(T0.light&&t.same T0))
def T.wrong(t:T)(len:Nat)(i:Int):Int:=if(!t.isNone&&!(t.check == 0))=true then 130 else if(len:Int) > 512 then 3 else if i < 0\/i > len then 2 else 0
structure Rg where
 bg:Bool
 en:Bool
 t:T
def Rg.v(r:Rg):Value:=.agg #[.bool r.bg,.bool r.en,.int .u8 r.t.k,.int .u64 r.t.s0,.int .u64 r.t.s1,.int .u64 r.t.s2,.int .u64 r.t.s3,.int .i64 r.t.mn,.int .i64 r.t.mx,.slice r.t.a r.t.subs.length r.t.c]
def Rg.cs(r:Rg):List Value:=[.bool r.bg,.bool r.en,.int .u8 r.t.k,.int .u64 r.t.s0,.int .u64 r.t.s1,.int .u64 r.t.s2,.int .u64 r.t.s3,.int .i64 r.t.mn,.int .i64 r.t.mx,.slice r.t.a r.t.subs.length r.t.c]
def Rgs(m:Mem)(a:Option Addr)(l:List Rg):Prop:=l.length<=1000000000000000/\(l=[]\/∃b o,a=some ⟨b,o,none⟩/\∀i r,l[i]?=some r->m.reads b (o+i*10) r.cs)/\∀r∈l,Rep m r.t
theorem Rgs.mono{m m':Mem}{a l}(h:Rgs m a l)(hm:m.le m'):Rgs m' a l:=by
 refine⟨h.1,?_,λr hr=>(h.2.2 r hr).mono hm⟩
 rcases h.2.1 with h|⟨b,o,h1,h2⟩
 ·exact .inl h
 ·exact .inr ⟨b,o,h1,λi r hi=>(h2 i r hi).mono hm⟩
def Zzy(f:Nat):List Nat:=(List.range 513).filter λi=>f.testBit i
def ZxI(n:Nat):List Nat->Option Nat
 | []=>none
 | i::_=>if i > n then none else some i
def Rg.from(s:List Nat)(n:Nat)(r:Rg):Option Nat:=if(r.en&&decide ((n:Int) < s.length))=true then none else if r.bg then(if(r.t.lead s true (2 ^ n)).testBit 0 then some 0 else none)else
 ZxI n (Zzy (r.t.lead s true (2 ^ n)))
def Rg.wrong(r:Rg)(len:Nat)(n:Int):Int:=if r.t.check=0 then r.t.wrong len n else 130
def Zot(φ:T->Prop):Value->Mem->List (List Value)->Prop:=λv m' _=>∃t:T,v=t.v/\Rep m' t/\φ t
abbrev TRK:=Int->Int->Int->Int->Int->Int->Int->Option Addr->Nat->Nat->Mem->Prop
theorem Zqy{φ:T->Prop}{m:Mem}{K:TRK}(k:∀(t:T)(m':Mem),m.le m'->Rep m' t->φ t->K t.k t.s0 t.s1 t.s2 t.s3 t.mn t.mx t.a t.subs.length t.c m'):
  ∀(n0 n1 n2 n3 n4 n5 n6:Int)(a:Option Addr)(n c:Nat)(m':Mem),m.le m'->Zot φ (.agg #[.int .u8 n0,.int .u64 n1,.int .u64 n2,.int .u64 n3,.int .u64 n4,.int .i64 n5,.int .i64 n6,.slice a n c]) m' []->K n0 n1 n2 n3 n4 n5 n6 a n c m':=by
 rintro n0 n1 n2 n3 n4 n5 n6 a n c m' hm ⟨t,hv,hr,hp⟩
 simp only[T.v,Value.agg.injEq,Array.mk.injEq,List.cons.injEq,Value.int.injEq,Value.slice.injEq,true_and,and_true]at hv
 obtain⟨rfl,rfl,rfl,rfl,rfl,rfl,rfl,rfl,rfl,rfl⟩:=hv
 exact k t m' hm hr hp
theorem Zff{φ:T->Prop}:∀(v:Value)(m':Mem) (css:List (List Value)),Zot φ v m' css->Shape.fits (.agg [.int .u8,.int .u64,.int .u64,.int .u64,.int .u64,.int .i64,.int .i64,.slice]) v=true:=λv _ _ ⟨t,e,_⟩=>by rw[e];rfl
def RepL(m:Mem)(a:Option Addr)(l:List T):Prop:=l.length<=1000000000000000/\(l=[]\/∃b o,a=some ⟨b,o,none⟩/\RepAt m b o l)
theorem RepL.mono{m m':Mem}{a l}(h:RepL m a l)(hm:m.le m'):RepL m' a l:=by
 refine⟨h.1,?_⟩
 rcases h.2 with h|⟨b,o,h1,h2⟩
 ·exact .inl h
 ·exact .inr ⟨b,o,h1,h2.mono hm⟩
theorem Rep.subs{m:Mem}{t:T}(h:Rep m t):RepL m t.a t.subs:=Zjq h
def Zb8(k mn mx:Int)(a:Option Addr)(c:Nat)(l:List T):T:=.node k 0 0 0 0 mn mx a c l
theorem Zf1{m:Mem}{k mn mx:Int}{a:Option Addr}{c:Nat}{l:List T}(h:RepL m a l)(hk:0<=k/\k < 256)(h1 : -9223372036854775808<=mn/\mn<=9223372036854775807)(h2 : -9223372036854775808<=mx/\mx<=9223372036854775807):Rep m (Zb8 k mn mx a c l):=by
 simp only[Zb8,Rep]
 exact⟨h.1,h.2,⟨hk,by omega,by omega,by omega,by omega,h1,h2⟩⟩
theorem Zrv{m:Mem}{b:Nat}{t:T}(h:m.reads b 0 t.cs)(hr:Rep m t):RepL m (some ⟨b,0,none⟩) [t]:=⟨by simp,.inr ⟨b,0,rfl,by simp only[RepAt];exact⟨h,hr,trivial⟩⟩⟩
def ZcL(l:List T):List Value:=(l.map T.cs).flatten
theorem Zar(l:List T):(ZcL l).length=l.length*8:=by
 induction l with
 | nil=>rfl
 | cons t l ih=>simp[ZcL,T.cs]at ih ⊢;omega
theorem ZaG(l r:List T):ZcL (l++r)=ZcL l++ZcL r:=by simp[ZcL]
theorem Zrw{m:Mem}{b:Nat}:∀{o:Nat} {l:List T},m.reads b o (ZcL l)->(∀t∈l,Rep m t)->RepAt m b o l
 | o,[],_,_=>by simp only[RepAt]
 | o,t::l,h,hr=>by
  simp only[RepAt]
  refine⟨λj v hj=>?_,hr t (by simp),Zrw (λj v hj=>?_) λx hx=>hr x (by simp[hx])⟩
  ·refine h j v ?_
   simp only[ZcL,List.map_cons,List.flatten_cons]
   rw[zA5 (zA0 hj).1];exact hj
  ·have:=h (8+j) v (by
    simp only[ZcL,List.map_cons,List.flatten_cons]
    rw[zA4 (by simp[T.cs])]
    have e:8+j - t.cs.length=j:=by simp[T.cs]
    rw[e];exact hj)
   rw[show o+8+j=o+(8+j) by omega];exact this
theorem ZuP{m:Mem}{a:Option Addr}{l:List T}(h:rowRd m a (ZcL l))(hr:∀t∈l,Rep m t)(hl:l.length<=1000000000000000):RepL m a l:=by
 refine⟨hl,?_⟩
 cases l with
 | nil=>exact .inl rfl
 | cons t l=>
  rcases h with h|⟨b,o,h1,h2⟩
  ·simp[ZcL,T.cs]at h
  ·exact .inr ⟨b,o,h1,Zrw h2 hr⟩
theorem Zeg{m:Mem}{a:Option Addr}{l:List T}(h:RepL m a l):rowRd m a (ZcL l):=by
 have key:∀(l:List T)(b o:Nat),RepAt m b o l->m.reads b o (ZcL l):=by
  intro l
  induction l with
  | nil=>intro b o _ j v hj;simp[ZcL]at hj
  | cons t l ih=>
   intro b o hr j v hj
   simp only[RepAt]at hr
   simp only[ZcL,List.map_cons,List.flatten_cons]at hj
   by_cases aO:j < 8
   ·rw[zA5 (by simpa[T.cs]using aO)]at hj
    exact hr.1 j v hj
   ·rw[zA4 (by simp[T.cs];omega)]at hj
    have:=ih b (o+8) hr.2.2 (j - 8) v (by simpa[T.cs,ZcL]using hj)
    rw[show o+8+(j - 8)=o+j by omega]at this;exact this
 rcases h.2 with h|⟨b,o,h1,h2⟩
 ·subst h;exact .inl rfl
 ·exact .inr ⟨b,o,h1,key l b o h2⟩
theorem ZjZ{m:Mem}{a:Option Addr}{l:List T}(h:RepL m a l):∀t∈l,Rep m t:=by
 rcases h.2 with h|⟨b,o,_,h⟩
 ·subst h;simp
 ·intro t ht
  obtain⟨i,hi⟩:=List.getElem?_of_mem ht
  exact(h.get hi).2
def ZBt(j:Nat)(w c:Nat):Nat:=if c / 64=j then w|||2 ^ (c % 64)else w
def Zuu(bs:List Nat)(j:Nat):Nat:=bs.foldl (ZBt j) 0
theorem Zs6(l:List Nat)(c j:Nat):Zuu (l++[c]) j=if c / 64=j then Zuu l j|||2 ^ (c % 64)else Zuu l j:=by
 unfold Zuu
 rw[List.foldl_append];rfl
theorem ZuQ(l:List Nat)(j:Nat):Zuu l j < 18446744073709551616:=by
 have key:∀(l:List Nat)(w:Nat),w < 2 ^ 64->l.foldl (ZBt j) w < 2 ^ 64:=by
  intro l
  induction l with
  | nil=>intro w h;exact h
  | cons c l ih=>
   intro w h
   refine ih _ ?_
   unfold ZBt
   split
   ·exact Nat.or_lt_two_pow h (Nat.pow_lt_pow_right (by omega) (by omega))
   ·exact h
 exact key l 0 (by decide)
def Zj0(bs:List Nat):T:=.node 2 (Zuu bs 0:Nat) (Zuu bs 1:Nat) (Zuu bs 2:Nat) (Zuu bs 3:Nat) 0 0 none 0 []
theorem Zou(bs:List Nat)(m:Mem):Rep m (Zj0 bs):=by
 simp only[Zj0,Rep]
 have h:=ZuQ bs
 exact⟨by simp,.inl trivial,⟨by omega,⟨by omega,by have:=h 0;omega⟩,⟨by omega,by have:=h 1;omega⟩,⟨by omega,by have:=h 2;omega⟩,⟨by omega,by have:=h 3;omega⟩,by omega,by omega⟩⟩
def ZuR(bs:List Nat):List Value:=[.int .u64 (Zuu bs 0:Nat),.int .u64 (Zuu bs 1:Nat),.int .u64 (Zuu bs 2:Nat),.int .u64 (Zuu bs 3:Nat)]
theorem Zs7(bs:List Nat){j:Nat}(h:j < 4):(ZuR bs)[j]?=some (.int .u64 (Zuu bs j:Nat)):=by
 have:j=0\/j=1\/j=2\/j=3:=by omega
 rcases this with rfl|rfl|rfl|rfl <;> rfl
theorem Zqz(l:List Nat){c j:Nat}(hj:c / 64=j)(h:j < 4):ZaC (ZuR l) j [.int .u64 ((Zuu l j|||2 ^ (c % 64):Nat):Int)]=ZuR (l++[c]):=by
 unfold ZuR
 simp only[Zs6,hj]
 have:j=0\/j=1\/j=2\/j=3:=by omega
 rcases this with rfl|rfl|rfl|rfl <;> rfl
def Zdo(n:Nat):List Nat:=([[97],[98],[97,98],[97],[98],[99],[97,98,99],[98,99],[10],[0,255],[97],[98]][n % 12]?).getD []
end Go.Rx
namespace Go.Rx
open Go Go.Eng
inductive E where
 | node (k:Int) (x:Nat) (s:ByteArray) (g:Int) (a:Option Addr) (c:Nat) (subs:List E)
def E.k:E->Int
 | .node k _ _ _ _ _ _=>k
def E.x:E->Nat
 | .node _ x _ _ _ _ _=>x
def E.s:E->ByteArray
 | .node _ _ s _ _ _ _=>s
def E.g:E->Int
 | .node _ _ _ g _ _ _=>g
def E.a:E->Option Addr
 | .node _ _ _ _ a _ _=>a
def E.c:E->Nat
 | .node _ _ _ _ _ c _=>c
def E.subs:E->List E
 | .node _ _ _ _ _ _ l=>l
def E.sl(t:E):Value:=.slice t.a t.subs.length t.c
def E.cs(t:E):List Value:=[.int .u8 t.k,.float .f64 t.x,.string t.s,.int .i64 t.g,t.sl]
def E.v(t:E):Value:=.agg #[.int .u8 t.k,.float .f64 t.x,.string t.s,.int .i64 t.g,.slice t.a t.subs.length t.c]
def E0:E:=.node 0 0 .empty 0 none 0 []
structure OkE (k:Int)(s:ByteArray)(g:Int):Prop where
 k:0<=k/\k < 256
 s:s.size<=1000000000000000
 g : -9223372036854775808<=g/\g<=9223372036854775807
mutual
def RepE(m:Mem):E->Prop
 | .node k x s g a _ l=>l.length<=1000000000000000/\(l=[]\/∃b o,a=some ⟨b,o,none⟩/\RepEAt m b o l)/\OkE k s g
def RepEAt(m:Mem)(b:Nat):Nat->List E->Prop
 | _,[]=>True
 | o,t::l=>m.reads b o t.cs/\RepE m t/\RepEAt m b (o+5) l
end
theorem Zw0(m:Mem):RepE m E0:=by simp only[E0,RepE];exact⟨by simp,.inl trivial,by constructor <;> decide⟩
theorem ZeE{m:Mem}{t:E}:RepE m t->(t.subs.length<=1000000000000000/\(t.subs=[]\/∃b o,t.a=some ⟨b,o,none⟩/\RepEAt m b o t.subs)):=by
 cases t;simp only[RepE,E.subs,E.a];exact λh=>⟨h.1,h.2.1⟩
theorem Zrx{m:Mem}{t:E}:RepE m t->OkE t.k t.s t.g:=by
 cases t;simp only[RepE];exact λh=>h.2.2
mutual
theorem RepE.mono{m m':Mem}(h:m.le m'):∀t:E,RepE m t->RepE m' t
 | .node _ _ _ _ a _ l,hr=>by
  simp only[RepE]at *
  refine⟨hr.1,?_,hr.2.2⟩
  rcases hr.2.1 with hr|⟨b,o,h1,h2⟩
  ·exact .inl hr
  ·exact .inr ⟨b,o,h1,RepEAt.mono h b o l h2⟩
theorem RepEAt.mono{m m':Mem}(h:m.le m')(b:Nat):∀(o:Nat)(l:List E),RepEAt m b o l->RepEAt m' b o l
 | _,[],_=>by simp only[RepEAt]
 | o,t::l,hr=>by
  simp only[RepEAt]at *
  exact⟨hr.1.mono h,RepE.mono h t hr.2.1,RepEAt.mono h b (o+5) l hr.2.2⟩
end
theorem RepE.mono'{m m':Mem}{t:E}(hr:RepE m t)(h:m.le m'):RepE m' t:=RepE.mono h t hr
theorem RepEAt.mono'{m m':Mem}{b o:Nat}{l:List E}(hr:RepEAt m b o l)(h:m.le m'):RepEAt m' b o l:=RepEAt.mono h b o l hr
theorem RepEAt.get{m:Mem}{b:Nat}:∀{o:Nat} {l:List E} {i:Nat} {t:E},RepEAt m b o l->l[i]?=some t->m.reads b (o+i*5) t.cs/\RepE m t
 | o,[],i,t,_,hi=>by simp at hi
 | o,x::l,0,t,h,hi=>by
  simp only[RepEAt]at h
  simp at hi;subst hi
  exact⟨by simpa using h.1,h.2.1⟩
 | o,x::l,i+1,t,h,hi=>by
  simp only[RepEAt]at h
  have:=h.2.2.get (i:=i) (by simpa using hi)
  rw[show o+(i+1)*5=o+5+i*5 by omega]
  exact this
mutual
def E.nodes:E->List E
 | .node k x s g a c l=>.node k x s g a c l::Zao l
def Zao:List E->List E
 | []=>[]
 | t::l=>t.nodes++Zao l
end
theorem Zbz(t:E):t.nodes=t::Zao t.subs:=by cases t;simp only[E.nodes,E.subs]
theorem ZaN(l r:List E):Zao (l++r)=Zao l++Zao r:=by
 induction l with
 | nil=>simp[Zao]
 | cons t l ih=>simp[Zao,ih,List.append_assoc]
theorem Zmr{l:List E}{i:Nat}{t:E}(h:l[i]?=some t):Zao (l.take (i+1))=Zao (l.take i)++t.nodes:=by
 have:l.take (i+1)=l.take i++[t]:=by
  rw[List.take_add_one,h];rfl
 rw[this,ZaN];simp[Zao]
theorem Zcz{l:List E}{i:Nat}{t:E}(h:l[i]?=some t):Zao l=Zao (l.take i)++(t.nodes++Zao (l.drop (i+1))):=by
 have aO:=(zA0 h).1
 have e:l=l.take i++(t::l.drop (i+1)):=by
  have:=List.drop_eq_getElem_cons aO
  rw[(zA0 h).2]at this
  rw[<-this,List.take_append_drop]
 conv=>lhs;rw[e,ZaN]
 simp[Zao]
theorem Zs8{t x z:E}{i q:Nat}(hx:t.subs[i]?=some x)(hz:x.nodes[q]?=some z):t.nodes[1+(Zao (t.subs.take i)).length+q]?=some z:=by
 have hq:=(zA0 hz).1
 rw[Zbz,show 1+(Zao (t.subs.take i)).length+q=((Zao (t.subs.take i)).length+q)+1 by omega,List.getElem?_cons_succ,Zcz hx,zA4 (by omega),zA5 (by omega),show(Zao (List.take i t.subs)).length+q - (Zao (List.take i t.subs)).length=q by omega]
 exact hz
theorem ZlC{t x:E}(h:x∈t.subs):SizeOf.sizeOf x < SizeOf.sizeOf t:=by
 cases t with
 | node k x s g a c l=>
  have h':_∈l:=h
  have:=List.sizeOf_lt_of_mem h'
  simp only[E.node.sizeOf_spec]
  omega
theorem ZlD(t:E):Shape.fitsL [.agg [.int .u8,.any,.str,.int .i64,.slice]] [t.v]=true:=by
 simp[Shape.fitsL,Shape.fits,E.v]
mutual
theorem Zov{m:Mem}:∀(t:E),RepE m t->∀x∈t.nodes,RepE m x
 | .node k x s g a c l,hr,z,hx=>by
  simp only[E.nodes,List.mem_cons]at hx
  rcases hx with rfl|hx
  ·exact hr
  ·simp only[RepE]at hr
   rcases hr.2.1 with h|⟨b,o,_,h⟩
   ·subst h;simp[Zao]at hx
   ·exact ZlE b o l h z hx
theorem ZlE{m:Mem}(b:Nat):∀(o:Nat)(l:List E),RepEAt m b o l->∀x∈Zao l,RepE m x
 | _,[],_,x,hx=>by simp[Zao]at hx
 | o,t::l,hr,x,hx=>by
  simp only[RepEAt]at hr
  simp only[Zao,List.mem_append]at hx
  rcases hx with hx|hx
  ·exact Zov t hr.2.1 x hx
  ·exact ZlE b (o+5) l hr.2.2 x hx
end
theorem ZlF{m:Mem}{t x:E}(h:RepE m t)(hx:x∈t.nodes):RepE m x:=Zov t h x hx
def ZxJ:Nat:=9221120237041090561
def Zgg(x:Nat):Nat:=if Op.floatEq .f64 x x then x else ZxJ
def Zs9(x y:Nat):Bool:=Zgg x == Zgg y
def Zfg(x:Nat):Bool:=Op.floatEq .f64 x x||x == ZxJ
def E.light(t:E):Bool:=decide (t.nodes.length<=10000)
def E.size(t:E):Int:=if t.light then t.nodes.length else 0
mutual
def E.same:E->E->Bool
 | .node k x s g _ _ l,.node k' x' s' g' _ _ l'=>k == k'&&(Zs9 x x'&&(s.toList == s'.toList&&(g == g'&&ZcB l l')))
def ZcB:List E->List E->Bool
 | [],[]=>true
 | t::l,t'::l'=>t.same t'&&ZcB l l'
 | _,_=>false
end
theorem ZvN(t u:E):t.same u=(t.k == u.k&&(Zs9 t.x u.x&&(t.s.toList == u.s.toList&&(t.g == u.g&&ZcB t.subs u.subs)))):=by
 cases t;cases u;simp only[E.same,E.k,E.x,E.s,E.g,E.subs]
theorem ZlG:∀{l r:List E},¬l.length=r.length->ZcB l r=false
 | [],[],h=>by simp at h
 | [],_::_,_=>by simp[ZcB]
 | _::_,[],_=>by simp[ZcB]
 | x::l,y::r,h=>by
  simp only[ZcB,ZlG (l:=l) (r:=r) (by simpa using h),Bool.and_false]
theorem Zow:∀{l r:List E} {i:Nat} {x y:E},l[i]?=some x->r[i]?=some y->x.same y=false->ZcB l r=false
 | [],r,i,x,y,h,_,_=>by simp at h
 | _::_,[],i,x,y,_,h,_=>by simp at h
 | a::l,b::r,0,x,y,h,k,e=>by
  simp at h k;subst h k
  simp[ZcB,e]
 | a::l,b::r,i+1,x,y,h,k,e=>by
  simp only[ZcB,Zow (l:=l) (r:=r) (i:=i) (by simpa using h) (by simpa using k) e,Bool.and_false]
theorem Zjr:∀{l r:List E} {i:Nat} {x y:E},l[i]?=some x->r[i]?=some y->ZcB (l.take i) (r.take i)=true->x.same y=true->ZcB (l.take (i+1)) (r.take (i+1))=true
 | [],r,i,x,y,h,_,_,_=>by simp at h
 | _::_,[],i,x,y,_,h,_,_=>by simp at h
 | a::l,b::r,0,x,y,h,k,_,e=>by
  simp at h k;subst h k
  simp[ZcB,e]
 | a::l,b::r,i+1,x,y,h,k,hs,e=>by
  simp only[List.take_succ_cons,ZcB,zA7]at hs ⊢
  exact⟨hs.1,Zjr (by simpa using h) (by simpa using k) hs.2 e⟩
def E.most(t:E):Int:=if t.light then t.nodes.foldl (λn x=>if x.k=10 then(if x.g > n then x.g else n)else n) (-1)else -1
mutual
def E.names:E->List ByteArray->List ByteArray
 | .node k _ s _ _ _ l,out=>if k=9 then(if out.any (λy=>y.toList == s.toList)then out else out++[s])else ZbA l out
def ZbA:List E->List ByteArray->List ByteArray
 | [],out=>out
 | t::l,out=>ZbA l (t.names out)
end
theorem Zox(t:E)(out:List ByteArray):t.names out=if t.k=9 then(if out.any (λy=>y.toList == t.s.toList)then out else out++[t.s])else ZbA t.subs out:=by
 cases t;simp only[E.names,E.k,E.s,E.subs];rfl
mutual
theorem Zry:∀(t:E)(out:List ByteArray),out.length<=(t.names out).length
 | .node k _ s _ _ _ l,out=>by
  simp only[E.names]
  split
  ·split <;> simp
  ·exact Zj1 l out
theorem Zj1:∀(l:List E)(out:List ByteArray),out.length<=(ZbA l out).length
 | [],out=>by simp[ZbA]
 | t::l,out=>by
  simp only[ZbA]
  exact Nat.le_trans (Zry t out) (Zj1 l _)
end
theorem ZlH(l r:List E)(out:List ByteArray):ZbA (l++r) out=ZbA r (ZbA l out):=by
 induction l generalizing out with
 | nil=>simp[ZbA]
 | cons t l ih=>simp only[List.cons_append,ZbA,ih]
theorem ZqA{l:List E}{i:Nat}{t:E}(h:l[i]?=some t)(out:List ByteArray):ZbA (l.take (i+1)) out=t.names (ZbA (l.take i) out):=by
 have:l.take (i+1)=l.take i++[t]:=by rw[List.take_add_one,h];rfl
 rw[this,ZlH];simp[ZbA]
theorem Zta{l:List E}{i:Nat}(out:List ByteArray):(ZbA (l.take i) out).length<=(ZbA l out).length:=by
 conv=>rhs;rw[<-List.take_append_drop i l,ZlH]
 exact Zj1 _ _
mutual
theorem Zf2:∀(t:E)(out:List ByteArray),(t.names out).length<=out.length+t.nodes.length
 | .node k _ s _ _ _ l,out=>by
  simp only[E.names,E.nodes,List.length_cons]
  split
  ·split
   ·omega
   ·rw[zA1,List.length_singleton];omega
  ·have:=Zg7 l out
   omega
theorem Zg7:∀(l:List E)(out:List ByteArray),(ZbA l out).length<=out.length+(Zao l).length
 | [],out=>by simp[ZbA]
 | t::l,out=>by
  simp only[ZbA,Zao,zA1]
  have:=Zf2 t out
  have:=Zg7 l (t.names out)
  omega
end
def E.vars(t:E):List ByteArray:=if t.light then t.names []else[]
theorem Zeh(s:ByteArray):s.data.toList.length=s.size:=by rw[Array.length_toList];rfl
theorem ZuS(s:ByteArray):∀(n i:Nat)(r:List UInt8),s.size - i=n->ByteArray.toList.loop s i r=r.reverse++s.data.toList.drop i
 | 0,i,r,h=>by
  rw[ByteArray.toList.loop,if_neg (by omega),List.drop_of_length_le (by have:=Zeh s;omega),List.append_nil]
 | n+1,i,r,h=>by
  have hs:=Zeh s
  have hi:i < s.size:=by omega
  rw[ByteArray.toList.loop,if_pos hi,ZuS s n (i+1) _ (by omega),List.reverse_cons,List.append_assoc]
  have hd:=List.drop_eq_getElem_cons (l:=s.data.toList) (i:=i) (by omega)
  rw[hd]
  have e:s.get! i=s.data.toList[i]'(by omega):=by
   rw[Array.getElem_toList]
   exact getElem!_pos s.data i hi
  rw[e];rfl
theorem baL(s:ByteArray):s.toList=s.data.toList:=by
 have:=ZuS s _ 0 [] rfl
 simpa[ByteArray.toList]using this
theorem Zcf(s:ByteArray):(s.toList == ByteArray.toList ⟨#[]⟩)=(s.size == 0):=by
 rw[baL,baL,<-Zeh]
 cases h:s.data.toList <;> simp[h] <;> rfl
theorem Zan{α:Type}{cs:α->List Value}{n:Nat}(hn:∀x,(cs x).length=n){m:Mem}{a:Option Addr}{L:List α}(h:rowRd m a (L.map cs).flatten){k:Nat}{t:α}(ht:L[k]?=some t)(h0:0 < n):∃b o,a=some ⟨b,o,none⟩/\m.reads b (o+k*n) (cs t):=by
 have aO:=(zA0 ht).1
 have len:∀l:List α,(l.map cs).flatten.length=l.length*n:=λl=>by
  induction l with
  | nil=>simp
  | cons x l ih=>rw[List.map_cons,List.flatten_cons,zA1,hn,ih,List.length_cons,Nat.succ_mul];omega
 have e:(L.map cs).flatten=((L.take k).map cs).flatten++(cs t++((L.drop (k+1)).map cs).flatten):=by
  have e1:L=L.take k++(t::L.drop (k+1)):=by
   have:=List.drop_eq_getElem_cons aO
   rw[(zA0 ht).2]at this
   rw[<-this,List.take_append_drop]
  conv=>lhs;rw[e1]
  rw[List.map_append,List.flatten_append,List.map_cons,List.flatten_cons]
 have hl:((L.take k).map cs).flatten.length=k*n:=by rw[len,List.length_take,Nat.min_eq_left (by omega)]
 rcases h with h|⟨b,o,ha,h⟩
 ·have:=congrArg List.length h
  rw[len,List.length_nil]at this
  have:0 < L.length*n:=Nat.mul_pos (by omega) h0
  omega
 ·refine⟨b,o,ha,λj v hj=>?_⟩
  have rO:=(zA0 hj).1
  have:=h (k*n+j) v (by rw[e,zA4 (by omega),hl,Nat.add_sub_cancel_left,zA5 rO];exact hj)
  rw[Nat.add_assoc];exact this
theorem Za3{α:Type}{cs:α->List Value}{n:Nat}(hn:∀x,(cs x).length=n)(l:List α):(l.map cs).flatten.length=l.length*n:=by
 induction l with
 | nil=>simp
 | cons x l ih=>rw[List.map_cons,List.flatten_cons,zA1,hn,ih,List.length_cons,Nat.succ_mul];omega
structure Pt where
 k:Int
 s:ByteArray
 g:Int
 e:E
def Pt.cs(p:Pt):List Value:=[.int .u8 p.k,.string p.s,.int .i64 p.g,.int .u8 p.e.k,.float .f64 p.e.x,.string p.e.s,.int .i64 p.e.g,.slice p.e.a p.e.subs.length p.e.c]
def Pt.v(p:Pt):Value:=.agg p.cs.toArray
structure Ac where
 k:Int
 s:ByteArray
 pa:Option Addr
 pc:Nat
 parts:List Pt
 e:E
def Ac.cs(a:Ac):List Value:=[.int .u8 a.k,.string a.s,.slice a.pa a.parts.length a.pc,.int .u8 a.e.k,.float .f64 a.e.x,.string a.e.s,.int .i64 a.e.g,.slice a.e.a a.e.subs.length a.e.c]
structure Ru where
 k:Int
 bg:Bool
 en:Bool
 t:T
 s:ByteArray
 n:Int
 aa:Option Addr
 ac:Nat
 acts:List Ac
 go:ByteArray
 code:Int
def Ru.cs(r:Ru):List Value:=[.int .u8 r.k,.bool r.bg,.bool r.en,.int .u8 r.t.k,.int .u64 r.t.s0,.int .u64 r.t.s1,.int .u64 r.t.s2,.int .u64 r.t.s3,.int .i64 r.t.mn,.int .i64 r.t.mx,.slice r.t.a r.t.subs.length r.t.c,.string r.s,.int .i64 r.n,.slice r.aa r.acts.length r.ac,.string r.go,.int .i64 r.code]
structure Sta where
 s:ByteArray
 ra:Option Addr
 rc:Nat
 rules:List Ru
def Sta.cs(x:Sta):List Value:=[.string x.s,.slice x.ra x.rules.length x.rc]
structure Va where
 s:ByteArray
 b:Bool
 t:ByteArray
 x:Nat
def Va.cs(v:Va):List Value:=[.string v.s,.bool v.b,.string v.t,.float .f64 v.x]
structure Sc where
 n:Int
 va:Option Addr
 vc:Nat
 vars:List Va
 sa:Option Addr
 sc:Nat
 states:List Sta
def Sc.cs(s:Sc):List Value:=[.int .i64 s.n,.slice s.va s.vars.length s.vc,.slice s.sa s.states.length s.sc]
def Sc.v(s:Sc):Value:=.agg #[.int .i64 s.n,.slice s.va s.vars.length s.vc,.slice s.sa s.states.length s.sc]
theorem Pt.len(p:Pt):p.cs.length=8:=rfl
theorem Ac.len(p:Ac):p.cs.length=8:=rfl
theorem Ru.len(p:Ru):p.cs.length=16:=rfl
theorem Sta.len(p:Sta):p.cs.length=2:=rfl
theorem Va.len(p:Va):p.cs.length=4:=rfl
def I64(n:Int):Prop:=-9223372036854775808<=n/\n<=9223372036854775807
def few:Nat:=100000
structure RepP (m:Mem)(p:Pt):Prop where
 k:0<=p.k/\p.k < 256
 s:p.s.size<=1000000000000000
 g:I64 p.g
 e:RepE m p.e
structure RepA (m:Mem)(a:Ac):Prop where
 k:0<=a.k/\a.k < 256
 s:a.s.size<=1000000000000000
 n:a.parts.length<=few
 row:rowRd m a.pa (a.parts.map Pt.cs).flatten
 all:∀p∈a.parts,RepP m p
 e:RepE m a.e
structure RepR (m:Mem)(r:Ru):Prop where
 k:0<=r.k/\r.k < 256
 t:Rep m r.t
 s:r.s.size<=1000000000000000
 n:I64 r.n
 len:r.acts.length<=few
 row:rowRd m r.aa (r.acts.map Ac.cs).flatten
 all:∀p∈r.acts,RepA m p
 go:r.go.size<=1000000000000000
 code:I64 r.code
structure RepS (m:Mem)(x:Sta):Prop where
 s:x.s.size<=1000000000000000
 len:x.rules.length<=few
 row:rowRd m x.ra (x.rules.map Ru.cs).flatten
 all:∀p∈x.rules,RepR m p
structure RepV (v:Va):Prop where
 s:v.s.size<=1000000000000000
 t:v.t.size<=1000000000000000
structure RepC (m:Mem)(s:Sc):Prop where
 n:I64 s.n
 vlen:s.vars.length<=few
 vrow:rowRd m s.va (s.vars.map Va.cs).flatten
 vall:∀v∈s.vars,RepV v
 len:s.states.length<=few
 row:rowRd m s.sa (s.states.map Sta.cs).flatten
 all:∀x∈s.states,RepS m x
 vcap:s.vars.length<=s.vc
 scap:s.states.length<=s.sc
section
variable {m m':Mem} (h:m.le m')
include h
theorem RepP.mono{p:Pt}(x:RepP m p):RepP m' p:=⟨x.k,x.s,x.g,RepE.mono h _ x.e⟩
theorem RepA.mono{p:Ac}(x:RepA m p):RepA m' p:=⟨x.k,x.s,x.n,x.row.mono h,λp hp=>(x.all p hp).mono h,RepE.mono h _ x.e⟩
theorem RepR.mono{p:Ru}(x:RepR m p):RepR m' p:=⟨x.k,x.t.mono h,x.s,x.n,x.len,x.row.mono h,λp hp=>(x.all p hp).mono h,x.go,x.code⟩
theorem RepS.mono{p:Sta}(x:RepS m p):RepS m' p:=⟨x.s,x.len,x.row.mono h,λp hp=>(x.all p hp).mono h⟩
theorem RepC.mono{p:Sc}(x:RepC m p):RepC m' p:=⟨x.n,x.vlen,x.vrow.mono h,x.vall,x.len,x.row.mono h,λp hp=>(x.all p hp).mono h,x.vcap,x.scap⟩
end
def nE(e:E):Int:=if e.light then e.size else 20001
def ZbF:List Int->Int
 | []=>0
 | x::l=>x+ZbF l
theorem Zj2(l r:List Int):ZbF (l++r)=ZbF l+ZbF r:=by
 induction l with
 | nil=>simp[ZbF]
 | cons x l ih=>simp only[List.cons_append,ZbF,ih];omega
theorem ZeF{α:Type}{l:List α}{i:Nat}{x:α}(f:α->Int)(h:l[i]?=some x):ZbF ((l.take (i+1)).map f)=ZbF ((l.take i).map f)+f x:=by
 rw[List.take_add_one,h,List.map_append,Zj2];simp[ZbF]
theorem Zfh{α:Type}(f:α->Int)(hf:∀x,0<=f x):∀l:List α,0<=ZbF (l.map f)
 | []=>by simp[ZbF]
 | x::l=>by
  have:=Zfh f hf l;have:=hf x
  simp only[List.map_cons,ZbF];omega
theorem Zj3{α:Type}(f:α->Int)(hf:∀x,0<=f x)(l:List α)(i:Nat):ZbF ((l.take i).map f)<=ZbF (l.map f):=by
 have e:ZbF (l.map f)=ZbF ((l.take i).map f)+ZbF ((l.drop i).map f):=by rw[<-Zj2,<-List.map_append,List.take_append_drop]
 have:=Zfh f hf (l.drop i)
 omega
def wA(a:Ac):Int:=1+nE a.e+a.parts.length+ZbF (a.parts.map λp=>nE p.e)
def wR(r:Ru):Int:=1+ZgG r.t.size 20000+(if r.t.light then 0 else 20001)+ZbF (r.acts.map wA)
theorem Zoy(e:E):0<=nE e/\nE e<=20001:=by
 unfold nE E.size E.light
 split
 ·rename_i h
  simp only[decide_eq_true_eq]at h
  first|omega|(rw[if_pos (by simpa using h)];omega)
 ·omega
theorem Zjs(t:T):0<=t.size/\t.size<=10001:=by
 unfold T.size T.light
 split
 ·rename_i h;simp only[decide_eq_true_eq]at h;omega
 ·omega
theorem ZxK(a:Ac):0<=wA a:=by
 have:=(Zoy a.e).1
 have:=Zfh (λp:Pt=>nE p.e) (λp=>(Zoy p.e).1) a.parts
 unfold wA;omega
theorem Zzb(r:Ru):0<=wR r:=by
 have:=Zfh wA ZxK r.acts
 have h1:=(Zjs r.t).1
 have:0<=ZgG r.t.size 20000:=by unfold ZgG;split <;> omega
 unfold wR;split <;> omega
def wS(x:Sta):Int:=ZbF (x.rules.map wR)
theorem ZAk(x:Sta):0<=wS x:=Zfh wR Zzb _
def Sc.weight(s:Sc):Int:=s.vars.length+s.states.length+ZbF (s.states.map wS)
def Sc.light(s:Sc):Bool:=decide (s.weight<=20000)
structure Pl where
 v:Int
 s:Int
 r:Int
 a:Int
 p:Int
deriving DecidableEq
def Pl.cs(p:Pl):List Value:=[.int .i64 p.v,.int .i64 p.s,.int .i64 p.r,.int .i64 p.a,.int .i64 p.p]
def top:Pl:=⟨-1,-1,-1,-1,-1⟩
def Zdv(n:Nat)(f:Nat->List Pl):List Pl:=(List.range n).flatMap f
def plA(i k m:Nat)(a:Ac):List Pl:=⟨-1,i,k,m,-1⟩::Zdv a.parts.length λn=>[⟨-1,i,k,m,n⟩]
def plR(i k:Nat)(r:Ru):List Pl:=⟨-1,i,k,-1,-1⟩::Zdv r.acts.length λm=>match r.acts[m]? with
 | some a=>plA i k m a
 | none=>[]
def plS(i:Nat)(x:Sta):List Pl:=⟨-1,i,-1,-1,-1⟩::Zdv x.rules.length λk=>match x.rules[k]? with
 | some r=>plR i k r
 | none=>[]
def Sc.places(s:Sc):List Pl:=if s.light then top::(Zdv s.vars.length (λi=>[⟨i,-1,-1,-1,-1⟩])++Zdv s.states.length λi=>match s.states[i]? with
 | some x=>plS i x
 | none=>[])else[]
def Zb9:List (Int×Bool)->Int
 | []=>0
 | (e,w)::l=>if w then e else Zb9 l
def ZbB(n a b:Int):Bool:=decide (n ≥ a)&&decide (n<=b)
def eqS(a b:ByteArray):Bool:=a.toList == b.toList
def Zw1(c:UInt8):Bool:=(decide (97<=c.toNat)&&decide (c.toNat<=122))||(decide (48<=c.toNat)&&decide (c.toNat<=57))||c.toNat == 95
def Zms:List ByteArray:=[⟨#[109,105,110]⟩,⟨#[109,97,120]⟩,⟨#[110,117,109]⟩]
def Zcq(s:ByteArray):Bool:=!(s.size == 0||decide (s.size > 16)||decide ((s.data.toList.getD 0 0).toNat < 97)||decide ((s.data.toList.getD 0 0).toNat > 122)||Zms.any λw=>eqS w s)&&s.data.toList.all Zw1
def Zcm(s:Sc)(name:ByteArray):Bool×Bool:=match s.vars.find? λv=>eqS v.s name with
 | some v=>(v.b,true)
 | none=>(false,false)
def Zcg(s:Sc)(e:E):Bool:=!e.vars.any λn=>!(Zcm s n).1
def ZlI(e:E):Bool:=e.light&&(E0.light&&e.same E0)
def ZlJ(k:Int):Int:=if k=1 then 1 else if 2<=k/\k<=7 then 2 else 0
def Zj4:List E->Bool
 | u::_=>u.k == 8
 | []=>false
def E.right(t:E):Bool:=!(t.k == 0)&&(decide (t.k<=10)&&((if t.k=9 then Zcq t.s else t.s.size == 0)&&((if t.k=8 then Zfg t.x else Zs9 t.x 0)&&((if t.k=10 then decide (t.g ≥ 0)&&decide (t.g<=9)else t.g == 0)&&((t.subs.length:Int) == ZlJ t.k&&!(t.k == 1&&(t.subs.length == 1&&Zj4 t.subs)))))))
def E.clean(t:E):Bool:=t.light&&t.nodes.all E.right
def Zg8(s:Sc):Int:=Zb9 [(300,!ZbB s.n 2 256),(302,!ZbB s.states.length 1 24||decide (s.vars.length > 12))]
def Zfi(v:Va):Bool:=if v.b then Zfg v.x&&v.t.size == 0 else v.x == 0&&decide (v.t.size<=512)
def ZcE(s:Sc)(i:Nat)(v:Va):Int:=Zb9 [(301,!Zcq v.s||(!Zfi v||(s.vars.take i).any λx=>eqS x.s v.s))]
def Zfj(s:Sc)(i:Nat)(x:Sta):Int:=Zb9 [(303,!Zcq x.s||(decide (x.rules.length > 12)||(s.states.take i).any λy=>eqS y.s x.s))]
def Zw2(r:Ru):Bool:=r.bg||(r.en||!(r.t.light&&(T0.light&&r.t.same T0)))
def ZaR(r:Ru):Bool:=if r.k=2 then !Zw2 r&&(r.n == 0&&ZbB r.s.size 1 64)else if r.k=4 then !Zw2 r&&(r.s.size == 0&&ZbB r.n 1 1000)else if r.k=3 then !Zw2 r&&(r.s.size == 0&&r.n == 0)else if r.k=1 then r.s.size == 0&&r.n == 0 else false
def ZbV(r:Ru):Int:=if r.k=1 then r.t.groups else if r.k=2 then 0 else -1
def ZgE(s:Sc)(name:ByteArray):Bool:=(s.states.any λx=>eqS x.s name)&&s.light
def ZgF(s:Sc)(r:Ru)(total:Int):Int:=Zb9 [(304,!ZaR r||decide (r.acts.length > 8)),(305,r.k == 1&&(!(r.t.check == 0)||decide (total > 600))),
 (306,if r.go.size=0 then !ZbB r.code 0 255 else !ZgE s r.go||!(r.code == 0))]
def ZbS(s:Sc)(r:Ru)(a:Ac):Int:=Zb9 [(307,!ZbB a.k 1 3||(a.k == 1&&!(a.s.size == 0))||(a.k == 3&&decide (a.parts.length > 0))||(a.k == 3&&!a.e.clean)||(!(a.k == 3)&&!ZlI a.e)||decide (a.parts.length > 16)),
 (308,(!(a.k == 1)&&(!(Zcm s a.s).2||!((Zcm s a.s).1 == (a.k == 3))))||(a.k == 3&&!Zcg s a.e)),(309,a.k == 3&&decide (a.e.most > ZbV r))]
def Zbg(p:Pt):Bool:=if p.k=1 then decide (p.s.size > 0)&&(decide (p.s.size<=512)&&(p.g == 0&&ZlI p.e))else if p.k=2 then Zcq p.s&&(p.g == 0&&ZlI p.e)else if p.k=3 then decide (p.g ≥ 0)&&(decide (p.g<=9)&&(p.s.size == 0&&ZlI p.e))else if p.k=4 then p.e.clean&&(p.s.size == 0&&p.g == 0)else false
def Zfk(s:Sc)(r:Ru)(l:List Pt)(i:Nat)(p:Pt):Int:=Zb9 [(307,!Zbg p||(decide (i > 0)&&(p.k == 1&&(match l[i - 1]? with
 | some q=>q.k == 1
 | none=>false)))),(308,(p.k == 2&&!(Zcm s p.s).2)||(p.k == 4&&!Zcg s p.e)),(309,(p.k == 3&&decide (p.g > ZbV r))||(p.k == 4&&decide (p.e.most > ZbV r)))]
def sizeR(r:Ru):Int:=if r.k=1 then r.t.size else 0
def totals(s:Sc)(i k:Nat):Int:=ZbF ((s.states.take i).map λx=>ZbF (x.rules.map sizeR))+(match s.states[i]? with
 | some x=>ZbF ((x.rules.take (k+1)).map sizeR)
 | none=>0)
def atS(s:Sc)(p:Pl):Int:=if p.v ≥ 0 then(match s.vars[p.v.toNat]? with
  | some v=>ZcE s p.v.toNat v
  | none=>0)else if p.s < 0 then Zg8 s else match s.states[p.s.toNat]? with
  | none=>0
  | some x=>if p.r < 0 then Zfj s p.s.toNat x else match x.rules[p.r.toNat]? with
   | none=>0
   | some r=>if p.a < 0 then ZgF s r (totals s p.s.toNat p.r.toNat)else match r.acts[p.a.toNat]? with
    | none=>0
    | some a=>if p.p < 0 then ZbS s r a else match a.parts[p.p.toNat]? with
     | none=>0
     | some q=>Zfk s r a.parts p.p.toNat q
def Sc.problems(s:Sc):List (Pl×Int):=s.places.filterMap λp=>if atS s p=0 then none else some (p,atS s p)
def Sc.check(s:Sc):Pl×Int:=if s.light then(match s.problems with
 | p::_=>p
 | []=>(top,0))else(top,5)
theorem Zca(n:Nat)(f:Nat->List Pl):Zdv (n+1) f=Zdv n f++f n:=by simp[Zdv,List.range_succ,List.flatMap_append]
theorem Zrz{i n:Nat}(h:i<=n)(f:Nat->List Pl):(Zdv i f).length<=(Zdv n f).length:=by
 induction n with
 | zero=>
  obtain rfl:i=0:=by omega
  exact Nat.le_refl _
 | succ n ih=>
  by_cases e:i=n+1
  ·rw[e];exact Nat.le_refl _
  ·have:=ih (by omega)
   rw[Zca,zA1];omega
theorem Zf3(n:Nat)(f:Nat->Pl):(Zdv n λi=>[f i]).length=n:=by
 induction n with
 | zero=>rfl
 | succ n ih=>rw[Zca,zA1,ih];rfl
theorem Znr{α:Type}(l:List α)(F:Nat->List Pl)(g:Nat->α->List Pl)(w:α->Int)(hF:∀i x,l[i]?=some x->F i=g i x)(hw:∀i x,x∈l->((g i x).length:Int)<=w x):∀k,k<=l.length->((Zdv k F).length:Int)<=ZbF ((l.take k).map w):=by
 intro k
 induction k with
 | zero=>intro _;simp[Zdv,ZbF]
 | succ k ih=>
  intro hk
  have:=ih (by omega)
  have hx:l[k]?=some l[k]:=zA3 (by omega)
  have h2:=hw k l[k] (List.getElem_mem _)
  rw[Zca,zA1,ZeF w hx,hF k _ hx]
  push_cast
  omega
def Hf(i k:Nat)(r:Ru)(m:Nat):List Pl:=match r.acts[m]? with
 | some a=>plA i k m a
 | none=>[]
def Gf(i:Nat)(x:Sta)(k:Nat):List Pl:=match x.rules[k]? with
 | some r=>plR i k r
 | none=>[]
def Ff(s:Sc)(i:Nat):List Pl:=match s.states[i]? with
 | some x=>plS i x
 | none=>[]
def Pf(i k m n:Nat):List Pl:=[⟨-1,i,k,m,n⟩]
def Vf(i:Nat):List Pl:=[⟨i,-1,-1,-1,-1⟩]
theorem Ztb(i k m:Nat)(a:Ac):plA i k m a=⟨-1,i,k,m,-1⟩::Zdv a.parts.length (Pf i k m):=rfl
theorem Ztc(i k:Nat)(r:Ru):plR i k r=⟨-1,i,k,-1,-1⟩::Zdv r.acts.length (Hf i k r):=rfl
theorem Ztd(i:Nat)(x:Sta):plS i x=⟨-1,i,-1,-1,-1⟩::Zdv x.rules.length (Gf i x):=rfl
theorem Zj5{s:Sc}(h:s.light=true):s.places=top::(Zdv s.vars.length Vf++Zdv s.states.length (Ff s)):=by unfold Sc.places;rw[if_pos h];rfl
theorem ZlK(s:Sc):s.places.length<=20001:=by
 cases h:s.light with
 | false=>unfold Sc.places;rw[h];simp
 | true=>
  have hw:s.weight<=20000:=by unfold Sc.light at h;exact zA6 h
  rw[Zj5 h,List.length_cons,zA1]
  have h1:(Zdv s.vars.length Vf).length=s.vars.length:=Zf3 _ _
  have hA:∀i k m (a:Ac),((plA i k m a).length:Int)<=wA a:=λi k m a=>by
   rw[Ztb,List.length_cons,show(Zdv a.parts.length (Pf i k m)).length=a.parts.length from Zf3 _ _]
   have:=(Zoy a.e).1
   have:=Zfh (λp:Pt=>nE p.e) (λp=>(Zoy p.e).1) a.parts
   unfold wA;push_cast;omega
  have hR:∀i k (r:Ru),((plR i k r).length:Int)<=wR r:=λi k r=>by
   rw[Ztc,List.length_cons]
   have:=Znr r.acts (Hf i k r) (plA i k) wA (λm a h=>by unfold Hf;rw[h]) (λj x _=>hA i k j x) r.acts.length (Nat.le_refl _)
   rw[List.take_length]at this
   have h1:=(Zjs r.t).1
   have h2:0<=ZgG r.t.size 20000:=by unfold ZgG;split <;> omega
   have h3:((Zdv r.acts.length (Hf i k r)).length:Int)<=ZbF (r.acts.map wA):=this
   unfold wR;push_cast;split <;> omega
  have hS:∀i (x:Sta),((plS i x).length:Int)<=1+wS x:=λi x=>by
   rw[Ztd,List.length_cons]
   have:=Znr x.rules (Gf i x) (plR i) wR (λm a h=>by unfold Gf;rw[h]) (λj x _=>hR i j x) x.rules.length (Nat.le_refl _)
   rw[List.take_length]at this
   have h3:((Zdv x.rules.length (Gf i x)).length:Int)<=ZbF (x.rules.map wR):=this
   unfold wS;push_cast;omega
  have:=Znr s.states (Ff s) plS (λx=>1+wS x) (λm a h=>by unfold Ff;rw[h]) (λj x _=>hS j x) s.states.length (Nat.le_refl _)
  rw[List.take_length]at this
  have h3:((Zdv s.states.length (Ff s)).length:Int)<=ZbF (s.states.map λx=>1+wS x):=this
  have h4:∀l:List Sta,ZbF (l.map λx=>1+wS x)=l.length+ZbF (l.map wS):=λl=>by
   induction l with
   | nil=>rfl
   | cons x l ih=>simp only[List.map_cons,ZbF,ih,List.length_cons];push_cast;omega
  rw[h4]at h3
  unfold Sc.weight at hw
  omega
theorem Zh7{n:Nat}{f:Nat->List Pl}{p:Pl}(h:p∈Zdv n f):∃i,i < n/\p∈f i:=by
 unfold Zdv at h
 obtain⟨i,hi,hp⟩:=List.mem_flatMap.1 h
 exact⟨i,List.mem_range.1 hi,hp⟩
def ZBu(s:Sc)(p:Pl):Prop:=(∃i:Nat,p.v=i/\∃v,s.vars[i]?=some v)\/(p.v < 0/\(p.s < 0\/∃i:Nat,p.s=i/\∃x,s.states[i]?=some x/\(p.r < 0\/∃k:Nat,p.r=k/\∃r,x.rules[k]?=some r/\(p.a < 0\/∃j:Nat,p.a=j/\∃a,r.acts[j]?=some a/\(p.p < 0\/∃n:Nat,p.p=n/\∃q,a.parts[n]?=some q)))))
theorem Zzz:(-1:Int) < 0:=by decide
theorem Zw3{α:Type}{l:List α}{n:Nat}(h:n < l.length):∃c,l[n]?=some c:=⟨_,zA3 h⟩
theorem Zj6(s:Sc):∀p∈s.places,ZBu s p:=by
 intro p hp
 cases h:s.light with
 | false=>unfold Sc.places at hp;rw[h]at hp;simp at hp
 | true=>
  rw[Zj5 h]at hp
  rcases List.mem_cons.1 hp with rfl|hp
  ·exact .inr ⟨by decide,.inl (by decide)⟩
  rcases List.mem_append.1 hp with hp|hp
  ·obtain⟨i,hi,hp⟩:=Zh7 hp
   obtain rfl:p=⟨i,-1,-1,-1,-1⟩:=by simpa[Vf]using hp
   exact .inl ⟨i,rfl,Zw3 hi⟩
  ·obtain⟨i,hi,hp⟩:=Zh7 hp
   obtain⟨x,hx⟩:=Zw3 hi
   have hp:p∈plS i x:=by unfold Ff at hp;rw[hx]at hp;exact hp
   rw[Ztd]at hp
   rcases List.mem_cons.1 hp with rfl|hp
   ·exact .inr ⟨Zzz,.inr ⟨i,rfl,x,hx,.inl (Zzz)⟩⟩
   obtain⟨k,hk,hp⟩:=Zh7 hp
   obtain⟨r,hr⟩:=Zw3 hk
   have hp:p∈plR i k r:=by unfold Gf at hp;rw[hr]at hp;exact hp
   rw[Ztc]at hp
   rcases List.mem_cons.1 hp with rfl|hp
   ·exact .inr ⟨Zzz,.inr ⟨i,rfl,x,hx,.inr ⟨k,rfl,r,hr,.inl (Zzz)⟩⟩⟩
   obtain⟨j,hj,hp⟩:=Zh7 hp
   obtain⟨a,ha⟩:=Zw3 hj
   have hp:p∈plA i k j a:=by unfold Hf at hp;rw[ha]at hp;exact hp
   rw[Ztb]at hp
   rcases List.mem_cons.1 hp with rfl|hp
   ·exact .inr ⟨Zzz,.inr ⟨i,rfl,x,hx,.inr ⟨k,rfl,r,hr,.inr ⟨j,rfl,a,ha,.inl (Zzz)⟩⟩⟩⟩
   obtain⟨n,hn,hp⟩:=Zh7 hp
   obtain rfl:p=⟨-1,i,k,j,n⟩:=by simpa[Pf]using hp
   exact .inr ⟨Zzz,.inr ⟨i,rfl,x,hx,.inr ⟨k,rfl,r,hr,.inr ⟨j,rfl,a,ha,.inr ⟨n,rfl,Zw3 hn⟩⟩⟩⟩⟩
end Go.Rx
namespace Go.Rx
open Go Go.Eng Go.RowKit
def T.good(t:T):Bool:=t.nodes.all T.right
def isG(t:T):Bool:=t.k == 6
theorem ZlL(p:T->Bool):∀l:List T,(Zaz l).all p=l.all λt=>t.nodes.all p
 | []=>rfl
 | t::l=>by simp only[Zaz,List.all_append,List.all_cons,ZlL p l]
theorem Zoz(t:T):t.good=(t.right&&t.subs.all T.good):=by
 unfold T.good;rw[Zcy,List.all_cons,ZlL]
def grL(l:List T):Nat:=(Zaz l).countP isG
def szL(l:List T):Nat:=(Zaz l).length
def T.gr(t:T):Nat:=t.nodes.countP isG
theorem ZaD(l r:List T):szL (l++r)=szL l+szL r:=by unfold szL;rw[Zc3,zA1]
theorem Zbv(l r:List T):grL (l++r)=grL l+grL r:=by unfold grL;rw[Zc3,List.countP_append]
theorem Zbf(t:T):szL [t]=t.nodes.length:=by simp[szL,Zaz]
theorem Zc4(t:T):grL [t]=t.gr:=by simp[grL,Zaz,T.gr]
theorem ZcA(t:T):ZeD [t]=t.pos:=by simp[ZeD]
theorem ZeG(t:T)(l:List T):szL (t::l)=t.nodes.length+szL l:=by simp[szL,Zaz]
theorem ZrA(t:T)(l:List T):grL (t::l)=t.gr+grL l:=by simp[grL,Zaz,T.gr,List.countP_append]
theorem Zj7(t:T):t.nodes.length=1+szL t.subs:=by rw[Zcy,List.length_cons,szL];omega
theorem Zw4(t:T):t.gr=(if isG t=true then 1 else 0)+grL t.subs:=by
 unfold T.gr;rw[Zcy,List.countP_cons,grL];omega
theorem ZoA(l:List T):l.length<=szL l:=by
 induction l with
 | nil=>simp
 | cons t l ih=>rw[ZeG,Zj7,List.length_cons];omega
def ZaW(k:Int)(t:T):List T:=if t.k=k then t.subs else if k=3/\t.k=1 then[]else[t]
def Zfl(k:Int)(a:Option Addr)(c:Nat):List T->T
 | []=>T1
 | [x]=>x
 | x::y::l=>Zb8 k 0 0 a c (x::y::l)
theorem Zj8{t:T}{k:Int}(h:t.has k=false):∀x∈t.subs,x.k≠k:=by
 intro x hx e
 unfold T.has at h
 have:=List.any_eq_false.1 h x hx
 simp[e]at this
theorem ZvO{t:T}{k:Int}(h:∀x∈t.subs,x.k≠k):t.has k=false:=by
 unfold T.has
 rw[List.any_eq_false]
 intro x hx
 have:=h x hx
 simpa using this
theorem Zj9{k:Int}{t:T}(hk:k=3\/k=4)(hg:t.good=true)(hp:t.pos<=10000):(∀x∈ZaW k t,x.good=true/\x.k≠k/\(k=3->x.k≠1))/\szL (ZaW k t)<=t.nodes.length/\grL (ZaW k t)<=t.gr/\ZeD (ZaW k t)<=t.pos:=by
 have hg':=hg
 rw[Zoz,zA7,List.all_eq_true]at hg'
 unfold ZaW
 split
 ·rename_i dJ
  refine⟨λx hx=>⟨hg'.2 x hx,?_⟩,by rw[Zj7];omega,by rw[Zw4];omega,?_⟩
  ·have hr:=hg'.1
   unfold T.right at hr
   rw[zA7]at hr
   have hr:=hr.2
   rcases hk with rfl|rfl
   ·simp only[dJ]at hr
    simp at hr
    exact⟨Zj8 hr.2.2 x hx,λ_=>Zj8 hr.2.1 x hx⟩
   ·simp only[dJ]at hr
    simp at hr
    exact⟨Zj8 hr.2 x hx,λh=>by omega⟩
  ·rw[Zqx]at hp ⊢
   have h5:¬t.k=5:=by omega
   have h2:¬t.k=2:=by omega
   unfold ZwZ at hp ⊢
   rw[if_neg h5,if_neg h2,Int.zero_add]at hp ⊢
   unfold ZgG at hp ⊢
   split at hp
   ·omega
   ·split <;> omega
 ·rename_i dJ
  split
  ·refine⟨λx hx=>by simp at hx,by simp[szL,Zaz],by simp[grL,Zaz],?_⟩
   simp only[ZeD];exact(Zio t).1
  ·rename_i vJ
   refine⟨λx hx=>?_,by rw[Zbf];exact Nat.le_refl _,by rw[Zc4];exact Nat.le_refl _,by rw[ZcA];exact Int.le_refl _⟩
   simp at hx;subst hx
   exact⟨hg,dJ,λh=>λh1=>vJ ⟨h,h1⟩⟩
theorem ZoB{k:Int}(hk:k=3\/k=4)(a:Option Addr)(c:Nat):∀{l:List T},(∀x∈l,x.good=true/\x.k≠k/\(k=3->x.k≠1))->(Zfl k a c l).good=true/\(Zfl k a c l).nodes.length<=1+szL l/\(Zfl k a c l).gr<=grL l/\(Zfl k a c l).pos<=ZeD l
 | [],_=>⟨show T1.good=true by decide,show T1.nodes.length<=1 by decide,show T1.gr<=0 by decide,show T1.pos<=0 by decide⟩
 | [x],h=>by
  rw[Zbf,Zc4,ZcA]
  exact⟨(h x (by simp)).1,by show x.nodes.length<=_;omega,Nat.le_refl _,Int.le_refl _⟩
 | x::y::l,h=>by
  show(Zb8 k 0 0 a c (x::y::l)).good=true/\(Zb8 k 0 0 a c (x::y::l)).nodes.length<=_/\(Zb8 k 0 0 a c (x::y::l)).gr<=_/\(Zb8 k 0 0 a c (x::y::l)).pos<=_
  have hs:(Zb8 k 0 0 a c (x::y::l)).subs=x::y::l:=rfl
  have dJ:(Zb8 k 0 0 a c (x::y::l)).k=k:=rfl
  have hz:(Zb8 k 0 0 a c (x::y::l)).setZ=true:=rfl
  have tI:(Zb8 k 0 0 a c (x::y::l)).mn=0:=rfl
  have lQ:(Zb8 k 0 0 a c (x::y::l)).mx=0:=rfl
  refine⟨?_,by rw[Zj7,hs];exact Nat.le_refl _,?_,?_⟩
  ·rw[Zoz,zA7,List.all_eq_true,hs]
   refine⟨?_,λz hz=>(h z hz).1⟩
   have h1:k=3->(Zb8 k 0 0 a c (x::y::l)).has 1=false:=λe=>ZvO λz hz=>(h z hz).2.2 e
   have h2:(Zb8 k 0 0 a c (x::y::l)).has k=false:=ZvO λz hz=>(h z hz).2.1
   unfold T.right
   rw[dJ,hz,tI,lQ,hs]
   rcases hk with rfl|rfl
   ·simp[h1 rfl,h2]
   ·simp[h2]
  ·rw[Zw4,hs,isG,dJ]
   rcases hk with rfl|rfl <;> simp
  ·rw[Zqx,dJ,tI,lQ,hs]
   unfold ZwZ
   rw[if_neg (by omega),if_neg (by omega),Int.zero_add]
   exact(ZlB _ _).1
structure J (i:Nat)(ts:List T)(u g:Nat):Prop where
 good:∀t∈ts,t.good=true
 sz:szL ts<=i
 pos:ZeD ts<=(i*u:Nat)
 u1:1<=u
 u16:u<=16
 gr:grL ts<=g
 g9:g<=9
theorem J.zero:J 0 [] 1 0:=⟨by simp,by simp[szL,Zaz],by simp[ZeD],by omega,by omega,by simp[grL,Zaz],by omega⟩
theorem J.skip{i ts u g}(h:J i ts u g):J (i+1) ts u g:=
 ⟨h.good,by have:=h.sz;omega,by have:=h.pos;have e:(i+1)*u=i*u+u:=Nat.succ_mul i u;rw[e];omega,h.u1,h.u16,h.gr,h.g9⟩
theorem J.push{i ts u g}(h:J i ts u g){t:T}(hg:t.good=true)(hs:t.nodes.length=1)(hp:t.pos<=1)(hr:t.gr=0):J (i+1) (ts++[t]) u g:=by
 refine⟨λx hx=>?_,?_,?_,h.u1,h.u16,?_,h.g9⟩
 ·rcases List.mem_append.1 hx with hx|hx
  ·exact h.good x hx
  ·simp at hx;subst hx;exact hg
 ·rw[ZaD,Zbf,hs];have:=h.sz;omega
 ·rw[Za8,ZcA];have:=h.pos;have:=h.u1;have e:(i+1)*u=i*u+u:=Nat.succ_mul i u;rw[e];omega
 ·rw[Zbv,Zc4,hr];have:=h.gr;omega
theorem J.pos400{i ts u g}(h:J i ts u g)(hi:i<=25):ZeD ts<=400:=by
 have h1:=h.pos
 have:i*u<=25*16:=Nat.mul_le_mul hi h.u16
 omega
theorem J.join{i ts u g}{x y:T}(h:J i (ts++[x,y]) u g)(hi:i<=25){k:Int}(hk:k=3\/k=4)(a:Option Addr)(c:Nat):J (i+1) (ts++[Zfl k a c (ZaW k x++ZaW k y)]) u g:=by
 have h4:=h.pos400 hi
 have hz:=h.sz
 have hp:=h.pos
 have ma:=h.gr
 rw[show ts++[x,y]=ts++([x]++[y]) from rfl]at h4 hz hp ma
 rw[Za8,Za8,ZcA,ZcA]at h4 hp
 rw[ZaD,ZaD,Zbf,Zbf]at hz
 rw[Zbv,Zbv,Zc4,Zc4]at ma
 have n1:=Zg6 ts
 have n2:=(Zio x).1
 have n3:=(Zio y).1
 obtain⟨a1,a2,a3,a4⟩:=Zj9 hk (h.good x (by simp)) (by omega)
 obtain⟨b1,b2,b3,b4⟩:=Zj9 hk (h.good y (by simp)) (by omega)
 obtain⟨c1,c2,c3,c4⟩:=ZoB hk a c (l:=ZaW k x++ZaW k y) (λz hz=>by
  rcases List.mem_append.1 hz with hz|hz
  ·exact a1 z hz
  ·exact b1 z hz)
 rw[ZaD]at c2
 rw[Zbv]at c3
 rw[Za8]at c4
 refine⟨λz hz=>?_,?_,?_,h.u1,h.u16,?_,h.g9⟩
 ·rcases List.mem_append.1 hz with hz|hz
  ·exact h.good z (by simp[hz])
  ·simp at hz;subst hz;exact c1
 ·rw[ZaD,Zbf];omega
 ·rw[Za8,ZcA];have e:(i+1)*u=i*u+u:=Nat.succ_mul i u;rw[e];omega
 ·rw[Zbv,Zc4];omega
theorem J.group{i ts u g}{x:T}(h:J i (ts++[x]) u g)(hg:g < 9)(a:Option Addr)(c:Nat):J (i+1) (ts++[Zb8 6 0 0 a c [x]]) u (g+1):=by
 have hz:=h.sz
 have hp:=h.pos
 have ma:=h.gr
 rw[Za8,ZcA]at hp
 rw[ZaD,Zbf]at hz
 rw[Zbv,Zc4]at ma
 have hs:(Zb8 6 0 0 a c [x]).subs=[x]:=rfl
 refine⟨λz hz=>?_,?_,?_,h.u1,h.u16,?_,by omega⟩
 ·rcases List.mem_append.1 hz with hz|hz
  ·exact h.good z (by simp[hz])
  ·simp at hz;subst hz
   rw[Zoz,zA7,List.all_eq_true]
   refine⟨rfl,λz hz=>?_⟩
   rw[hs]at hz;simp at hz;subst hz
   exact h.good z (by simp)
 ·rw[ZaD,Zbf,Zj7,hs,Zbf];omega
 ·rw[Za8,ZcA,Zqx,hs,ZcA]
  have:ZwZ (Zb8 6 0 0 a c [x]).k (Zb8 6 0 0 a c [x]).mn (Zb8 6 0 0 a c [x]).mx ((if(Zb8 6 0 0 a c [x]).k=2 then 1 else 0)+x.pos)<=x.pos:=by
   show ZgG (if(6:Int)=5 then _ else(if(6:Int)=2 then 1 else 0)+x.pos) 10001<=_
   rw[if_neg (by omega),if_neg (by omega),Int.zero_add]
   exact(ZlB _ _).1
  have e:(i+1)*u=i*u+u:=Nat.succ_mul i u
  rw[e];omega
 ·rw[Zbv,Zc4,Zw4,hs,Zc4]
  split <;> omega
theorem J.rep{i ts u g}{x:T}(h:J i (ts++[x]) u g)(hx:x.k≠1){mn mx:Int}(hb:ZjY mn mx=true){w:Nat}(hw:ZvL mn mx<=w)(h1:1<=w)(hu:u*w<=16)(a:Option Addr)(c:Nat):J (i+1) (ts++[Zb8 5 mn mx a c [x]]) (u*w) g:=by
 have hz:=h.sz
 have hp:=h.pos
 have ma:=h.gr
 rw[Za8,ZcA]at hp
 rw[ZaD,Zbf]at hz
 rw[Zbv,Zc4]at ma
 have hs:(Zb8 5 mn mx a c [x]).subs=[x]:=rfl
 have n1:=Zg6 ts
 have n2:=(Zio x).1
 refine⟨λz hz=>?_,?_,?_,?_,hu,?_,h.g9⟩
 ·rcases List.mem_append.1 hz with hz|hz
  ·exact h.good z (by simp[hz])
  ·simp at hz;subst hz
   rw[Zoz,zA7,List.all_eq_true]
   refine⟨?_,λz hz=>?_⟩
   ·have hh:(Zb8 5 mn mx a c [x]).has 1=false:=ZvO λz hz=>by rw[hs]at hz;simp at hz;subst hz;exact hx
    unfold T.right
    rw[hh,hs,show(Zb8 5 mn mx a c [x]).k=5 from rfl,show(Zb8 5 mn mx a c [x]).setZ=true from rfl,show(Zb8 5 mn mx a c [x]).mn=mn from rfl,show(Zb8 5 mn mx a c [x]).mx=mx from rfl,hb]
    simp
   ·rw[hs]at hz;simp at hz;subst hz
    exact h.good z (by simp)
 ·rw[ZaD,Zbf,Zj7,hs,Zbf];omega
 ·rw[Za8,ZcA,Zqx,hs,ZcA]
  have key:ZwZ (Zb8 5 mn mx a c [x]).k (Zb8 5 mn mx a c [x]).mn (Zb8 5 mn mx a c [x]).mx ((if(Zb8 5 mn mx a c [x]).k=2 then 1 else 0)+x.pos)<=x.pos*w:=by
   show ZgG (if(5:Int)=5 then((if(5:Int)=2 then 1 else 0)+x.pos)*ZvL mn mx else _) 10001<=_
   rw[if_pos rfl,if_neg (by omega),Int.zero_add]
   exact Int.le_trans (ZlB _ _).1 (Int.mul_le_mul_of_nonneg_left hw n2)
  have k2:ZeD ts<=ZeD ts*w:=by
   have:=Int.mul_le_mul_of_nonneg_left (show(1:Int)<=w by omega) n1
   rw[Int.mul_one]at this;exact this
  have k3:(ZeD ts+x.pos)*w<=((i*u:Nat):Int)*w:=Int.mul_le_mul_of_nonneg_right hp (by omega)
  rw[Int.add_mul]at k3
  have e:(i+1)*(u*w)=i*u*w+u*w:=by rw[Nat.succ_mul,Nat.mul_assoc]
  have e2:(((i*u:Nat):Int)*w)=((i*u*w:Nat):Int):=by push_cast;rfl
  rw[e2]at k3
  rw[e]
  generalize i*u*w=A at *
  generalize u*w=B at *
  generalize ZeD ts*(w:Int)=D at *
  generalize x.pos*(w:Int)=F at *
  omega
 ·have:=Nat.mul_le_mul h.u1 h1;omega
 ·rw[Zbv,Zc4,Zw4,hs,Zc4,isG,show(Zb8 5 mn mx a c [x]).k=5 from rfl]
  simp;omega
structure F (t:T)(l:List T):Prop where
 good:t.good=true
 goods:∀x∈l,x.good=true
 sz:t.nodes.length+szL l+l.length<=60
 pos:t.pos+ZeD l<=400
 gr:t.gr+grL l<=9
theorem F.start{i u g}{t:T}{l:List T}(h:J i (t::l) u g)(hi:i<=25):F t l:=by
 have h1:=h.sz
 have h2:=h.pos400 hi
 have h3:=h.gr
 rw[ZeG]at h1
 rw[ZrA]at h3
 have:=ZoA l
 have:=h.g9
 exact⟨h.good t (by simp),λx hx=>h.good x (by simp[hx]),by omega,by simpa[ZeD]using h2,by omega⟩
theorem F.step{t x:T}{l:List T}(h:F t (x::l))(a:Option Addr)(c:Nat):F (Zfl 4 a c (ZaW 4 t++ZaW 4 x)) l:=by
 have h1:=h.sz
 have h2:=h.pos
 have h3:=h.gr
 rw[ZeG,List.length_cons]at h1
 rw[ZrA]at h3
 simp only[ZeD]at h2
 have n1:=Zg6 l
 have n2:=(Zio x).1
 have n3:=(Zio t).1
 obtain⟨a1,a2,a3,a4⟩:=Zj9 (.inr rfl) h.good (by omega) (t:=t)
 obtain⟨b1,b2,b3,b4⟩:=Zj9 (.inr rfl) (h.goods x (by simp)) (by omega)
 obtain⟨c1,c2,c3,c4⟩:=ZoB (.inr rfl) a c (l:=ZaW 4 t++ZaW 4 x) (λz hz=>by
  rcases List.mem_append.1 hz with hz|hz
  ·exact a1 z hz
  ·exact b1 z hz)
 rw[ZaD]at c2
 rw[Zbv]at c3
 rw[Za8]at c4
 exact⟨c1,λz hz=>h.goods z (by simp[hz]),by omega,by omega,by omega⟩
theorem F.done{t:T}{l:List T}(h:F t l):t.check=0:=by
 have h1:=h.sz
 have h2:=h.pos
 have h3:=h.gr
 have n1:=Zg6 l
 have hl:t.light=true:=by unfold T.light;exact decide_eq_true (by omega)
 have hc:t.clean=true:=by unfold T.clean;rw[hl];exact h.good
 have hg:((t.nodes.countP λx=>x.k == 6:Nat))=t.gr:=rfl
 unfold T.check
 rw[hc]
 unfold T.size T.positions T.groups
 rw[hl,hg]
 simp only[if_true,Bool.true_eq_false,if_false]
 rw[if_neg (by omega),if_neg (by omega),if_neg (by omega)]
theorem ZrB(n:Nat):(Zj0 (Zdo n)).good=true/\(Zj0 (Zdo n)).nodes.length=1/\(Zj0 (Zdo n)).pos<=1/\(Zj0 (Zdo n)).gr=0:=by
 have h:n % 12=0\/n % 12=1\/n % 12=2\/n % 12=3\/n % 12=4\/n % 12=5\/n % 12=6\/n % 12=7\/n % 12=8\/n % 12=9\/n % 12=10\/n % 12=11:=by omega
 unfold Zdo
 rcases h with e|e|e|e|e|e|e|e|e|e|e|e <;> rw[e] <;> exact⟨by decide,by decide,by decide,by decide⟩
theorem ZxL:T1.good=true/\T1.nodes.length=1/\T1.pos<=1/\T1.gr=0:=⟨by decide,by decide,by decide,by decide⟩
theorem Zei{k:Int}{t:T}:(ZaW k t).length<=t.nodes.length:=by
 unfold ZaW
 have:=ZuO t
 have:=Zj7 t
 split
 ·omega
 ·split <;> simp <;> omega
end Go.Rx
namespace Go.Rx
open Go Go.Eng
set_option maxRecDepth 100000
def Zjy:List ByteArray:=[⟨#[120]⟩,⟨#[121]⟩,⟨#[122,95,49]⟩,⟨#[97,98,99,100,101,102,103,104,105,106,107,108,109,110,111,112]⟩]
def ZeY:List ByteArray:=[⟨#[115]⟩,⟨#[116]⟩]
def Zw8:List ByteArray:=[⟨#[97]⟩,⟨#[98]⟩,⟨#[99]⟩,⟨#[100]⟩]
def okN(c:Int)(x:E):Prop:=x.right=true/\(x.k=9->x.s∈Zjy)/\(x.k=10->x.g<=c)
structure MkE (c:Int)(n:Nat)(e:E):Prop where
 all:∀x∈e.nodes,okN c x
 len:e.nodes.length<=n
def ZAl(x:Nat):E:=.node 8 x .empty 0 none 0 []
def ZyM(s:ByteArray):E:=.node 9 0 s 0 none 0 []
def ZAU(g:Int):E:=.node 10 0 .empty g none 0 []
def ZyN(a:Option Addr)(c:Nat)(x:E):E:=.node 1 0 .empty 0 a c [x]
def opE(k:Int)(a:Option Addr)(c:Nat)(x y:E):E:=.node k 0 .empty 0 a c [x,y]
theorem MkE.mono{c n k e}(h:MkE c n e)(hk:n<=k):MkE c k e:=⟨h.all,Nat.le_trans h.len hk⟩
theorem Zns{c:Int}{k x s g a d}(h:okN c (.node k x s g a d [])):MkE c 1 (.node k x s g a d []):=by
 refine⟨λy hy=>?_,by simp[E.nodes,Zao]⟩
 simp only[E.nodes,Zao,List.mem_singleton]at hy
 rw[hy];exact h
theorem Zte:Zs9 0 0=true:=by decide +kernel
theorem ZuT{c:Int}{x:Nat}(h:Zfg x=true):MkE c 1 (ZAl x):=by
 refine Zns ⟨?_,λe=>absurd (show(8:Int)=9 from e) (by decide),λe=>absurd (show(8:Int)=10 from e) (by decide)⟩
 simp[E.right,E.k,E.s,E.x,E.g,E.subs,ZlJ,h]
theorem ZrC:∀s∈Zjy,Zcq s=true:=by decide +kernel
theorem ZuU:∀s∈ZeY,Zcq s=true:=by decide +kernel
theorem ZuV:∀s∈Zw8,Zcq s=true:=by decide +kernel
theorem ZuW{c:Int}{s:ByteArray}(h:s∈Zjy):MkE c 1 (ZyM s):=by
 refine Zns ⟨?_,λ_=>h,λe=>absurd (show(9:Int)=10 from e) (by decide)⟩
 simp[E.right,E.k,E.s,E.x,E.g,E.subs,ZlJ,ZrC s h,Zte]
theorem ZxM{c g:Int}(h:0<=g/\g<=9)(hc:g<=c):MkE c 1 (ZAU g):=by
 refine Zns ⟨?_,λe=>absurd (show(10:Int)=9 from e) (by decide),λ_=>hc⟩
 simp[E.right,E.k,E.s,E.x,E.g,E.subs,ZlJ,Zte,h.1,h.2]
theorem ZxN{c:Int}{n:Nat}{a d}{x:E}(h:MkE c n x)(hk:x.k≠8):MkE c (n+1) (ZyN a d x):=by
 refine⟨λy hy=>?_,by have:=h.len;simp[ZyN,E.nodes,Zao];omega⟩
 simp only[ZyN,E.nodes,Zao,List.append_nil,List.mem_cons]at hy
 rcases hy with rfl|hy
 ·refine⟨?_,λe=>absurd (show(1:Int)=9 from e) (by decide),λe=>absurd (show(1:Int)=10 from e) (by decide)⟩
  have h1:E.right (.node 1 0 .empty 0 a d [x])=!Zj4 [x]:=by simp[E.right,E.k,E.s,E.x,E.g,E.subs,ZlJ,Zte]
  rw[h1]
  show(!(x.k == 8))=true
  simpa using hk
 ·exact h.all y hy
theorem ZxO{c:Int}{n p:Nat}{a d}{k:Int}{x y:E}(hk:2<=k/\k<=7)(h:MkE c n x)(h2:MkE c p y):MkE c (n+p+1) (opE k a d x y):=by
 refine⟨λz hz=>?_,by have:=h.len;have:=h2.len;simp[opE,E.nodes,Zao];omega⟩
 simp only[opE,E.nodes,Zao,List.append_nil,List.mem_cons,List.mem_append]at hz
 rcases hz with rfl|hz|hz
 ·refine⟨?_,λe=>?_,λe=>?_⟩
  ·have h0:¬k=0:=by omega
   have h1:¬k=1:=by omega
   have h9:¬k=9:=by omega
   have h8:¬k=8:=by omega
   have gI:¬k=10:=by omega
   have hs:ZlJ k=2:=by unfold ZlJ;rw[if_neg h1,if_pos hk]
   have bJ:k<=10:=by omega
   simp[E.right,E.k,E.s,E.x,E.g,E.subs,hs,Zte,h0,h1,h9,h8,gI,bJ]
  ·have e:k=9:=e
   omega
  ·have e:k=10:=e
   omega
 ·exact h.all z hz
 ·exact h2.all z hz
theorem MkE.clean{c:Int}{n:Nat}{e:E}(h:MkE c n e)(hn:n<=10000):e.clean=true:=by
 have hl:e.light=true:=by unfold E.light;exact decide_eq_true (Nat.le_trans h.len hn)
 unfold E.clean
 rw[hl,Bool.true_and,List.all_eq_true]
 exact λx hx=>(h.all x hx).1
theorem ZxP{c:Int}(l:List E)(h:∀x∈l,x.k=10->x.g<=c):∀n:Int,n<=c->l.foldl (λn x=>if x.k=10 then(if x.g > n then x.g else n)else n) n<=c:=by
 induction l with
 | nil=>exact λn hn=>hn
 | cons x l ih=>
  intro n hn
  rw[List.foldl_cons]
  refine ih (λy hy=>h y (List.mem_cons_of_mem _ hy)) _ ?_
  split
  ·rename_i hk
   split
   ·exact h x (by simp) hk
   ·exact hn
  ·exact hn
theorem MkE.most{c:Int}{n:Nat}{e:E}(h:MkE c n e)(hc : -1<=c):e.most<=c:=by
 unfold E.most
 split
 ·exact ZxP _ (λx hx=>(h.all x hx).2.2) _ hc
 ·exact hc
mutual
theorem ZrD{A:List ByteArray}:∀(t:E)(out:List ByteArray),(∀x∈t.nodes,x.k=9->x.s∈A)->∀s∈t.names out,s∈out\/s∈A
 | .node k x s g a c l,out,h,z,hz=>by
  simp only[E.names]at hz
  split at hz
  ·rename_i hk
   split at hz
   ·exact .inl hz
   ·rcases List.mem_append.1 hz with hz|hz
    ·exact .inl hz
    ·rw[List.mem_singleton]at hz;subst hz
     exact .inr (h (.node k x z g a c l) (by simp[E.nodes]) hk)
  ·exact ZoC l out (λy hy=>h y (by simp only[E.nodes];exact List.mem_cons_of_mem _ hy)) z hz
theorem ZoC{A:List ByteArray}:∀(l:List E)(out:List ByteArray),(∀x∈Zao l,x.k=9->x.s∈A)->∀s∈ZbA l out,s∈out\/s∈A
 | [],out,_,z,hz=>.inl hz
 | t::l,out,h,z,hz=>by
  simp only[ZbA]at hz
  rcases ZoC l _ (λy hy=>h y (by simp only[Zao];exact List.mem_append_right _ hy)) z hz with hz|hz
  ·exact ZrD t out (λy hy=>h y (by simp only[Zao];exact List.mem_append_left _ hy)) z hz
  ·exact .inr hz
end
theorem MkE.vars{c:Int}{n:Nat}{e:E}(h:MkE c n e):∀s∈e.vars,s∈Zjy:=by
 intro s hs
 unfold E.vars at hs
 split at hs
 ·rcases ZrD (A:=Zjy) e [] (λx hx=>(h.all x hx).2.1) s hs with h|h
  ·cases h
  ·exact h
 ·cases hs
theorem ZxQ:ZlI E0=true:=by decide +kernel
inductive MkP (c:Int):Pt->Prop
 | lit (s:ByteArray) (h:0 < s.size/\s.size<=512):MkP c ⟨1,s,0,E0⟩
 | var (s:ByteArray) (h:s∈Zjy\/s∈ZeY):MkP c ⟨2,s,0,E0⟩
 | cap (g:Int) (h:0<=g/\g<=9/\g<=c):MkP c ⟨3,.empty,g,E0⟩
 | clc (e:E) (h:MkE c 20 e):MkP c ⟨4,.empty,0,e⟩
def ZAI(l:List Pt):Prop:=∀(i:Nat)(p q:Pt),l[i]?=some p->l[i+1]?=some q->p.k=1->q.k=1->False
structure MkT (c:Int)(l:List Pt):Prop where
 len:l.length<=5
 all:∀p∈l,MkP c p
 ll:ZAI l
inductive MkA (c:Int):Ac->Prop
 | send (a:Option Addr) (n:Nat) (l:List Pt) (h:MkT c l):MkA c ⟨1,.empty,a,n,l,E0⟩
 | set (s:ByteArray) (hs:s∈ZeY) (a:Option Addr) (n:Nat) (l:List Pt) (h:MkT c l):MkA c ⟨2,s,a,n,l,E0⟩
 | let_ (s:ByteArray) (hs:s∈Zjy) (e:E) (h:MkE c 20 e):MkA c ⟨3,s,none,0,[],e⟩
def Zzc(r:Ru):Prop:=(r.k=1/\r.t.check=0/\r.t.nodes.length<=26/\r.s=.empty/\r.n=0)\/((r.bg=false/\r.en=false/\r.t=T0)/\((r.k=2/\1<=r.s.size/\r.s.size<=3/\r.n=0)\/(r.k=3/\r.s=.empty/\r.n=0)\/(r.k=4/\r.s=.empty/\1<=r.n/\r.n<=8)))
structure MkR (n:Nat)(r:Ru):Prop where
 kind:Zzc r
 len:r.acts.length<=3
 all:∀a∈r.acts,MkA (ZbV r) a
 go:((∃i,i < n/\Zw8[i]?=some r.go)/\r.code=0)\/(r.go=.empty/\0<=r.code/\r.code<=255)
structure MkS (n i:Nat)(x:Sta):Prop where
 name:Zw8[i]?=some x.s
 len:x.rules.length<=5
 all:∀r∈x.rules,MkR n r
structure MkV (i:Nat)(v:Va):Prop where
 name:(Zjy++ZeY)[i]?=some v.s
 kind:(i < 4/\v.b=true/\v.t=.empty/\Zfg v.x=true)\/(4<=i/\v.b=false/\v.t.size<=3/\v.x=0)
structure MkC (s:Sc):Prop where
 n:2<=s.n/\s.n<=12
 vlen:s.vars.length=6
 vall:∀i v,s.vars[i]?=some v->MkV i v
 len:1<=s.states.length/\s.states.length<=4
 all:∀i x,s.states[i]?=some x->MkS s.states.length i x
theorem ZqB{n:Nat}{e:E}(h:e.nodes.length<=n)(hn:n<=10000):e.light=true:=by unfold E.light;exact decide_eq_true (by omega)
theorem ZAm{n:Nat}{e:E}(h:e.nodes.length<=n)(hn:n<=10000):nE e<=n:=by
 unfold nE E.size;rw[ZqB h hn];simp;omega
theorem nE0:nE E0<=20:=by decide +kernel
theorem Zka{α:Type}(f:α->Int)(B:Int)(l:List α)(hf:∀x∈l,f x<=B):ZbF (l.map f)<=l.length*B:=by
 induction l with
 | nil=>simp[ZbF]
 | cons x l ih=>
  have h1:=hf x (by simp)
  have h2:=ih (λy hy=>hf y (by simp[hy]))
  simp only[List.map_cons,ZbF,List.length_cons]
  rw[show((l.length+1:Nat):Int)*B=l.length*B+B by rw[Int.natCast_add,Int.add_mul];simp]
  omega
theorem MkP.nE{c:Int}{p:Pt}(h:MkP c p):nE p.e<=20:=by
 cases h with
 | clc e h=>exact ZAm (n:=20) h.len (by omega)
 | _=>exact nE0
theorem MkA.w{c:Int}{a:Ac}(h:MkA c a):wA a<=126:=by
 have go:∀{l:List Pt},MkT c l->(l.length:Int)+ZbF (l.map λp=>Rx.nE p.e)<=105:=λ{l} h=>by
  have:=Zka (λp:Pt=>Rx.nE p.e) 20 l (λp hp=>(h.all p hp).nE)
  have:=h.len
  omega
 have e0:=nE0
 cases h with
 | send a n l h=>have:=go h;simp only[wA];omega
 | set s hs a n l h=>have:=go h;simp only[wA];omega
 | let_ s hs e h=>have:=ZAm h.len (by omega);simp[wA,ZbF];omega
theorem Zkb{t:T}(h:t.nodes.length<=10000):t.light=true:=by unfold T.light;exact decide_eq_true h
theorem ZoD:T0.size=1/\T0.light=true/\T0.same T0=true:=by decide +kernel
theorem MkR.size{n:Nat}{r:Ru}(h:MkR n r):r.t.light=true/\0<=r.t.size/\r.t.size<=26:=by
 rcases h.kind with⟨_,_,h,_⟩|⟨⟨_,_,h⟩,_⟩
 ·have hl:=Zkb (t:=r.t) (by omega)
  refine⟨hl,?_⟩
  unfold T.size;rw[hl];simp;omega
 ·rw[h,ZoD.1];exact⟨ZoD.2.1,by omega,by omega⟩
theorem MkR.w{n:Nat}{r:Ru}(h:MkR n r):wR r<=405:=by
 obtain⟨h1,h2,h3⟩:=h.size
 have:=Zka wA 126 r.acts (λa ha=>(h.all a ha).w)
 have:=h.len
 have hi:ZgG r.t.size 20000<=26:=by unfold ZgG;split <;> omega
 unfold wR;rw[h1];simp;omega
theorem MkS.w{n i:Nat}{x:Sta}(h:MkS n i x):wS x<=2025:=by
 have:=Zka wR 405 x.rules (λa ha=>(h.all a ha).w)
 have:=h.len
 unfold wS;omega
theorem MkC.state{s:Sc}(h:MkC s){x:Sta}(hx:x∈s.states):∃i,s.states[i]?=some x/\MkS s.states.length i x:=by
 obtain⟨i,hi⟩:=List.getElem?_of_mem hx
 exact⟨i,hi,h.all i x hi⟩
theorem MkC.weight{s:Sc}(h:MkC s):s.weight<=8200:=by
 have:=Zka wS 2025 s.states (λx hx=>by obtain⟨i,_,h⟩:=h.state hx;exact h.w)
 have:=h.len
 have:=h.vlen
 unfold Sc.weight;omega
theorem MkC.light{s:Sc}(h:MkC s):s.light=true:=by unfold Sc.light;exact decide_eq_true (by have:=h.weight;omega)
theorem ZuX(s:ByteArray):eqS s s=true:=by unfold eqS;simp
theorem ZxR:∀j < 6,∀i < 6,j≠i->eqS ((Zjy++ZeY).getD j .empty) ((Zjy++ZeY).getD i .empty)=false:=by decide +kernel
theorem ZxS:∀j < 4,∀i < 4,j≠i->eqS (Zw8.getD j .empty) (Zw8.getD i .empty)=false:=by decide +kernel
theorem Zf4{l:List ByteArray}{i:Nat}{s:ByteArray}(h:l[i]?=some s):l.getD i .empty=s:=by rw[List.getD_eq_getElem?_getD,h];rfl
theorem ZuY{α:Type}{p:α->Bool}:∀{l:List α} {i:Nat} {x:α},l[i]?=some x->p x=true->(∀j y,j < i->l[j]?=some y->p y=false)->l.find? p=some x
 | [],i,x,h,_,_=>by simp at h
 | a::l,0,x,h,hp,_=>by
  simp at h;subst h
  rw[List.find?_cons_of_pos hp]
 | a::l,i+1,x,h,hp,hn=>by
  rw[List.find?_cons_of_neg (by rw[hn 0 a (by omega) rfl];simp)]
  exact ZuY (l:=l) (i:=i) (by simpa using h) hp (λj y hj hy=>hn (j+1) y (by omega) (by simpa using hy))
theorem MkC.kind{s:Sc}(h:MkC s){i:Nat}{name:ByteArray}(hi:(Zjy++ZeY)[i]?=some name):Zcm s name=(decide (i < 4),true):=by
 have rP:i < 6:=(zA0 hi).1
 have aZ:=h.vlen
 have hv:s.vars[i]?=some (s.vars[i]'(by omega)):=zA3 (by omega)
 have hm:=h.vall i _ hv
 generalize s.vars[i]'(by omega)=v at hv hm
 have hn:v.s=name:=Option.some.inj (hm.name.symm.trans hi)
 have hf:(s.vars.find? λv=>eqS v.s name)=some v:=ZuY hv (by rw[hn];exact ZuX _) (λj y hj hy=>by
  have hy':=(h.vall j y hy).name
  have:=ZxR j (by omega) i rP (by omega)
  rwa [Zf4 hy',Zf4 hi]at this)
 unfold Zcm
 rw[hf]
 rcases hm.kind with⟨h4,hb,_⟩|⟨h4,hb,_⟩
 ·rw[decide_eq_true h4];show(v.b,true)=_;rw[hb]
 ·rw[decide_eq_false (by omega)];show(v.b,true)=_;rw[hb]
theorem MkC.num{s:Sc}(h:MkC s){name:ByteArray}(hn:name∈Zjy):Zcm s name=(true,true):=by
 obtain⟨i,hi⟩:=List.getElem?_of_mem hn
 have aO:i < 4:=(zA0 hi).1
 have:=h.kind (i:=i) (name:=name) (by rw[zA5 aO];exact hi)
 rwa [decide_eq_true aO]at this
theorem MkC.txt{s:Sc}(h:MkC s){name:ByteArray}(hn:name∈ZeY):Zcm s name=(false,true):=by
 obtain⟨i,hi⟩:=List.getElem?_of_mem hn
 have aO:i < 2:=(zA0 hi).1
 have:=h.kind (i:=4+i) (name:=name) (by rw[zA4 (show Zjy.length<=4+i by show 4<=_;omega)];show ZeY[4+i - 4]?=_;rw[show 4+i - 4=i by omega];exact hi)
 rwa [decide_eq_false (by omega)]at this
theorem MkC.numbers{s:Sc}(h:MkC s){c:Int}{n:Nat}{e:E}(he:MkE c n e):Zcg s e=true:=by
 unfold Zcg
 rw[Bool.not_eq_true',List.any_eq_false]
 intro x hx
 rw[h.num (he.vars x hx)];simp
theorem MkC.finds{s:Sc}(h:MkC s){i:Nat}{name:ByteArray}(hi:i < s.states.length)(hn:Zw8[i]?=some name):ZgE s name=true:=by
 unfold ZgE
 rw[h.light,Bool.and_true,List.any_eq_true]
 refine⟨s.states[i],List.getElem_mem _,?_⟩
 have:=(h.all i _ (zA3 hi)).name
 rw[hn]at this
 rw[<-Option.some.inj this];exact ZuX _
theorem ZdZ{n a b:Int}:ZbB n a b=true↔a<=n/\n<=b:=by
 unfold ZbB
 rw[zA7,decide_eq_true_iff,decide_eq_true_iff]
theorem MkC.whole{s:Sc}(h:MkC s):Zg8 s=0:=by
 have h1:ZbB s.n 2 256=true:=ZdZ.2 (by have:=h.n;omega)
 have h2:ZbB s.states.length 1 24=true:=ZdZ.2 (by have:=h.len;omega)
 have h3:decide (s.vars.length > 12)=false:=decide_eq_false (by have:=h.vlen;omega)
 simp[Zg8,Zb9,h1,h2,h3]
theorem ZaH:ByteArray.empty.size=0:=rfl
theorem MkC.var{s:Sc}(h:MkC s){i:Nat}{v:Va}(hv:s.vars[i]?=some v):ZcE s i v=0:=by
 have hm:=h.vall i v hv
 have rP:i < 6:=by have:=(zA0 hv).1;have:=h.vlen;omega
 have h1:Zcq v.s=true:=by
  have bP:=zA2 hm.name
  rcases List.mem_append.1 bP with hx|hx
  ·exact ZrC _ hx
  ·exact ZuU _ hx
 have h2:Zfi v=true:=by
  unfold Zfi
  rcases hm.kind with⟨_,hb,ht,hx⟩|⟨_,hb,ht,hx⟩
  ·rw[hb,ht,hx];rfl
  ·rw[hb,hx]
   simp;omega
 have h3:((s.vars.take i).any λx=>eqS x.s v.s)=false:=by
  rw[List.any_eq_false]
  intro x hx
  obtain⟨j,hj⟩:=List.getElem?_of_mem hx
  have ld:j < i:=by have:=(zA0 hj).1;rw[List.length_take]at this;omega
  rw[List.getElem?_take_of_lt ld]at hj
  have:=ZxR j (by omega) i rP (by omega)
  rw[Zf4 (h.vall j x hj).name,Zf4 hm.name]at this
  rw[this];simp
 simp[ZcE,Zb9,h1,h2,h3]
theorem MkC.stateOk{s:Sc}(h:MkC s){i:Nat}{x:Sta}(hx:s.states[i]?=some x):Zfj s i x=0:=by
 have hm:=h.all i x hx
 have vK:i < 4:=by have:=(zA0 hx).1;have:=h.len;omega
 have h1:Zcq x.s=true:=ZuV _ (zA2 hm.name)
 have h2:decide (x.rules.length > 12)=false:=decide_eq_false (by have:=hm.len;omega)
 have h3:((s.states.take i).any λy=>eqS y.s x.s)=false:=by
  rw[List.any_eq_false]
  intro y hy
  obtain⟨j,hj⟩:=List.getElem?_of_mem hy
  have ld:j < i:=by have:=(zA0 hj).1;rw[List.length_take]at this;omega
  rw[List.getElem?_take_of_lt ld]at hj
  have:=ZxS j (by omega) i vK (by omega)
  rw[Zf4 (h.all j y hj).name,Zf4 hm.name]at this
  rw[this];simp
 simp[Zfj,Zb9,h1,h2,h3]
theorem Ztf(t:T):0<=t.groups:=by unfold T.groups;split <;> omega
theorem ZrE(r:Ru) : -1<=ZbV r:=by
 have:=Ztf r.t
 unfold ZbV;split
 ·omega
 ·split <;> omega
theorem Zzd{r:Ru}(h:r.bg=false/\r.en=false/\r.t=T0):Zw2 r=false:=by
 unfold Zw2;rw[h.1,h.2.1,h.2.2,ZoD.2.1,ZoD.2.2];rfl
theorem MkR.fields{n:Nat}{r:Ru}(h:MkR n r):ZaR r=true:=by
 unfold ZaR
 rcases h.kind with⟨hk,_,_,hs,hn⟩|⟨hx,⟨hk,h1,h2,hn⟩|⟨hk,hs,hn⟩|⟨hk,hs,h1,h2⟩⟩
 ·rw[hk,hs,hn];rfl
 ·rw[Zzd hx,hk,hn]
  have:ZbB r.s.size 1 64=true:=ZdZ.2 (by omega)
  simp[this]
 ·rw[Zzd hx,hk,hs,hn];rfl
 ·rw[Zzd hx,hk,hs]
  have:ZbB r.n 1 1000=true:=ZdZ.2 (by omega)
  simp[this,ZaH]
theorem MkR.sizeR{n:Nat}{r:Ru}(h:MkR n r):Rx.sizeR r<=26:=by
 unfold Rx.sizeR;split
 ·exact h.size.2.2
 ·omega
theorem MkS.sizes{n i:Nat}{x:Sta}(h:MkS n i x)(k:Nat):ZbF ((x.rules.take k).map Rx.sizeR)<=130:=by
 have:=Zka Rx.sizeR 26 (x.rules.take k) (λr hr=>(h.all r (List.mem_of_mem_take hr)).sizeR)
 have h1:=h.len
 rw[List.length_take]at this
 omega
theorem MkC.totals{s:Sc}(h:MkC s)(i k:Nat):Rx.totals s i k<=600:=by
 have h0:=h.len
 have h1:=Zka (λx:Sta=>ZbF (x.rules.map Rx.sizeR)) 130 (s.states.take i) (λx hx=>by
  obtain⟨j,_,hm⟩:=h.state (List.mem_of_mem_take hx)
  have:=hm.sizes x.rules.length
  rwa [List.take_length]at this)
 rw[List.length_take]at h1
 unfold Rx.totals
 cases hx:s.states[i]? with
 | none=>show _+0<=_;omega
 | some x=>
  have hi:=(zA0 hx).1
  have:=(h.all i x hx).sizes (k+1)
  show _+ZbF ((x.rules.take (k+1)).map Rx.sizeR)<=_
  omega
theorem Znt:∀s∈Zw8,s.size=1:=by decide +kernel
theorem MkC.rule{s:Sc}(h:MkC s){r:Ru}(hr:MkR s.states.length r){t:Int}(ht:t<=600):ZgF s r t=0:=by
 have h1:=hr.fields
 have h2:decide (r.acts.length > 8)=false:=decide_eq_false (by have:=hr.len;omega)
 have h3:(r.k == 1&&(!(r.t.check == 0)||decide (t > 600)))=false:=by
  rw[decide_eq_false (show ¬t > 600 by omega),Bool.or_false]
  rcases hr.kind with⟨_,hc,_⟩|⟨_,⟨hk,_⟩|⟨hk,_⟩|⟨hk,_⟩⟩
  ·rw[hc];simp
  ·rw[hk];rfl
  ·rw[hk];rfl
  ·rw[hk];rfl
 have h4:(if r.go.size=0 then !ZbB r.code 0 255 else !ZgE s r.go||!(r.code == 0))=false:=by
  rcases hr.go with⟨⟨i,hi,hn⟩,hc⟩|⟨hg,hc⟩
  ·rw[if_neg (by rw[Znt _ (zA2 hn)];omega),h.finds hi hn,hc];rfl
  ·rw[hg,if_pos ZaH,ZdZ.2 hc];rfl
 unfold ZgF
 rw[h1,h2,h3,h4];rfl
theorem MkC.action{s:Sc}(h:MkC s){r:Ru}{a:Ac}(ha:MkA (ZbV r) a):ZbS s r a=0:=by
 have hz:=ZxQ
 cases ha with
 | send a n l hl=>
  have h1:decide (l.length > 16)=false:=decide_eq_false (by have:=hl.len;omega)
  have h2:ZbB 1 1 3=true:=by decide
  unfold ZbS
  simp[Zb9,h1,h2,hz,ZaH]
 | set t ht a n l hl=>
  have h1:decide (l.length > 16)=false:=decide_eq_false (by have:=hl.len;omega)
  have h2:ZbB 2 1 3=true:=by decide
  unfold ZbS
  simp[Zb9,h1,h2,hz,h.txt ht]
 | let_ t ht e he=>
  have h2:ZbB 3 1 3=true:=by decide
  have h3:=he.clean (by omega)
  have h4:=h.numbers he
  have h5:decide (e.most > ZbV r)=false:=decide_eq_false (by have:=he.most (ZrE r);omega)
  unfold ZbS
  simp only[Zb9,h2,h3,h4,h5,h.num ht]
  rfl
def Zze(l:List Pt)(i:Nat):Bool:=match l[i - 1]? with
 | some q=>q.k == 1
 | none=>false
theorem ZrF(s:Sc)(r:Ru)(l:List Pt)(i:Nat)(p:Pt):Zfk s r l i p=Zb9 [(307,!Zbg p||(decide (i > 0)&&(p.k == 1&&Zze l i))),(308,(p.k == 2&&!(Zcm s p.s).2)||(p.k == 4&&!Zcg s p.e)),(309,(p.k == 3&&decide (p.g > ZbV r))||(p.k == 4&&decide (p.e.most > ZbV r)))]:=rfl
theorem MkC.part{s:Sc}(h:MkC s){r:Ru}{l:List Pt}(hl:MkT (ZbV r) l){i:Nat}{p:Pt}(hp:l[i]?=some p):Zfk s r l i p=0:=by
 have hz:=ZxQ
 have h0:(decide (i > 0)&&(p.k == 1&&Zze l i))=false:=by
  cases i with
  | zero=>rfl
  | succ i=>
   unfold Zze
   rw[Nat.add_sub_cancel]
   cases hq:l[i]? with
   | none=>simp
   | some q=>
    have:=hl.ll i q p hq hp
    simp only[Bool.and_eq_false_iff]
    refine .inr ?_
    by_cases h1:p.k=1
    ·refine .inr ?_
     simp
     exact λh2=>this h2 h1
    ·refine .inl ?_
     simpa using h1
 have hm:=hl.all p (zA2 hp)
 rw[ZrF,h0]
 cases hm with
 | lit t ht=>
  have h1:Zbg ⟨1,t,0,E0⟩=true:=by simp[Zbg,hz];omega
  rw[h1];rfl
 | var t ht=>
  have h1:Zbg ⟨2,t,0,E0⟩=true:=by
   have:Zcq t=true:=by
    rcases ht with ht|ht
    ·exact ZrC _ ht
    ·exact ZuU _ ht
   simp[Zbg,hz,this]
  have h2:(Zcm s t).2=true:=by
   rcases ht with ht|ht
   ·rw[h.num ht]
   ·rw[h.txt ht]
  rw[h1]
  simp[Zb9,h2]
 | cap g hg=>
  have h1:Zbg ⟨3,.empty,g,E0⟩=true:=by simp[Zbg,hz,ZaH];omega
  have h2:decide (g > ZbV r)=false:=decide_eq_false (by omega)
  rw[h1]
  simp only[Zb9,h2];rfl
 | clc e he=>
  have h1:Zbg ⟨4,.empty,0,e⟩=true:=by simp[Zbg,he.clean,ZaH]
  have h2:decide (e.most > ZbV r)=false:=decide_eq_false (by have:=he.most (ZrE r);omega)
  have h3:=h.numbers he
  rw[h1]
  simp only[Zb9,h2,h3];rfl
theorem MkC.at0{s:Sc}(h:MkC s):∀p∈s.places,atS s p=0:=by
 intro p hp
 have hT:∀{r:Ru} {a:Ac},MkA (ZbV r) a->∀{n:Nat} {q:Pt},a.parts[n]?=some q->Zfk s r a.parts n q=0:=λ{r a} ha {n q} hq=>by
  cases ha with
  | send _ _ l hl=>exact h.part hl hq
  | set _ _ _ _ l hl=>exact h.part hl hq
  | let_ _ _ e _=>simp at hq
 rcases Zj6 s p hp with⟨i,hi,v,hv⟩|⟨hv,hs|⟨i,hi,x,hx,hr|⟨k,hk,r,hr,ha|⟨j,hj,a,ha,hq|⟨n,hn,q,hq⟩⟩⟩⟩⟩
 ·have e:atS s p=ZcE s i v:=by
   unfold atS
   rw[if_pos (by omega),show p.v.toNat=i by omega,hv]
  rw[e];exact h.var hv
 all_goals have hv':¬p.v ≥ 0:=by omega
 ·unfold atS
  rw[if_neg hv',if_pos hs];exact h.whole
 all_goals
  have hs':¬p.s < 0:=by omega
  have lF:p.s.toNat=i:=by omega
  have hm:=h.all i x hx
 ·have e:atS s p=Zfj s i x:=by
   unfold atS
   rw[if_neg hv',if_neg hs',lF,hx]
   exact if_pos hr
  rw[e];exact h.stateOk hx
 all_goals
  have hr':¬p.r < 0:=by omega
  have gF:p.r.toNat=k:=by omega
  have hR:=hm.all r (zA2 hr)
 ·have e:atS s p=ZgF s r (Rx.totals s i k):=by
   unfold atS
   rw[if_neg hv',if_neg hs',lF,hx]
   show(if p.r < 0 then _ else _)=_
   rw[if_neg hr',gF,hr]
   exact if_pos ha
  rw[e];exact h.rule hR (h.totals i k)
 all_goals
  have ha':¬p.a < 0:=by omega
  have lR:p.a.toNat=j:=by omega
  have hA:=hR.all a (zA2 ‹r.acts[j]?=some a›)
 ·have e:atS s p=ZbS s r a:=by
   unfold atS
   rw[if_neg hv',if_neg hs',lF,hx]
   show(if p.r < 0 then _ else _)=_
   rw[if_neg hr',gF,hr]
   show(if p.a < 0 then _ else _)=_
   rw[if_neg ha',lR,‹r.acts[j]?=some a›]
   exact if_pos hq
  rw[e];exact h.action hA
 ·have e:atS s p=Zfk s r a.parts n q:=by
   unfold atS
   rw[if_neg hv',if_neg hs',lF,hx]
   show(if p.r < 0 then _ else _)=_
   rw[if_neg hr',gF,hr]
   show(if p.a < 0 then _ else _)=_
   rw[if_neg ha',lR,‹r.acts[j]?=some a›]
   show(if p.p < 0 then _ else _)=_
   rw[if_neg (by omega),show p.p.toNat=n by omega,hq]
  rw[e];exact hT hA hq
theorem MkC.problems{s:Sc}(h:MkC s):s.problems=[]:=by
 unfold Sc.problems
 rw[List.filterMap_eq_nil_iff]
 intro p hp
 rw[if_pos (h.at0 p hp)]
theorem MkC.check{s:Sc}(h:MkC s):s.check=(top,0):=by
 unfold Sc.check
 rw[if_pos h.light,h.problems]
structure F26 (t:T)(l:List T):Prop where
 f:F t l
 n:(t.k=4/\t.nodes.length+szL l<=26)\/t.nodes.length+szL l<=25
theorem F26.done{t:T}(h:F26 t []):t.check=0/\t.nodes.length<=26:=by
 refine⟨h.f.done,?_⟩
 have:szL []=0:=rfl
 rcases h.n with h|h <;> omega
theorem F26.step{t x:T}{l:List T}(h:F26 t (x::l))(a:Option Addr)(c:Nat):F26 (Zfl 4 a c (ZaW 4 t++ZaW 4 x)) l:=by
 refine⟨h.f.step a c,?_⟩
 have hn:=h.n
 rw[ZeG]at hn
 have ht:=Zj7 t
 have hx:=Zj7 x
 have e1:szL (ZaW 4 t)<=if t.k=4 then szL t.subs else t.nodes.length:=by
  unfold ZaW
  split
  ·exact Nat.le_refl _
  ·rw[if_neg (by omega),Zbf];exact Nat.le_refl _
 have e2:szL (ZaW 4 x)<=x.nodes.length:=by
  unfold ZaW
  split
  ·omega
  ·rw[if_neg (by omega),Zbf];exact Nat.le_refl _
 have e3:szL (ZaW 4 t++ZaW 4 x)=szL (ZaW 4 t)+szL (ZaW 4 x):=ZaD _ _
 generalize ZaW 4 t++ZaW 4 x=L at e3
 have hA:szL L<=t.nodes.length+x.nodes.length/\(t.k=4->szL L+1<=t.nodes.length+x.nodes.length):=by
  refine⟨?_,λh4=>?_⟩
  ·split at e1 <;> omega
  ·rw[if_pos h4]at e1;omega
 match L,hA with
 | [],_=>
  refine .inr ?_
  show T1.nodes.length+_<=_
  have:T1.nodes.length=1:=rfl
  rcases hn with⟨_,hn⟩|hn <;> omega
 | [y],hA=>
  refine .inr ?_
  show y.nodes.length+_<=_
  rw[Zbf]at hA
  rcases hn with⟨h4,hn⟩|hn
  ·have:=hA.2 h4;omega
  ·omega
 | y::z::r,hA=>
  refine .inl ⟨rfl,?_⟩
  rw[Zj7]
  show 1+szL (y::z::r)+_<=_
  rcases hn with⟨h4,hn⟩|hn
  ·have:=hA.2 h4;omega
  ·omega
theorem F26.start{i u g}{t:T}{l:List T}(h:J i (t::l) u g)(hi:i<=25):F26 t l:=⟨F.start h hi,.inr (by have:=h.sz;rw[ZeG]at this;omega)⟩
theorem F26.leaf{t:T}(h1:F t [])(h2:t.nodes.length=1):F26 t []:=⟨h1,.inr (by have:szL []=0:=rfl;omega)⟩
structure PE (ts:List E)(i:Nat):Prop where
 all:∀x∈Zao ts,okN 9 x
 sz:(Zao ts).length<=i
theorem Zcr(t:E):Zao [t]=t.nodes:=by simp[Zao]
theorem PE.zero:PE [] 0:=⟨by simp[Zao],by simp[Zao]⟩
theorem PE.skip{ts i}(h:PE ts i):PE ts (i+1):=⟨h.all,by have:=h.sz;omega⟩
theorem PE.push{ts i}{t:E}(h:PE ts i)(ht:MkE 9 1 t):PE (ts++[t]) (i+1):=by
 refine⟨λx hx=>?_,?_⟩
 ·rw[ZaN,Zcr]at hx
  rcases List.mem_append.1 hx with hx|hx
  ·exact h.all x hx
  ·exact ht.all x hx
 ·rw[ZaN,Zcr,zA1]
  have:=h.sz;have:=ht.len;omega
theorem PE.neg{r:List E}{x:E}{i:Nat}(h:PE (r++[x]) i)(hk:x.k≠8)(a:Option Addr)(d:Nat):PE (r++[ZyN a d x]) (i+1):=by
 have h1:=h.all;have h2:=h.sz
 rw[ZaN,Zcr]at h1 h2
 rw[zA1]at h2
 have hm:MkE 9 (x.nodes.length+1) (ZyN a d x):=ZxN ⟨λz hz=>h1 z (List.mem_append_right _ hz),Nat.le_refl _⟩ hk
 refine⟨λz hz=>?_,?_⟩
 ·rw[ZaN,Zcr]at hz
  rcases List.mem_append.1 hz with hz|hz
  ·exact h1 z (List.mem_append_left _ hz)
  ·exact hm.all z hz
 ·rw[ZaN,Zcr,zA1]
  have:=hm.len;omega
theorem PE.op{r:List E}{x y:E}{i:Nat}(h:PE (r++[x,y]) i){k:Int}(hk:2<=k/\k<=7)(a:Option Addr)(d:Nat):PE (r++[opE k a d x y]) (i+1):=by
 have h1:=h.all;have h2:=h.sz
 rw[ZaN,show Zao [x,y]=x.nodes++y.nodes by simp[Zao]]at h1 h2
 rw[zA1,zA1]at h2
 have hm:MkE 9 (x.nodes.length+y.nodes.length+1) (opE k a d x y):=ZxO hk ⟨λz hz=>h1 z (List.mem_append_right _ (List.mem_append_left _ hz)),Nat.le_refl _⟩ ⟨λz hz=>h1 z (List.mem_append_right _ (List.mem_append_right _ hz)),Nat.le_refl _⟩
 refine⟨λz hz=>?_,?_⟩
 ·rw[ZaN,Zcr]at hz
  rcases List.mem_append.1 hz with hz|hz
  ·exact h1 z (List.mem_append_left _ hz)
  ·exact hm.all z hz
 ·rw[ZaN,Zcr,zA1]
  have:=hm.len;omega
theorem ZlM(t:E):1<=t.nodes.length:=by rw[Zbz,List.length_cons];omega
theorem Zej(l:List E):l.length<=(Zao l).length:=by
 induction l with
 | nil=>simp
 | cons t l ih=>
  have:=ZlM t
  simp only[Zao,List.length_cons,zA1];omega
structure QE (t:E)(l:List E)(b:Nat):Prop where
 all:∀x∈t.nodes,okN 9 x
 alls:∀x∈Zao l,okN 9 x
 sz:t.nodes.length+(Zao l).length+l.length<=b
theorem QE.start{t:E}{l:List E}{i:Nat}(h:PE (t::l) i):QE t l (2*i):=by
 have h1:=h.all;have h2:=h.sz
 simp only[Zao,zA1]at h1 h2
 have:=Zej l
 exact⟨λx hx=>h1 x (List.mem_append_left _ hx),λx hx=>h1 x (List.mem_append_right _ hx),by omega⟩
theorem QE.step{t x:E}{l:List E}{b:Nat}(h:QE t (x::l) b)(a:Option Addr)(d:Nat):QE (opE 2 a d t x) l b:=by
 have h1:=h.alls;have h2:=h.sz
 simp only[Zao,zA1,List.length_cons]at h1 h2
 have hm:MkE 9 (t.nodes.length+x.nodes.length+1) (opE 2 a d t x):=ZxO (by omega) ⟨h.all,Nat.le_refl _⟩ ⟨λz hz=>h1 z (List.mem_append_left _ hz),Nat.le_refl _⟩
 exact⟨hm.all,λz hz=>h1 z (List.mem_append_right _ hz),by have:=hm.len;omega⟩
theorem QE.done{t:E}{b:Nat}(h:QE t [] b):MkE 9 b t:=⟨h.all,by have:=h.sz;omega⟩
structure BoE (c:Int)(e u:E):Prop where
 all:∀x∈u.nodes,okN c x
 len:u.nodes.length<=e.nodes.length
 k8:u.k=8↔e.k=8
theorem ZrG{c:Int}:∀{l r:List E},l.length=r.length->(∀(i:Nat)(x y:E),l[i]?=some x->r[i]?=some y->BoE c x y)->(∀z∈Zao r,okN c z)/\(Zao r).length<=(Zao l).length/\Zj4 r=Zj4 l
 | [],[],_,_=>⟨by simp[Zao],Nat.le_refl _,rfl⟩
 | [],_::_,h,_=>by simp at h
 | _::_,[],h,_=>by simp at h
 | x::l,y::r,h,hb=>by
  have h0:=hb 0 x y rfl rfl
  obtain⟨h1,h2,_⟩:=ZrG (l:=l) (r:=r) (by simpa using h) (λi x' y' hx hy=>hb (i+1) x' y' (by simpa using hx) (by simpa using hy))
  refine⟨λz hz=>?_,?_,?_⟩
  ·simp only[Zao]at hz
   rcases List.mem_append.1 hz with hz|hz
   ·exact h0.all z hz
   ·exact h1 z hz
  ·simp only[Zao,zA1];have:=h0.len;omega
  ·show(y.k == 8)=(x.k == 8)
   rw[Bool.eq_iff_iff];simpa using h0.k8
theorem ZvP{c:Int}{k:Int}{x:Nat}{s:ByteArray}{g:Int}{a a':Option Addr}{d d':Nat}{l r:List E}(h:okN 9 (.node k x s g a d l))(hk:¬(k=10/\g > c))(hl:l.length=r.length)(hb:∀(i:Nat)(x y:E),l[i]?=some x->r[i]?=some y->BoE c x y):BoE c (.node k x s g a d l) (.node k x s g a' d' r):=by
 obtain⟨h1,h2,h3⟩:=ZrG hl hb
 refine⟨λz hz=>?_,?_,Iff.rfl⟩
 ·simp only[E.nodes,List.mem_cons]at hz
  rcases hz with rfl|hz
  ·refine⟨?_,h.2.1,λe=>?_⟩
   ·have e1:=h.1
    simp only[E.right,E.k,E.s,E.x,E.g,E.subs]at e1 ⊢
    rw[<-hl,h3];exact e1
   ·have e:k=10:=e
    show g<=c
    omega
  ·exact h1 z hz
 ·simp only[E.nodes,List.length_cons];omega
theorem ZxT{c:Int}{e:E}{s:ByteArray}(hs:s∈Zjy)(hk:e.k=10):BoE c e (ZyM s):=by
 have h:=ZuW (c:=c) hs
 refine⟨h.all,Nat.le_trans h.len (ZlM e),?_⟩
 rw[hk]
 show(9:Int)=8↔_
 omega
theorem BoE.toMk{c:Int}{n:Nat}{e u:E}(h:BoE c e u)(he:e.nodes.length<=n):MkE c n u:=⟨h.all,Nat.le_trans h.len he⟩
end Go.Rx
namespace Go.Rx
open Go Go.Eng
def ZpW(l:List Ru)(key:Ru->Int)(o:Option Nat)(x:Ru):Bool:=match o with
 | none=>true
 | some t=>match l[t]? with
  | some y=>decide (key x < key y)
  | none=>false
def Zdw(l:List Ru)(cnt:Ru->Bool)(key:Ru->Int):Nat->Option Nat
 | 0=>none
 | i+1=>match l[i]? with
  | none=>Zdw l cnt key i
  | some x=>if cnt x&&ZpW l key (Zdw l cnt key i) x then some i else Zdw l cnt key i
def ZxU(l:List Ru)(cnt:Ru->Bool)(key:Ru->Int):Option Nat:=Zdw l cnt key l.length
theorem Zbw{l:List Ru}{cnt:Ru->Bool}{key:Ru->Int}:∀{i t:Nat},Zdw l cnt key i=some t->t < i/\∃y,l[t]?=some y/\cnt y=true
 | 0,t,h=>by simp[Zdw]at h
 | i+1,t,h=>by
  rw[Zdw]at h
  split at h
  ·obtain⟨h1,h2⟩:=Zbw h
   exact⟨by omega,h2⟩
  ·rename_i x hx
   split at h
   ·rename_i hc
    obtain rfl:i=t:=by simpa using h
    rw[zA7]at hc
    exact⟨by omega,x,hx,hc.1⟩
   ·obtain⟨h1,h2⟩:=Zbw h
    exact⟨by omega,h2⟩
theorem ZqC{l:List Ru}{cnt:Ru->Bool}{key:Ru->Int}{i:Nat}{x:Ru}(hx:l[i]?=some x):Zdw l cnt key (i+1)=if cnt x&&ZpW l key (Zdw l cnt key i) x then some i else Zdw l cnt key i:=by
 rw[Zdw,hx]
theorem ZcT{l:List Ru}{cnt:Ru->Bool}{key:Ru->Int}:∀{i:Nat},Zdw l cnt key i=none->∀j x,j < i->l[j]?=some x->cnt x=false
 | 0,_,j,x,hj,_=>by omega
 | i+1,h,j,x,hj,hx=>by
  rw[Zdw]at h
  split at h
  ·rename_i hi
   rcases Nat.lt_or_ge j i with h1|h1
   ·exact ZcT h j x h1 hx
   ·obtain rfl:j=i:=by omega
    rw[hx]at hi;cases hi
  ·rename_i y hy
   split at h
   ·cases h
   ·rename_i hc
    rcases Nat.lt_or_ge j i with h1|h1
    ·exact ZcT h j x h1 hx
    ·obtain rfl:j=i:=by omega
     rw[hx]at hy;cases hy
     rw[h]at hc
     simpa[ZpW]using hc
def ZyO(r:Ru):Bool:=r.k == 4
def ZyP(r:Ru):Bool:=r.k == 3
def ZAV(r:Ru):Int:=r.n
def ZAW(_:Ru):Int:=0
def toO(x:Sta):Option Nat:=ZxU x.rules ZyO ZAV
def eoO(x:Sta):Option Nat:=ZxU x.rules ZyP ZAW
def Zw5(o:Option Nat):Int:=(o.getD 0:Nat)
def Zdk(x:Sta)(k:Nat)(r:Ru):Bool:=(r.k == 4&&!((k:Int) == Zw5 (toO x)))||(r.k == 3&&!((k:Int) == Zw5 (eoO x)))
abbrev Dd:=Int×Int
def Zce(i:Nat)(x:Sta):Nat->List Dd
 | 0=>[]
 | k+1=>Zce i x k++(match x.rules[k]? with
  | some r=>if Zdk x k r then[((i:Int),(k:Int))]else[]
  | none=>[])
def deadU(s:Sc):Nat->List Dd
 | 0=>[]
 | i+1=>deadU s i++(match s.states[i]? with
  | some x=>Zce i x x.rules.length
  | none=>[])
def ZaK(s:Sc):List Dd:=deadU s s.states.length
def dV(d:Dd):Value:=.agg #[.int .i64 d.1,.int .i64 d.2]
def dC(d:Dd):List Value:=[.int .i64 d.1,.int .i64 d.2]
theorem Zfm{i:Nat}{x:Sta}{k:Nat}{r:Ru}(h:x.rules[k]?=some r):Zce i x (k+1)=Zce i x k++(if Zdk x k r then[((i:Int),(k:Int))]else[]):=by rw[Zce,h]
theorem Zd0{s:Sc}{i:Nat}{x:Sta}(h:s.states[i]?=some x):deadU s (i+1)=deadU s i++Zce i x x.rules.length:=by rw[deadU,h]
theorem Zg9{i:Nat}{x:Sta}{d:Dd}:∀{k:Nat},d∈Zce i x k↔d.1=i/\∃j r,j < k/\x.rules[j]?=some r/\Zdk x j r=true/\d.2=j
 | 0=>by simp[Zce]
 | k+1=>by
  rw[Zce,List.mem_append,Zg9 (k:=k)]
  constructor
  ·rintro(⟨h1,j,r,h2,h3⟩|h)
   ·exact⟨h1,j,r,by omega,h3⟩
   ·split at h
    ·rename_i r hr
     split at h
     ·rename_i hb
      rw[List.mem_singleton]at h;subst h
      exact⟨rfl,k,r,by omega,hr,hb,rfl⟩
     ·cases h
    ·cases h
  ·rintro⟨h1,j,r,h2,h3,h4,h5⟩
   rcases Nat.lt_or_ge j k with hj|hj
   ·exact .inl ⟨h1,j,r,hj,h3,h4,h5⟩
   ·obtain rfl:j=k:=by omega
    refine .inr ?_
    rw[h3]
    show d∈(if Zdk x j r=true then _ else _)
    rw[if_pos h4,List.mem_singleton]
    exact Prod.ext h1 h5
theorem ZoE{s:Sc}{d:Dd}:∀{n:Nat},d∈deadU s n↔∃i x j r,i < n/\s.states[i]?=some x/\x.rules[j]?=some r/\Zdk x j r=true/\d=((i:Int),(j:Int))
 | 0=>by simp[deadU]
 | n+1=>by
  rw[deadU,List.mem_append,ZoE (n:=n)]
  constructor
  ·rintro(⟨i,x,j,r,h1,h2⟩|h)
   ·exact⟨i,x,j,r,by omega,h2⟩
   ·split at h
    ·rename_i x hx
     obtain⟨h1,j,r,h2,h3,h4,h5⟩:=Zg9.1 h
     exact⟨n,x,j,r,by omega,hx,h3,h4,Prod.ext h1 h5⟩
    ·cases h
  ·rintro⟨i,x,j,r,h1,h2,h3,h4,h5⟩
   rcases Nat.lt_or_ge i n with hi|hi
   ·exact .inl ⟨i,x,j,r,hi,h2,h3,h4,h5⟩
   ·obtain rfl:i=n:=by omega
    refine .inr ?_
    rw[h2]
    exact Zg9.2 ⟨by rw[h5],j,r,(zA0 h3).1,h3,h4,by rw[h5]⟩
theorem Zkc{s:Sc}{d:Dd}:d∈ZaK s↔∃(i:Nat)(x:Sta)(j:Nat)(r:Ru),s.states[i]?=some x/\x.rules[j]?=some r/\Zdk x j r=true/\d=((i:Int),(j:Int)):=by
 unfold ZaK
 rw[ZoE]
 constructor
 ·rintro⟨i,x,j,r,_,h⟩;exact⟨i,x,j,r,h⟩
 ·rintro⟨i,x,j,r,h,h'⟩;exact⟨i,x,j,r,(zA0 h).1,h,h'⟩
theorem Zkd(i:Nat)(x:Sta):∀k,(Zce i x k).length<=k
 | 0=>by simp[Zce]
 | k+1=>by
  rw[Zce,zA1]
  have:=Zkd i x k
  split
  ·split <;> simp <;> omega
  ·simp;omega
theorem Ztg{i:Nat}{x:Sta}{k n:Nat}(h:k<=n):∃r,Zce i x n=Zce i x k++r:=by
 induction n with
 | zero=>exact⟨[],by rw[show k=0 by omega];simp⟩
 | succ n ih=>
  by_cases e:k=n+1
  ·exact⟨[],by rw[e];simp⟩
  ·obtain⟨r,hr⟩:=ih (by omega)
   rw[Zce,hr];exact⟨_,List.append_assoc _ _ _⟩
theorem Zth{s:Sc}{k n:Nat}(h:k<=n):∃r,deadU s n=deadU s k++r:=by
 induction n with
 | zero=>exact⟨[],by rw[show k=0 by omega];simp⟩
 | succ n ih=>
  by_cases e:k=n+1
  ·exact⟨[],by rw[e];simp⟩
  ·obtain⟨r,hr⟩:=ih (by omega)
   rw[deadU,hr];exact⟨_,List.append_assoc _ _ _⟩
def Zw6:List Dd->List Dd->Bool
 | _,[]=>true
 | all,x::l=>match all.findIdx? (· == x)with
  | none=>false
  | some i=>Zw6 (all.drop (i+1)) l
end Go.Rx
namespace Go.Rx
open Go Go.Eng Go.RowKit
set_option maxRecDepth 100000
mutual
def T.er:T->T
 | .node k s0 s1 s2 s3 mn mx _ _ l=>.node k s0 s1 s2 s3 mn mx none 0 (erL l)
def erL:List T->List T
 | []=>[]
 | t::l=>t.er::erL l
end
theorem ZrH:∀l:List T,erL l=l.map T.er
 | []=>rfl
 | t::l=>by simp only[erL,List.map_cons,ZrH l]
@[simp] theorem ZyQ (t:T):t.er.k=t.k:=by cases t;rfl
@[simp] theorem ZAX (t:T):t.er.s0=t.s0:=by cases t;rfl
@[simp] theorem ZAY (t:T):t.er.s1=t.s1:=by cases t;rfl
@[simp] theorem ZAZ (t:T):t.er.s2=t.s2:=by cases t;rfl
@[simp] theorem ZA0 (t:T):t.er.s3=t.s3:=by cases t;rfl
@[simp] theorem ZA1 (t:T):t.er.mn=t.mn:=by cases t;rfl
@[simp] theorem ZA2 (t:T):t.er.mx=t.mx:=by cases t;rfl
@[simp] theorem ZuZ (t:T):t.er.subs=t.subs.map T.er:=by cases t;simp only[T.er,T.subs,ZrH]
mutual
theorem Zh8:∀t:T,t.er.nodes=t.nodes.map T.er
 | .node k s0 s1 s2 s3 mn mx a c l=>by
  simp only[T.er,T.nodes,List.map_cons]
  rw[ZoF l]
theorem ZoF:∀l:List T,Zaz (erL l)=(Zaz l).map T.er
 | []=>rfl
 | t::l=>by simp only[erL,Zaz,List.map_append,Zh8 t,ZoF l]
end
theorem ZzA(t:T)(k:Int):t.er.has k=t.has k:=by
 unfold T.has;rw[ZuZ,List.any_map];congr 1;funext x;simp
theorem ZvQ(t:T):t.er.right=t.right:=by
 unfold T.right T.setZ
 simp only[ZzA,ZyQ,ZAX,ZAY,ZAZ,ZA0,ZA1,ZA2,ZuZ,List.length_map]
theorem Zf5(t:T):t.er.light=t.light:=by unfold T.light;rw[Zh8,List.length_map]
theorem ZzB(l:List T):(l.map T.er).all T.right=l.all T.right:=by
 rw[List.all_map];congr 1;funext x;exact ZvQ x
theorem ZvR(t:T):t.er.clean=t.clean:=by unfold T.clean;rw[Zf5,Zh8,ZzB]
theorem ZrI(t:T):t.er.size=t.size:=by unfold T.size;rw[Zf5,Zh8,List.length_map]
theorem ZoG(t:T):t.er.groups=t.groups:=by
 unfold T.groups;rw[Zf5,Zh8,List.countP_map]
 have:((λx:T=>x.k == 6)∘T.er)=λx:T=>x.k == 6:=by funext x;simp
 rw[this]
mutual
theorem ZxV:∀t:T,t.er.pos=t.pos
 | .node k s0 s1 s2 s3 mn mx a c l=>by simp only[T.er,T.pos,Zu0 l]
theorem Zu0:∀l:List T,ZeD (erL l)=ZeD l
 | []=>rfl
 | t::l=>by simp only[erL,ZeD,ZxV t,Zu0 l]
end
theorem Zmt(t:T):t.er.positions=t.positions:=by unfold T.positions;rw[Zf5,ZxV]
theorem ZvS(t:T):t.er.check=t.check:=by unfold T.check;rw[ZvR,ZrI,Zmt,ZoG]
def T.caps(t:T):Prop:=∀x∈t.nodes,x.subs.length<=x.c
theorem Zti{k s0 s1 s2 s3 mn mx:Int}{a:Option Addr}{c:Nat}{l:List T}(h:l.length<=c)(hl:∀x∈l,x.caps):(T.node k s0 s1 s2 s3 mn mx a c l).caps:=by
 intro y hy
 rw[Zcy]at hy
 rcases List.mem_cons.1 hy with rfl|hy
 ·exact h
 ·obtain⟨x,hx,hy⟩:∃x∈l,y∈x.nodes:=by
   have:∀l:List T,y∈Zaz l->∃x∈l,y∈x.nodes:=λl=>by
    induction l with
    | nil=>intro h;simp[Zaz]at h
    | cons x l ih=>
     intro h
     simp only[Zaz,List.mem_append]at h
     rcases h with h|h
     ·exact⟨x,by simp,h⟩
     ·obtain⟨z,hz,h⟩:=ih h
      exact⟨z,by simp[hz],h⟩
   exact this l hy
  exact hl x hx y hy
theorem ZxW{k s0 s1 s2 s3 mn mx:Int}{a a':Option Addr}{c c':Nat}{l l':List T}(h:l.map T.er=l'.map T.er):(T.node k s0 s1 s2 s3 mn mx a c l).er=(T.node k s0 s1 s2 s3 mn mx a' c' l').er:=by
 simp only[T.er,ZrH,h]
end Go.Rx
namespace Go.Rx
open Go Go.Eng Go.RowKit
def Old(m:Mem)(b:Nat):Prop:=¬m.free b
noncomputable def nw(m m':Mem):Mem:=⟨(m'.off (Old m)).c,λ_=>none⟩
theorem ZrJ(m m':Mem):(nw m m').le m':=⟨(Mem.off_le m' (Old m)).c,λ_ _ h=>by cases h⟩
theorem Zc5{m m':Mem}(h:m.le m'){b:Nat}(hf:m'.free b):m.free b:=λo=>by
 cases he:m b o with
 | none=>rfl
 | some v=>have:=h _ _ _ he;rw[hf o]at this;cases this
theorem Zke{m m':Mem}(h:m.le m'){b:Nat}(hf:m'.k b=none):m.k b=none:=by
 cases he:m.k b with
 | none=>rfl
 | some v=>have:=h.k _ _ he;rw[hf]at this;cases this
theorem Ztj{m m':Mem}{b:Nat}(h:¬m.free b):(nw m m').free b:=λo=>Mem.off_free (m:=m') (Y:=Old m) h o
theorem Zw7{m m':Mem}{b:Nat}(h:m.free b)(o:Nat):nw m m' b o=m' b o:=Mem.off_at (m:=m') (Y:=Old m) (λk=>k h) o
theorem Zek{m0 m m' m'':Mem}(h1:m0.le m)(h2:m'.le m''):(nw m m').le (nw m0 m''):=⟨λb o v hv=>by
 have hf:m.free b:=Classical.byContradiction λhn=>by rw[Ztj hn]at hv;cases hv
 rw[Zw7 hf]at hv;rw[Zw7 (Zc5 h1 hf)];exact h2 _ _ _ hv,λb e he=>by cases he⟩
theorem ZrK{m m':Mem}{a:Option Addr}{cs:List Value}(h:rowRd m' a cs)(hf:cs=[]\/∀b o,a=some ⟨b,o,none⟩->m.free b):rowRd (nw m m') a cs:=by
 rcases hf with hf|hf
 ·exact .inl hf
 rcases h with h|⟨b,o,ha,h⟩
 ·exact .inl h
 ·exact .inr ⟨b,o,ha,λj v hj=>by rw[Zw7 (hf b o ha)];exact h j v hj⟩
theorem ZxX{m m':Mem}{Y:Nat->Prop}(h:m.le m')(hf:∀b,Y b->m.free b/\m.k b=none):m.le (m'.off Y):=⟨λb o v hv=>by
 rw[Mem.off_at (λhy=>by rw[(hf b hy).1 o]at hv;cases hv)];exact h _ _ _ hv,λb e he=>by
 rw[Mem.off_k (λhy=>by rw[(hf b hy).2]at he;cases he)];exact h.k _ _ he⟩
structure Each {α β:Type}(cs:β->List Value)(Q:α->β->Mem->Prop)(m m':Mem)(L:List α)(a:Option Addr)(c:Nat)(L':List β)(μ:Nat->Mem):Prop where
 len:L'.length=L.length
 le:m.le m'
 row:rowRd m' a (L'.map cs).flatten
 q:∀i x y,L[i]?=some x->L'[i]?=some y->Q x y (μ i)
 sub:∀i,i < L.length->(μ i).le (nw m m')
 ap:∀i j,i < j->j < L.length->∀b,(μ i).free b\/(μ j).free b
 blk:(L=[]/\a=none/\c=0)\/(L≠[]/\∃b,a=some ⟨b,0,none⟩/\m.free b/\m.k b=none/\∀i,i < L.length->(μ i).free b/\(μ i).k b=none)
 cap:L'.length<=c
theorem Each.nil{α β:Type}{cs:β->List Value}{Q:α->β->Mem->Prop}(m:Mem):Each cs Q m m ([]:List α) none 0 [] λ_=>m:=
 ⟨rfl,Mem.le_refl m,.inl rfl,by simp,by simp,by simp,.inl ⟨rfl,rfl,rfl⟩,by simp⟩
theorem Each.step{α β:Type}{cs:β->List Value}{Q:α->β->Mem->Prop}{m m':Mem}{L:List α}{k:Nat}{a:Option Addr}{c:Nat}{L':List β}{μ:Nat->Mem}{n:Nat}(hn:∀y,(cs y).length=n)(h0:0 < n)(h:Each cs Q m m' (L.take k) a c L' μ){x:α}(hx:L[k]?=some x)
  {m3:Mem} {y:β} (h3:m'.le m3) (hq:Q x y (nw m' m3)) {b3:Nat} (iQ:m3.free b3) {a':Option Addr} {c':Nat} {m4:Mem} (h4:(m3.add b3 (cs y)).le m4) (aM:rowRd m4 a' ((L'++[y]).map cs).flatten) (ht:TokFact (m3.add b3 (cs y)) a a' (L'.length+1) c'):
  Each cs Q m m4 (L.take (k+1)) a' c' (L'++[y]) (λi=>if i=k then nw m' m3 else μ i):=by
 have hk:k < L.length:=(zA0 hx).1
 have e:L.take (k+1)=L.take k++[x]:=by rw[List.take_add_one,hx];rfl
 have lk:(L.take k).length=k:=by rw[List.length_take];omega
 have lk':L'.length=k:=h.len.trans lk
 have add3:m3.le (m3.add b3 (cs y)):=Mem.le_add iQ _
 have tJ:m3.le m4:=mLt add3 h4
 have jh:m'.le m4:=mLt h3 tJ
 have tK:m.le (m3.add b3 (cs y)):=mLt h.le (mLt h3 add3)
 have dF:((L'++[y]).map cs).flatten≠[]:=by
  intro hz
  have:=congrArg List.length hz
  rw[Za3 hn,zA1,List.length_cons]at this
  have h5:0 < (L'.length+(([]:List β).length+1))*n:=Nat.mul_pos (by omega) h0
  rw[this]at h5;exact absurd h5 (by simp)
 have ha':∃b,a'=some ⟨b,0,none⟩/\m.free b/\m.k b=none/\(∀i,i < k->(μ i).free b/\(μ i).k b=none)/\((nw m' m3).free b/\(nw m' m3).k b=none):=by
  rcases ht.2 with h1|⟨b,o,h1,h2⟩
  ·rcases aM with h2|⟨b,o,h2,_⟩
   ·exact absurd h2 dF
   ·rw[h1]at h2;cases h2
  ·rcases h2 with h2|⟨h2,h5,h6⟩
   ·rcases h.blk with⟨_,h7,_⟩|⟨h6,b',h7,h8,h8',h9⟩
    ·rw[h7,h1]at h2;cases h2
    ·rw[h7,h1]at h2
     simp only[Option.some.injEq,Addr.mk.injEq,and_true]at h2
     obtain⟨rfl,rfl⟩:=h2
     have ib:¬m'.free b':=λhf=>by
      rcases h.row with gI|⟨b2,o2,gI,l3⟩
      ·have:=congrArg List.length gI
       rw[Za3 hn,lk']at this
       have oH:k≠0:=λe=>h6 (by rw[e];rfl)
       have qm:0 < k*n:=Nat.mul_pos (by omega) h0
       simp at this;omega
      ·rw[h7]at gI;cases gI
       have oH:k≠0:=λe=>h6 (by rw[e];rfl)
       have qm:0 < k*n:=Nat.mul_pos (by omega) h0
       have aO:0 < (L'.map cs).flatten.length:=by rw[Za3 hn,lk'];exact qm
       have:=l3 0 _ (zA3 aO)
       rw[hf]at this;cases this
     refine⟨b',h1,h8,h8',λi hi=>h9 i (by omega),Ztj ib,rfl⟩
   ·subst h2
    have hs:∀i,i < k->(μ i).le (m3.add b3 (cs y)):=λi hi=>mLt (h.sub i (by omega)) (mLt (ZrJ _ _) (mLt h3 add3))
    have md:(nw m' m3).le (m3.add b3 (cs y)):=mLt (ZrJ _ _) add3
    exact⟨b,h1,Zc5 tK h5,Zke tK h6,λi hi=>⟨Zc5 (hs i hi) h5,Zke (hs i hi) h6⟩,Zc5 md h5,Zke md h6⟩
 obtain⟨b,hb,cG,eV,eQ,nV⟩:=ha'
 refine⟨by rw[zA1,List.length_take,lk'];simp;omega,mLt h.le jh,aM,λi u v hu hv=>?_,λi hi=>?_,λi j qn hj b'=>?_,.inr ⟨by rw[e];simp,b,hb,cG,eV,λi hi=>?_⟩,by have:=ht.1;rw[zA1];exact this⟩
 ·rw[e]at hu
  by_cases mf:i=k
  ·subst mf
   rw[zA4 (by omega),lk,Nat.sub_self]at hu
   rw[zA4 (by omega),lk',Nat.sub_self]at hv
   cases hu;cases hv
   rw[if_pos rfl];exact hq
  ·have hi:i < k:=by
    have:=(zA0 hu).1
    rw[zA1,lk]at this;simp at this;omega
   rw[zA5 (by omega)]at hu hv
   rw[if_neg mf];exact h.q i u v hu hv
 ·by_cases mf:i=k
  ·subst mf;rw[if_pos rfl];exact Zek h.le tJ
  ·rw[if_neg mf]
   rw[List.length_take]at hi
   exact mLt (h.sub i (by omega)) (Zek (Mem.le_refl m) jh)
 ·rw[List.length_take]at hj
  by_cases tL:j=k
  ·subst tL
   rw[if_neg (by omega),if_pos rfl]
   by_cases hf:(μ i).free b'
   ·exact .inl hf
   ·exact .inr (Ztj λrQ=>hf (Zc5 (mLt (h.sub i (by omega)) (ZrJ _ _)) rQ))
  ·rw[if_neg (by omega),if_neg tL];exact h.ap i j qn (by omega) b'
 ·by_cases mf:i=k
  ·subst mf;rw[if_pos rfl];exact nV
  ·rw[if_neg mf];rw[List.length_take]at hi;exact eQ i (by omega)
section
variable {α β:Type} {cs:β->List Value} {Q:α->β->Mem->Prop} {m m':Mem} {L:List α} {a:Option Addr} {c:Nat} {L':List β} {μ:Nat->Mem} (h:Each cs Q m m' L a c L' μ)
include h
theorem Each.rows:rowRd (nw m m') a (L'.map cs).flatten:=ZrK h.row (by
 rcases h.blk with⟨h1,_⟩|⟨_,b,hb,hf,_⟩
 ·left
  have:L'=[]:=List.eq_nil_of_length_eq_zero (by rw[h.len,h1];rfl)
  rw[this];rfl
 ·exact .inr λb' o e=>by rw[hb]at e;cases e;exact hf)
theorem Each.at{y:β}(hy:y∈L'):∃i x,L[i]?=some x/\L'[i]?=some y/\Q x y (μ i)/\(μ i).le (nw m m'):=by
 obtain⟨i,hi⟩:=List.getElem?_of_mem hy
 have aO:i < L.length:=by rw[<-h.len];exact(zA0 hi).1
 exact⟨i,L[i],zA3 aO,hi,h.q i _ _ (zA3 aO) hi,h.sub i aO⟩
theorem Each.same{γ:Type}{f:α->γ}{g:β->γ}(hs:∀x y μ,Q x y μ->g y=f x):L'.map g=L.map f:=by
 refine List.ext_getElem (by simp[h.len]) λi h1 h2=>?_
 simp only[List.length_map]at h1 h2
 rw[List.getElem_map,List.getElem_map]
 exact hs _ _ _ (h.q i _ _ (zA3 h2) (zA3 h1))
end
def Ztk{α β:Type}(cs:β->List Value)(Q:α->β->Mem->Prop)(m:Mem)(L:List α):Value->Mem->List (List Value)->Prop:=λv m' _=>∃a c L' μ,v=.slice a L'.length c/\Each cs Q m m' L a c L' μ
theorem Zha{α β:Type}{cs:β->List Value}{Q:α->β->Mem->Prop}{m:Mem}{L:List α}:∀(v:Value)(m':Mem) (css:List (List Value)),Ztk cs Q m L v m' css->Shape.fits .slice v=true:=λv _ _ ⟨_,_,_,_,h,_⟩=>by rw[h];rfl
mutual
def E.er:E->E
 | .node k x s g _ _ l=>.node k x s g none 0 (Zw9 l)
def Zw9:List E->List E
 | []=>[]
 | t::l=>t.er::Zw9 l
end
theorem Znu:∀l:List E,Zw9 l=l.map E.er
 | []=>rfl
 | t::l=>by simp only[Zw9,List.map_cons,Znu l]
@[simp] theorem ZAn (t:E):t.er.k=t.k:=by cases t;rfl
@[simp] theorem ZA3 (t:E):t.er.x=t.x:=by cases t;rfl
@[simp] theorem ZA4 (t:E):t.er.s=t.s:=by cases t;rfl
@[simp] theorem ZAo (t:E):t.er.g=t.g:=by cases t;rfl
@[simp] theorem ZvT (t:E):t.er.subs=t.subs.map E.er:=by cases t;simp only[E.er,E.subs,Znu]
mutual
theorem Zfn:∀t:E,t.er.nodes=t.nodes.map E.er
 | .node k x s g a c l=>by
  simp only[E.er,E.nodes,List.map_cons]
  rw[ZlN l]
theorem ZlN:∀l:List E,Zao (Zw9 l)=(Zao l).map E.er
 | []=>rfl
 | t::l=>by simp only[Zw9,Zao,List.map_append,Zfn t,ZlN l]
end
theorem Zel(t:E):t.er.light=t.light:=by unfold E.light;rw[Zfn,List.length_map]
theorem ZvU(t:E):t.er.size=t.size:=by unfold E.size;rw[Zel,Zfn,List.length_map]
theorem ZAp(t:E):nE t.er=nE t:=by unfold nE;rw[Zel,ZvU]
def Pt.er(p:Pt):Pt:=⟨p.k,p.s,p.g,p.e.er⟩
def Ac.er(a:Ac):Ac:=⟨a.k,a.s,none,0,a.parts.map Pt.er,a.e.er⟩
def Ru.er(r:Ru):Ru:=⟨r.k,r.bg,r.en,r.t.er,r.s,r.n,none,0,r.acts.map Ac.er,r.go,r.code⟩
def Sta.er(x:Sta):Sta:=⟨x.s,none,0,x.rules.map Ru.er⟩
def Sc.er(s:Sc):Sc:=⟨s.n,none,0,s.vars,none,0,s.states.map Sta.er⟩
theorem ZoH{α:Type}(f:α->Int)(g:α->α)(h:∀x,f (g x)=f x)(l:List α):ZbF ((l.map g).map f)=ZbF (l.map f):=by
 rw[List.map_map];congr 1;exact List.map_congr_left λx _=>h x
theorem ZA5(a:Ac):wA a.er=wA a:=by
 unfold wA
 show 1+nE a.e.er+((a.parts.map Pt.er).length:Int)+ZbF ((a.parts.map Pt.er).map λp=>nE p.e)=_
 rw[ZAp,List.length_map,ZoH (λp:Pt=>nE p.e) Pt.er (λp=>ZAp p.e)]
theorem ZA6(r:Ru):wR r.er=wR r:=by
 unfold wR
 show 1+ZgG r.t.er.size 20000+(if r.t.er.light then 0 else 20001)+ZbF ((r.acts.map Ac.er).map wA)=_
 rw[ZrI,Zf5,ZoH wA Ac.er ZA5]
theorem ZA7(x:Sta):wS x.er=wS x:=ZoH wR Ru.er ZA6 x.rules
theorem Ztl(s:Sc):s.er.weight=s.weight:=by
 unfold Sc.weight
 show(s.vars.length:Int)+((s.states.map Sta.er).length:Int)+ZbF ((s.states.map Sta.er).map wS)=_
 rw[List.length_map,ZoH wS Sta.er ZA7]
theorem Zkf(s:Sc):s.er.light=s.light:=by unfold Sc.light;rw[Ztl]
theorem ZoI{α:Type}(f:α->Int)(hf:∀x,0<=f x){l:List α}{x:α}(hx:x∈l):f x<=ZbF (l.map f):=by
 induction l with
 | nil=>cases hx
 | cons y l ih=>
  have h1:=Zfh f hf l
  have h2:=hf y
  simp only[List.map_cons,ZbF]
  rcases List.mem_cons.1 hx with rfl|hx
  ·omega
  ·have:=ih hx;omega
def LtA(a:Ac):Prop:=a.e.light=true/\∀p∈a.parts,p.e.light=true
def LtR(r:Ru):Prop:=r.t.light=true/\∀a∈r.acts,LtA a
theorem ZAq{e:E}(h:nE e<=20000):e.light=true:=by
 cases hl:e.light with
 | true=>rfl
 | false=>unfold nE at h;rw[hl]at h;simp at h
theorem ZzC{a:Ac}(h:wA a<=20000):LtA a:=by
 unfold wA at h
 have h1:=Zoy a.e
 have h2:=Zfh (λp:Pt=>nE p.e) (λp=>(Zoy p.e).1) a.parts
 exact⟨ZAq (by omega),λp hp=>ZAq (by have:=ZoI (λp:Pt=>nE p.e) (λp=>(Zoy p.e).1) hp;omega)⟩
theorem ZzD{r:Ru}(h:wR r<=20000):LtR r:=by
 unfold wR at h
 have h1:=(Zjs r.t).1
 have h2:=Zfh wA ZxK r.acts
 have h3:0<=ZgG r.t.size 20000:=by unfold ZgG;split <;> omega
 refine⟨?_,λa ha=>ZzC (by have:=ZoI wA ZxK ha;split at h <;> omega)⟩
 cases hl:r.t.light with
 | true=>rfl
 | false=>rw[hl]at h;simp at h;omega
theorem ZzE{s:Sc}(h:s.light=true):∀x∈s.states,∀r∈x.rules,LtR r:=λx hx r hr=>ZzD (by
 have h1:s.weight<=20000:=zA6 h
 unfold Sc.weight at h1
 have h2:=ZoI wS ZAk hx
 have h3:wR r<=wS x:=ZoI wR Zzb hr
 omega)
def QP(p q:Pt)(μ:Mem):Prop:=q.er=p.er/\RepP μ q
def QA(p q:Ac)(μ:Mem):Prop:=q.er=p.er/\RepA μ q
def QR(p q:Ru)(μ:Mem):Prop:=q.er=p.er/\RepR μ q
def ZBC(m μ:Mem)(y:Sta):Prop:=y.rules.length<=y.rc/\(y.rules=[]\/∃b,y.ra=some ⟨b,0,none⟩/\m.free b/\m.k b=none/\∀r∈y.rules,RepR (μ.off λk=>k=b) r)
def QS(m:Mem)(x y:Sta)(μ:Mem):Prop:=y.er=x.er/\RepS μ y/\ZBC m μ y
structure SepC (m m':Mem)(s:Sc)(b:Nat)(μ:Nat->Mem):Prop where
 sa:s.sa=some ⟨b,0,none⟩
 free:m.free b/\m.k b=none
 all:∀i x,s.states[i]?=some x->RepS (μ i) x/\ZBC m (μ i) x/\(μ i).le (nw m m')/\(μ i).free b
 ap:∀i j,i < j->j < s.states.length->∀b',(μ i).free b'\/(μ j).free b'
 va:∃μv:Mem,rowRd μv s.va (s.vars.map Va.cs).flatten/\μv.le (nw m m')/\μv.free b/\∀i,i < s.states.length->∀b',μv.free b'\/(μ i).free b'
theorem Ztm{m0 m m' M:Mem}{x:Ac}{a:Option Addr}{c:Nat}{L':List Pt}{μ:Nat->Mem}{e:E}(hx:RepA m0 x)(h:Each Pt.cs QP m m' x.parts a c L' μ)(hM:(nw m m').le M)(he:RepE M e):RepA M ⟨x.k,x.s,a,c,L',e⟩:=
 ⟨hx.k,hx.s,by rw[h.len];exact hx.n,h.rows.mono hM,λp hp=>by
  obtain⟨i,y,_,_,hq,hs⟩:=h.at hp
  exact hq.2.mono (mLt hs hM),he⟩
theorem Ztn{m0 m m' M:Mem}{x:Ru}{a:Option Addr}{c:Nat}{L':List Ac}{μ:Nat->Mem}{t:T}(hx:RepR m0 x)(h:Each Ac.cs QA m m' x.acts a c L' μ)(hM:(nw m m').le M)(ht:Rep M t):RepR M ⟨x.k,x.bg,x.en,t,x.s,x.n,a,c,L',x.go,x.code⟩:=
 ⟨hx.k,ht,hx.s,hx.n,by rw[h.len];exact hx.len,h.rows.mono hM,λp hp=>by
  obtain⟨i,y,_,_,hq,hs⟩:=h.at hp
  exact hq.2.mono (mLt hs hM),hx.go,hx.code⟩
theorem Zu1{m m':Mem}{Y:Nat->Prop}(h:m.le m'):(m.off Y).le (m'.off Y):=⟨λb o v hv=>by
 by_cases hy:Y b
 ·rw[Mem.off_free hy]at hv;cases hv
 ·rw[Mem.off_at hy]at hv ⊢;exact h _ _ _ hv,λb e he=>by
 by_cases hy:Y b
 ·rw[Mem.off_kn hy]at he;cases he
 ·rw[Mem.off_k hy]at he ⊢;exact h.k _ _ he⟩
theorem QS.mono{m0 μ μ':Mem}{x y:Sta}(h:QS m0 x y μ)(hm:μ.le μ'):QS m0 x y μ':=
 ⟨h.1,h.2.1.mono hm,h.2.2.1,h.2.2.2.imp_right λ⟨b,h1,h2,h3,h4⟩=>⟨b,h1,h2,h3,λr hr=>(h4 r hr).mono (Zu1 hm)⟩⟩
theorem ZxY{m0 m m':Mem}{x:Sta}{a:Option Addr}{c:Nat}{L':List Ru}{μ:Nat->Mem}(h0:m0.le m)(hx:RepS m x)(h:Each Ru.cs QR m m' x.rules a c L' μ):QS m0 x ⟨x.s,a,c,L'⟩ (nw m m'):=by
 refine⟨?_,⟨hx.s,by rw[h.len];exact hx.len,h.rows,λp hp=>by
  obtain⟨i,y,_,_,hq,hs⟩:=h.at hp
  exact hq.2.mono hs⟩,h.cap,?_⟩
 ·simp only[Sta.er,Sta.mk.injEq,true_and]
  exact h.same λx y μ hq=>hq.1
 ·rcases h.blk with⟨h1,_⟩|⟨_,b,hb,hf,hk,hμ⟩
  ·exact .inl (List.eq_nil_of_length_eq_zero (by rw[h.len,h1];rfl))
  ·refine .inr ⟨b,hb,Zc5 h0 hf,Zke h0 hk,λr hr=>?_⟩
   obtain⟨i,y,hi,_,hq,hs⟩:=h.at hr
   exact hq.2.mono (ZxX hs λb' e=>by rw[e];exact hμ i (zA0 hi).1)
end Go.Rx
namespace Go.Rx
open Go
variable {P:Program}
end Go.Rx
namespace Go.Rx
open Go Go.Proofs Go.Shelf Go.RowKit Go.Lib Go.Sort
set_option maxHeartbeats 4000000
set_option maxRecDepth 1000000
structure DelLay (P:Program)(ρ:Ren)(k:Nat)(z:Value):Prop where
 mixed:P.follows .mixedOrders=true
 f45:Bears P (ρ.f 45) (SlBodyN.n45 ρ)
 t0:P.underlying (ρ.t 0)=some (TypeDesc.tuple #[])
 a0:∀w,(Go.isAgg (ρ.t 0)).run P w=.ok false w
 z0:∀w,(Go.sizeOf (ρ.t 0)).run P w=.ok 1 w
 v0:∀w,(zeroValue (ρ.t 0)).run P w=.ok (Value.tuple #[]) w
 t3:P.underlying (ρ.t 3)=some (TypeDesc.int IntKind.i64)
 a3:∀w,(Go.isAgg (ρ.t 3)).run P w=.ok false w
 z3:∀w,(Go.sizeOf (ρ.t 3)).run P w=.ok 1 w
 v3:∀w,(zeroValue (ρ.t 3)).run P w=.ok (Value.int IntKind.i64 0) w
 t4:P.underlying (ρ.t 4)=some (TypeDesc.bool)
 a4:∀w,(Go.isAgg (ρ.t 4)).run P w=.ok false w
 z4:∀w,(Go.sizeOf (ρ.t 4)).run P w=.ok 1 w
 v4:∀w,(zeroValue (ρ.t 4)).run P w=.ok (Value.bool false) w
 t22:P.underlying (ρ.t 22)=some (TypeDesc.slice (ρ.t 23))
 a22:∀w,(Go.isAgg (ρ.t 22)).run P w=.ok false w
 z22:∀w,(Go.sizeOf (ρ.t 22)).run P w=.ok 1 w
 v22:∀w,(zeroValue (ρ.t 22)).run P w=.ok (Value.slice none 0 0) w
 z23:∀w,(Go.sizeOf (ρ.t 23)).run P w=.ok k w
 v23:∀w,(zeroValue (ρ.t 23)).run P w=.ok z w
end Go.Rx
namespace Go.Rx
open Go Go.Eng Go.RowKit Go.Shelf
end Go.Rx
namespace Go.Rx
open Go Go.Eng Go.RowKit
theorem ZoJ{s s':Sc}(h:s'.er=s.er):s'.states.map Sta.er=s.states.map Sta.er:=congrArg Sc.states h
theorem ZAr{s s':Sc}(h:s'.er=s.er){i:Nat}{x:Sta}(hx:s.states[i]?=some x):∃x',s'.states[i]?=some x'/\x'.er=x.er:=by
 have:=congrArg (λl=>l[i]?) (ZoJ h)
 simp only[List.getElem?_map,hx,Option.map_some]at this
 obtain⟨x',h1,h2⟩:=Option.map_eq_some_iff.1 this
 exact⟨x',h1,h2⟩
theorem ZxZ{s s':Sc}(h:s'.er=s.er):s'.states.length=s.states.length:=by
 have:=congrArg List.length (ZoJ h);simpa using this
theorem ZvV{x x':Sta}(h:x'.er=x.er):x'.s=x.s/\x'.rules.map Ru.er=x.rules.map Ru.er/\x'.rules.length=x.rules.length:=by
 have h2:x'.rules.map Ru.er=x.rules.map Ru.er:=congrArg Sta.rules h
 have h1:x'.er.s=x.er.s:=congrArg Sta.s h
 exact⟨h1,h2,by have:=congrArg List.length h2;simpa using this⟩
theorem Zu2{s s':Sc}(h:s'.er=s.er):s'.n=s.n/\s'.vars=s.vars:=by
 have h1:s'.er.n=s.er.n:=congrArg Sc.n h
 have h2:s'.er.vars=s.er.vars:=congrArg Sc.vars h
 exact⟨h1,h2⟩
theorem ZrL{s s':Sc}(h1:s'.n=s.n)(h2:s'.vars=s.vars)(h3:s'.states.map Sta.er=s.states.map Sta.er):s'.er=s.er:=by
 unfold Sc.er;rw[h1,h2,h3]
theorem Zdl{l:List Ru}{cnt:Ru->Bool}{key:Ru->Int}:∀{i t:Nat} {z:Ru},Zdw l cnt key i=some t->l[t]?=some z->∀(j:Nat) y,j < i->l[j]?=some y->cnt y=true->key z<=key y/\(j < t->key z < key y)
 | 0,t,z,h,_,j,y,hj,_,_=>by omega
 | i+1,t,z,h,hz,j,y,hj,hy,hc=>by
  rw[Zdw]at h
  split at h
  ·rename_i hi
   by_cases e:j=i
   ·subst e;rw[hi]at hy;cases hy
   ·exact Zdl h hz j y (by omega) hy hc
  ·rename_i x hx
   split at h
   ·rename_i hb
    obtain rfl:i=t:=by simpa using h
    rw[hx]at hz;cases hz
    by_cases e:j=i
    ·subst e;rw[hx]at hy;cases hy;exact⟨Int.le_refl _,λh=>by omega⟩
    ·rw[zA7]at hb
     cases ho:Zdw l cnt key i with
     | none=>have:=ZcT ho j y (by omega) hy;rw[hc]at this;cases this
     | some u=>
      obtain⟨_,w,hw,_⟩:=Zbw ho
      have h1:=Zdl ho hw j y (by omega) hy hc
      have h2:=hb.2
      rw[ho]at h2
      simp only[ZpW,hw,decide_eq_true_eq]at h2
      exact⟨by omega,λ_=>by omega⟩
   ·rename_i hb
    by_cases e:j=i
    ·subst e;rw[hx]at hy;cases hy
     rw[hc,Bool.true_and,h]at hb
     have ht:=(Zbw h).1
     simp only[ZpW,hz,decide_eq_true_eq]at hb
     exact⟨by omega,λ_=>by omega⟩
    ·exact Zdl h hz j y (by omega) hy hc
theorem MkC.deadU{s:Sc}(h:MkC s)(n:Nat):(Go.Rx.deadU s n).length<=n*5:=by
 induction n with
 | zero=>simp[Go.Rx.deadU]
 | succ n ih=>
  rw[Go.Rx.deadU,zA1,Nat.succ_mul]
  refine Nat.add_le_add ih ?_
  split
  ·rename_i x hx
   exact Nat.le_trans (Zkd n x x.rules.length) (h.all n x hx).len
  ·simp
theorem MkC.dead{s:Sc}(h:MkC s):(ZaK s).length<=20:=Nat.le_trans (h.deadU s.states.length) (by have:=h.len;omega)
theorem MkC.wR{s:Sc}(h:MkC s){i a:Nat}{x:Sta}{r:Ru}(hx:s.states[i]?=some x)(hr:x.rules[a]?=some r):Go.Rx.wR r<=405:=((h.all i x hx).all r (zA2 hr)).w
theorem Zto(l:List E):Zj4 (l.map E.er)=Zj4 l:=by cases l <;> simp[Zj4]
theorem Ztp(t:E):t.er.right=t.right:=by
 unfold E.right
 simp only[ZAn,ZA3,ZA4,ZAo,ZvT,List.length_map,Zto]
theorem ZoK(t:E):t.er.clean=t.clean:=by
 unfold E.clean
 rw[Zel,Zfn,List.all_map]
 congr 2
 funext x;exact Ztp x
mutual
theorem ZoL:∀(t:E)(out:List ByteArray),t.er.names out=t.names out
 | .node k x s g a c l,out=>by
  simp only[E.er,E.names]
  rw[ZlO l out]
theorem ZlO:∀(l:List E)(out:List ByteArray),ZbA (Zw9 l) out=ZbA l out
 | [],out=>rfl
 | t::l,out=>by simp only[Zw9,ZbA];rw[ZoL t out,ZlO l]
end
theorem ZrM(t:E):t.er.vars=t.vars:=by unfold E.vars;rw[Zel,ZoL]
theorem ZrN(t:E):t.er.most=t.most:=by
 unfold E.most
 rw[Zel,Zfn,List.foldl_map]
 simp only[ZAn,ZAo]
mutual
theorem ZoM:∀t u:E,t.er.same u=t.same u
 | .node k x s g a c l,.node k' x' s' g' a' c' l'=>by
  simp only[E.er,E.same]
  rw[ZlP l l']
theorem ZlP:∀l r:List E,ZcB (Zw9 l) r=ZcB l r
 | [],r=>rfl
 | t::l,[]=>by simp[Zw9,ZcB]
 | t::l,u::r=>by simp only[Zw9,ZcB];rw[ZoM t u,ZlP l r]
end
theorem ZrO(t:E):ZlI t.er=ZlI t:=by unfold ZlI;rw[Zel,ZoM]
mutual
theorem ZoN:∀t u:T,t.er.same u=t.same u
 | .node k s0 s1 s2 s3 mn mx a c l,.node k' s0' s1' s2' s3' mn' mx' a' c' l'=>by
  simp only[T.er,T.same]
  rw[ZlQ l l']
theorem ZlQ:∀l r:List T,Zeu (erL l) r=Zeu l r
 | [],r=>rfl
 | t::l,[]=>by simp[erL,Zeu]
 | t::l,u::r=>by simp only[erL,Zeu];rw[ZoN t u,ZlQ l r]
end
theorem Zx0(r:Ru):Zw2 r.er=Zw2 r:=by
 unfold Zw2
 simp only[Ru.er]
 rw[Zf5,ZoN]
theorem ZqD(r:Ru):ZaR r.er=ZaR r:=by
 unfold ZaR
 rw[Zx0];rfl
theorem ZrP(r:Ru):ZbV r.er=ZbV r:=by
 unfold ZbV
 simp only[Ru.er]
 rw[ZoG];rfl
theorem ZvW(r:Ru):sizeR r.er=sizeR r:=by
 unfold sizeR
 simp only[Ru.er]
 rw[ZrI];rfl
theorem Zu3(l:List Sta)(name:ByteArray):((l.map Sta.er).any λx=>eqS x.s name)=l.any λx=>eqS x.s name:=by rw[List.any_map];rfl
theorem ZvX(s:Sc)(r:Ru)(n:Int):ZgF s.er r.er n=ZgF s r n:=by
 unfold ZgF ZgE
 rw[ZqD,Zkf]
 simp only[Ru.er,Sc.er,List.length_map,ZvS,Zu3]
theorem ZqE(s:Sc)(r:Ru)(a:Ac):ZbS s.er r.er a.er=ZbS s r a:=by
 unfold ZbS Zcm Zcg Zcm
 rw[ZrP]
 simp only[Ac.er,Sc.er,List.length_map,ZoK,ZrO,ZrM,ZrN]
theorem Ztq(p:Pt):Zbg p.er=Zbg p:=by
 unfold Zbg
 simp only[Pt.er,ZrO,ZoK];rfl
theorem ZvY(s:Sc)(r:Ru)(l:List Pt)(i:Nat)(p:Pt):Zfk s.er r.er (l.map Pt.er) i p.er=Zfk s r l i p:=by
 unfold Zfk Zcm Zcg Zcm
 rw[ZrP,Ztq]
 simp only[Pt.er,Sc.er,ZrM,ZrN,List.getElem?_map]
 cases l[i - 1]? <;> rfl
theorem Ztr(s:Sc)(i:Nat)(x:Sta):Zfj s.er i x.er=Zfj s i x:=by
 unfold Zfj
 simp only[Sta.er,Sc.er,List.length_map,<-List.map_take,Zu3]
theorem Zts(s:Sc)(i k:Nat):totals s.er i k=totals s i k:=by
 have h1:∀l:List Ru,(l.map Ru.er).map sizeR=l.map sizeR:=λl=>by
  rw[List.map_map];exact List.map_congr_left λr _=>ZvW r
 have hA:((s.states.map Sta.er).take i).map (λx=>ZbF (x.rules.map sizeR))=(s.states.take i).map λx=>ZbF (x.rules.map sizeR):=by
  rw[<-List.map_take,List.map_map]
  exact List.map_congr_left λx _=>by show ZbF ((x.rules.map Ru.er).map sizeR)=_;rw[h1]
 unfold totals
 rw[show s.er.states=s.states.map Sta.er from rfl,hA,List.getElem?_map]
 cases s.states[i]? with
 | none=>rfl
 | some x=>
  show _+ZbF (((x.rules.map Ru.er).take (k+1)).map sizeR)=_
  rw[<-List.map_take,h1]
theorem ZzF(s:Sc)(p:Pl):atS s.er p=atS s p:=by
 have hs:s.er.states=s.states.map Sta.er:=rfl
 have hw:Zg8 s.er=Zg8 s:=by unfold Zg8;simp only[Sc.er,List.length_map];rfl
 unfold atS
 rw[hw,hs,List.getElem?_map]
 congr 2
 cases s.states[p.s.toNat]? with
 | none=>rfl
 | some x=>
  show(if p.r < 0 then Zfj s.er p.s.toNat x.er else _)=_
  rw[Ztr]
  congr 1
  rw[show x.er.rules=x.rules.map Ru.er from rfl,List.getElem?_map]
  cases x.rules[p.r.toNat]? with
  | none=>rfl
  | some r=>
   show(if p.a < 0 then ZgF s.er r.er (totals s.er p.s.toNat p.r.toNat)else _)=_
   rw[ZvX,Zts]
   congr 1
   rw[show r.er.acts=r.acts.map Ac.er from rfl,List.getElem?_map]
   cases r.acts[p.a.toNat]? with
   | none=>rfl
   | some a=>
    show(if p.p < 0 then ZbS s.er r.er a.er else _)=_
    rw[ZqE]
    congr 1
    rw[show a.er.parts=a.parts.map Pt.er from rfl,List.getElem?_map]
    cases a.parts[p.p.toNat]? with
    | none=>rfl
    | some q=>exact ZvY s r a.parts _ q
theorem ZzG(i k m:Nat)(a:Ac):plA i k m a.er=plA i k m a:=by
 unfold plA
 rw[show a.er.parts.length=a.parts.length from List.length_map ..]
theorem ZzH(i k:Nat)(r:Ru):plR i k r.er=plR i k r:=by
 unfold plR
 rw[show r.er.acts.length=r.acts.length from List.length_map ..]
 congr 2
 funext m
 rw[show r.er.acts=r.acts.map Ac.er from rfl,List.getElem?_map]
 cases r.acts[m]? with
 | none=>rfl
 | some a=>exact ZzG i k m a
theorem ZzI(i:Nat)(x:Sta):plS i x.er=plS i x:=by
 unfold plS
 rw[show x.er.rules.length=x.rules.length from List.length_map ..]
 congr 2
 funext m
 rw[show x.er.rules=x.rules.map Ru.er from rfl,List.getElem?_map]
 cases x.rules[m]? with
 | none=>rfl
 | some r=>exact ZzH i m r
theorem Ztt(s:Sc):s.er.places=s.places:=by
 unfold Sc.places
 rw[Zkf,show s.er.states.length=s.states.length from List.length_map ..]
 congr 4
 funext i
 rw[show s.er.states=s.states.map Sta.er from rfl,List.getElem?_map]
 cases s.states[i]? with
 | none=>rfl
 | some x=>exact ZzI i x
theorem ZoO(s:Sc):s.er.check=s.check:=by
 unfold Sc.check Sc.problems
 rw[Zkf,Ztt]
 simp only[ZzF]
theorem ZoP{s s':Sc}(h:s'.er=s.er):s'.check=s.check:=by rw[<-ZoO s',h,ZoO]
theorem Ztu{α:Type}(f:α->Int){l:List α}{q:Nat}{x:α}(h:l[q]?=some x):ZbF ((l.take (q+1)).map f)=ZbF ((l.take q).map f)+f x:=by
 rw[List.take_add_one,h,List.map_append,Zj2]
 show _+(f x+0)=_
 omega
end Go.Rx
namespace Go.Rx
open Go Go.Eng
end Go.Rx
namespace Go.Rx
open Go Go.Eng Go.RowKit
theorem Znv(l:List Ru)(cnt:Ru->Bool)(key:Ru->Int)(h1:∀r,cnt r.er=cnt r)(h2:∀r,key r.er=key r):∀n,Zdw (l.map Ru.er) cnt key n=Zdw l cnt key n
 | 0=>rfl
 | n+1=>by
  rw[Zdw,Zdw,Znv l cnt key h1 h2 n,List.getElem?_map]
  cases l[n]? with
  | none=>rfl
  | some x=>
   have e:∀o,ZpW (l.map Ru.er) key o x.er=ZpW l key o x:=λo=>by
    cases o with
    | none=>rfl
    | some t=>
     simp only[ZpW,List.getElem?_map]
     cases l[t]? with
     | none=>rfl
     | some y=>simp only[Option.map_some,h2]
   simp only[Option.map_some,h1,e]
theorem ZzJ(x:Sta):toO x.er=toO x:=by
 unfold toO ZxU
 show Zdw (x.rules.map Ru.er) ZyO ZAV (x.rules.map Ru.er).length=_
 rw[Znv _ _ _ (λr=>rfl) (λr=>rfl),List.length_map]
theorem ZzK(x:Sta):eoO x.er=eoO x:=by
 unfold eoO ZxU
 show Zdw (x.rules.map Ru.er) ZyP ZAW (x.rules.map Ru.er).length=_
 rw[Znv _ _ _ (λr=>rfl) (λr=>rfl),List.length_map]
theorem ZrQ(i:Nat)(x:Sta):∀n,Zce i x.er n=Zce i x n
 | 0=>rfl
 | n+1=>by
  rw[Zce,Zce,ZrQ i x n,show x.er.rules=x.rules.map Ru.er from rfl,List.getElem?_map]
  cases x.rules[n]? with
  | none=>rfl
  | some r=>
   have:Zdk x.er n r.er=Zdk x n r:=by unfold Zdk;rw[ZzJ,ZzK];rfl
   simp only[Option.map_some,this]
theorem ZrR(s:Sc):∀n,deadU s.er n=deadU s n
 | 0=>rfl
 | n+1=>by
  rw[deadU,deadU,ZrR s n,show s.er.states=s.states.map Sta.er from rfl,List.getElem?_map]
  cases s.states[n]? with
  | none=>rfl
  | some x=>
   simp only[Option.map_some]
   rw[show x.er.rules.length=x.rules.length from List.length_map ..,ZrQ]
theorem Zu4{s s':Sc}(h:s'.er=s.er):ZaK s'=ZaK s:=by
 have e:∀s:Sc,ZaK s.er=ZaK s:=λs=>by
  unfold ZaK
  rw[show s.er.states.length=s.states.length from List.length_map ..,ZrR]
 rw[<-e s',h,e]
section
variable {P:Program} {K:TypeId} {κ ν:Type} [DecidableEq κ] {f:κ->Value} {g:ν->Value}
def ZyR(f:κ->Value)(g:ν->Value)(L:List (κ×ν)):List (Value×Value):=L.map λq=>(f q.1,g q.2)
variable (he:∀a b:κ,EqIs P K (f a) (f b) (decide (a=b)))
include he
theorem ZrS(k:κ):∀L:List (κ×ν),k ∉ L.map (·.1)->MapFind P K (f k) (ZyR f g L) none
 | [],_=>rfl
 | q::L,h=>by
  simp only[List.map_cons,List.mem_cons,not_or]at h
  have:=he k q.1
  rw[decide_eq_false h.1]at this
  exact .inr ⟨this,ZrS k L h.2⟩
theorem ZrT(k:κ)(z:ν):∀L:List (κ×ν),k ∉ L.map (·.1)->Zil P K (f k) (g z) (ZyR f g L) (ZyR f g (L++[(k,z)]))
 | [],_=>rfl
 | q::L,h=>by
  simp only[List.map_cons,List.mem_cons,not_or]at h
  have:=he k q.1
  rw[decide_eq_false h.1]at this
  exact .inr ⟨this,_,ZrT k z L h.2,rfl⟩
theorem Zu5(k:κ)(z:ν):∀L:List (κ×ν),(k,z)∈L->(L.map (·.1)).Nodup->MapFind P K (f k) (ZyR f g L) (some (g z))
 | [],h,_=>by cases h
 | q::L,h,hn=>by
  have h0:=he k q.1
  rw[List.map_cons,List.nodup_cons]at hn
  rcases List.mem_cons.1 h with h|h
  ·subst h
   rw[decide_eq_true rfl]at h0
   exact .inl ⟨h0,rfl⟩
  ·have:¬k=q.1:=λe=>hn.1 (by rw[<-e];exact List.mem_map.2 ⟨_,h,rfl⟩)
   rw[decide_eq_false this]at h0
   exact .inr ⟨h0,Zu5 k z L h hn.2⟩
end
theorem Ztv{s t:Sc}(hs:s.light=true)(ht:t.light=true)(gV:∀x∈t.states,x∈s.states)(bU:∀x∈s.states,x∈t.states)(name:ByteArray):ZgE t name=ZgE s name:=by
 unfold ZgE
 rw[hs,ht,Bool.and_true,Bool.and_true,Bool.eq_iff_iff,List.any_eq_true,List.any_eq_true]
 exact⟨λ⟨x,h1,h2⟩=>⟨x,gV x h1,h2⟩,λ⟨x,h1,h2⟩=>⟨x,bU x h1,h2⟩⟩
structure Turn (s t:Sc):Prop where
 n:t.n=s.n
 vars:t.vars=s.vars
 len:t.states.length=s.states.length
 sub:∀x∈t.states,x∈s.states
 sup:∀x∈s.states,x∈t.states
 dif:∀(i j:Nat)(x y:Sta),t.states[i]?=some x->t.states[j]?=some y->i≠j->eqS x.s y.s=false
section
variable {s t:Sc} (h:MkC s) (hT:Turn s t)
include h hT
theorem Turn.weight:t.weight<=8200:=by
 have h1:=Zka wS 2025 t.states (λx hx=>by
  obtain⟨i,_,hm⟩:=h.state (hT.sub x hx)
  exact hm.w)
 have h2:=h.len
 have h3:=h.vlen
 unfold Sc.weight
 rw[hT.vars,hT.len]
 rw[hT.len]at h1
 omega
theorem Turn.light:t.light=true:=by unfold Sc.light;exact decide_eq_true (by have:=hT.weight h;omega)
theorem Turn.totals(i k:Nat):Rx.totals t i k<=600:=by
 have h0:=h.len
 have h1:=Zka (λx:Sta=>ZbF (x.rules.map Rx.sizeR)) 130 (t.states.take i) (λx hx=>by
  obtain⟨j,_,hm⟩:=h.state (hT.sub x (List.mem_of_mem_take hx))
  have:=hm.sizes x.rules.length
  rwa [List.take_length]at this)
 rw[List.length_take,hT.len]at h1
 unfold Rx.totals
 cases hx:t.states[i]? with
 | none=>show _+0<=_;omega
 | some x=>
  have hi:=(zA0 hx).1
  rw[hT.len]at hi
  obtain⟨j,_,hm⟩:=h.state (hT.sub x (zA2 hx))
  have:=hm.sizes (k+1)
  show _+ZbF ((x.rules.take (k+1)).map Rx.sizeR)<=_
  omega
theorem Turn.at0:∀p∈t.places,atS t p=0:=by
 intro p hp
 have hP:∀{r:Ru} {a:Ac},MkA (ZbV r) a->∀{n:Nat} {q:Pt},a.parts[n]?=some q->Zfk t r a.parts n q=0:=λ{r a} ha {n q} hq=>by
  have e:Zfk t r a.parts n q=Zfk s r a.parts n q:=by unfold Zfk Zcm Zcg Zcm;rw[hT.vars]
  rw[e]
  cases ha with
  | send _ _ l hl=>exact h.part hl hq
  | set _ _ _ _ l hl=>exact h.part hl hq
  | let_ _ _ e _=>simp at hq
 rcases Zj6 t p hp with⟨i,hi,v,hv⟩|⟨hv,hs|⟨i,hi,x,hx,hr|⟨k,hk,r,hr,ha|⟨j,hj,a,ha,hq|⟨n,hn,q,hq⟩⟩⟩⟩⟩
 ·have e:atS t p=ZcE t i v:=by
   unfold atS
   rw[if_pos (by omega),show p.v.toNat=i by omega,hv]
  have e2:ZcE t i v=ZcE s i v:=by unfold ZcE;rw[hT.vars]
  rw[e,e2];exact h.var (by rw[<-hT.vars];exact hv)
 all_goals have hv':¬p.v ≥ 0:=by omega
 ·unfold atS
  rw[if_neg hv',if_pos hs]
  have e:Zg8 t=Zg8 s:=by unfold Zg8;rw[hT.n,hT.len,hT.vars]
  rw[e];exact h.whole
 all_goals
  have hs':¬p.s < 0:=by omega
  have lF:p.s.toNat=i:=by omega
  obtain⟨i0,tM,hm⟩:=h.state (hT.sub x (zA2 ‹t.states[i]?=some x›))
 ·have e:atS t p=Zfj t i x:=by
   unfold atS
   rw[if_neg hv',if_neg hs',lF,hx]
   exact if_pos hr
  rw[e]
  have h1:Zcq x.s=true:=ZuV _ (zA2 hm.name)
  have h2:decide (x.rules.length > 12)=false:=decide_eq_false (by have:=hm.len;omega)
  have h3:((t.states.take i).any λy=>eqS y.s x.s)=false:=by
   rw[List.any_eq_false]
   intro y hy
   obtain⟨j,hj⟩:=List.getElem?_of_mem hy
   have ld:j < i:=by have:=(zA0 hj).1;rw[List.length_take]at this;omega
   rw[List.getElem?_take_of_lt ld]at hj
   rw[hT.dif j i y x hj hx (by omega)];simp
  simp[Zfj,Zb9,h1,h2,h3]
 all_goals
  have hr':¬p.r < 0:=by omega
  have gF:p.r.toNat=k:=by omega
  have hR:=hm.all r (zA2 hr)
 ·have e:atS t p=ZgF t r (Rx.totals t i k):=by
   unfold atS
   rw[if_neg hv',if_neg hs',lF,hx]
   show(if p.r < 0 then _ else _)=_
   rw[if_neg hr',gF,hr]
   exact if_pos ha
  have e2:∀n,ZgF t r n=ZgF s r n:=λn=>by unfold ZgF;rw[Ztv h.light (hT.light h) hT.sub hT.sup]
  rw[e,e2];exact h.rule hR (hT.totals h i k)
 all_goals
  have ha':¬p.a < 0:=by omega
  have lR:p.a.toNat=j:=by omega
  have hA:=hR.all a (zA2 ‹r.acts[j]?=some a›)
 ·have e:atS t p=ZbS t r a:=by
   unfold atS
   rw[if_neg hv',if_neg hs',lF,hx]
   show(if p.r < 0 then _ else _)=_
   rw[if_neg hr',gF,hr]
   show(if p.a < 0 then _ else _)=_
   rw[if_neg ha',lR,‹r.acts[j]?=some a›]
   exact if_pos hq
  have e2:ZbS t r a=ZbS s r a:=by unfold ZbS Zcm Zcg Zcm;rw[hT.vars]
  rw[e,e2];exact h.action hA
 ·have e:atS t p=Zfk t r a.parts n q:=by
   unfold atS
   rw[if_neg hv',if_neg hs',lF,hx]
   show(if p.r < 0 then _ else _)=_
   rw[if_neg hr',gF,hr]
   show(if p.a < 0 then _ else _)=_
   rw[if_neg ha',lR,‹r.acts[j]?=some a›]
   show(if p.p < 0 then _ else _)=_
   rw[if_neg (by omega),show p.p.toNat=n by omega,hq]
  rw[e];exact hP hA hq
theorem Turn.check:t.check=(top,0):=by
 have e:t.problems=[]:=by
  unfold Sc.problems
  rw[List.filterMap_eq_nil_iff]
  intro p hp
  rw[if_pos (hT.at0 h p hp)]
 unfold Sc.check
 rw[if_pos (hT.light h),e]
end
def Zkg(s:Sc):Sc:=⟨s.n,none,0,s.vars,none,0,s.states.reverse⟩
theorem Ztw{s:Sc}(h:MkC s):Turn s (Zkg s):=by
 refine⟨rfl,rfl,List.length_reverse,λx hx=>List.mem_reverse.1 hx,λx hx=>List.mem_reverse.2 hx,λi j x y hx hy qn=>?_⟩
 have hx:s.states.reverse[i]?=some x:=hx
 have hy:s.states.reverse[j]?=some y:=hy
 have hi:=(zA0 hx).1
 have hj:=(zA0 hy).1
 rw[List.length_reverse]at hi hj
 rw[List.getElem?_reverse hi]at hx
 rw[List.getElem?_reverse hj]at hy
 have h4:=h.len
 have:=ZxS (s.states.length - 1 - i) (by omega) (s.states.length - 1 - j) (by omega) (by omega)
 rw[Zf4 (h.all _ x hx).name,Zf4 (h.all _ y hy).name]at this
 exact this
theorem Ztx{s:Sc}{i:Nat}{j:Int}(h:((i:Int),j)∈ZaK (Zkg s)):i < s.states.length/\(((s.states.length - 1 - i:Nat):Int),j)∈ZaK s:=by
 obtain⟨i',x,j',r,h1,h2,h3,h4⟩:=Zkc.1 h
 obtain⟨e1,rfl⟩:(i:Int)=i'/\j=j':=by simpa using h4
 obtain rfl:i=i':=by omega
 have h1:s.states.reverse[i]?=some x:=h1
 have hi:=(zA0 h1).1
 rw[List.length_reverse]at hi
 rw[List.getElem?_reverse hi]at h1
 exact⟨hi,Zkc.2 ⟨_,x,j',r,h1,h2,h3,rfl⟩⟩
theorem ZoQ(i:Nat)(x:Sta):∀n,(Zce i x n).length=(Zce 0 x n).length
 | 0=>rfl
 | n+1=>by
  rw[Zce,Zce,zA1,zA1,ZoQ i x n]
  congr 1
  split
  ·split <;> rfl
  ·rfl
def dlS(x:Sta):Int:=((Zce 0 x x.rules.length).length:Nat)
theorem Zkh(s:Sc):∀n,n<=s.states.length->((deadU s n).length:Int)=ZbF ((s.states.take n).map dlS)
 | 0,_=>by simp[deadU,ZbF]
 | n+1,h=>by
  obtain⟨x,hx⟩:∃x,s.states[n]?=some x:=⟨s.states[n],zA3 (by omega)⟩
  have ih:=Zkh s n (by omega)
  rw[Zd0 hx,Ztu _ hx,zA1,ZoQ]
  unfold dlS
  unfold dlS at ih
  omega
theorem ZrU{α:Type}(f:α->Int):∀l:List α,ZbF (l.reverse.map f)=ZbF (l.map f)
 | []=>rfl
 | x::l=>by
  rw[List.reverse_cons,List.map_append,Zj2,ZrU f l]
  simp only[List.map_cons,List.map_nil,ZbF]
  omega
theorem Zki(s:Sc):(ZaK (Zkg s)).length=(ZaK s).length:=by
 have h1:=Zkh s s.states.length (Nat.le_refl _)
 have h2:=Zkh (Zkg s) (Zkg s).states.length (Nat.le_refl _)
 rw[List.take_length]at h1 h2
 rw[show(Zkg s).states=s.states.reverse from rfl,ZrU]at h2
 have:((ZaK (Zkg s)).length:Int)=(ZaK s).length:=by
  show((deadU (Zkg s) (Zkg s).states.length).length:Int)=_
  rw[show(Zkg s).states=s.states.reverse from rfl,h2,<-h1];rfl
 omega
def kp(r:Ru):Bool:=decide (r.k ≥ 3)
def ZeZ(x:Sta):Sta:=⟨x.s,none,0,x.rules.filter kp⟩
def Ze0(x:Sta)(j:Nat):Nat:=((x.rules.take j).filter kp).length
theorem Zhb{x:Sta}{j:Nat}{r:Ru}(h:x.rules[j]?=some r):Ze0 x (j+1)=Ze0 x j+(if kp r then 1 else 0):=by
 unfold Ze0
 rw[List.take_add_one,h,List.filter_append,zA1]
 congr 1
 show([r].filter kp).length=_
 rw[List.filter_cons]
 split <;> rfl
theorem Zty{x:Sta}{i j:Nat}(h:i<=j):Ze0 x i<=Ze0 x j:=by
 induction j with
 | zero=>rw[show i=0 by omega];exact Nat.le_refl _
 | succ j ih=>
  by_cases e:i=j+1
  ·rw[e];exact Nat.le_refl _
  ·refine Nat.le_trans (ih (by omega)) ?_
   cases hx:x.rules[j]? with
   | some r=>rw[Zhb hx];omega
   | none=>unfold Ze0;rw[List.take_add_one,hx];simp
theorem ZrV{x:Sta}{i j:Nat}{r:Ru}(hr:x.rules[i]?=some r)(hk:kp r=true)(h:i < j):Ze0 x i < Ze0 x j:=by
 have h1:=Zhb hr
 rw[hk,if_pos rfl]at h1
 have:=Zty (x:=x) (show i+1<=j by omega)
 omega
theorem Zu6{x:Sta}{j:Nat}{r:Ru}(hr:x.rules[j]?=some r)(hk:kp r=true):(ZeZ x).rules[Ze0 x j]?=some r:=by
 have hj:=(zA0 hr).1
 have e:x.rules=x.rules.take j++r::x.rules.drop (j+1):=by
  rw[<-(zA0 hr).2,<-List.drop_eq_getElem_cons hj,List.take_append_drop]
 show(x.rules.filter kp)[Ze0 x j]?=some r
 have e2:x.rules.filter kp=(x.rules.take j).filter kp++r::(x.rules.drop (j+1)).filter kp:=by
  conv=>lhs;rw[e]
  rw[List.filter_append,List.filter_cons,if_pos hk]
 rw[e2]
 unfold Ze0
 rw[zA4 (Nat.le_refl _),Nat.sub_self];rfl
theorem Zkj{p:Ru->Bool}:∀{l:List Ru} {i:Nat} {r:Ru},(l.filter p)[i]?=some r->∃j,l[j]?=some r/\p r=true/\((l.take j).filter p).length=i
 | [],i,r,h=>by simp at h
 | a::l,i,r,h=>by
  rw[List.filter_cons]at h
  by_cases hp:p a
  ·rw[if_pos hp]at h
   cases i with
   | zero=>simp at h;subst h;exact⟨0,rfl,hp,rfl⟩
   | succ i=>
    obtain⟨j,h1,h2,h3⟩:=Zkj (l:=l) (i:=i) (by simpa using h)
    exact⟨j+1,by simpa using h1,h2,by rw[List.take_succ_cons,List.filter_cons,if_pos hp,List.length_cons,h3]⟩
  ·rw[if_neg hp]at h
   obtain⟨j,h1,h2,h3⟩:=Zkj (l:=l) (i:=i) h
   exact⟨j+1,by simpa using h1,h2,by rw[List.take_succ_cons,List.filter_cons,if_neg hp,h3]⟩
theorem ZoR{x:Sta}{i:Nat}{r:Ru}(h:(ZeZ x).rules[i]?=some r):∃j,x.rules[j]?=some r/\kp r=true/\Ze0 x j=i:=Zkj h
theorem ZrW{x:Sta}{i j:Nat}{p q:Ru}(hp:x.rules[i]?=some p)(hq:x.rules[j]?=some q)(kpp:kp p=true)(kpq:kp q=true)(h:Ze0 x i=Ze0 x j):i=j:=by
 rcases Nat.lt_trichotomy i j with h1|h1|h1
 ·have:=ZrV hp kpp h1;omega
 ·exact h1
 ·have:=ZrV hq kpq h1;omega
theorem ZrX{x:Sta}(cnt:Ru->Bool)(key:Ru->Int)(hc:∀r,cnt r=true->kp r=true):ZxU (ZeZ x).rules cnt key=(ZxU x.rules cnt key).map (Ze0 x):=by
 cases ho:ZxU x.rules cnt key with
 | none=>
  cases h:ZxU (ZeZ x).rules cnt key with
  | none=>rfl
  | some u=>
   obtain⟨_,y,hy,nW⟩:=Zbw h
   obtain⟨j,h1,_,_⟩:=ZoR hy
   have:=ZcT ho j y (zA0 h1).1 h1
   rw[nW]at this;cases this
 | some k=>
  obtain⟨hk,z,hz,mg⟩:=Zbw ho
  have qo:=hc z mg
  have lT:=Zu6 hz qo
  cases h:ZxU (ZeZ x).rules cnt key with
  | none=>
   have:=ZcT h _ z (zA0 lT).1 lT
   rw[mg]at this;cases this
  | some u=>
   obtain⟨hu,y,hy,nW⟩:=Zbw h
   obtain⟨j,h1,h2,h3⟩:=ZoR hy
   have a1:=Zdl ho hz j y (zA0 h1).1 h1 nW
   have a2:=Zdl h hy _ z (zA0 lT).1 lT mg
   have:j=k:=by
    rcases Nat.lt_trichotomy j k with g|g|g
    ·have:=a1.2 g;omega
    ·exact g
    ·have:=a2.2 (by rw[<-h3];exact ZrV hz qo g);omega
   subst this
   rw[<-h3];rfl
theorem ZqF{x:Sta}{j:Nat}{r:Ru}(hr:x.rules[j]?=some r)(hk:kp r=true):Zdk (ZeZ x) (Ze0 x j) r=Zdk x j r:=by
 have c1:∀r:Ru,ZyO r=true->kp r=true:=λr h=>by
  have h4:r.k=4:=by simpa[ZyO]using h
  unfold kp;exact decide_eq_true (by omega)
 have c2:∀r:Ru,ZyP r=true->kp r=true:=λr h=>by
  have h4:r.k=3:=by simpa[ZyP]using h
  unfold kp;exact decide_eq_true (by omega)
 have e1:toO (ZeZ x)=(toO x).map (Ze0 x):=ZrX ZyO ZAV c1
 have e2:eoO (ZeZ x)=(eoO x).map (Ze0 x):=ZrX ZyP ZAW c2
 have key:∀(o:Option Nat)(cnt:Ru->Bool),cnt r=true->(∀k,o=some k->∃z,x.rules[k]?=some z/\kp z=true)->(o=none->False)->(((Ze0 x j:Nat):Int) == Zw5 (o.map (Ze0 x)))=((j:Int) == Zw5 o):=by
  intro o cnt _ h1 h2
  cases o with
  | none=>exact(h2 rfl).elim
  | some k=>
   obtain⟨z,hz,qo⟩:=h1 k rfl
   show(((Ze0 x j:Nat):Int) == ((Ze0 x k:Nat):Int))=((j:Int) == (k:Int))
   rw[Bool.eq_iff_iff,beq_iff_eq,beq_iff_eq]
   constructor
   ·intro e
    have:=ZrW hr hz hk qo (by omega)
    omega
   ·intro e
    have:j=k:=by omega
    rw[this]
 have hj:=(zA0 hr).1
 unfold Zdk
 rw[e1,e2]
 congr 1
 ·by_cases h4:r.k=4
  ·rw[key (toO x) ZyO (by simp[ZyO,h4]) (λk hk=>by obtain⟨_,z,hz,hc⟩:=Zbw hk;exact⟨z,hz,c1 z hc⟩) (λhn=>by have:=ZcT hn j r hj hr;simp[ZyO,h4]at this)]
  ·rw[show(r.k == 4)=false by simpa using h4];rfl
 ·by_cases h4:r.k=3
  ·rw[key (eoO x) ZyP (by simp[ZyP,h4]) (λk hk=>by obtain⟨_,z,hz,hc⟩:=Zbw hk;exact⟨z,hz,c2 z hc⟩) (λhn=>by have:=ZcT hn j r hj hr;simp[ZyP,h4]at this)]
  ·rw[show(r.k == 3)=false by simpa using h4];rfl
def ZA8(x:Sta)(d:Dd):Dd:=(d.1,(Ze0 x d.2.toNat:Nat))
theorem ZlR(i:Nat)(x:Sta):∀n,n<=x.rules.length->Zce i (ZeZ x) (Ze0 x n)=(Zce i x n).map (ZA8 x)
 | 0,_=>by simp[Zce,Ze0]
 | n+1,h=>by
  obtain⟨r,hr⟩:∃r,x.rules[n]?=some r:=⟨x.rules[n],zA3 (by omega)⟩
  have ih:=ZlR i x n (by omega)
  rw[Zhb hr,Zfm hr,List.map_append,<-ih]
  cases hk:kp r with
  | true=>
   rw[if_pos rfl,Zfm (Zu6 hr hk),ZqF hr hk]
   congr 1
   split
   ·simp[ZA8]
   ·rfl
  | false=>
   have h3:¬r.k ≥ 3:=of_decide_eq_false hk
   have:Zdk x n r=false:=by
    unfold Zdk
    rw[show(r.k == 4)=false by simp;omega,show(r.k == 3)=false by simp;omega];rfl
   rw[this]
   simp
theorem ZoS(x:Sta):Ze0 x x.rules.length=(ZeZ x).rules.length:=by unfold Ze0;rw[List.take_length];rfl
def Zu7(s:Sc):Sc:=⟨s.n,none,0,s.vars,none,0,s.states.map ZeZ⟩
def phi(s:Sc)(d:Dd):Dd:=match s.states[d.1.toNat]? with
 | some x=>ZA8 x d
 | none=>d
theorem ZlS(s:Sc):∀n,n<=s.states.length->deadU (Zu7 s) n=(deadU s n).map (phi s)
 | 0,_=>rfl
 | n+1,h=>by
  obtain⟨x,hx⟩:∃x,s.states[n]?=some x:=⟨s.states[n],zA3 (by omega)⟩
  have hb:(Zu7 s).states[n]?=some (ZeZ x):=by
   show(s.states.map ZeZ)[n]?=_
   rw[List.getElem?_map,hx];rfl
  rw[Zd0 hx,Zd0 hb,ZlS s n (by omega),List.map_append,<-ZoS,ZlR n x _ (Nat.le_refl _)]
  congr 1
  refine List.map_congr_left λd hd=>?_
  obtain⟨h1,_⟩:=Zg9.1 hd
  unfold phi
  rw[h1,zA8,hx]
theorem Ztz(s:Sc):ZaK (Zu7 s)=(ZaK s).map (phi s):=by
 have:=ZlS s s.states.length (Nat.le_refl _)
 unfold ZaK
 rw[<-this]
 show deadU (Zu7 s) (s.states.map ZeZ).length=_
 rw[List.length_map]
theorem MkC.bare{s:Sc}(h:MkC s):MkC (Zu7 s):=by
 refine⟨h.n,h.vlen,h.vall,by show 1<=(s.states.map ZeZ).length/\(s.states.map ZeZ).length<=4;rw[List.length_map];exact h.len,λi x hx=>?_⟩
 have hx:(s.states.map ZeZ)[i]?=some x:=hx
 rw[List.getElem?_map]at hx
 obtain⟨x0,h0,rfl⟩:=Option.map_eq_some_iff.1 hx
 have hs:=h.all i x0 h0
 refine⟨hs.name,Nat.le_trans (List.length_filter_le _ _) hs.len,λr hr=>?_⟩
 show MkR (s.states.map ZeZ).length r
 rw[List.length_map]
 exact hs.all r (List.mem_filter.1 hr).1
theorem Zx1{s:Sc}{d:Dd}(h:d∈ZaK s):∃(i k:Nat)(x:Sta)(r:Ru),d=((i:Int),(k:Int))/\s.states[i]?=some x/\x.rules[k]?=some r/\kp r=true/\phi s d=((i:Int),((Ze0 x k:Nat):Int)):=by
 obtain⟨i,x,k,r,h1,h2,h3,rfl⟩:=Zkc.1 h
 refine⟨i,k,x,r,rfl,h1,h2,?_,?_⟩
 ·unfold Zdk at h3
  rw[Bool.or_eq_true,zA7,zA7]at h3
  unfold kp
  rcases h3 with⟨h4,_⟩|⟨h4,_⟩
  ·have:r.k=4:=by simpa using h4
   exact decide_eq_true (by omega)
  ·have:r.k=3:=by simpa using h4
   exact decide_eq_true (by omega)
 ·unfold phi ZA8
  simp only[zA8,h1]
theorem ZlT{m:Mem}{Y:Nat->Prop}{a:Option Addr}{L:List Value}(h:rowRd m a L)(ha:∀b o,a=some ⟨b,o,none⟩->¬Y b):rowRd (m.off Y) a L:=by
 rcases h with h|⟨b,o,h1,h2⟩
 ·exact .inl h
 ·exact .inr ⟨b,o,h1,λj v hv=>by rw[Mem.off_at (ha b o h1)];exact h2 j v hv⟩
theorem ZrY{m:Mem}{Y:Nat->Prop}{b:Nat}{e:List (Value×Value)}(h:Y b):(m.off Y).le ((m.updK b e).off Y):=⟨λb' o v hv=>by
 by_cases hy:Y b'
 ·rw[Mem.off_free hy]at hv;cases hv
 ·rw[Mem.off_at hy]at hv ⊢;exact hv,λb' e' he=>by
 by_cases hy:Y b'
 ·rw[Mem.off_kn hy]at he;cases he
 ·rw[Mem.off_k hy]at he ⊢
  rw[Mem.updK_other m (show b'≠b from λe=>hy (by rw[e];exact h))];exact he⟩
theorem ZvZ{m:Mem}{Y:Nat->Prop}{b o:Nat}{vs:List Value}(h:Y b):(m.off Y).le ((m.upd b o vs).off Y):=⟨λb' o' v hv=>by
 by_cases hy:Y b'
 ·rw[Mem.off_free hy]at hv;cases hv
 ·rw[Mem.off_at hy]at hv ⊢
  rw[Mem.upd_other m (show b'≠b from λe=>hy (by rw[e];exact h))];exact hv,λb' e' he=>by
 by_cases hy:Y b'
 ·rw[Mem.off_kn hy]at he;cases he
 ·rw[Mem.off_k hy]at he ⊢;exact he⟩
theorem ZtA{m:Mem}{b o k:Nat}{L:List Value}{v:Value}(h:m.reads b o L):(m.upd b (o+k) [v]).reads b o (L.set k v):=by
 intro j u hu
 rw[List.getElem?_set]at hu
 show(if b=b/\o+k<=o+j/\o+j < o+k+1 then[v][o+j - (o+k)]? else m b (o+j))=some u
 by_cases hk:k=j
 ·subst hk
  rw[if_pos rfl]at hu
  rw[if_pos ⟨rfl,by omega,by omega⟩,Nat.sub_self]
  split at hu
  ·exact hu
  ·cases hu
 ·rw[if_neg hk]at hu
  rw[if_neg (by omega)]
  exact h j u hu
theorem Zx2(A B:List Sta)(x y:Sta)(hs:y.s=x.s):((A++x::B).map Sta.cs).flatten.set (A.length*2+1) (.slice y.ra y.rules.length y.rc)=((A++y::B).map Sta.cs).flatten:=by
 have hl:(A.map Sta.cs).flatten.length=A.length*2:=Za3 Sta.len A
 rw[List.map_append,List.map_append,List.flatten_append,List.flatten_append,List.set_append_right _ _ (by omega),hl,Nat.add_sub_cancel_left]
 simp[Sta.cs,hs]
def Zv0(i j i' k':Nat):Prop:=i' < i\/(i'=i/\k' < j)
def ent(x:Sta)(i k:Nat):Dd×Dd:=(((i:Int),((Ze0 x k:Nat):Int)),((i:Int),(k:Int)))
structure Vis (s:Sc)(Z:List (Dd×Dd))(i j:Nat):Prop where
 src:∀q∈Z,∃(i' k':Nat)(x:Sta)(r:Ru),q=ent x i' k'/\s.states[i']?=some x/\x.rules[k']?=some r/\kp r=true/\Zv0 i j i' k'
 all:∀(i' k':Nat)(x:Sta)(r:Ru),s.states[i']?=some x->x.rules[k']?=some r->kp r=true->Zv0 i j i' k'->ent x i' k'∈Z
 nodup:(Z.map (·.1)).Nodup
theorem Vis.nil(s:Sc):Vis s [] 0 0:=⟨(λq h=>by cases h),(λi' k' x r _ _ _ h=>by unfold Zv0 at h;omega),by simp⟩
theorem Vis.skip{s:Sc}{Z:List (Dd×Dd)}{i j:Nat}(h:Vis s Z i j){x:Sta}{r:Ru}(hx:s.states[i]?=some x)(hr:x.rules[j]?=some r)(hk:kp r=false):Vis s Z i (j+1):=by
 refine⟨λq hq=>?_,λi' k' x' r' h1 h2 h3 h4=>?_,h.nodup⟩
 ·obtain⟨i',k',x',r',e,h1,h2,h3,h4⟩:=h.src q hq
  exact⟨i',k',x',r',e,h1,h2,h3,by unfold Zv0 at h4 ⊢;omega⟩
 ·refine h.all i' k' x' r' h1 h2 h3 ?_
  by_cases e:i'=i/\k'=j
  ·obtain⟨rfl,rfl⟩:=e
   rw[hx]at h1;cases h1
   rw[hr]at h2;cases h2
   rw[hk]at h3;cases h3
  ·unfold Zv0 at h4 ⊢;omega
theorem Vis.put{s:Sc}{Z:List (Dd×Dd)}{i j:Nat}(h:Vis s Z i j){x:Sta}{r:Ru}(hx:s.states[i]?=some x)(hr:x.rules[j]?=some r)(hk:kp r=true):(ent x i j).1 ∉ Z.map (·.1)/\Vis s (Z++[ent x i j]) i (j+1):=by
 have ji:(ent x i j).1 ∉ Z.map (·.1):=by
  intro gV
  obtain⟨q,hq,he⟩:=List.mem_map.1 gV
  obtain⟨i',k',x',r',rfl,h1,h2,h3,h4⟩:=h.src q hq
  obtain⟨e1,e2⟩:(i':Int)=i/\((Ze0 x' k':Nat):Int)=(Ze0 x j:Nat):=by simpa[ent]using he
  obtain rfl:i'=i:=by omega
  rw[hx]at h1;cases h1
  have:=ZrW h2 hr h3 hk (by omega)
  unfold Zv0 at h4;omega
 refine⟨ji,⟨λq hq=>?_,λi' k' x' r' h1 h2 h3 h4=>?_,?_⟩⟩
 ·rcases List.mem_append.1 hq with hq|hq
  ·obtain⟨i',k',x',r',e,h1,h2,h3,h4⟩:=h.src q hq
   exact⟨i',k',x',r',e,h1,h2,h3,by unfold Zv0 at h4 ⊢;omega⟩
  ·rw[List.mem_singleton]at hq;subst hq
   exact⟨i,j,x,r,rfl,hx,hr,hk,by unfold Zv0;omega⟩
 ·by_cases e:i'=i/\k'=j
  ·obtain⟨rfl,rfl⟩:=e
   rw[hx]at h1;cases h1
   exact List.mem_append_right _ (by simp)
  ·exact List.mem_append_left _ (h.all i' k' x' r' h1 h2 h3 (by unfold Zv0 at h4 ⊢;omega))
 ·rw[List.map_append,List.nodup_append]
  refine⟨h.nodup,by simp,λa ha b hb e=>?_⟩
  have hb:b∈[(ent x i j).1]:=hb
  rw[List.mem_singleton]at hb
  subst hb;subst e
  exact ji ha
theorem Vis.next{s:Sc}{Z:List (Dd×Dd)}{i:Nat}{x:Sta}(hx:s.states[i]?=some x)(h:Vis s Z i x.rules.length):Vis s Z (i+1) 0:=by
 refine⟨λq hq=>?_,λi' k' x' r' h1 h2 h3 h4=>h.all i' k' x' r' h1 h2 h3 ?_,h.nodup⟩
 ·obtain⟨i',k',x',r',e,h1,h2,h3,h4⟩:=h.src q hq
  exact⟨i',k',x',r',e,h1,h2,h3,by unfold Zv0 at h4 ⊢;omega⟩
 ·by_cases e:i'=i
  ·subst e
   rw[hx]at h1;cases h1
   have:=(zA0 h2).1
   unfold Zv0;omega
  ·unfold Zv0 at h4 ⊢;omega
theorem Vis.get{s:Sc}{Z:List (Dd×Dd)}(h:Vis s Z s.states.length 0){d:Dd}(hd:d∈ZaK s):(phi s d,d)∈Z:=by
 obtain⟨i,k,x,r,rfl,h1,h2,h3,h4⟩:=Zx1 hd
 rw[h4]
 exact h.all i k x r h1 h2 h3 (by have:=(zA0 h1).1;unfold Zv0;omega)
def ZqG(n:Nat):List Nat:=(List.range n).reverse
theorem ZtB(n:Nat):ZqG (n+1)=n::ZqG n:=by unfold ZqG;rw[List.range_succ,List.reverse_append];rfl
theorem Zkk(n:Nat):(ZqG n).length=n:=by simp[ZqG]
theorem Zu8{n i:Nat}(h:i < n):(ZqG n)[i]?=some (n - 1 - i):=by
 unfold ZqG
 rw[List.getElem?_reverse (by simpa using h),List.length_range,List.getElem?_range (by omega)]
theorem Zx3{n z:Nat}(h:z∈ZqG n):z < n:=by unfold ZqG at h;simpa using h
theorem ZqH(n:Nat):(ZqG n).Nodup:=by
 unfold ZqG List.Nodup
 rw[List.pairwise_reverse]
 exact List.Pairwise.imp (λh=>Ne.symm h) List.nodup_range
theorem Zv1{α:Type}(L:List α):(ZqG L.length).map (λi=>L[i]?)=(L.map some).reverse:=by
 refine List.ext_getElem? λi=>?_
 rw[List.getElem?_map]
 by_cases h:i < L.length
 ·rw[Zu8 h,List.getElem?_reverse (by simpa using h),List.length_map,List.getElem?_map]
  simp only[Option.map_some]
  rw[zA3 (by omega)];rfl
 ·rw[List.getElem?_eq_none (by rw[Zkk];omega),List.getElem?_eq_none (by simp;omega)];rfl
end Go.Rx