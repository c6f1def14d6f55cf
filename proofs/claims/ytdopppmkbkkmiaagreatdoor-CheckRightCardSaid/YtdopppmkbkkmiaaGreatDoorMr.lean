/- Trees of regexes, what they mean, and zo they lie in memory; plain, no program is named. No condition. -/
import Derived.Test.YtdopppmkbkkmiaaGreatDoorMc
import Derived.Sort.Grow
import Derived.Test.YtdopppmkbkkmiaaGreatDoorMb
import Derived.Lib.SlicesCompact
import Derived.Lib.SliceRun
import Derived.Shelf.SlicesE.Delete
import Derived.Deep.MidRow
import Derived.KernelRfl
set_option linter.unusedVariables false
set_option linter.unusedSimpArgs false
set_option linter.unusedSectionVars false
namespace Go.Rx
open Go Go.Eng
inductive T where
 | node (k s0 s1 s2 s3 mn mx:Int) (a:Option Addr) (c:Nat) (subs:List T)
def T.k:T->Int
 | .node k _ _ _ _ _ _ _ _ _=>k
def T.s0:T->Int
 | .node _ s _ _ _ _ _ _ _ _=>s
def T.s1:T->Int
 | .node _ _ s _ _ _ _ _ _ _=>s
def T.s2:T->Int
 | .node _ _ _ s _ _ _ _ _ _=>s
def T.s3:T->Int
 | .node _ _ _ _ s _ _ _ _ _=>s
def T.mn:T->Int
 | .node _ _ _ _ _ x _ _ _ _=>x
def T.mx:T->Int
 | .node _ _ _ _ _ _ x _ _ _=>x
def T.a:T->Option Addr
 | .node _ _ _ _ _ _ _ a _ _=>a
def T.c:T->Nat
 | .node _ _ _ _ _ _ _ _ c _=>c
def T.subs:T->List T
 | .node _ _ _ _ _ _ _ _ _ l=>l
def T.sl(t:T):Value:=.slice t.a t.subs.length t.c
def T.cs(t:T):List Value:=[.int .u8 t.k,.int .u64 t.s0,.int .u64 t.s1,.int .u64 t.s2,.int .u64 t.s3,.int .i64 t.mn,.int .i64 t.mx,t.sl]
def T.v(t:T):Value:=.agg #[.int .u8 t.k,.int .u64 t.s0,.int .u64 t.s1,.int .u64 t.s2,.int .u64 t.s3,.int .i64 t.mn,.int .i64 t.mx,.slice t.a t.subs.length t.c]
structure OkN (k s0 s1 s2 s3 mn mx:Int):Prop where
 k:0<=k/\k < 256
 s0:0<=s0/\s0 < 18446744073709551616
 s1:0<=s1/\s1 < 18446744073709551616
 s2:0<=s2/\s2 < 18446744073709551616
 s3:0<=s3/\s3 < 18446744073709551616
 mn : -9223372036854775808<=mn/\mn<=9223372036854775807
 mx : -9223372036854775808<=mx/\mx<=9223372036854775807
mutual
def Rep(m:Mem):T->Prop
 | .node k s0 s1 s2 s3 mn mx a _ l=>l.length<=1000000000000000/\(l=[]\/∃b o,a=some ⟨b,o,none⟩/\RepAt m b o l)/\OkN k s0 s1 s2 s3 mn mx
def RepAt(m:Mem)(b:Nat):Nat->List T->Prop
 | _,[]=>True
 | o,t::l=>m.reads b o t.cs/\Rep m t/\RepAt m b (o+8) l
end
theorem ZjL{m:Mem}{t:T}:Rep m t->(t.subs.length<=1000000000000000/\(t.subs=[]\/∃b o,t.a=some ⟨b,o,none⟩/\RepAt m b o t.subs)):=by
 cases t;simp only[Rep,T.subs,T.a];exact λh=>⟨h.1,h.2.1⟩
theorem ZBI{m:Mem}{t:T}:Rep m t->OkN t.k t.s0 t.s1 t.s2 t.s3 t.mn t.mx:=by
 cases t;simp only[Rep];exact λh=>h.2.2
theorem ZBJ{m:Mem}{t:T}(h1:t.subs.length<=1000000000000000)(h2:t.subs=[]\/∃b o,t.a=some ⟨b,o,none⟩/\RepAt m b o t.subs)(h3:OkN t.k t.s0 t.s1 t.s2 t.s3 t.mn t.mx):Rep m t:=by
 cases t;simp only[Rep];exact⟨h1,h2,h3⟩
mutual
theorem Rep.mono{m m':Mem}(h:m.le m'):∀t:T,Rep m t->Rep m' t
 | .node _ _ _ _ _ _ _ a _ l,hr=>by
  simp only[Rep]at *
  refine⟨hr.1,?_,hr.2.2⟩
  rcases hr.2.1 with hr|⟨b,o,h1,h2⟩
  ·exact .inl hr
  ·exact .inr ⟨b,o,h1,RepAt.mono h b o l h2⟩
theorem RepAt.mono{m m':Mem}(h:m.le m')(b:Nat):∀(o:Nat)(l:List T),RepAt m b o l->RepAt m' b o l
 | _,[],_=>by simp only[RepAt]
 | o,t::l,hr=>by
  simp only[RepAt]at *
  exact⟨hr.1.mono h,Rep.mono h t hr.2.1,RepAt.mono h b (o+8) l hr.2.2⟩
end
theorem RepAt.get{m:Mem}{b:Nat}:∀{o:Nat} {l:List T} {i:Nat} {t:T},RepAt m b o l->l[i]?=some t->m.reads b (o+i*8) t.cs/\Rep m t
 | o,[],i,t,_,hi=>by simp at hi
 | o,x::l,0,t,h,hi=>by
  simp only[RepAt]at h
  simp at hi;subst hi
  exact⟨by simpa using h.1,h.2.1⟩
 | o,x::l,i+1,t,h,hi=>by
  simp only[RepAt]at h
  have:=h.2.2.get (i:=i) (by simpa using hi)
  rw[show o+(i+1)*8=o+8+i*8 by omega]
  exact this
mutual
def T.nodes:T->List T
 | .node k s0 s1 s2 s3 mn mx a c l=>.node k s0 s1 s2 s3 mn mx a c l::Zaz l
def Zaz:List T->List T
 | []=>[]
 | t::l=>t.nodes++Zaz l
end
theorem ZcC(t:T):t.nodes=t::Zaz t.subs:=by cases t;simp only[T.nodes,T.subs]
theorem Zdg(l r:List T):Zaz (l++r)=Zaz l++Zaz r:=by
 induction l with
 | nil=>simp[Zaz]
 | cons t l ih=>simp[Zaz,ih,List.append_assoc]
theorem Zpe{l:List T}{i:Nat}{t:T}(h:l[i]?=some t):Zaz (l.take (i+1))=Zaz (l.take i)++t.nodes:=by
 have:l.take (i+1)=l.take i++[t]:=by
  rw[List.take_add_one,h];rfl
 rw[this,Zdg];simp[Zaz]
theorem ZdM{l:List T}{i:Nat}{t:T}(h:l[i]?=some t):Zaz l=Zaz (l.take i)++(t.nodes++Zaz (l.drop (i+1))):=by
 have aH:=(zA0 h).1
 have e:l=l.take i++(t::l.drop (i+1)):=by
  have:=List.drop_eq_getElem_cons aH
  rw[(zA0 h).2]at this
  rw[<-this,List.take_append_drop]
 conv=>lhs;rw[e,Zdg]
 simp[Zaz]
theorem Zw4{t x z:T}{i q:Nat}(hx:t.subs[i]?=some x)(hz:x.nodes[q]?=some z):t.nodes[1+(Zaz (t.subs.take i)).length+q]?=some z:=by
 have hq:=(zA0 hz).1
 rw[ZcC,show 1+(Zaz (t.subs.take i)).length+q=((Zaz (t.subs.take i)).length+q)+1 by omega,List.getElem?_cons_succ,ZdM hx,zA4 (by omega),zA5 (by omega),show(Zaz (List.take i t.subs)).length+q - (Zaz (List.take i t.subs)).length=q by omega]
 exact hz
theorem Zrv{t x:T}(h:x∈t.subs):SizeOf.sizeOf x < SizeOf.sizeOf t:=by
 cases t with
 | node k s0 s1 s2 s3 mn mx a c l=>
  have h':x∈l:=h
  have:=List.sizeOf_lt_of_mem h'
  simp only[T.node.sizeOf_spec]
  omega
theorem Zrw(t:T):Shape.fitsL [.agg [.int .u8,.int .u64,.int .u64,.int .u64,.int .u64,.int .i64,.int .i64,.slice]] [t.v]=true:=by
 simp[Shape.fitsL,Shape.fits,T.v]
mutual
theorem ZsE{m:Mem}:∀(t:T),Rep m t->∀x∈t.nodes,Rep m x
 | .node k s0 s1 s2 s3 mn mx a c l,hr,x,hx=>by
  simp only[T.nodes,List.mem_cons]at hx
  rcases hx with rfl|hx
  ·exact hr
  ·simp only[Rep]at hr
   rcases hr.2.1 with h|⟨b,o,_,h⟩
   ·subst h;simp[Zaz]at hx
   ·exact Zpf b o l h x hx
theorem Zpf{m:Mem}(b:Nat):∀(o:Nat)(l:List T),RepAt m b o l->∀x∈Zaz l,Rep m x
 | _,[],_,x,hx=>by simp[Zaz]at hx
 | o,t::l,hr,x,hx=>by
  simp only[RepAt]at hr
  simp only[Zaz,List.mem_append]at hx
  rcases hx with hx|hx
  ·exact ZsE t hr.2.1 x hx
  ·exact Zpf b (o+8) l hr.2.2 x hx
end
theorem Zut{m:Mem}{t x:T}(h:Rep m t)(hx:x∈t.nodes):Rep m x:=ZsE t h x hx
def Zks(least most:Int):Bool:=!(decide (least < 0)||decide (least > 16)||(least == 1&&most == 1))&&(most == -1||(decide (most ≥ 1)&&decide (most<=16)&&decide (most ≥ least)))
def T.has(t:T)(k:Int):Bool:=t.subs.any λx=>x.k == k
def T.light(t:T):Bool:=decide (t.nodes.length<=10000)
def T.setZ(t:T):Bool:=t.s0 == 0&&t.s1 == 0&&t.s2 == 0&&t.s3 == 0
def T.right(t:T):Bool:=
 !(t.k != 2&&!t.setZ||(t.k != 5&&(t.mn != 0||t.mx != 0)||(decide (t.k < 3)&&decide (0 < t.subs.length)))) &&
 (if t.k=1 then true else if t.k=2 then !t.setZ else if t.k=3 then decide (1 < t.subs.length)&&(!t.has 1&&!t.has 3)else if t.k=4 then decide (1 < t.subs.length)&&!t.has 4
  else if t.k=5 then t.subs.length == 1&&(Zks t.mn t.mx&&!t.has 1)else t.k == 6&&t.subs.length == 1)
def T.clean(t:T):Bool:=t.light&&t.nodes.all T.right
def T.size(t:T):Int:=if t.light then t.nodes.length else 10001
def T.groups(t:T):Int:=if t.light then(t.nodes.countP λx=>x.k == 6:Nat)else 10001
def ZqP(x y:Int):Int:=if y > x then y else x
def Zge(x y:Int):Int:=if y < x then y else x
def ZyN(k mn mx sum:Int):Int:=Zge (if k=5 then sum*Zge (if mx=-1 then ZqP (ZqP mn 0) 1 else ZqP (ZqP mn 0) mx) 10001 else sum) 10001
mutual
def T.pos:T->Int
 | .node k _ _ _ _ mn mx _ _ l=>ZyN k mn mx ((if k=2 then 1 else 0)+ZeT l)
def ZeT:List T->Int
 | []=>0
 | t::l=>t.pos+ZeT l
end
def T.positions(t:T):Int:=if t.light then t.pos else 10001
def T.check(t:T):Int:=if t.clean=false then 80 else if t.size > 120 then 81 else if t.positions > 400 then 82 else if t.groups > 9 then 83 else 0
mutual
def T.same:T->T->Bool
 | .node k s0 s1 s2 s3 mn mx _ _ l,.node k' s0' s1' s2' s3' mn' mx' _ _ l'=>k == k'&&((s0 == s0'&&s1 == s1'&&s2 == s2'&&s3 == s3')&&(mn == mn'&&(mx == mx'&&ZeI l l')))
def ZeI:List T->List T->Bool
 | [],[]=>true
 | t::l,t'::l'=>t.same t'&&ZeI l l'
 | _,_=>false
end
theorem Zzs(t u:T):t.same u=(t.k == u.k&&((t.s0 == u.s0&&t.s1 == u.s1&&t.s2 == u.s2&&t.s3 == u.s3)&&(t.mn == u.mn&&(t.mx == u.mx&&ZeI t.subs u.subs)))):=by
 cases t;cases u;simp only[T.same,T.k,T.s0,T.s1,T.s2,T.s3,T.mn,T.mx,T.subs]
theorem Zpg:∀{l r:List T},¬l.length=r.length->ZeI l r=false
 | [],[],h=>by simp at h
 | [],_::_,_=>by simp[ZeI]
 | _::_,[],_=>by simp[ZeI]
 | x::l,y::r,h=>by
  simp only[ZeI,Zpg (l:=l) (r:=r) (by simpa using h),Bool.and_false]
theorem ZsF:∀{l r:List T} {i:Nat} {x y:T},l[i]?=some x->r[i]?=some y->x.same y=false->ZeI l r=false
 | [],r,i,x,y,h,_,_=>by simp at h
 | _::_,[],i,x,y,_,h,_=>by simp at h
 | a::l,b::r,0,x,y,h,k,e=>by
  simp at h k;subst h k
  simp[ZeI,e]
 | a::l,b::r,i+1,x,y,h,k,e=>by
  simp only[ZeI,ZsF (l:=l) (r:=r) (i:=i) (by simpa using h) (by simpa using k) e,Bool.and_false]
theorem Zl6:∀{l r:List T} {i:Nat} {x y:T},l[i]?=some x->r[i]?=some y->ZeI (l.take i) (r.take i)=true->x.same y=true->True->ZeI (l.take (i+1)) (r.take (i+1))=true
 | [],r,i,x,y,h,_,_,_,_=>by simp at h
 | _::_,[],i,x,y,_,h,_,_,_=>by simp at h
 | a::l,b::r,0,x,y,h,k,_,e,_=>by
  simp at h k;subst h k
  simp[ZeI,e]
 | a::l,b::r,i+1,x,y,h,k,hs,e,_=>by
  simp only[List.take_succ_cons,ZeI,zA7]at hs ⊢
  exact⟨hs.1,Zl6 (by simpa using h) (by simpa using k) hs.2 e trivial⟩
theorem Zrx(t:T):t.pos=ZyN t.k t.mn t.mx ((if t.k=2 then 1 else 0)+ZeT t.subs):=by
 cases t;simp only[T.pos,T.k,T.mn,T.mx,T.subs];congr 1
theorem Zbc(l r:List T):ZeT (l++r)=ZeT l+ZeT r:=by
 induction l with
 | nil=>simp[ZeT]
 | cons t l ih=>simp[ZeT,ih,Int.add_assoc]
theorem Zuu{l:List T}{i:Nat}{t:T}(h:l[i]?=some t):ZeT (l.take (i+1))=ZeT (l.take i)+t.pos:=by
 have:l.take (i+1)=l.take i++[t]:=by
  rw[List.take_add_one,h];rfl
 rw[this,Zbc];simp[ZeT]
theorem ZsG(x y:Int):x<=ZqP x y/\y<=ZqP x y:=by unfold ZqP;split <;> omega
theorem Zl7(x y:Int):Zge x y<=x/\Zge x y<=y:=by unfold Zge;split <;> omega
theorem Zv6{x y:Int}(h:0<=x)(k:0<=y):0<=Zge x y:=by unfold Zge;split <;> omega
def Zw5(mn mx:Int):Int:=Zge (if mx=-1 then ZqP (ZqP mn 0) 1 else ZqP (ZqP mn 0) mx) 10001
theorem Zv7(mn mx:Int):0<=Zw5 mn mx/\Zw5 mn mx<=10001:=by
 unfold Zw5
 refine⟨Zv6 ?_ (by omega),(Zl7 _ _).2⟩
 have h1:=ZsG mn 0
 split
 ·have:=ZsG (ZqP mn 0) 1;omega
 ·have:=ZsG (ZqP mn 0) mx;omega
theorem Zzt{k mn mx sum:Int}(h:0<=sum):0<=ZyN k mn mx sum/\ZyN k mn mx sum<=10001:=by
 have h2:=Int.mul_nonneg h (Zv7 mn mx).1
 unfold ZyN
 refine⟨Zv6 ?_ (by omega),(Zl7 _ _).2⟩
 split
 ·exact h2
 ·exact h
mutual
theorem ZiM:∀t:T,0<=t.pos/\t.pos<=10001
 | .node k _ _ _ _ mn mx _ _ l=>by
  simp only[T.pos]
  have:=Zhk l
  exact Zzt (by split <;> omega)
theorem Zhk:∀l:List T,0<=ZeT l
 | []=>by simp[ZeT]
 | t::l=>by
  simp only[ZeT]
  have:=ZiM t
  have:=Zhk l
  omega
end
theorem Zv8:∀l:List T,ZeT l<=10001*l.length
 | []=>by simp[ZeT]
 | t::l=>by
  simp only[ZeT,List.length_cons]
  have:=ZiM t
  have:=Zv8 l
  omega
theorem Zv9(t:T):t.subs.length < t.nodes.length:=by
 rw[ZcC,List.length_cons]
 have:∀l:List T,l.length<=(Zaz l).length:=by
  intro l
  induction l with
  | nil=>simp[Zaz]
  | cons x l ih=>simp only[Zaz,List.length_cons,zA1];rw[ZcC];simp;omega
 have:=this t.subs
 omega
theorem Zuv{t x:T}(h:x∈t.subs):x.nodes.length < t.nodes.length:=by
 obtain⟨i,hi⟩:=List.getElem?_of_mem h
 rw[ZcC t,List.length_cons,ZdM hi]
 simp;omega
def T.hasB(t:T)(c:Nat):Bool:=((if c / 64=0 then t.s0 else if c / 64=1 then t.s1 else if c / 64=2 then t.s2 else t.s3).toNat).testBit (c % 64)
end Go.Rx
namespace Go.Rx
open Go Go.Eng Go.RowKit
theorem ZCv(n:Nat)(h:n < 18446744073709551616):IntKind.u64.wrap (n:Int)=n:=by
 unfold IntKind.wrap
 have e:(2:Int) ^ 64=18446744073709551616:=by decide
 simp only[IntKind.bits,IntKind.signed,Bool.false_and,Bool.false_eq_true,if_false,e]
 omega
theorem ZD2(a:Nat)(h:a < 18446744073709551616):(BitVec.ofInt 64 (a:Int)).toNat=a:=by
 rw[BitVec.toNat_ofInt]
 have e:((2:Nat) ^ 64:Nat)=18446744073709551616:=by decide
 rw[e];omega
theorem Zw6(a b:Nat)(ha:a < 18446744073709551616)(hb:b < 18446744073709551616):IntKind.u64.wrap ((BitVec.ofInt 64 (a:Int)|||BitVec.ofInt 64 (b:Int)).toNat:Int)=((a|||b:Nat):Int):=by
 rw[BitVec.toNat_or,ZD2 a ha,ZD2 b hb]
 exact ZCv _ (Nat.or_lt_two_pow (n:=64) ha hb)
def Byt(m:Mem)(a:Option Addr)(s:List Nat):Prop:=(s=[]\/∃b o,a=some ⟨b,o,none⟩/\m.reads b o (s.map λc:Nat=>Value.int .u8 c))/\∀c∈s,c < 256
theorem Byt.mono{m m':Mem}{a s}(h:Byt m a s)(hm:m.le m'):Byt m' a s:=by
 refine⟨?_,h.2⟩
 rcases h.1 with h|⟨b,o,h1,h2⟩
 ·exact .inl h
 ·exact .inr ⟨b,o,h1,h2.mono hm⟩
theorem Byt.get{m:Mem}{a s}(h:Byt m a s){i c:Nat}(hi:s[i]?=some c):(∃b o,a=some ⟨b,o,none⟩/\m b (o+i)=some (.int .u8 c))/\c < 256:=by
 refine⟨?_,h.2 c (zA2 hi)⟩
 rcases h.1 with h|⟨b,o,h1,h2⟩
 ·subst h;simp at hi
 ·exact⟨b,o,h1,h2 i _ (by rw[List.getElem?_map,hi];rfl)⟩
def ZDg(t:T)(back:Bool)(f i c out:Nat):Nat:=if(f.testBit (if back then i+1 else i)&&t.hasB c)=true then out|||2 ^ (if back then i else i+1)else out
def ZD3(t:T)(back:Bool)(f:Nat):List Nat->Nat->Nat->Nat
 | [],_,out=>out
 | c::s,i,out=>ZD3 t back f s (i+1) (ZDg t back f i c out)
def ZDR(g:Nat->Nat):Nat->Nat->Nat
 | 0,f=>f
 | n+1,f=>ZDR g n (g f)
def ZCw(g:Nat->Nat)(mx:Int):Nat->Int->Nat->Nat->Nat
 | 0,_,out,_=>out
 | n+1,k,out,last=>if k=mx then out else if out|||g last=out then out else ZCw g mx n (IntKind.i64.wrap (k+1)) (out|||g last) (g last)
@[irreducible] def ZEe:Nat:=576
abbrev ZEf:Nat:=2 ^ ZEe
def ZDh(g:Nat->Nat)(mn mx:Int)(f:Nat):Nat:=ZCw g mx (ZEf+1) mn (ZDR g mn.toNat f) (ZDR g mn.toNat f)
mutual
def T.lead(s:List Nat)(back:Bool):T->Nat->Nat
 | .node k s0 s1 s2 s3 mn mx a c l=>λf=>
  if k=1 then f else if k=2 then ZD3 (.node k s0 s1 s2 s3 mn mx a c l) back f s 0 0
  else if k=3 then(if back then ZCy s back l f else ZCx s back l f)
  else if k=4 then ZD4 s back l f 0
  else if k=5 then ZDh (ZCz s back l) mn mx f
  else if k=6 then ZCz s back l f else 0
def ZCx(s:List Nat)(back:Bool):List T->Nat->Nat
 | []=>λf=>f
 | t::l=>λf=>ZCx s back l (t.lead s back f)
def ZCy(s:List Nat)(back:Bool):List T->Nat->Nat
 | []=>λf=>f
 | t::l=>λf=>t.lead s back (ZCy s back l f)
def ZD4(s:List Nat)(back:Bool):List T->Nat->Nat->Nat
 | []=>λ_ out=>out
 | t::l=>λf out=>ZD4 s back l f (out|||t.lead s back f)
def ZCz(s:List Nat)(back:Bool):List T->Nat->Nat
 | []=>λf=>f
 | t::_=>λf=>t.lead s back f
end
section
variable {s:List Nat} {back:Bool}
end
theorem ZsH{α:Type}{l:List α}{i:Nat}{x:α}(h:l[i]?=some x):l.drop i=x::l.drop (i+1):=by
 obtain⟨h1,h2⟩:=zA0 h
 rw[List.drop_eq_getElem_cons h1,h2]
theorem ZsI{α:Type}{l:List α}{i:Nat}{x:α}(h:l[i]?=some x):l.take (i+1)=l.take i++[x]:=by
 rw[List.take_add_one,h];rfl
section
variable (s:List Nat) (back:Bool) (hs:s.length<=512)
include hs
end
def T0:T:=.node 0 0 0 0 0 0 0 none 0 []
def T1:T:=.node 1 0 0 0 0 0 0 none 0 []
theorem Zph(m:Mem):Rep m T0:=by simp only[T0,Rep];exact⟨by simp,.inl trivial,by constructor <;> decide⟩
theorem Zzu(m:Mem):Rep m T1:=by simp only[T1,Rep];exact⟨by simp,.inl trivial,by constructor <;> decide⟩
def T.isNone(t:T):Bool:=t.k == 0&&(t.light&&(T0.light&&t.same T0))
def T.wrong(t:T)(len:Nat)(i:Int):Int:=if(!t.isNone&&!(t.check == 0))=true then 130 else if(len:Int) > 512 then 3 else if i < 0\/i > len then 2 else 0
structure Rg where
 bg:Bool
 en:Bool
 t:T
def Rg.v(r:Rg):Value:=.agg #[.bool r.bg,.bool r.en,.int .u8 r.t.k,.int .u64 r.t.s0,.int .u64 r.t.s1,.int .u64 r.t.s2,.int .u64 r.t.s3,.int .i64 r.t.mn,.int .i64 r.t.mx,.slice r.t.a r.t.subs.length r.t.c]
def Rg.cs(r:Rg):List Value:=[.bool r.bg,.bool r.en,.int .u8 r.t.k,.int .u64 r.t.s0,.int .u64 r.t.s1,.int .u64 r.t.s2,.int .u64 r.t.s3,.int .i64 r.t.mn,.int .i64 r.t.mx,.slice r.t.a r.t.subs.length r.t.c]
def Rgs(m:Mem)(a:Option Addr)(l:List Rg):Prop:=l.length<=1000000000000000/\(l=[]\/∃b o,a=some ⟨b,o,none⟩/\∀i r,l[i]?=some r->m.reads b (o+i*10) r.cs)/\∀r∈l,Rep m r.t
theorem Rgs.mono{m m':Mem}{a l}(h:Rgs m a l)(hm:m.le m'):Rgs m' a l:=by
 refine⟨h.1,?_,λr hr=>(h.2.2 r hr).mono hm⟩
 rcases h.2.1 with h|⟨b,o,h1,h2⟩
 ·exact .inl h
 ·exact .inr ⟨b,o,h1,λi r hi=>(h2 i r hi).mono hm⟩
def ZBK(f:Nat):List Nat:=(List.range 513).filter λi=>f.testBit i
def Zzv(n:Nat):List Nat->Option Nat
 | []=>none
 | i::_=>if i > n then none else some i
def Rg.from(s:List Nat)(n:Nat)(r:Rg):Option Nat:=if(r.en&&decide ((n:Int) < s.length))=true then none else if r.bg then(if(r.t.lead s true (2 ^ n)).testBit 0 then some 0 else none)else
 Zzv n (ZBK (r.t.lead s true (2 ^ n)))
def Rg.wrong(r:Rg)(len:Nat)(n:Int):Int:=if r.t.check=0 then r.t.wrong len n else 130
def Zpi(φ:T->Prop):Value->Mem->List (List Value)->Prop:=λv m' _=>∃t:T,v=t.v/\Rep m' t/\φ t
abbrev TRK:=Int->Int->Int->Int->Int->Int->Int->Option Addr->Nat->Nat->Mem->Prop
theorem Zry{φ:T->Prop}{m:Mem}{K:TRK}(k:∀(t:T)(m':Mem),m.le m'->Rep m' t->φ t->K t.k t.s0 t.s1 t.s2 t.s3 t.mn t.mx t.a t.subs.length t.c m'):
  ∀(n0 n1 n2 n3 n4 n5 n6:Int)(a:Option Addr)(n c:Nat)(m':Mem),m.le m'->Zpi φ (.agg #[.int .u8 n0,.int .u64 n1,.int .u64 n2,.int .u64 n3,.int .u64 n4,.int .i64 n5,.int .i64 n6,.slice a n c]) m' []->K n0 n1 n2 n3 n4 n5 n6 a n c m':=by
 rintro n0 n1 n2 n3 n4 n5 n6 a n c m' hm ⟨t,hv,hr,hp⟩
 simp only[T.v,Value.agg.injEq,Array.mk.injEq,List.cons.injEq,Value.int.injEq,Value.slice.injEq,true_and,and_true]at hv
 obtain⟨rfl,rfl,rfl,rfl,rfl,rfl,rfl,rfl,rfl,rfl⟩:=hv
 exact k t m' hm hr hp
theorem Zft{φ:T->Prop}:∀(v:Value)(m':Mem) (css:List (List Value)),Zpi φ v m' css->Shape.fits (.agg [.int .u8,.int .u64,.int .u64,.int .u64,.int .u64,.int .i64,.int .i64,.slice]) v=true:=λv _ _ ⟨t,e,_⟩=>by rw[e];rfl
def RepL(m:Mem)(a:Option Addr)(l:List T):Prop:=l.length<=1000000000000000/\(l=[]\/∃b o,a=some ⟨b,o,none⟩/\RepAt m b o l)
theorem RepL.mono{m m':Mem}{a l}(h:RepL m a l)(hm:m.le m'):RepL m' a l:=by
 refine⟨h.1,?_⟩
 rcases h.2 with h|⟨b,o,h1,h2⟩
 ·exact .inl h
 ·exact .inr ⟨b,o,h1,h2.mono hm⟩
theorem Rep.subs{m:Mem}{t:T}(h:Rep m t):RepL m t.a t.subs:=ZjL h
def ZbQ(k mn mx:Int)(a:Option Addr)(c:Nat)(l:List T):T:=.node k 0 0 0 0 mn mx a c l
theorem ZdD{m:Mem}{k mn mx:Int}{a:Option Addr}{c:Nat}{l:List T}(h:RepL m a l)(hk:0<=k/\k < 256)(h1 : -9223372036854775808<=mn/\mn<=9223372036854775807)(h2 : -9223372036854775808<=mx/\mx<=9223372036854775807):Rep m (ZbQ k mn mx a c l):=by
 simp only[ZbQ,Rep]
 exact⟨h.1,h.2,⟨hk,by omega,by omega,by omega,by omega,h1,h2⟩⟩
theorem Zn7{m:Mem}{b:Nat}{t:T}(h:m.reads b 0 t.cs)(hr:Rep m t):RepL m (some ⟨b,0,none⟩) [t]:=⟨by simp,.inr ⟨b,0,rfl,by simp only[RepAt];exact⟨h,hr,trivial⟩⟩⟩
def ZcG(l:List T):List Value:=(l.map T.cs).flatten
theorem Zaq(l:List T):(ZcG l).length=l.length*8:=by
 induction l with
 | nil=>rfl
 | cons t l ih=>simp[ZcG,T.cs]at ih ⊢;omega
theorem ZaK(l r:List T):ZcG (l++r)=ZcG l++ZcG r:=by simp[ZcG]
theorem ZsJ{m:Mem}{b:Nat}:∀{o:Nat} {l:List T},m.reads b o (ZcG l)->(∀t∈l,Rep m t)->RepAt m b o l
 | o,[],_,_=>by simp only[RepAt]
 | o,t::l,h,hr=>by
  simp only[RepAt]
  refine⟨λj v hj=>?_,hr t (by simp),ZsJ (λj v hj=>?_) λx hx=>hr x (by simp[hx])⟩
  ·refine h j v ?_
   simp only[ZcG,List.map_cons,List.flatten_cons]
   rw[zA5 (zA0 hj).1];exact hj
  ·have:=h (8+j) v (by
    simp only[ZcG,List.map_cons,List.flatten_cons]
    rw[zA4 (by simp[T.cs])]
    have e:8+j - t.cs.length=j:=by simp[T.cs]
    rw[e];exact hj)
   rw[show o+8+j=o+(8+j) by omega];exact this
theorem Zwa{m:Mem}{a:Option Addr}{l:List T}(h:rowRd m a (ZcG l))(hr:∀t∈l,Rep m t)(hl:l.length<=1000000000000000):RepL m a l:=by
 refine⟨hl,?_⟩
 cases l with
 | nil=>exact .inl rfl
 | cons t l=>
  rcases h with h|⟨b,o,h1,h2⟩
  ·simp[ZcG,T.cs]at h
  ·exact .inr ⟨b,o,h1,ZsJ h2 hr⟩
theorem Zev{m:Mem}{a:Option Addr}{l:List T}(h:RepL m a l):rowRd m a (ZcG l):=by
 have key:∀(l:List T)(b o:Nat),RepAt m b o l->m.reads b o (ZcG l):=by
  intro l
  induction l with
  | nil=>intro b o _ j v hj;simp[ZcG]at hj
  | cons t l ih=>
   intro b o hr j v hj
   simp only[RepAt]at hr
   simp only[ZcG,List.map_cons,List.flatten_cons]at hj
   by_cases aH:j < 8
   ·rw[zA5 (by simpa[T.cs]using aH)]at hj
    exact hr.1 j v hj
   ·rw[zA4 (by simp[T.cs];omega)]at hj
    have:=ih b (o+8) hr.2.2 (j - 8) v (by simpa[T.cs,ZcG]using hj)
    rw[show o+8+(j - 8)=o+j by omega]at this;exact this
 rcases h.2 with h|⟨b,o,h1,h2⟩
 ·subst h;exact .inl rfl
 ·exact .inr ⟨b,o,h1,key l b o h2⟩
theorem Zkt{m:Mem}{a:Option Addr}{l:List T}(h:RepL m a l):∀t∈l,Rep m t:=by
 rcases h.2 with h|⟨b,o,_,h⟩
 ·subst h;simp
 ·intro t ht
  obtain⟨i,hi⟩:=List.getElem?_of_mem ht
  exact(h.get hi).2
def ZDS(j:Nat)(w c:Nat):Nat:=if c / 64=j then w|||2 ^ (c % 64)else w
def ZvL(bs:List Nat)(j:Nat):Nat:=bs.foldl (ZDS j) 0
theorem Zuw(l:List Nat)(c j:Nat):ZvL (l++[c]) j=if c / 64=j then ZvL l j|||2 ^ (c % 64)else ZvL l j:=by
 unfold ZvL
 rw[List.foldl_append];rfl
theorem Zwb(l:List Nat)(j:Nat):ZvL l j < 18446744073709551616:=by
 have key:∀(l:List Nat)(w:Nat),w < 2 ^ 64->l.foldl (ZDS j) w < 2 ^ 64:=by
  intro l
  induction l with
  | nil=>intro w h;exact h
  | cons c l ih=>
   intro w h
   refine ih _ ?_
   unfold ZDS
   split
   ·exact Nat.or_lt_two_pow h (Nat.pow_lt_pow_right (by omega) (by omega))
   ·exact h
 exact key l 0 (by decide)
def Zku(bs:List Nat):T:=.node 2 (ZvL bs 0:Nat) (ZvL bs 1:Nat) (ZvL bs 2:Nat) (ZvL bs 3:Nat) 0 0 none 0 []
theorem Zpj(bs:List Nat)(m:Mem):Rep m (Zku bs):=by
 simp only[Zku,Rep]
 have h:=Zwb bs
 exact⟨by simp,.inl trivial,⟨by omega,⟨by omega,by have:=h 0;omega⟩,⟨by omega,by have:=h 1;omega⟩,⟨by omega,by have:=h 2;omega⟩,⟨by omega,by have:=h 3;omega⟩,by omega,by omega⟩⟩
def Zwc(bs:List Nat):List Value:=[.int .u64 (ZvL bs 0:Nat),.int .u64 (ZvL bs 1:Nat),.int .u64 (ZvL bs 2:Nat),.int .u64 (ZvL bs 3:Nat)]
theorem Zux(bs:List Nat){j:Nat}(h:j < 4):(Zwc bs)[j]?=some (.int .u64 (ZvL bs j:Nat)):=by
 have:j=0\/j=1\/j=2\/j=3:=by omega
 rcases this with rfl|rfl|rfl|rfl <;> rfl
theorem Zrz(l:List Nat){c j:Nat}(hj:c / 64=j)(h:j < 4):ZaF (Zwc l) j [.int .u64 ((ZvL l j|||2 ^ (c % 64):Nat):Int)]=Zwc (l++[c]):=by
 unfold Zwc
 simp only[Zuw,hj]
 have:j=0\/j=1\/j=2\/j=3:=by omega
 rcases this with rfl|rfl|rfl|rfl <;> rfl
def ZdI(n:Nat):List Nat:=([[97],[98],[97,98],[97],[98],[99],[97,98,99],[98,99],[10],[0,255],[97],[98]][n % 12]?).getD []
end Go.Rx
namespace Go.Rx
open Go Go.Eng
inductive E where
 | node (k:Int) (x:Nat) (s:ByteArray) (g:Int) (a:Option Addr) (c:Nat) (subs:List E)
def E.k:E->Int
 | .node k _ _ _ _ _ _=>k
def E.x:E->Nat
 | .node _ x _ _ _ _ _=>x
def E.s:E->ByteArray
 | .node _ _ s _ _ _ _=>s
def E.g:E->Int
 | .node _ _ _ g _ _ _=>g
def E.a:E->Option Addr
 | .node _ _ _ _ a _ _=>a
def E.c:E->Nat
 | .node _ _ _ _ _ c _=>c
def E.subs:E->List E
 | .node _ _ _ _ _ _ l=>l
def E.sl(t:E):Value:=.slice t.a t.subs.length t.c
def E.cs(t:E):List Value:=[.int .u8 t.k,.float .f64 t.x,.string t.s,.int .i64 t.g,t.sl]
def E.v(t:E):Value:=.agg #[.int .u8 t.k,.float .f64 t.x,.string t.s,.int .i64 t.g,.slice t.a t.subs.length t.c]
def E0:E:=.node 0 0 .empty 0 none 0 []
structure OkE (k:Int)(s:ByteArray)(g:Int):Prop where
 k:0<=k/\k < 256
 s:s.size<=1000000000000000
 g : -9223372036854775808<=g/\g<=9223372036854775807
mutual
def RepE(m:Mem):E->Prop
 | .node k x s g a _ l=>l.length<=1000000000000000/\(l=[]\/∃b o,a=some ⟨b,o,none⟩/\RepEAt m b o l)/\OkE k s g
def RepEAt(m:Mem)(b:Nat):Nat->List E->Prop
 | _,[]=>True
 | o,t::l=>m.reads b o t.cs/\RepE m t/\RepEAt m b (o+5) l
end
theorem ZqV(m:Mem):RepE m E0:=by simp only[E0,RepE];exact⟨by simp,.inl trivial,by constructor <;> decide⟩
theorem ZeU{m:Mem}{t:E}:RepE m t->(t.subs.length<=1000000000000000/\(t.subs=[]\/∃b o,t.a=some ⟨b,o,none⟩/\RepEAt m b o t.subs)):=by
 cases t;simp only[RepE,E.subs,E.a];exact λh=>⟨h.1,h.2.1⟩
theorem ZsK{m:Mem}{t:E}:RepE m t->OkE t.k t.s t.g:=by
 cases t;simp only[RepE];exact λh=>h.2.2
mutual
theorem RepE.mono{m m':Mem}(h:m.le m'):∀t:E,RepE m t->RepE m' t
 | .node _ _ _ _ a _ l,hr=>by
  simp only[RepE]at *
  refine⟨hr.1,?_,hr.2.2⟩
  rcases hr.2.1 with hr|⟨b,o,h1,h2⟩
  ·exact .inl hr
  ·exact .inr ⟨b,o,h1,RepEAt.mono h b o l h2⟩
theorem RepEAt.mono{m m':Mem}(h:m.le m')(b:Nat):∀(o:Nat)(l:List E),RepEAt m b o l->RepEAt m' b o l
 | _,[],_=>by simp only[RepEAt]
 | o,t::l,hr=>by
  simp only[RepEAt]at *
  exact⟨hr.1.mono h,RepE.mono h t hr.2.1,RepEAt.mono h b (o+5) l hr.2.2⟩
end
theorem RepE.mono'{m m':Mem}{t:E}(hr:RepE m t)(h:m.le m'):RepE m' t:=RepE.mono h t hr
theorem RepEAt.mono'{m m':Mem}{b o:Nat}{l:List E}(hr:RepEAt m b o l)(h:m.le m'):RepEAt m' b o l:=RepEAt.mono h b o l hr
theorem RepEAt.get{m:Mem}{b:Nat}:∀{o:Nat} {l:List E} {i:Nat} {t:E},RepEAt m b o l->l[i]?=some t->m.reads b (o+i*5) t.cs/\RepE m t
 | o,[],i,t,_,hi=>by simp at hi
 | o,x::l,0,t,h,hi=>by
  simp only[RepEAt]at h
  simp at hi;subst hi
  exact⟨by simpa using h.1,h.2.1⟩
 | o,x::l,i+1,t,h,hi=>by
  simp only[RepEAt]at h
  have:=h.2.2.get (i:=i) (by simpa using hi)
  rw[show o+(i+1)*5=o+5+i*5 by omega]
  exact this
mutual
def E.nodes:E->List E
 | .node k x s g a c l=>.node k x s g a c l::Zao l
def Zao:List E->List E
 | []=>[]
 | t::l=>t.nodes++Zao l
end
theorem ZbD(t:E):t.nodes=t::Zao t.subs:=by cases t;simp only[E.nodes,E.subs]
theorem ZaP(l r:List E):Zao (l++r)=Zao l++Zao r:=by
 induction l with
 | nil=>simp[Zao]
 | cons t l ih=>simp[Zao,ih,List.append_assoc]
theorem ZmZ{l:List E}{i:Nat}{t:E}(h:l[i]?=some t):Zao (l.take (i+1))=Zao (l.take i)++t.nodes:=by
 have:l.take (i+1)=l.take i++[t]:=by
  rw[List.take_add_one,h];rfl
 rw[this,ZaP];simp[Zao]
theorem ZcD{l:List E}{i:Nat}{t:E}(h:l[i]?=some t):Zao l=Zao (l.take i)++(t.nodes++Zao (l.drop (i+1))):=by
 have aH:=(zA0 h).1
 have e:l=l.take i++(t::l.drop (i+1)):=by
  have:=List.drop_eq_getElem_cons aH
  rw[(zA0 h).2]at this
  rw[<-this,List.take_append_drop]
 conv=>lhs;rw[e,ZaP]
 simp[Zao]
theorem Zuy{t x z:E}{i q:Nat}(hx:t.subs[i]?=some x)(hz:x.nodes[q]?=some z):t.nodes[1+(Zao (t.subs.take i)).length+q]?=some z:=by
 have hq:=(zA0 hz).1
 rw[ZbD,show 1+(Zao (t.subs.take i)).length+q=((Zao (t.subs.take i)).length+q)+1 by omega,List.getElem?_cons_succ,ZcD hx,zA4 (by omega),zA5 (by omega),show(Zao (List.take i t.subs)).length+q - (Zao (List.take i t.subs)).length=q by omega]
 exact hz
theorem Zl8{t x:E}(h:x∈t.subs):SizeOf.sizeOf x < SizeOf.sizeOf t:=by
 cases t with
 | node k x s g a c l=>
  have h':_∈l:=h
  have:=List.sizeOf_lt_of_mem h'
  simp only[E.node.sizeOf_spec]
  omega
theorem Zl9(t:E):Shape.fitsL [.agg [.int .u8,.any,.str,.int .i64,.slice]] [t.v]=true:=by
 simp[Shape.fitsL,Shape.fits,E.v]
mutual
theorem Zpk{m:Mem}:∀(t:E),RepE m t->∀x∈t.nodes,RepE m x
 | .node k x s g a c l,hr,z,hx=>by
  simp only[E.nodes,List.mem_cons]at hx
  rcases hx with rfl|hx
  ·exact hr
  ·simp only[RepE]at hr
   rcases hr.2.1 with h|⟨b,o,_,h⟩
   ·subst h;simp[Zao]at hx
   ·exact Zma b o l h z hx
theorem Zma{m:Mem}(b:Nat):∀(o:Nat)(l:List E),RepEAt m b o l->∀x∈Zao l,RepE m x
 | _,[],_,x,hx=>by simp[Zao]at hx
 | o,t::l,hr,x,hx=>by
  simp only[RepEAt]at hr
  simp only[Zao,List.mem_append]at hx
  rcases hx with hx|hx
  ·exact Zpk t hr.2.1 x hx
  ·exact Zma b (o+5) l hr.2.2 x hx
end
theorem Zmb{m:Mem}{t x:E}(h:RepE m t)(hx:x∈t.nodes):RepE m x:=Zpk t h x hx
def Zzw:Nat:=9221120237041090561
def Zgu(x:Nat):Nat:=if Op.floatEq .f64 x x then x else Zzw
def Zuz(x y:Nat):Bool:=Zgu x == Zgu y
def Zfu(x:Nat):Bool:=Op.floatEq .f64 x x||x == Zzw
def E.light(t:E):Bool:=decide (t.nodes.length<=10000)
def E.size(t:E):Int:=if t.light then t.nodes.length else 0
mutual
def E.same:E->E->Bool
 | .node k x s g _ _ l,.node k' x' s' g' _ _ l'=>k == k'&&(Zuz x x'&&(s.toList == s'.toList&&(g == g'&&ZcH l l')))
def ZcH:List E->List E->Bool
 | [],[]=>true
 | t::l,t'::l'=>t.same t'&&ZcH l l'
 | _,_=>false
end
theorem Zw7(t u:E):t.same u=(t.k == u.k&&(Zuz t.x u.x&&(t.s.toList == u.s.toList&&(t.g == u.g&&ZcH t.subs u.subs)))):=by
 cases t;cases u;simp only[E.same,E.k,E.x,E.s,E.g,E.subs]
theorem Zmc:∀{l r:List E},¬l.length=r.length->ZcH l r=false
 | [],[],h=>by simp at h
 | [],_::_,_=>by simp[ZcH]
 | _::_,[],_=>by simp[ZcH]
 | x::l,y::r,h=>by
  simp only[ZcH,Zmc (l:=l) (r:=r) (by simpa using h),Bool.and_false]
theorem Zpl:∀{l r:List E} {i:Nat} {x y:E},l[i]?=some x->r[i]?=some y->x.same y=false->ZcH l r=false
 | [],r,i,x,y,h,_,_=>by simp at h
 | _::_,[],i,x,y,_,h,_=>by simp at h
 | a::l,b::r,0,x,y,h,k,e=>by
  simp at h k;subst h k
  simp[ZcH,e]
 | a::l,b::r,i+1,x,y,h,k,e=>by
  simp only[ZcH,Zpl (l:=l) (r:=r) (i:=i) (by simpa using h) (by simpa using k) e,Bool.and_false]
theorem ZjM:∀{l r:List E} {i:Nat} {x y:E},l[i]?=some x->r[i]?=some y->ZcH (l.take i) (r.take i)=true->x.same y=true->ZcH (l.take (i+1)) (r.take (i+1))=true
 | [],r,i,x,y,h,_,_,_=>by simp at h
 | _::_,[],i,x,y,_,h,_,_=>by simp at h
 | a::l,b::r,0,x,y,h,k,_,e=>by
  simp at h k;subst h k
  simp[ZcH,e]
 | a::l,b::r,i+1,x,y,h,k,hs,e=>by
  simp only[List.take_succ_cons,ZcH,zA7]at hs ⊢
  exact⟨hs.1,ZjM (by simpa using h) (by simpa using k) hs.2 e⟩
def E.most(t:E):Int:=if t.light then t.nodes.foldl (λn x=>if x.k=10 then(if x.g > n then x.g else n)else n) (-1)else -1
mutual
def E.names:E->List ByteArray->List ByteArray
 | .node k _ s _ _ _ l,out=>if k=9 then(if out.any (λy=>y.toList == s.toList)then out else out++[s])else ZbE l out
def ZbE:List E->List ByteArray->List ByteArray
 | [],out=>out
 | t::l,out=>ZbE l (t.names out)
end
theorem Zpm(t:E)(out:List ByteArray):t.names out=if t.k=9 then(if out.any (λy=>y.toList == t.s.toList)then out else out++[t.s])else ZbE t.subs out:=by
 cases t;simp only[E.names,E.k,E.s,E.subs];rfl
mutual
theorem ZsL:∀(t:E)(out:List ByteArray),out.length<=(t.names out).length
 | .node k _ s _ _ _ l,out=>by
  simp only[E.names]
  split
  ·split <;> simp
  ·exact Zkv l out
theorem Zkv:∀(l:List E)(out:List ByteArray),out.length<=(ZbE l out).length
 | [],out=>by simp[ZbE]
 | t::l,out=>by
  simp only[ZbE]
  exact Nat.le_trans (ZsL t out) (Zkv l _)
end
theorem Zmd(l r:List E)(out:List ByteArray):ZbE (l++r) out=ZbE r (ZbE l out):=by
 induction l generalizing out with
 | nil=>simp[ZbE]
 | cons t l ih=>simp only[List.cons_append,ZbE,ih]
theorem ZrA{l:List E}{i:Nat}{t:E}(h:l[i]?=some t)(out:List ByteArray):ZbE (l.take (i+1)) out=t.names (ZbE (l.take i) out):=by
 have:l.take (i+1)=l.take i++[t]:=by rw[List.take_add_one,h];rfl
 rw[this,Zmd];simp[ZbE]
theorem ZuA{l:List E}{i:Nat}(out:List ByteArray):(ZbE (l.take i) out).length<=(ZbE l out).length:=by
 conv=>rhs;rw[<-List.take_append_drop i l,Zmd]
 exact Zkv _ _
mutual
theorem Zgf:∀(t:E)(out:List ByteArray),(t.names out).length<=out.length+t.nodes.length
 | .node k _ s _ _ _ l,out=>by
  simp only[E.names,E.nodes,List.length_cons]
  split
  ·split
   ·omega
   ·rw[zA1,List.length_singleton];omega
  ·have:=Zhl l out
   omega
theorem Zhl:∀(l:List E)(out:List ByteArray),(ZbE l out).length<=out.length+(Zao l).length
 | [],out=>by simp[ZbE]
 | t::l,out=>by
  simp only[ZbE,Zao,zA1]
  have:=Zgf t out
  have:=Zhl l (t.names out)
  omega
end
def E.vars(t:E):List ByteArray:=if t.light then t.names []else[]
theorem ZdN(s:ByteArray):s.data.toList.length=s.size:=by rw[Array.length_toList];rfl
theorem Zwd(s:ByteArray):∀(n i:Nat)(r:List UInt8),s.size - i=n->ByteArray.toList.loop s i r=r.reverse++s.data.toList.drop i
 | 0,i,r,h=>by
  rw[ByteArray.toList.loop,if_neg (by omega),List.drop_of_length_le (by have:=ZdN s;omega),List.append_nil]
 | n+1,i,r,h=>by
  have hs:=ZdN s
  have hi:i < s.size:=by omega
  rw[ByteArray.toList.loop,if_pos hi,Zwd s n (i+1) _ (by omega),List.reverse_cons,List.append_assoc]
  have hd:=List.drop_eq_getElem_cons (l:=s.data.toList) (i:=i) (by omega)
  rw[hd]
  have e:s.get! i=s.data.toList[i]'(by omega):=by
   rw[Array.getElem_toList]
   exact getElem!_pos s.data i hi
  rw[e];rfl
theorem baL(s:ByteArray):s.toList=s.data.toList:=by
 have:=Zwd s _ 0 [] rfl
 simpa[ByteArray.toList]using this
theorem Zb1(s:ByteArray):(s.toList == ByteArray.toList ⟨#[]⟩)=(s.size == 0):=by
 rw[baL,baL,<-ZdN]
 cases h:s.data.toList <;> simp[h] <;> rfl
theorem Zan{α:Type}{cs:α->List Value}{n:Nat}(hn:∀x,(cs x).length=n){m:Mem}{a:Option Addr}{L:List α}(h:rowRd m a (L.map cs).flatten){k:Nat}{t:α}(ht:L[k]?=some t)(h0:0 < n):∃b o,a=some ⟨b,o,none⟩/\m.reads b (o+k*n) (cs t):=by
 have aH:=(zA0 ht).1
 have len:∀l:List α,(l.map cs).flatten.length=l.length*n:=λl=>by
  induction l with
  | nil=>simp
  | cons x l ih=>rw[List.map_cons,List.flatten_cons,zA1,hn,ih,List.length_cons,Nat.succ_mul];omega
 have e:(L.map cs).flatten=((L.take k).map cs).flatten++(cs t++((L.drop (k+1)).map cs).flatten):=by
  have e1:L=L.take k++(t::L.drop (k+1)):=by
   have:=List.drop_eq_getElem_cons aH
   rw[(zA0 ht).2]at this
   rw[<-this,List.take_append_drop]
  conv=>lhs;rw[e1]
  rw[List.map_append,List.flatten_append,List.map_cons,List.flatten_cons]
 have hl:((L.take k).map cs).flatten.length=k*n:=by rw[len,List.length_take,Nat.min_eq_left (by omega)]
 rcases h with h|⟨b,o,ha,h⟩
 ·have:=congrArg List.length h
  rw[len,List.length_nil]at this
  have:0 < L.length*n:=Nat.mul_pos (by omega) h0
  omega
 ·refine⟨b,o,ha,λj v hj=>?_⟩
  have tW:=(zA0 hj).1
  have:=h (k*n+j) v (by rw[e,zA4 (by omega),hl,Nat.add_sub_cancel_left,zA5 tW];exact hj)
  rw[Nat.add_assoc];exact this
theorem ZaH{α:Type}{cs:α->List Value}{n:Nat}(hn:∀x,(cs x).length=n)(l:List α):(l.map cs).flatten.length=l.length*n:=by
 induction l with
 | nil=>simp
 | cons x l ih=>rw[List.map_cons,List.flatten_cons,zA1,hn,ih,List.length_cons,Nat.succ_mul];omega
structure Pt where
 k:Int
 s:ByteArray
 g:Int
 e:E
def Pt.cs(p:Pt):List Value:=[.int .u8 p.k,.string p.s,.int .i64 p.g,.int .u8 p.e.k,.float .f64 p.e.x,.string p.e.s,.int .i64 p.e.g,.slice p.e.a p.e.subs.length p.e.c]
def Pt.v(p:Pt):Value:=.agg p.cs.toArray
structure Ac where
 k:Int
 s:ByteArray
 pa:Option Addr
 pc:Nat
 parts:List Pt
 e:E
def Ac.cs(a:Ac):List Value:=[.int .u8 a.k,.string a.s,.slice a.pa a.parts.length a.pc,.int .u8 a.e.k,.float .f64 a.e.x,.string a.e.s,.int .i64 a.e.g,.slice a.e.a a.e.subs.length a.e.c]
structure Ru where
 k:Int
 bg:Bool
 en:Bool
 t:T
 s:ByteArray
 n:Int
 aa:Option Addr
 ac:Nat
 acts:List Ac
 go:ByteArray
 code:Int
def Ru.cs(r:Ru):List Value:=[.int .u8 r.k,.bool r.bg,.bool r.en,.int .u8 r.t.k,.int .u64 r.t.s0,.int .u64 r.t.s1,.int .u64 r.t.s2,.int .u64 r.t.s3,.int .i64 r.t.mn,.int .i64 r.t.mx,.slice r.t.a r.t.subs.length r.t.c,.string r.s,.int .i64 r.n,.slice r.aa r.acts.length r.ac,.string r.go,.int .i64 r.code]
structure Sta where
 s:ByteArray
 ra:Option Addr
 rc:Nat
 rules:List Ru
def Sta.cs(x:Sta):List Value:=[.string x.s,.slice x.ra x.rules.length x.rc]
structure Va where
 s:ByteArray
 b:Bool
 t:ByteArray
 x:Nat
def Va.cs(v:Va):List Value:=[.string v.s,.bool v.b,.string v.t,.float .f64 v.x]
structure Sc where
 n:Int
 va:Option Addr
 vc:Nat
 vars:List Va
 sa:Option Addr
 sc:Nat
 states:List Sta
def Sc.cs(s:Sc):List Value:=[.int .i64 s.n,.slice s.va s.vars.length s.vc,.slice s.sa s.states.length s.sc]
def Sc.v(s:Sc):Value:=.agg #[.int .i64 s.n,.slice s.va s.vars.length s.vc,.slice s.sa s.states.length s.sc]
theorem Pt.len(p:Pt):p.cs.length=8:=rfl
theorem Ac.len(p:Ac):p.cs.length=8:=rfl
theorem Ru.len(p:Ru):p.cs.length=16:=rfl
theorem Sta.len(p:Sta):p.cs.length=2:=rfl
theorem Va.len(p:Va):p.cs.length=4:=rfl
def I64(n:Int):Prop:=-9223372036854775808<=n/\n<=9223372036854775807
def few:Nat:=100000
structure RepP (m:Mem)(p:Pt):Prop where
 k:0<=p.k/\p.k < 256
 s:p.s.size<=1000000000000000
 g:I64 p.g
 e:RepE m p.e
structure RepA (m:Mem)(a:Ac):Prop where
 k:0<=a.k/\a.k < 256
 s:a.s.size<=1000000000000000
 n:a.parts.length<=few
 row:rowRd m a.pa (a.parts.map Pt.cs).flatten
 all:∀p∈a.parts,RepP m p
 e:RepE m a.e
structure RepR (m:Mem)(r:Ru):Prop where
 k:0<=r.k/\r.k < 256
 t:Rep m r.t
 s:r.s.size<=1000000000000000
 n:I64 r.n
 len:r.acts.length<=few
 row:rowRd m r.aa (r.acts.map Ac.cs).flatten
 all:∀p∈r.acts,RepA m p
 go:r.go.size<=1000000000000000
 code:I64 r.code
structure RepS (m:Mem)(x:Sta):Prop where
 s:x.s.size<=1000000000000000
 len:x.rules.length<=few
 row:rowRd m x.ra (x.rules.map Ru.cs).flatten
 all:∀p∈x.rules,RepR m p
structure RepV (v:Va):Prop where
 s:v.s.size<=1000000000000000
 t:v.t.size<=1000000000000000
structure RepC (m:Mem)(s:Sc):Prop where
 n:I64 s.n
 vlen:s.vars.length<=few
 vrow:rowRd m s.va (s.vars.map Va.cs).flatten
 vall:∀v∈s.vars,RepV v
 len:s.states.length<=few
 row:rowRd m s.sa (s.states.map Sta.cs).flatten
 all:∀x∈s.states,RepS m x
 vcap:s.vars.length<=s.vc
 scap:s.states.length<=s.sc
section
variable {m m':Mem} (h:m.le m')
include h
theorem RepP.mono{p:Pt}(x:RepP m p):RepP m' p:=⟨x.k,x.s,x.g,RepE.mono h _ x.e⟩
theorem RepA.mono{p:Ac}(x:RepA m p):RepA m' p:=⟨x.k,x.s,x.n,x.row.mono h,λp hp=>(x.all p hp).mono h,RepE.mono h _ x.e⟩
theorem RepR.mono{p:Ru}(x:RepR m p):RepR m' p:=⟨x.k,x.t.mono h,x.s,x.n,x.len,x.row.mono h,λp hp=>(x.all p hp).mono h,x.go,x.code⟩
theorem RepS.mono{p:Sta}(x:RepS m p):RepS m' p:=⟨x.s,x.len,x.row.mono h,λp hp=>(x.all p hp).mono h⟩
theorem RepC.mono{p:Sc}(x:RepC m p):RepC m' p:=⟨x.n,x.vlen,x.vrow.mono h,x.vall,x.len,x.row.mono h,λp hp=>(x.all p hp).mono h,x.vcap,x.scap⟩
end
def nE(e:E):Int:=if e.light then e.size else 20001
def ZbF:List Int->Int
 | []=>0
 | x::l=>x+ZbF l
theorem ZsM(l r:List Int):ZbF (l++r)=ZbF l+ZbF r:=by
 induction l with
 | nil=>simp[ZbF]
 | cons x l ih=>simp only[List.cons_append,ZbF,ih];omega
theorem ZeV{α:Type}{l:List α}{i:Nat}{x:α}(f:α->Int)(h:l[i]?=some x):ZbF ((l.take (i+1)).map f)=ZbF ((l.take i).map f)+f x:=by
 rw[List.take_add_one,h,List.map_append,ZsM];simp[ZbF]
theorem Zfv{α:Type}(f:α->Int)(hf:∀x,0<=f x):∀l:List α,0<=ZbF (l.map f)
 | []=>by simp[ZbF]
 | x::l=>by
  have:=Zfv f hf l;have:=hf x
  simp only[List.map_cons,ZbF];omega
theorem Zkw{α:Type}(f:α->Int)(hf:∀x,0<=f x)(l:List α)(i:Nat):ZbF ((l.take i).map f)<=ZbF (l.map f):=by
 have e:ZbF (l.map f)=ZbF ((l.take i).map f)+ZbF ((l.drop i).map f):=by rw[<-ZsM,<-List.map_append,List.take_append_drop]
 have:=Zfv f hf (l.drop i)
 omega
def wA(a:Ac):Int:=1+nE a.e+a.parts.length+ZbF (a.parts.map λp=>nE p.e)
def wR(r:Ru):Int:=1+Zge r.t.size 20000+(if r.t.light then 0 else 20001)+ZbF (r.acts.map wA)
theorem Zpn(e:E):0<=nE e/\nE e<=20001:=by
 unfold nE E.size E.light
 split
 ·rename_i h
  simp only[decide_eq_true_eq]at h
  first|omega|(rw[if_pos (by simpa using h)];omega)
 ·omega
theorem ZjN(t:T):0<=t.size/\t.size<=10001:=by
 unfold T.size T.light
 split
 ·rename_i h;simp only[decide_eq_true_eq]at h;omega
 ·omega
theorem Zzx(a:Ac):0<=wA a:=by
 have:=(Zpn a.e).1
 have:=Zfv (λp:Pt=>nE p.e) (λp=>(Zpn p.e).1) a.parts
 unfold wA;omega
theorem ZBn(r:Ru):0<=wR r:=by
 have:=Zfv wA Zzx r.acts
 have h1:=(ZjN r.t).1
 have:0<=Zge r.t.size 20000:=by unfold Zge;split <;> omega
 unfold wR;split <;> omega
def wS(x:Sta):Int:=ZbF (x.rules.map wR)
theorem ZCA(x:Sta):0<=wS x:=Zfv wR ZBn _
def Sc.weight(s:Sc):Int:=s.vars.length+s.states.length+ZbF (s.states.map wS)
def Sc.light(s:Sc):Bool:=decide (s.weight<=20000)
structure Pl where
 v:Int
 s:Int
 r:Int
 a:Int
 p:Int
deriving DecidableEq
def Pl.cs(p:Pl):List Value:=[.int .i64 p.v,.int .i64 p.s,.int .i64 p.r,.int .i64 p.a,.int .i64 p.p]
def top:Pl:=⟨-1,-1,-1,-1,-1⟩
def ZdE(n:Nat)(f:Nat->List Pl):List Pl:=(List.range n).flatMap f
def plA(i k m:Nat)(a:Ac):List Pl:=⟨-1,i,k,m,-1⟩::ZdE a.parts.length λn=>[⟨-1,i,k,m,n⟩]
def plR(i k:Nat)(r:Ru):List Pl:=⟨-1,i,k,-1,-1⟩::ZdE r.acts.length λm=>match r.acts[m]? with
 | some a=>plA i k m a
 | none=>[]
def plS(i:Nat)(x:Sta):List Pl:=⟨-1,i,-1,-1,-1⟩::ZdE x.rules.length λk=>match x.rules[k]? with
 | some r=>plR i k r
 | none=>[]
def Sc.places(s:Sc):List Pl:=if s.light then top::(ZdE s.vars.length (λi=>[⟨i,-1,-1,-1,-1⟩])++ZdE s.states.length λi=>match s.states[i]? with
 | some x=>plS i x
 | none=>[])else[]
def ZaY:List (Int×Bool)->Int
 | []=>0
 | (e,w)::l=>if w then e else ZaY l
def Zbl(n a b:Int):Bool:=decide (n ≥ a)&&decide (n<=b)
def eqS(a b:ByteArray):Bool:=a.toList == b.toList
def ZyO(c:UInt8):Bool:=(decide (97<=c.toNat)&&decide (c.toNat<=122))||(decide (48<=c.toNat)&&decide (c.toNat<=57))||c.toNat == 95
def Zm0:List ByteArray:=[⟨#[109,105,110]⟩,⟨#[109,97,120]⟩,⟨#[110,117,109]⟩]
def Zcl(s:ByteArray):Bool:=!(s.size == 0||decide (s.size > 16)||decide ((s.data.toList.getD 0 0).toNat < 97)||decide ((s.data.toList.getD 0 0).toNat > 122)||Zm0.any λw=>eqS w s)&&s.data.toList.all ZyO
def ZbK(s:Sc)(name:ByteArray):Bool×Bool:=match s.vars.find? λv=>eqS v.s name with
 | some v=>(v.b,true)
 | none=>(false,false)
def Zbj(s:Sc)(e:E):Bool:=!e.vars.any λn=>!(ZbK s n).1
def Zme(e:E):Bool:=e.light&&(E0.light&&e.same E0)
def Zmf(k:Int):Int:=if k=1 then 1 else if 2<=k/\k<=7 then 2 else 0
def Zkx:List E->Bool
 | u::_=>u.k == 8
 | []=>false
def E.right(t:E):Bool:=!(t.k == 0)&&(decide (t.k<=10)&&((if t.k=9 then Zcl t.s else t.s.size == 0)&&((if t.k=8 then Zfu t.x else Zuz t.x 0)&&((if t.k=10 then decide (t.g ≥ 0)&&decide (t.g<=9)else t.g == 0)&&((t.subs.length:Int) == Zmf t.k&&!(t.k == 1&&(t.subs.length == 1&&Zkx t.subs)))))))
def E.clean(t:E):Bool:=t.light&&t.nodes.all E.right
def Zew(s:Sc):Int:=ZaY [(300,!Zbl s.n 2 256),(302,!Zbl s.states.length 1 24||decide (s.vars.length > 12))]
def Zfw(v:Va):Bool:=if v.b then Zfu v.x&&v.t.size == 0 else v.x == 0&&decide (v.t.size<=512)
def Za3(s:Sc)(i:Nat)(v:Va):Int:=ZaY [(301,!Zcl v.s||(!Zfw v||(s.vars.take i).any λx=>eqS x.s v.s))]
def Zdt(s:Sc)(i:Nat)(x:Sta):Int:=ZaY [(303,!Zcl x.s||(decide (x.rules.length > 12)||(s.states.take i).any λy=>eqS y.s x.s))]
def ZsN(r:Ru):Bool:=r.bg||(r.en||!(r.t.light&&(T0.light&&r.t.same T0)))
def ZaE(r:Ru):Bool:=if r.k=2 then !ZsN r&&(r.n == 0&&Zbl r.s.size 1 64)else if r.k=4 then !ZsN r&&(r.s.size == 0&&Zbl r.n 1 1000)else if r.k=3 then !ZsN r&&(r.s.size == 0&&r.n == 0)else if r.k=1 then r.s.size == 0&&r.n == 0 else false
def ZbW(r:Ru):Int:=if r.k=1 then r.t.groups else if r.k=2 then 0 else -1
def ZdO(s:Sc)(name:ByteArray):Bool:=(s.states.any λx=>eqS x.s name)&&s.light
def Zck(s:Sc)(r:Ru)(total:Int):Int:=ZaY [(304,!ZaE r||decide (r.acts.length > 8)),(305,r.k == 1&&(!(r.t.check == 0)||decide (total > 600))),
 (306,if r.go.size=0 then !Zbl r.code 0 255 else !ZdO s r.go||!(r.code == 0))]
def ZaW(s:Sc)(r:Ru)(a:Ac):Int:=ZaY [(307,!Zbl a.k 1 3||(a.k == 1&&!(a.s.size == 0))||(a.k == 3&&decide (a.parts.length > 0))||(a.k == 3&&!a.e.clean)||(!(a.k == 3)&&!Zme a.e)||decide (a.parts.length > 16)),
 (308,(!(a.k == 1)&&(!(ZbK s a.s).2||!((ZbK s a.s).1 == (a.k == 3))))||(a.k == 3&&!Zbj s a.e)),(309,a.k == 3&&decide (a.e.most > ZbW r))]
def Zbm(p:Pt):Bool:=if p.k=1 then decide (p.s.size > 0)&&(decide (p.s.size<=512)&&(p.g == 0&&Zme p.e))else if p.k=2 then Zcl p.s&&(p.g == 0&&Zme p.e)else if p.k=3 then decide (p.g ≥ 0)&&(decide (p.g<=9)&&(p.s.size == 0&&Zme p.e))else if p.k=4 then p.e.clean&&(p.s.size == 0&&p.g == 0)else false
def Zds(s:Sc)(r:Ru)(l:List Pt)(i:Nat)(p:Pt):Int:=ZaY [(307,!Zbm p||(decide (i > 0)&&(p.k == 1&&(match l[i - 1]? with
 | some q=>q.k == 1
 | none=>false)))),(308,(p.k == 2&&!(ZbK s p.s).2)||(p.k == 4&&!Zbj s p.e)),(309,(p.k == 3&&decide (p.g > ZbW r))||(p.k == 4&&decide (p.e.most > ZbW r)))]
def sizeR(r:Ru):Int:=if r.k=1 then r.t.size else 0
def totals(s:Sc)(i k:Nat):Int:=ZbF ((s.states.take i).map λx=>ZbF (x.rules.map sizeR))+(match s.states[i]? with
 | some x=>ZbF ((x.rules.take (k+1)).map sizeR)
 | none=>0)
def atS(s:Sc)(p:Pl):Int:=if p.v ≥ 0 then(match s.vars[p.v.toNat]? with
  | some v=>Za3 s p.v.toNat v
  | none=>0)else if p.s < 0 then Zew s else match s.states[p.s.toNat]? with
  | none=>0
  | some x=>if p.r < 0 then Zdt s p.s.toNat x else match x.rules[p.r.toNat]? with
   | none=>0
   | some r=>if p.a < 0 then Zck s r (totals s p.s.toNat p.r.toNat)else match r.acts[p.a.toNat]? with
    | none=>0
    | some a=>if p.p < 0 then ZaW s r a else match a.parts[p.p.toNat]? with
     | none=>0
     | some q=>Zds s r a.parts p.p.toNat q
def Sc.problems(s:Sc):List (Pl×Int):=s.places.filterMap λp=>if atS s p=0 then none else some (p,atS s p)
def Sc.check(s:Sc):Pl×Int:=if s.light then(match s.problems with
 | p::_=>p
 | []=>(top,0))else(top,5)
end Go.Rx
namespace Go.Rx
open Go Go.Eng Go.RowKit
theorem Zpo(w:World)(b:Nat)(f:Array Value->Array Value){cur:Array Value}{T:TypeId}{fr:Nat×Nat}(h:w.heap[b]?=some (.cells cur T fr)):(Go.Sort.mapBlock w b f).heap[b]?=some (.cells (f cur) T fr):=by
 unfold Go.Sort.mapBlock
 simp only[Array.getElem?_modify,if_true,h,Option.map_some]
 rfl
theorem Zm1(w:World)(b:Nat)(f:Array Value->Array Value){k:Nat}(h:k≠b):(Go.Sort.mapBlock w b f).heap[k]?=w.heap[k]?:=by
 unfold Go.Sort.mapBlock
 simp only[Array.getElem?_modify]
 rw[if_neg (λe=>h e.symm)]
theorem Zw8(w:World):Go.Sort.grow w #[]=w:=by
 unfold Go.Sort.grow;rw[Array.append_empty]
section
variable {α:Type} [Inhabited α] (enc:α->Value)
set_option maxHeartbeats 1600000 in
theorem ZjO{P:Program}{g:FuncId}{zs ys:List α}{vf:Option Addr->Value}{a:Option Addr}{c N:Nat}{m:Mem}
  (tX:ZeK P g) (hr:rowRd m a (zs.map enc)) (hl:ys.length=zs.length) (hN:zs.length<=N)
  (h0:zs=[]->∀w:World,Calls P g #[.slice a 0 c] w λe w'=>e=.returned (vf a)/\w'=w)
  (h1:zs≠[]->∀(b o:Nat)(w:World),a=some ⟨b,o,none⟩->zs.length<=c->Go.Sort.Holds enc w b o zs.toArray->b < w.heap.size->Calls P g #[.slice (some ⟨b,o,none⟩) zs.length c] w λe w'=>e=.returned (vf a)/\∃n os,w'=Go.Sort.grow (Go.Sort.putRow enc (Go.Sort.ahead w n) b o ys.toArray) os):
  CXY P g #[.slice a zs.length c] m (λk=>(Tok.mk (.slice a N c) 1).blk=some k) [] [⟨.slice a N c,1⟩]
   (λv m' css tvs=>v=vf a/\css=[]/\tvs=[.slice a N c]/\rowRd m' a (ys.map enc)):=by
 refine⟨tX,λw hs _ _ ht j7 hY=>?_⟩
 obtain⟨bB,zp⟩:=ht _ (List.mem_singleton.2 rfl)
 by_cases hz:zs=[]
 ·subst hz
  obtain rfl:ys=[]:=List.eq_nil_of_length_eq_zero (by simpa using hl)
  refine(h0 rfl w).mono ?_
  rintro e w' ⟨rfl,rfl⟩
  refine⟨_,m,[],[.slice a N c],rfl,Mem.off_le _ _,hs,NewM.refl _ _,Upd.refl _ _,rfl,λi x cs hi=>by simp at hi,rfl,λi t tv hi hv=>?_,j7,rfl,rfl,rfl,.inl (by simp)⟩
  cases i with
  | zero=>
   simp at hi hv;subst hi hv
   exact⟨rfl,bB,λb hb=>⟨.inl hb,by simp⟩⟩
  | succ i=>simp at hi
 ·have dA:(zs.map enc)≠[]:=by simp[hz]
  rcases hr with hr|⟨b,o,rfl,cC⟩
  ·exact absurd hr dA
  rcases bB with h2|⟨b',o',n',c',cur,T,fr,hv,iU,hh,bJ,eO,cP⟩
  ·cases h2
  simp only[Value.slice.injEq,Option.some.injEq,Addr.mk.injEq,and_true]at hv
  obtain⟨⟨rfl,rfl⟩,rfl,rfl⟩:=hv
  simp only[Nat.mul_one]at bJ cP
  have qG:b < w.heap.size:=(Array.getElem?_eq_some_iff.1 hh).1
  have hH:Go.Sort.Holds enc w b o zs.toArray:=λj hj=>by
   have hj':j < zs.length:=by simpa using hj
   have e:zs.toArray[j]! = zs[j]:=by rw[getElem!_pos _ j hj];simp
   refine⟨?_,?_⟩
   ·have:=hs _ _ _ (cC j (enc zs[j]) (by simp[hj']))
    rw[this,e]
   ·have h2:=eO (o+j) (by omega)
    obtain⟨f1,f2⟩:=fr
    simp only[World.frozen?,hh,Bool.and_eq_false_iff,decide_eq_false_iff_not]
    simp only at h2
    omega
  refine(h1 hz b o w rfl (by omega) hH qG).mono ?_
  rintro e w' ⟨rfl,n,os,hw'⟩
  have pb:(Go.Sort.putRow enc (Go.Sort.ahead w n) b o ys.toArray).heap.size=w.heap.size:=by simp[Go.Sort.putRow,Go.Sort.mapBlock,Go.Sort.ahead]
  have eN:w'.heap[b]?=some (.cells (Go.Sort.putCells enc o ys.toArray cur) T fr):=by
   rw[hw',Go.Sort.heap_grow_old _ _ (by rw[pb];exact qG)];exact Zpo _ b _ hh
  have iL:∀k,k < w.heap.size->k≠b->w'.heap[k]?=w.heap[k]?:=λk aH hk=>by
   rw[hw',Go.Sort.heap_grow_old _ _ (by rw[pb];exact aH)];exact Zm1 _ b _ hk
  have tY:(Go.Sort.putCells enc o ys.toArray cur).size=cur.size:=by simp[Go.Sort.putCells]
  have bM:∀k:Nat,(Go.Sort.putCells enc o ys.toArray cur)[k]?=if o<=k/\k < o+zs.length then(ys.map enc)[k - o]? else cur[k]?:=λk=>by
   simp only[Go.Sort.putCells,Array.getElem?_mapIdx]
   by_cases hk:o<=k/\k < o+zs.length
   ·rw[if_pos hk,Array.getElem?_eq_getElem (by omega),Option.map_some,if_pos (by simp;omega)]
    have:k - o < ys.length:=by omega
    rw[getElem!_pos _ (k - o) (by simpa using this)]
    have e2:(ys.map enc)[k - o]?=some (enc (ys[k - o]'this)):=by
     rw[List.getElem?_map,zA3 this];rfl
    rw[e2];simp
   ·rw[if_neg hk]
    cases cur[k]? with
    | none=>rfl
    | some y=>rw[Option.map_some,if_neg (by simp;omega)]
  have tZ:∀k e,m.k k=some e->k≠b:=λk e he fZ=>by
   obtain⟨es,cl,h8,_⟩:=hs.k k e he
   rw[fZ,hh]at h8;cases h8
  refine⟨_,m.upd b o (ys.map enc),[],[.slice (some ⟨b,o,none⟩) N c],rfl,⟨λb1 o1 v hv=>?_,λb1 e he=>Mem.off_le m _ |>.k b1 e he⟩,⟨λb1 o1 v hv=>?_,λb1 e he=>(hs.k b1 e he).same (iL b1 (hs.k b1 e he).lt (tZ b1 e he))⟩,⟨λb1 o1 u hu=>?_,λ_ _ he=>.inl he⟩,⟨by rw[hw'];rfl,by rw[hw'];rfl,by rw[hw'];rfl,?_,λk hk hn=>?_,λk aH hk=>?_⟩,rfl,λi x cs hi=>by simp at hi,rfl,λi t tv hi hv=>?_,?_,rfl,rfl,rfl,.inr ⟨b,o,rfl,λj v hv=>?_⟩⟩
  ·have cB:b1≠b:=λe=>by
    subst e
    rw[Mem.off_free (by rfl)]at hv;cases hv
   rw[Mem.upd_other _ cB];exact(Mem.off_le _ _).c _ _ _ hv
  ·by_cases cB:b1=b
   ·subst cB
    simp only[World.cell?,eN,Option.isSome_none,Bool.false_eq_true,if_false]
    rw[bM]
    simp only[Mem.upd,true_and]at hv
    have aP:(ys.map enc).length=zs.length:=by simp[hl]
    rw[aP]at hv
    split at hv
    ·rename_i eG
     rw[if_pos eG];exact hv
    ·rename_i eG
     rw[if_neg eG]
     have:=hs _ _ _ hv
     simpa only[World.cell?,hh,Option.isSome_none,Bool.false_eq_true,if_false]using this
   ·rw[Mem.upd_other _ cB]at hv
    rw[Zb6 (iL b1 (hs.lt hv) cB)];exact hs _ _ _ hv
  ·by_cases cB:b1=b
   ·subst cB;exact .inr (.inl rfl)
   ·rw[Mem.upd_other _ cB]at hu;exact .inl hu
  ·rw[hw']
   show w.heap.size<=(Go.Sort.grow _ os).heap.size
   have:(Go.Sort.grow (Go.Sort.putRow enc (Go.Sort.ahead w n) b o ys.toArray) os).heap.size=(Go.Sort.putRow enc (Go.Sort.ahead w n) b o ys.toArray).heap.size+os.size:=by simp[Go.Sort.grow]
   rw[this,pb];omega
  ·refine iL k hk λe=>hn (.inr ?_)
   rw[e];rfl
  ·by_cases fZ:k=b
   ·subst fZ
    intro c1 T1 fr1 t6 i hi
    rw[eN]at t6
    simp only[Option.some.injEq,Obj.cells.injEq]at t6
    obtain⟨rfl,rfl,rfl⟩:=t6
    exact eO i (by rw[tY]at hi;exact hi)
   ·exact hk.of_eq (iL k aH fZ)
  ·cases i with
   | zero=>
    simp at hi hv;subst hi hv
    refine⟨rfl,.inr ⟨b,o,_,_,_,T,fr,rfl,iU,eN,by rw[tY,Nat.mul_one];exact bJ,λi hi=>eO i (by rw[tY]at hi;exact hi),λk iH iN=>?_⟩,λb1 cB=>⟨.inl cB,by simp⟩⟩
    simp only[Nat.mul_one]at iH iN
    simp only[Mem.upd,true_and]
    rw[if_neg (by simp;omega)]
    exact cP k iH iN
   | succ i=>simp at hi
  ·intro i j t t' b1 hi hj _ _
   have hi':=(zA0 hi).1
   have hj':=(zA0 hj).1
   simp at hi' hj'
   omega
  ·have mI:=(zA0 hv).1
   simp only[List.length_map]at mI
   simp only[Mem.upd,true_and]
   rw[if_pos ⟨by omega,by rw[List.length_map];omega⟩,Nat.add_sub_cancel_left];exact hv
end
end Go.Rx
namespace Go.Rx
open Go Go.Eng
theorem ZbG(n:Nat)(f:Nat->List Pl):ZdE (n+1) f=ZdE n f++f n:=by simp[ZdE,List.range_succ,List.flatMap_append]
theorem ZsO{i n:Nat}(h:i<=n)(f:Nat->List Pl):(ZdE i f).length<=(ZdE n f).length:=by
 induction n with
 | zero=>
  obtain rfl:i=0:=by omega
  exact Nat.le_refl _
 | succ n ih=>
  by_cases e:i=n+1
  ·rw[e];exact Nat.le_refl _
  ·have:=ih (by omega)
   rw[ZbG,zA1];omega
theorem Zgg(n:Nat)(f:Nat->Pl):(ZdE n λi=>[f i]).length=n:=by
 induction n with
 | zero=>rfl
 | succ n ih=>rw[ZbG,zA1,ih];rfl
theorem Zn8{α:Type}(l:List α)(F:Nat->List Pl)(g:Nat->α->List Pl)(w:α->Int)(hF:∀i x,l[i]?=some x->F i=g i x)(hw:∀i x,x∈l->((g i x).length:Int)<=w x):∀k,k<=l.length->((ZdE k F).length:Int)<=ZbF ((l.take k).map w):=by
 intro k
 induction k with
 | zero=>intro _;simp[ZdE,ZbF]
 | succ k ih=>
  intro hk
  have:=ih (by omega)
  have hx:l[k]?=some l[k]:=zA3 (by omega)
  have h2:=hw k l[k] (List.getElem_mem _)
  rw[ZbG,zA1,ZeV w hx,hF k _ hx]
  push_cast
  omega
def Hf(i k:Nat)(r:Ru)(m:Nat):List Pl:=match r.acts[m]? with
 | some a=>plA i k m a
 | none=>[]
def Gf(i:Nat)(x:Sta)(k:Nat):List Pl:=match x.rules[k]? with
 | some r=>plR i k r
 | none=>[]
def Ff(s:Sc)(i:Nat):List Pl:=match s.states[i]? with
 | some x=>plS i x
 | none=>[]
def Pf(i k m n:Nat):List Pl:=[⟨-1,i,k,m,n⟩]
def Vf(i:Nat):List Pl:=[⟨i,-1,-1,-1,-1⟩]
theorem ZrB(i k m:Nat)(a:Ac):plA i k m a=⟨-1,i,k,m,-1⟩::ZdE a.parts.length (Pf i k m):=rfl
theorem Zpp(i k:Nat)(r:Ru):plR i k r=⟨-1,i,k,-1,-1⟩::ZdE r.acts.length (Hf i k r):=rfl
theorem Zpq(i:Nat)(x:Sta):plS i x=⟨-1,i,-1,-1,-1⟩::ZdE x.rules.length (Gf i x):=rfl
theorem Zhm{s:Sc}(h:s.light=true):s.places=top::(ZdE s.vars.length Vf++ZdE s.states.length (Ff s)):=by unfold Sc.places;rw[if_pos h];rfl
theorem Zfx(s:Sc):s.places.length<=20001:=by
 cases h:s.light with
 | false=>unfold Sc.places;rw[h];simp
 | true=>
  have hw:s.weight<=20000:=by unfold Sc.light at h;exact zA6 h
  rw[Zhm h,List.length_cons,zA1]
  have h1:(ZdE s.vars.length Vf).length=s.vars.length:=Zgg _ _
  have hA:∀i k m (a:Ac),((plA i k m a).length:Int)<=wA a:=λi k m a=>by
   rw[ZrB,List.length_cons,show(ZdE a.parts.length (Pf i k m)).length=a.parts.length from Zgg _ _]
   have:=(Zpn a.e).1
   have:=Zfv (λp:Pt=>nE p.e) (λp=>(Zpn p.e).1) a.parts
   unfold wA;push_cast;omega
  have hR:∀i k (r:Ru),((plR i k r).length:Int)<=wR r:=λi k r=>by
   rw[Zpp,List.length_cons]
   have:=Zn8 r.acts (Hf i k r) (plA i k) wA (λm a h=>by unfold Hf;rw[h]) (λj x _=>hA i k j x) r.acts.length (Nat.le_refl _)
   rw[List.take_length]at this
   have h1:=(ZjN r.t).1
   have h2:0<=Zge r.t.size 20000:=by unfold Zge;split <;> omega
   have h3:((ZdE r.acts.length (Hf i k r)).length:Int)<=ZbF (r.acts.map wA):=this
   unfold wR;push_cast;split <;> omega
  have hS:∀i (x:Sta),((plS i x).length:Int)<=1+wS x:=λi x=>by
   rw[Zpq,List.length_cons]
   have:=Zn8 x.rules (Gf i x) (plR i) wR (λm a h=>by unfold Gf;rw[h]) (λj x _=>hR i j x) x.rules.length (Nat.le_refl _)
   rw[List.take_length]at this
   have h3:((ZdE x.rules.length (Gf i x)).length:Int)<=ZbF (x.rules.map wR):=this
   unfold wS;push_cast;omega
  have:=Zn8 s.states (Ff s) plS (λx=>1+wS x) (λm a h=>by unfold Ff;rw[h]) (λj x _=>hS j x) s.states.length (Nat.le_refl _)
  rw[List.take_length]at this
  have h3:((ZdE s.states.length (Ff s)).length:Int)<=ZbF (s.states.map λx=>1+wS x):=this
  have h4:∀l:List Sta,ZbF (l.map λx=>1+wS x)=l.length+ZbF (l.map wS):=λl=>by
   induction l with
   | nil=>rfl
   | cons x l ih=>simp only[List.map_cons,ZbF,ih,List.length_cons];push_cast;omega
  rw[h4]at h3
  unfold Sc.weight at hw
  omega
theorem Ziv{n:Nat}{f:Nat->List Pl}{p:Pl}(h:p∈ZdE n f):∃i,i < n/\p∈f i:=by
 unfold ZdE at h
 obtain⟨i,hi,hp⟩:=List.mem_flatMap.1 h
 exact⟨i,List.mem_range.1 hi,hp⟩
def ZDT(s:Sc)(p:Pl):Prop:=(∃i:Nat,p.v=i/\∃v,s.vars[i]?=some v)\/(p.v < 0/\(p.s < 0\/∃i:Nat,p.s=i/\∃x,s.states[i]?=some x/\(p.r < 0\/∃k:Nat,p.r=k/\∃r,x.rules[k]?=some r/\(p.a < 0\/∃j:Nat,p.a=j/\∃a,r.acts[j]?=some a/\(p.p < 0\/∃n:Nat,p.p=n/\∃q,a.parts[n]?=some q)))))
theorem ZBL:(-1:Int) < 0:=by decide
theorem ZnX{α:Type}{l:List α}{n:Nat}(h:n < l.length):∃c,l[n]?=some c:=⟨_,zA3 h⟩
theorem Zfy(s:Sc):∀p∈s.places,ZDT s p:=by
 intro p hp
 cases h:s.light with
 | false=>unfold Sc.places at hp;rw[h]at hp;simp at hp
 | true=>
  rw[Zhm h]at hp
  rcases List.mem_cons.1 hp with rfl|hp
  ·exact .inr ⟨by decide,.inl (by decide)⟩
  rcases List.mem_append.1 hp with hp|hp
  ·obtain⟨i,hi,hp⟩:=Ziv hp
   obtain rfl:p=⟨i,-1,-1,-1,-1⟩:=by simpa[Vf]using hp
   exact .inl ⟨i,rfl,ZnX hi⟩
  ·obtain⟨i,hi,hp⟩:=Ziv hp
   obtain⟨x,hx⟩:=ZnX hi
   have hp:p∈plS i x:=by unfold Ff at hp;rw[hx]at hp;exact hp
   rw[Zpq]at hp
   rcases List.mem_cons.1 hp with rfl|hp
   ·exact .inr ⟨ZBL,.inr ⟨i,rfl,x,hx,.inl (ZBL)⟩⟩
   obtain⟨k,hk,hp⟩:=Ziv hp
   obtain⟨r,hr⟩:=ZnX hk
   have hp:p∈plR i k r:=by unfold Gf at hp;rw[hr]at hp;exact hp
   rw[Zpp]at hp
   rcases List.mem_cons.1 hp with rfl|hp
   ·exact .inr ⟨ZBL,.inr ⟨i,rfl,x,hx,.inr ⟨k,rfl,r,hr,.inl (ZBL)⟩⟩⟩
   obtain⟨j,hj,hp⟩:=Ziv hp
   obtain⟨a,ha⟩:=ZnX hj
   have hp:p∈plA i k j a:=by unfold Hf at hp;rw[ha]at hp;exact hp
   rw[ZrB]at hp
   rcases List.mem_cons.1 hp with rfl|hp
   ·exact .inr ⟨ZBL,.inr ⟨i,rfl,x,hx,.inr ⟨k,rfl,r,hr,.inr ⟨j,rfl,a,ha,.inl (ZBL)⟩⟩⟩⟩
   obtain⟨n,hn,hp⟩:=Ziv hp
   obtain rfl:p=⟨-1,i,k,j,n⟩:=by simpa[Pf]using hp
   exact .inr ⟨ZBL,.inr ⟨i,rfl,x,hx,.inr ⟨k,rfl,r,hr,.inr ⟨j,rfl,a,ha,.inr ⟨n,rfl,ZnX hn⟩⟩⟩⟩⟩
end Go.Rx
namespace Go.Rx
open Go Go.Eng Go.RowKit
def T.good(t:T):Bool:=t.nodes.all T.right
def isG(t:T):Bool:=t.k == 6
theorem Zmg(p:T->Bool):∀l:List T,(Zaz l).all p=l.all λt=>t.nodes.all p
 | []=>rfl
 | t::l=>by simp only[Zaz,List.all_append,List.all_cons,Zmg p l]
theorem Zpr(t:T):t.good=(t.right&&t.subs.all T.good):=by
 unfold T.good;rw[ZcC,List.all_cons,Zmg]
def grL(l:List T):Nat:=(Zaz l).countP isG
def szL(l:List T):Nat:=(Zaz l).length
def T.gr(t:T):Nat:=t.nodes.countP isG
theorem ZaG(l r:List T):szL (l++r)=szL l+szL r:=by unfold szL;rw[Zdg,zA1]
theorem ZbA(l r:List T):grL (l++r)=grL l+grL r:=by unfold grL;rw[Zdg,List.countP_append]
theorem Zbk(t:T):szL [t]=t.nodes.length:=by simp[szL,Zaz]
theorem Zdh(t:T):grL [t]=t.gr:=by simp[grL,Zaz,T.gr]
theorem ZcE(t:T):ZeT [t]=t.pos:=by simp[ZeT]
theorem ZeW(t:T)(l:List T):szL (t::l)=t.nodes.length+szL l:=by simp[szL,Zaz]
theorem ZsP(t:T)(l:List T):grL (t::l)=t.gr+grL l:=by simp[grL,Zaz,T.gr,List.countP_append]
theorem Zky(t:T):t.nodes.length=1+szL t.subs:=by rw[ZcC,List.length_cons,szL];omega
theorem ZyP(t:T):t.gr=(if isG t=true then 1 else 0)+grL t.subs:=by
 unfold T.gr;rw[ZcC,List.countP_cons,grL];omega
theorem Zps(l:List T):l.length<=szL l:=by
 induction l with
 | nil=>simp
 | cons t l ih=>rw[ZeW,Zky,List.length_cons];omega
def Za0(k:Int)(t:T):List T:=if t.k=k then t.subs else if k=3/\t.k=1 then[]else[t]
def Zfz(k:Int)(a:Option Addr)(c:Nat):List T->T
 | []=>T1
 | [x]=>x
 | x::y::l=>ZbQ k 0 0 a c (x::y::l)
theorem Zkz{t:T}{k:Int}(h:t.has k=false):∀x∈t.subs,x.k≠k:=by
 intro x hx e
 unfold T.has at h
 have:=List.any_eq_false.1 h x hx
 simp[e]at this
theorem Zw9{t:T}{k:Int}(h:∀x∈t.subs,x.k≠k):t.has k=false:=by
 unfold T.has
 rw[List.any_eq_false]
 intro x hx
 have:=h x hx
 simpa using this
theorem ZkA{k:Int}{t:T}(hk:k=3\/k=4)(hg:t.good=true)(hp:t.pos<=10000):(∀x∈Za0 k t,x.good=true/\x.k≠k/\(k=3->x.k≠1))/\szL (Za0 k t)<=t.nodes.length/\grL (Za0 k t)<=t.gr/\ZeT (Za0 k t)<=t.pos:=by
 have hg':=hg
 rw[Zpr,zA7,List.all_eq_true]at hg'
 unfold Za0
 split
 ·rename_i dI
  refine⟨λx hx=>⟨hg'.2 x hx,?_⟩,by rw[Zky];omega,by rw[ZyP];omega,?_⟩
  ·have hr:=hg'.1
   unfold T.right at hr
   rw[zA7]at hr
   have hr:=hr.2
   rcases hk with rfl|rfl
   ·simp only[dI]at hr
    simp at hr
    exact⟨Zkz hr.2.2 x hx,λ_=>Zkz hr.2.1 x hx⟩
   ·simp only[dI]at hr
    simp at hr
    exact⟨Zkz hr.2 x hx,λh=>by omega⟩
  ·rw[Zrx]at hp ⊢
   have h5:¬t.k=5:=by omega
   have h2:¬t.k=2:=by omega
   unfold ZyN at hp ⊢
   rw[if_neg h5,if_neg h2,Int.zero_add]at hp ⊢
   unfold Zge at hp ⊢
   split at hp
   ·omega
   ·split <;> omega
 ·rename_i dI
  split
  ·refine⟨λx hx=>by simp at hx,by simp[szL,Zaz],by simp[grL,Zaz],?_⟩
   simp only[ZeT];exact(ZiM t).1
  ·rename_i xA
   refine⟨λx hx=>?_,by rw[Zbk];exact Nat.le_refl _,by rw[Zdh];exact Nat.le_refl _,by rw[ZcE];exact Int.le_refl _⟩
   simp at hx;subst hx
   exact⟨hg,dI,λh=>λh1=>xA ⟨h,h1⟩⟩
theorem Zpt{k:Int}(hk:k=3\/k=4)(a:Option Addr)(c:Nat):∀{l:List T},(∀x∈l,x.good=true/\x.k≠k/\(k=3->x.k≠1))->(Zfz k a c l).good=true/\(Zfz k a c l).nodes.length<=1+szL l/\(Zfz k a c l).gr<=grL l/\(Zfz k a c l).pos<=ZeT l
 | [],_=>⟨show T1.good=true by decide,show T1.nodes.length<=1 by decide,show T1.gr<=0 by decide,show T1.pos<=0 by decide⟩
 | [x],h=>by
  rw[Zbk,Zdh,ZcE]
  exact⟨(h x (by simp)).1,by show x.nodes.length<=_;omega,Nat.le_refl _,Int.le_refl _⟩
 | x::y::l,h=>by
  show(ZbQ k 0 0 a c (x::y::l)).good=true/\(ZbQ k 0 0 a c (x::y::l)).nodes.length<=_/\(ZbQ k 0 0 a c (x::y::l)).gr<=_/\(ZbQ k 0 0 a c (x::y::l)).pos<=_
  have hs:(ZbQ k 0 0 a c (x::y::l)).subs=x::y::l:=rfl
  have dI:(ZbQ k 0 0 a c (x::y::l)).k=k:=rfl
  have hz:(ZbQ k 0 0 a c (x::y::l)).setZ=true:=rfl
  have vQ:(ZbQ k 0 0 a c (x::y::l)).mn=0:=rfl
  have mV:(ZbQ k 0 0 a c (x::y::l)).mx=0:=rfl
  refine⟨?_,by rw[Zky,hs];exact Nat.le_refl _,?_,?_⟩
  ·rw[Zpr,zA7,List.all_eq_true,hs]
   refine⟨?_,λz hz=>(h z hz).1⟩
   have h1:k=3->(ZbQ k 0 0 a c (x::y::l)).has 1=false:=λe=>Zw9 λz hz=>(h z hz).2.2 e
   have h2:(ZbQ k 0 0 a c (x::y::l)).has k=false:=Zw9 λz hz=>(h z hz).2.1
   unfold T.right
   rw[dI,hz,vQ,mV,hs]
   rcases hk with rfl|rfl
   ·simp[h1 rfl,h2]
   ·simp[h2]
  ·rw[ZyP,hs,isG,dI]
   rcases hk with rfl|rfl <;> simp
  ·rw[Zrx,dI,vQ,mV,hs]
   unfold ZyN
   rw[if_neg (by omega),if_neg (by omega),Int.zero_add]
   exact(Zl7 _ _).1
structure J (i:Nat)(ts:List T)(u g:Nat):Prop where
 good:∀t∈ts,t.good=true
 sz:szL ts<=i
 pos:ZeT ts<=(i*u:Nat)
 u1:1<=u
 u16:u<=16
 gr:grL ts<=g
 g9:g<=9
theorem J.zero:J 0 [] 1 0:=⟨by simp,by simp[szL,Zaz],by simp[ZeT],by omega,by omega,by simp[grL,Zaz],by omega⟩
theorem J.skip{i ts u g}(h:J i ts u g):J (i+1) ts u g:=
 ⟨h.good,by have:=h.sz;omega,by have:=h.pos;have e:(i+1)*u=i*u+u:=Nat.succ_mul i u;rw[e];omega,h.u1,h.u16,h.gr,h.g9⟩
theorem J.push{i ts u g}(h:J i ts u g){t:T}(hg:t.good=true)(hs:t.nodes.length=1)(hp:t.pos<=1)(hr:t.gr=0):J (i+1) (ts++[t]) u g:=by
 refine⟨λx hx=>?_,?_,?_,h.u1,h.u16,?_,h.g9⟩
 ·rcases List.mem_append.1 hx with hx|hx
  ·exact h.good x hx
  ·simp at hx;subst hx;exact hg
 ·rw[ZaG,Zbk,hs];have:=h.sz;omega
 ·rw[Zbc,ZcE];have:=h.pos;have:=h.u1;have e:(i+1)*u=i*u+u:=Nat.succ_mul i u;rw[e];omega
 ·rw[ZbA,Zdh,hr];have:=h.gr;omega
theorem J.pos400{i ts u g}(h:J i ts u g)(hi:i<=25):ZeT ts<=400:=by
 have h1:=h.pos
 have:i*u<=25*16:=Nat.mul_le_mul hi h.u16
 omega
theorem J.join{i ts u g}{x y:T}(h:J i (ts++[x,y]) u g)(hi:i<=25){k:Int}(hk:k=3\/k=4)(a:Option Addr)(c:Nat):J (i+1) (ts++[Zfz k a c (Za0 k x++Za0 k y)]) u g:=by
 have h4:=h.pos400 hi
 have hz:=h.sz
 have hp:=h.pos
 have nA:=h.gr
 rw[show ts++[x,y]=ts++([x]++[y]) from rfl]at h4 hz hp nA
 rw[Zbc,Zbc,ZcE,ZcE]at h4 hp
 rw[ZaG,ZaG,Zbk,Zbk]at hz
 rw[ZbA,ZbA,Zdh,Zdh]at nA
 have n1:=Zhk ts
 have n2:=(ZiM x).1
 have n3:=(ZiM y).1
 obtain⟨a1,a2,a3,a4⟩:=ZkA hk (h.good x (by simp)) (by omega)
 obtain⟨b1,b2,b3,b4⟩:=ZkA hk (h.good y (by simp)) (by omega)
 obtain⟨c1,c2,c3,c4⟩:=Zpt hk a c (l:=Za0 k x++Za0 k y) (λz hz=>by
  rcases List.mem_append.1 hz with hz|hz
  ·exact a1 z hz
  ·exact b1 z hz)
 rw[ZaG]at c2
 rw[ZbA]at c3
 rw[Zbc]at c4
 refine⟨λz hz=>?_,?_,?_,h.u1,h.u16,?_,h.g9⟩
 ·rcases List.mem_append.1 hz with hz|hz
  ·exact h.good z (by simp[hz])
  ·simp at hz;subst hz;exact c1
 ·rw[ZaG,Zbk];omega
 ·rw[Zbc,ZcE];have e:(i+1)*u=i*u+u:=Nat.succ_mul i u;rw[e];omega
 ·rw[ZbA,Zdh];omega
theorem J.group{i ts u g}{x:T}(h:J i (ts++[x]) u g)(hg:g < 9)(a:Option Addr)(c:Nat):J (i+1) (ts++[ZbQ 6 0 0 a c [x]]) u (g+1):=by
 have hz:=h.sz
 have hp:=h.pos
 have nA:=h.gr
 rw[Zbc,ZcE]at hp
 rw[ZaG,Zbk]at hz
 rw[ZbA,Zdh]at nA
 have hs:(ZbQ 6 0 0 a c [x]).subs=[x]:=rfl
 refine⟨λz hz=>?_,?_,?_,h.u1,h.u16,?_,by omega⟩
 ·rcases List.mem_append.1 hz with hz|hz
  ·exact h.good z (by simp[hz])
  ·simp at hz;subst hz
   rw[Zpr,zA7,List.all_eq_true]
   refine⟨rfl,λz hz=>?_⟩
   rw[hs]at hz;simp at hz;subst hz
   exact h.good z (by simp)
 ·rw[ZaG,Zbk,Zky,hs,Zbk];omega
 ·rw[Zbc,ZcE,Zrx,hs,ZcE]
  have:ZyN (ZbQ 6 0 0 a c [x]).k (ZbQ 6 0 0 a c [x]).mn (ZbQ 6 0 0 a c [x]).mx ((if(ZbQ 6 0 0 a c [x]).k=2 then 1 else 0)+x.pos)<=x.pos:=by
   show Zge (if(6:Int)=5 then _ else(if(6:Int)=2 then 1 else 0)+x.pos) 10001<=_
   rw[if_neg (by omega),if_neg (by omega),Int.zero_add]
   exact(Zl7 _ _).1
  have e:(i+1)*u=i*u+u:=Nat.succ_mul i u
  rw[e];omega
 ·rw[ZbA,Zdh,ZyP,hs,Zdh]
  split <;> omega
theorem J.rep{i ts u g}{x:T}(h:J i (ts++[x]) u g)(hx:x.k≠1){mn mx:Int}(hb:Zks mn mx=true){w:Nat}(hw:Zw5 mn mx<=w)(h1:1<=w)(hu:u*w<=16)(a:Option Addr)(c:Nat):J (i+1) (ts++[ZbQ 5 mn mx a c [x]]) (u*w) g:=by
 have hz:=h.sz
 have hp:=h.pos
 have nA:=h.gr
 rw[Zbc,ZcE]at hp
 rw[ZaG,Zbk]at hz
 rw[ZbA,Zdh]at nA
 have hs:(ZbQ 5 mn mx a c [x]).subs=[x]:=rfl
 have n1:=Zhk ts
 have n2:=(ZiM x).1
 refine⟨λz hz=>?_,?_,?_,?_,hu,?_,h.g9⟩
 ·rcases List.mem_append.1 hz with hz|hz
  ·exact h.good z (by simp[hz])
  ·simp at hz;subst hz
   rw[Zpr,zA7,List.all_eq_true]
   refine⟨?_,λz hz=>?_⟩
   ·have hh:(ZbQ 5 mn mx a c [x]).has 1=false:=Zw9 λz hz=>by rw[hs]at hz;simp at hz;subst hz;exact hx
    unfold T.right
    rw[hh,hs,show(ZbQ 5 mn mx a c [x]).k=5 from rfl,show(ZbQ 5 mn mx a c [x]).setZ=true from rfl,show(ZbQ 5 mn mx a c [x]).mn=mn from rfl,show(ZbQ 5 mn mx a c [x]).mx=mx from rfl,hb]
    simp
   ·rw[hs]at hz;simp at hz;subst hz
    exact h.good z (by simp)
 ·rw[ZaG,Zbk,Zky,hs,Zbk];omega
 ·rw[Zbc,ZcE,Zrx,hs,ZcE]
  have key:ZyN (ZbQ 5 mn mx a c [x]).k (ZbQ 5 mn mx a c [x]).mn (ZbQ 5 mn mx a c [x]).mx ((if(ZbQ 5 mn mx a c [x]).k=2 then 1 else 0)+x.pos)<=x.pos*w:=by
   show Zge (if(5:Int)=5 then((if(5:Int)=2 then 1 else 0)+x.pos)*Zw5 mn mx else _) 10001<=_
   rw[if_pos rfl,if_neg (by omega),Int.zero_add]
   exact Int.le_trans (Zl7 _ _).1 (Int.mul_le_mul_of_nonneg_left hw n2)
  have k2:ZeT ts<=ZeT ts*w:=by
   have:=Int.mul_le_mul_of_nonneg_left (show(1:Int)<=w by omega) n1
   rw[Int.mul_one]at this;exact this
  have k3:(ZeT ts+x.pos)*w<=((i*u:Nat):Int)*w:=Int.mul_le_mul_of_nonneg_right hp (by omega)
  rw[Int.add_mul]at k3
  have e:(i+1)*(u*w)=i*u*w+u*w:=by rw[Nat.succ_mul,Nat.mul_assoc]
  have e2:(((i*u:Nat):Int)*w)=((i*u*w:Nat):Int):=by push_cast;rfl
  rw[e2]at k3
  rw[e]
  generalize i*u*w=A at *
  generalize u*w=B at *
  generalize ZeT ts*(w:Int)=D at *
  generalize x.pos*(w:Int)=F at *
  omega
 ·have:=Nat.mul_le_mul h.u1 h1;omega
 ·rw[ZbA,Zdh,ZyP,hs,Zdh,isG,show(ZbQ 5 mn mx a c [x]).k=5 from rfl]
  simp;omega
structure F (t:T)(l:List T):Prop where
 good:t.good=true
 goods:∀x∈l,x.good=true
 sz:t.nodes.length+szL l+l.length<=60
 pos:t.pos+ZeT l<=400
 gr:t.gr+grL l<=9
theorem F.start{i u g}{t:T}{l:List T}(h:J i (t::l) u g)(hi:i<=25):F t l:=by
 have h1:=h.sz
 have h2:=h.pos400 hi
 have h3:=h.gr
 rw[ZeW]at h1
 rw[ZsP]at h3
 have:=Zps l
 have:=h.g9
 exact⟨h.good t (by simp),λx hx=>h.good x (by simp[hx]),by omega,by simpa[ZeT]using h2,by omega⟩
theorem F.step{t x:T}{l:List T}(h:F t (x::l))(a:Option Addr)(c:Nat):F (Zfz 4 a c (Za0 4 t++Za0 4 x)) l:=by
 have h1:=h.sz
 have h2:=h.pos
 have h3:=h.gr
 rw[ZeW,List.length_cons]at h1
 rw[ZsP]at h3
 simp only[ZeT]at h2
 have n1:=Zhk l
 have n2:=(ZiM x).1
 have n3:=(ZiM t).1
 obtain⟨a1,a2,a3,a4⟩:=ZkA (.inr rfl) h.good (by omega) (t:=t)
 obtain⟨b1,b2,b3,b4⟩:=ZkA (.inr rfl) (h.goods x (by simp)) (by omega)
 obtain⟨c1,c2,c3,c4⟩:=Zpt (.inr rfl) a c (l:=Za0 4 t++Za0 4 x) (λz hz=>by
  rcases List.mem_append.1 hz with hz|hz
  ·exact a1 z hz
  ·exact b1 z hz)
 rw[ZaG]at c2
 rw[ZbA]at c3
 rw[Zbc]at c4
 exact⟨c1,λz hz=>h.goods z (by simp[hz]),by omega,by omega,by omega⟩
theorem F.done{t:T}{l:List T}(h:F t l):t.check=0:=by
 have h1:=h.sz
 have h2:=h.pos
 have h3:=h.gr
 have n1:=Zhk l
 have hl:t.light=true:=by unfold T.light;exact decide_eq_true (by omega)
 have hc:t.clean=true:=by unfold T.clean;rw[hl];exact h.good
 have hg:((t.nodes.countP λx=>x.k == 6:Nat))=t.gr:=rfl
 unfold T.check
 rw[hc]
 unfold T.size T.positions T.groups
 rw[hl,hg]
 simp only[if_true,Bool.true_eq_false,if_false]
 rw[if_neg (by omega),if_neg (by omega),if_neg (by omega)]
theorem ZsQ(n:Nat):(Zku (ZdI n)).good=true/\(Zku (ZdI n)).nodes.length=1/\(Zku (ZdI n)).pos<=1/\(Zku (ZdI n)).gr=0:=by
 have h:n % 12=0\/n % 12=1\/n % 12=2\/n % 12=3\/n % 12=4\/n % 12=5\/n % 12=6\/n % 12=7\/n % 12=8\/n % 12=9\/n % 12=10\/n % 12=11:=by omega
 unfold ZdI
 rcases h with e|e|e|e|e|e|e|e|e|e|e|e <;> rw[e] <;> exact⟨by decide,by decide,by decide,by decide⟩
theorem Zzy:T1.good=true/\T1.nodes.length=1/\T1.pos<=1/\T1.gr=0:=⟨by decide,by decide,by decide,by decide⟩
theorem Zex{k:Int}{t:T}:(Za0 k t).length<=t.nodes.length:=by
 unfold Za0
 have:=Zv9 t
 have:=Zky t
 split
 ·omega
 ·split <;> simp <;> omega
end Go.Rx
namespace Go.Rx
open Go Go.Eng
set_option maxRecDepth 100000
def Zhn:List ByteArray:=[⟨#[120]⟩,⟨#[121]⟩,⟨#[122,95,49]⟩,⟨#[97,98,99,100,101,102,103,104,105,106,107,108,109,110,111,112]⟩]
def ZdP:List ByteArray:=[⟨#[115]⟩,⟨#[116]⟩]
def Zm2:List ByteArray:=[⟨#[97]⟩,⟨#[98]⟩,⟨#[99]⟩,⟨#[100]⟩]
def okN(c:Int)(x:E):Prop:=x.right=true/\(x.k=9->x.s∈Zhn)/\(x.k=10->x.g<=c)
structure MkE (c:Int)(n:Nat)(e:E):Prop where
 all:∀x∈e.nodes,okN c x
 len:e.nodes.length<=n
def ZCB(x:Nat):E:=.node 8 x .empty 0 none 0 []
def ZAX(s:ByteArray):E:=.node 9 0 s 0 none 0 []
def ZDi(g:Int):E:=.node 10 0 .empty g none 0 []
def ZAY(a:Option Addr)(c:Nat)(x:E):E:=.node 1 0 .empty 0 a c [x]
def opE(k:Int)(a:Option Addr)(c:Nat)(x y:E):E:=.node k 0 .empty 0 a c [x,y]
theorem MkE.mono{c n k e}(h:MkE c n e)(hk:n<=k):MkE c k e:=⟨h.all,Nat.le_trans h.len hk⟩
theorem Zn9{c:Int}{k x s g a d}(h:okN c (.node k x s g a d [])):MkE c 1 (.node k x s g a d []):=by
 refine⟨λy hy=>?_,by simp[E.nodes,Zao]⟩
 simp only[E.nodes,Zao,List.mem_singleton]at hy
 rw[hy];exact h
theorem ZuB:Zuz 0 0=true:=by decide +kernel
theorem Zwe{c:Int}{x:Nat}(h:Zfu x=true):MkE c 1 (ZCB x):=by
 refine Zn9 ⟨?_,λe=>absurd (show(8:Int)=9 from e) (by decide),λe=>absurd (show(8:Int)=10 from e) (by decide)⟩
 simp[E.right,E.k,E.s,E.x,E.g,E.subs,Zmf,h]
theorem ZsR:∀s∈Zhn,Zcl s=true:=by decide +kernel
theorem Zwf:∀s∈ZdP,Zcl s=true:=by decide +kernel
theorem ZsS:∀s∈Zm2,Zcl s=true:=by decide +kernel
theorem Zwg{c:Int}{s:ByteArray}(h:s∈Zhn):MkE c 1 (ZAX s):=by
 refine Zn9 ⟨?_,λ_=>h,λe=>absurd (show(9:Int)=10 from e) (by decide)⟩
 simp[E.right,E.k,E.s,E.x,E.g,E.subs,Zmf,ZsR s h,ZuB]
theorem Zzz{c g:Int}(h:0<=g/\g<=9)(hc:g<=c):MkE c 1 (ZDi g):=by
 refine Zn9 ⟨?_,λe=>absurd (show(10:Int)=9 from e) (by decide),λ_=>hc⟩
 simp[E.right,E.k,E.s,E.x,E.g,E.subs,Zmf,ZuB,h.1,h.2]
theorem ZzA{c:Int}{n:Nat}{a d}{x:E}(h:MkE c n x)(hk:x.k≠8):MkE c (n+1) (ZAY a d x):=by
 refine⟨λy hy=>?_,by have:=h.len;simp[ZAY,E.nodes,Zao];omega⟩
 simp only[ZAY,E.nodes,Zao,List.append_nil,List.mem_cons]at hy
 rcases hy with rfl|hy
 ·refine⟨?_,λe=>absurd (show(1:Int)=9 from e) (by decide),λe=>absurd (show(1:Int)=10 from e) (by decide)⟩
  have h1:E.right (.node 1 0 .empty 0 a d [x])=!Zkx [x]:=by simp[E.right,E.k,E.s,E.x,E.g,E.subs,Zmf,ZuB]
  rw[h1]
  show(!(x.k == 8))=true
  simpa using hk
 ·exact h.all y hy
theorem ZzB{c:Int}{n p:Nat}{a d}{k:Int}{x y:E}(hk:2<=k/\k<=7)(h:MkE c n x)(h2:MkE c p y):MkE c (n+p+1) (opE k a d x y):=by
 refine⟨λz hz=>?_,by have:=h.len;have:=h2.len;simp[opE,E.nodes,Zao];omega⟩
 simp only[opE,E.nodes,Zao,List.append_nil,List.mem_cons,List.mem_append]at hz
 rcases hz with rfl|hz|hz
 ·refine⟨?_,λe=>?_,λe=>?_⟩
  ·have h0:¬k=0:=by omega
   have h1:¬k=1:=by omega
   have h9:¬k=9:=by omega
   have h8:¬k=8:=by omega
   have il:¬k=10:=by omega
   have hs:Zmf k=2:=by unfold Zmf;rw[if_neg h1,if_pos hk]
   have bG:k<=10:=by omega
   simp[E.right,E.k,E.s,E.x,E.g,E.subs,hs,ZuB,h0,h1,h9,h8,il,bG]
  ·have e:k=9:=e
   omega
  ·have e:k=10:=e
   omega
 ·exact h.all z hz
 ·exact h2.all z hz
theorem MkE.clean{c:Int}{n:Nat}{e:E}(h:MkE c n e)(hn:n<=10000):e.clean=true:=by
 have hl:e.light=true:=by unfold E.light;exact decide_eq_true (Nat.le_trans h.len hn)
 unfold E.clean
 rw[hl,Bool.true_and,List.all_eq_true]
 exact λx hx=>(h.all x hx).1
theorem ZzC{c:Int}(l:List E)(h:∀x∈l,x.k=10->x.g<=c):∀n:Int,n<=c->l.foldl (λn x=>if x.k=10 then(if x.g > n then x.g else n)else n) n<=c:=by
 induction l with
 | nil=>exact λn hn=>hn
 | cons x l ih=>
  intro n hn
  rw[List.foldl_cons]
  refine ih (λy hy=>h y (List.mem_cons_of_mem _ hy)) _ ?_
  split
  ·rename_i hk
   split
   ·exact h x (by simp) hk
   ·exact hn
  ·exact hn
theorem MkE.most{c:Int}{n:Nat}{e:E}(h:MkE c n e)(hc : -1<=c):e.most<=c:=by
 unfold E.most
 split
 ·exact ZzC _ (λx hx=>(h.all x hx).2.2) _ hc
 ·exact hc
mutual
theorem ZsT{A:List ByteArray}:∀(t:E)(out:List ByteArray),(∀x∈t.nodes,x.k=9->x.s∈A)->∀s∈t.names out,s∈out\/s∈A
 | .node k x s g a c l,out,h,z,hz=>by
  simp only[E.names]at hz
  split at hz
  ·rename_i hk
   split at hz
   ·exact .inl hz
   ·rcases List.mem_append.1 hz with hz|hz
    ·exact .inl hz
    ·rw[List.mem_singleton]at hz;subst hz
     exact .inr (h (.node k x z g a c l) (by simp[E.nodes]) hk)
  ·exact Zpu l out (λy hy=>h y (by simp only[E.nodes];exact List.mem_cons_of_mem _ hy)) z hz
theorem Zpu{A:List ByteArray}:∀(l:List E)(out:List ByteArray),(∀x∈Zao l,x.k=9->x.s∈A)->∀s∈ZbE l out,s∈out\/s∈A
 | [],out,_,z,hz=>.inl hz
 | t::l,out,h,z,hz=>by
  simp only[ZbE]at hz
  rcases Zpu l _ (λy hy=>h y (by simp only[Zao];exact List.mem_append_right _ hy)) z hz with hz|hz
  ·exact ZsT t out (λy hy=>h y (by simp only[Zao];exact List.mem_append_left _ hy)) z hz
  ·exact .inr hz
end
theorem MkE.vars{c:Int}{n:Nat}{e:E}(h:MkE c n e):∀s∈e.vars,s∈Zhn:=by
 intro s hs
 unfold E.vars at hs
 split at hs
 ·rcases ZsT (A:=Zhn) e [] (λx hx=>(h.all x hx).2.1) s hs with h|h
  ·cases h
  ·exact h
 ·cases hs
theorem ZzD:Zme E0=true:=by decide +kernel
inductive MkP (c:Int):Pt->Prop
 | lit (s:ByteArray) (h:0 < s.size/\s.size<=512):MkP c ⟨1,s,0,E0⟩
 | var (s:ByteArray) (h:s∈Zhn\/s∈ZdP):MkP c ⟨2,s,0,E0⟩
 | cap (g:Int) (h:0<=g/\g<=9/\g<=c):MkP c ⟨3,.empty,g,E0⟩
 | clc (e:E) (h:MkE c 20 e):MkP c ⟨4,.empty,0,e⟩
def ZC3(l:List Pt):Prop:=∀(i:Nat)(p q:Pt),l[i]?=some p->l[i+1]?=some q->p.k=1->q.k=1->False
structure MkT (c:Int)(l:List Pt):Prop where
 len:l.length<=5
 all:∀p∈l,MkP c p
 ll:ZC3 l
inductive MkA (c:Int):Ac->Prop
 | send (a:Option Addr) (n:Nat) (l:List Pt) (h:MkT c l):MkA c ⟨1,.empty,a,n,l,E0⟩
 | set (s:ByteArray) (hs:s∈ZdP) (a:Option Addr) (n:Nat) (l:List Pt) (h:MkT c l):MkA c ⟨2,s,a,n,l,E0⟩
 | let_ (s:ByteArray) (hs:s∈Zhn) (e:E) (h:MkE c 20 e):MkA c ⟨3,s,none,0,[],e⟩
def ZBo(r:Ru):Prop:=(r.k=1/\r.t.check=0/\r.t.nodes.length<=26/\r.s=.empty/\r.n=0)\/((r.bg=false/\r.en=false/\r.t=T0)/\((r.k=2/\1<=r.s.size/\r.s.size<=3/\r.n=0)\/(r.k=3/\r.s=.empty/\r.n=0)\/(r.k=4/\r.s=.empty/\1<=r.n/\r.n<=8)))
structure MkR (n:Nat)(r:Ru):Prop where
 kind:ZBo r
 len:r.acts.length<=3
 all:∀a∈r.acts,MkA (ZbW r) a
 go:((∃i,i < n/\Zm2[i]?=some r.go)/\r.code=0)\/(r.go=.empty/\0<=r.code/\r.code<=255)
structure MkS (n i:Nat)(x:Sta):Prop where
 name:Zm2[i]?=some x.s
 len:x.rules.length<=5
 all:∀r∈x.rules,MkR n r
structure MkV (i:Nat)(v:Va):Prop where
 name:(Zhn++ZdP)[i]?=some v.s
 kind:(i < 4/\v.b=true/\v.t=.empty/\Zfu v.x=true)\/(4<=i/\v.b=false/\v.t.size<=3/\v.x=0)
structure MkC (s:Sc):Prop where
 n:2<=s.n/\s.n<=12
 vlen:s.vars.length=6
 vall:∀i v,s.vars[i]?=some v->MkV i v
 len:1<=s.states.length/\s.states.length<=4
 all:∀i x,s.states[i]?=some x->MkS s.states.length i x
theorem ZrC{n:Nat}{e:E}(h:e.nodes.length<=n)(hn:n<=10000):e.light=true:=by unfold E.light;exact decide_eq_true (by omega)
theorem ZCC{n:Nat}{e:E}(h:e.nodes.length<=n)(hn:n<=10000):nE e<=n:=by
 unfold nE E.size;rw[ZrC h hn];simp;omega
theorem nE0:nE E0<=20:=by decide +kernel
theorem ZdZ{α:Type}(f:α->Int)(B:Int)(l:List α)(hf:∀x∈l,f x<=B):ZbF (l.map f)<=l.length*B:=by
 induction l with
 | nil=>simp[ZbF]
 | cons x l ih=>
  have h1:=hf x (by simp)
  have h2:=ih (λy hy=>hf y (by simp[hy]))
  simp only[List.map_cons,ZbF,List.length_cons]
  rw[show((l.length+1:Nat):Int)*B=l.length*B+B by rw[Int.natCast_add,Int.add_mul];simp]
  omega
theorem MkP.nE{c:Int}{p:Pt}(h:MkP c p):nE p.e<=20:=by
 cases h with
 | clc e h=>exact ZCC (n:=20) h.len (by omega)
 | _=>exact nE0
theorem MkA.w{c:Int}{a:Ac}(h:MkA c a):wA a<=126:=by
 have go:∀{l:List Pt},MkT c l->(l.length:Int)+ZbF (l.map λp=>Rx.nE p.e)<=105:=λ{l} h=>by
  have:=ZdZ (λp:Pt=>Rx.nE p.e) 20 l (λp hp=>(h.all p hp).nE)
  have:=h.len
  omega
 have e0:=nE0
 cases h with
 | send a n l h=>have:=go h;simp only[wA];omega
 | set s hs a n l h=>have:=go h;simp only[wA];omega
 | let_ s hs e h=>have:=ZCC h.len (by omega);simp[wA,ZbF];omega
theorem ZkB{t:T}(h:t.nodes.length<=10000):t.light=true:=by unfold T.light;exact decide_eq_true h
theorem Zpv:T0.size=1/\T0.light=true/\T0.same T0=true:=by decide +kernel
theorem MkR.size{n:Nat}{r:Ru}(h:MkR n r):r.t.light=true/\0<=r.t.size/\r.t.size<=26:=by
 rcases h.kind with⟨_,_,h,_⟩|⟨⟨_,_,h⟩,_⟩
 ·have hl:=ZkB (t:=r.t) (by omega)
  refine⟨hl,?_⟩
  unfold T.size;rw[hl];simp;omega
 ·rw[h,Zpv.1];exact⟨Zpv.2.1,by omega,by omega⟩
theorem MkR.w{n:Nat}{r:Ru}(h:MkR n r):wR r<=405:=by
 obtain⟨h1,h2,h3⟩:=h.size
 have:=ZdZ wA 126 r.acts (λa ha=>(h.all a ha).w)
 have:=h.len
 have hi:Zge r.t.size 20000<=26:=by unfold Zge;split <;> omega
 unfold wR;rw[h1];simp;omega
theorem MkS.w{n i:Nat}{x:Sta}(h:MkS n i x):wS x<=2025:=by
 have:=ZdZ wR 405 x.rules (λa ha=>(h.all a ha).w)
 have:=h.len
 unfold wS;omega
theorem MkC.state{s:Sc}(h:MkC s){x:Sta}(hx:x∈s.states):∃i,s.states[i]?=some x/\MkS s.states.length i x:=by
 obtain⟨i,hi⟩:=List.getElem?_of_mem hx
 exact⟨i,hi,h.all i x hi⟩
theorem MkC.weight{s:Sc}(h:MkC s):s.weight<=8200:=by
 have:=ZdZ wS 2025 s.states (λx hx=>by obtain⟨i,_,h⟩:=h.state hx;exact h.w)
 have:=h.len
 have:=h.vlen
 unfold Sc.weight;omega
theorem MkC.light{s:Sc}(h:MkC s):s.light=true:=by unfold Sc.light;exact decide_eq_true (by have:=h.weight;omega)
theorem ZsU(s:ByteArray):eqS s s=true:=by unfold eqS;simp
theorem ZzE:∀j < 6,∀i < 6,j≠i->eqS ((Zhn++ZdP).getD j .empty) ((Zhn++ZdP).getD i .empty)=false:=by decide +kernel
theorem ZzF:∀j < 4,∀i < 4,j≠i->eqS (Zm2.getD j .empty) (Zm2.getD i .empty)=false:=by decide +kernel
theorem ZcW{l:List ByteArray}{i:Nat}{s:ByteArray}(h:l[i]?=some s):l.getD i .empty=s:=by rw[List.getD_eq_getElem?_getD,h];rfl
theorem Zwh{α:Type}{p:α->Bool}:∀{l:List α} {i:Nat} {x:α},l[i]?=some x->p x=true->(∀j y,j < i->l[j]?=some y->p y=false)->l.find? p=some x
 | [],i,x,h,_,_=>by simp at h
 | a::l,0,x,h,hp,_=>by
  simp at h;subst h
  rw[List.find?_cons_of_pos hp]
 | a::l,i+1,x,h,hp,hn=>by
  rw[List.find?_cons_of_neg (by rw[hn 0 a (by omega) rfl];simp)]
  exact Zwh (l:=l) (i:=i) (by simpa using h) hp (λj y hj hy=>hn (j+1) y (by omega) (by simpa using hy))
theorem MkC.kind{s:Sc}(h:MkC s){i:Nat}{name:ByteArray}(hi:(Zhn++ZdP)[i]?=some name):ZbK s name=(decide (i < 4),true):=by
 have t7:i < 6:=(zA0 hi).1
 have aP:=h.vlen
 have hv:s.vars[i]?=some (s.vars[i]'(by omega)):=zA3 (by omega)
 have hm:=h.vall i _ hv
 generalize s.vars[i]'(by omega)=v at hv hm
 have hn:v.s=name:=Option.some.inj (hm.name.symm.trans hi)
 have hf:(s.vars.find? λv=>eqS v.s name)=some v:=Zwh hv (by rw[hn];exact ZsU _) (λj y hj hy=>by
  have hy':=(h.vall j y hy).name
  have:=ZzE j (by omega) i t7 (by omega)
  rwa [ZcW hy',ZcW hi]at this)
 unfold ZbK
 rw[hf]
 rcases hm.kind with⟨h4,hb,_⟩|⟨h4,hb,_⟩
 ·rw[decide_eq_true h4];show(v.b,true)=_;rw[hb]
 ·rw[decide_eq_false (by omega)];show(v.b,true)=_;rw[hb]
theorem MkC.num{s:Sc}(h:MkC s){name:ByteArray}(hn:name∈Zhn):ZbK s name=(true,true):=by
 obtain⟨i,hi⟩:=List.getElem?_of_mem hn
 have aH:i < 4:=(zA0 hi).1
 have:=h.kind (i:=i) (name:=name) (by rw[zA5 aH];exact hi)
 rwa [decide_eq_true aH]at this
theorem MkC.txt{s:Sc}(h:MkC s){name:ByteArray}(hn:name∈ZdP):ZbK s name=(false,true):=by
 obtain⟨i,hi⟩:=List.getElem?_of_mem hn
 have aH:i < 2:=(zA0 hi).1
 have:=h.kind (i:=4+i) (name:=name) (by rw[zA4 (show Zhn.length<=4+i by show 4<=_;omega)];show ZdP[4+i - 4]?=_;rw[show 4+i - 4=i by omega];exact hi)
 rwa [decide_eq_false (by omega)]at this
theorem MkC.numbers{s:Sc}(h:MkC s){c:Int}{n:Nat}{e:E}(he:MkE c n e):Zbj s e=true:=by
 unfold Zbj
 rw[Bool.not_eq_true',List.any_eq_false]
 intro x hx
 rw[h.num (he.vars x hx)];simp
theorem MkC.finds{s:Sc}(h:MkC s){i:Nat}{name:ByteArray}(hi:i < s.states.length)(hn:Zm2[i]?=some name):ZdO s name=true:=by
 unfold ZdO
 rw[h.light,Bool.and_true,List.any_eq_true]
 refine⟨s.states[i],List.getElem_mem _,?_⟩
 have:=(h.all i _ (zA3 hi)).name
 rw[hn]at this
 rw[<-Option.some.inj this];exact ZsU _
theorem Zc4{n a b:Int}:Zbl n a b=true↔a<=n/\n<=b:=by
 unfold Zbl
 rw[zA7,decide_eq_true_iff,decide_eq_true_iff]
theorem MkC.whole{s:Sc}(h:MkC s):Zew s=0:=by
 have h1:Zbl s.n 2 256=true:=Zc4.2 (by have:=h.n;omega)
 have h2:Zbl s.states.length 1 24=true:=Zc4.2 (by have:=h.len;omega)
 have h3:decide (s.vars.length > 12)=false:=decide_eq_false (by have:=h.vlen;omega)
 simp[Zew,ZaY,h1,h2,h3]
theorem Zar:ByteArray.empty.size=0:=rfl
theorem MkC.var{s:Sc}(h:MkC s){i:Nat}{v:Va}(hv:s.vars[i]?=some v):Za3 s i v=0:=by
 have hm:=h.vall i v hv
 have t7:i < 6:=by have:=(zA0 hv).1;have:=h.vlen;omega
 have h1:Zcl v.s=true:=by
  have bO:=zA2 hm.name
  rcases List.mem_append.1 bO with hx|hx
  ·exact ZsR _ hx
  ·exact Zwf _ hx
 have h2:Zfw v=true:=by
  unfold Zfw
  rcases hm.kind with⟨_,hb,ht,hx⟩|⟨_,hb,ht,hx⟩
  ·rw[hb,ht,hx];rfl
  ·rw[hb,hx]
   simp;omega
 have h3:((s.vars.take i).any λx=>eqS x.s v.s)=false:=by
  rw[List.any_eq_false]
  intro x hx
  obtain⟨j,hj⟩:=List.getElem?_of_mem hx
  have jb:j < i:=by have:=(zA0 hj).1;rw[List.length_take]at this;omega
  rw[List.getElem?_take_of_lt jb]at hj
  have:=ZzE j (by omega) i t7 (by omega)
  rw[ZcW (h.vall j x hj).name,ZcW hm.name]at this
  rw[this];simp
 simp[Za3,ZaY,h1,h2,h3]
theorem MkC.stateOk{s:Sc}(h:MkC s){i:Nat}{x:Sta}(hx:s.states[i]?=some x):Zdt s i x=0:=by
 have hm:=h.all i x hx
 have xB:i < 4:=by have:=(zA0 hx).1;have:=h.len;omega
 have h1:Zcl x.s=true:=ZsS _ (zA2 hm.name)
 have h2:decide (x.rules.length > 12)=false:=decide_eq_false (by have:=hm.len;omega)
 have h3:((s.states.take i).any λy=>eqS y.s x.s)=false:=by
  rw[List.any_eq_false]
  intro y hy
  obtain⟨j,hj⟩:=List.getElem?_of_mem hy
  have jb:j < i:=by have:=(zA0 hj).1;rw[List.length_take]at this;omega
  rw[List.getElem?_take_of_lt jb]at hj
  have:=ZzF j (by omega) i xB (by omega)
  rw[ZcW (h.all j y hj).name,ZcW hm.name]at this
  rw[this];simp
 simp[Zdt,ZaY,h1,h2,h3]
theorem ZuC(t:T):0<=t.groups:=by unfold T.groups;split <;> omega
theorem ZsV(r:Ru) : -1<=ZbW r:=by
 have:=ZuC r.t
 unfold ZbW;split
 ·omega
 ·split <;> omega
theorem ZBp{r:Ru}(h:r.bg=false/\r.en=false/\r.t=T0):ZsN r=false:=by
 unfold ZsN;rw[h.1,h.2.1,h.2.2,Zpv.2.1,Zpv.2.2];rfl
theorem MkR.fields{n:Nat}{r:Ru}(h:MkR n r):ZaE r=true:=by
 unfold ZaE
 rcases h.kind with⟨hk,_,_,hs,hn⟩|⟨hx,⟨hk,h1,h2,hn⟩|⟨hk,hs,hn⟩|⟨hk,hs,h1,h2⟩⟩
 ·rw[hk,hs,hn];rfl
 ·rw[ZBp hx,hk,hn]
  have:Zbl r.s.size 1 64=true:=Zc4.2 (by omega)
  simp[this]
 ·rw[ZBp hx,hk,hs,hn];rfl
 ·rw[ZBp hx,hk,hs]
  have:Zbl r.n 1 1000=true:=Zc4.2 (by omega)
  simp[this,Zar]
theorem MkR.sizeR{n:Nat}{r:Ru}(h:MkR n r):Rx.sizeR r<=26:=by
 unfold Rx.sizeR;split
 ·exact h.size.2.2
 ·omega
theorem MkS.sizes{n i:Nat}{x:Sta}(h:MkS n i x)(k:Nat):ZbF ((x.rules.take k).map Rx.sizeR)<=130:=by
 have:=ZdZ Rx.sizeR 26 (x.rules.take k) (λr hr=>(h.all r (List.mem_of_mem_take hr)).sizeR)
 have h1:=h.len
 rw[List.length_take]at this
 omega
theorem MkC.totals{s:Sc}(h:MkC s)(i k:Nat):Rx.totals s i k<=600:=by
 have h0:=h.len
 have h1:=ZdZ (λx:Sta=>ZbF (x.rules.map Rx.sizeR)) 130 (s.states.take i) (λx hx=>by
  obtain⟨j,_,hm⟩:=h.state (List.mem_of_mem_take hx)
  have:=hm.sizes x.rules.length
  rwa [List.take_length]at this)
 rw[List.length_take]at h1
 unfold Rx.totals
 cases hx:s.states[i]? with
 | none=>show _+0<=_;omega
 | some x=>
  have hi:=(zA0 hx).1
  have:=(h.all i x hx).sizes (k+1)
  show _+ZbF ((x.rules.take (k+1)).map Rx.sizeR)<=_
  omega
theorem Zgh:∀s∈Zm2,s.size=1:=by decide +kernel
theorem MkC.rule{s:Sc}(h:MkC s){r:Ru}(hr:MkR s.states.length r){t:Int}(ht:t<=600):Zck s r t=0:=by
 have h1:=hr.fields
 have h2:decide (r.acts.length > 8)=false:=decide_eq_false (by have:=hr.len;omega)
 have h3:(r.k == 1&&(!(r.t.check == 0)||decide (t > 600)))=false:=by
  rw[decide_eq_false (show ¬t > 600 by omega),Bool.or_false]
  rcases hr.kind with⟨_,hc,_⟩|⟨_,⟨hk,_⟩|⟨hk,_⟩|⟨hk,_⟩⟩
  ·rw[hc];simp
  ·rw[hk];rfl
  ·rw[hk];rfl
  ·rw[hk];rfl
 have h4:(if r.go.size=0 then !Zbl r.code 0 255 else !ZdO s r.go||!(r.code == 0))=false:=by
  rcases hr.go with⟨⟨i,hi,hn⟩,hc⟩|⟨hg,hc⟩
  ·rw[if_neg (by rw[Zgh _ (zA2 hn)];omega),h.finds hi hn,hc];rfl
  ·rw[hg,if_pos Zar,Zc4.2 hc];rfl
 unfold Zck
 rw[h1,h2,h3,h4];rfl
theorem MkC.action{s:Sc}(h:MkC s){r:Ru}{a:Ac}(ha:MkA (ZbW r) a):ZaW s r a=0:=by
 have hz:=ZzD
 cases ha with
 | send a n l hl=>
  have h1:decide (l.length > 16)=false:=decide_eq_false (by have:=hl.len;omega)
  have h2:Zbl 1 1 3=true:=by decide
  unfold ZaW
  simp[ZaY,h1,h2,hz,Zar]
 | set t ht a n l hl=>
  have h1:decide (l.length > 16)=false:=decide_eq_false (by have:=hl.len;omega)
  have h2:Zbl 2 1 3=true:=by decide
  unfold ZaW
  simp[ZaY,h1,h2,hz,h.txt ht]
 | let_ t ht e he=>
  have h2:Zbl 3 1 3=true:=by decide
  have h3:=he.clean (by omega)
  have h4:=h.numbers he
  have h5:decide (e.most > ZbW r)=false:=decide_eq_false (by have:=he.most (ZsV r);omega)
  unfold ZaW
  simp only[ZaY,h2,h3,h4,h5,h.num ht]
  rfl
def ZBq(l:List Pt)(i:Nat):Bool:=match l[i - 1]? with
 | some q=>q.k == 1
 | none=>false
theorem ZkC(s:Sc)(r:Ru)(l:List Pt)(i:Nat)(p:Pt):Zds s r l i p=ZaY [(307,!Zbm p||(decide (i > 0)&&(p.k == 1&&ZBq l i))),(308,(p.k == 2&&!(ZbK s p.s).2)||(p.k == 4&&!Zbj s p.e)),(309,(p.k == 3&&decide (p.g > ZbW r))||(p.k == 4&&decide (p.e.most > ZbW r)))]:=rfl
theorem MkC.part{s:Sc}(h:MkC s){r:Ru}{l:List Pt}(hl:MkT (ZbW r) l){i:Nat}{p:Pt}(hp:l[i]?=some p):Zds s r l i p=0:=by
 have hz:=ZzD
 have h0:(decide (i > 0)&&(p.k == 1&&ZBq l i))=false:=by
  cases i with
  | zero=>rfl
  | succ i=>
   unfold ZBq
   rw[Nat.add_sub_cancel]
   cases hq:l[i]? with
   | none=>simp
   | some q=>
    have:=hl.ll i q p hq hp
    simp only[Bool.and_eq_false_iff]
    refine .inr ?_
    by_cases h1:p.k=1
    ·refine .inr ?_
     simp
     exact λh2=>this h2 h1
    ·refine .inl ?_
     simpa using h1
 have hm:=hl.all p (zA2 hp)
 rw[ZkC,h0]
 cases hm with
 | lit t ht=>
  have h1:Zbm ⟨1,t,0,E0⟩=true:=by simp[Zbm,hz];omega
  rw[h1];rfl
 | var t ht=>
  have h1:Zbm ⟨2,t,0,E0⟩=true:=by
   have:Zcl t=true:=by
    rcases ht with ht|ht
    ·exact ZsR _ ht
    ·exact Zwf _ ht
   simp[Zbm,hz,this]
  have h2:(ZbK s t).2=true:=by
   rcases ht with ht|ht
   ·rw[h.num ht]
   ·rw[h.txt ht]
  rw[h1]
  simp[ZaY,h2]
 | cap g hg=>
  have h1:Zbm ⟨3,.empty,g,E0⟩=true:=by simp[Zbm,hz,Zar];omega
  have h2:decide (g > ZbW r)=false:=decide_eq_false (by omega)
  rw[h1]
  simp only[ZaY,h2];rfl
 | clc e he=>
  have h1:Zbm ⟨4,.empty,0,e⟩=true:=by simp[Zbm,he.clean,Zar]
  have h2:decide (e.most > ZbW r)=false:=decide_eq_false (by have:=he.most (ZsV r);omega)
  have h3:=h.numbers he
  rw[h1]
  simp only[ZaY,h2,h3];rfl
theorem MkC.at0{s:Sc}(h:MkC s):∀p∈s.places,atS s p=0:=by
 intro p hp
 have hT:∀{r:Ru} {a:Ac},MkA (ZbW r) a->∀{n:Nat} {q:Pt},a.parts[n]?=some q->Zds s r a.parts n q=0:=λ{r a} ha {n q} hq=>by
  cases ha with
  | send _ _ l hl=>exact h.part hl hq
  | set _ _ _ _ l hl=>exact h.part hl hq
  | let_ _ _ e _=>simp at hq
 rcases Zfy s p hp with⟨i,hi,v,hv⟩|⟨hv,hs|⟨i,hi,x,hx,hr|⟨k,hk,r,hr,ha|⟨j,hj,a,ha,hq|⟨n,hn,q,hq⟩⟩⟩⟩⟩
 ·have e:atS s p=Za3 s i v:=by
   unfold atS
   rw[if_pos (by omega),show p.v.toNat=i by omega,hv]
  rw[e];exact h.var hv
 all_goals have hv':¬p.v ≥ 0:=by omega
 ·unfold atS
  rw[if_neg hv',if_pos hs];exact h.whole
 all_goals
  have hs':¬p.s < 0:=by omega
  have km:p.s.toNat=i:=by omega
  have hm:=h.all i x hx
 ·have e:atS s p=Zdt s i x:=by
   unfold atS
   rw[if_neg hv',if_neg hs',km,hx]
   exact if_pos hr
  rw[e];exact h.stateOk hx
 all_goals
  have hr':¬p.r < 0:=by omega
  have fX:p.r.toNat=k:=by omega
  have hR:=hm.all r (zA2 hr)
 ·have e:atS s p=Zck s r (Rx.totals s i k):=by
   unfold atS
   rw[if_neg hv',if_neg hs',km,hx]
   show(if p.r < 0 then _ else _)=_
   rw[if_neg hr',fX,hr]
   exact if_pos ha
  rw[e];exact h.rule hR (h.totals i k)
 all_goals
  have ha':¬p.a < 0:=by omega
  have kG:p.a.toNat=j:=by omega
  have hA:=hR.all a (zA2 ‹r.acts[j]?=some a›)
 ·have e:atS s p=ZaW s r a:=by
   unfold atS
   rw[if_neg hv',if_neg hs',km,hx]
   show(if p.r < 0 then _ else _)=_
   rw[if_neg hr',fX,hr]
   show(if p.a < 0 then _ else _)=_
   rw[if_neg ha',kG,‹r.acts[j]?=some a›]
   exact if_pos hq
  rw[e];exact h.action hA
 ·have e:atS s p=Zds s r a.parts n q:=by
   unfold atS
   rw[if_neg hv',if_neg hs',km,hx]
   show(if p.r < 0 then _ else _)=_
   rw[if_neg hr',fX,hr]
   show(if p.a < 0 then _ else _)=_
   rw[if_neg ha',kG,‹r.acts[j]?=some a›]
   show(if p.p < 0 then _ else _)=_
   rw[if_neg (by omega),show p.p.toNat=n by omega,hq]
  rw[e];exact hT hA hq
theorem MkC.problems{s:Sc}(h:MkC s):s.problems=[]:=by
 unfold Sc.problems
 rw[List.filterMap_eq_nil_iff]
 intro p hp
 rw[if_pos (h.at0 p hp)]
theorem MkC.check{s:Sc}(h:MkC s):s.check=(top,0):=by
 unfold Sc.check
 rw[if_pos h.light,h.problems]
structure F26 (t:T)(l:List T):Prop where
 f:F t l
 n:(t.k=4/\t.nodes.length+szL l<=26)\/t.nodes.length+szL l<=25
theorem F26.done{t:T}(h:F26 t []):t.check=0/\t.nodes.length<=26:=by
 refine⟨h.f.done,?_⟩
 have:szL []=0:=rfl
 rcases h.n with h|h <;> omega
theorem F26.step{t x:T}{l:List T}(h:F26 t (x::l))(a:Option Addr)(c:Nat):F26 (Zfz 4 a c (Za0 4 t++Za0 4 x)) l:=by
 refine⟨h.f.step a c,?_⟩
 have hn:=h.n
 rw[ZeW]at hn
 have ht:=Zky t
 have hx:=Zky x
 have e1:szL (Za0 4 t)<=if t.k=4 then szL t.subs else t.nodes.length:=by
  unfold Za0
  split
  ·exact Nat.le_refl _
  ·rw[if_neg (by omega),Zbk];exact Nat.le_refl _
 have e2:szL (Za0 4 x)<=x.nodes.length:=by
  unfold Za0
  split
  ·omega
  ·rw[if_neg (by omega),Zbk];exact Nat.le_refl _
 have e3:szL (Za0 4 t++Za0 4 x)=szL (Za0 4 t)+szL (Za0 4 x):=ZaG _ _
 generalize Za0 4 t++Za0 4 x=L at e3
 have hA:szL L<=t.nodes.length+x.nodes.length/\(t.k=4->szL L+1<=t.nodes.length+x.nodes.length):=by
  refine⟨?_,λh4=>?_⟩
  ·split at e1 <;> omega
  ·rw[if_pos h4]at e1;omega
 match L,hA with
 | [],_=>
  refine .inr ?_
  show T1.nodes.length+_<=_
  have:T1.nodes.length=1:=rfl
  rcases hn with⟨_,hn⟩|hn <;> omega
 | [y],hA=>
  refine .inr ?_
  show y.nodes.length+_<=_
  rw[Zbk]at hA
  rcases hn with⟨h4,hn⟩|hn
  ·have:=hA.2 h4;omega
  ·omega
 | y::z::r,hA=>
  refine .inl ⟨rfl,?_⟩
  rw[Zky]
  show 1+szL (y::z::r)+_<=_
  rcases hn with⟨h4,hn⟩|hn
  ·have:=hA.2 h4;omega
  ·omega
theorem F26.start{i u g}{t:T}{l:List T}(h:J i (t::l) u g)(hi:i<=25):F26 t l:=⟨F.start h hi,.inr (by have:=h.sz;rw[ZeW]at this;omega)⟩
theorem F26.leaf{t:T}(h1:F t [])(h2:t.nodes.length=1):F26 t []:=⟨h1,.inr (by have:szL []=0:=rfl;omega)⟩
structure PE (ts:List E)(i:Nat):Prop where
 all:∀x∈Zao ts,okN 9 x
 sz:(Zao ts).length<=i
theorem Zcu(t:E):Zao [t]=t.nodes:=by simp[Zao]
theorem PE.zero:PE [] 0:=⟨by simp[Zao],by simp[Zao]⟩
theorem PE.skip{ts i}(h:PE ts i):PE ts (i+1):=⟨h.all,by have:=h.sz;omega⟩
theorem PE.push{ts i}{t:E}(h:PE ts i)(ht:MkE 9 1 t):PE (ts++[t]) (i+1):=by
 refine⟨λx hx=>?_,?_⟩
 ·rw[ZaP,Zcu]at hx
  rcases List.mem_append.1 hx with hx|hx
  ·exact h.all x hx
  ·exact ht.all x hx
 ·rw[ZaP,Zcu,zA1]
  have:=h.sz;have:=ht.len;omega
theorem PE.neg{r:List E}{x:E}{i:Nat}(h:PE (r++[x]) i)(hk:x.k≠8)(a:Option Addr)(d:Nat):PE (r++[ZAY a d x]) (i+1):=by
 have h1:=h.all;have h2:=h.sz
 rw[ZaP,Zcu]at h1 h2
 rw[zA1]at h2
 have hm:MkE 9 (x.nodes.length+1) (ZAY a d x):=ZzA ⟨λz hz=>h1 z (List.mem_append_right _ hz),Nat.le_refl _⟩ hk
 refine⟨λz hz=>?_,?_⟩
 ·rw[ZaP,Zcu]at hz
  rcases List.mem_append.1 hz with hz|hz
  ·exact h1 z (List.mem_append_left _ hz)
  ·exact hm.all z hz
 ·rw[ZaP,Zcu,zA1]
  have:=hm.len;omega
theorem PE.op{r:List E}{x y:E}{i:Nat}(h:PE (r++[x,y]) i){k:Int}(hk:2<=k/\k<=7)(a:Option Addr)(d:Nat):PE (r++[opE k a d x y]) (i+1):=by
 have h1:=h.all;have h2:=h.sz
 rw[ZaP,show Zao [x,y]=x.nodes++y.nodes by simp[Zao]]at h1 h2
 rw[zA1,zA1]at h2
 have hm:MkE 9 (x.nodes.length+y.nodes.length+1) (opE k a d x y):=ZzB hk ⟨λz hz=>h1 z (List.mem_append_right _ (List.mem_append_left _ hz)),Nat.le_refl _⟩ ⟨λz hz=>h1 z (List.mem_append_right _ (List.mem_append_right _ hz)),Nat.le_refl _⟩
 refine⟨λz hz=>?_,?_⟩
 ·rw[ZaP,Zcu]at hz
  rcases List.mem_append.1 hz with hz|hz
  ·exact h1 z (List.mem_append_left _ hz)
  ·exact hm.all z hz
 ·rw[ZaP,Zcu,zA1]
  have:=hm.len;omega
theorem Zmh(t:E):1<=t.nodes.length:=by rw[ZbD,List.length_cons];omega
theorem Zey(l:List E):l.length<=(Zao l).length:=by
 induction l with
 | nil=>simp
 | cons t l ih=>
  have:=Zmh t
  simp only[Zao,List.length_cons,zA1];omega
structure QE (t:E)(l:List E)(b:Nat):Prop where
 all:∀x∈t.nodes,okN 9 x
 alls:∀x∈Zao l,okN 9 x
 sz:t.nodes.length+(Zao l).length+l.length<=b
theorem QE.start{t:E}{l:List E}{i:Nat}(h:PE (t::l) i):QE t l (2*i):=by
 have h1:=h.all;have h2:=h.sz
 simp only[Zao,zA1]at h1 h2
 have:=Zey l
 exact⟨λx hx=>h1 x (List.mem_append_left _ hx),λx hx=>h1 x (List.mem_append_right _ hx),by omega⟩
theorem QE.step{t x:E}{l:List E}{b:Nat}(h:QE t (x::l) b)(a:Option Addr)(d:Nat):QE (opE 2 a d t x) l b:=by
 have h1:=h.alls;have h2:=h.sz
 simp only[Zao,zA1,List.length_cons]at h1 h2
 have hm:MkE 9 (t.nodes.length+x.nodes.length+1) (opE 2 a d t x):=ZzB (by omega) ⟨h.all,Nat.le_refl _⟩ ⟨λz hz=>h1 z (List.mem_append_left _ hz),Nat.le_refl _⟩
 exact⟨hm.all,λz hz=>h1 z (List.mem_append_right _ hz),by have:=hm.len;omega⟩
theorem QE.done{t:E}{b:Nat}(h:QE t [] b):MkE 9 b t:=⟨h.all,by have:=h.sz;omega⟩
structure BoE (c:Int)(e u:E):Prop where
 all:∀x∈u.nodes,okN c x
 len:u.nodes.length<=e.nodes.length
 k8:u.k=8↔e.k=8
theorem ZsW{c:Int}:∀{l r:List E},l.length=r.length->(∀(i:Nat)(x y:E),l[i]?=some x->r[i]?=some y->BoE c x y)->(∀z∈Zao r,okN c z)/\(Zao r).length<=(Zao l).length/\Zkx r=Zkx l
 | [],[],_,_=>⟨by simp[Zao],Nat.le_refl _,rfl⟩
 | [],_::_,h,_=>by simp at h
 | _::_,[],h,_=>by simp at h
 | x::l,y::r,h,hb=>by
  have h0:=hb 0 x y rfl rfl
  obtain⟨h1,h2,_⟩:=ZsW (l:=l) (r:=r) (by simpa using h) (λi x' y' hx hy=>hb (i+1) x' y' (by simpa using hx) (by simpa using hy))
  refine⟨λz hz=>?_,?_,?_⟩
  ·simp only[Zao]at hz
   rcases List.mem_append.1 hz with hz|hz
   ·exact h0.all z hz
   ·exact h1 z hz
  ·simp only[Zao,zA1];have:=h0.len;omega
  ·show(y.k == 8)=(x.k == 8)
   rw[Bool.eq_iff_iff];simpa using h0.k8
theorem Zxa{c:Int}{k:Int}{x:Nat}{s:ByteArray}{g:Int}{a a':Option Addr}{d d':Nat}{l r:List E}(h:okN 9 (.node k x s g a d l))(hk:¬(k=10/\g > c))(hl:l.length=r.length)(hb:∀(i:Nat)(x y:E),l[i]?=some x->r[i]?=some y->BoE c x y):BoE c (.node k x s g a d l) (.node k x s g a' d' r):=by
 obtain⟨h1,h2,h3⟩:=ZsW hl hb
 refine⟨λz hz=>?_,?_,Iff.rfl⟩
 ·simp only[E.nodes,List.mem_cons]at hz
  rcases hz with rfl|hz
  ·refine⟨?_,h.2.1,λe=>?_⟩
   ·have e1:=h.1
    simp only[E.right,E.k,E.s,E.x,E.g,E.subs]at e1 ⊢
    rw[<-hl,h3];exact e1
   ·have e:k=10:=e
    show g<=c
    omega
  ·exact h1 z hz
 ·simp only[E.nodes,List.length_cons];omega
theorem ZzG{c:Int}{e:E}{s:ByteArray}(hs:s∈Zhn)(hk:e.k=10):BoE c e (ZAX s):=by
 have h:=Zwg (c:=c) hs
 refine⟨h.all,Nat.le_trans h.len (Zmh e),?_⟩
 rw[hk]
 show(9:Int)=8↔_
 omega
theorem BoE.toMk{c:Int}{n:Nat}{e u:E}(h:BoE c e u)(he:e.nodes.length<=n):MkE c n u:=⟨h.all,Nat.le_trans h.len he⟩
end Go.Rx
namespace Go.Rx
open Go Go.Eng Go.RowKit
set_option maxRecDepth 100000
mutual
def T.er:T->T
 | .node k s0 s1 s2 s3 mn mx _ _ l=>.node k s0 s1 s2 s3 mn mx none 0 (erL l)
def erL:List T->List T
 | []=>[]
 | t::l=>t.er::erL l
end
theorem ZsX:∀l:List T,erL l=l.map T.er
 | []=>rfl
 | t::l=>by simp only[erL,List.map_cons,ZsX l]
@[simp] theorem ZAZ (t:T):t.er.k=t.k:=by cases t;rfl
@[simp] theorem ZDj (t:T):t.er.s0=t.s0:=by cases t;rfl
@[simp] theorem ZDk (t:T):t.er.s1=t.s1:=by cases t;rfl
@[simp] theorem ZDl (t:T):t.er.s2=t.s2:=by cases t;rfl
@[simp] theorem ZDm (t:T):t.er.s3=t.s3:=by cases t;rfl
@[simp] theorem ZDn (t:T):t.er.mn=t.mn:=by cases t;rfl
@[simp] theorem ZDo (t:T):t.er.mx=t.mx:=by cases t;rfl
@[simp] theorem Zwi (t:T):t.er.subs=t.subs.map T.er:=by cases t;simp only[T.er,T.subs,ZsX]
mutual
theorem Ziw:∀t:T,t.er.nodes=t.nodes.map T.er
 | .node k s0 s1 s2 s3 mn mx a c l=>by
  simp only[T.er,T.nodes,List.map_cons]
  rw[Zpw l]
theorem Zpw:∀l:List T,Zaz (erL l)=(Zaz l).map T.er
 | []=>rfl
 | t::l=>by simp only[erL,Zaz,List.map_append,Ziw t,Zpw l]
end
theorem ZBM(t:T)(k:Int):t.er.has k=t.has k:=by
 unfold T.has;rw[Zwi,List.any_map];congr 1;funext x;simp
theorem Zxb(t:T):t.er.right=t.right:=by
 unfold T.right T.setZ
 simp only[ZBM,ZAZ,ZDj,ZDk,ZDl,ZDm,ZDn,ZDo,Zwi,List.length_map]
theorem Zgi(t:T):t.er.light=t.light:=by unfold T.light;rw[Ziw,List.length_map]
theorem ZBN(l:List T):(l.map T.er).all T.right=l.all T.right:=by
 rw[List.all_map];congr 1;funext x;exact Zxb x
theorem Zxc(t:T):t.er.clean=t.clean:=by unfold T.clean;rw[Zgi,Ziw,ZBN]
theorem ZsY(t:T):t.er.size=t.size:=by unfold T.size;rw[Zgi,Ziw,List.length_map]
theorem Zpx(t:T):t.er.groups=t.groups:=by
 unfold T.groups;rw[Zgi,Ziw,List.countP_map]
 have:((λx:T=>x.k == 6)∘T.er)=λx:T=>x.k == 6:=by funext x;simp
 rw[this]
mutual
theorem ZzH:∀t:T,t.er.pos=t.pos
 | .node k s0 s1 s2 s3 mn mx a c l=>by simp only[T.er,T.pos,Zwj l]
theorem Zwj:∀l:List T,ZeT (erL l)=ZeT l
 | []=>rfl
 | t::l=>by simp only[erL,ZeT,ZzH t,Zwj l]
end
theorem Zm3(t:T):t.er.positions=t.positions:=by unfold T.positions;rw[Zgi,ZzH]
theorem Zxd(t:T):t.er.check=t.check:=by unfold T.check;rw[Zxc,ZsY,Zm3,Zpx]
def T.caps(t:T):Prop:=∀x∈t.nodes,x.subs.length<=x.c
theorem ZuD{k s0 s1 s2 s3 mn mx:Int}{a:Option Addr}{c:Nat}{l:List T}(h:l.length<=c)(hl:∀x∈l,x.caps):(T.node k s0 s1 s2 s3 mn mx a c l).caps:=by
 intro y hy
 rw[ZcC]at hy
 rcases List.mem_cons.1 hy with rfl|hy
 ·exact h
 ·obtain⟨x,hx,hy⟩:∃x∈l,y∈x.nodes:=by
   have:∀l:List T,y∈Zaz l->∃x∈l,y∈x.nodes:=λl=>by
    induction l with
    | nil=>intro h;simp[Zaz]at h
    | cons x l ih=>
     intro h
     simp only[Zaz,List.mem_append]at h
     rcases h with h|h
     ·exact⟨x,by simp,h⟩
     ·obtain⟨z,hz,h⟩:=ih h
      exact⟨z,by simp[hz],h⟩
   exact this l hy
  exact hl x hx y hy
theorem ZzI{k s0 s1 s2 s3 mn mx:Int}{a a':Option Addr}{c c':Nat}{l l':List T}(h:l.map T.er=l'.map T.er):(T.node k s0 s1 s2 s3 mn mx a c l).er=(T.node k s0 s1 s2 s3 mn mx a' c' l').er:=by
 simp only[T.er,ZsX,h]
end Go.Rx
namespace Go.Rx
open Go Go.Eng Go.RowKit
def Old(m:Mem)(b:Nat):Prop:=¬m.free b
noncomputable def nw(m m':Mem):Mem:=⟨(m'.off (Old m)).c,λ_=>none⟩
theorem ZdF(m m':Mem):(nw m m').le m':=⟨(Mem.off_le m' (Old m)).c,λ_ _ h=>by cases h⟩
theorem Zbd{m m':Mem}(h:m.le m'){b:Nat}(hf:m'.free b):m.free b:=λo=>by
 cases he:m b o with
 | none=>rfl
 | some v=>have:=h _ _ _ he;rw[hf o]at this;cases this
theorem Zd0{m m':Mem}(h:m.le m'){b:Nat}(hf:m'.k b=none):m.k b=none:=by
 cases he:m.k b with
 | none=>rfl
 | some v=>have:=h.k _ _ he;rw[hf]at this;cases this
theorem ZrD{m m':Mem}{b:Nat}(h:¬m.free b):(nw m m').free b:=λo=>Mem.off_free (m:=m') (Y:=Old m) h o
theorem ZyQ{m m':Mem}{b:Nat}(h:m.free b)(o:Nat):nw m m' b o=m' b o:=Mem.off_at (m:=m') (Y:=Old m) (λk=>k h) o
theorem Zdi{m0 m m' m'':Mem}(h1:m0.le m)(h2:m'.le m''):(nw m m').le (nw m0 m''):=⟨λb o v hv=>by
 have hf:m.free b:=Classical.byContradiction λhn=>by rw[ZrD hn]at hv;cases hv
 rw[ZyQ hf]at hv;rw[ZyQ (Zbd h1 hf)];exact h2 _ _ _ hv,λb e he=>by cases he⟩
theorem ZkD{m m':Mem}{a:Option Addr}{cs:List Value}(h:rowRd m' a cs)(hf:cs=[]\/∀b o,a=some ⟨b,o,none⟩->m.free b):rowRd (nw m m') a cs:=by
 rcases hf with hf|hf
 ·exact .inl hf
 rcases h with h|⟨b,o,ha,h⟩
 ·exact .inl h
 ·exact .inr ⟨b,o,ha,λj v hj=>by rw[ZyQ (hf b o ha)];exact h j v hj⟩
theorem Zho{m m':Mem}{Y:Nat->Prop}(h:m.le m')(hf:∀b,Y b->m.free b/\m.k b=none):m.le (m'.off Y):=⟨λb o v hv=>by
 rw[Mem.off_at (λhy=>by rw[(hf b hy).1 o]at hv;cases hv)];exact h _ _ _ hv,λb e he=>by
 rw[Mem.off_k (λhy=>by rw[(hf b hy).2]at he;cases he)];exact h.k _ _ he⟩
structure Each {α β:Type}(cs:β->List Value)(Q:α->β->Mem->Prop)(m m':Mem)(L:List α)(a:Option Addr)(c:Nat)(L':List β)(μ:Nat->Mem):Prop where
 len:L'.length=L.length
 le:m.le m'
 row:rowRd m' a (L'.map cs).flatten
 q:∀i x y,L[i]?=some x->L'[i]?=some y->Q x y (μ i)
 sub:∀i,i < L.length->(μ i).le (nw m m')
 ap:∀i j,i < j->j < L.length->∀b,(μ i).free b\/(μ j).free b
 blk:(L=[]/\a=none/\c=0)\/(L≠[]/\∃b,a=some ⟨b,0,none⟩/\m.free b/\m.k b=none/\∀i,i < L.length->(μ i).free b/\(μ i).k b=none)
 cap:L'.length<=c
theorem Each.nil{α β:Type}{cs:β->List Value}{Q:α->β->Mem->Prop}(m:Mem):Each cs Q m m ([]:List α) none 0 [] λ_=>m:=
 ⟨rfl,Mem.le_refl m,.inl rfl,by simp,by simp,by simp,.inl ⟨rfl,rfl,rfl⟩,by simp⟩
theorem Each.step{α β:Type}{cs:β->List Value}{Q:α->β->Mem->Prop}{m m':Mem}{L:List α}{k:Nat}{a:Option Addr}{c:Nat}{L':List β}{μ:Nat->Mem}{n:Nat}(hn:∀y,(cs y).length=n)(h0:0 < n)(h:Each cs Q m m' (L.take k) a c L' μ){x:α}(hx:L[k]?=some x)
  {m3:Mem} {y:β} (h3:m'.le m3) (hq:Q x y (nw m' m3)) {b3:Nat} (ir:m3.free b3) {a':Option Addr} {c':Nat} {m4:Mem} (h4:(m3.add b3 (cs y)).le m4) (aC:rowRd m4 a' ((L'++[y]).map cs).flatten) (ht:TokFact (m3.add b3 (cs y)) a a' (L'.length+1) c'):
  Each cs Q m m4 (L.take (k+1)) a' c' (L'++[y]) (λi=>if i=k then nw m' m3 else μ i):=by
 have hk:k < L.length:=(zA0 hx).1
 have e:L.take (k+1)=L.take k++[x]:=by rw[List.take_add_one,hx];rfl
 have lk:(L.take k).length=k:=by rw[List.length_take];omega
 have lk':L'.length=k:=h.len.trans lk
 have add3:m3.le (m3.add b3 (cs y)):=Mem.le_add ir _
 have vR:m3.le m4:=mLt add3 h4
 have jt:m'.le m4:=mLt h3 vR
 have lx:m.le (m3.add b3 (cs y)):=mLt h.le (mLt h3 add3)
 have dA:((L'++[y]).map cs).flatten≠[]:=by
  intro hz
  have:=congrArg List.length hz
  rw[ZaH hn,zA1,List.length_cons]at this
  have h5:0 < (L'.length+(([]:List β).length+1))*n:=Nat.mul_pos (by omega) h0
  rw[this]at h5;exact absurd h5 (by simp)
 have ha':∃b,a'=some ⟨b,0,none⟩/\m.free b/\m.k b=none/\(∀i,i < k->(μ i).free b/\(μ i).k b=none)/\((nw m' m3).free b/\(nw m' m3).k b=none):=by
  rcases ht.2 with h1|⟨b,o,h1,h2⟩
  ·rcases aC with h2|⟨b,o,h2,_⟩
   ·exact absurd h2 dA
   ·rw[h1]at h2;cases h2
  ·rcases h2 with h2|⟨h2,h5,h6⟩
   ·rcases h.blk with⟨_,h7,_⟩|⟨h6,b',h7,h8,h8',h9⟩
    ·rw[h7,h1]at h2;cases h2
    ·rw[h7,h1]at h2
     simp only[Option.some.injEq,Addr.mk.injEq,and_true]at h2
     obtain⟨rfl,rfl⟩:=h2
     have iE:¬m'.free b':=λhf=>by
      rcases h.row with il|⟨b2,o2,il,nf⟩
      ·have:=congrArg List.length il
       rw[ZaH hn,lk']at this
       have oV:k≠0:=λe=>h6 (by rw[e];rfl)
       have sk:0 < k*n:=Nat.mul_pos (by omega) h0
       simp at this;omega
      ·rw[h7]at il;cases il
       have oV:k≠0:=λe=>h6 (by rw[e];rfl)
       have sk:0 < k*n:=Nat.mul_pos (by omega) h0
       have aH:0 < (L'.map cs).flatten.length:=by rw[ZaH hn,lk'];exact sk
       have:=nf 0 _ (zA3 aH)
       rw[hf]at this;cases this
     refine⟨b',h1,h8,h8',λi hi=>h9 i (by omega),ZrD iE,rfl⟩
   ·subst h2
    have hs:∀i,i < k->(μ i).le (m3.add b3 (cs y)):=λi hi=>mLt (h.sub i (by omega)) (mLt (ZdF _ _) (mLt h3 add3))
    have nB:(nw m' m3).le (m3.add b3 (cs y)):=mLt (ZdF _ _) add3
    exact⟨b,h1,Zbd lx h5,Zd0 lx h6,λi hi=>⟨Zbd (hs i hi) h5,Zd0 (hs i hi) h6⟩,Zbd nB h5,Zd0 nB h6⟩
 obtain⟨b,hb,cB,eH,eI,nC⟩:=ha'
 refine⟨by rw[zA1,List.length_take,lk'];simp;omega,mLt h.le jt,aC,λi u v hu hv=>?_,λi hi=>?_,λi j pf hj b'=>?_,.inr ⟨by rw[e];simp,b,hb,cB,eH,λi hi=>?_⟩,by have:=ht.1;rw[zA1];exact this⟩
 ·rw[e]at hu
  by_cases jU:i=k
  ·subst jU
   rw[zA4 (by omega),lk,Nat.sub_self]at hu
   rw[zA4 (by omega),lk',Nat.sub_self]at hv
   cases hu;cases hv
   rw[if_pos rfl];exact hq
  ·have hi:i < k:=by
    have:=(zA0 hu).1
    rw[zA1,lk]at this;simp at this;omega
   rw[zA5 (by omega)]at hu hv
   rw[if_neg jU];exact h.q i u v hu hv
 ·by_cases jU:i=k
  ·subst jU;rw[if_pos rfl];exact Zdi h.le vR
  ·rw[if_neg jU]
   rw[List.length_take]at hi
   exact mLt (h.sub i (by omega)) (Zdi (Mem.le_refl m) jt)
 ·rw[List.length_take]at hj
  by_cases pg:j=k
  ·subst pg
   rw[if_neg (by omega),if_pos rfl]
   by_cases hf:(μ i).free b'
   ·exact .inl hf
   ·exact .inr (ZrD λjV=>hf (Zbd (mLt (h.sub i (by omega)) (ZdF _ _)) jV))
  ·rw[if_neg (by omega),if_neg pg];exact h.ap i j pf (by omega) b'
 ·by_cases jU:i=k
  ·subst jU;rw[if_pos rfl];exact nC
  ·rw[if_neg jU];rw[List.length_take]at hi;exact eI i (by omega)
section
variable {α β:Type} {cs:β->List Value} {Q:α->β->Mem->Prop} {m m':Mem} {L:List α} {a:Option Addr} {c:Nat} {L':List β} {μ:Nat->Mem} (h:Each cs Q m m' L a c L' μ)
include h
theorem Each.rows:rowRd (nw m m') a (L'.map cs).flatten:=ZkD h.row (by
 rcases h.blk with⟨h1,_⟩|⟨_,b,hb,hf,_⟩
 ·left
  have:L'=[]:=List.eq_nil_of_length_eq_zero (by rw[h.len,h1];rfl)
  rw[this];rfl
 ·exact .inr λb' o e=>by rw[hb]at e;cases e;exact hf)
theorem Each.at{y:β}(hy:y∈L'):∃i x,L[i]?=some x/\L'[i]?=some y/\Q x y (μ i)/\(μ i).le (nw m m'):=by
 obtain⟨i,hi⟩:=List.getElem?_of_mem hy
 have aH:i < L.length:=by rw[<-h.len];exact(zA0 hi).1
 exact⟨i,L[i],zA3 aH,hi,h.q i _ _ (zA3 aH) hi,h.sub i aH⟩
theorem Each.same{γ:Type}{f:α->γ}{g:β->γ}(hs:∀x y μ,Q x y μ->g y=f x):L'.map g=L.map f:=by
 refine List.ext_getElem (by simp[h.len]) λi h1 h2=>?_
 simp only[List.length_map]at h1 h2
 rw[List.getElem_map,List.getElem_map]
 exact hs _ _ _ (h.q i _ _ (zA3 h2) (zA3 h1))
end
def ZsZ{α β:Type}(cs:β->List Value)(Q:α->β->Mem->Prop)(m:Mem)(L:List α):Value->Mem->List (List Value)->Prop:=λv m' _=>∃a c L' μ,v=.slice a L'.length c/\Each cs Q m m' L a c L' μ
theorem ZfA{α β:Type}{cs:β->List Value}{Q:α->β->Mem->Prop}{m:Mem}{L:List α}:∀(v:Value)(m':Mem) (css:List (List Value)),ZsZ cs Q m L v m' css->Shape.fits .slice v=true:=λv _ _ ⟨_,_,_,_,h,_⟩=>by rw[h];rfl
mutual
def E.er:E->E
 | .node k x s g _ _ l=>.node k x s g none 0 (ZyV l)
def ZyV:List E->List E
 | []=>[]
 | t::l=>t.er::ZyV l
end
theorem Zoa:∀l:List E,ZyV l=l.map E.er
 | []=>rfl
 | t::l=>by simp only[ZyV,List.map_cons,Zoa l]
@[simp] theorem ZCD (t:E):t.er.k=t.k:=by cases t;rfl
@[simp] theorem ZDp (t:E):t.er.x=t.x:=by cases t;rfl
@[simp] theorem ZDq (t:E):t.er.s=t.s:=by cases t;rfl
@[simp] theorem ZCE (t:E):t.er.g=t.g:=by cases t;rfl
@[simp] theorem Zxe (t:E):t.er.subs=t.subs.map E.er:=by cases t;simp only[E.er,E.subs,Zoa]
mutual
theorem ZfB:∀t:E,t.er.nodes=t.nodes.map E.er
 | .node k x s g a c l=>by
  simp only[E.er,E.nodes,List.map_cons]
  rw[Zmi l]
theorem Zmi:∀l:List E,Zao (ZyV l)=(Zao l).map E.er
 | []=>rfl
 | t::l=>by simp only[ZyV,Zao,List.map_append,ZfB t,Zmi l]
end
theorem Zez(t:E):t.er.light=t.light:=by unfold E.light;rw[ZfB,List.length_map]
theorem Zxf(t:E):t.er.size=t.size:=by unfold E.size;rw[Zez,ZfB,List.length_map]
theorem ZCF(t:E):nE t.er=nE t:=by unfold nE;rw[Zez,Zxf]
def Pt.er(p:Pt):Pt:=⟨p.k,p.s,p.g,p.e.er⟩
def Ac.er(a:Ac):Ac:=⟨a.k,a.s,none,0,a.parts.map Pt.er,a.e.er⟩
def Ru.er(r:Ru):Ru:=⟨r.k,r.bg,r.en,r.t.er,r.s,r.n,none,0,r.acts.map Ac.er,r.go,r.code⟩
def Sta.er(x:Sta):Sta:=⟨x.s,none,0,x.rules.map Ru.er⟩
def Sc.er(s:Sc):Sc:=⟨s.n,none,0,s.vars,none,0,s.states.map Sta.er⟩
theorem Zpy{α:Type}(f:α->Int)(g:α->α)(h:∀x,f (g x)=f x)(l:List α):ZbF ((l.map g).map f)=ZbF (l.map f):=by
 rw[List.map_map];congr 1;exact List.map_congr_left λx _=>h x
theorem ZDr(a:Ac):wA a.er=wA a:=by
 unfold wA
 show 1+nE a.e.er+((a.parts.map Pt.er).length:Int)+ZbF ((a.parts.map Pt.er).map λp=>nE p.e)=_
 rw[ZCF,List.length_map,Zpy (λp:Pt=>nE p.e) Pt.er (λp=>ZCF p.e)]
theorem ZDs(r:Ru):wR r.er=wR r:=by
 unfold wR
 show 1+Zge r.t.er.size 20000+(if r.t.er.light then 0 else 20001)+ZbF ((r.acts.map Ac.er).map wA)=_
 rw[ZsY,Zgi,Zpy wA Ac.er ZDr]
theorem ZDt(x:Sta):wS x.er=wS x:=Zpy wR Ru.er ZDs x.rules
theorem ZuE(s:Sc):s.er.weight=s.weight:=by
 unfold Sc.weight
 show(s.vars.length:Int)+((s.states.map Sta.er).length:Int)+ZbF ((s.states.map Sta.er).map wS)=_
 rw[List.length_map,Zpy wS Sta.er ZDt]
theorem ZfC(s:Sc):s.er.light=s.light:=by unfold Sc.light;rw[ZuE]
theorem Zpz{s s':Sc}(h:s'.er=s.er):s'.light=s.light:=by rw[<-ZfC s',h,ZfC]
theorem ZpA{α:Type}(f:α->Int)(hf:∀x,0<=f x){l:List α}{x:α}(hx:x∈l):f x<=ZbF (l.map f):=by
 induction l with
 | nil=>cases hx
 | cons y l ih=>
  have h1:=Zfv f hf l
  have h2:=hf y
  simp only[List.map_cons,ZbF]
  rcases List.mem_cons.1 hx with rfl|hx
  ·omega
  ·have:=ih hx;omega
def LtA(a:Ac):Prop:=a.e.light=true/\∀p∈a.parts,p.e.light=true
def LtR(r:Ru):Prop:=r.t.light=true/\∀a∈r.acts,LtA a
theorem ZCG{e:E}(h:nE e<=20000):e.light=true:=by
 cases hl:e.light with
 | true=>rfl
 | false=>unfold nE at h;rw[hl]at h;simp at h
theorem ZBO{a:Ac}(h:wA a<=20000):LtA a:=by
 unfold wA at h
 have h1:=Zpn a.e
 have h2:=Zfv (λp:Pt=>nE p.e) (λp=>(Zpn p.e).1) a.parts
 exact⟨ZCG (by omega),λp hp=>ZCG (by have:=ZpA (λp:Pt=>nE p.e) (λp=>(Zpn p.e).1) hp;omega)⟩
theorem ZBP{r:Ru}(h:wR r<=20000):LtR r:=by
 unfold wR at h
 have h1:=(ZjN r.t).1
 have h2:=Zfv wA Zzx r.acts
 have h3:0<=Zge r.t.size 20000:=by unfold Zge;split <;> omega
 refine⟨?_,λa ha=>ZBO (by have:=ZpA wA Zzx ha;split at h <;> omega)⟩
 cases hl:r.t.light with
 | true=>rfl
 | false=>rw[hl]at h;simp at h;omega
theorem Zxg{s:Sc}(h:s.light=true):∀x∈s.states,∀r∈x.rules,LtR r:=λx hx r hr=>ZBP (by
 have h1:s.weight<=20000:=zA6 h
 unfold Sc.weight at h1
 have h2:=ZpA wS ZCA hx
 have h3:wR r<=wS x:=ZpA wR ZBn hr
 omega)
def QP(p q:Pt)(μ:Mem):Prop:=q.er=p.er/\RepP μ q
def QA(p q:Ac)(μ:Mem):Prop:=q.er=p.er/\RepA μ q
def QR(p q:Ru)(μ:Mem):Prop:=q.er=p.er/\RepR μ q
def ZD5(m μ:Mem)(y:Sta):Prop:=y.rules.length<=y.rc/\(y.rules=[]\/∃b,y.ra=some ⟨b,0,none⟩/\m.free b/\m.k b=none/\∀r∈y.rules,RepR (μ.off λk=>k=b) r)
def QS(m:Mem)(x y:Sta)(μ:Mem):Prop:=y.er=x.er/\RepS μ y/\ZD5 m μ y
structure SepC (m m':Mem)(s:Sc)(b:Nat)(μ:Nat->Mem):Prop where
 sa:s.sa=some ⟨b,0,none⟩
 free:m.free b/\m.k b=none
 all:∀i x,s.states[i]?=some x->RepS (μ i) x/\ZD5 m (μ i) x/\(μ i).le (nw m m')/\(μ i).free b
 ap:∀i j,i < j->j < s.states.length->∀b',(μ i).free b'\/(μ j).free b'
 va:∃μv:Mem,rowRd μv s.va (s.vars.map Va.cs).flatten/\μv.le (nw m m')/\μv.free b/\∀i,i < s.states.length->∀b',μv.free b'\/(μ i).free b'
theorem ZuF{m0 m m' M:Mem}{x:Ac}{a:Option Addr}{c:Nat}{L':List Pt}{μ:Nat->Mem}{e:E}(hx:RepA m0 x)(h:Each Pt.cs QP m m' x.parts a c L' μ)(hM:(nw m m').le M)(he:RepE M e):RepA M ⟨x.k,x.s,a,c,L',e⟩:=
 ⟨hx.k,hx.s,by rw[h.len];exact hx.n,h.rows.mono hM,λp hp=>by
  obtain⟨i,y,_,_,hq,hs⟩:=h.at hp
  exact hq.2.mono (mLt hs hM),he⟩
theorem ZuG{m0 m m' M:Mem}{x:Ru}{a:Option Addr}{c:Nat}{L':List Ac}{μ:Nat->Mem}{t:T}(hx:RepR m0 x)(h:Each Ac.cs QA m m' x.acts a c L' μ)(hM:(nw m m').le M)(ht:Rep M t):RepR M ⟨x.k,x.bg,x.en,t,x.s,x.n,a,c,L',x.go,x.code⟩:=
 ⟨hx.k,ht,hx.s,hx.n,by rw[h.len];exact hx.len,h.rows.mono hM,λp hp=>by
  obtain⟨i,y,_,_,hq,hs⟩:=h.at hp
  exact hq.2.mono (mLt hs hM),hx.go,hx.code⟩
theorem Zs0{m m':Mem}{Y:Nat->Prop}(h:m.le m'):(m.off Y).le (m'.off Y):=⟨λb o v hv=>by
 by_cases hy:Y b
 ·rw[Mem.off_free hy]at hv;cases hv
 ·rw[Mem.off_at hy]at hv ⊢;exact h _ _ _ hv,λb e he=>by
 by_cases hy:Y b
 ·rw[Mem.off_kn hy]at he;cases he
 ·rw[Mem.off_k hy]at he ⊢;exact h.k _ _ he⟩
theorem QS.mono{m0 μ μ':Mem}{x y:Sta}(h:QS m0 x y μ)(hm:μ.le μ'):QS m0 x y μ':=
 ⟨h.1,h.2.1.mono hm,h.2.2.1,h.2.2.2.imp_right λ⟨b,h1,h2,h3,h4⟩=>⟨b,h1,h2,h3,λr hr=>(h4 r hr).mono (Zs0 hm)⟩⟩
theorem ZzJ{m0 m m':Mem}{x:Sta}{a:Option Addr}{c:Nat}{L':List Ru}{μ:Nat->Mem}(h0:m0.le m)(hx:RepS m x)(h:Each Ru.cs QR m m' x.rules a c L' μ):QS m0 x ⟨x.s,a,c,L'⟩ (nw m m'):=by
 refine⟨?_,⟨hx.s,by rw[h.len];exact hx.len,h.rows,λp hp=>by
  obtain⟨i,y,_,_,hq,hs⟩:=h.at hp
  exact hq.2.mono hs⟩,h.cap,?_⟩
 ·simp only[Sta.er,Sta.mk.injEq,true_and]
  exact h.same λx y μ hq=>hq.1
 ·rcases h.blk with⟨h1,_⟩|⟨_,b,hb,hf,hk,hμ⟩
  ·exact .inl (List.eq_nil_of_length_eq_zero (by rw[h.len,h1];rfl))
  ·refine .inr ⟨b,hb,Zbd h0 hf,Zd0 h0 hk,λr hr=>?_⟩
   obtain⟨i,y,hi,_,hq,hs⟩:=h.at hr
   exact hq.2.mono (Zho hs λb' e=>by rw[e];exact hμ i (zA0 hi).1)
end Go.Rx
namespace Go.Rx
open Go Go.Eng
def ZDu(l:List Ru)(key:Ru->Int)(o:Option Nat)(x:Ru):Bool:=match o with
 | none=>true
 | some t=>match l[t]? with
  | some y=>decide (key x < key y)
  | none=>false
def ZzK(l:List Ru)(cnt:Ru->Bool)(key:Ru->Int):Nat->Option Nat
 | 0=>none
 | i+1=>match l[i]? with
  | none=>ZzK l cnt key i
  | some x=>if cnt x&&ZDu l key (ZzK l cnt key i) x then some i else ZzK l cnt key i
def ZD6(l:List Ru)(cnt:Ru->Bool)(key:Ru->Int):Option Nat:=ZzK l cnt key l.length
def ZEg(r:Ru):Bool:=r.k == 4
def ZEh(r:Ru):Bool:=r.k == 3
def ZEi(r:Ru):Int:=r.n
def ZEj(_:Ru):Int:=0
def toO(x:Sta):Option Nat:=ZD6 x.rules ZEg ZEi
def eoO(x:Sta):Option Nat:=ZD6 x.rules ZEh ZEj
def ZD7(o:Option Nat):Int:=(o.getD 0:Nat)
def Zwk(x:Sta)(k:Nat)(r:Ru):Bool:=(r.k == 4&&!((k:Int) == ZD7 (toO x)))||(r.k == 3&&!((k:Int) == ZD7 (eoO x)))
abbrev Dd:=Int×Int
def Zs1(i:Nat)(x:Sta):Nat->List Dd
 | 0=>[]
 | k+1=>Zs1 i x k++(match x.rules[k]? with
  | some r=>if Zwk x k r then[((i:Int),(k:Int))]else[]
  | none=>[])
def deadU(s:Sc):Nat->List Dd
 | 0=>[]
 | i+1=>deadU s i++(match s.states[i]? with
  | some x=>Zs1 i x x.rules.length
  | none=>[])
def ZzL(s:Sc):List Dd:=deadU s s.states.length
theorem ZkE{i:Nat}{x:Sta}{d:Dd}:∀{k:Nat},d∈Zs1 i x k↔d.1=i/\∃j r,j < k/\x.rules[j]?=some r/\Zwk x j r=true/\d.2=j
 | 0=>by simp[Zs1]
 | k+1=>by
  rw[Zs1,List.mem_append,ZkE (k:=k)]
  constructor
  ·rintro(⟨h1,j,r,h2,h3⟩|h)
   ·exact⟨h1,j,r,by omega,h3⟩
   ·split at h
    ·rename_i r hr
     split at h
     ·rename_i hb
      rw[List.mem_singleton]at h;subst h
      exact⟨rfl,k,r,by omega,hr,hb,rfl⟩
     ·cases h
    ·cases h
  ·rintro⟨h1,j,r,h2,h3,h4,h5⟩
   rcases Nat.lt_or_ge j k with hj|hj
   ·exact .inl ⟨h1,j,r,hj,h3,h4,h5⟩
   ·obtain rfl:j=k:=by omega
    refine .inr ?_
    rw[h3]
    show d∈(if Zwk x j r=true then _ else _)
    rw[if_pos h4,List.mem_singleton]
    exact Prod.ext h1 h5
theorem ZpB{s:Sc}{d:Dd}:∀{n:Nat},d∈deadU s n↔∃i x j r,i < n/\s.states[i]?=some x/\x.rules[j]?=some r/\Zwk x j r=true/\d=((i:Int),(j:Int))
 | 0=>by simp[deadU]
 | n+1=>by
  rw[deadU,List.mem_append,ZpB (n:=n)]
  constructor
  ·rintro(⟨i,x,j,r,h1,h2⟩|h)
   ·exact⟨i,x,j,r,by omega,h2⟩
   ·split at h
    ·rename_i x hx
     obtain⟨h1,j,r,h2,h3,h4,h5⟩:=ZkE.1 h
     exact⟨n,x,j,r,by omega,hx,h3,h4,Prod.ext h1 h5⟩
    ·cases h
  ·rintro⟨i,x,j,r,h1,h2,h3,h4,h5⟩
   rcases Nat.lt_or_ge i n with hi|hi
   ·exact .inl ⟨i,x,j,r,hi,h2,h3,h4,h5⟩
   ·obtain rfl:i=n:=by omega
    refine .inr ?_
    rw[h2]
    exact ZkE.2 ⟨by rw[h5],j,r,(zA0 h3).1,h3,h4,by rw[h5]⟩
theorem Zxh{s:Sc}{d:Dd}:d∈ZzL s↔∃(i:Nat)(x:Sta)(j:Nat)(r:Ru),s.states[i]?=some x/\x.rules[j]?=some r/\Zwk x j r=true/\d=((i:Int),(j:Int)):=by
 unfold ZzL
 rw[ZpB]
 constructor
 ·rintro⟨i,x,j,r,_,h⟩;exact⟨i,x,j,r,h⟩
 ·rintro⟨i,x,j,r,h,h'⟩;exact⟨i,x,j,r,(zA0 h).1,h,h'⟩
theorem ZpC(i:Nat)(x:Sta):∀k,(Zs1 i x k).length<=k
 | 0=>by simp[Zs1]
 | k+1=>by
  rw[Zs1,zA1]
  have:=ZpC i x k
  split
  ·split <;> simp <;> omega
  ·simp;omega
end Go.Rx
namespace Go.Rx
open Go Go.Eng Go.RowKit
def ZgT(x:Sta)(k:Nat):Sta:=⟨x.s,x.ra,x.rc,x.rules.eraseIdx k⟩
def Zwl(s:Sc)(i k:Nat):Sc:=match s.states[i]? with
 | some x=>⟨s.n,s.va,s.vc,s.vars,s.sa,s.sc,s.states.set i (ZgT x k)⟩
 | none=>s
def Zgv(s:Sc)(i k:Int):Bool:=s.light&&(decide (i ≥ 0)&&(decide (i < s.states.length)&&(decide (k ≥ 0)&&match s.states[i.toNat]? with
 | some x=>decide (k < x.rules.length)
 | none=>false)))
theorem ZfD{s s':Sc}(h:s'.er=s.er):s'.states.map Sta.er=s.states.map Sta.er:=congrArg Sc.states h
theorem ZBr{s s':Sc}(h:s'.er=s.er){i:Nat}{x:Sta}(hx:s.states[i]?=some x):∃x',s'.states[i]?=some x'/\x'.er=x.er:=by
 have:=congrArg (λl=>l[i]?) (ZfD h)
 simp only[List.getElem?_map,hx,Option.map_some]at this
 obtain⟨x',h1,h2⟩:=Option.map_eq_some_iff.1 this
 exact⟨x',h1,h2⟩
theorem ZzM{s s':Sc}(h:s'.er=s.er):s'.states.length=s.states.length:=by
 have:=congrArg List.length (ZfD h);simpa using this
theorem Zix{x x':Sta}(h:x'.er=x.er):x'.s=x.s/\x'.rules.map Ru.er=x.rules.map Ru.er/\x'.rules.length=x.rules.length:=by
 have h2:x'.rules.map Ru.er=x.rules.map Ru.er:=congrArg Sta.rules h
 have h1:x'.er.s=x.er.s:=congrArg Sta.s h
 exact⟨h1,h2,by have:=congrArg List.length h2;simpa using this⟩
theorem ZpD{s s':Sc}(h:s'.er=s.er):s'.n=s.n/\s'.vars=s.vars:=by
 have h1:s'.er.n=s.er.n:=congrArg Sc.n h
 have h2:s'.er.vars=s.er.vars:=congrArg Sc.vars h
 exact⟨h1,h2⟩
theorem Ziy{s s':Sc}(h1:s'.n=s.n)(h2:s'.vars=s.vars)(h3:s'.states.map Sta.er=s.states.map Sta.er):s'.er=s.er:=by
 unfold Sc.er;rw[h1,h2,h3]
theorem ZkF{α β:Type}(f:α->β):∀(l:List α)(k:Nat),(l.eraseIdx k).map f=(l.map f).eraseIdx k
 | [],_=>rfl
 | _::_,0=>rfl
 | x::l,k+1=>by simp only[List.eraseIdx_cons_succ,List.map_cons,ZkF f l k]
theorem Zxi{x x':Sta}(h:x'.er=x.er)(k:Nat):(ZgT x' k).er=(ZgT x k).er:=by
 obtain⟨h1,h2,_⟩:=Zix h
 simp only[ZgT,Sta.er,h1,Sta.mk.injEq,true_and]
 rw[ZkF,ZkF,h2]
theorem Zxj{m:Mem}{b:Nat}{L:List Sta}{i:Nat}{x y:Sta}(h:rowRd m (some ⟨b,0,none⟩) (L.map Sta.cs).flatten)(hx:L[i]?=some x)(hs:y.s=x.s):
  rowRd (m.upd b (0+i*2+1) [.slice y.ra y.rules.length y.rc]) (some ⟨b,0,none⟩) ((L.set i y).map Sta.cs).flatten:=by
 have hi:=(zA0 hx).1
 have hl:∀l:List Sta,(l.map Sta.cs).flatten.length=l.length*2:=ZaH Sta.len
 have e0:L=L.take i++x::L.drop (i+1):=by
  have:=(zA0 hx).2
  rw[<-this,List.getElem_cons_drop,List.take_append_drop]
 have e1:L.set i y=L.take i++y::L.drop (i+1):=List.set_eq_take_append_cons_drop.trans (if_pos hi)
 have lt:(L.take i).length=i:=by rw[List.length_take];omega
 have e:∀z:Sta,((L.take i++z::L.drop (i+1)).map Sta.cs).flatten=((L.take i).map Sta.cs).flatten++(z.cs++((L.drop (i+1)).map Sta.cs).flatten):=λz=>by simp
 rw[e0,e]at h
 rw[e1,e]
 obtain⟨A,hA⟩:∃A,A=((L.take i).map Sta.cs).flatten:=⟨_,rfl⟩
 obtain⟨B,hB⟩:∃B,B=((L.drop (i+1)).map Sta.cs).flatten:=⟨_,rfl⟩
 have lA:A.length=i*2:=by rw[hA,hl,lt]
 rw[<-hA,<-hB]at h ⊢
 rcases h with h|⟨b',o',ha,h⟩
 ·have:=congrArg List.length h
  rw[zA1,zA1,Sta.len]at this
  simp at this
 cases ha
 refine .inr ⟨b,0,rfl,λj v hj=>?_⟩
 unfold Mem.upd;try dsimp only
 rw[Nat.zero_add,Nat.zero_add,List.length_singleton]
 rcases Nat.lt_or_ge j (i*2)with aH|bL
 ·rw[if_neg (by omega)]
  rw[zA5 (by omega)]at hj
  have:=h j v (by rw[zA5 (by omega)];exact hj)
  rwa [Nat.zero_add]at this
 ·rw[zA4 (by omega),lA]at hj
  by_cases qH:j=i*2
  ·subst qH
   rw[if_neg (by omega)]
   rw[Nat.sub_self]at hj
   have:=h (i*2) v (by
    rw[zA4 (by omega),lA,Nat.sub_self]
    simp only[Sta.cs,hs]at hj ⊢
    exact hj)
   rwa [Nat.zero_add]at this
  ·by_cases pQ:j=i*2+1
   ·subst pQ
    rw[if_pos ⟨rfl,Nat.le_refl _,Nat.lt_succ_self _⟩,Nat.sub_self]
    rw[show i*2+1 - i*2=1 by omega]at hj
    exact hj
   ·rw[if_neg (by omega)]
    rw[zA4 (by rw[Sta.len];omega),Sta.len]at hj
    have:=h j v (by
     rw[zA4 (by omega),lA,zA4 (by rw[Sta.len];omega),Sta.len];exact hj)
    rwa [Nat.zero_add]at this
theorem Zxk{m2 m3 M:Mem}{s':Sc}{bS bR i k:Nat}{μ:Nat->Mem}{x':Sta}{zs:List Value}(bP:RepC (nw m2 m3) s')(bK:SepC m2 m3 s' bS μ)(hx':s'.states[i]?=some x')(fP:x'.ra=some ⟨bR,0,none⟩)(hk:k < x'.rules.length)
  (ko:∀r∈x'.rules,RepR ((μ i).off λq=>q=bR) r) (hM:(m3.off λq=>q=bR).le M) (t8:(M.upd bS (0+i*2+1) [.slice x'.ra (x'.rules.length - 1) x'.rc]).free bR):
  RepC ((M.upd bS (0+i*2+1) [.slice x'.ra (x'.rules.length - 1) x'.rc]).add bR (((x'.rules.eraseIdx k).map Ru.cs).flatten++zs)) ⟨s'.n,s'.va,s'.vc,s'.vars,s'.sa,s'.sc,s'.states.set i (ZgT x' k)⟩:=by
 obtain⟨V,hV⟩:∃V,V=M.upd bS (0+i*2+1) [.slice x'.ra (x'.rules.length - 1) x'.rc]:=⟨_,rfl⟩
 rw[<-hV]at t8 ⊢
 have hi:=(zA0 hx').1
 obtain⟨jL,jI,bG,nD⟩:=bK.all i x' hx'
 have kno:∀{ν:Mem},ν.le (nw m2 m3)->∀b,ν.k b=none:=λh b=>Zd0 h rfl
 have stay:∀{ν:Mem},ν.le (m3.off λq=>q=bR)->ν.free bS->ν.le (V.add bR (((x'.rules.eraseIdx k).map Ru.cs).flatten++zs)):=λh1 h2=>
  mLt (by rw[hV];exact Mem.le_upd (mLt h1 hM) h2 _ _) (Mem.le_add t8 _)
 have iz:¬(μ i).free bR:=λhf=>by
  rcases jL.row with h|⟨b,o,ha,h⟩
  ·have:=congrArg List.length h
   rw[ZaH Ru.len]at this;simp at this;omega
  ·rw[fP]at ha;cases ha
   have aH:0 < (x'.rules.map Ru.cs).flatten.length:=by rw[ZaH Ru.len];omega
   have:=h 0 _ (zA3 aH)
   rw[hf]at this;cases this
 have ph:bS≠bR:=λe=>iz (e ▸ nD)
 have off:∀{ν:Mem},ν.le (nw m2 m3)->ν.free bR->ν.le (m3.off λq=>q=bR):=λh1 h2=>Zho (mLt h1 (ZdF _ _)) λb e=>⟨e ▸ h2,kno h1 b⟩
 have bF:∀j,j < s'.states.length->j≠i->(μ j).free bR:=λj hj dA=>by
  rcases Nat.lt_or_ge j i with h|h
  ·exact(bK.ap j i h hi bR).resolve_right iz
  ·exact(bK.ap i j (by omega) hj bR).resolve_left iz
 have pi:=bK.sa
 refine⟨bP.n,bP.vlen,?_,bP.vall,by rw[List.length_set];exact bP.len,?_,λy hy=>?_,bP.vcap,by rw[List.length_set];exact bP.scap⟩
 ·obtain⟨μv,h1,h2,h3,h4⟩:=bK.va
  exact h1.mono (stay (off h2 ((h4 i hi bR).resolve_right iz)) h3)
 ·have aC:rowRd (m3.off λq=>q=bR) s'.sa (s'.states.map Sta.cs).flatten:=by
   rcases bP.row with h|⟨b,o,ha,h⟩
   ·exact .inl h
   ·refine .inr ⟨b,o,ha,λj v hj=>?_⟩
    rw[pi]at ha;cases ha
    rw[Mem.off_at (Y:=λq=>q=bR) ph];exact(ZdF m2 m3) _ _ _ (h j v hj)
  rw[pi]at aC
  have h5:=Zxj (y:=ZgT x' k) (aC.mono hM) hx' rfl
  have h6:(ZgT x' k).rules.length=x'.rules.length - 1:=by simp only[ZgT];rw[List.length_eraseIdx,if_pos hk]
  rw[h6]at h5
  rw[pi]
  have h7:rowRd V (some ⟨bS,0,none⟩) ((s'.states.set i (ZgT x' k)).map Sta.cs).flatten:=by rw[hV];exact h5
  exact h7.mono (Mem.le_add t8 _)
 ·obtain⟨j,hj⟩:=List.getElem?_of_mem hy
  by_cases jb:j=i
  ·subst jb
   rw[List.getElem?_set_self hi]at hj
   cases hj
   refine⟨jL.s,by show(x'.rules.eraseIdx k).length<=few;rw[List.length_eraseIdx,if_pos hk];have:=jL.len;omega,?_,λr hr=>?_⟩
   ·show rowRd _ x'.ra ((x'.rules.eraseIdx k).map Ru.cs).flatten
    rw[fP]
    refine .inr ⟨bR,0,rfl,λq v hq=>?_⟩
    rw[Nat.zero_add,Mem.add_same,zA5 (zA0 hq).1];exact hq
   ·refine(ko r (List.mem_of_mem_eraseIdx hr)).mono (stay (Zs0 (mLt bG (ZdF _ _))) ?_)
    exact Zbd (Mem.off_le _ _) nD
  ·rw[List.getElem?_set_ne (Ne.symm jb)]at hj
   have mI:=(zA0 hj).1
   obtain⟨h1,_,h3,h4⟩:=bK.all j y hj
   exact h1.mono (stay (off h3 (bF j mI jb)) h4)
def Zm4(r:Ru):Bool:=decide (wR r<=19999)
theorem MkC.deadU{s:Sc}(h:MkC s)(n:Nat):(Go.Rx.deadU s n).length<=n*5:=by
 induction n with
 | zero=>simp[Go.Rx.deadU]
 | succ n ih=>
  rw[Go.Rx.deadU,zA1,Nat.succ_mul]
  refine Nat.add_le_add ih ?_
  split
  ·rename_i x hx
   exact Nat.le_trans (ZpC n x x.rules.length) (h.all n x hx).len
  ·simp
theorem MkC.wR{s:Sc}(h:MkC s){i a:Nat}{x:Sta}{r:Ru}(hx:s.states[i]?=some x)(hr:x.rules[a]?=some r):Go.Rx.wR r<=405:=((h.all i x hx).all r (zA2 hr)).w
theorem ZuH(l:List E):Zkx (l.map E.er)=Zkx l:=by cases l <;> simp[Zkx]
theorem ZuI(t:E):t.er.right=t.right:=by
 unfold E.right
 simp only[ZCD,ZDp,ZDq,ZCE,Zxe,List.length_map,ZuH]
theorem ZpE(t:E):t.er.clean=t.clean:=by
 unfold E.clean
 rw[Zez,ZfB,List.all_map]
 congr 2
 funext x;exact ZuI x
mutual
theorem ZpF:∀(t:E)(out:List ByteArray),t.er.names out=t.names out
 | .node k x s g a c l,out=>by
  simp only[E.er,E.names]
  rw[Zmj l out]
theorem Zmj:∀(l:List E)(out:List ByteArray),ZbE (ZyV l) out=ZbE l out
 | [],out=>rfl
 | t::l,out=>by simp only[ZyV,ZbE];rw[ZpF t out,Zmj l]
end
theorem Zs2(t:E):t.er.vars=t.vars:=by unfold E.vars;rw[Zez,ZpF]
theorem Zs3(t:E):t.er.most=t.most:=by
 unfold E.most
 rw[Zez,ZfB,List.foldl_map]
 simp only[ZCD,ZCE]
mutual
theorem ZpG:∀t u:E,t.er.same u=t.same u
 | .node k x s g a c l,.node k' x' s' g' a' c' l'=>by
  simp only[E.er,E.same]
  rw[Zmk l l']
theorem Zmk:∀l r:List E,ZcH (ZyV l) r=ZcH l r
 | [],r=>rfl
 | t::l,[]=>by simp[ZyV,ZcH]
 | t::l,u::r=>by simp only[ZyV,ZcH];rw[ZpG t u,Zmk l r]
end
theorem Zs4(t:E):Zme t.er=Zme t:=by unfold Zme;rw[Zez,ZpG]
mutual
theorem ZpH:∀t u:T,t.er.same u=t.same u
 | .node k s0 s1 s2 s3 mn mx a c l,.node k' s0' s1' s2' s3' mn' mx' a' c' l'=>by
  simp only[T.er,T.same]
  rw[Zml l l']
theorem Zml:∀l r:List T,ZeI (erL l) r=ZeI l r
 | [],r=>rfl
 | t::l,[]=>by simp[erL,ZeI]
 | t::l,u::r=>by simp only[erL,ZeI];rw[ZpH t u,Zml l r]
end
theorem ZzN(r:Ru):ZsN r.er=ZsN r:=by
 unfold ZsN
 simp only[Ru.er]
 rw[Zgi,ZpH]
theorem ZrE(r:Ru):ZaE r.er=ZaE r:=by
 unfold ZaE
 rw[ZzN];rfl
theorem Zs5(r:Ru):ZbW r.er=ZbW r:=by
 unfold ZbW
 simp only[Ru.er]
 rw[Zpx];rfl
theorem Zxl(r:Ru):sizeR r.er=sizeR r:=by
 unfold sizeR
 simp only[Ru.er]
 rw[ZsY];rfl
theorem Zwm(l:List Sta)(name:ByteArray):((l.map Sta.er).any λx=>eqS x.s name)=l.any λx=>eqS x.s name:=by rw[List.any_map];rfl
theorem Zxm(s:Sc)(r:Ru)(n:Int):Zck s.er r.er n=Zck s r n:=by
 unfold Zck ZdO
 rw[ZrE,ZfC]
 simp only[Ru.er,Sc.er,List.length_map,Zxd,Zwm]
theorem ZrF(s:Sc)(r:Ru)(a:Ac):ZaW s.er r.er a.er=ZaW s r a:=by
 unfold ZaW ZbK Zbj ZbK
 rw[Zs5]
 simp only[Ac.er,Sc.er,List.length_map,ZpE,Zs4,Zs2,Zs3]
theorem ZuJ(p:Pt):Zbm p.er=Zbm p:=by
 unfold Zbm
 simp only[Pt.er,Zs4,ZpE];rfl
theorem Zxn(s:Sc)(r:Ru)(l:List Pt)(i:Nat)(p:Pt):Zds s.er r.er (l.map Pt.er) i p.er=Zds s r l i p:=by
 unfold Zds ZbK Zbj ZbK
 rw[Zs5,ZuJ]
 simp only[Pt.er,Sc.er,Zs2,Zs3,List.getElem?_map]
 cases l[i - 1]? <;> rfl
theorem ZuK(s:Sc)(i:Nat)(x:Sta):Zdt s.er i x.er=Zdt s i x:=by
 unfold Zdt
 simp only[Sta.er,Sc.er,List.length_map,<-List.map_take,Zwm]
theorem ZuL(s:Sc)(i k:Nat):totals s.er i k=totals s i k:=by
 have h1:∀l:List Ru,(l.map Ru.er).map sizeR=l.map sizeR:=λl=>by
  rw[List.map_map];exact List.map_congr_left λr _=>Zxl r
 have hA:((s.states.map Sta.er).take i).map (λx=>ZbF (x.rules.map sizeR))=(s.states.take i).map λx=>ZbF (x.rules.map sizeR):=by
  rw[<-List.map_take,List.map_map]
  exact List.map_congr_left λx _=>by show ZbF ((x.rules.map Ru.er).map sizeR)=_;rw[h1]
 unfold totals
 rw[show s.er.states=s.states.map Sta.er from rfl,hA,List.getElem?_map]
 cases s.states[i]? with
 | none=>rfl
 | some x=>
  show _+ZbF (((x.rules.map Ru.er).take (k+1)).map sizeR)=_
  rw[<-List.map_take,h1]
theorem Zxo(s:Sc)(p:Pl):atS s.er p=atS s p:=by
 have hs:s.er.states=s.states.map Sta.er:=rfl
 have hw:Zew s.er=Zew s:=by unfold Zew;simp only[Sc.er,List.length_map];rfl
 unfold atS
 rw[hw,hs,List.getElem?_map]
 congr 2
 cases s.states[p.s.toNat]? with
 | none=>rfl
 | some x=>
  show(if p.r < 0 then Zdt s.er p.s.toNat x.er else _)=_
  rw[ZuK]
  congr 1
  rw[show x.er.rules=x.rules.map Ru.er from rfl,List.getElem?_map]
  cases x.rules[p.r.toNat]? with
  | none=>rfl
  | some r=>
   show(if p.a < 0 then Zck s.er r.er (totals s.er p.s.toNat p.r.toNat)else _)=_
   rw[Zxm,ZuL]
   congr 1
   rw[show r.er.acts=r.acts.map Ac.er from rfl,List.getElem?_map]
   cases r.acts[p.a.toNat]? with
   | none=>rfl
   | some a=>
    show(if p.p < 0 then ZaW s.er r.er a.er else _)=_
    rw[ZrF]
    congr 1
    rw[show a.er.parts=a.parts.map Pt.er from rfl,List.getElem?_map]
    cases a.parts[p.p.toNat]? with
    | none=>rfl
    | some q=>exact Zxn s r a.parts _ q
theorem ZBQ(i k m:Nat)(a:Ac):plA i k m a.er=plA i k m a:=by
 unfold plA
 rw[show a.er.parts.length=a.parts.length from List.length_map ..]
theorem ZBR(i k:Nat)(r:Ru):plR i k r.er=plR i k r:=by
 unfold plR
 rw[show r.er.acts.length=r.acts.length from List.length_map ..]
 congr 2
 funext m
 rw[show r.er.acts=r.acts.map Ac.er from rfl,List.getElem?_map]
 cases r.acts[m]? with
 | none=>rfl
 | some a=>exact ZBQ i k m a
theorem ZBS(i:Nat)(x:Sta):plS i x.er=plS i x:=by
 unfold plS
 rw[show x.er.rules.length=x.rules.length from List.length_map ..]
 congr 2
 funext m
 rw[show x.er.rules=x.rules.map Ru.er from rfl,List.getElem?_map]
 cases x.rules[m]? with
 | none=>rfl
 | some r=>exact ZBR i m r
theorem ZkG(s:Sc):s.er.places=s.places:=by
 unfold Sc.places
 rw[ZfC,show s.er.states.length=s.states.length from List.length_map ..]
 congr 4
 funext i
 rw[show s.er.states=s.states.map Sta.er from rfl,List.getElem?_map]
 cases s.states[i]? with
 | none=>rfl
 | some x=>exact ZBS i x
theorem ZpI(s:Sc):s.er.check=s.check:=by
 unfold Sc.check Sc.problems
 rw[ZfC,ZkG]
 simp only[Zxo]
theorem Zhp{s s':Sc}(h:s'.er=s.er):s'.check=s.check:=by rw[<-ZpI s',h,ZpI]
end Go.Rx
namespace Go.Rx
open Go Go.Eng
end Go.Rx
namespace Go.Rx
open Go Go.Eng Go.RowKit
section
variable {P:Program} {K:TypeId} {κ ν:Type} [DecidableEq κ] {f:κ->Value} {g:ν->Value}
def ZBs(f:κ->Value)(g:ν->Value)(L:List (κ×ν)):List (Value×Value):=L.map λq=>(f q.1,g q.2)
variable (he:∀a b:κ,EqIs P K (f a) (f b) (decide (a=b)))
include he
theorem Zob(k:κ):∀L:List (κ×ν),k ∉ L.map (·.1)->MapFind P K (f k) (ZBs f g L) none
 | [],_=>rfl
 | q::L,h=>by
  simp only[List.map_cons,List.mem_cons,not_or]at h
  have:=he k q.1
  rw[decide_eq_false h.1]at this
  exact .inr ⟨this,Zob k L h.2⟩
theorem Zs6(k:κ)(z:ν):∀L:List (κ×ν),k ∉ L.map (·.1)->ZiK P K (f k) (g z) (ZBs f g L) (ZBs f g (L++[(k,z)]))
 | [],_=>rfl
 | q::L,h=>by
  simp only[List.map_cons,List.mem_cons,not_or]at h
  have:=he k q.1
  rw[decide_eq_false h.1]at this
  exact .inr ⟨this,_,Zs6 k z L h.2,rfl⟩
theorem Zwn(k:κ)(z:ν):∀L:List (κ×ν),(k,z)∈L->(L.map (·.1)).Nodup->MapFind P K (f k) (ZBs f g L) (some (g z))
 | [],h,_=>by cases h
 | q::L,h,hn=>by
  have h0:=he k q.1
  rw[List.map_cons,List.nodup_cons]at hn
  rcases List.mem_cons.1 h with h|h
  ·subst h
   rw[decide_eq_true rfl]at h0
   exact .inl ⟨h0,rfl⟩
  ·have:¬k=q.1:=λe=>hn.1 (by rw[<-e];exact List.mem_map.2 ⟨_,h,rfl⟩)
   rw[decide_eq_false this]at h0
   exact .inr ⟨h0,Zwn k z L h hn.2⟩
end
theorem ZuM{s t:Sc}(hs:s.light=true)(ht:t.light=true)(eG:∀x∈t.states,x∈s.states)(bQ:∀x∈s.states,x∈t.states)(name:ByteArray):ZdO t name=ZdO s name:=by
 unfold ZdO
 rw[hs,ht,Bool.and_true,Bool.and_true,Bool.eq_iff_iff,List.any_eq_true,List.any_eq_true]
 exact⟨λ⟨x,h1,h2⟩=>⟨x,eG x h1,h2⟩,λ⟨x,h1,h2⟩=>⟨x,bQ x h1,h2⟩⟩
structure Turn (s t:Sc):Prop where
 n:t.n=s.n
 vars:t.vars=s.vars
 len:t.states.length=s.states.length
 sub:∀x∈t.states,x∈s.states
 sup:∀x∈s.states,x∈t.states
 dif:∀(i j:Nat)(x y:Sta),t.states[i]?=some x->t.states[j]?=some y->i≠j->eqS x.s y.s=false
section
variable {s t:Sc} (h:MkC s) (hT:Turn s t)
include h hT
theorem Turn.weight:t.weight<=8200:=by
 have h1:=ZdZ wS 2025 t.states (λx hx=>by
  obtain⟨i,_,hm⟩:=h.state (hT.sub x hx)
  exact hm.w)
 have h2:=h.len
 have h3:=h.vlen
 unfold Sc.weight
 rw[hT.vars,hT.len]
 rw[hT.len]at h1
 omega
theorem Turn.light:t.light=true:=by unfold Sc.light;exact decide_eq_true (by have:=hT.weight h;omega)
theorem Turn.totals(i k:Nat):Rx.totals t i k<=600:=by
 have h0:=h.len
 have h1:=ZdZ (λx:Sta=>ZbF (x.rules.map Rx.sizeR)) 130 (t.states.take i) (λx hx=>by
  obtain⟨j,_,hm⟩:=h.state (hT.sub x (List.mem_of_mem_take hx))
  have:=hm.sizes x.rules.length
  rwa [List.take_length]at this)
 rw[List.length_take,hT.len]at h1
 unfold Rx.totals
 cases hx:t.states[i]? with
 | none=>show _+0<=_;omega
 | some x=>
  have hi:=(zA0 hx).1
  rw[hT.len]at hi
  obtain⟨j,_,hm⟩:=h.state (hT.sub x (zA2 hx))
  have:=hm.sizes (k+1)
  show _+ZbF ((x.rules.take (k+1)).map Rx.sizeR)<=_
  omega
theorem Turn.at0:∀p∈t.places,atS t p=0:=by
 intro p hp
 have hP:∀{r:Ru} {a:Ac},MkA (ZbW r) a->∀{n:Nat} {q:Pt},a.parts[n]?=some q->Zds t r a.parts n q=0:=λ{r a} ha {n q} hq=>by
  have e:Zds t r a.parts n q=Zds s r a.parts n q:=by unfold Zds ZbK Zbj ZbK;rw[hT.vars]
  rw[e]
  cases ha with
  | send _ _ l hl=>exact h.part hl hq
  | set _ _ _ _ l hl=>exact h.part hl hq
  | let_ _ _ e _=>simp at hq
 rcases Zfy t p hp with⟨i,hi,v,hv⟩|⟨hv,hs|⟨i,hi,x,hx,hr|⟨k,hk,r,hr,ha|⟨j,hj,a,ha,hq|⟨n,hn,q,hq⟩⟩⟩⟩⟩
 ·have e:atS t p=Za3 t i v:=by
   unfold atS
   rw[if_pos (by omega),show p.v.toNat=i by omega,hv]
  have e2:Za3 t i v=Za3 s i v:=by unfold Za3;rw[hT.vars]
  rw[e,e2];exact h.var (by rw[<-hT.vars];exact hv)
 all_goals have hv':¬p.v ≥ 0:=by omega
 ·unfold atS
  rw[if_neg hv',if_pos hs]
  have e:Zew t=Zew s:=by unfold Zew;rw[hT.n,hT.len,hT.vars]
  rw[e];exact h.whole
 all_goals
  have hs':¬p.s < 0:=by omega
  have km:p.s.toNat=i:=by omega
  obtain⟨i0,qI,hm⟩:=h.state (hT.sub x (zA2 ‹t.states[i]?=some x›))
 ·have e:atS t p=Zdt t i x:=by
   unfold atS
   rw[if_neg hv',if_neg hs',km,hx]
   exact if_pos hr
  rw[e]
  have h1:Zcl x.s=true:=ZsS _ (zA2 hm.name)
  have h2:decide (x.rules.length > 12)=false:=decide_eq_false (by have:=hm.len;omega)
  have h3:((t.states.take i).any λy=>eqS y.s x.s)=false:=by
   rw[List.any_eq_false]
   intro y hy
   obtain⟨j,hj⟩:=List.getElem?_of_mem hy
   have jb:j < i:=by have:=(zA0 hj).1;rw[List.length_take]at this;omega
   rw[List.getElem?_take_of_lt jb]at hj
   rw[hT.dif j i y x hj hx (by omega)];simp
  simp[Zdt,ZaY,h1,h2,h3]
 all_goals
  have hr':¬p.r < 0:=by omega
  have fX:p.r.toNat=k:=by omega
  have hR:=hm.all r (zA2 hr)
 ·have e:atS t p=Zck t r (Rx.totals t i k):=by
   unfold atS
   rw[if_neg hv',if_neg hs',km,hx]
   show(if p.r < 0 then _ else _)=_
   rw[if_neg hr',fX,hr]
   exact if_pos ha
  have e2:∀n,Zck t r n=Zck s r n:=λn=>by unfold Zck;rw[ZuM h.light (hT.light h) hT.sub hT.sup]
  rw[e,e2];exact h.rule hR (hT.totals h i k)
 all_goals
  have ha':¬p.a < 0:=by omega
  have kG:p.a.toNat=j:=by omega
  have hA:=hR.all a (zA2 ‹r.acts[j]?=some a›)
 ·have e:atS t p=ZaW t r a:=by
   unfold atS
   rw[if_neg hv',if_neg hs',km,hx]
   show(if p.r < 0 then _ else _)=_
   rw[if_neg hr',fX,hr]
   show(if p.a < 0 then _ else _)=_
   rw[if_neg ha',kG,‹r.acts[j]?=some a›]
   exact if_pos hq
  have e2:ZaW t r a=ZaW s r a:=by unfold ZaW ZbK Zbj ZbK;rw[hT.vars]
  rw[e,e2];exact h.action hA
 ·have e:atS t p=Zds t r a.parts n q:=by
   unfold atS
   rw[if_neg hv',if_neg hs',km,hx]
   show(if p.r < 0 then _ else _)=_
   rw[if_neg hr',fX,hr]
   show(if p.a < 0 then _ else _)=_
   rw[if_neg ha',kG,‹r.acts[j]?=some a›]
   show(if p.p < 0 then _ else _)=_
   rw[if_neg (by omega),show p.p.toNat=n by omega,hq]
  rw[e];exact hP hA hq
theorem Turn.check:t.check=(top,0):=by
 have e:t.problems=[]:=by
  unfold Sc.problems
  rw[List.filterMap_eq_nil_iff]
  intro p hp
  rw[if_pos (hT.at0 h p hp)]
 unfold Sc.check
 rw[if_pos (hT.light h),e]
end
def kp(r:Ru):Bool:=decide (r.k ≥ 3)
def ZvM(x:Sta)(j:Nat):Nat:=((x.rules.take j).filter kp).length
theorem ZpJ{x:Sta}{j:Nat}{r:Ru}(h:x.rules[j]?=some r):ZvM x (j+1)=ZvM x j+(if kp r then 1 else 0):=by
 unfold ZvM
 rw[List.take_add_one,h,List.filter_append,zA1]
 congr 1
 show([r].filter kp).length=_
 rw[List.filter_cons]
 split <;> rfl
theorem ZuN{x:Sta}{i j:Nat}(h:i<=j):ZvM x i<=ZvM x j:=by
 induction j with
 | zero=>rw[show i=0 by omega];exact Nat.le_refl _
 | succ j ih=>
  by_cases e:i=j+1
  ·rw[e];exact Nat.le_refl _
  ·refine Nat.le_trans (ih (by omega)) ?_
   cases hx:x.rules[j]? with
   | some r=>rw[ZpJ hx];omega
   | none=>unfold ZvM;rw[List.take_add_one,hx];simp
theorem Zwo{x:Sta}{i j:Nat}{r:Ru}(hr:x.rules[i]?=some r)(hk:kp r=true)(h:i < j):ZvM x i < ZvM x j:=by
 have h1:=ZpJ hr
 rw[hk,if_pos rfl]at h1
 have:=ZuN (x:=x) (show i+1<=j by omega)
 omega
theorem Zxp{x:Sta}{i j:Nat}{p q:Ru}(hp:x.rules[i]?=some p)(hq:x.rules[j]?=some q)(kpp:kp p=true)(kpq:kp q=true)(h:ZvM x i=ZvM x j):i=j:=by
 rcases Nat.lt_trichotomy i j with h1|h1|h1
 ·have:=Zwo hp kpp h1;omega
 ·exact h1
 ·have:=Zwo hq kpq h1;omega
def ZD8(x:Sta)(d:Dd):Dd:=(d.1,(ZvM x d.2.toNat:Nat))
def phi(s:Sc)(d:Dd):Dd:=match s.states[d.1.toNat]? with
 | some x=>ZD8 x d
 | none=>d
theorem ZzO{s:Sc}{d:Dd}(h:d∈ZzL s):∃(i k:Nat)(x:Sta)(r:Ru),d=((i:Int),(k:Int))/\s.states[i]?=some x/\x.rules[k]?=some r/\kp r=true/\phi s d=((i:Int),((ZvM x k:Nat):Int)):=by
 obtain⟨i,x,k,r,h1,h2,h3,rfl⟩:=Zxh.1 h
 refine⟨i,k,x,r,rfl,h1,h2,?_,?_⟩
 ·unfold Zwk at h3
  rw[Bool.or_eq_true,zA7,zA7]at h3
  unfold kp
  rcases h3 with⟨h4,_⟩|⟨h4,_⟩
  ·have:r.k=4:=by simpa using h4
   exact decide_eq_true (by omega)
  ·have:r.k=3:=by simpa using h4
   exact decide_eq_true (by omega)
 ·unfold phi ZD8
  simp only[zA8,h1]
end Go.Rx
namespace Go.Rx
open Go Go.Eng
def ZpK(l:List Int):List Int:=l.mergeSort λx y=>decide (x<=y)
theorem ZkH(l:List Int):(ZpK l).length=l.length:=List.length_mergeSort l
theorem ZuO{l:List Int}{x:Int}:x∈ZpK l↔x∈l:=List.mem_mergeSort
theorem Zm5(l:List Int):(ZpK l).Pairwise (·<=·):=
 (List.pairwise_mergeSort (le:=λx y:Int=>decide (x<=y)) (λa b c h1 h2=>by simp at h1 h2 ⊢;omega) (λa b=>by simp;omega) l).imp λh=>zA6 h
def Zwp(l:List Int):List Int:=Go.Lib.compact (ZpK l)
theorem Zhq{zs:List Int}(h:zs.Pairwise (·<=·)):∀m,m<=zs.length->(Go.Lib.compactUpTo zs.toArray m).Pairwise (· < ·)/\∀x,x∈Go.Lib.compactUpTo zs.toArray m↔x∈zs.take m
 | 0,_=>by simp[Go.Lib.compactUpTo]
 | m+1,hm=>by
  obtain⟨h1,h2⟩:=Zhq h m (by omega)
  have aH:m < zs.length:=hm
  have em:zs.toArray[m]! = zs[m]:=by rw[getElem!_pos _ m (by simpa using aH)];simp
  have bO:∀x,x∈zs.take (m+1)↔x∈zs.take m\/x=zs[m]:=λx=>by
   rw[List.take_add_one,zA3 aH,List.mem_append];simp
  have bG:∀x∈zs.take m,∀k,m<=k+1->(hk:k < zs.length)->k < m->x<=zs[k]:=λx hx k iH hk iN=>by
   obtain⟨i,hi,rfl⟩:=List.mem_iff_getElem.1 hx
   rw[List.length_take]at hi
   rw[List.getElem_take]
   by_cases e:i=k
   ·subst e;exact Int.le_refl _
   ·exact List.pairwise_iff_getElem.1 h i k (by omega) hk (by omega)
  rw[Go.Lib.compactUpTo_succ]
  cases hk:Go.Lib.keeps zs.toArray m with
  | true=>
   rw[if_pos rfl,em]
   refine⟨List.pairwise_append.2 ⟨h1,List.pairwise_singleton _ _,λx hx y hy=>?_⟩,λx=>?_⟩
   ·rw[List.mem_singleton]at hy;subst hy
    have hx:=(h2 x).1 hx
    have h0:0 < m:=by
     cases m with
     | zero=>simp at hx
     | succ m=>omega
    have dA:zs.toArray[m]!≠zs.toArray[m - 1]!:=by
     unfold Go.Lib.keeps at hk
     have:=zA6 hk
     rcases this with h|h
     ·omega
     ·exact h
    rw[em,getElem!_pos _ (m - 1) (by simp;omega)]at dA
    simp only[List.getElem_toArray]at dA
    have h3:=bG x hx (m - 1) (by omega) (by omega) (by omega)
    have h4:=List.pairwise_iff_getElem.1 h (m - 1) m (by omega) aH (by omega)
    omega
   ·rw[List.mem_append,h2,bO,List.mem_singleton]
  | false=>
   rw[if_neg (by decide),List.append_nil]
   refine⟨h1,λx=>?_⟩
   rw[h2,bO]
   refine⟨.inl,λhx=>hx.elim id λe=>?_⟩
   unfold Go.Lib.keeps at hk
   have hk:=of_decide_eq_false hk
   have fW:m≠0:=λe=>hk (.inl e)
   have he:zs.toArray[m]! = zs.toArray[m - 1]!:=Classical.byContradiction λe=>hk (.inr e)
   rw[em,getElem!_pos _ (m - 1) (by simp;omega)]at he
   simp only[List.getElem_toArray]at he
   rw[e,he]
   exact List.mem_iff_getElem.2 ⟨m - 1,by rw[List.length_take];omega,by rw[List.getElem_take]⟩
theorem Zs7{l:List Int}{x:Int}:x∈Zwp l↔x∈l:=by
 have:=(Zhq (Zm5 l) _ (Nat.le_refl _)).2 x
 rw[List.take_length,ZuO]at this
 exact this
theorem Zxq(l:List Int):(Zwp l).length<=l.length:=by
 have h1:=ZkH l
 have h2:(Go.Lib.compact (ZpK l)).length<=(ZpK l).length:=by
  unfold Go.Lib.compact Go.Lib.compactUpTo
  rw[List.length_map]
  exact Nat.le_trans (List.length_filter_le _ _) (by rw[List.length_range];exact Nat.le_refl _)
 unfold Zwp;omega
def ZBT(L:List (ByteArray×Nat))(n:ByteArray):Bool:=L.any λq=>decide (q.1=n)
theorem Zgj{L:List (ByteArray×Nat)}{n:ByteArray}:ZBT L n=true↔n∈L.map (·.1):=by
 unfold ZBT
 rw[List.any_eq_true,List.mem_map]
 exact⟨λ⟨q,h1,h2⟩=>⟨q,h1,zA6 h2⟩,λ⟨q,h1,h2⟩=>⟨q,h1,decide_eq_true h2⟩⟩
def Zdj(L:List Sta):Nat->List (ByteArray×Nat)
 | 0=>[]
 | i+1=>match L[i]? with
  | some x=>if ZBT (Zdj L i) x.s then Zdj L i else Zdj L i++[(x.s,i)]
  | none=>Zdj L i
theorem ZuP{L:List Sta}{i:Nat}{x:Sta}(h:L[i]?=some x):Zdj L (i+1)=if ZBT (Zdj L i) x.s then Zdj L i else Zdj L i++[(x.s,i)]:=by
 rw[Zdj,h]
theorem Zmm(L:List Sta):∀i,((Zdj L i).map (·.1)).Nodup
 | 0=>List.nodup_nil
 | i+1=>by
  have ih:=Zmm L i
  rw[Zdj]
  split
  ·split
   ·exact ih
   ·rename_i h
    rw[Zgj]at h
    rw[List.map_append,List.nodup_append]
    refine⟨ih,by simp,λa ha b hb e=>h ?_⟩
    simp at hb;subst hb;subst e;exact ha
  ·exact ih
theorem Zs8(L:List Sta)(n:ByteArray):∀i,n∈(Zdj L i).map (·.1)↔∃j x,j < i/\L[j]?=some x/\x.s=n
 | 0=>by simp[Zdj]
 | i+1=>by
  have ih:=Zs8 L n i
  have more:(∃j x,j < i+1/\L[j]?=some x/\x.s=n)↔(∃j x,j < i/\L[j]?=some x/\x.s=n)\/∃x,L[i]?=some x/\x.s=n:=by
   constructor
   ·rintro⟨j,x,h1,h2,h3⟩
    by_cases e:j=i
    ·subst e;exact .inr ⟨x,h2,h3⟩
    ·exact .inl ⟨j,x,by omega,h2,h3⟩
   ·rintro(⟨j,x,h1,h2,h3⟩|⟨x,h2,h3⟩)
    ·exact⟨j,x,by omega,h2,h3⟩
    ·exact⟨i,x,by omega,h2,h3⟩
  rw[more,<-ih,Zdj]
  cases hx:L[i]? with
  | none=>simp
  | some x=>
   simp only[Option.some.injEq,exists_eq_left']
   split
   ·rename_i h
    rw[Zgj]at h
    exact⟨.inl,λk=>k.elim id λe=>e ▸ h⟩
   ·rw[List.map_append,List.mem_append]
    simp[eq_comm]
theorem Zs9(L:List Sta)(n:ByteArray)(k:Nat):∀i,(n,k)∈Zdj L i↔k < i/\(∃x,L[k]?=some x/\x.s=n)/\∀j y,j < k->L[j]?=some y->y.s≠n
 | 0=>by simp[Zdj]
 | i+1=>by
  have ih:=Zs9 L n k i
  have hk:=Zs8 L n i
  rw[Zdj]
  cases hx:L[i]? with
  | none=>
   simp only
   rw[ih]
   refine⟨λh=>⟨by omega,h.2⟩,λ⟨h1,⟨x,h2,h3⟩,h4⟩=>⟨?_,⟨x,h2,h3⟩,h4⟩⟩
   by_cases e:k=i
   ·subst e;rw[hx]at h2;cases h2
   ·omega
  | some x=>
   simp only
   split
   ·rename_i eG
    rw[Zgj]at eG
    rw[ih]
    refine⟨λh=>⟨by omega,h.2⟩,λ⟨h1,⟨y,h2,h3⟩,h4⟩=>⟨?_,⟨y,h2,h3⟩,h4⟩⟩
    by_cases e:k=i
    ·subst e
     rw[hx]at h2;cases h2
     subst h3
     obtain⟨j,z,g1,g2,g3⟩:=hk.1 eG
     exact absurd g3 (h4 j z g1 g2)
    ·omega
   ·rename_i eG
    rw[Zgj]at eG
    rw[List.mem_append,ih,List.mem_singleton,Prod.mk.injEq]
    constructor
    ·rintro(h|⟨rfl,rfl⟩)
     ·exact⟨by omega,h.2⟩
     ·refine⟨by omega,⟨x,hx,rfl⟩,λj y h1 h2 h3=>eG (hk.2 ⟨j,y,h1,h2,h3⟩)⟩
    ·rintro⟨h1,⟨y,h2,h3⟩,h4⟩
     by_cases e:k=i
     ·subst e
      rw[hx]at h2;cases h2
      exact .inr ⟨h3.symm,rfl⟩
     ·exact .inl ⟨by omega,⟨y,h2,h3⟩,h4⟩
def goI(L:List Sta)(n:ByteArray):Option Nat:=L.findIdx? λx=>decide (x.s=n)
theorem Zoc{L:List Sta}{n:ByteArray}{k:Nat}:goI L n=some k↔(n,k)∈Zdj L L.length:=by
 rw[Zs9,goI,List.findIdx?_eq_some_iff_getElem]
 constructor
 ·rintro⟨h,h1,h2⟩
  refine⟨h,⟨L[k],zA3 h,zA6 h1⟩,λj y hj hy e=>?_⟩
  obtain⟨g1,g2⟩:=zA0 hy
  have:=h2 j hj
  rw[g2]at this
  simp[e]at this
 ·rintro⟨h,⟨x,h1,h2⟩,h3⟩
  refine⟨h,?_,λj hj=>?_⟩
  ·rw[(zA0 h1).2];exact decide_eq_true h2
  ·have:=h3 j L[j] hj (zA3 (by omega))
   simpa using this
theorem ZBU{L:List Sta}{n:ByteArray}{k:Nat}(h:goI L n=some k):k < L.length:=((Zs9 L n k _).1 (Zoc.1 h)).1
def ZyR(L:List Sta)(r:Ru):Option Int:=if r.go.size=0 then none else(goI L r.go).map λk:Nat=>(k:Int)
def Zod(L:List Sta)(l:List Ru):List Int:=l.filterMap (ZyR L)
theorem Zxr{L:List Sta}{l:List Ru}{i:Nat}{r:Ru}(h:l[i]?=some r):Zod L (l.take (i+1))=Zod L (l.take i)++(ZyR L r).toList:=by
 unfold Zod
 rw[List.take_add_one,h,List.filterMap_append]
 congr 1
theorem ZzP(L:List Sta)(l:List Ru):(Zod L l).length<=l.length:=List.length_filterMap_le _ _
def ZC4(L:List Sta)(x:Sta):List Int:=Zwp (Zod L x.rules)
end Go.Rx
namespace Go.Rx
open Go Go.Eng Go.RowKit
theorem Zoe{α:Type}{ZgU:α->List Value}{k:Nat}(hk:∀z,(ZgU z).length=k){m:Mem}{b:Nat}:∀{L:List α} {o:Nat},(∀i z,L[i]?=some z->m.reads b (o+i*k) (ZgU z))->m.reads b o (L.map ZgU).flatten
 | [],o,h=>λj v hj=>by simp at hj
 | x::L,o,h=>λj v hj=>by
  rw[List.map_cons,List.flatten_cons]at hj
  by_cases aH:j < k
  ·rw[zA5 (by rw[hk];exact aH)]at hj
   have:=h 0 x rfl j v hj
   rwa [Nat.zero_mul,Nat.add_zero]at this
  ·rw[zA4 (by rw[hk];omega),hk]at hj
   have:=Zoe hk (L:=L) (o:=o+k) (λi z hz=>by
    have:=h (i+1) z (by simpa using hz)
    rwa [show o+(i+1)*k=o+k+i*k by rw[Nat.succ_mul];omega]at this) (j - k) v hj
   rwa [show o+k+(j - k)=o+j by omega]at this
theorem ZzQ{m:Mem}{b o:Nat}{vs:List Value}{j:Nat}{v:Value}(h:vs[j]?=some v):(m.upd b o vs) b (o+j)=some v:=by
 have hj:=(zA0 h).1
 unfold Mem.upd;dsimp only
 rw[if_pos ⟨rfl,by omega,by omega⟩,Nat.add_sub_cancel_left];exact h
theorem Zta{m:Mem}{b o q:Nat}{vs:List Value}(h:q < o\/o+vs.length<=q):(m.upd b o vs) b q=m b q:=by
 unfold Mem.upd;dsimp only
 rw[if_neg (by omega)]
theorem Ztb{α:Type}{cs:α->List Value}{n:Nat}(hn:∀x,(cs x).length=n)(h0:0 < n){m:Mem}{b:Nat}{L:List α}{k:Nat}{y:α}(h:rowRd m (some ⟨b,0,none⟩) (L.map cs).flatten)(hk:k < L.length):rowRd (m.upd b (0+k*n) (cs y)) (some ⟨b,0,none⟩) ((L.set k y).map cs).flatten:=by
 refine .inr ⟨b,0,rfl,Zoe hn λi z hz j v hj=>?_⟩
 have xC:j < n:=by have:=(zA0 hj).1;rwa [hn]at this
 by_cases jU:i=k
 ·subst jU
  rw[List.getElem?_set_self hk]at hz
  cases hz
  exact ZzQ hj
 ·rw[List.getElem?_set_ne (Ne.symm jU)]at hz
  obtain⟨b',o',ha,cC⟩:=Zan hn h hz h0
  cases ha
  rw[Zta,cC j v hj]
  rw[hn]
  rcases Nat.lt_or_ge i k with h|h
  ·have:=Nat.mul_le_mul_right n (show i+1<=k by omega)
   rw[Nat.succ_mul]at this
   omega
  ·have:=Nat.mul_le_mul_right n (show k+1<=i by omega)
   rw[Nat.succ_mul]at this
   omega
def ZrG(x:Sta)(k:Nat)(r:Ru):Sta:=⟨x.s,x.ra,x.rc,x.rules.set k r⟩
def ZjY(s:Sc)(i k:Nat)(r:Ru):Sc:=match s.states[i]? with
 | some x=>⟨s.n,s.va,s.vc,s.vars,s.sa,s.sc,s.states.set i (ZrG x k r)⟩
 | none=>s
theorem ZzR{x x':Sta}(h:x'.er=x.er){r r':Ru}(hr:r'.er=r.er)(k:Nat):(ZrG x' k r').er=(ZrG x k r).er:=by
 obtain⟨h1,h2,_⟩:=Zix h
 simp only[ZrG,Sta.er,h1,Sta.mk.injEq,true_and]
 rw[List.map_set,List.map_set,h2,hr]
theorem Ztc{s s':Sc}{i:Nat}{x x':Sta}(jl:s'.er=s.er)(hx:s.states[i]?=some x)(kM:x'.er=x.er){r r':Ru}(hr:r'.er=r.er)(k:Nat):(⟨s'.n,s'.va,s'.vc,s'.vars,s'.sa,s'.sc,s'.states.set i (ZrG x' k r')⟩:Sc).er=(ZjY s i k r).er:=by
 have h1:=ZpD jl
 have h2:ZjY s i k r=⟨s.n,s.va,s.vc,s.vars,s.sa,s.sc,s.states.set i (ZrG x k r)⟩:=by unfold ZjY;rw[hx]
 rw[h2]
 exact Ziy h1.1 h1.2 (by rw[List.map_set,List.map_set,ZfD jl,ZzR kM hr])
theorem ZzS(x:Sta)(k:Nat)(r:Ru):(ZrG x k r).cs=x.cs:=by simp only[ZrG,Sta.cs,List.length_set]
theorem Zwq{m2 m3 M:Mem}{s':Sc}{bS bR i k:Nat}{μ:Nat->Mem}{x':Sta}{r:Ru}(bP:RepC (nw m2 m3) s')(bK:SepC m2 m3 s' bS μ)(hx':s'.states[i]?=some x')(fP:x'.ra=some ⟨bR,0,none⟩)(hk:k < x'.rules.length)
  (ko:∀r∈x'.rules,RepR ((μ i).off λq=>q=bR) r) (hM:(m3.off λq=>q=bR).le M) (aC:rowRd M (some ⟨bR,0,none⟩) ((x'.rules.set k r).map Ru.cs).flatten) (hr:RepR M r):
  RepC M ⟨s'.n,s'.va,s'.vc,s'.vars,s'.sa,s'.sc,s'.states.set i (ZrG x' k r)⟩:=by
 have hi:=(zA0 hx').1
 obtain⟨jL,jI,bG,nD⟩:=bK.all i x' hx'
 have kno:∀{ν:Mem},ν.le (nw m2 m3)->∀b,ν.k b=none:=λh b=>Zd0 h rfl
 have iz:¬(μ i).free bR:=λhf=>by
  rcases jL.row with h|⟨b,o,ha,h⟩
  ·have:=congrArg List.length h
   rw[ZaH Ru.len]at this;simp at this;omega
  ·rw[fP]at ha;cases ha
   have aH:0 < (x'.rules.map Ru.cs).flatten.length:=by rw[ZaH Ru.len];omega
   have:=h 0 _ (zA3 aH)
   rw[hf]at this;cases this
 have ph:bS≠bR:=λe=>iz (e ▸ nD)
 have off:∀{ν:Mem},ν.le (nw m2 m3)->ν.free bR->ν.le M:=λh1 h2=>mLt (Zho (Y:=λq=>q=bR) (mLt h1 (ZdF _ _)) λb e=>⟨by rw[show b=bR from e];exact h2,kno h1 b⟩) hM
 have bF:∀j,j < s'.states.length->j≠i->(μ j).free bR:=λj hj dA=>by
  rcases Nat.lt_or_ge j i with h|h
  ·exact(bK.ap j i h hi bR).resolve_right iz
  ·exact(bK.ap i j (by omega) hj bR).resolve_left iz
 have pi:=bK.sa
 refine⟨bP.n,bP.vlen,?_,bP.vall,by rw[List.length_set];exact bP.len,?_,λy hy=>?_,bP.vcap,by rw[List.length_set];exact bP.scap⟩
 ·obtain⟨μv,h1,h2,h3,h4⟩:=bK.va
  exact h1.mono (off h2 ((h4 i hi bR).resolve_right iz))
 ·have e:(s'.states.set i (ZrG x' k r)).map Sta.cs=s'.states.map Sta.cs:=by
   rw[List.map_set,ZzS]
   have:(s'.states.map Sta.cs)[i]?=some x'.cs:=by rw[List.getElem?_map,hx'];rfl
   exact List.ext_getElem? λj=>by
    by_cases hj:j=i
    ·subst hj
     rw[List.getElem?_set_self (by rw[List.length_map];exact hi),this]
    ·rw[List.getElem?_set_ne (Ne.symm hj)]
  show rowRd M s'.sa ((s'.states.set i (ZrG x' k r)).map Sta.cs).flatten
  rw[e]
  rcases bP.row with h|⟨b,o,ha,h⟩
  ·exact .inl h
  ·refine .inr ⟨b,o,ha,λj v hj=>hM _ _ _ ?_⟩
   rw[pi]at ha;cases ha
   rw[Mem.off_at (Y:=λq=>q=bR) ph];exact(ZdF m2 m3) _ _ _ (h j v hj)
 ·obtain⟨j,hj⟩:=List.getElem?_of_mem hy
  by_cases jb:j=i
  ·subst jb
   rw[List.getElem?_set_self hi]at hj
   cases hj
   refine⟨jL.s,by show(x'.rules.set k r).length<=few;rw[List.length_set];exact jL.len,?_,λq hq=>?_⟩
   ·show rowRd _ x'.ra ((x'.rules.set k r).map Ru.cs).flatten
    rw[fP];exact aC
   ·rcases List.mem_or_eq_of_mem_set hq with h|rfl
    ·exact(ko q h).mono (mLt (Zs0 (mLt bG (ZdF _ _))) hM)
    ·exact hr
  ·rw[List.getElem?_set_ne (Ne.symm jb)]at hj
   have mI:=(zA0 hj).1
   obtain⟨h1,_,h3,h4⟩:=bK.all j y hj
   exact h1.mono (off h3 (bF j mI jb))
def ZvN(g:Nat->Sta->List Ru)(j:Nat)(x:Sta):Sta:=⟨x.s,x.ra,x.rc,g j x⟩
def ZCH(g:Nat->Sta->List Ru)(s:Sc):Sc:=⟨s.n,s.va,s.vc,s.vars,s.sa,s.sc,s.states.mapIdx (ZvN g)⟩
def RuB(s:Sc):Nat->Prop:=λb=>∃(j:Nat)(x:Sta),s.states[j]?=some x/\x.rules≠[]/\x.ra=some ⟨b,0,none⟩
section
variable {m2 m3:Mem} {s':Sc} {bS:Nat} {μ:Nat->Mem} (bP:RepC (nw m2 m3) s') (bK:SepC m2 m3 s' bS μ)
include bK
theorem Zmn{j b:Nat}{x:Sta}(hx:s'.states[j]?=some x)(hn:x.rules≠[])(fP:x.ra=some ⟨b,0,none⟩):¬(μ j).free b:=λhf=>by
 obtain⟨jL,_,_,_⟩:=bK.all j x hx
 have hl:=List.length_pos_iff.2 hn
 rcases jL.row with h|⟨b',o,ha,h⟩
 ·have:=congrArg List.length h
  rw[ZaH Ru.len]at this;simp only[List.length_nil]at this;omega
 ·rw[fP]at ha;cases ha
  have aH:0 < (x.rules.map Ru.cs).flatten.length:=by rw[ZaH Ru.len];omega
  have:=h 0 _ (zA3 aH)
  rw[hf]at this;cases this
theorem ZzT{b:Nat}(h:RuB s' b):m2.free b/\m2.k b=none:=by
 obtain⟨j,x,hx,hn,fP⟩:=h
 obtain⟨_,⟨_,jI⟩,_,_⟩:=bK.all j x hx
 rcases jI with h|⟨b',ha,h1,h2,_⟩
 ·exact absurd h hn
 ·rw[fP]at ha;cases ha;exact⟨h1,h2⟩
theorem ZzU(h:RuB s' bS):False:=by
 obtain⟨j,x,hx,hn,fP⟩:=h
 exact Zmn bK hx hn fP (bK.all j x hx).2.2.2
theorem ZzV{j:Nat}{x:Sta}(hx:s'.states[j]?=some x){r:Ru}(hr:r∈x.rules):RepR (m3.off (RuB s')) r:=by
 have hj:=(zA0 hx).1
 have hn:x.rules≠[]:=λe=>by rw[e]at hr;cases hr
 obtain⟨_,⟨_,jI⟩,bG,_⟩:=bK.all j x hx
 rcases jI with h|⟨b,fP,h1,h2,ko⟩
 ·exact absurd h hn
 refine(ko r hr).mono ⟨λb' o v hv=>?_,λb' e he=>?_⟩
 ·by_cases hb:b'=b
  ·subst hb;rw[Mem.off_free (Y:=λk=>k=b') rfl]at hv;cases hv
  ·rw[Mem.off_at (Y:=λk=>k=b) hb]at hv
   have iM:¬RuB s' b':=λ⟨j',x',hx',hn',pj⟩=>by
    by_cases sm:j'=j
    ·subst sm
     rw[hx]at hx';cases hx'
     rw[fP]at pj;cases pj
     exact hb rfl
    ·have hj':=(zA0 hx').1
     have hk:=Zmn bK hx' hn' pj
     have:(μ j).free b':=by
      rcases Nat.lt_or_ge j j' with h|h
      ·exact(bK.ap j j' h hj' b').resolve_right hk
      ·exact(bK.ap j' j (by omega) hj b').resolve_left hk
     rw[this]at hv;cases hv
   rw[Mem.off_at iM]
   exact(ZdF m2 m3) _ _ _ (bG _ _ _ hv)
 ·have hk:=bG.k
  by_cases hb:b'=b
  ·subst hb;rw[Mem.off_kn (Y:=λk=>k=b') rfl]at he;cases he
  ·rw[Mem.off_k (Y:=λk=>k=b) hb]at he
   have:=hk _ _ he
   cases this
include bP
theorem ZzW{M:Mem}{g:Nat->Sta->List Ru}(hg:∀j x,s'.states[j]?=some x->(g j x).length=x.rules.length)(hM:(m3.off (RuB s')).le M)
  (aC:∀j x,s'.states[j]?=some x->rowRd M x.ra ((g j x).map Ru.cs).flatten) (hr:∀j x,s'.states[j]?=some x->∀r∈g j x,RepR M r):RepC M (ZCH g s'):=by
 have pi:=bK.sa
 have aP:(s'.states.mapIdx (ZvN g)).length=s'.states.length:=List.length_mapIdx
 have kno:∀{ν:Mem},ν.le (nw m2 m3)->∀b,ν.k b=none:=λh b=>Zd0 h rfl
 refine⟨bP.n,bP.vlen,?_,bP.vall,by show(s'.states.mapIdx (ZvN g)).length<=few;rw[aP];exact bP.len,?_,λy hy=>?_,bP.vcap,by show(s'.states.mapIdx (ZvN g)).length<=_;rw[aP];exact bP.scap⟩
 ·obtain⟨μv,h1,h2,h3,h4⟩:=bK.va
  refine h1.mono (mLt (Zho (mLt h2 (ZdF _ _)) λb hb=>⟨?_,kno h2 b⟩) hM)
  obtain⟨j,x,hx,hn,fP⟩:=hb
  exact(h4 j (zA0 hx).1 b).resolve_right (Zmn bK hx hn fP)
 ·have e:(s'.states.mapIdx (ZvN g)).map Sta.cs=s'.states.map Sta.cs:=List.ext_getElem? λj=>by
   rw[List.getElem?_map,List.getElem?_map,List.getElem?_mapIdx]
   cases hj:s'.states[j]? with
   | none=>rfl
   | some x=>simp only[Option.map_some,ZvN,Sta.cs,hg j x hj]
  show rowRd M s'.sa ((s'.states.mapIdx (ZvN g)).map Sta.cs).flatten
  rw[e]
  rcases bP.row with h|⟨b,o,ha,h⟩
  ·exact .inl h
  ·refine .inr ⟨b,o,ha,λj v hj=>hM _ _ _ ?_⟩
   rw[pi]at ha;cases ha
   rw[Mem.off_at (Y:=RuB s') (λh=>ZzU bK h)];exact(ZdF m2 m3) _ _ _ (h j v hj)
 ·obtain⟨j,hj⟩:=List.getElem?_of_mem hy
  have hj:(s'.states.mapIdx (ZvN g))[j]?=some y:=hj
  rw[List.getElem?_mapIdx]at hj
  obtain⟨x,hx,rfl⟩:=Option.map_eq_some_iff.1 hj
  obtain⟨jL,_,_,_⟩:=bK.all j x hx
  exact⟨jL.s,by show(g j x).length<=few;rw[hg j x hx];exact jL.len,aC j x hx,hr j x hx⟩
end
abbrev PF(t:Sc)(p:Pl):Option (Pl×Int):=if atS t p=0 then none else some (p,atS t p)
theorem pf0{t:Sc}{p:Pl}(h:atS t p=0):PF t p=none:=if_pos h
theorem ZjP(F:Pl->Option (Pl×Int))(f:Nat->List Pl):∀n,(∀j,j < n->(f j).filterMap F=[])->(ZdE n f).filterMap F=[]
 | 0,_=>rfl
 | n+1,h=>by
  rw[ZbG,List.filterMap_append,ZjP F f n (λj hj=>h j (by omega)),h n (by omega)];rfl
theorem Zxs(F:Pl->Option (Pl×Int))(f:Nat->List Pl){i:Nat}:∀n,i < n->(∀j,j < n->j≠i->(f j).filterMap F=[])->(ZdE n f).filterMap F=(f i).filterMap F
 | 0,hi,_=>by omega
 | n+1,hi,h=>by
  rw[ZbG,List.filterMap_append]
  by_cases e:i=n
  ·subst e
   rw[ZjP F f i (λj hj=>h j (by omega) (by omega))];rfl
  ·rw[Zxs F f n (by omega) (λj hj dA=>h j (by omega) dA),h n (by omega) (λe'=>e e'.symm),List.append_nil]
theorem ZBV(t:Sc){i:Nat}{v:Va}(h:t.vars[i]?=some v):atS t ⟨i,-1,-1,-1,-1⟩=Za3 t i v:=by
 unfold atS
 rw[if_pos (show(i:Int) ≥ 0 by omega),show((i:Int).toNat)=i from rfl]
 rw[h]
theorem ZzX(t:Sc){i:Nat}{x:Sta}(h:t.states[i]?=some x):atS t ⟨-1,i,-1,-1,-1⟩=Zdt t i x:=by
 unfold atS
 rw[if_neg (by show ¬(-1:Int) ≥ 0;decide),if_neg (by show ¬(i:Int) < 0;omega),show((i:Int).toNat)=i from rfl,h]
 exact if_pos (show(-1:Int) < 0 by decide)
theorem Zxt(t:Sc){i k:Nat}{x:Sta}{r:Ru}(h:t.states[i]?=some x)(hr:x.rules[k]?=some r):atS t ⟨-1,i,k,-1,-1⟩=Zck t r (totals t i k):=by
 unfold atS
 rw[if_neg (by show ¬(-1:Int) ≥ 0;decide),if_neg (by show ¬(i:Int) < 0;omega),show((i:Int).toNat)=i from rfl,h]
 show(if(k:Int) < 0 then _ else _)=_
 rw[if_neg (by omega),show((k:Int).toNat)=k from rfl,hr]
 exact if_pos (show(-1:Int) < 0 by decide)
theorem ZBW(t:Sc){i k m:Nat}{x:Sta}{r:Ru}{a:Ac}(h:t.states[i]?=some x)(hr:x.rules[k]?=some r)(ha:r.acts[m]?=some a):atS t ⟨-1,i,k,m,-1⟩=ZaW t r a:=by
 unfold atS
 rw[if_neg (by show ¬(-1:Int) ≥ 0;decide),if_neg (by show ¬(i:Int) < 0;omega),show((i:Int).toNat)=i from rfl,h]
 show(if(k:Int) < 0 then _ else _)=_
 rw[if_neg (by omega),show((k:Int).toNat)=k from rfl,hr]
 show(if(m:Int) < 0 then _ else _)=_
 rw[if_neg (by omega),show((m:Int).toNat)=m from rfl,ha]
 exact if_pos (show(-1:Int) < 0 by decide)
theorem ZBX(t:Sc){i k m n:Nat}{x:Sta}{r:Ru}{a:Ac}{q:Pt}(h:t.states[i]?=some x)(hr:x.rules[k]?=some r)(ha:r.acts[m]?=some a)(hq:a.parts[n]?=some q):atS t ⟨-1,i,k,m,n⟩=Zds t r a.parts n q:=by
 unfold atS
 rw[if_neg (by show ¬(-1:Int) ≥ 0;decide),if_neg (by show ¬(i:Int) < 0;omega),show((i:Int).toNat)=i from rfl,h]
 show(if(k:Int) < 0 then _ else _)=_
 rw[if_neg (by omega),show((k:Int).toNat)=k from rfl,hr]
 show(if(m:Int) < 0 then _ else _)=_
 rw[if_neg (by omega),show((m:Int).toNat)=m from rfl,ha]
 show(if(n:Int) < 0 then _ else _)=_
 rw[if_neg (by omega),show((n:Int).toNat)=n from rfl,hq]
structure Near (s t:Sc):Prop where
 n:t.n=s.n
 vars:t.vars=s.vars
 names:t.states.map Sta.s=s.states.map Sta.s
 light:t.light=true
 tot:∀i k,totals t i k<=600
section
variable {s t:Sc} (h:MkC s) (hN:Near s t)
include hN
theorem Near.len:t.states.length=s.states.length:=by simpa using congrArg List.length hN.names
theorem Near.kind(name:ByteArray):ZbK t name=ZbK s name:=by unfold ZbK;rw[hN.vars]
theorem Near.numbers(e:E):Zbj t e=Zbj s e:=by unfold Zbj;simp only[hN.kind]
theorem Near.any(name:ByteArray):(t.states.any λx=>eqS x.s name)=s.states.any λx=>eqS x.s name:=by
 have e:∀l:List Sta,(l.any λx=>eqS x.s name)=(l.map Sta.s).any λy=>eqS y name:=λl=>by rw[List.any_map];rfl
 rw[e,e,hN.names]
theorem Near.anyTake(i:Nat)(name:ByteArray):((t.states.take i).any λy=>eqS y.s name)=(s.states.take i).any λy=>eqS y.s name:=by
 have e:∀l:List Sta,(l.any λx=>eqS x.s name)=(l.map Sta.s).any λy=>eqS y name:=λl=>by rw[List.any_map];rfl
 rw[e,e,List.map_take,List.map_take,hN.names]
theorem Near.action(r:Ru)(a:Ac):ZaW t r a=ZaW s r a:=by unfold ZaW;simp only[hN.kind,hN.numbers]
theorem Near.part(r:Ru)(l:List Pt)(n:Nat)(p:Pt):Zds t r l n p=Zds s r l n p:=by
 rw[ZkC,ZkC];simp only[hN.kind,hN.numbers]
include h
theorem Near.finds(name:ByteArray):ZdO t name=ZdO s name:=by unfold ZdO;rw[hN.any,hN.light,h.light]
theorem Near.rule(r:Ru)(T:Int):Zck t r T=Zck s r T:=by unfold Zck;simp only[hN.finds h]
theorem Near.whole:Zew t=0:=by
 have:=h.whole
 unfold Zew at this ⊢
 rw[hN.n,hN.vars,hN.len];exact this
theorem Near.var{i:Nat}{v:Va}(hv:t.vars[i]?=some v):Za3 t i v=0:=by
 rw[hN.vars]at hv
 have:=h.var hv
 unfold Za3 at this ⊢
 rw[hN.vars];exact this
theorem Near.sta{i:Nat}{x y:Sta}(hx:s.states[i]?=some x)(hy:y.s=x.s)(hl:y.rules.length=x.rules.length):Zdt t i y=0:=by
 have:=h.stateOk hx
 unfold Zdt at this ⊢
 rw[hy,hl,hN.anyTake];exact this
theorem Near.fmR{i k:Nat}{x:Sta}{r:Ru}(hx:t.states[i]?=some x)(hr:x.rules[k]?=some r)(hm:MkR s.states.length r):(plR i k r).filterMap (PF t)=[]:=by
 rw[Zpp,List.filterMap_cons_none (pf0 (by rw[Zxt t hx hr,hN.rule h];exact h.rule hm (hN.tot i k)))]
 refine ZjP _ _ _ λm mU=>?_
 obtain⟨a,ha⟩:=ZnX mU
 have hA:=hm.all a (zA2 ha)
 unfold Hf
 rw[ha]
 show(plA i k m a).filterMap (PF t)=[]
 rw[ZrB,List.filterMap_cons_none (pf0 (by rw[ZBW t hx hr ha,hN.action];exact h.action hA))]
 refine ZjP _ _ _ λn lf=>?_
 obtain⟨q,hq⟩:=ZnX lf
 unfold Pf
 rw[List.filterMap_cons_none (pf0 (by
  rw[ZBX t hx hr ha hq,hN.part]
  cases hA with
  | send _ _ l hl=>exact h.part hl hq
  | set _ _ _ _ l hl=>exact h.part hl hq
  | let_ _ _ e _=>simp at hq))]
 rfl
theorem Near.one{i k:Nat}{x x':Sta}{r:Ru}(hx:s.states[i]?=some x)(hk:k < x.rules.length)(hx':t.states[i]?=some x')(cN:x'.s=x.s)(hr:x'.rules=x.rules.set k r)(ho:∀j,j≠i->t.states[j]?=s.states[j]?):t.problems=(plR i k r).filterMap (PF t):=by
 have hi:=(zA0 hx').1
 have hm:=h.all i x hx
 have jh:x'.rules.length=x.rules.length:=by rw[hr,List.length_set]
 show t.places.filterMap (PF t)=_
 rw[Zhm hN.light,List.filterMap_cons_none (pf0 (show atS t top=0 from by
  have:atS t top=Zew t:=by unfold atS;rw[if_neg (by decide)];exact if_pos (by decide)
  rw[this];exact hN.whole h)),List.filterMap_append,ZjP _ _ _ (λj hj=>by
   obtain⟨v,hv⟩:=ZnX hj
   unfold Vf
   rw[List.filterMap_cons_none (pf0 (by rw[ZBV t hv];exact hN.var h hv))];rfl),List.nil_append]
 rw[Zxs (i:=i) _ _ _ hi λj hj jb=>?_]
 ·unfold Ff
  rw[hx']
  show(plS i x').filterMap (PF t)=_
  rw[Zpq,List.filterMap_cons_none (pf0 (by rw[ZzX t hx'];exact hN.sta h hx cN jh))]
  rw[Zxs (i:=k) _ _ _ (by omega) λj hj pg=>?_]
  ·unfold Gf
   rw[hr,List.getElem?_set_self hk]
  ·obtain⟨q,hq⟩:=ZnX hj
   unfold Gf
   rw[hq]
   refine hN.fmR h hx' hq (hm.all q ?_)
   rw[hr,List.getElem?_set_ne (Ne.symm pg)]at hq
   exact zA2 hq
 ·obtain⟨y,hy⟩:=ZnX hj
  have hy':=hy
  rw[ho j jb]at hy'
  have nF:=h.all j y hy'
  unfold Ff
  rw[hy]
  show(plS j y).filterMap (PF t)=_
  rw[Zpq,List.filterMap_cons_none (pf0 (by rw[ZzX t hy];exact hN.sta h hy' rfl rfl))]
  refine ZjP _ _ _ λn lf=>?_
  obtain⟨q,hq⟩:=ZnX lf
  unfold Gf
  rw[hq]
  exact hN.fmR h hy hq (nF.all q (zA2 hq))
end
section
variable {s:Sc} (h:MkC s) {i k c:Nat} {x:Sta} {r:Ru} (hx:s.states[i]?=some x) (hr:x.rules[k]?=some r) (hc:c < 10)
include h hx hr hc
omit hx hr in
omit hx hr in
omit hx hr in
omit hx hr in
end
def goR(t:ByteArray)(r:Ru):Ru:=⟨r.k,r.bg,r.en,r.t,r.s,r.n,r.aa,r.ac,r.acts,t,r.code⟩
def ZlD(f t:ByteArray)(r:Ru):Ru:=if eqS r.go f then goR t r else r
def ZzY(f t:ByteArray)(s:Sc):Sc:=if eqS f ⟨#[]⟩||eqS t ⟨#[]⟩ then s else ZCH (λ_ x=>x.rules.map (ZlD f t)) s
theorem ZzZ(f t:ByteArray)(r:Ru):(ZlD f t r).er=ZlD f t r.er:=by
 unfold ZlD
 show(if eqS r.go f then goR t r else r).er=if eqS r.go f then goR t r.er else r.er
 split <;> rfl
theorem Zxu{f t:ByteArray}{l l':List Ru}(h:l'.map Ru.er=l.map Ru.er):(l'.map (ZlD f t)).map Ru.er=(l.map (ZlD f t)).map Ru.er:=by
 have e:∀l:List Ru,(l.map (ZlD f t)).map Ru.er=(l.map Ru.er).map (ZlD f t):=λl=>by
  rw[List.map_map,List.map_map];exact List.map_congr_left λr _=>ZzZ f t r
 rw[e,e,h]
theorem Zz0{f t:ByteArray}{s s':Sc}(h:s'.er=s.er):(ZzY f t s').er=(ZzY f t s).er:=by
 unfold ZzY
 split
 ·exact h
 ·have h1:=ZpD h
  refine Ziy h1.1 h1.2 (List.ext_getElem? λj=>?_)
  show((s'.states.mapIdx (ZvN _)).map Sta.er)[j]?=((s.states.mapIdx (ZvN _)).map Sta.er)[j]?
  have hj:=congrArg (λl=>l[j]?) (ZfD h)
  simp only[List.getElem?_map,List.getElem?_mapIdx]at hj ⊢
  cases h2:s'.states[j]? with
  | none=>
   rw[h2]at hj
   cases h3:s.states[j]? with
   | none=>rfl
   | some x=>rw[h3]at hj;cases hj
  | some x'=>
   rw[h2]at hj
   cases h3:s.states[j]? with
   | none=>rw[h3]at hj;cases hj
   | some x=>
    rw[h3]at hj
    have he:x'.er=x.er:=by simpa using hj
    obtain⟨e1,e2,_⟩:=Zix he
    simp only[Option.map_some,Option.some.injEq]
    unfold ZvN Sta.er
    rw[e1,Zxu e2]
theorem Zz1{m:Mem}{b k:Nat}{L:List Ru}{r:Ru}(t:ByteArray)(h:rowRd m (some ⟨b,0,none⟩) (L.map Ru.cs).flatten)(hk:L[k]?=some r):rowRd (m.upd b (0+k*16+14) [.string t]) (some ⟨b,0,none⟩) ((L.set k (goR t r)).map Ru.cs).flatten:=by
 refine .inr ⟨b,0,rfl,Zoe Ru.len λi z hz j v hj=>?_⟩
 have xC:j < 16:=by have:=(zA0 hj).1;rwa [Ru.len]at this
 by_cases jU:i=k
 ·subst jU
  rw[List.getElem?_set_self (zA0 hk).1]at hz
  cases hz
  by_cases jt:j=14
  ·subst jt
   have:v=.string t:=by simpa[goR,Ru.cs]using hj.symm
   subst this
   exact ZzQ (j:=0) rfl
  ·obtain⟨b',o',ha,cC⟩:=Zan Ru.len h hk (by omega)
   cases ha
   rw[Zta (by show _\/_+1<=_;omega)]
   refine cC j v ?_
   have e:(goR t r).cs=r.cs.set 14 (.string t):=rfl
   rw[e,List.getElem?_set_ne (by omega)]at hj
   exact hj
 ·rw[List.getElem?_set_ne (Ne.symm jU)]at hz
  obtain⟨b',o',ha,cC⟩:=Zan Ru.len h hz (by omega)
  cases ha
  rw[Zta,cC j v hj]
  show _\/_+1<=_
  omega
def ZuQ(f t:ByteArray)(k:Nat)(l:List Ru):List Ru:=(l.take k).map (ZlD f t)++l.drop k
theorem Ztd(f t:ByteArray)(k:Nat)(l:List Ru):(ZuQ f t k l).length=l.length:=by
 simp only[ZuQ,zA1,List.length_map,List.length_take,List.length_drop];omega
theorem Zte{f t:ByteArray}{k:Nat}{l:List Ru}{r:Ru}(h:l[k]?=some r):(ZuQ f t k l)[k]?=some r:=by
 have hk:=(zA0 h).1
 unfold ZuQ
 rw[zA4 (by simp;omega),List.getElem?_drop]
 simp only[List.length_map,List.length_take]
 rw[show k+(k - min k l.length)=k by omega];exact h
theorem ZpL{f t:ByteArray}{k:Nat}{l:List Ru}{r:Ru}(h:l[k]?=some r):ZuQ f t (k+1) l=(ZuQ f t k l).set k (ZlD f t r):=by
 have hk:=(zA0 h).1
 refine List.ext_getElem? λj=>?_
 by_cases pg:j=k
 ·subst pg
  rw[List.getElem?_set_self (by rw[Ztd];exact hk)]
  unfold ZuQ
  rw[zA5 (by simp;omega),List.getElem?_map,List.getElem?_take_of_lt (by omega),h];rfl
 ·rw[List.getElem?_set_ne (Ne.symm pg)]
  unfold ZuQ
  rcases Nat.lt_or_ge j k with h1|h1
  ·rw[zA5 (by simp;omega),zA5 (by simp;omega),List.getElem?_map,List.getElem?_map,List.getElem?_take_of_lt (by omega),List.getElem?_take_of_lt (by omega)]
  ·rw[zA4 (by simp;omega),zA4 (by simp;omega),List.getElem?_drop,List.getElem?_drop]
   simp only[List.length_map,List.length_take]
   congr 1;omega
theorem ZuR{f t:ByteArray}{k:Nat}{l:List Ru}{r:Ru}(h:l[k]?=some r)(dA:eqS r.go f=false):ZuQ f t (k+1) l=ZuQ f t k l:=by
 rw[ZpL h]
 have h2:=Zte (f:=f) (t:=t) h
 have:ZlD f t r=r:=by unfold ZlD;rw[dA];rfl
 rw[this]
 exact List.ext_getElem? λj=>by
  by_cases hj:j=k
  ·subst hj;rw[List.getElem?_set_self (zA0 h2).1,h2]
  ·rw[List.getElem?_set_ne (Ne.symm hj)]
theorem ZpM(f t:ByteArray)(l:List Ru):ZuQ f t 0 l=l:=by simp[ZuQ]
theorem ZuS(f t:ByteArray)(l:List Ru):ZuQ f t l.length l=l.map (ZlD f t):=by simp[ZuQ]
def Zwr(f t:ByteArray)(i k j:Nat)(x:Sta):List Ru:=if j < i then x.rules.map (ZlD f t)else if j=i then ZuQ f t k x.rules else x.rules
theorem Zxv(f t:ByteArray)(i k j:Nat)(x:Sta):(Zwr f t i k j x).length=x.rules.length:=by
 unfold Zwr;split
 ·simp
 ·split
  ·exact Ztd _ _ _ _
  ·rfl
theorem Zxw{m:Mem}{f t:ByteArray}{r:Ru}(h:RepR m r)(ht:t.size<=1000000000000000):RepR m (ZlD f t r):=by
 unfold ZlD;split
 ·exact⟨h.k,h.t,h.s,h.n,h.len,h.row,h.all,ht,h.code⟩
 ·exact h
theorem ZBY{m2 m3:Mem}{s':Sc}{bS:Nat}{μ:Nat->Mem}(bK:SepC m2 m3 s' bS μ){i j b b':Nat}{x y:Sta}(hx:s'.states[i]?=some x)(hy:s'.states[j]?=some y)(pf:i≠j)(h1:x.rules≠[])(h2:y.rules≠[])(ha:x.ra=some ⟨b,0,none⟩)(hb:y.ra=some ⟨b',0,none⟩):b≠b':=by
 rintro rfl
 have k1:=Zmn bK hx h1 ha
 have k2:=Zmn bK hy h2 hb
 have hi:=(zA0 hx).1
 have hj:=(zA0 hy).1
 rcases Nat.lt_or_ge i j with h|h
 ·exact(bK.ap i j h hj b).elim k1 k2
 ·exact(bK.ap j i (by omega) hi b).elim k2 k1
theorem Zz2:∀i < 4,∀j < 4,Zm2.getD i .empty=Zm2.getD j .empty->i=j:=by decide +kernel
theorem Zz3{i j:Nat}{n:ByteArray}(hi:Zm2[i]?=some n)(hj:Zm2[j]?=some n):i=j:=by
 have h1:i < 4:=(zA0 hi).1
 have h2:j < 4:=(zA0 hj).1
 exact Zz2 i h1 j h2 (by rw[ZcW hi,ZcW hj])
def ZkI(r:Ru):Option Int:=if r.go.size=0 then none else some ((Zm2.findIdx? λn=>eqS r.go n).elim (-1) λk:Nat=>(k:Int))
theorem Zof{r:Ru}{q:Nat}(h:Zm2[q]?=some r.go):ZkI r=some (q:Int):=by
 have hq:q < 4:=(zA0 h).1
 have hf:∀q < 4,(Zm2.findIdx? λn=>eqS (Zm2.getD q .empty) n)=some q:=by decide +kernel
 unfold ZkI
 rw[if_neg (by rw[Zgh _ (zA2 h)];omega),<-ZcW h,hf q hq];rfl
theorem Zmo{r:Ru}(h:r.go=.empty):ZkI r=none:=by unfold ZkI;rw[h,if_pos Zar]
theorem ZBZ{s:Sc}(h:MkC s){q:Nat}(hq:q < s.states.length){n:ByteArray}(hn:Zm2[q]?=some n):goI s.states n=some q:=by
 unfold goI
 rw[List.findIdx?_eq_some_iff_getElem]
 refine⟨hq,?_,λj hj=>?_⟩
 ·have:=(h.all q _ (zA3 hq)).name
  rw[hn]at this
  exact decide_eq_true (Option.some.inj this).symm
 ·have mI:j < s.states.length:=by omega
  have:=(h.all j _ (zA3 mI)).name
  simp only[Bool.not_eq_true',decide_eq_false_iff_not,Bool.not_eq_true]
  intro e
  rw[e]at this
  have:=Zz3 this hn
  omega
theorem Zz4{s:Sc}(h:MkC s){r:Ru}(hr:MkR s.states.length r):ZyR s.states r=ZkI r:=by
 rcases hr.go with⟨⟨q,hq,hn⟩,_⟩|⟨hg,_⟩
 ·rw[Zof hn]
  unfold ZyR
  rw[if_neg (by rw[Zgh _ (zA2 hn)];omega),ZBZ h hq hn];rfl
 ·rw[Zmo hg]
  unfold ZyR;rw[hg,if_pos Zar]
theorem Zz5{s:Sc}(h:MkC s){l:List Ru}(hl:∀r∈l,MkR s.states.length r):Zod s.states l=l.filterMap ZkI:=by
 unfold Zod
 induction l with
 | nil=>rfl
 | cons r l ih=>
  rw[List.filterMap_cons,List.filterMap_cons,Zz4 h (hl r (by simp)),ih λq hq=>hl q (by simp[hq])]
theorem MkR.red{n:Nat}{r:Ru}(h:MkR n r){f t:ByteArray}{k:Nat}(hk:k < n)(ht:Zm2[k]?=some t)(hf:f.size≠0):MkR n (ZlD f t r):=by
 unfold ZlD
 split
 ·rename_i he
  refine⟨h.kind,h.len,h.all,.inl ⟨⟨k,hk,ht⟩,?_⟩⟩
  rcases h.go with⟨_,hc⟩|⟨hg,_⟩
  ·exact hc
  ·exfalso
   rw[hg]at he
   have he:ByteArray.empty.toList=f.toList:=by
    unfold eqS at he
    exact beq_iff_eq.1 he
   rw[baL,baL]at he
   have hl:f.data.toList.length=0:=by rw[<-he];rfl
   rw[ZdN]at hl
   exact hf hl
 ·exact h
theorem MkC.red{s:Sc}(h:MkC s){i k:Nat}{f t:ByteArray}(hi:i < s.states.length)(hk:k < s.states.length)(hf:Zm2[i]?=some f)(ht:Zm2[k]?=some t):MkC (ZzY f t s):=by
 have hz:eqS f ⟨#[]⟩=false/\eqS t ⟨#[]⟩=false:=by
  have:=h.len
  have hd:∀i < 4,eqS (Zm2.getD i .empty) ⟨#[]⟩=false:=by decide +kernel
  exact⟨by rw[<-ZcW hf];exact hd i (by omega),by rw[<-ZcW ht];exact hd k (by omega)⟩
 have hs:ZzY f t s=ZCH (λ_ x=>x.rules.map (ZlD f t)) s:=by unfold ZzY;rw[hz.1,hz.2];rfl
 have aP:(s.states.mapIdx (ZvN λ_ x=>x.rules.map (ZlD f t))).length=s.states.length:=List.length_mapIdx
 rw[hs]
 refine⟨h.n,h.vlen,h.vall,by show 1<=(s.states.mapIdx (ZvN λ_ x=>x.rules.map (ZlD f t))).length/\(s.states.mapIdx (ZvN λ_ x=>x.rules.map (ZlD f t))).length<=4;rw[aP];exact h.len,λj y hy=>?_⟩
 show MkS (s.states.mapIdx _).length j y
 rw[aP]
 have hy:(s.states.mapIdx (ZvN λ_ x=>x.rules.map (ZlD f t)))[j]?=some y:=hy
 rw[List.getElem?_mapIdx]at hy
 obtain⟨x,hx,rfl⟩:=Option.map_eq_some_iff.1 hy
 have hm:=h.all j x hx
 refine⟨hm.name,by show(x.rules.map _).length<=5;rw[List.length_map];exact hm.len,λr hr=>?_⟩
 obtain⟨q,hq,rfl⟩:=List.mem_map.1 hr
 exact(hm.all q hq).red hk ht (by rw[Zgh _ (zA2 hf)];decide)
theorem ZB0{s:Sc}(h:MkC s){j:Nat}{x:Sta}(hx:s.states[j]?=some x):(s.states.map (ZC4 s.states))[j]?=some (Zwp (x.rules.filterMap ZkI)):=by
 rw[List.getElem?_map,hx]
 simp only[Option.map_some,Option.some.injEq]
 unfold ZC4
 rw[Zz5 h (h.all j x hx).all]
theorem MkC.drop{s:Sc}(h:MkC s){i k:Nat}{x:Sta}(hx:s.states[i]?=some x)(hk:k < x.rules.length):MkC (Zwl s i k):=by
 have h2:Zwl s i k=⟨s.n,s.va,s.vc,s.vars,s.sa,s.sc,s.states.set i (ZgT x k)⟩:=by unfold Zwl;rw[hx]
 have aP:(s.states.set i (ZgT x k)).length=s.states.length:=List.length_set
 rw[h2]
 refine⟨h.n,h.vlen,h.vall,by show 1<=(s.states.set i (ZgT x k)).length/\(s.states.set i (ZgT x k)).length<=4;rw[aP];exact h.len,λj y hy=>?_⟩
 show MkS (s.states.set i (ZgT x k)).length j y
 rw[aP]
 have hy:(s.states.set i (ZgT x k))[j]?=some y:=hy
 by_cases hj:j=i
 ·subst hj
  rw[List.getElem?_set_self (zA0 hx).1]at hy
  cases hy
  have hm:=h.all j x hx
  refine⟨hm.name,?_,λr hr=>hm.all r ?_⟩
  ·show(x.rules.eraseIdx k).length<=5
   have:=hm.len
   rw[List.length_eraseIdx];split <;> omega
  ·exact List.mem_of_mem_eraseIdx hr
 ·rw[List.getElem?_set_ne (Ne.symm hj)]at hy
  exact h.all j y hy
theorem Near.firstRule{s t:Sc}(h:MkC s)(hN:Near s t){i k:Nat}{x x':Sta}{r q:Ru}(hx:s.states[i]?=some x)(hr:x.rules[k]?=some q)(hx':t.states[i]?=some x')(cN:x'.s=x.s)(fO:x'.rules=x.rules.set k r)(ho:∀j,j≠i->t.states[j]?=s.states[j]?)
  (e:Int) (he:Zck t r (totals t i k)=e) (h0:e≠0):∃rest,t.problems=(⟨-1,i,k,-1,-1⟩,e)::rest:=by
 have hk:=(zA0 hr).1
 have hr':x'.rules[k]?=some r:=by rw[fO];exact List.getElem?_set_self hk
 rw[hN.one h hx hk hx' cN fO ho,Zpp]
 have f1:=Zxt t hx' hr'
 rw[he]at f1
 have g1:PF t ⟨-1,i,k,-1,-1⟩=some (⟨-1,i,k,-1,-1⟩,e):=by unfold PF;rw[f1,if_neg h0]
 rw[List.filterMap_cons_some g1]
 exact⟨_,rfl⟩
section
variable {s:Sc} (h:MkC s) {i k:Nat} {x:Sta} {q r:Ru} (hx:s.states[i]?=some x) (hr:x.rules[k]?=some q) (hw:wR r<=600) (hz:Rx.sizeR r<=26)
include h hx hr hw hz
theorem Zxx:Near s (ZjY s i k r):=by
 have h2:ZjY s i k r=⟨s.n,s.va,s.vc,s.vars,s.sa,s.sc,s.states.set i (ZrG x k r)⟩:=by unfold ZjY;rw[hx]
 have cM:∀y∈(ZjY s i k r).states,y.rules.length<=5/\∀q∈y.rules,wR q<=600/\Rx.sizeR q<=26:=by
  rw[h2]
  intro y hy
  have hm:=h.all i x hx
  have ok:∀{q:Ru},MkR s.states.length q->wR q<=600/\Rx.sizeR q<=26:=λhq=>⟨by have:=hq.w;omega,hq.sizeR⟩
  rcases List.mem_or_eq_of_mem_set hy with hy|rfl
  ·obtain⟨j,_,nF⟩:=h.state hy
   exact⟨nF.len,λq hq=>ok (nF.all q hq)⟩
  ·refine⟨by show(x.rules.set k _).length<=5;rw[List.length_set];exact hm.len,λq hq=>?_⟩
   rcases List.mem_or_eq_of_mem_set hq with hq|rfl
   ·exact ok (hm.all q hq)
   ·exact⟨hw,hz⟩
 have aP:(ZjY s i k r).states.length=s.states.length:=by rw[h2];exact List.length_set
 have h0:=h.len
 have hv:=h.vlen
 have nG:(ZjY s i k r).vars=s.vars:=by rw[h2]
 refine⟨by rw[h2],nG,?_,?_,λi' k'=>?_⟩
 ·rw[h2]
  refine List.ext_getElem? λj=>?_
  show((s.states.set i _).map Sta.s)[j]?=_
  rw[List.getElem?_map,List.getElem?_map]
  by_cases hj:j=i
  ·subst hj
   rw[List.getElem?_set_self (zA0 hx).1,hx];rfl
  ·rw[List.getElem?_set_ne (Ne.symm hj)]
 ·unfold Sc.light Sc.weight
  refine decide_eq_true ?_
  have h1:=ZdZ wS 3000 (ZjY s i k r).states (λy hy=>by
   obtain⟨h1,h2⟩:=cM y hy
   have:=ZdZ wR 600 y.rules (λq hq=>(h2 q hq).1)
   unfold wS;omega)
  rw[aP]at h1 ⊢
  rw[nG]
  omega
 ·generalize ZjY s i k r=t at *
  have bJ:∀y∈t.states,∀n,ZbF ((y.rules.take n).map Rx.sizeR)<=130:=λy hy n=>by
   obtain⟨h1,h2⟩:=cM y hy
   have:=ZdZ Rx.sizeR 26 (y.rules.take n) (λq hq=>(h2 q (List.mem_of_mem_take hq)).2)
   rw[List.length_take]at this
   omega
  have h1:=ZdZ (λx:Sta=>ZbF (x.rules.map Rx.sizeR)) 130 (t.states.take i') (λy hy=>by
   have:=bJ y (List.mem_of_mem_take hy) y.rules.length
   rwa [List.take_length]at this)
  rw[List.length_take]at h1
  unfold Rx.totals
  cases pO:t.states[i']? with
  | none=>show _+0<=_;omega
  | some y=>
   have hi:=(zA0 pO).1
   have:=bJ y (zA2 pO) (k'+1)
   show _+ZbF ((y.rules.take (k'+1)).map Rx.sizeR)<=_
   omega
end
def ZDv:ByteArray:=⟨#[110,111,119,104,101,114,101]⟩
def Zz6:T:=.node 4 0 0 0 0 0 0 none 0 []
def spR(w:Nat)(r:Ru):Ru:=match w with
 | 0=>⟨9,r.bg,r.en,r.t,r.s,r.n,r.aa,r.ac,r.acts,r.go,r.code⟩
 | 1=>⟨r.k,r.bg,r.en,r.t,r.s,r.n,r.aa,r.ac,r.acts,ZDv,0⟩
 | 2=>⟨r.k,r.bg,r.en,r.t,r.s,r.n,r.aa,r.ac,r.acts,⟨#[]⟩,-1⟩
 | 3=>⟨r.k,r.bg,r.en,r.t,⟨⟨r.s.data.toList++[120]⟩⟩,IntKind.i64.wrap (r.n+1),r.aa,r.ac,r.acts,r.go,r.code⟩
 | _=>⟨r.k,true,false,Zz6,r.s,r.n,r.aa,r.ac,r.acts,r.go,r.code⟩
def spE(w:Nat)(r:Ru):Int:=match w with
 | 0=>304
 | 1=>306
 | 2=>306
 | 3=>304
 | _=>if r.k=1 then 305 else 304
theorem ZB1(w:Nat){r q:Ru}(h:r.er=q.er):(spR w r).er=(spR w q).er:=by
 simp only[Ru.er,Ru.mk.injEq]at h
 obtain⟨h1,h2,h3,h4,h5,h6,_,_,h7,h8,h9⟩:=h
 unfold spR
 split <;> simp[Ru.er,h1,h2,h3,h4,h5,h6,h7,h8,h9]
theorem ZDU:Zz6.light=true/\Zz6.size=1/\(Zz6.check == 0)=false:=by decide +kernel
theorem Zz7:∀i < 4,eqS (Zm2.getD i .empty) ZDv=false:=by decide +kernel
theorem MkC.not_now{s:Sc}(h:MkC s):ZdO s ZDv=false:=by
 unfold ZdO
 rw[Bool.and_eq_false_iff]
 refine .inl ?_
 rw[List.any_eq_false]
 intro x hx
 obtain⟨i,hi,hm⟩:=h.state hx
 have h4:i < 4:=(zA0 hm.name).1
 have:=Zz7 i h4
 rw[ZcW hm.name]at this
 rw[this];simp
theorem Ztf{s:Sc}{r:Ru}{T:Int}(h:Zck s r T=0):(!ZaE r||decide (r.acts.length > 8))=false/\(r.k == 1&&(!(r.t.check == 0)||decide (T > 600)))=false:=by
 unfold Zck ZaY ZaY at h
 split at h
 ·omega
 rename_i h1
 split at h
 ·omega
 rename_i h2
 exact⟨by simpa using h1,by simpa using h2⟩
theorem ZrH{n:Nat}{q:Ru}(h:MkR n q):ZaE (spR 3 q)=false:=by
 have w1:IntKind.i64.wrap 1=1:=by decide +kernel
 rcases h.kind with⟨hk,_,_,hs,hn⟩|⟨hx,⟨hk,h1,h2,hn⟩|⟨hk,hs,hn⟩|⟨hk,hs,h1,h2⟩⟩
 ·simp[ZaE,spR,hk,hs,hn,w1]
 ·simp[ZaE,spR,hk,hn,w1]
 all_goals
  have e0:((spR 3 q).s.size == 0)=false:=by
   show((⟨⟨q.s.data.toList++[120]⟩⟩:ByteArray).size == 0)=false
   rw[hs];decide +kernel
  unfold ZaE
  rw[e0]
  simp[spR,hk]
theorem Zz8{s t:Sc}(h:MkC s)(hN:Near s t){q:Ru}(hq:MkR s.states.length q)(w:Nat){T:Int}(hT:T<=600):Zck t (spR w q) T=spE w q:=by
 have h0:=h.rule hq hT
 obtain⟨h1,h2⟩:=Ztf h0
 rw[hN.rule h]
 have pR:=hq.len
 have bad:∀r:Ru,ZaE r=false->Zck s r T=304:=λr hr=>by
  unfold Zck;rw[hr];rfl
 have gob:∀(g:ByteArray)(c:Int),(if g.size=0 then !Zbl c 0 255 else !ZdO s g||!(c == 0))=true->Zck s ⟨q.k,q.bg,q.en,q.t,q.s,q.n,q.aa,q.ac,q.acts,g,c⟩ T=306:=λg c hg=>by
  unfold Zck ZaY ZaY ZaY
  have e1:(!ZaE ⟨q.k,q.bg,q.en,q.t,q.s,q.n,q.aa,q.ac,q.acts,g,c⟩||decide (q.acts.length > 8))=false:=h1
  rw[e1,h2,hg];rfl
 match w with
 | 0=>exact bad _ rfl
 | 1=>exact gob _ _ (by rw[if_neg (by decide),h.not_now];rfl)
 | 2=>exact gob _ _ (by rw[if_pos (by decide)];rfl)
 | 3=>exact bad _ (ZrH hq)
 | w+4=>
  show Zck s (spR 4 q) T=if q.k=1 then 305 else 304
  by_cases hk:q.k=1
  ·rw[if_pos hk]
   unfold Zck ZaY ZaY
   have e1:(!ZaE (spR 4 q)||decide ((spR 4 q).acts.length > 8))=false:=by
    rcases hq.kind with⟨hk,_,_,hs,hn⟩|⟨hx,⟨hk',_⟩|⟨hk',_⟩|⟨hk',_⟩⟩
    ·have:ZaE (spR 4 q)=true:=by simp[ZaE,spR,hk,hs,hn,Zar]
     rw[this,decide_eq_false (by show ¬q.acts.length > 8;omega)];rfl
    all_goals omega
   have e2:((spR 4 q).k == 1&&(!((spR 4 q).t.check == 0)||decide (T > 600)))=true:=by
    show(q.k == 1&&(!(Zz6.check == 0)||decide (T > 600)))=true
    rw[hk,ZDU.2.2];rfl
   rw[e1,e2];rfl
  ·rw[if_neg hk]
   refine bad _ ?_
   have hx:ZsN (spR 4 q)=true:=rfl
   unfold ZaE
   rw[hx]
   rcases hq.kind with⟨hk',_⟩|⟨_,⟨hk',_⟩|⟨hk',_⟩|⟨hk',_⟩⟩
   ·exact absurd hk' hk
   all_goals simp[spR,hk']
theorem Zz9(w:Nat)(q:Ru):spE w q≠0:=by
 unfold spE
 split
 any_goals decide
 split <;> decide
theorem ZEk{n:Nat}{q:Ru}(h:MkR n q)(w:Nat):wR (spR w q)<=600/\Rx.sizeR (spR w q)<=26:=by
 have hw:=h.w
 have hz:=h.sizeR
 match w with
 | 0=>exact⟨by show wR q<=600;omega,by show(if(9:Int)=1 then _ else _)<=_;rw[if_neg (by decide)];omega⟩
 | 1=>exact⟨by show wR q<=600;omega,hz⟩
 | 2=>exact⟨by show wR q<=600;omega,hz⟩
 | 3=>exact⟨by show wR q<=600;omega,hz⟩
 | w+4=>
  have e1:wR (spR (w+4) q)=1+Zge Zz6.size 20000+(if Zz6.light then 0 else 20001)+ZbF (q.acts.map wA):=rfl
  have e2:Rx.sizeR (spR (w+4) q)=if q.k=1 then Zz6.size else 0:=rfl
  have h3:=ZdZ wA 126 q.acts (λa ha=>(h.all a ha).w)
  have h4:=h.len
  rw[e1,e2,ZDU.1,ZDU.2.1]
  refine⟨?_,by split <;> omega⟩
  show 1+Zge 1 20000+0+ZbF (q.acts.map wA)<=600
  rw[show Zge 1 20000=1 by decide];omega
theorem Zxy{s:Sc}(h:MkC s){i k:Nat}{x:Sta}{q:Ru}(hx:s.states[i]?=some x)(hr:x.rules[k]?=some q)(w:Nat):
  (ZjY s i k (spR w q)).light=true/\(ZjY s i k (spR w q)).check=(⟨-1,i,k,-1,-1⟩,spE w q)/\atS (ZjY s i k (spR w q)) ⟨-1,i,k,-1,-1⟩=spE w q/\(⟨-1,i,k,-1,-1⟩:Pl)∈(ZjY s i k (spR w q)).places:=by
 have hq:=(h.all i x hx).all q (zA2 hr)
 obtain⟨h1,h2⟩:=ZEk hq w
 have hN:=Zxx h hx hr h1 h2
 have e2:ZjY s i k (spR w q)=⟨s.n,s.va,s.vc,s.vars,s.sa,s.sc,s.states.set i (ZrG x k (spR w q))⟩:=by unfold ZjY;rw[hx]
 have hi:=(zA0 hx).1
 have hx':(ZjY s i k (spR w q)).states[i]?=some (ZrG x k (spR w q)):=by rw[e2];exact List.getElem?_set_self hi
 have hr':(ZrG x k (spR w q)).rules[k]?=some (spR w q):=List.getElem?_set_self (zA0 hr).1
 have he:=Zz8 h hN hq w (hN.tot i k)
 obtain⟨rest,hp⟩:=hN.firstRule h hx hr hx' rfl rfl (λj hj=>by rw[e2];exact List.getElem?_set_ne (Ne.symm hj)) _ he (Zz9 w q)
 refine⟨hN.light,?_,?_,?_⟩
 ·unfold Sc.check;rw[if_pos hN.light,hp]
 ·rw[Zxt _ hx' hr',he]
 ·have hm:((⟨-1,i,k,-1,-1⟩:Pl),spE w q)∈(ZjY s i k (spR w q)).problems:=by rw[hp];simp
  unfold Sc.problems at hm
  obtain⟨p,qF,gI⟩:=List.mem_filterMap.1 hm
  split at gI
  ·cases gI
  ·simp only[Option.some.injEq,Prod.mk.injEq]at gI
   rw[<-gI.1];exact qF
theorem Ztg{s:Sc}(h:MkC s){i k:Nat}{x:Sta}{q q':Ru}(hx:s.states[i]?=some x)(hr:x.rules[k]?=some q)(w:Nat)(he:q'.er=q.er){t:Sc}(ht:t.er=(ZjY s i k (spR w q')).er):
  t.light=true/\t.check=(⟨-1,i,k,-1,-1⟩,spE w q)/\atS t ⟨-1,i,k,-1,-1⟩=spE w q/\(⟨-1,i,k,-1,-1⟩:Pl)∈t.places:=by
 have e:(ZjY s i k (spR w q')).er=(ZjY s i k (spR w q)).er:=by
  have:=Ztc (s:=s) (s':=s) (x:=x) (x':=x) rfl hx rfl (ZB1 w he) k
  have h2:ZjY s i k (spR w q')=⟨s.n,s.va,s.vc,s.vars,s.sa,s.sc,s.states.set i (ZrG x k (spR w q'))⟩:=by unfold ZjY;rw[hx]
  rw[h2];exact this
 have ht:=ht.trans e
 obtain⟨h1,h2,h3,h4⟩:=Zxy h hx hr w
 exact⟨(Zpz ht).trans h1,(Zhp ht).trans h2,by rw[<-Zxo t,ht,Zxo,h3],by rw[<-ZkG t,ht,ZkG];exact h4⟩
theorem Zxz{s:Sc}(h:MkC s){i k:Nat}{x:Sta}{q q':Ru}(hx:s.states[i]?=some x)(hr:x.rules[k]?=some q)(w:Nat)(he:q'.er=q.er):(ZjY s i k (spR w q')).light=true:=(Ztg h hx hr w he rfl).1
structure Kept (s t:Sc):Prop where
 n:t.n=s.n
 vars:t.vars=s.vars
 len:1<=t.states.length/\t.states.length<=4
 sub:∀x∈t.states,x∈s.states
 dif:∀(i j:Nat)(x y:Sta),t.states[i]?=some x->t.states[j]?=some y->i≠j->eqS x.s y.s=false
 cl:∀x∈t.states,∀r∈x.rules,r.go.size≠0->(t.states.any λx=>eqS x.s r.go)=true
section
variable {s t:Sc} (h:MkC s) (hT:Kept s t)
include h hT
theorem Kept.light:t.light=true:=by
 have h1:=ZdZ wS 2025 t.states (λx hx=>by
  obtain⟨i,_,hm⟩:=h.state (hT.sub x hx)
  exact hm.w)
 have h2:=hT.len
 have h3:=h.vlen
 unfold Sc.light Sc.weight
 rw[hT.vars]
 refine decide_eq_true ?_
 omega
theorem Kept.totals(i k:Nat):Rx.totals t i k<=600:=by
 have h0:=hT.len
 have h1:=ZdZ (λx:Sta=>ZbF (x.rules.map Rx.sizeR)) 130 (t.states.take i) (λx hx=>by
  obtain⟨j,_,hm⟩:=h.state (hT.sub x (List.mem_of_mem_take hx))
  have:=hm.sizes x.rules.length
  rwa [List.take_length]at this)
 rw[List.length_take]at h1
 unfold Rx.totals
 cases hx:t.states[i]? with
 | none=>show _+0<=_;omega
 | some x=>
  have hi:=(zA0 hx).1
  obtain⟨j,_,hm⟩:=h.state (hT.sub x (zA2 hx))
  have:=hm.sizes (k+1)
  show _+ZbF ((x.rules.take (k+1)).map Rx.sizeR)<=_
  omega
theorem Kept.at0:∀p∈t.places,atS t p=0:=by
 intro p hp
 have hP:∀{r:Ru} {a:Ac},MkA (ZbW r) a->∀{n:Nat} {q:Pt},a.parts[n]?=some q->Zds t r a.parts n q=0:=λ{r a} ha {n q} hq=>by
  have e:Zds t r a.parts n q=Zds s r a.parts n q:=by unfold Zds ZbK Zbj ZbK;rw[hT.vars]
  rw[e]
  cases ha with
  | send _ _ l hl=>exact h.part hl hq
  | set _ _ _ _ l hl=>exact h.part hl hq
  | let_ _ _ e _=>simp at hq
 rcases Zfy t p hp with⟨i,hi,v,hv⟩|⟨hv,hs|⟨i,hi,x,hx,hr|⟨k,hk,r,hr,ha|⟨j,hj,a,ha,hq|⟨n,hn,q,hq⟩⟩⟩⟩⟩
 ·have e:atS t p=Za3 t i v:=by
   unfold atS
   rw[if_pos (by omega),show p.v.toNat=i by omega,hv]
  have e2:Za3 t i v=Za3 s i v:=by unfold Za3;rw[hT.vars]
  rw[e,e2];exact h.var (by rw[<-hT.vars];exact hv)
 all_goals have hv':¬p.v ≥ 0:=by omega
 ·unfold atS
  rw[if_neg hv',if_pos hs]
  have h1:Zbl t.n 2 256=true:=Zc4.2 (by rw[hT.n];have:=h.n;omega)
  have h2:Zbl t.states.length 1 24=true:=Zc4.2 (by have:=hT.len;omega)
  have h3:decide (t.vars.length > 12)=false:=decide_eq_false (by rw[hT.vars];have:=h.vlen;omega)
  simp[Zew,ZaY,h1,h2,h3]
 all_goals
  have hs':¬p.s < 0:=by omega
  have km:p.s.toNat=i:=by omega
  obtain⟨i0,qI,hm⟩:=h.state (hT.sub x (zA2 ‹t.states[i]?=some x›))
 ·have e:atS t p=Zdt t i x:=by
   unfold atS
   rw[if_neg hv',if_neg hs',km,hx]
   exact if_pos hr
  rw[e]
  have h1:Zcl x.s=true:=ZsS _ (zA2 hm.name)
  have h2:decide (x.rules.length > 12)=false:=decide_eq_false (by have:=hm.len;omega)
  have h3:((t.states.take i).any λy=>eqS y.s x.s)=false:=by
   rw[List.any_eq_false]
   intro y hy
   obtain⟨j,hj⟩:=List.getElem?_of_mem hy
   have jb:j < i:=by have:=(zA0 hj).1;rw[List.length_take]at this;omega
   rw[List.getElem?_take_of_lt jb]at hj
   rw[hT.dif j i y x hj hx (by omega)];simp
  simp[Zdt,ZaY,h1,h2,h3]
 all_goals
  have hr':¬p.r < 0:=by omega
  have fX:p.r.toNat=k:=by omega
  have hR:=hm.all r (zA2 hr)
 ·have e:atS t p=Zck t r (Rx.totals t i k):=by
   unfold atS
   rw[if_neg hv',if_neg hs',km,hx]
   show(if p.r < 0 then _ else _)=_
   rw[if_neg hr',fX,hr]
   exact if_pos ha
  rw[e]
  have e0:=h.rule hR (hT.totals h i k)
  obtain⟨g1,g2⟩:=Ztf e0
  by_cases hz:r.go.size=0
  ·have e2:Zck t r (Rx.totals t i k)=Zck s r (Rx.totals t i k):=by unfold Zck;rw[if_pos hz,if_pos hz]
   rw[e2];exact e0
  ·have hf:ZdO t r.go=true:=by
    unfold ZdO
    rw[hT.cl x (zA2 hx) r (zA2 hr) hz,hT.light h];rfl
   have hc:(r.code == 0)=true:=by
    rcases hR.go with⟨_,hc⟩|⟨hg,_⟩
    ·rw[hc];rfl
    ·rw[hg]at hz;exact absurd Zar hz
   unfold Zck ZaY ZaY ZaY
   rw[g1,g2,if_neg hz,hf,hc];rfl
 all_goals
  have ha':¬p.a < 0:=by omega
  have kG:p.a.toNat=j:=by omega
  have hA:=hR.all a (zA2 ‹r.acts[j]?=some a›)
 ·have e:atS t p=ZaW t r a:=by
   unfold atS
   rw[if_neg hv',if_neg hs',km,hx]
   show(if p.r < 0 then _ else _)=_
   rw[if_neg hr',fX,hr]
   show(if p.a < 0 then _ else _)=_
   rw[if_neg ha',kG,‹r.acts[j]?=some a›]
   exact if_pos hq
  have e2:ZaW t r a=ZaW s r a:=by unfold ZaW ZbK Zbj ZbK;rw[hT.vars]
  rw[e,e2];exact h.action hA
 ·have e:atS t p=Zds t r a.parts n q:=by
   unfold atS
   rw[if_neg hv',if_neg hs',km,hx]
   show(if p.r < 0 then _ else _)=_
   rw[if_neg hr',fX,hr]
   show(if p.a < 0 then _ else _)=_
   rw[if_neg ha',kG,‹r.acts[j]?=some a›]
   show(if p.p < 0 then _ else _)=_
   rw[if_neg (by omega),show p.p.toNat=n by omega,hq]
  rw[e];exact hP hA hq
theorem Kept.check:t.check=(top,0):=by
 have e:t.problems=[]:=by
  unfold Sc.problems
  rw[List.filterMap_eq_nil_iff]
  intro p hp
  rw[if_pos (hT.at0 h p hp)]
 unfold Sc.check
 rw[if_pos (hT.light h),e]
end
def Zws(s:Sc)(ns:List Nat):Sc:=⟨s.n,none,0,s.vars,none,0,ns.filterMap λi=>s.states[i]?⟩
structure Closed (s:Sc)(ns:List Nat):Prop where
 nd:ns.Nodup
 lt:∀i∈ns,i < s.states.length
 ne:ns≠[]
 cl:∀i∈ns,∀x,s.states[i]?=some x->∀y∈x.rules.filterMap ZkI,∃k∈ns,y=(k:Nat)
theorem Zth{s:Sc}{ns:List Nat}(hl:∀i∈ns,i < s.states.length):ns.map (λi=>(s.states[i]?).map Sta.er)=(Zws s ns).states.map λx=>some x.er:=by
 show _=(ns.filterMap λi=>s.states[i]?).map _
 induction ns with
 | nil=>rfl
 | cons i ns ih=>
  have hi:=hl i (by simp)
  rw[List.map_cons,List.filterMap_cons_some (zA3 hi),List.map_cons,ih λj hj=>hl j (by simp[hj])]
  rw[zA3 hi];rfl
theorem ZAa{s:Sc}{ns:List Nat}(hl:∀i∈ns,i < s.states.length)(j:Nat):(Zws s ns).states[j]?=ns[j]?.bind λi=>s.states[i]?:=by
 show(ns.filterMap λi=>s.states[i]?)[j]?=_
 induction ns generalizing j with
 | nil=>simp
 | cons i ns ih=>
  have hi:=hl i (by simp)
  rw[List.filterMap_cons_some (zA3 hi)]
  cases j with
  | zero=>simp[zA3 hi]
  | succ j=>simpa using ih (λj hj=>hl j (by simp[hj])) j
theorem ZkJ{ns:List Nat}{n:Nat}(h:ns.Nodup)(hl:∀i∈ns,i < n):ns.length<=n:=by
 have:=List.Nodup.length_le_of_subset h (l₂:=List.range n) λi hi=>List.mem_range.2 (hl i hi)
 rwa [List.length_range]at this
theorem Closed.kept{s:Sc}(h:MkC s){ns:List Nat}(hc:Closed s ns):Kept s (Zws s ns):=by
 have eN:=ZAa hc.lt
 have aP:(Zws s ns).states.length=ns.length:=by
  have:=congrArg List.length (Zth hc.lt)
  simpa using this.symm
 have h4:=h.len
 have dM:∀x∈(Zws s ns).states,∃i∈ns,s.states[i]?=some x:=λx hx=>by
  obtain⟨i,hi,he⟩:=List.mem_filterMap.1 hx
  exact⟨i,hi,he⟩
 refine⟨rfl,rfl,?_,λx hx=>?_,λi j x y hx hy pf=>?_,λx hx r hr hz=>?_⟩
 ·rw[aP]
  have:=ZkJ hc.nd hc.lt
  have:=List.length_pos_iff.2 hc.ne
  omega
 ·obtain⟨i,_,hi⟩:=dM x hx
  exact zA2 hi
 ·rw[eN]at hx hy
  obtain⟨i',h1,h2⟩:=Option.bind_eq_some_iff.1 hx
  obtain⟨j',h3,h5⟩:=Option.bind_eq_some_iff.1 hy
  have dA:i'≠j':=λe=>by
   subst e
   obtain⟨g1,g2⟩:=zA0 h1
   obtain⟨g3,g4⟩:=zA0 h3
   exact pf ((List.getElem_inj (h₀:=g1) (h₁:=g3) hc.nd).1 (g2.trans g4.symm))
  have hi:=(zA0 h2).1
  have hj:=(zA0 h5).1
  have:=ZzF i' (by omega) j' (by omega) dA
  rw[ZcW (h.all _ x h2).name,ZcW (h.all _ y h5).name]at this
  exact this
 ·obtain⟨i,hi,qJ⟩:=dM x hx
  have hm:=(h.all i x qJ).all r hr
  rcases hm.go with⟨⟨q,hq,hn⟩,_⟩|⟨hg,_⟩
  ·obtain⟨k,hk,he⟩:=hc.cl i hi x qJ q (List.mem_filterMap.2 ⟨r,hr,Zof hn⟩)
   obtain rfl:q=k:=by omega
   rw[List.any_eq_true]
   refine⟨s.states[q],List.mem_filterMap.2 ⟨q,hk,zA3 hq⟩,?_⟩
   have:=(h.all q _ (zA3 hq)).name
   rw[hn]at this
   rw[<-Option.some.inj this];exact ZsU _
  ·rw[hg]at hz;exact absurd Zar hz
end Go.Rx
namespace Go.Rx
open Go
variable {P:Program}
theorem Zhr{n:Nat}(w:World)(t e ty:TypeId)(z:Value)(ht:P.underlying t=some (.slice e))(hv:∀w,(zeroValue e).run P w=.ok z w)(h1:∀u∈(Builtin.zeroCells z.cells n).toList,u.oneCell'=true)(b o c:Nat)(hn:0 < n)
  (hc:∀j,j < (Builtin.zeroCells z.cells n).toList.length->(w.cell? ⟨b,o+j,none⟩).isSome=true) (hf:∀j,j < (Builtin.zeroCells z.cells n).toList.length->w.frozen? ⟨b,o+j,none⟩=false):
  (Builtin.clear_ #[t] ty #[.slice (some ⟨b,o,none⟩) n c]).run P w=.ok (.tuple #[]) (w.setCells b o (Builtin.zeroCells z.cells n).toList):=by
 have cM:=run_storeCells_cells (P:=P) b o (Builtin.zeroCells z.cells n).toList 0 w (by simpa using hc) (by simpa using hf) h1
 simp only[Nat.add_zero]at cM
 obtain⟨m,rfl⟩:∃m,n=m+1:=⟨n - 1,by omega⟩
 simp[Builtin.clear_,run_underlying ht,hv,cM]
end Go.Rx
namespace Go.Rx
open Go Go.Proofs Go.Shelf Go.RowKit Go.Lib Go.Sort
set_option maxHeartbeats 4000000
set_option maxRecDepth 1000000
structure DelLay (P:Program)(ρ:Ren)(k:Nat)(z:Value):Prop where
 mixed:P.follows .mixedOrders=true
 f45:Bears P (ρ.f 45) (SlBodyN.n45 ρ)
 t0:P.underlying (ρ.t 0)=some (TypeDesc.tuple #[])
 a0:∀w,(Go.isAgg (ρ.t 0)).run P w=.ok false w
 z0:∀w,(Go.sizeOf (ρ.t 0)).run P w=.ok 1 w
 v0:∀w,(zeroValue (ρ.t 0)).run P w=.ok (Value.tuple #[]) w
 t3:P.underlying (ρ.t 3)=some (TypeDesc.int IntKind.i64)
 a3:∀w,(Go.isAgg (ρ.t 3)).run P w=.ok false w
 z3:∀w,(Go.sizeOf (ρ.t 3)).run P w=.ok 1 w
 v3:∀w,(zeroValue (ρ.t 3)).run P w=.ok (Value.int IntKind.i64 0) w
 t4:P.underlying (ρ.t 4)=some (TypeDesc.bool)
 a4:∀w,(Go.isAgg (ρ.t 4)).run P w=.ok false w
 z4:∀w,(Go.sizeOf (ρ.t 4)).run P w=.ok 1 w
 v4:∀w,(zeroValue (ρ.t 4)).run P w=.ok (Value.bool false) w
 t22:P.underlying (ρ.t 22)=some (TypeDesc.slice (ρ.t 23))
 a22:∀w,(Go.isAgg (ρ.t 22)).run P w=.ok false w
 z22:∀w,(Go.sizeOf (ρ.t 22)).run P w=.ok 1 w
 v22:∀w,(zeroValue (ρ.t 22)).run P w=.ok (Value.slice none 0 0) w
 z23:∀w,(Go.sizeOf (ρ.t 23)).run P w=.ok k w
 v23:∀w,(zeroValue (ρ.t 23)).run P w=.ok z w
theorem Zm6{P:Program}{ρ:Ren}{k:Nat}{z:Value}(L:DelLay P ρ k z)(i0:TypeInfo)(qI:P.info? (ρ.t 23)=some i0)(sn:i0.size=k)(hk:z.cells.size=k)
  (blk off n cap i j:Nat) (cs:List Value) (w:World) (aP:cs.length=n*k) (hH:∀(q:Nat)(u:Value),cs[q]?=some u->w.cell? ⟨blk,off+q,none⟩=some u/\w.frozen? ⟨blk,off+q,none⟩=false) (h1:∀u∈cs,u.oneCell'=true)
  (hz:∀m,∀u∈(Builtin.zeroCells z.cells m).toList,u.oneCell'=true)
  (cL:n<=cap) (hm:n<=9223372036854775807) (pf:i < j) (hj:j<=n):
  Calls P (ρ.f 45) #[.slice (some ⟨blk,off,none⟩) n cap,.int .i64 i,.int .i64 j] w λe w'=>e=.returned (.slice (some ⟨blk,off,none⟩) (n - (j - i)) cap)/\
   w'=(w.drew.setCells blk (off+i*k) (cs.drop (j*k))).setCells blk (off+(n - (j - i))*k) (Builtin.zeroCells z.cells (j - i)).toList:=by
 have mixed:=L.mixed;have t0:=L.t0;have a0:=L.a0;have z0:=L.z0;have v0:=L.v0;have t3:=L.t3;have a3:=L.a3;have z3:=L.z3;have v3:=L.v3;have t4:=L.t4;have a4:=L.a4;have z4:=L.z4;have v4:=L.v4;have t22:=L.t22;have a22:=L.a22;have z22:=L.z22;have v22:=L.v22;have z23:=L.z23
 obtain⟨Z,hZ⟩:∃Z,(Builtin.zeroCells z.cells (j - i)).toList=Z:=⟨_,rfl⟩
 rw[hZ]
 obtain⟨news,gF⟩:∃news,news=cs.drop (j*k):=⟨_,rfl⟩
 have lf:news.length=(n - j)*k:=by rw[gF,List.length_drop,aP,Nat.sub_mul]
 obtain⟨A,hA,ua⟩:∃A:Addr,(if cap=j then some (⟨blk,off,none⟩:Addr)else some ⟨blk,off+j*k,none⟩)=some A/\Hid (∀t u,news[t]?=some u->w.drew.cell? (A.add t)=some u):=by
  by_cases h:cap=j
  ·refine⟨⟨blk,off,none⟩,by simp[h],λt u hu=>?_⟩
   have h0:news.length=0:=by rw[lf,show n - j=0 by omega,Nat.zero_mul]
   rw[List.length_eq_zero_iff.1 h0]at hu
   simp at hu
  ·refine⟨⟨blk,off+j*k,none⟩,by simp[h],λt u hu=>?_⟩
   rw[gF,List.getElem?_drop]at hu
   rw[Addr.add_lit,Nat.add_assoc]
   exact(hH _ _ hu).1
 have s2:Hid (∀u∈news,u.oneCell'=true):=λu hu=>h1 u (by rw[gF]at hu;exact List.mem_of_mem_drop hu)
 have mJ:(i+(n - j))*k=i*k+(n - j)*k:=Nat.add_mul _ _ _
 have bG:(i+(n - j))*k<=n*k:=Nat.mul_le_mul_right _ (by omega)
 have s3:Hid (∀t,t < news.length->(w.drew.cell? ⟨blk,off+i*k+t,none⟩).isSome=true/\w.drew.frozen? ⟨blk,off+i*k+t,none⟩=false):=by
  intro t ht
  rw[lf]at ht
  have hb:i*k+t < cs.length:=by rw[aP];omega
  have h:=hH (i*k+t) cs[i*k+t] (zA3 hb)
  rw[<-Nat.add_assoc]at h
  exact⟨by show(w.cell? _).isSome=true;rw[h.1];rfl,h.2⟩
 have s1:Hid (news.length=(n - j)*k):=lf
 obtain⟨W1,so⟩:∃W1,W1=w.drew.setCells blk (off+i*k) news:=⟨_,rfl⟩
 have hW:Hid (W1=w.drew.setCells blk (off+i*k) news):=so
 have zq:i<=cap:=by omega
 have zr:j<=cap:=by omega
 have eW:∀ty,(Builtin.clear_ #[ρ.t 22] ty #[.slice (some ⟨blk,off+(i+(n - j))*k,none⟩) (n - (i+(n - j))) (cap - (i+(n - j)))]).run P W1=.ok (.tuple #[]) (W1.setCells blk (off+(i+(n - j))*k) Z):=by
  intro ty
  have hT:∀t,t < (Builtin.zeroCells z.cells (n - (i+(n - j)))).toList.length->(w.drew.cell? ⟨blk,off+((i+(n - j))*k+t),none⟩).isSome=true/\w.drew.frozen? ⟨blk,off+((i+(n - j))*k+t),none⟩=false:=by
   intro t ht
   have hl:(Builtin.zeroCells z.cells (n - (i+(n - j)))).toList.length=(n - (i+(n - j)))*k:=by simp[Builtin.zeroCells,hk,Nat.mul_comm]
   rw[hl,Nat.sub_mul]at ht
   have hb:(i+(n - j))*k+t < cs.length:=by rw[aP];omega
   have h:=hH _ _ (zA3 hb)
   exact⟨by show(w.cell? _).isSome=true;rw[h.1];rfl,h.2⟩
  rw[<-hZ,show j - i=n - (i+(n - j)) by omega]
  exact Zhr W1 _ _ ty z t22 L.v23 (hz _) blk _ _ (by omega) (λt ht=>by rw[so];exact World.isSome_setCells _ _ _ _ _ (by rw[Nat.add_assoc];exact(hT t ht).1)) (λt ht=>by rw[so,World.frozen?_setCells,Nat.add_assoc];exact(hT t ht).2)
 have hN:Hid (news=cs.drop (j*k)):=gF
 clear so mJ bG gF lf hZ hz hk
 obtain⟨_,_,FG⟩:=L.f45
 go_enter FG,SlBodyN.n45_ntmps ρ
 go_wp2_with fail
 go_region_law_o (refine step_append_room rfl (.tmp 22) (.tmp 25) (ρ.t 22) rfl (ρ.t 23) i0 k t22 qI sn blk off i cap (by simp[Act.eval,Act.put]) A (n - j) (cap - j) news (by simp[Act.eval,Act.put]) s1.out ua.out s2.out (by omega) s3.out ?_;rw[<-hW.out])
 go_wp2
 go_ret
 refine⟨by rw[show n - (j - i)=i+(n - j) by omega];rfl,?_⟩
 rw[hW.out,hN.out,show n - (j - i)=i+(n - j) by omega]
end Go.Rx
namespace Go.Rx
open Go Go.Eng Go.RowKit Go.Shelf
theorem Zgk(b:Nat):∀(vs:List Value)(o:Nat)(w:World),(w.setCells b o vs).os=w.os/\(w.setCells b o vs).tape=w.tape/\(w.setCells b o vs).output=w.output/\(w.setCells b o vs).heap.size=w.heap.size
 | [],_,_=>⟨rfl,rfl,rfl,rfl⟩
 | v::r,o,w=>by
  obtain⟨h1,h2,h3,h4⟩:=Zgk b r (o+1) (w.setCell ⟨b,o,none⟩ v)
  exact⟨h1,h2,h3,h4.trans (by simp[World.setCell])⟩
theorem Zc5(b:Nat){k:Nat}(hk:k≠b):∀(vs:List Value)(o:Nat)(w:World),(w.setCells b o vs).heap[k]?=w.heap[k]?
 | [],_,_=>rfl
 | v::r,o,w=>by
  rw[World.setCells,Zc5 b hk r (o+1)]
  simp[World.setCell,Array.getElem?_modify,Ne.symm hk]
theorem ZeA(b:Nat):∀(vs:List Value)(o:Nat)(w:World){c:Array Value}{T:TypeId}{fr:Nat×Nat},w.heap[b]?=some (.cells c T fr)->∃c':Array Value,(w.setCells b o vs).heap[b]?=some (.cells c' T fr)/\c'.size=c.size
 | [],_,_,c,_,_,h=>⟨c,h,rfl⟩
 | v::r,o,w,c,T,fr,h=>by
  have h1:(w.setCell ⟨b,o,none⟩ v).heap[b]?=some (.cells (c.setIfInBounds o v) T fr):=by
   simp[World.setCell,Array.getElem?_modify,h]
  obtain⟨c',h2,h3⟩:=ZeA b r (o+1) (w.setCell ⟨b,o,none⟩ v) h1
  exact⟨c',h2,by rw[h3];simp⟩
theorem Zhs(b o:Nat)(vs:List Value)(w:World){c:Array Value}{T:TypeId}{fr:Nat×Nat}(h:w.heap[b]?=some (.cells c T fr)):Upd (λk=>k=b) w (w.setCells b o vs):=by
 obtain⟨h1,h2,h3,h4⟩:=Zgk b vs o w
 refine⟨h1,h2,h3,by omega,λk _ hk=>Zc5 b hk vs o w,λk hk hw=>?_⟩
 by_cases e:k=b
 ·subst e
  obtain⟨c',h5,h6⟩:=ZeA k vs o w h
  intro c2 T2 fr2 hh q hq
  rw[h5]at hh
  simp only[Option.some.injEq,Obj.cells.injEq]at hh
  obtain⟨rfl,rfl,rfl⟩:=hh
  exact hw c T fr h q (by omega)
 ·exact hw.of_eq (Zc5 b e vs o w)
theorem Upd.tr{M:Nat->Prop}{a b c:World}(h:Upd M a b)(k:Upd M b c):Upd M a c:=
 ⟨k.os.trans h.os,k.tape.trans h.tape,k.output.trans h.output,Nat.le_trans h.size k.size,λq hq hm=>(k.block q (Nat.lt_of_lt_of_le hq h.size) hm).trans (h.block q hq hm),λq hq hw=>k.wr q (Nat.lt_of_lt_of_le hq h.size) (h.wr q hq hw)⟩
theorem Zmp{α:Type}{cs:α->List Value}{n:Nat}(hn:∀x,(cs x).length=n):∀(l:List α)(i:Nat),((l.eraseIdx i).map cs).flatten=(l.map cs).flatten.take (i*n)++(l.map cs).flatten.drop ((i+1)*n)
 | [],_=>by simp
 | x::l,0=>by
  simp only[List.eraseIdx_zero,List.tail_cons,List.map_cons,List.flatten_cons,Nat.zero_mul,List.take_zero,List.nil_append,Nat.zero_add,Nat.one_mul]
  rw[<-hn x,List.drop_left]
 | x::l,i+1=>by
  have e1:(i+1)*n=(cs x).length+i*n:=by rw[hn,Nat.succ_mul];omega
  have e2:(i+1+1)*n=(cs x).length+(i+1)*n:=by rw[hn,Nat.succ_mul (i+1)];omega
  simp only[List.eraseIdx_cons_succ,List.map_cons,List.flatten_cons]
  have e3:((cs x)++(l.map cs).flatten).take ((i+1)*n)=cs x++(l.map cs).flatten.take (i*n):=by rw[e1,List.take_length_add_append]
  have e4:((cs x)++(l.map cs).flatten).drop ((i+1+1)*n)=(l.map cs).flatten.drop ((i+1)*n):=by rw[e2,List.drop_length_add_append]
  rw[Zmp hn l i,e3,e4,List.append_assoc]
theorem ZuT{P:Program}{ρ:Ren}{k:Nat}{z:Value}(L:DelLay P ρ k z)(i0:TypeInfo)(qI:P.info? (ρ.t 23)=some i0)(sn:i0.size=k)(hk:z.cells.size=k)(lh:ZeK P (ρ.f 45))(h0:0 < k)
  (tV:(Builtin.zeroCells z.cells 1).toList=z.cells.toList) (xD:∀m,∀u∈(Builtin.zeroCells z.cells m).toList,u.oneCell'=true)
  {α:Type} {cs:α->List Value} (hn:∀x,(cs x).length=k) (h1:∀x,∀u∈cs x,u.oneCell'=true) (l:List α) (b c i:Nat) (T:TypeId) (cap:Nat) (m:Mem) (hi:i < l.length) (hc:l.length<=c) (hm:l.length<=9223372036854775807):
  CX P (ρ.f 45) #[.slice (some ⟨b,0,none⟩) l.length c,.int .i64 i,.int .i64 (i+1:Nat)] m [⟨b,(l.map cs).flatten,T,cap,false,false⟩] (λv m' css=>v=.slice (some ⟨b,0,none⟩) (l.length - 1) c/\css=[((l.eraseIdx i).map cs).flatten++z.cells.toList]):=by
 refine⟨lh,λw hs hX _=>?_⟩
 obtain⟨eC,_⟩:=hX _ (List.mem_singleton.2 rfl)
 have ik:=eC.wr
 have aP:(l.map cs).flatten.length=l.length*k:=ZaH hn l
 have gQ:0 < l.length*k:=Nat.mul_pos (by omega) h0
 obtain⟨sp,fr,xE,ub,uc⟩:=eC.cells
 obtain⟨cur,iF⟩:∃cur,cur=((l.map cs).flatten++sp).toArray:=⟨_,rfl⟩
 have hh:w.heap[b]?=some (.cells cur T fr):=by rw[iF];exact xE
 have bM:∀(q:Nat)(u:Value),(l.map cs).flatten[q]?=some u->w.cell? ⟨b,q,none⟩=some u:=λq u hu=>eC.cell hu
 have aH:∀q,q < l.length*k->q < cur.size:=λq hq=>by
  have:=bM q _ (zA3 (by omega))
  simp only[World.cell?,hh,Option.isSome_none,Bool.false_eq_true,if_false]at this
  exact(Array.getElem?_eq_some_iff.1 this).1
 have hH:∀(q:Nat)(u:Value),(l.map cs).flatten[q]?=some u->w.cell? ⟨b,0+q,none⟩=some u/\w.frozen? ⟨b,0+q,none⟩=false:=λq u hu=>by
  rw[Nat.zero_add]
  refine⟨bM q u hu,?_⟩
  have hq:=(zA0 hu).1
  have h2:=ik cur T fr hh q (aH q (by omega))
  obtain⟨f1,f2⟩:=fr
  simp only[World.frozen?,hh,Bool.and_eq_false_iff,decide_eq_false_iff_not]
  simp only at h2
  omega
 have h1':∀u∈(l.map cs).flatten,u.oneCell'=true:=λu hu=>by
  simp only[List.mem_flatten,List.mem_map]at hu
  obtain⟨_,⟨x,_,rfl⟩,hu⟩:=hu
  exact h1 x u hu
 refine(Zm6 L i0 qI sn hk b 0 l.length c i (i+1) (l.map cs).flatten w aP hH h1' xD hc hm (by omega) (by omega)).mono ?_
 rintro e w' ⟨rfl,rfl⟩
 rw[show i+1 - i=1 by omega,Nat.zero_add,Nat.zero_add,tV]
 obtain⟨news,gF⟩:∃news,news=(l.map cs).flatten.drop ((i+1)*k):=⟨_,rfl⟩
 rw[<-gF]
 have jU:(i+1)*k<=l.length*k:=Nat.mul_le_mul_right _ (by omega)
 have xF:(i+1)*k=i*k+k:=Nat.succ_mul i k
 have lf:news.length=l.length*k - (i+1)*k:=by rw[gF,List.length_drop,aP]
 have iP:(l.length - 1)*k+k=l.length*k:=by
  have:l.length=l.length - 1+1:=by omega
  rw[this,Nat.succ_mul];rfl
 have vS:w.drew.heap[b]?=some (.cells cur T fr):=hh
 obtain⟨c1,g1,g2⟩:=ZeA b news (i*k) w.drew vS
 obtain⟨c2,g3,g4⟩:=ZeA b z.cells.toList ((l.length - 1)*k) (w.drew.setCells b (i*k) news) g1
 have md:Upd (λq=>q=b) w w.drew:=⟨rfl,rfl,rfl,Nat.le_refl _,λ_ _ _=>rfl,λ_ _ h=>h⟩
 have hU:=Upd.tr (Upd.tr md (Zhs b (i*k) news w.drew vS)) (Zhs b ((l.length - 1)*k) z.cells.toList _ g1)
 have ji:z.cells.toList.length=k:=by simpa using hk
 have eU:(((l.eraseIdx i).map cs).flatten++z.cells.toList).length=l.length*k:=by
  rw[zA1,ji,ZaH hn,List.length_eraseIdx,if_pos hi];exact iP
 have some1:∀q,q < cur.size->(w.drew.cell? ⟨b,q,none⟩).isSome=true:=λq hq=>by
  show(w.cell? ⟨b,q,none⟩).isSome=true
  simp[World.cell?,hh,hq]
 have some2:∀q,q < cur.size->((w.drew.setCells b (i*k) news).cell? ⟨b,q,none⟩).isSome=true:=λq hq=>by
  simp[World.cell?,g1,g2,hq]
 have at_:∀q,((w.drew.setCells b (i*k) news).setCells b ((l.length - 1)*k) z.cells.toList).cell? ⟨b,q,none⟩=if q < l.length*k then(((l.eraseIdx i).map cs).flatten++z.cells.toList)[q]? else w.cell? ⟨b,q,none⟩:=λq=>by
  have vT:((l.eraseIdx i).map cs).flatten.length=(l.length - 1)*k:=by rw[ZaH hn,List.length_eraseIdx,if_pos hi]
  by_cases hq:q < l.length*k
  ·rw[if_pos hq]
   by_cases ng:(l.length - 1)*k<=q
   ·have:=World.cell?_setCells_in b z.cells.toList ((l.length - 1)*k) (w.drew.setCells b (i*k) news) (λj hj=>some2 _ (aH _ (by omega))) (q - (l.length - 1)*k) (by omega)
    rw[show(l.length - 1)*k+(q - (l.length - 1)*k)=q by omega]at this
    rw[this,zA4 (by omega),vT]
    exact(zA3 _).symm
   ·rw[World.cell?_setCells_out b _ _ _ _ (λ_ _=>.inl (by show q < _;omega)),zA5 (by omega),Zmp hn]
    by_cases sX:i*k<=q
    ·have:=World.cell?_setCells_in b news (i*k) w.drew (λj hj=>some1 _ (aH _ (by omega))) (q - i*k) (by omega)
     rw[show i*k+(q - i*k)=q by omega]at this
     have kK:((l.map cs).flatten.take (i*k)).length=i*k:=by rw[List.length_take,aP];omega
     rw[this,zA4 (by omega),kK,<-gF]
     exact(zA3 _).symm
    ·have kK:((l.map cs).flatten.take (i*k)).length=i*k:=by rw[List.length_take,aP];omega
     rw[World.cell?_setCells_out b _ _ _ _ (λ_ _=>.inl (by show q < _;omega)),zA5 (by omega),List.getElem?_take_of_lt (by omega)]
     have qh:q < (l.map cs).flatten.length:=by omega
     rw[zA3 qh]
     exact bM q _ (zA3 qh)
  ·rw[if_neg hq,World.cell?_setCells_out b _ _ _ _ (λ_ _=>.inr (by show _<=q;omega)),World.cell?_setCells_out b _ _ _ _ (λ_ _=>.inr (by show _<=q;omega))]
   rfl
 obtain⟨full,vU⟩:∃full,full=((l.eraseIdx i).map cs).flatten++z.cells.toList:=⟨_,rfl⟩
 rw[<-vU]at eU ⊢
 rw[<-vU]at at_
 have jI:((l.map cs).flatten++sp).length=l.length*k+sp.length:=by rw[zA1,aP]
 have ud:c2=(full++sp).toArray:=by
  refine Array.ext' (List.ext_getElem? λq=>?_)
  have h5:=at_ q
  simp only[World.cell?,g3,hh,Option.isSome_none,Bool.false_eq_true,if_false]at h5
  rw[Array.getElem?_toList,h5]
  by_cases hq:q < l.length*k
  ·rw[if_pos hq,zA5 (by rw[eU];exact hq)]
  ·rw[if_neg hq,zA4 (by rw[eU];omega),eU,iF]
   simp only[List.getElem?_toArray]
   rw[zA4 (by rw[aP];omega),aP]
 have hb:∀q,q≠b->((w.drew.setCells b (i*k) news).setCells b ((l.length - 1)*k) z.cells.toList).heap[q]?=w.heap[q]?:=λq hq=>(Zc5 b hq _ _ _).trans (Zc5 b hq _ _ w.drew)
 refine⟨_,m,[full],rfl,Mem.le_refl m,⟨λb1 o1 v hv=>?_,λb1 e he=>?_⟩,NewM.refl _ _,⟨hU.os,hU.tape,hU.output,hU.size,λq _ hn=>hb q (by simpa using hn),hU.wr⟩,rfl,λi' x cs' hx cF=>?_,rfl,rfl⟩
 ·have dA:b1≠b:=λe=>by
   subst e
   rw[eC.free rfl o1]at hv;cases hv
  rw[<-hs _ _ _ hv]
  exact Zb6 (hb b1 dA) o1
 ·have:=hs.k b1 e he
  have dA:b1≠b:=λe=>by
   subst e
   obtain⟨es,cl,h8,_⟩:=this
   rw[hh]at h8;cases h8
  exact this.same (hb b1 dA)
 ·cases i' with
  | succ n=>simp at hx
  | zero=>
   simp at hx cF
   subst hx cF
   refine⟨⟨sp,fr,by rw[<-ud];exact g3,?_,?_⟩,λ_=>eC.free rfl,λh=>(by cases h),λh=>(by cases h)⟩
   ·have cL:((l.map cs).flatten++sp).length=cap:=ub
    show(full++sp).length=cap
    rw[<-cL,jI,zA1,eU]
   ·exact uc
end Go.Rx
namespace Go.Rx
open Go Go.Eng
set_option maxRecDepth 100000
def ZyS:T:=.node 2 0 72057594037927936 0 0 0 0 none 0 []
def ZA0:T:=.node 2 0 144115188075855872 0 0 0 0 none 0 []
def rxT(a1 a2:Option Addr):T:=.node 3 0 0 0 0 0 0 a2 2 [.node 6 0 0 0 0 0 0 a1 1 [ZyS],ZA0]
def Zwt(n:Int):Pt:=⟨3,⟨#[]⟩,n,E0⟩
def ZnY(pa:Option Addr)(pc:Nat)(l:List Int):Ac:=⟨1,⟨#[]⟩,pa,pc,l.map Zwt,E0⟩
def ZrI:Ac:=⟨3,⟨#[110]⟩,none,0,[],.node 9 0 ⟨#[109]⟩ 0 none 0 []⟩
def ZyW(pa:Option Addr):Ac:=⟨2,⟨#[110]⟩,pa,1,[⟨1,⟨#[120]⟩,0,E0⟩],E0⟩
def ru0(k:Int):Ru:=⟨k,false,false,T0,⟨#[]⟩,0,none,0,[],⟨#[]⟩,0⟩
def ZA1(a1 a2 aa pa:Option Addr)(ac pc:Nat)(l:List Int):Ru:=⟨1,false,false,rxT a1 a2,⟨#[]⟩,0,aa,ac,[ZnY pa pc l],⟨#[97]⟩,0⟩
def ZC5(aa pa:Option Addr)(ac pc:Nat)(l:List Int):Ru:=⟨2,false,false,T0,⟨#[97,98]⟩,0,aa,ac,[ZnY pa pc l],⟨#[]⟩,256⟩
def ZvO(aa:Option Addr)(ac:Nat)(a:Ac):Ru:=⟨3,false,false,T0,⟨#[]⟩,0,aa,ac,[a],⟨#[]⟩,0⟩
def ZiH:List Va:=[⟨⟨#[110]⟩,true,⟨#[]⟩,0⟩,⟨⟨#[116]⟩,false,⟨#[]⟩,0⟩]
def Zht(va sa ra:Option Addr)(r:Ru):Sc:=⟨9,va,2,ZiH,sa,1,[⟨⟨#[97]⟩,ra,1,[r]⟩]⟩
def ZC6(va sa ra:Option Addr)(sc:Nat):Sc:=⟨9,va,2,ZiH,sa,sc,[⟨⟨#[97]⟩,ra,1,[ru0 3]⟩,⟨⟨#[97]⟩,none,0,[]⟩]⟩
def ZqW(n:Int):Sc:=⟨n,none,0,[],none,0,[]⟩
theorem ex1(va sa ra a1 a2 aa pa:Option Addr)(ac pc:Nat):(Zht va sa ra (ZA1 a1 a2 aa pa ac pc [1,2])).check=(⟨-1,0,0,0,1⟩,309):=by kernel_rfl
theorem ex2(va sa ra a1 a2 aa pa:Option Addr)(ac pc:Nat):(Zht va sa ra (ZA1 a1 a2 aa pa ac pc [1,0])).check=(⟨-1,-1,-1,-1,-1⟩,0):=by kernel_rfl
theorem ex3(va sa ra aa pa:Option Addr)(ac pc:Nat):(Zht va sa ra (ZC5 aa pa ac pc [0])).check=(⟨-1,0,0,-1,-1⟩,306):=by kernel_rfl
theorem ex4(va sa ra:Option Addr):(Zht va sa ra (ru0 4)).check=(⟨-1,0,0,-1,-1⟩,304):=by kernel_rfl
theorem ex5(va sa ra aa:Option Addr)(ac:Nat):(Zht va sa ra (ZvO aa ac ZrI)).check=(⟨-1,0,0,0,-1⟩,308):=by kernel_rfl
theorem ex6(va sa ra aa pa:Option Addr)(ac:Nat):(Zht va sa ra (ZvO aa ac (ZyW pa))).check=(⟨-1,0,0,0,-1⟩,308):=by kernel_rfl
theorem ex7(va sa ra:Option Addr)(sc:Nat):(ZC6 va sa ra sc).check=(⟨-1,1,-1,-1,-1⟩,303):=by kernel_rfl
theorem ex8:(ZqW 9).check=(⟨-1,-1,-1,-1,-1⟩,302):=by kernel_rfl
theorem ex9:(ZqW 1).check=(⟨-1,-1,-1,-1,-1⟩,300):=by kernel_rfl
theorem ZEl(va sa ra aa pa:Option Addr)(ac pc:Nat):(Zht va sa ra (ZvO aa ac (ZnY pa pc [0]))).check=(⟨-1,0,0,0,0⟩,309):=by kernel_rfl
end Go.Rx
namespace Go.Rx
open Go Go.Eng Go.RowKit
end Go.Rx
namespace Go.Rx
open Go Go.Eng
def ZyT(out:List ByteArray)(n:ByteArray):List ByteArray:=if out.any (λy=>eqS n y)then out else out++[n]
def ZxA(out:List ByteArray)(p:Pt):List ByteArray:=if p.k=2 then ZyT out p.s else if p.k=4 then p.e.vars.foldl ZyT out else out
def ZAb(out:List ByteArray)(a:Ac):List ByteArray:=if a.k=3 then a.e.vars.foldl ZyT out else out
def ZBt(w:Bool)(out:List ByteArray)(a:Ac):List ByteArray:=if w then(if a.k=2\/a.k=3 then ZyT out a.s else out)else a.parts.foldl ZxA (ZAb out a)
def ZAc(w:Bool)(r:Ru):List ByteArray:=if Zm4 r then r.acts.foldl (ZBt w) []else[]
def ZDV(l:List ByteArray)(x:ByteArray):Bool:=l.any (λy=>eqS x y)
theorem Zwu{a b:ByteArray}:eqS a b=true↔a.toList=b.toList:=by unfold eqS;exact beq_iff_eq
theorem ZxB{l:List ByteArray}{x:ByteArray}:ZDV l x=true↔∃y∈l,x.toList=y.toList:=by
 unfold ZDV;rw[List.any_eq_true]
 exact⟨λ⟨y,h1,h2⟩=>⟨y,h1,Zwu.1 h2⟩,λ⟨y,h1,h2⟩=>⟨y,h1,Zwu.2 h2⟩⟩
theorem ZxC{out:List ByteArray}{n z:ByteArray}(h:z∈ZyT out n):z∈out\/z=n:=by
 unfold ZyT at h
 split at h
 ·exact .inl h
 ·simpa using h
theorem Zti{z:ByteArray}:∀l out:List ByteArray,z∈l.foldl ZyT out->z∈out\/z∈l
 | [],out,h=>.inl h
 | n::l,out,h=>by
  rcases Zti l _ h with h|h
  ·rcases ZxC h with h|rfl
   ·exact .inl h
   ·exact .inr (by simp)
  ·exact .inr (by simp[h])
abbrev Apart(l:List ByteArray):Prop:=l.Pairwise λx y=>eqS y x=false
theorem ZkK{α β γ:Type}(f:α->List β)(h:γ->β->γ){g:γ->α->γ}(hg:∀o x,g o x=(f x).foldl h o):∀(l:List α)(o:γ),l.foldl g o=((l.map f).flatten).foldl h o
 | [],o=>rfl
 | x::l,o=>by rw[List.foldl_cons,ZkK f h hg l,hg,List.map_cons,List.flatten_cons,List.foldl_append]
def nmP(p:Pt):List ByteArray:=if p.k=2 then[p.s]else if p.k=4 then p.e.vars else[]
def nmA(w:Bool)(a:Ac):List ByteArray:=if w then(if a.k=2\/a.k=3 then[a.s]else[])else(if a.k=3 then a.e.vars else[])++(a.parts.map nmP).flatten
theorem ZuU(o:List ByteArray)(p:Pt):ZxA o p=(nmP p).foldl ZyT o:=by
 unfold ZxA nmP
 split
 ·rfl
 ·split <;> rfl
theorem ZxD(w:Bool)(o:List ByteArray)(a:Ac):ZBt w o a=(nmA w a).foldl ZyT o:=by
 unfold ZBt nmA ZAb
 cases w with
 | true=>simp only[if_true];split <;> rfl
 | false=>
  simp only[Bool.false_eq_true,if_false]
  rw[List.foldl_append,ZkK nmP ZyT ZuU]
  split <;> rfl
theorem ZxE(w:Bool){r:Ru}(h:Zm4 r=true):ZAc w r=((r.acts.map (nmA w)).flatten).foldl ZyT []:=by
 unfold ZAc;rw[if_pos h];exact ZkK (nmA w) ZyT (ZxD w) _ _
theorem MkP.names{c:Int}{p:Pt}(h:MkP c p):∀z∈nmP p,z∈Zhn++ZdP:=by
 intro z hz
 cases h with
 | lit s h=>simp[nmP]at hz
 | var s h=>
  simp[nmP]at hz;subst hz
  exact List.mem_append.2 h
 | cap g h=>simp[nmP]at hz
 | clc e h=>exact List.mem_append_left _ (h.vars z (by simpa[nmP]using hz))
theorem MkA.names{c:Int}{a:Ac}(h:MkA c a)(w:Bool):∀z∈nmA w a,z∈Zhn++ZdP:=by
 intro z hz
 have go:∀{l:List Pt},MkT c l->z∈(l.map nmP).flatten->z∈Zhn++ZdP:=λ{l} h hz=>by
  simp only[List.mem_flatten,List.mem_map]at hz
  obtain⟨_,⟨p,hp,rfl⟩,hz⟩:=hz
  exact(h.all p hp).names z hz
 cases h with
 | send a n l h=>
  cases w with
  | true=>simp[nmA]at hz
  | false=>exact go h (by simpa[nmA]using hz)
 | set s hs a n l h=>
  cases w with
  | true=>simp[nmA]at hz;subst hz;exact List.mem_append_right _ hs
  | false=>exact go h (by simpa[nmA]using hz)
 | let_ s hs e h=>
  cases w with
  | true=>simp[nmA]at hz;subst hz;exact List.mem_append_left _ hs
  | false=>exact List.mem_append_left _ (h.vars z (by simpa[nmA]using hz))
theorem MkR.light{n:Nat}{r:Ru}(h:MkR n r):Zm4 r=true:=decide_eq_true (by have:=h.w;omega)
theorem MkR.names{n:Nat}{r:Ru}(h:MkR n r)(w:Bool):∀z∈ZAc w r,z∈Zhn++ZdP:=by
 intro z hz
 rw[ZxE w h.light]at hz
 rcases Zti _ _ hz with hz|hz
 ·cases hz
 ·simp only[List.mem_flatten,List.mem_map]at hz
  obtain⟨_,⟨a,ha,rfl⟩,hz⟩:=hz
  exact(h.all a ha).names w z hz
theorem MkR.has{n:Nat}{r:Ru}(h:MkR n r)(w:Bool){z:ByteArray}(hz:z∈ZAc w r):ZDV (Zhn++ZdP) z=true:=ZxB.2 ⟨z,h.names w z hz,rfl⟩
end Go.Rx
namespace Go.Rx
open Go Go.Eng
set_option maxRecDepth 100000
section
variable (g r c v l s p a r1 r2 S:Option Addr)
end
end Go.Rx
namespace Go.Rx
open Go Go.Eng Go.RowKit
def ZxF(i j i' k':Nat):Prop:=i' < i\/(i'=i/\k' < j)
def ent(x:Sta)(i k:Nat):Dd×Dd:=(((i:Int),((ZvM x k:Nat):Int)),((i:Int),(k:Int)))
structure Vis (s:Sc)(Z:List (Dd×Dd))(i j:Nat):Prop where
 src:∀q∈Z,∃(i' k':Nat)(x:Sta)(r:Ru),q=ent x i' k'/\s.states[i']?=some x/\x.rules[k']?=some r/\kp r=true/\ZxF i j i' k'
 all:∀(i' k':Nat)(x:Sta)(r:Ru),s.states[i']?=some x->x.rules[k']?=some r->kp r=true->ZxF i j i' k'->ent x i' k'∈Z
 nodup:(Z.map (·.1)).Nodup
theorem Vis.nil(s:Sc):Vis s [] 0 0:=⟨(λq h=>by cases h),(λi' k' x r _ _ _ h=>by unfold ZxF at h;omega),by simp⟩
theorem Vis.skip{s:Sc}{Z:List (Dd×Dd)}{i j:Nat}(h:Vis s Z i j){x:Sta}{r:Ru}(hx:s.states[i]?=some x)(hr:x.rules[j]?=some r)(hk:kp r=false):Vis s Z i (j+1):=by
 refine⟨λq hq=>?_,λi' k' x' r' h1 h2 h3 h4=>?_,h.nodup⟩
 ·obtain⟨i',k',x',r',e,h1,h2,h3,h4⟩:=h.src q hq
  exact⟨i',k',x',r',e,h1,h2,h3,by unfold ZxF at h4 ⊢;omega⟩
 ·refine h.all i' k' x' r' h1 h2 h3 ?_
  by_cases e:i'=i/\k'=j
  ·obtain⟨rfl,rfl⟩:=e
   rw[hx]at h1;cases h1
   rw[hr]at h2;cases h2
   rw[hk]at h3;cases h3
  ·unfold ZxF at h4 ⊢;omega
theorem Vis.put{s:Sc}{Z:List (Dd×Dd)}{i j:Nat}(h:Vis s Z i j){x:Sta}{r:Ru}(hx:s.states[i]?=some x)(hr:x.rules[j]?=some r)(hk:kp r=true):(ent x i j).1 ∉ Z.map (·.1)/\Vis s (Z++[ent x i j]) i (j+1):=by
 have iM:(ent x i j).1 ∉ Z.map (·.1):=by
  intro eG
  obtain⟨q,hq,he⟩:=List.mem_map.1 eG
  obtain⟨i',k',x',r',rfl,h1,h2,h3,h4⟩:=h.src q hq
  obtain⟨e1,e2⟩:(i':Int)=i/\((ZvM x' k':Nat):Int)=(ZvM x j:Nat):=by simpa[ent]using he
  obtain rfl:i'=i:=by omega
  rw[hx]at h1;cases h1
  have:=Zxp h2 hr h3 hk (by omega)
  unfold ZxF at h4;omega
 refine⟨iM,⟨λq hq=>?_,λi' k' x' r' h1 h2 h3 h4=>?_,?_⟩⟩
 ·rcases List.mem_append.1 hq with hq|hq
  ·obtain⟨i',k',x',r',e,h1,h2,h3,h4⟩:=h.src q hq
   exact⟨i',k',x',r',e,h1,h2,h3,by unfold ZxF at h4 ⊢;omega⟩
  ·rw[List.mem_singleton]at hq;subst hq
   exact⟨i,j,x,r,rfl,hx,hr,hk,by unfold ZxF;omega⟩
 ·by_cases e:i'=i/\k'=j
  ·obtain⟨rfl,rfl⟩:=e
   rw[hx]at h1;cases h1
   exact List.mem_append_right _ (by simp)
  ·exact List.mem_append_left _ (h.all i' k' x' r' h1 h2 h3 (by unfold ZxF at h4 ⊢;omega))
 ·rw[List.map_append,List.nodup_append]
  refine⟨h.nodup,by simp,λa ha b hb e=>?_⟩
  have hb:b∈[(ent x i j).1]:=hb
  rw[List.mem_singleton]at hb
  subst hb;subst e
  exact iM ha
theorem Vis.next{s:Sc}{Z:List (Dd×Dd)}{i:Nat}{x:Sta}(hx:s.states[i]?=some x)(h:Vis s Z i x.rules.length):Vis s Z (i+1) 0:=by
 refine⟨λq hq=>?_,λi' k' x' r' h1 h2 h3 h4=>h.all i' k' x' r' h1 h2 h3 ?_,h.nodup⟩
 ·obtain⟨i',k',x',r',e,h1,h2,h3,h4⟩:=h.src q hq
  exact⟨i',k',x',r',e,h1,h2,h3,by unfold ZxF at h4 ⊢;omega⟩
 ·by_cases e:i'=i
  ·subst e
   rw[hx]at h1;cases h1
   have:=(zA0 h2).1
   unfold ZxF;omega
  ·unfold ZxF at h4 ⊢;omega
theorem Vis.get{s:Sc}{Z:List (Dd×Dd)}(h:Vis s Z s.states.length 0){d:Dd}(hd:d∈ZzL s):(phi s d,d)∈Z:=by
 obtain⟨i,k,x,r,rfl,h1,h2,h3,h4⟩:=ZzO hd
 rw[h4]
 exact h.all i k x r h1 h2 h3 (by have:=(zA0 h1).1;unfold ZxF;omega)
theorem ZAd{s k t:Sc}(h1:k.n=s.n)(h2:k.vars=s.vars)(tn:t.n=s.n)(tv:t.vars=s.vars){L:List Nat}(h:k.states.map (λx=>some x.er)=L.map (λi=>(s.states[i]?).map Sta.er))(ht:L.map (λi=>(s.states[i]?).map Sta.er)=t.states.map (λx=>some x.er)):k.er=t.er:=by
 refine Ziy (h1.trans tn.symm) (h2.trans tv.symm) ?_
 rw[ht]at h
 have:=congrArg (List.map λo:Option Sta=>o.getD ⟨.empty,none,0,[]⟩) h
 rw[List.map_map,List.map_map]at this
 exact this
end Go.Rx