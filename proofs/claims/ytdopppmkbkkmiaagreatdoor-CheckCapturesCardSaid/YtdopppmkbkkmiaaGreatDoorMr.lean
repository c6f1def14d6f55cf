/- Trees of regexes, what they mean, and xy they lie in memory; plain, no program is named. No condition. -/
import Derived.Test.YtdopppmkbkkmiaaGreatDoorMc
import Derived.Lib.SliceRun
import Derived.Shelf.SlicesE.Delete
import Derived.Deep.MidRow
import Derived.Test.YtdopppmkbkkmiaaGreatDoorMb
import Derived.Sort.Grow
import Derived.Lib.SlicesCompact
import Derived.KernelRfl
set_option linter.unusedVariables false
set_option linter.unusedSimpArgs false
set_option linter.unusedSectionVars false
namespace Go.Rx
open Go Go.Eng
inductive T where
 | node (k s0 s1 s2 s3 mn mx:Int) (a:Option Addr) (c:Nat) (subs:List T)
def T.k:T->Int
 | .node k _ _ _ _ _ _ _ _ _=>k
def T.s0:T->Int
 | .node _ s _ _ _ _ _ _ _ _=>s
def T.s1:T->Int
 | .node _ _ s _ _ _ _ _ _ _=>s
def T.s2:T->Int
 | .node _ _ _ s _ _ _ _ _ _=>s
def T.s3:T->Int
 | .node _ _ _ _ s _ _ _ _ _=>s
def T.mn:T->Int
 | .node _ _ _ _ _ x _ _ _ _=>x
def T.mx:T->Int
 | .node _ _ _ _ _ _ x _ _ _=>x
def T.a:T->Option Addr
 | .node _ _ _ _ _ _ _ a _ _=>a
def T.c:T->Nat
 | .node _ _ _ _ _ _ _ _ c _=>c
def T.subs:T->List T
 | .node _ _ _ _ _ _ _ _ _ l=>l
def T.sl(t:T):Value:=.slice t.a t.subs.length t.c
def T.cs(t:T):List Value:=[.int .u8 t.k,.int .u64 t.s0,.int .u64 t.s1,.int .u64 t.s2,.int .u64 t.s3,.int .i64 t.mn,.int .i64 t.mx,t.sl]
def T.v(t:T):Value:=.agg #[.int .u8 t.k,.int .u64 t.s0,.int .u64 t.s1,.int .u64 t.s2,.int .u64 t.s3,.int .i64 t.mn,.int .i64 t.mx,.slice t.a t.subs.length t.c]
structure OkN (k s0 s1 s2 s3 mn mx:Int):Prop where
 k:0<=k/\k < 256
 s0:0<=s0/\s0 < 18446744073709551616
 s1:0<=s1/\s1 < 18446744073709551616
 s2:0<=s2/\s2 < 18446744073709551616
 s3:0<=s3/\s3 < 18446744073709551616
 mn : -9223372036854775808<=mn/\mn<=9223372036854775807
 mx : -9223372036854775808<=mx/\mx<=9223372036854775807
mutual
def Rep(m:Mem):T->Prop
 | .node k s0 s1 s2 s3 mn mx a _ l=>l.length<=1000000000000000/\(l=[]\/∃b o,a=some ⟨b,o,none⟩/\RepAt m b o l)/\OkN k s0 s1 s2 s3 mn mx
def RepAt(m:Mem)(b:Nat):Nat->List T->Prop
 | _,[]=>True
 | o,t::l=>m.reads b o t.cs/\Rep m t/\RepAt m b (o+8) l
end
theorem Zjb{m:Mem}{t:T}:Rep m t->(t.subs.length<=1000000000000000/\(t.subs=[]\/∃b o,t.a=some ⟨b,o,none⟩/\RepAt m b o t.subs)):=by
 cases t;simp only[Rep,T.subs,T.a];exact λh=>⟨h.1,h.2.1⟩
theorem Zzb{m:Mem}{t:T}:Rep m t->OkN t.k t.s0 t.s1 t.s2 t.s3 t.mn t.mx:=by
 cases t;simp only[Rep];exact λh=>h.2.2
theorem Zzc{m:Mem}{t:T}(h1:t.subs.length<=1000000000000000)(h2:t.subs=[]\/∃b o,t.a=some ⟨b,o,none⟩/\RepAt m b o t.subs)(h3:OkN t.k t.s0 t.s1 t.s2 t.s3 t.mn t.mx):Rep m t:=by
 cases t;simp only[Rep];exact⟨h1,h2,h3⟩
mutual
theorem Rep.mono{m m':Mem}(h:m.le m'):∀t:T,Rep m t->Rep m' t
 | .node _ _ _ _ _ _ _ a _ l,hr=>by
  simp only[Rep]at *
  refine⟨hr.1,?_,hr.2.2⟩
  rcases hr.2.1 with hr|⟨b,o,h1,h2⟩
  ·exact .inl hr
  ·exact .inr ⟨b,o,h1,RepAt.mono h b o l h2⟩
theorem RepAt.mono{m m':Mem}(h:m.le m')(b:Nat):∀(o:Nat)(l:List T),RepAt m b o l->RepAt m' b o l
 | _,[],_=>by simp only[RepAt]
 | o,t::l,hr=>by
  simp only[RepAt]at *
  exact⟨hr.1.mono h,Rep.mono h t hr.2.1,RepAt.mono h b (o+8) l hr.2.2⟩
end
theorem RepAt.get{m:Mem}{b:Nat}:∀{o:Nat} {l:List T} {i:Nat} {t:T},RepAt m b o l->l[i]?=some t->m.reads b (o+i*8) t.cs/\Rep m t
 | o,[],i,t,_,hi=>by simp at hi
 | o,x::l,0,t,h,hi=>by
  simp only[RepAt]at h
  simp at hi;subst hi
  exact⟨by simpa using h.1,h.2.1⟩
 | o,x::l,i+1,t,h,hi=>by
  simp only[RepAt]at h
  have:=h.2.2.get (i:=i) (by simpa using hi)
  rw[show o+(i+1)*8=o+8+i*8 by omega]
  exact this
mutual
def T.nodes:T->List T
 | .node k s0 s1 s2 s3 mn mx a c l=>.node k s0 s1 s2 s3 mn mx a c l::Zax l
def Zax:List T->List T
 | []=>[]
 | t::l=>t.nodes++Zax l
end
theorem Zcx(t:T):t.nodes=t::Zax t.subs:=by cases t;simp only[T.nodes,T.subs]
theorem Zc4(l r:List T):Zax (l++r)=Zax l++Zax r:=by
 induction l with
 | nil=>simp[Zax]
 | cons t l ih=>simp[Zax,ih,List.append_assoc]
theorem Zob{l:List T}{i:Nat}{t:T}(h:l[i]?=some t):Zax (l.take (i+1))=Zax (l.take i)++t.nodes:=by
 have:l.take (i+1)=l.take i++[t]:=by
  rw[List.take_add_one,h];rfl
 rw[this,Zc4];simp[Zax]
theorem Zdy{l:List T}{i:Nat}{t:T}(h:l[i]?=some t):Zax l=Zax (l.take i)++(t.nodes++Zax (l.drop (i+1))):=by
 have aG:=(zA0 h).1
 have e:l=l.take i++(t::l.drop (i+1)):=by
  have:=List.drop_eq_getElem_cons aG
  rw[(zA0 h).2]at this
  rw[<-this,List.take_append_drop]
 conv=>lhs;rw[e,Zc4]
 simp[Zax]
theorem Zvf{t x z:T}{i q:Nat}(hx:t.subs[i]?=some x)(hz:x.nodes[q]?=some z):t.nodes[1+(Zax (t.subs.take i)).length+q]?=some z:=by
 have hq:=(zA0 hz).1
 rw[Zcx,show 1+(Zax (t.subs.take i)).length+q=((Zax (t.subs.take i)).length+q)+1 by omega,List.getElem?_cons_succ,Zdy hx,zA4 (by omega),zA5 (by omega),show(Zax (List.take i t.subs)).length+q - (Zax (List.take i t.subs)).length=q by omega]
 exact hz
theorem Zqc{t x:T}(h:x∈t.subs):SizeOf.sizeOf x < SizeOf.sizeOf t:=by
 cases t with
 | node k s0 s1 s2 s3 mn mx a c l=>
  have h':x∈l:=h
  have:=List.sizeOf_lt_of_mem h'
  simp only[T.node.sizeOf_spec]
  omega
theorem Zqd(t:T):Shape.fitsL [.agg [.int .u8,.int .u64,.int .u64,.int .u64,.int .u64,.int .i64,.int .i64,.slice]] [t.v]=true:=by
 simp[Shape.fitsL,Shape.fits,T.v]
mutual
theorem Zq9{m:Mem}:∀(t:T),Rep m t->∀x∈t.nodes,Rep m x
 | .node k s0 s1 s2 s3 mn mx a c l,hr,x,hx=>by
  simp only[T.nodes,List.mem_cons]at hx
  rcases hx with rfl|hx
  ·exact hr
  ·simp only[Rep]at hr
   rcases hr.2.1 with h|⟨b,o,_,h⟩
   ·subst h;simp[Zax]at hx
   ·exact Zoc b o l h x hx
theorem Zoc{m:Mem}(b:Nat):∀(o:Nat)(l:List T),RepAt m b o l->∀x∈Zax l,Rep m x
 | _,[],_,x,hx=>by simp[Zax]at hx
 | o,t::l,hr,x,hx=>by
  simp only[RepAt]at hr
  simp only[Zax,List.mem_append]at hx
  rcases hx with hx|hx
  ·exact Zq9 t hr.2.1 x hx
  ·exact Zoc b (o+8) l hr.2.2 x hx
end
theorem ZsL{m:Mem}{t x:T}(h:Rep m t)(hx:x∈t.nodes):Rep m x:=Zq9 t h x hx
def ZjO(least most:Int):Bool:=!(decide (least < 0)||decide (least > 16)||(least == 1&&most == 1))&&(most == -1||(decide (most ≥ 1)&&decide (most<=16)&&decide (most ≥ least)))
def T.has(t:T)(k:Int):Bool:=t.subs.any λx=>x.k == k
def T.light(t:T):Bool:=decide (t.nodes.length<=10000)
def T.setZ(t:T):Bool:=t.s0 == 0&&t.s1 == 0&&t.s2 == 0&&t.s3 == 0
def T.right(t:T):Bool:=
 !(t.k != 2&&!t.setZ||(t.k != 5&&(t.mn != 0||t.mx != 0)||(decide (t.k < 3)&&decide (0 < t.subs.length)))) &&
 (if t.k=1 then true else if t.k=2 then !t.setZ else if t.k=3 then decide (1 < t.subs.length)&&(!t.has 1&&!t.has 3)else if t.k=4 then decide (1 < t.subs.length)&&!t.has 4
  else if t.k=5 then t.subs.length == 1&&(ZjO t.mn t.mx&&!t.has 1)else t.k == 6&&t.subs.length == 1)
def T.clean(t:T):Bool:=t.light&&t.nodes.all T.right
def T.size(t:T):Int:=if t.light then t.nodes.length else 10001
def T.groups(t:T):Int:=if t.light then(t.nodes.countP λx=>x.k == 6:Nat)else 10001
def Zpy(x y:Int):Int:=if y > x then y else x
def Zgx(x y:Int):Int:=if y < x then y else x
def ZwD(k mn mx sum:Int):Int:=Zgx (if k=5 then sum*Zgx (if mx=-1 then Zpy (Zpy mn 0) 1 else Zpy (Zpy mn 0) mx) 10001 else sum) 10001
mutual
def T.pos:T->Int
 | .node k _ _ _ _ mn mx _ _ l=>ZwD k mn mx ((if k=2 then 1 else 0)+ZeG l)
def ZeG:List T->Int
 | []=>0
 | t::l=>t.pos+ZeG l
end
def T.positions(t:T):Int:=if t.light then t.pos else 10001
def T.check(t:T):Int:=if t.clean=false then 80 else if t.size > 120 then 81 else if t.positions > 400 then 82 else if t.groups > 9 then 83 else 0
mutual
def T.same:T->T->Bool
 | .node k s0 s1 s2 s3 mn mx _ _ l,.node k' s0' s1' s2' s3' mn' mx' _ _ l'=>k == k'&&((s0 == s0'&&s1 == s1'&&s2 == s2'&&s3 == s3')&&(mn == mn'&&(mx == mx'&&Zew l l')))
def Zew:List T->List T->Bool
 | [],[]=>true
 | t::l,t'::l'=>t.same t'&&Zew l l'
 | _,_=>false
end
theorem Zxg(t u:T):t.same u=(t.k == u.k&&((t.s0 == u.s0&&t.s1 == u.s1&&t.s2 == u.s2&&t.s3 == u.s3)&&(t.mn == u.mn&&(t.mx == u.mx&&Zew t.subs u.subs)))):=by
 cases t;cases u;simp only[T.same,T.k,T.s0,T.s1,T.s2,T.s3,T.mn,T.mx,T.subs]
theorem Zod:∀{l r:List T},¬l.length=r.length->Zew l r=false
 | [],[],h=>by simp at h
 | [],_::_,_=>by simp[Zew]
 | _::_,[],_=>by simp[Zew]
 | x::l,y::r,h=>by
  simp only[Zew,Zod (l:=l) (r:=r) (by simpa using h),Bool.and_false]
theorem Zra:∀{l r:List T} {i:Nat} {x y:T},l[i]?=some x->r[i]?=some y->x.same y=false->Zew l r=false
 | [],r,i,x,y,h,_,_=>by simp at h
 | _::_,[],i,x,y,_,h,_=>by simp at h
 | a::l,b::r,0,x,y,h,k,e=>by
  simp at h k;subst h k
  simp[Zew,e]
 | a::l,b::r,i+1,x,y,h,k,e=>by
  simp only[Zew,Zra (l:=l) (r:=r) (i:=i) (by simpa using h) (by simpa using k) e,Bool.and_false]
theorem Zlf:∀{l r:List T} {i:Nat} {x y:T},l[i]?=some x->r[i]?=some y->Zew (l.take i) (r.take i)=true->x.same y=true->True->Zew (l.take (i+1)) (r.take (i+1))=true
 | [],r,i,x,y,h,_,_,_,_=>by simp at h
 | _::_,[],i,x,y,_,h,_,_,_=>by simp at h
 | a::l,b::r,0,x,y,h,k,_,e,_=>by
  simp at h k;subst h k
  simp[Zew,e]
 | a::l,b::r,i+1,x,y,h,k,hs,e,_=>by
  simp only[List.take_succ_cons,Zew,zA7]at hs ⊢
  exact⟨hs.1,Zlf (by simpa using h) (by simpa using k) hs.2 e trivial⟩
theorem Zqe(t:T):t.pos=ZwD t.k t.mn t.mx ((if t.k=2 then 1 else 0)+ZeG t.subs):=by
 cases t;simp only[T.pos,T.k,T.mn,T.mx,T.subs];congr 1
theorem Zbc(l r:List T):ZeG (l++r)=ZeG l+ZeG r:=by
 induction l with
 | nil=>simp[ZeG]
 | cons t l ih=>simp[ZeG,ih,Int.add_assoc]
theorem ZsM{l:List T}{i:Nat}{t:T}(h:l[i]?=some t):ZeG (l.take (i+1))=ZeG (l.take i)+t.pos:=by
 have:l.take (i+1)=l.take i++[t]:=by
  rw[List.take_add_one,h];rfl
 rw[this,Zbc];simp[ZeG]
theorem Zrb(x y:Int):x<=Zpy x y/\y<=Zpy x y:=by unfold Zpy;split <;> omega
theorem Zlg(x y:Int):Zgx x y<=x/\Zgx x y<=y:=by unfold Zgx;split <;> omega
theorem Zum{x y:Int}(h:0<=x)(k:0<=y):0<=Zgx x y:=by unfold Zgx;split <;> omega
def Zvg(mn mx:Int):Int:=Zgx (if mx=-1 then Zpy (Zpy mn 0) 1 else Zpy (Zpy mn 0) mx) 10001
theorem Zun(mn mx:Int):0<=Zvg mn mx/\Zvg mn mx<=10001:=by
 unfold Zvg
 refine⟨Zum ?_ (by omega),(Zlg _ _).2⟩
 have h1:=Zrb mn 0
 split
 ·have:=Zrb (Zpy mn 0) 1;omega
 ·have:=Zrb (Zpy mn 0) mx;omega
theorem Zxh{k mn mx sum:Int}(h:0<=sum):0<=ZwD k mn mx sum/\ZwD k mn mx sum<=10001:=by
 have h2:=Int.mul_nonneg h (Zun mn mx).1
 unfold ZwD
 refine⟨Zum ?_ (by omega),(Zlg _ _).2⟩
 split
 ·exact h2
 ·exact h
mutual
theorem Zid:∀t:T,0<=t.pos/\t.pos<=10001
 | .node k _ _ _ _ mn mx _ _ l=>by
  simp only[T.pos]
  have:=ZgZ l
  exact Zxh (by split <;> omega)
theorem ZgZ:∀l:List T,0<=ZeG l
 | []=>by simp[ZeG]
 | t::l=>by
  simp only[ZeG]
  have:=Zid t
  have:=ZgZ l
  omega
end
theorem Zuo:∀l:List T,ZeG l<=10001*l.length
 | []=>by simp[ZeG]
 | t::l=>by
  simp only[ZeG,List.length_cons]
  have:=Zid t
  have:=Zuo l
  omega
theorem Zup(t:T):t.subs.length < t.nodes.length:=by
 rw[Zcx,List.length_cons]
 have:∀l:List T,l.length<=(Zax l).length:=by
  intro l
  induction l with
  | nil=>simp[Zax]
  | cons x l ih=>simp only[Zax,List.length_cons,zA1];rw[Zcx];simp;omega
 have:=this t.subs
 omega
theorem ZsN{t x:T}(h:x∈t.subs):x.nodes.length < t.nodes.length:=by
 obtain⟨i,hi⟩:=List.getElem?_of_mem h
 rw[Zcx t,List.length_cons,Zdy hi]
 simp;omega
def T.hasB(t:T)(c:Nat):Bool:=((if c / 64=0 then t.s0 else if c / 64=1 then t.s1 else if c / 64=2 then t.s2 else t.s3).toNat).testBit (c % 64)
end Go.Rx
namespace Go.Rx
open Go Go.Eng Go.RowKit
theorem ZzM(n:Nat)(h:n < 18446744073709551616):IntKind.u64.wrap (n:Int)=n:=by
 unfold IntKind.wrap
 have e:(2:Int) ^ 64=18446744073709551616:=by decide
 simp only[IntKind.bits,IntKind.signed,Bool.false_and,Bool.false_eq_true,if_false,e]
 omega
theorem ZBf(a:Nat)(h:a < 18446744073709551616):(BitVec.ofInt 64 (a:Int)).toNat=a:=by
 rw[BitVec.toNat_ofInt]
 have e:((2:Nat) ^ 64:Nat)=18446744073709551616:=by decide
 rw[e];omega
theorem Zvh(a b:Nat)(ha:a < 18446744073709551616)(hb:b < 18446744073709551616):IntKind.u64.wrap ((BitVec.ofInt 64 (a:Int)|||BitVec.ofInt 64 (b:Int)).toNat:Int)=((a|||b:Nat):Int):=by
 rw[BitVec.toNat_or,ZBf a ha,ZBf b hb]
 exact ZzM _ (Nat.or_lt_two_pow (n:=64) ha hb)
def Byt(m:Mem)(a:Option Addr)(s:List Nat):Prop:=(s=[]\/∃b o,a=some ⟨b,o,none⟩/\m.reads b o (s.map λc:Nat=>Value.int .u8 c))/\∀c∈s,c < 256
theorem Byt.mono{m m':Mem}{a s}(h:Byt m a s)(hm:m.le m'):Byt m' a s:=by
 refine⟨?_,h.2⟩
 rcases h.1 with h|⟨b,o,h1,h2⟩
 ·exact .inl h
 ·exact .inr ⟨b,o,h1,h2.mono hm⟩
theorem Byt.get{m:Mem}{a s}(h:Byt m a s){i c:Nat}(hi:s[i]?=some c):(∃b o,a=some ⟨b,o,none⟩/\m b (o+i)=some (.int .u8 c))/\c < 256:=by
 refine⟨?_,h.2 c (zA2 hi)⟩
 rcases h.1 with h|⟨b,o,h1,h2⟩
 ·subst h;simp at hi
 ·exact⟨b,o,h1,h2 i _ (by rw[List.getElem?_map,hi];rfl)⟩
def ZAs(t:T)(back:Bool)(f i c out:Nat):Nat:=if(f.testBit (if back then i+1 else i)&&t.hasB c)=true then out|||2 ^ (if back then i else i+1)else out
def ZBg(t:T)(back:Bool)(f:Nat):List Nat->Nat->Nat->Nat
 | [],_,out=>out
 | c::s,i,out=>ZBg t back f s (i+1) (ZAs t back f i c out)
def ZA6(g:Nat->Nat):Nat->Nat->Nat
 | 0,f=>f
 | n+1,f=>ZA6 g n (g f)
def ZzN(g:Nat->Nat)(mx:Int):Nat->Int->Nat->Nat->Nat
 | 0,_,out,_=>out
 | n+1,k,out,last=>if k=mx then out else if out|||g last=out then out else ZzN g mx n (IntKind.i64.wrap (k+1)) (out|||g last) (g last)
@[irreducible] def ZBp:Nat:=576
abbrev ZBq:Nat:=2 ^ ZBp
def ZAt(g:Nat->Nat)(mn mx:Int)(f:Nat):Nat:=ZzN g mx (ZBq+1) mn (ZA6 g mn.toNat f) (ZA6 g mn.toNat f)
mutual
def T.lead(s:List Nat)(back:Bool):T->Nat->Nat
 | .node k s0 s1 s2 s3 mn mx a c l=>λf=>
  if k=1 then f else if k=2 then ZBg (.node k s0 s1 s2 s3 mn mx a c l) back f s 0 0
  else if k=3 then(if back then ZzP s back l f else ZzO s back l f)
  else if k=4 then ZBh s back l f 0
  else if k=5 then ZAt (ZzQ s back l) mn mx f
  else if k=6 then ZzQ s back l f else 0
def ZzO(s:List Nat)(back:Bool):List T->Nat->Nat
 | []=>λf=>f
 | t::l=>λf=>ZzO s back l (t.lead s back f)
def ZzP(s:List Nat)(back:Bool):List T->Nat->Nat
 | []=>λf=>f
 | t::l=>λf=>t.lead s back (ZzP s back l f)
def ZBh(s:List Nat)(back:Bool):List T->Nat->Nat->Nat
 | []=>λ_ out=>out
 | t::l=>λf out=>ZBh s back l f (out|||t.lead s back f)
def ZzQ(s:List Nat)(back:Bool):List T->Nat->Nat
 | []=>λf=>f
 | t::_=>λf=>t.lead s back f
end
section
variable {s:List Nat} {back:Bool}
end
theorem Zrc{α:Type}{l:List α}{i:Nat}{x:α}(h:l[i]?=some x):l.drop i=x::l.drop (i+1):=by
 obtain⟨h1,h2⟩:=zA0 h
 rw[List.drop_eq_getElem_cons h1,h2]
theorem Zrd{α:Type}{l:List α}{i:Nat}{x:α}(h:l[i]?=some x):l.take (i+1)=l.take i++[x]:=by
 rw[List.take_add_one,h];rfl
section
variable (s:List Nat) (back:Bool) (hs:s.length<=512)
include hs
end
def T0:T:=.node 0 0 0 0 0 0 0 none 0 []
def T1:T:=.node 1 0 0 0 0 0 0 none 0 []
theorem Zoe(m:Mem):Rep m T0:=by simp only[T0,Rep];exact⟨by simp,.inl trivial,by constructor <;> decide⟩
theorem Zxi(m:Mem):Rep m T1:=by simp only[T1,Rep];exact⟨by simp,.inl trivial,by constructor <;> decide⟩
def T.isNone(t:T):Bool:=t.k == 0&&(t.light&&(T0.light&&t.same T0))
def T.wrong(t:T)(len:Nat)(i:Int):Int:=if(!t.isNone&&!(t.check == 0))=true then 130 else if(len:Int) > 512 then 3 else if i < 0\/i > len then 2 else 0
structure Rg where
 bg:Bool
 en:Bool
 t:T
def Rg.v(r:Rg):Value:=.agg #[.bool r.bg,.bool r.en,.int .u8 r.t.k,.int .u64 r.t.s0,.int .u64 r.t.s1,.int .u64 r.t.s2,.int .u64 r.t.s3,.int .i64 r.t.mn,.int .i64 r.t.mx,.slice r.t.a r.t.subs.length r.t.c]
def Rg.cs(r:Rg):List Value:=[.bool r.bg,.bool r.en,.int .u8 r.t.k,.int .u64 r.t.s0,.int .u64 r.t.s1,.int .u64 r.t.s2,.int .u64 r.t.s3,.int .i64 r.t.mn,.int .i64 r.t.mx,.slice r.t.a r.t.subs.length r.t.c]
def Rgs(m:Mem)(a:Option Addr)(l:List Rg):Prop:=l.length<=1000000000000000/\(l=[]\/∃b o,a=some ⟨b,o,none⟩/\∀i r,l[i]?=some r->m.reads b (o+i*10) r.cs)/\∀r∈l,Rep m r.t
theorem Rgs.mono{m m':Mem}{a l}(h:Rgs m a l)(hm:m.le m'):Rgs m' a l:=by
 refine⟨h.1,?_,λr hr=>(h.2.2 r hr).mono hm⟩
 rcases h.2.1 with h|⟨b,o,h1,h2⟩
 ·exact .inl h
 ·exact .inr ⟨b,o,h1,λi r hi=>(h2 i r hi).mono hm⟩
def Zzd(f:Nat):List Nat:=(List.range 513).filter λi=>f.testBit i
def Zxj(n:Nat):List Nat->Option Nat
 | []=>none
 | i::_=>if i > n then none else some i
def Rg.from(s:List Nat)(n:Nat)(r:Rg):Option Nat:=if(r.en&&decide ((n:Int) < s.length))=true then none else if r.bg then(if(r.t.lead s true (2 ^ n)).testBit 0 then some 0 else none)else
 Zxj n (Zzd (r.t.lead s true (2 ^ n)))
def Rg.wrong(r:Rg)(len:Nat)(n:Int):Int:=if r.t.check=0 then r.t.wrong len n else 130
def Zof(φ:T->Prop):Value->Mem->List (List Value)->Prop:=λv m' _=>∃t:T,v=t.v/\Rep m' t/\φ t
abbrev TRK:=Int->Int->Int->Int->Int->Int->Int->Option Addr->Nat->Nat->Mem->Prop
theorem Zqf{φ:T->Prop}{m:Mem}{K:TRK}(k:∀(t:T)(m':Mem),m.le m'->Rep m' t->φ t->K t.k t.s0 t.s1 t.s2 t.s3 t.mn t.mx t.a t.subs.length t.c m'):
  ∀(n0 n1 n2 n3 n4 n5 n6:Int)(a:Option Addr)(n c:Nat)(m':Mem),m.le m'->Zof φ (.agg #[.int .u8 n0,.int .u64 n1,.int .u64 n2,.int .u64 n3,.int .u64 n4,.int .i64 n5,.int .i64 n6,.slice a n c]) m' []->K n0 n1 n2 n3 n4 n5 n6 a n c m':=by
 rintro n0 n1 n2 n3 n4 n5 n6 a n c m' hm ⟨t,hv,hr,hp⟩
 simp only[T.v,Value.agg.injEq,Array.mk.injEq,List.cons.injEq,Value.int.injEq,Value.slice.injEq,true_and,and_true]at hv
 obtain⟨rfl,rfl,rfl,rfl,rfl,rfl,rfl,rfl,rfl,rfl⟩:=hv
 exact k t m' hm hr hp
theorem Zfh{φ:T->Prop}:∀(v:Value)(m':Mem) (css:List (List Value)),Zof φ v m' css->Shape.fits (.agg [.int .u8,.int .u64,.int .u64,.int .u64,.int .u64,.int .i64,.int .i64,.slice]) v=true:=λv _ _ ⟨t,e,_⟩=>by rw[e];rfl
def RepL(m:Mem)(a:Option Addr)(l:List T):Prop:=l.length<=1000000000000000/\(l=[]\/∃b o,a=some ⟨b,o,none⟩/\RepAt m b o l)
theorem RepL.mono{m m':Mem}{a l}(h:RepL m a l)(hm:m.le m'):RepL m' a l:=by
 refine⟨h.1,?_⟩
 rcases h.2 with h|⟨b,o,h1,h2⟩
 ·exact .inl h
 ·exact .inr ⟨b,o,h1,h2.mono hm⟩
theorem Rep.subs{m:Mem}{t:T}(h:Rep m t):RepL m t.a t.subs:=Zjb h
def ZbO(k mn mx:Int)(a:Option Addr)(c:Nat)(l:List T):T:=.node k 0 0 0 0 mn mx a c l
theorem Zdo{m:Mem}{k mn mx:Int}{a:Option Addr}{c:Nat}{l:List T}(h:RepL m a l)(hk:0<=k/\k < 256)(h1 : -9223372036854775808<=mn/\mn<=9223372036854775807)(h2 : -9223372036854775808<=mx/\mx<=9223372036854775807):Rep m (ZbO k mn mx a c l):=by
 simp only[ZbO,Rep]
 exact⟨h.1,h.2,⟨hk,by omega,by omega,by omega,by omega,h1,h2⟩⟩
theorem Zm6{m:Mem}{b:Nat}{t:T}(h:m.reads b 0 t.cs)(hr:Rep m t):RepL m (some ⟨b,0,none⟩) [t]:=⟨by simp,.inr ⟨b,0,rfl,by simp only[RepAt];exact⟨h,hr,trivial⟩⟩⟩
def ZcB(l:List T):List Value:=(l.map T.cs).flatten
theorem Zaq(l:List T):(ZcB l).length=l.length*8:=by
 induction l with
 | nil=>rfl
 | cons t l ih=>simp[ZcB,T.cs]at ih ⊢;omega
theorem ZaH(l r:List T):ZcB (l++r)=ZcB l++ZcB r:=by simp[ZcB]
theorem Zre{m:Mem}{b:Nat}:∀{o:Nat} {l:List T},m.reads b o (ZcB l)->(∀t∈l,Rep m t)->RepAt m b o l
 | o,[],_,_=>by simp only[RepAt]
 | o,t::l,h,hr=>by
  simp only[RepAt]
  refine⟨λj v hj=>?_,hr t (by simp),Zre (λj v hj=>?_) λx hx=>hr x (by simp[hx])⟩
  ·refine h j v ?_
   simp only[ZcB,List.map_cons,List.flatten_cons]
   rw[zA5 (zA0 hj).1];exact hj
  ·have:=h (8+j) v (by
    simp only[ZcB,List.map_cons,List.flatten_cons]
    rw[zA4 (by simp[T.cs])]
    have e:8+j - t.cs.length=j:=by simp[T.cs]
    rw[e];exact hj)
   rw[show o+8+j=o+(8+j) by omega];exact this
theorem Zuq{m:Mem}{a:Option Addr}{l:List T}(h:rowRd m a (ZcB l))(hr:∀t∈l,Rep m t)(hl:l.length<=1000000000000000):RepL m a l:=by
 refine⟨hl,?_⟩
 cases l with
 | nil=>exact .inl rfl
 | cons t l=>
  rcases h with h|⟨b,o,h1,h2⟩
  ·simp[ZcB,T.cs]at h
  ·exact .inr ⟨b,o,h1,Zre h2 hr⟩
theorem Zee{m:Mem}{a:Option Addr}{l:List T}(h:RepL m a l):rowRd m a (ZcB l):=by
 have key:∀(l:List T)(b o:Nat),RepAt m b o l->m.reads b o (ZcB l):=by
  intro l
  induction l with
  | nil=>intro b o _ j v hj;simp[ZcB]at hj
  | cons t l ih=>
   intro b o hr j v hj
   simp only[RepAt]at hr
   simp only[ZcB,List.map_cons,List.flatten_cons]at hj
   by_cases aG:j < 8
   ·rw[zA5 (by simpa[T.cs]using aG)]at hj
    exact hr.1 j v hj
   ·rw[zA4 (by simp[T.cs];omega)]at hj
    have:=ih b (o+8) hr.2.2 (j - 8) v (by simpa[T.cs,ZcB]using hj)
    rw[show o+8+(j - 8)=o+j by omega]at this;exact this
 rcases h.2 with h|⟨b,o,h1,h2⟩
 ·subst h;exact .inl rfl
 ·exact .inr ⟨b,o,h1,key l b o h2⟩
theorem ZjP{m:Mem}{a:Option Addr}{l:List T}(h:RepL m a l):∀t∈l,Rep m t:=by
 rcases h.2 with h|⟨b,o,_,h⟩
 ·subst h;simp
 ·intro t ht
  obtain⟨i,hi⟩:=List.getElem?_of_mem ht
  exact(h.get hi).2
def ZA7(j:Nat)(w c:Nat):Nat:=if c / 64=j then w|||2 ^ (c % 64)else w
def Zt4(bs:List Nat)(j:Nat):Nat:=bs.foldl (ZA7 j) 0
theorem ZsO(l:List Nat)(c j:Nat):Zt4 (l++[c]) j=if c / 64=j then Zt4 l j|||2 ^ (c % 64)else Zt4 l j:=by
 unfold Zt4
 rw[List.foldl_append];rfl
theorem Zur(l:List Nat)(j:Nat):Zt4 l j < 18446744073709551616:=by
 have key:∀(l:List Nat)(w:Nat),w < 2 ^ 64->l.foldl (ZA7 j) w < 2 ^ 64:=by
  intro l
  induction l with
  | nil=>intro w h;exact h
  | cons c l ih=>
   intro w h
   refine ih _ ?_
   unfold ZA7
   split
   ·exact Nat.or_lt_two_pow h (Nat.pow_lt_pow_right (by omega) (by omega))
   ·exact h
 exact key l 0 (by decide)
def ZjQ(bs:List Nat):T:=.node 2 (Zt4 bs 0:Nat) (Zt4 bs 1:Nat) (Zt4 bs 2:Nat) (Zt4 bs 3:Nat) 0 0 none 0 []
theorem Zog(bs:List Nat)(m:Mem):Rep m (ZjQ bs):=by
 simp only[ZjQ,Rep]
 have h:=Zur bs
 exact⟨by simp,.inl trivial,⟨by omega,⟨by omega,by have:=h 0;omega⟩,⟨by omega,by have:=h 1;omega⟩,⟨by omega,by have:=h 2;omega⟩,⟨by omega,by have:=h 3;omega⟩,by omega,by omega⟩⟩
def Zus(bs:List Nat):List Value:=[.int .u64 (Zt4 bs 0:Nat),.int .u64 (Zt4 bs 1:Nat),.int .u64 (Zt4 bs 2:Nat),.int .u64 (Zt4 bs 3:Nat)]
theorem ZsP(bs:List Nat){j:Nat}(h:j < 4):(Zus bs)[j]?=some (.int .u64 (Zt4 bs j:Nat)):=by
 have:j=0\/j=1\/j=2\/j=3:=by omega
 rcases this with rfl|rfl|rfl|rfl <;> rfl
theorem Zqg(l:List Nat){c j:Nat}(hj:c / 64=j)(h:j < 4):ZaD (Zus l) j [.int .u64 ((Zt4 l j|||2 ^ (c % 64):Nat):Int)]=Zus (l++[c]):=by
 unfold Zus
 simp only[ZsO,hj]
 have:j=0\/j=1\/j=2\/j=3:=by omega
 rcases this with rfl|rfl|rfl|rfl <;> rfl
def Zds(n:Nat):List Nat:=([[97],[98],[97,98],[97],[98],[99],[97,98,99],[98,99],[10],[0,255],[97],[98]][n % 12]?).getD []
end Go.Rx
namespace Go.Rx
open Go Go.Eng
inductive E where
 | node (k:Int) (x:Nat) (s:ByteArray) (g:Int) (a:Option Addr) (c:Nat) (subs:List E)
def E.k:E->Int
 | .node k _ _ _ _ _ _=>k
def E.x:E->Nat
 | .node _ x _ _ _ _ _=>x
def E.s:E->ByteArray
 | .node _ _ s _ _ _ _=>s
def E.g:E->Int
 | .node _ _ _ g _ _ _=>g
def E.a:E->Option Addr
 | .node _ _ _ _ a _ _=>a
def E.c:E->Nat
 | .node _ _ _ _ _ c _=>c
def E.subs:E->List E
 | .node _ _ _ _ _ _ l=>l
def E.sl(t:E):Value:=.slice t.a t.subs.length t.c
def E.cs(t:E):List Value:=[.int .u8 t.k,.float .f64 t.x,.string t.s,.int .i64 t.g,t.sl]
def E.v(t:E):Value:=.agg #[.int .u8 t.k,.float .f64 t.x,.string t.s,.int .i64 t.g,.slice t.a t.subs.length t.c]
def E0:E:=.node 0 0 .empty 0 none 0 []
structure OkE (k:Int)(s:ByteArray)(g:Int):Prop where
 k:0<=k/\k < 256
 s:s.size<=1000000000000000
 g : -9223372036854775808<=g/\g<=9223372036854775807
mutual
def RepE(m:Mem):E->Prop
 | .node k x s g a _ l=>l.length<=1000000000000000/\(l=[]\/∃b o,a=some ⟨b,o,none⟩/\RepEAt m b o l)/\OkE k s g
def RepEAt(m:Mem)(b:Nat):Nat->List E->Prop
 | _,[]=>True
 | o,t::l=>m.reads b o t.cs/\RepE m t/\RepEAt m b (o+5) l
end
theorem Zlh(m:Mem):RepE m E0:=by simp only[E0,RepE];exact⟨by simp,.inl trivial,by constructor <;> decide⟩
theorem ZeH{m:Mem}{t:E}:RepE m t->(t.subs.length<=1000000000000000/\(t.subs=[]\/∃b o,t.a=some ⟨b,o,none⟩/\RepEAt m b o t.subs)):=by
 cases t;simp only[RepE,E.subs,E.a];exact λh=>⟨h.1,h.2.1⟩
theorem Zrf{m:Mem}{t:E}:RepE m t->OkE t.k t.s t.g:=by
 cases t;simp only[RepE];exact λh=>h.2.2
mutual
theorem RepE.mono{m m':Mem}(h:m.le m'):∀t:E,RepE m t->RepE m' t
 | .node _ _ _ _ a _ l,hr=>by
  simp only[RepE]at *
  refine⟨hr.1,?_,hr.2.2⟩
  rcases hr.2.1 with hr|⟨b,o,h1,h2⟩
  ·exact .inl hr
  ·exact .inr ⟨b,o,h1,RepEAt.mono h b o l h2⟩
theorem RepEAt.mono{m m':Mem}(h:m.le m')(b:Nat):∀(o:Nat)(l:List E),RepEAt m b o l->RepEAt m' b o l
 | _,[],_=>by simp only[RepEAt]
 | o,t::l,hr=>by
  simp only[RepEAt]at *
  exact⟨hr.1.mono h,RepE.mono h t hr.2.1,RepEAt.mono h b (o+5) l hr.2.2⟩
end
theorem RepE.mono'{m m':Mem}{t:E}(hr:RepE m t)(h:m.le m'):RepE m' t:=RepE.mono h t hr
theorem RepEAt.mono'{m m':Mem}{b o:Nat}{l:List E}(hr:RepEAt m b o l)(h:m.le m'):RepEAt m' b o l:=RepEAt.mono h b o l hr
theorem RepEAt.get{m:Mem}{b:Nat}:∀{o:Nat} {l:List E} {i:Nat} {t:E},RepEAt m b o l->l[i]?=some t->m.reads b (o+i*5) t.cs/\RepE m t
 | o,[],i,t,_,hi=>by simp at hi
 | o,x::l,0,t,h,hi=>by
  simp only[RepEAt]at h
  simp at hi;subst hi
  exact⟨by simpa using h.1,h.2.1⟩
 | o,x::l,i+1,t,h,hi=>by
  simp only[RepEAt]at h
  have:=h.2.2.get (i:=i) (by simpa using hi)
  rw[show o+(i+1)*5=o+5+i*5 by omega]
  exact this
mutual
def E.nodes:E->List E
 | .node k x s g a c l=>.node k x s g a c l::Zan l
def Zan:List E->List E
 | []=>[]
 | t::l=>t.nodes++Zan l
end
theorem ZbE(t:E):t.nodes=t::Zan t.subs:=by cases t;simp only[E.nodes,E.subs]
theorem ZaN(l r:List E):Zan (l++r)=Zan l++Zan r:=by
 induction l with
 | nil=>simp[Zan]
 | cons t l ih=>simp[Zan,ih,List.append_assoc]
theorem Zl3{l:List E}{i:Nat}{t:E}(h:l[i]?=some t):Zan (l.take (i+1))=Zan (l.take i)++t.nodes:=by
 have:l.take (i+1)=l.take i++[t]:=by
  rw[List.take_add_one,h];rfl
 rw[this,ZaN];simp[Zan]
theorem Zcy{l:List E}{i:Nat}{t:E}(h:l[i]?=some t):Zan l=Zan (l.take i)++(t.nodes++Zan (l.drop (i+1))):=by
 have aG:=(zA0 h).1
 have e:l=l.take i++(t::l.drop (i+1)):=by
  have:=List.drop_eq_getElem_cons aG
  rw[(zA0 h).2]at this
  rw[<-this,List.take_append_drop]
 conv=>lhs;rw[e,ZaN]
 simp[Zan]
theorem ZsQ{t x z:E}{i q:Nat}(hx:t.subs[i]?=some x)(hz:x.nodes[q]?=some z):t.nodes[1+(Zan (t.subs.take i)).length+q]?=some z:=by
 have hq:=(zA0 hz).1
 rw[ZbE,show 1+(Zan (t.subs.take i)).length+q=((Zan (t.subs.take i)).length+q)+1 by omega,List.getElem?_cons_succ,Zcy hx,zA4 (by omega),zA5 (by omega),show(Zan (List.take i t.subs)).length+q - (Zan (List.take i t.subs)).length=q by omega]
 exact hz
theorem Zli{t x:E}(h:x∈t.subs):SizeOf.sizeOf x < SizeOf.sizeOf t:=by
 cases t with
 | node k x s g a c l=>
  have h':_∈l:=h
  have:=List.sizeOf_lt_of_mem h'
  simp only[E.node.sizeOf_spec]
  omega
theorem Zlj(t:E):Shape.fitsL [.agg [.int .u8,.any,.str,.int .i64,.slice]] [t.v]=true:=by
 simp[Shape.fitsL,Shape.fits,E.v]
mutual
theorem Zoh{m:Mem}:∀(t:E),RepE m t->∀x∈t.nodes,RepE m x
 | .node k x s g a c l,hr,z,hx=>by
  simp only[E.nodes,List.mem_cons]at hx
  rcases hx with rfl|hx
  ·exact hr
  ·simp only[RepE]at hr
   rcases hr.2.1 with h|⟨b,o,_,h⟩
   ·subst h;simp[Zan]at hx
   ·exact Zlk b o l h z hx
theorem Zlk{m:Mem}(b:Nat):∀(o:Nat)(l:List E),RepEAt m b o l->∀x∈Zan l,RepE m x
 | _,[],_,x,hx=>by simp[Zan]at hx
 | o,t::l,hr,x,hx=>by
  simp only[RepEAt]at hr
  simp only[Zan,List.mem_append]at hx
  rcases hx with hx|hx
  ·exact Zoh t hr.2.1 x hx
  ·exact Zlk b (o+5) l hr.2.2 x hx
end
theorem Zll{m:Mem}{t x:E}(h:RepE m t)(hx:x∈t.nodes):RepE m x:=Zoh t h x hx
def Zxk:Nat:=9221120237041090561
def Zf9(x:Nat):Nat:=if Op.floatEq .f64 x x then x else Zxk
def ZsR(x y:Nat):Bool:=Zf9 x == Zf9 y
def Zfi(x:Nat):Bool:=Op.floatEq .f64 x x||x == Zxk
def E.light(t:E):Bool:=decide (t.nodes.length<=10000)
def E.size(t:E):Int:=if t.light then t.nodes.length else 0
mutual
def E.same:E->E->Bool
 | .node k x s g _ _ l,.node k' x' s' g' _ _ l'=>k == k'&&(ZsR x x'&&(s.toList == s'.toList&&(g == g'&&ZcC l l')))
def ZcC:List E->List E->Bool
 | [],[]=>true
 | t::l,t'::l'=>t.same t'&&ZcC l l'
 | _,_=>false
end
theorem Zvi(t u:E):t.same u=(t.k == u.k&&(ZsR t.x u.x&&(t.s.toList == u.s.toList&&(t.g == u.g&&ZcC t.subs u.subs)))):=by
 cases t;cases u;simp only[E.same,E.k,E.x,E.s,E.g,E.subs]
theorem Zlm:∀{l r:List E},¬l.length=r.length->ZcC l r=false
 | [],[],h=>by simp at h
 | [],_::_,_=>by simp[ZcC]
 | _::_,[],_=>by simp[ZcC]
 | x::l,y::r,h=>by
  simp only[ZcC,Zlm (l:=l) (r:=r) (by simpa using h),Bool.and_false]
theorem Zoi:∀{l r:List E} {i:Nat} {x y:E},l[i]?=some x->r[i]?=some y->x.same y=false->ZcC l r=false
 | [],r,i,x,y,h,_,_=>by simp at h
 | _::_,[],i,x,y,_,h,_=>by simp at h
 | a::l,b::r,0,x,y,h,k,e=>by
  simp at h k;subst h k
  simp[ZcC,e]
 | a::l,b::r,i+1,x,y,h,k,e=>by
  simp only[ZcC,Zoi (l:=l) (r:=r) (i:=i) (by simpa using h) (by simpa using k) e,Bool.and_false]
theorem Zjc:∀{l r:List E} {i:Nat} {x y:E},l[i]?=some x->r[i]?=some y->ZcC (l.take i) (r.take i)=true->x.same y=true->ZcC (l.take (i+1)) (r.take (i+1))=true
 | [],r,i,x,y,h,_,_,_=>by simp at h
 | _::_,[],i,x,y,_,h,_,_=>by simp at h
 | a::l,b::r,0,x,y,h,k,_,e=>by
  simp at h k;subst h k
  simp[ZcC,e]
 | a::l,b::r,i+1,x,y,h,k,hs,e=>by
  simp only[List.take_succ_cons,ZcC,zA7]at hs ⊢
  exact⟨hs.1,Zjc (by simpa using h) (by simpa using k) hs.2 e⟩
def E.most(t:E):Int:=if t.light then t.nodes.foldl (λn x=>if x.k=10 then(if x.g > n then x.g else n)else n) (-1)else -1
mutual
def E.names:E->List ByteArray->List ByteArray
 | .node k _ s _ _ _ l,out=>if k=9 then(if out.any (λy=>y.toList == s.toList)then out else out++[s])else ZbF l out
def ZbF:List E->List ByteArray->List ByteArray
 | [],out=>out
 | t::l,out=>ZbF l (t.names out)
end
theorem Zoj(t:E)(out:List ByteArray):t.names out=if t.k=9 then(if out.any (λy=>y.toList == t.s.toList)then out else out++[t.s])else ZbF t.subs out:=by
 cases t;simp only[E.names,E.k,E.s,E.subs];rfl
mutual
theorem Zrg:∀(t:E)(out:List ByteArray),out.length<=(t.names out).length
 | .node k _ s _ _ _ l,out=>by
  simp only[E.names]
  split
  ·split <;> simp
  ·exact ZjR l out
theorem ZjR:∀(l:List E)(out:List ByteArray),out.length<=(ZbF l out).length
 | [],out=>by simp[ZbF]
 | t::l,out=>by
  simp only[ZbF]
  exact Nat.le_trans (Zrg t out) (ZjR l _)
end
theorem Zln(l r:List E)(out:List ByteArray):ZbF (l++r) out=ZbF r (ZbF l out):=by
 induction l generalizing out with
 | nil=>simp[ZbF]
 | cons t l ih=>simp only[List.cons_append,ZbF,ih]
theorem Zqh{l:List E}{i:Nat}{t:E}(h:l[i]?=some t)(out:List ByteArray):ZbF (l.take (i+1)) out=t.names (ZbF (l.take i) out):=by
 have:l.take (i+1)=l.take i++[t]:=by rw[List.take_add_one,h];rfl
 rw[this,Zln];simp[ZbF]
theorem ZsS{l:List E}{i:Nat}(out:List ByteArray):(ZbF (l.take i) out).length<=(ZbF l out).length:=by
 conv=>rhs;rw[<-List.take_append_drop i l,Zln]
 exact ZjR _ _
mutual
theorem ZfW:∀(t:E)(out:List ByteArray),(t.names out).length<=out.length+t.nodes.length
 | .node k _ s _ _ _ l,out=>by
  simp only[E.names,E.nodes,List.length_cons]
  split
  ·split
   ·omega
   ·rw[zA1,List.length_singleton];omega
  ·have:=Zg0 l out
   omega
theorem Zg0:∀(l:List E)(out:List ByteArray),(ZbF l out).length<=out.length+(Zan l).length
 | [],out=>by simp[ZbF]
 | t::l,out=>by
  simp only[ZbF,Zan,zA1]
  have:=ZfW t out
  have:=Zg0 l (t.names out)
  omega
end
def E.vars(t:E):List ByteArray:=if t.light then t.names []else[]
theorem Zef(s:ByteArray):s.data.toList.length=s.size:=by rw[Array.length_toList];rfl
theorem Zut(s:ByteArray):∀(n i:Nat)(r:List UInt8),s.size - i=n->ByteArray.toList.loop s i r=r.reverse++s.data.toList.drop i
 | 0,i,r,h=>by
  rw[ByteArray.toList.loop,if_neg (by omega),List.drop_of_length_le (by have:=Zef s;omega),List.append_nil]
 | n+1,i,r,h=>by
  have hs:=Zef s
  have hi:i < s.size:=by omega
  rw[ByteArray.toList.loop,if_pos hi,Zut s n (i+1) _ (by omega),List.reverse_cons,List.append_assoc]
  have hd:=List.drop_eq_getElem_cons (l:=s.data.toList) (i:=i) (by omega)
  rw[hd]
  have e:s.get! i=s.data.toList[i]'(by omega):=by
   rw[Array.getElem_toList]
   exact getElem!_pos s.data i hi
  rw[e];rfl
theorem baL(s:ByteArray):s.toList=s.data.toList:=by
 have:=Zut s _ 0 [] rfl
 simpa[ByteArray.toList]using this
theorem Zcf(s:ByteArray):(s.toList == ByteArray.toList ⟨#[]⟩)=(s.size == 0):=by
 rw[baL,baL,<-Zef]
 cases h:s.data.toList <;> simp[h] <;> rfl
theorem Zap{α:Type}{cs:α->List Value}{n:Nat}(hn:∀x,(cs x).length=n){m:Mem}{a:Option Addr}{L:List α}(h:rowRd m a (L.map cs).flatten){k:Nat}{t:α}(ht:L[k]?=some t)(h0:0 < n):∃b o,a=some ⟨b,o,none⟩/\m.reads b (o+k*n) (cs t):=by
 have aG:=(zA0 ht).1
 have len:∀l:List α,(l.map cs).flatten.length=l.length*n:=λl=>by
  induction l with
  | nil=>simp
  | cons x l ih=>rw[List.map_cons,List.flatten_cons,zA1,hn,ih,List.length_cons,Nat.succ_mul];omega
 have e:(L.map cs).flatten=((L.take k).map cs).flatten++(cs t++((L.drop (k+1)).map cs).flatten):=by
  have e1:L=L.take k++(t::L.drop (k+1)):=by
   have:=List.drop_eq_getElem_cons aG
   rw[(zA0 ht).2]at this
   rw[<-this,List.take_append_drop]
  conv=>lhs;rw[e1]
  rw[List.map_append,List.flatten_append,List.map_cons,List.flatten_cons]
 have hl:((L.take k).map cs).flatten.length=k*n:=by rw[len,List.length_take,Nat.min_eq_left (by omega)]
 rcases h with h|⟨b,o,ha,h⟩
 ·have:=congrArg List.length h
  rw[len,List.length_nil]at this
  have:0 < L.length*n:=Nat.mul_pos (by omega) h0
  omega
 ·refine⟨b,o,ha,λj v hj=>?_⟩
  have sD:=(zA0 hj).1
  have:=h (k*n+j) v (by rw[e,zA4 (by omega),hl,Nat.add_sub_cancel_left,zA5 sD];exact hj)
  rw[Nat.add_assoc];exact this
theorem ZaU{α:Type}{cs:α->List Value}{n:Nat}(hn:∀x,(cs x).length=n)(l:List α):(l.map cs).flatten.length=l.length*n:=by
 induction l with
 | nil=>simp
 | cons x l ih=>rw[List.map_cons,List.flatten_cons,zA1,hn,ih,List.length_cons,Nat.succ_mul];omega
structure Pt where
 k:Int
 s:ByteArray
 g:Int
 e:E
def Pt.cs(p:Pt):List Value:=[.int .u8 p.k,.string p.s,.int .i64 p.g,.int .u8 p.e.k,.float .f64 p.e.x,.string p.e.s,.int .i64 p.e.g,.slice p.e.a p.e.subs.length p.e.c]
def Pt.v(p:Pt):Value:=.agg p.cs.toArray
structure Ac where
 k:Int
 s:ByteArray
 pa:Option Addr
 pc:Nat
 parts:List Pt
 e:E
def Ac.cs(a:Ac):List Value:=[.int .u8 a.k,.string a.s,.slice a.pa a.parts.length a.pc,.int .u8 a.e.k,.float .f64 a.e.x,.string a.e.s,.int .i64 a.e.g,.slice a.e.a a.e.subs.length a.e.c]
structure Ru where
 k:Int
 bg:Bool
 en:Bool
 t:T
 s:ByteArray
 n:Int
 aa:Option Addr
 ac:Nat
 acts:List Ac
 go:ByteArray
 code:Int
def Ru.cs(r:Ru):List Value:=[.int .u8 r.k,.bool r.bg,.bool r.en,.int .u8 r.t.k,.int .u64 r.t.s0,.int .u64 r.t.s1,.int .u64 r.t.s2,.int .u64 r.t.s3,.int .i64 r.t.mn,.int .i64 r.t.mx,.slice r.t.a r.t.subs.length r.t.c,.string r.s,.int .i64 r.n,.slice r.aa r.acts.length r.ac,.string r.go,.int .i64 r.code]
structure Sta where
 s:ByteArray
 ra:Option Addr
 rc:Nat
 rules:List Ru
def Sta.cs(x:Sta):List Value:=[.string x.s,.slice x.ra x.rules.length x.rc]
structure Va where
 s:ByteArray
 b:Bool
 t:ByteArray
 x:Nat
def Va.cs(v:Va):List Value:=[.string v.s,.bool v.b,.string v.t,.float .f64 v.x]
structure Sc where
 n:Int
 va:Option Addr
 vc:Nat
 vars:List Va
 sa:Option Addr
 sc:Nat
 states:List Sta
def Sc.cs(s:Sc):List Value:=[.int .i64 s.n,.slice s.va s.vars.length s.vc,.slice s.sa s.states.length s.sc]
def Sc.v(s:Sc):Value:=.agg #[.int .i64 s.n,.slice s.va s.vars.length s.vc,.slice s.sa s.states.length s.sc]
theorem Pt.len(p:Pt):p.cs.length=8:=rfl
theorem Ac.len(p:Ac):p.cs.length=8:=rfl
theorem Ru.len(p:Ru):p.cs.length=16:=rfl
theorem Sta.len(p:Sta):p.cs.length=2:=rfl
theorem Va.len(p:Va):p.cs.length=4:=rfl
def I64(n:Int):Prop:=-9223372036854775808<=n/\n<=9223372036854775807
def few:Nat:=100000
structure RepP (m:Mem)(p:Pt):Prop where
 k:0<=p.k/\p.k < 256
 s:p.s.size<=1000000000000000
 g:I64 p.g
 e:RepE m p.e
structure RepA (m:Mem)(a:Ac):Prop where
 k:0<=a.k/\a.k < 256
 s:a.s.size<=1000000000000000
 n:a.parts.length<=few
 row:rowRd m a.pa (a.parts.map Pt.cs).flatten
 all:∀p∈a.parts,RepP m p
 e:RepE m a.e
structure RepR (m:Mem)(r:Ru):Prop where
 k:0<=r.k/\r.k < 256
 t:Rep m r.t
 s:r.s.size<=1000000000000000
 n:I64 r.n
 len:r.acts.length<=few
 row:rowRd m r.aa (r.acts.map Ac.cs).flatten
 all:∀p∈r.acts,RepA m p
 go:r.go.size<=1000000000000000
 code:I64 r.code
structure RepS (m:Mem)(x:Sta):Prop where
 s:x.s.size<=1000000000000000
 len:x.rules.length<=few
 row:rowRd m x.ra (x.rules.map Ru.cs).flatten
 all:∀p∈x.rules,RepR m p
structure RepV (v:Va):Prop where
 s:v.s.size<=1000000000000000
 t:v.t.size<=1000000000000000
structure RepC (m:Mem)(s:Sc):Prop where
 n:I64 s.n
 vlen:s.vars.length<=few
 vrow:rowRd m s.va (s.vars.map Va.cs).flatten
 vall:∀v∈s.vars,RepV v
 len:s.states.length<=few
 row:rowRd m s.sa (s.states.map Sta.cs).flatten
 all:∀x∈s.states,RepS m x
 vcap:s.vars.length<=s.vc
 scap:s.states.length<=s.sc
section
variable {m m':Mem} (h:m.le m')
include h
theorem RepP.mono{p:Pt}(x:RepP m p):RepP m' p:=⟨x.k,x.s,x.g,RepE.mono h _ x.e⟩
theorem RepA.mono{p:Ac}(x:RepA m p):RepA m' p:=⟨x.k,x.s,x.n,x.row.mono h,λp hp=>(x.all p hp).mono h,RepE.mono h _ x.e⟩
theorem RepR.mono{p:Ru}(x:RepR m p):RepR m' p:=⟨x.k,x.t.mono h,x.s,x.n,x.len,x.row.mono h,λp hp=>(x.all p hp).mono h,x.go,x.code⟩
theorem RepS.mono{p:Sta}(x:RepS m p):RepS m' p:=⟨x.s,x.len,x.row.mono h,λp hp=>(x.all p hp).mono h⟩
theorem RepC.mono{p:Sc}(x:RepC m p):RepC m' p:=⟨x.n,x.vlen,x.vrow.mono h,x.vall,x.len,x.row.mono h,λp hp=>(x.all p hp).mono h,x.vcap,x.scap⟩
end
def nE(e:E):Int:=if e.light then e.size else 20001
def ZbA:List Int->Int
 | []=>0
 | x::l=>x+ZbA l
theorem Zm7(l r:List Int):ZbA (l++r)=ZbA l+ZbA r:=by
 induction l with
 | nil=>simp[ZbA]
 | cons x l ih=>simp only[List.cons_append,ZbA,ih];omega
theorem ZeI{α:Type}{l:List α}{i:Nat}{x:α}(f:α->Int)(h:l[i]?=some x):ZbA ((l.take (i+1)).map f)=ZbA ((l.take i).map f)+f x:=by
 rw[List.take_add_one,h,List.map_append,Zm7];simp[ZbA]
theorem Zfj{α:Type}(f:α->Int)(hf:∀x,0<=f x):∀l:List α,0<=ZbA (l.map f)
 | []=>by simp[ZbA]
 | x::l=>by
  have:=Zfj f hf l;have:=hf x
  simp only[List.map_cons,ZbA];omega
theorem ZjS{α:Type}(f:α->Int)(hf:∀x,0<=f x)(l:List α)(i:Nat):ZbA ((l.take i).map f)<=ZbA (l.map f):=by
 have e:ZbA (l.map f)=ZbA ((l.take i).map f)+ZbA ((l.drop i).map f):=by rw[<-Zm7,<-List.map_append,List.take_append_drop]
 have:=Zfj f hf (l.drop i)
 omega
def wA(a:Ac):Int:=1+nE a.e+a.parts.length+ZbA (a.parts.map λp=>nE p.e)
def wR(r:Ru):Int:=1+Zgx r.t.size 20000+(if r.t.light then 0 else 20001)+ZbA (r.acts.map wA)
theorem Zok(e:E):0<=nE e/\nE e<=20001:=by
 unfold nE E.size E.light
 split
 ·rename_i h
  simp only[decide_eq_true_eq]at h
  first|omega|(rw[if_pos (by simpa using h)];omega)
 ·omega
theorem Zjd(t:T):0<=t.size/\t.size<=10001:=by
 unfold T.size T.light
 split
 ·rename_i h;simp only[decide_eq_true_eq]at h;omega
 ·omega
theorem Zxl(a:Ac):0<=wA a:=by
 have:=(Zok a.e).1
 have:=Zfj (λp:Pt=>nE p.e) (λp=>(Zok p.e).1) a.parts
 unfold wA;omega
theorem ZyT(r:Ru):0<=wR r:=by
 have:=Zfj wA Zxl r.acts
 have h1:=(Zjd r.t).1
 have:0<=Zgx r.t.size 20000:=by unfold Zgx;split <;> omega
 unfold wR;split <;> omega
def wS(x:Sta):Int:=ZbA (x.rules.map wR)
theorem ZzR(x:Sta):0<=wS x:=Zfj wR ZyT _
def Sc.weight(s:Sc):Int:=s.vars.length+s.states.length+ZbA (s.states.map wS)
def Sc.light(s:Sc):Bool:=decide (s.weight<=20000)
structure Pl where
 v:Int
 s:Int
 r:Int
 a:Int
 p:Int
deriving DecidableEq
def Pl.cs(p:Pl):List Value:=[.int .i64 p.v,.int .i64 p.s,.int .i64 p.r,.int .i64 p.a,.int .i64 p.p]
def top:Pl:=⟨-1,-1,-1,-1,-1⟩
def Zdp(n:Nat)(f:Nat->List Pl):List Pl:=(List.range n).flatMap f
def plA(i k m:Nat)(a:Ac):List Pl:=⟨-1,i,k,m,-1⟩::Zdp a.parts.length λn=>[⟨-1,i,k,m,n⟩]
def plR(i k:Nat)(r:Ru):List Pl:=⟨-1,i,k,-1,-1⟩::Zdp r.acts.length λm=>match r.acts[m]? with
 | some a=>plA i k m a
 | none=>[]
def plS(i:Nat)(x:Sta):List Pl:=⟨-1,i,-1,-1,-1⟩::Zdp x.rules.length λk=>match x.rules[k]? with
 | some r=>plR i k r
 | none=>[]
def Sc.places(s:Sc):List Pl:=if s.light then top::(Zdp s.vars.length (λi=>[⟨i,-1,-1,-1,-1⟩])++Zdp s.states.length λi=>match s.states[i]? with
 | some x=>plS i x
 | none=>[])else[]
def ZaZ:List (Int×Bool)->Int
 | []=>0
 | (e,w)::l=>if w then e else ZaZ l
def Zbe(n a b:Int):Bool:=decide (n ≥ a)&&decide (n<=b)
def eqS(a b:ByteArray):Bool:=a.toList == b.toList
def ZwE(c:UInt8):Bool:=(decide (97<=c.toNat)&&decide (c.toNat<=122))||(decide (48<=c.toNat)&&decide (c.toNat<=57))||c.toNat == 95
def Zl4:List ByteArray:=[⟨#[109,105,110]⟩,⟨#[109,97,120]⟩,⟨#[110,117,109]⟩]
def Zcb(s:ByteArray):Bool:=!(s.size == 0||decide (s.size > 16)||decide ((s.data.toList.getD 0 0).toNat < 97)||decide ((s.data.toList.getD 0 0).toNat > 122)||Zl4.any λw=>eqS w s)&&s.data.toList.all ZwE
def Zbz(s:Sc)(name:ByteArray):Bool×Bool:=match s.vars.find? λv=>eqS v.s name with
 | some v=>(v.b,true)
 | none=>(false,false)
def Za2(s:Sc)(e:E):Bool:=!e.vars.any λn=>!(Zbz s n).1
def Zlo(e:E):Bool:=e.light&&(E0.light&&e.same E0)
def Zlp(k:Int):Int:=if k=1 then 1 else if 2<=k/\k<=7 then 2 else 0
def ZjT:List E->Bool
 | u::_=>u.k == 8
 | []=>false
def E.right(t:E):Bool:=!(t.k == 0)&&(decide (t.k<=10)&&((if t.k=9 then Zcb t.s else t.s.size == 0)&&((if t.k=8 then Zfi t.x else ZsR t.x 0)&&((if t.k=10 then decide (t.g ≥ 0)&&decide (t.g<=9)else t.g == 0)&&((t.subs.length:Int) == Zlp t.k&&!(t.k == 1&&(t.subs.length == 1&&ZjT t.subs)))))))
def E.clean(t:E):Bool:=t.light&&t.nodes.all E.right
def Zeg(s:Sc):Int:=ZaZ [(300,!Zbe s.n 2 256),(302,!Zbe s.states.length 1 24||decide (s.vars.length > 12))]
def Zfk(v:Va):Bool:=if v.b then Zfi v.x&&v.t.size == 0 else v.x == 0&&decide (v.t.size<=512)
def Za4(s:Sc)(i:Nat)(v:Va):Int:=ZaZ [(301,!Zcb v.s||(!Zfk v||(s.vars.take i).any λx=>eqS x.s v.s))]
def Zde(s:Sc)(i:Nat)(x:Sta):Int:=ZaZ [(303,!Zcb x.s||(decide (x.rules.length > 12)||(s.states.take i).any λy=>eqS y.s x.s))]
def Zr5(r:Ru):Bool:=r.bg||(r.en||!(r.t.light&&(T0.light&&r.t.same T0)))
def ZaS(r:Ru):Bool:=if r.k=2 then !Zr5 r&&(r.n == 0&&Zbe r.s.size 1 64)else if r.k=4 then !Zr5 r&&(r.s.size == 0&&Zbe r.n 1 1000)else if r.k=3 then !Zr5 r&&(r.s.size == 0&&r.n == 0)else if r.k=1 then r.s.size == 0&&r.n == 0 else false
def Zbj(r:Ru):Int:=if r.k=1 then r.t.groups else if r.k=2 then 0 else -1
def Zeh(s:Sc)(name:ByteArray):Bool:=(s.states.any λx=>eqS x.s name)&&s.light
def ZcM(s:Sc)(r:Ru)(total:Int):Int:=ZaZ [(304,!ZaS r||decide (r.acts.length > 8)),(305,r.k == 1&&(!(r.t.check == 0)||decide (total > 600))),
 (306,if r.go.size=0 then !Zbe r.code 0 255 else !Zeh s r.go||!(r.code == 0))]
def ZaO(s:Sc)(r:Ru)(a:Ac):Int:=ZaZ [(307,!Zbe a.k 1 3||(a.k == 1&&!(a.s.size == 0))||(a.k == 3&&decide (a.parts.length > 0))||(a.k == 3&&!a.e.clean)||(!(a.k == 3)&&!Zlo a.e)||decide (a.parts.length > 16)),
 (308,(!(a.k == 1)&&(!(Zbz s a.s).2||!((Zbz s a.s).1 == (a.k == 3))))||(a.k == 3&&!Za2 s a.e)),(309,a.k == 3&&decide (a.e.most > Zbj r))]
def Za0(p:Pt):Bool:=if p.k=1 then decide (p.s.size > 0)&&(decide (p.s.size<=512)&&(p.g == 0&&Zlo p.e))else if p.k=2 then Zcb p.s&&(p.g == 0&&Zlo p.e)else if p.k=3 then decide (p.g ≥ 0)&&(decide (p.g<=9)&&(p.s.size == 0&&Zlo p.e))else if p.k=4 then p.e.clean&&(p.s.size == 0&&p.g == 0)else false
def ZcW(s:Sc)(r:Ru)(l:List Pt)(i:Nat)(p:Pt):Int:=ZaZ [(307,!Za0 p||(decide (i > 0)&&(p.k == 1&&(match l[i - 1]? with
 | some q=>q.k == 1
 | none=>false)))),(308,(p.k == 2&&!(Zbz s p.s).2)||(p.k == 4&&!Za2 s p.e)),(309,(p.k == 3&&decide (p.g > Zbj r))||(p.k == 4&&decide (p.e.most > Zbj r)))]
def sizeR(r:Ru):Int:=if r.k=1 then r.t.size else 0
def totals(s:Sc)(i k:Nat):Int:=ZbA ((s.states.take i).map λx=>ZbA (x.rules.map sizeR))+(match s.states[i]? with
 | some x=>ZbA ((x.rules.take (k+1)).map sizeR)
 | none=>0)
def atS(s:Sc)(p:Pl):Int:=if p.v ≥ 0 then(match s.vars[p.v.toNat]? with
  | some v=>Za4 s p.v.toNat v
  | none=>0)else if p.s < 0 then Zeg s else match s.states[p.s.toNat]? with
  | none=>0
  | some x=>if p.r < 0 then Zde s p.s.toNat x else match x.rules[p.r.toNat]? with
   | none=>0
   | some r=>if p.a < 0 then ZcM s r (totals s p.s.toNat p.r.toNat)else match r.acts[p.a.toNat]? with
    | none=>0
    | some a=>if p.p < 0 then ZaO s r a else match a.parts[p.p.toNat]? with
     | none=>0
     | some q=>ZcW s r a.parts p.p.toNat q
def Sc.problems(s:Sc):List (Pl×Int):=s.places.filterMap λp=>if atS s p=0 then none else some (p,atS s p)
def Sc.check(s:Sc):Pl×Int:=if s.light then(match s.problems with
 | p::_=>p
 | []=>(top,0))else(top,5)
theorem Zbf(n:Nat)(f:Nat->List Pl):Zdp (n+1) f=Zdp n f++f n:=by simp[Zdp,List.range_succ,List.flatMap_append]
theorem Zrh{i n:Nat}(h:i<=n)(f:Nat->List Pl):(Zdp i f).length<=(Zdp n f).length:=by
 induction n with
 | zero=>
  obtain rfl:i=0:=by omega
  exact Nat.le_refl _
 | succ n ih=>
  by_cases e:i=n+1
  ·rw[e];exact Nat.le_refl _
  ·have:=ih (by omega)
   rw[Zbf,zA1];omega
theorem ZfX(n:Nat)(f:Nat->Pl):(Zdp n λi=>[f i]).length=n:=by
 induction n with
 | zero=>rfl
 | succ n ih=>rw[Zbf,zA1,ih];rfl
theorem Zm8{α:Type}(l:List α)(F:Nat->List Pl)(g:Nat->α->List Pl)(w:α->Int)(hF:∀i x,l[i]?=some x->F i=g i x)(hw:∀i x,x∈l->((g i x).length:Int)<=w x):∀k,k<=l.length->((Zdp k F).length:Int)<=ZbA ((l.take k).map w):=by
 intro k
 induction k with
 | zero=>intro _;simp[Zdp,ZbA]
 | succ k ih=>
  intro hk
  have:=ih (by omega)
  have hx:l[k]?=some l[k]:=zA3 (by omega)
  have h2:=hw k l[k] (List.getElem_mem _)
  rw[Zbf,zA1,ZeI w hx,hF k _ hx]
  push_cast
  omega
def Hf(i k:Nat)(r:Ru)(m:Nat):List Pl:=match r.acts[m]? with
 | some a=>plA i k m a
 | none=>[]
def Gf(i:Nat)(x:Sta)(k:Nat):List Pl:=match x.rules[k]? with
 | some r=>plR i k r
 | none=>[]
def Ff(s:Sc)(i:Nat):List Pl:=match s.states[i]? with
 | some x=>plS i x
 | none=>[]
def Pf(i k m n:Nat):List Pl:=[⟨-1,i,k,m,n⟩]
def Vf(i:Nat):List Pl:=[⟨i,-1,-1,-1,-1⟩]
theorem Zol(i k m:Nat)(a:Ac):plA i k m a=⟨-1,i,k,m,-1⟩::Zdp a.parts.length (Pf i k m):=rfl
theorem Zom(i k:Nat)(r:Ru):plR i k r=⟨-1,i,k,-1,-1⟩::Zdp r.acts.length (Hf i k r):=rfl
theorem Zon(i:Nat)(x:Sta):plS i x=⟨-1,i,-1,-1,-1⟩::Zdp x.rules.length (Gf i x):=rfl
theorem Zg1{s:Sc}(h:s.light=true):s.places=top::(Zdp s.vars.length Vf++Zdp s.states.length (Ff s)):=by unfold Sc.places;rw[if_pos h];rfl
theorem ZhY(s:Sc):s.places.length<=20001:=by
 cases h:s.light with
 | false=>unfold Sc.places;rw[h];simp
 | true=>
  have hw:s.weight<=20000:=by unfold Sc.light at h;exact zA6 h
  rw[Zg1 h,List.length_cons,zA1]
  have h1:(Zdp s.vars.length Vf).length=s.vars.length:=ZfX _ _
  have hA:∀i k m (a:Ac),((plA i k m a).length:Int)<=wA a:=λi k m a=>by
   rw[Zol,List.length_cons,show(Zdp a.parts.length (Pf i k m)).length=a.parts.length from ZfX _ _]
   have:=(Zok a.e).1
   have:=Zfj (λp:Pt=>nE p.e) (λp=>(Zok p.e).1) a.parts
   unfold wA;push_cast;omega
  have hR:∀i k (r:Ru),((plR i k r).length:Int)<=wR r:=λi k r=>by
   rw[Zom,List.length_cons]
   have:=Zm8 r.acts (Hf i k r) (plA i k) wA (λm a h=>by unfold Hf;rw[h]) (λj x _=>hA i k j x) r.acts.length (Nat.le_refl _)
   rw[List.take_length]at this
   have h1:=(Zjd r.t).1
   have h2:0<=Zgx r.t.size 20000:=by unfold Zgx;split <;> omega
   have h3:((Zdp r.acts.length (Hf i k r)).length:Int)<=ZbA (r.acts.map wA):=this
   unfold wR;push_cast;split <;> omega
  have hS:∀i (x:Sta),((plS i x).length:Int)<=1+wS x:=λi x=>by
   rw[Zon,List.length_cons]
   have:=Zm8 x.rules (Gf i x) (plR i) wR (λm a h=>by unfold Gf;rw[h]) (λj x _=>hR i j x) x.rules.length (Nat.le_refl _)
   rw[List.take_length]at this
   have h3:((Zdp x.rules.length (Gf i x)).length:Int)<=ZbA (x.rules.map wR):=this
   unfold wS;push_cast;omega
  have:=Zm8 s.states (Ff s) plS (λx=>1+wS x) (λm a h=>by unfold Ff;rw[h]) (λj x _=>hS j x) s.states.length (Nat.le_refl _)
  rw[List.take_length]at this
  have h3:((Zdp s.states.length (Ff s)).length:Int)<=ZbA (s.states.map λx=>1+wS x):=this
  have h4:∀l:List Sta,ZbA (l.map λx=>1+wS x)=l.length+ZbA (l.map wS):=λl=>by
   induction l with
   | nil=>rfl
   | cons x l ih=>simp only[List.map_cons,ZbA,ih,List.length_cons];push_cast;omega
  rw[h4]at h3
  unfold Sc.weight at hw
  omega
theorem ZhZ{n:Nat}{f:Nat->List Pl}{p:Pl}(h:p∈Zdp n f):∃i,i < n/\p∈f i:=by
 unfold Zdp at h
 obtain⟨i,hi,hp⟩:=List.mem_flatMap.1 h
 exact⟨i,List.mem_range.1 hi,hp⟩
def ZA8(s:Sc)(p:Pl):Prop:=(∃i:Nat,p.v=i/\∃v,s.vars[i]?=some v)\/(p.v < 0/\(p.s < 0\/∃i:Nat,p.s=i/\∃x,s.states[i]?=some x/\(p.r < 0\/∃k:Nat,p.r=k/\∃r,x.rules[k]?=some r/\(p.a < 0\/∃j:Nat,p.a=j/\∃a,r.acts[j]?=some a/\(p.p < 0\/∃n:Nat,p.p=n/\∃q,a.parts[n]?=some q)))))
theorem Zze:(-1:Int) < 0:=by decide
theorem ZjU{α:Type}{l:List α}{n:Nat}(h:n < l.length):∃c,l[n]?=some c:=⟨_,zA3 h⟩
theorem Zg2(s:Sc):∀p∈s.places,ZA8 s p:=by
 intro p hp
 cases h:s.light with
 | false=>unfold Sc.places at hp;rw[h]at hp;simp at hp
 | true=>
  rw[Zg1 h]at hp
  rcases List.mem_cons.1 hp with rfl|hp
  ·exact .inr ⟨by decide,.inl (by decide)⟩
  rcases List.mem_append.1 hp with hp|hp
  ·obtain⟨i,hi,hp⟩:=ZhZ hp
   obtain rfl:p=⟨i,-1,-1,-1,-1⟩:=by simpa[Vf]using hp
   exact .inl ⟨i,rfl,ZjU hi⟩
  ·obtain⟨i,hi,hp⟩:=ZhZ hp
   obtain⟨x,hx⟩:=ZjU hi
   have hp:p∈plS i x:=by unfold Ff at hp;rw[hx]at hp;exact hp
   rw[Zon]at hp
   rcases List.mem_cons.1 hp with rfl|hp
   ·exact .inr ⟨Zze,.inr ⟨i,rfl,x,hx,.inl (Zze)⟩⟩
   obtain⟨k,hk,hp⟩:=ZhZ hp
   obtain⟨r,hr⟩:=ZjU hk
   have hp:p∈plR i k r:=by unfold Gf at hp;rw[hr]at hp;exact hp
   rw[Zom]at hp
   rcases List.mem_cons.1 hp with rfl|hp
   ·exact .inr ⟨Zze,.inr ⟨i,rfl,x,hx,.inr ⟨k,rfl,r,hr,.inl (Zze)⟩⟩⟩
   obtain⟨j,hj,hp⟩:=ZhZ hp
   obtain⟨a,ha⟩:=ZjU hj
   have hp:p∈plA i k j a:=by unfold Hf at hp;rw[ha]at hp;exact hp
   rw[Zol]at hp
   rcases List.mem_cons.1 hp with rfl|hp
   ·exact .inr ⟨Zze,.inr ⟨i,rfl,x,hx,.inr ⟨k,rfl,r,hr,.inr ⟨j,rfl,a,ha,.inl (Zze)⟩⟩⟩⟩
   obtain⟨n,hn,hp⟩:=ZhZ hp
   obtain rfl:p=⟨-1,i,k,j,n⟩:=by simpa[Pf]using hp
   exact .inr ⟨Zze,.inr ⟨i,rfl,x,hx,.inr ⟨k,rfl,r,hr,.inr ⟨j,rfl,a,ha,.inr ⟨n,rfl,ZjU hn⟩⟩⟩⟩⟩
end Go.Rx
namespace Go.Rx
open Go Go.Eng Go.RowKit
def T.good(t:T):Bool:=t.nodes.all T.right
def isG(t:T):Bool:=t.k == 6
theorem Zlq(p:T->Bool):∀l:List T,(Zax l).all p=l.all λt=>t.nodes.all p
 | []=>rfl
 | t::l=>by simp only[Zax,List.all_append,List.all_cons,Zlq p l]
theorem Zoo(t:T):t.good=(t.right&&t.subs.all T.good):=by
 unfold T.good;rw[Zcx,List.all_cons,Zlq]
def grL(l:List T):Nat:=(Zax l).countP isG
def szL(l:List T):Nat:=(Zax l).length
def T.gr(t:T):Nat:=t.nodes.countP isG
theorem ZaA(l r:List T):szL (l++r)=szL l+szL r:=by unfold szL;rw[Zc4,zA1]
theorem ZbB(l r:List T):grL (l++r)=grL l+grL r:=by unfold grL;rw[Zc4,List.countP_append]
theorem Zbk(t:T):szL [t]=t.nodes.length:=by simp[szL,Zax]
theorem Zc5(t:T):grL [t]=t.gr:=by simp[grL,Zax,T.gr]
theorem Zcz(t:T):ZeG [t]=t.pos:=by simp[ZeG]
theorem ZeJ(t:T)(l:List T):szL (t::l)=t.nodes.length+szL l:=by simp[szL,Zax]
theorem Zri(t:T)(l:List T):grL (t::l)=t.gr+grL l:=by simp[grL,Zax,T.gr,List.countP_append]
theorem ZjV(t:T):t.nodes.length=1+szL t.subs:=by rw[Zcx,List.length_cons,szL];omega
theorem ZwF(t:T):t.gr=(if isG t=true then 1 else 0)+grL t.subs:=by
 unfold T.gr;rw[Zcx,List.countP_cons,grL];omega
theorem Zop(l:List T):l.length<=szL l:=by
 induction l with
 | nil=>simp
 | cons t l ih=>rw[ZeJ,ZjV,List.length_cons];omega
def ZaY(k:Int)(t:T):List T:=if t.k=k then t.subs else if k=3/\t.k=1 then[]else[t]
def Zfl(k:Int)(a:Option Addr)(c:Nat):List T->T
 | []=>T1
 | [x]=>x
 | x::y::l=>ZbO k 0 0 a c (x::y::l)
theorem ZjW{t:T}{k:Int}(h:t.has k=false):∀x∈t.subs,x.k≠k:=by
 intro x hx e
 unfold T.has at h
 have:=List.any_eq_false.1 h x hx
 simp[e]at this
theorem Zvj{t:T}{k:Int}(h:∀x∈t.subs,x.k≠k):t.has k=false:=by
 unfold T.has
 rw[List.any_eq_false]
 intro x hx
 have:=h x hx
 simpa using this
theorem ZjX{k:Int}{t:T}(hk:k=3\/k=4)(hg:t.good=true)(hp:t.pos<=10000):(∀x∈ZaY k t,x.good=true/\x.k≠k/\(k=3->x.k≠1))/\szL (ZaY k t)<=t.nodes.length/\grL (ZaY k t)<=t.gr/\ZeG (ZaY k t)<=t.pos:=by
 have hg':=hg
 rw[Zoo,zA7,List.all_eq_true]at hg'
 unfold ZaY
 split
 ·rename_i dA
  refine⟨λx hx=>⟨hg'.2 x hx,?_⟩,by rw[ZjV];omega,by rw[ZwF];omega,?_⟩
  ·have hr:=hg'.1
   unfold T.right at hr
   rw[zA7]at hr
   have hr:=hr.2
   rcases hk with rfl|rfl
   ·simp only[dA]at hr
    simp at hr
    exact⟨ZjW hr.2.2 x hx,λ_=>ZjW hr.2.1 x hx⟩
   ·simp only[dA]at hr
    simp at hr
    exact⟨ZjW hr.2 x hx,λh=>by omega⟩
  ·rw[Zqe]at hp ⊢
   have h5:¬t.k=5:=by omega
   have h2:¬t.k=2:=by omega
   unfold ZwD at hp ⊢
   rw[if_neg h5,if_neg h2,Int.zero_add]at hp ⊢
   unfold Zgx at hp ⊢
   split at hp
   ·omega
   ·split <;> omega
 ·rename_i dA
  split
  ·refine⟨λx hx=>by simp at hx,by simp[szL,Zax],by simp[grL,Zax],?_⟩
   simp only[ZeG];exact(Zid t).1
  ·rename_i wh
   refine⟨λx hx=>?_,by rw[Zbk];exact Nat.le_refl _,by rw[Zc5];exact Nat.le_refl _,by rw[Zcz];exact Int.le_refl _⟩
   simp at hx;subst hx
   exact⟨hg,dA,λh=>λh1=>wh ⟨h,h1⟩⟩
theorem Zoq{k:Int}(hk:k=3\/k=4)(a:Option Addr)(c:Nat):∀{l:List T},(∀x∈l,x.good=true/\x.k≠k/\(k=3->x.k≠1))->(Zfl k a c l).good=true/\(Zfl k a c l).nodes.length<=1+szL l/\(Zfl k a c l).gr<=grL l/\(Zfl k a c l).pos<=ZeG l
 | [],_=>⟨show T1.good=true by decide,show T1.nodes.length<=1 by decide,show T1.gr<=0 by decide,show T1.pos<=0 by decide⟩
 | [x],h=>by
  rw[Zbk,Zc5,Zcz]
  exact⟨(h x (by simp)).1,by show x.nodes.length<=_;omega,Nat.le_refl _,Int.le_refl _⟩
 | x::y::l,h=>by
  show(ZbO k 0 0 a c (x::y::l)).good=true/\(ZbO k 0 0 a c (x::y::l)).nodes.length<=_/\(ZbO k 0 0 a c (x::y::l)).gr<=_/\(ZbO k 0 0 a c (x::y::l)).pos<=_
  have hs:(ZbO k 0 0 a c (x::y::l)).subs=x::y::l:=rfl
  have dA:(ZbO k 0 0 a c (x::y::l)).k=k:=rfl
  have hz:(ZbO k 0 0 a c (x::y::l)).setZ=true:=rfl
  have ux:(ZbO k 0 0 a c (x::y::l)).mn=0:=rfl
  have lU:(ZbO k 0 0 a c (x::y::l)).mx=0:=rfl
  refine⟨?_,by rw[ZjV,hs];exact Nat.le_refl _,?_,?_⟩
  ·rw[Zoo,zA7,List.all_eq_true,hs]
   refine⟨?_,λz hz=>(h z hz).1⟩
   have h1:k=3->(ZbO k 0 0 a c (x::y::l)).has 1=false:=λe=>Zvj λz hz=>(h z hz).2.2 e
   have h2:(ZbO k 0 0 a c (x::y::l)).has k=false:=Zvj λz hz=>(h z hz).2.1
   unfold T.right
   rw[dA,hz,ux,lU,hs]
   rcases hk with rfl|rfl
   ·simp[h1 rfl,h2]
   ·simp[h2]
  ·rw[ZwF,hs,isG,dA]
   rcases hk with rfl|rfl <;> simp
  ·rw[Zqe,dA,ux,lU,hs]
   unfold ZwD
   rw[if_neg (by omega),if_neg (by omega),Int.zero_add]
   exact(Zlg _ _).1
structure J (i:Nat)(ts:List T)(u g:Nat):Prop where
 good:∀t∈ts,t.good=true
 sz:szL ts<=i
 pos:ZeG ts<=(i*u:Nat)
 u1:1<=u
 u16:u<=16
 gr:grL ts<=g
 g9:g<=9
theorem J.zero:J 0 [] 1 0:=⟨by simp,by simp[szL,Zax],by simp[ZeG],by omega,by omega,by simp[grL,Zax],by omega⟩
theorem J.skip{i ts u g}(h:J i ts u g):J (i+1) ts u g:=
 ⟨h.good,by have:=h.sz;omega,by have:=h.pos;have e:(i+1)*u=i*u+u:=Nat.succ_mul i u;rw[e];omega,h.u1,h.u16,h.gr,h.g9⟩
theorem J.push{i ts u g}(h:J i ts u g){t:T}(hg:t.good=true)(hs:t.nodes.length=1)(hp:t.pos<=1)(hr:t.gr=0):J (i+1) (ts++[t]) u g:=by
 refine⟨λx hx=>?_,?_,?_,h.u1,h.u16,?_,h.g9⟩
 ·rcases List.mem_append.1 hx with hx|hx
  ·exact h.good x hx
  ·simp at hx;subst hx;exact hg
 ·rw[ZaA,Zbk,hs];have:=h.sz;omega
 ·rw[Zbc,Zcz];have:=h.pos;have:=h.u1;have e:(i+1)*u=i*u+u:=Nat.succ_mul i u;rw[e];omega
 ·rw[ZbB,Zc5,hr];have:=h.gr;omega
theorem J.pos400{i ts u g}(h:J i ts u g)(hi:i<=25):ZeG ts<=400:=by
 have h1:=h.pos
 have:i*u<=25*16:=Nat.mul_le_mul hi h.u16
 omega
theorem J.join{i ts u g}{x y:T}(h:J i (ts++[x,y]) u g)(hi:i<=25){k:Int}(hk:k=3\/k=4)(a:Option Addr)(c:Nat):J (i+1) (ts++[Zfl k a c (ZaY k x++ZaY k y)]) u g:=by
 have h4:=h.pos400 hi
 have hz:=h.sz
 have hp:=h.pos
 have mr:=h.gr
 rw[show ts++[x,y]=ts++([x]++[y]) from rfl]at h4 hz hp mr
 rw[Zbc,Zbc,Zcz,Zcz]at h4 hp
 rw[ZaA,ZaA,Zbk,Zbk]at hz
 rw[ZbB,ZbB,Zc5,Zc5]at mr
 have n1:=ZgZ ts
 have n2:=(Zid x).1
 have n3:=(Zid y).1
 obtain⟨a1,a2,a3,a4⟩:=ZjX hk (h.good x (by simp)) (by omega)
 obtain⟨b1,b2,b3,b4⟩:=ZjX hk (h.good y (by simp)) (by omega)
 obtain⟨c1,c2,c3,c4⟩:=Zoq hk a c (l:=ZaY k x++ZaY k y) (λz hz=>by
  rcases List.mem_append.1 hz with hz|hz
  ·exact a1 z hz
  ·exact b1 z hz)
 rw[ZaA]at c2
 rw[ZbB]at c3
 rw[Zbc]at c4
 refine⟨λz hz=>?_,?_,?_,h.u1,h.u16,?_,h.g9⟩
 ·rcases List.mem_append.1 hz with hz|hz
  ·exact h.good z (by simp[hz])
  ·simp at hz;subst hz;exact c1
 ·rw[ZaA,Zbk];omega
 ·rw[Zbc,Zcz];have e:(i+1)*u=i*u+u:=Nat.succ_mul i u;rw[e];omega
 ·rw[ZbB,Zc5];omega
theorem J.group{i ts u g}{x:T}(h:J i (ts++[x]) u g)(hg:g < 9)(a:Option Addr)(c:Nat):J (i+1) (ts++[ZbO 6 0 0 a c [x]]) u (g+1):=by
 have hz:=h.sz
 have hp:=h.pos
 have mr:=h.gr
 rw[Zbc,Zcz]at hp
 rw[ZaA,Zbk]at hz
 rw[ZbB,Zc5]at mr
 have hs:(ZbO 6 0 0 a c [x]).subs=[x]:=rfl
 refine⟨λz hz=>?_,?_,?_,h.u1,h.u16,?_,by omega⟩
 ·rcases List.mem_append.1 hz with hz|hz
  ·exact h.good z (by simp[hz])
  ·simp at hz;subst hz
   rw[Zoo,zA7,List.all_eq_true]
   refine⟨rfl,λz hz=>?_⟩
   rw[hs]at hz;simp at hz;subst hz
   exact h.good z (by simp)
 ·rw[ZaA,Zbk,ZjV,hs,Zbk];omega
 ·rw[Zbc,Zcz,Zqe,hs,Zcz]
  have:ZwD (ZbO 6 0 0 a c [x]).k (ZbO 6 0 0 a c [x]).mn (ZbO 6 0 0 a c [x]).mx ((if(ZbO 6 0 0 a c [x]).k=2 then 1 else 0)+x.pos)<=x.pos:=by
   show Zgx (if(6:Int)=5 then _ else(if(6:Int)=2 then 1 else 0)+x.pos) 10001<=_
   rw[if_neg (by omega),if_neg (by omega),Int.zero_add]
   exact(Zlg _ _).1
  have e:(i+1)*u=i*u+u:=Nat.succ_mul i u
  rw[e];omega
 ·rw[ZbB,Zc5,ZwF,hs,Zc5]
  split <;> omega
theorem J.rep{i ts u g}{x:T}(h:J i (ts++[x]) u g)(hx:x.k≠1){mn mx:Int}(hb:ZjO mn mx=true){w:Nat}(hw:Zvg mn mx<=w)(h1:1<=w)(hu:u*w<=16)(a:Option Addr)(c:Nat):J (i+1) (ts++[ZbO 5 mn mx a c [x]]) (u*w) g:=by
 have hz:=h.sz
 have hp:=h.pos
 have mr:=h.gr
 rw[Zbc,Zcz]at hp
 rw[ZaA,Zbk]at hz
 rw[ZbB,Zc5]at mr
 have hs:(ZbO 5 mn mx a c [x]).subs=[x]:=rfl
 have n1:=ZgZ ts
 have n2:=(Zid x).1
 refine⟨λz hz=>?_,?_,?_,?_,hu,?_,h.g9⟩
 ·rcases List.mem_append.1 hz with hz|hz
  ·exact h.good z (by simp[hz])
  ·simp at hz;subst hz
   rw[Zoo,zA7,List.all_eq_true]
   refine⟨?_,λz hz=>?_⟩
   ·have hh:(ZbO 5 mn mx a c [x]).has 1=false:=Zvj λz hz=>by rw[hs]at hz;simp at hz;subst hz;exact hx
    unfold T.right
    rw[hh,hs,show(ZbO 5 mn mx a c [x]).k=5 from rfl,show(ZbO 5 mn mx a c [x]).setZ=true from rfl,show(ZbO 5 mn mx a c [x]).mn=mn from rfl,show(ZbO 5 mn mx a c [x]).mx=mx from rfl,hb]
    simp
   ·rw[hs]at hz;simp at hz;subst hz
    exact h.good z (by simp)
 ·rw[ZaA,Zbk,ZjV,hs,Zbk];omega
 ·rw[Zbc,Zcz,Zqe,hs,Zcz]
  have key:ZwD (ZbO 5 mn mx a c [x]).k (ZbO 5 mn mx a c [x]).mn (ZbO 5 mn mx a c [x]).mx ((if(ZbO 5 mn mx a c [x]).k=2 then 1 else 0)+x.pos)<=x.pos*w:=by
   show Zgx (if(5:Int)=5 then((if(5:Int)=2 then 1 else 0)+x.pos)*Zvg mn mx else _) 10001<=_
   rw[if_pos rfl,if_neg (by omega),Int.zero_add]
   exact Int.le_trans (Zlg _ _).1 (Int.mul_le_mul_of_nonneg_left hw n2)
  have k2:ZeG ts<=ZeG ts*w:=by
   have:=Int.mul_le_mul_of_nonneg_left (show(1:Int)<=w by omega) n1
   rw[Int.mul_one]at this;exact this
  have k3:(ZeG ts+x.pos)*w<=((i*u:Nat):Int)*w:=Int.mul_le_mul_of_nonneg_right hp (by omega)
  rw[Int.add_mul]at k3
  have e:(i+1)*(u*w)=i*u*w+u*w:=by rw[Nat.succ_mul,Nat.mul_assoc]
  have e2:(((i*u:Nat):Int)*w)=((i*u*w:Nat):Int):=by push_cast;rfl
  rw[e2]at k3
  rw[e]
  generalize i*u*w=A at *
  generalize u*w=B at *
  generalize ZeG ts*(w:Int)=D at *
  generalize x.pos*(w:Int)=F at *
  omega
 ·have:=Nat.mul_le_mul h.u1 h1;omega
 ·rw[ZbB,Zc5,ZwF,hs,Zc5,isG,show(ZbO 5 mn mx a c [x]).k=5 from rfl]
  simp;omega
structure F (t:T)(l:List T):Prop where
 good:t.good=true
 goods:∀x∈l,x.good=true
 sz:t.nodes.length+szL l+l.length<=60
 pos:t.pos+ZeG l<=400
 gr:t.gr+grL l<=9
theorem F.start{i u g}{t:T}{l:List T}(h:J i (t::l) u g)(hi:i<=25):F t l:=by
 have h1:=h.sz
 have h2:=h.pos400 hi
 have h3:=h.gr
 rw[ZeJ]at h1
 rw[Zri]at h3
 have:=Zop l
 have:=h.g9
 exact⟨h.good t (by simp),λx hx=>h.good x (by simp[hx]),by omega,by simpa[ZeG]using h2,by omega⟩
theorem F.step{t x:T}{l:List T}(h:F t (x::l))(a:Option Addr)(c:Nat):F (Zfl 4 a c (ZaY 4 t++ZaY 4 x)) l:=by
 have h1:=h.sz
 have h2:=h.pos
 have h3:=h.gr
 rw[ZeJ,List.length_cons]at h1
 rw[Zri]at h3
 simp only[ZeG]at h2
 have n1:=ZgZ l
 have n2:=(Zid x).1
 have n3:=(Zid t).1
 obtain⟨a1,a2,a3,a4⟩:=ZjX (.inr rfl) h.good (by omega) (t:=t)
 obtain⟨b1,b2,b3,b4⟩:=ZjX (.inr rfl) (h.goods x (by simp)) (by omega)
 obtain⟨c1,c2,c3,c4⟩:=Zoq (.inr rfl) a c (l:=ZaY 4 t++ZaY 4 x) (λz hz=>by
  rcases List.mem_append.1 hz with hz|hz
  ·exact a1 z hz
  ·exact b1 z hz)
 rw[ZaA]at c2
 rw[ZbB]at c3
 rw[Zbc]at c4
 exact⟨c1,λz hz=>h.goods z (by simp[hz]),by omega,by omega,by omega⟩
theorem F.done{t:T}{l:List T}(h:F t l):t.check=0:=by
 have h1:=h.sz
 have h2:=h.pos
 have h3:=h.gr
 have n1:=ZgZ l
 have hl:t.light=true:=by unfold T.light;exact decide_eq_true (by omega)
 have hc:t.clean=true:=by unfold T.clean;rw[hl];exact h.good
 have hg:((t.nodes.countP λx=>x.k == 6:Nat))=t.gr:=rfl
 unfold T.check
 rw[hc]
 unfold T.size T.positions T.groups
 rw[hl,hg]
 simp only[if_true,Bool.true_eq_false,if_false]
 rw[if_neg (by omega),if_neg (by omega),if_neg (by omega)]
theorem Zrj(n:Nat):(ZjQ (Zds n)).good=true/\(ZjQ (Zds n)).nodes.length=1/\(ZjQ (Zds n)).pos<=1/\(ZjQ (Zds n)).gr=0:=by
 have h:n % 12=0\/n % 12=1\/n % 12=2\/n % 12=3\/n % 12=4\/n % 12=5\/n % 12=6\/n % 12=7\/n % 12=8\/n % 12=9\/n % 12=10\/n % 12=11:=by omega
 unfold Zds
 rcases h with e|e|e|e|e|e|e|e|e|e|e|e <;> rw[e] <;> exact⟨by decide,by decide,by decide,by decide⟩
theorem Zxm:T1.good=true/\T1.nodes.length=1/\T1.pos<=1/\T1.gr=0:=⟨by decide,by decide,by decide,by decide⟩
theorem Zei{k:Int}{t:T}:(ZaY k t).length<=t.nodes.length:=by
 unfold ZaY
 have:=Zup t
 have:=ZjV t
 split
 ·omega
 ·split <;> simp <;> omega
end Go.Rx
namespace Go.Rx
open Go Go.Eng
set_option maxRecDepth 100000
def Zgy:List ByteArray:=[⟨#[120]⟩,⟨#[121]⟩,⟨#[122,95,49]⟩,⟨#[97,98,99,100,101,102,103,104,105,106,107,108,109,110,111,112]⟩]
def Zdd:List ByteArray:=[⟨#[115]⟩,⟨#[116]⟩]
def ZwG:List ByteArray:=[⟨#[97]⟩,⟨#[98]⟩,⟨#[99]⟩,⟨#[100]⟩]
def okN(c:Int)(x:E):Prop:=x.right=true/\(x.k=9->x.s∈Zgy)/\(x.k=10->x.g<=c)
structure MkE (c:Int)(n:Nat)(e:E):Prop where
 all:∀x∈e.nodes,okN c x
 len:e.nodes.length<=n
def ZzS(x:Nat):E:=.node 8 x .empty 0 none 0 []
def Zys(s:ByteArray):E:=.node 9 0 s 0 none 0 []
def ZAu(g:Int):E:=.node 10 0 .empty g none 0 []
def Zyt(a:Option Addr)(c:Nat)(x:E):E:=.node 1 0 .empty 0 a c [x]
def opE(k:Int)(a:Option Addr)(c:Nat)(x y:E):E:=.node k 0 .empty 0 a c [x,y]
theorem MkE.mono{c n k e}(h:MkE c n e)(hk:n<=k):MkE c k e:=⟨h.all,Nat.le_trans h.len hk⟩
theorem Zm9{c:Int}{k x s g a d}(h:okN c (.node k x s g a d [])):MkE c 1 (.node k x s g a d []):=by
 refine⟨λy hy=>?_,by simp[E.nodes,Zan]⟩
 simp only[E.nodes,Zan,List.mem_singleton]at hy
 rw[hy];exact h
theorem ZsT:ZsR 0 0=true:=by decide +kernel
theorem Zuu{c:Int}{x:Nat}(h:Zfi x=true):MkE c 1 (ZzS x):=by
 refine Zm9 ⟨?_,λe=>absurd (show(8:Int)=9 from e) (by decide),λe=>absurd (show(8:Int)=10 from e) (by decide)⟩
 simp[E.right,E.k,E.s,E.x,E.g,E.subs,Zlp,h]
theorem Zrk:∀s∈Zgy,Zcb s=true:=by decide +kernel
theorem Zrl:∀s∈Zdd,Zcb s=true:=by decide +kernel
theorem Zrm:∀s∈ZwG,Zcb s=true:=by decide +kernel
theorem Zuv{c:Int}{s:ByteArray}(h:s∈Zgy):MkE c 1 (Zys s):=by
 refine Zm9 ⟨?_,λ_=>h,λe=>absurd (show(9:Int)=10 from e) (by decide)⟩
 simp[E.right,E.k,E.s,E.x,E.g,E.subs,Zlp,Zrk s h,ZsT]
theorem Zxn{c g:Int}(h:0<=g/\g<=9)(hc:g<=c):MkE c 1 (ZAu g):=by
 refine Zm9 ⟨?_,λe=>absurd (show(10:Int)=9 from e) (by decide),λ_=>hc⟩
 simp[E.right,E.k,E.s,E.x,E.g,E.subs,Zlp,ZsT,h.1,h.2]
theorem Zxo{c:Int}{n:Nat}{a d}{x:E}(h:MkE c n x)(hk:x.k≠8):MkE c (n+1) (Zyt a d x):=by
 refine⟨λy hy=>?_,by have:=h.len;simp[Zyt,E.nodes,Zan];omega⟩
 simp only[Zyt,E.nodes,Zan,List.append_nil,List.mem_cons]at hy
 rcases hy with rfl|hy
 ·refine⟨?_,λe=>absurd (show(1:Int)=9 from e) (by decide),λe=>absurd (show(1:Int)=10 from e) (by decide)⟩
  have h1:E.right (.node 1 0 .empty 0 a d [x])=!ZjT [x]:=by simp[E.right,E.k,E.s,E.x,E.g,E.subs,Zlp,ZsT]
  rw[h1]
  show(!(x.k == 8))=true
  simpa using hk
 ·exact h.all y hy
theorem Zxp{c:Int}{n p:Nat}{a d}{k:Int}{x y:E}(hk:2<=k/\k<=7)(h:MkE c n x)(h2:MkE c p y):MkE c (n+p+1) (opE k a d x y):=by
 refine⟨λz hz=>?_,by have:=h.len;have:=h2.len;simp[opE,E.nodes,Zan];omega⟩
 simp only[opE,E.nodes,Zan,List.append_nil,List.mem_cons,List.mem_append]at hz
 rcases hz with rfl|hz|hz
 ·refine⟨?_,λe=>?_,λe=>?_⟩
  ·have h0:¬k=0:=by omega
   have h1:¬k=1:=by omega
   have h9:¬k=9:=by omega
   have h8:¬k=8:=by omega
   have gU:¬k=10:=by omega
   have hs:Zlp k=2:=by unfold Zlp;rw[if_neg h1,if_pos hk]
   have bH:k<=10:=by omega
   simp[E.right,E.k,E.s,E.x,E.g,E.subs,hs,ZsT,h0,h1,h9,h8,gU,bH]
  ·have e:k=9:=e
   omega
  ·have e:k=10:=e
   omega
 ·exact h.all z hz
 ·exact h2.all z hz
theorem MkE.clean{c:Int}{n:Nat}{e:E}(h:MkE c n e)(hn:n<=10000):e.clean=true:=by
 have hl:e.light=true:=by unfold E.light;exact decide_eq_true (Nat.le_trans h.len hn)
 unfold E.clean
 rw[hl,Bool.true_and,List.all_eq_true]
 exact λx hx=>(h.all x hx).1
theorem Zxq{c:Int}(l:List E)(h:∀x∈l,x.k=10->x.g<=c):∀n:Int,n<=c->l.foldl (λn x=>if x.k=10 then(if x.g > n then x.g else n)else n) n<=c:=by
 induction l with
 | nil=>exact λn hn=>hn
 | cons x l ih=>
  intro n hn
  rw[List.foldl_cons]
  refine ih (λy hy=>h y (List.mem_cons_of_mem _ hy)) _ ?_
  split
  ·rename_i hk
   split
   ·exact h x (by simp) hk
   ·exact hn
  ·exact hn
theorem MkE.most{c:Int}{n:Nat}{e:E}(h:MkE c n e)(hc : -1<=c):e.most<=c:=by
 unfold E.most
 split
 ·exact Zxq _ (λx hx=>(h.all x hx).2.2) _ hc
 ·exact hc
mutual
theorem Zrn{A:List ByteArray}:∀(t:E)(out:List ByteArray),(∀x∈t.nodes,x.k=9->x.s∈A)->∀s∈t.names out,s∈out\/s∈A
 | .node k x s g a c l,out,h,z,hz=>by
  simp only[E.names]at hz
  split at hz
  ·rename_i hk
   split at hz
   ·exact .inl hz
   ·rcases List.mem_append.1 hz with hz|hz
    ·exact .inl hz
    ·rw[List.mem_singleton]at hz;subst hz
     exact .inr (h (.node k x z g a c l) (by simp[E.nodes]) hk)
  ·exact Zor l out (λy hy=>h y (by simp only[E.nodes];exact List.mem_cons_of_mem _ hy)) z hz
theorem Zor{A:List ByteArray}:∀(l:List E)(out:List ByteArray),(∀x∈Zan l,x.k=9->x.s∈A)->∀s∈ZbF l out,s∈out\/s∈A
 | [],out,_,z,hz=>.inl hz
 | t::l,out,h,z,hz=>by
  simp only[ZbF]at hz
  rcases Zor l _ (λy hy=>h y (by simp only[Zan];exact List.mem_append_right _ hy)) z hz with hz|hz
  ·exact Zrn t out (λy hy=>h y (by simp only[Zan];exact List.mem_append_left _ hy)) z hz
  ·exact .inr hz
end
theorem MkE.vars{c:Int}{n:Nat}{e:E}(h:MkE c n e):∀s∈e.vars,s∈Zgy:=by
 intro s hs
 unfold E.vars at hs
 split at hs
 ·rcases Zrn (A:=Zgy) e [] (λx hx=>(h.all x hx).2.1) s hs with h|h
  ·cases h
  ·exact h
 ·cases hs
theorem Zqi:Zlo E0=true:=by decide +kernel
inductive MkP (c:Int):Pt->Prop
 | lit (s:ByteArray) (h:0 < s.size/\s.size<=512):MkP c ⟨1,s,0,E0⟩
 | var (s:ByteArray) (h:s∈Zgy\/s∈Zdd):MkP c ⟨2,s,0,E0⟩
 | cap (g:Int) (h:0<=g/\g<=9/\g<=c):MkP c ⟨3,.empty,g,E0⟩
 | clc (e:E) (h:MkE c 20 e):MkP c ⟨4,.empty,0,e⟩
def ZAg(l:List Pt):Prop:=∀(i:Nat)(p q:Pt),l[i]?=some p->l[i+1]?=some q->p.k=1->q.k=1->False
structure MkT (c:Int)(l:List Pt):Prop where
 len:l.length<=5
 all:∀p∈l,MkP c p
 ll:ZAg l
inductive MkA (c:Int):Ac->Prop
 | send (a:Option Addr) (n:Nat) (l:List Pt) (h:MkT c l):MkA c ⟨1,.empty,a,n,l,E0⟩
 | set (s:ByteArray) (hs:s∈Zdd) (a:Option Addr) (n:Nat) (l:List Pt) (h:MkT c l):MkA c ⟨2,s,a,n,l,E0⟩
 | let_ (s:ByteArray) (hs:s∈Zgy) (e:E) (h:MkE c 20 e):MkA c ⟨3,s,none,0,[],e⟩
def ZyU(r:Ru):Prop:=(r.k=1/\r.t.check=0/\r.t.nodes.length<=26/\r.s=.empty/\r.n=0)\/((r.bg=false/\r.en=false/\r.t=T0)/\((r.k=2/\1<=r.s.size/\r.s.size<=3/\r.n=0)\/(r.k=3/\r.s=.empty/\r.n=0)\/(r.k=4/\r.s=.empty/\1<=r.n/\r.n<=8)))
structure MkR (n:Nat)(r:Ru):Prop where
 kind:ZyU r
 len:r.acts.length<=3
 all:∀a∈r.acts,MkA (Zbj r) a
 go:((∃i,i < n/\ZwG[i]?=some r.go)/\r.code=0)\/(r.go=.empty/\0<=r.code/\r.code<=255)
structure MkS (n i:Nat)(x:Sta):Prop where
 name:ZwG[i]?=some x.s
 len:x.rules.length<=5
 all:∀r∈x.rules,MkR n r
structure MkV (i:Nat)(v:Va):Prop where
 name:(Zgy++Zdd)[i]?=some v.s
 kind:(i < 4/\v.b=true/\v.t=.empty/\Zfi v.x=true)\/(4<=i/\v.b=false/\v.t.size<=3/\v.x=0)
structure MkC (s:Sc):Prop where
 n:2<=s.n/\s.n<=12
 vlen:s.vars.length=6
 vall:∀i v,s.vars[i]?=some v->MkV i v
 len:1<=s.states.length/\s.states.length<=4
 all:∀i x,s.states[i]?=some x->MkS s.states.length i x
theorem Zqj{n:Nat}{e:E}(h:e.nodes.length<=n)(hn:n<=10000):e.light=true:=by unfold E.light;exact decide_eq_true (by omega)
theorem ZzT{n:Nat}{e:E}(h:e.nodes.length<=n)(hn:n<=10000):nE e<=n:=by
 unfold nE E.size;rw[Zqj h hn];simp;omega
theorem nE0:nE E0<=20:=by decide +kernel
theorem Zej{α:Type}(f:α->Int)(B:Int)(l:List α)(hf:∀x∈l,f x<=B):ZbA (l.map f)<=l.length*B:=by
 induction l with
 | nil=>simp[ZbA]
 | cons x l ih=>
  have h1:=hf x (by simp)
  have h2:=ih (λy hy=>hf y (by simp[hy]))
  simp only[List.map_cons,ZbA,List.length_cons]
  rw[show((l.length+1:Nat):Int)*B=l.length*B+B by rw[Int.natCast_add,Int.add_mul];simp]
  omega
theorem MkP.nE{c:Int}{p:Pt}(h:MkP c p):nE p.e<=20:=by
 cases h with
 | clc e h=>exact ZzT (n:=20) h.len (by omega)
 | _=>exact nE0
theorem MkA.w{c:Int}{a:Ac}(h:MkA c a):wA a<=126:=by
 have go:∀{l:List Pt},MkT c l->(l.length:Int)+ZbA (l.map λp=>Rx.nE p.e)<=105:=λ{l} h=>by
  have:=Zej (λp:Pt=>Rx.nE p.e) 20 l (λp hp=>(h.all p hp).nE)
  have:=h.len
  omega
 have e0:=nE0
 cases h with
 | send a n l h=>have:=go h;simp only[wA];omega
 | set s hs a n l h=>have:=go h;simp only[wA];omega
 | let_ s hs e h=>have:=ZzT h.len (by omega);simp[wA,ZbA];omega
theorem ZjY{t:T}(h:t.nodes.length<=10000):t.light=true:=by unfold T.light;exact decide_eq_true h
theorem Zos:T0.size=1/\T0.light=true/\T0.same T0=true:=by decide +kernel
theorem MkR.size{n:Nat}{r:Ru}(h:MkR n r):r.t.light=true/\0<=r.t.size/\r.t.size<=26:=by
 rcases h.kind with⟨_,_,h,_⟩|⟨⟨_,_,h⟩,_⟩
 ·have hl:=ZjY (t:=r.t) (by omega)
  refine⟨hl,?_⟩
  unfold T.size;rw[hl];simp;omega
 ·rw[h,Zos.1];exact⟨Zos.2.1,by omega,by omega⟩
theorem MkR.w{n:Nat}{r:Ru}(h:MkR n r):wR r<=405:=by
 obtain⟨h1,h2,h3⟩:=h.size
 have:=Zej wA 126 r.acts (λa ha=>(h.all a ha).w)
 have:=h.len
 have hi:Zgx r.t.size 20000<=26:=by unfold Zgx;split <;> omega
 unfold wR;rw[h1];simp;omega
theorem MkS.w{n i:Nat}{x:Sta}(h:MkS n i x):wS x<=2025:=by
 have:=Zej wR 405 x.rules (λa ha=>(h.all a ha).w)
 have:=h.len
 unfold wS;omega
theorem MkC.state{s:Sc}(h:MkC s){x:Sta}(hx:x∈s.states):∃i,s.states[i]?=some x/\MkS s.states.length i x:=by
 obtain⟨i,hi⟩:=List.getElem?_of_mem hx
 exact⟨i,hi,h.all i x hi⟩
theorem MkC.weight{s:Sc}(h:MkC s):s.weight<=8200:=by
 have:=Zej wS 2025 s.states (λx hx=>by obtain⟨i,_,h⟩:=h.state hx;exact h.w)
 have:=h.len
 have:=h.vlen
 unfold Sc.weight;omega
theorem MkC.light{s:Sc}(h:MkC s):s.light=true:=by unfold Sc.light;exact decide_eq_true (by have:=h.weight;omega)
theorem Zuw(s:ByteArray):eqS s s=true:=by unfold eqS;simp
theorem Zxr:∀j < 6,∀i < 6,j≠i->eqS ((Zgy++Zdd).getD j .empty) ((Zgy++Zdd).getD i .empty)=false:=by decide +kernel
theorem Zzf:∀j < 4,∀i < 4,j≠i->eqS (ZwG.getD j .empty) (ZwG.getD i .empty)=false:=by decide +kernel
theorem Zje{l:List ByteArray}{i:Nat}{s:ByteArray}(h:l[i]?=some s):l.getD i .empty=s:=by rw[List.getD_eq_getElem?_getD,h];rfl
theorem Zux{α:Type}{p:α->Bool}:∀{l:List α} {i:Nat} {x:α},l[i]?=some x->p x=true->(∀j y,j < i->l[j]?=some y->p y=false)->l.find? p=some x
 | [],i,x,h,_,_=>by simp at h
 | a::l,0,x,h,hp,_=>by
  simp at h;subst h
  rw[List.find?_cons_of_pos hp]
 | a::l,i+1,x,h,hp,hn=>by
  rw[List.find?_cons_of_neg (by rw[hn 0 a (by omega) rfl];simp)]
  exact Zux (l:=l) (i:=i) (by simpa using h) hp (λj y hj hy=>hn (j+1) y (by omega) (by simpa using hy))
theorem MkC.kind{s:Sc}(h:MkC s){i:Nat}{name:ByteArray}(hi:(Zgy++Zdd)[i]?=some name):Zbz s name=(decide (i < 4),true):=by
 have sE:i < 6:=(zA0 hi).1
 have aT:=h.vlen
 have hv:s.vars[i]?=some (s.vars[i]'(by omega)):=zA3 (by omega)
 have hm:=h.vall i _ hv
 generalize s.vars[i]'(by omega)=v at hv hm
 have hn:v.s=name:=Option.some.inj (hm.name.symm.trans hi)
 have hf:(s.vars.find? λv=>eqS v.s name)=some v:=Zux hv (by rw[hn];exact Zuw _) (λj y hj hy=>by
  have hy':=(h.vall j y hy).name
  have:=Zxr j (by omega) i sE (by omega)
  rwa [Zje hy',Zje hi]at this)
 unfold Zbz
 rw[hf]
 rcases hm.kind with⟨h4,hb,_⟩|⟨h4,hb,_⟩
 ·rw[decide_eq_true h4];show(v.b,true)=_;rw[hb]
 ·rw[decide_eq_false (by omega)];show(v.b,true)=_;rw[hb]
theorem MkC.num{s:Sc}(h:MkC s){name:ByteArray}(hn:name∈Zgy):Zbz s name=(true,true):=by
 obtain⟨i,hi⟩:=List.getElem?_of_mem hn
 have aG:i < 4:=(zA0 hi).1
 have:=h.kind (i:=i) (name:=name) (by rw[zA5 aG];exact hi)
 rwa [decide_eq_true aG]at this
theorem MkC.txt{s:Sc}(h:MkC s){name:ByteArray}(hn:name∈Zdd):Zbz s name=(false,true):=by
 obtain⟨i,hi⟩:=List.getElem?_of_mem hn
 have aG:i < 2:=(zA0 hi).1
 have:=h.kind (i:=4+i) (name:=name) (by rw[zA4 (show Zgy.length<=4+i by show 4<=_;omega)];show Zdd[4+i - 4]?=_;rw[show 4+i - 4=i by omega];exact hi)
 rwa [decide_eq_false (by omega)]at this
theorem MkC.numbers{s:Sc}(h:MkC s){c:Int}{n:Nat}{e:E}(he:MkE c n e):Za2 s e=true:=by
 unfold Za2
 rw[Bool.not_eq_true',List.any_eq_false]
 intro x hx
 rw[h.num (he.vars x hx)];simp
theorem MkC.finds{s:Sc}(h:MkC s){i:Nat}{name:ByteArray}(hi:i < s.states.length)(hn:ZwG[i]?=some name):Zeh s name=true:=by
 unfold Zeh
 rw[h.light,Bool.and_true,List.any_eq_true]
 refine⟨s.states[i],List.getElem_mem _,?_⟩
 have:=(h.all i _ (zA3 hi)).name
 rw[hn]at this
 rw[<-Option.some.inj this];exact Zuw _
theorem ZcT{n a b:Int}:Zbe n a b=true↔a<=n/\n<=b:=by
 unfold Zbe
 rw[zA7,decide_eq_true_iff,decide_eq_true_iff]
theorem MkC.whole{s:Sc}(h:MkC s):Zeg s=0:=by
 have h1:Zbe s.n 2 256=true:=ZcT.2 (by have:=h.n;omega)
 have h2:Zbe s.states.length 1 24=true:=ZcT.2 (by have:=h.len;omega)
 have h3:decide (s.vars.length > 12)=false:=decide_eq_false (by have:=h.vlen;omega)
 simp[Zeg,ZaZ,h1,h2,h3]
theorem ZaB:ByteArray.empty.size=0:=rfl
theorem MkC.var{s:Sc}(h:MkC s){i:Nat}{v:Va}(hv:s.vars[i]?=some v):Za4 s i v=0:=by
 have hm:=h.vall i v hv
 have sE:i < 6:=by have:=(zA0 hv).1;have:=h.vlen;omega
 have h1:Zcb v.s=true:=by
  have bK:=zA2 hm.name
  rcases List.mem_append.1 bK with hx|hx
  ·exact Zrk _ hx
  ·exact Zrl _ hx
 have h2:Zfk v=true:=by
  unfold Zfk
  rcases hm.kind with⟨_,hb,ht,hx⟩|⟨_,hb,ht,hx⟩
  ·rw[hb,ht,hx];rfl
  ·rw[hb,hx]
   simp;omega
 have h3:((s.vars.take i).any λx=>eqS x.s v.s)=false:=by
  rw[List.any_eq_false]
  intro x hx
  obtain⟨j,hj⟩:=List.getElem?_of_mem hx
  have jW:j < i:=by have:=(zA0 hj).1;rw[List.length_take]at this;omega
  rw[List.getElem?_take_of_lt jW]at hj
  have:=Zxr j (by omega) i sE (by omega)
  rw[Zje (h.vall j x hj).name,Zje hm.name]at this
  rw[this];simp
 simp[Za4,ZaZ,h1,h2,h3]
theorem MkC.stateOk{s:Sc}(h:MkC s){i:Nat}{x:Sta}(hx:s.states[i]?=some x):Zde s i x=0:=by
 have hm:=h.all i x hx
 have wi:i < 4:=by have:=(zA0 hx).1;have:=h.len;omega
 have h1:Zcb x.s=true:=Zrm _ (zA2 hm.name)
 have h2:decide (x.rules.length > 12)=false:=decide_eq_false (by have:=hm.len;omega)
 have h3:((s.states.take i).any λy=>eqS y.s x.s)=false:=by
  rw[List.any_eq_false]
  intro y hy
  obtain⟨j,hj⟩:=List.getElem?_of_mem hy
  have jW:j < i:=by have:=(zA0 hj).1;rw[List.length_take]at this;omega
  rw[List.getElem?_take_of_lt jW]at hj
  have:=Zzf j (by omega) i wi (by omega)
  rw[Zje (h.all j y hj).name,Zje hm.name]at this
  rw[this];simp
 simp[Zde,ZaZ,h1,h2,h3]
theorem ZsU(t:T):0<=t.groups:=by unfold T.groups;split <;> omega
theorem Zro(r:Ru) : -1<=Zbj r:=by
 have:=ZsU r.t
 unfold Zbj;split
 ·omega
 ·split <;> omega
theorem ZyV{r:Ru}(h:r.bg=false/\r.en=false/\r.t=T0):Zr5 r=false:=by
 unfold Zr5;rw[h.1,h.2.1,h.2.2,Zos.2.1,Zos.2.2];rfl
theorem MkR.fields{n:Nat}{r:Ru}(h:MkR n r):ZaS r=true:=by
 unfold ZaS
 rcases h.kind with⟨hk,_,_,hs,hn⟩|⟨hx,⟨hk,h1,h2,hn⟩|⟨hk,hs,hn⟩|⟨hk,hs,h1,h2⟩⟩
 ·rw[hk,hs,hn];rfl
 ·rw[ZyV hx,hk,hn]
  have:Zbe r.s.size 1 64=true:=ZcT.2 (by omega)
  simp[this]
 ·rw[ZyV hx,hk,hs,hn];rfl
 ·rw[ZyV hx,hk,hs]
  have:Zbe r.n 1 1000=true:=ZcT.2 (by omega)
  simp[this,ZaB]
theorem MkR.sizeR{n:Nat}{r:Ru}(h:MkR n r):Rx.sizeR r<=26:=by
 unfold Rx.sizeR;split
 ·exact h.size.2.2
 ·omega
theorem MkS.sizes{n i:Nat}{x:Sta}(h:MkS n i x)(k:Nat):ZbA ((x.rules.take k).map Rx.sizeR)<=130:=by
 have:=Zej Rx.sizeR 26 (x.rules.take k) (λr hr=>(h.all r (List.mem_of_mem_take hr)).sizeR)
 have h1:=h.len
 rw[List.length_take]at this
 omega
theorem MkC.totals{s:Sc}(h:MkC s)(i k:Nat):Rx.totals s i k<=600:=by
 have h0:=h.len
 have h1:=Zej (λx:Sta=>ZbA (x.rules.map Rx.sizeR)) 130 (s.states.take i) (λx hx=>by
  obtain⟨j,_,hm⟩:=h.state (List.mem_of_mem_take hx)
  have:=hm.sizes x.rules.length
  rwa [List.take_length]at this)
 rw[List.length_take]at h1
 unfold Rx.totals
 cases hx:s.states[i]? with
 | none=>show _+0<=_;omega
 | some x=>
  have hi:=(zA0 hx).1
  have:=(h.all i x hx).sizes (k+1)
  show _+ZbA ((x.rules.take (k+1)).map Rx.sizeR)<=_
  omega
theorem Zna:∀s∈ZwG,s.size=1:=by decide +kernel
theorem MkC.rule{s:Sc}(h:MkC s){r:Ru}(hr:MkR s.states.length r){t:Int}(ht:t<=600):ZcM s r t=0:=by
 have h1:=hr.fields
 have h2:decide (r.acts.length > 8)=false:=decide_eq_false (by have:=hr.len;omega)
 have h3:(r.k == 1&&(!(r.t.check == 0)||decide (t > 600)))=false:=by
  rw[decide_eq_false (show ¬t > 600 by omega),Bool.or_false]
  rcases hr.kind with⟨_,hc,_⟩|⟨_,⟨hk,_⟩|⟨hk,_⟩|⟨hk,_⟩⟩
  ·rw[hc];simp
  ·rw[hk];rfl
  ·rw[hk];rfl
  ·rw[hk];rfl
 have h4:(if r.go.size=0 then !Zbe r.code 0 255 else !Zeh s r.go||!(r.code == 0))=false:=by
  rcases hr.go with⟨⟨i,hi,hn⟩,hc⟩|⟨hg,hc⟩
  ·rw[if_neg (by rw[Zna _ (zA2 hn)];omega),h.finds hi hn,hc];rfl
  ·rw[hg,if_pos ZaB,ZcT.2 hc];rfl
 unfold ZcM
 rw[h1,h2,h3,h4];rfl
theorem MkC.action{s:Sc}(h:MkC s){r:Ru}{a:Ac}(ha:MkA (Zbj r) a):ZaO s r a=0:=by
 have hz:=Zqi
 cases ha with
 | send a n l hl=>
  have h1:decide (l.length > 16)=false:=decide_eq_false (by have:=hl.len;omega)
  have h2:Zbe 1 1 3=true:=by decide
  unfold ZaO
  simp[ZaZ,h1,h2,hz,ZaB]
 | set t ht a n l hl=>
  have h1:decide (l.length > 16)=false:=decide_eq_false (by have:=hl.len;omega)
  have h2:Zbe 2 1 3=true:=by decide
  unfold ZaO
  simp[ZaZ,h1,h2,hz,h.txt ht]
 | let_ t ht e he=>
  have h2:Zbe 3 1 3=true:=by decide
  have h3:=he.clean (by omega)
  have h4:=h.numbers he
  have h5:decide (e.most > Zbj r)=false:=decide_eq_false (by have:=he.most (Zro r);omega)
  unfold ZaO
  simp only[ZaZ,h2,h3,h4,h5,h.num ht]
  rfl
def ZyW(l:List Pt)(i:Nat):Bool:=match l[i - 1]? with
 | some q=>q.k == 1
 | none=>false
theorem ZfY(s:Sc)(r:Ru)(l:List Pt)(i:Nat)(p:Pt):ZcW s r l i p=ZaZ [(307,!Za0 p||(decide (i > 0)&&(p.k == 1&&ZyW l i))),(308,(p.k == 2&&!(Zbz s p.s).2)||(p.k == 4&&!Za2 s p.e)),(309,(p.k == 3&&decide (p.g > Zbj r))||(p.k == 4&&decide (p.e.most > Zbj r)))]:=rfl
theorem MkC.part{s:Sc}(h:MkC s){r:Ru}{l:List Pt}(hl:MkT (Zbj r) l){i:Nat}{p:Pt}(hp:l[i]?=some p):ZcW s r l i p=0:=by
 have hz:=Zqi
 have h0:(decide (i > 0)&&(p.k == 1&&ZyW l i))=false:=by
  cases i with
  | zero=>rfl
  | succ i=>
   unfold ZyW
   rw[Nat.add_sub_cancel]
   cases hq:l[i]? with
   | none=>simp
   | some q=>
    have:=hl.ll i q p hq hp
    simp only[Bool.and_eq_false_iff]
    refine .inr ?_
    by_cases h1:p.k=1
    ·refine .inr ?_
     simp
     exact λh2=>this h2 h1
    ·refine .inl ?_
     simpa using h1
 have hm:=hl.all p (zA2 hp)
 rw[ZfY,h0]
 cases hm with
 | lit t ht=>
  have h1:Za0 ⟨1,t,0,E0⟩=true:=by simp[Za0,hz];omega
  rw[h1];rfl
 | var t ht=>
  have h1:Za0 ⟨2,t,0,E0⟩=true:=by
   have:Zcb t=true:=by
    rcases ht with ht|ht
    ·exact Zrk _ ht
    ·exact Zrl _ ht
   simp[Za0,hz,this]
  have h2:(Zbz s t).2=true:=by
   rcases ht with ht|ht
   ·rw[h.num ht]
   ·rw[h.txt ht]
  rw[h1]
  simp[ZaZ,h2]
 | cap g hg=>
  have h1:Za0 ⟨3,.empty,g,E0⟩=true:=by simp[Za0,hz,ZaB];omega
  have h2:decide (g > Zbj r)=false:=decide_eq_false (by omega)
  rw[h1]
  simp only[ZaZ,h2];rfl
 | clc e he=>
  have h1:Za0 ⟨4,.empty,0,e⟩=true:=by simp[Za0,he.clean,ZaB]
  have h2:decide (e.most > Zbj r)=false:=decide_eq_false (by have:=he.most (Zro r);omega)
  have h3:=h.numbers he
  rw[h1]
  simp only[ZaZ,h2,h3];rfl
theorem MkC.at0{s:Sc}(h:MkC s):∀p∈s.places,atS s p=0:=by
 intro p hp
 have hT:∀{r:Ru} {a:Ac},MkA (Zbj r) a->∀{n:Nat} {q:Pt},a.parts[n]?=some q->ZcW s r a.parts n q=0:=λ{r a} ha {n q} hq=>by
  cases ha with
  | send _ _ l hl=>exact h.part hl hq
  | set _ _ _ _ l hl=>exact h.part hl hq
  | let_ _ _ e _=>simp at hq
 rcases Zg2 s p hp with⟨i,hi,v,hv⟩|⟨hv,hs|⟨i,hi,x,hx,hr|⟨k,hk,r,hr,ha|⟨j,hj,a,ha,hq|⟨n,hn,q,hq⟩⟩⟩⟩⟩
 ·have e:atS s p=Za4 s i v:=by
   unfold atS
   rw[if_pos (by omega),show p.v.toNat=i by omega,hv]
  rw[e];exact h.var hv
 all_goals have hv':¬p.v ≥ 0:=by omega
 ·unfold atS
  rw[if_neg hv',if_pos hs];exact h.whole
 all_goals
  have hs':¬p.s < 0:=by omega
  have jH:p.s.toNat=i:=by omega
  have hm:=h.all i x hx
 ·have e:atS s p=Zde s i x:=by
   unfold atS
   rw[if_neg hv',if_neg hs',jH,hx]
   exact if_pos hr
  rw[e];exact h.stateOk hx
 all_goals
  have hr':¬p.r < 0:=by omega
  have fV:p.r.toNat=k:=by omega
  have hR:=hm.all r (zA2 hr)
 ·have e:atS s p=ZcM s r (Rx.totals s i k):=by
   unfold atS
   rw[if_neg hv',if_neg hs',jH,hx]
   show(if p.r < 0 then _ else _)=_
   rw[if_neg hr',fV,hr]
   exact if_pos ha
  rw[e];exact h.rule hR (h.totals i k)
 all_goals
  have ha':¬p.a < 0:=by omega
  have jS:p.a.toNat=j:=by omega
  have hA:=hR.all a (zA2 ‹r.acts[j]?=some a›)
 ·have e:atS s p=ZaO s r a:=by
   unfold atS
   rw[if_neg hv',if_neg hs',jH,hx]
   show(if p.r < 0 then _ else _)=_
   rw[if_neg hr',fV,hr]
   show(if p.a < 0 then _ else _)=_
   rw[if_neg ha',jS,‹r.acts[j]?=some a›]
   exact if_pos hq
  rw[e];exact h.action hA
 ·have e:atS s p=ZcW s r a.parts n q:=by
   unfold atS
   rw[if_neg hv',if_neg hs',jH,hx]
   show(if p.r < 0 then _ else _)=_
   rw[if_neg hr',fV,hr]
   show(if p.a < 0 then _ else _)=_
   rw[if_neg ha',jS,‹r.acts[j]?=some a›]
   show(if p.p < 0 then _ else _)=_
   rw[if_neg (by omega),show p.p.toNat=n by omega,hq]
  rw[e];exact hT hA hq
theorem MkC.problems{s:Sc}(h:MkC s):s.problems=[]:=by
 unfold Sc.problems
 rw[List.filterMap_eq_nil_iff]
 intro p hp
 rw[if_pos (h.at0 p hp)]
theorem MkC.check{s:Sc}(h:MkC s):s.check=(top,0):=by
 unfold Sc.check
 rw[if_pos h.light,h.problems]
structure F26 (t:T)(l:List T):Prop where
 f:F t l
 n:(t.k=4/\t.nodes.length+szL l<=26)\/t.nodes.length+szL l<=25
theorem F26.done{t:T}(h:F26 t []):t.check=0/\t.nodes.length<=26:=by
 refine⟨h.f.done,?_⟩
 have:szL []=0:=rfl
 rcases h.n with h|h <;> omega
theorem F26.step{t x:T}{l:List T}(h:F26 t (x::l))(a:Option Addr)(c:Nat):F26 (Zfl 4 a c (ZaY 4 t++ZaY 4 x)) l:=by
 refine⟨h.f.step a c,?_⟩
 have hn:=h.n
 rw[ZeJ]at hn
 have ht:=ZjV t
 have hx:=ZjV x
 have e1:szL (ZaY 4 t)<=if t.k=4 then szL t.subs else t.nodes.length:=by
  unfold ZaY
  split
  ·exact Nat.le_refl _
  ·rw[if_neg (by omega),Zbk];exact Nat.le_refl _
 have e2:szL (ZaY 4 x)<=x.nodes.length:=by
  unfold ZaY
  split
  ·omega
  ·rw[if_neg (by omega),Zbk];exact Nat.le_refl _
 have e3:szL (ZaY 4 t++ZaY 4 x)=szL (ZaY 4 t)+szL (ZaY 4 x):=ZaA _ _
 generalize ZaY 4 t++ZaY 4 x=L at e3
 have hA:szL L<=t.nodes.length+x.nodes.length/\(t.k=4->szL L+1<=t.nodes.length+x.nodes.length):=by
  refine⟨?_,λh4=>?_⟩
  ·split at e1 <;> omega
  ·rw[if_pos h4]at e1;omega
 match L,hA with
 | [],_=>
  refine .inr ?_
  show T1.nodes.length+_<=_
  have:T1.nodes.length=1:=rfl
  rcases hn with⟨_,hn⟩|hn <;> omega
 | [y],hA=>
  refine .inr ?_
  show y.nodes.length+_<=_
  rw[Zbk]at hA
  rcases hn with⟨h4,hn⟩|hn
  ·have:=hA.2 h4;omega
  ·omega
 | y::z::r,hA=>
  refine .inl ⟨rfl,?_⟩
  rw[ZjV]
  show 1+szL (y::z::r)+_<=_
  rcases hn with⟨h4,hn⟩|hn
  ·have:=hA.2 h4;omega
  ·omega
theorem F26.start{i u g}{t:T}{l:List T}(h:J i (t::l) u g)(hi:i<=25):F26 t l:=⟨F.start h hi,.inr (by have:=h.sz;rw[ZeJ]at this;omega)⟩
theorem F26.leaf{t:T}(h1:F t [])(h2:t.nodes.length=1):F26 t []:=⟨h1,.inr (by have:szL []=0:=rfl;omega)⟩
structure PE (ts:List E)(i:Nat):Prop where
 all:∀x∈Zan ts,okN 9 x
 sz:(Zan ts).length<=i
theorem Zco(t:E):Zan [t]=t.nodes:=by simp[Zan]
theorem PE.zero:PE [] 0:=⟨by simp[Zan],by simp[Zan]⟩
theorem PE.skip{ts i}(h:PE ts i):PE ts (i+1):=⟨h.all,by have:=h.sz;omega⟩
theorem PE.push{ts i}{t:E}(h:PE ts i)(ht:MkE 9 1 t):PE (ts++[t]) (i+1):=by
 refine⟨λx hx=>?_,?_⟩
 ·rw[ZaN,Zco]at hx
  rcases List.mem_append.1 hx with hx|hx
  ·exact h.all x hx
  ·exact ht.all x hx
 ·rw[ZaN,Zco,zA1]
  have:=h.sz;have:=ht.len;omega
theorem PE.neg{r:List E}{x:E}{i:Nat}(h:PE (r++[x]) i)(hk:x.k≠8)(a:Option Addr)(d:Nat):PE (r++[Zyt a d x]) (i+1):=by
 have h1:=h.all;have h2:=h.sz
 rw[ZaN,Zco]at h1 h2
 rw[zA1]at h2
 have hm:MkE 9 (x.nodes.length+1) (Zyt a d x):=Zxo ⟨λz hz=>h1 z (List.mem_append_right _ hz),Nat.le_refl _⟩ hk
 refine⟨λz hz=>?_,?_⟩
 ·rw[ZaN,Zco]at hz
  rcases List.mem_append.1 hz with hz|hz
  ·exact h1 z (List.mem_append_left _ hz)
  ·exact hm.all z hz
 ·rw[ZaN,Zco,zA1]
  have:=hm.len;omega
theorem PE.op{r:List E}{x y:E}{i:Nat}(h:PE (r++[x,y]) i){k:Int}(hk:2<=k/\k<=7)(a:Option Addr)(d:Nat):PE (r++[opE k a d x y]) (i+1):=by
 have h1:=h.all;have h2:=h.sz
 rw[ZaN,show Zan [x,y]=x.nodes++y.nodes by simp[Zan]]at h1 h2
 rw[zA1,zA1]at h2
 have hm:MkE 9 (x.nodes.length+y.nodes.length+1) (opE k a d x y):=Zxp hk ⟨λz hz=>h1 z (List.mem_append_right _ (List.mem_append_left _ hz)),Nat.le_refl _⟩ ⟨λz hz=>h1 z (List.mem_append_right _ (List.mem_append_right _ hz)),Nat.le_refl _⟩
 refine⟨λz hz=>?_,?_⟩
 ·rw[ZaN,Zco]at hz
  rcases List.mem_append.1 hz with hz|hz
  ·exact h1 z (List.mem_append_left _ hz)
  ·exact hm.all z hz
 ·rw[ZaN,Zco,zA1]
  have:=hm.len;omega
theorem Zlr(t:E):1<=t.nodes.length:=by rw[ZbE,List.length_cons];omega
theorem Zek(l:List E):l.length<=(Zan l).length:=by
 induction l with
 | nil=>simp
 | cons t l ih=>
  have:=Zlr t
  simp only[Zan,List.length_cons,zA1];omega
structure QE (t:E)(l:List E)(b:Nat):Prop where
 all:∀x∈t.nodes,okN 9 x
 alls:∀x∈Zan l,okN 9 x
 sz:t.nodes.length+(Zan l).length+l.length<=b
theorem QE.start{t:E}{l:List E}{i:Nat}(h:PE (t::l) i):QE t l (2*i):=by
 have h1:=h.all;have h2:=h.sz
 simp only[Zan,zA1]at h1 h2
 have:=Zek l
 exact⟨λx hx=>h1 x (List.mem_append_left _ hx),λx hx=>h1 x (List.mem_append_right _ hx),by omega⟩
theorem QE.step{t x:E}{l:List E}{b:Nat}(h:QE t (x::l) b)(a:Option Addr)(d:Nat):QE (opE 2 a d t x) l b:=by
 have h1:=h.alls;have h2:=h.sz
 simp only[Zan,zA1,List.length_cons]at h1 h2
 have hm:MkE 9 (t.nodes.length+x.nodes.length+1) (opE 2 a d t x):=Zxp (by omega) ⟨h.all,Nat.le_refl _⟩ ⟨λz hz=>h1 z (List.mem_append_left _ hz),Nat.le_refl _⟩
 exact⟨hm.all,λz hz=>h1 z (List.mem_append_right _ hz),by have:=hm.len;omega⟩
theorem QE.done{t:E}{b:Nat}(h:QE t [] b):MkE 9 b t:=⟨h.all,by have:=h.sz;omega⟩
structure BoE (c:Int)(e u:E):Prop where
 all:∀x∈u.nodes,okN c x
 len:u.nodes.length<=e.nodes.length
 k8:u.k=8↔e.k=8
theorem Zrp{c:Int}:∀{l r:List E},l.length=r.length->(∀(i:Nat)(x y:E),l[i]?=some x->r[i]?=some y->BoE c x y)->(∀z∈Zan r,okN c z)/\(Zan r).length<=(Zan l).length/\ZjT r=ZjT l
 | [],[],_,_=>⟨by simp[Zan],Nat.le_refl _,rfl⟩
 | [],_::_,h,_=>by simp at h
 | _::_,[],h,_=>by simp at h
 | x::l,y::r,h,hb=>by
  have h0:=hb 0 x y rfl rfl
  obtain⟨h1,h2,_⟩:=Zrp (l:=l) (r:=r) (by simpa using h) (λi x' y' hx hy=>hb (i+1) x' y' (by simpa using hx) (by simpa using hy))
  refine⟨λz hz=>?_,?_,?_⟩
  ·simp only[Zan]at hz
   rcases List.mem_append.1 hz with hz|hz
   ·exact h0.all z hz
   ·exact h1 z hz
  ·simp only[Zan,zA1];have:=h0.len;omega
  ·show(y.k == 8)=(x.k == 8)
   rw[Bool.eq_iff_iff];simpa using h0.k8
theorem Zvk{c:Int}{k:Int}{x:Nat}{s:ByteArray}{g:Int}{a a':Option Addr}{d d':Nat}{l r:List E}(h:okN 9 (.node k x s g a d l))(hk:¬(k=10/\g > c))(hl:l.length=r.length)(hb:∀(i:Nat)(x y:E),l[i]?=some x->r[i]?=some y->BoE c x y):BoE c (.node k x s g a d l) (.node k x s g a' d' r):=by
 obtain⟨h1,h2,h3⟩:=Zrp hl hb
 refine⟨λz hz=>?_,?_,Iff.rfl⟩
 ·simp only[E.nodes,List.mem_cons]at hz
  rcases hz with rfl|hz
  ·refine⟨?_,h.2.1,λe=>?_⟩
   ·have e1:=h.1
    simp only[E.right,E.k,E.s,E.x,E.g,E.subs]at e1 ⊢
    rw[<-hl,h3];exact e1
   ·have e:k=10:=e
    show g<=c
    omega
  ·exact h1 z hz
 ·simp only[E.nodes,List.length_cons];omega
theorem Zxs{c:Int}{e:E}{s:ByteArray}(hs:s∈Zgy)(hk:e.k=10):BoE c e (Zys s):=by
 have h:=Zuv (c:=c) hs
 refine⟨h.all,Nat.le_trans h.len (Zlr e),?_⟩
 rw[hk]
 show(9:Int)=8↔_
 omega
theorem BoE.toMk{c:Int}{n:Nat}{e u:E}(h:BoE c e u)(he:e.nodes.length<=n):MkE c n u:=⟨h.all,Nat.le_trans h.len he⟩
end Go.Rx
namespace Go.Rx
open Go Go.Eng Go.RowKit
set_option maxRecDepth 100000
mutual
def T.er:T->T
 | .node k s0 s1 s2 s3 mn mx _ _ l=>.node k s0 s1 s2 s3 mn mx none 0 (erL l)
def erL:List T->List T
 | []=>[]
 | t::l=>t.er::erL l
end
theorem Zrq:∀l:List T,erL l=l.map T.er
 | []=>rfl
 | t::l=>by simp only[erL,List.map_cons,Zrq l]
@[simp] theorem Zyu (t:T):t.er.k=t.k:=by cases t;rfl
@[simp] theorem ZAv (t:T):t.er.s0=t.s0:=by cases t;rfl
@[simp] theorem ZAw (t:T):t.er.s1=t.s1:=by cases t;rfl
@[simp] theorem ZAx (t:T):t.er.s2=t.s2:=by cases t;rfl
@[simp] theorem ZAy (t:T):t.er.s3=t.s3:=by cases t;rfl
@[simp] theorem ZAz (t:T):t.er.mn=t.mn:=by cases t;rfl
@[simp] theorem ZAA (t:T):t.er.mx=t.mx:=by cases t;rfl
@[simp] theorem Zuy (t:T):t.er.subs=t.subs.map T.er:=by cases t;simp only[T.er,T.subs,Zrq]
mutual
theorem Zh0:∀t:T,t.er.nodes=t.nodes.map T.er
 | .node k s0 s1 s2 s3 mn mx a c l=>by
  simp only[T.er,T.nodes,List.map_cons]
  rw[Zot l]
theorem Zot:∀l:List T,Zax (erL l)=(Zax l).map T.er
 | []=>rfl
 | t::l=>by simp only[erL,Zax,List.map_append,Zh0 t,Zot l]
end
theorem Zzg(t:T)(k:Int):t.er.has k=t.has k:=by
 unfold T.has;rw[Zuy,List.any_map];congr 1;funext x;simp
theorem Zvl(t:T):t.er.right=t.right:=by
 unfold T.right T.setZ
 simp only[Zzg,Zyu,ZAv,ZAw,ZAx,ZAy,ZAz,ZAA,Zuy,List.length_map]
theorem ZfZ(t:T):t.er.light=t.light:=by unfold T.light;rw[Zh0,List.length_map]
theorem Zzh(l:List T):(l.map T.er).all T.right=l.all T.right:=by
 rw[List.all_map];congr 1;funext x;exact Zvl x
theorem Zvm(t:T):t.er.clean=t.clean:=by unfold T.clean;rw[ZfZ,Zh0,Zzh]
theorem Zrr(t:T):t.er.size=t.size:=by unfold T.size;rw[ZfZ,Zh0,List.length_map]
theorem Zou(t:T):t.er.groups=t.groups:=by
 unfold T.groups;rw[ZfZ,Zh0,List.countP_map]
 have:((λx:T=>x.k == 6)∘T.er)=λx:T=>x.k == 6:=by funext x;simp
 rw[this]
mutual
theorem Zxt:∀t:T,t.er.pos=t.pos
 | .node k s0 s1 s2 s3 mn mx a c l=>by simp only[T.er,T.pos,Zuz l]
theorem Zuz:∀l:List T,ZeG (erL l)=ZeG l
 | []=>rfl
 | t::l=>by simp only[erL,ZeG,Zxt t,Zuz l]
end
theorem Zl5(t:T):t.er.positions=t.positions:=by unfold T.positions;rw[ZfZ,Zxt]
theorem Zvn(t:T):t.er.check=t.check:=by unfold T.check;rw[Zvm,Zrr,Zl5,Zou]
def T.caps(t:T):Prop:=∀x∈t.nodes,x.subs.length<=x.c
theorem ZsV{k s0 s1 s2 s3 mn mx:Int}{a:Option Addr}{c:Nat}{l:List T}(h:l.length<=c)(hl:∀x∈l,x.caps):(T.node k s0 s1 s2 s3 mn mx a c l).caps:=by
 intro y hy
 rw[Zcx]at hy
 rcases List.mem_cons.1 hy with rfl|hy
 ·exact h
 ·obtain⟨x,hx,hy⟩:∃x∈l,y∈x.nodes:=by
   have:∀l:List T,y∈Zax l->∃x∈l,y∈x.nodes:=λl=>by
    induction l with
    | nil=>intro h;simp[Zax]at h
    | cons x l ih=>
     intro h
     simp only[Zax,List.mem_append]at h
     rcases h with h|h
     ·exact⟨x,by simp,h⟩
     ·obtain⟨z,hz,h⟩:=ih h
      exact⟨z,by simp[hz],h⟩
   exact this l hy
  exact hl x hx y hy
theorem Zxu{k s0 s1 s2 s3 mn mx:Int}{a a':Option Addr}{c c':Nat}{l l':List T}(h:l.map T.er=l'.map T.er):(T.node k s0 s1 s2 s3 mn mx a c l).er=(T.node k s0 s1 s2 s3 mn mx a' c' l').er:=by
 simp only[T.er,Zrq,h]
end Go.Rx
namespace Go.Rx
open Go Go.Eng Go.RowKit
def Old(m:Mem)(b:Nat):Prop:=¬m.free b
noncomputable def nw(m m':Mem):Mem:=⟨(m'.off (Old m)).c,λ_=>none⟩
theorem Zjf(m m':Mem):(nw m m').le m':=⟨(Mem.off_le m' (Old m)).c,λ_ _ h=>by cases h⟩
theorem Zb6{m m':Mem}(h:m.le m'){b:Nat}(hf:m'.free b):m.free b:=λo=>by
 cases he:m b o with
 | none=>rfl
 | some v=>have:=h _ _ _ he;rw[hf o]at this;cases this
theorem Zl6{m m':Mem}(h:m.le m'){b:Nat}(hf:m'.k b=none):m.k b=none:=by
 cases he:m.k b with
 | none=>rfl
 | some v=>have:=h.k _ _ he;rw[hf]at this;cases this
theorem Zqk{m m':Mem}{b:Nat}(h:¬m.free b):(nw m m').free b:=λo=>Mem.off_free (m:=m') (Y:=Old m) h o
theorem ZwH{m m':Mem}{b:Nat}(h:m.free b)(o:Nat):nw m m' b o=m' b o:=Mem.off_at (m:=m') (Y:=Old m) (λk=>k h) o
theorem Zel{m0 m m' m'':Mem}(h1:m0.le m)(h2:m'.le m''):(nw m m').le (nw m0 m''):=⟨λb o v hv=>by
 have hf:m.free b:=Classical.byContradiction λhn=>by rw[Zqk hn]at hv;cases hv
 rw[ZwH hf]at hv;rw[ZwH (Zb6 h1 hf)];exact h2 _ _ _ hv,λb e he=>by cases he⟩
theorem Zrs{m m':Mem}{a:Option Addr}{cs:List Value}(h:rowRd m' a cs)(hf:cs=[]\/∀b o,a=some ⟨b,o,none⟩->m.free b):rowRd (nw m m') a cs:=by
 rcases hf with hf|hf
 ·exact .inl hf
 rcases h with h|⟨b,o,ha,h⟩
 ·exact .inl h
 ·exact .inr ⟨b,o,ha,λj v hj=>by rw[ZwH (hf b o ha)];exact h j v hj⟩
theorem Zov{m m':Mem}{Y:Nat->Prop}(h:m.le m')(hf:∀b,Y b->m.free b/\m.k b=none):m.le (m'.off Y):=⟨λb o v hv=>by
 rw[Mem.off_at (λhy=>by rw[(hf b hy).1 o]at hv;cases hv)];exact h _ _ _ hv,λb e he=>by
 rw[Mem.off_k (λhy=>by rw[(hf b hy).2]at he;cases he)];exact h.k _ _ he⟩
structure Each {α β:Type}(cs:β->List Value)(Q:α->β->Mem->Prop)(m m':Mem)(L:List α)(a:Option Addr)(c:Nat)(L':List β)(μ:Nat->Mem):Prop where
 len:L'.length=L.length
 le:m.le m'
 row:rowRd m' a (L'.map cs).flatten
 q:∀i x y,L[i]?=some x->L'[i]?=some y->Q x y (μ i)
 sub:∀i,i < L.length->(μ i).le (nw m m')
 ap:∀i j,i < j->j < L.length->∀b,(μ i).free b\/(μ j).free b
 blk:(L=[]/\a=none/\c=0)\/(L≠[]/\∃b,a=some ⟨b,0,none⟩/\m.free b/\m.k b=none/\∀i,i < L.length->(μ i).free b/\(μ i).k b=none)
 cap:L'.length<=c
theorem Each.nil{α β:Type}{cs:β->List Value}{Q:α->β->Mem->Prop}(m:Mem):Each cs Q m m ([]:List α) none 0 [] λ_=>m:=
 ⟨rfl,Mem.le_refl m,.inl rfl,by simp,by simp,by simp,.inl ⟨rfl,rfl,rfl⟩,by simp⟩
theorem Each.step{α β:Type}{cs:β->List Value}{Q:α->β->Mem->Prop}{m m':Mem}{L:List α}{k:Nat}{a:Option Addr}{c:Nat}{L':List β}{μ:Nat->Mem}{n:Nat}(hn:∀y,(cs y).length=n)(h0:0 < n)(h:Each cs Q m m' (L.take k) a c L' μ){x:α}(hx:L[k]?=some x)
  {m3:Mem} {y:β} (h3:m'.le m3) (hq:Q x y (nw m' m3)) {b3:Nat} (gZ:m3.free b3) {a':Option Addr} {c':Nat} {m4:Mem} (h4:(m3.add b3 (cs y)).le m4) (aF:rowRd m4 a' ((L'++[y]).map cs).flatten) (ht:TokFact (m3.add b3 (cs y)) a a' (L'.length+1) c'):
  Each cs Q m m4 (L.take (k+1)) a' c' (L'++[y]) (λi=>if i=k then nw m' m3 else μ i):=by
 have hk:k < L.length:=(zA0 hx).1
 have e:L.take (k+1)=L.take k++[x]:=by rw[List.take_add_one,hx];rfl
 have lk:(L.take k).length=k:=by rw[List.length_take];omega
 have lk':L'.length=k:=h.len.trans lk
 have add3:m3.le (m3.add b3 (cs y)):=Mem.le_add gZ _
 have uy:m3.le m4:=mLt add3 h4
 have jq:m'.le m4:=mLt h3 uy
 have oM:m.le (m3.add b3 (cs y)):=mLt h.le (mLt h3 add3)
 have dI:((L'++[y]).map cs).flatten≠[]:=by
  intro hz
  have:=congrArg List.length hz
  rw[ZaU hn,zA1,List.length_cons]at this
  have h5:0 < (L'.length+(([]:List β).length+1))*n:=Nat.mul_pos (by omega) h0
  rw[this]at h5;exact absurd h5 (by simp)
 have ha':∃b,a'=some ⟨b,0,none⟩/\m.free b/\m.k b=none/\(∀i,i < k->(μ i).free b/\(μ i).k b=none)/\((nw m' m3).free b/\(nw m' m3).k b=none):=by
  rcases ht.2 with h1|⟨b,o,h1,h2⟩
  ·rcases aF with h2|⟨b,o,h2,_⟩
   ·exact absurd h2 dI
   ·rw[h1]at h2;cases h2
  ·rcases h2 with h2|⟨h2,h5,h6⟩
   ·rcases h.blk with⟨_,h7,_⟩|⟨h6,b',h7,h8,h8',h9⟩
    ·rw[h7,h1]at h2;cases h2
    ·rw[h7,h1]at h2
     simp only[Option.some.injEq,Addr.mk.injEq,and_true]at h2
     obtain⟨rfl,rfl⟩:=h2
     have ie:¬m'.free b':=λhf=>by
      rcases h.row with gU|⟨b2,o2,gU,md⟩
      ·have:=congrArg List.length gU
       rw[ZaU hn,lk']at this
       have nO:k≠0:=λe=>h6 (by rw[e];rfl)
       have q9:0 < k*n:=Nat.mul_pos (by omega) h0
       simp at this;omega
      ·rw[h7]at gU;cases gU
       have nO:k≠0:=λe=>h6 (by rw[e];rfl)
       have q9:0 < k*n:=Nat.mul_pos (by omega) h0
       have aG:0 < (L'.map cs).flatten.length:=by rw[ZaU hn,lk'];exact q9
       have:=md 0 _ (zA3 aG)
       rw[hf]at this;cases this
     refine⟨b',h1,h8,h8',λi hi=>h9 i (by omega),Zqk ie,rfl⟩
   ·subst h2
    have hs:∀i,i < k->(μ i).le (m3.add b3 (cs y)):=λi hi=>mLt (h.sub i (by omega)) (mLt (Zjf _ _) (mLt h3 add3))
    have mt:(nw m' m3).le (m3.add b3 (cs y)):=mLt (Zjf _ _) add3
    exact⟨b,h1,Zb6 oM h5,Zl6 oM h6,λi hi=>⟨Zb6 (hs i hi) h5,Zl6 (hs i hi) h6⟩,Zb6 mt h5,Zl6 mt h6⟩
 obtain⟨b,hb,cA,eF,dW,mu⟩:=ha'
 refine⟨by rw[zA1,List.length_take,lk'];simp;omega,mLt h.le jq,aF,λi u v hu hv=>?_,λi hi=>?_,λi j sF hj b'=>?_,.inr ⟨by rw[e];simp,b,hb,cA,eF,λi hi=>?_⟩,by have:=ht.1;rw[zA1];exact this⟩
 ·rw[e]at hu
  by_cases kA:i=k
  ·subst kA
   rw[zA4 (by omega),lk,Nat.sub_self]at hu
   rw[zA4 (by omega),lk',Nat.sub_self]at hv
   cases hu;cases hv
   rw[if_pos rfl];exact hq
  ·have hi:i < k:=by
    have:=(zA0 hu).1
    rw[zA1,lk]at this;simp at this;omega
   rw[zA5 (by omega)]at hu hv
   rw[if_neg kA];exact h.q i u v hu hv
 ·by_cases kA:i=k
  ·subst kA;rw[if_pos rfl];exact Zel h.le uy
  ·rw[if_neg kA]
   rw[List.length_take]at hi
   exact mLt (h.sub i (by omega)) (Zel (Mem.le_refl m) jq)
 ·rw[List.length_take]at hj
  by_cases rb:j=k
  ·subst rb
   rw[if_neg (by omega),if_pos rfl]
   by_cases hf:(μ i).free b'
   ·exact .inl hf
   ·exact .inr (Zqk λjr=>hf (Zb6 (mLt (h.sub i (by omega)) (Zjf _ _)) jr))
  ·rw[if_neg (by omega),if_neg rb];exact h.ap i j sF (by omega) b'
 ·by_cases kA:i=k
  ·subst kA;rw[if_pos rfl];exact mu
  ·rw[if_neg kA];rw[List.length_take]at hi;exact dW i (by omega)
section
variable {α β:Type} {cs:β->List Value} {Q:α->β->Mem->Prop} {m m':Mem} {L:List α} {a:Option Addr} {c:Nat} {L':List β} {μ:Nat->Mem} (h:Each cs Q m m' L a c L' μ)
include h
theorem Each.rows:rowRd (nw m m') a (L'.map cs).flatten:=Zrs h.row (by
 rcases h.blk with⟨h1,_⟩|⟨_,b,hb,hf,_⟩
 ·left
  have:L'=[]:=List.eq_nil_of_length_eq_zero (by rw[h.len,h1];rfl)
  rw[this];rfl
 ·exact .inr λb' o e=>by rw[hb]at e;cases e;exact hf)
theorem Each.at{y:β}(hy:y∈L'):∃i x,L[i]?=some x/\L'[i]?=some y/\Q x y (μ i)/\(μ i).le (nw m m'):=by
 obtain⟨i,hi⟩:=List.getElem?_of_mem hy
 have aG:i < L.length:=by rw[<-h.len];exact(zA0 hi).1
 exact⟨i,L[i],zA3 aG,hi,h.q i _ _ (zA3 aG) hi,h.sub i aG⟩
theorem Each.same{γ:Type}{f:α->γ}{g:β->γ}(hs:∀x y μ,Q x y μ->g y=f x):L'.map g=L.map f:=by
 refine List.ext_getElem (by simp[h.len]) λi h1 h2=>?_
 simp only[List.length_map]at h1 h2
 rw[List.getElem_map,List.getElem_map]
 exact hs _ _ _ (h.q i _ _ (zA3 h2) (zA3 h1))
end
def Zrt{α β:Type}(cs:β->List Value)(Q:α->β->Mem->Prop)(m:Mem)(L:List α):Value->Mem->List (List Value)->Prop:=λv m' _=>∃a c L' μ,v=.slice a L'.length c/\Each cs Q m m' L a c L' μ
theorem Zg3{α β:Type}{cs:β->List Value}{Q:α->β->Mem->Prop}{m:Mem}{L:List α}:∀(v:Value)(m':Mem) (css:List (List Value)),Zrt cs Q m L v m' css->Shape.fits .slice v=true:=λv _ _ ⟨_,_,_,_,h,_⟩=>by rw[h];rfl
mutual
def E.er:E->E
 | .node k x s g _ _ l=>.node k x s g none 0 (ZwK l)
def ZwK:List E->List E
 | []=>[]
 | t::l=>t.er::ZwK l
end
theorem Znb:∀l:List E,ZwK l=l.map E.er
 | []=>rfl
 | t::l=>by simp only[ZwK,List.map_cons,Znb l]
@[simp] theorem ZzU (t:E):t.er.k=t.k:=by cases t;rfl
@[simp] theorem ZAB (t:E):t.er.x=t.x:=by cases t;rfl
@[simp] theorem ZAC (t:E):t.er.s=t.s:=by cases t;rfl
@[simp] theorem ZzV (t:E):t.er.g=t.g:=by cases t;rfl
@[simp] theorem Zvo (t:E):t.er.subs=t.subs.map E.er:=by cases t;simp only[E.er,E.subs,Znb]
mutual
theorem Zfm:∀t:E,t.er.nodes=t.nodes.map E.er
 | .node k x s g a c l=>by
  simp only[E.er,E.nodes,List.map_cons]
  rw[Zls l]
theorem Zls:∀l:List E,Zan (ZwK l)=(Zan l).map E.er
 | []=>rfl
 | t::l=>by simp only[ZwK,Zan,List.map_append,Zfm t,Zls l]
end
theorem Zem(t:E):t.er.light=t.light:=by unfold E.light;rw[Zfm,List.length_map]
theorem Zvp(t:E):t.er.size=t.size:=by unfold E.size;rw[Zem,Zfm,List.length_map]
theorem ZzW(t:E):nE t.er=nE t:=by unfold nE;rw[Zem,Zvp]
def Pt.er(p:Pt):Pt:=⟨p.k,p.s,p.g,p.e.er⟩
def Ac.er(a:Ac):Ac:=⟨a.k,a.s,none,0,a.parts.map Pt.er,a.e.er⟩
def Ru.er(r:Ru):Ru:=⟨r.k,r.bg,r.en,r.t.er,r.s,r.n,none,0,r.acts.map Ac.er,r.go,r.code⟩
def Sta.er(x:Sta):Sta:=⟨x.s,none,0,x.rules.map Ru.er⟩
def Sc.er(s:Sc):Sc:=⟨s.n,none,0,s.vars,none,0,s.states.map Sta.er⟩
theorem Zow{α:Type}(f:α->Int)(g:α->α)(h:∀x,f (g x)=f x)(l:List α):ZbA ((l.map g).map f)=ZbA (l.map f):=by
 rw[List.map_map];congr 1;exact List.map_congr_left λx _=>h x
theorem ZAD(a:Ac):wA a.er=wA a:=by
 unfold wA
 show 1+nE a.e.er+((a.parts.map Pt.er).length:Int)+ZbA ((a.parts.map Pt.er).map λp=>nE p.e)=_
 rw[ZzW,List.length_map,Zow (λp:Pt=>nE p.e) Pt.er (λp=>ZzW p.e)]
theorem ZAE(r:Ru):wR r.er=wR r:=by
 unfold wR
 show 1+Zgx r.t.er.size 20000+(if r.t.er.light then 0 else 20001)+ZbA ((r.acts.map Ac.er).map wA)=_
 rw[Zrr,ZfZ,Zow wA Ac.er ZAD]
theorem ZAF(x:Sta):wS x.er=wS x:=Zow wR Ru.er ZAE x.rules
theorem ZsW(s:Sc):s.er.weight=s.weight:=by
 unfold Sc.weight
 show(s.vars.length:Int)+((s.states.map Sta.er).length:Int)+ZbA ((s.states.map Sta.er).map wS)=_
 rw[List.length_map,Zow wS Sta.er ZAF]
theorem Zg4(s:Sc):s.er.light=s.light:=by unfold Sc.light;rw[ZsW]
theorem Zox{s s':Sc}(h:s'.er=s.er):s'.light=s.light:=by rw[<-Zg4 s',h,Zg4]
theorem Zoy{α:Type}(f:α->Int)(hf:∀x,0<=f x){l:List α}{x:α}(hx:x∈l):f x<=ZbA (l.map f):=by
 induction l with
 | nil=>cases hx
 | cons y l ih=>
  have h1:=Zfj f hf l
  have h2:=hf y
  simp only[List.map_cons,ZbA]
  rcases List.mem_cons.1 hx with rfl|hx
  ·omega
  ·have:=ih hx;omega
def LtA(a:Ac):Prop:=a.e.light=true/\∀p∈a.parts,p.e.light=true
def LtR(r:Ru):Prop:=r.t.light=true/\∀a∈r.acts,LtA a
theorem ZzX{e:E}(h:nE e<=20000):e.light=true:=by
 cases hl:e.light with
 | true=>rfl
 | false=>unfold nE at h;rw[hl]at h;simp at h
theorem Zzi{a:Ac}(h:wA a<=20000):LtA a:=by
 unfold wA at h
 have h1:=Zok a.e
 have h2:=Zfj (λp:Pt=>nE p.e) (λp=>(Zok p.e).1) a.parts
 exact⟨ZzX (by omega),λp hp=>ZzX (by have:=Zoy (λp:Pt=>nE p.e) (λp=>(Zok p.e).1) hp;omega)⟩
theorem Zzj{r:Ru}(h:wR r<=20000):LtR r:=by
 unfold wR at h
 have h1:=(Zjd r.t).1
 have h2:=Zfj wA Zxl r.acts
 have h3:0<=Zgx r.t.size 20000:=by unfold Zgx;split <;> omega
 refine⟨?_,λa ha=>Zzi (by have:=Zoy wA Zxl ha;split at h <;> omega)⟩
 cases hl:r.t.light with
 | true=>rfl
 | false=>rw[hl]at h;simp at h;omega
theorem Zvq{s:Sc}(h:s.light=true):∀x∈s.states,∀r∈x.rules,LtR r:=λx hx r hr=>Zzj (by
 have h1:s.weight<=20000:=zA6 h
 unfold Sc.weight at h1
 have h2:=Zoy wS ZzR hx
 have h3:wR r<=wS x:=Zoy wR ZyT hr
 omega)
def QP(p q:Pt)(μ:Mem):Prop:=q.er=p.er/\RepP μ q
def QA(p q:Ac)(μ:Mem):Prop:=q.er=p.er/\RepA μ q
def QR(p q:Ru)(μ:Mem):Prop:=q.er=p.er/\RepR μ q
def ZBi(m μ:Mem)(y:Sta):Prop:=y.rules.length<=y.rc/\(y.rules=[]\/∃b,y.ra=some ⟨b,0,none⟩/\m.free b/\m.k b=none/\∀r∈y.rules,RepR (μ.off λk=>k=b) r)
def QS(m:Mem)(x y:Sta)(μ:Mem):Prop:=y.er=x.er/\RepS μ y/\ZBi m μ y
structure SepC (m m':Mem)(s:Sc)(b:Nat)(μ:Nat->Mem):Prop where
 sa:s.sa=some ⟨b,0,none⟩
 free:m.free b/\m.k b=none
 all:∀i x,s.states[i]?=some x->RepS (μ i) x/\ZBi m (μ i) x/\(μ i).le (nw m m')/\(μ i).free b
 ap:∀i j,i < j->j < s.states.length->∀b',(μ i).free b'\/(μ j).free b'
 va:∃μv:Mem,rowRd μv s.va (s.vars.map Va.cs).flatten/\μv.le (nw m m')/\μv.free b/\∀i,i < s.states.length->∀b',μv.free b'\/(μ i).free b'
theorem ZsX{m0 m m' M:Mem}{x:Ac}{a:Option Addr}{c:Nat}{L':List Pt}{μ:Nat->Mem}{e:E}(hx:RepA m0 x)(h:Each Pt.cs QP m m' x.parts a c L' μ)(hM:(nw m m').le M)(he:RepE M e):RepA M ⟨x.k,x.s,a,c,L',e⟩:=
 ⟨hx.k,hx.s,by rw[h.len];exact hx.n,h.rows.mono hM,λp hp=>by
  obtain⟨i,y,_,_,hq,hs⟩:=h.at hp
  exact hq.2.mono (mLt hs hM),he⟩
theorem ZsY{m0 m m' M:Mem}{x:Ru}{a:Option Addr}{c:Nat}{L':List Ac}{μ:Nat->Mem}{t:T}(hx:RepR m0 x)(h:Each Ac.cs QA m m' x.acts a c L' μ)(hM:(nw m m').le M)(ht:Rep M t):RepR M ⟨x.k,x.bg,x.en,t,x.s,x.n,a,c,L',x.go,x.code⟩:=
 ⟨hx.k,ht,hx.s,hx.n,by rw[h.len];exact hx.len,h.rows.mono hM,λp hp=>by
  obtain⟨i,y,_,_,hq,hs⟩:=h.at hp
  exact hq.2.mono (mLt hs hM),hx.go,hx.code⟩
theorem ZuA{m m':Mem}{Y:Nat->Prop}(h:m.le m'):(m.off Y).le (m'.off Y):=⟨λb o v hv=>by
 by_cases hy:Y b
 ·rw[Mem.off_free hy]at hv;cases hv
 ·rw[Mem.off_at hy]at hv ⊢;exact h _ _ _ hv,λb e he=>by
 by_cases hy:Y b
 ·rw[Mem.off_kn hy]at he;cases he
 ·rw[Mem.off_k hy]at he ⊢;exact h.k _ _ he⟩
theorem QS.mono{m0 μ μ':Mem}{x y:Sta}(h:QS m0 x y μ)(hm:μ.le μ'):QS m0 x y μ':=
 ⟨h.1,h.2.1.mono hm,h.2.2.1,h.2.2.2.imp_right λ⟨b,h1,h2,h3,h4⟩=>⟨b,h1,h2,h3,λr hr=>(h4 r hr).mono (ZuA hm)⟩⟩
theorem Zxv{m0 m m':Mem}{x:Sta}{a:Option Addr}{c:Nat}{L':List Ru}{μ:Nat->Mem}(h0:m0.le m)(hx:RepS m x)(h:Each Ru.cs QR m m' x.rules a c L' μ):QS m0 x ⟨x.s,a,c,L'⟩ (nw m m'):=by
 refine⟨?_,⟨hx.s,by rw[h.len];exact hx.len,h.rows,λp hp=>by
  obtain⟨i,y,_,_,hq,hs⟩:=h.at hp
  exact hq.2.mono hs⟩,h.cap,?_⟩
 ·simp only[Sta.er,Sta.mk.injEq,true_and]
  exact h.same λx y μ hq=>hq.1
 ·rcases h.blk with⟨h1,_⟩|⟨_,b,hb,hf,hk,hμ⟩
  ·exact .inl (List.eq_nil_of_length_eq_zero (by rw[h.len,h1];rfl))
  ·refine .inr ⟨b,hb,Zb6 h0 hf,Zl6 h0 hk,λr hr=>?_⟩
   obtain⟨i,y,hi,_,hq,hs⟩:=h.at hr
   exact hq.2.mono (Zov hs λb' e=>by rw[e];exact hμ i (zA0 hi).1)
end Go.Rx
namespace Go.Rx
open Go
variable {P:Program}
end Go.Rx
namespace Go.Rx
open Go Go.Proofs Go.Shelf Go.RowKit Go.Lib Go.Sort
set_option maxHeartbeats 4000000
set_option maxRecDepth 1000000
structure DelLay (P:Program)(ρ:Ren)(k:Nat)(z:Value):Prop where
 mixed:P.follows .mixedOrders=true
 f45:Bears P (ρ.f 45) (SlBodyN.n45 ρ)
 t0:P.underlying (ρ.t 0)=some (TypeDesc.tuple #[])
 a0:∀w,(Go.isAgg (ρ.t 0)).run P w=.ok false w
 z0:∀w,(Go.sizeOf (ρ.t 0)).run P w=.ok 1 w
 v0:∀w,(zeroValue (ρ.t 0)).run P w=.ok (Value.tuple #[]) w
 t3:P.underlying (ρ.t 3)=some (TypeDesc.int IntKind.i64)
 a3:∀w,(Go.isAgg (ρ.t 3)).run P w=.ok false w
 z3:∀w,(Go.sizeOf (ρ.t 3)).run P w=.ok 1 w
 v3:∀w,(zeroValue (ρ.t 3)).run P w=.ok (Value.int IntKind.i64 0) w
 t4:P.underlying (ρ.t 4)=some (TypeDesc.bool)
 a4:∀w,(Go.isAgg (ρ.t 4)).run P w=.ok false w
 z4:∀w,(Go.sizeOf (ρ.t 4)).run P w=.ok 1 w
 v4:∀w,(zeroValue (ρ.t 4)).run P w=.ok (Value.bool false) w
 t22:P.underlying (ρ.t 22)=some (TypeDesc.slice (ρ.t 23))
 a22:∀w,(Go.isAgg (ρ.t 22)).run P w=.ok false w
 z22:∀w,(Go.sizeOf (ρ.t 22)).run P w=.ok 1 w
 v22:∀w,(zeroValue (ρ.t 22)).run P w=.ok (Value.slice none 0 0) w
 z23:∀w,(Go.sizeOf (ρ.t 23)).run P w=.ok k w
 v23:∀w,(zeroValue (ρ.t 23)).run P w=.ok z w
end Go.Rx
namespace Go.Rx
open Go Go.Eng Go.RowKit Go.Shelf
end Go.Rx
namespace Go.Rx
open Go Go.Eng
end Go.Rx
namespace Go.Rx
open Go Go.Eng Go.RowKit
def ZsZ(x:Sta)(k:Nat):Sta:=⟨x.s,x.ra,x.rc,x.rules.eraseIdx k⟩
def ZyX(s:Sc)(i k:Nat):Sc:=match s.states[i]? with
 | some x=>⟨s.n,s.va,s.vc,s.vars,s.sa,s.sc,s.states.set i (ZsZ x k)⟩
 | none=>s
def Zie(s:Sc)(i k:Int):Bool:=s.light&&(decide (i ≥ 0)&&(decide (i < s.states.length)&&(decide (k ≥ 0)&&match s.states[i.toNat]? with
 | some x=>decide (k < x.rules.length)
 | none=>false)))
theorem Zoz{s s':Sc}(h:s'.er=s.er):s'.states.map Sta.er=s.states.map Sta.er:=congrArg Sc.states h
theorem ZAG{s s':Sc}(h:s'.er=s.er){i:Nat}{x:Sta}(hx:s.states[i]?=some x):∃x',s'.states[i]?=some x'/\x'.er=x.er:=by
 have:=congrArg (λl=>l[i]?) (Zoz h)
 simp only[List.getElem?_map,hx,Option.map_some]at this
 obtain⟨x',h1,h2⟩:=Option.map_eq_some_iff.1 this
 exact⟨x',h1,h2⟩
theorem Zru{x x':Sta}(h:x'.er=x.er):x'.s=x.s/\x'.rules.map Ru.er=x.rules.map Ru.er/\x'.rules.length=x.rules.length:=by
 have h2:x'.rules.map Ru.er=x.rules.map Ru.er:=congrArg Sta.rules h
 have h1:x'.er.s=x.er.s:=congrArg Sta.s h
 exact⟨h1,h2,by have:=congrArg List.length h2;simpa using this⟩
theorem Zxw{s s':Sc}(h:s'.er=s.er):s'.n=s.n/\s'.vars=s.vars:=by
 have h1:s'.er.n=s.er.n:=congrArg Sc.n h
 have h2:s'.er.vars=s.er.vars:=congrArg Sc.vars h
 exact⟨h1,h2⟩
theorem Zvr{s s':Sc}(h1:s'.n=s.n)(h2:s'.vars=s.vars)(h3:s'.states.map Sta.er=s.states.map Sta.er):s'.er=s.er:=by
 unfold Sc.er;rw[h1,h2,h3]
def Zl7(r:Ru):Bool:=decide (wR r<=19999)
theorem MkC.wR{s:Sc}(h:MkC s){i a:Nat}{x:Sta}{r:Ru}(hx:s.states[i]?=some x)(hr:x.rules[a]?=some r):Go.Rx.wR r<=405:=((h.all i x hx).all r (zA2 hr)).w
theorem Zs0(l:List E):ZjT (l.map E.er)=ZjT l:=by cases l <;> simp[ZjT]
theorem Zs1(t:E):t.er.right=t.right:=by
 unfold E.right
 simp only[ZzU,ZAB,ZAC,ZzV,Zvo,List.length_map,Zs0]
theorem ZoA(t:E):t.er.clean=t.clean:=by
 unfold E.clean
 rw[Zem,Zfm,List.all_map]
 congr 2
 funext x;exact Zs1 x
mutual
theorem ZoB:∀(t:E)(out:List ByteArray),t.er.names out=t.names out
 | .node k x s g a c l,out=>by
  simp only[E.er,E.names]
  rw[Zlt l out]
theorem Zlt:∀(l:List E)(out:List ByteArray),ZbF (ZwK l) out=ZbF l out
 | [],out=>rfl
 | t::l,out=>by simp only[ZwK,ZbF];rw[ZoB t out,Zlt l]
end
theorem Zrv(t:E):t.er.vars=t.vars:=by unfold E.vars;rw[Zem,ZoB]
theorem Zrw(t:E):t.er.most=t.most:=by
 unfold E.most
 rw[Zem,Zfm,List.foldl_map]
 simp only[ZzU,ZzV]
mutual
theorem ZoC:∀t u:E,t.er.same u=t.same u
 | .node k x s g a c l,.node k' x' s' g' a' c' l'=>by
  simp only[E.er,E.same]
  rw[Zlu l l']
theorem Zlu:∀l r:List E,ZcC (ZwK l) r=ZcC l r
 | [],r=>rfl
 | t::l,[]=>by simp[ZwK,ZcC]
 | t::l,u::r=>by simp only[ZwK,ZcC];rw[ZoC t u,Zlu l r]
end
theorem Zrx(t:E):Zlo t.er=Zlo t:=by unfold Zlo;rw[Zem,ZoC]
mutual
theorem ZoD:∀t u:T,t.er.same u=t.same u
 | .node k s0 s1 s2 s3 mn mx a c l,.node k' s0' s1' s2' s3' mn' mx' a' c' l'=>by
  simp only[T.er,T.same]
  rw[Zlv l l']
theorem Zlv:∀l r:List T,Zew (erL l) r=Zew l r
 | [],r=>rfl
 | t::l,[]=>by simp[erL,Zew]
 | t::l,u::r=>by simp only[erL,Zew];rw[ZoD t u,Zlv l r]
end
theorem Zxx(r:Ru):Zr5 r.er=Zr5 r:=by
 unfold Zr5
 simp only[Ru.er]
 rw[ZfZ,ZoD]
theorem Zql(r:Ru):ZaS r.er=ZaS r:=by
 unfold ZaS
 rw[Zxx];rfl
theorem Zry(r:Ru):Zbj r.er=Zbj r:=by
 unfold Zbj
 simp only[Ru.er]
 rw[Zou];rfl
theorem Zvs(r:Ru):sizeR r.er=sizeR r:=by
 unfold sizeR
 simp only[Ru.er]
 rw[Zrr];rfl
theorem ZuB(l:List Sta)(name:ByteArray):((l.map Sta.er).any λx=>eqS x.s name)=l.any λx=>eqS x.s name:=by rw[List.any_map];rfl
theorem Zvt(s:Sc)(r:Ru)(n:Int):ZcM s.er r.er n=ZcM s r n:=by
 unfold ZcM Zeh
 rw[Zql,Zg4]
 simp only[Ru.er,Sc.er,List.length_map,Zvn,ZuB]
theorem Zqm(s:Sc)(r:Ru)(a:Ac):ZaO s.er r.er a.er=ZaO s r a:=by
 unfold ZaO Zbz Za2 Zbz
 rw[Zry]
 simp only[Ac.er,Sc.er,List.length_map,ZoA,Zrx,Zrv,Zrw]
theorem Zs2(p:Pt):Za0 p.er=Za0 p:=by
 unfold Za0
 simp only[Pt.er,Zrx,ZoA];rfl
theorem Zvu(s:Sc)(r:Ru)(l:List Pt)(i:Nat)(p:Pt):ZcW s.er r.er (l.map Pt.er) i p.er=ZcW s r l i p:=by
 unfold ZcW Zbz Za2 Zbz
 rw[Zry,Zs2]
 simp only[Pt.er,Sc.er,Zrv,Zrw,List.getElem?_map]
 cases l[i - 1]? <;> rfl
theorem Zs3(s:Sc)(i:Nat)(x:Sta):Zde s.er i x.er=Zde s i x:=by
 unfold Zde
 simp only[Sta.er,Sc.er,List.length_map,<-List.map_take,ZuB]
theorem Zs4(s:Sc)(i k:Nat):totals s.er i k=totals s i k:=by
 have h1:∀l:List Ru,(l.map Ru.er).map sizeR=l.map sizeR:=λl=>by
  rw[List.map_map];exact List.map_congr_left λr _=>Zvs r
 have hA:((s.states.map Sta.er).take i).map (λx=>ZbA (x.rules.map sizeR))=(s.states.take i).map λx=>ZbA (x.rules.map sizeR):=by
  rw[<-List.map_take,List.map_map]
  exact List.map_congr_left λx _=>by show ZbA ((x.rules.map Ru.er).map sizeR)=_;rw[h1]
 unfold totals
 rw[show s.er.states=s.states.map Sta.er from rfl,hA,List.getElem?_map]
 cases s.states[i]? with
 | none=>rfl
 | some x=>
  show _+ZbA (((x.rules.map Ru.er).take (k+1)).map sizeR)=_
  rw[<-List.map_take,h1]
theorem Zzk(s:Sc)(p:Pl):atS s.er p=atS s p:=by
 have hs:s.er.states=s.states.map Sta.er:=rfl
 have hw:Zeg s.er=Zeg s:=by unfold Zeg;simp only[Sc.er,List.length_map];rfl
 unfold atS
 rw[hw,hs,List.getElem?_map]
 congr 2
 cases s.states[p.s.toNat]? with
 | none=>rfl
 | some x=>
  show(if p.r < 0 then Zde s.er p.s.toNat x.er else _)=_
  rw[Zs3]
  congr 1
  rw[show x.er.rules=x.rules.map Ru.er from rfl,List.getElem?_map]
  cases x.rules[p.r.toNat]? with
  | none=>rfl
  | some r=>
   show(if p.a < 0 then ZcM s.er r.er (totals s.er p.s.toNat p.r.toNat)else _)=_
   rw[Zvt,Zs4]
   congr 1
   rw[show r.er.acts=r.acts.map Ac.er from rfl,List.getElem?_map]
   cases r.acts[p.a.toNat]? with
   | none=>rfl
   | some a=>
    show(if p.p < 0 then ZaO s.er r.er a.er else _)=_
    rw[Zqm]
    congr 1
    rw[show a.er.parts=a.parts.map Pt.er from rfl,List.getElem?_map]
    cases a.parts[p.p.toNat]? with
    | none=>rfl
    | some q=>exact Zvu s r a.parts _ q
theorem Zzl(i k m:Nat)(a:Ac):plA i k m a.er=plA i k m a:=by
 unfold plA
 rw[show a.er.parts.length=a.parts.length from List.length_map ..]
theorem Zzm(i k:Nat)(r:Ru):plR i k r.er=plR i k r:=by
 unfold plR
 rw[show r.er.acts.length=r.acts.length from List.length_map ..]
 congr 2
 funext m
 rw[show r.er.acts=r.acts.map Ac.er from rfl,List.getElem?_map]
 cases r.acts[m]? with
 | none=>rfl
 | some a=>exact Zzl i k m a
theorem Zzn(i:Nat)(x:Sta):plS i x.er=plS i x:=by
 unfold plS
 rw[show x.er.rules.length=x.rules.length from List.length_map ..]
 congr 2
 funext m
 rw[show x.er.rules=x.rules.map Ru.er from rfl,List.getElem?_map]
 cases x.rules[m]? with
 | none=>rfl
 | some r=>exact Zzm i m r
theorem Zs5(s:Sc):s.er.places=s.places:=by
 unfold Sc.places
 rw[Zg4,show s.er.states.length=s.states.length from List.length_map ..]
 congr 4
 funext i
 rw[show s.er.states=s.states.map Sta.er from rfl,List.getElem?_map]
 cases s.states[i]? with
 | none=>rfl
 | some x=>exact Zzn i x
end Go.Rx
namespace Go.Rx
open Go Go.Eng
end Go.Rx
namespace Go.Rx
open Go Go.Eng Go.RowKit
section
variable {P:Program} {K:TypeId} {κ ν:Type} [DecidableEq κ] {f:κ->Value} {g:ν->Value}
variable (he:∀a b:κ,EqIs P K (f a) (f b) (decide (a=b)))
include he
end
theorem Zs6{s t:Sc}(hs:s.light=true)(ht:t.light=true)(iI:∀x∈t.states,x∈s.states)(bL:∀x∈s.states,x∈t.states)(name:ByteArray):Zeh t name=Zeh s name:=by
 unfold Zeh
 rw[hs,ht,Bool.and_true,Bool.and_true,Bool.eq_iff_iff,List.any_eq_true,List.any_eq_true]
 exact⟨λ⟨x,h1,h2⟩=>⟨x,iI x h1,h2⟩,λ⟨x,h1,h2⟩=>⟨x,bL x h1,h2⟩⟩
structure Turn (s t:Sc):Prop where
 n:t.n=s.n
 vars:t.vars=s.vars
 len:t.states.length=s.states.length
 sub:∀x∈t.states,x∈s.states
 sup:∀x∈s.states,x∈t.states
 dif:∀(i j:Nat)(x y:Sta),t.states[i]?=some x->t.states[j]?=some y->i≠j->eqS x.s y.s=false
section
variable {s t:Sc} (h:MkC s) (hT:Turn s t)
include h hT
theorem Turn.weight:t.weight<=8200:=by
 have h1:=Zej wS 2025 t.states (λx hx=>by
  obtain⟨i,_,hm⟩:=h.state (hT.sub x hx)
  exact hm.w)
 have h2:=h.len
 have h3:=h.vlen
 unfold Sc.weight
 rw[hT.vars,hT.len]
 rw[hT.len]at h1
 omega
theorem Turn.light:t.light=true:=by unfold Sc.light;exact decide_eq_true (by have:=hT.weight h;omega)
theorem Turn.totals(i k:Nat):Rx.totals t i k<=600:=by
 have h0:=h.len
 have h1:=Zej (λx:Sta=>ZbA (x.rules.map Rx.sizeR)) 130 (t.states.take i) (λx hx=>by
  obtain⟨j,_,hm⟩:=h.state (hT.sub x (List.mem_of_mem_take hx))
  have:=hm.sizes x.rules.length
  rwa [List.take_length]at this)
 rw[List.length_take,hT.len]at h1
 unfold Rx.totals
 cases hx:t.states[i]? with
 | none=>show _+0<=_;omega
 | some x=>
  have hi:=(zA0 hx).1
  rw[hT.len]at hi
  obtain⟨j,_,hm⟩:=h.state (hT.sub x (zA2 hx))
  have:=hm.sizes (k+1)
  show _+ZbA ((x.rules.take (k+1)).map Rx.sizeR)<=_
  omega
theorem Turn.at0:∀p∈t.places,atS t p=0:=by
 intro p hp
 have hP:∀{r:Ru} {a:Ac},MkA (Zbj r) a->∀{n:Nat} {q:Pt},a.parts[n]?=some q->ZcW t r a.parts n q=0:=λ{r a} ha {n q} hq=>by
  have e:ZcW t r a.parts n q=ZcW s r a.parts n q:=by unfold ZcW Zbz Za2 Zbz;rw[hT.vars]
  rw[e]
  cases ha with
  | send _ _ l hl=>exact h.part hl hq
  | set _ _ _ _ l hl=>exact h.part hl hq
  | let_ _ _ e _=>simp at hq
 rcases Zg2 t p hp with⟨i,hi,v,hv⟩|⟨hv,hs|⟨i,hi,x,hx,hr|⟨k,hk,r,hr,ha|⟨j,hj,a,ha,hq|⟨n,hn,q,hq⟩⟩⟩⟩⟩
 ·have e:atS t p=Za4 t i v:=by
   unfold atS
   rw[if_pos (by omega),show p.v.toNat=i by omega,hv]
  have e2:Za4 t i v=Za4 s i v:=by unfold Za4;rw[hT.vars]
  rw[e,e2];exact h.var (by rw[<-hT.vars];exact hv)
 all_goals have hv':¬p.v ≥ 0:=by omega
 ·unfold atS
  rw[if_neg hv',if_pos hs]
  have e:Zeg t=Zeg s:=by unfold Zeg;rw[hT.n,hT.len,hT.vars]
  rw[e];exact h.whole
 all_goals
  have hs':¬p.s < 0:=by omega
  have jH:p.s.toNat=i:=by omega
  obtain⟨i0,wj,hm⟩:=h.state (hT.sub x (zA2 ‹t.states[i]?=some x›))
 ·have e:atS t p=Zde t i x:=by
   unfold atS
   rw[if_neg hv',if_neg hs',jH,hx]
   exact if_pos hr
  rw[e]
  have h1:Zcb x.s=true:=Zrm _ (zA2 hm.name)
  have h2:decide (x.rules.length > 12)=false:=decide_eq_false (by have:=hm.len;omega)
  have h3:((t.states.take i).any λy=>eqS y.s x.s)=false:=by
   rw[List.any_eq_false]
   intro y hy
   obtain⟨j,hj⟩:=List.getElem?_of_mem hy
   have jW:j < i:=by have:=(zA0 hj).1;rw[List.length_take]at this;omega
   rw[List.getElem?_take_of_lt jW]at hj
   rw[hT.dif j i y x hj hx (by omega)];simp
  simp[Zde,ZaZ,h1,h2,h3]
 all_goals
  have hr':¬p.r < 0:=by omega
  have fV:p.r.toNat=k:=by omega
  have hR:=hm.all r (zA2 hr)
 ·have e:atS t p=ZcM t r (Rx.totals t i k):=by
   unfold atS
   rw[if_neg hv',if_neg hs',jH,hx]
   show(if p.r < 0 then _ else _)=_
   rw[if_neg hr',fV,hr]
   exact if_pos ha
  have e2:∀n,ZcM t r n=ZcM s r n:=λn=>by unfold ZcM;rw[Zs6 h.light (hT.light h) hT.sub hT.sup]
  rw[e,e2];exact h.rule hR (hT.totals h i k)
 all_goals
  have ha':¬p.a < 0:=by omega
  have jS:p.a.toNat=j:=by omega
  have hA:=hR.all a (zA2 ‹r.acts[j]?=some a›)
 ·have e:atS t p=ZaO t r a:=by
   unfold atS
   rw[if_neg hv',if_neg hs',jH,hx]
   show(if p.r < 0 then _ else _)=_
   rw[if_neg hr',fV,hr]
   show(if p.a < 0 then _ else _)=_
   rw[if_neg ha',jS,‹r.acts[j]?=some a›]
   exact if_pos hq
  have e2:ZaO t r a=ZaO s r a:=by unfold ZaO Zbz Za2 Zbz;rw[hT.vars]
  rw[e,e2];exact h.action hA
 ·have e:atS t p=ZcW t r a.parts n q:=by
   unfold atS
   rw[if_neg hv',if_neg hs',jH,hx]
   show(if p.r < 0 then _ else _)=_
   rw[if_neg hr',fV,hr]
   show(if p.a < 0 then _ else _)=_
   rw[if_neg ha',jS,‹r.acts[j]?=some a›]
   show(if p.p < 0 then _ else _)=_
   rw[if_neg (by omega),show p.p.toNat=n by omega,hq]
  rw[e];exact hP hA hq
theorem Turn.check:t.check=(top,0):=by
 have e:t.problems=[]:=by
  unfold Sc.problems
  rw[List.filterMap_eq_nil_iff]
  intro p hp
  rw[if_pos (hT.at0 h p hp)]
 unfold Sc.check
 rw[if_pos (hT.light h),e]
end
section
variable {α:Type} [Inhabited α] (enc:α->Value)
end
end Go.Rx
namespace Go.Rx
open Go Go.Eng
end Go.Rx
namespace Go.Rx
open Go Go.Eng Go.RowKit
theorem Zrz{α:Type}{Zgw:α->List Value}{k:Nat}(hk:∀z,(Zgw z).length=k){m:Mem}{b:Nat}:∀{L:List α} {o:Nat},(∀i z,L[i]?=some z->m.reads b (o+i*k) (Zgw z))->m.reads b o (L.map Zgw).flatten
 | [],o,h=>λj v hj=>by simp at hj
 | x::L,o,h=>λj v hj=>by
  rw[List.map_cons,List.flatten_cons]at hj
  by_cases aG:j < k
  ·rw[zA5 (by rw[hk];exact aG)]at hj
   have:=h 0 x rfl j v hj
   rwa [Nat.zero_mul,Nat.add_zero]at this
  ·rw[zA4 (by rw[hk];omega),hk]at hj
   have:=Zrz hk (L:=L) (o:=o+k) (λi z hz=>by
    have:=h (i+1) z (by simpa using hz)
    rwa [show o+(i+1)*k=o+k+i*k by rw[Nat.succ_mul];omega]at this) (j - k) v hj
   rwa [show o+k+(j - k)=o+j by omega]at this
theorem Zzo{m:Mem}{b o:Nat}{vs:List Value}{j:Nat}{v:Value}(h:vs[j]?=some v):(m.upd b o vs) b (o+j)=some v:=by
 have hj:=(zA0 h).1
 unfold Mem.upd;dsimp only
 rw[if_pos ⟨rfl,by omega,by omega⟩,Nat.add_sub_cancel_left];exact h
theorem Zxy{m:Mem}{b o q:Nat}{vs:List Value}(h:q < o\/o+vs.length<=q):(m.upd b o vs) b q=m b q:=by
 unfold Mem.upd;dsimp only
 rw[if_neg (by omega)]
theorem ZrA{α:Type}{cs:α->List Value}{n:Nat}(hn:∀x,(cs x).length=n)(h0:0 < n){m:Mem}{b:Nat}{L:List α}{k:Nat}{y:α}(h:rowRd m (some ⟨b,0,none⟩) (L.map cs).flatten)(hk:k < L.length):rowRd (m.upd b (0+k*n) (cs y)) (some ⟨b,0,none⟩) ((L.set k y).map cs).flatten:=by
 refine .inr ⟨b,0,rfl,Zrz hn λi z hz j v hj=>?_⟩
 have xz:j < n:=by have:=(zA0 hj).1;rwa [hn]at this
 by_cases kA:i=k
 ·subst kA
  rw[List.getElem?_set_self hk]at hz
  cases hz
  exact Zzo hj
 ·rw[List.getElem?_set_ne (Ne.symm kA)]at hz
  obtain⟨b',o',ha,bU⟩:=Zap hn h hz h0
  cases ha
  rw[Zxy,bU j v hj]
  rw[hn]
  rcases Nat.lt_or_ge i k with h|h
  ·have:=Nat.mul_le_mul_right n (show i+1<=k by omega)
   rw[Nat.succ_mul]at this
   omega
  ·have:=Nat.mul_le_mul_right n (show k+1<=i by omega)
   rw[Nat.succ_mul]at this
   omega
def ZpD(x:Sta)(k:Nat)(r:Ru):Sta:=⟨x.s,x.ra,x.rc,x.rules.set k r⟩
def ZkM(s:Sc)(i k:Nat)(r:Ru):Sc:=match s.states[i]? with
 | some x=>⟨s.n,s.va,s.vc,s.vars,s.sa,s.sc,s.states.set i (ZpD x k r)⟩
 | none=>s
theorem Zxz{x x':Sta}(h:x'.er=x.er){r r':Ru}(hr:r'.er=r.er)(k:Nat):(ZpD x' k r').er=(ZpD x k r).er:=by
 obtain⟨h1,h2,_⟩:=Zru h
 simp only[ZpD,Sta.er,h1,Sta.mk.injEq,true_and]
 rw[List.map_set,List.map_set,h2,hr]
theorem ZrB{s s':Sc}{i:Nat}{x x':Sta}(oN:s'.er=s.er)(hx:s.states[i]?=some x)(oO:x'.er=x.er){r r':Ru}(hr:r'.er=r.er)(k:Nat):(⟨s'.n,s'.va,s'.vc,s'.vars,s'.sa,s'.sc,s'.states.set i (ZpD x' k r')⟩:Sc).er=(ZkM s i k r).er:=by
 have h1:=Zxw oN
 have h2:ZkM s i k r=⟨s.n,s.va,s.vc,s.vars,s.sa,s.sc,s.states.set i (ZpD x k r)⟩:=by unfold ZkM;rw[hx]
 rw[h2]
 exact Zvr h1.1 h1.2 (by rw[List.map_set,List.map_set,Zoz oN,Zxz oO hr])
theorem ZxA(x:Sta)(k:Nat)(r:Ru):(ZpD x k r).cs=x.cs:=by simp only[ZpD,Sta.cs,List.length_set]
theorem ZuC{m2 m3 M:Mem}{s':Sc}{bS bR i k:Nat}{μ:Nat->Mem}{x':Sta}{r:Ru}(cY:RepC (nw m2 m3) s')(eJ:SepC m2 m3 s' bS μ)(hx':s'.states[i]?=some x')(mw:x'.ra=some ⟨bR,0,none⟩)(hk:k < x'.rules.length)
  (kC:∀r∈x'.rules,RepR ((μ i).off λq=>q=bR) r) (hM:(m3.off λq=>q=bR).le M) (aF:rowRd M (some ⟨bR,0,none⟩) ((x'.rules.set k r).map Ru.cs).flatten) (hr:RepR M r):
  RepC M ⟨s'.n,s'.va,s'.vc,s'.vars,s'.sa,s'.sc,s'.states.set i (ZpD x' k r)⟩:=by
 have hi:=(zA0 hx').1
 obtain⟨pQ,pz,bH,sG⟩:=eJ.all i x' hx'
 have kno:∀{ν:Mem},ν.le (nw m2 m3)->∀b,ν.k b=none:=λh b=>Zl6 h rfl
 have jl:¬(μ i).free bR:=λhf=>by
  rcases pQ.row with h|⟨b,o,ha,h⟩
  ·have:=congrArg List.length h
   rw[ZaU Ru.len]at this;simp at this;omega
  ·rw[mw]at ha;cases ha
   have aG:0 < (x'.rules.map Ru.cs).flatten.length:=by rw[ZaU Ru.len];omega
   have:=h 0 _ (zA3 aG)
   rw[hf]at this;cases this
 have sH:bS≠bR:=λe=>jl (e ▸ sG)
 have off:∀{ν:Mem},ν.le (nw m2 m3)->ν.free bR->ν.le M:=λh1 h2=>mLt (Zov (Y:=λq=>q=bR) (mLt h1 (Zjf _ _)) λb e=>⟨by rw[show b=bR from e];exact h2,kno h1 b⟩) hM
 have bF:∀j,j < s'.states.length->j≠i->(μ j).free bR:=λj hj dI=>by
  rcases Nat.lt_or_ge j i with h|h
  ·exact(eJ.ap j i h hi bR).resolve_right jl
  ·exact(eJ.ap i j (by omega) hj bR).resolve_left jl
 have wk:=eJ.sa
 refine⟨cY.n,cY.vlen,?_,cY.vall,by rw[List.length_set];exact cY.len,?_,λy hy=>?_,cY.vcap,by rw[List.length_set];exact cY.scap⟩
 ·obtain⟨μv,h1,h2,h3,h4⟩:=eJ.va
  exact h1.mono (off h2 ((h4 i hi bR).resolve_right jl))
 ·have e:(s'.states.set i (ZpD x' k r)).map Sta.cs=s'.states.map Sta.cs:=by
   rw[List.map_set,ZxA]
   have:(s'.states.map Sta.cs)[i]?=some x'.cs:=by rw[List.getElem?_map,hx'];rfl
   exact List.ext_getElem? λj=>by
    by_cases hj:j=i
    ·subst hj
     rw[List.getElem?_set_self (by rw[List.length_map];exact hi),this]
    ·rw[List.getElem?_set_ne (Ne.symm hj)]
  show rowRd M s'.sa ((s'.states.set i (ZpD x' k r)).map Sta.cs).flatten
  rw[e]
  rcases cY.row with h|⟨b,o,ha,h⟩
  ·exact .inl h
  ·refine .inr ⟨b,o,ha,λj v hj=>hM _ _ _ ?_⟩
   rw[wk]at ha;cases ha
   rw[Mem.off_at (Y:=λq=>q=bR) sH];exact(Zjf m2 m3) _ _ _ (h j v hj)
 ·obtain⟨j,hj⟩:=List.getElem?_of_mem hy
  by_cases jW:j=i
  ·subst jW
   rw[List.getElem?_set_self hi]at hj
   cases hj
   refine⟨pQ.s,by show(x'.rules.set k r).length<=few;rw[List.length_set];exact pQ.len,?_,λq hq=>?_⟩
   ·show rowRd _ x'.ra ((x'.rules.set k r).map Ru.cs).flatten
    rw[mw];exact aF
   ·rcases List.mem_or_eq_of_mem_set hq with h|rfl
    ·exact(kC q h).mono (mLt (ZuA (mLt bH (Zjf _ _))) hM)
    ·exact hr
  ·rw[List.getElem?_set_ne (Ne.symm jW)]at hj
   have sI:=(zA0 hj).1
   obtain⟨h1,_,h3,h4⟩:=eJ.all j y hj
   exact h1.mono (off h3 (bF j sI jW))
section
variable {m2 m3:Mem} {s':Sc} {bS:Nat} {μ:Nat->Mem} (cY:RepC (nw m2 m3) s') (eJ:SepC m2 m3 s' bS μ)
include eJ
include cY
end
end Go.Rx
namespace Go.Rx
open Go Go.Eng
set_option maxRecDepth 100000
def ZwI:T:=.node 2 0 72057594037927936 0 0 0 0 none 0 []
def Zyv:T:=.node 2 0 144115188075855872 0 0 0 0 none 0 []
def rxT(a1 a2:Option Addr):T:=.node 3 0 0 0 0 0 0 a2 2 [.node 6 0 0 0 0 0 0 a1 1 [ZwI],Zyv]
def ZuD(n:Int):Pt:=⟨3,⟨#[]⟩,n,E0⟩
def ZmX(pa:Option Addr)(pc:Nat)(l:List Int):Ac:=⟨1,⟨#[]⟩,pa,pc,l.map ZuD,E0⟩
def Zqn:Ac:=⟨3,⟨#[110]⟩,none,0,[],.node 9 0 ⟨#[109]⟩ 0 none 0 []⟩
def ZwL(pa:Option Addr):Ac:=⟨2,⟨#[110]⟩,pa,1,[⟨1,⟨#[120]⟩,0,E0⟩],E0⟩
def ru0(k:Int):Ru:=⟨k,false,false,T0,⟨#[]⟩,0,none,0,[],⟨#[]⟩,0⟩
def Zyw(a1 a2 aa pa:Option Addr)(ac pc:Nat)(l:List Int):Ru:=⟨1,false,false,rxT a1 a2,⟨#[]⟩,0,aa,ac,[ZmX pa pc l],⟨#[97]⟩,0⟩
def ZAh(aa pa:Option Addr)(ac pc:Nat)(l:List Int):Ru:=⟨2,false,false,T0,⟨#[97,98]⟩,0,aa,ac,[ZmX pa pc l],⟨#[]⟩,256⟩
def Zt5(aa:Option Addr)(ac:Nat)(a:Ac):Ru:=⟨3,false,false,T0,⟨#[]⟩,0,aa,ac,[a],⟨#[]⟩,0⟩
def Zh9:List Va:=[⟨⟨#[110]⟩,true,⟨#[]⟩,0⟩,⟨⟨#[116]⟩,false,⟨#[]⟩,0⟩]
def Zg5(va sa ra:Option Addr)(r:Ru):Sc:=⟨9,va,2,Zh9,sa,1,[⟨⟨#[97]⟩,ra,1,[r]⟩]⟩
def ZAi(va sa ra:Option Addr)(sc:Nat):Sc:=⟨9,va,2,Zh9,sa,sc,[⟨⟨#[97]⟩,ra,1,[ru0 3]⟩,⟨⟨#[97]⟩,none,0,[]⟩]⟩
def ZpE(n:Int):Sc:=⟨n,none,0,[],none,0,[]⟩
theorem ex1(va sa ra a1 a2 aa pa:Option Addr)(ac pc:Nat):(Zg5 va sa ra (Zyw a1 a2 aa pa ac pc [1,2])).check=(⟨-1,0,0,0,1⟩,309):=by kernel_rfl
theorem ex2(va sa ra a1 a2 aa pa:Option Addr)(ac pc:Nat):(Zg5 va sa ra (Zyw a1 a2 aa pa ac pc [1,0])).check=(⟨-1,-1,-1,-1,-1⟩,0):=by kernel_rfl
theorem ex3(va sa ra aa pa:Option Addr)(ac pc:Nat):(Zg5 va sa ra (ZAh aa pa ac pc [0])).check=(⟨-1,0,0,-1,-1⟩,306):=by kernel_rfl
theorem ex4(va sa ra:Option Addr):(Zg5 va sa ra (ru0 4)).check=(⟨-1,0,0,-1,-1⟩,304):=by kernel_rfl
theorem ex5(va sa ra aa:Option Addr)(ac:Nat):(Zg5 va sa ra (Zt5 aa ac Zqn)).check=(⟨-1,0,0,0,-1⟩,308):=by kernel_rfl
theorem ex6(va sa ra aa pa:Option Addr)(ac:Nat):(Zg5 va sa ra (Zt5 aa ac (ZwL pa))).check=(⟨-1,0,0,0,-1⟩,308):=by kernel_rfl
theorem ex7(va sa ra:Option Addr)(sc:Nat):(ZAi va sa ra sc).check=(⟨-1,1,-1,-1,-1⟩,303):=by kernel_rfl
theorem ex8:(ZpE 9).check=(⟨-1,-1,-1,-1,-1⟩,302):=by kernel_rfl
theorem ex9:(ZpE 1).check=(⟨-1,-1,-1,-1,-1⟩,300):=by kernel_rfl
theorem ZBr(va sa ra aa pa:Option Addr)(ac pc:Nat):(Zg5 va sa ra (Zt5 aa ac (ZmX pa pc [0]))).check=(⟨-1,0,0,0,0⟩,309):=by kernel_rfl
end Go.Rx
namespace Go.Rx
open Go Go.Eng Go.RowKit
def Zyx(c:Int):E:=.node 10 0 .empty c none 0 []
def ZrC(c:Int):Ac:=⟨1,.empty,none,0,[⟨2,⟨#[115]⟩,0,E0⟩,⟨3,.empty,c,E0⟩],E0⟩
def Zs7(c:Int):Ac:=⟨3,⟨#[120]⟩,none,0,[],Zyx c⟩
def Zg6(r:Ru)(c:Int):Ru:=⟨r.k,r.bg,r.en,r.t,r.s,r.n,none,0,r.acts++[ZrC c,Zs7 c],r.go,r.code⟩
theorem ZrD:∀c:Nat,c < 10->(Zyx c).clean=true/\(Zyx c).most=c/\(Zyx c).vars=[]/\nE (Zyx c)<=20/\(Zyx c).light=true:=by decide +kernel
abbrev PF(t:Sc)(p:Pl):Option (Pl×Int):=if atS t p=0 then none else some (p,atS t p)
theorem pf0{t:Sc}{p:Pl}(h:atS t p=0):PF t p=none:=if_pos h
theorem Zf0(F:Pl->Option (Pl×Int))(f:Nat->List Pl):∀n,(∀j,j < n->(f j).filterMap F=[])->(Zdp n f).filterMap F=[]
 | 0,_=>rfl
 | n+1,h=>by
  rw[Zbf,List.filterMap_append,Zf0 F f n (λj hj=>h j (by omega)),h n (by omega)];rfl
theorem Zvv(F:Pl->Option (Pl×Int))(f:Nat->List Pl){i:Nat}:∀n,i < n->(∀j,j < n->j≠i->(f j).filterMap F=[])->(Zdp n f).filterMap F=(f i).filterMap F
 | 0,hi,_=>by omega
 | n+1,hi,h=>by
  rw[Zbf,List.filterMap_append]
  by_cases e:i=n
  ·subst e
   rw[Zf0 F f i (λj hj=>h j (by omega) (by omega))];rfl
  ·rw[Zvv F f n (by omega) (λj hj dI=>h j (by omega) dI),h n (by omega) (λe'=>e e'.symm),List.append_nil]
theorem Zzp(t:Sc){i:Nat}{v:Va}(h:t.vars[i]?=some v):atS t ⟨i,-1,-1,-1,-1⟩=Za4 t i v:=by
 unfold atS
 rw[if_pos (show(i:Int) ≥ 0 by omega),show((i:Int).toNat)=i from rfl]
 rw[h]
theorem ZxB(t:Sc){i:Nat}{x:Sta}(h:t.states[i]?=some x):atS t ⟨-1,i,-1,-1,-1⟩=Zde t i x:=by
 unfold atS
 rw[if_neg (by show ¬(-1:Int) ≥ 0;decide),if_neg (by show ¬(i:Int) < 0;omega),show((i:Int).toNat)=i from rfl,h]
 exact if_pos (show(-1:Int) < 0 by decide)
theorem ZxC(t:Sc){i k:Nat}{x:Sta}{r:Ru}(h:t.states[i]?=some x)(hr:x.rules[k]?=some r):atS t ⟨-1,i,k,-1,-1⟩=ZcM t r (totals t i k):=by
 unfold atS
 rw[if_neg (by show ¬(-1:Int) ≥ 0;decide),if_neg (by show ¬(i:Int) < 0;omega),show((i:Int).toNat)=i from rfl,h]
 show(if(k:Int) < 0 then _ else _)=_
 rw[if_neg (by omega),show((k:Int).toNat)=k from rfl,hr]
 exact if_pos (show(-1:Int) < 0 by decide)
theorem Zs8(t:Sc){i k m:Nat}{x:Sta}{r:Ru}{a:Ac}(h:t.states[i]?=some x)(hr:x.rules[k]?=some r)(ha:r.acts[m]?=some a):atS t ⟨-1,i,k,m,-1⟩=ZaO t r a:=by
 unfold atS
 rw[if_neg (by show ¬(-1:Int) ≥ 0;decide),if_neg (by show ¬(i:Int) < 0;omega),show((i:Int).toNat)=i from rfl,h]
 show(if(k:Int) < 0 then _ else _)=_
 rw[if_neg (by omega),show((k:Int).toNat)=k from rfl,hr]
 show(if(m:Int) < 0 then _ else _)=_
 rw[if_neg (by omega),show((m:Int).toNat)=m from rfl,ha]
 exact if_pos (show(-1:Int) < 0 by decide)
theorem Zs9(t:Sc){i k m n:Nat}{x:Sta}{r:Ru}{a:Ac}{q:Pt}(h:t.states[i]?=some x)(hr:x.rules[k]?=some r)(ha:r.acts[m]?=some a)(hq:a.parts[n]?=some q):atS t ⟨-1,i,k,m,n⟩=ZcW t r a.parts n q:=by
 unfold atS
 rw[if_neg (by show ¬(-1:Int) ≥ 0;decide),if_neg (by show ¬(i:Int) < 0;omega),show((i:Int).toNat)=i from rfl,h]
 show(if(k:Int) < 0 then _ else _)=_
 rw[if_neg (by omega),show((k:Int).toNat)=k from rfl,hr]
 show(if(m:Int) < 0 then _ else _)=_
 rw[if_neg (by omega),show((m:Int).toNat)=m from rfl,ha]
 show(if(n:Int) < 0 then _ else _)=_
 rw[if_neg (by omega),show((n:Int).toNat)=n from rfl,hq]
structure Near (s t:Sc):Prop where
 n:t.n=s.n
 vars:t.vars=s.vars
 names:t.states.map Sta.s=s.states.map Sta.s
 light:t.light=true
 tot:∀i k,totals t i k<=600
section
variable {s t:Sc} (h:MkC s) (hN:Near s t)
include hN
theorem Near.len:t.states.length=s.states.length:=by simpa using congrArg List.length hN.names
theorem Near.kind(name:ByteArray):Zbz t name=Zbz s name:=by unfold Zbz;rw[hN.vars]
theorem Near.numbers(e:E):Za2 t e=Za2 s e:=by unfold Za2;simp only[hN.kind]
theorem Near.any(name:ByteArray):(t.states.any λx=>eqS x.s name)=s.states.any λx=>eqS x.s name:=by
 have e:∀l:List Sta,(l.any λx=>eqS x.s name)=(l.map Sta.s).any λy=>eqS y name:=λl=>by rw[List.any_map];rfl
 rw[e,e,hN.names]
theorem Near.anyTake(i:Nat)(name:ByteArray):((t.states.take i).any λy=>eqS y.s name)=(s.states.take i).any λy=>eqS y.s name:=by
 have e:∀l:List Sta,(l.any λx=>eqS x.s name)=(l.map Sta.s).any λy=>eqS y name:=λl=>by rw[List.any_map];rfl
 rw[e,e,List.map_take,List.map_take,hN.names]
theorem Near.action(r:Ru)(a:Ac):ZaO t r a=ZaO s r a:=by unfold ZaO;simp only[hN.kind,hN.numbers]
theorem Near.part(r:Ru)(l:List Pt)(n:Nat)(p:Pt):ZcW t r l n p=ZcW s r l n p:=by
 rw[ZfY,ZfY];simp only[hN.kind,hN.numbers]
include h
theorem Near.finds(name:ByteArray):Zeh t name=Zeh s name:=by unfold Zeh;rw[hN.any,hN.light,h.light]
theorem Near.rule(r:Ru)(T:Int):ZcM t r T=ZcM s r T:=by unfold ZcM;simp only[hN.finds h]
theorem Near.whole:Zeg t=0:=by
 have:=h.whole
 unfold Zeg at this ⊢
 rw[hN.n,hN.vars,hN.len];exact this
theorem Near.var{i:Nat}{v:Va}(hv:t.vars[i]?=some v):Za4 t i v=0:=by
 rw[hN.vars]at hv
 have:=h.var hv
 unfold Za4 at this ⊢
 rw[hN.vars];exact this
theorem Near.sta{i:Nat}{x y:Sta}(hx:s.states[i]?=some x)(hy:y.s=x.s)(hl:y.rules.length=x.rules.length):Zde t i y=0:=by
 have:=h.stateOk hx
 unfold Zde at this ⊢
 rw[hy,hl,hN.anyTake];exact this
theorem Near.fmR{i k:Nat}{x:Sta}{r:Ru}(hx:t.states[i]?=some x)(hr:x.rules[k]?=some r)(hm:MkR s.states.length r):(plR i k r).filterMap (PF t)=[]:=by
 rw[Zom,List.filterMap_cons_none (pf0 (by rw[ZxC t hx hr,hN.rule h];exact h.rule hm (hN.tot i k)))]
 refine Zf0 _ _ _ λm j5=>?_
 obtain⟨a,ha⟩:=ZjU j5
 have hA:=hm.all a (zA2 ha)
 unfold Hf
 rw[ha]
 show(plA i k m a).filterMap (PF t)=[]
 rw[Zol,List.filterMap_cons_none (pf0 (by rw[Zs8 t hx hr ha,hN.action];exact h.action hA))]
 refine Zf0 _ _ _ λn nD=>?_
 obtain⟨q,hq⟩:=ZjU nD
 unfold Pf
 rw[List.filterMap_cons_none (pf0 (by
  rw[Zs9 t hx hr ha hq,hN.part]
  cases hA with
  | send _ _ l hl=>exact h.part hl hq
  | set _ _ _ _ l hl=>exact h.part hl hq
  | let_ _ _ e _=>simp at hq))]
 rfl
theorem Near.one{i k:Nat}{x x':Sta}{r:Ru}(hx:s.states[i]?=some x)(hk:k < x.rules.length)(hx':t.states[i]?=some x')(cZ:x'.s=x.s)(hr:x'.rules=x.rules.set k r)(ho:∀j,j≠i->t.states[j]?=s.states[j]?):t.problems=(plR i k r).filterMap (PF t):=by
 have hi:=(zA0 hx').1
 have hm:=h.all i x hx
 have jB:x'.rules.length=x.rules.length:=by rw[hr,List.length_set]
 show t.places.filterMap (PF t)=_
 rw[Zg1 hN.light,List.filterMap_cons_none (pf0 (show atS t top=0 from by
  have:atS t top=Zeg t:=by unfold atS;rw[if_neg (by decide)];exact if_pos (by decide)
  rw[this];exact hN.whole h)),List.filterMap_append,Zf0 _ _ _ (λj hj=>by
   obtain⟨v,hv⟩:=ZjU hj
   unfold Vf
   rw[List.filterMap_cons_none (pf0 (by rw[Zzp t hv];exact hN.var h hv))];rfl),List.nil_append]
 rw[Zvv (i:=i) _ _ _ hi λj hj jW=>?_]
 ·unfold Ff
  rw[hx']
  show(plS i x').filterMap (PF t)=_
  rw[Zon,List.filterMap_cons_none (pf0 (by rw[ZxB t hx'];exact hN.sta h hx cZ jB))]
  rw[Zvv (i:=k) _ _ _ (by omega) λj hj rb=>?_]
  ·unfold Gf
   rw[hr,List.getElem?_set_self hk]
  ·obtain⟨q,hq⟩:=ZjU hj
   unfold Gf
   rw[hq]
   refine hN.fmR h hx' hq (hm.all q ?_)
   rw[hr,List.getElem?_set_ne (Ne.symm rb)]at hq
   exact zA2 hq
 ·obtain⟨y,hy⟩:=ZjU hj
  have hy':=hy
  rw[ho j jW]at hy'
  have my:=h.all j y hy'
  unfold Ff
  rw[hy]
  show(plS j y).filterMap (PF t)=_
  rw[Zon,List.filterMap_cons_none (pf0 (by rw[ZxB t hy];exact hN.sta h hy' rfl rfl))]
  refine Zf0 _ _ _ λn nD=>?_
  obtain⟨q,hq⟩:=ZjU nD
  unfold Gf
  rw[hq]
  exact hN.fmR h hy hq (my.all q (zA2 hq))
end
theorem ZxD(c:Int):wA (ZrC c)<=63:=by
 have:=nE0
 simp[wA,ZrC,ZbA];omega
theorem ZxE{n:Nat}{r:Ru}(hm:MkR n r){c:Nat}(hc:c < 10):wR (Zg6 r c)<=600:=by
 have h1:=hm.w
 have h2:=ZxD c
 have h3:wA (Zs7 c)<=21:=by
  have:=(ZrD c hc).2.2.2.1
  simp[wA,Zs7,ZbA];omega
 unfold wR Zg6 at *
 simp only[List.map_append,Zm7,List.map_cons,List.map_nil,ZbA]
 omega
section
variable {s:Sc} (h:MkC s) {i k c:Nat} {x:Sta} {r:Ru} (hx:s.states[i]?=some x) (hr:x.rules[k]?=some r) (hc:c < 10)
include h hx hr hc
theorem ZxF:∀y∈(ZkM s i k (Zg6 r c)).states,y.rules.length<=5/\∀q∈y.rules,wR q<=600/\Rx.sizeR q<=26:=by
 have h2:ZkM s i k (Zg6 r c)=⟨s.n,s.va,s.vc,s.vars,s.sa,s.sc,s.states.set i (ZpD x k (Zg6 r c))⟩:=by unfold ZkM;rw[hx]
 rw[h2]
 intro y hy
 have hm:=h.all i x hx
 have ok:∀{q:Ru},MkR s.states.length q->wR q<=600/\Rx.sizeR q<=26:=λhq=>⟨by have:=hq.w;omega,hq.sizeR⟩
 rcases List.mem_or_eq_of_mem_set hy with hy|rfl
 ·obtain⟨j,_,my⟩:=h.state hy
  exact⟨my.len,λq hq=>ok (my.all q hq)⟩
 ·refine⟨by show(x.rules.set k _).length<=5;rw[List.length_set];exact hm.len,λq hq=>?_⟩
  rcases List.mem_or_eq_of_mem_set hq with hq|rfl
  ·exact ok (hm.all q hq)
  ·have hR:=hm.all r (zA2 hr)
   exact⟨ZxE hR hc,hR.sizeR⟩
theorem ZrE:Near s (ZkM s i k (Zg6 r c)):=by
 have dF:=ZxF h hx hr hc
 have h2:ZkM s i k (Zg6 r c)=⟨s.n,s.va,s.vc,s.vars,s.sa,s.sc,s.states.set i (ZpD x k (Zg6 r c))⟩:=by unfold ZkM;rw[hx]
 have aT:(ZkM s i k (Zg6 r c)).states.length=s.states.length:=by rw[h2];exact List.length_set
 have h0:=h.len
 have hv:=h.vlen
 have mz:(ZkM s i k (Zg6 r c)).vars=s.vars:=by rw[h2]
 refine⟨by rw[h2],mz,?_,?_,λi' k'=>?_⟩
 ·rw[h2]
  refine List.ext_getElem? λj=>?_
  show((s.states.set i _).map Sta.s)[j]?=_
  rw[List.getElem?_map,List.getElem?_map]
  by_cases hj:j=i
  ·subst hj
   rw[List.getElem?_set_self (zA0 hx).1,hx];rfl
  ·rw[List.getElem?_set_ne (Ne.symm hj)]
 ·unfold Sc.light Sc.weight
  refine decide_eq_true ?_
  have h1:=Zej wS 3000 (ZkM s i k (Zg6 r c)).states (λy hy=>by
   obtain⟨h1,h2⟩:=dF y hy
   have:=Zej wR 600 y.rules (λq hq=>(h2 q hq).1)
   unfold wS;omega)
  rw[aT]at h1 ⊢
  rw[mz]
  omega
 ·generalize ZkM s i k (Zg6 r c)=t at *
  have bI:∀y∈t.states,∀n,ZbA ((y.rules.take n).map Rx.sizeR)<=130:=λy hy n=>by
   obtain⟨h1,h2⟩:=dF y hy
   have:=Zej Rx.sizeR 26 (y.rules.take n) (λq hq=>(h2 q (List.mem_of_mem_take hq)).2)
   rw[List.length_take]at this
   omega
  have h1:=Zej (λx:Sta=>ZbA (x.rules.map Rx.sizeR)) 130 (t.states.take i') (λy hy=>by
   have:=bI y (List.mem_of_mem_take hy) y.rules.length
   rwa [List.take_length]at this)
  rw[List.length_take]at h1
  unfold Rx.totals
  cases oK:t.states[i']? with
  | none=>show _+0<=_;omega
  | some y=>
   have hi:=(zA0 oK).1
   have:=bI y (zA2 oK) (k'+1)
   show _+ZbA ((y.rules.take (k'+1)).map Rx.sizeR)<=_
   omega
omit hx hr in
theorem ZAH(q:Ru):ZaO s q (ZrC c)=0:=by
 have hz:=Zqi
 have h2:Zbe 1 1 3=true:=by decide
 unfold ZaO
 simp[ZaZ,h2,hz,ZaB,ZrC]
omit hx hr in
theorem ZAI(q:Ru):ZaO s q (Zs7 c)=if(c:Int) > Zbj q then 309 else 0:=by
 obtain⟨e1,e2,e3,_,_⟩:=ZrD c hc
 have h2:Zbe 3 1 3=true:=by decide
 have h3:Za2 s (Zyx c)=true:=by unfold Za2;rw[e3];rfl
 have hk:Zbz s ⟨#[120]⟩=(true,true):=h.num (by simp[Zgy])
 unfold ZaO
 simp only[ZaZ,Zs7,h2,e1,e2,h3,hk]
 simp
omit hx hr in
theorem ZAJ(q:Ru)(l:List Pt)(hl:l=(ZrC c).parts):ZcW s q l 0 ⟨2,⟨#[115]⟩,0,E0⟩=0:=by
 have hz:=Zqi
 have h1:Za0 ⟨2,⟨#[115]⟩,0,E0⟩=true:=by
  have:Zcb ⟨#[115]⟩=true:=Zrl _ (by simp[Zdd])
  simp[Za0,hz,this]
 have hk:Zbz s ⟨#[115]⟩=(false,true):=h.txt (by simp[Zdd])
 rw[ZfY,h1]
 simp[ZaZ,hk]
omit hx hr in
theorem ZAK(q:Ru)(l:List Pt):ZcW s q l 1 ⟨3,.empty,c,E0⟩=if(c:Int) > Zbj q then 309 else 0:=by
 have hz:=Zqi
 have h1:Za0 ⟨3,.empty,c,E0⟩=true:=by simp[Za0,hz,ZaB];omega
 rw[ZfY,h1]
 simp[ZaZ]
theorem Zl8:(ZkM s i k (Zg6 r c)).problems=if(c:Int)<=Zbj r then[]else[(⟨-1,i,k,r.acts.length,1⟩,309),(⟨-1,i,k,(r.acts.length+1:Nat),-1⟩,309)]:=by
 have hN:=ZrE h hx hr hc
 have h2:ZkM s i k (Zg6 r c)=⟨s.n,s.va,s.vc,s.vars,s.sa,s.sc,s.states.set i (ZpD x k (Zg6 r c))⟩:=by unfold ZkM;rw[hx]
 have hi:=(zA0 hx).1
 have hk:=(zA0 hr).1
 have hR:=(h.all i x hx).all r (zA2 hr)
 have nV:=hR.len
 have hx':(ZkM s i k (Zg6 r c)).states[i]?=some (ZpD x k (Zg6 r c)):=by rw[h2];exact List.getElem?_set_self hi
 have hr':(ZpD x k (Zg6 r c)).rules[k]?=some (Zg6 r c):=List.getElem?_set_self hk
 rw[hN.one h hx hk hx' rfl rfl (λj hj=>by rw[h2];exact List.getElem?_set_ne (Ne.symm hj))]
 generalize ZkM s i k (Zg6 r c)=t at *
 have sJ:∀T,T<=600->ZcM t (Zg6 r c) T=0:=λT hT=>by
  have:=h.rule hR hT
  rw[hN.rule h]
  unfold ZcM at this ⊢
  rw[decide_eq_false (show ¬r.acts.length > 8 by omega)]at this
  rw[decide_eq_false (show ¬(Zg6 r c).acts.length > 8 by show ¬(r.acts++_).length > 8;simp;omega)]
  exact this
 rw[Zom,List.filterMap_cons_none (pf0 (by rw[ZxC t hx' hr'];exact sJ _ (hN.tot i k))),show(Zg6 r c).acts.length=r.acts.length+1+1 by show(r.acts++_).length=_;simp,Zbf,Zbf,List.filterMap_append,List.filterMap_append]
 rw[Zf0 _ _ _ λm j5=>?_]
 ·have a1:(Zg6 r c).acts[r.acts.length]?=some (ZrC c):=by show(r.acts++_)[_]?=_;simp
  have a2:(Zg6 r c).acts[r.acts.length+1]?=some (Zs7 c):=by show(r.acts++_)[_]?=_;simp
  have e1:Hf i k (Zg6 r c) r.acts.length=[⟨-1,i,k,r.acts.length,-1⟩,⟨-1,i,k,r.acts.length,(0:Nat)⟩,⟨-1,i,k,r.acts.length,(1:Nat)⟩]:=by unfold Hf;rw[a1];rfl
  have e2:Hf i k (Zg6 r c) (r.acts.length+1)=[⟨-1,i,k,(r.acts.length+1:Nat),-1⟩]:=by unfold Hf;rw[a2];rfl
  have f1:=Zs8 t hx' hr' a1
  have f2:=Zs9 t hx' hr' a1 (n:=0) (q:=⟨2,⟨#[115]⟩,0,E0⟩) rfl
  have f3:=Zs9 t hx' hr' a1 (n:=1) (q:=⟨3,.empty,c,E0⟩) rfl
  have f4:=Zs8 t hx' hr' a2
  rw[hN.action,ZAH h hc]at f1
  rw[hN.part,ZAJ h hc _ _ rfl]at f2
  rw[hN.part,ZAK h hc]at f3
  rw[hN.action,ZAI h hc]at f4
  have sK:Zbj (Zg6 r c)=Zbj r:=rfl
  rw[sK]at f3 f4
  rw[e1,e2,List.filterMap_cons_none (pf0 f1),List.filterMap_cons_none (pf0 f2)]
  by_cases bH:(c:Int)<=Zbj r
  ·rw[if_neg (by omega)]at f3 f4
   rw[if_pos bH,List.filterMap_cons_none (pf0 f3),List.filterMap_cons_none (pf0 f4)];rfl
  ·rw[if_pos (by omega)]at f3 f4
   rw[if_neg bH]
   have g3:PF t ⟨-1,i,k,r.acts.length,(1:Nat)⟩=some (⟨-1,i,k,r.acts.length,(1:Nat)⟩,309):=by unfold PF;rw[f3];rfl
   have g4:PF t ⟨-1,i,k,(r.acts.length+1:Nat),-1⟩=some (⟨-1,i,k,(r.acts.length+1:Nat),-1⟩,309):=by unfold PF;rw[f4];rfl
   rw[List.filterMap_cons_some g3,List.filterMap_cons_some g4];rfl
 ·obtain⟨a,ha⟩:=ZjU j5
  have hA:=hR.all a (zA2 ha)
  have ha':(Zg6 r c).acts[m]?=some a:=by show(r.acts++_)[m]?=_;rw[zA5 j5];exact ha
  unfold Hf
  rw[ha']
  show(plA i k m a).filterMap (PF t)=[]
  rw[Zol,List.filterMap_cons_none (pf0 (by rw[Zs8 t hx' hr' ha',hN.action];exact h.action hA))]
  refine Zf0 _ _ _ λn nD=>?_
  obtain⟨q,hq⟩:=ZjU nD
  unfold Pf
  rw[List.filterMap_cons_none (pf0 (by
   rw[Zs9 t hx' hr' ha' hq,hN.part]
   cases hA with
   | send _ _ l hl=>exact h.part (r:=Zg6 r c) hl hq
   | set _ _ _ _ l hl=>exact h.part (r:=Zg6 r c) hl hq
   | let_ _ _ e _=>simp at hq))]
  rfl
end
def ZAL(r:Ru):Option Int:=if r.go.size=0 then none else some ((ZwG.findIdx? λn=>eqS r.go n).elim (-1) λk:Nat=>(k:Int))
theorem MkC.drop{s:Sc}(h:MkC s){i k:Nat}{x:Sta}(hx:s.states[i]?=some x)(hk:k < x.rules.length):MkC (ZyX s i k):=by
 have h2:ZyX s i k=⟨s.n,s.va,s.vc,s.vars,s.sa,s.sc,s.states.set i (ZsZ x k)⟩:=by unfold ZyX;rw[hx]
 have aT:(s.states.set i (ZsZ x k)).length=s.states.length:=List.length_set
 rw[h2]
 refine⟨h.n,h.vlen,h.vall,by show 1<=(s.states.set i (ZsZ x k)).length/\(s.states.set i (ZsZ x k)).length<=4;rw[aT];exact h.len,λj y hy=>?_⟩
 show MkS (s.states.set i (ZsZ x k)).length j y
 rw[aT]
 have hy:(s.states.set i (ZsZ x k))[j]?=some y:=hy
 by_cases hj:j=i
 ·subst hj
  rw[List.getElem?_set_self (zA0 hx).1]at hy
  cases hy
  have hm:=h.all j x hx
  refine⟨hm.name,?_,λr hr=>hm.all r ?_⟩
  ·show(x.rules.eraseIdx k).length<=5
   have:=hm.len
   rw[List.length_eraseIdx];split <;> omega
  ·exact List.mem_of_mem_eraseIdx hr
 ·rw[List.getElem?_set_ne (Ne.symm hj)]at hy
  exact h.all j y hy
section
variable {s:Sc} (h:MkC s) {i k:Nat} {x:Sta} {q r:Ru} (hx:s.states[i]?=some x) (hr:x.rules[k]?=some q) (hw:wR r<=600) (hz:Rx.sizeR r<=26)
include h hx hr hw hz
end
theorem Zvw{s:Sc}{r:Ru}{T:Int}(h:ZcM s r T=0):(!ZaS r||decide (r.acts.length > 8))=false/\(r.k == 1&&(!(r.t.check == 0)||decide (T > 600)))=false:=by
 unfold ZcM ZaZ ZaZ at h
 split at h
 ·omega
 rename_i h1
 split at h
 ·omega
 rename_i h2
 exact⟨by simpa using h1,by simpa using h2⟩
structure Kept (s t:Sc):Prop where
 n:t.n=s.n
 vars:t.vars=s.vars
 len:1<=t.states.length/\t.states.length<=4
 sub:∀x∈t.states,x∈s.states
 dif:∀(i j:Nat)(x y:Sta),t.states[i]?=some x->t.states[j]?=some y->i≠j->eqS x.s y.s=false
 cl:∀x∈t.states,∀r∈x.rules,r.go.size≠0->(t.states.any λx=>eqS x.s r.go)=true
section
variable {s t:Sc} (h:MkC s) (hT:Kept s t)
include h hT
theorem Kept.light:t.light=true:=by
 have h1:=Zej wS 2025 t.states (λx hx=>by
  obtain⟨i,_,hm⟩:=h.state (hT.sub x hx)
  exact hm.w)
 have h2:=hT.len
 have h3:=h.vlen
 unfold Sc.light Sc.weight
 rw[hT.vars]
 refine decide_eq_true ?_
 omega
theorem Kept.totals(i k:Nat):Rx.totals t i k<=600:=by
 have h0:=hT.len
 have h1:=Zej (λx:Sta=>ZbA (x.rules.map Rx.sizeR)) 130 (t.states.take i) (λx hx=>by
  obtain⟨j,_,hm⟩:=h.state (hT.sub x (List.mem_of_mem_take hx))
  have:=hm.sizes x.rules.length
  rwa [List.take_length]at this)
 rw[List.length_take]at h1
 unfold Rx.totals
 cases hx:t.states[i]? with
 | none=>show _+0<=_;omega
 | some x=>
  have hi:=(zA0 hx).1
  obtain⟨j,_,hm⟩:=h.state (hT.sub x (zA2 hx))
  have:=hm.sizes (k+1)
  show _+ZbA ((x.rules.take (k+1)).map Rx.sizeR)<=_
  omega
theorem Kept.at0:∀p∈t.places,atS t p=0:=by
 intro p hp
 have hP:∀{r:Ru} {a:Ac},MkA (Zbj r) a->∀{n:Nat} {q:Pt},a.parts[n]?=some q->ZcW t r a.parts n q=0:=λ{r a} ha {n q} hq=>by
  have e:ZcW t r a.parts n q=ZcW s r a.parts n q:=by unfold ZcW Zbz Za2 Zbz;rw[hT.vars]
  rw[e]
  cases ha with
  | send _ _ l hl=>exact h.part hl hq
  | set _ _ _ _ l hl=>exact h.part hl hq
  | let_ _ _ e _=>simp at hq
 rcases Zg2 t p hp with⟨i,hi,v,hv⟩|⟨hv,hs|⟨i,hi,x,hx,hr|⟨k,hk,r,hr,ha|⟨j,hj,a,ha,hq|⟨n,hn,q,hq⟩⟩⟩⟩⟩
 ·have e:atS t p=Za4 t i v:=by
   unfold atS
   rw[if_pos (by omega),show p.v.toNat=i by omega,hv]
  have e2:Za4 t i v=Za4 s i v:=by unfold Za4;rw[hT.vars]
  rw[e,e2];exact h.var (by rw[<-hT.vars];exact hv)
 all_goals have hv':¬p.v ≥ 0:=by omega
 ·unfold atS
  rw[if_neg hv',if_pos hs]
  have h1:Zbe t.n 2 256=true:=ZcT.2 (by rw[hT.n];have:=h.n;omega)
  have h2:Zbe t.states.length 1 24=true:=ZcT.2 (by have:=hT.len;omega)
  have h3:decide (t.vars.length > 12)=false:=decide_eq_false (by rw[hT.vars];have:=h.vlen;omega)
  simp[Zeg,ZaZ,h1,h2,h3]
 all_goals
  have hs':¬p.s < 0:=by omega
  have jH:p.s.toNat=i:=by omega
  obtain⟨i0,wj,hm⟩:=h.state (hT.sub x (zA2 ‹t.states[i]?=some x›))
 ·have e:atS t p=Zde t i x:=by
   unfold atS
   rw[if_neg hv',if_neg hs',jH,hx]
   exact if_pos hr
  rw[e]
  have h1:Zcb x.s=true:=Zrm _ (zA2 hm.name)
  have h2:decide (x.rules.length > 12)=false:=decide_eq_false (by have:=hm.len;omega)
  have h3:((t.states.take i).any λy=>eqS y.s x.s)=false:=by
   rw[List.any_eq_false]
   intro y hy
   obtain⟨j,hj⟩:=List.getElem?_of_mem hy
   have jW:j < i:=by have:=(zA0 hj).1;rw[List.length_take]at this;omega
   rw[List.getElem?_take_of_lt jW]at hj
   rw[hT.dif j i y x hj hx (by omega)];simp
  simp[Zde,ZaZ,h1,h2,h3]
 all_goals
  have hr':¬p.r < 0:=by omega
  have fV:p.r.toNat=k:=by omega
  have hR:=hm.all r (zA2 hr)
 ·have e:atS t p=ZcM t r (Rx.totals t i k):=by
   unfold atS
   rw[if_neg hv',if_neg hs',jH,hx]
   show(if p.r < 0 then _ else _)=_
   rw[if_neg hr',fV,hr]
   exact if_pos ha
  rw[e]
  have e0:=h.rule hR (hT.totals h i k)
  obtain⟨g1,g2⟩:=Zvw e0
  by_cases hz:r.go.size=0
  ·have e2:ZcM t r (Rx.totals t i k)=ZcM s r (Rx.totals t i k):=by unfold ZcM;rw[if_pos hz,if_pos hz]
   rw[e2];exact e0
  ·have hf:Zeh t r.go=true:=by
    unfold Zeh
    rw[hT.cl x (zA2 hx) r (zA2 hr) hz,hT.light h];rfl
   have hc:(r.code == 0)=true:=by
    rcases hR.go with⟨_,hc⟩|⟨hg,_⟩
    ·rw[hc];rfl
    ·rw[hg]at hz;exact absurd ZaB hz
   unfold ZcM ZaZ ZaZ ZaZ
   rw[g1,g2,if_neg hz,hf,hc];rfl
 all_goals
  have ha':¬p.a < 0:=by omega
  have jS:p.a.toNat=j:=by omega
  have hA:=hR.all a (zA2 ‹r.acts[j]?=some a›)
 ·have e:atS t p=ZaO t r a:=by
   unfold atS
   rw[if_neg hv',if_neg hs',jH,hx]
   show(if p.r < 0 then _ else _)=_
   rw[if_neg hr',fV,hr]
   show(if p.a < 0 then _ else _)=_
   rw[if_neg ha',jS,‹r.acts[j]?=some a›]
   exact if_pos hq
  have e2:ZaO t r a=ZaO s r a:=by unfold ZaO Zbz Za2 Zbz;rw[hT.vars]
  rw[e,e2];exact h.action hA
 ·have e:atS t p=ZcW t r a.parts n q:=by
   unfold atS
   rw[if_neg hv',if_neg hs',jH,hx]
   show(if p.r < 0 then _ else _)=_
   rw[if_neg hr',fV,hr]
   show(if p.a < 0 then _ else _)=_
   rw[if_neg ha',jS,‹r.acts[j]?=some a›]
   show(if p.p < 0 then _ else _)=_
   rw[if_neg (by omega),show p.p.toNat=n by omega,hq]
  rw[e];exact hP hA hq
theorem Kept.check:t.check=(top,0):=by
 have e:t.problems=[]:=by
  unfold Sc.problems
  rw[List.filterMap_eq_nil_iff]
  intro p hp
  rw[if_pos (hT.at0 h p hp)]
 unfold Sc.check
 rw[if_pos (hT.light h),e]
end
structure Closed (s:Sc)(ns:List Nat):Prop where
 nd:ns.Nodup
 lt:∀i∈ns,i < s.states.length
 ne:ns≠[]
 cl:∀i∈ns,∀x,s.states[i]?=some x->∀y∈x.rules.filterMap ZAL,∃k∈ns,y=(k:Nat)
end Go.Rx
namespace Go.Rx
open Go Go.Eng
def ZwJ(out:List ByteArray)(n:ByteArray):List ByteArray:=if out.any (λy=>eqS n y)then out else out++[n]
def Zvx(out:List ByteArray)(p:Pt):List ByteArray:=if p.k=2 then ZwJ out p.s else if p.k=4 then p.e.vars.foldl ZwJ out else out
def ZxG(out:List ByteArray)(a:Ac):List ByteArray:=if a.k=3 then a.e.vars.foldl ZwJ out else out
def ZyY(w:Bool)(out:List ByteArray)(a:Ac):List ByteArray:=if w then(if a.k=2\/a.k=3 then ZwJ out a.s else out)else a.parts.foldl Zvx (ZxG out a)
def ZxH(w:Bool)(r:Ru):List ByteArray:=if Zl7 r then r.acts.foldl (ZyY w) []else[]
def ZA9(l:List ByteArray)(x:ByteArray):Bool:=l.any (λy=>eqS x y)
theorem ZuE{a b:ByteArray}:eqS a b=true↔a.toList=b.toList:=by unfold eqS;exact beq_iff_eq
theorem Zvy{l:List ByteArray}{x:ByteArray}:ZA9 l x=true↔∃y∈l,x.toList=y.toList:=by
 unfold ZA9;rw[List.any_eq_true]
 exact⟨λ⟨y,h1,h2⟩=>⟨y,h1,ZuE.1 h2⟩,λ⟨y,h1,h2⟩=>⟨y,h1,ZuE.2 h2⟩⟩
theorem Zvz{out:List ByteArray}{n z:ByteArray}(h:z∈ZwJ out n):z∈out\/z=n:=by
 unfold ZwJ at h
 split at h
 ·exact .inl h
 ·simpa using h
theorem ZrF{z:ByteArray}:∀l out:List ByteArray,z∈l.foldl ZwJ out->z∈out\/z∈l
 | [],out,h=>.inl h
 | n::l,out,h=>by
  rcases ZrF l _ h with h|h
  ·rcases Zvz h with h|rfl
   ·exact .inl h
   ·exact .inr (by simp)
  ·exact .inr (by simp[h])
abbrev Apart(l:List ByteArray):Prop:=l.Pairwise λx y=>eqS y x=false
theorem ZjZ{α β γ:Type}(f:α->List β)(h:γ->β->γ){g:γ->α->γ}(hg:∀o x,g o x=(f x).foldl h o):∀(l:List α)(o:γ),l.foldl g o=((l.map f).flatten).foldl h o
 | [],o=>rfl
 | x::l,o=>by rw[List.foldl_cons,ZjZ f h hg l,hg,List.map_cons,List.flatten_cons,List.foldl_append]
def nmP(p:Pt):List ByteArray:=if p.k=2 then[p.s]else if p.k=4 then p.e.vars else[]
def nmA(w:Bool)(a:Ac):List ByteArray:=if w then(if a.k=2\/a.k=3 then[a.s]else[])else(if a.k=3 then a.e.vars else[])++(a.parts.map nmP).flatten
theorem Zta(o:List ByteArray)(p:Pt):Zvx o p=(nmP p).foldl ZwJ o:=by
 unfold Zvx nmP
 split
 ·rfl
 ·split <;> rfl
theorem ZvA(w:Bool)(o:List ByteArray)(a:Ac):ZyY w o a=(nmA w a).foldl ZwJ o:=by
 unfold ZyY nmA ZxG
 cases w with
 | true=>simp only[if_true];split <;> rfl
 | false=>
  simp only[Bool.false_eq_true,if_false]
  rw[List.foldl_append,ZjZ nmP ZwJ Zta]
  split <;> rfl
theorem ZvB(w:Bool){r:Ru}(h:Zl7 r=true):ZxH w r=((r.acts.map (nmA w)).flatten).foldl ZwJ []:=by
 unfold ZxH;rw[if_pos h];exact ZjZ (nmA w) ZwJ (ZvA w) _ _
theorem MkP.names{c:Int}{p:Pt}(h:MkP c p):∀z∈nmP p,z∈Zgy++Zdd:=by
 intro z hz
 cases h with
 | lit s h=>simp[nmP]at hz
 | var s h=>
  simp[nmP]at hz;subst hz
  exact List.mem_append.2 h
 | cap g h=>simp[nmP]at hz
 | clc e h=>exact List.mem_append_left _ (h.vars z (by simpa[nmP]using hz))
theorem MkA.names{c:Int}{a:Ac}(h:MkA c a)(w:Bool):∀z∈nmA w a,z∈Zgy++Zdd:=by
 intro z hz
 have go:∀{l:List Pt},MkT c l->z∈(l.map nmP).flatten->z∈Zgy++Zdd:=λ{l} h hz=>by
  simp only[List.mem_flatten,List.mem_map]at hz
  obtain⟨_,⟨p,hp,rfl⟩,hz⟩:=hz
  exact(h.all p hp).names z hz
 cases h with
 | send a n l h=>
  cases w with
  | true=>simp[nmA]at hz
  | false=>exact go h (by simpa[nmA]using hz)
 | set s hs a n l h=>
  cases w with
  | true=>simp[nmA]at hz;subst hz;exact List.mem_append_right _ hs
  | false=>exact go h (by simpa[nmA]using hz)
 | let_ s hs e h=>
  cases w with
  | true=>simp[nmA]at hz;subst hz;exact List.mem_append_left _ hs
  | false=>exact List.mem_append_left _ (h.vars z (by simpa[nmA]using hz))
theorem MkR.light{n:Nat}{r:Ru}(h:MkR n r):Zl7 r=true:=decide_eq_true (by have:=h.w;omega)
theorem MkR.names{n:Nat}{r:Ru}(h:MkR n r)(w:Bool):∀z∈ZxH w r,z∈Zgy++Zdd:=by
 intro z hz
 rw[ZvB w h.light]at hz
 rcases ZrF _ _ hz with hz|hz
 ·cases hz
 ·simp only[List.mem_flatten,List.mem_map]at hz
  obtain⟨_,⟨a,ha,rfl⟩,hz⟩:=hz
  exact(h.all a ha).names w z hz
theorem MkR.has{n:Nat}{r:Ru}(h:MkR n r)(w:Bool){z:ByteArray}(hz:z∈ZxH w r):ZA9 (Zgy++Zdd) z=true:=Zvy.2 ⟨z,h.names w z hz,rfl⟩
end Go.Rx
namespace Go.Rx
open Go Go.Eng Go.RowKit
theorem ZoE{s s':Sc}(h:s'.er=s.er):s'.problems=s.problems:=by
 have e:∀s:Sc,s.er.problems=s.problems:=λs=>by
  unfold Sc.problems
  rw[Zs5]
  simp only[Zzk]
 rw[<-e s',h,e]
def ZAM(q:Ru)(aa:Option Addr)(ac:Nat)(pa:Option Addr)(c:Int):Ru:=⟨q.k,q.bg,q.en,q.t,q.s,q.n,aa,ac,q.acts++[⟨1,.empty,pa,2,(ZrC c).parts,E0⟩,Zs7 c],q.go,q.code⟩
theorem ZxI{q r:Ru}(h:q.er=r.er)(aa:Option Addr)(ac:Nat)(pa:Option Addr)(c:Int):(ZAM q aa ac pa c).er=(Zg6 r c).er:=by
 simp only[Ru.er,Ru.mk.injEq]at h
 obtain⟨h1,h2,h3,h4,h5,h6,_,_,h7,h8,h9⟩:=h
 simp only[Ru.er,ZAM,Zg6,h1,h2,h3,h4,h5,h6,h8,h9,List.map_append,h7,true_and,Ru.mk.injEq,and_true]
 rfl
end Go.Rx