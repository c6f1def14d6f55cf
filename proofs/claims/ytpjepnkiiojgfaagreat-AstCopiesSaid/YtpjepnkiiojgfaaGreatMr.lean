/- Trees of regexes, what they mean, and x6 they lie in memory; plain, no program is named. No condition. -/
import Derived.Test.YtpjepnkiiojgfaaGreatMc
import Derived.Sort.Grow
import Derived.Test.YtpjepnkiiojgfaaGreatMb
import Derived.Lib.SlicesCompact
import Derived.Lib.SliceRun
import Derived.Shelf.SlicesE.Delete
import Derived.Deep.MidRow
import Derived.KernelRfl
set_option linter.unusedVariables false
set_option linter.unusedSimpArgs false
set_option linter.unusedSectionVars false
namespace Go.Rx
open Go Go.Eng
inductive T where
 | node (k s0 s1 s2 s3 mn mx:Int) (a:Option Addr) (c:Nat) (subs:List T)
def T.k:T->Int
 | .node k _ _ _ _ _ _ _ _ _=>k
def T.s0:T->Int
 | .node _ s _ _ _ _ _ _ _ _=>s
def T.s1:T->Int
 | .node _ _ s _ _ _ _ _ _ _=>s
def T.s2:T->Int
 | .node _ _ _ s _ _ _ _ _ _=>s
def T.s3:T->Int
 | .node _ _ _ _ s _ _ _ _ _=>s
def T.mn:T->Int
 | .node _ _ _ _ _ x _ _ _ _=>x
def T.mx:T->Int
 | .node _ _ _ _ _ _ x _ _ _=>x
def T.a:T->Option Addr
 | .node _ _ _ _ _ _ _ a _ _=>a
def T.c:T->Nat
 | .node _ _ _ _ _ _ _ _ c _=>c
def T.subs:T->List T
 | .node _ _ _ _ _ _ _ _ _ l=>l
def T.sl(t:T):Value:=.slice t.a t.subs.length t.c
def T.cs(t:T):List Value:=[.int .u8 t.k,.int .u64 t.s0,.int .u64 t.s1,.int .u64 t.s2,.int .u64 t.s3,.int .i64 t.mn,.int .i64 t.mx,t.sl]
def T.v(t:T):Value:=.agg #[.int .u8 t.k,.int .u64 t.s0,.int .u64 t.s1,.int .u64 t.s2,.int .u64 t.s3,.int .i64 t.mn,.int .i64 t.mx,.slice t.a t.subs.length t.c]
structure OkN (k s0 s1 s2 s3 mn mx:Int):Prop where
 k:0<=k/\k < 256
 s0:0<=s0/\s0 < 18446744073709551616
 s1:0<=s1/\s1 < 18446744073709551616
 s2:0<=s2/\s2 < 18446744073709551616
 s3:0<=s3/\s3 < 18446744073709551616
 mn : -9223372036854775808<=mn/\mn<=9223372036854775807
 mx : -9223372036854775808<=mx/\mx<=9223372036854775807
mutual
def Rep(m:Mem):T->Prop
 | .node k s0 s1 s2 s3 mn mx a _ l=>l.length<=1000000000000000/\(l=[]\/∃b o,a=some ⟨b,o,none⟩/\RepAt m b o l)/\OkN k s0 s1 s2 s3 mn mx
def RepAt(m:Mem)(b:Nat):Nat->List T->Prop
 | _,[]=>True
 | o,t::l=>m.reads b o t.cs/\Rep m t/\RepAt m b (o+8) l
end
theorem Ziu{m:Mem}{t:T}:Rep m t->(t.subs.length<=1000000000000000/\(t.subs=[]\/∃b o,t.a=some ⟨b,o,none⟩/\RepAt m b o t.subs)):=by
 cases t;simp only[Rep,T.subs,T.a];exact λh=>⟨h.1,h.2.1⟩
theorem Zzx{m:Mem}{t:T}:Rep m t->OkN t.k t.s0 t.s1 t.s2 t.s3 t.mn t.mx:=by
 cases t;simp only[Rep];exact λh=>h.2.2
theorem Zls{m:Mem}{t:T}(h1:t.subs.length<=1000000000000000)(h2:t.subs=[]\/∃b o,t.a=some ⟨b,o,none⟩/\RepAt m b o t.subs)(h3:OkN t.k t.s0 t.s1 t.s2 t.s3 t.mn t.mx):Rep m t:=by
 cases t;simp only[Rep];exact⟨h1,h2,h3⟩
mutual
theorem Rep.mono{m m':Mem}(h:m.le m'):∀t:T,Rep m t->Rep m' t
 | .node _ _ _ _ _ _ _ a _ l,hr=>by
  simp only[Rep]at *
  refine⟨hr.1,?_,hr.2.2⟩
  rcases hr.2.1 with hr|⟨b,o,h1,h2⟩
  ·exact .inl hr
  ·exact .inr ⟨b,o,h1,RepAt.mono h b o l h2⟩
theorem RepAt.mono{m m':Mem}(h:m.le m')(b:Nat):∀(o:Nat)(l:List T),RepAt m b o l->RepAt m' b o l
 | _,[],_=>by simp only[RepAt]
 | o,t::l,hr=>by
  simp only[RepAt]at *
  exact⟨hr.1.mono h,Rep.mono h t hr.2.1,RepAt.mono h b (o+8) l hr.2.2⟩
end
theorem RepAt.get{m:Mem}{b:Nat}:∀{o:Nat} {l:List T} {i:Nat} {t:T},RepAt m b o l->l[i]?=some t->m.reads b (o+i*8) t.cs/\Rep m t
 | o,[],i,t,_,hi=>by simp at hi
 | o,x::l,0,t,h,hi=>by
  simp only[RepAt]at h
  simp at hi;subst hi
  exact⟨by simpa using h.1,h.2.1⟩
 | o,x::l,i+1,t,h,hi=>by
  simp only[RepAt]at h
  have:=h.2.2.get (i:=i) (by simpa using hi)
  rw[show o+(i+1)*8=o+8+i*8 by omega]
  exact this
mutual
def T.nodes:T->List T
 | .node k s0 s1 s2 s3 mn mx a c l=>.node k s0 s1 s2 s3 mn mx a c l::ZaI l
def ZaI:List T->List T
 | []=>[]
 | t::l=>t.nodes++ZaI l
end
theorem Zcv(t:T):t.nodes=t::ZaI t.subs:=by cases t;simp only[T.nodes,T.subs]
theorem ZcR(l r:List T):ZaI (l++r)=ZaI l++ZaI r:=by
 induction l with
 | nil=>simp[ZaI]
 | cons t l ih=>simp[ZaI,ih,List.append_assoc]
theorem ZnC{l:List T}{i:Nat}{t:T}(h:l[i]?=some t):ZaI (l.take (i+1))=ZaI (l.take i)++t.nodes:=by
 have:l.take (i+1)=l.take i++[t]:=by
  rw[List.take_add_one,h];rfl
 rw[this,ZcR];simp[ZaI]
theorem Zev{l:List T}{i:Nat}{t:T}(h:l[i]?=some t):ZaI l=ZaI (l.take i)++(t.nodes++ZaI (l.drop (i+1))):=by
 have aB:=(zA0 h).1
 have e:l=l.take i++(t::l.drop (i+1)):=by
  have:=List.drop_eq_getElem_cons aB
  rw[(zA0 h).2]at this
  rw[<-this,List.take_append_drop]
 conv=>lhs;rw[e,ZcR]
 simp[ZaI]
theorem ZuY{t x z:T}{i q:Nat}(hx:t.subs[i]?=some x)(hz:x.nodes[q]?=some z):t.nodes[1+(ZaI (t.subs.take i)).length+q]?=some z:=by
 have hq:=(zA0 hz).1
 rw[Zcv,show 1+(ZaI (t.subs.take i)).length+q=((ZaI (t.subs.take i)).length+q)+1 by omega,List.getElem?_cons_succ,Zev hx,zA4 (by omega),zA5 (by omega),show(ZaI (List.take i t.subs)).length+q - (ZaI (List.take i t.subs)).length=q by omega]
 exact hz
theorem Zso{t x:T}(h:x∈t.subs):SizeOf.sizeOf x < SizeOf.sizeOf t:=by
 cases t with
 | node k s0 s1 s2 s3 mn mx a c l=>
  have h':x∈l:=h
  have:=List.sizeOf_lt_of_mem h'
  simp only[T.node.sizeOf_spec]
  omega
theorem ZuZ(t:T):Shape.fitsL [.agg [.int .u8,.int .u64,.int .u64,.int .u64,.int .u64,.int .i64,.int .i64,.slice]] [t.v]=true:=by
 simp[Shape.fitsL,Shape.fits,T.v]
def Zsp(least most:Int):Bool:=!(decide (least < 0)||decide (least > 16)||(least == 1&&most == 1))&&(most == -1||(decide (most ≥ 1)&&decide (most<=16)&&decide (most ≥ least)))
def T.has(t:T)(k:Int):Bool:=t.subs.any λx=>x.k == k
def T.light(t:T):Bool:=decide (t.nodes.length<=10000)
def T.setZ(t:T):Bool:=t.s0 == 0&&t.s1 == 0&&t.s2 == 0&&t.s3 == 0
def T.right(t:T):Bool:=
 !(t.k != 2&&!t.setZ||(t.k != 5&&(t.mn != 0||t.mx != 0)||(decide (t.k < 3)&&decide (0 < t.subs.length)))) &&
 (if t.k=1 then true else if t.k=2 then !t.setZ else if t.k=3 then decide (1 < t.subs.length)&&(!t.has 1&&!t.has 3)else if t.k=4 then decide (1 < t.subs.length)&&!t.has 4
  else if t.k=5 then t.subs.length == 1&&(Zsp t.mn t.mx&&!t.has 1)else t.k == 6&&t.subs.length == 1)
def T.clean(t:T):Bool:=t.light&&t.nodes.all T.right
def T.size(t:T):Int:=if t.light then t.nodes.length else 10001
def T.groups(t:T):Int:=if t.light then(t.nodes.countP λx=>x.k == 6:Nat)else 10001
def Zu0(x y:Int):Int:=if y > x then y else x
def Zgg(x y:Int):Int:=if y < x then y else x
def ZyM(k mn mx sum:Int):Int:=Zgg (if k=5 then sum*Zgg (if mx=-1 then Zu0 (Zu0 mn 0) 1 else Zu0 (Zu0 mn 0) mx) 10001 else sum) 10001
mutual
def T.pos:T->Int
 | .node k _ _ _ _ mn mx _ _ l=>ZyM k mn mx ((if k=2 then 1 else 0)+Zj8 l)
def Zj8:List T->Int
 | []=>0
 | t::l=>t.pos+Zj8 l
end
def T.positions(t:T):Int:=if t.light then t.pos else 10001
def T.check(t:T):Int:=if t.clean=false then 80 else if t.size > 120 then 81 else if t.positions > 400 then 82 else if t.groups > 9 then 83 else 0
mutual
def T.same:T->T->Bool
 | .node k s0 s1 s2 s3 mn mx _ _ l,.node k' s0' s1' s2' s3' mn' mx' _ _ l'=>k == k'&&((s0 == s0'&&s1 == s1'&&s2 == s2'&&s3 == s3')&&(mn == mn'&&(mx == mx'&&Zdu l l')))
def Zdu:List T->List T->Bool
 | [],[]=>true
 | t::l,t'::l'=>t.same t'&&Zdu l l'
 | _,_=>false
end
theorem ZtP(t u:T):t.same u=(t.k == u.k&&((t.s0 == u.s0&&t.s1 == u.s1&&t.s2 == u.s2&&t.s3 == u.s3)&&(t.mn == u.mn&&(t.mx == u.mx&&Zdu t.subs u.subs)))):=by
 cases t;cases u;simp only[T.same,T.k,T.s0,T.s1,T.s2,T.s3,T.mn,T.mx,T.subs]
theorem ZnD:∀{l r:List T},¬l.length=r.length->Zdu l r=false
 | [],[],h=>by simp at h
 | [],_::_,_=>by simp[Zdu]
 | _::_,[],_=>by simp[Zdu]
 | x::l,y::r,h=>by
  simp only[Zdu,ZnD (l:=l) (r:=r) (by simpa using h),Bool.and_false]
theorem ZqB:∀{l r:List T} {i:Nat} {x y:T},l[i]?=some x->r[i]?=some y->x.same y=false->Zdu l r=false
 | [],r,i,x,y,h,_,_=>by simp at h
 | _::_,[],i,x,y,_,h,_=>by simp at h
 | a::l,b::r,0,x,y,h,k,e=>by
  simp at h k;subst h k
  simp[Zdu,e]
 | a::l,b::r,i+1,x,y,h,k,e=>by
  simp only[Zdu,ZqB (l:=l) (r:=r) (i:=i) (by simpa using h) (by simpa using k) e,Bool.and_false]
theorem ZkB:∀{l r:List T} {i:Nat} {x y:T},l[i]?=some x->r[i]?=some y->Zdu (l.take i) (r.take i)=true->x.same y=true->True->Zdu (l.take (i+1)) (r.take (i+1))=true
 | [],r,i,x,y,h,_,_,_,_=>by simp at h
 | _::_,[],i,x,y,_,h,_,_,_=>by simp at h
 | a::l,b::r,0,x,y,h,k,_,e,_=>by
  simp at h k;subst h k
  simp[Zdu,e]
 | a::l,b::r,i+1,x,y,h,k,hs,e,_=>by
  simp only[List.take_succ_cons,Zdu,zA7]at hs ⊢
  exact⟨hs.1,ZkB (by simpa using h) (by simpa using k) hs.2 e trivial⟩
theorem Zsq(t:T):t.pos=ZyM t.k t.mn t.mx ((if t.k=2 then 1 else 0)+Zj8 t.subs):=by
 cases t;simp only[T.pos,T.k,T.mn,T.mx,T.subs];congr 1
theorem Zbf(l r:List T):Zj8 (l++r)=Zj8 l+Zj8 r:=by
 induction l with
 | nil=>simp[Zj8]
 | cons t l ih=>simp[Zj8,ih,Int.add_assoc]
theorem ZqC(x y:Int):x<=Zu0 x y/\y<=Zu0 x y:=by unfold Zu0;split <;> omega
theorem ZkC(x y:Int):Zgg x y<=x/\Zgg x y<=y:=by unfold Zgg;split <;> omega
theorem ZtQ{x y:Int}(h:0<=x)(k:0<=y):0<=Zgg x y:=by unfold Zgg;split <;> omega
def Zzy(mn mx:Int):Int:=Zgg (if mx=-1 then Zu0 (Zu0 mn 0) 1 else Zu0 (Zu0 mn 0) mx) 10001
theorem Zxa(mn mx:Int):0<=Zzy mn mx/\Zzy mn mx<=10001:=by
 unfold Zzy
 refine⟨ZtQ ?_ (by omega),(ZkC _ _).2⟩
 have h1:=ZqC mn 0
 split
 ·have:=ZqC (Zu0 mn 0) 1;omega
 ·have:=ZqC (Zu0 mn 0) mx;omega
theorem Zxb{k mn mx sum:Int}(h:0<=sum):0<=ZyM k mn mx sum/\ZyM k mn mx sum<=10001:=by
 have h2:=Int.mul_nonneg h (Zxa mn mx).1
 unfold ZyM
 refine⟨ZtQ ?_ (by omega),(ZkC _ _).2⟩
 split
 ·exact h2
 ·exact h
mutual
theorem Zlt:∀t:T,0<=t.pos/\t.pos<=10001
 | .node k _ _ _ _ mn mx _ _ l=>by
  simp only[T.pos]
  have:=Ziv l
  exact Zxb (by split <;> omega)
theorem Ziv:∀l:List T,0<=Zj8 l
 | []=>by simp[Zj8]
 | t::l=>by
  simp only[Zj8]
  have:=Zlt t
  have:=Ziv l
  omega
end
theorem Zxc(t:T):t.subs.length < t.nodes.length:=by
 rw[Zcv,List.length_cons]
 have:∀l:List T,l.length<=(ZaI l).length:=by
  intro l
  induction l with
  | nil=>simp[ZaI]
  | cons x l ih=>simp only[ZaI,List.length_cons,zA1];rw[Zcv];simp;omega
 have:=this t.subs
 omega
def T.hasB(t:T)(c:Nat):Bool:=((if c / 64=0 then t.s0 else if c / 64=1 then t.s1 else if c / 64=2 then t.s2 else t.s3).toNat).testBit (c % 64)
end Go.Rx
namespace Go.Rx
open Go Go.Eng Go.RowKit
theorem ZAv(n:Nat)(h:n < 18446744073709551616):IntKind.u64.wrap (n:Int)=n:=by
 unfold IntKind.wrap
 have e:(2:Int) ^ 64=18446744073709551616:=by decide
 simp only[IntKind.bits,IntKind.signed,Bool.false_and,Bool.false_eq_true,if_false,e]
 omega
theorem ZBS(a:Nat)(h:a < 18446744073709551616):(BitVec.ofInt 64 (a:Int)).toNat=a:=by
 rw[BitVec.toNat_ofInt]
 have e:((2:Nat) ^ 64:Nat)=18446744073709551616:=by decide
 rw[e];omega
theorem Zu1(a b:Nat)(ha:a < 18446744073709551616)(hb:b < 18446744073709551616):IntKind.u64.wrap ((BitVec.ofInt 64 (a:Int)|||BitVec.ofInt 64 (b:Int)).toNat:Int)=((a|||b:Nat):Int):=by
 rw[BitVec.toNat_or,ZBS a ha,ZBS b hb]
 exact ZAv _ (Nat.or_lt_two_pow (n:=64) ha hb)
def Byt(m:Mem)(a:Option Addr)(s:List Nat):Prop:=(s=[]\/∃b o,a=some ⟨b,o,none⟩/\m.reads b o (s.map λc:Nat=>Value.int .u8 c))/\∀c∈s,c < 256
theorem Byt.mono{m m':Mem}{a s}(h:Byt m a s)(hm:m.le m'):Byt m' a s:=by
 refine⟨?_,h.2⟩
 rcases h.1 with h|⟨b,o,h1,h2⟩
 ·exact .inl h
 ·exact .inr ⟨b,o,h1,h2.mono hm⟩
theorem Byt.get{m:Mem}{a s}(h:Byt m a s){i c:Nat}(hi:s[i]?=some c):(∃b o,a=some ⟨b,o,none⟩/\m b (o+i)=some (.int .u8 c))/\c < 256:=by
 refine⟨?_,h.2 c (zA2 hi)⟩
 rcases h.1 with h|⟨b,o,h1,h2⟩
 ·subst h;simp at hi
 ·exact⟨b,o,h1,h2 i _ (by rw[List.getElem?_map,hi];rfl)⟩
def ZBb(t:T)(back:Bool)(f i c out:Nat):Nat:=if(f.testBit (if back then i+1 else i)&&t.hasB c)=true then out|||2 ^ (if back then i else i+1)else out
def ZBT(t:T)(back:Bool)(f:Nat):List Nat->Nat->Nat->Nat
 | [],_,out=>out
 | c::s,i,out=>ZBT t back f s (i+1) (ZBb t back f i c out)
def ZBH(g:Nat->Nat):Nat->Nat->Nat
 | 0,f=>f
 | n+1,f=>ZBH g n (g f)
def ZAw(g:Nat->Nat)(mx:Int):Nat->Int->Nat->Nat->Nat
 | 0,_,out,_=>out
 | n+1,k,out,last=>if k=mx then out else if out|||g last=out then out else ZAw g mx n (IntKind.i64.wrap (k+1)) (out|||g last) (g last)
@[irreducible] def ZCh:Nat:=576
abbrev ZCi:Nat:=2 ^ ZCh
def ZCj(g:Nat->Nat)(mn mx:Int)(f:Nat):Nat:=ZAw g mx (ZCi+1) mn (ZBH g mn.toNat f) (ZBH g mn.toNat f)
mutual
def T.lead(s:List Nat)(back:Bool):T->Nat->Nat
 | .node k s0 s1 s2 s3 mn mx a c l=>λf=>
  if k=1 then f else if k=2 then ZBT (.node k s0 s1 s2 s3 mn mx a c l) back f s 0 0
  else if k=3 then(if back then ZAy s back l f else ZAx s back l f)
  else if k=4 then ZBU s back l f 0
  else if k=5 then ZCj (ZAz s back l) mn mx f
  else if k=6 then ZAz s back l f else 0
def ZAx(s:List Nat)(back:Bool):List T->Nat->Nat
 | []=>λf=>f
 | t::l=>λf=>ZAx s back l (t.lead s back f)
def ZAy(s:List Nat)(back:Bool):List T->Nat->Nat
 | []=>λf=>f
 | t::l=>λf=>t.lead s back (ZAy s back l f)
def ZBU(s:List Nat)(back:Bool):List T->Nat->Nat->Nat
 | []=>λ_ out=>out
 | t::l=>λf out=>ZBU s back l f (out|||t.lead s back f)
def ZAz(s:List Nat)(back:Bool):List T->Nat->Nat
 | []=>λf=>f
 | t::_=>λf=>t.lead s back f
end
section
variable {s:List Nat} {back:Bool}
end
theorem ZqD{α:Type}{l:List α}{i:Nat}{x:α}(h:l[i]?=some x):l.drop i=x::l.drop (i+1):=by
 obtain⟨h1,h2⟩:=zA0 h
 rw[List.drop_eq_getElem_cons h1,h2]
theorem ZqE{α:Type}{l:List α}{i:Nat}{x:α}(h:l[i]?=some x):l.take (i+1)=l.take i++[x]:=by
 rw[List.take_add_one,h];rfl
section
variable (s:List Nat) (back:Bool) (hs:s.length<=512)
include hs
end
def T0:T:=.node 0 0 0 0 0 0 0 none 0 []
def T1:T:=.node 1 0 0 0 0 0 0 none 0 []
theorem Zxd(m:Mem):Rep m T1:=by simp only[T1,Rep];exact⟨by simp,.inl trivial,by constructor <;> decide⟩
def T.isNone(t:T):Bool:=t.k == 0&&(t.light&&(T0.light&&t.same T0))
structure Rg where
 bg:Bool
 en:Bool
 t:T
def Rg.v(r:Rg):Value:=.agg #[.bool r.bg,.bool r.en,.int .u8 r.t.k,.int .u64 r.t.s0,.int .u64 r.t.s1,.int .u64 r.t.s2,.int .u64 r.t.s3,.int .i64 r.t.mn,.int .i64 r.t.mx,.slice r.t.a r.t.subs.length r.t.c]
def Rg.cs(r:Rg):List Value:=[.bool r.bg,.bool r.en,.int .u8 r.t.k,.int .u64 r.t.s0,.int .u64 r.t.s1,.int .u64 r.t.s2,.int .u64 r.t.s3,.int .i64 r.t.mn,.int .i64 r.t.mx,.slice r.t.a r.t.subs.length r.t.c]
def Rgs(m:Mem)(a:Option Addr)(l:List Rg):Prop:=l.length<=1000000000000000/\(l=[]\/∃b o,a=some ⟨b,o,none⟩/\∀i r,l[i]?=some r->m.reads b (o+i*10) r.cs)/\∀r∈l,Rep m r.t
theorem Rgs.mono{m m':Mem}{a l}(h:Rgs m a l)(hm:m.le m'):Rgs m' a l:=by
 refine⟨h.1,?_,λr hr=>(h.2.2 r hr).mono hm⟩
 rcases h.2.1 with h|⟨b,o,h1,h2⟩
 ·exact .inl h
 ·exact .inr ⟨b,o,h1,λi r hi=>(h2 i r hi).mono hm⟩
def Zzz(f:Nat):List Nat:=(List.range 513).filter λi=>f.testBit i
def Zxe(n:Nat):List Nat->Option Nat
 | []=>none
 | i::_=>if i > n then none else some i
def Rg.from(s:List Nat)(n:Nat)(r:Rg):Option Nat:=if(r.en&&decide ((n:Int) < s.length))=true then none else if r.bg then(if(r.t.lead s true (2 ^ n)).testBit 0 then some 0 else none)else
 Zxe n (Zzz (r.t.lead s true (2 ^ n)))
def ZnE(φ:T->Prop):Value->Mem->List (List Value)->Prop:=λv m' _=>∃t:T,v=t.v/\Rep m' t/\φ t
abbrev TRK:=Int->Int->Int->Int->Int->Int->Int->Option Addr->Nat->Nat->Mem->Prop
theorem ZpB{φ:T->Prop}{m:Mem}{K:TRK}(k:∀(t:T)(m':Mem),m.le m'->Rep m' t->φ t->K t.k t.s0 t.s1 t.s2 t.s3 t.mn t.mx t.a t.subs.length t.c m'):
  ∀(n0 n1 n2 n3 n4 n5 n6:Int)(a:Option Addr)(n c:Nat)(m':Mem),m.le m'->ZnE φ (.agg #[.int .u8 n0,.int .u64 n1,.int .u64 n2,.int .u64 n3,.int .u64 n4,.int .i64 n5,.int .i64 n6,.slice a n c]) m' []->K n0 n1 n2 n3 n4 n5 n6 a n c m':=by
 rintro n0 n1 n2 n3 n4 n5 n6 a n c m' hm ⟨t,hv,hr,hp⟩
 simp only[T.v,Value.agg.injEq,Array.mk.injEq,List.cons.injEq,Value.int.injEq,Value.slice.injEq,true_and,and_true]at hv
 obtain⟨rfl,rfl,rfl,rfl,rfl,rfl,rfl,rfl,rfl,rfl⟩:=hv
 exact k t m' hm hr hp
theorem Ze9{φ:T->Prop}:∀(v:Value)(m':Mem) (css:List (List Value)),ZnE φ v m' css->Shape.fits (.agg [.int .u8,.int .u64,.int .u64,.int .u64,.int .u64,.int .i64,.int .i64,.slice]) v=true:=λv _ _ ⟨t,e,_⟩=>by rw[e];rfl
def RepL(m:Mem)(a:Option Addr)(l:List T):Prop:=l.length<=1000000000000000/\(l=[]\/∃b o,a=some ⟨b,o,none⟩/\RepAt m b o l)
theorem RepL.mono{m m':Mem}{a l}(h:RepL m a l)(hm:m.le m'):RepL m' a l:=by
 refine⟨h.1,?_⟩
 rcases h.2 with h|⟨b,o,h1,h2⟩
 ·exact .inl h
 ·exact .inr ⟨b,o,h1,h2.mono hm⟩
theorem Rep.subs{m:Mem}{t:T}(h:Rep m t):RepL m t.a t.subs:=Ziu h
def Zbe(k mn mx:Int)(a:Option Addr)(c:Nat)(l:List T):T:=.node k 0 0 0 0 mn mx a c l
theorem ZfI{m:Mem}{k mn mx:Int}{a:Option Addr}{c:Nat}{l:List T}(h:RepL m a l)(hk:0<=k/\k < 256)(h1 : -9223372036854775808<=mn/\mn<=9223372036854775807)(h2 : -9223372036854775808<=mx/\mx<=9223372036854775807):Rep m (Zbe k mn mx a c l):=by
 simp only[Zbe,Rep]
 exact⟨h.1,h.2,⟨hk,by omega,by omega,by omega,by omega,h1,h2⟩⟩
theorem ZqF{m:Mem}{b:Nat}{t:T}(h:m.reads b 0 t.cs)(hr:Rep m t):RepL m (some ⟨b,0,none⟩) [t]:=⟨by simp,.inr ⟨b,0,rfl,by simp only[RepAt];exact⟨h,hr,trivial⟩⟩⟩
def Zcj(l:List T):List Value:=(l.map T.cs).flatten
theorem Zar(l:List T):(Zcj l).length=l.length*8:=by
 induction l with
 | nil=>rfl
 | cons t l ih=>simp[Zcj,T.cs]at ih ⊢;omega
theorem ZaT(l r:List T):Zcj (l++r)=Zcj l++Zcj r:=by simp[Zcj]
theorem ZqG{m:Mem}{b:Nat}:∀{o:Nat} {l:List T},m.reads b o (Zcj l)->(∀t∈l,Rep m t)->RepAt m b o l
 | o,[],_,_=>by simp only[RepAt]
 | o,t::l,h,hr=>by
  simp only[RepAt]
  refine⟨λj v hj=>?_,hr t (by simp),ZqG (λj v hj=>?_) λx hx=>hr x (by simp[hx])⟩
  ·refine h j v ?_
   simp only[Zcj,List.map_cons,List.flatten_cons]
   rw[zA5 (zA0 hj).1];exact hj
  ·have:=h (8+j) v (by
    simp only[Zcj,List.map_cons,List.flatten_cons]
    rw[zA4 (by simp[T.cs])]
    have e:8+j - t.cs.length=j:=by simp[T.cs]
    rw[e];exact hj)
   rw[show o+8+j=o+(8+j) by omega];exact this
theorem ZtR{m:Mem}{a:Option Addr}{l:List T}(h:rowRd m a (Zcj l))(hr:∀t∈l,Rep m t)(hl:l.length<=1000000000000000):RepL m a l:=by
 refine⟨hl,?_⟩
 cases l with
 | nil=>exact .inl rfl
 | cons t l=>
  rcases h with h|⟨b,o,h1,h2⟩
  ·simp[Zcj,T.cs]at h
  ·exact .inr ⟨b,o,h1,ZqG h2 hr⟩
theorem Zd7{m:Mem}{a:Option Addr}{l:List T}(h:RepL m a l):rowRd m a (Zcj l):=by
 have key:∀(l:List T)(b o:Nat),RepAt m b o l->m.reads b o (Zcj l):=by
  intro l
  induction l with
  | nil=>intro b o _ j v hj;simp[Zcj]at hj
  | cons t l ih=>
   intro b o hr j v hj
   simp only[RepAt]at hr
   simp only[Zcj,List.map_cons,List.flatten_cons]at hj
   by_cases aB:j < 8
   ·rw[zA5 (by simpa[T.cs]using aB)]at hj
    exact hr.1 j v hj
   ·rw[zA4 (by simp[T.cs];omega)]at hj
    have:=ih b (o+8) hr.2.2 (j - 8) v (by simpa[T.cs,Zcj]using hj)
    rw[show o+8+(j - 8)=o+j by omega]at this;exact this
 rcases h.2 with h|⟨b,o,h1,h2⟩
 ·subst h;exact .inl rfl
 ·exact .inr ⟨b,o,h1,key l b o h2⟩
theorem Zjb{m:Mem}{a:Option Addr}{l:List T}(h:RepL m a l):∀t∈l,Rep m t:=by
 rcases h.2 with h|⟨b,o,_,h⟩
 ·subst h;simp
 ·intro t ht
  obtain⟨i,hi⟩:=List.getElem?_of_mem ht
  exact(h.get hi).2
def ZBI(j:Nat)(w c:Nat):Nat:=if c / 64=j then w|||2 ^ (c % 64)else w
def Ztw(bs:List Nat)(j:Nat):Nat:=bs.foldl (ZBI j) 0
theorem Zsr(l:List Nat)(c j:Nat):Ztw (l++[c]) j=if c / 64=j then Ztw l j|||2 ^ (c % 64)else Ztw l j:=by
 unfold Ztw
 rw[List.foldl_append];rfl
theorem ZtS(l:List Nat)(j:Nat):Ztw l j < 18446744073709551616:=by
 have key:∀(l:List Nat)(w:Nat),w < 2 ^ 64->l.foldl (ZBI j) w < 2 ^ 64:=by
  intro l
  induction l with
  | nil=>intro w h;exact h
  | cons c l ih=>
   intro w h
   refine ih _ ?_
   unfold ZBI
   split
   ·exact Nat.or_lt_two_pow h (Nat.pow_lt_pow_right (by omega) (by omega))
   ·exact h
 exact key l 0 (by decide)
def Zdy(bs:List Nat):T:=.node 2 (Ztw bs 0:Nat) (Ztw bs 1:Nat) (Ztw bs 2:Nat) (Ztw bs 3:Nat) 0 0 none 0 []
theorem ZnF(bs:List Nat)(m:Mem):Rep m (Zdy bs):=by
 simp only[Zdy,Rep]
 have h:=ZtS bs
 exact⟨by simp,.inl trivial,⟨by omega,⟨by omega,by have:=h 0;omega⟩,⟨by omega,by have:=h 1;omega⟩,⟨by omega,by have:=h 2;omega⟩,⟨by omega,by have:=h 3;omega⟩,by omega,by omega⟩⟩
def ZtT(bs:List Nat):List Value:=[.int .u64 (Ztw bs 0:Nat),.int .u64 (Ztw bs 1:Nat),.int .u64 (Ztw bs 2:Nat),.int .u64 (Ztw bs 3:Nat)]
theorem Zss(bs:List Nat){j:Nat}(h:j < 4):(ZtT bs)[j]?=some (.int .u64 (Ztw bs j:Nat)):=by
 have:j=0\/j=1\/j=2\/j=3:=by omega
 rcases this with rfl|rfl|rfl|rfl <;> rfl
theorem ZpC(l:List Nat){c j:Nat}(hj:c / 64=j)(h:j < 4):ZaH (ZtT l) j [.int .u64 ((Ztw l j|||2 ^ (c % 64):Nat):Int)]=ZtT (l++[c]):=by
 unfold ZtT
 simp only[Zsr,hj]
 have:j=0\/j=1\/j=2\/j=3:=by omega
 rcases this with rfl|rfl|rfl|rfl <;> rfl
def Zb1(n:Nat):List Nat:=([[97],[98],[97,98],[97],[98],[99],[97,98,99],[98,99],[10],[0,255],[97],[98]][n % 12]?).getD []
end Go.Rx
namespace Go.Rx
open Go Go.Eng
inductive E where
 | node (k:Int) (x:Nat) (s:ByteArray) (g:Int) (a:Option Addr) (c:Nat) (subs:List E)
def E.k:E->Int
 | .node k _ _ _ _ _ _=>k
def E.x:E->Nat
 | .node _ x _ _ _ _ _=>x
def E.s:E->ByteArray
 | .node _ _ s _ _ _ _=>s
def E.g:E->Int
 | .node _ _ _ g _ _ _=>g
def E.a:E->Option Addr
 | .node _ _ _ _ a _ _=>a
def E.c:E->Nat
 | .node _ _ _ _ _ c _=>c
def E.subs:E->List E
 | .node _ _ _ _ _ _ l=>l
def E.sl(t:E):Value:=.slice t.a t.subs.length t.c
def E.cs(t:E):List Value:=[.int .u8 t.k,.float .f64 t.x,.string t.s,.int .i64 t.g,t.sl]
def E.v(t:E):Value:=.agg #[.int .u8 t.k,.float .f64 t.x,.string t.s,.int .i64 t.g,.slice t.a t.subs.length t.c]
def E0:E:=.node 0 0 .empty 0 none 0 []
structure OkE (k:Int)(s:ByteArray)(g:Int):Prop where
 k:0<=k/\k < 256
 s:s.size<=1000000000000000
 g : -9223372036854775808<=g/\g<=9223372036854775807
mutual
def RepE(m:Mem):E->Prop
 | .node k x s g a _ l=>l.length<=1000000000000000/\(l=[]\/∃b o,a=some ⟨b,o,none⟩/\RepEAt m b o l)/\OkE k s g
def RepEAt(m:Mem)(b:Nat):Nat->List E->Prop
 | _,[]=>True
 | o,t::l=>m.reads b o t.cs/\RepE m t/\RepEAt m b (o+5) l
end
theorem Zy9(m:Mem):RepE m E0:=by simp only[E0,RepE];exact⟨by simp,.inl trivial,by constructor <;> decide⟩
theorem Zdg{m:Mem}{t:E}:RepE m t->(t.subs.length<=1000000000000000/\(t.subs=[]\/∃b o,t.a=some ⟨b,o,none⟩/\RepEAt m b o t.subs)):=by
 cases t;simp only[RepE,E.subs,E.a];exact λh=>⟨h.1,h.2.1⟩
theorem ZtU{m:Mem}{t:E}:RepE m t->OkE t.k t.s t.g:=by
 cases t;simp only[RepE];exact λh=>h.2.2
mutual
theorem RepE.mono{m m':Mem}(h:m.le m'):∀t:E,RepE m t->RepE m' t
 | .node _ _ _ _ a _ l,hr=>by
  simp only[RepE]at *
  refine⟨hr.1,?_,hr.2.2⟩
  rcases hr.2.1 with hr|⟨b,o,h1,h2⟩
  ·exact .inl hr
  ·exact .inr ⟨b,o,h1,RepEAt.mono h b o l h2⟩
theorem RepEAt.mono{m m':Mem}(h:m.le m')(b:Nat):∀(o:Nat)(l:List E),RepEAt m b o l->RepEAt m' b o l
 | _,[],_=>by simp only[RepEAt]
 | o,t::l,hr=>by
  simp only[RepEAt]at *
  exact⟨hr.1.mono h,RepE.mono h t hr.2.1,RepEAt.mono h b (o+5) l hr.2.2⟩
end
theorem RepE.mono'{m m':Mem}{t:E}(hr:RepE m t)(h:m.le m'):RepE m' t:=RepE.mono h t hr
theorem RepEAt.mono'{m m':Mem}{b o:Nat}{l:List E}(hr:RepEAt m b o l)(h:m.le m'):RepEAt m' b o l:=RepEAt.mono h b o l hr
theorem RepEAt.get{m:Mem}{b:Nat}:∀{o:Nat} {l:List E} {i:Nat} {t:E},RepEAt m b o l->l[i]?=some t->m.reads b (o+i*5) t.cs/\RepE m t
 | o,[],i,t,_,hi=>by simp at hi
 | o,x::l,0,t,h,hi=>by
  simp only[RepEAt]at h
  simp at hi;subst hi
  exact⟨by simpa using h.1,h.2.1⟩
 | o,x::l,i+1,t,h,hi=>by
  simp only[RepEAt]at h
  have:=h.2.2.get (i:=i) (by simpa using hi)
  rw[show o+(i+1)*5=o+5+i*5 by omega]
  exact this
mutual
def E.nodes:E->List E
 | .node k x s g a c l=>.node k x s g a c l::Zak l
def Zak:List E->List E
 | []=>[]
 | t::l=>t.nodes++Zak l
end
theorem Zbg(t:E):t.nodes=t::Zak t.subs:=by cases t;simp only[E.nodes,E.subs]
theorem ZaY(l r:List E):Zak (l++r)=Zak l++Zak r:=by
 induction l with
 | nil=>simp[Zak]
 | cons t l ih=>simp[Zak,ih,List.append_assoc]
theorem Zew{l:List E}{i:Nat}{t:E}(h:l[i]?=some t):Zak (l.take (i+1))=Zak (l.take i)++t.nodes:=by
 have:l.take (i+1)=l.take i++[t]:=by
  rw[List.take_add_one,h];rfl
 rw[this,ZaY];simp[Zak]
theorem Zch{l:List E}{i:Nat}{t:E}(h:l[i]?=some t):Zak l=Zak (l.take i)++(t.nodes++Zak (l.drop (i+1))):=by
 have aB:=(zA0 h).1
 have e:l=l.take i++(t::l.drop (i+1)):=by
  have:=List.drop_eq_getElem_cons aB
  rw[(zA0 h).2]at this
  rw[<-this,List.take_append_drop]
 conv=>lhs;rw[e,ZaY]
 simp[Zak]
theorem Zst{t x z:E}{i q:Nat}(hx:t.subs[i]?=some x)(hz:x.nodes[q]?=some z):t.nodes[1+(Zak (t.subs.take i)).length+q]?=some z:=by
 have hq:=(zA0 hz).1
 rw[Zbg,show 1+(Zak (t.subs.take i)).length+q=((Zak (t.subs.take i)).length+q)+1 by omega,List.getElem?_cons_succ,Zch hx,zA4 (by omega),zA5 (by omega),show(Zak (List.take i t.subs)).length+q - (Zak (List.take i t.subs)).length=q by omega]
 exact hz
theorem ZgH{t x:E}(h:x∈t.subs):SizeOf.sizeOf x < SizeOf.sizeOf t:=by
 cases t with
 | node k x s g a c l=>
  have h':_∈l:=h
  have:=List.sizeOf_lt_of_mem h'
  simp only[E.node.sizeOf_spec]
  omega
theorem ZkD(t:E):Shape.fitsL [.agg [.int .u8,.any,.str,.int .i64,.slice]] [t.v]=true:=by
 simp[Shape.fitsL,Shape.fits,E.v]
mutual
theorem ZnG{m:Mem}:∀(t:E),RepE m t->∀x∈t.nodes,RepE m x
 | .node k x s g a c l,hr,z,hx=>by
  simp only[E.nodes,List.mem_cons]at hx
  rcases hx with rfl|hx
  ·exact hr
  ·simp only[RepE]at hr
   rcases hr.2.1 with h|⟨b,o,_,h⟩
   ·subst h;simp[Zak]at hx
   ·exact ZkE b o l h z hx
theorem ZkE{m:Mem}(b:Nat):∀(o:Nat)(l:List E),RepEAt m b o l->∀x∈Zak l,RepE m x
 | _,[],_,x,hx=>by simp[Zak]at hx
 | o,t::l,hr,x,hx=>by
  simp only[RepEAt]at hr
  simp only[Zak,List.mem_append]at hx
  rcases hx with hx|hx
  ·exact ZnG t hr.2.1 x hx
  ·exact ZkE b (o+5) l hr.2.2 x hx
end
theorem ZpD{m:Mem}{t x:E}(h:RepE m t)(hx:x∈t.nodes):RepE m x:=ZnG t h x hx
def Zww:Nat:=9221120237041090561
def Zbl(x:Nat):Nat:=if Op.floatEq .f64 x x then x else Zww
def Zjc(x y:Nat):Bool:=Zbl x == Zbl y
def ZgI(x:Nat):Bool:=Op.floatEq .f64 x x||x == Zww
def E.light(t:E):Bool:=decide (t.nodes.length<=10000)
def E.size(t:E):Int:=if t.light then t.nodes.length else 0
mutual
def E.same:E->E->Bool
 | .node k x s g _ _ l,.node k' x' s' g' _ _ l'=>k == k'&&(Zjc x x'&&(s.toList == s'.toList&&(g == g'&&ZbV l l')))
def ZbV:List E->List E->Bool
 | [],[]=>true
 | t::l,t'::l'=>t.same t'&&ZbV l l'
 | _,_=>false
end
theorem ZqH(t u:E):t.same u=(t.k == u.k&&(Zjc t.x u.x&&(t.s.toList == u.s.toList&&(t.g == u.g&&ZbV t.subs u.subs)))):=by
 cases t;cases u;simp only[E.same,E.k,E.x,E.s,E.g,E.subs]
theorem ZkF:∀{l r:List E},¬l.length=r.length->ZbV l r=false
 | [],[],h=>by simp at h
 | [],_::_,_=>by simp[ZbV]
 | _::_,[],_=>by simp[ZbV]
 | x::l,y::r,h=>by
  simp only[ZbV,ZkF (l:=l) (r:=r) (by simpa using h),Bool.and_false]
theorem ZnH:∀{l r:List E} {i:Nat} {x y:E},l[i]?=some x->r[i]?=some y->x.same y=false->ZbV l r=false
 | [],r,i,x,y,h,_,_=>by simp at h
 | _::_,[],i,x,y,_,h,_=>by simp at h
 | a::l,b::r,0,x,y,h,k,e=>by
  simp at h k;subst h k
  simp[ZbV,e]
 | a::l,b::r,i+1,x,y,h,k,e=>by
  simp only[ZbV,ZnH (l:=l) (r:=r) (i:=i) (by simpa using h) (by simpa using k) e,Bool.and_false]
theorem Ziw:∀{l r:List E} {i:Nat} {x y:E},l[i]?=some x->r[i]?=some y->ZbV (l.take i) (r.take i)=true->x.same y=true->ZbV (l.take (i+1)) (r.take (i+1))=true
 | [],r,i,x,y,h,_,_,_=>by simp at h
 | _::_,[],i,x,y,_,h,_,_=>by simp at h
 | a::l,b::r,0,x,y,h,k,_,e=>by
  simp at h k;subst h k
  simp[ZbV,e]
 | a::l,b::r,i+1,x,y,h,k,hs,e=>by
  simp only[List.take_succ_cons,ZbV,zA7]at hs ⊢
  exact⟨hs.1,Ziw (by simpa using h) (by simpa using k) hs.2 e⟩
def E.most(t:E):Int:=if t.light then t.nodes.foldl (λn x=>if x.k=10 then(if x.g > n then x.g else n)else n) (-1)else -1
mutual
def E.names:E->List ByteArray->List ByteArray
 | .node k _ s _ _ _ l,out=>if k=9 then(if out.any (λy=>y.toList == s.toList)then out else out++[s])else ZbG l out
def ZbG:List E->List ByteArray->List ByteArray
 | [],out=>out
 | t::l,out=>ZbG l (t.names out)
end
theorem ZnI(t:E)(out:List ByteArray):t.names out=if t.k=9 then(if out.any (λy=>y.toList == t.s.toList)then out else out++[t.s])else ZbG t.subs out:=by
 cases t;simp only[E.names,E.k,E.s,E.subs];rfl
mutual
theorem ZqI:∀(t:E)(out:List ByteArray),out.length<=(t.names out).length
 | .node k _ s _ _ _ l,out=>by
  simp only[E.names]
  split
  ·split <;> simp
  ·exact Zjd l out
theorem Zjd:∀(l:List E)(out:List ByteArray),out.length<=(ZbG l out).length
 | [],out=>by simp[ZbG]
 | t::l,out=>by
  simp only[ZbG]
  exact Nat.le_trans (ZqI t out) (Zjd l _)
end
theorem ZkG(l r:List E)(out:List ByteArray):ZbG (l++r) out=ZbG r (ZbG l out):=by
 induction l generalizing out with
 | nil=>simp[ZbG]
 | cons t l ih=>simp only[List.cons_append,ZbG,ih]
theorem ZpE{l:List E}{i:Nat}{t:E}(h:l[i]?=some t)(out:List ByteArray):ZbG (l.take (i+1)) out=t.names (ZbG (l.take i) out):=by
 have:l.take (i+1)=l.take i++[t]:=by rw[List.take_add_one,h];rfl
 rw[this,ZkG];simp[ZbG]
theorem Zsu{l:List E}{i:Nat}(out:List ByteArray):(ZbG (l.take i) out).length<=(ZbG l out).length:=by
 conv=>rhs;rw[<-List.take_append_drop i l,ZkG]
 exact Zjd _ _
mutual
theorem Zd8:∀(t:E)(out:List ByteArray),(t.names out).length<=out.length+t.nodes.length
 | .node k _ s _ _ _ l,out=>by
  simp only[E.names,E.nodes,List.length_cons]
  split
  ·split
   ·omega
   ·rw[zA1,List.length_singleton];omega
  ·have:=ZgJ l out
   omega
theorem ZgJ:∀(l:List E)(out:List ByteArray),(ZbG l out).length<=out.length+(Zak l).length
 | [],out=>by simp[ZbG]
 | t::l,out=>by
  simp only[ZbG,Zak,zA1]
  have:=Zd8 t out
  have:=ZgJ l (t.names out)
  omega
end
def E.vars(t:E):List ByteArray:=if t.light then t.names []else[]
theorem Zu2(s:ByteArray):s.data.toList.length=s.size:=by rw[Array.length_toList];rfl
theorem ZtV(s:ByteArray):∀(n i:Nat)(r:List UInt8),s.size - i=n->ByteArray.toList.loop s i r=r.reverse++s.data.toList.drop i
 | 0,i,r,h=>by
  rw[ByteArray.toList.loop,if_neg (by omega),List.drop_of_length_le (by have:=Zu2 s;omega),List.append_nil]
 | n+1,i,r,h=>by
  have hs:=Zu2 s
  have hi:i < s.size:=by omega
  rw[ByteArray.toList.loop,if_pos hi,ZtV s n (i+1) _ (by omega),List.reverse_cons,List.append_assoc]
  have hd:=List.drop_eq_getElem_cons (l:=s.data.toList) (i:=i) (by omega)
  rw[hd]
  have e:s.get! i=s.data.toList[i]'(by omega):=by
   rw[Array.getElem_toList]
   exact getElem!_pos s.data i hi
  rw[e];rfl
theorem baL(s:ByteArray):s.toList=s.data.toList:=by
 have:=ZtV s _ 0 [] rfl
 simpa[ByteArray.toList]using this
theorem Zxf(s:ByteArray):(s.toList == ByteArray.toList ⟨#[]⟩)=(s.size == 0):=by
 rw[baL,baL,<-Zu2]
 cases h:s.data.toList <;> simp[h] <;> rfl
theorem Zaj{α:Type}{cs:α->List Value}{n:Nat}(hn:∀x,(cs x).length=n){m:Mem}{a:Option Addr}{L:List α}(h:rowRd m a (L.map cs).flatten){k:Nat}{t:α}(ht:L[k]?=some t)(h0:0 < n):∃b o,a=some ⟨b,o,none⟩/\m.reads b (o+k*n) (cs t):=by
 have aB:=(zA0 ht).1
 have len:∀l:List α,(l.map cs).flatten.length=l.length*n:=λl=>by
  induction l with
  | nil=>simp
  | cons x l ih=>rw[List.map_cons,List.flatten_cons,zA1,hn,ih,List.length_cons,Nat.succ_mul];omega
 have e:(L.map cs).flatten=((L.take k).map cs).flatten++(cs t++((L.drop (k+1)).map cs).flatten):=by
  have e1:L=L.take k++(t::L.drop (k+1)):=by
   have:=List.drop_eq_getElem_cons aB
   rw[(zA0 ht).2]at this
   rw[<-this,List.take_append_drop]
  conv=>lhs;rw[e1]
  rw[List.map_append,List.flatten_append,List.map_cons,List.flatten_cons]
 have hl:((L.take k).map cs).flatten.length=k*n:=by rw[len,List.length_take,Nat.min_eq_left (by omega)]
 rcases h with h|⟨b,o,ha,h⟩
 ·have:=congrArg List.length h
  rw[len,List.length_nil]at this
  have:0 < L.length*n:=Nat.mul_pos (by omega) h0
  omega
 ·refine⟨b,o,ha,λj v hj=>?_⟩
  have rZ:=(zA0 hj).1
  have:=h (k*n+j) v (by rw[e,zA4 (by omega),hl,Nat.add_sub_cancel_left,zA5 rZ];exact hj)
  rw[Nat.add_assoc];exact this
theorem Za3{α:Type}{cs:α->List Value}{n:Nat}(hn:∀x,(cs x).length=n)(l:List α):(l.map cs).flatten.length=l.length*n:=by
 induction l with
 | nil=>simp
 | cons x l ih=>rw[List.map_cons,List.flatten_cons,zA1,hn,ih,List.length_cons,Nat.succ_mul];omega
structure Pt where
 k:Int
 s:ByteArray
 g:Int
 e:E
def Pt.cs(p:Pt):List Value:=[.int .u8 p.k,.string p.s,.int .i64 p.g,.int .u8 p.e.k,.float .f64 p.e.x,.string p.e.s,.int .i64 p.e.g,.slice p.e.a p.e.subs.length p.e.c]
def Pt.v(p:Pt):Value:=.agg p.cs.toArray
structure Ac where
 k:Int
 s:ByteArray
 pa:Option Addr
 pc:Nat
 parts:List Pt
 e:E
def Ac.cs(a:Ac):List Value:=[.int .u8 a.k,.string a.s,.slice a.pa a.parts.length a.pc,.int .u8 a.e.k,.float .f64 a.e.x,.string a.e.s,.int .i64 a.e.g,.slice a.e.a a.e.subs.length a.e.c]
structure Ru where
 k:Int
 bg:Bool
 en:Bool
 t:T
 s:ByteArray
 n:Int
 aa:Option Addr
 ac:Nat
 acts:List Ac
 go:ByteArray
 code:Int
def Ru.cs(r:Ru):List Value:=[.int .u8 r.k,.bool r.bg,.bool r.en,.int .u8 r.t.k,.int .u64 r.t.s0,.int .u64 r.t.s1,.int .u64 r.t.s2,.int .u64 r.t.s3,.int .i64 r.t.mn,.int .i64 r.t.mx,.slice r.t.a r.t.subs.length r.t.c,.string r.s,.int .i64 r.n,.slice r.aa r.acts.length r.ac,.string r.go,.int .i64 r.code]
structure Sta where
 s:ByteArray
 ra:Option Addr
 rc:Nat
 rules:List Ru
def Sta.cs(x:Sta):List Value:=[.string x.s,.slice x.ra x.rules.length x.rc]
structure Va where
 s:ByteArray
 b:Bool
 t:ByteArray
 x:Nat
def Va.cs(v:Va):List Value:=[.string v.s,.bool v.b,.string v.t,.float .f64 v.x]
structure Sc where
 n:Int
 va:Option Addr
 vc:Nat
 vars:List Va
 sa:Option Addr
 sc:Nat
 states:List Sta
def Sc.cs(s:Sc):List Value:=[.int .i64 s.n,.slice s.va s.vars.length s.vc,.slice s.sa s.states.length s.sc]
def Sc.v(s:Sc):Value:=.agg #[.int .i64 s.n,.slice s.va s.vars.length s.vc,.slice s.sa s.states.length s.sc]
theorem Pt.len(p:Pt):p.cs.length=8:=rfl
theorem Ac.len(p:Ac):p.cs.length=8:=rfl
theorem Ru.len(p:Ru):p.cs.length=16:=rfl
theorem Sta.len(p:Sta):p.cs.length=2:=rfl
theorem Va.len(p:Va):p.cs.length=4:=rfl
def I64(n:Int):Prop:=-9223372036854775808<=n/\n<=9223372036854775807
def few:Nat:=100000
structure RepP (m:Mem)(p:Pt):Prop where
 k:0<=p.k/\p.k < 256
 s:p.s.size<=1000000000000000
 g:I64 p.g
 e:RepE m p.e
structure RepA (m:Mem)(a:Ac):Prop where
 k:0<=a.k/\a.k < 256
 s:a.s.size<=1000000000000000
 n:a.parts.length<=few
 row:rowRd m a.pa (a.parts.map Pt.cs).flatten
 all:∀p∈a.parts,RepP m p
 e:RepE m a.e
structure RepR (m:Mem)(r:Ru):Prop where
 k:0<=r.k/\r.k < 256
 t:Rep m r.t
 s:r.s.size<=1000000000000000
 n:I64 r.n
 len:r.acts.length<=few
 row:rowRd m r.aa (r.acts.map Ac.cs).flatten
 all:∀p∈r.acts,RepA m p
 go:r.go.size<=1000000000000000
 code:I64 r.code
structure RepS (m:Mem)(x:Sta):Prop where
 s:x.s.size<=1000000000000000
 len:x.rules.length<=few
 row:rowRd m x.ra (x.rules.map Ru.cs).flatten
 all:∀p∈x.rules,RepR m p
structure RepV (v:Va):Prop where
 s:v.s.size<=1000000000000000
 t:v.t.size<=1000000000000000
structure RepC (m:Mem)(s:Sc):Prop where
 n:I64 s.n
 vlen:s.vars.length<=few
 vrow:rowRd m s.va (s.vars.map Va.cs).flatten
 vall:∀v∈s.vars,RepV v
 len:s.states.length<=few
 row:rowRd m s.sa (s.states.map Sta.cs).flatten
 all:∀x∈s.states,RepS m x
 vcap:s.vars.length<=s.vc
 scap:s.states.length<=s.sc
section
variable {m m':Mem} (h:m.le m')
include h
theorem RepP.mono{p:Pt}(x:RepP m p):RepP m' p:=⟨x.k,x.s,x.g,RepE.mono h _ x.e⟩
theorem RepA.mono{p:Ac}(x:RepA m p):RepA m' p:=⟨x.k,x.s,x.n,x.row.mono h,λp hp=>(x.all p hp).mono h,RepE.mono h _ x.e⟩
theorem RepR.mono{p:Ru}(x:RepR m p):RepR m' p:=⟨x.k,x.t.mono h,x.s,x.n,x.len,x.row.mono h,λp hp=>(x.all p hp).mono h,x.go,x.code⟩
theorem RepS.mono{p:Sta}(x:RepS m p):RepS m' p:=⟨x.s,x.len,x.row.mono h,λp hp=>(x.all p hp).mono h⟩
theorem RepC.mono{p:Sc}(x:RepC m p):RepC m' p:=⟨x.n,x.vlen,x.vrow.mono h,x.vall,x.len,x.row.mono h,λp hp=>(x.all p hp).mono h,x.vcap,x.scap⟩
end
def nE(e:E):Int:=if e.light then e.size else 20001
def ZaF:List Int->Int
 | []=>0
 | x::l=>x+ZaF l
theorem Zje(l r:List Int):ZaF (l++r)=ZaF l+ZaF r:=by
 induction l with
 | nil=>simp[ZaF]
 | cons x l ih=>simp only[List.cons_append,ZaF,ih];omega
theorem ZfJ{α:Type}{l:List α}{i:Nat}{x:α}(f:α->Int)(h:l[i]?=some x):ZaF ((l.take (i+1)).map f)=ZaF ((l.take i).map f)+f x:=by
 rw[List.take_add_one,h,List.map_append,Zje];simp[ZaF]
theorem Zc3{α:Type}(f:α->Int)(hf:∀x,0<=f x):∀l:List α,0<=ZaF (l.map f)
 | []=>by simp[ZaF]
 | x::l=>by
  have:=Zc3 f hf l;have:=hf x
  simp only[List.map_cons,ZaF];omega
theorem ZfK{α:Type}(f:α->Int)(hf:∀x,0<=f x)(l:List α)(i:Nat):ZaF ((l.take i).map f)<=ZaF (l.map f):=by
 have e:ZaF (l.map f)=ZaF ((l.take i).map f)+ZaF ((l.drop i).map f):=by rw[<-Zje,<-List.map_append,List.take_append_drop]
 have:=Zc3 f hf (l.drop i)
 omega
def wA(a:Ac):Int:=1+nE a.e+a.parts.length+ZaF (a.parts.map λp=>nE p.e)
def wR(r:Ru):Int:=1+Zgg r.t.size 20000+(if r.t.light then 0 else 20001)+ZaF (r.acts.map wA)
theorem ZfL(e:E):0<=nE e/\nE e<=20001:=by
 unfold nE E.size E.light
 split
 ·rename_i h
  simp only[decide_eq_true_eq]at h
  first|omega|(rw[if_pos (by simpa using h)];omega)
 ·omega
theorem ZfM(t:T):0<=t.size/\t.size<=10001:=by
 unfold T.size T.light
 split
 ·rename_i h;simp only[decide_eq_true_eq]at h;omega
 ·omega
theorem ZqJ(a:Ac):0<=wA a:=by
 have:=(ZfL a.e).1
 have:=Zc3 (λp:Pt=>nE p.e) (λp=>(ZfL p.e).1) a.parts
 unfold wA;omega
theorem Zza(r:Ru):0<=wR r:=by
 have:=Zc3 wA ZqJ r.acts
 have h1:=(ZfM r.t).1
 have:0<=Zgg r.t.size 20000:=by unfold Zgg;split <;> omega
 unfold wR;split <;> omega
def wS(x:Sta):Int:=ZaF (x.rules.map wR)
theorem ZAA(x:Sta):0<=wS x:=Zc3 wR Zza _
def Sc.weight(s:Sc):Int:=s.vars.length+s.states.length+ZaF (s.states.map wS)
def Sc.light(s:Sc):Bool:=decide (s.weight<=20000)
structure Pl where
 v:Int
 s:Int
 r:Int
 a:Int
 p:Int
deriving DecidableEq
def Pl.cs(p:Pl):List Value:=[.int .i64 p.v,.int .i64 p.s,.int .i64 p.r,.int .i64 p.a,.int .i64 p.p]
def top:Pl:=⟨-1,-1,-1,-1,-1⟩
def Zdk(n:Nat)(f:Nat->List Pl):List Pl:=(List.range n).flatMap f
def plA(i k m:Nat)(a:Ac):List Pl:=⟨-1,i,k,m,-1⟩::Zdk a.parts.length λn=>[⟨-1,i,k,m,n⟩]
def plR(i k:Nat)(r:Ru):List Pl:=⟨-1,i,k,-1,-1⟩::Zdk r.acts.length λm=>match r.acts[m]? with
 | some a=>plA i k m a
 | none=>[]
def plS(i:Nat)(x:Sta):List Pl:=⟨-1,i,-1,-1,-1⟩::Zdk x.rules.length λk=>match x.rules[k]? with
 | some r=>plR i k r
 | none=>[]
def Sc.places(s:Sc):List Pl:=if s.light then top::(Zdk s.vars.length (λi=>[⟨i,-1,-1,-1,-1⟩])++Zdk s.states.length λi=>match s.states[i]? with
 | some x=>plS i x
 | none=>[])else[]
def ZcE:List (Int×Bool)->Int
 | []=>0
 | (e,w)::l=>if w then e else ZcE l
def Zdl(n a b:Int):Bool:=decide (n ≥ a)&&decide (n<=b)
def eqS(a b:ByteArray):Bool:=a.toList == b.toList
def ZBc(c:UInt8):Bool:=(decide (97<=c.toNat)&&decide (c.toNat<=122))||(decide (48<=c.toNat)&&decide (c.toNat<=57))||c.toNat == 95
def ZzA:List ByteArray:=[⟨#[109,105,110]⟩,⟨#[109,97,120]⟩,⟨#[110,117,109]⟩]
def ZfY(s:ByteArray):Bool:=!(s.size == 0||decide (s.size > 16)||decide ((s.data.toList.getD 0 0).toNat < 97)||decide ((s.data.toList.getD 0 0).toNat > 122)||ZzA.any λw=>eqS w s)&&s.data.toList.all ZBc
def ZhJ(s:Sc)(name:ByteArray):Bool×Bool:=match s.vars.find? λv=>eqS v.s name with
 | some v=>(v.b,true)
 | none=>(false,false)
def ZdH(s:Sc)(e:E):Bool:=!e.vars.any λn=>!(ZhJ s n).1
def Zwx(e:E):Bool:=e.light&&(E0.light&&e.same E0)
def ZnJ(k:Int):Int:=if k=1 then 1 else if 2<=k/\k<=7 then 2 else 0
def Zsv:List E->Bool
 | u::_=>u.k == 8
 | []=>false
def E.right(t:E):Bool:=!(t.k == 0)&&(decide (t.k<=10)&&((if t.k=9 then ZfY t.s else t.s.size == 0)&&((if t.k=8 then ZgI t.x else Zjc t.x 0)&&((if t.k=10 then decide (t.g ≥ 0)&&decide (t.g<=9)else t.g == 0)&&((t.subs.length:Int) == ZnJ t.k&&!(t.k == 1&&(t.subs.length == 1&&Zsv t.subs)))))))
def E.clean(t:E):Bool:=t.light&&t.nodes.all E.right
def ZnK(s:Sc):Int:=ZcE [(300,!Zdl s.n 2 256),(302,!Zdl s.states.length 1 24||decide (s.vars.length > 12))]
def Zu3(v:Va):Bool:=if v.b then ZgI v.x&&v.t.size == 0 else v.x == 0&&decide (v.t.size<=512)
def ZcS(s:Sc)(i:Nat)(v:Va):Int:=ZcE [(301,!ZfY v.s||(!Zu3 v||(s.vars.take i).any λx=>eqS x.s v.s))]
def ZnL(s:Sc)(i:Nat)(x:Sta):Int:=ZcE [(303,!ZfY x.s||(decide (x.rules.length > 12)||(s.states.take i).any λy=>eqS y.s x.s))]
def ZAW(r:Ru):Bool:=r.bg||(r.en||!(r.t.light&&(T0.light&&r.t.same T0)))
def ZqK(r:Ru):Bool:=if r.k=2 then !ZAW r&&(r.n == 0&&Zdl r.s.size 1 64)else if r.k=4 then !ZAW r&&(r.s.size == 0&&Zdl r.n 1 1000)else if r.k=3 then !ZAW r&&(r.s.size == 0&&r.n == 0)else if r.k=1 then r.s.size == 0&&r.n == 0 else false
def Zcn(r:Ru):Int:=if r.k=1 then r.t.groups else if r.k=2 then 0 else -1
def Zsw(s:Sc)(name:ByteArray):Bool:=(s.states.any λx=>eqS x.s name)&&s.light
def ZqL(s:Sc)(r:Ru)(total:Int):Int:=ZcE [(304,!ZqK r||decide (r.acts.length > 8)),(305,r.k == 1&&(!(r.t.check == 0)||decide (total > 600))),
 (306,if r.go.size=0 then !Zdl r.code 0 255 else !Zsw s r.go||!(r.code == 0))]
def Zd9(s:Sc)(r:Ru)(a:Ac):Int:=ZcE [(307,!Zdl a.k 1 3||(a.k == 1&&!(a.s.size == 0))||(a.k == 3&&decide (a.parts.length > 0))||(a.k == 3&&!a.e.clean)||(!(a.k == 3)&&!Zwx a.e)||decide (a.parts.length > 16)),
 (308,(!(a.k == 1)&&(!(ZhJ s a.s).2||!((ZhJ s a.s).1 == (a.k == 3))))||(a.k == 3&&!ZdH s a.e)),(309,a.k == 3&&decide (a.e.most > Zcn r))]
def ZfZ(p:Pt):Bool:=if p.k=1 then decide (p.s.size > 0)&&(decide (p.s.size<=512)&&(p.g == 0&&Zwx p.e))else if p.k=2 then ZfY p.s&&(p.g == 0&&Zwx p.e)else if p.k=3 then decide (p.g ≥ 0)&&(decide (p.g<=9)&&(p.s.size == 0&&Zwx p.e))else if p.k=4 then p.e.clean&&(p.s.size == 0&&p.g == 0)else false
def Zmg(s:Sc)(r:Ru)(l:List Pt)(i:Nat)(p:Pt):Int:=ZcE [(307,!ZfZ p||(decide (i > 0)&&(p.k == 1&&(match l[i - 1]? with
 | some q=>q.k == 1
 | none=>false)))),(308,(p.k == 2&&!(ZhJ s p.s).2)||(p.k == 4&&!ZdH s p.e)),(309,(p.k == 3&&decide (p.g > Zcn r))||(p.k == 4&&decide (p.e.most > Zcn r)))]
def sizeR(r:Ru):Int:=if r.k=1 then r.t.size else 0
def totals(s:Sc)(i k:Nat):Int:=ZaF ((s.states.take i).map λx=>ZaF (x.rules.map sizeR))+(match s.states[i]? with
 | some x=>ZaF ((x.rules.take (k+1)).map sizeR)
 | none=>0)
def atS(s:Sc)(p:Pl):Int:=if p.v ≥ 0 then(match s.vars[p.v.toNat]? with
  | some v=>ZcS s p.v.toNat v
  | none=>0)else if p.s < 0 then ZnK s else match s.states[p.s.toNat]? with
  | none=>0
  | some x=>if p.r < 0 then ZnL s p.s.toNat x else match x.rules[p.r.toNat]? with
   | none=>0
   | some r=>if p.a < 0 then ZqL s r (totals s p.s.toNat p.r.toNat)else match r.acts[p.a.toNat]? with
    | none=>0
    | some a=>if p.p < 0 then Zd9 s r a else match a.parts[p.p.toNat]? with
     | none=>0
     | some q=>Zmg s r a.parts p.p.toNat q
def Sc.problems(s:Sc):List (Pl×Int):=s.places.filterMap λp=>if atS s p=0 then none else some (p,atS s p)
def Sc.check(s:Sc):Pl×Int:=if s.light then(match s.problems with
 | p::_=>p
 | []=>(top,0))else(top,5)
theorem ZbW(n:Nat)(f:Nat->List Pl):Zdk (n+1) f=Zdk n f++f n:=by simp[Zdk,List.range_succ,List.flatMap_append]
theorem ZqM{i n:Nat}(h:i<=n)(f:Nat->List Pl):(Zdk i f).length<=(Zdk n f).length:=by
 induction n with
 | zero=>
  obtain rfl:i=0:=by omega
  exact Nat.le_refl _
 | succ n ih=>
  by_cases e:i=n+1
  ·rw[e];exact Nat.le_refl _
  ·have:=ih (by omega)
   rw[ZbW,zA1];omega
theorem ZfN(n:Nat)(f:Nat->Pl):(Zdk n λi=>[f i]).length=n:=by
 induction n with
 | zero=>rfl
 | succ n ih=>rw[ZbW,zA1,ih];rfl
theorem Zmr{α:Type}(l:List α)(F:Nat->List Pl)(g:Nat->α->List Pl)(w:α->Int)(hF:∀i x,l[i]?=some x->F i=g i x)(hw:∀i x,x∈l->((g i x).length:Int)<=w x):∀k,k<=l.length->((Zdk k F).length:Int)<=ZaF ((l.take k).map w):=by
 intro k
 induction k with
 | zero=>intro _;simp[Zdk,ZaF]
 | succ k ih=>
  intro hk
  have:=ih (by omega)
  have hx:l[k]?=some l[k]:=zA3 (by omega)
  have h2:=hw k l[k] (List.getElem_mem _)
  rw[ZbW,zA1,ZfJ w hx,hF k _ hx]
  push_cast
  omega
def Hf(i k:Nat)(r:Ru)(m:Nat):List Pl:=match r.acts[m]? with
 | some a=>plA i k m a
 | none=>[]
def Gf(i:Nat)(x:Sta)(k:Nat):List Pl:=match x.rules[k]? with
 | some r=>plR i k r
 | none=>[]
def Ff(s:Sc)(i:Nat):List Pl:=match s.states[i]? with
 | some x=>plS i x
 | none=>[]
def Pf(i k m n:Nat):List Pl:=[⟨-1,i,k,m,n⟩]
def Vf(i:Nat):List Pl:=[⟨i,-1,-1,-1,-1⟩]
theorem Zsx(i k m:Nat)(a:Ac):plA i k m a=⟨-1,i,k,m,-1⟩::Zdk a.parts.length (Pf i k m):=rfl
theorem Zsy(i k:Nat)(r:Ru):plR i k r=⟨-1,i,k,-1,-1⟩::Zdk r.acts.length (Hf i k r):=rfl
theorem Zsz(i:Nat)(x:Sta):plS i x=⟨-1,i,-1,-1,-1⟩::Zdk x.rules.length (Gf i x):=rfl
theorem Zjf{s:Sc}(h:s.light=true):s.places=top::(Zdk s.vars.length Vf++Zdk s.states.length (Ff s)):=by unfold Sc.places;rw[if_pos h];rfl
theorem ZkH(s:Sc):s.places.length<=20001:=by
 cases h:s.light with
 | false=>unfold Sc.places;rw[h];simp
 | true=>
  have hw:s.weight<=20000:=by unfold Sc.light at h;exact zA6 h
  rw[Zjf h,List.length_cons,zA1]
  have h1:(Zdk s.vars.length Vf).length=s.vars.length:=ZfN _ _
  have hA:∀i k m (a:Ac),((plA i k m a).length:Int)<=wA a:=λi k m a=>by
   rw[Zsx,List.length_cons,show(Zdk a.parts.length (Pf i k m)).length=a.parts.length from ZfN _ _]
   have:=(ZfL a.e).1
   have:=Zc3 (λp:Pt=>nE p.e) (λp=>(ZfL p.e).1) a.parts
   unfold wA;push_cast;omega
  have hR:∀i k (r:Ru),((plR i k r).length:Int)<=wR r:=λi k r=>by
   rw[Zsy,List.length_cons]
   have:=Zmr r.acts (Hf i k r) (plA i k) wA (λm a h=>by unfold Hf;rw[h]) (λj x _=>hA i k j x) r.acts.length (Nat.le_refl _)
   rw[List.take_length]at this
   have h1:=(ZfM r.t).1
   have h2:0<=Zgg r.t.size 20000:=by unfold Zgg;split <;> omega
   have h3:((Zdk r.acts.length (Hf i k r)).length:Int)<=ZaF (r.acts.map wA):=this
   unfold wR;push_cast;split <;> omega
  have hS:∀i (x:Sta),((plS i x).length:Int)<=1+wS x:=λi x=>by
   rw[Zsz,List.length_cons]
   have:=Zmr x.rules (Gf i x) (plR i) wR (λm a h=>by unfold Gf;rw[h]) (λj x _=>hR i j x) x.rules.length (Nat.le_refl _)
   rw[List.take_length]at this
   have h3:((Zdk x.rules.length (Gf i x)).length:Int)<=ZaF (x.rules.map wR):=this
   unfold wS;push_cast;omega
  have:=Zmr s.states (Ff s) plS (λx=>1+wS x) (λm a h=>by unfold Ff;rw[h]) (λj x _=>hS j x) s.states.length (Nat.le_refl _)
  rw[List.take_length]at this
  have h3:((Zdk s.states.length (Ff s)).length:Int)<=ZaF (s.states.map λx=>1+wS x):=this
  have h4:∀l:List Sta,ZaF (l.map λx=>1+wS x)=l.length+ZaF (l.map wS):=λl=>by
   induction l with
   | nil=>rfl
   | cons x l ih=>simp only[List.map_cons,ZaF,ih,List.length_cons];push_cast;omega
  rw[h4]at h3
  unfold Sc.weight at hw
  omega
theorem Zhy{n:Nat}{f:Nat->List Pl}{p:Pl}(h:p∈Zdk n f):∃i,i < n/\p∈f i:=by
 unfold Zdk at h
 obtain⟨i,hi,hp⟩:=List.mem_flatMap.1 h
 exact⟨i,List.mem_range.1 hi,hp⟩
def ZCk(s:Sc)(p:Pl):Prop:=(∃i:Nat,p.v=i/\∃v,s.vars[i]?=some v)\/(p.v < 0/\(p.s < 0\/∃i:Nat,p.s=i/\∃x,s.states[i]?=some x/\(p.r < 0\/∃k:Nat,p.r=k/\∃r,x.rules[k]?=some r/\(p.a < 0\/∃j:Nat,p.a=j/\∃a,r.acts[j]?=some a/\(p.p < 0\/∃n:Nat,p.p=n/\∃q,a.parts[n]?=some q)))))
theorem ZzB:(-1:Int) < 0:=by decide
theorem Zwy{α:Type}{l:List α}{n:Nat}(h:n < l.length):∃c,l[n]?=some c:=⟨_,zA3 h⟩
theorem ZnM(s:Sc):∀p∈s.places,ZCk s p:=by
 intro p hp
 cases h:s.light with
 | false=>unfold Sc.places at hp;rw[h]at hp;simp at hp
 | true=>
  rw[Zjf h]at hp
  rcases List.mem_cons.1 hp with rfl|hp
  ·exact .inr ⟨by decide,.inl (by decide)⟩
  rcases List.mem_append.1 hp with hp|hp
  ·obtain⟨i,hi,hp⟩:=Zhy hp
   obtain rfl:p=⟨i,-1,-1,-1,-1⟩:=by simpa[Vf]using hp
   exact .inl ⟨i,rfl,Zwy hi⟩
  ·obtain⟨i,hi,hp⟩:=Zhy hp
   obtain⟨x,hx⟩:=Zwy hi
   have hp:p∈plS i x:=by unfold Ff at hp;rw[hx]at hp;exact hp
   rw[Zsz]at hp
   rcases List.mem_cons.1 hp with rfl|hp
   ·exact .inr ⟨ZzB,.inr ⟨i,rfl,x,hx,.inl (ZzB)⟩⟩
   obtain⟨k,hk,hp⟩:=Zhy hp
   obtain⟨r,hr⟩:=Zwy hk
   have hp:p∈plR i k r:=by unfold Gf at hp;rw[hr]at hp;exact hp
   rw[Zsy]at hp
   rcases List.mem_cons.1 hp with rfl|hp
   ·exact .inr ⟨ZzB,.inr ⟨i,rfl,x,hx,.inr ⟨k,rfl,r,hr,.inl (ZzB)⟩⟩⟩
   obtain⟨j,hj,hp⟩:=Zhy hp
   obtain⟨a,ha⟩:=Zwy hj
   have hp:p∈plA i k j a:=by unfold Hf at hp;rw[ha]at hp;exact hp
   rw[Zsx]at hp
   rcases List.mem_cons.1 hp with rfl|hp
   ·exact .inr ⟨ZzB,.inr ⟨i,rfl,x,hx,.inr ⟨k,rfl,r,hr,.inr ⟨j,rfl,a,ha,.inl (ZzB)⟩⟩⟩⟩
   obtain⟨n,hn,hp⟩:=Zhy hp
   obtain rfl:p=⟨-1,i,k,j,n⟩:=by simpa[Pf]using hp
   exact .inr ⟨ZzB,.inr ⟨i,rfl,x,hx,.inr ⟨k,rfl,r,hr,.inr ⟨j,rfl,a,ha,.inr ⟨n,rfl,Zwy hn⟩⟩⟩⟩⟩
end Go.Rx
namespace Go.Rx
open Go Go.Eng Go.RowKit
def T.good(t:T):Bool:=t.nodes.all T.right
def isG(t:T):Bool:=t.k == 6
theorem ZkI(p:T->Bool):∀l:List T,(ZaI l).all p=l.all λt=>t.nodes.all p
 | []=>rfl
 | t::l=>by simp only[ZaI,List.all_append,List.all_cons,ZkI p l]
theorem ZnN(t:T):t.good=(t.right&&t.subs.all T.good):=by
 unfold T.good;rw[Zcv,List.all_cons,ZkI]
def grL(l:List T):Nat:=(ZaI l).countP isG
def szL(l:List T):Nat:=(ZaI l).length
def T.gr(t:T):Nat:=t.nodes.countP isG
theorem ZaG(l r:List T):szL (l++r)=szL l+szL r:=by unfold szL;rw[ZcR,zA1]
theorem Zbq(l r:List T):grL (l++r)=grL l+grL r:=by unfold grL;rw[ZcR,List.countP_append]
theorem Za9(t:T):szL [t]=t.nodes.length:=by simp[szL,ZaI]
theorem ZcT(t:T):grL [t]=t.gr:=by simp[grL,ZaI,T.gr]
theorem Zci(t:T):Zj8 [t]=t.pos:=by simp[Zj8]
theorem Zex(t:T)(l:List T):szL (t::l)=t.nodes.length+szL l:=by simp[szL,ZaI]
theorem ZqN(t:T)(l:List T):grL (t::l)=t.gr+grL l:=by simp[grL,ZaI,T.gr,List.countP_append]
theorem Zjg(t:T):t.nodes.length=1+szL t.subs:=by rw[Zcv,List.length_cons,szL];omega
theorem Zwz(t:T):t.gr=(if isG t=true then 1 else 0)+grL t.subs:=by
 unfold T.gr;rw[Zcv,List.countP_cons,grL];omega
theorem ZnO(l:List T):l.length<=szL l:=by
 induction l with
 | nil=>simp
 | cons t l ih=>rw[Zex,Zjg,List.length_cons];omega
def ZaQ(k:Int)(t:T):List T:=if t.k=k then t.subs else if k=3/\t.k=1 then[]else[t]
def Zcr(k:Int)(a:Option Addr)(c:Nat):List T->T
 | []=>T1
 | [x]=>x
 | x::y::l=>Zbe k 0 0 a c (x::y::l)
theorem Zjh{t:T}{k:Int}(h:t.has k=false):∀x∈t.subs,x.k≠k:=by
 intro x hx e
 unfold T.has at h
 have:=List.any_eq_false.1 h x hx
 simp[e]at this
theorem Zu4{t:T}{k:Int}(h:∀x∈t.subs,x.k≠k):t.has k=false:=by
 unfold T.has
 rw[List.any_eq_false]
 intro x hx
 have:=h x hx
 simpa using this
theorem Zji{k:Int}{t:T}(hk:k=3\/k=4)(hg:t.good=true)(hp:t.pos<=10000):(∀x∈ZaQ k t,x.good=true/\x.k≠k/\(k=3->x.k≠1))/\szL (ZaQ k t)<=t.nodes.length/\grL (ZaQ k t)<=t.gr/\Zj8 (ZaQ k t)<=t.pos:=by
 have hg':=hg
 rw[ZnN,zA7,List.all_eq_true]at hg'
 unfold ZaQ
 split
 ·rename_i cY
  refine⟨λx hx=>⟨hg'.2 x hx,?_⟩,by rw[Zjg];omega,by rw[Zwz];omega,?_⟩
  ·have hr:=hg'.1
   unfold T.right at hr
   rw[zA7]at hr
   have hr:=hr.2
   rcases hk with rfl|rfl
   ·simp only[cY]at hr
    simp at hr
    exact⟨Zjh hr.2.2 x hx,λ_=>Zjh hr.2.1 x hx⟩
   ·simp only[cY]at hr
    simp at hr
    exact⟨Zjh hr.2 x hx,λh=>by omega⟩
  ·rw[Zsq]at hp ⊢
   have h5:¬t.k=5:=by omega
   have h2:¬t.k=2:=by omega
   unfold ZyM at hp ⊢
   rw[if_neg h5,if_neg h2,Int.zero_add]at hp ⊢
   unfold Zgg at hp ⊢
   split at hp
   ·omega
   ·split <;> omega
 ·rename_i cY
  split
  ·refine⟨λx hx=>by simp at hx,by simp[szL,ZaI],by simp[grL,ZaI],?_⟩
   simp only[Zj8];exact(Zlt t).1
  ·rename_i wu
   refine⟨λx hx=>?_,by rw[Za9];exact Nat.le_refl _,by rw[ZcT];exact Nat.le_refl _,by rw[Zci];exact Int.le_refl _⟩
   simp at hx;subst hx
   exact⟨hg,cY,λh=>λh1=>wu ⟨h,h1⟩⟩
theorem ZnP{k:Int}(hk:k=3\/k=4)(a:Option Addr)(c:Nat):∀{l:List T},(∀x∈l,x.good=true/\x.k≠k/\(k=3->x.k≠1))->(Zcr k a c l).good=true/\(Zcr k a c l).nodes.length<=1+szL l/\(Zcr k a c l).gr<=grL l/\(Zcr k a c l).pos<=Zj8 l
 | [],_=>⟨show T1.good=true by decide,show T1.nodes.length<=1 by decide,show T1.gr<=0 by decide,show T1.pos<=0 by decide⟩
 | [x],h=>by
  rw[Za9,ZcT,Zci]
  exact⟨(h x (by simp)).1,by show x.nodes.length<=_;omega,Nat.le_refl _,Int.le_refl _⟩
 | x::y::l,h=>by
  show(Zbe k 0 0 a c (x::y::l)).good=true/\(Zbe k 0 0 a c (x::y::l)).nodes.length<=_/\(Zbe k 0 0 a c (x::y::l)).gr<=_/\(Zbe k 0 0 a c (x::y::l)).pos<=_
  have hs:(Zbe k 0 0 a c (x::y::l)).subs=x::y::l:=rfl
  have cY:(Zbe k 0 0 a c (x::y::l)).k=k:=rfl
  have hz:(Zbe k 0 0 a c (x::y::l)).setZ=true:=rfl
  have uk:(Zbe k 0 0 a c (x::y::l)).mn=0:=rfl
  have ld:(Zbe k 0 0 a c (x::y::l)).mx=0:=rfl
  refine⟨?_,by rw[Zjg,hs];exact Nat.le_refl _,?_,?_⟩
  ·rw[ZnN,zA7,List.all_eq_true,hs]
   refine⟨?_,λz hz=>(h z hz).1⟩
   have h1:k=3->(Zbe k 0 0 a c (x::y::l)).has 1=false:=λe=>Zu4 λz hz=>(h z hz).2.2 e
   have h2:(Zbe k 0 0 a c (x::y::l)).has k=false:=Zu4 λz hz=>(h z hz).2.1
   unfold T.right
   rw[cY,hz,uk,ld,hs]
   rcases hk with rfl|rfl
   ·simp[h1 rfl,h2]
   ·simp[h2]
  ·rw[Zwz,hs,isG,cY]
   rcases hk with rfl|rfl <;> simp
  ·rw[Zsq,cY,uk,ld,hs]
   unfold ZyM
   rw[if_neg (by omega),if_neg (by omega),Int.zero_add]
   exact(ZkC _ _).1
structure J (i:Nat)(ts:List T)(u g:Nat):Prop where
 good:∀t∈ts,t.good=true
 sz:szL ts<=i
 pos:Zj8 ts<=(i*u:Nat)
 u1:1<=u
 u16:u<=16
 gr:grL ts<=g
 g9:g<=9
theorem J.zero:J 0 [] 1 0:=⟨by simp,by simp[szL,ZaI],by simp[Zj8],by omega,by omega,by simp[grL,ZaI],by omega⟩
theorem J.skip{i ts u g}(h:J i ts u g):J (i+1) ts u g:=
 ⟨h.good,by have:=h.sz;omega,by have:=h.pos;have e:(i+1)*u=i*u+u:=Nat.succ_mul i u;rw[e];omega,h.u1,h.u16,h.gr,h.g9⟩
theorem J.push{i ts u g}(h:J i ts u g){t:T}(hg:t.good=true)(hs:t.nodes.length=1)(hp:t.pos<=1)(hr:t.gr=0):J (i+1) (ts++[t]) u g:=by
 refine⟨λx hx=>?_,?_,?_,h.u1,h.u16,?_,h.g9⟩
 ·rcases List.mem_append.1 hx with hx|hx
  ·exact h.good x hx
  ·simp at hx;subst hx;exact hg
 ·rw[ZaG,Za9,hs];have:=h.sz;omega
 ·rw[Zbf,Zci];have:=h.pos;have:=h.u1;have e:(i+1)*u=i*u+u:=Nat.succ_mul i u;rw[e];omega
 ·rw[Zbq,ZcT,hr];have:=h.gr;omega
theorem J.pos400{i ts u g}(h:J i ts u g)(hi:i<=25):Zj8 ts<=400:=by
 have h1:=h.pos
 have:i*u<=25*16:=Nat.mul_le_mul hi h.u16
 omega
theorem J.join{i ts u g}{x y:T}(h:J i (ts++[x,y]) u g)(hi:i<=25){k:Int}(hk:k=3\/k=4)(a:Option Addr)(c:Nat):J (i+1) (ts++[Zcr k a c (ZaQ k x++ZaQ k y)]) u g:=by
 have h4:=h.pos400 hi
 have hz:=h.sz
 have hp:=h.pos
 have lB:=h.gr
 rw[show ts++[x,y]=ts++([x]++[y]) from rfl]at h4 hz hp lB
 rw[Zbf,Zbf,Zci,Zci]at h4 hp
 rw[ZaG,ZaG,Za9,Za9]at hz
 rw[Zbq,Zbq,ZcT,ZcT]at lB
 have n1:=Ziv ts
 have n2:=(Zlt x).1
 have n3:=(Zlt y).1
 obtain⟨a1,a2,a3,a4⟩:=Zji hk (h.good x (by simp)) (by omega)
 obtain⟨b1,b2,b3,b4⟩:=Zji hk (h.good y (by simp)) (by omega)
 obtain⟨c1,c2,c3,c4⟩:=ZnP hk a c (l:=ZaQ k x++ZaQ k y) (λz hz=>by
  rcases List.mem_append.1 hz with hz|hz
  ·exact a1 z hz
  ·exact b1 z hz)
 rw[ZaG]at c2
 rw[Zbq]at c3
 rw[Zbf]at c4
 refine⟨λz hz=>?_,?_,?_,h.u1,h.u16,?_,h.g9⟩
 ·rcases List.mem_append.1 hz with hz|hz
  ·exact h.good z (by simp[hz])
  ·simp at hz;subst hz;exact c1
 ·rw[ZaG,Za9];omega
 ·rw[Zbf,Zci];have e:(i+1)*u=i*u+u:=Nat.succ_mul i u;rw[e];omega
 ·rw[Zbq,ZcT];omega
theorem J.group{i ts u g}{x:T}(h:J i (ts++[x]) u g)(hg:g < 9)(a:Option Addr)(c:Nat):J (i+1) (ts++[Zbe 6 0 0 a c [x]]) u (g+1):=by
 have hz:=h.sz
 have hp:=h.pos
 have lB:=h.gr
 rw[Zbf,Zci]at hp
 rw[ZaG,Za9]at hz
 rw[Zbq,ZcT]at lB
 have hs:(Zbe 6 0 0 a c [x]).subs=[x]:=rfl
 refine⟨λz hz=>?_,?_,?_,h.u1,h.u16,?_,by omega⟩
 ·rcases List.mem_append.1 hz with hz|hz
  ·exact h.good z (by simp[hz])
  ·simp at hz;subst hz
   rw[ZnN,zA7,List.all_eq_true]
   refine⟨rfl,λz hz=>?_⟩
   rw[hs]at hz;simp at hz;subst hz
   exact h.good z (by simp)
 ·rw[ZaG,Za9,Zjg,hs,Za9];omega
 ·rw[Zbf,Zci,Zsq,hs,Zci]
  have:ZyM (Zbe 6 0 0 a c [x]).k (Zbe 6 0 0 a c [x]).mn (Zbe 6 0 0 a c [x]).mx ((if(Zbe 6 0 0 a c [x]).k=2 then 1 else 0)+x.pos)<=x.pos:=by
   show Zgg (if(6:Int)=5 then _ else(if(6:Int)=2 then 1 else 0)+x.pos) 10001<=_
   rw[if_neg (by omega),if_neg (by omega),Int.zero_add]
   exact(ZkC _ _).1
  have e:(i+1)*u=i*u+u:=Nat.succ_mul i u
  rw[e];omega
 ·rw[Zbq,ZcT,Zwz,hs,ZcT]
  split <;> omega
theorem J.rep{i ts u g}{x:T}(h:J i (ts++[x]) u g)(hx:x.k≠1){mn mx:Int}(hb:Zsp mn mx=true){w:Nat}(hw:Zzy mn mx<=w)(h1:1<=w)(hu:u*w<=16)(a:Option Addr)(c:Nat):J (i+1) (ts++[Zbe 5 mn mx a c [x]]) (u*w) g:=by
 have hz:=h.sz
 have hp:=h.pos
 have lB:=h.gr
 rw[Zbf,Zci]at hp
 rw[ZaG,Za9]at hz
 rw[Zbq,ZcT]at lB
 have hs:(Zbe 5 mn mx a c [x]).subs=[x]:=rfl
 have n1:=Ziv ts
 have n2:=(Zlt x).1
 refine⟨λz hz=>?_,?_,?_,?_,hu,?_,h.g9⟩
 ·rcases List.mem_append.1 hz with hz|hz
  ·exact h.good z (by simp[hz])
  ·simp at hz;subst hz
   rw[ZnN,zA7,List.all_eq_true]
   refine⟨?_,λz hz=>?_⟩
   ·have hh:(Zbe 5 mn mx a c [x]).has 1=false:=Zu4 λz hz=>by rw[hs]at hz;simp at hz;subst hz;exact hx
    unfold T.right
    rw[hh,hs,show(Zbe 5 mn mx a c [x]).k=5 from rfl,show(Zbe 5 mn mx a c [x]).setZ=true from rfl,show(Zbe 5 mn mx a c [x]).mn=mn from rfl,show(Zbe 5 mn mx a c [x]).mx=mx from rfl,hb]
    simp
   ·rw[hs]at hz;simp at hz;subst hz
    exact h.good z (by simp)
 ·rw[ZaG,Za9,Zjg,hs,Za9];omega
 ·rw[Zbf,Zci,Zsq,hs,Zci]
  have key:ZyM (Zbe 5 mn mx a c [x]).k (Zbe 5 mn mx a c [x]).mn (Zbe 5 mn mx a c [x]).mx ((if(Zbe 5 mn mx a c [x]).k=2 then 1 else 0)+x.pos)<=x.pos*w:=by
   show Zgg (if(5:Int)=5 then((if(5:Int)=2 then 1 else 0)+x.pos)*Zzy mn mx else _) 10001<=_
   rw[if_pos rfl,if_neg (by omega),Int.zero_add]
   exact Int.le_trans (ZkC _ _).1 (Int.mul_le_mul_of_nonneg_left hw n2)
  have k2:Zj8 ts<=Zj8 ts*w:=by
   have:=Int.mul_le_mul_of_nonneg_left (show(1:Int)<=w by omega) n1
   rw[Int.mul_one]at this;exact this
  have k3:(Zj8 ts+x.pos)*w<=((i*u:Nat):Int)*w:=Int.mul_le_mul_of_nonneg_right hp (by omega)
  rw[Int.add_mul]at k3
  have e:(i+1)*(u*w)=i*u*w+u*w:=by rw[Nat.succ_mul,Nat.mul_assoc]
  have e2:(((i*u:Nat):Int)*w)=((i*u*w:Nat):Int):=by push_cast;rfl
  rw[e2]at k3
  rw[e]
  generalize i*u*w=A at *
  generalize u*w=B at *
  generalize Zj8 ts*(w:Int)=D at *
  generalize x.pos*(w:Int)=F at *
  omega
 ·have:=Nat.mul_le_mul h.u1 h1;omega
 ·rw[Zbq,ZcT,Zwz,hs,ZcT,isG,show(Zbe 5 mn mx a c [x]).k=5 from rfl]
  simp;omega
structure F (t:T)(l:List T):Prop where
 good:t.good=true
 goods:∀x∈l,x.good=true
 sz:t.nodes.length+szL l+l.length<=60
 pos:t.pos+Zj8 l<=400
 gr:t.gr+grL l<=9
theorem F.start{i u g}{t:T}{l:List T}(h:J i (t::l) u g)(hi:i<=25):F t l:=by
 have h1:=h.sz
 have h2:=h.pos400 hi
 have h3:=h.gr
 rw[Zex]at h1
 rw[ZqN]at h3
 have:=ZnO l
 have:=h.g9
 exact⟨h.good t (by simp),λx hx=>h.good x (by simp[hx]),by omega,by simpa[Zj8]using h2,by omega⟩
theorem F.step{t x:T}{l:List T}(h:F t (x::l))(a:Option Addr)(c:Nat):F (Zcr 4 a c (ZaQ 4 t++ZaQ 4 x)) l:=by
 have h1:=h.sz
 have h2:=h.pos
 have h3:=h.gr
 rw[Zex,List.length_cons]at h1
 rw[ZqN]at h3
 simp only[Zj8]at h2
 have n1:=Ziv l
 have n2:=(Zlt x).1
 have n3:=(Zlt t).1
 obtain⟨a1,a2,a3,a4⟩:=Zji (.inr rfl) h.good (by omega) (t:=t)
 obtain⟨b1,b2,b3,b4⟩:=Zji (.inr rfl) (h.goods x (by simp)) (by omega)
 obtain⟨c1,c2,c3,c4⟩:=ZnP (.inr rfl) a c (l:=ZaQ 4 t++ZaQ 4 x) (λz hz=>by
  rcases List.mem_append.1 hz with hz|hz
  ·exact a1 z hz
  ·exact b1 z hz)
 rw[ZaG]at c2
 rw[Zbq]at c3
 rw[Zbf]at c4
 exact⟨c1,λz hz=>h.goods z (by simp[hz]),by omega,by omega,by omega⟩
theorem F.done{t:T}{l:List T}(h:F t l):t.check=0:=by
 have h1:=h.sz
 have h2:=h.pos
 have h3:=h.gr
 have n1:=Ziv l
 have hl:t.light=true:=by unfold T.light;exact decide_eq_true (by omega)
 have hc:t.clean=true:=by unfold T.clean;rw[hl];exact h.good
 have hg:((t.nodes.countP λx=>x.k == 6:Nat))=t.gr:=rfl
 unfold T.check
 rw[hc]
 unfold T.size T.positions T.groups
 rw[hl,hg]
 simp only[if_true,Bool.true_eq_false,if_false]
 rw[if_neg (by omega),if_neg (by omega),if_neg (by omega)]
theorem ZqO(n:Nat):(Zdy (Zb1 n)).good=true/\(Zdy (Zb1 n)).nodes.length=1/\(Zdy (Zb1 n)).pos<=1/\(Zdy (Zb1 n)).gr=0:=by
 have h:n % 12=0\/n % 12=1\/n % 12=2\/n % 12=3\/n % 12=4\/n % 12=5\/n % 12=6\/n % 12=7\/n % 12=8\/n % 12=9\/n % 12=10\/n % 12=11:=by omega
 unfold Zb1
 rcases h with e|e|e|e|e|e|e|e|e|e|e|e <;> rw[e] <;> exact⟨by decide,by decide,by decide,by decide⟩
theorem Zxg:T1.good=true/\T1.nodes.length=1/\T1.pos<=1/\T1.gr=0:=⟨by decide,by decide,by decide,by decide⟩
theorem Zea{k:Int}{t:T}:(ZaQ k t).length<=t.nodes.length:=by
 unfold ZaQ
 have:=Zxc t
 have:=Zjg t
 split
 ·omega
 ·split <;> simp <;> omega
end Go.Rx
namespace Go.Rx
open Go Go.Eng
set_option maxRecDepth 100000
def ZeR:List ByteArray:=[⟨#[120]⟩,⟨#[121]⟩,⟨#[122,95,49]⟩,⟨#[97,98,99,100,101,102,103,104,105,106,107,108,109,110,111,112]⟩]
def Zcx:List ByteArray:=[⟨#[115]⟩,⟨#[116]⟩]
def ZtW:List ByteArray:=[⟨#[97]⟩,⟨#[98]⟩,⟨#[99]⟩,⟨#[100]⟩]
def okN(c:Int)(x:E):Prop:=x.right=true/\(x.k=9->x.s∈ZeR)/\(x.k=10->x.g<=c)
structure MkE (c:Int)(n:Nat)(e:E):Prop where
 all:∀x∈e.nodes,okN c x
 len:e.nodes.length<=n
def Zu5(x:Nat):E:=.node 8 x .empty 0 none 0 []
def ZsA(s:ByteArray):E:=.node 9 0 s 0 none 0 []
def ZyN(g:Int):E:=.node 10 0 .empty g none 0 []
def ZtX(a:Option Addr)(c:Nat)(x:E):E:=.node 1 0 .empty 0 a c [x]
def opE(k:Int)(a:Option Addr)(c:Nat)(x y:E):E:=.node k 0 .empty 0 a c [x,y]
theorem MkE.mono{c n k e}(h:MkE c n e)(hk:n<=k):MkE c k e:=⟨h.all,Nat.le_trans h.len hk⟩
theorem Zms{c:Int}{k x s g a d}(h:okN c (.node k x s g a d [])):MkE c 1 (.node k x s g a d []):=by
 refine⟨λy hy=>?_,by simp[E.nodes,Zak]⟩
 simp only[E.nodes,Zak,List.mem_singleton]at hy
 rw[hy];exact h
theorem ZsB:Zjc 0 0=true:=by decide +kernel
theorem ZtY{c:Int}{x:Nat}(h:ZgI x=true):MkE c 1 (Zu5 x):=by
 refine Zms ⟨?_,λe=>absurd (show(8:Int)=9 from e) (by decide),λe=>absurd (show(8:Int)=10 from e) (by decide)⟩
 simp[E.right,E.k,E.s,E.x,E.g,E.subs,ZnJ,h]
theorem ZqP:∀s∈ZeR,ZfY s=true:=by decide +kernel
theorem ZtZ:∀s∈Zcx,ZfY s=true:=by decide +kernel
theorem Zt0:∀s∈ZtW,ZfY s=true:=by decide +kernel
theorem Zt1{c:Int}{s:ByteArray}(h:s∈ZeR):MkE c 1 (ZsA s):=by
 refine Zms ⟨?_,λ_=>h,λe=>absurd (show(9:Int)=10 from e) (by decide)⟩
 simp[E.right,E.k,E.s,E.x,E.g,E.subs,ZnJ,ZqP s h,ZsB]
theorem Zxh{c g:Int}(h:0<=g/\g<=9)(hc:g<=c):MkE c 1 (ZyN g):=by
 refine Zms ⟨?_,λe=>absurd (show(10:Int)=9 from e) (by decide),λ_=>hc⟩
 simp[E.right,E.k,E.s,E.x,E.g,E.subs,ZnJ,ZsB,h.1,h.2]
theorem Zxi{c:Int}{n:Nat}{a d}{x:E}(h:MkE c n x)(hk:x.k≠8):MkE c (n+1) (ZtX a d x):=by
 refine⟨λy hy=>?_,by have:=h.len;simp[ZtX,E.nodes,Zak];omega⟩
 simp only[ZtX,E.nodes,Zak,List.append_nil,List.mem_cons]at hy
 rcases hy with rfl|hy
 ·refine⟨?_,λe=>absurd (show(1:Int)=9 from e) (by decide),λe=>absurd (show(1:Int)=10 from e) (by decide)⟩
  have h1:E.right (.node 1 0 .empty 0 a d [x])=!Zsv [x]:=by simp[E.right,E.k,E.s,E.x,E.g,E.subs,ZnJ,ZsB]
  rw[h1]
  show(!(x.k == 8))=true
  simpa using hk
 ·exact h.all y hy
theorem Zxj{c:Int}{n p:Nat}{a d}{k:Int}{x y:E}(hk:2<=k/\k<=7)(h:MkE c n x)(h2:MkE c p y):MkE c (n+p+1) (opE k a d x y):=by
 refine⟨λz hz=>?_,by have:=h.len;have:=h2.len;simp[opE,E.nodes,Zak];omega⟩
 simp only[opE,E.nodes,Zak,List.append_nil,List.mem_cons,List.mem_append]at hz
 rcases hz with rfl|hz|hz
 ·refine⟨?_,λe=>?_,λe=>?_⟩
  ·have h0:¬k=0:=by omega
   have h1:¬k=1:=by omega
   have h9:¬k=9:=by omega
   have h8:¬k=8:=by omega
   have fT:¬k=10:=by omega
   have hs:ZnJ k=2:=by unfold ZnJ;rw[if_neg h1,if_pos hk]
   have cy:k<=10:=by omega
   simp[E.right,E.k,E.s,E.x,E.g,E.subs,hs,ZsB,h0,h1,h9,h8,fT,cy]
  ·have e:k=9:=e
   omega
  ·have e:k=10:=e
   omega
 ·exact h.all z hz
 ·exact h2.all z hz
theorem MkE.clean{c:Int}{n:Nat}{e:E}(h:MkE c n e)(hn:n<=10000):e.clean=true:=by
 have hl:e.light=true:=by unfold E.light;exact decide_eq_true (Nat.le_trans h.len hn)
 unfold E.clean
 rw[hl,Bool.true_and,List.all_eq_true]
 exact λx hx=>(h.all x hx).1
theorem Zxk{c:Int}(l:List E)(h:∀x∈l,x.k=10->x.g<=c):∀n:Int,n<=c->l.foldl (λn x=>if x.k=10 then(if x.g > n then x.g else n)else n) n<=c:=by
 induction l with
 | nil=>exact λn hn=>hn
 | cons x l ih=>
  intro n hn
  rw[List.foldl_cons]
  refine ih (λy hy=>h y (List.mem_cons_of_mem _ hy)) _ ?_
  split
  ·rename_i hk
   split
   ·exact h x (by simp) hk
   ·exact hn
  ·exact hn
theorem MkE.most{c:Int}{n:Nat}{e:E}(h:MkE c n e)(hc : -1<=c):e.most<=c:=by
 unfold E.most
 split
 ·exact Zxk _ (λx hx=>(h.all x hx).2.2) _ hc
 ·exact hc
mutual
theorem ZqQ{A:List ByteArray}:∀(t:E)(out:List ByteArray),(∀x∈t.nodes,x.k=9->x.s∈A)->∀s∈t.names out,s∈out\/s∈A
 | .node k x s g a c l,out,h,z,hz=>by
  simp only[E.names]at hz
  split at hz
  ·rename_i hk
   split at hz
   ·exact .inl hz
   ·rcases List.mem_append.1 hz with hz|hz
    ·exact .inl hz
    ·rw[List.mem_singleton]at hz;subst hz
     exact .inr (h (.node k x z g a c l) (by simp[E.nodes]) hk)
  ·exact ZnQ l out (λy hy=>h y (by simp only[E.nodes];exact List.mem_cons_of_mem _ hy)) z hz
theorem ZnQ{A:List ByteArray}:∀(l:List E)(out:List ByteArray),(∀x∈Zak l,x.k=9->x.s∈A)->∀s∈ZbG l out,s∈out\/s∈A
 | [],out,_,z,hz=>.inl hz
 | t::l,out,h,z,hz=>by
  simp only[ZbG]at hz
  rcases ZnQ l _ (λy hy=>h y (by simp only[Zak];exact List.mem_append_right _ hy)) z hz with hz|hz
  ·exact ZqQ t out (λy hy=>h y (by simp only[Zak];exact List.mem_append_left _ hy)) z hz
  ·exact .inr hz
end
theorem MkE.vars{c:Int}{n:Nat}{e:E}(h:MkE c n e):∀s∈e.vars,s∈ZeR:=by
 intro s hs
 unfold E.vars at hs
 split at hs
 ·rcases ZqQ (A:=ZeR) e [] (λx hx=>(h.all x hx).2.1) s hs with h|h
  ·cases h
  ·exact h
 ·cases hs
theorem Zxl:Zwx E0=true:=by decide +kernel
inductive MkP (c:Int):Pt->Prop
 | lit (s:ByteArray) (h:0 < s.size/\s.size<=512):MkP c ⟨1,s,0,E0⟩
 | var (s:ByteArray) (h:s∈ZeR\/s∈Zcx):MkP c ⟨2,s,0,E0⟩
 | cap (g:Int) (h:0<=g/\g<=9/\g<=c):MkP c ⟨3,.empty,g,E0⟩
 | clc (e:E) (h:MkE c 20 e):MkP c ⟨4,.empty,0,e⟩
def ZAX(l:List Pt):Prop:=∀(i:Nat)(p q:Pt),l[i]?=some p->l[i+1]?=some q->p.k=1->q.k=1->False
structure MkT (c:Int)(l:List Pt):Prop where
 len:l.length<=5
 all:∀p∈l,MkP c p
 ll:ZAX l
inductive MkA (c:Int):Ac->Prop
 | send (a:Option Addr) (n:Nat) (l:List Pt) (h:MkT c l):MkA c ⟨1,.empty,a,n,l,E0⟩
 | set (s:ByteArray) (hs:s∈Zcx) (a:Option Addr) (n:Nat) (l:List Pt) (h:MkT c l):MkA c ⟨2,s,a,n,l,E0⟩
 | let_ (s:ByteArray) (hs:s∈ZeR) (e:E) (h:MkE c 20 e):MkA c ⟨3,s,none,0,[],e⟩
def Zzb(r:Ru):Prop:=(r.k=1/\r.t.check=0/\r.t.nodes.length<=26/\r.s=.empty/\r.n=0)\/((r.bg=false/\r.en=false/\r.t=T0)/\((r.k=2/\1<=r.s.size/\r.s.size<=3/\r.n=0)\/(r.k=3/\r.s=.empty/\r.n=0)\/(r.k=4/\r.s=.empty/\1<=r.n/\r.n<=8)))
structure MkR (n:Nat)(r:Ru):Prop where
 kind:Zzb r
 len:r.acts.length<=3
 all:∀a∈r.acts,MkA (Zcn r) a
 go:((∃i,i < n/\ZtW[i]?=some r.go)/\r.code=0)\/(r.go=.empty/\0<=r.code/\r.code<=255)
structure MkS (n i:Nat)(x:Sta):Prop where
 name:ZtW[i]?=some x.s
 len:x.rules.length<=5
 all:∀r∈x.rules,MkR n r
structure MkV (i:Nat)(v:Va):Prop where
 name:(ZeR++Zcx)[i]?=some v.s
 kind:(i < 4/\v.b=true/\v.t=.empty/\ZgI v.x=true)\/(4<=i/\v.b=false/\v.t.size<=3/\v.x=0)
structure MkC (s:Sc):Prop where
 n:2<=s.n/\s.n<=12
 vlen:s.vars.length=6
 vall:∀i v,s.vars[i]?=some v->MkV i v
 len:1<=s.states.length/\s.states.length<=4
 all:∀i x,s.states[i]?=some x->MkS s.states.length i x
theorem ZpF{n:Nat}{e:E}(h:e.nodes.length<=n)(hn:n<=10000):e.light=true:=by unfold E.light;exact decide_eq_true (by omega)
theorem ZAB{n:Nat}{e:E}(h:e.nodes.length<=n)(hn:n<=10000):nE e<=n:=by
 unfold nE E.size;rw[ZpF h hn];simp;omega
theorem nE0:nE E0<=20:=by decide +kernel
theorem ZgK{α:Type}(f:α->Int)(B:Int)(l:List α)(hf:∀x∈l,f x<=B):ZaF (l.map f)<=l.length*B:=by
 induction l with
 | nil=>simp[ZaF]
 | cons x l ih=>
  have h1:=hf x (by simp)
  have h2:=ih (λy hy=>hf y (by simp[hy]))
  simp only[List.map_cons,ZaF,List.length_cons]
  rw[show((l.length+1:Nat):Int)*B=l.length*B+B by rw[Int.natCast_add,Int.add_mul];simp]
  omega
theorem MkP.nE{c:Int}{p:Pt}(h:MkP c p):nE p.e<=20:=by
 cases h with
 | clc e h=>exact ZAB (n:=20) h.len (by omega)
 | _=>exact nE0
theorem MkA.w{c:Int}{a:Ac}(h:MkA c a):wA a<=126:=by
 have go:∀{l:List Pt},MkT c l->(l.length:Int)+ZaF (l.map λp=>Rx.nE p.e)<=105:=λ{l} h=>by
  have:=ZgK (λp:Pt=>Rx.nE p.e) 20 l (λp hp=>(h.all p hp).nE)
  have:=h.len
  omega
 have e0:=nE0
 cases h with
 | send a n l h=>have:=go h;simp only[wA];omega
 | set s hs a n l h=>have:=go h;simp only[wA];omega
 | let_ s hs e h=>have:=ZAB h.len (by omega);simp[wA,ZaF];omega
theorem Zjj{t:T}(h:t.nodes.length<=10000):t.light=true:=by unfold T.light;exact decide_eq_true h
theorem ZnR:T0.size=1/\T0.light=true/\T0.same T0=true:=by decide +kernel
theorem MkR.size{n:Nat}{r:Ru}(h:MkR n r):r.t.light=true/\0<=r.t.size/\r.t.size<=26:=by
 rcases h.kind with⟨_,_,h,_⟩|⟨⟨_,_,h⟩,_⟩
 ·have hl:=Zjj (t:=r.t) (by omega)
  refine⟨hl,?_⟩
  unfold T.size;rw[hl];simp;omega
 ·rw[h,ZnR.1];exact⟨ZnR.2.1,by omega,by omega⟩
theorem MkR.w{n:Nat}{r:Ru}(h:MkR n r):wR r<=405:=by
 obtain⟨h1,h2,h3⟩:=h.size
 have:=ZgK wA 126 r.acts (λa ha=>(h.all a ha).w)
 have:=h.len
 have hi:Zgg r.t.size 20000<=26:=by unfold Zgg;split <;> omega
 unfold wR;rw[h1];simp;omega
theorem MkS.w{n i:Nat}{x:Sta}(h:MkS n i x):wS x<=2025:=by
 have:=ZgK wR 405 x.rules (λa ha=>(h.all a ha).w)
 have:=h.len
 unfold wS;omega
theorem MkC.state{s:Sc}(h:MkC s){x:Sta}(hx:x∈s.states):∃i,s.states[i]?=some x/\MkS s.states.length i x:=by
 obtain⟨i,hi⟩:=List.getElem?_of_mem hx
 exact⟨i,hi,h.all i x hi⟩
theorem MkC.weight{s:Sc}(h:MkC s):s.weight<=8200:=by
 have:=ZgK wS 2025 s.states (λx hx=>by obtain⟨i,_,h⟩:=h.state hx;exact h.w)
 have:=h.len
 have:=h.vlen
 unfold Sc.weight;omega
theorem MkC.light{s:Sc}(h:MkC s):s.light=true:=by unfold Sc.light;exact decide_eq_true (by have:=h.weight;omega)
theorem ZgL(s:ByteArray):eqS s s=true:=by unfold eqS;simp
theorem Zxm:∀j < 6,∀i < 6,j≠i->eqS ((ZeR++Zcx).getD j .empty) ((ZeR++Zcx).getD i .empty)=false:=by decide +kernel
theorem ZzC:∀j < 4,∀i < 4,j≠i->eqS (ZtW.getD j .empty) (ZtW.getD i .empty)=false:=by decide +kernel
theorem Zix{l:List ByteArray}{i:Nat}{s:ByteArray}(h:l[i]?=some s):l.getD i .empty=s:=by rw[List.getD_eq_getElem?_getD,h];rfl
theorem Zt2{α:Type}{p:α->Bool}:∀{l:List α} {i:Nat} {x:α},l[i]?=some x->p x=true->(∀j y,j < i->l[j]?=some y->p y=false)->l.find? p=some x
 | [],i,x,h,_,_=>by simp at h
 | a::l,0,x,h,hp,_=>by
  simp at h;subst h
  rw[List.find?_cons_of_pos hp]
 | a::l,i+1,x,h,hp,hn=>by
  rw[List.find?_cons_of_neg (by rw[hn 0 a (by omega) rfl];simp)]
  exact Zt2 (l:=l) (i:=i) (by simpa using h) hp (λj y hj hy=>hn (j+1) y (by omega) (by simpa using hy))
theorem MkC.kind{s:Sc}(h:MkC s){i:Nat}{name:ByteArray}(hi:(ZeR++Zcx)[i]?=some name):ZhJ s name=(decide (i < 4),true):=by
 have sb:i < 6:=(zA0 hi).1
 have aH:=h.vlen
 have hv:s.vars[i]?=some (s.vars[i]'(by omega)):=zA3 (by omega)
 have hm:=h.vall i _ hv
 generalize s.vars[i]'(by omega)=v at hv hm
 have hn:v.s=name:=Option.some.inj (hm.name.symm.trans hi)
 have hf:(s.vars.find? λv=>eqS v.s name)=some v:=Zt2 hv (by rw[hn];exact ZgL _) (λj y hj hy=>by
  have hy':=(h.vall j y hy).name
  have:=Zxm j (by omega) i sb (by omega)
  rwa [Zix hy',Zix hi]at this)
 unfold ZhJ
 rw[hf]
 rcases hm.kind with⟨h4,hb,_⟩|⟨h4,hb,_⟩
 ·rw[decide_eq_true h4];show(v.b,true)=_;rw[hb]
 ·rw[decide_eq_false (by omega)];show(v.b,true)=_;rw[hb]
theorem MkC.num{s:Sc}(h:MkC s){name:ByteArray}(hn:name∈ZeR):ZhJ s name=(true,true):=by
 obtain⟨i,hi⟩:=List.getElem?_of_mem hn
 have aB:i < 4:=(zA0 hi).1
 have:=h.kind (i:=i) (name:=name) (by rw[zA5 aB];exact hi)
 rwa [decide_eq_true aB]at this
theorem MkC.txt{s:Sc}(h:MkC s){name:ByteArray}(hn:name∈Zcx):ZhJ s name=(false,true):=by
 obtain⟨i,hi⟩:=List.getElem?_of_mem hn
 have aB:i < 2:=(zA0 hi).1
 have:=h.kind (i:=4+i) (name:=name) (by rw[zA4 (show ZeR.length<=4+i by show 4<=_;omega)];show Zcx[4+i - 4]?=_;rw[show 4+i - 4=i by omega];exact hi)
 rwa [decide_eq_false (by omega)]at this
theorem MkC.numbers{s:Sc}(h:MkC s){c:Int}{n:Nat}{e:E}(he:MkE c n e):ZdH s e=true:=by
 unfold ZdH
 rw[Bool.not_eq_true',List.any_eq_false]
 intro x hx
 rw[h.num (he.vars x hx)];simp
theorem MkC.finds{s:Sc}(h:MkC s){i:Nat}{name:ByteArray}(hi:i < s.states.length)(hn:ZtW[i]?=some name):Zsw s name=true:=by
 unfold Zsw
 rw[h.light,Bool.and_true,List.any_eq_true]
 refine⟨s.states[i],List.getElem_mem _,?_⟩
 have:=(h.all i _ (zA3 hi)).name
 rw[hn]at this
 rw[<-Option.some.inj this];exact ZgL _
theorem ZdS{n a b:Int}:Zdl n a b=true↔a<=n/\n<=b:=by
 unfold Zdl
 rw[zA7,decide_eq_true_iff,decide_eq_true_iff]
theorem MkC.whole{s:Sc}(h:MkC s):ZnK s=0:=by
 have h1:Zdl s.n 2 256=true:=ZdS.2 (by have:=h.n;omega)
 have h2:Zdl s.states.length 1 24=true:=ZdS.2 (by have:=h.len;omega)
 have h3:decide (s.vars.length > 12)=false:=decide_eq_false (by have:=h.vlen;omega)
 simp[ZnK,ZcE,h1,h2,h3]
theorem ZaU:ByteArray.empty.size=0:=rfl
theorem MkC.var{s:Sc}(h:MkC s){i:Nat}{v:Va}(hv:s.vars[i]?=some v):ZcS s i v=0:=by
 have hm:=h.vall i v hv
 have sb:i < 6:=by have:=(zA0 hv).1;have:=h.vlen;omega
 have h1:ZfY v.s=true:=by
  have cJ:=zA2 hm.name
  rcases List.mem_append.1 cJ with hx|hx
  ·exact ZqP _ hx
  ·exact ZtZ _ hx
 have h2:Zu3 v=true:=by
  unfold Zu3
  rcases hm.kind with⟨_,hb,ht,hx⟩|⟨_,hb,ht,hx⟩
  ·rw[hb,ht,hx];rfl
  ·rw[hb,hx]
   simp;omega
 have h3:((s.vars.take i).any λx=>eqS x.s v.s)=false:=by
  rw[List.any_eq_false]
  intro x hx
  obtain⟨j,hj⟩:=List.getElem?_of_mem hx
  have kM:j < i:=by have:=(zA0 hj).1;rw[List.length_take]at this;omega
  rw[List.getElem?_take_of_lt kM]at hj
  have:=Zxm j (by omega) i sb (by omega)
  rw[Zix (h.vall j x hj).name,Zix hm.name]at this
  rw[this];simp
 simp[ZcS,ZcE,h1,h2,h3]
theorem MkC.stateOk{s:Sc}(h:MkC s){i:Nat}{x:Sta}(hx:s.states[i]?=some x):ZnL s i x=0:=by
 have hm:=h.all i x hx
 have ww:i < 4:=by have:=(zA0 hx).1;have:=h.len;omega
 have h1:ZfY x.s=true:=Zt0 _ (zA2 hm.name)
 have h2:decide (x.rules.length > 12)=false:=decide_eq_false (by have:=hm.len;omega)
 have h3:((s.states.take i).any λy=>eqS y.s x.s)=false:=by
  rw[List.any_eq_false]
  intro y hy
  obtain⟨j,hj⟩:=List.getElem?_of_mem hy
  have kM:j < i:=by have:=(zA0 hj).1;rw[List.length_take]at this;omega
  rw[List.getElem?_take_of_lt kM]at hj
  have:=ZzC j (by omega) i ww (by omega)
  rw[Zix (h.all j y hj).name,Zix hm.name]at this
  rw[this];simp
 simp[ZnL,ZcE,h1,h2,h3]
theorem ZsC(t:T):0<=t.groups:=by unfold T.groups;split <;> omega
theorem ZqR(r:Ru) : -1<=Zcn r:=by
 have:=ZsC r.t
 unfold Zcn;split
 ·omega
 ·split <;> omega
theorem Zzc{r:Ru}(h:r.bg=false/\r.en=false/\r.t=T0):ZAW r=false:=by
 unfold ZAW;rw[h.1,h.2.1,h.2.2,ZnR.2.1,ZnR.2.2];rfl
theorem MkR.fields{n:Nat}{r:Ru}(h:MkR n r):ZqK r=true:=by
 unfold ZqK
 rcases h.kind with⟨hk,_,_,hs,hn⟩|⟨hx,⟨hk,h1,h2,hn⟩|⟨hk,hs,hn⟩|⟨hk,hs,h1,h2⟩⟩
 ·rw[hk,hs,hn];rfl
 ·rw[Zzc hx,hk,hn]
  have:Zdl r.s.size 1 64=true:=ZdS.2 (by omega)
  simp[this]
 ·rw[Zzc hx,hk,hs,hn];rfl
 ·rw[Zzc hx,hk,hs]
  have:Zdl r.n 1 1000=true:=ZdS.2 (by omega)
  simp[this,ZaU]
theorem MkR.sizeR{n:Nat}{r:Ru}(h:MkR n r):Rx.sizeR r<=26:=by
 unfold Rx.sizeR;split
 ·exact h.size.2.2
 ·omega
theorem MkS.sizes{n i:Nat}{x:Sta}(h:MkS n i x)(k:Nat):ZaF ((x.rules.take k).map Rx.sizeR)<=130:=by
 have:=ZgK Rx.sizeR 26 (x.rules.take k) (λr hr=>(h.all r (List.mem_of_mem_take hr)).sizeR)
 have h1:=h.len
 rw[List.length_take]at this
 omega
theorem MkC.totals{s:Sc}(h:MkC s)(i k:Nat):Rx.totals s i k<=600:=by
 have h0:=h.len
 have h1:=ZgK (λx:Sta=>ZaF (x.rules.map Rx.sizeR)) 130 (s.states.take i) (λx hx=>by
  obtain⟨j,_,hm⟩:=h.state (List.mem_of_mem_take hx)
  have:=hm.sizes x.rules.length
  rwa [List.take_length]at this)
 rw[List.length_take]at h1
 unfold Rx.totals
 cases hx:s.states[i]? with
 | none=>show _+0<=_;omega
 | some x=>
  have hi:=(zA0 hx).1
  have:=(h.all i x hx).sizes (k+1)
  show _+ZaF ((x.rules.take (k+1)).map Rx.sizeR)<=_
  omega
theorem Zmt:∀s∈ZtW,s.size=1:=by decide +kernel
theorem MkC.rule{s:Sc}(h:MkC s){r:Ru}(hr:MkR s.states.length r){t:Int}(ht:t<=600):ZqL s r t=0:=by
 have h1:=hr.fields
 have h2:decide (r.acts.length > 8)=false:=decide_eq_false (by have:=hr.len;omega)
 have h3:(r.k == 1&&(!(r.t.check == 0)||decide (t > 600)))=false:=by
  rw[decide_eq_false (show ¬t > 600 by omega),Bool.or_false]
  rcases hr.kind with⟨_,hc,_⟩|⟨_,⟨hk,_⟩|⟨hk,_⟩|⟨hk,_⟩⟩
  ·rw[hc];simp
  ·rw[hk];rfl
  ·rw[hk];rfl
  ·rw[hk];rfl
 have h4:(if r.go.size=0 then !Zdl r.code 0 255 else !Zsw s r.go||!(r.code == 0))=false:=by
  rcases hr.go with⟨⟨i,hi,hn⟩,hc⟩|⟨hg,hc⟩
  ·rw[if_neg (by rw[Zmt _ (zA2 hn)];omega),h.finds hi hn,hc];rfl
  ·rw[hg,if_pos ZaU,ZdS.2 hc];rfl
 unfold ZqL
 rw[h1,h2,h3,h4];rfl
theorem MkC.action{s:Sc}(h:MkC s){r:Ru}{a:Ac}(ha:MkA (Zcn r) a):Zd9 s r a=0:=by
 have hz:=Zxl
 cases ha with
 | send a n l hl=>
  have h1:decide (l.length > 16)=false:=decide_eq_false (by have:=hl.len;omega)
  have h2:Zdl 1 1 3=true:=by decide
  unfold Zd9
  simp[ZcE,h1,h2,hz,ZaU]
 | set t ht a n l hl=>
  have h1:decide (l.length > 16)=false:=decide_eq_false (by have:=hl.len;omega)
  have h2:Zdl 2 1 3=true:=by decide
  unfold Zd9
  simp[ZcE,h1,h2,hz,h.txt ht]
 | let_ t ht e he=>
  have h2:Zdl 3 1 3=true:=by decide
  have h3:=he.clean (by omega)
  have h4:=h.numbers he
  have h5:decide (e.most > Zcn r)=false:=decide_eq_false (by have:=he.most (ZqR r);omega)
  unfold Zd9
  simp only[ZcE,h2,h3,h4,h5,h.num ht]
  rfl
def Zzd(l:List Pt)(i:Nat):Bool:=match l[i - 1]? with
 | some q=>q.k == 1
 | none=>false
theorem ZqS(s:Sc)(r:Ru)(l:List Pt)(i:Nat)(p:Pt):Zmg s r l i p=ZcE [(307,!ZfZ p||(decide (i > 0)&&(p.k == 1&&Zzd l i))),(308,(p.k == 2&&!(ZhJ s p.s).2)||(p.k == 4&&!ZdH s p.e)),(309,(p.k == 3&&decide (p.g > Zcn r))||(p.k == 4&&decide (p.e.most > Zcn r)))]:=rfl
theorem MkC.part{s:Sc}(h:MkC s){r:Ru}{l:List Pt}(hl:MkT (Zcn r) l){i:Nat}{p:Pt}(hp:l[i]?=some p):Zmg s r l i p=0:=by
 have hz:=Zxl
 have h0:(decide (i > 0)&&(p.k == 1&&Zzd l i))=false:=by
  cases i with
  | zero=>rfl
  | succ i=>
   unfold Zzd
   rw[Nat.add_sub_cancel]
   cases hq:l[i]? with
   | none=>simp
   | some q=>
    have:=hl.ll i q p hq hp
    simp only[Bool.and_eq_false_iff]
    refine .inr ?_
    by_cases h1:p.k=1
    ·refine .inr ?_
     simp
     exact λh2=>this h2 h1
    ·refine .inl ?_
     simpa using h1
 have hm:=hl.all p (zA2 hp)
 rw[ZqS,h0]
 cases hm with
 | lit t ht=>
  have h1:ZfZ ⟨1,t,0,E0⟩=true:=by simp[ZfZ,hz];omega
  rw[h1];rfl
 | var t ht=>
  have h1:ZfZ ⟨2,t,0,E0⟩=true:=by
   have:ZfY t=true:=by
    rcases ht with ht|ht
    ·exact ZqP _ ht
    ·exact ZtZ _ ht
   simp[ZfZ,hz,this]
  have h2:(ZhJ s t).2=true:=by
   rcases ht with ht|ht
   ·rw[h.num ht]
   ·rw[h.txt ht]
  rw[h1]
  simp[ZcE,h2]
 | cap g hg=>
  have h1:ZfZ ⟨3,.empty,g,E0⟩=true:=by simp[ZfZ,hz,ZaU];omega
  have h2:decide (g > Zcn r)=false:=decide_eq_false (by omega)
  rw[h1]
  simp only[ZcE,h2];rfl
 | clc e he=>
  have h1:ZfZ ⟨4,.empty,0,e⟩=true:=by simp[ZfZ,he.clean,ZaU]
  have h2:decide (e.most > Zcn r)=false:=decide_eq_false (by have:=he.most (ZqR r);omega)
  have h3:=h.numbers he
  rw[h1]
  simp only[ZcE,h2,h3];rfl
theorem MkC.at0{s:Sc}(h:MkC s):∀p∈s.places,atS s p=0:=by
 intro p hp
 have hT:∀{r:Ru} {a:Ac},MkA (Zcn r) a->∀{n:Nat} {q:Pt},a.parts[n]?=some q->Zmg s r a.parts n q=0:=λ{r a} ha {n q} hq=>by
  cases ha with
  | send _ _ l hl=>exact h.part hl hq
  | set _ _ _ _ l hl=>exact h.part hl hq
  | let_ _ _ e _=>simp at hq
 rcases ZnM s p hp with⟨i,hi,v,hv⟩|⟨hv,hs|⟨i,hi,x,hx,hr|⟨k,hk,r,hr,ha|⟨j,hj,a,ha,hq|⟨n,hn,q,hq⟩⟩⟩⟩⟩
 ·have e:atS s p=ZcS s i v:=by
   unfold atS
   rw[if_pos (by omega),show p.v.toNat=i by omega,hv]
  rw[e];exact h.var hv
 all_goals have hv':¬p.v ≥ 0:=by omega
 ·unfold atS
  rw[if_neg hv',if_pos hs];exact h.whole
 all_goals
  have hs':¬p.s < 0:=by omega
  have kN:p.s.toNat=i:=by omega
  have hm:=h.all i x hx
 ·have e:atS s p=ZnL s i x:=by
   unfold atS
   rw[if_neg hv',if_neg hs',kN,hx]
   exact if_pos hr
  rw[e];exact h.stateOk hx
 all_goals
  have hr':¬p.r < 0:=by omega
  have ib:p.r.toNat=k:=by omega
  have hR:=hm.all r (zA2 hr)
 ·have e:atS s p=ZqL s r (Rx.totals s i k):=by
   unfold atS
   rw[if_neg hv',if_neg hs',kN,hx]
   show(if p.r < 0 then _ else _)=_
   rw[if_neg hr',ib,hr]
   exact if_pos ha
  rw[e];exact h.rule hR (h.totals i k)
 all_goals
  have ha':¬p.a < 0:=by omega
  have j2:p.a.toNat=j:=by omega
  have hA:=hR.all a (zA2 ‹r.acts[j]?=some a›)
 ·have e:atS s p=Zd9 s r a:=by
   unfold atS
   rw[if_neg hv',if_neg hs',kN,hx]
   show(if p.r < 0 then _ else _)=_
   rw[if_neg hr',ib,hr]
   show(if p.a < 0 then _ else _)=_
   rw[if_neg ha',j2,‹r.acts[j]?=some a›]
   exact if_pos hq
  rw[e];exact h.action hA
 ·have e:atS s p=Zmg s r a.parts n q:=by
   unfold atS
   rw[if_neg hv',if_neg hs',kN,hx]
   show(if p.r < 0 then _ else _)=_
   rw[if_neg hr',ib,hr]
   show(if p.a < 0 then _ else _)=_
   rw[if_neg ha',j2,‹r.acts[j]?=some a›]
   show(if p.p < 0 then _ else _)=_
   rw[if_neg (by omega),show p.p.toNat=n by omega,hq]
  rw[e];exact hT hA hq
theorem MkC.problems{s:Sc}(h:MkC s):s.problems=[]:=by
 unfold Sc.problems
 rw[List.filterMap_eq_nil_iff]
 intro p hp
 rw[if_pos (h.at0 p hp)]
theorem MkC.check{s:Sc}(h:MkC s):s.check=(top,0):=by
 unfold Sc.check
 rw[if_pos h.light,h.problems]
structure F26 (t:T)(l:List T):Prop where
 f:F t l
 n:(t.k=4/\t.nodes.length+szL l<=26)\/t.nodes.length+szL l<=25
theorem F26.done{t:T}(h:F26 t []):t.check=0/\t.nodes.length<=26:=by
 refine⟨h.f.done,?_⟩
 have:szL []=0:=rfl
 rcases h.n with h|h <;> omega
theorem F26.step{t x:T}{l:List T}(h:F26 t (x::l))(a:Option Addr)(c:Nat):F26 (Zcr 4 a c (ZaQ 4 t++ZaQ 4 x)) l:=by
 refine⟨h.f.step a c,?_⟩
 have hn:=h.n
 rw[Zex]at hn
 have ht:=Zjg t
 have hx:=Zjg x
 have e1:szL (ZaQ 4 t)<=if t.k=4 then szL t.subs else t.nodes.length:=by
  unfold ZaQ
  split
  ·exact Nat.le_refl _
  ·rw[if_neg (by omega),Za9];exact Nat.le_refl _
 have e2:szL (ZaQ 4 x)<=x.nodes.length:=by
  unfold ZaQ
  split
  ·omega
  ·rw[if_neg (by omega),Za9];exact Nat.le_refl _
 have e3:szL (ZaQ 4 t++ZaQ 4 x)=szL (ZaQ 4 t)+szL (ZaQ 4 x):=ZaG _ _
 generalize ZaQ 4 t++ZaQ 4 x=L at e3
 have hA:szL L<=t.nodes.length+x.nodes.length/\(t.k=4->szL L+1<=t.nodes.length+x.nodes.length):=by
  refine⟨?_,λh4=>?_⟩
  ·split at e1 <;> omega
  ·rw[if_pos h4]at e1;omega
 match L,hA with
 | [],_=>
  refine .inr ?_
  show T1.nodes.length+_<=_
  have:T1.nodes.length=1:=rfl
  rcases hn with⟨_,hn⟩|hn <;> omega
 | [y],hA=>
  refine .inr ?_
  show y.nodes.length+_<=_
  rw[Za9]at hA
  rcases hn with⟨h4,hn⟩|hn
  ·have:=hA.2 h4;omega
  ·omega
 | y::z::r,hA=>
  refine .inl ⟨rfl,?_⟩
  rw[Zjg]
  show 1+szL (y::z::r)+_<=_
  rcases hn with⟨h4,hn⟩|hn
  ·have:=hA.2 h4;omega
  ·omega
theorem F26.start{i u g}{t:T}{l:List T}(h:J i (t::l) u g)(hi:i<=25):F26 t l:=⟨F.start h hi,.inr (by have:=h.sz;rw[Zex]at this;omega)⟩
theorem F26.leaf{t:T}(h1:F t [])(h2:t.nodes.length=1):F26 t []:=⟨h1,.inr (by have:szL []=0:=rfl;omega)⟩
structure PE (ts:List E)(i:Nat):Prop where
 all:∀x∈Zak ts,okN 9 x
 sz:(Zak ts).length<=i
theorem Zca(t:E):Zak [t]=t.nodes:=by simp[Zak]
theorem PE.zero:PE [] 0:=⟨by simp[Zak],by simp[Zak]⟩
theorem PE.skip{ts i}(h:PE ts i):PE ts (i+1):=⟨h.all,by have:=h.sz;omega⟩
theorem PE.push{ts i}{t:E}(h:PE ts i)(ht:MkE 9 1 t):PE (ts++[t]) (i+1):=by
 refine⟨λx hx=>?_,?_⟩
 ·rw[ZaY,Zca]at hx
  rcases List.mem_append.1 hx with hx|hx
  ·exact h.all x hx
  ·exact ht.all x hx
 ·rw[ZaY,Zca,zA1]
  have:=h.sz;have:=ht.len;omega
theorem PE.neg{r:List E}{x:E}{i:Nat}(h:PE (r++[x]) i)(hk:x.k≠8)(a:Option Addr)(d:Nat):PE (r++[ZtX a d x]) (i+1):=by
 have h1:=h.all;have h2:=h.sz
 rw[ZaY,Zca]at h1 h2
 rw[zA1]at h2
 have hm:MkE 9 (x.nodes.length+1) (ZtX a d x):=Zxi ⟨λz hz=>h1 z (List.mem_append_right _ hz),Nat.le_refl _⟩ hk
 refine⟨λz hz=>?_,?_⟩
 ·rw[ZaY,Zca]at hz
  rcases List.mem_append.1 hz with hz|hz
  ·exact h1 z (List.mem_append_left _ hz)
  ·exact hm.all z hz
 ·rw[ZaY,Zca,zA1]
  have:=hm.len;omega
theorem PE.op{r:List E}{x y:E}{i:Nat}(h:PE (r++[x,y]) i){k:Int}(hk:2<=k/\k<=7)(a:Option Addr)(d:Nat):PE (r++[opE k a d x y]) (i+1):=by
 have h1:=h.all;have h2:=h.sz
 rw[ZaY,show Zak [x,y]=x.nodes++y.nodes by simp[Zak]]at h1 h2
 rw[zA1,zA1]at h2
 have hm:MkE 9 (x.nodes.length+y.nodes.length+1) (opE k a d x y):=Zxj hk ⟨λz hz=>h1 z (List.mem_append_right _ (List.mem_append_left _ hz)),Nat.le_refl _⟩ ⟨λz hz=>h1 z (List.mem_append_right _ (List.mem_append_right _ hz)),Nat.le_refl _⟩
 refine⟨λz hz=>?_,?_⟩
 ·rw[ZaY,Zca]at hz
  rcases List.mem_append.1 hz with hz|hz
  ·exact h1 z (List.mem_append_left _ hz)
  ·exact hm.all z hz
 ·rw[ZaY,Zca,zA1]
  have:=hm.len;omega
theorem ZkJ(t:E):1<=t.nodes.length:=by rw[Zbg,List.length_cons];omega
theorem Zeb(l:List E):l.length<=(Zak l).length:=by
 induction l with
 | nil=>simp
 | cons t l ih=>
  have:=ZkJ t
  simp only[Zak,List.length_cons,zA1];omega
structure QE (t:E)(l:List E)(b:Nat):Prop where
 all:∀x∈t.nodes,okN 9 x
 alls:∀x∈Zak l,okN 9 x
 sz:t.nodes.length+(Zak l).length+l.length<=b
theorem QE.start{t:E}{l:List E}{i:Nat}(h:PE (t::l) i):QE t l (2*i):=by
 have h1:=h.all;have h2:=h.sz
 simp only[Zak,zA1]at h1 h2
 have:=Zeb l
 exact⟨λx hx=>h1 x (List.mem_append_left _ hx),λx hx=>h1 x (List.mem_append_right _ hx),by omega⟩
theorem QE.step{t x:E}{l:List E}{b:Nat}(h:QE t (x::l) b)(a:Option Addr)(d:Nat):QE (opE 2 a d t x) l b:=by
 have h1:=h.alls;have h2:=h.sz
 simp only[Zak,zA1,List.length_cons]at h1 h2
 have hm:MkE 9 (t.nodes.length+x.nodes.length+1) (opE 2 a d t x):=Zxj (by omega) ⟨h.all,Nat.le_refl _⟩ ⟨λz hz=>h1 z (List.mem_append_left _ hz),Nat.le_refl _⟩
 exact⟨hm.all,λz hz=>h1 z (List.mem_append_right _ hz),by have:=hm.len;omega⟩
theorem QE.done{t:E}{b:Nat}(h:QE t [] b):MkE 9 b t:=⟨h.all,by have:=h.sz;omega⟩
structure BoE (c:Int)(e u:E):Prop where
 all:∀x∈u.nodes,okN c x
 len:u.nodes.length<=e.nodes.length
 k8:u.k=8↔e.k=8
theorem ZqT{c:Int}:∀{l r:List E},l.length=r.length->(∀(i:Nat)(x y:E),l[i]?=some x->r[i]?=some y->BoE c x y)->(∀z∈Zak r,okN c z)/\(Zak r).length<=(Zak l).length/\Zsv r=Zsv l
 | [],[],_,_=>⟨by simp[Zak],Nat.le_refl _,rfl⟩
 | [],_::_,h,_=>by simp at h
 | _::_,[],h,_=>by simp at h
 | x::l,y::r,h,hb=>by
  have h0:=hb 0 x y rfl rfl
  obtain⟨h1,h2,_⟩:=ZqT (l:=l) (r:=r) (by simpa using h) (λi x' y' hx hy=>hb (i+1) x' y' (by simpa using hx) (by simpa using hy))
  refine⟨λz hz=>?_,?_,?_⟩
  ·simp only[Zak]at hz
   rcases List.mem_append.1 hz with hz|hz
   ·exact h0.all z hz
   ·exact h1 z hz
  ·simp only[Zak,zA1];have:=h0.len;omega
  ·show(y.k == 8)=(x.k == 8)
   rw[Bool.eq_iff_iff];simpa using h0.k8
theorem Zu6{c:Int}{k:Int}{x:Nat}{s:ByteArray}{g:Int}{a a':Option Addr}{d d':Nat}{l r:List E}(h:okN 9 (.node k x s g a d l))(hk:¬(k=10/\g > c))(hl:l.length=r.length)(hb:∀(i:Nat)(x y:E),l[i]?=some x->r[i]?=some y->BoE c x y):BoE c (.node k x s g a d l) (.node k x s g a' d' r):=by
 obtain⟨h1,h2,h3⟩:=ZqT hl hb
 refine⟨λz hz=>?_,?_,Iff.rfl⟩
 ·simp only[E.nodes,List.mem_cons]at hz
  rcases hz with rfl|hz
  ·refine⟨?_,h.2.1,λe=>?_⟩
   ·have e1:=h.1
    simp only[E.right,E.k,E.s,E.x,E.g,E.subs]at e1 ⊢
    rw[<-hl,h3];exact e1
   ·have e:k=10:=e
    show g<=c
    omega
  ·exact h1 z hz
 ·simp only[E.nodes,List.length_cons];omega
theorem Zxn{c:Int}{e:E}{s:ByteArray}(hs:s∈ZeR)(hk:e.k=10):BoE c e (ZsA s):=by
 have h:=Zt1 (c:=c) hs
 refine⟨h.all,Nat.le_trans h.len (ZkJ e),?_⟩
 rw[hk]
 show(9:Int)=8↔_
 omega
theorem BoE.toMk{c:Int}{n:Nat}{e u:E}(h:BoE c e u)(he:e.nodes.length<=n):MkE c n u:=⟨h.all,Nat.le_trans h.len he⟩
end Go.Rx
namespace Go.Rx
open Go Go.Eng Go.RowKit
set_option maxRecDepth 100000
mutual
def T.er:T->T
 | .node k s0 s1 s2 s3 mn mx _ _ l=>.node k s0 s1 s2 s3 mn mx none 0 (erL l)
def erL:List T->List T
 | []=>[]
 | t::l=>t.er::erL l
end
theorem ZnS:∀l:List T,erL l=l.map T.er
 | []=>rfl
 | t::l=>by simp only[erL,List.map_cons,ZnS l]
@[simp] theorem ZyO (t:T):t.er.k=t.k:=by cases t;rfl
@[simp] theorem ZBV (t:T):t.er.s0=t.s0:=by cases t;rfl
@[simp] theorem ZBW (t:T):t.er.s1=t.s1:=by cases t;rfl
@[simp] theorem ZBX (t:T):t.er.s2=t.s2:=by cases t;rfl
@[simp] theorem ZBY (t:T):t.er.s3=t.s3:=by cases t;rfl
@[simp] theorem ZBZ (t:T):t.er.mn=t.mn:=by cases t;rfl
@[simp] theorem ZB0 (t:T):t.er.mx=t.mx:=by cases t;rfl
@[simp] theorem Zxo (t:T):t.er.subs=t.subs.map T.er:=by cases t;simp only[T.er,T.subs,ZnS]
mutual
theorem Zjk:∀t:T,t.er.nodes=t.nodes.map T.er
 | .node k s0 s1 s2 s3 mn mx a c l=>by
  simp only[T.er,T.nodes,List.map_cons]
  rw[ZnT l]
theorem ZnT:∀l:List T,ZaI (erL l)=(ZaI l).map T.er
 | []=>rfl
 | t::l=>by simp only[erL,ZaI,List.map_append,Zjk t,ZnT l]
end
theorem Zhz(t:T):t.er.light=t.light:=by unfold T.light;rw[Zjk,List.length_map]
theorem Zt3(t:T):t.er.size=t.size:=by unfold T.size;rw[Zhz,Zjk,List.length_map]
theorem ZsD(t:T):t.er.groups=t.groups:=by
 unfold T.groups;rw[Zhz,Zjk,List.countP_map]
 have:((λx:T=>x.k == 6)∘T.er)=λx:T=>x.k == 6:=by funext x;simp
 rw[this]
def T.caps(t:T):Prop:=∀x∈t.nodes,x.subs.length<=x.c
theorem ZsE{k s0 s1 s2 s3 mn mx:Int}{a:Option Addr}{c:Nat}{l:List T}(h:l.length<=c)(hl:∀x∈l,x.caps):(T.node k s0 s1 s2 s3 mn mx a c l).caps:=by
 intro y hy
 rw[Zcv]at hy
 rcases List.mem_cons.1 hy with rfl|hy
 ·exact h
 ·obtain⟨x,hx,hy⟩:∃x∈l,y∈x.nodes:=by
   have:∀l:List T,y∈ZaI l->∃x∈l,y∈x.nodes:=λl=>by
    induction l with
    | nil=>intro h;simp[ZaI]at h
    | cons x l ih=>
     intro h
     simp only[ZaI,List.mem_append]at h
     rcases h with h|h
     ·exact⟨x,by simp,h⟩
     ·obtain⟨z,hz,h⟩:=ih h
      exact⟨z,by simp[hz],h⟩
   exact this l hy
  exact hl x hx y hy
theorem Zxp{k s0 s1 s2 s3 mn mx:Int}{a a':Option Addr}{c c':Nat}{l l':List T}(h:l.map T.er=l'.map T.er):(T.node k s0 s1 s2 s3 mn mx a c l).er=(T.node k s0 s1 s2 s3 mn mx a' c' l').er:=by
 simp only[T.er,ZnS,h]
end Go.Rx
namespace Go.Rx
open Go Go.Eng Go.RowKit
def Old(m:Mem)(b:Nat):Prop:=¬m.free b
noncomputable def nw(m m':Mem):Mem:=⟨(m'.off (Old m)).c,λ_=>none⟩
theorem ZgM(m m':Mem):(nw m m').le m':=⟨(Mem.off_le m' (Old m)).c,λ_ _ h=>by cases h⟩
theorem Zbo{m m':Mem}(h:m.le m'){b:Nat}(hf:m'.free b):m.free b:=λo=>by
 cases he:m b o with
 | none=>rfl
 | some v=>have:=h _ _ _ he;rw[hf o]at this;cases this
theorem Zfa{m m':Mem}(h:m.le m'){b:Nat}(hf:m'.k b=none):m.k b=none:=by
 cases he:m.k b with
 | none=>rfl
 | some v=>have:=h.k _ _ he;rw[hf]at this;cases this
theorem ZpG{m m':Mem}{b:Nat}(h:¬m.free b):(nw m m').free b:=λo=>Mem.off_free (m:=m') (Y:=Old m) h o
theorem ZwA{m m':Mem}{b:Nat}(h:m.free b)(o:Nat):nw m m' b o=m' b o:=Mem.off_at (m:=m') (Y:=Old m) (λk=>k h) o
theorem Zec{m0 m m' m'':Mem}(h1:m0.le m)(h2:m'.le m''):(nw m m').le (nw m0 m''):=⟨λb o v hv=>by
 have hf:m.free b:=Classical.byContradiction λhn=>by rw[ZpG hn]at hv;cases hv
 rw[ZwA hf]at hv;rw[ZwA (Zbo h1 hf)];exact h2 _ _ _ hv,λb e he=>by cases he⟩
theorem Zmu{m m':Mem}{a:Option Addr}{cs:List Value}(h:rowRd m' a cs)(hf:cs=[]\/∀b o,a=some ⟨b,o,none⟩->m.free b):rowRd (nw m m') a cs:=by
 rcases hf with hf|hf
 ·exact .inl hf
 rcases h with h|⟨b,o,ha,h⟩
 ·exact .inl h
 ·exact .inr ⟨b,o,ha,λj v hj=>by rw[ZwA (hf b o ha)];exact h j v hj⟩
theorem ZhO{m m':Mem}{Y:Nat->Prop}(h:m.le m')(hf:∀b,Y b->m.free b/\m.k b=none):m.le (m'.off Y):=⟨λb o v hv=>by
 rw[Mem.off_at (λhy=>by rw[(hf b hy).1 o]at hv;cases hv)];exact h _ _ _ hv,λb e he=>by
 rw[Mem.off_k (λhy=>by rw[(hf b hy).2]at he;cases he)];exact h.k _ _ he⟩
structure Each {α β:Type}(cs:β->List Value)(Q:α->β->Mem->Prop)(m m':Mem)(L:List α)(a:Option Addr)(c:Nat)(L':List β)(μ:Nat->Mem):Prop where
 len:L'.length=L.length
 le:m.le m'
 row:rowRd m' a (L'.map cs).flatten
 q:∀i x y,L[i]?=some x->L'[i]?=some y->Q x y (μ i)
 sub:∀i,i < L.length->(μ i).le (nw m m')
 ap:∀i j,i < j->j < L.length->∀b,(μ i).free b\/(μ j).free b
 blk:(L=[]/\a=none/\c=0)\/(L≠[]/\∃b,a=some ⟨b,0,none⟩/\m.free b/\m.k b=none/\∀i,i < L.length->(μ i).free b/\(μ i).k b=none)
 cap:L'.length<=c
theorem Each.nil{α β:Type}{cs:β->List Value}{Q:α->β->Mem->Prop}(m:Mem):Each cs Q m m ([]:List α) none 0 [] λ_=>m:=
 ⟨rfl,Mem.le_refl m,.inl rfl,by simp,by simp,by simp,.inl ⟨rfl,rfl,rfl⟩,by simp⟩
theorem Each.step{α β:Type}{cs:β->List Value}{Q:α->β->Mem->Prop}{m m':Mem}{L:List α}{k:Nat}{a:Option Addr}{c:Nat}{L':List β}{μ:Nat->Mem}{n:Nat}(hn:∀y,(cs y).length=n)(h0:0 < n)(h:Each cs Q m m' (L.take k) a c L' μ){x:α}(hx:L[k]?=some x)
  {m3:Mem} {y:β} (h3:m'.le m3) (hq:Q x y (nw m' m3)) {b3:Nat} (fY:m3.free b3) {a':Option Addr} {c':Nat} {m4:Mem} (h4:(m3.add b3 (cs y)).le m4) (aC:rowRd m4 a' ((L'++[y]).map cs).flatten) (ht:TokFact (m3.add b3 (cs y)) a a' (L'.length+1) c'):
  Each cs Q m m4 (L.take (k+1)) a' c' (L'++[y]) (λi=>if i=k then nw m' m3 else μ i):=by
 have hk:k < L.length:=(zA0 hx).1
 have e:L.take (k+1)=L.take k++[x]:=by rw[List.take_add_one,hx];rfl
 have lk:(L.take k).length=k:=by rw[List.length_take];omega
 have lk':L'.length=k:=h.len.trans lk
 have add3:m3.le (m3.add b3 (cs y)):=Mem.le_add fY _
 have ul:m3.le m4:=mLt add3 h4
 have ic:m'.le m4:=mLt h3 ul
 have qr:m.le (m3.add b3 (cs y)):=mLt h.le (mLt h3 add3)
 have cI:((L'++[y]).map cs).flatten≠[]:=by
  intro hz
  have:=congrArg List.length hz
  rw[Za3 hn,zA1,List.length_cons]at this
  have h5:0 < (L'.length+(([]:List β).length+1))*n:=Nat.mul_pos (by omega) h0
  rw[this]at h5;exact absurd h5 (by simp)
 have ha':∃b,a'=some ⟨b,0,none⟩/\m.free b/\m.k b=none/\(∀i,i < k->(μ i).free b/\(μ i).k b=none)/\((nw m' m3).free b/\(nw m' m3).k b=none):=by
  rcases ht.2 with h1|⟨b,o,h1,h2⟩
  ·rcases aC with h2|⟨b,o,h2,_⟩
   ·exact absurd h2 cI
   ·rw[h1]at h2;cases h2
  ·rcases h2 with h2|⟨h2,h5,h6⟩
   ·rcases h.blk with⟨_,h7,_⟩|⟨h6,b',h7,h8,h8',h9⟩
    ·rw[h7,h1]at h2;cases h2
    ·rw[h7,h1]at h2
     simp only[Option.some.injEq,Addr.mk.injEq,and_true]at h2
     obtain⟨rfl,rfl⟩:=h2
     have eR:¬m'.free b':=λhf=>by
      rcases h.row with fT|⟨b2,o2,fT,ln⟩
      ·have:=congrArg List.length fT
       rw[Za3 hn,lk']at this
       have lw:k≠0:=λe=>h6 (by rw[e];rfl)
       have qs:0 < k*n:=Nat.mul_pos (by omega) h0
       simp at this;omega
      ·rw[h7]at fT;cases fT
       have lw:k≠0:=λe=>h6 (by rw[e];rfl)
       have qs:0 < k*n:=Nat.mul_pos (by omega) h0
       have aB:0 < (L'.map cs).flatten.length:=by rw[Za3 hn,lk'];exact qs
       have:=ln 0 _ (zA3 aB)
       rw[hf]at this;cases this
     refine⟨b',h1,h8,h8',λi hi=>h9 i (by omega),ZpG eR,rfl⟩
   ·subst h2
    have hs:∀i,i < k->(μ i).le (m3.add b3 (cs y)):=λi hi=>mLt (h.sub i (by omega)) (mLt (ZgM _ _) (mLt h3 add3))
    have j7:(nw m' m3).le (m3.add b3 (cs y)):=mLt (ZgM _ _) add3
    exact⟨b,h1,Zbo qr h5,Zfa qr h6,λi hi=>⟨Zbo (hs i hi) h5,Zfa (hs i hi) h6⟩,Zbo j7 h5,Zfa j7 h6⟩
 obtain⟨b,hb,dt,eY,eZ,nO⟩:=ha'
 refine⟨by rw[zA1,List.length_take,lk'];simp;omega,mLt h.le ic,aC,λi u v hu hv=>?_,λi hi=>?_,λi j qt hj b'=>?_,.inr ⟨by rw[e];simp,b,hb,dt,eY,λi hi=>?_⟩,by have:=ht.1;rw[zA1];exact this⟩
 ·rw[e]at hu
  by_cases kO:i=k
  ·subst kO
   rw[zA4 (by omega),lk,Nat.sub_self]at hu
   rw[zA4 (by omega),lk',Nat.sub_self]at hv
   cases hu;cases hv
   rw[if_pos rfl];exact hq
  ·have hi:i < k:=by
    have:=(zA0 hu).1
    rw[zA1,lk]at this;simp at this;omega
   rw[zA5 (by omega)]at hu hv
   rw[if_neg kO];exact h.q i u v hu hv
 ·by_cases kO:i=k
  ·subst kO;rw[if_pos rfl];exact Zec h.le ul
  ·rw[if_neg kO]
   rw[List.length_take]at hi
   exact mLt (h.sub i (by omega)) (Zec (Mem.le_refl m) ic)
 ·rw[List.length_take]at hj
  by_cases um:j=k
  ·subst um
   rw[if_neg (by omega),if_pos rfl]
   by_cases hf:(μ i).free b'
   ·exact .inl hf
   ·exact .inr (ZpG λnP=>hf (Zbo (mLt (h.sub i (by omega)) (ZgM _ _)) nP))
  ·rw[if_neg (by omega),if_neg um];exact h.ap i j qt (by omega) b'
 ·by_cases kO:i=k
  ·subst kO;rw[if_pos rfl];exact nO
  ·rw[if_neg kO];rw[List.length_take]at hi;exact eZ i (by omega)
section
variable {α β:Type} {cs:β->List Value} {Q:α->β->Mem->Prop} {m m':Mem} {L:List α} {a:Option Addr} {c:Nat} {L':List β} {μ:Nat->Mem} (h:Each cs Q m m' L a c L' μ)
include h
theorem Each.rows:rowRd (nw m m') a (L'.map cs).flatten:=Zmu h.row (by
 rcases h.blk with⟨h1,_⟩|⟨_,b,hb,hf,_⟩
 ·left
  have:L'=[]:=List.eq_nil_of_length_eq_zero (by rw[h.len,h1];rfl)
  rw[this];rfl
 ·exact .inr λb' o e=>by rw[hb]at e;cases e;exact hf)
theorem Each.at{y:β}(hy:y∈L'):∃i x,L[i]?=some x/\L'[i]?=some y/\Q x y (μ i)/\(μ i).le (nw m m'):=by
 obtain⟨i,hi⟩:=List.getElem?_of_mem hy
 have aB:i < L.length:=by rw[<-h.len];exact(zA0 hi).1
 exact⟨i,L[i],zA3 aB,hi,h.q i _ _ (zA3 aB) hi,h.sub i aB⟩
theorem Each.same{γ:Type}{f:α->γ}{g:β->γ}(hs:∀x y μ,Q x y μ->g y=f x):L'.map g=L.map f:=by
 refine List.ext_getElem (by simp[h.len]) λi h1 h2=>?_
 simp only[List.length_map]at h1 h2
 rw[List.getElem_map,List.getElem_map]
 exact hs _ _ _ (h.q i _ _ (zA3 h2) (zA3 h1))
end
def ZqU{α β:Type}(cs:β->List Value)(Q:α->β->Mem->Prop)(m:Mem)(L:List α):Value->Mem->List (List Value)->Prop:=λv m' _=>∃a c L' μ,v=.slice a L'.length c/\Each cs Q m m' L a c L' μ
theorem Zfb{α β:Type}{cs:β->List Value}{Q:α->β->Mem->Prop}{m:Mem}{L:List α}:∀(v:Value)(m':Mem) (css:List (List Value)),ZqU cs Q m L v m' css->Shape.fits .slice v=true:=λv _ _ ⟨_,_,_,_,h,_⟩=>by rw[h];rfl
mutual
def E.er:E->E
 | .node k x s g _ _ l=>.node k x s g none 0 (ZnU l)
def ZnU:List E->List E
 | []=>[]
 | t::l=>t.er::ZnU l
end
theorem Zjl:∀l:List E,ZnU l=l.map E.er
 | []=>rfl
 | t::l=>by simp only[ZnU,List.map_cons,Zjl l]
@[simp] theorem ZB1 (t:E):t.er.k=t.k:=by cases t;rfl
@[simp] theorem ZB2 (t:E):t.er.x=t.x:=by cases t;rfl
@[simp] theorem ZB3 (t:E):t.er.s=t.s:=by cases t;rfl
@[simp] theorem ZB4 (t:E):t.er.g=t.g:=by cases t;rfl
@[simp] theorem Zze (t:E):t.er.subs=t.subs.map E.er:=by cases t;simp only[E.er,E.subs,Zjl]
mutual
theorem Zfc:∀t:E,t.er.nodes=t.nodes.map E.er
 | .node k x s g a c l=>by
  simp only[E.er,E.nodes,List.map_cons]
  rw[ZkK l]
theorem ZkK:∀l:List E,Zak (ZnU l)=(Zak l).map E.er
 | []=>rfl
 | t::l=>by simp only[ZnU,Zak,List.map_append,Zfc t,ZkK l]
end
theorem Zfd(t:E):t.er.light=t.light:=by unfold E.light;rw[Zfc,List.length_map]
theorem Zu7(t:E):t.er.size=t.size:=by unfold E.size;rw[Zfd,Zfc,List.length_map]
theorem ZAC(t:E):nE t.er=nE t:=by unfold nE;rw[Zfd,Zu7]
def Pt.er(p:Pt):Pt:=⟨p.k,p.s,p.g,p.e.er⟩
def Ac.er(a:Ac):Ac:=⟨a.k,a.s,none,0,a.parts.map Pt.er,a.e.er⟩
def Ru.er(r:Ru):Ru:=⟨r.k,r.bg,r.en,r.t.er,r.s,r.n,none,0,r.acts.map Ac.er,r.go,r.code⟩
def Sta.er(x:Sta):Sta:=⟨x.s,none,0,x.rules.map Ru.er⟩
def Sc.er(s:Sc):Sc:=⟨s.n,none,0,s.vars,none,0,s.states.map Sta.er⟩
theorem ZcU{α:Type}(f:α->Int)(g:α->α)(h:∀x,f (g x)=f x)(l:List α):ZaF ((l.map g).map f)=ZaF (l.map f):=by
 rw[List.map_map];congr 1;exact List.map_congr_left λx _=>h x
theorem ZBd(a:Ac):wA a.er=wA a:=by
 unfold wA
 show 1+nE a.e.er+((a.parts.map Pt.er).length:Int)+ZaF ((a.parts.map Pt.er).map λp=>nE p.e)=_
 rw[ZAC,List.length_map,ZcU (λp:Pt=>nE p.e) Pt.er (λp=>ZAC p.e)]
theorem ZBe(r:Ru):wR r.er=wR r:=by
 unfold wR
 show 1+Zgg r.t.er.size 20000+(if r.t.er.light then 0 else 20001)+ZaF ((r.acts.map Ac.er).map wA)=_
 rw[Zt3,Zhz,ZcU wA Ac.er ZBd]
theorem ZBf(x:Sta):wS x.er=wS x:=ZcU wR Ru.er ZBe x.rules
theorem ZsF(s:Sc):s.er.weight=s.weight:=by
 unfold Sc.weight
 show(s.vars.length:Int)+((s.states.map Sta.er).length:Int)+ZaF ((s.states.map Sta.er).map wS)=_
 rw[List.length_map,ZcU wS Sta.er ZBf]
theorem ZgN(s:Sc):s.er.light=s.light:=by unfold Sc.light;rw[ZsF]
theorem Zjm{s s':Sc}(h:s'.er=s.er):s'.light=s.light:=by rw[<-ZgN s',h,ZgN]
theorem ZnV{α:Type}(f:α->Int)(hf:∀x,0<=f x){l:List α}{x:α}(hx:x∈l):f x<=ZaF (l.map f):=by
 induction l with
 | nil=>cases hx
 | cons y l ih=>
  have h1:=Zc3 f hf l
  have h2:=hf y
  simp only[List.map_cons,ZaF]
  rcases List.mem_cons.1 hx with rfl|hx
  ·omega
  ·have:=ih hx;omega
def LtA(a:Ac):Prop:=a.e.light=true/\∀p∈a.parts,p.e.light=true
def LtR(r:Ru):Prop:=r.t.light=true/\∀a∈r.acts,LtA a
theorem ZAD{e:E}(h:nE e<=20000):e.light=true:=by
 cases hl:e.light with
 | true=>rfl
 | false=>unfold nE at h;rw[hl]at h;simp at h
theorem ZzD{a:Ac}(h:wA a<=20000):LtA a:=by
 unfold wA at h
 have h1:=ZfL a.e
 have h2:=Zc3 (λp:Pt=>nE p.e) (λp=>(ZfL p.e).1) a.parts
 exact⟨ZAD (by omega),λp hp=>ZAD (by have:=ZnV (λp:Pt=>nE p.e) (λp=>(ZfL p.e).1) hp;omega)⟩
theorem ZzE{r:Ru}(h:wR r<=20000):LtR r:=by
 unfold wR at h
 have h1:=(ZfM r.t).1
 have h2:=Zc3 wA ZqJ r.acts
 have h3:0<=Zgg r.t.size 20000:=by unfold Zgg;split <;> omega
 refine⟨?_,λa ha=>ZzD (by have:=ZnV wA ZqJ ha;split at h <;> omega)⟩
 cases hl:r.t.light with
 | true=>rfl
 | false=>rw[hl]at h;simp at h;omega
theorem Zu8{s:Sc}(h:s.light=true):∀x∈s.states,∀r∈x.rules,LtR r:=λx hx r hr=>ZzE (by
 have h1:s.weight<=20000:=zA6 h
 unfold Sc.weight at h1
 have h2:=ZnV wS ZAA hx
 have h3:wR r<=wS x:=ZnV wR Zza hr
 omega)
def QP(p q:Pt)(μ:Mem):Prop:=q.er=p.er/\RepP μ q
def QA(p q:Ac)(μ:Mem):Prop:=q.er=p.er/\RepA μ q
def QR(p q:Ru)(μ:Mem):Prop:=q.er=p.er/\RepR μ q
def ZB5(m μ:Mem)(y:Sta):Prop:=y.rules.length<=y.rc/\(y.rules=[]\/∃b,y.ra=some ⟨b,0,none⟩/\m.free b/\m.k b=none/\∀r∈y.rules,RepR (μ.off λk=>k=b) r)
def QS(m:Mem)(x y:Sta)(μ:Mem):Prop:=y.er=x.er/\RepS μ y/\ZB5 m μ y
structure SepC (m m':Mem)(s:Sc)(b:Nat)(μ:Nat->Mem):Prop where
 sa:s.sa=some ⟨b,0,none⟩
 free:m.free b/\m.k b=none
 all:∀i x,s.states[i]?=some x->RepS (μ i) x/\ZB5 m (μ i) x/\(μ i).le (nw m m')/\(μ i).free b
 ap:∀i j,i < j->j < s.states.length->∀b',(μ i).free b'\/(μ j).free b'
 v0:∀b' o,s.va=some ⟨b',o,none⟩->o=0/\m.k b'=none
 va:∃μv:Mem,rowRd μv s.va (s.vars.map Va.cs).flatten/\μv.le (nw m m')/\μv.free b/\∀i,i < s.states.length->∀b',μv.free b'\/(μ i).free b'
theorem ZsG{m0 m m' M:Mem}{x:Ac}{a:Option Addr}{c:Nat}{L':List Pt}{μ:Nat->Mem}{e:E}(hx:RepA m0 x)(h:Each Pt.cs QP m m' x.parts a c L' μ)(hM:(nw m m').le M)(he:RepE M e):RepA M ⟨x.k,x.s,a,c,L',e⟩:=
 ⟨hx.k,hx.s,by rw[h.len];exact hx.n,h.rows.mono hM,λp hp=>by
  obtain⟨i,y,_,_,hq,hs⟩:=h.at hp
  exact hq.2.mono (mLt hs hM),he⟩
theorem ZsH{m0 m m' M:Mem}{x:Ru}{a:Option Addr}{c:Nat}{L':List Ac}{μ:Nat->Mem}{t:T}(hx:RepR m0 x)(h:Each Ac.cs QA m m' x.acts a c L' μ)(hM:(nw m m').le M)(ht:Rep M t):RepR M ⟨x.k,x.bg,x.en,t,x.s,x.n,a,c,L',x.go,x.code⟩:=
 ⟨hx.k,ht,hx.s,hx.n,by rw[h.len];exact hx.len,h.rows.mono hM,λp hp=>by
  obtain⟨i,y,_,_,hq,hs⟩:=h.at hp
  exact hq.2.mono (mLt hs hM),hx.go,hx.code⟩
theorem ZkL{m m':Mem}{Y:Nat->Prop}(h:m.le m'):(m.off Y).le (m'.off Y):=⟨λb o v hv=>by
 by_cases hy:Y b
 ·rw[Mem.off_free hy]at hv;cases hv
 ·rw[Mem.off_at hy]at hv ⊢;exact h _ _ _ hv,λb e he=>by
 by_cases hy:Y b
 ·rw[Mem.off_kn hy]at he;cases he
 ·rw[Mem.off_k hy]at he ⊢;exact h.k _ _ he⟩
theorem QS.mono{m0 μ μ':Mem}{x y:Sta}(h:QS m0 x y μ)(hm:μ.le μ'):QS m0 x y μ':=
 ⟨h.1,h.2.1.mono hm,h.2.2.1,h.2.2.2.imp_right λ⟨b,h1,h2,h3,h4⟩=>⟨b,h1,h2,h3,λr hr=>(h4 r hr).mono (ZkL hm)⟩⟩
theorem Zxq{m0 m m':Mem}{x:Sta}{a:Option Addr}{c:Nat}{L':List Ru}{μ:Nat->Mem}(h0:m0.le m)(hx:RepS m x)(h:Each Ru.cs QR m m' x.rules a c L' μ):QS m0 x ⟨x.s,a,c,L'⟩ (nw m m'):=by
 refine⟨?_,⟨hx.s,by rw[h.len];exact hx.len,h.rows,λp hp=>by
  obtain⟨i,y,_,_,hq,hs⟩:=h.at hp
  exact hq.2.mono hs⟩,h.cap,?_⟩
 ·simp only[Sta.er,Sta.mk.injEq,true_and]
  exact h.same λx y μ hq=>hq.1
 ·rcases h.blk with⟨h1,_⟩|⟨_,b,hb,hf,hk,hμ⟩
  ·exact .inl (List.eq_nil_of_length_eq_zero (by rw[h.len,h1];rfl))
  ·refine .inr ⟨b,hb,Zbo h0 hf,Zfa h0 hk,λr hr=>?_⟩
   obtain⟨i,y,hi,_,hq,hs⟩:=h.at hr
   exact hq.2.mono (ZhO hs λb' e=>by rw[e];exact hμ i (zA0 hi).1)
def x0E(s:Nat×Nat×Nat):Nat:=if s.2.2=0 then(FloatKind.f64.format.div (FloatKind.f64.nearest (IntKind.i8.wrap (s.2.1:Nat))) 4616189618054758400).getD 0 else s.2.2
def x1E(s:Nat×Nat×Nat):Nat:=if Op.floatEq .f64 (x0E s) (x0E s)=true then x0E s else Zww
def stE(ts:List E)(s:Nat×Nat×Nat):List E:=
 if s.1 % 12 < 2 then ts++[Zu5 (x1E s)]
 else if s.1 % 12 < 4 then ts++[ZsA (ZeR.getD (s.2.1 % 4) .empty)]
 else if s.1 % 12=4 then ts++[ZyN ((s.2.1 % 10:Nat):Int)]
 else if s.1 % 12=5 then(match ts.getLast? with
  | none=>ts
  | some x=>if x.k=8 then ts else ts.dropLast++[ZtX none 0 x])
 else match ts.dropLast.getLast?,ts.getLast? with
  | some x,some y=>ts.dropLast.dropLast++[opE ((s.1 % 12 - 4:Nat):Int) none 0 x y]
  | _,_=>ts
def foE:List E->E
 | []=>Zu5 4607182418800017408
 | t::l=>l.foldl (λt x=>opE 2 none 0 t x) t
def eF(l:List (Nat×Nat×Nat)):E:=foE ((l.take 60).foldl stE [])
def TrE(l:List (Nat×Nat×Nat))(ts:List E)(i:Nat):Prop:=ts.map E.er=(l.take i).foldl stE []
theorem Zxr(a:Option Addr)(c:Nat)(x:E):(ZtX a c x).er=ZtX none 0 x.er:=by simp[ZtX,E.er,ZnU]
theorem Zxs(k:Int)(a:Option Addr)(c:Nat)(x y:E):(opE k a c x y).er=opE k none 0 x.er y.er:=by simp[opE,E.er,ZnU]
theorem Zt4(x:Nat):(Zu5 x).er=Zu5 x:=by simp[Zu5,E.er,ZnU]
theorem Zt5(x:ByteArray):(ZsA x).er=ZsA x:=by simp[ZsA,E.er,ZnU]
theorem Zxt(x:Int):(ZyN x).er=ZyN x:=by simp[ZyN,E.er,ZnU]
section
variable {l:List (Nat×Nat×Nat)} {ts:List E} {i s1 s2 s3:Nat} (h:TrE l ts i) (hs:l[i]?=some (s1,s2,s3))
include h hs
theorem TrE.next{ts':List E}(e:ts'.map E.er=stE (ts.map E.er) (s1,s2,s3)):TrE l ts' (i+1):=by
 unfold TrE at *
 rw[List.take_add_one,hs,List.foldl_append,<-h,e];rfl
theorem TrE.num(h1:s1 % 12 < 2):TrE l (ts++[Zu5 (x1E (s1,s2,s3))]) (i+1):=h.next hs (by
 unfold stE
 rw[if_pos h1,List.map_append];simp only[List.map_cons,List.map_nil,Zt4])
theorem TrE.var(h1:¬s1 % 12 < 2)(h2:s1 % 12 < 4){nm:ByteArray}(hn:ZeR[s2 % 4]?=some nm):TrE l (ts++[ZsA nm]) (i+1):=h.next hs (by
 unfold stE
 rw[if_neg h1,if_pos h2,List.map_append]
 simp only[List.map_cons,List.map_nil,Zt5]
 rw[show ZeR.getD (s2 % 4) .empty=nm by rw[List.getD_eq_getElem?_getD,hn];rfl])
theorem TrE.cap(h1:¬s1 % 12 < 4)(h2:s1 % 12=4):TrE l (ts++[ZyN ((s2 % 10:Nat):Int)]) (i+1):=h.next hs (by
 unfold stE
 rw[if_neg (by show ¬s1 % 12 < 2;omega),if_neg h1,if_pos h2,List.map_append]
 simp only[List.map_cons,List.map_nil,Zxt])
theorem TrE.skip(h1:¬s1 % 12 < 4)(h2:¬s1 % 12=4)(h5:s1 % 12=5->ts.length=0)(h6:5 < s1 % 12->ts.length<=1):TrE l ts (i+1):=h.next hs (by
 unfold stE
 rw[if_neg (by show ¬s1 % 12 < 2;omega),if_neg h1,if_neg h2]
 by_cases e:s1 % 12=5
 ·rw[if_pos e,List.eq_nil_of_length_eq_zero (h5 e)];rfl
 ·rw[if_neg e]
  have:=h6 (by omega)
  rcases ts with _|⟨t,_|⟨u,r⟩⟩
  ·rfl
  ·rfl
  ·simp at this)
end
section
variable {l:List (Nat×Nat×Nat)} {r:List E} {x y:E} {i s1 s2 s3:Nat}
theorem TrE.neg8(h:TrE l (r++[x]) i)(hs:l[i]?=some (s1,s2,s3))(h5:s1 % 12=5)(h8:x.k=8):TrE l (r++[x]) (i+1):=h.next hs (by
 unfold stE
 rw[if_neg (by show ¬s1 % 12 < 2;omega),if_neg (by show ¬s1 % 12 < 4;omega),if_neg (by show ¬s1 % 12=4;omega),if_pos h5]
 simp[h8])
theorem TrE.neg(h:TrE l (r++[x]) i)(hs:l[i]?=some (s1,s2,s3))(h5:s1 % 12=5)(h8:x.k≠8)(a:Option Addr)(c:Nat):TrE l (r++[ZtX a c x]) (i+1):=h.next hs (by
 unfold stE
 rw[if_neg (by show ¬s1 % 12 < 2;omega),if_neg (by show ¬s1 % 12 < 4;omega),if_neg (by show ¬s1 % 12=4;omega),if_pos h5]
 simp[h8,Zxr])
theorem TrE.op(h:TrE l (r++[x,y]) i)(hs:l[i]?=some (s1,s2,s3))(h5:5 < s1 % 12)(a:Option Addr)(c:Nat):TrE l (r++[opE ((s1 % 12 - 4:Nat):Int) a c x y]) (i+1):=h.next hs (by
 unfold stE
 rw[if_neg (by show ¬s1 % 12 < 2;omega),if_neg (by show ¬s1 % 12 < 4;omega),if_neg (by show ¬s1 % 12=4;omega),if_neg (by show ¬s1 % 12=5;omega)]
 have e1:(r++[x,y]).map E.er=(r.map E.er++[x.er])++[y.er]:=by simp
 rw[e1,List.dropLast_concat,List.getLast?_concat,List.getLast?_concat,List.dropLast_concat,List.map_append]
 simp only[List.map_cons,List.map_nil,Zxs])
end
def FoE(t:E)(rest:List E)(l:List (Nat×Nat×Nat)):Prop:=rest.foldl (λt x=>opE 2 none 0 t x.er) t.er=eF l
theorem TrE.fold{l:List (Nat×Nat×Nat)}{t:E}{rest:List E}(h:TrE l (t::rest) (min 60 l.length)):FoE t rest l:=by
 unfold FoE eF
 unfold TrE at h
 have e:l.take (min 60 l.length)=l.take 60:=by rw[List.take_eq_take_iff];omega
 rw[e]at h
 rw[<-h,List.map_cons]
 show _=(rest.map E.er).foldl _ _
 rw[List.foldl_map]
theorem TrE.none{l:List (Nat×Nat×Nat)}(h:TrE l [] (min 60 l.length)):eF l=Zu5 4607182418800017408:=by
 unfold eF
 unfold TrE at h
 have e:l.take (min 60 l.length)=l.take 60:=by rw[List.take_eq_take_iff];omega
 rw[e]at h
 rw[<-h];rfl
theorem FoE.step{t x:E}{rest:List E}{l:List (Nat×Nat×Nat)}(h:FoE t (x::rest) l)(a:Option Addr)(c:Nat):FoE (opE 2 a c t x) rest l:=by
 unfold FoE at *
 rw[Zxs];exact h
theorem FoE.done{t:E}{l:List (Nat×Nat×Nat)}(h:FoE t [] l):t.er=eF l:=h
def Zey(L Mo:Nat):Int×Nat:=if Mo < L\/Mo=0\/(L=1/\Mo=1)then(-1,max 1 L)else((Mo:Int),max 1 (max L Mo))
def Zxu(k:Int)(x y:T):T:=Zcr k none 0 (ZaQ k x++ZaQ k y)
def Zt6(k:Int)(ts:List T):List T:=match ts.dropLast.getLast?,ts.getLast? with
 | some x,some y=>ts.dropLast.dropLast++[Zxu k x y]
 | _,_=>ts
def ZnW(f:T->T)(ts:List T):List T:=match ts.getLast? with
 | none=>ts
 | some x=>ts.dropLast++[f x]
def ZsI(ts:List T):Int:=match ts.getLast? with
 | none=>1
 | some x=>x.k
def stT(q:List T×Nat×Nat)(s:Nat×Nat×Nat):List T×Nat×Nat:=
 if s.1 % 12 < 4 then(q.1++[Zdy (Zb1 s.2.1)],q.2)
 else if s.1 % 12=4 then(q.1++[T1],q.2)
 else if s.1 % 12 < 7/\1 < q.1.length then(Zt6 3 q.1,q.2)
 else if s.1 % 12 < 9/\1 < q.1.length then(Zt6 4 q.1,q.2)
 else if s.1 % 12=9/\0 < q.1.length/\q.2.2 < 9 then(ZnW (λx=>Zbe 6 0 0 none 0 [x]) q.1,q.2.1,q.2.2+1)
 else if 9 < s.1 % 12/\0 < q.1.length/\ZsI q.1≠1 then
  (if q.2.1*(Zey (s.2.1 % 3) (s.2.2 % 4)).2<=16 then(ZnW (λx=>Zbe 5 ((s.2.1 % 3:Nat):Int) (Zey (s.2.1 % 3) (s.2.2 % 4)).1 none 0 [x]) q.1,q.2.1*(Zey (s.2.1 % 3) (s.2.2 % 4)).2,q.2.2)else q)
 else q
def foT:List T->T
 | []=>Zdy (Zb1 0)
 | t::l=>l.foldl (Zxu 4) t
def tF(l:List (Nat×Nat×Nat)):T:=foT ((l.take 25).foldl stT ([],1,0)).1
def TrT(l:List (Nat×Nat×Nat))(ts:List T)(u g i:Nat):Prop:=(ts.map T.er,u,g)=(l.take i).foldl stT ([],1,0)
theorem ZnX(bs:List Nat):(Zdy bs).er=Zdy bs:=by simp[Zdy,T.er,erL]
theorem ZAE:T1.er=T1:=by simp[T1,T.er,erL]
theorem Zmv(k mn mx:Int)(a:Option Addr)(c:Nat)(l:List T):(Zbe k mn mx a c l).er=Zbe k mn mx none 0 (l.map T.er):=by simp[Zbe,T.er,ZnS]
theorem ZqV(k:Int)(t:T):(ZaQ k t).map T.er=ZaQ k t.er:=by
 unfold ZaQ
 simp only[ZyO,Zxo]
 split
 ·rfl
 ·split
  ·rfl
  ·rfl
theorem ZsJ(k:Int)(a:Option Addr)(c:Nat):∀l:List T,(Zcr k a c l).er=Zcr k none 0 (l.map T.er)
 | []=>ZAE
 | [x]=>rfl
 | x::y::l=>Zmv k 0 0 a c (x::y::l)
theorem Zt7(k:Int)(a:Option Addr)(c:Nat)(x y:T):(Zcr k a c (ZaQ k x++ZaQ k y)).er=Zxu k x.er y.er:=by
 rw[ZsJ,List.map_append,ZqV,ZqV];rfl
section
variable {l:List (Nat×Nat×Nat)} {ts r:List T} {x y:T} {u g i s1 s2 s3:Nat}
theorem TrT.next{u' g':Nat}(h:TrT l ts u g i)(hs:l[i]?=some (s1,s2,s3)){ts':List T}(e:(ts'.map T.er,u',g')=stT (ts.map T.er,u,g) (s1,s2,s3)):TrT l ts' u' g' (i+1):=by
 unfold TrT at *
 rw[List.take_add_one,hs,List.foldl_append,<-h,e];rfl
theorem TrT.cls(h:TrT l ts u g i)(hs:l[i]?=some (s1,s2,s3))(h1:s1 % 12 < 4):TrT l (ts++[Zdy (Zb1 s2)]) u g (i+1):=h.next hs (by
 unfold stT
 rw[if_pos h1,List.map_append];simp only[List.map_cons,List.map_nil,ZnX])
theorem TrT.emp(h:TrT l ts u g i)(hs:l[i]?=some (s1,s2,s3))(h1:s1 % 12=4):TrT l (ts++[T1]) u g (i+1):=h.next hs (by
 unfold stT
 rw[if_neg (by show ¬s1 % 12 < 4;omega),if_pos h1,List.map_append];simp only[List.map_cons,List.map_nil,ZAE])
theorem ZzF:(r++[x,y]).map T.er=(r.map T.er++[x.er])++[y.er]:=by simp
theorem ZqW(k:Int)(a:Option Addr)(c:Nat):Zt6 k ((r++[x,y]).map T.er)=(r++[Zcr k a c (ZaQ k x++ZaQ k y)]).map T.er:=by
 unfold Zt6
 rw[ZzF,List.dropLast_concat,List.getLast?_concat,List.getLast?_concat,List.dropLast_concat,List.map_append]
 simp only[List.map_cons,List.map_nil,Zt7]
theorem TrT.cat(h:TrT l (r++[x,y]) u g i)(hs:l[i]?=some (s1,s2,s3))(h1:¬s1 % 12 < 4)(h2:¬s1 % 12=4)(h3:s1 % 12 < 7)(a:Option Addr)(c:Nat):TrT l (r++[Zcr 3 a c (ZaQ 3 x++ZaQ 3 y)]) u g (i+1):=h.next hs (by
 unfold stT
 rw[if_neg h1,if_neg h2,if_pos ⟨h3,by simp⟩]
 show _=(Zt6 3 ((r++[x,y]).map T.er),u,g)
 rw[ZqW 3 a c])
theorem TrT.alt(h:TrT l (r++[x,y]) u g i)(hs:l[i]?=some (s1,s2,s3))(h3:¬s1 % 12 < 7)(h4:s1 % 12 < 9)(a:Option Addr)(c:Nat):TrT l (r++[Zcr 4 a c (ZaQ 4 x++ZaQ 4 y)]) u g (i+1):=h.next hs (by
 unfold stT
 rw[if_neg (by show ¬s1 % 12 < 4;omega),if_neg (by show ¬s1 % 12=4;omega),if_neg (by show ¬(s1 % 12 < 7/\_);omega),if_pos ⟨h4,by simp⟩]
 show _=(Zt6 4 ((r++[x,y]).map T.er),u,g)
 rw[ZqW 4 a c])
theorem ZnY(f:T->T)(z:T)(hz:z.er=f x.er):ZnW f ((r++[x]).map T.er)=(r++[z]).map T.er:=by
 unfold ZnW
 rw[List.map_append,List.map_append]
 simp[hz]
theorem TrT.grp(h:TrT l (r++[x]) u g i)(hs:l[i]?=some (s1,s2,s3))(h9:s1 % 12=9)(hg:g < 9)(a:Option Addr)(c:Nat):TrT l (r++[Zbe 6 0 0 a c [x]]) u (g+1) (i+1):=h.next hs (by
 unfold stT
 rw[if_neg (by show ¬s1 % 12 < 4;omega),if_neg (by show ¬s1 % 12=4;omega),if_neg (by show ¬(s1 % 12 < 7/\_);omega),if_neg (by show ¬(s1 % 12 < 9/\_);omega),if_pos ⟨h9,by simp,hg⟩]
 show _=(ZnW _ ((r++[x]).map T.er),u,g+1)
 rw[ZnY _ (Zbe 6 0 0 a c [x]) (Zmv ..)])
theorem ZnZ:ZsI ((r++[x]).map T.er)=x.k:=by
 unfold ZsI
 rw[List.map_append];simp
theorem Zt8(h9:9 < s1 % 12)(hk:x.k≠1):stT ((r++[x]).map T.er,u,g) (s1,s2,s3)=(if u*(Zey (s2 % 3) (s3 % 4)).2<=16 then(ZnW (λx=>Zbe 5 ((s2 % 3:Nat):Int) (Zey (s2 % 3) (s3 % 4)).1 none 0 [x]) ((r++[x]).map T.er),u*(Zey (s2 % 3) (s3 % 4)).2,g)else((r++[x]).map T.er,u,g)):=by
 unfold stT
 rw[if_neg (by show ¬s1 % 12 < 4;omega),if_neg (by show ¬s1 % 12=4;omega),if_neg (by show ¬(s1 % 12 < 7/\_);omega),if_neg (by show ¬(s1 % 12 < 9/\_);omega),if_neg (by show ¬(s1 % 12=9/\_);omega),if_pos ⟨h9,by simp,by rw[ZnZ];exact hk⟩]
theorem TrT.rep(h:TrT l (r++[x]) u g i)(hs:l[i]?=some (s1,s2,s3))(h9:9 < s1 % 12)(hk:x.k≠1)(hu:u*(Zey (s2 % 3) (s3 % 4)).2<=16)(a:Option Addr)(c:Nat):TrT l (r++[Zbe 5 ((s2 % 3:Nat):Int) (Zey (s2 % 3) (s3 % 4)).1 a c [x]]) (u*(Zey (s2 % 3) (s3 % 4)).2) g (i+1):=h.next hs (by
 rw[Zt8 h9 hk,if_pos hu,ZnY _ (Zbe 5 ((s2 % 3:Nat):Int) (Zey (s2 % 3) (s3 % 4)).1 a c [x]) (Zmv ..)])
theorem TrT.over(h:TrT l (r++[x]) u g i)(hs:l[i]?=some (s1,s2,s3))(h9:9 < s1 % 12)(hk:x.k≠1)(hu:¬u*(Zey (s2 % 3) (s3 % 4)).2<=16):TrT l (r++[x]) u g (i+1):=h.next hs (by
 rw[Zt8 h9 hk,if_neg hu])
theorem TrT.skip(h:TrT l ts u g i)(hs:l[i]?=some (s1,s2,s3))(h1:¬s1 % 12 < 4)(h2:¬s1 % 12=4)(h3:¬(s1 % 12 < 7/\1 < ts.length))(h4:¬(s1 % 12 < 9/\1 < ts.length))(h5:¬(s1 % 12=9/\0 < ts.length/\g < 9))(h6:¬(9 < s1 % 12/\0 < ts.length/\ZsI (ts.map T.er)≠1)):TrT l ts u g (i+1):=h.next hs (by
 unfold stT
 have e:(ts.map T.er).length=ts.length:=List.length_map ..
 rw[if_neg h1,if_neg h2,if_neg (by rw[e];exact h3),if_neg (by rw[e];exact h4),if_neg (by rw[e];exact h5),if_neg (by rw[e];exact h6)])
end
def FoT(t:T)(rest:List T)(l:List (Nat×Nat×Nat)):Prop:=rest.foldl (λt x=>Zxu 4 t x.er) t.er=tF l
theorem TrT.fold{l:List (Nat×Nat×Nat)}{t:T}{rest:List T}{u g:Nat}(h:TrT l (t::rest) u g (min 25 l.length)):FoT t rest l:=by
 unfold FoT tF
 unfold TrT at h
 have e:l.take (min 25 l.length)=l.take 25:=by rw[List.take_eq_take_iff];omega
 rw[e]at h
 rw[<-h,List.map_cons]
 show _=(rest.map T.er).foldl _ _
 rw[List.foldl_map]
theorem TrT.none{l:List (Nat×Nat×Nat)}{u g:Nat}(h:TrT l [] u g (min 25 l.length)):tF l=Zdy (Zb1 0):=by
 unfold tF
 unfold TrT at h
 have e:l.take (min 25 l.length)=l.take 25:=by rw[List.take_eq_take_iff];omega
 rw[e]at h
 rw[<-h];rfl
theorem FoT.step{t x:T}{rest:List T}{l:List (Nat×Nat×Nat)}(h:FoT t (x::rest) l)(a:Option Addr)(c:Nat):FoT (Zcr 4 a c (ZaQ 4 t++ZaQ 4 x)) rest l:=by
 unfold FoT at *
 rw[Zt7];exact h
theorem FoT.done{t:T}{l:List (Nat×Nat×Nat)}(h:FoT t [] l):t.er=tF l:=h
mutual
def boF(c:Int):E->E
 | .node k x s g a d l=>if k=10/\g > c then ZsA ⟨#[121]⟩ else .node k x s g none 0 (ZzG c l)
def ZzG(c:Int):List E->List E
 | []=>[]
 | t::l=>boF c t::ZzG c l
end
theorem ZqX(c:Int):∀l:List E,ZzG c l=l.map (boF c)
 | []=>rfl
 | t::l=>by simp only[ZzG,List.map_cons,ZqX c l]
theorem Zxv{c:Int}{e:E}(h:e.k=10/\e.g > c):boF c e=ZsA ⟨#[121]⟩:=by
 cases e;simp only[boF];exact if_pos h
theorem Zu9{c:Int}{e:E}(h:¬(e.k=10/\e.g > c)):boF c e=.node e.k e.x e.s e.g none 0 (e.subs.map (boF c)):=by
 cases e;simp only[boF,ZqX];exact if_neg h
mutual
theorem Zxw(c:Int):∀e:E,boF c e.er=boF c e
 | .node k x s g a d l=>by simp only[E.er,boF,Zt9 c l]
theorem Zt9(c:Int):∀l:List E,ZzG c (ZnU l)=ZzG c l
 | []=>rfl
 | t::l=>by simp only[ZnU,ZzG,Zxw c t,Zt9 c l]
end
theorem Zva{f:E->E}{ts l:List E}{x t:E}(h:ts.map E.er=(l.map f).take ts.length)(hx:l[ts.length]?=some x)(ht:t.er=f x):(ts++[t]).map E.er=(l.map f).take (ts++[t]).length:=by
 rw[List.map_append,h,zA1,List.length_singleton,List.take_add_one,List.getElem?_map,hx]
 simp[ht]
def Zzf:List ByteArray:=[⟨#[97]⟩,⟨#[45]⟩,⟨#[97,98,32]⟩,⟨#[0,255]⟩,⟨#[49,50]⟩]
def Zua(L:List Pt):Bool:=decide (L.length=0)||!(match L[L.length - 1]? with
 | some x=>x.k == 1
 | none=>false)
theorem ZqY(L:List Pt):Zua (L.map Pt.er)=Zua L:=by
 unfold Zua
 rw[List.length_map,List.getElem?_map]
 cases L[L.length - 1]? <;> rfl
def Zo4(c:Int)(e:E)(L:List Pt)(k u:Nat):List Pt:=
 if k=0\/k=1 then(if Zua L=true then L++[⟨1,Zzf.getD (u % 5) .empty,0,E0⟩]else L)
 else if k=2\/k=3 then L++[⟨2,Zcx.getD (u % 2) .empty,0,E0⟩]
 else if k=4 then L++[⟨2,ZeR.getD (u % 4) .empty,0,E0⟩]
 else if k=5\/k=6 then(if 0<=c then L++[⟨3,.empty,((u % ((if 9 < c then 9 else c).toNat+1):Nat):Int),E0⟩]else L)
 else L++[⟨4,.empty,0,e⟩]
def tmF(c:Int)(e:E)(l:List Nat):List Pt:=(l.take 5).foldl (λL n=>Zo4 c e L (n % 8) (n / 8)) []
theorem Zub:E0.er=E0:=by simp[E0,E.er,ZnU]
section
variable {c:Int} {e:E} {L:List Pt} {k u:Nat}
theorem Zvb(h:k=0\/k=1)(hB:Zua L=true){s:ByteArray}(hs:Zzf.getD (u % 5) .empty=s):(L++[(⟨1,s,0,E0⟩:Pt)]).map Pt.er=Zo4 c e (L.map Pt.er) k u:=by
 unfold Zo4
 rw[if_pos h,ZqY,if_pos hB,List.map_append,hs]
 simp[Pt.er,Zub]
theorem Zxx(h:k=0\/k=1)(hB:Zua L=false):L.map Pt.er=Zo4 c e (L.map Pt.er) k u:=by
 unfold Zo4
 rw[if_pos h,ZqY,if_neg (by rw[hB];simp)]
theorem Zvc(h:¬(k=0\/k=1))(h2:k=2\/k=3){s:ByteArray}(hs:Zcx[u % 2]?=some s):(L++[(⟨2,s,0,E0⟩:Pt)]).map Pt.er=Zo4 c e (L.map Pt.er) k u:=by
 unfold Zo4
 rw[if_neg h,if_pos h2,List.map_append,List.getD_eq_getElem?_getD,hs]
 simp[Pt.er,Zub]
theorem Zvd(h:¬(k=0\/k=1))(h2:¬(k=2\/k=3))(h4:k=4){s:ByteArray}(hs:ZeR[u % 4]?=some s):(L++[(⟨2,s,0,E0⟩:Pt)]).map Pt.er=Zo4 c e (L.map Pt.er) k u:=by
 unfold Zo4
 rw[if_neg h,if_neg h2,if_pos h4,List.map_append,List.getD_eq_getElem?_getD,hs]
 simp[Pt.er,Zub]
theorem Zve(h:¬(k=0\/k=1))(h2:¬(k=2\/k=3))(h4:¬k=4)(h5:k=5\/k=6)(hc:0<=c){C:Nat}(hC:C=(if(9:Int) < c then(9:Int)else c).toNat):(L++[(⟨3,.empty,((u % (C+1):Nat):Int),E0⟩:Pt)]).map Pt.er=Zo4 c e (L.map Pt.er) k u:=by
 unfold Zo4
 rw[if_neg h,if_neg h2,if_neg h4,if_pos h5,if_pos hc,List.map_append,hC]
 simp[Pt.er,Zub]
theorem ZpH(h:¬(k=0\/k=1))(h2:¬(k=2\/k=3))(h4:¬k=4)(h5:k=5\/k=6)(hc:¬0<=c):L.map Pt.er=Zo4 c e (L.map Pt.er) k u:=by
 unfold Zo4
 rw[if_neg h,if_neg h2,if_neg h4,if_pos h5,if_neg hc]
theorem Zvf(h:¬(k=0\/k=1))(h2:¬(k=2\/k=3))(h4:¬k=4)(h5:¬(k=5\/k=6)):(L++[(⟨4,.empty,0,e⟩:Pt)]).map Pt.er=Zo4 c e.er (L.map Pt.er) k u:=by
 unfold Zo4
 rw[if_neg h,if_neg h2,if_neg h4,if_neg h5,List.map_append]
 simp[Pt.er]
end
def acF(k n:Nat)(pl:List Nat)(el:List (Nat×Nat×Nat))(c:Int):Ac:=
 if k % 4=2 then⟨2,Zcx.getD (n % 2) .empty,none,0,tmF c (boF c (eF (el.take 8))) pl,E0⟩
 else if k % 4=3 then⟨3,ZeR.getD (n % 4) .empty,none,0,[],boF c (eF (el.take 8))⟩
 else⟨1,.empty,none,0,tmF c (boF c (eF (el.take 8))) pl,E0⟩
end Go.Rx
namespace Go.Rx
open Go Go.Eng
def ZBg(l:List Ru)(key:Ru->Int)(o:Option Nat)(x:Ru):Bool:=match o with
 | none=>true
 | some t=>match l[t]? with
  | some y=>decide (key x < key y)
  | none=>false
def Zxy(l:List Ru)(cnt:Ru->Bool)(key:Ru->Int):Nat->Option Nat
 | 0=>none
 | i+1=>match l[i]? with
  | none=>Zxy l cnt key i
  | some x=>if cnt x&&ZBg l key (Zxy l cnt key i) x then some i else Zxy l cnt key i
def ZB6(l:List Ru)(cnt:Ru->Bool)(key:Ru->Int):Option Nat:=Zxy l cnt key l.length
def ZCl(r:Ru):Bool:=r.k == 4
def ZCm(r:Ru):Bool:=r.k == 3
def ZCn(r:Ru):Int:=r.n
def ZCo(_:Ru):Int:=0
def toO(x:Sta):Option Nat:=ZB6 x.rules ZCl ZCn
def eoO(x:Sta):Option Nat:=ZB6 x.rules ZCm ZCo
def ZB7(o:Option Nat):Int:=(o.getD 0:Nat)
def Zuc(x:Sta)(k:Nat)(r:Ru):Bool:=(r.k == 4&&!((k:Int) == ZB7 (toO x)))||(r.k == 3&&!((k:Int) == ZB7 (eoO x)))
abbrev Dd:=Int×Int
def ZqZ(i:Nat)(x:Sta):Nat->List Dd
 | 0=>[]
 | k+1=>ZqZ i x k++(match x.rules[k]? with
  | some r=>if Zuc x k r then[((i:Int),(k:Int))]else[]
  | none=>[])
def deadU(s:Sc):Nat->List Dd
 | 0=>[]
 | i+1=>deadU s i++(match s.states[i]? with
  | some x=>ZqZ i x x.rules.length
  | none=>[])
def Zxz(s:Sc):List Dd:=deadU s s.states.length
theorem Zjn{i:Nat}{x:Sta}{d:Dd}:∀{k:Nat},d∈ZqZ i x k↔d.1=i/\∃j r,j < k/\x.rules[j]?=some r/\Zuc x j r=true/\d.2=j
 | 0=>by simp[ZqZ]
 | k+1=>by
  rw[ZqZ,List.mem_append,Zjn (k:=k)]
  constructor
  ·rintro(⟨h1,j,r,h2,h3⟩|h)
   ·exact⟨h1,j,r,by omega,h3⟩
   ·split at h
    ·rename_i r hr
     split at h
     ·rename_i hb
      rw[List.mem_singleton]at h;subst h
      exact⟨rfl,k,r,by omega,hr,hb,rfl⟩
     ·cases h
    ·cases h
  ·rintro⟨h1,j,r,h2,h3,h4,h5⟩
   rcases Nat.lt_or_ge j k with hj|hj
   ·exact .inl ⟨h1,j,r,hj,h3,h4,h5⟩
   ·obtain rfl:j=k:=by omega
    refine .inr ?_
    rw[h3]
    show d∈(if Zuc x j r=true then _ else _)
    rw[if_pos h4,List.mem_singleton]
    exact Prod.ext h1 h5
theorem Zn0{s:Sc}{d:Dd}:∀{n:Nat},d∈deadU s n↔∃i x j r,i < n/\s.states[i]?=some x/\x.rules[j]?=some r/\Zuc x j r=true/\d=((i:Int),(j:Int))
 | 0=>by simp[deadU]
 | n+1=>by
  rw[deadU,List.mem_append,Zn0 (n:=n)]
  constructor
  ·rintro(⟨i,x,j,r,h1,h2⟩|h)
   ·exact⟨i,x,j,r,by omega,h2⟩
   ·split at h
    ·rename_i x hx
     obtain⟨h1,j,r,h2,h3,h4,h5⟩:=Zjn.1 h
     exact⟨n,x,j,r,by omega,hx,h3,h4,Prod.ext h1 h5⟩
    ·cases h
  ·rintro⟨i,x,j,r,h1,h2,h3,h4,h5⟩
   rcases Nat.lt_or_ge i n with hi|hi
   ·exact .inl ⟨i,x,j,r,hi,h2,h3,h4,h5⟩
   ·obtain rfl:i=n:=by omega
    refine .inr ?_
    rw[h2]
    exact Zjn.2 ⟨by rw[h5],j,r,(zA0 h3).1,h3,h4,by rw[h5]⟩
theorem Zvg{s:Sc}{d:Dd}:d∈Zxz s↔∃(i:Nat)(x:Sta)(j:Nat)(r:Ru),s.states[i]?=some x/\x.rules[j]?=some r/\Zuc x j r=true/\d=((i:Int),(j:Int)):=by
 unfold Zxz
 rw[Zn0]
 constructor
 ·rintro⟨i,x,j,r,_,h⟩;exact⟨i,x,j,r,h⟩
 ·rintro⟨i,x,j,r,h,h'⟩;exact⟨i,x,j,r,(zA0 h).1,h,h'⟩
theorem Zn1(i:Nat)(x:Sta):∀k,(ZqZ i x k).length<=k
 | 0=>by simp[ZqZ]
 | k+1=>by
  rw[ZqZ,zA1]
  have:=Zn1 i x k
  split
  ·split <;> simp <;> omega
  ·simp;omega
end Go.Rx
namespace Go.Rx
open Go Go.Eng Go.RowKit
def Zmh(x:Sta)(k:Nat):Sta:=⟨x.s,x.ra,x.rc,x.rules.eraseIdx k⟩
def ZwB(s:Sc)(i k:Nat):Sc:=match s.states[i]? with
 | some x=>⟨s.n,s.va,s.vc,s.vars,s.sa,s.sc,s.states.set i (Zmh x k)⟩
 | none=>s
def ZhP(s:Sc)(i k:Int):Bool:=s.light&&(decide (i ≥ 0)&&(decide (i < s.states.length)&&(decide (k ≥ 0)&&match s.states[i.toNat]? with
 | some x=>decide (k < x.rules.length)
 | none=>false)))
theorem ZgO{s s':Sc}(h:s'.er=s.er):s'.states.map Sta.er=s.states.map Sta.er:=congrArg Sc.states h
theorem ZBh{s s':Sc}(h:s'.er=s.er){i:Nat}{x:Sta}(hx:s.states[i]?=some x):∃x',s'.states[i]?=some x'/\x'.er=x.er:=by
 have:=congrArg (λl=>l[i]?) (ZgO h)
 simp only[List.getElem?_map,hx,Option.map_some]at this
 obtain⟨x',h1,h2⟩:=Option.map_eq_some_iff.1 this
 exact⟨x',h1,h2⟩
theorem ZzH{s s':Sc}(h:s'.er=s.er):s'.states.length=s.states.length:=by
 have:=congrArg List.length (ZgO h);simpa using this
theorem Zmw{x x':Sta}(h:x'.er=x.er):x'.s=x.s/\x'.rules.map Ru.er=x.rules.map Ru.er/\x'.rules.length=x.rules.length:=by
 have h2:x'.rules.map Ru.er=x.rules.map Ru.er:=congrArg Sta.rules h
 have h1:x'.er.s=x.er.s:=congrArg Sta.s h
 exact⟨h1,h2,by have:=congrArg List.length h2;simpa using this⟩
theorem Zq0{s s':Sc}(h:s'.er=s.er):s'.n=s.n/\s'.vars=s.vars:=by
 have h1:s'.er.n=s.er.n:=congrArg Sc.n h
 have h2:s'.er.vars=s.er.vars:=congrArg Sc.vars h
 exact⟨h1,h2⟩
theorem Zvh{s s':Sc}(h1:s'.n=s.n)(h2:s'.vars=s.vars)(h3:s'.states.map Sta.er=s.states.map Sta.er):s'.er=s.er:=by
 unfold Sc.er;rw[h1,h2,h3]
theorem Zjo{α β:Type}(f:α->β):∀(l:List α)(k:Nat),(l.eraseIdx k).map f=(l.map f).eraseIdx k
 | [],_=>rfl
 | _::_,0=>rfl
 | x::l,k+1=>by simp only[List.eraseIdx_cons_succ,List.map_cons,Zjo f l k]
theorem Zvi{x x':Sta}(h:x'.er=x.er)(k:Nat):(Zmh x' k).er=(Zmh x k).er:=by
 obtain⟨h1,h2,_⟩:=Zmw h
 simp only[Zmh,Sta.er,h1,Sta.mk.injEq,true_and]
 rw[Zjo,Zjo,h2]
theorem Zvj{m:Mem}{b:Nat}{L:List Sta}{i:Nat}{x y:Sta}(h:rowRd m (some ⟨b,0,none⟩) (L.map Sta.cs).flatten)(hx:L[i]?=some x)(hs:y.s=x.s):
  rowRd (m.upd b (0+i*2+1) [.slice y.ra y.rules.length y.rc]) (some ⟨b,0,none⟩) ((L.set i y).map Sta.cs).flatten:=by
 have hi:=(zA0 hx).1
 have hl:∀l:List Sta,(l.map Sta.cs).flatten.length=l.length*2:=Za3 Sta.len
 have e0:L=L.take i++x::L.drop (i+1):=by
  have:=(zA0 hx).2
  rw[<-this,List.getElem_cons_drop,List.take_append_drop]
 have e1:L.set i y=L.take i++y::L.drop (i+1):=List.set_eq_take_append_cons_drop.trans (if_pos hi)
 have lt:(L.take i).length=i:=by rw[List.length_take];omega
 have e:∀z:Sta,((L.take i++z::L.drop (i+1)).map Sta.cs).flatten=((L.take i).map Sta.cs).flatten++(z.cs++((L.drop (i+1)).map Sta.cs).flatten):=λz=>by simp
 rw[e0,e]at h
 rw[e1,e]
 obtain⟨A,hA⟩:∃A,A=((L.take i).map Sta.cs).flatten:=⟨_,rfl⟩
 obtain⟨B,hB⟩:∃B,B=((L.drop (i+1)).map Sta.cs).flatten:=⟨_,rfl⟩
 have lA:A.length=i*2:=by rw[hA,hl,lt]
 rw[<-hA,<-hB]at h ⊢
 rcases h with h|⟨b',o',ha,h⟩
 ·have:=congrArg List.length h
  rw[zA1,zA1,Sta.len]at this
  simp at this
 cases ha
 refine .inr ⟨b,0,rfl,λj v hj=>?_⟩
 unfold Mem.upd;try dsimp only
 rw[Nat.zero_add,Nat.zero_add,List.length_singleton]
 rcases Nat.lt_or_ge j (i*2)with aB|bO
 ·rw[if_neg (by omega)]
  rw[zA5 (by omega)]at hj
  have:=h j v (by rw[zA5 (by omega)];exact hj)
  rwa [Nat.zero_add]at this
 ·rw[zA4 (by omega),lA]at hj
  by_cases wx:j=i*2
  ·subst wx
   rw[if_neg (by omega)]
   rw[Nat.sub_self]at hj
   have:=h (i*2) v (by
    rw[zA4 (by omega),lA,Nat.sub_self]
    simp only[Sta.cs,hs]at hj ⊢
    exact hj)
   rwa [Nat.zero_add]at this
  ·by_cases un:j=i*2+1
   ·subst un
    rw[if_pos ⟨rfl,Nat.le_refl _,Nat.lt_succ_self _⟩,Nat.sub_self]
    rw[show i*2+1 - i*2=1 by omega]at hj
    exact hj
   ·rw[if_neg (by omega)]
    rw[zA4 (by rw[Sta.len];omega),Sta.len]at hj
    have:=h j v (by
     rw[zA4 (by omega),lA,zA4 (by rw[Sta.len];omega),Sta.len];exact hj)
    rwa [Nat.zero_add]at this
theorem Zvk{m2 m3 M:Mem}{s':Sc}{bS bR i k:Nat}{μ:Nat->Mem}{x':Sta}{zs:List Value}(dp:RepC (nw m2 m3) s')(dq:SepC m2 m3 s' bS μ)(hx':s'.states[i]?=some x')(nQ:x'.ra=some ⟨bR,0,none⟩)(hk:k < x'.rules.length)
  (jz:∀r∈x'.rules,RepR ((μ i).off λq=>q=bR) r) (hM:(m3.off λq=>q=bR).le M) (se:(M.upd bS (0+i*2+1) [.slice x'.ra (x'.rules.length - 1) x'.rc]).free bR):
  RepC ((M.upd bS (0+i*2+1) [.slice x'.ra (x'.rules.length - 1) x'.rc]).add bR (((x'.rules.eraseIdx k).map Ru.cs).flatten++zs)) ⟨s'.n,s'.va,s'.vc,s'.vars,s'.sa,s'.sc,s'.states.set i (Zmh x' k)⟩:=by
 obtain⟨V,hV⟩:∃V,V=M.upd bS (0+i*2+1) [.slice x'.ra (x'.rules.length - 1) x'.rc]:=⟨_,rfl⟩
 rw[<-hV]at se ⊢
 have hi:=(zA0 hx').1
 obtain⟨oV,mF,cy,qu⟩:=dq.all i x' hx'
 have kno:∀{ν:Mem},ν.le (nw m2 m3)->∀b,ν.k b=none:=λh b=>Zfa h rfl
 have stay:∀{ν:Mem},ν.le (m3.off λq=>q=bR)->ν.free bS->ν.le (V.add bR (((x'.rules.eraseIdx k).map Ru.cs).flatten++zs)):=λh1 h2=>
  mLt (by rw[hV];exact Mem.le_upd (mLt h1 hM) h2 _ _) (Mem.le_add se _)
 have iS:¬(μ i).free bR:=λhf=>by
  rcases oV.row with h|⟨b,o,ha,h⟩
  ·have:=congrArg List.length h
   rw[Za3 Ru.len]at this;simp at this;omega
  ·rw[nQ]at ha;cases ha
   have aB:0 < (x'.rules.map Ru.cs).flatten.length:=by rw[Za3 Ru.len];omega
   have:=h 0 _ (zA3 aB)
   rw[hf]at this;cases this
 have sf:bS≠bR:=λe=>iS (e ▸ qu)
 have off:∀{ν:Mem},ν.le (nw m2 m3)->ν.free bR->ν.le (m3.off λq=>q=bR):=λh1 h2=>ZhO (mLt h1 (ZgM _ _)) λb e=>⟨e ▸ h2,kno h1 b⟩
 have bH:∀j,j < s'.states.length->j≠i->(μ j).free bR:=λj hj cI=>by
  rcases Nat.lt_or_ge j i with h|h
  ·exact(dq.ap j i h hi bR).resolve_right iS
  ·exact(dq.ap i j (by omega) hj bR).resolve_left iS
 have iH:=dq.sa
 refine⟨dp.n,dp.vlen,?_,dp.vall,by rw[List.length_set];exact dp.len,?_,λy hy=>?_,dp.vcap,by rw[List.length_set];exact dp.scap⟩
 ·obtain⟨μv,h1,h2,h3,h4⟩:=dq.va
  exact h1.mono (stay (off h2 ((h4 i hi bR).resolve_right iS)) h3)
 ·have aC:rowRd (m3.off λq=>q=bR) s'.sa (s'.states.map Sta.cs).flatten:=by
   rcases dp.row with h|⟨b,o,ha,h⟩
   ·exact .inl h
   ·refine .inr ⟨b,o,ha,λj v hj=>?_⟩
    rw[iH]at ha;cases ha
    rw[Mem.off_at (Y:=λq=>q=bR) sf];exact(ZgM m2 m3) _ _ _ (h j v hj)
  rw[iH]at aC
  have h5:=Zvj (y:=Zmh x' k) (aC.mono hM) hx' rfl
  have h6:(Zmh x' k).rules.length=x'.rules.length - 1:=by simp only[Zmh];rw[List.length_eraseIdx,if_pos hk]
  rw[h6]at h5
  rw[iH]
  have h7:rowRd V (some ⟨bS,0,none⟩) ((s'.states.set i (Zmh x' k)).map Sta.cs).flatten:=by rw[hV];exact h5
  exact h7.mono (Mem.le_add se _)
 ·obtain⟨j,hj⟩:=List.getElem?_of_mem hy
  by_cases kM:j=i
  ·subst kM
   rw[List.getElem?_set_self hi]at hj
   cases hj
   refine⟨oV.s,by show(x'.rules.eraseIdx k).length<=few;rw[List.length_eraseIdx,if_pos hk];have:=oV.len;omega,?_,λr hr=>?_⟩
   ·show rowRd _ x'.ra ((x'.rules.eraseIdx k).map Ru.cs).flatten
    rw[nQ]
    refine .inr ⟨bR,0,rfl,λq v hq=>?_⟩
    rw[Nat.zero_add,Mem.add_same,zA5 (zA0 hq).1];exact hq
   ·refine(jz r (List.mem_of_mem_eraseIdx hr)).mono (stay (ZkL (mLt cy (ZgM _ _))) ?_)
    exact Zbo (Mem.off_le _ _) qu
  ·rw[List.getElem?_set_ne (Ne.symm kM)]at hj
   have sg:=(zA0 hj).1
   obtain⟨h1,_,h3,h4⟩:=dq.all j y hj
   exact h1.mono (stay (off h3 (bH j sg kM)) h4)
theorem Zvl(r:Ru):Zcn r.er=Zcn r:=by
 unfold Zcn
 simp only[Ru.er]
 rw[ZsD];rfl
theorem ZzI(i k m:Nat)(a:Ac):plA i k m a.er=plA i k m a:=by
 unfold plA
 rw[show a.er.parts.length=a.parts.length from List.length_map ..]
theorem ZzJ(i k:Nat)(r:Ru):plR i k r.er=plR i k r:=by
 unfold plR
 rw[show r.er.acts.length=r.acts.length from List.length_map ..]
 congr 2
 funext m
 rw[show r.er.acts=r.acts.map Ac.er from rfl,List.getElem?_map]
 cases r.acts[m]? with
 | none=>rfl
 | some a=>exact ZzI i k m a
theorem ZzK(i:Nat)(x:Sta):plS i x.er=plS i x:=by
 unfold plS
 rw[show x.er.rules.length=x.rules.length from List.length_map ..]
 congr 2
 funext m
 rw[show x.er.rules=x.rules.map Ru.er from rfl,List.getElem?_map]
 cases x.rules[m]? with
 | none=>rfl
 | some r=>exact ZzJ i m r
theorem Zn2(s:Sc):s.er.places=s.places:=by
 unfold Sc.places
 rw[ZgN,show s.er.states.length=s.states.length from List.length_map ..]
 congr 4
 funext i
 rw[show s.er.states=s.states.map Sta.er from rfl,List.getElem?_map]
 cases s.states[i]? with
 | none=>rfl
 | some x=>exact ZzK i x
def Ov1(v v':Value):Prop:=v'=v\/(∃k x y,v=.int k x/\v'=.int k y)\/(∃x y,v=.bool x/\v'=.bool y)\/(∃x y,v=.string x/\v'=.string y)\/(∃a n c,v=.slice a n c/\v'=.slice none 0 0)
def SlO(a:Option Addr)(n c:Nat)(a':Option Addr)(n' c':Nat):Prop:=(a'=a/\n'=n/\c'=c)\/(a'=none/\n'=0/\c'=0)
theorem Ov1.refl(v:Value):Ov1 v v:=.inl rfl
theorem Zbh{k:IntKind}{x:Int}{v:Value}(h:Ov1 (.int k x) v):∃y,v=.int k y:=by
 rcases h with h|⟨_,_,y,h,h'⟩|⟨_,_,h,_⟩|⟨_,_,h,_⟩|⟨_,_,_,h,_⟩
 ·exact⟨x,h⟩
 ·cases h;exact⟨y,h'⟩
 all_goals cases h
theorem Zq1{x:Bool}{v:Value}(h:Ov1 (.bool x) v):∃y,v=.bool y:=by
 rcases h with h|⟨_,_,_,h,_⟩|⟨_,y,h,h'⟩|⟨_,_,h,_⟩|⟨_,_,_,h,_⟩
 ·exact⟨x,h⟩
 ·cases h
 ·exact⟨y,h'⟩
 all_goals cases h
theorem ZkM{x:ByteArray}{v:Value}(h:Ov1 (.string x) v):∃y,v=.string y:=by
 rcases h with h|⟨_,_,_,h,_⟩|⟨_,_,h,_⟩|⟨_,y,h,h'⟩|⟨_,_,_,h,_⟩
 ·exact⟨x,h⟩
 ·cases h
 ·cases h
 ·exact⟨y,h'⟩
 ·cases h
theorem ZsK{k:FloatKind}{x:Nat}{v:Value}(h:Ov1 (.float k x) v):v=.float k x:=by
 rcases h with h|⟨_,_,_,h,_⟩|⟨_,_,h,_⟩|⟨_,_,h,_⟩|⟨_,_,_,h,_⟩
 ·exact h
 all_goals cases h
theorem ZpI{a:Option Addr}{n c:Nat}{v:Value}(h:Ov1 (.slice a n c) v):∃a' n' c',v=.slice a' n' c'/\SlO a n c a' n' c':=by
 rcases h with h|⟨_,_,_,h,_⟩|⟨_,_,h,_⟩|⟨_,_,h,_⟩|⟨_,_,_,h,h'⟩
 ·exact⟨a,n,c,h,.inl ⟨rfl,rfl,rfl⟩⟩
 ·cases h
 ·cases h
 ·cases h
 ·exact⟨none,0,0,h',.inr ⟨rfl,rfl,rfl⟩⟩
theorem Ov1.int{k:IntKind}(x y:Int):Ov1 (.int k x) (.int k y):=.inr (.inl ⟨k,x,y,rfl,rfl⟩)
theorem Ov1.bool(x y:Bool):Ov1 (.bool x) (.bool y):=.inr (.inr (.inl ⟨x,y,rfl,rfl⟩))
theorem Ov1.str(x y:ByteArray):Ov1 (.string x) (.string y):=.inr (.inr (.inr (.inl ⟨x,y,rfl,rfl⟩)))
theorem Ov1.sl(a:Option Addr)(n c:Nat):Ov1 (.slice a n c) (.slice none 0 0):=.inr (.inr (.inr (.inr ⟨a,n,c,rfl,rfl⟩)))
def Ov(m0 m:Mem):Prop:=∀b o v,m0 b o=some v->∃v',m b o=some v'/\Ov1 v v'
theorem Ov.of_le{m0 m:Mem}(h:m0.le m):Ov m0 m:=λb o v hv=>⟨v,h _ _ _ hv,.inl rfl⟩
theorem Ov.mono{m0 m m':Mem}(h:Ov m0 m)(hm:m.le m'):Ov m0 m':=λb o v hv=>by
 obtain⟨v',h1,h2⟩:=h b o v hv
 exact⟨v',hm _ _ _ h1,h2⟩
theorem Ov.less{m1 m0 m:Mem}(h:Ov m0 m)(hm:m1.le m0):Ov m1 m:=λb o v hv=>h b o v (hm _ _ _ hv)
theorem Ov.known{m0 m:Mem}(h:Ov m0 m){b:Nat}(hb:Old m0 b):∃o v,m b o=some v:=by
 apply Classical.byContradiction
 intro hn
 refine hb λo=>?_
 cases he:m0 b o with
 | none=>rfl
 | some v=>
  obtain⟨v',h1,_⟩:=h b o v he
  exact(hn ⟨o,v',h1⟩).elim
theorem Zlu{m0:Mem}{b o:Nat}{v:Value}(h:m0 b o=some v):Old m0 b:=λhf=>by rw[hf o]at h;cases h
theorem Ov.ne{m0 m:Mem}(h:Ov m0 m){b b':Nat}(hb:Old m0 b)(hf:m.free b'):b'≠b:=λe=>by
 obtain⟨o,v,hv⟩:=h.known hb
 rw[<-e,hf o]at hv;cases hv
theorem Ov.upd{m0 m:Mem}(h:Ov m0 m){b o:Nat}{cs vs:List Value}(hr:m0.reads b o cs)(hl:vs.length<=cs.length)(hv:∀(j:Nat)(u v:Value),cs[j]?=some u->vs[j]?=some v->Ov1 u v):Ov m0 (m.upd b o vs):=λb' o' u hu=>by
 by_cases hc:b'=b/\o<=o'/\o' < o+vs.length
 ·obtain⟨rfl,h1,h2⟩:=hc
  have aB:o' - o < vs.length:=by omega
  have uo:o' - o < cs.length:=by omega
  have hg:=hr (o' - o) _ (zA3 uo)
  rw[show o+(o' - o)=o' by omega,hu]at hg
  cases hg
  exact⟨_,by simp only[Mem.upd];rw[if_pos ⟨trivial,h1,h2⟩];exact zA3 aB,hv _ _ _ (zA3 uo) (zA3 aB)⟩
 ·obtain⟨v',g1,g2⟩:=h b' o' u hu
  exact⟨v',by simp only[Mem.upd];rw[if_neg hc];exact g1,g2⟩
theorem Ov.upd1{m0 m:Mem}(h:Ov m0 m){b o:Nat}{u v:Value}(hu:m0 b o=some u)(hv:Ov1 u v):Ov m0 (m.upd b o [v]):=
 h.upd (cs:=[u]) (λj w hj=>by
  cases j with
  | zero=>cases hj;exact hu
  | succ j=>cases hj) (Nat.le_refl _) (λj a b ha hb=>by
  cases j with
  | zero=>cases ha;cases hb;exact hv
  | succ j=>cases ha)
theorem Ov.upd_free{m0 m:Mem}(h:Ov m0 m){b:Nat}(hf:m0.free b)(o:Nat)(vs:List Value):Ov m0 (m.upd b o vs):=λb' o' u hu=>by
 have cI:b'≠b:=λe=>by rw[e,hf o']at hu;cases hu
 obtain⟨v',g1,g2⟩:=h b' o' u hu
 exact⟨v',by rw[Mem.upd_other m cI];exact g1,g2⟩
inductive OvL:List Value->List Value->Prop
 | nil:OvL [] []
 | cons {u v:Value} {l r:List Value}:Ov1 u v->OvL l r->OvL (u::l) (v::r)
theorem Ov.reads{m0 m:Mem}(h:Ov m0 m){b:Nat}:∀{cs:List Value} {o:Nat},m0.reads b o cs->∃cs',m.reads b o cs'/\OvL cs cs'
 | [],o,_=>⟨[],(λj v hj=>by cases hj),.nil⟩
 | u::l,o,hr=>by
  have h0:=hr 0 u rfl
  obtain⟨v,h1,h2⟩:=h b (o+0) u h0
  obtain⟨r,h3,h4⟩:=Ov.reads h (cs:=l) (o:=o+1) (b:=b) (λj w hj=>by rw[show o+1+j=o+(j+1) by omega];exact hr (j+1) w hj)
  refine⟨v::r,λj w hj=>?_,.cons h2 h4⟩
  cases j with
  | zero=>cases hj;exact h1
  | succ j=>rw[show o+(j+1)=o+1+j by omega];exact h3 j w hj
theorem OvL.len{l r:List Value}(h:OvL l r):r.length=l.length:=by
 induction h with
 | nil=>rfl
 | cons _ _ ih=>simp[ih]
theorem Zav{u:Value}{l cs':List Value}(h:OvL (u::l) cs'):∃v r,cs'=v::r/\Ov1 u v/\OvL l r:=by
 cases h with
 | cons h1 h2=>exact⟨_,_,rfl,h1,h2⟩
theorem Zq2{cs':List Value}(h:OvL [] cs'):cs'=[]:=by cases h;rfl
theorem ZB8{t:T}{cs':List Value}(h:OvL t.cs cs'):∃q0 q1 q2 q3 q4 q5 q6 a n c,cs'=[.int .u8 q0,.int .u64 q1,.int .u64 q2,.int .u64 q3,.int .u64 q4,.int .i64 q5,.int .i64 q6,.slice a n c]/\SlO t.a t.subs.length t.c a n c:=by
 obtain⟨_,_,rfl,g0,h⟩:=Zav h
 obtain⟨_,_,rfl,g1,h⟩:=Zav h
 obtain⟨_,_,rfl,g2,h⟩:=Zav h
 obtain⟨_,_,rfl,g3,h⟩:=Zav h
 obtain⟨_,_,rfl,g4,h⟩:=Zav h
 obtain⟨_,_,rfl,g5,h⟩:=Zav h
 obtain⟨_,_,rfl,g6,h⟩:=Zav h
 obtain⟨_,_,rfl,g7,h⟩:=Zav h
 obtain rfl:=Zq2 h
 obtain⟨q0,rfl⟩:=Zbh g0
 obtain⟨q1,rfl⟩:=Zbh g1
 obtain⟨q2,rfl⟩:=Zbh g2
 obtain⟨q3,rfl⟩:=Zbh g3
 obtain⟨q4,rfl⟩:=Zbh g4
 obtain⟨q5,rfl⟩:=Zbh g5
 obtain⟨q6,rfl⟩:=Zbh g6
 obtain⟨a,n,c,rfl,hs⟩:=ZpI g7
 exact⟨q0,q1,q2,q3,q4,q5,q6,a,n,c,rfl,hs⟩
theorem ZBi{t:E}{cs':List Value}(h:OvL t.cs cs'):∃q0 q2 q3 a n c,cs'=[.int .u8 q0,.float .f64 t.x,.string q2,.int .i64 q3,.slice a n c]/\SlO t.a t.subs.length t.c a n c:=by
 obtain⟨_,_,rfl,g0,h⟩:=Zav h
 obtain⟨_,_,rfl,g1,h⟩:=Zav h
 obtain⟨_,_,rfl,g2,h⟩:=Zav h
 obtain⟨_,_,rfl,g3,h⟩:=Zav h
 obtain⟨_,_,rfl,g4,h⟩:=Zav h
 obtain rfl:=Zq2 h
 obtain⟨q0,rfl⟩:=Zbh g0
 obtain rfl:=ZsK g1
 obtain⟨q2,rfl⟩:=ZkM g2
 obtain⟨q3,rfl⟩:=Zbh g3
 obtain⟨a,n,c,rfl,hs⟩:=ZpI g4
 exact⟨q0,q2,q3,a,n,c,rfl,hs⟩
theorem ZB9{t:Pt}{cs':List Value}(h:OvL t.cs cs'):∃k s g q0 q2 q3 a n c,cs'=[.int .u8 k,.string s,.int .i64 g,.int .u8 q0,.float .f64 t.e.x,.string q2,.int .i64 q3,.slice a n c]/\SlO t.e.a t.e.subs.length t.e.c a n c:=by
 obtain⟨_,_,rfl,f0,h⟩:=Zav h
 obtain⟨_,_,rfl,f1,h⟩:=Zav h
 obtain⟨_,_,rfl,f2,h⟩:=Zav h
 obtain⟨q0,q2,q3,a,n,c,rfl,hs⟩:=ZBi (t:=t.e) h
 obtain⟨k,rfl⟩:=Zbh f0
 obtain⟨s,rfl⟩:=ZkM f1
 obtain⟨g,rfl⟩:=Zbh f2
 exact⟨k,s,g,q0,q2,q3,a,n,c,rfl,hs⟩
theorem ZCa{t:Ac}{cs':List Value}(h:OvL t.cs cs'):∃k s a1 n1 c1 q0 q2 q3 a n c,cs'=[.int .u8 k,.string s,.slice a1 n1 c1,.int .u8 q0,.float .f64 t.e.x,.string q2,.int .i64 q3,.slice a n c]/\SlO t.pa t.parts.length t.pc a1 n1 c1/\SlO t.e.a t.e.subs.length t.e.c a n c:=by
 obtain⟨_,_,rfl,f0,h⟩:=Zav h
 obtain⟨_,_,rfl,f1,h⟩:=Zav h
 obtain⟨_,_,rfl,f2,h⟩:=Zav h
 obtain⟨q0,q2,q3,a,n,c,rfl,hs⟩:=ZBi (t:=t.e) h
 obtain⟨k,rfl⟩:=Zbh f0
 obtain⟨s,rfl⟩:=ZkM f1
 obtain⟨a1,n1,c1,rfl,kP⟩:=ZpI f2
 exact⟨k,s,a1,n1,c1,q0,q2,q3,a,n,c,rfl,kP,hs⟩
theorem ZCp{t:Ru}{cs':List Value}(h:OvL t.cs cs'):∃k bg en q0 q1 q2 q3 q4 q5 q6 a n c s z a1 n1 c1 go co,cs'=[.int .u8 k,.bool bg,.bool en,.int .u8 q0,.int .u64 q1,.int .u64 q2,.int .u64 q3,.int .u64 q4,.int .i64 q5,.int .i64 q6,.slice a n c,.string s,.int .i64 z,.slice a1 n1 c1,.string go,.int .i64 co]/\SlO t.t.a t.t.subs.length t.t.c a n c/\SlO t.aa t.acts.length t.ac a1 n1 c1:=by
 obtain⟨_,_,rfl,f0,h⟩:=Zav h
 obtain⟨_,_,rfl,f1,h⟩:=Zav h
 obtain⟨_,_,rfl,f2,h⟩:=Zav h
 obtain⟨_,_,rfl,g0,h⟩:=Zav h
 obtain⟨_,_,rfl,g1,h⟩:=Zav h
 obtain⟨_,_,rfl,g2,h⟩:=Zav h
 obtain⟨_,_,rfl,g3,h⟩:=Zav h
 obtain⟨_,_,rfl,g4,h⟩:=Zav h
 obtain⟨_,_,rfl,g5,h⟩:=Zav h
 obtain⟨_,_,rfl,g6,h⟩:=Zav h
 obtain⟨_,_,rfl,g7,h⟩:=Zav h
 obtain⟨_,_,rfl,f3,h⟩:=Zav h
 obtain⟨_,_,rfl,f4,h⟩:=Zav h
 obtain⟨_,_,rfl,f5,h⟩:=Zav h
 obtain⟨_,_,rfl,f6,h⟩:=Zav h
 obtain⟨_,_,rfl,f7,h⟩:=Zav h
 obtain rfl:=Zq2 h
 obtain⟨k,rfl⟩:=Zbh f0
 obtain⟨bg,rfl⟩:=Zq1 f1
 obtain⟨en,rfl⟩:=Zq1 f2
 obtain⟨q0,rfl⟩:=Zbh g0
 obtain⟨q1,rfl⟩:=Zbh g1
 obtain⟨q2,rfl⟩:=Zbh g2
 obtain⟨q3,rfl⟩:=Zbh g3
 obtain⟨q4,rfl⟩:=Zbh g4
 obtain⟨q5,rfl⟩:=Zbh g5
 obtain⟨q6,rfl⟩:=Zbh g6
 obtain⟨a,n,c,rfl,hs⟩:=ZpI g7
 obtain⟨s,rfl⟩:=ZkM f3
 obtain⟨z,rfl⟩:=Zbh f4
 obtain⟨a1,n1,c1,rfl,kP⟩:=ZpI f5
 obtain⟨go,rfl⟩:=ZkM f6
 obtain⟨co,rfl⟩:=Zbh f7
 exact⟨k,bg,en,q0,q1,q2,q3,q4,q5,q6,a,n,c,s,z,a1,n1,c1,go,co,rfl,hs,kP⟩
theorem ZxA(t:Ru){k:Int}{j:Nat}{u v:Value}(hu:t.cs[j]?=some u)(hv:([.int .u8 k,.bool false,.bool false,.int .u8 0,.int .u64 0,.int .u64 0,.int .u64 0,.int .u64 0,.int .i64 0,.int .i64 0,.slice none 0 0,.string ⟨#[]⟩,.int .i64 0,.slice none 0 0,.string ⟨#[]⟩,.int .i64 0]:List Value)[j]?=some v):Ov1 u v:=by
 rcases j with _|_|_|_|_|_|_|_|_|_|_|_|_|_|_|_|j
 all_goals first|(cases hu;cases hv;first|exact Ov1.int _ _|exact Ov1.bool _ _|exact Ov1.str _ _|exact Ov1.sl _ _ _)|cases hv
theorem Zn3(w:World)(b:Nat)(f:Array Value->Array Value){cur:Array Value}{T:TypeId}{fr:Nat×Nat}(h:w.heap[b]?=some (.cells cur T fr)):(Go.Sort.mapBlock w b f).heap[b]?=some (.cells (f cur) T fr):=by
 unfold Go.Sort.mapBlock
 simp only[Array.getElem?_modify,if_true,h,Option.map_some]
 rfl
theorem Zlv(w:World)(b:Nat)(f:Array Value->Array Value){k:Nat}(h:k≠b):(Go.Sort.mapBlock w b f).heap[k]?=w.heap[k]?:=by
 unfold Go.Sort.mapBlock
 simp only[Array.getElem?_modify]
 rw[if_neg (λe=>h e.symm)]
theorem Zvm(w:World):Go.Sort.grow w #[]=w:=by
 unfold Go.Sort.grow;rw[Array.append_empty]
section
variable {α:Type} [Inhabited α] (enc:α->Value)
set_option maxHeartbeats 1600000 in
theorem Ziy{P:Program}{g:FuncId}{zs ys:List α}{vf:Option Addr->Value}{a:Option Addr}{c N:Nat}{m:Mem}
  (wy:Zem P g) (hr:rowRd m a (zs.map enc)) (hl:ys.length=zs.length) (hN:zs.length<=N)
  (h0:zs=[]->∀w:World,Calls P g #[.slice a 0 c] w λe w'=>e=.returned (vf a)/\w'=w)
  (h1:zs≠[]->∀(b o:Nat)(w:World),a=some ⟨b,o,none⟩->zs.length<=c->Go.Sort.Holds enc w b o zs.toArray->b < w.heap.size->Calls P g #[.slice (some ⟨b,o,none⟩) zs.length c] w λe w'=>e=.returned (vf a)/\∃n os,w'=Go.Sort.grow (Go.Sort.putRow enc (Go.Sort.ahead w n) b o ys.toArray) os):
  CXY P g #[.slice a zs.length c] m (λk=>(Tok.mk (.slice a N c) 1).blk=some k) [] [⟨.slice a N c,1⟩]
   (λv m' css tvs=>v=vf a/\css=[]/\tvs=[.slice a N c]/\rowRd m' a (ys.map enc)):=by
 refine⟨wy,λw hs _ _ ht iE hY=>?_⟩
 obtain⟨aS,x7⟩:=ht _ (List.mem_singleton.2 rfl)
 by_cases hz:zs=[]
 ·subst hz
  obtain rfl:ys=[]:=List.eq_nil_of_length_eq_zero (by simpa using hl)
  refine(h0 rfl w).mono ?_
  rintro e w' ⟨rfl,rfl⟩
  refine⟨_,m,[],[.slice a N c],rfl,Mem.off_le _ _,hs,NewM.refl _ _,Upd.refl _ _,rfl,λi x cs hi=>by simp at hi,rfl,λi t tv hi hv=>?_,iE,rfl,rfl,rfl,.inl (by simp)⟩
  cases i with
  | zero=>
   simp at hi hv;subst hi hv
   exact⟨rfl,aS,λb hb=>⟨.inl hb,by simp⟩⟩
  | succ i=>simp at hi
 ·have cI:(zs.map enc)≠[]:=by simp[hz]
  rcases hr with hr|⟨b,o,rfl,cz⟩
  ·exact absurd hr cI
  rcases aS with h2|⟨b',o',n',c',cur,T,fr,hv,gj,hh,bJ,dV,cT⟩
  ·cases h2
  simp only[Value.slice.injEq,Option.some.injEq,Addr.mk.injEq,and_true]at hv
  obtain⟨⟨rfl,rfl⟩,rfl,rfl⟩:=hv
  simp only[Nat.mul_one]at bJ cT
  have oW:b < w.heap.size:=(Array.getElem?_eq_some_iff.1 hh).1
  have hH:Go.Sort.Holds enc w b o zs.toArray:=λj hj=>by
   have hj':j < zs.length:=by simpa using hj
   have e:zs.toArray[j]! = zs[j]:=by rw[getElem!_pos _ j hj];simp
   refine⟨?_,?_⟩
   ·have:=hs _ _ _ (cz j (enc zs[j]) (by simp[hj']))
    rw[this,e]
   ·have h2:=dV (o+j) (by omega)
    obtain⟨f1,f2⟩:=fr
    simp only[World.frozen?,hh,Bool.and_eq_false_iff,decide_eq_false_iff_not]
    simp only at h2
    omega
  refine(h1 hz b o w rfl (by omega) hH oW).mono ?_
  rintro e w' ⟨rfl,n,os,hw'⟩
  have mM:(Go.Sort.putRow enc (Go.Sort.ahead w n) b o ys.toArray).heap.size=w.heap.size:=by simp[Go.Sort.putRow,Go.Sort.mapBlock,Go.Sort.ahead]
  have dU:w'.heap[b]?=some (.cells (Go.Sort.putCells enc o ys.toArray cur) T fr):=by
   rw[hw',Go.Sort.heap_grow_old _ _ (by rw[mM];exact oW)];exact Zn3 _ b _ hh
  have fc:∀k,k < w.heap.size->k≠b->w'.heap[k]?=w.heap[k]?:=λk aB hk=>by
   rw[hw',Go.Sort.heap_grow_old _ _ (by rw[mM];exact aB)];exact Zlv _ b _ hk
  have si:(Go.Sort.putCells enc o ys.toArray cur).size=cur.size:=by simp[Go.Sort.putCells]
  have cx:∀k:Nat,(Go.Sort.putCells enc o ys.toArray cur)[k]?=if o<=k/\k < o+zs.length then(ys.map enc)[k - o]? else cur[k]?:=λk=>by
   simp only[Go.Sort.putCells,Array.getElem?_mapIdx]
   by_cases hk:o<=k/\k < o+zs.length
   ·rw[if_pos hk,Array.getElem?_eq_getElem (by omega),Option.map_some,if_pos (by simp;omega)]
    have:k - o < ys.length:=by omega
    rw[getElem!_pos _ (k - o) (by simpa using this)]
    have e2:(ys.map enc)[k - o]?=some (enc (ys[k - o]'this)):=by
     rw[List.getElem?_map,zA3 this];rfl
    rw[e2];simp
   ·rw[if_neg hk]
    cases cur[k]? with
    | none=>rfl
    | some y=>rw[Option.map_some,if_neg (by simp;omega)]
  have sj:∀k e,m.k k=some e->k≠b:=λk e he e9=>by
   obtain⟨es,cl,h8,_⟩:=hs.k k e he
   rw[e9,hh]at h8;cases h8
  refine⟨_,m.upd b o (ys.map enc),[],[.slice (some ⟨b,o,none⟩) N c],rfl,⟨λb1 o1 v hv=>?_,λb1 e he=>Mem.off_le m _ |>.k b1 e he⟩,⟨λb1 o1 v hv=>?_,λb1 e he=>(hs.k b1 e he).same (fc b1 (hs.k b1 e he).lt (sj b1 e he))⟩,⟨λb1 o1 u hu=>?_,λ_ _ he=>.inl he⟩,⟨by rw[hw'];rfl,by rw[hw'];rfl,by rw[hw'];rfl,?_,λk hk hn=>?_,λk aB hk=>?_⟩,rfl,λi x cs hi=>by simp at hi,rfl,λi t tv hi hv=>?_,?_,rfl,rfl,rfl,.inr ⟨b,o,rfl,λj v hv=>?_⟩⟩
  ·have dt:b1≠b:=λe=>by
    subst e
    rw[Mem.off_free (by rfl)]at hv;cases hv
   rw[Mem.upd_other _ dt];exact(Mem.off_le _ _).c _ _ _ hv
  ·by_cases dt:b1=b
   ·subst dt
    simp only[World.cell?,dU,Option.isSome_none,Bool.false_eq_true,if_false]
    rw[cx]
    simp only[Mem.upd,true_and]at hv
    have aH:(ys.map enc).length=zs.length:=by simp[hl]
    rw[aH]at hv
    split at hv
    ·rename_i eO
     rw[if_pos eO];exact hv
    ·rename_i eO
     rw[if_neg eO]
     have:=hs _ _ _ hv
     simpa only[World.cell?,hh,Option.isSome_none,Bool.false_eq_true,if_false]using this
   ·rw[Mem.upd_other _ dt]at hv
    rw[ZbL (fc b1 (hs.lt hv) dt)];exact hs _ _ _ hv
  ·by_cases dt:b1=b
   ·subst dt;exact .inr (.inl rfl)
   ·rw[Mem.upd_other _ dt]at hu;exact .inl hu
  ·rw[hw']
   show w.heap.size<=(Go.Sort.grow _ os).heap.size
   have:(Go.Sort.grow (Go.Sort.putRow enc (Go.Sort.ahead w n) b o ys.toArray) os).heap.size=(Go.Sort.putRow enc (Go.Sort.ahead w n) b o ys.toArray).heap.size+os.size:=by simp[Go.Sort.grow]
   rw[this,mM];omega
  ·refine fc k hk λe=>hn (.inr ?_)
   rw[e];rfl
  ·by_cases e9:k=b
   ·subst e9
    intro c1 T1 fr1 sk i hi
    rw[dU]at sk
    simp only[Option.some.injEq,Obj.cells.injEq]at sk
    obtain⟨rfl,rfl,rfl⟩:=sk
    exact dV i (by rw[si]at hi;exact hi)
   ·exact hk.of_eq (fc k aB e9)
  ·cases i with
   | zero=>
    simp at hi hv;subst hi hv
    refine⟨rfl,.inr ⟨b,o,_,_,_,T,fr,rfl,gj,dU,by rw[si,Nat.mul_one];exact bJ,λi hi=>dV i (by rw[si]at hi;exact hi),λk gI iT=>?_⟩,λb1 dt=>⟨.inl dt,by simp⟩⟩
    simp only[Nat.mul_one]at gI iT
    simp only[Mem.upd,true_and]
    rw[if_neg (by simp;omega)]
    exact cT k gI iT
   | succ i=>simp at hi
  ·intro i j t t' b1 hi hj _ _
   have hi':=(zA0 hi).1
   have hj':=(zA0 hj).1
   simp at hi' hj'
   omega
  ·have sg:=(zA0 hv).1
   simp only[List.length_map]at sg
   simp only[Mem.upd,true_and]
   rw[if_pos ⟨by omega,by rw[List.length_map];omega⟩,Nat.add_sub_cancel_left];exact hv
end
def eqL{α:Type}(f:α->α->Bool):List α->List α->Bool
 | [],[]=>true
 | x::l,y::r=>f x y&&eqL f l r
 | _,_=>false
theorem Ziz{α:Type}{f:α->α->Bool}:∀{l r:List α},¬l.length=r.length->eqL f l r=false
 | [],[],h=>absurd rfl h
 | [],_::_,_=>rfl
 | _::_,[],_=>rfl
 | x::l,y::r,h=>by
  simp only[eqL];rw[Ziz (l:=l) (r:=r) (λe=>h (by simp[e])),Bool.and_false]
theorem Zn4{α:Type}{f:α->α->Bool}:∀{l r:List α} {i:Nat} {x y:α},l[i]?=some x->r[i]?=some y->f x y=false->eqL f l r=false
 | [],_,i,x,y,h,_,_=>by simp at h
 | _::_,[],i,x,y,_,h,_=>by simp at h
 | a::l,b::r,0,x,y,h,k,hf=>by simp at h k;subst h k;simp only[eqL,hf,Bool.false_and]
 | a::l,b::r,i+1,x,y,h,k,hf=>by
  simp only[eqL];rw[Zn4 (l:=l) (r:=r) (i:=i) (by simpa using h) (by simpa using k) hf,Bool.and_false]
theorem ZfO{α:Type}{f:α->α->Bool}:∀{l r:List α} {i:Nat} {x y:α},l[i]?=some x->r[i]?=some y->eqL f (l.take i) (r.take i)=true->f x y=true->eqL f (l.take (i+1)) (r.take (i+1))=true
 | [],_,i,x,y,h,_,_,_=>by simp at h
 | _::_,[],i,x,y,_,h,_,_=>by simp at h
 | a::l,b::r,0,x,y,h,k,_,hf=>by simp at h k;subst h k;simp[eqL,hf]
 | a::l,b::r,i+1,x,y,h,k,ht,hf=>by
  simp only[List.take_succ_cons,eqL,zA7]at ht ⊢
  exact⟨ht.1,ZfO (l:=l) (r:=r) (by simpa using h) (by simpa using k) ht.2 hf⟩
theorem ZpJ{α β:Type}{f:α->α->Bool}{er:α->β}:∀{l r:List α},l.map er=r.map er->(∀x∈l,∀y∈r,er x=er y->f x y=true)->eqL f l r=true
 | [],[],_,_=>rfl
 | [],_::_,h,_=>by simp at h
 | _::_,[],h,_=>by simp at h
 | x::l,y::r,h,hf=>by
  simp only[List.map_cons,List.cons.injEq]at h
  simp only[eqL,hf x (by simp) y (by simp) h.1,Bool.true_and]
  exact ZpJ h.2 λa ha b hb=>hf a (by simp[ha]) b (by simp[hb])
def ZkN(p q:Pt):Bool:=p.k == q.k&&(eqS p.s q.s&&(p.g == q.g&&(p.e.light&&(q.e.light&&p.e.same q.e))))
def ZkO(p q:Ac):Bool:=p.k == q.k&&(eqS p.s q.s&&(eqL ZkN p.parts q.parts&&(p.e.light&&(q.e.light&&p.e.same q.e))))
def Zgh(p q:Ru):Bool:=p.k == q.k&&(p.bg == q.bg&&(p.en == q.en&&((p.t.light&&(q.t.light&&p.t.same q.t))&&(eqS p.s q.s&&(p.n == q.n&&(eqL ZkO p.acts q.acts&&(eqS p.go q.go&&p.code == q.code)))))))
def Zf0(r:Ru):Bool:=decide (wR r<=19999)
mutual
theorem Zq3:∀t u:T,t.er=u.er->t.same u=true
 | .node k s0 s1 s2 s3 mn mx a c l,.node k' s0' s1' s2' s3' mn' mx' a' c' l',h=>by
  simp only[T.er,T.node.injEq]at h
  obtain⟨rfl,rfl,rfl,rfl,rfl,rfl,rfl,_,_,h⟩:=h
  rw[ZtP]
  simp only[T.k,T.s0,T.s1,T.s2,T.s3,T.mn,T.mx,T.subs,beq_self_eq_true,Bool.true_and]
  exact Zn5 l l' h
theorem Zn5:∀l r:List T,erL l=erL r->Zdu l r=true
 | [],[],_=>by simp[Zdu]
 | [],_::_,h=>by simp[erL]at h
 | _::_,[],h=>by simp[erL]at h
 | t::l,u::r,h=>by
  simp only[erL,List.cons.injEq]at h
  simp only[Zdu,Zq3 t u h.1,Zn5 l r h.2,Bool.and_self]
end
mutual
theorem Zmx:∀t u:E,t.er=u.er->t.same u=true
 | .node k x s g a c l,.node k' x' s' g' a' c' l',h=>by
  simp only[E.er,E.node.injEq]at h
  obtain⟨rfl,rfl,rfl,rfl,_,_,h⟩:=h
  rw[ZqH]
  simp only[E.k,E.x,E.s,E.g,E.subs,beq_self_eq_true,Bool.true_and,Zjc]
  exact Zn6 l l' h
theorem Zn6:∀l r:List E,ZnU l=ZnU r->ZbV l r=true
 | [],[],_=>by simp[ZbV]
 | [],_::_,h=>by simp[ZnU]at h
 | _::_,[],h=>by simp[ZnU]at h
 | t::l,u::r,h=>by
  simp only[ZnU,List.cons.injEq]at h
  simp only[ZbV,Zmx t u h.1,Zn6 l r h.2,Bool.and_self]
end
theorem Zn7{e f:E}(h:e.er=f.er):e.light=f.light:=by rw[<-Zfd e,h,Zfd]
theorem ZsL{e f:T}(h:e.er=f.er):e.light=f.light:=by rw[<-Zhz e,h,Zhz]
theorem Zvn{p q:Pt}(h:p.er=q.er)(hl:p.e.light=true):ZkN p q=true:=by
 simp only[Pt.er,Pt.mk.injEq]at h
 obtain⟨h1,h2,h3,h4⟩:=h
 simp only[ZkN,h1,h2,h3,ZgL,beq_self_eq_true,Bool.true_and,hl,<-Zn7 h4,Zmx _ _ h4]
theorem Zvo{p q:Ac}(h:p.er=q.er)(hl:LtA p):ZkO p q=true:=by
 simp only[Ac.er,Ac.mk.injEq]at h
 obtain⟨h1,h2,_,_,h3,h4⟩:=h
 simp only[ZkO,h1,h2,ZgL,beq_self_eq_true,Bool.true_and,hl.1,<-Zn7 h4,Zmx _ _ h4,Bool.and_true]
 exact ZpJ h3 λx hx y _ he=>Zvn he (hl.2 x hx)
theorem Zvp{p q:Ru}(h:p.er=q.er)(hl:LtR p):Zgh p q=true:=by
 simp only[Ru.er,Ru.mk.injEq]at h
 obtain⟨h1,h2,h3,h4,h5,h6,_,_,h7,h8,h9⟩:=h
 simp only[Zgh,h1,h2,h3,h5,h6,h8,h9,ZgL,beq_self_eq_true,Bool.true_and,hl.1,<-ZsL h4,Zq3 _ _ h4,Bool.and_true]
 exact ZpJ h7 λx hx y _ he=>Zvo he (hl.2 x hx)
theorem MkC.deadU{s:Sc}(h:MkC s)(n:Nat):(Go.Rx.deadU s n).length<=n*5:=by
 induction n with
 | zero=>simp[Go.Rx.deadU]
 | succ n ih=>
  rw[Go.Rx.deadU,zA1,Nat.succ_mul]
  refine Nat.add_le_add ih ?_
  split
  ·rename_i x hx
   exact Nat.le_trans (Zn1 n x x.rules.length) (h.all n x hx).len
  ·simp
theorem MkC.wR{s:Sc}(h:MkC s){i a:Nat}{x:Sta}{r:Ru}(hx:s.states[i]?=some x)(hr:x.rules[a]?=some r):Go.Rx.wR r<=405:=((h.all i x hx).all r (zA2 hr)).w
def w64(n:Int):Int:=IntKind.i64.wrap n
theorem Zjp(n:Int):IntKind.i64.wrap n=(if n % 18446744073709551616 ≥ 9223372036854775808 then n % 18446744073709551616 - 18446744073709551616 else n % 18446744073709551616):=by
 unfold IntKind.wrap
 simp only[show IntKind.i64.bits=64 from rfl,show IntKind.i64.signed=true from rfl,Bool.true_and]
 simp only[show(2:Int) ^ 64=18446744073709551616 by decide,show(2:Int) ^ (64 - 1)=9223372036854775808 by decide,decide_eq_true_eq]
theorem Zq4(a b:Int):IntKind.i64.wrap (w64 a+b)=w64 (a+b):=by
 unfold w64
 rw[Zjp,Zjp,Zjp]
 split <;> split <;> split <;> omega
theorem ZpK(a b:Int):w64 (a+b)=IntKind.i64.wrap (w64 a+b):=(Zq4 a b).symm
theorem Zvq(a b:Int):IntKind.i64.wrap (a+w64 b)=w64 (a+b):=by
 rw[Int.add_comm,Zq4,Int.add_comm]
theorem ZxB(a b:Int):w64 (a+w64 b)=w64 (a+b):=Zvq a b
theorem ZAF{n:Int}(h:I64 n):w64 n=n:=by
 unfold I64 at h
 unfold w64
 rw[Zjp]
 split <;> omega
theorem W_0:w64 0=0:=ZAF (by unfold I64;omega)
def Zmi(p:E->Bool)(l:List E):Int:=((l.filter p).length:Nat)
theorem Zq5(p:E->Bool)(l r:List E):Zmi p (l++r)=Zmi p l+Zmi p r:=by unfold Zmi;rw[List.filter_append,zA1];omega
theorem Zjq(p:E->Bool)(x:E)(l:List E):Zmi p (x::l)=(if p x then 1 else 0)+Zmi p l:=by
 unfold Zmi;rw[List.filter_cons];split <;> simp;omega
theorem Zud(p:E->Bool):Zmi p []=0:=rfl
theorem Zvr(p:E->Bool){l:List E}{q:Nat}{x:E}(h:l[q]?=some x):Zmi p (l.take (q+1))=Zmi p (l.take q)+(if p x then 1 else 0):=by
 rw[List.take_add_one,h,Zq5]
 show _+Zmi p [x]=_
 rw[Zjq,Zud];omega
def Zzg(x:E):Bool:=decide (ZnJ x.k > 0)
def ZzL(x:E):Bool:=x.k == 9||x.k == 10
def Zn8(e:E):Int:=if e.light then Zmi Zzg e.nodes else 0
def vrE(e:E):Int:=Zmi ZzL e.nodes
def paP(p:Pt):Int:=if p.k=1 then 0 else 1
def Zo5(p:Pt):Int:=if p.k=4 then Zn8 p.e else 0
def vrP(p:Pt):Int:=if p.k=4 then vrE p.e else 0
def paA(a:Ac):Int:=ZaF (a.parts.map paP)
def Zq6(a:Ac):Int:=(if a.k=3 then Zn8 a.e else 0)+ZaF (a.parts.map Zo5)
def vrA(a:Ac):Int:=(if a.k=3 then vrE a.e else 0)+ZaF (a.parts.map vrP)
def ruS(x:Sta):Int:=x.rules.length
def rgR(r:Ru):Int:=if r.k=1 then r.t.size else 0
def rgS(x:Sta):Int:=ZaF (x.rules.map rgR)
def ZkP(x:Sta):List Ac:=x.rules.flatMap (·.acts)
def Zco(s:Sc):List Ac:=s.states.flatMap ZkP
def msV(a b c d e f:Int):List Value:=[.int .i64 a,.int .i64 b,.int .i64 c,.int .i64 d,.int .i64 e,.int .i64 f]
def ms1(s:Sc):Int:=ZaF (s.states.map ruS)
def ms2(s:Sc):Int:=ZaF (s.states.map rgS)
def ms3(s:Sc):Int:=ZaF ((Zco s).map paA)
def ms4(s:Sc):Int:=ZaF ((Zco s).map Zq6)
def ms5(s:Sc):Int:=ZaF ((Zco s).map vrA)
def ZiA(s:Sc):List Value:=if s.light then msV s.states.length (w64 (ms1 s)) (w64 (ms2 s)) (w64 (ms3 s)) (w64 (ms4 s)) (w64 (ms5 s))else msV 0 0 0 0 0 0
theorem Za7{α:Type}(f:α->Int){l:List α}{q:Nat}{x:α}(h:l[q]?=some x):ZaF ((l.take (q+1)).map f)=ZaF ((l.take q).map f)+f x:=by
 rw[List.take_add_one,h,List.map_append,Zje]
 show _+(f x+0)=_
 omega
theorem Zn9{α β:Type}(f:α->List β){l:List α}{q:Nat}{x:α}(h:l[q]?=some x):(l.take (q+1)).flatMap f=(l.take q).flatMap f++f x:=by
 rw[List.take_add_one,h,List.flatMap_append]
 simp
theorem Zue{α β:Type}(f:α->List β){l:List α}{q:Nat}{x:α}(h:l[q]?=some x){j:Nat}{y:β}(hj:(f x)[j]?=some y):(l.flatMap f)[((l.take q).flatMap f).length+j]?=some y:=by
 have e:l=l.take q++x::l.drop (q+1):=by
  have hq:=(zA0 h).1
  rw[<-(zA0 h).2,<-List.drop_eq_getElem_cons hq,List.take_append_drop]
 have e2:l.flatMap f=(l.take q).flatMap f++(f x++(l.drop (q+1)).flatMap f):=by
  conv=>lhs;rw[e]
  rw[List.flatMap_append,List.flatMap_cons]
 rw[e2,zA4 (by omega),Nat.add_sub_cancel_left,zA5 (zA0 hj).1]
 exact hj
theorem Zvs{m:Mem}{s:Sc}(hr:RepC m s){a:Ac}(h:a∈Zco s):RepA m a:=by
 unfold Zco ZkP at h
 obtain⟨x,hx,h⟩:=List.mem_flatMap.1 h
 obtain⟨r,dY,h⟩:=List.mem_flatMap.1 h
 exact((hr.all x hx).all r dY).all a h
end Go.Rx
namespace Go.Rx
open Go Go.Eng
end Go.Rx
namespace Go.Rx
open Go Go.Eng Go.RowKit
theorem Zuf(f:Sta->Int)(hf:∀x,0<=f x):∀l:List Sta,0<=ZaF (l.map f)
 | []=>by simp[ZaF]
 | x::l=>by have:=hf x;have:=Zuf f hf l;simp only[List.map_cons,ZaF];omega
theorem MkC.ms1{s:Sc}(h:MkC s):0<=Go.Rx.ms1 s/\Go.Rx.ms1 s<=20:=by
 refine⟨Zuf _ (λx=>by unfold ruS;omega) _,?_⟩
 have:=ZgK ruS 5 s.states (λx hx=>by
  obtain⟨i,hi⟩:=List.getElem?_of_mem hx
  have:=(h.all i x hi).len
  unfold ruS;omega)
 have h2:=h.len.2
 unfold Go.Rx.ms1
 omega
section
variable {P:Program} {K:TypeId} {κ ν:Type} [DecidableEq κ] {f:κ->Value} {g:ν->Value}
def ZAG(f:κ->Value)(g:ν->Value)(L:List (κ×ν)):List (Value×Value):=L.map λq=>(f q.1,g q.2)
variable (he:∀a b:κ,EqIs P K (f a) (f b) (decide (a=b)))
include he
theorem Zq7(k:κ):∀L:List (κ×ν),k ∉ L.map (·.1)->MapFind P K (f k) (ZAG f g L) none
 | [],_=>rfl
 | q::L,h=>by
  simp only[List.map_cons,List.mem_cons,not_or]at h
  have:=he k q.1
  rw[decide_eq_false h.1]at this
  exact .inr ⟨this,Zq7 k L h.2⟩
theorem Zug(k:κ)(z:ν):∀L:List (κ×ν),k ∉ L.map (·.1)->ZiR P K (f k) (g z) (ZAG f g L) (ZAG f g (L++[(k,z)]))
 | [],_=>rfl
 | q::L,h=>by
  simp only[List.map_cons,List.mem_cons,not_or]at h
  have:=he k q.1
  rw[decide_eq_false h.1]at this
  exact .inr ⟨this,_,Zug k z L h.2,rfl⟩
theorem Zuh(k:κ)(z:ν):∀L:List (κ×ν),(k,z)∈L->(L.map (·.1)).Nodup->MapFind P K (f k) (ZAG f g L) (some (g z))
 | [],h,_=>by cases h
 | q::L,h,hn=>by
  have h0:=he k q.1
  rw[List.map_cons,List.nodup_cons]at hn
  rcases List.mem_cons.1 h with h|h
  ·subst h
   rw[decide_eq_true rfl]at h0
   exact .inl ⟨h0,rfl⟩
  ·have:¬k=q.1:=λe=>hn.1 (by rw[<-e];exact List.mem_map.2 ⟨_,h,rfl⟩)
   rw[decide_eq_false this]at h0
   exact .inr ⟨h0,Zuh k z L h hn.2⟩
end
theorem ZsM{s t:Sc}(hs:s.light=true)(ht:t.light=true)(eO:∀x∈t.states,x∈s.states)(cR:∀x∈s.states,x∈t.states)(name:ByteArray):Zsw t name=Zsw s name:=by
 unfold Zsw
 rw[hs,ht,Bool.and_true,Bool.and_true,Bool.eq_iff_iff,List.any_eq_true,List.any_eq_true]
 exact⟨λ⟨x,h1,h2⟩=>⟨x,eO x h1,h2⟩,λ⟨x,h1,h2⟩=>⟨x,cR x h1,h2⟩⟩
structure Turn (s t:Sc):Prop where
 n:t.n=s.n
 vars:t.vars=s.vars
 len:t.states.length=s.states.length
 sub:∀x∈t.states,x∈s.states
 sup:∀x∈s.states,x∈t.states
 dif:∀(i j:Nat)(x y:Sta),t.states[i]?=some x->t.states[j]?=some y->i≠j->eqS x.s y.s=false
section
variable {s t:Sc} (h:MkC s) (hT:Turn s t)
include h hT
theorem Turn.weight:t.weight<=8200:=by
 have h1:=ZgK wS 2025 t.states (λx hx=>by
  obtain⟨i,_,hm⟩:=h.state (hT.sub x hx)
  exact hm.w)
 have h2:=h.len
 have h3:=h.vlen
 unfold Sc.weight
 rw[hT.vars,hT.len]
 rw[hT.len]at h1
 omega
theorem Turn.light:t.light=true:=by unfold Sc.light;exact decide_eq_true (by have:=hT.weight h;omega)
theorem Turn.totals(i k:Nat):Rx.totals t i k<=600:=by
 have h0:=h.len
 have h1:=ZgK (λx:Sta=>ZaF (x.rules.map Rx.sizeR)) 130 (t.states.take i) (λx hx=>by
  obtain⟨j,_,hm⟩:=h.state (hT.sub x (List.mem_of_mem_take hx))
  have:=hm.sizes x.rules.length
  rwa [List.take_length]at this)
 rw[List.length_take,hT.len]at h1
 unfold Rx.totals
 cases hx:t.states[i]? with
 | none=>show _+0<=_;omega
 | some x=>
  have hi:=(zA0 hx).1
  rw[hT.len]at hi
  obtain⟨j,_,hm⟩:=h.state (hT.sub x (zA2 hx))
  have:=hm.sizes (k+1)
  show _+ZaF ((x.rules.take (k+1)).map Rx.sizeR)<=_
  omega
theorem Turn.at0:∀p∈t.places,atS t p=0:=by
 intro p hp
 have hP:∀{r:Ru} {a:Ac},MkA (Zcn r) a->∀{n:Nat} {q:Pt},a.parts[n]?=some q->Zmg t r a.parts n q=0:=λ{r a} ha {n q} hq=>by
  have e:Zmg t r a.parts n q=Zmg s r a.parts n q:=by unfold Zmg ZhJ ZdH ZhJ;rw[hT.vars]
  rw[e]
  cases ha with
  | send _ _ l hl=>exact h.part hl hq
  | set _ _ _ _ l hl=>exact h.part hl hq
  | let_ _ _ e _=>simp at hq
 rcases ZnM t p hp with⟨i,hi,v,hv⟩|⟨hv,hs|⟨i,hi,x,hx,hr|⟨k,hk,r,hr,ha|⟨j,hj,a,ha,hq|⟨n,hn,q,hq⟩⟩⟩⟩⟩
 ·have e:atS t p=ZcS t i v:=by
   unfold atS
   rw[if_pos (by omega),show p.v.toNat=i by omega,hv]
  have e2:ZcS t i v=ZcS s i v:=by unfold ZcS;rw[hT.vars]
  rw[e,e2];exact h.var (by rw[<-hT.vars];exact hv)
 all_goals have hv':¬p.v ≥ 0:=by omega
 ·unfold atS
  rw[if_neg hv',if_pos hs]
  have e:ZnK t=ZnK s:=by unfold ZnK;rw[hT.n,hT.len,hT.vars]
  rw[e];exact h.whole
 all_goals
  have hs':¬p.s < 0:=by omega
  have kN:p.s.toNat=i:=by omega
  obtain⟨i0,qv,hm⟩:=h.state (hT.sub x (zA2 ‹t.states[i]?=some x›))
 ·have e:atS t p=ZnL t i x:=by
   unfold atS
   rw[if_neg hv',if_neg hs',kN,hx]
   exact if_pos hr
  rw[e]
  have h1:ZfY x.s=true:=Zt0 _ (zA2 hm.name)
  have h2:decide (x.rules.length > 12)=false:=decide_eq_false (by have:=hm.len;omega)
  have h3:((t.states.take i).any λy=>eqS y.s x.s)=false:=by
   rw[List.any_eq_false]
   intro y hy
   obtain⟨j,hj⟩:=List.getElem?_of_mem hy
   have kM:j < i:=by have:=(zA0 hj).1;rw[List.length_take]at this;omega
   rw[List.getElem?_take_of_lt kM]at hj
   rw[hT.dif j i y x hj hx (by omega)];simp
  simp[ZnL,ZcE,h1,h2,h3]
 all_goals
  have hr':¬p.r < 0:=by omega
  have ib:p.r.toNat=k:=by omega
  have hR:=hm.all r (zA2 hr)
 ·have e:atS t p=ZqL t r (Rx.totals t i k):=by
   unfold atS
   rw[if_neg hv',if_neg hs',kN,hx]
   show(if p.r < 0 then _ else _)=_
   rw[if_neg hr',ib,hr]
   exact if_pos ha
  have e2:∀n,ZqL t r n=ZqL s r n:=λn=>by unfold ZqL;rw[ZsM h.light (hT.light h) hT.sub hT.sup]
  rw[e,e2];exact h.rule hR (hT.totals h i k)
 all_goals
  have ha':¬p.a < 0:=by omega
  have j2:p.a.toNat=j:=by omega
  have hA:=hR.all a (zA2 ‹r.acts[j]?=some a›)
 ·have e:atS t p=Zd9 t r a:=by
   unfold atS
   rw[if_neg hv',if_neg hs',kN,hx]
   show(if p.r < 0 then _ else _)=_
   rw[if_neg hr',ib,hr]
   show(if p.a < 0 then _ else _)=_
   rw[if_neg ha',j2,‹r.acts[j]?=some a›]
   exact if_pos hq
  have e2:Zd9 t r a=Zd9 s r a:=by unfold Zd9 ZhJ ZdH ZhJ;rw[hT.vars]
  rw[e,e2];exact h.action hA
 ·have e:atS t p=Zmg t r a.parts n q:=by
   unfold atS
   rw[if_neg hv',if_neg hs',kN,hx]
   show(if p.r < 0 then _ else _)=_
   rw[if_neg hr',ib,hr]
   show(if p.a < 0 then _ else _)=_
   rw[if_neg ha',j2,‹r.acts[j]?=some a›]
   show(if p.p < 0 then _ else _)=_
   rw[if_neg (by omega),show p.p.toNat=n by omega,hq]
  rw[e];exact hP hA hq
theorem Turn.check:t.check=(top,0):=by
 have e:t.problems=[]:=by
  unfold Sc.problems
  rw[List.filterMap_eq_nil_iff]
  intro p hp
  rw[if_pos (hT.at0 h p hp)]
 unfold Sc.check
 rw[if_pos (hT.light h),e]
end
def kp(r:Ru):Bool:=decide (r.k ≥ 3)
def Ztx(x:Sta)(j:Nat):Nat:=((x.rules.take j).filter kp).length
theorem Zoa{x:Sta}{j:Nat}{r:Ru}(h:x.rules[j]?=some r):Ztx x (j+1)=Ztx x j+(if kp r then 1 else 0):=by
 unfold Ztx
 rw[List.take_add_one,h,List.filter_append,zA1]
 congr 1
 show([r].filter kp).length=_
 rw[List.filter_cons]
 split <;> rfl
theorem ZsN{x:Sta}{i j:Nat}(h:i<=j):Ztx x i<=Ztx x j:=by
 induction j with
 | zero=>rw[show i=0 by omega];exact Nat.le_refl _
 | succ j ih=>
  by_cases e:i=j+1
  ·rw[e];exact Nat.le_refl _
  ·refine Nat.le_trans (ih (by omega)) ?_
   cases hx:x.rules[j]? with
   | some r=>rw[Zoa hx];omega
   | none=>unfold Ztx;rw[List.take_add_one,hx];simp
theorem Zui{x:Sta}{i j:Nat}{r:Ru}(hr:x.rules[i]?=some r)(hk:kp r=true)(h:i < j):Ztx x i < Ztx x j:=by
 have h1:=Zoa hr
 rw[hk,if_pos rfl]at h1
 have:=ZsN (x:=x) (show i+1<=j by omega)
 omega
theorem Zvt{x:Sta}{i j:Nat}{p q:Ru}(hp:x.rules[i]?=some p)(hq:x.rules[j]?=some q)(kpp:kp p=true)(kpq:kp q=true)(h:Ztx x i=Ztx x j):i=j:=by
 rcases Nat.lt_trichotomy i j with h1|h1|h1
 ·have:=Zui hp kpp h1;omega
 ·exact h1
 ·have:=Zui hq kpq h1;omega
def ZCb(x:Sta)(d:Dd):Dd:=(d.1,(Ztx x d.2.toNat:Nat))
def phi(s:Sc)(d:Dd):Dd:=match s.states[d.1.toNat]? with
 | some x=>ZCb x d
 | none=>d
theorem ZxC{s:Sc}{d:Dd}(h:d∈Zxz s):∃(i k:Nat)(x:Sta)(r:Ru),d=((i:Int),(k:Int))/\s.states[i]?=some x/\x.rules[k]?=some r/\kp r=true/\phi s d=((i:Int),((Ztx x k:Nat):Int)):=by
 obtain⟨i,x,k,r,h1,h2,h3,rfl⟩:=Zvg.1 h
 refine⟨i,k,x,r,rfl,h1,h2,?_,?_⟩
 ·unfold Zuc at h3
  rw[Bool.or_eq_true,zA7,zA7]at h3
  unfold kp
  rcases h3 with⟨h4,_⟩|⟨h4,_⟩
  ·have:r.k=4:=by simpa using h4
   exact decide_eq_true (by omega)
  ·have:r.k=3:=by simpa using h4
   exact decide_eq_true (by omega)
 ·unfold phi ZCb
  simp only[zA8,h1]
end Go.Rx
namespace Go.Rx
open Go Go.Eng
def Zq8(l:List Int):List Int:=l.mergeSort λx y=>decide (x<=y)
theorem Zob(l:List Int):(Zq8 l).length=l.length:=List.length_mergeSort l
theorem ZsO{l:List Int}{x:Int}:x∈Zq8 l↔x∈l:=List.mem_mergeSort
theorem ZgP(l:List Int):(Zq8 l).Pairwise (·<=·):=
 (List.pairwise_mergeSort (le:=λx y:Int=>decide (x<=y)) (λa b c h1 h2=>by simp at h1 h2 ⊢;omega) (λa b=>by simp;omega) l).imp λh=>zA6 h
def Zuj(l:List Int):List Int:=Go.Lib.compact (Zq8 l)
theorem Zez{zs:List Int}(h:zs.Pairwise (·<=·)):∀m,m<=zs.length->(Go.Lib.compactUpTo zs.toArray m).Pairwise (· < ·)/\∀x,x∈Go.Lib.compactUpTo zs.toArray m↔x∈zs.take m
 | 0,_=>by simp[Go.Lib.compactUpTo]
 | m+1,hm=>by
  obtain⟨h1,h2⟩:=Zez h m (by omega)
  have aB:m < zs.length:=hm
  have em:zs.toArray[m]! = zs[m]:=by rw[getElem!_pos _ m (by simpa using aB)];simp
  have cJ:∀x,x∈zs.take (m+1)↔x∈zs.take m\/x=zs[m]:=λx=>by
   rw[List.take_add_one,zA3 aB,List.mem_append];simp
  have cy:∀x∈zs.take m,∀k,m<=k+1->(hk:k < zs.length)->k < m->x<=zs[k]:=λx hx k gI hk iT=>by
   obtain⟨i,hi,rfl⟩:=List.mem_iff_getElem.1 hx
   rw[List.length_take]at hi
   rw[List.getElem_take]
   by_cases e:i=k
   ·subst e;exact Int.le_refl _
   ·exact List.pairwise_iff_getElem.1 h i k (by omega) hk (by omega)
  rw[Go.Lib.compactUpTo_succ]
  cases hk:Go.Lib.keeps zs.toArray m with
  | true=>
   rw[if_pos rfl,em]
   refine⟨List.pairwise_append.2 ⟨h1,List.pairwise_singleton _ _,λx hx y hy=>?_⟩,λx=>?_⟩
   ·rw[List.mem_singleton]at hy;subst hy
    have hx:=(h2 x).1 hx
    have h0:0 < m:=by
     cases m with
     | zero=>simp at hx
     | succ m=>omega
    have cI:zs.toArray[m]!≠zs.toArray[m - 1]!:=by
     unfold Go.Lib.keeps at hk
     have:=zA6 hk
     rcases this with h|h
     ·omega
     ·exact h
    rw[em,getElem!_pos _ (m - 1) (by simp;omega)]at cI
    simp only[List.getElem_toArray]at cI
    have h3:=cy x hx (m - 1) (by omega) (by omega) (by omega)
    have h4:=List.pairwise_iff_getElem.1 h (m - 1) m (by omega) aB (by omega)
    omega
   ·rw[List.mem_append,h2,cJ,List.mem_singleton]
  | false=>
   rw[if_neg (by decide),List.append_nil]
   refine⟨h1,λx=>?_⟩
   rw[h2,cJ]
   refine⟨.inl,λhx=>hx.elim id λe=>?_⟩
   unfold Go.Lib.keeps at hk
   have hk:=of_decide_eq_false hk
   have dQ:m≠0:=λe=>hk (.inl e)
   have he:zs.toArray[m]! = zs.toArray[m - 1]!:=Classical.byContradiction λe=>hk (.inr e)
   rw[em,getElem!_pos _ (m - 1) (by simp;omega)]at he
   simp only[List.getElem_toArray]at he
   rw[e,he]
   exact List.mem_iff_getElem.2 ⟨m - 1,by rw[List.length_take];omega,by rw[List.getElem_take]⟩
theorem ZxD(l:List Int):(Zuj l).Pairwise (· < ·):=(Zez (ZgP l) _ (Nat.le_refl _)).1
theorem Zvu{l:List Int}{x:Int}:x∈Zuj l↔x∈l:=by
 have:=(Zez (ZgP l) _ (Nat.le_refl _)).2 x
 rw[List.take_length,ZsO]at this
 exact this
theorem ZzM{l r:List Int}(hl:l.Pairwise (· < ·))(hr:r.Pairwise (· < ·))(h:∀x,x∈l↔x∈r):l=r:=by
 have p:l.Perm r:=(List.perm_ext_iff_of_nodup (hl.imp λh=>by omega) (hr.imp λh=>by omega)).2 h
 exact p.eq_of_pairwise (le:=λx y:Int=>x < y) (λa b _ _ h1 h2=>by omega) hl hr
theorem Zoc{l:List Int}(h:l.Pairwise (· < ·)):Zuj l=l:=ZzM (ZxD l) h λx=>Zvu
def ZzN(L:List (ByteArray×Nat))(n:ByteArray):Bool:=L.any λq=>decide (q.1=n)
theorem ZfP{L:List (ByteArray×Nat)}{n:ByteArray}:ZzN L n=true↔n∈L.map (·.1):=by
 unfold ZzN
 rw[List.any_eq_true,List.mem_map]
 exact⟨λ⟨q,h1,h2⟩=>⟨q,h1,zA6 h2⟩,λ⟨q,h1,h2⟩=>⟨q,h1,decide_eq_true h2⟩⟩
def ZcV(L:List Sta):Nat->List (ByteArray×Nat)
 | 0=>[]
 | i+1=>match L[i]? with
  | some x=>if ZzN (ZcV L i) x.s then ZcV L i else ZcV L i++[(x.s,i)]
  | none=>ZcV L i
theorem ZsP{L:List Sta}{i:Nat}{x:Sta}(h:L[i]?=some x):ZcV L (i+1)=if ZzN (ZcV L i) x.s then ZcV L i else ZcV L i++[(x.s,i)]:=by
 rw[ZcV,h]
theorem ZkQ(L:List Sta):∀i,((ZcV L i).map (·.1)).Nodup
 | 0=>List.nodup_nil
 | i+1=>by
  have ih:=ZkQ L i
  rw[ZcV]
  split
  ·split
   ·exact ih
   ·rename_i h
    rw[ZfP]at h
    rw[List.map_append,List.nodup_append]
    refine⟨ih,by simp,λa ha b hb e=>h ?_⟩
    simp at hb;subst hb;subst e;exact ha
  ·exact ih
theorem Zq9(L:List Sta)(n:ByteArray):∀i,n∈(ZcV L i).map (·.1)↔∃j x,j < i/\L[j]?=some x/\x.s=n
 | 0=>by simp[ZcV]
 | i+1=>by
  have ih:=Zq9 L n i
  have more:(∃j x,j < i+1/\L[j]?=some x/\x.s=n)↔(∃j x,j < i/\L[j]?=some x/\x.s=n)\/∃x,L[i]?=some x/\x.s=n:=by
   constructor
   ·rintro⟨j,x,h1,h2,h3⟩
    by_cases e:j=i
    ·subst e;exact .inr ⟨x,h2,h3⟩
    ·exact .inl ⟨j,x,by omega,h2,h3⟩
   ·rintro(⟨j,x,h1,h2,h3⟩|⟨x,h2,h3⟩)
    ·exact⟨j,x,by omega,h2,h3⟩
    ·exact⟨i,x,by omega,h2,h3⟩
  rw[more,<-ih,ZcV]
  cases hx:L[i]? with
  | none=>simp
  | some x=>
   simp only[Option.some.injEq,exists_eq_left']
   split
   ·rename_i h
    rw[ZfP]at h
    exact⟨.inl,λk=>k.elim id λe=>e ▸ h⟩
   ·rw[List.map_append,List.mem_append]
    simp[eq_comm]
theorem Zra(L:List Sta)(n:ByteArray)(k:Nat):∀i,(n,k)∈ZcV L i↔k < i/\(∃x,L[k]?=some x/\x.s=n)/\∀j y,j < k->L[j]?=some y->y.s≠n
 | 0=>by simp[ZcV]
 | i+1=>by
  have ih:=Zra L n k i
  have hk:=Zq9 L n i
  rw[ZcV]
  cases hx:L[i]? with
  | none=>
   simp only
   rw[ih]
   refine⟨λh=>⟨by omega,h.2⟩,λ⟨h1,⟨x,h2,h3⟩,h4⟩=>⟨?_,⟨x,h2,h3⟩,h4⟩⟩
   by_cases e:k=i
   ·subst e;rw[hx]at h2;cases h2
   ·omega
  | some x=>
   simp only
   split
   ·rename_i eO
    rw[ZfP]at eO
    rw[ih]
    refine⟨λh=>⟨by omega,h.2⟩,λ⟨h1,⟨y,h2,h3⟩,h4⟩=>⟨?_,⟨y,h2,h3⟩,h4⟩⟩
    by_cases e:k=i
    ·subst e
     rw[hx]at h2;cases h2
     subst h3
     obtain⟨j,z,g1,g2,g3⟩:=hk.1 eO
     exact absurd g3 (h4 j z g1 g2)
    ·omega
   ·rename_i eO
    rw[ZfP]at eO
    rw[List.mem_append,ih,List.mem_singleton,Prod.mk.injEq]
    constructor
    ·rintro(h|⟨rfl,rfl⟩)
     ·exact⟨by omega,h.2⟩
     ·refine⟨by omega,⟨x,hx,rfl⟩,λj y h1 h2 h3=>eO (hk.2 ⟨j,y,h1,h2,h3⟩)⟩
    ·rintro⟨h1,⟨y,h2,h3⟩,h4⟩
     by_cases e:k=i
     ·subst e
      rw[hx]at h2;cases h2
      exact .inr ⟨h3.symm,rfl⟩
     ·exact .inl ⟨by omega,⟨y,h2,h3⟩,h4⟩
def goI(L:List Sta)(n:ByteArray):Option Nat:=L.findIdx? λx=>decide (x.s=n)
theorem Zmy{L:List Sta}{n:ByteArray}{k:Nat}:goI L n=some k↔(n,k)∈ZcV L L.length:=by
 rw[Zra,goI,List.findIdx?_eq_some_iff_getElem]
 constructor
 ·rintro⟨h,h1,h2⟩
  refine⟨h,⟨L[k],zA3 h,zA6 h1⟩,λj y hj hy e=>?_⟩
  obtain⟨g1,g2⟩:=zA0 hy
  have:=h2 j hj
  rw[g2]at this
  simp[e]at this
 ·rintro⟨h,⟨x,h1,h2⟩,h3⟩
  refine⟨h,?_,λj hj=>?_⟩
  ·rw[(zA0 h1).2];exact decide_eq_true h2
  ·have:=h3 j L[j] hj (zA3 (by omega))
   simpa using this
theorem ZzO{L:List Sta}{n:ByteArray}{k:Nat}(h:goI L n=some k):k < L.length:=((Zra L n k _).1 (Zmy.1 h)).1
def ZyP(L:List Sta)(r:Ru):Option Int:=if r.go.size=0 then none else(goI L r.go).map λk:Nat=>(k:Int)
def Zlw(L:List Sta)(l:List Ru):List Int:=l.filterMap (ZyP L)
theorem Zvv{L:List Sta}{l:List Ru}{i:Nat}{r:Ru}(h:l[i]?=some r):Zlw L (l.take (i+1))=Zlw L (l.take i)++(ZyP L r).toList:=by
 unfold Zlw
 rw[List.take_add_one,h,List.filterMap_append]
 congr 1
theorem ZxE(L:List Sta)(l:List Ru):(Zlw L l).length<=l.length:=List.length_filterMap_le _ _
def ZyQ(L:List Sta)(x:Sta):List Int:=Zuj (Zlw L x.rules)
end Go.Rx
namespace Go.Rx
open Go Go.Eng Go.RowKit
def ZgQ(p q:Va):Bool:=eqS p.s q.s&&(p.b == q.b&&(eqS p.t q.t&&Zjc p.x q.x))
def ZgR(p q:Sta):Bool:=eqS p.s q.s&&eqL Zgh p.rules q.rules
def ZbH(p q:Sc):Bool:=p.light&&(q.light&&(p.n == q.n&&(eqL ZgQ p.vars q.vars&&eqL ZgR p.states q.states)))
theorem ZpL(p:Va):ZgQ p p=true:=by simp[ZgQ,ZgL,Zjc]
theorem Zuk{α:Type}{f:α->α->Bool}(h:∀x,f x x=true):∀l:List α,eqL f l l=true
 | []=>rfl
 | x::l=>by simp[eqL,h,Zuk h l]
theorem ZsQ{p q:Sta}(h:p.er=q.er)(hl:∀r∈p.rules,LtR r):ZgR p q=true:=by
 obtain⟨h1,h2,_⟩:=Zmw h
 simp only[ZgR,h1,ZgL,Bool.true_and]
 exact ZpJ h2 λx hx y _ he=>Zvp he (hl x hx)
theorem ZgS{p q:Sc}(h:p.er=q.er)(hl:p.light=true):ZbH p q=true:=by
 obtain⟨h1,h2⟩:=Zq0 h
 have h3:q.light=true:=by rw[<-Zjm h];exact hl
 simp only[ZbH,hl,h3,h1,h2,beq_self_eq_true,Zuk ZpL,Bool.true_and]
 exact ZpJ (ZgO h) λx hx y _ he=>ZsQ he (Zu8 hl x hx)
end Go.Rx
namespace Go.Rx
open Go Go.Eng
def Zdv(out:List ByteArray)(n:ByteArray):List ByteArray:=if out.any (λy=>eqS n y)then out else out++[n]
def ZcF(out:List ByteArray)(p:Pt):List ByteArray:=if p.k=2 then Zdv out p.s else if p.k=4 then p.e.vars.foldl Zdv out else out
def Zck(out:List ByteArray)(a:Ac):List ByteArray:=if a.k=3 then a.e.vars.foldl Zdv out else out
def ZeS(w:Bool)(out:List ByteArray)(a:Ac):List ByteArray:=if w then(if a.k=2\/a.k=3 then Zdv out a.s else out)else a.parts.foldl ZcF (Zck out a)
def Zjr(w:Bool)(r:Ru):List ByteArray:=if Zf0 r then r.acts.foldl (ZeS w) []else[]
theorem Zfe{α β:Type}(f:β->α->β)(b:β){l:List α}{i:Nat}{x:α}(h:l[i]?=some x):(l.take (i+1)).foldl f b=f ((l.take i).foldl f b) x:=by
 rw[List.take_add_one,h,List.foldl_append];rfl
theorem Zmz(out:List ByteArray)(n:ByteArray):out.length<=(Zdv out n).length/\(Zdv out n).length<=out.length+1:=by
 unfold Zdv;split <;> simp
theorem ZzP{out:List ByteArray}{n:ByteArray}(h:out.any (λy=>eqS n y)=false):Zdv out n=out++[n]:=by unfold Zdv;rw[h,if_neg (by decide)]
theorem ZzQ{out:List ByteArray}{n:ByteArray}(h:out.any (λy=>eqS n y)=true):Zdv out n=out:=by unfold Zdv;rw[h,if_pos rfl]
theorem Zul{α:Type}{f:List ByteArray->α->List ByteArray}{w:α->Nat}(h:∀o x,o.length<=(f o x).length/\(f o x).length<=o.length+w x):∀(l:List α)(o:List ByteArray),o.length<=(l.foldl f o).length/\(l.foldl f o).length<=o.length+(l.map w).sum
 | [],o=>by simp
 | x::l,o=>by
  have h1:=h o x
  have h2:=Zul h l (f o x)
  simp only[List.foldl_cons,List.map_cons,List.sum_cons];omega
theorem ZmA(l:List ByteArray)(o:List ByteArray):o.length<=(l.foldl Zdv o).length/\(l.foldl Zdv o).length<=o.length+l.length:=by
 have:=Zul (f:=Zdv) (w:=λ_=>1) Zmz l o
 rwa [List.map_const',List.sum_replicate_nat,Nat.mul_one]at this
theorem Zrb(e:E):e.vars.length<=10000:=by
 unfold E.vars
 split
 ·rename_i h
  have h2:=Zd8 e []
  have h3:=zA6 (show decide (e.nodes.length<=10000)=true from h)
  simp only[List.length_nil]at h2
  omega
 ·simp
theorem Zum(e:E):(e.vars.length:Int)<=nE e:=by
 unfold E.vars nE E.size
 cases h:e.light with
 | false=>simp
 | true=>
  have h2:=Zd8 e []
  simp only[List.length_nil]at h2
  simp;omega
theorem ZmB{α:Type}{f:List ByteArray->α->List ByteArray}{w:α->Int}(h:∀o x,((f o x).length:Int)<=o.length+w x):∀(l:List α)(o:List ByteArray),((l.foldl f o).length:Int)<=o.length+ZaF (l.map w)
 | [],o=>by simp[ZaF]
 | x::l,o=>by
  have h1:=h o x
  have h2:=ZmB h l (f o x)
  simp only[List.foldl_cons,List.map_cons,ZaF];omega
theorem ZpM(o:List ByteArray)(p:Pt):((ZcF o p).length:Int)<=o.length+(1+nE p.e):=by
 have h0:=(ZfL p.e).1
 have h1:=Zum p.e
 have h2:=Zmz o p.s
 have h3:=ZmA p.e.vars o
 unfold ZcF
 split
 ·omega
 ·split <;> omega
theorem ZpN(o:List ByteArray)(a:Ac):((Zck o a).length:Int)<=o.length+nE a.e:=by
 have h0:=(ZfL a.e).1
 have h1:=Zum a.e
 have h3:=ZmA a.e.vars o
 unfold Zck
 split <;> omega
theorem ZxF(l:List Pt):ZaF (l.map λp=>1+nE p.e)=l.length+ZaF (l.map λp=>nE p.e):=by
 induction l with
 | nil=>rfl
 | cons p l ih=>simp only[List.map_cons,ZaF,List.length_cons,ih];omega
theorem ZhA(o:List ByteArray)(a:Ac)(j:Nat):(((a.parts.take j).foldl ZcF (Zck o a)).length:Int)<=o.length+wA a:=by
 have h1:=ZmB ZpM (a.parts.take j) (Zck o a)
 have h2:=ZpN o a
 have h3:=ZfK (λp:Pt=>1+nE p.e) (λp=>by have:=(ZfL p.e).1;omega) a.parts j
 have h4:=ZxF a.parts
 unfold wA
 omega
theorem ZsR(w:Bool)(o:List ByteArray)(a:Ac):((ZeS w o a).length:Int)<=o.length+wA a:=by
 have h1:=ZhA o a a.parts.length
 rw[List.take_length]at h1
 have h2:=Zmz o a.s
 have h3:=(ZfL a.e).1
 have h4:=Zc3 (λp:Pt=>nE p.e) (λp=>(ZfL p.e).1) a.parts
 have h5:1<=wA a:=by unfold wA;omega
 unfold ZeS
 cases w with
 | true=>rw[if_pos rfl];split <;> omega
 | false=>rw[if_neg (by decide)];omega
theorem ZxG(w:Bool){r:Ru}(h:Zf0 r=true)(q:Nat){a:Ac}(ha:r.acts[q]?=some a):(((r.acts.take q).foldl (ZeS w) []).length:Int)+wA a<=20000:=by
 have h1:=ZmB (ZsR w) (r.acts.take q) []
 have h2:=ZfK wA ZqJ r.acts (q+1)
 rw[ZfJ wA ha]at h2
 have h3:=zA6 (show decide (wR r<=19999)=true from h)
 have h4:=(ZfM r.t).1
 have h5:0<=Zgg r.t.size 20000:=by unfold Zgg;split <;> omega
 unfold wR at h3
 simp only[List.length_nil]at h1
 split at h3 <;> omega
def mxI(n g:Int):Int:=if g > n then g else n
def Zmj(n:Int)(p:Pt):Int:=if p.k=3 then mxI n p.g else if p.k=4 then mxI n p.e.most else n
def ZwC(n:Int)(a:Ac):Int:=a.parts.foldl Zmj (if a.k=3 then mxI n a.e.most else n)
def ZxH(r:Ru):Int:=if Zf0 r then r.acts.foldl ZwC (-1)else 0
end Go.Rx
namespace Go.Rx
open Go
variable {P:Program}
theorem ZgT{n:Nat}(w:World)(t e ty:TypeId)(z:Value)(ht:P.underlying t=some (.slice e))(hv:∀w,(zeroValue e).run P w=.ok z w)(h1:∀u∈(Builtin.zeroCells z.cells n).toList,u.oneCell'=true)(b o c:Nat)(hn:0 < n)
  (hc:∀j,j < (Builtin.zeroCells z.cells n).toList.length->(w.cell? ⟨b,o+j,none⟩).isSome=true) (hf:∀j,j < (Builtin.zeroCells z.cells n).toList.length->w.frozen? ⟨b,o+j,none⟩=false):
  (Builtin.clear_ #[t] ty #[.slice (some ⟨b,o,none⟩) n c]).run P w=.ok (.tuple #[]) (w.setCells b o (Builtin.zeroCells z.cells n).toList):=by
 have cB:=run_storeCells_cells (P:=P) b o (Builtin.zeroCells z.cells n).toList 0 w (by simpa using hc) (by simpa using hf) h1
 simp only[Nat.add_zero]at cB
 obtain⟨m,rfl⟩:∃m,n=m+1:=⟨n - 1,by omega⟩
 simp[Builtin.clear_,run_underlying ht,hv,cB]
end Go.Rx
namespace Go.Rx
open Go Go.Proofs Go.Shelf Go.RowKit Go.Lib Go.Sort
set_option maxHeartbeats 4000000
set_option maxRecDepth 1000000
structure DelLay (P:Program)(ρ:Ren)(k:Nat)(z:Value):Prop where
 mixed:P.follows .mixedOrders=true
 f45:Bears P (ρ.f 45) (SlBodyN.n45 ρ)
 t0:P.underlying (ρ.t 0)=some (TypeDesc.tuple #[])
 a0:∀w,(Go.isAgg (ρ.t 0)).run P w=.ok false w
 z0:∀w,(Go.sizeOf (ρ.t 0)).run P w=.ok 1 w
 v0:∀w,(zeroValue (ρ.t 0)).run P w=.ok (Value.tuple #[]) w
 t3:P.underlying (ρ.t 3)=some (TypeDesc.int IntKind.i64)
 a3:∀w,(Go.isAgg (ρ.t 3)).run P w=.ok false w
 z3:∀w,(Go.sizeOf (ρ.t 3)).run P w=.ok 1 w
 v3:∀w,(zeroValue (ρ.t 3)).run P w=.ok (Value.int IntKind.i64 0) w
 t4:P.underlying (ρ.t 4)=some (TypeDesc.bool)
 a4:∀w,(Go.isAgg (ρ.t 4)).run P w=.ok false w
 z4:∀w,(Go.sizeOf (ρ.t 4)).run P w=.ok 1 w
 v4:∀w,(zeroValue (ρ.t 4)).run P w=.ok (Value.bool false) w
 t22:P.underlying (ρ.t 22)=some (TypeDesc.slice (ρ.t 23))
 a22:∀w,(Go.isAgg (ρ.t 22)).run P w=.ok false w
 z22:∀w,(Go.sizeOf (ρ.t 22)).run P w=.ok 1 w
 v22:∀w,(zeroValue (ρ.t 22)).run P w=.ok (Value.slice none 0 0) w
 z23:∀w,(Go.sizeOf (ρ.t 23)).run P w=.ok k w
 v23:∀w,(zeroValue (ρ.t 23)).run P w=.ok z w
theorem Zlx{P:Program}{ρ:Ren}{k:Nat}{z:Value}(L:DelLay P ρ k z)(i0:TypeInfo)(qv:P.info? (ρ.t 23)=some i0)(sm:i0.size=k)(hk:z.cells.size=k)
  (blk off n cap i j:Nat) (cs:List Value) (w:World) (aH:cs.length=n*k) (hH:∀(q:Nat)(u:Value),cs[q]?=some u->w.cell? ⟨blk,off+q,none⟩=some u/\w.frozen? ⟨blk,off+q,none⟩=false) (h1:∀u∈cs,u.oneCell'=true)
  (hz:∀m,∀u∈(Builtin.zeroCells z.cells m).toList,u.oneCell'=true)
  (cS:n<=cap) (hm:n<=9223372036854775807) (qt:i < j) (hj:j<=n):
  Calls P (ρ.f 45) #[.slice (some ⟨blk,off,none⟩) n cap,.int .i64 i,.int .i64 j] w λe w'=>e=.returned (.slice (some ⟨blk,off,none⟩) (n - (j - i)) cap)/\
   w'=(w.drew.setCells blk (off+i*k) (cs.drop (j*k))).setCells blk (off+(n - (j - i))*k) (Builtin.zeroCells z.cells (j - i)).toList:=by
 have mixed:=L.mixed;have t0:=L.t0;have a0:=L.a0;have z0:=L.z0;have v0:=L.v0;have t3:=L.t3;have a3:=L.a3;have z3:=L.z3;have v3:=L.v3;have t4:=L.t4;have a4:=L.a4;have z4:=L.z4;have v4:=L.v4;have t22:=L.t22;have a22:=L.a22;have z22:=L.z22;have v22:=L.v22;have z23:=L.z23
 obtain⟨Z,hZ⟩:∃Z,(Builtin.zeroCells z.cells (j - i)).toList=Z:=⟨_,rfl⟩
 rw[hZ]
 obtain⟨news,eV⟩:∃news,news=cs.drop (j*k):=⟨_,rfl⟩
 have mt:news.length=(n - j)*k:=by rw[eV,List.length_drop,aH,Nat.sub_mul]
 obtain⟨A,hA,so⟩:∃A:Addr,(if cap=j then some (⟨blk,off,none⟩:Addr)else some ⟨blk,off+j*k,none⟩)=some A/\Hid (∀t u,news[t]?=some u->w.drew.cell? (A.add t)=some u):=by
  by_cases h:cap=j
  ·refine⟨⟨blk,off,none⟩,by simp[h],λt u hu=>?_⟩
   have h0:news.length=0:=by rw[mt,show n - j=0 by omega,Nat.zero_mul]
   rw[List.length_eq_zero_iff.1 h0]at hu
   simp at hu
  ·refine⟨⟨blk,off+j*k,none⟩,by simp[h],λt u hu=>?_⟩
   rw[eV,List.getElem?_drop]at hu
   rw[Addr.add_lit,Nat.add_assoc]
   exact(hH _ _ hu).1
 have s2:Hid (∀u∈news,u.oneCell'=true):=λu hu=>h1 u (by rw[eV]at hu;exact List.mem_of_mem_drop hu)
 have mN:(i+(n - j))*k=i*k+(n - j)*k:=Nat.add_mul _ _ _
 have cy:(i+(n - j))*k<=n*k:=Nat.mul_le_mul_right _ (by omega)
 have s3:Hid (∀t,t < news.length->(w.drew.cell? ⟨blk,off+i*k+t,none⟩).isSome=true/\w.drew.frozen? ⟨blk,off+i*k+t,none⟩=false):=by
  intro t ht
  rw[mt]at ht
  have hb:i*k+t < cs.length:=by rw[aH];omega
  have h:=hH (i*k+t) cs[i*k+t] (zA3 hb)
  rw[<-Nat.add_assoc]at h
  exact⟨by show(w.cell? _).isSome=true;rw[h.1];rfl,h.2⟩
 have s1:Hid (news.length=(n - j)*k):=mt
 obtain⟨W1,qw⟩:∃W1,W1=w.drew.setCells blk (off+i*k) news:=⟨_,rfl⟩
 have hW:Hid (W1=w.drew.setCells blk (off+i*k) news):=qw
 have x8:i<=cap:=by omega
 have x9:j<=cap:=by omega
 have fg:∀ty,(Builtin.clear_ #[ρ.t 22] ty #[.slice (some ⟨blk,off+(i+(n - j))*k,none⟩) (n - (i+(n - j))) (cap - (i+(n - j)))]).run P W1=.ok (.tuple #[]) (W1.setCells blk (off+(i+(n - j))*k) Z):=by
  intro ty
  have hT:∀t,t < (Builtin.zeroCells z.cells (n - (i+(n - j)))).toList.length->(w.drew.cell? ⟨blk,off+((i+(n - j))*k+t),none⟩).isSome=true/\w.drew.frozen? ⟨blk,off+((i+(n - j))*k+t),none⟩=false:=by
   intro t ht
   have hl:(Builtin.zeroCells z.cells (n - (i+(n - j)))).toList.length=(n - (i+(n - j)))*k:=by simp[Builtin.zeroCells,hk,Nat.mul_comm]
   rw[hl,Nat.sub_mul]at ht
   have hb:(i+(n - j))*k+t < cs.length:=by rw[aH];omega
   have h:=hH _ _ (zA3 hb)
   exact⟨by show(w.cell? _).isSome=true;rw[h.1];rfl,h.2⟩
  rw[<-hZ,show j - i=n - (i+(n - j)) by omega]
  exact ZgT W1 _ _ ty z t22 L.v23 (hz _) blk _ _ (by omega) (λt ht=>by rw[qw];exact World.isSome_setCells _ _ _ _ _ (by rw[Nat.add_assoc];exact(hT t ht).1)) (λt ht=>by rw[qw,World.frozen?_setCells,Nat.add_assoc];exact(hT t ht).2)
 have hN:Hid (news=cs.drop (j*k)):=eV
 clear qw mN cy eV mt hZ hz hk
 obtain⟨_,_,FG⟩:=L.f45
 go_enter FG,SlBodyN.n45_ntmps ρ
 go_wp2_with fail
 go_region_law_o (refine step_append_room rfl (.tmp 22) (.tmp 25) (ρ.t 22) rfl (ρ.t 23) i0 k t22 qv sm blk off i cap (by simp[Act.eval,Act.put]) A (n - j) (cap - j) news (by simp[Act.eval,Act.put]) s1.out so.out s2.out (by omega) s3.out ?_;rw[<-hW.out])
 go_wp2
 go_ret
 refine⟨by rw[show n - (j - i)=i+(n - j) by omega];rfl,?_⟩
 rw[hW.out,hN.out,show n - (j - i)=i+(n - j) by omega]
end Go.Rx
namespace Go.Rx
open Go Go.Eng Go.RowKit Go.Shelf
theorem ZfQ(b:Nat):∀(vs:List Value)(o:Nat)(w:World),(w.setCells b o vs).os=w.os/\(w.setCells b o vs).tape=w.tape/\(w.setCells b o vs).output=w.output/\(w.setCells b o vs).heap.size=w.heap.size
 | [],_,_=>⟨rfl,rfl,rfl,rfl⟩
 | v::r,o,w=>by
  obtain⟨h1,h2,h3,h4⟩:=ZfQ b r (o+1) (w.setCell ⟨b,o,none⟩ v)
  exact⟨h1,h2,h3,h4.trans (by simp[World.setCell])⟩
theorem ZcG(b:Nat){k:Nat}(hk:k≠b):∀(vs:List Value)(o:Nat)(w:World),(w.setCells b o vs).heap[k]?=w.heap[k]?
 | [],_,_=>rfl
 | v::r,o,w=>by
  rw[World.setCells,ZcG b hk r (o+1)]
  simp[World.setCell,Array.getElem?_modify,Ne.symm hk]
theorem Zed(b:Nat):∀(vs:List Value)(o:Nat)(w:World){c:Array Value}{T:TypeId}{fr:Nat×Nat},w.heap[b]?=some (.cells c T fr)->∃c':Array Value,(w.setCells b o vs).heap[b]?=some (.cells c' T fr)/\c'.size=c.size
 | [],_,_,c,_,_,h=>⟨c,h,rfl⟩
 | v::r,o,w,c,T,fr,h=>by
  have h1:(w.setCell ⟨b,o,none⟩ v).heap[b]?=some (.cells (c.setIfInBounds o v) T fr):=by
   simp[World.setCell,Array.getElem?_modify,h]
  obtain⟨c',h2,h3⟩:=Zed b r (o+1) (w.setCell ⟨b,o,none⟩ v) h1
  exact⟨c',h2,by rw[h3];simp⟩
theorem ZgU(b o:Nat)(vs:List Value)(w:World){c:Array Value}{T:TypeId}{fr:Nat×Nat}(h:w.heap[b]?=some (.cells c T fr)):Upd (λk=>k=b) w (w.setCells b o vs):=by
 obtain⟨h1,h2,h3,h4⟩:=ZfQ b vs o w
 refine⟨h1,h2,h3,by omega,λk _ hk=>ZcG b hk vs o w,λk hk hw=>?_⟩
 by_cases e:k=b
 ·subst e
  obtain⟨c',h5,h6⟩:=Zed k vs o w h
  intro c2 T2 fr2 hh q hq
  rw[h5]at hh
  simp only[Option.some.injEq,Obj.cells.injEq]at hh
  obtain⟨rfl,rfl,rfl⟩:=hh
  exact hw c T fr h q (by omega)
 ·exact hw.of_eq (ZcG b e vs o w)
theorem Upd.tr{M:Nat->Prop}{a b c:World}(h:Upd M a b)(k:Upd M b c):Upd M a c:=
 ⟨k.os.trans h.os,k.tape.trans h.tape,k.output.trans h.output,Nat.le_trans h.size k.size,λq hq hm=>(k.block q (Nat.lt_of_lt_of_le hq h.size) hm).trans (h.block q hq hm),λq hq hw=>k.wr q (Nat.lt_of_lt_of_le hq h.size) (h.wr q hq hw)⟩
theorem ZkR{α:Type}{cs:α->List Value}{n:Nat}(hn:∀x,(cs x).length=n):∀(l:List α)(i:Nat),((l.eraseIdx i).map cs).flatten=(l.map cs).flatten.take (i*n)++(l.map cs).flatten.drop ((i+1)*n)
 | [],_=>by simp
 | x::l,0=>by
  simp only[List.eraseIdx_zero,List.tail_cons,List.map_cons,List.flatten_cons,Nat.zero_mul,List.take_zero,List.nil_append,Nat.zero_add,Nat.one_mul]
  rw[<-hn x,List.drop_left]
 | x::l,i+1=>by
  have e1:(i+1)*n=(cs x).length+i*n:=by rw[hn,Nat.succ_mul];omega
  have e2:(i+1+1)*n=(cs x).length+(i+1)*n:=by rw[hn,Nat.succ_mul (i+1)];omega
  simp only[List.eraseIdx_cons_succ,List.map_cons,List.flatten_cons]
  have e3:((cs x)++(l.map cs).flatten).take ((i+1)*n)=cs x++(l.map cs).flatten.take (i*n):=by rw[e1,List.take_length_add_append]
  have e4:((cs x)++(l.map cs).flatten).drop ((i+1+1)*n)=(l.map cs).flatten.drop ((i+1)*n):=by rw[e2,List.drop_length_add_append]
  rw[ZkR hn l i,e3,e4,List.append_assoc]
theorem ZsS{P:Program}{ρ:Ren}{k:Nat}{z:Value}(L:DelLay P ρ k z)(i0:TypeInfo)(qv:P.info? (ρ.t 23)=some i0)(sm:i0.size=k)(hk:z.cells.size=k)(jp:Zem P (ρ.f 45))(h0:0 < k)
  (rY:(Builtin.zeroCells z.cells 1).toList=z.cells.toList) (wz:∀m,∀u∈(Builtin.zeroCells z.cells m).toList,u.oneCell'=true)
  {α:Type} {cs:α->List Value} (hn:∀x,(cs x).length=k) (h1:∀x,∀u∈cs x,u.oneCell'=true) (l:List α) (b c i:Nat) (T:TypeId) (cap:Nat) (m:Mem) (hi:i < l.length) (hc:l.length<=c) (hm:l.length<=9223372036854775807):
  CX P (ρ.f 45) #[.slice (some ⟨b,0,none⟩) l.length c,.int .i64 i,.int .i64 (i+1:Nat)] m [⟨b,(l.map cs).flatten,T,cap,false,false⟩] (λv m' css=>v=.slice (some ⟨b,0,none⟩) (l.length - 1) c/\css=[((l.eraseIdx i).map cs).flatten++z.cells.toList]):=by
 refine⟨jp,λw hs hX _=>?_⟩
 obtain⟨dE,_⟩:=hX _ (List.mem_singleton.2 rfl)
 have fS:=dE.wr
 have aH:(l.map cs).flatten.length=l.length*k:=Za3 hn l
 have gX:0 < l.length*k:=Nat.mul_pos (by omega) h0
 obtain⟨sp,fr,wB,sq,sr⟩:=dE.cells
 obtain⟨cur,fQ⟩:∃cur,cur=((l.map cs).flatten++sp).toArray:=⟨_,rfl⟩
 have hh:w.heap[b]?=some (.cells cur T fr):=by rw[fQ];exact wB
 have cx:∀(q:Nat)(u:Value),(l.map cs).flatten[q]?=some u->w.cell? ⟨b,q,none⟩=some u:=λq u hu=>dE.cell hu
 have aB:∀q,q < l.length*k->q < cur.size:=λq hq=>by
  have:=cx q _ (zA3 (by omega))
  simp only[World.cell?,hh,Option.isSome_none,Bool.false_eq_true,if_false]at this
  exact(Array.getElem?_eq_some_iff.1 this).1
 have hH:∀(q:Nat)(u:Value),(l.map cs).flatten[q]?=some u->w.cell? ⟨b,0+q,none⟩=some u/\w.frozen? ⟨b,0+q,none⟩=false:=λq u hu=>by
  rw[Nat.zero_add]
  refine⟨cx q u hu,?_⟩
  have hq:=(zA0 hu).1
  have h2:=fS cur T fr hh q (aB q (by omega))
  obtain⟨f1,f2⟩:=fr
  simp only[World.frozen?,hh,Bool.and_eq_false_iff,decide_eq_false_iff_not]
  simp only at h2
  omega
 have h1':∀u∈(l.map cs).flatten,u.oneCell'=true:=λu hu=>by
  simp only[List.mem_flatten,List.mem_map]at hu
  obtain⟨_,⟨x,_,rfl⟩,hu⟩:=hu
  exact h1 x u hu
 refine(Zlx L i0 qv sm hk b 0 l.length c i (i+1) (l.map cs).flatten w aH hH h1' wz hc hm (by omega) (by omega)).mono ?_
 rintro e w' ⟨rfl,rfl⟩
 rw[show i+1 - i=1 by omega,Nat.zero_add,Nat.zero_add,rY]
 obtain⟨news,eV⟩:∃news,news=(l.map cs).flatten.drop ((i+1)*k):=⟨_,rfl⟩
 rw[<-eV]
 have kO:(i+1)*k<=l.length*k:=Nat.mul_le_mul_right _ (by omega)
 have wC:(i+1)*k=i*k+k:=Nat.succ_mul i k
 have mt:news.length=l.length*k - (i+1)*k:=by rw[eV,List.length_drop,aH]
 have iW:(l.length - 1)*k+k=l.length*k:=by
  have:l.length=l.length - 1+1:=by omega
  rw[this,Nat.succ_mul];rfl
 have uq:w.drew.heap[b]?=some (.cells cur T fr):=hh
 obtain⟨c1,g1,g2⟩:=Zed b news (i*k) w.drew uq
 obtain⟨c2,g3,g4⟩:=Zed b z.cells.toList ((l.length - 1)*k) (w.drew.setCells b (i*k) news) g1
 have j1:Upd (λq=>q=b) w w.drew:=⟨rfl,rfl,rfl,Nat.le_refl _,λ_ _ _=>rfl,λ_ _ h=>h⟩
 have hU:=Upd.tr (Upd.tr j1 (ZgU b (i*k) news w.drew uq)) (ZgU b ((l.length - 1)*k) z.cells.toList _ g1)
 have gA:z.cells.toList.length=k:=by simpa using hk
 have eb:(((l.eraseIdx i).map cs).flatten++z.cells.toList).length=l.length*k:=by
  rw[zA1,gA,Za3 hn,List.length_eraseIdx,if_pos hi];exact iW
 have some1:∀q,q < cur.size->(w.drew.cell? ⟨b,q,none⟩).isSome=true:=λq hq=>by
  show(w.cell? ⟨b,q,none⟩).isSome=true
  simp[World.cell?,hh,hq]
 have some2:∀q,q < cur.size->((w.drew.setCells b (i*k) news).cell? ⟨b,q,none⟩).isSome=true:=λq hq=>by
  simp[World.cell?,g1,g2,hq]
 have at_:∀q,((w.drew.setCells b (i*k) news).setCells b ((l.length - 1)*k) z.cells.toList).cell? ⟨b,q,none⟩=if q < l.length*k then(((l.eraseIdx i).map cs).flatten++z.cells.toList)[q]? else w.cell? ⟨b,q,none⟩:=λq=>by
  have ur:((l.eraseIdx i).map cs).flatten.length=(l.length - 1)*k:=by rw[Za3 hn,List.length_eraseIdx,if_pos hi]
  by_cases hq:q < l.length*k
  ·rw[if_pos hq]
   by_cases oz:(l.length - 1)*k<=q
   ·have:=World.cell?_setCells_in b z.cells.toList ((l.length - 1)*k) (w.drew.setCells b (i*k) news) (λj hj=>some2 _ (aB _ (by omega))) (q - (l.length - 1)*k) (by omega)
    rw[show(l.length - 1)*k+(q - (l.length - 1)*k)=q by omega]at this
    rw[this,zA4 (by omega),ur]
    exact(zA3 _).symm
   ·rw[World.cell?_setCells_out b _ _ _ _ (λ_ _=>.inl (by show q < _;omega)),zA5 (by omega),ZkR hn]
    by_cases q8:i*k<=q
    ·have:=World.cell?_setCells_in b news (i*k) w.drew (λj hj=>some1 _ (aB _ (by omega))) (q - i*k) (by omega)
     rw[show i*k+(q - i*k)=q by omega]at this
     have gC:((l.map cs).flatten.take (i*k)).length=i*k:=by rw[List.length_take,aH];omega
     rw[this,zA4 (by omega),gC,<-eV]
     exact(zA3 _).symm
    ·have gC:((l.map cs).flatten.take (i*k)).length=i*k:=by rw[List.length_take,aH];omega
     rw[World.cell?_setCells_out b _ _ _ _ (λ_ _=>.inl (by show q < _;omega)),zA5 (by omega),List.getElem?_take_of_lt (by omega)]
     have oA:q < (l.map cs).flatten.length:=by omega
     rw[zA3 oA]
     exact cx q _ (zA3 oA)
  ·rw[if_neg hq,World.cell?_setCells_out b _ _ _ _ (λ_ _=>.inr (by show _<=q;omega)),World.cell?_setCells_out b _ _ _ _ (λ_ _=>.inr (by show _<=q;omega))]
   rfl
 obtain⟨full,ut⟩:∃full,full=((l.eraseIdx i).map cs).flatten++z.cells.toList:=⟨_,rfl⟩
 rw[<-ut]at eb ⊢
 rw[<-ut]at at_
 have mF:((l.map cs).flatten++sp).length=l.length*k+sp.length:=by rw[zA1,aH]
 have ss:c2=(full++sp).toArray:=by
  refine Array.ext' (List.ext_getElem? λq=>?_)
  have h5:=at_ q
  simp only[World.cell?,g3,hh,Option.isSome_none,Bool.false_eq_true,if_false]at h5
  rw[Array.getElem?_toList,h5]
  by_cases hq:q < l.length*k
  ·rw[if_pos hq,zA5 (by rw[eb];exact hq)]
  ·rw[if_neg hq,zA4 (by rw[eb];omega),eb,fQ]
   simp only[List.getElem?_toArray]
   rw[zA4 (by rw[aH];omega),aH]
 have hb:∀q,q≠b->((w.drew.setCells b (i*k) news).setCells b ((l.length - 1)*k) z.cells.toList).heap[q]?=w.heap[q]?:=λq hq=>(ZcG b hq _ _ _).trans (ZcG b hq _ _ w.drew)
 refine⟨_,m,[full],rfl,Mem.le_refl m,⟨λb1 o1 v hv=>?_,λb1 e he=>?_⟩,NewM.refl _ _,⟨hU.os,hU.tape,hU.output,hU.size,λq _ hn=>hb q (by simpa using hn),hU.wr⟩,rfl,λi' x cs' hx bX=>?_,rfl,rfl⟩
 ·have cI:b1≠b:=λe=>by
   subst e
   rw[dE.free rfl o1]at hv;cases hv
  rw[<-hs _ _ _ hv]
  exact ZbL (hb b1 cI) o1
 ·have:=hs.k b1 e he
  have cI:b1≠b:=λe=>by
   subst e
   obtain⟨es,cl,h8,_⟩:=this
   rw[hh]at h8;cases h8
  exact this.same (hb b1 cI)
 ·cases i' with
  | succ n=>simp at hx
  | zero=>
   simp at hx bX
   subst hx bX
   refine⟨⟨sp,fr,by rw[<-ss];exact g3,?_,?_⟩,λ_=>dE.free rfl,λh=>(by cases h),λh=>(by cases h)⟩
   ·have cS:((l.map cs).flatten++sp).length=cap:=sq
    show(full++sp).length=cap
    rw[<-cS,mF,zA1,eb]
   ·exact sr
end Go.Rx
namespace Go.Rx
open Go Go.Eng
set_option maxRecDepth 100000
def aeN:E:=.node 9 0 ⟨#[110]⟩ 0 none 0 []
def aeC(x:Nat):E:=.node 8 x ⟨#[]⟩ 0 none 0 []
def aeO(k:Int)(a:Option Addr)(x:Nat):E:=.node k 0 ⟨#[]⟩ 0 a 2 [aeN,aeC x]
def aeX:T:=.node 2 0 72057594037927936 0 0 0 0 none 0 []
def aeY:T:=.node 2 0 144115188075855872 0 0 0 0 none 0 []
def aeG(g:Option Addr):T:=.node 6 0 0 0 0 0 0 g 1 [aeX]
def aeR(g r:Option Addr):T:=.node 5 0 0 0 0 1 (-1) r 1 [aeG g]
def aeT(g r c:Option Addr):T:=.node 3 0 0 0 0 0 0 c 2 [aeR g r,aeY]
def aeE:E:=.node 0 0 ⟨#[]⟩ 0 none 0 []
def ZCc:Pt:=⟨3,⟨#[]⟩,1,aeE⟩
def ZCd(s:Option Addr):Pt:=⟨4,⟨#[]⟩,0,aeO 4 s 4611686018427387904⟩
def ZBJ(l:Option Addr):Ac:=⟨3,⟨#[110]⟩,none,0,[],aeO 2 l 4607182418800017408⟩
def ZBK(s p:Option Addr):Ac:=⟨1,⟨#[]⟩,p,2,[ZCc,ZCd s],aeE⟩
def Zrc(g r c l s p a:Option Addr):Ru:=⟨1,false,false,aeT g r c,⟨#[]⟩,0,a,2,[ZBJ l,ZBK s p],⟨#[98]⟩,0⟩
def ZBL:T:=.node 0 0 0 0 0 0 0 none 0 []
def ZwF:Ru:=⟨4,false,false,ZBL,⟨#[]⟩,5,none,0,[],⟨#[]⟩,1⟩
def ZxI:Ru:=⟨3,false,false,ZBL,⟨#[]⟩,0,none,0,[],⟨#[]⟩,0⟩
def aeS(g r c v l s p a r1 r2 S:Option Addr):Sc:=⟨9,v,1,[⟨⟨#[110]⟩,true,⟨#[]⟩,0⟩],S,2,[⟨⟨#[97]⟩,r1,2,[Zrc g r c l s p a,ZwF]⟩,⟨⟨#[98]⟩,r2,1,[ZxI]⟩]⟩
section
variable (g r c v l s p a r1 r2 S:Option Addr)
theorem Zvw:(aeS g r c v l s p a r1 r2 S).light=true:=by kernel_rfl
theorem ZsT:(aeS g r c v l s p a r1 r2 S).places.length=11:=by kernel_rfl
theorem ZsU:(aeS g r c v l s p a r1 r2 S).places[5]?=some ⟨-1,0,0,1,-1⟩:=by kernel_rfl
theorem ZxJ:ZiA (aeS g r c v l s p a r1 r2 S)=msV 2 3 5 2 2 2:=by kernel_rfl
theorem Zvx:ZiA (ZwB (aeS g r c v l s p a r1 r2 S) 0 0)=msV 2 2 0 0 0 0:=by kernel_rfl
theorem Zvy:Zjr false (Zrc g r c l s p a)=[⟨#[110]⟩]:=by kernel_rfl
theorem ZsV:Zjr true (Zrc g r c l s p a)=[⟨#[110]⟩]:=by kernel_rfl
theorem ZxK:ZxH (Zrc g r c l s p a)=1:=by kernel_rfl
theorem ZxL:ZyQ (aeS g r c v l s p a r1 r2 S).states ⟨⟨#[97]⟩,r1,2,[Zrc g r c l s p a,ZwF]⟩=[1]:=by
 have h:Zlw (aeS g r c v l s p a r1 r2 S).states [Zrc g r c l s p a,ZwF]=[1]:=by kernel_rfl
 unfold ZyQ
 show Zuj (Zlw _ [Zrc g r c l s p a,ZwF])=_
 rw[h]
 exact Zoc (List.pairwise_singleton _ _)
theorem ZxM:ZyQ (aeS g r c v l s p a r1 r2 S).states ⟨⟨#[98]⟩,r2,1,[ZxI]⟩=[]:=by
 have h:Zlw (aeS g r c v l s p a r1 r2 S).states [ZxI]=[]:=by kernel_rfl
 unfold ZyQ
 show Zuj (Zlw _ [ZxI])=_
 rw[h]
 exact Zoc List.Pairwise.nil
end
theorem Zvz(q:E->Bool)(hq:∀x:E,q x.er=q x):∀l:List E,Zmi q (l.map E.er)=Zmi q l
 | []=>rfl
 | x::l=>by rw[List.map_cons,Zjq,Zjq,Zvz q hq l,hq]
theorem Zun(e:E):Zn8 e.er=Zn8 e:=by
 unfold Zn8
 rw[Zfd,Zfc,Zvz _ λx=>by cases x;rfl]
theorem ZxN(e:E):vrE e.er=vrE e:=by
 unfold vrE
 rw[Zfc,Zvz _ λx=>by cases x;rfl]
theorem ZzR(a:Ac):paA a.er=paA a:=ZcU paP Pt.er (λp=>rfl) a.parts
theorem ZxO(a:Ac):Zq6 a.er=Zq6 a:=by
 unfold Zq6
 have h:=ZcU Zo5 Pt.er (λp=>by show(if p.k=4 then Zn8 p.e.er else 0)=_;rw[Zun];rfl) a.parts
 show(if a.k=3 then Zn8 a.e.er else 0)+ZaF ((a.parts.map Pt.er).map Zo5)=_
 rw[h,Zun]
theorem ZzS(a:Ac):vrA a.er=vrA a:=by
 unfold vrA
 have h:=ZcU vrP Pt.er (λp=>by show(if p.k=4 then vrE p.e.er else 0)=_;rw[ZxN];rfl) a.parts
 show(if a.k=3 then vrE a.e.er else 0)+ZaF ((a.parts.map Pt.er).map vrP)=_
 rw[h,ZxN]
theorem Zrd{α β:Type}{f:α->α}{h:β->β}{k:α->List β}(e:∀x,k (f x)=(k x).map h):∀l:List α,(l.map f).flatMap k=(l.flatMap k).map h
 | []=>rfl
 | x::l=>by simp only[List.map_cons,List.flatMap_cons,List.map_append,e,Zrd e l]
theorem Zre(s:Sc):Zco s.er=(Zco s).map Ac.er:=Zrd (f:=Sta.er) (k:=ZkP) (λx=>Zrd (f:=Ru.er) (k:=λr:Ru=>r.acts) (λr=>rfl) x.rules) s.states
theorem Zrf(s:Sc):ZiA s.er=ZiA s:=by
 have h1:ms1 s.er=ms1 s:=by
  show ZaF ((s.states.map Sta.er).map ruS)=_
  exact ZcU ruS Sta.er (λx=>by show((x.rules.map Ru.er).length:Int)=x.rules.length;rw[List.length_map]) s.states
 have h2:ms2 s.er=ms2 s:=by
  show ZaF ((s.states.map Sta.er).map rgS)=_
  exact ZcU rgS Sta.er (λx=>ZcU rgR Ru.er (λr=>by show(if r.k=1 then r.t.er.size else 0)=_;rw[Zt3];rfl) x.rules) s.states
 have h3:ms3 s.er=ms3 s:=by unfold ms3;rw[Zre];exact ZcU paA Ac.er ZzR _
 have h4:ms4 s.er=ms4 s:=by unfold ms4;rw[Zre];exact ZcU Zq6 Ac.er ZxO _
 have h5:ms5 s.er=ms5 s:=by unfold ms5;rw[Zre];exact ZcU vrA Ac.er ZzS _
 unfold ZiA
 rw[ZgN,h1,h2,h3,h4,h5,show s.er.states.length=s.states.length from List.length_map _]
theorem Zrg{s s':Sc}(h:s'.er=s.er):ZiA s'=ZiA s:=by rw[<-Zrf s',h,Zrf]
end Go.Rx
namespace Go.Rx
open Go Go.Eng
def ZBM(l:List ByteArray)(x:ByteArray):Bool:=l.any (λy=>eqS x y)
theorem Zrh{a b:ByteArray}:eqS a b=true↔a.toList=b.toList:=by unfold eqS;exact beq_iff_eq
theorem ZvA{l:List ByteArray}{x:ByteArray}:ZBM l x=true↔∃y∈l,x.toList=y.toList:=by
 unfold ZBM;rw[List.any_eq_true]
 exact⟨λ⟨y,h1,h2⟩=>⟨y,h1,Zrh.1 h2⟩,λ⟨y,h1,h2⟩=>⟨y,h1,Zrh.2 h2⟩⟩
theorem ZvB{out:List ByteArray}{n z:ByteArray}(h:z∈Zdv out n):z∈out\/z=n:=by
 unfold Zdv at h
 split at h
 ·exact .inl h
 ·simpa using h
theorem Zri{z:ByteArray}:∀l out:List ByteArray,z∈l.foldl Zdv out->z∈out\/z∈l
 | [],out,h=>.inl h
 | n::l,out,h=>by
  rcases Zri l _ h with h|h
  ·rcases ZvB h with h|rfl
   ·exact .inl h
   ·exact .inr (by simp)
  ·exact .inr (by simp[h])
abbrev Apart(l:List ByteArray):Prop:=l.Pairwise λx y=>eqS y x=false
theorem Zjs{α β γ:Type}(f:α->List β)(h:γ->β->γ){g:γ->α->γ}(hg:∀o x,g o x=(f x).foldl h o):∀(l:List α)(o:γ),l.foldl g o=((l.map f).flatten).foldl h o
 | [],o=>rfl
 | x::l,o=>by rw[List.foldl_cons,Zjs f h hg l,hg,List.map_cons,List.flatten_cons,List.foldl_append]
def nmP(p:Pt):List ByteArray:=if p.k=2 then[p.s]else if p.k=4 then p.e.vars else[]
def nmA(w:Bool)(a:Ac):List ByteArray:=if w then(if a.k=2\/a.k=3 then[a.s]else[])else(if a.k=3 then a.e.vars else[])++(a.parts.map nmP).flatten
theorem ZsW(o:List ByteArray)(p:Pt):ZcF o p=(nmP p).foldl Zdv o:=by
 unfold ZcF nmP
 split
 ·rfl
 ·split <;> rfl
theorem ZvC(w:Bool)(o:List ByteArray)(a:Ac):ZeS w o a=(nmA w a).foldl Zdv o:=by
 unfold ZeS nmA Zck
 cases w with
 | true=>simp only[if_true];split <;> rfl
 | false=>
  simp only[Bool.false_eq_true,if_false]
  rw[List.foldl_append,Zjs nmP Zdv ZsW]
  split <;> rfl
theorem ZvD(w:Bool){r:Ru}(h:Zf0 r=true):Zjr w r=((r.acts.map (nmA w)).flatten).foldl Zdv []:=by
 unfold Zjr;rw[if_pos h];exact Zjs (nmA w) Zdv (ZvC w) _ _
theorem MkP.names{c:Int}{p:Pt}(h:MkP c p):∀z∈nmP p,z∈ZeR++Zcx:=by
 intro z hz
 cases h with
 | lit s h=>simp[nmP]at hz
 | var s h=>
  simp[nmP]at hz;subst hz
  exact List.mem_append.2 h
 | cap g h=>simp[nmP]at hz
 | clc e h=>exact List.mem_append_left _ (h.vars z (by simpa[nmP]using hz))
theorem MkA.names{c:Int}{a:Ac}(h:MkA c a)(w:Bool):∀z∈nmA w a,z∈ZeR++Zcx:=by
 intro z hz
 have go:∀{l:List Pt},MkT c l->z∈(l.map nmP).flatten->z∈ZeR++Zcx:=λ{l} h hz=>by
  simp only[List.mem_flatten,List.mem_map]at hz
  obtain⟨_,⟨p,hp,rfl⟩,hz⟩:=hz
  exact(h.all p hp).names z hz
 cases h with
 | send a n l h=>
  cases w with
  | true=>simp[nmA]at hz
  | false=>exact go h (by simpa[nmA]using hz)
 | set s hs a n l h=>
  cases w with
  | true=>simp[nmA]at hz;subst hz;exact List.mem_append_right _ hs
  | false=>exact go h (by simpa[nmA]using hz)
 | let_ s hs e h=>
  cases w with
  | true=>simp[nmA]at hz;subst hz;exact List.mem_append_left _ hs
  | false=>exact List.mem_append_left _ (h.vars z (by simpa[nmA]using hz))
theorem MkR.light{n:Nat}{r:Ru}(h:MkR n r):Zf0 r=true:=decide_eq_true (by have:=h.w;omega)
theorem MkR.names{n:Nat}{r:Ru}(h:MkR n r)(w:Bool):∀z∈Zjr w r,z∈ZeR++Zcx:=by
 intro z hz
 rw[ZvD w h.light]at hz
 rcases Zri _ _ hz with hz|hz
 ·cases hz
 ·simp only[List.mem_flatten,List.mem_map]at hz
  obtain⟨_,⟨a,ha,rfl⟩,hz⟩:=hz
  exact(h.all a ha).names w z hz
theorem MkR.has{n:Nat}{r:Ru}(h:MkR n r)(w:Bool){z:ByteArray}(hz:z∈Zjr w r):ZBM (ZeR++Zcx) z=true:=ZvA.2 ⟨z,h.names w z hz,rfl⟩
def ZCq(r q:Ru)(a:Option Addr)(c:Nat):Ru:=⟨r.k,r.bg,r.en,r.t,r.s,r.n,a,c,r.acts++q.acts,r.go,r.code⟩
theorem RepR.cat{m:Mem}{n:Nat}{r q:Ru}(hr:RepR m r)(hq:RepR m q)(kr:MkR n r)(kq:MkR n q){a:Option Addr}{c:Nat}(aC:rowRd m a ((r.acts++q.acts).map Ac.cs).flatten):RepR m (ZCq r q a c):=
 ⟨hr.k,hr.t,hr.s,hr.n,by
  have h1:=kr.len
  have h2:=kq.len
  show(r.acts++q.acts).length<=few
  rw[zA1];unfold few;omega,aC,λp hp=>(List.mem_append.1 hp).elim (hr.all p) (hq.all p),hr.go,hr.code⟩
end Go.Rx
namespace Go.Rx
open Go Go.Eng Go.RowKit
theorem ZxP{a b:ByteArray}(h:a.toList=b.toList):a=b:=by
 rw[baL,baL]at h
 have:a.data=b.data:=Array.toList_inj.1 h
 cases a;cases b;exact congrArg _ this
theorem ZgV{a b:ByteArray}(h:eqS a b=true):a=b:=ZxP (Zrh.1 h)
mutual
theorem Zod:∀t u:T,t.same u=true->t.er=u.er
 | .node k s0 s1 s2 s3 mn mx a c l,.node k' s0' s1' s2' s3' mn' mx' a' c' l',h=>by
  simp only[T.same,zA7,beq_iff_eq]at h
  obtain⟨rfl,⟨⟨⟨rfl,rfl⟩,rfl⟩,rfl⟩,rfl,rfl,h⟩:=h
  simp only[T.er,ZkS l l' h]
theorem ZkS:∀l r:List T,Zdu l r=true->erL l=erL r
 | [],[],_=>rfl
 | [],_::_,h=>by simp[Zdu]at h
 | _::_,[],h=>by simp[Zdu]at h
 | t::l,u::r,h=>by
  simp only[Zdu,zA7]at h
  simp only[erL,Zod t u h.1,ZkS l r h.2]
end
def cxE(e:E):Prop:=Zbl e.x=e.x
mutual
theorem Zjt:∀t u:E,(∀z∈t.nodes,cxE z)->(∀z∈u.nodes,cxE z)->t.same u=true->t.er=u.er
 | .node k x s g a c l,.node k' x' s' g' a' c' l',h1,h2,h=>by
  simp only[E.same,zA7,beq_iff_eq]at h
  obtain⟨rfl,hx,hs,rfl,h⟩:=h
  have e1:Zbl x=x:=h1 (.node k x s g a c l) (by simp[E.nodes])
  have e2:Zbl x'=x':=h2 (.node k x' s' g a' c' l') (by simp[E.nodes])
  have ex:x=x':=by
   have hx:Zbl x=Zbl x':=by simpa[Zjc]using hx
   rw[e1,e2]at hx;exact hx
  subst ex
  obtain rfl:=ZxP hs
  have hl:∀z∈Zak l,cxE z:=λz hz=>h1 z (by simp[E.nodes,hz])
  have hr:∀z∈Zak l',cxE z:=λz hz=>h2 z (by simp[E.nodes,hz])
  simp only[E.er,ZkT l l' hl hr h]
theorem ZkT:∀l r:List E,(∀z∈Zak l,cxE z)->(∀z∈Zak r,cxE z)->ZbV l r=true->ZnU l=ZnU r
 | [],[],_,_,_=>rfl
 | [],_::_,_,_,h=>by simp[ZbV]at h
 | _::_,[],_,_,h=>by simp[ZbV]at h
 | t::l,u::r,h1,h2,h=>by
  simp only[ZbV,zA7]at h
  simp only[Zak,List.mem_append]at h1 h2
  simp only[ZnU,Zjt t u (λz hz=>h1 z (.inl hz)) (λz hz=>h2 z (.inl hz)) h.1,ZkT l r (λz hz=>h1 z (.inr hz)) (λz hz=>h2 z (.inr hz)) h.2]
end
theorem ZiB{α β:Type}{f:α->α->Bool}{g:α->β}:∀{l r:List α},(∀x∈l,∀y∈r,f x y=true->g x=g y)->eqL f l r=true->l.map g=r.map g
 | [],[],_,_=>rfl
 | [],_::_,_,h=>by simp[eqL]at h
 | _::_,[],_,h=>by simp[eqL]at h
 | x::l,y::r,hf,h=>by
  simp only[eqL,zA7]at h
  rw[List.map_cons,List.map_cons,hf x (by simp) y (by simp) h.1,ZiB (λa ha b hb=>hf a (by simp[ha]) b (by simp[hb])) h.2]
def ClE(e:E):Prop:=∀z∈e.nodes,cxE z
def ClA(a:Ac):Prop:=ClE a.e/\∀p∈a.parts,ClE p.e
def ClR(r:Ru):Prop:=∀a∈r.acts,ClA a
theorem ZsX{p q:Pt}(hp:ClE p.e)(hq:ClE q.e)(h:ZkN p q=true):p.er=q.er:=by
 simp only[ZkN,zA7,beq_iff_eq]at h
 obtain⟨h1,h2,h3,_,_,h4⟩:=h
 simp only[Pt.er,h1,ZgV h2,h3,Zjt _ _ hp hq h4]
theorem ZsY{p q:Ac}(hp:ClA p)(hq:ClA q)(h:ZkO p q=true):p.er=q.er:=by
 simp only[ZkO,zA7,beq_iff_eq]at h
 obtain⟨h1,h2,h3,_,_,h4⟩:=h
 have h5:p.parts.map Pt.er=q.parts.map Pt.er:=ZiB (λx hx y hy he=>ZsX (hp.2 x hx) (hq.2 y hy) he) h3
 simp only[Ac.er,h1,ZgV h2,h5,Zjt _ _ hp.1 hq.1 h4]
theorem ZsZ{p q:Ru}(hp:ClR p)(hq:ClR q)(h:Zgh p q=true):p.er=q.er:=by
 simp only[Zgh,zA7,beq_iff_eq]at h
 obtain⟨h1,h2,h3,⟨_,_,h4⟩,h5,h6,h7,h8,h9⟩:=h
 have fT:p.acts.map Ac.er=q.acts.map Ac.er:=ZiB (λx hx y hy he=>ZsY (hp x hx) (hq y hy) he) h7
 simp only[Ru.er,h1,h2,h3,Zod _ _ h4,ZgV h5,h6,fT,ZgV h8,h9]
theorem ZpO{p q:Sta}(hp:∀r∈p.rules,ClR r)(hq:∀r∈q.rules,ClR r)(h:ZgR p q=true):p.er=q.er:=by
 simp only[ZgR,zA7]at h
 have h2:p.rules.map Ru.er=q.rules.map Ru.er:=ZiB (λx hx y hy he=>ZsZ (hp x hx) (hq y hy) he) h.2
 simp only[Sta.er,ZgV h.1,h2]
theorem ZpP{p q:Va}(hp:Zbl p.x=p.x)(hq:Zbl q.x=q.x)(h:ZgQ p q=true):p=q:=by
 simp only[ZgQ,zA7,beq_iff_eq]at h
 obtain⟨h1,h2,h3,h4⟩:=h
 have h4:Zbl p.x=Zbl q.x:=by simpa[Zjc]using h4
 rw[hp,hq]at h4
 obtain⟨a,b,c,d⟩:=p
 obtain⟨a',b',c',d'⟩:=q
 simp only at h1 h2 h3 h4
 rw[ZgV h1,h2,ZgV h3,h4]
theorem ZiC{x:Nat}(h:ZgI x=true):Zbl x=x:=by
 unfold Zbl
 unfold ZgI at h
 by_cases e:Op.floatEq .f64 x x=true
 ·rw[if_pos e]
 ·rw[if_neg e]
  have:(x == Zww)=true:=by simpa[e]using h
  exact(by simpa using this:x=Zww).symm
theorem ZvE:Zbl 0=0:=by decide +kernel
theorem ZzT:¬Zww=0:=by decide
theorem ZvF{x:E}(h:x.right=true):cxE x:=by
 unfold cxE
 simp only[E.right,zA7]at h
 have h4:=h.2.2.2.1
 by_cases e:x.k=8
 ·rw[if_pos e]at h4;exact ZiC h4
 ·rw[if_neg e]at h4
  have h5:Zbl x.x=0:=by
   have:Zbl x.x=Zbl 0:=by simpa[Zjc]using h4
   rw[this,ZvE]
  have h6:=h5
  unfold Zbl at h6
  split at h6
  ·rw[h5,h6]
  ·exact absurd h6 ZzT
theorem ZxQ{c:Int}{n:Nat}{e:E}(h:MkE c n e):ClE e:=λz hz=>ZvF (h.all z hz).1
theorem ZAY:ClE E0:=λz hz=>by
 have:z=E0:=by simpa[E0,E.nodes,Zak]using hz
 rw[this];exact ZvE
theorem ZxR{c:Int}{p:Pt}(h:MkP c p):ClE p.e:=by
 cases h with
 | lit s h=>exact ZAY
 | var s h=>exact ZAY
 | cap g h=>exact ZAY
 | clc e h=>exact ZxQ h
theorem ZzU{c:Int}{a:Ac}(h:MkA c a):ClA a:=by
 cases h with
 | send a n l h=>exact⟨ZAY,λp hp=>ZxR (h.all p hp)⟩
 | set s hs a n l h=>exact⟨ZAY,λp hp=>ZxR (h.all p hp)⟩
 | let_ s hs e h=>exact⟨ZxQ h,λp hp=>by cases hp⟩
theorem ZzV{i:Nat}{v:Va}(h:MkV i v):Zbl v.x=v.x:=by
 rcases h.kind with⟨_,_,_,h⟩|⟨_,_,_,h⟩
 ·exact ZiC h
 ·rw[h,ZvE]
theorem ZxS{s:Sc}(h:MkC s):∀x∈s.states,∀r∈x.rules,ClR r:=λx hx r hr=>by
 obtain⟨i,_,hm⟩:=h.state hx
 exact λa ha=>ZzU ((hm.all r hr).all a ha)
theorem ZmC{s t:Sc}(hs:MkC s)(ht:MkC t):ZbH s t=true↔s.er=t.er:=by
 refine⟨λh=>?_,λh=>ZgS h hs.light⟩
 simp only[ZbH,zA7,beq_iff_eq]at h
 obtain⟨_,_,h1,h2,h3⟩:=h
 have hv:∀{u:Sc},MkC u->∀v∈u.vars,Zbl v.x=v.x:=λhu v hv=>by
  obtain⟨i,hi⟩:=List.getElem?_of_mem hv
  exact ZzV (hu.vall i v hi)
 have h4:s.vars.map id=t.vars.map id:=ZiB (λx hx y hy he=>ZpP (hv hs x hx) (hv ht y hy) he) h2
 rw[List.map_id,List.map_id]at h4
 have h5:s.states.map Sta.er=t.states.map Sta.er:=ZiB (λx hx y hy he=>ZpO (ZxS hs x hx) (ZxS ht y hy) he) h3
 unfold Sc.er
 rw[h1,h4,h5]
theorem Zs0{s t:Sc}(hs:MkC s)(ht:MkC t):ZbH t s=ZbH s t:=by
 rw[Bool.eq_iff_iff,ZmC hs ht,ZmC ht hs]
 exact⟨Eq.symm,Eq.symm⟩
theorem ZxT{s t:Sc}(h:¬s.n=t.n):ZbH s t=false:=by
 simp only[ZbH]
 rw[show(s.n == t.n)=false by simpa using h]
 simp only[Bool.false_and,Bool.and_false]
def nk(m:Mem):Mem:=⟨m.c,λ_=>none⟩
theorem ZBj(m:Mem):(nk m).le m:=⟨λ_ _ _ h=>h,λ_ _ h=>by cases h⟩
mutual
theorem Rep.nk{m:Mem}:∀t:T,Rep m t->Rep (nk m) t
 | .node _ _ _ _ _ _ _ a _ l,hr=>by
  simp only[Rep]at *
  refine⟨hr.1,?_,hr.2.2⟩
  rcases hr.2.1 with hr|⟨b,o,h1,h2⟩
  ·exact .inl hr
  ·exact .inr ⟨b,o,h1,RepAt.nk b o l h2⟩
theorem RepAt.nk{m:Mem}(b:Nat):∀(o:Nat)(l:List T),RepAt m b o l->RepAt (nk m) b o l
 | _,[],_=>by simp only[RepAt]
 | o,t::l,hr=>by
  simp only[RepAt]at *
  exact⟨hr.1,Rep.nk t hr.2.1,RepAt.nk b (o+8) l hr.2.2⟩
end
mutual
theorem RepE.nk{m:Mem}:∀t:E,RepE m t->RepE (nk m) t
 | .node _ _ _ _ a _ l,hr=>by
  simp only[RepE]at *
  refine⟨hr.1,?_,hr.2.2⟩
  rcases hr.2.1 with hr|⟨b,o,h1,h2⟩
  ·exact .inl hr
  ·exact .inr ⟨b,o,h1,RepEAt.nk b o l h2⟩
theorem RepEAt.nk{m:Mem}(b:Nat):∀(o:Nat)(l:List E),RepEAt m b o l->RepEAt (nk m) b o l
 | _,[],_=>by simp only[RepEAt]
 | o,t::l,hr=>by
  simp only[RepEAt]at *
  exact⟨hr.1,RepE.nk t hr.2.1,RepEAt.nk b (o+5) l hr.2.2⟩
end
section
variable {m:Mem}
theorem RepP.nk{p:Pt}(x:RepP m p):RepP (nk m) p:=⟨x.k,x.s,x.g,RepE.nk _ x.e⟩
theorem RepA.nk{p:Ac}(x:RepA m p):RepA (nk m) p:=⟨x.k,x.s,x.n,x.row,λp hp=>(x.all p hp).nk,RepE.nk _ x.e⟩
theorem RepR.nk{p:Ru}(x:RepR m p):RepR (nk m) p:=⟨x.k,Rep.nk _ x.t,x.s,x.n,x.len,x.row,λp hp=>(x.all p hp).nk,x.go,x.code⟩
theorem RepS.nk{p:Sta}(x:RepS m p):RepS (nk m) p:=⟨x.s,x.len,x.row,λp hp=>(x.all p hp).nk⟩
theorem RepC.nk{p:Sc}(x:RepC m p):RepC (nk m) p:=⟨x.n,x.vlen,x.vrow,x.vall,x.len,x.row,λp hp=>(x.all p hp).nk,x.vcap,x.scap⟩
end
def ZvG(i j i' k':Nat):Prop:=i' < i\/(i'=i/\k' < j)
def ent(x:Sta)(i k:Nat):Dd×Dd:=(((i:Int),((Ztx x k:Nat):Int)),((i:Int),(k:Int)))
structure Vis (s:Sc)(Z:List (Dd×Dd))(i j:Nat):Prop where
 src:∀q∈Z,∃(i' k':Nat)(x:Sta)(r:Ru),q=ent x i' k'/\s.states[i']?=some x/\x.rules[k']?=some r/\kp r=true/\ZvG i j i' k'
 all:∀(i' k':Nat)(x:Sta)(r:Ru),s.states[i']?=some x->x.rules[k']?=some r->kp r=true->ZvG i j i' k'->ent x i' k'∈Z
 nodup:(Z.map (·.1)).Nodup
theorem Vis.nil(s:Sc):Vis s [] 0 0:=⟨(λq h=>by cases h),(λi' k' x r _ _ _ h=>by unfold ZvG at h;omega),by simp⟩
theorem Vis.skip{s:Sc}{Z:List (Dd×Dd)}{i j:Nat}(h:Vis s Z i j){x:Sta}{r:Ru}(hx:s.states[i]?=some x)(hr:x.rules[j]?=some r)(hk:kp r=false):Vis s Z i (j+1):=by
 refine⟨λq hq=>?_,λi' k' x' r' h1 h2 h3 h4=>?_,h.nodup⟩
 ·obtain⟨i',k',x',r',e,h1,h2,h3,h4⟩:=h.src q hq
  exact⟨i',k',x',r',e,h1,h2,h3,by unfold ZvG at h4 ⊢;omega⟩
 ·refine h.all i' k' x' r' h1 h2 h3 ?_
  by_cases e:i'=i/\k'=j
  ·obtain⟨rfl,rfl⟩:=e
   rw[hx]at h1;cases h1
   rw[hr]at h2;cases h2
   rw[hk]at h3;cases h3
  ·unfold ZvG at h4 ⊢;omega
theorem Vis.put{s:Sc}{Z:List (Dd×Dd)}{i j:Nat}(h:Vis s Z i j){x:Sta}{r:Ru}(hx:s.states[i]?=some x)(hr:x.rules[j]?=some r)(hk:kp r=true):(ent x i j).1 ∉ Z.map (·.1)/\Vis s (Z++[ent x i j]) i (j+1):=by
 have jA:(ent x i j).1 ∉ Z.map (·.1):=by
  intro eO
  obtain⟨q,hq,he⟩:=List.mem_map.1 eO
  obtain⟨i',k',x',r',rfl,h1,h2,h3,h4⟩:=h.src q hq
  obtain⟨e1,e2⟩:(i':Int)=i/\((Ztx x' k':Nat):Int)=(Ztx x j:Nat):=by simpa[ent]using he
  obtain rfl:i'=i:=by omega
  rw[hx]at h1;cases h1
  have:=Zvt h2 hr h3 hk (by omega)
  unfold ZvG at h4;omega
 refine⟨jA,⟨λq hq=>?_,λi' k' x' r' h1 h2 h3 h4=>?_,?_⟩⟩
 ·rcases List.mem_append.1 hq with hq|hq
  ·obtain⟨i',k',x',r',e,h1,h2,h3,h4⟩:=h.src q hq
   exact⟨i',k',x',r',e,h1,h2,h3,by unfold ZvG at h4 ⊢;omega⟩
  ·rw[List.mem_singleton]at hq;subst hq
   exact⟨i,j,x,r,rfl,hx,hr,hk,by unfold ZvG;omega⟩
 ·by_cases e:i'=i/\k'=j
  ·obtain⟨rfl,rfl⟩:=e
   rw[hx]at h1;cases h1
   exact List.mem_append_right _ (by simp)
  ·exact List.mem_append_left _ (h.all i' k' x' r' h1 h2 h3 (by unfold ZvG at h4 ⊢;omega))
 ·rw[List.map_append,List.nodup_append]
  refine⟨h.nodup,by simp,λa ha b hb e=>?_⟩
  have hb:b∈[(ent x i j).1]:=hb
  rw[List.mem_singleton]at hb
  subst hb;subst e
  exact jA ha
theorem Vis.next{s:Sc}{Z:List (Dd×Dd)}{i:Nat}{x:Sta}(hx:s.states[i]?=some x)(h:Vis s Z i x.rules.length):Vis s Z (i+1) 0:=by
 refine⟨λq hq=>?_,λi' k' x' r' h1 h2 h3 h4=>h.all i' k' x' r' h1 h2 h3 ?_,h.nodup⟩
 ·obtain⟨i',k',x',r',e,h1,h2,h3,h4⟩:=h.src q hq
  exact⟨i',k',x',r',e,h1,h2,h3,by unfold ZvG at h4 ⊢;omega⟩
 ·by_cases e:i'=i
  ·subst e
   rw[hx]at h1;cases h1
   have:=(zA0 h2).1
   unfold ZvG;omega
  ·unfold ZvG at h4 ⊢;omega
theorem Vis.get{s:Sc}{Z:List (Dd×Dd)}(h:Vis s Z s.states.length 0){d:Dd}(hd:d∈Zxz s):(phi s d,d)∈Z:=by
 obtain⟨i,k,x,r,rfl,h1,h2,h3,h4⟩:=ZxC hd
 rw[h4]
 exact h.all i k x r h1 h2 h3 (by have:=(zA0 h1).1;unfold ZvG;omega)
section
variable {m2 m3:Mem} {s':Sc} {bS:Nat} {μ:Nat->Mem} (dp:RepC (nw m2 m3) s') (dq:SepC m2 m3 s' bS μ)
include dq
include dp
end
theorem Zb2{α:Type}{f g:α->Int}:∀{l:List α},(∀x∈l,f x<=g x)->ZaF (l.map f)<=ZaF (l.map g)
 | [],_=>by simp[ZaF]
 | x::l,h=>by
  have:=Zb2 (l:=l) λy hy=>h y (by simp[hy])
  have:=h x (by simp)
  simp only[List.map_cons,ZaF];omega
theorem ZmD{α β:Type}(k:α->List β)(f:β->Int):∀l:List α,ZaF ((l.flatMap k).map f)=ZaF (l.map λx=>ZaF ((k x).map f))
 | []=>rfl
 | x::l=>by simp only[List.flatMap_cons,List.map_append,Zje,List.map_cons,ZaF,ZmD k f l]
theorem ZxU(q:E->Bool)(l:List E):0<=Zmi q l/\Zmi q l<=l.length:=by
 unfold Zmi
 have:=List.length_filter_le q l
 omega
theorem Zrj{e:E}(h:e.light=true):nE e=e.nodes.length:=by unfold nE E.size;rw[h];rfl
theorem ZvH{e:E}(h:e.light=true):0<=vrE e/\vrE e<=nE e:=by
 rw[Zrj h];exact ZxU ZzL e.nodes
theorem Zrk{e:E}(h:e.light=true):0<=Zn8 e/\Zn8 e<=nE e:=by
 rw[Zrj h];unfold Zn8;rw[h];exact ZxU Zzg e.nodes
theorem Zrl{a:Ac}(h:LtA a):(0<=paA a/\paA a<=wA a)/\(0<=Zq6 a/\Zq6 a<=wA a)/\(0<=vrA a/\vrA a<=wA a):=by
 have h0:=(ZfL a.e).1
 have p0:∀p∈a.parts,0<=nE p.e:=λp _=>(ZfL p.e).1
 have s0:=Zc3 (λp:Pt=>nE p.e) (λp=>(ZfL p.e).1) a.parts
 have e1:=Zrk h.1
 have e2:=ZvH h.1
 have a1:0<=paA a:=Zc3 paP (λp=>by unfold paP;split <;> omega) a.parts
 have a2:paA a<=a.parts.length:=by
  have:=ZgK paP 1 a.parts λp _=>by unfold paP;split <;> omega
  unfold paA;omega
 have o1:ZaF (a.parts.map Zo5)<=ZaF (a.parts.map λp=>nE p.e):=Zb2 λp hp=>by
  have:=Zrk (h.2 p hp);have:=p0 p hp
  unfold Zo5;split <;> omega
 have o0:0<=ZaF (a.parts.map Zo5):=by
  have:ZaF (a.parts.map λ_=>(0:Int))<=ZaF (a.parts.map Zo5):=Zb2 λp hp=>by
   have:=Zrk (h.2 p hp)
   unfold Zo5;split <;> omega
  have z:∀l:List Pt,ZaF (l.map λ_=>(0:Int))=0:=λl=>by induction l with
   | nil=>rfl
   | cons x l ih=>simp only[List.map_cons,ZaF,ih];omega
  rw[z]at this;exact this
 have v1:ZaF (a.parts.map vrP)<=ZaF (a.parts.map λp=>nE p.e):=Zb2 λp hp=>by
  have:=ZvH (h.2 p hp);have:=p0 p hp
  unfold vrP;split <;> omega
 have v0:0<=ZaF (a.parts.map vrP):=by
  have:ZaF (a.parts.map λ_=>(0:Int))<=ZaF (a.parts.map vrP):=Zb2 λp hp=>by
   have:=ZvH (h.2 p hp)
   unfold vrP;split <;> omega
  have z:∀l:List Pt,ZaF (l.map λ_=>(0:Int))=0:=λl=>by induction l with
   | nil=>rfl
   | cons x l ih=>simp only[List.map_cons,ZaF,ih];omega
  rw[z]at this;exact this
 unfold Zq6 vrA wA
 refine⟨⟨a1,by omega⟩,⟨by split <;> omega,by split <;> omega⟩,⟨by split <;> omega,by split <;> omega⟩⟩
theorem Zrm{s:Sc}(hl:s.light=true)(f:Ac->Int)(hf:∀a,LtA a->0<=f a/\f a<=wA a):0<=ZaF ((Zco s).map f)/\ZaF ((Zco s).map f)<=20000:=by
 have aB:=Zu8 hl
 have hw:ZaF ((Zco s).map f)<=ZaF (s.states.map wS):=by
  unfold Zco
  rw[ZmD]
  refine Zb2 λx hx=>?_
  unfold ZkP wS
  rw[ZmD]
  refine Zb2 λr hr=>?_
  have:ZaF (r.acts.map f)<=ZaF (r.acts.map wA):=Zb2 λa ha=>(hf a ((aB x hx r hr).2 a ha)).2
  have h1:=(ZfM r.t).1
  have:0<=Zgg r.t.size 20000:=by unfold Zgg;split <;> omega
  unfold wR;split <;> omega
 have h0:0<=ZaF ((Zco s).map f):=by
  have:ZaF ((Zco s).map λ_=>(0:Int))<=ZaF ((Zco s).map f):=Zb2 λa ha=>by
   unfold Zco ZkP at ha
   obtain⟨x,hx,ha⟩:=List.mem_flatMap.1 ha
   obtain⟨r,hr,ha⟩:=List.mem_flatMap.1 ha
   exact(hf a ((aB x hx r hr).2 a ha)).1
  have z:∀l:List Ac,ZaF (l.map λ_=>(0:Int))=0:=λl=>by induction l with
   | nil=>rfl
   | cons x l ih=>simp only[List.map_cons,ZaF,ih];omega
  rw[z]at this;exact this
 have lC:=zA6 (show decide (s.weight<=20000)=true from hl)
 unfold Sc.weight at lC
 omega
theorem ZzW{s:Sc}(hl:s.light=true):0<=ms2 s/\ms2 s<=20000:=by
 have h:∀r:Ru,0<=rgR r/\rgR r<=wR r:=λr=>by
  have h1:=ZfM r.t
  have h2:=Zc3 wA ZqJ r.acts
  have h3:Zgg r.t.size 20000=r.t.size:=by unfold Zgg;split <;> omega
  unfold rgR wR
  rw[h3]
  split <;> split <;> omega
 have h0:0<=ms2 s:=Zc3 rgS (λx=>Zc3 rgR (λr=>(h r).1) x.rules) s.states
 have h1:ms2 s<=ZaF (s.states.map wS):=Zb2 λx _=>Zb2 λr _=>(h r).2
 have lC:=zA6 (show decide (s.weight<=20000)=true from hl)
 unfold Sc.weight at lC
 omega
theorem ZzX{s:Sc}(hl:s.light=true):0<=ms1 s/\ms1 s<=20000:=by
 have h:∀x:Sta,0<=ruS x/\ruS x<=wS x:=λx=>by
  refine⟨by unfold ruS;omega,?_⟩
  have:ZaF (x.rules.map λ_=>(1:Int))<=ZaF (x.rules.map wR):=Zb2 λr _=>by
   have h1:=(ZfM r.t).1
   have h2:=Zc3 wA ZqJ r.acts
   have h3:0<=Zgg r.t.size 20000:=by unfold Zgg;split <;> omega
   unfold wR;split <;> omega
  have z:∀l:List Ru,ZaF (l.map λ_=>(1:Int))=l.length:=λl=>by induction l with
   | nil=>rfl
   | cons x l ih=>simp only[List.map_cons,ZaF,ih,List.length_cons];omega
  rw[z]at this
  exact this
 have h0:0<=ms1 s:=Zc3 ruS (λx=>(h x).1) s.states
 have h1:ms1 s<=ZaF (s.states.map wS):=Zb2 λx _=>(h x).2
 have lC:=zA6 (show decide (s.weight<=20000)=true from hl)
 unfold Sc.weight at lC
 omega
theorem Zrn{s:Sc}(hl:s.light=true):ZiA s=msV s.states.length (ms1 s) (ms2 s) (ms3 s) (ms4 s) (ms5 s):=by
 have h1:=ZzX hl
 have h2:=ZzW hl
 have h3:=Zrm hl paA λa h=>(Zrl h).1
 have h4:=Zrm hl Zq6 λa h=>(Zrl h).2.1
 have h5:=Zrm hl vrA λa h=>(Zrl h).2.2
 have e3:ms3 s=ZaF ((Zco s).map paA):=rfl
 have e4:ms4 s=ZaF ((Zco s).map Zq6):=rfl
 have e5:ms5 s=ZaF ((Zco s).map vrA):=rfl
 unfold ZiA
 rw[hl,if_pos rfl,ZAF (n:=ms1 s) (by unfold I64;omega),ZAF (n:=ms2 s) (by unfold I64;omega),ZAF (n:=ms3 s) (by unfold I64;omega),ZAF (n:=ms4 s) (by unfold I64;omega),ZAF (n:=ms5 s) (by unfold I64;omega)]
end Go.Rx