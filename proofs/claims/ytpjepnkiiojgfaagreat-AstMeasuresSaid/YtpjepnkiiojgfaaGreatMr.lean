/- Trees of regexes, what they mean, and yV they lie in memory; plain, no program is named. No condition. -/
import Derived.Test.YtpjepnkiiojgfaaGreatMc
import Derived.Sort.Grow
import Derived.Test.YtpjepnkiiojgfaaGreatMb
import Derived.Lib.SlicesCompact
import Derived.Lib.SliceRun
import Derived.Shelf.SlicesE.Delete
import Derived.Deep.MidRow
import Derived.KernelRfl
set_option linter.unusedVariables false
set_option linter.unusedSimpArgs false
set_option linter.unusedSectionVars false
namespace Go.Rx
open Go Go.Eng
inductive T where
 | node (k s0 s1 s2 s3 mn mx:Int) (a:Option Addr) (c:Nat) (subs:List T)
def T.k:T->Int
 | .node k _ _ _ _ _ _ _ _ _=>k
def T.s0:T->Int
 | .node _ s _ _ _ _ _ _ _ _=>s
def T.s1:T->Int
 | .node _ _ s _ _ _ _ _ _ _=>s
def T.s2:T->Int
 | .node _ _ _ s _ _ _ _ _ _=>s
def T.s3:T->Int
 | .node _ _ _ _ s _ _ _ _ _=>s
def T.mn:T->Int
 | .node _ _ _ _ _ x _ _ _ _=>x
def T.mx:T->Int
 | .node _ _ _ _ _ _ x _ _ _=>x
def T.a:T->Option Addr
 | .node _ _ _ _ _ _ _ a _ _=>a
def T.c:T->Nat
 | .node _ _ _ _ _ _ _ _ c _=>c
def T.subs:T->List T
 | .node _ _ _ _ _ _ _ _ _ l=>l
def T.sl(t:T):Value:=.slice t.a t.subs.length t.c
def T.cs(t:T):List Value:=[.int .u8 t.k,.int .u64 t.s0,.int .u64 t.s1,.int .u64 t.s2,.int .u64 t.s3,.int .i64 t.mn,.int .i64 t.mx,t.sl]
def T.v(t:T):Value:=.agg #[.int .u8 t.k,.int .u64 t.s0,.int .u64 t.s1,.int .u64 t.s2,.int .u64 t.s3,.int .i64 t.mn,.int .i64 t.mx,.slice t.a t.subs.length t.c]
structure OkN (k s0 s1 s2 s3 mn mx:Int):Prop where
 k:0<=k/\k < 256
 s0:0<=s0/\s0 < 18446744073709551616
 s1:0<=s1/\s1 < 18446744073709551616
 s2:0<=s2/\s2 < 18446744073709551616
 s3:0<=s3/\s3 < 18446744073709551616
 mn : -9223372036854775808<=mn/\mn<=9223372036854775807
 mx : -9223372036854775808<=mx/\mx<=9223372036854775807
mutual
def Rep(m:Mem):T->Prop
 | .node k s0 s1 s2 s3 mn mx a _ l=>l.length<=1000000000000000/\(l=[]\/∃b o,a=some ⟨b,o,none⟩/\RepAt m b o l)/\OkN k s0 s1 s2 s3 mn mx
def RepAt(m:Mem)(b:Nat):Nat->List T->Prop
 | _,[]=>True
 | o,t::l=>m.reads b o t.cs/\Rep m t/\RepAt m b (o+8) l
end
theorem Znf{m:Mem}{t:T}:Rep m t->(t.subs.length<=1000000000000000/\(t.subs=[]\/∃b o,t.a=some ⟨b,o,none⟩/\RepAt m b o t.subs)):=by
 cases t;simp only[Rep,T.subs,T.a];exact λh=>⟨h.1,h.2.1⟩
theorem Zyp{m:Mem}{t:T}:Rep m t->OkN t.k t.s0 t.s1 t.s2 t.s3 t.mn t.mx:=by
 cases t;simp only[Rep];exact λh=>h.2.2
theorem Zla{m:Mem}{t:T}(h1:t.subs.length<=1000000000000000)(h2:t.subs=[]\/∃b o,t.a=some ⟨b,o,none⟩/\RepAt m b o t.subs)(h3:OkN t.k t.s0 t.s1 t.s2 t.s3 t.mn t.mx):Rep m t:=by
 cases t;simp only[Rep];exact⟨h1,h2,h3⟩
mutual
theorem Rep.mono{m m':Mem}(h:m.le m'):∀t:T,Rep m t->Rep m' t
 | .node _ _ _ _ _ _ _ a _ l,hr=>by
  simp only[Rep]at *
  refine⟨hr.1,?_,hr.2.2⟩
  rcases hr.2.1 with hr|⟨b,o,h1,h2⟩
  ·exact .inl hr
  ·exact .inr ⟨b,o,h1,RepAt.mono h b o l h2⟩
theorem RepAt.mono{m m':Mem}(h:m.le m')(b:Nat):∀(o:Nat)(l:List T),RepAt m b o l->RepAt m' b o l
 | _,[],_=>by simp only[RepAt]
 | o,t::l,hr=>by
  simp only[RepAt]at *
  exact⟨hr.1.mono h,Rep.mono h t hr.2.1,RepAt.mono h b (o+8) l hr.2.2⟩
end
theorem RepAt.get{m:Mem}{b:Nat}:∀{o:Nat} {l:List T} {i:Nat} {t:T},RepAt m b o l->l[i]?=some t->m.reads b (o+i*8) t.cs/\Rep m t
 | o,[],i,t,_,hi=>by simp at hi
 | o,x::l,0,t,h,hi=>by
  simp only[RepAt]at h
  simp at hi;subst hi
  exact⟨by simpa using h.1,h.2.1⟩
 | o,x::l,i+1,t,h,hi=>by
  simp only[RepAt]at h
  have:=h.2.2.get (i:=i) (by simpa using hi)
  rw[show o+(i+1)*8=o+8+i*8 by omega]
  exact this
mutual
def T.nodes:T->List T
 | .node k s0 s1 s2 s3 mn mx a c l=>.node k s0 s1 s2 s3 mn mx a c l::ZaH l
def ZaH:List T->List T
 | []=>[]
 | t::l=>t.nodes++ZaH l
end
theorem Zco(t:T):t.nodes=t::ZaH t.subs:=by cases t;simp only[T.nodes,T.subs]
theorem ZcI(l r:List T):ZaH (l++r)=ZaH l++ZaH r:=by
 induction l with
 | nil=>simp[ZaH]
 | cons t l ih=>simp[ZaH,ih,List.append_assoc]
theorem Zng{l:List T}{i:Nat}{t:T}(h:l[i]?=some t):ZaH (l.take (i+1))=ZaH (l.take i)++t.nodes:=by
 have:l.take (i+1)=l.take i++[t]:=by
  rw[List.take_add_one,h];rfl
 rw[this,ZcI];simp[ZaH]
theorem Zem{l:List T}{i:Nat}{t:T}(h:l[i]?=some t):ZaH l=ZaH (l.take i)++(t.nodes++ZaH (l.drop (i+1))):=by
 have aC:=(zA0 h).1
 have e:l=l.take i++(t::l.drop (i+1)):=by
  have:=List.drop_eq_getElem_cons aC
  rw[(zA0 h).2]at this
  rw[<-this,List.take_append_drop]
 conv=>lhs;rw[e,ZcI]
 simp[ZaH]
theorem Zuo{t x z:T}{i q:Nat}(hx:t.subs[i]?=some x)(hz:x.nodes[q]?=some z):t.nodes[1+(ZaH (t.subs.take i)).length+q]?=some z:=by
 have hq:=(zA0 hz).1
 rw[Zco,show 1+(ZaH (t.subs.take i)).length+q=((ZaH (t.subs.take i)).length+q)+1 by omega,List.getElem?_cons_succ,Zem hx,zA4 (by omega),zA5 (by omega),show(ZaH (List.take i t.subs)).length+q - (ZaH (List.take i t.subs)).length=q by omega]
 exact hz
theorem Zr5{t x:T}(h:x∈t.subs):SizeOf.sizeOf x < SizeOf.sizeOf t:=by
 cases t with
 | node k s0 s1 s2 s3 mn mx a c l=>
  have h':x∈l:=h
  have:=List.sizeOf_lt_of_mem h'
  simp only[T.node.sizeOf_spec]
  omega
theorem Zup(t:T):Shape.fitsL [.agg [.int .u8,.int .u64,.int .u64,.int .u64,.int .u64,.int .i64,.int .i64,.slice]] [t.v]=true:=by
 simp[Shape.fitsL,Shape.fits,T.v]
def Zr6(least most:Int):Bool:=!(decide (least < 0)||decide (least > 16)||(least == 1&&most == 1))&&(most == -1||(decide (most ≥ 1)&&decide (most<=16)&&decide (most ≥ least)))
def T.has(t:T)(k:Int):Bool:=t.subs.any λx=>x.k == k
def T.light(t:T):Bool:=decide (t.nodes.length<=10000)
def T.setZ(t:T):Bool:=t.s0 == 0&&t.s1 == 0&&t.s2 == 0&&t.s3 == 0
def T.right(t:T):Bool:=
 !(t.k != 2&&!t.setZ||(t.k != 5&&(t.mn != 0||t.mx != 0)||(decide (t.k < 3)&&decide (0 < t.subs.length)))) &&
 (if t.k=1 then true else if t.k=2 then !t.setZ else if t.k=3 then decide (1 < t.subs.length)&&(!t.has 1&&!t.has 3)else if t.k=4 then decide (1 < t.subs.length)&&!t.has 4
  else if t.k=5 then t.subs.length == 1&&(Zr6 t.mn t.mx&&!t.has 1)else t.k == 6&&t.subs.length == 1)
def T.clean(t:T):Bool:=t.light&&t.nodes.all T.right
def T.size(t:T):Int:=if t.light then t.nodes.length else 10001
def T.groups(t:T):Int:=if t.light then(t.nodes.countP λx=>x.k == 6:Nat)else 10001
def Zuq(x y:Int):Int:=if y > x then y else x
def Zga(x y:Int):Int:=if y < x then y else x
def ZxB(k mn mx sum:Int):Int:=Zga (if k=5 then sum*Zga (if mx=-1 then Zuq (Zuq mn 0) 1 else Zuq (Zuq mn 0) mx) 10001 else sum) 10001
mutual
def T.pos:T->Int
 | .node k _ _ _ _ mn mx _ _ l=>ZxB k mn mx ((if k=2 then 1 else 0)+ZjV l)
def ZjV:List T->Int
 | []=>0
 | t::l=>t.pos+ZjV l
end
def T.positions(t:T):Int:=if t.light then t.pos else 10001
def T.check(t:T):Int:=if t.clean=false then 80 else if t.size > 120 then 81 else if t.positions > 400 then 82 else if t.groups > 9 then 83 else 0
mutual
def T.same:T->T->Bool
 | .node k s0 s1 s2 s3 mn mx _ _ l,.node k' s0' s1' s2' s3' mn' mx' _ _ l'=>k == k'&&((s0 == s0'&&s1 == s1'&&s2 == s2'&&s3 == s3')&&(mn == mn'&&(mx == mx'&&ZeF l l')))
def ZeF:List T->List T->Bool
 | [],[]=>true
 | t::l,t'::l'=>t.same t'&&ZeF l l'
 | _,_=>false
end
theorem Ztn(t u:T):t.same u=(t.k == u.k&&((t.s0 == u.s0&&t.s1 == u.s1&&t.s2 == u.s2&&t.s3 == u.s3)&&(t.mn == u.mn&&(t.mx == u.mx&&ZeF t.subs u.subs)))):=by
 cases t;cases u;simp only[T.same,T.k,T.s0,T.s1,T.s2,T.s3,T.mn,T.mx,T.subs]
theorem Znh:∀{l r:List T},¬l.length=r.length->ZeF l r=false
 | [],[],h=>by simp at h
 | [],_::_,_=>by simp[ZeF]
 | _::_,[],_=>by simp[ZeF]
 | x::l,y::r,h=>by
  simp only[ZeF,Znh (l:=l) (r:=r) (by simpa using h),Bool.and_false]
theorem Zqg:∀{l r:List T} {i:Nat} {x y:T},l[i]?=some x->r[i]?=some y->x.same y=false->ZeF l r=false
 | [],r,i,x,y,h,_,_=>by simp at h
 | _::_,[],i,x,y,_,h,_=>by simp at h
 | a::l,b::r,0,x,y,h,k,e=>by
  simp at h k;subst h k
  simp[ZeF,e]
 | a::l,b::r,i+1,x,y,h,k,e=>by
  simp only[ZeF,Zqg (l:=l) (r:=r) (i:=i) (by simpa using h) (by simpa using k) e,Bool.and_false]
theorem Zkn:∀{l r:List T} {i:Nat} {x y:T},l[i]?=some x->r[i]?=some y->ZeF (l.take i) (r.take i)=true->x.same y=true->True->ZeF (l.take (i+1)) (r.take (i+1))=true
 | [],r,i,x,y,h,_,_,_,_=>by simp at h
 | _::_,[],i,x,y,_,h,_,_,_=>by simp at h
 | a::l,b::r,0,x,y,h,k,_,e,_=>by
  simp at h k;subst h k
  simp[ZeF,e]
 | a::l,b::r,i+1,x,y,h,k,hs,e,_=>by
  simp only[List.take_succ_cons,ZeF,zA7]at hs ⊢
  exact⟨hs.1,Zkn (by simpa using h) (by simpa using k) hs.2 e trivial⟩
theorem Zr7(t:T):t.pos=ZxB t.k t.mn t.mx ((if t.k=2 then 1 else 0)+ZjV t.subs):=by
 cases t;simp only[T.pos,T.k,T.mn,T.mx,T.subs];congr 1
theorem Zbe(l r:List T):ZjV (l++r)=ZjV l+ZjV r:=by
 induction l with
 | nil=>simp[ZjV]
 | cons t l ih=>simp[ZjV,ih,Int.add_assoc]
theorem Zqh(x y:Int):x<=Zuq x y/\y<=Zuq x y:=by unfold Zuq;split <;> omega
theorem Zko(x y:Int):Zga x y<=x/\Zga x y<=y:=by unfold Zga;split <;> omega
theorem Zto{x y:Int}(h:0<=x)(k:0<=y):0<=Zga x y:=by unfold Zga;split <;> omega
def Zyq(mn mx:Int):Int:=Zga (if mx=-1 then Zuq (Zuq mn 0) 1 else Zuq (Zuq mn 0) mx) 10001
theorem Zwe(mn mx:Int):0<=Zyq mn mx/\Zyq mn mx<=10001:=by
 unfold Zyq
 refine⟨Zto ?_ (by omega),(Zko _ _).2⟩
 have h1:=Zqh mn 0
 split
 ·have:=Zqh (Zuq mn 0) 1;omega
 ·have:=Zqh (Zuq mn 0) mx;omega
theorem Zwf{k mn mx sum:Int}(h:0<=sum):0<=ZxB k mn mx sum/\ZxB k mn mx sum<=10001:=by
 have h2:=Int.mul_nonneg h (Zwe mn mx).1
 unfold ZxB
 refine⟨Zto ?_ (by omega),(Zko _ _).2⟩
 split
 ·exact h2
 ·exact h
mutual
theorem Zlb:∀t:T,0<=t.pos/\t.pos<=10001
 | .node k _ _ _ _ mn mx _ _ l=>by
  simp only[T.pos]
  have:=Zij l
  exact Zwf (by split <;> omega)
theorem Zij:∀l:List T,0<=ZjV l
 | []=>by simp[ZjV]
 | t::l=>by
  simp only[ZjV]
  have:=Zlb t
  have:=Zij l
  omega
end
theorem Zwg(t:T):t.subs.length < t.nodes.length:=by
 rw[Zco,List.length_cons]
 have:∀l:List T,l.length<=(ZaH l).length:=by
  intro l
  induction l with
  | nil=>simp[ZaH]
  | cons x l ih=>simp only[ZaH,List.length_cons,zA1];rw[Zco];simp;omega
 have:=this t.subs
 omega
def T.hasB(t:T)(c:Nat):Bool:=((if c / 64=0 then t.s0 else if c / 64=1 then t.s1 else if c / 64=2 then t.s2 else t.s3).toNat).testBit (c % 64)
end Go.Rx
namespace Go.Rx
open Go Go.Eng Go.RowKit
def wdN(f j:Nat):Nat:=(f >>> (64*j)) % 2 ^ 64
theorem Zzf(n:Nat)(h:n < 18446744073709551616):IntKind.u64.wrap (n:Int)=n:=by
 unfold IntKind.wrap
 have e:(2:Int) ^ 64=18446744073709551616:=by decide
 simp only[IntKind.bits,IntKind.signed,Bool.false_and,Bool.false_eq_true,if_false,e]
 omega
theorem ZAq(a:Nat)(h:a < 18446744073709551616):(BitVec.ofInt 64 (a:Int)).toNat=a:=by
 rw[BitVec.toNat_ofInt]
 have e:((2:Nat) ^ 64:Nat)=18446744073709551616:=by decide
 rw[e];omega
theorem Zur(a b:Nat)(ha:a < 18446744073709551616)(hb:b < 18446744073709551616):IntKind.u64.wrap ((BitVec.ofInt 64 (a:Int)|||BitVec.ofInt 64 (b:Int)).toNat:Int)=((a|||b:Nat):Int):=by
 rw[BitVec.toNat_or,ZAq a ha,ZAq b hb]
 exact Zzf _ (Nat.or_lt_two_pow (n:=64) ha hb)
def orL(f g k:Nat):List Value:=(List.range 9).map λj=>.int .u64 ((if j < k then wdN (f|||g) j else wdN f j:Nat):Int)
def Byt(m:Mem)(a:Option Addr)(s:List Nat):Prop:=(s=[]\/∃b o,a=some ⟨b,o,none⟩/\m.reads b o (s.map λc:Nat=>Value.int .u8 c))/\∀c∈s,c < 256
theorem Byt.mono{m m':Mem}{a s}(h:Byt m a s)(hm:m.le m'):Byt m' a s:=by
 refine⟨?_,h.2⟩
 rcases h.1 with h|⟨b,o,h1,h2⟩
 ·exact .inl h
 ·exact .inr ⟨b,o,h1,h2.mono hm⟩
theorem Byt.get{m:Mem}{a s}(h:Byt m a s){i c:Nat}(hi:s[i]?=some c):(∃b o,a=some ⟨b,o,none⟩/\m b (o+i)=some (.int .u8 c))/\c < 256:=by
 refine⟨?_,h.2 c (zA2 hi)⟩
 rcases h.1 with h|⟨b,o,h1,h2⟩
 ·subst h;simp at hi
 ·exact⟨b,o,h1,h2 i _ (by rw[List.getElem?_map,hi];rfl)⟩
def ZzN(t:T)(back:Bool)(f i c out:Nat):Nat:=if(f.testBit (if back then i+1 else i)&&t.hasB c)=true then out|||2 ^ (if back then i else i+1)else out
def ZAr(t:T)(back:Bool)(f:Nat):List Nat->Nat->Nat->Nat
 | [],_,out=>out
 | c::s,i,out=>ZAr t back f s (i+1) (ZzN t back f i c out)
def ZAh(g:Nat->Nat):Nat->Nat->Nat
 | 0,f=>f
 | n+1,f=>ZAh g n (g f)
def Zzg(g:Nat->Nat)(mx:Int):Nat->Int->Nat->Nat->Nat
 | 0,_,out,_=>out
 | n+1,k,out,last=>if k=mx then out else if out|||g last=out then out else Zzg g mx n (IntKind.i64.wrap (k+1)) (out|||g last) (g last)
@[irreducible] def ZAM:Nat:=576
abbrev ZAN:Nat:=2 ^ ZAM
def ZAO(g:Nat->Nat)(mn mx:Int)(f:Nat):Nat:=Zzg g mx (ZAN+1) mn (ZAh g mn.toNat f) (ZAh g mn.toNat f)
mutual
def T.lead(s:List Nat)(back:Bool):T->Nat->Nat
 | .node k s0 s1 s2 s3 mn mx a c l=>λf=>
  if k=1 then f else if k=2 then ZAr (.node k s0 s1 s2 s3 mn mx a c l) back f s 0 0
  else if k=3 then(if back then Zzi s back l f else Zzh s back l f)
  else if k=4 then ZAs s back l f 0
  else if k=5 then ZAO (Zzj s back l) mn mx f
  else if k=6 then Zzj s back l f else 0
def Zzh(s:List Nat)(back:Bool):List T->Nat->Nat
 | []=>λf=>f
 | t::l=>λf=>Zzh s back l (t.lead s back f)
def Zzi(s:List Nat)(back:Bool):List T->Nat->Nat
 | []=>λf=>f
 | t::l=>λf=>t.lead s back (Zzi s back l f)
def ZAs(s:List Nat)(back:Bool):List T->Nat->Nat->Nat
 | []=>λ_ out=>out
 | t::l=>λf out=>ZAs s back l f (out|||t.lead s back f)
def Zzj(s:List Nat)(back:Bool):List T->Nat->Nat
 | []=>λf=>f
 | t::_=>λf=>t.lead s back f
end
section
variable {s:List Nat} {back:Bool}
end
theorem Zqi{α:Type}{l:List α}{i:Nat}{x:α}(h:l[i]?=some x):l.drop i=x::l.drop (i+1):=by
 obtain⟨h1,h2⟩:=zA0 h
 rw[List.drop_eq_getElem_cons h1,h2]
theorem Zqj{α:Type}{l:List α}{i:Nat}{x:α}(h:l[i]?=some x):l.take (i+1)=l.take i++[x]:=by
 rw[List.take_add_one,h];rfl
section
variable (s:List Nat) (back:Bool) (hs:s.length<=512)
include hs
end
def T0:T:=.node 0 0 0 0 0 0 0 none 0 []
def T1:T:=.node 1 0 0 0 0 0 0 none 0 []
theorem Zwh(m:Mem):Rep m T1:=by simp only[T1,Rep];exact⟨by simp,.inl trivial,by constructor <;> decide⟩
def T.isNone(t:T):Bool:=t.k == 0&&(t.light&&(T0.light&&t.same T0))
structure Rg where
 bg:Bool
 en:Bool
 t:T
def Rg.v(r:Rg):Value:=.agg #[.bool r.bg,.bool r.en,.int .u8 r.t.k,.int .u64 r.t.s0,.int .u64 r.t.s1,.int .u64 r.t.s2,.int .u64 r.t.s3,.int .i64 r.t.mn,.int .i64 r.t.mx,.slice r.t.a r.t.subs.length r.t.c]
def Rg.cs(r:Rg):List Value:=[.bool r.bg,.bool r.en,.int .u8 r.t.k,.int .u64 r.t.s0,.int .u64 r.t.s1,.int .u64 r.t.s2,.int .u64 r.t.s3,.int .i64 r.t.mn,.int .i64 r.t.mx,.slice r.t.a r.t.subs.length r.t.c]
def Rgs(m:Mem)(a:Option Addr)(l:List Rg):Prop:=l.length<=1000000000000000/\(l=[]\/∃b o,a=some ⟨b,o,none⟩/\∀i r,l[i]?=some r->m.reads b (o+i*10) r.cs)/\∀r∈l,Rep m r.t
theorem Rgs.mono{m m':Mem}{a l}(h:Rgs m a l)(hm:m.le m'):Rgs m' a l:=by
 refine⟨h.1,?_,λr hr=>(h.2.2 r hr).mono hm⟩
 rcases h.2.1 with h|⟨b,o,h1,h2⟩
 ·exact .inl h
 ·exact .inr ⟨b,o,h1,λi r hi=>(h2 i r hi).mono hm⟩
def Zyr(f:Nat):List Nat:=(List.range 513).filter λi=>f.testBit i
def Zwi(n:Nat):List Nat->Option Nat
 | []=>none
 | i::_=>if i > n then none else some i
def Rg.from(s:List Nat)(n:Nat)(r:Rg):Option Nat:=if(r.en&&decide ((n:Int) < s.length))=true then none else if r.bg then(if(r.t.lead s true (2 ^ n)).testBit 0 then some 0 else none)else
 Zwi n (Zyr (r.t.lead s true (2 ^ n)))
def Zni(φ:T->Prop):Value->Mem->List (List Value)->Prop:=λv m' _=>∃t:T,v=t.v/\Rep m' t/\φ t
abbrev TRK:=Int->Int->Int->Int->Int->Int->Int->Option Addr->Nat->Nat->Mem->Prop
theorem Zph{φ:T->Prop}{m:Mem}{K:TRK}(k:∀(t:T)(m':Mem),m.le m'->Rep m' t->φ t->K t.k t.s0 t.s1 t.s2 t.s3 t.mn t.mx t.a t.subs.length t.c m'):
  ∀(n0 n1 n2 n3 n4 n5 n6:Int)(a:Option Addr)(n c:Nat)(m':Mem),m.le m'->Zni φ (.agg #[.int .u8 n0,.int .u64 n1,.int .u64 n2,.int .u64 n3,.int .u64 n4,.int .i64 n5,.int .i64 n6,.slice a n c]) m' []->K n0 n1 n2 n3 n4 n5 n6 a n c m':=by
 rintro n0 n1 n2 n3 n4 n5 n6 a n c m' hm ⟨t,hv,hr,hp⟩
 simp only[T.v,Value.agg.injEq,Array.mk.injEq,List.cons.injEq,Value.int.injEq,Value.slice.injEq,true_and,and_true]at hv
 obtain⟨rfl,rfl,rfl,rfl,rfl,rfl,rfl,rfl,rfl,rfl⟩:=hv
 exact k t m' hm hr hp
theorem ZeY{φ:T->Prop}:∀(v:Value)(m':Mem) (css:List (List Value)),Zni φ v m' css->Shape.fits (.agg [.int .u8,.int .u64,.int .u64,.int .u64,.int .u64,.int .i64,.int .i64,.slice]) v=true:=λv _ _ ⟨t,e,_⟩=>by rw[e];rfl
def RepL(m:Mem)(a:Option Addr)(l:List T):Prop:=l.length<=1000000000000000/\(l=[]\/∃b o,a=some ⟨b,o,none⟩/\RepAt m b o l)
theorem RepL.mono{m m':Mem}{a l}(h:RepL m a l)(hm:m.le m'):RepL m' a l:=by
 refine⟨h.1,?_⟩
 rcases h.2 with h|⟨b,o,h1,h2⟩
 ·exact .inl h
 ·exact .inr ⟨b,o,h1,h2.mono hm⟩
theorem Rep.subs{m:Mem}{t:T}(h:Rep m t):RepL m t.a t.subs:=Znf h
def ZbR(k mn mx:Int)(a:Option Addr)(c:Nat)(l:List T):T:=.node k 0 0 0 0 mn mx a c l
theorem Zfy{m:Mem}{k mn mx:Int}{a:Option Addr}{c:Nat}{l:List T}(h:RepL m a l)(hk:0<=k/\k < 256)(h1 : -9223372036854775808<=mn/\mn<=9223372036854775807)(h2 : -9223372036854775808<=mx/\mx<=9223372036854775807):Rep m (ZbR k mn mx a c l):=by
 simp only[ZbR,Rep]
 exact⟨h.1,h.2,⟨hk,by omega,by omega,by omega,by omega,h1,h2⟩⟩
theorem Zqk{m:Mem}{b:Nat}{t:T}(h:m.reads b 0 t.cs)(hr:Rep m t):RepL m (some ⟨b,0,none⟩) [t]:=⟨by simp,.inr ⟨b,0,rfl,by simp only[RepAt];exact⟨h,hr,trivial⟩⟩⟩
def Zcd(l:List T):List Value:=(l.map T.cs).flatten
theorem Zar(l:List T):(Zcd l).length=l.length*8:=by
 induction l with
 | nil=>rfl
 | cons t l ih=>simp[Zcd,T.cs]at ih ⊢;omega
theorem ZaR(l r:List T):Zcd (l++r)=Zcd l++Zcd r:=by simp[Zcd]
theorem Zql{m:Mem}{b:Nat}:∀{o:Nat} {l:List T},m.reads b o (Zcd l)->(∀t∈l,Rep m t)->RepAt m b o l
 | o,[],_,_=>by simp only[RepAt]
 | o,t::l,h,hr=>by
  simp only[RepAt]
  refine⟨λj v hj=>?_,hr t (by simp),Zql (λj v hj=>?_) λx hx=>hr x (by simp[hx])⟩
  ·refine h j v ?_
   simp only[Zcd,List.map_cons,List.flatten_cons]
   rw[zA5 (zA0 hj).1];exact hj
  ·have:=h (8+j) v (by
    simp only[Zcd,List.map_cons,List.flatten_cons]
    rw[zA4 (by simp[T.cs])]
    have e:8+j - t.cs.length=j:=by simp[T.cs]
    rw[e];exact hj)
   rw[show o+8+j=o+(8+j) by omega];exact this
theorem Ztp{m:Mem}{a:Option Addr}{l:List T}(h:rowRd m a (Zcd l))(hr:∀t∈l,Rep m t)(hl:l.length<=1000000000000000):RepL m a l:=by
 refine⟨hl,?_⟩
 cases l with
 | nil=>exact .inl rfl
 | cons t l=>
  rcases h with h|⟨b,o,h1,h2⟩
  ·simp[Zcd,T.cs]at h
  ·exact .inr ⟨b,o,h1,Zql h2 hr⟩
theorem ZdY{m:Mem}{a:Option Addr}{l:List T}(h:RepL m a l):rowRd m a (Zcd l):=by
 have key:∀(l:List T)(b o:Nat),RepAt m b o l->m.reads b o (Zcd l):=by
  intro l
  induction l with
  | nil=>intro b o _ j v hj;simp[Zcd]at hj
  | cons t l ih=>
   intro b o hr j v hj
   simp only[RepAt]at hr
   simp only[Zcd,List.map_cons,List.flatten_cons]at hj
   by_cases aC:j < 8
   ·rw[zA5 (by simpa[T.cs]using aC)]at hj
    exact hr.1 j v hj
   ·rw[zA4 (by simp[T.cs];omega)]at hj
    have:=ih b (o+8) hr.2.2 (j - 8) v (by simpa[T.cs,Zcd]using hj)
    rw[show o+8+(j - 8)=o+j by omega]at this;exact this
 rcases h.2 with h|⟨b,o,h1,h2⟩
 ·subst h;exact .inl rfl
 ·exact .inr ⟨b,o,h1,key l b o h2⟩
theorem Zi0{m:Mem}{a:Option Addr}{l:List T}(h:RepL m a l):∀t∈l,Rep m t:=by
 rcases h.2 with h|⟨b,o,_,h⟩
 ·subst h;simp
 ·intro t ht
  obtain⟨i,hi⟩:=List.getElem?_of_mem ht
  exact(h.get hi).2
def ZAi(j:Nat)(w c:Nat):Nat:=if c / 64=j then w|||2 ^ (c % 64)else w
def Zs5(bs:List Nat)(j:Nat):Nat:=bs.foldl (ZAi j) 0
theorem Zr8(l:List Nat)(c j:Nat):Zs5 (l++[c]) j=if c / 64=j then Zs5 l j|||2 ^ (c % 64)else Zs5 l j:=by
 unfold Zs5
 rw[List.foldl_append];rfl
theorem Ztq(l:List Nat)(j:Nat):Zs5 l j < 18446744073709551616:=by
 have key:∀(l:List Nat)(w:Nat),w < 2 ^ 64->l.foldl (ZAi j) w < 2 ^ 64:=by
  intro l
  induction l with
  | nil=>intro w h;exact h
  | cons c l ih=>
   intro w h
   refine ih _ ?_
   unfold ZAi
   split
   ·exact Nat.or_lt_two_pow h (Nat.pow_lt_pow_right (by omega) (by omega))
   ·exact h
 exact key l 0 (by decide)
def Zi1(bs:List Nat):T:=.node 2 (Zs5 bs 0:Nat) (Zs5 bs 1:Nat) (Zs5 bs 2:Nat) (Zs5 bs 3:Nat) 0 0 none 0 []
theorem Znj(bs:List Nat)(m:Mem):Rep m (Zi1 bs):=by
 simp only[Zi1,Rep]
 have h:=Ztq bs
 exact⟨by simp,.inl trivial,⟨by omega,⟨by omega,by have:=h 0;omega⟩,⟨by omega,by have:=h 1;omega⟩,⟨by omega,by have:=h 2;omega⟩,⟨by omega,by have:=h 3;omega⟩,by omega,by omega⟩⟩
def Ztr(bs:List Nat):List Value:=[.int .u64 (Zs5 bs 0:Nat),.int .u64 (Zs5 bs 1:Nat),.int .u64 (Zs5 bs 2:Nat),.int .u64 (Zs5 bs 3:Nat)]
theorem Zr9(bs:List Nat){j:Nat}(h:j < 4):(Ztr bs)[j]?=some (.int .u64 (Zs5 bs j:Nat)):=by
 have:j=0\/j=1\/j=2\/j=3:=by omega
 rcases this with rfl|rfl|rfl|rfl <;> rfl
theorem Zpi(l:List Nat){c j:Nat}(hj:c / 64=j)(h:j < 4):ZaF (Ztr l) j [.int .u64 ((Zs5 l j|||2 ^ (c % 64):Nat):Int)]=Ztr (l++[c]):=by
 unfold Ztr
 simp only[Zr8,hj]
 have:j=0\/j=1\/j=2\/j=3:=by omega
 rcases this with rfl|rfl|rfl|rfl <;> rfl
def Zc6(n:Nat):List Nat:=([[97],[98],[97,98],[97],[98],[99],[97,98,99],[98,99],[10],[0,255],[97],[98]][n % 12]?).getD []
end Go.Rx
namespace Go.Rx
open Go Go.Eng
inductive E where
 | node (k:Int) (x:Nat) (s:ByteArray) (g:Int) (a:Option Addr) (c:Nat) (subs:List E)
def E.k:E->Int
 | .node k _ _ _ _ _ _=>k
def E.x:E->Nat
 | .node _ x _ _ _ _ _=>x
def E.s:E->ByteArray
 | .node _ _ s _ _ _ _=>s
def E.g:E->Int
 | .node _ _ _ g _ _ _=>g
def E.a:E->Option Addr
 | .node _ _ _ _ a _ _=>a
def E.c:E->Nat
 | .node _ _ _ _ _ c _=>c
def E.subs:E->List E
 | .node _ _ _ _ _ _ l=>l
def E.sl(t:E):Value:=.slice t.a t.subs.length t.c
def E.cs(t:E):List Value:=[.int .u8 t.k,.float .f64 t.x,.string t.s,.int .i64 t.g,t.sl]
def E.v(t:E):Value:=.agg #[.int .u8 t.k,.float .f64 t.x,.string t.s,.int .i64 t.g,.slice t.a t.subs.length t.c]
def E0:E:=.node 0 0 .empty 0 none 0 []
structure OkE (k:Int)(s:ByteArray)(g:Int):Prop where
 k:0<=k/\k < 256
 s:s.size<=1000000000000000
 g : -9223372036854775808<=g/\g<=9223372036854775807
mutual
def RepE(m:Mem):E->Prop
 | .node k x s g a _ l=>l.length<=1000000000000000/\(l=[]\/∃b o,a=some ⟨b,o,none⟩/\RepEAt m b o l)/\OkE k s g
def RepEAt(m:Mem)(b:Nat):Nat->List E->Prop
 | _,[]=>True
 | o,t::l=>m.reads b o t.cs/\RepE m t/\RepEAt m b (o+5) l
end
theorem Zx0(m:Mem):RepE m E0:=by simp only[E0,RepE];exact⟨by simp,.inl trivial,by constructor <;> decide⟩
theorem Zen{m:Mem}{t:E}:RepE m t->(t.subs.length<=1000000000000000/\(t.subs=[]\/∃b o,t.a=some ⟨b,o,none⟩/\RepEAt m b o t.subs)):=by
 cases t;simp only[RepE,E.subs,E.a];exact λh=>⟨h.1,h.2.1⟩
theorem Zts{m:Mem}{t:E}:RepE m t->OkE t.k t.s t.g:=by
 cases t;simp only[RepE];exact λh=>h.2.2
mutual
theorem RepE.mono{m m':Mem}(h:m.le m'):∀t:E,RepE m t->RepE m' t
 | .node _ _ _ _ a _ l,hr=>by
  simp only[RepE]at *
  refine⟨hr.1,?_,hr.2.2⟩
  rcases hr.2.1 with hr|⟨b,o,h1,h2⟩
  ·exact .inl hr
  ·exact .inr ⟨b,o,h1,RepEAt.mono h b o l h2⟩
theorem RepEAt.mono{m m':Mem}(h:m.le m')(b:Nat):∀(o:Nat)(l:List E),RepEAt m b o l->RepEAt m' b o l
 | _,[],_=>by simp only[RepEAt]
 | o,t::l,hr=>by
  simp only[RepEAt]at *
  exact⟨hr.1.mono h,RepE.mono h t hr.2.1,RepEAt.mono h b (o+5) l hr.2.2⟩
end
theorem RepE.mono'{m m':Mem}{t:E}(hr:RepE m t)(h:m.le m'):RepE m' t:=RepE.mono h t hr
theorem RepEAt.mono'{m m':Mem}{b o:Nat}{l:List E}(hr:RepEAt m b o l)(h:m.le m'):RepEAt m' b o l:=RepEAt.mono h b o l hr
theorem RepEAt.get{m:Mem}{b:Nat}:∀{o:Nat} {l:List E} {i:Nat} {t:E},RepEAt m b o l->l[i]?=some t->m.reads b (o+i*5) t.cs/\RepE m t
 | o,[],i,t,_,hi=>by simp at hi
 | o,x::l,0,t,h,hi=>by
  simp only[RepEAt]at h
  simp at hi;subst hi
  exact⟨by simpa using h.1,h.2.1⟩
 | o,x::l,i+1,t,h,hi=>by
  simp only[RepEAt]at h
  have:=h.2.2.get (i:=i) (by simpa using hi)
  rw[show o+(i+1)*5=o+5+i*5 by omega]
  exact this
mutual
def E.nodes:E->List E
 | .node k x s g a c l=>.node k x s g a c l::Zam l
def Zam:List E->List E
 | []=>[]
 | t::l=>t.nodes++Zam l
end
theorem Zbf(t:E):t.nodes=t::Zam t.subs:=by cases t;simp only[E.nodes,E.subs]
theorem ZaX(l r:List E):Zam (l++r)=Zam l++Zam r:=by
 induction l with
 | nil=>simp[Zam]
 | cons t l ih=>simp[Zam,ih,List.append_assoc]
theorem Zeo{l:List E}{i:Nat}{t:E}(h:l[i]?=some t):Zam (l.take (i+1))=Zam (l.take i)++t.nodes:=by
 have:l.take (i+1)=l.take i++[t]:=by
  rw[List.take_add_one,h];rfl
 rw[this,ZaX];simp[Zam]
theorem Zb9{l:List E}{i:Nat}{t:E}(h:l[i]?=some t):Zam l=Zam (l.take i)++(t.nodes++Zam (l.drop (i+1))):=by
 have aC:=(zA0 h).1
 have e:l=l.take i++(t::l.drop (i+1)):=by
  have:=List.drop_eq_getElem_cons aC
  rw[(zA0 h).2]at this
  rw[<-this,List.take_append_drop]
 conv=>lhs;rw[e,ZaX]
 simp[Zam]
theorem Zsa{t x z:E}{i q:Nat}(hx:t.subs[i]?=some x)(hz:x.nodes[q]?=some z):t.nodes[1+(Zam (t.subs.take i)).length+q]?=some z:=by
 have hq:=(zA0 hz).1
 rw[Zbf,show 1+(Zam (t.subs.take i)).length+q=((Zam (t.subs.take i)).length+q)+1 by omega,List.getElem?_cons_succ,Zb9 hx,zA4 (by omega),zA5 (by omega),show(Zam (List.take i t.subs)).length+q - (Zam (List.take i t.subs)).length=q by omega]
 exact hz
theorem Zgz{t x:E}(h:x∈t.subs):SizeOf.sizeOf x < SizeOf.sizeOf t:=by
 cases t with
 | node k x s g a c l=>
  have h':_∈l:=h
  have:=List.sizeOf_lt_of_mem h'
  simp only[E.node.sizeOf_spec]
  omega
theorem Zkp(t:E):Shape.fitsL [.agg [.int .u8,.any,.str,.int .i64,.slice]] [t.v]=true:=by
 simp[Shape.fitsL,Shape.fits,E.v]
mutual
theorem Znk{m:Mem}:∀(t:E),RepE m t->∀x∈t.nodes,RepE m x
 | .node k x s g a c l,hr,z,hx=>by
  simp only[E.nodes,List.mem_cons]at hx
  rcases hx with rfl|hx
  ·exact hr
  ·simp only[RepE]at hr
   rcases hr.2.1 with h|⟨b,o,_,h⟩
   ·subst h;simp[Zam]at hx
   ·exact Zkq b o l h z hx
theorem Zkq{m:Mem}(b:Nat):∀(o:Nat)(l:List E),RepEAt m b o l->∀x∈Zam l,RepE m x
 | _,[],_,x,hx=>by simp[Zam]at hx
 | o,t::l,hr,x,hx=>by
  simp only[RepEAt]at hr
  simp only[Zam,List.mem_append]at hx
  rcases hx with hx|hx
  ·exact Znk t hr.2.1 x hx
  ·exact Zkq b (o+5) l hr.2.2 x hx
end
theorem Zpj{m:Mem}{t x:E}(h:RepE m t)(hx:x∈t.nodes):RepE m x:=Znk t h x hx
def Zx1:Nat:=9221120237041090561
def ZfQ(x:Nat):Nat:=if Op.floatEq .f64 x x then x else Zx1
def Znl(x y:Nat):Bool:=ZfQ x == ZfQ y
def Zi2(x:Nat):Bool:=Op.floatEq .f64 x x||x == Zx1
def E.light(t:E):Bool:=decide (t.nodes.length<=10000)
def E.size(t:E):Int:=if t.light then t.nodes.length else 0
mutual
def E.same:E->E->Bool
 | .node k x s g _ _ l,.node k' x' s' g' _ _ l'=>k == k'&&(Znl x x'&&(s.toList == s'.toList&&(g == g'&&Zci l l')))
def Zci:List E->List E->Bool
 | [],[]=>true
 | t::l,t'::l'=>t.same t'&&Zci l l'
 | _,_=>false
end
theorem Zqm(t u:E):t.same u=(t.k == u.k&&(Znl t.x u.x&&(t.s.toList == u.s.toList&&(t.g == u.g&&Zci t.subs u.subs)))):=by
 cases t;cases u;simp only[E.same,E.k,E.x,E.s,E.g,E.subs]
theorem Zkr:∀{l r:List E},¬l.length=r.length->Zci l r=false
 | [],[],h=>by simp at h
 | [],_::_,_=>by simp[Zci]
 | _::_,[],_=>by simp[Zci]
 | x::l,y::r,h=>by
  simp only[Zci,Zkr (l:=l) (r:=r) (by simpa using h),Bool.and_false]
theorem Znm:∀{l r:List E} {i:Nat} {x y:E},l[i]?=some x->r[i]?=some y->x.same y=false->Zci l r=false
 | [],r,i,x,y,h,_,_=>by simp at h
 | _::_,[],i,x,y,_,h,_=>by simp at h
 | a::l,b::r,0,x,y,h,k,e=>by
  simp at h k;subst h k
  simp[Zci,e]
 | a::l,b::r,i+1,x,y,h,k,e=>by
  simp only[Zci,Znm (l:=l) (r:=r) (i:=i) (by simpa using h) (by simpa using k) e,Bool.and_false]
theorem Zik:∀{l r:List E} {i:Nat} {x y:E},l[i]?=some x->r[i]?=some y->Zci (l.take i) (r.take i)=true->x.same y=true->Zci (l.take (i+1)) (r.take (i+1))=true
 | [],r,i,x,y,h,_,_,_=>by simp at h
 | _::_,[],i,x,y,_,h,_,_=>by simp at h
 | a::l,b::r,0,x,y,h,k,_,e=>by
  simp at h k;subst h k
  simp[Zci,e]
 | a::l,b::r,i+1,x,y,h,k,hs,e=>by
  simp only[List.take_succ_cons,Zci,zA7]at hs ⊢
  exact⟨hs.1,Zik (by simpa using h) (by simpa using k) hs.2 e⟩
def E.most(t:E):Int:=if t.light then t.nodes.foldl (λn x=>if x.k=10 then(if x.g > n then x.g else n)else n) (-1)else -1
mutual
def E.names:E->List ByteArray->List ByteArray
 | .node k _ s _ _ _ l,out=>if k=9 then(if out.any (λy=>y.toList == s.toList)then out else out++[s])else ZbA l out
def ZbA:List E->List ByteArray->List ByteArray
 | [],out=>out
 | t::l,out=>ZbA l (t.names out)
end
theorem Znn(t:E)(out:List ByteArray):t.names out=if t.k=9 then(if out.any (λy=>y.toList == t.s.toList)then out else out++[t.s])else ZbA t.subs out:=by
 cases t;simp only[E.names,E.k,E.s,E.subs];rfl
mutual
theorem Zqn:∀(t:E)(out:List ByteArray),out.length<=(t.names out).length
 | .node k _ s _ _ _ l,out=>by
  simp only[E.names]
  split
  ·split <;> simp
  ·exact Zi3 l out
theorem Zi3:∀(l:List E)(out:List ByteArray),out.length<=(ZbA l out).length
 | [],out=>by simp[ZbA]
 | t::l,out=>by
  simp only[ZbA]
  exact Nat.le_trans (Zqn t out) (Zi3 l _)
end
theorem Zks(l r:List E)(out:List ByteArray):ZbA (l++r) out=ZbA r (ZbA l out):=by
 induction l generalizing out with
 | nil=>simp[ZbA]
 | cons t l ih=>simp only[List.cons_append,ZbA,ih]
theorem Zpk{l:List E}{i:Nat}{t:E}(h:l[i]?=some t)(out:List ByteArray):ZbA (l.take (i+1)) out=t.names (ZbA (l.take i) out):=by
 have:l.take (i+1)=l.take i++[t]:=by rw[List.take_add_one,h];rfl
 rw[this,Zks];simp[ZbA]
theorem Zsb{l:List E}{i:Nat}(out:List ByteArray):(ZbA (l.take i) out).length<=(ZbA l out).length:=by
 conv=>rhs;rw[<-List.take_append_drop i l,Zks]
 exact Zi3 _ _
mutual
theorem ZdZ:∀(t:E)(out:List ByteArray),(t.names out).length<=out.length+t.nodes.length
 | .node k _ s _ _ _ l,out=>by
  simp only[E.names,E.nodes,List.length_cons]
  split
  ·split
   ·omega
   ·rw[zA1,List.length_singleton];omega
  ·have:=ZgA l out
   omega
theorem ZgA:∀(l:List E)(out:List ByteArray),(ZbA l out).length<=out.length+(Zam l).length
 | [],out=>by simp[ZbA]
 | t::l,out=>by
  simp only[ZbA,Zam,zA1]
  have:=ZdZ t out
  have:=ZgA l (t.names out)
  omega
end
def E.vars(t:E):List ByteArray:=if t.light then t.names []else[]
theorem Zus(s:ByteArray):s.data.toList.length=s.size:=by rw[Array.length_toList];rfl
theorem Ztt(s:ByteArray):∀(n i:Nat)(r:List UInt8),s.size - i=n->ByteArray.toList.loop s i r=r.reverse++s.data.toList.drop i
 | 0,i,r,h=>by
  rw[ByteArray.toList.loop,if_neg (by omega),List.drop_of_length_le (by have:=Zus s;omega),List.append_nil]
 | n+1,i,r,h=>by
  have hs:=Zus s
  have hi:i < s.size:=by omega
  rw[ByteArray.toList.loop,if_pos hi,Ztt s n (i+1) _ (by omega),List.reverse_cons,List.append_assoc]
  have hd:=List.drop_eq_getElem_cons (l:=s.data.toList) (i:=i) (by omega)
  rw[hd]
  have e:s.get! i=s.data.toList[i]'(by omega):=by
   rw[Array.getElem_toList]
   exact getElem!_pos s.data i hi
  rw[e];rfl
theorem baL(s:ByteArray):s.toList=s.data.toList:=by
 have:=Ztt s _ 0 [] rfl
 simpa[ByteArray.toList]using this
theorem Zwj(s:ByteArray):(s.toList == ByteArray.toList ⟨#[]⟩)=(s.size == 0):=by
 rw[baL,baL,<-Zus]
 cases h:s.data.toList <;> simp[h] <;> rfl
theorem Zaj{α:Type}{cs:α->List Value}{n:Nat}(hn:∀x,(cs x).length=n){m:Mem}{a:Option Addr}{L:List α}(h:rowRd m a (L.map cs).flatten){k:Nat}{t:α}(ht:L[k]?=some t)(h0:0 < n):∃b o,a=some ⟨b,o,none⟩/\m.reads b (o+k*n) (cs t):=by
 have aC:=(zA0 ht).1
 have len:∀l:List α,(l.map cs).flatten.length=l.length*n:=λl=>by
  induction l with
  | nil=>simp
  | cons x l ih=>rw[List.map_cons,List.flatten_cons,zA1,hn,ih,List.length_cons,Nat.succ_mul];omega
 have e:(L.map cs).flatten=((L.take k).map cs).flatten++(cs t++((L.drop (k+1)).map cs).flatten):=by
  have e1:L=L.take k++(t::L.drop (k+1)):=by
   have:=List.drop_eq_getElem_cons aC
   rw[(zA0 ht).2]at this
   rw[<-this,List.take_append_drop]
  conv=>lhs;rw[e1]
  rw[List.map_append,List.flatten_append,List.map_cons,List.flatten_cons]
 have hl:((L.take k).map cs).flatten.length=k*n:=by rw[len,List.length_take,Nat.min_eq_left (by omega)]
 rcases h with h|⟨b,o,ha,h⟩
 ·have:=congrArg List.length h
  rw[len,List.length_nil]at this
  have:0 < L.length*n:=Nat.mul_pos (by omega) h0
  omega
 ·refine⟨b,o,ha,λj v hj=>?_⟩
  have tu:=(zA0 hj).1
  have:=h (k*n+j) v (by rw[e,zA4 (by omega),hl,Nat.add_sub_cancel_left,zA5 tu];exact hj)
  rw[Nat.add_assoc];exact this
theorem ZaU{α:Type}{cs:α->List Value}{n:Nat}(hn:∀x,(cs x).length=n)(l:List α):(l.map cs).flatten.length=l.length*n:=by
 induction l with
 | nil=>simp
 | cons x l ih=>rw[List.map_cons,List.flatten_cons,zA1,hn,ih,List.length_cons,Nat.succ_mul];omega
structure Pt where
 k:Int
 s:ByteArray
 g:Int
 e:E
def Pt.cs(p:Pt):List Value:=[.int .u8 p.k,.string p.s,.int .i64 p.g,.int .u8 p.e.k,.float .f64 p.e.x,.string p.e.s,.int .i64 p.e.g,.slice p.e.a p.e.subs.length p.e.c]
def Pt.v(p:Pt):Value:=.agg p.cs.toArray
structure Ac where
 k:Int
 s:ByteArray
 pa:Option Addr
 pc:Nat
 parts:List Pt
 e:E
def Ac.cs(a:Ac):List Value:=[.int .u8 a.k,.string a.s,.slice a.pa a.parts.length a.pc,.int .u8 a.e.k,.float .f64 a.e.x,.string a.e.s,.int .i64 a.e.g,.slice a.e.a a.e.subs.length a.e.c]
structure Ru where
 k:Int
 bg:Bool
 en:Bool
 t:T
 s:ByteArray
 n:Int
 aa:Option Addr
 ac:Nat
 acts:List Ac
 go:ByteArray
 code:Int
def Ru.cs(r:Ru):List Value:=[.int .u8 r.k,.bool r.bg,.bool r.en,.int .u8 r.t.k,.int .u64 r.t.s0,.int .u64 r.t.s1,.int .u64 r.t.s2,.int .u64 r.t.s3,.int .i64 r.t.mn,.int .i64 r.t.mx,.slice r.t.a r.t.subs.length r.t.c,.string r.s,.int .i64 r.n,.slice r.aa r.acts.length r.ac,.string r.go,.int .i64 r.code]
structure Sta where
 s:ByteArray
 ra:Option Addr
 rc:Nat
 rules:List Ru
def Sta.cs(x:Sta):List Value:=[.string x.s,.slice x.ra x.rules.length x.rc]
structure Va where
 s:ByteArray
 b:Bool
 t:ByteArray
 x:Nat
def Va.cs(v:Va):List Value:=[.string v.s,.bool v.b,.string v.t,.float .f64 v.x]
structure Sc where
 n:Int
 va:Option Addr
 vc:Nat
 vars:List Va
 sa:Option Addr
 sc:Nat
 states:List Sta
def Sc.cs(s:Sc):List Value:=[.int .i64 s.n,.slice s.va s.vars.length s.vc,.slice s.sa s.states.length s.sc]
def Sc.v(s:Sc):Value:=.agg #[.int .i64 s.n,.slice s.va s.vars.length s.vc,.slice s.sa s.states.length s.sc]
theorem Pt.len(p:Pt):p.cs.length=8:=rfl
theorem Ac.len(p:Ac):p.cs.length=8:=rfl
theorem Ru.len(p:Ru):p.cs.length=16:=rfl
theorem Sta.len(p:Sta):p.cs.length=2:=rfl
theorem Va.len(p:Va):p.cs.length=4:=rfl
def I64(n:Int):Prop:=-9223372036854775808<=n/\n<=9223372036854775807
def few:Nat:=100000
structure RepP (m:Mem)(p:Pt):Prop where
 k:0<=p.k/\p.k < 256
 s:p.s.size<=1000000000000000
 g:I64 p.g
 e:RepE m p.e
structure RepA (m:Mem)(a:Ac):Prop where
 k:0<=a.k/\a.k < 256
 s:a.s.size<=1000000000000000
 n:a.parts.length<=few
 row:rowRd m a.pa (a.parts.map Pt.cs).flatten
 all:∀p∈a.parts,RepP m p
 e:RepE m a.e
structure RepR (m:Mem)(r:Ru):Prop where
 k:0<=r.k/\r.k < 256
 t:Rep m r.t
 s:r.s.size<=1000000000000000
 n:I64 r.n
 len:r.acts.length<=few
 row:rowRd m r.aa (r.acts.map Ac.cs).flatten
 all:∀p∈r.acts,RepA m p
 go:r.go.size<=1000000000000000
 code:I64 r.code
structure RepS (m:Mem)(x:Sta):Prop where
 s:x.s.size<=1000000000000000
 len:x.rules.length<=few
 row:rowRd m x.ra (x.rules.map Ru.cs).flatten
 all:∀p∈x.rules,RepR m p
structure RepV (v:Va):Prop where
 s:v.s.size<=1000000000000000
 t:v.t.size<=1000000000000000
structure RepC (m:Mem)(s:Sc):Prop where
 n:I64 s.n
 vlen:s.vars.length<=few
 vrow:rowRd m s.va (s.vars.map Va.cs).flatten
 vall:∀v∈s.vars,RepV v
 len:s.states.length<=few
 row:rowRd m s.sa (s.states.map Sta.cs).flatten
 all:∀x∈s.states,RepS m x
 vcap:s.vars.length<=s.vc
 scap:s.states.length<=s.sc
section
variable {m m':Mem} (h:m.le m')
include h
theorem RepP.mono{p:Pt}(x:RepP m p):RepP m' p:=⟨x.k,x.s,x.g,RepE.mono h _ x.e⟩
theorem RepA.mono{p:Ac}(x:RepA m p):RepA m' p:=⟨x.k,x.s,x.n,x.row.mono h,λp hp=>(x.all p hp).mono h,RepE.mono h _ x.e⟩
theorem RepR.mono{p:Ru}(x:RepR m p):RepR m' p:=⟨x.k,x.t.mono h,x.s,x.n,x.len,x.row.mono h,λp hp=>(x.all p hp).mono h,x.go,x.code⟩
theorem RepS.mono{p:Sta}(x:RepS m p):RepS m' p:=⟨x.s,x.len,x.row.mono h,λp hp=>(x.all p hp).mono h⟩
theorem RepC.mono{p:Sc}(x:RepC m p):RepC m' p:=⟨x.n,x.vlen,x.vrow.mono h,x.vall,x.len,x.row.mono h,λp hp=>(x.all p hp).mono h,x.vcap,x.scap⟩
end
def nE(e:E):Int:=if e.light then e.size else 20001
def Zaw:List Int->Int
 | []=>0
 | x::l=>x+Zaw l
theorem Zhj(l r:List Int):Zaw (l++r)=Zaw l+Zaw r:=by
 induction l with
 | nil=>simp[Zaw]
 | cons x l ih=>simp only[List.cons_append,Zaw,ih];omega
theorem Zfz{α:Type}{l:List α}{i:Nat}{x:α}(f:α->Int)(h:l[i]?=some x):Zaw ((l.take (i+1)).map f)=Zaw ((l.take i).map f)+f x:=by
 rw[List.take_add_one,h,List.map_append,Zhj];simp[Zaw]
theorem ZcS{α:Type}(f:α->Int)(hf:∀x,0<=f x):∀l:List α,0<=Zaw (l.map f)
 | []=>by simp[Zaw]
 | x::l=>by
  have:=ZcS f hf l;have:=hf x
  simp only[List.map_cons,Zaw];omega
theorem ZfA{α:Type}(f:α->Int)(hf:∀x,0<=f x)(l:List α)(i:Nat):Zaw ((l.take i).map f)<=Zaw (l.map f):=by
 have e:Zaw (l.map f)=Zaw ((l.take i).map f)+Zaw ((l.drop i).map f):=by rw[<-Zhj,<-List.map_append,List.take_append_drop]
 have:=ZcS f hf (l.drop i)
 omega
def wA(a:Ac):Int:=1+nE a.e+a.parts.length+Zaw (a.parts.map λp=>nE p.e)
def wR(r:Ru):Int:=1+Zga r.t.size 20000+(if r.t.light then 0 else 20001)+Zaw (r.acts.map wA)
theorem ZfB(e:E):0<=nE e/\nE e<=20001:=by
 unfold nE E.size E.light
 split
 ·rename_i h
  simp only[decide_eq_true_eq]at h
  first|omega|(rw[if_pos (by simpa using h)];omega)
 ·omega
theorem ZfC(t:T):0<=t.size/\t.size<=10001:=by
 unfold T.size T.light
 split
 ·rename_i h;simp only[decide_eq_true_eq]at h;omega
 ·omega
theorem Zqo(a:Ac):0<=wA a:=by
 have:=(ZfB a.e).1
 have:=ZcS (λp:Pt=>nE p.e) (λp=>(ZfB p.e).1) a.parts
 unfold wA;omega
theorem Zwk(r:Ru):0<=wR r:=by
 have:=ZcS wA Zqo r.acts
 have h1:=(ZfC r.t).1
 have:0<=Zga r.t.size 20000:=by unfold Zga;split <;> omega
 unfold wR;split <;> omega
def wS(x:Sta):Int:=Zaw (x.rules.map wR)
theorem Zx2(x:Sta):0<=wS x:=ZcS wR Zwk _
def Sc.weight(s:Sc):Int:=s.vars.length+s.states.length+Zaw (s.states.map wS)
def Sc.light(s:Sc):Bool:=decide (s.weight<=20000)
structure Pl where
 v:Int
 s:Int
 r:Int
 a:Int
 p:Int
deriving DecidableEq
def Pl.cs(p:Pl):List Value:=[.int .i64 p.v,.int .i64 p.s,.int .i64 p.r,.int .i64 p.a,.int .i64 p.p]
def top:Pl:=⟨-1,-1,-1,-1,-1⟩
def Zdb(n:Nat)(f:Nat->List Pl):List Pl:=(List.range n).flatMap f
def plA(i k m:Nat)(a:Ac):List Pl:=⟨-1,i,k,m,-1⟩::Zdb a.parts.length λn=>[⟨-1,i,k,m,n⟩]
def plR(i k:Nat)(r:Ru):List Pl:=⟨-1,i,k,-1,-1⟩::Zdb r.acts.length λm=>match r.acts[m]? with
 | some a=>plA i k m a
 | none=>[]
def plS(i:Nat)(x:Sta):List Pl:=⟨-1,i,-1,-1,-1⟩::Zdb x.rules.length λk=>match x.rules[k]? with
 | some r=>plR i k r
 | none=>[]
def Sc.places(s:Sc):List Pl:=if s.light then top::(Zdb s.vars.length (λi=>[⟨i,-1,-1,-1,-1⟩])++Zdb s.states.length λi=>match s.states[i]? with
 | some x=>plS i x
 | none=>[])else[]
def Zcy:List (Int×Bool)->Int
 | []=>0
 | (e,w)::l=>if w then e else Zcy l
def Zdc(n a b:Int):Bool:=decide (n ≥ a)&&decide (n<=b)
def eqS(a b:ByteArray):Bool:=a.toList == b.toList
def ZzO(c:UInt8):Bool:=(decide (97<=c.toNat)&&decide (c.toNat<=122))||(decide (48<=c.toNat)&&decide (c.toNat<=57))||c.toNat == 95
def Zys:List ByteArray:=[⟨#[109,105,110]⟩,⟨#[109,97,120]⟩,⟨#[110,117,109]⟩]
def ZfR(s:ByteArray):Bool:=!(s.size == 0||decide (s.size > 16)||decide ((s.data.toList.getD 0 0).toNat < 97)||decide ((s.data.toList.getD 0 0).toNat > 122)||Zys.any λw=>eqS w s)&&s.data.toList.all ZzO
def Zhw(s:Sc)(name:ByteArray):Bool×Bool:=match s.vars.find? λv=>eqS v.s name with
 | some v=>(v.b,true)
 | none=>(false,false)
def Zdx(s:Sc)(e:E):Bool:=!e.vars.any λn=>!(Zhw s n).1
def Zvz(e:E):Bool:=e.light&&(E0.light&&e.same E0)
def Zno(k:Int):Int:=if k=1 then 1 else if 2<=k/\k<=7 then 2 else 0
def Zsc:List E->Bool
 | u::_=>u.k == 8
 | []=>false
def E.right(t:E):Bool:=!(t.k == 0)&&(decide (t.k<=10)&&((if t.k=9 then ZfR t.s else t.s.size == 0)&&((if t.k=8 then Zi2 t.x else Znl t.x 0)&&((if t.k=10 then decide (t.g ≥ 0)&&decide (t.g<=9)else t.g == 0)&&((t.subs.length:Int) == Zno t.k&&!(t.k == 1&&(t.subs.length == 1&&Zsc t.subs)))))))
def E.clean(t:E):Bool:=t.light&&t.nodes.all E.right
def Znp(s:Sc):Int:=Zcy [(300,!Zdc s.n 2 256),(302,!Zdc s.states.length 1 24||decide (s.vars.length > 12))]
def Zut(v:Va):Bool:=if v.b then Zi2 v.x&&v.t.size == 0 else v.x == 0&&decide (v.t.size<=512)
def ZcJ(s:Sc)(i:Nat)(v:Va):Int:=Zcy [(301,!ZfR v.s||(!Zut v||(s.vars.take i).any λx=>eqS x.s v.s))]
def Znq(s:Sc)(i:Nat)(x:Sta):Int:=Zcy [(303,!ZfR x.s||(decide (x.rules.length > 12)||(s.states.take i).any λy=>eqS y.s x.s))]
def ZzC(r:Ru):Bool:=r.bg||(r.en||!(r.t.light&&(T0.light&&r.t.same T0)))
def Zqp(r:Ru):Bool:=if r.k=2 then !ZzC r&&(r.n == 0&&Zdc r.s.size 1 64)else if r.k=4 then !ZzC r&&(r.s.size == 0&&Zdc r.n 1 1000)else if r.k=3 then !ZzC r&&(r.s.size == 0&&r.n == 0)else if r.k=1 then r.s.size == 0&&r.n == 0 else false
def Zdn(r:Ru):Int:=if r.k=1 then r.t.groups else if r.k=2 then 0 else -1
def Zsd(s:Sc)(name:ByteArray):Bool:=(s.states.any λx=>eqS x.s name)&&s.light
def Zqq(s:Sc)(r:Ru)(total:Int):Int:=Zcy [(304,!Zqp r||decide (r.acts.length > 8)),(305,r.k == 1&&(!(r.t.check == 0)||decide (total > 600))),
 (306,if r.go.size=0 then !Zdc r.code 0 255 else !Zsd s r.go||!(r.code == 0))]
def Zd0(s:Sc)(r:Ru)(a:Ac):Int:=Zcy [(307,!Zdc a.k 1 3||(a.k == 1&&!(a.s.size == 0))||(a.k == 3&&decide (a.parts.length > 0))||(a.k == 3&&!a.e.clean)||(!(a.k == 3)&&!Zvz a.e)||decide (a.parts.length > 16)),
 (308,(!(a.k == 1)&&(!(Zhw s a.s).2||!((Zhw s a.s).1 == (a.k == 3))))||(a.k == 3&&!Zdx s a.e)),(309,a.k == 3&&decide (a.e.most > Zdn r))]
def ZfS(p:Pt):Bool:=if p.k=1 then decide (p.s.size > 0)&&(decide (p.s.size<=512)&&(p.g == 0&&Zvz p.e))else if p.k=2 then ZfR p.s&&(p.g == 0&&Zvz p.e)else if p.k=3 then decide (p.g ≥ 0)&&(decide (p.g<=9)&&(p.s.size == 0&&Zvz p.e))else if p.k=4 then p.e.clean&&(p.s.size == 0&&p.g == 0)else false
def ZlW(s:Sc)(r:Ru)(l:List Pt)(i:Nat)(p:Pt):Int:=Zcy [(307,!ZfS p||(decide (i > 0)&&(p.k == 1&&(match l[i - 1]? with
 | some q=>q.k == 1
 | none=>false)))),(308,(p.k == 2&&!(Zhw s p.s).2)||(p.k == 4&&!Zdx s p.e)),(309,(p.k == 3&&decide (p.g > Zdn r))||(p.k == 4&&decide (p.e.most > Zdn r)))]
def sizeR(r:Ru):Int:=if r.k=1 then r.t.size else 0
def totals(s:Sc)(i k:Nat):Int:=Zaw ((s.states.take i).map λx=>Zaw (x.rules.map sizeR))+(match s.states[i]? with
 | some x=>Zaw ((x.rules.take (k+1)).map sizeR)
 | none=>0)
def atS(s:Sc)(p:Pl):Int:=if p.v ≥ 0 then(match s.vars[p.v.toNat]? with
  | some v=>ZcJ s p.v.toNat v
  | none=>0)else if p.s < 0 then Znp s else match s.states[p.s.toNat]? with
  | none=>0
  | some x=>if p.r < 0 then Znq s p.s.toNat x else match x.rules[p.r.toNat]? with
   | none=>0
   | some r=>if p.a < 0 then Zqq s r (totals s p.s.toNat p.r.toNat)else match r.acts[p.a.toNat]? with
    | none=>0
    | some a=>if p.p < 0 then Zd0 s r a else match a.parts[p.p.toNat]? with
     | none=>0
     | some q=>ZlW s r a.parts p.p.toNat q
def Sc.problems(s:Sc):List (Pl×Int):=s.places.filterMap λp=>if atS s p=0 then none else some (p,atS s p)
def Sc.check(s:Sc):Pl×Int:=if s.light then(match s.problems with
 | p::_=>p
 | []=>(top,0))else(top,5)
end Go.Rx
namespace Go.Rx
open Go Go.Eng Go.RowKit
theorem Znr(w:World)(b:Nat)(f:Array Value->Array Value){cur:Array Value}{T:TypeId}{fr:Nat×Nat}(h:w.heap[b]?=some (.cells cur T fr)):(Go.Sort.mapBlock w b f).heap[b]?=some (.cells (f cur) T fr):=by
 unfold Go.Sort.mapBlock
 simp only[Array.getElem?_modify,if_true,h,Option.map_some]
 rfl
theorem Zlc(w:World)(b:Nat)(f:Array Value->Array Value){k:Nat}(h:k≠b):(Go.Sort.mapBlock w b f).heap[k]?=w.heap[k]?:=by
 unfold Go.Sort.mapBlock
 simp only[Array.getElem?_modify]
 rw[if_neg (λe=>h e.symm)]
theorem Zqr(w:World):Go.Sort.grow w #[]=w:=by
 unfold Go.Sort.grow;rw[Array.append_empty]
section
variable {α:Type} [Inhabited α] (enc:α->Value)
set_option maxHeartbeats 1600000 in
theorem ZfD{P:Program}{g:FuncId}{zs ys:List α}{vf:Option Addr->Value}{a:Option Addr}{c N:Nat}{m:Mem}
  (tw:Zee P g) (hr:rowRd m a (zs.map enc)) (hl:ys.length=zs.length) (hN:zs.length<=N)
  (h0:zs=[]->∀w:World,Calls P g #[.slice a 0 c] w λe w'=>e=.returned (vf a)/\w'=w)
  (h1:zs≠[]->∀(b o:Nat)(w:World),a=some ⟨b,o,none⟩->zs.length<=c->Go.Sort.Holds enc w b o zs.toArray->b < w.heap.size->Calls P g #[.slice (some ⟨b,o,none⟩) zs.length c] w λe w'=>e=.returned (vf a)/\∃n os,w'=Go.Sort.grow (Go.Sort.putRow enc (Go.Sort.ahead w n) b o ys.toArray) os):
  CXY P g #[.slice a zs.length c] m (λk=>(Tok.mk (.slice a N c) 1).blk=some k) [] [⟨.slice a N c,1⟩]
   (λv m' css tvs=>v=vf a/\css=[]/\tvs=[.slice a N c]/\rowRd m' a (ys.map enc)):=by
 refine⟨tw,λw hs _ _ ht jh hY=>?_⟩
 obtain⟨aQ,yW⟩:=ht _ (List.mem_singleton.2 rfl)
 by_cases hz:zs=[]
 ·subst hz
  obtain rfl:ys=[]:=List.eq_nil_of_length_eq_zero (by simpa using hl)
  refine(h0 rfl w).mono ?_
  rintro e w' ⟨rfl,rfl⟩
  refine⟨_,m,[],[.slice a N c],rfl,Mem.off_le _ _,hs,NewM.refl _ _,Upd.refl _ _,rfl,λi x cs hi=>by simp at hi,rfl,λi t tv hi hv=>?_,jh,rfl,rfl,rfl,.inl (by simp)⟩
  cases i with
  | zero=>
   simp at hi hv;subst hi hv
   exact⟨rfl,aQ,λb hb=>⟨.inl hb,by simp⟩⟩
  | succ i=>simp at hi
 ·have cN:(zs.map enc)≠[]:=by simp[hz]
  rcases hr with hr|⟨b,o,rfl,cF⟩
  ·exact absurd hr cN
  rcases aQ with h2|⟨b',o',n',c',cur,T,fr,hv,il,hh,bI,eV,cP⟩
  ·cases h2
  simp only[Value.slice.injEq,Option.some.injEq,Addr.mk.injEq,and_true]at hv
  obtain⟨⟨rfl,rfl⟩,rfl,rfl⟩:=hv
  simp only[Nat.mul_one]at bI cP
  have qa:b < w.heap.size:=(Array.getElem?_eq_some_iff.1 hh).1
  have hH:Go.Sort.Holds enc w b o zs.toArray:=λj hj=>by
   have hj':j < zs.length:=by simpa using hj
   have e:zs.toArray[j]! = zs[j]:=by rw[getElem!_pos _ j hj];simp
   refine⟨?_,?_⟩
   ·have:=hs _ _ _ (cF j (enc zs[j]) (by simp[hj']))
    rw[this,e]
   ·have h2:=eV (o+j) (by omega)
    obtain⟨f1,f2⟩:=fr
    simp only[World.frozen?,hh,Bool.and_eq_false_iff,decide_eq_false_iff_not]
    simp only at h2
    omega
  refine(h1 hz b o w rfl (by omega) hH qa).mono ?_
  rintro e w' ⟨rfl,n,os,hw'⟩
  have oa:(Go.Sort.putRow enc (Go.Sort.ahead w n) b o ys.toArray).heap.size=w.heap.size:=by simp[Go.Sort.putRow,Go.Sort.mapBlock,Go.Sort.ahead]
  have eU:w'.heap[b]?=some (.cells (Go.Sort.putCells enc o ys.toArray cur) T fr):=by
   rw[hw',Go.Sort.heap_grow_old _ _ (by rw[oa];exact qa)];exact Znr _ b _ hh
  have gy:∀k,k < w.heap.size->k≠b->w'.heap[k]?=w.heap[k]?:=λk aC hk=>by
   rw[hw',Go.Sort.heap_grow_old _ _ (by rw[oa];exact aC)];exact Zlc _ b _ hk
  have tx:(Go.Sort.putCells enc o ys.toArray cur).size=cur.size:=by simp[Go.Sort.putCells]
  have bO:∀k:Nat,(Go.Sort.putCells enc o ys.toArray cur)[k]?=if o<=k/\k < o+zs.length then(ys.map enc)[k - o]? else cur[k]?:=λk=>by
   simp only[Go.Sort.putCells,Array.getElem?_mapIdx]
   by_cases hk:o<=k/\k < o+zs.length
   ·rw[if_pos hk,Array.getElem?_eq_getElem (by omega),Option.map_some,if_pos (by simp;omega)]
    have:k - o < ys.length:=by omega
    rw[getElem!_pos _ (k - o) (by simpa using this)]
    have e2:(ys.map enc)[k - o]?=some (enc (ys[k - o]'this)):=by
     rw[List.getElem?_map,zA3 this];rfl
    rw[e2];simp
   ·rw[if_neg hk]
    cases cur[k]? with
    | none=>rfl
    | some y=>rw[Option.map_some,if_neg (by simp;omega)]
  have tz:∀k e,m.k k=some e->k≠b:=λk e he fA=>by
   obtain⟨es,cl,h8,_⟩:=hs.k k e he
   rw[fA,hh]at h8;cases h8
  refine⟨_,m.upd b o (ys.map enc),[],[.slice (some ⟨b,o,none⟩) N c],rfl,⟨λb1 o1 v hv=>?_,λb1 e he=>Mem.off_le m _ |>.k b1 e he⟩,⟨λb1 o1 v hv=>?_,λb1 e he=>(hs.k b1 e he).same (gy b1 (hs.k b1 e he).lt (tz b1 e he))⟩,⟨λb1 o1 u hu=>?_,λ_ _ he=>.inl he⟩,⟨by rw[hw'];rfl,by rw[hw'];rfl,by rw[hw'];rfl,?_,λk hk hn=>?_,λk aC hk=>?_⟩,rfl,λi x cs hi=>by simp at hi,rfl,λi t tv hi hv=>?_,?_,rfl,rfl,rfl,.inr ⟨b,o,rfl,λj v hv=>?_⟩⟩
  ·have eG:b1≠b:=λe=>by
    subst e
    rw[Mem.off_free (by rfl)]at hv;cases hv
   rw[Mem.upd_other _ eG];exact(Mem.off_le _ _).c _ _ _ hv
  ·by_cases eG:b1=b
   ·subst eG
    simp only[World.cell?,eU,Option.isSome_none,Bool.false_eq_true,if_false]
    rw[bO]
    simp only[Mem.upd,true_and]at hv
    have aH:(ys.map enc).length=zs.length:=by simp[hl]
    rw[aH]at hv
    split at hv
    ·rename_i fg
     rw[if_pos fg];exact hv
    ·rename_i fg
     rw[if_neg fg]
     have:=hs _ _ _ hv
     simpa only[World.cell?,hh,Option.isSome_none,Bool.false_eq_true,if_false]using this
   ·rw[Mem.upd_other _ eG]at hv
    rw[ZbE (gy b1 (hs.lt hv) eG)];exact hs _ _ _ hv
  ·by_cases eG:b1=b
   ·subst eG;exact .inr (.inl rfl)
   ·rw[Mem.upd_other _ eG]at hu;exact .inl hu
  ·rw[hw']
   show w.heap.size<=(Go.Sort.grow _ os).heap.size
   have:(Go.Sort.grow (Go.Sort.putRow enc (Go.Sort.ahead w n) b o ys.toArray) os).heap.size=(Go.Sort.putRow enc (Go.Sort.ahead w n) b o ys.toArray).heap.size+os.size:=by simp[Go.Sort.grow]
   rw[this,oa];omega
  ·refine gy k hk λe=>hn (.inr ?_)
   rw[e];rfl
  ·by_cases fA:k=b
   ·subst fA
    intro c1 T1 fr1 tA i hi
    rw[eU]at tA
    simp only[Option.some.injEq,Obj.cells.injEq]at tA
    obtain⟨rfl,rfl,rfl⟩:=tA
    exact eV i (by rw[tx]at hi;exact hi)
   ·exact hk.of_eq (gy k aC fA)
  ·cases i with
   | zero=>
    simp at hi hv;subst hi hv
    refine⟨rfl,.inr ⟨b,o,_,_,_,T,fr,rfl,il,eU,by rw[tx,Nat.mul_one];exact bI,λi hi=>eV i (by rw[tx]at hi;exact hi),λk io jx=>?_⟩,λb1 eG=>⟨.inl eG,by simp⟩⟩
    simp only[Nat.mul_one]at io jx
    simp only[Mem.upd,true_and]
    rw[if_neg (by simp;omega)]
    exact cP k io jx
   | succ i=>simp at hi
  ·intro i j t t' b1 hi hj _ _
   have hi':=(zA0 hi).1
   have hj':=(zA0 hj).1
   simp at hi' hj'
   omega
  ·have my:=(zA0 hv).1
   simp only[List.length_map]at my
   simp only[Mem.upd,true_and]
   rw[if_pos ⟨by omega,by rw[List.length_map];omega⟩,Nat.add_sub_cancel_left];exact hv
end
end Go.Rx
namespace Go.Rx
open Go Go.Eng
theorem ZbS(n:Nat)(f:Nat->List Pl):Zdb (n+1) f=Zdb n f++f n:=by simp[Zdb,List.range_succ,List.flatMap_append]
theorem Zqs{i n:Nat}(h:i<=n)(f:Nat->List Pl):(Zdb i f).length<=(Zdb n f).length:=by
 induction n with
 | zero=>
  obtain rfl:i=0:=by omega
  exact Nat.le_refl _
 | succ n ih=>
  by_cases e:i=n+1
  ·rw[e];exact Nat.le_refl _
  ·have:=ih (by omega)
   rw[ZbS,zA1];omega
theorem ZfE(n:Nat)(f:Nat->Pl):(Zdb n λi=>[f i]).length=n:=by
 induction n with
 | zero=>rfl
 | succ n ih=>rw[ZbS,zA1,ih];rfl
theorem Zl5{α:Type}(l:List α)(F:Nat->List Pl)(g:Nat->α->List Pl)(w:α->Int)(hF:∀i x,l[i]?=some x->F i=g i x)(hw:∀i x,x∈l->((g i x).length:Int)<=w x):∀k,k<=l.length->((Zdb k F).length:Int)<=Zaw ((l.take k).map w):=by
 intro k
 induction k with
 | zero=>intro _;simp[Zdb,Zaw]
 | succ k ih=>
  intro hk
  have:=ih (by omega)
  have hx:l[k]?=some l[k]:=zA3 (by omega)
  have h2:=hw k l[k] (List.getElem_mem _)
  rw[ZbS,zA1,Zfz w hx,hF k _ hx]
  push_cast
  omega
def Hf(i k:Nat)(r:Ru)(m:Nat):List Pl:=match r.acts[m]? with
 | some a=>plA i k m a
 | none=>[]
def Gf(i:Nat)(x:Sta)(k:Nat):List Pl:=match x.rules[k]? with
 | some r=>plR i k r
 | none=>[]
def Ff(s:Sc)(i:Nat):List Pl:=match s.states[i]? with
 | some x=>plS i x
 | none=>[]
def Pf(i k m n:Nat):List Pl:=[⟨-1,i,k,m,n⟩]
def Vf(i:Nat):List Pl:=[⟨i,-1,-1,-1,-1⟩]
theorem Zse(i k m:Nat)(a:Ac):plA i k m a=⟨-1,i,k,m,-1⟩::Zdb a.parts.length (Pf i k m):=rfl
theorem Zsf(i k:Nat)(r:Ru):plR i k r=⟨-1,i,k,-1,-1⟩::Zdb r.acts.length (Hf i k r):=rfl
theorem Zsg(i:Nat)(x:Sta):plS i x=⟨-1,i,-1,-1,-1⟩::Zdb x.rules.length (Gf i x):=rfl
theorem Zi4{s:Sc}(h:s.light=true):s.places=top::(Zdb s.vars.length Vf++Zdb s.states.length (Ff s)):=by unfold Sc.places;rw[if_pos h];rfl
theorem Zpl(s:Sc):s.places.length<=20001:=by
 cases h:s.light with
 | false=>unfold Sc.places;rw[h];simp
 | true=>
  have hw:s.weight<=20000:=by unfold Sc.light at h;exact zA6 h
  rw[Zi4 h,List.length_cons,zA1]
  have h1:(Zdb s.vars.length Vf).length=s.vars.length:=ZfE _ _
  have hA:∀i k m (a:Ac),((plA i k m a).length:Int)<=wA a:=λi k m a=>by
   rw[Zse,List.length_cons,show(Zdb a.parts.length (Pf i k m)).length=a.parts.length from ZfE _ _]
   have:=(ZfB a.e).1
   have:=ZcS (λp:Pt=>nE p.e) (λp=>(ZfB p.e).1) a.parts
   unfold wA;push_cast;omega
  have hR:∀i k (r:Ru),((plR i k r).length:Int)<=wR r:=λi k r=>by
   rw[Zsf,List.length_cons]
   have:=Zl5 r.acts (Hf i k r) (plA i k) wA (λm a h=>by unfold Hf;rw[h]) (λj x _=>hA i k j x) r.acts.length (Nat.le_refl _)
   rw[List.take_length]at this
   have h1:=(ZfC r.t).1
   have h2:0<=Zga r.t.size 20000:=by unfold Zga;split <;> omega
   have h3:((Zdb r.acts.length (Hf i k r)).length:Int)<=Zaw (r.acts.map wA):=this
   unfold wR;push_cast;split <;> omega
  have hS:∀i (x:Sta),((plS i x).length:Int)<=1+wS x:=λi x=>by
   rw[Zsg,List.length_cons]
   have:=Zl5 x.rules (Gf i x) (plR i) wR (λm a h=>by unfold Gf;rw[h]) (λj x _=>hR i j x) x.rules.length (Nat.le_refl _)
   rw[List.take_length]at this
   have h3:((Zdb x.rules.length (Gf i x)).length:Int)<=Zaw (x.rules.map wR):=this
   unfold wS;push_cast;omega
  have:=Zl5 s.states (Ff s) plS (λx=>1+wS x) (λm a h=>by unfold Ff;rw[h]) (λj x _=>hS j x) s.states.length (Nat.le_refl _)
  rw[List.take_length]at this
  have h3:((Zdb s.states.length (Ff s)).length:Int)<=Zaw (s.states.map λx=>1+wS x):=this
  have h4:∀l:List Sta,Zaw (l.map λx=>1+wS x)=l.length+Zaw (l.map wS):=λl=>by
   induction l with
   | nil=>rfl
   | cons x l ih=>simp only[List.map_cons,Zaw,ih,List.length_cons];push_cast;omega
  rw[h4]at h3
  unfold Sc.weight at hw
  omega
theorem Zhk{n:Nat}{f:Nat->List Pl}{p:Pl}(h:p∈Zdb n f):∃i,i < n/\p∈f i:=by
 unfold Zdb at h
 obtain⟨i,hi,hp⟩:=List.mem_flatMap.1 h
 exact⟨i,List.mem_range.1 hi,hp⟩
def ZAP(s:Sc)(p:Pl):Prop:=(∃i:Nat,p.v=i/\∃v,s.vars[i]?=some v)\/(p.v < 0/\(p.s < 0\/∃i:Nat,p.s=i/\∃x,s.states[i]?=some x/\(p.r < 0\/∃k:Nat,p.r=k/\∃r,x.rules[k]?=some r/\(p.a < 0\/∃j:Nat,p.a=j/\∃a,r.acts[j]?=some a/\(p.p < 0\/∃n:Nat,p.p=n/\∃q,a.parts[n]?=some q)))))
theorem Zyt:(-1:Int) < 0:=by decide
theorem ZvA{α:Type}{l:List α}{n:Nat}(h:n < l.length):∃c,l[n]?=some c:=⟨_,zA3 h⟩
theorem Zns(s:Sc):∀p∈s.places,ZAP s p:=by
 intro p hp
 cases h:s.light with
 | false=>unfold Sc.places at hp;rw[h]at hp;simp at hp
 | true=>
  rw[Zi4 h]at hp
  rcases List.mem_cons.1 hp with rfl|hp
  ·exact .inr ⟨by decide,.inl (by decide)⟩
  rcases List.mem_append.1 hp with hp|hp
  ·obtain⟨i,hi,hp⟩:=Zhk hp
   obtain rfl:p=⟨i,-1,-1,-1,-1⟩:=by simpa[Vf]using hp
   exact .inl ⟨i,rfl,ZvA hi⟩
  ·obtain⟨i,hi,hp⟩:=Zhk hp
   obtain⟨x,hx⟩:=ZvA hi
   have hp:p∈plS i x:=by unfold Ff at hp;rw[hx]at hp;exact hp
   rw[Zsg]at hp
   rcases List.mem_cons.1 hp with rfl|hp
   ·exact .inr ⟨Zyt,.inr ⟨i,rfl,x,hx,.inl (Zyt)⟩⟩
   obtain⟨k,hk,hp⟩:=Zhk hp
   obtain⟨r,hr⟩:=ZvA hk
   have hp:p∈plR i k r:=by unfold Gf at hp;rw[hr]at hp;exact hp
   rw[Zsf]at hp
   rcases List.mem_cons.1 hp with rfl|hp
   ·exact .inr ⟨Zyt,.inr ⟨i,rfl,x,hx,.inr ⟨k,rfl,r,hr,.inl (Zyt)⟩⟩⟩
   obtain⟨j,hj,hp⟩:=Zhk hp
   obtain⟨a,ha⟩:=ZvA hj
   have hp:p∈plA i k j a:=by unfold Hf at hp;rw[ha]at hp;exact hp
   rw[Zse]at hp
   rcases List.mem_cons.1 hp with rfl|hp
   ·exact .inr ⟨Zyt,.inr ⟨i,rfl,x,hx,.inr ⟨k,rfl,r,hr,.inr ⟨j,rfl,a,ha,.inl (Zyt)⟩⟩⟩⟩
   obtain⟨n,hn,hp⟩:=Zhk hp
   obtain rfl:p=⟨-1,i,k,j,n⟩:=by simpa[Pf]using hp
   exact .inr ⟨Zyt,.inr ⟨i,rfl,x,hx,.inr ⟨k,rfl,r,hr,.inr ⟨j,rfl,a,ha,.inr ⟨n,rfl,ZvA hn⟩⟩⟩⟩⟩
end Go.Rx
namespace Go.Rx
open Go Go.Eng Go.RowKit
def T.good(t:T):Bool:=t.nodes.all T.right
def isG(t:T):Bool:=t.k == 6
theorem Zkt(p:T->Bool):∀l:List T,(ZaH l).all p=l.all λt=>t.nodes.all p
 | []=>rfl
 | t::l=>by simp only[ZaH,List.all_append,List.all_cons,Zkt p l]
theorem Znt(t:T):t.good=(t.right&&t.subs.all T.good):=by
 unfold T.good;rw[Zco,List.all_cons,Zkt]
def grL(l:List T):Nat:=(ZaH l).countP isG
def szL(l:List T):Nat:=(ZaH l).length
def T.gr(t:T):Nat:=t.nodes.countP isG
theorem ZaG(l r:List T):szL (l++r)=szL l+szL r:=by unfold szL;rw[ZcI,zA1]
theorem Zbk(l r:List T):grL (l++r)=grL l+grL r:=by unfold grL;rw[ZcI,List.countP_append]
theorem Za9(t:T):szL [t]=t.nodes.length:=by simp[szL,ZaH]
theorem ZcK(t:T):grL [t]=t.gr:=by simp[grL,ZaH,T.gr]
theorem Zca(t:T):ZjV [t]=t.pos:=by simp[ZjV]
theorem Zep(t:T)(l:List T):szL (t::l)=t.nodes.length+szL l:=by simp[szL,ZaH]
theorem Zqt(t:T)(l:List T):grL (t::l)=t.gr+grL l:=by simp[grL,ZaH,T.gr,List.countP_append]
theorem Zi5(t:T):t.nodes.length=1+szL t.subs:=by rw[Zco,List.length_cons,szL];omega
theorem ZvB(t:T):t.gr=(if isG t=true then 1 else 0)+grL t.subs:=by
 unfold T.gr;rw[Zco,List.countP_cons,grL];omega
theorem Znu(l:List T):l.length<=szL l:=by
 induction l with
 | nil=>simp
 | cons t l ih=>rw[Zep,Zi5,List.length_cons];omega
def Za0(k:Int)(t:T):List T:=if t.k=k then t.subs else if k=3/\t.k=1 then[]else[t]
def ZeZ(k:Int)(a:Option Addr)(c:Nat):List T->T
 | []=>T1
 | [x]=>x
 | x::y::l=>ZbR k 0 0 a c (x::y::l)
theorem Zi6{t:T}{k:Int}(h:t.has k=false):∀x∈t.subs,x.k≠k:=by
 intro x hx e
 unfold T.has at h
 have:=List.any_eq_false.1 h x hx
 simp[e]at this
theorem Zuu{t:T}{k:Int}(h:∀x∈t.subs,x.k≠k):t.has k=false:=by
 unfold T.has
 rw[List.any_eq_false]
 intro x hx
 have:=h x hx
 simpa using this
theorem Zi7{k:Int}{t:T}(hk:k=3\/k=4)(hg:t.good=true)(hp:t.pos<=10000):(∀x∈Za0 k t,x.good=true/\x.k≠k/\(k=3->x.k≠1))/\szL (Za0 k t)<=t.nodes.length/\grL (Za0 k t)<=t.gr/\ZjV (Za0 k t)<=t.pos:=by
 have hg':=hg
 rw[Znt,zA7,List.all_eq_true]at hg'
 unfold Za0
 split
 ·rename_i dA
  refine⟨λx hx=>⟨hg'.2 x hx,?_⟩,by rw[Zi5];omega,by rw[ZvB];omega,?_⟩
  ·have hr:=hg'.1
   unfold T.right at hr
   rw[zA7]at hr
   have hr:=hr.2
   rcases hk with rfl|rfl
   ·simp only[dA]at hr
    simp at hr
    exact⟨Zi6 hr.2.2 x hx,λ_=>Zi6 hr.2.1 x hx⟩
   ·simp only[dA]at hr
    simp at hr
    exact⟨Zi6 hr.2 x hx,λh=>by omega⟩
  ·rw[Zr7]at hp ⊢
   have h5:¬t.k=5:=by omega
   have h2:¬t.k=2:=by omega
   unfold ZxB at hp ⊢
   rw[if_neg h5,if_neg h2,Int.zero_add]at hp ⊢
   unfold Zga at hp ⊢
   split at hp
   ·omega
   ·split <;> omega
 ·rename_i dA
  split
  ·refine⟨λx hx=>by simp at hx,by simp[szL,ZaH],by simp[grL,ZaH],?_⟩
   simp only[ZjV];exact(Zlb t).1
  ·rename_i xk
   refine⟨λx hx=>?_,by rw[Za9];exact Nat.le_refl _,by rw[ZcK];exact Nat.le_refl _,by rw[Zca];exact Int.le_refl _⟩
   simp at hx;subst hx
   exact⟨hg,dA,λh=>λh1=>xk ⟨h,h1⟩⟩
theorem Znv{k:Int}(hk:k=3\/k=4)(a:Option Addr)(c:Nat):∀{l:List T},(∀x∈l,x.good=true/\x.k≠k/\(k=3->x.k≠1))->(ZeZ k a c l).good=true/\(ZeZ k a c l).nodes.length<=1+szL l/\(ZeZ k a c l).gr<=grL l/\(ZeZ k a c l).pos<=ZjV l
 | [],_=>⟨show T1.good=true by decide,show T1.nodes.length<=1 by decide,show T1.gr<=0 by decide,show T1.pos<=0 by decide⟩
 | [x],h=>by
  rw[Za9,ZcK,Zca]
  exact⟨(h x (by simp)).1,by show x.nodes.length<=_;omega,Nat.le_refl _,Int.le_refl _⟩
 | x::y::l,h=>by
  show(ZbR k 0 0 a c (x::y::l)).good=true/\(ZbR k 0 0 a c (x::y::l)).nodes.length<=_/\(ZbR k 0 0 a c (x::y::l)).gr<=_/\(ZbR k 0 0 a c (x::y::l)).pos<=_
  have hs:(ZbR k 0 0 a c (x::y::l)).subs=x::y::l:=rfl
  have dA:(ZbR k 0 0 a c (x::y::l)).k=k:=rfl
  have hz:(ZbR k 0 0 a c (x::y::l)).setZ=true:=rfl
  have vr:(ZbR k 0 0 a c (x::y::l)).mn=0:=rfl
  have lY:(ZbR k 0 0 a c (x::y::l)).mx=0:=rfl
  refine⟨?_,by rw[Zi5,hs];exact Nat.le_refl _,?_,?_⟩
  ·rw[Znt,zA7,List.all_eq_true,hs]
   refine⟨?_,λz hz=>(h z hz).1⟩
   have h1:k=3->(ZbR k 0 0 a c (x::y::l)).has 1=false:=λe=>Zuu λz hz=>(h z hz).2.2 e
   have h2:(ZbR k 0 0 a c (x::y::l)).has k=false:=Zuu λz hz=>(h z hz).2.1
   unfold T.right
   rw[dA,hz,vr,lY,hs]
   rcases hk with rfl|rfl
   ·simp[h1 rfl,h2]
   ·simp[h2]
  ·rw[ZvB,hs,isG,dA]
   rcases hk with rfl|rfl <;> simp
  ·rw[Zr7,dA,vr,lY,hs]
   unfold ZxB
   rw[if_neg (by omega),if_neg (by omega),Int.zero_add]
   exact(Zko _ _).1
structure J (i:Nat)(ts:List T)(u g:Nat):Prop where
 good:∀t∈ts,t.good=true
 sz:szL ts<=i
 pos:ZjV ts<=(i*u:Nat)
 u1:1<=u
 u16:u<=16
 gr:grL ts<=g
 g9:g<=9
theorem J.zero:J 0 [] 1 0:=⟨by simp,by simp[szL,ZaH],by simp[ZjV],by omega,by omega,by simp[grL,ZaH],by omega⟩
theorem J.skip{i ts u g}(h:J i ts u g):J (i+1) ts u g:=
 ⟨h.good,by have:=h.sz;omega,by have:=h.pos;have e:(i+1)*u=i*u+u:=Nat.succ_mul i u;rw[e];omega,h.u1,h.u16,h.gr,h.g9⟩
theorem J.push{i ts u g}(h:J i ts u g){t:T}(hg:t.good=true)(hs:t.nodes.length=1)(hp:t.pos<=1)(hr:t.gr=0):J (i+1) (ts++[t]) u g:=by
 refine⟨λx hx=>?_,?_,?_,h.u1,h.u16,?_,h.g9⟩
 ·rcases List.mem_append.1 hx with hx|hx
  ·exact h.good x hx
  ·simp at hx;subst hx;exact hg
 ·rw[ZaG,Za9,hs];have:=h.sz;omega
 ·rw[Zbe,Zca];have:=h.pos;have:=h.u1;have e:(i+1)*u=i*u+u:=Nat.succ_mul i u;rw[e];omega
 ·rw[Zbk,ZcK,hr];have:=h.gr;omega
theorem J.pos400{i ts u g}(h:J i ts u g)(hi:i<=25):ZjV ts<=400:=by
 have h1:=h.pos
 have:i*u<=25*16:=Nat.mul_le_mul hi h.u16
 omega
theorem J.join{i ts u g}{x y:T}(h:J i (ts++[x,y]) u g)(hi:i<=25){k:Int}(hk:k=3\/k=4)(a:Option Addr)(c:Nat):J (i+1) (ts++[ZeZ k a c (Za0 k x++Za0 k y)]) u g:=by
 have h4:=h.pos400 hi
 have hz:=h.sz
 have hp:=h.pos
 have mw:=h.gr
 rw[show ts++[x,y]=ts++([x]++[y]) from rfl]at h4 hz hp mw
 rw[Zbe,Zbe,Zca,Zca]at h4 hp
 rw[ZaG,ZaG,Za9,Za9]at hz
 rw[Zbk,Zbk,ZcK,ZcK]at mw
 have n1:=Zij ts
 have n2:=(Zlb x).1
 have n3:=(Zlb y).1
 obtain⟨a1,a2,a3,a4⟩:=Zi7 hk (h.good x (by simp)) (by omega)
 obtain⟨b1,b2,b3,b4⟩:=Zi7 hk (h.good y (by simp)) (by omega)
 obtain⟨c1,c2,c3,c4⟩:=Znv hk a c (l:=Za0 k x++Za0 k y) (λz hz=>by
  rcases List.mem_append.1 hz with hz|hz
  ·exact a1 z hz
  ·exact b1 z hz)
 rw[ZaG]at c2
 rw[Zbk]at c3
 rw[Zbe]at c4
 refine⟨λz hz=>?_,?_,?_,h.u1,h.u16,?_,h.g9⟩
 ·rcases List.mem_append.1 hz with hz|hz
  ·exact h.good z (by simp[hz])
  ·simp at hz;subst hz;exact c1
 ·rw[ZaG,Za9];omega
 ·rw[Zbe,Zca];have e:(i+1)*u=i*u+u:=Nat.succ_mul i u;rw[e];omega
 ·rw[Zbk,ZcK];omega
theorem J.group{i ts u g}{x:T}(h:J i (ts++[x]) u g)(hg:g < 9)(a:Option Addr)(c:Nat):J (i+1) (ts++[ZbR 6 0 0 a c [x]]) u (g+1):=by
 have hz:=h.sz
 have hp:=h.pos
 have mw:=h.gr
 rw[Zbe,Zca]at hp
 rw[ZaG,Za9]at hz
 rw[Zbk,ZcK]at mw
 have hs:(ZbR 6 0 0 a c [x]).subs=[x]:=rfl
 refine⟨λz hz=>?_,?_,?_,h.u1,h.u16,?_,by omega⟩
 ·rcases List.mem_append.1 hz with hz|hz
  ·exact h.good z (by simp[hz])
  ·simp at hz;subst hz
   rw[Znt,zA7,List.all_eq_true]
   refine⟨rfl,λz hz=>?_⟩
   rw[hs]at hz;simp at hz;subst hz
   exact h.good z (by simp)
 ·rw[ZaG,Za9,Zi5,hs,Za9];omega
 ·rw[Zbe,Zca,Zr7,hs,Zca]
  have:ZxB (ZbR 6 0 0 a c [x]).k (ZbR 6 0 0 a c [x]).mn (ZbR 6 0 0 a c [x]).mx ((if(ZbR 6 0 0 a c [x]).k=2 then 1 else 0)+x.pos)<=x.pos:=by
   show Zga (if(6:Int)=5 then _ else(if(6:Int)=2 then 1 else 0)+x.pos) 10001<=_
   rw[if_neg (by omega),if_neg (by omega),Int.zero_add]
   exact(Zko _ _).1
  have e:(i+1)*u=i*u+u:=Nat.succ_mul i u
  rw[e];omega
 ·rw[Zbk,ZcK,ZvB,hs,ZcK]
  split <;> omega
theorem J.rep{i ts u g}{x:T}(h:J i (ts++[x]) u g)(hx:x.k≠1){mn mx:Int}(hb:Zr6 mn mx=true){w:Nat}(hw:Zyq mn mx<=w)(h1:1<=w)(hu:u*w<=16)(a:Option Addr)(c:Nat):J (i+1) (ts++[ZbR 5 mn mx a c [x]]) (u*w) g:=by
 have hz:=h.sz
 have hp:=h.pos
 have mw:=h.gr
 rw[Zbe,Zca]at hp
 rw[ZaG,Za9]at hz
 rw[Zbk,ZcK]at mw
 have hs:(ZbR 5 mn mx a c [x]).subs=[x]:=rfl
 have n1:=Zij ts
 have n2:=(Zlb x).1
 refine⟨λz hz=>?_,?_,?_,?_,hu,?_,h.g9⟩
 ·rcases List.mem_append.1 hz with hz|hz
  ·exact h.good z (by simp[hz])
  ·simp at hz;subst hz
   rw[Znt,zA7,List.all_eq_true]
   refine⟨?_,λz hz=>?_⟩
   ·have hh:(ZbR 5 mn mx a c [x]).has 1=false:=Zuu λz hz=>by rw[hs]at hz;simp at hz;subst hz;exact hx
    unfold T.right
    rw[hh,hs,show(ZbR 5 mn mx a c [x]).k=5 from rfl,show(ZbR 5 mn mx a c [x]).setZ=true from rfl,show(ZbR 5 mn mx a c [x]).mn=mn from rfl,show(ZbR 5 mn mx a c [x]).mx=mx from rfl,hb]
    simp
   ·rw[hs]at hz;simp at hz;subst hz
    exact h.good z (by simp)
 ·rw[ZaG,Za9,Zi5,hs,Za9];omega
 ·rw[Zbe,Zca,Zr7,hs,Zca]
  have key:ZxB (ZbR 5 mn mx a c [x]).k (ZbR 5 mn mx a c [x]).mn (ZbR 5 mn mx a c [x]).mx ((if(ZbR 5 mn mx a c [x]).k=2 then 1 else 0)+x.pos)<=x.pos*w:=by
   show Zga (if(5:Int)=5 then((if(5:Int)=2 then 1 else 0)+x.pos)*Zyq mn mx else _) 10001<=_
   rw[if_pos rfl,if_neg (by omega),Int.zero_add]
   exact Int.le_trans (Zko _ _).1 (Int.mul_le_mul_of_nonneg_left hw n2)
  have k2:ZjV ts<=ZjV ts*w:=by
   have:=Int.mul_le_mul_of_nonneg_left (show(1:Int)<=w by omega) n1
   rw[Int.mul_one]at this;exact this
  have k3:(ZjV ts+x.pos)*w<=((i*u:Nat):Int)*w:=Int.mul_le_mul_of_nonneg_right hp (by omega)
  rw[Int.add_mul]at k3
  have e:(i+1)*(u*w)=i*u*w+u*w:=by rw[Nat.succ_mul,Nat.mul_assoc]
  have e2:(((i*u:Nat):Int)*w)=((i*u*w:Nat):Int):=by push_cast;rfl
  rw[e2]at k3
  rw[e]
  generalize i*u*w=A at *
  generalize u*w=B at *
  generalize ZjV ts*(w:Int)=D at *
  generalize x.pos*(w:Int)=F at *
  omega
 ·have:=Nat.mul_le_mul h.u1 h1;omega
 ·rw[Zbk,ZcK,ZvB,hs,ZcK,isG,show(ZbR 5 mn mx a c [x]).k=5 from rfl]
  simp;omega
structure F (t:T)(l:List T):Prop where
 good:t.good=true
 goods:∀x∈l,x.good=true
 sz:t.nodes.length+szL l+l.length<=60
 pos:t.pos+ZjV l<=400
 gr:t.gr+grL l<=9
theorem F.start{i u g}{t:T}{l:List T}(h:J i (t::l) u g)(hi:i<=25):F t l:=by
 have h1:=h.sz
 have h2:=h.pos400 hi
 have h3:=h.gr
 rw[Zep]at h1
 rw[Zqt]at h3
 have:=Znu l
 have:=h.g9
 exact⟨h.good t (by simp),λx hx=>h.good x (by simp[hx]),by omega,by simpa[ZjV]using h2,by omega⟩
theorem F.step{t x:T}{l:List T}(h:F t (x::l))(a:Option Addr)(c:Nat):F (ZeZ 4 a c (Za0 4 t++Za0 4 x)) l:=by
 have h1:=h.sz
 have h2:=h.pos
 have h3:=h.gr
 rw[Zep,List.length_cons]at h1
 rw[Zqt]at h3
 simp only[ZjV]at h2
 have n1:=Zij l
 have n2:=(Zlb x).1
 have n3:=(Zlb t).1
 obtain⟨a1,a2,a3,a4⟩:=Zi7 (.inr rfl) h.good (by omega) (t:=t)
 obtain⟨b1,b2,b3,b4⟩:=Zi7 (.inr rfl) (h.goods x (by simp)) (by omega)
 obtain⟨c1,c2,c3,c4⟩:=Znv (.inr rfl) a c (l:=Za0 4 t++Za0 4 x) (λz hz=>by
  rcases List.mem_append.1 hz with hz|hz
  ·exact a1 z hz
  ·exact b1 z hz)
 rw[ZaG]at c2
 rw[Zbk]at c3
 rw[Zbe]at c4
 exact⟨c1,λz hz=>h.goods z (by simp[hz]),by omega,by omega,by omega⟩
theorem F.done{t:T}{l:List T}(h:F t l):t.check=0:=by
 have h1:=h.sz
 have h2:=h.pos
 have h3:=h.gr
 have n1:=Zij l
 have hl:t.light=true:=by unfold T.light;exact decide_eq_true (by omega)
 have hc:t.clean=true:=by unfold T.clean;rw[hl];exact h.good
 have hg:((t.nodes.countP λx=>x.k == 6:Nat))=t.gr:=rfl
 unfold T.check
 rw[hc]
 unfold T.size T.positions T.groups
 rw[hl,hg]
 simp only[if_true,Bool.true_eq_false,if_false]
 rw[if_neg (by omega),if_neg (by omega),if_neg (by omega)]
theorem Zqu(n:Nat):(Zi1 (Zc6 n)).good=true/\(Zi1 (Zc6 n)).nodes.length=1/\(Zi1 (Zc6 n)).pos<=1/\(Zi1 (Zc6 n)).gr=0:=by
 have h:n % 12=0\/n % 12=1\/n % 12=2\/n % 12=3\/n % 12=4\/n % 12=5\/n % 12=6\/n % 12=7\/n % 12=8\/n % 12=9\/n % 12=10\/n % 12=11:=by omega
 unfold Zc6
 rcases h with e|e|e|e|e|e|e|e|e|e|e|e <;> rw[e] <;> exact⟨by decide,by decide,by decide,by decide⟩
theorem Zwl:T1.good=true/\T1.nodes.length=1/\T1.pos<=1/\T1.gr=0:=⟨by decide,by decide,by decide,by decide⟩
theorem Zd1{k:Int}{t:T}:(Za0 k t).length<=t.nodes.length:=by
 unfold Za0
 have:=Zwg t
 have:=Zi5 t
 split
 ·omega
 ·split <;> simp <;> omega
end Go.Rx
namespace Go.Rx
open Go Go.Eng
set_option maxRecDepth 100000
def Ziy:List ByteArray:=[⟨#[120]⟩,⟨#[121]⟩,⟨#[122,95,49]⟩,⟨#[97,98,99,100,101,102,103,104,105,106,107,108,109,110,111,112]⟩]
def ZeG:List ByteArray:=[⟨#[115]⟩,⟨#[116]⟩]
def ZvG:List ByteArray:=[⟨#[97]⟩,⟨#[98]⟩,⟨#[99]⟩,⟨#[100]⟩]
def okN(c:Int)(x:E):Prop:=x.right=true/\(x.k=9->x.s∈Ziy)/\(x.k=10->x.g<=c)
structure MkE (c:Int)(n:Nat)(e:E):Prop where
 all:∀x∈e.nodes,okN c x
 len:e.nodes.length<=n
def Zzk(x:Nat):E:=.node 8 x .empty 0 none 0 []
def ZxC(s:ByteArray):E:=.node 9 0 s 0 none 0 []
def ZzP(g:Int):E:=.node 10 0 .empty g none 0 []
def ZxD(a:Option Addr)(c:Nat)(x:E):E:=.node 1 0 .empty 0 a c [x]
def opE(k:Int)(a:Option Addr)(c:Nat)(x y:E):E:=.node k 0 .empty 0 a c [x,y]
theorem MkE.mono{c n k e}(h:MkE c n e)(hk:n<=k):MkE c k e:=⟨h.all,Nat.le_trans h.len hk⟩
theorem Zl6{c:Int}{k x s g a d}(h:okN c (.node k x s g a d [])):MkE c 1 (.node k x s g a d []):=by
 refine⟨λy hy=>?_,by simp[E.nodes,Zam]⟩
 simp only[E.nodes,Zam,List.mem_singleton]at hy
 rw[hy];exact h
theorem Zsh:Znl 0 0=true:=by decide +kernel
theorem Ztu{c:Int}{x:Nat}(h:Zi2 x=true):MkE c 1 (Zzk x):=by
 refine Zl6 ⟨?_,λe=>absurd (show(8:Int)=9 from e) (by decide),λe=>absurd (show(8:Int)=10 from e) (by decide)⟩
 simp[E.right,E.k,E.s,E.x,E.g,E.subs,Zno,h]
theorem Zqv:∀s∈Ziy,ZfR s=true:=by decide +kernel
theorem Ztv:∀s∈ZeG,ZfR s=true:=by decide +kernel
theorem Ztw:∀s∈ZvG,ZfR s=true:=by decide +kernel
theorem Ztx{c:Int}{s:ByteArray}(h:s∈Ziy):MkE c 1 (ZxC s):=by
 refine Zl6 ⟨?_,λ_=>h,λe=>absurd (show(9:Int)=10 from e) (by decide)⟩
 simp[E.right,E.k,E.s,E.x,E.g,E.subs,Zno,Zqv s h,Zsh]
theorem Zwm{c g:Int}(h:0<=g/\g<=9)(hc:g<=c):MkE c 1 (ZzP g):=by
 refine Zl6 ⟨?_,λe=>absurd (show(10:Int)=9 from e) (by decide),λ_=>hc⟩
 simp[E.right,E.k,E.s,E.x,E.g,E.subs,Zno,Zsh,h.1,h.2]
theorem Zwn{c:Int}{n:Nat}{a d}{x:E}(h:MkE c n x)(hk:x.k≠8):MkE c (n+1) (ZxD a d x):=by
 refine⟨λy hy=>?_,by have:=h.len;simp[ZxD,E.nodes,Zam];omega⟩
 simp only[ZxD,E.nodes,Zam,List.append_nil,List.mem_cons]at hy
 rcases hy with rfl|hy
 ·refine⟨?_,λe=>absurd (show(1:Int)=9 from e) (by decide),λe=>absurd (show(1:Int)=10 from e) (by decide)⟩
  have h1:E.right (.node 1 0 .empty 0 a d [x])=!Zsc [x]:=by simp[E.right,E.k,E.s,E.x,E.g,E.subs,Zno,Zsh]
  rw[h1]
  show(!(x.k == 8))=true
  simpa using hk
 ·exact h.all y hy
theorem Zwo{c:Int}{n p:Nat}{a d}{k:Int}{x y:E}(hk:2<=k/\k<=7)(h:MkE c n x)(h2:MkE c p y):MkE c (n+p+1) (opE k a d x y):=by
 refine⟨λz hz=>?_,by have:=h.len;have:=h2.len;simp[opE,E.nodes,Zam];omega⟩
 simp only[opE,E.nodes,Zam,List.append_nil,List.mem_cons,List.mem_append]at hz
 rcases hz with rfl|hz|hz
 ·refine⟨?_,λe=>?_,λe=>?_⟩
  ·have h0:¬k=0:=by omega
   have h1:¬k=1:=by omega
   have h9:¬k=9:=by omega
   have h8:¬k=8:=by omega
   have gP:¬k=10:=by omega
   have hs:Zno k=2:=by unfold Zno;rw[if_neg h1,if_pos hk]
   have bQ:k<=10:=by omega
   simp[E.right,E.k,E.s,E.x,E.g,E.subs,hs,Zsh,h0,h1,h9,h8,gP,bQ]
  ·have e:k=9:=e
   omega
  ·have e:k=10:=e
   omega
 ·exact h.all z hz
 ·exact h2.all z hz
theorem MkE.clean{c:Int}{n:Nat}{e:E}(h:MkE c n e)(hn:n<=10000):e.clean=true:=by
 have hl:e.light=true:=by unfold E.light;exact decide_eq_true (Nat.le_trans h.len hn)
 unfold E.clean
 rw[hl,Bool.true_and,List.all_eq_true]
 exact λx hx=>(h.all x hx).1
theorem Zwp{c:Int}(l:List E)(h:∀x∈l,x.k=10->x.g<=c):∀n:Int,n<=c->l.foldl (λn x=>if x.k=10 then(if x.g > n then x.g else n)else n) n<=c:=by
 induction l with
 | nil=>exact λn hn=>hn
 | cons x l ih=>
  intro n hn
  rw[List.foldl_cons]
  refine ih (λy hy=>h y (List.mem_cons_of_mem _ hy)) _ ?_
  split
  ·rename_i hk
   split
   ·exact h x (by simp) hk
   ·exact hn
  ·exact hn
theorem MkE.most{c:Int}{n:Nat}{e:E}(h:MkE c n e)(hc : -1<=c):e.most<=c:=by
 unfold E.most
 split
 ·exact Zwp _ (λx hx=>(h.all x hx).2.2) _ hc
 ·exact hc
mutual
theorem Zqw{A:List ByteArray}:∀(t:E)(out:List ByteArray),(∀x∈t.nodes,x.k=9->x.s∈A)->∀s∈t.names out,s∈out\/s∈A
 | .node k x s g a c l,out,h,z,hz=>by
  simp only[E.names]at hz
  split at hz
  ·rename_i hk
   split at hz
   ·exact .inl hz
   ·rcases List.mem_append.1 hz with hz|hz
    ·exact .inl hz
    ·rw[List.mem_singleton]at hz;subst hz
     exact .inr (h (.node k x z g a c l) (by simp[E.nodes]) hk)
  ·exact Znw l out (λy hy=>h y (by simp only[E.nodes];exact List.mem_cons_of_mem _ hy)) z hz
theorem Znw{A:List ByteArray}:∀(l:List E)(out:List ByteArray),(∀x∈Zam l,x.k=9->x.s∈A)->∀s∈ZbA l out,s∈out\/s∈A
 | [],out,_,z,hz=>.inl hz
 | t::l,out,h,z,hz=>by
  simp only[ZbA]at hz
  rcases Znw l _ (λy hy=>h y (by simp only[Zam];exact List.mem_append_right _ hy)) z hz with hz|hz
  ·exact Zqw t out (λy hy=>h y (by simp only[Zam];exact List.mem_append_left _ hy)) z hz
  ·exact .inr hz
end
theorem MkE.vars{c:Int}{n:Nat}{e:E}(h:MkE c n e):∀s∈e.vars,s∈Ziy:=by
 intro s hs
 unfold E.vars at hs
 split at hs
 ·rcases Zqw (A:=Ziy) e [] (λx hx=>(h.all x hx).2.1) s hs with h|h
  ·cases h
  ·exact h
 ·cases hs
theorem Zwq:Zvz E0=true:=by decide +kernel
inductive MkP (c:Int):Pt->Prop
 | lit (s:ByteArray) (h:0 < s.size/\s.size<=512):MkP c ⟨1,s,0,E0⟩
 | var (s:ByteArray) (h:s∈Ziy\/s∈ZeG):MkP c ⟨2,s,0,E0⟩
 | cap (g:Int) (h:0<=g/\g<=9/\g<=c):MkP c ⟨3,.empty,g,E0⟩
 | clc (e:E) (h:MkE c 20 e):MkP c ⟨4,.empty,0,e⟩
def ZzD(l:List Pt):Prop:=∀(i:Nat)(p q:Pt),l[i]?=some p->l[i+1]?=some q->p.k=1->q.k=1->False
structure MkT (c:Int)(l:List Pt):Prop where
 len:l.length<=5
 all:∀p∈l,MkP c p
 ll:ZzD l
inductive MkA (c:Int):Ac->Prop
 | send (a:Option Addr) (n:Nat) (l:List Pt) (h:MkT c l):MkA c ⟨1,.empty,a,n,l,E0⟩
 | set (s:ByteArray) (hs:s∈ZeG) (a:Option Addr) (n:Nat) (l:List Pt) (h:MkT c l):MkA c ⟨2,s,a,n,l,E0⟩
 | let_ (s:ByteArray) (hs:s∈Ziy) (e:E) (h:MkE c 20 e):MkA c ⟨3,s,none,0,[],e⟩
def Zx3(r:Ru):Prop:=(r.k=1/\r.t.check=0/\r.t.nodes.length<=26/\r.s=.empty/\r.n=0)\/((r.bg=false/\r.en=false/\r.t=T0)/\((r.k=2/\1<=r.s.size/\r.s.size<=3/\r.n=0)\/(r.k=3/\r.s=.empty/\r.n=0)\/(r.k=4/\r.s=.empty/\1<=r.n/\r.n<=8)))
structure MkR (n:Nat)(r:Ru):Prop where
 kind:Zx3 r
 len:r.acts.length<=3
 all:∀a∈r.acts,MkA (Zdn r) a
 go:((∃i,i < n/\ZvG[i]?=some r.go)/\r.code=0)\/(r.go=.empty/\0<=r.code/\r.code<=255)
structure MkS (n i:Nat)(x:Sta):Prop where
 name:ZvG[i]?=some x.s
 len:x.rules.length<=5
 all:∀r∈x.rules,MkR n r
structure MkV (i:Nat)(v:Va):Prop where
 name:(Ziy++ZeG)[i]?=some v.s
 kind:(i < 4/\v.b=true/\v.t=.empty/\Zi2 v.x=true)\/(4<=i/\v.b=false/\v.t.size<=3/\v.x=0)
structure MkC (s:Sc):Prop where
 n:2<=s.n/\s.n<=12
 vlen:s.vars.length=6
 vall:∀i v,s.vars[i]?=some v->MkV i v
 len:1<=s.states.length/\s.states.length<=4
 all:∀i x,s.states[i]?=some x->MkS s.states.length i x
theorem Zpm{n:Nat}{e:E}(h:e.nodes.length<=n)(hn:n<=10000):e.light=true:=by unfold E.light;exact decide_eq_true (by omega)
theorem Zzl{n:Nat}{e:E}(h:e.nodes.length<=n)(hn:n<=10000):nE e<=n:=by
 unfold nE E.size;rw[Zpm h hn];simp;omega
theorem nE0:nE E0<=20:=by decide +kernel
theorem ZgB{α:Type}(f:α->Int)(B:Int)(l:List α)(hf:∀x∈l,f x<=B):Zaw (l.map f)<=l.length*B:=by
 induction l with
 | nil=>simp[Zaw]
 | cons x l ih=>
  have h1:=hf x (by simp)
  have h2:=ih (λy hy=>hf y (by simp[hy]))
  simp only[List.map_cons,Zaw,List.length_cons]
  rw[show((l.length+1:Nat):Int)*B=l.length*B+B by rw[Int.natCast_add,Int.add_mul];simp]
  omega
theorem MkP.nE{c:Int}{p:Pt}(h:MkP c p):nE p.e<=20:=by
 cases h with
 | clc e h=>exact Zzl (n:=20) h.len (by omega)
 | _=>exact nE0
theorem MkA.w{c:Int}{a:Ac}(h:MkA c a):wA a<=126:=by
 have go:∀{l:List Pt},MkT c l->(l.length:Int)+Zaw (l.map λp=>Rx.nE p.e)<=105:=λ{l} h=>by
  have:=ZgB (λp:Pt=>Rx.nE p.e) 20 l (λp hp=>(h.all p hp).nE)
  have:=h.len
  omega
 have e0:=nE0
 cases h with
 | send a n l h=>have:=go h;simp only[wA];omega
 | set s hs a n l h=>have:=go h;simp only[wA];omega
 | let_ s hs e h=>have:=Zzl h.len (by omega);simp[wA,Zaw];omega
theorem Zi8{t:T}(h:t.nodes.length<=10000):t.light=true:=by unfold T.light;exact decide_eq_true h
theorem Znx:T0.size=1/\T0.light=true/\T0.same T0=true:=by decide +kernel
theorem MkR.size{n:Nat}{r:Ru}(h:MkR n r):r.t.light=true/\0<=r.t.size/\r.t.size<=26:=by
 rcases h.kind with⟨_,_,h,_⟩|⟨⟨_,_,h⟩,_⟩
 ·have hl:=Zi8 (t:=r.t) (by omega)
  refine⟨hl,?_⟩
  unfold T.size;rw[hl];simp;omega
 ·rw[h,Znx.1];exact⟨Znx.2.1,by omega,by omega⟩
theorem MkR.w{n:Nat}{r:Ru}(h:MkR n r):wR r<=405:=by
 obtain⟨h1,h2,h3⟩:=h.size
 have:=ZgB wA 126 r.acts (λa ha=>(h.all a ha).w)
 have:=h.len
 have hi:Zga r.t.size 20000<=26:=by unfold Zga;split <;> omega
 unfold wR;rw[h1];simp;omega
theorem MkS.w{n i:Nat}{x:Sta}(h:MkS n i x):wS x<=2025:=by
 have:=ZgB wR 405 x.rules (λa ha=>(h.all a ha).w)
 have:=h.len
 unfold wS;omega
theorem MkC.state{s:Sc}(h:MkC s){x:Sta}(hx:x∈s.states):∃i,s.states[i]?=some x/\MkS s.states.length i x:=by
 obtain⟨i,hi⟩:=List.getElem?_of_mem hx
 exact⟨i,hi,h.all i x hi⟩
theorem MkC.weight{s:Sc}(h:MkC s):s.weight<=8200:=by
 have:=ZgB wS 2025 s.states (λx hx=>by obtain⟨i,_,h⟩:=h.state hx;exact h.w)
 have:=h.len
 have:=h.vlen
 unfold Sc.weight;omega
theorem MkC.light{s:Sc}(h:MkC s):s.light=true:=by unfold Sc.light;exact decide_eq_true (by have:=h.weight;omega)
theorem ZgC(s:ByteArray):eqS s s=true:=by unfold eqS;simp
theorem Zwr:∀j < 6,∀i < 6,j≠i->eqS ((Ziy++ZeG).getD j .empty) ((Ziy++ZeG).getD i .empty)=false:=by decide +kernel
theorem Zyu:∀j < 4,∀i < 4,j≠i->eqS (ZvG.getD j .empty) (ZvG.getD i .empty)=false:=by decide +kernel
theorem Zil{l:List ByteArray}{i:Nat}{s:ByteArray}(h:l[i]?=some s):l.getD i .empty=s:=by rw[List.getD_eq_getElem?_getD,h];rfl
theorem Zty{α:Type}{p:α->Bool}:∀{l:List α} {i:Nat} {x:α},l[i]?=some x->p x=true->(∀j y,j < i->l[j]?=some y->p y=false)->l.find? p=some x
 | [],i,x,h,_,_=>by simp at h
 | a::l,0,x,h,hp,_=>by
  simp at h;subst h
  rw[List.find?_cons_of_pos hp]
 | a::l,i+1,x,h,hp,hn=>by
  rw[List.find?_cons_of_neg (by rw[hn 0 a (by omega) rfl];simp)]
  exact Zty (l:=l) (i:=i) (by simpa using h) hp (λj y hj hy=>hn (j+1) y (by omega) (by simpa using hy))
theorem MkC.kind{s:Sc}(h:MkC s){i:Nat}{name:ByteArray}(hi:(Ziy++ZeG)[i]?=some name):Zhw s name=(decide (i < 4),true):=by
 have tB:i < 6:=(zA0 hi).1
 have aH:=h.vlen
 have hv:s.vars[i]?=some (s.vars[i]'(by omega)):=zA3 (by omega)
 have hm:=h.vall i _ hv
 generalize s.vars[i]'(by omega)=v at hv hm
 have hn:v.s=name:=Option.some.inj (hm.name.symm.trans hi)
 have hf:(s.vars.find? λv=>eqS v.s name)=some v:=Zty hv (by rw[hn];exact ZgC _) (λj y hj hy=>by
  have hy':=(h.vall j y hy).name
  have:=Zwr j (by omega) i tB (by omega)
  rwa [Zil hy',Zil hi]at this)
 unfold Zhw
 rw[hf]
 rcases hm.kind with⟨h4,hb,_⟩|⟨h4,hb,_⟩
 ·rw[decide_eq_true h4];show(v.b,true)=_;rw[hb]
 ·rw[decide_eq_false (by omega)];show(v.b,true)=_;rw[hb]
theorem MkC.num{s:Sc}(h:MkC s){name:ByteArray}(hn:name∈Ziy):Zhw s name=(true,true):=by
 obtain⟨i,hi⟩:=List.getElem?_of_mem hn
 have aC:i < 4:=(zA0 hi).1
 have:=h.kind (i:=i) (name:=name) (by rw[zA5 aC];exact hi)
 rwa [decide_eq_true aC]at this
theorem MkC.txt{s:Sc}(h:MkC s){name:ByteArray}(hn:name∈ZeG):Zhw s name=(false,true):=by
 obtain⟨i,hi⟩:=List.getElem?_of_mem hn
 have aC:i < 2:=(zA0 hi).1
 have:=h.kind (i:=4+i) (name:=name) (by rw[zA4 (show Ziy.length<=4+i by show 4<=_;omega)];show ZeG[4+i - 4]?=_;rw[show 4+i - 4=i by omega];exact hi)
 rwa [decide_eq_false (by omega)]at this
theorem MkC.numbers{s:Sc}(h:MkC s){c:Int}{n:Nat}{e:E}(he:MkE c n e):Zdx s e=true:=by
 unfold Zdx
 rw[Bool.not_eq_true',List.any_eq_false]
 intro x hx
 rw[h.num (he.vars x hx)];simp
theorem MkC.finds{s:Sc}(h:MkC s){i:Nat}{name:ByteArray}(hi:i < s.states.length)(hn:ZvG[i]?=some name):Zsd s name=true:=by
 unfold Zsd
 rw[h.light,Bool.and_true,List.any_eq_true]
 refine⟨s.states[i],List.getElem_mem _,?_⟩
 have:=(h.all i _ (zA3 hi)).name
 rw[hn]at this
 rw[<-Option.some.inj this];exact ZgC _
theorem ZdI{n a b:Int}:Zdc n a b=true↔a<=n/\n<=b:=by
 unfold Zdc
 rw[zA7,decide_eq_true_iff,decide_eq_true_iff]
theorem MkC.whole{s:Sc}(h:MkC s):Znp s=0:=by
 have h1:Zdc s.n 2 256=true:=ZdI.2 (by have:=h.n;omega)
 have h2:Zdc s.states.length 1 24=true:=ZdI.2 (by have:=h.len;omega)
 have h3:decide (s.vars.length > 12)=false:=decide_eq_false (by have:=h.vlen;omega)
 simp[Znp,Zcy,h1,h2,h3]
theorem ZaS:ByteArray.empty.size=0:=rfl
theorem MkC.var{s:Sc}(h:MkC s){i:Nat}{v:Va}(hv:s.vars[i]?=some v):ZcJ s i v=0:=by
 have hm:=h.vall i v hv
 have tB:i < 6:=by have:=(zA0 hv).1;have:=h.vlen;omega
 have h1:ZfR v.s=true:=by
  have cJ:=zA2 hm.name
  rcases List.mem_append.1 cJ with hx|hx
  ·exact Zqv _ hx
  ·exact Ztv _ hx
 have h2:Zut v=true:=by
  unfold Zut
  rcases hm.kind with⟨_,hb,ht,hx⟩|⟨_,hb,ht,hx⟩
  ·rw[hb,ht,hx];rfl
  ·rw[hb,hx]
   simp;omega
 have h3:((s.vars.take i).any λx=>eqS x.s v.s)=false:=by
  rw[List.any_eq_false]
  intro x hx
  obtain⟨j,hj⟩:=List.getElem?_of_mem hx
  have iM:j < i:=by have:=(zA0 hj).1;rw[List.length_take]at this;omega
  rw[List.getElem?_take_of_lt iM]at hj
  have:=Zwr j (by omega) i tB (by omega)
  rw[Zil (h.vall j x hj).name,Zil hm.name]at this
  rw[this];simp
 simp[ZcJ,Zcy,h1,h2,h3]
theorem MkC.stateOk{s:Sc}(h:MkC s){i:Nat}{x:Sta}(hx:s.states[i]?=some x):Znq s i x=0:=by
 have hm:=h.all i x hx
 have xl:i < 4:=by have:=(zA0 hx).1;have:=h.len;omega
 have h1:ZfR x.s=true:=Ztw _ (zA2 hm.name)
 have h2:decide (x.rules.length > 12)=false:=decide_eq_false (by have:=hm.len;omega)
 have h3:((s.states.take i).any λy=>eqS y.s x.s)=false:=by
  rw[List.any_eq_false]
  intro y hy
  obtain⟨j,hj⟩:=List.getElem?_of_mem hy
  have iM:j < i:=by have:=(zA0 hj).1;rw[List.length_take]at this;omega
  rw[List.getElem?_take_of_lt iM]at hj
  have:=Zyu j (by omega) i xl (by omega)
  rw[Zil (h.all j y hj).name,Zil hm.name]at this
  rw[this];simp
 simp[Znq,Zcy,h1,h2,h3]
theorem Zsi(t:T):0<=t.groups:=by unfold T.groups;split <;> omega
theorem Zqx(r:Ru) : -1<=Zdn r:=by
 have:=Zsi r.t
 unfold Zdn;split
 ·omega
 ·split <;> omega
theorem Zx4{r:Ru}(h:r.bg=false/\r.en=false/\r.t=T0):ZzC r=false:=by
 unfold ZzC;rw[h.1,h.2.1,h.2.2,Znx.2.1,Znx.2.2];rfl
theorem MkR.fields{n:Nat}{r:Ru}(h:MkR n r):Zqp r=true:=by
 unfold Zqp
 rcases h.kind with⟨hk,_,_,hs,hn⟩|⟨hx,⟨hk,h1,h2,hn⟩|⟨hk,hs,hn⟩|⟨hk,hs,h1,h2⟩⟩
 ·rw[hk,hs,hn];rfl
 ·rw[Zx4 hx,hk,hn]
  have:Zdc r.s.size 1 64=true:=ZdI.2 (by omega)
  simp[this]
 ·rw[Zx4 hx,hk,hs,hn];rfl
 ·rw[Zx4 hx,hk,hs]
  have:Zdc r.n 1 1000=true:=ZdI.2 (by omega)
  simp[this,ZaS]
theorem MkR.sizeR{n:Nat}{r:Ru}(h:MkR n r):Rx.sizeR r<=26:=by
 unfold Rx.sizeR;split
 ·exact h.size.2.2
 ·omega
theorem MkS.sizes{n i:Nat}{x:Sta}(h:MkS n i x)(k:Nat):Zaw ((x.rules.take k).map Rx.sizeR)<=130:=by
 have:=ZgB Rx.sizeR 26 (x.rules.take k) (λr hr=>(h.all r (List.mem_of_mem_take hr)).sizeR)
 have h1:=h.len
 rw[List.length_take]at this
 omega
theorem MkC.totals{s:Sc}(h:MkC s)(i k:Nat):Rx.totals s i k<=600:=by
 have h0:=h.len
 have h1:=ZgB (λx:Sta=>Zaw (x.rules.map Rx.sizeR)) 130 (s.states.take i) (λx hx=>by
  obtain⟨j,_,hm⟩:=h.state (List.mem_of_mem_take hx)
  have:=hm.sizes x.rules.length
  rwa [List.take_length]at this)
 rw[List.length_take]at h1
 unfold Rx.totals
 cases hx:s.states[i]? with
 | none=>show _+0<=_;omega
 | some x=>
  have hi:=(zA0 hx).1
  have:=(h.all i x hx).sizes (k+1)
  show _+Zaw ((x.rules.take (k+1)).map Rx.sizeR)<=_
  omega
theorem Zl7:∀s∈ZvG,s.size=1:=by decide +kernel
theorem MkC.rule{s:Sc}(h:MkC s){r:Ru}(hr:MkR s.states.length r){t:Int}(ht:t<=600):Zqq s r t=0:=by
 have h1:=hr.fields
 have h2:decide (r.acts.length > 8)=false:=decide_eq_false (by have:=hr.len;omega)
 have h3:(r.k == 1&&(!(r.t.check == 0)||decide (t > 600)))=false:=by
  rw[decide_eq_false (show ¬t > 600 by omega),Bool.or_false]
  rcases hr.kind with⟨_,hc,_⟩|⟨_,⟨hk,_⟩|⟨hk,_⟩|⟨hk,_⟩⟩
  ·rw[hc];simp
  ·rw[hk];rfl
  ·rw[hk];rfl
  ·rw[hk];rfl
 have h4:(if r.go.size=0 then !Zdc r.code 0 255 else !Zsd s r.go||!(r.code == 0))=false:=by
  rcases hr.go with⟨⟨i,hi,hn⟩,hc⟩|⟨hg,hc⟩
  ·rw[if_neg (by rw[Zl7 _ (zA2 hn)];omega),h.finds hi hn,hc];rfl
  ·rw[hg,if_pos ZaS,ZdI.2 hc];rfl
 unfold Zqq
 rw[h1,h2,h3,h4];rfl
theorem MkC.action{s:Sc}(h:MkC s){r:Ru}{a:Ac}(ha:MkA (Zdn r) a):Zd0 s r a=0:=by
 have hz:=Zwq
 cases ha with
 | send a n l hl=>
  have h1:decide (l.length > 16)=false:=decide_eq_false (by have:=hl.len;omega)
  have h2:Zdc 1 1 3=true:=by decide
  unfold Zd0
  simp[Zcy,h1,h2,hz,ZaS]
 | set t ht a n l hl=>
  have h1:decide (l.length > 16)=false:=decide_eq_false (by have:=hl.len;omega)
  have h2:Zdc 2 1 3=true:=by decide
  unfold Zd0
  simp[Zcy,h1,h2,hz,h.txt ht]
 | let_ t ht e he=>
  have h2:Zdc 3 1 3=true:=by decide
  have h3:=he.clean (by omega)
  have h4:=h.numbers he
  have h5:decide (e.most > Zdn r)=false:=decide_eq_false (by have:=he.most (Zqx r);omega)
  unfold Zd0
  simp only[Zcy,h2,h3,h4,h5,h.num ht]
  rfl
def Zx5(l:List Pt)(i:Nat):Bool:=match l[i - 1]? with
 | some q=>q.k == 1
 | none=>false
theorem Zqy(s:Sc)(r:Ru)(l:List Pt)(i:Nat)(p:Pt):ZlW s r l i p=Zcy [(307,!ZfS p||(decide (i > 0)&&(p.k == 1&&Zx5 l i))),(308,(p.k == 2&&!(Zhw s p.s).2)||(p.k == 4&&!Zdx s p.e)),(309,(p.k == 3&&decide (p.g > Zdn r))||(p.k == 4&&decide (p.e.most > Zdn r)))]:=rfl
theorem MkC.part{s:Sc}(h:MkC s){r:Ru}{l:List Pt}(hl:MkT (Zdn r) l){i:Nat}{p:Pt}(hp:l[i]?=some p):ZlW s r l i p=0:=by
 have hz:=Zwq
 have h0:(decide (i > 0)&&(p.k == 1&&Zx5 l i))=false:=by
  cases i with
  | zero=>rfl
  | succ i=>
   unfold Zx5
   rw[Nat.add_sub_cancel]
   cases hq:l[i]? with
   | none=>simp
   | some q=>
    have:=hl.ll i q p hq hp
    simp only[Bool.and_eq_false_iff]
    refine .inr ?_
    by_cases h1:p.k=1
    ·refine .inr ?_
     simp
     exact λh2=>this h2 h1
    ·refine .inl ?_
     simpa using h1
 have hm:=hl.all p (zA2 hp)
 rw[Zqy,h0]
 cases hm with
 | lit t ht=>
  have h1:ZfS ⟨1,t,0,E0⟩=true:=by simp[ZfS,hz];omega
  rw[h1];rfl
 | var t ht=>
  have h1:ZfS ⟨2,t,0,E0⟩=true:=by
   have:ZfR t=true:=by
    rcases ht with ht|ht
    ·exact Zqv _ ht
    ·exact Ztv _ ht
   simp[ZfS,hz,this]
  have h2:(Zhw s t).2=true:=by
   rcases ht with ht|ht
   ·rw[h.num ht]
   ·rw[h.txt ht]
  rw[h1]
  simp[Zcy,h2]
 | cap g hg=>
  have h1:ZfS ⟨3,.empty,g,E0⟩=true:=by simp[ZfS,hz,ZaS];omega
  have h2:decide (g > Zdn r)=false:=decide_eq_false (by omega)
  rw[h1]
  simp only[Zcy,h2];rfl
 | clc e he=>
  have h1:ZfS ⟨4,.empty,0,e⟩=true:=by simp[ZfS,he.clean,ZaS]
  have h2:decide (e.most > Zdn r)=false:=decide_eq_false (by have:=he.most (Zqx r);omega)
  have h3:=h.numbers he
  rw[h1]
  simp only[Zcy,h2,h3];rfl
theorem MkC.at0{s:Sc}(h:MkC s):∀p∈s.places,atS s p=0:=by
 intro p hp
 have hT:∀{r:Ru} {a:Ac},MkA (Zdn r) a->∀{n:Nat} {q:Pt},a.parts[n]?=some q->ZlW s r a.parts n q=0:=λ{r a} ha {n q} hq=>by
  cases ha with
  | send _ _ l hl=>exact h.part hl hq
  | set _ _ _ _ l hl=>exact h.part hl hq
  | let_ _ _ e _=>simp at hq
 rcases Zns s p hp with⟨i,hi,v,hv⟩|⟨hv,hs|⟨i,hi,x,hx,hr|⟨k,hk,r,hr,ha|⟨j,hj,a,ha,hq|⟨n,hn,q,hq⟩⟩⟩⟩⟩
 ·have e:atS s p=ZcJ s i v:=by
   unfold atS
   rw[if_pos (by omega),show p.v.toNat=i by omega,hv]
  rw[e];exact h.var hv
 all_goals have hv':¬p.v ≥ 0:=by omega
 ·unfold atS
  rw[if_neg hv',if_pos hs];exact h.whole
 all_goals
  have hs':¬p.s < 0:=by omega
  have lO:p.s.toNat=i:=by omega
  have hm:=h.all i x hx
 ·have e:atS s p=Znq s i x:=by
   unfold atS
   rw[if_neg hv',if_neg hs',lO,hx]
   exact if_pos hr
  rw[e];exact h.stateOk hx
 all_goals
  have hr':¬p.r < 0:=by omega
  have iN:p.r.toNat=k:=by omega
  have hR:=hm.all r (zA2 hr)
 ·have e:atS s p=Zqq s r (Rx.totals s i k):=by
   unfold atS
   rw[if_neg hv',if_neg hs',lO,hx]
   show(if p.r < 0 then _ else _)=_
   rw[if_neg hr',iN,hr]
   exact if_pos ha
  rw[e];exact h.rule hR (h.totals i k)
 all_goals
  have ha':¬p.a < 0:=by omega
  have lp:p.a.toNat=j:=by omega
  have hA:=hR.all a (zA2 ‹r.acts[j]?=some a›)
 ·have e:atS s p=Zd0 s r a:=by
   unfold atS
   rw[if_neg hv',if_neg hs',lO,hx]
   show(if p.r < 0 then _ else _)=_
   rw[if_neg hr',iN,hr]
   show(if p.a < 0 then _ else _)=_
   rw[if_neg ha',lp,‹r.acts[j]?=some a›]
   exact if_pos hq
  rw[e];exact h.action hA
 ·have e:atS s p=ZlW s r a.parts n q:=by
   unfold atS
   rw[if_neg hv',if_neg hs',lO,hx]
   show(if p.r < 0 then _ else _)=_
   rw[if_neg hr',iN,hr]
   show(if p.a < 0 then _ else _)=_
   rw[if_neg ha',lp,‹r.acts[j]?=some a›]
   show(if p.p < 0 then _ else _)=_
   rw[if_neg (by omega),show p.p.toNat=n by omega,hq]
  rw[e];exact hT hA hq
theorem MkC.problems{s:Sc}(h:MkC s):s.problems=[]:=by
 unfold Sc.problems
 rw[List.filterMap_eq_nil_iff]
 intro p hp
 rw[if_pos (h.at0 p hp)]
theorem MkC.check{s:Sc}(h:MkC s):s.check=(top,0):=by
 unfold Sc.check
 rw[if_pos h.light,h.problems]
structure F26 (t:T)(l:List T):Prop where
 f:F t l
 n:(t.k=4/\t.nodes.length+szL l<=26)\/t.nodes.length+szL l<=25
theorem F26.done{t:T}(h:F26 t []):t.check=0/\t.nodes.length<=26:=by
 refine⟨h.f.done,?_⟩
 have:szL []=0:=rfl
 rcases h.n with h|h <;> omega
theorem F26.step{t x:T}{l:List T}(h:F26 t (x::l))(a:Option Addr)(c:Nat):F26 (ZeZ 4 a c (Za0 4 t++Za0 4 x)) l:=by
 refine⟨h.f.step a c,?_⟩
 have hn:=h.n
 rw[Zep]at hn
 have ht:=Zi5 t
 have hx:=Zi5 x
 have e1:szL (Za0 4 t)<=if t.k=4 then szL t.subs else t.nodes.length:=by
  unfold Za0
  split
  ·exact Nat.le_refl _
  ·rw[if_neg (by omega),Za9];exact Nat.le_refl _
 have e2:szL (Za0 4 x)<=x.nodes.length:=by
  unfold Za0
  split
  ·omega
  ·rw[if_neg (by omega),Za9];exact Nat.le_refl _
 have e3:szL (Za0 4 t++Za0 4 x)=szL (Za0 4 t)+szL (Za0 4 x):=ZaG _ _
 generalize Za0 4 t++Za0 4 x=L at e3
 have hA:szL L<=t.nodes.length+x.nodes.length/\(t.k=4->szL L+1<=t.nodes.length+x.nodes.length):=by
  refine⟨?_,λh4=>?_⟩
  ·split at e1 <;> omega
  ·rw[if_pos h4]at e1;omega
 match L,hA with
 | [],_=>
  refine .inr ?_
  show T1.nodes.length+_<=_
  have:T1.nodes.length=1:=rfl
  rcases hn with⟨_,hn⟩|hn <;> omega
 | [y],hA=>
  refine .inr ?_
  show y.nodes.length+_<=_
  rw[Za9]at hA
  rcases hn with⟨h4,hn⟩|hn
  ·have:=hA.2 h4;omega
  ·omega
 | y::z::r,hA=>
  refine .inl ⟨rfl,?_⟩
  rw[Zi5]
  show 1+szL (y::z::r)+_<=_
  rcases hn with⟨h4,hn⟩|hn
  ·have:=hA.2 h4;omega
  ·omega
theorem F26.start{i u g}{t:T}{l:List T}(h:J i (t::l) u g)(hi:i<=25):F26 t l:=⟨F.start h hi,.inr (by have:=h.sz;rw[Zep]at this;omega)⟩
theorem F26.leaf{t:T}(h1:F t [])(h2:t.nodes.length=1):F26 t []:=⟨h1,.inr (by have:szL []=0:=rfl;omega)⟩
structure PE (ts:List E)(i:Nat):Prop where
 all:∀x∈Zam ts,okN 9 x
 sz:(Zam ts).length<=i
theorem Zb6(t:E):Zam [t]=t.nodes:=by simp[Zam]
theorem PE.zero:PE [] 0:=⟨by simp[Zam],by simp[Zam]⟩
theorem PE.skip{ts i}(h:PE ts i):PE ts (i+1):=⟨h.all,by have:=h.sz;omega⟩
theorem PE.push{ts i}{t:E}(h:PE ts i)(ht:MkE 9 1 t):PE (ts++[t]) (i+1):=by
 refine⟨λx hx=>?_,?_⟩
 ·rw[ZaX,Zb6]at hx
  rcases List.mem_append.1 hx with hx|hx
  ·exact h.all x hx
  ·exact ht.all x hx
 ·rw[ZaX,Zb6,zA1]
  have:=h.sz;have:=ht.len;omega
theorem PE.neg{r:List E}{x:E}{i:Nat}(h:PE (r++[x]) i)(hk:x.k≠8)(a:Option Addr)(d:Nat):PE (r++[ZxD a d x]) (i+1):=by
 have h1:=h.all;have h2:=h.sz
 rw[ZaX,Zb6]at h1 h2
 rw[zA1]at h2
 have hm:MkE 9 (x.nodes.length+1) (ZxD a d x):=Zwn ⟨λz hz=>h1 z (List.mem_append_right _ hz),Nat.le_refl _⟩ hk
 refine⟨λz hz=>?_,?_⟩
 ·rw[ZaX,Zb6]at hz
  rcases List.mem_append.1 hz with hz|hz
  ·exact h1 z (List.mem_append_left _ hz)
  ·exact hm.all z hz
 ·rw[ZaX,Zb6,zA1]
  have:=hm.len;omega
theorem PE.op{r:List E}{x y:E}{i:Nat}(h:PE (r++[x,y]) i){k:Int}(hk:2<=k/\k<=7)(a:Option Addr)(d:Nat):PE (r++[opE k a d x y]) (i+1):=by
 have h1:=h.all;have h2:=h.sz
 rw[ZaX,show Zam [x,y]=x.nodes++y.nodes by simp[Zam]]at h1 h2
 rw[zA1,zA1]at h2
 have hm:MkE 9 (x.nodes.length+y.nodes.length+1) (opE k a d x y):=Zwo hk ⟨λz hz=>h1 z (List.mem_append_right _ (List.mem_append_left _ hz)),Nat.le_refl _⟩ ⟨λz hz=>h1 z (List.mem_append_right _ (List.mem_append_right _ hz)),Nat.le_refl _⟩
 refine⟨λz hz=>?_,?_⟩
 ·rw[ZaX,Zb6]at hz
  rcases List.mem_append.1 hz with hz|hz
  ·exact h1 z (List.mem_append_left _ hz)
  ·exact hm.all z hz
 ·rw[ZaX,Zb6,zA1]
  have:=hm.len;omega
theorem Zku(t:E):1<=t.nodes.length:=by rw[Zbf,List.length_cons];omega
theorem Zd2(l:List E):l.length<=(Zam l).length:=by
 induction l with
 | nil=>simp
 | cons t l ih=>
  have:=Zku t
  simp only[Zam,List.length_cons,zA1];omega
structure QE (t:E)(l:List E)(b:Nat):Prop where
 all:∀x∈t.nodes,okN 9 x
 alls:∀x∈Zam l,okN 9 x
 sz:t.nodes.length+(Zam l).length+l.length<=b
theorem QE.start{t:E}{l:List E}{i:Nat}(h:PE (t::l) i):QE t l (2*i):=by
 have h1:=h.all;have h2:=h.sz
 simp only[Zam,zA1]at h1 h2
 have:=Zd2 l
 exact⟨λx hx=>h1 x (List.mem_append_left _ hx),λx hx=>h1 x (List.mem_append_right _ hx),by omega⟩
theorem QE.step{t x:E}{l:List E}{b:Nat}(h:QE t (x::l) b)(a:Option Addr)(d:Nat):QE (opE 2 a d t x) l b:=by
 have h1:=h.alls;have h2:=h.sz
 simp only[Zam,zA1,List.length_cons]at h1 h2
 have hm:MkE 9 (t.nodes.length+x.nodes.length+1) (opE 2 a d t x):=Zwo (by omega) ⟨h.all,Nat.le_refl _⟩ ⟨λz hz=>h1 z (List.mem_append_left _ hz),Nat.le_refl _⟩
 exact⟨hm.all,λz hz=>h1 z (List.mem_append_right _ hz),by have:=hm.len;omega⟩
theorem QE.done{t:E}{b:Nat}(h:QE t [] b):MkE 9 b t:=⟨h.all,by have:=h.sz;omega⟩
structure BoE (c:Int)(e u:E):Prop where
 all:∀x∈u.nodes,okN c x
 len:u.nodes.length<=e.nodes.length
 k8:u.k=8↔e.k=8
theorem Zqz{c:Int}:∀{l r:List E},l.length=r.length->(∀(i:Nat)(x y:E),l[i]?=some x->r[i]?=some y->BoE c x y)->(∀z∈Zam r,okN c z)/\(Zam r).length<=(Zam l).length/\Zsc r=Zsc l
 | [],[],_,_=>⟨by simp[Zam],Nat.le_refl _,rfl⟩
 | [],_::_,h,_=>by simp at h
 | _::_,[],h,_=>by simp at h
 | x::l,y::r,h,hb=>by
  have h0:=hb 0 x y rfl rfl
  obtain⟨h1,h2,_⟩:=Zqz (l:=l) (r:=r) (by simpa using h) (λi x' y' hx hy=>hb (i+1) x' y' (by simpa using hx) (by simpa using hy))
  refine⟨λz hz=>?_,?_,?_⟩
  ·simp only[Zam]at hz
   rcases List.mem_append.1 hz with hz|hz
   ·exact h0.all z hz
   ·exact h1 z hz
  ·simp only[Zam,zA1];have:=h0.len;omega
  ·show(y.k == 8)=(x.k == 8)
   rw[Bool.eq_iff_iff];simpa using h0.k8
theorem Zuv{c:Int}{k:Int}{x:Nat}{s:ByteArray}{g:Int}{a a':Option Addr}{d d':Nat}{l r:List E}(h:okN 9 (.node k x s g a d l))(hk:¬(k=10/\g > c))(hl:l.length=r.length)(hb:∀(i:Nat)(x y:E),l[i]?=some x->r[i]?=some y->BoE c x y):BoE c (.node k x s g a d l) (.node k x s g a' d' r):=by
 obtain⟨h1,h2,h3⟩:=Zqz hl hb
 refine⟨λz hz=>?_,?_,Iff.rfl⟩
 ·simp only[E.nodes,List.mem_cons]at hz
  rcases hz with rfl|hz
  ·refine⟨?_,h.2.1,λe=>?_⟩
   ·have e1:=h.1
    simp only[E.right,E.k,E.s,E.x,E.g,E.subs]at e1 ⊢
    rw[<-hl,h3];exact e1
   ·have e:k=10:=e
    show g<=c
    omega
  ·exact h1 z hz
 ·simp only[E.nodes,List.length_cons];omega
theorem Zws{c:Int}{e:E}{s:ByteArray}(hs:s∈Ziy)(hk:e.k=10):BoE c e (ZxC s):=by
 have h:=Ztx (c:=c) hs
 refine⟨h.all,Nat.le_trans h.len (Zku e),?_⟩
 rw[hk]
 show(9:Int)=8↔_
 omega
theorem BoE.toMk{c:Int}{n:Nat}{e u:E}(h:BoE c e u)(he:e.nodes.length<=n):MkE c n u:=⟨h.all,Nat.le_trans h.len he⟩
end Go.Rx
namespace Go.Rx
open Go Go.Eng Go.RowKit
set_option maxRecDepth 100000
mutual
def T.er:T->T
 | .node k s0 s1 s2 s3 mn mx _ _ l=>.node k s0 s1 s2 s3 mn mx none 0 (erL l)
def erL:List T->List T
 | []=>[]
 | t::l=>t.er::erL l
end
theorem ZqA:∀l:List T,erL l=l.map T.er
 | []=>rfl
 | t::l=>by simp only[erL,List.map_cons,ZqA l]
@[simp] theorem Zx6 (t:T):t.er.k=t.k:=by cases t;rfl
@[simp] theorem ZAt (t:T):t.er.s0=t.s0:=by cases t;rfl
@[simp] theorem ZAu (t:T):t.er.s1=t.s1:=by cases t;rfl
@[simp] theorem ZAv (t:T):t.er.s2=t.s2:=by cases t;rfl
@[simp] theorem ZAw (t:T):t.er.s3=t.s3:=by cases t;rfl
@[simp] theorem ZAx (t:T):t.er.mn=t.mn:=by cases t;rfl
@[simp] theorem ZAy (t:T):t.er.mx=t.mx:=by cases t;rfl
@[simp] theorem Zzm (t:T):t.er.subs=t.subs.map T.er:=by cases t;simp only[T.er,T.subs,ZqA]
mutual
theorem Zl8:∀t:T,t.er.nodes=t.nodes.map T.er
 | .node k s0 s1 s2 s3 mn mx a c l=>by
  simp only[T.er,T.nodes,List.map_cons]
  rw[Zny l]
theorem Zny:∀l:List T,ZaH (erL l)=(ZaH l).map T.er
 | []=>rfl
 | t::l=>by simp only[erL,ZaH,List.map_append,Zl8 t,Zny l]
end
theorem Zi9(t:T):t.er.light=t.light:=by unfold T.light;rw[Zl8,List.length_map]
theorem Ztz(t:T):t.er.size=t.size:=by unfold T.size;rw[Zi9,Zl8,List.length_map]
def T.caps(t:T):Prop:=∀x∈t.nodes,x.subs.length<=x.c
theorem Zsj{k s0 s1 s2 s3 mn mx:Int}{a:Option Addr}{c:Nat}{l:List T}(h:l.length<=c)(hl:∀x∈l,x.caps):(T.node k s0 s1 s2 s3 mn mx a c l).caps:=by
 intro y hy
 rw[Zco]at hy
 rcases List.mem_cons.1 hy with rfl|hy
 ·exact h
 ·obtain⟨x,hx,hy⟩:∃x∈l,y∈x.nodes:=by
   have:∀l:List T,y∈ZaH l->∃x∈l,y∈x.nodes:=λl=>by
    induction l with
    | nil=>intro h;simp[ZaH]at h
    | cons x l ih=>
     intro h
     simp only[ZaH,List.mem_append]at h
     rcases h with h|h
     ·exact⟨x,by simp,h⟩
     ·obtain⟨z,hz,h⟩:=ih h
      exact⟨z,by simp[hz],h⟩
   exact this l hy
  exact hl x hx y hy
theorem Zwt{k s0 s1 s2 s3 mn mx:Int}{a a':Option Addr}{c c':Nat}{l l':List T}(h:l.map T.er=l'.map T.er):(T.node k s0 s1 s2 s3 mn mx a c l).er=(T.node k s0 s1 s2 s3 mn mx a' c' l').er:=by
 simp only[T.er,ZqA,h]
end Go.Rx
namespace Go.Rx
open Go Go.Eng Go.RowKit
def Old(m:Mem)(b:Nat):Prop:=¬m.free b
noncomputable def nw(m m':Mem):Mem:=⟨(m'.off (Old m)).c,λ_=>none⟩
theorem Zec(m m':Mem):(nw m m').le m':=⟨(Mem.off_le m' (Old m)).c,λ_ _ h=>by cases h⟩
theorem Zba{m m':Mem}(h:m.le m'){b:Nat}(hf:m'.free b):m.free b:=λo=>by
 cases he:m b o with
 | none=>rfl
 | some v=>have:=h _ _ _ he;rw[hf o]at this;cases this
theorem Zd3{m m':Mem}(h:m.le m'){b:Nat}(hf:m'.k b=none):m.k b=none:=by
 cases he:m.k b with
 | none=>rfl
 | some v=>have:=h.k _ _ he;rw[hf]at this;cases this
theorem Znz{m m':Mem}{b:Nat}(h:¬m.free b):(nw m m').free b:=λo=>Mem.off_free (m:=m') (Y:=Old m) h o
theorem ZvC{m m':Mem}{b:Nat}(h:m.free b)(o:Nat):nw m m' b o=m' b o:=Mem.off_at (m:=m') (Y:=Old m) (λk=>k h) o
theorem Zc3{m0 m m' m'':Mem}(h1:m0.le m)(h2:m'.le m''):(nw m m').le (nw m0 m''):=⟨λb o v hv=>by
 have hf:m.free b:=Classical.byContradiction λhn=>by rw[Znz hn]at hv;cases hv
 rw[ZvC hf]at hv;rw[ZvC (Zba h1 hf)];exact h2 _ _ _ hv,λb e he=>by cases he⟩
theorem Zja{m m':Mem}{a:Option Addr}{cs:List Value}(h:rowRd m' a cs)(hf:cs=[]\/∀b o,a=some ⟨b,o,none⟩->m.free b):rowRd (nw m m') a cs:=by
 rcases hf with hf|hf
 ·exact .inl hf
 rcases h with h|⟨b,o,ha,h⟩
 ·exact .inl h
 ·exact .inr ⟨b,o,ha,λj v hj=>by rw[ZvC (hf b o ha)];exact h j v hj⟩
theorem ZfT{m m':Mem}{Y:Nat->Prop}(h:m.le m')(hf:∀b,Y b->m.free b/\m.k b=none):m.le (m'.off Y):=⟨λb o v hv=>by
 rw[Mem.off_at (λhy=>by rw[(hf b hy).1 o]at hv;cases hv)];exact h _ _ _ hv,λb e he=>by
 rw[Mem.off_k (λhy=>by rw[(hf b hy).2]at he;cases he)];exact h.k _ _ he⟩
structure Each {α β:Type}(cs:β->List Value)(Q:α->β->Mem->Prop)(m m':Mem)(L:List α)(a:Option Addr)(c:Nat)(L':List β)(μ:Nat->Mem):Prop where
 len:L'.length=L.length
 le:m.le m'
 row:rowRd m' a (L'.map cs).flatten
 q:∀i x y,L[i]?=some x->L'[i]?=some y->Q x y (μ i)
 sub:∀i,i < L.length->(μ i).le (nw m m')
 ap:∀i j,i < j->j < L.length->∀b,(μ i).free b\/(μ j).free b
 blk:(L=[]/\a=none/\c=0)\/(L≠[]/\∃b,a=some ⟨b,0,none⟩/\m.free b/\m.k b=none/\∀i,i < L.length->(μ i).free b/\(μ i).k b=none)
 cap:L'.length<=c
theorem Each.nil{α β:Type}{cs:β->List Value}{Q:α->β->Mem->Prop}(m:Mem):Each cs Q m m ([]:List α) none 0 [] λ_=>m:=
 ⟨rfl,Mem.le_refl m,.inl rfl,by simp,by simp,by simp,.inl ⟨rfl,rfl,rfl⟩,by simp⟩
theorem Each.step{α β:Type}{cs:β->List Value}{Q:α->β->Mem->Prop}{m m':Mem}{L:List α}{k:Nat}{a:Option Addr}{c:Nat}{L':List β}{μ:Nat->Mem}{n:Nat}(hn:∀y,(cs y).length=n)(h0:0 < n)(h:Each cs Q m m' (L.take k) a c L' μ){x:α}(hx:L[k]?=some x)
  {m3:Mem} {y:β} (h3:m'.le m3) (hq:Q x y (nw m' m3)) {b3:Nat} (gA:m3.free b3) {a':Option Addr} {c':Nat} {m4:Mem} (h4:(m3.add b3 (cs y)).le m4) (aB:rowRd m4 a' ((L'++[y]).map cs).flatten) (ht:TokFact (m3.add b3 (cs y)) a a' (L'.length+1) c'):
  Each cs Q m m4 (L.take (k+1)) a' c' (L'++[y]) (λi=>if i=k then nw m' m3 else μ i):=by
 have hk:k < L.length:=(zA0 hx).1
 have e:L.take (k+1)=L.take k++[x]:=by rw[List.take_add_one,hx];rfl
 have lk:(L.take k).length=k:=by rw[List.length_take];omega
 have lk':L'.length=k:=h.len.trans lk
 have add3:m3.le (m3.add b3 (cs y)):=Mem.le_add gA _
 have vt:m3.le m4:=mLt add3 h4
 have gI:m'.le m4:=mLt h3 vt
 have mz:m.le (m3.add b3 (cs y)):=mLt h.le (mLt h3 add3)
 have cN:((L'++[y]).map cs).flatten≠[]:=by
  intro hz
  have:=congrArg List.length hz
  rw[ZaU hn,zA1,List.length_cons]at this
  have h5:0 < (L'.length+(([]:List β).length+1))*n:=Nat.mul_pos (by omega) h0
  rw[this]at h5;exact absurd h5 (by simp)
 have ha':∃b,a'=some ⟨b,0,none⟩/\m.free b/\m.k b=none/\(∀i,i < k->(μ i).free b/\(μ i).k b=none)/\((nw m' m3).free b/\(nw m' m3).k b=none):=by
  rcases ht.2 with h1|⟨b,o,h1,h2⟩
  ·rcases aB with h2|⟨b,o,h2,_⟩
   ·exact absurd h2 cN
   ·rw[h1]at h2;cases h2
  ·rcases h2 with h2|⟨h2,h5,h6⟩
   ·rcases h.blk with⟨_,h7,_⟩|⟨h6,b',h7,h8,h8',h9⟩
    ·rw[h7,h1]at h2;cases h2
    ·rw[h7,h1]at h2
     simp only[Option.some.injEq,Addr.mk.injEq,and_true]at h2
     obtain⟨rfl,rfl⟩:=h2
     have gq:¬m'.free b':=λhf=>by
      rcases h.row with gP|⟨b2,o2,gP,mh⟩
      ·have:=congrArg List.length gP
       rw[ZaU hn,lk']at this
       have pK:k≠0:=λe=>h6 (by rw[e];rfl)
       have rE:0 < k*n:=Nat.mul_pos (by omega) h0
       simp at this;omega
      ·rw[h7]at gP;cases gP
       have pK:k≠0:=λe=>h6 (by rw[e];rfl)
       have rE:0 < k*n:=Nat.mul_pos (by omega) h0
       have aC:0 < (L'.map cs).flatten.length:=by rw[ZaU hn,lk'];exact rE
       have:=mh 0 _ (zA3 aC)
       rw[hf]at this;cases this
     refine⟨b',h1,h8,h8',λi hi=>h9 i (by omega),Znz gq,rfl⟩
   ·subst h2
    have hs:∀i,i < k->(μ i).le (m3.add b3 (cs y)):=λi hi=>mLt (h.sub i (by omega)) (mLt (Zec _ _) (mLt h3 add3))
    have mA:(nw m' m3).le (m3.add b3 (cs y)):=mLt (Zec _ _) add3
    exact⟨b,h1,Zba mz h5,Zd3 mz h6,λi hi=>⟨Zba (hs i hi) h5,Zd3 (hs i hi) h6⟩,Zba mA h5,Zd3 mA h6⟩
 obtain⟨b,hb,eG,gj,fN,pg⟩:=ha'
 refine⟨by rw[zA1,List.length_take,lk'];simp;omega,mLt h.le gI,aB,λi u v hu hv=>?_,λi hi=>?_,λi j rF hj b'=>?_,.inr ⟨by rw[e];simp,b,hb,eG,gj,λi hi=>?_⟩,by have:=ht.1;rw[zA1];exact this⟩
 ·rw[e]at hu
  by_cases jQ:i=k
  ·subst jQ
   rw[zA4 (by omega),lk,Nat.sub_self]at hu
   rw[zA4 (by omega),lk',Nat.sub_self]at hv
   cases hu;cases hv
   rw[if_pos rfl];exact hq
  ·have hi:i < k:=by
    have:=(zA0 hu).1
    rw[zA1,lk]at this;simp at this;omega
   rw[zA5 (by omega)]at hu hv
   rw[if_neg jQ];exact h.q i u v hu hv
 ·by_cases jQ:i=k
  ·subst jQ;rw[if_pos rfl];exact Zc3 h.le vt
  ·rw[if_neg jQ]
   rw[List.length_take]at hi
   exact mLt (h.sub i (by omega)) (Zc3 (Mem.le_refl m) gI)
 ·rw[List.length_take]at hj
  by_cases vu:j=k
  ·subst vu
   rw[if_neg (by omega),if_pos rfl]
   by_cases hf:(μ i).free b'
   ·exact .inl hf
   ·exact .inr (Znz λqb=>hf (Zba (mLt (h.sub i (by omega)) (Zec _ _)) qb))
  ·rw[if_neg (by omega),if_neg vu];exact h.ap i j rF (by omega) b'
 ·by_cases jQ:i=k
  ·subst jQ;rw[if_pos rfl];exact pg
  ·rw[if_neg jQ];rw[List.length_take]at hi;exact fN i (by omega)
section
variable {α β:Type} {cs:β->List Value} {Q:α->β->Mem->Prop} {m m':Mem} {L:List α} {a:Option Addr} {c:Nat} {L':List β} {μ:Nat->Mem} (h:Each cs Q m m' L a c L' μ)
include h
theorem Each.rows:rowRd (nw m m') a (L'.map cs).flatten:=Zja h.row (by
 rcases h.blk with⟨h1,_⟩|⟨_,b,hb,hf,_⟩
 ·left
  have:L'=[]:=List.eq_nil_of_length_eq_zero (by rw[h.len,h1];rfl)
  rw[this];rfl
 ·exact .inr λb' o e=>by rw[hb]at e;cases e;exact hf)
theorem Each.at{y:β}(hy:y∈L'):∃i x,L[i]?=some x/\L'[i]?=some y/\Q x y (μ i)/\(μ i).le (nw m m'):=by
 obtain⟨i,hi⟩:=List.getElem?_of_mem hy
 have aC:i < L.length:=by rw[<-h.len];exact(zA0 hi).1
 exact⟨i,L[i],zA3 aC,hi,h.q i _ _ (zA3 aC) hi,h.sub i aC⟩
theorem Each.same{γ:Type}{f:α->γ}{g:β->γ}(hs:∀x y μ,Q x y μ->g y=f x):L'.map g=L.map f:=by
 refine List.ext_getElem (by simp[h.len]) λi h1 h2=>?_
 simp only[List.length_map]at h1 h2
 rw[List.getElem_map,List.getElem_map]
 exact hs _ _ _ (h.q i _ _ (zA3 h2) (zA3 h1))
end
def ZqB{α β:Type}(cs:β->List Value)(Q:α->β->Mem->Prop)(m:Mem)(L:List α):Value->Mem->List (List Value)->Prop:=λv m' _=>∃a c L' μ,v=.slice a L'.length c/\Each cs Q m m' L a c L' μ
theorem Ze0{α β:Type}{cs:β->List Value}{Q:α->β->Mem->Prop}{m:Mem}{L:List α}:∀(v:Value)(m':Mem) (css:List (List Value)),ZqB cs Q m L v m' css->Shape.fits .slice v=true:=λv _ _ ⟨_,_,_,_,h,_⟩=>by rw[h];rfl
mutual
def E.er:E->E
 | .node k x s g _ _ l=>.node k x s g none 0 (ZvH l)
def ZvH:List E->List E
 | []=>[]
 | t::l=>t.er::ZvH l
end
theorem Zl9:∀l:List E,ZvH l=l.map E.er
 | []=>rfl
 | t::l=>by simp only[ZvH,List.map_cons,Zl9 l]
@[simp] theorem ZAz (t:E):t.er.k=t.k:=by cases t;rfl
@[simp] theorem ZAA (t:E):t.er.x=t.x:=by cases t;rfl
@[simp] theorem ZAB (t:E):t.er.s=t.s:=by cases t;rfl
@[simp] theorem ZAC (t:E):t.er.g=t.g:=by cases t;rfl
@[simp] theorem Zx7 (t:E):t.er.subs=t.subs.map E.er:=by cases t;simp only[E.er,E.subs,Zl9]
mutual
theorem Ze1:∀t:E,t.er.nodes=t.nodes.map E.er
 | .node k x s g a c l=>by
  simp only[E.er,E.nodes,List.map_cons]
  rw[Zkv l]
theorem Zkv:∀l:List E,Zam (ZvH l)=(Zam l).map E.er
 | []=>rfl
 | t::l=>by simp only[ZvH,Zam,List.map_append,Ze1 t,Zkv l]
end
theorem Ze2(t:E):t.er.light=t.light:=by unfold E.light;rw[Ze1,List.length_map]
theorem Zuw(t:E):t.er.size=t.size:=by unfold E.size;rw[Ze2,Ze1,List.length_map]
theorem Zzn(t:E):nE t.er=nE t:=by unfold nE;rw[Ze2,Zuw]
def Pt.er(p:Pt):Pt:=⟨p.k,p.s,p.g,p.e.er⟩
def Ac.er(a:Ac):Ac:=⟨a.k,a.s,none,0,a.parts.map Pt.er,a.e.er⟩
def Ru.er(r:Ru):Ru:=⟨r.k,r.bg,r.en,r.t.er,r.s,r.n,none,0,r.acts.map Ac.er,r.go,r.code⟩
def Sta.er(x:Sta):Sta:=⟨x.s,none,0,x.rules.map Ru.er⟩
def Sc.er(s:Sc):Sc:=⟨s.n,none,0,s.vars,none,0,s.states.map Sta.er⟩
theorem ZcL{α:Type}(f:α->Int)(g:α->α)(h:∀x,f (g x)=f x)(l:List α):Zaw ((l.map g).map f)=Zaw (l.map f):=by
 rw[List.map_map];congr 1;exact List.map_congr_left λx _=>h x
theorem ZzQ(a:Ac):wA a.er=wA a:=by
 unfold wA
 show 1+nE a.e.er+((a.parts.map Pt.er).length:Int)+Zaw ((a.parts.map Pt.er).map λp=>nE p.e)=_
 rw[Zzn,List.length_map,ZcL (λp:Pt=>nE p.e) Pt.er (λp=>Zzn p.e)]
theorem ZzR(r:Ru):wR r.er=wR r:=by
 unfold wR
 show 1+Zga r.t.er.size 20000+(if r.t.er.light then 0 else 20001)+Zaw ((r.acts.map Ac.er).map wA)=_
 rw[Ztz,Zi9,ZcL wA Ac.er ZzQ]
theorem ZzS(x:Sta):wS x.er=wS x:=ZcL wR Ru.er ZzR x.rules
theorem Zsk(s:Sc):s.er.weight=s.weight:=by
 unfold Sc.weight
 show(s.vars.length:Int)+((s.states.map Sta.er).length:Int)+Zaw ((s.states.map Sta.er).map wS)=_
 rw[List.length_map,ZcL wS Sta.er ZzS]
theorem Zjb(s:Sc):s.er.light=s.light:=by unfold Sc.light;rw[Zsk]
theorem ZcM{s s':Sc}(h:s'.er=s.er):s'.light=s.light:=by rw[<-Zjb s',h,Zjb]
theorem Zkw{α:Type}(f:α->Int)(hf:∀x,0<=f x){l:List α}{x:α}(hx:x∈l):f x<=Zaw (l.map f):=by
 induction l with
 | nil=>cases hx
 | cons y l ih=>
  have h1:=ZcS f hf l
  have h2:=hf y
  simp only[List.map_cons,Zaw]
  rcases List.mem_cons.1 hx with rfl|hx
  ·omega
  ·have:=ih hx;omega
def LtA(a:Ac):Prop:=a.e.light=true/\∀p∈a.parts,p.e.light=true
def LtR(r:Ru):Prop:=r.t.light=true/\∀a∈r.acts,LtA a
theorem Zzo{e:E}(h:nE e<=20000):e.light=true:=by
 cases hl:e.light with
 | true=>rfl
 | false=>unfold nE at h;rw[hl]at h;simp at h
theorem Zyv{a:Ac}(h:wA a<=20000):LtA a:=by
 unfold wA at h
 have h1:=ZfB a.e
 have h2:=ZcS (λp:Pt=>nE p.e) (λp=>(ZfB p.e).1) a.parts
 exact⟨Zzo (by omega),λp hp=>Zzo (by have:=Zkw (λp:Pt=>nE p.e) (λp=>(ZfB p.e).1) hp;omega)⟩
theorem Zyw{r:Ru}(h:wR r<=20000):LtR r:=by
 unfold wR at h
 have h1:=(ZfC r.t).1
 have h2:=ZcS wA Zqo r.acts
 have h3:0<=Zga r.t.size 20000:=by unfold Zga;split <;> omega
 refine⟨?_,λa ha=>Zyv (by have:=Zkw wA Zqo ha;split at h <;> omega)⟩
 cases hl:r.t.light with
 | true=>rfl
 | false=>rw[hl]at h;simp at h;omega
theorem Zsl{s:Sc}(h:s.light=true):∀x∈s.states,∀r∈x.rules,LtR r:=λx hx r hr=>Zyw (by
 have h1:s.weight<=20000:=zA6 h
 unfold Sc.weight at h1
 have h2:=Zkw wS Zx2 hx
 have h3:wR r<=wS x:=Zkw wR Zwk hr
 omega)
def QP(p q:Pt)(μ:Mem):Prop:=q.er=p.er/\RepP μ q
def QA(p q:Ac)(μ:Mem):Prop:=q.er=p.er/\RepA μ q
def QR(p q:Ru)(μ:Mem):Prop:=q.er=p.er/\RepR μ q
def ZAD(m μ:Mem)(y:Sta):Prop:=y.rules.length<=y.rc/\(y.rules=[]\/∃b,y.ra=some ⟨b,0,none⟩/\m.free b/\m.k b=none/\∀r∈y.rules,RepR (μ.off λk=>k=b) r)
def QS(m:Mem)(x y:Sta)(μ:Mem):Prop:=y.er=x.er/\RepS μ y/\ZAD m μ y
structure SepC (m m':Mem)(s:Sc)(b:Nat)(μ:Nat->Mem):Prop where
 sa:s.sa=some ⟨b,0,none⟩
 free:m.free b/\m.k b=none
 all:∀i x,s.states[i]?=some x->RepS (μ i) x/\ZAD m (μ i) x/\(μ i).le (nw m m')/\(μ i).free b
 ap:∀i j,i < j->j < s.states.length->∀b',(μ i).free b'\/(μ j).free b'
 va:∃μv:Mem,rowRd μv s.va (s.vars.map Va.cs).flatten/\μv.le (nw m m')/\μv.free b/\∀i,i < s.states.length->∀b',μv.free b'\/(μ i).free b'
theorem Zsm{m0 m m' M:Mem}{x:Ac}{a:Option Addr}{c:Nat}{L':List Pt}{μ:Nat->Mem}{e:E}(hx:RepA m0 x)(h:Each Pt.cs QP m m' x.parts a c L' μ)(hM:(nw m m').le M)(he:RepE M e):RepA M ⟨x.k,x.s,a,c,L',e⟩:=
 ⟨hx.k,hx.s,by rw[h.len];exact hx.n,h.rows.mono hM,λp hp=>by
  obtain⟨i,y,_,_,hq,hs⟩:=h.at hp
  exact hq.2.mono (mLt hs hM),he⟩
theorem Zsn{m0 m m' M:Mem}{x:Ru}{a:Option Addr}{c:Nat}{L':List Ac}{μ:Nat->Mem}{t:T}(hx:RepR m0 x)(h:Each Ac.cs QA m m' x.acts a c L' μ)(hM:(nw m m').le M)(ht:Rep M t):RepR M ⟨x.k,x.bg,x.en,t,x.s,x.n,a,c,L',x.go,x.code⟩:=
 ⟨hx.k,ht,hx.s,hx.n,by rw[h.len];exact hx.len,h.rows.mono hM,λp hp=>by
  obtain⟨i,y,_,_,hq,hs⟩:=h.at hp
  exact hq.2.mono (mLt hs hM),hx.go,hx.code⟩
theorem Zim{m m':Mem}{Y:Nat->Prop}(h:m.le m'):(m.off Y).le (m'.off Y):=⟨λb o v hv=>by
 by_cases hy:Y b
 ·rw[Mem.off_free hy]at hv;cases hv
 ·rw[Mem.off_at hy]at hv ⊢;exact h _ _ _ hv,λb e he=>by
 by_cases hy:Y b
 ·rw[Mem.off_kn hy]at he;cases he
 ·rw[Mem.off_k hy]at he ⊢;exact h.k _ _ he⟩
theorem QS.mono{m0 μ μ':Mem}{x y:Sta}(h:QS m0 x y μ)(hm:μ.le μ'):QS m0 x y μ':=
 ⟨h.1,h.2.1.mono hm,h.2.2.1,h.2.2.2.imp_right λ⟨b,h1,h2,h3,h4⟩=>⟨b,h1,h2,h3,λr hr=>(h4 r hr).mono (Zim hm)⟩⟩
theorem Zwu{m0 m m':Mem}{x:Sta}{a:Option Addr}{c:Nat}{L':List Ru}{μ:Nat->Mem}(h0:m0.le m)(hx:RepS m x)(h:Each Ru.cs QR m m' x.rules a c L' μ):QS m0 x ⟨x.s,a,c,L'⟩ (nw m m'):=by
 refine⟨?_,⟨hx.s,by rw[h.len];exact hx.len,h.rows,λp hp=>by
  obtain⟨i,y,_,_,hq,hs⟩:=h.at hp
  exact hq.2.mono hs⟩,h.cap,?_⟩
 ·simp only[Sta.er,Sta.mk.injEq,true_and]
  exact h.same λx y μ hq=>hq.1
 ·rcases h.blk with⟨h1,_⟩|⟨_,b,hb,hf,hk,hμ⟩
  ·exact .inl (List.eq_nil_of_length_eq_zero (by rw[h.len,h1];rfl))
  ·refine .inr ⟨b,hb,Zba h0 hf,Zd3 h0 hk,λr hr=>?_⟩
   obtain⟨i,y,hi,_,hq,hs⟩:=h.at hr
   exact hq.2.mono (ZfT hs λb' e=>by rw[e];exact hμ i (zA0 hi).1)
end Go.Rx
namespace Go.Rx
open Go Go.Eng
def ZzT(l:List Ru)(key:Ru->Int)(o:Option Nat)(x:Ru):Bool:=match o with
 | none=>true
 | some t=>match l[t]? with
  | some y=>decide (key x < key y)
  | none=>false
def Zwv(l:List Ru)(cnt:Ru->Bool)(key:Ru->Int):Nat->Option Nat
 | 0=>none
 | i+1=>match l[i]? with
  | none=>Zwv l cnt key i
  | some x=>if cnt x&&ZzT l key (Zwv l cnt key i) x then some i else Zwv l cnt key i
def ZAE(l:List Ru)(cnt:Ru->Bool)(key:Ru->Int):Option Nat:=Zwv l cnt key l.length
def ZAQ(r:Ru):Bool:=r.k == 4
def ZAR(r:Ru):Bool:=r.k == 3
def ZAS(r:Ru):Int:=r.n
def ZAT(_:Ru):Int:=0
def toO(x:Sta):Option Nat:=ZAE x.rules ZAQ ZAS
def eoO(x:Sta):Option Nat:=ZAE x.rules ZAR ZAT
def ZAF(o:Option Nat):Int:=(o.getD 0:Nat)
def ZtA(x:Sta)(k:Nat)(r:Ru):Bool:=(r.k == 4&&!((k:Int) == ZAF (toO x)))||(r.k == 3&&!((k:Int) == ZAF (eoO x)))
abbrev Dd:=Int×Int
def ZqC(i:Nat)(x:Sta):Nat->List Dd
 | 0=>[]
 | k+1=>ZqC i x k++(match x.rules[k]? with
  | some r=>if ZtA x k r then[((i:Int),(k:Int))]else[]
  | none=>[])
def deadU(s:Sc):Nat->List Dd
 | 0=>[]
 | i+1=>deadU s i++(match s.states[i]? with
  | some x=>ZqC i x x.rules.length
  | none=>[])
def Zww(s:Sc):List Dd:=deadU s s.states.length
theorem Zjc{i:Nat}{x:Sta}{d:Dd}:∀{k:Nat},d∈ZqC i x k↔d.1=i/\∃j r,j < k/\x.rules[j]?=some r/\ZtA x j r=true/\d.2=j
 | 0=>by simp[ZqC]
 | k+1=>by
  rw[ZqC,List.mem_append,Zjc (k:=k)]
  constructor
  ·rintro(⟨h1,j,r,h2,h3⟩|h)
   ·exact⟨h1,j,r,by omega,h3⟩
   ·split at h
    ·rename_i r hr
     split at h
     ·rename_i hb
      rw[List.mem_singleton]at h;subst h
      exact⟨rfl,k,r,by omega,hr,hb,rfl⟩
     ·cases h
    ·cases h
  ·rintro⟨h1,j,r,h2,h3,h4,h5⟩
   rcases Nat.lt_or_ge j k with hj|hj
   ·exact .inl ⟨h1,j,r,hj,h3,h4,h5⟩
   ·obtain rfl:j=k:=by omega
    refine .inr ?_
    rw[h3]
    show d∈(if ZtA x j r=true then _ else _)
    rw[if_pos h4,List.mem_singleton]
    exact Prod.ext h1 h5
theorem ZnA{s:Sc}{d:Dd}:∀{n:Nat},d∈deadU s n↔∃i x j r,i < n/\s.states[i]?=some x/\x.rules[j]?=some r/\ZtA x j r=true/\d=((i:Int),(j:Int))
 | 0=>by simp[deadU]
 | n+1=>by
  rw[deadU,List.mem_append,ZnA (n:=n)]
  constructor
  ·rintro(⟨i,x,j,r,h1,h2⟩|h)
   ·exact⟨i,x,j,r,by omega,h2⟩
   ·split at h
    ·rename_i x hx
     obtain⟨h1,j,r,h2,h3,h4,h5⟩:=Zjc.1 h
     exact⟨n,x,j,r,by omega,hx,h3,h4,Prod.ext h1 h5⟩
    ·cases h
  ·rintro⟨i,x,j,r,h1,h2,h3,h4,h5⟩
   rcases Nat.lt_or_ge i n with hi|hi
   ·exact .inl ⟨i,x,j,r,hi,h2,h3,h4,h5⟩
   ·obtain rfl:i=n:=by omega
    refine .inr ?_
    rw[h2]
    exact Zjc.2 ⟨by rw[h5],j,r,(zA0 h3).1,h3,h4,by rw[h5]⟩
theorem Zux{s:Sc}{d:Dd}:d∈Zww s↔∃(i:Nat)(x:Sta)(j:Nat)(r:Ru),s.states[i]?=some x/\x.rules[j]?=some r/\ZtA x j r=true/\d=((i:Int),(j:Int)):=by
 unfold Zww
 rw[ZnA]
 constructor
 ·rintro⟨i,x,j,r,_,h⟩;exact⟨i,x,j,r,h⟩
 ·rintro⟨i,x,j,r,h,h'⟩;exact⟨i,x,j,r,(zA0 h).1,h,h'⟩
theorem ZnB(i:Nat)(x:Sta):∀k,(ZqC i x k).length<=k
 | 0=>by simp[ZqC]
 | k+1=>by
  rw[ZqC,zA1]
  have:=ZnB i x k
  split
  ·split <;> simp <;> omega
  ·simp;omega
end Go.Rx
namespace Go.Rx
open Go Go.Eng Go.RowKit
def ZfF(x:Sta)(k:Nat):Sta:=⟨x.s,x.ra,x.rc,x.rules.eraseIdx k⟩
def Zin(s:Sc)(i k:Nat):Sc:=match s.states[i]? with
 | some x=>⟨s.n,s.va,s.vc,s.vars,s.sa,s.sc,s.states.set i (ZfF x k)⟩
 | none=>s
def ZfU(s:Sc)(i k:Int):Bool:=s.light&&(decide (i ≥ 0)&&(decide (i < s.states.length)&&(decide (k ≥ 0)&&match s.states[i.toNat]? with
 | some x=>decide (k < x.rules.length)
 | none=>false)))
theorem Ze3{s s':Sc}(h:s'.er=s.er):s'.states.map Sta.er=s.states.map Sta.er:=congrArg Sc.states h
theorem Zwx{s s':Sc}(h:s'.er=s.er){i:Nat}{x:Sta}(hx:s.states[i]?=some x):∃x',s'.states[i]?=some x'/\x'.er=x.er:=by
 have:=congrArg (λl=>l[i]?) (Ze3 h)
 simp only[List.getElem?_map,hx,Option.map_some]at this
 obtain⟨x',h1,h2⟩:=Option.map_eq_some_iff.1 this
 exact⟨x',h1,h2⟩
theorem Zuy{s s':Sc}(h:s'.er=s.er):s'.states.length=s.states.length:=by
 have:=congrArg List.length (Ze3 h);simpa using this
theorem ZfG{x x':Sta}(h:x'.er=x.er):x'.s=x.s/\x'.rules.map Ru.er=x.rules.map Ru.er/\x'.rules.length=x.rules.length:=by
 have h2:x'.rules.map Ru.er=x.rules.map Ru.er:=congrArg Sta.rules h
 have h1:x'.er.s=x.er.s:=congrArg Sta.s h
 exact⟨h1,h2,by have:=congrArg List.length h2;simpa using this⟩
theorem ZnC{s s':Sc}(h:s'.er=s.er):s'.n=s.n/\s'.vars=s.vars:=by
 have h1:s'.er.n=s.er.n:=congrArg Sc.n h
 have h2:s'.er.vars=s.er.vars:=congrArg Sc.vars h
 exact⟨h1,h2⟩
theorem Zma{s s':Sc}(h1:s'.n=s.n)(h2:s'.vars=s.vars)(h3:s'.states.map Sta.er=s.states.map Sta.er):s'.er=s.er:=by
 unfold Sc.er;rw[h1,h2,h3]
theorem Zjd{α β:Type}(f:α->β):∀(l:List α)(k:Nat),(l.eraseIdx k).map f=(l.map f).eraseIdx k
 | [],_=>rfl
 | _::_,0=>rfl
 | x::l,k+1=>by simp only[List.eraseIdx_cons_succ,List.map_cons,Zjd f l k]
theorem Zuz{x x':Sta}(h:x'.er=x.er)(k:Nat):(ZfF x' k).er=(ZfF x k).er:=by
 obtain⟨h1,h2,_⟩:=ZfG h
 simp only[ZfF,Sta.er,h1,Sta.mk.injEq,true_and]
 rw[Zjd,Zjd,h2]
theorem ZuA{m:Mem}{b:Nat}{L:List Sta}{i:Nat}{x y:Sta}(h:rowRd m (some ⟨b,0,none⟩) (L.map Sta.cs).flatten)(hx:L[i]?=some x)(hs:y.s=x.s):
  rowRd (m.upd b (0+i*2+1) [.slice y.ra y.rules.length y.rc]) (some ⟨b,0,none⟩) ((L.set i y).map Sta.cs).flatten:=by
 have hi:=(zA0 hx).1
 have hl:∀l:List Sta,(l.map Sta.cs).flatten.length=l.length*2:=ZaU Sta.len
 have e0:L=L.take i++x::L.drop (i+1):=by
  have:=(zA0 hx).2
  rw[<-this,List.getElem_cons_drop,List.take_append_drop]
 have e1:L.set i y=L.take i++y::L.drop (i+1):=List.set_eq_take_append_cons_drop.trans (if_pos hi)
 have lt:(L.take i).length=i:=by rw[List.length_take];omega
 have e:∀z:Sta,((L.take i++z::L.drop (i+1)).map Sta.cs).flatten=((L.take i).map Sta.cs).flatten++(z.cs++((L.drop (i+1)).map Sta.cs).flatten):=λz=>by simp
 rw[e0,e]at h
 rw[e1,e]
 obtain⟨A,hA⟩:∃A,A=((L.take i).map Sta.cs).flatten:=⟨_,rfl⟩
 obtain⟨B,hB⟩:∃B,B=((L.drop (i+1)).map Sta.cs).flatten:=⟨_,rfl⟩
 have lA:A.length=i*2:=by rw[hA,hl,lt]
 rw[<-hA,<-hB]at h ⊢
 rcases h with h|⟨b',o',ha,h⟩
 ·have:=congrArg List.length h
  rw[zA1,zA1,Sta.len]at this
  simp at this
 cases ha
 refine .inr ⟨b,0,rfl,λj v hj=>?_⟩
 unfold Mem.upd;try dsimp only
 rw[Nat.zero_add,Nat.zero_add,List.length_singleton]
 rcases Nat.lt_or_ge j (i*2)with aC|bJ
 ·rw[if_neg (by omega)]
  rw[zA5 (by omega)]at hj
  have:=h j v (by rw[zA5 (by omega)];exact hj)
  rwa [Nat.zero_add]at this
 ·rw[zA4 (by omega),lA]at hj
  by_cases xm:j=i*2
  ·subst xm
   rw[if_neg (by omega)]
   rw[Nat.sub_self]at hj
   have:=h (i*2) v (by
    rw[zA4 (by omega),lA,Nat.sub_self]
    simp only[Sta.cs,hs]at hj ⊢
    exact hj)
   rwa [Nat.zero_add]at this
  ·by_cases vv:j=i*2+1
   ·subst vv
    rw[if_pos ⟨rfl,Nat.le_refl _,Nat.lt_succ_self _⟩,Nat.sub_self]
    rw[show i*2+1 - i*2=1 by omega]at hj
    exact hj
   ·rw[if_neg (by omega)]
    rw[zA4 (by rw[Sta.len];omega),Sta.len]at hj
    have:=h j v (by
     rw[zA4 (by omega),lA,zA4 (by rw[Sta.len];omega),Sta.len];exact hj)
    rwa [Nat.zero_add]at this
theorem ZuB{m2 m3 M:Mem}{s':Sc}{bS bR i k:Nat}{μ:Nat->Mem}{x':Sta}{zs:List Value}(cM:RepC (nw m2 m3) s')(cR:SepC m2 m3 s' bS μ)(hx':s'.states[i]?=some x')(iO:x'.ra=some ⟨bR,0,none⟩)(hk:k < x'.rules.length)
  (jR:∀r∈x'.rules,RepR ((μ i).off λq=>q=bR) r) (hM:(m3.off λq=>q=bR).le M) (tC:(M.upd bS (0+i*2+1) [.slice x'.ra (x'.rules.length - 1) x'.rc]).free bR):
  RepC ((M.upd bS (0+i*2+1) [.slice x'.ra (x'.rules.length - 1) x'.rc]).add bR (((x'.rules.eraseIdx k).map Ru.cs).flatten++zs)) ⟨s'.n,s'.va,s'.vc,s'.vars,s'.sa,s'.sc,s'.states.set i (ZfF x' k)⟩:=by
 obtain⟨V,hV⟩:∃V,V=M.upd bS (0+i*2+1) [.slice x'.ra (x'.rules.length - 1) x'.rc]:=⟨_,rfl⟩
 rw[<-hV]at tC ⊢
 have hi:=(zA0 hx').1
 obtain⟨j8,mt,bQ,mB⟩:=cR.all i x' hx'
 have kno:∀{ν:Mem},ν.le (nw m2 m3)->∀b,ν.k b=none:=λh b=>Zd3 h rfl
 have stay:∀{ν:Mem},ν.le (m3.off λq=>q=bR)->ν.free bS->ν.le (V.add bR (((x'.rules.eraseIdx k).map Ru.cs).flatten++zs)):=λh1 h2=>
  mLt (by rw[hV];exact Mem.le_upd (mLt h1 hM) h2 _ _) (Mem.le_add tC _)
 have iE:¬(μ i).free bR:=λhf=>by
  rcases j8.row with h|⟨b,o,ha,h⟩
  ·have:=congrArg List.length h
   rw[ZaU Ru.len]at this;simp at this;omega
  ·rw[iO]at ha;cases ha
   have aC:0 < (x'.rules.map Ru.cs).flatten.length:=by rw[ZaU Ru.len];omega
   have:=h 0 _ (zA3 aC)
   rw[hf]at this;cases this
 have og:bS≠bR:=λe=>iE (e ▸ mB)
 have off:∀{ν:Mem},ν.le (nw m2 m3)->ν.free bR->ν.le (m3.off λq=>q=bR):=λh1 h2=>ZfT (mLt h1 (Zec _ _)) λb e=>⟨e ▸ h2,kno h1 b⟩
 have aY:∀j,j < s'.states.length->j≠i->(μ j).free bR:=λj hj cN=>by
  rcases Nat.lt_or_ge j i with h|h
  ·exact(cR.ap j i h hi bR).resolve_right iE
  ·exact(cR.ap i j (by omega) hj bR).resolve_left iE
 have oh:=cR.sa
 refine⟨cM.n,cM.vlen,?_,cM.vall,by rw[List.length_set];exact cM.len,?_,λy hy=>?_,cM.vcap,by rw[List.length_set];exact cM.scap⟩
 ·obtain⟨μv,h1,h2,h3,h4⟩:=cR.va
  exact h1.mono (stay (off h2 ((h4 i hi bR).resolve_right iE)) h3)
 ·have aB:rowRd (m3.off λq=>q=bR) s'.sa (s'.states.map Sta.cs).flatten:=by
   rcases cM.row with h|⟨b,o,ha,h⟩
   ·exact .inl h
   ·refine .inr ⟨b,o,ha,λj v hj=>?_⟩
    rw[oh]at ha;cases ha
    rw[Mem.off_at (Y:=λq=>q=bR) og];exact(Zec m2 m3) _ _ _ (h j v hj)
  rw[oh]at aB
  have h5:=ZuA (y:=ZfF x' k) (aB.mono hM) hx' rfl
  have h6:(ZfF x' k).rules.length=x'.rules.length - 1:=by simp only[ZfF];rw[List.length_eraseIdx,if_pos hk]
  rw[h6]at h5
  rw[oh]
  have h7:rowRd V (some ⟨bS,0,none⟩) ((s'.states.set i (ZfF x' k)).map Sta.cs).flatten:=by rw[hV];exact h5
  exact h7.mono (Mem.le_add tC _)
 ·obtain⟨j,hj⟩:=List.getElem?_of_mem hy
  by_cases iM:j=i
  ·subst iM
   rw[List.getElem?_set_self hi]at hj
   cases hj
   refine⟨j8.s,by show(x'.rules.eraseIdx k).length<=few;rw[List.length_eraseIdx,if_pos hk];have:=j8.len;omega,?_,λr hr=>?_⟩
   ·show rowRd _ x'.ra ((x'.rules.eraseIdx k).map Ru.cs).flatten
    rw[iO]
    refine .inr ⟨bR,0,rfl,λq v hq=>?_⟩
    rw[Nat.zero_add,Mem.add_same,zA5 (zA0 hq).1];exact hq
   ·refine(jR r (List.mem_of_mem_eraseIdx hr)).mono (stay (Zim (mLt bQ (Zec _ _))) ?_)
    exact Zba (Mem.off_le _ _) mB
  ·rw[List.getElem?_set_ne (Ne.symm iM)]at hj
   have my:=(zA0 hj).1
   obtain⟨h1,_,h3,h4⟩:=cR.all j y hj
   exact h1.mono (stay (off h3 (aY j my iM)) h4)
def eqL{α:Type}(f:α->α->Bool):List α->List α->Bool
 | [],[]=>true
 | x::l,y::r=>f x y&&eqL f l r
 | _,_=>false
theorem Zio{α:Type}{f:α->α->Bool}:∀{l r:List α},¬l.length=r.length->eqL f l r=false
 | [],[],h=>absurd rfl h
 | [],_::_,_=>rfl
 | _::_,[],_=>rfl
 | x::l,y::r,h=>by
  simp only[eqL];rw[Zio (l:=l) (r:=r) (λe=>h (by simp[e])),Bool.and_false]
theorem ZnD{α:Type}{f:α->α->Bool}:∀{l r:List α} {i:Nat} {x y:α},l[i]?=some x->r[i]?=some y->f x y=false->eqL f l r=false
 | [],_,i,x,y,h,_,_=>by simp at h
 | _::_,[],i,x,y,_,h,_=>by simp at h
 | a::l,b::r,0,x,y,h,k,hf=>by simp at h k;subst h k;simp only[eqL,hf,Bool.false_and]
 | a::l,b::r,i+1,x,y,h,k,hf=>by
  simp only[eqL];rw[ZnD (l:=l) (r:=r) (i:=i) (by simpa using h) (by simpa using k) hf,Bool.and_false]
theorem ZfH{α:Type}{f:α->α->Bool}:∀{l r:List α} {i:Nat} {x y:α},l[i]?=some x->r[i]?=some y->eqL f (l.take i) (r.take i)=true->f x y=true->eqL f (l.take (i+1)) (r.take (i+1))=true
 | [],_,i,x,y,h,_,_,_=>by simp at h
 | _::_,[],i,x,y,_,h,_,_=>by simp at h
 | a::l,b::r,0,x,y,h,k,_,hf=>by simp at h k;subst h k;simp[eqL,hf]
 | a::l,b::r,i+1,x,y,h,k,ht,hf=>by
  simp only[List.take_succ_cons,eqL,zA7]at ht ⊢
  exact⟨ht.1,ZfH (l:=l) (r:=r) (by simpa using h) (by simpa using k) ht.2 hf⟩
theorem Zpn{α β:Type}{f:α->α->Bool}{er:α->β}:∀{l r:List α},l.map er=r.map er->(∀x∈l,∀y∈r,er x=er y->f x y=true)->eqL f l r=true
 | [],[],_,_=>rfl
 | [],_::_,h,_=>by simp at h
 | _::_,[],h,_=>by simp at h
 | x::l,y::r,h,hf=>by
  simp only[List.map_cons,List.cons.injEq]at h
  simp only[eqL,hf x (by simp) y (by simp) h.1,Bool.true_and]
  exact Zpn h.2 λa ha b hb=>hf a (by simp[ha]) b (by simp[hb])
def ZnE(p q:Pt):Bool:=p.k == q.k&&(eqS p.s q.s&&(p.g == q.g&&(p.e.light&&(q.e.light&&p.e.same q.e))))
def ZnF(p q:Ac):Bool:=p.k == q.k&&(eqS p.s q.s&&(eqL ZnE p.parts q.parts&&(p.e.light&&(q.e.light&&p.e.same q.e))))
def Zhx(p q:Ru):Bool:=p.k == q.k&&(p.bg == q.bg&&(p.en == q.en&&((p.t.light&&(q.t.light&&p.t.same q.t))&&(eqS p.s q.s&&(p.n == q.n&&(eqL ZnF p.acts q.acts&&(eqS p.go q.go&&p.code == q.code)))))))
def ZhD(r:Ru):Bool:=decide (wR r<=19999)
mutual
theorem ZqD:∀t u:T,t.er=u.er->t.same u=true
 | .node k s0 s1 s2 s3 mn mx a c l,.node k' s0' s1' s2' s3' mn' mx' a' c' l',h=>by
  simp only[T.er,T.node.injEq]at h
  obtain⟨rfl,rfl,rfl,rfl,rfl,rfl,rfl,_,_,h⟩:=h
  rw[Ztn]
  simp only[T.k,T.s0,T.s1,T.s2,T.s3,T.mn,T.mx,T.subs,beq_self_eq_true,Bool.true_and]
  exact ZnG l l' h
theorem ZnG:∀l r:List T,erL l=erL r->ZeF l r=true
 | [],[],_=>by simp[ZeF]
 | [],_::_,h=>by simp[erL]at h
 | _::_,[],h=>by simp[erL]at h
 | t::l,u::r,h=>by
  simp only[erL,List.cons.injEq]at h
  simp only[ZeF,ZqD t u h.1,ZnG l r h.2,Bool.and_self]
end
mutual
theorem Zmb:∀t u:E,t.er=u.er->t.same u=true
 | .node k x s g a c l,.node k' x' s' g' a' c' l',h=>by
  simp only[E.er,E.node.injEq]at h
  obtain⟨rfl,rfl,rfl,rfl,_,_,h⟩:=h
  rw[Zqm]
  simp only[E.k,E.x,E.s,E.g,E.subs,beq_self_eq_true,Bool.true_and,Znl]
  exact ZnH l l' h
theorem ZnH:∀l r:List E,ZvH l=ZvH r->Zci l r=true
 | [],[],_=>by simp[Zci]
 | [],_::_,h=>by simp[ZvH]at h
 | _::_,[],h=>by simp[ZvH]at h
 | t::l,u::r,h=>by
  simp only[ZvH,List.cons.injEq]at h
  simp only[Zci,Zmb t u h.1,ZnH l r h.2,Bool.and_self]
end
theorem ZnI{e f:E}(h:e.er=f.er):e.light=f.light:=by rw[<-Ze2 e,h,Ze2]
theorem Zso{e f:T}(h:e.er=f.er):e.light=f.light:=by rw[<-Zi9 e,h,Zi9]
theorem ZuC{p q:Pt}(h:p.er=q.er)(hl:p.e.light=true):ZnE p q=true:=by
 simp only[Pt.er,Pt.mk.injEq]at h
 obtain⟨h1,h2,h3,h4⟩:=h
 simp only[ZnE,h1,h2,h3,ZgC,beq_self_eq_true,Bool.true_and,hl,<-ZnI h4,Zmb _ _ h4]
theorem ZuD{p q:Ac}(h:p.er=q.er)(hl:LtA p):ZnF p q=true:=by
 simp only[Ac.er,Ac.mk.injEq]at h
 obtain⟨h1,h2,_,_,h3,h4⟩:=h
 simp only[ZnF,h1,h2,ZgC,beq_self_eq_true,Bool.true_and,hl.1,<-ZnI h4,Zmb _ _ h4,Bool.and_true]
 exact Zpn h3 λx hx y _ he=>ZuC he (hl.2 x hx)
theorem ZuE{p q:Ru}(h:p.er=q.er)(hl:LtR p):Zhx p q=true:=by
 simp only[Ru.er,Ru.mk.injEq]at h
 obtain⟨h1,h2,h3,h4,h5,h6,_,_,h7,h8,h9⟩:=h
 simp only[Zhx,h1,h2,h3,h5,h6,h8,h9,ZgC,beq_self_eq_true,Bool.true_and,hl.1,<-Zso h4,ZqD _ _ h4,Bool.and_true]
 exact Zpn h7 λx hx y _ he=>ZuD he (hl.2 x hx)
theorem MkC.deadU{s:Sc}(h:MkC s)(n:Nat):(Go.Rx.deadU s n).length<=n*5:=by
 induction n with
 | zero=>simp[Go.Rx.deadU]
 | succ n ih=>
  rw[Go.Rx.deadU,zA1,Nat.succ_mul]
  refine Nat.add_le_add ih ?_
  split
  ·rename_i x hx
   exact Nat.le_trans (ZnB n x x.rules.length) (h.all n x hx).len
  ·simp
theorem MkC.wR{s:Sc}(h:MkC s){i a:Nat}{x:Sta}{r:Ru}(hx:s.states[i]?=some x)(hr:x.rules[a]?=some r):Go.Rx.wR r<=405:=((h.all i x hx).all r (zA2 hr)).w
def w64(n:Int):Int:=IntKind.i64.wrap n
theorem Zje(n:Int):IntKind.i64.wrap n=(if n % 18446744073709551616 ≥ 9223372036854775808 then n % 18446744073709551616 - 18446744073709551616 else n % 18446744073709551616):=by
 unfold IntKind.wrap
 simp only[show IntKind.i64.bits=64 from rfl,show IntKind.i64.signed=true from rfl,Bool.true_and]
 simp only[show(2:Int) ^ 64=18446744073709551616 by decide,show(2:Int) ^ (64 - 1)=9223372036854775808 by decide,decide_eq_true_eq]
theorem ZqE(a b:Int):IntKind.i64.wrap (w64 a+b)=w64 (a+b):=by
 unfold w64
 rw[Zje,Zje,Zje]
 split <;> split <;> split <;> omega
theorem Zpo(a b:Int):w64 (a+b)=IntKind.i64.wrap (w64 a+b):=(ZqE a b).symm
theorem ZuF(a b:Int):IntKind.i64.wrap (a+w64 b)=w64 (a+b):=by
 rw[Int.add_comm,ZqE,Int.add_comm]
theorem Zwy(a b:Int):w64 (a+w64 b)=w64 (a+b):=ZuF a b
theorem Zzp{n:Int}(h:I64 n):w64 n=n:=by
 unfold I64 at h
 unfold w64
 rw[Zje]
 split <;> omega
theorem W_0:w64 0=0:=Zzp (by unfold I64;omega)
def ZlX(p:E->Bool)(l:List E):Int:=((l.filter p).length:Nat)
theorem ZqF(p:E->Bool)(l r:List E):ZlX p (l++r)=ZlX p l+ZlX p r:=by unfold ZlX;rw[List.filter_append,zA1];omega
theorem Zjf(p:E->Bool)(x:E)(l:List E):ZlX p (x::l)=(if p x then 1 else 0)+ZlX p l:=by
 unfold ZlX;rw[List.filter_cons];split <;> simp;omega
theorem ZtB(p:E->Bool):ZlX p []=0:=rfl
theorem ZuG(p:E->Bool){l:List E}{q:Nat}{x:E}(h:l[q]?=some x):ZlX p (l.take (q+1))=ZlX p (l.take q)+(if p x then 1 else 0):=by
 rw[List.take_add_one,h,ZqF]
 show _+ZlX p [x]=_
 rw[Zjf,ZtB];omega
def Zx8(x:E):Bool:=decide (Zno x.k > 0)
def Zyx(x:E):Bool:=x.k == 9||x.k == 10
def ZnJ(e:E):Int:=if e.light then ZlX Zx8 e.nodes else 0
def vrE(e:E):Int:=ZlX Zyx e.nodes
def paP(p:Pt):Int:=if p.k=1 then 0 else 1
def ZoJ(p:Pt):Int:=if p.k=4 then ZnJ p.e else 0
def vrP(p:Pt):Int:=if p.k=4 then vrE p.e else 0
def paA(a:Ac):Int:=Zaw (a.parts.map paP)
def ZoK(a:Ac):Int:=(if a.k=3 then ZnJ a.e else 0)+Zaw (a.parts.map ZoJ)
def vrA(a:Ac):Int:=(if a.k=3 then vrE a.e else 0)+Zaw (a.parts.map vrP)
def ruS(x:Sta):Int:=x.rules.length
def rgR(r:Ru):Int:=if r.k=1 then r.t.size else 0
def rgS(x:Sta):Int:=Zaw (x.rules.map rgR)
def Zkx(x:Sta):List Ac:=x.rules.flatMap (·.acts)
def Zbz(s:Sc):List Ac:=s.states.flatMap Zkx
def msV(a b c d e f:Int):List Value:=[.int .i64 a,.int .i64 b,.int .i64 c,.int .i64 d,.int .i64 e,.int .i64 f]
def ms1(s:Sc):Int:=Zaw (s.states.map ruS)
def ms2(s:Sc):Int:=Zaw (s.states.map rgS)
def ms3(s:Sc):Int:=Zaw ((Zbz s).map paA)
def ms4(s:Sc):Int:=Zaw ((Zbz s).map ZoK)
def ms5(s:Sc):Int:=Zaw ((Zbz s).map vrA)
def Zip(s:Sc):List Value:=if s.light then msV s.states.length (w64 (ms1 s)) (w64 (ms2 s)) (w64 (ms3 s)) (w64 (ms4 s)) (w64 (ms5 s))else msV 0 0 0 0 0 0
theorem Za7{α:Type}(f:α->Int){l:List α}{q:Nat}{x:α}(h:l[q]?=some x):Zaw ((l.take (q+1)).map f)=Zaw ((l.take q).map f)+f x:=by
 rw[List.take_add_one,h,List.map_append,Zhj]
 show _+(f x+0)=_
 omega
theorem ZnK{α β:Type}(f:α->List β){l:List α}{q:Nat}{x:α}(h:l[q]?=some x):(l.take (q+1)).flatMap f=(l.take q).flatMap f++f x:=by
 rw[List.take_add_one,h,List.flatMap_append]
 simp
theorem ZtC{α β:Type}(f:α->List β){l:List α}{q:Nat}{x:α}(h:l[q]?=some x){j:Nat}{y:β}(hj:(f x)[j]?=some y):(l.flatMap f)[((l.take q).flatMap f).length+j]?=some y:=by
 have e:l=l.take q++x::l.drop (q+1):=by
  have hq:=(zA0 h).1
  rw[<-(zA0 h).2,<-List.drop_eq_getElem_cons hq,List.take_append_drop]
 have e2:l.flatMap f=(l.take q).flatMap f++(f x++(l.drop (q+1)).flatMap f):=by
  conv=>lhs;rw[e]
  rw[List.flatMap_append,List.flatMap_cons]
 rw[e2,zA4 (by omega),Nat.add_sub_cancel_left,zA5 (zA0 hj).1]
 exact hj
theorem ZuH{m:Mem}{s:Sc}(hr:RepC m s){a:Ac}(h:a∈Zbz s):RepA m a:=by
 unfold Zbz Zkx at h
 obtain⟨x,hx,h⟩:=List.mem_flatMap.1 h
 obtain⟨r,eH,h⟩:=List.mem_flatMap.1 h
 exact((hr.all x hx).all r eH).all a h
end Go.Rx
namespace Go.Rx
open Go Go.Eng
def ZbM:List Int->List Int->Int
 | [],[]=>0
 | [],_::_=>-1
 | _::_,[]=>1
 | x::l,y::r=>if x < y then -1 else if x > y then 1 else ZbM l r
theorem ZnL(x y:Int)(l r:List Int):ZbM (x::l) (y::r) < 0↔x < y\/(x=y/\ZbM l r < 0):=by
 simp only[ZbM]
 by_cases h:x < y
 ·simp[h]
 ·by_cases h2:x > y
  ·simp only[h,if_false,h2,if_true,false_or]
   constructor
   ·intro h;exact absurd h (by decide)
   ·intro⟨e,_⟩;omega
  ·have e:x=y:=by omega
   subst e
   simp
end Go.Rx
namespace Go.Rx
open Go Go.Eng Go.RowKit
theorem ZtD(f:Sta->Int)(hf:∀x,0<=f x):∀l:List Sta,0<=Zaw (l.map f)
 | []=>by simp[Zaw]
 | x::l=>by have:=hf x;have:=ZtD f hf l;simp only[List.map_cons,Zaw];omega
theorem MkC.ms1{s:Sc}(h:MkC s):0<=Go.Rx.ms1 s/\Go.Rx.ms1 s<=20:=by
 refine⟨ZtD _ (λx=>by unfold ruS;omega) _,?_⟩
 have:=ZgB ruS 5 s.states (λx hx=>by
  obtain⟨i,hi⟩:=List.getElem?_of_mem hx
  have:=(h.all i x hi).len
  unfold ruS;omega)
 have h2:=h.len.2
 unfold Go.Rx.ms1
 omega
section
variable {P:Program} {K:TypeId} {κ ν:Type} [DecidableEq κ] {f:κ->Value} {g:ν->Value}
def Zx9(f:κ->Value)(g:ν->Value)(L:List (κ×ν)):List (Value×Value):=L.map λq=>(f q.1,g q.2)
variable (he:∀a b:κ,EqIs P K (f a) (f b) (decide (a=b)))
include he
theorem Zmc(k:κ):∀L:List (κ×ν),k ∉ L.map (·.1)->MapFind P K (f k) (Zx9 f g L) none
 | [],_=>rfl
 | q::L,h=>by
  simp only[List.map_cons,List.mem_cons,not_or]at h
  have:=he k q.1
  rw[decide_eq_false h.1]at this
  exact .inr ⟨this,Zmc k L h.2⟩
theorem ZqG(k:κ)(z:ν):∀L:List (κ×ν),k ∉ L.map (·.1)->ZhB P K (f k) (g z) (Zx9 f g L) (Zx9 f g (L++[(k,z)]))
 | [],_=>rfl
 | q::L,h=>by
  simp only[List.map_cons,List.mem_cons,not_or]at h
  have:=he k q.1
  rw[decide_eq_false h.1]at this
  exact .inr ⟨this,_,ZqG k z L h.2,rfl⟩
theorem ZtE(k:κ)(z:ν):∀L:List (κ×ν),(k,z)∈L->(L.map (·.1)).Nodup->MapFind P K (f k) (Zx9 f g L) (some (g z))
 | [],h,_=>by cases h
 | q::L,h,hn=>by
  have h0:=he k q.1
  rw[List.map_cons,List.nodup_cons]at hn
  rcases List.mem_cons.1 h with h|h
  ·subst h
   rw[decide_eq_true rfl]at h0
   exact .inl ⟨h0,rfl⟩
  ·have:¬k=q.1:=λe=>hn.1 (by rw[<-e];exact List.mem_map.2 ⟨_,h,rfl⟩)
   rw[decide_eq_false this]at h0
   exact .inr ⟨h0,ZtE k z L h hn.2⟩
end
theorem Zsp{s t:Sc}(hs:s.light=true)(ht:t.light=true)(fg:∀x∈t.states,x∈s.states)(cS:∀x∈s.states,x∈t.states)(name:ByteArray):Zsd t name=Zsd s name:=by
 unfold Zsd
 rw[hs,ht,Bool.and_true,Bool.and_true,Bool.eq_iff_iff,List.any_eq_true,List.any_eq_true]
 exact⟨λ⟨x,h1,h2⟩=>⟨x,fg x h1,h2⟩,λ⟨x,h1,h2⟩=>⟨x,cS x h1,h2⟩⟩
structure Turn (s t:Sc):Prop where
 n:t.n=s.n
 vars:t.vars=s.vars
 len:t.states.length=s.states.length
 sub:∀x∈t.states,x∈s.states
 sup:∀x∈s.states,x∈t.states
 dif:∀(i j:Nat)(x y:Sta),t.states[i]?=some x->t.states[j]?=some y->i≠j->eqS x.s y.s=false
section
variable {s t:Sc} (h:MkC s) (hT:Turn s t)
include h hT
theorem Turn.weight:t.weight<=8200:=by
 have h1:=ZgB wS 2025 t.states (λx hx=>by
  obtain⟨i,_,hm⟩:=h.state (hT.sub x hx)
  exact hm.w)
 have h2:=h.len
 have h3:=h.vlen
 unfold Sc.weight
 rw[hT.vars,hT.len]
 rw[hT.len]at h1
 omega
theorem Turn.light:t.light=true:=by unfold Sc.light;exact decide_eq_true (by have:=hT.weight h;omega)
theorem Turn.totals(i k:Nat):Rx.totals t i k<=600:=by
 have h0:=h.len
 have h1:=ZgB (λx:Sta=>Zaw (x.rules.map Rx.sizeR)) 130 (t.states.take i) (λx hx=>by
  obtain⟨j,_,hm⟩:=h.state (hT.sub x (List.mem_of_mem_take hx))
  have:=hm.sizes x.rules.length
  rwa [List.take_length]at this)
 rw[List.length_take,hT.len]at h1
 unfold Rx.totals
 cases hx:t.states[i]? with
 | none=>show _+0<=_;omega
 | some x=>
  have hi:=(zA0 hx).1
  rw[hT.len]at hi
  obtain⟨j,_,hm⟩:=h.state (hT.sub x (zA2 hx))
  have:=hm.sizes (k+1)
  show _+Zaw ((x.rules.take (k+1)).map Rx.sizeR)<=_
  omega
theorem Turn.at0:∀p∈t.places,atS t p=0:=by
 intro p hp
 have hP:∀{r:Ru} {a:Ac},MkA (Zdn r) a->∀{n:Nat} {q:Pt},a.parts[n]?=some q->ZlW t r a.parts n q=0:=λ{r a} ha {n q} hq=>by
  have e:ZlW t r a.parts n q=ZlW s r a.parts n q:=by unfold ZlW Zhw Zdx Zhw;rw[hT.vars]
  rw[e]
  cases ha with
  | send _ _ l hl=>exact h.part hl hq
  | set _ _ _ _ l hl=>exact h.part hl hq
  | let_ _ _ e _=>simp at hq
 rcases Zns t p hp with⟨i,hi,v,hv⟩|⟨hv,hs|⟨i,hi,x,hx,hr|⟨k,hk,r,hr,ha|⟨j,hj,a,ha,hq|⟨n,hn,q,hq⟩⟩⟩⟩⟩
 ·have e:atS t p=ZcJ t i v:=by
   unfold atS
   rw[if_pos (by omega),show p.v.toNat=i by omega,hv]
  have e2:ZcJ t i v=ZcJ s i v:=by unfold ZcJ;rw[hT.vars]
  rw[e,e2];exact h.var (by rw[<-hT.vars];exact hv)
 all_goals have hv':¬p.v ≥ 0:=by omega
 ·unfold atS
  rw[if_neg hv',if_pos hs]
  have e:Znp t=Znp s:=by unfold Znp;rw[hT.n,hT.len,hT.vars]
  rw[e];exact h.whole
 all_goals
  have hs':¬p.s < 0:=by omega
  have lO:p.s.toNat=i:=by omega
  obtain⟨i0,rG,hm⟩:=h.state (hT.sub x (zA2 ‹t.states[i]?=some x›))
 ·have e:atS t p=Znq t i x:=by
   unfold atS
   rw[if_neg hv',if_neg hs',lO,hx]
   exact if_pos hr
  rw[e]
  have h1:ZfR x.s=true:=Ztw _ (zA2 hm.name)
  have h2:decide (x.rules.length > 12)=false:=decide_eq_false (by have:=hm.len;omega)
  have h3:((t.states.take i).any λy=>eqS y.s x.s)=false:=by
   rw[List.any_eq_false]
   intro y hy
   obtain⟨j,hj⟩:=List.getElem?_of_mem hy
   have iM:j < i:=by have:=(zA0 hj).1;rw[List.length_take]at this;omega
   rw[List.getElem?_take_of_lt iM]at hj
   rw[hT.dif j i y x hj hx (by omega)];simp
  simp[Znq,Zcy,h1,h2,h3]
 all_goals
  have hr':¬p.r < 0:=by omega
  have iN:p.r.toNat=k:=by omega
  have hR:=hm.all r (zA2 hr)
 ·have e:atS t p=Zqq t r (Rx.totals t i k):=by
   unfold atS
   rw[if_neg hv',if_neg hs',lO,hx]
   show(if p.r < 0 then _ else _)=_
   rw[if_neg hr',iN,hr]
   exact if_pos ha
  have e2:∀n,Zqq t r n=Zqq s r n:=λn=>by unfold Zqq;rw[Zsp h.light (hT.light h) hT.sub hT.sup]
  rw[e,e2];exact h.rule hR (hT.totals h i k)
 all_goals
  have ha':¬p.a < 0:=by omega
  have lp:p.a.toNat=j:=by omega
  have hA:=hR.all a (zA2 ‹r.acts[j]?=some a›)
 ·have e:atS t p=Zd0 t r a:=by
   unfold atS
   rw[if_neg hv',if_neg hs',lO,hx]
   show(if p.r < 0 then _ else _)=_
   rw[if_neg hr',iN,hr]
   show(if p.a < 0 then _ else _)=_
   rw[if_neg ha',lp,‹r.acts[j]?=some a›]
   exact if_pos hq
  have e2:Zd0 t r a=Zd0 s r a:=by unfold Zd0 Zhw Zdx Zhw;rw[hT.vars]
  rw[e,e2];exact h.action hA
 ·have e:atS t p=ZlW t r a.parts n q:=by
   unfold atS
   rw[if_neg hv',if_neg hs',lO,hx]
   show(if p.r < 0 then _ else _)=_
   rw[if_neg hr',iN,hr]
   show(if p.a < 0 then _ else _)=_
   rw[if_neg ha',lp,‹r.acts[j]?=some a›]
   show(if p.p < 0 then _ else _)=_
   rw[if_neg (by omega),show p.p.toNat=n by omega,hq]
  rw[e];exact hP hA hq
theorem Turn.check:t.check=(top,0):=by
 have e:t.problems=[]:=by
  unfold Sc.problems
  rw[List.filterMap_eq_nil_iff]
  intro p hp
  rw[if_pos (hT.at0 h p hp)]
 unfold Sc.check
 rw[if_pos (hT.light h),e]
end
def ZnM(s:Sc):Sc:=⟨s.n,none,0,s.vars,none,0,s.states.reverse⟩
theorem Zhl{α:Type}(f:α->Int):∀l:List α,Zaw (l.reverse.map f)=Zaw (l.map f)
 | []=>rfl
 | x::l=>by
  rw[List.reverse_cons,List.map_append,Zhj,Zhl f l]
  simp only[List.map_cons,List.map_nil,Zaw]
  omega
def kp(r:Ru):Bool:=decide (r.k ≥ 3)
def Zs6(x:Sta)(j:Nat):Nat:=((x.rules.take j).filter kp).length
theorem ZnN{x:Sta}{j:Nat}{r:Ru}(h:x.rules[j]?=some r):Zs6 x (j+1)=Zs6 x j+(if kp r then 1 else 0):=by
 unfold Zs6
 rw[List.take_add_one,h,List.filter_append,zA1]
 congr 1
 show([r].filter kp).length=_
 rw[List.filter_cons]
 split <;> rfl
theorem Zsq{x:Sta}{i j:Nat}(h:i<=j):Zs6 x i<=Zs6 x j:=by
 induction j with
 | zero=>rw[show i=0 by omega];exact Nat.le_refl _
 | succ j ih=>
  by_cases e:i=j+1
  ·rw[e];exact Nat.le_refl _
  ·refine Nat.le_trans (ih (by omega)) ?_
   cases hx:x.rules[j]? with
   | some r=>rw[ZnN hx];omega
   | none=>unfold Zs6;rw[List.take_add_one,hx];simp
theorem ZtF{x:Sta}{i j:Nat}{r:Ru}(hr:x.rules[i]?=some r)(hk:kp r=true)(h:i < j):Zs6 x i < Zs6 x j:=by
 have h1:=ZnN hr
 rw[hk,if_pos rfl]at h1
 have:=Zsq (x:=x) (show i+1<=j by omega)
 omega
theorem ZuI{x:Sta}{i j:Nat}{p q:Ru}(hp:x.rules[i]?=some p)(hq:x.rules[j]?=some q)(kpp:kp p=true)(kpq:kp q=true)(h:Zs6 x i=Zs6 x j):i=j:=by
 rcases Nat.lt_trichotomy i j with h1|h1|h1
 ·have:=ZtF hp kpp h1;omega
 ·exact h1
 ·have:=ZtF hq kpq h1;omega
def ZAG(x:Sta)(d:Dd):Dd:=(d.1,(Zs6 x d.2.toNat:Nat))
def phi(s:Sc)(d:Dd):Dd:=match s.states[d.1.toNat]? with
 | some x=>ZAG x d
 | none=>d
theorem Zwz{s:Sc}{d:Dd}(h:d∈Zww s):∃(i k:Nat)(x:Sta)(r:Ru),d=((i:Int),(k:Int))/\s.states[i]?=some x/\x.rules[k]?=some r/\kp r=true/\phi s d=((i:Int),((Zs6 x k:Nat):Int)):=by
 obtain⟨i,x,k,r,h1,h2,h3,rfl⟩:=Zux.1 h
 refine⟨i,k,x,r,rfl,h1,h2,?_,?_⟩
 ·unfold ZtA at h3
  rw[Bool.or_eq_true,zA7,zA7]at h3
  unfold kp
  rcases h3 with⟨h4,_⟩|⟨h4,_⟩
  ·have:r.k=4:=by simpa using h4
   exact decide_eq_true (by omega)
  ·have:r.k=3:=by simpa using h4
   exact decide_eq_true (by omega)
 ·unfold phi ZAG
  simp only[zA8,h1]
end Go.Rx
namespace Go.Rx
open Go Go.Eng
def ZqH(l:List Int):List Int:=l.mergeSort λx y=>decide (x<=y)
theorem ZnO(l:List Int):(ZqH l).length=l.length:=List.length_mergeSort l
theorem Zsr{l:List Int}{x:Int}:x∈ZqH l↔x∈l:=List.mem_mergeSort
theorem ZgD(l:List Int):(ZqH l).Pairwise (·<=·):=
 (List.pairwise_mergeSort (le:=λx y:Int=>decide (x<=y)) (λa b c h1 h2=>by simp at h1 h2 ⊢;omega) (λa b=>by simp;omega) l).imp λh=>zA6 h
def ZtG(l:List Int):List Int:=Go.Lib.compact (ZqH l)
theorem Zeq{zs:List Int}(h:zs.Pairwise (·<=·)):∀m,m<=zs.length->(Go.Lib.compactUpTo zs.toArray m).Pairwise (· < ·)/\∀x,x∈Go.Lib.compactUpTo zs.toArray m↔x∈zs.take m
 | 0,_=>by simp[Go.Lib.compactUpTo]
 | m+1,hm=>by
  obtain⟨h1,h2⟩:=Zeq h m (by omega)
  have aC:m < zs.length:=hm
  have em:zs.toArray[m]! = zs[m]:=by rw[getElem!_pos _ m (by simpa using aC)];simp
  have cJ:∀x,x∈zs.take (m+1)↔x∈zs.take m\/x=zs[m]:=λx=>by
   rw[List.take_add_one,zA3 aC,List.mem_append];simp
  have bQ:∀x∈zs.take m,∀k,m<=k+1->(hk:k < zs.length)->k < m->x<=zs[k]:=λx hx k io hk jx=>by
   obtain⟨i,hi,rfl⟩:=List.mem_iff_getElem.1 hx
   rw[List.length_take]at hi
   rw[List.getElem_take]
   by_cases e:i=k
   ·subst e;exact Int.le_refl _
   ·exact List.pairwise_iff_getElem.1 h i k (by omega) hk (by omega)
  rw[Go.Lib.compactUpTo_succ]
  cases hk:Go.Lib.keeps zs.toArray m with
  | true=>
   rw[if_pos rfl,em]
   refine⟨List.pairwise_append.2 ⟨h1,List.pairwise_singleton _ _,λx hx y hy=>?_⟩,λx=>?_⟩
   ·rw[List.mem_singleton]at hy;subst hy
    have hx:=(h2 x).1 hx
    have h0:0 < m:=by
     cases m with
     | zero=>simp at hx
     | succ m=>omega
    have cN:zs.toArray[m]!≠zs.toArray[m - 1]!:=by
     unfold Go.Lib.keeps at hk
     have:=zA6 hk
     rcases this with h|h
     ·omega
     ·exact h
    rw[em,getElem!_pos _ (m - 1) (by simp;omega)]at cN
    simp only[List.getElem_toArray]at cN
    have h3:=bQ x hx (m - 1) (by omega) (by omega) (by omega)
    have h4:=List.pairwise_iff_getElem.1 h (m - 1) m (by omega) aC (by omega)
    omega
   ·rw[List.mem_append,h2,cJ,List.mem_singleton]
  | false=>
   rw[if_neg (by decide),List.append_nil]
   refine⟨h1,λx=>?_⟩
   rw[h2,cJ]
   refine⟨.inl,λhx=>hx.elim id λe=>?_⟩
   unfold Go.Lib.keeps at hk
   have hk:=of_decide_eq_false hk
   have e7:m≠0:=λe=>hk (.inl e)
   have he:zs.toArray[m]! = zs.toArray[m - 1]!:=Classical.byContradiction λe=>hk (.inr e)
   rw[em,getElem!_pos _ (m - 1) (by simp;omega)]at he
   simp only[List.getElem_toArray]at he
   rw[e,he]
   exact List.mem_iff_getElem.2 ⟨m - 1,by rw[List.length_take];omega,by rw[List.getElem_take]⟩
theorem ZwA(l:List Int):(ZtG l).Pairwise (· < ·):=(Zeq (ZgD l) _ (Nat.le_refl _)).1
theorem ZuJ{l:List Int}{x:Int}:x∈ZtG l↔x∈l:=by
 have:=(Zeq (ZgD l) _ (Nat.le_refl _)).2 x
 rw[List.take_length,Zsr]at this
 exact this
theorem Zyy{l r:List Int}(hl:l.Pairwise (· < ·))(hr:r.Pairwise (· < ·))(h:∀x,x∈l↔x∈r):l=r:=by
 have p:l.Perm r:=(List.perm_ext_iff_of_nodup (hl.imp λh=>by omega) (hr.imp λh=>by omega)).2 h
 exact p.eq_of_pairwise (le:=λx y:Int=>x < y) (λa b _ _ h1 h2=>by omega) hl hr
theorem ZnP{l:List Int}(h:l.Pairwise (· < ·)):ZtG l=l:=Zyy (ZwA l) h λx=>ZuJ
def Zyz(L:List (ByteArray×Nat))(n:ByteArray):Bool:=L.any λq=>decide (q.1=n)
theorem ZfI{L:List (ByteArray×Nat)}{n:ByteArray}:Zyz L n=true↔n∈L.map (·.1):=by
 unfold Zyz
 rw[List.any_eq_true,List.mem_map]
 exact⟨λ⟨q,h1,h2⟩=>⟨q,h1,zA6 h2⟩,λ⟨q,h1,h2⟩=>⟨q,h1,decide_eq_true h2⟩⟩
def ZcN(L:List Sta):Nat->List (ByteArray×Nat)
 | 0=>[]
 | i+1=>match L[i]? with
  | some x=>if Zyz (ZcN L i) x.s then ZcN L i else ZcN L i++[(x.s,i)]
  | none=>ZcN L i
theorem Zss{L:List Sta}{i:Nat}{x:Sta}(h:L[i]?=some x):ZcN L (i+1)=if Zyz (ZcN L i) x.s then ZcN L i else ZcN L i++[(x.s,i)]:=by
 rw[ZcN,h]
theorem Zky(L:List Sta):∀i,((ZcN L i).map (·.1)).Nodup
 | 0=>List.nodup_nil
 | i+1=>by
  have ih:=Zky L i
  rw[ZcN]
  split
  ·split
   ·exact ih
   ·rename_i h
    rw[ZfI]at h
    rw[List.map_append,List.nodup_append]
    refine⟨ih,by simp,λa ha b hb e=>h ?_⟩
    simp at hb;subst hb;subst e;exact ha
  ·exact ih
theorem ZqI(L:List Sta)(n:ByteArray):∀i,n∈(ZcN L i).map (·.1)↔∃j x,j < i/\L[j]?=some x/\x.s=n
 | 0=>by simp[ZcN]
 | i+1=>by
  have ih:=ZqI L n i
  have more:(∃j x,j < i+1/\L[j]?=some x/\x.s=n)↔(∃j x,j < i/\L[j]?=some x/\x.s=n)\/∃x,L[i]?=some x/\x.s=n:=by
   constructor
   ·rintro⟨j,x,h1,h2,h3⟩
    by_cases e:j=i
    ·subst e;exact .inr ⟨x,h2,h3⟩
    ·exact .inl ⟨j,x,by omega,h2,h3⟩
   ·rintro(⟨j,x,h1,h2,h3⟩|⟨x,h2,h3⟩)
    ·exact⟨j,x,by omega,h2,h3⟩
    ·exact⟨i,x,by omega,h2,h3⟩
  rw[more,<-ih,ZcN]
  cases hx:L[i]? with
  | none=>simp
  | some x=>
   simp only[Option.some.injEq,exists_eq_left']
   split
   ·rename_i h
    rw[ZfI]at h
    exact⟨.inl,λk=>k.elim id λe=>e ▸ h⟩
   ·rw[List.map_append,List.mem_append]
    simp[eq_comm]
theorem ZqJ(L:List Sta)(n:ByteArray)(k:Nat):∀i,(n,k)∈ZcN L i↔k < i/\(∃x,L[k]?=some x/\x.s=n)/\∀j y,j < k->L[j]?=some y->y.s≠n
 | 0=>by simp[ZcN]
 | i+1=>by
  have ih:=ZqJ L n k i
  have hk:=ZqI L n i
  rw[ZcN]
  cases hx:L[i]? with
  | none=>
   simp only
   rw[ih]
   refine⟨λh=>⟨by omega,h.2⟩,λ⟨h1,⟨x,h2,h3⟩,h4⟩=>⟨?_,⟨x,h2,h3⟩,h4⟩⟩
   by_cases e:k=i
   ·subst e;rw[hx]at h2;cases h2
   ·omega
  | some x=>
   simp only
   split
   ·rename_i fg
    rw[ZfI]at fg
    rw[ih]
    refine⟨λh=>⟨by omega,h.2⟩,λ⟨h1,⟨y,h2,h3⟩,h4⟩=>⟨?_,⟨y,h2,h3⟩,h4⟩⟩
    by_cases e:k=i
    ·subst e
     rw[hx]at h2;cases h2
     subst h3
     obtain⟨j,z,g1,g2,g3⟩:=hk.1 fg
     exact absurd g3 (h4 j z g1 g2)
    ·omega
   ·rename_i fg
    rw[ZfI]at fg
    rw[List.mem_append,ih,List.mem_singleton,Prod.mk.injEq]
    constructor
    ·rintro(h|⟨rfl,rfl⟩)
     ·exact⟨by omega,h.2⟩
     ·refine⟨by omega,⟨x,hx,rfl⟩,λj y h1 h2 h3=>fg (hk.2 ⟨j,y,h1,h2,h3⟩)⟩
    ·rintro⟨h1,⟨y,h2,h3⟩,h4⟩
     by_cases e:k=i
     ·subst e
      rw[hx]at h2;cases h2
      exact .inr ⟨h3.symm,rfl⟩
     ·exact .inl ⟨by omega,⟨y,h2,h3⟩,h4⟩
def goI(L:List Sta)(n:ByteArray):Option Nat:=L.findIdx? λx=>decide (x.s=n)
theorem Zmd{L:List Sta}{n:ByteArray}{k:Nat}:goI L n=some k↔(n,k)∈ZcN L L.length:=by
 rw[ZqJ,goI,List.findIdx?_eq_some_iff_getElem]
 constructor
 ·rintro⟨h,h1,h2⟩
  refine⟨h,⟨L[k],zA3 h,zA6 h1⟩,λj y hj hy e=>?_⟩
  obtain⟨g1,g2⟩:=zA0 hy
  have:=h2 j hj
  rw[g2]at this
  simp[e]at this
 ·rintro⟨h,⟨x,h1,h2⟩,h3⟩
  refine⟨h,?_,λj hj=>?_⟩
  ·rw[(zA0 h1).2];exact decide_eq_true h2
  ·have:=h3 j L[j] hj (zA3 (by omega))
   simpa using this
theorem ZyA{L:List Sta}{n:ByteArray}{k:Nat}(h:goI L n=some k):k < L.length:=((ZqJ L n k _).1 (Zmd.1 h)).1
def ZxE(L:List Sta)(r:Ru):Option Int:=if r.go.size=0 then none else(goI L r.go).map λk:Nat=>(k:Int)
def Zld(L:List Sta)(l:List Ru):List Int:=l.filterMap (ZxE L)
theorem ZuK{L:List Sta}{l:List Ru}{i:Nat}{r:Ru}(h:l[i]?=some r):Zld L (l.take (i+1))=Zld L (l.take i)++(ZxE L r).toList:=by
 unfold Zld
 rw[List.take_add_one,h,List.filterMap_append]
 congr 1
theorem ZwB(L:List Sta)(l:List Ru):(Zld L l).length<=l.length:=List.length_filterMap_le _ _
def ZxF(L:List Sta)(x:Sta):List Int:=ZtG (Zld L x.rules)
end Go.Rx
namespace Go.Rx
open Go Go.Eng Go.RowKit
def Zjg(p q:Va):Bool:=eqS p.s q.s&&(p.b == q.b&&(eqS p.t q.t&&Znl p.x q.x))
def Zjh(p q:Sta):Bool:=eqS p.s q.s&&eqL Zhx p.rules q.rules
def ZhE(p q:Sc):Bool:=p.light&&(q.light&&(p.n == q.n&&(eqL Zjg p.vars q.vars&&eqL Zjh p.states q.states)))
theorem Zpp(p:Va):Zjg p p=true:=by simp[Zjg,ZgC,Znl]
theorem ZtH{α:Type}{f:α->α->Bool}(h:∀x,f x x=true):∀l:List α,eqL f l l=true
 | []=>rfl
 | x::l=>by simp[eqL,h,ZtH h l]
theorem Zst{p q:Sta}(h:p.er=q.er)(hl:∀r∈p.rules,LtR r):Zjh p q=true:=by
 obtain⟨h1,h2,_⟩:=ZfG h
 simp only[Zjh,h1,ZgC,Bool.true_and]
 exact Zpn h2 λx hx y _ he=>ZuE he (hl x hx)
theorem ZnQ{p q:Sc}(h:p.er=q.er)(hl:p.light=true):ZhE p q=true:=by
 obtain⟨h1,h2⟩:=ZnC h
 have h3:q.light=true:=by rw[<-ZcM h];exact hl
 simp only[ZhE,hl,h3,h1,h2,beq_self_eq_true,ZtH Zpp,Bool.true_and]
 exact Zpn (Ze3 h) λx hx y _ he=>Zst he (Zsl hl x hx)
end Go.Rx
namespace Go.Rx
open Go Go.Eng
def ZeH(out:List ByteArray)(n:ByteArray):List ByteArray:=if out.any (λy=>eqS n y)then out else out++[n]
def ZcT(out:List ByteArray)(p:Pt):List ByteArray:=if p.k=2 then ZeH out p.s else if p.k=4 then p.e.vars.foldl ZeH out else out
def Zcj(out:List ByteArray)(a:Ac):List ByteArray:=if a.k=3 then a.e.vars.foldl ZeH out else out
def ZfJ(w:Bool)(out:List ByteArray)(a:Ac):List ByteArray:=if w then(if a.k=2\/a.k=3 then ZeH out a.s else out)else a.parts.foldl ZcT (Zcj out a)
def Zsu(w:Bool)(r:Ru):List ByteArray:=if ZhD r then r.acts.foldl (ZfJ w) []else[]
theorem Ze4{α β:Type}(f:β->α->β)(b:β){l:List α}{i:Nat}{x:α}(h:l[i]?=some x):(l.take (i+1)).foldl f b=f ((l.take i).foldl f b) x:=by
 rw[List.take_add_one,h,List.foldl_append];rfl
theorem Zme(out:List ByteArray)(n:ByteArray):out.length<=(ZeH out n).length/\(ZeH out n).length<=out.length+1:=by
 unfold ZeH;split <;> simp
theorem ZyB{out:List ByteArray}{n:ByteArray}(h:out.any (λy=>eqS n y)=false):ZeH out n=out++[n]:=by unfold ZeH;rw[h,if_neg (by decide)]
theorem ZyC{out:List ByteArray}{n:ByteArray}(h:out.any (λy=>eqS n y)=true):ZeH out n=out:=by unfold ZeH;rw[h,if_pos rfl]
theorem ZtI{α:Type}{f:List ByteArray->α->List ByteArray}{w:α->Nat}(h:∀o x,o.length<=(f o x).length/\(f o x).length<=o.length+w x):∀(l:List α)(o:List ByteArray),o.length<=(l.foldl f o).length/\(l.foldl f o).length<=o.length+(l.map w).sum
 | [],o=>by simp
 | x::l,o=>by
  have h1:=h o x
  have h2:=ZtI h l (f o x)
  simp only[List.foldl_cons,List.map_cons,List.sum_cons];omega
theorem Zmf(l:List ByteArray)(o:List ByteArray):o.length<=(l.foldl ZeH o).length/\(l.foldl ZeH o).length<=o.length+l.length:=by
 have:=ZtI (f:=ZeH) (w:=λ_=>1) Zme l o
 rwa [List.map_const',List.sum_replicate_nat,Nat.mul_one]at this
theorem ZqK(e:E):e.vars.length<=10000:=by
 unfold E.vars
 split
 ·rename_i h
  have h2:=ZdZ e []
  have h3:=zA6 (show decide (e.nodes.length<=10000)=true from h)
  simp only[List.length_nil]at h2
  omega
 ·simp
theorem ZtJ(e:E):(e.vars.length:Int)<=nE e:=by
 unfold E.vars nE E.size
 cases h:e.light with
 | false=>simp
 | true=>
  have h2:=ZdZ e []
  simp only[List.length_nil]at h2
  simp;omega
theorem Zmg{α:Type}{f:List ByteArray->α->List ByteArray}{w:α->Int}(h:∀o x,((f o x).length:Int)<=o.length+w x):∀(l:List α)(o:List ByteArray),((l.foldl f o).length:Int)<=o.length+Zaw (l.map w)
 | [],o=>by simp[Zaw]
 | x::l,o=>by
  have h1:=h o x
  have h2:=Zmg h l (f o x)
  simp only[List.foldl_cons,List.map_cons,Zaw];omega
theorem Zpq(o:List ByteArray)(p:Pt):((ZcT o p).length:Int)<=o.length+(1+nE p.e):=by
 have h0:=(ZfB p.e).1
 have h1:=ZtJ p.e
 have h2:=Zme o p.s
 have h3:=Zmf p.e.vars o
 unfold ZcT
 split
 ·omega
 ·split <;> omega
theorem Zpr(o:List ByteArray)(a:Ac):((Zcj o a).length:Int)<=o.length+nE a.e:=by
 have h0:=(ZfB a.e).1
 have h1:=ZtJ a.e
 have h3:=Zmf a.e.vars o
 unfold Zcj
 split <;> omega
theorem ZwC(l:List Pt):Zaw (l.map λp=>1+nE p.e)=l.length+Zaw (l.map λp=>nE p.e):=by
 induction l with
 | nil=>rfl
 | cons p l ih=>simp only[List.map_cons,Zaw,List.length_cons,ih];omega
theorem Zhm(o:List ByteArray)(a:Ac)(j:Nat):(((a.parts.take j).foldl ZcT (Zcj o a)).length:Int)<=o.length+wA a:=by
 have h1:=Zmg Zpq (a.parts.take j) (Zcj o a)
 have h2:=Zpr o a
 have h3:=ZfA (λp:Pt=>1+nE p.e) (λp=>by have:=(ZfB p.e).1;omega) a.parts j
 have h4:=ZwC a.parts
 unfold wA
 omega
theorem Zsv(w:Bool)(o:List ByteArray)(a:Ac):((ZfJ w o a).length:Int)<=o.length+wA a:=by
 have h1:=Zhm o a a.parts.length
 rw[List.take_length]at h1
 have h2:=Zme o a.s
 have h3:=(ZfB a.e).1
 have h4:=ZcS (λp:Pt=>nE p.e) (λp=>(ZfB p.e).1) a.parts
 have h5:1<=wA a:=by unfold wA;omega
 unfold ZfJ
 cases w with
 | true=>rw[if_pos rfl];split <;> omega
 | false=>rw[if_neg (by decide)];omega
theorem ZwD(w:Bool){r:Ru}(h:ZhD r=true)(q:Nat){a:Ac}(ha:r.acts[q]?=some a):(((r.acts.take q).foldl (ZfJ w) []).length:Int)+wA a<=20000:=by
 have h1:=Zmg (Zsv w) (r.acts.take q) []
 have h2:=ZfA wA Zqo r.acts (q+1)
 rw[Zfz wA ha]at h2
 have h3:=zA6 (show decide (wR r<=19999)=true from h)
 have h4:=(ZfC r.t).1
 have h5:0<=Zga r.t.size 20000:=by unfold Zga;split <;> omega
 unfold wR at h3
 simp only[List.length_nil]at h1
 split at h3 <;> omega
def mxI(n g:Int):Int:=if g > n then g else n
def ZlY(n:Int)(p:Pt):Int:=if p.k=3 then mxI n p.g else if p.k=4 then mxI n p.e.most else n
def ZvD(n:Int)(a:Ac):Int:=a.parts.foldl ZlY (if a.k=3 then mxI n a.e.most else n)
def ZwE(r:Ru):Int:=if ZhD r then r.acts.foldl ZvD (-1)else 0
end Go.Rx
namespace Go.Rx
open Go
variable {P:Program}
theorem ZgE{n:Nat}(w:World)(t e ty:TypeId)(z:Value)(ht:P.underlying t=some (.slice e))(hv:∀w,(zeroValue e).run P w=.ok z w)(h1:∀u∈(Builtin.zeroCells z.cells n).toList,u.oneCell'=true)(b o c:Nat)(hn:0 < n)
  (hc:∀j,j < (Builtin.zeroCells z.cells n).toList.length->(w.cell? ⟨b,o+j,none⟩).isSome=true) (hf:∀j,j < (Builtin.zeroCells z.cells n).toList.length->w.frozen? ⟨b,o+j,none⟩=false):
  (Builtin.clear_ #[t] ty #[.slice (some ⟨b,o,none⟩) n c]).run P w=.ok (.tuple #[]) (w.setCells b o (Builtin.zeroCells z.cells n).toList):=by
 have cB:=run_storeCells_cells (P:=P) b o (Builtin.zeroCells z.cells n).toList 0 w (by simpa using hc) (by simpa using hf) h1
 simp only[Nat.add_zero]at cB
 obtain⟨m,rfl⟩:∃m,n=m+1:=⟨n - 1,by omega⟩
 simp[Builtin.clear_,run_underlying ht,hv,cB]
end Go.Rx
namespace Go.Rx
open Go Go.Proofs Go.Shelf Go.RowKit Go.Lib Go.Sort
set_option maxHeartbeats 4000000
set_option maxRecDepth 1000000
structure DelLay (P:Program)(ρ:Ren)(k:Nat)(z:Value):Prop where
 mixed:P.follows .mixedOrders=true
 f45:Bears P (ρ.f 45) (SlBodyN.n45 ρ)
 t0:P.underlying (ρ.t 0)=some (TypeDesc.tuple #[])
 a0:∀w,(Go.isAgg (ρ.t 0)).run P w=.ok false w
 z0:∀w,(Go.sizeOf (ρ.t 0)).run P w=.ok 1 w
 v0:∀w,(zeroValue (ρ.t 0)).run P w=.ok (Value.tuple #[]) w
 t3:P.underlying (ρ.t 3)=some (TypeDesc.int IntKind.i64)
 a3:∀w,(Go.isAgg (ρ.t 3)).run P w=.ok false w
 z3:∀w,(Go.sizeOf (ρ.t 3)).run P w=.ok 1 w
 v3:∀w,(zeroValue (ρ.t 3)).run P w=.ok (Value.int IntKind.i64 0) w
 t4:P.underlying (ρ.t 4)=some (TypeDesc.bool)
 a4:∀w,(Go.isAgg (ρ.t 4)).run P w=.ok false w
 z4:∀w,(Go.sizeOf (ρ.t 4)).run P w=.ok 1 w
 v4:∀w,(zeroValue (ρ.t 4)).run P w=.ok (Value.bool false) w
 t22:P.underlying (ρ.t 22)=some (TypeDesc.slice (ρ.t 23))
 a22:∀w,(Go.isAgg (ρ.t 22)).run P w=.ok false w
 z22:∀w,(Go.sizeOf (ρ.t 22)).run P w=.ok 1 w
 v22:∀w,(zeroValue (ρ.t 22)).run P w=.ok (Value.slice none 0 0) w
 z23:∀w,(Go.sizeOf (ρ.t 23)).run P w=.ok k w
 v23:∀w,(zeroValue (ρ.t 23)).run P w=.ok z w
theorem Zle{P:Program}{ρ:Ren}{k:Nat}{z:Value}(L:DelLay P ρ k z)(i0:TypeInfo)(rG:P.info? (ρ.t 23)=some i0)(tD:i0.size=k)(hk:z.cells.size=k)
  (blk off n cap i j:Nat) (cs:List Value) (w:World) (aH:cs.length=n*k) (hH:∀(q:Nat)(u:Value),cs[q]?=some u->w.cell? ⟨blk,off+q,none⟩=some u/\w.frozen? ⟨blk,off+q,none⟩=false) (h1:∀u∈cs,u.oneCell'=true)
  (hz:∀m,∀u∈(Builtin.zeroCells z.cells m).toList,u.oneCell'=true)
  (cO:n<=cap) (hm:n<=9223372036854775807) (rF:i < j) (hj:j<=n):
  Calls P (ρ.f 45) #[.slice (some ⟨blk,off,none⟩) n cap,.int .i64 i,.int .i64 j] w λe w'=>e=.returned (.slice (some ⟨blk,off,none⟩) (n - (j - i)) cap)/\
   w'=(w.drew.setCells blk (off+i*k) (cs.drop (j*k))).setCells blk (off+(n - (j - i))*k) (Builtin.zeroCells z.cells (j - i)).toList:=by
 have mixed:=L.mixed;have t0:=L.t0;have a0:=L.a0;have z0:=L.z0;have v0:=L.v0;have t3:=L.t3;have a3:=L.a3;have z3:=L.z3;have v3:=L.v3;have t4:=L.t4;have a4:=L.a4;have z4:=L.z4;have v4:=L.v4;have t22:=L.t22;have a22:=L.a22;have z22:=L.z22;have v22:=L.v22;have z23:=L.z23
 obtain⟨Z,hZ⟩:∃Z,(Builtin.zeroCells z.cells (j - i)).toList=Z:=⟨_,rfl⟩
 rw[hZ]
 obtain⟨news,fx⟩:∃news,news=cs.drop (j*k):=⟨_,rfl⟩
 have nK:news.length=(n - j)*k:=by rw[fx,List.length_drop,aH,Nat.sub_mul]
 obtain⟨A,hA,tE⟩:∃A:Addr,(if cap=j then some (⟨blk,off,none⟩:Addr)else some ⟨blk,off+j*k,none⟩)=some A/\Hid (∀t u,news[t]?=some u->w.drew.cell? (A.add t)=some u):=by
  by_cases h:cap=j
  ·refine⟨⟨blk,off,none⟩,by simp[h],λt u hu=>?_⟩
   have h0:news.length=0:=by rw[nK,show n - j=0 by omega,Nat.zero_mul]
   rw[List.length_eq_zero_iff.1 h0]at hu
   simp at hu
  ·refine⟨⟨blk,off+j*k,none⟩,by simp[h],λt u hu=>?_⟩
   rw[fx,List.getElem?_drop]at hu
   rw[Addr.add_lit,Nat.add_assoc]
   exact(hH _ _ hu).1
 have s2:Hid (∀u∈news,u.oneCell'=true):=λu hu=>h1 u (by rw[fx]at hu;exact List.mem_of_mem_drop hu)
 have oi:(i+(n - j))*k=i*k+(n - j)*k:=Nat.add_mul _ _ _
 have bQ:(i+(n - j))*k<=n*k:=Nat.mul_le_mul_right _ (by omega)
 have s3:Hid (∀t,t < news.length->(w.drew.cell? ⟨blk,off+i*k+t,none⟩).isSome=true/\w.drew.frozen? ⟨blk,off+i*k+t,none⟩=false):=by
  intro t ht
  rw[nK]at ht
  have hb:i*k+t < cs.length:=by rw[aH];omega
  have h:=hH (i*k+t) cs[i*k+t] (zA3 hb)
  rw[<-Nat.add_assoc]at h
  exact⟨by show(w.cell? _).isSome=true;rw[h.1];rfl,h.2⟩
 have s1:Hid (news.length=(n - j)*k):=nK
 obtain⟨W1,rH⟩:∃W1,W1=w.drew.setCells blk (off+i*k) news:=⟨_,rfl⟩
 have hW:Hid (W1=w.drew.setCells blk (off+i*k) news):=rH
 have yX:i<=cap:=by omega
 have xn:j<=cap:=by omega
 have fK:∀ty,(Builtin.clear_ #[ρ.t 22] ty #[.slice (some ⟨blk,off+(i+(n - j))*k,none⟩) (n - (i+(n - j))) (cap - (i+(n - j)))]).run P W1=.ok (.tuple #[]) (W1.setCells blk (off+(i+(n - j))*k) Z):=by
  intro ty
  have hT:∀t,t < (Builtin.zeroCells z.cells (n - (i+(n - j)))).toList.length->(w.drew.cell? ⟨blk,off+((i+(n - j))*k+t),none⟩).isSome=true/\w.drew.frozen? ⟨blk,off+((i+(n - j))*k+t),none⟩=false:=by
   intro t ht
   have hl:(Builtin.zeroCells z.cells (n - (i+(n - j)))).toList.length=(n - (i+(n - j)))*k:=by simp[Builtin.zeroCells,hk,Nat.mul_comm]
   rw[hl,Nat.sub_mul]at ht
   have hb:(i+(n - j))*k+t < cs.length:=by rw[aH];omega
   have h:=hH _ _ (zA3 hb)
   exact⟨by show(w.cell? _).isSome=true;rw[h.1];rfl,h.2⟩
  rw[<-hZ,show j - i=n - (i+(n - j)) by omega]
  exact ZgE W1 _ _ ty z t22 L.v23 (hz _) blk _ _ (by omega) (λt ht=>by rw[rH];exact World.isSome_setCells _ _ _ _ _ (by rw[Nat.add_assoc];exact(hT t ht).1)) (λt ht=>by rw[rH,World.frozen?_setCells,Nat.add_assoc];exact(hT t ht).2)
 have hN:Hid (news=cs.drop (j*k)):=fx
 clear rH oi bQ fx nK hZ hz hk
 obtain⟨_,_,FG⟩:=L.f45
 go_enter FG,SlBodyN.n45_ntmps ρ
 go_wp2_with fail
 go_region_law_o (refine step_append_room rfl (.tmp 22) (.tmp 25) (ρ.t 22) rfl (ρ.t 23) i0 k t22 rG tD blk off i cap (by simp[Act.eval,Act.put]) A (n - j) (cap - j) news (by simp[Act.eval,Act.put]) s1.out tE.out s2.out (by omega) s3.out ?_;rw[<-hW.out])
 go_wp2
 go_ret
 refine⟨by rw[show n - (j - i)=i+(n - j) by omega];rfl,?_⟩
 rw[hW.out,hN.out,show n - (j - i)=i+(n - j) by omega]
end Go.Rx
namespace Go.Rx
open Go Go.Eng Go.RowKit Go.Shelf
theorem ZfK(b:Nat):∀(vs:List Value)(o:Nat)(w:World),(w.setCells b o vs).os=w.os/\(w.setCells b o vs).tape=w.tape/\(w.setCells b o vs).output=w.output/\(w.setCells b o vs).heap.size=w.heap.size
 | [],_,_=>⟨rfl,rfl,rfl,rfl⟩
 | v::r,o,w=>by
  obtain⟨h1,h2,h3,h4⟩:=ZfK b r (o+1) (w.setCell ⟨b,o,none⟩ v)
  exact⟨h1,h2,h3,h4.trans (by simp[World.setCell])⟩
theorem Zcz(b:Nat){k:Nat}(hk:k≠b):∀(vs:List Value)(o:Nat)(w:World),(w.setCells b o vs).heap[k]?=w.heap[k]?
 | [],_,_=>rfl
 | v::r,o,w=>by
  rw[World.setCells,Zcz b hk r (o+1)]
  simp[World.setCell,Array.getElem?_modify,Ne.symm hk]
theorem Zd4(b:Nat):∀(vs:List Value)(o:Nat)(w:World){c:Array Value}{T:TypeId}{fr:Nat×Nat},w.heap[b]?=some (.cells c T fr)->∃c':Array Value,(w.setCells b o vs).heap[b]?=some (.cells c' T fr)/\c'.size=c.size
 | [],_,_,c,_,_,h=>⟨c,h,rfl⟩
 | v::r,o,w,c,T,fr,h=>by
  have h1:(w.setCell ⟨b,o,none⟩ v).heap[b]?=some (.cells (c.setIfInBounds o v) T fr):=by
   simp[World.setCell,Array.getElem?_modify,h]
  obtain⟨c',h2,h3⟩:=Zd4 b r (o+1) (w.setCell ⟨b,o,none⟩ v) h1
  exact⟨c',h2,by rw[h3];simp⟩
theorem ZgF(b o:Nat)(vs:List Value)(w:World){c:Array Value}{T:TypeId}{fr:Nat×Nat}(h:w.heap[b]?=some (.cells c T fr)):Upd (λk=>k=b) w (w.setCells b o vs):=by
 obtain⟨h1,h2,h3,h4⟩:=ZfK b vs o w
 refine⟨h1,h2,h3,by omega,λk _ hk=>Zcz b hk vs o w,λk hk hw=>?_⟩
 by_cases e:k=b
 ·subst e
  obtain⟨c',h5,h6⟩:=Zd4 k vs o w h
  intro c2 T2 fr2 hh q hq
  rw[h5]at hh
  simp only[Option.some.injEq,Obj.cells.injEq]at hh
  obtain⟨rfl,rfl,rfl⟩:=hh
  exact hw c T fr h q (by omega)
 ·exact hw.of_eq (Zcz b e vs o w)
theorem Upd.tr{M:Nat->Prop}{a b c:World}(h:Upd M a b)(k:Upd M b c):Upd M a c:=
 ⟨k.os.trans h.os,k.tape.trans h.tape,k.output.trans h.output,Nat.le_trans h.size k.size,λq hq hm=>(k.block q (Nat.lt_of_lt_of_le hq h.size) hm).trans (h.block q hq hm),λq hq hw=>k.wr q (Nat.lt_of_lt_of_le hq h.size) (h.wr q hq hw)⟩
theorem Zkz{α:Type}{cs:α->List Value}{n:Nat}(hn:∀x,(cs x).length=n):∀(l:List α)(i:Nat),((l.eraseIdx i).map cs).flatten=(l.map cs).flatten.take (i*n)++(l.map cs).flatten.drop ((i+1)*n)
 | [],_=>by simp
 | x::l,0=>by
  simp only[List.eraseIdx_zero,List.tail_cons,List.map_cons,List.flatten_cons,Nat.zero_mul,List.take_zero,List.nil_append,Nat.zero_add,Nat.one_mul]
  rw[<-hn x,List.drop_left]
 | x::l,i+1=>by
  have e1:(i+1)*n=(cs x).length+i*n:=by rw[hn,Nat.succ_mul];omega
  have e2:(i+1+1)*n=(cs x).length+(i+1)*n:=by rw[hn,Nat.succ_mul (i+1)];omega
  simp only[List.eraseIdx_cons_succ,List.map_cons,List.flatten_cons]
  have e3:((cs x)++(l.map cs).flatten).take ((i+1)*n)=cs x++(l.map cs).flatten.take (i*n):=by rw[e1,List.take_length_add_append]
  have e4:((cs x)++(l.map cs).flatten).drop ((i+1+1)*n)=(l.map cs).flatten.drop ((i+1)*n):=by rw[e2,List.drop_length_add_append]
  rw[Zkz hn l i,e3,e4,List.append_assoc]
theorem Zsw{P:Program}{ρ:Ren}{k:Nat}{z:Value}(L:DelLay P ρ k z)(i0:TypeInfo)(rG:P.info? (ρ.t 23)=some i0)(tD:i0.size=k)(hk:z.cells.size=k)(jY:Zee P (ρ.f 45))(h0:0 < k)
  (tq:(Builtin.zeroCells z.cells 1).toList=z.cells.toList) (xo:∀m,∀u∈(Builtin.zeroCells z.cells m).toList,u.oneCell'=true)
  {α:Type} {cs:α->List Value} (hn:∀x,(cs x).length=k) (h1:∀x,∀u∈cs x,u.oneCell'=true) (l:List α) (b c i:Nat) (T:TypeId) (cap:Nat) (m:Mem) (hi:i < l.length) (hc:l.length<=c) (hm:l.length<=9223372036854775807):
  CX P (ρ.f 45) #[.slice (some ⟨b,0,none⟩) l.length c,.int .i64 i,.int .i64 (i+1:Nat)] m [⟨b,(l.map cs).flatten,T,cap,false,false⟩] (λv m' css=>v=.slice (some ⟨b,0,none⟩) (l.length - 1) c/\css=[((l.eraseIdx i).map cs).flatten++z.cells.toList]):=by
 refine⟨jY,λw hs hX _=>?_⟩
 obtain⟨dU,_⟩:=hX _ (List.mem_singleton.2 rfl)
 have gO:=dU.wr
 have aH:(l.map cs).flatten.length=l.length*k:=ZaU hn l
 have nN:0 < l.length*k:=Nat.mul_pos (by omega) h0
 obtain⟨sp,fr,xp,tF,tG⟩:=dU.cells
 obtain⟨cur,gt⟩:∃cur,cur=((l.map cs).flatten++sp).toArray:=⟨_,rfl⟩
 have hh:w.heap[b]?=some (.cells cur T fr):=by rw[gt];exact xp
 have bO:∀(q:Nat)(u:Value),(l.map cs).flatten[q]?=some u->w.cell? ⟨b,q,none⟩=some u:=λq u hu=>dU.cell hu
 have aC:∀q,q < l.length*k->q < cur.size:=λq hq=>by
  have:=bO q _ (zA3 (by omega))
  simp only[World.cell?,hh,Option.isSome_none,Bool.false_eq_true,if_false]at this
  exact(Array.getElem?_eq_some_iff.1 this).1
 have hH:∀(q:Nat)(u:Value),(l.map cs).flatten[q]?=some u->w.cell? ⟨b,0+q,none⟩=some u/\w.frozen? ⟨b,0+q,none⟩=false:=λq u hu=>by
  rw[Nat.zero_add]
  refine⟨bO q u hu,?_⟩
  have hq:=(zA0 hu).1
  have h2:=gO cur T fr hh q (aC q (by omega))
  obtain⟨f1,f2⟩:=fr
  simp only[World.frozen?,hh,Bool.and_eq_false_iff,decide_eq_false_iff_not]
  simp only at h2
  omega
 have h1':∀u∈(l.map cs).flatten,u.oneCell'=true:=λu hu=>by
  simp only[List.mem_flatten,List.mem_map]at hu
  obtain⟨_,⟨x,_,rfl⟩,hu⟩:=hu
  exact h1 x u hu
 refine(Zle L i0 rG tD hk b 0 l.length c i (i+1) (l.map cs).flatten w aH hH h1' xo hc hm (by omega) (by omega)).mono ?_
 rintro e w' ⟨rfl,rfl⟩
 rw[show i+1 - i=1 by omega,Nat.zero_add,Nat.zero_add,tq]
 obtain⟨news,fx⟩:∃news,news=(l.map cs).flatten.drop ((i+1)*k):=⟨_,rfl⟩
 rw[<-fx]
 have jQ:(i+1)*k<=l.length*k:=Nat.mul_le_mul_right _ (by omega)
 have xq:(i+1)*k=i*k+k:=Nat.succ_mul i k
 have nK:news.length=l.length*k - (i+1)*k:=by rw[fx,List.length_drop,aH]
 have ie:(l.length - 1)*k+k=l.length*k:=by
  have:l.length=l.length - 1+1:=by omega
  rw[this,Nat.succ_mul];rfl
 have vA:w.drew.heap[b]?=some (.cells cur T fr):=hh
 obtain⟨c1,g1,g2⟩:=Zd4 b news (i*k) w.drew vA
 obtain⟨c2,g3,g4⟩:=Zd4 b z.cells.toList ((l.length - 1)*k) (w.drew.setCells b (i*k) news) g1
 have ln:Upd (λq=>q=b) w w.drew:=⟨rfl,rfl,rfl,Nat.le_refl _,λ_ _ _=>rfl,λ_ _ h=>h⟩
 have hU:=Upd.tr (Upd.tr ln (ZgF b (i*k) news w.drew vA)) (ZgF b ((l.length - 1)*k) z.cells.toList _ g1)
 have ia:z.cells.toList.length=k:=by simpa using hk
 have eM:(((l.eraseIdx i).map cs).flatten++z.cells.toList).length=l.length*k:=by
  rw[zA1,ia,ZaU hn,List.length_eraseIdx,if_pos hi];exact ie
 have some1:∀q,q < cur.size->(w.drew.cell? ⟨b,q,none⟩).isSome=true:=λq hq=>by
  show(w.cell? ⟨b,q,none⟩).isSome=true
  simp[World.cell?,hh,hq]
 have some2:∀q,q < cur.size->((w.drew.setCells b (i*k) news).cell? ⟨b,q,none⟩).isSome=true:=λq hq=>by
  simp[World.cell?,g1,g2,hq]
 have at_:∀q,((w.drew.setCells b (i*k) news).setCells b ((l.length - 1)*k) z.cells.toList).cell? ⟨b,q,none⟩=if q < l.length*k then(((l.eraseIdx i).map cs).flatten++z.cells.toList)[q]? else w.cell? ⟨b,q,none⟩:=λq=>by
  have vB:((l.eraseIdx i).map cs).flatten.length=(l.length - 1)*k:=by rw[ZaU hn,List.length_eraseIdx,if_pos hi]
  by_cases hq:q < l.length*k
  ·rw[if_pos hq]
   by_cases pA:(l.length - 1)*k<=q
   ·have:=World.cell?_setCells_in b z.cells.toList ((l.length - 1)*k) (w.drew.setCells b (i*k) news) (λj hj=>some2 _ (aC _ (by omega))) (q - (l.length - 1)*k) (by omega)
    rw[show(l.length - 1)*k+(q - (l.length - 1)*k)=q by omega]at this
    rw[this,zA4 (by omega),vB]
    exact(zA3 _).symm
   ·rw[World.cell?_setCells_out b _ _ _ _ (λ_ _=>.inl (by show q < _;omega)),zA5 (by omega),Zkz hn]
    by_cases sw:i*k<=q
    ·have:=World.cell?_setCells_in b news (i*k) w.drew (λj hj=>some1 _ (aC _ (by omega))) (q - i*k) (by omega)
     rw[show i*k+(q - i*k)=q by omega]at this
     have gk:((l.map cs).flatten.take (i*k)).length=i*k:=by rw[List.length_take,aH];omega
     rw[this,zA4 (by omega),gk,<-fx]
     exact(zA3 _).symm
    ·have gk:((l.map cs).flatten.take (i*k)).length=i*k:=by rw[List.length_take,aH];omega
     rw[World.cell?_setCells_out b _ _ _ _ (λ_ _=>.inl (by show q < _;omega)),zA5 (by omega),List.getElem?_take_of_lt (by omega)]
     have pB:q < (l.map cs).flatten.length:=by omega
     rw[zA3 pB]
     exact bO q _ (zA3 pB)
  ·rw[if_neg hq,World.cell?_setCells_out b _ _ _ _ (λ_ _=>.inr (by show _<=q;omega)),World.cell?_setCells_out b _ _ _ _ (λ_ _=>.inr (by show _<=q;omega))]
   rfl
 obtain⟨full,vC⟩:∃full,full=((l.eraseIdx i).map cs).flatten++z.cells.toList:=⟨_,rfl⟩
 rw[<-vC]at eM ⊢
 rw[<-vC]at at_
 have mt:((l.map cs).flatten++sp).length=l.length*k+sp.length:=by rw[zA1,aH]
 have tH:c2=(full++sp).toArray:=by
  refine Array.ext' (List.ext_getElem? λq=>?_)
  have h5:=at_ q
  simp only[World.cell?,g3,hh,Option.isSome_none,Bool.false_eq_true,if_false]at h5
  rw[Array.getElem?_toList,h5]
  by_cases hq:q < l.length*k
  ·rw[if_pos hq,zA5 (by rw[eM];exact hq)]
  ·rw[if_neg hq,zA4 (by rw[eM];omega),eM,gt]
   simp only[List.getElem?_toArray]
   rw[zA4 (by rw[aH];omega),aH]
 have hb:∀q,q≠b->((w.drew.setCells b (i*k) news).setCells b ((l.length - 1)*k) z.cells.toList).heap[q]?=w.heap[q]?:=λq hq=>(Zcz b hq _ _ _).trans (Zcz b hq _ _ w.drew)
 refine⟨_,m,[full],rfl,Mem.le_refl m,⟨λb1 o1 v hv=>?_,λb1 e he=>?_⟩,NewM.refl _ _,⟨hU.os,hU.tape,hU.output,hU.size,λq _ hn=>hb q (by simpa using hn),hU.wr⟩,rfl,λi' x cs' hx bL=>?_,rfl,rfl⟩
 ·have cN:b1≠b:=λe=>by
   subst e
   rw[dU.free rfl o1]at hv;cases hv
  rw[<-hs _ _ _ hv]
  exact ZbE (hb b1 cN) o1
 ·have:=hs.k b1 e he
  have cN:b1≠b:=λe=>by
   subst e
   obtain⟨es,cl,h8,_⟩:=this
   rw[hh]at h8;cases h8
  exact this.same (hb b1 cN)
 ·cases i' with
  | succ n=>simp at hx
  | zero=>
   simp at hx bL
   subst hx bL
   refine⟨⟨sp,fr,by rw[<-tH];exact g3,?_,?_⟩,λ_=>dU.free rfl,λh=>(by cases h),λh=>(by cases h)⟩
   ·have cO:((l.map cs).flatten++sp).length=cap:=tF
    show(full++sp).length=cap
    rw[<-cO,mt,zA1,eM]
   ·exact tG
end Go.Rx
namespace Go.Rx
open Go Go.Eng
set_option maxRecDepth 100000
def aeN:E:=.node 9 0 ⟨#[110]⟩ 0 none 0 []
def aeC(x:Nat):E:=.node 8 x ⟨#[]⟩ 0 none 0 []
def aeO(k:Int)(a:Option Addr)(x:Nat):E:=.node k 0 ⟨#[]⟩ 0 a 2 [aeN,aeC x]
def aeX:T:=.node 2 0 72057594037927936 0 0 0 0 none 0 []
def aeY:T:=.node 2 0 144115188075855872 0 0 0 0 none 0 []
def aeG(g:Option Addr):T:=.node 6 0 0 0 0 0 0 g 1 [aeX]
def aeR(g r:Option Addr):T:=.node 5 0 0 0 0 1 (-1) r 1 [aeG g]
def aeT(g r c:Option Addr):T:=.node 3 0 0 0 0 0 0 c 2 [aeR g r,aeY]
def aeE:E:=.node 0 0 ⟨#[]⟩ 0 none 0 []
def ZAH:Pt:=⟨3,⟨#[]⟩,1,aeE⟩
def ZAI(s:Option Addr):Pt:=⟨4,⟨#[]⟩,0,aeO 4 s 4611686018427387904⟩
def ZAj(l:Option Addr):Ac:=⟨3,⟨#[110]⟩,none,0,[],aeO 2 l 4607182418800017408⟩
def ZAk(s p:Option Addr):Ac:=⟨1,⟨#[]⟩,p,2,[ZAH,ZAI s],aeE⟩
def ZqL(g r c l s p a:Option Addr):Ru:=⟨1,false,false,aeT g r c,⟨#[]⟩,0,a,2,[ZAj l,ZAk s p],⟨#[98]⟩,0⟩
def ZAl:T:=.node 0 0 0 0 0 0 0 none 0 []
def ZvI:Ru:=⟨4,false,false,ZAl,⟨#[]⟩,5,none,0,[],⟨#[]⟩,1⟩
def ZwF:Ru:=⟨3,false,false,ZAl,⟨#[]⟩,0,none,0,[],⟨#[]⟩,0⟩
def aeS(g r c v l s p a r1 r2 S:Option Addr):Sc:=⟨9,v,1,[⟨⟨#[110]⟩,true,⟨#[]⟩,0⟩],S,2,[⟨⟨#[97]⟩,r1,2,[ZqL g r c l s p a,ZvI]⟩,⟨⟨#[98]⟩,r2,1,[ZwF]⟩]⟩
section
variable (g r c v l s p a r1 r2 S:Option Addr)
theorem ZuL:(aeS g r c v l s p a r1 r2 S).light=true:=by kernel_rfl
theorem Zsx:(aeS g r c v l s p a r1 r2 S).places.length=11:=by kernel_rfl
theorem Zsy:(aeS g r c v l s p a r1 r2 S).places[5]?=some ⟨-1,0,0,1,-1⟩:=by kernel_rfl
theorem ZwG:Zip (aeS g r c v l s p a r1 r2 S)=msV 2 3 5 2 2 2:=by kernel_rfl
theorem ZuM:Zip (Zin (aeS g r c v l s p a r1 r2 S) 0 0)=msV 2 2 0 0 0 0:=by kernel_rfl
theorem ZuN:Zsu false (ZqL g r c l s p a)=[⟨#[110]⟩]:=by kernel_rfl
theorem Zsz:Zsu true (ZqL g r c l s p a)=[⟨#[110]⟩]:=by kernel_rfl
theorem ZwH:ZwE (ZqL g r c l s p a)=1:=by kernel_rfl
theorem ZwI:ZxF (aeS g r c v l s p a r1 r2 S).states ⟨⟨#[97]⟩,r1,2,[ZqL g r c l s p a,ZvI]⟩=[1]:=by
 have h:Zld (aeS g r c v l s p a r1 r2 S).states [ZqL g r c l s p a,ZvI]=[1]:=by kernel_rfl
 unfold ZxF
 show ZtG (Zld _ [ZqL g r c l s p a,ZvI])=_
 rw[h]
 exact ZnP (List.pairwise_singleton _ _)
theorem ZwJ:ZxF (aeS g r c v l s p a r1 r2 S).states ⟨⟨#[98]⟩,r2,1,[ZwF]⟩=[]:=by
 have h:Zld (aeS g r c v l s p a r1 r2 S).states [ZwF]=[]:=by kernel_rfl
 unfold ZxF
 show ZtG (Zld _ [ZwF])=_
 rw[h]
 exact ZnP List.Pairwise.nil
end
theorem ZuO(q:E->Bool)(hq:∀x:E,q x.er=q x):∀l:List E,ZlX q (l.map E.er)=ZlX q l
 | []=>rfl
 | x::l=>by rw[List.map_cons,Zjf,Zjf,ZuO q hq l,hq]
theorem ZtK(e:E):ZnJ e.er=ZnJ e:=by
 unfold ZnJ
 rw[Ze2,Ze1,ZuO _ λx=>by cases x;rfl]
theorem ZwK(e:E):vrE e.er=vrE e:=by
 unfold vrE
 rw[Ze1,ZuO _ λx=>by cases x;rfl]
theorem ZyD(a:Ac):paA a.er=paA a:=ZcL paP Pt.er (λp=>rfl) a.parts
theorem ZwL(a:Ac):ZoK a.er=ZoK a:=by
 unfold ZoK
 have h:=ZcL ZoJ Pt.er (λp=>by show(if p.k=4 then ZnJ p.e.er else 0)=_;rw[ZtK];rfl) a.parts
 show(if a.k=3 then ZnJ a.e.er else 0)+Zaw ((a.parts.map Pt.er).map ZoJ)=_
 rw[h,ZtK]
theorem ZyE(a:Ac):vrA a.er=vrA a:=by
 unfold vrA
 have h:=ZcL vrP Pt.er (λp=>by show(if p.k=4 then vrE p.e.er else 0)=_;rw[ZwK];rfl) a.parts
 show(if a.k=3 then vrE a.e.er else 0)+Zaw ((a.parts.map Pt.er).map vrP)=_
 rw[h,ZwK]
theorem ZqM{α β:Type}{f:α->α}{h:β->β}{k:α->List β}(e:∀x,k (f x)=(k x).map h):∀l:List α,(l.map f).flatMap k=(l.flatMap k).map h
 | []=>rfl
 | x::l=>by simp only[List.map_cons,List.flatMap_cons,List.map_append,e,ZqM e l]
theorem ZqN(s:Sc):Zbz s.er=(Zbz s).map Ac.er:=ZqM (f:=Sta.er) (k:=Zkx) (λx=>ZqM (f:=Ru.er) (k:=λr:Ru=>r.acts) (λr=>rfl) x.rules) s.states
theorem ZqO(s:Sc):Zip s.er=Zip s:=by
 have h1:ms1 s.er=ms1 s:=by
  show Zaw ((s.states.map Sta.er).map ruS)=_
  exact ZcL ruS Sta.er (λx=>by show((x.rules.map Ru.er).length:Int)=x.rules.length;rw[List.length_map]) s.states
 have h2:ms2 s.er=ms2 s:=by
  show Zaw ((s.states.map Sta.er).map rgS)=_
  exact ZcL rgS Sta.er (λx=>ZcL rgR Ru.er (λr=>by show(if r.k=1 then r.t.er.size else 0)=_;rw[Ztz];rfl) x.rules) s.states
 have h3:ms3 s.er=ms3 s:=by unfold ms3;rw[ZqN];exact ZcL paA Ac.er ZyD _
 have h4:ms4 s.er=ms4 s:=by unfold ms4;rw[ZqN];exact ZcL ZoK Ac.er ZwL _
 have h5:ms5 s.er=ms5 s:=by unfold ms5;rw[ZqN];exact ZcL vrA Ac.er ZyE _
 unfold Zip
 rw[Zjb,h1,h2,h3,h4,h5,show s.er.states.length=s.states.length from List.length_map _]
theorem ZqP{s s':Sc}(h:s'.er=s.er):Zip s'=Zip s:=by rw[<-ZqO s',h,ZqO]
end Go.Rx
namespace Go.Rx
open Go Go.Eng Go.RowKit
theorem ZqQ{α:Type}{Zgb:α->List Value}{k:Nat}(hk:∀z,(Zgb z).length=k){m:Mem}{b:Nat}:∀{L:List α} {o:Nat},(∀i z,L[i]?=some z->m.reads b (o+i*k) (Zgb z))->m.reads b o (L.map Zgb).flatten
 | [],o,h=>λj v hj=>by simp at hj
 | x::L,o,h=>λj v hj=>by
  rw[List.map_cons,List.flatten_cons]at hj
  by_cases aC:j < k
  ·rw[zA5 (by rw[hk];exact aC)]at hj
   have:=h 0 x rfl j v hj
   rwa [Nat.zero_mul,Nat.add_zero]at this
  ·rw[zA4 (by rw[hk];omega),hk]at hj
   have:=ZqQ hk (L:=L) (o:=o+k) (λi z hz=>by
    have:=h (i+1) z (by simpa using hz)
    rwa [show o+(i+1)*k=o+k+i*k by rw[Nat.succ_mul];omega]at this) (j - k) v hj
   rwa [show o+k+(j - k)=o+j by omega]at this
theorem ZyF{m:Mem}{b o:Nat}{vs:List Value}{j:Nat}{v:Value}(h:vs[j]?=some v):(m.upd b o vs) b (o+j)=some v:=by
 have hj:=(zA0 h).1
 unfold Mem.upd;dsimp only
 rw[if_pos ⟨rfl,by omega,by omega⟩,Nat.add_sub_cancel_left];exact h
theorem ZwM{m:Mem}{b o q:Nat}{vs:List Value}(h:q < o\/o+vs.length<=q):(m.upd b o vs) b q=m b q:=by
 unfold Mem.upd;dsimp only
 rw[if_neg (by omega)]
theorem ZqR{α:Type}{cs:α->List Value}{n:Nat}(hn:∀x,(cs x).length=n)(h0:0 < n){m:Mem}{b:Nat}{L:List α}{k:Nat}{y:α}(h:rowRd m (some ⟨b,0,none⟩) (L.map cs).flatten)(hk:k < L.length):rowRd (m.upd b (0+k*n) (cs y)) (some ⟨b,0,none⟩) ((L.set k y).map cs).flatten:=by
 refine .inr ⟨b,0,rfl,ZqQ hn λi z hz j v hj=>?_⟩
 have tI:j < n:=by have:=(zA0 hj).1;rwa [hn]at this
 by_cases jQ:i=k
 ·subst jQ
  rw[List.getElem?_set_self hk]at hz
  cases hz
  exact ZyF hj
 ·rw[List.getElem?_set_ne (Ne.symm jQ)]at hz
  obtain⟨b',o',ha,cF⟩:=Zaj hn h hz h0
  cases ha
  rw[ZwM,cF j v hj]
  rw[hn]
  rcases Nat.lt_or_ge i k with h|h
  ·have:=Nat.mul_le_mul_right n (show i+1<=k by omega)
   rw[Nat.succ_mul]at this
   omega
  ·have:=Nat.mul_le_mul_right n (show k+1<=i by omega)
   rw[Nat.succ_mul]at this
   omega
def Zrq(x:Sta)(k:Nat)(r:Ru):Sta:=⟨x.s,x.ra,x.rc,x.rules.set k r⟩
def ZxG(s:Sc)(i k:Nat)(r:Ru):Sc:=match s.states[i]? with
 | some x=>⟨s.n,s.va,s.vc,s.vars,s.sa,s.sc,s.states.set i (Zrq x k r)⟩
 | none=>s
theorem ZwN{x x':Sta}(h:x'.er=x.er){r r':Ru}(hr:r'.er=r.er)(k:Nat):(Zrq x' k r').er=(Zrq x k r).er:=by
 obtain⟨h1,h2,_⟩:=ZfG h
 simp only[Zrq,Sta.er,h1,Sta.mk.injEq,true_and]
 rw[List.map_set,List.map_set,h2,hr]
theorem ZtL{s s':Sc}{i:Nat}{x x':Sta}(jl:s'.er=s.er)(hx:s.states[i]?=some x)(j9:x'.er=x.er){r r':Ru}(hr:r'.er=r.er)(k:Nat):(⟨s'.n,s'.va,s'.vc,s'.vars,s'.sa,s'.sc,s'.states.set i (Zrq x' k r')⟩:Sc).er=(ZxG s i k r).er:=by
 have h1:=ZnC jl
 have h2:ZxG s i k r=⟨s.n,s.va,s.vc,s.vars,s.sa,s.sc,s.states.set i (Zrq x k r)⟩:=by unfold ZxG;rw[hx]
 rw[h2]
 exact Zma h1.1 h1.2 (by rw[List.map_set,List.map_set,Ze3 jl,ZwN j9 hr])
theorem ZwO(x:Sta)(k:Nat)(r:Ru):(Zrq x k r).cs=x.cs:=by simp only[Zrq,Sta.cs,List.length_set]
theorem ZtM{m2 m3 M:Mem}{s':Sc}{bS bR i k:Nat}{μ:Nat->Mem}{x':Sta}{r:Ru}(cM:RepC (nw m2 m3) s')(cR:SepC m2 m3 s' bS μ)(hx':s'.states[i]?=some x')(iO:x'.ra=some ⟨bR,0,none⟩)(hk:k < x'.rules.length)
  (jR:∀r∈x'.rules,RepR ((μ i).off λq=>q=bR) r) (hM:(m3.off λq=>q=bR).le M) (aB:rowRd M (some ⟨bR,0,none⟩) ((x'.rules.set k r).map Ru.cs).flatten) (hr:RepR M r):
  RepC M ⟨s'.n,s'.va,s'.vc,s'.vars,s'.sa,s'.sc,s'.states.set i (Zrq x' k r)⟩:=by
 have hi:=(zA0 hx').1
 obtain⟨j8,mt,bQ,mB⟩:=cR.all i x' hx'
 have kno:∀{ν:Mem},ν.le (nw m2 m3)->∀b,ν.k b=none:=λh b=>Zd3 h rfl
 have iE:¬(μ i).free bR:=λhf=>by
  rcases j8.row with h|⟨b,o,ha,h⟩
  ·have:=congrArg List.length h
   rw[ZaU Ru.len]at this;simp at this;omega
  ·rw[iO]at ha;cases ha
   have aC:0 < (x'.rules.map Ru.cs).flatten.length:=by rw[ZaU Ru.len];omega
   have:=h 0 _ (zA3 aC)
   rw[hf]at this;cases this
 have og:bS≠bR:=λe=>iE (e ▸ mB)
 have off:∀{ν:Mem},ν.le (nw m2 m3)->ν.free bR->ν.le M:=λh1 h2=>mLt (ZfT (Y:=λq=>q=bR) (mLt h1 (Zec _ _)) λb e=>⟨by rw[show b=bR from e];exact h2,kno h1 b⟩) hM
 have aY:∀j,j < s'.states.length->j≠i->(μ j).free bR:=λj hj cN=>by
  rcases Nat.lt_or_ge j i with h|h
  ·exact(cR.ap j i h hi bR).resolve_right iE
  ·exact(cR.ap i j (by omega) hj bR).resolve_left iE
 have oh:=cR.sa
 refine⟨cM.n,cM.vlen,?_,cM.vall,by rw[List.length_set];exact cM.len,?_,λy hy=>?_,cM.vcap,by rw[List.length_set];exact cM.scap⟩
 ·obtain⟨μv,h1,h2,h3,h4⟩:=cR.va
  exact h1.mono (off h2 ((h4 i hi bR).resolve_right iE))
 ·have e:(s'.states.set i (Zrq x' k r)).map Sta.cs=s'.states.map Sta.cs:=by
   rw[List.map_set,ZwO]
   have:(s'.states.map Sta.cs)[i]?=some x'.cs:=by rw[List.getElem?_map,hx'];rfl
   exact List.ext_getElem? λj=>by
    by_cases hj:j=i
    ·subst hj
     rw[List.getElem?_set_self (by rw[List.length_map];exact hi),this]
    ·rw[List.getElem?_set_ne (Ne.symm hj)]
  show rowRd M s'.sa ((s'.states.set i (Zrq x' k r)).map Sta.cs).flatten
  rw[e]
  rcases cM.row with h|⟨b,o,ha,h⟩
  ·exact .inl h
  ·refine .inr ⟨b,o,ha,λj v hj=>hM _ _ _ ?_⟩
   rw[oh]at ha;cases ha
   rw[Mem.off_at (Y:=λq=>q=bR) og];exact(Zec m2 m3) _ _ _ (h j v hj)
 ·obtain⟨j,hj⟩:=List.getElem?_of_mem hy
  by_cases iM:j=i
  ·subst iM
   rw[List.getElem?_set_self hi]at hj
   cases hj
   refine⟨j8.s,by show(x'.rules.set k r).length<=few;rw[List.length_set];exact j8.len,?_,λq hq=>?_⟩
   ·show rowRd _ x'.ra ((x'.rules.set k r).map Ru.cs).flatten
    rw[iO];exact aB
   ·rcases List.mem_or_eq_of_mem_set hq with h|rfl
    ·exact(jR q h).mono (mLt (Zim (mLt bQ (Zec _ _))) hM)
    ·exact hr
  ·rw[List.getElem?_set_ne (Ne.symm iM)]at hj
   have my:=(zA0 hj).1
   obtain⟨h1,_,h3,h4⟩:=cR.all j y hj
   exact h1.mono (off h3 (aY j my iM))
section
variable {m2 m3:Mem} {s':Sc} {bS:Nat} {μ:Nat->Mem} (cM:RepC (nw m2 m3) s') (cR:SepC m2 m3 s' bS μ)
include cR
include cM
end
def ZuP(i j i' k':Nat):Prop:=i' < i\/(i'=i/\k' < j)
def ent(x:Sta)(i k:Nat):Dd×Dd:=(((i:Int),((Zs6 x k:Nat):Int)),((i:Int),(k:Int)))
structure Vis (s:Sc)(Z:List (Dd×Dd))(i j:Nat):Prop where
 src:∀q∈Z,∃(i' k':Nat)(x:Sta)(r:Ru),q=ent x i' k'/\s.states[i']?=some x/\x.rules[k']?=some r/\kp r=true/\ZuP i j i' k'
 all:∀(i' k':Nat)(x:Sta)(r:Ru),s.states[i']?=some x->x.rules[k']?=some r->kp r=true->ZuP i j i' k'->ent x i' k'∈Z
 nodup:(Z.map (·.1)).Nodup
theorem Vis.nil(s:Sc):Vis s [] 0 0:=⟨(λq h=>by cases h),(λi' k' x r _ _ _ h=>by unfold ZuP at h;omega),by simp⟩
theorem Vis.skip{s:Sc}{Z:List (Dd×Dd)}{i j:Nat}(h:Vis s Z i j){x:Sta}{r:Ru}(hx:s.states[i]?=some x)(hr:x.rules[j]?=some r)(hk:kp r=false):Vis s Z i (j+1):=by
 refine⟨λq hq=>?_,λi' k' x' r' h1 h2 h3 h4=>?_,h.nodup⟩
 ·obtain⟨i',k',x',r',e,h1,h2,h3,h4⟩:=h.src q hq
  exact⟨i',k',x',r',e,h1,h2,h3,by unfold ZuP at h4 ⊢;omega⟩
 ·refine h.all i' k' x' r' h1 h2 h3 ?_
  by_cases e:i'=i/\k'=j
  ·obtain⟨rfl,rfl⟩:=e
   rw[hx]at h1;cases h1
   rw[hr]at h2;cases h2
   rw[hk]at h3;cases h3
  ·unfold ZuP at h4 ⊢;omega
theorem Vis.put{s:Sc}{Z:List (Dd×Dd)}{i j:Nat}(h:Vis s Z i j){x:Sta}{r:Ru}(hx:s.states[i]?=some x)(hr:x.rules[j]?=some r)(hk:kp r=true):(ent x i j).1 ∉ Z.map (·.1)/\Vis s (Z++[ent x i j]) i (j+1):=by
 have ir:(ent x i j).1 ∉ Z.map (·.1):=by
  intro fg
  obtain⟨q,hq,he⟩:=List.mem_map.1 fg
  obtain⟨i',k',x',r',rfl,h1,h2,h3,h4⟩:=h.src q hq
  obtain⟨e1,e2⟩:(i':Int)=i/\((Zs6 x' k':Nat):Int)=(Zs6 x j:Nat):=by simpa[ent]using he
  obtain rfl:i'=i:=by omega
  rw[hx]at h1;cases h1
  have:=ZuI h2 hr h3 hk (by omega)
  unfold ZuP at h4;omega
 refine⟨ir,⟨λq hq=>?_,λi' k' x' r' h1 h2 h3 h4=>?_,?_⟩⟩
 ·rcases List.mem_append.1 hq with hq|hq
  ·obtain⟨i',k',x',r',e,h1,h2,h3,h4⟩:=h.src q hq
   exact⟨i',k',x',r',e,h1,h2,h3,by unfold ZuP at h4 ⊢;omega⟩
  ·rw[List.mem_singleton]at hq;subst hq
   exact⟨i,j,x,r,rfl,hx,hr,hk,by unfold ZuP;omega⟩
 ·by_cases e:i'=i/\k'=j
  ·obtain⟨rfl,rfl⟩:=e
   rw[hx]at h1;cases h1
   exact List.mem_append_right _ (by simp)
  ·exact List.mem_append_left _ (h.all i' k' x' r' h1 h2 h3 (by unfold ZuP at h4 ⊢;omega))
 ·rw[List.map_append,List.nodup_append]
  refine⟨h.nodup,by simp,λa ha b hb e=>?_⟩
  have hb:b∈[(ent x i j).1]:=hb
  rw[List.mem_singleton]at hb
  subst hb;subst e
  exact ir ha
theorem Vis.next{s:Sc}{Z:List (Dd×Dd)}{i:Nat}{x:Sta}(hx:s.states[i]?=some x)(h:Vis s Z i x.rules.length):Vis s Z (i+1) 0:=by
 refine⟨λq hq=>?_,λi' k' x' r' h1 h2 h3 h4=>h.all i' k' x' r' h1 h2 h3 ?_,h.nodup⟩
 ·obtain⟨i',k',x',r',e,h1,h2,h3,h4⟩:=h.src q hq
  exact⟨i',k',x',r',e,h1,h2,h3,by unfold ZuP at h4 ⊢;omega⟩
 ·by_cases e:i'=i
  ·subst e
   rw[hx]at h1;cases h1
   have:=(zA0 h2).1
   unfold ZuP;omega
  ·unfold ZuP at h4 ⊢;omega
theorem Vis.get{s:Sc}{Z:List (Dd×Dd)}(h:Vis s Z s.states.length 0){d:Dd}(hd:d∈Zww s):(phi s d,d)∈Z:=by
 obtain⟨i,k,x,r,rfl,h1,h2,h3,h4⟩:=Zwz hd
 rw[h4]
 exact h.all i k x r h1 h2 h3 (by have:=(zA0 h1).1;unfold ZuP;omega)
theorem ZqS:∀l r:List Int,ZbM l r=-1\/ZbM l r=0\/ZbM l r=1
 | [],[]=>by simp[ZbM]
 | [],_::_=>by simp[ZbM]
 | _::_,[]=>by simp[ZbM]
 | x::l,y::r=>by
  simp only[ZbM]
  split
  ·simp
  ·split
   ·simp
   ·exact ZqS l r
theorem Zji:∀l r:List Int,ZbM l r=-ZbM r l
 | [],[]=>by simp[ZbM]
 | [],_::_=>by simp[ZbM]
 | _::_,[]=>by simp[ZbM]
 | x::l,y::r=>by
  have ih:=Zji l r
  simp only[ZbM]
  (repeat' split) <;> omega
theorem ZsA(l:List Int):ZbM l l=0:=by have:=Zji l l;omega
theorem ZnR:∀{l r:List Int},ZbM l r=0↔l=r
 | [],[]=>by simp[ZbM]
 | [],_::_=>by simp[ZbM]
 | _::_,[]=>by simp[ZbM]
 | x::l,y::r=>by
  have ih:=ZnR (l:=l) (r:=r)
  simp only[ZbM,List.cons.injEq]
  split
  ·constructor
   ·intro h;omega
   ·rintro⟨h,_⟩;omega
  ·split
   ·constructor
    ·intro h;omega
    ·rintro⟨h,_⟩;omega
   ·rw[ih]
    exact⟨λh=>⟨by omega,h⟩,λh=>h.2⟩
theorem ZkA:∀{a b c:List Int},a.length=b.length->b.length=c.length->ZbM a b < 0->ZbM b c < 0->ZbM a c < 0
 | [],[],[],_,_,h,_=>by simp[ZbM]at h
 | x::a,y::b,z::c,h1,h2,k1,k2=>by
  rw[ZnL]at k1 k2 ⊢
  simp only[List.length_cons,Nat.add_right_cancel_iff]at h1 h2
  rcases k1 with k1|⟨k1,j1⟩ <;> rcases k2 with k2|⟨k2,j2⟩
  ·left;omega
  ·left;omega
  ·left;omega
  ·exact .inr ⟨by omega,ZkA h1 h2 j1 j2⟩
theorem ZtN:∀{l:List Int},(∀x∈l,0<=x)->ZbM (l.map λ_=>(0:Int)) l<=0
 | [],_=>by simp[ZbM]
 | x::l,h=>by
  have ih:=ZtN (l:=l) λy hy=>h y (by simp[hy])
  have hx:=h x (by simp)
  simp only[List.map_cons,ZbM]
  split
  ·omega
  ·split <;> omega
theorem ZbY{α:Type}{f g:α->Int}:∀{l:List α},(∀x∈l,f x<=g x)->Zaw (l.map f)<=Zaw (l.map g)
 | [],_=>by simp[Zaw]
 | x::l,h=>by
  have:=ZbY (l:=l) λy hy=>h y (by simp[hy])
  have:=h x (by simp)
  simp only[List.map_cons,Zaw];omega
theorem Zhn{α β:Type}(k:α->List β)(f:β->Int):∀l:List α,Zaw ((l.flatMap k).map f)=Zaw (l.map λx=>Zaw ((k x).map f))
 | []=>rfl
 | x::l=>by simp only[List.flatMap_cons,List.map_append,Zhj,List.map_cons,Zaw,Zhn k f l]
theorem Zmh{α:Type}(f:α->Int){y:α}:∀{l:List α} {i:Nat} {x:α},l[i]?=some x->Zaw ((l.set i y).map f)=Zaw (l.map f) - f x+f y
 | [],i,x,h=>by simp at h
 | a::l,0,x,h=>by simp at h;subst h;simp only[List.set_cons_zero,List.map_cons,Zaw];omega
 | a::l,i+1,x,h=>by
  have:=Zmh f (y:=y) (l:=l) (i:=i) (x:=x) (by simpa using h)
  simp only[List.set_cons_succ,List.map_cons,Zaw,this];omega
theorem ZkB{α:Type}(f:α->Int):∀{l:List α} {i:Nat} {x:α},l[i]?=some x->Zaw ((l.eraseIdx i).map f)=Zaw (l.map f) - f x
 | [],i,x,h=>by simp at h
 | a::l,0,x,h=>by simp at h;subst h;simp only[List.eraseIdx_cons_zero,List.map_cons,Zaw];omega
 | a::l,i+1,x,h=>by
  have:=ZkB f (l:=l) (i:=i) (x:=x) (by simpa using h)
  simp only[List.eraseIdx_cons_succ,List.map_cons,Zaw,this];omega
theorem ZwP(q:E->Bool)(l:List E):0<=ZlX q l/\ZlX q l<=l.length:=by
 unfold ZlX
 have:=List.length_filter_le q l
 omega
theorem ZqT{e:E}(h:e.light=true):nE e=e.nodes.length:=by unfold nE E.size;rw[h];rfl
theorem ZuQ{e:E}(h:e.light=true):0<=vrE e/\vrE e<=nE e:=by
 rw[ZqT h];exact ZwP Zyx e.nodes
theorem ZqU{e:E}(h:e.light=true):0<=ZnJ e/\ZnJ e<=nE e:=by
 rw[ZqT h];unfold ZnJ;rw[h];exact ZwP Zx8 e.nodes
theorem Ziq{a:Ac}(h:LtA a):(0<=paA a/\paA a<=wA a)/\(0<=ZoK a/\ZoK a<=wA a)/\(0<=vrA a/\vrA a<=wA a):=by
 have h0:=(ZfB a.e).1
 have p0:∀p∈a.parts,0<=nE p.e:=λp _=>(ZfB p.e).1
 have s0:=ZcS (λp:Pt=>nE p.e) (λp=>(ZfB p.e).1) a.parts
 have e1:=ZqU h.1
 have e2:=ZuQ h.1
 have a1:0<=paA a:=ZcS paP (λp=>by unfold paP;split <;> omega) a.parts
 have a2:paA a<=a.parts.length:=by
  have:=ZgB paP 1 a.parts λp _=>by unfold paP;split <;> omega
  unfold paA;omega
 have o1:Zaw (a.parts.map ZoJ)<=Zaw (a.parts.map λp=>nE p.e):=ZbY λp hp=>by
  have:=ZqU (h.2 p hp);have:=p0 p hp
  unfold ZoJ;split <;> omega
 have o0:0<=Zaw (a.parts.map ZoJ):=by
  have:Zaw (a.parts.map λ_=>(0:Int))<=Zaw (a.parts.map ZoJ):=ZbY λp hp=>by
   have:=ZqU (h.2 p hp)
   unfold ZoJ;split <;> omega
  have z:∀l:List Pt,Zaw (l.map λ_=>(0:Int))=0:=λl=>by induction l with
   | nil=>rfl
   | cons x l ih=>simp only[List.map_cons,Zaw,ih];omega
  rw[z]at this;exact this
 have v1:Zaw (a.parts.map vrP)<=Zaw (a.parts.map λp=>nE p.e):=ZbY λp hp=>by
  have:=ZuQ (h.2 p hp);have:=p0 p hp
  unfold vrP;split <;> omega
 have v0:0<=Zaw (a.parts.map vrP):=by
  have:Zaw (a.parts.map λ_=>(0:Int))<=Zaw (a.parts.map vrP):=ZbY λp hp=>by
   have:=ZuQ (h.2 p hp)
   unfold vrP;split <;> omega
  have z:∀l:List Pt,Zaw (l.map λ_=>(0:Int))=0:=λl=>by induction l with
   | nil=>rfl
   | cons x l ih=>simp only[List.map_cons,Zaw,ih];omega
  rw[z]at this;exact this
 unfold ZoK vrA wA
 refine⟨⟨a1,by omega⟩,⟨by split <;> omega,by split <;> omega⟩,⟨by split <;> omega,by split <;> omega⟩⟩
theorem Zir{s:Sc}(hl:s.light=true)(f:Ac->Int)(hf:∀a,LtA a->0<=f a/\f a<=wA a):0<=Zaw ((Zbz s).map f)/\Zaw ((Zbz s).map f)<=20000:=by
 have aC:=Zsl hl
 have hw:Zaw ((Zbz s).map f)<=Zaw (s.states.map wS):=by
  unfold Zbz
  rw[Zhn]
  refine ZbY λx hx=>?_
  unfold Zkx wS
  rw[Zhn]
  refine ZbY λr hr=>?_
  have:Zaw (r.acts.map f)<=Zaw (r.acts.map wA):=ZbY λa ha=>(hf a ((aC x hx r hr).2 a ha)).2
  have h1:=(ZfC r.t).1
  have:0<=Zga r.t.size 20000:=by unfold Zga;split <;> omega
  unfold wR;split <;> omega
 have h0:0<=Zaw ((Zbz s).map f):=by
  have:Zaw ((Zbz s).map λ_=>(0:Int))<=Zaw ((Zbz s).map f):=ZbY λa ha=>by
   unfold Zbz Zkx at ha
   obtain⟨x,hx,ha⟩:=List.mem_flatMap.1 ha
   obtain⟨r,hr,ha⟩:=List.mem_flatMap.1 ha
   exact(hf a ((aC x hx r hr).2 a ha)).1
  have z:∀l:List Ac,Zaw (l.map λ_=>(0:Int))=0:=λl=>by induction l with
   | nil=>rfl
   | cons x l ih=>simp only[List.map_cons,Zaw,ih];omega
  rw[z]at this;exact this
 have jC:=zA6 (show decide (s.weight<=20000)=true from hl)
 unfold Sc.weight at jC
 omega
theorem ZwQ{s:Sc}(hl:s.light=true):0<=ms2 s/\ms2 s<=20000:=by
 have h:∀r:Ru,0<=rgR r/\rgR r<=wR r:=λr=>by
  have h1:=ZfC r.t
  have h2:=ZcS wA Zqo r.acts
  have h3:Zga r.t.size 20000=r.t.size:=by unfold Zga;split <;> omega
  unfold rgR wR
  rw[h3]
  split <;> split <;> omega
 have h0:0<=ms2 s:=ZcS rgS (λx=>ZcS rgR (λr=>(h r).1) x.rules) s.states
 have h1:ms2 s<=Zaw (s.states.map wS):=ZbY λx _=>ZbY λr _=>(h r).2
 have jC:=zA6 (show decide (s.weight<=20000)=true from hl)
 unfold Sc.weight at jC
 omega
theorem ZuR{s:Sc}(hl:s.light=true):0<=ms1 s/\ms1 s<=20000:=by
 have h:∀x:Sta,0<=ruS x/\ruS x<=wS x:=λx=>by
  refine⟨by unfold ruS;omega,?_⟩
  have:Zaw (x.rules.map λ_=>(1:Int))<=Zaw (x.rules.map wR):=ZbY λr _=>by
   have h1:=(ZfC r.t).1
   have h2:=ZcS wA Zqo r.acts
   have h3:0<=Zga r.t.size 20000:=by unfold Zga;split <;> omega
   unfold wR;split <;> omega
  have z:∀l:List Ru,Zaw (l.map λ_=>(1:Int))=l.length:=λl=>by induction l with
   | nil=>rfl
   | cons x l ih=>simp only[List.map_cons,Zaw,ih,List.length_cons];omega
  rw[z]at this
  exact this
 have h0:0<=ms1 s:=ZcS ruS (λx=>(h x).1) s.states
 have h1:ms1 s<=Zaw (s.states.map wS):=ZbY λx _=>(h x).2
 have jC:=zA6 (show decide (s.weight<=20000)=true from hl)
 unfold Sc.weight at jC
 omega
def miL(s:Sc):List Int:=[(s.states.length:Int),ms1 s,ms2 s,ms3 s,ms4 s,ms5 s]
theorem ZqV{s:Sc}(hl:s.light=true):Zip s=msV s.states.length (ms1 s) (ms2 s) (ms3 s) (ms4 s) (ms5 s):=by
 have h1:=ZuR hl
 have h2:=ZwQ hl
 have h3:=Zir hl paA λa h=>(Ziq h).1
 have h4:=Zir hl ZoK λa h=>(Ziq h).2.1
 have h5:=Zir hl vrA λa h=>(Ziq h).2.2
 have e3:ms3 s=Zaw ((Zbz s).map paA):=rfl
 have e4:ms4 s=Zaw ((Zbz s).map ZoK):=rfl
 have e5:ms5 s=Zaw ((Zbz s).map vrA):=rfl
 unfold Zip
 rw[hl,if_pos rfl,Zzp (n:=ms1 s) (by unfold I64;omega),Zzp (n:=ms2 s) (by unfold I64;omega),Zzp (n:=ms3 s) (by unfold I64;omega),Zzp (n:=ms4 s) (by unfold I64;omega),Zzp (n:=ms5 s) (by unfold I64;omega)]
theorem ZzU{s:Sc}(hl:s.light=true):∀x∈miL s,0<=x:=by
 have h1:=ZuR hl
 have h2:=ZwQ hl
 have h3:=Zir hl paA λa h=>(Ziq h).1
 have h4:=Zir hl ZoK λa h=>(Ziq h).2.1
 have h5:=Zir hl vrA λa h=>(Ziq h).2.2
 have e3:ms3 s=Zaw ((Zbz s).map paA):=rfl
 have e4:ms4 s=Zaw ((Zbz s).map ZoK):=rfl
 have e5:ms5 s=Zaw ((Zbz s).map vrA):=rfl
 intro x hx
 simp only[miL,List.mem_cons,List.not_mem_nil,or_false]at hx
 rcases hx with rfl|rfl|rfl|rfl|rfl|rfl <;> omega
theorem Zya{s s':Sc}(h:s'.er=s.er)(hl:s.light=true):miL s'=miL s:=by
 have hl':s'.light=true:=(ZcM h).trans hl
 have e:=ZqP h
 rw[ZqV hl,ZqV hl']at e
 simp only[msV,List.cons.injEq,Value.int.injEq,true_and,and_true]at e
 obtain⟨e0,e1,e2,e3,e4,e5⟩:=e
 unfold miL
 rw[e0,e1,e2,e3,e4,e5]
theorem ZwR{s:Sc}{i k:Nat}{x:Sta}(hl:s.light=true)(hx:s.states[i]?=some x)(hk:k < x.rules.length):(Zin s i k).light=true/\ms1 (Zin s i k)=ms1 s - 1/\(Zin s i k).states.length=s.states.length:=by
 have e:Zin s i k=⟨s.n,s.va,s.vc,s.vars,s.sa,s.sc,s.states.set i (ZfF x k)⟩:=by unfold Zin;rw[hx]
 rw[e]
 have hr:x.rules[k]?=some x.rules[k]:=zA3 hk
 refine⟨?_,?_,List.length_set⟩
 ·have jC:=zA6 (show decide (s.weight<=20000)=true from hl)
  refine decide_eq_true ?_
  unfold Sc.weight at jC ⊢
  have h1:=Zmh wS (y:=ZfF x k) hx
  have h2:wS (ZfF x k)=wS x - wR x.rules[k]:=ZkB wR hr
  have h3:=Zwk x.rules[k]
  simp only[List.length_set]
  omega
 ·have h1:=Zmh ruS (y:=ZfF x k) hx
  have h2:ruS (ZfF x k)=ruS x - 1:=by
   show((x.rules.eraseIdx k).length:Int)=(x.rules.length:Int) - 1
   rw[List.length_eraseIdx,if_pos hk];omega
  show Zaw ((s.states.set i (ZfF x k)).map ruS)=Zaw (s.states.map ruS) - 1
  omega
theorem ZuS{s d:Sc}(h1:d.states.length=s.states.length)(h2:ms1 d=ms1 s - 1):ZbM (miL d) (miL s)=-1:=by
 unfold miL
 rw[h1,h2]
 simp only[ZbM]
 rw[if_neg (by omega),if_neg (by omega),if_pos (by omega)]
theorem ZsB{s:Sc}{i k:Nat}{x:Sta}{r:Ru}(hx:s.states[i]?=some x)(hr:x.rules[k]?=some r):ZxG s i k r=s:=by
 have e1:x.rules.set k r=x.rules:=List.ext_getElem? λj=>by
  by_cases hj:j=k
  ·subst hj;rw[List.getElem?_set_self (zA0 hr).1,hr]
  ·rw[List.getElem?_set_ne (Ne.symm hj)]
 have e2:Zrq x k r=x:=by unfold Zrq;rw[e1]
 have e3:s.states.set i x=s.states:=List.ext_getElem? λj=>by
  by_cases hj:j=i
  ·subst hj;rw[List.getElem?_set_self (zA0 hx).1,hx]
  ·rw[List.getElem?_set_ne (Ne.symm hj)]
 unfold ZxG
 rw[hx]
 show(⟨s.n,s.va,s.vc,s.vars,s.sa,s.sc,s.states.set i (Zrq x k r)⟩:Sc)=s
 rw[e2,e3]
theorem ZqW{s k t:Sc}(h1:k.n=s.n)(h2:k.vars=s.vars)(tn:t.n=s.n)(tv:t.vars=s.vars){L:List Nat}(h:k.states.map (λx=>some x.er)=L.map (λi=>(s.states[i]?).map Sta.er))(ht:L.map (λi=>(s.states[i]?).map Sta.er)=t.states.map (λx=>some x.er)):k.er=t.er:=by
 refine Zma (h1.trans tn.symm) (h2.trans tv.symm) ?_
 rw[ht]at h
 have:=congrArg (List.map λo:Option Sta=>o.getD ⟨.empty,none,0,[]⟩) h
 rw[List.map_map,List.map_map]at this
 exact this
theorem ZqX(s:Sc):(List.range s.states.length).map (λi=>(s.states[i]?).map Sta.er)=s.states.map λx=>some x.er:=by
 refine List.ext_getElem? λj=>?_
 rw[List.getElem?_map,List.getElem?_map]
 by_cases hj:j < s.states.length
 ·rw[List.getElem?_range hj,zA3 hj]
  simp[zA3 hj]
 ·rw[List.getElem?_eq_none (by simpa using hj),List.getElem?_eq_none (by omega)];rfl
theorem ZwS(s:Sc):(List.range s.states.length).reverse.map (λi=>(s.states[i]?).map Sta.er)=(ZnM s).states.map λx=>some x.er:=by
 rw[List.map_reverse,ZqX,<-List.map_reverse];rfl
theorem ZwT{s:Sc}(hl:s.light=true):(ZnM s).light=true/\miL (ZnM s)=miL s:=by
 have hw:(ZnM s).weight=s.weight:=by
  unfold Sc.weight ZnM
  simp only[List.length_reverse,Zhl]
 have hf:∀f:Ac->Int,Zaw ((Zbz (ZnM s)).map f)=Zaw ((Zbz s).map f):=λf=>by
  unfold Zbz
  rw[Zhn,Zhn]
  exact Zhl _ _
 refine⟨by unfold Sc.light at hl ⊢;rw[hw];exact hl,?_⟩
 unfold miL ms3 ms4 ms5
 rw[hf,hf,hf,show ms1 (ZnM s)=ms1 s from Zhl _ _,show ms2 (ZnM s)=ms2 s from Zhl _ _,show(ZnM s).states.length=s.states.length from List.length_reverse]
def ZqY(s:Sc)(x:Sta):Sc:=⟨s.n,none,0,s.vars,none,0,[x]⟩
theorem ZwU{s:Sc}{x:Sta}{j:Nat}(hx:s.states[j]?=some x):[j].map (λi=>(s.states[i]?).map Sta.er)=(ZqY s x).states.map λx=>some x.er:=by
 simp[hx,ZqY]
theorem ZwV{s:Sc}{x:Sta}{j:Nat}(hl:s.light=true)(hx:s.states[j]?=some x):(ZqY s x).light=true/\ZbM (miL (ZqY s x)) (miL s)<=0:=by
 have my:=(zA0 hx).1
 have jC:=zA6 (show decide (s.weight<=20000)=true from hl)
 have hm:=Zkw wS Zx2 (zA2 hx)
 refine⟨decide_eq_true ?_,?_⟩
 ·unfold Sc.weight at jC ⊢
  simp only[ZqY,List.map_cons,Zaw,List.length_cons,List.map_nil,List.length_nil]at jC ⊢
  omega
 ·by_cases h1:s.states.length=1
  ·obtain⟨y,hy⟩:∃y,s.states=[y]:=List.length_eq_one_iff.1 h1
   have:x=y:=by
    rw[hy]at hx my
    have:j=0:=by simpa using my
    subst this
    simpa using hx.symm
   subst this
   have e:miL (ZqY s x)=miL s:=by
    unfold miL ms1 ms2 ms3 ms4 ms5 Zbz
    rw[hy];rfl
   rw[e,ZsA];omega
  ·refine Int.le_of_lt ((ZnL _ _ _ _).2 (.inl ?_))
   show((1:Nat):Int) < (s.states.length:Nat)
   omega
end Go.Rx