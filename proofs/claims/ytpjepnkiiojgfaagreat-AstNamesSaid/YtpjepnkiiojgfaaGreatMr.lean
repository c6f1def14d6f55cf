/- Trees of regexes, what they mean, and xm they lie in memory; plain, no program is named. No condition. -/
import Derived.Test.YtpjepnkiiojgfaaGreatMc
import Derived.Sort.Grow
import Derived.Test.YtpjepnkiiojgfaaGreatMb
import Derived.Lib.SlicesCompact
import Derived.Lib.SliceRun
import Derived.Shelf.SlicesE.Delete
import Derived.Deep.MidRow
import Derived.KernelRfl
set_option linter.unusedVariables false
set_option linter.unusedSimpArgs false
set_option linter.unusedSectionVars false
namespace Go.Rx
open Go Go.Eng
inductive T where
 | node (k s0 s1 s2 s3 mn mx:Int) (a:Option Addr) (c:Nat) (subs:List T)
def T.k:T->Int
 | .node k _ _ _ _ _ _ _ _ _=>k
def T.s0:T->Int
 | .node _ s _ _ _ _ _ _ _ _=>s
def T.s1:T->Int
 | .node _ _ s _ _ _ _ _ _ _=>s
def T.s2:T->Int
 | .node _ _ _ s _ _ _ _ _ _=>s
def T.s3:T->Int
 | .node _ _ _ _ s _ _ _ _ _=>s
def T.mn:T->Int
 | .node _ _ _ _ _ x _ _ _ _=>x
def T.mx:T->Int
 | .node _ _ _ _ _ _ x _ _ _=>x
def T.a:T->Option Addr
 | .node _ _ _ _ _ _ _ a _ _=>a
def T.c:T->Nat
 | .node _ _ _ _ _ _ _ _ c _=>c
def T.subs:T->List T
 | .node _ _ _ _ _ _ _ _ _ l=>l
def T.sl(t:T):Value:=.slice t.a t.subs.length t.c
def T.cs(t:T):List Value:=[.int .u8 t.k,.int .u64 t.s0,.int .u64 t.s1,.int .u64 t.s2,.int .u64 t.s3,.int .i64 t.mn,.int .i64 t.mx,t.sl]
def T.v(t:T):Value:=.agg #[.int .u8 t.k,.int .u64 t.s0,.int .u64 t.s1,.int .u64 t.s2,.int .u64 t.s3,.int .i64 t.mn,.int .i64 t.mx,.slice t.a t.subs.length t.c]
structure OkN (k s0 s1 s2 s3 mn mx:Int):Prop where
 k:0<=k/\k < 256
 s0:0<=s0/\s0 < 18446744073709551616
 s1:0<=s1/\s1 < 18446744073709551616
 s2:0<=s2/\s2 < 18446744073709551616
 s3:0<=s3/\s3 < 18446744073709551616
 mn : -9223372036854775808<=mn/\mn<=9223372036854775807
 mx : -9223372036854775808<=mx/\mx<=9223372036854775807
mutual
def Rep(m:Mem):T->Prop
 | .node k s0 s1 s2 s3 mn mx a _ l=>l.length<=1000000000000000/\(l=[]\/∃b o,a=some ⟨b,o,none⟩/\RepAt m b o l)/\OkN k s0 s1 s2 s3 mn mx
def RepAt(m:Mem)(b:Nat):Nat->List T->Prop
 | _,[]=>True
 | o,t::l=>m.reads b o t.cs/\Rep m t/\RepAt m b (o+8) l
end
theorem ZmA{m:Mem}{t:T}:Rep m t->(t.subs.length<=1000000000000000/\(t.subs=[]\/∃b o,t.a=some ⟨b,o,none⟩/\RepAt m b o t.subs)):=by
 cases t;simp only[Rep,T.subs,T.a];exact λh=>⟨h.1,h.2.1⟩
theorem Zxl{m:Mem}{t:T}:Rep m t->OkN t.k t.s0 t.s1 t.s2 t.s3 t.mn t.mx:=by
 cases t;simp only[Rep];exact λh=>h.2.2
theorem ZkC{m:Mem}{t:T}(h1:t.subs.length<=1000000000000000)(h2:t.subs=[]\/∃b o,t.a=some ⟨b,o,none⟩/\RepAt m b o t.subs)(h3:OkN t.k t.s0 t.s1 t.s2 t.s3 t.mn t.mx):Rep m t:=by
 cases t;simp only[Rep];exact⟨h1,h2,h3⟩
mutual
theorem Rep.mono{m m':Mem}(h:m.le m'):∀t:T,Rep m t->Rep m' t
 | .node _ _ _ _ _ _ _ a _ l,hr=>by
  simp only[Rep]at *
  refine⟨hr.1,?_,hr.2.2⟩
  rcases hr.2.1 with hr|⟨b,o,h1,h2⟩
  ·exact .inl hr
  ·exact .inr ⟨b,o,h1,RepAt.mono h b o l h2⟩
theorem RepAt.mono{m m':Mem}(h:m.le m')(b:Nat):∀(o:Nat)(l:List T),RepAt m b o l->RepAt m' b o l
 | _,[],_=>by simp only[RepAt]
 | o,t::l,hr=>by
  simp only[RepAt]at *
  exact⟨hr.1.mono h,Rep.mono h t hr.2.1,RepAt.mono h b (o+8) l hr.2.2⟩
end
theorem RepAt.get{m:Mem}{b:Nat}:∀{o:Nat} {l:List T} {i:Nat} {t:T},RepAt m b o l->l[i]?=some t->m.reads b (o+i*8) t.cs/\Rep m t
 | o,[],i,t,_,hi=>by simp at hi
 | o,x::l,0,t,h,hi=>by
  simp only[RepAt]at h
  simp at hi;subst hi
  exact⟨by simpa using h.1,h.2.1⟩
 | o,x::l,i+1,t,h,hi=>by
  simp only[RepAt]at h
  have:=h.2.2.get (i:=i) (by simpa using hi)
  rw[show o+(i+1)*8=o+8+i*8 by omega]
  exact this
mutual
def T.nodes:T->List T
 | .node k s0 s1 s2 s3 mn mx a c l=>.node k s0 s1 s2 s3 mn mx a c l::ZaD l
def ZaD:List T->List T
 | []=>[]
 | t::l=>t.nodes++ZaD l
end
theorem Zci(t:T):t.nodes=t::ZaD t.subs:=by cases t;simp only[T.nodes,T.subs]
theorem ZcE(l r:List T):ZaD (l++r)=ZaD l++ZaD r:=by
 induction l with
 | nil=>simp[ZaD]
 | cons t l ih=>simp[ZaD,ih,List.append_assoc]
theorem ZmB{l:List T}{i:Nat}{t:T}(h:l[i]?=some t):ZaD (l.take (i+1))=ZaD (l.take i)++t.nodes:=by
 have:l.take (i+1)=l.take i++[t]:=by
  rw[List.take_add_one,h];rfl
 rw[this,ZcE];simp[ZaD]
theorem Zea{l:List T}{i:Nat}{t:T}(h:l[i]?=some t):ZaD l=ZaD (l.take i)++(t.nodes++ZaD (l.drop (i+1))):=by
 have aC:=(zA0 h).1
 have e:l=l.take i++(t::l.drop (i+1)):=by
  have:=List.drop_eq_getElem_cons aC
  rw[(zA0 h).2]at this
  rw[<-this,List.take_append_drop]
 conv=>lhs;rw[e,ZcE]
 simp[ZaD]
theorem Ztq{t x z:T}{i q:Nat}(hx:t.subs[i]?=some x)(hz:x.nodes[q]?=some z):t.nodes[1+(ZaD (t.subs.take i)).length+q]?=some z:=by
 have hq:=(zA0 hz).1
 rw[Zci,show 1+(ZaD (t.subs.take i)).length+q=((ZaD (t.subs.take i)).length+q)+1 by omega,List.getElem?_cons_succ,Zea hx,zA4 (by omega),zA5 (by omega),show(ZaD (List.take i t.subs)).length+q - (ZaD (List.take i t.subs)).length=q by omega]
 exact hz
theorem Zq4{t x:T}(h:x∈t.subs):SizeOf.sizeOf x < SizeOf.sizeOf t:=by
 cases t with
 | node k s0 s1 s2 s3 mn mx a c l=>
  have h':x∈l:=h
  have:=List.sizeOf_lt_of_mem h'
  simp only[T.node.sizeOf_spec]
  omega
theorem Ztr(t:T):Shape.fitsL [.agg [.int .u8,.int .u64,.int .u64,.int .u64,.int .u64,.int .i64,.int .i64,.slice]] [t.v]=true:=by
 simp[Shape.fitsL,Shape.fits,T.v]
def Zq5(least most:Int):Bool:=!(decide (least < 0)||decide (least > 16)||(least == 1&&most == 1))&&(most == -1||(decide (most ≥ 1)&&decide (most<=16)&&decide (most ≥ least)))
def T.has(t:T)(k:Int):Bool:=t.subs.any λx=>x.k == k
def T.light(t:T):Bool:=decide (t.nodes.length<=10000)
def T.setZ(t:T):Bool:=t.s0 == 0&&t.s1 == 0&&t.s2 == 0&&t.s3 == 0
def T.right(t:T):Bool:=
 !(t.k != 2&&!t.setZ||(t.k != 5&&(t.mn != 0||t.mx != 0)||(decide (t.k < 3)&&decide (0 < t.subs.length)))) &&
 (if t.k=1 then true else if t.k=2 then !t.setZ else if t.k=3 then decide (1 < t.subs.length)&&(!t.has 1&&!t.has 3)else if t.k=4 then decide (1 < t.subs.length)&&!t.has 4
  else if t.k=5 then t.subs.length == 1&&(Zq5 t.mn t.mx&&!t.has 1)else t.k == 6&&t.subs.length == 1)
def T.clean(t:T):Bool:=t.light&&t.nodes.all T.right
def T.size(t:T):Int:=if t.light then t.nodes.length else 10001
def T.groups(t:T):Int:=if t.light then(t.nodes.countP λx=>x.k == 6:Nat)else 10001
def Zts(x y:Int):Int:=if y > x then y else x
def ZhR(x y:Int):Int:=if y < x then y else x
def ZwA(k mn mx sum:Int):Int:=ZhR (if k=5 then sum*ZhR (if mx=-1 then Zts (Zts mn 0) 1 else Zts (Zts mn 0) mx) 10001 else sum) 10001
mutual
def T.pos:T->Int
 | .node k _ _ _ _ mn mx _ _ l=>ZwA k mn mx ((if k=2 then 1 else 0)+Zjm l)
def Zjm:List T->Int
 | []=>0
 | t::l=>t.pos+Zjm l
end
def T.positions(t:T):Int:=if t.light then t.pos else 10001
def T.check(t:T):Int:=if t.clean=false then 80 else if t.size > 120 then 81 else if t.positions > 400 then 82 else if t.groups > 9 then 83 else 0
mutual
def T.same:T->T->Bool
 | .node k s0 s1 s2 s3 mn mx _ _ l,.node k' s0' s1' s2' s3' mn' mx' _ _ l'=>k == k'&&((s0 == s0'&&s1 == s1'&&s2 == s2'&&s3 == s3')&&(mn == mn'&&(mx == mx'&&Zet l l')))
def Zet:List T->List T->Bool
 | [],[]=>true
 | t::l,t'::l'=>t.same t'&&Zet l l'
 | _,_=>false
end
theorem Zst(t u:T):t.same u=(t.k == u.k&&((t.s0 == u.s0&&t.s1 == u.s1&&t.s2 == u.s2&&t.s3 == u.s3)&&(t.mn == u.mn&&(t.mx == u.mx&&Zet t.subs u.subs)))):=by
 cases t;cases u;simp only[T.same,T.k,T.s0,T.s1,T.s2,T.s3,T.mn,T.mx,T.subs]
theorem ZmC:∀{l r:List T},¬l.length=r.length->Zet l r=false
 | [],[],h=>by simp at h
 | [],_::_,_=>by simp[Zet]
 | _::_,[],_=>by simp[Zet]
 | x::l,y::r,h=>by
  simp only[Zet,ZmC (l:=l) (r:=r) (by simpa using h),Bool.and_false]
theorem Zpr:∀{l r:List T} {i:Nat} {x y:T},l[i]?=some x->r[i]?=some y->x.same y=false->Zet l r=false
 | [],r,i,x,y,h,_,_=>by simp at h
 | _::_,[],i,x,y,_,h,_=>by simp at h
 | a::l,b::r,0,x,y,h,k,e=>by
  simp at h k;subst h k
  simp[Zet,e]
 | a::l,b::r,i+1,x,y,h,k,e=>by
  simp only[Zet,Zpr (l:=l) (r:=r) (i:=i) (by simpa using h) (by simpa using k) e,Bool.and_false]
theorem ZjO:∀{l r:List T} {i:Nat} {x y:T},l[i]?=some x->r[i]?=some y->Zet (l.take i) (r.take i)=true->x.same y=true->True->Zet (l.take (i+1)) (r.take (i+1))=true
 | [],r,i,x,y,h,_,_,_,_=>by simp at h
 | _::_,[],i,x,y,_,h,_,_,_=>by simp at h
 | a::l,b::r,0,x,y,h,k,_,e,_=>by
  simp at h k;subst h k
  simp[Zet,e]
 | a::l,b::r,i+1,x,y,h,k,hs,e,_=>by
  simp only[List.take_succ_cons,Zet,zA7]at hs ⊢
  exact⟨hs.1,ZjO (by simpa using h) (by simpa using k) hs.2 e trivial⟩
theorem Zq6(t:T):t.pos=ZwA t.k t.mn t.mx ((if t.k=2 then 1 else 0)+Zjm t.subs):=by
 cases t;simp only[T.pos,T.k,T.mn,T.mx,T.subs];congr 1
theorem Zbb(l r:List T):Zjm (l++r)=Zjm l+Zjm r:=by
 induction l with
 | nil=>simp[Zjm]
 | cons t l ih=>simp[Zjm,ih,Int.add_assoc]
theorem Zps(x y:Int):x<=Zts x y/\y<=Zts x y:=by unfold Zts;split <;> omega
theorem ZjP(x y:Int):ZhR x y<=x/\ZhR x y<=y:=by unfold ZhR;split <;> omega
theorem Zsu{x y:Int}(h:0<=x)(k:0<=y):0<=ZhR x y:=by unfold ZhR;split <;> omega
def Zxm(mn mx:Int):Int:=ZhR (if mx=-1 then Zts (Zts mn 0) 1 else Zts (Zts mn 0) mx) 10001
theorem Zvr(mn mx:Int):0<=Zxm mn mx/\Zxm mn mx<=10001:=by
 unfold Zxm
 refine⟨Zsu ?_ (by omega),(ZjP _ _).2⟩
 have h1:=Zps mn 0
 split
 ·have:=Zps (Zts mn 0) 1;omega
 ·have:=Zps (Zts mn 0) mx;omega
theorem Zvs{k mn mx sum:Int}(h:0<=sum):0<=ZwA k mn mx sum/\ZwA k mn mx sum<=10001:=by
 have h2:=Int.mul_nonneg h (Zvr mn mx).1
 unfold ZwA
 refine⟨Zsu ?_ (by omega),(ZjP _ _).2⟩
 split
 ·exact h2
 ·exact h
mutual
theorem ZkD:∀t:T,0<=t.pos/\t.pos<=10001
 | .node k _ _ _ _ mn mx _ _ l=>by
  simp only[T.pos]
  have:=ZhS l
  exact Zvs (by split <;> omega)
theorem ZhS:∀l:List T,0<=Zjm l
 | []=>by simp[Zjm]
 | t::l=>by
  simp only[Zjm]
  have:=ZkD t
  have:=ZhS l
  omega
end
theorem Zvt(t:T):t.subs.length < t.nodes.length:=by
 rw[Zci,List.length_cons]
 have:∀l:List T,l.length<=(ZaD l).length:=by
  intro l
  induction l with
  | nil=>simp[ZaD]
  | cons x l ih=>simp only[ZaD,List.length_cons,zA1];rw[Zci];simp;omega
 have:=this t.subs
 omega
def T.hasB(t:T)(c:Nat):Bool:=((if c / 64=0 then t.s0 else if c / 64=1 then t.s1 else if c / 64=2 then t.s2 else t.s3).toNat).testBit (c % 64)
end Go.Rx
namespace Go.Rx
open Go Go.Eng Go.RowKit
theorem Zx6(n:Nat)(h:n < 18446744073709551616):IntKind.u64.wrap (n:Int)=n:=by
 unfold IntKind.wrap
 have e:(2:Int) ^ 64=18446744073709551616:=by decide
 simp only[IntKind.bits,IntKind.signed,Bool.false_and,Bool.false_eq_true,if_false,e]
 omega
theorem Zzk(a:Nat)(h:a < 18446744073709551616):(BitVec.ofInt 64 (a:Int)).toNat=a:=by
 rw[BitVec.toNat_ofInt]
 have e:((2:Nat) ^ 64:Nat)=18446744073709551616:=by decide
 rw[e];omega
theorem Ztt(a b:Nat)(ha:a < 18446744073709551616)(hb:b < 18446744073709551616):IntKind.u64.wrap ((BitVec.ofInt 64 (a:Int)|||BitVec.ofInt 64 (b:Int)).toNat:Int)=((a|||b:Nat):Int):=by
 rw[BitVec.toNat_or,Zzk a ha,Zzk b hb]
 exact Zx6 _ (Nat.or_lt_two_pow (n:=64) ha hb)
def Byt(m:Mem)(a:Option Addr)(s:List Nat):Prop:=(s=[]\/∃b o,a=some ⟨b,o,none⟩/\m.reads b o (s.map λc:Nat=>Value.int .u8 c))/\∀c∈s,c < 256
theorem Byt.mono{m m':Mem}{a s}(h:Byt m a s)(hm:m.le m'):Byt m' a s:=by
 refine⟨?_,h.2⟩
 rcases h.1 with h|⟨b,o,h1,h2⟩
 ·exact .inl h
 ·exact .inr ⟨b,o,h1,h2.mono hm⟩
theorem Byt.get{m:Mem}{a s}(h:Byt m a s){i c:Nat}(hi:s[i]?=some c):(∃b o,a=some ⟨b,o,none⟩/\m b (o+i)=some (.int .u8 c))/\c < 256:=by
 refine⟨?_,h.2 c (zA2 hi)⟩
 rcases h.1 with h|⟨b,o,h1,h2⟩
 ·subst h;simp at hi
 ·exact⟨b,o,h1,h2 i _ (by rw[List.getElem?_map,hi];rfl)⟩
def ZyG(t:T)(back:Bool)(f i c out:Nat):Nat:=if(f.testBit (if back then i+1 else i)&&t.hasB c)=true then out|||2 ^ (if back then i else i+1)else out
def Zzl(t:T)(back:Bool)(f:Nat):List Nat->Nat->Nat->Nat
 | [],_,out=>out
 | c::s,i,out=>Zzl t back f s (i+1) (ZyG t back f i c out)
def Zza(g:Nat->Nat):Nat->Nat->Nat
 | 0,f=>f
 | n+1,f=>Zza g n (g f)
def Zx7(g:Nat->Nat)(mx:Int):Nat->Int->Nat->Nat->Nat
 | 0,_,out,_=>out
 | n+1,k,out,last=>if k=mx then out else if out|||g last=out then out else Zx7 g mx n (IntKind.i64.wrap (k+1)) (out|||g last) (g last)
@[irreducible] def ZzE:Nat:=576
abbrev ZzF:Nat:=2 ^ ZzE
def ZzG(g:Nat->Nat)(mn mx:Int)(f:Nat):Nat:=Zx7 g mx (ZzF+1) mn (Zza g mn.toNat f) (Zza g mn.toNat f)
mutual
def T.lead(s:List Nat)(back:Bool):T->Nat->Nat
 | .node k s0 s1 s2 s3 mn mx a c l=>λf=>
  if k=1 then f else if k=2 then Zzl (.node k s0 s1 s2 s3 mn mx a c l) back f s 0 0
  else if k=3 then(if back then Zx9 s back l f else Zx8 s back l f)
  else if k=4 then Zzm s back l f 0
  else if k=5 then ZzG (Zya s back l) mn mx f
  else if k=6 then Zya s back l f else 0
def Zx8(s:List Nat)(back:Bool):List T->Nat->Nat
 | []=>λf=>f
 | t::l=>λf=>Zx8 s back l (t.lead s back f)
def Zx9(s:List Nat)(back:Bool):List T->Nat->Nat
 | []=>λf=>f
 | t::l=>λf=>t.lead s back (Zx9 s back l f)
def Zzm(s:List Nat)(back:Bool):List T->Nat->Nat->Nat
 | []=>λ_ out=>out
 | t::l=>λf out=>Zzm s back l f (out|||t.lead s back f)
def Zya(s:List Nat)(back:Bool):List T->Nat->Nat
 | []=>λf=>f
 | t::_=>λf=>t.lead s back f
end
section
variable {s:List Nat} {back:Bool}
end
theorem Zpt{α:Type}{l:List α}{i:Nat}{x:α}(h:l[i]?=some x):l.drop i=x::l.drop (i+1):=by
 obtain⟨h1,h2⟩:=zA0 h
 rw[List.drop_eq_getElem_cons h1,h2]
theorem Zeu{α:Type}{l:List α}{i:Nat}{x:α}(h:l[i]?=some x):l.take (i+1)=l.take i++[x]:=by
 rw[List.take_add_one,h];rfl
section
variable (s:List Nat) (back:Bool) (hs:s.length<=512)
include hs
end
def T0:T:=.node 0 0 0 0 0 0 0 none 0 []
def T1:T:=.node 1 0 0 0 0 0 0 none 0 []
theorem Zvu(m:Mem):Rep m T1:=by simp only[T1,Rep];exact⟨by simp,.inl trivial,by constructor <;> decide⟩
def T.isNone(t:T):Bool:=t.k == 0&&(t.light&&(T0.light&&t.same T0))
structure Rg where
 bg:Bool
 en:Bool
 t:T
def Rg.v(r:Rg):Value:=.agg #[.bool r.bg,.bool r.en,.int .u8 r.t.k,.int .u64 r.t.s0,.int .u64 r.t.s1,.int .u64 r.t.s2,.int .u64 r.t.s3,.int .i64 r.t.mn,.int .i64 r.t.mx,.slice r.t.a r.t.subs.length r.t.c]
def Rg.cs(r:Rg):List Value:=[.bool r.bg,.bool r.en,.int .u8 r.t.k,.int .u64 r.t.s0,.int .u64 r.t.s1,.int .u64 r.t.s2,.int .u64 r.t.s3,.int .i64 r.t.mn,.int .i64 r.t.mx,.slice r.t.a r.t.subs.length r.t.c]
def Rgs(m:Mem)(a:Option Addr)(l:List Rg):Prop:=l.length<=1000000000000000/\(l=[]\/∃b o,a=some ⟨b,o,none⟩/\∀i r,l[i]?=some r->m.reads b (o+i*10) r.cs)/\∀r∈l,Rep m r.t
theorem Rgs.mono{m m':Mem}{a l}(h:Rgs m a l)(hm:m.le m'):Rgs m' a l:=by
 refine⟨h.1,?_,λr hr=>(h.2.2 r hr).mono hm⟩
 rcases h.2.1 with h|⟨b,o,h1,h2⟩
 ·exact .inl h
 ·exact .inr ⟨b,o,h1,λi r hi=>(h2 i r hi).mono hm⟩
def Zxn(f:Nat):List Nat:=(List.range 513).filter λi=>f.testBit i
def Zvv(n:Nat):List Nat->Option Nat
 | []=>none
 | i::_=>if i > n then none else some i
def Rg.from(s:List Nat)(n:Nat)(r:Rg):Option Nat:=if(r.en&&decide ((n:Int) < s.length))=true then none else if r.bg then(if(r.t.lead s true (2 ^ n)).testBit 0 then some 0 else none)else
 Zvv n (Zxn (r.t.lead s true (2 ^ n)))
def ZmD(φ:T->Prop):Value->Mem->List (List Value)->Prop:=λv m' _=>∃t:T,v=t.v/\Rep m' t/\φ t
abbrev TRK:=Int->Int->Int->Int->Int->Int->Int->Option Addr->Nat->Nat->Mem->Prop
theorem Zox{φ:T->Prop}{m:Mem}{K:TRK}(k:∀(t:T)(m':Mem),m.le m'->Rep m' t->φ t->K t.k t.s0 t.s1 t.s2 t.s3 t.mn t.mx t.a t.subs.length t.c m'):
  ∀(n0 n1 n2 n3 n4 n5 n6:Int)(a:Option Addr)(n c:Nat)(m':Mem),m.le m'->ZmD φ (.agg #[.int .u8 n0,.int .u64 n1,.int .u64 n2,.int .u64 n3,.int .u64 n4,.int .i64 n5,.int .i64 n6,.slice a n c]) m' []->K n0 n1 n2 n3 n4 n5 n6 a n c m':=by
 rintro n0 n1 n2 n3 n4 n5 n6 a n c m' hm ⟨t,hv,hr,hp⟩
 simp only[T.v,Value.agg.injEq,Array.mk.injEq,List.cons.injEq,Value.int.injEq,Value.slice.injEq,true_and,and_true]at hv
 obtain⟨rfl,rfl,rfl,rfl,rfl,rfl,rfl,rfl,rfl,rfl⟩:=hv
 exact k t m' hm hr hp
theorem ZeO{φ:T->Prop}:∀(v:Value)(m':Mem) (css:List (List Value)),ZmD φ v m' css->Shape.fits (.agg [.int .u8,.int .u64,.int .u64,.int .u64,.int .u64,.int .i64,.int .i64,.slice]) v=true:=λv _ _ ⟨t,e,_⟩=>by rw[e];rfl
def RepL(m:Mem)(a:Option Addr)(l:List T):Prop:=l.length<=1000000000000000/\(l=[]\/∃b o,a=some ⟨b,o,none⟩/\RepAt m b o l)
theorem RepL.mono{m m':Mem}{a l}(h:RepL m a l)(hm:m.le m'):RepL m' a l:=by
 refine⟨h.1,?_⟩
 rcases h.2 with h|⟨b,o,h1,h2⟩
 ·exact .inl h
 ·exact .inr ⟨b,o,h1,h2.mono hm⟩
theorem Rep.subs{m:Mem}{t:T}(h:Rep m t):RepL m t.a t.subs:=ZmA h
def ZbM(k mn mx:Int)(a:Option Addr)(c:Nat)(l:List T):T:=.node k 0 0 0 0 mn mx a c l
theorem Zfn{m:Mem}{k mn mx:Int}{a:Option Addr}{c:Nat}{l:List T}(h:RepL m a l)(hk:0<=k/\k < 256)(h1 : -9223372036854775808<=mn/\mn<=9223372036854775807)(h2 : -9223372036854775808<=mx/\mx<=9223372036854775807):Rep m (ZbM k mn mx a c l):=by
 simp only[ZbM,Rep]
 exact⟨h.1,h.2,⟨hk,by omega,by omega,by omega,by omega,h1,h2⟩⟩
theorem Zpu{m:Mem}{b:Nat}{t:T}(h:m.reads b 0 t.cs)(hr:Rep m t):RepL m (some ⟨b,0,none⟩) [t]:=⟨by simp,.inr ⟨b,0,rfl,by simp only[RepAt];exact⟨h,hr,trivial⟩⟩⟩
def Zb7(l:List T):List Value:=(l.map T.cs).flatten
theorem Zaq(l:List T):(Zb7 l).length=l.length*8:=by
 induction l with
 | nil=>rfl
 | cons t l ih=>simp[Zb7,T.cs]at ih ⊢;omega
theorem ZaK(l r:List T):Zb7 (l++r)=Zb7 l++Zb7 r:=by simp[Zb7]
theorem Zpv{m:Mem}{b:Nat}:∀{o:Nat} {l:List T},m.reads b o (Zb7 l)->(∀t∈l,Rep m t)->RepAt m b o l
 | o,[],_,_=>by simp only[RepAt]
 | o,t::l,h,hr=>by
  simp only[RepAt]
  refine⟨λj v hj=>?_,hr t (by simp),Zpv (λj v hj=>?_) λx hx=>hr x (by simp[hx])⟩
  ·refine h j v ?_
   simp only[Zb7,List.map_cons,List.flatten_cons]
   rw[zA5 (zA0 hj).1];exact hj
  ·have:=h (8+j) v (by
    simp only[Zb7,List.map_cons,List.flatten_cons]
    rw[zA4 (by simp[T.cs])]
    have e:8+j - t.cs.length=j:=by simp[T.cs]
    rw[e];exact hj)
   rw[show o+8+j=o+(8+j) by omega];exact this
theorem Zsv{m:Mem}{a:Option Addr}{l:List T}(h:rowRd m a (Zb7 l))(hr:∀t∈l,Rep m t)(hl:l.length<=1000000000000000):RepL m a l:=by
 refine⟨hl,?_⟩
 cases l with
 | nil=>exact .inl rfl
 | cons t l=>
  rcases h with h|⟨b,o,h1,h2⟩
  ·simp[Zb7,T.cs]at h
  ·exact .inr ⟨b,o,h1,Zpv h2 hr⟩
theorem ZdM{m:Mem}{a:Option Addr}{l:List T}(h:RepL m a l):rowRd m a (Zb7 l):=by
 have key:∀(l:List T)(b o:Nat),RepAt m b o l->m.reads b o (Zb7 l):=by
  intro l
  induction l with
  | nil=>intro b o _ j v hj;simp[Zb7]at hj
  | cons t l ih=>
   intro b o hr j v hj
   simp only[RepAt]at hr
   simp only[Zb7,List.map_cons,List.flatten_cons]at hj
   by_cases aC:j < 8
   ·rw[zA5 (by simpa[T.cs]using aC)]at hj
    exact hr.1 j v hj
   ·rw[zA4 (by simp[T.cs];omega)]at hj
    have:=ih b (o+8) hr.2.2 (j - 8) v (by simpa[T.cs,Zb7]using hj)
    rw[show o+8+(j - 8)=o+j by omega]at this;exact this
 rcases h.2 with h|⟨b,o,h1,h2⟩
 ·subst h;exact .inl rfl
 ·exact .inr ⟨b,o,h1,key l b o h2⟩
theorem Zis{m:Mem}{a:Option Addr}{l:List T}(h:RepL m a l):∀t∈l,Rep m t:=by
 rcases h.2 with h|⟨b,o,_,h⟩
 ·subst h;simp
 ·intro t ht
  obtain⟨i,hi⟩:=List.getElem?_of_mem ht
  exact(h.get hi).2
def Zzb(j:Nat)(w c:Nat):Nat:=if c / 64=j then w|||2 ^ (c % 64)else w
def Zsa(bs:List Nat)(j:Nat):Nat:=bs.foldl (Zzb j) 0
theorem Zq7(l:List Nat)(c j:Nat):Zsa (l++[c]) j=if c / 64=j then Zsa l j|||2 ^ (c % 64)else Zsa l j:=by
 unfold Zsa
 rw[List.foldl_append];rfl
theorem Zsw(l:List Nat)(j:Nat):Zsa l j < 18446744073709551616:=by
 have key:∀(l:List Nat)(w:Nat),w < 2 ^ 64->l.foldl (Zzb j) w < 2 ^ 64:=by
  intro l
  induction l with
  | nil=>intro w h;exact h
  | cons c l ih=>
   intro w h
   refine ih _ ?_
   unfold Zzb
   split
   ·exact Nat.or_lt_two_pow h (Nat.pow_lt_pow_right (by omega) (by omega))
   ·exact h
 exact key l 0 (by decide)
def Zit(bs:List Nat):T:=.node 2 (Zsa bs 0:Nat) (Zsa bs 1:Nat) (Zsa bs 2:Nat) (Zsa bs 3:Nat) 0 0 none 0 []
theorem ZmE(bs:List Nat)(m:Mem):Rep m (Zit bs):=by
 simp only[Zit,Rep]
 have h:=Zsw bs
 exact⟨by simp,.inl trivial,⟨by omega,⟨by omega,by have:=h 0;omega⟩,⟨by omega,by have:=h 1;omega⟩,⟨by omega,by have:=h 2;omega⟩,⟨by omega,by have:=h 3;omega⟩,by omega,by omega⟩⟩
def Zsx(bs:List Nat):List Value:=[.int .u64 (Zsa bs 0:Nat),.int .u64 (Zsa bs 1:Nat),.int .u64 (Zsa bs 2:Nat),.int .u64 (Zsa bs 3:Nat)]
theorem Zq8(bs:List Nat){j:Nat}(h:j < 4):(Zsx bs)[j]?=some (.int .u64 (Zsa bs j:Nat)):=by
 have:j=0\/j=1\/j=2\/j=3:=by omega
 rcases this with rfl|rfl|rfl|rfl <;> rfl
theorem Zoy(l:List Nat){c j:Nat}(hj:c / 64=j)(h:j < 4):ZaC (Zsx l) j [.int .u64 ((Zsa l j|||2 ^ (c % 64):Nat):Int)]=Zsx (l++[c]):=by
 unfold Zsx
 simp only[Zq7,hj]
 have:j=0\/j=1\/j=2\/j=3:=by omega
 rcases this with rfl|rfl|rfl|rfl <;> rfl
def ZcZ(n:Nat):List Nat:=([[97],[98],[97,98],[97],[98],[99],[97,98,99],[98,99],[10],[0,255],[97],[98]][n % 12]?).getD []
end Go.Rx
namespace Go.Rx
open Go Go.Eng
inductive E where
 | node (k:Int) (x:Nat) (s:ByteArray) (g:Int) (a:Option Addr) (c:Nat) (subs:List E)
def E.k:E->Int
 | .node k _ _ _ _ _ _=>k
def E.x:E->Nat
 | .node _ x _ _ _ _ _=>x
def E.s:E->ByteArray
 | .node _ _ s _ _ _ _=>s
def E.g:E->Int
 | .node _ _ _ g _ _ _=>g
def E.a:E->Option Addr
 | .node _ _ _ _ a _ _=>a
def E.c:E->Nat
 | .node _ _ _ _ _ c _=>c
def E.subs:E->List E
 | .node _ _ _ _ _ _ l=>l
def E.sl(t:E):Value:=.slice t.a t.subs.length t.c
def E.cs(t:E):List Value:=[.int .u8 t.k,.float .f64 t.x,.string t.s,.int .i64 t.g,t.sl]
def E.v(t:E):Value:=.agg #[.int .u8 t.k,.float .f64 t.x,.string t.s,.int .i64 t.g,.slice t.a t.subs.length t.c]
def E0:E:=.node 0 0 .empty 0 none 0 []
structure OkE (k:Int)(s:ByteArray)(g:Int):Prop where
 k:0<=k/\k < 256
 s:s.size<=1000000000000000
 g : -9223372036854775808<=g/\g<=9223372036854775807
mutual
def RepE(m:Mem):E->Prop
 | .node k x s g a _ l=>l.length<=1000000000000000/\(l=[]\/∃b o,a=some ⟨b,o,none⟩/\RepEAt m b o l)/\OkE k s g
def RepEAt(m:Mem)(b:Nat):Nat->List E->Prop
 | _,[]=>True
 | o,t::l=>m.reads b o t.cs/\RepE m t/\RepEAt m b (o+5) l
end
theorem ZwY(m:Mem):RepE m E0:=by simp only[E0,RepE];exact⟨by simp,.inl trivial,by constructor <;> decide⟩
theorem Zeb{m:Mem}{t:E}:RepE m t->(t.subs.length<=1000000000000000/\(t.subs=[]\/∃b o,t.a=some ⟨b,o,none⟩/\RepEAt m b o t.subs)):=by
 cases t;simp only[RepE,E.subs,E.a];exact λh=>⟨h.1,h.2.1⟩
theorem Zsy{m:Mem}{t:E}:RepE m t->OkE t.k t.s t.g:=by
 cases t;simp only[RepE];exact λh=>h.2.2
mutual
theorem RepE.mono{m m':Mem}(h:m.le m'):∀t:E,RepE m t->RepE m' t
 | .node _ _ _ _ a _ l,hr=>by
  simp only[RepE]at *
  refine⟨hr.1,?_,hr.2.2⟩
  rcases hr.2.1 with hr|⟨b,o,h1,h2⟩
  ·exact .inl hr
  ·exact .inr ⟨b,o,h1,RepEAt.mono h b o l h2⟩
theorem RepEAt.mono{m m':Mem}(h:m.le m')(b:Nat):∀(o:Nat)(l:List E),RepEAt m b o l->RepEAt m' b o l
 | _,[],_=>by simp only[RepEAt]
 | o,t::l,hr=>by
  simp only[RepEAt]at *
  exact⟨hr.1.mono h,RepE.mono h t hr.2.1,RepEAt.mono h b (o+5) l hr.2.2⟩
end
theorem RepE.mono'{m m':Mem}{t:E}(hr:RepE m t)(h:m.le m'):RepE m' t:=RepE.mono h t hr
theorem RepEAt.mono'{m m':Mem}{b o:Nat}{l:List E}(hr:RepEAt m b o l)(h:m.le m'):RepEAt m' b o l:=RepEAt.mono h b o l hr
theorem RepEAt.get{m:Mem}{b:Nat}:∀{o:Nat} {l:List E} {i:Nat} {t:E},RepEAt m b o l->l[i]?=some t->m.reads b (o+i*5) t.cs/\RepE m t
 | o,[],i,t,_,hi=>by simp at hi
 | o,x::l,0,t,h,hi=>by
  simp only[RepEAt]at h
  simp at hi;subst hi
  exact⟨by simpa using h.1,h.2.1⟩
 | o,x::l,i+1,t,h,hi=>by
  simp only[RepEAt]at h
  have:=h.2.2.get (i:=i) (by simpa using hi)
  rw[show o+(i+1)*5=o+5+i*5 by omega]
  exact this
mutual
def E.nodes:E->List E
 | .node k x s g a c l=>.node k x s g a c l::Zal l
def Zal:List E->List E
 | []=>[]
 | t::l=>t.nodes++Zal l
end
theorem Zbc(t:E):t.nodes=t::Zal t.subs:=by cases t;simp only[E.nodes,E.subs]
theorem ZaP(l r:List E):Zal (l++r)=Zal l++Zal r:=by
 induction l with
 | nil=>simp[Zal]
 | cons t l ih=>simp[Zal,ih,List.append_assoc]
theorem Zec{l:List E}{i:Nat}{t:E}(h:l[i]?=some t):Zal (l.take (i+1))=Zal (l.take i)++t.nodes:=by
 have:l.take (i+1)=l.take i++[t]:=by
  rw[List.take_add_one,h];rfl
 rw[this,ZaP];simp[Zal]
theorem Zb5{l:List E}{i:Nat}{t:E}(h:l[i]?=some t):Zal l=Zal (l.take i)++(t.nodes++Zal (l.drop (i+1))):=by
 have aC:=(zA0 h).1
 have e:l=l.take i++(t::l.drop (i+1)):=by
  have:=List.drop_eq_getElem_cons aC
  rw[(zA0 h).2]at this
  rw[<-this,List.take_append_drop]
 conv=>lhs;rw[e,ZaP]
 simp[Zal]
theorem Zq9{t x z:E}{i q:Nat}(hx:t.subs[i]?=some x)(hz:x.nodes[q]?=some z):t.nodes[1+(Zal (t.subs.take i)).length+q]?=some z:=by
 have hq:=(zA0 hz).1
 rw[Zbc,show 1+(Zal (t.subs.take i)).length+q=((Zal (t.subs.take i)).length+q)+1 by omega,List.getElem?_cons_succ,Zb5 hx,zA4 (by omega),zA5 (by omega),show(Zal (List.take i t.subs)).length+q - (Zal (List.take i t.subs)).length=q by omega]
 exact hz
theorem Zge{t x:E}(h:x∈t.subs):SizeOf.sizeOf x < SizeOf.sizeOf t:=by
 cases t with
 | node k x s g a c l=>
  have h':_∈l:=h
  have:=List.sizeOf_lt_of_mem h'
  simp only[E.node.sizeOf_spec]
  omega
theorem ZjQ(t:E):Shape.fitsL [.agg [.int .u8,.any,.str,.int .i64,.slice]] [t.v]=true:=by
 simp[Shape.fitsL,Shape.fits,E.v]
mutual
theorem ZmF{m:Mem}:∀(t:E),RepE m t->∀x∈t.nodes,RepE m x
 | .node k x s g a c l,hr,z,hx=>by
  simp only[E.nodes,List.mem_cons]at hx
  rcases hx with rfl|hx
  ·exact hr
  ·simp only[RepE]at hr
   rcases hr.2.1 with h|⟨b,o,_,h⟩
   ·subst h;simp[Zal]at hx
   ·exact ZjR b o l h z hx
theorem ZjR{m:Mem}(b:Nat):∀(o:Nat)(l:List E),RepEAt m b o l->∀x∈Zal l,RepE m x
 | _,[],_,x,hx=>by simp[Zal]at hx
 | o,t::l,hr,x,hx=>by
  simp only[RepEAt]at hr
  simp only[Zal,List.mem_append]at hx
  rcases hx with hx|hx
  ·exact ZmF t hr.2.1 x hx
  ·exact ZjR b (o+5) l hr.2.2 x hx
end
theorem Zoz{m:Mem}{t x:E}(h:RepE m t)(hx:x∈t.nodes):RepE m x:=ZmF t h x hx
def ZwZ:Nat:=9221120237041090561
def Zfz(x:Nat):Nat:=if Op.floatEq .f64 x x then x else ZwZ
def Zsz(x y:Nat):Bool:=Zfz x == Zfz y
def Ziu(x:Nat):Bool:=Op.floatEq .f64 x x||x == ZwZ
def E.light(t:E):Bool:=decide (t.nodes.length<=10000)
def E.size(t:E):Int:=if t.light then t.nodes.length else 0
mutual
def E.same:E->E->Bool
 | .node k x s g _ _ l,.node k' x' s' g' _ _ l'=>k == k'&&(Zsz x x'&&(s.toList == s'.toList&&(g == g'&&Zcd l l')))
def Zcd:List E->List E->Bool
 | [],[]=>true
 | t::l,t'::l'=>t.same t'&&Zcd l l'
 | _,_=>false
end
theorem Zpw(t u:E):t.same u=(t.k == u.k&&(Zsz t.x u.x&&(t.s.toList == u.s.toList&&(t.g == u.g&&Zcd t.subs u.subs)))):=by
 cases t;cases u;simp only[E.same,E.k,E.x,E.s,E.g,E.subs]
theorem ZjS:∀{l r:List E},¬l.length=r.length->Zcd l r=false
 | [],[],h=>by simp at h
 | [],_::_,_=>by simp[Zcd]
 | _::_,[],_=>by simp[Zcd]
 | x::l,y::r,h=>by
  simp only[Zcd,ZjS (l:=l) (r:=r) (by simpa using h),Bool.and_false]
theorem ZmG:∀{l r:List E} {i:Nat} {x y:E},l[i]?=some x->r[i]?=some y->x.same y=false->Zcd l r=false
 | [],r,i,x,y,h,_,_=>by simp at h
 | _::_,[],i,x,y,_,h,_=>by simp at h
 | a::l,b::r,0,x,y,h,k,e=>by
  simp at h k;subst h k
  simp[Zcd,e]
 | a::l,b::r,i+1,x,y,h,k,e=>by
  simp only[Zcd,ZmG (l:=l) (r:=r) (i:=i) (by simpa using h) (by simpa using k) e,Bool.and_false]
theorem ZhT:∀{l r:List E} {i:Nat} {x y:E},l[i]?=some x->r[i]?=some y->Zcd (l.take i) (r.take i)=true->x.same y=true->Zcd (l.take (i+1)) (r.take (i+1))=true
 | [],r,i,x,y,h,_,_,_=>by simp at h
 | _::_,[],i,x,y,_,h,_,_=>by simp at h
 | a::l,b::r,0,x,y,h,k,_,e=>by
  simp at h k;subst h k
  simp[Zcd,e]
 | a::l,b::r,i+1,x,y,h,k,hs,e=>by
  simp only[List.take_succ_cons,Zcd,zA7]at hs ⊢
  exact⟨hs.1,ZhT (by simpa using h) (by simpa using k) hs.2 e⟩
def E.most(t:E):Int:=if t.light then t.nodes.foldl (λn x=>if x.k=10 then(if x.g > n then x.g else n)else n) (-1)else -1
mutual
def E.names:E->List ByteArray->List ByteArray
 | .node k _ s _ _ _ l,out=>if k=9 then(if out.any (λy=>y.toList == s.toList)then out else out++[s])else Zbw l out
def Zbw:List E->List ByteArray->List ByteArray
 | [],out=>out
 | t::l,out=>Zbw l (t.names out)
end
theorem ZmH(t:E)(out:List ByteArray):t.names out=if t.k=9 then(if out.any (λy=>y.toList == t.s.toList)then out else out++[t.s])else Zbw t.subs out:=by
 cases t;simp only[E.names,E.k,E.s,E.subs];rfl
mutual
theorem Zpx:∀(t:E)(out:List ByteArray),out.length<=(t.names out).length
 | .node k _ s _ _ _ l,out=>by
  simp only[E.names]
  split
  ·split <;> simp
  ·exact Ziv l out
theorem Ziv:∀(l:List E)(out:List ByteArray),out.length<=(Zbw l out).length
 | [],out=>by simp[Zbw]
 | t::l,out=>by
  simp only[Zbw]
  exact Nat.le_trans (Zpx t out) (Ziv l _)
end
theorem ZjT(l r:List E)(out:List ByteArray):Zbw (l++r) out=Zbw r (Zbw l out):=by
 induction l generalizing out with
 | nil=>simp[Zbw]
 | cons t l ih=>simp only[List.cons_append,Zbw,ih]
theorem ZoA{l:List E}{i:Nat}{t:E}(h:l[i]?=some t)(out:List ByteArray):Zbw (l.take (i+1)) out=t.names (Zbw (l.take i) out):=by
 have:l.take (i+1)=l.take i++[t]:=by rw[List.take_add_one,h];rfl
 rw[this,ZjT];simp[Zbw]
theorem Zra{l:List E}{i:Nat}(out:List ByteArray):(Zbw (l.take i) out).length<=(Zbw l out).length:=by
 conv=>rhs;rw[<-List.take_append_drop i l,ZjT]
 exact Ziv _ _
mutual
theorem ZdN:∀(t:E)(out:List ByteArray),(t.names out).length<=out.length+t.nodes.length
 | .node k _ s _ _ _ l,out=>by
  simp only[E.names,E.nodes,List.length_cons]
  split
  ·split
   ·omega
   ·rw[zA1,List.length_singleton];omega
  ·have:=Zgf l out
   omega
theorem Zgf:∀(l:List E)(out:List ByteArray),(Zbw l out).length<=out.length+(Zal l).length
 | [],out=>by simp[Zbw]
 | t::l,out=>by
  simp only[Zbw,Zal,zA1]
  have:=ZdN t out
  have:=Zgf l (t.names out)
  omega
end
def E.vars(t:E):List ByteArray:=if t.light then t.names []else[]
theorem Ztu(s:ByteArray):s.data.toList.length=s.size:=by rw[Array.length_toList];rfl
theorem ZsA(s:ByteArray):∀(n i:Nat)(r:List UInt8),s.size - i=n->ByteArray.toList.loop s i r=r.reverse++s.data.toList.drop i
 | 0,i,r,h=>by
  rw[ByteArray.toList.loop,if_neg (by omega),List.drop_of_length_le (by have:=Ztu s;omega),List.append_nil]
 | n+1,i,r,h=>by
  have hs:=Ztu s
  have hi:i < s.size:=by omega
  rw[ByteArray.toList.loop,if_pos hi,ZsA s n (i+1) _ (by omega),List.reverse_cons,List.append_assoc]
  have hd:=List.drop_eq_getElem_cons (l:=s.data.toList) (i:=i) (by omega)
  rw[hd]
  have e:s.get! i=s.data.toList[i]'(by omega):=by
   rw[Array.getElem_toList]
   exact getElem!_pos s.data i hi
  rw[e];rfl
theorem baL(s:ByteArray):s.toList=s.data.toList:=by
 have:=ZsA s _ 0 [] rfl
 simpa[ByteArray.toList]using this
theorem Zvw(s:ByteArray):(s.toList == ByteArray.toList ⟨#[]⟩)=(s.size == 0):=by
 rw[baL,baL,<-Ztu]
 cases h:s.data.toList <;> simp[h] <;> rfl
theorem Zam{α:Type}{cs:α->List Value}{n:Nat}(hn:∀x,(cs x).length=n){m:Mem}{a:Option Addr}{L:List α}(h:rowRd m a (L.map cs).flatten){k:Nat}{t:α}(ht:L[k]?=some t)(h0:0 < n):∃b o,a=some ⟨b,o,none⟩/\m.reads b (o+k*n) (cs t):=by
 have aC:=(zA0 ht).1
 have len:∀l:List α,(l.map cs).flatten.length=l.length*n:=λl=>by
  induction l with
  | nil=>simp
  | cons x l ih=>rw[List.map_cons,List.flatten_cons,zA1,hn,ih,List.length_cons,Nat.succ_mul];omega
 have e:(L.map cs).flatten=((L.take k).map cs).flatten++(cs t++((L.drop (k+1)).map cs).flatten):=by
  have e1:L=L.take k++(t::L.drop (k+1)):=by
   have:=List.drop_eq_getElem_cons aC
   rw[(zA0 ht).2]at this
   rw[<-this,List.take_append_drop]
  conv=>lhs;rw[e1]
  rw[List.map_append,List.flatten_append,List.map_cons,List.flatten_cons]
 have hl:((L.take k).map cs).flatten.length=k*n:=by rw[len,List.length_take,Nat.min_eq_left (by omega)]
 rcases h with h|⟨b,o,ha,h⟩
 ·have:=congrArg List.length h
  rw[len,List.length_nil]at this
  have:0 < L.length*n:=Nat.mul_pos (by omega) h0
  omega
 ·refine⟨b,o,ha,λj v hj=>?_⟩
  have rA:=(zA0 hj).1
  have:=h (k*n+j) v (by rw[e,zA4 (by omega),hl,Nat.add_sub_cancel_left,zA5 rA];exact hj)
  rw[Nat.add_assoc];exact this
theorem ZaQ{α:Type}{cs:α->List Value}{n:Nat}(hn:∀x,(cs x).length=n)(l:List α):(l.map cs).flatten.length=l.length*n:=by
 induction l with
 | nil=>simp
 | cons x l ih=>rw[List.map_cons,List.flatten_cons,zA1,hn,ih,List.length_cons,Nat.succ_mul];omega
structure Pt where
 k:Int
 s:ByteArray
 g:Int
 e:E
def Pt.cs(p:Pt):List Value:=[.int .u8 p.k,.string p.s,.int .i64 p.g,.int .u8 p.e.k,.float .f64 p.e.x,.string p.e.s,.int .i64 p.e.g,.slice p.e.a p.e.subs.length p.e.c]
def Pt.v(p:Pt):Value:=.agg p.cs.toArray
structure Ac where
 k:Int
 s:ByteArray
 pa:Option Addr
 pc:Nat
 parts:List Pt
 e:E
def Ac.cs(a:Ac):List Value:=[.int .u8 a.k,.string a.s,.slice a.pa a.parts.length a.pc,.int .u8 a.e.k,.float .f64 a.e.x,.string a.e.s,.int .i64 a.e.g,.slice a.e.a a.e.subs.length a.e.c]
structure Ru where
 k:Int
 bg:Bool
 en:Bool
 t:T
 s:ByteArray
 n:Int
 aa:Option Addr
 ac:Nat
 acts:List Ac
 go:ByteArray
 code:Int
def Ru.cs(r:Ru):List Value:=[.int .u8 r.k,.bool r.bg,.bool r.en,.int .u8 r.t.k,.int .u64 r.t.s0,.int .u64 r.t.s1,.int .u64 r.t.s2,.int .u64 r.t.s3,.int .i64 r.t.mn,.int .i64 r.t.mx,.slice r.t.a r.t.subs.length r.t.c,.string r.s,.int .i64 r.n,.slice r.aa r.acts.length r.ac,.string r.go,.int .i64 r.code]
structure Sta where
 s:ByteArray
 ra:Option Addr
 rc:Nat
 rules:List Ru
def Sta.cs(x:Sta):List Value:=[.string x.s,.slice x.ra x.rules.length x.rc]
structure Va where
 s:ByteArray
 b:Bool
 t:ByteArray
 x:Nat
def Va.cs(v:Va):List Value:=[.string v.s,.bool v.b,.string v.t,.float .f64 v.x]
structure Sc where
 n:Int
 va:Option Addr
 vc:Nat
 vars:List Va
 sa:Option Addr
 sc:Nat
 states:List Sta
def Sc.cs(s:Sc):List Value:=[.int .i64 s.n,.slice s.va s.vars.length s.vc,.slice s.sa s.states.length s.sc]
def Sc.v(s:Sc):Value:=.agg #[.int .i64 s.n,.slice s.va s.vars.length s.vc,.slice s.sa s.states.length s.sc]
theorem Pt.len(p:Pt):p.cs.length=8:=rfl
theorem Ac.len(p:Ac):p.cs.length=8:=rfl
theorem Ru.len(p:Ru):p.cs.length=16:=rfl
theorem Sta.len(p:Sta):p.cs.length=2:=rfl
theorem Va.len(p:Va):p.cs.length=4:=rfl
def I64(n:Int):Prop:=-9223372036854775808<=n/\n<=9223372036854775807
def few:Nat:=100000
structure RepP (m:Mem)(p:Pt):Prop where
 k:0<=p.k/\p.k < 256
 s:p.s.size<=1000000000000000
 g:I64 p.g
 e:RepE m p.e
structure RepA (m:Mem)(a:Ac):Prop where
 k:0<=a.k/\a.k < 256
 s:a.s.size<=1000000000000000
 n:a.parts.length<=few
 row:rowRd m a.pa (a.parts.map Pt.cs).flatten
 all:∀p∈a.parts,RepP m p
 e:RepE m a.e
structure RepR (m:Mem)(r:Ru):Prop where
 k:0<=r.k/\r.k < 256
 t:Rep m r.t
 s:r.s.size<=1000000000000000
 n:I64 r.n
 len:r.acts.length<=few
 row:rowRd m r.aa (r.acts.map Ac.cs).flatten
 all:∀p∈r.acts,RepA m p
 go:r.go.size<=1000000000000000
 code:I64 r.code
structure RepS (m:Mem)(x:Sta):Prop where
 s:x.s.size<=1000000000000000
 len:x.rules.length<=few
 row:rowRd m x.ra (x.rules.map Ru.cs).flatten
 all:∀p∈x.rules,RepR m p
structure RepV (v:Va):Prop where
 s:v.s.size<=1000000000000000
 t:v.t.size<=1000000000000000
structure RepC (m:Mem)(s:Sc):Prop where
 n:I64 s.n
 vlen:s.vars.length<=few
 vrow:rowRd m s.va (s.vars.map Va.cs).flatten
 vall:∀v∈s.vars,RepV v
 len:s.states.length<=few
 row:rowRd m s.sa (s.states.map Sta.cs).flatten
 all:∀x∈s.states,RepS m x
 vcap:s.vars.length<=s.vc
 scap:s.states.length<=s.sc
section
variable {m m':Mem} (h:m.le m')
include h
theorem RepP.mono{p:Pt}(x:RepP m p):RepP m' p:=⟨x.k,x.s,x.g,RepE.mono h _ x.e⟩
theorem RepA.mono{p:Ac}(x:RepA m p):RepA m' p:=⟨x.k,x.s,x.n,x.row.mono h,λp hp=>(x.all p hp).mono h,RepE.mono h _ x.e⟩
theorem RepR.mono{p:Ru}(x:RepR m p):RepR m' p:=⟨x.k,x.t.mono h,x.s,x.n,x.len,x.row.mono h,λp hp=>(x.all p hp).mono h,x.go,x.code⟩
theorem RepS.mono{p:Sta}(x:RepS m p):RepS m' p:=⟨x.s,x.len,x.row.mono h,λp hp=>(x.all p hp).mono h⟩
theorem RepC.mono{p:Sc}(x:RepC m p):RepC m' p:=⟨x.n,x.vlen,x.vrow.mono h,x.vall,x.len,x.row.mono h,λp hp=>(x.all p hp).mono h,x.vcap,x.scap⟩
end
def nE(e:E):Int:=if e.light then e.size else 20001
def ZaR:List Int->Int
 | []=>0
 | x::l=>x+ZaR l
theorem ZgU(l r:List Int):ZaR (l++r)=ZaR l+ZaR r:=by
 induction l with
 | nil=>simp[ZaR]
 | cons x l ih=>simp only[List.cons_append,ZaR,ih];omega
theorem Zfo{α:Type}{l:List α}{i:Nat}{x:α}(f:α->Int)(h:l[i]?=some x):ZaR ((l.take (i+1)).map f)=ZaR ((l.take i).map f)+f x:=by
 rw[List.take_add_one,h,List.map_append,ZgU];simp[ZaR]
theorem ZfA{α:Type}(f:α->Int)(hf:∀x,0<=f x):∀l:List α,0<=ZaR (l.map f)
 | []=>by simp[ZaR]
 | x::l=>by
  have:=ZfA f hf l;have:=hf x
  simp only[List.map_cons,ZaR];omega
theorem Zfp{α:Type}(f:α->Int)(hf:∀x,0<=f x)(l:List α)(i:Nat):ZaR ((l.take i).map f)<=ZaR (l.map f):=by
 have e:ZaR (l.map f)=ZaR ((l.take i).map f)+ZaR ((l.drop i).map f):=by rw[<-ZgU,<-List.map_append,List.take_append_drop]
 have:=ZfA f hf (l.drop i)
 omega
def wA(a:Ac):Int:=1+nE a.e+a.parts.length+ZaR (a.parts.map λp=>nE p.e)
def wR(r:Ru):Int:=1+ZhR r.t.size 20000+(if r.t.light then 0 else 20001)+ZaR (r.acts.map wA)
theorem Zg6(e:E):0<=nE e/\nE e<=20001:=by
 unfold nE E.size E.light
 split
 ·rename_i h
  simp only[decide_eq_true_eq]at h
  first|omega|(rw[if_pos (by simpa using h)];omega)
 ·omega
theorem ZjU(t:T):0<=t.size/\t.size<=10001:=by
 unfold T.size T.light
 split
 ·rename_i h;simp only[decide_eq_true_eq]at h;omega
 ·omega
theorem Zrb(a:Ac):0<=wA a:=by
 have:=(Zg6 a.e).1
 have:=ZfA (λp:Pt=>nE p.e) (λp=>(Zg6 p.e).1) a.parts
 unfold wA;omega
theorem Zw0(r:Ru):0<=wR r:=by
 have:=ZfA wA Zrb r.acts
 have h1:=(ZjU r.t).1
 have:0<=ZhR r.t.size 20000:=by unfold ZhR;split <;> omega
 unfold wR;split <;> omega
def wS(x:Sta):Int:=ZaR (x.rules.map wR)
theorem Zyb(x:Sta):0<=wS x:=ZfA wR Zw0 _
def Sc.weight(s:Sc):Int:=s.vars.length+s.states.length+ZaR (s.states.map wS)
def Sc.light(s:Sc):Bool:=decide (s.weight<=20000)
structure Pl where
 v:Int
 s:Int
 r:Int
 a:Int
 p:Int
deriving DecidableEq
def Pl.cs(p:Pl):List Value:=[.int .i64 p.v,.int .i64 p.s,.int .i64 p.r,.int .i64 p.a,.int .i64 p.p]
def top:Pl:=⟨-1,-1,-1,-1,-1⟩
def Zc4(n:Nat)(f:Nat->List Pl):List Pl:=(List.range n).flatMap f
def plA(i k m:Nat)(a:Ac):List Pl:=⟨-1,i,k,m,-1⟩::Zc4 a.parts.length λn=>[⟨-1,i,k,m,n⟩]
def plR(i k:Nat)(r:Ru):List Pl:=⟨-1,i,k,-1,-1⟩::Zc4 r.acts.length λm=>match r.acts[m]? with
 | some a=>plA i k m a
 | none=>[]
def plS(i:Nat)(x:Sta):List Pl:=⟨-1,i,-1,-1,-1⟩::Zc4 x.rules.length λk=>match x.rules[k]? with
 | some r=>plR i k r
 | none=>[]
def Sc.places(s:Sc):List Pl:=if s.light then top::(Zc4 s.vars.length (λi=>[⟨i,-1,-1,-1,-1⟩])++Zc4 s.states.length λi=>match s.states[i]? with
 | some x=>plS i x
 | none=>[])else[]
def Zcr:List (Int×Bool)->Int
 | []=>0
 | (e,w)::l=>if w then e else Zcr l
def Zc5(n a b:Int):Bool:=decide (n ≥ a)&&decide (n<=b)
def eqS(a b:ByteArray):Bool:=a.toList == b.toList
def ZyH(c:UInt8):Bool:=(decide (97<=c.toNat)&&decide (c.toNat<=122))||(decide (48<=c.toNat)&&decide (c.toNat<=57))||c.toNat == 95
def Zxo:List ByteArray:=[⟨#[109,105,110]⟩,⟨#[109,97,120]⟩,⟨#[110,117,109]⟩]
def ZfB(s:ByteArray):Bool:=!(s.size == 0||decide (s.size > 16)||decide ((s.data.toList.getD 0 0).toNat < 97)||decide ((s.data.toList.getD 0 0).toNat > 122)||Zxo.any λw=>eqS w s)&&s.data.toList.all ZyH
def Zg7(s:Sc)(name:ByteArray):Bool×Bool:=match s.vars.find? λv=>eqS v.s name with
 | some v=>(v.b,true)
 | none=>(false,false)
def Zdm(s:Sc)(e:E):Bool:=!e.vars.any λn=>!(Zg7 s n).1
def ZuM(e:E):Bool:=e.light&&(E0.light&&e.same E0)
def ZmI(k:Int):Int:=if k=1 then 1 else if 2<=k/\k<=7 then 2 else 0
def Zrc:List E->Bool
 | u::_=>u.k == 8
 | []=>false
def E.right(t:E):Bool:=!(t.k == 0)&&(decide (t.k<=10)&&((if t.k=9 then ZfB t.s else t.s.size == 0)&&((if t.k=8 then Ziu t.x else Zsz t.x 0)&&((if t.k=10 then decide (t.g ≥ 0)&&decide (t.g<=9)else t.g == 0)&&((t.subs.length:Int) == ZmI t.k&&!(t.k == 1&&(t.subs.length == 1&&Zrc t.subs)))))))
def E.clean(t:E):Bool:=t.light&&t.nodes.all E.right
def ZmJ(s:Sc):Int:=Zcr [(300,!Zc5 s.n 2 256),(302,!Zc5 s.states.length 1 24||decide (s.vars.length > 12))]
def Ztv(v:Va):Bool:=if v.b then Ziu v.x&&v.t.size == 0 else v.x == 0&&decide (v.t.size<=512)
def ZcF(s:Sc)(i:Nat)(v:Va):Int:=Zcr [(301,!ZfB v.s||(!Ztv v||(s.vars.take i).any λx=>eqS x.s v.s))]
def ZmK(s:Sc)(i:Nat)(x:Sta):Int:=Zcr [(303,!ZfB x.s||(decide (x.rules.length > 12)||(s.states.take i).any λy=>eqS y.s x.s))]
def Zyv(r:Ru):Bool:=r.bg||(r.en||!(r.t.light&&(T0.light&&r.t.same T0)))
def Zpy(r:Ru):Bool:=if r.k=2 then !Zyv r&&(r.n == 0&&Zc5 r.s.size 1 64)else if r.k=4 then !Zyv r&&(r.s.size == 0&&Zc5 r.n 1 1000)else if r.k=3 then !Zyv r&&(r.s.size == 0&&r.n == 0)else if r.k=1 then r.s.size == 0&&r.n == 0 else false
def Zde(r:Ru):Int:=if r.k=1 then r.t.groups else if r.k=2 then 0 else -1
def Zrd(s:Sc)(name:ByteArray):Bool:=(s.states.any λx=>eqS x.s name)&&s.light
def Zpz(s:Sc)(r:Ru)(total:Int):Int:=Zcr [(304,!Zpy r||decide (r.acts.length > 8)),(305,r.k == 1&&(!(r.t.check == 0)||decide (total > 600))),
 (306,if r.go.size=0 then !Zc5 r.code 0 255 else !Zrd s r.go||!(r.code == 0))]
def ZdO(s:Sc)(r:Ru)(a:Ac):Int:=Zcr [(307,!Zc5 a.k 1 3||(a.k == 1&&!(a.s.size == 0))||(a.k == 3&&decide (a.parts.length > 0))||(a.k == 3&&!a.e.clean)||(!(a.k == 3)&&!ZuM a.e)||decide (a.parts.length > 16)),
 (308,(!(a.k == 1)&&(!(Zg7 s a.s).2||!((Zg7 s a.s).1 == (a.k == 3))))||(a.k == 3&&!Zdm s a.e)),(309,a.k == 3&&decide (a.e.most > Zde r))]
def ZfC(p:Pt):Bool:=if p.k=1 then decide (p.s.size > 0)&&(decide (p.s.size<=512)&&(p.g == 0&&ZuM p.e))else if p.k=2 then ZfB p.s&&(p.g == 0&&ZuM p.e)else if p.k=3 then decide (p.g ≥ 0)&&(decide (p.g<=9)&&(p.s.size == 0&&ZuM p.e))else if p.k=4 then p.e.clean&&(p.s.size == 0&&p.g == 0)else false
def Zlm(s:Sc)(r:Ru)(l:List Pt)(i:Nat)(p:Pt):Int:=Zcr [(307,!ZfC p||(decide (i > 0)&&(p.k == 1&&(match l[i - 1]? with
 | some q=>q.k == 1
 | none=>false)))),(308,(p.k == 2&&!(Zg7 s p.s).2)||(p.k == 4&&!Zdm s p.e)),(309,(p.k == 3&&decide (p.g > Zde r))||(p.k == 4&&decide (p.e.most > Zde r)))]
def sizeR(r:Ru):Int:=if r.k=1 then r.t.size else 0
def totals(s:Sc)(i k:Nat):Int:=ZaR ((s.states.take i).map λx=>ZaR (x.rules.map sizeR))+(match s.states[i]? with
 | some x=>ZaR ((x.rules.take (k+1)).map sizeR)
 | none=>0)
def atS(s:Sc)(p:Pl):Int:=if p.v ≥ 0 then(match s.vars[p.v.toNat]? with
  | some v=>ZcF s p.v.toNat v
  | none=>0)else if p.s < 0 then ZmJ s else match s.states[p.s.toNat]? with
  | none=>0
  | some x=>if p.r < 0 then ZmK s p.s.toNat x else match x.rules[p.r.toNat]? with
   | none=>0
   | some r=>if p.a < 0 then Zpz s r (totals s p.s.toNat p.r.toNat)else match r.acts[p.a.toNat]? with
    | none=>0
    | some a=>if p.p < 0 then ZdO s r a else match a.parts[p.p.toNat]? with
     | none=>0
     | some q=>Zlm s r a.parts p.p.toNat q
def Sc.problems(s:Sc):List (Pl×Int):=s.places.filterMap λp=>if atS s p=0 then none else some (p,atS s p)
def Sc.check(s:Sc):Pl×Int:=if s.light then(match s.problems with
 | p::_=>p
 | []=>(top,0))else(top,5)
end Go.Rx
namespace Go.Rx
open Go Go.Eng Go.RowKit
theorem ZmL(w:World)(b:Nat)(f:Array Value->Array Value){cur:Array Value}{T:TypeId}{fr:Nat×Nat}(h:w.heap[b]?=some (.cells cur T fr)):(Go.Sort.mapBlock w b f).heap[b]?=some (.cells (f cur) T fr):=by
 unfold Go.Sort.mapBlock
 simp only[Array.getElem?_modify,if_true,h,Option.map_some]
 rfl
theorem ZkE(w:World)(b:Nat)(f:Array Value->Array Value){k:Nat}(h:k≠b):(Go.Sort.mapBlock w b f).heap[k]?=w.heap[k]?:=by
 unfold Go.Sort.mapBlock
 simp only[Array.getElem?_modify]
 rw[if_neg (λe=>h e.symm)]
theorem Ztw(w:World):Go.Sort.grow w #[]=w:=by
 unfold Go.Sort.grow;rw[Array.append_empty]
section
variable {α:Type} [Inhabited α] (enc:α->Value)
set_option maxHeartbeats 1600000 in
theorem ZhU{P:Program}{g:FuncId}{zs ys:List α}{vf:Option Addr->Value}{a:Option Addr}{c N:Nat}{m:Mem}
  (vJ:ZdC P g) (hr:rowRd m a (zs.map enc)) (hl:ys.length=zs.length) (hN:zs.length<=N)
  (h0:zs=[]->∀w:World,Calls P g #[.slice a 0 c] w λe w'=>e=.returned (vf a)/\w'=w)
  (h1:zs≠[]->∀(b o:Nat)(w:World),a=some ⟨b,o,none⟩->zs.length<=c->Go.Sort.Holds enc w b o zs.toArray->b < w.heap.size->Calls P g #[.slice (some ⟨b,o,none⟩) zs.length c] w λe w'=>e=.returned (vf a)/\∃n os,w'=Go.Sort.grow (Go.Sort.putRow enc (Go.Sort.ahead w n) b o ys.toArray) os):
  CXY P g #[.slice a zs.length c] m (λk=>(Tok.mk (.slice a N c) 1).blk=some k) [] [⟨.slice a N c,1⟩]
   (λv m' css tvs=>v=vf a/\css=[]/\tvs=[.slice a N c]/\rowRd m' a (ys.map enc)):=by
 refine⟨vJ,λw hs _ _ ht iw hY=>?_⟩
 obtain⟨aN,xn⟩:=ht _ (List.mem_singleton.2 rfl)
 by_cases hz:zs=[]
 ·subst hz
  obtain rfl:ys=[]:=List.eq_nil_of_length_eq_zero (by simpa using hl)
  refine(h0 rfl w).mono ?_
  rintro e w' ⟨rfl,rfl⟩
  refine⟨_,m,[],[.slice a N c],rfl,Mem.off_le _ _,hs,NewM.refl _ _,Upd.refl _ _,rfl,λi x cs hi=>by simp at hi,rfl,λi t tv hi hv=>?_,iw,rfl,rfl,rfl,.inl (by simp)⟩
  cases i with
  | zero=>
   simp at hi hv;subst hi hv
   exact⟨rfl,aN,λb hb=>⟨.inl hb,by simp⟩⟩
  | succ i=>simp at hi
 ·have cS:(zs.map enc)≠[]:=by simp[hz]
  rcases hr with hr|⟨b,o,rfl,cD⟩
  ·exact absurd hr cS
  rcases aN with h2|⟨b',o',n',c',cur,T,fr,hv,gL,hh,bE,ew,cP⟩
  ·cases h2
  simp only[Value.slice.injEq,Option.some.injEq,Addr.mk.injEq,and_true]at hv
  obtain⟨⟨rfl,rfl⟩,rfl,rfl⟩:=hv
  simp only[Nat.mul_one]at bE cP
  have oB:b < w.heap.size:=(Array.getElem?_eq_some_iff.1 hh).1
  have hH:Go.Sort.Holds enc w b o zs.toArray:=λj hj=>by
   have hj':j < zs.length:=by simpa using hj
   have e:zs.toArray[j]! = zs[j]:=by rw[getElem!_pos _ j hj];simp
   refine⟨?_,?_⟩
   ·have:=hs _ _ _ (cD j (enc zs[j]) (by simp[hj']))
    rw[this,e]
   ·have h2:=ew (o+j) (by omega)
    obtain⟨f1,f2⟩:=fr
    simp only[World.frozen?,hh,Bool.and_eq_false_iff,decide_eq_false_iff_not]
    simp only at h2
    omega
  refine(h1 hz b o w rfl (by omega) hH oB).mono ?_
  rintro e w' ⟨rfl,n,os,hw'⟩
  have mB:(Go.Sort.putRow enc (Go.Sort.ahead w n) b o ys.toArray).heap.size=w.heap.size:=by simp[Go.Sort.putRow,Go.Sort.mapBlock,Go.Sort.ahead]
  have eu:w'.heap[b]?=some (.cells (Go.Sort.putCells enc o ys.toArray cur) T fr):=by
   rw[hw',Go.Sort.heap_grow_old _ _ (by rw[mB];exact oB)];exact ZmL _ b _ hh
  have fV:∀k,k < w.heap.size->k≠b->w'.heap[k]?=w.heap[k]?:=λk aC hk=>by
   rw[hw',Go.Sort.heap_grow_old _ _ (by rw[mB];exact aC)];exact ZkE _ b _ hk
  have rB:(Go.Sort.putCells enc o ys.toArray cur).size=cur.size:=by simp[Go.Sort.putCells]
  have bV:∀k:Nat,(Go.Sort.putCells enc o ys.toArray cur)[k]?=if o<=k/\k < o+zs.length then(ys.map enc)[k - o]? else cur[k]?:=λk=>by
   simp only[Go.Sort.putCells,Array.getElem?_mapIdx]
   by_cases hk:o<=k/\k < o+zs.length
   ·rw[if_pos hk,Array.getElem?_eq_getElem (by omega),Option.map_some,if_pos (by simp;omega)]
    have:k - o < ys.length:=by omega
    rw[getElem!_pos _ (k - o) (by simpa using this)]
    have e2:(ys.map enc)[k - o]?=some (enc (ys[k - o]'this)):=by
     rw[List.getElem?_map,zA3 this];rfl
    rw[e2];simp
   ·rw[if_neg hk]
    cases cur[k]? with
    | none=>rfl
    | some y=>rw[Option.map_some,if_neg (by simp;omega)]
  have rC:∀k e,m.k k=some e->k≠b:=λk e he eW=>by
   obtain⟨es,cl,h8,_⟩:=hs.k k e he
   rw[eW,hh]at h8;cases h8
  refine⟨_,m.upd b o (ys.map enc),[],[.slice (some ⟨b,o,none⟩) N c],rfl,⟨λb1 o1 v hv=>?_,λb1 e he=>Mem.off_le m _ |>.k b1 e he⟩,⟨λb1 o1 v hv=>?_,λb1 e he=>(hs.k b1 e he).same (fV b1 (hs.k b1 e he).lt (rC b1 e he))⟩,⟨λb1 o1 u hu=>?_,λ_ _ he=>.inl he⟩,⟨by rw[hw'];rfl,by rw[hw'];rfl,by rw[hw'];rfl,?_,λk hk hn=>?_,λk aC hk=>?_⟩,rfl,λi x cs hi=>by simp at hi,rfl,λi t tv hi hv=>?_,?_,rfl,rfl,rfl,.inr ⟨b,o,rfl,λj v hv=>?_⟩⟩
  ·have dT:b1≠b:=λe=>by
    subst e
    rw[Mem.off_free (by rfl)]at hv;cases hv
   rw[Mem.upd_other _ dT];exact(Mem.off_le _ _).c _ _ _ hv
  ·by_cases dT:b1=b
   ·subst dT
    simp only[World.cell?,eu,Option.isSome_none,Bool.false_eq_true,if_false]
    rw[bV]
    simp only[Mem.upd,true_and]at hv
    have aH:(ys.map enc).length=zs.length:=by simp[hl]
    rw[aH]at hv
    split at hv
    ·rename_i eV
     rw[if_pos eV];exact hv
    ·rename_i eV
     rw[if_neg eV]
     have:=hs _ _ _ hv
     simpa only[World.cell?,hh,Option.isSome_none,Bool.false_eq_true,if_false]using this
   ·rw[Mem.upd_other _ dT]at hv
    rw[ZbB (fV b1 (hs.lt hv) dT)];exact hs _ _ _ hv
  ·by_cases dT:b1=b
   ·subst dT;exact .inr (.inl rfl)
   ·rw[Mem.upd_other _ dT]at hu;exact .inl hu
  ·rw[hw']
   show w.heap.size<=(Go.Sort.grow _ os).heap.size
   have:(Go.Sort.grow (Go.Sort.putRow enc (Go.Sort.ahead w n) b o ys.toArray) os).heap.size=(Go.Sort.putRow enc (Go.Sort.ahead w n) b o ys.toArray).heap.size+os.size:=by simp[Go.Sort.grow]
   rw[this,mB];omega
  ·refine fV k hk λe=>hn (.inr ?_)
   rw[e];rfl
  ·by_cases eW:k=b
   ·subst eW
    intro c1 T1 fr1 rD i hi
    rw[eu]at rD
    simp only[Option.some.injEq,Obj.cells.injEq]at rD
    obtain⟨rfl,rfl,rfl⟩:=rD
    exact ew i (by rw[rB]at hi;exact hi)
   ·exact hk.of_eq (fV k aC eW)
  ·cases i with
   | zero=>
    simp at hi hv;subst hi hv
    refine⟨rfl,.inr ⟨b,o,_,_,_,T,fr,rfl,gL,eu,by rw[rB,Nat.mul_one];exact bE,λi hi=>ew i (by rw[rB]at hi;exact hi),λk iP i6=>?_⟩,λb1 dT=>⟨.inl dT,by simp⟩⟩
    simp only[Nat.mul_one]at iP i6
    simp only[Mem.upd,true_and]
    rw[if_neg (by simp;omega)]
    exact cP k iP i6
   | succ i=>simp at hi
  ·intro i j t t' b1 hi hj _ _
   have hi':=(zA0 hi).1
   have hj':=(zA0 hj).1
   simp at hi' hj'
   omega
  ·have rE:=(zA0 hv).1
   simp only[List.length_map]at rE
   simp only[Mem.upd,true_and]
   rw[if_pos ⟨by omega,by rw[List.length_map];omega⟩,Nat.add_sub_cancel_left];exact hv
end
end Go.Rx
namespace Go.Rx
open Go Go.Eng
theorem ZbN(n:Nat)(f:Nat->List Pl):Zc4 (n+1) f=Zc4 n f++f n:=by simp[Zc4,List.range_succ,List.flatMap_append]
theorem ZpA{i n:Nat}(h:i<=n)(f:Nat->List Pl):(Zc4 i f).length<=(Zc4 n f).length:=by
 induction n with
 | zero=>
  obtain rfl:i=0:=by omega
  exact Nat.le_refl _
 | succ n ih=>
  by_cases e:i=n+1
  ·rw[e];exact Nat.le_refl _
  ·have:=ih (by omega)
   rw[ZbN,zA1];omega
theorem Zfq(n:Nat)(f:Nat->Pl):(Zc4 n λi=>[f i]).length=n:=by
 induction n with
 | zero=>rfl
 | succ n ih=>rw[ZbN,zA1,ih];rfl
theorem Zlw{α:Type}(l:List α)(F:Nat->List Pl)(g:Nat->α->List Pl)(w:α->Int)(hF:∀i x,l[i]?=some x->F i=g i x)(hw:∀i x,x∈l->((g i x).length:Int)<=w x):∀k,k<=l.length->((Zc4 k F).length:Int)<=ZaR ((l.take k).map w):=by
 intro k
 induction k with
 | zero=>intro _;simp[Zc4,ZaR]
 | succ k ih=>
  intro hk
  have:=ih (by omega)
  have hx:l[k]?=some l[k]:=zA3 (by omega)
  have h2:=hw k l[k] (List.getElem_mem _)
  rw[ZbN,zA1,Zfo w hx,hF k _ hx]
  push_cast
  omega
def Hf(i k:Nat)(r:Ru)(m:Nat):List Pl:=match r.acts[m]? with
 | some a=>plA i k m a
 | none=>[]
def Gf(i:Nat)(x:Sta)(k:Nat):List Pl:=match x.rules[k]? with
 | some r=>plR i k r
 | none=>[]
def Ff(s:Sc)(i:Nat):List Pl:=match s.states[i]? with
 | some x=>plS i x
 | none=>[]
def Pf(i k m n:Nat):List Pl:=[⟨-1,i,k,m,n⟩]
def Vf(i:Nat):List Pl:=[⟨i,-1,-1,-1,-1⟩]
theorem Zre(i k m:Nat)(a:Ac):plA i k m a=⟨-1,i,k,m,-1⟩::Zc4 a.parts.length (Pf i k m):=rfl
theorem Zrf(i k:Nat)(r:Ru):plR i k r=⟨-1,i,k,-1,-1⟩::Zc4 r.acts.length (Hf i k r):=rfl
theorem Zrg(i:Nat)(x:Sta):plS i x=⟨-1,i,-1,-1,-1⟩::Zc4 x.rules.length (Gf i x):=rfl
theorem Ziw{s:Sc}(h:s.light=true):s.places=top::(Zc4 s.vars.length Vf++Zc4 s.states.length (Ff s)):=by unfold Sc.places;rw[if_pos h];rfl
theorem ZoB(s:Sc):s.places.length<=20001:=by
 cases h:s.light with
 | false=>unfold Sc.places;rw[h];simp
 | true=>
  have hw:s.weight<=20000:=by unfold Sc.light at h;exact zA6 h
  rw[Ziw h,List.length_cons,zA1]
  have h1:(Zc4 s.vars.length Vf).length=s.vars.length:=Zfq _ _
  have hA:∀i k m (a:Ac),((plA i k m a).length:Int)<=wA a:=λi k m a=>by
   rw[Zre,List.length_cons,show(Zc4 a.parts.length (Pf i k m)).length=a.parts.length from Zfq _ _]
   have:=(Zg6 a.e).1
   have:=ZfA (λp:Pt=>nE p.e) (λp=>(Zg6 p.e).1) a.parts
   unfold wA;push_cast;omega
  have hR:∀i k (r:Ru),((plR i k r).length:Int)<=wR r:=λi k r=>by
   rw[Zrf,List.length_cons]
   have:=Zlw r.acts (Hf i k r) (plA i k) wA (λm a h=>by unfold Hf;rw[h]) (λj x _=>hA i k j x) r.acts.length (Nat.le_refl _)
   rw[List.take_length]at this
   have h1:=(ZjU r.t).1
   have h2:0<=ZhR r.t.size 20000:=by unfold ZhR;split <;> omega
   have h3:((Zc4 r.acts.length (Hf i k r)).length:Int)<=ZaR (r.acts.map wA):=this
   unfold wR;push_cast;split <;> omega
  have hS:∀i (x:Sta),((plS i x).length:Int)<=1+wS x:=λi x=>by
   rw[Zrg,List.length_cons]
   have:=Zlw x.rules (Gf i x) (plR i) wR (λm a h=>by unfold Gf;rw[h]) (λj x _=>hR i j x) x.rules.length (Nat.le_refl _)
   rw[List.take_length]at this
   have h3:((Zc4 x.rules.length (Gf i x)).length:Int)<=ZaR (x.rules.map wR):=this
   unfold wS;push_cast;omega
  have:=Zlw s.states (Ff s) plS (λx=>1+wS x) (λm a h=>by unfold Ff;rw[h]) (λj x _=>hS j x) s.states.length (Nat.le_refl _)
  rw[List.take_length]at this
  have h3:((Zc4 s.states.length (Ff s)).length:Int)<=ZaR (s.states.map λx=>1+wS x):=this
  have h4:∀l:List Sta,ZaR (l.map λx=>1+wS x)=l.length+ZaR (l.map wS):=λl=>by
   induction l with
   | nil=>rfl
   | cons x l ih=>simp only[List.map_cons,ZaR,ih,List.length_cons];push_cast;omega
  rw[h4]at h3
  unfold Sc.weight at hw
  omega
theorem ZgV{n:Nat}{f:Nat->List Pl}{p:Pl}(h:p∈Zc4 n f):∃i,i < n/\p∈f i:=by
 unfold Zc4 at h
 obtain⟨i,hi,hp⟩:=List.mem_flatMap.1 h
 exact⟨i,List.mem_range.1 hi,hp⟩
def ZzH(s:Sc)(p:Pl):Prop:=(∃i:Nat,p.v=i/\∃v,s.vars[i]?=some v)\/(p.v < 0/\(p.s < 0\/∃i:Nat,p.s=i/\∃x,s.states[i]?=some x/\(p.r < 0\/∃k:Nat,p.r=k/\∃r,x.rules[k]?=some r/\(p.a < 0\/∃j:Nat,p.a=j/\∃a,r.acts[j]?=some a/\(p.p < 0\/∃n:Nat,p.p=n/\∃q,a.parts[n]?=some q)))))
theorem Zxp:(-1:Int) < 0:=by decide
theorem ZuN{α:Type}{l:List α}{n:Nat}(h:n < l.length):∃c,l[n]?=some c:=⟨_,zA3 h⟩
theorem ZmM(s:Sc):∀p∈s.places,ZzH s p:=by
 intro p hp
 cases h:s.light with
 | false=>unfold Sc.places at hp;rw[h]at hp;simp at hp
 | true=>
  rw[Ziw h]at hp
  rcases List.mem_cons.1 hp with rfl|hp
  ·exact .inr ⟨by decide,.inl (by decide)⟩
  rcases List.mem_append.1 hp with hp|hp
  ·obtain⟨i,hi,hp⟩:=ZgV hp
   obtain rfl:p=⟨i,-1,-1,-1,-1⟩:=by simpa[Vf]using hp
   exact .inl ⟨i,rfl,ZuN hi⟩
  ·obtain⟨i,hi,hp⟩:=ZgV hp
   obtain⟨x,hx⟩:=ZuN hi
   have hp:p∈plS i x:=by unfold Ff at hp;rw[hx]at hp;exact hp
   rw[Zrg]at hp
   rcases List.mem_cons.1 hp with rfl|hp
   ·exact .inr ⟨Zxp,.inr ⟨i,rfl,x,hx,.inl (Zxp)⟩⟩
   obtain⟨k,hk,hp⟩:=ZgV hp
   obtain⟨r,hr⟩:=ZuN hk
   have hp:p∈plR i k r:=by unfold Gf at hp;rw[hr]at hp;exact hp
   rw[Zrf]at hp
   rcases List.mem_cons.1 hp with rfl|hp
   ·exact .inr ⟨Zxp,.inr ⟨i,rfl,x,hx,.inr ⟨k,rfl,r,hr,.inl (Zxp)⟩⟩⟩
   obtain⟨j,hj,hp⟩:=ZgV hp
   obtain⟨a,ha⟩:=ZuN hj
   have hp:p∈plA i k j a:=by unfold Hf at hp;rw[ha]at hp;exact hp
   rw[Zre]at hp
   rcases List.mem_cons.1 hp with rfl|hp
   ·exact .inr ⟨Zxp,.inr ⟨i,rfl,x,hx,.inr ⟨k,rfl,r,hr,.inr ⟨j,rfl,a,ha,.inl (Zxp)⟩⟩⟩⟩
   obtain⟨n,hn,hp⟩:=ZgV hp
   obtain rfl:p=⟨-1,i,k,j,n⟩:=by simpa[Pf]using hp
   exact .inr ⟨Zxp,.inr ⟨i,rfl,x,hx,.inr ⟨k,rfl,r,hr,.inr ⟨j,rfl,a,ha,.inr ⟨n,rfl,ZuN hn⟩⟩⟩⟩⟩
end Go.Rx
namespace Go.Rx
open Go Go.Eng Go.RowKit
def T.good(t:T):Bool:=t.nodes.all T.right
def isG(t:T):Bool:=t.k == 6
theorem ZjV(p:T->Bool):∀l:List T,(ZaD l).all p=l.all λt=>t.nodes.all p
 | []=>rfl
 | t::l=>by simp only[ZaD,List.all_append,List.all_cons,ZjV p l]
theorem ZmN(t:T):t.good=(t.right&&t.subs.all T.good):=by
 unfold T.good;rw[Zci,List.all_cons,ZjV]
def grL(l:List T):Nat:=(ZaD l).countP isG
def szL(l:List T):Nat:=(ZaD l).length
def T.gr(t:T):Nat:=t.nodes.countP isG
theorem ZaB(l r:List T):szL (l++r)=szL l+szL r:=by unfold szL;rw[ZcE,zA1]
theorem Zbg(l r:List T):grL (l++r)=grL l+grL r:=by unfold grL;rw[ZcE,List.countP_append]
theorem Za6(t:T):szL [t]=t.nodes.length:=by simp[szL,ZaD]
theorem ZcG(t:T):grL [t]=t.gr:=by simp[grL,ZaD,T.gr]
theorem Zb6(t:T):Zjm [t]=t.pos:=by simp[Zjm]
theorem Zed(t:T)(l:List T):szL (t::l)=t.nodes.length+szL l:=by simp[szL,ZaD]
theorem ZpB(t:T)(l:List T):grL (t::l)=t.gr+grL l:=by simp[grL,ZaD,T.gr,List.countP_append]
theorem Zix(t:T):t.nodes.length=1+szL t.subs:=by rw[Zci,List.length_cons,szL];omega
theorem ZuO(t:T):t.gr=(if isG t=true then 1 else 0)+grL t.subs:=by
 unfold T.gr;rw[Zci,List.countP_cons,grL];omega
theorem ZmO(l:List T):l.length<=szL l:=by
 induction l with
 | nil=>simp
 | cons t l ih=>rw[Zed,Zix,List.length_cons];omega
def ZaV(k:Int)(t:T):List T:=if t.k=k then t.subs else if k=3/\t.k=1 then[]else[t]
def ZeP(k:Int)(a:Option Addr)(c:Nat):List T->T
 | []=>T1
 | [x]=>x
 | x::y::l=>ZbM k 0 0 a c (x::y::l)
theorem Ziy{t:T}{k:Int}(h:t.has k=false):∀x∈t.subs,x.k≠k:=by
 intro x hx e
 unfold T.has at h
 have:=List.any_eq_false.1 h x hx
 simp[e]at this
theorem Ztx{t:T}{k:Int}(h:∀x∈t.subs,x.k≠k):t.has k=false:=by
 unfold T.has
 rw[List.any_eq_false]
 intro x hx
 have:=h x hx
 simpa using this
theorem Ziz{k:Int}{t:T}(hk:k=3\/k=4)(hg:t.good=true)(hp:t.pos<=10000):(∀x∈ZaV k t,x.good=true/\x.k≠k/\(k=3->x.k≠1))/\szL (ZaV k t)<=t.nodes.length/\grL (ZaV k t)<=t.gr/\Zjm (ZaV k t)<=t.pos:=by
 have hg':=hg
 rw[ZmN,zA7,List.all_eq_true]at hg'
 unfold ZaV
 split
 ·rename_i dp
  refine⟨λx hx=>⟨hg'.2 x hx,?_⟩,by rw[Zix];omega,by rw[ZuO];omega,?_⟩
  ·have hr:=hg'.1
   unfold T.right at hr
   rw[zA7]at hr
   have hr:=hr.2
   rcases hk with rfl|rfl
   ·simp only[dp]at hr
    simp at hr
    exact⟨Ziy hr.2.2 x hx,λ_=>Ziy hr.2.1 x hx⟩
   ·simp only[dp]at hr
    simp at hr
    exact⟨Ziy hr.2 x hx,λh=>by omega⟩
  ·rw[Zq6]at hp ⊢
   have h5:¬t.k=5:=by omega
   have h2:¬t.k=2:=by omega
   unfold ZwA at hp ⊢
   rw[if_neg h5,if_neg h2,Int.zero_add]at hp ⊢
   unfold ZhR at hp ⊢
   split at hp
   ·omega
   ·split <;> omega
 ·rename_i dp
  split
  ·refine⟨λx hx=>by simp at hx,by simp[szL,ZaD],by simp[grL,ZaD],?_⟩
   simp only[Zjm];exact(ZkD t).1
  ·rename_i vK
   refine⟨λx hx=>?_,by rw[Za6];exact Nat.le_refl _,by rw[ZcG];exact Nat.le_refl _,by rw[Zb6];exact Int.le_refl _⟩
   simp at hx;subst hx
   exact⟨hg,dp,λh=>λh1=>vK ⟨h,h1⟩⟩
theorem ZmP{k:Int}(hk:k=3\/k=4)(a:Option Addr)(c:Nat):∀{l:List T},(∀x∈l,x.good=true/\x.k≠k/\(k=3->x.k≠1))->(ZeP k a c l).good=true/\(ZeP k a c l).nodes.length<=1+szL l/\(ZeP k a c l).gr<=grL l/\(ZeP k a c l).pos<=Zjm l
 | [],_=>⟨show T1.good=true by decide,show T1.nodes.length<=1 by decide,show T1.gr<=0 by decide,show T1.pos<=0 by decide⟩
 | [x],h=>by
  rw[Za6,ZcG,Zb6]
  exact⟨(h x (by simp)).1,by show x.nodes.length<=_;omega,Nat.le_refl _,Int.le_refl _⟩
 | x::y::l,h=>by
  show(ZbM k 0 0 a c (x::y::l)).good=true/\(ZbM k 0 0 a c (x::y::l)).nodes.length<=_/\(ZbM k 0 0 a c (x::y::l)).gr<=_/\(ZbM k 0 0 a c (x::y::l)).pos<=_
  have hs:(ZbM k 0 0 a c (x::y::l)).subs=x::y::l:=rfl
  have dp:(ZbM k 0 0 a c (x::y::l)).k=k:=rfl
  have hz:(ZbM k 0 0 a c (x::y::l)).setZ=true:=rfl
  have tI:(ZbM k 0 0 a c (x::y::l)).mn=0:=rfl
  have kO:(ZbM k 0 0 a c (x::y::l)).mx=0:=rfl
  refine⟨?_,by rw[Zix,hs];exact Nat.le_refl _,?_,?_⟩
  ·rw[ZmN,zA7,List.all_eq_true,hs]
   refine⟨?_,λz hz=>(h z hz).1⟩
   have h1:k=3->(ZbM k 0 0 a c (x::y::l)).has 1=false:=λe=>Ztx λz hz=>(h z hz).2.2 e
   have h2:(ZbM k 0 0 a c (x::y::l)).has k=false:=Ztx λz hz=>(h z hz).2.1
   unfold T.right
   rw[dp,hz,tI,kO,hs]
   rcases hk with rfl|rfl
   ·simp[h1 rfl,h2]
   ·simp[h2]
  ·rw[ZuO,hs,isG,dp]
   rcases hk with rfl|rfl <;> simp
  ·rw[Zq6,dp,tI,kO,hs]
   unfold ZwA
   rw[if_neg (by omega),if_neg (by omega),Int.zero_add]
   exact(ZjP _ _).1
structure J (i:Nat)(ts:List T)(u g:Nat):Prop where
 good:∀t∈ts,t.good=true
 sz:szL ts<=i
 pos:Zjm ts<=(i*u:Nat)
 u1:1<=u
 u16:u<=16
 gr:grL ts<=g
 g9:g<=9
theorem J.zero:J 0 [] 1 0:=⟨by simp,by simp[szL,ZaD],by simp[Zjm],by omega,by omega,by simp[grL,ZaD],by omega⟩
theorem J.skip{i ts u g}(h:J i ts u g):J (i+1) ts u g:=
 ⟨h.good,by have:=h.sz;omega,by have:=h.pos;have e:(i+1)*u=i*u+u:=Nat.succ_mul i u;rw[e];omega,h.u1,h.u16,h.gr,h.g9⟩
theorem J.push{i ts u g}(h:J i ts u g){t:T}(hg:t.good=true)(hs:t.nodes.length=1)(hp:t.pos<=1)(hr:t.gr=0):J (i+1) (ts++[t]) u g:=by
 refine⟨λx hx=>?_,?_,?_,h.u1,h.u16,?_,h.g9⟩
 ·rcases List.mem_append.1 hx with hx|hx
  ·exact h.good x hx
  ·simp at hx;subst hx;exact hg
 ·rw[ZaB,Za6,hs];have:=h.sz;omega
 ·rw[Zbb,Zb6];have:=h.pos;have:=h.u1;have e:(i+1)*u=i*u+u:=Nat.succ_mul i u;rw[e];omega
 ·rw[Zbg,ZcG,hr];have:=h.gr;omega
theorem J.pos400{i ts u g}(h:J i ts u g)(hi:i<=25):Zjm ts<=400:=by
 have h1:=h.pos
 have:i*u<=25*16:=Nat.mul_le_mul hi h.u16
 omega
theorem J.join{i ts u g}{x y:T}(h:J i (ts++[x,y]) u g)(hi:i<=25){k:Int}(hk:k=3\/k=4)(a:Option Addr)(c:Nat):J (i+1) (ts++[ZeP k a c (ZaV k x++ZaV k y)]) u g:=by
 have h4:=h.pos400 hi
 have hz:=h.sz
 have hp:=h.pos
 have lm:=h.gr
 rw[show ts++[x,y]=ts++([x]++[y]) from rfl]at h4 hz hp lm
 rw[Zbb,Zbb,Zb6,Zb6]at h4 hp
 rw[ZaB,ZaB,Za6,Za6]at hz
 rw[Zbg,Zbg,ZcG,ZcG]at lm
 have n1:=ZhS ts
 have n2:=(ZkD x).1
 have n3:=(ZkD y).1
 obtain⟨a1,a2,a3,a4⟩:=Ziz hk (h.good x (by simp)) (by omega)
 obtain⟨b1,b2,b3,b4⟩:=Ziz hk (h.good y (by simp)) (by omega)
 obtain⟨c1,c2,c3,c4⟩:=ZmP hk a c (l:=ZaV k x++ZaV k y) (λz hz=>by
  rcases List.mem_append.1 hz with hz|hz
  ·exact a1 z hz
  ·exact b1 z hz)
 rw[ZaB]at c2
 rw[Zbg]at c3
 rw[Zbb]at c4
 refine⟨λz hz=>?_,?_,?_,h.u1,h.u16,?_,h.g9⟩
 ·rcases List.mem_append.1 hz with hz|hz
  ·exact h.good z (by simp[hz])
  ·simp at hz;subst hz;exact c1
 ·rw[ZaB,Za6];omega
 ·rw[Zbb,Zb6];have e:(i+1)*u=i*u+u:=Nat.succ_mul i u;rw[e];omega
 ·rw[Zbg,ZcG];omega
theorem J.group{i ts u g}{x:T}(h:J i (ts++[x]) u g)(hg:g < 9)(a:Option Addr)(c:Nat):J (i+1) (ts++[ZbM 6 0 0 a c [x]]) u (g+1):=by
 have hz:=h.sz
 have hp:=h.pos
 have lm:=h.gr
 rw[Zbb,Zb6]at hp
 rw[ZaB,Za6]at hz
 rw[Zbg,ZcG]at lm
 have hs:(ZbM 6 0 0 a c [x]).subs=[x]:=rfl
 refine⟨λz hz=>?_,?_,?_,h.u1,h.u16,?_,by omega⟩
 ·rcases List.mem_append.1 hz with hz|hz
  ·exact h.good z (by simp[hz])
  ·simp at hz;subst hz
   rw[ZmN,zA7,List.all_eq_true]
   refine⟨rfl,λz hz=>?_⟩
   rw[hs]at hz;simp at hz;subst hz
   exact h.good z (by simp)
 ·rw[ZaB,Za6,Zix,hs,Za6];omega
 ·rw[Zbb,Zb6,Zq6,hs,Zb6]
  have:ZwA (ZbM 6 0 0 a c [x]).k (ZbM 6 0 0 a c [x]).mn (ZbM 6 0 0 a c [x]).mx ((if(ZbM 6 0 0 a c [x]).k=2 then 1 else 0)+x.pos)<=x.pos:=by
   show ZhR (if(6:Int)=5 then _ else(if(6:Int)=2 then 1 else 0)+x.pos) 10001<=_
   rw[if_neg (by omega),if_neg (by omega),Int.zero_add]
   exact(ZjP _ _).1
  have e:(i+1)*u=i*u+u:=Nat.succ_mul i u
  rw[e];omega
 ·rw[Zbg,ZcG,ZuO,hs,ZcG]
  split <;> omega
theorem J.rep{i ts u g}{x:T}(h:J i (ts++[x]) u g)(hx:x.k≠1){mn mx:Int}(hb:Zq5 mn mx=true){w:Nat}(hw:Zxm mn mx<=w)(h1:1<=w)(hu:u*w<=16)(a:Option Addr)(c:Nat):J (i+1) (ts++[ZbM 5 mn mx a c [x]]) (u*w) g:=by
 have hz:=h.sz
 have hp:=h.pos
 have lm:=h.gr
 rw[Zbb,Zb6]at hp
 rw[ZaB,Za6]at hz
 rw[Zbg,ZcG]at lm
 have hs:(ZbM 5 mn mx a c [x]).subs=[x]:=rfl
 have n1:=ZhS ts
 have n2:=(ZkD x).1
 refine⟨λz hz=>?_,?_,?_,?_,hu,?_,h.g9⟩
 ·rcases List.mem_append.1 hz with hz|hz
  ·exact h.good z (by simp[hz])
  ·simp at hz;subst hz
   rw[ZmN,zA7,List.all_eq_true]
   refine⟨?_,λz hz=>?_⟩
   ·have hh:(ZbM 5 mn mx a c [x]).has 1=false:=Ztx λz hz=>by rw[hs]at hz;simp at hz;subst hz;exact hx
    unfold T.right
    rw[hh,hs,show(ZbM 5 mn mx a c [x]).k=5 from rfl,show(ZbM 5 mn mx a c [x]).setZ=true from rfl,show(ZbM 5 mn mx a c [x]).mn=mn from rfl,show(ZbM 5 mn mx a c [x]).mx=mx from rfl,hb]
    simp
   ·rw[hs]at hz;simp at hz;subst hz
    exact h.good z (by simp)
 ·rw[ZaB,Za6,Zix,hs,Za6];omega
 ·rw[Zbb,Zb6,Zq6,hs,Zb6]
  have key:ZwA (ZbM 5 mn mx a c [x]).k (ZbM 5 mn mx a c [x]).mn (ZbM 5 mn mx a c [x]).mx ((if(ZbM 5 mn mx a c [x]).k=2 then 1 else 0)+x.pos)<=x.pos*w:=by
   show ZhR (if(5:Int)=5 then((if(5:Int)=2 then 1 else 0)+x.pos)*Zxm mn mx else _) 10001<=_
   rw[if_pos rfl,if_neg (by omega),Int.zero_add]
   exact Int.le_trans (ZjP _ _).1 (Int.mul_le_mul_of_nonneg_left hw n2)
  have k2:Zjm ts<=Zjm ts*w:=by
   have:=Int.mul_le_mul_of_nonneg_left (show(1:Int)<=w by omega) n1
   rw[Int.mul_one]at this;exact this
  have k3:(Zjm ts+x.pos)*w<=((i*u:Nat):Int)*w:=Int.mul_le_mul_of_nonneg_right hp (by omega)
  rw[Int.add_mul]at k3
  have e:(i+1)*(u*w)=i*u*w+u*w:=by rw[Nat.succ_mul,Nat.mul_assoc]
  have e2:(((i*u:Nat):Int)*w)=((i*u*w:Nat):Int):=by push_cast;rfl
  rw[e2]at k3
  rw[e]
  generalize i*u*w=A at *
  generalize u*w=B at *
  generalize Zjm ts*(w:Int)=D at *
  generalize x.pos*(w:Int)=F at *
  omega
 ·have:=Nat.mul_le_mul h.u1 h1;omega
 ·rw[Zbg,ZcG,ZuO,hs,ZcG,isG,show(ZbM 5 mn mx a c [x]).k=5 from rfl]
  simp;omega
structure F (t:T)(l:List T):Prop where
 good:t.good=true
 goods:∀x∈l,x.good=true
 sz:t.nodes.length+szL l+l.length<=60
 pos:t.pos+Zjm l<=400
 gr:t.gr+grL l<=9
theorem F.start{i u g}{t:T}{l:List T}(h:J i (t::l) u g)(hi:i<=25):F t l:=by
 have h1:=h.sz
 have h2:=h.pos400 hi
 have h3:=h.gr
 rw[Zed]at h1
 rw[ZpB]at h3
 have:=ZmO l
 have:=h.g9
 exact⟨h.good t (by simp),λx hx=>h.good x (by simp[hx]),by omega,by simpa[Zjm]using h2,by omega⟩
theorem F.step{t x:T}{l:List T}(h:F t (x::l))(a:Option Addr)(c:Nat):F (ZeP 4 a c (ZaV 4 t++ZaV 4 x)) l:=by
 have h1:=h.sz
 have h2:=h.pos
 have h3:=h.gr
 rw[Zed,List.length_cons]at h1
 rw[ZpB]at h3
 simp only[Zjm]at h2
 have n1:=ZhS l
 have n2:=(ZkD x).1
 have n3:=(ZkD t).1
 obtain⟨a1,a2,a3,a4⟩:=Ziz (.inr rfl) h.good (by omega) (t:=t)
 obtain⟨b1,b2,b3,b4⟩:=Ziz (.inr rfl) (h.goods x (by simp)) (by omega)
 obtain⟨c1,c2,c3,c4⟩:=ZmP (.inr rfl) a c (l:=ZaV 4 t++ZaV 4 x) (λz hz=>by
  rcases List.mem_append.1 hz with hz|hz
  ·exact a1 z hz
  ·exact b1 z hz)
 rw[ZaB]at c2
 rw[Zbg]at c3
 rw[Zbb]at c4
 exact⟨c1,λz hz=>h.goods z (by simp[hz]),by omega,by omega,by omega⟩
theorem F.done{t:T}{l:List T}(h:F t l):t.check=0:=by
 have h1:=h.sz
 have h2:=h.pos
 have h3:=h.gr
 have n1:=ZhS l
 have hl:t.light=true:=by unfold T.light;exact decide_eq_true (by omega)
 have hc:t.clean=true:=by unfold T.clean;rw[hl];exact h.good
 have hg:((t.nodes.countP λx=>x.k == 6:Nat))=t.gr:=rfl
 unfold T.check
 rw[hc]
 unfold T.size T.positions T.groups
 rw[hl,hg]
 simp only[if_true,Bool.true_eq_false,if_false]
 rw[if_neg (by omega),if_neg (by omega),if_neg (by omega)]
theorem ZpC(n:Nat):(Zit (ZcZ n)).good=true/\(Zit (ZcZ n)).nodes.length=1/\(Zit (ZcZ n)).pos<=1/\(Zit (ZcZ n)).gr=0:=by
 have h:n % 12=0\/n % 12=1\/n % 12=2\/n % 12=3\/n % 12=4\/n % 12=5\/n % 12=6\/n % 12=7\/n % 12=8\/n % 12=9\/n % 12=10\/n % 12=11:=by omega
 unfold ZcZ
 rcases h with e|e|e|e|e|e|e|e|e|e|e|e <;> rw[e] <;> exact⟨by decide,by decide,by decide,by decide⟩
theorem Zvx:T1.good=true/\T1.nodes.length=1/\T1.pos<=1/\T1.gr=0:=⟨by decide,by decide,by decide,by decide⟩
theorem ZdP{k:Int}{t:T}:(ZaV k t).length<=t.nodes.length:=by
 unfold ZaV
 have:=Zvt t
 have:=Zix t
 split
 ·omega
 ·split <;> simp <;> omega
end Go.Rx
namespace Go.Rx
open Go Go.Eng
set_option maxRecDepth 100000
def ZdZ:List ByteArray:=[⟨#[120]⟩,⟨#[121]⟩,⟨#[122,95,49]⟩,⟨#[97,98,99,100,101,102,103,104,105,106,107,108,109,110,111,112]⟩]
def ZbO:List ByteArray:=[⟨#[115]⟩,⟨#[116]⟩]
def ZuT:List ByteArray:=[⟨#[97]⟩,⟨#[98]⟩,⟨#[99]⟩,⟨#[100]⟩]
def okN(c:Int)(x:E):Prop:=x.right=true/\(x.k=9->x.s∈ZdZ)/\(x.k=10->x.g<=c)
structure MkE (c:Int)(n:Nat)(e:E):Prop where
 all:∀x∈e.nodes,okN c x
 len:e.nodes.length<=n
def Zyc(x:Nat):E:=.node 8 x .empty 0 none 0 []
def ZwB(s:ByteArray):E:=.node 9 0 s 0 none 0 []
def ZyI(g:Int):E:=.node 10 0 .empty g none 0 []
def ZwC(a:Option Addr)(c:Nat)(x:E):E:=.node 1 0 .empty 0 a c [x]
def opE(k:Int)(a:Option Addr)(c:Nat)(x y:E):E:=.node k 0 .empty 0 a c [x,y]
theorem MkE.mono{c n k e}(h:MkE c n e)(hk:n<=k):MkE c k e:=⟨h.all,Nat.le_trans h.len hk⟩
theorem Zlx{c:Int}{k x s g a d}(h:okN c (.node k x s g a d [])):MkE c 1 (.node k x s g a d []):=by
 refine⟨λy hy=>?_,by simp[E.nodes,Zal]⟩
 simp only[E.nodes,Zal,List.mem_singleton]at hy
 rw[hy];exact h
theorem Zrh:Zsz 0 0=true:=by decide +kernel
theorem ZsB{c:Int}{x:Nat}(h:Ziu x=true):MkE c 1 (Zyc x):=by
 refine Zlx ⟨?_,λe=>absurd (show(8:Int)=9 from e) (by decide),λe=>absurd (show(8:Int)=10 from e) (by decide)⟩
 simp[E.right,E.k,E.s,E.x,E.g,E.subs,ZmI,h]
theorem ZpD:∀s∈ZdZ,ZfB s=true:=by decide +kernel
theorem ZsC:∀s∈ZbO,ZfB s=true:=by decide +kernel
theorem ZsD:∀s∈ZuT,ZfB s=true:=by decide +kernel
theorem ZsE{c:Int}{s:ByteArray}(h:s∈ZdZ):MkE c 1 (ZwB s):=by
 refine Zlx ⟨?_,λ_=>h,λe=>absurd (show(9:Int)=10 from e) (by decide)⟩
 simp[E.right,E.k,E.s,E.x,E.g,E.subs,ZmI,ZpD s h,Zrh]
theorem Zvy{c g:Int}(h:0<=g/\g<=9)(hc:g<=c):MkE c 1 (ZyI g):=by
 refine Zlx ⟨?_,λe=>absurd (show(10:Int)=9 from e) (by decide),λ_=>hc⟩
 simp[E.right,E.k,E.s,E.x,E.g,E.subs,ZmI,Zrh,h.1,h.2]
theorem Zvz{c:Int}{n:Nat}{a d}{x:E}(h:MkE c n x)(hk:x.k≠8):MkE c (n+1) (ZwC a d x):=by
 refine⟨λy hy=>?_,by have:=h.len;simp[ZwC,E.nodes,Zal];omega⟩
 simp only[ZwC,E.nodes,Zal,List.append_nil,List.mem_cons]at hy
 rcases hy with rfl|hy
 ·refine⟨?_,λe=>absurd (show(1:Int)=9 from e) (by decide),λe=>absurd (show(1:Int)=10 from e) (by decide)⟩
  have h1:E.right (.node 1 0 .empty 0 a d [x])=!Zrc [x]:=by simp[E.right,E.k,E.s,E.x,E.g,E.subs,ZmI,Zrh]
  rw[h1]
  show(!(x.k == 8))=true
  simpa using hk
 ·exact h.all y hy
theorem ZvA{c:Int}{n p:Nat}{a d}{k:Int}{x y:E}(hk:2<=k/\k<=7)(h:MkE c n x)(h2:MkE c p y):MkE c (n+p+1) (opE k a d x y):=by
 refine⟨λz hz=>?_,by have:=h.len;have:=h2.len;simp[opE,E.nodes,Zal];omega⟩
 simp only[opE,E.nodes,Zal,List.append_nil,List.mem_cons,List.mem_append]at hz
 rcases hz with rfl|hz|hz
 ·refine⟨?_,λe=>?_,λe=>?_⟩
  ·have h0:¬k=0:=by omega
   have h1:¬k=1:=by omega
   have h9:¬k=9:=by omega
   have h8:¬k=8:=by omega
   have gu:¬k=10:=by omega
   have hs:ZmI k=2:=by unfold ZmI;rw[if_neg h1,if_pos hk]
   have bU:k<=10:=by omega
   simp[E.right,E.k,E.s,E.x,E.g,E.subs,hs,Zrh,h0,h1,h9,h8,gu,bU]
  ·have e:k=9:=e
   omega
  ·have e:k=10:=e
   omega
 ·exact h.all z hz
 ·exact h2.all z hz
theorem MkE.clean{c:Int}{n:Nat}{e:E}(h:MkE c n e)(hn:n<=10000):e.clean=true:=by
 have hl:e.light=true:=by unfold E.light;exact decide_eq_true (Nat.le_trans h.len hn)
 unfold E.clean
 rw[hl,Bool.true_and,List.all_eq_true]
 exact λx hx=>(h.all x hx).1
theorem ZvB{c:Int}(l:List E)(h:∀x∈l,x.k=10->x.g<=c):∀n:Int,n<=c->l.foldl (λn x=>if x.k=10 then(if x.g > n then x.g else n)else n) n<=c:=by
 induction l with
 | nil=>exact λn hn=>hn
 | cons x l ih=>
  intro n hn
  rw[List.foldl_cons]
  refine ih (λy hy=>h y (List.mem_cons_of_mem _ hy)) _ ?_
  split
  ·rename_i hk
   split
   ·exact h x (by simp) hk
   ·exact hn
  ·exact hn
theorem MkE.most{c:Int}{n:Nat}{e:E}(h:MkE c n e)(hc : -1<=c):e.most<=c:=by
 unfold E.most
 split
 ·exact ZvB _ (λx hx=>(h.all x hx).2.2) _ hc
 ·exact hc
mutual
theorem ZpE{A:List ByteArray}:∀(t:E)(out:List ByteArray),(∀x∈t.nodes,x.k=9->x.s∈A)->∀s∈t.names out,s∈out\/s∈A
 | .node k x s g a c l,out,h,z,hz=>by
  simp only[E.names]at hz
  split at hz
  ·rename_i hk
   split at hz
   ·exact .inl hz
   ·rcases List.mem_append.1 hz with hz|hz
    ·exact .inl hz
    ·rw[List.mem_singleton]at hz;subst hz
     exact .inr (h (.node k x z g a c l) (by simp[E.nodes]) hk)
  ·exact ZmQ l out (λy hy=>h y (by simp only[E.nodes];exact List.mem_cons_of_mem _ hy)) z hz
theorem ZmQ{A:List ByteArray}:∀(l:List E)(out:List ByteArray),(∀x∈Zal l,x.k=9->x.s∈A)->∀s∈Zbw l out,s∈out\/s∈A
 | [],out,_,z,hz=>.inl hz
 | t::l,out,h,z,hz=>by
  simp only[Zbw]at hz
  rcases ZmQ l _ (λy hy=>h y (by simp only[Zal];exact List.mem_append_right _ hy)) z hz with hz|hz
  ·exact ZpE t out (λy hy=>h y (by simp only[Zal];exact List.mem_append_left _ hy)) z hz
  ·exact .inr hz
end
theorem MkE.vars{c:Int}{n:Nat}{e:E}(h:MkE c n e):∀s∈e.vars,s∈ZdZ:=by
 intro s hs
 unfold E.vars at hs
 split at hs
 ·rcases ZpE (A:=ZdZ) e [] (λx hx=>(h.all x hx).2.1) s hs with h|h
  ·cases h
  ·exact h
 ·cases hs
theorem ZvC:ZuM E0=true:=by decide +kernel
inductive MkP (c:Int):Pt->Prop
 | lit (s:ByteArray) (h:0 < s.size/\s.size<=512):MkP c ⟨1,s,0,E0⟩
 | var (s:ByteArray) (h:s∈ZdZ\/s∈ZbO):MkP c ⟨2,s,0,E0⟩
 | cap (g:Int) (h:0<=g/\g<=9/\g<=c):MkP c ⟨3,.empty,g,E0⟩
 | clc (e:E) (h:MkE c 20 e):MkP c ⟨4,.empty,0,e⟩
def Zyw(l:List Pt):Prop:=∀(i:Nat)(p q:Pt),l[i]?=some p->l[i+1]?=some q->p.k=1->q.k=1->False
structure MkT (c:Int)(l:List Pt):Prop where
 len:l.length<=5
 all:∀p∈l,MkP c p
 ll:Zyw l
inductive MkA (c:Int):Ac->Prop
 | send (a:Option Addr) (n:Nat) (l:List Pt) (h:MkT c l):MkA c ⟨1,.empty,a,n,l,E0⟩
 | set (s:ByteArray) (hs:s∈ZbO) (a:Option Addr) (n:Nat) (l:List Pt) (h:MkT c l):MkA c ⟨2,s,a,n,l,E0⟩
 | let_ (s:ByteArray) (hs:s∈ZdZ) (e:E) (h:MkE c 20 e):MkA c ⟨3,s,none,0,[],e⟩
def Zw1(r:Ru):Prop:=(r.k=1/\r.t.check=0/\r.t.nodes.length<=26/\r.s=.empty/\r.n=0)\/((r.bg=false/\r.en=false/\r.t=T0)/\((r.k=2/\1<=r.s.size/\r.s.size<=3/\r.n=0)\/(r.k=3/\r.s=.empty/\r.n=0)\/(r.k=4/\r.s=.empty/\1<=r.n/\r.n<=8)))
structure MkR (n:Nat)(r:Ru):Prop where
 kind:Zw1 r
 len:r.acts.length<=3
 all:∀a∈r.acts,MkA (Zde r) a
 go:((∃i,i < n/\ZuT[i]?=some r.go)/\r.code=0)\/(r.go=.empty/\0<=r.code/\r.code<=255)
structure MkS (n i:Nat)(x:Sta):Prop where
 name:ZuT[i]?=some x.s
 len:x.rules.length<=5
 all:∀r∈x.rules,MkR n r
structure MkV (i:Nat)(v:Va):Prop where
 name:(ZdZ++ZbO)[i]?=some v.s
 kind:(i < 4/\v.b=true/\v.t=.empty/\Ziu v.x=true)\/(4<=i/\v.b=false/\v.t.size<=3/\v.x=0)
structure MkC (s:Sc):Prop where
 n:2<=s.n/\s.n<=12
 vlen:s.vars.length=6
 vall:∀i v,s.vars[i]?=some v->MkV i v
 len:1<=s.states.length/\s.states.length<=4
 all:∀i x,s.states[i]?=some x->MkS s.states.length i x
theorem ZoC{n:Nat}{e:E}(h:e.nodes.length<=n)(hn:n<=10000):e.light=true:=by unfold E.light;exact decide_eq_true (by omega)
theorem Zyd{n:Nat}{e:E}(h:e.nodes.length<=n)(hn:n<=10000):nE e<=n:=by
 unfold nE E.size;rw[ZoC h hn];simp;omega
theorem nE0:nE E0<=20:=by decide +kernel
theorem Zee{α:Type}(f:α->Int)(B:Int)(l:List α)(hf:∀x∈l,f x<=B):ZaR (l.map f)<=l.length*B:=by
 induction l with
 | nil=>simp[ZaR]
 | cons x l ih=>
  have h1:=hf x (by simp)
  have h2:=ih (λy hy=>hf y (by simp[hy]))
  simp only[List.map_cons,ZaR,List.length_cons]
  rw[show((l.length+1:Nat):Int)*B=l.length*B+B by rw[Int.natCast_add,Int.add_mul];simp]
  omega
theorem MkP.nE{c:Int}{p:Pt}(h:MkP c p):nE p.e<=20:=by
 cases h with
 | clc e h=>exact Zyd (n:=20) h.len (by omega)
 | _=>exact nE0
theorem MkA.w{c:Int}{a:Ac}(h:MkA c a):wA a<=126:=by
 have go:∀{l:List Pt},MkT c l->(l.length:Int)+ZaR (l.map λp=>Rx.nE p.e)<=105:=λ{l} h=>by
  have:=Zee (λp:Pt=>Rx.nE p.e) 20 l (λp hp=>(h.all p hp).nE)
  have:=h.len
  omega
 have e0:=nE0
 cases h with
 | send a n l h=>have:=go h;simp only[wA];omega
 | set s hs a n l h=>have:=go h;simp only[wA];omega
 | let_ s hs e h=>have:=Zyd h.len (by omega);simp[wA,ZaR];omega
theorem ZiA{t:T}(h:t.nodes.length<=10000):t.light=true:=by unfold T.light;exact decide_eq_true h
theorem ZmR:T0.size=1/\T0.light=true/\T0.same T0=true:=by decide +kernel
theorem MkR.size{n:Nat}{r:Ru}(h:MkR n r):r.t.light=true/\0<=r.t.size/\r.t.size<=26:=by
 rcases h.kind with⟨_,_,h,_⟩|⟨⟨_,_,h⟩,_⟩
 ·have hl:=ZiA (t:=r.t) (by omega)
  refine⟨hl,?_⟩
  unfold T.size;rw[hl];simp;omega
 ·rw[h,ZmR.1];exact⟨ZmR.2.1,by omega,by omega⟩
theorem MkR.w{n:Nat}{r:Ru}(h:MkR n r):wR r<=405:=by
 obtain⟨h1,h2,h3⟩:=h.size
 have:=Zee wA 126 r.acts (λa ha=>(h.all a ha).w)
 have:=h.len
 have hi:ZhR r.t.size 20000<=26:=by unfold ZhR;split <;> omega
 unfold wR;rw[h1];simp;omega
theorem MkS.w{n i:Nat}{x:Sta}(h:MkS n i x):wS x<=2025:=by
 have:=Zee wR 405 x.rules (λa ha=>(h.all a ha).w)
 have:=h.len
 unfold wS;omega
theorem MkC.state{s:Sc}(h:MkC s){x:Sta}(hx:x∈s.states):∃i,s.states[i]?=some x/\MkS s.states.length i x:=by
 obtain⟨i,hi⟩:=List.getElem?_of_mem hx
 exact⟨i,hi,h.all i x hi⟩
theorem MkC.weight{s:Sc}(h:MkC s):s.weight<=8200:=by
 have:=Zee wS 2025 s.states (λx hx=>by obtain⟨i,_,h⟩:=h.state hx;exact h.w)
 have:=h.len
 have:=h.vlen
 unfold Sc.weight;omega
theorem MkC.light{s:Sc}(h:MkC s):s.light=true:=by unfold Sc.light;exact decide_eq_true (by have:=h.weight;omega)
theorem ZjW(s:ByteArray):eqS s s=true:=by unfold eqS;simp
theorem ZvD:∀j < 6,∀i < 6,j≠i->eqS ((ZdZ++ZbO).getD j .empty) ((ZdZ++ZbO).getD i .empty)=false:=by decide +kernel
theorem Zxq:∀j < 4,∀i < 4,j≠i->eqS (ZuT.getD j .empty) (ZuT.getD i .empty)=false:=by decide +kernel
theorem ZhV{l:List ByteArray}{i:Nat}{s:ByteArray}(h:l[i]?=some s):l.getD i .empty=s:=by rw[List.getD_eq_getElem?_getD,h];rfl
theorem ZsF{α:Type}{p:α->Bool}:∀{l:List α} {i:Nat} {x:α},l[i]?=some x->p x=true->(∀j y,j < i->l[j]?=some y->p y=false)->l.find? p=some x
 | [],i,x,h,_,_=>by simp at h
 | a::l,0,x,h,hp,_=>by
  simp at h;subst h
  rw[List.find?_cons_of_pos hp]
 | a::l,i+1,x,h,hp,hn=>by
  rw[List.find?_cons_of_neg (by rw[hn 0 a (by omega) rfl];simp)]
  exact ZsF (l:=l) (i:=i) (by simpa using h) hp (λj y hj hy=>hn (j+1) y (by omega) (by simpa using hy))
theorem MkC.kind{s:Sc}(h:MkC s){i:Nat}{name:ByteArray}(hi:(ZdZ++ZbO)[i]?=some name):Zg7 s name=(decide (i < 4),true):=by
 have rF:i < 6:=(zA0 hi).1
 have aH:=h.vlen
 have hv:s.vars[i]?=some (s.vars[i]'(by omega)):=zA3 (by omega)
 have hm:=h.vall i _ hv
 generalize s.vars[i]'(by omega)=v at hv hm
 have hn:v.s=name:=Option.some.inj (hm.name.symm.trans hi)
 have hf:(s.vars.find? λv=>eqS v.s name)=some v:=ZsF hv (by rw[hn];exact ZjW _) (λj y hj hy=>by
  have hy':=(h.vall j y hy).name
  have:=ZvD j (by omega) i rF (by omega)
  rwa [ZhV hy',ZhV hi]at this)
 unfold Zg7
 rw[hf]
 rcases hm.kind with⟨h4,hb,_⟩|⟨h4,hb,_⟩
 ·rw[decide_eq_true h4];show(v.b,true)=_;rw[hb]
 ·rw[decide_eq_false (by omega)];show(v.b,true)=_;rw[hb]
theorem MkC.num{s:Sc}(h:MkC s){name:ByteArray}(hn:name∈ZdZ):Zg7 s name=(true,true):=by
 obtain⟨i,hi⟩:=List.getElem?_of_mem hn
 have aC:i < 4:=(zA0 hi).1
 have:=h.kind (i:=i) (name:=name) (by rw[zA5 aC];exact hi)
 rwa [decide_eq_true aC]at this
theorem MkC.txt{s:Sc}(h:MkC s){name:ByteArray}(hn:name∈ZbO):Zg7 s name=(false,true):=by
 obtain⟨i,hi⟩:=List.getElem?_of_mem hn
 have aC:i < 2:=(zA0 hi).1
 have:=h.kind (i:=4+i) (name:=name) (by rw[zA4 (show ZdZ.length<=4+i by show 4<=_;omega)];show ZbO[4+i - 4]?=_;rw[show 4+i - 4=i by omega];exact hi)
 rwa [decide_eq_false (by omega)]at this
theorem MkC.numbers{s:Sc}(h:MkC s){c:Int}{n:Nat}{e:E}(he:MkE c n e):Zdm s e=true:=by
 unfold Zdm
 rw[Bool.not_eq_true',List.any_eq_false]
 intro x hx
 rw[h.num (he.vars x hx)];simp
theorem MkC.finds{s:Sc}(h:MkC s){i:Nat}{name:ByteArray}(hi:i < s.states.length)(hn:ZuT[i]?=some name):Zrd s name=true:=by
 unfold Zrd
 rw[h.light,Bool.and_true,List.any_eq_true]
 refine⟨s.states[i],List.getElem_mem _,?_⟩
 have:=(h.all i _ (zA3 hi)).name
 rw[hn]at this
 rw[<-Option.some.inj this];exact ZjW _
theorem Zdw{n a b:Int}:Zc5 n a b=true↔a<=n/\n<=b:=by
 unfold Zc5
 rw[zA7,decide_eq_true_iff,decide_eq_true_iff]
theorem MkC.whole{s:Sc}(h:MkC s):ZmJ s=0:=by
 have h1:Zc5 s.n 2 256=true:=Zdw.2 (by have:=h.n;omega)
 have h2:Zc5 s.states.length 1 24=true:=Zdw.2 (by have:=h.len;omega)
 have h3:decide (s.vars.length > 12)=false:=decide_eq_false (by have:=h.vlen;omega)
 simp[ZmJ,Zcr,h1,h2,h3]
theorem ZaL:ByteArray.empty.size=0:=rfl
theorem MkC.var{s:Sc}(h:MkC s){i:Nat}{v:Va}(hv:s.vars[i]?=some v):ZcF s i v=0:=by
 have hm:=h.vall i v hv
 have rF:i < 6:=by have:=(zA0 hv).1;have:=h.vlen;omega
 have h1:ZfB v.s=true:=by
  have cH:=zA2 hm.name
  rcases List.mem_append.1 cH with hx|hx
  ·exact ZpD _ hx
  ·exact ZsC _ hx
 have h2:Ztv v=true:=by
  unfold Ztv
  rcases hm.kind with⟨_,hb,ht,hx⟩|⟨_,hb,ht,hx⟩
  ·rw[hb,ht,hx];rfl
  ·rw[hb,hx]
   simp;omega
 have h3:((s.vars.take i).any λx=>eqS x.s v.s)=false:=by
  rw[List.any_eq_false]
  intro x hx
  obtain⟨j,hj⟩:=List.getElem?_of_mem hx
  have jb:j < i:=by have:=(zA0 hj).1;rw[List.length_take]at this;omega
  rw[List.getElem?_take_of_lt jb]at hj
  have:=ZvD j (by omega) i rF (by omega)
  rw[ZhV (h.vall j x hj).name,ZhV hm.name]at this
  rw[this];simp
 simp[ZcF,Zcr,h1,h2,h3]
theorem MkC.stateOk{s:Sc}(h:MkC s){i:Nat}{x:Sta}(hx:s.states[i]?=some x):ZmK s i x=0:=by
 have hm:=h.all i x hx
 have vL:i < 4:=by have:=(zA0 hx).1;have:=h.len;omega
 have h1:ZfB x.s=true:=ZsD _ (zA2 hm.name)
 have h2:decide (x.rules.length > 12)=false:=decide_eq_false (by have:=hm.len;omega)
 have h3:((s.states.take i).any λy=>eqS y.s x.s)=false:=by
  rw[List.any_eq_false]
  intro y hy
  obtain⟨j,hj⟩:=List.getElem?_of_mem hy
  have jb:j < i:=by have:=(zA0 hj).1;rw[List.length_take]at this;omega
  rw[List.getElem?_take_of_lt jb]at hj
  have:=Zxq j (by omega) i vL (by omega)
  rw[ZhV (h.all j y hj).name,ZhV hm.name]at this
  rw[this];simp
 simp[ZmK,Zcr,h1,h2,h3]
theorem Zri(t:T):0<=t.groups:=by unfold T.groups;split <;> omega
theorem ZpF(r:Ru) : -1<=Zde r:=by
 have:=Zri r.t
 unfold Zde;split
 ·omega
 ·split <;> omega
theorem Zw2{r:Ru}(h:r.bg=false/\r.en=false/\r.t=T0):Zyv r=false:=by
 unfold Zyv;rw[h.1,h.2.1,h.2.2,ZmR.2.1,ZmR.2.2];rfl
theorem MkR.fields{n:Nat}{r:Ru}(h:MkR n r):Zpy r=true:=by
 unfold Zpy
 rcases h.kind with⟨hk,_,_,hs,hn⟩|⟨hx,⟨hk,h1,h2,hn⟩|⟨hk,hs,hn⟩|⟨hk,hs,h1,h2⟩⟩
 ·rw[hk,hs,hn];rfl
 ·rw[Zw2 hx,hk,hn]
  have:Zc5 r.s.size 1 64=true:=Zdw.2 (by omega)
  simp[this]
 ·rw[Zw2 hx,hk,hs,hn];rfl
 ·rw[Zw2 hx,hk,hs]
  have:Zc5 r.n 1 1000=true:=Zdw.2 (by omega)
  simp[this,ZaL]
theorem MkR.sizeR{n:Nat}{r:Ru}(h:MkR n r):Rx.sizeR r<=26:=by
 unfold Rx.sizeR;split
 ·exact h.size.2.2
 ·omega
theorem MkS.sizes{n i:Nat}{x:Sta}(h:MkS n i x)(k:Nat):ZaR ((x.rules.take k).map Rx.sizeR)<=130:=by
 have:=Zee Rx.sizeR 26 (x.rules.take k) (λr hr=>(h.all r (List.mem_of_mem_take hr)).sizeR)
 have h1:=h.len
 rw[List.length_take]at this
 omega
theorem MkC.totals{s:Sc}(h:MkC s)(i k:Nat):Rx.totals s i k<=600:=by
 have h0:=h.len
 have h1:=Zee (λx:Sta=>ZaR (x.rules.map Rx.sizeR)) 130 (s.states.take i) (λx hx=>by
  obtain⟨j,_,hm⟩:=h.state (List.mem_of_mem_take hx)
  have:=hm.sizes x.rules.length
  rwa [List.take_length]at this)
 rw[List.length_take]at h1
 unfold Rx.totals
 cases hx:s.states[i]? with
 | none=>show _+0<=_;omega
 | some x=>
  have hi:=(zA0 hx).1
  have:=(h.all i x hx).sizes (k+1)
  show _+ZaR ((x.rules.take (k+1)).map Rx.sizeR)<=_
  omega
theorem Zly:∀s∈ZuT,s.size=1:=by decide +kernel
theorem MkC.rule{s:Sc}(h:MkC s){r:Ru}(hr:MkR s.states.length r){t:Int}(ht:t<=600):Zpz s r t=0:=by
 have h1:=hr.fields
 have h2:decide (r.acts.length > 8)=false:=decide_eq_false (by have:=hr.len;omega)
 have h3:(r.k == 1&&(!(r.t.check == 0)||decide (t > 600)))=false:=by
  rw[decide_eq_false (show ¬t > 600 by omega),Bool.or_false]
  rcases hr.kind with⟨_,hc,_⟩|⟨_,⟨hk,_⟩|⟨hk,_⟩|⟨hk,_⟩⟩
  ·rw[hc];simp
  ·rw[hk];rfl
  ·rw[hk];rfl
  ·rw[hk];rfl
 have h4:(if r.go.size=0 then !Zc5 r.code 0 255 else !Zrd s r.go||!(r.code == 0))=false:=by
  rcases hr.go with⟨⟨i,hi,hn⟩,hc⟩|⟨hg,hc⟩
  ·rw[if_neg (by rw[Zly _ (zA2 hn)];omega),h.finds hi hn,hc];rfl
  ·rw[hg,if_pos ZaL,Zdw.2 hc];rfl
 unfold Zpz
 rw[h1,h2,h3,h4];rfl
theorem MkC.action{s:Sc}(h:MkC s){r:Ru}{a:Ac}(ha:MkA (Zde r) a):ZdO s r a=0:=by
 have hz:=ZvC
 cases ha with
 | send a n l hl=>
  have h1:decide (l.length > 16)=false:=decide_eq_false (by have:=hl.len;omega)
  have h2:Zc5 1 1 3=true:=by decide
  unfold ZdO
  simp[Zcr,h1,h2,hz,ZaL]
 | set t ht a n l hl=>
  have h1:decide (l.length > 16)=false:=decide_eq_false (by have:=hl.len;omega)
  have h2:Zc5 2 1 3=true:=by decide
  unfold ZdO
  simp[Zcr,h1,h2,hz,h.txt ht]
 | let_ t ht e he=>
  have h2:Zc5 3 1 3=true:=by decide
  have h3:=he.clean (by omega)
  have h4:=h.numbers he
  have h5:decide (e.most > Zde r)=false:=decide_eq_false (by have:=he.most (ZpF r);omega)
  unfold ZdO
  simp only[Zcr,h2,h3,h4,h5,h.num ht]
  rfl
def Zw3(l:List Pt)(i:Nat):Bool:=match l[i - 1]? with
 | some q=>q.k == 1
 | none=>false
theorem ZpG(s:Sc)(r:Ru)(l:List Pt)(i:Nat)(p:Pt):Zlm s r l i p=Zcr [(307,!ZfC p||(decide (i > 0)&&(p.k == 1&&Zw3 l i))),(308,(p.k == 2&&!(Zg7 s p.s).2)||(p.k == 4&&!Zdm s p.e)),(309,(p.k == 3&&decide (p.g > Zde r))||(p.k == 4&&decide (p.e.most > Zde r)))]:=rfl
theorem MkC.part{s:Sc}(h:MkC s){r:Ru}{l:List Pt}(hl:MkT (Zde r) l){i:Nat}{p:Pt}(hp:l[i]?=some p):Zlm s r l i p=0:=by
 have hz:=ZvC
 have h0:(decide (i > 0)&&(p.k == 1&&Zw3 l i))=false:=by
  cases i with
  | zero=>rfl
  | succ i=>
   unfold Zw3
   rw[Nat.add_sub_cancel]
   cases hq:l[i]? with
   | none=>simp
   | some q=>
    have:=hl.ll i q p hq hp
    simp only[Bool.and_eq_false_iff]
    refine .inr ?_
    by_cases h1:p.k=1
    ·refine .inr ?_
     simp
     exact λh2=>this h2 h1
    ·refine .inl ?_
     simpa using h1
 have hm:=hl.all p (zA2 hp)
 rw[ZpG,h0]
 cases hm with
 | lit t ht=>
  have h1:ZfC ⟨1,t,0,E0⟩=true:=by simp[ZfC,hz];omega
  rw[h1];rfl
 | var t ht=>
  have h1:ZfC ⟨2,t,0,E0⟩=true:=by
   have:ZfB t=true:=by
    rcases ht with ht|ht
    ·exact ZpD _ ht
    ·exact ZsC _ ht
   simp[ZfC,hz,this]
  have h2:(Zg7 s t).2=true:=by
   rcases ht with ht|ht
   ·rw[h.num ht]
   ·rw[h.txt ht]
  rw[h1]
  simp[Zcr,h2]
 | cap g hg=>
  have h1:ZfC ⟨3,.empty,g,E0⟩=true:=by simp[ZfC,hz,ZaL];omega
  have h2:decide (g > Zde r)=false:=decide_eq_false (by omega)
  rw[h1]
  simp only[Zcr,h2];rfl
 | clc e he=>
  have h1:ZfC ⟨4,.empty,0,e⟩=true:=by simp[ZfC,he.clean,ZaL]
  have h2:decide (e.most > Zde r)=false:=decide_eq_false (by have:=he.most (ZpF r);omega)
  have h3:=h.numbers he
  rw[h1]
  simp only[Zcr,h2,h3];rfl
theorem MkC.at0{s:Sc}(h:MkC s):∀p∈s.places,atS s p=0:=by
 intro p hp
 have hT:∀{r:Ru} {a:Ac},MkA (Zde r) a->∀{n:Nat} {q:Pt},a.parts[n]?=some q->Zlm s r a.parts n q=0:=λ{r a} ha {n q} hq=>by
  cases ha with
  | send _ _ l hl=>exact h.part hl hq
  | set _ _ _ _ l hl=>exact h.part hl hq
  | let_ _ _ e _=>simp at hq
 rcases ZmM s p hp with⟨i,hi,v,hv⟩|⟨hv,hs|⟨i,hi,x,hx,hr|⟨k,hk,r,hr,ha|⟨j,hj,a,ha,hq|⟨n,hn,q,hq⟩⟩⟩⟩⟩
 ·have e:atS s p=ZcF s i v:=by
   unfold atS
   rw[if_pos (by omega),show p.v.toNat=i by omega,hv]
  rw[e];exact h.var hv
 all_goals have hv':¬p.v ≥ 0:=by omega
 ·unfold atS
  rw[if_neg hv',if_pos hs];exact h.whole
 all_goals
  have hs':¬p.s < 0:=by omega
  have kw:p.s.toNat=i:=by omega
  have hm:=h.all i x hx
 ·have e:atS s p=ZmK s i x:=by
   unfold atS
   rw[if_neg hv',if_neg hs',kw,hx]
   exact if_pos hr
  rw[e];exact h.stateOk hx
 all_goals
  have hr':¬p.r < 0:=by omega
  have ib:p.r.toNat=k:=by omega
  have hR:=hm.all r (zA2 hr)
 ·have e:atS s p=Zpz s r (Rx.totals s i k):=by
   unfold atS
   rw[if_neg hv',if_neg hs',kw,hx]
   show(if p.r < 0 then _ else _)=_
   rw[if_neg hr',ib,hr]
   exact if_pos ha
  rw[e];exact h.rule hR (h.totals i k)
 all_goals
  have ha':¬p.a < 0:=by omega
  have jR:p.a.toNat=j:=by omega
  have hA:=hR.all a (zA2 ‹r.acts[j]?=some a›)
 ·have e:atS s p=ZdO s r a:=by
   unfold atS
   rw[if_neg hv',if_neg hs',kw,hx]
   show(if p.r < 0 then _ else _)=_
   rw[if_neg hr',ib,hr]
   show(if p.a < 0 then _ else _)=_
   rw[if_neg ha',jR,‹r.acts[j]?=some a›]
   exact if_pos hq
  rw[e];exact h.action hA
 ·have e:atS s p=Zlm s r a.parts n q:=by
   unfold atS
   rw[if_neg hv',if_neg hs',kw,hx]
   show(if p.r < 0 then _ else _)=_
   rw[if_neg hr',ib,hr]
   show(if p.a < 0 then _ else _)=_
   rw[if_neg ha',jR,‹r.acts[j]?=some a›]
   show(if p.p < 0 then _ else _)=_
   rw[if_neg (by omega),show p.p.toNat=n by omega,hq]
  rw[e];exact hT hA hq
theorem MkC.problems{s:Sc}(h:MkC s):s.problems=[]:=by
 unfold Sc.problems
 rw[List.filterMap_eq_nil_iff]
 intro p hp
 rw[if_pos (h.at0 p hp)]
theorem MkC.check{s:Sc}(h:MkC s):s.check=(top,0):=by
 unfold Sc.check
 rw[if_pos h.light,h.problems]
structure F26 (t:T)(l:List T):Prop where
 f:F t l
 n:(t.k=4/\t.nodes.length+szL l<=26)\/t.nodes.length+szL l<=25
theorem F26.done{t:T}(h:F26 t []):t.check=0/\t.nodes.length<=26:=by
 refine⟨h.f.done,?_⟩
 have:szL []=0:=rfl
 rcases h.n with h|h <;> omega
theorem F26.step{t x:T}{l:List T}(h:F26 t (x::l))(a:Option Addr)(c:Nat):F26 (ZeP 4 a c (ZaV 4 t++ZaV 4 x)) l:=by
 refine⟨h.f.step a c,?_⟩
 have hn:=h.n
 rw[Zed]at hn
 have ht:=Zix t
 have hx:=Zix x
 have e1:szL (ZaV 4 t)<=if t.k=4 then szL t.subs else t.nodes.length:=by
  unfold ZaV
  split
  ·exact Nat.le_refl _
  ·rw[if_neg (by omega),Za6];exact Nat.le_refl _
 have e2:szL (ZaV 4 x)<=x.nodes.length:=by
  unfold ZaV
  split
  ·omega
  ·rw[if_neg (by omega),Za6];exact Nat.le_refl _
 have e3:szL (ZaV 4 t++ZaV 4 x)=szL (ZaV 4 t)+szL (ZaV 4 x):=ZaB _ _
 generalize ZaV 4 t++ZaV 4 x=L at e3
 have hA:szL L<=t.nodes.length+x.nodes.length/\(t.k=4->szL L+1<=t.nodes.length+x.nodes.length):=by
  refine⟨?_,λh4=>?_⟩
  ·split at e1 <;> omega
  ·rw[if_pos h4]at e1;omega
 match L,hA with
 | [],_=>
  refine .inr ?_
  show T1.nodes.length+_<=_
  have:T1.nodes.length=1:=rfl
  rcases hn with⟨_,hn⟩|hn <;> omega
 | [y],hA=>
  refine .inr ?_
  show y.nodes.length+_<=_
  rw[Za6]at hA
  rcases hn with⟨h4,hn⟩|hn
  ·have:=hA.2 h4;omega
  ·omega
 | y::z::r,hA=>
  refine .inl ⟨rfl,?_⟩
  rw[Zix]
  show 1+szL (y::z::r)+_<=_
  rcases hn with⟨h4,hn⟩|hn
  ·have:=hA.2 h4;omega
  ·omega
theorem F26.start{i u g}{t:T}{l:List T}(h:J i (t::l) u g)(hi:i<=25):F26 t l:=⟨F.start h hi,.inr (by have:=h.sz;rw[Zed]at this;omega)⟩
theorem F26.leaf{t:T}(h1:F t [])(h2:t.nodes.length=1):F26 t []:=⟨h1,.inr (by have:szL []=0:=rfl;omega)⟩
structure PE (ts:List E)(i:Nat):Prop where
 all:∀x∈Zal ts,okN 9 x
 sz:(Zal ts).length<=i
theorem Zb2(t:E):Zal [t]=t.nodes:=by simp[Zal]
theorem PE.zero:PE [] 0:=⟨by simp[Zal],by simp[Zal]⟩
theorem PE.skip{ts i}(h:PE ts i):PE ts (i+1):=⟨h.all,by have:=h.sz;omega⟩
theorem PE.push{ts i}{t:E}(h:PE ts i)(ht:MkE 9 1 t):PE (ts++[t]) (i+1):=by
 refine⟨λx hx=>?_,?_⟩
 ·rw[ZaP,Zb2]at hx
  rcases List.mem_append.1 hx with hx|hx
  ·exact h.all x hx
  ·exact ht.all x hx
 ·rw[ZaP,Zb2,zA1]
  have:=h.sz;have:=ht.len;omega
theorem PE.neg{r:List E}{x:E}{i:Nat}(h:PE (r++[x]) i)(hk:x.k≠8)(a:Option Addr)(d:Nat):PE (r++[ZwC a d x]) (i+1):=by
 have h1:=h.all;have h2:=h.sz
 rw[ZaP,Zb2]at h1 h2
 rw[zA1]at h2
 have hm:MkE 9 (x.nodes.length+1) (ZwC a d x):=Zvz ⟨λz hz=>h1 z (List.mem_append_right _ hz),Nat.le_refl _⟩ hk
 refine⟨λz hz=>?_,?_⟩
 ·rw[ZaP,Zb2]at hz
  rcases List.mem_append.1 hz with hz|hz
  ·exact h1 z (List.mem_append_left _ hz)
  ·exact hm.all z hz
 ·rw[ZaP,Zb2,zA1]
  have:=hm.len;omega
theorem PE.op{r:List E}{x y:E}{i:Nat}(h:PE (r++[x,y]) i){k:Int}(hk:2<=k/\k<=7)(a:Option Addr)(d:Nat):PE (r++[opE k a d x y]) (i+1):=by
 have h1:=h.all;have h2:=h.sz
 rw[ZaP,show Zal [x,y]=x.nodes++y.nodes by simp[Zal]]at h1 h2
 rw[zA1,zA1]at h2
 have hm:MkE 9 (x.nodes.length+y.nodes.length+1) (opE k a d x y):=ZvA hk ⟨λz hz=>h1 z (List.mem_append_right _ (List.mem_append_left _ hz)),Nat.le_refl _⟩ ⟨λz hz=>h1 z (List.mem_append_right _ (List.mem_append_right _ hz)),Nat.le_refl _⟩
 refine⟨λz hz=>?_,?_⟩
 ·rw[ZaP,Zb2]at hz
  rcases List.mem_append.1 hz with hz|hz
  ·exact h1 z (List.mem_append_left _ hz)
  ·exact hm.all z hz
 ·rw[ZaP,Zb2,zA1]
  have:=hm.len;omega
theorem ZjX(t:E):1<=t.nodes.length:=by rw[Zbc,List.length_cons];omega
theorem ZdQ(l:List E):l.length<=(Zal l).length:=by
 induction l with
 | nil=>simp
 | cons t l ih=>
  have:=ZjX t
  simp only[Zal,List.length_cons,zA1];omega
structure QE (t:E)(l:List E)(b:Nat):Prop where
 all:∀x∈t.nodes,okN 9 x
 alls:∀x∈Zal l,okN 9 x
 sz:t.nodes.length+(Zal l).length+l.length<=b
theorem QE.start{t:E}{l:List E}{i:Nat}(h:PE (t::l) i):QE t l (2*i):=by
 have h1:=h.all;have h2:=h.sz
 simp only[Zal,zA1]at h1 h2
 have:=ZdQ l
 exact⟨λx hx=>h1 x (List.mem_append_left _ hx),λx hx=>h1 x (List.mem_append_right _ hx),by omega⟩
theorem QE.step{t x:E}{l:List E}{b:Nat}(h:QE t (x::l) b)(a:Option Addr)(d:Nat):QE (opE 2 a d t x) l b:=by
 have h1:=h.alls;have h2:=h.sz
 simp only[Zal,zA1,List.length_cons]at h1 h2
 have hm:MkE 9 (t.nodes.length+x.nodes.length+1) (opE 2 a d t x):=ZvA (by omega) ⟨h.all,Nat.le_refl _⟩ ⟨λz hz=>h1 z (List.mem_append_left _ hz),Nat.le_refl _⟩
 exact⟨hm.all,λz hz=>h1 z (List.mem_append_right _ hz),by have:=hm.len;omega⟩
theorem QE.done{t:E}{b:Nat}(h:QE t [] b):MkE 9 b t:=⟨h.all,by have:=h.sz;omega⟩
structure BoE (c:Int)(e u:E):Prop where
 all:∀x∈u.nodes,okN c x
 len:u.nodes.length<=e.nodes.length
 k8:u.k=8↔e.k=8
theorem ZpH{c:Int}:∀{l r:List E},l.length=r.length->(∀(i:Nat)(x y:E),l[i]?=some x->r[i]?=some y->BoE c x y)->(∀z∈Zal r,okN c z)/\(Zal r).length<=(Zal l).length/\Zrc r=Zrc l
 | [],[],_,_=>⟨by simp[Zal],Nat.le_refl _,rfl⟩
 | [],_::_,h,_=>by simp at h
 | _::_,[],h,_=>by simp at h
 | x::l,y::r,h,hb=>by
  have h0:=hb 0 x y rfl rfl
  obtain⟨h1,h2,_⟩:=ZpH (l:=l) (r:=r) (by simpa using h) (λi x' y' hx hy=>hb (i+1) x' y' (by simpa using hx) (by simpa using hy))
  refine⟨λz hz=>?_,?_,?_⟩
  ·simp only[Zal]at hz
   rcases List.mem_append.1 hz with hz|hz
   ·exact h0.all z hz
   ·exact h1 z hz
  ·simp only[Zal,zA1];have:=h0.len;omega
  ·show(y.k == 8)=(x.k == 8)
   rw[Bool.eq_iff_iff];simpa using h0.k8
theorem Zty{c:Int}{k:Int}{x:Nat}{s:ByteArray}{g:Int}{a a':Option Addr}{d d':Nat}{l r:List E}(h:okN 9 (.node k x s g a d l))(hk:¬(k=10/\g > c))(hl:l.length=r.length)(hb:∀(i:Nat)(x y:E),l[i]?=some x->r[i]?=some y->BoE c x y):BoE c (.node k x s g a d l) (.node k x s g a' d' r):=by
 obtain⟨h1,h2,h3⟩:=ZpH hl hb
 refine⟨λz hz=>?_,?_,Iff.rfl⟩
 ·simp only[E.nodes,List.mem_cons]at hz
  rcases hz with rfl|hz
  ·refine⟨?_,h.2.1,λe=>?_⟩
   ·have e1:=h.1
    simp only[E.right,E.k,E.s,E.x,E.g,E.subs]at e1 ⊢
    rw[<-hl,h3];exact e1
   ·have e:k=10:=e
    show g<=c
    omega
  ·exact h1 z hz
 ·simp only[E.nodes,List.length_cons];omega
theorem ZvE{c:Int}{e:E}{s:ByteArray}(hs:s∈ZdZ)(hk:e.k=10):BoE c e (ZwB s):=by
 have h:=ZsE (c:=c) hs
 refine⟨h.all,Nat.le_trans h.len (ZjX e),?_⟩
 rw[hk]
 show(9:Int)=8↔_
 omega
theorem BoE.toMk{c:Int}{n:Nat}{e u:E}(h:BoE c e u)(he:e.nodes.length<=n):MkE c n u:=⟨h.all,Nat.le_trans h.len he⟩
end Go.Rx
namespace Go.Rx
open Go Go.Eng Go.RowKit
set_option maxRecDepth 100000
mutual
def T.er:T->T
 | .node k s0 s1 s2 s3 mn mx _ _ l=>.node k s0 s1 s2 s3 mn mx none 0 (erL l)
def erL:List T->List T
 | []=>[]
 | t::l=>t.er::erL l
end
theorem ZpI:∀l:List T,erL l=l.map T.er
 | []=>rfl
 | t::l=>by simp only[erL,List.map_cons,ZpI l]
@[simp] theorem Zw4 (t:T):t.er.k=t.k:=by cases t;rfl
@[simp] theorem Zzn (t:T):t.er.s0=t.s0:=by cases t;rfl
@[simp] theorem Zzo (t:T):t.er.s1=t.s1:=by cases t;rfl
@[simp] theorem Zzp (t:T):t.er.s2=t.s2:=by cases t;rfl
@[simp] theorem Zzq (t:T):t.er.s3=t.s3:=by cases t;rfl
@[simp] theorem Zzr (t:T):t.er.mn=t.mn:=by cases t;rfl
@[simp] theorem Zzs (t:T):t.er.mx=t.mx:=by cases t;rfl
@[simp] theorem Zye (t:T):t.er.subs=t.subs.map T.er:=by cases t;simp only[T.er,T.subs,ZpI]
mutual
theorem Zlz:∀t:T,t.er.nodes=t.nodes.map T.er
 | .node k s0 s1 s2 s3 mn mx a c l=>by
  simp only[T.er,T.nodes,List.map_cons]
  rw[ZmS l]
theorem ZmS:∀l:List T,ZaD (erL l)=(ZaD l).map T.er
 | []=>rfl
 | t::l=>by simp only[erL,ZaD,List.map_append,Zlz t,ZmS l]
end
theorem ZiB(t:T):t.er.light=t.light:=by unfold T.light;rw[Zlz,List.length_map]
theorem ZsG(t:T):t.er.size=t.size:=by unfold T.size;rw[ZiB,Zlz,List.length_map]
def T.caps(t:T):Prop:=∀x∈t.nodes,x.subs.length<=x.c
theorem Zrj{k s0 s1 s2 s3 mn mx:Int}{a:Option Addr}{c:Nat}{l:List T}(h:l.length<=c)(hl:∀x∈l,x.caps):(T.node k s0 s1 s2 s3 mn mx a c l).caps:=by
 intro y hy
 rw[Zci]at hy
 rcases List.mem_cons.1 hy with rfl|hy
 ·exact h
 ·obtain⟨x,hx,hy⟩:∃x∈l,y∈x.nodes:=by
   have:∀l:List T,y∈ZaD l->∃x∈l,y∈x.nodes:=λl=>by
    induction l with
    | nil=>intro h;simp[ZaD]at h
    | cons x l ih=>
     intro h
     simp only[ZaD,List.mem_append]at h
     rcases h with h|h
     ·exact⟨x,by simp,h⟩
     ·obtain⟨z,hz,h⟩:=ih h
      exact⟨z,by simp[hz],h⟩
   exact this l hy
  exact hl x hx y hy
theorem ZvF{k s0 s1 s2 s3 mn mx:Int}{a a':Option Addr}{c c':Nat}{l l':List T}(h:l.map T.er=l'.map T.er):(T.node k s0 s1 s2 s3 mn mx a c l).er=(T.node k s0 s1 s2 s3 mn mx a' c' l').er:=by
 simp only[T.er,ZpI,h]
end Go.Rx
namespace Go.Rx
open Go Go.Eng Go.RowKit
def Old(m:Mem)(b:Nat):Prop:=¬m.free b
noncomputable def nw(m m':Mem):Mem:=⟨(m'.off (Old m)).c,λ_=>none⟩
theorem Zln(m m':Mem):(nw m m').le m':=⟨(Mem.off_le m' (Old m)).c,λ_ _ h=>by cases h⟩
theorem ZbH{m m':Mem}(h:m.le m'){b:Nat}(hf:m'.free b):m.free b:=λo=>by
 cases he:m b o with
 | none=>rfl
 | some v=>have:=h _ _ _ he;rw[hf o]at this;cases this
theorem Zgg{m m':Mem}(h:m.le m'){b:Nat}(hf:m'.k b=none):m.k b=none:=by
 cases he:m.k b with
 | none=>rfl
 | some v=>have:=h.k _ _ he;rw[hf]at this;cases this
theorem Zrk{m m':Mem}{b:Nat}(h:¬m.free b):(nw m m').free b:=λo=>Mem.off_free (m:=m') (Y:=Old m) h o
theorem ZuP{m m':Mem}{b:Nat}(h:m.free b)(o:Nat):nw m m' b o=m' b o:=Mem.off_at (m:=m') (Y:=Old m) (λk=>k h) o
theorem ZdR{m0 m m' m'':Mem}(h1:m0.le m)(h2:m'.le m''):(nw m m').le (nw m0 m''):=⟨λb o v hv=>by
 have hf:m.free b:=Classical.byContradiction λhn=>by rw[Zrk hn]at hv;cases hv
 rw[ZuP hf]at hv;rw[ZuP (ZbH h1 hf)];exact h2 _ _ _ hv,λb e he=>by cases he⟩
theorem ZlA{m m':Mem}{a:Option Addr}{cs:List Value}(h:rowRd m' a cs)(hf:cs=[]\/∀b o,a=some ⟨b,o,none⟩->m.free b):rowRd (nw m m') a cs:=by
 rcases hf with hf|hf
 ·exact .inl hf
 rcases h with h|⟨b,o,ha,h⟩
 ·exact .inl h
 ·exact .inr ⟨b,o,ha,λj v hj=>by rw[ZuP (hf b o ha)];exact h j v hj⟩
theorem ZmT{m m':Mem}{Y:Nat->Prop}(h:m.le m')(hf:∀b,Y b->m.free b/\m.k b=none):m.le (m'.off Y):=⟨λb o v hv=>by
 rw[Mem.off_at (λhy=>by rw[(hf b hy).1 o]at hv;cases hv)];exact h _ _ _ hv,λb e he=>by
 rw[Mem.off_k (λhy=>by rw[(hf b hy).2]at he;cases he)];exact h.k _ _ he⟩
structure Each {α β:Type}(cs:β->List Value)(Q:α->β->Mem->Prop)(m m':Mem)(L:List α)(a:Option Addr)(c:Nat)(L':List β)(μ:Nat->Mem):Prop where
 len:L'.length=L.length
 le:m.le m'
 row:rowRd m' a (L'.map cs).flatten
 q:∀i x y,L[i]?=some x->L'[i]?=some y->Q x y (μ i)
 sub:∀i,i < L.length->(μ i).le (nw m m')
 ap:∀i j,i < j->j < L.length->∀b,(μ i).free b\/(μ j).free b
 blk:(L=[]/\a=none/\c=0)\/(L≠[]/\∃b,a=some ⟨b,0,none⟩/\m.free b/\m.k b=none/\∀i,i < L.length->(μ i).free b/\(μ i).k b=none)
 cap:L'.length<=c
theorem Each.nil{α β:Type}{cs:β->List Value}{Q:α->β->Mem->Prop}(m:Mem):Each cs Q m m ([]:List α) none 0 [] λ_=>m:=
 ⟨rfl,Mem.le_refl m,.inl rfl,by simp,by simp,by simp,.inl ⟨rfl,rfl,rfl⟩,by simp⟩
theorem Each.step{α β:Type}{cs:β->List Value}{Q:α->β->Mem->Prop}{m m':Mem}{L:List α}{k:Nat}{a:Option Addr}{c:Nat}{L':List β}{μ:Nat->Mem}{n:Nat}(hn:∀y,(cs y).length=n)(h0:0 < n)(h:Each cs Q m m' (L.take k) a c L' μ){x:α}(hx:L[k]?=some x)
  {m3:Mem} {y:β} (h3:m'.le m3) (hq:Q x y (nw m' m3)) {b3:Nat} (fu:m3.free b3) {a':Option Addr} {c':Nat} {m4:Mem} (h4:(m3.add b3 (cs y)).le m4) (aB:rowRd m4 a' ((L'++[y]).map cs).flatten) (ht:TokFact (m3.add b3 (cs y)) a a' (L'.length+1) c'):
  Each cs Q m m4 (L.take (k+1)) a' c' (L'++[y]) (λi=>if i=k then nw m' m3 else μ i):=by
 have hk:k < L.length:=(zA0 hx).1
 have e:L.take (k+1)=L.take k++[x]:=by rw[List.take_add_one,hx];rfl
 have lk:(L.take k).length=k:=by rw[List.length_take];omega
 have lk':L'.length=k:=h.len.trans lk
 have add3:m3.le (m3.add b3 (cs y)):=Mem.le_add fu _
 have tJ:m3.le m4:=mLt add3 h4
 have ic:m'.le m4:=mLt h3 tJ
 have nq:m.le (m3.add b3 (cs y)):=mLt h.le (mLt h3 add3)
 have cS:((L'++[y]).map cs).flatten≠[]:=by
  intro hz
  have:=congrArg List.length hz
  rw[ZaQ hn,zA1,List.length_cons]at this
  have h5:0 < (L'.length+(([]:List β).length+1))*n:=Nat.mul_pos (by omega) h0
  rw[this]at h5;exact absurd h5 (by simp)
 have ha':∃b,a'=some ⟨b,0,none⟩/\m.free b/\m.k b=none/\(∀i,i < k->(μ i).free b/\(μ i).k b=none)/\((nw m' m3).free b/\(nw m' m3).k b=none):=by
  rcases ht.2 with h1|⟨b,o,h1,h2⟩
  ·rcases aB with h2|⟨b,o,h2,_⟩
   ·exact absurd h2 cS
   ·rw[h1]at h2;cases h2
  ·rcases h2 with h2|⟨h2,h5,h6⟩
   ·rcases h.blk with⟨_,h7,_⟩|⟨h6,b',h7,h8,h8',h9⟩
    ·rw[h7,h1]at h2;cases h2
    ·rw[h7,h1]at h2
     simp only[Option.some.injEq,Addr.mk.injEq,and_true]at h2
     obtain⟨rfl,rfl⟩:=h2
     have fN:¬m'.free b':=λhf=>by
      rcases h.row with gu|⟨b2,o2,gu,kY⟩
      ·have:=congrArg List.length gu
       rw[ZaQ hn,lk']at this
       have nX:k≠0:=λe=>h6 (by rw[e];rfl)
       have pX:0 < k*n:=Nat.mul_pos (by omega) h0
       simp at this;omega
      ·rw[h7]at gu;cases gu
       have nX:k≠0:=λe=>h6 (by rw[e];rfl)
       have pX:0 < k*n:=Nat.mul_pos (by omega) h0
       have aC:0 < (L'.map cs).flatten.length:=by rw[ZaQ hn,lk'];exact pX
       have:=kY 0 _ (zA3 aC)
       rw[hf]at this;cases this
     refine⟨b',h1,h8,h8',λi hi=>h9 i (by omega),Zrk fN,rfl⟩
   ·subst h2
    have hs:∀i,i < k->(μ i).le (m3.add b3 (cs y)):=λi hi=>mLt (h.sub i (by omega)) (mLt (Zln _ _) (mLt h3 add3))
    have ln:(nw m' m3).le (m3.add b3 (cs y)):=mLt (Zln _ _) add3
    exact⟨b,h1,ZbH nq h5,Zgg nq h6,λi hi=>⟨ZbH (hs i hi) h5,Zgg (hs i hi) h6⟩,ZbH ln h5,Zgg ln h6⟩
 obtain⟨b,hb,dT,fJ,fK,nr⟩:=ha'
 refine⟨by rw[zA1,List.length_take,lk'];simp;omega,mLt h.le ic,aB,λi u v hu hv=>?_,λi hi=>?_,λi j pY hj b'=>?_,.inr ⟨by rw[e];simp,b,hb,dT,fJ,λi hi=>?_⟩,by have:=ht.1;rw[zA1];exact this⟩
 ·rw[e]at hu
  by_cases kx:i=k
  ·subst kx
   rw[zA4 (by omega),lk,Nat.sub_self]at hu
   rw[zA4 (by omega),lk',Nat.sub_self]at hv
   cases hu;cases hv
   rw[if_pos rfl];exact hq
  ·have hi:i < k:=by
    have:=(zA0 hu).1
    rw[zA1,lk]at this;simp at this;omega
   rw[zA5 (by omega)]at hu hv
   rw[if_neg kx];exact h.q i u v hu hv
 ·by_cases kx:i=k
  ·subst kx;rw[if_pos rfl];exact ZdR h.le tJ
  ·rw[if_neg kx]
   rw[List.length_take]at hi
   exact mLt (h.sub i (by omega)) (ZdR (Mem.le_refl m) ic)
 ·rw[List.length_take]at hj
  by_cases tK:j=k
  ·subst tK
   rw[if_neg (by omega),if_pos rfl]
   by_cases hf:(μ i).free b'
   ·exact .inl hf
   ·exact .inr (Zrk λlp=>hf (ZbH (mLt (h.sub i (by omega)) (Zln _ _)) lp))
  ·rw[if_neg (by omega),if_neg tK];exact h.ap i j pY (by omega) b'
 ·by_cases kx:i=k
  ·subst kx;rw[if_pos rfl];exact nr
  ·rw[if_neg kx];rw[List.length_take]at hi;exact fK i (by omega)
section
variable {α β:Type} {cs:β->List Value} {Q:α->β->Mem->Prop} {m m':Mem} {L:List α} {a:Option Addr} {c:Nat} {L':List β} {μ:Nat->Mem} (h:Each cs Q m m' L a c L' μ)
include h
theorem Each.rows:rowRd (nw m m') a (L'.map cs).flatten:=ZlA h.row (by
 rcases h.blk with⟨h1,_⟩|⟨_,b,hb,hf,_⟩
 ·left
  have:L'=[]:=List.eq_nil_of_length_eq_zero (by rw[h.len,h1];rfl)
  rw[this];rfl
 ·exact .inr λb' o e=>by rw[hb]at e;cases e;exact hf)
theorem Each.at{y:β}(hy:y∈L'):∃i x,L[i]?=some x/\L'[i]?=some y/\Q x y (μ i)/\(μ i).le (nw m m'):=by
 obtain⟨i,hi⟩:=List.getElem?_of_mem hy
 have aC:i < L.length:=by rw[<-h.len];exact(zA0 hi).1
 exact⟨i,L[i],zA3 aC,hi,h.q i _ _ (zA3 aC) hi,h.sub i aC⟩
theorem Each.same{γ:Type}{f:α->γ}{g:β->γ}(hs:∀x y μ,Q x y μ->g y=f x):L'.map g=L.map f:=by
 refine List.ext_getElem (by simp[h.len]) λi h1 h2=>?_
 simp only[List.length_map]at h1 h2
 rw[List.getElem_map,List.getElem_map]
 exact hs _ _ _ (h.q i _ _ (zA3 h2) (zA3 h1))
end
def ZpJ{α β:Type}(cs:β->List Value)(Q:α->β->Mem->Prop)(m:Mem)(L:List α):Value->Mem->List (List Value)->Prop:=λv m' _=>∃a c L' μ,v=.slice a L'.length c/\Each cs Q m m' L a c L' μ
theorem ZeQ{α β:Type}{cs:β->List Value}{Q:α->β->Mem->Prop}{m:Mem}{L:List α}:∀(v:Value)(m':Mem) (css:List (List Value)),ZpJ cs Q m L v m' css->Shape.fits .slice v=true:=λv _ _ ⟨_,_,_,_,h,_⟩=>by rw[h];rfl
mutual
def E.er:E->E
 | .node k x s g _ _ l=>.node k x s g none 0 (ZuU l)
def ZuU:List E->List E
 | []=>[]
 | t::l=>t.er::ZuU l
end
theorem ZlB:∀l:List E,ZuU l=l.map E.er
 | []=>rfl
 | t::l=>by simp only[ZuU,List.map_cons,ZlB l]
@[simp] theorem Zzt (t:E):t.er.k=t.k:=by cases t;rfl
@[simp] theorem Zzu (t:E):t.er.x=t.x:=by cases t;rfl
@[simp] theorem Zzv (t:E):t.er.s=t.s:=by cases t;rfl
@[simp] theorem Zzw (t:E):t.er.g=t.g:=by cases t;rfl
@[simp] theorem Zw5 (t:E):t.er.subs=t.subs.map E.er:=by cases t;simp only[E.er,E.subs,ZlB]
mutual
theorem ZeR:∀t:E,t.er.nodes=t.nodes.map E.er
 | .node k x s g a c l=>by
  simp only[E.er,E.nodes,List.map_cons]
  rw[ZjY l]
theorem ZjY:∀l:List E,Zal (ZuU l)=(Zal l).map E.er
 | []=>rfl
 | t::l=>by simp only[ZuU,Zal,List.map_append,ZeR t,ZjY l]
end
theorem ZeS(t:E):t.er.light=t.light:=by unfold E.light;rw[ZeR,List.length_map]
theorem Ztz(t:E):t.er.size=t.size:=by unfold E.size;rw[ZeS,ZeR,List.length_map]
theorem Zyf(t:E):nE t.er=nE t:=by unfold nE;rw[ZeS,Ztz]
def Pt.er(p:Pt):Pt:=⟨p.k,p.s,p.g,p.e.er⟩
def Ac.er(a:Ac):Ac:=⟨a.k,a.s,none,0,a.parts.map Pt.er,a.e.er⟩
def Ru.er(r:Ru):Ru:=⟨r.k,r.bg,r.en,r.t.er,r.s,r.n,none,0,r.acts.map Ac.er,r.go,r.code⟩
def Sta.er(x:Sta):Sta:=⟨x.s,none,0,x.rules.map Ru.er⟩
def Sc.er(s:Sc):Sc:=⟨s.n,none,0,s.vars,none,0,s.states.map Sta.er⟩
theorem ZcH{α:Type}(f:α->Int)(g:α->α)(h:∀x,f (g x)=f x)(l:List α):ZaR ((l.map g).map f)=ZaR (l.map f):=by
 rw[List.map_map];congr 1;exact List.map_congr_left λx _=>h x
theorem ZyJ(a:Ac):wA a.er=wA a:=by
 unfold wA
 show 1+nE a.e.er+((a.parts.map Pt.er).length:Int)+ZaR ((a.parts.map Pt.er).map λp=>nE p.e)=_
 rw[Zyf,List.length_map,ZcH (λp:Pt=>nE p.e) Pt.er (λp=>Zyf p.e)]
theorem ZyK(r:Ru):wR r.er=wR r:=by
 unfold wR
 show 1+ZhR r.t.er.size 20000+(if r.t.er.light then 0 else 20001)+ZaR ((r.acts.map Ac.er).map wA)=_
 rw[ZsG,ZiB,ZcH wA Ac.er ZyJ]
theorem ZyL(x:Sta):wS x.er=wS x:=ZcH wR Ru.er ZyK x.rules
theorem Zrl(s:Sc):s.er.weight=s.weight:=by
 unfold Sc.weight
 show(s.vars.length:Int)+((s.states.map Sta.er).length:Int)+ZaR ((s.states.map Sta.er).map wS)=_
 rw[List.length_map,ZcH wS Sta.er ZyL]
theorem Zrm(s:Sc):s.er.light=s.light:=by unfold Sc.light;rw[Zrl]
theorem ZmU{α:Type}(f:α->Int)(hf:∀x,0<=f x){l:List α}{x:α}(hx:x∈l):f x<=ZaR (l.map f):=by
 induction l with
 | nil=>cases hx
 | cons y l ih=>
  have h1:=ZfA f hf l
  have h2:=hf y
  simp only[List.map_cons,ZaR]
  rcases List.mem_cons.1 hx with rfl|hx
  ·omega
  ·have:=ih hx;omega
def LtA(a:Ac):Prop:=a.e.light=true/\∀p∈a.parts,p.e.light=true
def LtR(r:Ru):Prop:=r.t.light=true/\∀a∈r.acts,LtA a
theorem Zyg{e:E}(h:nE e<=20000):e.light=true:=by
 cases hl:e.light with
 | true=>rfl
 | false=>unfold nE at h;rw[hl]at h;simp at h
theorem Zxr{a:Ac}(h:wA a<=20000):LtA a:=by
 unfold wA at h
 have h1:=Zg6 a.e
 have h2:=ZfA (λp:Pt=>nE p.e) (λp=>(Zg6 p.e).1) a.parts
 exact⟨Zyg (by omega),λp hp=>Zyg (by have:=ZmU (λp:Pt=>nE p.e) (λp=>(Zg6 p.e).1) hp;omega)⟩
theorem ZvG{r:Ru}(h:wR r<=20000):LtR r:=by
 unfold wR at h
 have h1:=(ZjU r.t).1
 have h2:=ZfA wA Zrb r.acts
 have h3:0<=ZhR r.t.size 20000:=by unfold ZhR;split <;> omega
 refine⟨?_,λa ha=>Zxr (by have:=ZmU wA Zrb ha;split at h <;> omega)⟩
 cases hl:r.t.light with
 | true=>rfl
 | false=>rw[hl]at h;simp at h;omega
theorem Zxs{s:Sc}(h:s.light=true):∀x∈s.states,∀r∈x.rules,LtR r:=λx hx r hr=>ZvG (by
 have h1:s.weight<=20000:=zA6 h
 unfold Sc.weight at h1
 have h2:=ZmU wS Zyb hx
 have h3:wR r<=wS x:=ZmU wR Zw0 hr
 omega)
def QP(p q:Pt)(μ:Mem):Prop:=q.er=p.er/\RepP μ q
def QA(p q:Ac)(μ:Mem):Prop:=q.er=p.er/\RepA μ q
def QR(p q:Ru)(μ:Mem):Prop:=q.er=p.er/\RepR μ q
def Zzx(m μ:Mem)(y:Sta):Prop:=y.rules.length<=y.rc/\(y.rules=[]\/∃b,y.ra=some ⟨b,0,none⟩/\m.free b/\m.k b=none/\∀r∈y.rules,RepR (μ.off λk=>k=b) r)
def QS(m:Mem)(x y:Sta)(μ:Mem):Prop:=y.er=x.er/\RepS μ y/\Zzx m μ y
structure SepC (m m':Mem)(s:Sc)(b:Nat)(μ:Nat->Mem):Prop where
 sa:s.sa=some ⟨b,0,none⟩
 free:m.free b/\m.k b=none
 all:∀i x,s.states[i]?=some x->RepS (μ i) x/\Zzx m (μ i) x/\(μ i).le (nw m m')/\(μ i).free b
 ap:∀i j,i < j->j < s.states.length->∀b',(μ i).free b'\/(μ j).free b'
 va:∃μv:Mem,rowRd μv s.va (s.vars.map Va.cs).flatten/\μv.le (nw m m')/\μv.free b/\∀i,i < s.states.length->∀b',μv.free b'\/(μ i).free b'
theorem Zrn{m0 m m' M:Mem}{x:Ac}{a:Option Addr}{c:Nat}{L':List Pt}{μ:Nat->Mem}{e:E}(hx:RepA m0 x)(h:Each Pt.cs QP m m' x.parts a c L' μ)(hM:(nw m m').le M)(he:RepE M e):RepA M ⟨x.k,x.s,a,c,L',e⟩:=
 ⟨hx.k,hx.s,by rw[h.len];exact hx.n,h.rows.mono hM,λp hp=>by
  obtain⟨i,y,_,_,hq,hs⟩:=h.at hp
  exact hq.2.mono (mLt hs hM),he⟩
theorem Zro{m0 m m' M:Mem}{x:Ru}{a:Option Addr}{c:Nat}{L':List Ac}{μ:Nat->Mem}{t:T}(hx:RepR m0 x)(h:Each Ac.cs QA m m' x.acts a c L' μ)(hM:(nw m m').le M)(ht:Rep M t):RepR M ⟨x.k,x.bg,x.en,t,x.s,x.n,a,c,L',x.go,x.code⟩:=
 ⟨hx.k,ht,hx.s,hx.n,by rw[h.len];exact hx.len,h.rows.mono hM,λp hp=>by
  obtain⟨i,y,_,_,hq,hs⟩:=h.at hp
  exact hq.2.mono (mLt hs hM),hx.go,hx.code⟩
theorem ZjZ{m m':Mem}{Y:Nat->Prop}(h:m.le m'):(m.off Y).le (m'.off Y):=⟨λb o v hv=>by
 by_cases hy:Y b
 ·rw[Mem.off_free hy]at hv;cases hv
 ·rw[Mem.off_at hy]at hv ⊢;exact h _ _ _ hv,λb e he=>by
 by_cases hy:Y b
 ·rw[Mem.off_kn hy]at he;cases he
 ·rw[Mem.off_k hy]at he ⊢;exact h.k _ _ he⟩
theorem QS.mono{m0 μ μ':Mem}{x y:Sta}(h:QS m0 x y μ)(hm:μ.le μ'):QS m0 x y μ':=
 ⟨h.1,h.2.1.mono hm,h.2.2.1,h.2.2.2.imp_right λ⟨b,h1,h2,h3,h4⟩=>⟨b,h1,h2,h3,λr hr=>(h4 r hr).mono (ZjZ hm)⟩⟩
theorem ZvH{m0 m m':Mem}{x:Sta}{a:Option Addr}{c:Nat}{L':List Ru}{μ:Nat->Mem}(h0:m0.le m)(hx:RepS m x)(h:Each Ru.cs QR m m' x.rules a c L' μ):QS m0 x ⟨x.s,a,c,L'⟩ (nw m m'):=by
 refine⟨?_,⟨hx.s,by rw[h.len];exact hx.len,h.rows,λp hp=>by
  obtain⟨i,y,_,_,hq,hs⟩:=h.at hp
  exact hq.2.mono hs⟩,h.cap,?_⟩
 ·simp only[Sta.er,Sta.mk.injEq,true_and]
  exact h.same λx y μ hq=>hq.1
 ·rcases h.blk with⟨h1,_⟩|⟨_,b,hb,hf,hk,hμ⟩
  ·exact .inl (List.eq_nil_of_length_eq_zero (by rw[h.len,h1];rfl))
  ·refine .inr ⟨b,hb,ZbH h0 hf,Zgg h0 hk,λr hr=>?_⟩
   obtain⟨i,y,hi,_,hq,hs⟩:=h.at hr
   exact hq.2.mono (ZmT hs λb' e=>by rw[e];exact hμ i (zA0 hi).1)
end Go.Rx
namespace Go.Rx
open Go Go.Eng
end Go.Rx
namespace Go.Rx
open Go Go.Eng Go.RowKit
def Zlo(x:Sta)(k:Nat):Sta:=⟨x.s,x.ra,x.rc,x.rules.eraseIdx k⟩
def ZuQ(s:Sc)(i k:Nat):Sc:=match s.states[i]? with
 | some x=>⟨s.n,s.va,s.vc,s.vars,s.sa,s.sc,s.states.set i (Zlo x k)⟩
 | none=>s
def Zhc(s:Sc)(i k:Int):Bool:=s.light&&(decide (i ≥ 0)&&(decide (i < s.states.length)&&(decide (k ≥ 0)&&match s.states[i.toNat]? with
 | some x=>decide (k < x.rules.length)
 | none=>false)))
theorem ZmV{s s':Sc}(h:s'.er=s.er):s'.states.map Sta.er=s.states.map Sta.er:=congrArg Sc.states h
theorem ZyM{s s':Sc}(h:s'.er=s.er){i:Nat}{x:Sta}(hx:s.states[i]?=some x):∃x',s'.states[i]?=some x'/\x'.er=x.er:=by
 have:=congrArg (λl=>l[i]?) (ZmV h)
 simp only[List.getElem?_map,hx,Option.map_some]at this
 obtain⟨x',h1,h2⟩:=Option.map_eq_some_iff.1 this
 exact⟨x',h1,h2⟩
theorem ZpK{x x':Sta}(h:x'.er=x.er):x'.s=x.s/\x'.rules.map Ru.er=x.rules.map Ru.er/\x'.rules.length=x.rules.length:=by
 have h2:x'.rules.map Ru.er=x.rules.map Ru.er:=congrArg Sta.rules h
 have h1:x'.er.s=x.er.s:=congrArg Sta.s h
 exact⟨h1,h2,by have:=congrArg List.length h2;simpa using this⟩
theorem ZvI{s s':Sc}(h:s'.er=s.er):s'.n=s.n/\s'.vars=s.vars:=by
 have h1:s'.er.n=s.er.n:=congrArg Sc.n h
 have h2:s'.er.vars=s.er.vars:=congrArg Sc.vars h
 exact⟨h1,h2⟩
theorem ZtA{s s':Sc}(h1:s'.n=s.n)(h2:s'.vars=s.vars)(h3:s'.states.map Sta.er=s.states.map Sta.er):s'.er=s.er:=by
 unfold Sc.er;rw[h1,h2,h3]
theorem ZiC{α β:Type}(f:α->β):∀(l:List α)(k:Nat),(l.eraseIdx k).map f=(l.map f).eraseIdx k
 | [],_=>rfl
 | _::_,0=>rfl
 | x::l,k+1=>by simp only[List.eraseIdx_cons_succ,List.map_cons,ZiC f l k]
theorem ZtB{x x':Sta}(h:x'.er=x.er)(k:Nat):(Zlo x' k).er=(Zlo x k).er:=by
 obtain⟨h1,h2,_⟩:=ZpK h
 simp only[Zlo,Sta.er,h1,Sta.mk.injEq,true_and]
 rw[ZiC,ZiC,h2]
theorem ZtC{m:Mem}{b:Nat}{L:List Sta}{i:Nat}{x y:Sta}(h:rowRd m (some ⟨b,0,none⟩) (L.map Sta.cs).flatten)(hx:L[i]?=some x)(hs:y.s=x.s):
  rowRd (m.upd b (0+i*2+1) [.slice y.ra y.rules.length y.rc]) (some ⟨b,0,none⟩) ((L.set i y).map Sta.cs).flatten:=by
 have hi:=(zA0 hx).1
 have hl:∀l:List Sta,(l.map Sta.cs).flatten.length=l.length*2:=ZaQ Sta.len
 have e0:L=L.take i++x::L.drop (i+1):=by
  have:=(zA0 hx).2
  rw[<-this,List.getElem_cons_drop,List.take_append_drop]
 have e1:L.set i y=L.take i++y::L.drop (i+1):=List.set_eq_take_append_cons_drop.trans (if_pos hi)
 have lt:(L.take i).length=i:=by rw[List.length_take];omega
 have e:∀z:Sta,((L.take i++z::L.drop (i+1)).map Sta.cs).flatten=((L.take i).map Sta.cs).flatten++(z.cs++((L.drop (i+1)).map Sta.cs).flatten):=λz=>by simp
 rw[e0,e]at h
 rw[e1,e]
 obtain⟨A,hA⟩:∃A,A=((L.take i).map Sta.cs).flatten:=⟨_,rfl⟩
 obtain⟨B,hB⟩:∃B,B=((L.drop (i+1)).map Sta.cs).flatten:=⟨_,rfl⟩
 have lA:A.length=i*2:=by rw[hA,hl,lt]
 rw[<-hA,<-hB]at h ⊢
 rcases h with h|⟨b',o',ha,h⟩
 ·have:=congrArg List.length h
  rw[zA1,zA1,Sta.len]at this
  simp at this
 cases ha
 refine .inr ⟨b,0,rfl,λj v hj=>?_⟩
 unfold Mem.upd;try dsimp only
 rw[Nat.zero_add,Nat.zero_add,List.length_singleton]
 rcases Nat.lt_or_ge j (i*2)with aC|bG
 ·rw[if_neg (by omega)]
  rw[zA5 (by omega)]at hj
  have:=h j v (by rw[zA5 (by omega)];exact hj)
  rwa [Nat.zero_add]at this
 ·rw[zA4 (by omega),lA]at hj
  by_cases vM:j=i*2
  ·subst vM
   rw[if_neg (by omega)]
   rw[Nat.sub_self]at hj
   have:=h (i*2) v (by
    rw[zA4 (by omega),lA,Nat.sub_self]
    simp only[Sta.cs,hs]at hj ⊢
    exact hj)
   rwa [Nat.zero_add]at this
  ·by_cases tL:j=i*2+1
   ·subst tL
    rw[if_pos ⟨rfl,Nat.le_refl _,Nat.lt_succ_self _⟩,Nat.sub_self]
    rw[show i*2+1 - i*2=1 by omega]at hj
    exact hj
   ·rw[if_neg (by omega)]
    rw[zA4 (by rw[Sta.len];omega),Sta.len]at hj
    have:=h j v (by
     rw[zA4 (by omega),lA,zA4 (by rw[Sta.len];omega),Sta.len];exact hj)
    rwa [Nat.zero_add]at this
theorem ZtD{m2 m3 M:Mem}{s':Sc}{bS bR i k:Nat}{μ:Nat->Mem}{x':Sta}{zs:List Value}(dP:RepC (nw m2 m3) s')(d5:SepC m2 m3 s' bS μ)(hx':s'.states[i]?=some x')(ky:x'.ra=some ⟨bR,0,none⟩)(hk:k < x'.rules.length)
  (mC:∀r∈x'.rules,RepR ((μ i).off λq=>q=bR) r) (hM:(m3.off λq=>q=bR).le M) (rG:(M.upd bS (0+i*2+1) [.slice x'.ra (x'.rules.length - 1) x'.rc]).free bR):
  RepC ((M.upd bS (0+i*2+1) [.slice x'.ra (x'.rules.length - 1) x'.rc]).add bR (((x'.rules.eraseIdx k).map Ru.cs).flatten++zs)) ⟨s'.n,s'.va,s'.vc,s'.vars,s'.sa,s'.sc,s'.states.set i (Zlo x' k)⟩:=by
 obtain⟨V,hV⟩:∃V,V=M.upd bS (0+i*2+1) [.slice x'.ra (x'.rules.length - 1) x'.rc]:=⟨_,rfl⟩
 rw[<-hV]at rG ⊢
 have hi:=(zA0 hx').1
 obtain⟨oC,mr,bU,pZ⟩:=d5.all i x' hx'
 have kno:∀{ν:Mem},ν.le (nw m2 m3)->∀b,ν.k b=none:=λh b=>Zgg h rfl
 have stay:∀{ν:Mem},ν.le (m3.off λq=>q=bR)->ν.free bS->ν.le (V.add bR (((x'.rules.eraseIdx k).map Ru.cs).flatten++zs)):=λh1 h2=>
  mLt (by rw[hV];exact Mem.le_upd (mLt h1 hM) h2 _ _) (Mem.le_add rG _)
 have j2:¬(μ i).free bR:=λhf=>by
  rcases oC.row with h|⟨b,o,ha,h⟩
  ·have:=congrArg List.length h
   rw[ZaQ Ru.len]at this;simp at this;omega
  ·rw[ky]at ha;cases ha
   have aC:0 < (x'.rules.map Ru.cs).flatten.length:=by rw[ZaQ Ru.len];omega
   have:=h 0 _ (zA3 aC)
   rw[hf]at this;cases this
 have rH:bS≠bR:=λe=>j2 (e ▸ pZ)
 have off:∀{ν:Mem},ν.le (nw m2 m3)->ν.free bR->ν.le (m3.off λq=>q=bR):=λh1 h2=>ZmT (mLt h1 (Zln _ _)) λb e=>⟨e ▸ h2,kno h1 b⟩
 have aT:∀j,j < s'.states.length->j≠i->(μ j).free bR:=λj hj cS=>by
  rcases Nat.lt_or_ge j i with h|h
  ·exact(d5.ap j i h hi bR).resolve_right j2
  ·exact(d5.ap i j (by omega) hj bR).resolve_left j2
 have oD:=d5.sa
 refine⟨dP.n,dP.vlen,?_,dP.vall,by rw[List.length_set];exact dP.len,?_,λy hy=>?_,dP.vcap,by rw[List.length_set];exact dP.scap⟩
 ·obtain⟨μv,h1,h2,h3,h4⟩:=d5.va
  exact h1.mono (stay (off h2 ((h4 i hi bR).resolve_right j2)) h3)
 ·have aB:rowRd (m3.off λq=>q=bR) s'.sa (s'.states.map Sta.cs).flatten:=by
   rcases dP.row with h|⟨b,o,ha,h⟩
   ·exact .inl h
   ·refine .inr ⟨b,o,ha,λj v hj=>?_⟩
    rw[oD]at ha;cases ha
    rw[Mem.off_at (Y:=λq=>q=bR) rH];exact(Zln m2 m3) _ _ _ (h j v hj)
  rw[oD]at aB
  have h5:=ZtC (y:=Zlo x' k) (aB.mono hM) hx' rfl
  have h6:(Zlo x' k).rules.length=x'.rules.length - 1:=by simp only[Zlo];rw[List.length_eraseIdx,if_pos hk]
  rw[h6]at h5
  rw[oD]
  have h7:rowRd V (some ⟨bS,0,none⟩) ((s'.states.set i (Zlo x' k)).map Sta.cs).flatten:=by rw[hV];exact h5
  exact h7.mono (Mem.le_add rG _)
 ·obtain⟨j,hj⟩:=List.getElem?_of_mem hy
  by_cases jb:j=i
  ·subst jb
   rw[List.getElem?_set_self hi]at hj
   cases hj
   refine⟨oC.s,by show(x'.rules.eraseIdx k).length<=few;rw[List.length_eraseIdx,if_pos hk];have:=oC.len;omega,?_,λr hr=>?_⟩
   ·show rowRd _ x'.ra ((x'.rules.eraseIdx k).map Ru.cs).flatten
    rw[ky]
    refine .inr ⟨bR,0,rfl,λq v hq=>?_⟩
    rw[Nat.zero_add,Mem.add_same,zA5 (zA0 hq).1];exact hq
   ·refine(mC r (List.mem_of_mem_eraseIdx hr)).mono (stay (ZjZ (mLt bU (Zln _ _))) ?_)
    exact ZbH (Mem.off_le _ _) pZ
  ·rw[List.getElem?_set_ne (Ne.symm jb)]at hj
   have rE:=(zA0 hj).1
   obtain⟨h1,_,h3,h4⟩:=d5.all j y hj
   exact h1.mono (stay (off h3 (aT j rE jb)) h4)
def eqL{α:Type}(f:α->α->Bool):List α->List α->Bool
 | [],[]=>true
 | x::l,y::r=>f x y&&eqL f l r
 | _,_=>false
theorem ZpL{α:Type}{f:α->α->Bool}:∀{l r:List α},¬l.length=r.length->eqL f l r=false
 | [],[],h=>absurd rfl h
 | [],_::_,_=>rfl
 | _::_,[],_=>rfl
 | x::l,y::r,h=>by
  simp only[eqL];rw[ZpL (l:=l) (r:=r) (λe=>h (by simp[e])),Bool.and_false]
theorem ZtE{α:Type}{f:α->α->Bool}:∀{l r:List α} {i:Nat} {x y:α},l[i]?=some x->r[i]?=some y->f x y=false->eqL f l r=false
 | [],_,i,x,y,h,_,_=>by simp at h
 | _::_,[],i,x,y,_,h,_=>by simp at h
 | a::l,b::r,0,x,y,h,k,hf=>by simp at h k;subst h k;simp only[eqL,hf,Bool.false_and]
 | a::l,b::r,i+1,x,y,h,k,hf=>by
  simp only[eqL];rw[ZtE (l:=l) (r:=r) (i:=i) (by simpa using h) (by simpa using k) hf,Bool.and_false]
theorem ZlC{α:Type}{f:α->α->Bool}:∀{l r:List α} {i:Nat} {x y:α},l[i]?=some x->r[i]?=some y->eqL f (l.take i) (r.take i)=true->f x y=true->eqL f (l.take (i+1)) (r.take (i+1))=true
 | [],_,i,x,y,h,_,_,_=>by simp at h
 | _::_,[],i,x,y,_,h,_,_=>by simp at h
 | a::l,b::r,0,x,y,h,k,_,hf=>by simp at h k;subst h k;simp[eqL,hf]
 | a::l,b::r,i+1,x,y,h,k,ht,hf=>by
  simp only[List.take_succ_cons,eqL,zA7]at ht ⊢
  exact⟨ht.1,ZlC (l:=l) (r:=r) (by simpa using h) (by simpa using k) ht.2 hf⟩
theorem ZtF{α β:Type}{f:α->α->Bool}{er:α->β}:∀{l r:List α},l.map er=r.map er->(∀x∈l,∀y∈r,er x=er y->f x y=true)->eqL f l r=true
 | [],[],_,_=>rfl
 | [],_::_,h,_=>by simp at h
 | _::_,[],h,_=>by simp at h
 | x::l,y::r,h,hf=>by
  simp only[List.map_cons,List.cons.injEq]at h
  simp only[eqL,hf x (by simp) y (by simp) h.1,Bool.true_and]
  exact ZtF h.2 λa ha b hb=>hf a (by simp[ha]) b (by simp[hb])
def ZmW(p q:Pt):Bool:=p.k == q.k&&(eqS p.s q.s&&(p.g == q.g&&(p.e.light&&(q.e.light&&p.e.same q.e))))
def ZmX(p q:Ac):Bool:=p.k == q.k&&(eqS p.s q.s&&(eqL ZmW p.parts q.parts&&(p.e.light&&(q.e.light&&p.e.same q.e))))
def Zfr(p q:Ru):Bool:=p.k == q.k&&(p.bg == q.bg&&(p.en == q.en&&((p.t.light&&(q.t.light&&p.t.same q.t))&&(eqS p.s q.s&&(p.n == q.n&&(eqL ZmX p.acts q.acts&&(eqS p.go q.go&&p.code == q.code)))))))
def ZbU(r:Ru):Bool:=decide (wR r<=19999)
mutual
theorem ZpM:∀t u:T,t.er=u.er->t.same u=true
 | .node k s0 s1 s2 s3 mn mx a c l,.node k' s0' s1' s2' s3' mn' mx' a' c' l',h=>by
  simp only[T.er,T.node.injEq]at h
  obtain⟨rfl,rfl,rfl,rfl,rfl,rfl,rfl,_,_,h⟩:=h
  rw[Zst]
  simp only[T.k,T.s0,T.s1,T.s2,T.s3,T.mn,T.mx,T.subs,beq_self_eq_true,Bool.true_and]
  exact ZmY l l' h
theorem ZmY:∀l r:List T,erL l=erL r->Zet l r=true
 | [],[],_=>by simp[Zet]
 | [],_::_,h=>by simp[erL]at h
 | _::_,[],h=>by simp[erL]at h
 | t::l,u::r,h=>by
  simp only[erL,List.cons.injEq]at h
  simp only[Zet,ZpM t u h.1,ZmY l r h.2,Bool.and_self]
end
mutual
theorem ZlD:∀t u:E,t.er=u.er->t.same u=true
 | .node k x s g a c l,.node k' x' s' g' a' c' l',h=>by
  simp only[E.er,E.node.injEq]at h
  obtain⟨rfl,rfl,rfl,rfl,_,_,h⟩:=h
  rw[Zpw]
  simp only[E.k,E.x,E.s,E.g,E.subs,beq_self_eq_true,Bool.true_and,Zsz]
  exact ZmZ l l' h
theorem ZmZ:∀l r:List E,ZuU l=ZuU r->Zcd l r=true
 | [],[],_=>by simp[Zcd]
 | [],_::_,h=>by simp[ZuU]at h
 | _::_,[],h=>by simp[ZuU]at h
 | t::l,u::r,h=>by
  simp only[ZuU,List.cons.injEq]at h
  simp only[Zcd,ZlD t u h.1,ZmZ l r h.2,Bool.and_self]
end
theorem Zm0{e f:E}(h:e.er=f.er):e.light=f.light:=by rw[<-ZeS e,h,ZeS]
theorem Zrp{e f:T}(h:e.er=f.er):e.light=f.light:=by rw[<-ZiB e,h,ZiB]
theorem ZtG{p q:Pt}(h:p.er=q.er)(hl:p.e.light=true):ZmW p q=true:=by
 simp only[Pt.er,Pt.mk.injEq]at h
 obtain⟨h1,h2,h3,h4⟩:=h
 simp only[ZmW,h1,h2,h3,ZjW,beq_self_eq_true,Bool.true_and,hl,<-Zm0 h4,ZlD _ _ h4]
theorem ZtH{p q:Ac}(h:p.er=q.er)(hl:LtA p):ZmX p q=true:=by
 simp only[Ac.er,Ac.mk.injEq]at h
 obtain⟨h1,h2,_,_,h3,h4⟩:=h
 simp only[ZmX,h1,h2,ZjW,beq_self_eq_true,Bool.true_and,hl.1,<-Zm0 h4,ZlD _ _ h4,Bool.and_true]
 exact ZtF h3 λx hx y _ he=>ZtG he (hl.2 x hx)
theorem ZtI{p q:Ru}(h:p.er=q.er)(hl:LtR p):Zfr p q=true:=by
 simp only[Ru.er,Ru.mk.injEq]at h
 obtain⟨h1,h2,h3,h4,h5,h6,_,_,h7,h8,h9⟩:=h
 simp only[Zfr,h1,h2,h3,h5,h6,h8,h9,ZjW,beq_self_eq_true,Bool.true_and,hl.1,<-Zrp h4,ZpM _ _ h4,Bool.and_true]
 exact ZtF h7 λx hx y _ he=>ZtH he (hl.2 x hx)
theorem MkC.wR{s:Sc}(h:MkC s){i a:Nat}{x:Sta}{r:Ru}(hx:s.states[i]?=some x)(hr:x.rules[a]?=some r):Go.Rx.wR r<=405:=((h.all i x hx).all r (zA2 hr)).w
def w64(n:Int):Int:=IntKind.i64.wrap n
theorem ZiD(n:Int):IntKind.i64.wrap n=(if n % 18446744073709551616 ≥ 9223372036854775808 then n % 18446744073709551616 - 18446744073709551616 else n % 18446744073709551616):=by
 unfold IntKind.wrap
 simp only[show IntKind.i64.bits=64 from rfl,show IntKind.i64.signed=true from rfl,Bool.true_and]
 simp only[show(2:Int) ^ 64=18446744073709551616 by decide,show(2:Int) ^ (64 - 1)=9223372036854775808 by decide,decide_eq_true_eq]
theorem ZpN(a b:Int):IntKind.i64.wrap (w64 a+b)=w64 (a+b):=by
 unfold w64
 rw[ZiD,ZiD,ZiD]
 split <;> split <;> split <;> omega
theorem ZoD(a b:Int):w64 (a+b)=IntKind.i64.wrap (w64 a+b):=(ZpN a b).symm
theorem ZtJ(a b:Int):IntKind.i64.wrap (a+w64 b)=w64 (a+b):=by
 rw[Int.add_comm,ZpN,Int.add_comm]
theorem ZvJ(a b:Int):w64 (a+w64 b)=w64 (a+b):=ZtJ a b
theorem ZzI{n:Int}(h:I64 n):w64 n=n:=by
 unfold I64 at h
 unfold w64
 rw[ZiD]
 split <;> omega
theorem W_0:w64 0=0:=ZzI (by unfold I64;omega)
def ZnV(p:E->Bool)(l:List E):Int:=((l.filter p).length:Nat)
theorem ZpO(p:E->Bool)(l r:List E):ZnV p (l++r)=ZnV p l+ZnV p r:=by unfold ZnV;rw[List.filter_append,zA1];omega
theorem ZiE(p:E->Bool)(x:E)(l:List E):ZnV p (x::l)=(if p x then 1 else 0)+ZnV p l:=by
 unfold ZnV;rw[List.filter_cons];split <;> simp;omega
theorem ZsH(p:E->Bool):ZnV p []=0:=rfl
theorem ZtK(p:E->Bool){l:List E}{q:Nat}{x:E}(h:l[q]?=some x):ZnV p (l.take (q+1))=ZnV p (l.take q)+(if p x then 1 else 0):=by
 rw[List.take_add_one,h,ZpO]
 show _+ZnV p [x]=_
 rw[ZiE,ZsH];omega
def Zxt(x:E):Bool:=decide (ZmI x.k > 0)
def Zyh(x:E):Bool:=x.k == 9||x.k == 10
def ZoE(e:E):Int:=if e.light then ZnV Zxt e.nodes else 0
def vrE(e:E):Int:=ZnV Zyh e.nodes
def paP(p:Pt):Int:=if p.k=1 then 0 else 1
def Zsb(p:Pt):Int:=if p.k=4 then ZoE p.e else 0
def vrP(p:Pt):Int:=if p.k=4 then vrE p.e else 0
def paA(a:Ac):Int:=ZaR (a.parts.map paP)
def ZtL(a:Ac):Int:=(if a.k=3 then ZoE a.e else 0)+ZaR (a.parts.map Zsb)
def vrA(a:Ac):Int:=(if a.k=3 then vrE a.e else 0)+ZaR (a.parts.map vrP)
def ruS(x:Sta):Int:=x.rules.length
def rgR(r:Ru):Int:=if r.k=1 then r.t.size else 0
def rgS(x:Sta):Int:=ZaR (x.rules.map rgR)
def Zm1(x:Sta):List Ac:=x.rules.flatMap (·.acts)
def Zd0(s:Sc):List Ac:=s.states.flatMap Zm1
def msV(a b c d e f:Int):List Value:=[.int .i64 a,.int .i64 b,.int .i64 c,.int .i64 d,.int .i64 e,.int .i64 f]
def ms1(s:Sc):Int:=ZaR (s.states.map ruS)
def ms2(s:Sc):Int:=ZaR (s.states.map rgS)
def ms3(s:Sc):Int:=ZaR ((Zd0 s).map paA)
def ms4(s:Sc):Int:=ZaR ((Zd0 s).map ZtL)
def ms5(s:Sc):Int:=ZaR ((Zd0 s).map vrA)
def Zj0(s:Sc):List Value:=if s.light then msV s.states.length (w64 (ms1 s)) (w64 (ms2 s)) (w64 (ms3 s)) (w64 (ms4 s)) (w64 (ms5 s))else msV 0 0 0 0 0 0
theorem Za3{α:Type}(f:α->Int){l:List α}{q:Nat}{x:α}(h:l[q]?=some x):ZaR ((l.take (q+1)).map f)=ZaR ((l.take q).map f)+f x:=by
 rw[List.take_add_one,h,List.map_append,ZgU]
 show _+(f x+0)=_
 omega
theorem Zm2{α β:Type}(f:α->List β){l:List α}{q:Nat}{x:α}(h:l[q]?=some x):(l.take (q+1)).flatMap f=(l.take q).flatMap f++f x:=by
 rw[List.take_add_one,h,List.flatMap_append]
 simp
theorem ZsI{α β:Type}(f:α->List β){l:List α}{q:Nat}{x:α}(h:l[q]?=some x){j:Nat}{y:β}(hj:(f x)[j]?=some y):(l.flatMap f)[((l.take q).flatMap f).length+j]?=some y:=by
 have e:l=l.take q++x::l.drop (q+1):=by
  have hq:=(zA0 h).1
  rw[<-(zA0 h).2,<-List.drop_eq_getElem_cons hq,List.take_append_drop]
 have e2:l.flatMap f=(l.take q).flatMap f++(f x++(l.drop (q+1)).flatMap f):=by
  conv=>lhs;rw[e]
  rw[List.flatMap_append,List.flatMap_cons]
 rw[e2,zA4 (by omega),Nat.add_sub_cancel_left,zA5 (zA0 hj).1]
 exact hj
theorem ZtM{m:Mem}{s:Sc}(hr:RepC m s){a:Ac}(h:a∈Zd0 s):RepA m a:=by
 unfold Zd0 Zm1 at h
 obtain⟨x,hx,h⟩:=List.mem_flatMap.1 h
 obtain⟨r,eH,h⟩:=List.mem_flatMap.1 h
 exact((hr.all x hx).all r eH).all a h
end Go.Rx
namespace Go.Rx
open Go Go.Eng
end Go.Rx
namespace Go.Rx
open Go Go.Eng Go.RowKit
theorem ZsJ(f:Sta->Int)(hf:∀x,0<=f x):∀l:List Sta,0<=ZaR (l.map f)
 | []=>by simp[ZaR]
 | x::l=>by have:=hf x;have:=ZsJ f hf l;simp only[List.map_cons,ZaR];omega
theorem MkC.ms1{s:Sc}(h:MkC s):0<=Go.Rx.ms1 s/\Go.Rx.ms1 s<=20:=by
 refine⟨ZsJ _ (λx=>by unfold ruS;omega) _,?_⟩
 have:=Zee ruS 5 s.states (λx hx=>by
  obtain⟨i,hi⟩:=List.getElem?_of_mem hx
  have:=(h.all i x hi).len
  unfold ruS;omega)
 have h2:=h.len.2
 unfold Go.Rx.ms1
 omega
section
variable {P:Program} {K:TypeId} {κ ν:Type} [DecidableEq κ] {f:κ->Value} {g:ν->Value}
def Zyi(f:κ->Value)(g:ν->Value)(L:List (κ×ν)):List (Value×Value):=L.map λq=>(f q.1,g q.2)
variable (he:∀a b:κ,EqIs P K (f a) (f b) (decide (a=b)))
include he
theorem ZpP(k:κ):∀L:List (κ×ν),k ∉ L.map (·.1)->MapFind P K (f k) (Zyi f g L) none
 | [],_=>rfl
 | q::L,h=>by
  simp only[List.map_cons,List.mem_cons,not_or]at h
  have:=he k q.1
  rw[decide_eq_false h.1]at this
  exact .inr ⟨this,ZpP k L h.2⟩
theorem ZsK(k:κ)(z:ν):∀L:List (κ×ν),k ∉ L.map (·.1)->Zia P K (f k) (g z) (Zyi f g L) (Zyi f g (L++[(k,z)]))
 | [],_=>rfl
 | q::L,h=>by
  simp only[List.map_cons,List.mem_cons,not_or]at h
  have:=he k q.1
  rw[decide_eq_false h.1]at this
  exact .inr ⟨this,_,ZsK k z L h.2,rfl⟩
theorem ZsL(k:κ)(z:ν):∀L:List (κ×ν),(k,z)∈L->(L.map (·.1)).Nodup->MapFind P K (f k) (Zyi f g L) (some (g z))
 | [],h,_=>by cases h
 | q::L,h,hn=>by
  have h0:=he k q.1
  rw[List.map_cons,List.nodup_cons]at hn
  rcases List.mem_cons.1 h with h|h
  ·subst h
   rw[decide_eq_true rfl]at h0
   exact .inl ⟨h0,rfl⟩
  ·have:¬k=q.1:=λe=>hn.1 (by rw[<-e];exact List.mem_map.2 ⟨_,h,rfl⟩)
   rw[decide_eq_false this]at h0
   exact .inr ⟨h0,ZsL k z L h hn.2⟩
end
theorem Zrq{s t:Sc}(hs:s.light=true)(ht:t.light=true)(eV:∀x∈t.states,x∈s.states)(cR:∀x∈s.states,x∈t.states)(name:ByteArray):Zrd t name=Zrd s name:=by
 unfold Zrd
 rw[hs,ht,Bool.and_true,Bool.and_true,Bool.eq_iff_iff,List.any_eq_true,List.any_eq_true]
 exact⟨λ⟨x,h1,h2⟩=>⟨x,eV x h1,h2⟩,λ⟨x,h1,h2⟩=>⟨x,cR x h1,h2⟩⟩
structure Turn (s t:Sc):Prop where
 n:t.n=s.n
 vars:t.vars=s.vars
 len:t.states.length=s.states.length
 sub:∀x∈t.states,x∈s.states
 sup:∀x∈s.states,x∈t.states
 dif:∀(i j:Nat)(x y:Sta),t.states[i]?=some x->t.states[j]?=some y->i≠j->eqS x.s y.s=false
section
variable {s t:Sc} (h:MkC s) (hT:Turn s t)
include h hT
theorem Turn.weight:t.weight<=8200:=by
 have h1:=Zee wS 2025 t.states (λx hx=>by
  obtain⟨i,_,hm⟩:=h.state (hT.sub x hx)
  exact hm.w)
 have h2:=h.len
 have h3:=h.vlen
 unfold Sc.weight
 rw[hT.vars,hT.len]
 rw[hT.len]at h1
 omega
theorem Turn.light:t.light=true:=by unfold Sc.light;exact decide_eq_true (by have:=hT.weight h;omega)
theorem Turn.totals(i k:Nat):Rx.totals t i k<=600:=by
 have h0:=h.len
 have h1:=Zee (λx:Sta=>ZaR (x.rules.map Rx.sizeR)) 130 (t.states.take i) (λx hx=>by
  obtain⟨j,_,hm⟩:=h.state (hT.sub x (List.mem_of_mem_take hx))
  have:=hm.sizes x.rules.length
  rwa [List.take_length]at this)
 rw[List.length_take,hT.len]at h1
 unfold Rx.totals
 cases hx:t.states[i]? with
 | none=>show _+0<=_;omega
 | some x=>
  have hi:=(zA0 hx).1
  rw[hT.len]at hi
  obtain⟨j,_,hm⟩:=h.state (hT.sub x (zA2 hx))
  have:=hm.sizes (k+1)
  show _+ZaR ((x.rules.take (k+1)).map Rx.sizeR)<=_
  omega
theorem Turn.at0:∀p∈t.places,atS t p=0:=by
 intro p hp
 have hP:∀{r:Ru} {a:Ac},MkA (Zde r) a->∀{n:Nat} {q:Pt},a.parts[n]?=some q->Zlm t r a.parts n q=0:=λ{r a} ha {n q} hq=>by
  have e:Zlm t r a.parts n q=Zlm s r a.parts n q:=by unfold Zlm Zg7 Zdm Zg7;rw[hT.vars]
  rw[e]
  cases ha with
  | send _ _ l hl=>exact h.part hl hq
  | set _ _ _ _ l hl=>exact h.part hl hq
  | let_ _ _ e _=>simp at hq
 rcases ZmM t p hp with⟨i,hi,v,hv⟩|⟨hv,hs|⟨i,hi,x,hx,hr|⟨k,hk,r,hr,ha|⟨j,hj,a,ha,hq|⟨n,hn,q,hq⟩⟩⟩⟩⟩
 ·have e:atS t p=ZcF t i v:=by
   unfold atS
   rw[if_pos (by omega),show p.v.toNat=i by omega,hv]
  have e2:ZcF t i v=ZcF s i v:=by unfold ZcF;rw[hT.vars]
  rw[e,e2];exact h.var (by rw[<-hT.vars];exact hv)
 all_goals have hv':¬p.v ≥ 0:=by omega
 ·unfold atS
  rw[if_neg hv',if_pos hs]
  have e:ZmJ t=ZmJ s:=by unfold ZmJ;rw[hT.n,hT.len,hT.vars]
  rw[e];exact h.whole
 all_goals
  have hs':¬p.s < 0:=by omega
  have kw:p.s.toNat=i:=by omega
  obtain⟨i0,mD,hm⟩:=h.state (hT.sub x (zA2 ‹t.states[i]?=some x›))
 ·have e:atS t p=ZmK t i x:=by
   unfold atS
   rw[if_neg hv',if_neg hs',kw,hx]
   exact if_pos hr
  rw[e]
  have h1:ZfB x.s=true:=ZsD _ (zA2 hm.name)
  have h2:decide (x.rules.length > 12)=false:=decide_eq_false (by have:=hm.len;omega)
  have h3:((t.states.take i).any λy=>eqS y.s x.s)=false:=by
   rw[List.any_eq_false]
   intro y hy
   obtain⟨j,hj⟩:=List.getElem?_of_mem hy
   have jb:j < i:=by have:=(zA0 hj).1;rw[List.length_take]at this;omega
   rw[List.getElem?_take_of_lt jb]at hj
   rw[hT.dif j i y x hj hx (by omega)];simp
  simp[ZmK,Zcr,h1,h2,h3]
 all_goals
  have hr':¬p.r < 0:=by omega
  have ib:p.r.toNat=k:=by omega
  have hR:=hm.all r (zA2 hr)
 ·have e:atS t p=Zpz t r (Rx.totals t i k):=by
   unfold atS
   rw[if_neg hv',if_neg hs',kw,hx]
   show(if p.r < 0 then _ else _)=_
   rw[if_neg hr',ib,hr]
   exact if_pos ha
  have e2:∀n,Zpz t r n=Zpz s r n:=λn=>by unfold Zpz;rw[Zrq h.light (hT.light h) hT.sub hT.sup]
  rw[e,e2];exact h.rule hR (hT.totals h i k)
 all_goals
  have ha':¬p.a < 0:=by omega
  have jR:p.a.toNat=j:=by omega
  have hA:=hR.all a (zA2 ‹r.acts[j]?=some a›)
 ·have e:atS t p=ZdO t r a:=by
   unfold atS
   rw[if_neg hv',if_neg hs',kw,hx]
   show(if p.r < 0 then _ else _)=_
   rw[if_neg hr',ib,hr]
   show(if p.a < 0 then _ else _)=_
   rw[if_neg ha',jR,‹r.acts[j]?=some a›]
   exact if_pos hq
  have e2:ZdO t r a=ZdO s r a:=by unfold ZdO Zg7 Zdm Zg7;rw[hT.vars]
  rw[e,e2];exact h.action hA
 ·have e:atS t p=Zlm t r a.parts n q:=by
   unfold atS
   rw[if_neg hv',if_neg hs',kw,hx]
   show(if p.r < 0 then _ else _)=_
   rw[if_neg hr',ib,hr]
   show(if p.a < 0 then _ else _)=_
   rw[if_neg ha',jR,‹r.acts[j]?=some a›]
   show(if p.p < 0 then _ else _)=_
   rw[if_neg (by omega),show p.p.toNat=n by omega,hq]
  rw[e];exact hP hA hq
theorem Turn.check:t.check=(top,0):=by
 have e:t.problems=[]:=by
  unfold Sc.problems
  rw[List.filterMap_eq_nil_iff]
  intro p hp
  rw[if_pos (hT.at0 h p hp)]
 unfold Sc.check
 rw[if_pos (hT.light h),e]
end
def kp(r:Ru):Bool:=decide (r.k ≥ 3)
def ZuR(x:Sta):Sta:=⟨x.s,none,0,x.rules.filter kp⟩
def ZyN(s:Sc):Sc:=⟨s.n,none,0,s.vars,none,0,s.states.map ZuR⟩
theorem MkC.bare{s:Sc}(h:MkC s):MkC (ZyN s):=by
 refine⟨h.n,h.vlen,h.vall,by show 1<=(s.states.map ZuR).length/\(s.states.map ZuR).length<=4;rw[List.length_map];exact h.len,λi x hx=>?_⟩
 have hx:(s.states.map ZuR)[i]?=some x:=hx
 rw[List.getElem?_map]at hx
 obtain⟨x0,h0,rfl⟩:=Option.map_eq_some_iff.1 hx
 have hs:=h.all i x0 h0
 refine⟨hs.name,Nat.le_trans (List.length_filter_le _ _) hs.len,λr hr=>?_⟩
 show MkR (s.states.map ZuR).length r
 rw[List.length_map]
 exact hs.all r (List.mem_filter.1 hr).1
end Go.Rx
namespace Go.Rx
open Go Go.Eng
def ZpQ(l:List Int):List Int:=l.mergeSort λx y=>decide (x<=y)
theorem Zm3(l:List Int):(ZpQ l).length=l.length:=List.length_mergeSort l
theorem Zrr{l:List Int}{x:Int}:x∈ZpQ l↔x∈l:=List.mem_mergeSort
theorem Zgh(l:List Int):(ZpQ l).Pairwise (·<=·):=
 (List.pairwise_mergeSort (le:=λx y:Int=>decide (x<=y)) (λa b c h1 h2=>by simp at h1 h2 ⊢;omega) (λa b=>by simp;omega) l).imp λh=>zA6 h
def ZsM(l:List Int):List Int:=Go.Lib.compact (ZpQ l)
theorem Zef{zs:List Int}(h:zs.Pairwise (·<=·)):∀m,m<=zs.length->(Go.Lib.compactUpTo zs.toArray m).Pairwise (· < ·)/\∀x,x∈Go.Lib.compactUpTo zs.toArray m↔x∈zs.take m
 | 0,_=>by simp[Go.Lib.compactUpTo]
 | m+1,hm=>by
  obtain⟨h1,h2⟩:=Zef h m (by omega)
  have aC:m < zs.length:=hm
  have em:zs.toArray[m]! = zs[m]:=by rw[getElem!_pos _ m (by simpa using aC)];simp
  have cH:∀x,x∈zs.take (m+1)↔x∈zs.take m\/x=zs[m]:=λx=>by
   rw[List.take_add_one,zA3 aC,List.mem_append];simp
  have bU:∀x∈zs.take m,∀k,m<=k+1->(hk:k < zs.length)->k < m->x<=zs[k]:=λx hx k iP hk i6=>by
   obtain⟨i,hi,rfl⟩:=List.mem_iff_getElem.1 hx
   rw[List.length_take]at hi
   rw[List.getElem_take]
   by_cases e:i=k
   ·subst e;exact Int.le_refl _
   ·exact List.pairwise_iff_getElem.1 h i k (by omega) hk (by omega)
  rw[Go.Lib.compactUpTo_succ]
  cases hk:Go.Lib.keeps zs.toArray m with
  | true=>
   rw[if_pos rfl,em]
   refine⟨List.pairwise_append.2 ⟨h1,List.pairwise_singleton _ _,λx hx y hy=>?_⟩,λx=>?_⟩
   ·rw[List.mem_singleton]at hy;subst hy
    have hx:=(h2 x).1 hx
    have h0:0 < m:=by
     cases m with
     | zero=>simp at hx
     | succ m=>omega
    have cS:zs.toArray[m]!≠zs.toArray[m - 1]!:=by
     unfold Go.Lib.keeps at hk
     have:=zA6 hk
     rcases this with h|h
     ·omega
     ·exact h
    rw[em,getElem!_pos _ (m - 1) (by simp;omega)]at cS
    simp only[List.getElem_toArray]at cS
    have h3:=bU x hx (m - 1) (by omega) (by omega) (by omega)
    have h4:=List.pairwise_iff_getElem.1 h (m - 1) m (by omega) aC (by omega)
    omega
   ·rw[List.mem_append,h2,cH,List.mem_singleton]
  | false=>
   rw[if_neg (by decide),List.append_nil]
   refine⟨h1,λx=>?_⟩
   rw[h2,cH]
   refine⟨.inl,λhx=>hx.elim id λe=>?_⟩
   unfold Go.Lib.keeps at hk
   have hk:=of_decide_eq_false hk
   have eD:m≠0:=λe=>hk (.inl e)
   have he:zs.toArray[m]! = zs.toArray[m - 1]!:=Classical.byContradiction λe=>hk (.inr e)
   rw[em,getElem!_pos _ (m - 1) (by simp;omega)]at he
   simp only[List.getElem_toArray]at he
   rw[e,he]
   exact List.mem_iff_getElem.2 ⟨m - 1,by rw[List.length_take];omega,by rw[List.getElem_take]⟩
theorem ZvK(l:List Int):(ZsM l).Pairwise (· < ·):=(Zef (Zgh l) _ (Nat.le_refl _)).1
theorem ZtN{l:List Int}{x:Int}:x∈ZsM l↔x∈l:=by
 have:=(Zef (Zgh l) _ (Nat.le_refl _)).2 x
 rw[List.take_length,Zrr]at this
 exact this
theorem Zxu{l r:List Int}(hl:l.Pairwise (· < ·))(hr:r.Pairwise (· < ·))(h:∀x,x∈l↔x∈r):l=r:=by
 have p:l.Perm r:=(List.perm_ext_iff_of_nodup (hl.imp λh=>by omega) (hr.imp λh=>by omega)).2 h
 exact p.eq_of_pairwise (le:=λx y:Int=>x < y) (λa b _ _ h1 h2=>by omega) hl hr
theorem Zm4{l:List Int}(h:l.Pairwise (· < ·)):ZsM l=l:=Zxu (ZvK l) h λx=>ZtN
def Zxv(L:List (ByteArray×Nat))(n:ByteArray):Bool:=L.any λq=>decide (q.1=n)
theorem Zfs{L:List (ByteArray×Nat)}{n:ByteArray}:Zxv L n=true↔n∈L.map (·.1):=by
 unfold Zxv
 rw[List.any_eq_true,List.mem_map]
 exact⟨λ⟨q,h1,h2⟩=>⟨q,h1,zA6 h2⟩,λ⟨q,h1,h2⟩=>⟨q,h1,decide_eq_true h2⟩⟩
def ZcI(L:List Sta):Nat->List (ByteArray×Nat)
 | 0=>[]
 | i+1=>match L[i]? with
  | some x=>if Zxv (ZcI L i) x.s then ZcI L i else ZcI L i++[(x.s,i)]
  | none=>ZcI L i
theorem Zrs{L:List Sta}{i:Nat}{x:Sta}(h:L[i]?=some x):ZcI L (i+1)=if Zxv (ZcI L i) x.s then ZcI L i else ZcI L i++[(x.s,i)]:=by
 rw[ZcI,h]
theorem Zj1(L:List Sta):∀i,((ZcI L i).map (·.1)).Nodup
 | 0=>List.nodup_nil
 | i+1=>by
  have ih:=Zj1 L i
  rw[ZcI]
  split
  ·split
   ·exact ih
   ·rename_i h
    rw[Zfs]at h
    rw[List.map_append,List.nodup_append]
    refine⟨ih,by simp,λa ha b hb e=>h ?_⟩
    simp at hb;subst hb;subst e;exact ha
  ·exact ih
theorem ZpR(L:List Sta)(n:ByteArray):∀i,n∈(ZcI L i).map (·.1)↔∃j x,j < i/\L[j]?=some x/\x.s=n
 | 0=>by simp[ZcI]
 | i+1=>by
  have ih:=ZpR L n i
  have more:(∃j x,j < i+1/\L[j]?=some x/\x.s=n)↔(∃j x,j < i/\L[j]?=some x/\x.s=n)\/∃x,L[i]?=some x/\x.s=n:=by
   constructor
   ·rintro⟨j,x,h1,h2,h3⟩
    by_cases e:j=i
    ·subst e;exact .inr ⟨x,h2,h3⟩
    ·exact .inl ⟨j,x,by omega,h2,h3⟩
   ·rintro(⟨j,x,h1,h2,h3⟩|⟨x,h2,h3⟩)
    ·exact⟨j,x,by omega,h2,h3⟩
    ·exact⟨i,x,by omega,h2,h3⟩
  rw[more,<-ih,ZcI]
  cases hx:L[i]? with
  | none=>simp
  | some x=>
   simp only[Option.some.injEq,exists_eq_left']
   split
   ·rename_i h
    rw[Zfs]at h
    exact⟨.inl,λk=>k.elim id λe=>e ▸ h⟩
   ·rw[List.map_append,List.mem_append]
    simp[eq_comm]
theorem ZpS(L:List Sta)(n:ByteArray)(k:Nat):∀i,(n,k)∈ZcI L i↔k < i/\(∃x,L[k]?=some x/\x.s=n)/\∀j y,j < k->L[j]?=some y->y.s≠n
 | 0=>by simp[ZcI]
 | i+1=>by
  have ih:=ZpS L n k i
  have hk:=ZpR L n i
  rw[ZcI]
  cases hx:L[i]? with
  | none=>
   simp only
   rw[ih]
   refine⟨λh=>⟨by omega,h.2⟩,λ⟨h1,⟨x,h2,h3⟩,h4⟩=>⟨?_,⟨x,h2,h3⟩,h4⟩⟩
   by_cases e:k=i
   ·subst e;rw[hx]at h2;cases h2
   ·omega
  | some x=>
   simp only
   split
   ·rename_i eV
    rw[Zfs]at eV
    rw[ih]
    refine⟨λh=>⟨by omega,h.2⟩,λ⟨h1,⟨y,h2,h3⟩,h4⟩=>⟨?_,⟨y,h2,h3⟩,h4⟩⟩
    by_cases e:k=i
    ·subst e
     rw[hx]at h2;cases h2
     subst h3
     obtain⟨j,z,g1,g2,g3⟩:=hk.1 eV
     exact absurd g3 (h4 j z g1 g2)
    ·omega
   ·rename_i eV
    rw[Zfs]at eV
    rw[List.mem_append,ih,List.mem_singleton,Prod.mk.injEq]
    constructor
    ·rintro(h|⟨rfl,rfl⟩)
     ·exact⟨by omega,h.2⟩
     ·refine⟨by omega,⟨x,hx,rfl⟩,λj y h1 h2 h3=>eV (hk.2 ⟨j,y,h1,h2,h3⟩)⟩
    ·rintro⟨h1,⟨y,h2,h3⟩,h4⟩
     by_cases e:k=i
     ·subst e
      rw[hx]at h2;cases h2
      exact .inr ⟨h3.symm,rfl⟩
     ·exact .inl ⟨by omega,⟨y,h2,h3⟩,h4⟩
def goI(L:List Sta)(n:ByteArray):Option Nat:=L.findIdx? λx=>decide (x.s=n)
theorem ZlE{L:List Sta}{n:ByteArray}{k:Nat}:goI L n=some k↔(n,k)∈ZcI L L.length:=by
 rw[ZpS,goI,List.findIdx?_eq_some_iff_getElem]
 constructor
 ·rintro⟨h,h1,h2⟩
  refine⟨h,⟨L[k],zA3 h,zA6 h1⟩,λj y hj hy e=>?_⟩
  obtain⟨g1,g2⟩:=zA0 hy
  have:=h2 j hj
  rw[g2]at this
  simp[e]at this
 ·rintro⟨h,⟨x,h1,h2⟩,h3⟩
  refine⟨h,?_,λj hj=>?_⟩
  ·rw[(zA0 h1).2];exact decide_eq_true h2
  ·have:=h3 j L[j] hj (zA3 (by omega))
   simpa using this
theorem Zxw{L:List Sta}{n:ByteArray}{k:Nat}(h:goI L n=some k):k < L.length:=((ZpS L n k _).1 (ZlE.1 h)).1
def ZwD(L:List Sta)(r:Ru):Option Int:=if r.go.size=0 then none else(goI L r.go).map λk:Nat=>(k:Int)
def ZkF(L:List Sta)(l:List Ru):List Int:=l.filterMap (ZwD L)
theorem ZtO{L:List Sta}{l:List Ru}{i:Nat}{r:Ru}(h:l[i]?=some r):ZkF L (l.take (i+1))=ZkF L (l.take i)++(ZwD L r).toList:=by
 unfold ZkF
 rw[List.take_add_one,h,List.filterMap_append]
 congr 1
theorem ZvL(L:List Sta)(l:List Ru):(ZkF L l).length<=l.length:=List.length_filterMap_le _ _
def ZwE(L:List Sta)(x:Sta):List Int:=ZsM (ZkF L x.rules)
end Go.Rx
namespace Go.Rx
open Go Go.Eng Go.RowKit
end Go.Rx
namespace Go.Rx
open Go Go.Eng
def ZcO(out:List ByteArray)(n:ByteArray):List ByteArray:=if out.any (λy=>eqS n y)then out else out++[n]
def Zcs(out:List ByteArray)(p:Pt):List ByteArray:=if p.k=2 then ZcO out p.s else if p.k=4 then p.e.vars.foldl ZcO out else out
def Zb8(out:List ByteArray)(a:Ac):List ByteArray:=if a.k=3 then a.e.vars.foldl ZcO out else out
def Zev(w:Bool)(out:List ByteArray)(a:Ac):List ByteArray:=if w then(if a.k=2\/a.k=3 then ZcO out a.s else out)else a.parts.foldl Zcs (Zb8 out a)
def ZaX(w:Bool)(r:Ru):List ByteArray:=if ZbU r then r.acts.foldl (Zev w) []else[]
theorem ZeT{α β:Type}(f:β->α->β)(b:β){l:List α}{i:Nat}{x:α}(h:l[i]?=some x):(l.take (i+1)).foldl f b=f ((l.take i).foldl f b) x:=by
 rw[List.take_add_one,h,List.foldl_append];rfl
theorem ZlF(out:List ByteArray)(n:ByteArray):out.length<=(ZcO out n).length/\(ZcO out n).length<=out.length+1:=by
 unfold ZcO;split <;> simp
theorem ZtP{out:List ByteArray}{n:ByteArray}(h:out.any (λy=>eqS n y)=false):ZcO out n=out++[n]:=by unfold ZcO;rw[h,if_neg (by decide)]
theorem ZtQ{out:List ByteArray}{n:ByteArray}(h:out.any (λy=>eqS n y)=true):ZcO out n=out:=by unfold ZcO;rw[h,if_pos rfl]
theorem ZsN{α:Type}{f:List ByteArray->α->List ByteArray}{w:α->Nat}(h:∀o x,o.length<=(f o x).length/\(f o x).length<=o.length+w x):∀(l:List α)(o:List ByteArray),o.length<=(l.foldl f o).length/\(l.foldl f o).length<=o.length+(l.map w).sum
 | [],o=>by simp
 | x::l,o=>by
  have h1:=h o x
  have h2:=ZsN h l (f o x)
  simp only[List.foldl_cons,List.map_cons,List.sum_cons];omega
theorem ZlG(l:List ByteArray)(o:List ByteArray):o.length<=(l.foldl ZcO o).length/\(l.foldl ZcO o).length<=o.length+l.length:=by
 have:=ZsN (f:=ZcO) (w:=λ_=>1) ZlF l o
 rwa [List.map_const',List.sum_replicate_nat,Nat.mul_one]at this
theorem ZpT(e:E):e.vars.length<=10000:=by
 unfold E.vars
 split
 ·rename_i h
  have h2:=ZdN e []
  have h3:=zA6 (show decide (e.nodes.length<=10000)=true from h)
  simp only[List.length_nil]at h2
  omega
 ·simp
theorem ZsO(e:E):(e.vars.length:Int)<=nE e:=by
 unfold E.vars nE E.size
 cases h:e.light with
 | false=>simp
 | true=>
  have h2:=ZdN e []
  simp only[List.length_nil]at h2
  simp;omega
theorem ZgW{α:Type}{f:List ByteArray->α->List ByteArray}{w:α->Int}(h:∀o x,((f o x).length:Int)<=o.length+w x):∀(l:List α)(o:List ByteArray),((l.foldl f o).length:Int)<=o.length+ZaR (l.map w)
 | [],o=>by simp[ZaR]
 | x::l,o=>by
  have h1:=h o x
  have h2:=ZgW h l (f o x)
  simp only[List.foldl_cons,List.map_cons,ZaR];omega
theorem ZoF(o:List ByteArray)(p:Pt):((Zcs o p).length:Int)<=o.length+(1+nE p.e):=by
 have h0:=(Zg6 p.e).1
 have h1:=ZsO p.e
 have h2:=ZlF o p.s
 have h3:=ZlG p.e.vars o
 unfold Zcs
 split
 ·omega
 ·split <;> omega
theorem ZoG(o:List ByteArray)(a:Ac):((Zb8 o a).length:Int)<=o.length+nE a.e:=by
 have h0:=(Zg6 a.e).1
 have h1:=ZsO a.e
 have h3:=ZlG a.e.vars o
 unfold Zb8
 split <;> omega
theorem ZvM(l:List Pt):ZaR (l.map λp=>1+nE p.e)=l.length+ZaR (l.map λp=>nE p.e):=by
 induction l with
 | nil=>rfl
 | cons p l ih=>simp only[List.map_cons,ZaR,List.length_cons,ih];omega
theorem ZgX(o:List ByteArray)(a:Ac)(j:Nat):(((a.parts.take j).foldl Zcs (Zb8 o a)).length:Int)<=o.length+wA a:=by
 have h1:=ZgW ZoF (a.parts.take j) (Zb8 o a)
 have h2:=ZoG o a
 have h3:=Zfp (λp:Pt=>1+nE p.e) (λp=>by have:=(Zg6 p.e).1;omega) a.parts j
 have h4:=ZvM a.parts
 unfold wA
 omega
theorem ZiF(w:Bool)(o:List ByteArray)(a:Ac):((Zev w o a).length:Int)<=o.length+wA a:=by
 have h1:=ZgX o a a.parts.length
 rw[List.take_length]at h1
 have h2:=ZlF o a.s
 have h3:=(Zg6 a.e).1
 have h4:=ZfA (λp:Pt=>nE p.e) (λp=>(Zg6 p.e).1) a.parts
 have h5:1<=wA a:=by unfold wA;omega
 unfold Zev
 cases w with
 | true=>rw[if_pos rfl];split <;> omega
 | false=>rw[if_neg (by decide)];omega
theorem ZvN(w:Bool){r:Ru}(h:ZbU r=true)(q:Nat){a:Ac}(ha:r.acts[q]?=some a):(((r.acts.take q).foldl (Zev w) []).length:Int)+wA a<=20000:=by
 have h1:=ZgW (ZiF w) (r.acts.take q) []
 have h2:=Zfp wA Zrb r.acts (q+1)
 rw[Zfo wA ha]at h2
 have h3:=zA6 (show decide (wR r<=19999)=true from h)
 have h4:=(ZjU r.t).1
 have h5:0<=ZhR r.t.size 20000:=by unfold ZhR;split <;> omega
 unfold wR at h3
 simp only[List.length_nil]at h1
 split at h3 <;> omega
def mxI(n g:Int):Int:=if g > n then g else n
def ZiG(n:Int)(p:Pt):Int:=if p.k=3 then mxI n p.g else if p.k=4 then mxI n p.e.most else n
def Zrt(n:Int)(a:Ac):Int:=a.parts.foldl ZiG (if a.k=3 then mxI n a.e.most else n)
def Zgi(r:Ru):Int:=if ZbU r then r.acts.foldl Zrt (-1)else 0
end Go.Rx
namespace Go.Rx
open Go
variable {P:Program}
theorem Zgj{n:Nat}(w:World)(t e ty:TypeId)(z:Value)(ht:P.underlying t=some (.slice e))(hv:∀w,(zeroValue e).run P w=.ok z w)(h1:∀u∈(Builtin.zeroCells z.cells n).toList,u.oneCell'=true)(b o c:Nat)(hn:0 < n)
  (hc:∀j,j < (Builtin.zeroCells z.cells n).toList.length->(w.cell? ⟨b,o+j,none⟩).isSome=true) (hf:∀j,j < (Builtin.zeroCells z.cells n).toList.length->w.frozen? ⟨b,o+j,none⟩=false):
  (Builtin.clear_ #[t] ty #[.slice (some ⟨b,o,none⟩) n c]).run P w=.ok (.tuple #[]) (w.setCells b o (Builtin.zeroCells z.cells n).toList):=by
 have cA:=run_storeCells_cells (P:=P) b o (Builtin.zeroCells z.cells n).toList 0 w (by simpa using hc) (by simpa using hf) h1
 simp only[Nat.add_zero]at cA
 obtain⟨m,rfl⟩:∃m,n=m+1:=⟨n - 1,by omega⟩
 simp[Builtin.clear_,run_underlying ht,hv,cA]
end Go.Rx
namespace Go.Rx
open Go Go.Proofs Go.Shelf Go.RowKit Go.Lib Go.Sort
set_option maxHeartbeats 4000000
set_option maxRecDepth 1000000
structure DelLay (P:Program)(ρ:Ren)(k:Nat)(z:Value):Prop where
 mixed:P.follows .mixedOrders=true
 f45:Bears P (ρ.f 45) (SlBodyN.n45 ρ)
 t0:P.underlying (ρ.t 0)=some (TypeDesc.tuple #[])
 a0:∀w,(Go.isAgg (ρ.t 0)).run P w=.ok false w
 z0:∀w,(Go.sizeOf (ρ.t 0)).run P w=.ok 1 w
 v0:∀w,(zeroValue (ρ.t 0)).run P w=.ok (Value.tuple #[]) w
 t3:P.underlying (ρ.t 3)=some (TypeDesc.int IntKind.i64)
 a3:∀w,(Go.isAgg (ρ.t 3)).run P w=.ok false w
 z3:∀w,(Go.sizeOf (ρ.t 3)).run P w=.ok 1 w
 v3:∀w,(zeroValue (ρ.t 3)).run P w=.ok (Value.int IntKind.i64 0) w
 t4:P.underlying (ρ.t 4)=some (TypeDesc.bool)
 a4:∀w,(Go.isAgg (ρ.t 4)).run P w=.ok false w
 z4:∀w,(Go.sizeOf (ρ.t 4)).run P w=.ok 1 w
 v4:∀w,(zeroValue (ρ.t 4)).run P w=.ok (Value.bool false) w
 t22:P.underlying (ρ.t 22)=some (TypeDesc.slice (ρ.t 23))
 a22:∀w,(Go.isAgg (ρ.t 22)).run P w=.ok false w
 z22:∀w,(Go.sizeOf (ρ.t 22)).run P w=.ok 1 w
 v22:∀w,(zeroValue (ρ.t 22)).run P w=.ok (Value.slice none 0 0) w
 z23:∀w,(Go.sizeOf (ρ.t 23)).run P w=.ok k w
 v23:∀w,(zeroValue (ρ.t 23)).run P w=.ok z w
theorem ZkG{P:Program}{ρ:Ren}{k:Nat}{z:Value}(L:DelLay P ρ k z)(i0:TypeInfo)(mD:P.info? (ρ.t 23)=some i0)(mE:i0.size=k)(hk:z.cells.size=k)
  (blk off n cap i j:Nat) (cs:List Value) (w:World) (aH:cs.length=n*k) (hH:∀(q:Nat)(u:Value),cs[q]?=some u->w.cell? ⟨blk,off+q,none⟩=some u/\w.frozen? ⟨blk,off+q,none⟩=false) (h1:∀u∈cs,u.oneCell'=true)
  (hz:∀m,∀u∈(Builtin.zeroCells z.cells m).toList,u.oneCell'=true)
  (cO:n<=cap) (hm:n<=9223372036854775807) (pY:i < j) (hj:j<=n):
  Calls P (ρ.f 45) #[.slice (some ⟨blk,off,none⟩) n cap,.int .i64 i,.int .i64 j] w λe w'=>e=.returned (.slice (some ⟨blk,off,none⟩) (n - (j - i)) cap)/\
   w'=(w.drew.setCells blk (off+i*k) (cs.drop (j*k))).setCells blk (off+(n - (j - i))*k) (Builtin.zeroCells z.cells (j - i)).toList:=by
 have mixed:=L.mixed;have t0:=L.t0;have a0:=L.a0;have z0:=L.z0;have v0:=L.v0;have t3:=L.t3;have a3:=L.a3;have z3:=L.z3;have v3:=L.v3;have t4:=L.t4;have a4:=L.a4;have z4:=L.z4;have v4:=L.v4;have t22:=L.t22;have a22:=L.a22;have z22:=L.z22;have v22:=L.v22;have z23:=L.z23
 obtain⟨Z,hZ⟩:∃Z,(Builtin.zeroCells z.cells (j - i)).toList=Z:=⟨_,rfl⟩
 rw[hZ]
 obtain⟨news,eQ⟩:∃news,news=cs.drop (j*k):=⟨_,rfl⟩
 have ma:news.length=(n - j)*k:=by rw[eQ,List.length_drop,aH,Nat.sub_mul]
 obtain⟨A,hA,rI⟩:∃A:Addr,(if cap=j then some (⟨blk,off,none⟩:Addr)else some ⟨blk,off+j*k,none⟩)=some A/\Hid (∀t u,news[t]?=some u->w.drew.cell? (A.add t)=some u):=by
  by_cases h:cap=j
  ·refine⟨⟨blk,off,none⟩,by simp[h],λt u hu=>?_⟩
   have h0:news.length=0:=by rw[ma,show n - j=0 by omega,Nat.zero_mul]
   rw[List.length_eq_zero_iff.1 h0]at hu
   simp at hu
  ·refine⟨⟨blk,off+j*k,none⟩,by simp[h],λt u hu=>?_⟩
   rw[eQ,List.getElem?_drop]at hu
   rw[Addr.add_lit,Nat.add_assoc]
   exact(hH _ _ hu).1
 have s2:Hid (∀u∈news,u.oneCell'=true):=λu hu=>h1 u (by rw[eQ]at hu;exact List.mem_of_mem_drop hu)
 have mF:(i+(n - j))*k=i*k+(n - j)*k:=Nat.add_mul _ _ _
 have bU:(i+(n - j))*k<=n*k:=Nat.mul_le_mul_right _ (by omega)
 have s3:Hid (∀t,t < news.length->(w.drew.cell? ⟨blk,off+i*k+t,none⟩).isSome=true/\w.drew.frozen? ⟨blk,off+i*k+t,none⟩=false):=by
  intro t ht
  rw[ma]at ht
  have hb:i*k+t < cs.length:=by rw[aH];omega
  have h:=hH (i*k+t) cs[i*k+t] (zA3 hb)
  rw[<-Nat.add_assoc]at h
  exact⟨by show(w.cell? _).isSome=true;rw[h.1];rfl,h.2⟩
 have s1:Hid (news.length=(n - j)*k):=ma
 obtain⟨W1,p6⟩:∃W1,W1=w.drew.setCells blk (off+i*k) news:=⟨_,rfl⟩
 have hW:Hid (W1=w.drew.setCells blk (off+i*k) news):=p6
 have xo:i<=cap:=by omega
 have xp:j<=cap:=by omega
 have fh:∀ty,(Builtin.clear_ #[ρ.t 22] ty #[.slice (some ⟨blk,off+(i+(n - j))*k,none⟩) (n - (i+(n - j))) (cap - (i+(n - j)))]).run P W1=.ok (.tuple #[]) (W1.setCells blk (off+(i+(n - j))*k) Z):=by
  intro ty
  have hT:∀t,t < (Builtin.zeroCells z.cells (n - (i+(n - j)))).toList.length->(w.drew.cell? ⟨blk,off+((i+(n - j))*k+t),none⟩).isSome=true/\w.drew.frozen? ⟨blk,off+((i+(n - j))*k+t),none⟩=false:=by
   intro t ht
   have hl:(Builtin.zeroCells z.cells (n - (i+(n - j)))).toList.length=(n - (i+(n - j)))*k:=by simp[Builtin.zeroCells,hk,Nat.mul_comm]
   rw[hl,Nat.sub_mul]at ht
   have hb:(i+(n - j))*k+t < cs.length:=by rw[aH];omega
   have h:=hH _ _ (zA3 hb)
   exact⟨by show(w.cell? _).isSome=true;rw[h.1];rfl,h.2⟩
  rw[<-hZ,show j - i=n - (i+(n - j)) by omega]
  exact Zgj W1 _ _ ty z t22 L.v23 (hz _) blk _ _ (by omega) (λt ht=>by rw[p6];exact World.isSome_setCells _ _ _ _ _ (by rw[Nat.add_assoc];exact(hT t ht).1)) (λt ht=>by rw[p6,World.frozen?_setCells,Nat.add_assoc];exact(hT t ht).2)
 have hN:Hid (news=cs.drop (j*k)):=eQ
 clear p6 mF bU eQ ma hZ hz hk
 obtain⟨_,_,FG⟩:=L.f45
 go_enter FG,SlBodyN.n45_ntmps ρ
 go_wp2_with fail
 go_region_law_o (refine step_append_room rfl (.tmp 22) (.tmp 25) (ρ.t 22) rfl (ρ.t 23) i0 k t22 mD mE blk off i cap (by simp[Act.eval,Act.put]) A (n - j) (cap - j) news (by simp[Act.eval,Act.put]) s1.out rI.out s2.out (by omega) s3.out ?_;rw[<-hW.out])
 go_wp2
 go_ret
 refine⟨by rw[show n - (j - i)=i+(n - j) by omega];rfl,?_⟩
 rw[hW.out,hN.out,show n - (j - i)=i+(n - j) by omega]
end Go.Rx
namespace Go.Rx
open Go Go.Eng Go.RowKit Go.Shelf
theorem Zft(b:Nat):∀(vs:List Value)(o:Nat)(w:World),(w.setCells b o vs).os=w.os/\(w.setCells b o vs).tape=w.tape/\(w.setCells b o vs).output=w.output/\(w.setCells b o vs).heap.size=w.heap.size
 | [],_,_=>⟨rfl,rfl,rfl,rfl⟩
 | v::r,o,w=>by
  obtain⟨h1,h2,h3,h4⟩:=Zft b r (o+1) (w.setCell ⟨b,o,none⟩ v)
  exact⟨h1,h2,h3,h4.trans (by simp[World.setCell])⟩
theorem Zct(b:Nat){k:Nat}(hk:k≠b):∀(vs:List Value)(o:Nat)(w:World),(w.setCells b o vs).heap[k]?=w.heap[k]?
 | [],_,_=>rfl
 | v::r,o,w=>by
  rw[World.setCells,Zct b hk r (o+1)]
  simp[World.setCell,Array.getElem?_modify,Ne.symm hk]
theorem ZdS(b:Nat):∀(vs:List Value)(o:Nat)(w:World){c:Array Value}{T:TypeId}{fr:Nat×Nat},w.heap[b]?=some (.cells c T fr)->∃c':Array Value,(w.setCells b o vs).heap[b]?=some (.cells c' T fr)/\c'.size=c.size
 | [],_,_,c,_,_,h=>⟨c,h,rfl⟩
 | v::r,o,w,c,T,fr,h=>by
  have h1:(w.setCell ⟨b,o,none⟩ v).heap[b]?=some (.cells (c.setIfInBounds o v) T fr):=by
   simp[World.setCell,Array.getElem?_modify,h]
  obtain⟨c',h2,h3⟩:=ZdS b r (o+1) (w.setCell ⟨b,o,none⟩ v) h1
  exact⟨c',h2,by rw[h3];simp⟩
theorem Zgk(b o:Nat)(vs:List Value)(w:World){c:Array Value}{T:TypeId}{fr:Nat×Nat}(h:w.heap[b]?=some (.cells c T fr)):Upd (λk=>k=b) w (w.setCells b o vs):=by
 obtain⟨h1,h2,h3,h4⟩:=Zft b vs o w
 refine⟨h1,h2,h3,by omega,λk _ hk=>Zct b hk vs o w,λk hk hw=>?_⟩
 by_cases e:k=b
 ·subst e
  obtain⟨c',h5,h6⟩:=ZdS k vs o w h
  intro c2 T2 fr2 hh q hq
  rw[h5]at hh
  simp only[Option.some.injEq,Obj.cells.injEq]at hh
  obtain⟨rfl,rfl,rfl⟩:=hh
  exact hw c T fr h q (by omega)
 ·exact hw.of_eq (Zct b e vs o w)
theorem Upd.tr{M:Nat->Prop}{a b c:World}(h:Upd M a b)(k:Upd M b c):Upd M a c:=
 ⟨k.os.trans h.os,k.tape.trans h.tape,k.output.trans h.output,Nat.le_trans h.size k.size,λq hq hm=>(k.block q (Nat.lt_of_lt_of_le hq h.size) hm).trans (h.block q hq hm),λq hq hw=>k.wr q (Nat.lt_of_lt_of_le hq h.size) (h.wr q hq hw)⟩
theorem Zj2{α:Type}{cs:α->List Value}{n:Nat}(hn:∀x,(cs x).length=n):∀(l:List α)(i:Nat),((l.eraseIdx i).map cs).flatten=(l.map cs).flatten.take (i*n)++(l.map cs).flatten.drop ((i+1)*n)
 | [],_=>by simp
 | x::l,0=>by
  simp only[List.eraseIdx_zero,List.tail_cons,List.map_cons,List.flatten_cons,Nat.zero_mul,List.take_zero,List.nil_append,Nat.zero_add,Nat.one_mul]
  rw[<-hn x,List.drop_left]
 | x::l,i+1=>by
  have e1:(i+1)*n=(cs x).length+i*n:=by rw[hn,Nat.succ_mul];omega
  have e2:(i+1+1)*n=(cs x).length+(i+1)*n:=by rw[hn,Nat.succ_mul (i+1)];omega
  simp only[List.eraseIdx_cons_succ,List.map_cons,List.flatten_cons]
  have e3:((cs x)++(l.map cs).flatten).take ((i+1)*n)=cs x++(l.map cs).flatten.take (i*n):=by rw[e1,List.take_length_add_append]
  have e4:((cs x)++(l.map cs).flatten).drop ((i+1+1)*n)=(l.map cs).flatten.drop ((i+1)*n):=by rw[e2,List.drop_length_add_append]
  rw[Zj2 hn l i,e3,e4,List.append_assoc]
theorem Zru{P:Program}{ρ:Ren}{k:Nat}{z:Value}(L:DelLay P ρ k z)(i0:TypeInfo)(mD:P.info? (ρ.t 23)=some i0)(mE:i0.size=k)(hk:z.cells.size=k)(gZ:ZdC P (ρ.f 45))(h0:0 < k)
  (rz:(Builtin.zeroCells z.cells 1).toList=z.cells.toList) (vN:∀m,∀u∈(Builtin.zeroCells z.cells m).toList,u.oneCell'=true)
  {α:Type} {cs:α->List Value} (hn:∀x,(cs x).length=k) (h1:∀x,∀u∈cs x,u.oneCell'=true) (l:List α) (b c i:Nat) (T:TypeId) (cap:Nat) (m:Mem) (hi:i < l.length) (hc:l.length<=c) (hm:l.length<=9223372036854775807):
  CX P (ρ.f 45) #[.slice (some ⟨b,0,none⟩) l.length c,.int .i64 i,.int .i64 (i+1:Nat)] m [⟨b,(l.map cs).flatten,T,cap,false,false⟩] (λv m' css=>v=.slice (some ⟨b,0,none⟩) (l.length - 1) c/\css=[((l.eraseIdx i).map cs).flatten++z.cells.toList]):=by
 refine⟨gZ,λw hs hX _=>?_⟩
 obtain⟨dK,_⟩:=hX _ (List.mem_singleton.2 rfl)
 have gt:=dK.wr
 have aH:(l.map cs).flatten.length=l.length*k:=ZaQ hn l
 have j6:0 < l.length*k:=Nat.mul_pos (by omega) h0
 obtain⟨sp,fr,vO,rJ,rK⟩:=dK.cells
 obtain⟨cur,fO⟩:∃cur,cur=((l.map cs).flatten++sp).toArray:=⟨_,rfl⟩
 have hh:w.heap[b]?=some (.cells cur T fr):=by rw[fO];exact vO
 have bV:∀(q:Nat)(u:Value),(l.map cs).flatten[q]?=some u->w.cell? ⟨b,q,none⟩=some u:=λq u hu=>dK.cell hu
 have aC:∀q,q < l.length*k->q < cur.size:=λq hq=>by
  have:=bV q _ (zA3 (by omega))
  simp only[World.cell?,hh,Option.isSome_none,Bool.false_eq_true,if_false]at this
  exact(Array.getElem?_eq_some_iff.1 this).1
 have hH:∀(q:Nat)(u:Value),(l.map cs).flatten[q]?=some u->w.cell? ⟨b,0+q,none⟩=some u/\w.frozen? ⟨b,0+q,none⟩=false:=λq u hu=>by
  rw[Nat.zero_add]
  refine⟨bV q u hu,?_⟩
  have hq:=(zA0 hu).1
  have h2:=gt cur T fr hh q (aC q (by omega))
  obtain⟨f1,f2⟩:=fr
  simp only[World.frozen?,hh,Bool.and_eq_false_iff,decide_eq_false_iff_not]
  simp only at h2
  omega
 have h1':∀u∈(l.map cs).flatten,u.oneCell'=true:=λu hu=>by
  simp only[List.mem_flatten,List.mem_map]at hu
  obtain⟨_,⟨x,_,rfl⟩,hu⟩:=hu
  exact h1 x u hu
 refine(ZkG L i0 mD mE hk b 0 l.length c i (i+1) (l.map cs).flatten w aH hH h1' vN hc hm (by omega) (by omega)).mono ?_
 rintro e w' ⟨rfl,rfl⟩
 rw[show i+1 - i=1 by omega,Nat.zero_add,Nat.zero_add,rz]
 obtain⟨news,eQ⟩:∃news,news=(l.map cs).flatten.drop ((i+1)*k):=⟨_,rfl⟩
 rw[<-eQ]
 have kx:(i+1)*k<=l.length*k:=Nat.mul_le_mul_right _ (by omega)
 have vP:(i+1)*k=i*k+k:=Nat.succ_mul i k
 have ma:news.length=l.length*k - (i+1)*k:=by rw[eQ,List.length_drop,aH]
 have iz:(l.length - 1)*k+k=l.length*k:=by
  have:l.length=l.length - 1+1:=by omega
  rw[this,Nat.succ_mul];rfl
 have tM:w.drew.heap[b]?=some (.cells cur T fr):=hh
 obtain⟨c1,g1,g2⟩:=ZdS b news (i*k) w.drew tM
 obtain⟨c2,g3,g4⟩:=ZdS b z.cells.toList ((l.length - 1)*k) (w.drew.setCells b (i*k) news) g1
 have jQ:Upd (λq=>q=b) w w.drew:=⟨rfl,rfl,rfl,Nat.le_refl _,λ_ _ _=>rfl,λ_ _ h=>h⟩
 have hU:=Upd.tr (Upd.tr jQ (Zgk b (i*k) news w.drew tM)) (Zgk b ((l.length - 1)*k) z.cells.toList _ g1)
 have gE:z.cells.toList.length=k:=by simpa using hk
 have dW:(((l.eraseIdx i).map cs).flatten++z.cells.toList).length=l.length*k:=by
  rw[zA1,gE,ZaQ hn,List.length_eraseIdx,if_pos hi];exact iz
 have some1:∀q,q < cur.size->(w.drew.cell? ⟨b,q,none⟩).isSome=true:=λq hq=>by
  show(w.cell? ⟨b,q,none⟩).isSome=true
  simp[World.cell?,hh,hq]
 have some2:∀q,q < cur.size->((w.drew.setCells b (i*k) news).cell? ⟨b,q,none⟩).isSome=true:=λq hq=>by
  simp[World.cell?,g1,g2,hq]
 have at_:∀q,((w.drew.setCells b (i*k) news).setCells b ((l.length - 1)*k) z.cells.toList).cell? ⟨b,q,none⟩=if q < l.length*k then(((l.eraseIdx i).map cs).flatten++z.cells.toList)[q]? else w.cell? ⟨b,q,none⟩:=λq=>by
  have tN:((l.eraseIdx i).map cs).flatten.length=(l.length - 1)*k:=by rw[ZaQ hn,List.length_eraseIdx,if_pos hi]
  by_cases hq:q < l.length*k
  ·rw[if_pos hq]
   by_cases nP:(l.length - 1)*k<=q
   ·have:=World.cell?_setCells_in b z.cells.toList ((l.length - 1)*k) (w.drew.setCells b (i*k) news) (λj hj=>some2 _ (aC _ (by omega))) (q - (l.length - 1)*k) (by omega)
    rw[show(l.length - 1)*k+(q - (l.length - 1)*k)=q by omega]at this
    rw[this,zA4 (by omega),tN]
    exact(zA3 _).symm
   ·rw[World.cell?_setCells_out b _ _ _ _ (λ_ _=>.inl (by show q < _;omega)),zA5 (by omega),Zj2 hn]
    by_cases pN:i*k<=q
    ·have:=World.cell?_setCells_in b news (i*k) w.drew (λj hj=>some1 _ (aC _ (by omega))) (q - i*k) (by omega)
     rw[show i*k+(q - i*k)=q by omega]at this
     have gv:((l.map cs).flatten.take (i*k)).length=i*k:=by rw[List.length_take,aH];omega
     rw[this,zA4 (by omega),gv,<-eQ]
     exact(zA3 _).symm
    ·have gv:((l.map cs).flatten.take (i*k)).length=i*k:=by rw[List.length_take,aH];omega
     rw[World.cell?_setCells_out b _ _ _ _ (λ_ _=>.inl (by show q < _;omega)),zA5 (by omega),List.getElem?_take_of_lt (by omega)]
     have nQ:q < (l.map cs).flatten.length:=by omega
     rw[zA3 nQ]
     exact bV q _ (zA3 nQ)
  ·rw[if_neg hq,World.cell?_setCells_out b _ _ _ _ (λ_ _=>.inr (by show _<=q;omega)),World.cell?_setCells_out b _ _ _ _ (λ_ _=>.inr (by show _<=q;omega))]
   rfl
 obtain⟨full,tO⟩:∃full,full=((l.eraseIdx i).map cs).flatten++z.cells.toList:=⟨_,rfl⟩
 rw[<-tO]at dW ⊢
 rw[<-tO]at at_
 have mr:((l.map cs).flatten++sp).length=l.length*k+sp.length:=by rw[zA1,aH]
 have rL:c2=(full++sp).toArray:=by
  refine Array.ext' (List.ext_getElem? λq=>?_)
  have h5:=at_ q
  simp only[World.cell?,g3,hh,Option.isSome_none,Bool.false_eq_true,if_false]at h5
  rw[Array.getElem?_toList,h5]
  by_cases hq:q < l.length*k
  ·rw[if_pos hq,zA5 (by rw[dW];exact hq)]
  ·rw[if_neg hq,zA4 (by rw[dW];omega),dW,fO]
   simp only[List.getElem?_toArray]
   rw[zA4 (by rw[aH];omega),aH]
 have hb:∀q,q≠b->((w.drew.setCells b (i*k) news).setCells b ((l.length - 1)*k) z.cells.toList).heap[q]?=w.heap[q]?:=λq hq=>(Zct b hq _ _ _).trans (Zct b hq _ _ w.drew)
 refine⟨_,m,[full],rfl,Mem.le_refl m,⟨λb1 o1 v hv=>?_,λb1 e he=>?_⟩,NewM.refl _ _,⟨hU.os,hU.tape,hU.output,hU.size,λq _ hn=>hb q (by simpa using hn),hU.wr⟩,rfl,λi' x cs' hx bL=>?_,rfl,rfl⟩
 ·have cS:b1≠b:=λe=>by
   subst e
   rw[dK.free rfl o1]at hv;cases hv
  rw[<-hs _ _ _ hv]
  exact ZbB (hb b1 cS) o1
 ·have:=hs.k b1 e he
  have cS:b1≠b:=λe=>by
   subst e
   obtain⟨es,cl,h8,_⟩:=this
   rw[hh]at h8;cases h8
  exact this.same (hb b1 cS)
 ·cases i' with
  | succ n=>simp at hx
  | zero=>
   simp at hx bL
   subst hx bL
   refine⟨⟨sp,fr,by rw[<-rL];exact g3,?_,?_⟩,λ_=>dK.free rfl,λh=>(by cases h),λh=>(by cases h)⟩
   ·have cO:((l.map cs).flatten++sp).length=cap:=rJ
    show(full++sp).length=cap
    rw[<-cO,mr,zA1,dW]
   ·exact rK
end Go.Rx
namespace Go.Rx
open Go Go.Eng
set_option maxRecDepth 100000
def aeN:E:=.node 9 0 ⟨#[110]⟩ 0 none 0 []
def aeC(x:Nat):E:=.node 8 x ⟨#[]⟩ 0 none 0 []
def aeO(k:Int)(a:Option Addr)(x:Nat):E:=.node k 0 ⟨#[]⟩ 0 a 2 [aeN,aeC x]
def aeX:T:=.node 2 0 72057594037927936 0 0 0 0 none 0 []
def aeY:T:=.node 2 0 144115188075855872 0 0 0 0 none 0 []
def aeG(g:Option Addr):T:=.node 6 0 0 0 0 0 0 g 1 [aeX]
def aeR(g r:Option Addr):T:=.node 5 0 0 0 0 1 (-1) r 1 [aeG g]
def aeT(g r c:Option Addr):T:=.node 3 0 0 0 0 0 0 c 2 [aeR g r,aeY]
def aeE:E:=.node 0 0 ⟨#[]⟩ 0 none 0 []
def Zzy:Pt:=⟨3,⟨#[]⟩,1,aeE⟩
def Zzz(s:Option Addr):Pt:=⟨4,⟨#[]⟩,0,aeO 4 s 4611686018427387904⟩
def Zzc(l:Option Addr):Ac:=⟨3,⟨#[110]⟩,none,0,[],aeO 2 l 4607182418800017408⟩
def Zzd(s p:Option Addr):Ac:=⟨1,⟨#[]⟩,p,2,[Zzy,Zzz s],aeE⟩
def ZpU(g r c l s p a:Option Addr):Ru:=⟨1,false,false,aeT g r c,⟨#[]⟩,0,a,2,[Zzc l,Zzd s p],⟨#[98]⟩,0⟩
def Zze:T:=.node 0 0 0 0 0 0 0 none 0 []
def ZuV:Ru:=⟨4,false,false,Zze,⟨#[]⟩,5,none,0,[],⟨#[]⟩,1⟩
def ZvO:Ru:=⟨3,false,false,Zze,⟨#[]⟩,0,none,0,[],⟨#[]⟩,0⟩
def aeS(g r c v l s p a r1 r2 S:Option Addr):Sc:=⟨9,v,1,[⟨⟨#[110]⟩,true,⟨#[]⟩,0⟩],S,2,[⟨⟨#[97]⟩,r1,2,[ZpU g r c l s p a,ZuV]⟩,⟨⟨#[98]⟩,r2,1,[ZvO]⟩]⟩
section
variable (g r c v l s p a r1 r2 S:Option Addr)
theorem ZtR:(aeS g r c v l s p a r1 r2 S).light=true:=by kernel_rfl
theorem Zrv:(aeS g r c v l s p a r1 r2 S).places.length=11:=by kernel_rfl
theorem Zrw:(aeS g r c v l s p a r1 r2 S).places[5]?=some ⟨-1,0,0,1,-1⟩:=by kernel_rfl
theorem ZvP:Zj0 (aeS g r c v l s p a r1 r2 S)=msV 2 3 5 2 2 2:=by kernel_rfl
theorem ZtS:Zj0 (ZuQ (aeS g r c v l s p a r1 r2 S) 0 0)=msV 2 2 0 0 0 0:=by kernel_rfl
theorem ZtT:ZaX false (ZpU g r c l s p a)=[⟨#[110]⟩]:=by kernel_rfl
theorem Zrx:ZaX true (ZpU g r c l s p a)=[⟨#[110]⟩]:=by kernel_rfl
theorem ZvQ:Zgi (ZpU g r c l s p a)=1:=by kernel_rfl
theorem ZvR:ZwE (aeS g r c v l s p a r1 r2 S).states ⟨⟨#[97]⟩,r1,2,[ZpU g r c l s p a,ZuV]⟩=[1]:=by
 have h:ZkF (aeS g r c v l s p a r1 r2 S).states [ZpU g r c l s p a,ZuV]=[1]:=by kernel_rfl
 unfold ZwE
 show ZsM (ZkF _ [ZpU g r c l s p a,ZuV])=_
 rw[h]
 exact Zm4 (List.pairwise_singleton _ _)
theorem ZvS:ZwE (aeS g r c v l s p a r1 r2 S).states ⟨⟨#[98]⟩,r2,1,[ZvO]⟩=[]:=by
 have h:ZkF (aeS g r c v l s p a r1 r2 S).states [ZvO]=[]:=by kernel_rfl
 unfold ZwE
 show ZsM (ZkF _ [ZvO])=_
 rw[h]
 exact Zm4 List.Pairwise.nil
end
theorem ZtU(q:E->Bool)(hq:∀x:E,q x.er=q x):∀l:List E,ZnV q (l.map E.er)=ZnV q l
 | []=>rfl
 | x::l=>by rw[List.map_cons,ZiE,ZiE,ZtU q hq l,hq]
theorem ZsP(e:E):ZoE e.er=ZoE e:=by
 unfold ZoE
 rw[ZeS,ZeR,ZtU _ λx=>by cases x;rfl]
theorem ZvT(e:E):vrE e.er=vrE e:=by
 unfold vrE
 rw[ZeR,ZtU _ λx=>by cases x;rfl]
theorem Zxx(a:Ac):paA a.er=paA a:=ZcH paP Pt.er (λp=>rfl) a.parts
theorem ZvU(a:Ac):ZtL a.er=ZtL a:=by
 unfold ZtL
 have h:=ZcH Zsb Pt.er (λp=>by show(if p.k=4 then ZoE p.e.er else 0)=_;rw[ZsP];rfl) a.parts
 show(if a.k=3 then ZoE a.e.er else 0)+ZaR ((a.parts.map Pt.er).map Zsb)=_
 rw[h,ZsP]
theorem Zxy(a:Ac):vrA a.er=vrA a:=by
 unfold vrA
 have h:=ZcH vrP Pt.er (λp=>by show(if p.k=4 then vrE p.e.er else 0)=_;rw[ZvT];rfl) a.parts
 show(if a.k=3 then vrE a.e.er else 0)+ZaR ((a.parts.map Pt.er).map vrP)=_
 rw[h,ZvT]
theorem ZpV{α β:Type}{f:α->α}{h:β->β}{k:α->List β}(e:∀x,k (f x)=(k x).map h):∀l:List α,(l.map f).flatMap k=(l.flatMap k).map h
 | []=>rfl
 | x::l=>by simp only[List.map_cons,List.flatMap_cons,List.map_append,e,ZpV e l]
theorem ZpW(s:Sc):Zd0 s.er=(Zd0 s).map Ac.er:=ZpV (f:=Sta.er) (k:=Zm1) (λx=>ZpV (f:=Ru.er) (k:=λr:Ru=>r.acts) (λr=>rfl) x.rules) s.states
theorem ZpX(s:Sc):Zj0 s.er=Zj0 s:=by
 have h1:ms1 s.er=ms1 s:=by
  show ZaR ((s.states.map Sta.er).map ruS)=_
  exact ZcH ruS Sta.er (λx=>by show((x.rules.map Ru.er).length:Int)=x.rules.length;rw[List.length_map]) s.states
 have h2:ms2 s.er=ms2 s:=by
  show ZaR ((s.states.map Sta.er).map rgS)=_
  exact ZcH rgS Sta.er (λx=>ZcH rgR Ru.er (λr=>by show(if r.k=1 then r.t.er.size else 0)=_;rw[ZsG];rfl) x.rules) s.states
 have h3:ms3 s.er=ms3 s:=by unfold ms3;rw[ZpW];exact ZcH paA Ac.er Zxx _
 have h4:ms4 s.er=ms4 s:=by unfold ms4;rw[ZpW];exact ZcH ZtL Ac.er ZvU _
 have h5:ms5 s.er=ms5 s:=by unfold ms5;rw[ZpW];exact ZcH vrA Ac.er Zxy _
 unfold Zj0
 rw[Zrm,h1,h2,h3,h4,h5,show s.er.states.length=s.states.length from List.length_map _]
theorem ZtV{s s':Sc}(h:s'.er=s.er):Zj0 s'=Zj0 s:=by rw[<-ZpX s',h,ZpX]
end Go.Rx
namespace Go.Rx
open Go Go.Eng
def Zhd(l:List ByteArray)(x:ByteArray):Bool:=l.any (λy=>eqS x y)
theorem Zm5{a b:ByteArray}:eqS a b=true↔a.toList=b.toList:=by unfold eqS;exact beq_iff_eq
theorem ZiH{l:List ByteArray}{x:ByteArray}:Zhd l x=true↔∃y∈l,x.toList=y.toList:=by
 unfold Zhd;rw[List.any_eq_true]
 exact⟨λ⟨y,h1,h2⟩=>⟨y,h1,Zm5.1 h2⟩,λ⟨y,h1,h2⟩=>⟨y,h1,Zm5.2 h2⟩⟩
theorem ZpY(l r:List ByteArray)(x:ByteArray):Zhd (l++r) x=(Zhd l x||Zhd r x):=by simp[Zhd]
theorem Zry(out:List ByteArray)(n x:ByteArray):Zhd (ZcO out n) x=(Zhd out x||eqS x n):=by
 cases h:out.any (λy=>eqS n y)with
 | true=>
  rw[ZtQ h,Bool.eq_iff_iff,Bool.or_eq_true]
  refine⟨.inl,λh'=>h'.elim id λh2=>?_⟩
  obtain⟨y,hy,he⟩:=ZiH.1 (show Zhd out n=true from h)
  exact ZiH.2 ⟨y,hy,(Zm5.1 h2).trans he⟩
 | false=>
  rw[ZtP h,ZpY];simp[Zhd]
theorem Zm6(x:ByteArray):∀l out:List ByteArray,Zhd (l.foldl ZcO out) x=(Zhd out x||Zhd l x)
 | [],out=>by simp[Zhd]
 | n::l,out=>by
  rw[List.foldl_cons,Zm6 x l,Zry,Bool.or_assoc];rfl
theorem ZtW{out:List ByteArray}{n z:ByteArray}(h:z∈ZcO out n):z∈out\/z=n:=by
 unfold ZcO at h
 split at h
 ·exact .inl h
 ·simpa using h
theorem ZpZ{z:ByteArray}:∀l out:List ByteArray,z∈l.foldl ZcO out->z∈out\/z∈l
 | [],out,h=>.inl h
 | n::l,out,h=>by
  rcases ZpZ l _ h with h|h
  ·rcases ZtW h with h|rfl
   ·exact .inl h
   ·exact .inr (by simp)
  ·exact .inr (by simp[h])
abbrev Apart(l:List ByteArray):Prop:=l.Pairwise λx y=>eqS y x=false
theorem ZoH{out:List ByteArray}(n:ByteArray)(h:Apart out):Apart (ZcO out n):=by
 cases hb:out.any (λy=>eqS n y)with
 | true=>rwa [ZtQ hb]
 | false=>
  rw[ZtP hb]
  refine List.pairwise_append.2 ⟨h,List.pairwise_singleton _ _,λx hx y hy=>?_⟩
  rw[List.mem_singleton]at hy;subst hy
  rw[List.any_eq_false]at hb
  simpa using hb x hx
theorem Zj3:∀l out:List ByteArray,Apart out->Apart (l.foldl ZcO out)
 | [],_,h=>h
 | n::l,out,h=>Zj3 l _ (ZoH n h)
theorem ZoI{l:List ByteArray}(h:Apart l){i:Nat}{x:ByteArray}(hx:l[i]?=some x):Zhd (l.take i) x=false:=by
 cases hb:Zhd (l.take i) x with
 | false=>rfl
 | true=>
  obtain⟨y,hy,he⟩:=ZiH.1 hb
  obtain⟨j,hj⟩:=List.getElem?_of_mem hy
  have jb:j < i:=by
   have:=(zA0 hj).1
   rw[List.length_take]at this;omega
  rw[List.getElem?_take_of_lt jb]at hj
  obtain⟨h1,h2⟩:=zA0 hj
  obtain⟨h3,h4⟩:=zA0 hx
  have:=List.pairwise_iff_getElem.1 h j i h1 h3 jb
  rw[h2,h4,Zm5.2 he]at this
  cases this
theorem ZdT{α β γ:Type}(f:α->List β)(h:γ->β->γ){g:γ->α->γ}(hg:∀o x,g o x=(f x).foldl h o):∀(l:List α)(o:γ),l.foldl g o=((l.map f).flatten).foldl h o
 | [],o=>rfl
 | x::l,o=>by rw[List.foldl_cons,ZdT f h hg l,hg,List.map_cons,List.flatten_cons,List.foldl_append]
def nmP(p:Pt):List ByteArray:=if p.k=2 then[p.s]else if p.k=4 then p.e.vars else[]
def nmA(w:Bool)(a:Ac):List ByteArray:=if w then(if a.k=2\/a.k=3 then[a.s]else[])else(if a.k=3 then a.e.vars else[])++(a.parts.map nmP).flatten
theorem Zrz(o:List ByteArray)(p:Pt):Zcs o p=(nmP p).foldl ZcO o:=by
 unfold Zcs nmP
 split
 ·rfl
 ·split <;> rfl
theorem Zp0(w:Bool)(o:List ByteArray)(a:Ac):Zev w o a=(nmA w a).foldl ZcO o:=by
 unfold Zev nmA Zb8
 cases w with
 | true=>simp only[if_true];split <;> rfl
 | false=>
  simp only[Bool.false_eq_true,if_false]
  rw[List.foldl_append,ZdT nmP ZcO Zrz]
  split <;> rfl
theorem ZiI(w:Bool){r:Ru}(h:ZbU r=true):ZaX w r=((r.acts.map (nmA w)).flatten).foldl ZcO []:=by
 unfold ZaX;rw[if_pos h];exact ZdT (nmA w) ZcO (Zp0 w) _ _
theorem Zm7(w:Bool)(r:Ru):Apart (ZaX w r):=by
 unfold ZaX
 split
 ·rw[ZdT (nmA w) ZcO (Zp0 w)];exact Zj3 _ _ .nil
 ·exact .nil
theorem MkP.names{c:Int}{p:Pt}(h:MkP c p):∀z∈nmP p,z∈ZdZ++ZbO:=by
 intro z hz
 cases h with
 | lit s h=>simp[nmP]at hz
 | var s h=>
  simp[nmP]at hz;subst hz
  exact List.mem_append.2 h
 | cap g h=>simp[nmP]at hz
 | clc e h=>exact List.mem_append_left _ (h.vars z (by simpa[nmP]using hz))
theorem MkA.names{c:Int}{a:Ac}(h:MkA c a)(w:Bool):∀z∈nmA w a,z∈ZdZ++ZbO:=by
 intro z hz
 have go:∀{l:List Pt},MkT c l->z∈(l.map nmP).flatten->z∈ZdZ++ZbO:=λ{l} h hz=>by
  simp only[List.mem_flatten,List.mem_map]at hz
  obtain⟨_,⟨p,hp,rfl⟩,hz⟩:=hz
  exact(h.all p hp).names z hz
 cases h with
 | send a n l h=>
  cases w with
  | true=>simp[nmA]at hz
  | false=>exact go h (by simpa[nmA]using hz)
 | set s hs a n l h=>
  cases w with
  | true=>simp[nmA]at hz;subst hz;exact List.mem_append_right _ hs
  | false=>exact go h (by simpa[nmA]using hz)
 | let_ s hs e h=>
  cases w with
  | true=>simp[nmA]at hz;subst hz;exact List.mem_append_left _ hs
  | false=>exact List.mem_append_left _ (h.vars z (by simpa[nmA]using hz))
theorem MkR.light{n:Nat}{r:Ru}(h:MkR n r):ZbU r=true:=decide_eq_true (by have:=h.w;omega)
theorem MkR.names{n:Nat}{r:Ru}(h:MkR n r)(w:Bool):∀z∈ZaX w r,z∈ZdZ++ZbO:=by
 intro z hz
 rw[ZiI w h.light]at hz
 rcases ZpZ _ _ hz with hz|hz
 ·cases hz
 ·simp only[List.mem_flatten,List.mem_map]at hz
  obtain⟨_,⟨a,ha,rfl⟩,hz⟩:=hz
  exact(h.all a ha).names w z hz
theorem MkR.has{n:Nat}{r:Ru}(h:MkR n r)(w:Bool){z:ByteArray}(hz:z∈ZaX w r):Zhd (ZdZ++ZbO) z=true:=ZiH.2 ⟨z,h.names w z hz,rfl⟩
theorem Zp1{n:Nat}{r:Ru}(h:MkR n r)(w:Bool):(ZaX w r).length<=100000:=by
 have h1:=ZgW (ZiF w) r.acts []
 have h2:=Zee wA 126 r.acts (λa ha=>(h.all a ha).w)
 have h3:=h.len
 unfold ZaX;rw[if_pos h.light]
 simp only[List.length_nil]at h1
 omega
def ZtX(r q:Ru)(a:Option Addr)(c:Nat):Ru:=⟨r.k,r.bg,r.en,r.t,r.s,r.n,a,c,r.acts++q.acts,r.go,r.code⟩
def Zd1(r:Ru):Ru:=⟨r.k,r.bg,r.en,r.t,r.s,r.n,none,0,[],r.go,r.code⟩
theorem Zxz{n:Nat}{r q:Ru}(hr:MkR n r)(hq:MkR n q)(a:Option Addr)(c:Nat):wR (ZtX r q a c)<=800:=by
 have h1:=hr.w
 have h2:=Zee wA 126 q.acts (λa ha=>(hq.all a ha).w)
 have h3:=hq.len
 unfold wR ZtX at *
 simp only[List.map_append,ZgU]
 omega
theorem ZsQ{n:Nat}{r:Ru}(hr:MkR n r):wR (Zd1 r)<=405:=by
 have h1:=hr.w
 have h2:=ZfA wA Zrb r.acts
 unfold wR Zd1 at *
 simp only[List.map_nil,ZaR]
 omega
theorem ZiJ{n:Nat}{r q:Ru}(hr:MkR n r)(hq:MkR n q)(a:Option Addr)(c:Nat):ZbU (ZtX r q a c)=true:=decide_eq_true (by have:=Zxz hr hq a c;omega)
theorem Zj4{n:Nat}{r:Ru}(hr:MkR n r):ZbU (Zd1 r)=true:=decide_eq_true (by have:=ZsQ hr;omega)
theorem ZtY{n:Nat}{r q:Ru}(hr:MkR n r)(hq:MkR n q)(a:Option Addr)(c:Nat)(w:Bool)(x:ByteArray):Zhd (ZaX w (ZtX r q a c)) x=(Zhd (ZaX w r) x||Zhd (ZaX w q) x):=by
 rw[ZiI w (ZiJ hr hq a c),ZiI w hr.light,ZiI w hq.light]
 simp only[ZtX,List.map_append,List.flatten_append,Zm6,ZpY]
 simp[Zhd]
theorem ZkH{n:Nat}{r q:Ru}(hr:MkR n r)(hq:MkR n q)(a:Option Addr)(c:Nat)(w:Bool):(ZaX w (ZtX r q a c)).length<=100000:=by
 have h1:=ZgW (ZiF w) (ZtX r q a c).acts []
 have h2:=Zee wA 126 r.acts (λa ha=>(hr.all a ha).w)
 have h3:=Zee wA 126 q.acts (λa ha=>(hq.all a ha).w)
 have h4:=hr.len
 have h5:=hq.len
 unfold ZaX;rw[if_pos (ZiJ hr hq a c)]
 simp only[List.length_nil,ZtX,List.map_append,ZgU]at h1 ⊢
 omega
theorem Zm8(r:Ru)(w:Bool):ZaX w (Zd1 r)=[]:=by
 unfold ZaX;split <;> rfl
def grP(p:Pt):List Int:=if p.k=3 then[p.g]else if p.k=4 then[p.e.most]else[]
def grA(a:Ac):List Int:=(if a.k=3 then[a.e.most]else[])++(a.parts.map grP).flatten
theorem ZtZ(n:Int)(p:Pt):ZiG n p=(grP p).foldl mxI n:=by
 unfold ZiG grP
 split
 ·rfl
 ·split <;> rfl
theorem Zt0(n:Int)(a:Ac):Zrt n a=(grA a).foldl mxI n:=by
 unfold Zrt grA
 rw[List.foldl_append,ZdT grP mxI ZtZ]
 split <;> rfl
theorem ZiK{r:Ru}(h:ZbU r=true):Zgi r=((r.acts.map grA).flatten).foldl mxI (-1):=by
 unfold Zgi;rw[if_pos h];exact ZdT grA mxI Zt0 _ _
theorem Zw6:∀(l:List Int)(n:Int),n<=l.foldl mxI n
 | [],n=>Int.le_refl _
 | g::l,n=>by
  have:=Zw6 l (mxI n g)
  rw[List.foldl_cons]
  have:n<=mxI n g:=by unfold mxI;split <;> omega
  omega
theorem Zp2:∀(l:List Int)(n:Int),-1<=n->l.foldl mxI n=mxI n (l.foldl mxI (-1))
 | [],n,h=>by
  show n=mxI n (-1)
  unfold mxI;rw[if_neg (by omega)]
 | g::l,n,h=>by
  rw[List.foldl_cons,List.foldl_cons,Zp2 l (mxI n g) (by unfold mxI;split <;> omega),Zp2 l (mxI (-1) g) (by unfold mxI;split <;> omega)]
  have:=Zw6 l (-1)
  generalize l.foldl mxI (-1)=F at *
  unfold mxI
  repeat' split
  all_goals omega
theorem Zt1{n:Nat}{r q:Ru}(hr:MkR n r)(hq:MkR n q)(a:Option Addr)(c:Nat):Zgi (ZtX r q a c)=if Zgi q > Zgi r then Zgi q else Zgi r:=by
 rw[ZiK (ZiJ hr hq a c),ZiK hr.light,ZiK hq.light]
 simp only[ZtX,List.map_append,List.flatten_append,List.foldl_append]
 rw[Zp2 _ _ (Zw6 _ _)]
 rfl
theorem ZrA{n:Nat}{r:Ru}(hr:MkR n r):Zgi (Zd1 r)=-1:=by
 rw[ZiK (Zj4 hr)];rfl
theorem ZrB{n:Nat}{r:Ru}(hr:MkR n r):Zfr (Zd1 r) r=decide (r.acts.length=0):=by
 cases h:r.acts with
 | nil=>
  rw[ZtI (p:=Zd1 r) (q:=r) (by simp[Ru.er,Zd1,h]) (ZvG (by have:=ZsQ hr;omega))];rfl
 | cons x l=>
  simp[Zfr,Zd1,h,eqL]
theorem RepR.cat{m:Mem}{n:Nat}{r q:Ru}(hr:RepR m r)(hq:RepR m q)(kr:MkR n r)(kq:MkR n q){a:Option Addr}{c:Nat}(aB:rowRd m a ((r.acts++q.acts).map Ac.cs).flatten):RepR m (ZtX r q a c):=
 ⟨hr.k,hr.t,hr.s,hr.n,by
  have h1:=kr.len
  have h2:=kq.len
  show(r.acts++q.acts).length<=few
  rw[zA1];unfold few;omega,aB,λp hp=>(List.mem_append.1 hp).elim (hr.all p) (hq.all p),hr.go,hr.code⟩
theorem RepR.bare{m:Mem}{r:Ru}(hr:RepR m r):RepR m (Zd1 r):=⟨hr.k,hr.t,hr.s,hr.n,Nat.zero_le _,.inl rfl,λp hp=>absurd hp (by simp[Zd1]),hr.go,hr.code⟩
end Go.Rx