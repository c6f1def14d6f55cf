/- Trees of regexes, what they mean, and yC they lie in memory; plain, no program is named. No condition. -/
import Derived.Test.YtpjepnkiiojgfaaGreatMc
import Derived.Sort.Grow
import Derived.Test.YtpjepnkiiojgfaaGreatMb
import Derived.Lib.SlicesCompact
import Derived.Lib.SliceRun
import Derived.Shelf.SlicesE.Delete
import Derived.Deep.MidRow
import Derived.KernelRfl
set_option linter.unusedVariables false
set_option linter.unusedSimpArgs false
set_option linter.unusedSectionVars false
namespace Go.Rx
open Go Go.Eng
inductive T where
 | node (k s0 s1 s2 s3 mn mx:Int) (a:Option Addr) (c:Nat) (subs:List T)
def T.k:T->Int
 | .node k _ _ _ _ _ _ _ _ _=>k
def T.s0:T->Int
 | .node _ s _ _ _ _ _ _ _ _=>s
def T.s1:T->Int
 | .node _ _ s _ _ _ _ _ _ _=>s
def T.s2:T->Int
 | .node _ _ _ s _ _ _ _ _ _=>s
def T.s3:T->Int
 | .node _ _ _ _ s _ _ _ _ _=>s
def T.mn:T->Int
 | .node _ _ _ _ _ x _ _ _ _=>x
def T.mx:T->Int
 | .node _ _ _ _ _ _ x _ _ _=>x
def T.a:T->Option Addr
 | .node _ _ _ _ _ _ _ a _ _=>a
def T.c:T->Nat
 | .node _ _ _ _ _ _ _ _ c _=>c
def T.subs:T->List T
 | .node _ _ _ _ _ _ _ _ _ l=>l
def T.sl(t:T):Value:=.slice t.a t.subs.length t.c
def T.cs(t:T):List Value:=[.int .u8 t.k,.int .u64 t.s0,.int .u64 t.s1,.int .u64 t.s2,.int .u64 t.s3,.int .i64 t.mn,.int .i64 t.mx,t.sl]
def T.v(t:T):Value:=.agg #[.int .u8 t.k,.int .u64 t.s0,.int .u64 t.s1,.int .u64 t.s2,.int .u64 t.s3,.int .i64 t.mn,.int .i64 t.mx,.slice t.a t.subs.length t.c]
structure OkN (k s0 s1 s2 s3 mn mx:Int):Prop where
 k:0<=k/\k < 256
 s0:0<=s0/\s0 < 18446744073709551616
 s1:0<=s1/\s1 < 18446744073709551616
 s2:0<=s2/\s2 < 18446744073709551616
 s3:0<=s3/\s3 < 18446744073709551616
 mn : -9223372036854775808<=mn/\mn<=9223372036854775807
 mx : -9223372036854775808<=mx/\mx<=9223372036854775807
mutual
def Rep(m:Mem):T->Prop
 | .node k s0 s1 s2 s3 mn mx a _ l=>l.length<=1000000000000000/\(l=[]\/∃b o,a=some ⟨b,o,none⟩/\RepAt m b o l)/\OkN k s0 s1 s2 s3 mn mx
def RepAt(m:Mem)(b:Nat):Nat->List T->Prop
 | _,[]=>True
 | o,t::l=>m.reads b o t.cs/\Rep m t/\RepAt m b (o+8) l
end
theorem Znl{m:Mem}{t:T}:Rep m t->(t.subs.length<=1000000000000000/\(t.subs=[]\/∃b o,t.a=some ⟨b,o,none⟩/\RepAt m b o t.subs)):=by
 cases t;simp only[Rep,T.subs,T.a];exact λh=>⟨h.1,h.2.1⟩
theorem ZyU{m:Mem}{t:T}:Rep m t->OkN t.k t.s0 t.s1 t.s2 t.s3 t.mn t.mx:=by
 cases t;simp only[Rep];exact λh=>h.2.2
theorem Zlf{m:Mem}{t:T}(h1:t.subs.length<=1000000000000000)(h2:t.subs=[]\/∃b o,t.a=some ⟨b,o,none⟩/\RepAt m b o t.subs)(h3:OkN t.k t.s0 t.s1 t.s2 t.s3 t.mn t.mx):Rep m t:=by
 cases t;simp only[Rep];exact⟨h1,h2,h3⟩
mutual
theorem Rep.mono{m m':Mem}(h:m.le m'):∀t:T,Rep m t->Rep m' t
 | .node _ _ _ _ _ _ _ a _ l,hr=>by
  simp only[Rep]at *
  refine⟨hr.1,?_,hr.2.2⟩
  rcases hr.2.1 with hr|⟨b,o,h1,h2⟩
  ·exact .inl hr
  ·exact .inr ⟨b,o,h1,RepAt.mono h b o l h2⟩
theorem RepAt.mono{m m':Mem}(h:m.le m')(b:Nat):∀(o:Nat)(l:List T),RepAt m b o l->RepAt m' b o l
 | _,[],_=>by simp only[RepAt]
 | o,t::l,hr=>by
  simp only[RepAt]at *
  exact⟨hr.1.mono h,Rep.mono h t hr.2.1,RepAt.mono h b (o+8) l hr.2.2⟩
end
theorem RepAt.get{m:Mem}{b:Nat}:∀{o:Nat} {l:List T} {i:Nat} {t:T},RepAt m b o l->l[i]?=some t->m.reads b (o+i*8) t.cs/\Rep m t
 | o,[],i,t,_,hi=>by simp at hi
 | o,x::l,0,t,h,hi=>by
  simp only[RepAt]at h
  simp at hi;subst hi
  exact⟨by simpa using h.1,h.2.1⟩
 | o,x::l,i+1,t,h,hi=>by
  simp only[RepAt]at h
  have:=h.2.2.get (i:=i) (by simpa using hi)
  rw[show o+(i+1)*8=o+8+i*8 by omega]
  exact this
mutual
def T.nodes:T->List T
 | .node k s0 s1 s2 s3 mn mx a c l=>.node k s0 s1 s2 s3 mn mx a c l::ZaI l
def ZaI:List T->List T
 | []=>[]
 | t::l=>t.nodes++ZaI l
end
theorem Zcq(t:T):t.nodes=t::ZaI t.subs:=by cases t;simp only[T.nodes,T.subs]
theorem ZcL(l r:List T):ZaI (l++r)=ZaI l++ZaI r:=by
 induction l with
 | nil=>simp[ZaI]
 | cons t l ih=>simp[ZaI,ih,List.append_assoc]
theorem Znm{l:List T}{i:Nat}{t:T}(h:l[i]?=some t):ZaI (l.take (i+1))=ZaI (l.take i)++t.nodes:=by
 have:l.take (i+1)=l.take i++[t]:=by
  rw[List.take_add_one,h];rfl
 rw[this,ZcL];simp[ZaI]
theorem Zen{l:List T}{i:Nat}{t:T}(h:l[i]?=some t):ZaI l=ZaI (l.take i)++(t.nodes++ZaI (l.drop (i+1))):=by
 have aC:=(zA0 h).1
 have e:l=l.take i++(t::l.drop (i+1)):=by
  have:=List.drop_eq_getElem_cons aC
  rw[(zA0 h).2]at this
  rw[<-this,List.take_append_drop]
 conv=>lhs;rw[e,ZcL]
 simp[ZaI]
theorem ZuE{t x z:T}{i q:Nat}(hx:t.subs[i]?=some x)(hz:x.nodes[q]?=some z):t.nodes[1+(ZaI (t.subs.take i)).length+q]?=some z:=by
 have hq:=(zA0 hz).1
 rw[Zcq,show 1+(ZaI (t.subs.take i)).length+q=((ZaI (t.subs.take i)).length+q)+1 by omega,List.getElem?_cons_succ,Zen hx,zA4 (by omega),zA5 (by omega),show(ZaI (List.take i t.subs)).length+q - (ZaI (List.take i t.subs)).length=q by omega]
 exact hz
theorem Zr0{t x:T}(h:x∈t.subs):SizeOf.sizeOf x < SizeOf.sizeOf t:=by
 cases t with
 | node k s0 s1 s2 s3 mn mx a c l=>
  have h':x∈l:=h
  have:=List.sizeOf_lt_of_mem h'
  simp only[T.node.sizeOf_spec]
  omega
theorem ZuF(t:T):Shape.fitsL [.agg [.int .u8,.int .u64,.int .u64,.int .u64,.int .u64,.int .i64,.int .i64,.slice]] [t.v]=true:=by
 simp[Shape.fitsL,Shape.fits,T.v]
def Zr1(least most:Int):Bool:=!(decide (least < 0)||decide (least > 16)||(least == 1&&most == 1))&&(most == -1||(decide (most ≥ 1)&&decide (most<=16)&&decide (most ≥ least)))
def T.has(t:T)(k:Int):Bool:=t.subs.any λx=>x.k == k
def T.light(t:T):Bool:=decide (t.nodes.length<=10000)
def T.setZ(t:T):Bool:=t.s0 == 0&&t.s1 == 0&&t.s2 == 0&&t.s3 == 0
def T.right(t:T):Bool:=
 !(t.k != 2&&!t.setZ||(t.k != 5&&(t.mn != 0||t.mx != 0)||(decide (t.k < 3)&&decide (0 < t.subs.length)))) &&
 (if t.k=1 then true else if t.k=2 then !t.setZ else if t.k=3 then decide (1 < t.subs.length)&&(!t.has 1&&!t.has 3)else if t.k=4 then decide (1 < t.subs.length)&&!t.has 4
  else if t.k=5 then t.subs.length == 1&&(Zr1 t.mn t.mx&&!t.has 1)else t.k == 6&&t.subs.length == 1)
def T.clean(t:T):Bool:=t.light&&t.nodes.all T.right
def T.size(t:T):Int:=if t.light then t.nodes.length else 10001
def T.groups(t:T):Int:=if t.light then(t.nodes.countP λx=>x.k == 6:Nat)else 10001
def ZuG(x y:Int):Int:=if y > x then y else x
def Zgc(x y:Int):Int:=if y < x then y else x
def Zyd(k mn mx sum:Int):Int:=Zgc (if k=5 then sum*Zgc (if mx=-1 then ZuG (ZuG mn 0) 1 else ZuG (ZuG mn 0) mx) 10001 else sum) 10001
mutual
def T.pos:T->Int
 | .node k _ _ _ _ mn mx _ _ l=>Zyd k mn mx ((if k=2 then 1 else 0)+ZjY l)
def ZjY:List T->Int
 | []=>0
 | t::l=>t.pos+ZjY l
end
def T.positions(t:T):Int:=if t.light then t.pos else 10001
def T.check(t:T):Int:=if t.clean=false then 80 else if t.size > 120 then 81 else if t.positions > 400 then 82 else if t.groups > 9 then 83 else 0
mutual
def T.same:T->T->Bool
 | .node k s0 s1 s2 s3 mn mx _ _ l,.node k' s0' s1' s2' s3' mn' mx' _ _ l'=>k == k'&&((s0 == s0'&&s1 == s1'&&s2 == s2'&&s3 == s3')&&(mn == mn'&&(mx == mx'&&ZeH l l')))
def ZeH:List T->List T->Bool
 | [],[]=>true
 | t::l,t'::l'=>t.same t'&&ZeH l l'
 | _,_=>false
end
theorem Zty(t u:T):t.same u=(t.k == u.k&&((t.s0 == u.s0&&t.s1 == u.s1&&t.s2 == u.s2&&t.s3 == u.s3)&&(t.mn == u.mn&&(t.mx == u.mx&&ZeH t.subs u.subs)))):=by
 cases t;cases u;simp only[T.same,T.k,T.s0,T.s1,T.s2,T.s3,T.mn,T.mx,T.subs]
theorem Znn:∀{l r:List T},¬l.length=r.length->ZeH l r=false
 | [],[],h=>by simp at h
 | [],_::_,_=>by simp[ZeH]
 | _::_,[],_=>by simp[ZeH]
 | x::l,y::r,h=>by
  simp only[ZeH,Znn (l:=l) (r:=r) (by simpa using h),Bool.and_false]
theorem Zqc:∀{l r:List T} {i:Nat} {x y:T},l[i]?=some x->r[i]?=some y->x.same y=false->ZeH l r=false
 | [],r,i,x,y,h,_,_=>by simp at h
 | _::_,[],i,x,y,_,h,_=>by simp at h
 | a::l,b::r,0,x,y,h,k,e=>by
  simp at h k;subst h k
  simp[ZeH,e]
 | a::l,b::r,i+1,x,y,h,k,e=>by
  simp only[ZeH,Zqc (l:=l) (r:=r) (i:=i) (by simpa using h) (by simpa using k) e,Bool.and_false]
theorem Zks:∀{l r:List T} {i:Nat} {x y:T},l[i]?=some x->r[i]?=some y->ZeH (l.take i) (r.take i)=true->x.same y=true->True->ZeH (l.take (i+1)) (r.take (i+1))=true
 | [],r,i,x,y,h,_,_,_,_=>by simp at h
 | _::_,[],i,x,y,_,h,_,_,_=>by simp at h
 | a::l,b::r,0,x,y,h,k,_,e,_=>by
  simp at h k;subst h k
  simp[ZeH,e]
 | a::l,b::r,i+1,x,y,h,k,hs,e,_=>by
  simp only[List.take_succ_cons,ZeH,zA7]at hs ⊢
  exact⟨hs.1,Zks (by simpa using h) (by simpa using k) hs.2 e trivial⟩
theorem Zr2(t:T):t.pos=Zyd t.k t.mn t.mx ((if t.k=2 then 1 else 0)+ZjY t.subs):=by
 cases t;simp only[T.pos,T.k,T.mn,T.mx,T.subs];congr 1
theorem Zbf(l r:List T):ZjY (l++r)=ZjY l+ZjY r:=by
 induction l with
 | nil=>simp[ZjY]
 | cons t l ih=>simp[ZjY,ih,Int.add_assoc]
theorem Zqd(x y:Int):x<=ZuG x y/\y<=ZuG x y:=by unfold ZuG;split <;> omega
theorem Zkt(x y:Int):Zgc x y<=x/\Zgc x y<=y:=by unfold Zgc;split <;> omega
theorem Ztz{x y:Int}(h:0<=x)(k:0<=y):0<=Zgc x y:=by unfold Zgc;split <;> omega
def ZyV(mn mx:Int):Int:=Zgc (if mx=-1 then ZuG (ZuG mn 0) 1 else ZuG (ZuG mn 0) mx) 10001
theorem ZwG(mn mx:Int):0<=ZyV mn mx/\ZyV mn mx<=10001:=by
 unfold ZyV
 refine⟨Ztz ?_ (by omega),(Zkt _ _).2⟩
 have h1:=Zqd mn 0
 split
 ·have:=Zqd (ZuG mn 0) 1;omega
 ·have:=Zqd (ZuG mn 0) mx;omega
theorem ZwH{k mn mx sum:Int}(h:0<=sum):0<=Zyd k mn mx sum/\Zyd k mn mx sum<=10001:=by
 have h2:=Int.mul_nonneg h (ZwG mn mx).1
 unfold Zyd
 refine⟨Ztz ?_ (by omega),(Zkt _ _).2⟩
 split
 ·exact h2
 ·exact h
mutual
theorem Zlg:∀t:T,0<=t.pos/\t.pos<=10001
 | .node k _ _ _ _ mn mx _ _ l=>by
  simp only[T.pos]
  have:=Zin l
  exact ZwH (by split <;> omega)
theorem Zin:∀l:List T,0<=ZjY l
 | []=>by simp[ZjY]
 | t::l=>by
  simp only[ZjY]
  have:=Zlg t
  have:=Zin l
  omega
end
theorem ZwI(t:T):t.subs.length < t.nodes.length:=by
 rw[Zcq,List.length_cons]
 have:∀l:List T,l.length<=(ZaI l).length:=by
  intro l
  induction l with
  | nil=>simp[ZaI]
  | cons x l ih=>simp only[ZaI,List.length_cons,zA1];rw[Zcq];simp;omega
 have:=this t.subs
 omega
def T.hasB(t:T)(c:Nat):Bool:=((if c / 64=0 then t.s0 else if c / 64=1 then t.s1 else if c / 64=2 then t.s2 else t.s3).toNat).testBit (c % 64)
end Go.Rx
namespace Go.Rx
open Go Go.Eng Go.RowKit
theorem ZzJ(n:Nat)(h:n < 18446744073709551616):IntKind.u64.wrap (n:Int)=n:=by
 unfold IntKind.wrap
 have e:(2:Int) ^ 64=18446744073709551616:=by decide
 simp only[IntKind.bits,IntKind.signed,Bool.false_and,Bool.false_eq_true,if_false,e]
 omega
theorem ZAY(a:Nat)(h:a < 18446744073709551616):(BitVec.ofInt 64 (a:Int)).toNat=a:=by
 rw[BitVec.toNat_ofInt]
 have e:((2:Nat) ^ 64:Nat)=18446744073709551616:=by decide
 rw[e];omega
theorem ZuH(a b:Nat)(ha:a < 18446744073709551616)(hb:b < 18446744073709551616):IntKind.u64.wrap ((BitVec.ofInt 64 (a:Int)|||BitVec.ofInt 64 (b:Int)).toNat:Int)=((a|||b:Nat):Int):=by
 rw[BitVec.toNat_or,ZAY a ha,ZAY b hb]
 exact ZzJ _ (Nat.or_lt_two_pow (n:=64) ha hb)
def Byt(m:Mem)(a:Option Addr)(s:List Nat):Prop:=(s=[]\/∃b o,a=some ⟨b,o,none⟩/\m.reads b o (s.map λc:Nat=>Value.int .u8 c))/\∀c∈s,c < 256
theorem Byt.mono{m m':Mem}{a s}(h:Byt m a s)(hm:m.le m'):Byt m' a s:=by
 refine⟨?_,h.2⟩
 rcases h.1 with h|⟨b,o,h1,h2⟩
 ·exact .inl h
 ·exact .inr ⟨b,o,h1,h2.mono hm⟩
theorem Byt.get{m:Mem}{a s}(h:Byt m a s){i c:Nat}(hi:s[i]?=some c):(∃b o,a=some ⟨b,o,none⟩/\m b (o+i)=some (.int .u8 c))/\c < 256:=by
 refine⟨?_,h.2 c (zA2 hi)⟩
 rcases h.1 with h|⟨b,o,h1,h2⟩
 ·subst h;simp at hi
 ·exact⟨b,o,h1,h2 i _ (by rw[List.getElem?_map,hi];rfl)⟩
def ZAk(t:T)(back:Bool)(f i c out:Nat):Nat:=if(f.testBit (if back then i+1 else i)&&t.hasB c)=true then out|||2 ^ (if back then i else i+1)else out
def ZAZ(t:T)(back:Bool)(f:Nat):List Nat->Nat->Nat->Nat
 | [],_,out=>out
 | c::s,i,out=>ZAZ t back f s (i+1) (ZAk t back f i c out)
def ZAO(g:Nat->Nat):Nat->Nat->Nat
 | 0,f=>f
 | n+1,f=>ZAO g n (g f)
def ZzK(g:Nat->Nat)(mx:Int):Nat->Int->Nat->Nat->Nat
 | 0,_,out,_=>out
 | n+1,k,out,last=>if k=mx then out else if out|||g last=out then out else ZzK g mx n (IntKind.i64.wrap (k+1)) (out|||g last) (g last)
@[irreducible] def ZBk:Nat:=576
abbrev ZBl:Nat:=2 ^ ZBk
def ZBm(g:Nat->Nat)(mn mx:Int)(f:Nat):Nat:=ZzK g mx (ZBl+1) mn (ZAO g mn.toNat f) (ZAO g mn.toNat f)
mutual
def T.lead(s:List Nat)(back:Bool):T->Nat->Nat
 | .node k s0 s1 s2 s3 mn mx a c l=>λf=>
  if k=1 then f else if k=2 then ZAZ (.node k s0 s1 s2 s3 mn mx a c l) back f s 0 0
  else if k=3 then(if back then ZzM s back l f else ZzL s back l f)
  else if k=4 then ZA0 s back l f 0
  else if k=5 then ZBm (ZzN s back l) mn mx f
  else if k=6 then ZzN s back l f else 0
def ZzL(s:List Nat)(back:Bool):List T->Nat->Nat
 | []=>λf=>f
 | t::l=>λf=>ZzL s back l (t.lead s back f)
def ZzM(s:List Nat)(back:Bool):List T->Nat->Nat
 | []=>λf=>f
 | t::l=>λf=>t.lead s back (ZzM s back l f)
def ZA0(s:List Nat)(back:Bool):List T->Nat->Nat->Nat
 | []=>λ_ out=>out
 | t::l=>λf out=>ZA0 s back l f (out|||t.lead s back f)
def ZzN(s:List Nat)(back:Bool):List T->Nat->Nat
 | []=>λf=>f
 | t::_=>λf=>t.lead s back f
end
section
variable {s:List Nat} {back:Bool}
end
theorem Zqe{α:Type}{l:List α}{i:Nat}{x:α}(h:l[i]?=some x):l.drop i=x::l.drop (i+1):=by
 obtain⟨h1,h2⟩:=zA0 h
 rw[List.drop_eq_getElem_cons h1,h2]
theorem Zqf{α:Type}{l:List α}{i:Nat}{x:α}(h:l[i]?=some x):l.take (i+1)=l.take i++[x]:=by
 rw[List.take_add_one,h];rfl
section
variable (s:List Nat) (back:Bool) (hs:s.length<=512)
include hs
end
def T0:T:=.node 0 0 0 0 0 0 0 none 0 []
def T1:T:=.node 1 0 0 0 0 0 0 none 0 []
theorem ZwJ(m:Mem):Rep m T1:=by simp only[T1,Rep];exact⟨by simp,.inl trivial,by constructor <;> decide⟩
def T.isNone(t:T):Bool:=t.k == 0&&(t.light&&(T0.light&&t.same T0))
structure Rg where
 bg:Bool
 en:Bool
 t:T
def Rg.v(r:Rg):Value:=.agg #[.bool r.bg,.bool r.en,.int .u8 r.t.k,.int .u64 r.t.s0,.int .u64 r.t.s1,.int .u64 r.t.s2,.int .u64 r.t.s3,.int .i64 r.t.mn,.int .i64 r.t.mx,.slice r.t.a r.t.subs.length r.t.c]
def Rg.cs(r:Rg):List Value:=[.bool r.bg,.bool r.en,.int .u8 r.t.k,.int .u64 r.t.s0,.int .u64 r.t.s1,.int .u64 r.t.s2,.int .u64 r.t.s3,.int .i64 r.t.mn,.int .i64 r.t.mx,.slice r.t.a r.t.subs.length r.t.c]
def Rgs(m:Mem)(a:Option Addr)(l:List Rg):Prop:=l.length<=1000000000000000/\(l=[]\/∃b o,a=some ⟨b,o,none⟩/\∀i r,l[i]?=some r->m.reads b (o+i*10) r.cs)/\∀r∈l,Rep m r.t
theorem Rgs.mono{m m':Mem}{a l}(h:Rgs m a l)(hm:m.le m'):Rgs m' a l:=by
 refine⟨h.1,?_,λr hr=>(h.2.2 r hr).mono hm⟩
 rcases h.2.1 with h|⟨b,o,h1,h2⟩
 ·exact .inl h
 ·exact .inr ⟨b,o,h1,λi r hi=>(h2 i r hi).mono hm⟩
def ZyW(f:Nat):List Nat:=(List.range 513).filter λi=>f.testBit i
def ZwK(n:Nat):List Nat->Option Nat
 | []=>none
 | i::_=>if i > n then none else some i
def Rg.from(s:List Nat)(n:Nat)(r:Rg):Option Nat:=if(r.en&&decide ((n:Int) < s.length))=true then none else if r.bg then(if(r.t.lead s true (2 ^ n)).testBit 0 then some 0 else none)else
 ZwK n (ZyW (r.t.lead s true (2 ^ n)))
def Zno(φ:T->Prop):Value->Mem->List (List Value)->Prop:=λv m' _=>∃t:T,v=t.v/\Rep m' t/\φ t
abbrev TRK:=Int->Int->Int->Int->Int->Int->Int->Option Addr->Nat->Nat->Mem->Prop
theorem Zpi{φ:T->Prop}{m:Mem}{K:TRK}(k:∀(t:T)(m':Mem),m.le m'->Rep m' t->φ t->K t.k t.s0 t.s1 t.s2 t.s3 t.mn t.mx t.a t.subs.length t.c m'):
  ∀(n0 n1 n2 n3 n4 n5 n6:Int)(a:Option Addr)(n c:Nat)(m':Mem),m.le m'->Zno φ (.agg #[.int .u8 n0,.int .u64 n1,.int .u64 n2,.int .u64 n3,.int .u64 n4,.int .i64 n5,.int .i64 n6,.slice a n c]) m' []->K n0 n1 n2 n3 n4 n5 n6 a n c m':=by
 rintro n0 n1 n2 n3 n4 n5 n6 a n c m' hm ⟨t,hv,hr,hp⟩
 simp only[T.v,Value.agg.injEq,Array.mk.injEq,List.cons.injEq,Value.int.injEq,Value.slice.injEq,true_and,and_true]at hv
 obtain⟨rfl,rfl,rfl,rfl,rfl,rfl,rfl,rfl,rfl,rfl⟩:=hv
 exact k t m' hm hr hp
theorem Ze1{φ:T->Prop}:∀(v:Value)(m':Mem) (css:List (List Value)),Zno φ v m' css->Shape.fits (.agg [.int .u8,.int .u64,.int .u64,.int .u64,.int .u64,.int .i64,.int .i64,.slice]) v=true:=λv _ _ ⟨t,e,_⟩=>by rw[e];rfl
def RepL(m:Mem)(a:Option Addr)(l:List T):Prop:=l.length<=1000000000000000/\(l=[]\/∃b o,a=some ⟨b,o,none⟩/\RepAt m b o l)
theorem RepL.mono{m m':Mem}{a l}(h:RepL m a l)(hm:m.le m'):RepL m' a l:=by
 refine⟨h.1,?_⟩
 rcases h.2 with h|⟨b,o,h1,h2⟩
 ·exact .inl h
 ·exact .inr ⟨b,o,h1,h2.mono hm⟩
theorem Rep.subs{m:Mem}{t:T}(h:Rep m t):RepL m t.a t.subs:=Znl h
def ZbR(k mn mx:Int)(a:Option Addr)(c:Nat)(l:List T):T:=.node k 0 0 0 0 mn mx a c l
theorem ZfD{m:Mem}{k mn mx:Int}{a:Option Addr}{c:Nat}{l:List T}(h:RepL m a l)(hk:0<=k/\k < 256)(h1 : -9223372036854775808<=mn/\mn<=9223372036854775807)(h2 : -9223372036854775808<=mx/\mx<=9223372036854775807):Rep m (ZbR k mn mx a c l):=by
 simp only[ZbR,Rep]
 exact⟨h.1,h.2,⟨hk,by omega,by omega,by omega,by omega,h1,h2⟩⟩
theorem Zqg{m:Mem}{b:Nat}{t:T}(h:m.reads b 0 t.cs)(hr:Rep m t):RepL m (some ⟨b,0,none⟩) [t]:=⟨by simp,.inr ⟨b,0,rfl,by simp only[RepAt];exact⟨h,hr,trivial⟩⟩⟩
def Zcg(l:List T):List Value:=(l.map T.cs).flatten
theorem Zar(l:List T):(Zcg l).length=l.length*8:=by
 induction l with
 | nil=>rfl
 | cons t l ih=>simp[Zcg,T.cs]at ih ⊢;omega
theorem ZaS(l r:List T):Zcg (l++r)=Zcg l++Zcg r:=by simp[Zcg]
theorem Zqh{m:Mem}{b:Nat}:∀{o:Nat} {l:List T},m.reads b o (Zcg l)->(∀t∈l,Rep m t)->RepAt m b o l
 | o,[],_,_=>by simp only[RepAt]
 | o,t::l,h,hr=>by
  simp only[RepAt]
  refine⟨λj v hj=>?_,hr t (by simp),Zqh (λj v hj=>?_) λx hx=>hr x (by simp[hx])⟩
  ·refine h j v ?_
   simp only[Zcg,List.map_cons,List.flatten_cons]
   rw[zA5 (zA0 hj).1];exact hj
  ·have:=h (8+j) v (by
    simp only[Zcg,List.map_cons,List.flatten_cons]
    rw[zA4 (by simp[T.cs])]
    have e:8+j - t.cs.length=j:=by simp[T.cs]
    rw[e];exact hj)
   rw[show o+8+j=o+(8+j) by omega];exact this
theorem ZtA{m:Mem}{a:Option Addr}{l:List T}(h:rowRd m a (Zcg l))(hr:∀t∈l,Rep m t)(hl:l.length<=1000000000000000):RepL m a l:=by
 refine⟨hl,?_⟩
 cases l with
 | nil=>exact .inl rfl
 | cons t l=>
  rcases h with h|⟨b,o,h1,h2⟩
  ·simp[Zcg,T.cs]at h
  ·exact .inr ⟨b,o,h1,Zqh h2 hr⟩
theorem ZdY{m:Mem}{a:Option Addr}{l:List T}(h:RepL m a l):rowRd m a (Zcg l):=by
 have key:∀(l:List T)(b o:Nat),RepAt m b o l->m.reads b o (Zcg l):=by
  intro l
  induction l with
  | nil=>intro b o _ j v hj;simp[Zcg]at hj
  | cons t l ih=>
   intro b o hr j v hj
   simp only[RepAt]at hr
   simp only[Zcg,List.map_cons,List.flatten_cons]at hj
   by_cases aC:j < 8
   ·rw[zA5 (by simpa[T.cs]using aC)]at hj
    exact hr.1 j v hj
   ·rw[zA4 (by simp[T.cs];omega)]at hj
    have:=ih b (o+8) hr.2.2 (j - 8) v (by simpa[T.cs,Zcg]using hj)
    rw[show o+8+(j - 8)=o+j by omega]at this;exact this
 rcases h.2 with h|⟨b,o,h1,h2⟩
 ·subst h;exact .inl rfl
 ·exact .inr ⟨b,o,h1,key l b o h2⟩
theorem Zi2{m:Mem}{a:Option Addr}{l:List T}(h:RepL m a l):∀t∈l,Rep m t:=by
 rcases h.2 with h|⟨b,o,_,h⟩
 ·subst h;simp
 ·intro t ht
  obtain⟨i,hi⟩:=List.getElem?_of_mem ht
  exact(h.get hi).2
def ZAP(j:Nat)(w c:Nat):Nat:=if c / 64=j then w|||2 ^ (c % 64)else w
def Zte(bs:List Nat)(j:Nat):Nat:=bs.foldl (ZAP j) 0
theorem Zr3(l:List Nat)(c j:Nat):Zte (l++[c]) j=if c / 64=j then Zte l j|||2 ^ (c % 64)else Zte l j:=by
 unfold Zte
 rw[List.foldl_append];rfl
theorem ZtB(l:List Nat)(j:Nat):Zte l j < 18446744073709551616:=by
 have key:∀(l:List Nat)(w:Nat),w < 2 ^ 64->l.foldl (ZAP j) w < 2 ^ 64:=by
  intro l
  induction l with
  | nil=>intro w h;exact h
  | cons c l ih=>
   intro w h
   refine ih _ ?_
   unfold ZAP
   split
   ·exact Nat.or_lt_two_pow h (Nat.pow_lt_pow_right (by omega) (by omega))
   ·exact h
 exact key l 0 (by decide)
def Zi3(bs:List Nat):T:=.node 2 (Zte bs 0:Nat) (Zte bs 1:Nat) (Zte bs 2:Nat) (Zte bs 3:Nat) 0 0 none 0 []
theorem Znp(bs:List Nat)(m:Mem):Rep m (Zi3 bs):=by
 simp only[Zi3,Rep]
 have h:=ZtB bs
 exact⟨by simp,.inl trivial,⟨by omega,⟨by omega,by have:=h 0;omega⟩,⟨by omega,by have:=h 1;omega⟩,⟨by omega,by have:=h 2;omega⟩,⟨by omega,by have:=h 3;omega⟩,by omega,by omega⟩⟩
def ZtC(bs:List Nat):List Value:=[.int .u64 (Zte bs 0:Nat),.int .u64 (Zte bs 1:Nat),.int .u64 (Zte bs 2:Nat),.int .u64 (Zte bs 3:Nat)]
theorem Zr4(bs:List Nat){j:Nat}(h:j < 4):(ZtC bs)[j]?=some (.int .u64 (Zte bs j:Nat)):=by
 have:j=0\/j=1\/j=2\/j=3:=by omega
 rcases this with rfl|rfl|rfl|rfl <;> rfl
theorem Zpj(l:List Nat){c j:Nat}(hj:c / 64=j)(h:j < 4):ZaF (ZtC l) j [.int .u64 ((Zte l j|||2 ^ (c % 64):Nat):Int)]=ZtC (l++[c]):=by
 unfold ZtC
 simp only[Zr3,hj]
 have:j=0\/j=1\/j=2\/j=3:=by omega
 rcases this with rfl|rfl|rfl|rfl <;> rfl
def Zdb(n:Nat):List Nat:=([[97],[98],[97,98],[97],[98],[99],[97,98,99],[98,99],[10],[0,255],[97],[98]][n % 12]?).getD []
end Go.Rx
namespace Go.Rx
open Go Go.Eng
inductive E where
 | node (k:Int) (x:Nat) (s:ByteArray) (g:Int) (a:Option Addr) (c:Nat) (subs:List E)
def E.k:E->Int
 | .node k _ _ _ _ _ _=>k
def E.x:E->Nat
 | .node _ x _ _ _ _ _=>x
def E.s:E->ByteArray
 | .node _ _ s _ _ _ _=>s
def E.g:E->Int
 | .node _ _ _ g _ _ _=>g
def E.a:E->Option Addr
 | .node _ _ _ _ a _ _=>a
def E.c:E->Nat
 | .node _ _ _ _ _ c _=>c
def E.subs:E->List E
 | .node _ _ _ _ _ _ l=>l
def E.sl(t:E):Value:=.slice t.a t.subs.length t.c
def E.cs(t:E):List Value:=[.int .u8 t.k,.float .f64 t.x,.string t.s,.int .i64 t.g,t.sl]
def E.v(t:E):Value:=.agg #[.int .u8 t.k,.float .f64 t.x,.string t.s,.int .i64 t.g,.slice t.a t.subs.length t.c]
def E0:E:=.node 0 0 .empty 0 none 0 []
structure OkE (k:Int)(s:ByteArray)(g:Int):Prop where
 k:0<=k/\k < 256
 s:s.size<=1000000000000000
 g : -9223372036854775808<=g/\g<=9223372036854775807
mutual
def RepE(m:Mem):E->Prop
 | .node k x s g a _ l=>l.length<=1000000000000000/\(l=[]\/∃b o,a=some ⟨b,o,none⟩/\RepEAt m b o l)/\OkE k s g
def RepEAt(m:Mem)(b:Nat):Nat->List E->Prop
 | _,[]=>True
 | o,t::l=>m.reads b o t.cs/\RepE m t/\RepEAt m b (o+5) l
end
theorem Zyy(m:Mem):RepE m E0:=by simp only[E0,RepE];exact⟨by simp,.inl trivial,by constructor <;> decide⟩
theorem Zeo{m:Mem}{t:E}:RepE m t->(t.subs.length<=1000000000000000/\(t.subs=[]\/∃b o,t.a=some ⟨b,o,none⟩/\RepEAt m b o t.subs)):=by
 cases t;simp only[RepE,E.subs,E.a];exact λh=>⟨h.1,h.2.1⟩
theorem ZtD{m:Mem}{t:E}:RepE m t->OkE t.k t.s t.g:=by
 cases t;simp only[RepE];exact λh=>h.2.2
mutual
theorem RepE.mono{m m':Mem}(h:m.le m'):∀t:E,RepE m t->RepE m' t
 | .node _ _ _ _ a _ l,hr=>by
  simp only[RepE]at *
  refine⟨hr.1,?_,hr.2.2⟩
  rcases hr.2.1 with hr|⟨b,o,h1,h2⟩
  ·exact .inl hr
  ·exact .inr ⟨b,o,h1,RepEAt.mono h b o l h2⟩
theorem RepEAt.mono{m m':Mem}(h:m.le m')(b:Nat):∀(o:Nat)(l:List E),RepEAt m b o l->RepEAt m' b o l
 | _,[],_=>by simp only[RepEAt]
 | o,t::l,hr=>by
  simp only[RepEAt]at *
  exact⟨hr.1.mono h,RepE.mono h t hr.2.1,RepEAt.mono h b (o+5) l hr.2.2⟩
end
theorem RepE.mono'{m m':Mem}{t:E}(hr:RepE m t)(h:m.le m'):RepE m' t:=RepE.mono h t hr
theorem RepEAt.mono'{m m':Mem}{b o:Nat}{l:List E}(hr:RepEAt m b o l)(h:m.le m'):RepEAt m' b o l:=RepEAt.mono h b o l hr
theorem RepEAt.get{m:Mem}{b:Nat}:∀{o:Nat} {l:List E} {i:Nat} {t:E},RepEAt m b o l->l[i]?=some t->m.reads b (o+i*5) t.cs/\RepE m t
 | o,[],i,t,_,hi=>by simp at hi
 | o,x::l,0,t,h,hi=>by
  simp only[RepEAt]at h
  simp at hi;subst hi
  exact⟨by simpa using h.1,h.2.1⟩
 | o,x::l,i+1,t,h,hi=>by
  simp only[RepEAt]at h
  have:=h.2.2.get (i:=i) (by simpa using hi)
  rw[show o+(i+1)*5=o+5+i*5 by omega]
  exact this
mutual
def E.nodes:E->List E
 | .node k x s g a c l=>.node k x s g a c l::Zam l
def Zam:List E->List E
 | []=>[]
 | t::l=>t.nodes++Zam l
end
theorem Zbg(t:E):t.nodes=t::Zam t.subs:=by cases t;simp only[E.nodes,E.subs]
theorem ZaW(l r:List E):Zam (l++r)=Zam l++Zam r:=by
 induction l with
 | nil=>simp[Zam]
 | cons t l ih=>simp[Zam,ih,List.append_assoc]
theorem Zep{l:List E}{i:Nat}{t:E}(h:l[i]?=some t):Zam (l.take (i+1))=Zam (l.take i)++t.nodes:=by
 have:l.take (i+1)=l.take i++[t]:=by
  rw[List.take_add_one,h];rfl
 rw[this,ZaW];simp[Zam]
theorem Zcd{l:List E}{i:Nat}{t:E}(h:l[i]?=some t):Zam l=Zam (l.take i)++(t.nodes++Zam (l.drop (i+1))):=by
 have aC:=(zA0 h).1
 have e:l=l.take i++(t::l.drop (i+1)):=by
  have:=List.drop_eq_getElem_cons aC
  rw[(zA0 h).2]at this
  rw[<-this,List.take_append_drop]
 conv=>lhs;rw[e,ZaW]
 simp[Zam]
theorem Zr5{t x z:E}{i q:Nat}(hx:t.subs[i]?=some x)(hz:x.nodes[q]?=some z):t.nodes[1+(Zam (t.subs.take i)).length+q]?=some z:=by
 have hq:=(zA0 hz).1
 rw[Zbg,show 1+(Zam (t.subs.take i)).length+q=((Zam (t.subs.take i)).length+q)+1 by omega,List.getElem?_cons_succ,Zcd hx,zA4 (by omega),zA5 (by omega),show(Zam (List.take i t.subs)).length+q - (Zam (List.take i t.subs)).length=q by omega]
 exact hz
theorem ZgF{t x:E}(h:x∈t.subs):SizeOf.sizeOf x < SizeOf.sizeOf t:=by
 cases t with
 | node k x s g a c l=>
  have h':_∈l:=h
  have:=List.sizeOf_lt_of_mem h'
  simp only[E.node.sizeOf_spec]
  omega
theorem Zku(t:E):Shape.fitsL [.agg [.int .u8,.any,.str,.int .i64,.slice]] [t.v]=true:=by
 simp[Shape.fitsL,Shape.fits,E.v]
mutual
theorem Znq{m:Mem}:∀(t:E),RepE m t->∀x∈t.nodes,RepE m x
 | .node k x s g a c l,hr,z,hx=>by
  simp only[E.nodes,List.mem_cons]at hx
  rcases hx with rfl|hx
  ·exact hr
  ·simp only[RepE]at hr
   rcases hr.2.1 with h|⟨b,o,_,h⟩
   ·subst h;simp[Zam]at hx
   ·exact Zkv b o l h z hx
theorem Zkv{m:Mem}(b:Nat):∀(o:Nat)(l:List E),RepEAt m b o l->∀x∈Zam l,RepE m x
 | _,[],_,x,hx=>by simp[Zam]at hx
 | o,t::l,hr,x,hx=>by
  simp only[RepEAt]at hr
  simp only[Zam,List.mem_append]at hx
  rcases hx with hx|hx
  ·exact Znq t hr.2.1 x hx
  ·exact Zkv b (o+5) l hr.2.2 x hx
end
theorem Zpk{m:Mem}{t x:E}(h:RepE m t)(hx:x∈t.nodes):RepE m x:=Znq t h x hx
def Zyz:Nat:=9221120237041090561
def ZfV(x:Nat):Nat:=if Op.floatEq .f64 x x then x else Zyz
def Znr(x y:Nat):Bool:=ZfV x == ZfV y
def Zi4(x:Nat):Bool:=Op.floatEq .f64 x x||x == Zyz
def E.light(t:E):Bool:=decide (t.nodes.length<=10000)
def E.size(t:E):Int:=if t.light then t.nodes.length else 0
mutual
def E.same:E->E->Bool
 | .node k x s g _ _ l,.node k' x' s' g' _ _ l'=>k == k'&&(Znr x x'&&(s.toList == s'.toList&&(g == g'&&Zck l l')))
def Zck:List E->List E->Bool
 | [],[]=>true
 | t::l,t'::l'=>t.same t'&&Zck l l'
 | _,_=>false
end
theorem Zqi(t u:E):t.same u=(t.k == u.k&&(Znr t.x u.x&&(t.s.toList == u.s.toList&&(t.g == u.g&&Zck t.subs u.subs)))):=by
 cases t;cases u;simp only[E.same,E.k,E.x,E.s,E.g,E.subs]
theorem Zkw:∀{l r:List E},¬l.length=r.length->Zck l r=false
 | [],[],h=>by simp at h
 | [],_::_,_=>by simp[Zck]
 | _::_,[],_=>by simp[Zck]
 | x::l,y::r,h=>by
  simp only[Zck,Zkw (l:=l) (r:=r) (by simpa using h),Bool.and_false]
theorem Zns:∀{l r:List E} {i:Nat} {x y:E},l[i]?=some x->r[i]?=some y->x.same y=false->Zck l r=false
 | [],r,i,x,y,h,_,_=>by simp at h
 | _::_,[],i,x,y,_,h,_=>by simp at h
 | a::l,b::r,0,x,y,h,k,e=>by
  simp at h k;subst h k
  simp[Zck,e]
 | a::l,b::r,i+1,x,y,h,k,e=>by
  simp only[Zck,Zns (l:=l) (r:=r) (i:=i) (by simpa using h) (by simpa using k) e,Bool.and_false]
theorem Zio:∀{l r:List E} {i:Nat} {x y:E},l[i]?=some x->r[i]?=some y->Zck (l.take i) (r.take i)=true->x.same y=true->Zck (l.take (i+1)) (r.take (i+1))=true
 | [],r,i,x,y,h,_,_,_=>by simp at h
 | _::_,[],i,x,y,_,h,_,_=>by simp at h
 | a::l,b::r,0,x,y,h,k,_,e=>by
  simp at h k;subst h k
  simp[Zck,e]
 | a::l,b::r,i+1,x,y,h,k,hs,e=>by
  simp only[List.take_succ_cons,Zck,zA7]at hs ⊢
  exact⟨hs.1,Zio (by simpa using h) (by simpa using k) hs.2 e⟩
def E.most(t:E):Int:=if t.light then t.nodes.foldl (λn x=>if x.k=10 then(if x.g > n then x.g else n)else n) (-1)else -1
mutual
def E.names:E->List ByteArray->List ByteArray
 | .node k _ s _ _ _ l,out=>if k=9 then(if out.any (λy=>y.toList == s.toList)then out else out++[s])else ZbD l out
def ZbD:List E->List ByteArray->List ByteArray
 | [],out=>out
 | t::l,out=>ZbD l (t.names out)
end
theorem Znt(t:E)(out:List ByteArray):t.names out=if t.k=9 then(if out.any (λy=>y.toList == t.s.toList)then out else out++[t.s])else ZbD t.subs out:=by
 cases t;simp only[E.names,E.k,E.s,E.subs];rfl
mutual
theorem Zqj:∀(t:E)(out:List ByteArray),out.length<=(t.names out).length
 | .node k _ s _ _ _ l,out=>by
  simp only[E.names]
  split
  ·split <;> simp
  ·exact Zi5 l out
theorem Zi5:∀(l:List E)(out:List ByteArray),out.length<=(ZbD l out).length
 | [],out=>by simp[ZbD]
 | t::l,out=>by
  simp only[ZbD]
  exact Nat.le_trans (Zqj t out) (Zi5 l _)
end
theorem Zkx(l r:List E)(out:List ByteArray):ZbD (l++r) out=ZbD r (ZbD l out):=by
 induction l generalizing out with
 | nil=>simp[ZbD]
 | cons t l ih=>simp only[List.cons_append,ZbD,ih]
theorem Zpl{l:List E}{i:Nat}{t:E}(h:l[i]?=some t)(out:List ByteArray):ZbD (l.take (i+1)) out=t.names (ZbD (l.take i) out):=by
 have:l.take (i+1)=l.take i++[t]:=by rw[List.take_add_one,h];rfl
 rw[this,Zkx];simp[ZbD]
theorem Zr6{l:List E}{i:Nat}(out:List ByteArray):(ZbD (l.take i) out).length<=(ZbD l out).length:=by
 conv=>rhs;rw[<-List.take_append_drop i l,Zkx]
 exact Zi5 _ _
mutual
theorem ZdZ:∀(t:E)(out:List ByteArray),(t.names out).length<=out.length+t.nodes.length
 | .node k _ s _ _ _ l,out=>by
  simp only[E.names,E.nodes,List.length_cons]
  split
  ·split
   ·omega
   ·rw[zA1,List.length_singleton];omega
  ·have:=ZgG l out
   omega
theorem ZgG:∀(l:List E)(out:List ByteArray),(ZbD l out).length<=out.length+(Zam l).length
 | [],out=>by simp[ZbD]
 | t::l,out=>by
  simp only[ZbD,Zam,zA1]
  have:=ZdZ t out
  have:=ZgG l (t.names out)
  omega
end
def E.vars(t:E):List ByteArray:=if t.light then t.names []else[]
theorem Zr7(s:ByteArray):s.data.toList.length=s.size:=by rw[Array.length_toList];rfl
theorem ZtE(s:ByteArray):∀(n i:Nat)(r:List UInt8),s.size - i=n->ByteArray.toList.loop s i r=r.reverse++s.data.toList.drop i
 | 0,i,r,h=>by
  rw[ByteArray.toList.loop,if_neg (by omega),List.drop_of_length_le (by have:=Zr7 s;omega),List.append_nil]
 | n+1,i,r,h=>by
  have hs:=Zr7 s
  have hi:i < s.size:=by omega
  rw[ByteArray.toList.loop,if_pos hi,ZtE s n (i+1) _ (by omega),List.reverse_cons,List.append_assoc]
  have hd:=List.drop_eq_getElem_cons (l:=s.data.toList) (i:=i) (by omega)
  rw[hd]
  have e:s.get! i=s.data.toList[i]'(by omega):=by
   rw[Array.getElem_toList]
   exact getElem!_pos s.data i hi
  rw[e];rfl
theorem baL(s:ByteArray):s.toList=s.data.toList:=by
 have:=ZtE s _ 0 [] rfl
 simpa[ByteArray.toList]using this
theorem Zr8(s:ByteArray):(s.toList == ByteArray.toList ⟨#[]⟩)=(s.size == 0):=by
 rw[baL,baL,<-Zr7]
 cases h:s.data.toList <;> simp[h] <;> rfl
theorem Zai{α:Type}{cs:α->List Value}{n:Nat}(hn:∀x,(cs x).length=n){m:Mem}{a:Option Addr}{L:List α}(h:rowRd m a (L.map cs).flatten){k:Nat}{t:α}(ht:L[k]?=some t)(h0:0 < n):∃b o,a=some ⟨b,o,none⟩/\m.reads b (o+k*n) (cs t):=by
 have aC:=(zA0 ht).1
 have len:∀l:List α,(l.map cs).flatten.length=l.length*n:=λl=>by
  induction l with
  | nil=>simp
  | cons x l ih=>rw[List.map_cons,List.flatten_cons,zA1,hn,ih,List.length_cons,Nat.succ_mul];omega
 have e:(L.map cs).flatten=((L.take k).map cs).flatten++(cs t++((L.drop (k+1)).map cs).flatten):=by
  have e1:L=L.take k++(t::L.drop (k+1)):=by
   have:=List.drop_eq_getElem_cons aC
   rw[(zA0 ht).2]at this
   rw[<-this,List.take_append_drop]
  conv=>lhs;rw[e1]
  rw[List.map_append,List.flatten_append,List.map_cons,List.flatten_cons]
 have hl:((L.take k).map cs).flatten.length=k*n:=by rw[len,List.length_take,Nat.min_eq_left (by omega)]
 rcases h with h|⟨b,o,ha,h⟩
 ·have:=congrArg List.length h
  rw[len,List.length_nil]at this
  have:0 < L.length*n:=Nat.mul_pos (by omega) h0
  omega
 ·refine⟨b,o,ha,λj v hj=>?_⟩
  have sF:=(zA0 hj).1
  have:=h (k*n+j) v (by rw[e,zA4 (by omega),hl,Nat.add_sub_cancel_left,zA5 sF];exact hj)
  rw[Nat.add_assoc];exact this
theorem ZaY{α:Type}{cs:α->List Value}{n:Nat}(hn:∀x,(cs x).length=n)(l:List α):(l.map cs).flatten.length=l.length*n:=by
 induction l with
 | nil=>simp
 | cons x l ih=>rw[List.map_cons,List.flatten_cons,zA1,hn,ih,List.length_cons,Nat.succ_mul];omega
structure Pt where
 k:Int
 s:ByteArray
 g:Int
 e:E
def Pt.cs(p:Pt):List Value:=[.int .u8 p.k,.string p.s,.int .i64 p.g,.int .u8 p.e.k,.float .f64 p.e.x,.string p.e.s,.int .i64 p.e.g,.slice p.e.a p.e.subs.length p.e.c]
def Pt.v(p:Pt):Value:=.agg p.cs.toArray
structure Ac where
 k:Int
 s:ByteArray
 pa:Option Addr
 pc:Nat
 parts:List Pt
 e:E
def Ac.cs(a:Ac):List Value:=[.int .u8 a.k,.string a.s,.slice a.pa a.parts.length a.pc,.int .u8 a.e.k,.float .f64 a.e.x,.string a.e.s,.int .i64 a.e.g,.slice a.e.a a.e.subs.length a.e.c]
structure Ru where
 k:Int
 bg:Bool
 en:Bool
 t:T
 s:ByteArray
 n:Int
 aa:Option Addr
 ac:Nat
 acts:List Ac
 go:ByteArray
 code:Int
def Ru.cs(r:Ru):List Value:=[.int .u8 r.k,.bool r.bg,.bool r.en,.int .u8 r.t.k,.int .u64 r.t.s0,.int .u64 r.t.s1,.int .u64 r.t.s2,.int .u64 r.t.s3,.int .i64 r.t.mn,.int .i64 r.t.mx,.slice r.t.a r.t.subs.length r.t.c,.string r.s,.int .i64 r.n,.slice r.aa r.acts.length r.ac,.string r.go,.int .i64 r.code]
structure Sta where
 s:ByteArray
 ra:Option Addr
 rc:Nat
 rules:List Ru
def Sta.cs(x:Sta):List Value:=[.string x.s,.slice x.ra x.rules.length x.rc]
structure Va where
 s:ByteArray
 b:Bool
 t:ByteArray
 x:Nat
def Va.cs(v:Va):List Value:=[.string v.s,.bool v.b,.string v.t,.float .f64 v.x]
structure Sc where
 n:Int
 va:Option Addr
 vc:Nat
 vars:List Va
 sa:Option Addr
 sc:Nat
 states:List Sta
def Sc.cs(s:Sc):List Value:=[.int .i64 s.n,.slice s.va s.vars.length s.vc,.slice s.sa s.states.length s.sc]
def Sc.v(s:Sc):Value:=.agg #[.int .i64 s.n,.slice s.va s.vars.length s.vc,.slice s.sa s.states.length s.sc]
theorem Pt.len(p:Pt):p.cs.length=8:=rfl
theorem Ac.len(p:Ac):p.cs.length=8:=rfl
theorem Ru.len(p:Ru):p.cs.length=16:=rfl
theorem Sta.len(p:Sta):p.cs.length=2:=rfl
theorem Va.len(p:Va):p.cs.length=4:=rfl
def I64(n:Int):Prop:=-9223372036854775808<=n/\n<=9223372036854775807
def few:Nat:=100000
structure RepP (m:Mem)(p:Pt):Prop where
 k:0<=p.k/\p.k < 256
 s:p.s.size<=1000000000000000
 g:I64 p.g
 e:RepE m p.e
structure RepA (m:Mem)(a:Ac):Prop where
 k:0<=a.k/\a.k < 256
 s:a.s.size<=1000000000000000
 n:a.parts.length<=few
 row:rowRd m a.pa (a.parts.map Pt.cs).flatten
 all:∀p∈a.parts,RepP m p
 e:RepE m a.e
structure RepR (m:Mem)(r:Ru):Prop where
 k:0<=r.k/\r.k < 256
 t:Rep m r.t
 s:r.s.size<=1000000000000000
 n:I64 r.n
 len:r.acts.length<=few
 row:rowRd m r.aa (r.acts.map Ac.cs).flatten
 all:∀p∈r.acts,RepA m p
 go:r.go.size<=1000000000000000
 code:I64 r.code
structure RepS (m:Mem)(x:Sta):Prop where
 s:x.s.size<=1000000000000000
 len:x.rules.length<=few
 row:rowRd m x.ra (x.rules.map Ru.cs).flatten
 all:∀p∈x.rules,RepR m p
structure RepV (v:Va):Prop where
 s:v.s.size<=1000000000000000
 t:v.t.size<=1000000000000000
structure RepC (m:Mem)(s:Sc):Prop where
 n:I64 s.n
 vlen:s.vars.length<=few
 vrow:rowRd m s.va (s.vars.map Va.cs).flatten
 vall:∀v∈s.vars,RepV v
 len:s.states.length<=few
 row:rowRd m s.sa (s.states.map Sta.cs).flatten
 all:∀x∈s.states,RepS m x
 vcap:s.vars.length<=s.vc
 scap:s.states.length<=s.sc
section
variable {m m':Mem} (h:m.le m')
include h
theorem RepP.mono{p:Pt}(x:RepP m p):RepP m' p:=⟨x.k,x.s,x.g,RepE.mono h _ x.e⟩
theorem RepA.mono{p:Ac}(x:RepA m p):RepA m' p:=⟨x.k,x.s,x.n,x.row.mono h,λp hp=>(x.all p hp).mono h,RepE.mono h _ x.e⟩
theorem RepR.mono{p:Ru}(x:RepR m p):RepR m' p:=⟨x.k,x.t.mono h,x.s,x.n,x.len,x.row.mono h,λp hp=>(x.all p hp).mono h,x.go,x.code⟩
theorem RepS.mono{p:Sta}(x:RepS m p):RepS m' p:=⟨x.s,x.len,x.row.mono h,λp hp=>(x.all p hp).mono h⟩
theorem RepC.mono{p:Sc}(x:RepC m p):RepC m' p:=⟨x.n,x.vlen,x.vrow.mono h,x.vall,x.len,x.row.mono h,λp hp=>(x.all p hp).mono h,x.vcap,x.scap⟩
end
def nE(e:E):Int:=if e.light then e.size else 20001
def ZaB:List Int->Int
 | []=>0
 | x::l=>x+ZaB l
theorem Zi6(l r:List Int):ZaB (l++r)=ZaB l+ZaB r:=by
 induction l with
 | nil=>simp[ZaB]
 | cons x l ih=>simp only[List.cons_append,ZaB,ih];omega
theorem ZfE{α:Type}{l:List α}{i:Nat}{x:α}(f:α->Int)(h:l[i]?=some x):ZaB ((l.take (i+1)).map f)=ZaB ((l.take i).map f)+f x:=by
 rw[List.take_add_one,h,List.map_append,Zi6];simp[ZaB]
theorem ZcX{α:Type}(f:α->Int)(hf:∀x,0<=f x):∀l:List α,0<=ZaB (l.map f)
 | []=>by simp[ZaB]
 | x::l=>by
  have:=ZcX f hf l;have:=hf x
  simp only[List.map_cons,ZaB];omega
theorem ZfF{α:Type}(f:α->Int)(hf:∀x,0<=f x)(l:List α)(i:Nat):ZaB ((l.take i).map f)<=ZaB (l.map f):=by
 have e:ZaB (l.map f)=ZaB ((l.take i).map f)+ZaB ((l.drop i).map f):=by rw[<-Zi6,<-List.map_append,List.take_append_drop]
 have:=ZcX f hf (l.drop i)
 omega
def wA(a:Ac):Int:=1+nE a.e+a.parts.length+ZaB (a.parts.map λp=>nE p.e)
def wR(r:Ru):Int:=1+Zgc r.t.size 20000+(if r.t.light then 0 else 20001)+ZaB (r.acts.map wA)
theorem ZfG(e:E):0<=nE e/\nE e<=20001:=by
 unfold nE E.size E.light
 split
 ·rename_i h
  simp only[decide_eq_true_eq]at h
  first|omega|(rw[if_pos (by simpa using h)];omega)
 ·omega
theorem ZfH(t:T):0<=t.size/\t.size<=10001:=by
 unfold T.size T.light
 split
 ·rename_i h;simp only[decide_eq_true_eq]at h;omega
 ·omega
theorem Zqk(a:Ac):0<=wA a:=by
 have:=(ZfG a.e).1
 have:=ZcX (λp:Pt=>nE p.e) (λp=>(ZfG p.e).1) a.parts
 unfold wA;omega
theorem ZyA(r:Ru):0<=wR r:=by
 have:=ZcX wA Zqk r.acts
 have h1:=(ZfH r.t).1
 have:0<=Zgc r.t.size 20000:=by unfold Zgc;split <;> omega
 unfold wR;split <;> omega
def wS(x:Sta):Int:=ZaB (x.rules.map wR)
theorem ZzO(x:Sta):0<=wS x:=ZcX wR ZyA _
def Sc.weight(s:Sc):Int:=s.vars.length+s.states.length+ZaB (s.states.map wS)
def Sc.light(s:Sc):Bool:=decide (s.weight<=20000)
structure Pl where
 v:Int
 s:Int
 r:Int
 a:Int
 p:Int
deriving DecidableEq
def Pl.cs(p:Pl):List Value:=[.int .i64 p.v,.int .i64 p.s,.int .i64 p.r,.int .i64 p.a,.int .i64 p.p]
def top:Pl:=⟨-1,-1,-1,-1,-1⟩
def Zde(n:Nat)(f:Nat->List Pl):List Pl:=(List.range n).flatMap f
def plA(i k m:Nat)(a:Ac):List Pl:=⟨-1,i,k,m,-1⟩::Zde a.parts.length λn=>[⟨-1,i,k,m,n⟩]
def plR(i k:Nat)(r:Ru):List Pl:=⟨-1,i,k,-1,-1⟩::Zde r.acts.length λm=>match r.acts[m]? with
 | some a=>plA i k m a
 | none=>[]
def plS(i:Nat)(x:Sta):List Pl:=⟨-1,i,-1,-1,-1⟩::Zde x.rules.length λk=>match x.rules[k]? with
 | some r=>plR i k r
 | none=>[]
def Sc.places(s:Sc):List Pl:=if s.light then top::(Zde s.vars.length (λi=>[⟨i,-1,-1,-1,-1⟩])++Zde s.states.length λi=>match s.states[i]? with
 | some x=>plS i x
 | none=>[])else[]
def Zcz:List (Int×Bool)->Int
 | []=>0
 | (e,w)::l=>if w then e else Zcz l
def Zdf(n a b:Int):Bool:=decide (n ≥ a)&&decide (n<=b)
def eqS(a b:ByteArray):Bool:=a.toList == b.toList
def ZAl(c:UInt8):Bool:=(decide (97<=c.toNat)&&decide (c.toNat<=122))||(decide (48<=c.toNat)&&decide (c.toNat<=57))||c.toNat == 95
def ZyX:List ByteArray:=[⟨#[109,105,110]⟩,⟨#[109,97,120]⟩,⟨#[110,117,109]⟩]
def ZfW(s:ByteArray):Bool:=!(s.size == 0||decide (s.size > 16)||decide ((s.data.toList.getD 0 0).toNat < 97)||decide ((s.data.toList.getD 0 0).toNat > 122)||ZyX.any λw=>eqS w s)&&s.data.toList.all ZAl
def ZhA(s:Sc)(name:ByteArray):Bool×Bool:=match s.vars.find? λv=>eqS v.s name with
 | some v=>(v.b,true)
 | none=>(false,false)
def Zdy(s:Sc)(e:E):Bool:=!e.vars.any λn=>!(ZhA s n).1
def Zv1(e:E):Bool:=e.light&&(E0.light&&e.same E0)
def Znu(k:Int):Int:=if k=1 then 1 else if 2<=k/\k<=7 then 2 else 0
def Zr9:List E->Bool
 | u::_=>u.k == 8
 | []=>false
def E.right(t:E):Bool:=!(t.k == 0)&&(decide (t.k<=10)&&((if t.k=9 then ZfW t.s else t.s.size == 0)&&((if t.k=8 then Zi4 t.x else Znr t.x 0)&&((if t.k=10 then decide (t.g ≥ 0)&&decide (t.g<=9)else t.g == 0)&&((t.subs.length:Int) == Znu t.k&&!(t.k == 1&&(t.subs.length == 1&&Zr9 t.subs)))))))
def E.clean(t:E):Bool:=t.light&&t.nodes.all E.right
def Znv(s:Sc):Int:=Zcz [(300,!Zdf s.n 2 256),(302,!Zdf s.states.length 1 24||decide (s.vars.length > 12))]
def ZuI(v:Va):Bool:=if v.b then Zi4 v.x&&v.t.size == 0 else v.x == 0&&decide (v.t.size<=512)
def ZcM(s:Sc)(i:Nat)(v:Va):Int:=Zcz [(301,!ZfW v.s||(!ZuI v||(s.vars.take i).any λx=>eqS x.s v.s))]
def Znw(s:Sc)(i:Nat)(x:Sta):Int:=Zcz [(303,!ZfW x.s||(decide (x.rules.length > 12)||(s.states.take i).any λy=>eqS y.s x.s))]
def Zz9(r:Ru):Bool:=r.bg||(r.en||!(r.t.light&&(T0.light&&r.t.same T0)))
def Zql(r:Ru):Bool:=if r.k=2 then !Zz9 r&&(r.n == 0&&Zdf r.s.size 1 64)else if r.k=4 then !Zz9 r&&(r.s.size == 0&&Zdf r.n 1 1000)else if r.k=3 then !Zz9 r&&(r.s.size == 0&&r.n == 0)else if r.k=1 then r.s.size == 0&&r.n == 0 else false
def Zdp(r:Ru):Int:=if r.k=1 then r.t.groups else if r.k=2 then 0 else -1
def Zsa(s:Sc)(name:ByteArray):Bool:=(s.states.any λx=>eqS x.s name)&&s.light
def Zqm(s:Sc)(r:Ru)(total:Int):Int:=Zcz [(304,!Zql r||decide (r.acts.length > 8)),(305,r.k == 1&&(!(r.t.check == 0)||decide (total > 600))),
 (306,if r.go.size=0 then !Zdf r.code 0 255 else !Zsa s r.go||!(r.code == 0))]
def Zd0(s:Sc)(r:Ru)(a:Ac):Int:=Zcz [(307,!Zdf a.k 1 3||(a.k == 1&&!(a.s.size == 0))||(a.k == 3&&decide (a.parts.length > 0))||(a.k == 3&&!a.e.clean)||(!(a.k == 3)&&!Zv1 a.e)||decide (a.parts.length > 16)),
 (308,(!(a.k == 1)&&(!(ZhA s a.s).2||!((ZhA s a.s).1 == (a.k == 3))))||(a.k == 3&&!Zdy s a.e)),(309,a.k == 3&&decide (a.e.most > Zdp r))]
def ZfX(p:Pt):Bool:=if p.k=1 then decide (p.s.size > 0)&&(decide (p.s.size<=512)&&(p.g == 0&&Zv1 p.e))else if p.k=2 then ZfW p.s&&(p.g == 0&&Zv1 p.e)else if p.k=3 then decide (p.g ≥ 0)&&(decide (p.g<=9)&&(p.s.size == 0&&Zv1 p.e))else if p.k=4 then p.e.clean&&(p.s.size == 0&&p.g == 0)else false
def ZlX(s:Sc)(r:Ru)(l:List Pt)(i:Nat)(p:Pt):Int:=Zcz [(307,!ZfX p||(decide (i > 0)&&(p.k == 1&&(match l[i - 1]? with
 | some q=>q.k == 1
 | none=>false)))),(308,(p.k == 2&&!(ZhA s p.s).2)||(p.k == 4&&!Zdy s p.e)),(309,(p.k == 3&&decide (p.g > Zdp r))||(p.k == 4&&decide (p.e.most > Zdp r)))]
def sizeR(r:Ru):Int:=if r.k=1 then r.t.size else 0
def totals(s:Sc)(i k:Nat):Int:=ZaB ((s.states.take i).map λx=>ZaB (x.rules.map sizeR))+(match s.states[i]? with
 | some x=>ZaB ((x.rules.take (k+1)).map sizeR)
 | none=>0)
def atS(s:Sc)(p:Pl):Int:=if p.v ≥ 0 then(match s.vars[p.v.toNat]? with
  | some v=>ZcM s p.v.toNat v
  | none=>0)else if p.s < 0 then Znv s else match s.states[p.s.toNat]? with
  | none=>0
  | some x=>if p.r < 0 then Znw s p.s.toNat x else match x.rules[p.r.toNat]? with
   | none=>0
   | some r=>if p.a < 0 then Zqm s r (totals s p.s.toNat p.r.toNat)else match r.acts[p.a.toNat]? with
    | none=>0
    | some a=>if p.p < 0 then Zd0 s r a else match a.parts[p.p.toNat]? with
     | none=>0
     | some q=>ZlX s r a.parts p.p.toNat q
def Sc.problems(s:Sc):List (Pl×Int):=s.places.filterMap λp=>if atS s p=0 then none else some (p,atS s p)
def Sc.check(s:Sc):Pl×Int:=if s.light then(match s.problems with
 | p::_=>p
 | []=>(top,0))else(top,5)
end Go.Rx
namespace Go.Rx
open Go Go.Eng Go.RowKit
theorem Znx(w:World)(b:Nat)(f:Array Value->Array Value){cur:Array Value}{T:TypeId}{fr:Nat×Nat}(h:w.heap[b]?=some (.cells cur T fr)):(Go.Sort.mapBlock w b f).heap[b]?=some (.cells (f cur) T fr):=by
 unfold Go.Sort.mapBlock
 simp only[Array.getElem?_modify,if_true,h,Option.map_some]
 rfl
theorem Zlh(w:World)(b:Nat)(f:Array Value->Array Value){k:Nat}(h:k≠b):(Go.Sort.mapBlock w b f).heap[k]?=w.heap[k]?:=by
 unfold Go.Sort.mapBlock
 simp only[Array.getElem?_modify]
 rw[if_neg (λe=>h e.symm)]
theorem ZuJ(w:World):Go.Sort.grow w #[]=w:=by
 unfold Go.Sort.grow;rw[Array.append_empty]
section
variable {α:Type} [Inhabited α] (enc:α->Value)
set_option maxHeartbeats 1600000 in
theorem Zip{P:Program}{g:FuncId}{zs ys:List α}{vf:Option Addr->Value}{a:Option Addr}{c N:Nat}{m:Mem}
  (wM:Zee P g) (hr:rowRd m a (zs.map enc)) (hl:ys.length=zs.length) (hN:zs.length<=N)
  (h0:zs=[]->∀w:World,Calls P g #[.slice a 0 c] w λe w'=>e=.returned (vf a)/\w'=w)
  (h1:zs≠[]->∀(b o:Nat)(w:World),a=some ⟨b,o,none⟩->zs.length<=c->Go.Sort.Holds enc w b o zs.toArray->b < w.heap.size->Calls P g #[.slice (some ⟨b,o,none⟩) zs.length c] w λe w'=>e=.returned (vf a)/\∃n os,w'=Go.Sort.grow (Go.Sort.putRow enc (Go.Sort.ahead w n) b o ys.toArray) os):
  CXY P g #[.slice a zs.length c] m (λk=>(Tok.mk (.slice a N c) 1).blk=some k) [] [⟨.slice a N c,1⟩]
   (λv m' css tvs=>v=vf a/\css=[]/\tvs=[.slice a N c]/\rowRd m' a (ys.map enc)):=by
 refine⟨wM,λw hs _ _ ht i6 hY=>?_⟩
 obtain⟨aR,yD⟩:=ht _ (List.mem_singleton.2 rfl)
 by_cases hz:zs=[]
 ·subst hz
  obtain rfl:ys=[]:=List.eq_nil_of_length_eq_zero (by simpa using hl)
  refine(h0 rfl w).mono ?_
  rintro e w' ⟨rfl,rfl⟩
  refine⟨_,m,[],[.slice a N c],rfl,Mem.off_le _ _,hs,NewM.refl _ _,Upd.refl _ _,rfl,λi x cs hi=>by simp at hi,rfl,λi t tv hi hv=>?_,i6,rfl,rfl,rfl,.inl (by simp)⟩
  cases i with
  | zero=>
   simp at hi hv;subst hi hv
   exact⟨rfl,aR,λb hb=>⟨.inl hb,by simp⟩⟩
  | succ i=>simp at hi
 ·have cM:(zs.map enc)≠[]:=by simp[hz]
  rcases hr with hr|⟨b,o,rfl,cG⟩
  ·exact absurd hr cM
  rcases aR with h2|⟨b',o',n',c',cur,T,fr,hv,gK,hh,bE,eI,cV⟩
  ·cases h2
  simp only[Value.slice.injEq,Option.some.injEq,Addr.mk.injEq,and_true]at hv
  obtain⟨⟨rfl,rfl⟩,rfl,rfl⟩:=hv
  simp only[Nat.mul_one]at bE cV
  have py:b < w.heap.size:=(Array.getElem?_eq_some_iff.1 hh).1
  have hH:Go.Sort.Holds enc w b o zs.toArray:=λj hj=>by
   have hj':j < zs.length:=by simpa using hj
   have e:zs.toArray[j]! = zs[j]:=by rw[getElem!_pos _ j hj];simp
   refine⟨?_,?_⟩
   ·have:=hs _ _ _ (cG j (enc zs[j]) (by simp[hj']))
    rw[this,e]
   ·have h2:=eI (o+j) (by omega)
    obtain⟨f1,f2⟩:=fr
    simp only[World.frozen?,hh,Bool.and_eq_false_iff,decide_eq_false_iff_not]
    simp only at h2
    omega
  refine(h1 hz b o w rfl (by omega) hH py).mono ?_
  rintro e w' ⟨rfl,n,os,hw'⟩
  have nu:(Go.Sort.putRow enc (Go.Sort.ahead w n) b o ys.toArray).heap.size=w.heap.size:=by simp[Go.Sort.putRow,Go.Sort.mapBlock,Go.Sort.ahead]
  have eT:w'.heap[b]?=some (.cells (Go.Sort.putCells enc o ys.toArray cur) T fr):=by
   rw[hw',Go.Sort.heap_grow_old _ _ (by rw[nu];exact py)];exact Znx _ b _ hh
  have fI:∀k,k < w.heap.size->k≠b->w'.heap[k]?=w.heap[k]?:=λk aC hk=>by
   rw[hw',Go.Sort.heap_grow_old _ _ (by rw[nu];exact aC)];exact Zlh _ b _ hk
  have sG:(Go.Sort.putCells enc o ys.toArray cur).size=cur.size:=by simp[Go.Sort.putCells]
  have bO:∀k:Nat,(Go.Sort.putCells enc o ys.toArray cur)[k]?=if o<=k/\k < o+zs.length then(ys.map enc)[k - o]? else cur[k]?:=λk=>by
   simp only[Go.Sort.putCells,Array.getElem?_mapIdx]
   by_cases hk:o<=k/\k < o+zs.length
   ·rw[if_pos hk,Array.getElem?_eq_getElem (by omega),Option.map_some,if_pos (by simp;omega)]
    have:k - o < ys.length:=by omega
    rw[getElem!_pos _ (k - o) (by simpa using this)]
    have e2:(ys.map enc)[k - o]?=some (enc (ys[k - o]'this)):=by
     rw[List.getElem?_map,zA3 this];rfl
    rw[e2];simp
   ·rw[if_neg hk]
    cases cur[k]? with
    | none=>rfl
    | some y=>rw[Option.map_some,if_neg (by simp;omega)]
  have sH:∀k e,m.k k=some e->k≠b:=λk e he fl=>by
   obtain⟨es,cl,h8,_⟩:=hs.k k e he
   rw[fl,hh]at h8;cases h8
  refine⟨_,m.upd b o (ys.map enc),[],[.slice (some ⟨b,o,none⟩) N c],rfl,⟨λb1 o1 v hv=>?_,λb1 e he=>Mem.off_le m _ |>.k b1 e he⟩,⟨λb1 o1 v hv=>?_,λb1 e he=>(hs.k b1 e he).same (fI b1 (hs.k b1 e he).lt (sH b1 e he))⟩,⟨λb1 o1 u hu=>?_,λ_ _ he=>.inl he⟩,⟨by rw[hw'];rfl,by rw[hw'];rfl,by rw[hw'];rfl,?_,λk hk hn=>?_,λk aC hk=>?_⟩,rfl,λi x cs hi=>by simp at hi,rfl,λi t tv hi hv=>?_,?_,rfl,rfl,rfl,.inr ⟨b,o,rfl,λj v hv=>?_⟩⟩
  ·have eD:b1≠b:=λe=>by
    subst e
    rw[Mem.off_free (by rfl)]at hv;cases hv
   rw[Mem.upd_other _ eD];exact(Mem.off_le _ _).c _ _ _ hv
  ·by_cases eD:b1=b
   ·subst eD
    simp only[World.cell?,eT,Option.isSome_none,Bool.false_eq_true,if_false]
    rw[bO]
    simp only[Mem.upd,true_and]at hv
    have aH:(ys.map enc).length=zs.length:=by simp[hl]
    rw[aH]at hv
    split at hv
    ·rename_i e8
     rw[if_pos e8];exact hv
    ·rename_i e8
     rw[if_neg e8]
     have:=hs _ _ _ hv
     simpa only[World.cell?,hh,Option.isSome_none,Bool.false_eq_true,if_false]using this
   ·rw[Mem.upd_other _ eD]at hv
    rw[ZbH (fI b1 (hs.lt hv) eD)];exact hs _ _ _ hv
  ·by_cases eD:b1=b
   ·subst eD;exact .inr (.inl rfl)
   ·rw[Mem.upd_other _ eD]at hu;exact .inl hu
  ·rw[hw']
   show w.heap.size<=(Go.Sort.grow _ os).heap.size
   have:(Go.Sort.grow (Go.Sort.putRow enc (Go.Sort.ahead w n) b o ys.toArray) os).heap.size=(Go.Sort.putRow enc (Go.Sort.ahead w n) b o ys.toArray).heap.size+os.size:=by simp[Go.Sort.grow]
   rw[this,nu];omega
  ·refine fI k hk λe=>hn (.inr ?_)
   rw[e];rfl
  ·by_cases fl:k=b
   ·subst fl
    intro c1 T1 fr1 sI i hi
    rw[eT]at sI
    simp only[Option.some.injEq,Obj.cells.injEq]at sI
    obtain⟨rfl,rfl,rfl⟩:=sI
    exact eI i (by rw[sG]at hi;exact hi)
   ·exact hk.of_eq (fI k aC fl)
  ·cases i with
   | zero=>
    simp at hi hv;subst hi hv
    refine⟨rfl,.inr ⟨b,o,_,_,_,T,fr,rfl,gK,eT,by rw[sG,Nat.mul_one];exact bE,λi hi=>eI i (by rw[sG]at hi;exact hi),λk jo jp=>?_⟩,λb1 eD=>⟨.inl eD,by simp⟩⟩
    simp only[Nat.mul_one]at jo jp
    simp only[Mem.upd,true_and]
    rw[if_neg (by simp;omega)]
    exact cV k jo jp
   | succ i=>simp at hi
  ·intro i j t t' b1 hi hj _ _
   have hi':=(zA0 hi).1
   have hj':=(zA0 hj).1
   simp at hi' hj'
   omega
  ·have ow:=(zA0 hv).1
   simp only[List.length_map]at ow
   simp only[Mem.upd,true_and]
   rw[if_pos ⟨by omega,by rw[List.length_map];omega⟩,Nat.add_sub_cancel_left];exact hv
end
end Go.Rx
namespace Go.Rx
open Go Go.Eng
theorem ZbS(n:Nat)(f:Nat->List Pl):Zde (n+1) f=Zde n f++f n:=by simp[Zde,List.range_succ,List.flatMap_append]
theorem Zqn{i n:Nat}(h:i<=n)(f:Nat->List Pl):(Zde i f).length<=(Zde n f).length:=by
 induction n with
 | zero=>
  obtain rfl:i=0:=by omega
  exact Nat.le_refl _
 | succ n ih=>
  by_cases e:i=n+1
  ·rw[e];exact Nat.le_refl _
  ·have:=ih (by omega)
   rw[ZbS,zA1];omega
theorem ZfI(n:Nat)(f:Nat->Pl):(Zde n λi=>[f i]).length=n:=by
 induction n with
 | zero=>rfl
 | succ n ih=>rw[ZbS,zA1,ih];rfl
theorem Zl8{α:Type}(l:List α)(F:Nat->List Pl)(g:Nat->α->List Pl)(w:α->Int)(hF:∀i x,l[i]?=some x->F i=g i x)(hw:∀i x,x∈l->((g i x).length:Int)<=w x):∀k,k<=l.length->((Zde k F).length:Int)<=ZaB ((l.take k).map w):=by
 intro k
 induction k with
 | zero=>intro _;simp[Zde,ZaB]
 | succ k ih=>
  intro hk
  have:=ih (by omega)
  have hx:l[k]?=some l[k]:=zA3 (by omega)
  have h2:=hw k l[k] (List.getElem_mem _)
  rw[ZbS,zA1,ZfE w hx,hF k _ hx]
  push_cast
  omega
def Hf(i k:Nat)(r:Ru)(m:Nat):List Pl:=match r.acts[m]? with
 | some a=>plA i k m a
 | none=>[]
def Gf(i:Nat)(x:Sta)(k:Nat):List Pl:=match x.rules[k]? with
 | some r=>plR i k r
 | none=>[]
def Ff(s:Sc)(i:Nat):List Pl:=match s.states[i]? with
 | some x=>plS i x
 | none=>[]
def Pf(i k m n:Nat):List Pl:=[⟨-1,i,k,m,n⟩]
def Vf(i:Nat):List Pl:=[⟨i,-1,-1,-1,-1⟩]
theorem Zsb(i k m:Nat)(a:Ac):plA i k m a=⟨-1,i,k,m,-1⟩::Zde a.parts.length (Pf i k m):=rfl
theorem Zsc(i k:Nat)(r:Ru):plR i k r=⟨-1,i,k,-1,-1⟩::Zde r.acts.length (Hf i k r):=rfl
theorem Zsd(i:Nat)(x:Sta):plS i x=⟨-1,i,-1,-1,-1⟩::Zde x.rules.length (Gf i x):=rfl
theorem Zi7{s:Sc}(h:s.light=true):s.places=top::(Zde s.vars.length Vf++Zde s.states.length (Ff s)):=by unfold Sc.places;rw[if_pos h];rfl
theorem Zpm(s:Sc):s.places.length<=20001:=by
 cases h:s.light with
 | false=>unfold Sc.places;rw[h];simp
 | true=>
  have hw:s.weight<=20000:=by unfold Sc.light at h;exact zA6 h
  rw[Zi7 h,List.length_cons,zA1]
  have h1:(Zde s.vars.length Vf).length=s.vars.length:=ZfI _ _
  have hA:∀i k m (a:Ac),((plA i k m a).length:Int)<=wA a:=λi k m a=>by
   rw[Zsb,List.length_cons,show(Zde a.parts.length (Pf i k m)).length=a.parts.length from ZfI _ _]
   have:=(ZfG a.e).1
   have:=ZcX (λp:Pt=>nE p.e) (λp=>(ZfG p.e).1) a.parts
   unfold wA;push_cast;omega
  have hR:∀i k (r:Ru),((plR i k r).length:Int)<=wR r:=λi k r=>by
   rw[Zsc,List.length_cons]
   have:=Zl8 r.acts (Hf i k r) (plA i k) wA (λm a h=>by unfold Hf;rw[h]) (λj x _=>hA i k j x) r.acts.length (Nat.le_refl _)
   rw[List.take_length]at this
   have h1:=(ZfH r.t).1
   have h2:0<=Zgc r.t.size 20000:=by unfold Zgc;split <;> omega
   have h3:((Zde r.acts.length (Hf i k r)).length:Int)<=ZaB (r.acts.map wA):=this
   unfold wR;push_cast;split <;> omega
  have hS:∀i (x:Sta),((plS i x).length:Int)<=1+wS x:=λi x=>by
   rw[Zsd,List.length_cons]
   have:=Zl8 x.rules (Gf i x) (plR i) wR (λm a h=>by unfold Gf;rw[h]) (λj x _=>hR i j x) x.rules.length (Nat.le_refl _)
   rw[List.take_length]at this
   have h3:((Zde x.rules.length (Gf i x)).length:Int)<=ZaB (x.rules.map wR):=this
   unfold wS;push_cast;omega
  have:=Zl8 s.states (Ff s) plS (λx=>1+wS x) (λm a h=>by unfold Ff;rw[h]) (λj x _=>hS j x) s.states.length (Nat.le_refl _)
  rw[List.take_length]at this
  have h3:((Zde s.states.length (Ff s)).length:Int)<=ZaB (s.states.map λx=>1+wS x):=this
  have h4:∀l:List Sta,ZaB (l.map λx=>1+wS x)=l.length+ZaB (l.map wS):=λl=>by
   induction l with
   | nil=>rfl
   | cons x l ih=>simp only[List.map_cons,ZaB,ih,List.length_cons];push_cast;omega
  rw[h4]at h3
  unfold Sc.weight at hw
  omega
theorem Zhn{n:Nat}{f:Nat->List Pl}{p:Pl}(h:p∈Zde n f):∃i,i < n/\p∈f i:=by
 unfold Zde at h
 obtain⟨i,hi,hp⟩:=List.mem_flatMap.1 h
 exact⟨i,List.mem_range.1 hi,hp⟩
def ZBn(s:Sc)(p:Pl):Prop:=(∃i:Nat,p.v=i/\∃v,s.vars[i]?=some v)\/(p.v < 0/\(p.s < 0\/∃i:Nat,p.s=i/\∃x,s.states[i]?=some x/\(p.r < 0\/∃k:Nat,p.r=k/\∃r,x.rules[k]?=some r/\(p.a < 0\/∃j:Nat,p.a=j/\∃a,r.acts[j]?=some a/\(p.p < 0\/∃n:Nat,p.p=n/\∃q,a.parts[n]?=some q)))))
theorem ZyY:(-1:Int) < 0:=by decide
theorem Zv2{α:Type}{l:List α}{n:Nat}(h:n < l.length):∃c,l[n]?=some c:=⟨_,zA3 h⟩
theorem Zny(s:Sc):∀p∈s.places,ZBn s p:=by
 intro p hp
 cases h:s.light with
 | false=>unfold Sc.places at hp;rw[h]at hp;simp at hp
 | true=>
  rw[Zi7 h]at hp
  rcases List.mem_cons.1 hp with rfl|hp
  ·exact .inr ⟨by decide,.inl (by decide)⟩
  rcases List.mem_append.1 hp with hp|hp
  ·obtain⟨i,hi,hp⟩:=Zhn hp
   obtain rfl:p=⟨i,-1,-1,-1,-1⟩:=by simpa[Vf]using hp
   exact .inl ⟨i,rfl,Zv2 hi⟩
  ·obtain⟨i,hi,hp⟩:=Zhn hp
   obtain⟨x,hx⟩:=Zv2 hi
   have hp:p∈plS i x:=by unfold Ff at hp;rw[hx]at hp;exact hp
   rw[Zsd]at hp
   rcases List.mem_cons.1 hp with rfl|hp
   ·exact .inr ⟨ZyY,.inr ⟨i,rfl,x,hx,.inl (ZyY)⟩⟩
   obtain⟨k,hk,hp⟩:=Zhn hp
   obtain⟨r,hr⟩:=Zv2 hk
   have hp:p∈plR i k r:=by unfold Gf at hp;rw[hr]at hp;exact hp
   rw[Zsc]at hp
   rcases List.mem_cons.1 hp with rfl|hp
   ·exact .inr ⟨ZyY,.inr ⟨i,rfl,x,hx,.inr ⟨k,rfl,r,hr,.inl (ZyY)⟩⟩⟩
   obtain⟨j,hj,hp⟩:=Zhn hp
   obtain⟨a,ha⟩:=Zv2 hj
   have hp:p∈plA i k j a:=by unfold Hf at hp;rw[ha]at hp;exact hp
   rw[Zsb]at hp
   rcases List.mem_cons.1 hp with rfl|hp
   ·exact .inr ⟨ZyY,.inr ⟨i,rfl,x,hx,.inr ⟨k,rfl,r,hr,.inr ⟨j,rfl,a,ha,.inl (ZyY)⟩⟩⟩⟩
   obtain⟨n,hn,hp⟩:=Zhn hp
   obtain rfl:p=⟨-1,i,k,j,n⟩:=by simpa[Pf]using hp
   exact .inr ⟨ZyY,.inr ⟨i,rfl,x,hx,.inr ⟨k,rfl,r,hr,.inr ⟨j,rfl,a,ha,.inr ⟨n,rfl,Zv2 hn⟩⟩⟩⟩⟩
end Go.Rx
namespace Go.Rx
open Go Go.Eng Go.RowKit
def T.good(t:T):Bool:=t.nodes.all T.right
def isG(t:T):Bool:=t.k == 6
theorem Zky(p:T->Bool):∀l:List T,(ZaI l).all p=l.all λt=>t.nodes.all p
 | []=>rfl
 | t::l=>by simp only[ZaI,List.all_append,List.all_cons,Zky p l]
theorem Znz(t:T):t.good=(t.right&&t.subs.all T.good):=by
 unfold T.good;rw[Zcq,List.all_cons,Zky]
def grL(l:List T):Nat:=(ZaI l).countP isG
def szL(l:List T):Nat:=(ZaI l).length
def T.gr(t:T):Nat:=t.nodes.countP isG
theorem ZaE(l r:List T):szL (l++r)=szL l+szL r:=by unfold szL;rw[ZcL,zA1]
theorem Zbl(l r:List T):grL (l++r)=grL l+grL r:=by unfold grL;rw[ZcL,List.countP_append]
theorem Zbb(t:T):szL [t]=t.nodes.length:=by simp[szL,ZaI]
theorem ZcN(t:T):grL [t]=t.gr:=by simp[grL,ZaI,T.gr]
theorem Zce(t:T):ZjY [t]=t.pos:=by simp[ZjY]
theorem Zeq(t:T)(l:List T):szL (t::l)=t.nodes.length+szL l:=by simp[szL,ZaI]
theorem Zqo(t:T)(l:List T):grL (t::l)=t.gr+grL l:=by simp[grL,ZaI,T.gr,List.countP_append]
theorem Zi8(t:T):t.nodes.length=1+szL t.subs:=by rw[Zcq,List.length_cons,szL];omega
theorem Zv3(t:T):t.gr=(if isG t=true then 1 else 0)+grL t.subs:=by
 unfold T.gr;rw[Zcq,List.countP_cons,grL];omega
theorem ZnA(l:List T):l.length<=szL l:=by
 induction l with
 | nil=>simp
 | cons t l ih=>rw[Zeq,Zi8,List.length_cons];omega
def Za0(k:Int)(t:T):List T:=if t.k=k then t.subs else if k=3/\t.k=1 then[]else[t]
def Ze2(k:Int)(a:Option Addr)(c:Nat):List T->T
 | []=>T1
 | [x]=>x
 | x::y::l=>ZbR k 0 0 a c (x::y::l)
theorem Zi9{t:T}{k:Int}(h:t.has k=false):∀x∈t.subs,x.k≠k:=by
 intro x hx e
 unfold T.has at h
 have:=List.any_eq_false.1 h x hx
 simp[e]at this
theorem ZuK{t:T}{k:Int}(h:∀x∈t.subs,x.k≠k):t.has k=false:=by
 unfold T.has
 rw[List.any_eq_false]
 intro x hx
 have:=h x hx
 simpa using this
theorem Zja{k:Int}{t:T}(hk:k=3\/k=4)(hg:t.good=true)(hp:t.pos<=10000):(∀x∈Za0 k t,x.good=true/\x.k≠k/\(k=3->x.k≠1))/\szL (Za0 k t)<=t.nodes.length/\grL (Za0 k t)<=t.gr/\ZjY (Za0 k t)<=t.pos:=by
 have hg':=hg
 rw[Znz,zA7,List.all_eq_true]at hg'
 unfold Za0
 split
 ·rename_i dF
  refine⟨λx hx=>⟨hg'.2 x hx,?_⟩,by rw[Zi8];omega,by rw[Zv3];omega,?_⟩
  ·have hr:=hg'.1
   unfold T.right at hr
   rw[zA7]at hr
   have hr:=hr.2
   rcases hk with rfl|rfl
   ·simp only[dF]at hr
    simp at hr
    exact⟨Zi9 hr.2.2 x hx,λ_=>Zi9 hr.2.1 x hx⟩
   ·simp only[dF]at hr
    simp at hr
    exact⟨Zi9 hr.2 x hx,λh=>by omega⟩
  ·rw[Zr2]at hp ⊢
   have h5:¬t.k=5:=by omega
   have h2:¬t.k=2:=by omega
   unfold Zyd at hp ⊢
   rw[if_neg h5,if_neg h2,Int.zero_add]at hp ⊢
   unfold Zgc at hp ⊢
   split at hp
   ·omega
   ·split <;> omega
 ·rename_i dF
  split
  ·refine⟨λx hx=>by simp at hx,by simp[szL,ZaI],by simp[grL,ZaI],?_⟩
   simp only[ZjY];exact(Zlg t).1
  ·rename_i wN
   refine⟨λx hx=>?_,by rw[Zbb];exact Nat.le_refl _,by rw[ZcN];exact Nat.le_refl _,by rw[Zce];exact Int.le_refl _⟩
   simp at hx;subst hx
   exact⟨hg,dF,λh=>λh1=>wN ⟨h,h1⟩⟩
theorem ZnB{k:Int}(hk:k=3\/k=4)(a:Option Addr)(c:Nat):∀{l:List T},(∀x∈l,x.good=true/\x.k≠k/\(k=3->x.k≠1))->(Ze2 k a c l).good=true/\(Ze2 k a c l).nodes.length<=1+szL l/\(Ze2 k a c l).gr<=grL l/\(Ze2 k a c l).pos<=ZjY l
 | [],_=>⟨show T1.good=true by decide,show T1.nodes.length<=1 by decide,show T1.gr<=0 by decide,show T1.pos<=0 by decide⟩
 | [x],h=>by
  rw[Zbb,ZcN,Zce]
  exact⟨(h x (by simp)).1,by show x.nodes.length<=_;omega,Nat.le_refl _,Int.le_refl _⟩
 | x::y::l,h=>by
  show(ZbR k 0 0 a c (x::y::l)).good=true/\(ZbR k 0 0 a c (x::y::l)).nodes.length<=_/\(ZbR k 0 0 a c (x::y::l)).gr<=_/\(ZbR k 0 0 a c (x::y::l)).pos<=_
  have hs:(ZbR k 0 0 a c (x::y::l)).subs=x::y::l:=rfl
  have dF:(ZbR k 0 0 a c (x::y::l)).k=k:=rfl
  have hz:(ZbR k 0 0 a c (x::y::l)).setZ=true:=rfl
  have uO:(ZbR k 0 0 a c (x::y::l)).mn=0:=rfl
  have lG:(ZbR k 0 0 a c (x::y::l)).mx=0:=rfl
  refine⟨?_,by rw[Zi8,hs];exact Nat.le_refl _,?_,?_⟩
  ·rw[Znz,zA7,List.all_eq_true,hs]
   refine⟨?_,λz hz=>(h z hz).1⟩
   have h1:k=3->(ZbR k 0 0 a c (x::y::l)).has 1=false:=λe=>ZuK λz hz=>(h z hz).2.2 e
   have h2:(ZbR k 0 0 a c (x::y::l)).has k=false:=ZuK λz hz=>(h z hz).2.1
   unfold T.right
   rw[dF,hz,uO,lG,hs]
   rcases hk with rfl|rfl
   ·simp[h1 rfl,h2]
   ·simp[h2]
  ·rw[Zv3,hs,isG,dF]
   rcases hk with rfl|rfl <;> simp
  ·rw[Zr2,dF,uO,lG,hs]
   unfold Zyd
   rw[if_neg (by omega),if_neg (by omega),Int.zero_add]
   exact(Zkt _ _).1
structure J (i:Nat)(ts:List T)(u g:Nat):Prop where
 good:∀t∈ts,t.good=true
 sz:szL ts<=i
 pos:ZjY ts<=(i*u:Nat)
 u1:1<=u
 u16:u<=16
 gr:grL ts<=g
 g9:g<=9
theorem J.zero:J 0 [] 1 0:=⟨by simp,by simp[szL,ZaI],by simp[ZjY],by omega,by omega,by simp[grL,ZaI],by omega⟩
theorem J.skip{i ts u g}(h:J i ts u g):J (i+1) ts u g:=
 ⟨h.good,by have:=h.sz;omega,by have:=h.pos;have e:(i+1)*u=i*u+u:=Nat.succ_mul i u;rw[e];omega,h.u1,h.u16,h.gr,h.g9⟩
theorem J.push{i ts u g}(h:J i ts u g){t:T}(hg:t.good=true)(hs:t.nodes.length=1)(hp:t.pos<=1)(hr:t.gr=0):J (i+1) (ts++[t]) u g:=by
 refine⟨λx hx=>?_,?_,?_,h.u1,h.u16,?_,h.g9⟩
 ·rcases List.mem_append.1 hx with hx|hx
  ·exact h.good x hx
  ·simp at hx;subst hx;exact hg
 ·rw[ZaE,Zbb,hs];have:=h.sz;omega
 ·rw[Zbf,Zce];have:=h.pos;have:=h.u1;have e:(i+1)*u=i*u+u:=Nat.succ_mul i u;rw[e];omega
 ·rw[Zbl,ZcN,hr];have:=h.gr;omega
theorem J.pos400{i ts u g}(h:J i ts u g)(hi:i<=25):ZjY ts<=400:=by
 have h1:=h.pos
 have:i*u<=25*16:=Nat.mul_le_mul hi h.u16
 omega
theorem J.join{i ts u g}{x y:T}(h:J i (ts++[x,y]) u g)(hi:i<=25){k:Int}(hk:k=3\/k=4)(a:Option Addr)(c:Nat):J (i+1) (ts++[Ze2 k a c (Za0 k x++Za0 k y)]) u g:=by
 have h4:=h.pos400 hi
 have hz:=h.sz
 have hp:=h.pos
 have lY:=h.gr
 rw[show ts++[x,y]=ts++([x]++[y]) from rfl]at h4 hz hp lY
 rw[Zbf,Zbf,Zce,Zce]at h4 hp
 rw[ZaE,ZaE,Zbb,Zbb]at hz
 rw[Zbl,Zbl,ZcN,ZcN]at lY
 have n1:=Zin ts
 have n2:=(Zlg x).1
 have n3:=(Zlg y).1
 obtain⟨a1,a2,a3,a4⟩:=Zja hk (h.good x (by simp)) (by omega)
 obtain⟨b1,b2,b3,b4⟩:=Zja hk (h.good y (by simp)) (by omega)
 obtain⟨c1,c2,c3,c4⟩:=ZnB hk a c (l:=Za0 k x++Za0 k y) (λz hz=>by
  rcases List.mem_append.1 hz with hz|hz
  ·exact a1 z hz
  ·exact b1 z hz)
 rw[ZaE]at c2
 rw[Zbl]at c3
 rw[Zbf]at c4
 refine⟨λz hz=>?_,?_,?_,h.u1,h.u16,?_,h.g9⟩
 ·rcases List.mem_append.1 hz with hz|hz
  ·exact h.good z (by simp[hz])
  ·simp at hz;subst hz;exact c1
 ·rw[ZaE,Zbb];omega
 ·rw[Zbf,Zce];have e:(i+1)*u=i*u+u:=Nat.succ_mul i u;rw[e];omega
 ·rw[Zbl,ZcN];omega
theorem J.group{i ts u g}{x:T}(h:J i (ts++[x]) u g)(hg:g < 9)(a:Option Addr)(c:Nat):J (i+1) (ts++[ZbR 6 0 0 a c [x]]) u (g+1):=by
 have hz:=h.sz
 have hp:=h.pos
 have lY:=h.gr
 rw[Zbf,Zce]at hp
 rw[ZaE,Zbb]at hz
 rw[Zbl,ZcN]at lY
 have hs:(ZbR 6 0 0 a c [x]).subs=[x]:=rfl
 refine⟨λz hz=>?_,?_,?_,h.u1,h.u16,?_,by omega⟩
 ·rcases List.mem_append.1 hz with hz|hz
  ·exact h.good z (by simp[hz])
  ·simp at hz;subst hz
   rw[Znz,zA7,List.all_eq_true]
   refine⟨rfl,λz hz=>?_⟩
   rw[hs]at hz;simp at hz;subst hz
   exact h.good z (by simp)
 ·rw[ZaE,Zbb,Zi8,hs,Zbb];omega
 ·rw[Zbf,Zce,Zr2,hs,Zce]
  have:Zyd (ZbR 6 0 0 a c [x]).k (ZbR 6 0 0 a c [x]).mn (ZbR 6 0 0 a c [x]).mx ((if(ZbR 6 0 0 a c [x]).k=2 then 1 else 0)+x.pos)<=x.pos:=by
   show Zgc (if(6:Int)=5 then _ else(if(6:Int)=2 then 1 else 0)+x.pos) 10001<=_
   rw[if_neg (by omega),if_neg (by omega),Int.zero_add]
   exact(Zkt _ _).1
  have e:(i+1)*u=i*u+u:=Nat.succ_mul i u
  rw[e];omega
 ·rw[Zbl,ZcN,Zv3,hs,ZcN]
  split <;> omega
theorem J.rep{i ts u g}{x:T}(h:J i (ts++[x]) u g)(hx:x.k≠1){mn mx:Int}(hb:Zr1 mn mx=true){w:Nat}(hw:ZyV mn mx<=w)(h1:1<=w)(hu:u*w<=16)(a:Option Addr)(c:Nat):J (i+1) (ts++[ZbR 5 mn mx a c [x]]) (u*w) g:=by
 have hz:=h.sz
 have hp:=h.pos
 have lY:=h.gr
 rw[Zbf,Zce]at hp
 rw[ZaE,Zbb]at hz
 rw[Zbl,ZcN]at lY
 have hs:(ZbR 5 mn mx a c [x]).subs=[x]:=rfl
 have n1:=Zin ts
 have n2:=(Zlg x).1
 refine⟨λz hz=>?_,?_,?_,?_,hu,?_,h.g9⟩
 ·rcases List.mem_append.1 hz with hz|hz
  ·exact h.good z (by simp[hz])
  ·simp at hz;subst hz
   rw[Znz,zA7,List.all_eq_true]
   refine⟨?_,λz hz=>?_⟩
   ·have hh:(ZbR 5 mn mx a c [x]).has 1=false:=ZuK λz hz=>by rw[hs]at hz;simp at hz;subst hz;exact hx
    unfold T.right
    rw[hh,hs,show(ZbR 5 mn mx a c [x]).k=5 from rfl,show(ZbR 5 mn mx a c [x]).setZ=true from rfl,show(ZbR 5 mn mx a c [x]).mn=mn from rfl,show(ZbR 5 mn mx a c [x]).mx=mx from rfl,hb]
    simp
   ·rw[hs]at hz;simp at hz;subst hz
    exact h.good z (by simp)
 ·rw[ZaE,Zbb,Zi8,hs,Zbb];omega
 ·rw[Zbf,Zce,Zr2,hs,Zce]
  have key:Zyd (ZbR 5 mn mx a c [x]).k (ZbR 5 mn mx a c [x]).mn (ZbR 5 mn mx a c [x]).mx ((if(ZbR 5 mn mx a c [x]).k=2 then 1 else 0)+x.pos)<=x.pos*w:=by
   show Zgc (if(5:Int)=5 then((if(5:Int)=2 then 1 else 0)+x.pos)*ZyV mn mx else _) 10001<=_
   rw[if_pos rfl,if_neg (by omega),Int.zero_add]
   exact Int.le_trans (Zkt _ _).1 (Int.mul_le_mul_of_nonneg_left hw n2)
  have k2:ZjY ts<=ZjY ts*w:=by
   have:=Int.mul_le_mul_of_nonneg_left (show(1:Int)<=w by omega) n1
   rw[Int.mul_one]at this;exact this
  have k3:(ZjY ts+x.pos)*w<=((i*u:Nat):Int)*w:=Int.mul_le_mul_of_nonneg_right hp (by omega)
  rw[Int.add_mul]at k3
  have e:(i+1)*(u*w)=i*u*w+u*w:=by rw[Nat.succ_mul,Nat.mul_assoc]
  have e2:(((i*u:Nat):Int)*w)=((i*u*w:Nat):Int):=by push_cast;rfl
  rw[e2]at k3
  rw[e]
  generalize i*u*w=A at *
  generalize u*w=B at *
  generalize ZjY ts*(w:Int)=D at *
  generalize x.pos*(w:Int)=F at *
  omega
 ·have:=Nat.mul_le_mul h.u1 h1;omega
 ·rw[Zbl,ZcN,Zv3,hs,ZcN,isG,show(ZbR 5 mn mx a c [x]).k=5 from rfl]
  simp;omega
structure F (t:T)(l:List T):Prop where
 good:t.good=true
 goods:∀x∈l,x.good=true
 sz:t.nodes.length+szL l+l.length<=60
 pos:t.pos+ZjY l<=400
 gr:t.gr+grL l<=9
theorem F.start{i u g}{t:T}{l:List T}(h:J i (t::l) u g)(hi:i<=25):F t l:=by
 have h1:=h.sz
 have h2:=h.pos400 hi
 have h3:=h.gr
 rw[Zeq]at h1
 rw[Zqo]at h3
 have:=ZnA l
 have:=h.g9
 exact⟨h.good t (by simp),λx hx=>h.good x (by simp[hx]),by omega,by simpa[ZjY]using h2,by omega⟩
theorem F.step{t x:T}{l:List T}(h:F t (x::l))(a:Option Addr)(c:Nat):F (Ze2 4 a c (Za0 4 t++Za0 4 x)) l:=by
 have h1:=h.sz
 have h2:=h.pos
 have h3:=h.gr
 rw[Zeq,List.length_cons]at h1
 rw[Zqo]at h3
 simp only[ZjY]at h2
 have n1:=Zin l
 have n2:=(Zlg x).1
 have n3:=(Zlg t).1
 obtain⟨a1,a2,a3,a4⟩:=Zja (.inr rfl) h.good (by omega) (t:=t)
 obtain⟨b1,b2,b3,b4⟩:=Zja (.inr rfl) (h.goods x (by simp)) (by omega)
 obtain⟨c1,c2,c3,c4⟩:=ZnB (.inr rfl) a c (l:=Za0 4 t++Za0 4 x) (λz hz=>by
  rcases List.mem_append.1 hz with hz|hz
  ·exact a1 z hz
  ·exact b1 z hz)
 rw[ZaE]at c2
 rw[Zbl]at c3
 rw[Zbf]at c4
 exact⟨c1,λz hz=>h.goods z (by simp[hz]),by omega,by omega,by omega⟩
theorem F.done{t:T}{l:List T}(h:F t l):t.check=0:=by
 have h1:=h.sz
 have h2:=h.pos
 have h3:=h.gr
 have n1:=Zin l
 have hl:t.light=true:=by unfold T.light;exact decide_eq_true (by omega)
 have hc:t.clean=true:=by unfold T.clean;rw[hl];exact h.good
 have hg:((t.nodes.countP λx=>x.k == 6:Nat))=t.gr:=rfl
 unfold T.check
 rw[hc]
 unfold T.size T.positions T.groups
 rw[hl,hg]
 simp only[if_true,Bool.true_eq_false,if_false]
 rw[if_neg (by omega),if_neg (by omega),if_neg (by omega)]
theorem Zqp(n:Nat):(Zi3 (Zdb n)).good=true/\(Zi3 (Zdb n)).nodes.length=1/\(Zi3 (Zdb n)).pos<=1/\(Zi3 (Zdb n)).gr=0:=by
 have h:n % 12=0\/n % 12=1\/n % 12=2\/n % 12=3\/n % 12=4\/n % 12=5\/n % 12=6\/n % 12=7\/n % 12=8\/n % 12=9\/n % 12=10\/n % 12=11:=by omega
 unfold Zdb
 rcases h with e|e|e|e|e|e|e|e|e|e|e|e <;> rw[e] <;> exact⟨by decide,by decide,by decide,by decide⟩
theorem ZwL:T1.good=true/\T1.nodes.length=1/\T1.pos<=1/\T1.gr=0:=⟨by decide,by decide,by decide,by decide⟩
theorem Zd1{k:Int}{t:T}:(Za0 k t).length<=t.nodes.length:=by
 unfold Za0
 have:=ZwI t
 have:=Zi8 t
 split
 ·omega
 ·split <;> simp <;> omega
end Go.Rx
namespace Go.Rx
open Go Go.Eng
set_option maxRecDepth 100000
def Zix:List ByteArray:=[⟨#[120]⟩,⟨#[121]⟩,⟨#[122,95,49]⟩,⟨#[97,98,99,100,101,102,103,104,105,106,107,108,109,110,111,112]⟩]
def ZeI:List ByteArray:=[⟨#[115]⟩,⟨#[116]⟩]
def ZeM:List ByteArray:=[⟨#[97]⟩,⟨#[98]⟩,⟨#[99]⟩,⟨#[100]⟩]
def okN(c:Int)(x:E):Prop:=x.right=true/\(x.k=9->x.s∈Zix)/\(x.k=10->x.g<=c)
structure MkE (c:Int)(n:Nat)(e:E):Prop where
 all:∀x∈e.nodes,okN c x
 len:e.nodes.length<=n
def ZzP(x:Nat):E:=.node 8 x .empty 0 none 0 []
def Zye(s:ByteArray):E:=.node 9 0 s 0 none 0 []
def ZAm(g:Int):E:=.node 10 0 .empty g none 0 []
def Zyf(a:Option Addr)(c:Nat)(x:E):E:=.node 1 0 .empty 0 a c [x]
def opE(k:Int)(a:Option Addr)(c:Nat)(x y:E):E:=.node k 0 .empty 0 a c [x,y]
theorem MkE.mono{c n k e}(h:MkE c n e)(hk:n<=k):MkE c k e:=⟨h.all,Nat.le_trans h.len hk⟩
theorem Zl9{c:Int}{k x s g a d}(h:okN c (.node k x s g a d [])):MkE c 1 (.node k x s g a d []):=by
 refine⟨λy hy=>?_,by simp[E.nodes,Zam]⟩
 simp only[E.nodes,Zam,List.mem_singleton]at hy
 rw[hy];exact h
theorem Zse:Znr 0 0=true:=by decide +kernel
theorem ZtF{c:Int}{x:Nat}(h:Zi4 x=true):MkE c 1 (ZzP x):=by
 refine Zl9 ⟨?_,λe=>absurd (show(8:Int)=9 from e) (by decide),λe=>absurd (show(8:Int)=10 from e) (by decide)⟩
 simp[E.right,E.k,E.s,E.x,E.g,E.subs,Znu,h]
theorem Zqq:∀s∈Zix,ZfW s=true:=by decide +kernel
theorem ZtG:∀s∈ZeI,ZfW s=true:=by decide +kernel
theorem ZtH:∀s∈ZeM,ZfW s=true:=by decide +kernel
theorem ZtI{c:Int}{s:ByteArray}(h:s∈Zix):MkE c 1 (Zye s):=by
 refine Zl9 ⟨?_,λ_=>h,λe=>absurd (show(9:Int)=10 from e) (by decide)⟩
 simp[E.right,E.k,E.s,E.x,E.g,E.subs,Znu,Zqq s h,Zse]
theorem ZwM{c g:Int}(h:0<=g/\g<=9)(hc:g<=c):MkE c 1 (ZAm g):=by
 refine Zl9 ⟨?_,λe=>absurd (show(10:Int)=9 from e) (by decide),λ_=>hc⟩
 simp[E.right,E.k,E.s,E.x,E.g,E.subs,Znu,Zse,h.1,h.2]
theorem ZwN{c:Int}{n:Nat}{a d}{x:E}(h:MkE c n x)(hk:x.k≠8):MkE c (n+1) (Zyf a d x):=by
 refine⟨λy hy=>?_,by have:=h.len;simp[Zyf,E.nodes,Zam];omega⟩
 simp only[Zyf,E.nodes,Zam,List.append_nil,List.mem_cons]at hy
 rcases hy with rfl|hy
 ·refine⟨?_,λe=>absurd (show(1:Int)=9 from e) (by decide),λe=>absurd (show(1:Int)=10 from e) (by decide)⟩
  have h1:E.right (.node 1 0 .empty 0 a d [x])=!Zr9 [x]:=by simp[E.right,E.k,E.s,E.x,E.g,E.subs,Znu,Zse]
  rw[h1]
  show(!(x.k == 8))=true
  simpa using hk
 ·exact h.all y hy
theorem ZwO{c:Int}{n p:Nat}{a d}{k:Int}{x y:E}(hk:2<=k/\k<=7)(h:MkE c n x)(h2:MkE c p y):MkE c (n+p+1) (opE k a d x y):=by
 refine⟨λz hz=>?_,by have:=h.len;have:=h2.len;simp[opE,E.nodes,Zam];omega⟩
 simp only[opE,E.nodes,Zam,List.append_nil,List.mem_cons,List.mem_append]at hz
 rcases hz with rfl|hz|hz
 ·refine⟨?_,λe=>?_,λe=>?_⟩
  ·have h0:¬k=0:=by omega
   have h1:¬k=1:=by omega
   have h9:¬k=9:=by omega
   have h8:¬k=8:=by omega
   have gP:¬k=10:=by omega
   have hs:Znu k=2:=by unfold Znu;rw[if_neg h1,if_pos hk]
   have bU:k<=10:=by omega
   simp[E.right,E.k,E.s,E.x,E.g,E.subs,hs,Zse,h0,h1,h9,h8,gP,bU]
  ·have e:k=9:=e
   omega
  ·have e:k=10:=e
   omega
 ·exact h.all z hz
 ·exact h2.all z hz
theorem MkE.clean{c:Int}{n:Nat}{e:E}(h:MkE c n e)(hn:n<=10000):e.clean=true:=by
 have hl:e.light=true:=by unfold E.light;exact decide_eq_true (Nat.le_trans h.len hn)
 unfold E.clean
 rw[hl,Bool.true_and,List.all_eq_true]
 exact λx hx=>(h.all x hx).1
theorem ZwP{c:Int}(l:List E)(h:∀x∈l,x.k=10->x.g<=c):∀n:Int,n<=c->l.foldl (λn x=>if x.k=10 then(if x.g > n then x.g else n)else n) n<=c:=by
 induction l with
 | nil=>exact λn hn=>hn
 | cons x l ih=>
  intro n hn
  rw[List.foldl_cons]
  refine ih (λy hy=>h y (List.mem_cons_of_mem _ hy)) _ ?_
  split
  ·rename_i hk
   split
   ·exact h x (by simp) hk
   ·exact hn
  ·exact hn
theorem MkE.most{c:Int}{n:Nat}{e:E}(h:MkE c n e)(hc : -1<=c):e.most<=c:=by
 unfold E.most
 split
 ·exact ZwP _ (λx hx=>(h.all x hx).2.2) _ hc
 ·exact hc
mutual
theorem Zqr{A:List ByteArray}:∀(t:E)(out:List ByteArray),(∀x∈t.nodes,x.k=9->x.s∈A)->∀s∈t.names out,s∈out\/s∈A
 | .node k x s g a c l,out,h,z,hz=>by
  simp only[E.names]at hz
  split at hz
  ·rename_i hk
   split at hz
   ·exact .inl hz
   ·rcases List.mem_append.1 hz with hz|hz
    ·exact .inl hz
    ·rw[List.mem_singleton]at hz;subst hz
     exact .inr (h (.node k x z g a c l) (by simp[E.nodes]) hk)
  ·exact ZnC l out (λy hy=>h y (by simp only[E.nodes];exact List.mem_cons_of_mem _ hy)) z hz
theorem ZnC{A:List ByteArray}:∀(l:List E)(out:List ByteArray),(∀x∈Zam l,x.k=9->x.s∈A)->∀s∈ZbD l out,s∈out\/s∈A
 | [],out,_,z,hz=>.inl hz
 | t::l,out,h,z,hz=>by
  simp only[ZbD]at hz
  rcases ZnC l _ (λy hy=>h y (by simp only[Zam];exact List.mem_append_right _ hy)) z hz with hz|hz
  ·exact Zqr t out (λy hy=>h y (by simp only[Zam];exact List.mem_append_left _ hy)) z hz
  ·exact .inr hz
end
theorem MkE.vars{c:Int}{n:Nat}{e:E}(h:MkE c n e):∀s∈e.vars,s∈Zix:=by
 intro s hs
 unfold E.vars at hs
 split at hs
 ·rcases Zqr (A:=Zix) e [] (λx hx=>(h.all x hx).2.1) s hs with h|h
  ·cases h
  ·exact h
 ·cases hs
theorem ZwQ:Zv1 E0=true:=by decide +kernel
inductive MkP (c:Int):Pt->Prop
 | lit (s:ByteArray) (h:0 < s.size/\s.size<=512):MkP c ⟨1,s,0,E0⟩
 | var (s:ByteArray) (h:s∈Zix\/s∈ZeI):MkP c ⟨2,s,0,E0⟩
 | cap (g:Int) (h:0<=g/\g<=9/\g<=c):MkP c ⟨3,.empty,g,E0⟩
 | clc (e:E) (h:MkE c 20 e):MkP c ⟨4,.empty,0,e⟩
def ZAa(l:List Pt):Prop:=∀(i:Nat)(p q:Pt),l[i]?=some p->l[i+1]?=some q->p.k=1->q.k=1->False
structure MkT (c:Int)(l:List Pt):Prop where
 len:l.length<=5
 all:∀p∈l,MkP c p
 ll:ZAa l
inductive MkA (c:Int):Ac->Prop
 | send (a:Option Addr) (n:Nat) (l:List Pt) (h:MkT c l):MkA c ⟨1,.empty,a,n,l,E0⟩
 | set (s:ByteArray) (hs:s∈ZeI) (a:Option Addr) (n:Nat) (l:List Pt) (h:MkT c l):MkA c ⟨2,s,a,n,l,E0⟩
 | let_ (s:ByteArray) (hs:s∈Zix) (e:E) (h:MkE c 20 e):MkA c ⟨3,s,none,0,[],e⟩
def ZyB(r:Ru):Prop:=(r.k=1/\r.t.check=0/\r.t.nodes.length<=26/\r.s=.empty/\r.n=0)\/((r.bg=false/\r.en=false/\r.t=T0)/\((r.k=2/\1<=r.s.size/\r.s.size<=3/\r.n=0)\/(r.k=3/\r.s=.empty/\r.n=0)\/(r.k=4/\r.s=.empty/\1<=r.n/\r.n<=8)))
structure MkR (n:Nat)(r:Ru):Prop where
 kind:ZyB r
 len:r.acts.length<=3
 all:∀a∈r.acts,MkA (Zdp r) a
 go:((∃i,i < n/\ZeM[i]?=some r.go)/\r.code=0)\/(r.go=.empty/\0<=r.code/\r.code<=255)
structure MkS (n i:Nat)(x:Sta):Prop where
 name:ZeM[i]?=some x.s
 len:x.rules.length<=5
 all:∀r∈x.rules,MkR n r
structure MkV (i:Nat)(v:Va):Prop where
 name:(Zix++ZeI)[i]?=some v.s
 kind:(i < 4/\v.b=true/\v.t=.empty/\Zi4 v.x=true)\/(4<=i/\v.b=false/\v.t.size<=3/\v.x=0)
structure MkC (s:Sc):Prop where
 n:2<=s.n/\s.n<=12
 vlen:s.vars.length=6
 vall:∀i v,s.vars[i]?=some v->MkV i v
 len:1<=s.states.length/\s.states.length<=4
 all:∀i x,s.states[i]?=some x->MkS s.states.length i x
theorem Zpn{n:Nat}{e:E}(h:e.nodes.length<=n)(hn:n<=10000):e.light=true:=by unfold E.light;exact decide_eq_true (by omega)
theorem ZzQ{n:Nat}{e:E}(h:e.nodes.length<=n)(hn:n<=10000):nE e<=n:=by
 unfold nE E.size;rw[Zpn h hn];simp;omega
theorem nE0:nE E0<=20:=by decide +kernel
theorem ZgH{α:Type}(f:α->Int)(B:Int)(l:List α)(hf:∀x∈l,f x<=B):ZaB (l.map f)<=l.length*B:=by
 induction l with
 | nil=>simp[ZaB]
 | cons x l ih=>
  have h1:=hf x (by simp)
  have h2:=ih (λy hy=>hf y (by simp[hy]))
  simp only[List.map_cons,ZaB,List.length_cons]
  rw[show((l.length+1:Nat):Int)*B=l.length*B+B by rw[Int.natCast_add,Int.add_mul];simp]
  omega
theorem MkP.nE{c:Int}{p:Pt}(h:MkP c p):nE p.e<=20:=by
 cases h with
 | clc e h=>exact ZzQ (n:=20) h.len (by omega)
 | _=>exact nE0
theorem MkA.w{c:Int}{a:Ac}(h:MkA c a):wA a<=126:=by
 have go:∀{l:List Pt},MkT c l->(l.length:Int)+ZaB (l.map λp=>Rx.nE p.e)<=105:=λ{l} h=>by
  have:=ZgH (λp:Pt=>Rx.nE p.e) 20 l (λp hp=>(h.all p hp).nE)
  have:=h.len
  omega
 have e0:=nE0
 cases h with
 | send a n l h=>have:=go h;simp only[wA];omega
 | set s hs a n l h=>have:=go h;simp only[wA];omega
 | let_ s hs e h=>have:=ZzQ h.len (by omega);simp[wA,ZaB];omega
theorem Zjb{t:T}(h:t.nodes.length<=10000):t.light=true:=by unfold T.light;exact decide_eq_true h
theorem ZnD:T0.size=1/\T0.light=true/\T0.same T0=true:=by decide +kernel
theorem MkR.size{n:Nat}{r:Ru}(h:MkR n r):r.t.light=true/\0<=r.t.size/\r.t.size<=26:=by
 rcases h.kind with⟨_,_,h,_⟩|⟨⟨_,_,h⟩,_⟩
 ·have hl:=Zjb (t:=r.t) (by omega)
  refine⟨hl,?_⟩
  unfold T.size;rw[hl];simp;omega
 ·rw[h,ZnD.1];exact⟨ZnD.2.1,by omega,by omega⟩
theorem MkR.w{n:Nat}{r:Ru}(h:MkR n r):wR r<=405:=by
 obtain⟨h1,h2,h3⟩:=h.size
 have:=ZgH wA 126 r.acts (λa ha=>(h.all a ha).w)
 have:=h.len
 have hi:Zgc r.t.size 20000<=26:=by unfold Zgc;split <;> omega
 unfold wR;rw[h1];simp;omega
theorem MkS.w{n i:Nat}{x:Sta}(h:MkS n i x):wS x<=2025:=by
 have:=ZgH wR 405 x.rules (λa ha=>(h.all a ha).w)
 have:=h.len
 unfold wS;omega
theorem MkC.state{s:Sc}(h:MkC s){x:Sta}(hx:x∈s.states):∃i,s.states[i]?=some x/\MkS s.states.length i x:=by
 obtain⟨i,hi⟩:=List.getElem?_of_mem hx
 exact⟨i,hi,h.all i x hi⟩
theorem MkC.weight{s:Sc}(h:MkC s):s.weight<=8200:=by
 have:=ZgH wS 2025 s.states (λx hx=>by obtain⟨i,_,h⟩:=h.state hx;exact h.w)
 have:=h.len
 have:=h.vlen
 unfold Sc.weight;omega
theorem MkC.light{s:Sc}(h:MkC s):s.light=true:=by unfold Sc.light;exact decide_eq_true (by have:=h.weight;omega)
theorem ZeJ(s:ByteArray):eqS s s=true:=by unfold eqS;simp
theorem ZwR:∀j < 6,∀i < 6,j≠i->eqS ((Zix++ZeI).getD j .empty) ((Zix++ZeI).getD i .empty)=false:=by decide +kernel
theorem ZwS:∀j < 4,∀i < 4,j≠i->eqS (ZeM.getD j .empty) (ZeM.getD i .empty)=false:=by decide +kernel
theorem Zbq{l:List ByteArray}{i:Nat}{s:ByteArray}(h:l[i]?=some s):l.getD i .empty=s:=by rw[List.getD_eq_getElem?_getD,h];rfl
theorem ZtJ{α:Type}{p:α->Bool}:∀{l:List α} {i:Nat} {x:α},l[i]?=some x->p x=true->(∀j y,j < i->l[j]?=some y->p y=false)->l.find? p=some x
 | [],i,x,h,_,_=>by simp at h
 | a::l,0,x,h,hp,_=>by
  simp at h;subst h
  rw[List.find?_cons_of_pos hp]
 | a::l,i+1,x,h,hp,hn=>by
  rw[List.find?_cons_of_neg (by rw[hn 0 a (by omega) rfl];simp)]
  exact ZtJ (l:=l) (i:=i) (by simpa using h) hp (λj y hj hy=>hn (j+1) y (by omega) (by simpa using hy))
theorem MkC.kind{s:Sc}(h:MkC s){i:Nat}{name:ByteArray}(hi:(Zix++ZeI)[i]?=some name):ZhA s name=(decide (i < 4),true):=by
 have sJ:i < 6:=(zA0 hi).1
 have aH:=h.vlen
 have hv:s.vars[i]?=some (s.vars[i]'(by omega)):=zA3 (by omega)
 have hm:=h.vall i _ hv
 generalize s.vars[i]'(by omega)=v at hv hm
 have hn:v.s=name:=Option.some.inj (hm.name.symm.trans hi)
 have hf:(s.vars.find? λv=>eqS v.s name)=some v:=ZtJ hv (by rw[hn];exact ZeJ _) (λj y hj hy=>by
  have hy':=(h.vall j y hy).name
  have:=ZwR j (by omega) i sJ (by omega)
  rwa [Zbq hy',Zbq hi]at this)
 unfold ZhA
 rw[hf]
 rcases hm.kind with⟨h4,hb,_⟩|⟨h4,hb,_⟩
 ·rw[decide_eq_true h4];show(v.b,true)=_;rw[hb]
 ·rw[decide_eq_false (by omega)];show(v.b,true)=_;rw[hb]
theorem MkC.num{s:Sc}(h:MkC s){name:ByteArray}(hn:name∈Zix):ZhA s name=(true,true):=by
 obtain⟨i,hi⟩:=List.getElem?_of_mem hn
 have aC:i < 4:=(zA0 hi).1
 have:=h.kind (i:=i) (name:=name) (by rw[zA5 aC];exact hi)
 rwa [decide_eq_true aC]at this
theorem MkC.txt{s:Sc}(h:MkC s){name:ByteArray}(hn:name∈ZeI):ZhA s name=(false,true):=by
 obtain⟨i,hi⟩:=List.getElem?_of_mem hn
 have aC:i < 2:=(zA0 hi).1
 have:=h.kind (i:=4+i) (name:=name) (by rw[zA4 (show Zix.length<=4+i by show 4<=_;omega)];show ZeI[4+i - 4]?=_;rw[show 4+i - 4=i by omega];exact hi)
 rwa [decide_eq_false (by omega)]at this
theorem MkC.numbers{s:Sc}(h:MkC s){c:Int}{n:Nat}{e:E}(he:MkE c n e):Zdy s e=true:=by
 unfold Zdy
 rw[Bool.not_eq_true',List.any_eq_false]
 intro x hx
 rw[h.num (he.vars x hx)];simp
theorem MkC.finds{s:Sc}(h:MkC s){i:Nat}{name:ByteArray}(hi:i < s.states.length)(hn:ZeM[i]?=some name):Zsa s name=true:=by
 unfold Zsa
 rw[h.light,Bool.and_true,List.any_eq_true]
 refine⟨s.states[i],List.getElem_mem _,?_⟩
 have:=(h.all i _ (zA3 hi)).name
 rw[hn]at this
 rw[<-Option.some.inj this];exact ZeJ _
theorem ZdJ{n a b:Int}:Zdf n a b=true↔a<=n/\n<=b:=by
 unfold Zdf
 rw[zA7,decide_eq_true_iff,decide_eq_true_iff]
theorem MkC.whole{s:Sc}(h:MkC s):Znv s=0:=by
 have h1:Zdf s.n 2 256=true:=ZdJ.2 (by have:=h.n;omega)
 have h2:Zdf s.states.length 1 24=true:=ZdJ.2 (by have:=h.len;omega)
 have h3:decide (s.vars.length > 12)=false:=decide_eq_false (by have:=h.vlen;omega)
 simp[Znv,Zcz,h1,h2,h3]
theorem ZaL:ByteArray.empty.size=0:=rfl
theorem MkC.var{s:Sc}(h:MkC s){i:Nat}{v:Va}(hv:s.vars[i]?=some v):ZcM s i v=0:=by
 have hm:=h.vall i v hv
 have sJ:i < 6:=by have:=(zA0 hv).1;have:=h.vlen;omega
 have h1:ZfW v.s=true:=by
  have cI:=zA2 hm.name
  rcases List.mem_append.1 cI with hx|hx
  ·exact Zqq _ hx
  ·exact ZtG _ hx
 have h2:ZuI v=true:=by
  unfold ZuI
  rcases hm.kind with⟨_,hb,ht,hx⟩|⟨_,hb,ht,hx⟩
  ·rw[hb,ht,hx];rfl
  ·rw[hb,hx]
   simp;omega
 have h3:((s.vars.take i).any λx=>eqS x.s v.s)=false:=by
  rw[List.any_eq_false]
  intro x hx
  obtain⟨j,hj⟩:=List.getElem?_of_mem hx
  have ln:j < i:=by have:=(zA0 hj).1;rw[List.length_take]at this;omega
  rw[List.getElem?_take_of_lt ln]at hj
  have:=ZwR j (by omega) i sJ (by omega)
  rw[Zbq (h.vall j x hj).name,Zbq hm.name]at this
  rw[this];simp
 simp[ZcM,Zcz,h1,h2,h3]
theorem MkC.stateOk{s:Sc}(h:MkC s){i:Nat}{x:Sta}(hx:s.states[i]?=some x):Znw s i x=0:=by
 have hm:=h.all i x hx
 have wO:i < 4:=by have:=(zA0 hx).1;have:=h.len;omega
 have h1:ZfW x.s=true:=ZtH _ (zA2 hm.name)
 have h2:decide (x.rules.length > 12)=false:=decide_eq_false (by have:=hm.len;omega)
 have h3:((s.states.take i).any λy=>eqS y.s x.s)=false:=by
  rw[List.any_eq_false]
  intro y hy
  obtain⟨j,hj⟩:=List.getElem?_of_mem hy
  have ln:j < i:=by have:=(zA0 hj).1;rw[List.length_take]at this;omega
  rw[List.getElem?_take_of_lt ln]at hj
  have:=ZwS j (by omega) i wO (by omega)
  rw[Zbq (h.all j y hj).name,Zbq hm.name]at this
  rw[this];simp
 simp[Znw,Zcz,h1,h2,h3]
theorem Zsf(t:T):0<=t.groups:=by unfold T.groups;split <;> omega
theorem Zqs(r:Ru) : -1<=Zdp r:=by
 have:=Zsf r.t
 unfold Zdp;split
 ·omega
 ·split <;> omega
theorem ZyC{r:Ru}(h:r.bg=false/\r.en=false/\r.t=T0):Zz9 r=false:=by
 unfold Zz9;rw[h.1,h.2.1,h.2.2,ZnD.2.1,ZnD.2.2];rfl
theorem MkR.fields{n:Nat}{r:Ru}(h:MkR n r):Zql r=true:=by
 unfold Zql
 rcases h.kind with⟨hk,_,_,hs,hn⟩|⟨hx,⟨hk,h1,h2,hn⟩|⟨hk,hs,hn⟩|⟨hk,hs,h1,h2⟩⟩
 ·rw[hk,hs,hn];rfl
 ·rw[ZyC hx,hk,hn]
  have:Zdf r.s.size 1 64=true:=ZdJ.2 (by omega)
  simp[this]
 ·rw[ZyC hx,hk,hs,hn];rfl
 ·rw[ZyC hx,hk,hs]
  have:Zdf r.n 1 1000=true:=ZdJ.2 (by omega)
  simp[this,ZaL]
theorem MkR.sizeR{n:Nat}{r:Ru}(h:MkR n r):Rx.sizeR r<=26:=by
 unfold Rx.sizeR;split
 ·exact h.size.2.2
 ·omega
theorem MkS.sizes{n i:Nat}{x:Sta}(h:MkS n i x)(k:Nat):ZaB ((x.rules.take k).map Rx.sizeR)<=130:=by
 have:=ZgH Rx.sizeR 26 (x.rules.take k) (λr hr=>(h.all r (List.mem_of_mem_take hr)).sizeR)
 have h1:=h.len
 rw[List.length_take]at this
 omega
theorem MkC.totals{s:Sc}(h:MkC s)(i k:Nat):Rx.totals s i k<=600:=by
 have h0:=h.len
 have h1:=ZgH (λx:Sta=>ZaB (x.rules.map Rx.sizeR)) 130 (s.states.take i) (λx hx=>by
  obtain⟨j,_,hm⟩:=h.state (List.mem_of_mem_take hx)
  have:=hm.sizes x.rules.length
  rwa [List.take_length]at this)
 rw[List.length_take]at h1
 unfold Rx.totals
 cases hx:s.states[i]? with
 | none=>show _+0<=_;omega
 | some x=>
  have hi:=(zA0 hx).1
  have:=(h.all i x hx).sizes (k+1)
  show _+ZaB ((x.rules.take (k+1)).map Rx.sizeR)<=_
  omega
theorem ZfJ:∀s∈ZeM,s.size=1:=by decide +kernel
theorem MkC.rule{s:Sc}(h:MkC s){r:Ru}(hr:MkR s.states.length r){t:Int}(ht:t<=600):Zqm s r t=0:=by
 have h1:=hr.fields
 have h2:decide (r.acts.length > 8)=false:=decide_eq_false (by have:=hr.len;omega)
 have h3:(r.k == 1&&(!(r.t.check == 0)||decide (t > 600)))=false:=by
  rw[decide_eq_false (show ¬t > 600 by omega),Bool.or_false]
  rcases hr.kind with⟨_,hc,_⟩|⟨_,⟨hk,_⟩|⟨hk,_⟩|⟨hk,_⟩⟩
  ·rw[hc];simp
  ·rw[hk];rfl
  ·rw[hk];rfl
  ·rw[hk];rfl
 have h4:(if r.go.size=0 then !Zdf r.code 0 255 else !Zsa s r.go||!(r.code == 0))=false:=by
  rcases hr.go with⟨⟨i,hi,hn⟩,hc⟩|⟨hg,hc⟩
  ·rw[if_neg (by rw[ZfJ _ (zA2 hn)];omega),h.finds hi hn,hc];rfl
  ·rw[hg,if_pos ZaL,ZdJ.2 hc];rfl
 unfold Zqm
 rw[h1,h2,h3,h4];rfl
theorem MkC.action{s:Sc}(h:MkC s){r:Ru}{a:Ac}(ha:MkA (Zdp r) a):Zd0 s r a=0:=by
 have hz:=ZwQ
 cases ha with
 | send a n l hl=>
  have h1:decide (l.length > 16)=false:=decide_eq_false (by have:=hl.len;omega)
  have h2:Zdf 1 1 3=true:=by decide
  unfold Zd0
  simp[Zcz,h1,h2,hz,ZaL]
 | set t ht a n l hl=>
  have h1:decide (l.length > 16)=false:=decide_eq_false (by have:=hl.len;omega)
  have h2:Zdf 2 1 3=true:=by decide
  unfold Zd0
  simp[Zcz,h1,h2,hz,h.txt ht]
 | let_ t ht e he=>
  have h2:Zdf 3 1 3=true:=by decide
  have h3:=he.clean (by omega)
  have h4:=h.numbers he
  have h5:decide (e.most > Zdp r)=false:=decide_eq_false (by have:=he.most (Zqs r);omega)
  unfold Zd0
  simp only[Zcz,h2,h3,h4,h5,h.num ht]
  rfl
def ZyD(l:List Pt)(i:Nat):Bool:=match l[i - 1]? with
 | some q=>q.k == 1
 | none=>false
theorem Zqt(s:Sc)(r:Ru)(l:List Pt)(i:Nat)(p:Pt):ZlX s r l i p=Zcz [(307,!ZfX p||(decide (i > 0)&&(p.k == 1&&ZyD l i))),(308,(p.k == 2&&!(ZhA s p.s).2)||(p.k == 4&&!Zdy s p.e)),(309,(p.k == 3&&decide (p.g > Zdp r))||(p.k == 4&&decide (p.e.most > Zdp r)))]:=rfl
theorem MkC.part{s:Sc}(h:MkC s){r:Ru}{l:List Pt}(hl:MkT (Zdp r) l){i:Nat}{p:Pt}(hp:l[i]?=some p):ZlX s r l i p=0:=by
 have hz:=ZwQ
 have h0:(decide (i > 0)&&(p.k == 1&&ZyD l i))=false:=by
  cases i with
  | zero=>rfl
  | succ i=>
   unfold ZyD
   rw[Nat.add_sub_cancel]
   cases hq:l[i]? with
   | none=>simp
   | some q=>
    have:=hl.ll i q p hq hp
    simp only[Bool.and_eq_false_iff]
    refine .inr ?_
    by_cases h1:p.k=1
    ·refine .inr ?_
     simp
     exact λh2=>this h2 h1
    ·refine .inl ?_
     simpa using h1
 have hm:=hl.all p (zA2 hp)
 rw[Zqt,h0]
 cases hm with
 | lit t ht=>
  have h1:ZfX ⟨1,t,0,E0⟩=true:=by simp[ZfX,hz];omega
  rw[h1];rfl
 | var t ht=>
  have h1:ZfX ⟨2,t,0,E0⟩=true:=by
   have:ZfW t=true:=by
    rcases ht with ht|ht
    ·exact Zqq _ ht
    ·exact ZtG _ ht
   simp[ZfX,hz,this]
  have h2:(ZhA s t).2=true:=by
   rcases ht with ht|ht
   ·rw[h.num ht]
   ·rw[h.txt ht]
  rw[h1]
  simp[Zcz,h2]
 | cap g hg=>
  have h1:ZfX ⟨3,.empty,g,E0⟩=true:=by simp[ZfX,hz,ZaL];omega
  have h2:decide (g > Zdp r)=false:=decide_eq_false (by omega)
  rw[h1]
  simp only[Zcz,h2];rfl
 | clc e he=>
  have h1:ZfX ⟨4,.empty,0,e⟩=true:=by simp[ZfX,he.clean,ZaL]
  have h2:decide (e.most > Zdp r)=false:=decide_eq_false (by have:=he.most (Zqs r);omega)
  have h3:=h.numbers he
  rw[h1]
  simp only[Zcz,h2,h3];rfl
theorem MkC.at0{s:Sc}(h:MkC s):∀p∈s.places,atS s p=0:=by
 intro p hp
 have hT:∀{r:Ru} {a:Ac},MkA (Zdp r) a->∀{n:Nat} {q:Pt},a.parts[n]?=some q->ZlX s r a.parts n q=0:=λ{r a} ha {n q} hq=>by
  cases ha with
  | send _ _ l hl=>exact h.part hl hq
  | set _ _ _ _ l hl=>exact h.part hl hq
  | let_ _ _ e _=>simp at hq
 rcases Zny s p hp with⟨i,hi,v,hv⟩|⟨hv,hs|⟨i,hi,x,hx,hr|⟨k,hk,r,hr,ha|⟨j,hj,a,ha,hq|⟨n,hn,q,hq⟩⟩⟩⟩⟩
 ·have e:atS s p=ZcM s i v:=by
   unfold atS
   rw[if_pos (by omega),show p.v.toNat=i by omega,hv]
  rw[e];exact h.var hv
 all_goals have hv':¬p.v ≥ 0:=by omega
 ·unfold atS
  rw[if_neg hv',if_pos hs];exact h.whole
 all_goals
  have hs':¬p.s < 0:=by omega
  have lp:p.s.toNat=i:=by omega
  have hm:=h.all i x hx
 ·have e:atS s p=Znw s i x:=by
   unfold atS
   rw[if_neg hv',if_neg hs',lp,hx]
   exact if_pos hr
  rw[e];exact h.stateOk hx
 all_goals
  have hr':¬p.r < 0:=by omega
  have il:p.r.toNat=k:=by omega
  have hR:=hm.all r (zA2 hr)
 ·have e:atS s p=Zqm s r (Rx.totals s i k):=by
   unfold atS
   rw[if_neg hv',if_neg hs',lp,hx]
   show(if p.r < 0 then _ else _)=_
   rw[if_neg hr',il,hr]
   exact if_pos ha
  rw[e];exact h.rule hR (h.totals i k)
 all_goals
  have ha':¬p.a < 0:=by omega
  have kH:p.a.toNat=j:=by omega
  have hA:=hR.all a (zA2 ‹r.acts[j]?=some a›)
 ·have e:atS s p=Zd0 s r a:=by
   unfold atS
   rw[if_neg hv',if_neg hs',lp,hx]
   show(if p.r < 0 then _ else _)=_
   rw[if_neg hr',il,hr]
   show(if p.a < 0 then _ else _)=_
   rw[if_neg ha',kH,‹r.acts[j]?=some a›]
   exact if_pos hq
  rw[e];exact h.action hA
 ·have e:atS s p=ZlX s r a.parts n q:=by
   unfold atS
   rw[if_neg hv',if_neg hs',lp,hx]
   show(if p.r < 0 then _ else _)=_
   rw[if_neg hr',il,hr]
   show(if p.a < 0 then _ else _)=_
   rw[if_neg ha',kH,‹r.acts[j]?=some a›]
   show(if p.p < 0 then _ else _)=_
   rw[if_neg (by omega),show p.p.toNat=n by omega,hq]
  rw[e];exact hT hA hq
theorem MkC.problems{s:Sc}(h:MkC s):s.problems=[]:=by
 unfold Sc.problems
 rw[List.filterMap_eq_nil_iff]
 intro p hp
 rw[if_pos (h.at0 p hp)]
theorem MkC.check{s:Sc}(h:MkC s):s.check=(top,0):=by
 unfold Sc.check
 rw[if_pos h.light,h.problems]
structure F26 (t:T)(l:List T):Prop where
 f:F t l
 n:(t.k=4/\t.nodes.length+szL l<=26)\/t.nodes.length+szL l<=25
theorem F26.done{t:T}(h:F26 t []):t.check=0/\t.nodes.length<=26:=by
 refine⟨h.f.done,?_⟩
 have:szL []=0:=rfl
 rcases h.n with h|h <;> omega
theorem F26.step{t x:T}{l:List T}(h:F26 t (x::l))(a:Option Addr)(c:Nat):F26 (Ze2 4 a c (Za0 4 t++Za0 4 x)) l:=by
 refine⟨h.f.step a c,?_⟩
 have hn:=h.n
 rw[Zeq]at hn
 have ht:=Zi8 t
 have hx:=Zi8 x
 have e1:szL (Za0 4 t)<=if t.k=4 then szL t.subs else t.nodes.length:=by
  unfold Za0
  split
  ·exact Nat.le_refl _
  ·rw[if_neg (by omega),Zbb];exact Nat.le_refl _
 have e2:szL (Za0 4 x)<=x.nodes.length:=by
  unfold Za0
  split
  ·omega
  ·rw[if_neg (by omega),Zbb];exact Nat.le_refl _
 have e3:szL (Za0 4 t++Za0 4 x)=szL (Za0 4 t)+szL (Za0 4 x):=ZaE _ _
 generalize Za0 4 t++Za0 4 x=L at e3
 have hA:szL L<=t.nodes.length+x.nodes.length/\(t.k=4->szL L+1<=t.nodes.length+x.nodes.length):=by
  refine⟨?_,λh4=>?_⟩
  ·split at e1 <;> omega
  ·rw[if_pos h4]at e1;omega
 match L,hA with
 | [],_=>
  refine .inr ?_
  show T1.nodes.length+_<=_
  have:T1.nodes.length=1:=rfl
  rcases hn with⟨_,hn⟩|hn <;> omega
 | [y],hA=>
  refine .inr ?_
  show y.nodes.length+_<=_
  rw[Zbb]at hA
  rcases hn with⟨h4,hn⟩|hn
  ·have:=hA.2 h4;omega
  ·omega
 | y::z::r,hA=>
  refine .inl ⟨rfl,?_⟩
  rw[Zi8]
  show 1+szL (y::z::r)+_<=_
  rcases hn with⟨h4,hn⟩|hn
  ·have:=hA.2 h4;omega
  ·omega
theorem F26.start{i u g}{t:T}{l:List T}(h:J i (t::l) u g)(hi:i<=25):F26 t l:=⟨F.start h hi,.inr (by have:=h.sz;rw[Zeq]at this;omega)⟩
theorem F26.leaf{t:T}(h1:F t [])(h2:t.nodes.length=1):F26 t []:=⟨h1,.inr (by have:szL []=0:=rfl;omega)⟩
structure PE (ts:List E)(i:Nat):Prop where
 all:∀x∈Zam ts,okN 9 x
 sz:(Zam ts).length<=i
theorem Zb7(t:E):Zam [t]=t.nodes:=by simp[Zam]
theorem PE.zero:PE [] 0:=⟨by simp[Zam],by simp[Zam]⟩
theorem PE.skip{ts i}(h:PE ts i):PE ts (i+1):=⟨h.all,by have:=h.sz;omega⟩
theorem PE.push{ts i}{t:E}(h:PE ts i)(ht:MkE 9 1 t):PE (ts++[t]) (i+1):=by
 refine⟨λx hx=>?_,?_⟩
 ·rw[ZaW,Zb7]at hx
  rcases List.mem_append.1 hx with hx|hx
  ·exact h.all x hx
  ·exact ht.all x hx
 ·rw[ZaW,Zb7,zA1]
  have:=h.sz;have:=ht.len;omega
theorem PE.neg{r:List E}{x:E}{i:Nat}(h:PE (r++[x]) i)(hk:x.k≠8)(a:Option Addr)(d:Nat):PE (r++[Zyf a d x]) (i+1):=by
 have h1:=h.all;have h2:=h.sz
 rw[ZaW,Zb7]at h1 h2
 rw[zA1]at h2
 have hm:MkE 9 (x.nodes.length+1) (Zyf a d x):=ZwN ⟨λz hz=>h1 z (List.mem_append_right _ hz),Nat.le_refl _⟩ hk
 refine⟨λz hz=>?_,?_⟩
 ·rw[ZaW,Zb7]at hz
  rcases List.mem_append.1 hz with hz|hz
  ·exact h1 z (List.mem_append_left _ hz)
  ·exact hm.all z hz
 ·rw[ZaW,Zb7,zA1]
  have:=hm.len;omega
theorem PE.op{r:List E}{x y:E}{i:Nat}(h:PE (r++[x,y]) i){k:Int}(hk:2<=k/\k<=7)(a:Option Addr)(d:Nat):PE (r++[opE k a d x y]) (i+1):=by
 have h1:=h.all;have h2:=h.sz
 rw[ZaW,show Zam [x,y]=x.nodes++y.nodes by simp[Zam]]at h1 h2
 rw[zA1,zA1]at h2
 have hm:MkE 9 (x.nodes.length+y.nodes.length+1) (opE k a d x y):=ZwO hk ⟨λz hz=>h1 z (List.mem_append_right _ (List.mem_append_left _ hz)),Nat.le_refl _⟩ ⟨λz hz=>h1 z (List.mem_append_right _ (List.mem_append_right _ hz)),Nat.le_refl _⟩
 refine⟨λz hz=>?_,?_⟩
 ·rw[ZaW,Zb7]at hz
  rcases List.mem_append.1 hz with hz|hz
  ·exact h1 z (List.mem_append_left _ hz)
  ·exact hm.all z hz
 ·rw[ZaW,Zb7,zA1]
  have:=hm.len;omega
theorem Zkz(t:E):1<=t.nodes.length:=by rw[Zbg,List.length_cons];omega
theorem Zd2(l:List E):l.length<=(Zam l).length:=by
 induction l with
 | nil=>simp
 | cons t l ih=>
  have:=Zkz t
  simp only[Zam,List.length_cons,zA1];omega
structure QE (t:E)(l:List E)(b:Nat):Prop where
 all:∀x∈t.nodes,okN 9 x
 alls:∀x∈Zam l,okN 9 x
 sz:t.nodes.length+(Zam l).length+l.length<=b
theorem QE.start{t:E}{l:List E}{i:Nat}(h:PE (t::l) i):QE t l (2*i):=by
 have h1:=h.all;have h2:=h.sz
 simp only[Zam,zA1]at h1 h2
 have:=Zd2 l
 exact⟨λx hx=>h1 x (List.mem_append_left _ hx),λx hx=>h1 x (List.mem_append_right _ hx),by omega⟩
theorem QE.step{t x:E}{l:List E}{b:Nat}(h:QE t (x::l) b)(a:Option Addr)(d:Nat):QE (opE 2 a d t x) l b:=by
 have h1:=h.alls;have h2:=h.sz
 simp only[Zam,zA1,List.length_cons]at h1 h2
 have hm:MkE 9 (t.nodes.length+x.nodes.length+1) (opE 2 a d t x):=ZwO (by omega) ⟨h.all,Nat.le_refl _⟩ ⟨λz hz=>h1 z (List.mem_append_left _ hz),Nat.le_refl _⟩
 exact⟨hm.all,λz hz=>h1 z (List.mem_append_right _ hz),by have:=hm.len;omega⟩
theorem QE.done{t:E}{b:Nat}(h:QE t [] b):MkE 9 b t:=⟨h.all,by have:=h.sz;omega⟩
structure BoE (c:Int)(e u:E):Prop where
 all:∀x∈u.nodes,okN c x
 len:u.nodes.length<=e.nodes.length
 k8:u.k=8↔e.k=8
theorem Zqu{c:Int}:∀{l r:List E},l.length=r.length->(∀(i:Nat)(x y:E),l[i]?=some x->r[i]?=some y->BoE c x y)->(∀z∈Zam r,okN c z)/\(Zam r).length<=(Zam l).length/\Zr9 r=Zr9 l
 | [],[],_,_=>⟨by simp[Zam],Nat.le_refl _,rfl⟩
 | [],_::_,h,_=>by simp at h
 | _::_,[],h,_=>by simp at h
 | x::l,y::r,h,hb=>by
  have h0:=hb 0 x y rfl rfl
  obtain⟨h1,h2,_⟩:=Zqu (l:=l) (r:=r) (by simpa using h) (λi x' y' hx hy=>hb (i+1) x' y' (by simpa using hx) (by simpa using hy))
  refine⟨λz hz=>?_,?_,?_⟩
  ·simp only[Zam]at hz
   rcases List.mem_append.1 hz with hz|hz
   ·exact h0.all z hz
   ·exact h1 z hz
  ·simp only[Zam,zA1];have:=h0.len;omega
  ·show(y.k == 8)=(x.k == 8)
   rw[Bool.eq_iff_iff];simpa using h0.k8
theorem ZuL{c:Int}{k:Int}{x:Nat}{s:ByteArray}{g:Int}{a a':Option Addr}{d d':Nat}{l r:List E}(h:okN 9 (.node k x s g a d l))(hk:¬(k=10/\g > c))(hl:l.length=r.length)(hb:∀(i:Nat)(x y:E),l[i]?=some x->r[i]?=some y->BoE c x y):BoE c (.node k x s g a d l) (.node k x s g a' d' r):=by
 obtain⟨h1,h2,h3⟩:=Zqu hl hb
 refine⟨λz hz=>?_,?_,Iff.rfl⟩
 ·simp only[E.nodes,List.mem_cons]at hz
  rcases hz with rfl|hz
  ·refine⟨?_,h.2.1,λe=>?_⟩
   ·have e1:=h.1
    simp only[E.right,E.k,E.s,E.x,E.g,E.subs]at e1 ⊢
    rw[<-hl,h3];exact e1
   ·have e:k=10:=e
    show g<=c
    omega
  ·exact h1 z hz
 ·simp only[E.nodes,List.length_cons];omega
theorem ZwT{c:Int}{e:E}{s:ByteArray}(hs:s∈Zix)(hk:e.k=10):BoE c e (Zye s):=by
 have h:=ZtI (c:=c) hs
 refine⟨h.all,Nat.le_trans h.len (Zkz e),?_⟩
 rw[hk]
 show(9:Int)=8↔_
 omega
theorem BoE.toMk{c:Int}{n:Nat}{e u:E}(h:BoE c e u)(he:e.nodes.length<=n):MkE c n u:=⟨h.all,Nat.le_trans h.len he⟩
end Go.Rx
namespace Go.Rx
open Go Go.Eng Go.RowKit
set_option maxRecDepth 100000
mutual
def T.er:T->T
 | .node k s0 s1 s2 s3 mn mx _ _ l=>.node k s0 s1 s2 s3 mn mx none 0 (erL l)
def erL:List T->List T
 | []=>[]
 | t::l=>t.er::erL l
end
theorem Zqv:∀l:List T,erL l=l.map T.er
 | []=>rfl
 | t::l=>by simp only[erL,List.map_cons,Zqv l]
@[simp] theorem ZyE (t:T):t.er.k=t.k:=by cases t;rfl
@[simp] theorem ZA1 (t:T):t.er.s0=t.s0:=by cases t;rfl
@[simp] theorem ZA2 (t:T):t.er.s1=t.s1:=by cases t;rfl
@[simp] theorem ZA3 (t:T):t.er.s2=t.s2:=by cases t;rfl
@[simp] theorem ZA4 (t:T):t.er.s3=t.s3:=by cases t;rfl
@[simp] theorem ZA5 (t:T):t.er.mn=t.mn:=by cases t;rfl
@[simp] theorem ZA6 (t:T):t.er.mx=t.mx:=by cases t;rfl
@[simp] theorem ZzR (t:T):t.er.subs=t.subs.map T.er:=by cases t;simp only[T.er,T.subs,Zqv]
mutual
theorem Zma:∀t:T,t.er.nodes=t.nodes.map T.er
 | .node k s0 s1 s2 s3 mn mx a c l=>by
  simp only[T.er,T.nodes,List.map_cons]
  rw[ZnE l]
theorem ZnE:∀l:List T,ZaI (erL l)=(ZaI l).map T.er
 | []=>rfl
 | t::l=>by simp only[erL,ZaI,List.map_append,Zma t,ZnE l]
end
theorem Zjc(t:T):t.er.light=t.light:=by unfold T.light;rw[Zma,List.length_map]
theorem ZtK(t:T):t.er.size=t.size:=by unfold T.size;rw[Zjc,Zma,List.length_map]
def T.caps(t:T):Prop:=∀x∈t.nodes,x.subs.length<=x.c
theorem Zsg{k s0 s1 s2 s3 mn mx:Int}{a:Option Addr}{c:Nat}{l:List T}(h:l.length<=c)(hl:∀x∈l,x.caps):(T.node k s0 s1 s2 s3 mn mx a c l).caps:=by
 intro y hy
 rw[Zcq]at hy
 rcases List.mem_cons.1 hy with rfl|hy
 ·exact h
 ·obtain⟨x,hx,hy⟩:∃x∈l,y∈x.nodes:=by
   have:∀l:List T,y∈ZaI l->∃x∈l,y∈x.nodes:=λl=>by
    induction l with
    | nil=>intro h;simp[ZaI]at h
    | cons x l ih=>
     intro h
     simp only[ZaI,List.mem_append]at h
     rcases h with h|h
     ·exact⟨x,by simp,h⟩
     ·obtain⟨z,hz,h⟩:=ih h
      exact⟨z,by simp[hz],h⟩
   exact this l hy
  exact hl x hx y hy
theorem ZwU{k s0 s1 s2 s3 mn mx:Int}{a a':Option Addr}{c c':Nat}{l l':List T}(h:l.map T.er=l'.map T.er):(T.node k s0 s1 s2 s3 mn mx a c l).er=(T.node k s0 s1 s2 s3 mn mx a' c' l').er:=by
 simp only[T.er,Zqv,h]
end Go.Rx
namespace Go.Rx
open Go Go.Eng Go.RowKit
def Old(m:Mem)(b:Nat):Prop:=¬m.free b
noncomputable def nw(m m':Mem):Mem:=⟨(m'.off (Old m)).c,λ_=>none⟩
theorem Zgd(m m':Mem):(nw m m').le m':=⟨(Mem.off_le m' (Old m)).c,λ_ _ h=>by cases h⟩
theorem Zbk{m m':Mem}(h:m.le m'){b:Nat}(hf:m'.free b):m.free b:=λo=>by
 cases he:m b o with
 | none=>rfl
 | some v=>have:=h _ _ _ he;rw[hf o]at this;cases this
theorem Zer{m m':Mem}(h:m.le m'){b:Nat}(hf:m'.k b=none):m.k b=none:=by
 cases he:m.k b with
 | none=>rfl
 | some v=>have:=h.k _ _ he;rw[hf]at this;cases this
theorem Zsh{m m':Mem}{b:Nat}(h:¬m.free b):(nw m m').free b:=λo=>Mem.off_free (m:=m') (Y:=Old m) h o
theorem Zv4{m m':Mem}{b:Nat}(h:m.free b)(o:Nat):nw m m' b o=m' b o:=Mem.off_at (m:=m') (Y:=Old m) (λk=>k h) o
theorem Zd3{m0 m m' m'':Mem}(h1:m0.le m)(h2:m'.le m''):(nw m m').le (nw m0 m''):=⟨λb o v hv=>by
 have hf:m.free b:=Classical.byContradiction λhn=>by rw[Zsh hn]at hv;cases hv
 rw[Zv4 hf]at hv;rw[Zv4 (Zbk h1 hf)];exact h2 _ _ _ hv,λb e he=>by cases he⟩
theorem Zmb{m m':Mem}{a:Option Addr}{cs:List Value}(h:rowRd m' a cs)(hf:cs=[]\/∀b o,a=some ⟨b,o,none⟩->m.free b):rowRd (nw m m') a cs:=by
 rcases hf with hf|hf
 ·exact .inl hf
 rcases h with h|⟨b,o,ha,h⟩
 ·exact .inl h
 ·exact .inr ⟨b,o,ha,λj v hj=>by rw[Zv4 (hf b o ha)];exact h j v hj⟩
theorem Ze3{m m':Mem}{Y:Nat->Prop}(h:m.le m')(hf:∀b,Y b->m.free b/\m.k b=none):m.le (m'.off Y):=⟨λb o v hv=>by
 rw[Mem.off_at (λhy=>by rw[(hf b hy).1 o]at hv;cases hv)];exact h _ _ _ hv,λb e he=>by
 rw[Mem.off_k (λhy=>by rw[(hf b hy).2]at he;cases he)];exact h.k _ _ he⟩
structure Each {α β:Type}(cs:β->List Value)(Q:α->β->Mem->Prop)(m m':Mem)(L:List α)(a:Option Addr)(c:Nat)(L':List β)(μ:Nat->Mem):Prop where
 len:L'.length=L.length
 le:m.le m'
 row:rowRd m' a (L'.map cs).flatten
 q:∀i x y,L[i]?=some x->L'[i]?=some y->Q x y (μ i)
 sub:∀i,i < L.length->(μ i).le (nw m m')
 ap:∀i j,i < j->j < L.length->∀b,(μ i).free b\/(μ j).free b
 blk:(L=[]/\a=none/\c=0)\/(L≠[]/\∃b,a=some ⟨b,0,none⟩/\m.free b/\m.k b=none/\∀i,i < L.length->(μ i).free b/\(μ i).k b=none)
 cap:L'.length<=c
theorem Each.nil{α β:Type}{cs:β->List Value}{Q:α->β->Mem->Prop}(m:Mem):Each cs Q m m ([]:List α) none 0 [] λ_=>m:=
 ⟨rfl,Mem.le_refl m,.inl rfl,by simp,by simp,by simp,.inl ⟨rfl,rfl,rfl⟩,by simp⟩
theorem Each.step{α β:Type}{cs:β->List Value}{Q:α->β->Mem->Prop}{m m':Mem}{L:List α}{k:Nat}{a:Option Addr}{c:Nat}{L':List β}{μ:Nat->Mem}{n:Nat}(hn:∀y,(cs y).length=n)(h0:0 < n)(h:Each cs Q m m' (L.take k) a c L' μ){x:α}(hx:L[k]?=some x)
  {m3:Mem} {y:β} (h3:m'.le m3) (hq:Q x y (nw m' m3)) {b3:Nat} (gA:m3.free b3) {a':Option Addr} {c':Nat} {m4:Mem} (h4:(m3.add b3 (cs y)).le m4) (aB:rowRd m4 a' ((L'++[y]).map cs).flatten) (ht:TokFact (m3.add b3 (cs y)) a a' (L'.length+1) c'):
  Each cs Q m m4 (L.take (k+1)) a' c' (L'++[y]) (λi=>if i=k then nw m' m3 else μ i):=by
 have hk:k < L.length:=(zA0 hx).1
 have e:L.take (k+1)=L.take k++[x]:=by rw[List.take_add_one,hx];rfl
 have lk:(L.take k).length=k:=by rw[List.length_take];omega
 have lk':L'.length=k:=h.len.trans lk
 have add3:m3.le (m3.add b3 (cs y)):=Mem.le_add gA _
 have nv:m3.le m4:=mLt add3 h4
 have im:m'.le m4:=mLt h3 nv
 have qN:m.le (m3.add b3 (cs y)):=mLt h.le (mLt h3 add3)
 have cM:((L'++[y]).map cs).flatten≠[]:=by
  intro hz
  have:=congrArg List.length hz
  rw[ZaY hn,zA1,List.length_cons]at this
  have h5:0 < (L'.length+(([]:List β).length+1))*n:=Nat.mul_pos (by omega) h0
  rw[this]at h5;exact absurd h5 (by simp)
 have ha':∃b,a'=some ⟨b,0,none⟩/\m.free b/\m.k b=none/\(∀i,i < k->(μ i).free b/\(μ i).k b=none)/\((nw m' m3).free b/\(nw m' m3).k b=none):=by
  rcases ht.2 with h1|⟨b,o,h1,h2⟩
  ·rcases aB with h2|⟨b,o,h2,_⟩
   ·exact absurd h2 cM
   ·rw[h1]at h2;cases h2
  ·rcases h2 with h2|⟨h2,h5,h6⟩
   ·rcases h.blk with⟨_,h7,_⟩|⟨h6,b',h7,h8,h8',h9⟩
    ·rw[h7,h1]at h2;cases h2
    ·rw[h7,h1]at h2
     simp only[Option.some.injEq,Addr.mk.injEq,and_true]at h2
     obtain⟨rfl,rfl⟩:=h2
     have gp:¬m'.free b':=λhf=>by
      rcases h.row with gP|⟨b2,o2,gP,lO⟩
      ·have:=congrArg List.length gP
       rw[ZaY hn,lk']at this
       have pg:k≠0:=λe=>h6 (by rw[e];rfl)
       have qO:0 < k*n:=Nat.mul_pos (by omega) h0
       simp at this;omega
      ·rw[h7]at gP;cases gP
       have pg:k≠0:=λe=>h6 (by rw[e];rfl)
       have qO:0 < k*n:=Nat.mul_pos (by omega) h0
       have aC:0 < (L'.map cs).flatten.length:=by rw[ZaY hn,lk'];exact qO
       have:=lO 0 _ (zA3 aC)
       rw[hf]at this;cases this
     refine⟨b',h1,h8,h8',λi hi=>h9 i (by omega),Zsh gp,rfl⟩
   ·subst h2
    have hs:∀i,i < k->(μ i).le (m3.add b3 (cs y)):=λi hi=>mLt (h.sub i (by omega)) (mLt (Zgd _ _) (mLt h3 add3))
    have lZ:(nw m' m3).le (m3.add b3 (cs y)):=mLt (Zgd _ _) add3
    exact⟨b,h1,Zbk qN h5,Zer qN h6,λi hi=>⟨Zbk (hs i hi) h5,Zer (hs i hi) h6⟩,Zbk lZ h5,Zer lZ h6⟩
 obtain⟨b,hb,eD,gk,gl,oz⟩:=ha'
 refine⟨by rw[zA1,List.length_take,lk'];simp;omega,mLt h.le im,aB,λi u v hu hv=>?_,λi hi=>?_,λi j pz hj b'=>?_,.inr ⟨by rw[e];simp,b,hb,eD,gk,λi hi=>?_⟩,by have:=ht.1;rw[zA1];exact this⟩
 ·rw[e]at hu
  by_cases iH:i=k
  ·subst iH
   rw[zA4 (by omega),lk,Nat.sub_self]at hu
   rw[zA4 (by omega),lk',Nat.sub_self]at hv
   cases hu;cases hv
   rw[if_pos rfl];exact hq
  ·have hi:i < k:=by
    have:=(zA0 hu).1
    rw[zA1,lk]at this;simp at this;omega
   rw[zA5 (by omega)]at hu hv
   rw[if_neg iH];exact h.q i u v hu hv
 ·by_cases iH:i=k
  ·subst iH;rw[if_pos rfl];exact Zd3 h.le nv
  ·rw[if_neg iH]
   rw[List.length_take]at hi
   exact mLt (h.sub i (by omega)) (Zd3 (Mem.le_refl m) im)
 ·rw[List.length_take]at hj
  by_cases l3:j=k
  ·subst l3
   rw[if_neg (by omega),if_pos rfl]
   by_cases hf:(μ i).free b'
   ·exact .inl hf
   ·exact .inr (Zsh λpA=>hf (Zbk (mLt (h.sub i (by omega)) (Zgd _ _)) pA))
  ·rw[if_neg (by omega),if_neg l3];exact h.ap i j pz (by omega) b'
 ·by_cases iH:i=k
  ·subst iH;rw[if_pos rfl];exact oz
  ·rw[if_neg iH];rw[List.length_take]at hi;exact gl i (by omega)
section
variable {α β:Type} {cs:β->List Value} {Q:α->β->Mem->Prop} {m m':Mem} {L:List α} {a:Option Addr} {c:Nat} {L':List β} {μ:Nat->Mem} (h:Each cs Q m m' L a c L' μ)
include h
theorem Each.rows:rowRd (nw m m') a (L'.map cs).flatten:=Zmb h.row (by
 rcases h.blk with⟨h1,_⟩|⟨_,b,hb,hf,_⟩
 ·left
  have:L'=[]:=List.eq_nil_of_length_eq_zero (by rw[h.len,h1];rfl)
  rw[this];rfl
 ·exact .inr λb' o e=>by rw[hb]at e;cases e;exact hf)
theorem Each.at{y:β}(hy:y∈L'):∃i x,L[i]?=some x/\L'[i]?=some y/\Q x y (μ i)/\(μ i).le (nw m m'):=by
 obtain⟨i,hi⟩:=List.getElem?_of_mem hy
 have aC:i < L.length:=by rw[<-h.len];exact(zA0 hi).1
 exact⟨i,L[i],zA3 aC,hi,h.q i _ _ (zA3 aC) hi,h.sub i aC⟩
theorem Each.same{γ:Type}{f:α->γ}{g:β->γ}(hs:∀x y μ,Q x y μ->g y=f x):L'.map g=L.map f:=by
 refine List.ext_getElem (by simp[h.len]) λi h1 h2=>?_
 simp only[List.length_map]at h1 h2
 rw[List.getElem_map,List.getElem_map]
 exact hs _ _ _ (h.q i _ _ (zA3 h2) (zA3 h1))
end
def Zqw{α β:Type}(cs:β->List Value)(Q:α->β->Mem->Prop)(m:Mem)(L:List α):Value->Mem->List (List Value)->Prop:=λv m' _=>∃a c L' μ,v=.slice a L'.length c/\Each cs Q m m' L a c L' μ
theorem Ze4{α β:Type}{cs:β->List Value}{Q:α->β->Mem->Prop}{m:Mem}{L:List α}:∀(v:Value)(m':Mem) (css:List (List Value)),Zqw cs Q m L v m' css->Shape.fits .slice v=true:=λv _ _ ⟨_,_,_,_,h,_⟩=>by rw[h];rfl
mutual
def E.er:E->E
 | .node k x s g _ _ l=>.node k x s g none 0 (Zv9 l)
def Zv9:List E->List E
 | []=>[]
 | t::l=>t.er::Zv9 l
end
theorem Zmc:∀l:List E,Zv9 l=l.map E.er
 | []=>rfl
 | t::l=>by simp only[Zv9,List.map_cons,Zmc l]
@[simp] theorem ZA7 (t:E):t.er.k=t.k:=by cases t;rfl
@[simp] theorem ZA8 (t:E):t.er.x=t.x:=by cases t;rfl
@[simp] theorem ZA9 (t:E):t.er.s=t.s:=by cases t;rfl
@[simp] theorem ZBa (t:E):t.er.g=t.g:=by cases t;rfl
@[simp] theorem ZyF (t:E):t.er.subs=t.subs.map E.er:=by cases t;simp only[E.er,E.subs,Zmc]
mutual
theorem Ze5:∀t:E,t.er.nodes=t.nodes.map E.er
 | .node k x s g a c l=>by
  simp only[E.er,E.nodes,List.map_cons]
  rw[ZkA l]
theorem ZkA:∀l:List E,Zam (Zv9 l)=(Zam l).map E.er
 | []=>rfl
 | t::l=>by simp only[Zv9,Zam,List.map_append,Ze5 t,ZkA l]
end
theorem Ze6(t:E):t.er.light=t.light:=by unfold E.light;rw[Ze5,List.length_map]
theorem ZuM(t:E):t.er.size=t.size:=by unfold E.size;rw[Ze6,Ze5,List.length_map]
theorem ZzS(t:E):nE t.er=nE t:=by unfold nE;rw[Ze6,ZuM]
def Pt.er(p:Pt):Pt:=⟨p.k,p.s,p.g,p.e.er⟩
def Ac.er(a:Ac):Ac:=⟨a.k,a.s,none,0,a.parts.map Pt.er,a.e.er⟩
def Ru.er(r:Ru):Ru:=⟨r.k,r.bg,r.en,r.t.er,r.s,r.n,none,0,r.acts.map Ac.er,r.go,r.code⟩
def Sta.er(x:Sta):Sta:=⟨x.s,none,0,x.rules.map Ru.er⟩
def Sc.er(s:Sc):Sc:=⟨s.n,none,0,s.vars,none,0,s.states.map Sta.er⟩
theorem ZcO{α:Type}(f:α->Int)(g:α->α)(h:∀x,f (g x)=f x)(l:List α):ZaB ((l.map g).map f)=ZaB (l.map f):=by
 rw[List.map_map];congr 1;exact List.map_congr_left λx _=>h x
theorem ZAn(a:Ac):wA a.er=wA a:=by
 unfold wA
 show 1+nE a.e.er+((a.parts.map Pt.er).length:Int)+ZaB ((a.parts.map Pt.er).map λp=>nE p.e)=_
 rw[ZzS,List.length_map,ZcO (λp:Pt=>nE p.e) Pt.er (λp=>ZzS p.e)]
theorem ZAo(r:Ru):wR r.er=wR r:=by
 unfold wR
 show 1+Zgc r.t.er.size 20000+(if r.t.er.light then 0 else 20001)+ZaB ((r.acts.map Ac.er).map wA)=_
 rw[ZtK,Zjc,ZcO wA Ac.er ZAn]
theorem ZAp(x:Sta):wS x.er=wS x:=ZcO wR Ru.er ZAo x.rules
theorem Zsi(s:Sc):s.er.weight=s.weight:=by
 unfold Sc.weight
 show(s.vars.length:Int)+((s.states.map Sta.er).length:Int)+ZaB ((s.states.map Sta.er).map wS)=_
 rw[List.length_map,ZcO wS Sta.er ZAp]
theorem Zjd(s:Sc):s.er.light=s.light:=by unfold Sc.light;rw[Zsi]
theorem Ze7{s s':Sc}(h:s'.er=s.er):s'.light=s.light:=by rw[<-Zjd s',h,Zjd]
theorem ZnF{α:Type}(f:α->Int)(hf:∀x,0<=f x){l:List α}{x:α}(hx:x∈l):f x<=ZaB (l.map f):=by
 induction l with
 | nil=>cases hx
 | cons y l ih=>
  have h1:=ZcX f hf l
  have h2:=hf y
  simp only[List.map_cons,ZaB]
  rcases List.mem_cons.1 hx with rfl|hx
  ·omega
  ·have:=ih hx;omega
def LtA(a:Ac):Prop:=a.e.light=true/\∀p∈a.parts,p.e.light=true
def LtR(r:Ru):Prop:=r.t.light=true/\∀a∈r.acts,LtA a
theorem ZzT{e:E}(h:nE e<=20000):e.light=true:=by
 cases hl:e.light with
 | true=>rfl
 | false=>unfold nE at h;rw[hl]at h;simp at h
theorem ZyZ{a:Ac}(h:wA a<=20000):LtA a:=by
 unfold wA at h
 have h1:=ZfG a.e
 have h2:=ZcX (λp:Pt=>nE p.e) (λp=>(ZfG p.e).1) a.parts
 exact⟨ZzT (by omega),λp hp=>ZzT (by have:=ZnF (λp:Pt=>nE p.e) (λp=>(ZfG p.e).1) hp;omega)⟩
theorem Zy0{r:Ru}(h:wR r<=20000):LtR r:=by
 unfold wR at h
 have h1:=(ZfH r.t).1
 have h2:=ZcX wA Zqk r.acts
 have h3:0<=Zgc r.t.size 20000:=by unfold Zgc;split <;> omega
 refine⟨?_,λa ha=>ZyZ (by have:=ZnF wA Zqk ha;split at h <;> omega)⟩
 cases hl:r.t.light with
 | true=>rfl
 | false=>rw[hl]at h;simp at h;omega
theorem ZuN{s:Sc}(h:s.light=true):∀x∈s.states,∀r∈x.rules,LtR r:=λx hx r hr=>Zy0 (by
 have h1:s.weight<=20000:=zA6 h
 unfold Sc.weight at h1
 have h2:=ZnF wS ZzO hx
 have h3:wR r<=wS x:=ZnF wR ZyA hr
 omega)
def QP(p q:Pt)(μ:Mem):Prop:=q.er=p.er/\RepP μ q
def QA(p q:Ac)(μ:Mem):Prop:=q.er=p.er/\RepA μ q
def QR(p q:Ru)(μ:Mem):Prop:=q.er=p.er/\RepR μ q
def ZBb(m μ:Mem)(y:Sta):Prop:=y.rules.length<=y.rc/\(y.rules=[]\/∃b,y.ra=some ⟨b,0,none⟩/\m.free b/\m.k b=none/\∀r∈y.rules,RepR (μ.off λk=>k=b) r)
def QS(m:Mem)(x y:Sta)(μ:Mem):Prop:=y.er=x.er/\RepS μ y/\ZBb m μ y
structure SepC (m m':Mem)(s:Sc)(b:Nat)(μ:Nat->Mem):Prop where
 sa:s.sa=some ⟨b,0,none⟩
 free:m.free b/\m.k b=none
 all:∀i x,s.states[i]?=some x->RepS (μ i) x/\ZBb m (μ i) x/\(μ i).le (nw m m')/\(μ i).free b
 ap:∀i j,i < j->j < s.states.length->∀b',(μ i).free b'\/(μ j).free b'
 va:∃μv:Mem,rowRd μv s.va (s.vars.map Va.cs).flatten/\μv.le (nw m m')/\μv.free b/\∀i,i < s.states.length->∀b',μv.free b'\/(μ i).free b'
theorem Zsj{m0 m m' M:Mem}{x:Ac}{a:Option Addr}{c:Nat}{L':List Pt}{μ:Nat->Mem}{e:E}(hx:RepA m0 x)(h:Each Pt.cs QP m m' x.parts a c L' μ)(hM:(nw m m').le M)(he:RepE M e):RepA M ⟨x.k,x.s,a,c,L',e⟩:=
 ⟨hx.k,hx.s,by rw[h.len];exact hx.n,h.rows.mono hM,λp hp=>by
  obtain⟨i,y,_,_,hq,hs⟩:=h.at hp
  exact hq.2.mono (mLt hs hM),he⟩
theorem Zsk{m0 m m' M:Mem}{x:Ru}{a:Option Addr}{c:Nat}{L':List Ac}{μ:Nat->Mem}{t:T}(hx:RepR m0 x)(h:Each Ac.cs QA m m' x.acts a c L' μ)(hM:(nw m m').le M)(ht:Rep M t):RepR M ⟨x.k,x.bg,x.en,t,x.s,x.n,a,c,L',x.go,x.code⟩:=
 ⟨hx.k,ht,hx.s,hx.n,by rw[h.len];exact hx.len,h.rows.mono hM,λp hp=>by
  obtain⟨i,y,_,_,hq,hs⟩:=h.at hp
  exact hq.2.mono (mLt hs hM),hx.go,hx.code⟩
theorem ZkB{m m':Mem}{Y:Nat->Prop}(h:m.le m'):(m.off Y).le (m'.off Y):=⟨λb o v hv=>by
 by_cases hy:Y b
 ·rw[Mem.off_free hy]at hv;cases hv
 ·rw[Mem.off_at hy]at hv ⊢;exact h _ _ _ hv,λb e he=>by
 by_cases hy:Y b
 ·rw[Mem.off_kn hy]at he;cases he
 ·rw[Mem.off_k hy]at he ⊢;exact h.k _ _ he⟩
theorem QS.mono{m0 μ μ':Mem}{x y:Sta}(h:QS m0 x y μ)(hm:μ.le μ'):QS m0 x y μ':=
 ⟨h.1,h.2.1.mono hm,h.2.2.1,h.2.2.2.imp_right λ⟨b,h1,h2,h3,h4⟩=>⟨b,h1,h2,h3,λr hr=>(h4 r hr).mono (ZkB hm)⟩⟩
theorem ZwV{m0 m m':Mem}{x:Sta}{a:Option Addr}{c:Nat}{L':List Ru}{μ:Nat->Mem}(h0:m0.le m)(hx:RepS m x)(h:Each Ru.cs QR m m' x.rules a c L' μ):QS m0 x ⟨x.s,a,c,L'⟩ (nw m m'):=by
 refine⟨?_,⟨hx.s,by rw[h.len];exact hx.len,h.rows,λp hp=>by
  obtain⟨i,y,_,_,hq,hs⟩:=h.at hp
  exact hq.2.mono hs⟩,h.cap,?_⟩
 ·simp only[Sta.er,Sta.mk.injEq,true_and]
  exact h.same λx y μ hq=>hq.1
 ·rcases h.blk with⟨h1,_⟩|⟨_,b,hb,hf,hk,hμ⟩
  ·exact .inl (List.eq_nil_of_length_eq_zero (by rw[h.len,h1];rfl))
  ·refine .inr ⟨b,hb,Zbk h0 hf,Zer h0 hk,λr hr=>?_⟩
   obtain⟨i,y,hi,_,hq,hs⟩:=h.at hr
   exact hq.2.mono (Ze3 hs λb' e=>by rw[e];exact hμ i (zA0 hi).1)
end Go.Rx
namespace Go.Rx
open Go Go.Eng
def ZAq(l:List Ru)(key:Ru->Int)(o:Option Nat)(x:Ru):Bool:=match o with
 | none=>true
 | some t=>match l[t]? with
  | some y=>decide (key x < key y)
  | none=>false
def ZwW(l:List Ru)(cnt:Ru->Bool)(key:Ru->Int):Nat->Option Nat
 | 0=>none
 | i+1=>match l[i]? with
  | none=>ZwW l cnt key i
  | some x=>if cnt x&&ZAq l key (ZwW l cnt key i) x then some i else ZwW l cnt key i
def ZBc(l:List Ru)(cnt:Ru->Bool)(key:Ru->Int):Option Nat:=ZwW l cnt key l.length
def ZBo(r:Ru):Bool:=r.k == 4
def ZBp(r:Ru):Bool:=r.k == 3
def ZBq(r:Ru):Int:=r.n
def ZBr(_:Ru):Int:=0
def toO(x:Sta):Option Nat:=ZBc x.rules ZBo ZBq
def eoO(x:Sta):Option Nat:=ZBc x.rules ZBp ZBr
def ZBd(o:Option Nat):Int:=(o.getD 0:Nat)
def ZtL(x:Sta)(k:Nat)(r:Ru):Bool:=(r.k == 4&&!((k:Int) == ZBd (toO x)))||(r.k == 3&&!((k:Int) == ZBd (eoO x)))
abbrev Dd:=Int×Int
def Zqx(i:Nat)(x:Sta):Nat->List Dd
 | 0=>[]
 | k+1=>Zqx i x k++(match x.rules[k]? with
  | some r=>if ZtL x k r then[((i:Int),(k:Int))]else[]
  | none=>[])
def deadU(s:Sc):Nat->List Dd
 | 0=>[]
 | i+1=>deadU s i++(match s.states[i]? with
  | some x=>Zqx i x x.rules.length
  | none=>[])
def ZwX(s:Sc):List Dd:=deadU s s.states.length
theorem Zje{i:Nat}{x:Sta}{d:Dd}:∀{k:Nat},d∈Zqx i x k↔d.1=i/\∃j r,j < k/\x.rules[j]?=some r/\ZtL x j r=true/\d.2=j
 | 0=>by simp[Zqx]
 | k+1=>by
  rw[Zqx,List.mem_append,Zje (k:=k)]
  constructor
  ·rintro(⟨h1,j,r,h2,h3⟩|h)
   ·exact⟨h1,j,r,by omega,h3⟩
   ·split at h
    ·rename_i r hr
     split at h
     ·rename_i hb
      rw[List.mem_singleton]at h;subst h
      exact⟨rfl,k,r,by omega,hr,hb,rfl⟩
     ·cases h
    ·cases h
  ·rintro⟨h1,j,r,h2,h3,h4,h5⟩
   rcases Nat.lt_or_ge j k with hj|hj
   ·exact .inl ⟨h1,j,r,hj,h3,h4,h5⟩
   ·obtain rfl:j=k:=by omega
    refine .inr ?_
    rw[h3]
    show d∈(if ZtL x j r=true then _ else _)
    rw[if_pos h4,List.mem_singleton]
    exact Prod.ext h1 h5
theorem ZnG{s:Sc}{d:Dd}:∀{n:Nat},d∈deadU s n↔∃i x j r,i < n/\s.states[i]?=some x/\x.rules[j]?=some r/\ZtL x j r=true/\d=((i:Int),(j:Int))
 | 0=>by simp[deadU]
 | n+1=>by
  rw[deadU,List.mem_append,ZnG (n:=n)]
  constructor
  ·rintro(⟨i,x,j,r,h1,h2⟩|h)
   ·exact⟨i,x,j,r,by omega,h2⟩
   ·split at h
    ·rename_i x hx
     obtain⟨h1,j,r,h2,h3,h4,h5⟩:=Zje.1 h
     exact⟨n,x,j,r,by omega,hx,h3,h4,Prod.ext h1 h5⟩
    ·cases h
  ·rintro⟨i,x,j,r,h1,h2,h3,h4,h5⟩
   rcases Nat.lt_or_ge i n with hi|hi
   ·exact .inl ⟨i,x,j,r,hi,h2,h3,h4,h5⟩
   ·obtain rfl:i=n:=by omega
    refine .inr ?_
    rw[h2]
    exact Zje.2 ⟨by rw[h5],j,r,(zA0 h3).1,h3,h4,by rw[h5]⟩
theorem ZuO{s:Sc}{d:Dd}:d∈ZwX s↔∃(i:Nat)(x:Sta)(j:Nat)(r:Ru),s.states[i]?=some x/\x.rules[j]?=some r/\ZtL x j r=true/\d=((i:Int),(j:Int)):=by
 unfold ZwX
 rw[ZnG]
 constructor
 ·rintro⟨i,x,j,r,_,h⟩;exact⟨i,x,j,r,h⟩
 ·rintro⟨i,x,j,r,h,h'⟩;exact⟨i,x,j,r,(zA0 h).1,h,h'⟩
theorem ZnH(i:Nat)(x:Sta):∀k,(Zqx i x k).length<=k
 | 0=>by simp[Zqx]
 | k+1=>by
  rw[Zqx,zA1]
  have:=ZnH i x k
  split
  ·split <;> simp <;> omega
  ·simp;omega
end Go.Rx
namespace Go.Rx
open Go Go.Eng Go.RowKit
def ZlY(x:Sta)(k:Nat):Sta:=⟨x.s,x.ra,x.rc,x.rules.eraseIdx k⟩
def Zv5(s:Sc)(i k:Nat):Sc:=match s.states[i]? with
 | some x=>⟨s.n,s.va,s.vc,s.vars,s.sa,s.sc,s.states.set i (ZlY x k)⟩
 | none=>s
def ZhF(s:Sc)(i k:Int):Bool:=s.light&&(decide (i ≥ 0)&&(decide (i < s.states.length)&&(decide (k ≥ 0)&&match s.states[i.toNat]? with
 | some x=>decide (k < x.rules.length)
 | none=>false)))
theorem Zdg{s s':Sc}(h:s'.er=s.er):s'.states.map Sta.er=s.states.map Sta.er:=congrArg Sc.states h
theorem ZAr{s s':Sc}(h:s'.er=s.er){i:Nat}{x:Sta}(hx:s.states[i]?=some x):∃x',s'.states[i]?=some x'/\x'.er=x.er:=by
 have:=congrArg (λl=>l[i]?) (Zdg h)
 simp only[List.getElem?_map,hx,Option.map_some]at this
 obtain⟨x',h1,h2⟩:=Option.map_eq_some_iff.1 this
 exact⟨x',h1,h2⟩
theorem Zy1{s s':Sc}(h:s'.er=s.er):s'.states.length=s.states.length:=by
 have:=congrArg List.length (Zdg h);simpa using this
theorem Zho{x x':Sta}(h:x'.er=x.er):x'.s=x.s/\x'.rules.map Ru.er=x.rules.map Ru.er/\x'.rules.length=x.rules.length:=by
 have h2:x'.rules.map Ru.er=x.rules.map Ru.er:=congrArg Sta.rules h
 have h1:x'.er.s=x.er.s:=congrArg Sta.s h
 exact⟨h1,h2,by have:=congrArg List.length h2;simpa using this⟩
theorem Zqy{s s':Sc}(h:s'.er=s.er):s'.n=s.n/\s'.vars=s.vars:=by
 have h1:s'.er.n=s.er.n:=congrArg Sc.n h
 have h2:s'.er.vars=s.er.vars:=congrArg Sc.vars h
 exact⟨h1,h2⟩
theorem Zmd{s s':Sc}(h1:s'.n=s.n)(h2:s'.vars=s.vars)(h3:s'.states.map Sta.er=s.states.map Sta.er):s'.er=s.er:=by
 unfold Sc.er;rw[h1,h2,h3]
theorem Zjf{α β:Type}(f:α->β):∀(l:List α)(k:Nat),(l.eraseIdx k).map f=(l.map f).eraseIdx k
 | [],_=>rfl
 | _::_,0=>rfl
 | x::l,k+1=>by simp only[List.eraseIdx_cons_succ,List.map_cons,Zjf f l k]
theorem ZuP{x x':Sta}(h:x'.er=x.er)(k:Nat):(ZlY x' k).er=(ZlY x k).er:=by
 obtain⟨h1,h2,_⟩:=Zho h
 simp only[ZlY,Sta.er,h1,Sta.mk.injEq,true_and]
 rw[Zjf,Zjf,h2]
theorem ZuQ{m:Mem}{b:Nat}{L:List Sta}{i:Nat}{x y:Sta}(h:rowRd m (some ⟨b,0,none⟩) (L.map Sta.cs).flatten)(hx:L[i]?=some x)(hs:y.s=x.s):
  rowRd (m.upd b (0+i*2+1) [.slice y.ra y.rules.length y.rc]) (some ⟨b,0,none⟩) ((L.set i y).map Sta.cs).flatten:=by
 have hi:=(zA0 hx).1
 have hl:∀l:List Sta,(l.map Sta.cs).flatten.length=l.length*2:=ZaY Sta.len
 have e0:L=L.take i++x::L.drop (i+1):=by
  have:=(zA0 hx).2
  rw[<-this,List.getElem_cons_drop,List.take_append_drop]
 have e1:L.set i y=L.take i++y::L.drop (i+1):=List.set_eq_take_append_cons_drop.trans (if_pos hi)
 have lt:(L.take i).length=i:=by rw[List.length_take];omega
 have e:∀z:Sta,((L.take i++z::L.drop (i+1)).map Sta.cs).flatten=((L.take i).map Sta.cs).flatten++(z.cs++((L.drop (i+1)).map Sta.cs).flatten):=λz=>by simp
 rw[e0,e]at h
 rw[e1,e]
 obtain⟨A,hA⟩:∃A,A=((L.take i).map Sta.cs).flatten:=⟨_,rfl⟩
 obtain⟨B,hB⟩:∃B,B=((L.drop (i+1)).map Sta.cs).flatten:=⟨_,rfl⟩
 have lA:A.length=i*2:=by rw[hA,hl,lt]
 rw[<-hA,<-hB]at h ⊢
 rcases h with h|⟨b',o',ha,h⟩
 ·have:=congrArg List.length h
  rw[zA1,zA1,Sta.len]at this
  simp at this
 cases ha
 refine .inr ⟨b,0,rfl,λj v hj=>?_⟩
 unfold Mem.upd;try dsimp only
 rw[Nat.zero_add,Nat.zero_add,List.length_singleton]
 rcases Nat.lt_or_ge j (i*2)with aC|bL
 ·rw[if_neg (by omega)]
  rw[zA5 (by omega)]at hj
  have:=h j v (by rw[zA5 (by omega)];exact hj)
  rwa [Nat.zero_add]at this
 ·rw[zA4 (by omega),lA]at hj
  by_cases wP:j=i*2
  ·subst wP
   rw[if_neg (by omega)]
   rw[Nat.sub_self]at hj
   have:=h (i*2) v (by
    rw[zA4 (by omega),lA,Nat.sub_self]
    simp only[Sta.cs,hs]at hj ⊢
    exact hj)
   rwa [Nat.zero_add]at this
  ·by_cases uP:j=i*2+1
   ·subst uP
    rw[if_pos ⟨rfl,Nat.le_refl _,Nat.lt_succ_self _⟩,Nat.sub_self]
    rw[show i*2+1 - i*2=1 by omega]at hj
    exact hj
   ·rw[if_neg (by omega)]
    rw[zA4 (by rw[Sta.len];omega),Sta.len]at hj
    have:=h j v (by
     rw[zA4 (by omega),lA,zA4 (by rw[Sta.len];omega),Sta.len];exact hj)
    rwa [Nat.zero_add]at this
theorem ZuR{m2 m3 M:Mem}{s':Sc}{bS bR i k:Nat}{μ:Nat->Mem}{x':Sta}{zs:List Value}(cX:RepC (nw m2 m3) s')(bQ:SepC m2 m3 s' bS μ)(hx':s'.states[i]?=some x')(fU:x'.ra=some ⟨bR,0,none⟩)(hk:k < x'.rules.length)
  (jE:∀r∈x'.rules,RepR ((μ i).off λq=>q=bR) r) (hM:(m3.off λq=>q=bR).le M) (sK:(M.upd bS (0+i*2+1) [.slice x'.ra (x'.rules.length - 1) x'.rc]).free bR):
  RepC ((M.upd bS (0+i*2+1) [.slice x'.ra (x'.rules.length - 1) x'.rc]).add bR (((x'.rules.eraseIdx k).map Ru.cs).flatten++zs)) ⟨s'.n,s'.va,s'.vc,s'.vars,s'.sa,s'.sc,s'.states.set i (ZlY x' k)⟩:=by
 obtain⟨V,hV⟩:∃V,V=M.upd bS (0+i*2+1) [.slice x'.ra (x'.rules.length - 1) x'.rc]:=⟨_,rfl⟩
 rw[<-hV]at sK ⊢
 have hi:=(zA0 hx').1
 obtain⟨kO,iF,bU,qP⟩:=bQ.all i x' hx'
 have kno:∀{ν:Mem},ν.le (nw m2 m3)->∀b,ν.k b=none:=λh b=>Zer h rfl
 have stay:∀{ν:Mem},ν.le (m3.off λq=>q=bR)->ν.free bS->ν.le (V.add bR (((x'.rules.eraseIdx k).map Ru.cs).flatten++zs)):=λh1 h2=>
  mLt (by rw[hV];exact Mem.le_upd (mLt h1 hM) h2 _ _) (Mem.le_add sK _)
 have jm:¬(μ i).free bR:=λhf=>by
  rcases kO.row with h|⟨b,o,ha,h⟩
  ·have:=congrArg List.length h
   rw[ZaY Ru.len]at this;simp at this;omega
  ·rw[fU]at ha;cases ha
   have aC:0 < (x'.rules.map Ru.cs).flatten.length:=by rw[ZaY Ru.len];omega
   have:=h 0 _ (zA3 aC)
   rw[hf]at this;cases this
 have sL:bS≠bR:=λe=>jm (e ▸ qP)
 have off:∀{ν:Mem},ν.le (nw m2 m3)->ν.free bR->ν.le (m3.off λq=>q=bR):=λh1 h2=>Ze3 (mLt h1 (Zgd _ _)) λb e=>⟨e ▸ h2,kno h1 b⟩
 have bA:∀j,j < s'.states.length->j≠i->(μ j).free bR:=λj hj cM=>by
  rcases Nat.lt_or_ge j i with h|h
  ·exact(bQ.ap j i h hi bR).resolve_right jm
  ·exact(bQ.ap i j (by omega) hj bR).resolve_left jm
 have nA:=bQ.sa
 refine⟨cX.n,cX.vlen,?_,cX.vall,by rw[List.length_set];exact cX.len,?_,λy hy=>?_,cX.vcap,by rw[List.length_set];exact cX.scap⟩
 ·obtain⟨μv,h1,h2,h3,h4⟩:=bQ.va
  exact h1.mono (stay (off h2 ((h4 i hi bR).resolve_right jm)) h3)
 ·have aB:rowRd (m3.off λq=>q=bR) s'.sa (s'.states.map Sta.cs).flatten:=by
   rcases cX.row with h|⟨b,o,ha,h⟩
   ·exact .inl h
   ·refine .inr ⟨b,o,ha,λj v hj=>?_⟩
    rw[nA]at ha;cases ha
    rw[Mem.off_at (Y:=λq=>q=bR) sL];exact(Zgd m2 m3) _ _ _ (h j v hj)
  rw[nA]at aB
  have h5:=ZuQ (y:=ZlY x' k) (aB.mono hM) hx' rfl
  have h6:(ZlY x' k).rules.length=x'.rules.length - 1:=by simp only[ZlY];rw[List.length_eraseIdx,if_pos hk]
  rw[h6]at h5
  rw[nA]
  have h7:rowRd V (some ⟨bS,0,none⟩) ((s'.states.set i (ZlY x' k)).map Sta.cs).flatten:=by rw[hV];exact h5
  exact h7.mono (Mem.le_add sK _)
 ·obtain⟨j,hj⟩:=List.getElem?_of_mem hy
  by_cases ln:j=i
  ·subst ln
   rw[List.getElem?_set_self hi]at hj
   cases hj
   refine⟨kO.s,by show(x'.rules.eraseIdx k).length<=few;rw[List.length_eraseIdx,if_pos hk];have:=kO.len;omega,?_,λr hr=>?_⟩
   ·show rowRd _ x'.ra ((x'.rules.eraseIdx k).map Ru.cs).flatten
    rw[fU]
    refine .inr ⟨bR,0,rfl,λq v hq=>?_⟩
    rw[Nat.zero_add,Mem.add_same,zA5 (zA0 hq).1];exact hq
   ·refine(jE r (List.mem_of_mem_eraseIdx hr)).mono (stay (ZkB (mLt bU (Zgd _ _))) ?_)
    exact Zbk (Mem.off_le _ _) qP
  ·rw[List.getElem?_set_ne (Ne.symm ln)]at hj
   have ow:=(zA0 hj).1
   obtain⟨h1,_,h3,h4⟩:=bQ.all j y hj
   exact h1.mono (stay (off h3 (bA j ow ln)) h4)
def eqL{α:Type}(f:α->α->Bool):List α->List α->Bool
 | [],[]=>true
 | x::l,y::r=>f x y&&eqL f l r
 | _,_=>false
theorem Ziq{α:Type}{f:α->α->Bool}:∀{l r:List α},¬l.length=r.length->eqL f l r=false
 | [],[],h=>absurd rfl h
 | [],_::_,_=>rfl
 | _::_,[],_=>rfl
 | x::l,y::r,h=>by
  simp only[eqL];rw[Ziq (l:=l) (r:=r) (λe=>h (by simp[e])),Bool.and_false]
theorem ZnI{α:Type}{f:α->α->Bool}:∀{l r:List α} {i:Nat} {x y:α},l[i]?=some x->r[i]?=some y->f x y=false->eqL f l r=false
 | [],_,i,x,y,h,_,_=>by simp at h
 | _::_,[],i,x,y,_,h,_=>by simp at h
 | a::l,b::r,0,x,y,h,k,hf=>by simp at h k;subst h k;simp only[eqL,hf,Bool.false_and]
 | a::l,b::r,i+1,x,y,h,k,hf=>by
  simp only[eqL];rw[ZnI (l:=l) (r:=r) (i:=i) (by simpa using h) (by simpa using k) hf,Bool.and_false]
theorem ZfK{α:Type}{f:α->α->Bool}:∀{l r:List α} {i:Nat} {x y:α},l[i]?=some x->r[i]?=some y->eqL f (l.take i) (r.take i)=true->f x y=true->eqL f (l.take (i+1)) (r.take (i+1))=true
 | [],_,i,x,y,h,_,_,_=>by simp at h
 | _::_,[],i,x,y,_,h,_,_=>by simp at h
 | a::l,b::r,0,x,y,h,k,_,hf=>by simp at h k;subst h k;simp[eqL,hf]
 | a::l,b::r,i+1,x,y,h,k,ht,hf=>by
  simp only[List.take_succ_cons,eqL,zA7]at ht ⊢
  exact⟨ht.1,ZfK (l:=l) (r:=r) (by simpa using h) (by simpa using k) ht.2 hf⟩
theorem Zpo{α β:Type}{f:α->α->Bool}{er:α->β}:∀{l r:List α},l.map er=r.map er->(∀x∈l,∀y∈r,er x=er y->f x y=true)->eqL f l r=true
 | [],[],_,_=>rfl
 | [],_::_,h,_=>by simp at h
 | _::_,[],h,_=>by simp at h
 | x::l,y::r,h,hf=>by
  simp only[List.map_cons,List.cons.injEq]at h
  simp only[eqL,hf x (by simp) y (by simp) h.1,Bool.true_and]
  exact Zpo h.2 λa ha b hb=>hf a (by simp[ha]) b (by simp[hb])
def ZnJ(p q:Pt):Bool:=p.k == q.k&&(eqS p.s q.s&&(p.g == q.g&&(p.e.light&&(q.e.light&&p.e.same q.e))))
def ZnK(p q:Ac):Bool:=p.k == q.k&&(eqS p.s q.s&&(eqL ZnJ p.parts q.parts&&(p.e.light&&(q.e.light&&p.e.same q.e))))
def ZhB(p q:Ru):Bool:=p.k == q.k&&(p.bg == q.bg&&(p.en == q.en&&((p.t.light&&(q.t.light&&p.t.same q.t))&&(eqS p.s q.s&&(p.n == q.n&&(eqL ZnK p.acts q.acts&&(eqS p.go q.go&&p.code == q.code)))))))
def ZhG(r:Ru):Bool:=decide (wR r<=19999)
mutual
theorem Zqz:∀t u:T,t.er=u.er->t.same u=true
 | .node k s0 s1 s2 s3 mn mx a c l,.node k' s0' s1' s2' s3' mn' mx' a' c' l',h=>by
  simp only[T.er,T.node.injEq]at h
  obtain⟨rfl,rfl,rfl,rfl,rfl,rfl,rfl,_,_,h⟩:=h
  rw[Zty]
  simp only[T.k,T.s0,T.s1,T.s2,T.s3,T.mn,T.mx,T.subs,beq_self_eq_true,Bool.true_and]
  exact ZnL l l' h
theorem ZnL:∀l r:List T,erL l=erL r->ZeH l r=true
 | [],[],_=>by simp[ZeH]
 | [],_::_,h=>by simp[erL]at h
 | _::_,[],h=>by simp[erL]at h
 | t::l,u::r,h=>by
  simp only[erL,List.cons.injEq]at h
  simp only[ZeH,Zqz t u h.1,ZnL l r h.2,Bool.and_self]
end
mutual
theorem Zme:∀t u:E,t.er=u.er->t.same u=true
 | .node k x s g a c l,.node k' x' s' g' a' c' l',h=>by
  simp only[E.er,E.node.injEq]at h
  obtain⟨rfl,rfl,rfl,rfl,_,_,h⟩:=h
  rw[Zqi]
  simp only[E.k,E.x,E.s,E.g,E.subs,beq_self_eq_true,Bool.true_and,Znr]
  exact ZnM l l' h
theorem ZnM:∀l r:List E,Zv9 l=Zv9 r->Zck l r=true
 | [],[],_=>by simp[Zck]
 | [],_::_,h=>by simp[Zv9]at h
 | _::_,[],h=>by simp[Zv9]at h
 | t::l,u::r,h=>by
  simp only[Zv9,List.cons.injEq]at h
  simp only[Zck,Zme t u h.1,ZnM l r h.2,Bool.and_self]
end
theorem ZnN{e f:E}(h:e.er=f.er):e.light=f.light:=by rw[<-Ze6 e,h,Ze6]
theorem Zsl{e f:T}(h:e.er=f.er):e.light=f.light:=by rw[<-Zjc e,h,Zjc]
theorem ZuS{p q:Pt}(h:p.er=q.er)(hl:p.e.light=true):ZnJ p q=true:=by
 simp only[Pt.er,Pt.mk.injEq]at h
 obtain⟨h1,h2,h3,h4⟩:=h
 simp only[ZnJ,h1,h2,h3,ZeJ,beq_self_eq_true,Bool.true_and,hl,<-ZnN h4,Zme _ _ h4]
theorem ZuT{p q:Ac}(h:p.er=q.er)(hl:LtA p):ZnK p q=true:=by
 simp only[Ac.er,Ac.mk.injEq]at h
 obtain⟨h1,h2,_,_,h3,h4⟩:=h
 simp only[ZnK,h1,h2,ZeJ,beq_self_eq_true,Bool.true_and,hl.1,<-ZnN h4,Zme _ _ h4,Bool.and_true]
 exact Zpo h3 λx hx y _ he=>ZuS he (hl.2 x hx)
theorem ZuU{p q:Ru}(h:p.er=q.er)(hl:LtR p):ZhB p q=true:=by
 simp only[Ru.er,Ru.mk.injEq]at h
 obtain⟨h1,h2,h3,h4,h5,h6,_,_,h7,h8,h9⟩:=h
 simp only[ZhB,h1,h2,h3,h5,h6,h8,h9,ZeJ,beq_self_eq_true,Bool.true_and,hl.1,<-Zsl h4,Zqz _ _ h4,Bool.and_true]
 exact Zpo h7 λx hx y _ he=>ZuT he (hl.2 x hx)
theorem MkC.deadU{s:Sc}(h:MkC s)(n:Nat):(Go.Rx.deadU s n).length<=n*5:=by
 induction n with
 | zero=>simp[Go.Rx.deadU]
 | succ n ih=>
  rw[Go.Rx.deadU,zA1,Nat.succ_mul]
  refine Nat.add_le_add ih ?_
  split
  ·rename_i x hx
   exact Nat.le_trans (ZnH n x x.rules.length) (h.all n x hx).len
  ·simp
theorem MkC.wR{s:Sc}(h:MkC s){i a:Nat}{x:Sta}{r:Ru}(hx:s.states[i]?=some x)(hr:x.rules[a]?=some r):Go.Rx.wR r<=405:=((h.all i x hx).all r (zA2 hr)).w
def w64(n:Int):Int:=IntKind.i64.wrap n
theorem Zjg(n:Int):IntKind.i64.wrap n=(if n % 18446744073709551616 ≥ 9223372036854775808 then n % 18446744073709551616 - 18446744073709551616 else n % 18446744073709551616):=by
 unfold IntKind.wrap
 simp only[show IntKind.i64.bits=64 from rfl,show IntKind.i64.signed=true from rfl,Bool.true_and]
 simp only[show(2:Int) ^ 64=18446744073709551616 by decide,show(2:Int) ^ (64 - 1)=9223372036854775808 by decide,decide_eq_true_eq]
theorem ZqA(a b:Int):IntKind.i64.wrap (w64 a+b)=w64 (a+b):=by
 unfold w64
 rw[Zjg,Zjg,Zjg]
 split <;> split <;> split <;> omega
theorem Zpp(a b:Int):w64 (a+b)=IntKind.i64.wrap (w64 a+b):=(ZqA a b).symm
theorem ZuV(a b:Int):IntKind.i64.wrap (a+w64 b)=w64 (a+b):=by
 rw[Int.add_comm,ZqA,Int.add_comm]
theorem ZwY(a b:Int):w64 (a+w64 b)=w64 (a+b):=ZuV a b
theorem ZzU{n:Int}(h:I64 n):w64 n=n:=by
 unfold I64 at h
 unfold w64
 rw[Zjg]
 split <;> omega
theorem W_0:w64 0=0:=ZzU (by unfold I64;omega)
def ZlZ(p:E->Bool)(l:List E):Int:=((l.filter p).length:Nat)
theorem ZqB(p:E->Bool)(l r:List E):ZlZ p (l++r)=ZlZ p l+ZlZ p r:=by unfold ZlZ;rw[List.filter_append,zA1];omega
theorem Zjh(p:E->Bool)(x:E)(l:List E):ZlZ p (x::l)=(if p x then 1 else 0)+ZlZ p l:=by
 unfold ZlZ;rw[List.filter_cons];split <;> simp;omega
theorem ZtM(p:E->Bool):ZlZ p []=0:=rfl
theorem ZuW(p:E->Bool){l:List E}{q:Nat}{x:E}(h:l[q]?=some x):ZlZ p (l.take (q+1))=ZlZ p (l.take q)+(if p x then 1 else 0):=by
 rw[List.take_add_one,h,ZqB]
 show _+ZlZ p [x]=_
 rw[Zjh,ZtM];omega
def ZyG(x:E):Bool:=decide (Znu x.k > 0)
def Zy2(x:E):Bool:=x.k == 9||x.k == 10
def ZnO(e:E):Int:=if e.light then ZlZ ZyG e.nodes else 0
def vrE(e:E):Int:=ZlZ Zy2 e.nodes
def paP(p:Pt):Int:=if p.k=1 then 0 else 1
def ZoL(p:Pt):Int:=if p.k=4 then ZnO p.e else 0
def vrP(p:Pt):Int:=if p.k=4 then vrE p.e else 0
def paA(a:Ac):Int:=ZaB (a.parts.map paP)
def ZqC(a:Ac):Int:=(if a.k=3 then ZnO a.e else 0)+ZaB (a.parts.map ZoL)
def vrA(a:Ac):Int:=(if a.k=3 then vrE a.e else 0)+ZaB (a.parts.map vrP)
def ruS(x:Sta):Int:=x.rules.length
def rgR(r:Ru):Int:=if r.k=1 then r.t.size else 0
def rgS(x:Sta):Int:=ZaB (x.rules.map rgR)
def Zge(x:Sta):List Ac:=x.rules.flatMap (·.acts)
def Zb3(s:Sc):List Ac:=s.states.flatMap Zge
def msV(a b c d e f:Int):List Value:=[.int .i64 a,.int .i64 b,.int .i64 c,.int .i64 d,.int .i64 e,.int .i64 f]
def ms1(s:Sc):Int:=ZaB (s.states.map ruS)
def ms2(s:Sc):Int:=ZaB (s.states.map rgS)
def ms3(s:Sc):Int:=ZaB ((Zb3 s).map paA)
def ms4(s:Sc):Int:=ZaB ((Zb3 s).map ZqC)
def ms5(s:Sc):Int:=ZaB ((Zb3 s).map vrA)
def Zir(s:Sc):List Value:=if s.light then msV s.states.length (w64 (ms1 s)) (w64 (ms2 s)) (w64 (ms3 s)) (w64 (ms4 s)) (w64 (ms5 s))else msV 0 0 0 0 0 0
theorem Za8{α:Type}(f:α->Int){l:List α}{q:Nat}{x:α}(h:l[q]?=some x):ZaB ((l.take (q+1)).map f)=ZaB ((l.take q).map f)+f x:=by
 rw[List.take_add_one,h,List.map_append,Zi6]
 show _+(f x+0)=_
 omega
theorem ZnP{α β:Type}(f:α->List β){l:List α}{q:Nat}{x:α}(h:l[q]?=some x):(l.take (q+1)).flatMap f=(l.take q).flatMap f++f x:=by
 rw[List.take_add_one,h,List.flatMap_append]
 simp
theorem ZtN{α β:Type}(f:α->List β){l:List α}{q:Nat}{x:α}(h:l[q]?=some x){j:Nat}{y:β}(hj:(f x)[j]?=some y):(l.flatMap f)[((l.take q).flatMap f).length+j]?=some y:=by
 have e:l=l.take q++x::l.drop (q+1):=by
  have hq:=(zA0 h).1
  rw[<-(zA0 h).2,<-List.drop_eq_getElem_cons hq,List.take_append_drop]
 have e2:l.flatMap f=(l.take q).flatMap f++(f x++(l.drop (q+1)).flatMap f):=by
  conv=>lhs;rw[e]
  rw[List.flatMap_append,List.flatMap_cons]
 rw[e2,zA4 (by omega),Nat.add_sub_cancel_left,zA5 (zA0 hj).1]
 exact hj
theorem ZuX{m:Mem}{s:Sc}(hr:RepC m s){a:Ac}(h:a∈Zb3 s):RepA m a:=by
 unfold Zb3 Zge at h
 obtain⟨x,hx,h⟩:=List.mem_flatMap.1 h
 obtain⟨r,eG,h⟩:=List.mem_flatMap.1 h
 exact((hr.all x hx).all r eG).all a h
end Go.Rx
namespace Go.Rx
open Go Go.Eng
end Go.Rx
namespace Go.Rx
open Go Go.Eng Go.RowKit
theorem ZtO(f:Sta->Int)(hf:∀x,0<=f x):∀l:List Sta,0<=ZaB (l.map f)
 | []=>by simp[ZaB]
 | x::l=>by have:=hf x;have:=ZtO f hf l;simp only[List.map_cons,ZaB];omega
theorem MkC.ms1{s:Sc}(h:MkC s):0<=Go.Rx.ms1 s/\Go.Rx.ms1 s<=20:=by
 refine⟨ZtO _ (λx=>by unfold ruS;omega) _,?_⟩
 have:=ZgH ruS 5 s.states (λx hx=>by
  obtain⟨i,hi⟩:=List.getElem?_of_mem hx
  have:=(h.all i x hi).len
  unfold ruS;omega)
 have h2:=h.len.2
 unfold Go.Rx.ms1
 omega
section
variable {P:Program} {K:TypeId} {κ ν:Type} [DecidableEq κ] {f:κ->Value} {g:ν->Value}
def ZzV(f:κ->Value)(g:ν->Value)(L:List (κ×ν)):List (Value×Value):=L.map λq=>(f q.1,g q.2)
variable (he:∀a b:κ,EqIs P K (f a) (f b) (decide (a=b)))
include he
theorem ZqD(k:κ):∀L:List (κ×ν),k ∉ L.map (·.1)->MapFind P K (f k) (ZzV f g L) none
 | [],_=>rfl
 | q::L,h=>by
  simp only[List.map_cons,List.mem_cons,not_or]at h
  have:=he k q.1
  rw[decide_eq_false h.1]at this
  exact .inr ⟨this,ZqD k L h.2⟩
theorem ZtP(k:κ)(z:ν):∀L:List (κ×ν),k ∉ L.map (·.1)->ZiH P K (f k) (g z) (ZzV f g L) (ZzV f g (L++[(k,z)]))
 | [],_=>rfl
 | q::L,h=>by
  simp only[List.map_cons,List.mem_cons,not_or]at h
  have:=he k q.1
  rw[decide_eq_false h.1]at this
  exact .inr ⟨this,_,ZtP k z L h.2,rfl⟩
theorem ZtQ(k:κ)(z:ν):∀L:List (κ×ν),(k,z)∈L->(L.map (·.1)).Nodup->MapFind P K (f k) (ZzV f g L) (some (g z))
 | [],h,_=>by cases h
 | q::L,h,hn=>by
  have h0:=he k q.1
  rw[List.map_cons,List.nodup_cons]at hn
  rcases List.mem_cons.1 h with h|h
  ·subst h
   rw[decide_eq_true rfl]at h0
   exact .inl ⟨h0,rfl⟩
  ·have:¬k=q.1:=λe=>hn.1 (by rw[<-e];exact List.mem_map.2 ⟨_,h,rfl⟩)
   rw[decide_eq_false this]at h0
   exact .inr ⟨h0,ZtQ k z L h hn.2⟩
end
theorem Zsm{s t:Sc}(hs:s.light=true)(ht:t.light=true)(e8:∀x∈t.states,x∈s.states)(cQ:∀x∈s.states,x∈t.states)(name:ByteArray):Zsa t name=Zsa s name:=by
 unfold Zsa
 rw[hs,ht,Bool.and_true,Bool.and_true,Bool.eq_iff_iff,List.any_eq_true,List.any_eq_true]
 exact⟨λ⟨x,h1,h2⟩=>⟨x,e8 x h1,h2⟩,λ⟨x,h1,h2⟩=>⟨x,cQ x h1,h2⟩⟩
structure Turn (s t:Sc):Prop where
 n:t.n=s.n
 vars:t.vars=s.vars
 len:t.states.length=s.states.length
 sub:∀x∈t.states,x∈s.states
 sup:∀x∈s.states,x∈t.states
 dif:∀(i j:Nat)(x y:Sta),t.states[i]?=some x->t.states[j]?=some y->i≠j->eqS x.s y.s=false
section
variable {s t:Sc} (h:MkC s) (hT:Turn s t)
include h hT
theorem Turn.weight:t.weight<=8200:=by
 have h1:=ZgH wS 2025 t.states (λx hx=>by
  obtain⟨i,_,hm⟩:=h.state (hT.sub x hx)
  exact hm.w)
 have h2:=h.len
 have h3:=h.vlen
 unfold Sc.weight
 rw[hT.vars,hT.len]
 rw[hT.len]at h1
 omega
theorem Turn.light:t.light=true:=by unfold Sc.light;exact decide_eq_true (by have:=hT.weight h;omega)
theorem Turn.totals(i k:Nat):Rx.totals t i k<=600:=by
 have h0:=h.len
 have h1:=ZgH (λx:Sta=>ZaB (x.rules.map Rx.sizeR)) 130 (t.states.take i) (λx hx=>by
  obtain⟨j,_,hm⟩:=h.state (hT.sub x (List.mem_of_mem_take hx))
  have:=hm.sizes x.rules.length
  rwa [List.take_length]at this)
 rw[List.length_take,hT.len]at h1
 unfold Rx.totals
 cases hx:t.states[i]? with
 | none=>show _+0<=_;omega
 | some x=>
  have hi:=(zA0 hx).1
  rw[hT.len]at hi
  obtain⟨j,_,hm⟩:=h.state (hT.sub x (zA2 hx))
  have:=hm.sizes (k+1)
  show _+ZaB ((x.rules.take (k+1)).map Rx.sizeR)<=_
  omega
theorem Turn.at0:∀p∈t.places,atS t p=0:=by
 intro p hp
 have hP:∀{r:Ru} {a:Ac},MkA (Zdp r) a->∀{n:Nat} {q:Pt},a.parts[n]?=some q->ZlX t r a.parts n q=0:=λ{r a} ha {n q} hq=>by
  have e:ZlX t r a.parts n q=ZlX s r a.parts n q:=by unfold ZlX ZhA Zdy ZhA;rw[hT.vars]
  rw[e]
  cases ha with
  | send _ _ l hl=>exact h.part hl hq
  | set _ _ _ _ l hl=>exact h.part hl hq
  | let_ _ _ e _=>simp at hq
 rcases Zny t p hp with⟨i,hi,v,hv⟩|⟨hv,hs|⟨i,hi,x,hx,hr|⟨k,hk,r,hr,ha|⟨j,hj,a,ha,hq|⟨n,hn,q,hq⟩⟩⟩⟩⟩
 ·have e:atS t p=ZcM t i v:=by
   unfold atS
   rw[if_pos (by omega),show p.v.toNat=i by omega,hv]
  have e2:ZcM t i v=ZcM s i v:=by unfold ZcM;rw[hT.vars]
  rw[e,e2];exact h.var (by rw[<-hT.vars];exact hv)
 all_goals have hv':¬p.v ≥ 0:=by omega
 ·unfold atS
  rw[if_neg hv',if_pos hs]
  have e:Znv t=Znv s:=by unfold Znv;rw[hT.n,hT.len,hT.vars]
  rw[e];exact h.whole
 all_goals
  have hs':¬p.s < 0:=by omega
  have lp:p.s.toNat=i:=by omega
  obtain⟨i0,qQ,hm⟩:=h.state (hT.sub x (zA2 ‹t.states[i]?=some x›))
 ·have e:atS t p=Znw t i x:=by
   unfold atS
   rw[if_neg hv',if_neg hs',lp,hx]
   exact if_pos hr
  rw[e]
  have h1:ZfW x.s=true:=ZtH _ (zA2 hm.name)
  have h2:decide (x.rules.length > 12)=false:=decide_eq_false (by have:=hm.len;omega)
  have h3:((t.states.take i).any λy=>eqS y.s x.s)=false:=by
   rw[List.any_eq_false]
   intro y hy
   obtain⟨j,hj⟩:=List.getElem?_of_mem hy
   have ln:j < i:=by have:=(zA0 hj).1;rw[List.length_take]at this;omega
   rw[List.getElem?_take_of_lt ln]at hj
   rw[hT.dif j i y x hj hx (by omega)];simp
  simp[Znw,Zcz,h1,h2,h3]
 all_goals
  have hr':¬p.r < 0:=by omega
  have il:p.r.toNat=k:=by omega
  have hR:=hm.all r (zA2 hr)
 ·have e:atS t p=Zqm t r (Rx.totals t i k):=by
   unfold atS
   rw[if_neg hv',if_neg hs',lp,hx]
   show(if p.r < 0 then _ else _)=_
   rw[if_neg hr',il,hr]
   exact if_pos ha
  have e2:∀n,Zqm t r n=Zqm s r n:=λn=>by unfold Zqm;rw[Zsm h.light (hT.light h) hT.sub hT.sup]
  rw[e,e2];exact h.rule hR (hT.totals h i k)
 all_goals
  have ha':¬p.a < 0:=by omega
  have kH:p.a.toNat=j:=by omega
  have hA:=hR.all a (zA2 ‹r.acts[j]?=some a›)
 ·have e:atS t p=Zd0 t r a:=by
   unfold atS
   rw[if_neg hv',if_neg hs',lp,hx]
   show(if p.r < 0 then _ else _)=_
   rw[if_neg hr',il,hr]
   show(if p.a < 0 then _ else _)=_
   rw[if_neg ha',kH,‹r.acts[j]?=some a›]
   exact if_pos hq
  have e2:Zd0 t r a=Zd0 s r a:=by unfold Zd0 ZhA Zdy ZhA;rw[hT.vars]
  rw[e,e2];exact h.action hA
 ·have e:atS t p=ZlX t r a.parts n q:=by
   unfold atS
   rw[if_neg hv',if_neg hs',lp,hx]
   show(if p.r < 0 then _ else _)=_
   rw[if_neg hr',il,hr]
   show(if p.a < 0 then _ else _)=_
   rw[if_neg ha',kH,‹r.acts[j]?=some a›]
   show(if p.p < 0 then _ else _)=_
   rw[if_neg (by omega),show p.p.toNat=n by omega,hq]
  rw[e];exact hP hA hq
theorem Turn.check:t.check=(top,0):=by
 have e:t.problems=[]:=by
  unfold Sc.problems
  rw[List.filterMap_eq_nil_iff]
  intro p hp
  rw[if_pos (hT.at0 h p hp)]
 unfold Sc.check
 rw[if_pos (hT.light h),e]
end
def kp(r:Ru):Bool:=decide (r.k ≥ 3)
def Ztf(x:Sta)(j:Nat):Nat:=((x.rules.take j).filter kp).length
theorem ZnQ{x:Sta}{j:Nat}{r:Ru}(h:x.rules[j]?=some r):Ztf x (j+1)=Ztf x j+(if kp r then 1 else 0):=by
 unfold Ztf
 rw[List.take_add_one,h,List.filter_append,zA1]
 congr 1
 show([r].filter kp).length=_
 rw[List.filter_cons]
 split <;> rfl
theorem Zsn{x:Sta}{i j:Nat}(h:i<=j):Ztf x i<=Ztf x j:=by
 induction j with
 | zero=>rw[show i=0 by omega];exact Nat.le_refl _
 | succ j ih=>
  by_cases e:i=j+1
  ·rw[e];exact Nat.le_refl _
  ·refine Nat.le_trans (ih (by omega)) ?_
   cases hx:x.rules[j]? with
   | some r=>rw[ZnQ hx];omega
   | none=>unfold Ztf;rw[List.take_add_one,hx];simp
theorem ZtR{x:Sta}{i j:Nat}{r:Ru}(hr:x.rules[i]?=some r)(hk:kp r=true)(h:i < j):Ztf x i < Ztf x j:=by
 have h1:=ZnQ hr
 rw[hk,if_pos rfl]at h1
 have:=Zsn (x:=x) (show i+1<=j by omega)
 omega
theorem ZuY{x:Sta}{i j:Nat}{p q:Ru}(hp:x.rules[i]?=some p)(hq:x.rules[j]?=some q)(kpp:kp p=true)(kpq:kp q=true)(h:Ztf x i=Ztf x j):i=j:=by
 rcases Nat.lt_trichotomy i j with h1|h1|h1
 ·have:=ZtR hp kpp h1;omega
 ·exact h1
 ·have:=ZtR hq kpq h1;omega
def ZBe(x:Sta)(d:Dd):Dd:=(d.1,(Ztf x d.2.toNat:Nat))
def phi(s:Sc)(d:Dd):Dd:=match s.states[d.1.toNat]? with
 | some x=>ZBe x d
 | none=>d
theorem ZwZ{s:Sc}{d:Dd}(h:d∈ZwX s):∃(i k:Nat)(x:Sta)(r:Ru),d=((i:Int),(k:Int))/\s.states[i]?=some x/\x.rules[k]?=some r/\kp r=true/\phi s d=((i:Int),((Ztf x k:Nat):Int)):=by
 obtain⟨i,x,k,r,h1,h2,h3,rfl⟩:=ZuO.1 h
 refine⟨i,k,x,r,rfl,h1,h2,?_,?_⟩
 ·unfold ZtL at h3
  rw[Bool.or_eq_true,zA7,zA7]at h3
  unfold kp
  rcases h3 with⟨h4,_⟩|⟨h4,_⟩
  ·have:r.k=4:=by simpa using h4
   exact decide_eq_true (by omega)
  ·have:r.k=3:=by simpa using h4
   exact decide_eq_true (by omega)
 ·unfold phi ZBe
  simp only[zA8,h1]
end Go.Rx
namespace Go.Rx
open Go Go.Eng
def Zgf(l:List Int):List Int:=l.mergeSort λx y=>decide (x<=y)
theorem Ze8(l:List Int):(Zgf l).length=l.length:=List.length_mergeSort l
theorem Zso{l:List Int}{x:Int}:x∈Zgf l↔x∈l:=List.mem_mergeSort
theorem ZgI(l:List Int):(Zgf l).Pairwise (·<=·):=
 (List.pairwise_mergeSort (le:=λx y:Int=>decide (x<=y)) (λa b c h1 h2=>by simp at h1 h2 ⊢;omega) (λa b=>by simp;omega) l).imp λh=>zA6 h
def Ze9(l:List Int):List Int:=Go.Lib.compact (Zgf l)
theorem Zes{zs:List Int}(h:zs.Pairwise (·<=·)):∀m,m<=zs.length->(Go.Lib.compactUpTo zs.toArray m).Pairwise (· < ·)/\∀x,x∈Go.Lib.compactUpTo zs.toArray m↔x∈zs.take m
 | 0,_=>by simp[Go.Lib.compactUpTo]
 | m+1,hm=>by
  obtain⟨h1,h2⟩:=Zes h m (by omega)
  have aC:m < zs.length:=hm
  have em:zs.toArray[m]! = zs[m]:=by rw[getElem!_pos _ m (by simpa using aC)];simp
  have cI:∀x,x∈zs.take (m+1)↔x∈zs.take m\/x=zs[m]:=λx=>by
   rw[List.take_add_one,zA3 aC,List.mem_append];simp
  have bU:∀x∈zs.take m,∀k,m<=k+1->(hk:k < zs.length)->k < m->x<=zs[k]:=λx hx k jo hk jp=>by
   obtain⟨i,hi,rfl⟩:=List.mem_iff_getElem.1 hx
   rw[List.length_take]at hi
   rw[List.getElem_take]
   by_cases e:i=k
   ·subst e;exact Int.le_refl _
   ·exact List.pairwise_iff_getElem.1 h i k (by omega) hk (by omega)
  rw[Go.Lib.compactUpTo_succ]
  cases hk:Go.Lib.keeps zs.toArray m with
  | true=>
   rw[if_pos rfl,em]
   refine⟨List.pairwise_append.2 ⟨h1,List.pairwise_singleton _ _,λx hx y hy=>?_⟩,λx=>?_⟩
   ·rw[List.mem_singleton]at hy;subst hy
    have hx:=(h2 x).1 hx
    have h0:0 < m:=by
     cases m with
     | zero=>simp at hx
     | succ m=>omega
    have cM:zs.toArray[m]!≠zs.toArray[m - 1]!:=by
     unfold Go.Lib.keeps at hk
     have:=zA6 hk
     rcases this with h|h
     ·omega
     ·exact h
    rw[em,getElem!_pos _ (m - 1) (by simp;omega)]at cM
    simp only[List.getElem_toArray]at cM
    have h3:=bU x hx (m - 1) (by omega) (by omega) (by omega)
    have h4:=List.pairwise_iff_getElem.1 h (m - 1) m (by omega) aC (by omega)
    omega
   ·rw[List.mem_append,h2,cI,List.mem_singleton]
  | false=>
   rw[if_neg (by decide),List.append_nil]
   refine⟨h1,λx=>?_⟩
   rw[h2,cI]
   refine⟨.inl,λhx=>hx.elim id λe=>?_⟩
   unfold Go.Lib.keeps at hk
   have hk:=of_decide_eq_false hk
   have eM:m≠0:=λe=>hk (.inl e)
   have he:zs.toArray[m]! = zs.toArray[m - 1]!:=Classical.byContradiction λe=>hk (.inr e)
   rw[em,getElem!_pos _ (m - 1) (by simp;omega)]at he
   simp only[List.getElem_toArray]at he
   rw[e,he]
   exact List.mem_iff_getElem.2 ⟨m - 1,by rw[List.length_take];omega,by rw[List.getElem_take]⟩
theorem ZqE(l:List Int):(Ze9 l).Pairwise (· < ·):=(Zes (ZgI l) _ (Nat.le_refl _)).1
theorem Zhp{l:List Int}{x:Int}:x∈Ze9 l↔x∈l:=by
 have:=(Zes (ZgI l) _ (Nat.le_refl _)).2 x
 rw[List.take_length,Zso]at this
 exact this
theorem Zw0{l r:List Int}(hl:l.Pairwise (· < ·))(hr:r.Pairwise (· < ·))(h:∀x,x∈l↔x∈r):l=r:=by
 have p:l.Perm r:=(List.perm_ext_iff_of_nodup (hl.imp λh=>by omega) (hr.imp λh=>by omega)).2 h
 exact p.eq_of_pairwise (le:=λx y:Int=>x < y) (λa b _ _ h1 h2=>by omega) hl hr
theorem ZuZ{l r:List Int}(h:∀x,x∈l↔x∈r):Ze9 l=Ze9 r:=Zw0 (ZqE l) (ZqE r) λx=>by rw[Zhp,Zhp,h]
theorem ZnR{l:List Int}(h:l.Pairwise (· < ·)):Ze9 l=l:=Zw0 (ZqE l) h λx=>Zhp
theorem ZqF(l:List Int):(Ze9 l).length<=l.length:=by
 have h1:=Ze8 l
 have h2:(Go.Lib.compact (Zgf l)).length<=(Zgf l).length:=by
  unfold Go.Lib.compact Go.Lib.compactUpTo
  rw[List.length_map]
  exact Nat.le_trans (List.length_filter_le _ _) (by rw[List.length_range];exact Nat.le_refl _)
 unfold Ze9;omega
def Zy3(L:List (ByteArray×Nat))(n:ByteArray):Bool:=L.any λq=>decide (q.1=n)
theorem ZfL{L:List (ByteArray×Nat)}{n:ByteArray}:Zy3 L n=true↔n∈L.map (·.1):=by
 unfold Zy3
 rw[List.any_eq_true,List.mem_map]
 exact⟨λ⟨q,h1,h2⟩=>⟨q,h1,zA6 h2⟩,λ⟨q,h1,h2⟩=>⟨q,h1,decide_eq_true h2⟩⟩
def ZcP(L:List Sta):Nat->List (ByteArray×Nat)
 | 0=>[]
 | i+1=>match L[i]? with
  | some x=>if Zy3 (ZcP L i) x.s then ZcP L i else ZcP L i++[(x.s,i)]
  | none=>ZcP L i
theorem Zsp{L:List Sta}{i:Nat}{x:Sta}(h:L[i]?=some x):ZcP L (i+1)=if Zy3 (ZcP L i) x.s then ZcP L i else ZcP L i++[(x.s,i)]:=by
 rw[ZcP,h]
theorem ZkC(L:List Sta):∀i,((ZcP L i).map (·.1)).Nodup
 | 0=>List.nodup_nil
 | i+1=>by
  have ih:=ZkC L i
  rw[ZcP]
  split
  ·split
   ·exact ih
   ·rename_i h
    rw[ZfL]at h
    rw[List.map_append,List.nodup_append]
    refine⟨ih,by simp,λa ha b hb e=>h ?_⟩
    simp at hb;subst hb;subst e;exact ha
  ·exact ih
theorem ZqG(L:List Sta)(n:ByteArray):∀i,n∈(ZcP L i).map (·.1)↔∃j x,j < i/\L[j]?=some x/\x.s=n
 | 0=>by simp[ZcP]
 | i+1=>by
  have ih:=ZqG L n i
  have more:(∃j x,j < i+1/\L[j]?=some x/\x.s=n)↔(∃j x,j < i/\L[j]?=some x/\x.s=n)\/∃x,L[i]?=some x/\x.s=n:=by
   constructor
   ·rintro⟨j,x,h1,h2,h3⟩
    by_cases e:j=i
    ·subst e;exact .inr ⟨x,h2,h3⟩
    ·exact .inl ⟨j,x,by omega,h2,h3⟩
   ·rintro(⟨j,x,h1,h2,h3⟩|⟨x,h2,h3⟩)
    ·exact⟨j,x,by omega,h2,h3⟩
    ·exact⟨i,x,by omega,h2,h3⟩
  rw[more,<-ih,ZcP]
  cases hx:L[i]? with
  | none=>simp
  | some x=>
   simp only[Option.some.injEq,exists_eq_left']
   split
   ·rename_i h
    rw[ZfL]at h
    exact⟨.inl,λk=>k.elim id λe=>e ▸ h⟩
   ·rw[List.map_append,List.mem_append]
    simp[eq_comm]
theorem ZqH(L:List Sta)(n:ByteArray)(k:Nat):∀i,(n,k)∈ZcP L i↔k < i/\(∃x,L[k]?=some x/\x.s=n)/\∀j y,j < k->L[j]?=some y->y.s≠n
 | 0=>by simp[ZcP]
 | i+1=>by
  have ih:=ZqH L n k i
  have hk:=ZqG L n i
  rw[ZcP]
  cases hx:L[i]? with
  | none=>
   simp only
   rw[ih]
   refine⟨λh=>⟨by omega,h.2⟩,λ⟨h1,⟨x,h2,h3⟩,h4⟩=>⟨?_,⟨x,h2,h3⟩,h4⟩⟩
   by_cases e:k=i
   ·subst e;rw[hx]at h2;cases h2
   ·omega
  | some x=>
   simp only
   split
   ·rename_i e8
    rw[ZfL]at e8
    rw[ih]
    refine⟨λh=>⟨by omega,h.2⟩,λ⟨h1,⟨y,h2,h3⟩,h4⟩=>⟨?_,⟨y,h2,h3⟩,h4⟩⟩
    by_cases e:k=i
    ·subst e
     rw[hx]at h2;cases h2
     subst h3
     obtain⟨j,z,g1,g2,g3⟩:=hk.1 e8
     exact absurd g3 (h4 j z g1 g2)
    ·omega
   ·rename_i e8
    rw[ZfL]at e8
    rw[List.mem_append,ih,List.mem_singleton,Prod.mk.injEq]
    constructor
    ·rintro(h|⟨rfl,rfl⟩)
     ·exact⟨by omega,h.2⟩
     ·refine⟨by omega,⟨x,hx,rfl⟩,λj y h1 h2 h3=>e8 (hk.2 ⟨j,y,h1,h2,h3⟩)⟩
    ·rintro⟨h1,⟨y,h2,h3⟩,h4⟩
     by_cases e:k=i
     ·subst e
      rw[hx]at h2;cases h2
      exact .inr ⟨h3.symm,rfl⟩
     ·exact .inl ⟨by omega,⟨y,h2,h3⟩,h4⟩
def goI(L:List Sta)(n:ByteArray):Option Nat:=L.findIdx? λx=>decide (x.s=n)
theorem Zmf{L:List Sta}{n:ByteArray}{k:Nat}:goI L n=some k↔(n,k)∈ZcP L L.length:=by
 rw[ZqH,goI,List.findIdx?_eq_some_iff_getElem]
 constructor
 ·rintro⟨h,h1,h2⟩
  refine⟨h,⟨L[k],zA3 h,zA6 h1⟩,λj y hj hy e=>?_⟩
  obtain⟨g1,g2⟩:=zA0 hy
  have:=h2 j hj
  rw[g2]at this
  simp[e]at this
 ·rintro⟨h,⟨x,h1,h2⟩,h3⟩
  refine⟨h,?_,λj hj=>?_⟩
  ·rw[(zA0 h1).2];exact decide_eq_true h2
  ·have:=h3 j L[j] hj (zA3 (by omega))
   simpa using this
theorem Zy4{L:List Sta}{n:ByteArray}{k:Nat}(h:goI L n=some k):k < L.length:=((ZqH L n k _).1 (Zmf.1 h)).1
def Zsq(L:List Sta)(r:Ru):Option Int:=if r.go.size=0 then none else(goI L r.go).map λk:Nat=>(k:Int)
def Zis(L:List Sta)(l:List Ru):List Int:=l.filterMap (Zsq L)
theorem Zu0{L:List Sta}{l:List Ru}{i:Nat}{r:Ru}(h:l[i]?=some r):Zis L (l.take (i+1))=Zis L (l.take i)++(Zsq L r).toList:=by
 unfold Zis
 rw[List.take_add_one,h,List.filterMap_append]
 congr 1
theorem Zw1(L:List Sta)(l:List Ru):(Zis L l).length<=l.length:=List.length_filterMap_le _ _
def Zsr(L:List Sta)(x:Sta):List Int:=Ze9 (Zis L x.rules)
end Go.Rx
namespace Go.Rx
open Go Go.Eng Go.RowKit
def Zji(p q:Va):Bool:=eqS p.s q.s&&(p.b == q.b&&(eqS p.t q.t&&Znr p.x q.x))
def Zjj(p q:Sta):Bool:=eqS p.s q.s&&eqL ZhB p.rules q.rules
def ZhH(p q:Sc):Bool:=p.light&&(q.light&&(p.n == q.n&&(eqL Zji p.vars q.vars&&eqL Zjj p.states q.states)))
theorem Zpq(p:Va):Zji p p=true:=by simp[Zji,ZeJ,Znr]
theorem ZtS{α:Type}{f:α->α->Bool}(h:∀x,f x x=true):∀l:List α,eqL f l l=true
 | []=>rfl
 | x::l=>by simp[eqL,h,ZtS h l]
theorem Zss{p q:Sta}(h:p.er=q.er)(hl:∀r∈p.rules,LtR r):Zjj p q=true:=by
 obtain⟨h1,h2,_⟩:=Zho h
 simp only[Zjj,h1,ZeJ,Bool.true_and]
 exact Zpo h2 λx hx y _ he=>ZuU he (hl x hx)
theorem ZnS{p q:Sc}(h:p.er=q.er)(hl:p.light=true):ZhH p q=true:=by
 obtain⟨h1,h2⟩:=Zqy h
 have h3:q.light=true:=by rw[<-Ze7 h];exact hl
 simp only[ZhH,hl,h3,h1,h2,beq_self_eq_true,ZtS Zpq,Bool.true_and]
 exact Zpo (Zdg h) λx hx y _ he=>Zss he (ZuN hl x hx)
end Go.Rx
namespace Go.Rx
open Go Go.Eng
def ZeK(out:List ByteArray)(n:ByteArray):List ByteArray:=if out.any (λy=>eqS n y)then out else out++[n]
def ZcY(out:List ByteArray)(p:Pt):List ByteArray:=if p.k=2 then ZeK out p.s else if p.k=4 then p.e.vars.foldl ZeK out else out
def Zcl(out:List ByteArray)(a:Ac):List ByteArray:=if a.k=3 then a.e.vars.foldl ZeK out else out
def ZfM(w:Bool)(out:List ByteArray)(a:Ac):List ByteArray:=if w then(if a.k=2\/a.k=3 then ZeK out a.s else out)else a.parts.foldl ZcY (Zcl out a)
def ZoM(w:Bool)(r:Ru):List ByteArray:=if ZhG r then r.acts.foldl (ZfM w) []else[]
theorem Zfa{α β:Type}(f:β->α->β)(b:β){l:List α}{i:Nat}{x:α}(h:l[i]?=some x):(l.take (i+1)).foldl f b=f ((l.take i).foldl f b) x:=by
 rw[List.take_add_one,h,List.foldl_append];rfl
theorem Zmg(out:List ByteArray)(n:ByteArray):out.length<=(ZeK out n).length/\(ZeK out n).length<=out.length+1:=by
 unfold ZeK;split <;> simp
theorem Zy5{out:List ByteArray}{n:ByteArray}(h:out.any (λy=>eqS n y)=false):ZeK out n=out++[n]:=by unfold ZeK;rw[h,if_neg (by decide)]
theorem Zy6{out:List ByteArray}{n:ByteArray}(h:out.any (λy=>eqS n y)=true):ZeK out n=out:=by unfold ZeK;rw[h,if_pos rfl]
theorem ZtT{α:Type}{f:List ByteArray->α->List ByteArray}{w:α->Nat}(h:∀o x,o.length<=(f o x).length/\(f o x).length<=o.length+w x):∀(l:List α)(o:List ByteArray),o.length<=(l.foldl f o).length/\(l.foldl f o).length<=o.length+(l.map w).sum
 | [],o=>by simp
 | x::l,o=>by
  have h1:=h o x
  have h2:=ZtT h l (f o x)
  simp only[List.foldl_cons,List.map_cons,List.sum_cons];omega
theorem Zmh(l:List ByteArray)(o:List ByteArray):o.length<=(l.foldl ZeK o).length/\(l.foldl ZeK o).length<=o.length+l.length:=by
 have:=ZtT (f:=ZeK) (w:=λ_=>1) Zmg l o
 rwa [List.map_const',List.sum_replicate_nat,Nat.mul_one]at this
theorem ZqI(e:E):e.vars.length<=10000:=by
 unfold E.vars
 split
 ·rename_i h
  have h2:=ZdZ e []
  have h3:=zA6 (show decide (e.nodes.length<=10000)=true from h)
  simp only[List.length_nil]at h2
  omega
 ·simp
theorem ZtU(e:E):(e.vars.length:Int)<=nE e:=by
 unfold E.vars nE E.size
 cases h:e.light with
 | false=>simp
 | true=>
  have h2:=ZdZ e []
  simp only[List.length_nil]at h2
  simp;omega
theorem Zmi{α:Type}{f:List ByteArray->α->List ByteArray}{w:α->Int}(h:∀o x,((f o x).length:Int)<=o.length+w x):∀(l:List α)(o:List ByteArray),((l.foldl f o).length:Int)<=o.length+ZaB (l.map w)
 | [],o=>by simp[ZaB]
 | x::l,o=>by
  have h1:=h o x
  have h2:=Zmi h l (f o x)
  simp only[List.foldl_cons,List.map_cons,ZaB];omega
theorem Zpr(o:List ByteArray)(p:Pt):((ZcY o p).length:Int)<=o.length+(1+nE p.e):=by
 have h0:=(ZfG p.e).1
 have h1:=ZtU p.e
 have h2:=Zmg o p.s
 have h3:=Zmh p.e.vars o
 unfold ZcY
 split
 ·omega
 ·split <;> omega
theorem Zps(o:List ByteArray)(a:Ac):((Zcl o a).length:Int)<=o.length+nE a.e:=by
 have h0:=(ZfG a.e).1
 have h1:=ZtU a.e
 have h3:=Zmh a.e.vars o
 unfold Zcl
 split <;> omega
theorem Zw2(l:List Pt):ZaB (l.map λp=>1+nE p.e)=l.length+ZaB (l.map λp=>nE p.e):=by
 induction l with
 | nil=>rfl
 | cons p l ih=>simp only[List.map_cons,ZaB,List.length_cons,ih];omega
theorem Zhq(o:List ByteArray)(a:Ac)(j:Nat):(((a.parts.take j).foldl ZcY (Zcl o a)).length:Int)<=o.length+wA a:=by
 have h1:=Zmi Zpr (a.parts.take j) (Zcl o a)
 have h2:=Zps o a
 have h3:=ZfF (λp:Pt=>1+nE p.e) (λp=>by have:=(ZfG p.e).1;omega) a.parts j
 have h4:=Zw2 a.parts
 unfold wA
 omega
theorem Zst(w:Bool)(o:List ByteArray)(a:Ac):((ZfM w o a).length:Int)<=o.length+wA a:=by
 have h1:=Zhq o a a.parts.length
 rw[List.take_length]at h1
 have h2:=Zmg o a.s
 have h3:=(ZfG a.e).1
 have h4:=ZcX (λp:Pt=>nE p.e) (λp=>(ZfG p.e).1) a.parts
 have h5:1<=wA a:=by unfold wA;omega
 unfold ZfM
 cases w with
 | true=>rw[if_pos rfl];split <;> omega
 | false=>rw[if_neg (by decide)];omega
theorem Zw3(w:Bool){r:Ru}(h:ZhG r=true)(q:Nat){a:Ac}(ha:r.acts[q]?=some a):(((r.acts.take q).foldl (ZfM w) []).length:Int)+wA a<=20000:=by
 have h1:=Zmi (Zst w) (r.acts.take q) []
 have h2:=ZfF wA Zqk r.acts (q+1)
 rw[ZfE wA ha]at h2
 have h3:=zA6 (show decide (wR r<=19999)=true from h)
 have h4:=(ZfH r.t).1
 have h5:0<=Zgc r.t.size 20000:=by unfold Zgc;split <;> omega
 unfold wR at h3
 simp only[List.length_nil]at h1
 split at h3 <;> omega
def mxI(n g:Int):Int:=if g > n then g else n
def Zl0(n:Int)(p:Pt):Int:=if p.k=3 then mxI n p.g else if p.k=4 then mxI n p.e.most else n
def Zv6(n:Int)(a:Ac):Int:=a.parts.foldl Zl0 (if a.k=3 then mxI n a.e.most else n)
def Zw4(r:Ru):Int:=if ZhG r then r.acts.foldl Zv6 (-1)else 0
end Go.Rx
namespace Go.Rx
open Go
variable {P:Program}
theorem ZgJ{n:Nat}(w:World)(t e ty:TypeId)(z:Value)(ht:P.underlying t=some (.slice e))(hv:∀w,(zeroValue e).run P w=.ok z w)(h1:∀u∈(Builtin.zeroCells z.cells n).toList,u.oneCell'=true)(b o c:Nat)(hn:0 < n)
  (hc:∀j,j < (Builtin.zeroCells z.cells n).toList.length->(w.cell? ⟨b,o+j,none⟩).isSome=true) (hf:∀j,j < (Builtin.zeroCells z.cells n).toList.length->w.frozen? ⟨b,o+j,none⟩=false):
  (Builtin.clear_ #[t] ty #[.slice (some ⟨b,o,none⟩) n c]).run P w=.ok (.tuple #[]) (w.setCells b o (Builtin.zeroCells z.cells n).toList):=by
 have bW:=run_storeCells_cells (P:=P) b o (Builtin.zeroCells z.cells n).toList 0 w (by simpa using hc) (by simpa using hf) h1
 simp only[Nat.add_zero]at bW
 obtain⟨m,rfl⟩:∃m,n=m+1:=⟨n - 1,by omega⟩
 simp[Builtin.clear_,run_underlying ht,hv,bW]
end Go.Rx
namespace Go.Rx
open Go Go.Proofs Go.Shelf Go.RowKit Go.Lib Go.Sort
set_option maxHeartbeats 4000000
set_option maxRecDepth 1000000
structure DelLay (P:Program)(ρ:Ren)(k:Nat)(z:Value):Prop where
 mixed:P.follows .mixedOrders=true
 f45:Bears P (ρ.f 45) (SlBodyN.n45 ρ)
 t0:P.underlying (ρ.t 0)=some (TypeDesc.tuple #[])
 a0:∀w,(Go.isAgg (ρ.t 0)).run P w=.ok false w
 z0:∀w,(Go.sizeOf (ρ.t 0)).run P w=.ok 1 w
 v0:∀w,(zeroValue (ρ.t 0)).run P w=.ok (Value.tuple #[]) w
 t3:P.underlying (ρ.t 3)=some (TypeDesc.int IntKind.i64)
 a3:∀w,(Go.isAgg (ρ.t 3)).run P w=.ok false w
 z3:∀w,(Go.sizeOf (ρ.t 3)).run P w=.ok 1 w
 v3:∀w,(zeroValue (ρ.t 3)).run P w=.ok (Value.int IntKind.i64 0) w
 t4:P.underlying (ρ.t 4)=some (TypeDesc.bool)
 a4:∀w,(Go.isAgg (ρ.t 4)).run P w=.ok false w
 z4:∀w,(Go.sizeOf (ρ.t 4)).run P w=.ok 1 w
 v4:∀w,(zeroValue (ρ.t 4)).run P w=.ok (Value.bool false) w
 t22:P.underlying (ρ.t 22)=some (TypeDesc.slice (ρ.t 23))
 a22:∀w,(Go.isAgg (ρ.t 22)).run P w=.ok false w
 z22:∀w,(Go.sizeOf (ρ.t 22)).run P w=.ok 1 w
 v22:∀w,(zeroValue (ρ.t 22)).run P w=.ok (Value.slice none 0 0) w
 z23:∀w,(Go.sizeOf (ρ.t 23)).run P w=.ok k w
 v23:∀w,(zeroValue (ρ.t 23)).run P w=.ok z w
theorem Zli{P:Program}{ρ:Ren}{k:Nat}{z:Value}(L:DelLay P ρ k z)(i0:TypeInfo)(qQ:P.info? (ρ.t 23)=some i0)(sM:i0.size=k)(hk:z.cells.size=k)
  (blk off n cap i j:Nat) (cs:List Value) (w:World) (aH:cs.length=n*k) (hH:∀(q:Nat)(u:Value),cs[q]?=some u->w.cell? ⟨blk,off+q,none⟩=some u/\w.frozen? ⟨blk,off+q,none⟩=false) (h1:∀u∈cs,u.oneCell'=true)
  (hz:∀m,∀u∈(Builtin.zeroCells z.cells m).toList,u.oneCell'=true)
  (cS:n<=cap) (hm:n<=9223372036854775807) (pz:i < j) (hj:j<=n):
  Calls P (ρ.f 45) #[.slice (some ⟨blk,off,none⟩) n cap,.int .i64 i,.int .i64 j] w λe w'=>e=.returned (.slice (some ⟨blk,off,none⟩) (n - (j - i)) cap)/\
   w'=(w.drew.setCells blk (off+i*k) (cs.drop (j*k))).setCells blk (off+(n - (j - i))*k) (Builtin.zeroCells z.cells (j - i)).toList:=by
 have mixed:=L.mixed;have t0:=L.t0;have a0:=L.a0;have z0:=L.z0;have v0:=L.v0;have t3:=L.t3;have a3:=L.a3;have z3:=L.z3;have v3:=L.v3;have t4:=L.t4;have a4:=L.a4;have z4:=L.z4;have v4:=L.v4;have t22:=L.t22;have a22:=L.a22;have z22:=L.z22;have v22:=L.v22;have z23:=L.z23
 obtain⟨Z,hZ⟩:∃Z,(Builtin.zeroCells z.cells (j - i)).toList=Z:=⟨_,rfl⟩
 rw[hZ]
 obtain⟨news,ff⟩:∃news,news=cs.drop (j*k):=⟨_,rfl⟩
 have mY:news.length=(n - j)*k:=by rw[ff,List.length_drop,aH,Nat.sub_mul]
 obtain⟨A,hA,sN⟩:∃A:Addr,(if cap=j then some (⟨blk,off,none⟩:Addr)else some ⟨blk,off+j*k,none⟩)=some A/\Hid (∀t u,news[t]?=some u->w.drew.cell? (A.add t)=some u):=by
  by_cases h:cap=j
  ·refine⟨⟨blk,off,none⟩,by simp[h],λt u hu=>?_⟩
   have h0:news.length=0:=by rw[mY,show n - j=0 by omega,Nat.zero_mul]
   rw[List.length_eq_zero_iff.1 h0]at hu
   simp at hu
  ·refine⟨⟨blk,off+j*k,none⟩,by simp[h],λt u hu=>?_⟩
   rw[ff,List.getElem?_drop]at hu
   rw[Addr.add_lit,Nat.add_assoc]
   exact(hH _ _ hu).1
 have s2:Hid (∀u∈news,u.oneCell'=true):=λu hu=>h1 u (by rw[ff]at hu;exact List.mem_of_mem_drop hu)
 have nB:(i+(n - j))*k=i*k+(n - j)*k:=Nat.add_mul _ _ _
 have bU:(i+(n - j))*k<=n*k:=Nat.mul_le_mul_right _ (by omega)
 have s3:Hid (∀t,t < news.length->(w.drew.cell? ⟨blk,off+i*k+t,none⟩).isSome=true/\w.drew.frozen? ⟨blk,off+i*k+t,none⟩=false):=by
  intro t ht
  rw[mY]at ht
  have hb:i*k+t < cs.length:=by rw[aH];omega
  have h:=hH (i*k+t) cs[i*k+t] (zA3 hb)
  rw[<-Nat.add_assoc]at h
  exact⟨by show(w.cell? _).isSome=true;rw[h.1];rfl,h.2⟩
 have s1:Hid (news.length=(n - j)*k):=mY
 obtain⟨W1,qR⟩:∃W1,W1=w.drew.setCells blk (off+i*k) news:=⟨_,rfl⟩
 have hW:Hid (W1=w.drew.setCells blk (off+i*k) news):=qR
 have yE:i<=cap:=by omega
 have yF:j<=cap:=by omega
 have fE:∀ty,(Builtin.clear_ #[ρ.t 22] ty #[.slice (some ⟨blk,off+(i+(n - j))*k,none⟩) (n - (i+(n - j))) (cap - (i+(n - j)))]).run P W1=.ok (.tuple #[]) (W1.setCells blk (off+(i+(n - j))*k) Z):=by
  intro ty
  have hT:∀t,t < (Builtin.zeroCells z.cells (n - (i+(n - j)))).toList.length->(w.drew.cell? ⟨blk,off+((i+(n - j))*k+t),none⟩).isSome=true/\w.drew.frozen? ⟨blk,off+((i+(n - j))*k+t),none⟩=false:=by
   intro t ht
   have hl:(Builtin.zeroCells z.cells (n - (i+(n - j)))).toList.length=(n - (i+(n - j)))*k:=by simp[Builtin.zeroCells,hk,Nat.mul_comm]
   rw[hl,Nat.sub_mul]at ht
   have hb:(i+(n - j))*k+t < cs.length:=by rw[aH];omega
   have h:=hH _ _ (zA3 hb)
   exact⟨by show(w.cell? _).isSome=true;rw[h.1];rfl,h.2⟩
  rw[<-hZ,show j - i=n - (i+(n - j)) by omega]
  exact ZgJ W1 _ _ ty z t22 L.v23 (hz _) blk _ _ (by omega) (λt ht=>by rw[qR];exact World.isSome_setCells _ _ _ _ _ (by rw[Nat.add_assoc];exact(hT t ht).1)) (λt ht=>by rw[qR,World.frozen?_setCells,Nat.add_assoc];exact(hT t ht).2)
 have hN:Hid (news=cs.drop (j*k)):=ff
 clear qR nB bU ff mY hZ hz hk
 obtain⟨_,_,FG⟩:=L.f45
 go_enter FG,SlBodyN.n45_ntmps ρ
 go_wp2_with fail
 go_region_law_o (refine step_append_room rfl (.tmp 22) (.tmp 25) (ρ.t 22) rfl (ρ.t 23) i0 k t22 qQ sM blk off i cap (by simp[Act.eval,Act.put]) A (n - j) (cap - j) news (by simp[Act.eval,Act.put]) s1.out sN.out s2.out (by omega) s3.out ?_;rw[<-hW.out])
 go_wp2
 go_ret
 refine⟨by rw[show n - (j - i)=i+(n - j) by omega];rfl,?_⟩
 rw[hW.out,hN.out,show n - (j - i)=i+(n - j) by omega]
end Go.Rx
namespace Go.Rx
open Go Go.Eng Go.RowKit Go.Shelf
theorem ZfN(b:Nat):∀(vs:List Value)(o:Nat)(w:World),(w.setCells b o vs).os=w.os/\(w.setCells b o vs).tape=w.tape/\(w.setCells b o vs).output=w.output/\(w.setCells b o vs).heap.size=w.heap.size
 | [],_,_=>⟨rfl,rfl,rfl,rfl⟩
 | v::r,o,w=>by
  obtain⟨h1,h2,h3,h4⟩:=ZfN b r (o+1) (w.setCell ⟨b,o,none⟩ v)
  exact⟨h1,h2,h3,h4.trans (by simp[World.setCell])⟩
theorem ZcA(b:Nat){k:Nat}(hk:k≠b):∀(vs:List Value)(o:Nat)(w:World),(w.setCells b o vs).heap[k]?=w.heap[k]?
 | [],_,_=>rfl
 | v::r,o,w=>by
  rw[World.setCells,ZcA b hk r (o+1)]
  simp[World.setCell,Array.getElem?_modify,Ne.symm hk]
theorem Zd4(b:Nat):∀(vs:List Value)(o:Nat)(w:World){c:Array Value}{T:TypeId}{fr:Nat×Nat},w.heap[b]?=some (.cells c T fr)->∃c':Array Value,(w.setCells b o vs).heap[b]?=some (.cells c' T fr)/\c'.size=c.size
 | [],_,_,c,_,_,h=>⟨c,h,rfl⟩
 | v::r,o,w,c,T,fr,h=>by
  have h1:(w.setCell ⟨b,o,none⟩ v).heap[b]?=some (.cells (c.setIfInBounds o v) T fr):=by
   simp[World.setCell,Array.getElem?_modify,h]
  obtain⟨c',h2,h3⟩:=Zd4 b r (o+1) (w.setCell ⟨b,o,none⟩ v) h1
  exact⟨c',h2,by rw[h3];simp⟩
theorem ZgK(b o:Nat)(vs:List Value)(w:World){c:Array Value}{T:TypeId}{fr:Nat×Nat}(h:w.heap[b]?=some (.cells c T fr)):Upd (λk=>k=b) w (w.setCells b o vs):=by
 obtain⟨h1,h2,h3,h4⟩:=ZfN b vs o w
 refine⟨h1,h2,h3,by omega,λk _ hk=>ZcA b hk vs o w,λk hk hw=>?_⟩
 by_cases e:k=b
 ·subst e
  obtain⟨c',h5,h6⟩:=Zd4 k vs o w h
  intro c2 T2 fr2 hh q hq
  rw[h5]at hh
  simp only[Option.some.injEq,Obj.cells.injEq]at hh
  obtain⟨rfl,rfl,rfl⟩:=hh
  exact hw c T fr h q (by omega)
 ·exact hw.of_eq (ZcA b e vs o w)
theorem Upd.tr{M:Nat->Prop}{a b c:World}(h:Upd M a b)(k:Upd M b c):Upd M a c:=
 ⟨k.os.trans h.os,k.tape.trans h.tape,k.output.trans h.output,Nat.le_trans h.size k.size,λq hq hm=>(k.block q (Nat.lt_of_lt_of_le hq h.size) hm).trans (h.block q hq hm),λq hq hw=>k.wr q (Nat.lt_of_lt_of_le hq h.size) (h.wr q hq hw)⟩
theorem ZkD{α:Type}{cs:α->List Value}{n:Nat}(hn:∀x,(cs x).length=n):∀(l:List α)(i:Nat),((l.eraseIdx i).map cs).flatten=(l.map cs).flatten.take (i*n)++(l.map cs).flatten.drop ((i+1)*n)
 | [],_=>by simp
 | x::l,0=>by
  simp only[List.eraseIdx_zero,List.tail_cons,List.map_cons,List.flatten_cons,Nat.zero_mul,List.take_zero,List.nil_append,Nat.zero_add,Nat.one_mul]
  rw[<-hn x,List.drop_left]
 | x::l,i+1=>by
  have e1:(i+1)*n=(cs x).length+i*n:=by rw[hn,Nat.succ_mul];omega
  have e2:(i+1+1)*n=(cs x).length+(i+1)*n:=by rw[hn,Nat.succ_mul (i+1)];omega
  simp only[List.eraseIdx_cons_succ,List.map_cons,List.flatten_cons]
  have e3:((cs x)++(l.map cs).flatten).take ((i+1)*n)=cs x++(l.map cs).flatten.take (i*n):=by rw[e1,List.take_length_add_append]
  have e4:((cs x)++(l.map cs).flatten).drop ((i+1+1)*n)=(l.map cs).flatten.drop ((i+1)*n):=by rw[e2,List.drop_length_add_append]
  rw[ZkD hn l i,e3,e4,List.append_assoc]
theorem Zsu{P:Program}{ρ:Ren}{k:Nat}{z:Value}(L:DelLay P ρ k z)(i0:TypeInfo)(qQ:P.info? (ρ.t 23)=some i0)(sM:i0.size=k)(hk:z.cells.size=k)(jL:Zee P (ρ.f 45))(h0:0 < k)
  (sE:(Builtin.zeroCells z.cells 1).toList=z.cells.toList) (wQ:∀m,∀u∈(Builtin.zeroCells z.cells m).toList,u.oneCell'=true)
  {α:Type} {cs:α->List Value} (hn:∀x,(cs x).length=k) (h1:∀x,∀u∈cs x,u.oneCell'=true) (l:List α) (b c i:Nat) (T:TypeId) (cap:Nat) (m:Mem) (hi:i < l.length) (hc:l.length<=c) (hm:l.length<=9223372036854775807):
  CX P (ρ.f 45) #[.slice (some ⟨b,0,none⟩) l.length c,.int .i64 i,.int .i64 (i+1:Nat)] m [⟨b,(l.map cs).flatten,T,cap,false,false⟩] (λv m' css=>v=.slice (some ⟨b,0,none⟩) (l.length - 1) c/\css=[((l.eraseIdx i).map cs).flatten++z.cells.toList]):=by
 refine⟨jL,λw hs hX _=>?_⟩
 obtain⟨eb,_⟩:=hX _ (List.mem_singleton.2 rfl)
 have fK:=eb.wr
 have aH:(l.map cs).flatten.length=l.length*k:=ZaY hn l
 have iD:0 < l.length*k:=Nat.mul_pos (by omega) h0
 obtain⟨sp,fr,wT,sO,sP⟩:=eb.cells
 obtain⟨cur,gt⟩:∃cur,cur=((l.map cs).flatten++sp).toArray:=⟨_,rfl⟩
 have hh:w.heap[b]?=some (.cells cur T fr):=by rw[gt];exact wT
 have bO:∀(q:Nat)(u:Value),(l.map cs).flatten[q]?=some u->w.cell? ⟨b,q,none⟩=some u:=λq u hu=>eb.cell hu
 have aC:∀q,q < l.length*k->q < cur.size:=λq hq=>by
  have:=bO q _ (zA3 (by omega))
  simp only[World.cell?,hh,Option.isSome_none,Bool.false_eq_true,if_false]at this
  exact(Array.getElem?_eq_some_iff.1 this).1
 have hH:∀(q:Nat)(u:Value),(l.map cs).flatten[q]?=some u->w.cell? ⟨b,0+q,none⟩=some u/\w.frozen? ⟨b,0+q,none⟩=false:=λq u hu=>by
  rw[Nat.zero_add]
  refine⟨bO q u hu,?_⟩
  have hq:=(zA0 hu).1
  have h2:=fK cur T fr hh q (aC q (by omega))
  obtain⟨f1,f2⟩:=fr
  simp only[World.frozen?,hh,Bool.and_eq_false_iff,decide_eq_false_iff_not]
  simp only at h2
  omega
 have h1':∀u∈(l.map cs).flatten,u.oneCell'=true:=λu hu=>by
  simp only[List.mem_flatten,List.mem_map]at hu
  obtain⟨_,⟨x,_,rfl⟩,hu⟩:=hu
  exact h1 x u hu
 refine(Zli L i0 qQ sM hk b 0 l.length c i (i+1) (l.map cs).flatten w aH hH h1' wQ hc hm (by omega) (by omega)).mono ?_
 rintro e w' ⟨rfl,rfl⟩
 rw[show i+1 - i=1 by omega,Nat.zero_add,Nat.zero_add,sE]
 obtain⟨news,ff⟩:∃news,news=(l.map cs).flatten.drop ((i+1)*k):=⟨_,rfl⟩
 rw[<-ff]
 have iH:(i+1)*k<=l.length*k:=Nat.mul_le_mul_right _ (by omega)
 have wU:(i+1)*k=i*k+k:=Nat.succ_mul i k
 have mY:news.length=l.length*k - (i+1)*k:=by rw[ff,List.length_drop,aH]
 have ij:(l.length - 1)*k+k=l.length*k:=by
  have:l.length=l.length - 1+1:=by omega
  rw[this,Nat.succ_mul];rfl
 have uQ:w.drew.heap[b]?=some (.cells cur T fr):=hh
 obtain⟨c1,g1,g2⟩:=Zd4 b news (i*k) w.drew uQ
 obtain⟨c2,g3,g4⟩:=Zd4 b z.cells.toList ((l.length - 1)*k) (w.drew.setCells b (i*k) news) g1
 have kG:Upd (λq=>q=b) w w.drew:=⟨rfl,rfl,rfl,Nat.le_refl _,λ_ _ _=>rfl,λ_ _ h=>h⟩
 have hU:=Upd.tr (Upd.tr kG (ZgK b (i*k) news w.drew uQ)) (ZgK b ((l.length - 1)*k) z.cells.toList _ g1)
 have gY:z.cells.toList.length=k:=by simpa using hk
 have eN:(((l.eraseIdx i).map cs).flatten++z.cells.toList).length=l.length*k:=by
  rw[zA1,gY,ZaY hn,List.length_eraseIdx,if_pos hi];exact ij
 have some1:∀q,q < cur.size->(w.drew.cell? ⟨b,q,none⟩).isSome=true:=λq hq=>by
  show(w.cell? ⟨b,q,none⟩).isSome=true
  simp[World.cell?,hh,hq]
 have some2:∀q,q < cur.size->((w.drew.setCells b (i*k) news).cell? ⟨b,q,none⟩).isSome=true:=λq hq=>by
  simp[World.cell?,g1,g2,hq]
 have at_:∀q,((w.drew.setCells b (i*k) news).setCells b ((l.length - 1)*k) z.cells.toList).cell? ⟨b,q,none⟩=if q < l.length*k then(((l.eraseIdx i).map cs).flatten++z.cells.toList)[q]? else w.cell? ⟨b,q,none⟩:=λq=>by
  have uR:((l.eraseIdx i).map cs).flatten.length=(l.length - 1)*k:=by rw[ZaY hn,List.length_eraseIdx,if_pos hi]
  by_cases hq:q < l.length*k
  ·rw[if_pos hq]
   by_cases lP:(l.length - 1)*k<=q
   ·have:=World.cell?_setCells_in b z.cells.toList ((l.length - 1)*k) (w.drew.setCells b (i*k) news) (λj hj=>some2 _ (aC _ (by omega))) (q - (l.length - 1)*k) (by omega)
    rw[show(l.length - 1)*k+(q - (l.length - 1)*k)=q by omega]at this
    rw[this,zA4 (by omega),uR]
    exact(zA3 _).symm
   ·rw[World.cell?_setCells_out b _ _ _ _ (λ_ _=>.inl (by show q < _;omega)),zA5 (by omega),ZkD hn]
    by_cases rD:i*k<=q
    ·have:=World.cell?_setCells_in b news (i*k) w.drew (λj hj=>some1 _ (aC _ (by omega))) (q - i*k) (by omega)
     rw[show i*k+(q - i*k)=q by omega]at this
     have hO:((l.map cs).flatten.take (i*k)).length=i*k:=by rw[List.length_take,aH];omega
     rw[this,zA4 (by omega),hO,<-ff]
     exact(zA3 _).symm
    ·have hO:((l.map cs).flatten.take (i*k)).length=i*k:=by rw[List.length_take,aH];omega
     rw[World.cell?_setCells_out b _ _ _ _ (λ_ _=>.inl (by show q < _;omega)),zA5 (by omega),List.getElem?_take_of_lt (by omega)]
     have oU:q < (l.map cs).flatten.length:=by omega
     rw[zA3 oU]
     exact bO q _ (zA3 oU)
  ·rw[if_neg hq,World.cell?_setCells_out b _ _ _ _ (λ_ _=>.inr (by show _<=q;omega)),World.cell?_setCells_out b _ _ _ _ (λ_ _=>.inr (by show _<=q;omega))]
   rfl
 obtain⟨full,uS⟩:∃full,full=((l.eraseIdx i).map cs).flatten++z.cells.toList:=⟨_,rfl⟩
 rw[<-uS]at eN ⊢
 rw[<-uS]at at_
 have iF:((l.map cs).flatten++sp).length=l.length*k+sp.length:=by rw[zA1,aH]
 have sQ:c2=(full++sp).toArray:=by
  refine Array.ext' (List.ext_getElem? λq=>?_)
  have h5:=at_ q
  simp only[World.cell?,g3,hh,Option.isSome_none,Bool.false_eq_true,if_false]at h5
  rw[Array.getElem?_toList,h5]
  by_cases hq:q < l.length*k
  ·rw[if_pos hq,zA5 (by rw[eN];exact hq)]
  ·rw[if_neg hq,zA4 (by rw[eN];omega),eN,gt]
   simp only[List.getElem?_toArray]
   rw[zA4 (by rw[aH];omega),aH]
 have hb:∀q,q≠b->((w.drew.setCells b (i*k) news).setCells b ((l.length - 1)*k) z.cells.toList).heap[q]?=w.heap[q]?:=λq hq=>(ZcA b hq _ _ _).trans (ZcA b hq _ _ w.drew)
 refine⟨_,m,[full],rfl,Mem.le_refl m,⟨λb1 o1 v hv=>?_,λb1 e he=>?_⟩,NewM.refl _ _,⟨hU.os,hU.tape,hU.output,hU.size,λq _ hn=>hb q (by simpa using hn),hU.wr⟩,rfl,λi' x cs' hx bN=>?_,rfl,rfl⟩
 ·have cM:b1≠b:=λe=>by
   subst e
   rw[eb.free rfl o1]at hv;cases hv
  rw[<-hs _ _ _ hv]
  exact ZbH (hb b1 cM) o1
 ·have:=hs.k b1 e he
  have cM:b1≠b:=λe=>by
   subst e
   obtain⟨es,cl,h8,_⟩:=this
   rw[hh]at h8;cases h8
  exact this.same (hb b1 cM)
 ·cases i' with
  | succ n=>simp at hx
  | zero=>
   simp at hx bN
   subst hx bN
   refine⟨⟨sp,fr,by rw[<-sQ];exact g3,?_,?_⟩,λ_=>eb.free rfl,λh=>(by cases h),λh=>(by cases h)⟩
   ·have cS:((l.map cs).flatten++sp).length=cap:=sO
    show(full++sp).length=cap
    rw[<-cS,iF,zA1,eN]
   ·exact sP
end Go.Rx
namespace Go.Rx
open Go Go.Eng
set_option maxRecDepth 100000
def aeN:E:=.node 9 0 ⟨#[110]⟩ 0 none 0 []
def aeC(x:Nat):E:=.node 8 x ⟨#[]⟩ 0 none 0 []
def aeO(k:Int)(a:Option Addr)(x:Nat):E:=.node k 0 ⟨#[]⟩ 0 a 2 [aeN,aeC x]
def aeX:T:=.node 2 0 72057594037927936 0 0 0 0 none 0 []
def aeY:T:=.node 2 0 144115188075855872 0 0 0 0 none 0 []
def aeG(g:Option Addr):T:=.node 6 0 0 0 0 0 0 g 1 [aeX]
def aeR(g r:Option Addr):T:=.node 5 0 0 0 0 1 (-1) r 1 [aeG g]
def aeT(g r c:Option Addr):T:=.node 3 0 0 0 0 0 0 c 2 [aeR g r,aeY]
def aeE:E:=.node 0 0 ⟨#[]⟩ 0 none 0 []
def ZBf:Pt:=⟨3,⟨#[]⟩,1,aeE⟩
def ZBg(s:Option Addr):Pt:=⟨4,⟨#[]⟩,0,aeO 4 s 4611686018427387904⟩
def ZAQ(l:Option Addr):Ac:=⟨3,⟨#[110]⟩,none,0,[],aeO 2 l 4607182418800017408⟩
def ZAR(s p:Option Addr):Ac:=⟨1,⟨#[]⟩,p,2,[ZBf,ZBg s],aeE⟩
def ZqJ(g r c l s p a:Option Addr):Ru:=⟨1,false,false,aeT g r c,⟨#[]⟩,0,a,2,[ZAQ l,ZAR s p],⟨#[98]⟩,0⟩
def ZAS:T:=.node 0 0 0 0 0 0 0 none 0 []
def Zwa:Ru:=⟨4,false,false,ZAS,⟨#[]⟩,5,none,0,[],⟨#[]⟩,1⟩
def Zw5:Ru:=⟨3,false,false,ZAS,⟨#[]⟩,0,none,0,[],⟨#[]⟩,0⟩
def aeS(g r c v l s p a r1 r2 S:Option Addr):Sc:=⟨9,v,1,[⟨⟨#[110]⟩,true,⟨#[]⟩,0⟩],S,2,[⟨⟨#[97]⟩,r1,2,[ZqJ g r c l s p a,Zwa]⟩,⟨⟨#[98]⟩,r2,1,[Zw5]⟩]⟩
section
variable (g r c v l s p a r1 r2 S:Option Addr)
theorem Zu1:(aeS g r c v l s p a r1 r2 S).light=true:=by kernel_rfl
theorem Zsv:(aeS g r c v l s p a r1 r2 S).places.length=11:=by kernel_rfl
theorem Zsw:(aeS g r c v l s p a r1 r2 S).places[5]?=some ⟨-1,0,0,1,-1⟩:=by kernel_rfl
theorem Zw6:Zir (aeS g r c v l s p a r1 r2 S)=msV 2 3 5 2 2 2:=by kernel_rfl
theorem Zu2:Zir (Zv5 (aeS g r c v l s p a r1 r2 S) 0 0)=msV 2 2 0 0 0 0:=by kernel_rfl
theorem Zu3:ZoM false (ZqJ g r c l s p a)=[⟨#[110]⟩]:=by kernel_rfl
theorem Zsx:ZoM true (ZqJ g r c l s p a)=[⟨#[110]⟩]:=by kernel_rfl
theorem Zw7:Zw4 (ZqJ g r c l s p a)=1:=by kernel_rfl
theorem Zw8:Zsr (aeS g r c v l s p a r1 r2 S).states ⟨⟨#[97]⟩,r1,2,[ZqJ g r c l s p a,Zwa]⟩=[1]:=by
 have h:Zis (aeS g r c v l s p a r1 r2 S).states [ZqJ g r c l s p a,Zwa]=[1]:=by kernel_rfl
 unfold Zsr
 show Ze9 (Zis _ [ZqJ g r c l s p a,Zwa])=_
 rw[h]
 exact ZnR (List.pairwise_singleton _ _)
theorem Zw9:Zsr (aeS g r c v l s p a r1 r2 S).states ⟨⟨#[98]⟩,r2,1,[Zw5]⟩=[]:=by
 have h:Zis (aeS g r c v l s p a r1 r2 S).states [Zw5]=[]:=by kernel_rfl
 unfold Zsr
 show Ze9 (Zis _ [Zw5])=_
 rw[h]
 exact ZnR List.Pairwise.nil
end
theorem Zu4(q:E->Bool)(hq:∀x:E,q x.er=q x):∀l:List E,ZlZ q (l.map E.er)=ZlZ q l
 | []=>rfl
 | x::l=>by rw[List.map_cons,Zjh,Zjh,Zu4 q hq l,hq]
theorem ZtV(e:E):ZnO e.er=ZnO e:=by
 unfold ZnO
 rw[Ze6,Ze5,Zu4 _ λx=>by cases x;rfl]
theorem Zxa(e:E):vrE e.er=vrE e:=by
 unfold vrE
 rw[Ze5,Zu4 _ λx=>by cases x;rfl]
theorem Zy7(a:Ac):paA a.er=paA a:=ZcO paP Pt.er (λp=>rfl) a.parts
theorem Zxb(a:Ac):ZqC a.er=ZqC a:=by
 unfold ZqC
 have h:=ZcO ZoL Pt.er (λp=>by show(if p.k=4 then ZnO p.e.er else 0)=_;rw[ZtV];rfl) a.parts
 show(if a.k=3 then ZnO a.e.er else 0)+ZaB ((a.parts.map Pt.er).map ZoL)=_
 rw[h,ZtV]
theorem Zy8(a:Ac):vrA a.er=vrA a:=by
 unfold vrA
 have h:=ZcO vrP Pt.er (λp=>by show(if p.k=4 then vrE p.e.er else 0)=_;rw[Zxa];rfl) a.parts
 show(if a.k=3 then vrE a.e.er else 0)+ZaB ((a.parts.map Pt.er).map vrP)=_
 rw[h,Zxa]
theorem ZqK{α β:Type}{f:α->α}{h:β->β}{k:α->List β}(e:∀x,k (f x)=(k x).map h):∀l:List α,(l.map f).flatMap k=(l.flatMap k).map h
 | []=>rfl
 | x::l=>by simp only[List.map_cons,List.flatMap_cons,List.map_append,e,ZqK e l]
theorem ZqL(s:Sc):Zb3 s.er=(Zb3 s).map Ac.er:=ZqK (f:=Sta.er) (k:=Zge) (λx=>ZqK (f:=Ru.er) (k:=λr:Ru=>r.acts) (λr=>rfl) x.rules) s.states
theorem ZqM(s:Sc):Zir s.er=Zir s:=by
 have h1:ms1 s.er=ms1 s:=by
  show ZaB ((s.states.map Sta.er).map ruS)=_
  exact ZcO ruS Sta.er (λx=>by show((x.rules.map Ru.er).length:Int)=x.rules.length;rw[List.length_map]) s.states
 have h2:ms2 s.er=ms2 s:=by
  show ZaB ((s.states.map Sta.er).map rgS)=_
  exact ZcO rgS Sta.er (λx=>ZcO rgR Ru.er (λr=>by show(if r.k=1 then r.t.er.size else 0)=_;rw[ZtK];rfl) x.rules) s.states
 have h3:ms3 s.er=ms3 s:=by unfold ms3;rw[ZqL];exact ZcO paA Ac.er Zy7 _
 have h4:ms4 s.er=ms4 s:=by unfold ms4;rw[ZqL];exact ZcO ZqC Ac.er Zxb _
 have h5:ms5 s.er=ms5 s:=by unfold ms5;rw[ZqL];exact ZcO vrA Ac.er Zy8 _
 unfold Zir
 rw[Zjd,h1,h2,h3,h4,h5,show s.er.states.length=s.states.length from List.length_map _]
theorem ZqN{s s':Sc}(h:s'.er=s.er):Zir s'=Zir s:=by rw[<-ZqM s',h,ZqM]
end Go.Rx
namespace Go.Rx
open Go Go.Eng Go.RowKit
theorem Zmj{α:Type}{Zgg:α->List Value}{k:Nat}(hk:∀z,(Zgg z).length=k){m:Mem}{b:Nat}:∀{L:List α} {o:Nat},(∀i z,L[i]?=some z->m.reads b (o+i*k) (Zgg z))->m.reads b o (L.map Zgg).flatten
 | [],o,h=>λj v hj=>by simp at hj
 | x::L,o,h=>λj v hj=>by
  rw[List.map_cons,List.flatten_cons]at hj
  by_cases aC:j < k
  ·rw[zA5 (by rw[hk];exact aC)]at hj
   have:=h 0 x rfl j v hj
   rwa [Nat.zero_mul,Nat.add_zero]at this
  ·rw[zA4 (by rw[hk];omega),hk]at hj
   have:=Zmj hk (L:=L) (o:=o+k) (λi z hz=>by
    have:=h (i+1) z (by simpa using hz)
    rwa [show o+(i+1)*k=o+k+i*k by rw[Nat.succ_mul];omega]at this) (j - k) v hj
   rwa [show o+k+(j - k)=o+j by omega]at this
theorem Zxc{m:Mem}{b o:Nat}{vs:List Value}{j:Nat}{v:Value}(h:vs[j]?=some v):(m.upd b o vs) b (o+j)=some v:=by
 have hj:=(zA0 h).1
 unfold Mem.upd;dsimp only
 rw[if_pos ⟨rfl,by omega,by omega⟩,Nat.add_sub_cancel_left];exact h
theorem ZqO{m:Mem}{b o q:Nat}{vs:List Value}(h:q < o\/o+vs.length<=q):(m.upd b o vs) b q=m b q:=by
 unfold Mem.upd;dsimp only
 rw[if_neg (by omega)]
theorem Zu5{α:Type}{cs:α->List Value}{n:Nat}(hn:∀x,(cs x).length=n)(h0:0 < n){m:Mem}{b:Nat}{L:List α}{k:Nat}{y:α}(h:rowRd m (some ⟨b,0,none⟩) (L.map cs).flatten)(hk:k < L.length):rowRd (m.upd b (0+k*n) (cs y)) (some ⟨b,0,none⟩) ((L.set k y).map cs).flatten:=by
 refine .inr ⟨b,0,rfl,Zmj hn λi z hz j v hj=>?_⟩
 have wV:j < n:=by have:=(zA0 hj).1;rwa [hn]at this
 by_cases iH:i=k
 ·subst iH
  rw[List.getElem?_set_self hk]at hz
  cases hz
  exact Zxc hj
 ·rw[List.getElem?_set_ne (Ne.symm iH)]at hz
  obtain⟨b',o',ha,cG⟩:=Zai hn h hz h0
  cases ha
  rw[ZqO,cG j v hj]
  rw[hn]
  rcases Nat.lt_or_ge i k with h|h
  ·have:=Nat.mul_le_mul_right n (show i+1<=k by omega)
   rw[Nat.succ_mul]at this
   omega
  ·have:=Nat.mul_le_mul_right n (show k+1<=i by omega)
   rw[Nat.succ_mul]at this
   omega
def ZkE(g:Nat->Sta->List Ru)(j:Nat)(x:Sta):Sta:=⟨x.s,x.ra,x.rc,g j x⟩
def Zwb(g:Nat->Sta->List Ru)(s:Sc):Sc:=⟨s.n,s.va,s.vc,s.vars,s.sa,s.sc,s.states.mapIdx (ZkE g)⟩
def RuB(s:Sc):Nat->Prop:=λb=>∃(j:Nat)(x:Sta),s.states[j]?=some x/\x.rules≠[]/\x.ra=some ⟨b,0,none⟩
section
variable {m2 m3:Mem} {s':Sc} {bS:Nat} {μ:Nat->Mem} (cX:RepC (nw m2 m3) s') (bQ:SepC m2 m3 s' bS μ)
include bQ
theorem ZkF{j b:Nat}{x:Sta}(hx:s'.states[j]?=some x)(hn:x.rules≠[])(fU:x.ra=some ⟨b,0,none⟩):¬(μ j).free b:=λhf=>by
 obtain⟨kO,_,_,_⟩:=bQ.all j x hx
 have hl:=List.length_pos_iff.2 hn
 rcases kO.row with h|⟨b',o,ha,h⟩
 ·have:=congrArg List.length h
  rw[ZaY Ru.len]at this;simp only[List.length_nil]at this;omega
 ·rw[fU]at ha;cases ha
  have aC:0 < (x.rules.map Ru.cs).flatten.length:=by rw[ZaY Ru.len];omega
  have:=h 0 _ (zA3 aC)
  rw[hf]at this;cases this
theorem Zxd{b:Nat}(h:RuB s' b):m2.free b/\m2.k b=none:=by
 obtain⟨j,x,hx,hn,fU⟩:=h
 obtain⟨_,⟨_,iF⟩,_,_⟩:=bQ.all j x hx
 rcases iF with h|⟨b',ha,h1,h2,_⟩
 ·exact absurd h hn
 ·rw[fU]at ha;cases ha;exact⟨h1,h2⟩
theorem Zxe(h:RuB s' bS):False:=by
 obtain⟨j,x,hx,hn,fU⟩:=h
 exact ZkF bQ hx hn fU (bQ.all j x hx).2.2.2
theorem Zxf{j:Nat}{x:Sta}(hx:s'.states[j]?=some x){r:Ru}(hr:r∈x.rules):RepR (m3.off (RuB s')) r:=by
 have hj:=(zA0 hx).1
 have hn:x.rules≠[]:=λe=>by rw[e]at hr;cases hr
 obtain⟨_,⟨_,iF⟩,bU,_⟩:=bQ.all j x hx
 rcases iF with h|⟨b,fU,h1,h2,jE⟩
 ·exact absurd h hn
 refine(jE r hr).mono ⟨λb' o v hv=>?_,λb' e he=>?_⟩
 ·by_cases hb:b'=b
  ·subst hb;rw[Mem.off_free (Y:=λk=>k=b') rfl]at hv;cases hv
  ·rw[Mem.off_at (Y:=λk=>k=b) hb]at hv
   have iI:¬RuB s' b':=λ⟨j',x',hx',hn',nC⟩=>by
    by_cases qS:j'=j
    ·subst qS
     rw[hx]at hx';cases hx'
     rw[fU]at nC;cases nC
     exact hb rfl
    ·have hj':=(zA0 hx').1
     have hk:=ZkF bQ hx' hn' nC
     have:(μ j).free b':=by
      rcases Nat.lt_or_ge j j' with h|h
      ·exact(bQ.ap j j' h hj' b').resolve_right hk
      ·exact(bQ.ap j' j (by omega) hj b').resolve_left hk
     rw[this]at hv;cases hv
   rw[Mem.off_at iI]
   exact(Zgd m2 m3) _ _ _ (bU _ _ _ hv)
 ·have hk:=bU.k
  by_cases hb:b'=b
  ·subst hb;rw[Mem.off_kn (Y:=λk=>k=b') rfl]at he;cases he
  ·rw[Mem.off_k (Y:=λk=>k=b) hb]at he
   have:=hk _ _ he
   cases this
include cX
theorem Zxg{M:Mem}{g:Nat->Sta->List Ru}(hg:∀j x,s'.states[j]?=some x->(g j x).length=x.rules.length)(hM:(m3.off (RuB s')).le M)
  (aB:∀j x,s'.states[j]?=some x->rowRd M x.ra ((g j x).map Ru.cs).flatten) (hr:∀j x,s'.states[j]?=some x->∀r∈g j x,RepR M r):RepC M (Zwb g s'):=by
 have nA:=bQ.sa
 have aH:(s'.states.mapIdx (ZkE g)).length=s'.states.length:=List.length_mapIdx
 have kno:∀{ν:Mem},ν.le (nw m2 m3)->∀b,ν.k b=none:=λh b=>Zer h rfl
 refine⟨cX.n,cX.vlen,?_,cX.vall,by show(s'.states.mapIdx (ZkE g)).length<=few;rw[aH];exact cX.len,?_,λy hy=>?_,cX.vcap,by show(s'.states.mapIdx (ZkE g)).length<=_;rw[aH];exact cX.scap⟩
 ·obtain⟨μv,h1,h2,h3,h4⟩:=bQ.va
  refine h1.mono (mLt (Ze3 (mLt h2 (Zgd _ _)) λb hb=>⟨?_,kno h2 b⟩) hM)
  obtain⟨j,x,hx,hn,fU⟩:=hb
  exact(h4 j (zA0 hx).1 b).resolve_right (ZkF bQ hx hn fU)
 ·have e:(s'.states.mapIdx (ZkE g)).map Sta.cs=s'.states.map Sta.cs:=List.ext_getElem? λj=>by
   rw[List.getElem?_map,List.getElem?_map,List.getElem?_mapIdx]
   cases hj:s'.states[j]? with
   | none=>rfl
   | some x=>simp only[Option.map_some,ZkE,Sta.cs,hg j x hj]
  show rowRd M s'.sa ((s'.states.mapIdx (ZkE g)).map Sta.cs).flatten
  rw[e]
  rcases cX.row with h|⟨b,o,ha,h⟩
  ·exact .inl h
  ·refine .inr ⟨b,o,ha,λj v hj=>hM _ _ _ ?_⟩
   rw[nA]at ha;cases ha
   rw[Mem.off_at (Y:=RuB s') (λh=>Zxe bQ h)];exact(Zgd m2 m3) _ _ _ (h j v hj)
 ·obtain⟨j,hj⟩:=List.getElem?_of_mem hy
  have hj:(s'.states.mapIdx (ZkE g))[j]?=some y:=hj
  rw[List.getElem?_mapIdx]at hj
  obtain⟨x,hx,rfl⟩:=Option.map_eq_some_iff.1 hj
  obtain⟨kO,_,_,_⟩:=bQ.all j x hx
  exact⟨kO.s,by show(g j x).length<=few;rw[hg j x hx];exact kO.len,aB j x hx,hr j x hx⟩
end
def goR(t:ByteArray)(r:Ru):Ru:=⟨r.k,r.bg,r.en,r.t,r.s,r.n,r.aa,r.ac,r.acts,t,r.code⟩
def ZcZ(f t:ByteArray)(r:Ru):Ru:=if eqS r.go f then goR t r else r
def Zmk(f t:ByteArray)(s:Sc):Sc:=if eqS f ⟨#[]⟩||eqS t ⟨#[]⟩ then s else Zwb (λ_ x=>x.rules.map (ZcZ f t)) s
theorem Zxh(f t:ByteArray)(r:Ru):(ZcZ f t r).er=ZcZ f t r.er:=by
 unfold ZcZ
 show(if eqS r.go f then goR t r else r).er=if eqS r.go f then goR t r.er else r.er
 split <;> rfl
theorem Zu6{f t:ByteArray}{l l':List Ru}(h:l'.map Ru.er=l.map Ru.er):(l'.map (ZcZ f t)).map Ru.er=(l.map (ZcZ f t)).map Ru.er:=by
 have e:∀l:List Ru,(l.map (ZcZ f t)).map Ru.er=(l.map Ru.er).map (ZcZ f t):=λl=>by
  rw[List.map_map,List.map_map];exact List.map_congr_left λr _=>Zxh f t r
 rw[e,e,h]
theorem Zxi{f t:ByteArray}{s s':Sc}(h:s'.er=s.er):(Zmk f t s').er=(Zmk f t s).er:=by
 unfold Zmk
 split
 ·exact h
 ·have h1:=Zqy h
  refine Zmd h1.1 h1.2 (List.ext_getElem? λj=>?_)
  show((s'.states.mapIdx (ZkE _)).map Sta.er)[j]?=((s.states.mapIdx (ZkE _)).map Sta.er)[j]?
  have hj:=congrArg (λl=>l[j]?) (Zdg h)
  simp only[List.getElem?_map,List.getElem?_mapIdx]at hj ⊢
  cases h2:s'.states[j]? with
  | none=>
   rw[h2]at hj
   cases h3:s.states[j]? with
   | none=>rfl
   | some x=>rw[h3]at hj;cases hj
  | some x'=>
   rw[h2]at hj
   cases h3:s.states[j]? with
   | none=>rw[h3]at hj;cases hj
   | some x=>
    rw[h3]at hj
    have he:x'.er=x.er:=by simpa using hj
    obtain⟨e1,e2,_⟩:=Zho he
    simp only[Option.map_some,Option.some.injEq]
    unfold ZkE Sta.er
    rw[e1,Zu6 e2]
theorem Zxj{m:Mem}{b k:Nat}{L:List Ru}{r:Ru}(t:ByteArray)(h:rowRd m (some ⟨b,0,none⟩) (L.map Ru.cs).flatten)(hk:L[k]?=some r):rowRd (m.upd b (0+k*16+14) [.string t]) (some ⟨b,0,none⟩) ((L.set k (goR t r)).map Ru.cs).flatten:=by
 refine .inr ⟨b,0,rfl,Zmj Ru.len λi z hz j v hj=>?_⟩
 have wV:j < 16:=by have:=(zA0 hj).1;rwa [Ru.len]at this
 by_cases iH:i=k
 ·subst iH
  rw[List.getElem?_set_self (zA0 hk).1]at hz
  cases hz
  by_cases im:j=14
  ·subst im
   have:v=.string t:=by simpa[goR,Ru.cs]using hj.symm
   subst this
   exact Zxc (j:=0) rfl
  ·obtain⟨b',o',ha,cG⟩:=Zai Ru.len h hk (by omega)
   cases ha
   rw[ZqO (by show _\/_+1<=_;omega)]
   refine cG j v ?_
   have e:(goR t r).cs=r.cs.set 14 (.string t):=rfl
   rw[e,List.getElem?_set_ne (by omega)]at hj
   exact hj
 ·rw[List.getElem?_set_ne (Ne.symm iH)]at hz
  obtain⟨b',o',ha,cG⟩:=Zai Ru.len h hz (by omega)
  cases ha
  rw[ZqO,cG j v hj]
  show _\/_+1<=_
  omega
def Zsy(f t:ByteArray)(k:Nat)(l:List Ru):List Ru:=(l.take k).map (ZcZ f t)++l.drop k
theorem ZqP(f t:ByteArray)(k:Nat)(l:List Ru):(Zsy f t k l).length=l.length:=by
 simp only[Zsy,zA1,List.length_map,List.length_take,List.length_drop];omega
theorem ZqQ{f t:ByteArray}{k:Nat}{l:List Ru}{r:Ru}(h:l[k]?=some r):(Zsy f t k l)[k]?=some r:=by
 have hk:=(zA0 h).1
 unfold Zsy
 rw[zA4 (by simp;omega),List.getElem?_drop]
 simp only[List.length_map,List.length_take]
 rw[show k+(k - min k l.length)=k by omega];exact h
theorem ZnT{f t:ByteArray}{k:Nat}{l:List Ru}{r:Ru}(h:l[k]?=some r):Zsy f t (k+1) l=(Zsy f t k l).set k (ZcZ f t r):=by
 have hk:=(zA0 h).1
 refine List.ext_getElem? λj=>?_
 by_cases l3:j=k
 ·subst l3
  rw[List.getElem?_set_self (by rw[ZqP];exact hk)]
  unfold Zsy
  rw[zA5 (by simp;omega),List.getElem?_map,List.getElem?_take_of_lt (by omega),h];rfl
 ·rw[List.getElem?_set_ne (Ne.symm l3)]
  unfold Zsy
  rcases Nat.lt_or_ge j k with h1|h1
  ·rw[zA5 (by simp;omega),zA5 (by simp;omega),List.getElem?_map,List.getElem?_map,List.getElem?_take_of_lt (by omega),List.getElem?_take_of_lt (by omega)]
  ·rw[zA4 (by simp;omega),zA4 (by simp;omega),List.getElem?_drop,List.getElem?_drop]
   simp only[List.length_map,List.length_take]
   congr 1;omega
theorem Zsz{f t:ByteArray}{k:Nat}{l:List Ru}{r:Ru}(h:l[k]?=some r)(cM:eqS r.go f=false):Zsy f t (k+1) l=Zsy f t k l:=by
 rw[ZnT h]
 have h2:=ZqQ (f:=f) (t:=t) h
 have:ZcZ f t r=r:=by unfold ZcZ;rw[cM];rfl
 rw[this]
 exact List.ext_getElem? λj=>by
  by_cases hj:j=k
  ·subst hj;rw[List.getElem?_set_self (zA0 h2).1,h2]
  ·rw[List.getElem?_set_ne (Ne.symm hj)]
theorem ZnU(f t:ByteArray)(l:List Ru):Zsy f t 0 l=l:=by simp[Zsy]
theorem ZsA(f t:ByteArray)(l:List Ru):Zsy f t l.length l=l.map (ZcZ f t):=by simp[Zsy]
def ZtW(f t:ByteArray)(i k j:Nat)(x:Sta):List Ru:=if j < i then x.rules.map (ZcZ f t)else if j=i then Zsy f t k x.rules else x.rules
theorem Zu7(f t:ByteArray)(i k j:Nat)(x:Sta):(ZtW f t i k j x).length=x.rules.length:=by
 unfold ZtW;split
 ·simp
 ·split
  ·exact ZqP _ _ _ _
  ·rfl
theorem Zu8{m:Mem}{f t:ByteArray}{r:Ru}(h:RepR m r)(ht:t.size<=1000000000000000):RepR m (ZcZ f t r):=by
 unfold ZcZ;split
 ·exact⟨h.k,h.t,h.s,h.n,h.len,h.row,h.all,ht,h.code⟩
 ·exact h
theorem Zy9{m2 m3:Mem}{s':Sc}{bS:Nat}{μ:Nat->Mem}(bQ:SepC m2 m3 s' bS μ){i j b b':Nat}{x y:Sta}(hx:s'.states[i]?=some x)(hy:s'.states[j]?=some y)(pz:i≠j)(h1:x.rules≠[])(h2:y.rules≠[])(ha:x.ra=some ⟨b,0,none⟩)(hb:y.ra=some ⟨b',0,none⟩):b≠b':=by
 rintro rfl
 have k1:=ZkF bQ hx h1 ha
 have k2:=ZkF bQ hy h2 hb
 have hi:=(zA0 hx).1
 have hj:=(zA0 hy).1
 rcases Nat.lt_or_ge i j with h|h
 ·exact(bQ.ap i j h hj b).elim k1 k2
 ·exact(bQ.ap j i (by omega) hi b).elim k2 k1
theorem Zxk:∀i < 4,∀j < 4,ZeM.getD i .empty=ZeM.getD j .empty->i=j:=by decide +kernel
theorem Zxl:∀i < 4,∀j < 4,eqS (ZeM.getD i .empty) (ZeM.getD j .empty)=decide (i=j):=by decide +kernel
theorem Zxm{i j:Nat}{n:ByteArray}(hi:ZeM[i]?=some n)(hj:ZeM[j]?=some n):i=j:=by
 have h1:i < 4:=(zA0 hi).1
 have h2:j < 4:=(zA0 hj).1
 exact Zxk i h1 j h2 (by rw[Zbq hi,Zbq hj])
def ZcQ(r:Ru):Option Int:=if r.go.size=0 then none else some ((ZeM.findIdx? λn=>eqS r.go n).elim (-1) λk:Nat=>(k:Int))
theorem Zjk{r:Ru}{q:Nat}(h:ZeM[q]?=some r.go):ZcQ r=some (q:Int):=by
 have hq:q < 4:=(zA0 h).1
 have hf:∀q < 4,(ZeM.findIdx? λn=>eqS (ZeM.getD q .empty) n)=some q:=by decide +kernel
 unfold ZcQ
 rw[if_neg (by rw[ZfJ _ (zA2 h)];omega),<-Zbq h,hf q hq];rfl
theorem ZkG{r:Ru}(h:r.go=.empty):ZcQ r=none:=by unfold ZcQ;rw[h,if_pos ZaL]
theorem Zza{s:Sc}(h:MkC s){q:Nat}(hq:q < s.states.length){n:ByteArray}(hn:ZeM[q]?=some n):goI s.states n=some q:=by
 unfold goI
 rw[List.findIdx?_eq_some_iff_getElem]
 refine⟨hq,?_,λj hj=>?_⟩
 ·have:=(h.all q _ (zA3 hq)).name
  rw[hn]at this
  exact decide_eq_true (Option.some.inj this).symm
 ·have ow:j < s.states.length:=by omega
  have:=(h.all j _ (zA3 ow)).name
  simp only[Bool.not_eq_true',decide_eq_false_iff_not,Bool.not_eq_true]
  intro e
  rw[e]at this
  have:=Zxm this hn
  omega
theorem Zxn{s:Sc}(h:MkC s){r:Ru}(hr:MkR s.states.length r):Zsq s.states r=ZcQ r:=by
 rcases hr.go with⟨⟨q,hq,hn⟩,_⟩|⟨hg,_⟩
 ·rw[Zjk hn]
  unfold Zsq
  rw[if_neg (by rw[ZfJ _ (zA2 hn)];omega),Zza h hq hn];rfl
 ·rw[ZkG hg]
  unfold Zsq;rw[hg,if_pos ZaL]
theorem ZtX{s:Sc}(h:MkC s){l:List Ru}(hl:∀r∈l,MkR s.states.length r):Zis s.states l=l.filterMap ZcQ:=by
 unfold Zis
 induction l with
 | nil=>rfl
 | cons r l ih=>
  rw[List.filterMap_cons,List.filterMap_cons,Zxn h (hl r (by simp)),ih λq hq=>hl q (by simp[hq])]
theorem MkR.red{n:Nat}{r:Ru}(h:MkR n r){f t:ByteArray}{k:Nat}(hk:k < n)(ht:ZeM[k]?=some t)(hf:f.size≠0):MkR n (ZcZ f t r):=by
 unfold ZcZ
 split
 ·rename_i he
  refine⟨h.kind,h.len,h.all,.inl ⟨⟨k,hk,ht⟩,?_⟩⟩
  rcases h.go with⟨_,hc⟩|⟨hg,_⟩
  ·exact hc
  ·exfalso
   rw[hg]at he
   have he:ByteArray.empty.toList=f.toList:=by
    unfold eqS at he
    exact beq_iff_eq.1 he
   rw[baL,baL]at he
   have hl:f.data.toList.length=0:=by rw[<-he];rfl
   rw[Zr7]at hl
   exact hf hl
 ·exact h
theorem MkC.red{s:Sc}(h:MkC s){i k:Nat}{f t:ByteArray}(hi:i < s.states.length)(hk:k < s.states.length)(hf:ZeM[i]?=some f)(ht:ZeM[k]?=some t):MkC (Zmk f t s):=by
 have hz:eqS f ⟨#[]⟩=false/\eqS t ⟨#[]⟩=false:=by
  have:=h.len
  have hd:∀i < 4,eqS (ZeM.getD i .empty) ⟨#[]⟩=false:=by decide +kernel
  exact⟨by rw[<-Zbq hf];exact hd i (by omega),by rw[<-Zbq ht];exact hd k (by omega)⟩
 have hs:Zmk f t s=Zwb (λ_ x=>x.rules.map (ZcZ f t)) s:=by unfold Zmk;rw[hz.1,hz.2];rfl
 have aH:(s.states.mapIdx (ZkE λ_ x=>x.rules.map (ZcZ f t))).length=s.states.length:=List.length_mapIdx
 rw[hs]
 refine⟨h.n,h.vlen,h.vall,by show 1<=(s.states.mapIdx (ZkE λ_ x=>x.rules.map (ZcZ f t))).length/\(s.states.mapIdx (ZkE λ_ x=>x.rules.map (ZcZ f t))).length<=4;rw[aH];exact h.len,λj y hy=>?_⟩
 show MkS (s.states.mapIdx _).length j y
 rw[aH]
 have hy:(s.states.mapIdx (ZkE λ_ x=>x.rules.map (ZcZ f t)))[j]?=some y:=hy
 rw[List.getElem?_mapIdx]at hy
 obtain⟨x,hx,rfl⟩:=Option.map_eq_some_iff.1 hy
 have hm:=h.all j x hx
 refine⟨hm.name,by show(x.rules.map _).length<=5;rw[List.length_map];exact hm.len,λr hr=>?_⟩
 obtain⟨q,hq,rfl⟩:=List.mem_map.1 hr
 exact(hm.all q hq).red hk ht (by rw[ZfJ _ (zA2 hf)];decide)
def ZtY(i k:Nat)(y:Int):Int:=if y=i then k else y
theorem ZsB{n:Nat}{r:Ru}(h:MkR n r)(hn:n<=4){i k:Nat}{f t:ByteArray}(hf:ZeM[i]?=some f)(ht:ZeM[k]?=some t):ZcQ (ZcZ f t r)=(ZcQ r).map (ZtY i k):=by
 have hi:i < 4:=(zA0 hf).1
 rcases h.go with⟨⟨q,hq,hg⟩,_⟩|⟨hg,_⟩
 ·have he:eqS r.go f=decide (q=i):=by rw[<-Zbq hg,<-Zbq hf];exact Zxl q (by omega) i hi
  rw[Zjk hg]
  unfold ZcZ
  rw[he]
  by_cases e:q=i
  ·rw[decide_eq_true e,if_pos rfl,Zjk (r:=goR t r) (q:=k) ht]
   simp[ZtY,e]
  ·rw[decide_eq_false e,if_neg (by decide),Zjk hg]
   show some (q:Int)=some (ZtY i k q)
   unfold ZtY;rw[if_neg (by omega)]
 ·have he:eqS r.go f=false:=by
   have hd:∀i < 4,eqS .empty (ZeM.getD i .empty)=false:=by decide +kernel
   rw[hg,<-Zbq hf];exact hd i hi
  unfold ZcZ
  rw[he,if_neg (by decide),ZkG hg];rfl
theorem Zu9{n:Nat}{l:List Ru}(hl:∀r∈l,MkR n r)(hn:n<=4){i k:Nat}{f t:ByteArray}(hf:ZeM[i]?=some f)(ht:ZeM[k]?=some t):
  Ze9 ((l.map (ZcZ f t)).filterMap ZcQ)=Ze9 ((Ze9 (l.filterMap ZcQ)).map (ZtY i k)):=by
 have e:(l.map (ZcZ f t)).filterMap ZcQ=(l.filterMap ZcQ).map (ZtY i k):=by
  induction l with
  | nil=>rfl
  | cons r l ih=>
   rw[List.map_cons,List.filterMap_cons,List.filterMap_cons,ZsB (hl r (by simp)) hn hf ht,ih λq hq=>hl q (by simp[hq])]
   cases ZcQ r <;> rfl
 rw[e]
 refine ZuZ λx=>?_
 simp only[List.mem_map]
 exact⟨λ⟨y,h1,h2⟩=>⟨y,Zhp.2 h1,h2⟩,λ⟨y,h1,h2⟩=>⟨y,Zhp.1 h1,h2⟩⟩
theorem Zzb{s s':Sc}(h:s'.er=s.er)(n:ByteArray):goI s'.states n=goI s.states n:=by
 have e:∀L:List Sta,goI L n=((L.map Sta.er).map Sta.s).findIdx? λy=>decide (y=n):=λL=>by
  rw[List.map_map,List.findIdx?_map];rfl
 rw[e,e,Zdg h]
theorem Zxo{s s':Sc}(h:s'.er=s.er){l l':List Ru}(hl:l'.map Ru.er=l.map Ru.er):Zis s'.states l'=Zis s.states l:=by
 have e:∀(L:List Sta)(l:List Ru),Zis L l=(l.map Ru.er).filterMap (Zsq L):=λL l=>by
  rw[List.filterMap_map];rfl
 have e2:Zsq s'.states=Zsq s.states:=funext λr=>by unfold Zsq;simp only[Zzb h]
 rw[e,e,hl,e2]
theorem Zzc{s s':Sc}(h:s'.er=s.er):s'.states.map (Zsr s'.states)=s.states.map (Zsr s.states):=by
 refine List.ext_getElem? λj=>?_
 have hj:=congrArg (λl=>l[j]?) (Zdg h)
 simp only[List.getElem?_map]at hj ⊢
 cases h2:s'.states[j]? with
 | none=>
  rw[h2]at hj
  cases h3:s.states[j]? with
  | none=>rfl
  | some x=>rw[h3]at hj;cases hj
 | some x'=>
  rw[h2]at hj
  cases h3:s.states[j]? with
  | none=>rw[h3]at hj;cases hj
  | some x=>
   rw[h3]at hj
   have he:x'.er=x.er:=by simpa using hj
   simp only[Option.map_some,Option.some.injEq]
   unfold Zsr
   rw[Zxo h (Zho he).2.1]
theorem Zxp{s:Sc}(h:MkC s){i k:Nat}{f t:ByteArray}(hi:i < s.states.length)(hk:k < s.states.length)(hf:ZeM[i]?=some f)(ht:ZeM[k]?=some t){j:Nat}{x:Sta}(hx:s.states[j]?=some x):
  ((Zmk f t s).states.map (Zsr (Zmk f t s).states))[j]?=some (Ze9 ((Ze9 (x.rules.filterMap ZcQ)).map (ZtY i k))):=by
 have hz:eqS f ⟨#[]⟩=false/\eqS t ⟨#[]⟩=false:=by
  have:=h.len
  have hd:∀i < 4,eqS (ZeM.getD i .empty) ⟨#[]⟩=false:=by decide +kernel
  exact⟨by rw[<-Zbq hf];exact hd i (by omega),by rw[<-Zbq ht];exact hd k (by omega)⟩
 have hs:Zmk f t s=Zwb (λ_ x=>x.rules.map (ZcZ f t)) s:=by unfold Zmk;rw[hz.1,hz.2];rfl
 have hm:=h.all j x hx
 have hR:=h.red hi hk hf ht
 have ma:(Zmk f t s).states[j]?=some (ZkE (λ_ x=>x.rules.map (ZcZ f t)) j x):=by
  rw[hs]
  show(s.states.mapIdx _)[j]?=_
  rw[List.getElem?_mapIdx,hx];rfl
 rw[List.getElem?_map,ma]
 simp only[Option.map_some,Option.some.injEq]
 unfold Zsr
 have:=hR.all j _ ma
 rw[ZtX hR this.all]
 exact Zu9 hm.all h.len.2 hf ht
theorem Zzd{s:Sc}(h:MkC s){j:Nat}{x:Sta}(hx:s.states[j]?=some x):(s.states.map (Zsr s.states))[j]?=some (Ze9 (x.rules.filterMap ZcQ)):=by
 rw[List.getElem?_map,hx]
 simp only[Option.map_some,Option.some.injEq]
 unfold Zsr
 rw[ZtX h (h.all j x hx).all]
def Zva(i j i' k':Nat):Prop:=i' < i\/(i'=i/\k' < j)
def ent(x:Sta)(i k:Nat):Dd×Dd:=(((i:Int),((Ztf x k:Nat):Int)),((i:Int),(k:Int)))
structure Vis (s:Sc)(Z:List (Dd×Dd))(i j:Nat):Prop where
 src:∀q∈Z,∃(i' k':Nat)(x:Sta)(r:Ru),q=ent x i' k'/\s.states[i']?=some x/\x.rules[k']?=some r/\kp r=true/\Zva i j i' k'
 all:∀(i' k':Nat)(x:Sta)(r:Ru),s.states[i']?=some x->x.rules[k']?=some r->kp r=true->Zva i j i' k'->ent x i' k'∈Z
 nodup:(Z.map (·.1)).Nodup
theorem Vis.nil(s:Sc):Vis s [] 0 0:=⟨(λq h=>by cases h),(λi' k' x r _ _ _ h=>by unfold Zva at h;omega),by simp⟩
theorem Vis.skip{s:Sc}{Z:List (Dd×Dd)}{i j:Nat}(h:Vis s Z i j){x:Sta}{r:Ru}(hx:s.states[i]?=some x)(hr:x.rules[j]?=some r)(hk:kp r=false):Vis s Z i (j+1):=by
 refine⟨λq hq=>?_,λi' k' x' r' h1 h2 h3 h4=>?_,h.nodup⟩
 ·obtain⟨i',k',x',r',e,h1,h2,h3,h4⟩:=h.src q hq
  exact⟨i',k',x',r',e,h1,h2,h3,by unfold Zva at h4 ⊢;omega⟩
 ·refine h.all i' k' x' r' h1 h2 h3 ?_
  by_cases e:i'=i/\k'=j
  ·obtain⟨rfl,rfl⟩:=e
   rw[hx]at h1;cases h1
   rw[hr]at h2;cases h2
   rw[hk]at h3;cases h3
  ·unfold Zva at h4 ⊢;omega
theorem Vis.put{s:Sc}{Z:List (Dd×Dd)}{i j:Nat}(h:Vis s Z i j){x:Sta}{r:Ru}(hx:s.states[i]?=some x)(hr:x.rules[j]?=some r)(hk:kp r=true):(ent x i j).1 ∉ Z.map (·.1)/\Vis s (Z++[ent x i j]) i (j+1):=by
 have iI:(ent x i j).1 ∉ Z.map (·.1):=by
  intro e8
  obtain⟨q,hq,he⟩:=List.mem_map.1 e8
  obtain⟨i',k',x',r',rfl,h1,h2,h3,h4⟩:=h.src q hq
  obtain⟨e1,e2⟩:(i':Int)=i/\((Ztf x' k':Nat):Int)=(Ztf x j:Nat):=by simpa[ent]using he
  obtain rfl:i'=i:=by omega
  rw[hx]at h1;cases h1
  have:=ZuY h2 hr h3 hk (by omega)
  unfold Zva at h4;omega
 refine⟨iI,⟨λq hq=>?_,λi' k' x' r' h1 h2 h3 h4=>?_,?_⟩⟩
 ·rcases List.mem_append.1 hq with hq|hq
  ·obtain⟨i',k',x',r',e,h1,h2,h3,h4⟩:=h.src q hq
   exact⟨i',k',x',r',e,h1,h2,h3,by unfold Zva at h4 ⊢;omega⟩
  ·rw[List.mem_singleton]at hq;subst hq
   exact⟨i,j,x,r,rfl,hx,hr,hk,by unfold Zva;omega⟩
 ·by_cases e:i'=i/\k'=j
  ·obtain⟨rfl,rfl⟩:=e
   rw[hx]at h1;cases h1
   exact List.mem_append_right _ (by simp)
  ·exact List.mem_append_left _ (h.all i' k' x' r' h1 h2 h3 (by unfold Zva at h4 ⊢;omega))
 ·rw[List.map_append,List.nodup_append]
  refine⟨h.nodup,by simp,λa ha b hb e=>?_⟩
  have hb:b∈[(ent x i j).1]:=hb
  rw[List.mem_singleton]at hb
  subst hb;subst e
  exact iI ha
theorem Vis.next{s:Sc}{Z:List (Dd×Dd)}{i:Nat}{x:Sta}(hx:s.states[i]?=some x)(h:Vis s Z i x.rules.length):Vis s Z (i+1) 0:=by
 refine⟨λq hq=>?_,λi' k' x' r' h1 h2 h3 h4=>h.all i' k' x' r' h1 h2 h3 ?_,h.nodup⟩
 ·obtain⟨i',k',x',r',e,h1,h2,h3,h4⟩:=h.src q hq
  exact⟨i',k',x',r',e,h1,h2,h3,by unfold Zva at h4 ⊢;omega⟩
 ·by_cases e:i'=i
  ·subst e
   rw[hx]at h1;cases h1
   have:=(zA0 h2).1
   unfold Zva;omega
  ·unfold Zva at h4 ⊢;omega
theorem Vis.get{s:Sc}{Z:List (Dd×Dd)}(h:Vis s Z s.states.length 0){d:Dd}(hd:d∈ZwX s):(phi s d,d)∈Z:=by
 obtain⟨i,k,x,r,rfl,h1,h2,h3,h4⟩:=ZwZ hd
 rw[h4]
 exact h.all i k x r h1 h2 h3 (by have:=(zA0 h1).1;unfold Zva;omega)
theorem ZbY{α:Type}{f g:α->Int}:∀{l:List α},(∀x∈l,f x<=g x)->ZaB (l.map f)<=ZaB (l.map g)
 | [],_=>by simp[ZaB]
 | x::l,h=>by
  have:=ZbY (l:=l) λy hy=>h y (by simp[hy])
  have:=h x (by simp)
  simp only[List.map_cons,ZaB];omega
theorem Zml{α β:Type}(k:α->List β)(f:β->Int):∀l:List α,ZaB ((l.flatMap k).map f)=ZaB (l.map λx=>ZaB ((k x).map f))
 | []=>rfl
 | x::l=>by simp only[List.flatMap_cons,List.map_append,Zi6,List.map_cons,ZaB,Zml k f l]
theorem Zxq(q:E->Bool)(l:List E):0<=ZlZ q l/\ZlZ q l<=l.length:=by
 unfold ZlZ
 have:=List.length_filter_le q l
 omega
theorem ZqR{e:E}(h:e.light=true):nE e=e.nodes.length:=by unfold nE E.size;rw[h];rfl
theorem Zvb{e:E}(h:e.light=true):0<=vrE e/\vrE e<=nE e:=by
 rw[ZqR h];exact Zxq Zy2 e.nodes
theorem ZqS{e:E}(h:e.light=true):0<=ZnO e/\ZnO e<=nE e:=by
 rw[ZqR h];unfold ZnO;rw[h];exact Zxq ZyG e.nodes
theorem ZqT{a:Ac}(h:LtA a):(0<=paA a/\paA a<=wA a)/\(0<=ZqC a/\ZqC a<=wA a)/\(0<=vrA a/\vrA a<=wA a):=by
 have h0:=(ZfG a.e).1
 have p0:∀p∈a.parts,0<=nE p.e:=λp _=>(ZfG p.e).1
 have s0:=ZcX (λp:Pt=>nE p.e) (λp=>(ZfG p.e).1) a.parts
 have e1:=ZqS h.1
 have e2:=Zvb h.1
 have a1:0<=paA a:=ZcX paP (λp=>by unfold paP;split <;> omega) a.parts
 have a2:paA a<=a.parts.length:=by
  have:=ZgH paP 1 a.parts λp _=>by unfold paP;split <;> omega
  unfold paA;omega
 have o1:ZaB (a.parts.map ZoL)<=ZaB (a.parts.map λp=>nE p.e):=ZbY λp hp=>by
  have:=ZqS (h.2 p hp);have:=p0 p hp
  unfold ZoL;split <;> omega
 have o0:0<=ZaB (a.parts.map ZoL):=by
  have:ZaB (a.parts.map λ_=>(0:Int))<=ZaB (a.parts.map ZoL):=ZbY λp hp=>by
   have:=ZqS (h.2 p hp)
   unfold ZoL;split <;> omega
  have z:∀l:List Pt,ZaB (l.map λ_=>(0:Int))=0:=λl=>by induction l with
   | nil=>rfl
   | cons x l ih=>simp only[List.map_cons,ZaB,ih];omega
  rw[z]at this;exact this
 have v1:ZaB (a.parts.map vrP)<=ZaB (a.parts.map λp=>nE p.e):=ZbY λp hp=>by
  have:=Zvb (h.2 p hp);have:=p0 p hp
  unfold vrP;split <;> omega
 have v0:0<=ZaB (a.parts.map vrP):=by
  have:ZaB (a.parts.map λ_=>(0:Int))<=ZaB (a.parts.map vrP):=ZbY λp hp=>by
   have:=Zvb (h.2 p hp)
   unfold vrP;split <;> omega
  have z:∀l:List Pt,ZaB (l.map λ_=>(0:Int))=0:=λl=>by induction l with
   | nil=>rfl
   | cons x l ih=>simp only[List.map_cons,ZaB,ih];omega
  rw[z]at this;exact this
 unfold ZqC vrA wA
 refine⟨⟨a1,by omega⟩,⟨by split <;> omega,by split <;> omega⟩,⟨by split <;> omega,by split <;> omega⟩⟩
theorem ZqU{s:Sc}(hl:s.light=true)(f:Ac->Int)(hf:∀a,LtA a->0<=f a/\f a<=wA a):0<=ZaB ((Zb3 s).map f)/\ZaB ((Zb3 s).map f)<=20000:=by
 have aC:=ZuN hl
 have hw:ZaB ((Zb3 s).map f)<=ZaB (s.states.map wS):=by
  unfold Zb3
  rw[Zml]
  refine ZbY λx hx=>?_
  unfold Zge wS
  rw[Zml]
  refine ZbY λr hr=>?_
  have:ZaB (r.acts.map f)<=ZaB (r.acts.map wA):=ZbY λa ha=>(hf a ((aC x hx r hr).2 a ha)).2
  have h1:=(ZfH r.t).1
  have:0<=Zgc r.t.size 20000:=by unfold Zgc;split <;> omega
  unfold wR;split <;> omega
 have h0:0<=ZaB ((Zb3 s).map f):=by
  have:ZaB ((Zb3 s).map λ_=>(0:Int))<=ZaB ((Zb3 s).map f):=ZbY λa ha=>by
   unfold Zb3 Zge at ha
   obtain⟨x,hx,ha⟩:=List.mem_flatMap.1 ha
   obtain⟨r,hr,ha⟩:=List.mem_flatMap.1 ha
   exact(hf a ((aC x hx r hr).2 a ha)).1
  have z:∀l:List Ac,ZaB (l.map λ_=>(0:Int))=0:=λl=>by induction l with
   | nil=>rfl
   | cons x l ih=>simp only[List.map_cons,ZaB,ih];omega
  rw[z]at this;exact this
 have md:=zA6 (show decide (s.weight<=20000)=true from hl)
 unfold Sc.weight at md
 omega
theorem Zze{s:Sc}(hl:s.light=true):0<=ms2 s/\ms2 s<=20000:=by
 have h:∀r:Ru,0<=rgR r/\rgR r<=wR r:=λr=>by
  have h1:=ZfH r.t
  have h2:=ZcX wA Zqk r.acts
  have h3:Zgc r.t.size 20000=r.t.size:=by unfold Zgc;split <;> omega
  unfold rgR wR
  rw[h3]
  split <;> split <;> omega
 have h0:0<=ms2 s:=ZcX rgS (λx=>ZcX rgR (λr=>(h r).1) x.rules) s.states
 have h1:ms2 s<=ZaB (s.states.map wS):=ZbY λx _=>ZbY λr _=>(h r).2
 have md:=zA6 (show decide (s.weight<=20000)=true from hl)
 unfold Sc.weight at md
 omega
theorem Zzf{s:Sc}(hl:s.light=true):0<=ms1 s/\ms1 s<=20000:=by
 have h:∀x:Sta,0<=ruS x/\ruS x<=wS x:=λx=>by
  refine⟨by unfold ruS;omega,?_⟩
  have:ZaB (x.rules.map λ_=>(1:Int))<=ZaB (x.rules.map wR):=ZbY λr _=>by
   have h1:=(ZfH r.t).1
   have h2:=ZcX wA Zqk r.acts
   have h3:0<=Zgc r.t.size 20000:=by unfold Zgc;split <;> omega
   unfold wR;split <;> omega
  have z:∀l:List Ru,ZaB (l.map λ_=>(1:Int))=l.length:=λl=>by induction l with
   | nil=>rfl
   | cons x l ih=>simp only[List.map_cons,ZaB,ih,List.length_cons];omega
  rw[z]at this
  exact this
 have h0:0<=ms1 s:=ZcX ruS (λx=>(h x).1) s.states
 have h1:ms1 s<=ZaB (s.states.map wS):=ZbY λx _=>(h x).2
 have md:=zA6 (show decide (s.weight<=20000)=true from hl)
 unfold Sc.weight at md
 omega
def miL(s:Sc):List Int:=[(s.states.length:Int),ms1 s,ms2 s,ms3 s,ms4 s,ms5 s]
theorem ZqV{s:Sc}(hl:s.light=true):Zir s=msV s.states.length (ms1 s) (ms2 s) (ms3 s) (ms4 s) (ms5 s):=by
 have h1:=Zzf hl
 have h2:=Zze hl
 have h3:=ZqU hl paA λa h=>(ZqT h).1
 have h4:=ZqU hl ZqC λa h=>(ZqT h).2.1
 have h5:=ZqU hl vrA λa h=>(ZqT h).2.2
 have e3:ms3 s=ZaB ((Zb3 s).map paA):=rfl
 have e4:ms4 s=ZaB ((Zb3 s).map ZqC):=rfl
 have e5:ms5 s=ZaB ((Zb3 s).map vrA):=rfl
 unfold Zir
 rw[hl,if_pos rfl,ZzU (n:=ms1 s) (by unfold I64;omega),ZzU (n:=ms2 s) (by unfold I64;omega),ZzU (n:=ms3 s) (by unfold I64;omega),ZzU (n:=ms4 s) (by unfold I64;omega),ZzU (n:=ms5 s) (by unfold I64;omega)]
theorem ZAs{s s':Sc}(h:s'.er=s.er)(hl:s.light=true):miL s'=miL s:=by
 have hl':s'.light=true:=(Ze7 h).trans hl
 have e:=ZqN h
 rw[ZqV hl,ZqV hl']at e
 simp only[msV,List.cons.injEq,Value.int.injEq,true_and,and_true]at e
 obtain⟨e0,e1,e2,e3,e4,e5⟩:=e
 unfold miL
 rw[e0,e1,e2,e3,e4,e5]
theorem ZqW{β:Type}{g:Nat->Sta->List Ru}(h:Sta->β)(hh:∀j x,h (ZkE g j x)=h x)(L:List Sta):(L.mapIdx (ZkE g)).map h=L.map h:=by
 refine List.ext_getElem? λj=>?_
 rw[List.getElem?_map,List.getElem?_map,List.getElem?_mapIdx]
 cases L[j]? with
 | none=>rfl
 | some x=>exact congrArg some (hh j x)
theorem Zxr(f t:ByteArray)(s:Sc):(Zmk f t s).states.length=s.states.length:=by
 unfold Zmk
 split
 ·rfl
 ·exact List.length_mapIdx
theorem Zzg(f t:ByteArray)(s:Sc):miL (Zmk f t s)=miL s:=by
 have h1:∀r:Ru,rgR (ZcZ f t r)=rgR r:=λr=>by unfold ZcZ;split <;> rfl
 have h2:∀r:Ru,(ZcZ f t r).acts=r.acts:=λr=>by unfold ZcZ;split <;> rfl
 unfold Zmk
 split
 ·rfl
 ·have e0:(Zwb (λ_ x=>x.rules.map (ZcZ f t)) s).states=s.states.mapIdx (ZkE λ_ x=>x.rules.map (ZcZ f t)):=rfl
  have e1:((s.states.mapIdx (ZkE λ_ x=>x.rules.map (ZcZ f t))).map ruS)=s.states.map ruS:=ZqW ruS (λj x=>by show((x.rules.map (ZcZ f t)).length:Int)=x.rules.length;rw[List.length_map]) _
  have e2:((s.states.mapIdx (ZkE λ_ x=>x.rules.map (ZcZ f t))).map rgS)=s.states.map rgS:=ZqW rgS (λj x=>by
   show ZaB ((x.rules.map (ZcZ f t)).map rgR)=ZaB (x.rules.map rgR)
   rw[List.map_map];exact congrArg ZaB (List.map_congr_left λr _=>h1 r)) _
  have e3:((s.states.mapIdx (ZkE λ_ x=>x.rules.map (ZcZ f t))).map Zge)=s.states.map Zge:=ZqW Zge (λj x=>by
   show(x.rules.map (ZcZ f t)).flatMap (λr=>r.acts)=x.rules.flatMap λr=>r.acts
   rw[List.flatMap_map];exact congrArg List.flatten (List.map_congr_left λr _=>h2 r)) _
  have e4:Zb3 (Zwb (λ_ x=>x.rules.map (ZcZ f t)) s)=Zb3 s:=by
   unfold Zb3
   rw[e0]
   show((s.states.mapIdx (ZkE λ_ x=>x.rules.map (ZcZ f t))).map Zge).flatten=(s.states.map Zge).flatten
   rw[e3]
  unfold miL ms1 ms2 ms3 ms4 ms5
  rw[e4,e0,e1,e2,List.length_mapIdx]
theorem ZsC{l:List Ru}{i:Nat}{r:Ru}(h:l[i]?=some r):(l.take (i+1)).filterMap ZcQ=(l.take i).filterMap ZcQ++(ZcQ r).toList:=by
 rw[List.take_add_one,h,List.filterMap_append]
 congr 1
theorem Zvc(l:List Ru):(l.filterMap ZcQ).length<=l.length:=List.length_filterMap_le _ _
theorem ZtZ(p:ByteArray->Bool):∀l:List ByteArray,(l.findIdx? p).elim (-1) (λk:Nat=>(k:Int))=if l.any p then((l.findIdx p:Nat):Int)else -1
 | []=>rfl
 | a::l=>by
  have ih:=ZtZ p l
  rw[List.findIdx?_cons,List.any_cons,List.findIdx_cons]
  cases h:p a with
  | true=>rfl
  | false=>
   simp only[Bool.false_or,cond_false,Bool.false_eq_true,if_false]
   cases e:l.findIdx? p with
   | none=>
    rw[e]at ih
    cases ha:l.any p with
    | true=>
     rw[ha,if_pos rfl]at ih
     have ih:(-1:Int)=(l.findIdx p:Nat):=ih
     omega
    | false=>rfl
   | some k=>
    rw[e]at ih
    cases ha:l.any p with
    | true=>
     rw[ha,if_pos rfl]at ih
     have ih:(k:Int)=(l.findIdx p:Nat):=ih
     show((k+1:Nat):Int)=((l.findIdx p+1:Nat):Int)
     omega
    | false=>
     rw[ha]at ih
     have ih:(k:Int)=-1:=ih
     omega
theorem Zvd{r:Ru}(h:r.go.size≠0):ZcQ r=some (if ZeM.any (λy=>eqS r.go y)then((ZeM.findIdx λy=>eqS r.go y:Nat):Int)else -1):=by
 unfold ZcQ
 rw[if_neg h,ZtZ]
def Zl7(i k:Nat)(a:Nat)(W:List Int):List Int:=(W.take a).map (ZtY i k)++W.drop a
theorem ZqX(i k a:Nat)(W:List Int):(Zl7 i k a W).length=W.length:=by simp[Zl7];omega
theorem ZsD(i k:Nat)(W:List Int):Zl7 i k 0 W=W:=by simp[Zl7]
theorem ZsE(i k:Nat)(W:List Int):Zl7 i k W.length W=W.map (ZtY i k):=by simp[Zl7]
theorem Zt0{i k a:Nat}{W:List Int}{y:Int}(h:W[a]?=some y):(Zl7 i k a W)[a]?=some y:=by
 have hk:=(zA0 h).1
 unfold Zl7
 rw[zA4 (by simp;omega),List.getElem?_drop]
 simp only[List.length_map,List.length_take]
 rw[show a+(a - min a W.length)=a by omega];exact h
theorem ZnV{i k a:Nat}{W:List Int}{y:Int}(h:W[a]?=some y):Zl7 i k (a+1) W=(Zl7 i k a W).set a (ZtY i k y):=by
 have hk:=(zA0 h).1
 refine List.ext_getElem? λj=>?_
 by_cases l3:j=a
 ·subst l3
  rw[List.getElem?_set_self (by rw[ZqX];exact hk)]
  unfold Zl7
  rw[zA5 (by simp;omega),List.getElem?_map,List.getElem?_take_of_lt (by omega),h];rfl
 ·rw[List.getElem?_set_ne (Ne.symm l3)]
  unfold Zl7
  rcases Nat.lt_or_ge j a with h1|h1
  ·rw[zA5 (by simp;omega),zA5 (by simp;omega),List.getElem?_map,List.getElem?_map,List.getElem?_take_of_lt (by omega),List.getElem?_take_of_lt (by omega)]
  ·rw[zA4 (by simp;omega),zA4 (by simp;omega),List.getElem?_drop,List.getElem?_drop]
   simp only[List.length_map,List.length_take]
   congr 1;omega
theorem Zve{α:Type}{l:List α}{a:Nat}{y:α}(h:l[a]?=some y):l.set a y=l:=List.ext_getElem? λj=>by
 by_cases hj:j=a
 ·subst hj;rw[List.getElem?_set_self (zA0 h).1,h]
 ·rw[List.getElem?_set_ne (Ne.symm hj)]
theorem ZsF{i k a:Nat}{W:List Int}{y:Int}(h:W[a]?=some y)(cM:¬y=(i:Int)):Zl7 i k (a+1) W=Zl7 i k a W:=by
 rw[ZnV h,show ZtY i k y=y from if_neg cM,Zve (Zt0 h)]
theorem Zvf{r:Ru}{f:ByteArray}(h:eqS r.go f=true):goR f r=r:=by
 have h:r.go.toList=f.toList:=by unfold eqS at h;exact beq_iff_eq.1 h
 have e:r.go=f:=by
  rw[baL,baL]at h
  have h:r.go.data=f.data:=by
   cases hr:r.go.data with|mk l=>cases hf:f.data with|mk l'=>
   rw[hr,hf]at h
   exact congrArg Array.mk h
  cases hr:r.go with|mk x=>cases hf:f with|mk y=>
  rw[hr,hf]at h
  exact congrArg ByteArray.mk h
 unfold goR;rw[<-e]
theorem ZsG(f:ByteArray)(r:Ru):ZcZ f f r=r:=by
 unfold ZcZ;split
 ·rename_i h;exact Zvf h
 ·rfl
theorem Zt1{g:Nat->Sta->List Ru}{s:Sc}(h:∀j x,s.states[j]?=some x->g j x=x.rules):Zwb g s=s:=by
 unfold Zwb
 have:s.states.mapIdx (ZkE g)=s.states:=List.ext_getElem? λj=>by
  rw[List.getElem?_mapIdx]
  cases hx:s.states[j]? with
  | none=>rfl
  | some x=>
   show some (ZkE g j x)=some x
   unfold ZkE;rw[h j x hx]
 rw[this]
theorem ZsH(f:ByteArray)(s:Sc):Zmk f f s=s:=by
 unfold Zmk;split
 ·rfl
 ·refine Zt1 λj x _=>?_
  show x.rules.map (ZcZ f f)=x.rules
  have:(ZcZ f f)=id:=funext λr=>ZsG f r
  rw[this,List.map_id]
theorem ZsI{s:Sc}(h:MkC s){f t:ByteArray}(hf:(ZeM.any λy=>eqS y f)=false)(hz:eqS .empty f=false):Zmk f t s=s:=by
 unfold Zmk;split
 ·rfl
 ·refine Zt1 λj x hx=>?_
  show x.rules.map (ZcZ f t)=x.rules
  have:∀r∈x.rules,ZcZ f t r=r:=λr hr=>by
   unfold ZcZ
   rcases((h.all j x hx).all r hr).go with⟨⟨q,_,hn⟩,_⟩|⟨hg,_⟩
   ·have:=List.any_eq_false.1 hf _ (zA2 hn)
    rw[if_neg this]
   ·rw[hg,hz];rfl
  exact(List.map_congr_left this).trans (List.map_id _)
theorem MkC.find_name{s:Sc}(h:MkC s){k:Nat}{x:Sta}(hx:s.states[k]?=some x):(s.states.any λy=>eqS y.s x.s)=true/\(s.states.findIdx λy=>eqS y.s x.s)=k:=by
 obtain⟨hk,he⟩:=zA0 hx
 refine⟨List.any_eq_true.2 ⟨x,zA2 hx,ZeJ _⟩,?_⟩
 rw[List.findIdx_eq hk]
 refine⟨by rw[he];exact ZeJ _,λj hj=>?_⟩
 have h4:=h.len
 have:=ZwS j (by omega) k (by omega) (by omega)
 rw[Zbq (h.all j _ (zA3 (by omega))).name,Zbq (h.all k x hx).name]at this
 exact this
end Go.Rx