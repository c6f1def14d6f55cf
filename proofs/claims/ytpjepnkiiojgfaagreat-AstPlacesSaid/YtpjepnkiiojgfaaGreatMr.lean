/- Trees of regexes, what they mean, and wb they lie in memory; plain, no program is named. No condition. -/
import Derived.Test.YtpjepnkiiojgfaaGreatMc
import Derived.Sort.Grow
import Derived.Test.YtpjepnkiiojgfaaGreatMb
import Derived.Lib.SlicesCompact
import Derived.Lib.SliceRun
import Derived.Shelf.SlicesE.Delete
import Derived.Deep.MidRow
import Derived.KernelRfl
set_option linter.unusedVariables false
set_option linter.unusedSimpArgs false
set_option linter.unusedSectionVars false
namespace Go.Rx
open Go Go.Eng
inductive T where
 | node (k s0 s1 s2 s3 mn mx:Int) (a:Option Addr) (c:Nat) (subs:List T)
def T.k:T->Int
 | .node k _ _ _ _ _ _ _ _ _=>k
def T.s0:T->Int
 | .node _ s _ _ _ _ _ _ _ _=>s
def T.s1:T->Int
 | .node _ _ s _ _ _ _ _ _ _=>s
def T.s2:T->Int
 | .node _ _ _ s _ _ _ _ _ _=>s
def T.s3:T->Int
 | .node _ _ _ _ s _ _ _ _ _=>s
def T.mn:T->Int
 | .node _ _ _ _ _ x _ _ _ _=>x
def T.mx:T->Int
 | .node _ _ _ _ _ _ x _ _ _=>x
def T.a:T->Option Addr
 | .node _ _ _ _ _ _ _ a _ _=>a
def T.c:T->Nat
 | .node _ _ _ _ _ _ _ _ c _=>c
def T.subs:T->List T
 | .node _ _ _ _ _ _ _ _ _ l=>l
def T.sl(t:T):Value:=.slice t.a t.subs.length t.c
def T.cs(t:T):List Value:=[.int .u8 t.k,.int .u64 t.s0,.int .u64 t.s1,.int .u64 t.s2,.int .u64 t.s3,.int .i64 t.mn,.int .i64 t.mx,t.sl]
def T.v(t:T):Value:=.agg #[.int .u8 t.k,.int .u64 t.s0,.int .u64 t.s1,.int .u64 t.s2,.int .u64 t.s3,.int .i64 t.mn,.int .i64 t.mx,.slice t.a t.subs.length t.c]
structure OkN (k s0 s1 s2 s3 mn mx:Int):Prop where
 k:0<=k/\k < 256
 s0:0<=s0/\s0 < 18446744073709551616
 s1:0<=s1/\s1 < 18446744073709551616
 s2:0<=s2/\s2 < 18446744073709551616
 s3:0<=s3/\s3 < 18446744073709551616
 mn : -9223372036854775808<=mn/\mn<=9223372036854775807
 mx : -9223372036854775808<=mx/\mx<=9223372036854775807
mutual
def Rep(m:Mem):T->Prop
 | .node k s0 s1 s2 s3 mn mx a _ l=>l.length<=1000000000000000/\(l=[]\/∃b o,a=some ⟨b,o,none⟩/\RepAt m b o l)/\OkN k s0 s1 s2 s3 mn mx
def RepAt(m:Mem)(b:Nat):Nat->List T->Prop
 | _,[]=>True
 | o,t::l=>m.reads b o t.cs/\Rep m t/\RepAt m b (o+8) l
end
theorem ZqX{m:Mem}{t:T}:Rep m t->(t.subs.length<=1000000000000000/\(t.subs=[]\/∃b o,t.a=some ⟨b,o,none⟩/\RepAt m b o t.subs)):=by
 cases t;simp only[Rep,T.subs,T.a];exact λh=>⟨h.1,h.2.1⟩
theorem ZvF{m:Mem}{t:T}:Rep m t->OkN t.k t.s0 t.s1 t.s2 t.s3 t.mn t.mx:=by
 cases t;simp only[Rep];exact λh=>h.2.2
theorem ZjW{m:Mem}{t:T}(h1:t.subs.length<=1000000000000000)(h2:t.subs=[]\/∃b o,t.a=some ⟨b,o,none⟩/\RepAt m b o t.subs)(h3:OkN t.k t.s0 t.s1 t.s2 t.s3 t.mn t.mx):Rep m t:=by
 cases t;simp only[Rep];exact⟨h1,h2,h3⟩
mutual
theorem Rep.mono{m m':Mem}(h:m.le m'):∀t:T,Rep m t->Rep m' t
 | .node _ _ _ _ _ _ _ a _ l,hr=>by
  simp only[Rep]at *
  refine⟨hr.1,?_,hr.2.2⟩
  rcases hr.2.1 with hr|⟨b,o,h1,h2⟩
  ·exact .inl hr
  ·exact .inr ⟨b,o,h1,RepAt.mono h b o l h2⟩
theorem RepAt.mono{m m':Mem}(h:m.le m')(b:Nat):∀(o:Nat)(l:List T),RepAt m b o l->RepAt m' b o l
 | _,[],_=>by simp only[RepAt]
 | o,t::l,hr=>by
  simp only[RepAt]at *
  exact⟨hr.1.mono h,Rep.mono h t hr.2.1,RepAt.mono h b (o+8) l hr.2.2⟩
end
theorem RepAt.get{m:Mem}{b:Nat}:∀{o:Nat} {l:List T} {i:Nat} {t:T},RepAt m b o l->l[i]?=some t->m.reads b (o+i*8) t.cs/\Rep m t
 | o,[],i,t,_,hi=>by simp at hi
 | o,x::l,0,t,h,hi=>by
  simp only[RepAt]at h
  simp at hi;subst hi
  exact⟨by simpa using h.1,h.2.1⟩
 | o,x::l,i+1,t,h,hi=>by
  simp only[RepAt]at h
  have:=h.2.2.get (i:=i) (by simpa using hi)
  rw[show o+(i+1)*8=o+8+i*8 by omega]
  exact this
mutual
def T.nodes:T->List T
 | .node k s0 s1 s2 s3 mn mx a c l=>.node k s0 s1 s2 s3 mn mx a c l::Zaz l
def Zaz:List T->List T
 | []=>[]
 | t::l=>t.nodes++Zaz l
end
theorem Zb5(t:T):t.nodes=t::Zaz t.subs:=by cases t;simp only[T.nodes,T.subs]
theorem Zcr(l r:List T):Zaz (l++r)=Zaz l++Zaz r:=by
 induction l with
 | nil=>simp[Zaz]
 | cons t l ih=>simp[Zaz,ih,List.append_assoc]
theorem ZlR{l:List T}{i:Nat}{t:T}(h:l[i]?=some t):Zaz (l.take (i+1))=Zaz (l.take i)++t.nodes:=by
 have:l.take (i+1)=l.take i++[t]:=by
  rw[List.take_add_one,h];rfl
 rw[this,Zcr];simp[Zaz]
theorem ZdU{l:List T}{i:Nat}{t:T}(h:l[i]?=some t):Zaz l=Zaz (l.take i)++(t.nodes++Zaz (l.drop (i+1))):=by
 have aC:=(zA0 h).1
 have e:l=l.take i++(t::l.drop (i+1)):=by
  have:=List.drop_eq_getElem_cons aC
  rw[(zA0 h).2]at this
  rw[<-this,List.take_append_drop]
 conv=>lhs;rw[e,Zcr]
 simp[Zaz]
theorem ZrW{t x z:T}{i q:Nat}(hx:t.subs[i]?=some x)(hz:x.nodes[q]?=some z):t.nodes[1+(Zaz (t.subs.take i)).length+q]?=some z:=by
 have hq:=(zA0 hz).1
 rw[Zb5,show 1+(Zaz (t.subs.take i)).length+q=((Zaz (t.subs.take i)).length+q)+1 by omega,List.getElem?_cons_succ,ZdU hx,zA4 (by omega),zA5 (by omega),show(Zaz (List.take i t.subs)).length+q - (Zaz (List.take i t.subs)).length=q by omega]
 exact hz
theorem ZrX{t x:T}(h:x∈t.subs):SizeOf.sizeOf x < SizeOf.sizeOf t:=by
 cases t with
 | node k s0 s1 s2 s3 mn mx a c l=>
  have h':x∈l:=h
  have:=List.sizeOf_lt_of_mem h'
  simp only[T.node.sizeOf_spec]
  omega
theorem ZrY(t:T):Shape.fitsL [.agg [.int .u8,.int .u64,.int .u64,.int .u64,.int .u64,.int .i64,.int .i64,.slice]] [t.v]=true:=by
 simp[Shape.fitsL,Shape.fits,T.v]
def ZpN(least most:Int):Bool:=!(decide (least < 0)||decide (least > 16)||(least == 1&&most == 1))&&(most == -1||(decide (most ≥ 1)&&decide (most<=16)&&decide (most ≥ least)))
def T.has(t:T)(k:Int):Bool:=t.subs.any λx=>x.k == k
def T.light(t:T):Bool:=decide (t.nodes.length<=10000)
def T.setZ(t:T):Bool:=t.s0 == 0&&t.s1 == 0&&t.s2 == 0&&t.s3 == 0
def T.right(t:T):Bool:=
 !(t.k != 2&&!t.setZ||(t.k != 5&&(t.mn != 0||t.mx != 0)||(decide (t.k < 3)&&decide (0 < t.subs.length)))) &&
 (if t.k=1 then true else if t.k=2 then !t.setZ else if t.k=3 then decide (1 < t.subs.length)&&(!t.has 1&&!t.has 3)else if t.k=4 then decide (1 < t.subs.length)&&!t.has 4
  else if t.k=5 then t.subs.length == 1&&(ZpN t.mn t.mx&&!t.has 1)else t.k == 6&&t.subs.length == 1)
def T.clean(t:T):Bool:=t.light&&t.nodes.all T.right
def T.size(t:T):Int:=if t.light then t.nodes.length else 10001
def T.groups(t:T):Int:=if t.light then(t.nodes.countP λx=>x.k == 6:Nat)else 10001
def ZrZ(x y:Int):Int:=if y > x then y else x
def Zhm(x y:Int):Int:=if y < x then y else x
def ZuV(k mn mx sum:Int):Int:=Zhm (if k=5 then sum*Zhm (if mx=-1 then ZrZ (ZrZ mn 0) 1 else ZrZ (ZrZ mn 0) mx) 10001 else sum) 10001
mutual
def T.pos:T->Int
 | .node k _ _ _ _ mn mx _ _ l=>ZuV k mn mx ((if k=2 then 1 else 0)+ZiJ l)
def ZiJ:List T->Int
 | []=>0
 | t::l=>t.pos+ZiJ l
end
def T.positions(t:T):Int:=if t.light then t.pos else 10001
def T.check(t:T):Int:=if t.clean=false then 80 else if t.size > 120 then 81 else if t.positions > 400 then 82 else if t.groups > 9 then 83 else 0
mutual
def T.same:T->T->Bool
 | .node k s0 s1 s2 s3 mn mx _ _ l,.node k' s0' s1' s2' s3' mn' mx' _ _ l'=>k == k'&&((s0 == s0'&&s1 == s1'&&s2 == s2'&&s3 == s3')&&(mn == mn'&&(mx == mx'&&Zwx l l')))
def Zwx:List T->List T->Bool
 | [],[]=>true
 | t::l,t'::l'=>t.same t'&&Zwx l l'
 | _,_=>false
end
theorem ZpO(t:T):t.pos=ZuV t.k t.mn t.mx ((if t.k=2 then 1 else 0)+ZiJ t.subs):=by
 cases t;simp only[T.pos,T.k,T.mn,T.mx,T.subs];congr 1
theorem ZaY(l r:List T):ZiJ (l++r)=ZiJ l+ZiJ r:=by
 induction l with
 | nil=>simp[ZiJ]
 | cons t l ih=>simp[ZiJ,ih,Int.add_assoc]
theorem Zoj(x y:Int):x<=ZrZ x y/\y<=ZrZ x y:=by unfold ZrZ;split <;> omega
theorem Zjb(x y:Int):Zhm x y<=x/\Zhm x y<=y:=by unfold Zhm;split <;> omega
theorem ZqY{x y:Int}(h:0<=x)(k:0<=y):0<=Zhm x y:=by unfold Zhm;split <;> omega
def ZvG(mn mx:Int):Int:=Zhm (if mx=-1 then ZrZ (ZrZ mn 0) 1 else ZrZ (ZrZ mn 0) mx) 10001
theorem ZtF(mn mx:Int):0<=ZvG mn mx/\ZvG mn mx<=10001:=by
 unfold ZvG
 refine⟨ZqY ?_ (by omega),(Zjb _ _).2⟩
 have h1:=Zoj mn 0
 split
 ·have:=Zoj (ZrZ mn 0) 1;omega
 ·have:=Zoj (ZrZ mn 0) mx;omega
theorem ZtG{k mn mx sum:Int}(h:0<=sum):0<=ZuV k mn mx sum/\ZuV k mn mx sum<=10001:=by
 have h2:=Int.mul_nonneg h (ZtF mn mx).1
 unfold ZuV
 refine⟨ZqY ?_ (by omega),(Zjb _ _).2⟩
 split
 ·exact h2
 ·exact h
mutual
theorem ZjX:∀t:T,0<=t.pos/\t.pos<=10001
 | .node k _ _ _ _ mn mx _ _ l=>by
  simp only[T.pos]
  have:=Zhn l
  exact ZtG (by split <;> omega)
theorem Zhn:∀l:List T,0<=ZiJ l
 | []=>by simp[ZiJ]
 | t::l=>by
  simp only[ZiJ]
  have:=ZjX t
  have:=Zhn l
  omega
end
theorem ZtH(t:T):t.subs.length < t.nodes.length:=by
 rw[Zb5,List.length_cons]
 have:∀l:List T,l.length<=(Zaz l).length:=by
  intro l
  induction l with
  | nil=>simp[Zaz]
  | cons x l ih=>simp only[Zaz,List.length_cons,zA1];rw[Zb5];simp;omega
 have:=this t.subs
 omega
def T.hasB(t:T)(c:Nat):Bool:=((if c / 64=0 then t.s0 else if c / 64=1 then t.s1 else if c / 64=2 then t.s2 else t.s3).toNat).testBit (c % 64)
end Go.Rx
namespace Go.Rx
open Go Go.Eng Go.RowKit
theorem Zwy(n:Nat)(h:n < 18446744073709551616):IntKind.u64.wrap (n:Int)=n:=by
 unfold IntKind.wrap
 have e:(2:Int) ^ 64=18446744073709551616:=by decide
 simp only[IntKind.bits,IntKind.signed,Bool.false_and,Bool.false_eq_true,if_false,e]
 omega
theorem ZxM(a:Nat)(h:a < 18446744073709551616):(BitVec.ofInt 64 (a:Int)).toNat=a:=by
 rw[BitVec.toNat_ofInt]
 have e:((2:Nat) ^ 64:Nat)=18446744073709551616:=by decide
 rw[e];omega
theorem Zr0(a b:Nat)(ha:a < 18446744073709551616)(hb:b < 18446744073709551616):IntKind.u64.wrap ((BitVec.ofInt 64 (a:Int)|||BitVec.ofInt 64 (b:Int)).toNat:Int)=((a|||b:Nat):Int):=by
 rw[BitVec.toNat_or,ZxM a ha,ZxM b hb]
 exact Zwy _ (Nat.or_lt_two_pow (n:=64) ha hb)
def Byt(m:Mem)(a:Option Addr)(s:List Nat):Prop:=(s=[]\/∃b o,a=some ⟨b,o,none⟩/\m.reads b o (s.map λc:Nat=>Value.int .u8 c))/\∀c∈s,c < 256
theorem Byt.mono{m m':Mem}{a s}(h:Byt m a s)(hm:m.le m'):Byt m' a s:=by
 refine⟨?_,h.2⟩
 rcases h.1 with h|⟨b,o,h1,h2⟩
 ·exact .inl h
 ·exact .inr ⟨b,o,h1,h2.mono hm⟩
theorem Byt.get{m:Mem}{a s}(h:Byt m a s){i c:Nat}(hi:s[i]?=some c):(∃b o,a=some ⟨b,o,none⟩/\m b (o+i)=some (.int .u8 c))/\c < 256:=by
 refine⟨?_,h.2 c (zA2 hi)⟩
 rcases h.1 with h|⟨b,o,h1,h2⟩
 ·subst h;simp at hi
 ·exact⟨b,o,h1,h2 i _ (by rw[List.getElem?_map,hi];rfl)⟩
def Zxa(t:T)(back:Bool)(f i c out:Nat):Nat:=if(f.testBit (if back then i+1 else i)&&t.hasB c)=true then out|||2 ^ (if back then i else i+1)else out
def ZxN(t:T)(back:Bool)(f:Nat):List Nat->Nat->Nat->Nat
 | [],_,out=>out
 | c::s,i,out=>ZxN t back f s (i+1) (Zxa t back f i c out)
def ZxD(g:Nat->Nat):Nat->Nat->Nat
 | 0,f=>f
 | n+1,f=>ZxD g n (g f)
def Zwz(g:Nat->Nat)(mx:Int):Nat->Int->Nat->Nat->Nat
 | 0,_,out,_=>out
 | n+1,k,out,last=>if k=mx then out else if out|||g last=out then out else Zwz g mx n (IntKind.i64.wrap (k+1)) (out|||g last) (g last)
@[irreducible] def Zx5:Nat:=576
abbrev Zx6:Nat:=2 ^ Zx5
def Zx7(g:Nat->Nat)(mn mx:Int)(f:Nat):Nat:=Zwz g mx (Zx6+1) mn (ZxD g mn.toNat f) (ZxD g mn.toNat f)
mutual
def T.lead(s:List Nat)(back:Bool):T->Nat->Nat
 | .node k s0 s1 s2 s3 mn mx a c l=>λf=>
  if k=1 then f else if k=2 then ZxN (.node k s0 s1 s2 s3 mn mx a c l) back f s 0 0
  else if k=3 then(if back then ZwB s back l f else ZwA s back l f)
  else if k=4 then ZxO s back l f 0
  else if k=5 then Zx7 (ZwC s back l) mn mx f
  else if k=6 then ZwC s back l f else 0
def ZwA(s:List Nat)(back:Bool):List T->Nat->Nat
 | []=>λf=>f
 | t::l=>λf=>ZwA s back l (t.lead s back f)
def ZwB(s:List Nat)(back:Bool):List T->Nat->Nat
 | []=>λf=>f
 | t::l=>λf=>t.lead s back (ZwB s back l f)
def ZxO(s:List Nat)(back:Bool):List T->Nat->Nat->Nat
 | []=>λ_ out=>out
 | t::l=>λf out=>ZxO s back l f (out|||t.lead s back f)
def ZwC(s:List Nat)(back:Bool):List T->Nat->Nat
 | []=>λf=>f
 | t::_=>λf=>t.lead s back f
end
section
variable {s:List Nat} {back:Bool}
end
theorem Zok{α:Type}{l:List α}{i:Nat}{x:α}(h:l[i]?=some x):l.drop i=x::l.drop (i+1):=by
 obtain⟨h1,h2⟩:=zA0 h
 rw[List.drop_eq_getElem_cons h1,h2]
theorem Zol{α:Type}{l:List α}{i:Nat}{x:α}(h:l[i]?=some x):l.take (i+1)=l.take i++[x]:=by
 rw[List.take_add_one,h];rfl
section
variable (s:List Nat) (back:Bool) (hs:s.length<=512)
include hs
end
def T0:T:=.node 0 0 0 0 0 0 0 none 0 []
def T1:T:=.node 1 0 0 0 0 0 0 none 0 []
theorem ZtI(m:Mem):Rep m T1:=by simp only[T1,Rep];exact⟨by simp,.inl trivial,by constructor <;> decide⟩
def T.isNone(t:T):Bool:=t.k == 0&&(t.light&&(T0.light&&t.same T0))
structure Rg where
 bg:Bool
 en:Bool
 t:T
def Rg.v(r:Rg):Value:=.agg #[.bool r.bg,.bool r.en,.int .u8 r.t.k,.int .u64 r.t.s0,.int .u64 r.t.s1,.int .u64 r.t.s2,.int .u64 r.t.s3,.int .i64 r.t.mn,.int .i64 r.t.mx,.slice r.t.a r.t.subs.length r.t.c]
def Rg.cs(r:Rg):List Value:=[.bool r.bg,.bool r.en,.int .u8 r.t.k,.int .u64 r.t.s0,.int .u64 r.t.s1,.int .u64 r.t.s2,.int .u64 r.t.s3,.int .i64 r.t.mn,.int .i64 r.t.mx,.slice r.t.a r.t.subs.length r.t.c]
def Rgs(m:Mem)(a:Option Addr)(l:List Rg):Prop:=l.length<=1000000000000000/\(l=[]\/∃b o,a=some ⟨b,o,none⟩/\∀i r,l[i]?=some r->m.reads b (o+i*10) r.cs)/\∀r∈l,Rep m r.t
theorem Rgs.mono{m m':Mem}{a l}(h:Rgs m a l)(hm:m.le m'):Rgs m' a l:=by
 refine⟨h.1,?_,λr hr=>(h.2.2 r hr).mono hm⟩
 rcases h.2.1 with h|⟨b,o,h1,h2⟩
 ·exact .inl h
 ·exact .inr ⟨b,o,h1,λi r hi=>(h2 i r hi).mono hm⟩
def ZvH(f:Nat):List Nat:=(List.range 513).filter λi=>f.testBit i
def ZtJ(n:Nat):List Nat->Option Nat
 | []=>none
 | i::_=>if i > n then none else some i
def Rg.from(s:List Nat)(n:Nat)(r:Rg):Option Nat:=if(r.en&&decide ((n:Int) < s.length))=true then none else if r.bg then(if(r.t.lead s true (2 ^ n)).testBit 0 then some 0 else none)else
 ZtJ n (ZvH (r.t.lead s true (2 ^ n)))
def ZlS(φ:T->Prop):Value->Mem->List (List Value)->Prop:=λv m' _=>∃t:T,v=t.v/\Rep m' t/\φ t
abbrev TRK:=Int->Int->Int->Int->Int->Int->Int->Option Addr->Nat->Nat->Mem->Prop
theorem Znw{φ:T->Prop}{m:Mem}{K:TRK}(k:∀(t:T)(m':Mem),m.le m'->Rep m' t->φ t->K t.k t.s0 t.s1 t.s2 t.s3 t.mn t.mx t.a t.subs.length t.c m'):
  ∀(n0 n1 n2 n3 n4 n5 n6:Int)(a:Option Addr)(n c:Nat)(m':Mem),m.le m'->ZlS φ (.agg #[.int .u8 n0,.int .u64 n1,.int .u64 n2,.int .u64 n3,.int .u64 n4,.int .i64 n5,.int .i64 n6,.slice a n c]) m' []->K n0 n1 n2 n3 n4 n5 n6 a n c m':=by
 rintro n0 n1 n2 n3 n4 n5 n6 a n c m' hm ⟨t,hv,hr,hp⟩
 simp only[T.v,Value.agg.injEq,Array.mk.injEq,List.cons.injEq,Value.int.injEq,Value.slice.injEq,true_and,and_true]at hv
 obtain⟨rfl,rfl,rfl,rfl,rfl,rfl,rfl,rfl,rfl,rfl⟩:=hv
 exact k t m' hm hr hp
theorem Zet{φ:T->Prop}:∀(v:Value)(m':Mem) (css:List (List Value)),ZlS φ v m' css->Shape.fits (.agg [.int .u8,.int .u64,.int .u64,.int .u64,.int .u64,.int .i64,.int .i64,.slice]) v=true:=λv _ _ ⟨t,e,_⟩=>by rw[e];rfl
def RepL(m:Mem)(a:Option Addr)(l:List T):Prop:=l.length<=1000000000000000/\(l=[]\/∃b o,a=some ⟨b,o,none⟩/\RepAt m b o l)
theorem RepL.mono{m m':Mem}{a l}(h:RepL m a l)(hm:m.le m'):RepL m' a l:=by
 refine⟨h.1,?_⟩
 rcases h.2 with h|⟨b,o,h1,h2⟩
 ·exact .inl h
 ·exact .inr ⟨b,o,h1,h2.mono hm⟩
theorem Rep.subs{m:Mem}{t:T}(h:Rep m t):RepL m t.a t.subs:=ZqX h
def ZbC(k mn mx:Int)(a:Option Addr)(c:Nat)(l:List T):T:=.node k 0 0 0 0 mn mx a c l
theorem Ze1{m:Mem}{k mn mx:Int}{a:Option Addr}{c:Nat}{l:List T}(h:RepL m a l)(hk:0<=k/\k < 256)(h1 : -9223372036854775808<=mn/\mn<=9223372036854775807)(h2 : -9223372036854775808<=mx/\mx<=9223372036854775807):Rep m (ZbC k mn mx a c l):=by
 simp only[ZbC,Rep]
 exact⟨h.1,h.2,⟨hk,by omega,by omega,by omega,by omega,h1,h2⟩⟩
theorem Zom{m:Mem}{b:Nat}{t:T}(h:m.reads b 0 t.cs)(hr:Rep m t):RepL m (some ⟨b,0,none⟩) [t]:=⟨by simp,.inr ⟨b,0,rfl,by simp only[RepAt];exact⟨h,hr,trivial⟩⟩⟩
def Zb7(l:List T):List Value:=(l.map T.cs).flatten
theorem Zan(l:List T):(Zb7 l).length=l.length*8:=by
 induction l with
 | nil=>rfl
 | cons t l ih=>simp[Zb7,T.cs]at ih ⊢;omega
theorem ZaC(l r:List T):Zb7 (l++r)=Zb7 l++Zb7 r:=by simp[Zb7]
theorem Zon{m:Mem}{b:Nat}:∀{o:Nat} {l:List T},m.reads b o (Zb7 l)->(∀t∈l,Rep m t)->RepAt m b o l
 | o,[],_,_=>by simp only[RepAt]
 | o,t::l,h,hr=>by
  simp only[RepAt]
  refine⟨λj v hj=>?_,hr t (by simp),Zon (λj v hj=>?_) λx hx=>hr x (by simp[hx])⟩
  ·refine h j v ?_
   simp only[Zb7,List.map_cons,List.flatten_cons]
   rw[zA5 (zA0 hj).1];exact hj
  ·have:=h (8+j) v (by
    simp only[Zb7,List.map_cons,List.flatten_cons]
    rw[zA4 (by simp[T.cs])]
    have e:8+j - t.cs.length=j:=by simp[T.cs]
    rw[e];exact hj)
   rw[show o+8+j=o+(8+j) by omega];exact this
theorem ZqZ{m:Mem}{a:Option Addr}{l:List T}(h:rowRd m a (Zb7 l))(hr:∀t∈l,Rep m t)(hl:l.length<=1000000000000000):RepL m a l:=by
 refine⟨hl,?_⟩
 cases l with
 | nil=>exact .inl rfl
 | cons t l=>
  rcases h with h|⟨b,o,h1,h2⟩
  ·simp[Zb7,T.cs]at h
  ·exact .inr ⟨b,o,h1,Zon h2 hr⟩
theorem Zdx{m:Mem}{a:Option Addr}{l:List T}(h:RepL m a l):rowRd m a (Zb7 l):=by
 have key:∀(l:List T)(b o:Nat),RepAt m b o l->m.reads b o (Zb7 l):=by
  intro l
  induction l with
  | nil=>intro b o _ j v hj;simp[Zb7]at hj
  | cons t l ih=>
   intro b o hr j v hj
   simp only[RepAt]at hr
   simp only[Zb7,List.map_cons,List.flatten_cons]at hj
   by_cases aC:j < 8
   ·rw[zA5 (by simpa[T.cs]using aC)]at hj
    exact hr.1 j v hj
   ·rw[zA4 (by simp[T.cs];omega)]at hj
    have:=ih b (o+8) hr.2.2 (j - 8) v (by simpa[T.cs,Zb7]using hj)
    rw[show o+8+(j - 8)=o+j by omega]at this;exact this
 rcases h.2 with h|⟨b,o,h1,h2⟩
 ·subst h;exact .inl rfl
 ·exact .inr ⟨b,o,h1,key l b o h2⟩
theorem Zh0{m:Mem}{a:Option Addr}{l:List T}(h:RepL m a l):∀t∈l,Rep m t:=by
 rcases h.2 with h|⟨b,o,_,h⟩
 ·subst h;simp
 ·intro t ht
  obtain⟨i,hi⟩:=List.getElem?_of_mem ht
  exact(h.get hi).2
def ZxE(j:Nat)(w c:Nat):Nat:=if c / 64=j then w|||2 ^ (c % 64)else w
def ZqF(bs:List Nat)(j:Nat):Nat:=bs.foldl (ZxE j) 0
theorem ZpP(l:List Nat)(c j:Nat):ZqF (l++[c]) j=if c / 64=j then ZqF l j|||2 ^ (c % 64)else ZqF l j:=by
 unfold ZqF
 rw[List.foldl_append];rfl
theorem Zq0(l:List Nat)(j:Nat):ZqF l j < 18446744073709551616:=by
 have key:∀(l:List Nat)(w:Nat),w < 2 ^ 64->l.foldl (ZxE j) w < 2 ^ 64:=by
  intro l
  induction l with
  | nil=>intro w h;exact h
  | cons c l ih=>
   intro w h
   refine ih _ ?_
   unfold ZxE
   split
   ·exact Nat.or_lt_two_pow h (Nat.pow_lt_pow_right (by omega) (by omega))
   ·exact h
 exact key l 0 (by decide)
def Zh1(bs:List Nat):T:=.node 2 (ZqF bs 0:Nat) (ZqF bs 1:Nat) (ZqF bs 2:Nat) (ZqF bs 3:Nat) 0 0 none 0 []
theorem ZlT(bs:List Nat)(m:Mem):Rep m (Zh1 bs):=by
 simp only[Zh1,Rep]
 have h:=Zq0 bs
 exact⟨by simp,.inl trivial,⟨by omega,⟨by omega,by have:=h 0;omega⟩,⟨by omega,by have:=h 1;omega⟩,⟨by omega,by have:=h 2;omega⟩,⟨by omega,by have:=h 3;omega⟩,by omega,by omega⟩⟩
def Zq1(bs:List Nat):List Value:=[.int .u64 (ZqF bs 0:Nat),.int .u64 (ZqF bs 1:Nat),.int .u64 (ZqF bs 2:Nat),.int .u64 (ZqF bs 3:Nat)]
theorem ZpQ(bs:List Nat){j:Nat}(h:j < 4):(Zq1 bs)[j]?=some (.int .u64 (ZqF bs j:Nat)):=by
 have:j=0\/j=1\/j=2\/j=3:=by omega
 rcases this with rfl|rfl|rfl|rfl <;> rfl
theorem Znx(l:List Nat){c j:Nat}(hj:c / 64=j)(h:j < 4):Zay (Zq1 l) j [.int .u64 ((ZqF l j|||2 ^ (c % 64):Nat):Int)]=Zq1 (l++[c]):=by
 unfold Zq1
 simp only[ZpP,hj]
 have:j=0\/j=1\/j=2\/j=3:=by omega
 rcases this with rfl|rfl|rfl|rfl <;> rfl
def ZcL(n:Nat):List Nat:=([[97],[98],[97,98],[97],[98],[99],[97,98,99],[98,99],[10],[0,255],[97],[98]][n % 12]?).getD []
end Go.Rx
namespace Go.Rx
open Go Go.Eng
inductive E where
 | node (k:Int) (x:Nat) (s:ByteArray) (g:Int) (a:Option Addr) (c:Nat) (subs:List E)
def E.k:E->Int
 | .node k _ _ _ _ _ _=>k
def E.x:E->Nat
 | .node _ x _ _ _ _ _=>x
def E.s:E->ByteArray
 | .node _ _ s _ _ _ _=>s
def E.g:E->Int
 | .node _ _ _ g _ _ _=>g
def E.a:E->Option Addr
 | .node _ _ _ _ a _ _=>a
def E.c:E->Nat
 | .node _ _ _ _ _ c _=>c
def E.subs:E->List E
 | .node _ _ _ _ _ _ l=>l
def E.sl(t:E):Value:=.slice t.a t.subs.length t.c
def E.cs(t:E):List Value:=[.int .u8 t.k,.float .f64 t.x,.string t.s,.int .i64 t.g,t.sl]
def E.v(t:E):Value:=.agg #[.int .u8 t.k,.float .f64 t.x,.string t.s,.int .i64 t.g,.slice t.a t.subs.length t.c]
def E0:E:=.node 0 0 .empty 0 none 0 []
structure OkE (k:Int)(s:ByteArray)(g:Int):Prop where
 k:0<=k/\k < 256
 s:s.size<=1000000000000000
 g : -9223372036854775808<=g/\g<=9223372036854775807
mutual
def RepE(m:Mem):E->Prop
 | .node k x s g a _ l=>l.length<=1000000000000000/\(l=[]\/∃b o,a=some ⟨b,o,none⟩/\RepEAt m b o l)/\OkE k s g
def RepEAt(m:Mem)(b:Nat):Nat->List E->Prop
 | _,[]=>True
 | o,t::l=>m.reads b o t.cs/\RepE m t/\RepEAt m b (o+5) l
end
theorem Zvj(m:Mem):RepE m E0:=by simp only[E0,RepE];exact⟨by simp,.inl trivial,by constructor <;> decide⟩
theorem Zgw{m:Mem}{t:E}:RepE m t->(t.subs.length<=1000000000000000/\(t.subs=[]\/∃b o,t.a=some ⟨b,o,none⟩/\RepEAt m b o t.subs)):=by
 cases t;simp only[RepE,E.subs,E.a];exact λh=>⟨h.1,h.2.1⟩
theorem Zq2{m:Mem}{t:E}:RepE m t->OkE t.k t.s t.g:=by
 cases t;simp only[RepE];exact λh=>h.2.2
mutual
theorem RepE.mono{m m':Mem}(h:m.le m'):∀t:E,RepE m t->RepE m' t
 | .node _ _ _ _ a _ l,hr=>by
  simp only[RepE]at *
  refine⟨hr.1,?_,hr.2.2⟩
  rcases hr.2.1 with hr|⟨b,o,h1,h2⟩
  ·exact .inl hr
  ·exact .inr ⟨b,o,h1,RepEAt.mono h b o l h2⟩
theorem RepEAt.mono{m m':Mem}(h:m.le m')(b:Nat):∀(o:Nat)(l:List E),RepEAt m b o l->RepEAt m' b o l
 | _,[],_=>by simp only[RepEAt]
 | o,t::l,hr=>by
  simp only[RepEAt]at *
  exact⟨hr.1.mono h,RepE.mono h t hr.2.1,RepEAt.mono h b (o+5) l hr.2.2⟩
end
theorem RepE.mono'{m m':Mem}{t:E}(hr:RepE m t)(h:m.le m'):RepE m' t:=RepE.mono h t hr
theorem RepEAt.mono'{m m':Mem}{b o:Nat}{l:List E}(hr:RepEAt m b o l)(h:m.le m'):RepEAt m' b o l:=RepEAt.mono h b o l hr
theorem RepEAt.get{m:Mem}{b:Nat}:∀{o:Nat} {l:List E} {i:Nat} {t:E},RepEAt m b o l->l[i]?=some t->m.reads b (o+i*5) t.cs/\RepE m t
 | o,[],i,t,_,hi=>by simp at hi
 | o,x::l,0,t,h,hi=>by
  simp only[RepEAt]at h
  simp at hi;subst hi
  exact⟨by simpa using h.1,h.2.1⟩
 | o,x::l,i+1,t,h,hi=>by
  simp only[RepEAt]at h
  have:=h.2.2.get (i:=i) (by simpa using hi)
  rw[show o+(i+1)*5=o+5+i*5 by omega]
  exact this
mutual
def E.nodes:E->List E
 | .node k x s g a c l=>.node k x s g a c l::Zak l
def Zak:List E->List E
 | []=>[]
 | t::l=>t.nodes++Zak l
end
theorem ZaZ(t:E):t.nodes=t::Zak t.subs:=by cases t;simp only[E.nodes,E.subs]
theorem ZaH(l r:List E):Zak (l++r)=Zak l++Zak r:=by
 induction l with
 | nil=>simp[Zak]
 | cons t l ih=>simp[Zak,ih,List.append_assoc]
theorem ZdV{l:List E}{i:Nat}{t:E}(h:l[i]?=some t):Zak (l.take (i+1))=Zak (l.take i)++t.nodes:=by
 have:l.take (i+1)=l.take i++[t]:=by
  rw[List.take_add_one,h];rfl
 rw[this,ZaH];simp[Zak]
theorem ZbT{l:List E}{i:Nat}{t:E}(h:l[i]?=some t):Zak l=Zak (l.take i)++(t.nodes++Zak (l.drop (i+1))):=by
 have aC:=(zA0 h).1
 have e:l=l.take i++(t::l.drop (i+1)):=by
  have:=List.drop_eq_getElem_cons aC
  rw[(zA0 h).2]at this
  rw[<-this,List.take_append_drop]
 conv=>lhs;rw[e,ZaH]
 simp[Zak]
theorem ZpR{t x z:E}{i q:Nat}(hx:t.subs[i]?=some x)(hz:x.nodes[q]?=some z):t.nodes[1+(Zak (t.subs.take i)).length+q]?=some z:=by
 have hq:=(zA0 hz).1
 rw[ZaZ,show 1+(Zak (t.subs.take i)).length+q=((Zak (t.subs.take i)).length+q)+1 by omega,List.getElem?_cons_succ,ZbT hx,zA4 (by omega),zA5 (by omega),show(Zak (List.take i t.subs)).length+q - (Zak (List.take i t.subs)).length=q by omega]
 exact hz
theorem Zho{t x:E}(h:x∈t.subs):SizeOf.sizeOf x < SizeOf.sizeOf t:=by
 cases t with
 | node k x s g a c l=>
  have h':_∈l:=h
  have:=List.sizeOf_lt_of_mem h'
  simp only[E.node.sizeOf_spec]
  omega
theorem Zjc(t:E):Shape.fitsL [.agg [.int .u8,.any,.str,.int .i64,.slice]] [t.v]=true:=by
 simp[Shape.fitsL,Shape.fits,E.v]
mutual
theorem ZlU{m:Mem}:∀(t:E),RepE m t->∀x∈t.nodes,RepE m x
 | .node k x s g a c l,hr,z,hx=>by
  simp only[E.nodes,List.mem_cons]at hx
  rcases hx with rfl|hx
  ·exact hr
  ·simp only[RepE]at hr
   rcases hr.2.1 with h|⟨b,o,_,h⟩
   ·subst h;simp[Zak]at hx
   ·exact Zjd b o l h z hx
theorem Zjd{m:Mem}(b:Nat):∀(o:Nat)(l:List E),RepEAt m b o l->∀x∈Zak l,RepE m x
 | _,[],_,x,hx=>by simp[Zak]at hx
 | o,t::l,hr,x,hx=>by
  simp only[RepEAt]at hr
  simp only[Zak,List.mem_append]at hx
  rcases hx with hx|hx
  ·exact ZlU t hr.2.1 x hx
  ·exact Zjd b (o+5) l hr.2.2 x hx
end
theorem Zny{m:Mem}{t x:E}(h:RepE m t)(hx:x∈t.nodes):RepE m x:=ZlU t h x hx
def ZwD:Nat:=9221120237041090561
def ZtK(x:Nat):Nat:=if Op.floatEq .f64 x x then x else ZwD
def Zvk(x y:Nat):Bool:=ZtK x == ZtK y
def Zh2(x:Nat):Bool:=Op.floatEq .f64 x x||x == ZwD
def E.light(t:E):Bool:=decide (t.nodes.length<=10000)
def E.size(t:E):Int:=if t.light then t.nodes.length else 0
mutual
def E.same:E->E->Bool
 | .node k x s g _ _ l,.node k' x' s' g' _ _ l'=>k == k'&&(Zvk x x'&&(s.toList == s'.toList&&(g == g'&&ZtL l l')))
def ZtL:List E->List E->Bool
 | [],[]=>true
 | t::l,t'::l'=>t.same t'&&ZtL l l'
 | _,_=>false
end
def E.most(t:E):Int:=if t.light then t.nodes.foldl (λn x=>if x.k=10 then(if x.g > n then x.g else n)else n) (-1)else -1
mutual
def E.names:E->List ByteArray->List ByteArray
 | .node k _ s _ _ _ l,out=>if k=9 then(if out.any (λy=>y.toList == s.toList)then out else out++[s])else Zbm l out
def Zbm:List E->List ByteArray->List ByteArray
 | [],out=>out
 | t::l,out=>Zbm l (t.names out)
end
theorem ZlV(t:E)(out:List ByteArray):t.names out=if t.k=9 then(if out.any (λy=>y.toList == t.s.toList)then out else out++[t.s])else Zbm t.subs out:=by
 cases t;simp only[E.names,E.k,E.s,E.subs];rfl
mutual
theorem Zoo:∀(t:E)(out:List ByteArray),out.length<=(t.names out).length
 | .node k _ s _ _ _ l,out=>by
  simp only[E.names]
  split
  ·split <;> simp
  ·exact Zh3 l out
theorem Zh3:∀(l:List E)(out:List ByteArray),out.length<=(Zbm l out).length
 | [],out=>by simp[Zbm]
 | t::l,out=>by
  simp only[Zbm]
  exact Nat.le_trans (Zoo t out) (Zh3 l _)
end
theorem Zje(l r:List E)(out:List ByteArray):Zbm (l++r) out=Zbm r (Zbm l out):=by
 induction l generalizing out with
 | nil=>simp[Zbm]
 | cons t l ih=>simp only[List.cons_append,Zbm,ih]
theorem Znz{l:List E}{i:Nat}{t:E}(h:l[i]?=some t)(out:List ByteArray):Zbm (l.take (i+1)) out=t.names (Zbm (l.take i) out):=by
 have:l.take (i+1)=l.take i++[t]:=by rw[List.take_add_one,h];rfl
 rw[this,Zje];simp[Zbm]
theorem ZpS{l:List E}{i:Nat}(out:List ByteArray):(Zbm (l.take i) out).length<=(Zbm l out).length:=by
 conv=>rhs;rw[<-List.take_append_drop i l,Zje]
 exact Zh3 _ _
mutual
theorem Zdy:∀(t:E)(out:List ByteArray),(t.names out).length<=out.length+t.nodes.length
 | .node k _ s _ _ _ l,out=>by
  simp only[E.names,E.nodes,List.length_cons]
  split
  ·split
   ·omega
   ·rw[zA1,List.length_singleton];omega
  ·have:=ZfP l out
   omega
theorem ZfP:∀(l:List E)(out:List ByteArray),(Zbm l out).length<=out.length+(Zak l).length
 | [],out=>by simp[Zbm]
 | t::l,out=>by
  simp only[Zbm,Zak,zA1]
  have:=Zdy t out
  have:=ZfP l (t.names out)
  omega
end
def E.vars(t:E):List ByteArray:=if t.light then t.names []else[]
theorem Zr1(s:ByteArray):s.data.toList.length=s.size:=by rw[Array.length_toList];rfl
theorem Zq3(s:ByteArray):∀(n i:Nat)(r:List UInt8),s.size - i=n->ByteArray.toList.loop s i r=r.reverse++s.data.toList.drop i
 | 0,i,r,h=>by
  rw[ByteArray.toList.loop,if_neg (by omega),List.drop_of_length_le (by have:=Zr1 s;omega),List.append_nil]
 | n+1,i,r,h=>by
  have hs:=Zr1 s
  have hi:i < s.size:=by omega
  rw[ByteArray.toList.loop,if_pos hi,Zq3 s n (i+1) _ (by omega),List.reverse_cons,List.append_assoc]
  have hd:=List.drop_eq_getElem_cons (l:=s.data.toList) (i:=i) (by omega)
  rw[hd]
  have e:s.get! i=s.data.toList[i]'(by omega):=by
   rw[Array.getElem_toList]
   exact getElem!_pos s.data i hi
  rw[e];rfl
theorem baL(s:ByteArray):s.toList=s.data.toList:=by
 have:=Zq3 s _ 0 [] rfl
 simpa[ByteArray.toList]using this
theorem ZtM(s:ByteArray):(s.toList == ByteArray.toList ⟨#[]⟩)=(s.size == 0):=by
 rw[baL,baL,<-Zr1]
 cases h:s.data.toList <;> simp[h] <;> rfl
theorem Zal{α:Type}{cs:α->List Value}{n:Nat}(hn:∀x,(cs x).length=n){m:Mem}{a:Option Addr}{L:List α}(h:rowRd m a (L.map cs).flatten){k:Nat}{t:α}(ht:L[k]?=some t)(h0:0 < n):∃b o,a=some ⟨b,o,none⟩/\m.reads b (o+k*n) (cs t):=by
 have aC:=(zA0 ht).1
 have len:∀l:List α,(l.map cs).flatten.length=l.length*n:=λl=>by
  induction l with
  | nil=>simp
  | cons x l ih=>rw[List.map_cons,List.flatten_cons,zA1,hn,ih,List.length_cons,Nat.succ_mul];omega
 have e:(L.map cs).flatten=((L.take k).map cs).flatten++(cs t++((L.drop (k+1)).map cs).flatten):=by
  have e1:L=L.take k++(t::L.drop (k+1)):=by
   have:=List.drop_eq_getElem_cons aC
   rw[(zA0 ht).2]at this
   rw[<-this,List.take_append_drop]
  conv=>lhs;rw[e1]
  rw[List.map_append,List.flatten_append,List.map_cons,List.flatten_cons]
 have hl:((L.take k).map cs).flatten.length=k*n:=by rw[len,List.length_take,Nat.min_eq_left (by omega)]
 rcases h with h|⟨b,o,ha,h⟩
 ·have:=congrArg List.length h
  rw[len,List.length_nil]at this
  have:0 < L.length*n:=Nat.mul_pos (by omega) h0
  omega
 ·refine⟨b,o,ha,λj v hj=>?_⟩
  have qA:=(zA0 hj).1
  have:=h (k*n+j) v (by rw[e,zA4 (by omega),hl,Nat.add_sub_cancel_left,zA5 qA];exact hj)
  rw[Nat.add_assoc];exact this
theorem ZaO{α:Type}{cs:α->List Value}{n:Nat}(hn:∀x,(cs x).length=n)(l:List α):(l.map cs).flatten.length=l.length*n:=by
 induction l with
 | nil=>simp
 | cons x l ih=>rw[List.map_cons,List.flatten_cons,zA1,hn,ih,List.length_cons,Nat.succ_mul];omega
structure Pt where
 k:Int
 s:ByteArray
 g:Int
 e:E
def Pt.cs(p:Pt):List Value:=[.int .u8 p.k,.string p.s,.int .i64 p.g,.int .u8 p.e.k,.float .f64 p.e.x,.string p.e.s,.int .i64 p.e.g,.slice p.e.a p.e.subs.length p.e.c]
def Pt.v(p:Pt):Value:=.agg p.cs.toArray
structure Ac where
 k:Int
 s:ByteArray
 pa:Option Addr
 pc:Nat
 parts:List Pt
 e:E
def Ac.cs(a:Ac):List Value:=[.int .u8 a.k,.string a.s,.slice a.pa a.parts.length a.pc,.int .u8 a.e.k,.float .f64 a.e.x,.string a.e.s,.int .i64 a.e.g,.slice a.e.a a.e.subs.length a.e.c]
structure Ru where
 k:Int
 bg:Bool
 en:Bool
 t:T
 s:ByteArray
 n:Int
 aa:Option Addr
 ac:Nat
 acts:List Ac
 go:ByteArray
 code:Int
def Ru.cs(r:Ru):List Value:=[.int .u8 r.k,.bool r.bg,.bool r.en,.int .u8 r.t.k,.int .u64 r.t.s0,.int .u64 r.t.s1,.int .u64 r.t.s2,.int .u64 r.t.s3,.int .i64 r.t.mn,.int .i64 r.t.mx,.slice r.t.a r.t.subs.length r.t.c,.string r.s,.int .i64 r.n,.slice r.aa r.acts.length r.ac,.string r.go,.int .i64 r.code]
structure Sta where
 s:ByteArray
 ra:Option Addr
 rc:Nat
 rules:List Ru
def Sta.cs(x:Sta):List Value:=[.string x.s,.slice x.ra x.rules.length x.rc]
structure Va where
 s:ByteArray
 b:Bool
 t:ByteArray
 x:Nat
def Va.cs(v:Va):List Value:=[.string v.s,.bool v.b,.string v.t,.float .f64 v.x]
structure Sc where
 n:Int
 va:Option Addr
 vc:Nat
 vars:List Va
 sa:Option Addr
 sc:Nat
 states:List Sta
def Sc.cs(s:Sc):List Value:=[.int .i64 s.n,.slice s.va s.vars.length s.vc,.slice s.sa s.states.length s.sc]
def Sc.v(s:Sc):Value:=.agg #[.int .i64 s.n,.slice s.va s.vars.length s.vc,.slice s.sa s.states.length s.sc]
theorem Pt.len(p:Pt):p.cs.length=8:=rfl
theorem Ac.len(p:Ac):p.cs.length=8:=rfl
theorem Ru.len(p:Ru):p.cs.length=16:=rfl
theorem Sta.len(p:Sta):p.cs.length=2:=rfl
theorem Va.len(p:Va):p.cs.length=4:=rfl
def I64(n:Int):Prop:=-9223372036854775808<=n/\n<=9223372036854775807
def few:Nat:=100000
structure RepP (m:Mem)(p:Pt):Prop where
 k:0<=p.k/\p.k < 256
 s:p.s.size<=1000000000000000
 g:I64 p.g
 e:RepE m p.e
structure RepA (m:Mem)(a:Ac):Prop where
 k:0<=a.k/\a.k < 256
 s:a.s.size<=1000000000000000
 n:a.parts.length<=few
 row:rowRd m a.pa (a.parts.map Pt.cs).flatten
 all:∀p∈a.parts,RepP m p
 e:RepE m a.e
structure RepR (m:Mem)(r:Ru):Prop where
 k:0<=r.k/\r.k < 256
 t:Rep m r.t
 s:r.s.size<=1000000000000000
 n:I64 r.n
 len:r.acts.length<=few
 row:rowRd m r.aa (r.acts.map Ac.cs).flatten
 all:∀p∈r.acts,RepA m p
 go:r.go.size<=1000000000000000
 code:I64 r.code
structure RepS (m:Mem)(x:Sta):Prop where
 s:x.s.size<=1000000000000000
 len:x.rules.length<=few
 row:rowRd m x.ra (x.rules.map Ru.cs).flatten
 all:∀p∈x.rules,RepR m p
structure RepV (v:Va):Prop where
 s:v.s.size<=1000000000000000
 t:v.t.size<=1000000000000000
structure RepC (m:Mem)(s:Sc):Prop where
 n:I64 s.n
 vlen:s.vars.length<=few
 vrow:rowRd m s.va (s.vars.map Va.cs).flatten
 vall:∀v∈s.vars,RepV v
 len:s.states.length<=few
 row:rowRd m s.sa (s.states.map Sta.cs).flatten
 all:∀x∈s.states,RepS m x
 vcap:s.vars.length<=s.vc
 scap:s.states.length<=s.sc
section
variable {m m':Mem} (h:m.le m')
include h
theorem RepP.mono{p:Pt}(x:RepP m p):RepP m' p:=⟨x.k,x.s,x.g,RepE.mono h _ x.e⟩
theorem RepA.mono{p:Ac}(x:RepA m p):RepA m' p:=⟨x.k,x.s,x.n,x.row.mono h,λp hp=>(x.all p hp).mono h,RepE.mono h _ x.e⟩
theorem RepR.mono{p:Ru}(x:RepR m p):RepR m' p:=⟨x.k,x.t.mono h,x.s,x.n,x.len,x.row.mono h,λp hp=>(x.all p hp).mono h,x.go,x.code⟩
theorem RepS.mono{p:Sta}(x:RepS m p):RepS m' p:=⟨x.s,x.len,x.row.mono h,λp hp=>(x.all p hp).mono h⟩
theorem RepC.mono{p:Sc}(x:RepC m p):RepC m' p:=⟨x.n,x.vlen,x.vrow.mono h,x.vall,x.len,x.row.mono h,λp hp=>(x.all p hp).mono h,x.vcap,x.scap⟩
end
def nE(e:E):Int:=if e.light then e.size else 20001
def ZaI:List Int->Int
 | []=>0
 | x::l=>x+ZaI l
theorem ZkO(l r:List Int):ZaI (l++r)=ZaI l+ZaI r:=by
 induction l with
 | nil=>simp[ZaI]
 | cons x l ih=>simp only[List.cons_append,ZaI,ih];omega
theorem Ze2{α:Type}{l:List α}{i:Nat}{x:α}(f:α->Int)(h:l[i]?=some x):ZaI ((l.take (i+1)).map f)=ZaI ((l.take i).map f)+f x:=by
 rw[List.take_add_one,h,List.map_append,ZkO];simp[ZaI]
theorem ZfQ{α:Type}(f:α->Int)(hf:∀x,0<=f x):∀l:List α,0<=ZaI (l.map f)
 | []=>by simp[ZaI]
 | x::l=>by
  have:=ZfQ f hf l;have:=hf x
  simp only[List.map_cons,ZaI];omega
theorem Ze3{α:Type}(f:α->Int)(hf:∀x,0<=f x)(l:List α)(i:Nat):ZaI ((l.take i).map f)<=ZaI (l.map f):=by
 have e:ZaI (l.map f)=ZaI ((l.take i).map f)+ZaI ((l.drop i).map f):=by rw[<-ZkO,<-List.map_append,List.take_append_drop]
 have:=ZfQ f hf (l.drop i)
 omega
def wA(a:Ac):Int:=1+nE a.e+a.parts.length+ZaI (a.parts.map λp=>nE p.e)
def wR(r:Ru):Int:=1+Zhm r.t.size 20000+(if r.t.light then 0 else 20001)+ZaI (r.acts.map wA)
theorem ZgF(e:E):0<=nE e/\nE e<=20001:=by
 unfold nE E.size E.light
 split
 ·rename_i h
  simp only[decide_eq_true_eq]at h
  first|omega|(rw[if_pos (by simpa using h)];omega)
 ·omega
theorem Zjf(t:T):0<=t.size/\t.size<=10001:=by
 unfold T.size T.light
 split
 ·rename_i h;simp only[decide_eq_true_eq]at h;omega
 ·omega
theorem Zq4(a:Ac):0<=wA a:=by
 have:=(ZgF a.e).1
 have:=ZfQ (λp:Pt=>nE p.e) (λp=>(ZgF p.e).1) a.parts
 unfold wA;omega
theorem Zvl(r:Ru):0<=wR r:=by
 have:=ZfQ wA Zq4 r.acts
 have h1:=(Zjf r.t).1
 have:0<=Zhm r.t.size 20000:=by unfold Zhm;split <;> omega
 unfold wR;split <;> omega
def wS(x:Sta):Int:=ZaI (x.rules.map wR)
theorem ZwE(x:Sta):0<=wS x:=ZfQ wR Zvl _
def Sc.weight(s:Sc):Int:=s.vars.length+s.states.length+ZaI (s.states.map wS)
def Sc.light(s:Sc):Bool:=decide (s.weight<=20000)
structure Pl where
 v:Int
 s:Int
 r:Int
 a:Int
 p:Int
deriving DecidableEq
def Pl.cs(p:Pl):List Value:=[.int .i64 p.v,.int .i64 p.s,.int .i64 p.r,.int .i64 p.a,.int .i64 p.p]
def top:Pl:=⟨-1,-1,-1,-1,-1⟩
def Zcs(n:Nat)(f:Nat->List Pl):List Pl:=(List.range n).flatMap f
def plA(i k m:Nat)(a:Ac):List Pl:=⟨-1,i,k,m,-1⟩::Zcs a.parts.length λn=>[⟨-1,i,k,m,n⟩]
def plR(i k:Nat)(r:Ru):List Pl:=⟨-1,i,k,-1,-1⟩::Zcs r.acts.length λm=>match r.acts[m]? with
 | some a=>plA i k m a
 | none=>[]
def plS(i:Nat)(x:Sta):List Pl:=⟨-1,i,-1,-1,-1⟩::Zcs x.rules.length λk=>match x.rules[k]? with
 | some r=>plR i k r
 | none=>[]
def Sc.places(s:Sc):List Pl:=if s.light then top::(Zcs s.vars.length (λi=>[⟨i,-1,-1,-1,-1⟩])++Zcs s.states.length λi=>match s.states[i]? with
 | some x=>plS i x
 | none=>[])else[]
def Zcf:List (Int×Bool)->Int
 | []=>0
 | (e,w)::l=>if w then e else Zcf l
def ZcQ(n a b:Int):Bool:=decide (n ≥ a)&&decide (n<=b)
def eqS(a b:ByteArray):Bool:=a.toList == b.toList
def Zxb(c:UInt8):Bool:=(decide (97<=c.toNat)&&decide (c.toNat<=122))||(decide (48<=c.toNat)&&decide (c.toNat<=57))||c.toNat == 95
def ZvI:List ByteArray:=[⟨#[109,105,110]⟩,⟨#[109,97,120]⟩,⟨#[110,117,109]⟩]
def Zfe(s:ByteArray):Bool:=!(s.size == 0||decide (s.size > 16)||decide ((s.data.toList.getD 0 0).toNat < 97)||decide ((s.data.toList.getD 0 0).toNat > 122)||ZvI.any λw=>eqS w s)&&s.data.toList.all Zxb
def ZgG(s:Sc)(name:ByteArray):Bool×Bool:=match s.vars.find? λv=>eqS v.s name with
 | some v=>(v.b,true)
 | none=>(false,false)
def Zc6(s:Sc)(e:E):Bool:=!e.vars.any λn=>!(ZgG s n).1
def ZsZ(e:E):Bool:=e.light&&(E0.light&&e.same E0)
def ZlW(k:Int):Int:=if k=1 then 1 else if 2<=k/\k<=7 then 2 else 0
def ZpT:List E->Bool
 | u::_=>u.k == 8
 | []=>false
def E.right(t:E):Bool:=!(t.k == 0)&&(decide (t.k<=10)&&((if t.k=9 then Zfe t.s else t.s.size == 0)&&((if t.k=8 then Zh2 t.x else Zvk t.x 0)&&((if t.k=10 then decide (t.g ≥ 0)&&decide (t.g<=9)else t.g == 0)&&((t.subs.length:Int) == ZlW t.k&&!(t.k == 1&&(t.subs.length == 1&&ZpT t.subs)))))))
def E.clean(t:E):Bool:=t.light&&t.nodes.all E.right
def ZlX(s:Sc):Int:=Zcf [(300,!ZcQ s.n 2 256),(302,!ZcQ s.states.length 1 24||decide (s.vars.length > 12))]
def Zr2(v:Va):Bool:=if v.b then Zh2 v.x&&v.t.size == 0 else v.x == 0&&decide (v.t.size<=512)
def Zct(s:Sc)(i:Nat)(v:Va):Int:=Zcf [(301,!Zfe v.s||(!Zr2 v||(s.vars.take i).any λx=>eqS x.s v.s))]
def ZlY(s:Sc)(i:Nat)(x:Sta):Int:=Zcf [(303,!Zfe x.s||(decide (x.rules.length > 12)||(s.states.take i).any λy=>eqS y.s x.s))]
def ZwZ(r:Ru):Bool:=r.bg||(r.en||!(r.t.light&&(T0.light&&r.t.same T0)))
def Zop(r:Ru):Bool:=if r.k=2 then !ZwZ r&&(r.n == 0&&ZcQ r.s.size 1 64)else if r.k=4 then !ZwZ r&&(r.s.size == 0&&ZcQ r.n 1 1000)else if r.k=3 then !ZwZ r&&(r.s.size == 0&&r.n == 0)else if r.k=1 then r.s.size == 0&&r.n == 0 else false
def ZcZ(r:Ru):Int:=if r.k=1 then r.t.groups else if r.k=2 then 0 else -1
def ZpU(s:Sc)(name:ByteArray):Bool:=(s.states.any λx=>eqS x.s name)&&s.light
def Zoq(s:Sc)(r:Ru)(total:Int):Int:=Zcf [(304,!Zop r||decide (r.acts.length > 8)),(305,r.k == 1&&(!(r.t.check == 0)||decide (total > 600))),
 (306,if r.go.size=0 then !ZcQ r.code 0 255 else !ZpU s r.go||!(r.code == 0))]
def Zdz(s:Sc)(r:Ru)(a:Ac):Int:=Zcf [(307,!ZcQ a.k 1 3||(a.k == 1&&!(a.s.size == 0))||(a.k == 3&&decide (a.parts.length > 0))||(a.k == 3&&!a.e.clean)||(!(a.k == 3)&&!ZsZ a.e)||decide (a.parts.length > 16)),
 (308,(!(a.k == 1)&&(!(ZgG s a.s).2||!((ZgG s a.s).1 == (a.k == 3))))||(a.k == 3&&!Zc6 s a.e)),(309,a.k == 3&&decide (a.e.most > ZcZ r))]
def Zff(p:Pt):Bool:=if p.k=1 then decide (p.s.size > 0)&&(decide (p.s.size<=512)&&(p.g == 0&&ZsZ p.e))else if p.k=2 then Zfe p.s&&(p.g == 0&&ZsZ p.e)else if p.k=3 then decide (p.g ≥ 0)&&(decide (p.g<=9)&&(p.s.size == 0&&ZsZ p.e))else if p.k=4 then p.e.clean&&(p.s.size == 0&&p.g == 0)else false
def ZkE(s:Sc)(r:Ru)(l:List Pt)(i:Nat)(p:Pt):Int:=Zcf [(307,!Zff p||(decide (i > 0)&&(p.k == 1&&(match l[i - 1]? with
 | some q=>q.k == 1
 | none=>false)))),(308,(p.k == 2&&!(ZgG s p.s).2)||(p.k == 4&&!Zc6 s p.e)),(309,(p.k == 3&&decide (p.g > ZcZ r))||(p.k == 4&&decide (p.e.most > ZcZ r)))]
def sizeR(r:Ru):Int:=if r.k=1 then r.t.size else 0
def totals(s:Sc)(i k:Nat):Int:=ZaI ((s.states.take i).map λx=>ZaI (x.rules.map sizeR))+(match s.states[i]? with
 | some x=>ZaI ((x.rules.take (k+1)).map sizeR)
 | none=>0)
def atS(s:Sc)(p:Pl):Int:=if p.v ≥ 0 then(match s.vars[p.v.toNat]? with
  | some v=>Zct s p.v.toNat v
  | none=>0)else if p.s < 0 then ZlX s else match s.states[p.s.toNat]? with
  | none=>0
  | some x=>if p.r < 0 then ZlY s p.s.toNat x else match x.rules[p.r.toNat]? with
   | none=>0
   | some r=>if p.a < 0 then Zoq s r (totals s p.s.toNat p.r.toNat)else match r.acts[p.a.toNat]? with
    | none=>0
    | some a=>if p.p < 0 then Zdz s r a else match a.parts[p.p.toNat]? with
     | none=>0
     | some q=>ZkE s r a.parts p.p.toNat q
def Sc.problems(s:Sc):List (Pl×Int):=s.places.filterMap λp=>if atS s p=0 then none else some (p,atS s p)
def Sc.check(s:Sc):Pl×Int:=if s.light then(match s.problems with
 | p::_=>p
 | []=>(top,0))else(top,5)
end Go.Rx
namespace Go.Rx
open Go Go.Eng Go.RowKit
theorem ZlZ(w:World)(b:Nat)(f:Array Value->Array Value){cur:Array Value}{T:TypeId}{fr:Nat×Nat}(h:w.heap[b]?=some (.cells cur T fr)):(Go.Sort.mapBlock w b f).heap[b]?=some (.cells (f cur) T fr):=by
 unfold Go.Sort.mapBlock
 simp only[Array.getElem?_modify,if_true,h,Option.map_some]
 rfl
theorem ZjY(w:World)(b:Nat)(f:Array Value->Array Value){k:Nat}(h:k≠b):(Go.Sort.mapBlock w b f).heap[k]?=w.heap[k]?:=by
 unfold Go.Sort.mapBlock
 simp only[Array.getElem?_modify]
 rw[if_neg (λe=>h e.symm)]
theorem Zr3(w:World):Go.Sort.grow w #[]=w:=by
 unfold Go.Sort.grow;rw[Array.append_empty]
section
variable {α:Type} [Inhabited α] (enc:α->Value)
set_option maxHeartbeats 1600000 in
theorem Zhp{P:Program}{g:FuncId}{zs ys:List α}{vf:Option Addr->Value}{a:Option Addr}{c:Nat}{m:Mem}
  (uw:ZdM P g) (hr:rowRd m a (zs.map enc)) (hl:ys.length=zs.length)
  (h0:zs=[]->∀w:World,Calls P g #[.slice a 0 c] w λe w'=>e=.returned (vf a)/\w'=w)
  (h1:zs≠[]->∀(b o:Nat)(w:World),a=some ⟨b,o,none⟩->zs.length<=c->Go.Sort.Holds enc w b o zs.toArray->b < w.heap.size->Calls P g #[.slice (some ⟨b,o,none⟩) zs.length c] w λe w'=>e=.returned (vf a)/\∃n os,w'=Go.Sort.grow (Go.Sort.putRow enc (Go.Sort.ahead w n) b o ys.toArray) os):
  CXY P g #[.slice a zs.length c] m (λk=>(Tok.mk (.slice a zs.length c) 1).blk=some k) [] [⟨.slice a zs.length c,1⟩]
   (λv m' css tvs=>v=vf a/\css=[]/\tvs=[.slice a zs.length c]/\rowRd m' a (ys.map enc)):=by
 refine⟨uw,λw hs _ _ ht gI hY=>?_⟩
 obtain⟨aJ,wd⟩:=ht _ (List.mem_singleton.2 rfl)
 by_cases hz:zs=[]
 ·subst hz
  obtain rfl:ys=[]:=List.eq_nil_of_length_eq_zero (by simpa using hl)
  refine(h0 rfl w).mono ?_
  rintro e w' ⟨rfl,rfl⟩
  refine⟨_,m,[],[.slice a 0 c],rfl,Mem.off_le _ _,hs,NewM.refl _ _,Upd.refl _ _,rfl,λi x cs hi=>by simp at hi,rfl,λi t tv hi hv=>?_,gI,rfl,rfl,rfl,.inl (by simp)⟩
  cases i with
  | zero=>
   simp at hi hv;subst hi hv
   exact⟨rfl,aJ,λb hb=>⟨.inl hb,by simp⟩⟩
  | succ i=>simp at hi
 ·have cG:(zs.map enc)≠[]:=by simp[hz]
  rcases hr with hr|⟨b,o,rfl,bT⟩
  ·exact absurd hr cG
  rcases aJ with h2|⟨b',o',n',c',cur,T,fr,hv,fX,hh,aZ,dI,cv⟩
  ·cases h2
  simp only[Value.slice.injEq,Option.some.injEq,Addr.mk.injEq,and_true]at hv
  obtain⟨⟨rfl,rfl⟩,rfl,rfl⟩:=hv
  simp only[Nat.mul_one]at aZ cv
  have nh:b < w.heap.size:=(Array.getElem?_eq_some_iff.1 hh).1
  have hH:Go.Sort.Holds enc w b o zs.toArray:=λj hj=>by
   have hj':j < zs.length:=by simpa using hj
   have e:zs.toArray[j]! = zs[j]:=by rw[getElem!_pos _ j hj];simp
   refine⟨?_,?_⟩
   ·have:=hs _ _ _ (bT j (enc zs[j]) (by simp[hj']))
    rw[this,e]
   ·have h2:=dI (o+j) (by omega)
    obtain⟨f1,f2⟩:=fr
    simp only[World.frozen?,hh,Bool.and_eq_false_iff,decide_eq_false_iff_not]
    simp only at h2
    omega
  refine(h1 hz b o w rfl (by omega) hH nh).mono ?_
  rintro e w' ⟨rfl,n,os,hw'⟩
  have ln:(Go.Sort.putRow enc (Go.Sort.ahead w n) b o ys.toArray).heap.size=w.heap.size:=by simp[Go.Sort.putRow,Go.Sort.mapBlock,Go.Sort.ahead]
  have dR:w'.heap[b]?=some (.cells (Go.Sort.putCells enc o ys.toArray cur) T fr):=by
   rw[hw',Go.Sort.heap_grow_old _ _ (by rw[ln];exact nh)];exact ZlZ _ b _ hh
  have fh:∀k,k < w.heap.size->k≠b->w'.heap[k]?=w.heap[k]?:=λk aC hk=>by
   rw[hw',Go.Sort.heap_grow_old _ _ (by rw[ln];exact aC)];exact ZjY _ b _ hk
  have qB:(Go.Sort.putCells enc o ys.toArray cur).size=cur.size:=by simp[Go.Sort.putCells]
  have bL:∀k:Nat,(Go.Sort.putCells enc o ys.toArray cur)[k]?=if o<=k/\k < o+zs.length then(ys.map enc)[k - o]? else cur[k]?:=λk=>by
   simp only[Go.Sort.putCells,Array.getElem?_mapIdx]
   by_cases hk:o<=k/\k < o+zs.length
   ·rw[if_pos hk,Array.getElem?_eq_getElem (by omega),Option.map_some,if_pos (by simp;omega)]
    have:k - o < ys.length:=by omega
    rw[getElem!_pos _ (k - o) (by simpa using this)]
    have e2:(ys.map enc)[k - o]?=some (enc (ys[k - o]'this)):=by
     rw[List.getElem?_map,zA3 this];rfl
    rw[e2];simp
   ·rw[if_neg hk]
    cases cur[k]? with
    | none=>rfl
    | some y=>rw[Option.map_some,if_neg (by simp;omega)]
  have qC:∀k e,m.k k=some e->k≠b:=λk e he eh=>by
   obtain⟨es,cl,h8,_⟩:=hs.k k e he
   rw[eh,hh]at h8;cases h8
  refine⟨_,m.upd b o (ys.map enc),[],[.slice (some ⟨b,o,none⟩) zs.length c],rfl,⟨λb1 o1 v hv=>?_,λb1 e he=>Mem.off_le m _ |>.k b1 e he⟩,⟨λb1 o1 v hv=>?_,λb1 e he=>(hs.k b1 e he).same (fh b1 (hs.k b1 e he).lt (qC b1 e he))⟩,⟨λb1 o1 u hu=>?_,λ_ _ he=>.inl he⟩,⟨by rw[hw'];rfl,by rw[hw'];rfl,by rw[hw'];rfl,?_,λk hk hn=>?_,λk aC hk=>?_⟩,rfl,λi x cs hi=>by simp at hi,rfl,λi t tv hi hv=>?_,?_,rfl,rfl,rfl,.inr ⟨b,o,rfl,λj v hv=>?_⟩⟩
  ·have dm:b1≠b:=λe=>by
    subst e
    rw[Mem.off_free (by rfl)]at hv;cases hv
   rw[Mem.upd_other _ dm];exact(Mem.off_le _ _).c _ _ _ hv
  ·by_cases dm:b1=b
   ·subst dm
    simp only[World.cell?,dR,Option.isSome_none,Bool.false_eq_true,if_false]
    rw[bL]
    simp only[Mem.upd,true_and]at hv
    have aE:(ys.map enc).length=zs.length:=by simp[hl]
    rw[aE]at hv
    split at hv
    ·rename_i ef
     rw[if_pos ef];exact hv
    ·rename_i ef
     rw[if_neg ef]
     have:=hs _ _ _ hv
     simpa only[World.cell?,hh,Option.isSome_none,Bool.false_eq_true,if_false]using this
   ·rw[Mem.upd_other _ dm]at hv
    rw[Zbq (fh b1 (hs.lt hv) dm)];exact hs _ _ _ hv
  ·by_cases dm:b1=b
   ·subst dm;exact .inr (.inl rfl)
   ·rw[Mem.upd_other _ dm]at hu;exact .inl hu
  ·rw[hw']
   show w.heap.size<=(Go.Sort.grow _ os).heap.size
   have:(Go.Sort.grow (Go.Sort.putRow enc (Go.Sort.ahead w n) b o ys.toArray) os).heap.size=(Go.Sort.putRow enc (Go.Sort.ahead w n) b o ys.toArray).heap.size+os.size:=by simp[Go.Sort.grow]
   rw[this,ln];omega
  ·refine fh k hk λe=>hn (.inr ?_)
   rw[e];rfl
  ·by_cases eh:k=b
   ·subst eh
    intro c1 T1 fr1 qD i hi
    rw[dR]at qD
    simp only[Option.some.injEq,Obj.cells.injEq]at qD
    obtain⟨rfl,rfl,rfl⟩:=qD
    exact dI i (by rw[qB]at hi;exact hi)
   ·exact hk.of_eq (fh k aC eh)
  ·cases i with
   | zero=>
    simp at hi hv;subst hi hv
    refine⟨rfl,.inr ⟨b,o,_,_,_,T,fr,rfl,fX,dR,by rw[qB,Nat.mul_one];exact aZ,λi hi=>dI i (by rw[qB]at hi;exact hi),λk gY iv=>?_⟩,λb1 dm=>⟨.inl dm,by simp⟩⟩
    simp only[Nat.mul_one]at gY iv
    simp only[Mem.upd,true_and]
    rw[if_neg (by simp;omega)]
    exact cv k gY iv
   | succ i=>simp at hi
  ·intro i j t t' b1 hi hj _ _
   have hi':=(zA0 hi).1
   have hj':=(zA0 hj).1
   simp at hi' hj'
   omega
  ·have oV:=(zA0 hv).1
   simp only[List.length_map]at oV
   simp only[Mem.upd,true_and]
   rw[if_pos ⟨by omega,by rw[List.length_map];omega⟩,Nat.add_sub_cancel_left];exact hv
end
end Go.Rx
namespace Go.Rx
open Go Go.Eng
theorem Za8(n:Nat)(f:Nat->List Pl):Zcs (n+1) f=Zcs n f++f n:=by simp[Zcs,List.range_succ,List.flatMap_append]
theorem Zor{i n:Nat}(h:i<=n)(f:Nat->List Pl):(Zcs i f).length<=(Zcs n f).length:=by
 induction n with
 | zero=>
  obtain rfl:i=0:=by omega
  exact Nat.le_refl _
 | succ n ih=>
  by_cases e:i=n+1
  ·rw[e];exact Nat.le_refl _
  ·have:=ih (by omega)
   rw[Za8,zA1];omega
theorem Zc7(n:Nat)(f:Nat->Pl):(Zcs n λi=>[f i]).length=n:=by
 induction n with
 | zero=>rfl
 | succ n ih=>rw[Za8,zA1,ih];rfl
theorem ZkP{α:Type}(l:List α)(F:Nat->List Pl)(g:Nat->α->List Pl)(w:α->Int)(hF:∀i x,l[i]?=some x->F i=g i x)(hw:∀i x,x∈l->((g i x).length:Int)<=w x):∀k,k<=l.length->((Zcs k F).length:Int)<=ZaI ((l.take k).map w):=by
 intro k
 induction k with
 | zero=>intro _;simp[Zcs,ZaI]
 | succ k ih=>
  intro hk
  have:=ih (by omega)
  have hx:l[k]?=some l[k]:=zA3 (by omega)
  have h2:=hw k l[k] (List.getElem_mem _)
  rw[Za8,zA1,Ze2 w hx,hF k _ hx]
  push_cast
  omega
def Hf(i k:Nat)(r:Ru)(m:Nat):List Pl:=match r.acts[m]? with
 | some a=>plA i k m a
 | none=>[]
def Gf(i:Nat)(x:Sta)(k:Nat):List Pl:=match x.rules[k]? with
 | some r=>plR i k r
 | none=>[]
def Ff(s:Sc)(i:Nat):List Pl:=match s.states[i]? with
 | some x=>plS i x
 | none=>[]
def Pf(i k m n:Nat):List Pl:=[⟨-1,i,k,m,n⟩]
def Vf(i:Nat):List Pl:=[⟨i,-1,-1,-1,-1⟩]
theorem ZjZ(i k m:Nat)(a:Ac):plA i k m a=⟨-1,i,k,m,-1⟩::Zcs a.parts.length (Pf i k m):=rfl
theorem Zj0(i k:Nat)(r:Ru):plR i k r=⟨-1,i,k,-1,-1⟩::Zcs r.acts.length (Hf i k r):=rfl
theorem Zj1(i:Nat)(x:Sta):plS i x=⟨-1,i,-1,-1,-1⟩::Zcs x.rules.length (Gf i x):=rfl
theorem ZdA{s:Sc}(h:s.light=true):s.places=top::(Zcs s.vars.length Vf++Zcs s.states.length (Ff s)):=by unfold Sc.places;rw[if_pos h];rfl
theorem Zgx(s:Sc):s.places.length<=20001:=by
 cases h:s.light with
 | false=>unfold Sc.places;rw[h];simp
 | true=>
  have hw:s.weight<=20000:=by unfold Sc.light at h;exact zA6 h
  rw[ZdA h,List.length_cons,zA1]
  have h1:(Zcs s.vars.length Vf).length=s.vars.length:=Zc7 _ _
  have hA:∀i k m (a:Ac),((plA i k m a).length:Int)<=wA a:=λi k m a=>by
   rw[ZjZ,List.length_cons,show(Zcs a.parts.length (Pf i k m)).length=a.parts.length from Zc7 _ _]
   have:=(ZgF a.e).1
   have:=ZfQ (λp:Pt=>nE p.e) (λp=>(ZgF p.e).1) a.parts
   unfold wA;push_cast;omega
  have hR:∀i k (r:Ru),((plR i k r).length:Int)<=wR r:=λi k r=>by
   rw[Zj0,List.length_cons]
   have:=ZkP r.acts (Hf i k r) (plA i k) wA (λm a h=>by unfold Hf;rw[h]) (λj x _=>hA i k j x) r.acts.length (Nat.le_refl _)
   rw[List.take_length]at this
   have h1:=(Zjf r.t).1
   have h2:0<=Zhm r.t.size 20000:=by unfold Zhm;split <;> omega
   have h3:((Zcs r.acts.length (Hf i k r)).length:Int)<=ZaI (r.acts.map wA):=this
   unfold wR;push_cast;split <;> omega
  have hS:∀i (x:Sta),((plS i x).length:Int)<=1+wS x:=λi x=>by
   rw[Zj1,List.length_cons]
   have:=ZkP x.rules (Gf i x) (plR i) wR (λm a h=>by unfold Gf;rw[h]) (λj x _=>hR i j x) x.rules.length (Nat.le_refl _)
   rw[List.take_length]at this
   have h3:((Zcs x.rules.length (Gf i x)).length:Int)<=ZaI (x.rules.map wR):=this
   unfold wS;push_cast;omega
  have:=ZkP s.states (Ff s) plS (λx=>1+wS x) (λm a h=>by unfold Ff;rw[h]) (λj x _=>hS j x) s.states.length (Nat.le_refl _)
  rw[List.take_length]at this
  have h3:((Zcs s.states.length (Ff s)).length:Int)<=ZaI (s.states.map λx=>1+wS x):=this
  have h4:∀l:List Sta,ZaI (l.map λx=>1+wS x)=l.length+ZaI (l.map wS):=λl=>by
   induction l with
   | nil=>rfl
   | cons x l ih=>simp only[List.map_cons,ZaI,ih,List.length_cons];push_cast;omega
  rw[h4]at h3
  unfold Sc.weight at hw
  omega
theorem Za9{n:Nat}{f:Nat->List Pl}{p:Pl}(h:p∈Zcs n f):∃i,i < n/\p∈f i:=by
 unfold Zcs at h
 obtain⟨i,hi,hp⟩:=List.mem_flatMap.1 h
 exact⟨i,List.mem_range.1 hi,hp⟩
def Zx8(s:Sc)(p:Pl):Prop:=(∃i:Nat,p.v=i/\∃v,s.vars[i]?=some v)\/(p.v < 0/\(p.s < 0\/∃i:Nat,p.s=i/\∃x,s.states[i]?=some x/\(p.r < 0\/∃k:Nat,p.r=k/\∃r,x.rules[k]?=some r/\(p.a < 0\/∃j:Nat,p.a=j/\∃a,r.acts[j]?=some a/\(p.p < 0\/∃n:Nat,p.p=n/\∃q,a.parts[n]?=some q)))))
theorem ZvJ:(-1:Int) < 0:=by decide
theorem Zs0{α:Type}{l:List α}{n:Nat}(h:n < l.length):∃c,l[n]?=some c:=⟨_,zA3 h⟩
theorem Zl0(s:Sc):∀p∈s.places,Zx8 s p:=by
 intro p hp
 cases h:s.light with
 | false=>unfold Sc.places at hp;rw[h]at hp;simp at hp
 | true=>
  rw[ZdA h]at hp
  rcases List.mem_cons.1 hp with rfl|hp
  ·exact .inr ⟨by decide,.inl (by decide)⟩
  rcases List.mem_append.1 hp with hp|hp
  ·obtain⟨i,hi,hp⟩:=Za9 hp
   obtain rfl:p=⟨i,-1,-1,-1,-1⟩:=by simpa[Vf]using hp
   exact .inl ⟨i,rfl,Zs0 hi⟩
  ·obtain⟨i,hi,hp⟩:=Za9 hp
   obtain⟨x,hx⟩:=Zs0 hi
   have hp:p∈plS i x:=by unfold Ff at hp;rw[hx]at hp;exact hp
   rw[Zj1]at hp
   rcases List.mem_cons.1 hp with rfl|hp
   ·exact .inr ⟨ZvJ,.inr ⟨i,rfl,x,hx,.inl (ZvJ)⟩⟩
   obtain⟨k,hk,hp⟩:=Za9 hp
   obtain⟨r,hr⟩:=Zs0 hk
   have hp:p∈plR i k r:=by unfold Gf at hp;rw[hr]at hp;exact hp
   rw[Zj0]at hp
   rcases List.mem_cons.1 hp with rfl|hp
   ·exact .inr ⟨ZvJ,.inr ⟨i,rfl,x,hx,.inr ⟨k,rfl,r,hr,.inl (ZvJ)⟩⟩⟩
   obtain⟨j,hj,hp⟩:=Za9 hp
   obtain⟨a,ha⟩:=Zs0 hj
   have hp:p∈plA i k j a:=by unfold Hf at hp;rw[ha]at hp;exact hp
   rw[ZjZ]at hp
   rcases List.mem_cons.1 hp with rfl|hp
   ·exact .inr ⟨ZvJ,.inr ⟨i,rfl,x,hx,.inr ⟨k,rfl,r,hr,.inr ⟨j,rfl,a,ha,.inl (ZvJ)⟩⟩⟩⟩
   obtain⟨n,hn,hp⟩:=Za9 hp
   obtain rfl:p=⟨-1,i,k,j,n⟩:=by simpa[Pf]using hp
   exact .inr ⟨ZvJ,.inr ⟨i,rfl,x,hx,.inr ⟨k,rfl,r,hr,.inr ⟨j,rfl,a,ha,.inr ⟨n,rfl,Zs0 hn⟩⟩⟩⟩⟩
end Go.Rx
namespace Go.Rx
open Go Go.Eng Go.RowKit
def T.good(t:T):Bool:=t.nodes.all T.right
def isG(t:T):Bool:=t.k == 6
theorem Zjg(p:T->Bool):∀l:List T,(Zaz l).all p=l.all λt=>t.nodes.all p
 | []=>rfl
 | t::l=>by simp only[Zaz,List.all_append,List.all_cons,Zjg p l]
theorem Zl1(t:T):t.good=(t.right&&t.subs.all T.good):=by
 unfold T.good;rw[Zb5,List.all_cons,Zjg]
def grL(l:List T):Nat:=(Zaz l).countP isG
def szL(l:List T):Nat:=(Zaz l).length
def T.gr(t:T):Nat:=t.nodes.countP isG
theorem Zax(l r:List T):szL (l++r)=szL l+szL r:=by unfold szL;rw[Zcr,zA1]
theorem Za5(l r:List T):grL (l++r)=grL l+grL r:=by unfold grL;rw[Zcr,List.countP_append]
theorem ZaU(t:T):szL [t]=t.nodes.length:=by simp[szL,Zaz]
theorem Zcu(t:T):grL [t]=t.gr:=by simp[grL,Zaz,T.gr]
theorem ZbU(t:T):ZiJ [t]=t.pos:=by simp[ZiJ]
theorem ZdW(t:T)(l:List T):szL (t::l)=t.nodes.length+szL l:=by simp[szL,Zaz]
theorem Zos(t:T)(l:List T):grL (t::l)=t.gr+grL l:=by simp[grL,Zaz,T.gr,List.countP_append]
theorem Zh4(t:T):t.nodes.length=1+szL t.subs:=by rw[Zb5,List.length_cons,szL];omega
theorem Zs1(t:T):t.gr=(if isG t=true then 1 else 0)+grL t.subs:=by
 unfold T.gr;rw[Zb5,List.countP_cons,grL];omega
theorem Zl2(l:List T):l.length<=szL l:=by
 induction l with
 | nil=>simp
 | cons t l ih=>rw[ZdW,Zh4,List.length_cons];omega
def ZaL(k:Int)(t:T):List T:=if t.k=k then t.subs else if k=3/\t.k=1 then[]else[t]
def Zeu(k:Int)(a:Option Addr)(c:Nat):List T->T
 | []=>T1
 | [x]=>x
 | x::y::l=>ZbC k 0 0 a c (x::y::l)
theorem Zh5{t:T}{k:Int}(h:t.has k=false):∀x∈t.subs,x.k≠k:=by
 intro x hx e
 unfold T.has at h
 have:=List.any_eq_false.1 h x hx
 simp[e]at this
theorem Zr4{t:T}{k:Int}(h:∀x∈t.subs,x.k≠k):t.has k=false:=by
 unfold T.has
 rw[List.any_eq_false]
 intro x hx
 have:=h x hx
 simpa using this
theorem Zh6{k:Int}{t:T}(hk:k=3\/k=4)(hg:t.good=true)(hp:t.pos<=10000):(∀x∈ZaL k t,x.good=true/\x.k≠k/\(k=3->x.k≠1))/\szL (ZaL k t)<=t.nodes.length/\grL (ZaL k t)<=t.gr/\ZiJ (ZaL k t)<=t.pos:=by
 have hg':=hg
 rw[Zl1,zA7,List.all_eq_true]at hg'
 unfold ZaL
 split
 ·rename_i cO
  refine⟨λx hx=>⟨hg'.2 x hx,?_⟩,by rw[Zh4];omega,by rw[Zs1];omega,?_⟩
  ·have hr:=hg'.1
   unfold T.right at hr
   rw[zA7]at hr
   have hr:=hr.2
   rcases hk with rfl|rfl
   ·simp only[cO]at hr
    simp at hr
    exact⟨Zh5 hr.2.2 x hx,λ_=>Zh5 hr.2.1 x hx⟩
   ·simp only[cO]at hr
    simp at hr
    exact⟨Zh5 hr.2 x hx,λh=>by omega⟩
  ·rw[ZpO]at hp ⊢
   have h5:¬t.k=5:=by omega
   have h2:¬t.k=2:=by omega
   unfold ZuV at hp ⊢
   rw[if_neg h5,if_neg h2,Int.zero_add]at hp ⊢
   unfold Zhm at hp ⊢
   split at hp
   ·omega
   ·split <;> omega
 ·rename_i cO
  split
  ·refine⟨λx hx=>by simp at hx,by simp[szL,Zaz],by simp[grL,Zaz],?_⟩
   simp only[ZiJ];exact(ZjX t).1
  ·rename_i ux
   refine⟨λx hx=>?_,by rw[ZaU];exact Nat.le_refl _,by rw[Zcu];exact Nat.le_refl _,by rw[ZbU];exact Int.le_refl _⟩
   simp at hx;subst hx
   exact⟨hg,cO,λh=>λh1=>ux ⟨h,h1⟩⟩
theorem Zl3{k:Int}(hk:k=3\/k=4)(a:Option Addr)(c:Nat):∀{l:List T},(∀x∈l,x.good=true/\x.k≠k/\(k=3->x.k≠1))->(Zeu k a c l).good=true/\(Zeu k a c l).nodes.length<=1+szL l/\(Zeu k a c l).gr<=grL l/\(Zeu k a c l).pos<=ZiJ l
 | [],_=>⟨show T1.good=true by decide,show T1.nodes.length<=1 by decide,show T1.gr<=0 by decide,show T1.pos<=0 by decide⟩
 | [x],h=>by
  rw[ZaU,Zcu,ZbU]
  exact⟨(h x (by simp)).1,by show x.nodes.length<=_;omega,Nat.le_refl _,Int.le_refl _⟩
 | x::y::l,h=>by
  show(ZbC k 0 0 a c (x::y::l)).good=true/\(ZbC k 0 0 a c (x::y::l)).nodes.length<=_/\(ZbC k 0 0 a c (x::y::l)).gr<=_/\(ZbC k 0 0 a c (x::y::l)).pos<=_
  have hs:(ZbC k 0 0 a c (x::y::l)).subs=x::y::l:=rfl
  have cO:(ZbC k 0 0 a c (x::y::l)).k=k:=rfl
  have hz:(ZbC k 0 0 a c (x::y::l)).setZ=true:=rfl
  have sB:(ZbC k 0 0 a c (x::y::l)).mn=0:=rfl
  have oE:(ZbC k 0 0 a c (x::y::l)).mx=0:=rfl
  refine⟨?_,by rw[Zh4,hs];exact Nat.le_refl _,?_,?_⟩
  ·rw[Zl1,zA7,List.all_eq_true,hs]
   refine⟨?_,λz hz=>(h z hz).1⟩
   have h1:k=3->(ZbC k 0 0 a c (x::y::l)).has 1=false:=λe=>Zr4 λz hz=>(h z hz).2.2 e
   have h2:(ZbC k 0 0 a c (x::y::l)).has k=false:=Zr4 λz hz=>(h z hz).2.1
   unfold T.right
   rw[cO,hz,sB,oE,hs]
   rcases hk with rfl|rfl
   ·simp[h1 rfl,h2]
   ·simp[h2]
  ·rw[Zs1,hs,isG,cO]
   rcases hk with rfl|rfl <;> simp
  ·rw[ZpO,cO,sB,oE,hs]
   unfold ZuV
   rw[if_neg (by omega),if_neg (by omega),Int.zero_add]
   exact(Zjb _ _).1
structure J (i:Nat)(ts:List T)(u g:Nat):Prop where
 good:∀t∈ts,t.good=true
 sz:szL ts<=i
 pos:ZiJ ts<=(i*u:Nat)
 u1:1<=u
 u16:u<=16
 gr:grL ts<=g
 g9:g<=9
theorem J.zero:J 0 [] 1 0:=⟨by simp,by simp[szL,Zaz],by simp[ZiJ],by omega,by omega,by simp[grL,Zaz],by omega⟩
theorem J.skip{i ts u g}(h:J i ts u g):J (i+1) ts u g:=
 ⟨h.good,by have:=h.sz;omega,by have:=h.pos;have e:(i+1)*u=i*u+u:=Nat.succ_mul i u;rw[e];omega,h.u1,h.u16,h.gr,h.g9⟩
theorem J.push{i ts u g}(h:J i ts u g){t:T}(hg:t.good=true)(hs:t.nodes.length=1)(hp:t.pos<=1)(hr:t.gr=0):J (i+1) (ts++[t]) u g:=by
 refine⟨λx hx=>?_,?_,?_,h.u1,h.u16,?_,h.g9⟩
 ·rcases List.mem_append.1 hx with hx|hx
  ·exact h.good x hx
  ·simp at hx;subst hx;exact hg
 ·rw[Zax,ZaU,hs];have:=h.sz;omega
 ·rw[ZaY,ZbU];have:=h.pos;have:=h.u1;have e:(i+1)*u=i*u+u:=Nat.succ_mul i u;rw[e];omega
 ·rw[Za5,Zcu,hr];have:=h.gr;omega
theorem J.pos400{i ts u g}(h:J i ts u g)(hi:i<=25):ZiJ ts<=400:=by
 have h1:=h.pos
 have:i*u<=25*16:=Nat.mul_le_mul hi h.u16
 omega
theorem J.join{i ts u g}{x y:T}(h:J i (ts++[x,y]) u g)(hi:i<=25){k:Int}(hk:k=3\/k=4)(a:Option Addr)(c:Nat):J (i+1) (ts++[Zeu k a c (ZaL k x++ZaL k y)]) u g:=by
 have h4:=h.pos400 hi
 have hz:=h.sz
 have hp:=h.pos
 have j0:=h.gr
 rw[show ts++[x,y]=ts++([x]++[y]) from rfl]at h4 hz hp j0
 rw[ZaY,ZaY,ZbU,ZbU]at h4 hp
 rw[Zax,Zax,ZaU,ZaU]at hz
 rw[Za5,Za5,Zcu,Zcu]at j0
 have n1:=Zhn ts
 have n2:=(ZjX x).1
 have n3:=(ZjX y).1
 obtain⟨a1,a2,a3,a4⟩:=Zh6 hk (h.good x (by simp)) (by omega)
 obtain⟨b1,b2,b3,b4⟩:=Zh6 hk (h.good y (by simp)) (by omega)
 obtain⟨c1,c2,c3,c4⟩:=Zl3 hk a c (l:=ZaL k x++ZaL k y) (λz hz=>by
  rcases List.mem_append.1 hz with hz|hz
  ·exact a1 z hz
  ·exact b1 z hz)
 rw[Zax]at c2
 rw[Za5]at c3
 rw[ZaY]at c4
 refine⟨λz hz=>?_,?_,?_,h.u1,h.u16,?_,h.g9⟩
 ·rcases List.mem_append.1 hz with hz|hz
  ·exact h.good z (by simp[hz])
  ·simp at hz;subst hz;exact c1
 ·rw[Zax,ZaU];omega
 ·rw[ZaY,ZbU];have e:(i+1)*u=i*u+u:=Nat.succ_mul i u;rw[e];omega
 ·rw[Za5,Zcu];omega
theorem J.group{i ts u g}{x:T}(h:J i (ts++[x]) u g)(hg:g < 9)(a:Option Addr)(c:Nat):J (i+1) (ts++[ZbC 6 0 0 a c [x]]) u (g+1):=by
 have hz:=h.sz
 have hp:=h.pos
 have j0:=h.gr
 rw[ZaY,ZbU]at hp
 rw[Zax,ZaU]at hz
 rw[Za5,Zcu]at j0
 have hs:(ZbC 6 0 0 a c [x]).subs=[x]:=rfl
 refine⟨λz hz=>?_,?_,?_,h.u1,h.u16,?_,by omega⟩
 ·rcases List.mem_append.1 hz with hz|hz
  ·exact h.good z (by simp[hz])
  ·simp at hz;subst hz
   rw[Zl1,zA7,List.all_eq_true]
   refine⟨rfl,λz hz=>?_⟩
   rw[hs]at hz;simp at hz;subst hz
   exact h.good z (by simp)
 ·rw[Zax,ZaU,Zh4,hs,ZaU];omega
 ·rw[ZaY,ZbU,ZpO,hs,ZbU]
  have:ZuV (ZbC 6 0 0 a c [x]).k (ZbC 6 0 0 a c [x]).mn (ZbC 6 0 0 a c [x]).mx ((if(ZbC 6 0 0 a c [x]).k=2 then 1 else 0)+x.pos)<=x.pos:=by
   show Zhm (if(6:Int)=5 then _ else(if(6:Int)=2 then 1 else 0)+x.pos) 10001<=_
   rw[if_neg (by omega),if_neg (by omega),Int.zero_add]
   exact(Zjb _ _).1
  have e:(i+1)*u=i*u+u:=Nat.succ_mul i u
  rw[e];omega
 ·rw[Za5,Zcu,Zs1,hs,Zcu]
  split <;> omega
theorem J.rep{i ts u g}{x:T}(h:J i (ts++[x]) u g)(hx:x.k≠1){mn mx:Int}(hb:ZpN mn mx=true){w:Nat}(hw:ZvG mn mx<=w)(h1:1<=w)(hu:u*w<=16)(a:Option Addr)(c:Nat):J (i+1) (ts++[ZbC 5 mn mx a c [x]]) (u*w) g:=by
 have hz:=h.sz
 have hp:=h.pos
 have j0:=h.gr
 rw[ZaY,ZbU]at hp
 rw[Zax,ZaU]at hz
 rw[Za5,Zcu]at j0
 have hs:(ZbC 5 mn mx a c [x]).subs=[x]:=rfl
 have n1:=Zhn ts
 have n2:=(ZjX x).1
 refine⟨λz hz=>?_,?_,?_,?_,hu,?_,h.g9⟩
 ·rcases List.mem_append.1 hz with hz|hz
  ·exact h.good z (by simp[hz])
  ·simp at hz;subst hz
   rw[Zl1,zA7,List.all_eq_true]
   refine⟨?_,λz hz=>?_⟩
   ·have hh:(ZbC 5 mn mx a c [x]).has 1=false:=Zr4 λz hz=>by rw[hs]at hz;simp at hz;subst hz;exact hx
    unfold T.right
    rw[hh,hs,show(ZbC 5 mn mx a c [x]).k=5 from rfl,show(ZbC 5 mn mx a c [x]).setZ=true from rfl,show(ZbC 5 mn mx a c [x]).mn=mn from rfl,show(ZbC 5 mn mx a c [x]).mx=mx from rfl,hb]
    simp
   ·rw[hs]at hz;simp at hz;subst hz
    exact h.good z (by simp)
 ·rw[Zax,ZaU,Zh4,hs,ZaU];omega
 ·rw[ZaY,ZbU,ZpO,hs,ZbU]
  have key:ZuV (ZbC 5 mn mx a c [x]).k (ZbC 5 mn mx a c [x]).mn (ZbC 5 mn mx a c [x]).mx ((if(ZbC 5 mn mx a c [x]).k=2 then 1 else 0)+x.pos)<=x.pos*w:=by
   show Zhm (if(5:Int)=5 then((if(5:Int)=2 then 1 else 0)+x.pos)*ZvG mn mx else _) 10001<=_
   rw[if_pos rfl,if_neg (by omega),Int.zero_add]
   exact Int.le_trans (Zjb _ _).1 (Int.mul_le_mul_of_nonneg_left hw n2)
  have k2:ZiJ ts<=ZiJ ts*w:=by
   have:=Int.mul_le_mul_of_nonneg_left (show(1:Int)<=w by omega) n1
   rw[Int.mul_one]at this;exact this
  have k3:(ZiJ ts+x.pos)*w<=((i*u:Nat):Int)*w:=Int.mul_le_mul_of_nonneg_right hp (by omega)
  rw[Int.add_mul]at k3
  have e:(i+1)*(u*w)=i*u*w+u*w:=by rw[Nat.succ_mul,Nat.mul_assoc]
  have e2:(((i*u:Nat):Int)*w)=((i*u*w:Nat):Int):=by push_cast;rfl
  rw[e2]at k3
  rw[e]
  generalize i*u*w=A at *
  generalize u*w=B at *
  generalize ZiJ ts*(w:Int)=D at *
  generalize x.pos*(w:Int)=F at *
  omega
 ·have:=Nat.mul_le_mul h.u1 h1;omega
 ·rw[Za5,Zcu,Zs1,hs,Zcu,isG,show(ZbC 5 mn mx a c [x]).k=5 from rfl]
  simp;omega
structure F (t:T)(l:List T):Prop where
 good:t.good=true
 goods:∀x∈l,x.good=true
 sz:t.nodes.length+szL l+l.length<=60
 pos:t.pos+ZiJ l<=400
 gr:t.gr+grL l<=9
theorem F.start{i u g}{t:T}{l:List T}(h:J i (t::l) u g)(hi:i<=25):F t l:=by
 have h1:=h.sz
 have h2:=h.pos400 hi
 have h3:=h.gr
 rw[ZdW]at h1
 rw[Zos]at h3
 have:=Zl2 l
 have:=h.g9
 exact⟨h.good t (by simp),λx hx=>h.good x (by simp[hx]),by omega,by simpa[ZiJ]using h2,by omega⟩
theorem F.step{t x:T}{l:List T}(h:F t (x::l))(a:Option Addr)(c:Nat):F (Zeu 4 a c (ZaL 4 t++ZaL 4 x)) l:=by
 have h1:=h.sz
 have h2:=h.pos
 have h3:=h.gr
 rw[ZdW,List.length_cons]at h1
 rw[Zos]at h3
 simp only[ZiJ]at h2
 have n1:=Zhn l
 have n2:=(ZjX x).1
 have n3:=(ZjX t).1
 obtain⟨a1,a2,a3,a4⟩:=Zh6 (.inr rfl) h.good (by omega) (t:=t)
 obtain⟨b1,b2,b3,b4⟩:=Zh6 (.inr rfl) (h.goods x (by simp)) (by omega)
 obtain⟨c1,c2,c3,c4⟩:=Zl3 (.inr rfl) a c (l:=ZaL 4 t++ZaL 4 x) (λz hz=>by
  rcases List.mem_append.1 hz with hz|hz
  ·exact a1 z hz
  ·exact b1 z hz)
 rw[Zax]at c2
 rw[Za5]at c3
 rw[ZaY]at c4
 exact⟨c1,λz hz=>h.goods z (by simp[hz]),by omega,by omega,by omega⟩
theorem F.done{t:T}{l:List T}(h:F t l):t.check=0:=by
 have h1:=h.sz
 have h2:=h.pos
 have h3:=h.gr
 have n1:=Zhn l
 have hl:t.light=true:=by unfold T.light;exact decide_eq_true (by omega)
 have hc:t.clean=true:=by unfold T.clean;rw[hl];exact h.good
 have hg:((t.nodes.countP λx=>x.k == 6:Nat))=t.gr:=rfl
 unfold T.check
 rw[hc]
 unfold T.size T.positions T.groups
 rw[hl,hg]
 simp only[if_true,Bool.true_eq_false,if_false]
 rw[if_neg (by omega),if_neg (by omega),if_neg (by omega)]
theorem Zot(n:Nat):(Zh1 (ZcL n)).good=true/\(Zh1 (ZcL n)).nodes.length=1/\(Zh1 (ZcL n)).pos<=1/\(Zh1 (ZcL n)).gr=0:=by
 have h:n % 12=0\/n % 12=1\/n % 12=2\/n % 12=3\/n % 12=4\/n % 12=5\/n % 12=6\/n % 12=7\/n % 12=8\/n % 12=9\/n % 12=10\/n % 12=11:=by omega
 unfold ZcL
 rcases h with e|e|e|e|e|e|e|e|e|e|e|e <;> rw[e] <;> exact⟨by decide,by decide,by decide,by decide⟩
theorem ZtN:T1.good=true/\T1.nodes.length=1/\T1.pos<=1/\T1.gr=0:=⟨by decide,by decide,by decide,by decide⟩
theorem ZdB{k:Int}{t:T}:(ZaL k t).length<=t.nodes.length:=by
 unfold ZaL
 have:=ZtH t
 have:=Zh4 t
 split
 ·omega
 ·split <;> simp <;> omega
end Go.Rx
namespace Go.Rx
open Go Go.Eng
set_option maxRecDepth 100000
def Zhw:List ByteArray:=[⟨#[120]⟩,⟨#[121]⟩,⟨#[122,95,49]⟩,⟨#[97,98,99,100,101,102,103,104,105,106,107,108,109,110,111,112]⟩]
def Zec:List ByteArray:=[⟨#[115]⟩,⟨#[116]⟩]
def Zs8:List ByteArray:=[⟨#[97]⟩,⟨#[98]⟩,⟨#[99]⟩,⟨#[100]⟩]
def okN(c:Int)(x:E):Prop:=x.right=true/\(x.k=9->x.s∈Zhw)/\(x.k=10->x.g<=c)
structure MkE (c:Int)(n:Nat)(e:E):Prop where
 all:∀x∈e.nodes,okN c x
 len:e.nodes.length<=n
def ZwF(x:Nat):E:=.node 8 x .empty 0 none 0 []
def ZuW(s:ByteArray):E:=.node 9 0 s 0 none 0 []
def Zxc(g:Int):E:=.node 10 0 .empty g none 0 []
def ZuX(a:Option Addr)(c:Nat)(x:E):E:=.node 1 0 .empty 0 a c [x]
def opE(k:Int)(a:Option Addr)(c:Nat)(x y:E):E:=.node k 0 .empty 0 a c [x,y]
theorem MkE.mono{c n k e}(h:MkE c n e)(hk:n<=k):MkE c k e:=⟨h.all,Nat.le_trans h.len hk⟩
theorem ZkQ{c:Int}{k x s g a d}(h:okN c (.node k x s g a d [])):MkE c 1 (.node k x s g a d []):=by
 refine⟨λy hy=>?_,by simp[E.nodes,Zak]⟩
 simp only[E.nodes,Zak,List.mem_singleton]at hy
 rw[hy];exact h
theorem ZpV:Zvk 0 0=true:=by decide +kernel
theorem Zq5{c:Int}{x:Nat}(h:Zh2 x=true):MkE c 1 (ZwF x):=by
 refine ZkQ ⟨?_,λe=>absurd (show(8:Int)=9 from e) (by decide),λe=>absurd (show(8:Int)=10 from e) (by decide)⟩
 simp[E.right,E.k,E.s,E.x,E.g,E.subs,ZlW,h]
theorem Zou:∀s∈Zhw,Zfe s=true:=by decide +kernel
theorem Zq6:∀s∈Zec,Zfe s=true:=by decide +kernel
theorem Zq7:∀s∈Zs8,Zfe s=true:=by decide +kernel
theorem Zq8{c:Int}{s:ByteArray}(h:s∈Zhw):MkE c 1 (ZuW s):=by
 refine ZkQ ⟨?_,λ_=>h,λe=>absurd (show(9:Int)=10 from e) (by decide)⟩
 simp[E.right,E.k,E.s,E.x,E.g,E.subs,ZlW,Zou s h,ZpV]
theorem ZtO{c g:Int}(h:0<=g/\g<=9)(hc:g<=c):MkE c 1 (Zxc g):=by
 refine ZkQ ⟨?_,λe=>absurd (show(10:Int)=9 from e) (by decide),λ_=>hc⟩
 simp[E.right,E.k,E.s,E.x,E.g,E.subs,ZlW,ZpV,h.1,h.2]
theorem ZtP{c:Int}{n:Nat}{a d}{x:E}(h:MkE c n x)(hk:x.k≠8):MkE c (n+1) (ZuX a d x):=by
 refine⟨λy hy=>?_,by have:=h.len;simp[ZuX,E.nodes,Zak];omega⟩
 simp only[ZuX,E.nodes,Zak,List.append_nil,List.mem_cons]at hy
 rcases hy with rfl|hy
 ·refine⟨?_,λe=>absurd (show(1:Int)=9 from e) (by decide),λe=>absurd (show(1:Int)=10 from e) (by decide)⟩
  have h1:E.right (.node 1 0 .empty 0 a d [x])=!ZpT [x]:=by simp[E.right,E.k,E.s,E.x,E.g,E.subs,ZlW,ZpV]
  rw[h1]
  show(!(x.k == 8))=true
  simpa using hk
 ·exact h.all y hy
theorem ZtQ{c:Int}{n p:Nat}{a d}{k:Int}{x y:E}(hk:2<=k/\k<=7)(h:MkE c n x)(h2:MkE c p y):MkE c (n+p+1) (opE k a d x y):=by
 refine⟨λz hz=>?_,by have:=h.len;have:=h2.len;simp[opE,E.nodes,Zak];omega⟩
 simp only[opE,E.nodes,Zak,List.append_nil,List.mem_cons,List.mem_append]at hz
 rcases hz with rfl|hz|hz
 ·refine⟨?_,λe=>?_,λe=>?_⟩
  ·have h0:¬k=0:=by omega
   have h1:¬k=1:=by omega
   have h9:¬k=9:=by omega
   have h8:¬k=8:=by omega
   have fD:¬k=10:=by omega
   have hs:ZlW k=2:=by unfold ZlW;rw[if_neg h1,if_pos hk]
   have bM:k<=10:=by omega
   simp[E.right,E.k,E.s,E.x,E.g,E.subs,hs,ZpV,h0,h1,h9,h8,fD,bM]
  ·have e:k=9:=e
   omega
  ·have e:k=10:=e
   omega
 ·exact h.all z hz
 ·exact h2.all z hz
theorem MkE.clean{c:Int}{n:Nat}{e:E}(h:MkE c n e)(hn:n<=10000):e.clean=true:=by
 have hl:e.light=true:=by unfold E.light;exact decide_eq_true (Nat.le_trans h.len hn)
 unfold E.clean
 rw[hl,Bool.true_and,List.all_eq_true]
 exact λx hx=>(h.all x hx).1
theorem ZtR{c:Int}(l:List E)(h:∀x∈l,x.k=10->x.g<=c):∀n:Int,n<=c->l.foldl (λn x=>if x.k=10 then(if x.g > n then x.g else n)else n) n<=c:=by
 induction l with
 | nil=>exact λn hn=>hn
 | cons x l ih=>
  intro n hn
  rw[List.foldl_cons]
  refine ih (λy hy=>h y (List.mem_cons_of_mem _ hy)) _ ?_
  split
  ·rename_i hk
   split
   ·exact h x (by simp) hk
   ·exact hn
  ·exact hn
theorem MkE.most{c:Int}{n:Nat}{e:E}(h:MkE c n e)(hc : -1<=c):e.most<=c:=by
 unfold E.most
 split
 ·exact ZtR _ (λx hx=>(h.all x hx).2.2) _ hc
 ·exact hc
mutual
theorem Zov{A:List ByteArray}:∀(t:E)(out:List ByteArray),(∀x∈t.nodes,x.k=9->x.s∈A)->∀s∈t.names out,s∈out\/s∈A
 | .node k x s g a c l,out,h,z,hz=>by
  simp only[E.names]at hz
  split at hz
  ·rename_i hk
   split at hz
   ·exact .inl hz
   ·rcases List.mem_append.1 hz with hz|hz
    ·exact .inl hz
    ·rw[List.mem_singleton]at hz;subst hz
     exact .inr (h (.node k x z g a c l) (by simp[E.nodes]) hk)
  ·exact Zl4 l out (λy hy=>h y (by simp only[E.nodes];exact List.mem_cons_of_mem _ hy)) z hz
theorem Zl4{A:List ByteArray}:∀(l:List E)(out:List ByteArray),(∀x∈Zak l,x.k=9->x.s∈A)->∀s∈Zbm l out,s∈out\/s∈A
 | [],out,_,z,hz=>.inl hz
 | t::l,out,h,z,hz=>by
  simp only[Zbm]at hz
  rcases Zl4 l _ (λy hy=>h y (by simp only[Zak];exact List.mem_append_right _ hy)) z hz with hz|hz
  ·exact Zov t out (λy hy=>h y (by simp only[Zak];exact List.mem_append_left _ hy)) z hz
  ·exact .inr hz
end
theorem MkE.vars{c:Int}{n:Nat}{e:E}(h:MkE c n e):∀s∈e.vars,s∈Zhw:=by
 intro s hs
 unfold E.vars at hs
 split at hs
 ·rcases Zov (A:=Zhw) e [] (λx hx=>(h.all x hx).2.1) s hs with h|h
  ·cases h
  ·exact h
 ·cases hs
theorem ZtS:ZsZ E0=true:=by decide +kernel
inductive MkP (c:Int):Pt->Prop
 | lit (s:ByteArray) (h:0 < s.size/\s.size<=512):MkP c ⟨1,s,0,E0⟩
 | var (s:ByteArray) (h:s∈Zhw\/s∈Zec):MkP c ⟨2,s,0,E0⟩
 | cap (g:Int) (h:0<=g/\g<=9/\g<=c):MkP c ⟨3,.empty,g,E0⟩
 | clc (e:E) (h:MkE c 20 e):MkP c ⟨4,.empty,0,e⟩
def Zw0(l:List Pt):Prop:=∀(i:Nat)(p q:Pt),l[i]?=some p->l[i+1]?=some q->p.k=1->q.k=1->False
structure MkT (c:Int)(l:List Pt):Prop where
 len:l.length<=5
 all:∀p∈l,MkP c p
 ll:Zw0 l
inductive MkA (c:Int):Ac->Prop
 | send (a:Option Addr) (n:Nat) (l:List Pt) (h:MkT c l):MkA c ⟨1,.empty,a,n,l,E0⟩
 | set (s:ByteArray) (hs:s∈Zec) (a:Option Addr) (n:Nat) (l:List Pt) (h:MkT c l):MkA c ⟨2,s,a,n,l,E0⟩
 | let_ (s:ByteArray) (hs:s∈Zhw) (e:E) (h:MkE c 20 e):MkA c ⟨3,s,none,0,[],e⟩
def Zvm(r:Ru):Prop:=(r.k=1/\r.t.check=0/\r.t.nodes.length<=26/\r.s=.empty/\r.n=0)\/((r.bg=false/\r.en=false/\r.t=T0)/\((r.k=2/\1<=r.s.size/\r.s.size<=3/\r.n=0)\/(r.k=3/\r.s=.empty/\r.n=0)\/(r.k=4/\r.s=.empty/\1<=r.n/\r.n<=8)))
structure MkR (n:Nat)(r:Ru):Prop where
 kind:Zvm r
 len:r.acts.length<=3
 all:∀a∈r.acts,MkA (ZcZ r) a
 go:((∃i,i < n/\Zs8[i]?=some r.go)/\r.code=0)\/(r.go=.empty/\0<=r.code/\r.code<=255)
structure MkS (n i:Nat)(x:Sta):Prop where
 name:Zs8[i]?=some x.s
 len:x.rules.length<=5
 all:∀r∈x.rules,MkR n r
structure MkV (i:Nat)(v:Va):Prop where
 name:(Zhw++Zec)[i]?=some v.s
 kind:(i < 4/\v.b=true/\v.t=.empty/\Zh2 v.x=true)\/(4<=i/\v.b=false/\v.t.size<=3/\v.x=0)
structure MkC (s:Sc):Prop where
 n:2<=s.n/\s.n<=12
 vlen:s.vars.length=6
 vall:∀i v,s.vars[i]?=some v->MkV i v
 len:1<=s.states.length/\s.states.length<=4
 all:∀i x,s.states[i]?=some x->MkS s.states.length i x
theorem ZnA{n:Nat}{e:E}(h:e.nodes.length<=n)(hn:n<=10000):e.light=true:=by unfold E.light;exact decide_eq_true (by omega)
theorem ZwG{n:Nat}{e:E}(h:e.nodes.length<=n)(hn:n<=10000):nE e<=n:=by
 unfold nE E.size;rw[ZnA h hn];simp;omega
theorem nE0:nE E0<=20:=by decide +kernel
theorem ZgL{α:Type}(f:α->Int)(B:Int)(l:List α)(hf:∀x∈l,f x<=B):ZaI (l.map f)<=l.length*B:=by
 induction l with
 | nil=>simp[ZaI]
 | cons x l ih=>
  have h1:=hf x (by simp)
  have h2:=ih (λy hy=>hf y (by simp[hy]))
  simp only[List.map_cons,ZaI,List.length_cons]
  rw[show((l.length+1:Nat):Int)*B=l.length*B+B by rw[Int.natCast_add,Int.add_mul];simp]
  omega
theorem MkP.nE{c:Int}{p:Pt}(h:MkP c p):nE p.e<=20:=by
 cases h with
 | clc e h=>exact ZwG (n:=20) h.len (by omega)
 | _=>exact nE0
theorem MkA.w{c:Int}{a:Ac}(h:MkA c a):wA a<=126:=by
 have go:∀{l:List Pt},MkT c l->(l.length:Int)+ZaI (l.map λp=>Rx.nE p.e)<=105:=λ{l} h=>by
  have:=ZgL (λp:Pt=>Rx.nE p.e) 20 l (λp hp=>(h.all p hp).nE)
  have:=h.len
  omega
 have e0:=nE0
 cases h with
 | send a n l h=>have:=go h;simp only[wA];omega
 | set s hs a n l h=>have:=go h;simp only[wA];omega
 | let_ s hs e h=>have:=ZwG h.len (by omega);simp[wA,ZaI];omega
theorem Zh7{t:T}(h:t.nodes.length<=10000):t.light=true:=by unfold T.light;exact decide_eq_true h
theorem Zl5:T0.size=1/\T0.light=true/\T0.same T0=true:=by decide +kernel
theorem MkR.size{n:Nat}{r:Ru}(h:MkR n r):r.t.light=true/\0<=r.t.size/\r.t.size<=26:=by
 rcases h.kind with⟨_,_,h,_⟩|⟨⟨_,_,h⟩,_⟩
 ·have hl:=Zh7 (t:=r.t) (by omega)
  refine⟨hl,?_⟩
  unfold T.size;rw[hl];simp;omega
 ·rw[h,Zl5.1];exact⟨Zl5.2.1,by omega,by omega⟩
theorem MkR.w{n:Nat}{r:Ru}(h:MkR n r):wR r<=405:=by
 obtain⟨h1,h2,h3⟩:=h.size
 have:=ZgL wA 126 r.acts (λa ha=>(h.all a ha).w)
 have:=h.len
 have hi:Zhm r.t.size 20000<=26:=by unfold Zhm;split <;> omega
 unfold wR;rw[h1];simp;omega
theorem MkS.w{n i:Nat}{x:Sta}(h:MkS n i x):wS x<=2025:=by
 have:=ZgL wR 405 x.rules (λa ha=>(h.all a ha).w)
 have:=h.len
 unfold wS;omega
theorem MkC.state{s:Sc}(h:MkC s){x:Sta}(hx:x∈s.states):∃i,s.states[i]?=some x/\MkS s.states.length i x:=by
 obtain⟨i,hi⟩:=List.getElem?_of_mem hx
 exact⟨i,hi,h.all i x hi⟩
theorem MkC.weight{s:Sc}(h:MkC s):s.weight<=8200:=by
 have:=ZgL wS 2025 s.states (λx hx=>by obtain⟨i,_,h⟩:=h.state hx;exact h.w)
 have:=h.len
 have:=h.vlen
 unfold Sc.weight;omega
theorem MkC.light{s:Sc}(h:MkC s):s.light=true:=by unfold Sc.light;exact decide_eq_true (by have:=h.weight;omega)
theorem Zq9(s:ByteArray):eqS s s=true:=by unfold eqS;simp
theorem ZtT:∀j < 6,∀i < 6,j≠i->eqS ((Zhw++Zec).getD j .empty) ((Zhw++Zec).getD i .empty)=false:=by decide +kernel
theorem ZvK:∀j < 4,∀i < 4,j≠i->eqS (Zs8.getD j .empty) (Zs8.getD i .empty)=false:=by decide +kernel
theorem Zhq{l:List ByteArray}{i:Nat}{s:ByteArray}(h:l[i]?=some s):l.getD i .empty=s:=by rw[List.getD_eq_getElem?_getD,h];rfl
theorem Zra{α:Type}{p:α->Bool}:∀{l:List α} {i:Nat} {x:α},l[i]?=some x->p x=true->(∀j y,j < i->l[j]?=some y->p y=false)->l.find? p=some x
 | [],i,x,h,_,_=>by simp at h
 | a::l,0,x,h,hp,_=>by
  simp at h;subst h
  rw[List.find?_cons_of_pos hp]
 | a::l,i+1,x,h,hp,hn=>by
  rw[List.find?_cons_of_neg (by rw[hn 0 a (by omega) rfl];simp)]
  exact Zra (l:=l) (i:=i) (by simpa using h) hp (λj y hj hy=>hn (j+1) y (by omega) (by simpa using hy))
theorem MkC.kind{s:Sc}(h:MkC s){i:Nat}{name:ByteArray}(hi:(Zhw++Zec)[i]?=some name):ZgG s name=(decide (i < 4),true):=by
 have qE:i < 6:=(zA0 hi).1
 have aE:=h.vlen
 have hv:s.vars[i]?=some (s.vars[i]'(by omega)):=zA3 (by omega)
 have hm:=h.vall i _ hv
 generalize s.vars[i]'(by omega)=v at hv hm
 have hn:v.s=name:=Option.some.inj (hm.name.symm.trans hi)
 have hf:(s.vars.find? λv=>eqS v.s name)=some v:=Zra hv (by rw[hn];exact Zq9 _) (λj y hj hy=>by
  have hy':=(h.vall j y hy).name
  have:=ZtT j (by omega) i qE (by omega)
  rwa [Zhq hy',Zhq hi]at this)
 unfold ZgG
 rw[hf]
 rcases hm.kind with⟨h4,hb,_⟩|⟨h4,hb,_⟩
 ·rw[decide_eq_true h4];show(v.b,true)=_;rw[hb]
 ·rw[decide_eq_false (by omega)];show(v.b,true)=_;rw[hb]
theorem MkC.num{s:Sc}(h:MkC s){name:ByteArray}(hn:name∈Zhw):ZgG s name=(true,true):=by
 obtain⟨i,hi⟩:=List.getElem?_of_mem hn
 have aC:i < 4:=(zA0 hi).1
 have:=h.kind (i:=i) (name:=name) (by rw[zA5 aC];exact hi)
 rwa [decide_eq_true aC]at this
theorem MkC.txt{s:Sc}(h:MkC s){name:ByteArray}(hn:name∈Zec):ZgG s name=(false,true):=by
 obtain⟨i,hi⟩:=List.getElem?_of_mem hn
 have aC:i < 2:=(zA0 hi).1
 have:=h.kind (i:=4+i) (name:=name) (by rw[zA4 (show Zhw.length<=4+i by show 4<=_;omega)];show Zec[4+i - 4]?=_;rw[show 4+i - 4=i by omega];exact hi)
 rwa [decide_eq_false (by omega)]at this
theorem MkC.numbers{s:Sc}(h:MkC s){c:Int}{n:Nat}{e:E}(he:MkE c n e):Zc6 s e=true:=by
 unfold Zc6
 rw[Bool.not_eq_true',List.any_eq_false]
 intro x hx
 rw[h.num (he.vars x hx)];simp
theorem MkC.finds{s:Sc}(h:MkC s){i:Nat}{name:ByteArray}(hi:i < s.states.length)(hn:Zs8[i]?=some name):ZpU s name=true:=by
 unfold ZpU
 rw[h.light,Bool.and_true,List.any_eq_true]
 refine⟨s.states[i],List.getElem_mem _,?_⟩
 have:=(h.all i _ (zA3 hi)).name
 rw[hn]at this
 rw[<-Option.some.inj this];exact Zq9 _
theorem Zdi{n a b:Int}:ZcQ n a b=true↔a<=n/\n<=b:=by
 unfold ZcQ
 rw[zA7,decide_eq_true_iff,decide_eq_true_iff]
theorem MkC.whole{s:Sc}(h:MkC s):ZlX s=0:=by
 have h1:ZcQ s.n 2 256=true:=Zdi.2 (by have:=h.n;omega)
 have h2:ZcQ s.states.length 1 24=true:=Zdi.2 (by have:=h.len;omega)
 have h3:decide (s.vars.length > 12)=false:=decide_eq_false (by have:=h.vlen;omega)
 simp[ZlX,Zcf,h1,h2,h3]
theorem ZaD:ByteArray.empty.size=0:=rfl
theorem MkC.var{s:Sc}(h:MkC s){i:Nat}{v:Va}(hv:s.vars[i]?=some v):Zct s i v=0:=by
 have hm:=h.vall i v hv
 have qE:i < 6:=by have:=(zA0 hv).1;have:=h.vlen;omega
 have h1:Zfe v.s=true:=by
  have bW:=zA2 hm.name
  rcases List.mem_append.1 bW with hx|hx
  ·exact Zou _ hx
  ·exact Zq6 _ hx
 have h2:Zr2 v=true:=by
  unfold Zr2
  rcases hm.kind with⟨_,hb,ht,hx⟩|⟨_,hb,ht,hx⟩
  ·rw[hb,ht,hx];rfl
  ·rw[hb,hx]
   simp;omega
 have h3:((s.vars.take i).any λx=>eqS x.s v.s)=false:=by
  rw[List.any_eq_false]
  intro x hx
  obtain⟨j,hj⟩:=List.getElem?_of_mem hx
  have ju:j < i:=by have:=(zA0 hj).1;rw[List.length_take]at this;omega
  rw[List.getElem?_take_of_lt ju]at hj
  have:=ZtT j (by omega) i qE (by omega)
  rw[Zhq (h.vall j x hj).name,Zhq hm.name]at this
  rw[this];simp
 simp[Zct,Zcf,h1,h2,h3]
theorem MkC.stateOk{s:Sc}(h:MkC s){i:Nat}{x:Sta}(hx:s.states[i]?=some x):ZlY s i x=0:=by
 have hm:=h.all i x hx
 have uy:i < 4:=by have:=(zA0 hx).1;have:=h.len;omega
 have h1:Zfe x.s=true:=Zq7 _ (zA2 hm.name)
 have h2:decide (x.rules.length > 12)=false:=decide_eq_false (by have:=hm.len;omega)
 have h3:((s.states.take i).any λy=>eqS y.s x.s)=false:=by
  rw[List.any_eq_false]
  intro y hy
  obtain⟨j,hj⟩:=List.getElem?_of_mem hy
  have ju:j < i:=by have:=(zA0 hj).1;rw[List.length_take]at this;omega
  rw[List.getElem?_take_of_lt ju]at hj
  have:=ZvK j (by omega) i uy (by omega)
  rw[Zhq (h.all j y hj).name,Zhq hm.name]at this
  rw[this];simp
 simp[ZlY,Zcf,h1,h2,h3]
theorem ZpW(t:T):0<=t.groups:=by unfold T.groups;split <;> omega
theorem Zow(r:Ru) : -1<=ZcZ r:=by
 have:=ZpW r.t
 unfold ZcZ;split
 ·omega
 ·split <;> omega
theorem Zvn{r:Ru}(h:r.bg=false/\r.en=false/\r.t=T0):ZwZ r=false:=by
 unfold ZwZ;rw[h.1,h.2.1,h.2.2,Zl5.2.1,Zl5.2.2];rfl
theorem MkR.fields{n:Nat}{r:Ru}(h:MkR n r):Zop r=true:=by
 unfold Zop
 rcases h.kind with⟨hk,_,_,hs,hn⟩|⟨hx,⟨hk,h1,h2,hn⟩|⟨hk,hs,hn⟩|⟨hk,hs,h1,h2⟩⟩
 ·rw[hk,hs,hn];rfl
 ·rw[Zvn hx,hk,hn]
  have:ZcQ r.s.size 1 64=true:=Zdi.2 (by omega)
  simp[this]
 ·rw[Zvn hx,hk,hs,hn];rfl
 ·rw[Zvn hx,hk,hs]
  have:ZcQ r.n 1 1000=true:=Zdi.2 (by omega)
  simp[this,ZaD]
theorem MkR.sizeR{n:Nat}{r:Ru}(h:MkR n r):Rx.sizeR r<=26:=by
 unfold Rx.sizeR;split
 ·exact h.size.2.2
 ·omega
theorem MkS.sizes{n i:Nat}{x:Sta}(h:MkS n i x)(k:Nat):ZaI ((x.rules.take k).map Rx.sizeR)<=130:=by
 have:=ZgL Rx.sizeR 26 (x.rules.take k) (λr hr=>(h.all r (List.mem_of_mem_take hr)).sizeR)
 have h1:=h.len
 rw[List.length_take]at this
 omega
theorem MkC.totals{s:Sc}(h:MkC s)(i k:Nat):Rx.totals s i k<=600:=by
 have h0:=h.len
 have h1:=ZgL (λx:Sta=>ZaI (x.rules.map Rx.sizeR)) 130 (s.states.take i) (λx hx=>by
  obtain⟨j,_,hm⟩:=h.state (List.mem_of_mem_take hx)
  have:=hm.sizes x.rules.length
  rwa [List.take_length]at this)
 rw[List.length_take]at h1
 unfold Rx.totals
 cases hx:s.states[i]? with
 | none=>show _+0<=_;omega
 | some x=>
  have hi:=(zA0 hx).1
  have:=(h.all i x hx).sizes (k+1)
  show _+ZaI ((x.rules.take (k+1)).map Rx.sizeR)<=_
  omega
theorem ZkR:∀s∈Zs8,s.size=1:=by decide +kernel
theorem MkC.rule{s:Sc}(h:MkC s){r:Ru}(hr:MkR s.states.length r){t:Int}(ht:t<=600):Zoq s r t=0:=by
 have h1:=hr.fields
 have h2:decide (r.acts.length > 8)=false:=decide_eq_false (by have:=hr.len;omega)
 have h3:(r.k == 1&&(!(r.t.check == 0)||decide (t > 600)))=false:=by
  rw[decide_eq_false (show ¬t > 600 by omega),Bool.or_false]
  rcases hr.kind with⟨_,hc,_⟩|⟨_,⟨hk,_⟩|⟨hk,_⟩|⟨hk,_⟩⟩
  ·rw[hc];simp
  ·rw[hk];rfl
  ·rw[hk];rfl
  ·rw[hk];rfl
 have h4:(if r.go.size=0 then !ZcQ r.code 0 255 else !ZpU s r.go||!(r.code == 0))=false:=by
  rcases hr.go with⟨⟨i,hi,hn⟩,hc⟩|⟨hg,hc⟩
  ·rw[if_neg (by rw[ZkR _ (zA2 hn)];omega),h.finds hi hn,hc];rfl
  ·rw[hg,if_pos ZaD,Zdi.2 hc];rfl
 unfold Zoq
 rw[h1,h2,h3,h4];rfl
theorem MkC.action{s:Sc}(h:MkC s){r:Ru}{a:Ac}(ha:MkA (ZcZ r) a):Zdz s r a=0:=by
 have hz:=ZtS
 cases ha with
 | send a n l hl=>
  have h1:decide (l.length > 16)=false:=decide_eq_false (by have:=hl.len;omega)
  have h2:ZcQ 1 1 3=true:=by decide
  unfold Zdz
  simp[Zcf,h1,h2,hz,ZaD]
 | set t ht a n l hl=>
  have h1:decide (l.length > 16)=false:=decide_eq_false (by have:=hl.len;omega)
  have h2:ZcQ 2 1 3=true:=by decide
  unfold Zdz
  simp[Zcf,h1,h2,hz,h.txt ht]
 | let_ t ht e he=>
  have h2:ZcQ 3 1 3=true:=by decide
  have h3:=he.clean (by omega)
  have h4:=h.numbers he
  have h5:decide (e.most > ZcZ r)=false:=decide_eq_false (by have:=he.most (Zow r);omega)
  unfold Zdz
  simp only[Zcf,h2,h3,h4,h5,h.num ht]
  rfl
def Zvo(l:List Pt)(i:Nat):Bool:=match l[i - 1]? with
 | some q=>q.k == 1
 | none=>false
theorem Zox(s:Sc)(r:Ru)(l:List Pt)(i:Nat)(p:Pt):ZkE s r l i p=Zcf [(307,!Zff p||(decide (i > 0)&&(p.k == 1&&Zvo l i))),(308,(p.k == 2&&!(ZgG s p.s).2)||(p.k == 4&&!Zc6 s p.e)),(309,(p.k == 3&&decide (p.g > ZcZ r))||(p.k == 4&&decide (p.e.most > ZcZ r)))]:=rfl
theorem MkC.part{s:Sc}(h:MkC s){r:Ru}{l:List Pt}(hl:MkT (ZcZ r) l){i:Nat}{p:Pt}(hp:l[i]?=some p):ZkE s r l i p=0:=by
 have hz:=ZtS
 have h0:(decide (i > 0)&&(p.k == 1&&Zvo l i))=false:=by
  cases i with
  | zero=>rfl
  | succ i=>
   unfold Zvo
   rw[Nat.add_sub_cancel]
   cases hq:l[i]? with
   | none=>simp
   | some q=>
    have:=hl.ll i q p hq hp
    simp only[Bool.and_eq_false_iff]
    refine .inr ?_
    by_cases h1:p.k=1
    ·refine .inr ?_
     simp
     exact λh2=>this h2 h1
    ·refine .inl ?_
     simpa using h1
 have hm:=hl.all p (zA2 hp)
 rw[Zox,h0]
 cases hm with
 | lit t ht=>
  have h1:Zff ⟨1,t,0,E0⟩=true:=by simp[Zff,hz];omega
  rw[h1];rfl
 | var t ht=>
  have h1:Zff ⟨2,t,0,E0⟩=true:=by
   have:Zfe t=true:=by
    rcases ht with ht|ht
    ·exact Zou _ ht
    ·exact Zq6 _ ht
   simp[Zff,hz,this]
  have h2:(ZgG s t).2=true:=by
   rcases ht with ht|ht
   ·rw[h.num ht]
   ·rw[h.txt ht]
  rw[h1]
  simp[Zcf,h2]
 | cap g hg=>
  have h1:Zff ⟨3,.empty,g,E0⟩=true:=by simp[Zff,hz,ZaD];omega
  have h2:decide (g > ZcZ r)=false:=decide_eq_false (by omega)
  rw[h1]
  simp only[Zcf,h2];rfl
 | clc e he=>
  have h1:Zff ⟨4,.empty,0,e⟩=true:=by simp[Zff,he.clean,ZaD]
  have h2:decide (e.most > ZcZ r)=false:=decide_eq_false (by have:=he.most (Zow r);omega)
  have h3:=h.numbers he
  rw[h1]
  simp only[Zcf,h2,h3];rfl
theorem MkC.at0{s:Sc}(h:MkC s):∀p∈s.places,atS s p=0:=by
 intro p hp
 have hT:∀{r:Ru} {a:Ac},MkA (ZcZ r) a->∀{n:Nat} {q:Pt},a.parts[n]?=some q->ZkE s r a.parts n q=0:=λ{r a} ha {n q} hq=>by
  cases ha with
  | send _ _ l hl=>exact h.part hl hq
  | set _ _ _ _ l hl=>exact h.part hl hq
  | let_ _ _ e _=>simp at hq
 rcases Zl0 s p hp with⟨i,hi,v,hv⟩|⟨hv,hs|⟨i,hi,x,hx,hr|⟨k,hk,r,hr,ha|⟨j,hj,a,ha,hq|⟨n,hn,q,hq⟩⟩⟩⟩⟩
 ·have e:atS s p=Zct s i v:=by
   unfold atS
   rw[if_pos (by omega),show p.v.toNat=i by omega,hv]
  rw[e];exact h.var hv
 all_goals have hv':¬p.v ≥ 0:=by omega
 ·unfold atS
  rw[if_neg hv',if_pos hs];exact h.whole
 all_goals
  have hs':¬p.s < 0:=by omega
  have jv:p.s.toNat=i:=by omega
  have hm:=h.all i x hx
 ·have e:atS s p=ZlY s i x:=by
   unfold atS
   rw[if_neg hv',if_neg hs',jv,hx]
   exact if_pos hr
  rw[e];exact h.stateOk hx
 all_goals
  have hr':¬p.r < 0:=by omega
  have gw:p.r.toNat=k:=by omega
  have hR:=hm.all r (zA2 hr)
 ·have e:atS s p=Zoq s r (Rx.totals s i k):=by
   unfold atS
   rw[if_neg hv',if_neg hs',jv,hx]
   show(if p.r < 0 then _ else _)=_
   rw[if_neg hr',gw,hr]
   exact if_pos ha
  rw[e];exact h.rule hR (h.totals i k)
 all_goals
  have ha':¬p.a < 0:=by omega
  have jL:p.a.toNat=j:=by omega
  have hA:=hR.all a (zA2 ‹r.acts[j]?=some a›)
 ·have e:atS s p=Zdz s r a:=by
   unfold atS
   rw[if_neg hv',if_neg hs',jv,hx]
   show(if p.r < 0 then _ else _)=_
   rw[if_neg hr',gw,hr]
   show(if p.a < 0 then _ else _)=_
   rw[if_neg ha',jL,‹r.acts[j]?=some a›]
   exact if_pos hq
  rw[e];exact h.action hA
 ·have e:atS s p=ZkE s r a.parts n q:=by
   unfold atS
   rw[if_neg hv',if_neg hs',jv,hx]
   show(if p.r < 0 then _ else _)=_
   rw[if_neg hr',gw,hr]
   show(if p.a < 0 then _ else _)=_
   rw[if_neg ha',jL,‹r.acts[j]?=some a›]
   show(if p.p < 0 then _ else _)=_
   rw[if_neg (by omega),show p.p.toNat=n by omega,hq]
  rw[e];exact hT hA hq
theorem MkC.problems{s:Sc}(h:MkC s):s.problems=[]:=by
 unfold Sc.problems
 rw[List.filterMap_eq_nil_iff]
 intro p hp
 rw[if_pos (h.at0 p hp)]
theorem MkC.check{s:Sc}(h:MkC s):s.check=(top,0):=by
 unfold Sc.check
 rw[if_pos h.light,h.problems]
structure F26 (t:T)(l:List T):Prop where
 f:F t l
 n:(t.k=4/\t.nodes.length+szL l<=26)\/t.nodes.length+szL l<=25
theorem F26.done{t:T}(h:F26 t []):t.check=0/\t.nodes.length<=26:=by
 refine⟨h.f.done,?_⟩
 have:szL []=0:=rfl
 rcases h.n with h|h <;> omega
theorem F26.step{t x:T}{l:List T}(h:F26 t (x::l))(a:Option Addr)(c:Nat):F26 (Zeu 4 a c (ZaL 4 t++ZaL 4 x)) l:=by
 refine⟨h.f.step a c,?_⟩
 have hn:=h.n
 rw[ZdW]at hn
 have ht:=Zh4 t
 have hx:=Zh4 x
 have e1:szL (ZaL 4 t)<=if t.k=4 then szL t.subs else t.nodes.length:=by
  unfold ZaL
  split
  ·exact Nat.le_refl _
  ·rw[if_neg (by omega),ZaU];exact Nat.le_refl _
 have e2:szL (ZaL 4 x)<=x.nodes.length:=by
  unfold ZaL
  split
  ·omega
  ·rw[if_neg (by omega),ZaU];exact Nat.le_refl _
 have e3:szL (ZaL 4 t++ZaL 4 x)=szL (ZaL 4 t)+szL (ZaL 4 x):=Zax _ _
 generalize ZaL 4 t++ZaL 4 x=L at e3
 have hA:szL L<=t.nodes.length+x.nodes.length/\(t.k=4->szL L+1<=t.nodes.length+x.nodes.length):=by
  refine⟨?_,λh4=>?_⟩
  ·split at e1 <;> omega
  ·rw[if_pos h4]at e1;omega
 match L,hA with
 | [],_=>
  refine .inr ?_
  show T1.nodes.length+_<=_
  have:T1.nodes.length=1:=rfl
  rcases hn with⟨_,hn⟩|hn <;> omega
 | [y],hA=>
  refine .inr ?_
  show y.nodes.length+_<=_
  rw[ZaU]at hA
  rcases hn with⟨h4,hn⟩|hn
  ·have:=hA.2 h4;omega
  ·omega
 | y::z::r,hA=>
  refine .inl ⟨rfl,?_⟩
  rw[Zh4]
  show 1+szL (y::z::r)+_<=_
  rcases hn with⟨h4,hn⟩|hn
  ·have:=hA.2 h4;omega
  ·omega
theorem F26.start{i u g}{t:T}{l:List T}(h:J i (t::l) u g)(hi:i<=25):F26 t l:=⟨F.start h hi,.inr (by have:=h.sz;rw[ZdW]at this;omega)⟩
theorem F26.leaf{t:T}(h1:F t [])(h2:t.nodes.length=1):F26 t []:=⟨h1,.inr (by have:szL []=0:=rfl;omega)⟩
structure PE (ts:List E)(i:Nat):Prop where
 all:∀x∈Zak ts,okN 9 x
 sz:(Zak ts).length<=i
theorem ZbP(t:E):Zak [t]=t.nodes:=by simp[Zak]
theorem PE.zero:PE [] 0:=⟨by simp[Zak],by simp[Zak]⟩
theorem PE.skip{ts i}(h:PE ts i):PE ts (i+1):=⟨h.all,by have:=h.sz;omega⟩
theorem PE.push{ts i}{t:E}(h:PE ts i)(ht:MkE 9 1 t):PE (ts++[t]) (i+1):=by
 refine⟨λx hx=>?_,?_⟩
 ·rw[ZaH,ZbP]at hx
  rcases List.mem_append.1 hx with hx|hx
  ·exact h.all x hx
  ·exact ht.all x hx
 ·rw[ZaH,ZbP,zA1]
  have:=h.sz;have:=ht.len;omega
theorem PE.neg{r:List E}{x:E}{i:Nat}(h:PE (r++[x]) i)(hk:x.k≠8)(a:Option Addr)(d:Nat):PE (r++[ZuX a d x]) (i+1):=by
 have h1:=h.all;have h2:=h.sz
 rw[ZaH,ZbP]at h1 h2
 rw[zA1]at h2
 have hm:MkE 9 (x.nodes.length+1) (ZuX a d x):=ZtP ⟨λz hz=>h1 z (List.mem_append_right _ hz),Nat.le_refl _⟩ hk
 refine⟨λz hz=>?_,?_⟩
 ·rw[ZaH,ZbP]at hz
  rcases List.mem_append.1 hz with hz|hz
  ·exact h1 z (List.mem_append_left _ hz)
  ·exact hm.all z hz
 ·rw[ZaH,ZbP,zA1]
  have:=hm.len;omega
theorem PE.op{r:List E}{x y:E}{i:Nat}(h:PE (r++[x,y]) i){k:Int}(hk:2<=k/\k<=7)(a:Option Addr)(d:Nat):PE (r++[opE k a d x y]) (i+1):=by
 have h1:=h.all;have h2:=h.sz
 rw[ZaH,show Zak [x,y]=x.nodes++y.nodes by simp[Zak]]at h1 h2
 rw[zA1,zA1]at h2
 have hm:MkE 9 (x.nodes.length+y.nodes.length+1) (opE k a d x y):=ZtQ hk ⟨λz hz=>h1 z (List.mem_append_right _ (List.mem_append_left _ hz)),Nat.le_refl _⟩ ⟨λz hz=>h1 z (List.mem_append_right _ (List.mem_append_right _ hz)),Nat.le_refl _⟩
 refine⟨λz hz=>?_,?_⟩
 ·rw[ZaH,ZbP]at hz
  rcases List.mem_append.1 hz with hz|hz
  ·exact h1 z (List.mem_append_left _ hz)
  ·exact hm.all z hz
 ·rw[ZaH,ZbP,zA1]
  have:=hm.len;omega
theorem Zjh(t:E):1<=t.nodes.length:=by rw[ZaZ,List.length_cons];omega
theorem ZdC(l:List E):l.length<=(Zak l).length:=by
 induction l with
 | nil=>simp
 | cons t l ih=>
  have:=Zjh t
  simp only[Zak,List.length_cons,zA1];omega
structure QE (t:E)(l:List E)(b:Nat):Prop where
 all:∀x∈t.nodes,okN 9 x
 alls:∀x∈Zak l,okN 9 x
 sz:t.nodes.length+(Zak l).length+l.length<=b
theorem QE.start{t:E}{l:List E}{i:Nat}(h:PE (t::l) i):QE t l (2*i):=by
 have h1:=h.all;have h2:=h.sz
 simp only[Zak,zA1]at h1 h2
 have:=ZdC l
 exact⟨λx hx=>h1 x (List.mem_append_left _ hx),λx hx=>h1 x (List.mem_append_right _ hx),by omega⟩
theorem QE.step{t x:E}{l:List E}{b:Nat}(h:QE t (x::l) b)(a:Option Addr)(d:Nat):QE (opE 2 a d t x) l b:=by
 have h1:=h.alls;have h2:=h.sz
 simp only[Zak,zA1,List.length_cons]at h1 h2
 have hm:MkE 9 (t.nodes.length+x.nodes.length+1) (opE 2 a d t x):=ZtQ (by omega) ⟨h.all,Nat.le_refl _⟩ ⟨λz hz=>h1 z (List.mem_append_left _ hz),Nat.le_refl _⟩
 exact⟨hm.all,λz hz=>h1 z (List.mem_append_right _ hz),by have:=hm.len;omega⟩
theorem QE.done{t:E}{b:Nat}(h:QE t [] b):MkE 9 b t:=⟨h.all,by have:=h.sz;omega⟩
structure BoE (c:Int)(e u:E):Prop where
 all:∀x∈u.nodes,okN c x
 len:u.nodes.length<=e.nodes.length
 k8:u.k=8↔e.k=8
theorem Zoy{c:Int}:∀{l r:List E},l.length=r.length->(∀(i:Nat)(x y:E),l[i]?=some x->r[i]?=some y->BoE c x y)->(∀z∈Zak r,okN c z)/\(Zak r).length<=(Zak l).length/\ZpT r=ZpT l
 | [],[],_,_=>⟨by simp[Zak],Nat.le_refl _,rfl⟩
 | [],_::_,h,_=>by simp at h
 | _::_,[],h,_=>by simp at h
 | x::l,y::r,h,hb=>by
  have h0:=hb 0 x y rfl rfl
  obtain⟨h1,h2,_⟩:=Zoy (l:=l) (r:=r) (by simpa using h) (λi x' y' hx hy=>hb (i+1) x' y' (by simpa using hx) (by simpa using hy))
  refine⟨λz hz=>?_,?_,?_⟩
  ·simp only[Zak]at hz
   rcases List.mem_append.1 hz with hz|hz
   ·exact h0.all z hz
   ·exact h1 z hz
  ·simp only[Zak,zA1];have:=h0.len;omega
  ·show(y.k == 8)=(x.k == 8)
   rw[Bool.eq_iff_iff];simpa using h0.k8
theorem Zr5{c:Int}{k:Int}{x:Nat}{s:ByteArray}{g:Int}{a a':Option Addr}{d d':Nat}{l r:List E}(h:okN 9 (.node k x s g a d l))(hk:¬(k=10/\g > c))(hl:l.length=r.length)(hb:∀(i:Nat)(x y:E),l[i]?=some x->r[i]?=some y->BoE c x y):BoE c (.node k x s g a d l) (.node k x s g a' d' r):=by
 obtain⟨h1,h2,h3⟩:=Zoy hl hb
 refine⟨λz hz=>?_,?_,Iff.rfl⟩
 ·simp only[E.nodes,List.mem_cons]at hz
  rcases hz with rfl|hz
  ·refine⟨?_,h.2.1,λe=>?_⟩
   ·have e1:=h.1
    simp only[E.right,E.k,E.s,E.x,E.g,E.subs]at e1 ⊢
    rw[<-hl,h3];exact e1
   ·have e:k=10:=e
    show g<=c
    omega
  ·exact h1 z hz
 ·simp only[E.nodes,List.length_cons];omega
theorem ZtU{c:Int}{e:E}{s:ByteArray}(hs:s∈Zhw)(hk:e.k=10):BoE c e (ZuW s):=by
 have h:=Zq8 (c:=c) hs
 refine⟨h.all,Nat.le_trans h.len (Zjh e),?_⟩
 rw[hk]
 show(9:Int)=8↔_
 omega
theorem BoE.toMk{c:Int}{n:Nat}{e u:E}(h:BoE c e u)(he:e.nodes.length<=n):MkE c n u:=⟨h.all,Nat.le_trans h.len he⟩
end Go.Rx
namespace Go.Rx
open Go Go.Eng Go.RowKit
set_option maxRecDepth 100000
mutual
def T.er:T->T
 | .node k s0 s1 s2 s3 mn mx _ _ l=>.node k s0 s1 s2 s3 mn mx none 0 (erL l)
def erL:List T->List T
 | []=>[]
 | t::l=>t.er::erL l
end
theorem Zoz:∀l:List T,erL l=l.map T.er
 | []=>rfl
 | t::l=>by simp only[erL,List.map_cons,Zoz l]
@[simp] theorem Zvp (t:T):t.er.k=t.k:=by cases t;rfl
@[simp] theorem ZxP (t:T):t.er.s0=t.s0:=by cases t;rfl
@[simp] theorem ZxQ (t:T):t.er.s1=t.s1:=by cases t;rfl
@[simp] theorem ZxR (t:T):t.er.s2=t.s2:=by cases t;rfl
@[simp] theorem ZxS (t:T):t.er.s3=t.s3:=by cases t;rfl
@[simp] theorem ZxT (t:T):t.er.mn=t.mn:=by cases t;rfl
@[simp] theorem ZxU (t:T):t.er.mx=t.mx:=by cases t;rfl
@[simp] theorem ZwH (t:T):t.er.subs=t.subs.map T.er:=by cases t;simp only[T.er,T.subs,Zoz]
mutual
theorem ZkS:∀t:T,t.er.nodes=t.nodes.map T.er
 | .node k s0 s1 s2 s3 mn mx a c l=>by
  simp only[T.er,T.nodes,List.map_cons]
  rw[Zl6 l]
theorem Zl6:∀l:List T,Zaz (erL l)=(Zaz l).map T.er
 | []=>rfl
 | t::l=>by simp only[erL,Zaz,List.map_append,ZkS t,Zl6 l]
end
theorem ZoA(t:T):t.er.light=t.light:=by unfold T.light;rw[ZkS,List.length_map]
theorem Zrb(t:T):t.er.size=t.size:=by unfold T.size;rw[ZoA,ZkS,List.length_map]
def T.caps(t:T):Prop:=∀x∈t.nodes,x.subs.length<=x.c
theorem ZpX{k s0 s1 s2 s3 mn mx:Int}{a:Option Addr}{c:Nat}{l:List T}(h:l.length<=c)(hl:∀x∈l,x.caps):(T.node k s0 s1 s2 s3 mn mx a c l).caps:=by
 intro y hy
 rw[Zb5]at hy
 rcases List.mem_cons.1 hy with rfl|hy
 ·exact h
 ·obtain⟨x,hx,hy⟩:∃x∈l,y∈x.nodes:=by
   have:∀l:List T,y∈Zaz l->∃x∈l,y∈x.nodes:=λl=>by
    induction l with
    | nil=>intro h;simp[Zaz]at h
    | cons x l ih=>
     intro h
     simp only[Zaz,List.mem_append]at h
     rcases h with h|h
     ·exact⟨x,by simp,h⟩
     ·obtain⟨z,hz,h⟩:=ih h
      exact⟨z,by simp[hz],h⟩
   exact this l hy
  exact hl x hx y hy
theorem ZtV{k s0 s1 s2 s3 mn mx:Int}{a a':Option Addr}{c c':Nat}{l l':List T}(h:l.map T.er=l'.map T.er):(T.node k s0 s1 s2 s3 mn mx a c l).er=(T.node k s0 s1 s2 s3 mn mx a' c' l').er:=by
 simp only[T.er,Zoz,h]
end Go.Rx
namespace Go.Rx
open Go Go.Eng Go.RowKit
def Old(m:Mem)(b:Nat):Prop:=¬m.free b
noncomputable def nw(m m':Mem):Mem:=⟨(m'.off (Old m)).c,λ_=>none⟩
theorem ZkF(m m':Mem):(nw m m').le m':=⟨(Mem.off_le m' (Old m)).c,λ_ _ h=>by cases h⟩
theorem Zbx{m m':Mem}(h:m.le m'){b:Nat}(hf:m'.free b):m.free b:=λo=>by
 cases he:m b o with
 | none=>rfl
 | some v=>have:=h _ _ _ he;rw[hf o]at this;cases this
theorem ZfR{m m':Mem}(h:m.le m'){b:Nat}(hf:m'.k b=none):m.k b=none:=by
 cases he:m.k b with
 | none=>rfl
 | some v=>have:=h.k _ _ he;rw[hf]at this;cases this
theorem ZpY{m m':Mem}{b:Nat}(h:¬m.free b):(nw m m').free b:=λo=>Mem.off_free (m:=m') (Y:=Old m) h o
theorem Zs2{m m':Mem}{b:Nat}(h:m.free b)(o:Nat):nw m m' b o=m' b o:=Mem.off_at (m:=m') (Y:=Old m) (λk=>k h) o
theorem ZdD{m0 m m' m'':Mem}(h1:m0.le m)(h2:m'.le m''):(nw m m').le (nw m0 m''):=⟨λb o v hv=>by
 have hf:m.free b:=Classical.byContradiction λhn=>by rw[ZpY hn]at hv;cases hv
 rw[Zs2 hf]at hv;rw[Zs2 (Zbx h1 hf)];exact h2 _ _ _ hv,λb e he=>by cases he⟩
theorem ZkT{m m':Mem}{a:Option Addr}{cs:List Value}(h:rowRd m' a cs)(hf:cs=[]\/∀b o,a=some ⟨b,o,none⟩->m.free b):rowRd (nw m m') a cs:=by
 rcases hf with hf|hf
 ·exact .inl hf
 rcases h with h|⟨b,o,ha,h⟩
 ·exact .inl h
 ·exact .inr ⟨b,o,ha,λj v hj=>by rw[Zs2 (hf b o ha)];exact h j v hj⟩
theorem Zl7{m m':Mem}{Y:Nat->Prop}(h:m.le m')(hf:∀b,Y b->m.free b/\m.k b=none):m.le (m'.off Y):=⟨λb o v hv=>by
 rw[Mem.off_at (λhy=>by rw[(hf b hy).1 o]at hv;cases hv)];exact h _ _ _ hv,λb e he=>by
 rw[Mem.off_k (λhy=>by rw[(hf b hy).2]at he;cases he)];exact h.k _ _ he⟩
structure Each {α β:Type}(cs:β->List Value)(Q:α->β->Mem->Prop)(m m':Mem)(L:List α)(a:Option Addr)(c:Nat)(L':List β)(μ:Nat->Mem):Prop where
 len:L'.length=L.length
 le:m.le m'
 row:rowRd m' a (L'.map cs).flatten
 q:∀i x y,L[i]?=some x->L'[i]?=some y->Q x y (μ i)
 sub:∀i,i < L.length->(μ i).le (nw m m')
 ap:∀i j,i < j->j < L.length->∀b,(μ i).free b\/(μ j).free b
 blk:(L=[]/\a=none/\c=0)\/(L≠[]/\∃b,a=some ⟨b,0,none⟩/\m.free b/\m.k b=none/\∀i,i < L.length->(μ i).free b/\(μ i).k b=none)
 cap:L'.length<=c
theorem Each.nil{α β:Type}{cs:β->List Value}{Q:α->β->Mem->Prop}(m:Mem):Each cs Q m m ([]:List α) none 0 [] λ_=>m:=
 ⟨rfl,Mem.le_refl m,.inl rfl,by simp,by simp,by simp,.inl ⟨rfl,rfl,rfl⟩,by simp⟩
theorem Each.step{α β:Type}{cs:β->List Value}{Q:α->β->Mem->Prop}{m m':Mem}{L:List α}{k:Nat}{a:Option Addr}{c:Nat}{L':List β}{μ:Nat->Mem}{n:Nat}(hn:∀y,(cs y).length=n)(h0:0 < n)(h:Each cs Q m m' (L.take k) a c L' μ){x:α}(hx:L[k]?=some x)
  {m3:Mem} {y:β} (h3:m'.le m3) (hq:Q x y (nw m' m3)) {b3:Nat} (fj:m3.free b3) {a':Option Addr} {c':Nat} {m4:Mem} (h4:(m3.add b3 (cs y)).le m4) (aA:rowRd m4 a' ((L'++[y]).map cs).flatten) (ht:TokFact (m3.add b3 (cs y)) a a' (L'.length+1) c'):
  Each cs Q m m4 (L.take (k+1)) a' c' (L'++[y]) (λi=>if i=k then nw m' m3 else μ i):=by
 have hk:k < L.length:=(zA0 hx).1
 have e:L.take (k+1)=L.take k++[x]:=by rw[List.take_add_one,hx];rfl
 have lk:(L.take k).length=k:=by rw[List.length_take];omega
 have lk':L'.length=k:=h.len.trans lk
 have add3:m3.le (m3.add b3 (cs y)):=Mem.le_add fj _
 have sC:m3.le m4:=mLt add3 h4
 have gx:m'.le m4:=mLt h3 sC
 have oW:m.le (m3.add b3 (cs y)):=mLt h.le (mLt h3 add3)
 have cG:((L'++[y]).map cs).flatten≠[]:=by
  intro hz
  have:=congrArg List.length hz
  rw[ZaO hn,zA1,List.length_cons]at this
  have h5:0 < (L'.length+(([]:List β).length+1))*n:=Nat.mul_pos (by omega) h0
  rw[this]at h5;exact absurd h5 (by simp)
 have ha':∃b,a'=some ⟨b,0,none⟩/\m.free b/\m.k b=none/\(∀i,i < k->(μ i).free b/\(μ i).k b=none)/\((nw m' m3).free b/\(nw m' m3).k b=none):=by
  rcases ht.2 with h1|⟨b,o,h1,h2⟩
  ·rcases aA with h2|⟨b,o,h2,_⟩
   ·exact absurd h2 cG
   ·rw[h1]at h2;cases h2
  ·rcases h2 with h2|⟨h2,h5,h6⟩
   ·rcases h.blk with⟨_,h7,_⟩|⟨h6,b',h7,h8,h8',h9⟩
    ·rw[h7,h1]at h2;cases h2
    ·rw[h7,h1]at h2
     simp only[Option.some.injEq,Addr.mk.injEq,and_true]at h2
     obtain⟨rfl,rfl⟩:=h2
     have e9:¬m'.free b':=λhf=>by
      rcases h.row with fD|⟨b2,o2,fD,jR⟩
      ·have:=congrArg List.length fD
       rw[ZaO hn,lk']at this
       have mN:k≠0:=λe=>h6 (by rw[e];rfl)
       have oX:0 < k*n:=Nat.mul_pos (by omega) h0
       simp at this;omega
      ·rw[h7]at fD;cases fD
       have mN:k≠0:=λe=>h6 (by rw[e];rfl)
       have oX:0 < k*n:=Nat.mul_pos (by omega) h0
       have aC:0 < (L'.map cs).flatten.length:=by rw[ZaO hn,lk'];exact oX
       have:=jR 0 _ (zA3 aC)
       rw[hf]at this;cases this
     refine⟨b',h1,h8,h8',λi hi=>h9 i (by omega),ZpY e9,rfl⟩
   ·subst h2
    have hs:∀i,i < k->(μ i).le (m3.add b3 (cs y)):=λi hi=>mLt (h.sub i (by omega)) (mLt (ZkF _ _) (mLt h3 add3))
    have j1:(nw m' m3).le (m3.add b3 (cs y)):=mLt (ZkF _ _) add3
    exact⟨b,h1,Zbx oW h5,ZfR oW h6,λi hi=>⟨Zbx (hs i hi) h5,ZfR (hs i hi) h6⟩,Zbx j1 h5,ZfR j1 h6⟩
 obtain⟨b,hb,dm,eX,eZ,ma⟩:=ha'
 refine⟨by rw[zA1,List.length_take,lk'];simp;omega,mLt h.le gx,aA,λi u v hu hv=>?_,λi hi=>?_,λi j md hj b'=>?_,.inr ⟨by rw[e];simp,b,hb,dm,eX,λi hi=>?_⟩,by have:=ht.1;rw[zA1];exact this⟩
 ·rw[e]at hu
  by_cases jx:i=k
  ·subst jx
   rw[zA4 (by omega),lk,Nat.sub_self]at hu
   rw[zA4 (by omega),lk',Nat.sub_self]at hv
   cases hu;cases hv
   rw[if_pos rfl];exact hq
  ·have hi:i < k:=by
    have:=(zA0 hu).1
    rw[zA1,lk]at this;simp at this;omega
   rw[zA5 (by omega)]at hu hv
   rw[if_neg jx];exact h.q i u v hu hv
 ·by_cases jx:i=k
  ·subst jx;rw[if_pos rfl];exact ZdD h.le sC
  ·rw[if_neg jx]
   rw[List.length_take]at hi
   exact mLt (h.sub i (by omega)) (ZdD (Mem.le_refl m) gx)
 ·rw[List.length_take]at hj
  by_cases sD:j=k
  ·subst sD
   rw[if_neg (by omega),if_pos rfl]
   by_cases hf:(μ i).free b'
   ·exact .inl hf
   ·exact .inr (ZpY λni=>hf (Zbx (mLt (h.sub i (by omega)) (ZkF _ _)) ni))
  ·rw[if_neg (by omega),if_neg sD];exact h.ap i j md (by omega) b'
 ·by_cases jx:i=k
  ·subst jx;rw[if_pos rfl];exact ma
  ·rw[if_neg jx];rw[List.length_take]at hi;exact eZ i (by omega)
section
variable {α β:Type} {cs:β->List Value} {Q:α->β->Mem->Prop} {m m':Mem} {L:List α} {a:Option Addr} {c:Nat} {L':List β} {μ:Nat->Mem} (h:Each cs Q m m' L a c L' μ)
include h
theorem Each.rows:rowRd (nw m m') a (L'.map cs).flatten:=ZkT h.row (by
 rcases h.blk with⟨h1,_⟩|⟨_,b,hb,hf,_⟩
 ·left
  have:L'=[]:=List.eq_nil_of_length_eq_zero (by rw[h.len,h1];rfl)
  rw[this];rfl
 ·exact .inr λb' o e=>by rw[hb]at e;cases e;exact hf)
theorem Each.at{y:β}(hy:y∈L'):∃i x,L[i]?=some x/\L'[i]?=some y/\Q x y (μ i)/\(μ i).le (nw m m'):=by
 obtain⟨i,hi⟩:=List.getElem?_of_mem hy
 have aC:i < L.length:=by rw[<-h.len];exact(zA0 hi).1
 exact⟨i,L[i],zA3 aC,hi,h.q i _ _ (zA3 aC) hi,h.sub i aC⟩
theorem Each.same{γ:Type}{f:α->γ}{g:β->γ}(hs:∀x y μ,Q x y μ->g y=f x):L'.map g=L.map f:=by
 refine List.ext_getElem (by simp[h.len]) λi h1 h2=>?_
 simp only[List.length_map]at h1 h2
 rw[List.getElem_map,List.getElem_map]
 exact hs _ _ _ (h.q i _ _ (zA3 h2) (zA3 h1))
end
def ZoB{α β:Type}(cs:β->List Value)(Q:α->β->Mem->Prop)(m:Mem)(L:List α):Value->Mem->List (List Value)->Prop:=λv m' _=>∃a c L' μ,v=.slice a L'.length c/\Each cs Q m m' L a c L' μ
theorem Zev{α β:Type}{cs:β->List Value}{Q:α->β->Mem->Prop}{m:Mem}{L:List α}:∀(v:Value)(m':Mem) (css:List (List Value)),ZoB cs Q m L v m' css->Shape.fits .slice v=true:=λv _ _ ⟨_,_,_,_,h,_⟩=>by rw[h];rfl
mutual
def E.er:E->E
 | .node k x s g _ _ l=>.node k x s g none 0 (ZwI l)
def ZwI:List E->List E
 | []=>[]
 | t::l=>t.er::ZwI l
end
theorem ZkU:∀l:List E,ZwI l=l.map E.er
 | []=>rfl
 | t::l=>by simp only[ZwI,List.map_cons,ZkU l]
@[simp] theorem ZxV (t:E):t.er.k=t.k:=by cases t;rfl
@[simp] theorem ZxW (t:E):t.er.x=t.x:=by cases t;rfl
@[simp] theorem ZxX (t:E):t.er.s=t.s:=by cases t;rfl
@[simp] theorem ZxY (t:E):t.er.g=t.g:=by cases t;rfl
@[simp] theorem Zvq (t:E):t.er.subs=t.subs.map E.er:=by cases t;simp only[E.er,E.subs,ZkU]
mutual
theorem Zew:∀t:E,t.er.nodes=t.nodes.map E.er
 | .node k x s g a c l=>by
  simp only[E.er,E.nodes,List.map_cons]
  rw[Zji l]
theorem Zji:∀l:List E,Zak (ZwI l)=(Zak l).map E.er
 | []=>rfl
 | t::l=>by simp only[ZwI,Zak,List.map_append,Zew t,Zji l]
end
theorem Zh8(t:E):t.er.light=t.light:=by unfold E.light;rw[Zew,List.length_map]
theorem Zr6(t:E):t.er.size=t.size:=by unfold E.size;rw[Zh8,Zew,List.length_map]
theorem ZwJ(t:E):nE t.er=nE t:=by unfold nE;rw[Zh8,Zr6]
def Pt.er(p:Pt):Pt:=⟨p.k,p.s,p.g,p.e.er⟩
def Ac.er(a:Ac):Ac:=⟨a.k,a.s,none,0,a.parts.map Pt.er,a.e.er⟩
def Ru.er(r:Ru):Ru:=⟨r.k,r.bg,r.en,r.t.er,r.s,r.n,none,0,r.acts.map Ac.er,r.go,r.code⟩
def Sta.er(x:Sta):Sta:=⟨x.s,none,0,x.rules.map Ru.er⟩
def Sc.er(s:Sc):Sc:=⟨s.n,none,0,s.vars,none,0,s.states.map Sta.er⟩
theorem Zcv{α:Type}(f:α->Int)(g:α->α)(h:∀x,f (g x)=f x)(l:List α):ZaI ((l.map g).map f)=ZaI (l.map f):=by
 rw[List.map_map];congr 1;exact List.map_congr_left λx _=>h x
theorem Zxd(a:Ac):wA a.er=wA a:=by
 unfold wA
 show 1+nE a.e.er+((a.parts.map Pt.er).length:Int)+ZaI ((a.parts.map Pt.er).map λp=>nE p.e)=_
 rw[ZwJ,List.length_map,Zcv (λp:Pt=>nE p.e) Pt.er (λp=>ZwJ p.e)]
theorem Zxe(r:Ru):wR r.er=wR r:=by
 unfold wR
 show 1+Zhm r.t.er.size 20000+(if r.t.er.light then 0 else 20001)+ZaI ((r.acts.map Ac.er).map wA)=_
 rw[Zrb,ZoA,Zcv wA Ac.er Zxd]
theorem Zxf(x:Sta):wS x.er=wS x:=Zcv wR Ru.er Zxe x.rules
theorem ZpZ(s:Sc):s.er.weight=s.weight:=by
 unfold Sc.weight
 show(s.vars.length:Int)+((s.states.map Sta.er).length:Int)+ZaI ((s.states.map Sta.er).map wS)=_
 rw[List.length_map,Zcv wS Sta.er Zxf]
theorem Zp0(s:Sc):s.er.light=s.light:=by unfold Sc.light;rw[ZpZ]
theorem Zl8{α:Type}(f:α->Int)(hf:∀x,0<=f x){l:List α}{x:α}(hx:x∈l):f x<=ZaI (l.map f):=by
 induction l with
 | nil=>cases hx
 | cons y l ih=>
  have h1:=ZfQ f hf l
  have h2:=hf y
  simp only[List.map_cons,ZaI]
  rcases List.mem_cons.1 hx with rfl|hx
  ·omega
  ·have:=ih hx;omega
def LtA(a:Ac):Prop:=a.e.light=true/\∀p∈a.parts,p.e.light=true
def LtR(r:Ru):Prop:=r.t.light=true/\∀a∈r.acts,LtA a
theorem ZwK{e:E}(h:nE e<=20000):e.light=true:=by
 cases hl:e.light with
 | true=>rfl
 | false=>unfold nE at h;rw[hl]at h;simp at h
theorem ZvL{a:Ac}(h:wA a<=20000):LtA a:=by
 unfold wA at h
 have h1:=ZgF a.e
 have h2:=ZfQ (λp:Pt=>nE p.e) (λp=>(ZgF p.e).1) a.parts
 exact⟨ZwK (by omega),λp hp=>ZwK (by have:=Zl8 (λp:Pt=>nE p.e) (λp=>(ZgF p.e).1) hp;omega)⟩
theorem ZvM{r:Ru}(h:wR r<=20000):LtR r:=by
 unfold wR at h
 have h1:=(Zjf r.t).1
 have h2:=ZfQ wA Zq4 r.acts
 have h3:0<=Zhm r.t.size 20000:=by unfold Zhm;split <;> omega
 refine⟨?_,λa ha=>ZvL (by have:=Zl8 wA Zq4 ha;split at h <;> omega)⟩
 cases hl:r.t.light with
 | true=>rfl
 | false=>rw[hl]at h;simp at h;omega
theorem ZvN{s:Sc}(h:s.light=true):∀x∈s.states,∀r∈x.rules,LtR r:=λx hx r hr=>ZvM (by
 have h1:s.weight<=20000:=zA6 h
 unfold Sc.weight at h1
 have h2:=Zl8 wS ZwE hx
 have h3:wR r<=wS x:=Zl8 wR Zvl hr
 omega)
def QP(p q:Pt)(μ:Mem):Prop:=q.er=p.er/\RepP μ q
def QA(p q:Ac)(μ:Mem):Prop:=q.er=p.er/\RepA μ q
def QR(p q:Ru)(μ:Mem):Prop:=q.er=p.er/\RepR μ q
def ZxZ(m μ:Mem)(y:Sta):Prop:=y.rules.length<=y.rc/\(y.rules=[]\/∃b,y.ra=some ⟨b,0,none⟩/\m.free b/\m.k b=none/\∀r∈y.rules,RepR (μ.off λk=>k=b) r)
def QS(m:Mem)(x y:Sta)(μ:Mem):Prop:=y.er=x.er/\RepS μ y/\ZxZ m μ y
structure SepC (m m':Mem)(s:Sc)(b:Nat)(μ:Nat->Mem):Prop where
 sa:s.sa=some ⟨b,0,none⟩
 free:m.free b/\m.k b=none
 all:∀i x,s.states[i]?=some x->RepS (μ i) x/\ZxZ m (μ i) x/\(μ i).le (nw m m')/\(μ i).free b
 ap:∀i j,i < j->j < s.states.length->∀b',(μ i).free b'\/(μ j).free b'
 va:∃μv:Mem,rowRd μv s.va (s.vars.map Va.cs).flatten/\μv.le (nw m m')/\μv.free b/\∀i,i < s.states.length->∀b',μv.free b'\/(μ i).free b'
theorem Zp1{m0 m m' M:Mem}{x:Ac}{a:Option Addr}{c:Nat}{L':List Pt}{μ:Nat->Mem}{e:E}(hx:RepA m0 x)(h:Each Pt.cs QP m m' x.parts a c L' μ)(hM:(nw m m').le M)(he:RepE M e):RepA M ⟨x.k,x.s,a,c,L',e⟩:=
 ⟨hx.k,hx.s,by rw[h.len];exact hx.n,h.rows.mono hM,λp hp=>by
  obtain⟨i,y,_,_,hq,hs⟩:=h.at hp
  exact hq.2.mono (mLt hs hM),he⟩
theorem Zp2{m0 m m' M:Mem}{x:Ru}{a:Option Addr}{c:Nat}{L':List Ac}{μ:Nat->Mem}{t:T}(hx:RepR m0 x)(h:Each Ac.cs QA m m' x.acts a c L' μ)(hM:(nw m m').le M)(ht:Rep M t):RepR M ⟨x.k,x.bg,x.en,t,x.s,x.n,a,c,L',x.go,x.code⟩:=
 ⟨hx.k,ht,hx.s,hx.n,by rw[h.len];exact hx.len,h.rows.mono hM,λp hp=>by
  obtain⟨i,y,_,_,hq,hs⟩:=h.at hp
  exact hq.2.mono (mLt hs hM),hx.go,hx.code⟩
theorem Zjj{m m':Mem}{Y:Nat->Prop}(h:m.le m'):(m.off Y).le (m'.off Y):=⟨λb o v hv=>by
 by_cases hy:Y b
 ·rw[Mem.off_free hy]at hv;cases hv
 ·rw[Mem.off_at hy]at hv ⊢;exact h _ _ _ hv,λb e he=>by
 by_cases hy:Y b
 ·rw[Mem.off_kn hy]at he;cases he
 ·rw[Mem.off_k hy]at he ⊢;exact h.k _ _ he⟩
theorem QS.mono{m0 μ μ':Mem}{x y:Sta}(h:QS m0 x y μ)(hm:μ.le μ'):QS m0 x y μ':=
 ⟨h.1,h.2.1.mono hm,h.2.2.1,h.2.2.2.imp_right λ⟨b,h1,h2,h3,h4⟩=>⟨b,h1,h2,h3,λr hr=>(h4 r hr).mono (Zjj hm)⟩⟩
theorem ZtW{m0 m m':Mem}{x:Sta}{a:Option Addr}{c:Nat}{L':List Ru}{μ:Nat->Mem}(h0:m0.le m)(hx:RepS m x)(h:Each Ru.cs QR m m' x.rules a c L' μ):QS m0 x ⟨x.s,a,c,L'⟩ (nw m m'):=by
 refine⟨?_,⟨hx.s,by rw[h.len];exact hx.len,h.rows,λp hp=>by
  obtain⟨i,y,_,_,hq,hs⟩:=h.at hp
  exact hq.2.mono hs⟩,h.cap,?_⟩
 ·simp only[Sta.er,Sta.mk.injEq,true_and]
  exact h.same λx y μ hq=>hq.1
 ·rcases h.blk with⟨h1,_⟩|⟨_,b,hb,hf,hk,hμ⟩
  ·exact .inl (List.eq_nil_of_length_eq_zero (by rw[h.len,h1];rfl))
  ·refine .inr ⟨b,hb,Zbx h0 hf,ZfR h0 hk,λr hr=>?_⟩
   obtain⟨i,y,hi,_,hq,hs⟩:=h.at hr
   exact hq.2.mono (Zl7 hs λb' e=>by rw[e];exact hμ i (zA0 hi).1)
end Go.Rx
namespace Go.Rx
open Go Go.Eng
end Go.Rx
namespace Go.Rx
open Go Go.Eng Go.RowKit
def ZkG(x:Sta)(k:Nat):Sta:=⟨x.s,x.ra,x.rc,x.rules.eraseIdx k⟩
def Zs3(s:Sc)(i k:Nat):Sc:=match s.states[i]? with
 | some x=>⟨s.n,s.va,s.vc,s.vars,s.sa,s.sc,s.states.set i (ZkG x k)⟩
 | none=>s
def ZgM(s:Sc)(i k:Int):Bool:=s.light&&(decide (i ≥ 0)&&(decide (i < s.states.length)&&(decide (k ≥ 0)&&match s.states[i.toNat]? with
 | some x=>decide (k < x.rules.length)
 | none=>false)))
theorem Zl9{s s':Sc}(h:s'.er=s.er):s'.states.map Sta.er=s.states.map Sta.er:=congrArg Sc.states h
theorem Zxg{s s':Sc}(h:s'.er=s.er){i:Nat}{x:Sta}(hx:s.states[i]?=some x):∃x',s'.states[i]?=some x'/\x'.er=x.er:=by
 have:=congrArg (λl=>l[i]?) (Zl9 h)
 simp only[List.getElem?_map,hx,Option.map_some]at this
 obtain⟨x',h1,h2⟩:=Option.map_eq_some_iff.1 this
 exact⟨x',h1,h2⟩
theorem ZoC{x x':Sta}(h:x'.er=x.er):x'.s=x.s/\x'.rules.map Ru.er=x.rules.map Ru.er/\x'.rules.length=x.rules.length:=by
 have h2:x'.rules.map Ru.er=x.rules.map Ru.er:=congrArg Sta.rules h
 have h1:x'.er.s=x.er.s:=congrArg Sta.s h
 exact⟨h1,h2,by have:=congrArg List.length h2;simpa using this⟩
theorem ZtX{s s':Sc}(h:s'.er=s.er):s'.n=s.n/\s'.vars=s.vars:=by
 have h1:s'.er.n=s.er.n:=congrArg Sc.n h
 have h2:s'.er.vars=s.er.vars:=congrArg Sc.vars h
 exact⟨h1,h2⟩
theorem Zr7{s s':Sc}(h1:s'.n=s.n)(h2:s'.vars=s.vars)(h3:s'.states.map Sta.er=s.states.map Sta.er):s'.er=s.er:=by
 unfold Sc.er;rw[h1,h2,h3]
theorem Zh9{α β:Type}(f:α->β):∀(l:List α)(k:Nat),(l.eraseIdx k).map f=(l.map f).eraseIdx k
 | [],_=>rfl
 | _::_,0=>rfl
 | x::l,k+1=>by simp only[List.eraseIdx_cons_succ,List.map_cons,Zh9 f l k]
theorem Zr8{x x':Sta}(h:x'.er=x.er)(k:Nat):(ZkG x' k).er=(ZkG x k).er:=by
 obtain⟨h1,h2,_⟩:=ZoC h
 simp only[ZkG,Sta.er,h1,Sta.mk.injEq,true_and]
 rw[Zh9,Zh9,h2]
theorem Zr9{m:Mem}{b:Nat}{L:List Sta}{i:Nat}{x y:Sta}(h:rowRd m (some ⟨b,0,none⟩) (L.map Sta.cs).flatten)(hx:L[i]?=some x)(hs:y.s=x.s):
  rowRd (m.upd b (0+i*2+1) [.slice y.ra y.rules.length y.rc]) (some ⟨b,0,none⟩) ((L.set i y).map Sta.cs).flatten:=by
 have hi:=(zA0 hx).1
 have hl:∀l:List Sta,(l.map Sta.cs).flatten.length=l.length*2:=ZaO Sta.len
 have e0:L=L.take i++x::L.drop (i+1):=by
  have:=(zA0 hx).2
  rw[<-this,List.getElem_cons_drop,List.take_append_drop]
 have e1:L.set i y=L.take i++y::L.drop (i+1):=List.set_eq_take_append_cons_drop.trans (if_pos hi)
 have lt:(L.take i).length=i:=by rw[List.length_take];omega
 have e:∀z:Sta,((L.take i++z::L.drop (i+1)).map Sta.cs).flatten=((L.take i).map Sta.cs).flatten++(z.cs++((L.drop (i+1)).map Sta.cs).flatten):=λz=>by simp
 rw[e0,e]at h
 rw[e1,e]
 obtain⟨A,hA⟩:∃A,A=((L.take i).map Sta.cs).flatten:=⟨_,rfl⟩
 obtain⟨B,hB⟩:∃B,B=((L.drop (i+1)).map Sta.cs).flatten:=⟨_,rfl⟩
 have lA:A.length=i*2:=by rw[hA,hl,lt]
 rw[<-hA,<-hB]at h ⊢
 rcases h with h|⟨b',o',ha,h⟩
 ·have:=congrArg List.length h
  rw[zA1,zA1,Sta.len]at this
  simp at this
 cases ha
 refine .inr ⟨b,0,rfl,λj v hj=>?_⟩
 unfold Mem.upd;try dsimp only
 rw[Nat.zero_add,Nat.zero_add,List.length_singleton]
 rcases Nat.lt_or_ge j (i*2)with aC|bF
 ·rw[if_neg (by omega)]
  rw[zA5 (by omega)]at hj
  have:=h j v (by rw[zA5 (by omega)];exact hj)
  rwa [Nat.zero_add]at this
 ·rw[zA4 (by omega),lA]at hj
  by_cases uz:j=i*2
  ·subst uz
   rw[if_neg (by omega)]
   rw[Nat.sub_self]at hj
   have:=h (i*2) v (by
    rw[zA4 (by omega),lA,Nat.sub_self]
    simp only[Sta.cs,hs]at hj ⊢
    exact hj)
   rwa [Nat.zero_add]at this
  ·by_cases sE:j=i*2+1
   ·subst sE
    rw[if_pos ⟨rfl,Nat.le_refl _,Nat.lt_succ_self _⟩,Nat.sub_self]
    rw[show i*2+1 - i*2=1 by omega]at hj
    exact hj
   ·rw[if_neg (by omega)]
    rw[zA4 (by rw[Sta.len];omega),Sta.len]at hj
    have:=h j v (by
     rw[zA4 (by omega),lA,zA4 (by rw[Sta.len];omega),Sta.len];exact hj)
    rwa [Nat.zero_add]at this
theorem Zsa{m2 m3 M:Mem}{s':Sc}{bS bR i k:Nat}{μ:Nat->Mem}{x':Sta}{zs:List Value}(dd:RepC (nw m2 m3) s')(dz:SepC m2 m3 s' bS μ)(hx':s'.states[i]?=some x')(mf:x'.ra=some ⟨bR,0,none⟩)(hk:k < x'.rules.length)
  (lp:∀r∈x'.rules,RepR ((μ i).off λq=>q=bR) r) (hM:(m3.off λq=>q=bR).le M) (qF:(M.upd bS (0+i*2+1) [.slice x'.ra (x'.rules.length - 1) x'.rc]).free bR):
  RepC ((M.upd bS (0+i*2+1) [.slice x'.ra (x'.rules.length - 1) x'.rc]).add bR (((x'.rules.eraseIdx k).map Ru.cs).flatten++zs)) ⟨s'.n,s'.va,s'.vc,s'.vars,s'.sa,s'.sc,s'.states.set i (ZkG x' k)⟩:=by
 obtain⟨V,hV⟩:∃V,V=M.upd bS (0+i*2+1) [.slice x'.ra (x'.rules.length - 1) x'.rc]:=⟨_,rfl⟩
 rw[<-hV]at qF ⊢
 have hi:=(zA0 hx').1
 obtain⟨nj,ld,bM,oY⟩:=dz.all i x' hx'
 have kno:∀{ν:Mem},ν.le (nw m2 m3)->∀b,ν.k b=none:=λh b=>ZfR h rfl
 have stay:∀{ν:Mem},ν.le (m3.off λq=>q=bR)->ν.free bS->ν.le (V.add bR (((x'.rules.eraseIdx k).map Ru.cs).flatten++zs)):=λh1 h2=>
  mLt (by rw[hV];exact Mem.le_upd (mLt h1 hM) h2 _ _) (Mem.le_add qF _)
 have jh:¬(μ i).free bR:=λhf=>by
  rcases nj.row with h|⟨b,o,ha,h⟩
  ·have:=congrArg List.length h
   rw[ZaO Ru.len]at this;simp at this;omega
  ·rw[mf]at ha;cases ha
   have aC:0 < (x'.rules.map Ru.cs).flatten.length:=by rw[ZaO Ru.len];omega
   have:=h 0 _ (zA3 aC)
   rw[hf]at this;cases this
 have qG:bS≠bR:=λe=>jh (e ▸ oY)
 have off:∀{ν:Mem},ν.le (nw m2 m3)->ν.free bR->ν.le (m3.off λq=>q=bR):=λh1 h2=>Zl7 (mLt h1 (ZkF _ _)) λb e=>⟨e ▸ h2,kno h1 b⟩
 have aS:∀j,j < s'.states.length->j≠i->(μ j).free bR:=λj hj cG=>by
  rcases Nat.lt_or_ge j i with h|h
  ·exact(dz.ap j i h hi bR).resolve_right jh
  ·exact(dz.ap i j (by omega) hj bR).resolve_left jh
 have nk:=dz.sa
 refine⟨dd.n,dd.vlen,?_,dd.vall,by rw[List.length_set];exact dd.len,?_,λy hy=>?_,dd.vcap,by rw[List.length_set];exact dd.scap⟩
 ·obtain⟨μv,h1,h2,h3,h4⟩:=dz.va
  exact h1.mono (stay (off h2 ((h4 i hi bR).resolve_right jh)) h3)
 ·have aA:rowRd (m3.off λq=>q=bR) s'.sa (s'.states.map Sta.cs).flatten:=by
   rcases dd.row with h|⟨b,o,ha,h⟩
   ·exact .inl h
   ·refine .inr ⟨b,o,ha,λj v hj=>?_⟩
    rw[nk]at ha;cases ha
    rw[Mem.off_at (Y:=λq=>q=bR) qG];exact(ZkF m2 m3) _ _ _ (h j v hj)
  rw[nk]at aA
  have h5:=Zr9 (y:=ZkG x' k) (aA.mono hM) hx' rfl
  have h6:(ZkG x' k).rules.length=x'.rules.length - 1:=by simp only[ZkG];rw[List.length_eraseIdx,if_pos hk]
  rw[h6]at h5
  rw[nk]
  have h7:rowRd V (some ⟨bS,0,none⟩) ((s'.states.set i (ZkG x' k)).map Sta.cs).flatten:=by rw[hV];exact h5
  exact h7.mono (Mem.le_add qF _)
 ·obtain⟨j,hj⟩:=List.getElem?_of_mem hy
  by_cases ju:j=i
  ·subst ju
   rw[List.getElem?_set_self hi]at hj
   cases hj
   refine⟨nj.s,by show(x'.rules.eraseIdx k).length<=few;rw[List.length_eraseIdx,if_pos hk];have:=nj.len;omega,?_,λr hr=>?_⟩
   ·show rowRd _ x'.ra ((x'.rules.eraseIdx k).map Ru.cs).flatten
    rw[mf]
    refine .inr ⟨bR,0,rfl,λq v hq=>?_⟩
    rw[Nat.zero_add,Mem.add_same,zA5 (zA0 hq).1];exact hq
   ·refine(lp r (List.mem_of_mem_eraseIdx hr)).mono (stay (Zjj (mLt bM (ZkF _ _))) ?_)
    exact Zbx (Mem.off_le _ _) oY
  ·rw[List.getElem?_set_ne (Ne.symm ju)]at hj
   have oV:=(zA0 hj).1
   obtain⟨h1,_,h3,h4⟩:=dz.all j y hj
   exact h1.mono (stay (off h3 (aS j oV ju)) h4)
def ZgN(r:Ru):Bool:=decide (wR r<=19999)
theorem MkC.wR{s:Sc}(h:MkC s){i a:Nat}{x:Sta}{r:Ru}(hx:s.states[i]?=some x)(hr:x.rules[a]?=some r):Go.Rx.wR r<=405:=((h.all i x hx).all r (zA2 hr)).w
def w64(n:Int):Int:=IntKind.i64.wrap n
theorem Zia(n:Int):IntKind.i64.wrap n=(if n % 18446744073709551616 ≥ 9223372036854775808 then n % 18446744073709551616 - 18446744073709551616 else n % 18446744073709551616):=by
 unfold IntKind.wrap
 simp only[show IntKind.i64.bits=64 from rfl,show IntKind.i64.signed=true from rfl,Bool.true_and]
 simp only[show(2:Int) ^ 64=18446744073709551616 by decide,show(2:Int) ^ (64 - 1)=9223372036854775808 by decide,decide_eq_true_eq]
theorem ZoD(a b:Int):IntKind.i64.wrap (w64 a+b)=w64 (a+b):=by
 unfold w64
 rw[Zia,Zia,Zia]
 split <;> split <;> split <;> omega
theorem ZnB(a b:Int):w64 (a+b)=IntKind.i64.wrap (w64 a+b):=(ZoD a b).symm
theorem Zsb(a b:Int):IntKind.i64.wrap (a+w64 b)=w64 (a+b):=by
 rw[Int.add_comm,ZoD,Int.add_comm]
theorem ZtY(a b:Int):w64 (a+w64 b)=w64 (a+b):=Zsb a b
theorem Zx9{n:Int}(h:I64 n):w64 n=n:=by
 unfold I64 at h
 unfold w64
 rw[Zia]
 split <;> omega
theorem W_0:w64 0=0:=Zx9 (by unfold I64;omega)
def ZmV(p:E->Bool)(l:List E):Int:=((l.filter p).length:Nat)
theorem ZoE(p:E->Bool)(l r:List E):ZmV p (l++r)=ZmV p l+ZmV p r:=by unfold ZmV;rw[List.filter_append,zA1];omega
theorem Zib(p:E->Bool)(x:E)(l:List E):ZmV p (x::l)=(if p x then 1 else 0)+ZmV p l:=by
 unfold ZmV;rw[List.filter_cons];split <;> simp;omega
theorem Zrc(p:E->Bool):ZmV p []=0:=rfl
theorem Zsc(p:E->Bool){l:List E}{q:Nat}{x:E}(h:l[q]?=some x):ZmV p (l.take (q+1))=ZmV p (l.take q)+(if p x then 1 else 0):=by
 rw[List.take_add_one,h,ZoE]
 show _+ZmV p [x]=_
 rw[Zib,Zrc];omega
def ZvO(x:E):Bool:=decide (ZlW x.k > 0)
def ZwL(x:E):Bool:=x.k == 9||x.k == 10
def ZnC(e:E):Int:=if e.light then ZmV ZvO e.nodes else 0
def vrE(e:E):Int:=ZmV ZwL e.nodes
def paP(p:Pt):Int:=if p.k=1 then 0 else 1
def ZqG(p:Pt):Int:=if p.k=4 then ZnC p.e else 0
def vrP(p:Pt):Int:=if p.k=4 then vrE p.e else 0
def paA(a:Ac):Int:=ZaI (a.parts.map paP)
def Zsd(a:Ac):Int:=(if a.k=3 then ZnC a.e else 0)+ZaI (a.parts.map ZqG)
def vrA(a:Ac):Int:=(if a.k=3 then vrE a.e else 0)+ZaI (a.parts.map vrP)
def ruS(x:Sta):Int:=x.rules.length
def rgR(r:Ru):Int:=if r.k=1 then r.t.size else 0
def rgS(x:Sta):Int:=ZaI (x.rules.map rgR)
def Zma(x:Sta):List Ac:=x.rules.flatMap (·.acts)
def ZdK(s:Sc):List Ac:=s.states.flatMap Zma
def msV(a b c d e f:Int):List Value:=[.int .i64 a,.int .i64 b,.int .i64 c,.int .i64 d,.int .i64 e,.int .i64 f]
def ms1(s:Sc):Int:=ZaI (s.states.map ruS)
def ms2(s:Sc):Int:=ZaI (s.states.map rgS)
def ms3(s:Sc):Int:=ZaI ((ZdK s).map paA)
def ms4(s:Sc):Int:=ZaI ((ZdK s).map Zsd)
def ms5(s:Sc):Int:=ZaI ((ZdK s).map vrA)
def Zjk(s:Sc):List Value:=if s.light then msV s.states.length (w64 (ms1 s)) (w64 (ms2 s)) (w64 (ms3 s)) (w64 (ms4 s)) (w64 (ms5 s))else msV 0 0 0 0 0 0
theorem ZaS{α:Type}(f:α->Int){l:List α}{q:Nat}{x:α}(h:l[q]?=some x):ZaI ((l.take (q+1)).map f)=ZaI ((l.take q).map f)+f x:=by
 rw[List.take_add_one,h,List.map_append,ZkO]
 show _+(f x+0)=_
 omega
theorem Zmb{α β:Type}(f:α->List β){l:List α}{q:Nat}{x:α}(h:l[q]?=some x):(l.take (q+1)).flatMap f=(l.take q).flatMap f++f x:=by
 rw[List.take_add_one,h,List.flatMap_append]
 simp
theorem Zrd{α β:Type}(f:α->List β){l:List α}{q:Nat}{x:α}(h:l[q]?=some x){j:Nat}{y:β}(hj:(f x)[j]?=some y):(l.flatMap f)[((l.take q).flatMap f).length+j]?=some y:=by
 have e:l=l.take q++x::l.drop (q+1):=by
  have hq:=(zA0 h).1
  rw[<-(zA0 h).2,<-List.drop_eq_getElem_cons hq,List.take_append_drop]
 have e2:l.flatMap f=(l.take q).flatMap f++(f x++(l.drop (q+1)).flatMap f):=by
  conv=>lhs;rw[e]
  rw[List.flatMap_append,List.flatMap_cons]
 rw[e2,zA4 (by omega),Nat.add_sub_cancel_left,zA5 (zA0 hj).1]
 exact hj
theorem Zse{m:Mem}{s:Sc}(hr:RepC m s){a:Ac}(h:a∈ZdK s):RepA m a:=by
 unfold ZdK Zma at h
 obtain⟨x,hx,h⟩:=List.mem_flatMap.1 h
 obtain⟨r,dY,h⟩:=List.mem_flatMap.1 h
 exact((hr.all x hx).all r dY).all a h
end Go.Rx
namespace Go.Rx
open Go Go.Eng
def mx1(x:Int):Int:=if(-1) > x then -1 else x
def ZtZ(p:Pl):List Int:=[mx1 p.s,mx1 p.v,mx1 p.r,mx1 p.a,mx1 p.p]
def Zmc:List Int->List Int->Int
 | [],[]=>0
 | [],_::_=>-1
 | _::_,[]=>1
 | x::l,y::r=>if x < y then -1 else if x > y then 1 else Zmc l r
def ZbQ(p q:Pl):Bool:=decide (Zmc (ZtZ p) (ZtZ q) < 0)
theorem Zex(x y:Int)(l r:List Int):Zmc (x::l) (y::r) < 0↔x < y\/(x=y/\Zmc l r < 0):=by
 simp only[Zmc]
 by_cases h:x < y
 ·simp[h]
 ·by_cases h2:x > y
  ·simp only[h,if_false,h2,if_true,false_or]
   constructor
   ·intro h;exact absurd h (by decide)
   ·intro⟨e,_⟩;omega
  ·have e:x=y:=by omega
   subst e
   simp
theorem ZaP{p q:Pl}:ZbQ p q=true↔mx1 p.s < mx1 q.s\/(mx1 p.s=mx1 q.s/\(mx1 p.v < mx1 q.v\/(mx1 p.v=mx1 q.v/\(mx1 p.r < mx1 q.r\/(mx1 p.r=mx1 q.r/\(mx1 p.a < mx1 q.a\/(mx1 p.a=mx1 q.a/\mx1 p.p < mx1 q.p))))))):=by
 unfold ZbQ
 rw[decide_eq_true_iff]
 unfold ZtZ
 rw[Zex,Zex,Zex,Zex,Zex]
 simp[Zmc]
theorem Ze4(p:Pl):¬ZbQ p p=true:=by
 rw[ZaP];omega
theorem Zc0(n:Nat):mx1 (n:Int)=n:=by unfold mx1;rw[if_neg (by omega)]
theorem Zc1:mx1 (-1)=-1:=by decide
theorem Zjl{n:Nat}{f:Nat->List Pl}(h1:∀i,i < n->(f i).Pairwise λp q=>ZbQ p q=true)(h2:∀i j,i < j->j < n->∀p∈f i,∀q∈f j,ZbQ p q=true):(Zcs n f).Pairwise λp q=>ZbQ p q=true:=by
 induction n with
 | zero=>exact .nil
 | succ n ih=>
  rw[Za8,List.pairwise_append]
  refine⟨ih (λi hi=>h1 i (by omega)) (λi j md hj=>h2 i j md (by omega)),h1 n (by omega),λp hp q hq=>?_⟩
  obtain⟨i,hi,hp⟩:=Za9 hp
  exact h2 i n hi (by omega) p hp q hq
theorem ZvP{i k m:Nat}{a:Ac}{p:Pl}(h:p∈plA i k m a):p.v=-1/\p.s=i/\p.r=k/\p.a=m/\-1<=p.p:=by
 rw[ZjZ]at h
 rcases List.mem_cons.1 h with rfl|h
 ·exact⟨rfl,rfl,rfl,rfl,by show(-1:Int)<=-1;decide⟩
 ·obtain⟨n,_,h⟩:=Za9 h
  obtain rfl:p=⟨-1,i,k,m,n⟩:=by simpa[Pf]using h
  exact⟨rfl,rfl,rfl,rfl,by show(-1:Int)<=(n:Int);omega⟩
theorem ZvQ(i k m:Nat)(a:Ac):(plA i k m a).Pairwise λp q=>ZbQ p q=true:=by
 rw[ZjZ,List.pairwise_cons]
 refine⟨λq hq=>?_,Zjl (λn _=>by simp[Pf]) λn n' hn _ p hp q hq=>?_⟩
 ·obtain⟨n,_,h⟩:=Za9 hq
  obtain rfl:q=⟨-1,i,k,m,n⟩:=by simpa[Pf]using h
  rw[ZaP];simp only[Zc0,Zc1,true_and];omega
 ·obtain rfl:p=⟨-1,i,k,m,n⟩:=by simpa[Pf]using hp
  obtain rfl:q=⟨-1,i,k,m,n'⟩:=by simpa[Pf]using hq
  rw[ZaP];simp only[Zc0,Zc1,true_and];omega
theorem Zt0{i k j:Nat}{r:Ru}{p:Pl}(h:p∈Hf i k r j):p.v=-1/\p.s=i/\p.r=k/\p.a=j:=by
 unfold Hf at h
 split at h
 ·have:=ZvP h;exact⟨this.1,this.2.1,this.2.2.1,this.2.2.2.1⟩
 ·simp at h
theorem ZvR{i k:Nat}{r:Ru}{p:Pl}(h:p∈plR i k r):p.v=-1/\p.s=i/\p.r=k:=by
 rw[Zj0]at h
 rcases List.mem_cons.1 h with rfl|h
 ·exact⟨rfl,rfl,rfl⟩
 ·obtain⟨n,_,h⟩:=Za9 h
  have:=Zt0 h;exact⟨this.1,this.2.1,this.2.2.1⟩
theorem ZvS(i k:Nat)(r:Ru):(plR i k r).Pairwise λp q=>ZbQ p q=true:=by
 rw[Zj0,List.pairwise_cons]
 refine⟨λq hq=>?_,Zjl (λn _=>?_) λn n' hn _ p hp q hq=>?_⟩
 ·obtain⟨n,_,h⟩:=Za9 hq
  obtain⟨e1,e2,e3,e4⟩:=Zt0 h
  rw[ZaP,e1,e2,e3,e4];simp only[Zc0,Zc1,true_and];omega
 ·unfold Hf;split
  ·exact ZvQ _ _ _ _
  ·exact .nil
 ·obtain⟨e1,e2,e3,e4⟩:=Zt0 hp
  obtain⟨d1,d2,d3,d4⟩:=Zt0 hq
  rw[ZaP,e1,e2,e3,e4,d1,d2,d3,d4];simp only[Zc0,Zc1,true_and];omega
theorem Zt1{i k:Nat}{x:Sta}{p:Pl}(h:p∈Gf i x k):p.v=-1/\p.s=i/\p.r=k:=by
 unfold Gf at h
 split at h
 ·exact ZvR h
 ·simp at h
theorem ZvT{i:Nat}{x:Sta}{p:Pl}(h:p∈plS i x):p.v=-1/\p.s=i:=by
 rw[Zj1]at h
 rcases List.mem_cons.1 h with rfl|h
 ·exact⟨rfl,rfl⟩
 ·obtain⟨n,_,h⟩:=Za9 h
  have:=Zt1 h;exact⟨this.1,this.2.1⟩
theorem ZvU(i:Nat)(x:Sta):(plS i x).Pairwise λp q=>ZbQ p q=true:=by
 rw[Zj1,List.pairwise_cons]
 refine⟨λq hq=>?_,Zjl (λn _=>?_) λn n' hn _ p hp q hq=>?_⟩
 ·obtain⟨n,_,h⟩:=Za9 hq
  obtain⟨e1,e2,e3⟩:=Zt1 h
  rw[ZaP,e1,e2,e3];simp only[Zc0,Zc1,true_and];omega
 ·unfold Gf;split
  ·exact ZvS _ _ _
  ·exact .nil
 ·obtain⟨e1,e2,e3⟩:=Zt1 hp
  obtain⟨d1,d2,d3⟩:=Zt1 hq
  rw[ZaP,e1,e2,e3,d1,d2,d3];simp only[Zc0,Zc1,true_and];omega
theorem Zt2{s:Sc}{i:Nat}{p:Pl}(h:p∈Ff s i):p.v=-1/\p.s=i:=by
 unfold Ff at h
 split at h
 ·exact ZvT h
 ·simp at h
theorem Zic(s:Sc):s.places.Pairwise λp q=>ZbQ p q=true:=by
 cases h:s.light with
 | false=>unfold Sc.places;rw[h];exact .nil
 | true=>
  rw[ZdA h,List.pairwise_cons,List.pairwise_append]
  refine⟨λq hq=>?_,Zjl (λn _=>by simp[Vf]) (λn n' hn _ p hp q hq=>?_),Zjl (λn _=>?_) (λn n' hn _ p hp q hq=>?_),λp hp q hq=>?_⟩
  ·rcases List.mem_append.1 hq with hq|hq
   ·obtain⟨n,_,h⟩:=Za9 hq
    obtain rfl:q=⟨n,-1,-1,-1,-1⟩:=by simpa[Vf]using h
    rw[ZaP];simp only[top,Zc0,Zc1,true_and];omega
   ·obtain⟨n,_,h⟩:=Za9 hq
    obtain⟨e1,e2⟩:=Zt2 h
    rw[ZaP,e1,e2];simp only[top,Zc0,Zc1,true_and];omega
  ·obtain rfl:p=⟨n,-1,-1,-1,-1⟩:=by simpa[Vf]using hp
   obtain rfl:q=⟨n',-1,-1,-1,-1⟩:=by simpa[Vf]using hq
   rw[ZaP];simp only[Zc0,Zc1,true_and];omega
  ·unfold Ff;split
   ·exact ZvU _ _
   ·exact .nil
  ·obtain⟨e1,e2⟩:=Zt2 hp
   obtain⟨d1,d2⟩:=Zt2 hq
   rw[ZaP,e1,e2,d1,d2];simp only[Zc0,Zc1,true_and];omega
  ·obtain⟨n,_,h1⟩:=Za9 hp
   obtain⟨n',_,h2⟩:=Za9 hq
   obtain rfl:p=⟨n,-1,-1,-1,-1⟩:=by simpa[Vf]using h1
   obtain⟨d1,d2⟩:=Zt2 h2
   rw[ZaP,d1,d2];simp only[Zc0,Zc1,true_and];omega
end Go.Rx
namespace Go.Rx
open Go Go.Eng Go.RowKit
theorem Zre(f:Sta->Int)(hf:∀x,0<=f x):∀l:List Sta,0<=ZaI (l.map f)
 | []=>by simp[ZaI]
 | x::l=>by have:=hf x;have:=Zre f hf l;simp only[List.map_cons,ZaI];omega
theorem MkC.ms1{s:Sc}(h:MkC s):0<=Go.Rx.ms1 s/\Go.Rx.ms1 s<=20:=by
 refine⟨Zre _ (λx=>by unfold ruS;omega) _,?_⟩
 have:=ZgL ruS 5 s.states (λx hx=>by
  obtain⟨i,hi⟩:=List.getElem?_of_mem hx
  have:=(h.all i x hi).len
  unfold ruS;omega)
 have h2:=h.len.2
 unfold Go.Rx.ms1
 omega
section
variable {P:Program} {K:TypeId} {κ ν:Type} [DecidableEq κ] {f:κ->Value} {g:ν->Value}
def ZwM(f:κ->Value)(g:ν->Value)(L:List (κ×ν)):List (Value×Value):=L.map λq=>(f q.1,g q.2)
variable (he:∀a b:κ,EqIs P K (f a) (f b) (decide (a=b)))
include he
theorem ZoF(k:κ):∀L:List (κ×ν),k ∉ L.map (·.1)->MapFind P K (f k) (ZwM f g L) none
 | [],_=>rfl
 | q::L,h=>by
  simp only[List.map_cons,List.mem_cons,not_or]at h
  have:=he k q.1
  rw[decide_eq_false h.1]at this
  exact .inr ⟨this,ZoF k L h.2⟩
theorem Zrf(k:κ)(z:ν):∀L:List (κ×ν),k ∉ L.map (·.1)->ZhI P K (f k) (g z) (ZwM f g L) (ZwM f g (L++[(k,z)]))
 | [],_=>rfl
 | q::L,h=>by
  simp only[List.map_cons,List.mem_cons,not_or]at h
  have:=he k q.1
  rw[decide_eq_false h.1]at this
  exact .inr ⟨this,_,Zrf k z L h.2,rfl⟩
theorem Zrg(k:κ)(z:ν):∀L:List (κ×ν),(k,z)∈L->(L.map (·.1)).Nodup->MapFind P K (f k) (ZwM f g L) (some (g z))
 | [],h,_=>by cases h
 | q::L,h,hn=>by
  have h0:=he k q.1
  rw[List.map_cons,List.nodup_cons]at hn
  rcases List.mem_cons.1 h with h|h
  ·subst h
   rw[decide_eq_true rfl]at h0
   exact .inl ⟨h0,rfl⟩
  ·have:¬k=q.1:=λe=>hn.1 (by rw[<-e];exact List.mem_map.2 ⟨_,h,rfl⟩)
   rw[decide_eq_false this]at h0
   exact .inr ⟨h0,Zrg k z L h hn.2⟩
end
theorem Zp3{s t:Sc}(hs:s.light=true)(ht:t.light=true)(ef:∀x∈t.states,x∈s.states)(cD:∀x∈s.states,x∈t.states)(name:ByteArray):ZpU t name=ZpU s name:=by
 unfold ZpU
 rw[hs,ht,Bool.and_true,Bool.and_true,Bool.eq_iff_iff,List.any_eq_true,List.any_eq_true]
 exact⟨λ⟨x,h1,h2⟩=>⟨x,ef x h1,h2⟩,λ⟨x,h1,h2⟩=>⟨x,cD x h1,h2⟩⟩
structure Turn (s t:Sc):Prop where
 n:t.n=s.n
 vars:t.vars=s.vars
 len:t.states.length=s.states.length
 sub:∀x∈t.states,x∈s.states
 sup:∀x∈s.states,x∈t.states
 dif:∀(i j:Nat)(x y:Sta),t.states[i]?=some x->t.states[j]?=some y->i≠j->eqS x.s y.s=false
section
variable {s t:Sc} (h:MkC s) (hT:Turn s t)
include h hT
theorem Turn.weight:t.weight<=8200:=by
 have h1:=ZgL wS 2025 t.states (λx hx=>by
  obtain⟨i,_,hm⟩:=h.state (hT.sub x hx)
  exact hm.w)
 have h2:=h.len
 have h3:=h.vlen
 unfold Sc.weight
 rw[hT.vars,hT.len]
 rw[hT.len]at h1
 omega
theorem Turn.light:t.light=true:=by unfold Sc.light;exact decide_eq_true (by have:=hT.weight h;omega)
theorem Turn.totals(i k:Nat):Rx.totals t i k<=600:=by
 have h0:=h.len
 have h1:=ZgL (λx:Sta=>ZaI (x.rules.map Rx.sizeR)) 130 (t.states.take i) (λx hx=>by
  obtain⟨j,_,hm⟩:=h.state (hT.sub x (List.mem_of_mem_take hx))
  have:=hm.sizes x.rules.length
  rwa [List.take_length]at this)
 rw[List.length_take,hT.len]at h1
 unfold Rx.totals
 cases hx:t.states[i]? with
 | none=>show _+0<=_;omega
 | some x=>
  have hi:=(zA0 hx).1
  rw[hT.len]at hi
  obtain⟨j,_,hm⟩:=h.state (hT.sub x (zA2 hx))
  have:=hm.sizes (k+1)
  show _+ZaI ((x.rules.take (k+1)).map Rx.sizeR)<=_
  omega
theorem Turn.at0:∀p∈t.places,atS t p=0:=by
 intro p hp
 have hP:∀{r:Ru} {a:Ac},MkA (ZcZ r) a->∀{n:Nat} {q:Pt},a.parts[n]?=some q->ZkE t r a.parts n q=0:=λ{r a} ha {n q} hq=>by
  have e:ZkE t r a.parts n q=ZkE s r a.parts n q:=by unfold ZkE ZgG Zc6 ZgG;rw[hT.vars]
  rw[e]
  cases ha with
  | send _ _ l hl=>exact h.part hl hq
  | set _ _ _ _ l hl=>exact h.part hl hq
  | let_ _ _ e _=>simp at hq
 rcases Zl0 t p hp with⟨i,hi,v,hv⟩|⟨hv,hs|⟨i,hi,x,hx,hr|⟨k,hk,r,hr,ha|⟨j,hj,a,ha,hq|⟨n,hn,q,hq⟩⟩⟩⟩⟩
 ·have e:atS t p=Zct t i v:=by
   unfold atS
   rw[if_pos (by omega),show p.v.toNat=i by omega,hv]
  have e2:Zct t i v=Zct s i v:=by unfold Zct;rw[hT.vars]
  rw[e,e2];exact h.var (by rw[<-hT.vars];exact hv)
 all_goals have hv':¬p.v ≥ 0:=by omega
 ·unfold atS
  rw[if_neg hv',if_pos hs]
  have e:ZlX t=ZlX s:=by unfold ZlX;rw[hT.n,hT.len,hT.vars]
  rw[e];exact h.whole
 all_goals
  have hs':¬p.s < 0:=by omega
  have jv:p.s.toNat=i:=by omega
  obtain⟨i0,oZ,hm⟩:=h.state (hT.sub x (zA2 ‹t.states[i]?=some x›))
 ·have e:atS t p=ZlY t i x:=by
   unfold atS
   rw[if_neg hv',if_neg hs',jv,hx]
   exact if_pos hr
  rw[e]
  have h1:Zfe x.s=true:=Zq7 _ (zA2 hm.name)
  have h2:decide (x.rules.length > 12)=false:=decide_eq_false (by have:=hm.len;omega)
  have h3:((t.states.take i).any λy=>eqS y.s x.s)=false:=by
   rw[List.any_eq_false]
   intro y hy
   obtain⟨j,hj⟩:=List.getElem?_of_mem hy
   have ju:j < i:=by have:=(zA0 hj).1;rw[List.length_take]at this;omega
   rw[List.getElem?_take_of_lt ju]at hj
   rw[hT.dif j i y x hj hx (by omega)];simp
  simp[ZlY,Zcf,h1,h2,h3]
 all_goals
  have hr':¬p.r < 0:=by omega
  have gw:p.r.toNat=k:=by omega
  have hR:=hm.all r (zA2 hr)
 ·have e:atS t p=Zoq t r (Rx.totals t i k):=by
   unfold atS
   rw[if_neg hv',if_neg hs',jv,hx]
   show(if p.r < 0 then _ else _)=_
   rw[if_neg hr',gw,hr]
   exact if_pos ha
  have e2:∀n,Zoq t r n=Zoq s r n:=λn=>by unfold Zoq;rw[Zp3 h.light (hT.light h) hT.sub hT.sup]
  rw[e,e2];exact h.rule hR (hT.totals h i k)
 all_goals
  have ha':¬p.a < 0:=by omega
  have jL:p.a.toNat=j:=by omega
  have hA:=hR.all a (zA2 ‹r.acts[j]?=some a›)
 ·have e:atS t p=Zdz t r a:=by
   unfold atS
   rw[if_neg hv',if_neg hs',jv,hx]
   show(if p.r < 0 then _ else _)=_
   rw[if_neg hr',gw,hr]
   show(if p.a < 0 then _ else _)=_
   rw[if_neg ha',jL,‹r.acts[j]?=some a›]
   exact if_pos hq
  have e2:Zdz t r a=Zdz s r a:=by unfold Zdz ZgG Zc6 ZgG;rw[hT.vars]
  rw[e,e2];exact h.action hA
 ·have e:atS t p=ZkE t r a.parts n q:=by
   unfold atS
   rw[if_neg hv',if_neg hs',jv,hx]
   show(if p.r < 0 then _ else _)=_
   rw[if_neg hr',gw,hr]
   show(if p.a < 0 then _ else _)=_
   rw[if_neg ha',jL,‹r.acts[j]?=some a›]
   show(if p.p < 0 then _ else _)=_
   rw[if_neg (by omega),show p.p.toNat=n by omega,hq]
  rw[e];exact hP hA hq
theorem Turn.check:t.check=(top,0):=by
 have e:t.problems=[]:=by
  unfold Sc.problems
  rw[List.filterMap_eq_nil_iff]
  intro p hp
  rw[if_pos (hT.at0 h p hp)]
 unfold Sc.check
 rw[if_pos (hT.light h),e]
end
end Go.Rx
namespace Go.Rx
open Go Go.Eng
def Zp4(l:List Int):List Int:=l.mergeSort λx y=>decide (x<=y)
theorem Zmd(l:List Int):(Zp4 l).length=l.length:=List.length_mergeSort l
theorem Zp5{l:List Int}{x:Int}:x∈Zp4 l↔x∈l:=List.mem_mergeSort
theorem ZfS(l:List Int):(Zp4 l).Pairwise (·<=·):=
 (List.pairwise_mergeSort (le:=λx y:Int=>decide (x<=y)) (λa b c h1 h2=>by simp at h1 h2 ⊢;omega) (λa b=>by simp;omega) l).imp λh=>zA6 h
def Zrh(l:List Int):List Int:=Go.Lib.compact (Zp4 l)
theorem ZdX{zs:List Int}(h:zs.Pairwise (·<=·)):∀m,m<=zs.length->(Go.Lib.compactUpTo zs.toArray m).Pairwise (· < ·)/\∀x,x∈Go.Lib.compactUpTo zs.toArray m↔x∈zs.take m
 | 0,_=>by simp[Go.Lib.compactUpTo]
 | m+1,hm=>by
  obtain⟨h1,h2⟩:=ZdX h m (by omega)
  have aC:m < zs.length:=hm
  have em:zs.toArray[m]! = zs[m]:=by rw[getElem!_pos _ m (by simpa using aC)];simp
  have bW:∀x,x∈zs.take (m+1)↔x∈zs.take m\/x=zs[m]:=λx=>by
   rw[List.take_add_one,zA3 aC,List.mem_append];simp
  have bM:∀x∈zs.take m,∀k,m<=k+1->(hk:k < zs.length)->k < m->x<=zs[k]:=λx hx k gY hk iv=>by
   obtain⟨i,hi,rfl⟩:=List.mem_iff_getElem.1 hx
   rw[List.length_take]at hi
   rw[List.getElem_take]
   by_cases e:i=k
   ·subst e;exact Int.le_refl _
   ·exact List.pairwise_iff_getElem.1 h i k (by omega) hk (by omega)
  rw[Go.Lib.compactUpTo_succ]
  cases hk:Go.Lib.keeps zs.toArray m with
  | true=>
   rw[if_pos rfl,em]
   refine⟨List.pairwise_append.2 ⟨h1,List.pairwise_singleton _ _,λx hx y hy=>?_⟩,λx=>?_⟩
   ·rw[List.mem_singleton]at hy;subst hy
    have hx:=(h2 x).1 hx
    have h0:0 < m:=by
     cases m with
     | zero=>simp at hx
     | succ m=>omega
    have cG:zs.toArray[m]!≠zs.toArray[m - 1]!:=by
     unfold Go.Lib.keeps at hk
     have:=zA6 hk
     rcases this with h|h
     ·omega
     ·exact h
    rw[em,getElem!_pos _ (m - 1) (by simp;omega)]at cG
    simp only[List.getElem_toArray]at cG
    have h3:=bM x hx (m - 1) (by omega) (by omega) (by omega)
    have h4:=List.pairwise_iff_getElem.1 h (m - 1) m (by omega) aC (by omega)
    omega
   ·rw[List.mem_append,h2,bW,List.mem_singleton]
  | false=>
   rw[if_neg (by decide),List.append_nil]
   refine⟨h1,λx=>?_⟩
   rw[h2,bW]
   refine⟨.inl,λhx=>hx.elim id λe=>?_⟩
   unfold Go.Lib.keeps at hk
   have hk:=of_decide_eq_false hk
   have dN:m≠0:=λe=>hk (.inl e)
   have he:zs.toArray[m]! = zs.toArray[m - 1]!:=Classical.byContradiction λe=>hk (.inr e)
   rw[em,getElem!_pos _ (m - 1) (by simp;omega)]at he
   simp only[List.getElem_toArray]at he
   rw[e,he]
   exact List.mem_iff_getElem.2 ⟨m - 1,by rw[List.length_take];omega,by rw[List.getElem_take]⟩
theorem Zt3(l:List Int):(Zrh l).Pairwise (· < ·):=(ZdX (ZfS l) _ (Nat.le_refl _)).1
theorem Zsf{l:List Int}{x:Int}:x∈Zrh l↔x∈l:=by
 have:=(ZdX (ZfS l) _ (Nat.le_refl _)).2 x
 rw[List.take_length,Zp5]at this
 exact this
theorem ZvV{l r:List Int}(hl:l.Pairwise (· < ·))(hr:r.Pairwise (· < ·))(h:∀x,x∈l↔x∈r):l=r:=by
 have p:l.Perm r:=(List.perm_ext_iff_of_nodup (hl.imp λh=>by omega) (hr.imp λh=>by omega)).2 h
 exact p.eq_of_pairwise (le:=λx y:Int=>x < y) (λa b _ _ h1 h2=>by omega) hl hr
theorem Zme{l:List Int}(h:l.Pairwise (· < ·)):Zrh l=l:=ZvV (Zt3 l) h λx=>Zsf
def ZvW(L:List (ByteArray×Nat))(n:ByteArray):Bool:=L.any λq=>decide (q.1=n)
theorem Ze5{L:List (ByteArray×Nat)}{n:ByteArray}:ZvW L n=true↔n∈L.map (·.1):=by
 unfold ZvW
 rw[List.any_eq_true,List.mem_map]
 exact⟨λ⟨q,h1,h2⟩=>⟨q,h1,zA6 h2⟩,λ⟨q,h1,h2⟩=>⟨q,h1,decide_eq_true h2⟩⟩
def Zcw(L:List Sta):Nat->List (ByteArray×Nat)
 | 0=>[]
 | i+1=>match L[i]? with
  | some x=>if ZvW (Zcw L i) x.s then Zcw L i else Zcw L i++[(x.s,i)]
  | none=>Zcw L i
theorem Zp6{L:List Sta}{i:Nat}{x:Sta}(h:L[i]?=some x):Zcw L (i+1)=if ZvW (Zcw L i) x.s then Zcw L i else Zcw L i++[(x.s,i)]:=by
 rw[Zcw,h]
theorem Zjm(L:List Sta):∀i,((Zcw L i).map (·.1)).Nodup
 | 0=>List.nodup_nil
 | i+1=>by
  have ih:=Zjm L i
  rw[Zcw]
  split
  ·split
   ·exact ih
   ·rename_i h
    rw[Ze5]at h
    rw[List.map_append,List.nodup_append]
    refine⟨ih,by simp,λa ha b hb e=>h ?_⟩
    simp at hb;subst hb;subst e;exact ha
  ·exact ih
theorem ZoG(L:List Sta)(n:ByteArray):∀i,n∈(Zcw L i).map (·.1)↔∃j x,j < i/\L[j]?=some x/\x.s=n
 | 0=>by simp[Zcw]
 | i+1=>by
  have ih:=ZoG L n i
  have more:(∃j x,j < i+1/\L[j]?=some x/\x.s=n)↔(∃j x,j < i/\L[j]?=some x/\x.s=n)\/∃x,L[i]?=some x/\x.s=n:=by
   constructor
   ·rintro⟨j,x,h1,h2,h3⟩
    by_cases e:j=i
    ·subst e;exact .inr ⟨x,h2,h3⟩
    ·exact .inl ⟨j,x,by omega,h2,h3⟩
   ·rintro(⟨j,x,h1,h2,h3⟩|⟨x,h2,h3⟩)
    ·exact⟨j,x,by omega,h2,h3⟩
    ·exact⟨i,x,by omega,h2,h3⟩
  rw[more,<-ih,Zcw]
  cases hx:L[i]? with
  | none=>simp
  | some x=>
   simp only[Option.some.injEq,exists_eq_left']
   split
   ·rename_i h
    rw[Ze5]at h
    exact⟨.inl,λk=>k.elim id λe=>e ▸ h⟩
   ·rw[List.map_append,List.mem_append]
    simp[eq_comm]
theorem ZoH(L:List Sta)(n:ByteArray)(k:Nat):∀i,(n,k)∈Zcw L i↔k < i/\(∃x,L[k]?=some x/\x.s=n)/\∀j y,j < k->L[j]?=some y->y.s≠n
 | 0=>by simp[Zcw]
 | i+1=>by
  have ih:=ZoH L n k i
  have hk:=ZoG L n i
  rw[Zcw]
  cases hx:L[i]? with
  | none=>
   simp only
   rw[ih]
   refine⟨λh=>⟨by omega,h.2⟩,λ⟨h1,⟨x,h2,h3⟩,h4⟩=>⟨?_,⟨x,h2,h3⟩,h4⟩⟩
   by_cases e:k=i
   ·subst e;rw[hx]at h2;cases h2
   ·omega
  | some x=>
   simp only
   split
   ·rename_i ef
    rw[Ze5]at ef
    rw[ih]
    refine⟨λh=>⟨by omega,h.2⟩,λ⟨h1,⟨y,h2,h3⟩,h4⟩=>⟨?_,⟨y,h2,h3⟩,h4⟩⟩
    by_cases e:k=i
    ·subst e
     rw[hx]at h2;cases h2
     subst h3
     obtain⟨j,z,g1,g2,g3⟩:=hk.1 ef
     exact absurd g3 (h4 j z g1 g2)
    ·omega
   ·rename_i ef
    rw[Ze5]at ef
    rw[List.mem_append,ih,List.mem_singleton,Prod.mk.injEq]
    constructor
    ·rintro(h|⟨rfl,rfl⟩)
     ·exact⟨by omega,h.2⟩
     ·refine⟨by omega,⟨x,hx,rfl⟩,λj y h1 h2 h3=>ef (hk.2 ⟨j,y,h1,h2,h3⟩)⟩
    ·rintro⟨h1,⟨y,h2,h3⟩,h4⟩
     by_cases e:k=i
     ·subst e
      rw[hx]at h2;cases h2
      exact .inr ⟨h3.symm,rfl⟩
     ·exact .inl ⟨by omega,⟨y,h2,h3⟩,h4⟩
def goI(L:List Sta)(n:ByteArray):Option Nat:=L.findIdx? λx=>decide (x.s=n)
theorem ZkV{L:List Sta}{n:ByteArray}{k:Nat}:goI L n=some k↔(n,k)∈Zcw L L.length:=by
 rw[ZoH,goI,List.findIdx?_eq_some_iff_getElem]
 constructor
 ·rintro⟨h,h1,h2⟩
  refine⟨h,⟨L[k],zA3 h,zA6 h1⟩,λj y hj hy e=>?_⟩
  obtain⟨g1,g2⟩:=zA0 hy
  have:=h2 j hj
  rw[g2]at this
  simp[e]at this
 ·rintro⟨h,⟨x,h1,h2⟩,h3⟩
  refine⟨h,?_,λj hj=>?_⟩
  ·rw[(zA0 h1).2];exact decide_eq_true h2
  ·have:=h3 j L[j] hj (zA3 (by omega))
   simpa using this
theorem ZvX{L:List Sta}{n:ByteArray}{k:Nat}(h:goI L n=some k):k < L.length:=((ZoH L n k _).1 (ZkV.1 h)).1
def ZuY(L:List Sta)(r:Ru):Option Int:=if r.go.size=0 then none else(goI L r.go).map λk:Nat=>(k:Int)
def Zj2(L:List Sta)(l:List Ru):List Int:=l.filterMap (ZuY L)
theorem Zsg{L:List Sta}{l:List Ru}{i:Nat}{r:Ru}(h:l[i]?=some r):Zj2 L (l.take (i+1))=Zj2 L (l.take i)++(ZuY L r).toList:=by
 unfold Zj2
 rw[List.take_add_one,h,List.filterMap_append]
 congr 1
theorem Zt4(L:List Sta)(l:List Ru):(Zj2 L l).length<=l.length:=List.length_filterMap_le _ _
def ZuZ(L:List Sta)(x:Sta):List Int:=Zrh (Zj2 L x.rules)
end Go.Rx
namespace Go.Rx
open Go Go.Eng Go.RowKit
end Go.Rx
namespace Go.Rx
open Go Go.Eng
def Zed(out:List ByteArray)(n:ByteArray):List ByteArray:=if out.any (λy=>eqS n y)then out else out++[n]
def ZcB(out:List ByteArray)(p:Pt):List ByteArray:=if p.k=2 then Zed out p.s else if p.k=4 then p.e.vars.foldl Zed out else out
def ZbZ(out:List ByteArray)(a:Ac):List ByteArray:=if a.k=3 then a.e.vars.foldl Zed out else out
def Ze6(w:Bool)(out:List ByteArray)(a:Ac):List ByteArray:=if w then(if a.k=2\/a.k=3 then Zed out a.s else out)else a.parts.foldl ZcB (ZbZ out a)
def Zp7(w:Bool)(r:Ru):List ByteArray:=if ZgN r then r.acts.foldl (Ze6 w) []else[]
theorem Zey{α β:Type}(f:β->α->β)(b:β){l:List α}{i:Nat}{x:α}(h:l[i]?=some x):(l.take (i+1)).foldl f b=f ((l.take i).foldl f b) x:=by
 rw[List.take_add_one,h,List.foldl_append];rfl
theorem ZkW(out:List ByteArray)(n:ByteArray):out.length<=(Zed out n).length/\(Zed out n).length<=out.length+1:=by
 unfold Zed;split <;> simp
theorem ZvY{out:List ByteArray}{n:ByteArray}(h:out.any (λy=>eqS n y)=false):Zed out n=out++[n]:=by unfold Zed;rw[h,if_neg (by decide)]
theorem ZvZ{out:List ByteArray}{n:ByteArray}(h:out.any (λy=>eqS n y)=true):Zed out n=out:=by unfold Zed;rw[h,if_pos rfl]
theorem Zri{α:Type}{f:List ByteArray->α->List ByteArray}{w:α->Nat}(h:∀o x,o.length<=(f o x).length/\(f o x).length<=o.length+w x):∀(l:List α)(o:List ByteArray),o.length<=(l.foldl f o).length/\(l.foldl f o).length<=o.length+(l.map w).sum
 | [],o=>by simp
 | x::l,o=>by
  have h1:=h o x
  have h2:=Zri h l (f o x)
  simp only[List.foldl_cons,List.map_cons,List.sum_cons];omega
theorem ZkX(l:List ByteArray)(o:List ByteArray):o.length<=(l.foldl Zed o).length/\(l.foldl Zed o).length<=o.length+l.length:=by
 have:=Zri (f:=Zed) (w:=λ_=>1) ZkW l o
 rwa [List.map_const',List.sum_replicate_nat,Nat.mul_one]at this
theorem ZoI(e:E):e.vars.length<=10000:=by
 unfold E.vars
 split
 ·rename_i h
  have h2:=Zdy e []
  have h3:=zA6 (show decide (e.nodes.length<=10000)=true from h)
  simp only[List.length_nil]at h2
  omega
 ·simp
theorem Zrj(e:E):(e.vars.length:Int)<=nE e:=by
 unfold E.vars nE E.size
 cases h:e.light with
 | false=>simp
 | true=>
  have h2:=Zdy e []
  simp only[List.length_nil]at h2
  simp;omega
theorem ZkY{α:Type}{f:List ByteArray->α->List ByteArray}{w:α->Int}(h:∀o x,((f o x).length:Int)<=o.length+w x):∀(l:List α)(o:List ByteArray),((l.foldl f o).length:Int)<=o.length+ZaI (l.map w)
 | [],o=>by simp[ZaI]
 | x::l,o=>by
  have h1:=h o x
  have h2:=ZkY h l (f o x)
  simp only[List.foldl_cons,List.map_cons,ZaI];omega
theorem ZnD(o:List ByteArray)(p:Pt):((ZcB o p).length:Int)<=o.length+(1+nE p.e):=by
 have h0:=(ZgF p.e).1
 have h1:=Zrj p.e
 have h2:=ZkW o p.s
 have h3:=ZkX p.e.vars o
 unfold ZcB
 split
 ·omega
 ·split <;> omega
theorem ZnE(o:List ByteArray)(a:Ac):((ZbZ o a).length:Int)<=o.length+nE a.e:=by
 have h0:=(ZgF a.e).1
 have h1:=Zrj a.e
 have h3:=ZkX a.e.vars o
 unfold ZbZ
 split <;> omega
theorem Zt5(l:List Pt):ZaI (l.map λp=>1+nE p.e)=l.length+ZaI (l.map λp=>nE p.e):=by
 induction l with
 | nil=>rfl
 | cons p l ih=>simp only[List.map_cons,ZaI,List.length_cons,ih];omega
theorem Zgy(o:List ByteArray)(a:Ac)(j:Nat):(((a.parts.take j).foldl ZcB (ZbZ o a)).length:Int)<=o.length+wA a:=by
 have h1:=ZkY ZnD (a.parts.take j) (ZbZ o a)
 have h2:=ZnE o a
 have h3:=Ze3 (λp:Pt=>1+nE p.e) (λp=>by have:=(ZgF p.e).1;omega) a.parts j
 have h4:=Zt5 a.parts
 unfold wA
 omega
theorem Zp8(w:Bool)(o:List ByteArray)(a:Ac):((Ze6 w o a).length:Int)<=o.length+wA a:=by
 have h1:=Zgy o a a.parts.length
 rw[List.take_length]at h1
 have h2:=ZkW o a.s
 have h3:=(ZgF a.e).1
 have h4:=ZfQ (λp:Pt=>nE p.e) (λp=>(ZgF p.e).1) a.parts
 have h5:1<=wA a:=by unfold wA;omega
 unfold Ze6
 cases w with
 | true=>rw[if_pos rfl];split <;> omega
 | false=>rw[if_neg (by decide)];omega
theorem Zt6(w:Bool){r:Ru}(h:ZgN r=true)(q:Nat){a:Ac}(ha:r.acts[q]?=some a):(((r.acts.take q).foldl (Ze6 w) []).length:Int)+wA a<=20000:=by
 have h1:=ZkY (Zp8 w) (r.acts.take q) []
 have h2:=Ze3 wA Zq4 r.acts (q+1)
 rw[Ze2 wA ha]at h2
 have h3:=zA6 (show decide (wR r<=19999)=true from h)
 have h4:=(Zjf r.t).1
 have h5:0<=Zhm r.t.size 20000:=by unfold Zhm;split <;> omega
 unfold wR at h3
 simp only[List.length_nil]at h1
 split at h3 <;> omega
def mxI(n g:Int):Int:=if g > n then g else n
def ZkH(n:Int)(p:Pt):Int:=if p.k=3 then mxI n p.g else if p.k=4 then mxI n p.e.most else n
def Zs4(n:Int)(a:Ac):Int:=a.parts.foldl ZkH (if a.k=3 then mxI n a.e.most else n)
def Zt7(r:Ru):Int:=if ZgN r then r.acts.foldl Zs4 (-1)else 0
end Go.Rx
namespace Go.Rx
open Go
variable {P:Program}
theorem ZfT{n:Nat}(w:World)(t e ty:TypeId)(z:Value)(ht:P.underlying t=some (.slice e))(hv:∀w,(zeroValue e).run P w=.ok z w)(h1:∀u∈(Builtin.zeroCells z.cells n).toList,u.oneCell'=true)(b o c:Nat)(hn:0 < n)
  (hc:∀j,j < (Builtin.zeroCells z.cells n).toList.length->(w.cell? ⟨b,o+j,none⟩).isSome=true) (hf:∀j,j < (Builtin.zeroCells z.cells n).toList.length->w.frozen? ⟨b,o+j,none⟩=false):
  (Builtin.clear_ #[t] ty #[.slice (some ⟨b,o,none⟩) n c]).run P w=.ok (.tuple #[]) (w.setCells b o (Builtin.zeroCells z.cells n).toList):=by
 have bO:=run_storeCells_cells (P:=P) b o (Builtin.zeroCells z.cells n).toList 0 w (by simpa using hc) (by simpa using hf) h1
 simp only[Nat.add_zero]at bO
 obtain⟨m,rfl⟩:∃m,n=m+1:=⟨n - 1,by omega⟩
 simp[Builtin.clear_,run_underlying ht,hv,bO]
end Go.Rx
namespace Go.Rx
open Go Go.Proofs Go.Shelf Go.RowKit Go.Lib Go.Sort
set_option maxHeartbeats 4000000
set_option maxRecDepth 1000000
structure DelLay (P:Program)(ρ:Ren)(k:Nat)(z:Value):Prop where
 mixed:P.follows .mixedOrders=true
 f45:Bears P (ρ.f 45) (SlBodyN.n45 ρ)
 t0:P.underlying (ρ.t 0)=some (TypeDesc.tuple #[])
 a0:∀w,(Go.isAgg (ρ.t 0)).run P w=.ok false w
 z0:∀w,(Go.sizeOf (ρ.t 0)).run P w=.ok 1 w
 v0:∀w,(zeroValue (ρ.t 0)).run P w=.ok (Value.tuple #[]) w
 t3:P.underlying (ρ.t 3)=some (TypeDesc.int IntKind.i64)
 a3:∀w,(Go.isAgg (ρ.t 3)).run P w=.ok false w
 z3:∀w,(Go.sizeOf (ρ.t 3)).run P w=.ok 1 w
 v3:∀w,(zeroValue (ρ.t 3)).run P w=.ok (Value.int IntKind.i64 0) w
 t4:P.underlying (ρ.t 4)=some (TypeDesc.bool)
 a4:∀w,(Go.isAgg (ρ.t 4)).run P w=.ok false w
 z4:∀w,(Go.sizeOf (ρ.t 4)).run P w=.ok 1 w
 v4:∀w,(zeroValue (ρ.t 4)).run P w=.ok (Value.bool false) w
 t22:P.underlying (ρ.t 22)=some (TypeDesc.slice (ρ.t 23))
 a22:∀w,(Go.isAgg (ρ.t 22)).run P w=.ok false w
 z22:∀w,(Go.sizeOf (ρ.t 22)).run P w=.ok 1 w
 v22:∀w,(zeroValue (ρ.t 22)).run P w=.ok (Value.slice none 0 0) w
 z23:∀w,(Go.sizeOf (ρ.t 23)).run P w=.ok k w
 v23:∀w,(zeroValue (ρ.t 23)).run P w=.ok z w
theorem Zj3{P:Program}{ρ:Ren}{k:Nat}{z:Value}(L:DelLay P ρ k z)(i0:TypeInfo)(oZ:P.info? (ρ.t 23)=some i0)(qH:i0.size=k)(hk:z.cells.size=k)
  (blk off n cap i j:Nat) (cs:List Value) (w:World) (aE:cs.length=n*k) (hH:∀(q:Nat)(u:Value),cs[q]?=some u->w.cell? ⟨blk,off+q,none⟩=some u/\w.frozen? ⟨blk,off+q,none⟩=false) (h1:∀u∈cs,u.oneCell'=true)
  (hz:∀m,∀u∈(Builtin.zeroCells z.cells m).toList,u.oneCell'=true)
  (cu:n<=cap) (hm:n<=9223372036854775807) (md:i < j) (hj:j<=n):
  Calls P (ρ.f 45) #[.slice (some ⟨blk,off,none⟩) n cap,.int .i64 i,.int .i64 j] w λe w'=>e=.returned (.slice (some ⟨blk,off,none⟩) (n - (j - i)) cap)/\
   w'=(w.drew.setCells blk (off+i*k) (cs.drop (j*k))).setCells blk (off+(n - (j - i))*k) (Builtin.zeroCells z.cells (j - i)).toList:=by
 have mixed:=L.mixed;have t0:=L.t0;have a0:=L.a0;have z0:=L.z0;have v0:=L.v0;have t3:=L.t3;have a3:=L.a3;have z3:=L.z3;have v3:=L.v3;have t4:=L.t4;have a4:=L.a4;have z4:=L.z4;have v4:=L.v4;have t22:=L.t22;have a22:=L.a22;have z22:=L.z22;have v22:=L.v22;have z23:=L.z23
 obtain⟨Z,hZ⟩:∃Z,(Builtin.zeroCells z.cells (j - i)).toList=Z:=⟨_,rfl⟩
 rw[hZ]
 obtain⟨news,d5⟩:∃news,news=cs.drop (j*k):=⟨_,rfl⟩
 have kP:news.length=(n - j)*k:=by rw[d5,List.length_drop,aE,Nat.sub_mul]
 obtain⟨A,hA,qI⟩:∃A:Addr,(if cap=j then some (⟨blk,off,none⟩:Addr)else some ⟨blk,off+j*k,none⟩)=some A/\Hid (∀t u,news[t]?=some u->w.drew.cell? (A.add t)=some u):=by
  by_cases h:cap=j
  ·refine⟨⟨blk,off,none⟩,by simp[h],λt u hu=>?_⟩
   have h0:news.length=0:=by rw[kP,show n - j=0 by omega,Nat.zero_mul]
   rw[List.length_eq_zero_iff.1 h0]at hu
   simp at hu
  ·refine⟨⟨blk,off+j*k,none⟩,by simp[h],λt u hu=>?_⟩
   rw[d5,List.getElem?_drop]at hu
   rw[Addr.add_lit,Nat.add_assoc]
   exact(hH _ _ hu).1
 have s2:Hid (∀u∈news,u.oneCell'=true):=λu hu=>h1 u (by rw[d5]at hu;exact List.mem_of_mem_drop hu)
 have lq:(i+(n - j))*k=i*k+(n - j)*k:=Nat.add_mul _ _ _
 have bM:(i+(n - j))*k<=n*k:=Nat.mul_le_mul_right _ (by omega)
 have s3:Hid (∀t,t < news.length->(w.drew.cell? ⟨blk,off+i*k+t,none⟩).isSome=true/\w.drew.frozen? ⟨blk,off+i*k+t,none⟩=false):=by
  intro t ht
  rw[kP]at ht
  have hb:i*k+t < cs.length:=by rw[aE];omega
  have h:=hH (i*k+t) cs[i*k+t] (zA3 hb)
  rw[<-Nat.add_assoc]at h
  exact⟨by show(w.cell? _).isSome=true;rw[h.1];rfl,h.2⟩
 have s1:Hid (news.length=(n - j)*k):=kP
 obtain⟨W1,pb⟩:∃W1,W1=w.drew.setCells blk (off+i*k) news:=⟨_,rfl⟩
 have hW:Hid (W1=w.drew.setCells blk (off+i*k) news):=pb
 have we:i<=cap:=by omega
 have wg:j<=cap:=by omega
 have eH:∀ty,(Builtin.clear_ #[ρ.t 22] ty #[.slice (some ⟨blk,off+(i+(n - j))*k,none⟩) (n - (i+(n - j))) (cap - (i+(n - j)))]).run P W1=.ok (.tuple #[]) (W1.setCells blk (off+(i+(n - j))*k) Z):=by
  intro ty
  have hT:∀t,t < (Builtin.zeroCells z.cells (n - (i+(n - j)))).toList.length->(w.drew.cell? ⟨blk,off+((i+(n - j))*k+t),none⟩).isSome=true/\w.drew.frozen? ⟨blk,off+((i+(n - j))*k+t),none⟩=false:=by
   intro t ht
   have hl:(Builtin.zeroCells z.cells (n - (i+(n - j)))).toList.length=(n - (i+(n - j)))*k:=by simp[Builtin.zeroCells,hk,Nat.mul_comm]
   rw[hl,Nat.sub_mul]at ht
   have hb:(i+(n - j))*k+t < cs.length:=by rw[aE];omega
   have h:=hH _ _ (zA3 hb)
   exact⟨by show(w.cell? _).isSome=true;rw[h.1];rfl,h.2⟩
  rw[<-hZ,show j - i=n - (i+(n - j)) by omega]
  exact ZfT W1 _ _ ty z t22 L.v23 (hz _) blk _ _ (by omega) (λt ht=>by rw[pb];exact World.isSome_setCells _ _ _ _ _ (by rw[Nat.add_assoc];exact(hT t ht).1)) (λt ht=>by rw[pb,World.frozen?_setCells,Nat.add_assoc];exact(hT t ht).2)
 have hN:Hid (news=cs.drop (j*k)):=d5
 clear pb lq bM d5 kP hZ hz hk
 obtain⟨_,_,FG⟩:=L.f45
 go_enter FG,SlBodyN.n45_ntmps ρ
 go_wp2_with fail
 go_region_law_o (refine step_append_room rfl (.tmp 22) (.tmp 25) (ρ.t 22) rfl (ρ.t 23) i0 k t22 oZ qH blk off i cap (by simp[Act.eval,Act.put]) A (n - j) (cap - j) news (by simp[Act.eval,Act.put]) s1.out qI.out s2.out (by omega) s3.out ?_;rw[<-hW.out])
 go_wp2
 go_ret
 refine⟨by rw[show n - (j - i)=i+(n - j) by omega];rfl,?_⟩
 rw[hW.out,hN.out,show n - (j - i)=i+(n - j) by omega]
end Go.Rx
namespace Go.Rx
open Go Go.Eng Go.RowKit Go.Shelf
theorem Ze7(b:Nat):∀(vs:List Value)(o:Nat)(w:World),(w.setCells b o vs).os=w.os/\(w.setCells b o vs).tape=w.tape/\(w.setCells b o vs).output=w.output/\(w.setCells b o vs).heap.size=w.heap.size
 | [],_,_=>⟨rfl,rfl,rfl,rfl⟩
 | v::r,o,w=>by
  obtain⟨h1,h2,h3,h4⟩:=Ze7 b r (o+1) (w.setCell ⟨b,o,none⟩ v)
  exact⟨h1,h2,h3,h4.trans (by simp[World.setCell])⟩
theorem Zcg(b:Nat){k:Nat}(hk:k≠b):∀(vs:List Value)(o:Nat)(w:World),(w.setCells b o vs).heap[k]?=w.heap[k]?
 | [],_,_=>rfl
 | v::r,o,w=>by
  rw[World.setCells,Zcg b hk r (o+1)]
  simp[World.setCell,Array.getElem?_modify,Ne.symm hk]
theorem ZdE(b:Nat):∀(vs:List Value)(o:Nat)(w:World){c:Array Value}{T:TypeId}{fr:Nat×Nat},w.heap[b]?=some (.cells c T fr)->∃c':Array Value,(w.setCells b o vs).heap[b]?=some (.cells c' T fr)/\c'.size=c.size
 | [],_,_,c,_,_,h=>⟨c,h,rfl⟩
 | v::r,o,w,c,T,fr,h=>by
  have h1:(w.setCell ⟨b,o,none⟩ v).heap[b]?=some (.cells (c.setIfInBounds o v) T fr):=by
   simp[World.setCell,Array.getElem?_modify,h]
  obtain⟨c',h2,h3⟩:=ZdE b r (o+1) (w.setCell ⟨b,o,none⟩ v) h1
  exact⟨c',h2,by rw[h3];simp⟩
theorem ZfU(b o:Nat)(vs:List Value)(w:World){c:Array Value}{T:TypeId}{fr:Nat×Nat}(h:w.heap[b]?=some (.cells c T fr)):Upd (λk=>k=b) w (w.setCells b o vs):=by
 obtain⟨h1,h2,h3,h4⟩:=Ze7 b vs o w
 refine⟨h1,h2,h3,by omega,λk _ hk=>Zcg b hk vs o w,λk hk hw=>?_⟩
 by_cases e:k=b
 ·subst e
  obtain⟨c',h5,h6⟩:=ZdE k vs o w h
  intro c2 T2 fr2 hh q hq
  rw[h5]at hh
  simp only[Option.some.injEq,Obj.cells.injEq]at hh
  obtain⟨rfl,rfl,rfl⟩:=hh
  exact hw c T fr h q (by omega)
 ·exact hw.of_eq (Zcg b e vs o w)
theorem Upd.tr{M:Nat->Prop}{a b c:World}(h:Upd M a b)(k:Upd M b c):Upd M a c:=
 ⟨k.os.trans h.os,k.tape.trans h.tape,k.output.trans h.output,Nat.le_trans h.size k.size,λq hq hm=>(k.block q (Nat.lt_of_lt_of_le hq h.size) hm).trans (h.block q hq hm),λq hq hw=>k.wr q (Nat.lt_of_lt_of_le hq h.size) (h.wr q hq hw)⟩
theorem Zjn{α:Type}{cs:α->List Value}{n:Nat}(hn:∀x,(cs x).length=n):∀(l:List α)(i:Nat),((l.eraseIdx i).map cs).flatten=(l.map cs).flatten.take (i*n)++(l.map cs).flatten.drop ((i+1)*n)
 | [],_=>by simp
 | x::l,0=>by
  simp only[List.eraseIdx_zero,List.tail_cons,List.map_cons,List.flatten_cons,Nat.zero_mul,List.take_zero,List.nil_append,Nat.zero_add,Nat.one_mul]
  rw[<-hn x,List.drop_left]
 | x::l,i+1=>by
  have e1:(i+1)*n=(cs x).length+i*n:=by rw[hn,Nat.succ_mul];omega
  have e2:(i+1+1)*n=(cs x).length+(i+1)*n:=by rw[hn,Nat.succ_mul (i+1)];omega
  simp only[List.eraseIdx_cons_succ,List.map_cons,List.flatten_cons]
  have e3:((cs x)++(l.map cs).flatten).take ((i+1)*n)=cs x++(l.map cs).flatten.take (i*n):=by rw[e1,List.take_length_add_append]
  have e4:((cs x)++(l.map cs).flatten).drop ((i+1+1)*n)=(l.map cs).flatten.drop ((i+1)*n):=by rw[e2,List.drop_length_add_append]
  rw[Zjn hn l i,e3,e4,List.append_assoc]
theorem Zp9{P:Program}{ρ:Ren}{k:Nat}{z:Value}(L:DelLay P ρ k z)(i0:TypeInfo)(oZ:P.info? (ρ.t 23)=some i0)(qH:i0.size=k)(hk:z.cells.size=k)(iz:ZdM P (ρ.f 45))(h0:0 < k)
  (qz:(Builtin.zeroCells z.cells 1).toList=z.cells.toList) (uA:∀m,∀u∈(Builtin.zeroCells z.cells m).toList,u.oneCell'=true)
  {α:Type} {cs:α->List Value} (hn:∀x,(cs x).length=k) (h1:∀x,∀u∈cs x,u.oneCell'=true) (l:List α) (b c i:Nat) (T:TypeId) (cap:Nat) (m:Mem) (hi:i < l.length) (hc:l.length<=c) (hm:l.length<=9223372036854775807):
  CX P (ρ.f 45) #[.slice (some ⟨b,0,none⟩) l.length c,.int .i64 i,.int .i64 (i+1:Nat)] m [⟨b,(l.map cs).flatten,T,cap,false,false⟩] (λv m' css=>v=.slice (some ⟨b,0,none⟩) (l.length - 1) c/\css=[((l.eraseIdx i).map cs).flatten++z.cells.toList]):=by
 refine⟨iz,λw hs hX _=>?_⟩
 obtain⟨cV,_⟩:=hX _ (List.mem_singleton.2 rfl)
 have fC:=cV.wr
 have aE:(l.map cs).flatten.length=l.length*k:=ZaO hn l
 have kU:0 < l.length*k:=Nat.mul_pos (by omega) h0
 obtain⟨sp,fr,uB,qJ,qK⟩:=cV.cells
 obtain⟨cur,fa⟩:∃cur,cur=((l.map cs).flatten++sp).toArray:=⟨_,rfl⟩
 have hh:w.heap[b]?=some (.cells cur T fr):=by rw[fa];exact uB
 have bL:∀(q:Nat)(u:Value),(l.map cs).flatten[q]?=some u->w.cell? ⟨b,q,none⟩=some u:=λq u hu=>cV.cell hu
 have aC:∀q,q < l.length*k->q < cur.size:=λq hq=>by
  have:=bL q _ (zA3 (by omega))
  simp only[World.cell?,hh,Option.isSome_none,Bool.false_eq_true,if_false]at this
  exact(Array.getElem?_eq_some_iff.1 this).1
 have hH:∀(q:Nat)(u:Value),(l.map cs).flatten[q]?=some u->w.cell? ⟨b,0+q,none⟩=some u/\w.frozen? ⟨b,0+q,none⟩=false:=λq u hu=>by
  rw[Nat.zero_add]
  refine⟨bL q u hu,?_⟩
  have hq:=(zA0 hu).1
  have h2:=fC cur T fr hh q (aC q (by omega))
  obtain⟨f1,f2⟩:=fr
  simp only[World.frozen?,hh,Bool.and_eq_false_iff,decide_eq_false_iff_not]
  simp only at h2
  omega
 have h1':∀u∈(l.map cs).flatten,u.oneCell'=true:=λu hu=>by
  simp only[List.mem_flatten,List.mem_map]at hu
  obtain⟨_,⟨x,_,rfl⟩,hu⟩:=hu
  exact h1 x u hu
 refine(Zj3 L i0 oZ qH hk b 0 l.length c i (i+1) (l.map cs).flatten w aE hH h1' uA hc hm (by omega) (by omega)).mono ?_
 rintro e w' ⟨rfl,rfl⟩
 rw[show i+1 - i=1 by omega,Nat.zero_add,Nat.zero_add,qz]
 obtain⟨news,d5⟩:∃news,news=(l.map cs).flatten.drop ((i+1)*k):=⟨_,rfl⟩
 rw[<-d5]
 have jx:(i+1)*k<=l.length*k:=Nat.mul_le_mul_right _ (by omega)
 have uC:(i+1)*k=i*k+k:=Nat.succ_mul i k
 have kP:news.length=l.length*k - (i+1)*k:=by rw[d5,List.length_drop,aE]
 have ia:(l.length - 1)*k+k=l.length*k:=by
  have:l.length=l.length - 1+1:=by omega
  rw[this,Nat.succ_mul];rfl
 have sF:w.drew.heap[b]?=some (.cells cur T fr):=hh
 obtain⟨c1,g1,g2⟩:=ZdE b news (i*k) w.drew sF
 obtain⟨c2,g3,g4⟩:=ZdE b z.cells.toList ((l.length - 1)*k) (w.drew.setCells b (i*k) news) g1
 have jK:Upd (λq=>q=b) w w.drew:=⟨rfl,rfl,rfl,Nat.le_refl _,λ_ _ _=>rfl,λ_ _ h=>h⟩
 have hU:=Upd.tr (Upd.tr jK (ZfU b (i*k) news w.drew sF)) (ZfU b ((l.length - 1)*k) z.cells.toList _ g1)
 have fO:z.cells.toList.length=k:=by simpa using hk
 have dv:(((l.eraseIdx i).map cs).flatten++z.cells.toList).length=l.length*k:=by
  rw[zA1,fO,ZaO hn,List.length_eraseIdx,if_pos hi];exact ia
 have some1:∀q,q < cur.size->(w.drew.cell? ⟨b,q,none⟩).isSome=true:=λq hq=>by
  show(w.cell? ⟨b,q,none⟩).isSome=true
  simp[World.cell?,hh,hq]
 have some2:∀q,q < cur.size->((w.drew.setCells b (i*k) news).cell? ⟨b,q,none⟩).isSome=true:=λq hq=>by
  simp[World.cell?,g1,g2,hq]
 have at_:∀q,((w.drew.setCells b (i*k) news).setCells b ((l.length - 1)*k) z.cells.toList).cell? ⟨b,q,none⟩=if q < l.length*k then(((l.eraseIdx i).map cs).flatten++z.cells.toList)[q]? else w.cell? ⟨b,q,none⟩:=λq=>by
  have sG:((l.eraseIdx i).map cs).flatten.length=(l.length - 1)*k:=by rw[ZaO hn,List.length_eraseIdx,if_pos hi]
  by_cases hq:q < l.length*k
  ·rw[if_pos hq]
   by_cases mC:(l.length - 1)*k<=q
   ·have:=World.cell?_setCells_in b z.cells.toList ((l.length - 1)*k) (w.drew.setCells b (i*k) news) (λj hj=>some2 _ (aC _ (by omega))) (q - (l.length - 1)*k) (by omega)
    rw[show(l.length - 1)*k+(q - (l.length - 1)*k)=q by omega]at this
    rw[this,zA4 (by omega),sG]
    exact(zA3 _).symm
   ·rw[World.cell?_setCells_out b _ _ _ _ (λ_ _=>.inl (by show q < _;omega)),zA5 (by omega),Zjn hn]
    by_cases pN:i*k<=q
    ·have:=World.cell?_setCells_in b news (i*k) w.drew (λj hj=>some1 _ (aC _ (by omega))) (q - i*k) (by omega)
     rw[show i*k+(q - i*k)=q by omega]at this
     have fQ:((l.map cs).flatten.take (i*k)).length=i*k:=by rw[List.length_take,aE];omega
     rw[this,zA4 (by omega),fQ,<-d5]
     exact(zA3 _).symm
    ·have fQ:((l.map cs).flatten.take (i*k)).length=i*k:=by rw[List.length_take,aE];omega
     rw[World.cell?_setCells_out b _ _ _ _ (λ_ _=>.inl (by show q < _;omega)),zA5 (by omega),List.getElem?_take_of_lt (by omega)]
     have mD:q < (l.map cs).flatten.length:=by omega
     rw[zA3 mD]
     exact bL q _ (zA3 mD)
  ·rw[if_neg hq,World.cell?_setCells_out b _ _ _ _ (λ_ _=>.inr (by show _<=q;omega)),World.cell?_setCells_out b _ _ _ _ (λ_ _=>.inr (by show _<=q;omega))]
   rfl
 obtain⟨full,sH⟩:∃full,full=((l.eraseIdx i).map cs).flatten++z.cells.toList:=⟨_,rfl⟩
 rw[<-sH]at dv ⊢
 rw[<-sH]at at_
 have ld:((l.map cs).flatten++sp).length=l.length*k+sp.length:=by rw[zA1,aE]
 have np:c2=(full++sp).toArray:=by
  refine Array.ext' (List.ext_getElem? λq=>?_)
  have h5:=at_ q
  simp only[World.cell?,g3,hh,Option.isSome_none,Bool.false_eq_true,if_false]at h5
  rw[Array.getElem?_toList,h5]
  by_cases hq:q < l.length*k
  ·rw[if_pos hq,zA5 (by rw[dv];exact hq)]
  ·rw[if_neg hq,zA4 (by rw[dv];omega),dv,fa]
   simp only[List.getElem?_toArray]
   rw[zA4 (by rw[aE];omega),aE]
 have hb:∀q,q≠b->((w.drew.setCells b (i*k) news).setCells b ((l.length - 1)*k) z.cells.toList).heap[q]?=w.heap[q]?:=λq hq=>(Zcg b hq _ _ _).trans (Zcg b hq _ _ w.drew)
 refine⟨_,m,[full],rfl,Mem.le_refl m,⟨λb1 o1 v hv=>?_,λb1 e he=>?_⟩,NewM.refl _ _,⟨hU.os,hU.tape,hU.output,hU.size,λq _ hn=>hb q (by simpa using hn),hU.wr⟩,rfl,λi' x cs' hx bE=>?_,rfl,rfl⟩
 ·have cG:b1≠b:=λe=>by
   subst e
   rw[cV.free rfl o1]at hv;cases hv
  rw[<-hs _ _ _ hv]
  exact Zbq (hb b1 cG) o1
 ·have:=hs.k b1 e he
  have cG:b1≠b:=λe=>by
   subst e
   obtain⟨es,cl,h8,_⟩:=this
   rw[hh]at h8;cases h8
  exact this.same (hb b1 cG)
 ·cases i' with
  | succ n=>simp at hx
  | zero=>
   simp at hx bE
   subst hx bE
   refine⟨⟨sp,fr,by rw[<-np];exact g3,?_,?_⟩,λ_=>cV.free rfl,λh=>(by cases h),λh=>(by cases h)⟩
   ·have cu:((l.map cs).flatten++sp).length=cap:=qJ
    show(full++sp).length=cap
    rw[<-cu,ld,zA1,dv]
   ·exact qK
end Go.Rx
namespace Go.Rx
open Go Go.Eng
set_option maxRecDepth 100000
def aeN:E:=.node 9 0 ⟨#[110]⟩ 0 none 0 []
def aeC(x:Nat):E:=.node 8 x ⟨#[]⟩ 0 none 0 []
def aeO(k:Int)(a:Option Addr)(x:Nat):E:=.node k 0 ⟨#[]⟩ 0 a 2 [aeN,aeC x]
def aeX:T:=.node 2 0 72057594037927936 0 0 0 0 none 0 []
def aeY:T:=.node 2 0 144115188075855872 0 0 0 0 none 0 []
def aeG(g:Option Addr):T:=.node 6 0 0 0 0 0 0 g 1 [aeX]
def aeR(g r:Option Addr):T:=.node 5 0 0 0 0 1 (-1) r 1 [aeG g]
def aeT(g r c:Option Addr):T:=.node 3 0 0 0 0 0 0 c 2 [aeR g r,aeY]
def aeE:E:=.node 0 0 ⟨#[]⟩ 0 none 0 []
def Zx0:Pt:=⟨3,⟨#[]⟩,1,aeE⟩
def Zx1(s:Option Addr):Pt:=⟨4,⟨#[]⟩,0,aeO 4 s 4611686018427387904⟩
def ZxF(l:Option Addr):Ac:=⟨3,⟨#[110]⟩,none,0,[],aeO 2 l 4607182418800017408⟩
def ZxG(s p:Option Addr):Ac:=⟨1,⟨#[]⟩,p,2,[Zx0,Zx1 s],aeE⟩
def ZoJ(g r c l s p a:Option Addr):Ru:=⟨1,false,false,aeT g r c,⟨#[]⟩,0,a,2,[ZxF l,ZxG s p],⟨#[98]⟩,0⟩
def ZxH:T:=.node 0 0 0 0 0 0 0 none 0 []
def Zs9:Ru:=⟨4,false,false,ZxH,⟨#[]⟩,5,none,0,[],⟨#[]⟩,1⟩
def Zt8:Ru:=⟨3,false,false,ZxH,⟨#[]⟩,0,none,0,[],⟨#[]⟩,0⟩
def aeS(g r c v l s p a r1 r2 S:Option Addr):Sc:=⟨9,v,1,[⟨⟨#[110]⟩,true,⟨#[]⟩,0⟩],S,2,[⟨⟨#[97]⟩,r1,2,[ZoJ g r c l s p a,Zs9]⟩,⟨⟨#[98]⟩,r2,1,[Zt8]⟩]⟩
section
variable (g r c v l s p a r1 r2 S:Option Addr)
theorem Zsh:(aeS g r c v l s p a r1 r2 S).light=true:=by kernel_rfl
theorem Zqa:(aeS g r c v l s p a r1 r2 S).places.length=11:=by kernel_rfl
theorem Zqb:(aeS g r c v l s p a r1 r2 S).places[5]?=some ⟨-1,0,0,1,-1⟩:=by kernel_rfl
theorem Zt9:Zjk (aeS g r c v l s p a r1 r2 S)=msV 2 3 5 2 2 2:=by kernel_rfl
theorem Zsi:Zjk (Zs3 (aeS g r c v l s p a r1 r2 S) 0 0)=msV 2 2 0 0 0 0:=by kernel_rfl
theorem Zsj:Zp7 false (ZoJ g r c l s p a)=[⟨#[110]⟩]:=by kernel_rfl
theorem Zqc:Zp7 true (ZoJ g r c l s p a)=[⟨#[110]⟩]:=by kernel_rfl
theorem Zua:Zt7 (ZoJ g r c l s p a)=1:=by kernel_rfl
theorem Zub:ZuZ (aeS g r c v l s p a r1 r2 S).states ⟨⟨#[97]⟩,r1,2,[ZoJ g r c l s p a,Zs9]⟩=[1]:=by
 have h:Zj2 (aeS g r c v l s p a r1 r2 S).states [ZoJ g r c l s p a,Zs9]=[1]:=by kernel_rfl
 unfold ZuZ
 show Zrh (Zj2 _ [ZoJ g r c l s p a,Zs9])=_
 rw[h]
 exact Zme (List.pairwise_singleton _ _)
theorem Zuc:ZuZ (aeS g r c v l s p a r1 r2 S).states ⟨⟨#[98]⟩,r2,1,[Zt8]⟩=[]:=by
 have h:Zj2 (aeS g r c v l s p a r1 r2 S).states [Zt8]=[]:=by kernel_rfl
 unfold ZuZ
 show Zrh (Zj2 _ [Zt8])=_
 rw[h]
 exact Zme List.Pairwise.nil
end
theorem Zsk(q:E->Bool)(hq:∀x:E,q x.er=q x):∀l:List E,ZmV q (l.map E.er)=ZmV q l
 | []=>rfl
 | x::l=>by rw[List.map_cons,Zib,Zib,Zsk q hq l,hq]
theorem Zrk(e:E):ZnC e.er=ZnC e:=by
 unfold ZnC
 rw[Zh8,Zew,Zsk _ λx=>by cases x;rfl]
theorem Zud(e:E):vrE e.er=vrE e:=by
 unfold vrE
 rw[Zew,Zsk _ λx=>by cases x;rfl]
theorem Zv0(a:Ac):paA a.er=paA a:=Zcv paP Pt.er (λp=>rfl) a.parts
theorem Zue(a:Ac):Zsd a.er=Zsd a:=by
 unfold Zsd
 have h:=Zcv ZqG Pt.er (λp=>by show(if p.k=4 then ZnC p.e.er else 0)=_;rw[Zrk];rfl) a.parts
 show(if a.k=3 then ZnC a.e.er else 0)+ZaI ((a.parts.map Pt.er).map ZqG)=_
 rw[h,Zrk]
theorem Zv1(a:Ac):vrA a.er=vrA a:=by
 unfold vrA
 have h:=Zcv vrP Pt.er (λp=>by show(if p.k=4 then vrE p.e.er else 0)=_;rw[Zud];rfl) a.parts
 show(if a.k=3 then vrE a.e.er else 0)+ZaI ((a.parts.map Pt.er).map vrP)=_
 rw[h,Zud]
theorem ZoK{α β:Type}{f:α->α}{h:β->β}{k:α->List β}(e:∀x,k (f x)=(k x).map h):∀l:List α,(l.map f).flatMap k=(l.flatMap k).map h
 | []=>rfl
 | x::l=>by simp only[List.map_cons,List.flatMap_cons,List.map_append,e,ZoK e l]
theorem ZoL(s:Sc):ZdK s.er=(ZdK s).map Ac.er:=ZoK (f:=Sta.er) (k:=Zma) (λx=>ZoK (f:=Ru.er) (k:=λr:Ru=>r.acts) (λr=>rfl) x.rules) s.states
theorem ZoM(s:Sc):Zjk s.er=Zjk s:=by
 have h1:ms1 s.er=ms1 s:=by
  show ZaI ((s.states.map Sta.er).map ruS)=_
  exact Zcv ruS Sta.er (λx=>by show((x.rules.map Ru.er).length:Int)=x.rules.length;rw[List.length_map]) s.states
 have h2:ms2 s.er=ms2 s:=by
  show ZaI ((s.states.map Sta.er).map rgS)=_
  exact Zcv rgS Sta.er (λx=>Zcv rgR Ru.er (λr=>by show(if r.k=1 then r.t.er.size else 0)=_;rw[Zrb];rfl) x.rules) s.states
 have h3:ms3 s.er=ms3 s:=by unfold ms3;rw[ZoL];exact Zcv paA Ac.er Zv0 _
 have h4:ms4 s.er=ms4 s:=by unfold ms4;rw[ZoL];exact Zcv Zsd Ac.er Zue _
 have h5:ms5 s.er=ms5 s:=by unfold ms5;rw[ZoL];exact Zcv vrA Ac.er Zv1 _
 unfold Zjk
 rw[Zp0,h1,h2,h3,h4,h5,show s.er.states.length=s.states.length from List.length_map _]
theorem Zsl{s s':Sc}(h:s'.er=s.er):Zjk s'=Zjk s:=by rw[<-ZoM s',h,ZoM]
end Go.Rx
namespace Go.Rx
open Go Go.Eng
def pcA(a:Ac):Nat:=a.parts.length
def Zjo{α:Type}(f:α->Nat)(l:List α):Nat:=(l.map f).sum
theorem ZfV{α:Type}(f:α->Nat){l:List α}{i:Nat}{x:α}(h:l[i]?=some x):Zjo f (l.take (i+1))=Zjo f (l.take i)+f x:=by
 unfold Zjo
 rw[List.take_add_one,h,List.map_append,List.sum_append];simp
theorem ZoN{α:Type}(f:α->Nat)(l:List α)(i:Nat):Zjo f (l.take i)<=Zjo f l:=by
 have e:Zjo f l=Zjo f (l.take i)+Zjo f (l.drop i):=by
  unfold Zjo
  rw[<-List.sum_append,<-List.map_append,List.take_append_drop]
 omega
def pcR(r:Ru):Nat:=r.acts.length+Zjo pcA r.acts
def pcS(x:Sta):Nat:=x.rules.length+Zjo pcR x.rules
def pcC(s:Sc):Nat:=1+s.vars.length+s.states.length+Zjo pcS s.states
theorem ZoO{α:Type}(l:List α)(F:Nat->List Pl)(w:α->Nat)(h:∀i x,l[i]?=some x->(F i).length=1+w x):∀k,k<=l.length->(Zcs k F).length=k+Zjo w (l.take k)
 | 0,_=>by simp[Zcs,Zjo]
 | k+1,hk=>by
  have hx:=zA3 (show k < l.length by omega)
  rw[Za8,zA1,ZoO l F w h k (by omega),h k _ hx,ZfV w hx];omega
theorem Zid{α:Type}(l:List α)(F:Nat->List Pl)(w:α->Nat)(h:∀i x,l[i]?=some x->(F i).length=1+w x):(Zcs l.length F).length=l.length+Zjo w l:=by
 have:=ZoO l F w h l.length (Nat.le_refl _)
 rwa [List.take_length]at this
theorem Zuf(i k m:Nat)(a:Ac):(plA i k m a).length=1+pcA a:=by
 rw[ZjZ,List.length_cons,show(Zcs a.parts.length (Pf i k m)).length=a.parts.length from Zc7 _ _]
 unfold pcA;omega
theorem Zug(i k:Nat)(r:Ru):(plR i k r).length=1+pcR r:=by
 rw[Zj0,List.length_cons,Zid r.acts (Hf i k r) pcA λm a h=>by unfold Hf;rw[h];exact Zuf i k m a]
 unfold pcR;omega
theorem Zuh(i:Nat)(x:Sta):(plS i x).length=1+pcS x:=by
 rw[Zj1,List.length_cons,Zid x.rules (Gf i x) pcR λm a h=>by unfold Gf;rw[h];exact Zug i m a]
 unfold pcS;omega
theorem Zrl{s:Sc}(h:s.light=true):s.places.length=pcC s:=by
 rw[ZdA h,List.length_cons,zA1,Zid s.states (Ff s) pcS λm a h=>by unfold Ff;rw[h];exact Zuh m a,
  show(Zcs s.vars.length Vf).length=s.vars.length from Zc7 _ _]
 unfold pcC;omega
theorem Zv2{s:Sc}(h:s.light=true):pcC s<=20001:=by rw[<-Zrl h];exact Zgx s
theorem ZfW{p q:Pl}(h1:ZbQ p q=true):ZbQ q p=false:=by
 cases h2:ZbQ q p with
 | false=>rfl
 | true=>
  rw[ZaP]at h1 h2
  omega
theorem Zmf(s:Sc){i j:Nat}{p q:Pl}(h:i < j)(hp:s.places[i]?=some p)(hq:s.places[j]?=some q):ZbQ p q=true:=by
 obtain⟨h1,rfl⟩:=zA0 hp
 obtain⟨h2,rfl⟩:=zA0 hq
 exact List.pairwise_iff_getElem.1 (Zic s) i j h1 h2 h
theorem Zjp{s:Sc}(h:s.light=true):s.places[0]?=some top:=by rw[ZdA h];rfl
end Go.Rx