/- Trees of regexes, what they mean, and An they lie in memory; plain, no program is named. No condition. -/
import Derived.Test.YtgclajkldphoaaaMc
set_option linter.unusedVariables false
set_option linter.unusedSimpArgs false
namespace Go.Rx
open Go Go.Eng
inductive T where
 | node (k s0 s1 s2 s3 mn mx:Int) (a:Option Addr) (c:Nat) (subs:List T)
def T.k:T->Int
 | .node k _ _ _ _ _ _ _ _ _=>k
def T.s0:T->Int
 | .node _ s _ _ _ _ _ _ _ _=>s
def T.s1:T->Int
 | .node _ _ s _ _ _ _ _ _ _=>s
def T.s2:T->Int
 | .node _ _ _ s _ _ _ _ _ _=>s
def T.s3:T->Int
 | .node _ _ _ _ s _ _ _ _ _=>s
def T.mn:T->Int
 | .node _ _ _ _ _ x _ _ _ _=>x
def T.mx:T->Int
 | .node _ _ _ _ _ _ x _ _ _=>x
def T.a:T->Option Addr
 | .node _ _ _ _ _ _ _ a _ _=>a
def T.c:T->Nat
 | .node _ _ _ _ _ _ _ _ c _=>c
def T.subs:T->List T
 | .node _ _ _ _ _ _ _ _ _ l=>l
def T.sl(t:T):Value:=.slice t.a t.subs.length t.c
def T.cs(t:T):List Value:=[.int .u8 t.k,.int .u64 t.s0,.int .u64 t.s1,.int .u64 t.s2,.int .u64 t.s3,.int .i64 t.mn,.int .i64 t.mx,t.sl]
def T.v(t:T):Value:=.agg #[.int .u8 t.k,.int .u64 t.s0,.int .u64 t.s1,.int .u64 t.s2,.int .u64 t.s3,.int .i64 t.mn,.int .i64 t.mx,.slice t.a t.subs.length t.c]
structure OkN (k s0 s1 s2 s3 mn mx:Int):Prop where
 k:0<=k/\k < 256
 s0:0<=s0/\s0 < 18446744073709551616
 s1:0<=s1/\s1 < 18446744073709551616
 s2:0<=s2/\s2 < 18446744073709551616
 s3:0<=s3/\s3 < 18446744073709551616
 mn : -9223372036854775808<=mn/\mn<=9223372036854775807
 mx : -9223372036854775808<=mx/\mx<=9223372036854775807
mutual
def Rep(m:Mem):T->Prop
 | .node k s0 s1 s2 s3 mn mx a _ l=>l.length<=1000000000000000/\(l=[]\/∃b o,a=some ⟨b,o,none⟩/\RepAt m b o l)/\OkN k s0 s1 s2 s3 mn mx
def RepAt(m:Mem)(b:Nat):Nat->List T->Prop
 | _,[]=>True
 | o,t::l=>m.reads b o t.cs/\Rep m t/\RepAt m b (o+8) l
end
theorem ZgH{m:Mem}{t:T}:Rep m t->(t.subs.length<=1000000000000000/\(t.subs=[]\/∃b o,t.a=some ⟨b,o,none⟩/\RepAt m b o t.subs)):=by
 cases t;simp only[Rep,T.subs,T.a];exact λh=>⟨h.1,h.2.1⟩
theorem ZsV{m:Mem}{t:T}:Rep m t->OkN t.k t.s0 t.s1 t.s2 t.s3 t.mn t.mx:=by
 cases t;simp only[Rep];exact λh=>h.2.2
theorem Zul{m:Mem}{t:T}(h1:t.subs.length<=1000000000000000)(h2:t.subs=[]\/∃b o,t.a=some ⟨b,o,none⟩/\RepAt m b o t.subs)(h3:OkN t.k t.s0 t.s1 t.s2 t.s3 t.mn t.mx):Rep m t:=by
 cases t;simp only[Rep];exact⟨h1,h2,h3⟩
mutual
theorem Rep.mono{m m':Mem}(h:m.le m'):∀t:T,Rep m t->Rep m' t
 | .node _ _ _ _ _ _ _ a _ l,hr=>by
  simp only[Rep]at *
  refine⟨hr.1,?_,hr.2.2⟩
  rcases hr.2.1 with hr|⟨b,o,h1,h2⟩
  ·exact .inl hr
  ·exact .inr ⟨b,o,h1,RepAt.mono h b o l h2⟩
theorem RepAt.mono{m m':Mem}(h:m.le m')(b:Nat):∀(o:Nat)(l:List T),RepAt m b o l->RepAt m' b o l
 | _,[],_=>by simp only[RepAt]
 | o,t::l,hr=>by
  simp only[RepAt]at *
  exact⟨hr.1.mono h,Rep.mono h t hr.2.1,RepAt.mono h b (o+8) l hr.2.2⟩
end
theorem RepAt.get{m:Mem}{b:Nat}:∀{o:Nat} {l:List T} {i:Nat} {t:T},RepAt m b o l->l[i]?=some t->m.reads b (o+i*8) t.cs/\Rep m t
 | o,[],i,t,_,hi=>by simp at hi
 | o,x::l,0,t,h,hi=>by
  simp only[RepAt]at h
  simp at hi;subst hi
  exact⟨by simpa using h.1,h.2.1⟩
 | o,x::l,i+1,t,h,hi=>by
  simp only[RepAt]at h
  have:=h.2.2.get (i:=i) (by simpa using hi)
  rw[show o+(i+1)*8=o+8+i*8 by omega]
  exact this
mutual
def T.nodes:T->List T
 | .node k s0 s1 s2 s3 mn mx a c l=>.node k s0 s1 s2 s3 mn mx a c l::Zaj l
def Zaj:List T->List T
 | []=>[]
 | t::l=>t.nodes++Zaj l
end
theorem Zbv(t:T):t.nodes=t::Zaj t.subs:=by cases t;simp only[T.nodes,T.subs]
theorem Zc4(l r:List T):Zaj (l++r)=Zaj l++Zaj r:=by
 induction l with
 | nil=>simp[Zaj]
 | cons t l ih=>simp[Zaj,ih,List.append_assoc]
theorem ZfY{l:List T}{i:Nat}{t:T}(h:l[i]?=some t):Zaj (l.take (i+1))=Zaj (l.take i)++t.nodes:=by
 have:l.take (i+1)=l.take i++[t]:=by
  rw[List.take_add_one,h];rfl
 rw[this,Zc4];simp[Zaj]
theorem ZeP{l:List T}{i:Nat}{t:T}(h:l[i]?=some t):Zaj l=Zaj (l.take i)++(t.nodes++Zaj (l.drop (i+1))):=by
 have aN:=(List.getElem?_eq_some_iff.1 h).1
 have e:l=l.take i++(t::l.drop (i+1)):=by
  have:=List.drop_eq_getElem_cons aN
  rw[(List.getElem?_eq_some_iff.1 h).2]at this
  rw[<-this,List.take_append_drop]
 conv=>lhs;rw[e,Zc4]
 simp[Zaj]
theorem Zrt{t x z:T}{i q:Nat}(hx:t.subs[i]?=some x)(hz:x.nodes[q]?=some z):t.nodes[1+(Zaj (t.subs.take i)).length+q]?=some z:=by
 have hq:=(List.getElem?_eq_some_iff.1 hz).1
 rw[Zbv,show 1+(Zaj (t.subs.take i)).length+q=((Zaj (t.subs.take i)).length+q)+1 by omega,List.getElem?_cons_succ,ZeP hx,List.getElem?_append_right (by omega),List.getElem?_append_left (by omega),show(Zaj (List.take i t.subs)).length+q - (Zaj (List.take i t.subs)).length=q by omega]
 exact hz
theorem Zru{t x:T}(h:x∈t.subs):SizeOf.sizeOf x < SizeOf.sizeOf t:=by
 cases t with
 | node k s0 s1 s2 s3 mn mx a c l=>
  have h':x∈l:=h
  have:=List.sizeOf_lt_of_mem h'
  simp only[T.node.sizeOf_spec]
  omega
theorem Zn2(t:T):Shape.fitsL [.agg [.int .u8,.int .u64,.int .u64,.int .u64,.int .u64,.int .i64,.int .i64,.slice]] [t.v]=true:=by
 simp[Shape.fitsL,Shape.fits,T.v]
mutual
theorem ZoK{m:Mem}:∀(t:T),Rep m t->∀x∈t.nodes,Rep m x
 | .node k s0 s1 s2 s3 mn mx a c l,hr,x,hx=>by
  simp only[T.nodes,List.mem_cons]at hx
  rcases hx with rfl|hx
  ·exact hr
  ·simp only[Rep]at hr
   rcases hr.2.1 with h|⟨b,o,_,h⟩
   ·subst h;simp[Zaj]at hx
   ·exact Zmo b o l h x hx
theorem Zmo{m:Mem}(b:Nat):∀(o:Nat)(l:List T),RepAt m b o l->∀x∈Zaj l,Rep m x
 | _,[],_,x,hx=>by simp[Zaj]at hx
 | o,t::l,hr,x,hx=>by
  simp only[RepAt]at hr
  simp only[Zaj,List.mem_append]at hx
  rcases hx with hx|hx
  ·exact ZoK t hr.2.1 x hx
  ·exact Zmo b (o+8) l hr.2.2 x hx
end
theorem ZpV{m:Mem}{t x:T}(h:Rep m t)(hx:x∈t.nodes):Rep m x:=ZoK t h x hx
def ZgI(least most:Int):Bool:=!(decide (least < 0)||decide (least > 16)||(least == 1&&most == 1))&&(most == -1||(decide (most ≥ 1)&&decide (most<=16)&&decide (most ≥ least)))
def T.has(t:T)(k:Int):Bool:=t.subs.any λx=>x.k == k
def T.light(t:T):Bool:=decide (t.nodes.length<=10000)
def T.setZ(t:T):Bool:=t.s0 == 0&&t.s1 == 0&&t.s2 == 0&&t.s3 == 0
def T.right(t:T):Bool:=
 !(t.k != 2&&!t.setZ||(t.k != 5&&(t.mn != 0||t.mx != 0)||(decide (t.k < 3)&&decide (0 < t.subs.length)))) &&
 (if t.k=1 then true else if t.k=2 then !t.setZ else if t.k=3 then decide (1 < t.subs.length)&&(!t.has 1&&!t.has 3)else if t.k=4 then decide (1 < t.subs.length)&&!t.has 4
  else if t.k=5 then t.subs.length == 1&&(ZgI t.mn t.mx&&!t.has 1)else t.k == 6&&t.subs.length == 1)
def T.clean(t:T):Bool:=t.light&&t.nodes.all T.right
def T.size(t:T):Int:=if t.light then t.nodes.length else 10001
def T.groups(t:T):Int:=if t.light then(t.nodes.countP λx=>x.k == 6:Nat)else 10001
def Znj(x y:Int):Int:=if y > x then y else x
def ZoL(x y:Int):Int:=if y < x then y else x
def Zsf(k mn mx sum:Int):Int:=ZoL (if k=5 then sum*ZoL (if mx=-1 then Znj (Znj mn 0) 1 else Znj (Znj mn 0) mx) 10001 else sum) 10001
mutual
def T.pos:T->Int
 | .node k _ _ _ _ mn mx _ _ l=>Zsf k mn mx ((if k=2 then 1 else 0)+ZeQ l)
def ZeQ:List T->Int
 | []=>0
 | t::l=>t.pos+ZeQ l
end
def T.positions(t:T):Int:=if t.light then t.pos else 10001
def T.check(t:T):Int:=if t.clean=false then 80 else if t.size > 120 then 81 else if t.positions > 400 then 82 else if t.groups > 9 then 83 else 0
mutual
def T.same:T->T->Bool
 | .node k s0 s1 s2 s3 mn mx _ _ l,.node k' s0' s1' s2' s3' mn' mx' _ _ l'=>k == k'&&((s0 == s0'&&s1 == s1'&&s2 == s2'&&s3 == s3')&&(mn == mn'&&(mx == mx'&&ZuM l l')))
def ZuM:List T->List T->Bool
 | [],[]=>true
 | t::l,t'::l'=>t.same t'&&ZuM l l'
 | _,_=>false
end
theorem Zn3(t:T):t.pos=Zsf t.k t.mn t.mx ((if t.k=2 then 1 else 0)+ZeQ t.subs):=by
 cases t;simp only[T.pos,T.k,T.mn,T.mx,T.subs];congr 1
theorem Za9(l r:List T):ZeQ (l++r)=ZeQ l+ZeQ r:=by
 induction l with
 | nil=>simp[ZeQ]
 | cons t l ih=>simp[ZeQ,ih,Int.add_assoc]
theorem ZpW{l:List T}{i:Nat}{t:T}(h:l[i]?=some t):ZeQ (l.take (i+1))=ZeQ (l.take i)+t.pos:=by
 have:l.take (i+1)=l.take i++[t]:=by
  rw[List.take_add_one,h];rfl
 rw[this,Za9];simp[ZeQ]
theorem ZoM(x y:Int):x<=Znj x y/\y<=Znj x y:=by unfold Znj;split <;> omega
theorem Zkg(x y:Int):ZoL x y<=x/\ZoL x y<=y:=by unfold ZoL;split <;> omega
theorem ZqG{x y:Int}(h:0<=x)(k:0<=y):0<=ZoL x y:=by unfold ZoL;split <;> omega
def Zrv(mn mx:Int):Int:=ZoL (if mx=-1 then Znj (Znj mn 0) 1 else Znj (Znj mn 0) mx) 10001
theorem ZqH(mn mx:Int):0<=Zrv mn mx/\Zrv mn mx<=10001:=by
 unfold Zrv
 refine⟨ZqG ?_ (by omega),(Zkg _ _).2⟩
 have h1:=ZoM mn 0
 split
 ·have:=ZoM (Znj mn 0) 1;omega
 ·have:=ZoM (Znj mn 0) mx;omega
theorem ZsW{k mn mx sum:Int}(h:0<=sum):0<=Zsf k mn mx sum/\Zsf k mn mx sum<=10001:=by
 have h2:=Int.mul_nonneg h (ZqH mn mx).1
 unfold Zsf
 refine⟨ZqG ?_ (by omega),(Zkg _ _).2⟩
 split
 ·exact h2
 ·exact h
mutual
theorem ZhM:∀t:T,0<=t.pos/\t.pos<=10001
 | .node k _ _ _ _ mn mx _ _ l=>by
  simp only[T.pos]
  have:=ZgJ l
  exact ZsW (by split <;> omega)
theorem ZgJ:∀l:List T,0<=ZeQ l
 | []=>by simp[ZeQ]
 | t::l=>by
  simp only[ZeQ]
  have:=ZhM t
  have:=ZgJ l
  omega
end
theorem ZqI:∀l:List T,ZeQ l<=10001*l.length
 | []=>by simp[ZeQ]
 | t::l=>by
  simp only[ZeQ,List.length_cons]
  have:=ZhM t
  have:=ZqI l
  omega
theorem ZqJ(t:T):t.subs.length < t.nodes.length:=by
 rw[Zbv,List.length_cons]
 have:∀l:List T,l.length<=(Zaj l).length:=by
  intro l
  induction l with
  | nil=>simp[Zaj]
  | cons x l ih=>simp only[Zaj,List.length_cons,List.length_append];rw[Zbv];simp;omega
 have:=this t.subs
 omega
theorem ZpX{t x:T}(h:x∈t.subs):x.nodes.length < t.nodes.length:=by
 obtain⟨i,hi⟩:=List.getElem?_of_mem h
 rw[Zbv t,List.length_cons,ZeP hi]
 simp;omega
def T.hasB(t:T)(c:Nat):Bool:=((if c / 64=0 then t.s0 else if c / 64=1 then t.s1 else if c / 64=2 then t.s2 else t.s3).toNat).testBit (c % 64)
end Go.Rx
namespace Go.Rx
open Go Go.Eng Go.RowKit
def wdN(f j:Nat):Nat:=(f >>> (64*j)) % 2 ^ 64
theorem ZsX(n:Nat)(h:n < 18446744073709551616):IntKind.u64.wrap (n:Int)=n:=by
 unfold IntKind.wrap
 have e:(2:Int) ^ 64=18446744073709551616:=by decide
 simp only[IntKind.bits,IntKind.signed,Bool.false_and,Bool.false_eq_true,if_false,e]
 omega
theorem Zv1(a:Nat)(h:a < 18446744073709551616):(BitVec.ofInt 64 (a:Int)).toNat=a:=by
 rw[BitVec.toNat_ofInt]
 have e:((2:Nat) ^ 64:Nat)=18446744073709551616:=by decide
 rw[e];omega
theorem Zrw(a b:Nat)(ha:a < 18446744073709551616)(hb:b < 18446744073709551616):IntKind.u64.wrap ((BitVec.ofInt 64 (a:Int)|||BitVec.ofInt 64 (b:Int)).toNat:Int)=((a|||b:Nat):Int):=by
 rw[BitVec.toNat_or,Zv1 a ha,Zv1 b hb]
 exact ZsX _ (Nat.or_lt_two_pow (n:=64) ha hb)
theorem Zrx(a r:Nat)(ha:a < 18446744073709551616):(IntKind.u64.wrap ((BitVec.ofInt 64 (Int.fdiv (a:Int) (2 ^ r))&&&BitVec.ofInt 64 1).toNat:Int) == 1)=a.testBit r:=by
 have e:Int.fdiv (a:Int) (2 ^ r)=((a >>> r:Nat):Int):=by
  rw[Nat.shiftRight_eq_div_pow,Int.fdiv_eq_ediv_of_nonneg _ (Int.pow_nonneg (by omega))]
  push_cast
  rfl
 have aN:a >>> r < 18446744073709551616:=Nat.lt_of_le_of_lt (Nat.shiftRight_le a r) ha
 rw[e,BitVec.toNat_and,Zv1 _ aN]
 have h1:(BitVec.ofInt 64 1).toNat=1:=by decide
 rw[h1,ZsX _ (Nat.lt_of_le_of_lt Nat.and_le_left aN),Nat.and_one_is_mod]
 have e2:a.testBit r=decide (a >>> r % 2=1):=by
  rw[Nat.shiftRight_eq_div_pow];exact Nat.testBit_eq_decide_div_mod_eq
 rw[e2,Bool.eq_iff_iff]
 simp only[beq_iff_eq,decide_eq_true_eq]
 omega
def plV(f:Nat):Value:=.agg #[.int .u64 (wdN f 0:Nat),.int .u64 (wdN f 1:Nat),.int .u64 (wdN f 2:Nat),.int .u64 (wdN f 3:Nat),.int .u64 (wdN f 4:Nat),.int .u64 (wdN f 5:Nat),.int .u64 (wdN f 6:Nat),.int .u64 (wdN f 7:Nat),.int .u64 (wdN f 8:Nat)]
end Go.Rx
set_option linter.unusedSectionVars false
namespace Go.Rx
open Go Go.Eng Go.RowKit
def Byt(m:Mem)(a:Option Addr)(s:List Nat):Prop:=(s=[]\/∃b o,a=some ⟨b,o,none⟩/\m.reads b o (s.map λc:Nat=>Value.int .u8 c))/\∀c∈s,c < 256
theorem Byt.mono{m m':Mem}{a s}(h:Byt m a s)(hm:m.le m'):Byt m' a s:=by
 refine⟨?_,h.2⟩
 rcases h.1 with h|⟨b,o,h1,h2⟩
 ·exact .inl h
 ·exact .inr ⟨b,o,h1,h2.mono hm⟩
theorem Byt.get{m:Mem}{a s}(h:Byt m a s){i c:Nat}(hi:s[i]?=some c):(∃b o,a=some ⟨b,o,none⟩/\m b (o+i)=some (.int .u8 c))/\c < 256:=by
 refine⟨?_,h.2 c (List.mem_of_getElem? hi)⟩
 rcases h.1 with h|⟨b,o,h1,h2⟩
 ·subst h;simp at hi
 ·exact⟨b,o,h1,h2 i _ (by rw[List.getElem?_map,hi];rfl)⟩
def Zvi(t:T)(back:Bool)(f i c out:Nat):Nat:=if(f.testBit (if back then i+1 else i)&&t.hasB c)=true then out|||2 ^ (if back then i else i+1)else out
def Zwg(t:T)(back:Bool)(f:Nat):List Nat->Nat->Nat->Nat
 | [],_,out=>out
 | c::s,i,out=>Zwg t back f s (i+1) (Zvi t back f i c out)
def Zv2(g:Nat->Nat):Nat->Nat->Nat
 | 0,f=>f
 | n+1,f=>Zv2 g n (g f)
def ZuN(g:Nat->Nat)(mx:Int):Nat->Int->Nat->Nat->Nat
 | 0,_,out,_=>out
 | n+1,k,out,last=>if k=mx then out else if out|||g last=out then out else ZuN g mx n (IntKind.i64.wrap (k+1)) (out|||g last) (g last)
@[irreducible] def Zwo:Nat:=576
abbrev Zv3:Nat:=2 ^ Zwo
def Zwp(g:Nat->Nat)(mn mx:Int)(f:Nat):Nat:=ZuN g mx (Zv3+1) mn (Zv2 g mn.toNat f) (Zv2 g mn.toNat f)
mutual
def T.lead(s:List Nat)(back:Bool):T->Nat->Nat
 | .node k s0 s1 s2 s3 mn mx a c l=>λf=>
  if k=1 then f else if k=2 then Zwg (.node k s0 s1 s2 s3 mn mx a c l) back f s 0 0
  else if k=3 then(if back then ZuP s back l f else ZuO s back l f)
  else if k=4 then Zwh s back l f 0
  else if k=5 then Zwp (ZuQ s back l) mn mx f
  else if k=6 then ZuQ s back l f else 0
def ZuO(s:List Nat)(back:Bool):List T->Nat->Nat
 | []=>λf=>f
 | t::l=>λf=>ZuO s back l (t.lead s back f)
def ZuP(s:List Nat)(back:Bool):List T->Nat->Nat
 | []=>λf=>f
 | t::l=>λf=>t.lead s back (ZuP s back l f)
def Zwh(s:List Nat)(back:Bool):List T->Nat->Nat->Nat
 | []=>λ_ out=>out
 | t::l=>λf out=>Zwh s back l f (out|||t.lead s back f)
def ZuQ(s:List Nat)(back:Bool):List T->Nat->Nat
 | []=>λf=>f
 | t::_=>λf=>t.lead s back f
end
section
variable {s:List Nat} {back:Bool}
end
theorem Zmp{α:Type}{l:List α}{i:Nat}{x:α}(h:l[i]?=some x):l.drop i=x::l.drop (i+1):=by
 obtain⟨h1,h2⟩:=List.getElem?_eq_some_iff.1 h
 rw[List.drop_eq_getElem_cons h1,h2]
theorem Zck{α:Type}{l:List α}{i:Nat}{x:α}(h:l[i]?=some x):l.take (i+1)=l.take i++[x]:=by
 rw[List.take_add_one,h];rfl
section
variable (s:List Nat) (back:Bool) (hs:s.length<=512)
include hs
end
end Go.Rx
namespace Go.Rx
open Go Go.Eng Go.RowKit
def T0:T:=.node 0 0 0 0 0 0 0 none 0 []
def T1:T:=.node 1 0 0 0 0 0 0 none 0 []
theorem Zry(m:Mem):Rep m T0:=by simp only[T0,Rep];exact⟨by simp,.inl trivial,by constructor <;> decide⟩
theorem Zrz(m:Mem):Rep m T1:=by simp only[T1,Rep];exact⟨by simp,.inl trivial,by constructor <;> decide⟩
def T.isNone(t:T):Bool:=t.k == 0&&(t.light&&(T0.light&&t.same T0))
structure Rg where
 bg:Bool
 en:Bool
 t:T
def Rg.v(r:Rg):Value:=.agg #[.bool r.bg,.bool r.en,.int .u8 r.t.k,.int .u64 r.t.s0,.int .u64 r.t.s1,.int .u64 r.t.s2,.int .u64 r.t.s3,.int .i64 r.t.mn,.int .i64 r.t.mx,.slice r.t.a r.t.subs.length r.t.c]
def Rg.cs(r:Rg):List Value:=[.bool r.bg,.bool r.en,.int .u8 r.t.k,.int .u64 r.t.s0,.int .u64 r.t.s1,.int .u64 r.t.s2,.int .u64 r.t.s3,.int .i64 r.t.mn,.int .i64 r.t.mx,.slice r.t.a r.t.subs.length r.t.c]
def Rgs(m:Mem)(a:Option Addr)(l:List Rg):Prop:=l.length<=1000000000000000/\(l=[]\/∃b o,a=some ⟨b,o,none⟩/\∀i r,l[i]?=some r->m.reads b (o+i*10) r.cs)/\∀r∈l,Rep m r.t
theorem Rgs.mono{m m':Mem}{a l}(h:Rgs m a l)(hm:m.le m'):Rgs m' a l:=by
 refine⟨h.1,?_,λr hr=>(h.2.2 r hr).mono hm⟩
 rcases h.2.1 with h|⟨b,o,h1,h2⟩
 ·exact .inl h
 ·exact .inr ⟨b,o,h1,λi r hi=>(h2 i r hi).mono hm⟩
def Zum(f:Nat):List Nat:=(List.range 513).filter λi=>f.testBit i
def ZsY(n:Nat):List Nat->Option Nat
 | []=>none
 | i::_=>if i > n then none else some i
def Rg.from(s:List Nat)(n:Nat)(r:Rg):Option Nat:=if(r.en&&decide ((n:Int) < s.length))=true then none else if r.bg then(if(r.t.lead s true (2 ^ n)).testBit 0 then some 0 else none)else
 ZsY n (Zum (r.t.lead s true (2 ^ n)))
end Go.Rx
namespace Go.Rx
open Go Go.Eng Go.RowKit
def Zi9(φ:T->Prop):Value->Mem->List (List Value)->Prop:=λv m' _=>∃t:T,v=t.v/\Rep m' t/\φ t
abbrev TRK:=Int->Int->Int->Int->Int->Int->Int->Option Addr->Nat->Nat->Mem->Prop
theorem ZhN{φ:T->Prop}{m:Mem}{K:TRK}(k:∀(t:T)(m':Mem),m.le m'->Rep m' t->φ t->K t.k t.s0 t.s1 t.s2 t.s3 t.mn t.mx t.a t.subs.length t.c m'):
  ∀(n0 n1 n2 n3 n4 n5 n6:Int)(a:Option Addr)(n c:Nat)(m':Mem),m.le m'->Zi9 φ (.agg #[.int .u8 n0,.int .u64 n1,.int .u64 n2,.int .u64 n3,.int .u64 n4,.int .i64 n5,.int .i64 n6,.slice a n c]) m' []->K n0 n1 n2 n3 n4 n5 n6 a n c m':=by
 rintro n0 n1 n2 n3 n4 n5 n6 a n c m' hm ⟨t,hv,hr,hp⟩
 simp only[T.v,Value.agg.injEq,Array.mk.injEq,List.cons.injEq,Value.int.injEq,Value.slice.injEq,true_and,and_true]at hv
 obtain⟨rfl,rfl,rfl,rfl,rfl,rfl,rfl,rfl,rfl,rfl⟩:=hv
 exact k t m' hm hr hp
theorem ZcD{φ:T->Prop}:∀(v:Value)(m':Mem) (css:List (List Value)),Zi9 φ v m' css->Shape.fits (.agg [.int .u8,.int .u64,.int .u64,.int .u64,.int .u64,.int .i64,.int .i64,.slice]) v=true:=λv _ _ ⟨t,e,_⟩=>by rw[e];rfl
def Zkh(c j:Nat):Int:=if c / 64=j then((2 ^ (c % 64):Nat):Int)else 0
def Zcl(c:Nat):T:=.node 2 (Zkh c 0) (Zkh c 1) (Zkh c 2) (Zkh c 3) 0 0 none 0 []
theorem Zja(c j:Nat):0<=Zkh c j/\Zkh c j < 18446744073709551616:=by
 unfold Zkh
 split
 ·have h:(2:Nat) ^ (c % 64) < 2 ^ 64:=Nat.pow_lt_pow_right (by omega) (by omega)
  have e:(2:Nat) ^ 64=18446744073709551616:=by decide
  rw[e]at h
  generalize (2:Nat) ^ (c % 64)=w at *
  exact⟨by omega,by omega⟩
 ·omega
theorem Zn4(c:Nat)(m:Mem):Rep m (Zcl c):=by
 simp only[Zcl,Rep]
 exact⟨by simp,.inl trivial,⟨by omega,Zja c 0,Zja c 1,Zja c 2,Zja c 3,by omega,by omega⟩⟩
def RepL(m:Mem)(a:Option Addr)(l:List T):Prop:=l.length<=1000000000000000/\(l=[]\/∃b o,a=some ⟨b,o,none⟩/\RepAt m b o l)
theorem RepL.mono{m m':Mem}{a l}(h:RepL m a l)(hm:m.le m'):RepL m' a l:=by
 refine⟨h.1,?_⟩
 rcases h.2 with h|⟨b,o,h1,h2⟩
 ·exact .inl h
 ·exact .inr ⟨b,o,h1,h2.mono hm⟩
theorem Rep.subs{m:Mem}{t:T}(h:Rep m t):RepL m t.a t.subs:=ZgH h
def ZaE(k mn mx:Int)(a:Option Addr)(c:Nat)(l:List T):T:=.node k 0 0 0 0 mn mx a c l
theorem Zba{m:Mem}{k mn mx:Int}{a:Option Addr}{c:Nat}{l:List T}(h:RepL m a l)(hk:0<=k/\k < 256)(h1 : -9223372036854775808<=mn/\mn<=9223372036854775807)(h2 : -9223372036854775808<=mx/\mx<=9223372036854775807):Rep m (ZaE k mn mx a c l):=by
 simp only[ZaE,Rep]
 exact⟨h.1,h.2,⟨hk,by omega,by omega,by omega,by omega,h1,h2⟩⟩
theorem Zhu{m:Mem}{b:Nat}{t:T}(h:m.reads b 0 t.cs)(hr:Rep m t):RepL m (some ⟨b,0,none⟩) [t]:=⟨by simp,.inr ⟨b,0,rfl,by simp only[RepAt];exact⟨h,hr,trivial⟩⟩⟩
def Zcz(l:List T):List Value:=(l.map T.cs).flatten
theorem Zap(l:List T):(Zcz l).length=l.length*8:=by
 induction l with
 | nil=>rfl
 | cons t l ih=>simp[Zcz,T.cs]at ih ⊢;omega
theorem ZaF(l r:List T):Zcz (l++r)=Zcz l++Zcz r:=by simp[Zcz]
theorem ZoN{m:Mem}{b:Nat}:∀{o:Nat} {l:List T},m.reads b o (Zcz l)->(∀t∈l,Rep m t)->RepAt m b o l
 | o,[],_,_=>by simp only[RepAt]
 | o,t::l,h,hr=>by
  simp only[RepAt]
  refine⟨λj v hj=>?_,hr t (by simp),ZoN (λj v hj=>?_) λx hx=>hr x (by simp[hx])⟩
  ·refine h j v ?_
   simp only[Zcz,List.map_cons,List.flatten_cons]
   rw[List.getElem?_append_left (List.getElem?_eq_some_iff.1 hj).1];exact hj
  ·have:=h (8+j) v (by
    simp only[Zcz,List.map_cons,List.flatten_cons]
    rw[List.getElem?_append_right (by simp[T.cs])]
    have e:8+j - t.cs.length=j:=by simp[T.cs]
    rw[e];exact hj)
   rw[show o+8+j=o+(8+j) by omega];exact this
theorem Zmq{m:Mem}{a:Option Addr}{l:List T}(h:rowRd m a (Zcz l))(hr:∀t∈l,Rep m t)(hl:l.length<=1000000000000000):RepL m a l:=by
 refine⟨hl,?_⟩
 cases l with
 | nil=>exact .inl rfl
 | cons t l=>
  rcases h with h|⟨b,o,h1,h2⟩
  ·simp[Zcz,T.cs]at h
  ·exact .inr ⟨b,o,h1,ZoN h2 hr⟩
theorem ZfZ{m:Mem}{a:Option Addr}{l:List T}(h:RepL m a l):rowRd m a (Zcz l):=by
 have key:∀(l:List T)(b o:Nat),RepAt m b o l->m.reads b o (Zcz l):=by
  intro l
  induction l with
  | nil=>intro b o _ j v hj;simp[Zcz]at hj
  | cons t l ih=>
   intro b o hr j v hj
   simp only[RepAt]at hr
   simp only[Zcz,List.map_cons,List.flatten_cons]at hj
   by_cases aN:j < 8
   ·rw[List.getElem?_append_left (by simpa[T.cs]using aN)]at hj
    exact hr.1 j v hj
   ·rw[List.getElem?_append_right (by simp[T.cs];omega)]at hj
    have:=ih b (o+8) hr.2.2 (j - 8) v (by simpa[T.cs,Zcz]using hj)
    rw[show o+8+(j - 8)=o+j by omega]at this;exact this
 rcases h.2 with h|⟨b,o,h1,h2⟩
 ·subst h;exact .inl rfl
 ·exact .inr ⟨b,o,h1,key l b o h2⟩
theorem Zmr{m:Mem}{a:Option Addr}{l:List T}(h:RepL m a l):∀t∈l,Rep m t:=by
 rcases h.2 with h|⟨b,o,_,h⟩
 ·subst h;simp
 ·intro t ht
  obtain⟨i,hi⟩:=List.getElem?_of_mem ht
  exact(h.get hi).2
def Zv4(j:Nat)(w c:Nat):Nat:=if c / 64=j then w|||2 ^ (c % 64)else w
def Zqp(bs:List Nat)(j:Nat):Nat:=bs.foldl (Zv4 j) 0
theorem ZpY(l:List Nat)(c j:Nat):Zqp (l++[c]) j=if c / 64=j then Zqp l j|||2 ^ (c % 64)else Zqp l j:=by
 unfold Zqp
 rw[List.foldl_append];rfl
theorem ZqK(l:List Nat)(j:Nat):Zqp l j < 18446744073709551616:=by
 have key:∀(l:List Nat)(w:Nat),w < 2 ^ 64->l.foldl (Zv4 j) w < 2 ^ 64:=by
  intro l
  induction l with
  | nil=>intro w h;exact h
  | cons c l ih=>
   intro w h
   refine ih _ ?_
   unfold Zv4
   split
   ·exact Nat.or_lt_two_pow h (Nat.pow_lt_pow_right (by omega) (by omega))
   ·exact h
 exact key l 0 (by decide)
def Zjb(bs:List Nat):T:=.node 2 (Zqp bs 0:Nat) (Zqp bs 1:Nat) (Zqp bs 2:Nat) (Zqp bs 3:Nat) 0 0 none 0 []
theorem Zms(bs:List Nat)(m:Mem):Rep m (Zjb bs):=by
 simp only[Zjb,Rep]
 have h:=ZqK bs
 exact⟨by simp,.inl trivial,⟨by omega,⟨by omega,by have:=h 0;omega⟩,⟨by omega,by have:=h 1;omega⟩,⟨by omega,by have:=h 2;omega⟩,⟨by omega,by have:=h 3;omega⟩,by omega,by omega⟩⟩
def ZqL(bs:List Nat):List Value:=[.int .u64 (Zqp bs 0:Nat),.int .u64 (Zqp bs 1:Nat),.int .u64 (Zqp bs 2:Nat),.int .u64 (Zqp bs 3:Nat)]
theorem ZpZ(bs:List Nat){j:Nat}(h:j < 4):(ZqL bs)[j]?=some (.int .u64 (Zqp bs j:Nat)):=by
 have:j=0\/j=1\/j=2\/j=3:=by omega
 rcases this with rfl|rfl|rfl|rfl <;> rfl
theorem Zn5(l:List Nat){c j:Nat}(hj:c / 64=j)(h:j < 4):Zah (ZqL l) j [.int .u64 ((Zqp l j|||2 ^ (c % 64):Nat):Int)]=ZqL (l++[c]):=by
 unfold ZqL
 simp only[ZpY,hj]
 have:j=0\/j=1\/j=2\/j=3:=by omega
 rcases this with rfl|rfl|rfl|rfl <;> rfl
def ZdA(n:Nat):List Nat:=([[97],[98],[97,98],[97],[98],[99],[97,98,99],[98,99],[10],[0,255],[97],[98]][n % 12]?).getD []
end Go.Rx
namespace Go.Rx
open Go Go.Eng Go.RowKit
def T.good(t:T):Bool:=t.nodes.all T.right
def isG(t:T):Bool:=t.k == 6
theorem Zki(p:T->Bool):∀l:List T,(Zaj l).all p=l.all λt=>t.nodes.all p
 | []=>rfl
 | t::l=>by simp only[Zaj,List.all_append,List.all_cons,Zki p l]
theorem Zmt(t:T):t.good=(t.right&&t.subs.all T.good):=by
 unfold T.good;rw[Zbv,List.all_cons,Zki]
def grL(l:List T):Nat:=(Zaj l).countP isG
def szL(l:List T):Nat:=(Zaj l).length
def T.gr(t:T):Nat:=t.nodes.countP isG
theorem ZaG(l r:List T):szL (l++r)=szL l+szL r:=by unfold szL;rw[Zc4,List.length_append]
theorem ZbH(l r:List T):grL (l++r)=grL l+grL r:=by unfold grL;rw[Zc4,List.countP_append]
theorem ZbA(t:T):szL [t]=t.nodes.length:=by simp[szL,Zaj]
theorem Zdt(t:T):grL [t]=t.gr:=by simp[grL,Zaj,T.gr]
theorem Zct(t:T):ZeQ [t]=t.pos:=by simp[ZeQ]
theorem Zjc(t:T)(l:List T):szL (t::l)=t.nodes.length+szL l:=by simp[szL,Zaj]
theorem ZoO(t:T)(l:List T):grL (t::l)=t.gr+grL l:=by simp[grL,Zaj,T.gr,List.countP_append]
theorem Zp0(t:T):t.nodes.length=1+szL t.subs:=by rw[Zbv,List.length_cons,szL];omega
theorem ZsZ(t:T):t.gr=(if isG t=true then 1 else 0)+grL t.subs:=by
 unfold T.gr;rw[Zbv,List.countP_cons,grL];omega
theorem ZoP(l:List T):l.length<=szL l:=by
 induction l with
 | nil=>simp
 | cons t l ih=>rw[Zjc,Zp0,List.length_cons];omega
def ZbB(k:Int)(t:T):List T:=if t.k=k then t.subs else if k=3/\t.k=1 then[]else[t]
def Zge(k:Int)(a:Option Addr)(c:Nat):List T->T
 | []=>T1
 | [x]=>x
 | x::y::l=>ZaE k 0 0 a c (x::y::l)
theorem Zjd{t:T}{k:Int}(h:t.has k=false):∀x∈t.subs,x.k≠k:=by
 intro x hx e
 unfold T.has at h
 have:=List.any_eq_false.1 h x hx
 simp[e]at this
theorem ZrA{t:T}{k:Int}(h:∀x∈t.subs,x.k≠k):t.has k=false:=by
 unfold T.has
 rw[List.any_eq_false]
 intro x hx
 have:=h x hx
 simpa using this
theorem Zje{k:Int}{t:T}(hk:k=3\/k=4)(hg:t.good=true)(hp:t.pos<=10000):(∀x∈ZbB k t,x.good=true/\x.k≠k/\(k=3->x.k≠1))/\szL (ZbB k t)<=t.nodes.length/\grL (ZbB k t)<=t.gr/\ZeQ (ZbB k t)<=t.pos:=by
 have hg':=hg
 rw[Zmt,Bool.and_eq_true,List.all_eq_true]at hg'
 unfold ZbB
 split
 ·rename_i dF
  refine⟨λx hx=>⟨hg'.2 x hx,?_⟩,by rw[Zp0];omega,by rw[ZsZ];omega,?_⟩
  ·have hr:=hg'.1
   unfold T.right at hr
   rw[Bool.and_eq_true]at hr
   have hr:=hr.2
   rcases hk with rfl|rfl
   ·simp only[dF]at hr
    simp at hr
    exact⟨Zjd hr.2.2 x hx,λ_=>Zjd hr.2.1 x hx⟩
   ·simp only[dF]at hr
    simp at hr
    exact⟨Zjd hr.2 x hx,λh=>by omega⟩
  ·rw[Zn3]at hp ⊢
   have h5:¬t.k=5:=by omega
   have h2:¬t.k=2:=by omega
   unfold Zsf at hp ⊢
   rw[if_neg h5,if_neg h2,Int.zero_add]at hp ⊢
   unfold ZoL at hp ⊢
   split at hp
   ·omega
   ·split <;> omega
 ·rename_i dF
  split
  ·refine⟨λx hx=>by simp at hx,by simp[szL,Zaj],by simp[grL,Zaj],?_⟩
   simp only[ZeQ];exact(ZhM t).1
  ·rename_i xQ
   refine⟨λx hx=>?_,by rw[ZbA];exact Nat.le_refl _,by rw[Zdt];exact Nat.le_refl _,by rw[Zct];exact Int.le_refl _⟩
   simp at hx;subst hx
   exact⟨hg,dF,λh=>λh1=>xQ ⟨h,h1⟩⟩
theorem Zmu{k:Int}(hk:k=3\/k=4)(a:Option Addr)(c:Nat):∀{l:List T},(∀x∈l,x.good=true/\x.k≠k/\(k=3->x.k≠1))->(Zge k a c l).good=true/\(Zge k a c l).nodes.length<=1+szL l/\(Zge k a c l).gr<=grL l/\(Zge k a c l).pos<=ZeQ l
 | [],_=>⟨show T1.good=true by decide,show T1.nodes.length<=1 by decide,show T1.gr<=0 by decide,show T1.pos<=0 by decide⟩
 | [x],h=>by
  rw[ZbA,Zdt,Zct]
  exact⟨(h x (by simp)).1,by show x.nodes.length<=_;omega,Nat.le_refl _,Int.le_refl _⟩
 | x::y::l,h=>by
  show(ZaE k 0 0 a c (x::y::l)).good=true/\(ZaE k 0 0 a c (x::y::l)).nodes.length<=_/\(ZaE k 0 0 a c (x::y::l)).gr<=_/\(ZaE k 0 0 a c (x::y::l)).pos<=_
  have hs:(ZaE k 0 0 a c (x::y::l)).subs=x::y::l:=rfl
  have dF:(ZaE k 0 0 a c (x::y::l)).k=k:=rfl
  have hz:(ZaE k 0 0 a c (x::y::l)).setZ=true:=rfl
  have nL:(ZaE k 0 0 a c (x::y::l)).mn=0:=rfl
  have kU:(ZaE k 0 0 a c (x::y::l)).mx=0:=rfl
  refine⟨?_,by rw[Zp0,hs];exact Nat.le_refl _,?_,?_⟩
  ·rw[Zmt,Bool.and_eq_true,List.all_eq_true,hs]
   refine⟨?_,λz hz=>(h z hz).1⟩
   have h1:k=3->(ZaE k 0 0 a c (x::y::l)).has 1=false:=λe=>ZrA λz hz=>(h z hz).2.2 e
   have h2:(ZaE k 0 0 a c (x::y::l)).has k=false:=ZrA λz hz=>(h z hz).2.1
   unfold T.right
   rw[dF,hz,nL,kU,hs]
   rcases hk with rfl|rfl
   ·simp[h1 rfl,h2]
   ·simp[h2]
  ·rw[ZsZ,hs,isG,dF]
   rcases hk with rfl|rfl <;> simp
  ·rw[Zn3,dF,nL,kU,hs]
   unfold Zsf
   rw[if_neg (by omega),if_neg (by omega),Int.zero_add]
   exact(Zkg _ _).1
structure J (i:Nat)(ts:List T)(u g:Nat):Prop where
 good:∀t∈ts,t.good=true
 sz:szL ts<=i
 pos:ZeQ ts<=(i*u:Nat)
 u1:1<=u
 u16:u<=16
 gr:grL ts<=g
 g9:g<=9
theorem J.zero:J 0 [] 1 0:=⟨by simp,by simp[szL,Zaj],by simp[ZeQ],by omega,by omega,by simp[grL,Zaj],by omega⟩
theorem J.skip{i ts u g}(h:J i ts u g):J (i+1) ts u g:=
 ⟨h.good,by have:=h.sz;omega,by have:=h.pos;have e:(i+1)*u=i*u+u:=Nat.succ_mul i u;rw[e];omega,h.u1,h.u16,h.gr,h.g9⟩
theorem J.push{i ts u g}(h:J i ts u g){t:T}(hg:t.good=true)(hs:t.nodes.length=1)(hp:t.pos<=1)(hr:t.gr=0):J (i+1) (ts++[t]) u g:=by
 refine⟨λx hx=>?_,?_,?_,h.u1,h.u16,?_,h.g9⟩
 ·rcases List.mem_append.1 hx with hx|hx
  ·exact h.good x hx
  ·simp at hx;subst hx;exact hg
 ·rw[ZaG,ZbA,hs];have:=h.sz;omega
 ·rw[Za9,Zct];have:=h.pos;have:=h.u1;have e:(i+1)*u=i*u+u:=Nat.succ_mul i u;rw[e];omega
 ·rw[ZbH,Zdt,hr];have:=h.gr;omega
theorem J.pos400{i ts u g}(h:J i ts u g)(hi:i<=25):ZeQ ts<=400:=by
 have h1:=h.pos
 have:i*u<=25*16:=Nat.mul_le_mul hi h.u16
 omega
theorem J.join{i ts u g}{x y:T}(h:J i (ts++[x,y]) u g)(hi:i<=25){k:Int}(hk:k=3\/k=4)(a:Option Addr)(c:Nat):J (i+1) (ts++[Zge k a c (ZbB k x++ZbB k y)]) u g:=by
 have h4:=h.pos400 hi
 have hz:=h.sz
 have hp:=h.pos
 have kS:=h.gr
 rw[show ts++[x,y]=ts++([x]++[y]) from rfl]at h4 hz hp kS
 rw[Za9,Za9,Zct,Zct]at h4 hp
 rw[ZaG,ZaG,ZbA,ZbA]at hz
 rw[ZbH,ZbH,Zdt,Zdt]at kS
 have n1:=ZgJ ts
 have n2:=(ZhM x).1
 have n3:=(ZhM y).1
 obtain⟨a1,a2,a3,a4⟩:=Zje hk (h.good x (by simp)) (by omega)
 obtain⟨b1,b2,b3,b4⟩:=Zje hk (h.good y (by simp)) (by omega)
 obtain⟨c1,c2,c3,c4⟩:=Zmu hk a c (l:=ZbB k x++ZbB k y) (λz hz=>by
  rcases List.mem_append.1 hz with hz|hz
  ·exact a1 z hz
  ·exact b1 z hz)
 rw[ZaG]at c2
 rw[ZbH]at c3
 rw[Za9]at c4
 refine⟨λz hz=>?_,?_,?_,h.u1,h.u16,?_,h.g9⟩
 ·rcases List.mem_append.1 hz with hz|hz
  ·exact h.good z (by simp[hz])
  ·simp at hz;subst hz;exact c1
 ·rw[ZaG,ZbA];omega
 ·rw[Za9,Zct];have e:(i+1)*u=i*u+u:=Nat.succ_mul i u;rw[e];omega
 ·rw[ZbH,Zdt];omega
theorem J.group{i ts u g}{x:T}(h:J i (ts++[x]) u g)(hg:g < 9)(a:Option Addr)(c:Nat):J (i+1) (ts++[ZaE 6 0 0 a c [x]]) u (g+1):=by
 have hz:=h.sz
 have hp:=h.pos
 have kS:=h.gr
 rw[Za9,Zct]at hp
 rw[ZaG,ZbA]at hz
 rw[ZbH,Zdt]at kS
 have hs:(ZaE 6 0 0 a c [x]).subs=[x]:=rfl
 refine⟨λz hz=>?_,?_,?_,h.u1,h.u16,?_,by omega⟩
 ·rcases List.mem_append.1 hz with hz|hz
  ·exact h.good z (by simp[hz])
  ·simp at hz;subst hz
   rw[Zmt,Bool.and_eq_true,List.all_eq_true]
   refine⟨rfl,λz hz=>?_⟩
   rw[hs]at hz;simp at hz;subst hz
   exact h.good z (by simp)
 ·rw[ZaG,ZbA,Zp0,hs,ZbA];omega
 ·rw[Za9,Zct,Zn3,hs,Zct]
  have:Zsf (ZaE 6 0 0 a c [x]).k (ZaE 6 0 0 a c [x]).mn (ZaE 6 0 0 a c [x]).mx ((if(ZaE 6 0 0 a c [x]).k=2 then 1 else 0)+x.pos)<=x.pos:=by
   show ZoL (if(6:Int)=5 then _ else(if(6:Int)=2 then 1 else 0)+x.pos) 10001<=_
   rw[if_neg (by omega),if_neg (by omega),Int.zero_add]
   exact(Zkg _ _).1
  have e:(i+1)*u=i*u+u:=Nat.succ_mul i u
  rw[e];omega
 ·rw[ZbH,Zdt,ZsZ,hs,Zdt]
  split <;> omega
theorem J.rep{i ts u g}{x:T}(h:J i (ts++[x]) u g)(hx:x.k≠1){mn mx:Int}(hb:ZgI mn mx=true){w:Nat}(hw:Zrv mn mx<=w)(h1:1<=w)(hu:u*w<=16)(a:Option Addr)(c:Nat):J (i+1) (ts++[ZaE 5 mn mx a c [x]]) (u*w) g:=by
 have hz:=h.sz
 have hp:=h.pos
 have kS:=h.gr
 rw[Za9,Zct]at hp
 rw[ZaG,ZbA]at hz
 rw[ZbH,Zdt]at kS
 have hs:(ZaE 5 mn mx a c [x]).subs=[x]:=rfl
 have n1:=ZgJ ts
 have n2:=(ZhM x).1
 refine⟨λz hz=>?_,?_,?_,?_,hu,?_,h.g9⟩
 ·rcases List.mem_append.1 hz with hz|hz
  ·exact h.good z (by simp[hz])
  ·simp at hz;subst hz
   rw[Zmt,Bool.and_eq_true,List.all_eq_true]
   refine⟨?_,λz hz=>?_⟩
   ·have hh:(ZaE 5 mn mx a c [x]).has 1=false:=ZrA λz hz=>by rw[hs]at hz;simp at hz;subst hz;exact hx
    unfold T.right
    rw[hh,hs,show(ZaE 5 mn mx a c [x]).k=5 from rfl,show(ZaE 5 mn mx a c [x]).setZ=true from rfl,show(ZaE 5 mn mx a c [x]).mn=mn from rfl,show(ZaE 5 mn mx a c [x]).mx=mx from rfl,hb]
    simp
   ·rw[hs]at hz;simp at hz;subst hz
    exact h.good z (by simp)
 ·rw[ZaG,ZbA,Zp0,hs,ZbA];omega
 ·rw[Za9,Zct,Zn3,hs,Zct]
  have key:Zsf (ZaE 5 mn mx a c [x]).k (ZaE 5 mn mx a c [x]).mn (ZaE 5 mn mx a c [x]).mx ((if(ZaE 5 mn mx a c [x]).k=2 then 1 else 0)+x.pos)<=x.pos*w:=by
   show ZoL (if(5:Int)=5 then((if(5:Int)=2 then 1 else 0)+x.pos)*Zrv mn mx else _) 10001<=_
   rw[if_pos rfl,if_neg (by omega),Int.zero_add]
   exact Int.le_trans (Zkg _ _).1 (Int.mul_le_mul_of_nonneg_left hw n2)
  have k2:ZeQ ts<=ZeQ ts*w:=by
   have:=Int.mul_le_mul_of_nonneg_left (show(1:Int)<=w by omega) n1
   rw[Int.mul_one]at this;exact this
  have k3:(ZeQ ts+x.pos)*w<=((i*u:Nat):Int)*w:=Int.mul_le_mul_of_nonneg_right hp (by omega)
  rw[Int.add_mul]at k3
  have e:(i+1)*(u*w)=i*u*w+u*w:=by rw[Nat.succ_mul,Nat.mul_assoc]
  have e2:(((i*u:Nat):Int)*w)=((i*u*w:Nat):Int):=by push_cast;rfl
  rw[e2]at k3
  rw[e]
  generalize i*u*w=A at *
  generalize u*w=B at *
  generalize ZeQ ts*(w:Int)=D at *
  generalize x.pos*(w:Int)=F at *
  omega
 ·have:=Nat.mul_le_mul h.u1 h1;omega
 ·rw[ZbH,Zdt,ZsZ,hs,Zdt,isG,show(ZaE 5 mn mx a c [x]).k=5 from rfl]
  simp;omega
structure F (t:T)(l:List T):Prop where
 good:t.good=true
 goods:∀x∈l,x.good=true
 sz:t.nodes.length+szL l+l.length<=60
 pos:t.pos+ZeQ l<=400
 gr:t.gr+grL l<=9
theorem F.start{i u g}{t:T}{l:List T}(h:J i (t::l) u g)(hi:i<=25):F t l:=by
 have h1:=h.sz
 have h2:=h.pos400 hi
 have h3:=h.gr
 rw[Zjc]at h1
 rw[ZoO]at h3
 have:=ZoP l
 have:=h.g9
 exact⟨h.good t (by simp),λx hx=>h.good x (by simp[hx]),by omega,by simpa[ZeQ]using h2,by omega⟩
theorem F.step{t x:T}{l:List T}(h:F t (x::l))(a:Option Addr)(c:Nat):F (Zge 4 a c (ZbB 4 t++ZbB 4 x)) l:=by
 have h1:=h.sz
 have h2:=h.pos
 have h3:=h.gr
 rw[Zjc,List.length_cons]at h1
 rw[ZoO]at h3
 simp only[ZeQ]at h2
 have n1:=ZgJ l
 have n2:=(ZhM x).1
 have n3:=(ZhM t).1
 obtain⟨a1,a2,a3,a4⟩:=Zje (.inr rfl) h.good (by omega) (t:=t)
 obtain⟨b1,b2,b3,b4⟩:=Zje (.inr rfl) (h.goods x (by simp)) (by omega)
 obtain⟨c1,c2,c3,c4⟩:=Zmu (.inr rfl) a c (l:=ZbB 4 t++ZbB 4 x) (λz hz=>by
  rcases List.mem_append.1 hz with hz|hz
  ·exact a1 z hz
  ·exact b1 z hz)
 rw[ZaG]at c2
 rw[ZbH]at c3
 rw[Za9]at c4
 exact⟨c1,λz hz=>h.goods z (by simp[hz]),by omega,by omega,by omega⟩
theorem F.done{t:T}{l:List T}(h:F t l):t.check=0:=by
 have h1:=h.sz
 have h2:=h.pos
 have h3:=h.gr
 have n1:=ZgJ l
 have hl:t.light=true:=by unfold T.light;exact decide_eq_true (by omega)
 have hc:t.clean=true:=by unfold T.clean;rw[hl];exact h.good
 have hg:((t.nodes.countP λx=>x.k == 6:Nat))=t.gr:=rfl
 unfold T.check
 rw[hc]
 unfold T.size T.positions T.groups
 rw[hl,hg]
 simp only[if_true,Bool.true_eq_false,if_false]
 rw[if_neg (by omega),if_neg (by omega),if_neg (by omega)]
theorem Zhv{t:T}(h:t.check=0):t.good=true/\t.nodes.length<=120:=by
 unfold T.check at h
 split at h
 ·exact absurd h (by decide)
 ·rename_i hc
  have hc':t.clean=true:=by simpa using hc
  unfold T.clean at hc'
  rw[Bool.and_eq_true]at hc'
  split at h
  ·exact absurd h (by decide)
  ·rename_i hz
   unfold T.size at hz
   rw[hc'.1]at hz
   simp only[if_true]at hz
   exact⟨hc'.2,by omega⟩
theorem ZoQ(n:Nat):(Zjb (ZdA n)).good=true/\(Zjb (ZdA n)).nodes.length=1/\(Zjb (ZdA n)).pos<=1/\(Zjb (ZdA n)).gr=0:=by
 have h:n % 12=0\/n % 12=1\/n % 12=2\/n % 12=3\/n % 12=4\/n % 12=5\/n % 12=6\/n % 12=7\/n % 12=8\/n % 12=9\/n % 12=10\/n % 12=11:=by omega
 unfold ZdA
 rcases h with e|e|e|e|e|e|e|e|e|e|e|e <;> rw[e] <;> exact⟨by decide,by decide,by decide,by decide⟩
theorem Zs0:T1.good=true/\T1.nodes.length=1/\T1.pos<=1/\T1.gr=0:=⟨by decide,by decide,by decide,by decide⟩
theorem Zep{k:Int}{t:T}:(ZbB k t).length<=t.nodes.length:=by
 unfold ZbB
 have:=ZqJ t
 have:=Zp0 t
 split
 ·omega
 ·split <;> simp <;> omega
end Go.Rx
namespace Go.Rx
open Go Go.Eng Go.RowKit
def nsL(l:List Nat):List Value:=l.map λi:Nat=>.int .i64 (i:Nat)
def ZoR:List Nat->List Nat->List Nat
 | seen,[]=>seen
 | seen,i::l=>if i∈seen then ZoR seen l else ZoR (seen++[i]) l
def ddp(l:List Nat):List Nat:=ZoR [] l
theorem Zlt:∀{l seen:List Nat} {j:Nat},j∈ZoR seen l↔j∈seen\/j∈l
 | [],seen,j=>by simp[ZoR]
 | i::l,seen,j=>by
  unfold ZoR
  by_cases h:i∈seen
  ·rw[if_pos h,Zlt,List.mem_cons]
   constructor
   ·rintro(h1|h1)
    ·exact .inl h1
    ·exact .inr (.inr h1)
   ·rintro(h1|rfl|h1)
    ·exact .inl h1
    ·exact .inl h
    ·exact .inr h1
  ·rw[if_neg h,Zlt,List.mem_append,List.mem_singleton,or_assoc,List.mem_cons]
theorem ZgK{l:List Nat}{j:Nat}:j∈ddp l↔j∈l:=by unfold ddp;rw[Zlt];simp
theorem Zf0:∀{l r seen:List Nat},ZoR seen (l++r)=ZoR (ZoR seen l) r
 | [],r,seen=>rfl
 | i::l,r,seen=>by
  simp only[List.cons_append,ZoR]
  split
  ·exact Zf0
  ·exact Zf0
def Zp1:List (Nat->List Nat)->Nat->List Nat
 | [],i=>[i]
 | f::r,i=>ddp ((f i).flatMap (Zp1 r))
def Zjf(mx:Int)(d:Nat):Bool:=mx == -1||decide ((d:Int) < mx)
def Zdd(mn mx:Int)(d:Nat):Nat:=if mx=-1 then min (d+1) mn.toNat else d+1
def ZdU(f:Nat->List Nat)(mn mx:Int)(d i:Nat):List Nat:=if Zjf mx d=true then(f i).filter λj=>decide (i < j)||decide ((d:Int) < mn)else[]
def Zt5(mn:Int)(d i:Nat):List Nat:=if(d:Int) ≥ mn then[i]else[]
def Zp2(f:Nat->List Nat)(mn mx:Int):Nat->Nat->Nat->List Nat
 | 0,_,_=>[]
 | k+1,d,i=>ddp ((ZdU f mn mx d i).flatMap (Zp2 f mn mx k (Zdd mn mx d))++Zt5 mn d i)
def mR(len:Nat)(mn mx:Int)(d i:Nat):Nat:=if mx=-1 then(mn.toNat - d)+(len - i)else mx.toNat - d
def Zu6(t:T)(s:List Nat)(i:Nat):List Nat:=match s[i]? with
 | some c=>if t.hasB c=true then[i+1]else[]
 | none=>[]
mutual
def T.e0(s:List Nat):T->Nat->List Nat
 | .node k s0 s1 s2 s3 mn mx a c l=>λi=>
  if k=1 then[i]else if k=2 then Zu6 (.node k s0 s1 s2 s3 mn mx a c l) s i
  else if k=6 then ddp (hd0 s l i)
  else if k=4 then ddp (Zso s l i)
  else if k=3 then Zp1 (e0s s l) i
  else if k=5 then Zp2 (hd0 s l) mn mx (mR s.length mn mx 0 i+1) 0 i else[]
def hd0(s:List Nat):List T->Nat->List Nat
 | []=>λ_=>[]
 | t::_=>λi=>t.e0 s i
def Zso(s:List Nat):List T->Nat->List Nat
 | []=>λ_=>[]
 | t::l=>λi=>t.e0 s i++Zso s l i
def e0s(s:List Nat):List T->List (Nat->List Nat)
 | []=>[]
 | t::l=>t.e0 s::e0s s l
end
theorem ZoS(s:List Nat):∀l:List T,e0s s l=l.map (T.e0 s)
 | []=>by simp[e0s]
 | t::l=>by simp[e0s,ZoS s l]
theorem Zmv(s:List Nat)(i:Nat):∀l:List T,Zso s l i=(l.map λt=>t.e0 s i).flatten
 | []=>by simp[Zso]
 | t::l=>by simp[Zso,Zmv s i l]
def T.ends(s:List Nat)(t:T)(d i:Nat):List Nat:=
 if t.k=3 then Zp1 ((t.subs.map (T.e0 s)).drop d) i else if t.k=5 then Zp2 (hd0 s t.subs) t.mn t.mx (mR s.length t.mn t.mx d i+1) d i else t.e0 s i
theorem Za1(s:List Nat)(t:T)(i:Nat):t.ends s 0 i=t.e0 s i:=by
 unfold T.ends
 cases t with
 | node k s0 s1 s2 s3 mn mx a c l=>
  simp only[T.k,T.subs,T.mn,T.mx,List.drop_zero]
  by_cases h:k=3
  ·subst h
   simp[T.e0,ZoS]
  ·simp only[h,if_false]
   by_cases h:k=5
   ·subst h
    simp[T.e0]
   ·simp only[h,if_false]
def T.lists(s:List Nat)(t:T)(d i:Nat):List (List Nat):=
 if t.k=1 then[[i]]else if t.k=2 then(match s[i]? with
  | some c=>if t.hasB c=true then[[i+1]]else[]
  | none=>[])
 else if t.k=6 then[hd0 s t.subs i]
 else if t.k=4 then t.subs.map λx=>x.e0 s i
 else if t.k=3 then(match t.subs[d]? with
  | none=>[[i]]
  | some x=>(x.e0 s i).map λj=>t.ends s (d+1) j)
 else if t.k=5 then((ZdU (hd0 s t.subs) t.mn t.mx d i).map λj=>t.ends s (Zdd t.mn t.mx d) j)++(if(d:Int) ≥ t.mn then[[i]]else[])else[]
def Zgf(len:Nat)(f:Nat->List Nat):Prop:=∀i,i<=len->∀j∈f i,i<=j/\j<=len
theorem Zf1{len:Nat}:∀{l:List (Nat->List Nat)},(∀f∈l,Zgf len f)->Zgf len (Zp1 l)
 | [],_,i,hi,j,hj=>by simp[Zp1]at hj;omega
 | f::l,h,i,hi,j,hj=>by
  simp only[Zp1]at hj
  rw[ZgK,List.mem_flatMap]at hj
  obtain⟨x,hx,hj⟩:=hj
  obtain⟨h1,h2⟩:=h f (by simp) i hi x hx
  obtain⟨h3,h4⟩:=Zf1 (λf hf=>h f (by simp[hf])) x h2 j hj
  omega
theorem Zcu{f:Nat->List Nat}{mn mx:Int}{d i j:Nat}(h:j∈ZdU f mn mx d i):Zjf mx d=true/\j∈f i/\(i < j\/(d:Int) < mn):=by
 unfold ZdU at h
 split at h
 ·rename_i hm
  rw[List.mem_filter]at h
  simp only[Bool.or_eq_true,decide_eq_true_eq]at h
  exact⟨hm,h.1,h.2⟩
 ·simp at h
theorem Zf2{len:Nat}{f:Nat->List Nat}(hf:Zgf len f){mn mx:Int}:∀{k d:Nat},Zgf len (Zp2 f mn mx k d)
 | 0,d,i,hi,j,hj=>by simp[Zp2]at hj
 | k+1,d,i,hi,j,hj=>by
  simp only[Zp2]at hj
  rw[ZgK,List.mem_append,List.mem_flatMap]at hj
  rcases hj with⟨x,hx,hj⟩|hj
  ·obtain⟨_,h1,_⟩:=Zcu hx
   obtain⟨h2,h3⟩:=hf i hi x h1
   obtain⟨h4,h5⟩:=Zf2 hf x h3 j hj
   omega
  ·unfold Zt5 at hj
   split at hj
   ·simp at hj;omega
   ·simp at hj
theorem Zs1{len:Nat}{mn mx:Int}{d i j:Nat}(nL:0<=mn)(kU:mx=-1\/mn<=mx)(hm:Zjf mx d=true)(hj:i<=j/\j<=len)(h:i < j\/(d:Int) < mn):mR len mn mx (Zdd mn mx d) j < mR len mn mx d i:=by
 unfold mR Zdd
 unfold Zjf at hm
 simp only[Bool.or_eq_true,beq_iff_eq,decide_eq_true_eq]at hm
 by_cases e:mx=-1
 ·simp only[e,if_true]
  rcases Nat.lt_or_ge d mn.toNat with h1|h1
  ·rw[Nat.min_eq_left (by omega)];omega
  ·rw[Nat.min_eq_right (by omega)];omega
 ·simp only[e,if_false]
  have:=hm.resolve_left e
  omega
theorem Zmw{len:Nat}{f:Nat->List Nat}(hf:Zgf len f){mn mx:Int}(nL:0<=mn)(kU:mx=-1\/mn<=mx):∀{k k' d i:Nat},i<=len->mR len mn mx d i < k->mR len mn mx d i < k'->Zp2 f mn mx k d i=Zp2 f mn mx k' d i
 | 0,k',d,i,_,h,_=>by omega
 | k+1,0,d,i,_,_,h=>by omega
 | k+1,k'+1,d,i,hi,h1,h2=>by
  simp only[Zp2]
  congr 2
  have:∀x∈ZdU f mn mx d i,Zp2 f mn mx k (Zdd mn mx d) x=Zp2 f mn mx k' (Zdd mn mx d) x:=λx hx=>by
   obtain⟨g1,g2,g3⟩:=Zcu hx
   obtain⟨g4,g5⟩:=hf i hi x g2
   have:=Zs1 (len:=len) nL kU g1 ⟨g4,g5⟩ g3
   exact Zmw hf nL kU g5 (by omega) (by omega)
  rw[List.flatMap_def,List.flatMap_def,List.map_congr_left this]
mutual
theorem ZbZ(s:List Nat):∀t:T,Zgf s.length (t.e0 s)
 | .node k s0 s1 s2 s3 mn mx a c l=>λi hi j hj=>by
  simp only[T.e0]at hj
  split at hj
  ·simp at hj;omega
  ·split at hj
   ·unfold Zu6 at hj
    split at hj
    ·rename_i c hc
     have:=(List.getElem?_eq_some_iff.1 hc).1
     split at hj
     ·simp at hj;omega
     ·simp at hj
    ·simp at hj
   ·split at hj
    ·rw[ZgK]at hj
     exact Zb2 s l i hi j hj
    ·split at hj
     ·rw[ZgK]at hj
      exact Zil s l i hi j hj
     ·split at hj
      ·exact Zf1 (Zkj s l) i hi j hj
      ·split at hj
       ·exact Zf2 (Zb2 s l) i hi j hj
       ·simp at hj
theorem Zb2(s:List Nat):∀l:List T,Zgf s.length (hd0 s l)
 | []=>λi hi j hj=>by simp[hd0]at hj
 | t::l=>λi hi j hj=>ZbZ s t i hi j (by simpa[hd0]using hj)
theorem Zil(s:List Nat):∀l:List T,Zgf s.length (Zso s l)
 | []=>λi hi j hj=>by simp[Zso]at hj
 | t::l=>λi hi j hj=>by
  simp only[Zso,List.mem_append]at hj
  rcases hj with hj|hj
  ·exact ZbZ s t i hi j hj
  ·exact Zil s l i hi j hj
theorem Zkj(s:List Nat):∀l:List T,∀f∈e0s s l,Zgf s.length f
 | []=>λf hf=>by simp[e0s]at hf
 | t::l=>λf hf=>by
  simp only[e0s,List.mem_cons]at hf
  rcases hf with rfl|hf
  ·exact ZbZ s t
  ·exact Zkj s l f hf
end
theorem Zf3(s:List Nat)(t:T)(d:Nat):Zgf s.length (t.ends s d):=λi hi j hj=>by
 unfold T.ends at hj
 split at hj
 ·exact Zf1 (λf hf=>by
   obtain⟨x,_,rfl⟩:=List.mem_map.1 (List.mem_of_mem_drop hf)
   exact ZbZ s x) i hi j hj
 ·split at hj
  ·exact Zf2 (Zb2 s t.subs) i hi j hj
  ·exact ZbZ s t i hi j hj
theorem Zn6(s:List Nat)(t:T)(d i:Nat)(hi:i<=s.length)(hk:t.k=5->0<=t.mn/\(t.mx=-1\/t.mn<=t.mx)):t.ends s d i=ddp (t.lists s d i).flatten:=by
 unfold T.ends T.lists
 by_cases h3:t.k=3
 ·simp only[h3,if_true,show ¬(3:Int)=1 by decide,show ¬(3:Int)=2 by decide,show ¬(3:Int)=6 by decide,show ¬(3:Int)=4 by decide,if_false]
  cases hd:t.subs[d]? with
  | none=>
   have:t.subs.length<=d:=List.getElem?_eq_none_iff.1 hd
   rw[List.drop_eq_nil_of_le (by simpa using this)]
   rfl
  | some x=>
   have aN:=(List.getElem?_eq_some_iff.1 hd).1
   rw[List.drop_eq_getElem_cons (by simpa using aN)]
   simp only[Zp1,List.getElem_map]
   have hx:t.subs[d]=x:=(List.getElem?_eq_some_iff.1 hd).2
   rw[hx,List.flatMap_def]
   congr 2
   refine List.map_congr_left λj _=>?_
   unfold T.ends
   rw[if_pos h3]
 ·simp only[h3,if_false]
  by_cases h5:t.k=5
  ·obtain⟨nL,kU⟩:=hk h5
   simp only[h5,if_true,show ¬(5:Int)=1 by decide,show ¬(5:Int)=2 by decide,show ¬(5:Int)=6 by decide,show ¬(5:Int)=4 by decide,if_false]
   simp only[Zp2]
   congr 1
   rw[List.flatten_append]
   congr 1
   ·rw[List.flatMap_def]
    congr 1
    refine List.map_congr_left λj hj=>?_
    obtain⟨g1,g2,g3⟩:=Zcu hj
    obtain⟨g4,g5⟩:=Zb2 s t.subs i hi j g2
    have:=Zs1 (len:=s.length) nL kU g1 ⟨g4,g5⟩ g3
    unfold T.ends
    rw[if_neg (by rw[h5];decide),if_pos h5]
    exact Zmw (Zb2 s t.subs) nL kU g5 (by omega) (by omega)
   ·unfold Zt5;split <;> rfl
  ·simp only[h5,if_false]
   cases t with
   | node k s0 s1 s2 s3 mn mx a c l=>
    simp only[T.k]at h3 h5 ⊢
    simp only[T.e0,h3,h5,if_false,T.subs]
    by_cases h1:k=1
    ·simp[h1,ddp,ZoR]
    ·simp only[h1,if_false]
     by_cases h2:k=2
     ·simp only[h2,if_true]
      unfold Zu6
      cases s[i]? with
      | none=>rfl
      | some ch=>simp only;split <;> rfl
     ·simp only[h2,if_false]
      by_cases h6:k=6
      ·simp[h6]
      ·simp only[h6,if_false]
       by_cases h4:k=4
       ·simp only[h4,if_true];rw[Zmv]
       ·simp only[h4,if_false];rfl
end Go.Rx
namespace Go.Rx
open Go Go.Eng Go.RowKit
noncomputable abbrev but(m:Mem)(kb:Nat):Mem:=m.off (λb=>b=kb)
theorem Zjg{m:Mem}{kb:Nat}(o:Nat):but m kb kb o=none:=Mem.off_free (Y:=λb=>b=kb) rfl o
theorem ZkU{m:Mem}{kb b:Nat}(h:b≠kb)(o:Nat):but m kb b o=m b o:=Mem.off_at (Y:=λb=>b=kb) h o
theorem ZkV{m:Mem}{kb:Nat}:(but m kb).k kb=none:=Mem.off_kn (Y:=λb=>b=kb) rfl
theorem ZuR{m:Mem}{kb b:Nat}(h:b≠kb):(but m kb).k b=m.k b:=Mem.off_k (Y:=λb=>b=kb) h
theorem ZgL(m:Mem)(kb:Nat):(but m kb).le m:=Mem.off_le _ _
theorem Zd3{m m':Mem}{kb:Nat}(h:(but m kb).le m'):(but m kb).le (but m' kb):=⟨λb o v hv=>by
 by_cases e:b=kb
 ·subst e;rw[Zjg]at hv;cases hv
 ·rw[ZkU e];exact h.c b o v hv,λb v hv=>by
 by_cases e:b=kb
 ·subst e;rw[ZkV]at hv;cases hv
 ·rw[ZuR e];exact h.k b v hv⟩
theorem Zmx{m m':Mem}{kb:Nat}(h:m.le m'):(but m kb).le (but m' kb):=Zd3 (mLt (Mem.off_le _ _) h)
inductive Nd where
 | mk (b id grp:Nat) (t:T) (a:Option Addr) (c:Nat) (subs:List Nd)
def Nd.b:Nd->Nat
 | .mk b _ _ _ _ _ _=>b
def Nd.id:Nd->Nat
 | .mk _ i _ _ _ _ _=>i
def Nd.grp:Nd->Nat
 | .mk _ _ g _ _ _ _=>g
def Nd.t:Nd->T
 | .mk _ _ _ t _ _ _=>t
def Nd.a:Nd->Option Addr
 | .mk _ _ _ _ a _ _=>a
def Nd.c:Nd->Nat
 | .mk _ _ _ _ _ c _=>c
def Nd.subs:Nd->List Nd
 | .mk _ _ _ _ _ _ l=>l
def Nd.cs(n:Nd):List Value:=n.t.cs++[.int .i64 n.id,.int .i64 n.grp,.slice n.a n.subs.length n.c]
mutual
def NRep(m:Mem):Nd->Prop
 | .mk b id grp t a c l=>m.reads b 0 (t.cs++[.int .i64 (id:Nat),.int .i64 (grp:Nat),.slice a l.length c])/\(Rep m t/\l.map Nd.t=t.subs)/\(id < 4611686018427387904/\grp < 4611686018427387904)/\(l=[]\/∃b0 o,a=some ⟨b0,o,none⟩/\NRow m b0 o l)
def NRow(m:Mem)(b0:Nat):Nat->List Nd->Prop
 | _,[]=>True
 | o,x::l=>m b0 o=some (ptr x.b 0)/\NRep m x/\NRow m b0 (o+1) l
end
theorem Zc5{m:Mem}{n:Nd}:NRep m n↔m.reads n.b 0 n.cs/\(Rep m n.t/\n.subs.map Nd.t=n.t.subs)/\(n.id < 4611686018427387904/\n.grp < 4611686018427387904)/\(n.subs=[]\/∃b0 o,n.a=some ⟨b0,o,none⟩/\NRow m b0 o n.subs):=by
 cases n;simp only[NRep,Nd.b,Nd.cs,Nd.t,Nd.subs,Nd.a,Nd.id,Nd.grp,Nd.c]
mutual
theorem NRep.mono{m m':Mem}(h:m.le m'):∀n:Nd,NRep m n->NRep m' n
 | .mk b id grp t a c l,hr=>by
  simp only[NRep]at hr ⊢
  refine⟨hr.1.mono h,⟨Rep.mono h t hr.2.1.1,hr.2.1.2⟩,hr.2.2.1,?_⟩
  rcases hr.2.2.2 with h1|⟨b0,o,h1,h2⟩
  ·exact .inl h1
  ·exact .inr ⟨b0,o,h1,NRow.mono h b0 o l h2⟩
theorem NRow.mono{m m':Mem}(h:m.le m')(b0:Nat):∀(o:Nat)(l:List Nd),NRow m b0 o l->NRow m' b0 o l
 | _,[],_=>by simp only[NRow]
 | o,x::l,hr=>by
  simp only[NRow]at hr ⊢
  exact⟨h.c _ _ _ hr.1,NRep.mono h x hr.2.1,NRow.mono h b0 (o+1) l hr.2.2⟩
end
theorem NRow.get{m:Mem}{b0:Nat}:∀{o:Nat} {l:List Nd} {i:Nat} {x:Nd},NRow m b0 o l->l[i]?=some x->m b0 (o+i)=some (ptr x.b 0)/\NRep m x
 | o,[],i,x,_,hi=>by simp at hi
 | o,y::l,0,x,h,hi=>by
  simp only[NRow]at h
  simp at hi;subst hi
  exact⟨h.1,h.2.1⟩
 | o,y::l,i+1,x,h,hi=>by
  simp only[NRow]at h
  have:=h.2.2.get (i:=i) (by simpa using hi)
  rw[show o+(i+1)=o+1+i by omega];exact this
mutual
def Nd.all:Nd->List Nd
 | .mk b id grp t a c l=>.mk b id grp t a c l::ZjI l
def ZjI:List Nd->List Nd
 | []=>[]
 | x::l=>x.all++ZjI l
end
theorem Zs2(n:Nd):n.all=n::ZjI n.subs:=by cases n;simp only[Nd.all,Nd.subs]
theorem ZcF(n:Nd):n∈n.all:=by rw[Zs2];simp
theorem ZrB{l:List Nd}{x y:Nd}(hx:x∈l)(hy:y∈x.all):y∈ZjI l:=by
 induction l with
 | nil=>cases hx
 | cons z l ih=>
  simp only[ZjI,List.mem_append]
  rcases List.mem_cons.1 hx with rfl|hx
  ·exact .inl hy
  ·exact .inr (ih hx)
mutual
theorem Zmy:∀(n x y:Nd),x∈n.all->y∈x.all->y∈n.all
 | .mk b id grp t a c l,x,y,hx,hy=>by
  simp only[Nd.all,List.mem_cons]at hx ⊢
  rcases hx with rfl|hx
  ·simp only[Nd.all,List.mem_cons]at hy;exact hy
  ·exact .inr (Zkk l x y hx hy)
theorem Zkk:∀(l:List Nd)(x y:Nd),x∈ZjI l->y∈x.all->y∈ZjI l
 | [],x,y,hx,_=>by simp[ZjI]at hx
 | z::l,x,y,hx,hy=>by
  simp only[ZjI,List.mem_append]at hx ⊢
  rcases hx with hx|hx
  ·exact .inl (Zmy z x y hx hy)
  ·exact .inr (Zkk l x y hx hy)
end
theorem ZdP{n x y:Nd}(h:x∈n.all)(hy:y∈x.subs):y∈n.all:=Zmy n x y h (by rw[Zs2];exact List.mem_cons_of_mem _ (ZrB hy (ZcF y)))
mutual
theorem Zbw{m:Mem}:∀n:Nd,NRep m n->∀x∈n.all,NRep m x
 | .mk b id grp t a c l,hr,x,hx=>by
  simp only[Nd.all,List.mem_cons]at hx
  rcases hx with rfl|hx
  ·exact hr
  ·simp only[NRep]at hr
   rcases hr.2.2.2 with h|⟨b0,o,_,h⟩
   ·subst h;simp[ZjI]at hx
   ·exact ZoT b0 o l h x hx
theorem ZoT{m:Mem}(b0:Nat):∀(o:Nat)(l:List Nd),NRow m b0 o l->∀x∈ZjI l,NRep m x
 | _,[],_,x,hx=>by simp[ZjI]at hx
 | o,y::l,hr,x,hx=>by
  simp only[NRow]at hr
  simp only[ZjI,List.mem_append]at hx
  rcases hx with hx|hx
  ·exact Zbw y hr.2.1 x hx
  ·exact ZoT b0 (o+1) l hr.2.2 x hx
end
theorem ZuS{n x:Nd}(h:x∈n.subs):SizeOf.sizeOf x < SizeOf.sizeOf n:=by
 cases n with
 | mk b id grp t a c l=>
  have h':x∈l:=h
  have:=List.sizeOf_lt_of_mem h'
  simp only[Nd.mk.sizeOf_spec]
  omega
def plK(id d i:Nat):Value:=.agg #[.int .i64 (id:Nat),.int .i64 (d:Nat),.int .i64 (i:Nat)]
def Memo(B:Mem)(root:Nd)(s:List Nat)(es:List (Value×Value)):Prop:=
 ∀e∈es,∃(n:Nd)(d i:Nat)(a:Option Addr)(c:Nat),n∈root.all/\e=(plK n.id d i,.slice a (n.t.ends s d i).length c)/\rowRd B a (nsL (n.t.ends s d i))
theorem Memo.mono{B B':Mem}{root:Nd}{s:List Nat}{es:List (Value×Value)}(h:Memo B root s es)(hB:B.le B'):Memo B' root s es:=λe he=>by
 obtain⟨n,d,i,a,c,h1,h2,h3⟩:=h e he
 exact⟨n,d,i,a,c,h1,h2,h3.mono hB⟩
structure Fin (B:Mem)(fb kb:Nat)(root:Nd)(sa:Option Addr)(s:List Nat)(sc:Nat):Prop where
 str:B fb 0=some (.slice sa s.length sc)
 memo:B fb 3=some (.map (some kb))
 byt:Byt B sa s
 len:s.length<=512
 rep:NRep B root
 ids:∀x∈root.all,∀y∈root.all,x.id=y.id->x=y
 good:∀x∈root.all,x.t.right=true
theorem Fin.mono{B B':Mem}{fb kb:Nat}{root:Nd}{sa:Option Addr}{s:List Nat}{sc:Nat}(h:Fin B fb kb root sa s sc)(hB:B.le B'):Fin B' fb kb root sa s sc:=
 ⟨hB.c _ _ _ h.str,hB.c _ _ _ h.memo,h.byt.mono hB,h.len,NRep.mono hB _ h.rep,h.ids,h.good⟩
theorem Zmz{m:Mem}{kb:Nat}{Z:Nat->Prop}(hz:Z kb):(m.off Z).le (but m kb):=⟨λb o v h=>by
 by_cases e:Z b
 ·rw[Mem.off_free e]at h;cases h
 ·rw[Mem.off_at e]at h
  rw[ZkU (λh':b=kb=>e (by rw[h'];exact hz))];exact h,λb v h=>by
 by_cases e:Z b
 ·rw[Mem.off_kn e]at h;cases h
 ·rw[Mem.off_k e]at h
  rw[ZuR (λh':b=kb=>e (by rw[h'];exact hz))];exact h⟩
theorem ZmA{m m':Mem}{Z:Nat->Prop}(h:(m.off Z).le m'):(m.off Z).le (m'.off Z):=⟨λb o v hv=>by
 by_cases e:Z b
 ·rw[Mem.off_free e]at hv;cases hv
 ·rw[Mem.off_at e];exact h.c b o v hv,λb v hv=>by
 by_cases e:Z b
 ·rw[Mem.off_kn e]at hv;cases hv
 ·rw[Mem.off_k e];exact h.k b v hv⟩
theorem ZqM{m m':Mem}{kb:Nat}{Z:Nat->Prop}(hz:Z kb)(h:(but m kb).le m'):(m.off Z).le (m'.off Z):=ZmA (mLt (Zmz hz) h)
theorem ZeR{m m':Mem}{Z:Nat->Prop}(h:m.le m'):(m.off Z).le (m'.off Z):=ZmA (mLt (Mem.off_le _ _) h)
def HasM(m:Mem)(kb:Nat)(Z:Nat->Prop)(root:Nd)(s:List Nat):Prop:=∃es,m.k kb=some es/\Memo (m.off Z) root s es
theorem HasM.le{m m':Mem}{kb:Nat}{Z:Nat->Prop}{root:Nd}{s:List Nat}(h:HasM m kb Z root s)(hm:m.le m'):HasM m' kb Z root s:=by
 obtain⟨es,h1,h2⟩:=h
 exact⟨es,hm.k _ _ h1,h2.mono (ZeR hm)⟩
def ZOk(m:Mem)(kb:Nat)(Z:Nat->Prop):Prop:=Z kb/\∀b,Z b->b=kb\/∃v,m b 0=some v
theorem ZOk.next{m m':Mem}{kb:Nat}{Z:Nat->Prop}(h:ZOk m kb Z)(hm:(but m kb).le m'):ZOk m' kb Z:=⟨h.1,λb hb=>by
 rcases h.2 b hb with e|⟨v,hv⟩
 ·exact .inl e
 ·by_cases e:b=kb
  ·exact .inl e
  ·exact .inr ⟨v,hm.c _ _ _ (by rw[ZkU e];exact hv)⟩⟩
theorem ZOk.le{m m':Mem}{kb:Nat}{Z:Nat->Prop}(h:ZOk m kb Z)(hm:m.le m'):ZOk m' kb Z:=h.next (mLt (ZgL _ _) hm)
theorem ZOk.new{m:Mem}{kb b:Nat}{Z:Nat->Prop}(h:ZOk m kb Z)(hk:∃es,m.k kb=some es)(h1:m.free b)(h2:m.k b=none):¬Z b:=λhb=>by
 rcases h.2 b hb with e|⟨v,hv⟩
 ·subst e
  obtain⟨es,dN⟩:=hk
  rw[dN]at h2;cases h2
 ·rw[h1 0]at hv;cases hv
end Go.Rx
namespace Go.Rx
open Go Go.Eng Go.RowKit
abbrev PL:=List (Int×Int)
def ZtN(W:Nat->Nat->PL->PL)(E:Nat->List Nat)(len:Nat)(mn mx:Int)(to:Nat):Nat->Nat->Nat->PL->Nat->PL×Nat
 | 0,_,_,P,r=>(P,r)
 | k+1,d,i,P,r=>match(ZdU E mn mx d i).find? (λj=>decide (to∈Zp2 E mn mx (mR len mn mx (Zdd mn mx d) j+1) (Zdd mn mx d) j))with
  | none=>(P,r)
  | some j=>ZtN W E len mn mx to k (Zdd mn mx d) j (W i j P) (r+1)
mutual
def T.ngr:T->Nat
 | .node k _ _ _ _ _ _ _ _ l=>(if k=6 then 1 else 0)+ZdJ l
def ZdJ:List T->Nat
 | []=>0
 | t::l=>t.ngr+ZdJ l
end
theorem Zs3(t:T):t.ngr=(if t.k=6 then 1 else 0)+ZdJ t.subs:=by cases t;rfl
mutual
def T.wk(s:List Nat):T->Nat->Nat->Nat->PL->PL×Nat
 | .node k s0 s1 s2 s3 mn mx a c l=>λg i to P=>
  if k=6 then(hdW s l (g+1) i to (P.set g ((i:Int),(to:Int))),0)
  else if k=4 then(Zqq s l g i to P,0)
  else if k=3 then(Zqr s l g i to P,0)
  else if k=5 then ZtN (hdW s l g) (hd0 s l) s.length mn mx to (mR s.length mn mx 0 i+1) 0 i P 0
  else(P,0)
def hdW(s:List Nat):List T->Nat->Nat->Nat->PL->PL
 | []=>λ_ _ _ P=>P
 | t::_=>λg i to P=>(t.wk s g i to P).1
def Zqq(s:List Nat):List T->Nat->Nat->Nat->PL->PL
 | []=>λ_ _ _ P=>P
 | t::l=>λg i to P=>if to∈t.e0 s i then(t.wk s g i to P).1 else Zqq s l (g+t.ngr) i to P
def Zqr(s:List Nat):List T->Nat->Nat->Nat->PL->PL
 | []=>λ_ _ _ P=>P
 | t::l=>λg i to P=>match(t.e0 s i).find? (λj=>decide (to∈Zp1 (e0s s l) j))with
  | none=>P
  | some j=>Zqr s l (g+t.ngr) j to (t.wk s g i j P).1
end
theorem Zvj(s:List Nat)(t:T)(g i to:Nat)(P:PL):t.wk s g i to P =
  if t.k=6 then(hdW s t.subs (g+1) i to (P.set g ((i:Int),(to:Int))),0)
  else if t.k=4 then(Zqq s t.subs g i to P,0)
  else if t.k=3 then(Zqr s t.subs g i to P,0)
  else if t.k=5 then ZtN (hdW s t.subs g) (hd0 s t.subs) s.length t.mn t.mx to (mR s.length t.mn t.mx 0 i+1) 0 i P 0
  else(P,0):=by cases t;rfl
theorem ZoU{W:Nat->Nat->PL->PL}(hW:∀i j P,(W i j P).length=P.length){E:Nat->List Nat}{len:Nat}{mn mx:Int}{to:Nat}:∀{k d i:Nat} {P:PL} {r:Nat},(ZtN W E len mn mx to k d i P r).1.length=P.length
 | 0,d,i,P,r=>rfl
 | k+1,d,i,P,r=>by
  unfold ZtN
  split
  ·rfl
  ·rw[ZoU hW,hW]
mutual
theorem ZmB(s:List Nat):∀(t:T)(g i to:Nat)(P:PL),(t.wk s g i to P).1.length=P.length
 | .node k s0 s1 s2 s3 mn mx a c l=>λg i to P=>by
  simp only[T.wk]
  split
  ·rw[ZqN s l];simp
  ·split
   ·exact ZoV s l _ _ _ _
   ·split
    ·exact ZoW s l _ _ _ _
    ·split
     ·exact ZoU λi j P=>ZqN s l _ _ _ _
     ·rfl
theorem ZqN(s:List Nat):∀(l:List T)(g i to:Nat)(P:PL),(hdW s l g i to P).length=P.length
 | []=>λ_ _ _ _=>by simp[hdW]
 | t::_=>λg i to P=>by simp only[hdW];exact ZmB s t g i to P
theorem ZoV(s:List Nat):∀(l:List T)(g i to:Nat)(P:PL),(Zqq s l g i to P).length=P.length
 | []=>λ_ _ _ _=>by simp[Zqq]
 | t::l=>λg i to P=>by
  simp only[Zqq]
  split
  ·exact ZmB s t g i to P
  ·exact ZoV s l _ _ _ _
theorem ZoW(s:List Nat):∀(l:List T)(g i to:Nat)(P:PL),(Zqr s l g i to P).length=P.length
 | []=>λ_ _ _ _=>by simp[Zqr]
 | t::l=>λg i to P=>by
  simp only[Zqr]
  split
  ·rfl
  ·rw[ZoW s l,ZmB s t]
end
theorem ZrC{f:Nat->List Nat}{r:List (Nat->List Nat)}{i to:Nat}:to∈Zp1 (f::r) i↔∃j∈f i,to∈Zp1 r j:=by
 simp only[Zp1]
 rw[ZgK,List.mem_flatMap]
mutual
def Nd.num:Nd->Nat->Prop
 | .mk b id grp t a c l=>λg=>(t.k=6->grp=g)/\Zs4 l (g+if t.k=6 then 1 else 0)
def Zs4:List Nd->Nat->Prop
 | []=>λ_=>True
 | x::l=>λg=>x.num g/\Zs4 l (g+x.t.ngr)
end
theorem Zs5(n:Nd)(g:Nat):n.num g↔(n.t.k=6->n.grp=g)/\Zs4 n.subs (g+if n.t.k=6 then 1 else 0):=by
 cases n;exact Iff.rfl
def PtAt(m:Mem)(pa:Option Addr)(P:PL):Prop:=(P=[]/\pa=none)\/∃b,pa=some ⟨b,0,none⟩/\(∀q p,P[q]?=some p->m b (q*2)=some (.int .i64 p.1)/\m b (q*2+1)=some (.int .i64 p.2))/\P≠[]
theorem PtAt.mono{m m':Mem}{pa:Option Addr}{P:PL}(h:PtAt m pa P)(hm:m.le m'):PtAt m' pa P:=by
 rcases h with h|⟨b,h1,h2,h3⟩
 ·exact .inl h
 ·exact .inr ⟨b,h1,λq p hq=>⟨hm.c _ _ _ (h2 q p hq).1,hm.c _ _ _ (h2 q p hq).2⟩,h3⟩
theorem PtAt.but{m:Mem}{pa:Option Addr}{P:PL}{kb:Nat}(h:PtAt m pa P)(hk:∀b,pa=some ⟨b,0,none⟩->b≠kb):PtAt (but m kb) pa P:=by
 rcases h with h|⟨b,h1,h2,h3⟩
 ·exact .inl h
 ·exact .inr ⟨b,h1,λq p hq=>by rw[ZkU (hk b h1),ZkU (hk b h1)];exact h2 q p hq,h3⟩
def Zp(kb:Nat)(pa:Option Addr)(b:Nat):Prop:=b=kb\/pa=some ⟨b,0,none⟩
theorem PtAt.upd{m:Mem}{pa:Option Addr}{P:PL}{b g:Nat}{x y:Int}(h:PtAt m pa P)(hb:pa=some ⟨b,0,none⟩)(hg:g < P.length):PtAt (m.upd b (0+g*2) [.int .i64 x,.int .i64 y]) pa (P.set g (x,y)):=by
 rcases h with⟨h,_⟩|⟨b',h1,h2,h3⟩
 ·subst h;simp at hg
 rw[hb]at h1;cases h1
 refine .inr ⟨b,hb,λq p hq=>?_,by simp[h3]⟩
 rw[Nat.zero_add]
 by_cases e:q=g
 ·subst e
  rw[List.getElem?_set_self hg]at hq
  cases hq
  constructor
  ·show(if b=b/\q*2<=q*2/\q*2 < q*2+2 then _ else _)=_
   rw[if_pos ⟨rfl,by omega,by omega⟩]
   simp
  ·show(if b=b/\q*2<=q*2+1/\q*2+1 < q*2+2 then _ else _)=_
   rw[if_pos ⟨rfl,by omega,by omega⟩]
   simp
 ·rw[List.getElem?_set_ne (Ne.symm e)]at hq
  obtain⟨g1,g2⟩:=h2 q p hq
  constructor
  ·show(if b=b/\g*2<=q*2/\q*2 < g*2+2 then _ else _)=_
   rw[if_neg (by omega)];exact g1
  ·show(if b=b/\g*2<=q*2+1/\q*2+1 < g*2+2 then _ else _)=_
   rw[if_neg (by omega)];exact g2
theorem Zs6{m:Mem}{Z:Nat->Prop}{b o:Nat}{vs:List Value}(h:Z b):(m.off Z).le ((m.upd b o vs).off Z):=⟨λb' o' v hv=>by
 by_cases e:Z b'
 ·rw[Mem.off_free e]at hv;cases hv
 ·rw[Mem.off_at e]at hv ⊢
  rw[Mem.upd_other m (λh':b'=b=>e (by rw[h'];exact h))];exact hv,λb' v hv=>by
 by_cases e:Z b'
 ·rw[Mem.off_kn e]at hv;cases hv
 ·rw[Mem.off_k e]at hv ⊢;exact hv⟩
theorem ZoX{x:Nd}:∀{l:List Nd} {j g:Nat},Zs4 (l.drop j) g->l[j]?=some x->x.num g/\Zs4 (l.drop (j+1)) (g+x.t.ngr):=λ{l j g} h hx=>by
 rw[Zmp hx]at h
 exact h
end Go.Rx
namespace Go.Rx
open Go Go.Eng Go.RowKit
mutual
def Nd.idn:Nd->Nat->Prop
 | .mk b id grp t a c l=>λk=>id=k/\Zt6 l (k+1)
def Zt6:List Nd->Nat->Prop
 | []=>λ_=>True
 | x::l=>λk=>x.idn k/\Zt6 l (k+x.t.nodes.length)
end
theorem Zun(n:Nd)(k:Nat):n.idn k↔n.id=k/\Zt6 n.subs (k+1):=by
 cases n;exact Iff.rfl
theorem ZoY{x:Nd}:∀{l:List Nd} {g:Nat},Zs4 l g->x.num (g+ZdJ (l.map Nd.t))->Zs4 (l++[x]) g
 | [],g,_,h=>⟨by simpa[ZdJ]using h,trivial⟩
 | y::l,g,h1,h=>⟨h1.1,ZoY h1.2 (by simpa[ZdJ,Nat.add_assoc]using h)⟩
theorem ZoZ{x:Nd}:∀{l:List Nd} {k:Nat},Zt6 l k->x.idn (k+(Zaj (l.map Nd.t)).length)->Zt6 (l++[x]) k
 | [],k,_,h=>⟨by simpa[Zaj]using h,trivial⟩
 | y::l,k,h1,h=>⟨h1.1,ZoZ h1.2 (by simpa[Zaj,Nat.add_assoc]using h)⟩
theorem ZgM{l:List T}{i:Nat}{t:T}(h:l[i]?=some t):ZdJ (l.take (i+1))=ZdJ (l.take i)+t.ngr:=by
 have app:∀(a b:List T),ZdJ (a++b)=ZdJ a+ZdJ b:=λa b=>by
  induction a with
  | nil=>simp[ZdJ]
  | cons x a ih=>simp[ZdJ,ih,Nat.add_assoc]
 rw[Zck h,app];simp[ZdJ]
theorem ZqO{l:List T}{i:Nat}:ZdJ (l.take i)<=ZdJ l:=by
 induction l generalizing i with
 | nil=>simp[ZdJ]
 | cons x l ih=>
  cases i with
  | zero=>simp[ZdJ]
  | succ i=>simp only[List.take_succ_cons,ZdJ];have:=ih (i:=i);omega
theorem ZmC{l:List T}{i:Nat}:(Zaj (l.take i)).length<=(Zaj l).length:=by
 induction l generalizing i with
 | nil=>simp[Zaj]
 | cons x l ih=>
  cases i with
  | zero=>simp[Zaj]
  | succ i=>simp only[List.take_succ_cons,Zaj,List.length_append];have:=ih (i:=i);omega
def Nd.ok(n:Nd):Prop:=∀x∈n.all,x.subs.map Nd.t=x.t.subs
theorem Zs7{m:Mem}{n:Nd}(h:NRep m n):n.ok:=λx hx=>(Zc5.1 (Zbw n h x hx)).2.1.2
mutual
theorem ZrD:∀(n:Nd)(k:Nat),(∀x∈n.all,x.subs.map Nd.t=x.t.subs)->n.idn k->∀x∈n.all,k<=x.id/\x.id < k+n.t.nodes.length
 | .mk b id grp t a c l,k,ho,h,x,hx=>by
  obtain⟨rfl,h⟩:=h
  have he:l.map Nd.t=t.subs:=ho (.mk b id grp t a c l) (ZcF _)
  show id<=x.id/\x.id < id+t.nodes.length
  rw[Zbv t,<-he,List.length_cons]
  simp only[Nd.all,List.mem_cons]at hx
  rcases hx with rfl|hx
  ·show id<=id/\id < _
   omega
  ·have:=Zim l (id+1) (λy hy=>ho y (by simp only[Nd.all,List.mem_cons];exact .inr hy)) h x hx
   omega
theorem Zim:∀(l:List Nd)(k:Nat),(∀x∈ZjI l,x.subs.map Nd.t=x.t.subs)->Zt6 l k->∀x∈ZjI l,k<=x.id/\x.id < k+(Zaj (l.map Nd.t)).length
 | [],k,ho,h,x,hx=>by simp[ZjI]at hx
 | y::l,k,ho,h,x,hx=>by
  simp only[ZjI,List.mem_append]at hx ho
  simp only[List.map_cons,Zaj,List.length_append]
  rcases hx with hx|hx
  ·have:=ZrD y k (λz hz=>ho z (.inl hz)) h.1 x hx;omega
  ·have:=Zim l _ (λz hz=>ho z (.inr hz)) h.2 x hx;omega
end
mutual
theorem ZqP:∀(n:Nd)(k:Nat),(∀x∈n.all,x.subs.map Nd.t=x.t.subs)->n.idn k->∀x∈n.all,∀y∈n.all,x.id=y.id->x=y
 | .mk b id grp t a c l,k,ho,h,x,hx,y,hy,e=>by
  obtain⟨rfl,h⟩:=h
  have ho':∀y∈ZjI l,y.subs.map Nd.t=y.t.subs:=λy hy=>ho y (by simp only[Nd.all,List.mem_cons];exact .inr hy)
  simp only[Nd.all,List.mem_cons]at hx hy
  rcases hx with rfl|hx <;> rcases hy with rfl|hy
  ·rfl
  ·have:=Zim l (id+1) ho' h y hy
   have e:id=y.id:=e
   omega
  ·have:=Zim l (id+1) ho' h x hx
   have e:x.id=id:=e
   omega
  ·exact Zo0 l _ ho' h x hx y hy e
theorem Zo0:∀(l:List Nd)(k:Nat),(∀x∈ZjI l,x.subs.map Nd.t=x.t.subs)->Zt6 l k->∀x∈ZjI l,∀y∈ZjI l,x.id=y.id->x=y
 | [],k,ho,h,x,hx,y,hy,e=>by simp[ZjI]at hx
 | z::l,k,ho,h,x,hx,y,hy,e=>by
  simp only[ZjI,List.mem_append]at hx hy ho
  rcases hx with hx|hx <;> rcases hy with hy|hy
  ·exact ZqP z k (λz hz=>ho z (.inl hz)) h.1 x hx y hy e
  ·have h1:=ZrD z k (λz hz=>ho z (.inl hz)) h.1 x hx
   have h2:=Zim l _ (λz hz=>ho z (.inr hz)) h.2 y hy
   omega
  ·have h1:=ZrD z k (λz hz=>ho z (.inl hz)) h.1 y hy
   have h2:=Zim l _ (λz hz=>ho z (.inr hz)) h.2 x hx
   omega
  ·exact Zo0 l _ (λz hz=>ho z (.inr hz)) h.2 x hx y hy e
end
mutual
theorem ZmD:∀(n:Nd),(∀x∈n.all,x.subs.map Nd.t=x.t.subs)->∀x∈n.all,x.t∈n.t.nodes
 | .mk b id grp t a c l,ho,x,hx=>by
  have he:l.map Nd.t=t.subs:=ho (.mk b id grp t a c l) (ZcF _)
  show x.t∈t.nodes
  rw[Zbv t,<-he]
  simp only[Nd.all,List.mem_cons]at hx
  rcases hx with rfl|hx
  ·exact List.mem_cons_self ..
  ·exact List.mem_cons_of_mem _ (Zkl l (λy hy=>ho y (by simp only[Nd.all,List.mem_cons];exact .inr hy)) x hx)
theorem Zkl:∀(l:List Nd),(∀x∈ZjI l,x.subs.map Nd.t=x.t.subs)->∀x∈ZjI l,x.t∈Zaj (l.map Nd.t)
 | [],ho,x,hx=>by simp[ZjI]at hx
 | y::l,ho,x,hx=>by
  simp only[ZjI,List.mem_append]at hx ho
  simp only[List.map_cons,Zaj,List.mem_append]
  rcases hx with hx|hx
  ·exact .inl (ZmD y (λz hz=>ho z (.inl hz)) x hx)
  ·exact .inr (Zkl l (λz hz=>ho z (.inr hz)) x hx)
end
mutual
theorem Zjh:∀t:T,t.ngr=t.nodes.countP (λx=>x.k == 6)
 | .node k s0 s1 s2 s3 mn mx a c l=>by
  simp only[T.ngr,T.nodes,List.countP_cons]
  rw[Zkm l,Nat.add_comm]
  congr 1
  show(if k=6 then 1 else 0)=if(k == 6)=true then 1 else 0
  by_cases h:k=6 <;> simp[h]
theorem Zkm:∀l:List T,ZdJ l=(Zaj l).countP (λx=>x.k == 6)
 | []=>by simp[ZdJ,Zaj]
 | t::l=>by simp only[ZdJ,Zaj,List.countP_append];rw[Zjh t,Zkm l]
end
def NewP(m:Mem)(pa pa':Option Addr):Prop:=∀b,pa'=some ⟨b,0,none⟩->pa=pa'\/(m.free b/\m.k b=none)
theorem NewP.same{m:Mem}{pa:Option Addr}:NewP m pa pa:=λ_ _=>.inl rfl
theorem ZqQ{m M:Mem}{pa pa':Option Addr}{kb:Nat}(hm:(m.off (λb=>pa=some ⟨b,0,none⟩)).le M)(hp:NewP m pa pa'):(m.off (Zp kb pa)).le (M.off (Zp kb pa')):=by
 have key:∀b,¬Zp kb pa b->(m.free b/\m.k b=none)\/¬Zp kb pa' b:=λb hb=>by
  by_cases e:Zp kb pa' b
  ·rcases e with e|e
   ·exact absurd (.inl e) hb
   ·rcases hp b e with h|h
    ·exact absurd (.inr (h.trans e)) hb
    ·exact .inl h
  ·exact .inr e
 refine⟨λb o v hv=>?_,λb e he=>?_⟩
 ·by_cases hb:Zp kb pa b
  ·rw[Mem.off_free hb]at hv;cases hv
  rw[Mem.off_at hb]at hv
  rcases key b hb with⟨h,_⟩|h
  ·rw[h o]at hv;cases hv
  ·rw[Mem.off_at h]
   refine hm.c _ _ _ ?_
   rw[Mem.off_at (λe=>hb (.inr e))];exact hv
 ·by_cases hb:Zp kb pa b
  ·rw[Mem.off_kn hb]at he;cases he
  rw[Mem.off_k hb]at he
  rcases key b hb with⟨_,h⟩|h
  ·rw[h]at he;cases he
  ·rw[Mem.off_k h]
   refine hm.k _ _ ?_
   rw[Mem.off_k (λe=>hb (.inr e))];exact he
theorem NewP.trans{m M:Mem}{pa pa1 pa2:Option Addr}{kb:Nat}(h1:NewP m pa pa1)(h2:NewP M pa1 pa2)(hm:(m.off (Zp kb pa)).le (M.off (Zp kb pa1)))(hk:∃es,M.k kb=some es):NewP m pa pa2:=λb hb=>by
 rcases h2 b hb with h|⟨h3,h4⟩
 ·rcases h1 b (h.trans hb)with h'|h'
  ·exact .inl (h'.trans h)
  ·exact .inr h'
 ·by_cases e:pa=some ⟨b,0,none⟩
  ·exact .inl (e.trans hb.symm)
  obtain⟨es,dN⟩:=hk
  have hz:¬Zp kb pa b:=λhz=>by
   rcases hz with rfl|hz
   ·rw[dN]at h4;cases h4
   ·exact e hz
  refine .inr ⟨λo=>?_,?_⟩
  ·cases hv:m b o with
   | none=>rfl
   | some v=>
    have:=(Mem.off_le _ _).c _ _ _ (hm.c b o v (by rw[Mem.off_at hz];exact hv))
    rw[h3 o]at this;cases this
  ·cases hv:m.k b with
   | none=>rfl
   | some v=>
    have:=(Mem.off_le _ _).k _ _ (hm.k b v (by rw[Mem.off_k hz];exact hv))
    rw[h4]at this;cases this
def SubsAt(m:Mem)(Z:Nat->Prop)(a:Option Addr)(L:List Nd):Prop:=(L=[]/\a=none)\/∃b,a=some ⟨b,0,none⟩/\¬Z b/\m.reads b 0 (L.map λx=>ptr x.b 0)/\L≠[]
theorem SubsAt.next{m M:Mem}{Z Z':Nat->Prop}{a:Option Addr}{L:List Nd}(h:SubsAt m Z a L)(hm:(m.off Z).le (M.off Z')):SubsAt M Z' a L:=by
 rcases h with h|⟨b,h1,h2,h3,h4⟩
 ·exact .inl h
 have g:∀j v,(L.map λx=>ptr x.b 0)[j]?=some v->(M.off Z') b (0+j)=some v:=λj v hj=>hm.c _ _ _ (by rw[Mem.off_at h2];exact h3 j v hj)
 have hz:¬Z' b:=λhz=>by
  cases L with
  | nil=>exact h4 rfl
  | cons x l=>
   have:=g 0 _ rfl
   rw[Mem.off_free hz]at this;cases this
 exact .inr ⟨b,h1,hz,λj v hj=>(Mem.off_le _ _).c _ _ _ (g j v hj),h4⟩
theorem SubsAt.row{m:Mem}{Z:Nat->Prop}{a:Option Addr}{L:List Nd}(h:SubsAt m Z a L):rowRd m a (L.map λx=>ptr x.b 0):=by
 rcases h with⟨rfl,_⟩|⟨b,h1,_,h3,_⟩
 ·exact .inl rfl
 ·exact .inr ⟨b,0,h1,h3⟩
theorem ZqR{m:Mem}{b0:Nat}:∀{L:List Nd} {o:Nat},m.reads b0 o (L.map λx=>ptr x.b 0)->(∀x∈L,NRep m x)->NRow m b0 o L
 | [],_,_,_=>by simp only[NRow]
 | x::L,o,h1,h2=>by
  simp only[NRow]
  refine⟨h1 0 _ rfl,h2 x (by simp),ZqR (λj v hj=>?_) λy hy=>h2 y (by simp[hy])⟩
  have:=h1 (j+1) v (by simpa using hj)
  rwa [show o+1+j=o+(j+1) by omega]
theorem SubsAt.rep{m:Mem}{Z:Nat->Prop}{a:Option Addr}{L:List Nd}(h:SubsAt m Z a L)(hr:∀x∈L,NRep (m.off Z) x):L=[]\/∃b0 o,a=some ⟨b0,o,none⟩/\NRow (m.off Z) b0 o L:=by
 rcases h with⟨h,_⟩|⟨b,h1,h2,h3,h4⟩
 ·exact .inl h
 ·exact .inr ⟨b,0,h1,ZqR (λj v hj=>by rw[Mem.off_at h2];exact h3 j v hj) hr⟩
end Go.Rx
namespace Go.Rx
open Go Go.Eng Go.RowKit
def ZdV(len:Nat)(p:Int×Int):Prop:=p=(-1,-1)\/(0<=p.1/\p.1<=p.2/\p.2<=len)
theorem ZqS{W:Nat->Nat->PL->PL}{E:Nat->List Nat}{len:Nat}{mn mx:Int}{to:Nat}(hE:Zgf len E)(hW:∀i j P,i<=len->j∈E i->(∀p∈P,ZdV len p)->∀p∈W i j P,ZdV len p):∀{k d i:Nat} {P:PL} {r:Nat},i<=len->(∀p∈P,ZdV len p)->∀p∈(ZtN W E len mn mx to k d i P r).1,ZdV len p
 | 0,d,i,P,r,_,hP=>hP
 | k+1,d,i,P,r,hi,hP=>by
  unfold ZtN
  split
  ·exact hP
  ·rename_i j hj
   obtain⟨_,h1,_⟩:=Zcu (List.mem_of_find?_eq_some hj)
   exact ZqS hE hW (hE i hi j h1).2 (hW i j P hi h1 hP)
mutual
theorem Zs8(s:List Nat):∀(t:T)(g i to:Nat)(P:PL),i<=s.length->to∈t.e0 s i->(∀p∈P,ZdV s.length p)->∀p∈(t.wk s g i to P).1,ZdV s.length p
 | .node k s0 s1 s2 s3 mn mx a c l=>λg i to P hi ht hP=>by
  have hw:=ZbZ s (.node k s0 s1 s2 s3 mn mx a c l) i hi to ht
  simp only[T.wk]
  split
  ·rename_i h6
   subst h6
   refine Zs9 s l _ i to _ hi ?_ λp hp=>?_
   ·simp only[T.e0]at ht
    have ht:to∈ddp (hd0 s l i):=ht
    exact ZgK.1 ht
   ·rcases List.mem_or_eq_of_mem_set hp with h|h
    ·exact hP p h
    ·rw[h];exact .inr ⟨Int.natCast_nonneg i,by show(i:Int)<=to;omega,by show(to:Int)<=s.length;omega⟩
  ·split
   ·exact ZqT s l _ i to _ hi hP
   ·split
    ·exact ZqU s l _ i to _ hi hP
    ·split
     ·exact ZqS (Zb2 s l) (λi j P hi hj hP=>Zs9 s l _ i j _ hi hj hP) hi hP
     ·exact hP
theorem Zs9(s:List Nat):∀(l:List T)(g i to:Nat)(P:PL),i<=s.length->to∈hd0 s l i->(∀p∈P,ZdV s.length p)->∀p∈hdW s l g i to P,ZdV s.length p
 | []=>λ_ _ _ _ _ h hP=>by simp[hd0]at h
 | t::_=>λg i to P hi h hP=>by simp only[hdW];exact Zs8 s t g i to P hi (by simpa[hd0]using h) hP
theorem ZqT(s:List Nat):∀(l:List T)(g i to:Nat)(P:PL),i<=s.length->(∀p∈P,ZdV s.length p)->∀p∈Zqq s l g i to P,ZdV s.length p
 | []=>λ_ _ _ _ _ hP=>by simpa[Zqq]using hP
 | t::l=>λg i to P hi hP=>by
  simp only[Zqq]
  split
  ·rename_i h;exact Zs8 s t g i to P hi h hP
  ·exact ZqT s l _ i to P hi hP
theorem ZqU(s:List Nat):∀(l:List T)(g i to:Nat)(P:PL),i<=s.length->(∀p∈P,ZdV s.length p)->∀p∈Zqr s l g i to P,ZdV s.length p
 | []=>λ_ _ _ _ _ hP=>by simpa[Zqr]using hP
 | t::l=>λg i to P hi hP=>by
  simp only[Zqr]
  split
  ·exact hP
  ·rename_i j hj
   have h1:=List.mem_of_find?_eq_some hj
   exact ZqU s l _ j to _ (ZbZ s t i hi j h1).2 (Zs8 s t g i j P hi h1 hP)
end
def Zbg(t:T)(n:Nat):Int:=if t.check≠0 then 140 else if 512 < n then 3 else 0
theorem ZrE{t:T}{n:Nat}(h:Zbg t n=0):t.check=0/\n<=512:=by
 unfold Zbg at h
 split at h
 ·cases h
 ·rename_i h1
  split at h
  ·cases h
  ·exact⟨Classical.not_not.1 h1,by omega⟩
theorem Zkn{t:T}{n:Nat}(h1:t.check=0)(h2:n<=512):Zbg t n=0:=by unfold Zbg;rw[if_neg (by simp[h1]),if_neg (by omega)]
def Zsp(t:T)(s:List Nat):PL×Nat:=t.wk s 0 0 s.length (List.replicate t.ngr (-1,-1))
def Zp3(t:T)(s:List Nat)(i:Int):List Nat×Int:=if Zbg t s.length≠0 then([],Zbg t s.length)else if i < 0\/i > s.length then([],2)else(t.e0 s i.toNat,0)
def Zgj(t:T)(s:List Nat):PL×Int:=if Zbg t s.length≠0 then([],Zbg t s.length)else if s.length∈t.e0 s 0 then((Zsp t s).1,0)else([],141)
def Znk(t:T)(s:List Nat):Nat×Int:=if Zbg t s.length≠0 then(0,Zbg t s.length)else if t.k≠5 then(0,2)else if s.length∈t.e0 s 0 then((Zsp t s).2,0)else(0,141)
def Zsq(s:List Nat)(p:Int×Int):List Nat:=(s.take p.2.toNat).drop p.1.toNat
def ZrF(t:T)(s:List Nat):List (List Nat)×Int:=if(Zgj t s).2≠0 then([],(Zgj t s).2)else(s::(Zgj t s).1.map (Zsq s),0)
theorem Zo1(t:T)(s:List Nat):(Zsp t s).1.length=t.ngr:=by unfold Zsp;rw[ZmB];simp
theorem Zta{t:T}{s:List Nat}(h:s.length∈t.e0 s 0):∀p∈(Zsp t s).1,ZdV s.length p:=Zs8 s t 0 0 _ _ (by omega) h λp hp=>.inl (List.eq_of_mem_replicate hp)
theorem Ztb{t:T}{s:List Nat}:∀p∈(Zgj t s).1,ZdV s.length p:=by
 unfold Zgj
 split
 ·intro p hp;simp at hp
 ·split
  ·rename_i h;exact Zta h
  ·intro p hp;simp at hp
end Go.Rx
namespace Go.Rx
open Go Go.Eng Go.RowKit
set_option maxRecDepth 100000
theorem Zko{t:T}(h:t.right=true):t.k=1\/t.k=2\/t.k=3\/t.k=4\/(t.k=5/\(∃x,t.subs=[x])/\0<=t.mn/\t.mn<=16/\(t.mx=-1\/(1<=t.mx/\t.mn<=t.mx/\t.mx<=16)))\/(t.k=6/\∃x,t.subs=[x]):=by
 have one:(t.subs.length == 1)=true->∃x,t.subs=[x]:=λe=>by
  have:t.subs.length=1:=by simpa using e
  match bR:t.subs,this with
  | [x],_=>exact⟨x,rfl⟩
 unfold T.right at h
 rw[Bool.and_eq_true]at h
 have h:=h.2
 by_cases h1:t.k=1
 ·exact .inl h1
 by_cases h2:t.k=2
 ·exact .inr (.inl h2)
 by_cases h3:t.k=3
 ·exact .inr (.inr (.inl h3))
 by_cases h4:t.k=4
 ·exact .inr (.inr (.inr (.inl h4)))
 by_cases h5:t.k=5
 ·rw[if_neg h1,if_neg h2,if_neg h3,if_neg h4,if_pos h5]at h
  rw[Bool.and_eq_true,Bool.and_eq_true]at h
  obtain⟨a,b,_⟩:=h
  unfold ZgI at b
  simp at b
  exact .inr (.inr (.inr (.inr (.inl ⟨h5,one a,by omega,by omega,by omega⟩))))
 ·rw[if_neg h1,if_neg h2,if_neg h3,if_neg h4,if_neg h5,Bool.and_eq_true]at h
  exact .inr (.inr (.inr (.inr (.inr ⟨by simpa using h.1,one h.2⟩))))
mutual
def T.er:T->T
 | .node k s0 s1 s2 s3 mn mx _ _ l=>.node k s0 s1 s2 s3 mn mx none 0 (erL l)
def erL:List T->List T
 | []=>[]
 | t::l=>t.er::erL l
end
theorem ZmE:∀l:List T,erL l=l.map T.er
 | []=>rfl
 | t::l=>by simp only[erL,List.map_cons,ZmE l]
@[simp] theorem Zv5 (t:T):t.er.k=t.k:=by cases t;rfl
@[simp] theorem Zvk (t:T):t.er.s0=t.s0:=by cases t;rfl
@[simp] theorem Zvl (t:T):t.er.s1=t.s1:=by cases t;rfl
@[simp] theorem Zvm (t:T):t.er.s2=t.s2:=by cases t;rfl
@[simp] theorem Zvn (t:T):t.er.s3=t.s3:=by cases t;rfl
@[simp] theorem Zvo (t:T):t.er.mn=t.mn:=by cases t;rfl
@[simp] theorem Zvp (t:T):t.er.mx=t.mx:=by cases t;rfl
@[simp] theorem ZqV (t:T):t.er.subs=t.subs.map T.er:=by cases t;simp only[T.er,T.subs,ZmE]
mutual
theorem Zhw:∀t:T,t.er.nodes=t.nodes.map T.er
 | .node k s0 s1 s2 s3 mn mx a c l=>by
  simp only[T.er,T.nodes,List.map_cons]
  rw[ZmF l]
theorem ZmF:∀l:List T,Zaj (erL l)=(Zaj l).map T.er
 | []=>rfl
 | t::l=>by simp only[erL,Zaj,List.map_append,Zhw t,ZmF l]
end
theorem Zuo(t:T)(k:Int):t.er.has k=t.has k:=by
 unfold T.has;rw[ZqV,List.any_map];congr 1;funext x;simp
theorem ZrG(t:T):t.er.right=t.right:=by
 unfold T.right T.setZ
 simp only[Zuo,Zv5,Zvk,Zvl,Zvm,Zvn,Zvo,Zvp,ZqV,List.length_map]
theorem Zji(t:T):t.er.light=t.light:=by unfold T.light;rw[Zhw,List.length_map]
theorem Zup(l:List T):(l.map T.er).all T.right=l.all T.right:=by
 rw[List.all_map];congr 1;funext x;exact ZrG x
theorem Zlu(t:T):t.er.clean=t.clean:=by unfold T.clean;rw[Zji,Zhw,Zup]
theorem Ztc(t:T):t.er.size=t.size:=by unfold T.size;rw[Zji,Zhw,List.length_map]
theorem Zp4(t:T):t.er.groups=t.groups:=by
 unfold T.groups;rw[Zji,Zhw,List.countP_map]
 have:((λx:T=>x.k == 6)∘T.er)=λx:T=>x.k == 6:=by funext x;simp
 rw[this]
mutual
theorem Ztd:∀t:T,t.er.pos=t.pos
 | .node k s0 s1 s2 s3 mn mx a c l=>by simp only[T.er,T.pos,ZqW l]
theorem ZqW:∀l:List T,ZeQ (erL l)=ZeQ l
 | []=>rfl
 | t::l=>by simp only[erL,ZeQ,Ztd t,ZqW l]
end
theorem ZkW(t:T):t.er.positions=t.positions:=by unfold T.positions;rw[Zji,Ztd]
theorem Zjj(t:T):t.er.check=t.check:=by unfold T.check;rw[Zlu,Ztc,ZkW,Zp4]
def T.caps(t:T):Prop:=∀x∈t.nodes,x.subs.length<=x.c
theorem ZmG{k s0 s1 s2 s3 mn mx:Int}{a:Option Addr}{c:Nat}{l:List T}(h:l.length<=c)(hl:∀x∈l,x.caps):(T.node k s0 s1 s2 s3 mn mx a c l).caps:=by
 intro y hy
 rw[Zbv]at hy
 rcases List.mem_cons.1 hy with rfl|hy
 ·exact h
 ·obtain⟨x,hx,hy⟩:∃x∈l,y∈x.nodes:=by
   have:∀l:List T,y∈Zaj l->∃x∈l,y∈x.nodes:=λl=>by
    induction l with
    | nil=>intro h;simp[Zaj]at h
    | cons x l ih=>
     intro h
     simp only[Zaj,List.mem_append]at h
     rcases h with h|h
     ·exact⟨x,by simp,h⟩
     ·obtain⟨z,hz,h⟩:=ih h
      exact⟨z,by simp[hz],h⟩
   exact this l hy
  exact hl x hx y hy
theorem ZrH{t u:T}(h:t.er=u.er):t.check=u.check:=by rw[<-Zjj t,h,Zjj]
theorem ZrI{t u:T}(h:t.er=u.er):t.clean=u.clean:=by rw[<-Zlu t,h,Zlu]
theorem Zte{k s0 s1 s2 s3 mn mx:Int}{a a':Option Addr}{c c':Nat}{l l':List T}(h:l.map T.er=l'.map T.er):(T.node k s0 s1 s2 s3 mn mx a c l).er=(T.node k s0 s1 s2 s3 mn mx a' c' l').er:=by
 simp only[T.er,ZmE,h]
def Zv6(t t':T):Prop:=((t.clean=true/\t'.er=t.er)\/(t.clean=false/\t'=T0))/\t'.caps
theorem Ztf:T0.caps:=ZmG (by simp) (by simp)
theorem ZmH{t:T}(h:t.clean=true):t.nodes.length<=10000:=by
 unfold T.clean T.light at h
 rw[Bool.and_eq_true]at h
 exact of_decide_eq_true h.1
end Go.Rx
namespace Go.Rx
open Go Go.Eng Go.RowKit
mutual
theorem Zp5:∀t:T,t.er.ngr=t.ngr
 | .node k s0 s1 s2 s3 mn mx a c l=>by simp only[T.er,T.ngr,ZqX l]
theorem ZqX:∀l:List T,ZdJ (erL l)=ZdJ l
 | []=>rfl
 | t::l=>by simp only[erL,ZdJ,Zp5 t,ZqX l]
end
mutual
theorem Zo2(s:List Nat):∀t:T,t.er.e0 s=t.e0 s
 | .node k s0 s1 s2 s3 mn mx a c l=>by
  funext i
  have hc:Zu6 (.node k s0 s1 s2 s3 mn mx none 0 (erL l)) s i=Zu6 (.node k s0 s1 s2 s3 mn mx a c l) s i:=rfl
  simp only[T.er,T.e0,hc,Ztg s l,ZqY s l,ZrJ s l]
theorem Ztg(s:List Nat):∀l:List T,hd0 s (erL l)=hd0 s l
 | []=>rfl
 | t::l=>by funext i;simp only[erL,hd0,Zo2 s t]
theorem ZqY(s:List Nat):∀l:List T,Zso s (erL l)=Zso s l
 | []=>rfl
 | t::l=>by funext i;simp only[erL,Zso,Zo2 s t,ZqY s l]
theorem ZrJ(s:List Nat):∀l:List T,e0s s (erL l)=e0s s l
 | []=>rfl
 | t::l=>by simp only[erL,e0s,Zo2 s t,ZrJ s l]
end
mutual
theorem Zth(s:List Nat):∀t:T,t.er.wk s=t.wk s
 | .node k s0 s1 s2 s3 mn mx a c l=>by
  funext g i to P
  simp only[T.er,T.wk,Zuq s l,ZqZ s l,Zq0 s l,Ztg s l]
theorem Zuq(s:List Nat):∀l:List T,hdW s (erL l)=hdW s l
 | []=>rfl
 | t::l=>by funext g i to P;simp only[erL,hdW,Zth s t]
theorem ZqZ(s:List Nat):∀l:List T,Zqq s (erL l)=Zqq s l
 | []=>rfl
 | t::l=>by funext g i to P;simp only[erL,Zqq,Zth s t,ZqZ s l,Zo2 s t,Zp5 t]
theorem Zq0(s:List Nat):∀l:List T,Zqr s (erL l)=Zqr s l
 | []=>rfl
 | t::l=>by funext g i to P;simp only[erL,Zqr,Zth s t,Zq0 s l,Zo2 s t,Zp5 t,ZrJ s l]
end
theorem Zlv(t:T)(n:Nat):Zbg t.er n=Zbg t n:=by unfold Zbg;rw[Zjj]
theorem Zti(t:T)(s:List Nat)(i:Int):Zp3 t.er s i=Zp3 t s i:=by unfold Zp3;rw[Zlv,Zo2]
theorem Zq1(t:T)(s:List Nat):Zsp t.er s=Zsp t s:=by unfold Zsp;rw[Zth,Zp5]
theorem Zq2(t:T)(s:List Nat):Zgj t.er s=Zgj t s:=by unfold Zgj;rw[Zlv,Zo2,Zq1]
theorem Ztj(t:T)(s:List Nat):Znk t.er s=Znk t s:=by unfold Znk;rw[Zlv,Zo2,Zq1,Zv5]
theorem Ztk(t:T)(s:List Nat):ZrF t.er s=ZrF t s:=by unfold ZrF;rw[Zq2]
end Go.Rx
namespace Go.Rx
open Go Go.Eng Go.RowKit
end Go.Rx
