/- Trees of regexes, what they mean, and ze they lie in memory; plain, no program is named. No condition. -/
import Derived.Test.YtdopppmkbkkmiaaGreatDoorMc
import Derived.Lib.SliceRun
import Derived.Shelf.SlicesE.Delete
import Derived.Deep.MidRow
import Derived.KernelRfl
import Derived.Test.YtdopppmkbkkmiaaGreatDoorMb
import Derived.Sort.Grow
import Derived.Lib.SlicesCompact
set_option linter.unusedVariables false
set_option linter.unusedSimpArgs false
set_option linter.unusedSectionVars false
namespace Go.Rx
open Go Go.Eng
inductive T where
 | node (k s0 s1 s2 s3 mn mx:Int) (a:Option Addr) (c:Nat) (subs:List T)
def T.k:T->Int
 | .node k _ _ _ _ _ _ _ _ _=>k
def T.s0:T->Int
 | .node _ s _ _ _ _ _ _ _ _=>s
def T.s1:T->Int
 | .node _ _ s _ _ _ _ _ _ _=>s
def T.s2:T->Int
 | .node _ _ _ s _ _ _ _ _ _=>s
def T.s3:T->Int
 | .node _ _ _ _ s _ _ _ _ _=>s
def T.mn:T->Int
 | .node _ _ _ _ _ x _ _ _ _=>x
def T.mx:T->Int
 | .node _ _ _ _ _ _ x _ _ _=>x
def T.a:T->Option Addr
 | .node _ _ _ _ _ _ _ a _ _=>a
def T.c:T->Nat
 | .node _ _ _ _ _ _ _ _ c _=>c
def T.subs:T->List T
 | .node _ _ _ _ _ _ _ _ _ l=>l
def T.sl(t:T):Value:=.slice t.a t.subs.length t.c
def T.cs(t:T):List Value:=[.int .u8 t.k,.int .u64 t.s0,.int .u64 t.s1,.int .u64 t.s2,.int .u64 t.s3,.int .i64 t.mn,.int .i64 t.mx,t.sl]
def T.v(t:T):Value:=.agg #[.int .u8 t.k,.int .u64 t.s0,.int .u64 t.s1,.int .u64 t.s2,.int .u64 t.s3,.int .i64 t.mn,.int .i64 t.mx,.slice t.a t.subs.length t.c]
structure OkN (k s0 s1 s2 s3 mn mx:Int):Prop where
 k:0<=k/\k < 256
 s0:0<=s0/\s0 < 18446744073709551616
 s1:0<=s1/\s1 < 18446744073709551616
 s2:0<=s2/\s2 < 18446744073709551616
 s3:0<=s3/\s3 < 18446744073709551616
 mn : -9223372036854775808<=mn/\mn<=9223372036854775807
 mx : -9223372036854775808<=mx/\mx<=9223372036854775807
mutual
def Rep(m:Mem):T->Prop
 | .node k s0 s1 s2 s3 mn mx a _ l=>l.length<=1000000000000000/\(l=[]\/∃b o,a=some ⟨b,o,none⟩/\RepAt m b o l)/\OkN k s0 s1 s2 s3 mn mx
def RepAt(m:Mem)(b:Nat):Nat->List T->Prop
 | _,[]=>True
 | o,t::l=>m.reads b o t.cs/\Rep m t/\RepAt m b (o+8) l
end
theorem ZjI{m:Mem}{t:T}:Rep m t->(t.subs.length<=1000000000000000/\(t.subs=[]\/∃b o,t.a=some ⟨b,o,none⟩/\RepAt m b o t.subs)):=by
 cases t;simp only[Rep,T.subs,T.a];exact λh=>⟨h.1,h.2.1⟩
theorem ZA5{m:Mem}{t:T}:Rep m t->OkN t.k t.s0 t.s1 t.s2 t.s3 t.mn t.mx:=by
 cases t;simp only[Rep];exact λh=>h.2.2
theorem ZA6{m:Mem}{t:T}(h1:t.subs.length<=1000000000000000)(h2:t.subs=[]\/∃b o,t.a=some ⟨b,o,none⟩/\RepAt m b o t.subs)(h3:OkN t.k t.s0 t.s1 t.s2 t.s3 t.mn t.mx):Rep m t:=by
 cases t;simp only[Rep];exact⟨h1,h2,h3⟩
mutual
theorem Rep.mono{m m':Mem}(h:m.le m'):∀t:T,Rep m t->Rep m' t
 | .node _ _ _ _ _ _ _ a _ l,hr=>by
  simp only[Rep]at *
  refine⟨hr.1,?_,hr.2.2⟩
  rcases hr.2.1 with hr|⟨b,o,h1,h2⟩
  ·exact .inl hr
  ·exact .inr ⟨b,o,h1,RepAt.mono h b o l h2⟩
theorem RepAt.mono{m m':Mem}(h:m.le m')(b:Nat):∀(o:Nat)(l:List T),RepAt m b o l->RepAt m' b o l
 | _,[],_=>by simp only[RepAt]
 | o,t::l,hr=>by
  simp only[RepAt]at *
  exact⟨hr.1.mono h,Rep.mono h t hr.2.1,RepAt.mono h b (o+8) l hr.2.2⟩
end
theorem RepAt.get{m:Mem}{b:Nat}:∀{o:Nat} {l:List T} {i:Nat} {t:T},RepAt m b o l->l[i]?=some t->m.reads b (o+i*8) t.cs/\Rep m t
 | o,[],i,t,_,hi=>by simp at hi
 | o,x::l,0,t,h,hi=>by
  simp only[RepAt]at h
  simp at hi;subst hi
  exact⟨by simpa using h.1,h.2.1⟩
 | o,x::l,i+1,t,h,hi=>by
  simp only[RepAt]at h
  have:=h.2.2.get (i:=i) (by simpa using hi)
  rw[show o+(i+1)*8=o+8+i*8 by omega]
  exact this
mutual
def T.nodes:T->List T
 | .node k s0 s1 s2 s3 mn mx a c l=>.node k s0 s1 s2 s3 mn mx a c l::Zaz l
def Zaz:List T->List T
 | []=>[]
 | t::l=>t.nodes++Zaz l
end
theorem ZcH(t:T):t.nodes=t::Zaz t.subs:=by cases t;simp only[T.nodes,T.subs]
theorem Zdg(l r:List T):Zaz (l++r)=Zaz l++Zaz r:=by
 induction l with
 | nil=>simp[Zaz]
 | cons t l ih=>simp[Zaz,ih,List.append_assoc]
theorem Zph{l:List T}{i:Nat}{t:T}(h:l[i]?=some t):Zaz (l.take (i+1))=Zaz (l.take i)++t.nodes:=by
 have:l.take (i+1)=l.take i++[t]:=by
  rw[List.take_add_one,h];rfl
 rw[this,Zdg];simp[Zaz]
theorem ZdN{l:List T}{i:Nat}{t:T}(h:l[i]?=some t):Zaz l=Zaz (l.take i)++(t.nodes++Zaz (l.drop (i+1))):=by
 have aG:=(zA0 h).1
 have e:l=l.take i++(t::l.drop (i+1)):=by
  have:=List.drop_eq_getElem_cons aG
  rw[(zA0 h).2]at this
  rw[<-this,List.take_append_drop]
 conv=>lhs;rw[e,Zdg]
 simp[Zaz]
theorem ZwX{t x z:T}{i q:Nat}(hx:t.subs[i]?=some x)(hz:x.nodes[q]?=some z):t.nodes[1+(Zaz (t.subs.take i)).length+q]?=some z:=by
 have hq:=(zA0 hz).1
 rw[ZcH,show 1+(Zaz (t.subs.take i)).length+q=((Zaz (t.subs.take i)).length+q)+1 by omega,List.getElem?_cons_succ,ZdN hx,zA4 (by omega),zA5 (by omega),show(Zaz (List.take i t.subs)).length+q - (Zaz (List.take i t.subs)).length=q by omega]
 exact hz
theorem Zrr{t x:T}(h:x∈t.subs):SizeOf.sizeOf x < SizeOf.sizeOf t:=by
 cases t with
 | node k s0 s1 s2 s3 mn mx a c l=>
  have h':x∈l:=h
  have:=List.sizeOf_lt_of_mem h'
  simp only[T.node.sizeOf_spec]
  omega
theorem Zrs(t:T):Shape.fitsL [.agg [.int .u8,.int .u64,.int .u64,.int .u64,.int .u64,.int .i64,.int .i64,.slice]] [t.v]=true:=by
 simp[Shape.fitsL,Shape.fits,T.v]
mutual
theorem Zsw{m:Mem}:∀(t:T),Rep m t->∀x∈t.nodes,Rep m x
 | .node k s0 s1 s2 s3 mn mx a c l,hr,x,hx=>by
  simp only[T.nodes,List.mem_cons]at hx
  rcases hx with rfl|hx
  ·exact hr
  ·simp only[Rep]at hr
   rcases hr.2.1 with h|⟨b,o,_,h⟩
   ·subst h;simp[Zaz]at hx
   ·exact Zpi b o l h x hx
theorem Zpi{m:Mem}(b:Nat):∀(o:Nat)(l:List T),RepAt m b o l->∀x∈Zaz l,Rep m x
 | _,[],_,x,hx=>by simp[Zaz]at hx
 | o,t::l,hr,x,hx=>by
  simp only[RepAt]at hr
  simp only[Zaz,List.mem_append]at hx
  rcases hx with hx|hx
  ·exact Zsw t hr.2.1 x hx
  ·exact Zpi b (o+8) l hr.2.2 x hx
end
theorem Zub{m:Mem}{t x:T}(h:Rep m t)(hx:x∈t.nodes):Rep m x:=Zsw t h x hx
def Zkm(least most:Int):Bool:=!(decide (least < 0)||decide (least > 16)||(least == 1&&most == 1))&&(most == -1||(decide (most ≥ 1)&&decide (most<=16)&&decide (most ≥ least)))
def T.has(t:T)(k:Int):Bool:=t.subs.any λx=>x.k == k
def T.light(t:T):Bool:=decide (t.nodes.length<=10000)
def T.setZ(t:T):Bool:=t.s0 == 0&&t.s1 == 0&&t.s2 == 0&&t.s3 == 0
def T.right(t:T):Bool:=
 !(t.k != 2&&!t.setZ||(t.k != 5&&(t.mn != 0||t.mx != 0)||(decide (t.k < 3)&&decide (0 < t.subs.length)))) &&
 (if t.k=1 then true else if t.k=2 then !t.setZ else if t.k=3 then decide (1 < t.subs.length)&&(!t.has 1&&!t.has 3)else if t.k=4 then decide (1 < t.subs.length)&&!t.has 4
  else if t.k=5 then t.subs.length == 1&&(Zkm t.mn t.mx&&!t.has 1)else t.k == 6&&t.subs.length == 1)
def T.clean(t:T):Bool:=t.light&&t.nodes.all T.right
def T.size(t:T):Int:=if t.light then t.nodes.length else 10001
def T.groups(t:T):Int:=if t.light then(t.nodes.countP λx=>x.k == 6:Nat)else 10001
def ZqP(x y:Int):Int:=if y > x then y else x
def Zfl(x y:Int):Int:=if y < x then y else x
def Zyv(k mn mx sum:Int):Int:=Zfl (if k=5 then sum*Zfl (if mx=-1 then ZqP (ZqP mn 0) 1 else ZqP (ZqP mn 0) mx) 10001 else sum) 10001
mutual
def T.pos:T->Int
 | .node k _ _ _ _ mn mx _ _ l=>Zyv k mn mx ((if k=2 then 1 else 0)+ZeW l)
def ZeW:List T->Int
 | []=>0
 | t::l=>t.pos+ZeW l
end
def T.positions(t:T):Int:=if t.light then t.pos else 10001
def T.check(t:T):Int:=if t.clean=false then 80 else if t.size > 120 then 81 else if t.positions > 400 then 82 else if t.groups > 9 then 83 else 0
mutual
def T.same:T->T->Bool
 | .node k s0 s1 s2 s3 mn mx _ _ l,.node k' s0' s1' s2' s3' mn' mx' _ _ l'=>k == k'&&((s0 == s0'&&s1 == s1'&&s2 == s2'&&s3 == s3')&&(mn == mn'&&(mx == mx'&&ZeL l l')))
def ZeL:List T->List T->Bool
 | [],[]=>true
 | t::l,t'::l'=>t.same t'&&ZeL l l'
 | _,_=>false
end
theorem Zza(t u:T):t.same u=(t.k == u.k&&((t.s0 == u.s0&&t.s1 == u.s1&&t.s2 == u.s2&&t.s3 == u.s3)&&(t.mn == u.mn&&(t.mx == u.mx&&ZeL t.subs u.subs)))):=by
 cases t;cases u;simp only[T.same,T.k,T.s0,T.s1,T.s2,T.s3,T.mn,T.mx,T.subs]
theorem Zpj:∀{l r:List T},¬l.length=r.length->ZeL l r=false
 | [],[],h=>by simp at h
 | [],_::_,_=>by simp[ZeL]
 | _::_,[],_=>by simp[ZeL]
 | x::l,y::r,h=>by
  simp only[ZeL,Zpj (l:=l) (r:=r) (by simpa using h),Bool.and_false]
theorem Zsx:∀{l r:List T} {i:Nat} {x y:T},l[i]?=some x->r[i]?=some y->x.same y=false->ZeL l r=false
 | [],r,i,x,y,h,_,_=>by simp at h
 | _::_,[],i,x,y,_,h,_=>by simp at h
 | a::l,b::r,0,x,y,h,k,e=>by
  simp at h k;subst h k
  simp[ZeL,e]
 | a::l,b::r,i+1,x,y,h,k,e=>by
  simp only[ZeL,Zsx (l:=l) (r:=r) (i:=i) (by simpa using h) (by simpa using k) e,Bool.and_false]
theorem Zl2:∀{l r:List T} {i:Nat} {x y:T},l[i]?=some x->r[i]?=some y->ZeL (l.take i) (r.take i)=true->x.same y=true->True->ZeL (l.take (i+1)) (r.take (i+1))=true
 | [],r,i,x,y,h,_,_,_,_=>by simp at h
 | _::_,[],i,x,y,_,h,_,_,_=>by simp at h
 | a::l,b::r,0,x,y,h,k,_,e,_=>by
  simp at h k;subst h k
  simp[ZeL,e]
 | a::l,b::r,i+1,x,y,h,k,hs,e,_=>by
  simp only[List.take_succ_cons,ZeL,zA7]at hs ⊢
  exact⟨hs.1,Zl2 (by simpa using h) (by simpa using k) hs.2 e trivial⟩
theorem Zrt(t:T):t.pos=Zyv t.k t.mn t.mx ((if t.k=2 then 1 else 0)+ZeW t.subs):=by
 cases t;simp only[T.pos,T.k,T.mn,T.mx,T.subs];congr 1
theorem Zbk(l r:List T):ZeW (l++r)=ZeW l+ZeW r:=by
 induction l with
 | nil=>simp[ZeW]
 | cons t l ih=>simp[ZeW,ih,Int.add_assoc]
theorem Zuc{l:List T}{i:Nat}{t:T}(h:l[i]?=some t):ZeW (l.take (i+1))=ZeW (l.take i)+t.pos:=by
 have:l.take (i+1)=l.take i++[t]:=by
  rw[List.take_add_one,h];rfl
 rw[this,Zbk];simp[ZeW]
theorem Zsy(x y:Int):x<=ZqP x y/\y<=ZqP x y:=by unfold ZqP;split <;> omega
theorem Zl3(x y:Int):Zfl x y<=x/\Zfl x y<=y:=by unfold Zfl;split <;> omega
theorem ZvS{x y:Int}(h:0<=x)(k:0<=y):0<=Zfl x y:=by unfold Zfl;split <;> omega
def ZwY(mn mx:Int):Int:=Zfl (if mx=-1 then ZqP (ZqP mn 0) 1 else ZqP (ZqP mn 0) mx) 10001
theorem ZvT(mn mx:Int):0<=ZwY mn mx/\ZwY mn mx<=10001:=by
 unfold ZwY
 refine⟨ZvS ?_ (by omega),(Zl3 _ _).2⟩
 have h1:=Zsy mn 0
 split
 ·have:=Zsy (ZqP mn 0) 1;omega
 ·have:=Zsy (ZqP mn 0) mx;omega
theorem Zzb{k mn mx sum:Int}(h:0<=sum):0<=Zyv k mn mx sum/\Zyv k mn mx sum<=10001:=by
 have h2:=Int.mul_nonneg h (ZvT mn mx).1
 unfold Zyv
 refine⟨ZvS ?_ (by omega),(Zl3 _ _).2⟩
 split
 ·exact h2
 ·exact h
mutual
theorem ZiK:∀t:T,0<=t.pos/\t.pos<=10001
 | .node k _ _ _ _ mn mx _ _ l=>by
  simp only[T.pos]
  have:=Zhn l
  exact Zzb (by split <;> omega)
theorem Zhn:∀l:List T,0<=ZeW l
 | []=>by simp[ZeW]
 | t::l=>by
  simp only[ZeW]
  have:=ZiK t
  have:=Zhn l
  omega
end
theorem ZvU:∀l:List T,ZeW l<=10001*l.length
 | []=>by simp[ZeW]
 | t::l=>by
  simp only[ZeW,List.length_cons]
  have:=ZiK t
  have:=ZvU l
  omega
theorem ZvV(t:T):t.subs.length < t.nodes.length:=by
 rw[ZcH,List.length_cons]
 have:∀l:List T,l.length<=(Zaz l).length:=by
  intro l
  induction l with
  | nil=>simp[Zaz]
  | cons x l ih=>simp only[Zaz,List.length_cons,zA1];rw[ZcH];simp;omega
 have:=this t.subs
 omega
theorem Zud{t x:T}(h:x∈t.subs):x.nodes.length < t.nodes.length:=by
 obtain⟨i,hi⟩:=List.getElem?_of_mem h
 rw[ZcH t,List.length_cons,ZdN hi]
 simp;omega
def T.hasB(t:T)(c:Nat):Bool:=((if c / 64=0 then t.s0 else if c / 64=1 then t.s1 else if c / 64=2 then t.s2 else t.s3).toNat).testBit (c % 64)
end Go.Rx
namespace Go.Rx
open Go Go.Eng Go.RowKit
theorem ZBQ(n:Nat)(h:n < 18446744073709551616):IntKind.u64.wrap (n:Int)=n:=by
 unfold IntKind.wrap
 have e:(2:Int) ^ 64=18446744073709551616:=by decide
 simp only[IntKind.bits,IntKind.signed,Bool.false_and,Bool.false_eq_true,if_false,e]
 omega
theorem ZDj(a:Nat)(h:a < 18446744073709551616):(BitVec.ofInt 64 (a:Int)).toNat=a:=by
 rw[BitVec.toNat_ofInt]
 have e:((2:Nat) ^ 64:Nat)=18446744073709551616:=by decide
 rw[e];omega
theorem ZwZ(a b:Nat)(ha:a < 18446744073709551616)(hb:b < 18446744073709551616):IntKind.u64.wrap ((BitVec.ofInt 64 (a:Int)|||BitVec.ofInt 64 (b:Int)).toNat:Int)=((a|||b:Nat):Int):=by
 rw[BitVec.toNat_or,ZDj a ha,ZDj b hb]
 exact ZBQ _ (Nat.or_lt_two_pow (n:=64) ha hb)
def Byt(m:Mem)(a:Option Addr)(s:List Nat):Prop:=(s=[]\/∃b o,a=some ⟨b,o,none⟩/\m.reads b o (s.map λc:Nat=>Value.int .u8 c))/\∀c∈s,c < 256
theorem Byt.mono{m m':Mem}{a s}(h:Byt m a s)(hm:m.le m'):Byt m' a s:=by
 refine⟨?_,h.2⟩
 rcases h.1 with h|⟨b,o,h1,h2⟩
 ·exact .inl h
 ·exact .inr ⟨b,o,h1,h2.mono hm⟩
theorem Byt.get{m:Mem}{a s}(h:Byt m a s){i c:Nat}(hi:s[i]?=some c):(∃b o,a=some ⟨b,o,none⟩/\m b (o+i)=some (.int .u8 c))/\c < 256:=by
 refine⟨?_,h.2 c (zA2 hi)⟩
 rcases h.1 with h|⟨b,o,h1,h2⟩
 ·subst h;simp at hi
 ·exact⟨b,o,h1,h2 i _ (by rw[List.getElem?_map,hi];rfl)⟩
def ZCB(t:T)(back:Bool)(f i c out:Nat):Nat:=if(f.testBit (if back then i+1 else i)&&t.hasB c)=true then out|||2 ^ (if back then i else i+1)else out
def ZDk(t:T)(back:Bool)(f:Nat):List Nat->Nat->Nat->Nat
 | [],_,out=>out
 | c::s,i,out=>ZDk t back f s (i+1) (ZCB t back f i c out)
def ZDa(g:Nat->Nat):Nat->Nat->Nat
 | 0,f=>f
 | n+1,f=>ZDa g n (g f)
def ZBR(g:Nat->Nat)(mx:Int):Nat->Int->Nat->Nat->Nat
 | 0,_,out,_=>out
 | n+1,k,out,last=>if k=mx then out else if out|||g last=out then out else ZBR g mx n (IntKind.i64.wrap (k+1)) (out|||g last) (g last)
@[irreducible] def ZDw:Nat:=576
abbrev ZDx:Nat:=2 ^ ZDw
def ZCC(g:Nat->Nat)(mn mx:Int)(f:Nat):Nat:=ZBR g mx (ZDx+1) mn (ZDa g mn.toNat f) (ZDa g mn.toNat f)
mutual
def T.lead(s:List Nat)(back:Bool):T->Nat->Nat
 | .node k s0 s1 s2 s3 mn mx a c l=>λf=>
  if k=1 then f else if k=2 then ZDk (.node k s0 s1 s2 s3 mn mx a c l) back f s 0 0
  else if k=3 then(if back then ZBT s back l f else ZBS s back l f)
  else if k=4 then ZDl s back l f 0
  else if k=5 then ZCC (ZBU s back l) mn mx f
  else if k=6 then ZBU s back l f else 0
def ZBS(s:List Nat)(back:Bool):List T->Nat->Nat
 | []=>λf=>f
 | t::l=>λf=>ZBS s back l (t.lead s back f)
def ZBT(s:List Nat)(back:Bool):List T->Nat->Nat
 | []=>λf=>f
 | t::l=>λf=>t.lead s back (ZBT s back l f)
def ZDl(s:List Nat)(back:Bool):List T->Nat->Nat->Nat
 | []=>λ_ out=>out
 | t::l=>λf out=>ZDl s back l f (out|||t.lead s back f)
def ZBU(s:List Nat)(back:Bool):List T->Nat->Nat
 | []=>λf=>f
 | t::_=>λf=>t.lead s back f
end
section
variable {s:List Nat} {back:Bool}
end
theorem Zsz{α:Type}{l:List α}{i:Nat}{x:α}(h:l[i]?=some x):l.drop i=x::l.drop (i+1):=by
 obtain⟨h1,h2⟩:=zA0 h
 rw[List.drop_eq_getElem_cons h1,h2]
theorem ZsA{α:Type}{l:List α}{i:Nat}{x:α}(h:l[i]?=some x):l.take (i+1)=l.take i++[x]:=by
 rw[List.take_add_one,h];rfl
section
variable (s:List Nat) (back:Bool) (hs:s.length<=512)
include hs
end
def T0:T:=.node 0 0 0 0 0 0 0 none 0 []
def T1:T:=.node 1 0 0 0 0 0 0 none 0 []
theorem ZmW(m:Mem):Rep m T0:=by simp only[T0,Rep];exact⟨by simp,.inl trivial,by constructor <;> decide⟩
theorem Zzc(m:Mem):Rep m T1:=by simp only[T1,Rep];exact⟨by simp,.inl trivial,by constructor <;> decide⟩
def T.isNone(t:T):Bool:=t.k == 0&&(t.light&&(T0.light&&t.same T0))
def T.wrong(t:T)(len:Nat)(i:Int):Int:=if(!t.isNone&&!(t.check == 0))=true then 130 else if(len:Int) > 512 then 3 else if i < 0\/i > len then 2 else 0
structure Rg where
 bg:Bool
 en:Bool
 t:T
def Rg.v(r:Rg):Value:=.agg #[.bool r.bg,.bool r.en,.int .u8 r.t.k,.int .u64 r.t.s0,.int .u64 r.t.s1,.int .u64 r.t.s2,.int .u64 r.t.s3,.int .i64 r.t.mn,.int .i64 r.t.mx,.slice r.t.a r.t.subs.length r.t.c]
def Rg.cs(r:Rg):List Value:=[.bool r.bg,.bool r.en,.int .u8 r.t.k,.int .u64 r.t.s0,.int .u64 r.t.s1,.int .u64 r.t.s2,.int .u64 r.t.s3,.int .i64 r.t.mn,.int .i64 r.t.mx,.slice r.t.a r.t.subs.length r.t.c]
def Rgs(m:Mem)(a:Option Addr)(l:List Rg):Prop:=l.length<=1000000000000000/\(l=[]\/∃b o,a=some ⟨b,o,none⟩/\∀i r,l[i]?=some r->m.reads b (o+i*10) r.cs)/\∀r∈l,Rep m r.t
theorem Rgs.mono{m m':Mem}{a l}(h:Rgs m a l)(hm:m.le m'):Rgs m' a l:=by
 refine⟨h.1,?_,λr hr=>(h.2.2 r hr).mono hm⟩
 rcases h.2.1 with h|⟨b,o,h1,h2⟩
 ·exact .inl h
 ·exact .inr ⟨b,o,h1,λi r hi=>(h2 i r hi).mono hm⟩
def ZA7(f:Nat):List Nat:=(List.range 513).filter λi=>f.testBit i
def Zzd(n:Nat):List Nat->Option Nat
 | []=>none
 | i::_=>if i > n then none else some i
def Rg.from(s:List Nat)(n:Nat)(r:Rg):Option Nat:=if(r.en&&decide ((n:Int) < s.length))=true then none else if r.bg then(if(r.t.lead s true (2 ^ n)).testBit 0 then some 0 else none)else
 Zzd n (ZA7 (r.t.lead s true (2 ^ n)))
def Rg.wrong(r:Rg)(len:Nat)(n:Int):Int:=if r.t.check=0 then r.t.wrong len n else 130
def Zpk(φ:T->Prop):Value->Mem->List (List Value)->Prop:=λv m' _=>∃t:T,v=t.v/\Rep m' t/\φ t
abbrev TRK:=Int->Int->Int->Int->Int->Int->Int->Option Addr->Nat->Nat->Mem->Prop
theorem Zru{φ:T->Prop}{m:Mem}{K:TRK}(k:∀(t:T)(m':Mem),m.le m'->Rep m' t->φ t->K t.k t.s0 t.s1 t.s2 t.s3 t.mn t.mx t.a t.subs.length t.c m'):
  ∀(n0 n1 n2 n3 n4 n5 n6:Int)(a:Option Addr)(n c:Nat)(m':Mem),m.le m'->Zpk φ (.agg #[.int .u8 n0,.int .u64 n1,.int .u64 n2,.int .u64 n3,.int .u64 n4,.int .i64 n5,.int .i64 n6,.slice a n c]) m' []->K n0 n1 n2 n3 n4 n5 n6 a n c m':=by
 rintro n0 n1 n2 n3 n4 n5 n6 a n c m' hm ⟨t,hv,hr,hp⟩
 simp only[T.v,Value.agg.injEq,Array.mk.injEq,List.cons.injEq,Value.int.injEq,Value.slice.injEq,true_and,and_true]at hv
 obtain⟨rfl,rfl,rfl,rfl,rfl,rfl,rfl,rfl,rfl,rfl⟩:=hv
 exact k t m' hm hr hp
theorem ZfD{φ:T->Prop}:∀(v:Value)(m':Mem) (css:List (List Value)),Zpk φ v m' css->Shape.fits (.agg [.int .u8,.int .u64,.int .u64,.int .u64,.int .u64,.int .i64,.int .i64,.slice]) v=true:=λv _ _ ⟨t,e,_⟩=>by rw[e];rfl
def RepL(m:Mem)(a:Option Addr)(l:List T):Prop:=l.length<=1000000000000000/\(l=[]\/∃b o,a=some ⟨b,o,none⟩/\RepAt m b o l)
theorem RepL.mono{m m':Mem}{a l}(h:RepL m a l)(hm:m.le m'):RepL m' a l:=by
 refine⟨h.1,?_⟩
 rcases h.2 with h|⟨b,o,h1,h2⟩
 ·exact .inl h
 ·exact .inr ⟨b,o,h1,h2.mono hm⟩
theorem Rep.subs{m:Mem}{t:T}(h:Rep m t):RepL m t.a t.subs:=ZjI h
def ZbW(k mn mx:Int)(a:Option Addr)(c:Nat)(l:List T):T:=.node k 0 0 0 0 mn mx a c l
theorem ZdD{m:Mem}{k mn mx:Int}{a:Option Addr}{c:Nat}{l:List T}(h:RepL m a l)(hk:0<=k/\k < 256)(h1 : -9223372036854775808<=mn/\mn<=9223372036854775807)(h2 : -9223372036854775808<=mx/\mx<=9223372036854775807):Rep m (ZbW k mn mx a c l):=by
 simp only[ZbW,Rep]
 exact⟨h.1,h.2,⟨hk,by omega,by omega,by omega,by omega,h1,h2⟩⟩
theorem Zn3{m:Mem}{b:Nat}{t:T}(h:m.reads b 0 t.cs)(hr:Rep m t):RepL m (some ⟨b,0,none⟩) [t]:=⟨by simp,.inr ⟨b,0,rfl,by simp only[RepAt];exact⟨h,hr,trivial⟩⟩⟩
def ZcL(l:List T):List Value:=(l.map T.cs).flatten
theorem Zar(l:List T):(ZcL l).length=l.length*8:=by
 induction l with
 | nil=>rfl
 | cons t l ih=>simp[ZcL,T.cs]at ih ⊢;omega
theorem ZaK(l r:List T):ZcL (l++r)=ZcL l++ZcL r:=by simp[ZcL]
theorem ZsB{m:Mem}{b:Nat}:∀{o:Nat} {l:List T},m.reads b o (ZcL l)->(∀t∈l,Rep m t)->RepAt m b o l
 | o,[],_,_=>by simp only[RepAt]
 | o,t::l,h,hr=>by
  simp only[RepAt]
  refine⟨λj v hj=>?_,hr t (by simp),ZsB (λj v hj=>?_) λx hx=>hr x (by simp[hx])⟩
  ·refine h j v ?_
   simp only[ZcL,List.map_cons,List.flatten_cons]
   rw[zA5 (zA0 hj).1];exact hj
  ·have:=h (8+j) v (by
    simp only[ZcL,List.map_cons,List.flatten_cons]
    rw[zA4 (by simp[T.cs])]
    have e:8+j - t.cs.length=j:=by simp[T.cs]
    rw[e];exact hj)
   rw[show o+8+j=o+(8+j) by omega];exact this
theorem ZvW{m:Mem}{a:Option Addr}{l:List T}(h:rowRd m a (ZcL l))(hr:∀t∈l,Rep m t)(hl:l.length<=1000000000000000):RepL m a l:=by
 refine⟨hl,?_⟩
 cases l with
 | nil=>exact .inl rfl
 | cons t l=>
  rcases h with h|⟨b,o,h1,h2⟩
  ·simp[ZcL,T.cs]at h
  ·exact .inr ⟨b,o,h1,ZsB h2 hr⟩
theorem Zex{m:Mem}{a:Option Addr}{l:List T}(h:RepL m a l):rowRd m a (ZcL l):=by
 have key:∀(l:List T)(b o:Nat),RepAt m b o l->m.reads b o (ZcL l):=by
  intro l
  induction l with
  | nil=>intro b o _ j v hj;simp[ZcL]at hj
  | cons t l ih=>
   intro b o hr j v hj
   simp only[RepAt]at hr
   simp only[ZcL,List.map_cons,List.flatten_cons]at hj
   by_cases aG:j < 8
   ·rw[zA5 (by simpa[T.cs]using aG)]at hj
    exact hr.1 j v hj
   ·rw[zA4 (by simp[T.cs];omega)]at hj
    have:=ih b (o+8) hr.2.2 (j - 8) v (by simpa[T.cs,ZcL]using hj)
    rw[show o+8+(j - 8)=o+j by omega]at this;exact this
 rcases h.2 with h|⟨b,o,h1,h2⟩
 ·subst h;exact .inl rfl
 ·exact .inr ⟨b,o,h1,key l b o h2⟩
theorem Zkn{m:Mem}{a:Option Addr}{l:List T}(h:RepL m a l):∀t∈l,Rep m t:=by
 rcases h.2 with h|⟨b,o,_,h⟩
 ·subst h;simp
 ·intro t ht
  obtain⟨i,hi⟩:=List.getElem?_of_mem ht
  exact(h.get hi).2
def ZDb(j:Nat)(w c:Nat):Nat:=if c / 64=j then w|||2 ^ (c % 64)else w
def Zvy(bs:List Nat)(j:Nat):Nat:=bs.foldl (ZDb j) 0
theorem Zue(l:List Nat)(c j:Nat):Zvy (l++[c]) j=if c / 64=j then Zvy l j|||2 ^ (c % 64)else Zvy l j:=by
 unfold Zvy
 rw[List.foldl_append];rfl
theorem ZvX(l:List Nat)(j:Nat):Zvy l j < 18446744073709551616:=by
 have key:∀(l:List Nat)(w:Nat),w < 2 ^ 64->l.foldl (ZDb j) w < 2 ^ 64:=by
  intro l
  induction l with
  | nil=>intro w h;exact h
  | cons c l ih=>
   intro w h
   refine ih _ ?_
   unfold ZDb
   split
   ·exact Nat.or_lt_two_pow h (Nat.pow_lt_pow_right (by omega) (by omega))
   ·exact h
 exact key l 0 (by decide)
def Zko(bs:List Nat):T:=.node 2 (Zvy bs 0:Nat) (Zvy bs 1:Nat) (Zvy bs 2:Nat) (Zvy bs 3:Nat) 0 0 none 0 []
theorem Zpl(bs:List Nat)(m:Mem):Rep m (Zko bs):=by
 simp only[Zko,Rep]
 have h:=ZvX bs
 exact⟨by simp,.inl trivial,⟨by omega,⟨by omega,by have:=h 0;omega⟩,⟨by omega,by have:=h 1;omega⟩,⟨by omega,by have:=h 2;omega⟩,⟨by omega,by have:=h 3;omega⟩,by omega,by omega⟩⟩
def ZvY(bs:List Nat):List Value:=[.int .u64 (Zvy bs 0:Nat),.int .u64 (Zvy bs 1:Nat),.int .u64 (Zvy bs 2:Nat),.int .u64 (Zvy bs 3:Nat)]
theorem Zuf(bs:List Nat){j:Nat}(h:j < 4):(ZvY bs)[j]?=some (.int .u64 (Zvy bs j:Nat)):=by
 have:j=0\/j=1\/j=2\/j=3:=by omega
 rcases this with rfl|rfl|rfl|rfl <;> rfl
theorem Zrv(l:List Nat){c j:Nat}(hj:c / 64=j)(h:j < 4):ZaB (ZvY l) j [.int .u64 ((Zvy l j|||2 ^ (c % 64):Nat):Int)]=ZvY (l++[c]):=by
 unfold ZvY
 simp only[Zue,hj]
 have:j=0\/j=1\/j=2\/j=3:=by omega
 rcases this with rfl|rfl|rfl|rfl <;> rfl
def ZdJ(n:Nat):List Nat:=([[97],[98],[97,98],[97],[98],[99],[97,98,99],[98,99],[10],[0,255],[97],[98]][n % 12]?).getD []
end Go.Rx
namespace Go.Rx
open Go Go.Eng
inductive E where
 | node (k:Int) (x:Nat) (s:ByteArray) (g:Int) (a:Option Addr) (c:Nat) (subs:List E)
def E.k:E->Int
 | .node k _ _ _ _ _ _=>k
def E.x:E->Nat
 | .node _ x _ _ _ _ _=>x
def E.s:E->ByteArray
 | .node _ _ s _ _ _ _=>s
def E.g:E->Int
 | .node _ _ _ g _ _ _=>g
def E.a:E->Option Addr
 | .node _ _ _ _ a _ _=>a
def E.c:E->Nat
 | .node _ _ _ _ _ c _=>c
def E.subs:E->List E
 | .node _ _ _ _ _ _ l=>l
def E.sl(t:E):Value:=.slice t.a t.subs.length t.c
def E.cs(t:E):List Value:=[.int .u8 t.k,.float .f64 t.x,.string t.s,.int .i64 t.g,t.sl]
def E.v(t:E):Value:=.agg #[.int .u8 t.k,.float .f64 t.x,.string t.s,.int .i64 t.g,.slice t.a t.subs.length t.c]
def E0:E:=.node 0 0 .empty 0 none 0 []
structure OkE (k:Int)(s:ByteArray)(g:Int):Prop where
 k:0<=k/\k < 256
 s:s.size<=1000000000000000
 g : -9223372036854775808<=g/\g<=9223372036854775807
mutual
def RepE(m:Mem):E->Prop
 | .node k x s g a _ l=>l.length<=1000000000000000/\(l=[]\/∃b o,a=some ⟨b,o,none⟩/\RepEAt m b o l)/\OkE k s g
def RepEAt(m:Mem)(b:Nat):Nat->List E->Prop
 | _,[]=>True
 | o,t::l=>m.reads b o t.cs/\RepE m t/\RepEAt m b (o+5) l
end
theorem Zpm(m:Mem):RepE m E0:=by simp only[E0,RepE];exact⟨by simp,.inl trivial,by constructor <;> decide⟩
theorem ZeX{m:Mem}{t:E}:RepE m t->(t.subs.length<=1000000000000000/\(t.subs=[]\/∃b o,t.a=some ⟨b,o,none⟩/\RepEAt m b o t.subs)):=by
 cases t;simp only[RepE,E.subs,E.a];exact λh=>⟨h.1,h.2.1⟩
theorem ZsC{m:Mem}{t:E}:RepE m t->OkE t.k t.s t.g:=by
 cases t;simp only[RepE];exact λh=>h.2.2
mutual
theorem RepE.mono{m m':Mem}(h:m.le m'):∀t:E,RepE m t->RepE m' t
 | .node _ _ _ _ a _ l,hr=>by
  simp only[RepE]at *
  refine⟨hr.1,?_,hr.2.2⟩
  rcases hr.2.1 with hr|⟨b,o,h1,h2⟩
  ·exact .inl hr
  ·exact .inr ⟨b,o,h1,RepEAt.mono h b o l h2⟩
theorem RepEAt.mono{m m':Mem}(h:m.le m')(b:Nat):∀(o:Nat)(l:List E),RepEAt m b o l->RepEAt m' b o l
 | _,[],_=>by simp only[RepEAt]
 | o,t::l,hr=>by
  simp only[RepEAt]at *
  exact⟨hr.1.mono h,RepE.mono h t hr.2.1,RepEAt.mono h b (o+5) l hr.2.2⟩
end
theorem RepE.mono'{m m':Mem}{t:E}(hr:RepE m t)(h:m.le m'):RepE m' t:=RepE.mono h t hr
theorem RepEAt.mono'{m m':Mem}{b o:Nat}{l:List E}(hr:RepEAt m b o l)(h:m.le m'):RepEAt m' b o l:=RepEAt.mono h b o l hr
theorem RepEAt.get{m:Mem}{b:Nat}:∀{o:Nat} {l:List E} {i:Nat} {t:E},RepEAt m b o l->l[i]?=some t->m.reads b (o+i*5) t.cs/\RepE m t
 | o,[],i,t,_,hi=>by simp at hi
 | o,x::l,0,t,h,hi=>by
  simp only[RepEAt]at h
  simp at hi;subst hi
  exact⟨by simpa using h.1,h.2.1⟩
 | o,x::l,i+1,t,h,hi=>by
  simp only[RepEAt]at h
  have:=h.2.2.get (i:=i) (by simpa using hi)
  rw[show o+(i+1)*5=o+5+i*5 by omega]
  exact this
mutual
def E.nodes:E->List E
 | .node k x s g a c l=>.node k x s g a c l::Zap l
def Zap:List E->List E
 | []=>[]
 | t::l=>t.nodes++Zap l
end
theorem ZbL(t:E):t.nodes=t::Zap t.subs:=by cases t;simp only[E.nodes,E.subs]
theorem ZaP(l r:List E):Zap (l++r)=Zap l++Zap r:=by
 induction l with
 | nil=>simp[Zap]
 | cons t l ih=>simp[Zap,ih,List.append_assoc]
theorem ZmX{l:List E}{i:Nat}{t:E}(h:l[i]?=some t):Zap (l.take (i+1))=Zap (l.take i)++t.nodes:=by
 have:l.take (i+1)=l.take i++[t]:=by
  rw[List.take_add_one,h];rfl
 rw[this,ZaP];simp[Zap]
theorem ZcI{l:List E}{i:Nat}{t:E}(h:l[i]?=some t):Zap l=Zap (l.take i)++(t.nodes++Zap (l.drop (i+1))):=by
 have aG:=(zA0 h).1
 have e:l=l.take i++(t::l.drop (i+1)):=by
  have:=List.drop_eq_getElem_cons aG
  rw[(zA0 h).2]at this
  rw[<-this,List.take_append_drop]
 conv=>lhs;rw[e,ZaP]
 simp[Zap]
theorem Zug{t x z:E}{i q:Nat}(hx:t.subs[i]?=some x)(hz:x.nodes[q]?=some z):t.nodes[1+(Zap (t.subs.take i)).length+q]?=some z:=by
 have hq:=(zA0 hz).1
 rw[ZbL,show 1+(Zap (t.subs.take i)).length+q=((Zap (t.subs.take i)).length+q)+1 by omega,List.getElem?_cons_succ,ZcI hx,zA4 (by omega),zA5 (by omega),show(Zap (List.take i t.subs)).length+q - (Zap (List.take i t.subs)).length=q by omega]
 exact hz
theorem Zl4{t x:E}(h:x∈t.subs):SizeOf.sizeOf x < SizeOf.sizeOf t:=by
 cases t with
 | node k x s g a c l=>
  have h':_∈l:=h
  have:=List.sizeOf_lt_of_mem h'
  simp only[E.node.sizeOf_spec]
  omega
theorem Zl5(t:E):Shape.fitsL [.agg [.int .u8,.any,.str,.int .i64,.slice]] [t.v]=true:=by
 simp[Shape.fitsL,Shape.fits,E.v]
mutual
theorem Zpn{m:Mem}:∀(t:E),RepE m t->∀x∈t.nodes,RepE m x
 | .node k x s g a c l,hr,z,hx=>by
  simp only[E.nodes,List.mem_cons]at hx
  rcases hx with rfl|hx
  ·exact hr
  ·simp only[RepE]at hr
   rcases hr.2.1 with h|⟨b,o,_,h⟩
   ·subst h;simp[Zap]at hx
   ·exact Zl6 b o l h z hx
theorem Zl6{m:Mem}(b:Nat):∀(o:Nat)(l:List E),RepEAt m b o l->∀x∈Zap l,RepE m x
 | _,[],_,x,hx=>by simp[Zap]at hx
 | o,t::l,hr,x,hx=>by
  simp only[RepEAt]at hr
  simp only[Zap,List.mem_append]at hx
  rcases hx with hx|hx
  ·exact Zpn t hr.2.1 x hx
  ·exact Zl6 b (o+5) l hr.2.2 x hx
end
theorem Zl7{m:Mem}{t x:E}(h:RepE m t)(hx:x∈t.nodes):RepE m x:=Zpn t h x hx
def Zze:Nat:=9221120237041090561
def Zgy(x:Nat):Nat:=if Op.floatEq .f64 x x then x else Zze
def Zuh(x y:Nat):Bool:=Zgy x == Zgy y
def ZfE(x:Nat):Bool:=Op.floatEq .f64 x x||x == Zze
def E.light(t:E):Bool:=decide (t.nodes.length<=10000)
def E.size(t:E):Int:=if t.light then t.nodes.length else 0
mutual
def E.same:E->E->Bool
 | .node k x s g _ _ l,.node k' x' s' g' _ _ l'=>k == k'&&(Zuh x x'&&(s.toList == s'.toList&&(g == g'&&ZcM l l')))
def ZcM:List E->List E->Bool
 | [],[]=>true
 | t::l,t'::l'=>t.same t'&&ZcM l l'
 | _,_=>false
end
theorem Zw0(t u:E):t.same u=(t.k == u.k&&(Zuh t.x u.x&&(t.s.toList == u.s.toList&&(t.g == u.g&&ZcM t.subs u.subs)))):=by
 cases t;cases u;simp only[E.same,E.k,E.x,E.s,E.g,E.subs]
theorem Zl8:∀{l r:List E},¬l.length=r.length->ZcM l r=false
 | [],[],h=>by simp at h
 | [],_::_,_=>by simp[ZcM]
 | _::_,[],_=>by simp[ZcM]
 | x::l,y::r,h=>by
  simp only[ZcM,Zl8 (l:=l) (r:=r) (by simpa using h),Bool.and_false]
theorem Zpo:∀{l r:List E} {i:Nat} {x y:E},l[i]?=some x->r[i]?=some y->x.same y=false->ZcM l r=false
 | [],r,i,x,y,h,_,_=>by simp at h
 | _::_,[],i,x,y,_,h,_=>by simp at h
 | a::l,b::r,0,x,y,h,k,e=>by
  simp at h k;subst h k
  simp[ZcM,e]
 | a::l,b::r,i+1,x,y,h,k,e=>by
  simp only[ZcM,Zpo (l:=l) (r:=r) (i:=i) (by simpa using h) (by simpa using k) e,Bool.and_false]
theorem ZjJ:∀{l r:List E} {i:Nat} {x y:E},l[i]?=some x->r[i]?=some y->ZcM (l.take i) (r.take i)=true->x.same y=true->ZcM (l.take (i+1)) (r.take (i+1))=true
 | [],r,i,x,y,h,_,_,_=>by simp at h
 | _::_,[],i,x,y,_,h,_,_=>by simp at h
 | a::l,b::r,0,x,y,h,k,_,e=>by
  simp at h k;subst h k
  simp[ZcM,e]
 | a::l,b::r,i+1,x,y,h,k,hs,e=>by
  simp only[List.take_succ_cons,ZcM,zA7]at hs ⊢
  exact⟨hs.1,ZjJ (by simpa using h) (by simpa using k) hs.2 e⟩
def E.most(t:E):Int:=if t.light then t.nodes.foldl (λn x=>if x.k=10 then(if x.g > n then x.g else n)else n) (-1)else -1
mutual
def E.names:E->List ByteArray->List ByteArray
 | .node k _ s _ _ _ l,out=>if k=9 then(if out.any (λy=>y.toList == s.toList)then out else out++[s])else ZbM l out
def ZbM:List E->List ByteArray->List ByteArray
 | [],out=>out
 | t::l,out=>ZbM l (t.names out)
end
theorem Zpp(t:E)(out:List ByteArray):t.names out=if t.k=9 then(if out.any (λy=>y.toList == t.s.toList)then out else out++[t.s])else ZbM t.subs out:=by
 cases t;simp only[E.names,E.k,E.s,E.subs];rfl
mutual
theorem ZsD:∀(t:E)(out:List ByteArray),out.length<=(t.names out).length
 | .node k _ s _ _ _ l,out=>by
  simp only[E.names]
  split
  ·split <;> simp
  ·exact Zkp l out
theorem Zkp:∀(l:List E)(out:List ByteArray),out.length<=(ZbM l out).length
 | [],out=>by simp[ZbM]
 | t::l,out=>by
  simp only[ZbM]
  exact Nat.le_trans (ZsD t out) (Zkp l _)
end
theorem Zl9(l r:List E)(out:List ByteArray):ZbM (l++r) out=ZbM r (ZbM l out):=by
 induction l generalizing out with
 | nil=>simp[ZbM]
 | cons t l ih=>simp only[List.cons_append,ZbM,ih]
theorem Zrw{l:List E}{i:Nat}{t:E}(h:l[i]?=some t)(out:List ByteArray):ZbM (l.take (i+1)) out=t.names (ZbM (l.take i) out):=by
 have:l.take (i+1)=l.take i++[t]:=by rw[List.take_add_one,h];rfl
 rw[this,Zl9];simp[ZbM]
theorem Zui{l:List E}{i:Nat}(out:List ByteArray):(ZbM (l.take i) out).length<=(ZbM l out).length:=by
 conv=>rhs;rw[<-List.take_append_drop i l,Zl9]
 exact Zkp _ _
mutual
theorem ZdE:∀(t:E)(out:List ByteArray),(t.names out).length<=out.length+t.nodes.length
 | .node k _ s _ _ _ l,out=>by
  simp only[E.names,E.nodes,List.length_cons]
  split
  ·split
   ·omega
   ·rw[zA1,List.length_singleton];omega
  ·have:=Zho l out
   omega
theorem Zho:∀(l:List E)(out:List ByteArray),(ZbM l out).length<=out.length+(Zap l).length
 | [],out=>by simp[ZbM]
 | t::l,out=>by
  simp only[ZbM,Zap,zA1]
  have:=ZdE t out
  have:=Zho l (t.names out)
  omega
end
def E.vars(t:E):List ByteArray:=if t.light then t.names []else[]
theorem ZdO(s:ByteArray):s.data.toList.length=s.size:=by rw[Array.length_toList];rfl
theorem ZvZ(s:ByteArray):∀(n i:Nat)(r:List UInt8),s.size - i=n->ByteArray.toList.loop s i r=r.reverse++s.data.toList.drop i
 | 0,i,r,h=>by
  rw[ByteArray.toList.loop,if_neg (by omega),List.drop_of_length_le (by have:=ZdO s;omega),List.append_nil]
 | n+1,i,r,h=>by
  have hs:=ZdO s
  have hi:i < s.size:=by omega
  rw[ByteArray.toList.loop,if_pos hi,ZvZ s n (i+1) _ (by omega),List.reverse_cons,List.append_assoc]
  have hd:=List.drop_eq_getElem_cons (l:=s.data.toList) (i:=i) (by omega)
  rw[hd]
  have e:s.get! i=s.data.toList[i]'(by omega):=by
   rw[Array.getElem_toList]
   exact getElem!_pos s.data i hi
  rw[e];rfl
theorem baL(s:ByteArray):s.toList=s.data.toList:=by
 have:=ZvZ s _ 0 [] rfl
 simpa[ByteArray.toList]using this
theorem Zcs(s:ByteArray):(s.toList == ByteArray.toList ⟨#[]⟩)=(s.size == 0):=by
 rw[baL,baL,<-ZdO]
 cases h:s.data.toList <;> simp[h] <;> rfl
theorem Zao{α:Type}{cs:α->List Value}{n:Nat}(hn:∀x,(cs x).length=n){m:Mem}{a:Option Addr}{L:List α}(h:rowRd m a (L.map cs).flatten){k:Nat}{t:α}(ht:L[k]?=some t)(h0:0 < n):∃b o,a=some ⟨b,o,none⟩/\m.reads b (o+k*n) (cs t):=by
 have aG:=(zA0 ht).1
 have len:∀l:List α,(l.map cs).flatten.length=l.length*n:=λl=>by
  induction l with
  | nil=>simp
  | cons x l ih=>rw[List.map_cons,List.flatten_cons,zA1,hn,ih,List.length_cons,Nat.succ_mul];omega
 have e:(L.map cs).flatten=((L.take k).map cs).flatten++(cs t++((L.drop (k+1)).map cs).flatten):=by
  have e1:L=L.take k++(t::L.drop (k+1)):=by
   have:=List.drop_eq_getElem_cons aG
   rw[(zA0 ht).2]at this
   rw[<-this,List.take_append_drop]
  conv=>lhs;rw[e1]
  rw[List.map_append,List.flatten_append,List.map_cons,List.flatten_cons]
 have hl:((L.take k).map cs).flatten.length=k*n:=by rw[len,List.length_take,Nat.min_eq_left (by omega)]
 rcases h with h|⟨b,o,ha,h⟩
 ·have:=congrArg List.length h
  rw[len,List.length_nil]at this
  have:0 < L.length*n:=Nat.mul_pos (by omega) h0
  omega
 ·refine⟨b,o,ha,λj v hj=>?_⟩
  have tj:=(zA0 hj).1
  have:=h (k*n+j) v (by rw[e,zA4 (by omega),hl,Nat.add_sub_cancel_left,zA5 tj];exact hj)
  rw[Nat.add_assoc];exact this
theorem Zbe{α:Type}{cs:α->List Value}{n:Nat}(hn:∀x,(cs x).length=n)(l:List α):(l.map cs).flatten.length=l.length*n:=by
 induction l with
 | nil=>simp
 | cons x l ih=>rw[List.map_cons,List.flatten_cons,zA1,hn,ih,List.length_cons,Nat.succ_mul];omega
structure Pt where
 k:Int
 s:ByteArray
 g:Int
 e:E
def Pt.cs(p:Pt):List Value:=[.int .u8 p.k,.string p.s,.int .i64 p.g,.int .u8 p.e.k,.float .f64 p.e.x,.string p.e.s,.int .i64 p.e.g,.slice p.e.a p.e.subs.length p.e.c]
def Pt.v(p:Pt):Value:=.agg p.cs.toArray
structure Ac where
 k:Int
 s:ByteArray
 pa:Option Addr
 pc:Nat
 parts:List Pt
 e:E
def Ac.cs(a:Ac):List Value:=[.int .u8 a.k,.string a.s,.slice a.pa a.parts.length a.pc,.int .u8 a.e.k,.float .f64 a.e.x,.string a.e.s,.int .i64 a.e.g,.slice a.e.a a.e.subs.length a.e.c]
structure Ru where
 k:Int
 bg:Bool
 en:Bool
 t:T
 s:ByteArray
 n:Int
 aa:Option Addr
 ac:Nat
 acts:List Ac
 go:ByteArray
 code:Int
def Ru.cs(r:Ru):List Value:=[.int .u8 r.k,.bool r.bg,.bool r.en,.int .u8 r.t.k,.int .u64 r.t.s0,.int .u64 r.t.s1,.int .u64 r.t.s2,.int .u64 r.t.s3,.int .i64 r.t.mn,.int .i64 r.t.mx,.slice r.t.a r.t.subs.length r.t.c,.string r.s,.int .i64 r.n,.slice r.aa r.acts.length r.ac,.string r.go,.int .i64 r.code]
structure Sta where
 s:ByteArray
 ra:Option Addr
 rc:Nat
 rules:List Ru
def Sta.cs(x:Sta):List Value:=[.string x.s,.slice x.ra x.rules.length x.rc]
structure Va where
 s:ByteArray
 b:Bool
 t:ByteArray
 x:Nat
def Va.cs(v:Va):List Value:=[.string v.s,.bool v.b,.string v.t,.float .f64 v.x]
structure Sc where
 n:Int
 va:Option Addr
 vc:Nat
 vars:List Va
 sa:Option Addr
 sc:Nat
 states:List Sta
def Sc.cs(s:Sc):List Value:=[.int .i64 s.n,.slice s.va s.vars.length s.vc,.slice s.sa s.states.length s.sc]
def Sc.v(s:Sc):Value:=.agg #[.int .i64 s.n,.slice s.va s.vars.length s.vc,.slice s.sa s.states.length s.sc]
theorem Pt.len(p:Pt):p.cs.length=8:=rfl
theorem Ac.len(p:Ac):p.cs.length=8:=rfl
theorem Ru.len(p:Ru):p.cs.length=16:=rfl
theorem Sta.len(p:Sta):p.cs.length=2:=rfl
theorem Va.len(p:Va):p.cs.length=4:=rfl
def I64(n:Int):Prop:=-9223372036854775808<=n/\n<=9223372036854775807
def few:Nat:=100000
structure RepP (m:Mem)(p:Pt):Prop where
 k:0<=p.k/\p.k < 256
 s:p.s.size<=1000000000000000
 g:I64 p.g
 e:RepE m p.e
structure RepA (m:Mem)(a:Ac):Prop where
 k:0<=a.k/\a.k < 256
 s:a.s.size<=1000000000000000
 n:a.parts.length<=few
 row:rowRd m a.pa (a.parts.map Pt.cs).flatten
 all:∀p∈a.parts,RepP m p
 e:RepE m a.e
structure RepR (m:Mem)(r:Ru):Prop where
 k:0<=r.k/\r.k < 256
 t:Rep m r.t
 s:r.s.size<=1000000000000000
 n:I64 r.n
 len:r.acts.length<=few
 row:rowRd m r.aa (r.acts.map Ac.cs).flatten
 all:∀p∈r.acts,RepA m p
 go:r.go.size<=1000000000000000
 code:I64 r.code
structure RepS (m:Mem)(x:Sta):Prop where
 s:x.s.size<=1000000000000000
 len:x.rules.length<=few
 row:rowRd m x.ra (x.rules.map Ru.cs).flatten
 all:∀p∈x.rules,RepR m p
structure RepV (v:Va):Prop where
 s:v.s.size<=1000000000000000
 t:v.t.size<=1000000000000000
structure RepC (m:Mem)(s:Sc):Prop where
 n:I64 s.n
 vlen:s.vars.length<=few
 vrow:rowRd m s.va (s.vars.map Va.cs).flatten
 vall:∀v∈s.vars,RepV v
 len:s.states.length<=few
 row:rowRd m s.sa (s.states.map Sta.cs).flatten
 all:∀x∈s.states,RepS m x
 vcap:s.vars.length<=s.vc
 scap:s.states.length<=s.sc
section
variable {m m':Mem} (h:m.le m')
include h
theorem RepP.mono{p:Pt}(x:RepP m p):RepP m' p:=⟨x.k,x.s,x.g,RepE.mono h _ x.e⟩
theorem RepA.mono{p:Ac}(x:RepA m p):RepA m' p:=⟨x.k,x.s,x.n,x.row.mono h,λp hp=>(x.all p hp).mono h,RepE.mono h _ x.e⟩
theorem RepR.mono{p:Ru}(x:RepR m p):RepR m' p:=⟨x.k,x.t.mono h,x.s,x.n,x.len,x.row.mono h,λp hp=>(x.all p hp).mono h,x.go,x.code⟩
theorem RepS.mono{p:Sta}(x:RepS m p):RepS m' p:=⟨x.s,x.len,x.row.mono h,λp hp=>(x.all p hp).mono h⟩
theorem RepC.mono{p:Sc}(x:RepC m p):RepC m' p:=⟨x.n,x.vlen,x.vrow.mono h,x.vall,x.len,x.row.mono h,λp hp=>(x.all p hp).mono h,x.vcap,x.scap⟩
end
def nE(e:E):Int:=if e.light then e.size else 20001
def ZbC:List Int->Int
 | []=>0
 | x::l=>x+ZbC l
theorem ZsE(l r:List Int):ZbC (l++r)=ZbC l+ZbC r:=by
 induction l with
 | nil=>simp[ZbC]
 | cons x l ih=>simp only[List.cons_append,ZbC,ih];omega
theorem Zd6{α:Type}{l:List α}{i:Nat}{x:α}(f:α->Int)(h:l[i]?=some x):ZbC ((l.take (i+1)).map f)=ZbC ((l.take i).map f)+f x:=by
 rw[List.take_add_one,h,List.map_append,ZsE];simp[ZbC]
theorem ZeY{α:Type}(f:α->Int)(hf:∀x,0<=f x):∀l:List α,0<=ZbC (l.map f)
 | []=>by simp[ZbC]
 | x::l=>by
  have:=ZeY f hf l;have:=hf x
  simp only[List.map_cons,ZbC];omega
theorem Zgh{α:Type}(f:α->Int)(hf:∀x,0<=f x)(l:List α)(i:Nat):ZbC ((l.take i).map f)<=ZbC (l.map f):=by
 have e:ZbC (l.map f)=ZbC ((l.take i).map f)+ZbC ((l.drop i).map f):=by rw[<-ZsE,<-List.map_append,List.take_append_drop]
 have:=ZeY f hf (l.drop i)
 omega
def wA(a:Ac):Int:=1+nE a.e+a.parts.length+ZbC (a.parts.map λp=>nE p.e)
def wR(r:Ru):Int:=1+Zfl r.t.size 20000+(if r.t.light then 0 else 20001)+ZbC (r.acts.map wA)
theorem ZiD(e:E):0<=nE e/\nE e<=20001:=by
 unfold nE E.size E.light
 split
 ·rename_i h
  simp only[decide_eq_true_eq]at h
  first|omega|(rw[if_pos (by simpa using h)];omega)
 ·omega
theorem Zhp(t:T):0<=t.size/\t.size<=10001:=by
 unfold T.size T.light
 split
 ·rename_i h;simp only[decide_eq_true_eq]at h;omega
 ·omega
theorem Zuj(a:Ac):0<=wA a:=by
 have:=(ZiD a.e).1
 have:=ZeY (λp:Pt=>nE p.e) (λp=>(ZiD p.e).1) a.parts
 unfold wA;omega
theorem ZAM(r:Ru):0<=wR r:=by
 have:=ZeY wA Zuj r.acts
 have h1:=(Zhp r.t).1
 have:0<=Zfl r.t.size 20000:=by unfold Zfl;split <;> omega
 unfold wR;split <;> omega
def wS(x:Sta):Int:=ZbC (x.rules.map wR)
theorem ZBV(x:Sta):0<=wS x:=ZeY wR ZAM _
def Sc.weight(s:Sc):Int:=s.vars.length+s.states.length+ZbC (s.states.map wS)
def Sc.light(s:Sc):Bool:=decide (s.weight<=20000)
structure Pl where
 v:Int
 s:Int
 r:Int
 a:Int
 p:Int
deriving DecidableEq
def Pl.cs(p:Pl):List Value:=[.int .i64 p.v,.int .i64 p.s,.int .i64 p.r,.int .i64 p.a,.int .i64 p.p]
def top:Pl:=⟨-1,-1,-1,-1,-1⟩
def Zdr(n:Nat)(f:Nat->List Pl):List Pl:=(List.range n).flatMap f
def plA(i k m:Nat)(a:Ac):List Pl:=⟨-1,i,k,m,-1⟩::Zdr a.parts.length λn=>[⟨-1,i,k,m,n⟩]
def plR(i k:Nat)(r:Ru):List Pl:=⟨-1,i,k,-1,-1⟩::Zdr r.acts.length λm=>match r.acts[m]? with
 | some a=>plA i k m a
 | none=>[]
def plS(i:Nat)(x:Sta):List Pl:=⟨-1,i,-1,-1,-1⟩::Zdr x.rules.length λk=>match x.rules[k]? with
 | some r=>plR i k r
 | none=>[]
def Sc.places(s:Sc):List Pl:=if s.light then top::(Zdr s.vars.length (λi=>[⟨i,-1,-1,-1,-1⟩])++Zdr s.states.length λi=>match s.states[i]? with
 | some x=>plS i x
 | none=>[])else[]
def ZaG:List (Int×Bool)->Int
 | []=>0
 | (e,w)::l=>if w then e else ZaG l
def ZaX(n a b:Int):Bool:=decide (n ≥ a)&&decide (n<=b)
def eqS(a b:ByteArray):Bool:=a.toList == b.toList
def Zyw(c:UInt8):Bool:=(decide (97<=c.toNat)&&decide (c.toNat<=122))||(decide (48<=c.toNat)&&decide (c.toNat<=57))||c.toNat == 95
def ZmY:List ByteArray:=[⟨#[109,105,110]⟩,⟨#[109,97,120]⟩,⟨#[110,117,109]⟩]
def ZbQ(s:ByteArray):Bool:=!(s.size == 0||decide (s.size > 16)||decide ((s.data.toList.getD 0 0).toNat < 97)||decide ((s.data.toList.getD 0 0).toNat > 122)||ZmY.any λw=>eqS w s)&&s.data.toList.all Zyw
def Zba(s:Sc)(name:ByteArray):Bool×Bool:=match s.vars.find? λv=>eqS v.s name with
 | some v=>(v.b,true)
 | none=>(false,false)
def Za0(s:Sc)(e:E):Bool:=!e.vars.any λn=>!(Zba s n).1
def Zma(e:E):Bool:=e.light&&(E0.light&&e.same E0)
def Zmb(k:Int):Int:=if k=1 then 1 else if 2<=k/\k<=7 then 2 else 0
def Zkq:List E->Bool
 | u::_=>u.k == 8
 | []=>false
def E.right(t:E):Bool:=!(t.k == 0)&&(decide (t.k<=10)&&((if t.k=9 then ZbQ t.s else t.s.size == 0)&&((if t.k=8 then ZfE t.x else Zuh t.x 0)&&((if t.k=10 then decide (t.g ≥ 0)&&decide (t.g<=9)else t.g == 0)&&((t.subs.length:Int) == Zmb t.k&&!(t.k == 1&&(t.subs.length == 1&&Zkq t.subs)))))))
def E.clean(t:E):Bool:=t.light&&t.nodes.all E.right
def ZdP(s:Sc):Int:=ZaG [(300,!ZaX s.n 2 256),(302,!ZaX s.states.length 1 24||decide (s.vars.length > 12))]
def Zd1(v:Va):Bool:=if v.b then ZfE v.x&&v.t.size == 0 else v.x == 0&&decide (v.t.size<=512)
def ZaU(s:Sc)(i:Nat)(v:Va):Int:=ZaG [(301,!ZbQ v.s||(!Zd1 v||(s.vars.take i).any λx=>eqS x.s v.s))]
def ZcS(s:Sc)(i:Nat)(x:Sta):Int:=ZaG [(303,!ZbQ x.s||(decide (x.rules.length > 12)||(s.states.take i).any λy=>eqS y.s x.s))]
def Ztt(r:Ru):Bool:=r.bg||(r.en||!(r.t.light&&(T0.light&&r.t.same T0)))
def ZaW(r:Ru):Bool:=if r.k=2 then !Ztt r&&(r.n == 0&&ZaX r.s.size 1 64)else if r.k=4 then !Ztt r&&(r.s.size == 0&&ZaX r.n 1 1000)else if r.k=3 then !Ztt r&&(r.s.size == 0&&r.n == 0)else if r.k=1 then r.s.size == 0&&r.n == 0 else false
def Zbv(r:Ru):Int:=if r.k=1 then r.t.groups else if r.k=2 then 0 else -1
def Zdu(s:Sc)(name:ByteArray):Bool:=(s.states.any λx=>eqS x.s name)&&s.light
def Zcl(s:Sc)(r:Ru)(total:Int):Int:=ZaG [(304,!ZaW r||decide (r.acts.length > 8)),(305,r.k == 1&&(!(r.t.check == 0)||decide (total > 600))),
 (306,if r.go.size=0 then !ZaX r.code 0 255 else !Zdu s r.go||!(r.code == 0))]
def ZaF(s:Sc)(r:Ru)(a:Ac):Int:=ZaG [(307,!ZaX a.k 1 3||(a.k == 1&&!(a.s.size == 0))||(a.k == 3&&decide (a.parts.length > 0))||(a.k == 3&&!a.e.clean)||(!(a.k == 3)&&!Zma a.e)||decide (a.parts.length > 16)),
 (308,(!(a.k == 1)&&(!(Zba s a.s).2||!((Zba s a.s).1 == (a.k == 3))))||(a.k == 3&&!Za0 s a.e)),(309,a.k == 3&&decide (a.e.most > Zbv r))]
def ZaY(p:Pt):Bool:=if p.k=1 then decide (p.s.size > 0)&&(decide (p.s.size<=512)&&(p.g == 0&&Zma p.e))else if p.k=2 then ZbQ p.s&&(p.g == 0&&Zma p.e)else if p.k=3 then decide (p.g ≥ 0)&&(decide (p.g<=9)&&(p.s.size == 0&&Zma p.e))else if p.k=4 then p.e.clean&&(p.s.size == 0&&p.g == 0)else false
def ZcJ(s:Sc)(r:Ru)(l:List Pt)(i:Nat)(p:Pt):Int:=ZaG [(307,!ZaY p||(decide (i > 0)&&(p.k == 1&&(match l[i - 1]? with
 | some q=>q.k == 1
 | none=>false)))),(308,(p.k == 2&&!(Zba s p.s).2)||(p.k == 4&&!Za0 s p.e)),(309,(p.k == 3&&decide (p.g > Zbv r))||(p.k == 4&&decide (p.e.most > Zbv r)))]
def sizeR(r:Ru):Int:=if r.k=1 then r.t.size else 0
def totals(s:Sc)(i k:Nat):Int:=ZbC ((s.states.take i).map λx=>ZbC (x.rules.map sizeR))+(match s.states[i]? with
 | some x=>ZbC ((x.rules.take (k+1)).map sizeR)
 | none=>0)
def atS(s:Sc)(p:Pl):Int:=if p.v ≥ 0 then(match s.vars[p.v.toNat]? with
  | some v=>ZaU s p.v.toNat v
  | none=>0)else if p.s < 0 then ZdP s else match s.states[p.s.toNat]? with
  | none=>0
  | some x=>if p.r < 0 then ZcS s p.s.toNat x else match x.rules[p.r.toNat]? with
   | none=>0
   | some r=>if p.a < 0 then Zcl s r (totals s p.s.toNat p.r.toNat)else match r.acts[p.a.toNat]? with
    | none=>0
    | some a=>if p.p < 0 then ZaF s r a else match a.parts[p.p.toNat]? with
     | none=>0
     | some q=>ZcJ s r a.parts p.p.toNat q
def Sc.problems(s:Sc):List (Pl×Int):=s.places.filterMap λp=>if atS s p=0 then none else some (p,atS s p)
def Sc.check(s:Sc):Pl×Int:=if s.light then(match s.problems with
 | p::_=>p
 | []=>(top,0))else(top,5)
theorem Zbw(n:Nat)(f:Nat->List Pl):Zdr (n+1) f=Zdr n f++f n:=by simp[Zdr,List.range_succ,List.flatMap_append]
theorem ZsF{i n:Nat}(h:i<=n)(f:Nat->List Pl):(Zdr i f).length<=(Zdr n f).length:=by
 induction n with
 | zero=>
  obtain rfl:i=0:=by omega
  exact Nat.le_refl _
 | succ n ih=>
  by_cases e:i=n+1
  ·rw[e];exact Nat.le_refl _
  ·have:=ih (by omega)
   rw[Zbw,zA1];omega
theorem Zgi(n:Nat)(f:Nat->Pl):(Zdr n λi=>[f i]).length=n:=by
 induction n with
 | zero=>rfl
 | succ n ih=>rw[Zbw,zA1,ih];rfl
theorem Zn4{α:Type}(l:List α)(F:Nat->List Pl)(g:Nat->α->List Pl)(w:α->Int)(hF:∀i x,l[i]?=some x->F i=g i x)(hw:∀i x,x∈l->((g i x).length:Int)<=w x):∀k,k<=l.length->((Zdr k F).length:Int)<=ZbC ((l.take k).map w):=by
 intro k
 induction k with
 | zero=>intro _;simp[Zdr,ZbC]
 | succ k ih=>
  intro hk
  have:=ih (by omega)
  have hx:l[k]?=some l[k]:=zA3 (by omega)
  have h2:=hw k l[k] (List.getElem_mem _)
  rw[Zbw,zA1,Zd6 w hx,hF k _ hx]
  push_cast
  omega
def Hf(i k:Nat)(r:Ru)(m:Nat):List Pl:=match r.acts[m]? with
 | some a=>plA i k m a
 | none=>[]
def Gf(i:Nat)(x:Sta)(k:Nat):List Pl:=match x.rules[k]? with
 | some r=>plR i k r
 | none=>[]
def Ff(s:Sc)(i:Nat):List Pl:=match s.states[i]? with
 | some x=>plS i x
 | none=>[]
def Pf(i k m n:Nat):List Pl:=[⟨-1,i,k,m,n⟩]
def Vf(i:Nat):List Pl:=[⟨i,-1,-1,-1,-1⟩]
theorem Zkr(i k m:Nat)(a:Ac):plA i k m a=⟨-1,i,k,m,-1⟩::Zdr a.parts.length (Pf i k m):=rfl
theorem Zks(i k:Nat)(r:Ru):plR i k r=⟨-1,i,k,-1,-1⟩::Zdr r.acts.length (Hf i k r):=rfl
theorem Zkt(i:Nat)(x:Sta):plS i x=⟨-1,i,-1,-1,-1⟩::Zdr x.rules.length (Gf i x):=rfl
theorem Zey{s:Sc}(h:s.light=true):s.places=top::(Zdr s.vars.length Vf++Zdr s.states.length (Ff s)):=by unfold Sc.places;rw[if_pos h];rfl
theorem Zio(s:Sc):s.places.length<=20001:=by
 cases h:s.light with
 | false=>unfold Sc.places;rw[h];simp
 | true=>
  have hw:s.weight<=20000:=by unfold Sc.light at h;exact zA6 h
  rw[Zey h,List.length_cons,zA1]
  have h1:(Zdr s.vars.length Vf).length=s.vars.length:=Zgi _ _
  have hA:∀i k m (a:Ac),((plA i k m a).length:Int)<=wA a:=λi k m a=>by
   rw[Zkr,List.length_cons,show(Zdr a.parts.length (Pf i k m)).length=a.parts.length from Zgi _ _]
   have:=(ZiD a.e).1
   have:=ZeY (λp:Pt=>nE p.e) (λp=>(ZiD p.e).1) a.parts
   unfold wA;push_cast;omega
  have hR:∀i k (r:Ru),((plR i k r).length:Int)<=wR r:=λi k r=>by
   rw[Zks,List.length_cons]
   have:=Zn4 r.acts (Hf i k r) (plA i k) wA (λm a h=>by unfold Hf;rw[h]) (λj x _=>hA i k j x) r.acts.length (Nat.le_refl _)
   rw[List.take_length]at this
   have h1:=(Zhp r.t).1
   have h2:0<=Zfl r.t.size 20000:=by unfold Zfl;split <;> omega
   have h3:((Zdr r.acts.length (Hf i k r)).length:Int)<=ZbC (r.acts.map wA):=this
   unfold wR;push_cast;split <;> omega
  have hS:∀i (x:Sta),((plS i x).length:Int)<=1+wS x:=λi x=>by
   rw[Zkt,List.length_cons]
   have:=Zn4 x.rules (Gf i x) (plR i) wR (λm a h=>by unfold Gf;rw[h]) (λj x _=>hR i j x) x.rules.length (Nat.le_refl _)
   rw[List.take_length]at this
   have h3:((Zdr x.rules.length (Gf i x)).length:Int)<=ZbC (x.rules.map wR):=this
   unfold wS;push_cast;omega
  have:=Zn4 s.states (Ff s) plS (λx=>1+wS x) (λm a h=>by unfold Ff;rw[h]) (λj x _=>hS j x) s.states.length (Nat.le_refl _)
  rw[List.take_length]at this
  have h3:((Zdr s.states.length (Ff s)).length:Int)<=ZbC (s.states.map λx=>1+wS x):=this
  have h4:∀l:List Sta,ZbC (l.map λx=>1+wS x)=l.length+ZbC (l.map wS):=λl=>by
   induction l with
   | nil=>rfl
   | cons x l ih=>simp only[List.map_cons,ZbC,ih,List.length_cons];push_cast;omega
  rw[h4]at h3
  unfold Sc.weight at hw
  omega
theorem Zip{n:Nat}{f:Nat->List Pl}{p:Pl}(h:p∈Zdr n f):∃i,i < n/\p∈f i:=by
 unfold Zdr at h
 obtain⟨i,hi,hp⟩:=List.mem_flatMap.1 h
 exact⟨i,List.mem_range.1 hi,hp⟩
def ZDc(s:Sc)(p:Pl):Prop:=(∃i:Nat,p.v=i/\∃v,s.vars[i]?=some v)\/(p.v < 0/\(p.s < 0\/∃i:Nat,p.s=i/\∃x,s.states[i]?=some x/\(p.r < 0\/∃k:Nat,p.r=k/\∃r,x.rules[k]?=some r/\(p.a < 0\/∃j:Nat,p.a=j/\∃a,r.acts[j]?=some a/\(p.p < 0\/∃n:Nat,p.p=n/\∃q,a.parts[n]?=some q)))))
theorem ZA8:(-1:Int) < 0:=by decide
theorem ZjK{α:Type}{l:List α}{n:Nat}(h:n < l.length):∃c,l[n]?=some c:=⟨_,zA3 h⟩
theorem ZfF(s:Sc):∀p∈s.places,ZDc s p:=by
 intro p hp
 cases h:s.light with
 | false=>unfold Sc.places at hp;rw[h]at hp;simp at hp
 | true=>
  rw[Zey h]at hp
  rcases List.mem_cons.1 hp with rfl|hp
  ·exact .inr ⟨by decide,.inl (by decide)⟩
  rcases List.mem_append.1 hp with hp|hp
  ·obtain⟨i,hi,hp⟩:=Zip hp
   obtain rfl:p=⟨i,-1,-1,-1,-1⟩:=by simpa[Vf]using hp
   exact .inl ⟨i,rfl,ZjK hi⟩
  ·obtain⟨i,hi,hp⟩:=Zip hp
   obtain⟨x,hx⟩:=ZjK hi
   have hp:p∈plS i x:=by unfold Ff at hp;rw[hx]at hp;exact hp
   rw[Zkt]at hp
   rcases List.mem_cons.1 hp with rfl|hp
   ·exact .inr ⟨ZA8,.inr ⟨i,rfl,x,hx,.inl (ZA8)⟩⟩
   obtain⟨k,hk,hp⟩:=Zip hp
   obtain⟨r,hr⟩:=ZjK hk
   have hp:p∈plR i k r:=by unfold Gf at hp;rw[hr]at hp;exact hp
   rw[Zks]at hp
   rcases List.mem_cons.1 hp with rfl|hp
   ·exact .inr ⟨ZA8,.inr ⟨i,rfl,x,hx,.inr ⟨k,rfl,r,hr,.inl (ZA8)⟩⟩⟩
   obtain⟨j,hj,hp⟩:=Zip hp
   obtain⟨a,ha⟩:=ZjK hj
   have hp:p∈plA i k j a:=by unfold Hf at hp;rw[ha]at hp;exact hp
   rw[Zkr]at hp
   rcases List.mem_cons.1 hp with rfl|hp
   ·exact .inr ⟨ZA8,.inr ⟨i,rfl,x,hx,.inr ⟨k,rfl,r,hr,.inr ⟨j,rfl,a,ha,.inl (ZA8)⟩⟩⟩⟩
   obtain⟨n,hn,hp⟩:=Zip hp
   obtain rfl:p=⟨-1,i,k,j,n⟩:=by simpa[Pf]using hp
   exact .inr ⟨ZA8,.inr ⟨i,rfl,x,hx,.inr ⟨k,rfl,r,hr,.inr ⟨j,rfl,a,ha,.inr ⟨n,rfl,ZjK hn⟩⟩⟩⟩⟩
end Go.Rx
namespace Go.Rx
open Go Go.Eng Go.RowKit
def T.good(t:T):Bool:=t.nodes.all T.right
def isG(t:T):Bool:=t.k == 6
theorem Zmc(p:T->Bool):∀l:List T,(Zaz l).all p=l.all λt=>t.nodes.all p
 | []=>rfl
 | t::l=>by simp only[Zaz,List.all_append,List.all_cons,Zmc p l]
theorem Zpq(t:T):t.good=(t.right&&t.subs.all T.good):=by
 unfold T.good;rw[ZcH,List.all_cons,Zmc]
def grL(l:List T):Nat:=(Zaz l).countP isG
def szL(l:List T):Nat:=(Zaz l).length
def T.gr(t:T):Nat:=t.nodes.countP isG
theorem ZaE(l r:List T):szL (l++r)=szL l+szL r:=by unfold szL;rw[Zdg,zA1]
theorem ZbH(l r:List T):grL (l++r)=grL l+grL r:=by unfold grL;rw[Zdg,List.countP_append]
theorem Zbq(t:T):szL [t]=t.nodes.length:=by simp[szL,Zaz]
theorem Zdh(t:T):grL [t]=t.gr:=by simp[grL,Zaz,T.gr]
theorem ZcK(t:T):ZeW [t]=t.pos:=by simp[ZeW]
theorem ZeZ(t:T)(l:List T):szL (t::l)=t.nodes.length+szL l:=by simp[szL,Zaz]
theorem ZsG(t:T)(l:List T):grL (t::l)=t.gr+grL l:=by simp[grL,Zaz,T.gr,List.countP_append]
theorem Zku(t:T):t.nodes.length=1+szL t.subs:=by rw[ZcH,List.length_cons,szL];omega
theorem Zyx(t:T):t.gr=(if isG t=true then 1 else 0)+grL t.subs:=by
 unfold T.gr;rw[ZcH,List.countP_cons,grL];omega
theorem Zpr(l:List T):l.length<=szL l:=by
 induction l with
 | nil=>simp
 | cons t l ih=>rw[ZeZ,Zku,List.length_cons];omega
def Za6(k:Int)(t:T):List T:=if t.k=k then t.subs else if k=3/\t.k=1 then[]else[t]
def ZfG(k:Int)(a:Option Addr)(c:Nat):List T->T
 | []=>T1
 | [x]=>x
 | x::y::l=>ZbW k 0 0 a c (x::y::l)
theorem Zkv{t:T}{k:Int}(h:t.has k=false):∀x∈t.subs,x.k≠k:=by
 intro x hx e
 unfold T.has at h
 have:=List.any_eq_false.1 h x hx
 simp[e]at this
theorem Zw1{t:T}{k:Int}(h:∀x∈t.subs,x.k≠k):t.has k=false:=by
 unfold T.has
 rw[List.any_eq_false]
 intro x hx
 have:=h x hx
 simpa using this
theorem Zkw{k:Int}{t:T}(hk:k=3\/k=4)(hg:t.good=true)(hp:t.pos<=10000):(∀x∈Za6 k t,x.good=true/\x.k≠k/\(k=3->x.k≠1))/\szL (Za6 k t)<=t.nodes.length/\grL (Za6 k t)<=t.gr/\ZeW (Za6 k t)<=t.pos:=by
 have hg':=hg
 rw[Zpq,zA7,List.all_eq_true]at hg'
 unfold Za6
 split
 ·rename_i dS
  refine⟨λx hx=>⟨hg'.2 x hx,?_⟩,by rw[Zku];omega,by rw[Zyx];omega,?_⟩
  ·have hr:=hg'.1
   unfold T.right at hr
   rw[zA7]at hr
   have hr:=hr.2
   rcases hk with rfl|rfl
   ·simp only[dS]at hr
    simp at hr
    exact⟨Zkv hr.2.2 x hx,λ_=>Zkv hr.2.1 x hx⟩
   ·simp only[dS]at hr
    simp at hr
    exact⟨Zkv hr.2 x hx,λh=>by omega⟩
  ·rw[Zrt]at hp ⊢
   have h5:¬t.k=5:=by omega
   have h2:¬t.k=2:=by omega
   unfold Zyv at hp ⊢
   rw[if_neg h5,if_neg h2,Int.zero_add]at hp ⊢
   unfold Zfl at hp ⊢
   split at hp
   ·omega
   ·split <;> omega
 ·rename_i dS
  split
  ·refine⟨λx hx=>by simp at hx,by simp[szL,Zaz],by simp[grL,Zaz],?_⟩
   simp only[ZeW];exact(ZiK t).1
  ·rename_i xn
   refine⟨λx hx=>?_,by rw[Zbq];exact Nat.le_refl _,by rw[Zdh];exact Nat.le_refl _,by rw[ZcK];exact Int.le_refl _⟩
   simp at hx;subst hx
   exact⟨hg,dS,λh=>λh1=>xn ⟨h,h1⟩⟩
theorem Zps{k:Int}(hk:k=3\/k=4)(a:Option Addr)(c:Nat):∀{l:List T},(∀x∈l,x.good=true/\x.k≠k/\(k=3->x.k≠1))->(ZfG k a c l).good=true/\(ZfG k a c l).nodes.length<=1+szL l/\(ZfG k a c l).gr<=grL l/\(ZfG k a c l).pos<=ZeW l
 | [],_=>⟨show T1.good=true by decide,show T1.nodes.length<=1 by decide,show T1.gr<=0 by decide,show T1.pos<=0 by decide⟩
 | [x],h=>by
  rw[Zbq,Zdh,ZcK]
  exact⟨(h x (by simp)).1,by show x.nodes.length<=_;omega,Nat.le_refl _,Int.le_refl _⟩
 | x::y::l,h=>by
  show(ZbW k 0 0 a c (x::y::l)).good=true/\(ZbW k 0 0 a c (x::y::l)).nodes.length<=_/\(ZbW k 0 0 a c (x::y::l)).gr<=_/\(ZbW k 0 0 a c (x::y::l)).pos<=_
  have hs:(ZbW k 0 0 a c (x::y::l)).subs=x::y::l:=rfl
  have dS:(ZbW k 0 0 a c (x::y::l)).k=k:=rfl
  have hz:(ZbW k 0 0 a c (x::y::l)).setZ=true:=rfl
  have vj:(ZbW k 0 0 a c (x::y::l)).mn=0:=rfl
  have mQ:(ZbW k 0 0 a c (x::y::l)).mx=0:=rfl
  refine⟨?_,by rw[Zku,hs];exact Nat.le_refl _,?_,?_⟩
  ·rw[Zpq,zA7,List.all_eq_true,hs]
   refine⟨?_,λz hz=>(h z hz).1⟩
   have h1:k=3->(ZbW k 0 0 a c (x::y::l)).has 1=false:=λe=>Zw1 λz hz=>(h z hz).2.2 e
   have h2:(ZbW k 0 0 a c (x::y::l)).has k=false:=Zw1 λz hz=>(h z hz).2.1
   unfold T.right
   rw[dS,hz,vj,mQ,hs]
   rcases hk with rfl|rfl
   ·simp[h1 rfl,h2]
   ·simp[h2]
  ·rw[Zyx,hs,isG,dS]
   rcases hk with rfl|rfl <;> simp
  ·rw[Zrt,dS,vj,mQ,hs]
   unfold Zyv
   rw[if_neg (by omega),if_neg (by omega),Int.zero_add]
   exact(Zl3 _ _).1
structure J (i:Nat)(ts:List T)(u g:Nat):Prop where
 good:∀t∈ts,t.good=true
 sz:szL ts<=i
 pos:ZeW ts<=(i*u:Nat)
 u1:1<=u
 u16:u<=16
 gr:grL ts<=g
 g9:g<=9
theorem J.zero:J 0 [] 1 0:=⟨by simp,by simp[szL,Zaz],by simp[ZeW],by omega,by omega,by simp[grL,Zaz],by omega⟩
theorem J.skip{i ts u g}(h:J i ts u g):J (i+1) ts u g:=
 ⟨h.good,by have:=h.sz;omega,by have:=h.pos;have e:(i+1)*u=i*u+u:=Nat.succ_mul i u;rw[e];omega,h.u1,h.u16,h.gr,h.g9⟩
theorem J.push{i ts u g}(h:J i ts u g){t:T}(hg:t.good=true)(hs:t.nodes.length=1)(hp:t.pos<=1)(hr:t.gr=0):J (i+1) (ts++[t]) u g:=by
 refine⟨λx hx=>?_,?_,?_,h.u1,h.u16,?_,h.g9⟩
 ·rcases List.mem_append.1 hx with hx|hx
  ·exact h.good x hx
  ·simp at hx;subst hx;exact hg
 ·rw[ZaE,Zbq,hs];have:=h.sz;omega
 ·rw[Zbk,ZcK];have:=h.pos;have:=h.u1;have e:(i+1)*u=i*u+u:=Nat.succ_mul i u;rw[e];omega
 ·rw[ZbH,Zdh,hr];have:=h.gr;omega
theorem J.pos400{i ts u g}(h:J i ts u g)(hi:i<=25):ZeW ts<=400:=by
 have h1:=h.pos
 have:i*u<=25*16:=Nat.mul_le_mul hi h.u16
 omega
theorem J.join{i ts u g}{x y:T}(h:J i (ts++[x,y]) u g)(hi:i<=25){k:Int}(hk:k=3\/k=4)(a:Option Addr)(c:Nat):J (i+1) (ts++[ZfG k a c (Za6 k x++Za6 k y)]) u g:=by
 have h4:=h.pos400 hi
 have hz:=h.sz
 have hp:=h.pos
 have nr:=h.gr
 rw[show ts++[x,y]=ts++([x]++[y]) from rfl]at h4 hz hp nr
 rw[Zbk,Zbk,ZcK,ZcK]at h4 hp
 rw[ZaE,ZaE,Zbq,Zbq]at hz
 rw[ZbH,ZbH,Zdh,Zdh]at nr
 have n1:=Zhn ts
 have n2:=(ZiK x).1
 have n3:=(ZiK y).1
 obtain⟨a1,a2,a3,a4⟩:=Zkw hk (h.good x (by simp)) (by omega)
 obtain⟨b1,b2,b3,b4⟩:=Zkw hk (h.good y (by simp)) (by omega)
 obtain⟨c1,c2,c3,c4⟩:=Zps hk a c (l:=Za6 k x++Za6 k y) (λz hz=>by
  rcases List.mem_append.1 hz with hz|hz
  ·exact a1 z hz
  ·exact b1 z hz)
 rw[ZaE]at c2
 rw[ZbH]at c3
 rw[Zbk]at c4
 refine⟨λz hz=>?_,?_,?_,h.u1,h.u16,?_,h.g9⟩
 ·rcases List.mem_append.1 hz with hz|hz
  ·exact h.good z (by simp[hz])
  ·simp at hz;subst hz;exact c1
 ·rw[ZaE,Zbq];omega
 ·rw[Zbk,ZcK];have e:(i+1)*u=i*u+u:=Nat.succ_mul i u;rw[e];omega
 ·rw[ZbH,Zdh];omega
theorem J.group{i ts u g}{x:T}(h:J i (ts++[x]) u g)(hg:g < 9)(a:Option Addr)(c:Nat):J (i+1) (ts++[ZbW 6 0 0 a c [x]]) u (g+1):=by
 have hz:=h.sz
 have hp:=h.pos
 have nr:=h.gr
 rw[Zbk,ZcK]at hp
 rw[ZaE,Zbq]at hz
 rw[ZbH,Zdh]at nr
 have hs:(ZbW 6 0 0 a c [x]).subs=[x]:=rfl
 refine⟨λz hz=>?_,?_,?_,h.u1,h.u16,?_,by omega⟩
 ·rcases List.mem_append.1 hz with hz|hz
  ·exact h.good z (by simp[hz])
  ·simp at hz;subst hz
   rw[Zpq,zA7,List.all_eq_true]
   refine⟨rfl,λz hz=>?_⟩
   rw[hs]at hz;simp at hz;subst hz
   exact h.good z (by simp)
 ·rw[ZaE,Zbq,Zku,hs,Zbq];omega
 ·rw[Zbk,ZcK,Zrt,hs,ZcK]
  have:Zyv (ZbW 6 0 0 a c [x]).k (ZbW 6 0 0 a c [x]).mn (ZbW 6 0 0 a c [x]).mx ((if(ZbW 6 0 0 a c [x]).k=2 then 1 else 0)+x.pos)<=x.pos:=by
   show Zfl (if(6:Int)=5 then _ else(if(6:Int)=2 then 1 else 0)+x.pos) 10001<=_
   rw[if_neg (by omega),if_neg (by omega),Int.zero_add]
   exact(Zl3 _ _).1
  have e:(i+1)*u=i*u+u:=Nat.succ_mul i u
  rw[e];omega
 ·rw[ZbH,Zdh,Zyx,hs,Zdh]
  split <;> omega
theorem J.rep{i ts u g}{x:T}(h:J i (ts++[x]) u g)(hx:x.k≠1){mn mx:Int}(hb:Zkm mn mx=true){w:Nat}(hw:ZwY mn mx<=w)(h1:1<=w)(hu:u*w<=16)(a:Option Addr)(c:Nat):J (i+1) (ts++[ZbW 5 mn mx a c [x]]) (u*w) g:=by
 have hz:=h.sz
 have hp:=h.pos
 have nr:=h.gr
 rw[Zbk,ZcK]at hp
 rw[ZaE,Zbq]at hz
 rw[ZbH,Zdh]at nr
 have hs:(ZbW 5 mn mx a c [x]).subs=[x]:=rfl
 have n1:=Zhn ts
 have n2:=(ZiK x).1
 refine⟨λz hz=>?_,?_,?_,?_,hu,?_,h.g9⟩
 ·rcases List.mem_append.1 hz with hz|hz
  ·exact h.good z (by simp[hz])
  ·simp at hz;subst hz
   rw[Zpq,zA7,List.all_eq_true]
   refine⟨?_,λz hz=>?_⟩
   ·have hh:(ZbW 5 mn mx a c [x]).has 1=false:=Zw1 λz hz=>by rw[hs]at hz;simp at hz;subst hz;exact hx
    unfold T.right
    rw[hh,hs,show(ZbW 5 mn mx a c [x]).k=5 from rfl,show(ZbW 5 mn mx a c [x]).setZ=true from rfl,show(ZbW 5 mn mx a c [x]).mn=mn from rfl,show(ZbW 5 mn mx a c [x]).mx=mx from rfl,hb]
    simp
   ·rw[hs]at hz;simp at hz;subst hz
    exact h.good z (by simp)
 ·rw[ZaE,Zbq,Zku,hs,Zbq];omega
 ·rw[Zbk,ZcK,Zrt,hs,ZcK]
  have key:Zyv (ZbW 5 mn mx a c [x]).k (ZbW 5 mn mx a c [x]).mn (ZbW 5 mn mx a c [x]).mx ((if(ZbW 5 mn mx a c [x]).k=2 then 1 else 0)+x.pos)<=x.pos*w:=by
   show Zfl (if(5:Int)=5 then((if(5:Int)=2 then 1 else 0)+x.pos)*ZwY mn mx else _) 10001<=_
   rw[if_pos rfl,if_neg (by omega),Int.zero_add]
   exact Int.le_trans (Zl3 _ _).1 (Int.mul_le_mul_of_nonneg_left hw n2)
  have k2:ZeW ts<=ZeW ts*w:=by
   have:=Int.mul_le_mul_of_nonneg_left (show(1:Int)<=w by omega) n1
   rw[Int.mul_one]at this;exact this
  have k3:(ZeW ts+x.pos)*w<=((i*u:Nat):Int)*w:=Int.mul_le_mul_of_nonneg_right hp (by omega)
  rw[Int.add_mul]at k3
  have e:(i+1)*(u*w)=i*u*w+u*w:=by rw[Nat.succ_mul,Nat.mul_assoc]
  have e2:(((i*u:Nat):Int)*w)=((i*u*w:Nat):Int):=by push_cast;rfl
  rw[e2]at k3
  rw[e]
  generalize i*u*w=A at *
  generalize u*w=B at *
  generalize ZeW ts*(w:Int)=D at *
  generalize x.pos*(w:Int)=F at *
  omega
 ·have:=Nat.mul_le_mul h.u1 h1;omega
 ·rw[ZbH,Zdh,Zyx,hs,Zdh,isG,show(ZbW 5 mn mx a c [x]).k=5 from rfl]
  simp;omega
structure F (t:T)(l:List T):Prop where
 good:t.good=true
 goods:∀x∈l,x.good=true
 sz:t.nodes.length+szL l+l.length<=60
 pos:t.pos+ZeW l<=400
 gr:t.gr+grL l<=9
theorem F.start{i u g}{t:T}{l:List T}(h:J i (t::l) u g)(hi:i<=25):F t l:=by
 have h1:=h.sz
 have h2:=h.pos400 hi
 have h3:=h.gr
 rw[ZeZ]at h1
 rw[ZsG]at h3
 have:=Zpr l
 have:=h.g9
 exact⟨h.good t (by simp),λx hx=>h.good x (by simp[hx]),by omega,by simpa[ZeW]using h2,by omega⟩
theorem F.step{t x:T}{l:List T}(h:F t (x::l))(a:Option Addr)(c:Nat):F (ZfG 4 a c (Za6 4 t++Za6 4 x)) l:=by
 have h1:=h.sz
 have h2:=h.pos
 have h3:=h.gr
 rw[ZeZ,List.length_cons]at h1
 rw[ZsG]at h3
 simp only[ZeW]at h2
 have n1:=Zhn l
 have n2:=(ZiK x).1
 have n3:=(ZiK t).1
 obtain⟨a1,a2,a3,a4⟩:=Zkw (.inr rfl) h.good (by omega) (t:=t)
 obtain⟨b1,b2,b3,b4⟩:=Zkw (.inr rfl) (h.goods x (by simp)) (by omega)
 obtain⟨c1,c2,c3,c4⟩:=Zps (.inr rfl) a c (l:=Za6 4 t++Za6 4 x) (λz hz=>by
  rcases List.mem_append.1 hz with hz|hz
  ·exact a1 z hz
  ·exact b1 z hz)
 rw[ZaE]at c2
 rw[ZbH]at c3
 rw[Zbk]at c4
 exact⟨c1,λz hz=>h.goods z (by simp[hz]),by omega,by omega,by omega⟩
theorem F.done{t:T}{l:List T}(h:F t l):t.check=0:=by
 have h1:=h.sz
 have h2:=h.pos
 have h3:=h.gr
 have n1:=Zhn l
 have hl:t.light=true:=by unfold T.light;exact decide_eq_true (by omega)
 have hc:t.clean=true:=by unfold T.clean;rw[hl];exact h.good
 have hg:((t.nodes.countP λx=>x.k == 6:Nat))=t.gr:=rfl
 unfold T.check
 rw[hc]
 unfold T.size T.positions T.groups
 rw[hl,hg]
 simp only[if_true,Bool.true_eq_false,if_false]
 rw[if_neg (by omega),if_neg (by omega),if_neg (by omega)]
theorem ZsH(n:Nat):(Zko (ZdJ n)).good=true/\(Zko (ZdJ n)).nodes.length=1/\(Zko (ZdJ n)).pos<=1/\(Zko (ZdJ n)).gr=0:=by
 have h:n % 12=0\/n % 12=1\/n % 12=2\/n % 12=3\/n % 12=4\/n % 12=5\/n % 12=6\/n % 12=7\/n % 12=8\/n % 12=9\/n % 12=10\/n % 12=11:=by omega
 unfold ZdJ
 rcases h with e|e|e|e|e|e|e|e|e|e|e|e <;> rw[e] <;> exact⟨by decide,by decide,by decide,by decide⟩
theorem Zzf:T1.good=true/\T1.nodes.length=1/\T1.pos<=1/\T1.gr=0:=⟨by decide,by decide,by decide,by decide⟩
theorem Zez{k:Int}{t:T}:(Za6 k t).length<=t.nodes.length:=by
 unfold Za6
 have:=ZvV t
 have:=Zku t
 split
 ·omega
 ·split <;> simp <;> omega
end Go.Rx
namespace Go.Rx
open Go Go.Eng
set_option maxRecDepth 100000
def Zgj:List ByteArray:=[⟨#[120]⟩,⟨#[121]⟩,⟨#[122,95,49]⟩,⟨#[97,98,99,100,101,102,103,104,105,106,107,108,109,110,111,112]⟩]
def Zdi:List ByteArray:=[⟨#[115]⟩,⟨#[116]⟩]
def Zv0:List ByteArray:=[⟨#[97]⟩,⟨#[98]⟩,⟨#[99]⟩,⟨#[100]⟩]
def okN(c:Int)(x:E):Prop:=x.right=true/\(x.k=9->x.s∈Zgj)/\(x.k=10->x.g<=c)
structure MkE (c:Int)(n:Nat)(e:E):Prop where
 all:∀x∈e.nodes,okN c x
 len:e.nodes.length<=n
def ZBW(x:Nat):E:=.node 8 x .empty 0 none 0 []
def ZAn(s:ByteArray):E:=.node 9 0 s 0 none 0 []
def ZCD(g:Int):E:=.node 10 0 .empty g none 0 []
def ZAo(a:Option Addr)(c:Nat)(x:E):E:=.node 1 0 .empty 0 a c [x]
def opE(k:Int)(a:Option Addr)(c:Nat)(x y:E):E:=.node k 0 .empty 0 a c [x,y]
theorem MkE.mono{c n k e}(h:MkE c n e)(hk:n<=k):MkE c k e:=⟨h.all,Nat.le_trans h.len hk⟩
theorem Zn5{c:Int}{k x s g a d}(h:okN c (.node k x s g a d [])):MkE c 1 (.node k x s g a d []):=by
 refine⟨λy hy=>?_,by simp[E.nodes,Zap]⟩
 simp only[E.nodes,Zap,List.mem_singleton]at hy
 rw[hy];exact h
theorem Zuk:Zuh 0 0=true:=by decide +kernel
theorem Zv1{c:Int}{x:Nat}(h:ZfE x=true):MkE c 1 (ZBW x):=by
 refine Zn5 ⟨?_,λe=>absurd (show(8:Int)=9 from e) (by decide),λe=>absurd (show(8:Int)=10 from e) (by decide)⟩
 simp[E.right,E.k,E.s,E.x,E.g,E.subs,Zmb,h]
theorem Zmd:∀s∈Zgj,ZbQ s=true:=by decide +kernel
theorem Zpt:∀s∈Zdi,ZbQ s=true:=by decide +kernel
theorem Zpu:∀s∈Zv0,ZbQ s=true:=by decide +kernel
theorem Zv2{c:Int}{s:ByteArray}(h:s∈Zgj):MkE c 1 (ZAn s):=by
 refine Zn5 ⟨?_,λ_=>h,λe=>absurd (show(9:Int)=10 from e) (by decide)⟩
 simp[E.right,E.k,E.s,E.x,E.g,E.subs,Zmb,Zmd s h,Zuk]
theorem Zzg{c g:Int}(h:0<=g/\g<=9)(hc:g<=c):MkE c 1 (ZCD g):=by
 refine Zn5 ⟨?_,λe=>absurd (show(10:Int)=9 from e) (by decide),λ_=>hc⟩
 simp[E.right,E.k,E.s,E.x,E.g,E.subs,Zmb,Zuk,h.1,h.2]
theorem Zzh{c:Int}{n:Nat}{a d}{x:E}(h:MkE c n x)(hk:x.k≠8):MkE c (n+1) (ZAo a d x):=by
 refine⟨λy hy=>?_,by have:=h.len;simp[ZAo,E.nodes,Zap];omega⟩
 simp only[ZAo,E.nodes,Zap,List.append_nil,List.mem_cons]at hy
 rcases hy with rfl|hy
 ·refine⟨?_,λe=>absurd (show(1:Int)=9 from e) (by decide),λe=>absurd (show(1:Int)=10 from e) (by decide)⟩
  have h1:E.right (.node 1 0 .empty 0 a d [x])=!Zkq [x]:=by simp[E.right,E.k,E.s,E.x,E.g,E.subs,Zmb,Zuk]
  rw[h1]
  show(!(x.k == 8))=true
  simpa using hk
 ·exact h.all y hy
theorem Zzi{c:Int}{n p:Nat}{a d}{k:Int}{x y:E}(hk:2<=k/\k<=7)(h:MkE c n x)(h2:MkE c p y):MkE c (n+p+1) (opE k a d x y):=by
 refine⟨λz hz=>?_,by have:=h.len;have:=h2.len;simp[opE,E.nodes,Zap];omega⟩
 simp only[opE,E.nodes,Zap,List.append_nil,List.mem_cons,List.mem_append]at hz
 rcases hz with rfl|hz|hz
 ·refine⟨?_,λe=>?_,λe=>?_⟩
  ·have h0:¬k=0:=by omega
   have h1:¬k=1:=by omega
   have h9:¬k=9:=by omega
   have h8:¬k=8:=by omega
   have im:¬k=10:=by omega
   have hs:Zmb k=2:=by unfold Zmb;rw[if_neg h1,if_pos hk]
   have bH:k<=10:=by omega
   simp[E.right,E.k,E.s,E.x,E.g,E.subs,hs,Zuk,h0,h1,h9,h8,im,bH]
  ·have e:k=9:=e
   omega
  ·have e:k=10:=e
   omega
 ·exact h.all z hz
 ·exact h2.all z hz
theorem MkE.clean{c:Int}{n:Nat}{e:E}(h:MkE c n e)(hn:n<=10000):e.clean=true:=by
 have hl:e.light=true:=by unfold E.light;exact decide_eq_true (Nat.le_trans h.len hn)
 unfold E.clean
 rw[hl,Bool.true_and,List.all_eq_true]
 exact λx hx=>(h.all x hx).1
theorem Zzj{c:Int}(l:List E)(h:∀x∈l,x.k=10->x.g<=c):∀n:Int,n<=c->l.foldl (λn x=>if x.k=10 then(if x.g > n then x.g else n)else n) n<=c:=by
 induction l with
 | nil=>exact λn hn=>hn
 | cons x l ih=>
  intro n hn
  rw[List.foldl_cons]
  refine ih (λy hy=>h y (List.mem_cons_of_mem _ hy)) _ ?_
  split
  ·rename_i hk
   split
   ·exact h x (by simp) hk
   ·exact hn
  ·exact hn
theorem MkE.most{c:Int}{n:Nat}{e:E}(h:MkE c n e)(hc : -1<=c):e.most<=c:=by
 unfold E.most
 split
 ·exact Zzj _ (λx hx=>(h.all x hx).2.2) _ hc
 ·exact hc
mutual
theorem ZsI{A:List ByteArray}:∀(t:E)(out:List ByteArray),(∀x∈t.nodes,x.k=9->x.s∈A)->∀s∈t.names out,s∈out\/s∈A
 | .node k x s g a c l,out,h,z,hz=>by
  simp only[E.names]at hz
  split at hz
  ·rename_i hk
   split at hz
   ·exact .inl hz
   ·rcases List.mem_append.1 hz with hz|hz
    ·exact .inl hz
    ·rw[List.mem_singleton]at hz;subst hz
     exact .inr (h (.node k x z g a c l) (by simp[E.nodes]) hk)
  ·exact Zpv l out (λy hy=>h y (by simp only[E.nodes];exact List.mem_cons_of_mem _ hy)) z hz
theorem Zpv{A:List ByteArray}:∀(l:List E)(out:List ByteArray),(∀x∈Zap l,x.k=9->x.s∈A)->∀s∈ZbM l out,s∈out\/s∈A
 | [],out,_,z,hz=>.inl hz
 | t::l,out,h,z,hz=>by
  simp only[ZbM]at hz
  rcases Zpv l _ (λy hy=>h y (by simp only[Zap];exact List.mem_append_right _ hy)) z hz with hz|hz
  ·exact ZsI t out (λy hy=>h y (by simp only[Zap];exact List.mem_append_left _ hy)) z hz
  ·exact .inr hz
end
theorem MkE.vars{c:Int}{n:Nat}{e:E}(h:MkE c n e):∀s∈e.vars,s∈Zgj:=by
 intro s hs
 unfold E.vars at hs
 split at hs
 ·rcases ZsI (A:=Zgj) e [] (λx hx=>(h.all x hx).2.1) s hs with h|h
  ·cases h
  ·exact h
 ·cases hs
theorem Zul:Zma E0=true:=by decide +kernel
inductive MkP (c:Int):Pt->Prop
 | lit (s:ByteArray) (h:0 < s.size/\s.size<=512):MkP c ⟨1,s,0,E0⟩
 | var (s:ByteArray) (h:s∈Zgj\/s∈Zdi):MkP c ⟨2,s,0,E0⟩
 | cap (g:Int) (h:0<=g/\g<=9/\g<=c):MkP c ⟨3,.empty,g,E0⟩
 | clc (e:E) (h:MkE c 20 e):MkP c ⟨4,.empty,0,e⟩
def ZCn(l:List Pt):Prop:=∀(i:Nat)(p q:Pt),l[i]?=some p->l[i+1]?=some q->p.k=1->q.k=1->False
structure MkT (c:Int)(l:List Pt):Prop where
 len:l.length<=5
 all:∀p∈l,MkP c p
 ll:ZCn l
inductive MkA (c:Int):Ac->Prop
 | send (a:Option Addr) (n:Nat) (l:List Pt) (h:MkT c l):MkA c ⟨1,.empty,a,n,l,E0⟩
 | set (s:ByteArray) (hs:s∈Zdi) (a:Option Addr) (n:Nat) (l:List Pt) (h:MkT c l):MkA c ⟨2,s,a,n,l,E0⟩
 | let_ (s:ByteArray) (hs:s∈Zgj) (e:E) (h:MkE c 20 e):MkA c ⟨3,s,none,0,[],e⟩
def ZAN(r:Ru):Prop:=(r.k=1/\r.t.check=0/\r.t.nodes.length<=26/\r.s=.empty/\r.n=0)\/((r.bg=false/\r.en=false/\r.t=T0)/\((r.k=2/\1<=r.s.size/\r.s.size<=3/\r.n=0)\/(r.k=3/\r.s=.empty/\r.n=0)\/(r.k=4/\r.s=.empty/\1<=r.n/\r.n<=8)))
structure MkR (n:Nat)(r:Ru):Prop where
 kind:ZAN r
 len:r.acts.length<=3
 all:∀a∈r.acts,MkA (Zbv r) a
 go:((∃i,i < n/\Zv0[i]?=some r.go)/\r.code=0)\/(r.go=.empty/\0<=r.code/\r.code<=255)
structure MkS (n i:Nat)(x:Sta):Prop where
 name:Zv0[i]?=some x.s
 len:x.rules.length<=5
 all:∀r∈x.rules,MkR n r
structure MkV (i:Nat)(v:Va):Prop where
 name:(Zgj++Zdi)[i]?=some v.s
 kind:(i < 4/\v.b=true/\v.t=.empty/\ZfE v.x=true)\/(4<=i/\v.b=false/\v.t.size<=3/\v.x=0)
structure MkC (s:Sc):Prop where
 n:2<=s.n/\s.n<=12
 vlen:s.vars.length=6
 vall:∀i v,s.vars[i]?=some v->MkV i v
 len:1<=s.states.length/\s.states.length<=4
 all:∀i x,s.states[i]?=some x->MkS s.states.length i x
theorem Zrx{n:Nat}{e:E}(h:e.nodes.length<=n)(hn:n<=10000):e.light=true:=by unfold E.light;exact decide_eq_true (by omega)
theorem ZBX{n:Nat}{e:E}(h:e.nodes.length<=n)(hn:n<=10000):nE e<=n:=by
 unfold nE E.size;rw[Zrx h hn];simp;omega
theorem nE0:nE E0<=20:=by decide +kernel
theorem Ze0{α:Type}(f:α->Int)(B:Int)(l:List α)(hf:∀x∈l,f x<=B):ZbC (l.map f)<=l.length*B:=by
 induction l with
 | nil=>simp[ZbC]
 | cons x l ih=>
  have h1:=hf x (by simp)
  have h2:=ih (λy hy=>hf y (by simp[hy]))
  simp only[List.map_cons,ZbC,List.length_cons]
  rw[show((l.length+1:Nat):Int)*B=l.length*B+B by rw[Int.natCast_add,Int.add_mul];simp]
  omega
theorem MkP.nE{c:Int}{p:Pt}(h:MkP c p):nE p.e<=20:=by
 cases h with
 | clc e h=>exact ZBX (n:=20) h.len (by omega)
 | _=>exact nE0
theorem MkA.w{c:Int}{a:Ac}(h:MkA c a):wA a<=126:=by
 have go:∀{l:List Pt},MkT c l->(l.length:Int)+ZbC (l.map λp=>Rx.nE p.e)<=105:=λ{l} h=>by
  have:=Ze0 (λp:Pt=>Rx.nE p.e) 20 l (λp hp=>(h.all p hp).nE)
  have:=h.len
  omega
 have e0:=nE0
 cases h with
 | send a n l h=>have:=go h;simp only[wA];omega
 | set s hs a n l h=>have:=go h;simp only[wA];omega
 | let_ s hs e h=>have:=ZBX h.len (by omega);simp[wA,ZbC];omega
theorem Zkx{t:T}(h:t.nodes.length<=10000):t.light=true:=by unfold T.light;exact decide_eq_true h
theorem Zgk:T0.size=1/\T0.light=true/\T0.same T0=true:=by decide +kernel
theorem MkR.size{n:Nat}{r:Ru}(h:MkR n r):r.t.light=true/\0<=r.t.size/\r.t.size<=26:=by
 rcases h.kind with⟨_,_,h,_⟩|⟨⟨_,_,h⟩,_⟩
 ·have hl:=Zkx (t:=r.t) (by omega)
  refine⟨hl,?_⟩
  unfold T.size;rw[hl];simp;omega
 ·rw[h,Zgk.1];exact⟨Zgk.2.1,by omega,by omega⟩
theorem MkR.w{n:Nat}{r:Ru}(h:MkR n r):wR r<=405:=by
 obtain⟨h1,h2,h3⟩:=h.size
 have:=Ze0 wA 126 r.acts (λa ha=>(h.all a ha).w)
 have:=h.len
 have hi:Zfl r.t.size 20000<=26:=by unfold Zfl;split <;> omega
 unfold wR;rw[h1];simp;omega
theorem MkS.w{n i:Nat}{x:Sta}(h:MkS n i x):wS x<=2025:=by
 have:=Ze0 wR 405 x.rules (λa ha=>(h.all a ha).w)
 have:=h.len
 unfold wS;omega
theorem MkC.state{s:Sc}(h:MkC s){x:Sta}(hx:x∈s.states):∃i,s.states[i]?=some x/\MkS s.states.length i x:=by
 obtain⟨i,hi⟩:=List.getElem?_of_mem hx
 exact⟨i,hi,h.all i x hi⟩
theorem MkC.weight{s:Sc}(h:MkC s):s.weight<=8200:=by
 have:=Ze0 wS 2025 s.states (λx hx=>by obtain⟨i,_,h⟩:=h.state hx;exact h.w)
 have:=h.len
 have:=h.vlen
 unfold Sc.weight;omega
theorem MkC.light{s:Sc}(h:MkC s):s.light=true:=by unfold Sc.light;exact decide_eq_true (by have:=h.weight;omega)
theorem ZsJ(s:ByteArray):eqS s s=true:=by unfold eqS;simp
theorem Zry:∀j < 6,∀i < 6,j≠i->eqS ((Zgj++Zdi).getD j .empty) ((Zgj++Zdi).getD i .empty)=false:=by decide +kernel
theorem Zw2:∀j < 4,∀i < 4,j≠i->eqS (Zv0.getD j .empty) (Zv0.getD i .empty)=false:=by decide +kernel
theorem Zcf{l:List ByteArray}{i:Nat}{s:ByteArray}(h:l[i]?=some s):l.getD i .empty=s:=by rw[List.getD_eq_getElem?_getD,h];rfl
theorem Zv3{α:Type}{p:α->Bool}:∀{l:List α} {i:Nat} {x:α},l[i]?=some x->p x=true->(∀j y,j < i->l[j]?=some y->p y=false)->l.find? p=some x
 | [],i,x,h,_,_=>by simp at h
 | a::l,0,x,h,hp,_=>by
  simp at h;subst h
  rw[List.find?_cons_of_pos hp]
 | a::l,i+1,x,h,hp,hn=>by
  rw[List.find?_cons_of_neg (by rw[hn 0 a (by omega) rfl];simp)]
  exact Zv3 (l:=l) (i:=i) (by simpa using h) hp (λj y hj hy=>hn (j+1) y (by omega) (by simpa using hy))
theorem MkC.kind{s:Sc}(h:MkC s){i:Nat}{name:ByteArray}(hi:(Zgj++Zdi)[i]?=some name):Zba s name=(decide (i < 4),true):=by
 have oM:i < 6:=(zA0 hi).1
 have aQ:=h.vlen
 have hv:s.vars[i]?=some (s.vars[i]'(by omega)):=zA3 (by omega)
 have hm:=h.vall i _ hv
 generalize s.vars[i]'(by omega)=v at hv hm
 have hn:v.s=name:=Option.some.inj (hm.name.symm.trans hi)
 have hf:(s.vars.find? λv=>eqS v.s name)=some v:=Zv3 hv (by rw[hn];exact ZsJ _) (λj y hj hy=>by
  have hy':=(h.vall j y hy).name
  have:=Zry j (by omega) i oM (by omega)
  rwa [Zcf hy',Zcf hi]at this)
 unfold Zba
 rw[hf]
 rcases hm.kind with⟨h4,hb,_⟩|⟨h4,hb,_⟩
 ·rw[decide_eq_true h4];show(v.b,true)=_;rw[hb]
 ·rw[decide_eq_false (by omega)];show(v.b,true)=_;rw[hb]
theorem MkC.num{s:Sc}(h:MkC s){name:ByteArray}(hn:name∈Zgj):Zba s name=(true,true):=by
 obtain⟨i,hi⟩:=List.getElem?_of_mem hn
 have aG:i < 4:=(zA0 hi).1
 have:=h.kind (i:=i) (name:=name) (by rw[zA5 aG];exact hi)
 rwa [decide_eq_true aG]at this
theorem MkC.txt{s:Sc}(h:MkC s){name:ByteArray}(hn:name∈Zdi):Zba s name=(false,true):=by
 obtain⟨i,hi⟩:=List.getElem?_of_mem hn
 have aG:i < 2:=(zA0 hi).1
 have:=h.kind (i:=4+i) (name:=name) (by rw[zA4 (show Zgj.length<=4+i by show 4<=_;omega)];show Zdi[4+i - 4]?=_;rw[show 4+i - 4=i by omega];exact hi)
 rwa [decide_eq_false (by omega)]at this
theorem MkC.numbers{s:Sc}(h:MkC s){c:Int}{n:Nat}{e:E}(he:MkE c n e):Za0 s e=true:=by
 unfold Za0
 rw[Bool.not_eq_true',List.any_eq_false]
 intro x hx
 rw[h.num (he.vars x hx)];simp
theorem MkC.finds{s:Sc}(h:MkC s){i:Nat}{name:ByteArray}(hi:i < s.states.length)(hn:Zv0[i]?=some name):Zdu s name=true:=by
 unfold Zdu
 rw[h.light,Bool.and_true,List.any_eq_true]
 refine⟨s.states[i],List.getElem_mem _,?_⟩
 have:=(h.all i _ (zA3 hi)).name
 rw[hn]at this
 rw[<-Option.some.inj this];exact ZsJ _
theorem ZbI{n a b:Int}:ZaX n a b=true↔a<=n/\n<=b:=by
 unfold ZaX
 rw[zA7,decide_eq_true_iff,decide_eq_true_iff]
theorem MkC.whole{s:Sc}(h:MkC s):ZdP s=0:=by
 have h1:ZaX s.n 2 256=true:=ZbI.2 (by have:=h.n;omega)
 have h2:ZaX s.states.length 1 24=true:=ZbI.2 (by have:=h.len;omega)
 have h3:decide (s.vars.length > 12)=false:=decide_eq_false (by have:=h.vlen;omega)
 simp[ZdP,ZaG,h1,h2,h3]
theorem Zax:ByteArray.empty.size=0:=rfl
theorem MkC.var{s:Sc}(h:MkC s){i:Nat}{v:Va}(hv:s.vars[i]?=some v):ZaU s i v=0:=by
 have hm:=h.vall i v hv
 have oM:i < 6:=by have:=(zA0 hv).1;have:=h.vlen;omega
 have h1:ZbQ v.s=true:=by
  have bL:=zA2 hm.name
  rcases List.mem_append.1 bL with hx|hx
  ·exact Zmd _ hx
  ·exact Zpt _ hx
 have h2:Zd1 v=true:=by
  unfold Zd1
  rcases hm.kind with⟨_,hb,ht,hx⟩|⟨_,hb,ht,hx⟩
  ·rw[hb,ht,hx];rfl
  ·rw[hb,hx]
   simp;omega
 have h3:((s.vars.take i).any λx=>eqS x.s v.s)=false:=by
  rw[List.any_eq_false]
  intro x hx
  obtain⟨j,hj⟩:=List.getElem?_of_mem hx
  have kK:j < i:=by have:=(zA0 hj).1;rw[List.length_take]at this;omega
  rw[List.getElem?_take_of_lt kK]at hj
  have:=Zry j (by omega) i oM (by omega)
  rw[Zcf (h.vall j x hj).name,Zcf hm.name]at this
  rw[this];simp
 simp[ZaU,ZaG,h1,h2,h3]
theorem MkC.stateOk{s:Sc}(h:MkC s){i:Nat}{x:Sta}(hx:s.states[i]?=some x):ZcS s i x=0:=by
 have hm:=h.all i x hx
 have vn:i < 4:=by have:=(zA0 hx).1;have:=h.len;omega
 have h1:ZbQ x.s=true:=Zpu _ (zA2 hm.name)
 have h2:decide (x.rules.length > 12)=false:=decide_eq_false (by have:=hm.len;omega)
 have h3:((s.states.take i).any λy=>eqS y.s x.s)=false:=by
  rw[List.any_eq_false]
  intro y hy
  obtain⟨j,hj⟩:=List.getElem?_of_mem hy
  have kK:j < i:=by have:=(zA0 hj).1;rw[List.length_take]at this;omega
  rw[List.getElem?_take_of_lt kK]at hj
  have:=Zw2 j (by omega) i vn (by omega)
  rw[Zcf (h.all j y hj).name,Zcf hm.name]at this
  rw[this];simp
 simp[ZcS,ZaG,h1,h2,h3]
theorem Zum(t:T):0<=t.groups:=by unfold T.groups;split <;> omega
theorem Zme(r:Ru) : -1<=Zbv r:=by
 have:=Zum r.t
 unfold Zbv;split
 ·omega
 ·split <;> omega
theorem ZAO{r:Ru}(h:r.bg=false/\r.en=false/\r.t=T0):Ztt r=false:=by
 unfold Ztt;rw[h.1,h.2.1,h.2.2,Zgk.2.1,Zgk.2.2];rfl
theorem MkR.fields{n:Nat}{r:Ru}(h:MkR n r):ZaW r=true:=by
 unfold ZaW
 rcases h.kind with⟨hk,_,_,hs,hn⟩|⟨hx,⟨hk,h1,h2,hn⟩|⟨hk,hs,hn⟩|⟨hk,hs,h1,h2⟩⟩
 ·rw[hk,hs,hn];rfl
 ·rw[ZAO hx,hk,hn]
  have:ZaX r.s.size 1 64=true:=ZbI.2 (by omega)
  simp[this]
 ·rw[ZAO hx,hk,hs,hn];rfl
 ·rw[ZAO hx,hk,hs]
  have:ZaX r.n 1 1000=true:=ZbI.2 (by omega)
  simp[this,Zax]
theorem MkR.sizeR{n:Nat}{r:Ru}(h:MkR n r):Rx.sizeR r<=26:=by
 unfold Rx.sizeR;split
 ·exact h.size.2.2
 ·omega
theorem MkS.sizes{n i:Nat}{x:Sta}(h:MkS n i x)(k:Nat):ZbC ((x.rules.take k).map Rx.sizeR)<=130:=by
 have:=Ze0 Rx.sizeR 26 (x.rules.take k) (λr hr=>(h.all r (List.mem_of_mem_take hr)).sizeR)
 have h1:=h.len
 rw[List.length_take]at this
 omega
theorem MkC.totals{s:Sc}(h:MkC s)(i k:Nat):Rx.totals s i k<=600:=by
 have h0:=h.len
 have h1:=Ze0 (λx:Sta=>ZbC (x.rules.map Rx.sizeR)) 130 (s.states.take i) (λx hx=>by
  obtain⟨j,_,hm⟩:=h.state (List.mem_of_mem_take hx)
  have:=hm.sizes x.rules.length
  rwa [List.take_length]at this)
 rw[List.length_take]at h1
 unfold Rx.totals
 cases hx:s.states[i]? with
 | none=>show _+0<=_;omega
 | some x=>
  have hi:=(zA0 hx).1
  have:=(h.all i x hx).sizes (k+1)
  show _+ZbC ((x.rules.take (k+1)).map Rx.sizeR)<=_
  omega
theorem Zky:∀s∈Zv0,s.size=1:=by decide +kernel
theorem MkC.rule{s:Sc}(h:MkC s){r:Ru}(hr:MkR s.states.length r){t:Int}(ht:t<=600):Zcl s r t=0:=by
 have h1:=hr.fields
 have h2:decide (r.acts.length > 8)=false:=decide_eq_false (by have:=hr.len;omega)
 have h3:(r.k == 1&&(!(r.t.check == 0)||decide (t > 600)))=false:=by
  rw[decide_eq_false (show ¬t > 600 by omega),Bool.or_false]
  rcases hr.kind with⟨_,hc,_⟩|⟨_,⟨hk,_⟩|⟨hk,_⟩|⟨hk,_⟩⟩
  ·rw[hc];simp
  ·rw[hk];rfl
  ·rw[hk];rfl
  ·rw[hk];rfl
 have h4:(if r.go.size=0 then !ZaX r.code 0 255 else !Zdu s r.go||!(r.code == 0))=false:=by
  rcases hr.go with⟨⟨i,hi,hn⟩,hc⟩|⟨hg,hc⟩
  ·rw[if_neg (by rw[Zky _ (zA2 hn)];omega),h.finds hi hn,hc];rfl
  ·rw[hg,if_pos Zax,ZbI.2 hc];rfl
 unfold Zcl
 rw[h1,h2,h3,h4];rfl
theorem MkC.action{s:Sc}(h:MkC s){r:Ru}{a:Ac}(ha:MkA (Zbv r) a):ZaF s r a=0:=by
 have hz:=Zul
 cases ha with
 | send a n l hl=>
  have h1:decide (l.length > 16)=false:=decide_eq_false (by have:=hl.len;omega)
  have h2:ZaX 1 1 3=true:=by decide
  unfold ZaF
  simp[ZaG,h1,h2,hz,Zax]
 | set t ht a n l hl=>
  have h1:decide (l.length > 16)=false:=decide_eq_false (by have:=hl.len;omega)
  have h2:ZaX 2 1 3=true:=by decide
  unfold ZaF
  simp[ZaG,h1,h2,hz,h.txt ht]
 | let_ t ht e he=>
  have h2:ZaX 3 1 3=true:=by decide
  have h3:=he.clean (by omega)
  have h4:=h.numbers he
  have h5:decide (e.most > Zbv r)=false:=decide_eq_false (by have:=he.most (Zme r);omega)
  unfold ZaF
  simp only[ZaG,h2,h3,h4,h5,h.num ht]
  rfl
def Zyy(l:List Pt)(i:Nat):Bool:=match l[i - 1]? with
 | some q=>q.k == 1
 | none=>false
theorem Ziq(s:Sc)(r:Ru)(l:List Pt)(i:Nat)(p:Pt):ZcJ s r l i p=ZaG [(307,!ZaY p||(decide (i > 0)&&(p.k == 1&&Zyy l i))),(308,(p.k == 2&&!(Zba s p.s).2)||(p.k == 4&&!Za0 s p.e)),(309,(p.k == 3&&decide (p.g > Zbv r))||(p.k == 4&&decide (p.e.most > Zbv r)))]:=rfl
theorem MkC.part{s:Sc}(h:MkC s){r:Ru}{l:List Pt}(hl:MkT (Zbv r) l){i:Nat}{p:Pt}(hp:l[i]?=some p):ZcJ s r l i p=0:=by
 have hz:=Zul
 have h0:(decide (i > 0)&&(p.k == 1&&Zyy l i))=false:=by
  cases i with
  | zero=>rfl
  | succ i=>
   unfold Zyy
   rw[Nat.add_sub_cancel]
   cases hq:l[i]? with
   | none=>simp
   | some q=>
    have:=hl.ll i q p hq hp
    simp only[Bool.and_eq_false_iff]
    refine .inr ?_
    by_cases h1:p.k=1
    ·refine .inr ?_
     simp
     exact λh2=>this h2 h1
    ·refine .inl ?_
     simpa using h1
 have hm:=hl.all p (zA2 hp)
 rw[Ziq,h0]
 cases hm with
 | lit t ht=>
  have h1:ZaY ⟨1,t,0,E0⟩=true:=by simp[ZaY,hz];omega
  rw[h1];rfl
 | var t ht=>
  have h1:ZaY ⟨2,t,0,E0⟩=true:=by
   have:ZbQ t=true:=by
    rcases ht with ht|ht
    ·exact Zmd _ ht
    ·exact Zpt _ ht
   simp[ZaY,hz,this]
  have h2:(Zba s t).2=true:=by
   rcases ht with ht|ht
   ·rw[h.num ht]
   ·rw[h.txt ht]
  rw[h1]
  simp[ZaG,h2]
 | cap g hg=>
  have h1:ZaY ⟨3,.empty,g,E0⟩=true:=by simp[ZaY,hz,Zax];omega
  have h2:decide (g > Zbv r)=false:=decide_eq_false (by omega)
  rw[h1]
  simp only[ZaG,h2];rfl
 | clc e he=>
  have h1:ZaY ⟨4,.empty,0,e⟩=true:=by simp[ZaY,he.clean,Zax]
  have h2:decide (e.most > Zbv r)=false:=decide_eq_false (by have:=he.most (Zme r);omega)
  have h3:=h.numbers he
  rw[h1]
  simp only[ZaG,h2,h3];rfl
theorem MkC.at0{s:Sc}(h:MkC s):∀p∈s.places,atS s p=0:=by
 intro p hp
 have hT:∀{r:Ru} {a:Ac},MkA (Zbv r) a->∀{n:Nat} {q:Pt},a.parts[n]?=some q->ZcJ s r a.parts n q=0:=λ{r a} ha {n q} hq=>by
  cases ha with
  | send _ _ l hl=>exact h.part hl hq
  | set _ _ _ _ l hl=>exact h.part hl hq
  | let_ _ _ e _=>simp at hq
 rcases ZfF s p hp with⟨i,hi,v,hv⟩|⟨hv,hs|⟨i,hi,x,hx,hr|⟨k,hk,r,hr,ha|⟨j,hj,a,ha,hq|⟨n,hn,q,hq⟩⟩⟩⟩⟩
 ·have e:atS s p=ZaU s i v:=by
   unfold atS
   rw[if_pos (by omega),show p.v.toNat=i by omega,hv]
  rw[e];exact h.var hv
 all_goals have hv':¬p.v ≥ 0:=by omega
 ·unfold atS
  rw[if_neg hv',if_pos hs];exact h.whole
 all_goals
  have hs':¬p.s < 0:=by omega
  have iU:p.s.toNat=i:=by omega
  have hm:=h.all i x hx
 ·have e:atS s p=ZcS s i x:=by
   unfold atS
   rw[if_neg hv',if_neg hs',iU,hx]
   exact if_pos hr
  rw[e];exact h.stateOk hx
 all_goals
  have hr':¬p.r < 0:=by omega
  have fP:p.r.toNat=k:=by omega
  have hR:=hm.all r (zA2 hr)
 ·have e:atS s p=Zcl s r (Rx.totals s i k):=by
   unfold atS
   rw[if_neg hv',if_neg hs',iU,hx]
   show(if p.r < 0 then _ else _)=_
   rw[if_neg hr',fP,hr]
   exact if_pos ha
  rw[e];exact h.rule hR (h.totals i k)
 all_goals
  have ha':¬p.a < 0:=by omega
  have jD:p.a.toNat=j:=by omega
  have hA:=hR.all a (zA2 ‹r.acts[j]?=some a›)
 ·have e:atS s p=ZaF s r a:=by
   unfold atS
   rw[if_neg hv',if_neg hs',iU,hx]
   show(if p.r < 0 then _ else _)=_
   rw[if_neg hr',fP,hr]
   show(if p.a < 0 then _ else _)=_
   rw[if_neg ha',jD,‹r.acts[j]?=some a›]
   exact if_pos hq
  rw[e];exact h.action hA
 ·have e:atS s p=ZcJ s r a.parts n q:=by
   unfold atS
   rw[if_neg hv',if_neg hs',iU,hx]
   show(if p.r < 0 then _ else _)=_
   rw[if_neg hr',fP,hr]
   show(if p.a < 0 then _ else _)=_
   rw[if_neg ha',jD,‹r.acts[j]?=some a›]
   show(if p.p < 0 then _ else _)=_
   rw[if_neg (by omega),show p.p.toNat=n by omega,hq]
  rw[e];exact hT hA hq
theorem MkC.problems{s:Sc}(h:MkC s):s.problems=[]:=by
 unfold Sc.problems
 rw[List.filterMap_eq_nil_iff]
 intro p hp
 rw[if_pos (h.at0 p hp)]
theorem MkC.check{s:Sc}(h:MkC s):s.check=(top,0):=by
 unfold Sc.check
 rw[if_pos h.light,h.problems]
structure F26 (t:T)(l:List T):Prop where
 f:F t l
 n:(t.k=4/\t.nodes.length+szL l<=26)\/t.nodes.length+szL l<=25
theorem F26.done{t:T}(h:F26 t []):t.check=0/\t.nodes.length<=26:=by
 refine⟨h.f.done,?_⟩
 have:szL []=0:=rfl
 rcases h.n with h|h <;> omega
theorem F26.step{t x:T}{l:List T}(h:F26 t (x::l))(a:Option Addr)(c:Nat):F26 (ZfG 4 a c (Za6 4 t++Za6 4 x)) l:=by
 refine⟨h.f.step a c,?_⟩
 have hn:=h.n
 rw[ZeZ]at hn
 have ht:=Zku t
 have hx:=Zku x
 have e1:szL (Za6 4 t)<=if t.k=4 then szL t.subs else t.nodes.length:=by
  unfold Za6
  split
  ·exact Nat.le_refl _
  ·rw[if_neg (by omega),Zbq];exact Nat.le_refl _
 have e2:szL (Za6 4 x)<=x.nodes.length:=by
  unfold Za6
  split
  ·omega
  ·rw[if_neg (by omega),Zbq];exact Nat.le_refl _
 have e3:szL (Za6 4 t++Za6 4 x)=szL (Za6 4 t)+szL (Za6 4 x):=ZaE _ _
 generalize Za6 4 t++Za6 4 x=L at e3
 have hA:szL L<=t.nodes.length+x.nodes.length/\(t.k=4->szL L+1<=t.nodes.length+x.nodes.length):=by
  refine⟨?_,λh4=>?_⟩
  ·split at e1 <;> omega
  ·rw[if_pos h4]at e1;omega
 match L,hA with
 | [],_=>
  refine .inr ?_
  show T1.nodes.length+_<=_
  have:T1.nodes.length=1:=rfl
  rcases hn with⟨_,hn⟩|hn <;> omega
 | [y],hA=>
  refine .inr ?_
  show y.nodes.length+_<=_
  rw[Zbq]at hA
  rcases hn with⟨h4,hn⟩|hn
  ·have:=hA.2 h4;omega
  ·omega
 | y::z::r,hA=>
  refine .inl ⟨rfl,?_⟩
  rw[Zku]
  show 1+szL (y::z::r)+_<=_
  rcases hn with⟨h4,hn⟩|hn
  ·have:=hA.2 h4;omega
  ·omega
theorem F26.start{i u g}{t:T}{l:List T}(h:J i (t::l) u g)(hi:i<=25):F26 t l:=⟨F.start h hi,.inr (by have:=h.sz;rw[ZeZ]at this;omega)⟩
theorem F26.leaf{t:T}(h1:F t [])(h2:t.nodes.length=1):F26 t []:=⟨h1,.inr (by have:szL []=0:=rfl;omega)⟩
structure PE (ts:List E)(i:Nat):Prop where
 all:∀x∈Zap ts,okN 9 x
 sz:(Zap ts).length<=i
theorem ZcA(t:E):Zap [t]=t.nodes:=by simp[Zap]
theorem PE.zero:PE [] 0:=⟨by simp[Zap],by simp[Zap]⟩
theorem PE.skip{ts i}(h:PE ts i):PE ts (i+1):=⟨h.all,by have:=h.sz;omega⟩
theorem PE.push{ts i}{t:E}(h:PE ts i)(ht:MkE 9 1 t):PE (ts++[t]) (i+1):=by
 refine⟨λx hx=>?_,?_⟩
 ·rw[ZaP,ZcA]at hx
  rcases List.mem_append.1 hx with hx|hx
  ·exact h.all x hx
  ·exact ht.all x hx
 ·rw[ZaP,ZcA,zA1]
  have:=h.sz;have:=ht.len;omega
theorem PE.neg{r:List E}{x:E}{i:Nat}(h:PE (r++[x]) i)(hk:x.k≠8)(a:Option Addr)(d:Nat):PE (r++[ZAo a d x]) (i+1):=by
 have h1:=h.all;have h2:=h.sz
 rw[ZaP,ZcA]at h1 h2
 rw[zA1]at h2
 have hm:MkE 9 (x.nodes.length+1) (ZAo a d x):=Zzh ⟨λz hz=>h1 z (List.mem_append_right _ hz),Nat.le_refl _⟩ hk
 refine⟨λz hz=>?_,?_⟩
 ·rw[ZaP,ZcA]at hz
  rcases List.mem_append.1 hz with hz|hz
  ·exact h1 z (List.mem_append_left _ hz)
  ·exact hm.all z hz
 ·rw[ZaP,ZcA,zA1]
  have:=hm.len;omega
theorem PE.op{r:List E}{x y:E}{i:Nat}(h:PE (r++[x,y]) i){k:Int}(hk:2<=k/\k<=7)(a:Option Addr)(d:Nat):PE (r++[opE k a d x y]) (i+1):=by
 have h1:=h.all;have h2:=h.sz
 rw[ZaP,show Zap [x,y]=x.nodes++y.nodes by simp[Zap]]at h1 h2
 rw[zA1,zA1]at h2
 have hm:MkE 9 (x.nodes.length+y.nodes.length+1) (opE k a d x y):=Zzi hk ⟨λz hz=>h1 z (List.mem_append_right _ (List.mem_append_left _ hz)),Nat.le_refl _⟩ ⟨λz hz=>h1 z (List.mem_append_right _ (List.mem_append_right _ hz)),Nat.le_refl _⟩
 refine⟨λz hz=>?_,?_⟩
 ·rw[ZaP,ZcA]at hz
  rcases List.mem_append.1 hz with hz|hz
  ·exact h1 z (List.mem_append_left _ hz)
  ·exact hm.all z hz
 ·rw[ZaP,ZcA,zA1]
  have:=hm.len;omega
theorem Zmf(t:E):1<=t.nodes.length:=by rw[ZbL,List.length_cons];omega
theorem ZeA(l:List E):l.length<=(Zap l).length:=by
 induction l with
 | nil=>simp
 | cons t l ih=>
  have:=Zmf t
  simp only[Zap,List.length_cons,zA1];omega
structure QE (t:E)(l:List E)(b:Nat):Prop where
 all:∀x∈t.nodes,okN 9 x
 alls:∀x∈Zap l,okN 9 x
 sz:t.nodes.length+(Zap l).length+l.length<=b
theorem QE.start{t:E}{l:List E}{i:Nat}(h:PE (t::l) i):QE t l (2*i):=by
 have h1:=h.all;have h2:=h.sz
 simp only[Zap,zA1]at h1 h2
 have:=ZeA l
 exact⟨λx hx=>h1 x (List.mem_append_left _ hx),λx hx=>h1 x (List.mem_append_right _ hx),by omega⟩
theorem QE.step{t x:E}{l:List E}{b:Nat}(h:QE t (x::l) b)(a:Option Addr)(d:Nat):QE (opE 2 a d t x) l b:=by
 have h1:=h.alls;have h2:=h.sz
 simp only[Zap,zA1,List.length_cons]at h1 h2
 have hm:MkE 9 (t.nodes.length+x.nodes.length+1) (opE 2 a d t x):=Zzi (by omega) ⟨h.all,Nat.le_refl _⟩ ⟨λz hz=>h1 z (List.mem_append_left _ hz),Nat.le_refl _⟩
 exact⟨hm.all,λz hz=>h1 z (List.mem_append_right _ hz),by have:=hm.len;omega⟩
theorem QE.done{t:E}{b:Nat}(h:QE t [] b):MkE 9 b t:=⟨h.all,by have:=h.sz;omega⟩
structure BoE (c:Int)(e u:E):Prop where
 all:∀x∈u.nodes,okN c x
 len:u.nodes.length<=e.nodes.length
 k8:u.k=8↔e.k=8
theorem ZsK{c:Int}:∀{l r:List E},l.length=r.length->(∀(i:Nat)(x y:E),l[i]?=some x->r[i]?=some y->BoE c x y)->(∀z∈Zap r,okN c z)/\(Zap r).length<=(Zap l).length/\Zkq r=Zkq l
 | [],[],_,_=>⟨by simp[Zap],Nat.le_refl _,rfl⟩
 | [],_::_,h,_=>by simp at h
 | _::_,[],h,_=>by simp at h
 | x::l,y::r,h,hb=>by
  have h0:=hb 0 x y rfl rfl
  obtain⟨h1,h2,_⟩:=ZsK (l:=l) (r:=r) (by simpa using h) (λi x' y' hx hy=>hb (i+1) x' y' (by simpa using hx) (by simpa using hy))
  refine⟨λz hz=>?_,?_,?_⟩
  ·simp only[Zap]at hz
   rcases List.mem_append.1 hz with hz|hz
   ·exact h0.all z hz
   ·exact h1 z hz
  ·simp only[Zap,zA1];have:=h0.len;omega
  ·show(y.k == 8)=(x.k == 8)
   rw[Bool.eq_iff_iff];simpa using h0.k8
theorem Zw3{c:Int}{k:Int}{x:Nat}{s:ByteArray}{g:Int}{a a':Option Addr}{d d':Nat}{l r:List E}(h:okN 9 (.node k x s g a d l))(hk:¬(k=10/\g > c))(hl:l.length=r.length)(hb:∀(i:Nat)(x y:E),l[i]?=some x->r[i]?=some y->BoE c x y):BoE c (.node k x s g a d l) (.node k x s g a' d' r):=by
 obtain⟨h1,h2,h3⟩:=ZsK hl hb
 refine⟨λz hz=>?_,?_,Iff.rfl⟩
 ·simp only[E.nodes,List.mem_cons]at hz
  rcases hz with rfl|hz
  ·refine⟨?_,h.2.1,λe=>?_⟩
   ·have e1:=h.1
    simp only[E.right,E.k,E.s,E.x,E.g,E.subs]at e1 ⊢
    rw[<-hl,h3];exact e1
   ·have e:k=10:=e
    show g<=c
    omega
  ·exact h1 z hz
 ·simp only[E.nodes,List.length_cons];omega
theorem Zzk{c:Int}{e:E}{s:ByteArray}(hs:s∈Zgj)(hk:e.k=10):BoE c e (ZAn s):=by
 have h:=Zv2 (c:=c) hs
 refine⟨h.all,Nat.le_trans h.len (Zmf e),?_⟩
 rw[hk]
 show(9:Int)=8↔_
 omega
theorem BoE.toMk{c:Int}{n:Nat}{e u:E}(h:BoE c e u)(he:e.nodes.length<=n):MkE c n u:=⟨h.all,Nat.le_trans h.len he⟩
end Go.Rx
namespace Go.Rx
open Go Go.Eng Go.RowKit
set_option maxRecDepth 100000
mutual
def T.er:T->T
 | .node k s0 s1 s2 s3 mn mx _ _ l=>.node k s0 s1 s2 s3 mn mx none 0 (erL l)
def erL:List T->List T
 | []=>[]
 | t::l=>t.er::erL l
end
theorem ZsL:∀l:List T,erL l=l.map T.er
 | []=>rfl
 | t::l=>by simp only[erL,List.map_cons,ZsL l]
@[simp] theorem ZAp (t:T):t.er.k=t.k:=by cases t;rfl
@[simp] theorem ZCE (t:T):t.er.s0=t.s0:=by cases t;rfl
@[simp] theorem ZCF (t:T):t.er.s1=t.s1:=by cases t;rfl
@[simp] theorem ZCG (t:T):t.er.s2=t.s2:=by cases t;rfl
@[simp] theorem ZCH (t:T):t.er.s3=t.s3:=by cases t;rfl
@[simp] theorem ZCI (t:T):t.er.mn=t.mn:=by cases t;rfl
@[simp] theorem ZCJ (t:T):t.er.mx=t.mx:=by cases t;rfl
@[simp] theorem Zv4 (t:T):t.er.subs=t.subs.map T.er:=by cases t;simp only[T.er,T.subs,ZsL]
mutual
theorem Zir:∀t:T,t.er.nodes=t.nodes.map T.er
 | .node k s0 s1 s2 s3 mn mx a c l=>by
  simp only[T.er,T.nodes,List.map_cons]
  rw[Zpw l]
theorem Zpw:∀l:List T,Zaz (erL l)=(Zaz l).map T.er
 | []=>rfl
 | t::l=>by simp only[erL,Zaz,List.map_append,Zir t,Zpw l]
end
theorem ZA9(t:T)(k:Int):t.er.has k=t.has k:=by
 unfold T.has;rw[Zv4,List.any_map];congr 1;funext x;simp
theorem Zw4(t:T):t.er.right=t.right:=by
 unfold T.right T.setZ
 simp only[ZA9,ZAp,ZCE,ZCF,ZCG,ZCH,ZCI,ZCJ,Zv4,List.length_map]
theorem Zgl(t:T):t.er.light=t.light:=by unfold T.light;rw[Zir,List.length_map]
theorem ZBa(l:List T):(l.map T.er).all T.right=l.all T.right:=by
 rw[List.all_map];congr 1;funext x;exact Zw4 x
theorem Zw5(t:T):t.er.clean=t.clean:=by unfold T.clean;rw[Zgl,Zir,ZBa]
theorem ZsM(t:T):t.er.size=t.size:=by unfold T.size;rw[Zgl,Zir,List.length_map]
theorem Zpx(t:T):t.er.groups=t.groups:=by
 unfold T.groups;rw[Zgl,Zir,List.countP_map]
 have:((λx:T=>x.k == 6)∘T.er)=λx:T=>x.k == 6:=by funext x;simp
 rw[this]
mutual
theorem Zzl:∀t:T,t.er.pos=t.pos
 | .node k s0 s1 s2 s3 mn mx a c l=>by simp only[T.er,T.pos,Zv5 l]
theorem Zv5:∀l:List T,ZeW (erL l)=ZeW l
 | []=>rfl
 | t::l=>by simp only[erL,ZeW,Zzl t,Zv5 l]
end
theorem ZmZ(t:T):t.er.positions=t.positions:=by unfold T.positions;rw[Zgl,Zzl]
theorem Zw6(t:T):t.er.check=t.check:=by unfold T.check;rw[Zw5,ZsM,ZmZ,Zpx]
def T.caps(t:T):Prop:=∀x∈t.nodes,x.subs.length<=x.c
theorem Zun{k s0 s1 s2 s3 mn mx:Int}{a:Option Addr}{c:Nat}{l:List T}(h:l.length<=c)(hl:∀x∈l,x.caps):(T.node k s0 s1 s2 s3 mn mx a c l).caps:=by
 intro y hy
 rw[ZcH]at hy
 rcases List.mem_cons.1 hy with rfl|hy
 ·exact h
 ·obtain⟨x,hx,hy⟩:∃x∈l,y∈x.nodes:=by
   have:∀l:List T,y∈Zaz l->∃x∈l,y∈x.nodes:=λl=>by
    induction l with
    | nil=>intro h;simp[Zaz]at h
    | cons x l ih=>
     intro h
     simp only[Zaz,List.mem_append]at h
     rcases h with h|h
     ·exact⟨x,by simp,h⟩
     ·obtain⟨z,hz,h⟩:=ih h
      exact⟨z,by simp[hz],h⟩
   exact this l hy
  exact hl x hx y hy
theorem Zzm{k s0 s1 s2 s3 mn mx:Int}{a a':Option Addr}{c c':Nat}{l l':List T}(h:l.map T.er=l'.map T.er):(T.node k s0 s1 s2 s3 mn mx a c l).er=(T.node k s0 s1 s2 s3 mn mx a' c' l').er:=by
 simp only[T.er,ZsL,h]
end Go.Rx
namespace Go.Rx
open Go Go.Eng Go.RowKit
def Old(m:Mem)(b:Nat):Prop:=¬m.free b
noncomputable def nw(m m':Mem):Mem:=⟨(m'.off (Old m)).c,λ_=>none⟩
theorem Zpy(m m':Mem):(nw m m').le m':=⟨(Mem.off_le m' (Old m)).c,λ_ _ h=>by cases h⟩
theorem Zdj{m m':Mem}(h:m.le m'){b:Nat}(hf:m'.free b):m.free b:=λo=>by
 cases he:m b o with
 | none=>rfl
 | some v=>have:=h _ _ _ he;rw[hf o]at this;cases this
theorem Zkz{m m':Mem}(h:m.le m'){b:Nat}(hf:m'.k b=none):m.k b=none:=by
 cases he:m.k b with
 | none=>rfl
 | some v=>have:=h.k _ _ he;rw[hf]at this;cases this
theorem Zrz{m m':Mem}{b:Nat}(h:¬m.free b):(nw m m').free b:=λo=>Mem.off_free (m:=m') (Y:=Old m) h o
theorem Zyz{m m':Mem}{b:Nat}(h:m.free b)(o:Nat):nw m m' b o=m' b o:=Mem.off_at (m:=m') (Y:=Old m) (λk=>k h) o
theorem ZdF{m0 m m' m'':Mem}(h1:m0.le m)(h2:m'.le m''):(nw m m').le (nw m0 m''):=⟨λb o v hv=>by
 have hf:m.free b:=Classical.byContradiction λhn=>by rw[Zrz hn]at hv;cases hv
 rw[Zyz hf]at hv;rw[Zyz (Zdj h1 hf)];exact h2 _ _ _ hv,λb e he=>by cases he⟩
theorem Zn6{m m':Mem}{a:Option Addr}{cs:List Value}(h:rowRd m' a cs)(hf:cs=[]\/∀b o,a=some ⟨b,o,none⟩->m.free b):rowRd (nw m m') a cs:=by
 rcases hf with hf|hf
 ·exact .inl hf
 rcases h with h|⟨b,o,ha,h⟩
 ·exact .inl h
 ·exact .inr ⟨b,o,ha,λj v hj=>by rw[Zyz (hf b o ha)];exact h j v hj⟩
theorem Zuo{m m':Mem}{Y:Nat->Prop}(h:m.le m')(hf:∀b,Y b->m.free b/\m.k b=none):m.le (m'.off Y):=⟨λb o v hv=>by
 rw[Mem.off_at (λhy=>by rw[(hf b hy).1 o]at hv;cases hv)];exact h _ _ _ hv,λb e he=>by
 rw[Mem.off_k (λhy=>by rw[(hf b hy).2]at he;cases he)];exact h.k _ _ he⟩
structure Each {α β:Type}(cs:β->List Value)(Q:α->β->Mem->Prop)(m m':Mem)(L:List α)(a:Option Addr)(c:Nat)(L':List β)(μ:Nat->Mem):Prop where
 len:L'.length=L.length
 le:m.le m'
 row:rowRd m' a (L'.map cs).flatten
 q:∀i x y,L[i]?=some x->L'[i]?=some y->Q x y (μ i)
 sub:∀i,i < L.length->(μ i).le (nw m m')
 ap:∀i j,i < j->j < L.length->∀b,(μ i).free b\/(μ j).free b
 blk:(L=[]/\a=none/\c=0)\/(L≠[]/\∃b,a=some ⟨b,0,none⟩/\m.free b/\m.k b=none/\∀i,i < L.length->(μ i).free b/\(μ i).k b=none)
 cap:L'.length<=c
theorem Each.nil{α β:Type}{cs:β->List Value}{Q:α->β->Mem->Prop}(m:Mem):Each cs Q m m ([]:List α) none 0 [] λ_=>m:=
 ⟨rfl,Mem.le_refl m,.inl rfl,by simp,by simp,by simp,.inl ⟨rfl,rfl,rfl⟩,by simp⟩
theorem Each.step{α β:Type}{cs:β->List Value}{Q:α->β->Mem->Prop}{m m':Mem}{L:List α}{k:Nat}{a:Option Addr}{c:Nat}{L':List β}{μ:Nat->Mem}{n:Nat}(hn:∀y,(cs y).length=n)(h0:0 < n)(h:Each cs Q m m' (L.take k) a c L' μ){x:α}(hx:L[k]?=some x)
  {m3:Mem} {y:β} (h3:m'.le m3) (hq:Q x y (nw m' m3)) {b3:Nat} (gZ:m3.free b3) {a':Option Addr} {c':Nat} {m4:Mem} (h4:(m3.add b3 (cs y)).le m4) (aD:rowRd m4 a' ((L'++[y]).map cs).flatten) (ht:TokFact (m3.add b3 (cs y)) a a' (L'.length+1) c'):
  Each cs Q m m4 (L.take (k+1)) a' c' (L'++[y]) (λi=>if i=k then nw m' m3 else μ i):=by
 have hk:k < L.length:=(zA0 hx).1
 have e:L.take (k+1)=L.take k++[x]:=by rw[List.take_add_one,hx];rfl
 have lk:(L.take k).length=k:=by rw[List.length_take];omega
 have lk':L'.length=k:=h.len.trans lk
 have add3:m3.le (m3.add b3 (cs y)):=Mem.le_add gZ _
 have vo:m3.le m4:=mLt add3 h4
 have jU:m'.le m4:=mLt h3 vo
 have vp:m.le (m3.add b3 (cs y)):=mLt h.le (mLt h3 add3)
 have cY:((L'++[y]).map cs).flatten≠[]:=by
  intro hz
  have:=congrArg List.length hz
  rw[Zbe hn,zA1,List.length_cons]at this
  have h5:0 < (L'.length+(([]:List β).length+1))*n:=Nat.mul_pos (by omega) h0
  rw[this]at h5;exact absurd h5 (by simp)
 have ha':∃b,a'=some ⟨b,0,none⟩/\m.free b/\m.k b=none/\(∀i,i < k->(μ i).free b/\(μ i).k b=none)/\((nw m' m3).free b/\(nw m' m3).k b=none):=by
  rcases ht.2 with h1|⟨b,o,h1,h2⟩
  ·rcases aD with h2|⟨b,o,h2,_⟩
   ·exact absurd h2 cY
   ·rw[h1]at h2;cases h2
  ·rcases h2 with h2|⟨h2,h5,h6⟩
   ·rcases h.blk with⟨_,h7,_⟩|⟨h6,b',h7,h8,h8',h9⟩
    ·rw[h7,h1]at h2;cases h2
    ·rw[h7,h1]at h2
     simp only[Option.some.injEq,Addr.mk.injEq,and_true]at h2
     obtain⟨rfl,rfl⟩:=h2
     have iy:¬m'.free b':=λhf=>by
      rcases h.row with im|⟨b2,o2,im,mX⟩
      ·have:=congrArg List.length im
       rw[Zbe hn,lk']at this
       have oG:k≠0:=λe=>h6 (by rw[e];rfl)
       have rH:0 < k*n:=Nat.mul_pos (by omega) h0
       simp at this;omega
      ·rw[h7]at im;cases im
       have oG:k≠0:=λe=>h6 (by rw[e];rfl)
       have rH:0 < k*n:=Nat.mul_pos (by omega) h0
       have aG:0 < (L'.map cs).flatten.length:=by rw[Zbe hn,lk'];exact rH
       have:=mX 0 _ (zA3 aG)
       rw[hf]at this;cases this
     refine⟨b',h1,h8,h8',λi hi=>h9 i (by omega),Zrz iy,rfl⟩
   ·subst h2
    have hs:∀i,i < k->(μ i).le (m3.add b3 (cs y)):=λi hi=>mLt (h.sub i (by omega)) (mLt (Zpy _ _) (mLt h3 add3))
    have nt:(nw m' m3).le (m3.add b3 (cs y)):=mLt (Zpy _ _) add3
    exact⟨b,h1,Zdj vp h5,Zkz vp h6,λi hi=>⟨Zdj (hs i hi) h5,Zkz (hs i hi) h6⟩,Zdj nt h5,Zkz nt h6⟩
 obtain⟨b,hb,cM,eR,eS,nu⟩:=ha'
 refine⟨by rw[zA1,List.length_take,lk'];simp;omega,mLt h.le jU,aD,λi u v hu hv=>?_,λi hi=>?_,λi j nv hj b'=>?_,.inr ⟨by rw[e];simp,b,hb,cM,eR,λi hi=>?_⟩,by have:=ht.1;rw[zA1];exact this⟩
 ·rw[e]at hu
  by_cases mF:i=k
  ·subst mF
   rw[zA4 (by omega),lk,Nat.sub_self]at hu
   rw[zA4 (by omega),lk',Nat.sub_self]at hv
   cases hu;cases hv
   rw[if_pos rfl];exact hq
  ·have hi:i < k:=by
    have:=(zA0 hu).1
    rw[zA1,lk]at this;simp at this;omega
   rw[zA5 (by omega)]at hu hv
   rw[if_neg mF];exact h.q i u v hu hv
 ·by_cases mF:i=k
  ·subst mF;rw[if_pos rfl];exact ZdF h.le vo
  ·rw[if_neg mF]
   rw[List.length_take]at hi
   exact mLt (h.sub i (by omega)) (ZdF (Mem.le_refl m) jU)
 ·rw[List.length_take]at hj
  by_cases rI:j=k
  ·subst rI
   rw[if_neg (by omega),if_pos rfl]
   by_cases hf:(μ i).free b'
   ·exact .inl hf
   ·exact .inr (Zrz λjV=>hf (Zdj (mLt (h.sub i (by omega)) (Zpy _ _)) jV))
  ·rw[if_neg (by omega),if_neg rI];exact h.ap i j nv (by omega) b'
 ·by_cases mF:i=k
  ·subst mF;rw[if_pos rfl];exact nu
  ·rw[if_neg mF];rw[List.length_take]at hi;exact eS i (by omega)
section
variable {α β:Type} {cs:β->List Value} {Q:α->β->Mem->Prop} {m m':Mem} {L:List α} {a:Option Addr} {c:Nat} {L':List β} {μ:Nat->Mem} (h:Each cs Q m m' L a c L' μ)
include h
theorem Each.rows:rowRd (nw m m') a (L'.map cs).flatten:=Zn6 h.row (by
 rcases h.blk with⟨h1,_⟩|⟨_,b,hb,hf,_⟩
 ·left
  have:L'=[]:=List.eq_nil_of_length_eq_zero (by rw[h.len,h1];rfl)
  rw[this];rfl
 ·exact .inr λb' o e=>by rw[hb]at e;cases e;exact hf)
theorem Each.at{y:β}(hy:y∈L'):∃i x,L[i]?=some x/\L'[i]?=some y/\Q x y (μ i)/\(μ i).le (nw m m'):=by
 obtain⟨i,hi⟩:=List.getElem?_of_mem hy
 have aG:i < L.length:=by rw[<-h.len];exact(zA0 hi).1
 exact⟨i,L[i],zA3 aG,hi,h.q i _ _ (zA3 aG) hi,h.sub i aG⟩
theorem Each.same{γ:Type}{f:α->γ}{g:β->γ}(hs:∀x y μ,Q x y μ->g y=f x):L'.map g=L.map f:=by
 refine List.ext_getElem (by simp[h.len]) λi h1 h2=>?_
 simp only[List.length_map]at h1 h2
 rw[List.getElem_map,List.getElem_map]
 exact hs _ _ _ (h.q i _ _ (zA3 h2) (zA3 h1))
end
def Zup{α β:Type}(cs:β->List Value)(Q:α->β->Mem->Prop)(m:Mem)(L:List α):Value->Mem->List (List Value)->Prop:=λv m' _=>∃a c L' μ,v=.slice a L'.length c/\Each cs Q m m' L a c L' μ
theorem Zhq{α β:Type}{cs:β->List Value}{Q:α->β->Mem->Prop}{m:Mem}{L:List α}:∀(v:Value)(m':Mem) (css:List (List Value)),Zup cs Q m L v m' css->Shape.fits .slice v=true:=λv _ _ ⟨_,_,_,_,h,_⟩=>by rw[h];rfl
mutual
def E.er:E->E
 | .node k x s g _ _ l=>.node k x s g none 0 (ZyE l)
def ZyE:List E->List E
 | []=>[]
 | t::l=>t.er::ZyE l
end
theorem Zn7:∀l:List E,ZyE l=l.map E.er
 | []=>rfl
 | t::l=>by simp only[ZyE,List.map_cons,Zn7 l]
@[simp] theorem ZBY (t:E):t.er.k=t.k:=by cases t;rfl
@[simp] theorem ZCK (t:E):t.er.x=t.x:=by cases t;rfl
@[simp] theorem ZCL (t:E):t.er.s=t.s:=by cases t;rfl
@[simp] theorem ZBZ (t:E):t.er.g=t.g:=by cases t;rfl
@[simp] theorem Zw7 (t:E):t.er.subs=t.subs.map E.er:=by cases t;simp only[E.er,E.subs,Zn7]
mutual
theorem ZfH:∀t:E,t.er.nodes=t.nodes.map E.er
 | .node k x s g a c l=>by
  simp only[E.er,E.nodes,List.map_cons]
  rw[Zmg l]
theorem Zmg:∀l:List E,Zap (ZyE l)=(Zap l).map E.er
 | []=>rfl
 | t::l=>by simp only[ZyE,Zap,List.map_append,ZfH t,Zmg l]
end
theorem ZeB(t:E):t.er.light=t.light:=by unfold E.light;rw[ZfH,List.length_map]
theorem Zw8(t:E):t.er.size=t.size:=by unfold E.size;rw[ZeB,ZfH,List.length_map]
theorem ZB0(t:E):nE t.er=nE t:=by unfold nE;rw[ZeB,Zw8]
def Pt.er(p:Pt):Pt:=⟨p.k,p.s,p.g,p.e.er⟩
def Ac.er(a:Ac):Ac:=⟨a.k,a.s,none,0,a.parts.map Pt.er,a.e.er⟩
def Ru.er(r:Ru):Ru:=⟨r.k,r.bg,r.en,r.t.er,r.s,r.n,none,0,r.acts.map Ac.er,r.go,r.code⟩
def Sta.er(x:Sta):Sta:=⟨x.s,none,0,x.rules.map Ru.er⟩
def Sc.er(s:Sc):Sc:=⟨s.n,none,0,s.vars,none,0,s.states.map Sta.er⟩
theorem Zpz{α:Type}(f:α->Int)(g:α->α)(h:∀x,f (g x)=f x)(l:List α):ZbC ((l.map g).map f)=ZbC (l.map f):=by
 rw[List.map_map];congr 1;exact List.map_congr_left λx _=>h x
theorem ZCM(a:Ac):wA a.er=wA a:=by
 unfold wA
 show 1+nE a.e.er+((a.parts.map Pt.er).length:Int)+ZbC ((a.parts.map Pt.er).map λp=>nE p.e)=_
 rw[ZB0,List.length_map,Zpz (λp:Pt=>nE p.e) Pt.er (λp=>ZB0 p.e)]
theorem ZCN(r:Ru):wR r.er=wR r:=by
 unfold wR
 show 1+Zfl r.t.er.size 20000+(if r.t.er.light then 0 else 20001)+ZbC ((r.acts.map Ac.er).map wA)=_
 rw[ZsM,Zgl,Zpz wA Ac.er ZCM]
theorem ZCO(x:Sta):wS x.er=wS x:=Zpz wR Ru.er ZCN x.rules
theorem Zuq(s:Sc):s.er.weight=s.weight:=by
 unfold Sc.weight
 show(s.vars.length:Int)+((s.states.map Sta.er).length:Int)+ZbC ((s.states.map Sta.er).map wS)=_
 rw[List.length_map,Zpz wS Sta.er ZCO]
theorem ZpA(s:Sc):s.er.light=s.light:=by unfold Sc.light;rw[Zuq]
theorem ZpB{α:Type}(f:α->Int)(hf:∀x,0<=f x){l:List α}{x:α}(hx:x∈l):f x<=ZbC (l.map f):=by
 induction l with
 | nil=>cases hx
 | cons y l ih=>
  have h1:=ZeY f hf l
  have h2:=hf y
  simp only[List.map_cons,ZbC]
  rcases List.mem_cons.1 hx with rfl|hx
  ·omega
  ·have:=ih hx;omega
def LtA(a:Ac):Prop:=a.e.light=true/\∀p∈a.parts,p.e.light=true
def LtR(r:Ru):Prop:=r.t.light=true/\∀a∈r.acts,LtA a
theorem ZB1{e:E}(h:nE e<=20000):e.light=true:=by
 cases hl:e.light with
 | true=>rfl
 | false=>unfold nE at h;rw[hl]at h;simp at h
theorem ZBb{a:Ac}(h:wA a<=20000):LtA a:=by
 unfold wA at h
 have h1:=ZiD a.e
 have h2:=ZeY (λp:Pt=>nE p.e) (λp=>(ZiD p.e).1) a.parts
 exact⟨ZB1 (by omega),λp hp=>ZB1 (by have:=ZpB (λp:Pt=>nE p.e) (λp=>(ZiD p.e).1) hp;omega)⟩
theorem ZBc{r:Ru}(h:wR r<=20000):LtR r:=by
 unfold wR at h
 have h1:=(Zhp r.t).1
 have h2:=ZeY wA Zuj r.acts
 have h3:0<=Zfl r.t.size 20000:=by unfold Zfl;split <;> omega
 refine⟨?_,λa ha=>ZBb (by have:=ZpB wA Zuj ha;split at h <;> omega)⟩
 cases hl:r.t.light with
 | true=>rfl
 | false=>rw[hl]at h;simp at h;omega
theorem ZBd{s:Sc}(h:s.light=true):∀x∈s.states,∀r∈x.rules,LtR r:=λx hx r hr=>ZBc (by
 have h1:s.weight<=20000:=zA6 h
 unfold Sc.weight at h1
 have h2:=ZpB wS ZBV hx
 have h3:wR r<=wS x:=ZpB wR ZAM hr
 omega)
def QP(p q:Pt)(μ:Mem):Prop:=q.er=p.er/\RepP μ q
def QA(p q:Ac)(μ:Mem):Prop:=q.er=p.er/\RepA μ q
def QR(p q:Ru)(μ:Mem):Prop:=q.er=p.er/\RepR μ q
def ZDm(m μ:Mem)(y:Sta):Prop:=y.rules.length<=y.rc/\(y.rules=[]\/∃b,y.ra=some ⟨b,0,none⟩/\m.free b/\m.k b=none/\∀r∈y.rules,RepR (μ.off λk=>k=b) r)
def QS(m:Mem)(x y:Sta)(μ:Mem):Prop:=y.er=x.er/\RepS μ y/\ZDm m μ y
structure SepC (m m':Mem)(s:Sc)(b:Nat)(μ:Nat->Mem):Prop where
 sa:s.sa=some ⟨b,0,none⟩
 free:m.free b/\m.k b=none
 all:∀i x,s.states[i]?=some x->RepS (μ i) x/\ZDm m (μ i) x/\(μ i).le (nw m m')/\(μ i).free b
 ap:∀i j,i < j->j < s.states.length->∀b',(μ i).free b'\/(μ j).free b'
 v0:∀b' o,s.va=some ⟨b',o,none⟩->o=0/\m.k b'=none
 va:∃μv:Mem,rowRd μv s.va (s.vars.map Va.cs).flatten/\μv.le (nw m m')/\μv.free b/\∀i,i < s.states.length->∀b',μv.free b'\/(μ i).free b'
theorem Zur{m0 m m' M:Mem}{x:Ac}{a:Option Addr}{c:Nat}{L':List Pt}{μ:Nat->Mem}{e:E}(hx:RepA m0 x)(h:Each Pt.cs QP m m' x.parts a c L' μ)(hM:(nw m m').le M)(he:RepE M e):RepA M ⟨x.k,x.s,a,c,L',e⟩:=
 ⟨hx.k,hx.s,by rw[h.len];exact hx.n,h.rows.mono hM,λp hp=>by
  obtain⟨i,y,_,_,hq,hs⟩:=h.at hp
  exact hq.2.mono (mLt hs hM),he⟩
theorem Zus{m0 m m' M:Mem}{x:Ru}{a:Option Addr}{c:Nat}{L':List Ac}{μ:Nat->Mem}{t:T}(hx:RepR m0 x)(h:Each Ac.cs QA m m' x.acts a c L' μ)(hM:(nw m m').le M)(ht:Rep M t):RepR M ⟨x.k,x.bg,x.en,t,x.s,x.n,a,c,L',x.go,x.code⟩:=
 ⟨hx.k,ht,hx.s,hx.n,by rw[h.len];exact hx.len,h.rows.mono hM,λp hp=>by
  obtain⟨i,y,_,_,hq,hs⟩:=h.at hp
  exact hq.2.mono (mLt hs hM),hx.go,hx.code⟩
theorem ZpC{m m':Mem}{Y:Nat->Prop}(h:m.le m'):(m.off Y).le (m'.off Y):=⟨λb o v hv=>by
 by_cases hy:Y b
 ·rw[Mem.off_free hy]at hv;cases hv
 ·rw[Mem.off_at hy]at hv ⊢;exact h _ _ _ hv,λb e he=>by
 by_cases hy:Y b
 ·rw[Mem.off_kn hy]at he;cases he
 ·rw[Mem.off_k hy]at he ⊢;exact h.k _ _ he⟩
theorem QS.mono{m0 μ μ':Mem}{x y:Sta}(h:QS m0 x y μ)(hm:μ.le μ'):QS m0 x y μ':=
 ⟨h.1,h.2.1.mono hm,h.2.2.1,h.2.2.2.imp_right λ⟨b,h1,h2,h3,h4⟩=>⟨b,h1,h2,h3,λr hr=>(h4 r hr).mono (ZpC hm)⟩⟩
theorem Zzn{m0 m m':Mem}{x:Sta}{a:Option Addr}{c:Nat}{L':List Ru}{μ:Nat->Mem}(h0:m0.le m)(hx:RepS m x)(h:Each Ru.cs QR m m' x.rules a c L' μ):QS m0 x ⟨x.s,a,c,L'⟩ (nw m m'):=by
 refine⟨?_,⟨hx.s,by rw[h.len];exact hx.len,h.rows,λp hp=>by
  obtain⟨i,y,_,_,hq,hs⟩:=h.at hp
  exact hq.2.mono hs⟩,h.cap,?_⟩
 ·simp only[Sta.er,Sta.mk.injEq,true_and]
  exact h.same λx y μ hq=>hq.1
 ·rcases h.blk with⟨h1,_⟩|⟨_,b,hb,hf,hk,hμ⟩
  ·exact .inl (List.eq_nil_of_length_eq_zero (by rw[h.len,h1];rfl))
  ·refine .inr ⟨b,hb,Zdj h0 hf,Zkz h0 hk,λr hr=>?_⟩
   obtain⟨i,y,hi,_,hq,hs⟩:=h.at hr
   exact hq.2.mono (Zuo hs λb' e=>by rw[e];exact hμ i (zA0 hi).1)
end Go.Rx
namespace Go.Rx
open Go
variable {P:Program}
theorem Zhr{n:Nat}(w:World)(t e ty:TypeId)(z:Value)(ht:P.underlying t=some (.slice e))(hv:∀w,(zeroValue e).run P w=.ok z w)(h1:∀u∈(Builtin.zeroCells z.cells n).toList,u.oneCell'=true)(b o c:Nat)(hn:0 < n)
  (hc:∀j,j < (Builtin.zeroCells z.cells n).toList.length->(w.cell? ⟨b,o+j,none⟩).isSome=true) (hf:∀j,j < (Builtin.zeroCells z.cells n).toList.length->w.frozen? ⟨b,o+j,none⟩=false):
  (Builtin.clear_ #[t] ty #[.slice (some ⟨b,o,none⟩) n c]).run P w=.ok (.tuple #[]) (w.setCells b o (Builtin.zeroCells z.cells n).toList):=by
 have cR:=run_storeCells_cells (P:=P) b o (Builtin.zeroCells z.cells n).toList 0 w (by simpa using hc) (by simpa using hf) h1
 simp only[Nat.add_zero]at cR
 obtain⟨m,rfl⟩:∃m,n=m+1:=⟨n - 1,by omega⟩
 simp[Builtin.clear_,run_underlying ht,hv,cR]
end Go.Rx
namespace Go.Rx
open Go Go.Proofs Go.Shelf Go.RowKit Go.Lib Go.Sort
set_option maxHeartbeats 4000000
set_option maxRecDepth 1000000
structure DelLay (P:Program)(ρ:Ren)(k:Nat)(z:Value):Prop where
 mixed:P.follows .mixedOrders=true
 f45:Bears P (ρ.f 45) (SlBodyN.n45 ρ)
 t0:P.underlying (ρ.t 0)=some (TypeDesc.tuple #[])
 a0:∀w,(Go.isAgg (ρ.t 0)).run P w=.ok false w
 z0:∀w,(Go.sizeOf (ρ.t 0)).run P w=.ok 1 w
 v0:∀w,(zeroValue (ρ.t 0)).run P w=.ok (Value.tuple #[]) w
 t3:P.underlying (ρ.t 3)=some (TypeDesc.int IntKind.i64)
 a3:∀w,(Go.isAgg (ρ.t 3)).run P w=.ok false w
 z3:∀w,(Go.sizeOf (ρ.t 3)).run P w=.ok 1 w
 v3:∀w,(zeroValue (ρ.t 3)).run P w=.ok (Value.int IntKind.i64 0) w
 t4:P.underlying (ρ.t 4)=some (TypeDesc.bool)
 a4:∀w,(Go.isAgg (ρ.t 4)).run P w=.ok false w
 z4:∀w,(Go.sizeOf (ρ.t 4)).run P w=.ok 1 w
 v4:∀w,(zeroValue (ρ.t 4)).run P w=.ok (Value.bool false) w
 t22:P.underlying (ρ.t 22)=some (TypeDesc.slice (ρ.t 23))
 a22:∀w,(Go.isAgg (ρ.t 22)).run P w=.ok false w
 z22:∀w,(Go.sizeOf (ρ.t 22)).run P w=.ok 1 w
 v22:∀w,(zeroValue (ρ.t 22)).run P w=.ok (Value.slice none 0 0) w
 z23:∀w,(Go.sizeOf (ρ.t 23)).run P w=.ok k w
 v23:∀w,(zeroValue (ρ.t 23)).run P w=.ok z w
theorem Zm0{P:Program}{ρ:Ren}{k:Nat}{z:Value}(L:DelLay P ρ k z)(i0:TypeInfo)(nA:P.info? (ρ.t 23)=some i0)(rJ:i0.size=k)(hk:z.cells.size=k)
  (blk off n cap i j:Nat) (cs:List Value) (w:World) (aQ:cs.length=n*k) (hH:∀(q:Nat)(u:Value),cs[q]?=some u->w.cell? ⟨blk,off+q,none⟩=some u/\w.frozen? ⟨blk,off+q,none⟩=false) (h1:∀u∈cs,u.oneCell'=true)
  (hz:∀m,∀u∈(Builtin.zeroCells z.cells m).toList,u.oneCell'=true)
  (cJ:n<=cap) (hm:n<=9223372036854775807) (nv:i < j) (hj:j<=n):
  Calls P (ρ.f 45) #[.slice (some ⟨blk,off,none⟩) n cap,.int .i64 i,.int .i64 j] w λe w'=>e=.returned (.slice (some ⟨blk,off,none⟩) (n - (j - i)) cap)/\
   w'=(w.drew.setCells blk (off+i*k) (cs.drop (j*k))).setCells blk (off+(n - (j - i))*k) (Builtin.zeroCells z.cells (j - i)).toList:=by
 have mixed:=L.mixed;have t0:=L.t0;have a0:=L.a0;have z0:=L.z0;have v0:=L.v0;have t3:=L.t3;have a3:=L.a3;have z3:=L.z3;have v3:=L.v3;have t4:=L.t4;have a4:=L.a4;have z4:=L.z4;have v4:=L.v4;have t22:=L.t22;have a22:=L.a22;have z22:=L.z22;have v22:=L.v22;have z23:=L.z23
 obtain⟨Z,hZ⟩:∃Z,(Builtin.zeroCells z.cells (j - i)).toList=Z:=⟨_,rfl⟩
 rw[hZ]
 obtain⟨news,gF⟩:∃news,news=cs.drop (j*k):=⟨_,rfl⟩
 have kG:news.length=(n - j)*k:=by rw[gF,List.length_drop,aQ,Nat.sub_mul]
 obtain⟨A,hA,tl⟩:∃A:Addr,(if cap=j then some (⟨blk,off,none⟩:Addr)else some ⟨blk,off+j*k,none⟩)=some A/\Hid (∀t u,news[t]?=some u->w.drew.cell? (A.add t)=some u):=by
  by_cases h:cap=j
  ·refine⟨⟨blk,off,none⟩,by simp[h],λt u hu=>?_⟩
   have h0:news.length=0:=by rw[kG,show n - j=0 by omega,Nat.zero_mul]
   rw[List.length_eq_zero_iff.1 h0]at hu
   simp at hu
  ·refine⟨⟨blk,off+j*k,none⟩,by simp[h],λt u hu=>?_⟩
   rw[gF,List.getElem?_drop]at hu
   rw[Addr.add_lit,Nat.add_assoc]
   exact(hH _ _ hu).1
 have s2:Hid (∀u∈news,u.oneCell'=true):=λu hu=>h1 u (by rw[gF]at hu;exact List.mem_of_mem_drop hu)
 have mG:(i+(n - j))*k=i*k+(n - j)*k:=Nat.add_mul _ _ _
 have bH:(i+(n - j))*k<=n*k:=Nat.mul_le_mul_right _ (by omega)
 have s3:Hid (∀t,t < news.length->(w.drew.cell? ⟨blk,off+i*k+t,none⟩).isSome=true/\w.drew.frozen? ⟨blk,off+i*k+t,none⟩=false):=by
  intro t ht
  rw[kG]at ht
  have hb:i*k+t < cs.length:=by rw[aQ];omega
  have h:=hH (i*k+t) cs[i*k+t] (zA3 hb)
  rw[<-Nat.add_assoc]at h
  exact⟨by show(w.cell? _).isSome=true;rw[h.1];rfl,h.2⟩
 have s1:Hid (news.length=(n - j)*k):=kG
 obtain⟨W1,rK⟩:∃W1,W1=w.drew.setCells blk (off+i*k) news:=⟨_,rfl⟩
 have hW:Hid (W1=w.drew.setCells blk (off+i*k) news):=rK
 have zf:i<=cap:=by omega
 have zg:j<=cap:=by omega
 have gK:∀ty,(Builtin.clear_ #[ρ.t 22] ty #[.slice (some ⟨blk,off+(i+(n - j))*k,none⟩) (n - (i+(n - j))) (cap - (i+(n - j)))]).run P W1=.ok (.tuple #[]) (W1.setCells blk (off+(i+(n - j))*k) Z):=by
  intro ty
  have hT:∀t,t < (Builtin.zeroCells z.cells (n - (i+(n - j)))).toList.length->(w.drew.cell? ⟨blk,off+((i+(n - j))*k+t),none⟩).isSome=true/\w.drew.frozen? ⟨blk,off+((i+(n - j))*k+t),none⟩=false:=by
   intro t ht
   have hl:(Builtin.zeroCells z.cells (n - (i+(n - j)))).toList.length=(n - (i+(n - j)))*k:=by simp[Builtin.zeroCells,hk,Nat.mul_comm]
   rw[hl,Nat.sub_mul]at ht
   have hb:(i+(n - j))*k+t < cs.length:=by rw[aQ];omega
   have h:=hH _ _ (zA3 hb)
   exact⟨by show(w.cell? _).isSome=true;rw[h.1];rfl,h.2⟩
  rw[<-hZ,show j - i=n - (i+(n - j)) by omega]
  exact Zhr W1 _ _ ty z t22 L.v23 (hz _) blk _ _ (by omega) (λt ht=>by rw[rK];exact World.isSome_setCells _ _ _ _ _ (by rw[Nat.add_assoc];exact(hT t ht).1)) (λt ht=>by rw[rK,World.frozen?_setCells,Nat.add_assoc];exact(hT t ht).2)
 have hN:Hid (news=cs.drop (j*k)):=gF
 clear rK mG bH gF kG hZ hz hk
 obtain⟨_,_,FG⟩:=L.f45
 go_enter FG,SlBodyN.n45_ntmps ρ
 go_wp2_with fail
 go_region_law_o (refine step_append_room rfl (.tmp 22) (.tmp 25) (ρ.t 22) rfl (ρ.t 23) i0 k t22 nA rJ blk off i cap (by simp[Act.eval,Act.put]) A (n - j) (cap - j) news (by simp[Act.eval,Act.put]) s1.out tl.out s2.out (by omega) s3.out ?_;rw[<-hW.out])
 go_wp2
 go_ret
 refine⟨by rw[show n - (j - i)=i+(n - j) by omega];rfl,?_⟩
 rw[hW.out,hN.out,show n - (j - i)=i+(n - j) by omega]
end Go.Rx
namespace Go.Rx
open Go Go.Eng Go.RowKit Go.Shelf
theorem Zgm(b:Nat):∀(vs:List Value)(o:Nat)(w:World),(w.setCells b o vs).os=w.os/\(w.setCells b o vs).tape=w.tape/\(w.setCells b o vs).output=w.output/\(w.setCells b o vs).heap.size=w.heap.size
 | [],_,_=>⟨rfl,rfl,rfl,rfl⟩
 | v::r,o,w=>by
  obtain⟨h1,h2,h3,h4⟩:=Zgm b r (o+1) (w.setCell ⟨b,o,none⟩ v)
  exact⟨h1,h2,h3,h4.trans (by simp[World.setCell])⟩
theorem Zc5(b:Nat){k:Nat}(hk:k≠b):∀(vs:List Value)(o:Nat)(w:World),(w.setCells b o vs).heap[k]?=w.heap[k]?
 | [],_,_=>rfl
 | v::r,o,w=>by
  rw[World.setCells,Zc5 b hk r (o+1)]
  simp[World.setCell,Array.getElem?_modify,Ne.symm hk]
theorem ZeC(b:Nat):∀(vs:List Value)(o:Nat)(w:World){c:Array Value}{T:TypeId}{fr:Nat×Nat},w.heap[b]?=some (.cells c T fr)->∃c':Array Value,(w.setCells b o vs).heap[b]?=some (.cells c' T fr)/\c'.size=c.size
 | [],_,_,c,_,_,h=>⟨c,h,rfl⟩
 | v::r,o,w,c,T,fr,h=>by
  have h1:(w.setCell ⟨b,o,none⟩ v).heap[b]?=some (.cells (c.setIfInBounds o v) T fr):=by
   simp[World.setCell,Array.getElem?_modify,h]
  obtain⟨c',h2,h3⟩:=ZeC b r (o+1) (w.setCell ⟨b,o,none⟩ v) h1
  exact⟨c',h2,by rw[h3];simp⟩
theorem Zhs(b o:Nat)(vs:List Value)(w:World){c:Array Value}{T:TypeId}{fr:Nat×Nat}(h:w.heap[b]?=some (.cells c T fr)):Upd (λk=>k=b) w (w.setCells b o vs):=by
 obtain⟨h1,h2,h3,h4⟩:=Zgm b vs o w
 refine⟨h1,h2,h3,by omega,λk _ hk=>Zc5 b hk vs o w,λk hk hw=>?_⟩
 by_cases e:k=b
 ·subst e
  obtain⟨c',h5,h6⟩:=ZeC k vs o w h
  intro c2 T2 fr2 hh q hq
  rw[h5]at hh
  simp only[Option.some.injEq,Obj.cells.injEq]at hh
  obtain⟨rfl,rfl,rfl⟩:=hh
  exact hw c T fr h q (by omega)
 ·exact hw.of_eq (Zc5 b e vs o w)
theorem Upd.tr{M:Nat->Prop}{a b c:World}(h:Upd M a b)(k:Upd M b c):Upd M a c:=
 ⟨k.os.trans h.os,k.tape.trans h.tape,k.output.trans h.output,Nat.le_trans h.size k.size,λq hq hm=>(k.block q (Nat.lt_of_lt_of_le hq h.size) hm).trans (h.block q hq hm),λq hq hw=>k.wr q (Nat.lt_of_lt_of_le hq h.size) (h.wr q hq hw)⟩
theorem Zmh{α:Type}{cs:α->List Value}{n:Nat}(hn:∀x,(cs x).length=n):∀(l:List α)(i:Nat),((l.eraseIdx i).map cs).flatten=(l.map cs).flatten.take (i*n)++(l.map cs).flatten.drop ((i+1)*n)
 | [],_=>by simp
 | x::l,0=>by
  simp only[List.eraseIdx_zero,List.tail_cons,List.map_cons,List.flatten_cons,Nat.zero_mul,List.take_zero,List.nil_append,Nat.zero_add,Nat.one_mul]
  rw[<-hn x,List.drop_left]
 | x::l,i+1=>by
  have e1:(i+1)*n=(cs x).length+i*n:=by rw[hn,Nat.succ_mul];omega
  have e2:(i+1+1)*n=(cs x).length+(i+1)*n:=by rw[hn,Nat.succ_mul (i+1)];omega
  simp only[List.eraseIdx_cons_succ,List.map_cons,List.flatten_cons]
  have e3:((cs x)++(l.map cs).flatten).take ((i+1)*n)=cs x++(l.map cs).flatten.take (i*n):=by rw[e1,List.take_length_add_append]
  have e4:((cs x)++(l.map cs).flatten).drop ((i+1+1)*n)=(l.map cs).flatten.drop ((i+1)*n):=by rw[e2,List.drop_length_add_append]
  rw[Zmh hn l i,e3,e4,List.append_assoc]
theorem Zut{P:Program}{ρ:Ren}{k:Nat}{z:Value}(L:DelLay P ρ k z)(i0:TypeInfo)(nA:P.info? (ρ.t 23)=some i0)(rJ:i0.size=k)(hk:z.cells.size=k)(lm:Zfq P (ρ.f 45))(h0:0 < k)
  (ti:(Builtin.zeroCells z.cells 1).toList=z.cells.toList) (xo:∀m,∀u∈(Builtin.zeroCells z.cells m).toList,u.oneCell'=true)
  {α:Type} {cs:α->List Value} (hn:∀x,(cs x).length=k) (h1:∀x,∀u∈cs x,u.oneCell'=true) (l:List α) (b c i:Nat) (T:TypeId) (cap:Nat) (m:Mem) (hi:i < l.length) (hc:l.length<=c) (hm:l.length<=9223372036854775807):
  CX P (ρ.f 45) #[.slice (some ⟨b,0,none⟩) l.length c,.int .i64 i,.int .i64 (i+1:Nat)] m [⟨b,(l.map cs).flatten,T,cap,false,false⟩] (λv m' css=>v=.slice (some ⟨b,0,none⟩) (l.length - 1) c/\css=[((l.eraseIdx i).map cs).flatten++z.cells.toList]):=by
 refine⟨lm,λw hs hX _=>?_⟩
 obtain⟨eE,_⟩:=hX _ (List.mem_singleton.2 rfl)
 have iC:=eE.wr
 have aQ:(l.map cs).flatten.length=l.length*k:=Zbe hn l
 have gN:0 < l.length*k:=Nat.mul_pos (by omega) h0
 obtain⟨sp,fr,xp,tq,tu⟩:=eE.cells
 obtain⟨cur,iz⟩:∃cur,cur=((l.map cs).flatten++sp).toArray:=⟨_,rfl⟩
 have hh:w.heap[b]?=some (.cells cur T fr):=by rw[iz];exact xp
 have cI:∀(q:Nat)(u:Value),(l.map cs).flatten[q]?=some u->w.cell? ⟨b,q,none⟩=some u:=λq u hu=>eE.cell hu
 have aG:∀q,q < l.length*k->q < cur.size:=λq hq=>by
  have:=cI q _ (zA3 (by omega))
  simp only[World.cell?,hh,Option.isSome_none,Bool.false_eq_true,if_false]at this
  exact(Array.getElem?_eq_some_iff.1 this).1
 have hH:∀(q:Nat)(u:Value),(l.map cs).flatten[q]?=some u->w.cell? ⟨b,0+q,none⟩=some u/\w.frozen? ⟨b,0+q,none⟩=false:=λq u hu=>by
  rw[Nat.zero_add]
  refine⟨cI q u hu,?_⟩
  have hq:=(zA0 hu).1
  have h2:=iC cur T fr hh q (aG q (by omega))
  obtain⟨f1,f2⟩:=fr
  simp only[World.frozen?,hh,Bool.and_eq_false_iff,decide_eq_false_iff_not]
  simp only at h2
  omega
 have h1':∀u∈(l.map cs).flatten,u.oneCell'=true:=λu hu=>by
  simp only[List.mem_flatten,List.mem_map]at hu
  obtain⟨_,⟨x,_,rfl⟩,hu⟩:=hu
  exact h1 x u hu
 refine(Zm0 L i0 nA rJ hk b 0 l.length c i (i+1) (l.map cs).flatten w aQ hH h1' xo hc hm (by omega) (by omega)).mono ?_
 rintro e w' ⟨rfl,rfl⟩
 rw[show i+1 - i=1 by omega,Nat.zero_add,Nat.zero_add,ti]
 obtain⟨news,gF⟩:∃news,news=(l.map cs).flatten.drop ((i+1)*k):=⟨_,rfl⟩
 rw[<-gF]
 have mF:(i+1)*k<=l.length*k:=Nat.mul_le_mul_right _ (by omega)
 have xq:(i+1)*k=i*k+k:=Nat.succ_mul i k
 have kG:news.length=l.length*k - (i+1)*k:=by rw[gF,List.length_drop,aQ]
 have jH:(l.length - 1)*k+k=l.length*k:=by
  have:l.length=l.length - 1+1:=by omega
  rw[this,Nat.succ_mul];rfl
 have vq:w.drew.heap[b]?=some (.cells cur T fr):=hh
 obtain⟨c1,g1,g2⟩:=ZeC b news (i*k) w.drew vq
 obtain⟨c2,g3,g4⟩:=ZeC b z.cells.toList ((l.length - 1)*k) (w.drew.setCells b (i*k) news) g1
 have lY:Upd (λq=>q=b) w w.drew:=⟨rfl,rfl,rfl,Nat.le_refl _,λ_ _ _=>rfl,λ_ _ h=>h⟩
 have hU:=Upd.tr (Upd.tr lY (Zhs b (i*k) news w.drew vq)) (Zhs b ((l.length - 1)*k) z.cells.toList _ g1)
 have je:z.cells.toList.length=k:=by simpa using hk
 have eU:(((l.eraseIdx i).map cs).flatten++z.cells.toList).length=l.length*k:=by
  rw[zA1,je,Zbe hn,List.length_eraseIdx,if_pos hi];exact jH
 have some1:∀q,q < cur.size->(w.drew.cell? ⟨b,q,none⟩).isSome=true:=λq hq=>by
  show(w.cell? ⟨b,q,none⟩).isSome=true
  simp[World.cell?,hh,hq]
 have some2:∀q,q < cur.size->((w.drew.setCells b (i*k) news).cell? ⟨b,q,none⟩).isSome=true:=λq hq=>by
  simp[World.cell?,g1,g2,hq]
 have at_:∀q,((w.drew.setCells b (i*k) news).setCells b ((l.length - 1)*k) z.cells.toList).cell? ⟨b,q,none⟩=if q < l.length*k then(((l.eraseIdx i).map cs).flatten++z.cells.toList)[q]? else w.cell? ⟨b,q,none⟩:=λq=>by
  have vr:((l.eraseIdx i).map cs).flatten.length=(l.length - 1)*k:=by rw[Zbe hn,List.length_eraseIdx,if_pos hi]
  by_cases hq:q < l.length*k
  ·rw[if_pos hq]
   by_cases pS:(l.length - 1)*k<=q
   ·have:=World.cell?_setCells_in b z.cells.toList ((l.length - 1)*k) (w.drew.setCells b (i*k) news) (λj hj=>some2 _ (aG _ (by omega))) (q - (l.length - 1)*k) (by omega)
    rw[show(l.length - 1)*k+(q - (l.length - 1)*k)=q by omega]at this
    rw[this,zA4 (by omega),vr]
    exact(zA3 _).symm
   ·rw[World.cell?_setCells_out b _ _ _ _ (λ_ _=>.inl (by show q < _;omega)),zA5 (by omega),Zmh hn]
    by_cases sq:i*k<=q
    ·have:=World.cell?_setCells_in b news (i*k) w.drew (λj hj=>some1 _ (aG _ (by omega))) (q - i*k) (by omega)
     rw[show i*k+(q - i*k)=q by omega]at this
     have jG:((l.map cs).flatten.take (i*k)).length=i*k:=by rw[List.length_take,aQ];omega
     rw[this,zA4 (by omega),jG,<-gF]
     exact(zA3 _).symm
    ·have jG:((l.map cs).flatten.take (i*k)).length=i*k:=by rw[List.length_take,aQ];omega
     rw[World.cell?_setCells_out b _ _ _ _ (λ_ _=>.inl (by show q < _;omega)),zA5 (by omega),List.getElem?_take_of_lt (by omega)]
     have pT:q < (l.map cs).flatten.length:=by omega
     rw[zA3 pT]
     exact cI q _ (zA3 pT)
  ·rw[if_neg hq,World.cell?_setCells_out b _ _ _ _ (λ_ _=>.inr (by show _<=q;omega)),World.cell?_setCells_out b _ _ _ _ (λ_ _=>.inr (by show _<=q;omega))]
   rfl
 obtain⟨full,vt⟩:∃full,full=((l.eraseIdx i).map cs).flatten++z.cells.toList:=⟨_,rfl⟩
 rw[<-vt]at eU ⊢
 rw[<-vt]at at_
 have pu:((l.map cs).flatten++sp).length=l.length*k+sp.length:=by rw[zA1,aQ]
 have tw:c2=(full++sp).toArray:=by
  refine Array.ext' (List.ext_getElem? λq=>?_)
  have h5:=at_ q
  simp only[World.cell?,g3,hh,Option.isSome_none,Bool.false_eq_true,if_false]at h5
  rw[Array.getElem?_toList,h5]
  by_cases hq:q < l.length*k
  ·rw[if_pos hq,zA5 (by rw[eU];exact hq)]
  ·rw[if_neg hq,zA4 (by rw[eU];omega),eU,iz]
   simp only[List.getElem?_toArray]
   rw[zA4 (by rw[aQ];omega),aQ]
 have hb:∀q,q≠b->((w.drew.setCells b (i*k) news).setCells b ((l.length - 1)*k) z.cells.toList).heap[q]?=w.heap[q]?:=λq hq=>(Zc5 b hq _ _ _).trans (Zc5 b hq _ _ w.drew)
 refine⟨_,m,[full],rfl,Mem.le_refl m,⟨λb1 o1 v hv=>?_,λb1 e he=>?_⟩,NewM.refl _ _,⟨hU.os,hU.tape,hU.output,hU.size,λq _ hn=>hb q (by simpa using hn),hU.wr⟩,rfl,λi' x cs' hx cA=>?_,rfl,rfl⟩
 ·have cY:b1≠b:=λe=>by
   subst e
   rw[eE.free rfl o1]at hv;cases hv
  rw[<-hs _ _ _ hv]
  exact Zcp (hb b1 cY) o1
 ·have:=hs.k b1 e he
  have cY:b1≠b:=λe=>by
   subst e
   obtain⟨es,cl,h8,_⟩:=this
   rw[hh]at h8;cases h8
  exact this.same (hb b1 cY)
 ·cases i' with
  | succ n=>simp at hx
  | zero=>
   simp at hx cA
   subst hx cA
   refine⟨⟨sp,fr,by rw[<-tw];exact g3,?_,?_⟩,λ_=>eE.free rfl,λh=>(by cases h),λh=>(by cases h)⟩
   ·have cJ:((l.map cs).flatten++sp).length=cap:=tq
    show(full++sp).length=cap
    rw[<-cJ,pu,zA1,eU]
   ·exact tu
end Go.Rx
namespace Go.Rx
open Go Go.Eng
set_option maxRecDepth 100000
def ZyA:T:=.node 2 0 72057594037927936 0 0 0 0 none 0 []
def ZAq:T:=.node 2 0 144115188075855872 0 0 0 0 none 0 []
def rxT(a1 a2:Option Addr):T:=.node 3 0 0 0 0 0 0 a2 2 [.node 6 0 0 0 0 0 0 a1 1 [ZyA],ZAq]
def Zv6(n:Int):Pt:=⟨3,⟨#[]⟩,n,E0⟩
def ZnU(pa:Option Addr)(pc:Nat)(l:List Int):Ac:=⟨1,⟨#[]⟩,pa,pc,l.map Zv6,E0⟩
def ZrA:Ac:=⟨3,⟨#[110]⟩,none,0,[],.node 9 0 ⟨#[109]⟩ 0 none 0 []⟩
def ZyF(pa:Option Addr):Ac:=⟨2,⟨#[110]⟩,pa,1,[⟨1,⟨#[120]⟩,0,E0⟩],E0⟩
def ru0(k:Int):Ru:=⟨k,false,false,T0,⟨#[]⟩,0,none,0,[],⟨#[]⟩,0⟩
def ZAr(a1 a2 aa pa:Option Addr)(ac pc:Nat)(l:List Int):Ru:=⟨1,false,false,rxT a1 a2,⟨#[]⟩,0,aa,ac,[ZnU pa pc l],⟨#[97]⟩,0⟩
def ZCo(aa pa:Option Addr)(ac pc:Nat)(l:List Int):Ru:=⟨2,false,false,T0,⟨#[97,98]⟩,0,aa,ac,[ZnU pa pc l],⟨#[]⟩,256⟩
def Zvz(aa:Option Addr)(ac:Nat)(a:Ac):Ru:=⟨3,false,false,T0,⟨#[]⟩,0,aa,ac,[a],⟨#[]⟩,0⟩
def ZiE:List Va:=[⟨⟨#[110]⟩,true,⟨#[]⟩,0⟩,⟨⟨#[116]⟩,false,⟨#[]⟩,0⟩]
def Zht(va sa ra:Option Addr)(r:Ru):Sc:=⟨9,va,2,ZiE,sa,1,[⟨⟨#[97]⟩,ra,1,[r]⟩]⟩
def ZCp(va sa ra:Option Addr)(sc:Nat):Sc:=⟨9,va,2,ZiE,sa,sc,[⟨⟨#[97]⟩,ra,1,[ru0 3]⟩,⟨⟨#[97]⟩,none,0,[]⟩]⟩
def ZqU(n:Int):Sc:=⟨n,none,0,[],none,0,[]⟩
theorem ex1(va sa ra a1 a2 aa pa:Option Addr)(ac pc:Nat):(Zht va sa ra (ZAr a1 a2 aa pa ac pc [1,2])).check=(⟨-1,0,0,0,1⟩,309):=by kernel_rfl
theorem ex2(va sa ra a1 a2 aa pa:Option Addr)(ac pc:Nat):(Zht va sa ra (ZAr a1 a2 aa pa ac pc [1,0])).check=(⟨-1,-1,-1,-1,-1⟩,0):=by kernel_rfl
theorem ex3(va sa ra aa pa:Option Addr)(ac pc:Nat):(Zht va sa ra (ZCo aa pa ac pc [0])).check=(⟨-1,0,0,-1,-1⟩,306):=by kernel_rfl
theorem ex4(va sa ra:Option Addr):(Zht va sa ra (ru0 4)).check=(⟨-1,0,0,-1,-1⟩,304):=by kernel_rfl
theorem ex5(va sa ra aa:Option Addr)(ac:Nat):(Zht va sa ra (Zvz aa ac ZrA)).check=(⟨-1,0,0,0,-1⟩,308):=by kernel_rfl
theorem ex6(va sa ra aa pa:Option Addr)(ac:Nat):(Zht va sa ra (Zvz aa ac (ZyF pa))).check=(⟨-1,0,0,0,-1⟩,308):=by kernel_rfl
theorem ex7(va sa ra:Option Addr)(sc:Nat):(ZCp va sa ra sc).check=(⟨-1,1,-1,-1,-1⟩,303):=by kernel_rfl
theorem ex8:(ZqU 9).check=(⟨-1,-1,-1,-1,-1⟩,302):=by kernel_rfl
theorem ex9:(ZqU 1).check=(⟨-1,-1,-1,-1,-1⟩,300):=by kernel_rfl
theorem ZDy(va sa ra aa pa:Option Addr)(ac pc:Nat):(Zht va sa ra (Zvz aa ac (ZnU pa pc [0]))).check=(⟨-1,0,0,0,0⟩,309):=by kernel_rfl
end Go.Rx
namespace Go.Rx
open Go Go.Eng
def ZCP(l:List Ru)(key:Ru->Int)(o:Option Nat)(x:Ru):Bool:=match o with
 | none=>true
 | some t=>match l[t]? with
  | some y=>decide (key x < key y)
  | none=>false
def Zzo(l:List Ru)(cnt:Ru->Bool)(key:Ru->Int):Nat->Option Nat
 | 0=>none
 | i+1=>match l[i]? with
  | none=>Zzo l cnt key i
  | some x=>if cnt x&&ZCP l key (Zzo l cnt key i) x then some i else Zzo l cnt key i
def ZDn(l:List Ru)(cnt:Ru->Bool)(key:Ru->Int):Option Nat:=Zzo l cnt key l.length
def ZDz(r:Ru):Bool:=r.k == 4
def ZDA(r:Ru):Bool:=r.k == 3
def ZDB(r:Ru):Int:=r.n
def ZDC(_:Ru):Int:=0
def toO(x:Sta):Option Nat:=ZDn x.rules ZDz ZDB
def eoO(x:Sta):Option Nat:=ZDn x.rules ZDA ZDC
def ZDo(o:Option Nat):Int:=(o.getD 0:Nat)
def Zv7(x:Sta)(k:Nat)(r:Ru):Bool:=(r.k == 4&&!((k:Int) == ZDo (toO x)))||(r.k == 3&&!((k:Int) == ZDo (eoO x)))
abbrev Dd:=Int×Int
def ZsN(i:Nat)(x:Sta):Nat->List Dd
 | 0=>[]
 | k+1=>ZsN i x k++(match x.rules[k]? with
  | some r=>if Zv7 x k r then[((i:Int),(k:Int))]else[]
  | none=>[])
def deadU(s:Sc):Nat->List Dd
 | 0=>[]
 | i+1=>deadU s i++(match s.states[i]? with
  | some x=>ZsN i x x.rules.length
  | none=>[])
def Zzp(s:Sc):List Dd:=deadU s s.states.length
theorem ZkA{i:Nat}{x:Sta}{d:Dd}:∀{k:Nat},d∈ZsN i x k↔d.1=i/\∃j r,j < k/\x.rules[j]?=some r/\Zv7 x j r=true/\d.2=j
 | 0=>by simp[ZsN]
 | k+1=>by
  rw[ZsN,List.mem_append,ZkA (k:=k)]
  constructor
  ·rintro(⟨h1,j,r,h2,h3⟩|h)
   ·exact⟨h1,j,r,by omega,h3⟩
   ·split at h
    ·rename_i r hr
     split at h
     ·rename_i hb
      rw[List.mem_singleton]at h;subst h
      exact⟨rfl,k,r,by omega,hr,hb,rfl⟩
     ·cases h
    ·cases h
  ·rintro⟨h1,j,r,h2,h3,h4,h5⟩
   rcases Nat.lt_or_ge j k with hj|hj
   ·exact .inl ⟨h1,j,r,hj,h3,h4,h5⟩
   ·obtain rfl:j=k:=by omega
    refine .inr ?_
    rw[h3]
    show d∈(if Zv7 x j r=true then _ else _)
    rw[if_pos h4,List.mem_singleton]
    exact Prod.ext h1 h5
theorem ZpD{s:Sc}{d:Dd}:∀{n:Nat},d∈deadU s n↔∃i x j r,i < n/\s.states[i]?=some x/\x.rules[j]?=some r/\Zv7 x j r=true/\d=((i:Int),(j:Int))
 | 0=>by simp[deadU]
 | n+1=>by
  rw[deadU,List.mem_append,ZpD (n:=n)]
  constructor
  ·rintro(⟨i,x,j,r,h1,h2⟩|h)
   ·exact⟨i,x,j,r,by omega,h2⟩
   ·split at h
    ·rename_i x hx
     obtain⟨h1,j,r,h2,h3,h4,h5⟩:=ZkA.1 h
     exact⟨n,x,j,r,by omega,hx,h3,h4,Prod.ext h1 h5⟩
    ·cases h
  ·rintro⟨i,x,j,r,h1,h2,h3,h4,h5⟩
   rcases Nat.lt_or_ge i n with hi|hi
   ·exact .inl ⟨i,x,j,r,hi,h2,h3,h4,h5⟩
   ·obtain rfl:i=n:=by omega
    refine .inr ?_
    rw[h2]
    exact ZkA.2 ⟨by rw[h5],j,r,(zA0 h3).1,h3,h4,by rw[h5]⟩
theorem Zw9{s:Sc}{d:Dd}:d∈Zzp s↔∃(i:Nat)(x:Sta)(j:Nat)(r:Ru),s.states[i]?=some x/\x.rules[j]?=some r/\Zv7 x j r=true/\d=((i:Int),(j:Int)):=by
 unfold Zzp
 rw[ZpD]
 constructor
 ·rintro⟨i,x,j,r,_,h⟩;exact⟨i,x,j,r,h⟩
 ·rintro⟨i,x,j,r,h,h'⟩;exact⟨i,x,j,r,(zA0 h).1,h,h'⟩
theorem ZpE(i:Nat)(x:Sta):∀k,(ZsN i x k).length<=k
 | 0=>by simp[ZsN]
 | k+1=>by
  rw[ZsN,zA1]
  have:=ZpE i x k
  split
  ·split <;> simp <;> omega
  ·simp;omega
end Go.Rx
namespace Go.Rx
open Go Go.Eng Go.RowKit
def Zuu(x:Sta)(k:Nat):Sta:=⟨x.s,x.ra,x.rc,x.rules.eraseIdx k⟩
def ZAP(s:Sc)(i k:Nat):Sc:=match s.states[i]? with
 | some x=>⟨s.n,s.va,s.vc,s.vars,s.sa,s.sc,s.states.set i (Zuu x k)⟩
 | none=>s
theorem Zhu{s s':Sc}(h:s'.er=s.er):s'.states.map Sta.er=s.states.map Sta.er:=congrArg Sc.states h
theorem ZB2{s s':Sc}(h:s'.er=s.er){i:Nat}{x:Sta}(hx:s.states[i]?=some x):∃x',s'.states[i]?=some x'/\x'.er=x.er:=by
 have:=congrArg (λl=>l[i]?) (Zhu h)
 simp only[List.getElem?_map,hx,Option.map_some]at this
 obtain⟨x',h1,h2⟩:=Option.map_eq_some_iff.1 this
 exact⟨x',h1,h2⟩
theorem Zxa{s s':Sc}(h:s'.er=s.er):s'.states.length=s.states.length:=by
 have:=congrArg List.length (Zhu h);simpa using this
theorem Zxb{x x':Sta}(h:x'.er=x.er):x'.s=x.s/\x'.rules.map Ru.er=x.rules.map Ru.er/\x'.rules.length=x.rules.length:=by
 have h2:x'.rules.map Ru.er=x.rules.map Ru.er:=congrArg Sta.rules h
 have h1:x'.er.s=x.er.s:=congrArg Sta.s h
 exact⟨h1,h2,by have:=congrArg List.length h2;simpa using this⟩
theorem Zv8{s s':Sc}(h:s'.er=s.er):s'.n=s.n/\s'.vars=s.vars:=by
 have h1:s'.er.n=s.er.n:=congrArg Sc.n h
 have h2:s'.er.vars=s.er.vars:=congrArg Sc.vars h
 exact⟨h1,h2⟩
theorem ZsO{s s':Sc}(h1:s'.n=s.n)(h2:s'.vars=s.vars)(h3:s'.states.map Sta.er=s.states.map Sta.er):s'.er=s.er:=by
 unfold Sc.er;rw[h1,h2,h3]
def Zgz(r:Ru):Bool:=decide (wR r<=19999)
theorem MkC.deadU{s:Sc}(h:MkC s)(n:Nat):(Go.Rx.deadU s n).length<=n*5:=by
 induction n with
 | zero=>simp[Go.Rx.deadU]
 | succ n ih=>
  rw[Go.Rx.deadU,zA1,Nat.succ_mul]
  refine Nat.add_le_add ih ?_
  split
  ·rename_i x hx
   exact Nat.le_trans (ZpE n x x.rules.length) (h.all n x hx).len
  ·simp
theorem MkC.wR{s:Sc}(h:MkC s){i a:Nat}{x:Sta}{r:Ru}(hx:s.states[i]?=some x)(hr:x.rules[a]?=some r):Go.Rx.wR r<=405:=((h.all i x hx).all r (zA2 hr)).w
theorem Zuv(l:List E):Zkq (l.map E.er)=Zkq l:=by cases l <;> simp[Zkq]
theorem Zuw(t:E):t.er.right=t.right:=by
 unfold E.right
 simp only[ZBY,ZCK,ZCL,ZBZ,Zw7,List.length_map,Zuv]
theorem ZpF(t:E):t.er.clean=t.clean:=by
 unfold E.clean
 rw[ZeB,ZfH,List.all_map]
 congr 2
 funext x;exact Zuw x
mutual
theorem ZpG:∀(t:E)(out:List ByteArray),t.er.names out=t.names out
 | .node k x s g a c l,out=>by
  simp only[E.er,E.names]
  rw[Zmi l out]
theorem Zmi:∀(l:List E)(out:List ByteArray),ZbM (ZyE l) out=ZbM l out
 | [],out=>rfl
 | t::l,out=>by simp only[ZyE,ZbM];rw[ZpG t out,Zmi l]
end
theorem ZsP(t:E):t.er.vars=t.vars:=by unfold E.vars;rw[ZeB,ZpG]
theorem ZsQ(t:E):t.er.most=t.most:=by
 unfold E.most
 rw[ZeB,ZfH,List.foldl_map]
 simp only[ZBY,ZBZ]
mutual
theorem ZpH:∀t u:E,t.er.same u=t.same u
 | .node k x s g a c l,.node k' x' s' g' a' c' l'=>by
  simp only[E.er,E.same]
  rw[Zmj l l']
theorem Zmj:∀l r:List E,ZcM (ZyE l) r=ZcM l r
 | [],r=>rfl
 | t::l,[]=>by simp[ZyE,ZcM]
 | t::l,u::r=>by simp only[ZyE,ZcM];rw[ZpH t u,Zmj l r]
end
theorem ZsR(t:E):Zma t.er=Zma t:=by unfold Zma;rw[ZeB,ZpH]
mutual
theorem ZpI:∀t u:T,t.er.same u=t.same u
 | .node k s0 s1 s2 s3 mn mx a c l,.node k' s0' s1' s2' s3' mn' mx' a' c' l'=>by
  simp only[T.er,T.same]
  rw[Zmk l l']
theorem Zmk:∀l r:List T,ZeL (erL l) r=ZeL l r
 | [],r=>rfl
 | t::l,[]=>by simp[erL,ZeL]
 | t::l,u::r=>by simp only[erL,ZeL];rw[ZpI t u,Zmk l r]
end
theorem Zzq(r:Ru):Ztt r.er=Ztt r:=by
 unfold Ztt
 simp only[Ru.er]
 rw[Zgl,ZpI]
theorem ZrB(r:Ru):ZaW r.er=ZaW r:=by
 unfold ZaW
 rw[Zzq];rfl
theorem ZsS(r:Ru):Zbv r.er=Zbv r:=by
 unfold Zbv
 simp only[Ru.er]
 rw[Zpx];rfl
theorem Zxc(r:Ru):sizeR r.er=sizeR r:=by
 unfold sizeR
 simp only[Ru.er]
 rw[ZsM];rfl
theorem Zv9(l:List Sta)(name:ByteArray):((l.map Sta.er).any λx=>eqS x.s name)=l.any λx=>eqS x.s name:=by rw[List.any_map];rfl
theorem Zxd(s:Sc)(r:Ru)(n:Int):Zcl s.er r.er n=Zcl s r n:=by
 unfold Zcl Zdu
 rw[ZrB,ZpA]
 simp only[Ru.er,Sc.er,List.length_map,Zw6,Zv9]
theorem ZrC(s:Sc)(r:Ru)(a:Ac):ZaF s.er r.er a.er=ZaF s r a:=by
 unfold ZaF Zba Za0 Zba
 rw[ZsS]
 simp only[Ac.er,Sc.er,List.length_map,ZpF,ZsR,ZsP,ZsQ]
theorem Zux(p:Pt):ZaY p.er=ZaY p:=by
 unfold ZaY
 simp only[Pt.er,ZsR,ZpF];rfl
theorem Zxe(s:Sc)(r:Ru)(l:List Pt)(i:Nat)(p:Pt):ZcJ s.er r.er (l.map Pt.er) i p.er=ZcJ s r l i p:=by
 unfold ZcJ Zba Za0 Zba
 rw[ZsS,Zux]
 simp only[Pt.er,Sc.er,ZsP,ZsQ,List.getElem?_map]
 cases l[i - 1]? <;> rfl
theorem Zuy(s:Sc)(i:Nat)(x:Sta):ZcS s.er i x.er=ZcS s i x:=by
 unfold ZcS
 simp only[Sta.er,Sc.er,List.length_map,<-List.map_take,Zv9]
theorem Zuz(s:Sc)(i k:Nat):totals s.er i k=totals s i k:=by
 have h1:∀l:List Ru,(l.map Ru.er).map sizeR=l.map sizeR:=λl=>by
  rw[List.map_map];exact List.map_congr_left λr _=>Zxc r
 have hA:((s.states.map Sta.er).take i).map (λx=>ZbC (x.rules.map sizeR))=(s.states.take i).map λx=>ZbC (x.rules.map sizeR):=by
  rw[<-List.map_take,List.map_map]
  exact List.map_congr_left λx _=>by show ZbC ((x.rules.map Ru.er).map sizeR)=_;rw[h1]
 unfold totals
 rw[show s.er.states=s.states.map Sta.er from rfl,hA,List.getElem?_map]
 cases s.states[i]? with
 | none=>rfl
 | some x=>
  show _+ZbC (((x.rules.map Ru.er).take (k+1)).map sizeR)=_
  rw[<-List.map_take,h1]
theorem ZBe(s:Sc)(p:Pl):atS s.er p=atS s p:=by
 have hs:s.er.states=s.states.map Sta.er:=rfl
 have hw:ZdP s.er=ZdP s:=by unfold ZdP;simp only[Sc.er,List.length_map];rfl
 unfold atS
 rw[hw,hs,List.getElem?_map]
 congr 2
 cases s.states[p.s.toNat]? with
 | none=>rfl
 | some x=>
  show(if p.r < 0 then ZcS s.er p.s.toNat x.er else _)=_
  rw[Zuy]
  congr 1
  rw[show x.er.rules=x.rules.map Ru.er from rfl,List.getElem?_map]
  cases x.rules[p.r.toNat]? with
  | none=>rfl
  | some r=>
   show(if p.a < 0 then Zcl s.er r.er (totals s.er p.s.toNat p.r.toNat)else _)=_
   rw[Zxd,Zuz]
   congr 1
   rw[show r.er.acts=r.acts.map Ac.er from rfl,List.getElem?_map]
   cases r.acts[p.a.toNat]? with
   | none=>rfl
   | some a=>
    show(if p.p < 0 then ZaF s.er r.er a.er else _)=_
    rw[ZrC]
    congr 1
    rw[show a.er.parts=a.parts.map Pt.er from rfl,List.getElem?_map]
    cases a.parts[p.p.toNat]? with
    | none=>rfl
    | some q=>exact Zxe s r a.parts _ q
theorem ZBf(i k m:Nat)(a:Ac):plA i k m a.er=plA i k m a:=by
 unfold plA
 rw[show a.er.parts.length=a.parts.length from List.length_map ..]
theorem ZBg(i k:Nat)(r:Ru):plR i k r.er=plR i k r:=by
 unfold plR
 rw[show r.er.acts.length=r.acts.length from List.length_map ..]
 congr 2
 funext m
 rw[show r.er.acts=r.acts.map Ac.er from rfl,List.getElem?_map]
 cases r.acts[m]? with
 | none=>rfl
 | some a=>exact ZBf i k m a
theorem ZBh(i:Nat)(x:Sta):plS i x.er=plS i x:=by
 unfold plS
 rw[show x.er.rules.length=x.rules.length from List.length_map ..]
 congr 2
 funext m
 rw[show x.er.rules=x.rules.map Ru.er from rfl,List.getElem?_map]
 cases x.rules[m]? with
 | none=>rfl
 | some r=>exact ZBg i m r
theorem ZuA(s:Sc):s.er.places=s.places:=by
 unfold Sc.places
 rw[ZpA,show s.er.states.length=s.states.length from List.length_map ..]
 congr 4
 funext i
 rw[show s.er.states=s.states.map Sta.er from rfl,List.getElem?_map]
 cases s.states[i]? with
 | none=>rfl
 | some x=>exact ZBh i x
def ZsT(x:Sta):List Ac:=x.rules.flatMap (·.acts)
def ZyB(s:Sc):List Ac:=s.states.flatMap ZsT
theorem ZpJ{α β:Type}(f:α->List β){l:List α}{q:Nat}{x:α}(h:l[q]?=some x):(l.take (q+1)).flatMap f=(l.take q).flatMap f++f x:=by
 rw[List.take_add_one,h,List.flatMap_append]
 simp
theorem Zwa{α β:Type}(f:α->List β){l:List α}{q:Nat}{x:α}(h:l[q]?=some x){j:Nat}{y:β}(hj:(f x)[j]?=some y):(l.flatMap f)[((l.take q).flatMap f).length+j]?=some y:=by
 have e:l=l.take q++x::l.drop (q+1):=by
  have hq:=(zA0 h).1
  rw[<-(zA0 h).2,<-List.drop_eq_getElem_cons hq,List.take_append_drop]
 have e2:l.flatMap f=(l.take q).flatMap f++(f x++(l.drop (q+1)).flatMap f):=by
  conv=>lhs;rw[e]
  rw[List.flatMap_append,List.flatMap_cons]
 rw[e2,zA4 (by omega),Nat.add_sub_cancel_left,zA5 (zA0 hj).1]
 exact hj
section
variable {P:Program} {K:TypeId} {κ ν:Type} [DecidableEq κ] {f:κ->Value} {g:ν->Value}
def ZCq(f:κ->Value)(g:ν->Value)(L:List (κ×ν)):List (Value×Value):=L.map λq=>(f q.1,g q.2)
variable (he:∀a b:κ,EqIs P K (f a) (f b) (decide (a=b)))
include he
theorem ZsU(k:κ):∀L:List (κ×ν),k ∉ L.map (·.1)->MapFind P K (f k) (ZCq f g L) none
 | [],_=>rfl
 | q::L,h=>by
  simp only[List.map_cons,List.mem_cons,not_or]at h
  have:=he k q.1
  rw[decide_eq_false h.1]at this
  exact .inr ⟨this,ZsU k L h.2⟩
theorem Zwb(k:κ)(z:ν):∀L:List (κ×ν),k ∉ L.map (·.1)->Zj4 P K (f k) (g z) (ZCq f g L) (ZCq f g (L++[(k,z)]))
 | [],_=>rfl
 | q::L,h=>by
  simp only[List.map_cons,List.mem_cons,not_or]at h
  have:=he k q.1
  rw[decide_eq_false h.1]at this
  exact .inr ⟨this,_,Zwb k z L h.2,rfl⟩
end
theorem ZuB{s t:Sc}(hs:s.light=true)(ht:t.light=true)(gX:∀x∈t.states,x∈s.states)(cB:∀x∈s.states,x∈t.states)(name:ByteArray):Zdu t name=Zdu s name:=by
 unfold Zdu
 rw[hs,ht,Bool.and_true,Bool.and_true,Bool.eq_iff_iff,List.any_eq_true,List.any_eq_true]
 exact⟨λ⟨x,h1,h2⟩=>⟨x,gX x h1,h2⟩,λ⟨x,h1,h2⟩=>⟨x,cB x h1,h2⟩⟩
structure Turn (s t:Sc):Prop where
 n:t.n=s.n
 vars:t.vars=s.vars
 len:t.states.length=s.states.length
 sub:∀x∈t.states,x∈s.states
 sup:∀x∈s.states,x∈t.states
 dif:∀(i j:Nat)(x y:Sta),t.states[i]?=some x->t.states[j]?=some y->i≠j->eqS x.s y.s=false
section
variable {s t:Sc} (h:MkC s) (hT:Turn s t)
include h hT
theorem Turn.weight:t.weight<=8200:=by
 have h1:=Ze0 wS 2025 t.states (λx hx=>by
  obtain⟨i,_,hm⟩:=h.state (hT.sub x hx)
  exact hm.w)
 have h2:=h.len
 have h3:=h.vlen
 unfold Sc.weight
 rw[hT.vars,hT.len]
 rw[hT.len]at h1
 omega
theorem Turn.light:t.light=true:=by unfold Sc.light;exact decide_eq_true (by have:=hT.weight h;omega)
theorem Turn.totals(i k:Nat):Rx.totals t i k<=600:=by
 have h0:=h.len
 have h1:=Ze0 (λx:Sta=>ZbC (x.rules.map Rx.sizeR)) 130 (t.states.take i) (λx hx=>by
  obtain⟨j,_,hm⟩:=h.state (hT.sub x (List.mem_of_mem_take hx))
  have:=hm.sizes x.rules.length
  rwa [List.take_length]at this)
 rw[List.length_take,hT.len]at h1
 unfold Rx.totals
 cases hx:t.states[i]? with
 | none=>show _+0<=_;omega
 | some x=>
  have hi:=(zA0 hx).1
  rw[hT.len]at hi
  obtain⟨j,_,hm⟩:=h.state (hT.sub x (zA2 hx))
  have:=hm.sizes (k+1)
  show _+ZbC ((x.rules.take (k+1)).map Rx.sizeR)<=_
  omega
theorem Turn.at0:∀p∈t.places,atS t p=0:=by
 intro p hp
 have hP:∀{r:Ru} {a:Ac},MkA (Zbv r) a->∀{n:Nat} {q:Pt},a.parts[n]?=some q->ZcJ t r a.parts n q=0:=λ{r a} ha {n q} hq=>by
  have e:ZcJ t r a.parts n q=ZcJ s r a.parts n q:=by unfold ZcJ Zba Za0 Zba;rw[hT.vars]
  rw[e]
  cases ha with
  | send _ _ l hl=>exact h.part hl hq
  | set _ _ _ _ l hl=>exact h.part hl hq
  | let_ _ _ e _=>simp at hq
 rcases ZfF t p hp with⟨i,hi,v,hv⟩|⟨hv,hs|⟨i,hi,x,hx,hr|⟨k,hk,r,hr,ha|⟨j,hj,a,ha,hq|⟨n,hn,q,hq⟩⟩⟩⟩⟩
 ·have e:atS t p=ZaU t i v:=by
   unfold atS
   rw[if_pos (by omega),show p.v.toNat=i by omega,hv]
  have e2:ZaU t i v=ZaU s i v:=by unfold ZaU;rw[hT.vars]
  rw[e,e2];exact h.var (by rw[<-hT.vars];exact hv)
 all_goals have hv':¬p.v ≥ 0:=by omega
 ·unfold atS
  rw[if_neg hv',if_pos hs]
  have e:ZdP t=ZdP s:=by unfold ZdP;rw[hT.n,hT.len,hT.vars]
  rw[e];exact h.whole
 all_goals
  have hs':¬p.s < 0:=by omega
  have iU:p.s.toNat=i:=by omega
  obtain⟨i0,nA,hm⟩:=h.state (hT.sub x (zA2 ‹t.states[i]?=some x›))
 ·have e:atS t p=ZcS t i x:=by
   unfold atS
   rw[if_neg hv',if_neg hs',iU,hx]
   exact if_pos hr
  rw[e]
  have h1:ZbQ x.s=true:=Zpu _ (zA2 hm.name)
  have h2:decide (x.rules.length > 12)=false:=decide_eq_false (by have:=hm.len;omega)
  have h3:((t.states.take i).any λy=>eqS y.s x.s)=false:=by
   rw[List.any_eq_false]
   intro y hy
   obtain⟨j,hj⟩:=List.getElem?_of_mem hy
   have kK:j < i:=by have:=(zA0 hj).1;rw[List.length_take]at this;omega
   rw[List.getElem?_take_of_lt kK]at hj
   rw[hT.dif j i y x hj hx (by omega)];simp
  simp[ZcS,ZaG,h1,h2,h3]
 all_goals
  have hr':¬p.r < 0:=by omega
  have fP:p.r.toNat=k:=by omega
  have hR:=hm.all r (zA2 hr)
 ·have e:atS t p=Zcl t r (Rx.totals t i k):=by
   unfold atS
   rw[if_neg hv',if_neg hs',iU,hx]
   show(if p.r < 0 then _ else _)=_
   rw[if_neg hr',fP,hr]
   exact if_pos ha
  have e2:∀n,Zcl t r n=Zcl s r n:=λn=>by unfold Zcl;rw[ZuB h.light (hT.light h) hT.sub hT.sup]
  rw[e,e2];exact h.rule hR (hT.totals h i k)
 all_goals
  have ha':¬p.a < 0:=by omega
  have jD:p.a.toNat=j:=by omega
  have hA:=hR.all a (zA2 ‹r.acts[j]?=some a›)
 ·have e:atS t p=ZaF t r a:=by
   unfold atS
   rw[if_neg hv',if_neg hs',iU,hx]
   show(if p.r < 0 then _ else _)=_
   rw[if_neg hr',fP,hr]
   show(if p.a < 0 then _ else _)=_
   rw[if_neg ha',jD,‹r.acts[j]?=some a›]
   exact if_pos hq
  have e2:ZaF t r a=ZaF s r a:=by unfold ZaF Zba Za0 Zba;rw[hT.vars]
  rw[e,e2];exact h.action hA
 ·have e:atS t p=ZcJ t r a.parts n q:=by
   unfold atS
   rw[if_neg hv',if_neg hs',iU,hx]
   show(if p.r < 0 then _ else _)=_
   rw[if_neg hr',fP,hr]
   show(if p.a < 0 then _ else _)=_
   rw[if_neg ha',jD,‹r.acts[j]?=some a›]
   show(if p.p < 0 then _ else _)=_
   rw[if_neg (by omega),show p.p.toNat=n by omega,hq]
  rw[e];exact hP hA hq
theorem Turn.check:t.check=(top,0):=by
 have e:t.problems=[]:=by
  unfold Sc.problems
  rw[List.filterMap_eq_nil_iff]
  intro p hp
  rw[if_pos (hT.at0 h p hp)]
 unfold Sc.check
 rw[if_pos (hT.light h),e]
end
def kp(r:Ru):Bool:=decide (r.k ≥ 3)
def ZvA(x:Sta)(j:Nat):Nat:=((x.rules.take j).filter kp).length
theorem ZpK{x:Sta}{j:Nat}{r:Ru}(h:x.rules[j]?=some r):ZvA x (j+1)=ZvA x j+(if kp r then 1 else 0):=by
 unfold ZvA
 rw[List.take_add_one,h,List.filter_append,zA1]
 congr 1
 show([r].filter kp).length=_
 rw[List.filter_cons]
 split <;> rfl
theorem ZuC{x:Sta}{i j:Nat}(h:i<=j):ZvA x i<=ZvA x j:=by
 induction j with
 | zero=>rw[show i=0 by omega];exact Nat.le_refl _
 | succ j ih=>
  by_cases e:i=j+1
  ·rw[e];exact Nat.le_refl _
  ·refine Nat.le_trans (ih (by omega)) ?_
   cases hx:x.rules[j]? with
   | some r=>rw[ZpK hx];omega
   | none=>unfold ZvA;rw[List.take_add_one,hx];simp
theorem Zwc{x:Sta}{i j:Nat}{r:Ru}(hr:x.rules[i]?=some r)(hk:kp r=true)(h:i < j):ZvA x i < ZvA x j:=by
 have h1:=ZpK hr
 rw[hk,if_pos rfl]at h1
 have:=ZuC (x:=x) (show i+1<=j by omega)
 omega
theorem Zxf{x:Sta}{i j:Nat}{p q:Ru}(hp:x.rules[i]?=some p)(hq:x.rules[j]?=some q)(kpp:kp p=true)(kpq:kp q=true)(h:ZvA x i=ZvA x j):i=j:=by
 rcases Nat.lt_trichotomy i j with h1|h1|h1
 ·have:=Zwc hp kpp h1;omega
 ·exact h1
 ·have:=Zwc hq kpq h1;omega
def ZDp(x:Sta)(d:Dd):Dd:=(d.1,(ZvA x d.2.toNat:Nat))
def phi(s:Sc)(d:Dd):Dd:=match s.states[d.1.toNat]? with
 | some x=>ZDp x d
 | none=>d
theorem Zzr{s:Sc}{d:Dd}(h:d∈Zzp s):∃(i k:Nat)(x:Sta)(r:Ru),d=((i:Int),(k:Int))/\s.states[i]?=some x/\x.rules[k]?=some r/\kp r=true/\phi s d=((i:Int),((ZvA x k:Nat):Int)):=by
 obtain⟨i,x,k,r,h1,h2,h3,rfl⟩:=Zw9.1 h
 refine⟨i,k,x,r,rfl,h1,h2,?_,?_⟩
 ·unfold Zv7 at h3
  rw[Bool.or_eq_true,zA7,zA7]at h3
  unfold kp
  rcases h3 with⟨h4,_⟩|⟨h4,_⟩
  ·have:r.k=4:=by simpa using h4
   exact decide_eq_true (by omega)
  ·have:r.k=3:=by simpa using h4
   exact decide_eq_true (by omega)
 ·unfold phi ZDp
  simp only[zA8,h1]
section
variable {α:Type} [Inhabited α] (enc:α->Value)
end
end Go.Rx
namespace Go.Rx
open Go Go.Eng
end Go.Rx
namespace Go.Rx
open Go Go.Eng Go.RowKit
section
variable {m2 m3:Mem} {s':Sc} {bS:Nat} {μ:Nat->Mem} (dX:RepC (nw m2 m3) s') (iG:SepC m2 m3 s' bS μ)
include iG
include dX
end
abbrev PF(t:Sc)(p:Pl):Option (Pl×Int):=if atS t p=0 then none else some (p,atS t p)
theorem pf0{t:Sc}{p:Pl}(h:atS t p=0):PF t p=none:=if_pos h
theorem Zfi(F:Pl->Option (Pl×Int))(f:Nat->List Pl):∀n,(∀j,j < n->(f j).filterMap F=[])->(Zdr n f).filterMap F=[]
 | 0,_=>rfl
 | n+1,h=>by
  rw[Zbw,List.filterMap_append,Zfi F f n (λj hj=>h j (by omega)),h n (by omega)];rfl
theorem Zxg(F:Pl->Option (Pl×Int))(f:Nat->List Pl){i:Nat}:∀n,i < n->(∀j,j < n->j≠i->(f j).filterMap F=[])->(Zdr n f).filterMap F=(f i).filterMap F
 | 0,hi,_=>by omega
 | n+1,hi,h=>by
  rw[Zbw,List.filterMap_append]
  by_cases e:i=n
  ·subst e
   rw[Zfi F f i (λj hj=>h j (by omega) (by omega))];rfl
  ·rw[Zxg F f n (by omega) (λj hj cY=>h j (by omega) cY),h n (by omega) (λe'=>e e'.symm),List.append_nil]
theorem Zzs(t:Sc){i:Nat}{v:Va}(h:t.vars[i]?=some v):atS t ⟨i,-1,-1,-1,-1⟩=ZaU t i v:=by
 unfold atS
 rw[if_pos (show(i:Int) ≥ 0 by omega),show((i:Int).toNat)=i from rfl]
 rw[h]
theorem Zxh(t:Sc){i:Nat}{x:Sta}(h:t.states[i]?=some x):atS t ⟨-1,i,-1,-1,-1⟩=ZcS t i x:=by
 unfold atS
 rw[if_neg (by show ¬(-1:Int) ≥ 0;decide),if_neg (by show ¬(i:Int) < 0;omega),show((i:Int).toNat)=i from rfl,h]
 exact if_pos (show(-1:Int) < 0 by decide)
theorem Zxi(t:Sc){i k:Nat}{x:Sta}{r:Ru}(h:t.states[i]?=some x)(hr:x.rules[k]?=some r):atS t ⟨-1,i,k,-1,-1⟩=Zcl t r (totals t i k):=by
 unfold atS
 rw[if_neg (by show ¬(-1:Int) ≥ 0;decide),if_neg (by show ¬(i:Int) < 0;omega),show((i:Int).toNat)=i from rfl,h]
 show(if(k:Int) < 0 then _ else _)=_
 rw[if_neg (by omega),show((k:Int).toNat)=k from rfl,hr]
 exact if_pos (show(-1:Int) < 0 by decide)
theorem Zxj(t:Sc){i k m:Nat}{x:Sta}{r:Ru}{a:Ac}(h:t.states[i]?=some x)(hr:x.rules[k]?=some r)(ha:r.acts[m]?=some a):atS t ⟨-1,i,k,m,-1⟩=ZaF t r a:=by
 unfold atS
 rw[if_neg (by show ¬(-1:Int) ≥ 0;decide),if_neg (by show ¬(i:Int) < 0;omega),show((i:Int).toNat)=i from rfl,h]
 show(if(k:Int) < 0 then _ else _)=_
 rw[if_neg (by omega),show((k:Int).toNat)=k from rfl,hr]
 show(if(m:Int) < 0 then _ else _)=_
 rw[if_neg (by omega),show((m:Int).toNat)=m from rfl,ha]
 exact if_pos (show(-1:Int) < 0 by decide)
theorem Zxk(t:Sc){i k m n:Nat}{x:Sta}{r:Ru}{a:Ac}{q:Pt}(h:t.states[i]?=some x)(hr:x.rules[k]?=some r)(ha:r.acts[m]?=some a)(hq:a.parts[n]?=some q):atS t ⟨-1,i,k,m,n⟩=ZcJ t r a.parts n q:=by
 unfold atS
 rw[if_neg (by show ¬(-1:Int) ≥ 0;decide),if_neg (by show ¬(i:Int) < 0;omega),show((i:Int).toNat)=i from rfl,h]
 show(if(k:Int) < 0 then _ else _)=_
 rw[if_neg (by omega),show((k:Int).toNat)=k from rfl,hr]
 show(if(m:Int) < 0 then _ else _)=_
 rw[if_neg (by omega),show((m:Int).toNat)=m from rfl,ha]
 show(if(n:Int) < 0 then _ else _)=_
 rw[if_neg (by omega),show((n:Int).toNat)=n from rfl,hq]
structure Near (s t:Sc):Prop where
 n:t.n=s.n
 vars:t.vars=s.vars
 names:t.states.map Sta.s=s.states.map Sta.s
 light:t.light=true
 tot:∀i k,totals t i k<=600
section
variable {s t:Sc} (h:MkC s) (hN:Near s t)
include hN
theorem Near.len:t.states.length=s.states.length:=by simpa using congrArg List.length hN.names
theorem Near.kind(name:ByteArray):Zba t name=Zba s name:=by unfold Zba;rw[hN.vars]
theorem Near.numbers(e:E):Za0 t e=Za0 s e:=by unfold Za0;simp only[hN.kind]
theorem Near.any(name:ByteArray):(t.states.any λx=>eqS x.s name)=s.states.any λx=>eqS x.s name:=by
 have e:∀l:List Sta,(l.any λx=>eqS x.s name)=(l.map Sta.s).any λy=>eqS y name:=λl=>by rw[List.any_map];rfl
 rw[e,e,hN.names]
theorem Near.anyTake(i:Nat)(name:ByteArray):((t.states.take i).any λy=>eqS y.s name)=(s.states.take i).any λy=>eqS y.s name:=by
 have e:∀l:List Sta,(l.any λx=>eqS x.s name)=(l.map Sta.s).any λy=>eqS y name:=λl=>by rw[List.any_map];rfl
 rw[e,e,List.map_take,List.map_take,hN.names]
theorem Near.action(r:Ru)(a:Ac):ZaF t r a=ZaF s r a:=by unfold ZaF;simp only[hN.kind,hN.numbers]
theorem Near.part(r:Ru)(l:List Pt)(n:Nat)(p:Pt):ZcJ t r l n p=ZcJ s r l n p:=by
 rw[Ziq,Ziq];simp only[hN.kind,hN.numbers]
include h
theorem Near.finds(name:ByteArray):Zdu t name=Zdu s name:=by unfold Zdu;rw[hN.any,hN.light,h.light]
theorem Near.rule(r:Ru)(T:Int):Zcl t r T=Zcl s r T:=by unfold Zcl;simp only[hN.finds h]
theorem Near.whole:ZdP t=0:=by
 have:=h.whole
 unfold ZdP at this ⊢
 rw[hN.n,hN.vars,hN.len];exact this
theorem Near.var{i:Nat}{v:Va}(hv:t.vars[i]?=some v):ZaU t i v=0:=by
 rw[hN.vars]at hv
 have:=h.var hv
 unfold ZaU at this ⊢
 rw[hN.vars];exact this
theorem Near.sta{i:Nat}{x y:Sta}(hx:s.states[i]?=some x)(hy:y.s=x.s)(hl:y.rules.length=x.rules.length):ZcS t i y=0:=by
 have:=h.stateOk hx
 unfold ZcS at this ⊢
 rw[hy,hl,hN.anyTake];exact this
theorem Near.fmR{i k:Nat}{x:Sta}{r:Ru}(hx:t.states[i]?=some x)(hr:x.rules[k]?=some r)(hm:MkR s.states.length r):(plR i k r).filterMap (PF t)=[]:=by
 rw[Zks,List.filterMap_cons_none (pf0 (by rw[Zxi t hx hr,hN.rule h];exact h.rule hm (hN.tot i k)))]
 refine Zfi _ _ _ λm lW=>?_
 obtain⟨a,ha⟩:=ZjK lW
 have hA:=hm.all a (zA2 ha)
 unfold Hf
 rw[ha]
 show(plA i k m a).filterMap (PF t)=[]
 rw[Zkr,List.filterMap_cons_none (pf0 (by rw[Zxj t hx hr ha,hN.action];exact h.action hA))]
 refine Zfi _ _ _ λn kG=>?_
 obtain⟨q,hq⟩:=ZjK kG
 unfold Pf
 rw[List.filterMap_cons_none (pf0 (by
  rw[Zxk t hx hr ha hq,hN.part]
  cases hA with
  | send _ _ l hl=>exact h.part hl hq
  | set _ _ _ _ l hl=>exact h.part hl hq
  | let_ _ _ e _=>simp at hq))]
 rfl
theorem Near.one{i k:Nat}{x x':Sta}{r:Ru}(hx:s.states[i]?=some x)(hk:k < x.rules.length)(hx':t.states[i]?=some x')(cT:x'.s=x.s)(hr:x'.rules=x.rules.set k r)(ho:∀j,j≠i->t.states[j]?=s.states[j]?):t.problems=(plR i k r).filterMap (PF t):=by
 have hi:=(zA0 hx').1
 have hm:=h.all i x hx
 have j9:x'.rules.length=x.rules.length:=by rw[hr,List.length_set]
 show t.places.filterMap (PF t)=_
 rw[Zey hN.light,List.filterMap_cons_none (pf0 (show atS t top=0 from by
  have:atS t top=ZdP t:=by unfold atS;rw[if_neg (by decide)];exact if_pos (by decide)
  rw[this];exact hN.whole h)),List.filterMap_append,Zfi _ _ _ (λj hj=>by
   obtain⟨v,hv⟩:=ZjK hj
   unfold Vf
   rw[List.filterMap_cons_none (pf0 (by rw[Zzs t hv];exact hN.var h hv))];rfl),List.nil_append]
 rw[Zxg (i:=i) _ _ _ hi λj hj kK=>?_]
 ·unfold Ff
  rw[hx']
  show(plS i x').filterMap (PF t)=_
  rw[Zkt,List.filterMap_cons_none (pf0 (by rw[Zxh t hx'];exact hN.sta h hx cT j9))]
  rw[Zxg (i:=k) _ _ _ (by omega) λj hj rI=>?_]
  ·unfold Gf
   rw[hr,List.getElem?_set_self hk]
  ·obtain⟨q,hq⟩:=ZjK hj
   unfold Gf
   rw[hq]
   refine hN.fmR h hx' hq (hm.all q ?_)
   rw[hr,List.getElem?_set_ne (Ne.symm rI)]at hq
   exact zA2 hq
 ·obtain⟨y,hy⟩:=ZjK hj
  have hy':=hy
  rw[ho j kK]at hy'
  have qo:=h.all j y hy'
  unfold Ff
  rw[hy]
  show(plS j y).filterMap (PF t)=_
  rw[Zkt,List.filterMap_cons_none (pf0 (by rw[Zxh t hy];exact hN.sta h hy' rfl rfl))]
  refine Zfi _ _ _ λn kG=>?_
  obtain⟨q,hq⟩:=ZjK kG
  unfold Gf
  rw[hq]
  exact hN.fmR h hy hq (qo.all q (zA2 hq))
end
section
variable {s:Sc} (h:MkC s) {i k c:Nat} {x:Sta} {r:Ru} (hx:s.states[i]?=some x) (hr:x.rules[k]?=some r) (hc:c < 10)
include h hx hr hc
omit hx hr in
omit hx hr in
omit hx hr in
omit hx hr in
end
theorem ZBi:∀i < 4,∀j < 4,eqS (Zv0.getD i .empty) (Zv0.getD j .empty)=decide (i=j):=by decide +kernel
def ZB3(r:Ru):Option Int:=if r.go.size=0 then none else some ((Zv0.findIdx? λn=>eqS r.go n).elim (-1) λk:Nat=>(k:Int))
theorem MkC.drop{s:Sc}(h:MkC s){i k:Nat}{x:Sta}(hx:s.states[i]?=some x)(hk:k < x.rules.length):MkC (ZAP s i k):=by
 have h2:ZAP s i k=⟨s.n,s.va,s.vc,s.vars,s.sa,s.sc,s.states.set i (Zuu x k)⟩:=by unfold ZAP;rw[hx]
 have aQ:(s.states.set i (Zuu x k)).length=s.states.length:=List.length_set
 rw[h2]
 refine⟨h.n,h.vlen,h.vall,by show 1<=(s.states.set i (Zuu x k)).length/\(s.states.set i (Zuu x k)).length<=4;rw[aQ];exact h.len,λj y hy=>?_⟩
 show MkS (s.states.set i (Zuu x k)).length j y
 rw[aQ]
 have hy:(s.states.set i (Zuu x k))[j]?=some y:=hy
 by_cases hj:j=i
 ·subst hj
  rw[List.getElem?_set_self (zA0 hx).1]at hy
  cases hy
  have hm:=h.all j x hx
  refine⟨hm.name,?_,λr hr=>hm.all r ?_⟩
  ·show(x.rules.eraseIdx k).length<=5
   have:=hm.len
   rw[List.length_eraseIdx];split <;> omega
  ·exact List.mem_of_mem_eraseIdx hr
 ·rw[List.getElem?_set_ne (Ne.symm hj)]at hy
  exact h.all j y hy
section
variable {s:Sc} (h:MkC s) {i k:Nat} {x:Sta} {q r:Ru} (hx:s.states[i]?=some x) (hr:x.rules[k]?=some q) (hw:wR r<=600) (hz:Rx.sizeR r<=26)
include h hx hr hw hz
end
theorem ZsV{s:Sc}{r:Ru}{T:Int}(h:Zcl s r T=0):(!ZaW r||decide (r.acts.length > 8))=false/\(r.k == 1&&(!(r.t.check == 0)||decide (T > 600)))=false:=by
 unfold Zcl ZaG ZaG at h
 split at h
 ·omega
 rename_i h1
 split at h
 ·omega
 rename_i h2
 exact⟨by simpa using h1,by simpa using h2⟩
structure Kept (s t:Sc):Prop where
 n:t.n=s.n
 vars:t.vars=s.vars
 len:1<=t.states.length/\t.states.length<=4
 sub:∀x∈t.states,x∈s.states
 dif:∀(i j:Nat)(x y:Sta),t.states[i]?=some x->t.states[j]?=some y->i≠j->eqS x.s y.s=false
 cl:∀x∈t.states,∀r∈x.rules,r.go.size≠0->(t.states.any λx=>eqS x.s r.go)=true
section
variable {s t:Sc} (h:MkC s) (hT:Kept s t)
include h hT
theorem Kept.light:t.light=true:=by
 have h1:=Ze0 wS 2025 t.states (λx hx=>by
  obtain⟨i,_,hm⟩:=h.state (hT.sub x hx)
  exact hm.w)
 have h2:=hT.len
 have h3:=h.vlen
 unfold Sc.light Sc.weight
 rw[hT.vars]
 refine decide_eq_true ?_
 omega
theorem Kept.totals(i k:Nat):Rx.totals t i k<=600:=by
 have h0:=hT.len
 have h1:=Ze0 (λx:Sta=>ZbC (x.rules.map Rx.sizeR)) 130 (t.states.take i) (λx hx=>by
  obtain⟨j,_,hm⟩:=h.state (hT.sub x (List.mem_of_mem_take hx))
  have:=hm.sizes x.rules.length
  rwa [List.take_length]at this)
 rw[List.length_take]at h1
 unfold Rx.totals
 cases hx:t.states[i]? with
 | none=>show _+0<=_;omega
 | some x=>
  have hi:=(zA0 hx).1
  obtain⟨j,_,hm⟩:=h.state (hT.sub x (zA2 hx))
  have:=hm.sizes (k+1)
  show _+ZbC ((x.rules.take (k+1)).map Rx.sizeR)<=_
  omega
theorem Kept.at0:∀p∈t.places,atS t p=0:=by
 intro p hp
 have hP:∀{r:Ru} {a:Ac},MkA (Zbv r) a->∀{n:Nat} {q:Pt},a.parts[n]?=some q->ZcJ t r a.parts n q=0:=λ{r a} ha {n q} hq=>by
  have e:ZcJ t r a.parts n q=ZcJ s r a.parts n q:=by unfold ZcJ Zba Za0 Zba;rw[hT.vars]
  rw[e]
  cases ha with
  | send _ _ l hl=>exact h.part hl hq
  | set _ _ _ _ l hl=>exact h.part hl hq
  | let_ _ _ e _=>simp at hq
 rcases ZfF t p hp with⟨i,hi,v,hv⟩|⟨hv,hs|⟨i,hi,x,hx,hr|⟨k,hk,r,hr,ha|⟨j,hj,a,ha,hq|⟨n,hn,q,hq⟩⟩⟩⟩⟩
 ·have e:atS t p=ZaU t i v:=by
   unfold atS
   rw[if_pos (by omega),show p.v.toNat=i by omega,hv]
  have e2:ZaU t i v=ZaU s i v:=by unfold ZaU;rw[hT.vars]
  rw[e,e2];exact h.var (by rw[<-hT.vars];exact hv)
 all_goals have hv':¬p.v ≥ 0:=by omega
 ·unfold atS
  rw[if_neg hv',if_pos hs]
  have h1:ZaX t.n 2 256=true:=ZbI.2 (by rw[hT.n];have:=h.n;omega)
  have h2:ZaX t.states.length 1 24=true:=ZbI.2 (by have:=hT.len;omega)
  have h3:decide (t.vars.length > 12)=false:=decide_eq_false (by rw[hT.vars];have:=h.vlen;omega)
  simp[ZdP,ZaG,h1,h2,h3]
 all_goals
  have hs':¬p.s < 0:=by omega
  have iU:p.s.toNat=i:=by omega
  obtain⟨i0,nA,hm⟩:=h.state (hT.sub x (zA2 ‹t.states[i]?=some x›))
 ·have e:atS t p=ZcS t i x:=by
   unfold atS
   rw[if_neg hv',if_neg hs',iU,hx]
   exact if_pos hr
  rw[e]
  have h1:ZbQ x.s=true:=Zpu _ (zA2 hm.name)
  have h2:decide (x.rules.length > 12)=false:=decide_eq_false (by have:=hm.len;omega)
  have h3:((t.states.take i).any λy=>eqS y.s x.s)=false:=by
   rw[List.any_eq_false]
   intro y hy
   obtain⟨j,hj⟩:=List.getElem?_of_mem hy
   have kK:j < i:=by have:=(zA0 hj).1;rw[List.length_take]at this;omega
   rw[List.getElem?_take_of_lt kK]at hj
   rw[hT.dif j i y x hj hx (by omega)];simp
  simp[ZcS,ZaG,h1,h2,h3]
 all_goals
  have hr':¬p.r < 0:=by omega
  have fP:p.r.toNat=k:=by omega
  have hR:=hm.all r (zA2 hr)
 ·have e:atS t p=Zcl t r (Rx.totals t i k):=by
   unfold atS
   rw[if_neg hv',if_neg hs',iU,hx]
   show(if p.r < 0 then _ else _)=_
   rw[if_neg hr',fP,hr]
   exact if_pos ha
  rw[e]
  have e0:=h.rule hR (hT.totals h i k)
  obtain⟨g1,g2⟩:=ZsV e0
  by_cases hz:r.go.size=0
  ·have e2:Zcl t r (Rx.totals t i k)=Zcl s r (Rx.totals t i k):=by unfold Zcl;rw[if_pos hz,if_pos hz]
   rw[e2];exact e0
  ·have hf:Zdu t r.go=true:=by
    unfold Zdu
    rw[hT.cl x (zA2 hx) r (zA2 hr) hz,hT.light h];rfl
   have hc:(r.code == 0)=true:=by
    rcases hR.go with⟨_,hc⟩|⟨hg,_⟩
    ·rw[hc];rfl
    ·rw[hg]at hz;exact absurd Zax hz
   unfold Zcl ZaG ZaG ZaG
   rw[g1,g2,if_neg hz,hf,hc];rfl
 all_goals
  have ha':¬p.a < 0:=by omega
  have jD:p.a.toNat=j:=by omega
  have hA:=hR.all a (zA2 ‹r.acts[j]?=some a›)
 ·have e:atS t p=ZaF t r a:=by
   unfold atS
   rw[if_neg hv',if_neg hs',iU,hx]
   show(if p.r < 0 then _ else _)=_
   rw[if_neg hr',fP,hr]
   show(if p.a < 0 then _ else _)=_
   rw[if_neg ha',jD,‹r.acts[j]?=some a›]
   exact if_pos hq
  have e2:ZaF t r a=ZaF s r a:=by unfold ZaF Zba Za0 Zba;rw[hT.vars]
  rw[e,e2];exact h.action hA
 ·have e:atS t p=ZcJ t r a.parts n q:=by
   unfold atS
   rw[if_neg hv',if_neg hs',iU,hx]
   show(if p.r < 0 then _ else _)=_
   rw[if_neg hr',fP,hr]
   show(if p.a < 0 then _ else _)=_
   rw[if_neg ha',jD,‹r.acts[j]?=some a›]
   show(if p.p < 0 then _ else _)=_
   rw[if_neg (by omega),show p.p.toNat=n by omega,hq]
  rw[e];exact hP hA hq
theorem Kept.check:t.check=(top,0):=by
 have e:t.problems=[]:=by
  unfold Sc.problems
  rw[List.filterMap_eq_nil_iff]
  intro p hp
  rw[if_pos (hT.at0 h p hp)]
 unfold Sc.check
 rw[if_pos (hT.light h),e]
end
def ZuD(s:Sc)(ns:List Nat):Sc:=⟨s.n,none,0,s.vars,none,0,ns.filterMap λi=>s.states[i]?⟩
structure Closed (s:Sc)(ns:List Nat):Prop where
 nd:ns.Nodup
 lt:∀i∈ns,i < s.states.length
 ne:ns≠[]
 cl:∀i∈ns,∀x,s.states[i]?=some x->∀y∈x.rules.filterMap ZB3,∃k∈ns,y=(k:Nat)
theorem Zn8{s:Sc}{ns:List Nat}(hl:∀i∈ns,i < s.states.length):ns.map (λi=>(s.states[i]?).map Sta.er)=(ZuD s ns).states.map λx=>some x.er:=by
 show _=(ns.filterMap λi=>s.states[i]?).map _
 induction ns with
 | nil=>rfl
 | cons i ns ih=>
  have hi:=hl i (by simp)
  rw[List.map_cons,List.filterMap_cons_some (zA3 hi),List.map_cons,ih λj hj=>hl j (by simp[hj])]
  rw[zA3 hi];rfl
theorem Zzt{s:Sc}{ns:List Nat}(hl:∀i∈ns,i < s.states.length)(j:Nat):(ZuD s ns).states[j]?=ns[j]?.bind λi=>s.states[i]?:=by
 show(ns.filterMap λi=>s.states[i]?)[j]?=_
 induction ns generalizing j with
 | nil=>simp
 | cons i ns ih=>
  have hi:=hl i (by simp)
  rw[List.filterMap_cons_some (zA3 hi)]
  cases j with
  | zero=>simp[zA3 hi]
  | succ j=>simpa using ih (λj hj=>hl j (by simp[hj])) j
theorem ZuE{ns:List Nat}{n:Nat}(h:ns.Nodup)(hl:∀i∈ns,i < n):ns.length<=n:=by
 have:=List.Nodup.length_le_of_subset h (l₂:=List.range n) λi hi=>List.mem_range.2 (hl i hi)
 rwa [List.length_range]at this
end Go.Rx
namespace Go.Rx
open Go Go.Eng
def ZdQ(out:List ByteArray)(n:ByteArray):List ByteArray:=if out.any (λy=>eqS n y)then out else out++[n]
def Zc6(out:List ByteArray)(p:Pt):List ByteArray:=if p.k=2 then ZdQ out p.s else if p.k=4 then p.e.vars.foldl ZdQ out else out
def ZcN(out:List ByteArray)(a:Ac):List ByteArray:=if a.k=3 then a.e.vars.foldl ZdQ out else out
def ZeM(w:Bool)(out:List ByteArray)(a:Ac):List ByteArray:=if w then(if a.k=2\/a.k=3 then ZdQ out a.s else out)else a.parts.foldl Zc6 (ZcN out a)
def ZfI(w:Bool)(r:Ru):List ByteArray:=if Zgz r then r.acts.foldl (ZeM w) []else[]
theorem ZkB{α β:Type}(f:β->α->β)(b:β){l:List α}{i:Nat}{x:α}(h:l[i]?=some x):(l.take (i+1)).foldl f b=f ((l.take i).foldl f b) x:=by
 rw[List.take_add_one,h,List.foldl_append];rfl
theorem Zn9(out:List ByteArray)(n:ByteArray):out.length<=(ZdQ out n).length/\(ZdQ out n).length<=out.length+1:=by
 unfold ZdQ;split <;> simp
theorem Zzu{out:List ByteArray}{n:ByteArray}(h:out.any (λy=>eqS n y)=false):ZdQ out n=out++[n]:=by unfold ZdQ;rw[h,if_neg (by decide)]
theorem Zzv{out:List ByteArray}{n:ByteArray}(h:out.any (λy=>eqS n y)=true):ZdQ out n=out:=by unfold ZdQ;rw[h,if_pos rfl]
theorem Zwd{α:Type}{f:List ByteArray->α->List ByteArray}{w:α->Nat}(h:∀o x,o.length<=(f o x).length/\(f o x).length<=o.length+w x):∀(l:List α)(o:List ByteArray),o.length<=(l.foldl f o).length/\(l.foldl f o).length<=o.length+(l.map w).sum
 | [],o=>by simp
 | x::l,o=>by
  have h1:=h o x
  have h2:=Zwd h l (f o x)
  simp only[List.foldl_cons,List.map_cons,List.sum_cons];omega
theorem Zoa(l:List ByteArray)(o:List ByteArray):o.length<=(l.foldl ZdQ o).length/\(l.foldl ZdQ o).length<=o.length+l.length:=by
 have:=Zwd (f:=ZdQ) (w:=λ_=>1) Zn9 l o
 rwa [List.map_const',List.sum_replicate_nat,Nat.mul_one]at this
theorem ZsW(e:E):e.vars.length<=10000:=by
 unfold E.vars
 split
 ·rename_i h
  have h2:=ZdE e []
  have h3:=zA6 (show decide (e.nodes.length<=10000)=true from h)
  simp only[List.length_nil]at h2
  omega
 ·simp
theorem Zwe(e:E):(e.vars.length:Int)<=nE e:=by
 unfold E.vars nE E.size
 cases h:e.light with
 | false=>simp
 | true=>
  have h2:=ZdE e []
  simp only[List.length_nil]at h2
  simp;omega
theorem Zob{α:Type}{f:List ByteArray->α->List ByteArray}{w:α->Int}(h:∀o x,((f o x).length:Int)<=o.length+w x):∀(l:List α)(o:List ByteArray),((l.foldl f o).length:Int)<=o.length+ZbC (l.map w)
 | [],o=>by simp[ZbC]
 | x::l,o=>by
  have h1:=h o x
  have h2:=Zob h l (f o x)
  simp only[List.foldl_cons,List.map_cons,ZbC];omega
theorem ZrD(o:List ByteArray)(p:Pt):((Zc6 o p).length:Int)<=o.length+(1+nE p.e):=by
 have h0:=(ZiD p.e).1
 have h1:=Zwe p.e
 have h2:=Zn9 o p.s
 have h3:=Zoa p.e.vars o
 unfold Zc6
 split
 ·omega
 ·split <;> omega
theorem ZrE(o:List ByteArray)(a:Ac):((ZcN o a).length:Int)<=o.length+nE a.e:=by
 have h0:=(ZiD a.e).1
 have h1:=Zwe a.e
 have h3:=Zoa a.e.vars o
 unfold ZcN
 split <;> omega
theorem Zzw(l:List Pt):ZbC (l.map λp=>1+nE p.e)=l.length+ZbC (l.map λp=>nE p.e):=by
 induction l with
 | nil=>rfl
 | cons p l ih=>simp only[List.map_cons,ZbC,List.length_cons,ih];omega
theorem Zis(o:List ByteArray)(a:Ac)(j:Nat):(((a.parts.take j).foldl Zc6 (ZcN o a)).length:Int)<=o.length+wA a:=by
 have h1:=Zob ZrD (a.parts.take j) (ZcN o a)
 have h2:=ZrE o a
 have h3:=Zgh (λp:Pt=>1+nE p.e) (λp=>by have:=(ZiD p.e).1;omega) a.parts j
 have h4:=Zzw a.parts
 unfold wA
 omega
theorem ZpL(w:Bool)(o:List ByteArray)(a:Ac):((ZeM w o a).length:Int)<=o.length+wA a:=by
 have h1:=Zis o a a.parts.length
 rw[List.take_length]at h1
 have h2:=Zn9 o a.s
 have h3:=(ZiD a.e).1
 have h4:=ZeY (λp:Pt=>nE p.e) (λp=>(ZiD p.e).1) a.parts
 have h5:1<=wA a:=by unfold wA;omega
 unfold ZeM
 cases w with
 | true=>rw[if_pos rfl];split <;> omega
 | false=>rw[if_neg (by decide)];omega
theorem Zwf(w:Bool){r:Ru}(h:Zgz r=true)(q:Nat){a:Ac}(ha:r.acts[q]?=some a):(((r.acts.take q).foldl (ZeM w) []).length:Int)+wA a<=20000:=by
 have h1:=Zob (ZpL w) (r.acts.take q) []
 have h2:=Zgh wA Zuj r.acts (q+1)
 rw[Zd6 wA ha]at h2
 have h3:=zA6 (show decide (wR r<=19999)=true from h)
 have h4:=(Zhp r.t).1
 have h5:0<=Zfl r.t.size 20000:=by unfold Zfl;split <;> omega
 unfold wR at h3
 simp only[List.length_nil]at h1
 split at h3 <;> omega
def ZiL(l:List ByteArray)(x:ByteArray):Bool:=l.any (λy=>eqS x y)
theorem ZpM{a b:ByteArray}:eqS a b=true↔a.toList=b.toList:=by unfold eqS;exact beq_iff_eq
theorem Zoc{l:List ByteArray}{x:ByteArray}:ZiL l x=true↔∃y∈l,x.toList=y.toList:=by
 unfold ZiL;rw[List.any_eq_true]
 exact⟨λ⟨y,h1,h2⟩=>⟨y,h1,ZpM.1 h2⟩,λ⟨y,h1,h2⟩=>⟨y,h1,ZpM.2 h2⟩⟩
theorem Zxl(l r:List ByteArray)(x:ByteArray):ZiL (l++r) x=(ZiL l x||ZiL r x):=by simp[ZiL]
theorem ZuF(out:List ByteArray)(n x:ByteArray):ZiL (ZdQ out n) x=(ZiL out x||eqS x n):=by
 cases h:out.any (λy=>eqS n y)with
 | true=>
  rw[Zzv h,Bool.eq_iff_iff,Bool.or_eq_true]
  refine⟨.inl,λh'=>h'.elim id λh2=>?_⟩
  obtain⟨y,hy,he⟩:=Zoc.1 (show ZiL out n=true from h)
  exact Zoc.2 ⟨y,hy,(ZpM.1 h2).trans he⟩
 | false=>
  rw[Zzu h,Zxl];simp[ZiL]
theorem ZpN(x:ByteArray):∀l out:List ByteArray,ZiL (l.foldl ZdQ out) x=(ZiL out x||ZiL l x)
 | [],out=>by simp[ZiL]
 | n::l,out=>by
  rw[List.foldl_cons,ZpN x l,ZuF,Bool.or_assoc];rfl
theorem Zxm{out:List ByteArray}{n z:ByteArray}(h:z∈ZdQ out n):z∈out\/z=n:=by
 unfold ZdQ at h
 split at h
 ·exact .inl h
 ·simpa using h
theorem ZsX{z:ByteArray}:∀l out:List ByteArray,z∈l.foldl ZdQ out->z∈out\/z∈l
 | [],out,h=>.inl h
 | n::l,out,h=>by
  rcases ZsX l _ h with h|h
  ·rcases Zxm h with h|rfl
   ·exact .inl h
   ·exact .inr (by simp)
  ·exact .inr (by simp[h])
abbrev Apart(l:List ByteArray):Prop:=l.Pairwise λx y=>eqS y x=false
theorem ZkC{α β γ:Type}(f:α->List β)(h:γ->β->γ){g:γ->α->γ}(hg:∀o x,g o x=(f x).foldl h o):∀(l:List α)(o:γ),l.foldl g o=((l.map f).flatten).foldl h o
 | [],o=>rfl
 | x::l,o=>by rw[List.foldl_cons,ZkC f h hg l,hg,List.map_cons,List.flatten_cons,List.foldl_append]
def nmP(p:Pt):List ByteArray:=if p.k=2 then[p.s]else if p.k=4 then p.e.vars else[]
def nmA(w:Bool)(a:Ac):List ByteArray:=if w then(if a.k=2\/a.k=3 then[a.s]else[])else(if a.k=3 then a.e.vars else[])++(a.parts.map nmP).flatten
theorem ZuG(o:List ByteArray)(p:Pt):Zc6 o p=(nmP p).foldl ZdQ o:=by
 unfold Zc6 nmP
 split
 ·rfl
 ·split <;> rfl
theorem Zxn(w:Bool)(o:List ByteArray)(a:Ac):ZeM w o a=(nmA w a).foldl ZdQ o:=by
 unfold ZeM nmA ZcN
 cases w with
 | true=>simp only[if_true];split <;> rfl
 | false=>
  simp only[Bool.false_eq_true,if_false]
  rw[List.foldl_append,ZkC nmP ZdQ ZuG]
  split <;> rfl
theorem ZsY(w:Bool){r:Ru}(h:Zgz r=true):ZfI w r=((r.acts.map (nmA w)).flatten).foldl ZdQ []:=by
 unfold ZfI;rw[if_pos h];exact ZkC (nmA w) ZdQ (Zxn w) _ _
theorem MkP.names{c:Int}{p:Pt}(h:MkP c p):∀z∈nmP p,z∈Zgj++Zdi:=by
 intro z hz
 cases h with
 | lit s h=>simp[nmP]at hz
 | var s h=>
  simp[nmP]at hz;subst hz
  exact List.mem_append.2 h
 | cap g h=>simp[nmP]at hz
 | clc e h=>exact List.mem_append_left _ (h.vars z (by simpa[nmP]using hz))
theorem MkA.names{c:Int}{a:Ac}(h:MkA c a)(w:Bool):∀z∈nmA w a,z∈Zgj++Zdi:=by
 intro z hz
 have go:∀{l:List Pt},MkT c l->z∈(l.map nmP).flatten->z∈Zgj++Zdi:=λ{l} h hz=>by
  simp only[List.mem_flatten,List.mem_map]at hz
  obtain⟨_,⟨p,hp,rfl⟩,hz⟩:=hz
  exact(h.all p hp).names z hz
 cases h with
 | send a n l h=>
  cases w with
  | true=>simp[nmA]at hz
  | false=>exact go h (by simpa[nmA]using hz)
 | set s hs a n l h=>
  cases w with
  | true=>simp[nmA]at hz;subst hz;exact List.mem_append_right _ hs
  | false=>exact go h (by simpa[nmA]using hz)
 | let_ s hs e h=>
  cases w with
  | true=>simp[nmA]at hz;subst hz;exact List.mem_append_left _ hs
  | false=>exact List.mem_append_left _ (h.vars z (by simpa[nmA]using hz))
theorem MkR.light{n:Nat}{r:Ru}(h:MkR n r):Zgz r=true:=decide_eq_true (by have:=h.w;omega)
theorem MkR.names{n:Nat}{r:Ru}(h:MkR n r)(w:Bool):∀z∈ZfI w r,z∈Zgj++Zdi:=by
 intro z hz
 rw[ZsY w h.light]at hz
 rcases ZsX _ _ hz with hz|hz
 ·cases hz
 ·simp only[List.mem_flatten,List.mem_map]at hz
  obtain⟨_,⟨a,ha,rfl⟩,hz⟩:=hz
  exact(h.all a ha).names w z hz
theorem MkR.has{n:Nat}{r:Ru}(h:MkR n r)(w:Bool){z:ByteArray}(hz:z∈ZfI w r):ZiL (Zgj++Zdi) z=true:=Zoc.2 ⟨z,h.names w z hz,rfl⟩
end Go.Rx
namespace Go.Rx
open Go Go.Eng Go.RowKit
theorem ZjL{s s':Sc}(h:s'.er=s.er):s'.problems=s.problems:=by
 have e:∀s:Sc,s.er.problems=s.problems:=λs=>by
  unfold Sc.problems
  rw[ZuA]
  simp only[ZBe]
 rw[<-e s',h,e]
theorem Zgn{α:Type}{p:α->Bool}:∀{l:List α} {i:Nat} {x:α},l[i]?=some x->p x=false->(l.eraseIdx i).find? p=l.find? p
 | [],i,x,h,_=>by simp at h
 | a::l,0,x,h,hp=>by
  simp at h;subst h
  rw[List.eraseIdx_cons_zero,List.find?_cons_of_neg (by rw[hp];simp)]
 | a::l,i+1,x,h,hp=>by
  rw[List.eraseIdx_cons_succ,List.find?_cons,List.find?_cons,Zgn (l:=l) (i:=i) (by simpa using h) hp]
theorem ZkD{α:Type}{p:α->Bool}{l:List α}{i:Nat}(hn:∀j y,j≠i->l[j]?=some y->p y=false):(l.eraseIdx i).find? p=none:=by
 rw[List.find?_eq_none]
 intro y hy
 obtain⟨j,hj,h⟩:=List.mem_eraseIdx_iff_getElem?.1 hy
 rw[hn j y hj h];simp
def ZgV(s:Sc)(i:Nat):Sc:=⟨s.n,s.va,s.vc,s.vars.eraseIdx i,s.sa,s.sc,s.states⟩
def ZyC(nm:ByteArray)(e:E):Bool:=e.vars.any λz=>eqS nm z
def Zwg(nm:ByteArray)(a:Ac):Bool:=(a.k == 3&&ZyC nm a.e)||(!(a.k == 1)&&eqS nm a.s)
def ZvB(nm:ByteArray)(p:Pt):Bool:=(p.k == 2&&eqS nm p.s)||(p.k == 4&&ZyC nm p.e)
theorem ZsZ{α:Type}{l:List α}{i j:Nat}{y:α}(h:(l.eraseIdx i)[j]?=some y):∃j',l[j']?=some y/\j'≠i/\(j'=if j < i then j else j+1):=by
 rw[List.getElem?_eraseIdx]at h
 split at h
 ·rename_i hc;exact⟨j,h,by omega,by rw[if_pos hc]⟩
 ·rename_i hc;exact⟨j+1,h,by omega,by rw[if_neg hc]⟩
section
variable {s:Sc} (h:MkC s) {i:Nat} {v:Va} (hv:s.vars[i]?=some v)
include h hv
theorem Zwh:i < 6:=by have:=(zA0 hv).1;have:=h.vlen;omega
theorem Zod{j:Nat}{name:ByteArray}(hj:(Zgj++Zdi)[j]?=some name):Zba (ZgV s i) name=if eqS v.s name then(false,false)else(decide (j < 4),true):=by
 have oM:=Zwh h hv
 have tx:j < 6:=(zA0 hj).1
 have xr:=(h.vall i v hv).name
 unfold Zba
 show(match(s.vars.eraseIdx i).find? (λv=>eqS v.s name)with|some v=>(v.b,true)|none=>(false,false))=_
 cases e:eqS v.s name with
 | true=>
  have nv:i=j:=Classical.byContradiction λcY=>by
   have:=Zry i oM j tx cY
   rw[Zcf xr,Zcf hj,e]at this;cases this
  subst nv
  rw[ZkD (λj' y cY hy=>by
   have h6:j' < 6:=by have:=(zA0 hy).1;have:=h.vlen;omega
   have:=Zry j' h6 i oM cY
   rwa [Zcf (h.vall j' y hy).name,Zcf hj]at this)]
  rfl
 | false=>
  rw[Zgn hv e]
  have:=h.kind hj
  unfold Zba at this
  exact this
theorem ZpO:(ZgV s i).light=true:=by
 have h1:=Ze0 wS 2025 s.states (λx hx=>by
  obtain⟨i,_,hm⟩:=h.state hx
  exact hm.w)
 have h2:=h.len
 have h3:=h.vlen
 have h4:(s.vars.eraseIdx i).length<=s.vars.length:=List.length_eraseIdx_le ..
 unfold Sc.light Sc.weight
 refine decide_eq_true ?_
 show((s.vars.eraseIdx i).length:Int)+s.states.length+ZbC (s.states.map wS)<=20000
 omega
theorem ZjM{e:E}(he:∀z∈e.vars,z∈Zgj):Za0 (ZgV s i) e=!ZyC v.s e:=by
 have hz:∀z∈e.vars,(!(Zba (ZgV s i) z).1)=eqS v.s z:=λz hz=>by
  obtain⟨j,hj⟩:=List.getElem?_of_mem (he z hz)
  have aG:j < 4:=(zA0 hj).1
  rw[Zod h hv (j:=j) (name:=z) (by rw[zA5 aG];exact hj)]
  cases eqS v.s z with
  | true=>rfl
  | false=>rw[decide_eq_true aG];rfl
 unfold Za0 ZyC
 congr 1
 rw[Bool.eq_iff_iff,List.any_eq_true,List.any_eq_true]
 exact⟨λ⟨z,h1,h2⟩=>⟨z,h1,by rw[<-hz z h1];exact h2⟩,λ⟨z,h1,h2⟩=>⟨z,h1,by rw[hz z h1];exact h2⟩⟩
theorem Zs0{t:ByteArray}(ht:t∈Zgj):Zba (ZgV s i) t=if eqS v.s t then(false,false)else(true,true):=by
 obtain⟨j,hj⟩:=List.getElem?_of_mem ht
 have aG:j < 4:=(zA0 hj).1
 rw[Zod h hv (j:=j) (name:=t) (by rw[zA5 aG];exact hj),decide_eq_true aG]
theorem Zs1{t:ByteArray}(ht:t∈Zdi):Zba (ZgV s i) t=if eqS v.s t then(false,false)else(false,true):=by
 obtain⟨j,hj⟩:=List.getElem?_of_mem ht
 have aG:j < 2:=(zA0 hj).1
 rw[Zod h hv (j:=4+j) (name:=t) (by rw[zA4 (show Zgj.length<=4+j by show 4<=_;omega)];show Zdi[4+j - 4]?=_;rw[show 4+j - 4=j by omega];exact hj),decide_eq_false (by omega)]
theorem Zwi{r:Ru}{a:Ac}(ha:MkA (Zbv r) a):ZaF (ZgV s i) r a=if Zwg v.s a then 308 else 0:=by
 have hz:=Zul
 cases ha with
 | send a n l hl=>
  have h1:decide (l.length > 16)=false:=decide_eq_false (by have:=hl.len;omega)
  have h2:ZaX 1 1 3=true:=by decide
  unfold ZaF
  simp[ZaG,h1,h2,hz,Zax,Zwg]
 | set t ht a n l hl=>
  have h1:decide (l.length > 16)=false:=decide_eq_false (by have:=hl.len;omega)
  have h2:ZaX 2 1 3=true:=by decide
  have hk:=Zs1 h hv ht
  unfold ZaF
  cases e:eqS v.s t with
  | true=>rw[e,if_pos rfl]at hk;simp[ZaG,h1,h2,hz,Zwg,hk,e]
  | false=>rw[e,if_neg (by decide)]at hk;simp[ZaG,h1,h2,hz,Zwg,hk,e]
 | let_ t ht e he=>
  have h2:ZaX 3 1 3=true:=by decide
  have h3:=he.clean (by omega)
  have h4:=ZjM h hv (e:=e) he.vars
  have h5:decide (e.most > Zbv r)=false:=decide_eq_false (by have:=he.most (Zme r);omega)
  have hk:=Zs0 h hv ht
  unfold ZaF
  obtain e1|e1:eqS v.s t=true\/eqS v.s t=false:=by cases eqS v.s t <;> simp
  ·rw[e1,if_pos rfl]at hk
   simp[ZaG,h2,h3,h4,h5,Zwg,hk,e1]
  ·rw[e1,if_neg (by decide)]at hk
   obtain e2|e2:ZyC v.s e=true\/ZyC v.s e=false:=by cases ZyC v.s e <;> simp
   ·simp[ZaG,h2,h3,h4,h5,Zwg,hk,e1,e2]
   ·simp[ZaG,h2,h3,h4,h5,Zwg,hk,e1,e2]
theorem Zoe{r:Ru}{l:List Pt}(hl:MkT (Zbv r) l){n:Nat}{p:Pt}(hp:l[n]?=some p):ZcJ (ZgV s i) r l n p=if ZvB v.s p then 308 else 0:=by
 have hz:=Zul
 have h0:(decide (n > 0)&&(p.k == 1&&Zyy l n))=false:=by
  cases n with
  | zero=>rfl
  | succ n=>
   unfold Zyy
   rw[Nat.add_sub_cancel]
   cases hq:l[n]? with
   | none=>simp
   | some q=>
    have:=hl.ll n q p hq hp
    simp only[Bool.and_eq_false_iff]
    refine .inr ?_
    by_cases h1:p.k=1
    ·refine .inr ?_
     simp
     exact λh2=>this h2 h1
    ·refine .inl ?_
     simpa using h1
 have hm:=hl.all p (zA2 hp)
 rw[Ziq,h0]
 cases hm with
 | lit t ht=>
  have h1:ZaY ⟨1,t,0,E0⟩=true:=by simp[ZaY,hz];omega
  rw[h1];rfl
 | var t ht=>
  have h1:ZaY ⟨2,t,0,E0⟩=true:=by
   have:ZbQ t=true:=by
    rcases ht with ht|ht
    ·exact Zmd _ ht
    ·exact Zpt _ ht
   simp[ZaY,hz,this]
  have hk:(Zba (ZgV s i) t).2=!eqS v.s t:=by
   rcases ht with ht|ht
   ·rw[Zs0 h hv ht];cases eqS v.s t <;> rfl
   ·rw[Zs1 h hv ht];cases eqS v.s t <;> rfl
  rw[h1]
  cases e:eqS v.s t <;> simp[ZaG,hk,ZvB,e]
 | cap g hg=>
  have h1:ZaY ⟨3,.empty,g,E0⟩=true:=by simp[ZaY,hz,Zax];omega
  have h2:decide (g > Zbv r)=false:=decide_eq_false (by omega)
  rw[h1]
  simp only[ZaG,h2];rfl
 | clc e he=>
  have h1:ZaY ⟨4,.empty,0,e⟩=true:=by simp[ZaY,he.clean,Zax]
  have h2:decide (e.most > Zbv r)=false:=decide_eq_false (by have:=he.most (Zme r);omega)
  have h3:=ZjM h hv (e:=e) he.vars
  rw[h1]
  obtain e2|e2:ZyC v.s e=true\/ZyC v.s e=false:=by cases ZyC v.s e <;> simp
  ·simp[ZaG,h2,h3,ZvB,e2]
  ·simp[ZaG,h2,h3,ZvB,e2]
theorem ZBj:∀p∈(ZgV s i).places,atS (ZgV s i) p=0\/atS (ZgV s i) p=308:=by
 intro p hp
 have oM:=Zwh h hv
 have xt:(s.vars.eraseIdx i).length=5:=by
  rw[List.length_eraseIdx,if_pos (zA0 hv).1,h.vlen]
 have or308:∀b:Bool,(if b then(308:Int)else 0)=0\/(if b then(308:Int)else 0)=308:=λb=>by cases b <;> simp
 have mH:∀a b,Rx.totals (ZgV s i) a b=Rx.totals s a b:=λa b=>rfl
 rcases ZfF (ZgV s i) p hp with⟨j,hj,y,hy⟩|⟨hv',hs|⟨j,hj,x,hx,hr|⟨k,hk,r,hr,ha|⟨m,hm',a,ha,hq|⟨n,hn,q,hq⟩⟩⟩⟩⟩
 ·refine .inl ?_
  have e:atS (ZgV s i) p=ZaU (ZgV s i) j y:=by
   unfold atS
   rw[if_pos (by omega),show p.v.toNat=j by omega,hy]
  rw[e]
  have hy:(s.vars.eraseIdx i)[j]?=some y:=hy
  obtain⟨j',hj',cY,xu⟩:=ZsZ hy
  have hm:=h.vall j' y hj'
  have tx:j' < 6:=by have:=(zA0 hj').1;have:=h.vlen;omega
  have g1:ZbQ y.s=true:=by
   have bL:=zA2 hm.name
   rcases List.mem_append.1 bL with hx|hx
   ·exact Zmd _ hx
   ·exact Zpt _ hx
  have g2:Zd1 y=true:=by
   unfold Zd1
   rcases hm.kind with⟨_,hb,ht,hx⟩|⟨_,hb,ht,hx⟩
   ·rw[hb,ht,hx];rfl
   ·rw[hb,hx]
    simp;omega
  have g3:(((s.vars.eraseIdx i).take j).any λx=>eqS x.s y.s)=false:=by
   rw[List.any_eq_false]
   intro x hx
   obtain⟨q,hq⟩:=List.getElem?_of_mem hx
   have xv:q < j:=by have:=(zA0 hq).1;rw[List.length_take]at this;omega
   rw[List.getElem?_take_of_lt xv]at hq
   obtain⟨q',hq',_,xw⟩:=ZsZ hq
   have xx:q' < 6:=by have:=(zA0 hq').1;have:=h.vlen;omega
   have:=Zry q' xx j' tx (by split at xw <;> split at xu <;> omega)
   rw[Zcf (h.vall q' x hq').name,Zcf hm.name]at this
   rw[this];simp
  show ZaG [(301,!ZbQ y.s||(!Zd1 y||((s.vars.eraseIdx i).take j).any λx=>eqS x.s y.s))]=0
  rw[g1,g2,g3];rfl
 all_goals have oN:¬p.v ≥ 0:=by omega
 ·refine .inl ?_
  unfold atS
  rw[if_neg oN,if_pos hs]
  have g1:ZaX s.n 2 256=true:=ZbI.2 (by have:=h.n;omega)
  have g2:ZaX s.states.length 1 24=true:=ZbI.2 (by have:=h.len;omega)
  show ZaG [(300,!ZaX s.n 2 256),(302,!ZaX s.states.length 1 24||decide ((s.vars.eraseIdx i).length > 12))]=0
  rw[g1,g2,xt];rfl
 all_goals
  have hs':¬p.s < 0:=by omega
  have iU:p.s.toNat=j:=by omega
  have hx':s.states[j]?=some x:=‹(ZgV s i).states[j]?=some x›
  have hm:=h.all j x hx'
 ·refine .inl ?_
  have e:atS (ZgV s i) p=ZcS (ZgV s i) j x:=by
   unfold atS
   rw[if_neg oN,if_neg hs',iU,hx]
   exact if_pos hr
  rw[e];exact h.stateOk hx'
 all_goals
  have hr':¬p.r < 0:=by omega
  have fP:p.r.toNat=k:=by omega
  have hR:=hm.all r (zA2 hr)
 ·refine .inl ?_
  have e:atS (ZgV s i) p=Zcl (ZgV s i) r (Rx.totals (ZgV s i) j k):=by
   unfold atS
   rw[if_neg oN,if_neg hs',iU,hx]
   show(if p.r < 0 then _ else _)=_
   rw[if_neg hr',fP,hr]
   exact if_pos ha
  have e2:∀n,Zcl (ZgV s i) r n=Zcl s r n:=λn=>by
   have ef:∀name,Zdu (ZgV s i) name=Zdu s name:=λname=>by unfold Zdu;rw[ZpO h hv,h.light];rfl
   unfold Zcl;rw[ef]
  rw[e,e2,mH];exact h.rule hR (h.totals j k)
 all_goals
  have ha':¬p.a < 0:=by omega
  have jD:p.a.toNat=m:=by omega
  have hA:=hR.all a (zA2 ‹r.acts[m]?=some a›)
 ·have e:atS (ZgV s i) p=ZaF (ZgV s i) r a:=by
   unfold atS
   rw[if_neg oN,if_neg hs',iU,hx]
   show(if p.r < 0 then _ else _)=_
   rw[if_neg hr',fP,hr]
   show(if p.a < 0 then _ else _)=_
   rw[if_neg ha',jD,‹r.acts[m]?=some a›]
   exact if_pos hq
  rw[e,Zwi h hv hA];exact or308 _
 ·have e:atS (ZgV s i) p=ZcJ (ZgV s i) r a.parts n q:=by
   unfold atS
   rw[if_neg oN,if_neg hs',iU,hx]
   show(if p.r < 0 then _ else _)=_
   rw[if_neg hr',fP,hr]
   show(if p.a < 0 then _ else _)=_
   rw[if_neg ha',jD,‹r.acts[m]?=some a›]
   show(if p.p < 0 then _ else _)=_
   rw[if_neg (by omega),show p.p.toNat=n by omega,hq]
  rw[e]
  cases hA with
  | send _ _ l hl=>rw[Zoe h hv hl hq];exact or308 _
  | set _ _ _ _ l hl=>rw[Zoe h hv hl hq];exact or308 _
  | let_ _ _ e _=>simp at hq
end
theorem ZpP{n i:Nat}{f:Nat->List Pl}{p:Pl}(hi:i < n)(hp:p∈f i):p∈Zdr n f:=List.mem_flatMap.2 ⟨i,List.mem_range.2 hi,hp⟩
section
variable {t:Sc} (hl:t.light=true) {i k m n:Nat} {x:Sta} {r:Ru} {a:Ac} {q:Pt} (hx:t.states[i]?=some x) (hr:x.rules[k]?=some r)
include hl hx hr
theorem Zzx{p:Pl}(h:p∈plR i k r):p∈t.places:=by
 rw[Zey hl]
 refine List.mem_cons_of_mem _ (List.mem_append_right _ (ZpP (zA0 hx).1 ?_))
 unfold Ff;rw[hx]
 show p∈plS i x
 rw[Zkt]
 refine List.mem_cons_of_mem _ (ZpP (zA0 hr).1 ?_)
 unfold Gf;rw[hr];exact h
theorem Zzy(ha:r.acts[m]?=some a){p:Pl}(h:p∈plA i k m a):p∈t.places:=by
 refine Zzx hl hx hr ?_
 rw[Zks]
 refine List.mem_cons_of_mem _ (ZpP (zA0 ha).1 ?_)
 unfold Hf;rw[ha];exact h
theorem Zzz(ha:r.acts[m]?=some a):(⟨-1,i,k,m,-1⟩:Pl)∈t.places:=Zzy hl hx hr ha (by rw[Zkr];simp)
theorem ZBk(ha:r.acts[m]?=some a)(hn:n < a.parts.length):(⟨-1,i,k,m,n⟩:Pl)∈t.places:=Zzy hl hx hr ha (by
 rw[Zkr]
 exact List.mem_cons_of_mem _ (ZpP hn (by unfold Pf;simp)))
end
theorem ZzA{t:Sc}{p:Pl}(hp:p∈t.places):p∈t.problems.map (·.1)↔atS t p≠0:=by
 unfold Sc.problems
 rw[List.mem_map]
 constructor
 ·rintro⟨z,hz,rfl⟩
  obtain⟨q,hq,he⟩:=List.mem_filterMap.1 hz
  split at he
  ·cases he
  ·rename_i h
   simp only[Option.some.injEq]at he
   subst he;exact h
 ·intro h
  exact⟨(p,atS t p),List.mem_filterMap.2 ⟨p,hp,by rw[if_neg h]⟩,rfl⟩
theorem Zxo{t:Sc}{z:Pl×Int}(hz:z∈t.problems):z.1∈t.places/\z.2=atS t z.1/\z.2≠0:=by
 unfold Sc.problems at hz
 obtain⟨q,hq,he⟩:=List.mem_filterMap.1 hz
 split at he
 ·cases he
 ·rename_i h
  simp only[Option.some.injEq]at he
  subst he;exact⟨hq,rfl,h⟩
def Ztu(b:Nat)(a:Ac):Ru:=⟨0,false,false,T0,⟨#[]⟩,0,some ⟨b,0,none⟩,1,[a],⟨#[]⟩,0⟩
theorem Zml{b:Nat}{a:Ac}{c:Int}(h:MkA c a):Zgz (Ztu b a)=true:=by
 have h1:=h.w
 refine decide_eq_true ?_
 unfold wR
 have e:(Ztu b a).t=T0:=rfl
 rw[e,Zgk.2.1,Zgk.1]
 show 1+Zfl 1 20000+0+(wA a+0)<=19999
 rw[show Zfl 1 20000=1 by decide];omega
theorem Zof(w:Bool){b:Nat}{a:Ac}(h:Zgz (Ztu b a)=true)(nm:ByteArray):ZiL (ZfI w (Ztu b a)) nm=ZiL (nmA w a) nm:=by
 rw[ZsY w h,ZpN]
 show(ZiL [] nm||ZiL ((([a]:List Ac).map (nmA w)).flatten) nm)=_
 simp[ZiL]
theorem Zxp{c:Int}{a:Ac}(h:MkA c a)(b:Nat)(nm:ByteArray):Zwg nm a=((a.k == 3&&ZiL (ZfI false (Ztu b a)) nm)||ZiL (ZfI true (Ztu b a)) nm):=by
 rw[Zof false (Zml h),Zof true (Zml h)]
 cases h with
 | send a n l h=>rfl
 | set s hs a n l h=>simp[Zwg,nmA,ZiL]
 | let_ s hs e h=>simp[Zwg,nmA,ZiL,ZyC]
def ZBl(b b1:Nat)(p:Pt):Ru:=Ztu b ⟨1,⟨#[]⟩,some ⟨b1,0,none⟩,1,[p],E0⟩
theorem ZrF{b b1:Nat}{p:Pt}{c:Int}(h:MkP c p):Zgz (ZBl b b1 p)=true:=by
 have h1:=h.nE
 have h0:=nE0
 refine decide_eq_true ?_
 unfold wR
 have e:(ZBl b b1 p).t=T0:=rfl
 rw[e,Zgk.2.1,Zgk.1]
 show 1+Zfl 1 20000+0+((1+Rx.nE E0+(1:Nat)+(Rx.nE p.e+0))+0)<=19999
 rw[show Zfl 1 20000=1 by decide];omega
theorem ZuH{c:Int}{p:Pt}(h:MkP c p)(b b1:Nat)(nm:ByteArray):ZvB nm p=ZiL (ZfI false (ZBl b b1 p)) nm:=by
 have e:=Zof false (b:=b) (a:=⟨1,⟨#[]⟩,some ⟨b1,0,none⟩,1,[p],E0⟩) (ZrF h) nm
 have e2:ZiL (ZfI false (ZBl b b1 p)) nm=ZiL (nmA false ⟨1,⟨#[]⟩,some ⟨b1,0,none⟩,1,[p],E0⟩) nm:=e
 rw[e2]
 cases h with
 | lit t ht=>rfl
 | var t ht=>simp[ZvB,nmA,nmP,ZiL]
 | cap g hg=>rfl
 | clc e he=>simp[ZvB,nmA,nmP,ZiL,ZyC]
end Go.Rx
namespace Go.Rx
open Go Go.Eng
def ZjN{α:Type}(f:α->Nat)(l:List α):Nat:=(l.map f).sum
theorem ZkE{α:Type}(f:α->Nat){l:List α}{i:Nat}{x:α}(h:l[i]?=some x):ZjN f (l.take (i+1))=ZjN f (l.take i)+f x:=by
 unfold ZjN
 rw[List.take_add_one,h,List.map_append,List.sum_append];simp
theorem Zs2{α:Type}(f:α->Nat)(l:List α)(i:Nat):ZjN f (l.take i)<=ZjN f l:=by
 have e:ZjN f l=ZjN f (l.take i)+ZjN f (l.drop i):=by
  unfold ZjN
  rw[<-List.sum_append,<-List.map_append,List.take_append_drop]
 omega
end Go.Rx
namespace Go.Rx
open Go Go.Eng Go.RowKit
def Zly(k i:Nat):List Nat:=(List.range i).filter λj=>!(j == k)
theorem Zm1{k i:Nat}(h:i≠k):Zly k (i+1)=Zly k i++[i]:=by
 unfold Zly;rw[List.range_succ,List.filter_append];simp[h]
theorem Zm2(k:Nat):Zly k (k+1)=Zly k k:=by
 unfold Zly;rw[List.range_succ,List.filter_append];simp
theorem Zit{k n j:Nat}:j∈Zly k n↔j < n/\j≠k:=by
 unfold Zly;rw[List.mem_filter,List.mem_range];simp
theorem Zmm(k n:Nat):(Zly k n).Nodup:=List.nodup_range.filter _
theorem Zog(k i:Nat):(Zly k i).length<=i:=by
 have:=List.length_filter_le (λj=>!(j == k)) (List.range i)
 rwa [List.length_range]at this
def goN(nk:ByteArray)(r:Ru):Nat:=if eqS r.go nk then 1 else 0
def goX(nk:ByteArray)(x:Sta):Nat:=ZjN (goN nk) x.rules
theorem Zoh{α:Type}(F:Pl->Option (Pl×Int))(l:List α)(f:Nat->List Pl)(w:α->Nat)(hf:∀i x,l[i]?=some x->((f i).filterMap F).length=w x):∀k,k<=l.length->((Zdr k f).filterMap F).length=ZjN w (l.take k)
 | 0,_=>by rw[List.take_zero];rfl
 | k+1,hk=>by
  have hx:l[k]?=some l[k]:=zA3 (by omega)
  rw[Zbw,List.filterMap_append,zA1,Zoh F l f w hf k (by omega),hf k _ hx,ZkE w hx]
theorem ZBm{α:Type}(g:α->α)(f:α->Nat)(hf:∀x,f (g x)=f x){l l':List α}(h:l'.map g=l.map g):ZjN f l'=ZjN f l:=by
 have e:∀l:List α,ZjN f l=ZjN f (l.map g):=λl=>by
  unfold ZjN
  rw[List.map_map]
  exact congrArg List.sum (List.map_congr_left λx _=>(hf x).symm)
 rw[e,h,<-e]
theorem ZBn(nk:ByteArray)(x:Sta):goX nk x.er=goX nk x:=by
 unfold goX
 show ZjN (goN nk) (x.rules.map Ru.er)=_
 unfold ZjN
 rw[List.map_map];rfl
theorem ZrG{nk:ByteArray}{t u:Sc}(h:t.er=u.er):ZjN (goX nk) t.states=ZjN (goX nk) u.states:=ZBm Sta.er (goX nk) (ZBn nk) (Zhu h)
structure Gone (s t:Sc)(k:Nat)(nk:ByteArray):Prop where
 n:t.n=s.n
 vars:t.vars=s.vars
 len:1<=t.states.length/\t.states.length<=4
 sub:∀x∈t.states,x∈s.states
 dif:∀(i j:Nat)(x y:Sta),t.states[i]?=some x->t.states[j]?=some y->i≠j->eqS x.s y.s=false
 cl:∀x∈t.states,∀r∈x.rules,r.go.size≠0->(t.states.any λx=>eqS x.s r.go)=!eqS r.go nk
 nz:nk.size≠0
section
variable {s t:Sc} {k:Nat} {nk:ByteArray} (h:MkC s) (hT:Gone s t k nk)
include h hT
theorem Gone.light:t.light=true:=by
 have h1:=Ze0 wS 2025 t.states (λx hx=>by
  obtain⟨i,_,hm⟩:=h.state (hT.sub x hx)
  exact hm.w)
 have h2:=hT.len
 have h3:=h.vlen
 unfold Sc.light Sc.weight
 rw[hT.vars]
 refine decide_eq_true ?_
 omega
theorem Gone.totals(i k:Nat):Rx.totals t i k<=600:=by
 have h0:=hT.len
 have h1:=Ze0 (λx:Sta=>ZbC (x.rules.map Rx.sizeR)) 130 (t.states.take i) (λx hx=>by
  obtain⟨j,_,hm⟩:=h.state (hT.sub x (List.mem_of_mem_take hx))
  have:=hm.sizes x.rules.length
  rwa [List.take_length]at this)
 rw[List.length_take]at h1
 unfold Rx.totals
 cases hx:t.states[i]? with
 | none=>show _+0<=_;omega
 | some x=>
  have hi:=(zA0 hx).1
  obtain⟨j,_,hm⟩:=h.state (hT.sub x (zA2 hx))
  have:=hm.sizes (k+1)
  show _+ZbC ((x.rules.take (k+1)).map Rx.sizeR)<=_
  omega
theorem Gone.rule{x:Sta}(hx:x∈t.states){r:Ru}(hr:r∈x.rules){T:Int}(xy:T<=600):Zcl t r T=if eqS r.go nk then 306 else 0:=by
 obtain⟨i0,nA,hm⟩:=h.state (hT.sub x hx)
 have hR:=hm.all r hr
 have e0:=h.rule hR xy
 obtain⟨g1,g2⟩:=ZsV e0
 by_cases hz:r.go.size=0
 ·have e2:Zcl t r T=Zcl s r T:=by unfold Zcl;rw[if_pos hz,if_pos hz]
  have e3:eqS r.go nk=false:=by
   cases e:eqS r.go nk with
   | false=>rfl
   | true=>
    have e:r.go.toList=nk.toList:=ZpM.1 e
    rw[baL,baL]at e
    have:=congrArg List.length e
    rw[ZdO,ZdO,hz]at this
    exact absurd this.symm hT.nz
  rw[e2,e0,e3];rfl
 ·have hf:Zdu t r.go=!eqS r.go nk:=by
   unfold Zdu
   rw[hT.cl x hx r hr hz,hT.light h,Bool.and_true]
  have hc:(r.code == 0)=true:=by
   rcases hR.go with⟨_,hc⟩|⟨hg,_⟩
   ·rw[hc];rfl
   ·rw[hg]at hz;exact absurd Zax hz
  unfold Zcl ZaG ZaG ZaG
  rw[g1,g2,if_neg hz,hf,hc]
  cases eqS r.go nk <;> rfl
theorem Gone.var{i:Nat}{v:Va}(hv:t.vars[i]?=some v):ZaU t i v=0:=by
 rw[hT.vars]at hv
 have:=h.var hv
 unfold ZaU at this ⊢
 rw[hT.vars];exact this
theorem Gone.sta{i:Nat}{x:Sta}(hx:t.states[i]?=some x):ZcS t i x=0:=by
 obtain⟨i0,nA,hm⟩:=h.state (hT.sub x (zA2 hx))
 have h1:ZbQ x.s=true:=Zpu _ (zA2 hm.name)
 have h2:decide (x.rules.length > 12)=false:=decide_eq_false (by have:=hm.len;omega)
 have h3:((t.states.take i).any λy=>eqS y.s x.s)=false:=by
  rw[List.any_eq_false]
  intro y hy
  obtain⟨j,hj⟩:=List.getElem?_of_mem hy
  have kK:j < i:=by have:=(zA0 hj).1;rw[List.length_take]at this;omega
  rw[List.getElem?_take_of_lt kK]at hj
  rw[hT.dif j i y x hj hx (by omega)];simp
 simp[ZcS,ZaG,h1,h2,h3]
theorem Gone.action{r:Ru}{a:Ac}(ha:MkA (Zbv r) a):ZaF t r a=0:=by
 have e2:ZaF t r a=ZaF s r a:=by unfold ZaF Zba Za0 Zba;rw[hT.vars]
 rw[e2];exact h.action ha
theorem Gone.part{r:Ru}{a:Ac}(ha:MkA (Zbv r) a){n:Nat}{q:Pt}(hq:a.parts[n]?=some q):ZcJ t r a.parts n q=0:=by
 have e:ZcJ t r a.parts n q=ZcJ s r a.parts n q:=by unfold ZcJ Zba Za0 Zba;rw[hT.vars]
 rw[e]
 cases ha with
 | send _ _ l hl=>exact h.part hl hq
 | set _ _ _ _ l hl=>exact h.part hl hq
 | let_ _ _ e _=>simp at hq
theorem Gone.fmR{i k':Nat}{x:Sta}{r:Ru}(hx:t.states[i]?=some x)(hr:x.rules[k']?=some r):(plR i k' r).filterMap (PF t)=if eqS r.go nk then[(⟨-1,i,k',-1,-1⟩,306)]else[]:=by
 obtain⟨i0,nA,hm⟩:=h.state (hT.sub x (zA2 hx))
 have hR:=hm.all r (zA2 hr)
 have f1:=Zxi t hx hr
 rw[hT.rule h (zA2 hx) (zA2 hr) (hT.totals h i k')]at f1
 have rest:(Zdr r.acts.length (Hf i k' r)).filterMap (PF t)=[]:=Zfi _ _ _ λm lW=>by
  obtain⟨a,ha⟩:=ZjK lW
  have hA:=hR.all a (zA2 ha)
  unfold Hf
  rw[ha]
  show(plA i k' m a).filterMap (PF t)=[]
  rw[Zkr,List.filterMap_cons_none (pf0 (by rw[Zxj t hx hr ha];exact hT.action h hA))]
  refine Zfi _ _ _ λn kG=>?_
  obtain⟨q,hq⟩:=ZjK kG
  unfold Pf
  rw[List.filterMap_cons_none (pf0 (by rw[Zxk t hx hr ha hq];exact hT.part h hA hq))]
  rfl
 rw[Zks]
 cases e:eqS r.go nk with
 | true=>
  rw[e,if_pos rfl]at f1
  have g1:PF t ⟨-1,i,k',-1,-1⟩=some (⟨-1,i,k',-1,-1⟩,306):=by unfold PF;rw[f1];rfl
  rw[List.filterMap_cons_some g1,rest];rfl
 | false=>
  rw[e,if_neg (by decide)]at f1
  rw[List.filterMap_cons_none (pf0 f1),rest];rfl
theorem Gone.problems_len:t.problems.length=ZjN (goX nk) t.states:=by
 show(t.places.filterMap (PF t)).length=_
 rw[Zey (hT.light h),List.filterMap_cons_none (pf0 (show atS t top=0 from by
  have:atS t top=ZdP t:=by unfold atS;rw[if_neg (by decide)];exact if_pos (by decide)
  rw[this]
  have h1:ZaX t.n 2 256=true:=ZbI.2 (by rw[hT.n];have:=h.n;omega)
  have h2:ZaX t.states.length 1 24=true:=ZbI.2 (by have:=hT.len;omega)
  have h3:decide (t.vars.length > 12)=false:=decide_eq_false (by rw[hT.vars];have:=h.vlen;omega)
  simp[ZdP,ZaG,h1,h2,h3])),List.filterMap_append,Zfi _ _ _ (λj hj=>by
   obtain⟨v,hv⟩:=ZjK hj
   unfold Vf
   rw[List.filterMap_cons_none (pf0 (by rw[Zzs t hv];exact hT.var h hv))];rfl),List.nil_append]
 have:=Zoh (PF t) t.states (Ff t) (goX nk) (λi x hx=>by
  unfold Ff;rw[hx]
  show((plS i x).filterMap (PF t)).length=_
  rw[Zkt,List.filterMap_cons_none (pf0 (by rw[Zxh t hx];exact hT.sta h hx))]
  have:=Zoh (PF t) x.rules (Gf i x) (goN nk) (λk' r hr=>by
   unfold Gf;rw[hr]
   show((plR i k' r).filterMap (PF t)).length=_
   rw[hT.fmR h hx hr]
   unfold goN
   split <;> rfl) x.rules.length (Nat.le_refl _)
  rw[List.take_length]at this
  exact this) t.states.length (Nat.le_refl _)
 rw[List.take_length]at this
 exact this
theorem Gone.in_problems{i k':Nat}{x:Sta}{r:Ru}(hx:t.states[i]?=some x)(hr:x.rules[k']?=some r)(e:eqS r.go nk=true):((⟨-1,i,k',-1,-1⟩:Pl),(306:Int))∈t.problems:=by
 have f1:=Zxi t hx hr
 rw[hT.rule h (zA2 hx) (zA2 hr) (hT.totals h i k'),e,if_pos rfl]at f1
 have hp:(⟨-1,i,k',-1,-1⟩:Pl)∈t.places:=Zzx (hT.light h) hx hr (by rw[Zks];simp)
 unfold Sc.problems
 exact List.mem_filterMap.2 ⟨_,hp,by rw[f1];rfl⟩
end
theorem ZuI{s:Sc}(h:MkC s){k:Nat}{xk:Sta}(hk:s.states[k]?=some xk)(h0:0 < k):Gone s (ZuD s (Zly k s.states.length)) k xk.s:=by
 have aG:∀i∈Zly k s.states.length,i < s.states.length:=λi hi=>(Zit.1 hi).1
 have fI:=Zzt aG
 have l5:=(zA0 hk).1
 have aQ:(ZuD s (Zly k s.states.length)).states.length=(Zly k s.states.length).length:=by
  have:=congrArg List.length (Zn8 aG)
  simpa using this.symm
 have h4:=h.len
 have dJ:∀x∈(ZuD s (Zly k s.states.length)).states,∃i∈Zly k s.states.length,s.states[i]?=some x:=λx hx=>by
  obtain⟨i,hi,he⟩:=List.mem_filterMap.1 hx
  exact⟨i,hi,he⟩
 have mY:=(h.all k xk hk).name
 refine⟨rfl,rfl,?_,λx hx=>?_,λi j x y hx hy nv=>?_,λx hx r hr hz=>?_,by rw[Zky _ (zA2 mY)];decide⟩
 ·rw[aQ]
  have h1:=Zog k s.states.length
  have h2:0∈Zly k s.states.length:=Zit.2 ⟨by omega,by omega⟩
  have:=List.length_pos_of_mem h2
  omega
 ·obtain⟨i,_,hi⟩:=dJ x hx
  exact zA2 hi
 ·rw[fI]at hx hy
  obtain⟨i',h1,h2⟩:=Option.bind_eq_some_iff.1 hx
  obtain⟨j',h3,h5⟩:=Option.bind_eq_some_iff.1 hy
  have cY:i'≠j':=λe=>by
   subst e
   obtain⟨g1,g2⟩:=zA0 h1
   obtain⟨g3,g4⟩:=zA0 h3
   exact nv ((List.getElem_inj (h₀:=g1) (h₁:=g3) (Zmm _ _)).1 (g2.trans g4.symm))
  have hi:=(zA0 h2).1
  have hj:=(zA0 h5).1
  have:=Zw2 i' (by omega) j' (by omega) cY
  rw[Zcf (h.all _ x h2).name,Zcf (h.all _ y h5).name]at this
  exact this
 ·obtain⟨i,hi,xz⟩:=dJ x hx
  have hm:=(h.all i x xz).all r hr
  rcases hm.go with⟨⟨q,hq,hn⟩,_⟩|⟨hg,_⟩
  ·have vu:=(h.all q _ (zA3 hq)).name
   rw[hn]at vu
   have he:eqS r.go xk.s=decide (q=k):=by rw[<-Zcf hn,<-Zcf mY];exact ZBi q (by omega) k (by omega)
   rw[he]
   by_cases e:q=k
   ·rw[decide_eq_true e]
    show _=false
    rw[List.any_eq_false]
    intro y hy
    obtain⟨j,hj,xA⟩:=dJ y hy
    have zh:=(Zit.1 hj)
    have:=Zw2 j (by omega) q (by omega) (by omega)
    rw[Zcf (h.all j y xA).name,Zcf hn]at this
    rw[this];simp
   ·rw[decide_eq_false e]
    show _=true
    rw[List.any_eq_true]
    refine⟨s.states[q],List.mem_filterMap.2 ⟨q,Zit.2 ⟨hq,e⟩,zA3 hq⟩,?_⟩
    rw[<-Option.some.inj vu];exact ZsJ _
  ·rw[hg]at hz;exact absurd Zax hz
end Go.Rx
namespace Go.Rx
open Go Go.Eng
set_option maxRecDepth 100000
section
variable (g r c v l s p a r1 r2 S:Option Addr)
end
end Go.Rx
namespace Go.Rx
open Go Go.Eng Go.RowKit
def Zxq(i j i' k':Nat):Prop:=i' < i\/(i'=i/\k' < j)
def ent(x:Sta)(i k:Nat):Dd×Dd:=(((i:Int),((ZvA x k:Nat):Int)),((i:Int),(k:Int)))
structure Vis (s:Sc)(Z:List (Dd×Dd))(i j:Nat):Prop where
 src:∀q∈Z,∃(i' k':Nat)(x:Sta)(r:Ru),q=ent x i' k'/\s.states[i']?=some x/\x.rules[k']?=some r/\kp r=true/\Zxq i j i' k'
 all:∀(i' k':Nat)(x:Sta)(r:Ru),s.states[i']?=some x->x.rules[k']?=some r->kp r=true->Zxq i j i' k'->ent x i' k'∈Z
 nodup:(Z.map (·.1)).Nodup
theorem Vis.nil(s:Sc):Vis s [] 0 0:=⟨(λq h=>by cases h),(λi' k' x r _ _ _ h=>by unfold Zxq at h;omega),by simp⟩
theorem Vis.skip{s:Sc}{Z:List (Dd×Dd)}{i j:Nat}(h:Vis s Z i j){x:Sta}{r:Ru}(hx:s.states[i]?=some x)(hr:x.rules[j]?=some r)(hk:kp r=false):Vis s Z i (j+1):=by
 refine⟨λq hq=>?_,λi' k' x' r' h1 h2 h3 h4=>?_,h.nodup⟩
 ·obtain⟨i',k',x',r',e,h1,h2,h3,h4⟩:=h.src q hq
  exact⟨i',k',x',r',e,h1,h2,h3,by unfold Zxq at h4 ⊢;omega⟩
 ·refine h.all i' k' x' r' h1 h2 h3 ?_
  by_cases e:i'=i/\k'=j
  ·obtain⟨rfl,rfl⟩:=e
   rw[hx]at h1;cases h1
   rw[hr]at h2;cases h2
   rw[hk]at h3;cases h3
  ·unfold Zxq at h4 ⊢;omega
theorem Vis.put{s:Sc}{Z:List (Dd×Dd)}{i j:Nat}(h:Vis s Z i j){x:Sta}{r:Ru}(hx:s.states[i]?=some x)(hr:x.rules[j]?=some r)(hk:kp r=true):(ent x i j).1 ∉ Z.map (·.1)/\Vis s (Z++[ent x i j]) i (j+1):=by
 have lz:(ent x i j).1 ∉ Z.map (·.1):=by
  intro gX
  obtain⟨q,hq,he⟩:=List.mem_map.1 gX
  obtain⟨i',k',x',r',rfl,h1,h2,h3,h4⟩:=h.src q hq
  obtain⟨e1,e2⟩:(i':Int)=i/\((ZvA x' k':Nat):Int)=(ZvA x j:Nat):=by simpa[ent]using he
  obtain rfl:i'=i:=by omega
  rw[hx]at h1;cases h1
  have:=Zxf h2 hr h3 hk (by omega)
  unfold Zxq at h4;omega
 refine⟨lz,⟨λq hq=>?_,λi' k' x' r' h1 h2 h3 h4=>?_,?_⟩⟩
 ·rcases List.mem_append.1 hq with hq|hq
  ·obtain⟨i',k',x',r',e,h1,h2,h3,h4⟩:=h.src q hq
   exact⟨i',k',x',r',e,h1,h2,h3,by unfold Zxq at h4 ⊢;omega⟩
  ·rw[List.mem_singleton]at hq;subst hq
   exact⟨i,j,x,r,rfl,hx,hr,hk,by unfold Zxq;omega⟩
 ·by_cases e:i'=i/\k'=j
  ·obtain⟨rfl,rfl⟩:=e
   rw[hx]at h1;cases h1
   exact List.mem_append_right _ (by simp)
  ·exact List.mem_append_left _ (h.all i' k' x' r' h1 h2 h3 (by unfold Zxq at h4 ⊢;omega))
 ·rw[List.map_append,List.nodup_append]
  refine⟨h.nodup,by simp,λa ha b hb e=>?_⟩
  have hb:b∈[(ent x i j).1]:=hb
  rw[List.mem_singleton]at hb
  subst hb;subst e
  exact lz ha
theorem Vis.next{s:Sc}{Z:List (Dd×Dd)}{i:Nat}{x:Sta}(hx:s.states[i]?=some x)(h:Vis s Z i x.rules.length):Vis s Z (i+1) 0:=by
 refine⟨λq hq=>?_,λi' k' x' r' h1 h2 h3 h4=>h.all i' k' x' r' h1 h2 h3 ?_,h.nodup⟩
 ·obtain⟨i',k',x',r',e,h1,h2,h3,h4⟩:=h.src q hq
  exact⟨i',k',x',r',e,h1,h2,h3,by unfold Zxq at h4 ⊢;omega⟩
 ·by_cases e:i'=i
  ·subst e
   rw[hx]at h1;cases h1
   have:=(zA0 h2).1
   unfold Zxq;omega
  ·unfold Zxq at h4 ⊢;omega
theorem Vis.get{s:Sc}{Z:List (Dd×Dd)}(h:Vis s Z s.states.length 0){d:Dd}(hd:d∈Zzp s):(phi s d,d)∈Z:=by
 obtain⟨i,k,x,r,rfl,h1,h2,h3,h4⟩:=Zzr hd
 rw[h4]
 exact h.all i k x r h1 h2 h3 (by have:=(zA0 h1).1;unfold Zxq;omega)
theorem ZzB{s k t:Sc}(h1:k.n=s.n)(h2:k.vars=s.vars)(tn:t.n=s.n)(tv:t.vars=s.vars){L:List Nat}(h:k.states.map (λx=>some x.er)=L.map (λi=>(s.states[i]?).map Sta.er))(ht:L.map (λi=>(s.states[i]?).map Sta.er)=t.states.map (λx=>some x.er)):k.er=t.er:=by
 refine ZsO (h1.trans tn.symm) (h2.trans tv.symm) ?_
 rw[ht]at h
 have:=congrArg (List.map λo:Option Sta=>o.getD ⟨.empty,none,0,[]⟩) h
 rw[List.map_map,List.map_map]at this
 exact this
end Go.Rx