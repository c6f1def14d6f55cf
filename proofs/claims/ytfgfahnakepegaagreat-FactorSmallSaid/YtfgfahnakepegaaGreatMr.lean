/- Trees of regexes, what they mean, and Dc they lie in memory; plain, no program is named. No condition. -/
import Derived.Test.YtfgfahnakepegaaGreatMc
set_option linter.unusedVariables false
set_option linter.unusedSimpArgs false
set_option linter.unusedSectionVars false
namespace Go.Rx
open Go Go.Eng
inductive T where
 | node (k s0 s1 s2 s3 mn mx:Int) (a:Option Addr) (c:Nat) (subs:List T)
def T.k:T->Int
 | .node k _ _ _ _ _ _ _ _ _=>k
def T.s0:T->Int
 | .node _ s _ _ _ _ _ _ _ _=>s
def T.s1:T->Int
 | .node _ _ s _ _ _ _ _ _ _=>s
def T.s2:T->Int
 | .node _ _ _ s _ _ _ _ _ _=>s
def T.s3:T->Int
 | .node _ _ _ _ s _ _ _ _ _=>s
def T.mn:T->Int
 | .node _ _ _ _ _ x _ _ _ _=>x
def T.mx:T->Int
 | .node _ _ _ _ _ _ x _ _ _=>x
def T.a:T->Option Addr
 | .node _ _ _ _ _ _ _ a _ _=>a
def T.c:T->Nat
 | .node _ _ _ _ _ _ _ _ c _=>c
def T.subs:T->List T
 | .node _ _ _ _ _ _ _ _ _ l=>l
def T.sl(t:T):Value:=.slice t.a t.subs.length t.c
def T.cs(t:T):List Value:=[.int .u8 t.k,.int .u64 t.s0,.int .u64 t.s1,.int .u64 t.s2,.int .u64 t.s3,.int .i64 t.mn,.int .i64 t.mx,t.sl]
def T.v(t:T):Value:=.agg #[.int .u8 t.k,.int .u64 t.s0,.int .u64 t.s1,.int .u64 t.s2,.int .u64 t.s3,.int .i64 t.mn,.int .i64 t.mx,.slice t.a t.subs.length t.c]
structure OkN (k s0 s1 s2 s3 mn mx:Int):Prop where
 k:0<=k/\k < 256
 s0:0<=s0/\s0 < 18446744073709551616
 s1:0<=s1/\s1 < 18446744073709551616
 s2:0<=s2/\s2 < 18446744073709551616
 s3:0<=s3/\s3 < 18446744073709551616
 mn : -9223372036854775808<=mn/\mn<=9223372036854775807
 mx : -9223372036854775808<=mx/\mx<=9223372036854775807
mutual
def Rep(m:Mem):T->Prop
 | .node k s0 s1 s2 s3 mn mx a _ l=>l.length<=1000000000000000/\(l=[]\/∃b o,a=some ⟨b,o,none⟩/\RepAt m b o l)/\OkN k s0 s1 s2 s3 mn mx
def RepAt(m:Mem)(b:Nat):Nat->List T->Prop
 | _,[]=>True
 | o,t::l=>m.reads b o t.cs/\Rep m t/\RepAt m b (o+8) l
end
theorem Zgz{m:Mem}{t:T}:Rep m t->(t.subs.length<=1000000000000000/\(t.subs=[]\/∃b o,t.a=some ⟨b,o,none⟩/\RepAt m b o t.subs)):=by
 cases t;simp only[Rep,T.subs,T.a];exact λh=>⟨h.1,h.2.1⟩
theorem Zv0{m:Mem}{t:T}:Rep m t->OkN t.k t.s0 t.s1 t.s2 t.s3 t.mn t.mx:=by
 cases t;simp only[Rep];exact λh=>h.2.2
theorem ZxH{m:Mem}{t:T}(h1:t.subs.length<=1000000000000000)(h2:t.subs=[]\/∃b o,t.a=some ⟨b,o,none⟩/\RepAt m b o t.subs)(h3:OkN t.k t.s0 t.s1 t.s2 t.s3 t.mn t.mx):Rep m t:=by
 cases t;simp only[Rep];exact⟨h1,h2,h3⟩
mutual
theorem Rep.mono{m m':Mem}(h:m.le m'):∀t:T,Rep m t->Rep m' t
 | .node _ _ _ _ _ _ _ a _ l,hr=>by
  simp only[Rep]at *
  refine⟨hr.1,?_,hr.2.2⟩
  rcases hr.2.1 with hr|⟨b,o,h1,h2⟩
  ·exact .inl hr
  ·exact .inr ⟨b,o,h1,RepAt.mono h b o l h2⟩
theorem RepAt.mono{m m':Mem}(h:m.le m')(b:Nat):∀(o:Nat)(l:List T),RepAt m b o l->RepAt m' b o l
 | _,[],_=>by simp only[RepAt]
 | o,t::l,hr=>by
  simp only[RepAt]at *
  exact⟨hr.1.mono h,Rep.mono h t hr.2.1,RepAt.mono h b (o+8) l hr.2.2⟩
end
theorem RepAt.get{m:Mem}{b:Nat}:∀{o:Nat} {l:List T} {i:Nat} {t:T},RepAt m b o l->l[i]?=some t->m.reads b (o+i*8) t.cs/\Rep m t
 | o,[],i,t,_,hi=>by simp at hi
 | o,x::l,0,t,h,hi=>by
  simp only[RepAt]at h
  simp at hi;subst hi
  exact⟨by simpa using h.1,h.2.1⟩
 | o,x::l,i+1,t,h,hi=>by
  simp only[RepAt]at h
  have:=h.2.2.get (i:=i) (by simpa using hi)
  rw[show o+(i+1)*8=o+8+i*8 by omega]
  exact this
mutual
def T.nodes:T->List T
 | .node k s0 s1 s2 s3 mn mx a c l=>.node k s0 s1 s2 s3 mn mx a c l::Zaq l
def Zaq:List T->List T
 | []=>[]
 | t::l=>t.nodes++Zaq l
end
theorem Zbf(t:T):t.nodes=t::Zaq t.subs:=by cases t;simp only[T.nodes,T.subs]
theorem ZcO(l r:List T):Zaq (l++r)=Zaq l++Zaq r:=by
 induction l with
 | nil=>simp[Zaq]
 | cons t l ih=>simp[Zaq,ih,List.append_assoc]
theorem Zkl{l:List T}{i:Nat}{t:T}(h:l[i]?=some t):Zaq (l.take (i+1))=Zaq (l.take i)++t.nodes:=by
 have:l.take (i+1)=l.take i++[t]:=by
  rw[List.take_add_one,h];rfl
 rw[this,ZcO];simp[Zaq]
theorem Zdh{l:List T}{i:Nat}{t:T}(h:l[i]?=some t):Zaq l=Zaq (l.take i)++(t.nodes++Zaq (l.drop (i+1))):=by
 have aS:=(zA0 h).1
 have e:l=l.take i++(t::l.drop (i+1)):=by
  have:=List.drop_eq_getElem_cons aS
  rw[(zA0 h).2]at this
  rw[<-this,List.take_append_drop]
 conv=>lhs;rw[e,ZcO]
 simp[Zaq]
theorem Zv1{t x z:T}{i q:Nat}(hx:t.subs[i]?=some x)(hz:x.nodes[q]?=some z):t.nodes[1+(Zaq (t.subs.take i)).length+q]?=some z:=by
 have hq:=(zA0 hz).1
 rw[Zbf,show 1+(Zaq (t.subs.take i)).length+q=((Zaq (t.subs.take i)).length+q)+1 by omega,List.getElem?_cons_succ,Zdh hx,zA4 (by omega),zA5 (by omega),show(Zaq (List.take i t.subs)).length+q - (Zaq (List.take i t.subs)).length=q by omega]
 exact hz
theorem Zdi{t x:T}(h:x∈t.subs):SizeOf.sizeOf x < SizeOf.sizeOf t:=by
 cases t with
 | node k s0 s1 s2 s3 mn mx a c l=>
  have h':x∈l:=h
  have:=List.sizeOf_lt_of_mem h'
  simp only[T.node.sizeOf_spec]
  omega
theorem Zq0(t:T):Shape.fitsL [.agg [.int .u8,.int .u64,.int .u64,.int .u64,.int .u64,.int .i64,.int .i64,.slice]] [t.v]=true:=by
 simp[Shape.fitsL,Shape.fits,T.v]
mutual
theorem Zso{m:Mem}:∀(t:T),Rep m t->∀x∈t.nodes,Rep m x
 | .node k s0 s1 s2 s3 mn mx a c l,hr,x,hx=>by
  simp only[T.nodes,List.mem_cons]at hx
  rcases hx with rfl|hx
  ·exact hr
  ·simp only[Rep]at hr
   rcases hr.2.1 with h|⟨b,o,_,h⟩
   ·subst h;simp[Zaq]at hx
   ·exact Zpm b o l h x hx
theorem Zpm{m:Mem}(b:Nat):∀(o:Nat)(l:List T),RepAt m b o l->∀x∈Zaq l,Rep m x
 | _,[],_,x,hx=>by simp[Zaq]at hx
 | o,t::l,hr,x,hx=>by
  simp only[RepAt]at hr
  simp only[Zaq,List.mem_append]at hx
  rcases hx with hx|hx
  ·exact Zso t hr.2.1 x hx
  ·exact Zpm b (o+8) l hr.2.2 x hx
end
theorem Zk2{m:Mem}{t x:T}(h:Rep m t)(hx:x∈t.nodes):Rep m x:=Zso t h x hx
def Zb7(least most:Int):Bool:=!(decide (least < 0)||decide (least > 16)||(least == 1&&most == 1))&&(most == -1||(decide (most ≥ 1)&&decide (most<=16)&&decide (most ≥ least)))
def T.has(t:T)(k:Int):Bool:=t.subs.any λx=>x.k == k
def T.light(t:T):Bool:=decide (t.nodes.length<=10000)
def T.setZ(t:T):Bool:=t.s0 == 0&&t.s1 == 0&&t.s2 == 0&&t.s3 == 0
def T.right(t:T):Bool:=
 !(t.k != 2&&!t.setZ||(t.k != 5&&(t.mn != 0||t.mx != 0)||(decide (t.k < 3)&&decide (0 < t.subs.length)))) &&
 (if t.k=1 then true else if t.k=2 then !t.setZ else if t.k=3 then decide (1 < t.subs.length)&&(!t.has 1&&!t.has 3)else if t.k=4 then decide (1 < t.subs.length)&&!t.has 4
  else if t.k=5 then t.subs.length == 1&&(Zb7 t.mn t.mx&&!t.has 1)else t.k == 6&&t.subs.length == 1)
def T.clean(t:T):Bool:=t.light&&t.nodes.all T.right
def T.size(t:T):Int:=if t.light then t.nodes.length else 10001
def T.groups(t:T):Int:=if t.light then(t.nodes.countP λx=>x.k == 6:Nat)else 10001
def Zv2(x y:Int):Int:=if y > x then y else x
def ZxI(x y:Int):Int:=if y < x then y else x
def Zy1(k mn mx sum:Int):Int:=ZxI (if k=5 then sum*ZxI (if mx=-1 then Zv2 (Zv2 mn 0) 1 else Zv2 (Zv2 mn 0) mx) 10001 else sum) 10001
mutual
def T.pos:T->Int
 | .node k _ _ _ _ mn mx _ _ l=>Zy1 k mn mx ((if k=2 then 1 else 0)+Zqu l)
def Zqu:List T->Int
 | []=>0
 | t::l=>t.pos+Zqu l
end
def T.positions(t:T):Int:=if t.light then t.pos else 10001
def T.check(t:T):Int:=if t.clean=false then 80 else if t.size > 120 then 81 else if t.positions > 400 then 82 else if t.groups > 9 then 83 else 0
mutual
def T.same:T->T->Bool
 | .node k s0 s1 s2 s3 mn mx _ _ l,.node k' s0' s1' s2' s3' mn' mx' _ _ l'=>k == k'&&((s0 == s0'&&s1 == s1'&&s2 == s2'&&s3 == s3')&&(mn == mn'&&(mx == mx'&&ZdN l l')))
def ZdN:List T->List T->Bool
 | [],[]=>true
 | t::l,t'::l'=>t.same t'&&ZdN l l'
 | _,_=>false
end
theorem Zvh(t u:T):t.same u=(t.k == u.k&&((t.s0 == u.s0&&t.s1 == u.s1&&t.s2 == u.s2&&t.s3 == u.s3)&&(t.mn == u.mn&&(t.mx == u.mx&&ZdN t.subs u.subs)))):=by
 cases t;cases u;simp only[T.same,T.k,T.s0,T.s1,T.s2,T.s3,T.mn,T.mx,T.subs]
theorem Zk3:∀{l r:List T},¬l.length=r.length->ZdN l r=false
 | [],[],h=>by simp at h
 | [],_::_,_=>by simp[ZdN]
 | _::_,[],_=>by simp[ZdN]
 | x::l,y::r,h=>by
  simp only[ZdN,Zk3 (l:=l) (r:=r) (by simpa using h),Bool.and_false]
theorem Zom:∀{l r:List T} {i:Nat} {x y:T},l[i]?=some x->r[i]?=some y->x.same y=false->ZdN l r=false
 | [],r,i,x,y,h,_,_=>by simp at h
 | _::_,[],i,x,y,_,h,_=>by simp at h
 | a::l,b::r,0,x,y,h,k,e=>by
  simp at h k;subst h k
  simp[ZdN,e]
 | a::l,b::r,i+1,x,y,h,k,e=>by
  simp only[ZdN,Zom (l:=l) (r:=r) (i:=i) (by simpa using h) (by simpa using k) e,Bool.and_false]
theorem ZiO:∀{l r:List T} {i:Nat} {x y:T},l[i]?=some x->r[i]?=some y->ZdN (l.take i) (r.take i)=true->x.same y=true->True->ZdN (l.take (i+1)) (r.take (i+1))=true
 | [],r,i,x,y,h,_,_,_,_=>by simp at h
 | _::_,[],i,x,y,_,h,_,_,_=>by simp at h
 | a::l,b::r,0,x,y,h,k,_,e,_=>by
  simp at h k;subst h k
  simp[ZdN,e]
 | a::l,b::r,i+1,x,y,h,k,hs,e,_=>by
  simp only[List.take_succ_cons,ZdN,zA7]at hs ⊢
  exact⟨hs.1,ZiO (by simpa using h) (by simpa using k) hs.2 e trivial⟩
theorem Zv3(t:T):t.pos=Zy1 t.k t.mn t.mx ((if t.k=2 then 1 else 0)+Zqu t.subs):=by
 cases t;simp only[T.pos,T.k,T.mn,T.mx,T.subs];congr 1
theorem ZeT(l r:List T):Zqu (l++r)=Zqu l+Zqu r:=by
 induction l with
 | nil=>simp[Zqu]
 | cons t l ih=>simp[Zqu,ih,Int.add_assoc]
theorem Zsp(x y:Int):x<=Zv2 x y/\y<=Zv2 x y:=by unfold Zv2;split <;> omega
theorem Zpn(x y:Int):ZxI x y<=x/\ZxI x y<=y:=by unfold ZxI;split <;> omega
theorem Zvi{x y:Int}(h:0<=x)(k:0<=y):0<=ZxI x y:=by unfold ZxI;split <;> omega
def ZA5(mn mx:Int):Int:=ZxI (if mx=-1 then Zv2 (Zv2 mn 0) 1 else Zv2 (Zv2 mn 0) mx) 10001
theorem ZxJ(mn mx:Int):0<=ZA5 mn mx/\ZA5 mn mx<=10001:=by
 unfold ZA5
 refine⟨Zvi ?_ (by omega),(Zpn _ _).2⟩
 have h1:=Zsp mn 0
 split
 ·have:=Zsp (Zv2 mn 0) 1;omega
 ·have:=Zsp (Zv2 mn 0) mx;omega
theorem ZxK{k mn mx sum:Int}(h:0<=sum):0<=Zy1 k mn mx sum/\Zy1 k mn mx sum<=10001:=by
 have h2:=Int.mul_nonneg h (ZxJ mn mx).1
 unfold Zy1
 refine⟨Zvi ?_ (by omega),(Zpn _ _).2⟩
 split
 ·exact h2
 ·exact h
mutual
theorem Zt2:∀t:T,0<=t.pos/\t.pos<=10001
 | .node k _ _ _ _ mn mx _ _ l=>by
  simp only[T.pos]
  have:=Zpo l
  exact ZxK (by split <;> omega)
theorem Zpo:∀l:List T,0<=Zqu l
 | []=>by simp[Zqu]
 | t::l=>by
  simp only[Zqu]
  have:=Zt2 t
  have:=Zpo l
  omega
end
theorem Zpp(t:T):t.subs.length < t.nodes.length:=by
 rw[Zbf,List.length_cons]
 have:∀l:List T,l.length<=(Zaq l).length:=by
  intro l
  induction l with
  | nil=>simp[Zaq]
  | cons x l ih=>simp only[Zaq,List.length_cons,zA1];rw[Zbf];simp;omega
 have:=this t.subs
 omega
theorem Zt3{t x:T}(h:x∈t.subs):x.nodes.length < t.nodes.length:=by
 obtain⟨i,hi⟩:=List.getElem?_of_mem h
 rw[Zbf t,List.length_cons,Zdh hi]
 simp;omega
def T.hasB(t:T)(c:Nat):Bool:=((if c / 64=0 then t.s0 else if c / 64=1 then t.s1 else if c / 64=2 then t.s2 else t.s3).toNat).testBit (c % 64)
end Go.Rx
namespace Go.Rx
open Go Go.Eng Go.RowKit
def wdN(f j:Nat):Nat:=(f >>> (64*j)) % 2 ^ 64
theorem ZzW(n:Nat)(h:n < 18446744073709551616):IntKind.u64.wrap (n:Int)=n:=by
 unfold IntKind.wrap
 have e:(2:Int) ^ 64=18446744073709551616:=by decide
 simp only[IntKind.bits,IntKind.signed,Bool.false_and,Bool.false_eq_true,if_false,e]
 omega
theorem ZBv(a:Nat)(h:a < 18446744073709551616):(BitVec.ofInt 64 (a:Int)).toNat=a:=by
 rw[BitVec.toNat_ofInt]
 have e:((2:Nat) ^ 64:Nat)=18446744073709551616:=by decide
 rw[e];omega
theorem Zsq(a b:Nat)(ha:a < 18446744073709551616)(hb:b < 18446744073709551616):IntKind.u64.wrap ((BitVec.ofInt 64 (a:Int)|||BitVec.ofInt 64 (b:Int)).toNat:Int)=((a|||b:Nat):Int):=by
 rw[BitVec.toNat_or,ZBv a ha,ZBv b hb]
 exact ZzW _ (Nat.or_lt_two_pow (n:=64) ha hb)
def Byt(m:Mem)(a:Option Addr)(s:List Nat):Prop:=(s=[]\/∃b o,a=some ⟨b,o,none⟩/\m.reads b o (s.map λc:Nat=>Value.int .u8 c))/\∀c∈s,c < 256
theorem Byt.mono{m m':Mem}{a s}(h:Byt m a s)(hm:m.le m'):Byt m' a s:=by
 refine⟨?_,h.2⟩
 rcases h.1 with h|⟨b,o,h1,h2⟩
 ·exact .inl h
 ·exact .inr ⟨b,o,h1,h2.mono hm⟩
theorem Byt.get{m:Mem}{a s}(h:Byt m a s){i c:Nat}(hi:s[i]?=some c):(∃b o,a=some ⟨b,o,none⟩/\m b (o+i)=some (.int .u8 c))/\c < 256:=by
 refine⟨?_,h.2 c (zA2 hi)⟩
 rcases h.1 with h|⟨b,o,h1,h2⟩
 ·subst h;simp at hi
 ·exact⟨b,o,h1,h2 i _ (by rw[List.getElem?_map,hi];rfl)⟩
def ZAq(t:T)(back:Bool)(f i c out:Nat):Nat:=if(f.testBit (if back then i+1 else i)&&t.hasB c)=true then out|||2 ^ (if back then i else i+1)else out
def ZBw(t:T)(back:Bool)(f:Nat):List Nat->Nat->Nat->Nat
 | [],_,out=>out
 | c::s,i,out=>ZBw t back f s (i+1) (ZAq t back f i c out)
def ZA6(g:Nat->Nat):Nat->Nat->Nat
 | 0,f=>f
 | n+1,f=>ZA6 g n (g f)
def ZzX(g:Nat->Nat)(mx:Int):Nat->Int->Nat->Nat->Nat
 | 0,_,out,_=>out
 | n+1,k,out,last=>if k=mx then out else if out|||g last=out then out else ZzX g mx n (IntKind.i64.wrap (k+1)) (out|||g last) (g last)
@[irreducible] def ZBR:Nat:=576
abbrev ZBS:Nat:=2 ^ ZBR
def ZBT(g:Nat->Nat)(mn mx:Int)(f:Nat):Nat:=ZzX g mx (ZBS+1) mn (ZA6 g mn.toNat f) (ZA6 g mn.toNat f)
mutual
def T.lead(s:List Nat)(back:Bool):T->Nat->Nat
 | .node k s0 s1 s2 s3 mn mx a c l=>λf=>
  if k=1 then f else if k=2 then ZBw (.node k s0 s1 s2 s3 mn mx a c l) back f s 0 0
  else if k=3 then(if back then ZzZ s back l f else ZzY s back l f)
  else if k=4 then ZBx s back l f 0
  else if k=5 then ZBT (Zz0 s back l) mn mx f
  else if k=6 then Zz0 s back l f else 0
def ZzY(s:List Nat)(back:Bool):List T->Nat->Nat
 | []=>λf=>f
 | t::l=>λf=>ZzY s back l (t.lead s back f)
def ZzZ(s:List Nat)(back:Bool):List T->Nat->Nat
 | []=>λf=>f
 | t::l=>λf=>t.lead s back (ZzZ s back l f)
def ZBx(s:List Nat)(back:Bool):List T->Nat->Nat->Nat
 | []=>λ_ out=>out
 | t::l=>λf out=>ZBx s back l f (out|||t.lead s back f)
def Zz0(s:List Nat)(back:Bool):List T->Nat->Nat
 | []=>λf=>f
 | t::_=>λf=>t.lead s back f
end
section
variable {s:List Nat} {back:Bool}
end
theorem ZbR{α:Type}{l:List α}{i:Nat}{x:α}(h:l[i]?=some x):l.take (i+1)=l.take i++[x]:=by
 rw[List.take_add_one,h];rfl
section
variable (s:List Nat) (back:Bool) (hs:s.length<=512)
include hs
end
def T0:T:=.node 0 0 0 0 0 0 0 none 0 []
def T1:T:=.node 1 0 0 0 0 0 0 none 0 []
theorem Zjn(m:Mem):Rep m T0:=by simp only[T0,Rep];exact⟨by simp,.inl trivial,by constructor <;> decide⟩
theorem Zt4(m:Mem):Rep m T1:=by simp only[T1,Rep];exact⟨by simp,.inl trivial,by constructor <;> decide⟩
def T.isNone(t:T):Bool:=t.k == 0&&(t.light&&(T0.light&&t.same T0))
def T.wrong(t:T)(len:Nat)(i:Int):Int:=if(!t.isNone&&!(t.check == 0))=true then 130 else if(len:Int) > 512 then 3 else if i < 0\/i > len then 2 else 0
structure Rg where
 bg:Bool
 en:Bool
 t:T
def Rg.v(r:Rg):Value:=.agg #[.bool r.bg,.bool r.en,.int .u8 r.t.k,.int .u64 r.t.s0,.int .u64 r.t.s1,.int .u64 r.t.s2,.int .u64 r.t.s3,.int .i64 r.t.mn,.int .i64 r.t.mx,.slice r.t.a r.t.subs.length r.t.c]
def Rg.cs(r:Rg):List Value:=[.bool r.bg,.bool r.en,.int .u8 r.t.k,.int .u64 r.t.s0,.int .u64 r.t.s1,.int .u64 r.t.s2,.int .u64 r.t.s3,.int .i64 r.t.mn,.int .i64 r.t.mx,.slice r.t.a r.t.subs.length r.t.c]
def Rgs(m:Mem)(a:Option Addr)(l:List Rg):Prop:=l.length<=1000000000000000/\(l=[]\/∃b o,a=some ⟨b,o,none⟩/\∀i r,l[i]?=some r->m.reads b (o+i*10) r.cs)/\∀r∈l,Rep m r.t
theorem Rgs.mono{m m':Mem}{a l}(h:Rgs m a l)(hm:m.le m'):Rgs m' a l:=by
 refine⟨h.1,?_,λr hr=>(h.2.2 r hr).mono hm⟩
 rcases h.2.1 with h|⟨b,o,h1,h2⟩
 ·exact .inl h
 ·exact .inr ⟨b,o,h1,λi r hi=>(h2 i r hi).mono hm⟩
def Zzd(f:Nat):List Nat:=(List.range 513).filter λi=>f.testBit i
def ZxL(n:Nat):List Nat->Option Nat
 | []=>none
 | i::_=>if i > n then none else some i
def Rg.from(s:List Nat)(n:Nat)(r:Rg):Option Nat:=if(r.en&&decide ((n:Int) < s.length))=true then none else if r.bg then(if(r.t.lead s true (2 ^ n)).testBit 0 then some 0 else none)else
 ZxL n (Zzd (r.t.lead s true (2 ^ n)))
def Rg.wrong(r:Rg)(len:Nat)(n:Int):Int:=if r.t.check=0 then r.t.wrong len n else 130
def Zze(l:List Rg)(len:Nat)(n:Int):Int:=if(l.length:Int) > 64 then 5 else if l.all (λr=>r.t.check == 0)then T1.wrong len n else 130
def Za9(φ:T->Prop):Value->Mem->List (List Value)->Prop:=λv m' _=>∃t:T,v=t.v/\Rep m' t/\φ t
abbrev TRK:=Int->Int->Int->Int->Int->Int->Int->Option Addr->Nat->Nat->Mem->Prop
theorem ZaD{φ:T->Prop}{m:Mem}{K:TRK}(k:∀(t:T)(m':Mem),m.le m'->Rep m' t->φ t->K t.k t.s0 t.s1 t.s2 t.s3 t.mn t.mx t.a t.subs.length t.c m'):
  ∀(n0 n1 n2 n3 n4 n5 n6:Int)(a:Option Addr)(n c:Nat)(m':Mem),m.le m'->Za9 φ (.agg #[.int .u8 n0,.int .u64 n1,.int .u64 n2,.int .u64 n3,.int .u64 n4,.int .i64 n5,.int .i64 n6,.slice a n c]) m' []->K n0 n1 n2 n3 n4 n5 n6 a n c m':=by
 rintro n0 n1 n2 n3 n4 n5 n6 a n c m' hm ⟨t,hv,hr,hp⟩
 simp only[T.v,Value.agg.injEq,Array.mk.injEq,List.cons.injEq,Value.int.injEq,Value.slice.injEq,true_and,and_true]at hv
 obtain⟨rfl,rfl,rfl,rfl,rfl,rfl,rfl,rfl,rfl,rfl⟩:=hv
 exact k t m' hm hr hp
theorem Zaj{φ:T->Prop}:∀(v:Value)(m':Mem) (css:List (List Value)),Za9 φ v m' css->Shape.fits (.agg [.int .u8,.int .u64,.int .u64,.int .u64,.int .u64,.int .i64,.int .i64,.slice]) v=true:=λv _ _ ⟨t,e,_⟩=>by rw[e];rfl
def Zk4(c j:Nat):Int:=if c / 64=j then((2 ^ (c % 64):Nat):Int)else 0
def Zam(c:Nat):T:=.node 2 (Zk4 c 0) (Zk4 c 1) (Zk4 c 2) (Zk4 c 3) 0 0 none 0 []
theorem Zk5(c j:Nat):0<=Zk4 c j/\Zk4 c j < 18446744073709551616:=by
 unfold Zk4
 split
 ·have h:(2:Nat) ^ (c % 64) < 2 ^ 64:=Nat.pow_lt_pow_right (by omega) (by omega)
  have e:(2:Nat) ^ 64=18446744073709551616:=by decide
  rw[e]at h
  generalize (2:Nat) ^ (c % 64)=w at *
  exact⟨by omega,by omega⟩
 ·omega
theorem ZmM(c:Nat)(m:Mem):Rep m (Zam c):=by
 simp only[Zam,Rep]
 exact⟨by simp,.inl trivial,⟨by omega,Zk5 c 0,Zk5 c 1,Zk5 c 2,Zk5 c 3,by omega,by omega⟩⟩
def RepL(m:Mem)(a:Option Addr)(l:List T):Prop:=l.length<=1000000000000000/\(l=[]\/∃b o,a=some ⟨b,o,none⟩/\RepAt m b o l)
theorem RepL.mono{m m':Mem}{a l}(h:RepL m a l)(hm:m.le m'):RepL m' a l:=by
 refine⟨h.1,?_⟩
 rcases h.2 with h|⟨b,o,h1,h2⟩
 ·exact .inl h
 ·exact .inr ⟨b,o,h1,h2.mono hm⟩
theorem Rep.subs{m:Mem}{t:T}(h:Rep m t):RepL m t.a t.subs:=Zgz h
def Zba(k mn mx:Int)(a:Option Addr)(c:Nat)(l:List T):T:=.node k 0 0 0 0 mn mx a c l
theorem Zc7{m:Mem}{k mn mx:Int}{a:Option Addr}{c:Nat}{l:List T}(h:RepL m a l)(hk:0<=k/\k < 256)(h1 : -9223372036854775808<=mn/\mn<=9223372036854775807)(h2 : -9223372036854775808<=mx/\mx<=9223372036854775807):Rep m (Zba k mn mx a c l):=by
 simp only[Zba,Rep]
 exact⟨h.1,h.2,⟨hk,by omega,by omega,by omega,by omega,h1,h2⟩⟩
theorem Zon{m:Mem}{b:Nat}{t:T}(h:m.reads b 0 t.cs)(hr:Rep m t):RepL m (some ⟨b,0,none⟩) [t]:=⟨by simp,.inr ⟨b,0,rfl,by simp only[RepAt];exact⟨h,hr,trivial⟩⟩⟩
def Zcx(l:List T):List Value:=(l.map T.cs).flatten
theorem Zat(l:List T):(Zcx l).length=l.length*8:=by
 induction l with
 | nil=>rfl
 | cons t l ih=>simp[Zcx,T.cs]at ih ⊢;omega
theorem ZdO(l:List T)(t:T):Zcx (l++[t])=Zcx l++t.cs:=by simp[Zcx]
theorem Za3(l r:List T):Zcx (l++r)=Zcx l++Zcx r:=by simp[Zcx]
theorem Zsr{m:Mem}{b:Nat}:∀{o:Nat} {l:List T},m.reads b o (Zcx l)->(∀t∈l,Rep m t)->RepAt m b o l
 | o,[],_,_=>by simp only[RepAt]
 | o,t::l,h,hr=>by
  simp only[RepAt]
  refine⟨λj v hj=>?_,hr t (by simp),Zsr (λj v hj=>?_) λx hx=>hr x (by simp[hx])⟩
  ·refine h j v ?_
   simp only[Zcx,List.map_cons,List.flatten_cons]
   rw[zA5 (zA0 hj).1];exact hj
  ·have:=h (8+j) v (by
    simp only[Zcx,List.map_cons,List.flatten_cons]
    rw[zA4 (by simp[T.cs])]
    have e:8+j - t.cs.length=j:=by simp[T.cs]
    rw[e];exact hj)
   rw[show o+8+j=o+(8+j) by omega];exact this
theorem Zcs{m:Mem}{a:Option Addr}{l:List T}(h:rowRd m a (Zcx l))(hr:∀t∈l,Rep m t)(hl:l.length<=1000000000000000):RepL m a l:=by
 refine⟨hl,?_⟩
 cases l with
 | nil=>exact .inl rfl
 | cons t l=>
  rcases h with h|⟨b,o,h1,h2⟩
  ·simp[Zcx,T.cs]at h
  ·exact .inr ⟨b,o,h1,Zsr h2 hr⟩
theorem Zaw{m:Mem}{a:Option Addr}{l:List T}(h:RepL m a l):rowRd m a (Zcx l):=by
 have key:∀(l:List T)(b o:Nat),RepAt m b o l->m.reads b o (Zcx l):=by
  intro l
  induction l with
  | nil=>intro b o _ j v hj;simp[Zcx]at hj
  | cons t l ih=>
   intro b o hr j v hj
   simp only[RepAt]at hr
   simp only[Zcx,List.map_cons,List.flatten_cons]at hj
   by_cases aS:j < 8
   ·rw[zA5 (by simpa[T.cs]using aS)]at hj
    exact hr.1 j v hj
   ·rw[zA4 (by simp[T.cs];omega)]at hj
    have:=ih b (o+8) hr.2.2 (j - 8) v (by simpa[T.cs,Zcx]using hj)
    rw[show o+8+(j - 8)=o+j by omega]at this;exact this
 rcases h.2 with h|⟨b,o,h1,h2⟩
 ·subst h;exact .inl rfl
 ·exact .inr ⟨b,o,h1,key l b o h2⟩
theorem Zbb{m:Mem}{a:Option Addr}{l:List T}(h:RepL m a l):∀t∈l,Rep m t:=by
 rcases h.2 with h|⟨b,o,_,h⟩
 ·subst h;simp
 ·intro t ht
  obtain⟨i,hi⟩:=List.getElem?_of_mem ht
  exact(h.get hi).2
def T.good(t:T):Bool:=t.nodes.all T.right
def isG(t:T):Bool:=t.k == 6
theorem ZmN(p:T->Bool):∀l:List T,(Zaq l).all p=l.all λt=>t.nodes.all p
 | []=>rfl
 | t::l=>by simp only[Zaq,List.all_append,List.all_cons,ZmN p l]
theorem ZdP(t:T):t.good=(t.right&&t.subs.all T.good):=by
 unfold T.good;rw[Zbf,List.all_cons,ZmN]
def grL(l:List T):Nat:=(Zaq l).countP isG
def szL(l:List T):Nat:=(Zaq l).length
def T.gr(t:T):Nat:=t.nodes.countP isG
theorem ZbG(l r:List T):szL (l++r)=szL l+szL r:=by unfold szL;rw[ZcO,zA1]
theorem Zb8(l r:List T):grL (l++r)=grL l+grL r:=by unfold grL;rw[ZcO,List.countP_append]
theorem Zci(t:T):szL [t]=t.nodes.length:=by simp[szL,Zaq]
theorem Zfq(t:T):grL [t]=t.gr:=by simp[grL,Zaq,T.gr]
theorem ZgA(t:T):Zqu [t]=t.pos:=by simp[Zqu]
theorem ZaW(t:T)(l:List T):szL (t::l)=t.nodes.length+szL l:=by simp[szL,Zaq]
theorem Zdy(t:T)(l:List T):grL (t::l)=t.gr+grL l:=by simp[grL,Zaq,T.gr,List.countP_append]
theorem Zb9(t:T):t.nodes.length=1+szL t.subs:=by rw[Zbf,List.length_cons,szL];omega
theorem ZmO(t:T):t.gr=(if isG t=true then 1 else 0)+grL t.subs:=by
 unfold T.gr;rw[Zbf,List.countP_cons,grL];omega
theorem Zbo(l:List T):l.length<=szL l:=by
 induction l with
 | nil=>simp
 | cons t l ih=>rw[ZaW,Zb9,List.length_cons];omega
def Zqv(k:Int)(t:T):List T:=if t.k=k then t.subs else if k=3/\t.k=1 then[]else[t]
def ZcB(k:Int)(a:Option Addr)(c:Nat):List T->T
 | []=>T1
 | [x]=>x
 | x::y::l=>Zba k 0 0 a c (x::y::l)
theorem Zca{t:T}{k:Int}(h:t.has k=false):∀x∈t.subs,x.k≠k:=by
 intro x hx e
 unfold T.has at h
 have:=List.any_eq_false.1 h x hx
 simp[e]at this
theorem Zq1{t:T}{k:Int}(h:∀x∈t.subs,x.k≠k):t.has k=false:=by
 unfold T.has
 rw[List.any_eq_false]
 intro x hx
 have:=h x hx
 simpa using this
theorem Zss{k:Int}{t:T}(hk:k=3\/k=4)(hg:t.good=true)(hp:t.pos<=10000):(∀x∈Zqv k t,x.good=true/\x.k≠k/\(k=3->x.k≠1))/\szL (Zqv k t)<=t.nodes.length/\grL (Zqv k t)<=t.gr/\Zqu (Zqv k t)<=t.pos:=by
 have hg':=hg
 rw[ZdP,zA7,List.all_eq_true]at hg'
 unfold Zqv
 split
 ·rename_i dR
  refine⟨λx hx=>⟨hg'.2 x hx,?_⟩,by rw[Zb9];omega,by rw[ZmO];omega,?_⟩
  ·have hr:=hg'.1
   unfold T.right at hr
   rw[zA7]at hr
   have hr:=hr.2
   rcases hk with rfl|rfl
   ·simp only[dR]at hr
    simp at hr
    exact⟨Zca hr.2.2 x hx,λ_=>Zca hr.2.1 x hx⟩
   ·simp only[dR]at hr
    simp at hr
    exact⟨Zca hr.2 x hx,λh=>by omega⟩
  ·rw[Zv3]at hp ⊢
   have h5:¬t.k=5:=by omega
   have h2:¬t.k=2:=by omega
   unfold Zy1 at hp ⊢
   rw[if_neg h5,if_neg h2,Int.zero_add]at hp ⊢
   unfold ZxI at hp ⊢
   split at hp
   ·omega
   ·split <;> omega
 ·rename_i dR
  split
  ·refine⟨λx hx=>by simp at hx,by simp[szL,Zaq],by simp[grL,Zaq],?_⟩
   simp only[Zqu];exact(Zt2 t).1
  ·rename_i Bh
   refine⟨λx hx=>?_,by rw[Zci];exact Nat.le_refl _,by rw[Zfq];exact Nat.le_refl _,by rw[ZgA];exact Int.le_refl _⟩
   simp at hx;subst hx
   exact⟨hg,dR,λh=>λh1=>Bh ⟨h,h1⟩⟩
theorem ZfN{k:Int}(hk:k=3\/k=4)(a:Option Addr)(c:Nat):∀{l:List T},(∀x∈l,x.good=true/\x.k≠k/\(k=3->x.k≠1))->(ZcB k a c l).good=true/\(ZcB k a c l).nodes.length<=1+szL l/\(ZcB k a c l).gr<=grL l/\(ZcB k a c l).pos<=Zqu l
 | [],_=>⟨show T1.good=true by decide,show T1.nodes.length<=1 by decide,show T1.gr<=0 by decide,show T1.pos<=0 by decide⟩
 | [x],h=>by
  rw[Zci,Zfq,ZgA]
  exact⟨(h x (by simp)).1,by show x.nodes.length<=_;omega,Nat.le_refl _,Int.le_refl _⟩
 | x::y::l,h=>by
  show(Zba k 0 0 a c (x::y::l)).good=true/\(Zba k 0 0 a c (x::y::l)).nodes.length<=_/\(Zba k 0 0 a c (x::y::l)).gr<=_/\(Zba k 0 0 a c (x::y::l)).pos<=_
  have hs:(Zba k 0 0 a c (x::y::l)).subs=x::y::l:=rfl
  have dR:(Zba k 0 0 a c (x::y::l)).k=k:=rfl
  have hz:(Zba k 0 0 a c (x::y::l)).setZ=true:=rfl
  have sZ:(Zba k 0 0 a c (x::y::l)).mn=0:=rfl
  have mZ:(Zba k 0 0 a c (x::y::l)).mx=0:=rfl
  refine⟨?_,by rw[Zb9,hs];exact Nat.le_refl _,?_,?_⟩
  ·rw[ZdP,zA7,List.all_eq_true,hs]
   refine⟨?_,λz hz=>(h z hz).1⟩
   have h1:k=3->(Zba k 0 0 a c (x::y::l)).has 1=false:=λe=>Zq1 λz hz=>(h z hz).2.2 e
   have h2:(Zba k 0 0 a c (x::y::l)).has k=false:=Zq1 λz hz=>(h z hz).2.1
   unfold T.right
   rw[dR,hz,sZ,mZ,hs]
   rcases hk with rfl|rfl
   ·simp[h1 rfl,h2]
   ·simp[h2]
  ·rw[ZmO,hs,isG,dR]
   rcases hk with rfl|rfl <;> simp
  ·rw[Zv3,dR,sZ,mZ,hs]
   unfold Zy1
   rw[if_neg (by omega),if_neg (by omega),Int.zero_add]
   exact(Zpn _ _).1
structure J (i:Nat)(ts:List T)(u g:Nat):Prop where
 good:∀t∈ts,t.good=true
 sz:szL ts<=i
 pos:Zqu ts<=(i*u:Nat)
 u1:1<=u
 u16:u<=16
 gr:grL ts<=g
 g9:g<=9
theorem J.zero:J 0 [] 1 0:=⟨by simp,by simp[szL,Zaq],by simp[Zqu],by omega,by omega,by simp[grL,Zaq],by omega⟩
theorem J.skip{i ts u g}(h:J i ts u g):J (i+1) ts u g:=
 ⟨h.good,by have:=h.sz;omega,by have:=h.pos;have e:(i+1)*u=i*u+u:=Nat.succ_mul i u;rw[e];omega,h.u1,h.u16,h.gr,h.g9⟩
theorem J.push{i ts u g}(h:J i ts u g){t:T}(hg:t.good=true)(hs:t.nodes.length=1)(hp:t.pos<=1)(hr:t.gr=0):J (i+1) (ts++[t]) u g:=by
 refine⟨λx hx=>?_,?_,?_,h.u1,h.u16,?_,h.g9⟩
 ·rcases List.mem_append.1 hx with hx|hx
  ·exact h.good x hx
  ·simp at hx;subst hx;exact hg
 ·rw[ZbG,Zci,hs];have:=h.sz;omega
 ·rw[ZeT,ZgA];have:=h.pos;have:=h.u1;have e:(i+1)*u=i*u+u:=Nat.succ_mul i u;rw[e];omega
 ·rw[Zb8,Zfq,hr];have:=h.gr;omega
theorem J.group{i ts u g}{x:T}(h:J i (ts++[x]) u g)(hg:g < 9)(a:Option Addr)(c:Nat):J (i+1) (ts++[Zba 6 0 0 a c [x]]) u (g+1):=by
 have hz:=h.sz
 have hp:=h.pos
 have mA:=h.gr
 rw[ZeT,ZgA]at hp
 rw[ZbG,Zci]at hz
 rw[Zb8,Zfq]at mA
 have hs:(Zba 6 0 0 a c [x]).subs=[x]:=rfl
 refine⟨λz hz=>?_,?_,?_,h.u1,h.u16,?_,by omega⟩
 ·rcases List.mem_append.1 hz with hz|hz
  ·exact h.good z (by simp[hz])
  ·simp at hz;subst hz
   rw[ZdP,zA7,List.all_eq_true]
   refine⟨rfl,λz hz=>?_⟩
   rw[hs]at hz;simp at hz;subst hz
   exact h.good z (by simp)
 ·rw[ZbG,Zci,Zb9,hs,Zci];omega
 ·rw[ZeT,ZgA,Zv3,hs,ZgA]
  have:Zy1 (Zba 6 0 0 a c [x]).k (Zba 6 0 0 a c [x]).mn (Zba 6 0 0 a c [x]).mx ((if(Zba 6 0 0 a c [x]).k=2 then 1 else 0)+x.pos)<=x.pos:=by
   show ZxI (if(6:Int)=5 then _ else(if(6:Int)=2 then 1 else 0)+x.pos) 10001<=_
   rw[if_neg (by omega),if_neg (by omega),Int.zero_add]
   exact(Zpn _ _).1
  have e:(i+1)*u=i*u+u:=Nat.succ_mul i u
  rw[e];omega
 ·rw[Zb8,Zfq,ZmO,hs,Zfq]
  split <;> omega
structure F (t:T)(l:List T):Prop where
 good:t.good=true
 goods:∀x∈l,x.good=true
 sz:t.nodes.length+szL l+l.length<=60
 pos:t.pos+Zqu l<=400
 gr:t.gr+grL l<=9
theorem F.step{t x:T}{l:List T}(h:F t (x::l))(a:Option Addr)(c:Nat):F (ZcB 4 a c (Zqv 4 t++Zqv 4 x)) l:=by
 have h1:=h.sz
 have h2:=h.pos
 have h3:=h.gr
 rw[ZaW,List.length_cons]at h1
 rw[Zdy]at h3
 simp only[Zqu]at h2
 have n1:=Zpo l
 have n2:=(Zt2 x).1
 have n3:=(Zt2 t).1
 obtain⟨a1,a2,a3,a4⟩:=Zss (.inr rfl) h.good (by omega) (t:=t)
 obtain⟨b1,b2,b3,b4⟩:=Zss (.inr rfl) (h.goods x (by simp)) (by omega)
 obtain⟨c1,c2,c3,c4⟩:=ZfN (.inr rfl) a c (l:=Zqv 4 t++Zqv 4 x) (λz hz=>by
  rcases List.mem_append.1 hz with hz|hz
  ·exact a1 z hz
  ·exact b1 z hz)
 rw[ZbG]at c2
 rw[Zb8]at c3
 rw[ZeT]at c4
 exact⟨c1,λz hz=>h.goods z (by simp[hz]),by omega,by omega,by omega⟩
theorem F.done{t:T}{l:List T}(h:F t l):t.check=0:=by
 have h1:=h.sz
 have h2:=h.pos
 have h3:=h.gr
 have n1:=Zpo l
 have hl:t.light=true:=by unfold T.light;exact decide_eq_true (by omega)
 have hc:t.clean=true:=by unfold T.clean;rw[hl];exact h.good
 have hg:((t.nodes.countP λx=>x.k == 6:Nat))=t.gr:=rfl
 unfold T.check
 rw[hc]
 unfold T.size T.positions T.groups
 rw[hl,hg]
 simp only[if_true,Bool.true_eq_false,if_false]
 rw[if_neg (by omega),if_neg (by omega),if_neg (by omega)]
end Go.Rx
namespace Go.Rx
open Go Go.Eng Go.RowKit
set_option maxRecDepth 100000
theorem Zan{t:T}(h:t.good=true):t.right=true/\∀x∈t.subs,x.good=true:=by
 rw[ZdP,zA7,List.all_eq_true]at h;exact h
theorem Zkm{t:T}(h:t.right=true):t.k=1\/t.k=2\/t.k=3\/t.k=4\/(t.k=5/\(∃x,t.subs=[x])/\0<=t.mn/\t.mn<=16/\(t.mx=-1\/(1<=t.mx/\t.mn<=t.mx/\t.mx<=16)))\/(t.k=6/\∃x,t.subs=[x]):=by
 have one:(t.subs.length == 1)=true->∃x,t.subs=[x]:=λe=>by
  have:t.subs.length=1:=by simpa using e
  match bH:t.subs,this with
  | [x],_=>exact⟨x,rfl⟩
 unfold T.right at h
 rw[zA7]at h
 have h:=h.2
 by_cases h1:t.k=1
 ·exact .inl h1
 by_cases h2:t.k=2
 ·exact .inr (.inl h2)
 by_cases h3:t.k=3
 ·exact .inr (.inr (.inl h3))
 by_cases h4:t.k=4
 ·exact .inr (.inr (.inr (.inl h4)))
 by_cases h5:t.k=5
 ·rw[if_neg h1,if_neg h2,if_neg h3,if_neg h4,if_pos h5]at h
  rw[zA7,zA7]at h
  obtain⟨a,b,_⟩:=h
  unfold Zb7 at b
  simp at b
  exact .inr (.inr (.inr (.inr (.inl ⟨h5,one a,by omega,by omega,by omega⟩))))
 ·rw[if_neg h1,if_neg h2,if_neg h3,if_neg h4,if_neg h5,zA7]at h
  exact .inr (.inr (.inr (.inr (.inr ⟨by simpa using h.1,one h.2⟩))))
mutual
def T.er:T->T
 | .node k s0 s1 s2 s3 mn mx _ _ l=>.node k s0 s1 s2 s3 mn mx none 0 (erL l)
def erL:List T->List T
 | []=>[]
 | t::l=>t.er::erL l
end
theorem Zdz:∀l:List T,erL l=l.map T.er
 | []=>rfl
 | t::l=>by simp only[erL,List.map_cons,Zdz l]
@[simp] theorem Zu2 (t:T):t.er.k=t.k:=by cases t;rfl
@[simp] theorem ZAr (t:T):t.er.s0=t.s0:=by cases t;rfl
@[simp] theorem ZAs (t:T):t.er.s1=t.s1:=by cases t;rfl
@[simp] theorem ZAt (t:T):t.er.s2=t.s2:=by cases t;rfl
@[simp] theorem ZAu (t:T):t.er.s3=t.s3:=by cases t;rfl
@[simp] theorem ZAv (t:T):t.er.mn=t.mn:=by cases t;rfl
@[simp] theorem ZAw (t:T):t.er.mx=t.mx:=by cases t;rfl
@[simp] theorem ZgB (t:T):t.er.subs=t.subs.map T.er:=by cases t;simp only[T.er,T.subs,Zdz]
mutual
theorem ZgC:∀t:T,t.er.nodes=t.nodes.map T.er
 | .node k s0 s1 s2 s3 mn mx a c l=>by
  simp only[T.er,T.nodes,List.map_cons]
  rw[Zpq l]
theorem Zpq:∀l:List T,Zaq (erL l)=(Zaq l).map T.er
 | []=>rfl
 | t::l=>by simp only[erL,Zaq,List.map_append,ZgC t,Zpq l]
end
theorem Zzf(t:T)(k:Int):t.er.has k=t.has k:=by
 unfold T.has;rw[ZgB,List.any_map];congr 1;funext x;simp
theorem Zv4(t:T):t.er.right=t.right:=by
 unfold T.right T.setZ
 simp only[Zzf,Zu2,ZAr,ZAs,ZAt,ZAu,ZAv,ZAw,ZgB,List.length_map]
theorem ZiP(t:T):t.er.light=t.light:=by unfold T.light;rw[ZgC,List.length_map]
theorem ZxM(l:List T):(l.map T.er).all T.right=l.all T.right:=by
 rw[List.all_map];congr 1;funext x;exact Zv4 x
theorem Zst(t:T):t.er.clean=t.clean:=by unfold T.clean;rw[ZiP,ZgC,ZxM]
theorem ZbY(t:T):t.er.good=t.good:=by unfold T.good;rw[ZgC,ZxM]
def T.caps(t:T):Prop:=∀x∈t.nodes,x.subs.length<=x.c
theorem ZgD{t x:T}(h:t.caps)(hx:x∈t.subs):x.caps:=λy hy=>h y (by
 rw[Zbf]
 refine List.mem_cons_of_mem _ ?_
 obtain⟨i,hi⟩:=List.getElem?_of_mem hx
 rw[Zdh hi]
 simp[hy])
theorem ZfO{k s0 s1 s2 s3 mn mx:Int}{a:Option Addr}{c:Nat}{l:List T}(h:l.length<=c)(hl:∀x∈l,x.caps):(T.node k s0 s1 s2 s3 mn mx a c l).caps:=by
 intro y hy
 rw[Zbf]at hy
 rcases List.mem_cons.1 hy with rfl|hy
 ·exact h
 ·obtain⟨x,hx,hy⟩:∃x∈l,y∈x.nodes:=by
   have:∀l:List T,y∈Zaq l->∃x∈l,y∈x.nodes:=λl=>by
    induction l with
    | nil=>intro h;simp[Zaq]at h
    | cons x l ih=>
     intro h
     simp only[Zaq,List.mem_append]at h
     rcases h with h|h
     ·exact⟨x,by simp,h⟩
     ·obtain⟨z,hz,h⟩:=ih h
      exact⟨z,by simp[hz],h⟩
   exact this l hy
  exact hl x hx y hy
theorem ZgE{t:T}(h:t.caps):t.subs.length<=t.c:=h t (by rw[Zbf];simp)
theorem Zsu{k s0 s1 s2 s3 mn mx:Int}{a a':Option Addr}{c c':Nat}{l l':List T}(h:l.map T.er=l'.map T.er):(T.node k s0 s1 s2 s3 mn mx a c l).er=(T.node k s0 s1 s2 s3 mn mx a' c' l').er:=by
 simp only[T.er,Zdz,h]
def Zxd(t t':T):Prop:=((t.clean=true/\t'.er=t.er)\/(t.clean=false/\t'=T0))/\t'.caps
theorem ZhM:T0.caps:=ZfO (by simp) (by simp)
theorem Zkn:T1.caps:=ZfO (by simp) (by simp)
def Zw1(k:Int)(a:Option Addr)(c:Nat)(u:T):List T->T->Prop
 | [],t'=>t'=u
 | [x],t'=>Zxd x t'
 | x::y::l,t'=>Zxd (Zba k 0 0 a c (x::y::l)) t'
def ZbH(k w:Int)(x:T):List T:=if x.k=k then x.subs else if x.k=w then[]else[x]
def ZaV(k w:Int)(L:List T):List T:=(L.map (ZbH k w)).flatten
theorem Zq2(k w:Int)(L:List T)(x:T):ZaV k w (L++[x])=ZaV k w L++ZbH k w x:=by simp[ZaV]
theorem ZhN(k w:Int):∀(L:List T),(∀x∈L,x.subs.length<=10000)->(ZaV k w L).length<=L.length*10001
 | [],_=>by simp[ZaV]
 | x::L,h=>by
  have ih:=ZhN k w L λy hy=>h y (by simp[hy])
  have hx:=h x (by simp)
  have h1:(ZbH k w x).length<=10001:=by
   unfold ZbH
   split
   ·omega
   ·split <;> simp
  have e:(ZaV k w (x::L)).length=(ZbH k w x).length+(ZaV k w L).length:=by simp[ZaV]
  rw[e,List.length_cons]
  omega
theorem Zvj{t:T}(h:t.clean=true):t.k≠0:=by
 have hg:t.good=true:=by
  unfold T.clean at h
  rw[zA7]at h
  exact h.2
 have:=(Zan hg).1
 rcases Zkm this with h|h|h|h|⟨h,_⟩|⟨h,_⟩ <;> omega
theorem ZgF{t:T}(h:t.check=0):t.clean=true:=by
 unfold T.check at h
 split at h
 ·cases h
 ·rename_i hc;simpa using hc
theorem ZgG{t:T}(h:t.clean=true):t.nodes.length<=10000:=by
 unfold T.clean T.light at h
 rw[zA7]at h
 exact zA6 h.1
def Zvk(n:T)(lo hi:Int)(t':T):Prop:=
 (t'=T0/\Zb7 lo hi=false)\/(t'=T1/\((lo=0/\hi=0)\/(n.k=1/\((lo=1/\hi=1)\/Zb7 lo hi=true))))\/(lo=1/\hi=1/\t'.er=n.er)\/∃a c,Zxd (Zba 5 lo hi a c [n]) t'
theorem ZcV{k:Int}{a:Option Addr}{c:Nat}{u:T}(hu:u.caps):∀{l:List T} {t':T},Zw1 k a c u l t'->t'.caps
 | [],t',h=>by
  have h:t'=u:=h
  rw[h];exact hu
 | [x],t',h=>h.2
 | x::y::l,t',h=>h.2
theorem Zq3{n t':T}{lo hi:Int}(h:Zvk n lo hi t')(hb:Zb7 lo hi=true)(hk:n.k≠1):∃a c,Zxd (Zba 5 lo hi a c [n]) t':=by
 have hb':=hb
 unfold Zb7 at hb'
 simp only[zA7,Bool.not_eq_true',Bool.or_eq_false_iff,Bool.or_eq_true,decide_eq_false_iff_not,decide_eq_true_eq,beq_iff_eq,Bool.and_eq_false_iff,beq_eq_false_iff_ne]at hb'
 rcases h with⟨_,h⟩|⟨_,h⟩|⟨h1,h2,_⟩|h
 ·rw[hb]at h;cases h
 ·rcases h with⟨h1,h2⟩|⟨h,_⟩
  ·omega
  ·exact absurd h hk
 ·omega
 ·exact h
mutual
def T.alts:T->List T
 | .node k s0 s1 s2 s3 mn mx a c l=>(if k=4 then[.node k s0 s1 s2 s3 mn mx a c l]else[])++Zax l
def Zax:List T->List T
 | []=>[]
 | t::l=>t.alts++Zax l
end
theorem Zel(t:T):t.alts=(if t.k=4 then[t]else[])++Zax t.subs:=by cases t;rw[T.alts];rfl
theorem Zdj(l r:List T):Zax (l++r)=Zax l++Zax r:=by
 induction l with
 | nil=>rfl
 | cons t l ih=>simp only[List.cons_append,Zax,ih,List.append_assoc]
theorem Zq4{l:List T}{i:Nat}{x:T}(h:l[i]?=some x):Zax (l.drop i)=x.alts++Zax (l.drop (i+1)):=by
 obtain⟨aS,e⟩:=zA0 h
 rw[List.drop_eq_getElem_cons aS,e];rfl
theorem ZdA:∀l:List T,(Zax l).length<=szL l
 | []=>by simp[Zax]
 | t::l=>by
  have ih:=ZdA l
  rw[Zax,zA1,ZaW]
  have:t.alts.length<=t.nodes.length:=by
   rw[Zel,zA1,Zb9]
   have:=ZdA t.subs
   split <;> simp <;> omega
  omega
termination_by l=>SizeOf.sizeOf l
decreasing_by
 all_goals simp_wf
 all_goals cases t;simp[T.subs];omega
def Zje(L:List T):T:=(ZcB 3 none 0 (ZaV 3 1 L)).er
def Zd9(L:List T):T:=(ZcB 4 none 0 (ZaV 4 0 L)).er
theorem ZdQ(t:T):t.er.er=t.er:=by
 cases t with
 | node k s0 s1 s2 s3 mn mx a c l=>
  simp only[T.er]
  rw[erL_er l]
where erL_er:∀l:List T,erL (erL l)=erL l
 | []=>rfl
 | t::l=>by simp only[erL,ZdQ t,erL_er l]
def Okk(k:Int)(x:T):Prop:=x.good=true/\x.k≠k/\(k=3->x.k≠1)
theorem Zsv{x:T}(h:x.good=true):∀y∈ZbH 3 1 x,Okk 3 y:=by
 have hg:=h
 rw[ZdP,zA7,List.all_eq_true]at hg
 intro y hy
 unfold ZbH at hy
 split at hy
 ·rename_i hk
  have hr:=hg.1
  unfold T.right at hr
  rw[zA7]at hr
  have hr:=hr.2
  simp only[hk]at hr
  simp at hr
  exact⟨hg.2 y hy,Zca hr.2.2 y hy,λ_=>Zca hr.2.1 y hy⟩
 ·split at hy
  ·simp at hy
  ·simp at hy;subst hy
   rename_i h1 h2
   exact⟨h,h1,λ_=>h2⟩
theorem Zny{x:T}(h:x.good=true):x.k≠0:=by
 have:=(Zan h).1
 rcases Zkm this with h|h|h|h|⟨h,_⟩|⟨h,_⟩ <;> omega
theorem Zsw{x:T}(h:x.good=true):∀y∈ZbH 4 0 x,Okk 4 y:=by
 have hg:=h
 rw[ZdP,zA7,List.all_eq_true]at hg
 intro y hy
 unfold ZbH at hy
 split at hy
 ·rename_i hk
  have hr:=hg.1
  unfold T.right at hr
  rw[zA7]at hr
  have hr:=hr.2
  simp only[hk]at hr
  simp at hr
  exact⟨hg.2 y hy,Zca hr.2 y hy,λh=>by omega⟩
 ·split at hy
  ·rename_i h0;exact absurd h0 (Zny h)
  ·simp at hy;subst hy
   rename_i h1 h2
   exact⟨h,h1,λh=>by omega⟩
theorem Zk6{k w:Int}{L:List T}(hf:∀x∈L,∀y∈ZbH k w x,Okk k y):∀y∈ZaV k w L,Okk k y:=by
 intro y hy
 simp only[ZaV,List.mem_flatten,List.mem_map]at hy
 obtain⟨_,⟨x,hx,rfl⟩,hy⟩:=hy
 exact hf x hx y hy
theorem Zcr(k w:Int)(x:T)(L:List T):ZaV k w (x::L)=ZbH k w x++ZaV k w L:=by simp[ZaV]
theorem Zv5{k w:Int}(hk:k=3/\w=1\/k=4/\w=0){x:T}(h:x.good=true):grL (ZbH k w x)=x.gr:=by
 unfold ZbH
 split
 ·rename_i h1
  rw[ZmO,if_neg (by unfold isG;simp;omega)];omega
 ·split
  ·rename_i h1 h2
   rcases hk with⟨rfl,rfl⟩|⟨rfl,rfl⟩
   ·have hr:=(Zan h).1
    have:x.subs=[]:=by
     unfold T.right at hr
     simp only[h2]at hr
     simp at hr
     simpa using hr.2.2
    rw[ZmO,this,if_neg (by unfold isG;simp;omega)];rfl
   ·exact absurd h2 (Zny h)
  ·rw[Zfq]
theorem Zv6{k w:Int}{x:T}:szL (ZbH k w x)<=x.nodes.length:=by
 unfold ZbH
 split
 ·rw[Zb9];omega
 ·split
  ·simp[szL,Zaq]
  ·rw[Zci];exact Nat.le_refl _
theorem Zoo{k w:Int}(hk:k=3/\w=1\/k=4/\w=0):∀{L:List T},(∀x∈L,x.good=true)->grL (ZaV k w L)=grL L
 | [],_=>rfl
 | x::L,h=>by
  rw[Zcr,Zb8,Zv5 hk (h x (by simp)),Zdy,Zoo hk λy hy=>h y (by simp[hy])]
theorem Zeu{k w:Int}:∀L:List T,szL (ZaV k w L)<=szL L
 | []=>Nat.le_refl _
 | x::L=>by
  have:=Zeu (k:=k) (w:=w) L
  have:=Zv6 (k:=k) (w:=w) (x:=x)
  rw[Zcr,ZbG,ZaW];omega
theorem Zpr{k:Int}(hk:k=3\/k=4)(a:Option Addr)(c:Nat):∀l:List T,(ZcB k a c l).gr=grL l
 | []=>rfl
 | [x]=>by rw[Zfq];rfl
 | x::y::l=>by
  show(Zba k 0 0 a c (x::y::l)).gr=_
  rw[ZmO,if_neg (by
   unfold isG
   show ¬(k == 6)=true
   rcases hk with rfl|rfl <;> simp)]
  show 0+grL (x::y::l)=_
  omega
theorem Zz1(t:T):t.er.gr=t.gr:=by
 unfold T.gr
 rw[ZgC,List.countP_map]
 congr 1
 funext x
 simp[isG]
theorem ZdF(t:T):t.er.nodes.length=t.nodes.length:=by rw[ZgC,List.length_map]
structure Made (L:List T)(r:T):Prop where
 good:r.good=true
 sz:r.nodes.length<=1+szL L
 gr:r.gr=grL L
 er:r.er=r
theorem ZfP{L:List T}(h:∀x∈L,x.good=true):Made L (Zje L):=by
 have bD:=Zk6 (L:=L) λx hx=>Zsv (h x hx)
 have hm:=ZfN (.inl rfl) none 0 bD
 refine⟨by unfold Zje;rw[ZbY];exact hm.1,?_,?_,ZdQ _⟩
 ·unfold Zje
  rw[ZdF]
  have:=Zeu (k:=3) (w:=1) L
  omega
 ·unfold Zje
  rw[Zz1,Zpr (.inl rfl),Zoo (.inl ⟨rfl,rfl⟩) h]
theorem Zea{L:List T}(h:∀x∈L,x.good=true):Made L (Zd9 L):=by
 have bD:=Zk6 (L:=L) λx hx=>Zsw (h x hx)
 have hm:=ZfN (.inr rfl) none 0 bD
 refine⟨by unfold Zd9;rw[ZbY];exact hm.1,?_,?_,ZdQ _⟩
 ·unfold Zd9
  rw[ZdF]
  have:=Zeu (k:=4) (w:=0) L
  omega
 ·unfold Zd9
  rw[Zz1,Zpr (.inr rfl),Zoo (.inr ⟨rfl,rfl⟩) h]
theorem ZaO{t:T}(h:t.good=true)(hs:t.nodes.length<=10000):t.clean=true:=by
 unfold T.clean T.light
 rw[zA7]
 exact⟨decide_eq_true hs,h⟩
theorem ZfQ{t:T}(h:t.clean=true):t.good=true/\t.nodes.length<=10000:=by
 unfold T.clean T.light at h
 rw[zA7]at h
 exact⟨h.2,zA6 h.1⟩
theorem Zdk{t t':T}(h:Zxd t t')(hc:t.clean=true):t'.er=t.er:=by
 rcases h.1 with⟨_,h⟩|⟨h,_⟩
 ·exact h
 ·rw[hc]at h;cases h
theorem Zsx{k:Int}(hk:k=3\/k=4){a:Option Addr}{c:Nat}{u:T}:∀{l:List T} {t':T},(∀x∈l,Okk k x)->szL l<=9000->(l=[]->u=T1)->Zw1 k a c u l t'->t'.er=(ZcB k none 0 l).er
 | [],t',_,_,hu,h=>by
  have h:t'=u:=h
  rw[h,hu rfl];rfl
 | [x],t',hl,hs,_,h=>by
  rw[Zci]at hs
  exact Zdk h (ZaO (hl x (by simp)).1 (show x.nodes.length<=10000 by omega))
 | x::y::l,t',hl,hs,_,h=>by
  have hm:=ZfN hk a c hl
  have h:Zxd (Zba k 0 0 a c (x::y::l)) t':=h
  have h2:=hm.2.1
  rw[Zdk h (ZaO hm.1 (show(ZcB k a c (x::y::l)).nodes.length<=10000 by omega))]
  rfl
theorem ZiQ{L:List T}{t':T}{a:Option Addr}{c:Nat}(h:∀x∈L,x.good=true)(hs:szL L<=9000)(hj:Zw1 3 a c T1 (ZaV 3 1 L) t'):t'.er=Zje L:=
 Zsx (.inl rfl) (Zk6 λx hx=>Zsv (h x hx)) (Nat.le_trans (Zeu L) hs) (λ_=>rfl) hj
theorem Zop{x:T}(h:x.good=true):ZbH 4 0 x≠[]:=by
 unfold ZbH
 split
 ·rename_i hk
  have hr:=(Zan h).1
  unfold T.right at hr
  simp only[hk]at hr
  simp at hr
  intro e
  rw[e]at hr
  simp at hr
 ·split
  ·rename_i h0;exact absurd h0 (Zny h)
  ·simp
theorem ZmP{L:List T}{t':T}{a:Option Addr}{c:Nat}(h:∀x∈L,x.good=true)(bN:L≠[])(hs:szL L<=9000)(hj:Zw1 4 a c T0 (ZaV 4 0 L) t'):t'.er=Zd9 L:=by
 refine Zsx (.inr rfl) (Zk6 λx hx=>Zsw (h x hx)) (Nat.le_trans (Zeu L) hs) (λe=>?_) hj
 exfalso
 cases L with
 | nil=>exact bN rfl
 | cons x L=>
  rw[Zcr]at e
  exact Zop (h x (by simp)) (List.append_eq_nil_iff.1 e).1
def T.isC(t:T):Bool:=t.k == 2
def Zao(t:T):List T:=if t.k=2 then[t]else if t.k=3 then t.subs.takeWhile T.isC else[]
def ZcC(a b:T):Bool:=a.s0 == b.s0&&(a.s1 == b.s1&&(a.s2 == b.s2&&a.s3 == b.s3))
def ZaH:List T->List T->Nat
 | a::l,b::r=>if ZcC a b then ZaH l r+1 else 0
 | _,_=>0
theorem Zcb:∀l r:List T,ZaH l r<=l.length/\ZaH l r<=r.length
 | [],r=>by simp[ZaH]
 | a::l,[]=>by simp[ZaH]
 | a::l,b::r=>by
  have:=Zcb l r
  unfold ZaH
  split <;> simp <;> omega
structure C4 where
 a:Nat
 f:Nat
 t:Nat
 n:Nat
deriving DecidableEq
def C4.v(c:C4):Value:=.agg #[.int .i64 (c.a:Nat),.int .i64 (c.f:Nat),.int .i64 (c.t:Nat),.int .i64 (c.n:Nat)]
def runE(n f:Nat):List T->Nat->List T->List C4
 | _,_,[]=>[]
 | s,t,x::r=>if ZaH s (Zao x)=0 then[]else⟨n,f,t,ZaH s (Zao x)⟩::runE n f (s.take (ZaH s (Zao x))) (t+1) r
def Zev(n:Nat):Nat->List T->List C4
 | _,[]=>[]
 | f,x::r=>runE n f (Zao x) (f+2) r++Zev n (f+1) r
def ZeU:Nat->List T->List C4
 | _,[]=>[]
 | n,a::l=>Zev n 0 a.subs++ZeU (n+1) l
def T.cuts(t:T):List C4:=ZeU 0 t.alts
def Zbp(n:Nat)(x:T):T:=if x.k=2 then T1 else Zje (x.subs.drop n)
def Zcp:Bool->List T->List T
 | _,[]=>[]
 | e,x::r=>if x.k≠1\/e=false then x::Zcp (e||x.k == 1) r else Zcp (e||x.k == 1) r
def Zvl(subs:List T)(c:C4):T:=Zje (((Zao (subs[c.f]?.getD T0)).take c.n)++[Zd9 (Zcp false (((subs.take c.t).drop c.f).map (Zbp c.n)))])
def Zg7(subs:List T)(c:C4):List T:=subs.take c.f++Zvl subs c::subs.drop c.t
structure Fit (subs:List T)(c:C4):Prop where
 two:c.f+2<=c.t
 le:c.t<=subs.length
 pos:1<=c.n
 head:∀i x,c.f<=i->i < c.t->subs[i]?=some x->c.n<=(Zao x).length
theorem ZdR{t:T}(h:t.good=true):∀x∈Zao t,x.good=true/\x.k=2:=by
 intro x hx
 unfold Zao at hx
 split at hx
 ·rename_i hk
  simp at hx;subst hx;exact⟨h,hk⟩
 ·split at hx
  ·have h1:=List.all_eq_true.1 (List.all_takeWhile (l:=t.subs) (p:=T.isC)) x hx
   have h2:=(List.takeWhile_sublist _).mem hx
   exact⟨(Zan h).2 x h2,by simpa[T.isC]using h1⟩
  ·simp at hx
theorem ZiR{x:T}(h:x.good=true)(hk:x.k=2):x.subs=[]/\x.nodes.length=1/\x.gr=0:=by
 have hr:=(Zan h).1
 have hs:x.subs=[]:=by
  unfold T.right at hr
  simp only[hk]at hr
  simp at hr
  simpa using hr.1.2
 refine⟨hs,?_,?_⟩
 ·rw[Zb9,hs];rfl
 ·rw[ZmO,hs,if_neg (by unfold isG;simp;omega)];rfl
theorem Zbq{l:List T}{x:T}(h:x∈l):x.nodes.length<=szL l:=by
 induction l with
 | nil=>simp at h
 | cons y l ih=>
  rw[ZaW]
  rcases List.mem_cons.1 h with rfl|h
  ·omega
  ·have:=ih h;omega
theorem Zcu(l:List T)(n:Nat):szL (l.take n)+szL (l.drop n)=szL l:=by rw[<-ZbG,List.take_append_drop]
theorem Zv7(l:List T)(n:Nat):grL (l.take n)+grL (l.drop n)=grL l:=by rw[<-Zb8,List.take_append_drop]
theorem ZhO{l:List T}(h:∀x∈l,x.good=true/\x.k=2):szL l=l.length/\grL l=0:=by
 induction l with
 | nil=>exact⟨rfl,rfl⟩
 | cons x l ih=>
  have h1:=ZiR (h x (by simp)).1 (h x (by simp)).2
  have h2:=ih λy hy=>h y (by simp[hy])
  rw[ZaW,Zdy,List.length_cons];omega
theorem Zt5{t:T}(hk:t.k=3){n:Nat}(hn:n<=(Zao t).length):t.subs.take n=(Zao t).take n:=by
 unfold Zao at *
 rw[if_neg (by omega),if_pos hk]at *
 have h:=List.takeWhile_prefix (p:=T.isC) (l:=t.subs)
 obtain⟨r,hr⟩:=h
 have e:t.subs.take n=(t.subs.takeWhile T.isC++r).take n:=by rw[hr]
 rw[e,List.take_append_of_le_length hn]
theorem Zps{t:T}(h:t.good=true){n:Nat}(hn:n<=(Zao t).length)(h1:1<=n):(Zbp n t).good=true/\(Zbp n t).nodes.length+n<=t.nodes.length+1/\(Zbp n t).gr=t.gr/\(Zbp n t).er=Zbp n t:=by
 unfold Zbp
 split
 ·rename_i hk
  have hc:=ZiR h hk
  have hl:(Zao t).length=1:=by unfold Zao;rw[if_pos hk];rfl
  refine⟨by decide,?_,by rw[hc.2.2];decide,rfl⟩
  rw[show T1.nodes.length=1 by decide];omega
 ·rename_i hk
  have eV:t.k=3:=by
   unfold Zao at hn
   rw[if_neg hk]at hn
   split at hn
   ·assumption
   ·simp at hn;omega
  have hd:∀x∈t.subs.drop n,x.good=true:=λx hx=>(Zan h).2 x (List.mem_of_mem_drop hx)
  have hm:=ZfP hd
  have ht:=Zcu t.subs n
  have hg:=Zv7 t.subs n
  rw[Zt5 eV hn]at ht hg
  have dA:=ZhO (l:=(Zao t).take n) λx hx=>ZdR h x (List.mem_of_mem_take hx)
  rw[List.length_take,Nat.min_eq_left hn]at dA
  refine⟨hm.good,?_,?_,hm.er⟩
  ·have:=hm.sz
   rw[Zb9 t];omega
  ·rw[hm.gr,ZmO t,if_neg (by unfold isG;simp;omega)];omega
theorem ZfR:∀{e:Bool} {l:List T} {x:T},x∈Zcp e l->x∈l
 | _,[],_,h=>by simp[Zcp]at h
 | e,y::l,x,h=>by
  unfold Zcp at h
  split at h
  ·rcases List.mem_cons.1 h with rfl|h
   ·simp
   ·simp[ZfR h]
  ·simp[ZfR h]
theorem Zq5{x:T}(h:x.good=true)(hk:x.k=1):x.gr=0/\x.nodes.length=1:=by
 have hr:=(Zan h).1
 have hs:x.subs=[]:=by
  unfold T.right at hr
  simp only[hk]at hr
  simp at hr
  simpa using hr.2.2
 exact⟨by rw[ZmO,hs,if_neg (by unfold isG;simp;omega)];rfl,by rw[Zb9,hs];rfl⟩
theorem Zk7:∀{e:Bool} {l:List T},(∀x∈l,x.good=true)->grL (Zcp e l)=grL l/\szL (Zcp e l)<=szL l
 | _,[],_=>⟨rfl,Nat.le_refl _⟩
 | e,x::l,h=>by
  have ih:=Zk7 (e:=e||x.k == 1) (l:=l) λy hy=>h y (by simp[hy])
  unfold Zcp
  split
  ·rw[Zdy,ZaW,Zdy,ZaW];omega
  ·rename_i hn
   have hk:x.k=1:=by
    apply Classical.byContradiction
    intro hk;exact hn (.inl hk)
   have:=Zq5 (h x (by simp)) hk
   rw[Zdy,ZaW];omega
theorem Zsy{e:Bool}{x:T}{l:List T}(h:e=false):Zcp e (x::l)≠[]:=by
 unfold Zcp
 rw[if_pos (.inr h)]
 simp
theorem Zoq:∀(t x:T),x∈t.alts->x∈t.nodes/\x.k=4
 | .node k s0 s1 s2 s3 mn mx a c l,x,h=>by
  have iP:=altsL_sub l
  simp only[T.alts,List.mem_append]at h
  simp only[T.nodes,List.mem_cons]
  rcases h with h|h
  ·split at h
   ·rename_i hk
    simp at h;subst h;exact⟨.inl rfl,hk⟩
   ·simp at h
  ·exact⟨.inr (iP x h).1,(iP x h).2⟩
where altsL_sub:∀(l:List T)(x:T),x∈Zax l->x∈Zaq l/\x.k=4
 | [],x,h=>by simp[Zax]at h
 | t::l,x,h=>by
  simp only[Zax,List.mem_append]at h
  simp only[Zaq,List.mem_append]
  rcases h with h|h
  ·exact⟨.inl (Zoq t x h).1,(Zoq t x h).2⟩
  ·exact⟨.inr (altsL_sub l x h).1,(altsL_sub l x h).2⟩
theorem Zt6{α:Type}{xs:List α}{y:Nat}{v:α}{r:List α}(h:xs.drop y=v::r):xs[y]?=some v/\xs.drop (y+1)=r:=by
 have h1:=congrArg (λl=>l[0]?) h
 have h2:=congrArg (List.drop 1) h
 simp at h1 h2
 exact⟨h1,by rw[Nat.add_comm]at h2;simpa[Nat.add_comm]using h2⟩
theorem Zsz(t:T):t.alts.length<=t.nodes.length:=by
 rw[Zel,zA1,Zb9]
 have:=ZdA t.subs
 split <;> simp <;> omega
mutual
theorem Zvm:∀(t:T),t.caps->∀x∈t.nodes,x.caps
 | .node k s0 s1 s2 s3 mn mx a c l,h,x,hx=>by
  have hl:=ZsA l (λy hy=>ZgD h hy)
  simp only[T.nodes,List.mem_cons]at hx
  rcases hx with rfl|hx
  ·exact h
  ·exact hl x hx
theorem ZsA:∀(l:List T),(∀y∈l,y.caps)->∀x∈Zaq l,x.caps
 | [],_,x,hx=>by simp[Zaq]at hx
 | t::l,h,x,hx=>by
  simp only[Zaq,List.mem_append]at hx
  rcases hx with hx|hx
  ·exact Zvm t (h t (by simp)) x hx
  ·exact ZsA l (λy hy=>h y (by simp[hy])) x hx
end
theorem Zq6{t x:T}(h:t.caps)(hx:x∈t.nodes):x.caps:=Zvm t h x hx
theorem ZsB{subs:List T}{f t:Nat}{x:T}(h:x∈(subs.take t).drop f):∃i,f<=i/\i < t/\subs[i]?=some x:=by
 obtain⟨j,hj⟩:=List.getElem?_of_mem h
 rw[List.getElem?_drop]at hj
 have h2:=(zA0 hj).1
 rw[List.length_take]at h2
 rw[List.getElem?_take_of_lt (by omega)]at hj
 exact⟨f+j,by omega,by omega,hj⟩
theorem Zt7(subs:List T){f t:Nat}(h:f<=t):subs.take f++((subs.take t).drop f++subs.drop t)=subs:=by
 rw[<-List.append_assoc]
 have:subs.take f++(subs.take t).drop f=subs.take t:=by
  have h1:=List.take_append_drop f (subs.take t)
  rw[List.take_take,Nat.min_eq_left h]at h1
  exact h1
 rw[this,List.take_append_drop]
theorem ZfS{n:Nat}(h1:1<=n):∀{l:List T},(∀x∈l,x.good=true/\n<=(Zao x).length)->(∀y∈l.map (Zbp n),y.good=true/\y.er=y)/\szL (l.map (Zbp n))<=szL l/\grL (l.map (Zbp n))=grL l
 | [],_=>⟨by simp,Nat.le_refl _,rfl⟩
 | x::l,h=>by
  have ih:=ZfS h1 (l:=l) λy hy=>h y (by simp[hy])
  have hx:=Zps (h x (by simp)).1 (h x (by simp)).2 h1
  refine⟨λy hy=>?_,?_,?_⟩
  ·rcases List.mem_cons.1 hy with rfl|hy
   ·exact⟨hx.1,hx.2.2.2⟩
   ·exact ih.1 y hy
  ·rw[List.map_cons,ZaW,ZaW];omega
  ·rw[List.map_cons,Zdy,Zdy];omega
theorem Zq7{l:List T}(h:∀x∈l,x.k=2):ZaV 3 1 l=l:=by
 induction l with
 | nil=>rfl
 | cons x l ih=>
  rw[Zcr,ih λy hy=>h y (by simp[hy])]
  have:ZbH 3 1 x=[x]:=by unfold ZbH;rw[if_neg (by rw[h x (by simp)];omega),if_neg (by rw[h x (by simp)];omega)]
  rw[this];rfl
theorem ZhP(k w:Int)(l r:List T):ZaV k w (l++r)=ZaV k w l++ZaV k w r:=by simp[ZaV]
theorem Zor{k:Int}{a:Option Addr}{c:Nat}:∀{l:List T},2<=l.length->(ZcB k a c l).k=k
 | [],h=>by simp at h
 | [x],h=>by simp at h
 | x::y::l,_=>rfl
structure OneOk (seg:List T)(n:Nat)(r:T):Prop where
 good:r.good=true
 sz:r.nodes.length<=2+n+szL seg
 gr:r.gr=grL seg
 er:r.er=r
 k:r.k=2\/r.k=3
theorem ZsC{subs:List T}{c:C4}(hg:∀x∈subs,x.good=true)(hf:Fit subs c):OneOk ((subs.take c.t).drop c.f) c.n (Zvl subs c):=by
 obtain⟨x0,gR⟩:∃x,subs[c.f]?=some x:=⟨_,zA3 (by have:=hf.two;have:=hf.le;omega)⟩
 have nE:=hg x0 (zA2 gR)
 have nA:=hf.head c.f x0 (Nat.le_refl _) (by have:=hf.two;omega) gR
 have hG:∀x∈(subs.take c.t).drop c.f,x.good=true/\c.n<=(Zao x).length:=λx hx=>by
  obtain⟨i,h1,h2,h3⟩:=ZsB hx
  exact⟨hg x (zA2 h3),hf.head i x h1 h2 h3⟩
 have hl:=ZfS hf.pos hG
 have hr:=Zk7 (e:=false) λx hx=>(hl.1 x hx).1
 have fF:∀y∈Zcp false (((subs.take c.t).drop c.f).map (Zbp c.n)),y.good=true:=λy hy=>(hl.1 y (ZfR hy)).1
 have ha:=Zea fF
 have dA:∀x∈(Zao x0).take c.n,x.good=true/\x.k=2:=λx hx=>ZdR nE x (List.mem_of_mem_take hx)
 have s4:=ZhO dA
 rw[List.length_take,Nat.min_eq_left nA]at s4
 unfold Zvl
 rw[gR]
 simp only[Option.getD_some]
 have aV:∀x∈(Zao x0).take c.n++[Zd9 (Zcp false (((subs.take c.t).drop c.f).map (Zbp c.n)))],x.good=true:=λx hx=>by
  rcases List.mem_append.1 hx with hx|hx
  ·exact(dA x hx).1
  ·rw[List.mem_singleton]at hx;subst hx;exact ha.good
 have hm:=ZfP aV
 refine⟨hm.good,?_,?_,hm.er,?_⟩
 ·have h1:=hm.sz
  have h2:=ha.sz
  rw[ZbG,Zci]at h1
  omega
 ·rw[hm.gr,Zb8,Zfq,ha.gr];omega
 ·unfold Zje
  rw[Zu2,ZhP,Zq7 λx hx=>(dA x hx).2]
  have aU:((Zao x0).take c.n).length=c.n:=by rw[List.length_take,Nat.min_eq_left nA]
  by_cases h2:2<=((Zao x0).take c.n++ZaV 3 1 [Zd9 (Zcp false (((subs.take c.t).drop c.f).map (Zbp c.n)))]).length
  ·exact .inr (Zor h2)
  ·have hp:=hf.pos
   rw[zA1,aU]at h2
   have h3:ZaV 3 1 [Zd9 (Zcp false (((subs.take c.t).drop c.f).map (Zbp c.n)))]=[]:=List.eq_nil_of_length_eq_zero (by omega)
   rw[h3,List.append_nil]
   match hq:(Zao x0).take c.n with
   | []=>rw[hq]at aU;simp at aU;omega
   | [y]=>exact .inl (dA y (by rw[hq];simp)).2
   | y::z::r=>rw[hq]at aU;simp at aU;omega
structure CutOk (subs:List T)(L:List T):Prop where
 good:∀x∈L,x.good=true
 sz:szL L<=3+2*szL subs
 gr:grL L=grL subs
 ne:L≠[]
 k:∀x∈L,x.k≠1\/x∈subs
theorem ZfT(t:T):(Zao t).length<=t.nodes.length:=by
 unfold Zao
 split
 ·rw[Zb9];simp
 ·split
  ·have:=(List.takeWhile_sublist T.isC (l:=t.subs)).length_le
   have:=Zbo t.subs
   rw[Zb9];omega
  ·simp
theorem ZmQ{subs:List T}{c:C4}(hg:∀x∈subs,x.good=true)(hf:Fit subs c):CutOk subs (Zg7 subs c):=by
 have ho:=ZsC hg hf
 have qV:c.f<=c.t:=by have:=hf.two;omega
 have hs:=Zt7 subs qV
 have bE:szL (subs.take c.f)+(szL ((subs.take c.t).drop c.f)+szL (subs.drop c.t))=szL subs:=by rw[<-ZbG,<-ZbG,hs]
 have mA:grL (subs.take c.f)+(grL ((subs.take c.t).drop c.f)+grL (subs.drop c.t))=grL subs:=by rw[<-Zb8,<-Zb8,hs]
 have hn:c.n<=szL subs:=by
  obtain⟨x0,gR⟩:∃x,subs[c.f]?=some x:=⟨_,zA3 (by have:=hf.two;have:=hf.le;omega)⟩
  have h1:=hf.head c.f x0 (Nat.le_refl _) (by have:=hf.two;omega) gR
  have h2:=Zbq (zA2 gR)
  have:=ZfT x0
  omega
 unfold Zg7
 refine⟨λx hx=>?_,?_,?_,by simp,λx hx=>?_⟩
 ·rcases List.mem_append.1 hx with hx|hx
  ·exact hg x (List.mem_of_mem_take hx)
  ·rcases List.mem_cons.1 hx with rfl|hx
   ·exact ho.good
   ·exact hg x (List.mem_of_mem_drop hx)
 ·have:=ho.sz
  rw[ZbG,ZaW]
  omega
 ·have:=ho.gr
  rw[Zb8,Zdy];omega
 ·rcases List.mem_append.1 hx with hx|hx
  ·exact .inr (List.mem_of_mem_take hx)
  ·rcases List.mem_cons.1 hx with rfl|hx
   ·left;rcases ho.k with h|h <;> omega
   ·exact .inr (List.mem_of_mem_drop hx)
mutual
def T.cutAt(c:C4):T->Nat->T×Nat
 | .node k s0 s1 s2 s3 mn mx a cc l,n=>
  if k=4/\n=c.a then(Zd9 (Zg7 l c),n+1+(Zax (Zg7 l c)).length)
  else(if k=3 then Zje (ZaC c l (if k=4 then n+1 else n)).1 else if k=4 then Zd9 (ZaC c l (if k=4 then n+1 else n)).1 else .node k s0 s1 s2 s3 mn mx none 0 (ZaC c l (if k=4 then n+1 else n)).1,(ZaC c l (if k=4 then n+1 else n)).2)
def ZaC(c:C4):List T->Nat->List T×Nat
 | [],n=>([],n)
 | t::l,n=>((t.cutAt c n).1::(ZaC c l (t.cutAt c n).2).1,(ZaC c l (t.cutAt c n).2).2)
end
def T.built(t:T)(L:List T):T:=if t.k=3 then Zje L else if t.k=4 then Zd9 L else .node t.k t.s0 t.s1 t.s2 t.s3 t.mn t.mx none 0 L
theorem ZcP{c:C4}{t:T}{n:Nat}(hk:t.k=4)(hn:n=c.a):t.cutAt c n=(Zd9 (Zg7 t.subs c),n+1+(Zax (Zg7 t.subs c)).length):=by
 cases t
 simp only[T.k]at hk
 rw[T.cutAt,if_pos ⟨hk,hn⟩];rfl
theorem ZbK{c:C4}{t:T}{n:Nat}(h:¬(t.k=4/\n=c.a)):t.cutAt c n=(t.built (ZaC c t.subs (if t.k=4 then n+1 else n)).1,(ZaC c t.subs (if t.k=4 then n+1 else n)).2):=by
 cases t
 rw[T.cutAt];exact if_neg h
theorem ZxN{l:List T}(h:∀x∈l,x.er=x):l.map T.er=l:=by
 induction l with
 | nil=>rfl
 | cons x l ih=>rw[List.map_cons,h x (by simp),ih λy hy=>h y (by simp[hy])]
theorem Zk8{k w:Int}{l:List T}(h:∀x∈l,x.k≠k/\x.k≠w):ZaV k w l=l:=by
 induction l with
 | nil=>rfl
 | cons x l ih=>
  rw[Zcr,ih λy hy=>h y (by simp[hy])]
  have:ZbH k w x=[x]:=by unfold ZbH;rw[if_neg (h x (by simp)).1,if_neg (h x (by simp)).2]
  rw[this];rfl
theorem ZeG{t:T}(h:t.good=true):t.built (t.subs.map T.er)=t.er:=by
 have hr:=(Zan h).1
 have hs:=(Zan h).2
 unfold T.built
 have bH:∀x∈t.subs.map T.er,∃y∈t.subs,x.k=y.k:=λx hx=>by
  obtain⟨y,hy,rfl⟩:=List.mem_map.1 hx
  exact⟨y,hy,Zu2 y⟩
 split
 ·rename_i hk
  unfold T.right at hr
  rw[zA7]at hr
  have hz:=hr.1
  have hr:=hr.2
  simp only[hk]at hr hz
  simp at hr hz
  unfold Zje
  rw[Zk8 λx hx=>by
   obtain⟨y,hy,e⟩:=bH x hx
   rw[e]
   exact⟨Zca hr.2.2 y hy,Zca hr.2.1 y hy⟩]
  unfold T.setZ at hz
  cases t with
  | node k s0 s1 s2 s3 mn mx a c l=>
   simp only[T.k,T.subs,T.s0,T.s1,T.s2,T.s3,T.mn,T.mx]at *
   simp at hz
   obtain⟨⟨⟨⟨rfl,rfl⟩,rfl⟩,rfl⟩,rfl,rfl⟩:=hz
   subst hk
   match l,hr with
   | x::y::l,_=>simp only[List.map_cons,ZcB,Zba,T.er,erL,ZdQ,Zdz,List.map_map];congr 3;exact List.map_congr_left λz _=>ZdQ z
 ·split
  ·rename_i hk
   unfold T.right at hr
   rw[zA7]at hr
   have hz:=hr.1
   have hr:=hr.2
   simp only[hk]at hr hz
   simp at hr hz
   unfold Zd9
   rw[Zk8 λx hx=>by
    obtain⟨y,hy,e⟩:=bH x hx
    rw[e]
    exact⟨Zca hr.2 y hy,Zny (hs y hy)⟩]
   unfold T.setZ at hz
   cases t with
   | node k s0 s1 s2 s3 mn mx a c l=>
    simp only[T.k,T.subs,T.s0,T.s1,T.s2,T.s3,T.mn,T.mx]at *
    simp at hz
    obtain⟨⟨⟨⟨rfl,rfl⟩,rfl⟩,rfl⟩,rfl,rfl⟩:=hz
    subst hk
    match l,hr with
    | x::y::l,_=>simp only[List.map_cons,ZcB,Zba,T.er,erL,ZdQ,Zdz,List.map_map];congr 3;exact List.map_congr_left λz _=>ZdQ z
  ·cases t;simp only[T.er,Zdz,T.k,T.s0,T.s1,T.s2,T.s3,T.mn,T.mx,T.subs]
mutual
theorem ZeH{c:C4}:∀(t:T)(n:Nat),t.good=true->c.a < n->t.cutAt c n=(t.er,n+t.alts.length)
 | .node k s0 s1 s2 s3 mn mx a cc l,n,hg,hn=>by
  have hs:=(Zan hg).2
  rw[ZbK (c:=c) (by omega)]
  have h1:=ZeV (c:=c) l (if k=4 then n+1 else n) hs (by split <;> omega)
  show((T.node k s0 s1 s2 s3 mn mx a cc l).built (ZaC c l (if k=4 then n+1 else n)).1,(ZaC c l (if k=4 then n+1 else n)).2)=_
  rw[h1]
  have h2:=ZeG hg
  have e:(T.node k s0 s1 s2 s3 mn mx a cc l).subs=l:=rfl
  rw[e]at h2
  rw[h2,Zel,e,zA1]
  show(_,(if k=4 then n+1 else n)+(Zax l).length)=(_,n+((if k=4 then _ else _:List T).length+_))
  congr 1
  split <;> simp <;> omega
theorem ZeV{c:C4}:∀(l:List T)(n:Nat),(∀x∈l,x.good=true)->c.a < n->ZaC c l n=(l.map T.er,n+(Zax l).length)
 | [],n,_,_=>rfl
 | t::l,n,hg,hn=>by
  rw[ZaC,ZeH t n (hg t (by simp)) hn]
  simp only[]
  rw[ZeV l (n+t.alts.length) (λx hx=>hg x (by simp[hx])) (by omega)]
  simp only[List.map_cons,Zax,zA1]
  rw[Nat.add_assoc]
end
theorem Zv8(k w:Int)(x:T):(ZbH k w x).map T.er=ZbH k w x.er:=by
 unfold ZbH
 rw[Zu2]
 split
 ·rw[ZgB]
 ·split <;> rfl
theorem Zos(k w:Int):∀L:List T,(ZaV k w L).map T.er=ZaV k w (L.map T.er)
 | []=>rfl
 | x::L=>by rw[Zcr,List.map_append,Zv8,Zos k w L,List.map_cons,Zcr]
theorem Zpt(k:Int):∀l:List T,(ZcB k none 0 l).er=(ZcB k none 0 (l.map T.er)).er
 | []=>rfl
 | [x]=>by show x.er=x.er.er;rw[ZdQ]
 | x::y::l=>by
  show(Zba k 0 0 none 0 (x::y::l)).er=(Zba k 0 0 none 0 ((x::y::l).map T.er)).er
  refine Zsu ?_
  rw[List.map_map]
  exact List.map_congr_left λz _=>(ZdQ z).symm
theorem Zpu(L:List T):Zje L=Zje (L.map T.er):=by unfold Zje;rw[Zpt,Zos]
theorem Zko(L:List T):Zd9 L=Zd9 (L.map T.er):=by unfold Zd9;rw[Zpt,Zos]
theorem ZiS{L L':List T}(h:L.map T.er=L'.map T.er):Zje L=Zje L':=by rw[Zpu L,h,<-Zpu]
theorem ZiT{L L':List T}(h:L.map T.er=L'.map T.er):Zd9 L=Zd9 L':=by rw[Zko L,h,<-Zko]
theorem ZiU(x:T):∀(e:Bool)(l:List T),Zcp e (l++[x])=Zcp e l++(if x.k≠1\/(e||l.any λy=>y.k == 1)=false then[x]else[])
 | e,[]=>by
  simp only[List.nil_append,Zcp,List.any_nil,Bool.or_false]
 | e,y::l=>by
  rw[List.cons_append,Zcp,Zcp,ZiU x _ l,List.any_cons,<-Bool.or_assoc]
  split <;> simp
theorem ZcQ{x y:T}(h:x.er=y)(hg:y.good=true):x.good=true:=by rw[<-ZbY,h];exact hg
theorem Zcv{x y:T}(h:x.er=y):x.nodes.length=y.nodes.length:=by rw[<-ZdF,h]
theorem Zeb:∀{l l':List T},l.map T.er=l'.map T.er->szL l=szL l'
 | [],[],_=>rfl
 | [],_::_,h=>by simp at h
 | _::_,[],h=>by simp at h
 | x::l,y::l',h=>by
  simp only[List.map_cons,List.cons.injEq]at h
  rw[ZaW,ZaW,Zeb h.2,<-ZdF x,h.1,ZdF]
mutual
theorem Zk9{c:C4}:∀(t:T)(n:Nat),(t.cutAt c n).2=n+t.alts.length\/c.a < (t.cutAt c n).2
 | .node k s0 s1 s2 s3 mn mx a cc l,n=>by
  have hl:=ZmR (c:=c) l (if k=4 then n+1 else n)
  by_cases h:(T.node k s0 s1 s2 s3 mn mx a cc l).k=4/\n=c.a
  ·rw[ZcP h.1 h.2]
   right
   show c.a < n+1+_
   omega
  ·rw[ZbK h]
   show(ZaC c l (if k=4 then n+1 else n)).2=_\/c.a < (ZaC c l (if k=4 then n+1 else n)).2
   rcases hl with hl|hl
   ·left
    rw[hl,Zel,zA1]
    show(if k=4 then n+1 else n)+(Zax l).length=n+((if k=4 then _ else _:List T).length+(Zax l).length)
    split <;> simp <;> omega
   ·exact .inr hl
theorem ZmR{c:C4}:∀(l:List T)(n:Nat),(ZaC c l n).2=n+(Zax l).length\/c.a < (ZaC c l n).2
 | [],n=>.inl rfl
 | t::l,n=>by
  have h1:=Zk9 (c:=c) t n
  have h2:=ZmR (c:=c) l (t.cutAt c n).2
  rw[ZaC]
  simp only[Zax,zA1]
  rcases h2 with h2|h2
  ·rcases h1 with h1|h1
   ·left;rw[h2,h1];omega
   ·right;rw[h2];omega
  ·exact .inr h2
end
def Zem(c:C4)(l:List T)(n:Nat):Prop:=∀i al,l[i]?=some al->n+i=c.a->Fit al.subs c
theorem ZfU{c:C4}{t:T}{n:Nat}(h:Zem c t.alts n):Zem c (Zax t.subs) (if t.k=4 then n+1 else n):=by
 intro i al hi hn
 rw[Zel]at h
 split at hn
 ·rename_i hk
  rw[if_pos hk]at h
  exact h (i+1) al (by simpa using hi) (by omega)
 ·rename_i hk
  rw[if_neg hk]at h
  exact h i al (by simpa using hi) hn
theorem ZfV{c:C4}{t:T}{l:List T}{n:Nat}(h:Zem c (Zax (t::l)) n):Zem c t.alts n:=λi al hi hn=>h i al (by
 rw[Zax,zA5 (zA0 hi).1];exact hi) hn
theorem ZfW{c:C4}{t:T}{l:List T}{n:Nat}(h:Zem c (Zax (t::l)) n):Zem c (Zax l) (t.cutAt c n).2:=λi al hi hn=>by
 rcases Zk9 (c:=c) t n with h1|h1
 ·exact h (t.alts.length+i) al (by rw[Zax,zA4 (by omega)];simpa using hi) (by omega)
 ·omega
theorem ZdS{c:C4}{t:T}{n:Nat}(h:Zem c t.alts n)(hk:t.k=4)(hn:n=c.a):Fit t.subs c:=h 0 t (by rw[Zel,if_pos hk];rfl) (by omega)
structure AtOk (t r:T):Prop where
 good:r.good=true
 sz:r.nodes.length<=3*t.nodes.length
 gr:r.gr=t.gr
 er:r.er=r
 k:t.k≠1->r.k≠1
theorem Zla{k w:Int}(hw:∀x:T,x.good=true->x.k≠w->ZbH k w x≠[]):∀{L:List T},(∀x∈L,x.good=true/\x.k≠w)->L.length<=(ZaV k w L).length
 | [],_=>Nat.zero_le _
 | x::L,h=>by
  have ih:=Zla hw (L:=L) λy hy=>h y (by simp[hy])
  have h1:=hw x (h x (by simp)).1 (h x (by simp)).2
  have h2:1<=(ZbH k w x).length:=by
   cases hq:ZbH k w x with
   | nil=>exact absurd hq h1
   | cons y r=>simp
  rw[Zcr,zA1,List.length_cons];omega
theorem Zv9{x:T}(h:x.good=true)(hk:x.k≠1):ZbH 3 1 x≠[]:=by
 unfold ZbH
 split
 ·rename_i eV
  have hr:=(Zan h).1
  unfold T.right at hr
  simp only[eV]at hr
  simp at hr
  intro e
  rw[e]at hr
  simp at hr
 ·simp[hk]
theorem Zzg{L:List T}(h:∀x∈L,x.good=true/\x.k≠1)(h2:2<=L.length):(Zje L).k=3:=by
 unfold Zje
 rw[Zu2]
 exact Zor (Nat.le_trans h2 (Zla (λx hx hk=>Zv9 hx hk) h))
theorem ZxO{L:List T}(h:∀x∈L,x.good=true)(h2:2<=L.length):(Zd9 L).k=4:=by
 unfold Zd9
 rw[Zu2]
 exact Zor (Nat.le_trans h2 (Zla (λx hx _=>Zop hx) λx hx=>⟨h x hx,Zny (h x hx)⟩))
theorem Zzh{subs:List T}{c:C4}(hg:∀x∈subs,x.good=true)(hf:Fit subs c):(Zd9 (Zg7 subs c)).k≠1:=by
 have ho:=ZmQ hg hf
 by_cases h2:2<=(Zg7 subs c).length
 ·rw[ZxO ho.good h2];omega
 ·have h1:=ZsC hg hf
  unfold Zg7 at h2 ⊢
  rw[zA1,List.length_cons]at h2
  have e1:subs.take c.f=[]:=List.eq_nil_of_length_eq_zero (by omega)
  have e2:subs.drop c.t=[]:=List.eq_nil_of_length_eq_zero (by omega)
  rw[e1,e2,List.nil_append]
  unfold Zd9
  rw[Zu2]
  have:ZaV 4 0 [Zvl subs c]=[Zvl subs c]:=Zk8 λx hx=>by
   rw[List.mem_singleton]at hx;subst hx
   rcases h1.k with h|h <;> omega
  rw[this]
  show(Zvl subs c).k≠1
  rcases h1.k with h|h <;> omega
theorem ZcR{t:T}(h:t.good=true):(t.k=3->2<=t.subs.length/\∀x∈t.subs,x.k≠1)/\(t.k=4->2<=t.subs.length)/\(t.k=5->(∃x,t.subs=[x]/\x.k≠1)/\Zb7 t.mn t.mx=true)/\(t.k=6->∃x,t.subs=[x])/\(t.k=1\/t.k=2->t.subs=[])/\(t.k≠2->t.s0=0/\t.s1=0/\t.s2=0/\t.s3=0)/\(t.k≠5->t.mn=0/\t.mx=0):=by
 have hr:=(Zan h).1
 have hk:=Zkm hr
 unfold T.right at hr
 rw[zA7]at hr
 obtain⟨dH,dQ⟩:=hr
 have one:∀{l:List T},l.length=1->∃x,l=[x]:=λ{l} e=>by
  match l,e with
  | [x],_=>exact⟨x,rfl⟩
 refine⟨λe=>?_,λe=>?_,λe=>?_,λe=>?_,λe=>?_,λe=>?_,λe=>?_⟩
 ·simp only[e]at dQ;simp at dQ
  exact⟨dQ.1,Zca dQ.2.1⟩
 ·simp only[e]at dQ;simp at dQ
  exact dQ.1
 ·simp only[e]at dQ;simp at dQ
  obtain⟨x,hx⟩:=one dQ.1
  exact⟨⟨x,hx,Zca dQ.2.2 x (by rw[hx];simp)⟩,dQ.2.1⟩
 ·simp only[e]at dQ;simp at dQ
  exact one dQ
 ·have:t.k < 3:=by rcases e with e|e <;> omega
  simp[this]at dH
  cases hq:t.subs with
  | nil=>rfl
  | cons x l=>rw[hq]at dH;simp at dH
 ·unfold T.setZ at dH
  have e':(t.k == 2)=false:=by simpa using e
  simp[e']at dH
  have:=dH.1
  simp[e]at this
  omega
 ·simp at dH
  rcases dH.2.1 with h|h
  ·exact absurd h e
  ·exact h
theorem Zwa{t:T}{L:List T}(ht:t.good=true)(hl:L.length=t.subs.length)(hg:∀x∈L,x.good=true/\x.er=x)(bE:szL L<=3*szL t.subs)(mA:grL L=grL t.subs)(hk:(∀x∈t.subs,x.k≠1)->∀x∈L,x.k≠1):AtOk t (t.built L):=by
 have hs:=ZcR ht
 have dR:=Zkm (Zan ht).1
 have zF:=Zb9 t
 have gV:=ZmO t
 unfold T.built
 split
 ·rename_i h3
  have hm:=ZfP λx hx=>(hg x hx).1
  have h1:=hs.1 h3
  refine⟨hm.good,by have:=hm.sz;omega,?_,hm.er,λ_=>?_⟩
  ·rw[hm.gr,mA,gV,if_neg (by unfold isG;simp;omega)];omega
  ·rw[Zzg (λx hx=>⟨(hg x hx).1,hk h1.2 x hx⟩) (by omega)];omega
 ·split
  ·rename_i h4
   have hm:=Zea λx hx=>(hg x hx).1
   have h1:=hs.2.1 h4
   refine⟨hm.good,by have:=hm.sz;omega,?_,hm.er,λ_=>?_⟩
   ·rw[hm.gr,mA,gV,if_neg (by unfold isG;simp;omega)];omega
   ·rw[ZxO (λx hx=>(hg x hx).1) (by omega)];omega
  ·rename_i h3 h4
   have uj:∀r:T,r=.node t.k t.s0 t.s1 t.s2 t.s3 t.mn t.mx none 0 L->r.right=true->AtOk t r:=λr hr wi=>by
    subst hr
    refine⟨?_,?_,?_,?_,λh=>h⟩
    ·rw[ZdP,wi]
     show(true&&L.all T.good)=true
     rw[Bool.true_and,List.all_eq_true]
     exact λx hx=>(hg x hx).1
    ·rw[Zb9]
     show 1+szL L<=_
     omega
    ·rw[ZmO,gV]
     show(if isG (.node t.k t.s0 t.s1 t.s2 t.s3 t.mn t.mx none 0 L)=true then 1 else 0)+grL L=_
     rw[mA];rfl
    ·show T.node t.k t.s0 t.s1 t.s2 t.s3 t.mn t.mx none 0 (erL L)=_
     rw[Zdz,ZxN λx hx=>(hg x hx).2]
   refine uj _ rfl ?_
   have hr:=(Zan ht).1
   have xj:∀k:Int,(k=1->t.has 1=false->(T.node t.k t.s0 t.s1 t.s2 t.s3 t.mn t.mx none 0 L).has 1=false):=λk _ h1=>Zq1 λx hx=>hk (Zca h1) x hx
   have e5:t.k=5->(T.node t.k t.s0 t.s1 t.s2 t.s3 t.mn t.mx none 0 L).has 1=false:=λh5=>xj 1 rfl (by
    obtain⟨⟨x,hx,gC⟩,_⟩:=hs.2.2.1 h5
    exact Zq1 λy hy=>by rw[hx]at hy;simp at hy;subst hy;exact gC)
   unfold T.right at hr ⊢
   show(!(t.k != 2&&!t.setZ||(t.k != 5&&(t.mn != 0||t.mx != 0)||(decide (t.k < 3)&&decide (0 < L.length))))&&(if t.k=1 then true else if t.k=2 then !t.setZ else if t.k=3 then decide (1 < L.length)&&(!(T.node t.k t.s0 t.s1 t.s2 t.s3 t.mn t.mx none 0 L).has 1&&!(T.node t.k t.s0 t.s1 t.s2 t.s3 t.mn t.mx none 0 L).has 3)else if t.k=4 then decide (1 < L.length)&&!(T.node t.k t.s0 t.s1 t.s2 t.s3 t.mn t.mx none 0 L).has 4 else if t.k=5 then L.length == 1&&(Zb7 t.mn t.mx&&!(T.node t.k t.s0 t.s1 t.s2 t.s3 t.mn t.mx none 0 L).has 1)else t.k == 6&&L.length == 1))=true
   rw[hl]
   rw[if_neg h3,if_neg h4]at hr ⊢
   by_cases h5:t.k=5
   ·rw[e5 h5]
    rw[if_neg (by omega),if_neg (by omega),if_pos h5]at hr ⊢
    simp at hr ⊢
    exact⟨hr.1,hr.2.1,hr.2.2.1⟩
   ·rw[if_neg h5]at hr ⊢
    exact hr
mutual
theorem ZgH{c:C4}:∀(t:T)(n:Nat),t.good=true->Zem c t.alts n->AtOk t (t.cutAt c n).1
 | .node k s0 s1 s2 s3 mn mx a cc l,n,hg,hf=>by
  have hs:=(Zan hg).2
  have hl:=ZhQ (c:=c) l (if k=4 then n+1 else n) hs (ZfU hf)
  by_cases h:(T.node k s0 s1 s2 s3 mn mx a cc l).k=4/\n=c.a
  ·have bZ:=ZdS hf h.1 h.2
   have ho:=ZmQ hs bZ
   have hm:=Zea ho.good
   have h2:=(ZcR hg).2.1 h.1
   rw[ZcP h.1 h.2]
   refine⟨hm.good,?_,?_,hm.er,λ_=>Zzh hs bZ⟩
   ·have h3:=hm.sz
    have h4:=ho.sz
    have h5:=Zbo (T.node k s0 s1 s2 s3 mn mx a cc l).subs
    rw[Zb9 (T.node k s0 s1 s2 s3 mn mx a cc l)]
    show(Zd9 (Zg7 _ c)).nodes.length<=_
    omega
   ·show(Zd9 (Zg7 _ c)).gr=_
    rw[hm.gr,ho.gr,ZmO (T.node k s0 s1 s2 s3 mn mx a cc l),if_neg (by
     unfold isG
     have:=h.1
     simp;omega)];omega
  ·rw[ZbK h]
   exact Zwa hg hl.1 hl.2.1 hl.2.2.1 hl.2.2.2.1 hl.2.2.2.2
theorem ZhQ{c:C4}:∀(l:List T)(n:Nat),(∀x∈l,x.good=true)->Zem c (Zax l) n->(ZaC c l n).1.length=l.length/\(∀x∈(ZaC c l n).1,x.good=true/\x.er=x)/\szL (ZaC c l n).1<=3*szL l/\grL (ZaC c l n).1=grL l/\((∀x∈l,x.k≠1)->∀x∈(ZaC c l n).1,x.k≠1)
 | [],n,_,_=>⟨rfl,by simp[ZaC],by simp[ZaC,szL,Zaq],rfl,by simp[ZaC]⟩
 | t::l,n,hg,hf=>by
  have h1:=ZgH (c:=c) t n (hg t (by simp)) (ZfV hf)
  have h2:=ZhQ (c:=c) l (t.cutAt c n).2 (λx hx=>hg x (by simp[hx])) (ZfW hf)
  rw[ZaC]
  refine⟨?_,λx hx=>?_,?_,?_,λhk x hx=>?_⟩
  ·simp only[List.length_cons,h2.1]
  ·rcases List.mem_cons.1 hx with rfl|hx
   ·exact⟨h1.good,h1.er⟩
   ·exact h2.2.1 x hx
  ·have:=h1.sz
   have:=h2.2.2.1
   simp only[ZaW];omega
  ·have:=h1.gr
   have:=h2.2.2.2.1
   simp only[Zdy];omega
  ·rcases List.mem_cons.1 hx with rfl|hx
   ·exact h1.k (hk t (by simp))
   ·exact h2.2.2.2.2 (λy hy=>hk y (by simp[hy])) x hx
end
theorem Zpv{mn mx:Int}{a:Option Addr}{c:Nat}{o:T}(hb:Zb7 mn mx=true)(hk:o.k≠1)(hg:o.good=true):(Zba 5 mn mx a c [o]).good=true:=by
 rw[ZdP]
 show(T.right _&&[o].all T.good)=true
 rw[zA7]
 refine⟨?_,by simpa using hg⟩
 have hh:(Zba 5 mn mx a c [o]).has 1=false:=Zq1 λx hx=>by
  have:x=o:=by simpa[Zba,T.subs]using hx
  rw[this];exact hk
 unfold T.right
 simp[Zba,T.k,T.setZ,T.s0,T.s1,T.s2,T.s3,T.mn,T.mx,T.subs,hb]at hh ⊢
 exact hh
theorem Zot{a:Option Addr}{c:Nat}{o:T}(hg:o.good=true):(Zba 6 0 0 a c [o]).good=true:=by
 rw[ZdP]
 show(T.right _&&[o].all T.good)=true
 rw[zA7]
 exact⟨rfl,by simpa using hg⟩
theorem ZmS{c:C4}:∀{l:List T} {i n:Nat} {x:T},l[i]?=some x->(ZaC c l n).1[i]?=some (x.cutAt c (ZaC c (l.take i) n).2).1/\(ZaC c (l.take (i+1)) n).2=(x.cutAt c (ZaC c (l.take i) n).2).2
 | [],i,n,x,h=>by simp at h
 | t::l,0,n,x,h=>by
  simp at h;subst h
  simp[ZaC]
 | t::l,i+1,n,x,h=>by
  have ih:=ZmS (c:=c) (l:=l) (i:=i) (n:=(t.cutAt c n).2) (x:=x) (by simpa using h)
  simp only[List.take_succ_cons,ZaC,List.getElem?_cons_succ]
  exact ih
theorem Zpw{c:C4}:∀{l:List T} {i n:Nat} {x:T},l[i]?=some x->Zem c (Zax l) n->Zem c x.alts (ZaC c (l.take i) n).2
 | [],i,n,x,h,_=>by simp at h
 | t::l,0,n,x,h,hf=>by
  simp at h;subst h
  simpa[ZaC]using ZfV hf
 | t::l,i+1,n,x,h,hf=>by
  have ih:=Zpw (c:=c) (l:=l) (i:=i) (n:=(t.cutAt c n).2) (x:=x) (by simpa using h) (ZfW hf)
  simpa only[List.take_succ_cons,ZaC]using ih
mutual
theorem ZxP:∀t:T,t.er.alts.length=t.alts.length
 | .node k s0 s1 s2 s3 mn mx a c l=>by
  have:=Zlb l
  simp only[T.er,T.alts,zA1,this]
  split <;> rfl
theorem Zlb:∀l:List T,(Zax (erL l)).length=(Zax l).length
 | []=>rfl
 | t::l=>by simp only[erL,Zax,zA1,ZxP t,Zlb l]
end
theorem Zkp{l l':List T}(h:l.map T.er=l'.map T.er):(Zax l).length=(Zax l').length:=by
 rw[<-Zlb l,Zdz,h,<-Zdz,Zlb]
mutual
theorem Zwb{c:C4}:∀(t:T)(n:Nat),t.good=true->Zem c t.alts n->(t.cutAt c n).2<=n+3*t.nodes.length
 | .node k s0 s1 s2 s3 mn mx a cc l,n,hg,hf=>by
  have hs:=(Zan hg).2
  have hl:=Zlc (c:=c) l (if k=4 then n+1 else n) hs (ZfU hf)
  have hz:=Zb9 (T.node k s0 s1 s2 s3 mn mx a cc l)
  by_cases h:(T.node k s0 s1 s2 s3 mn mx a cc l).k=4/\n=c.a
  ·have bZ:=ZdS hf h.1 h.2
   have ho:=ZmQ hs bZ
   have h1:=ZdA (Zg7 (T.node k s0 s1 s2 s3 mn mx a cc l).subs c)
   have h2:=(ZcR hg).2.1 h.1
   have h3:=Zbo (T.node k s0 s1 s2 s3 mn mx a cc l).subs
   have h4:=ho.sz
   rw[ZcP h.1 h.2]
   show n+1+_<=_
   omega
  ·rw[ZbK h]
   show(ZaC c l (if k=4 then n+1 else n)).2<=_
   have e:szL (T.node k s0 s1 s2 s3 mn mx a cc l).subs=szL l:=rfl
   rw[hz,e]
   have:(if k=4 then n+1 else n)<=n+1:=by split <;> omega
   omega
theorem Zlc{c:C4}:∀(l:List T)(n:Nat),(∀x∈l,x.good=true)->Zem c (Zax l) n->(ZaC c l n).2<=n+3*szL l
 | [],n,_,_=>Nat.le_add_right _ _
 | t::l,n,hg,hf=>by
  have h1:=Zwb (c:=c) t n (hg t (by simp)) (ZfV hf)
  have h2:=Zlc (c:=c) l (t.cutAt c n).2 (λx hx=>hg x (by simp[hx])) (ZfW hf)
  rw[ZaC,ZaW]
  show(ZaC c l (t.cutAt c n).2).2<=_
  omega
end
theorem Zq8{c:C4}{l:List T}{n:Nat}(i:Nat)(h:Zem c (Zax l) n):Zem c (Zax (l.take i)) n:=λj al hj hn=>h j al (by
 have e:Zax l=Zax (l.take i)++Zax (l.drop i):=by rw[<-Zdj,List.take_append_drop]
 rw[e,zA5 (zA0 hj).1];exact hj) hn
theorem Zld{α:Type}{l:List α}{f:Nat->α}(h:∀i x,l[i]?=some x->f i=x):(List.range l.length).map f=l:=by
 refine List.ext_getElem? λi=>?_
 rw[List.getElem?_map]
 by_cases hi:i < l.length
 ·rw[List.getElem?_range hi,zA3 hi]
  simp only[Option.map_some]
  rw[h i _ (zA3 hi)]
 ·rw[List.getElem?_eq_none_iff.2 (by simp;omega),List.getElem?_eq_none_iff.2 (by omega)];rfl
theorem ZsD{n f:Nat}:∀{l:List T} {s:List T} {to:Nat} {c:C4},c∈runE n f s to l->c.a=n/\c.f=f/\to<=c.t/\c.t < to+l.length/\1<=c.n/\c.n<=s.length/\∀i x,to+i<=c.t->l[i]?=some x->c.n<=(Zao x).length
 | [],s,to,c,h=>by simp[runE]at h
 | x::l,s,to,c,h=>by
  rw[runE]at h
  have hc:=Zcb s (Zao x)
  split at h
  ·simp at h
  ·rename_i hk
   rcases List.mem_cons.1 h with rfl|h
   ·refine⟨rfl,rfl,Nat.le_refl _,by simp,by show 1<=ZaH _ _;omega,hc.1,λi y hi hy=>?_⟩
    have hi:to+i<=to:=hi
    obtain rfl:i=0:=by omega
    simp at hy;subst hy
    exact hc.2
   ·obtain⟨h1,h2,h3,h4,h5,h6,h7⟩:=ZsD h
    rw[List.length_take]at h6
    refine⟨h1,h2,by omega,by simp;omega,h5,by omega,λi y hi hy=>?_⟩
    cases i with
    | zero=>simp at hy;subst hy;omega
    | succ i=>exact h7 i y (by omega) (by simpa using hy)
theorem Zpx{n:Nat}:∀{l:List T} {f:Nat} {c:C4},c∈Zev n f l->c.a=n/\f<=c.f/\c.f+2<=c.t/\c.t<=f+l.length/\1<=c.n/\∀i x,c.f<=f+i->f+i < c.t->l[i]?=some x->c.n<=(Zao x).length
 | [],f,c,h=>by simp[Zev]at h
 | x::l,f,c,h=>by
  rw[Zev,List.mem_append]at h
  rcases h with h|h
  ·obtain⟨h1,h2,h3,h4,h5,h6,h7⟩:=ZsD h
   refine⟨h1,by omega,by omega,by simp;omega,h5,λi y fI gH hy=>?_⟩
   cases i with
   | zero=>simp at hy;subst hy;exact h6
   | succ i=>exact h7 i y (by omega) (by simpa using hy)
  ·obtain⟨h1,h2,h3,h4,h5,h6⟩:=Zpx h
   refine⟨h1,by omega,h3,by simp;omega,h5,λi y fI gH hy=>?_⟩
   cases i with
   | zero=>omega
   | succ i=>exact h6 i y (by omega) (by omega) (by simpa using hy)
theorem Zpy:∀{l:List T} {n:Nat} {c:C4},c∈ZeU n l->n<=c.a/\∃al,l[c.a - n]?=some al/\Fit al.subs c
 | [],n,c,h=>by simp[ZeU]at h
 | a::l,n,c,h=>by
  rw[ZeU,List.mem_append]at h
  rcases h with h|h
  ·obtain⟨h1,h2,h3,h4,h5,h6⟩:=Zpx h
   refine⟨by omega,a,by rw[h1,Nat.sub_self];rfl,⟨h3,by omega,h5,λi x fI gH hx=>h6 i x (by omega) (by omega) hx⟩⟩
  ·obtain⟨h1,al,h2,h3⟩:=Zpy h
   refine⟨by omega,al,?_,h3⟩
   rw[show c.a - n=(c.a - (n+1))+1 by omega]
   exact h2
theorem ZcS{t:T}{c:C4}(h:c∈t.cuts):Zem c t.alts 0:=by
 obtain⟨_,al,h1,h2⟩:=Zpy h
 intro i al' hi hn
 rw[show c.a - 0=i by omega,hi]at h1
 cases h1
 exact h2
theorem Zou(t:T):Zao t.er=(Zao t).map T.er:=by
 unfold Zao
 rw[Zu2,ZgB]
 split
 ·rfl
 ·split
  ·rw[List.takeWhile_map]
   have:(T.isC∘T.er)=T.isC:=by funext x;simp[T.isC]
   rw[this]
  ·rfl
theorem ZmT:∀l r:List T,ZaH (l.map T.er) (r.map T.er)=ZaH l r
 | [],_=>by simp[ZaH]
 | _::_,[]=>by simp[ZaH]
 | a::l,b::r=>by
  have:ZcC a.er b.er=ZcC a b:=by unfold ZcC;simp
  simp only[List.map_cons,ZaH,this,ZmT l r]
theorem Zvn(n f:Nat):∀(l s:List T)(to:Nat),runE n f (s.map T.er) to (l.map T.er)=runE n f s to l
 | [],s,to=>rfl
 | x::l,s,to=>by
  rw[List.map_cons,runE,runE,Zou,ZmT,<-List.map_take,Zvn n f l]
theorem ZsE(n:Nat):∀(l:List T)(f:Nat),Zev n f (l.map T.er)=Zev n f l
 | [],f=>rfl
 | x::l,f=>by rw[List.map_cons,Zev,Zev,Zou,Zvn,ZsE n l]
theorem ZsF:∀(l:List T)(n:Nat),ZeU n (l.map T.er)=ZeU n l
 | [],n=>rfl
 | a::l,n=>by rw[List.map_cons,ZeU,ZeU,ZgB,ZsE,ZsF l]
mutual
theorem ZsG:∀t:T,t.er.alts=t.alts.map T.er
 | .node k s0 s1 s2 s3 mn mx a c l=>by
  have:=Zpz l
  simp only[T.er,T.alts,List.map_append,this]
  split <;> rfl
theorem Zpz:∀l:List T,Zax (erL l)=(Zax l).map T.er
 | []=>rfl
 | t::l=>by simp only[erL,Zax,List.map_append,ZsG t,Zpz l]
end
theorem ZsH(t:T):t.er.cuts=t.cuts:=by unfold T.cuts;rw[ZsG,ZsF]
theorem Zwc(n:Nat)(x:T):Zbp n x.er=Zbp n x:=by
 unfold Zbp
 rw[Zu2,ZgB,<-List.map_drop,<-Zpu]
theorem ZxQ(l:List T)(c:C4)(hf:c.f < l.length):Zvl (l.map T.er) c=Zvl l c:=by
 unfold Zvl
 rw[List.getElem?_map,zA3 hf]
 simp only[Option.map_some,Option.getD_some,Zou]
 have e:(Zbp c.n∘T.er)=Zbp c.n:=by funext x;exact Zwc c.n x
 rw[<-List.map_take,<-List.map_take,<-List.map_drop,List.map_map,e]
 refine ZiS ?_
 rw[List.map_append,List.map_append,List.map_map]
 congr 1
 exact List.map_congr_left λz _=>ZdQ z
theorem ZxR(l:List T)(c:C4)(hf:c.f < l.length):(Zg7 (l.map T.er) c).map T.er=(Zg7 l c).map T.er:=by
 unfold Zg7
 rw[ZxQ l c hf,List.map_append,List.map_append,List.map_cons,List.map_cons,<-List.map_take,<-List.map_drop,List.map_map,List.map_map]
 congr 1
 ·exact List.map_congr_left λz _=>ZdQ z
 ·congr 1
  exact List.map_congr_left λz _=>ZdQ z
mutual
theorem Zov{c:C4}:∀(t:T)(n:Nat),Zem c t.alts n->t.er.cutAt c n=t.cutAt c n
 | .node k s0 s1 s2 s3 mn mx a cc l,n,hf=>by
  have hl:=ZpA (c:=c) l (if k=4 then n+1 else n) (ZfU hf)
  by_cases h:(T.node k s0 s1 s2 s3 mn mx a cc l).k=4/\n=c.a
  ·have bZ:=ZdS hf h.1 h.2
   rw[ZcP h.1 h.2,ZcP (by rw[Zu2];exact h.1) h.2,ZgB]
   have h1:=ZxR (T.node k s0 s1 s2 s3 mn mx a cc l).subs c (by have:=bZ.two;have:=bZ.le;omega)
   rw[ZiT h1,Zkp h1]
  ·rw[ZbK h,ZbK (by rw[Zu2];exact h),Zu2,ZgB,<-Zdz]
   show(T.built _ (ZaC c (erL l) (if k=4 then n+1 else n)).1,(ZaC c (erL l) (if k=4 then n+1 else n)).2)=_
   rw[hl]
   congr 1
theorem ZpA{c:C4}:∀(l:List T)(n:Nat),Zem c (Zax l) n->ZaC c (erL l) n=ZaC c l n
 | [],n,_=>rfl
 | t::l,n,hf=>by
  have h1:=Zov (c:=c) t n (ZfV hf)
  rw[erL,ZaC,ZaC,h1]
  rw[ZpA l _ (ZfW hf)]
end
structure Top where
 c:C4
 g:Int
 t:T
def C4.zero:C4:=⟨0,0,0,0⟩
def ZgI(top c:C4)(most gain:Int):Bool:=decide (gain > most)||((gain == most)&&(decide (gain > 0)&&((c.a == top.a)&&((c.f == top.f)&&decide (c.t > top.t)))))
def Zec(t:T)(c:C4):Int:=(t.nodes.length:Int) - ((t.cutAt c 0).1.nodes.length:Int)
def Zbg(t:T)(b:Top)(c:C4):Top:=if ZgI b.c c b.g (Zec t c)then⟨c,Zec t c,(t.cutAt c 0).1⟩ else b
def Za1(t:T):Top:=t.cuts.foldl (Zbg t) ⟨C4.zero,0,t.er⟩
theorem Zq9{t:T}{c:C4}(h:c∈t.cuts)(b:Top):Zbg t.er b c=Zbg t b c:=by
 unfold Zbg Zec
 rw[Zov t 0 (ZcS h),ZdF]
theorem Zkq{α β:Type}{f g:α->β->α}:∀{l:List β} {b:α},(∀x∈l,∀b,f b x=g b x)->l.foldl f b=l.foldl g b
 | [],b,_=>rfl
 | x::l,b,h=>by
  rw[List.foldl_cons,List.foldl_cons,h x (by simp)]
  exact Zkq λy hy=>h y (by simp[hy])
theorem ZsI(t:T):Za1 t.er=Za1 t:=by
 unfold Za1
 rw[ZsH,ZdQ]
 exact Zkq λc hc b=>Zq9 hc b
structure TopOk (t:T)(b:Top):Prop where
 or:(b.g=0/\b.c=C4.zero/\b.t=t.er)\/(0 < b.g/\b.c∈t.cuts/\b.g=Zec t b.c/\b.t=(t.cutAt b.c 0).1)
theorem Zra{t:T}{b:Top}(h:TopOk t b){c:C4}(hc:c∈t.cuts):TopOk t (Zbg t b c):=by
 unfold Zbg
 split
 ·rename_i hb
  refine⟨.inr ⟨?_,hc,rfl,rfl⟩⟩
  have h0:0<=b.g:=by rcases h.or with h|h <;> omega
  show 0 < Zec t c
  unfold ZgI at hb
  simp only[Bool.or_eq_true,zA7,decide_eq_true_eq]at hb
  rcases hb with hb|⟨_,hb,_⟩ <;> omega
 ·exact h
theorem ZsJ{t:T}:∀{l:List C4} {b:Top},(∀c∈l,c∈t.cuts)->TopOk t b->TopOk t (l.foldl (Zbg t) b)
 | [],b,_,h=>h
 | c::l,b,hl,h=>by
  rw[List.foldl_cons]
  exact ZsJ (λx hx=>hl x (by simp[hx])) (Zra h (hl c (by simp)))
theorem Zle(t:T):TopOk t (Za1 t):=ZsJ (λ_ h=>h) ⟨.inl ⟨rfl,rfl,rfl⟩⟩
theorem ZdT{t:T}(hg:t.good=true)(h:0 < (Za1 t).g):(Za1 t).t.good=true/\((Za1 t).t.nodes.length:Int)=t.nodes.length - (Za1 t).g/\(Za1 t).t.er=(Za1 t).t/\(Za1 t).t.gr=t.gr:=by
 rcases(Zle t).or with h1|⟨_,h2,h3,h4⟩
 ·omega
 ·have ho:=ZgH (c:=(Za1 t).c) t 0 hg (ZcS h2)
  rw[h4]
  refine⟨ho.good,?_,ho.er,ho.gr⟩
  rw[h3];unfold Zec;omega
def ZcD:Nat->T->T×List C4
 | 0,t=>(t.er,[])
 | k+1,t=>if(Za1 t).g<=0 then(t.er,[])else((ZcD k (Za1 t).t).1,(Za1 t).c::(ZcD k (Za1 t).t).2)
theorem ZmU(k:Nat)(t:T):ZcD k t.er=ZcD k t:=by
 cases k with
 | zero=>unfold ZcD;rw[ZdQ]
 | succ k=>unfold ZcD;rw[ZsI,ZdQ]
theorem Zfb:∀(n:Nat)(t:T),t.nodes.length<=n->t.good=true->∀k,t.nodes.length<=k->ZcD k t=ZcD t.nodes.length t
 | 0,t,hn,_,k,hk=>by
  have:=Zb9 t
  omega
 | n+1,t,hn,hg,k,hk=>by
  have hz:=Zb9 t
  obtain⟨k,rfl⟩:∃j,k=j+1:=⟨k - 1,by omega⟩
  obtain⟨j,hj⟩:∃j,t.nodes.length=j+1:=⟨t.nodes.length - 1,by omega⟩
  rw[hj,ZcD,ZcD]
  split
  ·rfl
  ·rename_i hp
   have hb:=ZdT hg (by omega)
   have h1:(Za1 t).t.nodes.length<=n:=by omega
   rw[Zfb n _ h1 hb.1 k (by omega),Zfb n _ h1 hb.1 j (by omega)]
def ZaF(t:T):T×List C4:=ZcD t.nodes.length t
theorem ZcE{t:T}(h:(Za1 t).g<=0):ZaF t=(t.er,[]):=by
 unfold ZaF
 obtain⟨j,hj⟩:∃j,t.nodes.length=j+1:=⟨t.nodes.length - 1,by have:=Zb9 t;omega⟩
 rw[hj,ZcD,if_pos h]
theorem ZfX{t:T}(hg:t.good=true)(h:¬(Za1 t).g<=0):ZaF t=((ZaF (Za1 t).t).1,(Za1 t).c::(ZaF (Za1 t).t).2):=by
 have hb:=ZdT hg (by omega)
 unfold ZaF
 obtain⟨j,hj⟩:∃j,t.nodes.length=j+1:=⟨t.nodes.length - 1,by have:=Zb9 t;omega⟩
 rw[hj,ZcD,if_neg h,Zfb _ (Za1 t).t (Nat.le_refl _) hb.1 j (by omega)]
theorem ZiV{t u:T}(h:t.er=u.er):ZaF t=ZaF u:=by
 unfold ZaF
 rw[<-ZmU,h,ZmU,<-ZdF t,h,ZdF]
end Go.Rx
namespace Go.Rx
open Go Go.Eng Go.RowKit
def bwL(f:Nat):List Value:=[.int .u64 (wdN f 0:Nat),.int .u64 (wdN f 1:Nat),.int .u64 (wdN f 2:Nat),.int .u64 (wdN f 3:Nat),.int .u64 (wdN f 4:Nat),.int .u64 (wdN f 5:Nat),.int .u64 (wdN f 6:Nat)]
def ZAx(f:Nat):List Nat:=(List.range 448).filter λi=>f.testBit i
structure Pt where
 first:Nat
 last:Nat
 null:Bool
structure Ms where
 sets:List (Int×Int×Int×Int)
 fol:List Nat
def Pt.v(p:Pt):Value:=.agg #[.int .u64 (wdN p.first 0:Nat),.int .u64 (wdN p.first 1:Nat),.int .u64 (wdN p.first 2:Nat),.int .u64 (wdN p.first 3:Nat),.int .u64 (wdN p.first 4:Nat),.int .u64 (wdN p.first 5:Nat),.int .u64 (wdN p.first 6:Nat),.int .u64 (wdN p.last 0:Nat),.int .u64 (wdN p.last 1:Nat),.int .u64 (wdN p.last 2:Nat),.int .u64 (wdN p.last 3:Nat),.int .u64 (wdN p.last 4:Nat),.int .u64 (wdN p.last 5:Nat),.int .u64 (wdN p.last 6:Nat),.bool p.null]
def Pt.cs(p:Pt):List Value:=bwL p.first++bwL p.last++[Value.bool p.null]
def Zw2(fol:List Nat)(a b:Nat):List Nat:=fol.mapIdx λi x=>if a.testBit i then x|||b else x
def ZAy(p q:Pt):Pt:=⟨if p.null then p.first|||q.first else p.first,if q.null then q.last|||p.last else q.last,p.null&&q.null⟩
def ZxS(p q:Pt)(s:Ms):Pt×Ms:=(ZAy p q,⟨s.sets,Zw2 s.fol p.last q.first⟩)
def ZBU(p q:Pt):Pt:=⟨p.first|||q.first,p.last|||q.last,p.null||q.null⟩
def ZBy(f:Ms->Pt×Ms)(mn mx:Int)(n:Nat):Nat->Nat->Pt->Ms->Pt×Ms
 | 0,_,out,s=>(out,s)
 | q+1,i,out,s=>
  let x:=(f s).1
  let s1:=(f s).2
  let s2:Ms:=if mx=-1/\i+1=n then⟨s1.sets,Zw2 s1.fol x.last x.first⟩ else s1
  let y:Pt:=⟨x.first,x.last,x.null||decide ((i:Int) ≥ mn)⟩
  ZBy f mn mx n q (i+1) (ZxS out y s2).1 (ZxS out y s2).2
def ZBz(mn mx:Int):Nat:=(if mx=-1 then max mn 1 else mx).toNat
mutual
def mk:T->Ms->Pt×Ms
 | .node k s0 s1 s2 s3 mn mx _ _ l,s=>
  if k=0 then(⟨0,0,false⟩,s)
  else if k=1 then(⟨0,0,true⟩,s)
  else if k=2 then(⟨2 ^ s.sets.length,2 ^ s.sets.length,false⟩,⟨s.sets++[(s0,s1,s2,s3)],s.fol++[0]⟩)
  else if k=3 then Zz2 l ⟨0,0,true⟩ s
  else if k=4 then Zz3 l ⟨0,0,false⟩ s
  else if k=5 then ZBy (λs=>ZBA l s) mn mx (ZBz mn mx) (ZBz mn mx) 0 ⟨0,0,true⟩ s
  else ZBA l s
def ZBA:List T->Ms->Pt×Ms
 | [],s=>(⟨0,0,false⟩,s)
 | t::_,s=>mk t s
def Zz2:List T->Pt->Ms->Pt×Ms
 | [],out,s=>(out,s)
 | t::l,out,s=>Zz2 l (ZxS out (mk t s).1 (mk t s).2).1 (ZxS out (mk t s).1 (mk t s).2).2
def Zz3:List T->Pt->Ms->Pt×Ms
 | [],out,s=>(out,s)
 | t::l,out,s=>Zz3 l (ZBU out (mk t s).1) (mk t s).2
end
def ZcL(l:List (Int×Int×Int×Int)):List Value:=l.flatMap λq=>[.int .u64 q.1,.int .u64 q.2.1,.int .u64 q.2.2.1,.int .u64 q.2.2.2]
def ZAz(l:List Nat):List Value:=l.flatMap bwL
def Yof(v0 v1:Value)(b:Nat):Prop:=(Tok.mk v0 4).blk=some b\/(Tok.mk v1 7).blk=some b
def RowOk(m:Mem)(v:Value)(k:Nat)(cs:List Value):Prop:=(k=0/\v=.slice none 0 0)\/∃b c,v=.slice (some ⟨b,0,none⟩) k c/\m.reads b 0 cs/\k≠0
structure MkRow (m:Mem)(v0 v1:Value)(s:Ms):Prop where
 row0:RowOk m v0 s.sets.length (ZcL s.sets)
 row1:RowOk m v1 s.fol.length (ZAz s.fol)
 ne:∀b,(Tok.mk v0 4).blk=some b->(Tok.mk v1 7).blk≠some b
structure MkOk (M0 m:Mem)(v0 v1:Value)(s:Ms):Prop extends MkRow m v0 v1 s where
 base:M0.le (m.off (Yof v0 v1))
theorem Zt8{m m':Mem}{Y Y':Nat->Prop}(h:(m.off Y).le m')(hn:∀b,Y' b->Y b\/m.free b):(m.off Y).le (m'.off Y'):=λb o v hv=>by
 unfold Mem.off at hv ⊢
 split at hv
 ·cases hv
 ·rename_i hY
  have:¬Y' b:=λh'=>by
   rcases hn b h' with h1|h1
   ·exact hY h1
   ·rw[h1 o]at hv;cases hv
  rw[if_neg this]
  have:=h b o v (by unfold Mem.off;rw[if_neg hY];exact hv)
  exact this
theorem MkOk.next{M0 m m':Mem}{v0 v1 v0' v1':Value}{s s':Ms}(h:MkOk M0 m v0 v1 s)(bC:(m.off (Yof v0 v1)).le m')(hn:∀b,Yof v0' v1' b->Yof v0 v1 b\/m.free b)(hr:MkRow m' v0' v1' s'):MkOk M0 m' v0' v1' s':=
 {hr with base:=mLt h.base (Zt8 bC hn) }
theorem MkOk.free{M0 m:Mem}{v0 v1:Value}{s:Ms}(h:MkOk M0 m v0 v1 s){b:Nat}(hb:Yof v0 v1 b):M0.free b:=λo=>by
 cases he:M0 b o with
 | none=>rfl
 | some u=>
  have:=h.base b o u he
  unfold Mem.off at this
  rw[if_pos hb]at this;cases this
theorem MkOk.le{M0 m:Mem}{v0 v1:Value}{s:Ms}(h:MkOk M0 m v0 v1 s):M0.le m:=mLt h.base (Mem.off_le m _)
theorem RowOk.mono{m m':Mem}{v:Value}{k:Nat}{cs:List Value}(h:RowOk m v k cs)(hm:m.le m'):RowOk m' v k cs:=by
 rcases h with h|⟨b,c,h1,h2,h3⟩
 ·exact .inl h
 ·exact .inr ⟨b,c,h1,h2.mono hm,h3⟩
theorem MkRow.mono{m m':Mem}{v0 v1:Value}{s:Ms}(h:MkRow m v0 v1 s)(hm:m.le m'):MkRow m' v0 v1 s:=⟨h.row0.mono hm,h.row1.mono hm,h.ne⟩
def PtIn(n:Nat)(p:Pt):Prop:=(∀i,p.first.testBit i=true->i < n)/\(∀i,p.last.testBit i=true->i < n)
structure MsOk (s:Ms):Prop where
 len:s.fol.length=s.sets.length
 fol:∀(j x:Nat),s.fol[j]?=some x->∀i,x.testBit i=true->i < s.sets.length
theorem PtIn.mono{n n':Nat}{p:Pt}(h:PtIn n p)(hn:n<=n'):PtIn n' p:=⟨λi hi=>Nat.lt_of_lt_of_le (h.1 i hi) hn,λi hi=>Nat.lt_of_lt_of_le (h.2 i hi) hn⟩
theorem Zzi{a b i:Nat}(h:(a|||b).testBit i=true):a.testBit i=true\/b.testBit i=true:=by
 simpa[Nat.testBit_or]using h
theorem MsOk.loop{s:Ms}(h:MsOk s)(a b:Nat)(hb:∀i,b.testBit i=true->i < s.sets.length):MsOk ⟨s.sets,Zw2 s.fol a b⟩:=by
 refine⟨by simp[Zw2,h.len],λj x hj i hi=>?_⟩
 simp only[Zw2,List.getElem?_mapIdx]at hj
 obtain⟨y,hy,rfl⟩:=Option.map_eq_some_iff.1 hj
 by_cases zG:a.testBit j=true
 ·rw[if_pos zG]at hi
  rcases Zzi hi with h1|h1
  ·exact h.fol j y hy i h1
  ·exact hb i h1
 ·rw[if_neg zG]at hi
  exact h.fol j y hy i hi
structure Grows (s:Ms)(r:Pt×Ms):Prop where
 le:s.sets.length<=r.2.sets.length
 ok:MsOk r.2
 pt:PtIn r.2.sets.length r.1
theorem Grows.trans{s s1:Ms}{p:Pt}{r:Pt×Ms}(h:Grows s (p,s1))(k:Grows s1 r):Grows s r:=⟨Nat.le_trans h.le k.le,k.ok,k.pt⟩
abbrev QS:=Int×Int×Int×Int
structure Nf where
 sets:List QS
 fol:List (List Int)
 first:List Int
 last:List Int
 empty:Bool
deriving DecidableEq
def ZgJ(l:List Int):List Value:=l.map λi=>.int .i64 i
theorem ZpB(l:List Int):(ZgJ l).length=l.length:=by simp[ZgJ]
def SlI(st:Bool)(l:List Int)(v:Value)(m:Mem):Prop:=∃a c,v=.slice a l.length c/\rowRd m a (ZgJ l)/\l.length<=1000000/\(st=true->l=[]->a=none)
def SlQ(st:Bool)(l:List QS)(v:Value)(m:Mem):Prop:=∃a c,v=.slice a l.length c/\rowRd m a (ZcL l)/\l.length<=1000000/\(st=true->l=[]->a=none)
def FolR(st:Bool)(fol:List (List Int))(v:Value)(m:Mem):Prop:=∃a c vs,v=.slice a fol.length c/\rowRd m a vs/\vs.length=fol.length/\fol.length<=1000000/\∀(i:Nat)(v:Value)(l:List Int),vs[i]?=some v->fol[i]?=some l->SlI st l v m
def NfR(st:Bool)(A:Nf)(v:Value)(m:Mem):Prop:=∃s f x y,v=.agg #[s,f,x,y,.bool A.empty]/\SlQ st A.sets s m/\FolR st A.fol f m/\SlI st A.first x m/\SlI st A.last y m
theorem SlI.mono{st:Bool}{l:List Int}{v:Value}{m m':Mem}(h:SlI st l v m)(k:m.le m'):SlI st l v m':=by
 obtain⟨a,c,h1,h2,h3⟩:=h;exact⟨a,c,h1,h2.mono k,h3⟩
theorem SlQ.mono{st:Bool}{l:List QS}{v:Value}{m m':Mem}(h:SlQ st l v m)(k:m.le m'):SlQ st l v m':=by
 obtain⟨a,c,h1,h2,h3⟩:=h;exact⟨a,c,h1,h2.mono k,h3⟩
theorem FolR.mono{st:Bool}{l:List (List Int)}{v:Value}{m m':Mem}(h:FolR st l v m)(k:m.le m'):FolR st l v m':=by
 obtain⟨a,c,vs,h1,h2,h3,h4,h5⟩:=h;exact⟨a,c,vs,h1,h2.mono k,h3,h4,λi v l hv hl=>(h5 i v l hv hl).mono k⟩
theorem NfR.mono{st:Bool}{A:Nf}{v:Value}{m m':Mem}(h:NfR st A v m)(k:m.le m'):NfR st A v m':=by
 obtain⟨s,f,x,y,h1,h2,h3,h4,h5⟩:=h;exact⟨s,f,x,y,h1,h2.mono k,h3.mono k,h4.mono k,h5.mono k⟩
def ZxT:List Int->Int->Int->Bool
 | [],_,_=>true
 | p::l,lo,hi=>decide (lo < p)&&(decide (p<=hi)&&ZxT l p hi)
def zQ:QS:=(0,0,0,0)
def Nf.top(A:Nf):Int:=(A.sets.length:Int) - 1
def Nf.right(A:Nf):Bool:=
 decide (A.sets.length<=400)&&(decide (A.fol.length=A.sets.length)&&(ZxT A.first (-1) A.top&&(ZxT A.last (-1) A.top&&((A.fol.zip A.sets).all λp=>ZxT p.1 (-1) A.top&&!(p.2 == zQ)))))
def ZAA(f:Nat):List Int:=(ZAx f).map λi:Nat=>(i:Int)
def Zw3(p:Nat)(cur:List (List Int))(q:Int):List (List Int):=cur.modify q.toNat (λl=>l++[(p:Int)])
theorem ZpC(p:Nat)(cur:List (List Int))(q:Int):(Zw3 p cur q).length=cur.length:=by simp[Zw3]
theorem Zt9{p:Nat}{cur:List (List Int)}{q:Int}{i:Nat}{l:List Int}(h:cur[i]?=some l):(Zw3 p cur q)[i]?=some (if q.toNat=i then l++[(p:Int)]else l):=by
 unfold Zw3
 rw[List.getElem?_modify,h]
 split <;> rfl
structure Nf.Ok (A:Nf):Prop where
 n:A.sets.length<=400
 len:A.fol.length=A.sets.length
 first:A.first.Pairwise (· < ·)/\∀x∈A.first,-1 < x/\x<=A.top
 last:A.last.Pairwise (· < ·)/\∀x∈A.last,-1 < x/\x<=A.top
 fol:∀l∈A.fol,l.Pairwise (· < ·)/\∀x∈l,-1 < x/\x<=A.top
 sets:∀q∈A.sets,q≠zQ
structure TurnI (base m:Mem)(b:Nat)(F:Nat->Option (Nat×Nat))(cur:List (List Int)):Prop where
 le:base.le m
 fr:base.free b
 cell:∀(q:Nat)(l:List Int),cur[q]?=some l->(F q=none/\l=[]/\m b q=some (.slice none 0 0))\/∃bq c,F q=some (bq,c)/\l≠[]/\l.length<=c/\m b q=some (.slice (some ⟨bq,0,none⟩) l.length c)/\(∀o,o < c->∃v,m bq o=some v)/\m.reads bq 0 (ZgJ l)/\base.free bq/\bq≠b
 ne:∀(q q' b0 c c':Nat),F q=some (b0,c)->F q'=some (b0,c')->q=q'
 dom:∀(q:Nat)(x:Nat×Nat),F q=some x->q < cur.length
theorem Zua(l r:List Int):ZgJ (l++r)=ZgJ l++ZgJ r:=by simp[ZgJ]
theorem TurnI.push{base m:Mem}{b:Nat}{F:Nat->Option (Nat×Nat)}{cur:List (List Int)}(h:TurnI base m b F cur){q:Int}{p:Nat}{l:List Int}(Dd:0<=q)(hq:cur[q.toNat]?=some l){a:Option Addr}{c:Nat}(hm:m b q.toNat=some (.slice a l.length c)){m1 m2 M:Mem}(aK:(m.cutA a (l.length*1)).le m1)
  {a':Option Addr} {c':Nat} (hr:rowRd m2 a' (ZgJ l++[.int .i64 (p:Int)])) (hf:TokFact m1 a a' (l.length+1) c') (vM:(m.cutA a (l.length*1)).le M) (cS:m2.le M) (zs:List Value) (hz:zs.length=(c' - (l.length+1))*1):
  ∃F',TurnI base ((M.upd b q.toNat [.slice a' (l.length+1) c']).addA a' ((l.length+1)*1) zs) b F' (Zw3 p cur q):=by
 have Bi:=(zA0 hq).1
 have eO:∀b o,a=some ⟨b,o,none⟩->o=0:=λb1 o1 e=>by
  rcases h.cell _ _ hq with⟨_,_,h3⟩|⟨bq,c0,_,_,_,h4,_⟩
  ·rw[hm,e]at h3;simp at h3
  ·rw[hm,e]at h4;simp at h4;exact h4.1.2
 obtain⟨hc',fM⟩:=hf.old eO
 rcases hr with hr|⟨b',o',ha',bA⟩
 ·have:=congrArg List.length hr;simp at this
 rcases fM with Bj|⟨b2,iM,gF⟩
 ·rw[Bj]at ha';cases ha'
 rw[iM]at ha'
 simp only[Option.some.injEq,Addr.mk.injEq,and_true]at ha'
 obtain⟨rfl,rfl⟩:=ha'
 subst iM
 have fR:∀k o v,m k o=some v->(∀bq c0,F q.toNat=some (bq,c0)->k≠bq)->M k o=some v:=λk o v hv hk=>by
  refine vM k o v ?_
  unfold Mem.cutA
  split
  ·rename_i k0 o0 s0
   rcases h.cell _ _ hq with⟨_,_,h3⟩|⟨bq,c0,h1,_,_,h4,_⟩
   ·rw[hm]at h3;simp only[Option.some.injEq,Value.slice.injEq]at h3;exact absurd h3.1 (by simp)
   ·rw[hm]at h4
    simp only[Option.some.injEq,Value.slice.injEq,Addr.mk.injEq]at h4
    rw[if_neg (λhc=>hk bq c0 h1 (hc.1.trans h4.1.1))];exact hv
  ·exact hv
 have hb'k:∀k o v,m k o=some v->(∀bq c0,F q.toNat=some (bq,c0)->k≠bq)->k≠b2:=λk o v hv hk e=>by
  subst e
  have Bk:(m.cutA a (l.length*1)) k o=some v:=by
   unfold Mem.cutA
   split
   ·rename_i k0 o0 s0
    rcases h.cell _ _ hq with⟨_,_,h3⟩|⟨bq,c0,h1,_,_,h4,_⟩
    ·rw[hm]at h3;simp only[Option.some.injEq,Value.slice.injEq]at h3;exact absurd h3.1 (by simp)
    ·rw[hm]at h4
     simp only[Option.some.injEq,Value.slice.injEq,Addr.mk.injEq]at h4
     rw[if_neg (λhc=>hk bq c0 h1 (hc.1.trans h4.1.1))];exact hv
   ·exact hv
  rcases gF with gF|gF
  ·rcases h.cell _ _ hq with⟨_,_,h3⟩|⟨bq,c0,h1,_,_,h4,_⟩
   ·rw[hm,gF]at h3;simp only[Option.some.injEq,Value.slice.injEq]at h3;exact absurd h3.1 (by simp)
   ·rw[hm,gF]at h4
    simp only[Option.some.injEq,Value.slice.injEq,Addr.mk.injEq]at h4
    exact hk bq c0 h1 h4.1.1
  ·have:=aK _ _ _ Bk
   rw[gF o]at this;cases this
 have kQ:∀q' x,cur[q']?=some x->∃v,m b q'=some v:=λq' x hx=>by
  rcases h.cell _ _ hx with⟨_,_,h3⟩|⟨_,_,_,_,_,h4,_⟩
  ·exact⟨_,h3⟩
  ·exact⟨_,h4⟩
 have xk:∀bq c0,F q.toNat=some (bq,c0)->b≠bq:=λbq c0 h1 e=>by
  rcases h.cell _ _ hq with⟨h3,_,_⟩|⟨bq',c0',h1',_,_,_,_,_,_,h8⟩
  ·rw[h3]at h1;cases h1
  ·rw[h1]at h1';cases h1';exact h8 e.symm
 have dC:b≠b2:=by
  obtain⟨v,hv⟩:=kQ _ _ hq
  exact hb'k b _ v hv xk
 let N:=(M.upd b q.toNat [.slice (some ⟨b2,0,none⟩) (l.length+1) c']).addA (some ⟨b2,0,none⟩) ((l.length+1)*1) zs
 have hN:∀k o,k≠b2->(k≠b\/o≠q.toNat)->N k o=M k o:=λk o hk Bl=>by
  show Mem.addAt _ b2 _ zs k o=_
  unfold Mem.addAt
  rw[if_neg (λhc=>hk hc.1)]
  unfold Mem.upd
  rw[if_neg]
  rintro⟨e1,e2,e3⟩
  simp at e3
  rcases Bl with h|h
  ·exact h e1
  ·omega
 have Bm:N b q.toNat=some (.slice (some ⟨b2,0,none⟩) (l.length+1) c'):=by
  show Mem.addAt _ b2 _ zs b q.toNat=_
  unfold Mem.addAt
  rw[if_neg (λhc=>dC hc.1)]
  unfold Mem.upd
  rw[if_pos ⟨rfl,Nat.le_refl _,by simp⟩];simp
 have uk:base.free b2:=by
  rcases gF with gF|gF
  ·rcases h.cell _ _ hq with⟨_,_,h3⟩|⟨bq,c0,h1,_,_,h4,_,_,h7,_⟩
   ·rw[hm,gF]at h3;simp only[Option.some.injEq,Value.slice.injEq]at h3;exact absurd h3.1 (by simp)
   ·rw[hm,gF]at h4
    simp only[Option.some.injEq,Value.slice.injEq,Addr.mk.injEq]at h4
    rw[h4.1.1];exact h7
  ·intro o
   cases he:base b2 o with
   | none=>rfl
   | some v=>
    exfalso
    refine hb'k b2 o v (h.le _ _ _ he) (λbq c0 h1 e=>?_) rfl
    rcases h.cell _ _ hq with⟨h3,_,_⟩|⟨bq',c0',h1',_,_,_,_,_,h7,_⟩
    ·rw[h3]at h1;cases h1
    ·rw[h1]at h1';cases h1'
     rw[e,h7 o]at he;cases he
 refine⟨λi=>if i=q.toNat then some (b2,c')else F i,?_⟩
 show TurnI base N b _ _
 refine⟨λk o v hv=>?_,h.fr,λi x hx=>?_,λi i' b0 c0 c0' h1 h2=>?_,λi x hx=>?_⟩
 ·have dE:k≠b2:=λe=>by subst e;rw[uk o]at hv;cases hv
  have jC:k≠b:=λe=>by subst e;rw[h.fr o]at hv;cases hv
  rw[hN k o dE (.inl jC)]
  refine fR k o v (h.le _ _ _ hv) λbq c0 h1 e=>?_
  rcases h.cell _ _ hq with⟨h3,_,_⟩|⟨bq',c0',h1',_,_,_,_,_,h7,_⟩
  ·rw[h3]at h1;cases h1
  ·rw[h1]at h1';cases h1'
   rw[e,h7 o]at hv;cases hv
 ·have xl:i < cur.length:=by have:=(zA0 hx).1;rwa [ZpC]at this
  obtain⟨y,hy⟩:∃y,cur[i]?=some y:=⟨_,zA3 xl⟩
  rw[Zt9 hy]at hx
  by_cases hi:i=q.toNat
  ·subst hi
   rw[hq]at hy;cases hy
   rw[if_pos rfl]at hx;cases hx
   refine .inr ⟨b2,c',by simp,by simp,by simpa using hc',by rw[zA1];exact Bm,λo ho=>?_,λj v hj=>?_,uk,dC.symm⟩
   ·show ∃v,Mem.addAt _ b2 _ zs b2 o=some v
    unfold Mem.addAt
    by_cases zH:0+(l.length+1)*1<=o
    ·rw[if_pos ⟨rfl,zH⟩]
     have:o - (0+(l.length+1)*1) < zs.length:=by omega
     rw[zA3 this];exact⟨_,rfl⟩
    ·rw[if_neg (λhc=>zH hc.2)]
     have hv:=bA o ((ZgJ l++[.int .i64 (p:Int)])[o]'(by simp[ZpB];omega)) (zA3 _)
     rw[Nat.zero_add]at hv
     rw[Mem.upd_other _ dC.symm]
     exact⟨_,cS _ _ _ hv⟩
   ·show Mem.addAt _ b2 _ zs b2 (0+j)=some v
    have zI:=(zA0 hj).1
    rw[ZpB,zA1,List.length_singleton]at zI
    unfold Mem.addAt
    rw[if_neg (by omega),Mem.upd_other _ dC.symm]
    rw[Zua]at hj
    exact cS _ _ _ (bA j v hj)
  ·rw[if_neg (λe=>hi e.symm)]at hx
   obtain rfl:y=x:=Option.some.inj hx
   have ul:∀x,F i=some x->∀bq c0,F q.toNat=some (bq,c0)->x.1≠bq:=λx h1 bq c0 h2 e=>by
    obtain⟨x1,x2⟩:=x
    simp only at e;subst e
    exact hi (h.ne _ _ _ _ _ h1 h2)
   rcases h.cell _ _ hy with⟨h1,h2,h3⟩|⟨bq,c0,h1,h2,h3,h4,h5,h6,h7,h8⟩
   ·refine .inl ⟨by simp only[if_neg hi];exact h1,h2,?_⟩
    rw[hN b i dC (.inr hi)]
    exact fR _ _ _ h3 xk
   ·have hk:∀bq' c0',F q.toNat=some (bq',c0')->bq≠bq':=λbq' c0' h=>ul _ h1 bq' c0' h
    have dE:bq≠b2:=by
     cases y with
     | nil=>exact absurd rfl h2
     | cons z y=>
      have:=h6 0 (.int .i64 z) rfl
      exact hb'k _ _ _ this hk
    refine .inr ⟨bq,c0,by simp only[if_neg hi];exact h1,h2,h3,?_,λo ho=>?_,λj v hj=>?_,h7,h8⟩
    ·rw[hN b i dC (.inr hi)];exact fR _ _ _ h4 xk
    ·obtain⟨v,hv⟩:=h5 o ho
     exact⟨v,by rw[hN bq o dE (.inl h8)];exact fR _ _ _ hv hk⟩
    ·rw[hN bq _ dE (.inl h8)];exact fR _ _ _ (h6 j v hj) hk
 ·have key:∀j c1,F j=some (b2,c1)->j=q.toNat:=λj c1 hj=>by
   have mB:=h.dom _ _ hj
   rcases h.cell j _ (zA3 mB)with⟨h3,_,_⟩|⟨bq,c0,g1,g2,_,_,_,g6,_,_⟩
   ·rw[h3]at hj;cases hj
   ·rw[hj]at g1;cases g1
    cases ul:F q.toNat with
    | none=>
     exfalso
     have:∃z y,cur[j]'mB=z::y:=by
      cases hc:cur[j]'mB with
      | nil=>exact absurd hc g2
      | cons z y=>exact⟨z,y,rfl⟩
     obtain⟨z,y,xm⟩:=this
     have hv:=g6 0 (.int .i64 z) (by rw[xm];rfl)
     exact hb'k _ _ _ hv (λbq c0 h1=>by rw[ul]at h1;cases h1) rfl
    | some x=>
     obtain⟨x1,x2⟩:=x
     by_cases gC:x1=b2
     ·subst gC;exact h.ne _ _ _ _ _ hj ul
     ·exfalso
      have:∃z y,cur[j]'mB=z::y:=by
       cases hc:cur[j]'mB with
       | nil=>exact absurd hc g2
       | cons z y=>exact⟨z,y,rfl⟩
      obtain⟨z,y,xm⟩:=this
      have hv:=g6 0 (.int .i64 z) (by rw[xm];rfl)
      exact hb'k _ _ _ hv (λbq c0 h1 e=>by rw[ul]at h1;cases h1;exact gC e.symm) rfl
  split at h1 <;> split at h2
  ·omega
  ·simp only[Option.some.injEq,Prod.mk.injEq]at h1
   rw[<-h1.1]at h2
   have:=key _ _ h2;omega
  ·simp only[Option.some.injEq,Prod.mk.injEq]at h2
   rw[<-h2.1]at h1
   have:=key _ _ h1;omega
  ·exact h.ne _ _ _ _ _ h1 h2
 ·rw[ZpC]
  split at hx
  ·omega
  ·exact h.dom _ _ hx
def ZAB(q:QS):T:=.node 2 q.1 q.2.1 q.2.2.1 q.2.2.2 0 0 none 0 []
def Zw4(q:QS)(c:Nat):Bool:=(ZAB q).hasB c
def QOk(q:QS):Prop:=(0<=q.1/\q.1 < 18446744073709551616)/\(0<=q.2.1/\q.2.1 < 18446744073709551616)/\(0<=q.2.2.1/\q.2.2.1 < 18446744073709551616)/\(0<=q.2.2.2/\q.2.2.2 < 18446744073709551616)
def Nf.fromL(A:Nf)(p:Int):List Int:=if p=-1 then A.first else(A.fol[p.toNat]?).getD []
def Nf.hasAt(A:Nf)(q:Int)(c:Nat):Bool:=Zw4 ((A.sets[q.toNat]?).getD zQ) c
def Nf.step1(A:Nf)(c:Nat)(f:Nat)(q:Int):Nat:=if A.hasAt q c then f|||2 ^ q.toNat else f
def Nf.stepM(A:Nf)(l:List Int)(c:Nat)(f:Nat):Nat:=l.foldl (λf p=>(A.fromL p).foldl (A.step1 c) f) f
def Nf.step(A:Nf)(l:List Int)(c:Nat):List Int:=ZAA (A.stepM l c 0)
def Nf.next(A:Nf)(again:Bool)(l:List Int)(c:Nat):List Int:=if again then -1::A.step l c else A.step l c
def Nf.run(A:Nf)(b:List Nat)(l:List Int):List Int:=b.foldl (λl c=>A.step l c) l
def Nf.runE(A:Nf)(n:Nat):Int:=if A.right=false then 171 else if 4096 < n then 3 else 0
inductive Nf.Reach (A:Nf):Nat->Prop
 | first {p:Nat} (h:(p:Int)∈A.first):A.Reach p
 | fol {p q:Nat} {l:List Int} (h:A.Reach p) (hl:A.fol[p]?=some l) (hq:(q:Int)∈l):A.Reach q
structure Bad (t:T):Prop where
 k:t.k≠0
 no:t.check≠0
structure Says (t:T)(len:Nat)(i:Int)(e:Int):Prop where
 one:t.wrong len i=e
 rg:Rg.wrong ⟨false,false,t⟩ len i=e
 all:Zze [⟨false,false,t⟩] len i=e
structure Asks (k:Nat)(t:T)(len:Nat)(i e:Int):Prop where
 Bn:Says t len i e
 zero:k<=1->Says t len 0 e
 no:e≠0
 len:len<=513
abbrev Re:=Nat->Nat->Prop
def pow(R:Re):Nat->Re
 | 0=>λi j=>i=j
 | n+1=>λi j=>∃m,R i m/\pow R n m j
mutual
def T.M(s:List Nat):T->Re
 | .node k s0 s1 s2 s3 mn mx a c l=>λi j=>
  if k=1 then i=j else if k=2 then j=i+1/\∃b,s[i]?=some b/\(T.node k s0 s1 s2 s3 mn mx a c l).hasB b=true
  else if k=3 then MC s l i j else if k=4 then MA s l i j
  else if k=5 then ∃n:Nat,mn.toNat<=n/\(mx=-1\/n<=mx.toNat)/\pow (MH s l) n i j
  else if k=6 then MH s l i j else False
def MC(s:List Nat):List T->Re
 | []=>λi j=>i=j
 | t::l=>λi j=>∃m,t.M s i m/\MC s l m j
def MA(s:List Nat):List T->Re
 | []=>λ_ _=>False
 | t::l=>λi j=>t.M s i j\/MA s l i j
def MH(s:List Nat):List T->Re
 | []=>λi j=>i=j
 | t::_=>t.M s
end
section
variable {s:List Nat}
end
def Fwd(R:Re):Prop:=∀i j,R i j->i<=j
def Sh(s s':List Nat)(R R':Re):Prop:=∀i j i',R i j->(∀p,i+p < j->s[i+p]?=s'[i'+p]?)->R' i' (i'+(j - i))
def Len(s:List Nat)(R:Re):Prop:=∀i j,R i j->i<=s.length->j<=s.length
structure Nice (s s':List Nat)(R R':Re):Prop where
 fwd:Fwd R
 sh:Sh s s' R R'
 len:Len s R
end Go.Rx
namespace Go.Rx
open Go Go.Eng Go.RowKit
set_option maxRecDepth 100000
theorem Zrb{l:List Value}{i:Nat}{v:Value}(h:i < l.length):Zau l i [v]=l.set i v:=by
 refine List.ext_getElem? λj=>?_
 unfold Zau
 simp only[List.length_cons,List.length_nil]
 rw[List.getElem?_set]
 by_cases h1:j < i
 ·rw[List.append_assoc,zA5 (by rw[List.length_take];omega),List.getElem?_take,if_pos h1,if_neg (by omega)]
 ·rw[List.append_assoc,zA4 (by rw[List.length_take];omega),List.length_take,Nat.min_eq_left (by omega)]
  by_cases h2:j=i
  ·subst h2;simp[h]
  ·rw[zA4 (by simp;omega),if_neg (by omega),List.getElem?_drop]
   congr 1
   simp;omega
def Zqw(q:QS)(c:Nat):Int:=if Zw4 q c then 1 else 0
def ZaB(q:QS):List Value:=(List.range 256).map λc=>Value.int .i64 (Zqw q c)
theorem Zal(q:QS):(ZaB q).length=256:=by simp[ZaB]
theorem Zlf(q:QS){c:Nat}(h:c < 256):(ZaB q)[c]?=some (.int .i64 (Zqw q c)):=by simp[ZaB,h]
theorem ZfY(q:QS):∀u∈ZaB q,u.oneCell'=true:=by
 intro u hu
 obtain⟨c,_,rfl⟩:=List.mem_map.1 hu
 rfl
def Ze3(q:QS)(j:Nat):Int:=if j=0 then q.1 else if j=1 then q.2.1 else if j=2 then q.2.2.1 else q.2.2.2
theorem ZmV(q:QS)(c:Nat):Zw4 q c=(Ze3 q (c / 64)).toNat.testBit (c % 64):=rfl
theorem Zfc{q:QS}(h:QOk q)(j:Nat):0<=Ze3 q j/\Ze3 q j < 18446744073709551616:=by
 obtain⟨h0,h1,h2,h3⟩:=h
 unfold Ze3
 split
 ·exact h0
 ·split
  ·exact h1
  ·split
   ·exact h2
   ·exact h3
theorem ZxU(n i:Nat):n / 2 ^ i % 2=if n.testBit i then 1 else 0:=by
 rw[Nat.testBit_eq_decide_div_mod_eq]
 have:=Nat.mod_two_eq_zero_or_one (n / 2 ^ i)
 by_cases h:n / 2 ^ i % 2=1
 ·simp[h]
 ·have h0:n / 2 ^ i % 2=0:=by omega
  simp[h0]
theorem Zzj{q r:QS}(hq:QOk q)(hr:QOk r)(h:∀c,c < 256->Zw4 q c=Zw4 r c):q=r:=by
 have key:∀j,j < 4->Ze3 q j=Ze3 r j:=λj hj=>by
  have a:=Zfc hq j
  have b:=Zfc hr j
  have e:(Ze3 q j).toNat=(Ze3 r j).toNat:=by
   apply Nat.eq_of_testBit_eq
   intro i
   by_cases hi:i < 64
   ·have:=h (64*j+i) (by omega)
    rw[ZmV,ZmV,show(64*j+i) / 64=j by omega,show(64*j+i) % 64=i by omega]at this
    exact this
   ·have p:2 ^ 64<=2 ^ i:=Nat.pow_le_pow_right (by omega) (by omega)
    rw[Nat.testBit_lt_two_pow (by omega),Nat.testBit_lt_two_pow (by omega)]
  omega
 obtain⟨q0,q1,q2,q3⟩:=q
 obtain⟨r0,r1,r2,r3⟩:=r
 have h0:=key 0 (by omega)
 have h1:=key 1 (by omega)
 have h2:=key 2 (by omega)
 have h3:=key 3 (by omega)
 simp only[Ze3]at h0 h1 h2 h3
 simp at h0 h1 h2 h3
 rw[h0,h1,h2,h3]
theorem Zrc{q r:QS}(hq:QOk q)(hr:QOk r)(h:ZaB q=ZaB r):q=r:=by
 refine Zzj hq hr λc hc=>?_
 have h1:=Zlf q hc
 rw[h,Zlf r hc]at h1
 simp only[Option.some.injEq,Value.int.injEq,true_and,Zqw]at h1
 cases h2:Zw4 q c <;> cases h3:Zw4 r c <;> rw[h2,h3]at h1 <;> simp at h1 ⊢
def T.q(t:T):QS:=(t.s0,t.s1,t.s2,t.s3)
def rcs(k:Int)(q:QS)(mn mx:Int)(a:Option Addr)(n c:Nat):List Value:=.int .i64 k::(ZaB q++[.int .i64 mn,.int .i64 mx,.slice a n c])
theorem ZeW(k:Int)(q:QS)(mn mx:Int)(a:Option Addr)(n c:Nat):(rcs k q mn mx a n c).length=260:=by simp[rcs,Zal]
theorem Zow(k:Int)(q:QS)(mn mx:Int)(a:Option Addr)(n c:Nat):(rcs k q mn mx a n c)[0]?=some (.int .i64 k):=rfl
theorem Zwd(k:Int)(q:QS)(mn mx:Int)(a:Option Addr)(n c:Nat):(rcs k q mn mx a n c)[257]?=some (.int .i64 mn):=by
 rw[rcs,List.getElem?_cons_succ,zA4 (by rw[Zal];omega),Zal];rfl
theorem Zwe(k:Int)(q:QS)(mn mx:Int)(a:Option Addr)(n c:Nat):(rcs k q mn mx a n c)[258]?=some (.int .i64 mx):=by
 rw[rcs,List.getElem?_cons_succ,zA4 (by rw[Zal];omega),Zal];rfl
theorem ZpD(k:Int)(q:QS)(mn mx:Int)(a:Option Addr)(n c:Nat):(rcs k q mn mx a n c)[259]?=some (.slice a n c):=by
 rw[rcs,List.getElem?_cons_succ,zA4 (by rw[Zal];omega),Zal];rfl
theorem Zkr(k:Int)(q:QS)(mn mx:Int)(a:Option Addr)(n c:Nat):((rcs k q mn mx a n c).drop 1).take 256=ZaB q:=by
 rw[rcs,List.drop_succ_cons,List.drop_zero,List.take_left' (Zal q)]
theorem ZpE(k:Int)(q:QS)(mn mx:Int)(a:Option Addr)(n c:Nat):∀u∈rcs k q mn mx a n c,u.oneCell'=true:=by
 intro u hu
 unfold rcs at hu
 rcases List.mem_cons.1 hu with rfl|hu
 ·rfl
 ·rcases List.mem_append.1 hu with hu|hu
  ·exact ZfY q u hu
  ·simp only[List.mem_cons,List.not_mem_nil,or_false]at hu
   rcases hu with rfl|rfl|rfl <;> rfl
mutual
def RefT(m:Mem):T->List Value->Prop
 | .node k s0 s1 s2 s3 mn mx _ _ l,cs=>OkN k s0 s1 s2 s3 mn mx/\l.length<=1000000/\∃a c css,cs=rcs k (s0,s1,s2,s3) mn mx a l.length c/\rowRd m a css.flatten/\RefAt m l css/\l.length<=c
def RefAt(m:Mem):List T->List (List Value)->Prop
 | [],css=>css=[]
 | t::l,css=>∃cs r,css=cs::r/\RefT m t cs/\RefAt m l r
end
theorem ZaX{m:Mem}{t:T}{cs:List Value}:RefT m t cs↔(OkN t.k t.s0 t.s1 t.s2 t.s3 t.mn t.mx/\t.subs.length<=1000000/\∃a c css,cs=rcs t.k t.q t.mn t.mx a t.subs.length c/\rowRd m a css.flatten/\RefAt m t.subs css/\t.subs.length<=c):=by
 cases t;simp only[RefT,T.k,T.s0,T.s1,T.s2,T.s3,T.mn,T.mx,T.subs,T.q]
theorem ZsK{t:T}(h:OkN t.k t.s0 t.s1 t.s2 t.s3 t.mn t.mx):QOk t.q:=⟨h.s0,h.s1,h.s2,h.s3⟩
theorem RefT.len{m:Mem}{t:T}{cs:List Value}(h:RefT m t cs):cs.length=260:=by
 obtain⟨_,_,a,c,css,rfl,_⟩:=ZaX.1 h
 exact ZeW _ _ _ _ _ _ _
theorem RefT.one{m:Mem}{t:T}{cs:List Value}(h:RefT m t cs):∀u∈cs,u.oneCell'=true:=by
 obtain⟨_,_,a,c,css,rfl,_⟩:=ZaX.1 h
 exact ZpE _ _ _ _ _ _ _
theorem RefAt.len{m:Mem}:∀{l:List T} {css:List (List Value)},RefAt m l css->css.length=l.length
 | [],css,h=>by simp only[RefAt]at h;rw[h];rfl
 | t::l,css,h=>by
  simp only[RefAt]at h
  obtain⟨cs,r,rfl,_,h2⟩:=h
  simp[h2.len]
theorem RefAt.get{m:Mem}:∀{l:List T} {css:List (List Value)} {i:Nat} {t:T},RefAt m l css->l[i]?=some t->∃cs,css[i]?=some cs/\RefT m t cs
 | [],css,i,t,h,hi=>by simp at hi
 | t::l,css,i,u,h,hi=>by
  simp only[RefAt]at h
  obtain⟨cs,r,rfl,h1,h2⟩:=h
  cases i with
  | zero=>simp at hi;subst hi;exact⟨cs,rfl,h1⟩
  | succ i=>simpa using h2.get (i:=i) (by simpa using hi)
theorem RefAt.all{m:Mem}:∀{l:List T} {css:List (List Value)},RefAt m l css->∀cs∈css,cs.length=260
 | [],css,h,cs,hc=>by simp only[RefAt]at h;rw[h]at hc;cases hc
 | t::l,css,h,cs,hc=>by
  simp only[RefAt]at h
  obtain⟨cs',r,rfl,h1,h2⟩:=h
  rcases List.mem_cons.1 hc with rfl|hc
  ·exact h1.len
  ·exact h2.all cs hc
theorem RefAt.snoc{m:Mem}:∀{l:List T} {css:List (List Value)} {t:T} {cs:List Value},RefAt m l css->RefT m t cs->RefAt m (l++[t]) (css++[cs])
 | [],css,t,cs,h,h1=>by
  simp only[RefAt]at h
  subst h
  simp only[List.nil_append,RefAt]
  exact⟨cs,[],rfl,h1,rfl⟩
 | x::l,css,t,cs,h,h1=>by
  simp only[RefAt]at h
  obtain⟨cs',r,rfl,h2,h3⟩:=h
  simp only[List.cons_append,RefAt]
  exact⟨cs',r++[cs],rfl,h2,h3.snoc h1⟩
mutual
theorem RefT.mono{m m':Mem}(k:m.le m'):∀{t:T} {cs:List Value},RefT m t cs->RefT m' t cs
 | .node _ _ _ _ _ _ _ _ _ l,cs,h=>by
  simp only[RefT]at h ⊢
  obtain⟨h1,h2,a,c,css,h3,h4,h5,h6⟩:=h
  exact⟨h1,h2,a,c,css,h3,h4.mono k,RefAt.mono k h5,h6⟩
theorem RefAt.mono{m m':Mem}(k:m.le m'):∀{l:List T} {css:List (List Value)},RefAt m l css->RefAt m' l css
 | [],css,h=>by simpa only[RefAt]using h
 | t::l,css,h=>by
  simp only[RefAt]at h ⊢
  obtain⟨cs,r,e,h1,h2⟩:=h
  exact⟨cs,r,e,RefT.mono k h1,RefAt.mono k h2⟩
end
theorem ZbO{css:List (List Value)}(h:∀cs∈css,cs.length=260):css.flatten.length=css.length*260:=by
 induction css with
 | nil=>rfl
 | cons cs r ih=>
  rw[List.flatten_cons,zA1,h cs (by simp),ih λx hx=>h x (by simp[hx]),List.length_cons];omega
theorem ZxV{css:List (List Value)}(h:∀cs∈css,cs.length=260){i:Nat}{cs:List Value}(hi:css[i]?=some cs){j:Nat}{v:Value}(hv:cs[j]?=some v):css.flatten[i*260+j]?=some v:=by
 induction css generalizing i with
 | nil=>simp at hi
 | cons c r ih=>
  have hj:j < 260:=by have:=(zA0 hv).1;rw[h cs (zA2 hi)]at this;exact this
  have hc:=h c (by simp)
  rw[List.flatten_cons]
  cases i with
  | zero=>
   simp at hi;subst hi
   rw[Nat.zero_mul,Nat.zero_add,zA5 (by omega)];exact hv
  | succ i=>
   rw[zA4 (by omega),hc,show(i+1)*260+j - 260=i*260+j by omega]
   exact ih (λx hx=>h x (by simp[hx])) (by simpa using hi)
theorem Zfd{m:Mem}{l:List T}{css:List (List Value)}(h:RefAt m l css):∀u∈css.flatten,u.oneCell'=true:=by
 intro u hu
 obtain⟨cs,hc,hu⟩:=List.mem_flatten.1 hu
 obtain⟨i,hi⟩:=List.getElem?_of_mem hc
 obtain⟨t,ht⟩:∃t,l[i]?=some t:=⟨_,zA3 (by have:=(zA0 hi).1;have:=h.len;omega)⟩
 obtain⟨cs',h1,h2⟩:=h.get ht
 rw[hi]at h1;cases h1
 exact h2.one u hu
theorem ZbZ{m:Mem}{a:Option Addr}{l:List T}{css:List (List Value)}(hr:rowRd m a css.flatten)(h:RefAt m l css){i:Nat}{t:T}(hi:l[i]?=some t):∃b o cs,a=some ⟨b,o,none⟩/\m.reads b (o+i*260) cs/\RefT m t cs:=by
 obtain⟨cs,h1,h2⟩:=h.get hi
 rcases hr with hr|⟨b,o,e,hr⟩
 ·have:=ZbO h.all
  rw[hr]at this
  have:=(zA0 h1).1
  simp at *;omega
 ·exact⟨b,o,cs,e,λj v hv=>by have:=hr _ v (ZxV h.all h1 hv);rwa [<-Nat.add_assoc]at this,h2⟩
mutual
def RepW(m:Mem):T->Prop
 | .node k s0 s1 s2 s3 mn mx a _ l=>l.length<=9223372036854775807/\(l=[]\/∃b o,a=some ⟨b,o,none⟩/\RepWAt m b o l)/\OkN k s0 s1 s2 s3 mn mx
def RepWAt(m:Mem)(b:Nat):Nat->List T->Prop
 | _,[]=>True
 | o,t::l=>m.reads b o t.cs/\RepW m t/\RepWAt m b (o+8) l
end
theorem ZsL{m:Mem}{t:T}:RepW m t↔(t.subs.length<=9223372036854775807/\(t.subs=[]\/∃b o,t.a=some ⟨b,o,none⟩/\RepWAt m b o t.subs)/\OkN t.k t.s0 t.s1 t.s2 t.s3 t.mn t.mx):=by
 cases t;simp only[RepW,T.k,T.s0,T.s1,T.s2,T.s3,T.mn,T.mx,T.subs,T.a]
theorem RepWAt.get{m:Mem}{b:Nat}:∀{l:List T} {o i:Nat} {t:T},RepWAt m b o l->l[i]?=some t->m.reads b (o+i*8) t.cs/\RepW m t
 | [],o,i,t,h,hi=>by simp at hi
 | x::l,o,0,t,h,hi=>by
  simp at hi;subst hi
  simp only[RepWAt]at h
  simpa using⟨h.1,h.2.1⟩
 | x::l,o,i+1,t,h,hi=>by
  simp only[RepWAt]at h
  have:=h.2.2.get (i:=i) (by simpa using hi)
  rw[show o+(i+1)*8=o+8+i*8 by omega]
  exact this
theorem ZpF{m:Mem}{b:Nat}:∀{l:List T} {o:Nat},(∀(i:Nat)(t:T),l[i]?=some t->m.reads b (o+i*8) t.cs/\RepW m t)->RepWAt m b o l
 | [],o,h=>by simp only[RepWAt]
 | x::l,o,h=>by
  simp only[RepWAt]
  have h0:=h 0 x rfl
  rw[Nat.zero_mul,Nat.add_zero]at h0
  refine⟨h0.1,h0.2,ZpF λi t hi=>?_⟩
  have:=h (i+1) t (by simpa using hi)
  rwa [show o+(i+1)*8=o+8+i*8 by omega]at this
mutual
theorem RepW.mono{m m':Mem}(h:m.le m'):∀t:T,RepW m t->RepW m' t
 | .node _ _ _ _ _ _ _ a _ l,hr=>by
  simp only[RepW]at *
  exact⟨hr.1,hr.2.1.imp id λ⟨b,o,e,k⟩=>⟨b,o,e,RepWAt.mono h l o k⟩,hr.2.2⟩
theorem RepWAt.mono{m m':Mem}(h:m.le m'){b:Nat}:∀(l:List T)(o:Nat),RepWAt m b o l->RepWAt m' b o l
 | [],o,_=>by simp only[RepWAt]
 | t::l,o,hr=>by
  simp only[RepWAt]at *
  exact⟨λj v hv=>h _ _ _ (hr.1 j v hv),RepW.mono h t hr.2.1,RepWAt.mono h l (o+8) hr.2.2⟩
end
def ZxW(t:T):Bool:=decide (1<=t.k)&&(decide (t.k<=6)&&((t.k == 2) == !t.setZ))&&((if t.k=5 then decide (0<=t.mn/\t.mn<=16)&&(t.mx == -1||(decide (0 < t.mx)&&(decide (t.mx < 17)&&(decide (t.mn<=t.mx)&&!(t.mn == 1&&t.mx == 1)))))else t.mn == 0&&t.mx == 0) &&
 ((if t.k < 3 then t.subs.length == 0 else if t.k < 5 then decide (2<=t.subs.length)else t.subs.length == 1)))
def Zlg(k:Int)(x:T):Bool:=!((k == 3&&(x.k == 1||x.k == 3))||(k == 4&&x.k == 4)||(k == 5&&x.k == 1))
theorem Zox(k:Int)(l:List T)(h:∀x:T,Zlg k x=true):l.all (Zlg k)=true:=List.all_eq_true.2 λx _=>h x
theorem ZAC(l:List T):l.all (Zlg 3)=(!(l.any λx=>x.k == 1)&&!(l.any λx=>x.k == 3)):=by
 induction l with
 | nil=>rfl
 | cons x l ih=>
  rw[List.all_cons,List.any_cons,List.any_cons,ih]
  have:Zlg 3 x=(!(x.k == 1)&&!(x.k == 3)):=by unfold Zlg;cases x.k == 1 <;> cases x.k == 3 <;> simp
  rw[this]
  cases x.k == 1 <;> cases x.k == 3 <;> simp
theorem ZAD(l:List T):l.all (Zlg 4)=!(l.any λx=>x.k == 4):=by
 induction l with
 | nil=>rfl
 | cons x l ih=>
  rw[List.all_cons,List.any_cons,ih]
  have:Zlg 4 x=!(x.k == 4):=by unfold Zlg;cases x.k == 4 <;> simp
  rw[this]
  cases x.k == 4 <;> simp
theorem ZAE(l:List T):l.all (Zlg 5)=!(l.any λx=>x.k == 1):=by
 induction l with
 | nil=>rfl
 | cons x l ih=>
  rw[List.all_cons,List.any_cons,ih]
  have:Zlg 5 x=!(x.k == 1):=by unfold Zlg;cases x.k == 1 <;> simp
  rw[this]
  cases x.k == 1 <;> simp
theorem ZAF(mn mx:Int):(decide (0<=mn/\mn<=16)&&(mx == -1||(decide (0 < mx)&&(decide (mx < 17)&&(decide (mn<=mx)&&!(mn == 1&&mx == 1))))))=Zb7 mn mx:=by
 unfold Zb7
 rw[Bool.eq_iff_iff]
 simp only[zA7,Bool.or_eq_true,Bool.not_eq_true',decide_eq_true_eq,beq_iff_eq,Bool.or_eq_false_iff,Bool.and_eq_false_iff,decide_eq_false_iff_not,beq_eq_false_iff_ne,ge_iff_le]
 omega
theorem Zrd(t:T):(ZxW t&&t.subs.all (Zlg t.k))=t.right:=by
 have len0:(t.subs.length == 0)=!decide (0 < t.subs.length):=by
  rw[Bool.eq_iff_iff];simp
 unfold ZxW T.right T.has
 rw[ZAF]
 by_cases h1:t.k=1
 ·rw[Zox t.k t.subs (λx=>by unfold Zlg;rw[h1];simp),h1,len0]
  cases t.setZ <;> cases decide (0 < t.subs.length) <;> cases hm:t.mn == 0 <;> cases hx:t.mx == 0 <;> simp[bne,hm,hx]
 by_cases h2:t.k=2
 ·rw[Zox t.k t.subs (λx=>by unfold Zlg;rw[h2];simp),h2,len0]
  cases t.setZ <;> cases decide (0 < t.subs.length) <;> cases hm:t.mn == 0 <;> cases hx:t.mx == 0 <;> simp[bne,hm,hx]
 have k2:(t.k == 2)=false:=by simpa using h2
 by_cases h3:t.k=3
 ·rw[h3,ZAC]
  cases t.setZ <;> cases hm:t.mn == 0 <;> cases hx:t.mx == 0 <;> simp[bne,hm,hx,Nat.succ_le_iff]
 by_cases h4:t.k=4
 ·rw[h4,ZAD]
  cases t.setZ <;> cases hm:t.mn == 0 <;> cases hx:t.mx == 0 <;> simp[bne,hm,hx,Nat.succ_le_iff]
 by_cases h5:t.k=5
 ·rw[h5,ZAE]
  cases t.setZ <;> cases Zb7 t.mn t.mx <;> cases t.subs.length == 1 <;> simp[bne]
 by_cases h6:t.k=6
 ·rw[Zox t.k t.subs (λx=>by unfold Zlg;rw[h6];simp),h6]
  cases t.setZ <;> cases hm:t.mn == 0 <;> cases hx:t.mx == 0 <;> simp[bne,hm,hx]
 have:(decide (1<=t.k)&&decide (t.k<=6))=false:=by
  rw[Bool.and_eq_false_iff];simp;omega
 have k6:(t.k == 6)=false:=by simpa using h6
 rw[if_neg h1,if_neg h2,if_neg h3,if_neg h4,if_neg (c:=t.k=5) h5,k6]
 simp only[Bool.false_and,Bool.and_false]
 rw[<-Bool.and_assoc (decide (1<=t.k)),this]
 simp
 intro _ _ _ h
 exact absurd h h5
def Ztq(t:T)(most:Int):Int:=if(t.nodes.length:Int)<=most then t.nodes.length else most+1
def Znz(t:T)(most:Int)(k:Nat):Int:=if((1+(Zaq (t.subs.take k)).length:Nat):Int)<=most then((1+(Zaq (t.subs.take k)).length:Nat):Int)else most+1
theorem ZpG(t:T){most:Int}(h:0<=most):Znz t most 0=1:=by
 unfold Znz
 simp only[List.take_zero,Zaq,List.length_nil]
 split <;> omega
theorem ZhR{l:List T}(k:Nat):(Zaq (l.take k)).length<=(Zaq l).length:=by
 have e:Zaq l=Zaq (l.take k)++Zaq (l.drop k):=by rw[<-ZcO,List.take_append_drop]
 rw[e,zA1];omega
theorem ZpH{t x:T}{most:Int}{k:Nat}(h:t.subs[k]?=some x)(hs:Znz t most k<=most):Znz t most (k+1)=Znz t most k+Ztq x (most - Znz t most k):=by
 have hk:Znz t most k=((1+(Zaq (t.subs.take k)).length:Nat):Int):=by
  unfold Znz at hs ⊢
  split at hs
  ·rename_i h1;rw[if_pos h1]
  ·omega
 rw[hk]at hs ⊢
 unfold Znz Ztq
 rw[Zkl h,zA1]
 split <;> split <;> omega
theorem ZpI{t:T}{most:Int}{k:Nat}(hs:most < Znz t most k):Znz t most k=Ztq t most:=by
 have h1:=ZhR (l:=t.subs) k
 have h2:t.nodes.length=1+(Zaq t.subs).length:=by rw[Zbf,List.length_cons];omega
 unfold Znz at hs ⊢
 unfold Ztq
 split at hs
 ·omega
 ·rename_i h3
  rw[if_neg h3,if_neg (by omega)]
theorem ZsM(t:T)(most:Int):Znz t most t.subs.length=Ztq t most:=by
 have h2:t.nodes.length=1+(Zaq t.subs).length:=by rw[Zbf,List.length_cons];omega
 unfold Znz Ztq
 rw[List.take_length,h2]
theorem Zvo(t:T){most:Int}(h:0<=most):1<=Ztq t most/\Ztq t most<=most+1:=by
 have h2:t.nodes.length=1+(Zaq t.subs).length:=by rw[Zbf,List.length_cons];omega
 unfold Ztq
 split <;> omega
theorem Zvp(t:T){most:Int}(h:0<=most)(k:Nat):1<=Znz t most k/\Znz t most k<=most+1:=by
 unfold Znz
 split <;> omega
theorem Zre(t:T):decide (Ztq t 10000 < 10001)=t.light:=by
 unfold Ztq T.light
 rw[decide_eq_decide]
 split <;> omega
theorem Zub(t:T):Ztq t 10000=t.size:=by
 unfold Ztq T.size T.light
 by_cases h:t.nodes.length<=10000
 ·rw[if_pos (by omega),if_pos (by simpa using h)]
 ·rw[if_neg (by omega),if_neg (by simpa using h)];rfl
theorem Zwf(t:T):t.good=(ZxW t&&t.subs.all λx=>Zlg t.k x&&x.good):=by
 have e:=ZdP t
 have e2:∀l:List T,(l.all λx=>Zlg t.k x&&x.good)=(l.all (Zlg t.k)&&l.all T.good):=by
  intro l
  induction l with
  | nil=>rfl
  | cons x l ih=>
   simp only[List.all_cons,ih]
   cases Zlg t.k x <;> cases x.good <;> simp
 rw[e,e2,<-Zrd,Bool.and_assoc]
def bV(v:Bool):Value:=.int .i64 (if v then 1 else 0)
def ZyG(g:Nat->Bool)(n:Nat):List Value:=(List.range n).map λj=>bV (g j)
theorem Zwg(g:Nat->Bool)(n:Nat):(ZyG g n).length=n:=by simp[ZyG]
theorem ZmW(g:Nat->Bool){n j:Nat}(h:j < n):(ZyG g n)[j]?=some (bV (g j)):=by simp[ZyG,h]
theorem Zrf{g h:Nat->Bool}{n:Nat}(e:∀j,j < n->g j=h j):ZyG g n=ZyG h n:=by
 unfold ZyG
 refine List.map_congr_left λj hj=>?_
 rw[e j (List.mem_range.1 hj)]
def ZyH(bs:Nat->Nat)(n k:Nat):List Value:=(List.range k).map λi=>.slice (some ⟨bs i,0,none⟩) n n
theorem Zwh(bs:Nat->Nat)(n k:Nat):(ZyH bs n k).length=k:=by simp[ZyH]
theorem ZxX(bs:Nat->Nat)(n:Nat){i k:Nat}(h:i < k):(ZyH bs n k)[i]?=some (.slice (some ⟨bs i,0,none⟩) n n):=by simp[ZyH,h]
theorem Zuc(bs:Nat->Nat)(n k b:Nat):ZyH (λi=>if i=k then b else bs i) n (k+1)=ZyH bs n k++[.slice (some ⟨b,0,none⟩) n n]:=by
 unfold ZyH
 rw[List.range_succ,List.map_append]
 congr 1
 ·refine List.map_congr_left λi hi=>?_
  have:=List.mem_range.1 hi
  simp only[if_neg (show ¬i=k by omega)]
 ·simp
structure Tab (m:Mem)(g:Nat->Nat->Bool)(n k:Nat)(a:Option Addr)(bs:Nat->Nat):Prop where
 out:rowRd m a (ZyH bs n k)
 row:∀i,i < k->m.reads (bs i) 0 (ZyG (g i) n)
 inj:∀i j,i < k->j < k->bs i=bs j->i=j
 sep:∀b o,a=some ⟨b,o,none⟩->∀i,i < k->bs i≠b
def TabNew(m:Mem)(k:Nat)(a:Option Addr)(bs:Nat->Nat):Prop:=(∀i,i < k->m.free (bs i))/\∀b o,a=some ⟨b,o,none⟩->m.free b
theorem Zrg{m m':Mem}(h:m.le m'){b:Nat}(hf:m'.free b):m.free b:=λo=>by
 cases he:m b o with
 | none=>rfl
 | some v=>have:=h _ _ _ he;rw[hf o]at this;cases this
theorem ZAG{m M:Mem}{b b' o:Nat}{v:Value}(hk:m b o=some v)(h:m.le M)(hf:M.free b'):b≠b':=λe=>by
 subst e
 have:=h _ _ _ hk
 rw[hf o]at this;cases this
theorem TabNew.less{m m':Mem}(h:m.le m'){k:Nat}{a:Option Addr}{bs:Nat->Nat}(hn:TabNew m' k a bs):TabNew m k a bs:=⟨λi hi=>Zrg h (hn.1 i hi),λb o e=>Zrg h (hn.2 b o e)⟩
section
variable {m m':Mem} {g:Nat->Nat->Bool} {n k:Nat} {a:Option Addr} {bs:Nat->Nat}
theorem Tab.mono(h:Tab m g n k a bs)(hm:m.le m'):Tab m' g n k a bs:=⟨h.out.mono hm,λi hi j v hv=>hm _ _ _ (h.row i hi j v hv),h.inj,h.sep⟩
theorem Tab.get(h:Tab m g n k a bs){i:Nat}(hi:i < k):∃b o,a=some ⟨b,o,none⟩/\m b (o+i*1)=some (.slice (some ⟨bs i,0,none⟩) n n):=by
 rcases h.out with e|⟨b,o,e,hr⟩
 ·have:=Zwh bs n k
  rw[e]at this;simp at this;omega
 ·exact⟨b,o,e,by have:=hr i _ (ZxX bs n hi);rwa [Nat.mul_one]⟩
theorem Tab.cell(h:Tab m g n k a bs){i j:Nat}(hi:i < k)(hj:j < n):m (bs i) (0+j*1)=some (bV (g i j)):=by
 have:=h.row i hi j _ (ZmW (g i) hj)
 rwa [Nat.mul_one]
theorem Tab.congr{g':Nat->Nat->Bool}(h:Tab m g n k a bs)(e:∀i j,i < k->j < n->(g i j=true↔g' i j=true)):Tab m g' n k a bs:=
 ⟨h.out,λi hi=>by rw[<-Zrf (g:=g i) (h:=g' i) λj hj=>Bool.eq_iff_iff.2 (e i j hi hj)];exact h.row i hi,h.inj,h.sep⟩
theorem Zud{a:Option Addr}{xs:List Value}{b p:Nat}{ys:List Value}(h:rowRd m a xs)(hn:∀b' o,a=some ⟨b',o,none⟩->b'≠b):rowRd (m.upd b p ys) a xs:=by
 rcases h with h|⟨b',o,e,h⟩
 ·exact .inl h
 ·refine .inr ⟨b',o,e,λj v hv=>?_⟩
  rw[Mem.upd_other _ (hn b' o e)];exact h j v hv
theorem Tab.upd(h:Tab m g n k a bs){i j:Nat}(hi:i < k)(hj:j < n)(v:Bool):Tab (m.upd (bs i) (0+j*1) [bV v]) (λx y=>if x=i/\y=j then v else g x y) n k a bs:=by
 refine⟨Zud h.out λb o e he=>h.sep b o e i hi he.symm,λx hx y u hu=>?_,h.inj,h.sep⟩
 have hy:y < n:=by have:=(zA0 hu).1;rwa [Zwg]at this
 rw[ZmW _ hy]at hu
 cases hu
 by_cases e:x=i
 ·subst e
  simp only[Mem.upd,List.length_cons,List.length_nil,true_and]
  by_cases e2:y=j
  ·subst e2
   rw[if_pos (by omega),if_pos rfl,show 0+y - (0+y*1)=0 by omega];rfl
  ·rw[if_neg (by omega),if_neg e2]
   exact h.row x hx y _ (ZmW _ hy)
 ·rw[Mem.upd_other _ (λhe=>e (h.inj x i hx hi he)),if_neg (λhc=>e hc.1)]
  exact h.row x hx y _ (ZmW _ hy)
theorem Tab.off(h:Tab m' g n k a bs){m1:Mem}(hn:TabNew m1 k a bs){Y:Nat->Prop}(hY:∀b,Y b->∃o v,m1 b o=some v):Tab (m'.off Y) g n k a bs:=by
 have bN:∀b,m1.free b->¬Y b:=λb hf hy=>by
  obtain⟨o,v,hv⟩:=hY b hy
  rw[hf o]at hv;cases hv
 refine⟨?_,λi hi j v hv=>by rw[Mem.off_at (bN _ (hn.1 i hi))];exact h.row i hi j v hv,h.inj,h.sep⟩
 rcases h.out with e|⟨b,o,e,hr⟩
 ·exact .inl e
 ·exact .inr ⟨b,o,e,λj v hv=>by rw[Mem.off_at (bN _ (hn.2 b o e))];exact hr j v hv⟩
theorem Tab.zero(hm:Mem):Tab hm g n 0 none bs:=⟨.inl rfl,λi hi=>by omega,λi j hi=>by omega,λb o e=>by cases e⟩
theorem Tab.snoc{M M0:Mem}{b:Nat}{a':Option Addr}(h:Tab m g n k a bs)(h0:k=0->a=none)(hn:0 < n)(hb:m.free b)(hM:m.le M0)(vM:M0.le M)(aP:M0.reads b 0 (ZyG (g k) n))(eE:rowRd M a' (ZyH bs n k++[.slice (some ⟨b,0,none⟩) n n]))
  (ha:a'=none\/∃b' o,a'=some ⟨b',o,none⟩/\(a=a'\/(o=0/\M0.free b'))):Tab M g n (k+1) a' (λi=>if i=k then b else bs i):=by
 have kn:∀i,i < k->m (bs i) 0=some (bV (g i 0)):=λi hi=>by have:=h.cell hi (j:=0) hn;simpa using this
 have kb:M0 b 0=some (bV (g k 0)):=by have:=aP 0 _ (ZmW _ hn);simpa using this
 refine⟨by rw[Zuc];exact eE,λi hi=>?_,λi j hi hj e=>?_,λb' o e i hi=>?_⟩
 ·by_cases e:i=k
  ·subst e
   rw[if_pos rfl]
   exact λj v hv=>vM _ _ _ (aP j v hv)
  ·rw[if_neg e]
   exact λj v hv=>vM _ _ _ (hM _ _ _ (h.row i (by omega) j v hv))
 ·by_cases e1:i=k
  ·by_cases e2:j=k
   ·omega
   ·rw[if_pos e1,if_neg e2]at e
    exact absurd e.symm (ZAG (kn j (by omega)) (Mem.le_refl _) hb)
  ·by_cases e2:j=k
   ·rw[if_neg e1,if_pos e2]at e
    exact absurd e (ZAG (kn i (by omega)) (Mem.le_refl _) hb)
   ·rw[if_neg e1,if_neg e2]at e
    exact h.inj i j (by omega) (by omega) e
 ·rcases ha with ha|⟨b2,o2,ha,kD⟩
  ·rw[ha]at e;cases e
  rw[e]at ha
  cases ha
  rcases kD with kD|⟨_,kD⟩
  ·by_cases e1:i=k
   ·rw[if_pos e1]
    rintro rfl
    rcases Nat.eq_zero_or_pos k with hk|hk
    ·rw[h0 hk,e]at kD;cases kD
    ·obtain⟨b3,o3,e3,h3⟩:=h.get hk
     rw[e3,e]at kD
     cases kD
     rw[hb]at h3;cases h3
   ·rw[if_neg e1]
    exact h.sep _ _ (kD.trans e) i (by omega)
  ·by_cases e1:i=k
   ·rw[if_pos e1]
    exact ZAG kb (Mem.le_refl _) kD
   ·rw[if_neg e1]
    exact ZAG (kn i (by omega)) hM kD
end
theorem ZiW:∀(n:Nat)(t:T),t.nodes.length<=n->t.good=true->(ZaF t).2.length+(ZaF t).1.nodes.length<=t.nodes.length
 | 0,t,hn,_=>by have:=Zb9 t;omega
 | n+1,t,hn,hg=>by
  by_cases h:(Za1 t).g<=0
  ·rw[ZcE h]
   simp[ZdF]
  ·have hb:=ZdT hg (by omega)
   rw[ZfX hg h]
   have ih:=ZiW n (Za1 t).t (by omega) hb.1
   simp only[List.length_cons]
   omega
theorem ZmX{t:T}(hg:t.good=true):(ZaF t).2.length < t.nodes.length:=by
 have h:=ZiW _ t (Nat.le_refl _) hg
 have:=Zb9 (ZaF t).1
 omega
def LeB(b c:C4):Prop:=b.a < c.a\/(b.a=c.a/\(b.f < c.f\/(b.f=c.f/\c.t<=b.t)))
structure TopAll (t:T)(b:Top)(P:List C4):Prop where
 all:∀c∈P,Zec t c<=b.g/\(0 < b.g->Zec t c=b.g->LeB b.c c)
 is:b.g=0\/(0 < b.g/\b.c∈P)
theorem ZsN(n f:Nat):∀(l s:List T)(to:Nat),(runE n f s to l).length<=l.length
 | [],s,to=>Nat.le_refl _
 | x::l,s,to=>by
  rw[runE]
  split
  ·simp
  ·simp only[List.length_cons]
   have:=ZsN n f l (s.take (ZaH s (Zao x))) (to+1)
   omega
theorem ZpJ(n:Nat):∀(l:List T)(f:Nat),(Zev n f l).length<=l.length*l.length
 | [],f=>Nat.le_refl _
 | x::l,f=>by
  rw[Zev,zA1,List.length_cons]
  have h1:=ZsN n f l (Zao x) (f+2)
  have h2:=ZpJ n l (f+1)
  rw[Nat.add_mul,Nat.mul_add]
  omega
def Zjf:List T->Nat
 | []=>0
 | a::l=>a.subs.length+Zjf l
theorem ZhS(l r:List T):Zjf (l++r)=Zjf l+Zjf r:=by
 induction l with
 | nil=>simp[Zjf]
 | cons x l ih=>simp only[List.cons_append,Zjf,ih];omega
theorem ZpK:∀(l:List T)(n:Nat),(ZeU n l).length<=Zjf l*Zjf l
 | [],n=>Nat.le_refl _
 | a::l,n=>by
  rw[ZeU,zA1,Zjf]
  have h1:=ZpJ n a.subs 0
  have h2:=ZpK l (n+1)
  rw[Nat.add_mul,Nat.mul_add,Nat.mul_add]
  omega
mutual
theorem Zlh:∀t:T,Zjf t.alts+1<=t.nodes.length
 | .node k s0 s1 s2 s3 mn mx a c l=>by
  have h:=ZmY l
  rw[Zb9,T.alts,ZhS]
  simp only[T.subs]
  split
  ·simp only[Zjf,T.subs];omega
  ·simp only[Zjf];omega
theorem ZmY:∀l:List T,Zjf (Zax l)+l.length<=szL l
 | []=>Nat.le_refl _
 | t::l=>by
  have h1:=Zlh t
  have h2:=ZmY l
  rw[ZaW,Zax,ZhS,List.length_cons]
  omega
end
theorem Zwi{t:T}{n:Nat}(h:t.nodes.length<=n+1):t.cuts.length<=n*n:=by
 have h1:=Zlh t
 have h2:=ZpK t.alts 0
 exact Nat.le_trans h2 (Nat.mul_le_mul (by omega) (by omega))
theorem Zue{l:List T}{x:T}(h:x∈l):x.subs.length<=Zjf l:=by
 induction l with
 | nil=>simp at h
 | cons y l ih=>
  rw[Zjf]
  rcases List.mem_cons.1 h with rfl|h
  ·omega
  ·have:=ih h;omega
theorem ZsO:∀(t x:T),x∈t.nodes->x.nodes.length<=t.nodes.length
 | .node k s0 s1 s2 s3 mn mx a c l,x,h=>by
  have hl:=ZhR l
  simp only[T.nodes,List.mem_cons]at h
  rcases h with rfl|h
  ·exact Nat.le_refl _
  ·have:=hl x h
   rw[Zb9 (T.node k s0 s1 s2 s3 mn mx a c l)]
   simp only[T.subs]
   omega
where ZhR:∀(l:List T)(x:T),x∈Zaq l->x.nodes.length<=szL l
 | [],x,h=>by simp[Zaq]at h
 | t::l,x,h=>by
  simp only[Zaq,List.mem_append]at h
  rw[ZaW]
  rcases h with h|h
  ·have:=ZsO t x h;omega
  ·have:=ZhR l x h;omega
mutual
theorem Zfr{m:Mem}:∀(t:T)(cs:List Value),RefT m t.er cs↔RefT m t cs
 | .node k s0 s1 s2 s3 mn mx a c l,cs=>by
  have hl:(erL l).length=l.length:=by rw[Zdz,List.length_map]
  simp only[T.er,RefT,hl]
  constructor
  ·rintro⟨h1,h2,a,c,css,e,hr,ha,hc⟩
   exact⟨h1,h2,a,c,css,e,hr,(ZgK l css).1 ha,hc⟩
  ·rintro⟨h1,h2,a,c,css,e,hr,ha,hc⟩
   exact⟨h1,h2,a,c,css,e,hr,(ZgK l css).2 ha,hc⟩
theorem ZgK{m:Mem}:∀(l:List T) (css:List (List Value)),RefAt m (erL l) css↔RefAt m l css
 | [],css=>by simp only[erL,RefAt]
 | t::l,css=>by
  simp only[erL,RefAt]
  constructor
  ·rintro⟨cs,r,e,h1,h2⟩
   exact⟨cs,r,e,(Zfr t cs).1 h1,(ZgK l r).1 h2⟩
  ·rintro⟨cs,r,e,h1,h2⟩
   exact⟨cs,r,e,(Zfr t cs).2 h1,(ZgK l r).2 h2⟩
end
theorem RefT.of_er{m:Mem}{t u:T}{cs:List Value}(h:RefT m t cs)(e:t.er=u.er):RefT m u cs:=(Zfr u cs).1 (e ▸ (Zfr t cs).2 h)
theorem RefAt.of_er{m:Mem}{l r:List T}{css:List (List Value)}(h:RefAt m l css)(e:l.map T.er=r.map T.er):RefAt m r css:=by
 rw[<-Zdz,<-Zdz]at e
 exact(ZgK r css).1 (e ▸ (ZgK l css).2 h)
theorem RefAt.append{m:Mem}:∀{l r:List T} {css dss:List (List Value)},RefAt m l css->RefAt m r dss->RefAt m (l++r) (css++dss)
 | [],r,css,dss,h,h2=>by
  simp only[RefAt]at h
  subst h
  simpa using h2
 | x::l,r,css,dss,h,h2=>by
  simp only[RefAt]at h
  obtain⟨cs',k,rfl,h3,h4⟩:=h
  simp only[List.cons_append,RefAt]
  exact⟨cs',k++dss,rfl,h3,h4.append h2⟩
theorem RefAt.take{m:Mem}:∀{l:List T} {css:List (List Value)} (n:Nat),RefAt m l css->RefAt m (l.take n) (css.take n)
 | [],css,n,h=>by
  simp only[RefAt]at h
  subst h
  simp[RefAt]
 | x::l,css,0,h=>by simp[RefAt]
 | x::l,css,n+1,h=>by
  simp only[RefAt]at h
  obtain⟨cs',k,rfl,h3,h4⟩:=h
  simp only[List.take_succ_cons,RefAt]
  exact⟨cs',k.take n,rfl,h3,h4.take n⟩
theorem RefAt.drop{m:Mem}:∀{l:List T} {css:List (List Value)} (n:Nat),RefAt m l css->RefAt m (l.drop n) (css.drop n)
 | [],css,n,h=>by
  simp only[RefAt]at h
  subst h
  simp[RefAt]
 | x::l,css,0,h=>by simpa using h
 | x::l,css,n+1,h=>by
  simp only[RefAt]at h
  obtain⟨cs',k,rfl,h3,h4⟩:=h
  simpa using h4.drop n
theorem RefAt.reps{m:Mem}:∀{l:List T} {css:List (List Value)},RefAt m l css->∀x∈l,OkN x.k x.s0 x.s1 x.s2 x.s3 x.mn x.mx/\x.subs.length<=1000000
 | [],css,h,x,hx=>by cases hx
 | y::l,css,h,x,hx=>by
  simp only[RefAt]at h
  obtain⟨cs',k,rfl,h3,h4⟩:=h
  rcases List.mem_cons.1 hx with rfl|hx
  ·obtain⟨h5,h6,_⟩:=ZaX.1 h3
   exact⟨h5,h6⟩
  ·exact h4.reps x hx
theorem ZxY{l:List Value}(h:∀u∈l,u.oneCell'=true):Zbi l=true:=by
 induction l with
 | nil=>rfl
 | cons u l ih=>simp only[Zbi,h u (by simp),Bool.true_and];exact ih λx hx=>h x (by simp[hx])
theorem RefT.chk{m:Mem}{t:T}{cs:List Value}(h:RefT m t cs){K:Prop}(k:K):Go.Eng.chk (Nat.beq cs.length 260) K:=Zaa (by rw[h.len];rfl) k
theorem RefT.chk1{m:Mem}{t:T}{cs:List Value}(h:RefT m t cs){K:Prop}(k:K):Go.Eng.chk (Nat.beq cs.length 260&&Zbi cs) K:=Zaa (by rw[h.len,ZxY h.one];rfl) k
theorem RefT.chk2{m:Mem}{t:T}{cs:List Value}(h:RefT m t cs){K:Prop}(k:K):Go.Eng.chk (Nat.beq cs.length 260&&true) K:=Zaa (by rw[h.len];rfl) k
theorem RefAt.one{m:Mem}{t:T}{cs:List Value}(h:RefT m t cs):RefAt m [t] [cs]:=by
 simp only[RefAt]
 exact⟨cs,[],rfl,h,rfl⟩
theorem RefT.at0{m:Mem}{t:T}{cs:List Value}(h:RefT m t cs):cs[0]?=some (.int .i64 t.k):=by
 obtain⟨_,_,a,c,css,rfl,_⟩:=ZaX.1 h
 exact Zow _ _ _ _ _ _ _
def hdF(s:List T)(y:T):List T:=s.take (ZaH s (Zao y))
def Zmn:List T->Nat
 | []=>0
 | x::r=>(r.foldl hdF (Zao x)).length
theorem Zw5:∀(r s:List T),r.foldl hdF s=s.take (r.foldl hdF s).length/\(r.foldl hdF s).length<=s.length
 | [],s=>⟨by simp,Nat.le_refl _⟩
 | y::r,s=>by
  have ih:=Zw5 r (hdF s y)
  have h1:(hdF s y).length=ZaH s (Zao y):=by
   unfold hdF
   have:=(Zcb s (Zao y)).1
   rw[List.length_take,Nat.min_eq_left this]
  have h2:=(Zcb s (Zao y)).1
  rw[List.foldl_cons]
  refine⟨?_,by omega⟩
  conv=>lhs;rw[ih.1]
  unfold hdF
  rw[List.take_take,Nat.min_eq_left (by have:=ih.2;rw[h1]at this;exact this)]
theorem Zuf(x:T)(r:List T)(y:T):Zmn (x::r++[y])=ZaH ((Zao x).take (Zmn (x::r))) (Zao y):=by
 have h:=Zw5 r (Zao x)
 show((r++[y]).foldl hdF (Zao x)).length=_
 rw[List.foldl_append]
 show(hdF (r.foldl hdF (Zao x)) y).length=_
 have e:(Zao x).take (Zmn (x::r))=r.foldl hdF (Zao x):=h.1.symm
 rw[e]
 show((r.foldl hdF (Zao x)).take (ZaH (r.foldl hdF (Zao x)) (Zao y))).length=_
 have:=(Zcb (r.foldl hdF (Zao x)) (Zao y)).1
 rw[List.length_take,Nat.min_eq_left this]
theorem Zwj(x:T):Zmn [x]=(Zao x).length:=rfl
theorem ZxZ(x:T)(r:List T):Zmn (x::r)<=(Zao x).length:=(Zw5 r (Zao x)).2
theorem Zed:∀{a b:List T} {n:Nat} {u v:T},n<=ZaH a b->a[n]?=some u->b[n]?=some v->ZcC u v=true->n+1<=ZaH a b
 | [],b,n,u,v,_,ha,_,_=>by simp at ha
 | x::a,[],n,u,v,_,_,hb,_=>by simp at hb
 | x::a,y::b,0,u,v,h,ha,hb,hs=>by
  simp at ha hb
  subst ha hb
  rw[ZaH,if_pos hs];omega
 | x::a,y::b,n+1,u,v,h,ha,hb,hs=>by
  rw[ZaH]at h ⊢
  split at h
  ·rename_i h0
   rw[if_pos h0]
   have:=Zed (a:=a) (b:=b) (n:=n) (by omega) (by simpa using ha) (by simpa using hb) hs
   omega
  ·omega
theorem ZmZ:∀{a b:List T} {n:Nat},n < ZaH a b->∃u v,a[n]?=some u/\b[n]?=some v/\ZcC u v=true
 | [],b,n,h=>by simp[ZaH]at h
 | x::a,[],n,h=>by simp[ZaH]at h
 | x::a,y::b,n,h=>by
  rw[ZaH]at h
  split at h
  ·rename_i h0
   cases n with
   | zero=>exact⟨x,y,rfl,rfl,h0⟩
   | succ n=>simpa using ZmZ (a:=a) (b:=b) (n:=n) (by omega)
  ·omega
def ZAH(x y:T)(n:Nat):Prop:=∃u v,(Zao x)[n]?=some u/\(Zao y)[n]?=some v/\ZcC u v=true
theorem ZnA(u:T):ZcC u u=true:=by simp[ZcC]
theorem Zm0:∀{r s:List T} {n:Nat} {u:T},n<=(r.foldl hdF s).length->s[n]?=some u->(∀y∈r,∃v,(Zao y)[n]?=some v/\ZcC u v=true)->n+1<=(r.foldl hdF s).length
 | [],s,n,u,_,h,_=>by
  have:=(zA0 h).1
  simp only[List.foldl_nil];omega
 | y::r,s,n,u,hn,h,aV=>by
  rw[List.foldl_cons]at hn ⊢
  have h1:(hdF s y).length=ZaH s (Zao y):=by
   unfold hdF
   have:=(Zcb s (Zao y)).1
   rw[List.length_take,Nat.min_eq_left this]
  have h2:=(Zw5 r (hdF s y)).2
  obtain⟨v,hv,hs⟩:=aV y (by simp)
  have h3:=Zed (a:=s) (b:=Zao y) (n:=n) (by omega) h hv hs
  refine Zm0 (u:=u) hn ?_ λz hz=>aV z (by simp[hz])
  unfold hdF
  rw[List.getElem?_take_of_lt (by omega)];exact h
theorem ZsP:∀{r s:List T} {n:Nat},n < (r.foldl hdF s).length->∃u,s[n]?=some u/\∀y∈r,∃v,(Zao y)[n]?=some v/\ZcC u v=true
 | [],s,n,h=>⟨_,zA3 h,by simp⟩
 | y::r,s,n,h=>by
  rw[List.foldl_cons]at h
  have h2:=(Zw5 r (hdF s y)).2
  have h1:(hdF s y).length=ZaH s (Zao y):=by
   unfold hdF
   have:=(Zcb s (Zao y)).1
   rw[List.length_take,Nat.min_eq_left this]
  obtain⟨u,hu,aV⟩:=ZsP h
  have aS:n < ZaH s (Zao y):=by omega
  obtain⟨u2,v,fW,hv,hs⟩:=ZmZ aS
  have:(hdF s y)[n]?=s[n]?:=by
   unfold hdF
   rw[List.getElem?_take_of_lt aS]
  rw[this,fW]at hu
  have hu:=Option.some.inj hu
  subst hu
  refine⟨_,fW,λz hz=>?_⟩
  rcases List.mem_cons.1 hz with rfl|hz
  ·exact⟨v,hv,hs⟩
  ·exact aV z hz
theorem Zug{x:T}{r:List T}{n:Nat}(h:n<=Zmn (x::r))(aV:∀y∈x::r,ZAH x y n):n+1<=Zmn (x::r):=by
 obtain⟨u,v,hu,_,_⟩:=aV x (by simp)
 refine Zm0 (u:=u) h hu λy hy=>?_
 obtain⟨u2,v,fW,hv,hs⟩:=aV y (by simp[hy])
 rw[hu]at fW
 cases fW
 exact⟨v,hv,hs⟩
theorem Zuh{x y:T}{r:List T}{n:Nat}(hy:y∈x::r)(h:¬ZAH x y n):Zmn (x::r)<=n:=by
 rcases Nat.lt_or_ge n (Zmn (x::r))with aS|bI
 ·exfalso
  obtain⟨u,hu,aV⟩:=ZsP (r:=r) (s:=Zao x) (n:=n) aS
  rcases List.mem_cons.1 hy with rfl|hy
  ·exact h ⟨u,u,hu,hu,ZnA u⟩
  ·obtain⟨v,hv,hs⟩:=aV y hy
   exact h ⟨u,v,hu,hv,hs⟩
 ·exact bI
def seg(l:List T)(f t:Nat):List T:=(l.take t).drop f
theorem Zx0{l:List T}{f:Nat}{x:T}(h:l[f]?=some x):seg l f (f+1)=[x]:=by
 unfold seg
 have aS:=(zA0 h).1
 rw[List.take_add_one,h]
 show List.drop f (l.take f++[x])=[x]
 rw[List.drop_append,List.drop_eq_nil_of_le (by rw[List.length_take];omega),List.length_take,Nat.min_eq_left (by omega),Nat.sub_self];rfl
theorem ZsQ{l:List T}{f t:Nat}{x:T}(qV:f<=t)(h:l[t]?=some x):seg l f (t+1)=seg l f t++[x]:=by
 unfold seg
 have aS:=(zA0 h).1
 rw[List.take_add_one,h]
 show List.drop f (l.take t++[x])=_
 rw[List.drop_append,List.length_take,Nat.min_eq_left (by omega),show f - t=0 by omega];rfl
theorem Zvq{l:List T}{f t:Nat}(h:t<=l.length):(seg l f t).length=t - f:=by
 unfold seg
 rw[List.length_drop,List.length_take,Nat.min_eq_left h]
theorem ZgL{l:List T}{f t:Nat}{x:T}(qV:f < t)(h:l[f]?=some x):seg l f t=x::seg l (f+1) t:=by
 unfold seg
 have h2:(l.take t)[f]?=some x:=by rw[List.getElem?_take_of_lt qV];exact h
 have aS:=(zA0 h2).1
 rw[List.drop_eq_getElem_cons aS,(zA0 h2).2]
theorem Zwk(n f:Nat):∀(l:List T)(to:Nat),runE n f [] to l=[]
 | [],to=>rfl
 | x::l,to=>by rw[runE,if_pos (by simp[ZaH])]
theorem Zui(n f:Nat)(x y:T)(pre:List T)(to:Nat)(r:List T):
  runE n f ((Zao x).take (Zmn (x::pre))) to (y::r)=(if 0 < Zmn (x::pre++[y])then[⟨n,f,to,Zmn (x::pre++[y])⟩]else[])++runE n f ((Zao x).take (Zmn (x::pre++[y]))) (to+1) r:=by
 have h1:=Zuf x pre y
 rw[runE,<-h1]
 have h2:=(Zcb ((Zao x).take (Zmn (x::pre))) (Zao y)).1
 rw[<-h1,List.length_take]at h2
 by_cases h:Zmn (x::pre++[y])=0
 ·rw[if_pos h,if_neg (by omega),h,List.take_zero,Zwk];rfl
 ·rw[if_neg h,if_pos (by omega),List.take_take,Nat.min_eq_left (by omega)];rfl
theorem Zwl{l:List T}{n f to:Nat}{x y:T}(hx:l[f]?=some x)(hf:f+1<=to)(hy:l[to]?=some y):
  runE n f ((Zao x).take (Zmn (seg l f to))) (to+1) (l.drop to)=(if 0 < Zmn (seg l f (to+1))then[⟨n,f,to+1,Zmn (seg l f (to+1))⟩]else[])++runE n f ((Zao x).take (Zmn (seg l f (to+1)))) (to+2) (l.drop (to+1)):=by
 have aS:=(zA0 hy).1
 have hd:l.drop to=y::l.drop (to+1):=by rw[List.drop_eq_getElem_cons aS,(zA0 hy).2]
 rw[hd,ZsQ (by omega) hy,ZgL (by omega) hx]
 exact Zui n f x y _ _ _
theorem Zx1{l:List T}{n f to:Nat}{s:List T}(h:l.length<=to):runE n f s (to+1) (l.drop to)=[]:=by
 rw[List.drop_eq_nil_of_le h];rfl
theorem Zrh{l:List T}{n f:Nat}{x:T}(hx:l[f]?=some x):Zev n f (l.drop f)=runE n f ((Zao x).take (Zmn (seg l f (f+1)))) (f+2) (l.drop (f+1))++Zev n (f+1) (l.drop (f+1)):=by
 have aS:=(zA0 hx).1
 have hd:l.drop f=x::l.drop (f+1):=by rw[List.drop_eq_getElem_cons aS,(zA0 hx).2]
 rw[hd,Zev,Zx0 hx,Zwj,List.take_length]
theorem Zri{l:List T}{n:Nat}{x:T}(hx:l[n]?=some x):ZeU n (l.drop n)=Zev n 0 (x.subs.drop 0)++ZeU (n+1) (l.drop (n+1)):=by
 have aS:=(zA0 hx).1
 have hd:l.drop n=x::l.drop (n+1):=by rw[List.drop_eq_getElem_cons aS,(zA0 hx).2]
 rw[hd,ZeU,List.drop_zero]
theorem ZnB{c:C4}:∀(t:T)(n:Nat),t.good=true->n+t.alts.length<=c.a->t.cutAt c n=(t.er,n+t.alts.length):=by
 intro t
 induction hn:SizeOf.sizeOf t using Nat.strongRecOn generalizing t with
 | ind N ih=>
 intro n hg bC
 have hs:=(Zan hg).2
 have ha:=Zel t
 have dL:¬(t.k=4/\n=c.a):=by
  rintro⟨hk,he⟩
  rw[ha,if_pos hk]at bC
  simp at bC
  omega
 have hl:∀(l:List T)(p:Nat),(∀x∈l,x∈t.subs)->p+(Zax l).length<=c.a->ZaC c l p=(l.map T.er,p+(Zax l).length):=by
  intro l
  induction l with
  | nil=>intro p _ _;rfl
  | cons x l ihl=>
   intro p hm hp
   simp only[Zax,zA1]at hp
   have hx:=hm x (by simp)
   rw[ZaC,ih _ (by have:=Zdi hx;omega) x rfl p (hs x hx) (by omega)]
   simp only[]
   rw[ihl (p+x.alts.length) (λy hy=>hm y (by simp[hy])) (by omega)]
   simp only[List.map_cons,Zax,zA1]
   rw[Nat.add_assoc]
 rw[ZbK dL,hl t.subs _ (λ_ h=>h) (by
  rw[ha,zA1]at bC
  split at bC
  ·rename_i hk;rw[if_pos hk];simp at bC;omega
  ·rename_i hk;rw[if_neg hk];simpa using bC)]
 simp only[]
 rw[ZeG hg,ha,zA1]
 congr 1
 split <;> simp <;> omega
def Zg8(c:C4)(t:T)(n:Nat):T:=if n<=c.a/\c.a < n+t.alts.length then(t.cutAt c n).1 else t.er
def ZbS(c:C4):List T->Nat->List T
 | [],_=>[]
 | t::l,n=>Zg8 c t n::ZbS c l (n+t.alts.length)
theorem Zfe{c:C4}:∀(l:List T)(n:Nat),c.a < n->ZbS c l n=l.map T.er
 | [],n,_=>rfl
 | t::l,n,h=>by
  rw[ZbS,Zfe l _ (by omega),List.map_cons,Zg8,if_neg (by omega)]
theorem ZiX{c:C4}:∀(l:List T)(n:Nat),(∀x∈l,x.good=true)->(ZaC c l n).1=ZbS c l n
 | [],n,_=>rfl
 | t::l,n,hg=>by
  have gV:=hg t (by simp)
  have pF:=λx (hx:x∈l)=>hg x (by simp[hx])
  rw[ZaC,ZbS]
  by_cases h1:c.a < n
  ·rw[ZeH t n gV h1,Zg8,if_neg (by omega),Zfe _ _ (by omega)]
   simp only[]
   rw[ZeV l _ pF (by omega)]
  ·by_cases h2:c.a < n+t.alts.length
   ·rw[Zg8,if_pos (by omega),Zfe _ _ (by omega)]
    have:c.a < (t.cutAt c n).2:=by
     rcases Zk9 (c:=c) t n with h|h <;> omega
    simp only[]
    rw[ZeV l _ pF this]
   ·rw[ZnB t n gV (by omega),Zg8,if_neg (by omega)]
    simp only[]
    rw[ZiX l _ pF]
theorem Zfs{c:C4}:∀(l r:List T)(n:Nat),ZbS c (l++r) n=ZbS c l n++ZbS c r (n+(Zax l).length)
 | [],r,n=>by simp[ZbS,Zax]
 | t::l,r,n=>by
  rw[List.cons_append,ZbS,ZbS,Zfs l r,List.cons_append]
  simp only[Zax,zA1]
  rw[Nat.add_assoc]
theorem ZnC{c:C4}{l:List T}{i n:Nat}{x:T}(h:l[i]?=some x):ZbS c (l.take (i+1)) n=ZbS c (l.take i) n++[Zg8 c x (n+(Zax (l.take i)).length)]:=by
 rw[List.take_add_one,h]
 show ZbS c (l.take i++[x]) n=_
 rw[Zfs];rfl
theorem ZiY{l:List T}{i:Nat}{x:T}(h:l[i]?=some x):Zax (l.take (i+1))=Zax (l.take i)++x.alts:=by
 rw[List.take_add_one,h]
 show Zax (l.take i++[x])=_
 rw[Zdj]
 simp[Zax]
theorem Zuj{c:C4}{t:T}{n:Nat}(hg:t.good=true):(t.cutAt c n).1=if t.k=4/\n=c.a then Zd9 (Zg7 t.subs c)else t.built (ZbS c t.subs (if t.k=4 then n+1 else n)):=by
 split
 ·rename_i h
  rw[ZcP h.1 h.2]
 ·rename_i h
  rw[ZbK h]
  simp only[]
  rw[ZiX _ _ (Zan hg).2]
theorem Zx2{t:T}(h:0 < (Za1 t).g):(Za1 t).t=(t.cutAt (Za1 t).c 0).1/\(Za1 t).c∈t.cuts:=by
 rcases(Zle t).or with h1|h1
 ·omega
 ·exact⟨h1.2.2.2,h1.2.1⟩
theorem Zx3(n b:Nat):n % 2 ^ (b+1)=n % 2 ^ b|||(if n.testBit b then 2 ^ b else 0):=by
 apply Nat.eq_of_testBit_eq
 intro i
 rw[Nat.testBit_or,Nat.testBit_mod_two_pow,Nat.testBit_mod_two_pow]
 have h0:(if n.testBit b=true then 2 ^ b else 0).testBit i=(n.testBit b&&decide (b=i)):=by
  cases n.testBit b with
  | true=>rw[if_pos rfl,Nat.testBit_two_pow];rfl
  | false=>simp
 rw[h0]
 rcases Nat.lt_trichotomy i b with h|h|h
 ·rw[decide_eq_true (show i < b+1 by omega),decide_eq_true h,decide_eq_false (show ¬b=i by omega)];simp
 ·subst h
  rw[decide_eq_true (show i < i+1 by omega),decide_eq_false (show ¬i < i by omega),decide_eq_true (rfl:i=i)];simp
 ·rw[decide_eq_false (show ¬i < b+1 by omega),decide_eq_false (show ¬i < b by omega),decide_eq_false (show ¬b=i by omega)];simp
def wP(q:QS)(i j:Nat):Nat:=(Ze3 q j).toNat % 2 ^ (min 64 (i - 64*j))
theorem ZpL(q:QS)(j:Nat):wP q 0 j=0:=by
 unfold wP
 rw[show min 64 (0 - 64*j)=0 by omega,Nat.pow_zero,Nat.mod_one]
theorem Zz4(q:QS)(i j:Nat):wP q i j < 18446744073709551616:=by
 unfold wP
 have h1:(Ze3 q j).toNat % 2 ^ (min 64 (i - 64*j)) < 2 ^ (min 64 (i - 64*j)):=Nat.mod_lt _ (Nat.two_pow_pos _)
 have h2:2 ^ (min 64 (i - 64*j))<=2 ^ 64:=Nat.pow_le_pow_right (by decide) (Nat.min_le_left _ _)
 omega
theorem Zuk{q:QS}{j:Nat}(hj:j < 4)(h:0<=Ze3 q j/\Ze3 q j < 18446744073709551616):((wP q 256 j:Nat):Int)=Ze3 q j:=by
 unfold wP
 rw[show min 64 (256 - 64*j)=64 by omega,Nat.mod_eq_of_lt (by omega)]
 omega
theorem ZpM(q:QS){i j:Nat}(hi:i < 256):wP q (i+1) j=if j=i / 64 then wP q i j|||(if Zw4 q i then 2 ^ (i % 64)else 0)else wP q i j:=by
 unfold wP
 by_cases hj:j=i / 64
 ·rw[if_pos hj]
  have e1:min 64 (i - 64*j)=i % 64:=by omega
  have e2:min 64 (i+1 - 64*j)=i % 64+1:=by omega
  rw[e1,e2,Zx3,ZmV,hj]
 ·rw[if_neg hj]
  have e:min 64 (i+1 - 64*j)=min 64 (i - 64*j):=by omega
  rw[e]
theorem Zx4:∀c:Fin 256,IntKind.i64.wrap (Int.tdiv (c.val:Int) 64)=((c.val / 64:Nat):Int)/\Int.tmod (c.val:Int) 64=((c.val % 64:Nat):Int):=by decide +kernel
theorem Zzk:∀b:Fin 64,IntKind.u64.wrap (IntKind.u64.wrap 1*2 ^ min (((b.val:Nat):Int).toNat) 64)=((2 ^ b.val:Nat):Int)/\IntKind.u64.wrap (IntKind.u64.wrap 0*2 ^ min (((b.val:Nat):Int).toNat) 64)=0:=by decide +kernel
theorem Zx5(q:QS){i j:Nat}(hi:i < 256):IntKind.u64.wrap ((BitVec.ofInt 64 ((wP q i j:Nat):Int)|||BitVec.ofInt 64 (IntKind.u64.wrap (IntKind.u64.wrap (Zqw q i)*2 ^ min (((i % 64:Nat):Int).toNat) 64))).toNat:Int)=((wP q i j|||(if Zw4 q i then 2 ^ (i % 64)else 0):Nat):Int):=by
 have hb:=Zzk ⟨i % 64,by omega⟩
 have aS:2 ^ (i % 64) < 18446744073709551616:=by
  have:2 ^ (i % 64)<=2 ^ 63:=Nat.pow_le_pow_right (by decide) (by omega)
  omega
 cases hh:Zw4 q i with
 | true=>
  have:Zqw q i=1:=by unfold Zqw;rw[hh];rfl
  rw[this,hb.1,Zsq _ _ (Zz4 q i j) aS]
  simp
 | false=>
  have:Zqw q i=0:=by unfold Zqw;rw[hh];rfl
  rw[this,hb.2]
  have:=Zsq (wP q i j) 0 (Zz4 q i j) (by decide)
  simpa using this
def wcs(k:Int)(q:QS)(i:Nat)(mn mx:Int):List Value:=[.int .u8 k,.int .u64 (wP q i 0:Nat),.int .u64 (wP q i 1:Nat),.int .u64 (wP q i 2:Nat),.int .u64 (wP q i 3:Nat),.int .i64 mn,.int .i64 mx,.slice none 0 0]
theorem Zzl(k:Int)(q:QS)(i:Nat)(mn mx:Int){j:Nat}(h:j < 4):(wcs k q i mn mx)[1+j*1]?=some (.int .u64 (wP q i j:Nat)):=by
 match j,h with
 | 0,_=>rfl
 | 1,_=>rfl
 | 2,_=>rfl
 | 3,_=>rfl
theorem Zwm(k:Int)(q:QS)(i:Nat)(mn mx:Int)(hi:i < 256):Zau (wcs k q i mn mx) (1+i / 64*1) [.int .u64 ((wP q i (i / 64)|||(if Zw4 q i then 2 ^ (i % 64)else 0):Nat):Int)]=wcs k q (i+1) mn mx:=by
 unfold wcs
 rw[ZpM q hi,ZpM q hi,ZpM q hi,ZpM q hi]
 have:i / 64=0\/i / 64=1\/i / 64=2\/i / 64=3:=by omega
 rcases this with h|h|h|h <;> rw[h] <;> simp[Zau]
def Sm(n:Nat)(t:T):Prop:=t.good=true/\t.nodes.length<=n
theorem Sm.mono{n k:Nat}{t:T}(h:Sm n t)(hk:n<=k):Sm k t:=⟨h.1,Nat.le_trans h.2 hk⟩
theorem Zul{n:Nat}:∀{l:List T},(∀x∈l,Sm n x)->szL l<=l.length*n
 | [],_=>by simp[szL,Zaq]
 | t::l,h=>by
  rw[ZaW,List.length_cons,Nat.succ_mul]
  have:=Zul (l:=l) λx hx=>h x (List.mem_cons_of_mem _ hx)
  have:=(h t (by simp)).2
  omega
theorem ZAI{L:List T}{t':T}{a:Option Addr}{c n:Nat}(h:∀x∈L,x.good=true)(bN:L≠[])(hs:1+szL L<=n)(hn:n<=9000)(hj:Zw1 4 a c T0 (ZaV 4 0 L) t'):Sm n t':=by
 have e:=ZmP h bN (by omega) hj
 have hm:=Zea h
 exact⟨ZcQ e hm.good,by rw[Zcv e];exact Nat.le_trans hm.sz hs⟩
theorem Zzm{L:List T}{t':T}{a:Option Addr}{c n:Nat}(h:∀x∈L,x.good=true)(hs:1+szL L<=n)(hn:n<=9000)(hj:Zw1 3 a c T1 (ZaV 3 1 L) t'):Sm n t':=by
 have e:=ZiQ h (by omega) hj
 have hm:=ZfP h
 exact⟨ZcQ e hm.good,by rw[Zcv e];exact Nat.le_trans hm.sz hs⟩
theorem Zli{k mn mx:Int}{a:Option Addr}{c:Nat}{x:T}:(Zba k mn mx a c [x]).nodes.length=1+x.nodes.length:=by
 rw[Zbf]
 show(_::Zaq [x]).length=_
 rw[List.length_cons,Zaq,Zaq,List.append_nil];omega
theorem Zwn{t t':T}{n:Nat}(h:Zxd t t')(hn:t.nodes.length<=n)(h1:1<=n):t'.nodes.length<=n:=by
 rcases h.1 with⟨_,h⟩|⟨_,h⟩
 ·rw[Zcv h,ZdF];exact hn
 ·rw[h];exact h1
theorem Zum{t t':T}{lo hi:Int}(h:Zvk t lo hi t'):t'.nodes.length<=1+t.nodes.length:=by
 rcases h with⟨h,_⟩|⟨h,_⟩|⟨_,_,h⟩|⟨a,c,h⟩
 ·rw[h];exact Nat.le_add_right 1 _
 ·rw[h];exact Nat.le_add_right 1 _
 ·rw[Zcv h,ZdF];omega
 ·exact Zwn h (by rw[Zli];omega) (by omega)
theorem Zzn{t t':T}{a:Option Addr}{c n:Nat}(h:Zxd (Zba 6 0 0 a c [t]) t')(ht:Sm n t)(hn:n<=9000):Sm (n+1) t':=by
 have hg:(Zba 6 0 0 a c [t]).good=true:=by
  rw[ZdP]
  simp only[zA7,List.all_eq_true]
  exact⟨rfl,λx hx=>by
   obtain rfl:x=t:=by simpa[Zba,T.subs]using hx
   exact ht.1⟩
 have hl:(Zba 6 0 0 a c [t]).nodes.length<=n+1:=by rw[Zli];have:=ht.2;omega
 have e:=Zdk h (ZaO hg (by omega))
 exact⟨ZcQ e (by rw[ZbY];exact hg),by rw[Zcv e,ZdF];exact hl⟩
theorem Zee:∀c:Fin 256,(Zam c.val).good=true:=by decide +kernel
theorem Zlj(c:Nat)(hc:c < 256):Sm 1 (Zam c):=⟨Zee ⟨c,hc⟩,Nat.le_refl 1⟩
theorem Zzo(c:Nat)(hc:c < 256){t':T}(h:Zvk (Zam c) 0 1 t'):Sm 2 t':=by
 rcases h with⟨_,h⟩|⟨h,_⟩|⟨h,_⟩|⟨a,d,h⟩
 ·exact absurd h (by decide)
 ·rw[h];exact⟨by decide,by decide⟩
 ·exact absurd h (by decide)
 ·have hg:(Zba 5 0 1 a d [Zam c]).good=true:=by
   rw[ZdP]
   simp only[zA7,List.all_eq_true]
   exact⟨rfl,λx hx=>by
    obtain rfl:x=Zam c:=by simpa[Zba,T.subs]using hx
    exact Zee ⟨c,hc⟩⟩
  have hl:(Zba 5 0 1 a d [Zam c]).nodes.length<=2:=by rw[Zli];exact Nat.le_refl 2
  have e:=Zdk h (ZaO hg (by omega))
  exact⟨ZcQ e (by rw[ZbY];exact hg),by rw[Zcv e,ZdF];exact hl⟩
def abT:T:=.node 2 0 25769803776 0 0 0 0 none 0 []
theorem ZAJ:Sm 1 abT:=by constructor <;> decide +kernel
end Go.Rx