/- Trees of regexes, what they mean, and uc they lie in memory; plain, no program is named. No condition. -/
import Derived.Test.YtiadlgdcbpnmkaaGreatDoorMc
import Derived.KernelRfl
set_option linter.unusedVariables false
set_option linter.unusedSimpArgs false
set_option linter.unusedSectionVars false
namespace Go.Rx
open Go Go.Eng
inductive T where
 | node (k s0 s1 s2 s3 mn mx:Int) (a:Option Addr) (c:Nat) (subs:List T)
def T.k:T->Int
 | .node k _ _ _ _ _ _ _ _ _=>k
def T.s0:T->Int
 | .node _ s _ _ _ _ _ _ _ _=>s
def T.s1:T->Int
 | .node _ _ s _ _ _ _ _ _ _=>s
def T.s2:T->Int
 | .node _ _ _ s _ _ _ _ _ _=>s
def T.s3:T->Int
 | .node _ _ _ _ s _ _ _ _ _=>s
def T.mn:T->Int
 | .node _ _ _ _ _ x _ _ _ _=>x
def T.mx:T->Int
 | .node _ _ _ _ _ _ x _ _ _=>x
def T.a:T->Option Addr
 | .node _ _ _ _ _ _ _ a _ _=>a
def T.c:T->Nat
 | .node _ _ _ _ _ _ _ _ c _=>c
def T.subs:T->List T
 | .node _ _ _ _ _ _ _ _ _ l=>l
def T.sl(t:T):Value:=.slice t.a t.subs.length t.c
def T.cs(t:T):List Value:=[.int .u8 t.k,.int .u64 t.s0,.int .u64 t.s1,.int .u64 t.s2,.int .u64 t.s3,.int .i64 t.mn,.int .i64 t.mx,t.sl]
def T.v(t:T):Value:=.agg #[.int .u8 t.k,.int .u64 t.s0,.int .u64 t.s1,.int .u64 t.s2,.int .u64 t.s3,.int .i64 t.mn,.int .i64 t.mx,.slice t.a t.subs.length t.c]
structure OkN (k s0 s1 s2 s3 mn mx:Int):Prop where
 k:0<=k/\k < 256
 s0:0<=s0/\s0 < 18446744073709551616
 s1:0<=s1/\s1 < 18446744073709551616
 s2:0<=s2/\s2 < 18446744073709551616
 s3:0<=s3/\s3 < 18446744073709551616
 mn : -9223372036854775808<=mn/\mn<=9223372036854775807
 mx : -9223372036854775808<=mx/\mx<=9223372036854775807
mutual
def Rep(m:Mem):T->Prop
 | .node k s0 s1 s2 s3 mn mx a _ l=>l.length<=1000000000000000/\(l=[]\/∃b o,a=some ⟨b,o,none⟩/\RepAt m b o l)/\OkN k s0 s1 s2 s3 mn mx
def RepAt(m:Mem)(b:Nat):Nat->List T->Prop
 | _,[]=>True
 | o,t::l=>m.reads b o t.cs/\Rep m t/\RepAt m b (o+8) l
end
theorem Zgw{m:Mem}{t:T}:Rep m t->(t.subs.length<=1000000000000000/\(t.subs=[]\/∃b o,t.a=some ⟨b,o,none⟩/\RepAt m b o t.subs)):=by
 cases t;simp only[Rep,T.subs,T.a];exact λh=>⟨h.1,h.2.1⟩
mutual
theorem Rep.mono{m m':Mem}(h:m.le m'):∀t:T,Rep m t->Rep m' t
 | .node _ _ _ _ _ _ _ a _ l,hr=>by
  simp only[Rep]at *
  refine⟨hr.1,?_,hr.2.2⟩
  rcases hr.2.1 with hr|⟨b,o,h1,h2⟩
  ·exact .inl hr
  ·exact .inr ⟨b,o,h1,RepAt.mono h b o l h2⟩
theorem RepAt.mono{m m':Mem}(h:m.le m')(b:Nat):∀(o:Nat)(l:List T),RepAt m b o l->RepAt m' b o l
 | _,[],_=>by simp only[RepAt]
 | o,t::l,hr=>by
  simp only[RepAt]at *
  exact⟨hr.1.mono h,Rep.mono h t hr.2.1,RepAt.mono h b (o+8) l hr.2.2⟩
end
theorem RepAt.get{m:Mem}{b:Nat}:∀{o:Nat} {l:List T} {i:Nat} {t:T},RepAt m b o l->l[i]?=some t->m.reads b (o+i*8) t.cs/\Rep m t
 | o,[],i,t,_,hi=>by simp at hi
 | o,x::l,0,t,h,hi=>by
  simp only[RepAt]at h
  simp at hi;subst hi
  exact⟨by simpa using h.1,h.2.1⟩
 | o,x::l,i+1,t,h,hi=>by
  simp only[RepAt]at h
  have:=h.2.2.get (i:=i) (by simpa using hi)
  rw[show o+(i+1)*8=o+8+i*8 by omega]
  exact this
mutual
def T.nodes:T->List T
 | .node k s0 s1 s2 s3 mn mx a c l=>.node k s0 s1 s2 s3 mn mx a c l::Zbc l
def Zbc:List T->List T
 | []=>[]
 | t::l=>t.nodes++Zbc l
end
theorem Ze8(t:T):t.nodes=t::Zbc t.subs:=by cases t;simp only[T.nodes,T.subs]
theorem Zgx(l r:List T):Zbc (l++r)=Zbc l++Zbc r:=by
 induction l with
 | nil=>simp[Zbc]
 | cons t l ih=>simp[Zbc,ih,List.append_assoc]
theorem Zj1{l:List T}{i:Nat}{t:T}(h:l[i]?=some t):Zbc (l.take (i+1))=Zbc (l.take i)++t.nodes:=by
 have:l.take (i+1)=l.take i++[t]:=by
  rw[List.take_add_one,h];rfl
 rw[this,Zgx];simp[Zbc]
theorem ZhJ{l:List T}{i:Nat}{t:T}(h:l[i]?=some t):Zbc l=Zbc (l.take i)++(t.nodes++Zbc (l.drop (i+1))):=by
 have bF:=(List.getElem?_eq_some_iff.1 h).1
 have e:l=l.take i++(t::l.drop (i+1)):=by
  have:=List.drop_eq_getElem_cons bF
  rw[(List.getElem?_eq_some_iff.1 h).2]at this
  rw[<-this,List.take_append_drop]
 conv=>lhs;rw[e,Zgx]
 simp[Zbc]
theorem ZtY{t x z:T}{i q:Nat}(hx:t.subs[i]?=some x)(hz:x.nodes[q]?=some z):t.nodes[1+(Zbc (t.subs.take i)).length+q]?=some z:=by
 have hq:=(List.getElem?_eq_some_iff.1 hz).1
 rw[Ze8,show 1+(Zbc (t.subs.take i)).length+q=((Zbc (t.subs.take i)).length+q)+1 by omega,List.getElem?_cons_succ,ZhJ hx,List.getElem?_append_right (by omega),List.getElem?_append_left (by omega),show(Zbc (List.take i t.subs)).length+q - (Zbc (List.take i t.subs)).length=q by omega]
 exact hz
theorem Zsi{t x:T}(h:x∈t.subs):SizeOf.sizeOf x < SizeOf.sizeOf t:=by
 cases t with
 | node k s0 s1 s2 s3 mn mx a c l=>
  have h':x∈l:=h
  have:=List.sizeOf_lt_of_mem h'
  simp only[T.node.sizeOf_spec]
  omega
theorem Zp7(t:T):Shape.fitsL [.agg [.int .u8,.int .u64,.int .u64,.int .u64,.int .u64,.int .i64,.int .i64,.slice]] [t.v]=true:=by
 simp[Shape.fitsL,Shape.fits,T.v]
mutual
theorem Zq3{m:Mem}:∀(t:T),Rep m t->∀x∈t.nodes,Rep m x
 | .node k s0 s1 s2 s3 mn mx a c l,hr,x,hx=>by
  simp only[T.nodes,List.mem_cons]at hx
  rcases hx with rfl|hx
  ·exact hr
  ·simp only[Rep]at hr
   rcases hr.2.1 with h|⟨b,o,_,h⟩
   ·subst h;simp[Zbc]at hx
   ·exact Zoq b o l h x hx
theorem Zoq{m:Mem}(b:Nat):∀(o:Nat)(l:List T),RepAt m b o l->∀x∈Zbc l,Rep m x
 | _,[],_,x,hx=>by simp[Zbc]at hx
 | o,t::l,hr,x,hx=>by
  simp only[RepAt]at hr
  simp only[Zbc,List.mem_append]at hx
  rcases hx with hx|hx
  ·exact Zq3 t hr.2.1 x hx
  ·exact Zoq b (o+8) l hr.2.2 x hx
end
theorem Zsj{m:Mem}{t x:T}(h:Rep m t)(hx:x∈t.nodes):Rep m x:=Zq3 t h x hx
def Zp8(least most:Int):Bool:=!(decide (least < 0)||decide (least > 16)||(least == 1&&most == 1))&&(most == -1||(decide (most ≥ 1)&&decide (most<=16)&&decide (most ≥ least)))
def T.has(t:T)(k:Int):Bool:=t.subs.any λx=>x.k == k
def T.light(t:T):Bool:=decide (t.nodes.length<=10000)
def T.setZ(t:T):Bool:=t.s0 == 0&&t.s1 == 0&&t.s2 == 0&&t.s3 == 0
def T.right(t:T):Bool:=
 !(t.k != 2&&!t.setZ||(t.k != 5&&(t.mn != 0||t.mx != 0)||(decide (t.k < 3)&&decide (0 < t.subs.length)))) &&
 (if t.k=1 then true else if t.k=2 then !t.setZ else if t.k=3 then decide (1 < t.subs.length)&&(!t.has 1&&!t.has 3)else if t.k=4 then decide (1 < t.subs.length)&&!t.has 4
  else if t.k=5 then t.subs.length == 1&&(Zp8 t.mn t.mx&&!t.has 1)else t.k == 6&&t.subs.length == 1)
def T.clean(t:T):Bool:=t.light&&t.nodes.all T.right
def T.size(t:T):Int:=if t.light then t.nodes.length else 10001
def T.groups(t:T):Int:=if t.light then(t.nodes.countP λx=>x.k == 6:Nat)else 10001
def Zpr(x y:Int):Int:=if y > x then y else x
def Zki(x y:Int):Int:=if y < x then y else x
def Zwr(k mn mx sum:Int):Int:=Zki (if k=5 then sum*Zki (if mx=-1 then Zpr (Zpr mn 0) 1 else Zpr (Zpr mn 0) mx) 10001 else sum) 10001
mutual
def T.pos:T->Int
 | .node k _ _ _ _ mn mx _ _ l=>Zwr k mn mx ((if k=2 then 1 else 0)+Znq l)
def Znq:List T->Int
 | []=>0
 | t::l=>t.pos+Znq l
end
def T.positions(t:T):Int:=if t.light then t.pos else 10001
def T.check(t:T):Int:=if t.clean=false then 80 else if t.size > 120 then 81 else if t.positions > 400 then 82 else if t.groups > 9 then 83 else 0
mutual
def T.same:T->T->Bool
 | .node k s0 s1 s2 s3 mn mx _ _ l,.node k' s0' s1' s2' s3' mn' mx' _ _ l'=>k == k'&&((s0 == s0'&&s1 == s1'&&s2 == s2'&&s3 == s3')&&(mn == mn'&&(mx == mx'&&Zhj l l')))
def Zhj:List T->List T->Bool
 | [],[]=>true
 | t::l,t'::l'=>t.same t'&&Zhj l l'
 | _,_=>false
end
theorem Zvo(t u:T):t.same u=(t.k == u.k&&((t.s0 == u.s0&&t.s1 == u.s1&&t.s2 == u.s2&&t.s3 == u.s3)&&(t.mn == u.mn&&(t.mx == u.mx&&Zhj t.subs u.subs)))):=by
 cases t;cases u;simp only[T.same,T.k,T.s0,T.s1,T.s2,T.s3,T.mn,T.mx,T.subs]
theorem Zor:∀{l r:List T},¬l.length=r.length->Zhj l r=false
 | [],[],h=>by simp at h
 | [],_::_,_=>by simp[Zhj]
 | _::_,[],_=>by simp[Zhj]
 | x::l,y::r,h=>by
  simp only[Zhj,Zor (l:=l) (r:=r) (by simpa using h),Bool.and_false]
theorem Zq4:∀{l r:List T} {i:Nat} {x y:T},l[i]?=some x->r[i]?=some y->x.same y=false->Zhj l r=false
 | [],r,i,x,y,h,_,_=>by simp at h
 | _::_,[],i,x,y,_,h,_=>by simp at h
 | a::l,b::r,0,x,y,h,k,e=>by
  simp at h k;subst h k
  simp[Zhj,e]
 | a::l,b::r,i+1,x,y,h,k,e=>by
  simp only[Zhj,Zq4 (l:=l) (r:=r) (i:=i) (by simpa using h) (by simpa using k) e,Bool.and_false]
theorem Zl6:∀{l r:List T} {i:Nat} {x y:T},l[i]?=some x->r[i]?=some y->Zhj (l.take i) (r.take i)=true->x.same y=true->True->Zhj (l.take (i+1)) (r.take (i+1))=true
 | [],r,i,x,y,h,_,_,_,_=>by simp at h
 | _::_,[],i,x,y,_,h,_,_,_=>by simp at h
 | a::l,b::r,0,x,y,h,k,_,e,_=>by
  simp at h k;subst h k
  simp[Zhj,e]
 | a::l,b::r,i+1,x,y,h,k,hs,e,_=>by
  simp only[List.take_succ_cons,Zhj,Bool.and_eq_true]at hs ⊢
  exact⟨hs.1,Zl6 (by simpa using h) (by simpa using k) hs.2 e trivial⟩
theorem ZwB(t:T):t.pos=Zwr t.k t.mn t.mx ((if t.k=2 then 1 else 0)+Znq t.subs):=by
 cases t;simp only[T.pos,T.k,T.mn,T.mx,T.subs];congr 1
theorem Zos(l r:List T):Znq (l++r)=Znq l+Znq r:=by
 induction l with
 | nil=>simp[Znq]
 | cons t l ih=>simp[Znq,ih,Int.add_assoc]
theorem Zsk{l:List T}{i:Nat}{t:T}(h:l[i]?=some t):Znq (l.take (i+1))=Znq (l.take i)+t.pos:=by
 have:l.take (i+1)=l.take i++[t]:=by
  rw[List.take_add_one,h];rfl
 rw[this,Zos];simp[Znq]
theorem Zq5(x y:Int):x<=Zpr x y/\y<=Zpr x y:=by unfold Zpr;split <;> omega
theorem Zti(x y:Int):Zki x y<=x/\Zki x y<=y:=by unfold Zki;split <;> omega
theorem Ztj{x y:Int}(h:0<=x)(k:0<=y):0<=Zki x y:=by unfold Zki;split <;> omega
def Zv4(mn mx:Int):Int:=Zki (if mx=-1 then Zpr (Zpr mn 0) 1 else Zpr (Zpr mn 0) mx) 10001
theorem Ztk(mn mx:Int):0<=Zv4 mn mx/\Zv4 mn mx<=10001:=by
 unfold Zv4
 refine⟨Ztj ?_ (by omega),(Zti _ _).2⟩
 have h1:=Zq5 mn 0
 split
 ·have:=Zq5 (Zpr mn 0) 1;omega
 ·have:=Zq5 (Zpr mn 0) mx;omega
theorem Zvp{k mn mx sum:Int}(h:0<=sum):0<=Zwr k mn mx sum/\Zwr k mn mx sum<=10001:=by
 have h2:=Int.mul_nonneg h (Ztk mn mx).1
 unfold Zwr
 refine⟨Ztj ?_ (by omega),(Zti _ _).2⟩
 split
 ·exact h2
 ·exact h
mutual
theorem ZtZ:∀t:T,0<=t.pos/\t.pos<=10001
 | .node k _ _ _ _ mn mx _ _ l=>by
  simp only[T.pos]
  have:=Zq6 l
  exact Zvp (by split <;> omega)
theorem Zq6:∀l:List T,0<=Znq l
 | []=>by simp[Znq]
 | t::l=>by
  simp only[Znq]
  have:=ZtZ t
  have:=Zq6 l
  omega
end
theorem Ztl:∀l:List T,Znq l<=10001*l.length
 | []=>by simp[Znq]
 | t::l=>by
  simp only[Znq,List.length_cons]
  have:=ZtZ t
  have:=Ztl l
  omega
theorem Zvq(t:T):t.subs.length < t.nodes.length:=by
 rw[Ze8,List.length_cons]
 have:∀l:List T,l.length<=(Zbc l).length:=by
  intro l
  induction l with
  | nil=>simp[Zbc]
  | cons x l ih=>simp only[Zbc,List.length_cons,List.length_append];rw[Ze8];simp;omega
 have:=this t.subs
 omega
theorem Zsl{t x:T}(h:x∈t.subs):x.nodes.length < t.nodes.length:=by
 obtain⟨i,hi⟩:=List.getElem?_of_mem h
 rw[Ze8 t,List.length_cons,ZhJ hi]
 simp;omega
def T.hasB(t:T)(c:Nat):Bool:=((if c / 64=0 then t.s0 else if c / 64=1 then t.s1 else if c / 64=2 then t.s2 else t.s3).toNat).testBit (c % 64)
end Go.Rx
namespace Go.Rx
open Go Go.Eng Go.RowKit
def Byt(m:Mem)(a:Option Addr)(s:List Nat):Prop:=(s=[]\/∃b o,a=some ⟨b,o,none⟩/\m.reads b o (s.map λc:Nat=>Value.int .u8 c))/\∀c∈s,c < 256
theorem Byt.mono{m m':Mem}{a s}(h:Byt m a s)(hm:m.le m'):Byt m' a s:=by
 refine⟨?_,h.2⟩
 rcases h.1 with h|⟨b,o,h1,h2⟩
 ·exact .inl h
 ·exact .inr ⟨b,o,h1,h2.mono hm⟩
theorem Byt.get{m:Mem}{a s}(h:Byt m a s){i c:Nat}(hi:s[i]?=some c):(∃b o,a=some ⟨b,o,none⟩/\m b (o+i)=some (.int .u8 c))/\c < 256:=by
 refine⟨?_,h.2 c (List.mem_of_getElem? hi)⟩
 rcases h.1 with h|⟨b,o,h1,h2⟩
 ·subst h;simp at hi
 ·exact⟨b,o,h1,h2 i _ (by rw[List.getElem?_map,hi];rfl)⟩
def ZxH(t:T)(back:Bool)(f i c out:Nat):Nat:=if(f.testBit (if back then i+1 else i)&&t.hasB c)=true then out|||2 ^ (if back then i else i+1)else out
def Zx3(t:T)(back:Bool)(f:Nat):List Nat->Nat->Nat->Nat
 | [],_,out=>out
 | c::s,i,out=>Zx3 t back f s (i+1) (ZxH t back f i c out)
def ZxW(g:Nat->Nat):Nat->Nat->Nat
 | 0,f=>f
 | n+1,f=>ZxW g n (g f)
def Zw6(g:Nat->Nat)(mx:Int):Nat->Int->Nat->Nat->Nat
 | 0,_,out,_=>out
 | n+1,k,out,last=>if k=mx then out else if out|||g last=out then out else Zw6 g mx n (IntKind.i64.wrap (k+1)) (out|||g last) (g last)
@[irreducible] def Zyb:Nat:=576
abbrev Zyc:Nat:=2 ^ Zyb
def ZxI(g:Nat->Nat)(mn mx:Int)(f:Nat):Nat:=Zw6 g mx (Zyc+1) mn (ZxW g mn.toNat f) (ZxW g mn.toNat f)
mutual
def T.lead(s:List Nat)(back:Bool):T->Nat->Nat
 | .node k s0 s1 s2 s3 mn mx a c l=>λf=>
  if k=1 then f else if k=2 then Zx3 (.node k s0 s1 s2 s3 mn mx a c l) back f s 0 0
  else if k=3 then(if back then Zw8 s back l f else Zw7 s back l f)
  else if k=4 then Zx4 s back l f 0
  else if k=5 then ZxI (Zw9 s back l) mn mx f
  else if k=6 then Zw9 s back l f else 0
def Zw7(s:List Nat)(back:Bool):List T->Nat->Nat
 | []=>λf=>f
 | t::l=>λf=>Zw7 s back l (t.lead s back f)
def Zw8(s:List Nat)(back:Bool):List T->Nat->Nat
 | []=>λf=>f
 | t::l=>λf=>t.lead s back (Zw8 s back l f)
def Zx4(s:List Nat)(back:Bool):List T->Nat->Nat->Nat
 | []=>λ_ out=>out
 | t::l=>λf out=>Zx4 s back l f (out|||t.lead s back f)
def Zw9(s:List Nat)(back:Bool):List T->Nat->Nat
 | []=>λf=>f
 | t::_=>λf=>t.lead s back f
end
section
variable {s:List Nat} {back:Bool}
end
section
variable (s:List Nat) (back:Bool) (hs:s.length<=512)
include hs
end
def T0:T:=.node 0 0 0 0 0 0 0 none 0 []
def T1:T:=.node 1 0 0 0 0 0 0 none 0 []
theorem Zot(m:Mem):Rep m T0:=by simp only[T0,Rep];exact⟨by simp,.inl trivial,by constructor <;> decide⟩
def T.isNone(t:T):Bool:=t.k == 0&&(t.light&&(T0.light&&t.same T0))
def T.wrong(t:T)(len:Nat)(i:Int):Int:=if(!t.isNone&&!(t.check == 0))=true then 130 else if(len:Int) > 512 then 3 else if i < 0\/i > len then 2 else 0
structure Rg where
 bg:Bool
 en:Bool
 t:T
def Rg.v(r:Rg):Value:=.agg #[.bool r.bg,.bool r.en,.int .u8 r.t.k,.int .u64 r.t.s0,.int .u64 r.t.s1,.int .u64 r.t.s2,.int .u64 r.t.s3,.int .i64 r.t.mn,.int .i64 r.t.mx,.slice r.t.a r.t.subs.length r.t.c]
def Rg.cs(r:Rg):List Value:=[.bool r.bg,.bool r.en,.int .u8 r.t.k,.int .u64 r.t.s0,.int .u64 r.t.s1,.int .u64 r.t.s2,.int .u64 r.t.s3,.int .i64 r.t.mn,.int .i64 r.t.mx,.slice r.t.a r.t.subs.length r.t.c]
def Rgs(m:Mem)(a:Option Addr)(l:List Rg):Prop:=l.length<=1000000000000000/\(l=[]\/∃b o,a=some ⟨b,o,none⟩/\∀i r,l[i]?=some r->m.reads b (o+i*10) r.cs)/\∀r∈l,Rep m r.t
theorem Rgs.mono{m m':Mem}{a l}(h:Rgs m a l)(hm:m.le m'):Rgs m' a l:=by
 refine⟨h.1,?_,λr hr=>(h.2.2 r hr).mono hm⟩
 rcases h.2.1 with h|⟨b,o,h1,h2⟩
 ·exact .inl h
 ·exact .inr ⟨b,o,h1,λi r hi=>(h2 i r hi).mono hm⟩
def ZwC(f:Nat):List Nat:=(List.range 513).filter λi=>f.testBit i
def Zvr(n:Nat):List Nat->Option Nat
 | []=>none
 | i::_=>if i > n then none else some i
def Rg.from(s:List Nat)(n:Nat)(r:Rg):Option Nat:=if(r.en&&decide ((n:Int) < s.length))=true then none else if r.bg then(if(r.t.lead s true (2 ^ n)).testBit 0 then some 0 else none)else
 Zvr n (ZwC (r.t.lead s true (2 ^ n)))
def Rg.wrong(r:Rg)(len:Nat)(n:Int):Int:=if r.t.check=0 then r.t.wrong len n else 130
def RepL(m:Mem)(a:Option Addr)(l:List T):Prop:=l.length<=1000000000000000/\(l=[]\/∃b o,a=some ⟨b,o,none⟩/\RepAt m b o l)
theorem RepL.mono{m m':Mem}{a l}(h:RepL m a l)(hm:m.le m'):RepL m' a l:=by
 refine⟨h.1,?_⟩
 rcases h.2 with h|⟨b,o,h1,h2⟩
 ·exact .inl h
 ·exact .inr ⟨b,o,h1,h2.mono hm⟩
theorem Rep.subs{m:Mem}{t:T}(h:Rep m t):RepL m t.a t.subs:=Zgw h
def Ztm(k mn mx:Int)(a:Option Addr)(c:Nat)(l:List T):T:=.node k 0 0 0 0 mn mx a c l
theorem Zj2{m:Mem}{k mn mx:Int}{a:Option Addr}{c:Nat}{l:List T}(h:RepL m a l)(hk:0<=k/\k < 256)(h1 : -9223372036854775808<=mn/\mn<=9223372036854775807)(h2 : -9223372036854775808<=mx/\mx<=9223372036854775807):Rep m (Ztm k mn mx a c l):=by
 simp only[Ztm,Rep]
 exact⟨h.1,h.2,⟨hk,by omega,by omega,by omega,by omega,h1,h2⟩⟩
theorem Zt0{m:Mem}{b:Nat}{t:T}(h:m.reads b 0 t.cs)(hr:Rep m t):RepL m (some ⟨b,0,none⟩) [t]:=⟨by simp,.inr ⟨b,0,rfl,by simp only[RepAt];exact⟨h,hr,trivial⟩⟩⟩
def ZfE(l:List T):List Value:=(l.map T.cs).flatten
theorem ZiT(l:List T):(ZfE l).length=l.length*8:=by
 induction l with
 | nil=>rfl
 | cons t l ih=>simp[ZfE,T.cs]at ih ⊢;omega
theorem ZkU(l r:List T):ZfE (l++r)=ZfE l++ZfE r:=by simp[ZfE]
theorem ZkV{m:Mem}{b:Nat}:∀{o:Nat} {l:List T},m.reads b o (ZfE l)->(∀t∈l,Rep m t)->RepAt m b o l
 | o,[],_,_=>by simp only[RepAt]
 | o,t::l,h,hr=>by
  simp only[RepAt]
  refine⟨λj v hj=>?_,hr t (by simp),ZkV (λj v hj=>?_) λx hx=>hr x (by simp[hx])⟩
  ·refine h j v ?_
   simp only[ZfE,List.map_cons,List.flatten_cons]
   rw[List.getElem?_append_left (List.getElem?_eq_some_iff.1 hj).1];exact hj
  ·have:=h (8+j) v (by
    simp only[ZfE,List.map_cons,List.flatten_cons]
    rw[List.getElem?_append_right (by simp[T.cs])]
    have e:8+j - t.cs.length=j:=by simp[T.cs]
    rw[e];exact hj)
   rw[show o+8+j=o+(8+j) by omega];exact this
end Go.Rx
namespace Go.Rx
open Go Go.Eng
inductive E where
 | node (k:Int) (x:Nat) (s:ByteArray) (g:Int) (a:Option Addr) (c:Nat) (subs:List E)
def E.k:E->Int
 | .node k _ _ _ _ _ _=>k
def E.x:E->Nat
 | .node _ x _ _ _ _ _=>x
def E.s:E->ByteArray
 | .node _ _ s _ _ _ _=>s
def E.g:E->Int
 | .node _ _ _ g _ _ _=>g
def E.a:E->Option Addr
 | .node _ _ _ _ a _ _=>a
def E.c:E->Nat
 | .node _ _ _ _ _ c _=>c
def E.subs:E->List E
 | .node _ _ _ _ _ _ l=>l
def E.sl(t:E):Value:=.slice t.a t.subs.length t.c
def E.cs(t:E):List Value:=[.int .u8 t.k,.float .f64 t.x,.string t.s,.int .i64 t.g,t.sl]
def E.v(t:E):Value:=.agg #[.int .u8 t.k,.float .f64 t.x,.string t.s,.int .i64 t.g,.slice t.a t.subs.length t.c]
def E0:E:=.node 0 0 .empty 0 none 0 []
structure OkE (k:Int)(s:ByteArray)(g:Int):Prop where
 k:0<=k/\k < 256
 s:s.size<=1000000000000000
 g : -9223372036854775808<=g/\g<=9223372036854775807
mutual
def RepE(m:Mem):E->Prop
 | .node k x s g a _ l=>l.length<=1000000000000000/\(l=[]\/∃b o,a=some ⟨b,o,none⟩/\RepEAt m b o l)/\OkE k s g
def RepEAt(m:Mem)(b:Nat):Nat->List E->Prop
 | _,[]=>True
 | o,t::l=>m.reads b o t.cs/\RepE m t/\RepEAt m b (o+5) l
end
theorem Ztn(m:Mem):RepE m E0:=by simp only[E0,RepE];exact⟨by simp,.inl trivial,by constructor <;> decide⟩
theorem Zgy{m:Mem}{t:E}:RepE m t->(t.subs.length<=1000000000000000/\(t.subs=[]\/∃b o,t.a=some ⟨b,o,none⟩/\RepEAt m b o t.subs)):=by
 cases t;simp only[RepE,E.subs,E.a];exact λh=>⟨h.1,h.2.1⟩
theorem Zvs{m:Mem}{t:E}:RepE m t->OkE t.k t.s t.g:=by
 cases t;simp only[RepE];exact λh=>h.2.2
mutual
theorem RepE.mono{m m':Mem}(h:m.le m'):∀t:E,RepE m t->RepE m' t
 | .node _ _ _ _ a _ l,hr=>by
  simp only[RepE]at *
  refine⟨hr.1,?_,hr.2.2⟩
  rcases hr.2.1 with hr|⟨b,o,h1,h2⟩
  ·exact .inl hr
  ·exact .inr ⟨b,o,h1,RepEAt.mono h b o l h2⟩
theorem RepEAt.mono{m m':Mem}(h:m.le m')(b:Nat):∀(o:Nat)(l:List E),RepEAt m b o l->RepEAt m' b o l
 | _,[],_=>by simp only[RepEAt]
 | o,t::l,hr=>by
  simp only[RepEAt]at *
  exact⟨hr.1.mono h,RepE.mono h t hr.2.1,RepEAt.mono h b (o+5) l hr.2.2⟩
end
theorem RepE.mono'{m m':Mem}{t:E}(hr:RepE m t)(h:m.le m'):RepE m' t:=RepE.mono h t hr
theorem RepEAt.mono'{m m':Mem}{b o:Nat}{l:List E}(hr:RepEAt m b o l)(h:m.le m'):RepEAt m' b o l:=RepEAt.mono h b o l hr
theorem RepEAt.get{m:Mem}{b:Nat}:∀{o:Nat} {l:List E} {i:Nat} {t:E},RepEAt m b o l->l[i]?=some t->m.reads b (o+i*5) t.cs/\RepE m t
 | o,[],i,t,_,hi=>by simp at hi
 | o,x::l,0,t,h,hi=>by
  simp only[RepEAt]at h
  simp at hi;subst hi
  exact⟨by simpa using h.1,h.2.1⟩
 | o,x::l,i+1,t,h,hi=>by
  simp only[RepEAt]at h
  have:=h.2.2.get (i:=i) (by simpa using hi)
  rw[show o+(i+1)*5=o+5+i*5 by omega]
  exact this
mutual
def E.nodes:E->List E
 | .node k x s g a c l=>.node k x s g a c l::ZaO l
def ZaO:List E->List E
 | []=>[]
 | t::l=>t.nodes++ZaO l
end
theorem ZhK(t:E):t.nodes=t::ZaO t.subs:=by cases t;simp only[E.nodes,E.subs]
theorem Zfm(l r:List E):ZaO (l++r)=ZaO l++ZaO r:=by
 induction l with
 | nil=>simp[ZaO]
 | cons t l ih=>simp[ZaO,ih,List.append_assoc]
theorem ZhL{l:List E}{i:Nat}{t:E}(h:l[i]?=some t):ZaO (l.take (i+1))=ZaO (l.take i)++t.nodes:=by
 have:l.take (i+1)=l.take i++[t]:=by
  rw[List.take_add_one,h];rfl
 rw[this,Zfm];simp[ZaO]
theorem ZkW{l:List E}{i:Nat}{t:E}(h:l[i]?=some t):ZaO l=ZaO (l.take i)++(t.nodes++ZaO (l.drop (i+1))):=by
 have bF:=(List.getElem?_eq_some_iff.1 h).1
 have e:l=l.take i++(t::l.drop (i+1)):=by
  have:=List.drop_eq_getElem_cons bF
  rw[(List.getElem?_eq_some_iff.1 h).2]at this
  rw[<-this,List.take_append_drop]
 conv=>lhs;rw[e,Zfm]
 simp[ZaO]
theorem Zsm{t x z:E}{i q:Nat}(hx:t.subs[i]?=some x)(hz:x.nodes[q]?=some z):t.nodes[1+(ZaO (t.subs.take i)).length+q]?=some z:=by
 have hq:=(List.getElem?_eq_some_iff.1 hz).1
 rw[ZhK,show 1+(ZaO (t.subs.take i)).length+q=((ZaO (t.subs.take i)).length+q)+1 by omega,List.getElem?_cons_succ,ZkW hx,List.getElem?_append_right (by omega),List.getElem?_append_left (by omega),show(ZaO (List.take i t.subs)).length+q - (ZaO (List.take i t.subs)).length=q by omega]
 exact hz
theorem Zou{t x:E}(h:x∈t.subs):SizeOf.sizeOf x < SizeOf.sizeOf t:=by
 cases t with
 | node k x s g a c l=>
  have h':_∈l:=h
  have:=List.sizeOf_lt_of_mem h'
  simp only[E.node.sizeOf_spec]
  omega
theorem Zl7(t:E):Shape.fitsL [.agg [.int .u8,.any,.str,.int .i64,.slice]] [t.v]=true:=by
 simp[Shape.fitsL,Shape.fits,E.v]
mutual
theorem Zov{m:Mem}:∀(t:E),RepE m t->∀x∈t.nodes,RepE m x
 | .node k x s g a c l,hr,z,hx=>by
  simp only[E.nodes,List.mem_cons]at hx
  rcases hx with rfl|hx
  ·exact hr
  ·simp only[RepE]at hr
   rcases hr.2.1 with h|⟨b,o,_,h⟩
   ·subst h;simp[ZaO]at hx
   ·exact Zl8 b o l h z hx
theorem Zl8{m:Mem}(b:Nat):∀(o:Nat)(l:List E),RepEAt m b o l->∀x∈ZaO l,RepE m x
 | _,[],_,x,hx=>by simp[ZaO]at hx
 | o,t::l,hr,x,hx=>by
  simp only[RepEAt]at hr
  simp only[ZaO,List.mem_append]at hx
  rcases hx with hx|hx
  ·exact Zov t hr.2.1 x hx
  ·exact Zl8 b (o+5) l hr.2.2 x hx
end
theorem Zp9{m:Mem}{t x:E}(h:RepE m t)(hx:x∈t.nodes):RepE m x:=Zov t h x hx
def Zxa:Nat:=9221120237041090561
def Zg0(x:Nat):Nat:=if Op.floatEq .f64 x x then x else Zxa
def Zto(x y:Nat):Bool:=Zg0 x == Zg0 y
def Zow(x:Nat):Bool:=Op.floatEq .f64 x x||x == Zxa
def E.light(t:E):Bool:=decide (t.nodes.length<=10000)
def E.size(t:E):Int:=if t.light then t.nodes.length else 0
mutual
def E.same:E->E->Bool
 | .node k x s g _ _ l,.node k' x' s' g' _ _ l'=>k == k'&&(Zto x x'&&(s.toList == s'.toList&&(g == g'&&Zdh l l')))
def Zdh:List E->List E->Bool
 | [],[]=>true
 | t::l,t'::l'=>t.same t'&&Zdh l l'
 | _,_=>false
end
theorem Zt1(t u:E):t.same u=(t.k == u.k&&(Zto t.x u.x&&(t.s.toList == u.s.toList&&(t.g == u.g&&Zdh t.subs u.subs)))):=by
 cases t;cases u;simp only[E.same,E.k,E.x,E.s,E.g,E.subs]
theorem Zl9:∀{l r:List E},¬l.length=r.length->Zdh l r=false
 | [],[],h=>by simp at h
 | [],_::_,_=>by simp[Zdh]
 | _::_,[],_=>by simp[Zdh]
 | x::l,y::r,h=>by
  simp only[Zdh,Zl9 (l:=l) (r:=r) (by simpa using h),Bool.and_false]
theorem Zox:∀{l r:List E} {i:Nat} {x y:E},l[i]?=some x->r[i]?=some y->x.same y=false->Zdh l r=false
 | [],r,i,x,y,h,_,_=>by simp at h
 | _::_,[],i,x,y,_,h,_=>by simp at h
 | a::l,b::r,0,x,y,h,k,e=>by
  simp at h k;subst h k
  simp[Zdh,e]
 | a::l,b::r,i+1,x,y,h,k,e=>by
  simp only[Zdh,Zox (l:=l) (r:=r) (i:=i) (by simpa using h) (by simpa using k) e,Bool.and_false]
theorem Zj3:∀{l r:List E} {i:Nat} {x y:E},l[i]?=some x->r[i]?=some y->Zdh (l.take i) (r.take i)=true->x.same y=true->Zdh (l.take (i+1)) (r.take (i+1))=true
 | [],r,i,x,y,h,_,_,_=>by simp at h
 | _::_,[],i,x,y,_,h,_,_=>by simp at h
 | a::l,b::r,0,x,y,h,k,_,e=>by
  simp at h k;subst h k
  simp[Zdh,e]
 | a::l,b::r,i+1,x,y,h,k,hs,e=>by
  simp only[List.take_succ_cons,Zdh,Bool.and_eq_true]at hs ⊢
  exact⟨hs.1,Zj3 (by simpa using h) (by simpa using k) hs.2 e⟩
def E.most(t:E):Int:=if t.light then t.nodes.foldl (λn x=>if x.k=10 then(if x.g > n then x.g else n)else n) (-1)else -1
mutual
def E.names:E->List ByteArray->List ByteArray
 | .node k _ s _ _ _ l,out=>if k=9 then(if out.any (λy=>y.toList == s.toList)then out else out++[s])else Zcb l out
def Zcb:List E->List ByteArray->List ByteArray
 | [],out=>out
 | t::l,out=>Zcb l (t.names out)
end
theorem Zoy(t:E)(out:List ByteArray):t.names out=if t.k=9 then(if out.any (λy=>y.toList == t.s.toList)then out else out++[t.s])else Zcb t.subs out:=by
 cases t;simp only[E.names,E.k,E.s,E.subs];rfl
mutual
theorem Zq7:∀(t:E)(out:List ByteArray),out.length<=(t.names out).length
 | .node k _ s _ _ _ l,out=>by
  simp only[E.names]
  split
  ·split <;> simp
  ·exact ZkX l out
theorem ZkX:∀(l:List E)(out:List ByteArray),out.length<=(Zcb l out).length
 | [],out=>by simp[Zcb]
 | t::l,out=>by
  simp only[Zcb]
  exact Nat.le_trans (Zq7 t out) (ZkX l _)
end
theorem Zma(l r:List E)(out:List ByteArray):Zcb (l++r) out=Zcb r (Zcb l out):=by
 induction l generalizing out with
 | nil=>simp[Zcb]
 | cons t l ih=>simp only[List.cons_append,Zcb,ih]
theorem Zqa{l:List E}{i:Nat}{t:E}(h:l[i]?=some t)(out:List ByteArray):Zcb (l.take (i+1)) out=t.names (Zcb (l.take i) out):=by
 have:l.take (i+1)=l.take i++[t]:=by rw[List.take_add_one,h];rfl
 rw[this,Zma];simp[Zcb]
theorem Zsn{l:List E}{i:Nat}(out:List ByteArray):(Zcb (l.take i) out).length<=(Zcb l out).length:=by
 conv=>rhs;rw[<-List.take_append_drop i l,Zma]
 exact ZkX _ _
mutual
theorem Zgz:∀(t:E)(out:List ByteArray),(t.names out).length<=out.length+t.nodes.length
 | .node k _ s _ _ _ l,out=>by
  simp only[E.names,E.nodes,List.length_cons]
  split
  ·split
   ·omega
   ·rw[List.length_append,List.length_singleton];omega
  ·have:=ZhM l out
   omega
theorem ZhM:∀(l:List E)(out:List ByteArray),(Zcb l out).length<=out.length+(ZaO l).length
 | [],out=>by simp[Zcb]
 | t::l,out=>by
  simp only[Zcb,ZaO,List.length_append]
  have:=Zgz t out
  have:=ZhM l (t.names out)
  omega
end
def E.vars(t:E):List ByteArray:=if t.light then t.names []else[]
theorem Zd3(s:ByteArray):s.data.toList.length=s.size:=by rw[Array.length_toList];rfl
theorem Ztp(s:ByteArray):∀(n i:Nat)(r:List UInt8),s.size - i=n->ByteArray.toList.loop s i r=r.reverse++s.data.toList.drop i
 | 0,i,r,h=>by
  rw[ByteArray.toList.loop,if_neg (by omega),List.drop_of_length_le (by have:=Zd3 s;omega),List.append_nil]
 | n+1,i,r,h=>by
  have hs:=Zd3 s
  have hi:i < s.size:=by omega
  rw[ByteArray.toList.loop,if_pos hi,Ztp s n (i+1) _ (by omega),List.reverse_cons,List.append_assoc]
  have hd:=List.drop_eq_getElem_cons (l:=s.data.toList) (i:=i) (by omega)
  rw[hd]
  have e:s.get! i=s.data.toList[i]'(by omega):=by
   rw[Array.getElem_toList]
   exact getElem!_pos s.data i hi
  rw[e];rfl
theorem baL(s:ByteArray):s.toList=s.data.toList:=by
 have:=Ztp s _ 0 [] rfl
 simpa[ByteArray.toList]using this
theorem Zcc(s:ByteArray):(s.toList == ByteArray.toList ⟨#[]⟩)=(s.size == 0):=by
 rw[baL,baL,<-Zd3]
 cases h:s.data.toList <;> simp[h] <;> rfl
theorem Zav{α:Type}{cs:α->List Value}{n:Nat}(hn:∀x,(cs x).length=n){m:Mem}{a:Option Addr}{L:List α}(h:rowRd m a (L.map cs).flatten){k:Nat}{t:α}(ht:L[k]?=some t)(h0:0 < n):∃b o,a=some ⟨b,o,none⟩/\m.reads b (o+k*n) (cs t):=by
 have bF:=(List.getElem?_eq_some_iff.1 ht).1
 have len:∀l:List α,(l.map cs).flatten.length=l.length*n:=λl=>by
  induction l with
  | nil=>simp
  | cons x l ih=>rw[List.map_cons,List.flatten_cons,List.length_append,hn,ih,List.length_cons,Nat.succ_mul];omega
 have e:(L.map cs).flatten=((L.take k).map cs).flatten++(cs t++((L.drop (k+1)).map cs).flatten):=by
  have e1:L=L.take k++(t::L.drop (k+1)):=by
   have:=List.drop_eq_getElem_cons bF
   rw[(List.getElem?_eq_some_iff.1 ht).2]at this
   rw[<-this,List.take_append_drop]
  conv=>lhs;rw[e1]
  rw[List.map_append,List.flatten_append,List.map_cons,List.flatten_cons]
 have hl:((L.take k).map cs).flatten.length=k*n:=by rw[len,List.length_take,Nat.min_eq_left (by omega)]
 rcases h with h|⟨b,o,ha,h⟩
 ·have:=congrArg List.length h
  rw[len,List.length_nil]at this
  have:0 < L.length*n:=Nat.mul_pos (by omega) h0
  omega
 ·refine⟨b,o,ha,λj v hj=>?_⟩
  have p8:=(List.getElem?_eq_some_iff.1 hj).1
  have:=h (k*n+j) v (by rw[e,List.getElem?_append_right (by omega),hl,Nat.add_sub_cancel_left,List.getElem?_append_left p8];exact hj)
  rw[Nat.add_assoc];exact this
structure Pt where
 k:Int
 s:ByteArray
 g:Int
 e:E
def Pt.cs(p:Pt):List Value:=[.int .u8 p.k,.string p.s,.int .i64 p.g,.int .u8 p.e.k,.float .f64 p.e.x,.string p.e.s,.int .i64 p.e.g,.slice p.e.a p.e.subs.length p.e.c]
def Pt.v(p:Pt):Value:=.agg p.cs.toArray
structure Ac where
 k:Int
 s:ByteArray
 pa:Option Addr
 pc:Nat
 parts:List Pt
 e:E
def Ac.cs(a:Ac):List Value:=[.int .u8 a.k,.string a.s,.slice a.pa a.parts.length a.pc,.int .u8 a.e.k,.float .f64 a.e.x,.string a.e.s,.int .i64 a.e.g,.slice a.e.a a.e.subs.length a.e.c]
structure Ru where
 k:Int
 bg:Bool
 en:Bool
 t:T
 s:ByteArray
 n:Int
 aa:Option Addr
 ac:Nat
 acts:List Ac
 go:ByteArray
 code:Int
def Ru.cs(r:Ru):List Value:=[.int .u8 r.k,.bool r.bg,.bool r.en,.int .u8 r.t.k,.int .u64 r.t.s0,.int .u64 r.t.s1,.int .u64 r.t.s2,.int .u64 r.t.s3,.int .i64 r.t.mn,.int .i64 r.t.mx,.slice r.t.a r.t.subs.length r.t.c,.string r.s,.int .i64 r.n,.slice r.aa r.acts.length r.ac,.string r.go,.int .i64 r.code]
structure Sta where
 s:ByteArray
 ra:Option Addr
 rc:Nat
 rules:List Ru
def Sta.cs(x:Sta):List Value:=[.string x.s,.slice x.ra x.rules.length x.rc]
structure Va where
 s:ByteArray
 b:Bool
 t:ByteArray
 x:Nat
def Va.cs(v:Va):List Value:=[.string v.s,.bool v.b,.string v.t,.float .f64 v.x]
structure Sc where
 n:Int
 va:Option Addr
 vc:Nat
 vars:List Va
 sa:Option Addr
 sc:Nat
 states:List Sta
def Sc.cs(s:Sc):List Value:=[.int .i64 s.n,.slice s.va s.vars.length s.vc,.slice s.sa s.states.length s.sc]
def Sc.v(s:Sc):Value:=.agg #[.int .i64 s.n,.slice s.va s.vars.length s.vc,.slice s.sa s.states.length s.sc]
theorem Pt.len(p:Pt):p.cs.length=8:=rfl
theorem Ac.len(p:Ac):p.cs.length=8:=rfl
theorem Ru.len(p:Ru):p.cs.length=16:=rfl
theorem Sta.len(p:Sta):p.cs.length=2:=rfl
theorem Va.len(p:Va):p.cs.length=4:=rfl
def I64(n:Int):Prop:=-9223372036854775808<=n/\n<=9223372036854775807
def few:Nat:=100000
structure RepP (m:Mem)(p:Pt):Prop where
 k:0<=p.k/\p.k < 256
 s:p.s.size<=1000000000000000
 g:I64 p.g
 e:RepE m p.e
structure RepA (m:Mem)(a:Ac):Prop where
 k:0<=a.k/\a.k < 256
 s:a.s.size<=1000000000000000
 n:a.parts.length<=few
 row:rowRd m a.pa (a.parts.map Pt.cs).flatten
 all:∀p∈a.parts,RepP m p
 e:RepE m a.e
structure RepR (m:Mem)(r:Ru):Prop where
 k:0<=r.k/\r.k < 256
 t:Rep m r.t
 s:r.s.size<=1000000000000000
 n:I64 r.n
 len:r.acts.length<=few
 row:rowRd m r.aa (r.acts.map Ac.cs).flatten
 all:∀p∈r.acts,RepA m p
 go:r.go.size<=1000000000000000
 code:I64 r.code
structure RepS (m:Mem)(x:Sta):Prop where
 s:x.s.size<=1000000000000000
 len:x.rules.length<=few
 row:rowRd m x.ra (x.rules.map Ru.cs).flatten
 all:∀p∈x.rules,RepR m p
structure RepV (v:Va):Prop where
 s:v.s.size<=1000000000000000
 t:v.t.size<=1000000000000000
structure RepC (m:Mem)(s:Sc):Prop where
 n:I64 s.n
 vlen:s.vars.length<=few
 vrow:rowRd m s.va (s.vars.map Va.cs).flatten
 vall:∀v∈s.vars,RepV v
 len:s.states.length<=few
 row:rowRd m s.sa (s.states.map Sta.cs).flatten
 all:∀x∈s.states,RepS m x
 vcap:s.vars.length<=s.vc
 scap:s.states.length<=s.sc
section
variable {m m':Mem} (h:m.le m')
include h
theorem RepP.mono{p:Pt}(x:RepP m p):RepP m' p:=⟨x.k,x.s,x.g,RepE.mono h _ x.e⟩
theorem RepA.mono{p:Ac}(x:RepA m p):RepA m' p:=⟨x.k,x.s,x.n,x.row.mono h,λp hp=>(x.all p hp).mono h,RepE.mono h _ x.e⟩
theorem RepR.mono{p:Ru}(x:RepR m p):RepR m' p:=⟨x.k,x.t.mono h,x.s,x.n,x.len,x.row.mono h,λp hp=>(x.all p hp).mono h,x.go,x.code⟩
theorem RepS.mono{p:Sta}(x:RepS m p):RepS m' p:=⟨x.s,x.len,x.row.mono h,λp hp=>(x.all p hp).mono h⟩
theorem RepC.mono{p:Sc}(x:RepC m p):RepC m' p:=⟨x.n,x.vlen,x.vrow.mono h,x.vall,x.len,x.row.mono h,λp hp=>(x.all p hp).mono h,x.vcap,x.scap⟩
end
def nE(e:E):Int:=if e.light then e.size else 20001
def Zcd:List Int->Int
 | []=>0
 | x::l=>x+Zcd l
theorem Zq8(l r:List Int):Zcd (l++r)=Zcd l+Zcd r:=by
 induction l with
 | nil=>simp[Zcd]
 | cons x l ih=>simp only[List.cons_append,Zcd,ih];omega
theorem ZcF{α:Type}{l:List α}{i:Nat}{x:α}(f:α->Int)(h:l[i]?=some x):Zcd ((l.take (i+1)).map f)=Zcd ((l.take i).map f)+f x:=by
 rw[List.take_add_one,h,List.map_append,Zq8];simp[Zcd]
theorem Zjb{α:Type}(f:α->Int)(hf:∀x,0<=f x):∀l:List α,0<=Zcd (l.map f)
 | []=>by simp[Zcd]
 | x::l=>by
  have:=Zjb f hf l;have:=hf x
  simp only[List.map_cons,Zcd];omega
theorem ZkY{α:Type}(f:α->Int)(hf:∀x,0<=f x)(l:List α)(i:Nat):Zcd ((l.take i).map f)<=Zcd (l.map f):=by
 have e:Zcd (l.map f)=Zcd ((l.take i).map f)+Zcd ((l.drop i).map f):=by rw[<-Zq8,<-List.map_append,List.take_append_drop]
 have:=Zjb f hf (l.drop i)
 omega
def wA(a:Ac):Int:=1+nE a.e+a.parts.length+Zcd (a.parts.map λp=>nE p.e)
def wR(r:Ru):Int:=1+Zki r.t.size 20000+(if r.t.light then 0 else 20001)+Zcd (r.acts.map wA)
theorem Zso(e:E):0<=nE e/\nE e<=20001:=by
 unfold nE E.size E.light
 split
 ·rename_i h
  simp only[decide_eq_true_eq]at h
  first|omega|(rw[if_pos (by simpa using h)];omega)
 ·omega
theorem Zmb(t:T):0<=t.size/\t.size<=10001:=by
 unfold T.size T.light
 split
 ·rename_i h;simp only[decide_eq_true_eq]at h;omega
 ·omega
theorem Zxb(a:Ac):0<=wA a:=by
 have:=(Zso a.e).1
 have:=Zjb (λp:Pt=>nE p.e) (λp=>(Zso p.e).1) a.parts
 unfold wA;omega
theorem Zxc(r:Ru):0<=wR r:=by
 have:=Zjb wA Zxb r.acts
 have h1:=(Zmb r.t).1
 have:0<=Zki r.t.size 20000:=by unfold Zki;split <;> omega
 unfold wR;split <;> omega
def wS(x:Sta):Int:=Zcd (x.rules.map wR)
theorem ZxJ(x:Sta):0<=wS x:=Zjb wR Zxc _
def Sc.weight(s:Sc):Int:=s.vars.length+s.states.length+Zcd (s.states.map wS)
def Sc.light(s:Sc):Bool:=decide (s.weight<=20000)
structure Pl where
 v:Int
 s:Int
 r:Int
 a:Int
 p:Int
deriving DecidableEq
def Pl.cs(p:Pl):List Value:=[.int .i64 p.v,.int .i64 p.s,.int .i64 p.r,.int .i64 p.a,.int .i64 p.p]
def top:Pl:=⟨-1,-1,-1,-1,-1⟩
def ZdC(n:Nat)(f:Nat->List Pl):List Pl:=(List.range n).flatMap f
def plA(i k m:Nat)(a:Ac):List Pl:=⟨-1,i,k,m,-1⟩::ZdC a.parts.length λn=>[⟨-1,i,k,m,n⟩]
def plR(i k:Nat)(r:Ru):List Pl:=⟨-1,i,k,-1,-1⟩::ZdC r.acts.length λm=>match r.acts[m]? with
 | some a=>plA i k m a
 | none=>[]
def plS(i:Nat)(x:Sta):List Pl:=⟨-1,i,-1,-1,-1⟩::ZdC x.rules.length λk=>match x.rules[k]? with
 | some r=>plR i k r
 | none=>[]
def Sc.places(s:Sc):List Pl:=if s.light then top::(ZdC s.vars.length (λi=>[⟨i,-1,-1,-1,-1⟩])++ZdC s.states.length λi=>match s.states[i]? with
 | some x=>plS i x
 | none=>[])else[]
def ZfO:List (Int×Bool)->Int
 | []=>0
 | (e,w)::l=>if w then e else ZfO l
def Zc8(n a b:Int):Bool:=decide (n ≥ a)&&decide (n<=b)
def eqS(a b:ByteArray):Bool:=a.toList == b.toList
def ZuO(c:UInt8):Bool:=(decide (97<=c.toNat)&&decide (c.toNat<=122))||(decide (48<=c.toNat)&&decide (c.toNat<=57))||c.toNat == 95
def ZmK:List ByteArray:=[⟨#[109,105,110]⟩,⟨#[109,97,120]⟩,⟨#[110,117,109]⟩]
def Zd4(s:ByteArray):Bool:=!(s.size == 0||decide (s.size > 16)||decide ((s.data.toList.getD 0 0).toNat < 97)||decide ((s.data.toList.getD 0 0).toNat > 122)||ZmK.any λw=>eqS w s)&&s.data.toList.all ZuO
def ZeV(s:Sc)(name:ByteArray):Bool×Bool:=match s.vars.find? λv=>eqS v.s name with
 | some v=>(v.b,true)
 | none=>(false,false)
def ZgA(s:Sc)(e:E):Bool:=!e.vars.any λn=>!(ZeV s n).1
def Zq9(e:E):Bool:=e.light&&(E0.light&&e.same E0)
def Ztq(k:Int):Int:=if k=1 then 1 else if 2<=k/\k<=7 then 2 else 0
def Zvt:List E->Bool
 | u::_=>u.k == 8
 | []=>false
def E.right(t:E):Bool:=!(t.k == 0)&&(decide (t.k<=10)&&((if t.k=9 then Zd4 t.s else t.s.size == 0)&&((if t.k=8 then Zow t.x else Zto t.x 0)&&((if t.k=10 then decide (t.g ≥ 0)&&decide (t.g<=9)else t.g == 0)&&((t.subs.length:Int) == Ztq t.k&&!(t.k == 1&&(t.subs.length == 1&&Zvt t.subs)))))))
def E.clean(t:E):Bool:=t.light&&t.nodes.all E.right
def Zvu(s:Sc):Int:=ZfO [(300,!Zc8 s.n 2 256),(302,!Zc8 s.states.length 1 24||decide (s.vars.length > 12))]
def ZhN(v:Va):Bool:=if v.b then Zow v.x&&v.t.size == 0 else v.x == 0&&decide (v.t.size<=512)
def Zoz(s:Sc)(i:Nat)(v:Va):Int:=ZfO [(301,!Zd4 v.s||(!ZhN v||(s.vars.take i).any λx=>eqS x.s v.s))]
def Zt2(s:Sc)(i:Nat)(x:Sta):Int:=ZfO [(303,!Zd4 x.s||(decide (x.rules.length > 12)||(s.states.take i).any λy=>eqS y.s x.s))]
def ZuP(r:Ru):Bool:=r.bg||(r.en||!(r.t.light&&(T0.light&&r.t.same T0)))
def Zbn(r:Ru):Bool:=if r.k=2 then !ZuP r&&(r.n == 0&&Zc8 r.s.size 1 64)else if r.k=4 then !ZuP r&&(r.s.size == 0&&Zc8 r.n 1 1000)else if r.k=3 then !ZuP r&&(r.s.size == 0&&r.n == 0)else if r.k=1 then r.s.size == 0&&r.n == 0 else false
def Zhk(r:Ru):Int:=if r.k=1 then r.t.groups else if r.k=2 then 0 else -1
def ZoA(s:Sc)(name:ByteArray):Bool:=(s.states.any λx=>eqS x.s name)&&s.light
def Ztr(s:Sc)(r:Ru)(total:Int):Int:=ZfO [(304,!Zbn r||decide (r.acts.length > 8)),(305,r.k == 1&&(!(r.t.check == 0)||decide (total > 600))),
 (306,if r.go.size=0 then !Zc8 r.code 0 255 else !ZoA s r.go||!(r.code == 0))]
def Zj4(s:Sc)(r:Ru)(a:Ac):Int:=ZfO [(307,!Zc8 a.k 1 3||(a.k == 1&&!(a.s.size == 0))||(a.k == 3&&decide (a.parts.length > 0))||(a.k == 3&&!a.e.clean)||(!(a.k == 3)&&!Zq9 a.e)||decide (a.parts.length > 16)),
 (308,(!(a.k == 1)&&(!(ZeV s a.s).2||!((ZeV s a.s).1 == (a.k == 3))))||(a.k == 3&&!ZgA s a.e)),(309,a.k == 3&&decide (a.e.most > Zhk r))]
def ZcZ(p:Pt):Bool:=if p.k=1 then decide (p.s.size > 0)&&(decide (p.s.size<=512)&&(p.g == 0&&Zq9 p.e))else if p.k=2 then Zd4 p.s&&(p.g == 0&&Zq9 p.e)else if p.k=3 then decide (p.g ≥ 0)&&(decide (p.g<=9)&&(p.s.size == 0&&Zq9 p.e))else if p.k=4 then p.e.clean&&(p.s.size == 0&&p.g == 0)else false
def Zts(s:Sc)(r:Ru)(l:List Pt)(i:Nat)(p:Pt):Int:=ZfO [(307,!ZcZ p||(decide (i > 0)&&(p.k == 1&&(match l[i - 1]? with
 | some q=>q.k == 1
 | none=>false)))),(308,(p.k == 2&&!(ZeV s p.s).2)||(p.k == 4&&!ZgA s p.e)),(309,(p.k == 3&&decide (p.g > Zhk r))||(p.k == 4&&decide (p.e.most > Zhk r)))]
def ZhO(r:Ru):Int:=if r.k=1 then r.t.size else 0
def ZfP(s:Sc)(i k:Nat):Int:=Zcd ((s.states.take i).map λx=>Zcd (x.rules.map ZhO))+(match s.states[i]? with
 | some x=>Zcd ((x.rules.take (k+1)).map ZhO)
 | none=>0)
def atS(s:Sc)(p:Pl):Int:=if p.v ≥ 0 then(match s.vars[p.v.toNat]? with
  | some v=>Zoz s p.v.toNat v
  | none=>0)else if p.s < 0 then Zvu s else match s.states[p.s.toNat]? with
  | none=>0
  | some x=>if p.r < 0 then Zt2 s p.s.toNat x else match x.rules[p.r.toNat]? with
   | none=>0
   | some r=>if p.a < 0 then Ztr s r (ZfP s p.s.toNat p.r.toNat)else match r.acts[p.a.toNat]? with
    | none=>0
    | some a=>if p.p < 0 then Zj4 s r a else match a.parts[p.p.toNat]? with
     | none=>0
     | some q=>Zts s r a.parts p.p.toNat q
def Sc.problems(s:Sc):List (Pl×Int):=s.places.filterMap λp=>if atS s p=0 then none else some (p,atS s p)
def Sc.check(s:Sc):Pl×Int:=if s.light then(match s.problems with
 | p::_=>p
 | []=>(top,0))else(top,5)
theorem ZbT(n:Nat)(f:Nat->List Pl):ZdC (n+1) f=ZdC n f++f n:=by simp[ZdC,List.range_succ,List.flatMap_append]
theorem Zra{i n:Nat}(h:i<=n)(f:Nat->List Pl):(ZdC i f).length<=(ZdC n f).length:=by
 induction n with
 | zero=>
  obtain rfl:i=0:=by omega
  exact Nat.le_refl _
 | succ n ih=>
  by_cases e:i=n+1
  ·rw[e];exact Nat.le_refl _
  ·have:=ih (by omega)
   rw[ZbT,List.length_append];omega
theorem ZgB(n:Nat)(f:Nat->Pl):(ZdC n λi=>[f i]).length=n:=by
 induction n with
 | zero=>rfl
 | succ n ih=>rw[ZbT,List.length_append,ih];rfl
theorem ZnA{α:Type}(l:List α)(F:Nat->List Pl)(g:Nat->α->List Pl)(w:α->Int)(hF:∀i x,l[i]?=some x->F i=g i x)(hw:∀i x,x∈l->((g i x).length:Int)<=w x):∀k,k<=l.length->((ZdC k F).length:Int)<=Zcd ((l.take k).map w):=by
 intro k
 induction k with
 | zero=>intro _;simp[ZdC,Zcd]
 | succ k ih=>
  intro hk
  have:=ih (by omega)
  have hx:l[k]?=some l[k]:=List.getElem?_eq_getElem (by omega)
  have h2:=hw k l[k] (List.getElem_mem _)
  rw[ZbT,List.length_append,ZcF w hx,hF k _ hx]
  push_cast
  omega
def Hf(i k:Nat)(r:Ru)(m:Nat):List Pl:=match r.acts[m]? with
 | some a=>plA i k m a
 | none=>[]
def Gf(i:Nat)(x:Sta)(k:Nat):List Pl:=match x.rules[k]? with
 | some r=>plR i k r
 | none=>[]
def Ff(s:Sc)(i:Nat):List Pl:=match s.states[i]? with
 | some x=>plS i x
 | none=>[]
def Pf(i k m n:Nat):List Pl:=[⟨-1,i,k,m,n⟩]
def Vf(i:Nat):List Pl:=[⟨i,-1,-1,-1,-1⟩]
theorem ZoB(i k m:Nat)(a:Ac):plA i k m a=⟨-1,i,k,m,-1⟩::ZdC a.parts.length (Pf i k m):=rfl
theorem ZoC(i k:Nat)(r:Ru):plR i k r=⟨-1,i,k,-1,-1⟩::ZdC r.acts.length (Hf i k r):=rfl
theorem ZoD(i:Nat)(x:Sta):plS i x=⟨-1,i,-1,-1,-1⟩::ZdC x.rules.length (Gf i x):=rfl
theorem ZhP{s:Sc}(h:s.light=true):s.places=top::(ZdC s.vars.length Vf++ZdC s.states.length (Ff s)):=by unfold Sc.places;rw[if_pos h];rfl
theorem Zef(s:Sc):s.places.length<=20001:=by
 cases h:s.light with
 | false=>unfold Sc.places;rw[h];simp
 | true=>
  have hw:s.weight<=20000:=by unfold Sc.light at h;exact of_decide_eq_true h
  rw[ZhP h,List.length_cons,List.length_append]
  have h1:(ZdC s.vars.length Vf).length=s.vars.length:=ZgB _ _
  have hA:∀i k m (a:Ac),((plA i k m a).length:Int)<=wA a:=λi k m a=>by
   rw[ZoB,List.length_cons,show(ZdC a.parts.length (Pf i k m)).length=a.parts.length from ZgB _ _]
   have:=(Zso a.e).1
   have:=Zjb (λp:Pt=>nE p.e) (λp=>(Zso p.e).1) a.parts
   unfold wA;push_cast;omega
  have hR:∀i k (r:Ru),((plR i k r).length:Int)<=wR r:=λi k r=>by
   rw[ZoC,List.length_cons]
   have:=ZnA r.acts (Hf i k r) (plA i k) wA (λm a h=>by unfold Hf;rw[h]) (λj x _=>hA i k j x) r.acts.length (Nat.le_refl _)
   rw[List.take_length]at this
   have h1:=(Zmb r.t).1
   have h2:0<=Zki r.t.size 20000:=by unfold Zki;split <;> omega
   have h3:((ZdC r.acts.length (Hf i k r)).length:Int)<=Zcd (r.acts.map wA):=this
   unfold wR;push_cast;split <;> omega
  have hS:∀i (x:Sta),((plS i x).length:Int)<=1+wS x:=λi x=>by
   rw[ZoD,List.length_cons]
   have:=ZnA x.rules (Gf i x) (plR i) wR (λm a h=>by unfold Gf;rw[h]) (λj x _=>hR i j x) x.rules.length (Nat.le_refl _)
   rw[List.take_length]at this
   have h3:((ZdC x.rules.length (Gf i x)).length:Int)<=Zcd (x.rules.map wR):=this
   unfold wS;push_cast;omega
  have:=ZnA s.states (Ff s) plS (λx=>1+wS x) (λm a h=>by unfold Ff;rw[h]) (λj x _=>hS j x) s.states.length (Nat.le_refl _)
  rw[List.take_length]at this
  have h3:((ZdC s.states.length (Ff s)).length:Int)<=Zcd (s.states.map λx=>1+wS x):=this
  have h4:∀l:List Sta,Zcd (l.map λx=>1+wS x)=l.length+Zcd (l.map wS):=λl=>by
   induction l with
   | nil=>rfl
   | cons x l ih=>simp only[List.map_cons,Zcd,ih,List.length_cons];push_cast;omega
  rw[h4]at h3
  unfold Sc.weight at hw
  omega
theorem ZbE{n:Nat}{f:Nat->List Pl}{p:Pl}(h:p∈ZdC n f):∃i,i < n/\p∈f i:=by
 unfold ZdC at h
 obtain⟨i,hi,hp⟩:=List.mem_flatMap.1 h
 exact⟨i,List.mem_range.1 hi,hp⟩
def ZxX(s:Sc)(p:Pl):Prop:=(∃i:Nat,p.v=i/\∃v,s.vars[i]?=some v)\/(p.v < 0/\(p.s < 0\/∃i:Nat,p.s=i/\∃x,s.states[i]?=some x/\(p.r < 0\/∃k:Nat,p.r=k/\∃r,x.rules[k]?=some r/\(p.a < 0\/∃j:Nat,p.a=j/\∃a,r.acts[j]?=some a/\(p.p < 0\/∃n:Nat,p.p=n/\∃q,a.parts[n]?=some q)))))
theorem ZwD:(-1:Int) < 0:=by decide
theorem ZuQ{α:Type}{l:List α}{n:Nat}(h:n < l.length):∃c,l[n]?=some c:=⟨_,List.getElem?_eq_getElem h⟩
theorem ZoE(s:Sc):∀p∈s.places,ZxX s p:=by
 intro p hp
 cases h:s.light with
 | false=>unfold Sc.places at hp;rw[h]at hp;simp at hp
 | true=>
  rw[ZhP h]at hp
  rcases List.mem_cons.1 hp with rfl|hp
  ·exact .inr ⟨by decide,.inl (by decide)⟩
  rcases List.mem_append.1 hp with hp|hp
  ·obtain⟨i,hi,hp⟩:=ZbE hp
   obtain rfl:p=⟨i,-1,-1,-1,-1⟩:=by simpa[Vf]using hp
   exact .inl ⟨i,rfl,ZuQ hi⟩
  ·obtain⟨i,hi,hp⟩:=ZbE hp
   obtain⟨x,hx⟩:=ZuQ hi
   have hp:p∈plS i x:=by unfold Ff at hp;rw[hx]at hp;exact hp
   rw[ZoD]at hp
   rcases List.mem_cons.1 hp with rfl|hp
   ·exact .inr ⟨ZwD,.inr ⟨i,rfl,x,hx,.inl (ZwD)⟩⟩
   obtain⟨k,hk,hp⟩:=ZbE hp
   obtain⟨r,hr⟩:=ZuQ hk
   have hp:p∈plR i k r:=by unfold Gf at hp;rw[hr]at hp;exact hp
   rw[ZoC]at hp
   rcases List.mem_cons.1 hp with rfl|hp
   ·exact .inr ⟨ZwD,.inr ⟨i,rfl,x,hx,.inr ⟨k,rfl,r,hr,.inl (ZwD)⟩⟩⟩
   obtain⟨j,hj,hp⟩:=ZbE hp
   obtain⟨a,ha⟩:=ZuQ hj
   have hp:p∈plA i k j a:=by unfold Hf at hp;rw[ha]at hp;exact hp
   rw[ZoB]at hp
   rcases List.mem_cons.1 hp with rfl|hp
   ·exact .inr ⟨ZwD,.inr ⟨i,rfl,x,hx,.inr ⟨k,rfl,r,hr,.inr ⟨j,rfl,a,ha,.inl (ZwD)⟩⟩⟩⟩
   obtain⟨n,hn,hp⟩:=ZbE hp
   obtain rfl:p=⟨-1,i,k,j,n⟩:=by simpa[Pf]using hp
   exact .inr ⟨ZwD,.inr ⟨i,rfl,x,hx,.inr ⟨k,rfl,r,hr,.inr ⟨j,rfl,a,ha,.inr ⟨n,rfl,ZuQ hn⟩⟩⟩⟩⟩
end Go.Rx
namespace Go.Rx
open Go Go.Eng
set_option maxRecDepth 100000
def ZuR:T:=.node 2 0 72057594037927936 0 0 0 0 none 0 []
def Zv5:T:=.node 2 0 144115188075855872 0 0 0 0 none 0 []
def rxT(a1 a2:Option Addr):T:=.node 3 0 0 0 0 0 0 a2 2 [.node 6 0 0 0 0 0 0 a1 1 [ZuR],Zv5]
def Ztt(n:Int):Pt:=⟨3,⟨#[]⟩,n,E0⟩
def Znr(pa:Option Addr)(pc:Nat)(l:List Int):Ac:=⟨1,⟨#[]⟩,pa,pc,l.map Ztt,E0⟩
def Zqb:Ac:=⟨3,⟨#[110]⟩,none,0,[],.node 9 0 ⟨#[109]⟩ 0 none 0 []⟩
def ZuU(pa:Option Addr):Ac:=⟨2,⟨#[110]⟩,pa,1,[⟨1,⟨#[120]⟩,0,E0⟩],E0⟩
def ru0(k:Int):Ru:=⟨k,false,false,T0,⟨#[]⟩,0,none,0,[],⟨#[]⟩,0⟩
def Zv6(a1 a2 aa pa:Option Addr)(ac pc:Nat)(l:List Int):Ru:=⟨1,false,false,rxT a1 a2,⟨#[]⟩,0,aa,ac,[Znr pa pc l],⟨#[97]⟩,0⟩
def Zxr(aa pa:Option Addr)(ac pc:Nat)(l:List Int):Ru:=⟨2,false,false,T0,⟨#[97,98]⟩,0,aa,ac,[Znr pa pc l],⟨#[]⟩,256⟩
def Zs2(aa:Option Addr)(ac:Nat)(a:Ac):Ru:=⟨3,false,false,T0,⟨#[]⟩,0,aa,ac,[a],⟨#[]⟩,0⟩
def Zi4:List Va:=[⟨⟨#[110]⟩,true,⟨#[]⟩,0⟩,⟨⟨#[116]⟩,false,⟨#[]⟩,0⟩]
def ZhQ(va sa ra:Option Addr)(r:Ru):Sc:=⟨9,va,2,Zi4,sa,1,[⟨⟨#[97]⟩,ra,1,[r]⟩]⟩
def Zxs(va sa ra:Option Addr)(sc:Nat):Sc:=⟨9,va,2,Zi4,sa,sc,[⟨⟨#[97]⟩,ra,1,[ru0 3]⟩,⟨⟨#[97]⟩,none,0,[]⟩]⟩
def Zpx(n:Int):Sc:=⟨n,none,0,[],none,0,[]⟩
theorem ex1(va sa ra a1 a2 aa pa:Option Addr)(ac pc:Nat):(ZhQ va sa ra (Zv6 a1 a2 aa pa ac pc [1,2])).check=(⟨-1,0,0,0,1⟩,309):=by kernel_rfl
theorem ex2(va sa ra a1 a2 aa pa:Option Addr)(ac pc:Nat):(ZhQ va sa ra (Zv6 a1 a2 aa pa ac pc [1,0])).check=(⟨-1,-1,-1,-1,-1⟩,0):=by kernel_rfl
theorem ex3(va sa ra aa pa:Option Addr)(ac pc:Nat):(ZhQ va sa ra (Zxr aa pa ac pc [0])).check=(⟨-1,0,0,-1,-1⟩,306):=by kernel_rfl
theorem ex4(va sa ra:Option Addr):(ZhQ va sa ra (ru0 4)).check=(⟨-1,0,0,-1,-1⟩,304):=by kernel_rfl
theorem ex5(va sa ra aa:Option Addr)(ac:Nat):(ZhQ va sa ra (Zs2 aa ac Zqb)).check=(⟨-1,0,0,0,-1⟩,308):=by kernel_rfl
theorem ex6(va sa ra aa pa:Option Addr)(ac:Nat):(ZhQ va sa ra (Zs2 aa ac (ZuU pa))).check=(⟨-1,0,0,0,-1⟩,308):=by kernel_rfl
theorem ex7(va sa ra:Option Addr)(sc:Nat):(Zxs va sa ra sc).check=(⟨-1,1,-1,-1,-1⟩,303):=by kernel_rfl
theorem ex8:(Zpx 9).check=(⟨-1,-1,-1,-1,-1⟩,302):=by kernel_rfl
theorem ex9:(Zpx 1).check=(⟨-1,-1,-1,-1,-1⟩,300):=by kernel_rfl
theorem Zyd(va sa ra aa pa:Option Addr)(ac pc:Nat):(ZhQ va sa ra (Zs2 aa ac (Znr pa pc [0]))).check=(⟨-1,0,0,0,0⟩,309):=by kernel_rfl
end Go.Rx
namespace Go.Rx
open Go Go.Eng
def mx1(x:Int):Int:=if(-1) > x then -1 else x
def Zvv(p:Pl):List Int:=[mx1 p.s,mx1 p.v,mx1 p.r,mx1 p.a,mx1 p.p]
def ZoF:List Int->List Int->Int
 | [],[]=>0
 | [],_::_=>-1
 | _::_,[]=>1
 | x::l,y::r=>if x < y then -1 else if x > y then 1 else ZoF l r
def ZcK(p q:Pl):Bool:=decide (ZoF (Zvv p) (Zvv q) < 0)
theorem ZfQ(x y:Int)(l r:List Int):ZoF (x::l) (y::r) < 0↔x < y\/(x=y/\ZoF l r < 0):=by
 simp only[ZoF]
 by_cases h:x < y
 ·simp[h]
 ·by_cases h2:x > y
  ·simp only[h,if_false,h2,if_true,false_or]
   constructor
   ·intro h;exact absurd h (by decide)
   ·intro⟨e,_⟩;omega
  ·have e:x=y:=by omega
   subst e
   simp
theorem Zbs{p q:Pl}:ZcK p q=true↔mx1 p.s < mx1 q.s\/(mx1 p.s=mx1 q.s/\(mx1 p.v < mx1 q.v\/(mx1 p.v=mx1 q.v/\(mx1 p.r < mx1 q.r\/(mx1 p.r=mx1 q.r/\(mx1 p.a < mx1 q.a\/(mx1 p.a=mx1 q.a/\mx1 p.p < mx1 q.p))))))):=by
 unfold ZcK
 rw[decide_eq_true_iff]
 unfold Zvv
 rw[ZfQ,ZfQ,ZfQ,ZfQ,ZfQ]
 simp[ZoF]
theorem ZkZ(p:Pl):¬ZcK p p=true:=by
 rw[Zbs];omega
theorem ZdQ(n:Nat):mx1 (n:Int)=n:=by unfold mx1;rw[if_neg (by omega)]
theorem ZdR:mx1 (-1)=-1:=by decide
theorem Zmc{n:Nat}{f:Nat->List Pl}(h1:∀i,i < n->(f i).Pairwise λp q=>ZcK p q=true)(h2:∀i j,i < j->j < n->∀p∈f i,∀q∈f j,ZcK p q=true):(ZdC n f).Pairwise λp q=>ZcK p q=true:=by
 induction n with
 | zero=>exact .nil
 | succ n ih=>
  rw[ZbT,List.pairwise_append]
  refine⟨ih (λi hi=>h1 i (by omega)) (λi j sZ hj=>h2 i j sZ (by omega)),h1 n (by omega),λp hp q hq=>?_⟩
  obtain⟨i,hi,hp⟩:=ZbE hp
  exact h2 i n hi (by omega) p hp q hq
theorem ZwE{i k m:Nat}{a:Ac}{p:Pl}(h:p∈plA i k m a):p.v=-1/\p.s=i/\p.r=k/\p.a=m/\-1<=p.p:=by
 rw[ZoB]at h
 rcases List.mem_cons.1 h with rfl|h
 ·exact⟨rfl,rfl,rfl,rfl,by show(-1:Int)<=-1;decide⟩
 ·obtain⟨n,_,h⟩:=ZbE h
  obtain rfl:p=⟨-1,i,k,m,n⟩:=by simpa[Pf]using h
  exact⟨rfl,rfl,rfl,rfl,by show(-1:Int)<=(n:Int);omega⟩
theorem ZwF(i k m:Nat)(a:Ac):(plA i k m a).Pairwise λp q=>ZcK p q=true:=by
 rw[ZoB,List.pairwise_cons]
 refine⟨λq hq=>?_,Zmc (λn _=>by simp[Pf]) λn n' hn _ p hp q hq=>?_⟩
 ·obtain⟨n,_,h⟩:=ZbE hq
  obtain rfl:q=⟨-1,i,k,m,n⟩:=by simpa[Pf]using h
  rw[Zbs];simp only[ZdQ,ZdR,true_and];omega
 ·obtain rfl:p=⟨-1,i,k,m,n⟩:=by simpa[Pf]using hp
  obtain rfl:q=⟨-1,i,k,m,n'⟩:=by simpa[Pf]using hq
  rw[Zbs];simp only[ZdQ,ZdR,true_and];omega
theorem Zvw{i k j:Nat}{r:Ru}{p:Pl}(h:p∈Hf i k r j):p.v=-1/\p.s=i/\p.r=k/\p.a=j:=by
 unfold Hf at h
 split at h
 ·have:=ZwE h;exact⟨this.1,this.2.1,this.2.2.1,this.2.2.2.1⟩
 ·simp at h
theorem ZwG{i k:Nat}{r:Ru}{p:Pl}(h:p∈plR i k r):p.v=-1/\p.s=i/\p.r=k:=by
 rw[ZoC]at h
 rcases List.mem_cons.1 h with rfl|h
 ·exact⟨rfl,rfl,rfl⟩
 ·obtain⟨n,_,h⟩:=ZbE h
  have:=Zvw h;exact⟨this.1,this.2.1,this.2.2.1⟩
theorem ZwH(i k:Nat)(r:Ru):(plR i k r).Pairwise λp q=>ZcK p q=true:=by
 rw[ZoC,List.pairwise_cons]
 refine⟨λq hq=>?_,Zmc (λn _=>?_) λn n' hn _ p hp q hq=>?_⟩
 ·obtain⟨n,_,h⟩:=ZbE hq
  obtain⟨e1,e2,e3,e4⟩:=Zvw h
  rw[Zbs,e1,e2,e3,e4];simp only[ZdQ,ZdR,true_and];omega
 ·unfold Hf;split
  ·exact ZwF _ _ _ _
  ·exact .nil
 ·obtain⟨e1,e2,e3,e4⟩:=Zvw hp
  obtain⟨d1,d2,d3,d4⟩:=Zvw hq
  rw[Zbs,e1,e2,e3,e4,d1,d2,d3,d4];simp only[ZdQ,ZdR,true_and];omega
theorem Zvx{i k:Nat}{x:Sta}{p:Pl}(h:p∈Gf i x k):p.v=-1/\p.s=i/\p.r=k:=by
 unfold Gf at h
 split at h
 ·exact ZwG h
 ·simp at h
theorem ZwI{i:Nat}{x:Sta}{p:Pl}(h:p∈plS i x):p.v=-1/\p.s=i:=by
 rw[ZoD]at h
 rcases List.mem_cons.1 h with rfl|h
 ·exact⟨rfl,rfl⟩
 ·obtain⟨n,_,h⟩:=ZbE h
  have:=Zvx h;exact⟨this.1,this.2.1⟩
theorem ZwJ(i:Nat)(x:Sta):(plS i x).Pairwise λp q=>ZcK p q=true:=by
 rw[ZoD,List.pairwise_cons]
 refine⟨λq hq=>?_,Zmc (λn _=>?_) λn n' hn _ p hp q hq=>?_⟩
 ·obtain⟨n,_,h⟩:=ZbE hq
  obtain⟨e1,e2,e3⟩:=Zvx h
  rw[Zbs,e1,e2,e3];simp only[ZdQ,ZdR,true_and];omega
 ·unfold Gf;split
  ·exact ZwH _ _ _
  ·exact .nil
 ·obtain⟨e1,e2,e3⟩:=Zvx hp
  obtain⟨d1,d2,d3⟩:=Zvx hq
  rw[Zbs,e1,e2,e3,d1,d2,d3];simp only[ZdQ,ZdR,true_and];omega
theorem Zvy{s:Sc}{i:Nat}{p:Pl}(h:p∈Ff s i):p.v=-1/\p.s=i:=by
 unfold Ff at h
 split at h
 ·exact ZwI h
 ·simp at h
theorem ZgC(s:Sc):s.places.Pairwise λp q=>ZcK p q=true:=by
 cases h:s.light with
 | false=>unfold Sc.places;rw[h];exact .nil
 | true=>
  rw[ZhP h,List.pairwise_cons,List.pairwise_append]
  refine⟨λq hq=>?_,Zmc (λn _=>by simp[Vf]) (λn n' hn _ p hp q hq=>?_),Zmc (λn _=>?_) (λn n' hn _ p hp q hq=>?_),λp hp q hq=>?_⟩
  ·rcases List.mem_append.1 hq with hq|hq
   ·obtain⟨n,_,h⟩:=ZbE hq
    obtain rfl:q=⟨n,-1,-1,-1,-1⟩:=by simpa[Vf]using h
    rw[Zbs];simp only[top,ZdQ,ZdR,true_and];omega
   ·obtain⟨n,_,h⟩:=ZbE hq
    obtain⟨e1,e2⟩:=Zvy h
    rw[Zbs,e1,e2];simp only[top,ZdQ,ZdR,true_and];omega
  ·obtain rfl:p=⟨n,-1,-1,-1,-1⟩:=by simpa[Vf]using hp
   obtain rfl:q=⟨n',-1,-1,-1,-1⟩:=by simpa[Vf]using hq
   rw[Zbs];simp only[ZdQ,ZdR,true_and];omega
  ·unfold Ff;split
   ·exact ZwJ _ _
   ·exact .nil
  ·obtain⟨e1,e2⟩:=Zvy hp
   obtain⟨d1,d2⟩:=Zvy hq
   rw[Zbs,e1,e2,d1,d2];simp only[ZdQ,ZdR,true_and];omega
  ·obtain⟨n,_,h1⟩:=ZbE hp
   obtain⟨n',_,h2⟩:=ZbE hq
   obtain rfl:p=⟨n,-1,-1,-1,-1⟩:=by simpa[Vf]using h1
   obtain⟨d1,d2⟩:=Zvy h2
   rw[Zbs,d1,d2];simp only[ZdQ,ZdR,true_and];omega
theorem ZmL{s:Sc}{i j:Nat}{p q:Pl}(hi:s.places[i]?=some p)(hj:s.places[j]?=some q)(h:i < j):ZcK p q=true/\p≠q:=by
 have hs:=ZgC s
 obtain⟨hi',s4⟩:=List.getElem?_eq_some_iff.1 hi
 obtain⟨hj',s5⟩:=List.getElem?_eq_some_iff.1 hj
 have hb:=(List.pairwise_iff_getElem.1 hs) i j hi' hj' h
 rw[s4,s5]at hb
 exact⟨hb,λe=>ZkZ p (by rw[<-e]at hb;exact hb)⟩
def big:Nat:=1000000000000000
structure RepAw (m:Mem)(a:Ac):Prop where
 k:0<=a.k/\a.k < 256
 s:a.s.size<=1000000000000000
 n:a.parts.length<=big
 row:rowRd m a.pa (a.parts.map Pt.cs).flatten
 all:∀p∈a.parts,RepP m p
 e:RepE m a.e
structure RepRw (m:Mem)(r:Ru):Prop where
 k:0<=r.k/\r.k < 256
 t:Rep m r.t
 s:r.s.size<=1000000000000000
 n:I64 r.n
 len:r.acts.length<=big
 row:rowRd m r.aa (r.acts.map Ac.cs).flatten
 all:∀p∈r.acts,RepAw m p
 go:r.go.size<=1000000000000000
 code:I64 r.code
structure RepSw (m:Mem)(x:Sta):Prop where
 s:x.s.size<=1000000000000000
 len:x.rules.length<=big
 row:rowRd m x.ra (x.rules.map Ru.cs).flatten
 all:∀p∈x.rules,RepRw m p
structure RepCw (m:Mem)(s:Sc):Prop where
 n:I64 s.n
 vlen:s.vars.length<=big
 vrow:rowRd m s.va (s.vars.map Va.cs).flatten
 vall:∀v∈s.vars,RepV v
 len:s.states.length<=big
 row:rowRd m s.sa (s.states.map Sta.cs).flatten
 all:∀x∈s.states,RepSw m x
 vcap:s.vars.length<=s.vc
 scap:s.states.length<=s.sc
section
variable {m m':Mem} (h:m.le m')
include h
theorem RepAw.mono{p:Ac}(x:RepAw m p):RepAw m' p:=⟨x.k,x.s,x.n,x.row.mono h,λp hp=>(x.all p hp).mono h,RepE.mono h _ x.e⟩
theorem RepRw.mono{p:Ru}(x:RepRw m p):RepRw m' p:=⟨x.k,x.t.mono h,x.s,x.n,x.len,x.row.mono h,λp hp=>(x.all p hp).mono h,x.go,x.code⟩
theorem RepSw.mono{p:Sta}(x:RepSw m p):RepSw m' p:=⟨x.s,x.len,x.row.mono h,λp hp=>(x.all p hp).mono h⟩
theorem RepCw.mono{p:Sc}(x:RepCw m p):RepCw m' p:=⟨x.n,x.vlen,x.vrow.mono h,x.vall,x.len,x.row.mono h,λp hp=>(x.all p hp).mono h,x.vcap,x.scap⟩
end
def Ru.short(k:Int)(r:Ru):Prop:=(r.acts.length:Int)<=k/\∀a∈r.acts,(a.parts.length:Int)<=k
def Sc.short(k:Int)(s:Sc):Prop:=(s.vars.length:Int)<=k/\(s.states.length:Int)<=k/\∀x∈s.states,(x.rules.length:Int)<=k/\∀r∈x.rules,r.short k
theorem Zqc{m:Mem}{s:Sc}{k:Int}(h:RepCw m s)(hs:s.short k)(hk:k<=100000):RepC m s:=by
 obtain⟨h1,h2,h3⟩:=hs
 refine⟨h.n,by unfold few;omega,h.vrow,h.vall,by unfold few;omega,h.row,λx hx=>?_,h.vcap,h.scap⟩
 obtain⟨h4,h5⟩:=h3 x hx
 have hx':=h.all x hx
 refine⟨hx'.s,by unfold few;omega,hx'.row,λr hr=>?_⟩
 obtain⟨h6,h7⟩:=h5 r hr
 have hr':=hx'.all r hr
 refine⟨hr'.k,hr'.t,hr'.s,hr'.n,by unfold few;omega,hr'.row,λa ha=>?_,hr'.go,hr'.code⟩
 have ha':=hr'.all a ha
 have:=h7 a ha
 exact⟨ha'.k,ha'.s,by unfold few;omega,ha'.row,ha'.all,ha'.e⟩
theorem Zvz{t:E}(h:(t.nodes.length:Int)<=10000):nE t=t.nodes.length:=by
 have hl:t.light=true:=by unfold E.light;exact decide_eq_true (by omega)
 unfold nE E.size;rw[hl];rfl
theorem Zqd{t:T}(h:(t.nodes.length:Int)<=10000):t.light=true/\t.size=t.nodes.length:=by
 have hl:t.light=true:=by unfold T.light;exact decide_eq_true (by omega)
 exact⟨hl,by unfold T.size;rw[hl];rfl⟩
def wB(a:Ac):Int:=nE a.e+a.parts.length+Zcd (a.parts.map λp=>nE p.e)
theorem ZwK(l:List Ac):Zcd (l.map wA)=l.length+Zcd (l.map wB):=by
 induction l with
 | nil=>rfl
 | cons x l ih=>
  simp only[List.map_cons,Zcd,ih,List.length_cons]
  unfold wA wB;push_cast;omega
theorem ZwL{r:Ru}(h:(r.t.nodes.length:Int)<=10000):wR r=1+r.t.nodes.length+(r.acts.length+Zcd (r.acts.map wB)):=by
 obtain⟨h1,h2⟩:=Zqd h
 unfold wR;rw[h1,h2,if_pos rfl,ZwK]
 have:Zki (r.t.nodes.length:Int) 20000=r.t.nodes.length:=by unfold Zki;rw[if_neg (by omega)]
 rw[this];omega
end Go.Rx