/- Trees of regexes, what they mean, and wi they lie in memory; plain, no program is named. No condition. -/
import Derived.Test.YtojlhhphofhaoaaGreatDoorMc
set_option linter.unusedVariables false
set_option linter.unusedSimpArgs false
set_option linter.unusedSectionVars false
namespace Go.Rx
open Go Go.Eng
inductive T where
 | node (k s0 s1 s2 s3 mn mx:Int) (a:Option Addr) (c:Nat) (subs:List T)
def T.k:T->Int
 | .node k _ _ _ _ _ _ _ _ _=>k
def T.s0:T->Int
 | .node _ s _ _ _ _ _ _ _ _=>s
def T.s1:T->Int
 | .node _ _ s _ _ _ _ _ _ _=>s
def T.s2:T->Int
 | .node _ _ _ s _ _ _ _ _ _=>s
def T.s3:T->Int
 | .node _ _ _ _ s _ _ _ _ _=>s
def T.mn:T->Int
 | .node _ _ _ _ _ x _ _ _ _=>x
def T.mx:T->Int
 | .node _ _ _ _ _ _ x _ _ _=>x
def T.a:T->Option Addr
 | .node _ _ _ _ _ _ _ a _ _=>a
def T.c:T->Nat
 | .node _ _ _ _ _ _ _ _ c _=>c
def T.subs:T->List T
 | .node _ _ _ _ _ _ _ _ _ l=>l
def T.sl(t:T):Value:=.slice t.a t.subs.length t.c
def T.cs(t:T):List Value:=[.int .u8 t.k,.int .u64 t.s0,.int .u64 t.s1,.int .u64 t.s2,.int .u64 t.s3,.int .i64 t.mn,.int .i64 t.mx,t.sl]
def T.v(t:T):Value:=.agg #[.int .u8 t.k,.int .u64 t.s0,.int .u64 t.s1,.int .u64 t.s2,.int .u64 t.s3,.int .i64 t.mn,.int .i64 t.mx,.slice t.a t.subs.length t.c]
structure OkN (k s0 s1 s2 s3 mn mx:Int):Prop where
 k:0<=k/\k < 256
 s0:0<=s0/\s0 < 18446744073709551616
 s1:0<=s1/\s1 < 18446744073709551616
 s2:0<=s2/\s2 < 18446744073709551616
 s3:0<=s3/\s3 < 18446744073709551616
 mn : -9223372036854775808<=mn/\mn<=9223372036854775807
 mx : -9223372036854775808<=mx/\mx<=9223372036854775807
mutual
def Rep(m:Mem):T->Prop
 | .node k s0 s1 s2 s3 mn mx a _ l=>l.length<=1000000000000000/\(l=[]\/∃b o,a=some ⟨b,o,none⟩/\RepAt m b o l)/\OkN k s0 s1 s2 s3 mn mx
def RepAt(m:Mem)(b:Nat):Nat->List T->Prop
 | _,[]=>True
 | o,t::l=>m.reads b o t.cs/\Rep m t/\RepAt m b (o+8) l
end
theorem Zjn{m:Mem}{t:T}:Rep m t->(t.subs.length<=1000000000000000/\(t.subs=[]\/∃b o,t.a=some ⟨b,o,none⟩/\RepAt m b o t.subs)):=by
 cases t;simp only[Rep,T.subs,T.a];exact λh=>⟨h.1,h.2.1⟩
mutual
theorem Rep.mono{m m':Mem}(h:m.le m'):∀t:T,Rep m t->Rep m' t
 | .node _ _ _ _ _ _ _ a _ l,hr=>by
  simp only[Rep]at *
  refine⟨hr.1,?_,hr.2.2⟩
  rcases hr.2.1 with hr|⟨b,o,h1,h2⟩
  ·exact .inl hr
  ·exact .inr ⟨b,o,h1,RepAt.mono h b o l h2⟩
theorem RepAt.mono{m m':Mem}(h:m.le m')(b:Nat):∀(o:Nat)(l:List T),RepAt m b o l->RepAt m' b o l
 | _,[],_=>by simp only[RepAt]
 | o,t::l,hr=>by
  simp only[RepAt]at *
  exact⟨hr.1.mono h,Rep.mono h t hr.2.1,RepAt.mono h b (o+8) l hr.2.2⟩
end
theorem RepAt.get{m:Mem}{b:Nat}:∀{o:Nat} {l:List T} {i:Nat} {t:T},RepAt m b o l->l[i]?=some t->m.reads b (o+i*8) t.cs/\Rep m t
 | o,[],i,t,_,hi=>by simp at hi
 | o,x::l,0,t,h,hi=>by
  simp only[RepAt]at h
  simp at hi;subst hi
  exact⟨by simpa using h.1,h.2.1⟩
 | o,x::l,i+1,t,h,hi=>by
  simp only[RepAt]at h
  have:=h.2.2.get (i:=i) (by simpa using hi)
  rw[show o+(i+1)*8=o+8+i*8 by omega]
  exact this
mutual
def T.nodes:T->List T
 | .node k s0 s1 s2 s3 mn mx a c l=>.node k s0 s1 s2 s3 mn mx a c l::ZaJ l
def ZaJ:List T->List T
 | []=>[]
 | t::l=>t.nodes++ZaJ l
end
theorem Zdp(t:T):t.nodes=t::ZaJ t.subs:=by cases t;simp only[T.nodes,T.subs]
theorem Zc2(l r:List T):ZaJ (l++r)=ZaJ l++ZaJ r:=by
 induction l with
 | nil=>simp[ZaJ]
 | cons t l ih=>simp[ZaJ,ih,List.append_assoc]
theorem Zok{l:List T}{i:Nat}{t:T}(h:l[i]?=some t):ZaJ (l.take (i+1))=ZaJ (l.take i)++t.nodes:=by
 have:l.take (i+1)=l.take i++[t]:=by
  rw[List.take_add_one,h];rfl
 rw[this,Zc2];simp[ZaJ]
theorem ZgX{l:List T}{i:Nat}{t:T}(h:l[i]?=some t):ZaJ l=ZaJ (l.take i)++(t.nodes++ZaJ (l.drop (i+1))):=by
 have bB:=(List.getElem?_eq_some_iff.1 h).1
 have e:l=l.take i++(t::l.drop (i+1)):=by
  have:=List.drop_eq_getElem_cons bB
  rw[(List.getElem?_eq_some_iff.1 h).2]at this
  rw[<-this,List.take_append_drop]
 conv=>lhs;rw[e,Zc2]
 simp[ZaJ]
theorem ZuA{t x z:T}{i q:Nat}(hx:t.subs[i]?=some x)(hz:x.nodes[q]?=some z):t.nodes[1+(ZaJ (t.subs.take i)).length+q]?=some z:=by
 have hq:=(List.getElem?_eq_some_iff.1 hz).1
 rw[Zdp,show 1+(ZaJ (t.subs.take i)).length+q=((ZaJ (t.subs.take i)).length+q)+1 by omega,List.getElem?_cons_succ,ZgX hx,List.getElem?_append_right (by omega),List.getElem?_append_left (by omega),show(ZaJ (List.take i t.subs)).length+q - (ZaJ (List.take i t.subs)).length=q by omega]
 exact hz
theorem Zst{t x:T}(h:x∈t.subs):SizeOf.sizeOf x < SizeOf.sizeOf t:=by
 cases t with
 | node k s0 s1 s2 s3 mn mx a c l=>
  have h':x∈l:=h
  have:=List.sizeOf_lt_of_mem h'
  simp only[T.node.sizeOf_spec]
  omega
theorem Zqb(t:T):Shape.fitsL [.agg [.int .u8,.int .u64,.int .u64,.int .u64,.int .u64,.int .i64,.int .i64,.slice]] [t.v]=true:=by
 simp[Shape.fitsL,Shape.fits,T.v]
mutual
theorem Zq8{m:Mem}:∀(t:T),Rep m t->∀x∈t.nodes,Rep m x
 | .node k s0 s1 s2 s3 mn mx a c l,hr,x,hx=>by
  simp only[T.nodes,List.mem_cons]at hx
  rcases hx with rfl|hx
  ·exact hr
  ·simp only[Rep]at hr
   rcases hr.2.1 with h|⟨b,o,_,h⟩
   ·subst h;simp[ZaJ]at hx
   ·exact Zol b o l h x hx
theorem Zol{m:Mem}(b:Nat):∀(o:Nat)(l:List T),RepAt m b o l->∀x∈ZaJ l,Rep m x
 | _,[],_,x,hx=>by simp[ZaJ]at hx
 | o,t::l,hr,x,hx=>by
  simp only[RepAt]at hr
  simp only[ZaJ,List.mem_append]at hx
  rcases hx with hx|hx
  ·exact Zq8 t hr.2.1 x hx
  ·exact Zol b (o+8) l hr.2.2 x hx
end
theorem Zsu{m:Mem}{t x:T}(h:Rep m t)(hx:x∈t.nodes):Rep m x:=Zq8 t h x hx
def Zj6(least most:Int):Bool:=!(decide (least < 0)||decide (least > 16)||(least == 1&&most == 1))&&(most == -1||(decide (most ≥ 1)&&decide (most<=16)&&decide (most ≥ least)))
def T.has(t:T)(k:Int):Bool:=t.subs.any λx=>x.k == k
def T.light(t:T):Bool:=decide (t.nodes.length<=10000)
def T.setZ(t:T):Bool:=t.s0 == 0&&t.s1 == 0&&t.s2 == 0&&t.s3 == 0
def T.right(t:T):Bool:=
 !(t.k != 2&&!t.setZ||(t.k != 5&&(t.mn != 0||t.mx != 0)||(decide (t.k < 3)&&decide (0 < t.subs.length)))) &&
 (if t.k=1 then true else if t.k=2 then !t.setZ else if t.k=3 then decide (1 < t.subs.length)&&(!t.has 1&&!t.has 3)else if t.k=4 then decide (1 < t.subs.length)&&!t.has 4
  else if t.k=5 then t.subs.length == 1&&(Zj6 t.mn t.mx&&!t.has 1)else t.k == 6&&t.subs.length == 1)
def T.clean(t:T):Bool:=t.light&&t.nodes.all T.right
def T.size(t:T):Int:=if t.light then t.nodes.length else 10001
def T.groups(t:T):Int:=if t.light then(t.nodes.countP λx=>x.k == 6:Nat)else 10001
def Zps(x y:Int):Int:=if y > x then y else x
def Zic(x y:Int):Int:=if y < x then y else x
def Zvz(k mn mx sum:Int):Int:=Zic (if k=5 then sum*Zic (if mx=-1 then Zps (Zps mn 0) 1 else Zps (Zps mn 0) mx) 10001 else sum) 10001
mutual
def T.pos:T->Int
 | .node k _ _ _ _ mn mx _ _ l=>Zvz k mn mx ((if k=2 then 1 else 0)+Zfc l)
def Zfc:List T->Int
 | []=>0
 | t::l=>t.pos+Zfc l
end
def T.positions(t:T):Int:=if t.light then t.pos else 10001
def T.check(t:T):Int:=if t.clean=false then 80 else if t.size > 120 then 81 else if t.positions > 400 then 82 else if t.groups > 9 then 83 else 0
mutual
def T.same:T->T->Bool
 | .node k s0 s1 s2 s3 mn mx _ _ l,.node k' s0' s1' s2' s3' mn' mx' _ _ l'=>k == k'&&((s0 == s0'&&s1 == s1'&&s2 == s2'&&s3 == s3')&&(mn == mn'&&(mx == mx'&&Zgx l l')))
def Zgx:List T->List T->Bool
 | [],[]=>true
 | t::l,t'::l'=>t.same t'&&Zgx l l'
 | _,_=>false
end
theorem Zwb(t u:T):t.same u=(t.k == u.k&&((t.s0 == u.s0&&t.s1 == u.s1&&t.s2 == u.s2&&t.s3 == u.s3)&&(t.mn == u.mn&&(t.mx == u.mx&&Zgx t.subs u.subs)))):=by
 cases t;cases u;simp only[T.same,T.k,T.s0,T.s1,T.s2,T.s3,T.mn,T.mx,T.subs]
theorem Zom:∀{l r:List T},¬l.length=r.length->Zgx l r=false
 | [],[],h=>by simp at h
 | [],_::_,_=>by simp[Zgx]
 | _::_,[],_=>by simp[Zgx]
 | x::l,y::r,h=>by
  simp only[Zgx,Zom (l:=l) (r:=r) (by simpa using h),Bool.and_false]
theorem Zq9:∀{l r:List T} {i:Nat} {x y:T},l[i]?=some x->r[i]?=some y->x.same y=false->Zgx l r=false
 | [],r,i,x,y,h,_,_=>by simp at h
 | _::_,[],i,x,y,_,h,_=>by simp at h
 | a::l,b::r,0,x,y,h,k,e=>by
  simp at h k;subst h k
  simp[Zgx,e]
 | a::l,b::r,i+1,x,y,h,k,e=>by
  simp only[Zgx,Zq9 (l:=l) (r:=r) (i:=i) (by simpa using h) (by simpa using k) e,Bool.and_false]
theorem ZlJ:∀{l r:List T} {i:Nat} {x y:T},l[i]?=some x->r[i]?=some y->Zgx (l.take i) (r.take i)=true->x.same y=true->True->Zgx (l.take (i+1)) (r.take (i+1))=true
 | [],r,i,x,y,h,_,_,_,_=>by simp at h
 | _::_,[],i,x,y,_,h,_,_,_=>by simp at h
 | a::l,b::r,0,x,y,h,k,_,e,_=>by
  simp at h k;subst h k
  simp[Zgx,e]
 | a::l,b::r,i+1,x,y,h,k,hs,e,_=>by
  simp only[List.take_succ_cons,Zgx,Bool.and_eq_true]at hs ⊢
  exact⟨hs.1,ZlJ (by simpa using h) (by simpa using k) hs.2 e trivial⟩
theorem Zqc(t:T):t.pos=Zvz t.k t.mn t.mx ((if t.k=2 then 1 else 0)+Zfc t.subs):=by
 cases t;simp only[T.pos,T.k,T.mn,T.mx,T.subs];congr 1
theorem Zbb(l r:List T):Zfc (l++r)=Zfc l+Zfc r:=by
 induction l with
 | nil=>simp[Zfc]
 | cons t l ih=>simp[Zfc,ih,Int.add_assoc]
theorem Zsv{l:List T}{i:Nat}{t:T}(h:l[i]?=some t):Zfc (l.take (i+1))=Zfc (l.take i)+t.pos:=by
 have:l.take (i+1)=l.take i++[t]:=by
  rw[List.take_add_one,h];rfl
 rw[this,Zbb];simp[Zfc]
theorem Zra(x y:Int):x<=Zps x y/\y<=Zps x y:=by unfold Zps;split <;> omega
theorem ZlK(x y:Int):Zic x y<=x/\Zic x y<=y:=by unfold Zic;split <;> omega
theorem ZtL{x y:Int}(h:0<=x)(k:0<=y):0<=Zic x y:=by unfold Zic;split <;> omega
def ZuB(mn mx:Int):Int:=Zic (if mx=-1 then Zps (Zps mn 0) 1 else Zps (Zps mn 0) mx) 10001
theorem ZtM(mn mx:Int):0<=ZuB mn mx/\ZuB mn mx<=10001:=by
 unfold ZuB
 refine⟨ZtL ?_ (by omega),(ZlK _ _).2⟩
 have h1:=Zra mn 0
 split
 ·have:=Zra (Zps mn 0) 1;omega
 ·have:=Zra (Zps mn 0) mx;omega
theorem Zwc{k mn mx sum:Int}(h:0<=sum):0<=Zvz k mn mx sum/\Zvz k mn mx sum<=10001:=by
 have h2:=Int.mul_nonneg h (ZtM mn mx).1
 unfold Zvz
 refine⟨ZtL ?_ (by omega),(ZlK _ _).2⟩
 split
 ·exact h2
 ·exact h
mutual
theorem Zij:∀t:T,0<=t.pos/\t.pos<=10001
 | .node k _ _ _ _ mn mx _ _ l=>by
  simp only[T.pos]
  have:=ZgY l
  exact Zwc (by split <;> omega)
theorem ZgY:∀l:List T,0<=Zfc l
 | []=>by simp[Zfc]
 | t::l=>by
  simp only[Zfc]
  have:=Zij t
  have:=ZgY l
  omega
end
theorem ZtN:∀l:List T,Zfc l<=10001*l.length
 | []=>by simp[Zfc]
 | t::l=>by
  simp only[Zfc,List.length_cons]
  have:=Zij t
  have:=ZtN l
  omega
theorem ZtO(t:T):t.subs.length < t.nodes.length:=by
 rw[Zdp,List.length_cons]
 have:∀l:List T,l.length<=(ZaJ l).length:=by
  intro l
  induction l with
  | nil=>simp[ZaJ]
  | cons x l ih=>simp only[ZaJ,List.length_cons,List.length_append];rw[Zdp];simp;omega
 have:=this t.subs
 omega
theorem Zsw{t x:T}(h:x∈t.subs):x.nodes.length < t.nodes.length:=by
 obtain⟨i,hi⟩:=List.getElem?_of_mem h
 rw[Zdp t,List.length_cons,ZgX hi]
 simp;omega
def T.hasB(t:T)(c:Nat):Bool:=((if c / 64=0 then t.s0 else if c / 64=1 then t.s1 else if c / 64=2 then t.s2 else t.s3).toNat).testBit (c % 64)
end Go.Rx
namespace Go.Rx
open Go Go.Eng Go.RowKit
theorem Zyj(n:Nat)(h:n < 18446744073709551616):IntKind.u64.wrap (n:Int)=n:=by
 unfold IntKind.wrap
 have e:(2:Int) ^ 64=18446744073709551616:=by decide
 simp only[IntKind.bits,IntKind.signed,Bool.false_and,Bool.false_eq_true,if_false,e]
 omega
theorem Zzq(a:Nat)(h:a < 18446744073709551616):(BitVec.ofInt 64 (a:Int)).toNat=a:=by
 rw[BitVec.toNat_ofInt]
 have e:((2:Nat) ^ 64:Nat)=18446744073709551616:=by decide
 rw[e];omega
theorem ZuC(a b:Nat)(ha:a < 18446744073709551616)(hb:b < 18446744073709551616):IntKind.u64.wrap ((BitVec.ofInt 64 (a:Int)|||BitVec.ofInt 64 (b:Int)).toNat:Int)=((a|||b:Nat):Int):=by
 rw[BitVec.toNat_or,Zzq a ha,Zzq b hb]
 exact Zyj _ (Nat.or_lt_two_pow (n:=64) ha hb)
def Byt(m:Mem)(a:Option Addr)(s:List Nat):Prop:=(s=[]\/∃b o,a=some ⟨b,o,none⟩/\m.reads b o (s.map λc:Nat=>Value.int .u8 c))/\∀c∈s,c < 256
theorem Byt.mono{m m':Mem}{a s}(h:Byt m a s)(hm:m.le m'):Byt m' a s:=by
 refine⟨?_,h.2⟩
 rcases h.1 with h|⟨b,o,h1,h2⟩
 ·exact .inl h
 ·exact .inr ⟨b,o,h1,h2.mono hm⟩
theorem Byt.get{m:Mem}{a s}(h:Byt m a s){i c:Nat}(hi:s[i]?=some c):(∃b o,a=some ⟨b,o,none⟩/\m b (o+i)=some (.int .u8 c))/\c < 256:=by
 refine⟨?_,h.2 c (List.mem_of_getElem? hi)⟩
 rcases h.1 with h|⟨b,o,h1,h2⟩
 ·subst h;simp at hi
 ·exact⟨b,o,h1,h2 i _ (by rw[List.getElem?_map,hi];rfl)⟩
def ZyY(t:T)(back:Bool)(f i c out:Nat):Nat:=if(f.testBit (if back then i+1 else i)&&t.hasB c)=true then out|||2 ^ (if back then i else i+1)else out
def Zzr(t:T)(back:Bool)(f:Nat):List Nat->Nat->Nat->Nat
 | [],_,out=>out
 | c::s,i,out=>Zzr t back f s (i+1) (ZyY t back f i c out)
def Zzh(g:Nat->Nat):Nat->Nat->Nat
 | 0,f=>f
 | n+1,f=>Zzh g n (g f)
def Zyk(g:Nat->Nat)(mx:Int):Nat->Int->Nat->Nat->Nat
 | 0,_,out,_=>out
 | n+1,k,out,last=>if k=mx then out else if out|||g last=out then out else Zyk g mx n (IntKind.i64.wrap (k+1)) (out|||g last) (g last)
@[irreducible] def ZzD:Nat:=576
abbrev ZzE:Nat:=2 ^ ZzD
def ZzF(g:Nat->Nat)(mn mx:Int)(f:Nat):Nat:=Zyk g mx (ZzE+1) mn (Zzh g mn.toNat f) (Zzh g mn.toNat f)
mutual
def T.lead(s:List Nat)(back:Bool):T->Nat->Nat
 | .node k s0 s1 s2 s3 mn mx a c l=>λf=>
  if k=1 then f else if k=2 then Zzr (.node k s0 s1 s2 s3 mn mx a c l) back f s 0 0
  else if k=3 then(if back then Zym s back l f else Zyl s back l f)
  else if k=4 then Zzs s back l f 0
  else if k=5 then ZzF (Zyn s back l) mn mx f
  else if k=6 then Zyn s back l f else 0
def Zyl(s:List Nat)(back:Bool):List T->Nat->Nat
 | []=>λf=>f
 | t::l=>λf=>Zyl s back l (t.lead s back f)
def Zym(s:List Nat)(back:Bool):List T->Nat->Nat
 | []=>λf=>f
 | t::l=>λf=>t.lead s back (Zym s back l f)
def Zzs(s:List Nat)(back:Bool):List T->Nat->Nat->Nat
 | []=>λ_ out=>out
 | t::l=>λf out=>Zzs s back l f (out|||t.lead s back f)
def Zyn(s:List Nat)(back:Bool):List T->Nat->Nat
 | []=>λf=>f
 | t::_=>λf=>t.lead s back f
end
section
variable {s:List Nat} {back:Bool}
end
theorem Zon{α:Type}{l:List α}{i:Nat}{x:α}(h:l[i]?=some x):l.drop i=x::l.drop (i+1):=by
 obtain⟨h1,h2⟩:=List.getElem?_eq_some_iff.1 h
 rw[List.drop_eq_getElem_cons h1,h2]
theorem Zwd{α:Type}{l:List α}{i:Nat}{x:α}(h:l[i]?=some x):l.take (i+1)=l.take i++[x]:=by
 rw[List.take_add_one,h];rfl
section
variable (s:List Nat) (back:Bool) (hs:s.length<=512)
include hs
end
def T0:T:=.node 0 0 0 0 0 0 0 none 0 []
def T1:T:=.node 1 0 0 0 0 0 0 none 0 []
theorem ZxM(m:Mem):Rep m T0:=by simp only[T0,Rep];exact⟨by simp,.inl trivial,by constructor <;> decide⟩
theorem Zwe(m:Mem):Rep m T1:=by simp only[T1,Rep];exact⟨by simp,.inl trivial,by constructor <;> decide⟩
def T.isNone(t:T):Bool:=t.k == 0&&(t.light&&(T0.light&&t.same T0))
def T.wrong(t:T)(len:Nat)(i:Int):Int:=if(!t.isNone&&!(t.check == 0))=true then 130 else if(len:Int) > 512 then 3 else if i < 0\/i > len then 2 else 0
structure Rg where
 bg:Bool
 en:Bool
 t:T
def Rg.v(r:Rg):Value:=.agg #[.bool r.bg,.bool r.en,.int .u8 r.t.k,.int .u64 r.t.s0,.int .u64 r.t.s1,.int .u64 r.t.s2,.int .u64 r.t.s3,.int .i64 r.t.mn,.int .i64 r.t.mx,.slice r.t.a r.t.subs.length r.t.c]
def Rg.cs(r:Rg):List Value:=[.bool r.bg,.bool r.en,.int .u8 r.t.k,.int .u64 r.t.s0,.int .u64 r.t.s1,.int .u64 r.t.s2,.int .u64 r.t.s3,.int .i64 r.t.mn,.int .i64 r.t.mx,.slice r.t.a r.t.subs.length r.t.c]
def Rgs(m:Mem)(a:Option Addr)(l:List Rg):Prop:=l.length<=1000000000000000/\(l=[]\/∃b o,a=some ⟨b,o,none⟩/\∀i r,l[i]?=some r->m.reads b (o+i*10) r.cs)/\∀r∈l,Rep m r.t
theorem Rgs.mono{m m':Mem}{a l}(h:Rgs m a l)(hm:m.le m'):Rgs m' a l:=by
 refine⟨h.1,?_,λr hr=>(h.2.2 r hr).mono hm⟩
 rcases h.2.1 with h|⟨b,o,h1,h2⟩
 ·exact .inl h
 ·exact .inr ⟨b,o,h1,λi r hi=>(h2 i r hi).mono hm⟩
def ZxN(f:Nat):List Nat:=(List.range 513).filter λi=>f.testBit i
def Zwf(n:Nat):List Nat->Option Nat
 | []=>none
 | i::_=>if i > n then none else some i
def Rg.from(s:List Nat)(n:Nat)(r:Rg):Option Nat:=if(r.en&&decide ((n:Int) < s.length))=true then none else if r.bg then(if(r.t.lead s true (2 ^ n)).testBit 0 then some 0 else none)else
 Zwf n (ZxN (r.t.lead s true (2 ^ n)))
def Rg.wrong(r:Rg)(len:Nat)(n:Int):Int:=if r.t.check=0 then r.t.wrong len n else 130
def Zpy(φ:T->Prop):Value->Mem->List (List Value)->Prop:=λv m' _=>∃t:T,v=t.v/\Rep m' t/\φ t
abbrev TRK:=Int->Int->Int->Int->Int->Int->Int->Option Addr->Nat->Nat->Mem->Prop
theorem Zsx{φ:T->Prop}{m:Mem}{K:TRK}(k:∀(t:T)(m':Mem),m.le m'->Rep m' t->φ t->K t.k t.s0 t.s1 t.s2 t.s3 t.mn t.mx t.a t.subs.length t.c m'):
  ∀(n0 n1 n2 n3 n4 n5 n6:Int)(a:Option Addr)(n c:Nat)(m':Mem),m.le m'->Zpy φ (.agg #[.int .u8 n0,.int .u64 n1,.int .u64 n2,.int .u64 n3,.int .u64 n4,.int .i64 n5,.int .i64 n6,.slice a n c]) m' []->K n0 n1 n2 n3 n4 n5 n6 a n c m':=by
 rintro n0 n1 n2 n3 n4 n5 n6 a n c m' hm ⟨t,hv,hr,hp⟩
 simp only[T.v,Value.agg.injEq,Array.mk.injEq,List.cons.injEq,Value.int.injEq,Value.slice.injEq,true_and,and_true]at hv
 obtain⟨rfl,rfl,rfl,rfl,rfl,rfl,rfl,rfl,rfl,rfl⟩:=hv
 exact k t m' hm hr hp
theorem ZgZ{φ:T->Prop}:∀(v:Value)(m':Mem) (css:List (List Value)),Zpy φ v m' css->Shape.fits (.agg [.int .u8,.int .u64,.int .u64,.int .u64,.int .u64,.int .i64,.int .i64,.slice]) v=true:=λv _ _ ⟨t,e,_⟩=>by rw[e];rfl
def RepL(m:Mem)(a:Option Addr)(l:List T):Prop:=l.length<=1000000000000000/\(l=[]\/∃b o,a=some ⟨b,o,none⟩/\RepAt m b o l)
theorem RepL.mono{m m':Mem}{a l}(h:RepL m a l)(hm:m.le m'):RepL m' a l:=by
 refine⟨h.1,?_⟩
 rcases h.2 with h|⟨b,o,h1,h2⟩
 ·exact .inl h
 ·exact .inr ⟨b,o,h1,h2.mono hm⟩
theorem Rep.subs{m:Mem}{t:T}(h:Rep m t):RepL m t.a t.subs:=Zjn h
def ZbY(k mn mx:Int)(a:Option Addr)(c:Nat)(l:List T):T:=.node k 0 0 0 0 mn mx a c l
theorem ZfY{m:Mem}{k mn mx:Int}{a:Option Addr}{c:Nat}{l:List T}(h:RepL m a l)(hk:0<=k/\k < 256)(h1 : -9223372036854775808<=mn/\mn<=9223372036854775807)(h2 : -9223372036854775808<=mx/\mx<=9223372036854775807):Rep m (ZbY k mn mx a c l):=by
 simp only[ZbY,Rep]
 exact⟨h.1,h.2,⟨hk,by omega,by omega,by omega,by omega,h1,h2⟩⟩
theorem Zrb{m:Mem}{b:Nat}{t:T}(h:m.reads b 0 t.cs)(hr:Rep m t):RepL m (some ⟨b,0,none⟩) [t]:=⟨by simp,.inr ⟨b,0,rfl,by simp only[RepAt];exact⟨h,hr,trivial⟩⟩⟩
def ZcI(l:List T):List Value:=(l.map T.cs).flatten
theorem ZaL(l:List T):(ZcI l).length=l.length*8:=by
 induction l with
 | nil=>rfl
 | cons t l ih=>simp[ZcI,T.cs]at ih ⊢;omega
theorem ZaM(l r:List T):ZcI (l++r)=ZcI l++ZcI r:=by simp[ZcI]
theorem Zrc{m:Mem}{b:Nat}:∀{o:Nat} {l:List T},m.reads b o (ZcI l)->(∀t∈l,Rep m t)->RepAt m b o l
 | o,[],_,_=>by simp only[RepAt]
 | o,t::l,h,hr=>by
  simp only[RepAt]
  refine⟨λj v hj=>?_,hr t (by simp),Zrc (λj v hj=>?_) λx hx=>hr x (by simp[hx])⟩
  ·refine h j v ?_
   simp only[ZcI,List.map_cons,List.flatten_cons]
   rw[List.getElem?_append_left (List.getElem?_eq_some_iff.1 hj).1];exact hj
  ·have:=h (8+j) v (by
    simp only[ZcI,List.map_cons,List.flatten_cons]
    rw[List.getElem?_append_right (by simp[T.cs])]
    have e:8+j - t.cs.length=j:=by simp[T.cs]
    rw[e];exact hj)
   rw[show o+8+j=o+(8+j) by omega];exact this
theorem Zwg{m:Mem}{a:Option Addr}{l:List T}(h:rowRd m a (ZcI l))(hr:∀t∈l,Rep m t)(hl:l.length<=1000000000000000):RepL m a l:=by
 refine⟨hl,?_⟩
 cases l with
 | nil=>exact .inl rfl
 | cons t l=>
  rcases h with h|⟨b,o,h1,h2⟩
  ·simp[ZcI,T.cs]at h
  ·exact .inr ⟨b,o,h1,Zrc h2 hr⟩
theorem ZfZ{m:Mem}{a:Option Addr}{l:List T}(h:RepL m a l):rowRd m a (ZcI l):=by
 have key:∀(l:List T)(b o:Nat),RepAt m b o l->m.reads b o (ZcI l):=by
  intro l
  induction l with
  | nil=>intro b o _ j v hj;simp[ZcI]at hj
  | cons t l ih=>
   intro b o hr j v hj
   simp only[RepAt]at hr
   simp only[ZcI,List.map_cons,List.flatten_cons]at hj
   by_cases bB:j < 8
   ·rw[List.getElem?_append_left (by simpa[T.cs]using bB)]at hj
    exact hr.1 j v hj
   ·rw[List.getElem?_append_right (by simp[T.cs];omega)]at hj
    have:=ih b (o+8) hr.2.2 (j - 8) v (by simpa[T.cs,ZcI]using hj)
    rw[show o+8+(j - 8)=o+j by omega]at this;exact this
 rcases h.2 with h|⟨b,o,h1,h2⟩
 ·subst h;exact .inl rfl
 ·exact .inr ⟨b,o,h1,key l b o h2⟩
theorem Zoo{m:Mem}{a:Option Addr}{l:List T}(h:RepL m a l):∀t∈l,Rep m t:=by
 rcases h.2 with h|⟨b,o,_,h⟩
 ·subst h;simp
 ·intro t ht
  obtain⟨i,hi⟩:=List.getElem?_of_mem ht
  exact(h.get hi).2
def Zzi(j:Nat)(w c:Nat):Nat:=if c / 64=j then w|||2 ^ (c % 64)else w
def Ztw(bs:List Nat)(j:Nat):Nat:=bs.foldl (Zzi j) 0
theorem Zsy(l:List Nat)(c j:Nat):Ztw (l++[c]) j=if c / 64=j then Ztw l j|||2 ^ (c % 64)else Ztw l j:=by
 unfold Ztw
 rw[List.foldl_append];rfl
theorem ZtP(l:List Nat)(j:Nat):Ztw l j < 18446744073709551616:=by
 have key:∀(l:List Nat)(w:Nat),w < 2 ^ 64->l.foldl (Zzi j) w < 2 ^ 64:=by
  intro l
  induction l with
  | nil=>intro w h;exact h
  | cons c l ih=>
   intro w h
   refine ih _ ?_
   unfold Zzi
   split
   ·exact Nat.or_lt_two_pow h (Nat.pow_lt_pow_right (by omega) (by omega))
   ·exact h
 exact key l 0 (by decide)
def Zj7(bs:List Nat):T:=.node 2 (Ztw bs 0:Nat) (Ztw bs 1:Nat) (Ztw bs 2:Nat) (Ztw bs 3:Nat) 0 0 none 0 []
theorem Zop(bs:List Nat)(m:Mem):Rep m (Zj7 bs):=by
 simp only[Zj7,Rep]
 have h:=ZtP bs
 exact⟨by simp,.inl trivial,⟨by omega,⟨by omega,by have:=h 0;omega⟩,⟨by omega,by have:=h 1;omega⟩,⟨by omega,by have:=h 2;omega⟩,⟨by omega,by have:=h 3;omega⟩,by omega,by omega⟩⟩
def ZtQ(bs:List Nat):List Value:=[.int .u64 (Ztw bs 0:Nat),.int .u64 (Ztw bs 1:Nat),.int .u64 (Ztw bs 2:Nat),.int .u64 (Ztw bs 3:Nat)]
theorem Zsz(bs:List Nat){j:Nat}(h:j < 4):(ZtQ bs)[j]?=some (.int .u64 (Ztw bs j:Nat)):=by
 have:j=0\/j=1\/j=2\/j=3:=by omega
 rcases this with rfl|rfl|rfl|rfl <;> rfl
theorem Zqd(l:List Nat){c j:Nat}(hj:c / 64=j)(h:j < 4):ZaG (ZtQ l) j [.int .u64 ((Ztw l j|||2 ^ (c % 64):Nat):Int)]=ZtQ (l++[c]):=by
 unfold ZtQ
 simp only[Zsy,hj]
 have:j=0\/j=1\/j=2\/j=3:=by omega
 rcases this with rfl|rfl|rfl|rfl <;> rfl
def Zdq(n:Nat):List Nat:=([[97],[98],[97,98],[97],[98],[99],[97,98,99],[98,99],[10],[0,255],[97],[98]][n % 12]?).getD []
end Go.Rx
namespace Go.Rx
open Go Go.Eng
inductive E where
 | node (k:Int) (x:Nat) (s:ByteArray) (g:Int) (a:Option Addr) (c:Nat) (subs:List E)
def E.k:E->Int
 | .node k _ _ _ _ _ _=>k
def E.x:E->Nat
 | .node _ x _ _ _ _ _=>x
def E.s:E->ByteArray
 | .node _ _ s _ _ _ _=>s
def E.g:E->Int
 | .node _ _ _ g _ _ _=>g
def E.a:E->Option Addr
 | .node _ _ _ _ a _ _=>a
def E.c:E->Nat
 | .node _ _ _ _ _ c _=>c
def E.subs:E->List E
 | .node _ _ _ _ _ _ l=>l
def E.sl(t:E):Value:=.slice t.a t.subs.length t.c
def E.cs(t:E):List Value:=[.int .u8 t.k,.float .f64 t.x,.string t.s,.int .i64 t.g,t.sl]
def E.v(t:E):Value:=.agg #[.int .u8 t.k,.float .f64 t.x,.string t.s,.int .i64 t.g,.slice t.a t.subs.length t.c]
def E0:E:=.node 0 0 .empty 0 none 0 []
structure OkE (k:Int)(s:ByteArray)(g:Int):Prop where
 k:0<=k/\k < 256
 s:s.size<=1000000000000000
 g : -9223372036854775808<=g/\g<=9223372036854775807
mutual
def RepE(m:Mem):E->Prop
 | .node k x s g a _ l=>l.length<=1000000000000000/\(l=[]\/∃b o,a=some ⟨b,o,none⟩/\RepEAt m b o l)/\OkE k s g
def RepEAt(m:Mem)(b:Nat):Nat->List E->Prop
 | _,[]=>True
 | o,t::l=>m.reads b o t.cs/\RepE m t/\RepEAt m b (o+5) l
end
theorem ZvA(m:Mem):RepE m E0:=by simp only[E0,RepE];exact⟨by simp,.inl trivial,by constructor <;> decide⟩
theorem Zf0{m:Mem}{t:E}:RepE m t->(t.subs.length<=1000000000000000/\(t.subs=[]\/∃b o,t.a=some ⟨b,o,none⟩/\RepEAt m b o t.subs)):=by
 cases t;simp only[RepE,E.subs,E.a];exact λh=>⟨h.1,h.2.1⟩
theorem ZtR{m:Mem}{t:E}:RepE m t->OkE t.k t.s t.g:=by
 cases t;simp only[RepE];exact λh=>h.2.2
mutual
theorem RepE.mono{m m':Mem}(h:m.le m'):∀t:E,RepE m t->RepE m' t
 | .node _ _ _ _ a _ l,hr=>by
  simp only[RepE]at *
  refine⟨hr.1,?_,hr.2.2⟩
  rcases hr.2.1 with hr|⟨b,o,h1,h2⟩
  ·exact .inl hr
  ·exact .inr ⟨b,o,h1,RepEAt.mono h b o l h2⟩
theorem RepEAt.mono{m m':Mem}(h:m.le m')(b:Nat):∀(o:Nat)(l:List E),RepEAt m b o l->RepEAt m' b o l
 | _,[],_=>by simp only[RepEAt]
 | o,t::l,hr=>by
  simp only[RepEAt]at *
  exact⟨hr.1.mono h,RepE.mono h t hr.2.1,RepEAt.mono h b (o+5) l hr.2.2⟩
end
theorem RepE.mono'{m m':Mem}{t:E}(hr:RepE m t)(h:m.le m'):RepE m' t:=RepE.mono h t hr
theorem RepEAt.mono'{m m':Mem}{b o:Nat}{l:List E}(hr:RepEAt m b o l)(h:m.le m'):RepEAt m' b o l:=RepEAt.mono h b o l hr
theorem RepEAt.get{m:Mem}{b:Nat}:∀{o:Nat} {l:List E} {i:Nat} {t:E},RepEAt m b o l->l[i]?=some t->m.reads b (o+i*5) t.cs/\RepE m t
 | o,[],i,t,_,hi=>by simp at hi
 | o,x::l,0,t,h,hi=>by
  simp only[RepEAt]at h
  simp at hi;subst hi
  exact⟨by simpa using h.1,h.2.1⟩
 | o,x::l,i+1,t,h,hi=>by
  simp only[RepEAt]at h
  have:=h.2.2.get (i:=i) (by simpa using hi)
  rw[show o+(i+1)*5=o+5+i*5 by omega]
  exact this
mutual
def E.nodes:E->List E
 | .node k x s g a c l=>.node k x s g a c l::Zaq l
def Zaq:List E->List E
 | []=>[]
 | t::l=>t.nodes++Zaq l
end
theorem Zdy(t:E):t.nodes=t::Zaq t.subs:=by cases t;simp only[E.nodes,E.subs]
theorem ZaT(l r:List E):Zaq (l++r)=Zaq l++Zaq r:=by
 induction l with
 | nil=>simp[Zaq]
 | cons t l ih=>simp[Zaq,ih,List.append_assoc]
theorem Zmt{l:List E}{i:Nat}{t:E}(h:l[i]?=some t):Zaq (l.take (i+1))=Zaq (l.take i)++t.nodes:=by
 have:l.take (i+1)=l.take i++[t]:=by
  rw[List.take_add_one,h];rfl
 rw[this,ZaT];simp[Zaq]
theorem ZdU{l:List E}{i:Nat}{t:E}(h:l[i]?=some t):Zaq l=Zaq (l.take i)++(t.nodes++Zaq (l.drop (i+1))):=by
 have bB:=(List.getElem?_eq_some_iff.1 h).1
 have e:l=l.take i++(t::l.drop (i+1)):=by
  have:=List.drop_eq_getElem_cons bB
  rw[(List.getElem?_eq_some_iff.1 h).2]at this
  rw[<-this,List.take_append_drop]
 conv=>lhs;rw[e,ZaT]
 simp[Zaq]
theorem ZsA{t x z:E}{i q:Nat}(hx:t.subs[i]?=some x)(hz:x.nodes[q]?=some z):t.nodes[1+(Zaq (t.subs.take i)).length+q]?=some z:=by
 have hq:=(List.getElem?_eq_some_iff.1 hz).1
 rw[Zdy,show 1+(Zaq (t.subs.take i)).length+q=((Zaq (t.subs.take i)).length+q)+1 by omega,List.getElem?_cons_succ,ZdU hx,List.getElem?_append_right (by omega),List.getElem?_append_left (by omega),show(Zaq (List.take i t.subs)).length+q - (Zaq (List.take i t.subs)).length=q by omega]
 exact hz
theorem Zoq{t x:E}(h:x∈t.subs):SizeOf.sizeOf x < SizeOf.sizeOf t:=by
 cases t with
 | node k x s g a c l=>
  have h':_∈l:=h
  have:=List.sizeOf_lt_of_mem h'
  simp only[E.node.sizeOf_spec]
  omega
theorem ZlL(t:E):Shape.fitsL [.agg [.int .u8,.any,.str,.int .i64,.slice]] [t.v]=true:=by
 simp[Shape.fitsL,Shape.fits,E.v]
mutual
theorem Zor{m:Mem}:∀(t:E),RepE m t->∀x∈t.nodes,RepE m x
 | .node k x s g a c l,hr,z,hx=>by
  simp only[E.nodes,List.mem_cons]at hx
  rcases hx with rfl|hx
  ·exact hr
  ·simp only[RepE]at hr
   rcases hr.2.1 with h|⟨b,o,_,h⟩
   ·subst h;simp[Zaq]at hx
   ·exact ZlM b o l h z hx
theorem ZlM{m:Mem}(b:Nat):∀(o:Nat)(l:List E),RepEAt m b o l->∀x∈Zaq l,RepE m x
 | _,[],_,x,hx=>by simp[Zaq]at hx
 | o,t::l,hr,x,hx=>by
  simp only[RepEAt]at hr
  simp only[Zaq,List.mem_append]at hx
  rcases hx with hx|hx
  ·exact Zor t hr.2.1 x hx
  ·exact ZlM b (o+5) l hr.2.2 x hx
end
theorem Zqe{m:Mem}{t x:E}(h:RepE m t)(hx:x∈t.nodes):RepE m x:=Zor t h x hx
def Zwh:Nat:=9221120237041090561
def Zgb(x:Nat):Nat:=if Op.floatEq .f64 x x then x else Zwh
def ZsB(x y:Nat):Bool:=Zgb x == Zgb y
def Zfd(x:Nat):Bool:=Op.floatEq .f64 x x||x == Zwh
def E.light(t:E):Bool:=decide (t.nodes.length<=10000)
def E.size(t:E):Int:=if t.light then t.nodes.length else 0
mutual
def E.same:E->E->Bool
 | .node k x s g _ _ l,.node k' x' s' g' _ _ l'=>k == k'&&(ZsB x x'&&(s.toList == s'.toList&&(g == g'&&Zda l l')))
def Zda:List E->List E->Bool
 | [],[]=>true
 | t::l,t'::l'=>t.same t'&&Zda l l'
 | _,_=>false
end
theorem ZuD(t u:E):t.same u=(t.k == u.k&&(ZsB t.x u.x&&(t.s.toList == u.s.toList&&(t.g == u.g&&Zda t.subs u.subs)))):=by
 cases t;cases u;simp only[E.same,E.k,E.x,E.s,E.g,E.subs]
theorem ZlN:∀{l r:List E},¬l.length=r.length->Zda l r=false
 | [],[],h=>by simp at h
 | [],_::_,_=>by simp[Zda]
 | _::_,[],_=>by simp[Zda]
 | x::l,y::r,h=>by
  simp only[Zda,ZlN (l:=l) (r:=r) (by simpa using h),Bool.and_false]
theorem Zos:∀{l r:List E} {i:Nat} {x y:E},l[i]?=some x->r[i]?=some y->x.same y=false->Zda l r=false
 | [],r,i,x,y,h,_,_=>by simp at h
 | _::_,[],i,x,y,_,h,_=>by simp at h
 | a::l,b::r,0,x,y,h,k,e=>by
  simp at h k;subst h k
  simp[Zda,e]
 | a::l,b::r,i+1,x,y,h,k,e=>by
  simp only[Zda,Zos (l:=l) (r:=r) (i:=i) (by simpa using h) (by simpa using k) e,Bool.and_false]
theorem Zjo:∀{l r:List E} {i:Nat} {x y:E},l[i]?=some x->r[i]?=some y->Zda (l.take i) (r.take i)=true->x.same y=true->Zda (l.take (i+1)) (r.take (i+1))=true
 | [],r,i,x,y,h,_,_,_=>by simp at h
 | _::_,[],i,x,y,_,h,_,_=>by simp at h
 | a::l,b::r,0,x,y,h,k,_,e=>by
  simp at h k;subst h k
  simp[Zda,e]
 | a::l,b::r,i+1,x,y,h,k,hs,e=>by
  simp only[List.take_succ_cons,Zda,Bool.and_eq_true]at hs ⊢
  exact⟨hs.1,Zjo (by simpa using h) (by simpa using k) hs.2 e⟩
def E.most(t:E):Int:=if t.light then t.nodes.foldl (λn x=>if x.k=10 then(if x.g > n then x.g else n)else n) (-1)else -1
mutual
def E.names:E->List ByteArray->List ByteArray
 | .node k _ s _ _ _ l,out=>if k=9 then(if out.any (λy=>y.toList == s.toList)then out else out++[s])else ZbS l out
def ZbS:List E->List ByteArray->List ByteArray
 | [],out=>out
 | t::l,out=>ZbS l (t.names out)
end
theorem Zot(t:E)(out:List ByteArray):t.names out=if t.k=9 then(if out.any (λy=>y.toList == t.s.toList)then out else out++[t.s])else ZbS t.subs out:=by
 cases t;simp only[E.names,E.k,E.s,E.subs];rfl
mutual
theorem Zrd:∀(t:E)(out:List ByteArray),out.length<=(t.names out).length
 | .node k _ s _ _ _ l,out=>by
  simp only[E.names]
  split
  ·split <;> simp
  ·exact Zj8 l out
theorem Zj8:∀(l:List E)(out:List ByteArray),out.length<=(ZbS l out).length
 | [],out=>by simp[ZbS]
 | t::l,out=>by
  simp only[ZbS]
  exact Nat.le_trans (Zrd t out) (Zj8 l _)
end
theorem ZlO(l r:List E)(out:List ByteArray):ZbS (l++r) out=ZbS r (ZbS l out):=by
 induction l generalizing out with
 | nil=>simp[ZbS]
 | cons t l ih=>simp only[List.cons_append,ZbS,ih]
theorem Zqf{l:List E}{i:Nat}{t:E}(h:l[i]?=some t)(out:List ByteArray):ZbS (l.take (i+1)) out=t.names (ZbS (l.take i) out):=by
 have:l.take (i+1)=l.take i++[t]:=by rw[List.take_add_one,h];rfl
 rw[this,ZlO];simp[ZbS]
theorem ZsC{l:List E}{i:Nat}(out:List ByteArray):(ZbS (l.take i) out).length<=(ZbS l out).length:=by
 conv=>rhs;rw[<-List.take_append_drop i l,ZlO]
 exact Zj8 _ _
mutual
theorem Zf1:∀(t:E)(out:List ByteArray),(t.names out).length<=out.length+t.nodes.length
 | .node k _ s _ _ _ l,out=>by
  simp only[E.names,E.nodes,List.length_cons]
  split
  ·split
   ·omega
   ·rw[List.length_append,List.length_singleton];omega
  ·have:=Zg0 l out
   omega
theorem Zg0:∀(l:List E)(out:List ByteArray),(ZbS l out).length<=out.length+(Zaq l).length
 | [],out=>by simp[ZbS]
 | t::l,out=>by
  simp only[ZbS,Zaq,List.length_append]
  have:=Zf1 t out
  have:=Zg0 l (t.names out)
  omega
end
def E.vars(t:E):List ByteArray:=if t.light then t.names []else[]
theorem Zek(s:ByteArray):s.data.toList.length=s.size:=by rw[Array.length_toList];rfl
theorem ZtS(s:ByteArray):∀(n i:Nat)(r:List UInt8),s.size - i=n->ByteArray.toList.loop s i r=r.reverse++s.data.toList.drop i
 | 0,i,r,h=>by
  rw[ByteArray.toList.loop,if_neg (by omega),List.drop_of_length_le (by have:=Zek s;omega),List.append_nil]
 | n+1,i,r,h=>by
  have hs:=Zek s
  have hi:i < s.size:=by omega
  rw[ByteArray.toList.loop,if_pos hi,ZtS s n (i+1) _ (by omega),List.reverse_cons,List.append_assoc]
  have hd:=List.drop_eq_getElem_cons (l:=s.data.toList) (i:=i) (by omega)
  rw[hd]
  have e:s.get! i=s.data.toList[i]'(by omega):=by
   rw[Array.getElem_toList]
   exact getElem!_pos s.data i hi
  rw[e];rfl
theorem baL(s:ByteArray):s.toList=s.data.toList:=by
 have:=ZtS s _ 0 [] rfl
 simpa[ByteArray.toList]using this
theorem Zb5(s:ByteArray):(s.toList == ByteArray.toList ⟨#[]⟩)=(s.size == 0):=by
 rw[baL,baL,<-Zek]
 cases h:s.data.toList <;> simp[h] <;> rfl
theorem Zam{α:Type}{cs:α->List Value}{n:Nat}(hn:∀x,(cs x).length=n){m:Mem}{a:Option Addr}{L:List α}(h:rowRd m a (L.map cs).flatten){k:Nat}{t:α}(ht:L[k]?=some t)(h0:0 < n):∃b o,a=some ⟨b,o,none⟩/\m.reads b (o+k*n) (cs t):=by
 have bB:=(List.getElem?_eq_some_iff.1 ht).1
 have len:∀l:List α,(l.map cs).flatten.length=l.length*n:=λl=>by
  induction l with
  | nil=>simp
  | cons x l ih=>rw[List.map_cons,List.flatten_cons,List.length_append,hn,ih,List.length_cons,Nat.succ_mul];omega
 have e:(L.map cs).flatten=((L.take k).map cs).flatten++(cs t++((L.drop (k+1)).map cs).flatten):=by
  have e1:L=L.take k++(t::L.drop (k+1)):=by
   have:=List.drop_eq_getElem_cons bB
   rw[(List.getElem?_eq_some_iff.1 ht).2]at this
   rw[<-this,List.take_append_drop]
  conv=>lhs;rw[e1]
  rw[List.map_append,List.flatten_append,List.map_cons,List.flatten_cons]
 have hl:((L.take k).map cs).flatten.length=k*n:=by rw[len,List.length_take,Nat.min_eq_left (by omega)]
 rcases h with h|⟨b,o,ha,h⟩
 ·have:=congrArg List.length h
  rw[len,List.length_nil]at this
  have:0 < L.length*n:=Nat.mul_pos (by omega) h0
  omega
 ·refine⟨b,o,ha,λj v hj=>?_⟩
  have rP:=(List.getElem?_eq_some_iff.1 hj).1
  have:=h (k*n+j) v (by rw[e,List.getElem?_append_right (by omega),hl,Nat.add_sub_cancel_left,List.getElem?_append_left rP];exact hj)
  rw[Nat.add_assoc];exact this
theorem Zdr{α:Type}{cs:α->List Value}{n:Nat}(hn:∀x,(cs x).length=n)(l:List α):(l.map cs).flatten.length=l.length*n:=by
 induction l with
 | nil=>simp
 | cons x l ih=>rw[List.map_cons,List.flatten_cons,List.length_append,hn,ih,List.length_cons,Nat.succ_mul];omega
structure Pt where
 k:Int
 s:ByteArray
 g:Int
 e:E
def Pt.cs(p:Pt):List Value:=[.int .u8 p.k,.string p.s,.int .i64 p.g,.int .u8 p.e.k,.float .f64 p.e.x,.string p.e.s,.int .i64 p.e.g,.slice p.e.a p.e.subs.length p.e.c]
def Pt.v(p:Pt):Value:=.agg p.cs.toArray
structure Ac where
 k:Int
 s:ByteArray
 pa:Option Addr
 pc:Nat
 parts:List Pt
 e:E
def Ac.cs(a:Ac):List Value:=[.int .u8 a.k,.string a.s,.slice a.pa a.parts.length a.pc,.int .u8 a.e.k,.float .f64 a.e.x,.string a.e.s,.int .i64 a.e.g,.slice a.e.a a.e.subs.length a.e.c]
structure Ru where
 k:Int
 bg:Bool
 en:Bool
 t:T
 s:ByteArray
 n:Int
 aa:Option Addr
 ac:Nat
 acts:List Ac
 go:ByteArray
 code:Int
def Ru.cs(r:Ru):List Value:=[.int .u8 r.k,.bool r.bg,.bool r.en,.int .u8 r.t.k,.int .u64 r.t.s0,.int .u64 r.t.s1,.int .u64 r.t.s2,.int .u64 r.t.s3,.int .i64 r.t.mn,.int .i64 r.t.mx,.slice r.t.a r.t.subs.length r.t.c,.string r.s,.int .i64 r.n,.slice r.aa r.acts.length r.ac,.string r.go,.int .i64 r.code]
structure Sta where
 s:ByteArray
 ra:Option Addr
 rc:Nat
 rules:List Ru
def Sta.cs(x:Sta):List Value:=[.string x.s,.slice x.ra x.rules.length x.rc]
structure Va where
 s:ByteArray
 b:Bool
 t:ByteArray
 x:Nat
def Va.cs(v:Va):List Value:=[.string v.s,.bool v.b,.string v.t,.float .f64 v.x]
structure Sc where
 n:Int
 va:Option Addr
 vc:Nat
 vars:List Va
 sa:Option Addr
 sc:Nat
 states:List Sta
def Sc.cs(s:Sc):List Value:=[.int .i64 s.n,.slice s.va s.vars.length s.vc,.slice s.sa s.states.length s.sc]
def Sc.v(s:Sc):Value:=.agg #[.int .i64 s.n,.slice s.va s.vars.length s.vc,.slice s.sa s.states.length s.sc]
theorem Pt.len(p:Pt):p.cs.length=8:=rfl
theorem Ac.len(p:Ac):p.cs.length=8:=rfl
theorem Ru.len(p:Ru):p.cs.length=16:=rfl
theorem Sta.len(p:Sta):p.cs.length=2:=rfl
theorem Va.len(p:Va):p.cs.length=4:=rfl
def I64(n:Int):Prop:=-9223372036854775808<=n/\n<=9223372036854775807
def few:Nat:=100000
structure RepP (m:Mem)(p:Pt):Prop where
 k:0<=p.k/\p.k < 256
 s:p.s.size<=1000000000000000
 g:I64 p.g
 e:RepE m p.e
structure RepA (m:Mem)(a:Ac):Prop where
 k:0<=a.k/\a.k < 256
 s:a.s.size<=1000000000000000
 n:a.parts.length<=few
 row:rowRd m a.pa (a.parts.map Pt.cs).flatten
 all:∀p∈a.parts,RepP m p
 e:RepE m a.e
structure RepR (m:Mem)(r:Ru):Prop where
 k:0<=r.k/\r.k < 256
 t:Rep m r.t
 s:r.s.size<=1000000000000000
 n:I64 r.n
 len:r.acts.length<=few
 row:rowRd m r.aa (r.acts.map Ac.cs).flatten
 all:∀p∈r.acts,RepA m p
 go:r.go.size<=1000000000000000
 code:I64 r.code
structure RepS (m:Mem)(x:Sta):Prop where
 s:x.s.size<=1000000000000000
 len:x.rules.length<=few
 row:rowRd m x.ra (x.rules.map Ru.cs).flatten
 all:∀p∈x.rules,RepR m p
structure RepV (v:Va):Prop where
 s:v.s.size<=1000000000000000
 t:v.t.size<=1000000000000000
structure RepC (m:Mem)(s:Sc):Prop where
 n:I64 s.n
 vlen:s.vars.length<=few
 vrow:rowRd m s.va (s.vars.map Va.cs).flatten
 vall:∀v∈s.vars,RepV v
 len:s.states.length<=few
 row:rowRd m s.sa (s.states.map Sta.cs).flatten
 all:∀x∈s.states,RepS m x
 vcap:s.vars.length<=s.vc
 scap:s.states.length<=s.sc
section
variable {m m':Mem} (h:m.le m')
include h
theorem RepP.mono{p:Pt}(x:RepP m p):RepP m' p:=⟨x.k,x.s,x.g,RepE.mono h _ x.e⟩
theorem RepA.mono{p:Ac}(x:RepA m p):RepA m' p:=⟨x.k,x.s,x.n,x.row.mono h,λp hp=>(x.all p hp).mono h,RepE.mono h _ x.e⟩
theorem RepR.mono{p:Ru}(x:RepR m p):RepR m' p:=⟨x.k,x.t.mono h,x.s,x.n,x.len,x.row.mono h,λp hp=>(x.all p hp).mono h,x.go,x.code⟩
theorem RepS.mono{p:Sta}(x:RepS m p):RepS m' p:=⟨x.s,x.len,x.row.mono h,λp hp=>(x.all p hp).mono h⟩
theorem RepC.mono{p:Sc}(x:RepC m p):RepC m' p:=⟨x.n,x.vlen,x.vrow.mono h,x.vall,x.len,x.row.mono h,λp hp=>(x.all p hp).mono h,x.vcap,x.scap⟩
end
def nE(e:E):Int:=if e.light then e.size else 20001
def Zcu:List Int->Int
 | []=>0
 | x::l=>x+Zcu l
theorem Zre(l r:List Int):Zcu (l++r)=Zcu l+Zcu r:=by
 induction l with
 | nil=>simp[Zcu]
 | cons x l ih=>simp only[List.cons_append,Zcu,ih];omega
theorem ZeI{α:Type}{l:List α}{i:Nat}{x:α}(f:α->Int)(h:l[i]?=some x):Zcu ((l.take (i+1)).map f)=Zcu ((l.take i).map f)+f x:=by
 rw[List.take_add_one,h,List.map_append,Zre];simp[Zcu]
theorem Zik{α:Type}(f:α->Int)(hf:∀x,0<=f x):∀l:List α,0<=Zcu (l.map f)
 | []=>by simp[Zcu]
 | x::l=>by
  have:=Zik f hf l;have:=hf x
  simp only[List.map_cons,Zcu];omega
theorem Zj9{α:Type}(f:α->Int)(hf:∀x,0<=f x)(l:List α)(i:Nat):Zcu ((l.take i).map f)<=Zcu (l.map f):=by
 have e:Zcu (l.map f)=Zcu ((l.take i).map f)+Zcu ((l.drop i).map f):=by rw[<-Zre,<-List.map_append,List.take_append_drop]
 have:=Zik f hf (l.drop i)
 omega
def wA(a:Ac):Int:=1+nE a.e+a.parts.length+Zcu (a.parts.map λp=>nE p.e)
def wR(r:Ru):Int:=1+Zic r.t.size 20000+(if r.t.light then 0 else 20001)+Zcu (r.acts.map wA)
theorem ZsD(e:E):0<=nE e/\nE e<=20001:=by
 unfold nE E.size E.light
 split
 ·rename_i h
  simp only[decide_eq_true_eq]at h
  first|omega|(rw[if_pos (by simpa using h)];omega)
 ·omega
theorem ZlP(t:T):0<=t.size/\t.size<=10001:=by
 unfold T.size T.light
 split
 ·rename_i h;simp only[decide_eq_true_eq]at h;omega
 ·omega
theorem Zyo(a:Ac):0<=wA a:=by
 have:=(ZsD a.e).1
 have:=Zik (λp:Pt=>nE p.e) (λp=>(ZsD p.e).1) a.parts
 unfold wA;omega
theorem Zyp(r:Ru):0<=wR r:=by
 have:=Zik wA Zyo r.acts
 have h1:=(ZlP r.t).1
 have:0<=Zic r.t.size 20000:=by unfold Zic;split <;> omega
 unfold wR;split <;> omega
def wS(x:Sta):Int:=Zcu (x.rules.map wR)
theorem ZyZ(x:Sta):0<=wS x:=Zik wR Zyp _
def Sc.weight(s:Sc):Int:=s.vars.length+s.states.length+Zcu (s.states.map wS)
def Sc.light(s:Sc):Bool:=decide (s.weight<=20000)
structure Pl where
 v:Int
 s:Int
 r:Int
 a:Int
 p:Int
deriving DecidableEq
def Pl.cs(p:Pl):List Value:=[.int .i64 p.v,.int .i64 p.s,.int .i64 p.r,.int .i64 p.a,.int .i64 p.p]
def top:Pl:=⟨-1,-1,-1,-1,-1⟩
def Zdz(n:Nat)(f:Nat->List Pl):List Pl:=(List.range n).flatMap f
def plA(i k m:Nat)(a:Ac):List Pl:=⟨-1,i,k,m,-1⟩::Zdz a.parts.length λn=>[⟨-1,i,k,m,n⟩]
def plR(i k:Nat)(r:Ru):List Pl:=⟨-1,i,k,-1,-1⟩::Zdz r.acts.length λm=>match r.acts[m]? with
 | some a=>plA i k m a
 | none=>[]
def plS(i:Nat)(x:Sta):List Pl:=⟨-1,i,-1,-1,-1⟩::Zdz x.rules.length λk=>match x.rules[k]? with
 | some r=>plR i k r
 | none=>[]
def Sc.places(s:Sc):List Pl:=if s.light then top::(Zdz s.vars.length (λi=>[⟨i,-1,-1,-1,-1⟩])++Zdz s.states.length λi=>match s.states[i]? with
 | some x=>plS i x
 | none=>[])else[]
def Zb6:List (Int×Bool)->Int
 | []=>0
 | (e,w)::l=>if w then e else Zb6 l
def Zbl(n a b:Int):Bool:=decide (n ≥ a)&&decide (n<=b)
def eqS(a b:ByteArray):Bool:=a.toList == b.toList
def ZvB(c:UInt8):Bool:=(decide (97<=c.toNat)&&decide (c.toNat<=122))||(decide (48<=c.toNat)&&decide (c.toNat<=57))||c.toNat == 95
def Zmu:List ByteArray:=[⟨#[109,105,110]⟩,⟨#[109,97,120]⟩,⟨#[110,117,109]⟩]
def Zcv(s:ByteArray):Bool:=!(s.size == 0||decide (s.size > 16)||decide ((s.data.toList.getD 0 0).toNat < 97)||decide ((s.data.toList.getD 0 0).toNat > 122)||Zmu.any λw=>eqS w s)&&s.data.toList.all ZvB
def Zc8(s:Sc)(name:ByteArray):Bool×Bool:=match s.vars.find? λv=>eqS v.s name with
 | some v=>(v.b,true)
 | none=>(false,false)
def Zds(s:Sc)(e:E):Bool:=!e.vars.any λn=>!(Zc8 s n).1
def Zpz(e:E):Bool:=e.light&&(E0.light&&e.same E0)
def ZlQ(k:Int):Int:=if k=1 then 1 else if 2<=k/\k<=7 then 2 else 0
def Zqg:List E->Bool
 | u::_=>u.k == 8
 | []=>false
def E.right(t:E):Bool:=!(t.k == 0)&&(decide (t.k<=10)&&((if t.k=9 then Zcv t.s else t.s.size == 0)&&((if t.k=8 then Zfd t.x else ZsB t.x 0)&&((if t.k=10 then decide (t.g ≥ 0)&&decide (t.g<=9)else t.g == 0)&&((t.subs.length:Int) == ZlQ t.k&&!(t.k == 1&&(t.subs.length == 1&&Zqg t.subs)))))))
def E.clean(t:E):Bool:=t.light&&t.nodes.all E.right
def Zqh(s:Sc):Int:=Zb6 [(300,!Zbl s.n 2 256),(302,!Zbl s.states.length 1 24||decide (s.vars.length > 12))]
def Zfe(v:Va):Bool:=if v.b then Zfd v.x&&v.t.size == 0 else v.x == 0&&decide (v.t.size<=512)
def Zff(s:Sc)(i:Nat)(v:Va):Int:=Zb6 [(301,!Zcv v.s||(!Zfe v||(s.vars.take i).any λx=>eqS x.s v.s))]
def Zou(s:Sc)(i:Nat)(x:Sta):Int:=Zb6 [(303,!Zcv x.s||(decide (x.rules.length > 12)||(s.states.take i).any λy=>eqS y.s x.s))]
def Zw9(r:Ru):Bool:=r.bg||(r.en||!(r.t.light&&(T0.light&&r.t.same T0)))
def Za4(r:Ru):Bool:=if r.k=2 then !Zw9 r&&(r.n == 0&&Zbl r.s.size 1 64)else if r.k=4 then !Zw9 r&&(r.s.size == 0&&Zbl r.n 1 1000)else if r.k=3 then !Zw9 r&&(r.s.size == 0&&r.n == 0)else if r.k=1 then r.s.size == 0&&r.n == 0 else false
def Zcb(r:Ru):Int:=if r.k=1 then r.t.groups else if r.k=2 then 0 else -1
def Zka(s:Sc)(name:ByteArray):Bool:=(s.states.any λx=>eqS x.s name)&&s.light
def ZpA(s:Sc)(r:Ru)(total:Int):Int:=Zb6 [(304,!Za4 r||decide (r.acts.length > 8)),(305,r.k == 1&&(!(r.t.check == 0)||decide (total > 600))),
 (306,if r.go.size=0 then !Zbl r.code 0 255 else !Zka s r.go||!(r.code == 0))]
def ZdL(s:Sc)(r:Ru)(a:Ac):Int:=Zb6 [(307,!Zbl a.k 1 3||(a.k == 1&&!(a.s.size == 0))||(a.k == 3&&decide (a.parts.length > 0))||(a.k == 3&&!a.e.clean)||(!(a.k == 3)&&!Zpz a.e)||decide (a.parts.length > 16)),
 (308,(!(a.k == 1)&&(!(Zc8 s a.s).2||!((Zc8 s a.s).1 == (a.k == 3))))||(a.k == 3&&!Zds s a.e)),(309,a.k == 3&&decide (a.e.most > Zcb r))]
def ZbA(p:Pt):Bool:=if p.k=1 then decide (p.s.size > 0)&&(decide (p.s.size<=512)&&(p.g == 0&&Zpz p.e))else if p.k=2 then Zcv p.s&&(p.g == 0&&Zpz p.e)else if p.k=3 then decide (p.g ≥ 0)&&(decide (p.g<=9)&&(p.s.size == 0&&Zpz p.e))else if p.k=4 then p.e.clean&&(p.s.size == 0&&p.g == 0)else false
def Znh(s:Sc)(r:Ru)(l:List Pt)(i:Nat)(p:Pt):Int:=Zb6 [(307,!ZbA p||(decide (i > 0)&&(p.k == 1&&(match l[i - 1]? with
 | some q=>q.k == 1
 | none=>false)))),(308,(p.k == 2&&!(Zc8 s p.s).2)||(p.k == 4&&!Zds s p.e)),(309,(p.k == 3&&decide (p.g > Zcb r))||(p.k == 4&&decide (p.e.most > Zcb r)))]
def sizeR(r:Ru):Int:=if r.k=1 then r.t.size else 0
def totals(s:Sc)(i k:Nat):Int:=Zcu ((s.states.take i).map λx=>Zcu (x.rules.map sizeR))+(match s.states[i]? with
 | some x=>Zcu ((x.rules.take (k+1)).map sizeR)
 | none=>0)
def atS(s:Sc)(p:Pl):Int:=if p.v ≥ 0 then(match s.vars[p.v.toNat]? with
  | some v=>Zff s p.v.toNat v
  | none=>0)else if p.s < 0 then Zqh s else match s.states[p.s.toNat]? with
  | none=>0
  | some x=>if p.r < 0 then Zou s p.s.toNat x else match x.rules[p.r.toNat]? with
   | none=>0
   | some r=>if p.a < 0 then ZpA s r (totals s p.s.toNat p.r.toNat)else match r.acts[p.a.toNat]? with
    | none=>0
    | some a=>if p.p < 0 then ZdL s r a else match a.parts[p.p.toNat]? with
     | none=>0
     | some q=>Znh s r a.parts p.p.toNat q
def Sc.problems(s:Sc):List (Pl×Int):=s.places.filterMap λp=>if atS s p=0 then none else some (p,atS s p)
def Sc.check(s:Sc):Pl×Int:=if s.light then(match s.problems with
 | p::_=>p
 | []=>(top,0))else(top,5)
theorem ZbZ(n:Nat)(f:Nat->List Pl):Zdz (n+1) f=Zdz n f++f n:=by simp[Zdz,List.range_succ,List.flatMap_append]
theorem Zrf{i n:Nat}(h:i<=n)(f:Nat->List Pl):(Zdz i f).length<=(Zdz n f).length:=by
 induction n with
 | zero=>
  obtain rfl:i=0:=by omega
  exact Nat.le_refl _
 | succ n ih=>
  by_cases e:i=n+1
  ·rw[e];exact Nat.le_refl _
  ·have:=ih (by omega)
   rw[ZbZ,List.length_append];omega
theorem Zf2(n:Nat)(f:Nat->Pl):(Zdz n λi=>[f i]).length=n:=by
 induction n with
 | zero=>rfl
 | succ n ih=>rw[ZbZ,List.length_append,ih];rfl
theorem Znq{α:Type}(l:List α)(F:Nat->List Pl)(g:Nat->α->List Pl)(w:α->Int)(hF:∀i x,l[i]?=some x->F i=g i x)(hw:∀i x,x∈l->((g i x).length:Int)<=w x):∀k,k<=l.length->((Zdz k F).length:Int)<=Zcu ((l.take k).map w):=by
 intro k
 induction k with
 | zero=>intro _;simp[Zdz,Zcu]
 | succ k ih=>
  intro hk
  have:=ih (by omega)
  have hx:l[k]?=some l[k]:=List.getElem?_eq_getElem (by omega)
  have h2:=hw k l[k] (List.getElem_mem _)
  rw[ZbZ,List.length_append,ZeI w hx,hF k _ hx]
  push_cast
  omega
def Hf(i k:Nat)(r:Ru)(m:Nat):List Pl:=match r.acts[m]? with
 | some a=>plA i k m a
 | none=>[]
def Gf(i:Nat)(x:Sta)(k:Nat):List Pl:=match x.rules[k]? with
 | some r=>plR i k r
 | none=>[]
def Ff(s:Sc)(i:Nat):List Pl:=match s.states[i]? with
 | some x=>plS i x
 | none=>[]
def Pf(i k m n:Nat):List Pl:=[⟨-1,i,k,m,n⟩]
def Vf(i:Nat):List Pl:=[⟨i,-1,-1,-1,-1⟩]
theorem ZsE(i k m:Nat)(a:Ac):plA i k m a=⟨-1,i,k,m,-1⟩::Zdz a.parts.length (Pf i k m):=rfl
theorem ZsF(i k:Nat)(r:Ru):plR i k r=⟨-1,i,k,-1,-1⟩::Zdz r.acts.length (Hf i k r):=rfl
theorem ZsG(i:Nat)(x:Sta):plS i x=⟨-1,i,-1,-1,-1⟩::Zdz x.rules.length (Gf i x):=rfl
theorem Zg1{s:Sc}(h:s.light=true):s.places=top::(Zdz s.vars.length Vf++Zdz s.states.length (Ff s)):=by unfold Sc.places;rw[if_pos h];rfl
theorem ZlR(s:Sc):s.places.length<=20001:=by
 cases h:s.light with
 | false=>unfold Sc.places;rw[h];simp
 | true=>
  have hw:s.weight<=20000:=by unfold Sc.light at h;exact of_decide_eq_true h
  rw[Zg1 h,List.length_cons,List.length_append]
  have h1:(Zdz s.vars.length Vf).length=s.vars.length:=Zf2 _ _
  have hA:∀i k m (a:Ac),((plA i k m a).length:Int)<=wA a:=λi k m a=>by
   rw[ZsE,List.length_cons,show(Zdz a.parts.length (Pf i k m)).length=a.parts.length from Zf2 _ _]
   have:=(ZsD a.e).1
   have:=Zik (λp:Pt=>nE p.e) (λp=>(ZsD p.e).1) a.parts
   unfold wA;push_cast;omega
  have hR:∀i k (r:Ru),((plR i k r).length:Int)<=wR r:=λi k r=>by
   rw[ZsF,List.length_cons]
   have:=Znq r.acts (Hf i k r) (plA i k) wA (λm a h=>by unfold Hf;rw[h]) (λj x _=>hA i k j x) r.acts.length (Nat.le_refl _)
   rw[List.take_length]at this
   have h1:=(ZlP r.t).1
   have h2:0<=Zic r.t.size 20000:=by unfold Zic;split <;> omega
   have h3:((Zdz r.acts.length (Hf i k r)).length:Int)<=Zcu (r.acts.map wA):=this
   unfold wR;push_cast;split <;> omega
  have hS:∀i (x:Sta),((plS i x).length:Int)<=1+wS x:=λi x=>by
   rw[ZsG,List.length_cons]
   have:=Znq x.rules (Gf i x) (plR i) wR (λm a h=>by unfold Gf;rw[h]) (λj x _=>hR i j x) x.rules.length (Nat.le_refl _)
   rw[List.take_length]at this
   have h3:((Zdz x.rules.length (Gf i x)).length:Int)<=Zcu (x.rules.map wR):=this
   unfold wS;push_cast;omega
  have:=Znq s.states (Ff s) plS (λx=>1+wS x) (λm a h=>by unfold Ff;rw[h]) (λj x _=>hS j x) s.states.length (Nat.le_refl _)
  rw[List.take_length]at this
  have h3:((Zdz s.states.length (Ff s)).length:Int)<=Zcu (s.states.map λx=>1+wS x):=this
  have h4:∀l:List Sta,Zcu (l.map λx=>1+wS x)=l.length+Zcu (l.map wS):=λl=>by
   induction l with
   | nil=>rfl
   | cons x l ih=>simp only[List.map_cons,Zcu,ih,List.length_cons];push_cast;omega
  rw[h4]at h3
  unfold Sc.weight at hw
  omega
theorem Zh0{n:Nat}{f:Nat->List Pl}{p:Pl}(h:p∈Zdz n f):∃i,i < n/\p∈f i:=by
 unfold Zdz at h
 obtain⟨i,hi,hp⟩:=List.mem_flatMap.1 h
 exact⟨i,List.mem_range.1 hi,hp⟩
def Zzj(s:Sc)(p:Pl):Prop:=(∃i:Nat,p.v=i/\∃v,s.vars[i]?=some v)\/(p.v < 0/\(p.s < 0\/∃i:Nat,p.s=i/\∃x,s.states[i]?=some x/\(p.r < 0\/∃k:Nat,p.r=k/\∃r,x.rules[k]?=some r/\(p.a < 0\/∃j:Nat,p.a=j/\∃a,r.acts[j]?=some a/\(p.p < 0\/∃n:Nat,p.p=n/\∃q,a.parts[n]?=some q)))))
theorem ZxO:(-1:Int) < 0:=by decide
theorem ZvC{α:Type}{l:List α}{n:Nat}(h:n < l.length):∃c,l[n]?=some c:=⟨_,List.getElem?_eq_getElem h⟩
theorem Zov(s:Sc):∀p∈s.places,Zzj s p:=by
 intro p hp
 cases h:s.light with
 | false=>unfold Sc.places at hp;rw[h]at hp;simp at hp
 | true=>
  rw[Zg1 h]at hp
  rcases List.mem_cons.1 hp with rfl|hp
  ·exact .inr ⟨by decide,.inl (by decide)⟩
  rcases List.mem_append.1 hp with hp|hp
  ·obtain⟨i,hi,hp⟩:=Zh0 hp
   obtain rfl:p=⟨i,-1,-1,-1,-1⟩:=by simpa[Vf]using hp
   exact .inl ⟨i,rfl,ZvC hi⟩
  ·obtain⟨i,hi,hp⟩:=Zh0 hp
   obtain⟨x,hx⟩:=ZvC hi
   have hp:p∈plS i x:=by unfold Ff at hp;rw[hx]at hp;exact hp
   rw[ZsG]at hp
   rcases List.mem_cons.1 hp with rfl|hp
   ·exact .inr ⟨ZxO,.inr ⟨i,rfl,x,hx,.inl (ZxO)⟩⟩
   obtain⟨k,hk,hp⟩:=Zh0 hp
   obtain⟨r,hr⟩:=ZvC hk
   have hp:p∈plR i k r:=by unfold Gf at hp;rw[hr]at hp;exact hp
   rw[ZsF]at hp
   rcases List.mem_cons.1 hp with rfl|hp
   ·exact .inr ⟨ZxO,.inr ⟨i,rfl,x,hx,.inr ⟨k,rfl,r,hr,.inl (ZxO)⟩⟩⟩
   obtain⟨j,hj,hp⟩:=Zh0 hp
   obtain⟨a,ha⟩:=ZvC hj
   have hp:p∈plA i k j a:=by unfold Hf at hp;rw[ha]at hp;exact hp
   rw[ZsE]at hp
   rcases List.mem_cons.1 hp with rfl|hp
   ·exact .inr ⟨ZxO,.inr ⟨i,rfl,x,hx,.inr ⟨k,rfl,r,hr,.inr ⟨j,rfl,a,ha,.inl (ZxO)⟩⟩⟩⟩
   obtain⟨n,hn,hp⟩:=Zh0 hp
   obtain rfl:p=⟨-1,i,k,j,n⟩:=by simpa[Pf]using hp
   exact .inr ⟨ZxO,.inr ⟨i,rfl,x,hx,.inr ⟨k,rfl,r,hr,.inr ⟨j,rfl,a,ha,.inr ⟨n,rfl,ZvC hn⟩⟩⟩⟩⟩
end Go.Rx
namespace Go.Rx
open Go Go.Eng Go.RowKit
def T.good(t:T):Bool:=t.nodes.all T.right
def isG(t:T):Bool:=t.k == 6
theorem ZlS(p:T->Bool):∀l:List T,(ZaJ l).all p=l.all λt=>t.nodes.all p
 | []=>rfl
 | t::l=>by simp only[ZaJ,List.all_append,List.all_cons,ZlS p l]
theorem Zow(t:T):t.good=(t.right&&t.subs.all T.good):=by
 unfold T.good;rw[Zdp,List.all_cons,ZlS]
def grL(l:List T):Nat:=(ZaJ l).countP isG
def szL(l:List T):Nat:=(ZaJ l).length
def T.gr(t:T):Nat:=t.nodes.countP isG
theorem ZaE(l r:List T):szL (l++r)=szL l+szL r:=by unfold szL;rw[Zc2,List.length_append]
theorem Zbx(l r:List T):grL (l++r)=grL l+grL r:=by unfold grL;rw[Zc2,List.countP_append]
theorem Zbj(t:T):szL [t]=t.nodes.length:=by simp[szL,ZaJ]
theorem Zc3(t:T):grL [t]=t.gr:=by simp[grL,ZaJ,T.gr]
theorem Zcq(t:T):Zfc [t]=t.pos:=by simp[Zfc]
theorem ZeJ(t:T)(l:List T):szL (t::l)=t.nodes.length+szL l:=by simp[szL,ZaJ]
theorem Zrg(t:T)(l:List T):grL (t::l)=t.gr+grL l:=by simp[grL,ZaJ,T.gr,List.countP_append]
theorem ZlT(t:T):t.nodes.length=1+szL t.subs:=by rw[Zdp,List.length_cons,szL];omega
theorem ZvD(t:T):t.gr=(if isG t=true then 1 else 0)+grL t.subs:=by
 unfold T.gr;rw[Zdp,List.countP_cons,grL];omega
theorem Zrh(l:List T):l.length<=szL l:=by
 induction l with
 | nil=>simp
 | cons t l ih=>rw[ZeJ,ZlT,List.length_cons];omega
def Za3(k:Int)(t:T):List T:=if t.k=k then t.subs else if k=3/\t.k=1 then[]else[t]
def Zfg(k:Int)(a:Option Addr)(c:Nat):List T->T
 | []=>T1
 | [x]=>x
 | x::y::l=>ZbY k 0 0 a c (x::y::l)
theorem Zkb{t:T}{k:Int}(h:t.has k=false):∀x∈t.subs,x.k≠k:=by
 intro x hx e
 unfold T.has at h
 have:=List.any_eq_false.1 h x hx
 simp[e]at this
theorem ZuE{t:T}{k:Int}(h:∀x∈t.subs,x.k≠k):t.has k=false:=by
 unfold T.has
 rw[List.any_eq_false]
 intro x hx
 have:=h x hx
 simpa using this
theorem Zkc{k:Int}{t:T}(hk:k=3\/k=4)(hg:t.good=true)(hp:t.pos<=10000):(∀x∈Za3 k t,x.good=true/\x.k≠k/\(k=3->x.k≠1))/\szL (Za3 k t)<=t.nodes.length/\grL (Za3 k t)<=t.gr/\Zfc (Za3 k t)<=t.pos:=by
 have hg':=hg
 rw[Zow,Bool.and_eq_true,List.all_eq_true]at hg'
 unfold Za3
 split
 ·rename_i fl
  refine⟨λx hx=>⟨hg'.2 x hx,?_⟩,by rw[ZlT];omega,by rw[ZvD];omega,?_⟩
  ·have hr:=hg'.1
   unfold T.right at hr
   rw[Bool.and_eq_true]at hr
   have hr:=hr.2
   rcases hk with rfl|rfl
   ·simp only[fl]at hr
    simp at hr
    exact⟨Zkb hr.2.2 x hx,λ_=>Zkb hr.2.1 x hx⟩
   ·simp only[fl]at hr
    simp at hr
    exact⟨Zkb hr.2 x hx,λh=>by omega⟩
  ·rw[Zqc]at hp ⊢
   have h5:¬t.k=5:=by omega
   have h2:¬t.k=2:=by omega
   unfold Zvz at hp ⊢
   rw[if_neg h5,if_neg h2,Int.zero_add]at hp ⊢
   unfold Zic at hp ⊢
   split at hp
   ·omega
   ·split <;> omega
 ·rename_i fl
  split
  ·refine⟨λx hx=>by simp at hx,by simp[szL,ZaJ],by simp[grL,ZaJ],?_⟩
   simp only[Zfc];exact(Zij t).1
  ·rename_i uS
   refine⟨λx hx=>?_,by rw[Zbj];exact Nat.le_refl _,by rw[Zc3];exact Nat.le_refl _,by rw[Zcq];exact Int.le_refl _⟩
   simp at hx;subst hx
   exact⟨hg,fl,λh=>λh1=>uS ⟨h,h1⟩⟩
theorem Zox{k:Int}(hk:k=3\/k=4)(a:Option Addr)(c:Nat):∀{l:List T},(∀x∈l,x.good=true/\x.k≠k/\(k=3->x.k≠1))->(Zfg k a c l).good=true/\(Zfg k a c l).nodes.length<=1+szL l/\(Zfg k a c l).gr<=grL l/\(Zfg k a c l).pos<=Zfc l
 | [],_=>⟨show T1.good=true by decide,show T1.nodes.length<=1 by decide,show T1.gr<=0 by decide,show T1.pos<=0 by decide⟩
 | [x],h=>by
  rw[Zbj,Zc3,Zcq]
  exact⟨(h x (by simp)).1,by show x.nodes.length<=_;omega,Nat.le_refl _,Int.le_refl _⟩
 | x::y::l,h=>by
  show(ZbY k 0 0 a c (x::y::l)).good=true/\(ZbY k 0 0 a c (x::y::l)).nodes.length<=_/\(ZbY k 0 0 a c (x::y::l)).gr<=_/\(ZbY k 0 0 a c (x::y::l)).pos<=_
  have hs:(ZbY k 0 0 a c (x::y::l)).subs=x::y::l:=rfl
  have fl:(ZbY k 0 0 a c (x::y::l)).k=k:=rfl
  have hz:(ZbY k 0 0 a c (x::y::l)).setZ=true:=rfl
  have tr:(ZbY k 0 0 a c (x::y::l)).mn=0:=rfl
  have lx:(ZbY k 0 0 a c (x::y::l)).mx=0:=rfl
  refine⟨?_,by rw[ZlT,hs];exact Nat.le_refl _,?_,?_⟩
  ·rw[Zow,Bool.and_eq_true,List.all_eq_true,hs]
   refine⟨?_,λz hz=>(h z hz).1⟩
   have h1:k=3->(ZbY k 0 0 a c (x::y::l)).has 1=false:=λe=>ZuE λz hz=>(h z hz).2.2 e
   have h2:(ZbY k 0 0 a c (x::y::l)).has k=false:=ZuE λz hz=>(h z hz).2.1
   unfold T.right
   rw[fl,hz,tr,lx,hs]
   rcases hk with rfl|rfl
   ·simp[h1 rfl,h2]
   ·simp[h2]
  ·rw[ZvD,hs,isG,fl]
   rcases hk with rfl|rfl <;> simp
  ·rw[Zqc,fl,tr,lx,hs]
   unfold Zvz
   rw[if_neg (by omega),if_neg (by omega),Int.zero_add]
   exact(ZlK _ _).1
structure J (i:Nat)(ts:List T)(u g:Nat):Prop where
 good:∀t∈ts,t.good=true
 sz:szL ts<=i
 pos:Zfc ts<=(i*u:Nat)
 u1:1<=u
 u16:u<=16
 gr:grL ts<=g
 g9:g<=9
theorem J.zero:J 0 [] 1 0:=⟨by simp,by simp[szL,ZaJ],by simp[Zfc],by omega,by omega,by simp[grL,ZaJ],by omega⟩
theorem J.skip{i ts u g}(h:J i ts u g):J (i+1) ts u g:=
 ⟨h.good,by have:=h.sz;omega,by have:=h.pos;have e:(i+1)*u=i*u+u:=Nat.succ_mul i u;rw[e];omega,h.u1,h.u16,h.gr,h.g9⟩
theorem J.push{i ts u g}(h:J i ts u g){t:T}(hg:t.good=true)(hs:t.nodes.length=1)(hp:t.pos<=1)(hr:t.gr=0):J (i+1) (ts++[t]) u g:=by
 refine⟨λx hx=>?_,?_,?_,h.u1,h.u16,?_,h.g9⟩
 ·rcases List.mem_append.1 hx with hx|hx
  ·exact h.good x hx
  ·simp at hx;subst hx;exact hg
 ·rw[ZaE,Zbj,hs];have:=h.sz;omega
 ·rw[Zbb,Zcq];have:=h.pos;have:=h.u1;have e:(i+1)*u=i*u+u:=Nat.succ_mul i u;rw[e];omega
 ·rw[Zbx,Zc3,hr];have:=h.gr;omega
theorem J.pos400{i ts u g}(h:J i ts u g)(hi:i<=25):Zfc ts<=400:=by
 have h1:=h.pos
 have:i*u<=25*16:=Nat.mul_le_mul hi h.u16
 omega
theorem J.join{i ts u g}{x y:T}(h:J i (ts++[x,y]) u g)(hi:i<=25){k:Int}(hk:k=3\/k=4)(a:Option Addr)(c:Nat):J (i+1) (ts++[Zfg k a c (Za3 k x++Za3 k y)]) u g:=by
 have h4:=h.pos400 hi
 have hz:=h.sz
 have hp:=h.pos
 have lO:=h.gr
 rw[show ts++[x,y]=ts++([x]++[y]) from rfl]at h4 hz hp lO
 rw[Zbb,Zbb,Zcq,Zcq]at h4 hp
 rw[ZaE,ZaE,Zbj,Zbj]at hz
 rw[Zbx,Zbx,Zc3,Zc3]at lO
 have n1:=ZgY ts
 have n2:=(Zij x).1
 have n3:=(Zij y).1
 obtain⟨a1,a2,a3,a4⟩:=Zkc hk (h.good x (by simp)) (by omega)
 obtain⟨b1,b2,b3,b4⟩:=Zkc hk (h.good y (by simp)) (by omega)
 obtain⟨c1,c2,c3,c4⟩:=Zox hk a c (l:=Za3 k x++Za3 k y) (λz hz=>by
  rcases List.mem_append.1 hz with hz|hz
  ·exact a1 z hz
  ·exact b1 z hz)
 rw[ZaE]at c2
 rw[Zbx]at c3
 rw[Zbb]at c4
 refine⟨λz hz=>?_,?_,?_,h.u1,h.u16,?_,h.g9⟩
 ·rcases List.mem_append.1 hz with hz|hz
  ·exact h.good z (by simp[hz])
  ·simp at hz;subst hz;exact c1
 ·rw[ZaE,Zbj];omega
 ·rw[Zbb,Zcq];have e:(i+1)*u=i*u+u:=Nat.succ_mul i u;rw[e];omega
 ·rw[Zbx,Zc3];omega
theorem J.group{i ts u g}{x:T}(h:J i (ts++[x]) u g)(hg:g < 9)(a:Option Addr)(c:Nat):J (i+1) (ts++[ZbY 6 0 0 a c [x]]) u (g+1):=by
 have hz:=h.sz
 have hp:=h.pos
 have lO:=h.gr
 rw[Zbb,Zcq]at hp
 rw[ZaE,Zbj]at hz
 rw[Zbx,Zc3]at lO
 have hs:(ZbY 6 0 0 a c [x]).subs=[x]:=rfl
 refine⟨λz hz=>?_,?_,?_,h.u1,h.u16,?_,by omega⟩
 ·rcases List.mem_append.1 hz with hz|hz
  ·exact h.good z (by simp[hz])
  ·simp at hz;subst hz
   rw[Zow,Bool.and_eq_true,List.all_eq_true]
   refine⟨rfl,λz hz=>?_⟩
   rw[hs]at hz;simp at hz;subst hz
   exact h.good z (by simp)
 ·rw[ZaE,Zbj,ZlT,hs,Zbj];omega
 ·rw[Zbb,Zcq,Zqc,hs,Zcq]
  have:Zvz (ZbY 6 0 0 a c [x]).k (ZbY 6 0 0 a c [x]).mn (ZbY 6 0 0 a c [x]).mx ((if(ZbY 6 0 0 a c [x]).k=2 then 1 else 0)+x.pos)<=x.pos:=by
   show Zic (if(6:Int)=5 then _ else(if(6:Int)=2 then 1 else 0)+x.pos) 10001<=_
   rw[if_neg (by omega),if_neg (by omega),Int.zero_add]
   exact(ZlK _ _).1
  have e:(i+1)*u=i*u+u:=Nat.succ_mul i u
  rw[e];omega
 ·rw[Zbx,Zc3,ZvD,hs,Zc3]
  split <;> omega
theorem J.rep{i ts u g}{x:T}(h:J i (ts++[x]) u g)(hx:x.k≠1){mn mx:Int}(hb:Zj6 mn mx=true){w:Nat}(hw:ZuB mn mx<=w)(h1:1<=w)(hu:u*w<=16)(a:Option Addr)(c:Nat):J (i+1) (ts++[ZbY 5 mn mx a c [x]]) (u*w) g:=by
 have hz:=h.sz
 have hp:=h.pos
 have lO:=h.gr
 rw[Zbb,Zcq]at hp
 rw[ZaE,Zbj]at hz
 rw[Zbx,Zc3]at lO
 have hs:(ZbY 5 mn mx a c [x]).subs=[x]:=rfl
 have n1:=ZgY ts
 have n2:=(Zij x).1
 refine⟨λz hz=>?_,?_,?_,?_,hu,?_,h.g9⟩
 ·rcases List.mem_append.1 hz with hz|hz
  ·exact h.good z (by simp[hz])
  ·simp at hz;subst hz
   rw[Zow,Bool.and_eq_true,List.all_eq_true]
   refine⟨?_,λz hz=>?_⟩
   ·have hh:(ZbY 5 mn mx a c [x]).has 1=false:=ZuE λz hz=>by rw[hs]at hz;simp at hz;subst hz;exact hx
    unfold T.right
    rw[hh,hs,show(ZbY 5 mn mx a c [x]).k=5 from rfl,show(ZbY 5 mn mx a c [x]).setZ=true from rfl,show(ZbY 5 mn mx a c [x]).mn=mn from rfl,show(ZbY 5 mn mx a c [x]).mx=mx from rfl,hb]
    simp
   ·rw[hs]at hz;simp at hz;subst hz
    exact h.good z (by simp)
 ·rw[ZaE,Zbj,ZlT,hs,Zbj];omega
 ·rw[Zbb,Zcq,Zqc,hs,Zcq]
  have key:Zvz (ZbY 5 mn mx a c [x]).k (ZbY 5 mn mx a c [x]).mn (ZbY 5 mn mx a c [x]).mx ((if(ZbY 5 mn mx a c [x]).k=2 then 1 else 0)+x.pos)<=x.pos*w:=by
   show Zic (if(5:Int)=5 then((if(5:Int)=2 then 1 else 0)+x.pos)*ZuB mn mx else _) 10001<=_
   rw[if_pos rfl,if_neg (by omega),Int.zero_add]
   exact Int.le_trans (ZlK _ _).1 (Int.mul_le_mul_of_nonneg_left hw n2)
  have k2:Zfc ts<=Zfc ts*w:=by
   have:=Int.mul_le_mul_of_nonneg_left (show(1:Int)<=w by omega) n1
   rw[Int.mul_one]at this;exact this
  have k3:(Zfc ts+x.pos)*w<=((i*u:Nat):Int)*w:=Int.mul_le_mul_of_nonneg_right hp (by omega)
  rw[Int.add_mul]at k3
  have e:(i+1)*(u*w)=i*u*w+u*w:=by rw[Nat.succ_mul,Nat.mul_assoc]
  have e2:(((i*u:Nat):Int)*w)=((i*u*w:Nat):Int):=by push_cast;rfl
  rw[e2]at k3
  rw[e]
  generalize i*u*w=A at *
  generalize u*w=B at *
  generalize Zfc ts*(w:Int)=D at *
  generalize x.pos*(w:Int)=F at *
  omega
 ·have:=Nat.mul_le_mul h.u1 h1;omega
 ·rw[Zbx,Zc3,ZvD,hs,Zc3,isG,show(ZbY 5 mn mx a c [x]).k=5 from rfl]
  simp;omega
structure F (t:T)(l:List T):Prop where
 good:t.good=true
 goods:∀x∈l,x.good=true
 sz:t.nodes.length+szL l+l.length<=60
 pos:t.pos+Zfc l<=400
 gr:t.gr+grL l<=9
theorem F.start{i u g}{t:T}{l:List T}(h:J i (t::l) u g)(hi:i<=25):F t l:=by
 have h1:=h.sz
 have h2:=h.pos400 hi
 have h3:=h.gr
 rw[ZeJ]at h1
 rw[Zrg]at h3
 have:=Zrh l
 have:=h.g9
 exact⟨h.good t (by simp),λx hx=>h.good x (by simp[hx]),by omega,by simpa[Zfc]using h2,by omega⟩
theorem F.step{t x:T}{l:List T}(h:F t (x::l))(a:Option Addr)(c:Nat):F (Zfg 4 a c (Za3 4 t++Za3 4 x)) l:=by
 have h1:=h.sz
 have h2:=h.pos
 have h3:=h.gr
 rw[ZeJ,List.length_cons]at h1
 rw[Zrg]at h3
 simp only[Zfc]at h2
 have n1:=ZgY l
 have n2:=(Zij x).1
 have n3:=(Zij t).1
 obtain⟨a1,a2,a3,a4⟩:=Zkc (.inr rfl) h.good (by omega) (t:=t)
 obtain⟨b1,b2,b3,b4⟩:=Zkc (.inr rfl) (h.goods x (by simp)) (by omega)
 obtain⟨c1,c2,c3,c4⟩:=Zox (.inr rfl) a c (l:=Za3 4 t++Za3 4 x) (λz hz=>by
  rcases List.mem_append.1 hz with hz|hz
  ·exact a1 z hz
  ·exact b1 z hz)
 rw[ZaE]at c2
 rw[Zbx]at c3
 rw[Zbb]at c4
 exact⟨c1,λz hz=>h.goods z (by simp[hz]),by omega,by omega,by omega⟩
theorem F.done{t:T}{l:List T}(h:F t l):t.check=0:=by
 have h1:=h.sz
 have h2:=h.pos
 have h3:=h.gr
 have n1:=ZgY l
 have hl:t.light=true:=by unfold T.light;exact decide_eq_true (by omega)
 have hc:t.clean=true:=by unfold T.clean;rw[hl];exact h.good
 have hg:((t.nodes.countP λx=>x.k == 6:Nat))=t.gr:=rfl
 unfold T.check
 rw[hc]
 unfold T.size T.positions T.groups
 rw[hl,hg]
 simp only[if_true,Bool.true_eq_false,if_false]
 rw[if_neg (by omega),if_neg (by omega),if_neg (by omega)]
theorem Zri(n:Nat):(Zj7 (Zdq n)).good=true/\(Zj7 (Zdq n)).nodes.length=1/\(Zj7 (Zdq n)).pos<=1/\(Zj7 (Zdq n)).gr=0:=by
 have h:n % 12=0\/n % 12=1\/n % 12=2\/n % 12=3\/n % 12=4\/n % 12=5\/n % 12=6\/n % 12=7\/n % 12=8\/n % 12=9\/n % 12=10\/n % 12=11:=by omega
 unfold Zdq
 rcases h with e|e|e|e|e|e|e|e|e|e|e|e <;> rw[e] <;> exact⟨by decide,by decide,by decide,by decide⟩
theorem Zwi:T1.good=true/\T1.nodes.length=1/\T1.pos<=1/\T1.gr=0:=⟨by decide,by decide,by decide,by decide⟩
theorem Zel{k:Int}{t:T}:(Za3 k t).length<=t.nodes.length:=by
 unfold Za3
 have:=ZtO t
 have:=ZlT t
 split
 ·omega
 ·split <;> simp <;> omega
end Go.Rx
namespace Go.Rx
open Go Go.Eng
set_option maxRecDepth 100000
def Zjv:List ByteArray:=[⟨#[120]⟩,⟨#[121]⟩,⟨#[122,95,49]⟩,⟨#[97,98,99,100,101,102,103,104,105,106,107,108,109,110,111,112]⟩]
def Ze0:List ByteArray:=[⟨#[115]⟩,⟨#[116]⟩]
def ZvH:List ByteArray:=[⟨#[97]⟩,⟨#[98]⟩,⟨#[99]⟩,⟨#[100]⟩]
def okN(c:Int)(x:E):Prop:=x.right=true/\(x.k=9->x.s∈Zjv)/\(x.k=10->x.g<=c)
structure MkE (c:Int)(n:Nat)(e:E):Prop where
 all:∀x∈e.nodes,okN c x
 len:e.nodes.length<=n
def Zyq(x:Nat):E:=.node 8 x .empty 0 none 0 []
def Zxa(s:ByteArray):E:=.node 9 0 s 0 none 0 []
def Zy0(g:Int):E:=.node 10 0 .empty g none 0 []
def Zxb(a:Option Addr)(c:Nat)(x:E):E:=.node 1 0 .empty 0 a c [x]
def opE(k:Int)(a:Option Addr)(c:Nat)(x y:E):E:=.node k 0 .empty 0 a c [x,y]
theorem MkE.mono{c n k e}(h:MkE c n e)(hk:n<=k):MkE c k e:=⟨h.all,Nat.le_trans h.len hk⟩
theorem Znr{c:Int}{k x s g a d}(h:okN c (.node k x s g a d [])):MkE c 1 (.node k x s g a d []):=by
 refine⟨λy hy=>?_,by simp[E.nodes,Zaq]⟩
 simp only[E.nodes,Zaq,List.mem_singleton]at hy
 rw[hy];exact h
theorem ZsH:ZsB 0 0=true:=by decide +kernel
theorem ZtT{c:Int}{x:Nat}(h:Zfd x=true):MkE c 1 (Zyq x):=by
 refine Znr ⟨?_,λe=>absurd (show(8:Int)=9 from e) (by decide),λe=>absurd (show(8:Int)=10 from e) (by decide)⟩
 simp[E.right,E.k,E.s,E.x,E.g,E.subs,ZlQ,h]
theorem Zrj:∀s∈Zjv,Zcv s=true:=by decide +kernel
theorem ZtU:∀s∈Ze0,Zcv s=true:=by decide +kernel
theorem Zwj:∀s∈ZvH,Zcv s=true:=by decide +kernel
theorem ZtV{c:Int}{s:ByteArray}(h:s∈Zjv):MkE c 1 (Zxa s):=by
 refine Znr ⟨?_,λ_=>h,λe=>absurd (show(9:Int)=10 from e) (by decide)⟩
 simp[E.right,E.k,E.s,E.x,E.g,E.subs,ZlQ,Zrj s h,ZsH]
theorem Zwk{c g:Int}(h:0<=g/\g<=9)(hc:g<=c):MkE c 1 (Zy0 g):=by
 refine Znr ⟨?_,λe=>absurd (show(10:Int)=9 from e) (by decide),λ_=>hc⟩
 simp[E.right,E.k,E.s,E.x,E.g,E.subs,ZlQ,ZsH,h.1,h.2]
theorem Zwl{c:Int}{n:Nat}{a d}{x:E}(h:MkE c n x)(hk:x.k≠8):MkE c (n+1) (Zxb a d x):=by
 refine⟨λy hy=>?_,by have:=h.len;simp[Zxb,E.nodes,Zaq];omega⟩
 simp only[Zxb,E.nodes,Zaq,List.append_nil,List.mem_cons]at hy
 rcases hy with rfl|hy
 ·refine⟨?_,λe=>absurd (show(1:Int)=9 from e) (by decide),λe=>absurd (show(1:Int)=10 from e) (by decide)⟩
  have h1:E.right (.node 1 0 .empty 0 a d [x])=!Zqg [x]:=by simp[E.right,E.k,E.s,E.x,E.g,E.subs,ZlQ,ZsH]
  rw[h1]
  show(!(x.k == 8))=true
  simpa using hk
 ·exact h.all y hy
theorem Zwm{c:Int}{n p:Nat}{a d}{k:Int}{x y:E}(hk:2<=k/\k<=7)(h:MkE c n x)(h2:MkE c p y):MkE c (n+p+1) (opE k a d x y):=by
 refine⟨λz hz=>?_,by have:=h.len;have:=h2.len;simp[opE,E.nodes,Zaq];omega⟩
 simp only[opE,E.nodes,Zaq,List.append_nil,List.mem_cons,List.mem_append]at hz
 rcases hz with rfl|hz|hz
 ·refine⟨?_,λe=>?_,λe=>?_⟩
  ·have h0:¬k=0:=by omega
   have h1:¬k=1:=by omega
   have h9:¬k=9:=by omega
   have h8:¬k=8:=by omega
   have iD:¬k=10:=by omega
   have hs:ZlQ k=2:=by unfold ZlQ;rw[if_neg h1,if_pos hk]
   have cJ:k<=10:=by omega
   simp[E.right,E.k,E.s,E.x,E.g,E.subs,hs,ZsH,h0,h1,h9,h8,iD,cJ]
  ·have e:k=9:=e
   omega
  ·have e:k=10:=e
   omega
 ·exact h.all z hz
 ·exact h2.all z hz
theorem MkE.clean{c:Int}{n:Nat}{e:E}(h:MkE c n e)(hn:n<=10000):e.clean=true:=by
 have hl:e.light=true:=by unfold E.light;exact decide_eq_true (Nat.le_trans h.len hn)
 unfold E.clean
 rw[hl,Bool.true_and,List.all_eq_true]
 exact λx hx=>(h.all x hx).1
theorem Zwn{c:Int}(l:List E)(h:∀x∈l,x.k=10->x.g<=c):∀n:Int,n<=c->l.foldl (λn x=>if x.k=10 then(if x.g > n then x.g else n)else n) n<=c:=by
 induction l with
 | nil=>exact λn hn=>hn
 | cons x l ih=>
  intro n hn
  rw[List.foldl_cons]
  refine ih (λy hy=>h y (List.mem_cons_of_mem _ hy)) _ ?_
  split
  ·rename_i hk
   split
   ·exact h x (by simp) hk
   ·exact hn
  ·exact hn
theorem MkE.most{c:Int}{n:Nat}{e:E}(h:MkE c n e)(hc : -1<=c):e.most<=c:=by
 unfold E.most
 split
 ·exact Zwn _ (λx hx=>(h.all x hx).2.2) _ hc
 ·exact hc
mutual
theorem Zrk{A:List ByteArray}:∀(t:E)(out:List ByteArray),(∀x∈t.nodes,x.k=9->x.s∈A)->∀s∈t.names out,s∈out\/s∈A
 | .node k x s g a c l,out,h,z,hz=>by
  simp only[E.names]at hz
  split at hz
  ·rename_i hk
   split at hz
   ·exact .inl hz
   ·rcases List.mem_append.1 hz with hz|hz
    ·exact .inl hz
    ·rw[List.mem_singleton]at hz;subst hz
     exact .inr (h (.node k x z g a c l) (by simp[E.nodes]) hk)
  ·exact Zoy l out (λy hy=>h y (by simp only[E.nodes];exact List.mem_cons_of_mem _ hy)) z hz
theorem Zoy{A:List ByteArray}:∀(l:List E)(out:List ByteArray),(∀x∈Zaq l,x.k=9->x.s∈A)->∀s∈ZbS l out,s∈out\/s∈A
 | [],out,_,z,hz=>.inl hz
 | t::l,out,h,z,hz=>by
  simp only[ZbS]at hz
  rcases Zoy l _ (λy hy=>h y (by simp only[Zaq];exact List.mem_append_right _ hy)) z hz with hz|hz
  ·exact Zrk t out (λy hy=>h y (by simp only[Zaq];exact List.mem_append_left _ hy)) z hz
  ·exact .inr hz
end
theorem MkE.vars{c:Int}{n:Nat}{e:E}(h:MkE c n e):∀s∈e.vars,s∈Zjv:=by
 intro s hs
 unfold E.vars at hs
 split at hs
 ·rcases Zrk (A:=Zjv) e [] (λx hx=>(h.all x hx).2.1) s hs with h|h
  ·cases h
  ·exact h
 ·cases hs
theorem Zwo:Zpz E0=true:=by decide +kernel
inductive MkP (c:Int):Pt->Prop
 | lit (s:ByteArray) (h:0 < s.size/\s.size<=512):MkP c ⟨1,s,0,E0⟩
 | var (s:ByteArray) (h:s∈Zjv\/s∈Ze0):MkP c ⟨2,s,0,E0⟩
 | cap (g:Int) (h:0<=g/\g<=9/\g<=c):MkP c ⟨3,.empty,g,E0⟩
 | clc (e:E) (h:MkE c 20 e):MkP c ⟨4,.empty,0,e⟩
def ZyI(l:List Pt):Prop:=∀(i:Nat)(p q:Pt),l[i]?=some p->l[i+1]?=some q->p.k=1->q.k=1->False
structure MkT (c:Int)(l:List Pt):Prop where
 len:l.length<=5
 all:∀p∈l,MkP c p
 ll:ZyI l
inductive MkA (c:Int):Ac->Prop
 | send (a:Option Addr) (n:Nat) (l:List Pt) (h:MkT c l):MkA c ⟨1,.empty,a,n,l,E0⟩
 | set (s:ByteArray) (hs:s∈Ze0) (a:Option Addr) (n:Nat) (l:List Pt) (h:MkT c l):MkA c ⟨2,s,a,n,l,E0⟩
 | let_ (s:ByteArray) (hs:s∈Zjv) (e:E) (h:MkE c 20 e):MkA c ⟨3,s,none,0,[],e⟩
def Zxx(r:Ru):Prop:=(r.k=1/\r.t.check=0/\r.t.nodes.length<=26/\r.s=.empty/\r.n=0)\/((r.bg=false/\r.en=false/\r.t=T0)/\((r.k=2/\1<=r.s.size/\r.s.size<=3/\r.n=0)\/(r.k=3/\r.s=.empty/\r.n=0)\/(r.k=4/\r.s=.empty/\1<=r.n/\r.n<=8)))
structure MkR (n:Nat)(r:Ru):Prop where
 kind:Zxx r
 len:r.acts.length<=3
 all:∀a∈r.acts,MkA (Zcb r) a
 go:((∃i,i < n/\ZvH[i]?=some r.go)/\r.code=0)\/(r.go=.empty/\0<=r.code/\r.code<=255)
structure MkS (n i:Nat)(x:Sta):Prop where
 name:ZvH[i]?=some x.s
 len:x.rules.length<=5
 all:∀r∈x.rules,MkR n r
structure MkV (i:Nat)(v:Va):Prop where
 name:(Zjv++Ze0)[i]?=some v.s
 kind:(i < 4/\v.b=true/\v.t=.empty/\Zfd v.x=true)\/(4<=i/\v.b=false/\v.t.size<=3/\v.x=0)
structure MkC (s:Sc):Prop where
 n:2<=s.n/\s.n<=12
 vlen:s.vars.length=6
 vall:∀i v,s.vars[i]?=some v->MkV i v
 len:1<=s.states.length/\s.states.length<=4
 all:∀i x,s.states[i]?=some x->MkS s.states.length i x
theorem Zqi{n:Nat}{e:E}(h:e.nodes.length<=n)(hn:n<=10000):e.light=true:=by unfold E.light;exact decide_eq_true (by omega)
theorem Zyr{n:Nat}{e:E}(h:e.nodes.length<=n)(hn:n<=10000):nE e<=n:=by
 unfold nE E.size;rw[Zqi h hn];simp;omega
theorem nE0:nE E0<=20:=by decide +kernel
theorem Zoz{α:Type}(f:α->Int)(B:Int)(l:List α)(hf:∀x∈l,f x<=B):Zcu (l.map f)<=l.length*B:=by
 induction l with
 | nil=>simp[Zcu]
 | cons x l ih=>
  have h1:=hf x (by simp)
  have h2:=ih (λy hy=>hf y (by simp[hy]))
  simp only[List.map_cons,Zcu,List.length_cons]
  rw[show((l.length+1:Nat):Int)*B=l.length*B+B by rw[Int.natCast_add,Int.add_mul];simp]
  omega
theorem MkP.nE{c:Int}{p:Pt}(h:MkP c p):nE p.e<=20:=by
 cases h with
 | clc e h=>exact Zyr (n:=20) h.len (by omega)
 | _=>exact nE0
theorem MkA.w{c:Int}{a:Ac}(h:MkA c a):wA a<=126:=by
 have go:∀{l:List Pt},MkT c l->(l.length:Int)+Zcu (l.map λp=>Rx.nE p.e)<=105:=λ{l} h=>by
  have:=Zoz (λp:Pt=>Rx.nE p.e) 20 l (λp hp=>(h.all p hp).nE)
  have:=h.len
  omega
 have e0:=nE0
 cases h with
 | send a n l h=>have:=go h;simp only[wA];omega
 | set s hs a n l h=>have:=go h;simp only[wA];omega
 | let_ s hs e h=>have:=Zyr h.len (by omega);simp[wA,Zcu];omega
theorem Zkd{t:T}(h:t.nodes.length<=10000):t.light=true:=by unfold T.light;exact decide_eq_true h
theorem ZoA:T0.size=1/\T0.light=true/\T0.same T0=true:=by decide +kernel
theorem MkR.size{n:Nat}{r:Ru}(h:MkR n r):r.t.light=true/\0<=r.t.size/\r.t.size<=26:=by
 rcases h.kind with⟨_,_,h,_⟩|⟨⟨_,_,h⟩,_⟩
 ·have hl:=Zkd (t:=r.t) (by omega)
  refine⟨hl,?_⟩
  unfold T.size;rw[hl];simp;omega
 ·rw[h,ZoA.1];exact⟨ZoA.2.1,by omega,by omega⟩
theorem MkR.w{n:Nat}{r:Ru}(h:MkR n r):wR r<=405:=by
 obtain⟨h1,h2,h3⟩:=h.size
 have:=Zoz wA 126 r.acts (λa ha=>(h.all a ha).w)
 have:=h.len
 have hi:Zic r.t.size 20000<=26:=by unfold Zic;split <;> omega
 unfold wR;rw[h1];simp;omega
theorem MkS.w{n i:Nat}{x:Sta}(h:MkS n i x):wS x<=2025:=by
 have:=Zoz wR 405 x.rules (λa ha=>(h.all a ha).w)
 have:=h.len
 unfold wS;omega
theorem MkC.state{s:Sc}(h:MkC s){x:Sta}(hx:x∈s.states):∃i,s.states[i]?=some x/\MkS s.states.length i x:=by
 obtain⟨i,hi⟩:=List.getElem?_of_mem hx
 exact⟨i,hi,h.all i x hi⟩
theorem MkC.weight{s:Sc}(h:MkC s):s.weight<=8200:=by
 have:=Zoz wS 2025 s.states (λx hx=>by obtain⟨i,_,h⟩:=h.state hx;exact h.w)
 have:=h.len
 have:=h.vlen
 unfold Sc.weight;omega
theorem MkC.light{s:Sc}(h:MkC s):s.light=true:=by unfold Sc.light;exact decide_eq_true (by have:=h.weight;omega)
theorem ZtW(s:ByteArray):eqS s s=true:=by unfold eqS;simp
theorem Zwp:∀j < 6,∀i < 6,j≠i->eqS ((Zjv++Ze0).getD j .empty) ((Zjv++Ze0).getD i .empty)=false:=by decide +kernel
theorem ZxP:∀j < 4,∀i < 4,j≠i->eqS (ZvH.getD j .empty) (ZvH.getD i .empty)=false:=by decide +kernel
theorem Zjp{l:List ByteArray}{i:Nat}{s:ByteArray}(h:l[i]?=some s):l.getD i .empty=s:=by rw[List.getD_eq_getElem?_getD,h];rfl
theorem ZtX{α:Type}{p:α->Bool}:∀{l:List α} {i:Nat} {x:α},l[i]?=some x->p x=true->(∀j y,j < i->l[j]?=some y->p y=false)->l.find? p=some x
 | [],i,x,h,_,_=>by simp at h
 | a::l,0,x,h,hp,_=>by
  simp at h;subst h
  rw[List.find?_cons_of_pos hp]
 | a::l,i+1,x,h,hp,hn=>by
  rw[List.find?_cons_of_neg (by rw[hn 0 a (by omega) rfl];simp)]
  exact ZtX (l:=l) (i:=i) (by simpa using h) hp (λj y hj hy=>hn (j+1) y (by omega) (by simpa using hy))
theorem MkC.kind{s:Sc}(h:MkC s){i:Nat}{name:ByteArray}(hi:(Zjv++Ze0)[i]?=some name):Zc8 s name=(decide (i < 4),true):=by
 have rQ:i < 6:=(List.getElem?_eq_some_iff.1 hi).1
 have bT:=h.vlen
 have hv:s.vars[i]?=some (s.vars[i]'(by omega)):=List.getElem?_eq_getElem (by omega)
 have hm:=h.vall i _ hv
 generalize s.vars[i]'(by omega)=v at hv hm
 have hn:v.s=name:=Option.some.inj (hm.name.symm.trans hi)
 have hf:(s.vars.find? λv=>eqS v.s name)=some v:=ZtX hv (by rw[hn];exact ZtW _) (λj y hj hy=>by
  have hy':=(h.vall j y hy).name
  have:=Zwp j (by omega) i rQ (by omega)
  rwa [Zjp hy',Zjp hi]at this)
 unfold Zc8
 rw[hf]
 rcases hm.kind with⟨h4,hb,_⟩|⟨h4,hb,_⟩
 ·rw[decide_eq_true h4];show(v.b,true)=_;rw[hb]
 ·rw[decide_eq_false (by omega)];show(v.b,true)=_;rw[hb]
theorem MkC.num{s:Sc}(h:MkC s){name:ByteArray}(hn:name∈Zjv):Zc8 s name=(true,true):=by
 obtain⟨i,hi⟩:=List.getElem?_of_mem hn
 have bB:i < 4:=(List.getElem?_eq_some_iff.1 hi).1
 have:=h.kind (i:=i) (name:=name) (by rw[List.getElem?_append_left bB];exact hi)
 rwa [decide_eq_true bB]at this
theorem MkC.txt{s:Sc}(h:MkC s){name:ByteArray}(hn:name∈Ze0):Zc8 s name=(false,true):=by
 obtain⟨i,hi⟩:=List.getElem?_of_mem hn
 have bB:i < 2:=(List.getElem?_eq_some_iff.1 hi).1
 have:=h.kind (i:=4+i) (name:=name) (by rw[List.getElem?_append_right (show Zjv.length<=4+i by show 4<=_;omega)];show Ze0[4+i - 4]?=_;rw[show 4+i - 4=i by omega];exact hi)
 rwa [decide_eq_false (by omega)]at this
theorem MkC.numbers{s:Sc}(h:MkC s){c:Int}{n:Nat}{e:E}(he:MkE c n e):Zds s e=true:=by
 unfold Zds
 rw[Bool.not_eq_true',List.any_eq_false]
 intro x hx
 rw[h.num (he.vars x hx)];simp
theorem MkC.finds{s:Sc}(h:MkC s){i:Nat}{name:ByteArray}(hi:i < s.states.length)(hn:ZvH[i]?=some name):Zka s name=true:=by
 unfold Zka
 rw[h.light,Bool.and_true,List.any_eq_true]
 refine⟨s.states[i],List.getElem_mem _,?_⟩
 have:=(h.all i _ (List.getElem?_eq_getElem hi)).name
 rw[hn]at this
 rw[<-Option.some.inj this];exact ZtW _
theorem Zd3{n a b:Int}:Zbl n a b=true↔a<=n/\n<=b:=by
 unfold Zbl
 rw[Bool.and_eq_true,decide_eq_true_iff,decide_eq_true_iff]
theorem MkC.whole{s:Sc}(h:MkC s):Zqh s=0:=by
 have h1:Zbl s.n 2 256=true:=Zd3.2 (by have:=h.n;omega)
 have h2:Zbl s.states.length 1 24=true:=Zd3.2 (by have:=h.len;omega)
 have h3:decide (s.vars.length > 12)=false:=decide_eq_false (by have:=h.vlen;omega)
 simp[Zqh,Zb6,h1,h2,h3]
theorem ZaN:ByteArray.empty.size=0:=rfl
theorem MkC.var{s:Sc}(h:MkC s){i:Nat}{v:Va}(hv:s.vars[i]?=some v):Zff s i v=0:=by
 have hm:=h.vall i v hv
 have rQ:i < 6:=by have:=(List.getElem?_eq_some_iff.1 hv).1;have:=h.vlen;omega
 have h1:Zcv v.s=true:=by
  have cP:=List.mem_of_getElem? hm.name
  rcases List.mem_append.1 cP with hx|hx
  ·exact Zrj _ hx
  ·exact ZtU _ hx
 have h2:Zfe v=true:=by
  unfold Zfe
  rcases hm.kind with⟨_,hb,ht,hx⟩|⟨_,hb,ht,hx⟩
  ·rw[hb,ht,hx];rfl
  ·rw[hb,hx]
   simp;omega
 have h3:((s.vars.take i).any λx=>eqS x.s v.s)=false:=by
  rw[List.any_eq_false]
  intro x hx
  obtain⟨j,hj⟩:=List.getElem?_of_mem hx
  have oO:j < i:=by have:=(List.getElem?_eq_some_iff.1 hj).1;rw[List.length_take]at this;omega
  rw[List.getElem?_take_of_lt oO]at hj
  have:=Zwp j (by omega) i rQ (by omega)
  rw[Zjp (h.vall j x hj).name,Zjp hm.name]at this
  rw[this];simp
 simp[Zff,Zb6,h1,h2,h3]
theorem MkC.stateOk{s:Sc}(h:MkC s){i:Nat}{x:Sta}(hx:s.states[i]?=some x):Zou s i x=0:=by
 have hm:=h.all i x hx
 have uT:i < 4:=by have:=(List.getElem?_eq_some_iff.1 hx).1;have:=h.len;omega
 have h1:Zcv x.s=true:=Zwj _ (List.mem_of_getElem? hm.name)
 have h2:decide (x.rules.length > 12)=false:=decide_eq_false (by have:=hm.len;omega)
 have h3:((s.states.take i).any λy=>eqS y.s x.s)=false:=by
  rw[List.any_eq_false]
  intro y hy
  obtain⟨j,hj⟩:=List.getElem?_of_mem hy
  have oO:j < i:=by have:=(List.getElem?_eq_some_iff.1 hj).1;rw[List.length_take]at this;omega
  rw[List.getElem?_take_of_lt oO]at hj
  have:=ZxP j (by omega) i uT (by omega)
  rw[Zjp (h.all j y hj).name,Zjp hm.name]at this
  rw[this];simp
 simp[Zou,Zb6,h1,h2,h3]
theorem ZsI(t:T):0<=t.groups:=by unfold T.groups;split <;> omega
theorem Zrl(r:Ru) : -1<=Zcb r:=by
 have:=ZsI r.t
 unfold Zcb;split
 ·omega
 ·split <;> omega
theorem Zxy{r:Ru}(h:r.bg=false/\r.en=false/\r.t=T0):Zw9 r=false:=by
 unfold Zw9;rw[h.1,h.2.1,h.2.2,ZoA.2.1,ZoA.2.2];rfl
theorem MkR.fields{n:Nat}{r:Ru}(h:MkR n r):Za4 r=true:=by
 unfold Za4
 rcases h.kind with⟨hk,_,_,hs,hn⟩|⟨hx,⟨hk,h1,h2,hn⟩|⟨hk,hs,hn⟩|⟨hk,hs,h1,h2⟩⟩
 ·rw[hk,hs,hn];rfl
 ·rw[Zxy hx,hk,hn]
  have:Zbl r.s.size 1 64=true:=Zd3.2 (by omega)
  simp[this]
 ·rw[Zxy hx,hk,hs,hn];rfl
 ·rw[Zxy hx,hk,hs]
  have:Zbl r.n 1 1000=true:=Zd3.2 (by omega)
  simp[this,ZaN]
theorem MkR.sizeR{n:Nat}{r:Ru}(h:MkR n r):Rx.sizeR r<=26:=by
 unfold Rx.sizeR;split
 ·exact h.size.2.2
 ·omega
theorem MkS.sizes{n i:Nat}{x:Sta}(h:MkS n i x)(k:Nat):Zcu ((x.rules.take k).map Rx.sizeR)<=130:=by
 have:=Zoz Rx.sizeR 26 (x.rules.take k) (λr hr=>(h.all r (List.mem_of_mem_take hr)).sizeR)
 have h1:=h.len
 rw[List.length_take]at this
 omega
theorem MkC.totals{s:Sc}(h:MkC s)(i k:Nat):Rx.totals s i k<=600:=by
 have h0:=h.len
 have h1:=Zoz (λx:Sta=>Zcu (x.rules.map Rx.sizeR)) 130 (s.states.take i) (λx hx=>by
  obtain⟨j,_,hm⟩:=h.state (List.mem_of_mem_take hx)
  have:=hm.sizes x.rules.length
  rwa [List.take_length]at this)
 rw[List.length_take]at h1
 unfold Rx.totals
 cases hx:s.states[i]? with
 | none=>show _+0<=_;omega
 | some x=>
  have hi:=(List.getElem?_eq_some_iff.1 hx).1
  have:=(h.all i x hx).sizes (k+1)
  show _+Zcu ((x.rules.take (k+1)).map Rx.sizeR)<=_
  omega
theorem Zns:∀s∈ZvH,s.size=1:=by decide +kernel
theorem MkC.rule{s:Sc}(h:MkC s){r:Ru}(hr:MkR s.states.length r){t:Int}(ht:t<=600):ZpA s r t=0:=by
 have h1:=hr.fields
 have h2:decide (r.acts.length > 8)=false:=decide_eq_false (by have:=hr.len;omega)
 have h3:(r.k == 1&&(!(r.t.check == 0)||decide (t > 600)))=false:=by
  rw[decide_eq_false (show ¬t > 600 by omega),Bool.or_false]
  rcases hr.kind with⟨_,hc,_⟩|⟨_,⟨hk,_⟩|⟨hk,_⟩|⟨hk,_⟩⟩
  ·rw[hc];simp
  ·rw[hk];rfl
  ·rw[hk];rfl
  ·rw[hk];rfl
 have h4:(if r.go.size=0 then !Zbl r.code 0 255 else !Zka s r.go||!(r.code == 0))=false:=by
  rcases hr.go with⟨⟨i,hi,hn⟩,hc⟩|⟨hg,hc⟩
  ·rw[if_neg (by rw[Zns _ (List.mem_of_getElem? hn)];omega),h.finds hi hn,hc];rfl
  ·rw[hg,if_pos ZaN,Zd3.2 hc];rfl
 unfold ZpA
 rw[h1,h2,h3,h4];rfl
theorem MkC.action{s:Sc}(h:MkC s){r:Ru}{a:Ac}(ha:MkA (Zcb r) a):ZdL s r a=0:=by
 have hz:=Zwo
 cases ha with
 | send a n l hl=>
  have h1:decide (l.length > 16)=false:=decide_eq_false (by have:=hl.len;omega)
  have h2:Zbl 1 1 3=true:=by decide
  unfold ZdL
  simp[Zb6,h1,h2,hz,ZaN]
 | set t ht a n l hl=>
  have h1:decide (l.length > 16)=false:=decide_eq_false (by have:=hl.len;omega)
  have h2:Zbl 2 1 3=true:=by decide
  unfold ZdL
  simp[Zb6,h1,h2,hz,h.txt ht]
 | let_ t ht e he=>
  have h2:Zbl 3 1 3=true:=by decide
  have h3:=he.clean (by omega)
  have h4:=h.numbers he
  have h5:decide (e.most > Zcb r)=false:=decide_eq_false (by have:=he.most (Zrl r);omega)
  unfold ZdL
  simp only[Zb6,h2,h3,h4,h5,h.num ht]
  rfl
def Zxz(l:List Pt)(i:Nat):Bool:=match l[i - 1]? with
 | some q=>q.k == 1
 | none=>false
theorem Zrm(s:Sc)(r:Ru)(l:List Pt)(i:Nat)(p:Pt):Znh s r l i p=Zb6 [(307,!ZbA p||(decide (i > 0)&&(p.k == 1&&Zxz l i))),(308,(p.k == 2&&!(Zc8 s p.s).2)||(p.k == 4&&!Zds s p.e)),(309,(p.k == 3&&decide (p.g > Zcb r))||(p.k == 4&&decide (p.e.most > Zcb r)))]:=rfl
theorem MkC.part{s:Sc}(h:MkC s){r:Ru}{l:List Pt}(hl:MkT (Zcb r) l){i:Nat}{p:Pt}(hp:l[i]?=some p):Znh s r l i p=0:=by
 have hz:=Zwo
 have h0:(decide (i > 0)&&(p.k == 1&&Zxz l i))=false:=by
  cases i with
  | zero=>rfl
  | succ i=>
   unfold Zxz
   rw[Nat.add_sub_cancel]
   cases hq:l[i]? with
   | none=>simp
   | some q=>
    have:=hl.ll i q p hq hp
    simp only[Bool.and_eq_false_iff]
    refine .inr ?_
    by_cases h1:p.k=1
    ·refine .inr ?_
     simp
     exact λh2=>this h2 h1
    ·refine .inl ?_
     simpa using h1
 have hm:=hl.all p (List.mem_of_getElem? hp)
 rw[Zrm,h0]
 cases hm with
 | lit t ht=>
  have h1:ZbA ⟨1,t,0,E0⟩=true:=by simp[ZbA,hz];omega
  rw[h1];rfl
 | var t ht=>
  have h1:ZbA ⟨2,t,0,E0⟩=true:=by
   have:Zcv t=true:=by
    rcases ht with ht|ht
    ·exact Zrj _ ht
    ·exact ZtU _ ht
   simp[ZbA,hz,this]
  have h2:(Zc8 s t).2=true:=by
   rcases ht with ht|ht
   ·rw[h.num ht]
   ·rw[h.txt ht]
  rw[h1]
  simp[Zb6,h2]
 | cap g hg=>
  have h1:ZbA ⟨3,.empty,g,E0⟩=true:=by simp[ZbA,hz,ZaN];omega
  have h2:decide (g > Zcb r)=false:=decide_eq_false (by omega)
  rw[h1]
  simp only[Zb6,h2];rfl
 | clc e he=>
  have h1:ZbA ⟨4,.empty,0,e⟩=true:=by simp[ZbA,he.clean,ZaN]
  have h2:decide (e.most > Zcb r)=false:=decide_eq_false (by have:=he.most (Zrl r);omega)
  have h3:=h.numbers he
  rw[h1]
  simp only[Zb6,h2,h3];rfl
theorem MkC.at0{s:Sc}(h:MkC s):∀p∈s.places,atS s p=0:=by
 intro p hp
 have hT:∀{r:Ru} {a:Ac},MkA (Zcb r) a->∀{n:Nat} {q:Pt},a.parts[n]?=some q->Znh s r a.parts n q=0:=λ{r a} ha {n q} hq=>by
  cases ha with
  | send _ _ l hl=>exact h.part hl hq
  | set _ _ _ _ l hl=>exact h.part hl hq
  | let_ _ _ e _=>simp at hq
 rcases Zov s p hp with⟨i,hi,v,hv⟩|⟨hv,hs|⟨i,hi,x,hx,hr|⟨k,hk,r,hr,ha|⟨j,hj,a,ha,hq|⟨n,hn,q,hq⟩⟩⟩⟩⟩
 ·have e:atS s p=Zff s i v:=by
   unfold atS
   rw[if_pos (by omega),show p.v.toNat=i by omega,hv]
  rw[e];exact h.var hv
 all_goals have hv':¬p.v ≥ 0:=by omega
 ·unfold atS
  rw[if_neg hv',if_pos hs];exact h.whole
 all_goals
  have hs':¬p.s < 0:=by omega
  have qn:p.s.toNat=i:=by omega
  have hm:=h.all i x hx
 ·have e:atS s p=Zou s i x:=by
   unfold atS
   rw[if_neg hv',if_neg hs',qn,hx]
   exact if_pos hr
  rw[e];exact h.stateOk hx
 all_goals
  have hr':¬p.r < 0:=by omega
  have ii:p.r.toNat=k:=by omega
  have hR:=hm.all r (List.mem_of_getElem? hr)
 ·have e:atS s p=ZpA s r (Rx.totals s i k):=by
   unfold atS
   rw[if_neg hv',if_neg hs',qn,hx]
   show(if p.r < 0 then _ else _)=_
   rw[if_neg hr',ii,hr]
   exact if_pos ha
  rw[e];exact h.rule hR (h.totals i k)
 all_goals
  have ha':¬p.a < 0:=by omega
  have nJ:p.a.toNat=j:=by omega
  have hA:=hR.all a (List.mem_of_getElem? ‹r.acts[j]?=some a›)
 ·have e:atS s p=ZdL s r a:=by
   unfold atS
   rw[if_neg hv',if_neg hs',qn,hx]
   show(if p.r < 0 then _ else _)=_
   rw[if_neg hr',ii,hr]
   show(if p.a < 0 then _ else _)=_
   rw[if_neg ha',nJ,‹r.acts[j]?=some a›]
   exact if_pos hq
  rw[e];exact h.action hA
 ·have e:atS s p=Znh s r a.parts n q:=by
   unfold atS
   rw[if_neg hv',if_neg hs',qn,hx]
   show(if p.r < 0 then _ else _)=_
   rw[if_neg hr',ii,hr]
   show(if p.a < 0 then _ else _)=_
   rw[if_neg ha',nJ,‹r.acts[j]?=some a›]
   show(if p.p < 0 then _ else _)=_
   rw[if_neg (by omega),show p.p.toNat=n by omega,hq]
  rw[e];exact hT hA hq
theorem MkC.problems{s:Sc}(h:MkC s):s.problems=[]:=by
 unfold Sc.problems
 rw[List.filterMap_eq_nil_iff]
 intro p hp
 rw[if_pos (h.at0 p hp)]
theorem MkC.check{s:Sc}(h:MkC s):s.check=(top,0):=by
 unfold Sc.check
 rw[if_pos h.light,h.problems]
structure F26 (t:T)(l:List T):Prop where
 f:F t l
 n:(t.k=4/\t.nodes.length+szL l<=26)\/t.nodes.length+szL l<=25
theorem F26.done{t:T}(h:F26 t []):t.check=0/\t.nodes.length<=26:=by
 refine⟨h.f.done,?_⟩
 have:szL []=0:=rfl
 rcases h.n with h|h <;> omega
theorem F26.step{t x:T}{l:List T}(h:F26 t (x::l))(a:Option Addr)(c:Nat):F26 (Zfg 4 a c (Za3 4 t++Za3 4 x)) l:=by
 refine⟨h.f.step a c,?_⟩
 have hn:=h.n
 rw[ZeJ]at hn
 have ht:=ZlT t
 have hx:=ZlT x
 have e1:szL (Za3 4 t)<=if t.k=4 then szL t.subs else t.nodes.length:=by
  unfold Za3
  split
  ·exact Nat.le_refl _
  ·rw[if_neg (by omega),Zbj];exact Nat.le_refl _
 have e2:szL (Za3 4 x)<=x.nodes.length:=by
  unfold Za3
  split
  ·omega
  ·rw[if_neg (by omega),Zbj];exact Nat.le_refl _
 have e3:szL (Za3 4 t++Za3 4 x)=szL (Za3 4 t)+szL (Za3 4 x):=ZaE _ _
 generalize Za3 4 t++Za3 4 x=L at e3
 have hA:szL L<=t.nodes.length+x.nodes.length/\(t.k=4->szL L+1<=t.nodes.length+x.nodes.length):=by
  refine⟨?_,λh4=>?_⟩
  ·split at e1 <;> omega
  ·rw[if_pos h4]at e1;omega
 match L,hA with
 | [],_=>
  refine .inr ?_
  show T1.nodes.length+_<=_
  have:T1.nodes.length=1:=rfl
  rcases hn with⟨_,hn⟩|hn <;> omega
 | [y],hA=>
  refine .inr ?_
  show y.nodes.length+_<=_
  rw[Zbj]at hA
  rcases hn with⟨h4,hn⟩|hn
  ·have:=hA.2 h4;omega
  ·omega
 | y::z::r,hA=>
  refine .inl ⟨rfl,?_⟩
  rw[ZlT]
  show 1+szL (y::z::r)+_<=_
  rcases hn with⟨h4,hn⟩|hn
  ·have:=hA.2 h4;omega
  ·omega
theorem F26.start{i u g}{t:T}{l:List T}(h:J i (t::l) u g)(hi:i<=25):F26 t l:=⟨F.start h hi,.inr (by have:=h.sz;rw[ZeJ]at this;omega)⟩
theorem F26.leaf{t:T}(h1:F t [])(h2:t.nodes.length=1):F26 t []:=⟨h1,.inr (by have:szL []=0:=rfl;omega)⟩
structure PE (ts:List E)(i:Nat):Prop where
 all:∀x∈Zaq ts,okN 9 x
 sz:(Zaq ts).length<=i
theorem Zch(t:E):Zaq [t]=t.nodes:=by simp[Zaq]
theorem PE.zero:PE [] 0:=⟨by simp[Zaq],by simp[Zaq]⟩
theorem PE.skip{ts i}(h:PE ts i):PE ts (i+1):=⟨h.all,by have:=h.sz;omega⟩
theorem PE.push{ts i}{t:E}(h:PE ts i)(ht:MkE 9 1 t):PE (ts++[t]) (i+1):=by
 refine⟨λx hx=>?_,?_⟩
 ·rw[ZaT,Zch]at hx
  rcases List.mem_append.1 hx with hx|hx
  ·exact h.all x hx
  ·exact ht.all x hx
 ·rw[ZaT,Zch,List.length_append]
  have:=h.sz;have:=ht.len;omega
theorem PE.neg{r:List E}{x:E}{i:Nat}(h:PE (r++[x]) i)(hk:x.k≠8)(a:Option Addr)(d:Nat):PE (r++[Zxb a d x]) (i+1):=by
 have h1:=h.all;have h2:=h.sz
 rw[ZaT,Zch]at h1 h2
 rw[List.length_append]at h2
 have hm:MkE 9 (x.nodes.length+1) (Zxb a d x):=Zwl ⟨λz hz=>h1 z (List.mem_append_right _ hz),Nat.le_refl _⟩ hk
 refine⟨λz hz=>?_,?_⟩
 ·rw[ZaT,Zch]at hz
  rcases List.mem_append.1 hz with hz|hz
  ·exact h1 z (List.mem_append_left _ hz)
  ·exact hm.all z hz
 ·rw[ZaT,Zch,List.length_append]
  have:=hm.len;omega
theorem PE.op{r:List E}{x y:E}{i:Nat}(h:PE (r++[x,y]) i){k:Int}(hk:2<=k/\k<=7)(a:Option Addr)(d:Nat):PE (r++[opE k a d x y]) (i+1):=by
 have h1:=h.all;have h2:=h.sz
 rw[ZaT,show Zaq [x,y]=x.nodes++y.nodes by simp[Zaq]]at h1 h2
 rw[List.length_append,List.length_append]at h2
 have hm:MkE 9 (x.nodes.length+y.nodes.length+1) (opE k a d x y):=Zwm hk ⟨λz hz=>h1 z (List.mem_append_right _ (List.mem_append_left _ hz)),Nat.le_refl _⟩ ⟨λz hz=>h1 z (List.mem_append_right _ (List.mem_append_right _ hz)),Nat.le_refl _⟩
 refine⟨λz hz=>?_,?_⟩
 ·rw[ZaT,Zch]at hz
  rcases List.mem_append.1 hz with hz|hz
  ·exact h1 z (List.mem_append_left _ hz)
  ·exact hm.all z hz
 ·rw[ZaT,Zch,List.length_append]
  have:=hm.len;omega
theorem ZlU(t:E):1<=t.nodes.length:=by rw[Zdy,List.length_cons];omega
theorem Zf3(l:List E):l.length<=(Zaq l).length:=by
 induction l with
 | nil=>simp
 | cons t l ih=>
  have:=ZlU t
  simp only[Zaq,List.length_cons,List.length_append];omega
structure QE (t:E)(l:List E)(b:Nat):Prop where
 all:∀x∈t.nodes,okN 9 x
 alls:∀x∈Zaq l,okN 9 x
 sz:t.nodes.length+(Zaq l).length+l.length<=b
theorem QE.start{t:E}{l:List E}{i:Nat}(h:PE (t::l) i):QE t l (2*i):=by
 have h1:=h.all;have h2:=h.sz
 simp only[Zaq,List.length_append]at h1 h2
 have:=Zf3 l
 exact⟨λx hx=>h1 x (List.mem_append_left _ hx),λx hx=>h1 x (List.mem_append_right _ hx),by omega⟩
theorem QE.step{t x:E}{l:List E}{b:Nat}(h:QE t (x::l) b)(a:Option Addr)(d:Nat):QE (opE 2 a d t x) l b:=by
 have h1:=h.alls;have h2:=h.sz
 simp only[Zaq,List.length_append,List.length_cons]at h1 h2
 have hm:MkE 9 (t.nodes.length+x.nodes.length+1) (opE 2 a d t x):=Zwm (by omega) ⟨h.all,Nat.le_refl _⟩ ⟨λz hz=>h1 z (List.mem_append_left _ hz),Nat.le_refl _⟩
 exact⟨hm.all,λz hz=>h1 z (List.mem_append_right _ hz),by have:=hm.len;omega⟩
theorem QE.done{t:E}{b:Nat}(h:QE t [] b):MkE 9 b t:=⟨h.all,by have:=h.sz;omega⟩
structure BoE (c:Int)(e u:E):Prop where
 all:∀x∈u.nodes,okN c x
 len:u.nodes.length<=e.nodes.length
 k8:u.k=8↔e.k=8
theorem Zrn{c:Int}:∀{l r:List E},l.length=r.length->(∀(i:Nat)(x y:E),l[i]?=some x->r[i]?=some y->BoE c x y)->(∀z∈Zaq r,okN c z)/\(Zaq r).length<=(Zaq l).length/\Zqg r=Zqg l
 | [],[],_,_=>⟨by simp[Zaq],Nat.le_refl _,rfl⟩
 | [],_::_,h,_=>by simp at h
 | _::_,[],h,_=>by simp at h
 | x::l,y::r,h,hb=>by
  have h0:=hb 0 x y rfl rfl
  obtain⟨h1,h2,_⟩:=Zrn (l:=l) (r:=r) (by simpa using h) (λi x' y' hx hy=>hb (i+1) x' y' (by simpa using hx) (by simpa using hy))
  refine⟨λz hz=>?_,?_,?_⟩
  ·simp only[Zaq]at hz
   rcases List.mem_append.1 hz with hz|hz
   ·exact h0.all z hz
   ·exact h1 z hz
  ·simp only[Zaq,List.length_append];have:=h0.len;omega
  ·show(y.k == 8)=(x.k == 8)
   rw[Bool.eq_iff_iff];simpa using h0.k8
theorem ZuF{c:Int}{k:Int}{x:Nat}{s:ByteArray}{g:Int}{a a':Option Addr}{d d':Nat}{l r:List E}(h:okN 9 (.node k x s g a d l))(hk:¬(k=10/\g > c))(hl:l.length=r.length)(hb:∀(i:Nat)(x y:E),l[i]?=some x->r[i]?=some y->BoE c x y):BoE c (.node k x s g a d l) (.node k x s g a' d' r):=by
 obtain⟨h1,h2,h3⟩:=Zrn hl hb
 refine⟨λz hz=>?_,?_,Iff.rfl⟩
 ·simp only[E.nodes,List.mem_cons]at hz
  rcases hz with rfl|hz
  ·refine⟨?_,h.2.1,λe=>?_⟩
   ·have e1:=h.1
    simp only[E.right,E.k,E.s,E.x,E.g,E.subs]at e1 ⊢
    rw[<-hl,h3];exact e1
   ·have e:k=10:=e
    show g<=c
    omega
  ·exact h1 z hz
 ·simp only[E.nodes,List.length_cons];omega
theorem Zwq{c:Int}{e:E}{s:ByteArray}(hs:s∈Zjv)(hk:e.k=10):BoE c e (Zxa s):=by
 have h:=ZtV (c:=c) hs
 refine⟨h.all,Nat.le_trans h.len (ZlU e),?_⟩
 rw[hk]
 show(9:Int)=8↔_
 omega
theorem BoE.toMk{c:Int}{n:Nat}{e u:E}(h:BoE c e u)(he:e.nodes.length<=n):MkE c n u:=⟨h.all,Nat.le_trans h.len he⟩
end Go.Rx
namespace Go.Rx
open Go Go.Eng
def ZxA(l:List Ru)(key:Ru->Int)(o:Option Nat)(x:Ru):Bool:=match o with
 | none=>true
 | some t=>match l[t]? with
  | some y=>decide (key x < key y)
  | none=>false
def Zjq(l:List Ru)(cnt:Ru->Bool)(key:Ru->Int):Nat->Option Nat
 | 0=>none
 | i+1=>match l[i]? with
  | none=>Zjq l cnt key i
  | some x=>if cnt x&&ZxA l key (Zjq l cnt key i) x then some i else Zjq l cnt key i
def Zzk(l:List Ru)(cnt:Ru->Bool)(key:Ru->Int):Option Nat:=Zjq l cnt key l.length
theorem Zcr{l:List Ru}{cnt:Ru->Bool}{key:Ru->Int}:∀{i t:Nat},Zjq l cnt key i=some t->t < i/\∃y,l[t]?=some y/\cnt y=true
 | 0,t,h=>by simp[Zjq]at h
 | i+1,t,h=>by
  rw[Zjq]at h
  split at h
  ·obtain⟨h1,h2⟩:=Zcr h
   exact⟨by omega,h2⟩
  ·rename_i x hx
   split at h
   ·rename_i hc
    obtain rfl:i=t:=by simpa using h
    rw[Bool.and_eq_true]at hc
    exact⟨by omega,x,hx,hc.1⟩
   ·obtain⟨h1,h2⟩:=Zcr h
    exact⟨by omega,h2⟩
theorem Zqj{l:List Ru}{cnt:Ru->Bool}{key:Ru->Int}{i:Nat}{x:Ru}(hx:l[i]?=some x):Zjq l cnt key (i+1)=if cnt x&&ZxA l key (Zjq l cnt key i) x then some i else Zjq l cnt key i:=by
 rw[Zjq,hx]
def Zzl(r:Ru):Bool:=r.k == 4
def Zzt(r:Ru):Bool:=r.k == 3
def Zzu(r:Ru):Int:=r.n
def Zzv(_:Ru):Int:=0
def toO(x:Sta):Option Nat:=Zzk x.rules Zzl Zzu
def eoO(x:Sta):Option Nat:=Zzk x.rules Zzt Zzv
def Zwr(o:Option Nat):Int:=(o.getD 0:Nat)
def Zke(x:Sta)(k:Nat)(r:Ru):Bool:=(r.k == 4&&!((k:Int) == Zwr (toO x)))||(r.k == 3&&!((k:Int) == Zwr (eoO x)))
abbrev Dd:=Int×Int
def Zev(i:Nat)(x:Sta):Nat->List Dd
 | 0=>[]
 | k+1=>Zev i x k++(match x.rules[k]? with
  | some r=>if Zke x k r then[((i:Int),(k:Int))]else[]
  | none=>[])
def Ze1(s:Sc):Nat->List Dd
 | 0=>[]
 | i+1=>Ze1 s i++(match s.states[i]? with
  | some x=>Zev i x x.rules.length
  | none=>[])
def ZdM(s:Sc):List Dd:=Ze1 s s.states.length
def dV(d:Dd):Value:=.agg #[.int .i64 d.1,.int .i64 d.2]
def dC(d:Dd):List Value:=[.int .i64 d.1,.int .i64 d.2]
theorem ZlV{i:Nat}{x:Sta}{k:Nat}{r:Ru}(h:x.rules[k]?=some r):Zev i x (k+1)=Zev i x k++(if Zke x k r then[((i:Int),(k:Int))]else[]):=by rw[Zev,h]
theorem ZlW{s:Sc}{i:Nat}{x:Sta}(h:s.states[i]?=some x):Ze1 s (i+1)=Ze1 s i++Zev i x x.rules.length:=by rw[Ze1,h]
theorem ZoB(i:Nat)(x:Sta):∀k,(Zev i x k).length<=k
 | 0=>by simp[Zev]
 | k+1=>by
  rw[Zev,List.length_append]
  have:=ZoB i x k
  split
  ·split <;> simp <;> omega
  ·simp;omega
theorem ZsJ{i:Nat}{x:Sta}{k n:Nat}(h:k<=n):∃r,Zev i x n=Zev i x k++r:=by
 induction n with
 | zero=>exact⟨[],by rw[show k=0 by omega];simp⟩
 | succ n ih=>
  by_cases e:k=n+1
  ·exact⟨[],by rw[e];simp⟩
  ·obtain⟨r,hr⟩:=ih (by omega)
   rw[Zev,hr];exact⟨_,List.append_assoc _ _ _⟩
theorem ZsK{s:Sc}{k n:Nat}(h:k<=n):∃r,Ze1 s n=Ze1 s k++r:=by
 induction n with
 | zero=>exact⟨[],by rw[show k=0 by omega];simp⟩
 | succ n ih=>
  by_cases e:k=n+1
  ·exact⟨[],by rw[e];simp⟩
  ·obtain⟨r,hr⟩:=ih (by omega)
   rw[Ze1,hr];exact⟨_,List.append_assoc _ _ _⟩
def ZvE:List Dd->List Dd->Bool
 | _,[]=>true
 | all,x::l=>match all.findIdx? (· == x)with
  | none=>false
  | some i=>ZvE (all.drop (i+1)) l
def Zcs(s:Sc):Nat->Int
 | 0=>0
 | i+1=>match s.states[i]? with
  | none=>Zcs s i
  | some x=>match toO x with
   | none=>Zcs s i
   | some k=>match x.rules[k]? with
    | none=>Zcs s i
    | some r=>if r.n > Zcs s i then r.n else Zcs s i
def ZoC(s:Sc):Int:=Zcs s s.states.length
end Go.Rx