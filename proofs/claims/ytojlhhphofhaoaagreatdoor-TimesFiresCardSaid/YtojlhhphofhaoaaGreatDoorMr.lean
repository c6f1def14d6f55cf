/- Trees of regexes, what they mean, and w6 they lie in memory; plain, no program is named. No condition. -/
import Derived.Test.YtojlhhphofhaoaaGreatDoorMc
import Derived.Lib.SliceRun
import Derived.Shelf.SlicesE.Delete
import Derived.Deep.MidRow
set_option linter.unusedVariables false
set_option linter.unusedSimpArgs false
set_option linter.unusedSectionVars false
namespace Go.Rx
open Go Go.Eng
inductive T where
 | node (k s0 s1 s2 s3 mn mx:Int) (a:Option Addr) (c:Nat) (subs:List T)
def T.k:T->Int
 | .node k _ _ _ _ _ _ _ _ _=>k
def T.s0:T->Int
 | .node _ s _ _ _ _ _ _ _ _=>s
def T.s1:T->Int
 | .node _ _ s _ _ _ _ _ _ _=>s
def T.s2:T->Int
 | .node _ _ _ s _ _ _ _ _ _=>s
def T.s3:T->Int
 | .node _ _ _ _ s _ _ _ _ _=>s
def T.mn:T->Int
 | .node _ _ _ _ _ x _ _ _ _=>x
def T.mx:T->Int
 | .node _ _ _ _ _ _ x _ _ _=>x
def T.a:T->Option Addr
 | .node _ _ _ _ _ _ _ a _ _=>a
def T.c:T->Nat
 | .node _ _ _ _ _ _ _ _ c _=>c
def T.subs:T->List T
 | .node _ _ _ _ _ _ _ _ _ l=>l
def T.sl(t:T):Value:=.slice t.a t.subs.length t.c
def T.cs(t:T):List Value:=[.int .u8 t.k,.int .u64 t.s0,.int .u64 t.s1,.int .u64 t.s2,.int .u64 t.s3,.int .i64 t.mn,.int .i64 t.mx,t.sl]
def T.v(t:T):Value:=.agg #[.int .u8 t.k,.int .u64 t.s0,.int .u64 t.s1,.int .u64 t.s2,.int .u64 t.s3,.int .i64 t.mn,.int .i64 t.mx,.slice t.a t.subs.length t.c]
structure OkN (k s0 s1 s2 s3 mn mx:Int):Prop where
 k:0<=k/\k < 256
 s0:0<=s0/\s0 < 18446744073709551616
 s1:0<=s1/\s1 < 18446744073709551616
 s2:0<=s2/\s2 < 18446744073709551616
 s3:0<=s3/\s3 < 18446744073709551616
 mn : -9223372036854775808<=mn/\mn<=9223372036854775807
 mx : -9223372036854775808<=mx/\mx<=9223372036854775807
mutual
def Rep(m:Mem):T->Prop
 | .node k s0 s1 s2 s3 mn mx a _ l=>l.length<=1000000000000000/\(l=[]\/∃b o,a=some ⟨b,o,none⟩/\RepAt m b o l)/\OkN k s0 s1 s2 s3 mn mx
def RepAt(m:Mem)(b:Nat):Nat->List T->Prop
 | _,[]=>True
 | o,t::l=>m.reads b o t.cs/\Rep m t/\RepAt m b (o+8) l
end
theorem ZjM{m:Mem}{t:T}:Rep m t->(t.subs.length<=1000000000000000/\(t.subs=[]\/∃b o,t.a=some ⟨b,o,none⟩/\RepAt m b o t.subs)):=by
 cases t;simp only[Rep,T.subs,T.a];exact λh=>⟨h.1,h.2.1⟩
theorem Zz7{m:Mem}{t:T}:Rep m t->OkN t.k t.s0 t.s1 t.s2 t.s3 t.mn t.mx:=by
 cases t;simp only[Rep];exact λh=>h.2.2
theorem Zz8{m:Mem}{t:T}(h1:t.subs.length<=1000000000000000)(h2:t.subs=[]\/∃b o,t.a=some ⟨b,o,none⟩/\RepAt m b o t.subs)(h3:OkN t.k t.s0 t.s1 t.s2 t.s3 t.mn t.mx):Rep m t:=by
 cases t;simp only[Rep];exact⟨h1,h2,h3⟩
mutual
theorem Rep.mono{m m':Mem}(h:m.le m'):∀t:T,Rep m t->Rep m' t
 | .node _ _ _ _ _ _ _ a _ l,hr=>by
  simp only[Rep]at *
  refine⟨hr.1,?_,hr.2.2⟩
  rcases hr.2.1 with hr|⟨b,o,h1,h2⟩
  ·exact .inl hr
  ·exact .inr ⟨b,o,h1,RepAt.mono h b o l h2⟩
theorem RepAt.mono{m m':Mem}(h:m.le m')(b:Nat):∀(o:Nat)(l:List T),RepAt m b o l->RepAt m' b o l
 | _,[],_=>by simp only[RepAt]
 | o,t::l,hr=>by
  simp only[RepAt]at *
  exact⟨hr.1.mono h,Rep.mono h t hr.2.1,RepAt.mono h b (o+8) l hr.2.2⟩
end
theorem RepAt.get{m:Mem}{b:Nat}:∀{o:Nat} {l:List T} {i:Nat} {t:T},RepAt m b o l->l[i]?=some t->m.reads b (o+i*8) t.cs/\Rep m t
 | o,[],i,t,_,hi=>by simp at hi
 | o,x::l,0,t,h,hi=>by
  simp only[RepAt]at h
  simp at hi;subst hi
  exact⟨by simpa using h.1,h.2.1⟩
 | o,x::l,i+1,t,h,hi=>by
  simp only[RepAt]at h
  have:=h.2.2.get (i:=i) (by simpa using hi)
  rw[show o+(i+1)*8=o+8+i*8 by omega]
  exact this
mutual
def T.nodes:T->List T
 | .node k s0 s1 s2 s3 mn mx a c l=>.node k s0 s1 s2 s3 mn mx a c l::ZaA l
def ZaA:List T->List T
 | []=>[]
 | t::l=>t.nodes++ZaA l
end
theorem ZcD(t:T):t.nodes=t::ZaA t.subs:=by cases t;simp only[T.nodes,T.subs]
theorem Zda(l r:List T):ZaA (l++r)=ZaA l++ZaA r:=by
 induction l with
 | nil=>simp[ZaA]
 | cons t l ih=>simp[ZaA,ih,List.append_assoc]
theorem ZoV{l:List T}{i:Nat}{t:T}(h:l[i]?=some t):ZaA (l.take (i+1))=ZaA (l.take i)++t.nodes:=by
 have:l.take (i+1)=l.take i++[t]:=by
  rw[List.take_add_one,h];rfl
 rw[this,Zda];simp[ZaA]
theorem ZdE{l:List T}{i:Nat}{t:T}(h:l[i]?=some t):ZaA l=ZaA (l.take i)++(t.nodes++ZaA (l.drop (i+1))):=by
 have aP:=(List.getElem?_eq_some_iff.1 h).1
 have e:l=l.take i++(t::l.drop (i+1)):=by
  have:=List.drop_eq_getElem_cons aP
  rw[(List.getElem?_eq_some_iff.1 h).2]at this
  rw[<-this,List.take_append_drop]
 conv=>lhs;rw[e,Zda]
 simp[ZaA]
theorem Zv6{t x z:T}{i q:Nat}(hx:t.subs[i]?=some x)(hz:x.nodes[q]?=some z):t.nodes[1+(ZaA (t.subs.take i)).length+q]?=some z:=by
 have hq:=(List.getElem?_eq_some_iff.1 hz).1
 rw[ZcD,show 1+(ZaA (t.subs.take i)).length+q=((ZaA (t.subs.take i)).length+q)+1 by omega,List.getElem?_cons_succ,ZdE hx,List.getElem?_append_right (by omega),List.getElem?_append_left (by omega),show(ZaA (List.take i t.subs)).length+q - (ZaA (List.take i t.subs)).length=q by omega]
 exact hz
theorem Zq3{t x:T}(h:x∈t.subs):SizeOf.sizeOf x < SizeOf.sizeOf t:=by
 cases t with
 | node k s0 s1 s2 s3 mn mx a c l=>
  have h':x∈l:=h
  have:=List.sizeOf_lt_of_mem h'
  simp only[T.node.sizeOf_spec]
  omega
theorem Zq4(t:T):Shape.fitsL [.agg [.int .u8,.int .u64,.int .u64,.int .u64,.int .u64,.int .i64,.int .i64,.slice]] [t.v]=true:=by
 simp[Shape.fitsL,Shape.fits,T.v]
mutual
theorem Zr1{m:Mem}:∀(t:T),Rep m t->∀x∈t.nodes,Rep m x
 | .node k s0 s1 s2 s3 mn mx a c l,hr,x,hx=>by
  simp only[T.nodes,List.mem_cons]at hx
  rcases hx with rfl|hx
  ·exact hr
  ·simp only[Rep]at hr
   rcases hr.2.1 with h|⟨b,o,_,h⟩
   ·subst h;simp[ZaA]at hx
   ·exact ZoW b o l h x hx
theorem ZoW{m:Mem}(b:Nat):∀(o:Nat)(l:List T),RepAt m b o l->∀x∈ZaA l,Rep m x
 | _,[],_,x,hx=>by simp[ZaA]at hx
 | o,t::l,hr,x,hx=>by
  simp only[RepAt]at hr
  simp only[ZaA,List.mem_append]at hx
  rcases hx with hx|hx
  ·exact Zr1 t hr.2.1 x hx
  ·exact ZoW b (o+8) l hr.2.2 x hx
end
theorem ZtA{m:Mem}{t x:T}(h:Rep m t)(hx:x∈t.nodes):Rep m x:=Zr1 t h x hx
def Zkm(least most:Int):Bool:=!(decide (least < 0)||decide (least > 16)||(least == 1&&most == 1))&&(most == -1||(decide (most ≥ 1)&&decide (most<=16)&&decide (most ≥ least)))
def T.has(t:T)(k:Int):Bool:=t.subs.any λx=>x.k == k
def T.light(t:T):Bool:=decide (t.nodes.length<=10000)
def T.setZ(t:T):Bool:=t.s0 == 0&&t.s1 == 0&&t.s2 == 0&&t.s3 == 0
def T.right(t:T):Bool:=
 !(t.k != 2&&!t.setZ||(t.k != 5&&(t.mn != 0||t.mx != 0)||(decide (t.k < 3)&&decide (0 < t.subs.length)))) &&
 (if t.k=1 then true else if t.k=2 then !t.setZ else if t.k=3 then decide (1 < t.subs.length)&&(!t.has 1&&!t.has 3)else if t.k=4 then decide (1 < t.subs.length)&&!t.has 4
  else if t.k=5 then t.subs.length == 1&&(Zkm t.mn t.mx&&!t.has 1)else t.k == 6&&t.subs.length == 1)
def T.clean(t:T):Bool:=t.light&&t.nodes.all T.right
def T.size(t:T):Int:=if t.light then t.nodes.length else 10001
def T.groups(t:T):Int:=if t.light then(t.nodes.countP λx=>x.k == 6:Nat)else 10001
def Zqo(x y:Int):Int:=if y > x then y else x
def ZgS(x y:Int):Int:=if y < x then y else x
def Zxu(k mn mx sum:Int):Int:=ZgS (if k=5 then sum*ZgS (if mx=-1 then Zqo (Zqo mn 0) 1 else Zqo (Zqo mn 0) mx) 10001 else sum) 10001
mutual
def T.pos:T->Int
 | .node k _ _ _ _ mn mx _ _ l=>Zxu k mn mx ((if k=2 then 1 else 0)+Zfv l)
def Zfv:List T->Int
 | []=>0
 | t::l=>t.pos+Zfv l
end
def T.positions(t:T):Int:=if t.light then t.pos else 10001
def T.check(t:T):Int:=if t.clean=false then 80 else if t.size > 120 then 81 else if t.positions > 400 then 82 else if t.groups > 9 then 83 else 0
mutual
def T.same:T->T->Bool
 | .node k s0 s1 s2 s3 mn mx _ _ l,.node k' s0' s1' s2' s3' mn' mx' _ _ l'=>k == k'&&((s0 == s0'&&s1 == s1'&&s2 == s2'&&s3 == s3')&&(mn == mn'&&(mx == mx'&&Zfc l l')))
def Zfc:List T->List T->Bool
 | [],[]=>true
 | t::l,t'::l'=>t.same t'&&Zfc l l'
 | _,_=>false
end
theorem Zu8(t u:T):t.same u=(t.k == u.k&&((t.s0 == u.s0&&t.s1 == u.s1&&t.s2 == u.s2&&t.s3 == u.s3)&&(t.mn == u.mn&&(t.mx == u.mx&&Zfc t.subs u.subs)))):=by
 cases t;cases u;simp only[T.same,T.k,T.s0,T.s1,T.s2,T.s3,T.mn,T.mx,T.subs]
theorem ZoX:∀{l r:List T},¬l.length=r.length->Zfc l r=false
 | [],[],h=>by simp at h
 | [],_::_,_=>by simp[Zfc]
 | _::_,[],_=>by simp[Zfc]
 | x::l,y::r,h=>by
  simp only[Zfc,ZoX (l:=l) (r:=r) (by simpa using h),Bool.and_false]
theorem Zr2:∀{l r:List T} {i:Nat} {x y:T},l[i]?=some x->r[i]?=some y->x.same y=false->Zfc l r=false
 | [],r,i,x,y,h,_,_=>by simp at h
 | _::_,[],i,x,y,_,h,_=>by simp at h
 | a::l,b::r,0,x,y,h,k,e=>by
  simp at h k;subst h k
  simp[Zfc,e]
 | a::l,b::r,i+1,x,y,h,k,e=>by
  simp only[Zfc,Zr2 (l:=l) (r:=r) (i:=i) (by simpa using h) (by simpa using k) e,Bool.and_false]
theorem Zl3:∀{l r:List T} {i:Nat} {x y:T},l[i]?=some x->r[i]?=some y->Zfc (l.take i) (r.take i)=true->x.same y=true->True->Zfc (l.take (i+1)) (r.take (i+1))=true
 | [],r,i,x,y,h,_,_,_,_=>by simp at h
 | _::_,[],i,x,y,_,h,_,_,_=>by simp at h
 | a::l,b::r,0,x,y,h,k,_,e,_=>by
  simp at h k;subst h k
  simp[Zfc,e]
 | a::l,b::r,i+1,x,y,h,k,hs,e,_=>by
  simp only[List.take_succ_cons,Zfc,Bool.and_eq_true]at hs ⊢
  exact⟨hs.1,Zl3 (by simpa using h) (by simpa using k) hs.2 e trivial⟩
theorem Zq5(t:T):t.pos=Zxu t.k t.mn t.mx ((if t.k=2 then 1 else 0)+Zfv t.subs):=by
 cases t;simp only[T.pos,T.k,T.mn,T.mx,T.subs];congr 1
theorem Zbg(l r:List T):Zfv (l++r)=Zfv l+Zfv r:=by
 induction l with
 | nil=>simp[Zfv]
 | cons t l ih=>simp[Zfv,ih,Int.add_assoc]
theorem ZtB{l:List T}{i:Nat}{t:T}(h:l[i]?=some t):Zfv (l.take (i+1))=Zfv (l.take i)+t.pos:=by
 have:l.take (i+1)=l.take i++[t]:=by
  rw[List.take_add_one,h];rfl
 rw[this,Zbg];simp[Zfv]
theorem Zr3(x y:Int):x<=Zqo x y/\y<=Zqo x y:=by unfold Zqo;split <;> omega
theorem Zl4(x y:Int):ZgS x y<=x/\ZgS x y<=y:=by unfold ZgS;split <;> omega
theorem Zu9{x y:Int}(h:0<=x)(k:0<=y):0<=ZgS x y:=by unfold ZgS;split <;> omega
def Zv7(mn mx:Int):Int:=ZgS (if mx=-1 then Zqo (Zqo mn 0) 1 else Zqo (Zqo mn 0) mx) 10001
theorem Zva(mn mx:Int):0<=Zv7 mn mx/\Zv7 mn mx<=10001:=by
 unfold Zv7
 refine⟨Zu9 ?_ (by omega),(Zl4 _ _).2⟩
 have h1:=Zr3 mn 0
 split
 ·have:=Zr3 (Zqo mn 0) 1;omega
 ·have:=Zr3 (Zqo mn 0) mx;omega
theorem Zx8{k mn mx sum:Int}(h:0<=sum):0<=Zxu k mn mx sum/\Zxu k mn mx sum<=10001:=by
 have h2:=Int.mul_nonneg h (Zva mn mx).1
 unfold Zxu
 refine⟨Zu9 ?_ (by omega),(Zl4 _ _).2⟩
 split
 ·exact h2
 ·exact h
mutual
theorem ZiH:∀t:T,0<=t.pos/\t.pos<=10001
 | .node k _ _ _ _ mn mx _ _ l=>by
  simp only[T.pos]
  have:=Zhh l
  exact Zx8 (by split <;> omega)
theorem Zhh:∀l:List T,0<=Zfv l
 | []=>by simp[Zfv]
 | t::l=>by
  simp only[Zfv]
  have:=ZiH t
  have:=Zhh l
  omega
end
theorem Zvb:∀l:List T,Zfv l<=10001*l.length
 | []=>by simp[Zfv]
 | t::l=>by
  simp only[Zfv,List.length_cons]
  have:=ZiH t
  have:=Zvb l
  omega
theorem Zvc(t:T):t.subs.length < t.nodes.length:=by
 rw[ZcD,List.length_cons]
 have:∀l:List T,l.length<=(ZaA l).length:=by
  intro l
  induction l with
  | nil=>simp[ZaA]
  | cons x l ih=>simp only[ZaA,List.length_cons,List.length_append];rw[ZcD];simp;omega
 have:=this t.subs
 omega
theorem ZtC{t x:T}(h:x∈t.subs):x.nodes.length < t.nodes.length:=by
 obtain⟨i,hi⟩:=List.getElem?_of_mem h
 rw[ZcD t,List.length_cons,ZdE hi]
 simp;omega
def T.hasB(t:T)(c:Nat):Bool:=((if c / 64=0 then t.s0 else if c / 64=1 then t.s1 else if c / 64=2 then t.s2 else t.s3).toNat).testBit (c % 64)
end Go.Rx
namespace Go.Rx
open Go Go.Eng Go.RowKit
theorem ZAI(n:Nat)(h:n < 18446744073709551616):IntKind.u64.wrap (n:Int)=n:=by
 unfold IntKind.wrap
 have e:(2:Int) ^ 64=18446744073709551616:=by decide
 simp only[IntKind.bits,IntKind.signed,Bool.false_and,Bool.false_eq_true,if_false,e]
 omega
theorem ZBS(a:Nat)(h:a < 18446744073709551616):(BitVec.ofInt 64 (a:Int)).toNat=a:=by
 rw[BitVec.toNat_ofInt]
 have e:((2:Nat) ^ 64:Nat)=18446744073709551616:=by decide
 rw[e];omega
theorem Zv8(a b:Nat)(ha:a < 18446744073709551616)(hb:b < 18446744073709551616):IntKind.u64.wrap ((BitVec.ofInt 64 (a:Int)|||BitVec.ofInt 64 (b:Int)).toNat:Int)=((a|||b:Nat):Int):=by
 rw[BitVec.toNat_or,ZBS a ha,ZBS b hb]
 exact ZAI _ (Nat.or_lt_two_pow (n:=64) ha hb)
def Byt(m:Mem)(a:Option Addr)(s:List Nat):Prop:=(s=[]\/∃b o,a=some ⟨b,o,none⟩/\m.reads b o (s.map λc:Nat=>Value.int .u8 c))/\∀c∈s,c < 256
theorem Byt.mono{m m':Mem}{a s}(h:Byt m a s)(hm:m.le m'):Byt m' a s:=by
 refine⟨?_,h.2⟩
 rcases h.1 with h|⟨b,o,h1,h2⟩
 ·exact .inl h
 ·exact .inr ⟨b,o,h1,h2.mono hm⟩
theorem Byt.get{m:Mem}{a s}(h:Byt m a s){i c:Nat}(hi:s[i]?=some c):(∃b o,a=some ⟨b,o,none⟩/\m b (o+i)=some (.int .u8 c))/\c < 256:=by
 refine⟨?_,h.2 c (List.mem_of_getElem? hi)⟩
 rcases h.1 with h|⟨b,o,h1,h2⟩
 ·subst h;simp at hi
 ·exact⟨b,o,h1,h2 i _ (by rw[List.getElem?_map,hi];rfl)⟩
def ZBl(t:T)(back:Bool)(f i c out:Nat):Nat:=if(f.testBit (if back then i+1 else i)&&t.hasB c)=true then out|||2 ^ (if back then i else i+1)else out
def ZBT(t:T)(back:Bool)(f:Nat):List Nat->Nat->Nat->Nat
 | [],_,out=>out
 | c::s,i,out=>ZBT t back f s (i+1) (ZBl t back f i c out)
def ZBK(g:Nat->Nat):Nat->Nat->Nat
 | 0,f=>f
 | n+1,f=>ZBK g n (g f)
def ZAJ(g:Nat->Nat)(mx:Int):Nat->Int->Nat->Nat->Nat
 | 0,_,out,_=>out
 | n+1,k,out,last=>if k=mx then out else if out|||g last=out then out else ZAJ g mx n (IntKind.i64.wrap (k+1)) (out|||g last) (g last)
@[irreducible] def ZCb:Nat:=576
abbrev ZCc:Nat:=2 ^ ZCb
def ZCd(g:Nat->Nat)(mn mx:Int)(f:Nat):Nat:=ZAJ g mx (ZCc+1) mn (ZBK g mn.toNat f) (ZBK g mn.toNat f)
mutual
def T.lead(s:List Nat)(back:Bool):T->Nat->Nat
 | .node k s0 s1 s2 s3 mn mx a c l=>λf=>
  if k=1 then f else if k=2 then ZBT (.node k s0 s1 s2 s3 mn mx a c l) back f s 0 0
  else if k=3 then(if back then ZAL s back l f else ZAK s back l f)
  else if k=4 then ZBU s back l f 0
  else if k=5 then ZCd (ZAM s back l) mn mx f
  else if k=6 then ZAM s back l f else 0
def ZAK(s:List Nat)(back:Bool):List T->Nat->Nat
 | []=>λf=>f
 | t::l=>λf=>ZAK s back l (t.lead s back f)
def ZAL(s:List Nat)(back:Bool):List T->Nat->Nat
 | []=>λf=>f
 | t::l=>λf=>t.lead s back (ZAL s back l f)
def ZBU(s:List Nat)(back:Bool):List T->Nat->Nat->Nat
 | []=>λ_ out=>out
 | t::l=>λf out=>ZBU s back l f (out|||t.lead s back f)
def ZAM(s:List Nat)(back:Bool):List T->Nat->Nat
 | []=>λf=>f
 | t::_=>λf=>t.lead s back f
end
section
variable {s:List Nat} {back:Bool}
end
theorem ZoY{α:Type}{l:List α}{i:Nat}{x:α}(h:l[i]?=some x):l.drop i=x::l.drop (i+1):=by
 obtain⟨h1,h2⟩:=List.getElem?_eq_some_iff.1 h
 rw[List.drop_eq_getElem_cons h1,h2]
theorem Zr4{α:Type}{l:List α}{i:Nat}{x:α}(h:l[i]?=some x):l.take (i+1)=l.take i++[x]:=by
 rw[List.take_add_one,h];rfl
section
variable (s:List Nat) (back:Bool) (hs:s.length<=512)
include hs
end
def T0:T:=.node 0 0 0 0 0 0 0 none 0 []
def T1:T:=.node 1 0 0 0 0 0 0 none 0 []
theorem Zz9(m:Mem):Rep m T0:=by simp only[T0,Rep];exact⟨by simp,.inl trivial,by constructor <;> decide⟩
theorem Zx9(m:Mem):Rep m T1:=by simp only[T1,Rep];exact⟨by simp,.inl trivial,by constructor <;> decide⟩
def T.isNone(t:T):Bool:=t.k == 0&&(t.light&&(T0.light&&t.same T0))
def T.wrong(t:T)(len:Nat)(i:Int):Int:=if(!t.isNone&&!(t.check == 0))=true then 130 else if(len:Int) > 512 then 3 else if i < 0\/i > len then 2 else 0
structure Rg where
 bg:Bool
 en:Bool
 t:T
def Rg.v(r:Rg):Value:=.agg #[.bool r.bg,.bool r.en,.int .u8 r.t.k,.int .u64 r.t.s0,.int .u64 r.t.s1,.int .u64 r.t.s2,.int .u64 r.t.s3,.int .i64 r.t.mn,.int .i64 r.t.mx,.slice r.t.a r.t.subs.length r.t.c]
def Rg.cs(r:Rg):List Value:=[.bool r.bg,.bool r.en,.int .u8 r.t.k,.int .u64 r.t.s0,.int .u64 r.t.s1,.int .u64 r.t.s2,.int .u64 r.t.s3,.int .i64 r.t.mn,.int .i64 r.t.mx,.slice r.t.a r.t.subs.length r.t.c]
def Rgs(m:Mem)(a:Option Addr)(l:List Rg):Prop:=l.length<=1000000000000000/\(l=[]\/∃b o,a=some ⟨b,o,none⟩/\∀i r,l[i]?=some r->m.reads b (o+i*10) r.cs)/\∀r∈l,Rep m r.t
theorem Rgs.mono{m m':Mem}{a l}(h:Rgs m a l)(hm:m.le m'):Rgs m' a l:=by
 refine⟨h.1,?_,λr hr=>(h.2.2 r hr).mono hm⟩
 rcases h.2.1 with h|⟨b,o,h1,h2⟩
 ·exact .inl h
 ·exact .inr ⟨b,o,h1,λi r hi=>(h2 i r hi).mono hm⟩
def ZAa(f:Nat):List Nat:=(List.range 513).filter λi=>f.testBit i
def Zya(n:Nat):List Nat->Option Nat
 | []=>none
 | i::_=>if i > n then none else some i
def Rg.from(s:List Nat)(n:Nat)(r:Rg):Option Nat:=if(r.en&&decide ((n:Int) < s.length))=true then none else if r.bg then(if(r.t.lead s true (2 ^ n)).testBit 0 then some 0 else none)else
 Zya n (ZAa (r.t.lead s true (2 ^ n)))
def Rg.wrong(r:Rg)(len:Nat)(n:Int):Int:=if r.t.check=0 then r.t.wrong len n else 130
def ZoZ(φ:T->Prop):Value->Mem->List (List Value)->Prop:=λv m' _=>∃t:T,v=t.v/\Rep m' t/\φ t
abbrev TRK:=Int->Int->Int->Int->Int->Int->Int->Option Addr->Nat->Nat->Mem->Prop
theorem Zq6{φ:T->Prop}{m:Mem}{K:TRK}(k:∀(t:T)(m':Mem),m.le m'->Rep m' t->φ t->K t.k t.s0 t.s1 t.s2 t.s3 t.mn t.mx t.a t.subs.length t.c m'):
  ∀(n0 n1 n2 n3 n4 n5 n6:Int)(a:Option Addr)(n c:Nat)(m':Mem),m.le m'->ZoZ φ (.agg #[.int .u8 n0,.int .u64 n1,.int .u64 n2,.int .u64 n3,.int .u64 n4,.int .i64 n5,.int .i64 n6,.slice a n c]) m' []->K n0 n1 n2 n3 n4 n5 n6 a n c m':=by
 rintro n0 n1 n2 n3 n4 n5 n6 a n c m' hm ⟨t,hv,hr,hp⟩
 simp only[T.v,Value.agg.injEq,Array.mk.injEq,List.cons.injEq,Value.int.injEq,Value.slice.injEq,true_and,and_true]at hv
 obtain⟨rfl,rfl,rfl,rfl,rfl,rfl,rfl,rfl,rfl,rfl⟩:=hv
 exact k t m' hm hr hp
theorem Zfw{φ:T->Prop}:∀(v:Value)(m':Mem) (css:List (List Value)),ZoZ φ v m' css->Shape.fits (.agg [.int .u8,.int .u64,.int .u64,.int .u64,.int .u64,.int .i64,.int .i64,.slice]) v=true:=λv _ _ ⟨t,e,_⟩=>by rw[e];rfl
def RepL(m:Mem)(a:Option Addr)(l:List T):Prop:=l.length<=1000000000000000/\(l=[]\/∃b o,a=some ⟨b,o,none⟩/\RepAt m b o l)
theorem RepL.mono{m m':Mem}{a l}(h:RepL m a l)(hm:m.le m'):RepL m' a l:=by
 refine⟨h.1,?_⟩
 rcases h.2 with h|⟨b,o,h1,h2⟩
 ·exact .inl h
 ·exact .inr ⟨b,o,h1,h2.mono hm⟩
theorem Rep.subs{m:Mem}{t:T}(h:Rep m t):RepL m t.a t.subs:=ZjM h
def Zcc(k mn mx:Int)(a:Option Addr)(c:Nat)(l:List T):T:=.node k 0 0 0 0 mn mx a c l
theorem Zge{m:Mem}{k mn mx:Int}{a:Option Addr}{c:Nat}{l:List T}(h:RepL m a l)(hk:0<=k/\k < 256)(h1 : -9223372036854775808<=mn/\mn<=9223372036854775807)(h2 : -9223372036854775808<=mx/\mx<=9223372036854775807):Rep m (Zcc k mn mx a c l):=by
 simp only[Zcc,Rep]
 exact⟨h.1,h.2,⟨hk,by omega,by omega,by omega,by omega,h1,h2⟩⟩
theorem Zr5{m:Mem}{b:Nat}{t:T}(h:m.reads b 0 t.cs)(hr:Rep m t):RepL m (some ⟨b,0,none⟩) [t]:=⟨by simp,.inr ⟨b,0,rfl,by simp only[RepAt];exact⟨h,hr,trivial⟩⟩⟩
def ZcR(l:List T):List Value:=(l.map T.cs).flatten
theorem Zar(l:List T):(ZcR l).length=l.length*8:=by
 induction l with
 | nil=>rfl
 | cons t l ih=>simp[ZcR,T.cs]at ih ⊢;omega
theorem ZaL(l r:List T):ZcR (l++r)=ZcR l++ZcR r:=by simp[ZcR]
theorem Zr6{m:Mem}{b:Nat}:∀{o:Nat} {l:List T},m.reads b o (ZcR l)->(∀t∈l,Rep m t)->RepAt m b o l
 | o,[],_,_=>by simp only[RepAt]
 | o,t::l,h,hr=>by
  simp only[RepAt]
  refine⟨λj v hj=>?_,hr t (by simp),Zr6 (λj v hj=>?_) λx hx=>hr x (by simp[hx])⟩
  ·refine h j v ?_
   simp only[ZcR,List.map_cons,List.flatten_cons]
   rw[List.getElem?_append_left (List.getElem?_eq_some_iff.1 hj).1];exact hj
  ·have:=h (8+j) v (by
    simp only[ZcR,List.map_cons,List.flatten_cons]
    rw[List.getElem?_append_right (by simp[T.cs])]
    have e:8+j - t.cs.length=j:=by simp[T.cs]
    rw[e];exact hj)
   rw[show o+8+j=o+(8+j) by omega];exact this
theorem Zvd{m:Mem}{a:Option Addr}{l:List T}(h:rowRd m a (ZcR l))(hr:∀t∈l,Rep m t)(hl:l.length<=1000000000000000):RepL m a l:=by
 refine⟨hl,?_⟩
 cases l with
 | nil=>exact .inl rfl
 | cons t l=>
  rcases h with h|⟨b,o,h1,h2⟩
  ·simp[ZcR,T.cs]at h
  ·exact .inr ⟨b,o,h1,Zr6 h2 hr⟩
theorem Zeu{m:Mem}{a:Option Addr}{l:List T}(h:RepL m a l):rowRd m a (ZcR l):=by
 have key:∀(l:List T)(b o:Nat),RepAt m b o l->m.reads b o (ZcR l):=by
  intro l
  induction l with
  | nil=>intro b o _ j v hj;simp[ZcR]at hj
  | cons t l ih=>
   intro b o hr j v hj
   simp only[RepAt]at hr
   simp only[ZcR,List.map_cons,List.flatten_cons]at hj
   by_cases aP:j < 8
   ·rw[List.getElem?_append_left (by simpa[T.cs]using aP)]at hj
    exact hr.1 j v hj
   ·rw[List.getElem?_append_right (by simp[T.cs];omega)]at hj
    have:=ih b (o+8) hr.2.2 (j - 8) v (by simpa[T.cs,ZcR]using hj)
    rw[show o+8+(j - 8)=o+j by omega]at this;exact this
 rcases h.2 with h|⟨b,o,h1,h2⟩
 ·subst h;exact .inl rfl
 ·exact .inr ⟨b,o,h1,key l b o h2⟩
theorem Zkn{m:Mem}{a:Option Addr}{l:List T}(h:RepL m a l):∀t∈l,Rep m t:=by
 rcases h.2 with h|⟨b,o,_,h⟩
 ·subst h;simp
 ·intro t ht
  obtain⟨i,hi⟩:=List.getElem?_of_mem ht
  exact(h.get hi).2
def ZBL(j:Nat)(w c:Nat):Nat:=if c / 64=j then w|||2 ^ (c % 64)else w
def ZuU(bs:List Nat)(j:Nat):Nat:=bs.foldl (ZBL j) 0
theorem ZtD(l:List Nat)(c j:Nat):ZuU (l++[c]) j=if c / 64=j then ZuU l j|||2 ^ (c % 64)else ZuU l j:=by
 unfold ZuU
 rw[List.foldl_append];rfl
theorem Zve(l:List Nat)(j:Nat):ZuU l j < 18446744073709551616:=by
 have key:∀(l:List Nat)(w:Nat),w < 2 ^ 64->l.foldl (ZBL j) w < 2 ^ 64:=by
  intro l
  induction l with
  | nil=>intro w h;exact h
  | cons c l ih=>
   intro w h
   refine ih _ ?_
   unfold ZBL
   split
   ·exact Nat.or_lt_two_pow h (Nat.pow_lt_pow_right (by omega) (by omega))
   ·exact h
 exact key l 0 (by decide)
def Zko(bs:List Nat):T:=.node 2 (ZuU bs 0:Nat) (ZuU bs 1:Nat) (ZuU bs 2:Nat) (ZuU bs 3:Nat) 0 0 none 0 []
theorem Zo0(bs:List Nat)(m:Mem):Rep m (Zko bs):=by
 simp only[Zko,Rep]
 have h:=Zve bs
 exact⟨by simp,.inl trivial,⟨by omega,⟨by omega,by have:=h 0;omega⟩,⟨by omega,by have:=h 1;omega⟩,⟨by omega,by have:=h 2;omega⟩,⟨by omega,by have:=h 3;omega⟩,by omega,by omega⟩⟩
def Zvf(bs:List Nat):List Value:=[.int .u64 (ZuU bs 0:Nat),.int .u64 (ZuU bs 1:Nat),.int .u64 (ZuU bs 2:Nat),.int .u64 (ZuU bs 3:Nat)]
theorem ZtE(bs:List Nat){j:Nat}(h:j < 4):(Zvf bs)[j]?=some (.int .u64 (ZuU bs j:Nat)):=by
 have:j=0\/j=1\/j=2\/j=3:=by omega
 rcases this with rfl|rfl|rfl|rfl <;> rfl
theorem Zq7(l:List Nat){c j:Nat}(hj:c / 64=j)(h:j < 4):ZaH (Zvf l) j [.int .u64 ((ZuU l j|||2 ^ (c % 64):Nat):Int)]=Zvf (l++[c]):=by
 unfold Zvf
 simp only[ZtD,hj]
 have:j=0\/j=1\/j=2\/j=3:=by omega
 rcases this with rfl|rfl|rfl|rfl <;> rfl
def Zdy(n:Nat):List Nat:=([[97],[98],[97,98],[97],[98],[99],[97,98,99],[98,99],[10],[0,255],[97],[98]][n % 12]?).getD []
end Go.Rx
namespace Go.Rx
open Go Go.Eng
inductive E where
 | node (k:Int) (x:Nat) (s:ByteArray) (g:Int) (a:Option Addr) (c:Nat) (subs:List E)
def E.k:E->Int
 | .node k _ _ _ _ _ _=>k
def E.x:E->Nat
 | .node _ x _ _ _ _ _=>x
def E.s:E->ByteArray
 | .node _ _ s _ _ _ _=>s
def E.g:E->Int
 | .node _ _ _ g _ _ _=>g
def E.a:E->Option Addr
 | .node _ _ _ _ a _ _=>a
def E.c:E->Nat
 | .node _ _ _ _ _ c _=>c
def E.subs:E->List E
 | .node _ _ _ _ _ _ l=>l
def E.sl(t:E):Value:=.slice t.a t.subs.length t.c
def E.cs(t:E):List Value:=[.int .u8 t.k,.float .f64 t.x,.string t.s,.int .i64 t.g,t.sl]
def E.v(t:E):Value:=.agg #[.int .u8 t.k,.float .f64 t.x,.string t.s,.int .i64 t.g,.slice t.a t.subs.length t.c]
def E0:E:=.node 0 0 .empty 0 none 0 []
structure OkE (k:Int)(s:ByteArray)(g:Int):Prop where
 k:0<=k/\k < 256
 s:s.size<=1000000000000000
 g : -9223372036854775808<=g/\g<=9223372036854775807
mutual
def RepE(m:Mem):E->Prop
 | .node k x s g a _ l=>l.length<=1000000000000000/\(l=[]\/∃b o,a=some ⟨b,o,none⟩/\RepEAt m b o l)/\OkE k s g
def RepEAt(m:Mem)(b:Nat):Nat->List E->Prop
 | _,[]=>True
 | o,t::l=>m.reads b o t.cs/\RepE m t/\RepEAt m b (o+5) l
end
theorem Zxv(m:Mem):RepE m E0:=by simp only[E0,RepE];exact⟨by simp,.inl trivial,by constructor <;> decide⟩
theorem ZeP{m:Mem}{t:E}:RepE m t->(t.subs.length<=1000000000000000/\(t.subs=[]\/∃b o,t.a=some ⟨b,o,none⟩/\RepEAt m b o t.subs)):=by
 cases t;simp only[RepE,E.subs,E.a];exact λh=>⟨h.1,h.2.1⟩
theorem Zr7{m:Mem}{t:E}:RepE m t->OkE t.k t.s t.g:=by
 cases t;simp only[RepE];exact λh=>h.2.2
mutual
theorem RepE.mono{m m':Mem}(h:m.le m'):∀t:E,RepE m t->RepE m' t
 | .node _ _ _ _ a _ l,hr=>by
  simp only[RepE]at *
  refine⟨hr.1,?_,hr.2.2⟩
  rcases hr.2.1 with hr|⟨b,o,h1,h2⟩
  ·exact .inl hr
  ·exact .inr ⟨b,o,h1,RepEAt.mono h b o l h2⟩
theorem RepEAt.mono{m m':Mem}(h:m.le m')(b:Nat):∀(o:Nat)(l:List E),RepEAt m b o l->RepEAt m' b o l
 | _,[],_=>by simp only[RepEAt]
 | o,t::l,hr=>by
  simp only[RepEAt]at *
  exact⟨hr.1.mono h,RepE.mono h t hr.2.1,RepEAt.mono h b (o+5) l hr.2.2⟩
end
theorem RepE.mono'{m m':Mem}{t:E}(hr:RepE m t)(h:m.le m'):RepE m' t:=RepE.mono h t hr
theorem RepEAt.mono'{m m':Mem}{b o:Nat}{l:List E}(hr:RepEAt m b o l)(h:m.le m'):RepEAt m' b o l:=RepEAt.mono h b o l hr
theorem RepEAt.get{m:Mem}{b:Nat}:∀{o:Nat} {l:List E} {i:Nat} {t:E},RepEAt m b o l->l[i]?=some t->m.reads b (o+i*5) t.cs/\RepE m t
 | o,[],i,t,_,hi=>by simp at hi
 | o,x::l,0,t,h,hi=>by
  simp only[RepEAt]at h
  simp at hi;subst hi
  exact⟨by simpa using h.1,h.2.1⟩
 | o,x::l,i+1,t,h,hi=>by
  simp only[RepEAt]at h
  have:=h.2.2.get (i:=i) (by simpa using hi)
  rw[show o+(i+1)*5=o+5+i*5 by omega]
  exact this
mutual
def E.nodes:E->List E
 | .node k x s g a c l=>.node k x s g a c l::Zap l
def Zap:List E->List E
 | []=>[]
 | t::l=>t.nodes++Zap l
end
theorem ZbE(t:E):t.nodes=t::Zap t.subs:=by cases t;simp only[E.nodes,E.subs]
theorem ZaR(l r:List E):Zap (l++r)=Zap l++Zap r:=by
 induction l with
 | nil=>simp[Zap]
 | cons t l ih=>simp[Zap,ih,List.append_assoc]
theorem ZmP{l:List E}{i:Nat}{t:E}(h:l[i]?=some t):Zap (l.take (i+1))=Zap (l.take i)++t.nodes:=by
 have:l.take (i+1)=l.take i++[t]:=by
  rw[List.take_add_one,h];rfl
 rw[this,ZaR];simp[Zap]
theorem ZcE{l:List E}{i:Nat}{t:E}(h:l[i]?=some t):Zap l=Zap (l.take i)++(t.nodes++Zap (l.drop (i+1))):=by
 have aP:=(List.getElem?_eq_some_iff.1 h).1
 have e:l=l.take i++(t::l.drop (i+1)):=by
  have:=List.drop_eq_getElem_cons aP
  rw[(List.getElem?_eq_some_iff.1 h).2]at this
  rw[<-this,List.take_append_drop]
 conv=>lhs;rw[e,ZaR]
 simp[Zap]
theorem ZtF{t x z:E}{i q:Nat}(hx:t.subs[i]?=some x)(hz:x.nodes[q]?=some z):t.nodes[1+(Zap (t.subs.take i)).length+q]?=some z:=by
 have hq:=(List.getElem?_eq_some_iff.1 hz).1
 rw[ZbE,show 1+(Zap (t.subs.take i)).length+q=((Zap (t.subs.take i)).length+q)+1 by omega,List.getElem?_cons_succ,ZcE hx,List.getElem?_append_right (by omega),List.getElem?_append_left (by omega),show(Zap (List.take i t.subs)).length+q - (Zap (List.take i t.subs)).length=q by omega]
 exact hz
theorem Zl5{t x:E}(h:x∈t.subs):SizeOf.sizeOf x < SizeOf.sizeOf t:=by
 cases t with
 | node k x s g a c l=>
  have h':_∈l:=h
  have:=List.sizeOf_lt_of_mem h'
  simp only[E.node.sizeOf_spec]
  omega
theorem Zl6(t:E):Shape.fitsL [.agg [.int .u8,.any,.str,.int .i64,.slice]] [t.v]=true:=by
 simp[Shape.fitsL,Shape.fits,E.v]
mutual
theorem Zo1{m:Mem}:∀(t:E),RepE m t->∀x∈t.nodes,RepE m x
 | .node k x s g a c l,hr,z,hx=>by
  simp only[E.nodes,List.mem_cons]at hx
  rcases hx with rfl|hx
  ·exact hr
  ·simp only[RepE]at hr
   rcases hr.2.1 with h|⟨b,o,_,h⟩
   ·subst h;simp[Zap]at hx
   ·exact Zl7 b o l h z hx
theorem Zl7{m:Mem}(b:Nat):∀(o:Nat)(l:List E),RepEAt m b o l->∀x∈Zap l,RepE m x
 | _,[],_,x,hx=>by simp[Zap]at hx
 | o,t::l,hr,x,hx=>by
  simp only[RepEAt]at hr
  simp only[Zap,List.mem_append]at hx
  rcases hx with hx|hx
  ·exact Zo1 t hr.2.1 x hx
  ·exact Zl7 b (o+5) l hr.2.2 x hx
end
theorem Zl8{m:Mem}{t x:E}(h:RepE m t)(hx:x∈t.nodes):RepE m x:=Zo1 t h x hx
def Zyb:Nat:=9221120237041090561
def Zgt(x:Nat):Nat:=if Op.floatEq .f64 x x then x else Zyb
def Zr8(x y:Nat):Bool:=Zgt x == Zgt y
def Zfx(x:Nat):Bool:=Op.floatEq .f64 x x||x == Zyb
def E.light(t:E):Bool:=decide (t.nodes.length<=10000)
def E.size(t:E):Int:=if t.light then t.nodes.length else 0
mutual
def E.same:E->E->Bool
 | .node k x s g _ _ l,.node k' x' s' g' _ _ l'=>k == k'&&(Zr8 x x'&&(s.toList == s'.toList&&(g == g'&&ZcK l l')))
def ZcK:List E->List E->Bool
 | [],[]=>true
 | t::l,t'::l'=>t.same t'&&ZcK l l'
 | _,_=>false
end
theorem Zr9(t u:E):t.same u=(t.k == u.k&&(Zr8 t.x u.x&&(t.s.toList == u.s.toList&&(t.g == u.g&&ZcK t.subs u.subs)))):=by
 cases t;cases u;simp only[E.same,E.k,E.x,E.s,E.g,E.subs]
theorem Zl9:∀{l r:List E},¬l.length=r.length->ZcK l r=false
 | [],[],h=>by simp at h
 | [],_::_,_=>by simp[ZcK]
 | _::_,[],_=>by simp[ZcK]
 | x::l,y::r,h=>by
  simp only[ZcK,Zl9 (l:=l) (r:=r) (by simpa using h),Bool.and_false]
theorem Zo2:∀{l r:List E} {i:Nat} {x y:E},l[i]?=some x->r[i]?=some y->x.same y=false->ZcK l r=false
 | [],r,i,x,y,h,_,_=>by simp at h
 | _::_,[],i,x,y,_,h,_=>by simp at h
 | a::l,b::r,0,x,y,h,k,e=>by
  simp at h k;subst h k
  simp[ZcK,e]
 | a::l,b::r,i+1,x,y,h,k,e=>by
  simp only[ZcK,Zo2 (l:=l) (r:=r) (i:=i) (by simpa using h) (by simpa using k) e,Bool.and_false]
theorem ZjN:∀{l r:List E} {i:Nat} {x y:E},l[i]?=some x->r[i]?=some y->ZcK (l.take i) (r.take i)=true->x.same y=true->ZcK (l.take (i+1)) (r.take (i+1))=true
 | [],r,i,x,y,h,_,_,_=>by simp at h
 | _::_,[],i,x,y,_,h,_,_=>by simp at h
 | a::l,b::r,0,x,y,h,k,_,e=>by
  simp at h k;subst h k
  simp[ZcK,e]
 | a::l,b::r,i+1,x,y,h,k,hs,e=>by
  simp only[List.take_succ_cons,ZcK,Bool.and_eq_true]at hs ⊢
  exact⟨hs.1,ZjN (by simpa using h) (by simpa using k) hs.2 e⟩
def E.most(t:E):Int:=if t.light then t.nodes.foldl (λn x=>if x.k=10 then(if x.g > n then x.g else n)else n) (-1)else -1
mutual
def E.names:E->List ByteArray->List ByteArray
 | .node k _ s _ _ _ l,out=>if k=9 then(if out.any (λy=>y.toList == s.toList)then out else out++[s])else ZbZ l out
def ZbZ:List E->List ByteArray->List ByteArray
 | [],out=>out
 | t::l,out=>ZbZ l (t.names out)
end
theorem Zo3(t:E)(out:List ByteArray):t.names out=if t.k=9 then(if out.any (λy=>y.toList == t.s.toList)then out else out++[t.s])else ZbZ t.subs out:=by
 cases t;simp only[E.names,E.k,E.s,E.subs];rfl
mutual
theorem Zsa:∀(t:E)(out:List ByteArray),out.length<=(t.names out).length
 | .node k _ s _ _ _ l,out=>by
  simp only[E.names]
  split
  ·split <;> simp
  ·exact Zkp l out
theorem Zkp:∀(l:List E)(out:List ByteArray),out.length<=(ZbZ l out).length
 | [],out=>by simp[ZbZ]
 | t::l,out=>by
  simp only[ZbZ]
  exact Nat.le_trans (Zsa t out) (Zkp l _)
end
theorem Zma(l r:List E)(out:List ByteArray):ZbZ (l++r) out=ZbZ r (ZbZ l out):=by
 induction l generalizing out with
 | nil=>simp[ZbZ]
 | cons t l ih=>simp only[List.cons_append,ZbZ,ih]
theorem Zq8{l:List E}{i:Nat}{t:E}(h:l[i]?=some t)(out:List ByteArray):ZbZ (l.take (i+1)) out=t.names (ZbZ (l.take i) out):=by
 have:l.take (i+1)=l.take i++[t]:=by rw[List.take_add_one,h];rfl
 rw[this,Zma];simp[ZbZ]
theorem ZtG{l:List E}{i:Nat}(out:List ByteArray):(ZbZ (l.take i) out).length<=(ZbZ l out).length:=by
 conv=>rhs;rw[<-List.take_append_drop i l,Zma]
 exact Zkp _ _
mutual
theorem Zgf:∀(t:E)(out:List ByteArray),(t.names out).length<=out.length+t.nodes.length
 | .node k _ s _ _ _ l,out=>by
  simp only[E.names,E.nodes,List.length_cons]
  split
  ·split
   ·omega
   ·rw[List.length_append,List.length_singleton];omega
  ·have:=Zhi l out
   omega
theorem Zhi:∀(l:List E)(out:List ByteArray),(ZbZ l out).length<=out.length+(Zap l).length
 | [],out=>by simp[ZbZ]
 | t::l,out=>by
  simp only[ZbZ,Zap,List.length_append]
  have:=Zgf t out
  have:=Zhi l (t.names out)
  omega
end
def E.vars(t:E):List ByteArray:=if t.light then t.names []else[]
theorem Zev(s:ByteArray):s.data.toList.length=s.size:=by rw[Array.length_toList];rfl
theorem Zvg(s:ByteArray):∀(n i:Nat)(r:List UInt8),s.size - i=n->ByteArray.toList.loop s i r=r.reverse++s.data.toList.drop i
 | 0,i,r,h=>by
  rw[ByteArray.toList.loop,if_neg (by omega),List.drop_of_length_le (by have:=Zev s;omega),List.append_nil]
 | n+1,i,r,h=>by
  have hs:=Zev s
  have hi:i < s.size:=by omega
  rw[ByteArray.toList.loop,if_pos hi,Zvg s n (i+1) _ (by omega),List.reverse_cons,List.append_assoc]
  have hd:=List.drop_eq_getElem_cons (l:=s.data.toList) (i:=i) (by omega)
  rw[hd]
  have e:s.get! i=s.data.toList[i]'(by omega):=by
   rw[Array.getElem_toList]
   exact getElem!_pos s.data i hi
  rw[e];rfl
theorem baL(s:ByteArray):s.toList=s.data.toList:=by
 have:=Zvg s _ 0 [] rfl
 simpa[ByteArray.toList]using this
theorem Zck(s:ByteArray):(s.toList == ByteArray.toList ⟨#[]⟩)=(s.size == 0):=by
 rw[baL,baL,<-Zev]
 cases h:s.data.toList <;> simp[h] <;> rfl
theorem Zal{α:Type}{cs:α->List Value}{n:Nat}(hn:∀x,(cs x).length=n){m:Mem}{a:Option Addr}{L:List α}(h:rowRd m a (L.map cs).flatten){k:Nat}{t:α}(ht:L[k]?=some t)(h0:0 < n):∃b o,a=some ⟨b,o,none⟩/\m.reads b (o+k*n) (cs t):=by
 have aP:=(List.getElem?_eq_some_iff.1 ht).1
 have len:∀l:List α,(l.map cs).flatten.length=l.length*n:=λl=>by
  induction l with
  | nil=>simp
  | cons x l ih=>rw[List.map_cons,List.flatten_cons,List.length_append,hn,ih,List.length_cons,Nat.succ_mul];omega
 have e:(L.map cs).flatten=((L.take k).map cs).flatten++(cs t++((L.drop (k+1)).map cs).flatten):=by
  have e1:L=L.take k++(t::L.drop (k+1)):=by
   have:=List.drop_eq_getElem_cons aP
   rw[(List.getElem?_eq_some_iff.1 ht).2]at this
   rw[<-this,List.take_append_drop]
  conv=>lhs;rw[e1]
  rw[List.map_append,List.flatten_append,List.map_cons,List.flatten_cons]
 have hl:((L.take k).map cs).flatten.length=k*n:=by rw[len,List.length_take,Nat.min_eq_left (by omega)]
 rcases h with h|⟨b,o,ha,h⟩
 ·have:=congrArg List.length h
  rw[len,List.length_nil]at this
  have:0 < L.length*n:=Nat.mul_pos (by omega) h0
  omega
 ·refine⟨b,o,ha,λj v hj=>?_⟩
  have rW:=(List.getElem?_eq_some_iff.1 hj).1
  have:=h (k*n+j) v (by rw[e,List.getElem?_append_right (by omega),hl,Nat.add_sub_cancel_left,List.getElem?_append_left rW];exact hj)
  rw[Nat.add_assoc];exact this
theorem ZaT{α:Type}{cs:α->List Value}{n:Nat}(hn:∀x,(cs x).length=n)(l:List α):(l.map cs).flatten.length=l.length*n:=by
 induction l with
 | nil=>simp
 | cons x l ih=>rw[List.map_cons,List.flatten_cons,List.length_append,hn,ih,List.length_cons,Nat.succ_mul];omega
structure Pt where
 k:Int
 s:ByteArray
 g:Int
 e:E
def Pt.cs(p:Pt):List Value:=[.int .u8 p.k,.string p.s,.int .i64 p.g,.int .u8 p.e.k,.float .f64 p.e.x,.string p.e.s,.int .i64 p.e.g,.slice p.e.a p.e.subs.length p.e.c]
def Pt.v(p:Pt):Value:=.agg p.cs.toArray
structure Ac where
 k:Int
 s:ByteArray
 pa:Option Addr
 pc:Nat
 parts:List Pt
 e:E
def Ac.cs(a:Ac):List Value:=[.int .u8 a.k,.string a.s,.slice a.pa a.parts.length a.pc,.int .u8 a.e.k,.float .f64 a.e.x,.string a.e.s,.int .i64 a.e.g,.slice a.e.a a.e.subs.length a.e.c]
structure Ru where
 k:Int
 bg:Bool
 en:Bool
 t:T
 s:ByteArray
 n:Int
 aa:Option Addr
 ac:Nat
 acts:List Ac
 go:ByteArray
 code:Int
def Ru.cs(r:Ru):List Value:=[.int .u8 r.k,.bool r.bg,.bool r.en,.int .u8 r.t.k,.int .u64 r.t.s0,.int .u64 r.t.s1,.int .u64 r.t.s2,.int .u64 r.t.s3,.int .i64 r.t.mn,.int .i64 r.t.mx,.slice r.t.a r.t.subs.length r.t.c,.string r.s,.int .i64 r.n,.slice r.aa r.acts.length r.ac,.string r.go,.int .i64 r.code]
structure Sta where
 s:ByteArray
 ra:Option Addr
 rc:Nat
 rules:List Ru
def Sta.cs(x:Sta):List Value:=[.string x.s,.slice x.ra x.rules.length x.rc]
structure Va where
 s:ByteArray
 b:Bool
 t:ByteArray
 x:Nat
def Va.cs(v:Va):List Value:=[.string v.s,.bool v.b,.string v.t,.float .f64 v.x]
structure Sc where
 n:Int
 va:Option Addr
 vc:Nat
 vars:List Va
 sa:Option Addr
 sc:Nat
 states:List Sta
def Sc.cs(s:Sc):List Value:=[.int .i64 s.n,.slice s.va s.vars.length s.vc,.slice s.sa s.states.length s.sc]
def Sc.v(s:Sc):Value:=.agg #[.int .i64 s.n,.slice s.va s.vars.length s.vc,.slice s.sa s.states.length s.sc]
theorem Pt.len(p:Pt):p.cs.length=8:=rfl
theorem Ac.len(p:Ac):p.cs.length=8:=rfl
theorem Ru.len(p:Ru):p.cs.length=16:=rfl
theorem Sta.len(p:Sta):p.cs.length=2:=rfl
theorem Va.len(p:Va):p.cs.length=4:=rfl
def I64(n:Int):Prop:=-9223372036854775808<=n/\n<=9223372036854775807
def few:Nat:=100000
structure RepP (m:Mem)(p:Pt):Prop where
 k:0<=p.k/\p.k < 256
 s:p.s.size<=1000000000000000
 g:I64 p.g
 e:RepE m p.e
structure RepA (m:Mem)(a:Ac):Prop where
 k:0<=a.k/\a.k < 256
 s:a.s.size<=1000000000000000
 n:a.parts.length<=few
 row:rowRd m a.pa (a.parts.map Pt.cs).flatten
 all:∀p∈a.parts,RepP m p
 e:RepE m a.e
structure RepR (m:Mem)(r:Ru):Prop where
 k:0<=r.k/\r.k < 256
 t:Rep m r.t
 s:r.s.size<=1000000000000000
 n:I64 r.n
 len:r.acts.length<=few
 row:rowRd m r.aa (r.acts.map Ac.cs).flatten
 all:∀p∈r.acts,RepA m p
 go:r.go.size<=1000000000000000
 code:I64 r.code
structure RepS (m:Mem)(x:Sta):Prop where
 s:x.s.size<=1000000000000000
 len:x.rules.length<=few
 row:rowRd m x.ra (x.rules.map Ru.cs).flatten
 all:∀p∈x.rules,RepR m p
structure RepV (v:Va):Prop where
 s:v.s.size<=1000000000000000
 t:v.t.size<=1000000000000000
structure RepC (m:Mem)(s:Sc):Prop where
 n:I64 s.n
 vlen:s.vars.length<=few
 vrow:rowRd m s.va (s.vars.map Va.cs).flatten
 vall:∀v∈s.vars,RepV v
 len:s.states.length<=few
 row:rowRd m s.sa (s.states.map Sta.cs).flatten
 all:∀x∈s.states,RepS m x
 vcap:s.vars.length<=s.vc
 scap:s.states.length<=s.sc
section
variable {m m':Mem} (h:m.le m')
include h
theorem RepP.mono{p:Pt}(x:RepP m p):RepP m' p:=⟨x.k,x.s,x.g,RepE.mono h _ x.e⟩
theorem RepA.mono{p:Ac}(x:RepA m p):RepA m' p:=⟨x.k,x.s,x.n,x.row.mono h,λp hp=>(x.all p hp).mono h,RepE.mono h _ x.e⟩
theorem RepR.mono{p:Ru}(x:RepR m p):RepR m' p:=⟨x.k,x.t.mono h,x.s,x.n,x.len,x.row.mono h,λp hp=>(x.all p hp).mono h,x.go,x.code⟩
theorem RepS.mono{p:Sta}(x:RepS m p):RepS m' p:=⟨x.s,x.len,x.row.mono h,λp hp=>(x.all p hp).mono h⟩
theorem RepC.mono{p:Sc}(x:RepC m p):RepC m' p:=⟨x.n,x.vlen,x.vrow.mono h,x.vall,x.len,x.row.mono h,λp hp=>(x.all p hp).mono h,x.vcap,x.scap⟩
end
def nE(e:E):Int:=if e.light then e.size else 20001
def ZbQ:List Int->Int
 | []=>0
 | x::l=>x+ZbQ l
theorem Zsb(l r:List Int):ZbQ (l++r)=ZbQ l+ZbQ r:=by
 induction l with
 | nil=>simp[ZbQ]
 | cons x l ih=>simp only[List.cons_append,ZbQ,ih];omega
theorem ZeQ{α:Type}{l:List α}{i:Nat}{x:α}(f:α->Int)(h:l[i]?=some x):ZbQ ((l.take (i+1)).map f)=ZbQ ((l.take i).map f)+f x:=by
 rw[List.take_add_one,h,List.map_append,Zsb];simp[ZbQ]
theorem Zfy{α:Type}(f:α->Int)(hf:∀x,0<=f x):∀l:List α,0<=ZbQ (l.map f)
 | []=>by simp[ZbQ]
 | x::l=>by
  have:=Zfy f hf l;have:=hf x
  simp only[List.map_cons,ZbQ];omega
theorem Zkq{α:Type}(f:α->Int)(hf:∀x,0<=f x)(l:List α)(i:Nat):ZbQ ((l.take i).map f)<=ZbQ (l.map f):=by
 have e:ZbQ (l.map f)=ZbQ ((l.take i).map f)+ZbQ ((l.drop i).map f):=by rw[<-Zsb,<-List.map_append,List.take_append_drop]
 have:=Zfy f hf (l.drop i)
 omega
def wA(a:Ac):Int:=1+nE a.e+a.parts.length+ZbQ (a.parts.map λp=>nE p.e)
def wR(r:Ru):Int:=1+ZgS r.t.size 20000+(if r.t.light then 0 else 20001)+ZbQ (r.acts.map wA)
theorem Zo4(e:E):0<=nE e/\nE e<=20001:=by
 unfold nE E.size E.light
 split
 ·rename_i h
  simp only[decide_eq_true_eq]at h
  first|omega|(rw[if_pos (by simpa using h)];omega)
 ·omega
theorem ZjO(t:T):0<=t.size/\t.size<=10001:=by
 unfold T.size T.light
 split
 ·rename_i h;simp only[decide_eq_true_eq]at h;omega
 ·omega
theorem Zyc(a:Ac):0<=wA a:=by
 have:=(Zo4 a.e).1
 have:=Zfy (λp:Pt=>nE p.e) (λp=>(Zo4 p.e).1) a.parts
 unfold wA;omega
theorem Zyd(r:Ru):0<=wR r:=by
 have:=Zfy wA Zyc r.acts
 have h1:=(ZjO r.t).1
 have:0<=ZgS r.t.size 20000:=by unfold ZgS;split <;> omega
 unfold wR;split <;> omega
def wS(x:Sta):Int:=ZbQ (x.rules.map wR)
theorem ZAN(x:Sta):0<=wS x:=Zfy wR Zyd _
def Sc.weight(s:Sc):Int:=s.vars.length+s.states.length+ZbQ (s.states.map wS)
def Sc.light(s:Sc):Bool:=decide (s.weight<=20000)
structure Pl where
 v:Int
 s:Int
 r:Int
 a:Int
 p:Int
deriving DecidableEq
def Pl.cs(p:Pl):List Value:=[.int .i64 p.v,.int .i64 p.s,.int .i64 p.r,.int .i64 p.a,.int .i64 p.p]
def top:Pl:=⟨-1,-1,-1,-1,-1⟩
def ZdF(n:Nat)(f:Nat->List Pl):List Pl:=(List.range n).flatMap f
def plA(i k m:Nat)(a:Ac):List Pl:=⟨-1,i,k,m,-1⟩::ZdF a.parts.length λn=>[⟨-1,i,k,m,n⟩]
def plR(i k:Nat)(r:Ru):List Pl:=⟨-1,i,k,-1,-1⟩::ZdF r.acts.length λm=>match r.acts[m]? with
 | some a=>plA i k m a
 | none=>[]
def plS(i:Nat)(x:Sta):List Pl:=⟨-1,i,-1,-1,-1⟩::ZdF x.rules.length λk=>match x.rules[k]? with
 | some r=>plR i k r
 | none=>[]
def Sc.places(s:Sc):List Pl:=if s.light then top::(ZdF s.vars.length (λi=>[⟨i,-1,-1,-1,-1⟩])++ZdF s.states.length λi=>match s.states[i]? with
 | some x=>plS i x
 | none=>[])else[]
def Zcl:List (Int×Bool)->Int
 | []=>0
 | (e,w)::l=>if w then e else Zcl l
def ZbF(n a b:Int):Bool:=decide (n ≥ a)&&decide (n<=b)
def eqS(a b:ByteArray):Bool:=a.toList == b.toList
def Zxw(c:UInt8):Bool:=(decide (97<=c.toNat)&&decide (c.toNat<=122))||(decide (48<=c.toNat)&&decide (c.toNat<=57))||c.toNat == 95
def ZmQ:List ByteArray:=[⟨#[109,105,110]⟩,⟨#[109,97,120]⟩,⟨#[110,117,109]⟩]
def ZcG(s:ByteArray):Bool:=!(s.size == 0||decide (s.size > 16)||decide ((s.data.toList.getD 0 0).toNat < 97)||decide ((s.data.toList.getD 0 0).toNat > 122)||ZmQ.any λw=>eqS w s)&&s.data.toList.all Zxw
def Zdj(s:Sc)(name:ByteArray):Bool×Bool:=match s.vars.find? λv=>eqS v.s name with
 | some v=>(v.b,true)
 | none=>(false,false)
def Zdz(s:Sc)(e:E):Bool:=!e.vars.any λn=>!(Zdj s n).1
def Zqu(e:E):Bool:=e.light&&(E0.light&&e.same E0)
def Zmb(k:Int):Int:=if k=1 then 1 else if 2<=k/\k<=7 then 2 else 0
def Zq9:List E->Bool
 | u::_=>u.k == 8
 | []=>false
def E.right(t:E):Bool:=!(t.k == 0)&&(decide (t.k<=10)&&((if t.k=9 then ZcG t.s else t.s.size == 0)&&((if t.k=8 then Zfx t.x else Zr8 t.x 0)&&((if t.k=10 then decide (t.g ≥ 0)&&decide (t.g<=9)else t.g == 0)&&((t.subs.length:Int) == Zmb t.k&&!(t.k == 1&&(t.subs.length == 1&&Zq9 t.subs)))))))
def E.clean(t:E):Bool:=t.light&&t.nodes.all E.right
def ZtH(s:Sc):Int:=Zcl [(300,!ZbF s.n 2 256),(302,!ZbF s.states.length 1 24||decide (s.vars.length > 12))]
def Zfz(v:Va):Bool:=if v.b then Zfx v.x&&v.t.size == 0 else v.x == 0&&decide (v.t.size<=512)
def ZfA(s:Sc)(i:Nat)(v:Va):Int:=Zcl [(301,!ZcG v.s||(!Zfz v||(s.vars.take i).any λx=>eqS x.s v.s))]
def Zo5(s:Sc)(i:Nat)(x:Sta):Int:=Zcl [(303,!ZcG x.s||(decide (x.rules.length > 12)||(s.states.take i).any λy=>eqS y.s x.s))]
def Zzm(r:Ru):Bool:=r.bg||(r.en||!(r.t.light&&(T0.light&&r.t.same T0)))
def Za7(r:Ru):Bool:=if r.k=2 then !Zzm r&&(r.n == 0&&ZbF r.s.size 1 64)else if r.k=4 then !Zzm r&&(r.s.size == 0&&ZbF r.n 1 1000)else if r.k=3 then !Zzm r&&(r.s.size == 0&&r.n == 0)else if r.k=1 then r.s.size == 0&&r.n == 0 else false
def Zcr(r:Ru):Int:=if r.k=1 then r.t.groups else if r.k=2 then 0 else -1
def Zkr(s:Sc)(name:ByteArray):Bool:=(s.states.any λx=>eqS x.s name)&&s.light
def Zqv(s:Sc)(r:Ru)(total:Int):Int:=Zcl [(304,!Za7 r||decide (r.acts.length > 8)),(305,r.k == 1&&(!(r.t.check == 0)||decide (total > 600))),
 (306,if r.go.size=0 then !ZbF r.code 0 255 else !Zkr s r.go||!(r.code == 0))]
def ZdT(s:Sc)(r:Ru)(a:Ac):Int:=Zcl [(307,!ZbF a.k 1 3||(a.k == 1&&!(a.s.size == 0))||(a.k == 3&&decide (a.parts.length > 0))||(a.k == 3&&!a.e.clean)||(!(a.k == 3)&&!Zqu a.e)||decide (a.parts.length > 16)),
 (308,(!(a.k == 1)&&(!(Zdj s a.s).2||!((Zdj s a.s).1 == (a.k == 3))))||(a.k == 3&&!Zdz s a.e)),(309,a.k == 3&&decide (a.e.most > Zcr r))]
def ZbG(p:Pt):Bool:=if p.k=1 then decide (p.s.size > 0)&&(decide (p.s.size<=512)&&(p.g == 0&&Zqu p.e))else if p.k=2 then ZcG p.s&&(p.g == 0&&Zqu p.e)else if p.k=3 then decide (p.g ≥ 0)&&(decide (p.g<=9)&&(p.s.size == 0&&Zqu p.e))else if p.k=4 then p.e.clean&&(p.s.size == 0&&p.g == 0)else false
def ZnM(s:Sc)(r:Ru)(l:List Pt)(i:Nat)(p:Pt):Int:=Zcl [(307,!ZbG p||(decide (i > 0)&&(p.k == 1&&(match l[i - 1]? with
 | some q=>q.k == 1
 | none=>false)))),(308,(p.k == 2&&!(Zdj s p.s).2)||(p.k == 4&&!Zdz s p.e)),(309,(p.k == 3&&decide (p.g > Zcr r))||(p.k == 4&&decide (p.e.most > Zcr r)))]
def sizeR(r:Ru):Int:=if r.k=1 then r.t.size else 0
def totals(s:Sc)(i k:Nat):Int:=ZbQ ((s.states.take i).map λx=>ZbQ (x.rules.map sizeR))+(match s.states[i]? with
 | some x=>ZbQ ((x.rules.take (k+1)).map sizeR)
 | none=>0)
def atS(s:Sc)(p:Pl):Int:=if p.v ≥ 0 then(match s.vars[p.v.toNat]? with
  | some v=>ZfA s p.v.toNat v
  | none=>0)else if p.s < 0 then ZtH s else match s.states[p.s.toNat]? with
  | none=>0
  | some x=>if p.r < 0 then Zo5 s p.s.toNat x else match x.rules[p.r.toNat]? with
   | none=>0
   | some r=>if p.a < 0 then Zqv s r (totals s p.s.toNat p.r.toNat)else match r.acts[p.a.toNat]? with
    | none=>0
    | some a=>if p.p < 0 then ZdT s r a else match a.parts[p.p.toNat]? with
     | none=>0
     | some q=>ZnM s r a.parts p.p.toNat q
def Sc.problems(s:Sc):List (Pl×Int):=s.places.filterMap λp=>if atS s p=0 then none else some (p,atS s p)
def Sc.check(s:Sc):Pl×Int:=if s.light then(match s.problems with
 | p::_=>p
 | []=>(top,0))else(top,5)
theorem Zcd(n:Nat)(f:Nat->List Pl):ZdF (n+1) f=ZdF n f++f n:=by simp[ZdF,List.range_succ,List.flatMap_append]
theorem Zsc{i n:Nat}(h:i<=n)(f:Nat->List Pl):(ZdF i f).length<=(ZdF n f).length:=by
 induction n with
 | zero=>
  obtain rfl:i=0:=by omega
  exact Nat.le_refl _
 | succ n ih=>
  by_cases e:i=n+1
  ·rw[e];exact Nat.le_refl _
  ·have:=ih (by omega)
   rw[Zcd,List.length_append];omega
theorem Zgg(n:Nat)(f:Nat->Pl):(ZdF n λi=>[f i]).length=n:=by
 induction n with
 | zero=>rfl
 | succ n ih=>rw[Zcd,List.length_append,ih];rfl
theorem ZnV{α:Type}(l:List α)(F:Nat->List Pl)(g:Nat->α->List Pl)(w:α->Int)(hF:∀i x,l[i]?=some x->F i=g i x)(hw:∀i x,x∈l->((g i x).length:Int)<=w x):∀k,k<=l.length->((ZdF k F).length:Int)<=ZbQ ((l.take k).map w):=by
 intro k
 induction k with
 | zero=>intro _;simp[ZdF,ZbQ]
 | succ k ih=>
  intro hk
  have:=ih (by omega)
  have hx:l[k]?=some l[k]:=List.getElem?_eq_getElem (by omega)
  have h2:=hw k l[k] (List.getElem_mem _)
  rw[Zcd,List.length_append,ZeQ w hx,hF k _ hx]
  push_cast
  omega
def Hf(i k:Nat)(r:Ru)(m:Nat):List Pl:=match r.acts[m]? with
 | some a=>plA i k m a
 | none=>[]
def Gf(i:Nat)(x:Sta)(k:Nat):List Pl:=match x.rules[k]? with
 | some r=>plR i k r
 | none=>[]
def Ff(s:Sc)(i:Nat):List Pl:=match s.states[i]? with
 | some x=>plS i x
 | none=>[]
def Pf(i k m n:Nat):List Pl:=[⟨-1,i,k,m,n⟩]
def Vf(i:Nat):List Pl:=[⟨i,-1,-1,-1,-1⟩]
theorem ZtI(i k m:Nat)(a:Ac):plA i k m a=⟨-1,i,k,m,-1⟩::ZdF a.parts.length (Pf i k m):=rfl
theorem ZtJ(i k:Nat)(r:Ru):plR i k r=⟨-1,i,k,-1,-1⟩::ZdF r.acts.length (Hf i k r):=rfl
theorem ZtK(i:Nat)(x:Sta):plS i x=⟨-1,i,-1,-1,-1⟩::ZdF x.rules.length (Gf i x):=rfl
theorem Zks{s:Sc}(h:s.light=true):s.places=top::(ZdF s.vars.length Vf++ZdF s.states.length (Ff s)):=by unfold Sc.places;rw[if_pos h];rfl
theorem Zmc(s:Sc):s.places.length<=20001:=by
 cases h:s.light with
 | false=>unfold Sc.places;rw[h];simp
 | true=>
  have hw:s.weight<=20000:=by unfold Sc.light at h;exact of_decide_eq_true h
  rw[Zks h,List.length_cons,List.length_append]
  have h1:(ZdF s.vars.length Vf).length=s.vars.length:=Zgg _ _
  have hA:∀i k m (a:Ac),((plA i k m a).length:Int)<=wA a:=λi k m a=>by
   rw[ZtI,List.length_cons,show(ZdF a.parts.length (Pf i k m)).length=a.parts.length from Zgg _ _]
   have:=(Zo4 a.e).1
   have:=Zfy (λp:Pt=>nE p.e) (λp=>(Zo4 p.e).1) a.parts
   unfold wA;push_cast;omega
  have hR:∀i k (r:Ru),((plR i k r).length:Int)<=wR r:=λi k r=>by
   rw[ZtJ,List.length_cons]
   have:=ZnV r.acts (Hf i k r) (plA i k) wA (λm a h=>by unfold Hf;rw[h]) (λj x _=>hA i k j x) r.acts.length (Nat.le_refl _)
   rw[List.take_length]at this
   have h1:=(ZjO r.t).1
   have h2:0<=ZgS r.t.size 20000:=by unfold ZgS;split <;> omega
   have h3:((ZdF r.acts.length (Hf i k r)).length:Int)<=ZbQ (r.acts.map wA):=this
   unfold wR;push_cast;split <;> omega
  have hS:∀i (x:Sta),((plS i x).length:Int)<=1+wS x:=λi x=>by
   rw[ZtK,List.length_cons]
   have:=ZnV x.rules (Gf i x) (plR i) wR (λm a h=>by unfold Gf;rw[h]) (λj x _=>hR i j x) x.rules.length (Nat.le_refl _)
   rw[List.take_length]at this
   have h3:((ZdF x.rules.length (Gf i x)).length:Int)<=ZbQ (x.rules.map wR):=this
   unfold wS;push_cast;omega
  have:=ZnV s.states (Ff s) plS (λx=>1+wS x) (λm a h=>by unfold Ff;rw[h]) (λj x _=>hS j x) s.states.length (Nat.le_refl _)
  rw[List.take_length]at this
  have h3:((ZdF s.states.length (Ff s)).length:Int)<=ZbQ (s.states.map λx=>1+wS x):=this
  have h4:∀l:List Sta,ZbQ (l.map λx=>1+wS x)=l.length+ZbQ (l.map wS):=λl=>by
   induction l with
   | nil=>rfl
   | cons x l ih=>simp only[List.map_cons,ZbQ,ih,List.length_cons];push_cast;omega
  rw[h4]at h3
  unfold Sc.weight at hw
  omega
theorem Zip{n:Nat}{f:Nat->List Pl}{p:Pl}(h:p∈ZdF n f):∃i,i < n/\p∈f i:=by
 unfold ZdF at h
 obtain⟨i,hi,hp⟩:=List.mem_flatMap.1 h
 exact⟨i,List.mem_range.1 hi,hp⟩
def ZBM(s:Sc)(p:Pl):Prop:=(∃i:Nat,p.v=i/\∃v,s.vars[i]?=some v)\/(p.v < 0/\(p.s < 0\/∃i:Nat,p.s=i/\∃x,s.states[i]?=some x/\(p.r < 0\/∃k:Nat,p.r=k/\∃r,x.rules[k]?=some r/\(p.a < 0\/∃j:Nat,p.a=j/\∃a,r.acts[j]?=some a/\(p.p < 0\/∃n:Nat,p.p=n/\∃q,a.parts[n]?=some q)))))
theorem ZAb:(-1:Int) < 0:=by decide
theorem Zxx{α:Type}{l:List α}{n:Nat}(h:n < l.length):∃c,l[n]?=some c:=⟨_,List.getElem?_eq_getElem h⟩
theorem Zo6(s:Sc):∀p∈s.places,ZBM s p:=by
 intro p hp
 cases h:s.light with
 | false=>unfold Sc.places at hp;rw[h]at hp;simp at hp
 | true=>
  rw[Zks h]at hp
  rcases List.mem_cons.1 hp with rfl|hp
  ·exact .inr ⟨by decide,.inl (by decide)⟩
  rcases List.mem_append.1 hp with hp|hp
  ·obtain⟨i,hi,hp⟩:=Zip hp
   obtain rfl:p=⟨i,-1,-1,-1,-1⟩:=by simpa[Vf]using hp
   exact .inl ⟨i,rfl,Zxx hi⟩
  ·obtain⟨i,hi,hp⟩:=Zip hp
   obtain⟨x,hx⟩:=Zxx hi
   have hp:p∈plS i x:=by unfold Ff at hp;rw[hx]at hp;exact hp
   rw[ZtK]at hp
   rcases List.mem_cons.1 hp with rfl|hp
   ·exact .inr ⟨ZAb,.inr ⟨i,rfl,x,hx,.inl (ZAb)⟩⟩
   obtain⟨k,hk,hp⟩:=Zip hp
   obtain⟨r,hr⟩:=Zxx hk
   have hp:p∈plR i k r:=by unfold Gf at hp;rw[hr]at hp;exact hp
   rw[ZtJ]at hp
   rcases List.mem_cons.1 hp with rfl|hp
   ·exact .inr ⟨ZAb,.inr ⟨i,rfl,x,hx,.inr ⟨k,rfl,r,hr,.inl (ZAb)⟩⟩⟩
   obtain⟨j,hj,hp⟩:=Zip hp
   obtain⟨a,ha⟩:=Zxx hj
   have hp:p∈plA i k j a:=by unfold Hf at hp;rw[ha]at hp;exact hp
   rw[ZtI]at hp
   rcases List.mem_cons.1 hp with rfl|hp
   ·exact .inr ⟨ZAb,.inr ⟨i,rfl,x,hx,.inr ⟨k,rfl,r,hr,.inr ⟨j,rfl,a,ha,.inl (ZAb)⟩⟩⟩⟩
   obtain⟨n,hn,hp⟩:=Zip hp
   obtain rfl:p=⟨-1,i,k,j,n⟩:=by simpa[Pf]using hp
   exact .inr ⟨ZAb,.inr ⟨i,rfl,x,hx,.inr ⟨k,rfl,r,hr,.inr ⟨j,rfl,a,ha,.inr ⟨n,rfl,Zxx hn⟩⟩⟩⟩⟩
end Go.Rx
namespace Go.Rx
open Go Go.Eng Go.RowKit
def T.good(t:T):Bool:=t.nodes.all T.right
def isG(t:T):Bool:=t.k == 6
theorem Zmd(p:T->Bool):∀l:List T,(ZaA l).all p=l.all λt=>t.nodes.all p
 | []=>rfl
 | t::l=>by simp only[ZaA,List.all_append,List.all_cons,Zmd p l]
theorem Zo7(t:T):t.good=(t.right&&t.subs.all T.good):=by
 unfold T.good;rw[ZcD,List.all_cons,Zmd]
def grL(l:List T):Nat:=(ZaA l).countP isG
def szL(l:List T):Nat:=(ZaA l).length
def T.gr(t:T):Nat:=t.nodes.countP isG
theorem ZaE(l r:List T):szL (l++r)=szL l+szL r:=by unfold szL;rw[Zda,List.length_append]
theorem ZbC(l r:List T):grL (l++r)=grL l+grL r:=by unfold grL;rw[Zda,List.countP_append]
theorem Zbn(t:T):szL [t]=t.nodes.length:=by simp[szL,ZaA]
theorem Zdb(t:T):grL [t]=t.gr:=by simp[grL,ZaA,T.gr]
theorem ZcF(t:T):Zfv [t]=t.pos:=by simp[Zfv]
theorem ZeR(t:T)(l:List T):szL (t::l)=t.nodes.length+szL l:=by simp[szL,ZaA]
theorem Zsd(t:T)(l:List T):grL (t::l)=t.gr+grL l:=by simp[grL,ZaA,T.gr,List.countP_append]
theorem Zkt(t:T):t.nodes.length=1+szL t.subs:=by rw[ZcD,List.length_cons,szL];omega
theorem Zxy(t:T):t.gr=(if isG t=true then 1 else 0)+grL t.subs:=by
 unfold T.gr;rw[ZcD,List.countP_cons,grL];omega
theorem Zo8(l:List T):l.length<=szL l:=by
 induction l with
 | nil=>simp
 | cons t l ih=>rw[ZeR,Zkt,List.length_cons];omega
def Za2(k:Int)(t:T):List T:=if t.k=k then t.subs else if k=3/\t.k=1 then[]else[t]
def ZfB(k:Int)(a:Option Addr)(c:Nat):List T->T
 | []=>T1
 | [x]=>x
 | x::y::l=>Zcc k 0 0 a c (x::y::l)
theorem Zku{t:T}{k:Int}(h:t.has k=false):∀x∈t.subs,x.k≠k:=by
 intro x hx e
 unfold T.has at h
 have:=List.any_eq_false.1 h x hx
 simp[e]at this
theorem Zv9{t:T}{k:Int}(h:∀x∈t.subs,x.k≠k):t.has k=false:=by
 unfold T.has
 rw[List.any_eq_false]
 intro x hx
 have:=h x hx
 simpa using this
theorem Zkv{k:Int}{t:T}(hk:k=3\/k=4)(hg:t.good=true)(hp:t.pos<=10000):(∀x∈Za2 k t,x.good=true/\x.k≠k/\(k=3->x.k≠1))/\szL (Za2 k t)<=t.nodes.length/\grL (Za2 k t)<=t.gr/\Zfv (Za2 k t)<=t.pos:=by
 have hg':=hg
 rw[Zo7,Bool.and_eq_true,List.all_eq_true]at hg'
 unfold Za2
 split
 ·rename_i dU
  refine⟨λx hx=>⟨hg'.2 x hx,?_⟩,by rw[Zkt];omega,by rw[Zxy];omega,?_⟩
  ·have hr:=hg'.1
   unfold T.right at hr
   rw[Bool.and_eq_true]at hr
   have hr:=hr.2
   rcases hk with rfl|rfl
   ·simp only[dU]at hr
    simp at hr
    exact⟨Zku hr.2.2 x hx,λ_=>Zku hr.2.1 x hx⟩
   ·simp only[dU]at hr
    simp at hr
    exact⟨Zku hr.2 x hx,λh=>by omega⟩
  ·rw[Zq5]at hp ⊢
   have h5:¬t.k=5:=by omega
   have h2:¬t.k=2:=by omega
   unfold Zxu at hp ⊢
   rw[if_neg h5,if_neg h2,Int.zero_add]at hp ⊢
   unfold ZgS at hp ⊢
   split at hp
   ·omega
   ·split <;> omega
 ·rename_i dU
  split
  ·refine⟨λx hx=>by simp at hx,by simp[szL,ZaA],by simp[grL,ZaA],?_⟩
   simp only[Zfv];exact(ZiH t).1
  ·rename_i vB
   refine⟨λx hx=>?_,by rw[Zbn];exact Nat.le_refl _,by rw[Zdb];exact Nat.le_refl _,by rw[ZcF];exact Int.le_refl _⟩
   simp at hx;subst hx
   exact⟨hg,dU,λh=>λh1=>vB ⟨h,h1⟩⟩
theorem Zo9{k:Int}(hk:k=3\/k=4)(a:Option Addr)(c:Nat):∀{l:List T},(∀x∈l,x.good=true/\x.k≠k/\(k=3->x.k≠1))->(ZfB k a c l).good=true/\(ZfB k a c l).nodes.length<=1+szL l/\(ZfB k a c l).gr<=grL l/\(ZfB k a c l).pos<=Zfv l
 | [],_=>⟨show T1.good=true by decide,show T1.nodes.length<=1 by decide,show T1.gr<=0 by decide,show T1.pos<=0 by decide⟩
 | [x],h=>by
  rw[Zbn,Zdb,ZcF]
  exact⟨(h x (by simp)).1,by show x.nodes.length<=_;omega,Nat.le_refl _,Int.le_refl _⟩
 | x::y::l,h=>by
  show(Zcc k 0 0 a c (x::y::l)).good=true/\(Zcc k 0 0 a c (x::y::l)).nodes.length<=_/\(Zcc k 0 0 a c (x::y::l)).gr<=_/\(Zcc k 0 0 a c (x::y::l)).pos<=_
  have hs:(Zcc k 0 0 a c (x::y::l)).subs=x::y::l:=rfl
  have dU:(Zcc k 0 0 a c (x::y::l)).k=k:=rfl
  have hz:(Zcc k 0 0 a c (x::y::l)).setZ=true:=rfl
  have tU:(Zcc k 0 0 a c (x::y::l)).mn=0:=rfl
  have lH:(Zcc k 0 0 a c (x::y::l)).mx=0:=rfl
  refine⟨?_,by rw[Zkt,hs];exact Nat.le_refl _,?_,?_⟩
  ·rw[Zo7,Bool.and_eq_true,List.all_eq_true,hs]
   refine⟨?_,λz hz=>(h z hz).1⟩
   have h1:k=3->(Zcc k 0 0 a c (x::y::l)).has 1=false:=λe=>Zv9 λz hz=>(h z hz).2.2 e
   have h2:(Zcc k 0 0 a c (x::y::l)).has k=false:=Zv9 λz hz=>(h z hz).2.1
   unfold T.right
   rw[dU,hz,tU,lH,hs]
   rcases hk with rfl|rfl
   ·simp[h1 rfl,h2]
   ·simp[h2]
  ·rw[Zxy,hs,isG,dU]
   rcases hk with rfl|rfl <;> simp
  ·rw[Zq5,dU,tU,lH,hs]
   unfold Zxu
   rw[if_neg (by omega),if_neg (by omega),Int.zero_add]
   exact(Zl4 _ _).1
structure J (i:Nat)(ts:List T)(u g:Nat):Prop where
 good:∀t∈ts,t.good=true
 sz:szL ts<=i
 pos:Zfv ts<=(i*u:Nat)
 u1:1<=u
 u16:u<=16
 gr:grL ts<=g
 g9:g<=9
theorem J.zero:J 0 [] 1 0:=⟨by simp,by simp[szL,ZaA],by simp[Zfv],by omega,by omega,by simp[grL,ZaA],by omega⟩
theorem J.skip{i ts u g}(h:J i ts u g):J (i+1) ts u g:=
 ⟨h.good,by have:=h.sz;omega,by have:=h.pos;have e:(i+1)*u=i*u+u:=Nat.succ_mul i u;rw[e];omega,h.u1,h.u16,h.gr,h.g9⟩
theorem J.push{i ts u g}(h:J i ts u g){t:T}(hg:t.good=true)(hs:t.nodes.length=1)(hp:t.pos<=1)(hr:t.gr=0):J (i+1) (ts++[t]) u g:=by
 refine⟨λx hx=>?_,?_,?_,h.u1,h.u16,?_,h.g9⟩
 ·rcases List.mem_append.1 hx with hx|hx
  ·exact h.good x hx
  ·simp at hx;subst hx;exact hg
 ·rw[ZaE,Zbn,hs];have:=h.sz;omega
 ·rw[Zbg,ZcF];have:=h.pos;have:=h.u1;have e:(i+1)*u=i*u+u:=Nat.succ_mul i u;rw[e];omega
 ·rw[ZbC,Zdb,hr];have:=h.gr;omega
theorem J.pos400{i ts u g}(h:J i ts u g)(hi:i<=25):Zfv ts<=400:=by
 have h1:=h.pos
 have:i*u<=25*16:=Nat.mul_le_mul hi h.u16
 omega
theorem J.join{i ts u g}{x y:T}(h:J i (ts++[x,y]) u g)(hi:i<=25){k:Int}(hk:k=3\/k=4)(a:Option Addr)(c:Nat):J (i+1) (ts++[ZfB k a c (Za2 k x++Za2 k y)]) u g:=by
 have h4:=h.pos400 hi
 have hz:=h.sz
 have hp:=h.pos
 have lZ:=h.gr
 rw[show ts++[x,y]=ts++([x]++[y]) from rfl]at h4 hz hp lZ
 rw[Zbg,Zbg,ZcF,ZcF]at h4 hp
 rw[ZaE,ZaE,Zbn,Zbn]at hz
 rw[ZbC,ZbC,Zdb,Zdb]at lZ
 have n1:=Zhh ts
 have n2:=(ZiH x).1
 have n3:=(ZiH y).1
 obtain⟨a1,a2,a3,a4⟩:=Zkv hk (h.good x (by simp)) (by omega)
 obtain⟨b1,b2,b3,b4⟩:=Zkv hk (h.good y (by simp)) (by omega)
 obtain⟨c1,c2,c3,c4⟩:=Zo9 hk a c (l:=Za2 k x++Za2 k y) (λz hz=>by
  rcases List.mem_append.1 hz with hz|hz
  ·exact a1 z hz
  ·exact b1 z hz)
 rw[ZaE]at c2
 rw[ZbC]at c3
 rw[Zbg]at c4
 refine⟨λz hz=>?_,?_,?_,h.u1,h.u16,?_,h.g9⟩
 ·rcases List.mem_append.1 hz with hz|hz
  ·exact h.good z (by simp[hz])
  ·simp at hz;subst hz;exact c1
 ·rw[ZaE,Zbn];omega
 ·rw[Zbg,ZcF];have e:(i+1)*u=i*u+u:=Nat.succ_mul i u;rw[e];omega
 ·rw[ZbC,Zdb];omega
theorem J.group{i ts u g}{x:T}(h:J i (ts++[x]) u g)(hg:g < 9)(a:Option Addr)(c:Nat):J (i+1) (ts++[Zcc 6 0 0 a c [x]]) u (g+1):=by
 have hz:=h.sz
 have hp:=h.pos
 have lZ:=h.gr
 rw[Zbg,ZcF]at hp
 rw[ZaE,Zbn]at hz
 rw[ZbC,Zdb]at lZ
 have hs:(Zcc 6 0 0 a c [x]).subs=[x]:=rfl
 refine⟨λz hz=>?_,?_,?_,h.u1,h.u16,?_,by omega⟩
 ·rcases List.mem_append.1 hz with hz|hz
  ·exact h.good z (by simp[hz])
  ·simp at hz;subst hz
   rw[Zo7,Bool.and_eq_true,List.all_eq_true]
   refine⟨rfl,λz hz=>?_⟩
   rw[hs]at hz;simp at hz;subst hz
   exact h.good z (by simp)
 ·rw[ZaE,Zbn,Zkt,hs,Zbn];omega
 ·rw[Zbg,ZcF,Zq5,hs,ZcF]
  have:Zxu (Zcc 6 0 0 a c [x]).k (Zcc 6 0 0 a c [x]).mn (Zcc 6 0 0 a c [x]).mx ((if(Zcc 6 0 0 a c [x]).k=2 then 1 else 0)+x.pos)<=x.pos:=by
   show ZgS (if(6:Int)=5 then _ else(if(6:Int)=2 then 1 else 0)+x.pos) 10001<=_
   rw[if_neg (by omega),if_neg (by omega),Int.zero_add]
   exact(Zl4 _ _).1
  have e:(i+1)*u=i*u+u:=Nat.succ_mul i u
  rw[e];omega
 ·rw[ZbC,Zdb,Zxy,hs,Zdb]
  split <;> omega
theorem J.rep{i ts u g}{x:T}(h:J i (ts++[x]) u g)(hx:x.k≠1){mn mx:Int}(hb:Zkm mn mx=true){w:Nat}(hw:Zv7 mn mx<=w)(h1:1<=w)(hu:u*w<=16)(a:Option Addr)(c:Nat):J (i+1) (ts++[Zcc 5 mn mx a c [x]]) (u*w) g:=by
 have hz:=h.sz
 have hp:=h.pos
 have lZ:=h.gr
 rw[Zbg,ZcF]at hp
 rw[ZaE,Zbn]at hz
 rw[ZbC,Zdb]at lZ
 have hs:(Zcc 5 mn mx a c [x]).subs=[x]:=rfl
 have n1:=Zhh ts
 have n2:=(ZiH x).1
 refine⟨λz hz=>?_,?_,?_,?_,hu,?_,h.g9⟩
 ·rcases List.mem_append.1 hz with hz|hz
  ·exact h.good z (by simp[hz])
  ·simp at hz;subst hz
   rw[Zo7,Bool.and_eq_true,List.all_eq_true]
   refine⟨?_,λz hz=>?_⟩
   ·have hh:(Zcc 5 mn mx a c [x]).has 1=false:=Zv9 λz hz=>by rw[hs]at hz;simp at hz;subst hz;exact hx
    unfold T.right
    rw[hh,hs,show(Zcc 5 mn mx a c [x]).k=5 from rfl,show(Zcc 5 mn mx a c [x]).setZ=true from rfl,show(Zcc 5 mn mx a c [x]).mn=mn from rfl,show(Zcc 5 mn mx a c [x]).mx=mx from rfl,hb]
    simp
   ·rw[hs]at hz;simp at hz;subst hz
    exact h.good z (by simp)
 ·rw[ZaE,Zbn,Zkt,hs,Zbn];omega
 ·rw[Zbg,ZcF,Zq5,hs,ZcF]
  have key:Zxu (Zcc 5 mn mx a c [x]).k (Zcc 5 mn mx a c [x]).mn (Zcc 5 mn mx a c [x]).mx ((if(Zcc 5 mn mx a c [x]).k=2 then 1 else 0)+x.pos)<=x.pos*w:=by
   show ZgS (if(5:Int)=5 then((if(5:Int)=2 then 1 else 0)+x.pos)*Zv7 mn mx else _) 10001<=_
   rw[if_pos rfl,if_neg (by omega),Int.zero_add]
   exact Int.le_trans (Zl4 _ _).1 (Int.mul_le_mul_of_nonneg_left hw n2)
  have k2:Zfv ts<=Zfv ts*w:=by
   have:=Int.mul_le_mul_of_nonneg_left (show(1:Int)<=w by omega) n1
   rw[Int.mul_one]at this;exact this
  have k3:(Zfv ts+x.pos)*w<=((i*u:Nat):Int)*w:=Int.mul_le_mul_of_nonneg_right hp (by omega)
  rw[Int.add_mul]at k3
  have e:(i+1)*(u*w)=i*u*w+u*w:=by rw[Nat.succ_mul,Nat.mul_assoc]
  have e2:(((i*u:Nat):Int)*w)=((i*u*w:Nat):Int):=by push_cast;rfl
  rw[e2]at k3
  rw[e]
  generalize i*u*w=A at *
  generalize u*w=B at *
  generalize Zfv ts*(w:Int)=D at *
  generalize x.pos*(w:Int)=F at *
  omega
 ·have:=Nat.mul_le_mul h.u1 h1;omega
 ·rw[ZbC,Zdb,Zxy,hs,Zdb,isG,show(Zcc 5 mn mx a c [x]).k=5 from rfl]
  simp;omega
structure F (t:T)(l:List T):Prop where
 good:t.good=true
 goods:∀x∈l,x.good=true
 sz:t.nodes.length+szL l+l.length<=60
 pos:t.pos+Zfv l<=400
 gr:t.gr+grL l<=9
theorem F.start{i u g}{t:T}{l:List T}(h:J i (t::l) u g)(hi:i<=25):F t l:=by
 have h1:=h.sz
 have h2:=h.pos400 hi
 have h3:=h.gr
 rw[ZeR]at h1
 rw[Zsd]at h3
 have:=Zo8 l
 have:=h.g9
 exact⟨h.good t (by simp),λx hx=>h.good x (by simp[hx]),by omega,by simpa[Zfv]using h2,by omega⟩
theorem F.step{t x:T}{l:List T}(h:F t (x::l))(a:Option Addr)(c:Nat):F (ZfB 4 a c (Za2 4 t++Za2 4 x)) l:=by
 have h1:=h.sz
 have h2:=h.pos
 have h3:=h.gr
 rw[ZeR,List.length_cons]at h1
 rw[Zsd]at h3
 simp only[Zfv]at h2
 have n1:=Zhh l
 have n2:=(ZiH x).1
 have n3:=(ZiH t).1
 obtain⟨a1,a2,a3,a4⟩:=Zkv (.inr rfl) h.good (by omega) (t:=t)
 obtain⟨b1,b2,b3,b4⟩:=Zkv (.inr rfl) (h.goods x (by simp)) (by omega)
 obtain⟨c1,c2,c3,c4⟩:=Zo9 (.inr rfl) a c (l:=Za2 4 t++Za2 4 x) (λz hz=>by
  rcases List.mem_append.1 hz with hz|hz
  ·exact a1 z hz
  ·exact b1 z hz)
 rw[ZaE]at c2
 rw[ZbC]at c3
 rw[Zbg]at c4
 exact⟨c1,λz hz=>h.goods z (by simp[hz]),by omega,by omega,by omega⟩
theorem F.done{t:T}{l:List T}(h:F t l):t.check=0:=by
 have h1:=h.sz
 have h2:=h.pos
 have h3:=h.gr
 have n1:=Zhh l
 have hl:t.light=true:=by unfold T.light;exact decide_eq_true (by omega)
 have hc:t.clean=true:=by unfold T.clean;rw[hl];exact h.good
 have hg:((t.nodes.countP λx=>x.k == 6:Nat))=t.gr:=rfl
 unfold T.check
 rw[hc]
 unfold T.size T.positions T.groups
 rw[hl,hg]
 simp only[if_true,Bool.true_eq_false,if_false]
 rw[if_neg (by omega),if_neg (by omega),if_neg (by omega)]
theorem Zse(n:Nat):(Zko (Zdy n)).good=true/\(Zko (Zdy n)).nodes.length=1/\(Zko (Zdy n)).pos<=1/\(Zko (Zdy n)).gr=0:=by
 have h:n % 12=0\/n % 12=1\/n % 12=2\/n % 12=3\/n % 12=4\/n % 12=5\/n % 12=6\/n % 12=7\/n % 12=8\/n % 12=9\/n % 12=10\/n % 12=11:=by omega
 unfold Zdy
 rcases h with e|e|e|e|e|e|e|e|e|e|e|e <;> rw[e] <;> exact⟨by decide,by decide,by decide,by decide⟩
theorem Zye:T1.good=true/\T1.nodes.length=1/\T1.pos<=1/\T1.gr=0:=⟨by decide,by decide,by decide,by decide⟩
theorem Zew{k:Int}{t:T}:(Za2 k t).length<=t.nodes.length:=by
 unfold Za2
 have:=Zvc t
 have:=Zkt t
 split
 ·omega
 ·split <;> simp <;> omega
end Go.Rx
namespace Go.Rx
open Go Go.Eng
set_option maxRecDepth 100000
def ZjW:List ByteArray:=[⟨#[120]⟩,⟨#[121]⟩,⟨#[122,95,49]⟩,⟨#[97,98,99,100,101,102,103,104,105,106,107,108,109,110,111,112]⟩]
def Zfd:List ByteArray:=[⟨#[115]⟩,⟨#[116]⟩]
def ZxC:List ByteArray:=[⟨#[97]⟩,⟨#[98]⟩,⟨#[99]⟩,⟨#[100]⟩]
def okN(c:Int)(x:E):Prop:=x.right=true/\(x.k=9->x.s∈ZjW)/\(x.k=10->x.g<=c)
structure MkE (c:Int)(n:Nat)(e:E):Prop where
 all:∀x∈e.nodes,okN c x
 len:e.nodes.length<=n
def ZAO(x:Nat):E:=.node 8 x .empty 0 none 0 []
def Zzn(s:ByteArray):E:=.node 9 0 s 0 none 0 []
def ZBm(g:Int):E:=.node 10 0 .empty g none 0 []
def Zzo(a:Option Addr)(c:Nat)(x:E):E:=.node 1 0 .empty 0 a c [x]
def opE(k:Int)(a:Option Addr)(c:Nat)(x y:E):E:=.node k 0 .empty 0 a c [x,y]
theorem MkE.mono{c n k e}(h:MkE c n e)(hk:n<=k):MkE c k e:=⟨h.all,Nat.le_trans h.len hk⟩
theorem ZnW{c:Int}{k x s g a d}(h:okN c (.node k x s g a d [])):MkE c 1 (.node k x s g a d []):=by
 refine⟨λy hy=>?_,by simp[E.nodes,Zap]⟩
 simp only[E.nodes,Zap,List.mem_singleton]at hy
 rw[hy];exact h
theorem ZtL:Zr8 0 0=true:=by decide +kernel
theorem Zvh{c:Int}{x:Nat}(h:Zfx x=true):MkE c 1 (ZAO x):=by
 refine ZnW ⟨?_,λe=>absurd (show(8:Int)=9 from e) (by decide),λe=>absurd (show(8:Int)=10 from e) (by decide)⟩
 simp[E.right,E.k,E.s,E.x,E.g,E.subs,Zmb,h]
theorem Zsf:∀s∈ZjW,ZcG s=true:=by decide +kernel
theorem Zvi:∀s∈Zfd,ZcG s=true:=by decide +kernel
theorem Zyf:∀s∈ZxC,ZcG s=true:=by decide +kernel
theorem Zvj{c:Int}{s:ByteArray}(h:s∈ZjW):MkE c 1 (Zzn s):=by
 refine ZnW ⟨?_,λ_=>h,λe=>absurd (show(9:Int)=10 from e) (by decide)⟩
 simp[E.right,E.k,E.s,E.x,E.g,E.subs,Zmb,Zsf s h,ZtL]
theorem Zyg{c g:Int}(h:0<=g/\g<=9)(hc:g<=c):MkE c 1 (ZBm g):=by
 refine ZnW ⟨?_,λe=>absurd (show(10:Int)=9 from e) (by decide),λ_=>hc⟩
 simp[E.right,E.k,E.s,E.x,E.g,E.subs,Zmb,ZtL,h.1,h.2]
theorem Zyh{c:Int}{n:Nat}{a d}{x:E}(h:MkE c n x)(hk:x.k≠8):MkE c (n+1) (Zzo a d x):=by
 refine⟨λy hy=>?_,by have:=h.len;simp[Zzo,E.nodes,Zap];omega⟩
 simp only[Zzo,E.nodes,Zap,List.append_nil,List.mem_cons]at hy
 rcases hy with rfl|hy
 ·refine⟨?_,λe=>absurd (show(1:Int)=9 from e) (by decide),λe=>absurd (show(1:Int)=10 from e) (by decide)⟩
  have h1:E.right (.node 1 0 .empty 0 a d [x])=!Zq9 [x]:=by simp[E.right,E.k,E.s,E.x,E.g,E.subs,Zmb,ZtL]
  rw[h1]
  show(!(x.k == 8))=true
  simpa using hk
 ·exact h.all y hy
theorem Zyi{c:Int}{n p:Nat}{a d}{k:Int}{x y:E}(hk:2<=k/\k<=7)(h:MkE c n x)(h2:MkE c p y):MkE c (n+p+1) (opE k a d x y):=by
 refine⟨λz hz=>?_,by have:=h.len;have:=h2.len;simp[opE,E.nodes,Zap];omega⟩
 simp only[opE,E.nodes,Zap,List.append_nil,List.mem_cons,List.mem_append]at hz
 rcases hz with rfl|hz|hz
 ·refine⟨?_,λe=>?_,λe=>?_⟩
  ·have h0:¬k=0:=by omega
   have h1:¬k=1:=by omega
   have h9:¬k=9:=by omega
   have h8:¬k=8:=by omega
   have gP:¬k=10:=by omega
   have hs:Zmb k=2:=by unfold Zmb;rw[if_neg h1,if_pos hk]
   have bM:k<=10:=by omega
   simp[E.right,E.k,E.s,E.x,E.g,E.subs,hs,ZtL,h0,h1,h9,h8,gP,bM]
  ·have e:k=9:=e
   omega
  ·have e:k=10:=e
   omega
 ·exact h.all z hz
 ·exact h2.all z hz
theorem MkE.clean{c:Int}{n:Nat}{e:E}(h:MkE c n e)(hn:n<=10000):e.clean=true:=by
 have hl:e.light=true:=by unfold E.light;exact decide_eq_true (Nat.le_trans h.len hn)
 unfold E.clean
 rw[hl,Bool.true_and,List.all_eq_true]
 exact λx hx=>(h.all x hx).1
theorem Zyj{c:Int}(l:List E)(h:∀x∈l,x.k=10->x.g<=c):∀n:Int,n<=c->l.foldl (λn x=>if x.k=10 then(if x.g > n then x.g else n)else n) n<=c:=by
 induction l with
 | nil=>exact λn hn=>hn
 | cons x l ih=>
  intro n hn
  rw[List.foldl_cons]
  refine ih (λy hy=>h y (List.mem_cons_of_mem _ hy)) _ ?_
  split
  ·rename_i hk
   split
   ·exact h x (by simp) hk
   ·exact hn
  ·exact hn
theorem MkE.most{c:Int}{n:Nat}{e:E}(h:MkE c n e)(hc : -1<=c):e.most<=c:=by
 unfold E.most
 split
 ·exact Zyj _ (λx hx=>(h.all x hx).2.2) _ hc
 ·exact hc
mutual
theorem Zsg{A:List ByteArray}:∀(t:E)(out:List ByteArray),(∀x∈t.nodes,x.k=9->x.s∈A)->∀s∈t.names out,s∈out\/s∈A
 | .node k x s g a c l,out,h,z,hz=>by
  simp only[E.names]at hz
  split at hz
  ·rename_i hk
   split at hz
   ·exact .inl hz
   ·rcases List.mem_append.1 hz with hz|hz
    ·exact .inl hz
    ·rw[List.mem_singleton]at hz;subst hz
     exact .inr (h (.node k x z g a c l) (by simp[E.nodes]) hk)
  ·exact Zpa l out (λy hy=>h y (by simp only[E.nodes];exact List.mem_cons_of_mem _ hy)) z hz
theorem Zpa{A:List ByteArray}:∀(l:List E)(out:List ByteArray),(∀x∈Zap l,x.k=9->x.s∈A)->∀s∈ZbZ l out,s∈out\/s∈A
 | [],out,_,z,hz=>.inl hz
 | t::l,out,h,z,hz=>by
  simp only[ZbZ]at hz
  rcases Zpa l _ (λy hy=>h y (by simp only[Zap];exact List.mem_append_right _ hy)) z hz with hz|hz
  ·exact Zsg t out (λy hy=>h y (by simp only[Zap];exact List.mem_append_left _ hy)) z hz
  ·exact .inr hz
end
theorem MkE.vars{c:Int}{n:Nat}{e:E}(h:MkE c n e):∀s∈e.vars,s∈ZjW:=by
 intro s hs
 unfold E.vars at hs
 split at hs
 ·rcases Zsg (A:=ZjW) e [] (λx hx=>(h.all x hx).2.1) s hs with h|h
  ·cases h
  ·exact h
 ·cases hs
theorem Zyk:Zqu E0=true:=by decide +kernel
inductive MkP (c:Int):Pt->Prop
 | lit (s:ByteArray) (h:0 < s.size/\s.size<=512):MkP c ⟨1,s,0,E0⟩
 | var (s:ByteArray) (h:s∈ZjW\/s∈Zfd):MkP c ⟨2,s,0,E0⟩
 | cap (g:Int) (h:0<=g/\g<=9/\g<=c):MkP c ⟨3,.empty,g,E0⟩
 | clc (e:E) (h:MkE c 20 e):MkP c ⟨4,.empty,0,e⟩
def ZA9(l:List Pt):Prop:=∀(i:Nat)(p q:Pt),l[i]?=some p->l[i+1]?=some q->p.k=1->q.k=1->False
structure MkT (c:Int)(l:List Pt):Prop where
 len:l.length<=5
 all:∀p∈l,MkP c p
 ll:ZA9 l
inductive MkA (c:Int):Ac->Prop
 | send (a:Option Addr) (n:Nat) (l:List Pt) (h:MkT c l):MkA c ⟨1,.empty,a,n,l,E0⟩
 | set (s:ByteArray) (hs:s∈Zfd) (a:Option Addr) (n:Nat) (l:List Pt) (h:MkT c l):MkA c ⟨2,s,a,n,l,E0⟩
 | let_ (s:ByteArray) (hs:s∈ZjW) (e:E) (h:MkE c 20 e):MkA c ⟨3,s,none,0,[],e⟩
def ZzJ(r:Ru):Prop:=(r.k=1/\r.t.check=0/\r.t.nodes.length<=26/\r.s=.empty/\r.n=0)\/((r.bg=false/\r.en=false/\r.t=T0)/\((r.k=2/\1<=r.s.size/\r.s.size<=3/\r.n=0)\/(r.k=3/\r.s=.empty/\r.n=0)\/(r.k=4/\r.s=.empty/\1<=r.n/\r.n<=8)))
structure MkR (n:Nat)(r:Ru):Prop where
 kind:ZzJ r
 len:r.acts.length<=3
 all:∀a∈r.acts,MkA (Zcr r) a
 go:((∃i,i < n/\ZxC[i]?=some r.go)/\r.code=0)\/(r.go=.empty/\0<=r.code/\r.code<=255)
structure MkS (n i:Nat)(x:Sta):Prop where
 name:ZxC[i]?=some x.s
 len:x.rules.length<=5
 all:∀r∈x.rules,MkR n r
structure MkV (i:Nat)(v:Va):Prop where
 name:(ZjW++Zfd)[i]?=some v.s
 kind:(i < 4/\v.b=true/\v.t=.empty/\Zfx v.x=true)\/(4<=i/\v.b=false/\v.t.size<=3/\v.x=0)
structure MkC (s:Sc):Prop where
 n:2<=s.n/\s.n<=12
 vlen:s.vars.length=6
 vall:∀i v,s.vars[i]?=some v->MkV i v
 len:1<=s.states.length/\s.states.length<=4
 all:∀i x,s.states[i]?=some x->MkS s.states.length i x
theorem Zra{n:Nat}{e:E}(h:e.nodes.length<=n)(hn:n<=10000):e.light=true:=by unfold E.light;exact decide_eq_true (by omega)
theorem ZAP{n:Nat}{e:E}(h:e.nodes.length<=n)(hn:n<=10000):nE e<=n:=by
 unfold nE E.size;rw[Zra h hn];simp;omega
theorem nE0:nE E0<=20:=by decide +kernel
theorem Zpb{α:Type}(f:α->Int)(B:Int)(l:List α)(hf:∀x∈l,f x<=B):ZbQ (l.map f)<=l.length*B:=by
 induction l with
 | nil=>simp[ZbQ]
 | cons x l ih=>
  have h1:=hf x (by simp)
  have h2:=ih (λy hy=>hf y (by simp[hy]))
  simp only[List.map_cons,ZbQ,List.length_cons]
  rw[show((l.length+1:Nat):Int)*B=l.length*B+B by rw[Int.natCast_add,Int.add_mul];simp]
  omega
theorem MkP.nE{c:Int}{p:Pt}(h:MkP c p):nE p.e<=20:=by
 cases h with
 | clc e h=>exact ZAP (n:=20) h.len (by omega)
 | _=>exact nE0
theorem MkA.w{c:Int}{a:Ac}(h:MkA c a):wA a<=126:=by
 have go:∀{l:List Pt},MkT c l->(l.length:Int)+ZbQ (l.map λp=>Rx.nE p.e)<=105:=λ{l} h=>by
  have:=Zpb (λp:Pt=>Rx.nE p.e) 20 l (λp hp=>(h.all p hp).nE)
  have:=h.len
  omega
 have e0:=nE0
 cases h with
 | send a n l h=>have:=go h;simp only[wA];omega
 | set s hs a n l h=>have:=go h;simp only[wA];omega
 | let_ s hs e h=>have:=ZAP h.len (by omega);simp[wA,ZbQ];omega
theorem Zkw{t:T}(h:t.nodes.length<=10000):t.light=true:=by unfold T.light;exact decide_eq_true h
theorem Zpc:T0.size=1/\T0.light=true/\T0.same T0=true:=by decide +kernel
theorem MkR.size{n:Nat}{r:Ru}(h:MkR n r):r.t.light=true/\0<=r.t.size/\r.t.size<=26:=by
 rcases h.kind with⟨_,_,h,_⟩|⟨⟨_,_,h⟩,_⟩
 ·have hl:=Zkw (t:=r.t) (by omega)
  refine⟨hl,?_⟩
  unfold T.size;rw[hl];simp;omega
 ·rw[h,Zpc.1];exact⟨Zpc.2.1,by omega,by omega⟩
theorem MkR.w{n:Nat}{r:Ru}(h:MkR n r):wR r<=405:=by
 obtain⟨h1,h2,h3⟩:=h.size
 have:=Zpb wA 126 r.acts (λa ha=>(h.all a ha).w)
 have:=h.len
 have hi:ZgS r.t.size 20000<=26:=by unfold ZgS;split <;> omega
 unfold wR;rw[h1];simp;omega
theorem MkS.w{n i:Nat}{x:Sta}(h:MkS n i x):wS x<=2025:=by
 have:=Zpb wR 405 x.rules (λa ha=>(h.all a ha).w)
 have:=h.len
 unfold wS;omega
theorem MkC.state{s:Sc}(h:MkC s){x:Sta}(hx:x∈s.states):∃i,s.states[i]?=some x/\MkS s.states.length i x:=by
 obtain⟨i,hi⟩:=List.getElem?_of_mem hx
 exact⟨i,hi,h.all i x hi⟩
theorem MkC.weight{s:Sc}(h:MkC s):s.weight<=8200:=by
 have:=Zpb wS 2025 s.states (λx hx=>by obtain⟨i,_,h⟩:=h.state hx;exact h.w)
 have:=h.len
 have:=h.vlen
 unfold Sc.weight;omega
theorem MkC.light{s:Sc}(h:MkC s):s.light=true:=by unfold Sc.light;exact decide_eq_true (by have:=h.weight;omega)
theorem Zme(s:ByteArray):eqS s s=true:=by unfold eqS;simp
theorem Zyl:∀j < 6,∀i < 6,j≠i->eqS ((ZjW++Zfd).getD j .empty) ((ZjW++Zfd).getD i .empty)=false:=by decide +kernel
theorem ZAc:∀j < 4,∀i < 4,j≠i->eqS (ZxC.getD j .empty) (ZxC.getD i .empty)=false:=by decide +kernel
theorem ZjP{l:List ByteArray}{i:Nat}{s:ByteArray}(h:l[i]?=some s):l.getD i .empty=s:=by rw[List.getD_eq_getElem?_getD,h];rfl
theorem Zvk{α:Type}{p:α->Bool}:∀{l:List α} {i:Nat} {x:α},l[i]?=some x->p x=true->(∀j y,j < i->l[j]?=some y->p y=false)->l.find? p=some x
 | [],i,x,h,_,_=>by simp at h
 | a::l,0,x,h,hp,_=>by
  simp at h;subst h
  rw[List.find?_cons_of_pos hp]
 | a::l,i+1,x,h,hp,hn=>by
  rw[List.find?_cons_of_neg (by rw[hn 0 a (by omega) rfl];simp)]
  exact Zvk (l:=l) (i:=i) (by simpa using h) hp (λj y hj hy=>hn (j+1) y (by omega) (by simpa using hy))
theorem MkC.kind{s:Sc}(h:MkC s){i:Nat}{name:ByteArray}(hi:(ZjW++Zfd)[i]?=some name):Zdj s name=(decide (i < 4),true):=by
 have rX:i < 6:=(List.getElem?_eq_some_iff.1 hi).1
 have aX:=h.vlen
 have hv:s.vars[i]?=some (s.vars[i]'(by omega)):=List.getElem?_eq_getElem (by omega)
 have hm:=h.vall i _ hv
 generalize s.vars[i]'(by omega)=v at hv hm
 have hn:v.s=name:=Option.some.inj (hm.name.symm.trans hi)
 have hf:(s.vars.find? λv=>eqS v.s name)=some v:=Zvk hv (by rw[hn];exact Zme _) (λj y hj hy=>by
  have hy':=(h.vall j y hy).name
  have:=Zyl j (by omega) i rX (by omega)
  rwa [ZjP hy',ZjP hi]at this)
 unfold Zdj
 rw[hf]
 rcases hm.kind with⟨h4,hb,_⟩|⟨h4,hb,_⟩
 ·rw[decide_eq_true h4];show(v.b,true)=_;rw[hb]
 ·rw[decide_eq_false (by omega)];show(v.b,true)=_;rw[hb]
theorem MkC.num{s:Sc}(h:MkC s){name:ByteArray}(hn:name∈ZjW):Zdj s name=(true,true):=by
 obtain⟨i,hi⟩:=List.getElem?_of_mem hn
 have aP:i < 4:=(List.getElem?_eq_some_iff.1 hi).1
 have:=h.kind (i:=i) (name:=name) (by rw[List.getElem?_append_left aP];exact hi)
 rwa [decide_eq_true aP]at this
theorem MkC.txt{s:Sc}(h:MkC s){name:ByteArray}(hn:name∈Zfd):Zdj s name=(false,true):=by
 obtain⟨i,hi⟩:=List.getElem?_of_mem hn
 have aP:i < 2:=(List.getElem?_eq_some_iff.1 hi).1
 have:=h.kind (i:=4+i) (name:=name) (by rw[List.getElem?_append_right (show ZjW.length<=4+i by show 4<=_;omega)];show Zfd[4+i - 4]?=_;rw[show 4+i - 4=i by omega];exact hi)
 rwa [decide_eq_false (by omega)]at this
theorem MkC.numbers{s:Sc}(h:MkC s){c:Int}{n:Nat}{e:E}(he:MkE c n e):Zdz s e=true:=by
 unfold Zdz
 rw[Bool.not_eq_true',List.any_eq_false]
 intro x hx
 rw[h.num (he.vars x hx)];simp
theorem MkC.finds{s:Sc}(h:MkC s){i:Nat}{name:ByteArray}(hi:i < s.states.length)(hn:ZxC[i]?=some name):Zkr s name=true:=by
 unfold Zkr
 rw[h.light,Bool.and_true,List.any_eq_true]
 refine⟨s.states[i],List.getElem_mem _,?_⟩
 have:=(h.all i _ (List.getElem?_eq_getElem hi)).name
 rw[hn]at this
 rw[<-Option.some.inj this];exact Zme _
theorem Zef{n a b:Int}:ZbF n a b=true↔a<=n/\n<=b:=by
 unfold ZbF
 rw[Bool.and_eq_true,decide_eq_true_iff,decide_eq_true_iff]
theorem MkC.whole{s:Sc}(h:MkC s):ZtH s=0:=by
 have h1:ZbF s.n 2 256=true:=Zef.2 (by have:=h.n;omega)
 have h2:ZbF s.states.length 1 24=true:=Zef.2 (by have:=h.len;omega)
 have h3:decide (s.vars.length > 12)=false:=decide_eq_false (by have:=h.vlen;omega)
 simp[ZtH,Zcl,h1,h2,h3]
theorem ZaM:ByteArray.empty.size=0:=rfl
theorem MkC.var{s:Sc}(h:MkC s){i:Nat}{v:Va}(hv:s.vars[i]?=some v):ZfA s i v=0:=by
 have hm:=h.vall i v hv
 have rX:i < 6:=by have:=(List.getElem?_eq_some_iff.1 hv).1;have:=h.vlen;omega
 have h1:ZcG v.s=true:=by
  have bZ:=List.mem_of_getElem? hm.name
  rcases List.mem_append.1 bZ with hx|hx
  ·exact Zsf _ hx
  ·exact Zvi _ hx
 have h2:Zfz v=true:=by
  unfold Zfz
  rcases hm.kind with⟨_,hb,ht,hx⟩|⟨_,hb,ht,hx⟩
  ·rw[hb,ht,hx];rfl
  ·rw[hb,hx]
   simp;omega
 have h3:((s.vars.take i).any λx=>eqS x.s v.s)=false:=by
  rw[List.any_eq_false]
  intro x hx
  obtain⟨j,hj⟩:=List.getElem?_of_mem hx
  have mX:j < i:=by have:=(List.getElem?_eq_some_iff.1 hj).1;rw[List.length_take]at this;omega
  rw[List.getElem?_take_of_lt mX]at hj
  have:=Zyl j (by omega) i rX (by omega)
  rw[ZjP (h.vall j x hj).name,ZjP hm.name]at this
  rw[this];simp
 simp[ZfA,Zcl,h1,h2,h3]
theorem MkC.stateOk{s:Sc}(h:MkC s){i:Nat}{x:Sta}(hx:s.states[i]?=some x):Zo5 s i x=0:=by
 have hm:=h.all i x hx
 have vC:i < 4:=by have:=(List.getElem?_eq_some_iff.1 hx).1;have:=h.len;omega
 have h1:ZcG x.s=true:=Zyf _ (List.mem_of_getElem? hm.name)
 have h2:decide (x.rules.length > 12)=false:=decide_eq_false (by have:=hm.len;omega)
 have h3:((s.states.take i).any λy=>eqS y.s x.s)=false:=by
  rw[List.any_eq_false]
  intro y hy
  obtain⟨j,hj⟩:=List.getElem?_of_mem hy
  have mX:j < i:=by have:=(List.getElem?_eq_some_iff.1 hj).1;rw[List.length_take]at this;omega
  rw[List.getElem?_take_of_lt mX]at hj
  have:=ZAc j (by omega) i vC (by omega)
  rw[ZjP (h.all j y hj).name,ZjP hm.name]at this
  rw[this];simp
 simp[Zo5,Zcl,h1,h2,h3]
theorem ZtM(t:T):0<=t.groups:=by unfold T.groups;split <;> omega
theorem Zsh(r:Ru) : -1<=Zcr r:=by
 have:=ZtM r.t
 unfold Zcr;split
 ·omega
 ·split <;> omega
theorem ZzK{r:Ru}(h:r.bg=false/\r.en=false/\r.t=T0):Zzm r=false:=by
 unfold Zzm;rw[h.1,h.2.1,h.2.2,Zpc.2.1,Zpc.2.2];rfl
theorem MkR.fields{n:Nat}{r:Ru}(h:MkR n r):Za7 r=true:=by
 unfold Za7
 rcases h.kind with⟨hk,_,_,hs,hn⟩|⟨hx,⟨hk,h1,h2,hn⟩|⟨hk,hs,hn⟩|⟨hk,hs,h1,h2⟩⟩
 ·rw[hk,hs,hn];rfl
 ·rw[ZzK hx,hk,hn]
  have:ZbF r.s.size 1 64=true:=Zef.2 (by omega)
  simp[this]
 ·rw[ZzK hx,hk,hs,hn];rfl
 ·rw[ZzK hx,hk,hs]
  have:ZbF r.n 1 1000=true:=Zef.2 (by omega)
  simp[this,ZaM]
theorem MkR.sizeR{n:Nat}{r:Ru}(h:MkR n r):Rx.sizeR r<=26:=by
 unfold Rx.sizeR;split
 ·exact h.size.2.2
 ·omega
theorem MkS.sizes{n i:Nat}{x:Sta}(h:MkS n i x)(k:Nat):ZbQ ((x.rules.take k).map Rx.sizeR)<=130:=by
 have:=Zpb Rx.sizeR 26 (x.rules.take k) (λr hr=>(h.all r (List.mem_of_mem_take hr)).sizeR)
 have h1:=h.len
 rw[List.length_take]at this
 omega
theorem MkC.totals{s:Sc}(h:MkC s)(i k:Nat):Rx.totals s i k<=600:=by
 have h0:=h.len
 have h1:=Zpb (λx:Sta=>ZbQ (x.rules.map Rx.sizeR)) 130 (s.states.take i) (λx hx=>by
  obtain⟨j,_,hm⟩:=h.state (List.mem_of_mem_take hx)
  have:=hm.sizes x.rules.length
  rwa [List.take_length]at this)
 rw[List.length_take]at h1
 unfold Rx.totals
 cases hx:s.states[i]? with
 | none=>show _+0<=_;omega
 | some x=>
  have hi:=(List.getElem?_eq_some_iff.1 hx).1
  have:=(h.all i x hx).sizes (k+1)
  show _+ZbQ ((x.rules.take (k+1)).map Rx.sizeR)<=_
  omega
theorem ZnX:∀s∈ZxC,s.size=1:=by decide +kernel
theorem MkC.rule{s:Sc}(h:MkC s){r:Ru}(hr:MkR s.states.length r){t:Int}(ht:t<=600):Zqv s r t=0:=by
 have h1:=hr.fields
 have h2:decide (r.acts.length > 8)=false:=decide_eq_false (by have:=hr.len;omega)
 have h3:(r.k == 1&&(!(r.t.check == 0)||decide (t > 600)))=false:=by
  rw[decide_eq_false (show ¬t > 600 by omega),Bool.or_false]
  rcases hr.kind with⟨_,hc,_⟩|⟨_,⟨hk,_⟩|⟨hk,_⟩|⟨hk,_⟩⟩
  ·rw[hc];simp
  ·rw[hk];rfl
  ·rw[hk];rfl
  ·rw[hk];rfl
 have h4:(if r.go.size=0 then !ZbF r.code 0 255 else !Zkr s r.go||!(r.code == 0))=false:=by
  rcases hr.go with⟨⟨i,hi,hn⟩,hc⟩|⟨hg,hc⟩
  ·rw[if_neg (by rw[ZnX _ (List.mem_of_getElem? hn)];omega),h.finds hi hn,hc];rfl
  ·rw[hg,if_pos ZaM,Zef.2 hc];rfl
 unfold Zqv
 rw[h1,h2,h3,h4];rfl
theorem MkC.action{s:Sc}(h:MkC s){r:Ru}{a:Ac}(ha:MkA (Zcr r) a):ZdT s r a=0:=by
 have hz:=Zyk
 cases ha with
 | send a n l hl=>
  have h1:decide (l.length > 16)=false:=decide_eq_false (by have:=hl.len;omega)
  have h2:ZbF 1 1 3=true:=by decide
  unfold ZdT
  simp[Zcl,h1,h2,hz,ZaM]
 | set t ht a n l hl=>
  have h1:decide (l.length > 16)=false:=decide_eq_false (by have:=hl.len;omega)
  have h2:ZbF 2 1 3=true:=by decide
  unfold ZdT
  simp[Zcl,h1,h2,hz,h.txt ht]
 | let_ t ht e he=>
  have h2:ZbF 3 1 3=true:=by decide
  have h3:=he.clean (by omega)
  have h4:=h.numbers he
  have h5:decide (e.most > Zcr r)=false:=decide_eq_false (by have:=he.most (Zsh r);omega)
  unfold ZdT
  simp only[Zcl,h2,h3,h4,h5,h.num ht]
  rfl
def ZzL(l:List Pt)(i:Nat):Bool:=match l[i - 1]? with
 | some q=>q.k == 1
 | none=>false
theorem Zsi(s:Sc)(r:Ru)(l:List Pt)(i:Nat)(p:Pt):ZnM s r l i p=Zcl [(307,!ZbG p||(decide (i > 0)&&(p.k == 1&&ZzL l i))),(308,(p.k == 2&&!(Zdj s p.s).2)||(p.k == 4&&!Zdz s p.e)),(309,(p.k == 3&&decide (p.g > Zcr r))||(p.k == 4&&decide (p.e.most > Zcr r)))]:=rfl
theorem MkC.part{s:Sc}(h:MkC s){r:Ru}{l:List Pt}(hl:MkT (Zcr r) l){i:Nat}{p:Pt}(hp:l[i]?=some p):ZnM s r l i p=0:=by
 have hz:=Zyk
 have h0:(decide (i > 0)&&(p.k == 1&&ZzL l i))=false:=by
  cases i with
  | zero=>rfl
  | succ i=>
   unfold ZzL
   rw[Nat.add_sub_cancel]
   cases hq:l[i]? with
   | none=>simp
   | some q=>
    have:=hl.ll i q p hq hp
    simp only[Bool.and_eq_false_iff]
    refine .inr ?_
    by_cases h1:p.k=1
    ·refine .inr ?_
     simp
     exact λh2=>this h2 h1
    ·refine .inl ?_
     simpa using h1
 have hm:=hl.all p (List.mem_of_getElem? hp)
 rw[Zsi,h0]
 cases hm with
 | lit t ht=>
  have h1:ZbG ⟨1,t,0,E0⟩=true:=by simp[ZbG,hz];omega
  rw[h1];rfl
 | var t ht=>
  have h1:ZbG ⟨2,t,0,E0⟩=true:=by
   have:ZcG t=true:=by
    rcases ht with ht|ht
    ·exact Zsf _ ht
    ·exact Zvi _ ht
   simp[ZbG,hz,this]
  have h2:(Zdj s t).2=true:=by
   rcases ht with ht|ht
   ·rw[h.num ht]
   ·rw[h.txt ht]
  rw[h1]
  simp[Zcl,h2]
 | cap g hg=>
  have h1:ZbG ⟨3,.empty,g,E0⟩=true:=by simp[ZbG,hz,ZaM];omega
  have h2:decide (g > Zcr r)=false:=decide_eq_false (by omega)
  rw[h1]
  simp only[Zcl,h2];rfl
 | clc e he=>
  have h1:ZbG ⟨4,.empty,0,e⟩=true:=by simp[ZbG,he.clean,ZaM]
  have h2:decide (e.most > Zcr r)=false:=decide_eq_false (by have:=he.most (Zsh r);omega)
  have h3:=h.numbers he
  rw[h1]
  simp only[Zcl,h2,h3];rfl
theorem MkC.at0{s:Sc}(h:MkC s):∀p∈s.places,atS s p=0:=by
 intro p hp
 have hT:∀{r:Ru} {a:Ac},MkA (Zcr r) a->∀{n:Nat} {q:Pt},a.parts[n]?=some q->ZnM s r a.parts n q=0:=λ{r a} ha {n q} hq=>by
  cases ha with
  | send _ _ l hl=>exact h.part hl hq
  | set _ _ _ _ l hl=>exact h.part hl hq
  | let_ _ _ e _=>simp at hq
 rcases Zo6 s p hp with⟨i,hi,v,hv⟩|⟨hv,hs|⟨i,hi,x,hx,hr|⟨k,hk,r,hr,ha|⟨j,hj,a,ha,hq|⟨n,hn,q,hq⟩⟩⟩⟩⟩
 ·have e:atS s p=ZfA s i v:=by
   unfold atS
   rw[if_pos (by omega),show p.v.toNat=i by omega,hv]
  rw[e];exact h.var hv
 all_goals have hv':¬p.v ≥ 0:=by omega
 ·unfold atS
  rw[if_neg hv',if_pos hs];exact h.whole
 all_goals
  have hs':¬p.s < 0:=by omega
  have qu:p.s.toNat=i:=by omega
  have hm:=h.all i x hx
 ·have e:atS s p=Zo5 s i x:=by
   unfold atS
   rw[if_neg hv',if_neg hs',qu,hx]
   exact if_pos hr
  rw[e];exact h.stateOk hx
 all_goals
  have hr':¬p.r < 0:=by omega
  have gu:p.r.toNat=k:=by omega
  have hR:=hm.all r (List.mem_of_getElem? hr)
 ·have e:atS s p=Zqv s r (Rx.totals s i k):=by
   unfold atS
   rw[if_neg hv',if_neg hs',qu,hx]
   show(if p.r < 0 then _ else _)=_
   rw[if_neg hr',gu,hr]
   exact if_pos ha
  rw[e];exact h.rule hR (h.totals i k)
 all_goals
  have ha':¬p.a < 0:=by omega
  have nY:p.a.toNat=j:=by omega
  have hA:=hR.all a (List.mem_of_getElem? ‹r.acts[j]?=some a›)
 ·have e:atS s p=ZdT s r a:=by
   unfold atS
   rw[if_neg hv',if_neg hs',qu,hx]
   show(if p.r < 0 then _ else _)=_
   rw[if_neg hr',gu,hr]
   show(if p.a < 0 then _ else _)=_
   rw[if_neg ha',nY,‹r.acts[j]?=some a›]
   exact if_pos hq
  rw[e];exact h.action hA
 ·have e:atS s p=ZnM s r a.parts n q:=by
   unfold atS
   rw[if_neg hv',if_neg hs',qu,hx]
   show(if p.r < 0 then _ else _)=_
   rw[if_neg hr',gu,hr]
   show(if p.a < 0 then _ else _)=_
   rw[if_neg ha',nY,‹r.acts[j]?=some a›]
   show(if p.p < 0 then _ else _)=_
   rw[if_neg (by omega),show p.p.toNat=n by omega,hq]
  rw[e];exact hT hA hq
theorem MkC.problems{s:Sc}(h:MkC s):s.problems=[]:=by
 unfold Sc.problems
 rw[List.filterMap_eq_nil_iff]
 intro p hp
 rw[if_pos (h.at0 p hp)]
theorem MkC.check{s:Sc}(h:MkC s):s.check=(top,0):=by
 unfold Sc.check
 rw[if_pos h.light,h.problems]
structure F26 (t:T)(l:List T):Prop where
 f:F t l
 n:(t.k=4/\t.nodes.length+szL l<=26)\/t.nodes.length+szL l<=25
theorem F26.done{t:T}(h:F26 t []):t.check=0/\t.nodes.length<=26:=by
 refine⟨h.f.done,?_⟩
 have:szL []=0:=rfl
 rcases h.n with h|h <;> omega
theorem F26.step{t x:T}{l:List T}(h:F26 t (x::l))(a:Option Addr)(c:Nat):F26 (ZfB 4 a c (Za2 4 t++Za2 4 x)) l:=by
 refine⟨h.f.step a c,?_⟩
 have hn:=h.n
 rw[ZeR]at hn
 have ht:=Zkt t
 have hx:=Zkt x
 have e1:szL (Za2 4 t)<=if t.k=4 then szL t.subs else t.nodes.length:=by
  unfold Za2
  split
  ·exact Nat.le_refl _
  ·rw[if_neg (by omega),Zbn];exact Nat.le_refl _
 have e2:szL (Za2 4 x)<=x.nodes.length:=by
  unfold Za2
  split
  ·omega
  ·rw[if_neg (by omega),Zbn];exact Nat.le_refl _
 have e3:szL (Za2 4 t++Za2 4 x)=szL (Za2 4 t)+szL (Za2 4 x):=ZaE _ _
 generalize Za2 4 t++Za2 4 x=L at e3
 have hA:szL L<=t.nodes.length+x.nodes.length/\(t.k=4->szL L+1<=t.nodes.length+x.nodes.length):=by
  refine⟨?_,λh4=>?_⟩
  ·split at e1 <;> omega
  ·rw[if_pos h4]at e1;omega
 match L,hA with
 | [],_=>
  refine .inr ?_
  show T1.nodes.length+_<=_
  have:T1.nodes.length=1:=rfl
  rcases hn with⟨_,hn⟩|hn <;> omega
 | [y],hA=>
  refine .inr ?_
  show y.nodes.length+_<=_
  rw[Zbn]at hA
  rcases hn with⟨h4,hn⟩|hn
  ·have:=hA.2 h4;omega
  ·omega
 | y::z::r,hA=>
  refine .inl ⟨rfl,?_⟩
  rw[Zkt]
  show 1+szL (y::z::r)+_<=_
  rcases hn with⟨h4,hn⟩|hn
  ·have:=hA.2 h4;omega
  ·omega
theorem F26.start{i u g}{t:T}{l:List T}(h:J i (t::l) u g)(hi:i<=25):F26 t l:=⟨F.start h hi,.inr (by have:=h.sz;rw[ZeR]at this;omega)⟩
theorem F26.leaf{t:T}(h1:F t [])(h2:t.nodes.length=1):F26 t []:=⟨h1,.inr (by have:szL []=0:=rfl;omega)⟩
structure PE (ts:List E)(i:Nat):Prop where
 all:∀x∈Zap ts,okN 9 x
 sz:(Zap ts).length<=i
theorem Zcv(t:E):Zap [t]=t.nodes:=by simp[Zap]
theorem PE.zero:PE [] 0:=⟨by simp[Zap],by simp[Zap]⟩
theorem PE.skip{ts i}(h:PE ts i):PE ts (i+1):=⟨h.all,by have:=h.sz;omega⟩
theorem PE.push{ts i}{t:E}(h:PE ts i)(ht:MkE 9 1 t):PE (ts++[t]) (i+1):=by
 refine⟨λx hx=>?_,?_⟩
 ·rw[ZaR,Zcv]at hx
  rcases List.mem_append.1 hx with hx|hx
  ·exact h.all x hx
  ·exact ht.all x hx
 ·rw[ZaR,Zcv,List.length_append]
  have:=h.sz;have:=ht.len;omega
theorem PE.neg{r:List E}{x:E}{i:Nat}(h:PE (r++[x]) i)(hk:x.k≠8)(a:Option Addr)(d:Nat):PE (r++[Zzo a d x]) (i+1):=by
 have h1:=h.all;have h2:=h.sz
 rw[ZaR,Zcv]at h1 h2
 rw[List.length_append]at h2
 have hm:MkE 9 (x.nodes.length+1) (Zzo a d x):=Zyh ⟨λz hz=>h1 z (List.mem_append_right _ hz),Nat.le_refl _⟩ hk
 refine⟨λz hz=>?_,?_⟩
 ·rw[ZaR,Zcv]at hz
  rcases List.mem_append.1 hz with hz|hz
  ·exact h1 z (List.mem_append_left _ hz)
  ·exact hm.all z hz
 ·rw[ZaR,Zcv,List.length_append]
  have:=hm.len;omega
theorem PE.op{r:List E}{x y:E}{i:Nat}(h:PE (r++[x,y]) i){k:Int}(hk:2<=k/\k<=7)(a:Option Addr)(d:Nat):PE (r++[opE k a d x y]) (i+1):=by
 have h1:=h.all;have h2:=h.sz
 rw[ZaR,show Zap [x,y]=x.nodes++y.nodes by simp[Zap]]at h1 h2
 rw[List.length_append,List.length_append]at h2
 have hm:MkE 9 (x.nodes.length+y.nodes.length+1) (opE k a d x y):=Zyi hk ⟨λz hz=>h1 z (List.mem_append_right _ (List.mem_append_left _ hz)),Nat.le_refl _⟩ ⟨λz hz=>h1 z (List.mem_append_right _ (List.mem_append_right _ hz)),Nat.le_refl _⟩
 refine⟨λz hz=>?_,?_⟩
 ·rw[ZaR,Zcv]at hz
  rcases List.mem_append.1 hz with hz|hz
  ·exact h1 z (List.mem_append_left _ hz)
  ·exact hm.all z hz
 ·rw[ZaR,Zcv,List.length_append]
  have:=hm.len;omega
theorem Zmf(t:E):1<=t.nodes.length:=by rw[ZbE,List.length_cons];omega
theorem Zex(l:List E):l.length<=(Zap l).length:=by
 induction l with
 | nil=>simp
 | cons t l ih=>
  have:=Zmf t
  simp only[Zap,List.length_cons,List.length_append];omega
structure QE (t:E)(l:List E)(b:Nat):Prop where
 all:∀x∈t.nodes,okN 9 x
 alls:∀x∈Zap l,okN 9 x
 sz:t.nodes.length+(Zap l).length+l.length<=b
theorem QE.start{t:E}{l:List E}{i:Nat}(h:PE (t::l) i):QE t l (2*i):=by
 have h1:=h.all;have h2:=h.sz
 simp only[Zap,List.length_append]at h1 h2
 have:=Zex l
 exact⟨λx hx=>h1 x (List.mem_append_left _ hx),λx hx=>h1 x (List.mem_append_right _ hx),by omega⟩
theorem QE.step{t x:E}{l:List E}{b:Nat}(h:QE t (x::l) b)(a:Option Addr)(d:Nat):QE (opE 2 a d t x) l b:=by
 have h1:=h.alls;have h2:=h.sz
 simp only[Zap,List.length_append,List.length_cons]at h1 h2
 have hm:MkE 9 (t.nodes.length+x.nodes.length+1) (opE 2 a d t x):=Zyi (by omega) ⟨h.all,Nat.le_refl _⟩ ⟨λz hz=>h1 z (List.mem_append_left _ hz),Nat.le_refl _⟩
 exact⟨hm.all,λz hz=>h1 z (List.mem_append_right _ hz),by have:=hm.len;omega⟩
theorem QE.done{t:E}{b:Nat}(h:QE t [] b):MkE 9 b t:=⟨h.all,by have:=h.sz;omega⟩
structure BoE (c:Int)(e u:E):Prop where
 all:∀x∈u.nodes,okN c x
 len:u.nodes.length<=e.nodes.length
 k8:u.k=8↔e.k=8
theorem Zsj{c:Int}:∀{l r:List E},l.length=r.length->(∀(i:Nat)(x y:E),l[i]?=some x->r[i]?=some y->BoE c x y)->(∀z∈Zap r,okN c z)/\(Zap r).length<=(Zap l).length/\Zq9 r=Zq9 l
 | [],[],_,_=>⟨by simp[Zap],Nat.le_refl _,rfl⟩
 | [],_::_,h,_=>by simp at h
 | _::_,[],h,_=>by simp at h
 | x::l,y::r,h,hb=>by
  have h0:=hb 0 x y rfl rfl
  obtain⟨h1,h2,_⟩:=Zsj (l:=l) (r:=r) (by simpa using h) (λi x' y' hx hy=>hb (i+1) x' y' (by simpa using hx) (by simpa using hy))
  refine⟨λz hz=>?_,?_,?_⟩
  ·simp only[Zap]at hz
   rcases List.mem_append.1 hz with hz|hz
   ·exact h0.all z hz
   ·exact h1 z hz
  ·simp only[Zap,List.length_append];have:=h0.len;omega
  ·show(y.k == 8)=(x.k == 8)
   rw[Bool.eq_iff_iff];simpa using h0.k8
theorem Zwa{c:Int}{k:Int}{x:Nat}{s:ByteArray}{g:Int}{a a':Option Addr}{d d':Nat}{l r:List E}(h:okN 9 (.node k x s g a d l))(hk:¬(k=10/\g > c))(hl:l.length=r.length)(hb:∀(i:Nat)(x y:E),l[i]?=some x->r[i]?=some y->BoE c x y):BoE c (.node k x s g a d l) (.node k x s g a' d' r):=by
 obtain⟨h1,h2,h3⟩:=Zsj hl hb
 refine⟨λz hz=>?_,?_,Iff.rfl⟩
 ·simp only[E.nodes,List.mem_cons]at hz
  rcases hz with rfl|hz
  ·refine⟨?_,h.2.1,λe=>?_⟩
   ·have e1:=h.1
    simp only[E.right,E.k,E.s,E.x,E.g,E.subs]at e1 ⊢
    rw[<-hl,h3];exact e1
   ·have e:k=10:=e
    show g<=c
    omega
  ·exact h1 z hz
 ·simp only[E.nodes,List.length_cons];omega
theorem Zym{c:Int}{e:E}{s:ByteArray}(hs:s∈ZjW)(hk:e.k=10):BoE c e (Zzn s):=by
 have h:=Zvj (c:=c) hs
 refine⟨h.all,Nat.le_trans h.len (Zmf e),?_⟩
 rw[hk]
 show(9:Int)=8↔_
 omega
theorem BoE.toMk{c:Int}{n:Nat}{e u:E}(h:BoE c e u)(he:e.nodes.length<=n):MkE c n u:=⟨h.all,Nat.le_trans h.len he⟩
end Go.Rx
namespace Go.Rx
open Go Go.Eng
def Zvl(l:List Ru)(key:Ru->Int)(o:Option Nat)(x:Ru):Bool:=match o with
 | none=>true
 | some t=>match l[t]? with
  | some y=>decide (key x < key y)
  | none=>false
def Zfe(l:List Ru)(cnt:Ru->Bool)(key:Ru->Int):Nat->Option Nat
 | 0=>none
 | i+1=>match l[i]? with
  | none=>Zfe l cnt key i
  | some x=>if cnt x&&Zvl l key (Zfe l cnt key i) x then some i else Zfe l cnt key i
def ZBn(l:List Ru)(cnt:Ru->Bool)(key:Ru->Int):Option Nat:=Zfe l cnt key l.length
theorem ZaS{l:List Ru}{cnt:Ru->Bool}{key:Ru->Int}:∀{i t:Nat},Zfe l cnt key i=some t->t < i/\∃y,l[t]?=some y/\cnt y=true
 | 0,t,h=>by simp[Zfe]at h
 | i+1,t,h=>by
  rw[Zfe]at h
  split at h
  ·obtain⟨h1,h2⟩:=ZaS h
   exact⟨by omega,h2⟩
  ·rename_i x hx
   split at h
   ·rename_i hc
    obtain rfl:i=t:=by simpa using h
    rw[Bool.and_eq_true]at hc
    exact⟨by omega,x,hx,hc.1⟩
   ·obtain⟨h1,h2⟩:=ZaS h
    exact⟨by omega,h2⟩
theorem Zrb{l:List Ru}{cnt:Ru->Bool}{key:Ru->Int}{i:Nat}{x:Ru}(hx:l[i]?=some x):Zfe l cnt key (i+1)=if cnt x&&Zvl l key (Zfe l cnt key i) x then some i else Zfe l cnt key i:=by
 rw[Zfe,hx]
theorem ZcZ{l:List Ru}{cnt:Ru->Bool}{key:Ru->Int}:∀{i:Nat},Zfe l cnt key i=none->∀j x,j < i->l[j]?=some x->cnt x=false
 | 0,_,j,x,hj,_=>by omega
 | i+1,h,j,x,hj,hx=>by
  rw[Zfe]at h
  split at h
  ·rename_i hi
   rcases Nat.lt_or_ge j i with h1|h1
   ·exact ZcZ h j x h1 hx
   ·obtain rfl:j=i:=by omega
    rw[hx]at hi;cases hi
  ·rename_i y hy
   split at h
   ·cases h
   ·rename_i hc
    rcases Nat.lt_or_ge j i with h1|h1
    ·exact ZcZ h j x h1 hx
    ·obtain rfl:j=i:=by omega
     rw[hx]at hy;cases hy
     rw[h]at hc
     simpa[Zvl]using hc
def ZzM(r:Ru):Bool:=r.k == 4
def ZxD(r:Ru):Bool:=r.k == 3
def ZBN(r:Ru):Int:=r.n
def ZBo(_:Ru):Int:=0
def toO(x:Sta):Option Nat:=ZBn x.rules ZzM ZBN
def eoO(x:Sta):Option Nat:=ZBn x.rules ZxD ZBo
def Zrc(o:Option Nat):Int:=(o.getD 0:Nat)
def Zcw(x:Sta)(k:Nat)(r:Ru):Bool:=(r.k == 4&&!((k:Int) == Zrc (toO x)))||(r.k == 3&&!((k:Int) == Zrc (eoO x)))
abbrev Dd:=Int×Int
def ZcL(i:Nat)(x:Sta):Nat->List Dd
 | 0=>[]
 | k+1=>ZcL i x k++(match x.rules[k]? with
  | some r=>if Zcw x k r then[((i:Int),(k:Int))]else[]
  | none=>[])
def deadU(s:Sc):Nat->List Dd
 | 0=>[]
 | i+1=>deadU s i++(match s.states[i]? with
  | some x=>ZcL i x x.rules.length
  | none=>[])
def ZbH(s:Sc):List Dd:=deadU s s.states.length
def dV(d:Dd):Value:=.agg #[.int .i64 d.1,.int .i64 d.2]
def dC(d:Dd):List Value:=[.int .i64 d.1,.int .i64 d.2]
theorem Ziq{i:Nat}{x:Sta}{k:Nat}{r:Ru}(h:x.rules[k]?=some r):ZcL i x (k+1)=ZcL i x k++(if Zcw x k r then[((i:Int),(k:Int))]else[]):=by rw[ZcL,h]
theorem Zir{s:Sc}{i:Nat}{x:Sta}(h:s.states[i]?=some x):deadU s (i+1)=deadU s i++ZcL i x x.rules.length:=by rw[deadU,h]
theorem Zkx{i:Nat}{x:Sta}{d:Dd}:∀{k:Nat},d∈ZcL i x k↔d.1=i/\∃j r,j < k/\x.rules[j]?=some r/\Zcw x j r=true/\d.2=j
 | 0=>by simp[ZcL]
 | k+1=>by
  rw[ZcL,List.mem_append,Zkx (k:=k)]
  constructor
  ·rintro(⟨h1,j,r,h2,h3⟩|h)
   ·exact⟨h1,j,r,by omega,h3⟩
   ·split at h
    ·rename_i r hr
     split at h
     ·rename_i hb
      rw[List.mem_singleton]at h;subst h
      exact⟨rfl,k,r,by omega,hr,hb,rfl⟩
     ·cases h
    ·cases h
  ·rintro⟨h1,j,r,h2,h3,h4,h5⟩
   rcases Nat.lt_or_ge j k with hj|hj
   ·exact .inl ⟨h1,j,r,hj,h3,h4,h5⟩
   ·obtain rfl:j=k:=by omega
    refine .inr ?_
    rw[h3]
    show d∈(if Zcw x j r=true then _ else _)
    rw[if_pos h4,List.mem_singleton]
    exact Prod.ext h1 h5
theorem Zpd{s:Sc}{d:Dd}:∀{n:Nat},d∈deadU s n↔∃i x j r,i < n/\s.states[i]?=some x/\x.rules[j]?=some r/\Zcw x j r=true/\d=((i:Int),(j:Int))
 | 0=>by simp[deadU]
 | n+1=>by
  rw[deadU,List.mem_append,Zpd (n:=n)]
  constructor
  ·rintro(⟨i,x,j,r,h1,h2⟩|h)
   ·exact⟨i,x,j,r,by omega,h2⟩
   ·split at h
    ·rename_i x hx
     obtain⟨h1,j,r,h2,h3,h4,h5⟩:=Zkx.1 h
     exact⟨n,x,j,r,by omega,hx,h3,h4,Prod.ext h1 h5⟩
    ·cases h
  ·rintro⟨i,x,j,r,h1,h2,h3,h4,h5⟩
   rcases Nat.lt_or_ge i n with hi|hi
   ·exact .inl ⟨i,x,j,r,hi,h2,h3,h4,h5⟩
   ·obtain rfl:i=n:=by omega
    refine .inr ?_
    rw[h2]
    exact Zkx.2 ⟨by rw[h5],j,r,(List.getElem?_eq_some_iff.1 h3).1,h3,h4,by rw[h5]⟩
theorem Zwb{s:Sc}{d:Dd}:d∈ZbH s↔∃(i:Nat)(x:Sta)(j:Nat)(r:Ru),s.states[i]?=some x/\x.rules[j]?=some r/\Zcw x j r=true/\d=((i:Int),(j:Int)):=by
 unfold ZbH
 rw[Zpd]
 constructor
 ·rintro⟨i,x,j,r,_,h⟩;exact⟨i,x,j,r,h⟩
 ·rintro⟨i,x,j,r,h,h'⟩;exact⟨i,x,j,r,(List.getElem?_eq_some_iff.1 h).1,h,h'⟩
theorem Zky(i:Nat)(x:Sta):∀k,(ZcL i x k).length<=k
 | 0=>by simp[ZcL]
 | k+1=>by
  rw[ZcL,List.length_append]
  have:=Zky i x k
  split
  ·split <;> simp <;> omega
  ·simp;omega
theorem ZtN{i:Nat}{x:Sta}{k n:Nat}(h:k<=n):∃r,ZcL i x n=ZcL i x k++r:=by
 induction n with
 | zero=>exact⟨[],by rw[show k=0 by omega];simp⟩
 | succ n ih=>
  by_cases e:k=n+1
  ·exact⟨[],by rw[e];simp⟩
  ·obtain⟨r,hr⟩:=ih (by omega)
   rw[ZcL,hr];exact⟨_,List.append_assoc _ _ _⟩
theorem ZtO{s:Sc}{k n:Nat}(h:k<=n):∃r,deadU s n=deadU s k++r:=by
 induction n with
 | zero=>exact⟨[],by rw[show k=0 by omega];simp⟩
 | succ n ih=>
  by_cases e:k=n+1
  ·exact⟨[],by rw[e];simp⟩
  ·obtain⟨r,hr⟩:=ih (by omega)
   rw[deadU,hr];exact⟨_,List.append_assoc _ _ _⟩
def Zxz:List Dd->List Dd->Bool
 | _,[]=>true
 | all,x::l=>match all.findIdx? (· == x)with
  | none=>false
  | some i=>Zxz (all.drop (i+1)) l
end Go.Rx
namespace Go.Rx
open Go Go.Eng Go.RowKit
set_option maxRecDepth 100000
mutual
def T.er:T->T
 | .node k s0 s1 s2 s3 mn mx _ _ l=>.node k s0 s1 s2 s3 mn mx none 0 (erL l)
def erL:List T->List T
 | []=>[]
 | t::l=>t.er::erL l
end
theorem Zsk:∀l:List T,erL l=l.map T.er
 | []=>rfl
 | t::l=>by simp only[erL,List.map_cons,Zsk l]
@[simp] theorem ZzN (t:T):t.er.k=t.k:=by cases t;rfl
@[simp] theorem ZBV (t:T):t.er.s0=t.s0:=by cases t;rfl
@[simp] theorem ZBW (t:T):t.er.s1=t.s1:=by cases t;rfl
@[simp] theorem ZBX (t:T):t.er.s2=t.s2:=by cases t;rfl
@[simp] theorem ZBY (t:T):t.er.s3=t.s3:=by cases t;rfl
@[simp] theorem ZBZ (t:T):t.er.mn=t.mn:=by cases t;rfl
@[simp] theorem ZB0 (t:T):t.er.mx=t.mx:=by cases t;rfl
@[simp] theorem ZAQ (t:T):t.er.subs=t.subs.map T.er:=by cases t;simp only[T.er,T.subs,Zsk]
mutual
theorem ZnY:∀t:T,t.er.nodes=t.nodes.map T.er
 | .node k s0 s1 s2 s3 mn mx a c l=>by
  simp only[T.er,T.nodes,List.map_cons]
  rw[Zpe l]
theorem Zpe:∀l:List T,ZaA (erL l)=(ZaA l).map T.er
 | []=>rfl
 | t::l=>by simp only[erL,ZaA,List.map_append,ZnY t,Zpe l]
end
theorem Zkz(t:T):t.er.light=t.light:=by unfold T.light;rw[ZnY,List.length_map]
theorem Zyn(t:T):t.er.size=t.size:=by unfold T.size;rw[Zkz,ZnY,List.length_map]
def T.caps(t:T):Prop:=∀x∈t.nodes,x.subs.length<=x.c
theorem ZtP{k s0 s1 s2 s3 mn mx:Int}{a:Option Addr}{c:Nat}{l:List T}(h:l.length<=c)(hl:∀x∈l,x.caps):(T.node k s0 s1 s2 s3 mn mx a c l).caps:=by
 intro y hy
 rw[ZcD]at hy
 rcases List.mem_cons.1 hy with rfl|hy
 ·exact h
 ·obtain⟨x,hx,hy⟩:∃x∈l,y∈x.nodes:=by
   have:∀l:List T,y∈ZaA l->∃x∈l,y∈x.nodes:=λl=>by
    induction l with
    | nil=>intro h;simp[ZaA]at h
    | cons x l ih=>
     intro h
     simp only[ZaA,List.mem_append]at h
     rcases h with h|h
     ·exact⟨x,by simp,h⟩
     ·obtain⟨z,hz,h⟩:=ih h
      exact⟨z,by simp[hz],h⟩
   exact this l hy
  exact hl x hx y hy
theorem Zyo{k s0 s1 s2 s3 mn mx:Int}{a a':Option Addr}{c c':Nat}{l l':List T}(h:l.map T.er=l'.map T.er):(T.node k s0 s1 s2 s3 mn mx a c l).er=(T.node k s0 s1 s2 s3 mn mx a' c' l').er:=by
 simp only[T.er,Zsk,h]
end Go.Rx
namespace Go.Rx
open Go Go.Eng Go.RowKit
def Old(m:Mem)(b:Nat):Prop:=¬m.free b
noncomputable def nw(m m':Mem):Mem:=⟨(m'.off (Old m)).c,λ_=>none⟩
theorem ZnN(m m':Mem):(nw m m').le m':=⟨(Mem.off_le m' (Old m)).c,λ_ _ h=>by cases h⟩
theorem Zcx{m m':Mem}(h:m.le m'){b:Nat}(hf:m'.free b):m.free b:=λo=>by
 cases he:m b o with
 | none=>rfl
 | some v=>have:=h _ _ _ he;rw[hf o]at this;cases this
theorem ZmR{m m':Mem}(h:m.le m'){b:Nat}(hf:m'.k b=none):m.k b=none:=by
 cases he:m.k b with
 | none=>rfl
 | some v=>have:=h.k _ _ he;rw[hf]at this;cases this
theorem ZtQ{m m':Mem}{b:Nat}(h:¬m.free b):(nw m m').free b:=λo=>Mem.off_free (m:=m') (Y:=Old m) h o
theorem ZxA{m m':Mem}{b:Nat}(h:m.free b)(o:Nat):nw m m' b o=m' b o:=Mem.off_at (m:=m') (Y:=Old m) (λk=>k h) o
theorem Zey{m0 m m' m'':Mem}(h1:m0.le m)(h2:m'.le m''):(nw m m').le (nw m0 m''):=⟨λb o v hv=>by
 have hf:m.free b:=Classical.byContradiction λhn=>by rw[ZtQ hn]at hv;cases hv
 rw[ZxA hf]at hv;rw[ZxA (Zcx h1 hf)];exact h2 _ _ _ hv,λb e he=>by cases he⟩
theorem Zsl{m m':Mem}{a:Option Addr}{cs:List Value}(h:rowRd m' a cs)(hf:cs=[]\/∀b o,a=some ⟨b,o,none⟩->m.free b):rowRd (nw m m') a cs:=by
 rcases hf with hf|hf
 ·exact .inl hf
 rcases h with h|⟨b,o,ha,h⟩
 ·exact .inl h
 ·exact .inr ⟨b,o,ha,λj v hj=>by rw[ZxA (hf b o ha)];exact h j v hj⟩
theorem Zwc{m m':Mem}{Y:Nat->Prop}(h:m.le m')(hf:∀b,Y b->m.free b/\m.k b=none):m.le (m'.off Y):=⟨λb o v hv=>by
 rw[Mem.off_at (λhy=>by rw[(hf b hy).1 o]at hv;cases hv)];exact h _ _ _ hv,λb e he=>by
 rw[Mem.off_k (λhy=>by rw[(hf b hy).2]at he;cases he)];exact h.k _ _ he⟩
structure Each {α β:Type}(cs:β->List Value)(Q:α->β->Mem->Prop)(m m':Mem)(L:List α)(a:Option Addr)(c:Nat)(L':List β)(μ:Nat->Mem):Prop where
 len:L'.length=L.length
 le:m.le m'
 row:rowRd m' a (L'.map cs).flatten
 q:∀i x y,L[i]?=some x->L'[i]?=some y->Q x y (μ i)
 sub:∀i,i < L.length->(μ i).le (nw m m')
 ap:∀i j,i < j->j < L.length->∀b,(μ i).free b\/(μ j).free b
 blk:(L=[]/\a=none/\c=0)\/(L≠[]/\∃b,a=some ⟨b,0,none⟩/\m.free b/\m.k b=none/\∀i,i < L.length->(μ i).free b/\(μ i).k b=none)
 cap:L'.length<=c
theorem Each.nil{α β:Type}{cs:β->List Value}{Q:α->β->Mem->Prop}(m:Mem):Each cs Q m m ([]:List α) none 0 [] λ_=>m:=
 ⟨rfl,Mem.le_refl m,.inl rfl,by simp,by simp,by simp,.inl ⟨rfl,rfl,rfl⟩,by simp⟩
theorem Each.step{α β:Type}{cs:β->List Value}{Q:α->β->Mem->Prop}{m m':Mem}{L:List α}{k:Nat}{a:Option Addr}{c:Nat}{L':List β}{μ:Nat->Mem}{n:Nat}(hn:∀y,(cs y).length=n)(h0:0 < n)(h:Each cs Q m m' (L.take k) a c L' μ){x:α}(hx:L[k]?=some x)
  {m3:Mem} {y:β} (h3:m'.le m3) (hq:Q x y (nw m' m3)) {b3:Nat} (iI:m3.free b3) {a':Option Addr} {c':Nat} {m4:Mem} (h4:(m3.add b3 (cs y)).le m4) (aM:rowRd m4 a' ((L'++[y]).map cs).flatten) (ht:TokFact (m3.add b3 (cs y)) a a' (L'.length+1) c'):
  Each cs Q m m4 (L.take (k+1)) a' c' (L'++[y]) (λi=>if i=k then nw m' m3 else μ i):=by
 have hk:k < L.length:=(List.getElem?_eq_some_iff.1 hx).1
 have e:L.take (k+1)=L.take k++[x]:=by rw[List.take_add_one,hx];rfl
 have lk:(L.take k).length=k:=by rw[List.length_take];omega
 have lk':L'.length=k:=h.len.trans lk
 have add3:m3.le (m3.add b3 (cs y)):=Mem.le_add iI _
 have nM:m3.le m4:=mLt add3 h4
 have ji:m'.le m4:=mLt h3 nM
 have qv:m.le (m3.add b3 (cs y)):=mLt h.le (mLt h3 add3)
 have dJ:((L'++[y]).map cs).flatten≠[]:=by
  intro hz
  have:=congrArg List.length hz
  rw[ZaT hn,List.length_append,List.length_cons]at this
  have h5:0 < (L'.length+(([]:List β).length+1))*n:=Nat.mul_pos (by omega) h0
  rw[this]at h5;exact absurd h5 (by simp)
 have ha':∃b,a'=some ⟨b,0,none⟩/\m.free b/\m.k b=none/\(∀i,i < k->(μ i).free b/\(μ i).k b=none)/\((nw m' m3).free b/\(nw m' m3).k b=none):=by
  rcases ht.2 with h1|⟨b,o,h1,h2⟩
  ·rcases aM with h2|⟨b,o,h2,_⟩
   ·exact absurd h2 dJ
   ·rw[h1]at h2;cases h2
  ·rcases h2 with h2|⟨h2,h5,h6⟩
   ·rcases h.blk with⟨_,h7,_⟩|⟨h6,b',h7,h8,h8',h9⟩
    ·rw[h7,h1]at h2;cases h2
    ·rw[h7,h1]at h2
     simp only[Option.some.injEq,Addr.mk.injEq,and_true]at h2
     obtain⟨rfl,rfl⟩:=h2
     have ij:¬m'.free b':=λhf=>by
      rcases h.row with gP|⟨b2,o2,gP,lO⟩
      ·have:=congrArg List.length gP
       rw[ZaT hn,lk']at this
       have oI:k≠0:=λe=>h6 (by rw[e];rfl)
       have nN:0 < k*n:=Nat.mul_pos (by omega) h0
       simp at this;omega
      ·rw[h7]at gP;cases gP
       have oI:k≠0:=λe=>h6 (by rw[e];rfl)
       have nN:0 < k*n:=Nat.mul_pos (by omega) h0
       have aP:0 < (L'.map cs).flatten.length:=by rw[ZaT hn,lk'];exact nN
       have:=lO 0 _ (List.getElem?_eq_getElem aP)
       rw[hf]at this;cases this
     refine⟨b',h1,h8,h8',λi hi=>h9 i (by omega),ZtQ ij,rfl⟩
   ·subst h2
    have hs:∀i,i < k->(μ i).le (m3.add b3 (cs y)):=λi hi=>mLt (h.sub i (by omega)) (mLt (ZnN _ _) (mLt h3 add3))
    have l4:(nw m' m3).le (m3.add b3 (cs y)):=mLt (ZnN _ _) add3
    exact⟨b,h1,Zcx qv h5,ZmR qv h6,λi hi=>⟨Zcx (hs i hi) h5,ZmR (hs i hi) h6⟩,Zcx l4 h5,ZmR l4 h6⟩
 obtain⟨b,hb,cM,eU,eY,nO⟩:=ha'
 refine⟨by rw[List.length_append,List.length_take,lk'];simp;omega,mLt h.le ji,aM,λi u v hu hv=>?_,λi hi=>?_,λi j qw hj b'=>?_,.inr ⟨by rw[e];simp,b,hb,cM,eU,λi hi=>?_⟩,by have:=ht.1;rw[List.length_append];exact this⟩
 ·rw[e]at hu
  by_cases jK:i=k
  ·subst jK
   rw[List.getElem?_append_right (by omega),lk,Nat.sub_self]at hu
   rw[List.getElem?_append_right (by omega),lk',Nat.sub_self]at hv
   cases hu;cases hv
   rw[if_pos rfl];exact hq
  ·have hi:i < k:=by
    have:=(List.getElem?_eq_some_iff.1 hu).1
    rw[List.length_append,lk]at this;simp at this;omega
   rw[List.getElem?_append_left (by omega)]at hu hv
   rw[if_neg jK];exact h.q i u v hu hv
 ·by_cases jK:i=k
  ·subst jK;rw[if_pos rfl];exact Zey h.le nM
  ·rw[if_neg jK]
   rw[List.length_take]at hi
   exact mLt (h.sub i (by omega)) (Zey (Mem.le_refl m) ji)
 ·rw[List.length_take]at hj
  by_cases tV:j=k
  ·subst tV
   rw[if_neg (by omega),if_pos rfl]
   by_cases hf:(μ i).free b'
   ·exact .inl hf
   ·exact .inr (ZtQ λoZ=>hf (Zcx (mLt (h.sub i (by omega)) (ZnN _ _)) oZ))
  ·rw[if_neg (by omega),if_neg tV];exact h.ap i j qw (by omega) b'
 ·by_cases jK:i=k
  ·subst jK;rw[if_pos rfl];exact nO
  ·rw[if_neg jK];rw[List.length_take]at hi;exact eY i (by omega)
section
variable {α β:Type} {cs:β->List Value} {Q:α->β->Mem->Prop} {m m':Mem} {L:List α} {a:Option Addr} {c:Nat} {L':List β} {μ:Nat->Mem} (h:Each cs Q m m' L a c L' μ)
include h
theorem Each.rows:rowRd (nw m m') a (L'.map cs).flatten:=Zsl h.row (by
 rcases h.blk with⟨h1,_⟩|⟨_,b,hb,hf,_⟩
 ·left
  have:L'=[]:=List.eq_nil_of_length_eq_zero (by rw[h.len,h1];rfl)
  rw[this];rfl
 ·exact .inr λb' o e=>by rw[hb]at e;cases e;exact hf)
theorem Each.at{y:β}(hy:y∈L'):∃i x,L[i]?=some x/\L'[i]?=some y/\Q x y (μ i)/\(μ i).le (nw m m'):=by
 obtain⟨i,hi⟩:=List.getElem?_of_mem hy
 have aP:i < L.length:=by rw[<-h.len];exact(List.getElem?_eq_some_iff.1 hi).1
 exact⟨i,L[i],List.getElem?_eq_getElem aP,hi,h.q i _ _ (List.getElem?_eq_getElem aP) hi,h.sub i aP⟩
theorem Each.same{γ:Type}{f:α->γ}{g:β->γ}(hs:∀x y μ,Q x y μ->g y=f x):L'.map g=L.map f:=by
 refine List.ext_getElem (by simp[h.len]) λi h1 h2=>?_
 simp only[List.length_map]at h1 h2
 rw[List.getElem_map,List.getElem_map]
 exact hs _ _ _ (h.q i _ _ (List.getElem?_eq_getElem h2) (List.getElem?_eq_getElem h1))
end
def ZtR{α β:Type}(cs:β->List Value)(Q:α->β->Mem->Prop)(m:Mem)(L:List α):Value->Mem->List (List Value)->Prop:=λv m' _=>∃a c L' μ,v=.slice a L'.length c/\Each cs Q m m' L a c L' μ
theorem Zhj{α β:Type}{cs:β->List Value}{Q:α->β->Mem->Prop}{m:Mem}{L:List α}:∀(v:Value)(m':Mem) (css:List (List Value)),ZtR cs Q m L v m' css->Shape.fits .slice v=true:=λv _ _ ⟨_,_,_,_,h,_⟩=>by rw[h];rfl
mutual
def E.er:E->E
 | .node k x s g _ _ l=>.node k x s g none 0 (ZxE l)
def ZxE:List E->List E
 | []=>[]
 | t::l=>t.er::ZxE l
end
theorem ZnZ:∀l:List E,ZxE l=l.map E.er
 | []=>rfl
 | t::l=>by simp only[ZxE,List.map_cons,ZnZ l]
@[simp] theorem ZB1 (t:E):t.er.k=t.k:=by cases t;rfl
@[simp] theorem ZB2 (t:E):t.er.x=t.x:=by cases t;rfl
@[simp] theorem ZB3 (t:E):t.er.s=t.s:=by cases t;rfl
@[simp] theorem ZB4 (t:E):t.er.g=t.g:=by cases t;rfl
@[simp] theorem ZzO (t:E):t.er.subs=t.subs.map E.er:=by cases t;simp only[E.er,E.subs,ZnZ]
mutual
theorem ZkA:∀t:E,t.er.nodes=t.nodes.map E.er
 | .node k x s g a c l=>by
  simp only[E.er,E.nodes,List.map_cons]
  rw[Zmg l]
theorem Zmg:∀l:List E,Zap (ZxE l)=(Zap l).map E.er
 | []=>rfl
 | t::l=>by simp only[ZxE,Zap,List.map_append,ZkA t,Zmg l]
end
theorem Zhk(t:E):t.er.light=t.light:=by unfold E.light;rw[ZkA,List.length_map]
theorem Zwd(t:E):t.er.size=t.size:=by unfold E.size;rw[Zhk,ZkA,List.length_map]
theorem ZAR(t:E):nE t.er=nE t:=by unfold nE;rw[Zhk,Zwd]
def Pt.er(p:Pt):Pt:=⟨p.k,p.s,p.g,p.e.er⟩
def Ac.er(a:Ac):Ac:=⟨a.k,a.s,none,0,a.parts.map Pt.er,a.e.er⟩
def Ru.er(r:Ru):Ru:=⟨r.k,r.bg,r.en,r.t.er,r.s,r.n,none,0,r.acts.map Ac.er,r.go,r.code⟩
def Sta.er(x:Sta):Sta:=⟨x.s,none,0,x.rules.map Ru.er⟩
def Sc.er(s:Sc):Sc:=⟨s.n,none,0,s.vars,none,0,s.states.map Sta.er⟩
theorem Zpf{α:Type}(f:α->Int)(g:α->α)(h:∀x,f (g x)=f x)(l:List α):ZbQ ((l.map g).map f)=ZbQ (l.map f):=by
 rw[List.map_map];congr 1;exact List.map_congr_left λx _=>h x
theorem ZBp(a:Ac):wA a.er=wA a:=by
 unfold wA
 show 1+nE a.e.er+((a.parts.map Pt.er).length:Int)+ZbQ ((a.parts.map Pt.er).map λp=>nE p.e)=_
 rw[ZAR,List.length_map,Zpf (λp:Pt=>nE p.e) Pt.er (λp=>ZAR p.e)]
theorem ZzP(r:Ru):wR r.er=wR r:=by
 unfold wR
 show 1+ZgS r.t.er.size 20000+(if r.t.er.light then 0 else 20001)+ZbQ ((r.acts.map Ac.er).map wA)=_
 rw[Zyn,Zkz,Zpf wA Ac.er ZBp]
theorem ZBq(x:Sta):wS x.er=wS x:=Zpf wR Ru.er ZzP x.rules
theorem ZtS(s:Sc):s.er.weight=s.weight:=by
 unfold Sc.weight
 show(s.vars.length:Int)+((s.states.map Sta.er).length:Int)+ZbQ ((s.states.map Sta.er).map wS)=_
 rw[List.length_map,Zpf wS Sta.er ZBq]
theorem Zpg(s:Sc):s.er.light=s.light:=by unfold Sc.light;rw[ZtS]
theorem ZtT{s s':Sc}(h:s'.er=s.er):s'.light=s.light:=by rw[<-Zpg s',h,Zpg]
theorem Zph{α:Type}(f:α->Int)(hf:∀x,0<=f x){l:List α}{x:α}(hx:x∈l):f x<=ZbQ (l.map f):=by
 induction l with
 | nil=>cases hx
 | cons y l ih=>
  have h1:=Zfy f hf l
  have h2:=hf y
  simp only[List.map_cons,ZbQ]
  rcases List.mem_cons.1 hx with rfl|hx
  ·omega
  ·have:=ih hx;omega
def LtA(a:Ac):Prop:=a.e.light=true/\∀p∈a.parts,p.e.light=true
def LtR(r:Ru):Prop:=r.t.light=true/\∀a∈r.acts,LtA a
theorem ZAS{e:E}(h:nE e<=20000):e.light=true:=by
 cases hl:e.light with
 | true=>rfl
 | false=>unfold nE at h;rw[hl]at h;simp at h
theorem ZAd{a:Ac}(h:wA a<=20000):LtA a:=by
 unfold wA at h
 have h1:=Zo4 a.e
 have h2:=Zfy (λp:Pt=>nE p.e) (λp=>(Zo4 p.e).1) a.parts
 exact⟨ZAS (by omega),λp hp=>ZAS (by have:=Zph (λp:Pt=>nE p.e) (λp=>(Zo4 p.e).1) hp;omega)⟩
theorem Zyp{r:Ru}(h:wR r<=20000):LtR r:=by
 unfold wR at h
 have h1:=(ZjO r.t).1
 have h2:=Zfy wA Zyc r.acts
 have h3:0<=ZgS r.t.size 20000:=by unfold ZgS;split <;> omega
 refine⟨?_,λa ha=>ZAd (by have:=Zph wA Zyc ha;split at h <;> omega)⟩
 cases hl:r.t.light with
 | true=>rfl
 | false=>rw[hl]at h;simp at h;omega
theorem ZAe{s:Sc}(h:s.light=true):∀x∈s.states,∀r∈x.rules,LtR r:=λx hx r hr=>Zyp (by
 have h1:s.weight<=20000:=of_decide_eq_true h
 unfold Sc.weight at h1
 have h2:=Zph wS ZAN hx
 have h3:wR r<=wS x:=Zph wR Zyd hr
 omega)
def QP(p q:Pt)(μ:Mem):Prop:=q.er=p.er/\RepP μ q
def QA(p q:Ac)(μ:Mem):Prop:=q.er=p.er/\RepA μ q
def QR(p q:Ru)(μ:Mem):Prop:=q.er=p.er/\RepR μ q
def ZB5(m μ:Mem)(y:Sta):Prop:=y.rules.length<=y.rc/\(y.rules=[]\/∃b,y.ra=some ⟨b,0,none⟩/\m.free b/\m.k b=none/\∀r∈y.rules,RepR (μ.off λk=>k=b) r)
def QS(m:Mem)(x y:Sta)(μ:Mem):Prop:=y.er=x.er/\RepS μ y/\ZB5 m μ y
structure SepC (m m':Mem)(s:Sc)(b:Nat)(μ:Nat->Mem):Prop where
 sa:s.sa=some ⟨b,0,none⟩
 free:m.free b/\m.k b=none
 all:∀i x,s.states[i]?=some x->RepS (μ i) x/\ZB5 m (μ i) x/\(μ i).le (nw m m')/\(μ i).free b
 ap:∀i j,i < j->j < s.states.length->∀b',(μ i).free b'\/(μ j).free b'
 va:∃μv:Mem,rowRd μv s.va (s.vars.map Va.cs).flatten/\μv.le (nw m m')/\μv.free b/\∀i,i < s.states.length->∀b',μv.free b'\/(μ i).free b'
theorem ZtU{m0 m m' M:Mem}{x:Ac}{a:Option Addr}{c:Nat}{L':List Pt}{μ:Nat->Mem}{e:E}(hx:RepA m0 x)(h:Each Pt.cs QP m m' x.parts a c L' μ)(hM:(nw m m').le M)(he:RepE M e):RepA M ⟨x.k,x.s,a,c,L',e⟩:=
 ⟨hx.k,hx.s,by rw[h.len];exact hx.n,h.rows.mono hM,λp hp=>by
  obtain⟨i,y,_,_,hq,hs⟩:=h.at hp
  exact hq.2.mono (mLt hs hM),he⟩
theorem ZtV{m0 m m' M:Mem}{x:Ru}{a:Option Addr}{c:Nat}{L':List Ac}{μ:Nat->Mem}{t:T}(hx:RepR m0 x)(h:Each Ac.cs QA m m' x.acts a c L' μ)(hM:(nw m m').le M)(ht:Rep M t):RepR M ⟨x.k,x.bg,x.en,t,x.s,x.n,a,c,L',x.go,x.code⟩:=
 ⟨hx.k,ht,hx.s,hx.n,by rw[h.len];exact hx.len,h.rows.mono hM,λp hp=>by
  obtain⟨i,y,_,_,hq,hs⟩:=h.at hp
  exact hq.2.mono (mLt hs hM),hx.go,hx.code⟩
theorem Zvm{m m':Mem}{Y:Nat->Prop}(h:m.le m'):(m.off Y).le (m'.off Y):=⟨λb o v hv=>by
 by_cases hy:Y b
 ·rw[Mem.off_free hy]at hv;cases hv
 ·rw[Mem.off_at hy]at hv ⊢;exact h _ _ _ hv,λb e he=>by
 by_cases hy:Y b
 ·rw[Mem.off_kn hy]at he;cases he
 ·rw[Mem.off_k hy]at he ⊢;exact h.k _ _ he⟩
theorem QS.mono{m0 μ μ':Mem}{x y:Sta}(h:QS m0 x y μ)(hm:μ.le μ'):QS m0 x y μ':=
 ⟨h.1,h.2.1.mono hm,h.2.2.1,h.2.2.2.imp_right λ⟨b,h1,h2,h3,h4⟩=>⟨b,h1,h2,h3,λr hr=>(h4 r hr).mono (Zvm hm)⟩⟩
theorem Zyq{m0 m m':Mem}{x:Sta}{a:Option Addr}{c:Nat}{L':List Ru}{μ:Nat->Mem}(h0:m0.le m)(hx:RepS m x)(h:Each Ru.cs QR m m' x.rules a c L' μ):QS m0 x ⟨x.s,a,c,L'⟩ (nw m m'):=by
 refine⟨?_,⟨hx.s,by rw[h.len];exact hx.len,h.rows,λp hp=>by
  obtain⟨i,y,_,_,hq,hs⟩:=h.at hp
  exact hq.2.mono hs⟩,h.cap,?_⟩
 ·simp only[Sta.er,Sta.mk.injEq,true_and]
  exact h.same λx y μ hq=>hq.1
 ·rcases h.blk with⟨h1,_⟩|⟨_,b,hb,hf,hk,hμ⟩
  ·exact .inl (List.eq_nil_of_length_eq_zero (by rw[h.len,h1];rfl))
  ·refine .inr ⟨b,hb,Zcx h0 hf,ZmR h0 hk,λr hr=>?_⟩
   obtain⟨i,y,hi,_,hq,hs⟩:=h.at hr
   exact hq.2.mono (Zwc hs λb' e=>by rw[e];exact hμ i (List.getElem?_eq_some_iff.1 hi).1)
def Zhl(x:Sta)(k:Nat):Sta:=⟨x.s,x.ra,x.rc,x.rules.eraseIdx k⟩
def ZnO(s:Sc)(i k:Nat):Sc:=match s.states[i]? with
 | some x=>⟨s.n,s.va,s.vc,s.vars,s.sa,s.sc,s.states.set i (Zhl x k)⟩
 | none=>s
def ZiI(s:Sc)(i k:Int):Bool:=s.light&&(decide (i ≥ 0)&&(decide (i < s.states.length)&&(decide (k ≥ 0)&&match s.states[i.toNat]? with
 | some x=>decide (k < x.rules.length)
 | none=>false)))
theorem Zhm{s s':Sc}(h:s'.er=s.er):s'.states.map Sta.er=s.states.map Sta.er:=congrArg Sc.states h
theorem Zyr{s s':Sc}(h:s'.er=s.er){i:Nat}{x:Sta}(hx:s.states[i]?=some x):∃x',s'.states[i]?=some x'/\x'.er=x.er:=by
 have:=congrArg (λl=>l[i]?) (Zhm h)
 simp only[List.getElem?_map,hx,Option.map_some]at this
 obtain⟨x',h1,h2⟩:=Option.map_eq_some_iff.1 this
 exact⟨x',h1,h2⟩
theorem Zys{s s':Sc}(h:s'.er=s.er):s'.states.length=s.states.length:=by
 have:=congrArg List.length (Zhm h);simpa using this
theorem ZkB{x x':Sta}(h:x'.er=x.er):x'.s=x.s/\x'.rules.map Ru.er=x.rules.map Ru.er/\x'.rules.length=x.rules.length:=by
 have h2:x'.rules.map Ru.er=x.rules.map Ru.er:=congrArg Sta.rules h
 have h1:x'.er.s=x.er.s:=congrArg Sta.s h
 exact⟨h1,h2,by have:=congrArg List.length h2;simpa using this⟩
theorem Zvn{s s':Sc}(h:s'.er=s.er):s'.n=s.n/\s'.vars=s.vars:=by
 have h1:s'.er.n=s.er.n:=congrArg Sc.n h
 have h2:s'.er.vars=s.er.vars:=congrArg Sc.vars h
 exact⟨h1,h2⟩
theorem Zsm{s s':Sc}(h1:s'.n=s.n)(h2:s'.vars=s.vars)(h3:s'.states.map Sta.er=s.states.map Sta.er):s'.er=s.er:=by
 unfold Sc.er;rw[h1,h2,h3]
theorem ZkC{α β:Type}(f:α->β):∀(l:List α)(k:Nat),(l.eraseIdx k).map f=(l.map f).eraseIdx k
 | [],_=>rfl
 | _::_,0=>rfl
 | x::l,k+1=>by simp only[List.eraseIdx_cons_succ,List.map_cons,ZkC f l k]
theorem Zsn{x x':Sta}(h:x'.er=x.er)(k:Nat):(Zhl x' k).er=(Zhl x k).er:=by
 obtain⟨h1,h2,_⟩:=ZkB h
 simp only[Zhl,Sta.er,h1,Sta.mk.injEq,true_and]
 rw[ZkC,ZkC,h2]
theorem Zwe{m:Mem}{b:Nat}{L:List Sta}{i:Nat}{x y:Sta}(h:rowRd m (some ⟨b,0,none⟩) (L.map Sta.cs).flatten)(hx:L[i]?=some x)(hs:y.s=x.s):
  rowRd (m.upd b (0+i*2+1) [.slice y.ra y.rules.length y.rc]) (some ⟨b,0,none⟩) ((L.set i y).map Sta.cs).flatten:=by
 have hi:=(List.getElem?_eq_some_iff.1 hx).1
 have hl:∀l:List Sta,(l.map Sta.cs).flatten.length=l.length*2:=ZaT Sta.len
 have e0:L=L.take i++x::L.drop (i+1):=by
  have:=(List.getElem?_eq_some_iff.1 hx).2
  rw[<-this,List.getElem_cons_drop,List.take_append_drop]
 have e1:L.set i y=L.take i++y::L.drop (i+1):=List.set_eq_take_append_cons_drop.trans (if_pos hi)
 have lt:(L.take i).length=i:=by rw[List.length_take];omega
 have e:∀z:Sta,((L.take i++z::L.drop (i+1)).map Sta.cs).flatten=((L.take i).map Sta.cs).flatten++(z.cs++((L.drop (i+1)).map Sta.cs).flatten):=λz=>by simp
 rw[e0,e]at h
 rw[e1,e]
 obtain⟨A,hA⟩:∃A,A=((L.take i).map Sta.cs).flatten:=⟨_,rfl⟩
 obtain⟨B,hB⟩:∃B,B=((L.drop (i+1)).map Sta.cs).flatten:=⟨_,rfl⟩
 have lA:A.length=i*2:=by rw[hA,hl,lt]
 rw[<-hA,<-hB]at h ⊢
 rcases h with h|⟨b',o',ha,h⟩
 ·have:=congrArg List.length h
  rw[List.length_append,List.length_append,Sta.len]at this
  simp at this
 cases ha
 refine .inr ⟨b,0,rfl,λj v hj=>?_⟩
 unfold Mem.upd;try dsimp only
 rw[Nat.zero_add,Nat.zero_add,List.length_singleton]
 rcases Nat.lt_or_ge j (i*2)with aP|bX
 ·rw[if_neg (by omega)]
  rw[List.getElem?_append_left (by omega)]at hj
  have:=h j v (by rw[List.getElem?_append_left (by omega)];exact hj)
  rwa [Nat.zero_add]at this
 ·rw[List.getElem?_append_right (by omega),lA]at hj
  by_cases pb:j=i*2
  ·subst pb
   rw[if_neg (by omega)]
   rw[Nat.sub_self]at hj
   have:=h (i*2) v (by
    rw[List.getElem?_append_right (by omega),lA,Nat.sub_self]
    simp only[Sta.cs,hs]at hj ⊢
    exact hj)
   rwa [Nat.zero_add]at this
  ·by_cases nP:j=i*2+1
   ·subst nP
    rw[if_pos ⟨rfl,Nat.le_refl _,Nat.lt_succ_self _⟩,Nat.sub_self]
    rw[show i*2+1 - i*2=1 by omega]at hj
    exact hj
   ·rw[if_neg (by omega)]
    rw[List.getElem?_append_right (by rw[Sta.len];omega),Sta.len]at hj
    have:=h j v (by
     rw[List.getElem?_append_right (by omega),lA,List.getElem?_append_right (by rw[Sta.len];omega),Sta.len];exact hj)
    rwa [Nat.zero_add]at this
theorem Zwf{m2 m3 M:Mem}{s':Sc}{bS bR i k:Nat}{μ:Nat->Mem}{x':Sta}{zs:List Value}(dO:RepC (nw m2 m3) s')(fK:SepC m2 m3 s' bS μ)(hx':s'.states[i]?=some x')(jV:x'.ra=some ⟨bR,0,none⟩)(hk:k < x'.rules.length)
  (rY:∀r∈x'.rules,RepR ((μ i).off λq=>q=bR) r) (hM:(m3.off λq=>q=bR).le M) (rZ:(M.upd bS (0+i*2+1) [.slice x'.ra (x'.rules.length - 1) x'.rc]).free bR):
  RepC ((M.upd bS (0+i*2+1) [.slice x'.ra (x'.rules.length - 1) x'.rc]).add bR (((x'.rules.eraseIdx k).map Ru.cs).flatten++zs)) ⟨s'.n,s'.va,s'.vc,s'.vars,s'.sa,s'.sc,s'.states.set i (Zhl x' k)⟩:=by
 obtain⟨V,hV⟩:∃V,V=M.upd bS (0+i*2+1) [.slice x'.ra (x'.rules.length - 1) x'.rc]:=⟨_,rfl⟩
 rw[<-hV]at rZ ⊢
 have hi:=(List.getElem?_eq_some_iff.1 hx').1
 obtain⟨pf,mP,bM,qx⟩:=fK.all i x' hx'
 have kno:∀{ν:Mem},ν.le (nw m2 m3)->∀b,ν.k b=none:=λh b=>ZmR h rfl
 have stay:∀{ν:Mem},ν.le (m3.off λq=>q=bR)->ν.free bS->ν.le (V.add bR (((x'.rules.eraseIdx k).map Ru.cs).flatten++zs)):=λh1 h2=>
  mLt (by rw[hV];exact Mem.le_upd (mLt h1 hM) h2 _ _) (Mem.le_add rZ _)
 have jX:¬(μ i).free bR:=λhf=>by
  rcases pf.row with h|⟨b,o,ha,h⟩
  ·have:=congrArg List.length h
   rw[ZaT Ru.len]at this;simp at this;omega
  ·rw[jV]at ha;cases ha
   have aP:0 < (x'.rules.map Ru.cs).flatten.length:=by rw[ZaT Ru.len];omega
   have:=h 0 _ (List.getElem?_eq_getElem aP)
   rw[hf]at this;cases this
 have r4:bS≠bR:=λe=>jX (e ▸ qx)
 have off:∀{ν:Mem},ν.le (nw m2 m3)->ν.free bR->ν.le (m3.off λq=>q=bR):=λh1 h2=>Zwc (mLt h1 (ZnN _ _)) λb e=>⟨e ▸ h2,kno h1 b⟩
 have bG:∀j,j < s'.states.length->j≠i->(μ j).free bR:=λj hj dJ=>by
  rcases Nat.lt_or_ge j i with h|h
  ·exact(fK.ap j i h hi bR).resolve_right jX
  ·exact(fK.ap i j (by omega) hj bR).resolve_left jX
 have r5:=fK.sa
 refine⟨dO.n,dO.vlen,?_,dO.vall,by rw[List.length_set];exact dO.len,?_,λy hy=>?_,dO.vcap,by rw[List.length_set];exact dO.scap⟩
 ·obtain⟨μv,h1,h2,h3,h4⟩:=fK.va
  exact h1.mono (stay (off h2 ((h4 i hi bR).resolve_right jX)) h3)
 ·have aM:rowRd (m3.off λq=>q=bR) s'.sa (s'.states.map Sta.cs).flatten:=by
   rcases dO.row with h|⟨b,o,ha,h⟩
   ·exact .inl h
   ·refine .inr ⟨b,o,ha,λj v hj=>?_⟩
    rw[r5]at ha;cases ha
    rw[Mem.off_at (Y:=λq=>q=bR) r4];exact(ZnN m2 m3) _ _ _ (h j v hj)
  rw[r5]at aM
  have h5:=Zwe (y:=Zhl x' k) (aM.mono hM) hx' rfl
  have h6:(Zhl x' k).rules.length=x'.rules.length - 1:=by simp only[Zhl];rw[List.length_eraseIdx,if_pos hk]
  rw[h6]at h5
  rw[r5]
  have h7:rowRd V (some ⟨bS,0,none⟩) ((s'.states.set i (Zhl x' k)).map Sta.cs).flatten:=by rw[hV];exact h5
  exact h7.mono (Mem.le_add rZ _)
 ·obtain⟨j,hj⟩:=List.getElem?_of_mem hy
  by_cases mX:j=i
  ·subst mX
   rw[List.getElem?_set_self hi]at hj
   cases hj
   refine⟨pf.s,by show(x'.rules.eraseIdx k).length<=few;rw[List.length_eraseIdx,if_pos hk];have:=pf.len;omega,?_,λr hr=>?_⟩
   ·show rowRd _ x'.ra ((x'.rules.eraseIdx k).map Ru.cs).flatten
    rw[jV]
    refine .inr ⟨bR,0,rfl,λq v hq=>?_⟩
    rw[Nat.zero_add,Mem.add_same,List.getElem?_append_left (List.getElem?_eq_some_iff.1 hq).1];exact hq
   ·refine(rY r (List.mem_of_mem_eraseIdx hr)).mono (stay (Zvm (mLt bM (ZnN _ _))) ?_)
    exact Zcx (Mem.off_le _ _) qx
  ·rw[List.getElem?_set_ne (Ne.symm mX)]at hj
   have nQ:=(List.getElem?_eq_some_iff.1 hj).1
   obtain⟨h1,_,h3,h4⟩:=fK.all j y hj
   exact h1.mono (stay (off h3 (bG j nQ mX)) h4)
def Zso(s:Sc)(d:Dd):Sc:=ZnO s d.1.toNat d.2.toNat
def ZjQ(s:Sc)(l:List Dd):Sc:=l.foldl Zso s
def ZzQ(s:Sc):Sc:=ZjQ s (ZbH s).reverse
def Zyt(s:Sc)(d:Dd):Prop:=∃(i k:Nat)(x:Sta),d=((i:Int),(k:Int))/\s.states[i]?=some x/\k < x.rules.length
def ZkD:Sc->List Dd->Prop
 | _,[]=>True
 | s,d::l=>Zyt s d/\ZkD (Zso s d) l
theorem Zpi(s:Sc)(l r:List Dd):ZjQ s (l++r)=ZjQ (ZjQ s l) r:=List.foldl_append
theorem Zmh:∀(l r:List Dd)(s:Sc),ZkD s l->ZkD (ZjQ s l) r->ZkD s (l++r)
 | [],r,s,_,h=>h
 | d::l,r,s,h,k=>⟨h.1,Zmh l r _ h.2 k⟩
theorem Zpj:∀{l:List Dd} {s:Sc},ZkD s l->∀{j:Nat} {d:Dd},l[j]?=some d->Zyt (ZjQ s (l.take j)) d
 | [],s,_,j,d,h=>by simp at h
 | e::l,s,h,0,d,hd=>by simp at hd;subst hd;exact h.1
 | e::l,s,h,j+1,d,hd=>Zpj (l:=l) (s:=Zso s e) h.2 (j:=j) (by simpa using hd)
theorem ZtW{s:Sc}{l:List Dd}{j:Nat}{d:Dd}(h:l[j]?=some d):ZjQ s (l.take (j+1))=Zso (ZjQ s (l.take j)) d:=by
 rw[List.take_add_one,h,Zpi];rfl
def ZdU(x:Sta):Nat->List Ru
 | 0=>[]
 | k+1=>ZdU x k++(match x.rules[k]? with
  | some r=>if Zcw x k r then[]else[r]
  | none=>[])
def Zmi(x:Sta):Sta:=⟨x.s,x.ra,x.rc,ZdU x x.rules.length⟩
theorem ZtX{i:Nat}{x:Sta}{k:Nat}{r:Ru}(h:x.rules[k]?=some r):(ZcL i x (k+1)).reverse=(if Zcw x k r then[((i:Int),(k:Int))]else[])++(ZcL i x k).reverse:=by
 rw[Ziq h,List.reverse_append];split <;> simp
theorem Zgh(x:Sta)(i:Nat):∀(k:Nat),k<=x.rules.length->∀(s:Sc)(y:Sta)(tl:List Ru),s.states[i]?=some y->y.rules=x.rules.take k++tl->
  ZkD s (ZcL i x k).reverse/\ZjQ s (ZcL i x k).reverse=⟨s.n,s.va,s.vc,s.vars,s.sa,s.sc,s.states.set i ⟨y.s,y.ra,y.rc,ZdU x k++tl⟩⟩
 | 0,_,s,y,tl,hy,hr=>by
  refine⟨trivial,?_⟩
  have h1:(⟨y.s,y.ra,y.rc,ZdU x 0++tl⟩:Sta)=y:=by
   cases y;simp only[ZdU,List.nil_append,Sta.mk.injEq,true_and]
   simpa using hr.symm
  have h2:s.states.set i y=s.states:=by
   obtain⟨hi,e⟩:=List.getElem?_eq_some_iff.1 hy
   rw[<-e];exact List.set_getElem_self hi
  show s=_
  rw[h1,h2]
 | k+1,hk,s,y,tl,hy,hr=>by
  obtain⟨r,gu⟩:∃r,x.rules[k]?=some r:=⟨x.rules[k],List.getElem?_eq_getElem (by omega)⟩
  have ht:x.rules.take (k+1)=x.rules.take k++[r]:=by rw[List.take_add_one,gu];rfl
  rw[ZtX gu]
  rw[ht,List.append_assoc]at hr
  have hl:(x.rules.take k).length=k:=by rw[List.length_take];omega
  cases hd:Zcw x k r with
  | false=>
   have ih:=Zgh x i k (by omega) s y (r::tl) hy hr
   simp only[Bool.false_eq_true,if_false,List.nil_append]
   refine⟨ih.1,ih.2.trans ?_⟩
   have:ZdU x (k+1)++tl=ZdU x k++r::tl:=by simp[ZdU,gu,hd]
   rw[this]
  | true=>
   simp only[if_true]
   have hi:=(List.getElem?_eq_some_iff.1 hy).1
   have he:y.rules.eraseIdx k=x.rules.take k++tl:=by
    rw[hr,List.eraseIdx_append_of_length_le (by omega),hl,Nat.sub_self];rfl
   have qt:Zso s ((i:Int),(k:Int))=⟨s.n,s.va,s.vc,s.vars,s.sa,s.sc,s.states.set i (Zhl y k)⟩:=by
    unfold Zso ZnO
    simp only[Int.toNat_natCast,hy]
   have ih:=Zgh x i k (by omega) (Zso s ((i:Int),(k:Int))) (Zhl y k) tl (by rw[qt];exact List.getElem?_set_self hi) he
   have e2:ZdU x (k+1)=ZdU x k:=by simp[ZdU,gu,hd]
   refine⟨⟨⟨i,k,y,rfl,hy,by rw[hr];simp;omega⟩,ih.1⟩,?_⟩
   show ZjQ (Zso s ((i:Int),(k:Int))) (ZcL i x k).reverse=_
   rw[ih.2,qt,e2]
   simp only[Zhl,List.set_set]
theorem Zpk(s0:Sc):∀(n:Nat),n<=s0.states.length->∀s:Sc,s.states.length=s0.states.length->(∀j,j < n->s.states[j]?=s0.states[j]?)->
  ZkD s (deadU s0 n).reverse/\∃L:List Sta,ZjQ s (deadU s0 n).reverse=⟨s.n,s.va,s.vc,s.vars,s.sa,s.sc,L⟩/\L.length=s0.states.length/\∀j,L[j]?=if j < n then(s0.states[j]?).map Zmi else s.states[j]?
 | 0,_,s,hl,_=>⟨trivial,s.states,rfl,hl,λj=>by simp⟩
 | n+1,hn,s,hl,hs=>by
  obtain⟨x,hx⟩:∃x,s0.states[n]?=some x:=⟨s0.states[n],List.getElem?_eq_getElem (by omega)⟩
  have dG:s.states[n]?=some x:=(hs n (by omega)).trans hx
  obtain⟨h1,h2⟩:=Zgh x n x.rules.length (Nat.le_refl _) s x [] dG (by simp)
  have e:(deadU s0 (n+1)).reverse=(ZcL n x x.rules.length).reverse++(deadU s0 n).reverse:=by rw[Zir hx,List.reverse_append]
  have hi:n < s.states.length:=by omega
  have ih:=Zpk s0 n (by omega) (ZjQ s (ZcL n x x.rules.length).reverse) (by rw[h2];simp only[List.length_set];exact hl) (λj hj=>by
   rw[h2]
   show(s.states.set n _)[j]?=_
   rw[List.getElem?_set_ne (by omega)]
   exact hs j (by omega))
  obtain⟨i1,L,i2,i3,i4⟩:=ih
  rw[e]
  refine⟨Zmh _ _ _ h1 i1,L,?_,i3,λj=>?_⟩
  ·rw[Zpi,i2,h2]
  ·rw[i4]
   by_cases hj:j < n
   ·rw[if_pos hj,if_pos (by omega)]
   ·rw[if_neg hj,h2]
    show(s.states.set n _)[j]?=_
    by_cases tW:j=n
    ·subst tW
     rw[if_pos (by omega),List.getElem?_set_self hi,hx]
     simp[Zmi]
    ·rw[List.getElem?_set_ne (Ne.symm tW),if_neg (by omega)]
theorem Zvo(s:Sc):ZkD s (ZbH s).reverse/\ZzQ s=⟨s.n,s.va,s.vc,s.vars,s.sa,s.sc,s.states.map Zmi⟩:=by
 obtain⟨h1,L,h2,h3,h4⟩:=Zpk s s.states.length (Nat.le_refl _) s rfl (λ_ _=>rfl)
 refine⟨h1,?_⟩
 unfold ZzQ
 rw[show ZbH s=deadU s s.states.length from rfl,h2]
 congr 1
 refine List.ext_getElem? λj=>?_
 rw[h4,List.getElem?_map]
 split
 ·rfl
 ·rw[List.getElem?_eq_none (by omega)];rfl
theorem Zpl{α:Type}(f:α->Int)(hf:∀x,0<=f x):∀(l:List α)(k:Nat),ZbQ ((l.eraseIdx k).map f)<=ZbQ (l.map f)
 | [],_=>by simp[ZbQ]
 | x::l,0=>by have:=hf x;simp only[List.eraseIdx_zero,List.tail_cons,List.map_cons,ZbQ];omega
 | x::l,k+1=>by have:=Zpl f hf l k;simp only[List.eraseIdx_cons_succ,List.map_cons,ZbQ];omega
theorem Zvp{α:Type}(f:α->Int):∀(l:List α)(i:Nat)(x y:α),l[i]?=some x->f y<=f x->ZbQ ((l.set i y).map f)<=ZbQ (l.map f)
 | [],i,x,y,h,_=>by simp at h
 | z::l,0,x,y,h,hf=>by simp at h;subst h;simp only[List.set_cons_zero,List.map_cons,ZbQ];omega
 | z::l,i+1,x,y,h,hf=>by have:=Zvp f l i x y (by simpa using h) hf;simp only[List.set_cons_succ,List.map_cons,ZbQ];omega
theorem Zrd{s:Sc}(h:s.light=true)(i k:Nat):(ZnO s i k).light=true:=by
 unfold ZnO
 split
 ·rename_i x hx
  have h1:s.weight<=20000:=of_decide_eq_true h
  refine decide_eq_true ?_
  unfold Sc.weight at h1 ⊢
  have h2:wS (Zhl x k)<=wS x:=Zpl wR Zyd x.rules k
  have h3:=Zvp wS s.states i x (Zhl x k) hx h2
  simp only[List.length_set]
  omega
 ·exact h
theorem Zre{s:Sc}(h:s.light=true):∀l:List Dd,(ZjQ s l).light=true:=by
 intro l
 induction l generalizing s with
 | nil=>exact h
 | cons d l ih=>exact ih (Zrd h _ _)
theorem Zyu{s s':Sc}(h:s'.er=s.er)(i k:Nat):(ZnO s' i k).er=(ZnO s i k).er:=by
 obtain⟨h1,h2⟩:=Zvn h
 cases hx:s.states[i]? with
 | none=>
  have hx':s'.states[i]?=none:=by
   have:=Zys h
   rw[List.getElem?_eq_none_iff]at hx ⊢;omega
  unfold ZnO;rw[hx,hx'];exact h
 | some x=>
  obtain⟨x',hx',he⟩:=Zyr h hx
  unfold ZnO;rw[hx,hx']
  exact Zsm h1 h2 (by rw[List.map_set,List.map_set,Zhm h,Zsn he])
def eqL{α:Type}(f:α->α->Bool):List α->List α->Bool
 | [],[]=>true
 | x::l,y::r=>f x y&&eqL f l r
 | _,_=>false
theorem Zsp{α:Type}{f:α->α->Bool}:∀{l r:List α},¬l.length=r.length->eqL f l r=false
 | [],[],h=>absurd rfl h
 | [],_::_,_=>rfl
 | _::_,[],_=>rfl
 | x::l,y::r,h=>by
  simp only[eqL];rw[Zsp (l:=l) (r:=r) (λe=>h (by simp[e])),Bool.and_false]
theorem Zwg{α:Type}{f:α->α->Bool}:∀{l r:List α} {i:Nat} {x y:α},l[i]?=some x->r[i]?=some y->f x y=false->eqL f l r=false
 | [],_,i,x,y,h,_,_=>by simp at h
 | _::_,[],i,x,y,_,h,_=>by simp at h
 | a::l,b::r,0,x,y,h,k,hf=>by simp at h k;subst h k;simp only[eqL,hf,Bool.false_and]
 | a::l,b::r,i+1,x,y,h,k,hf=>by
  simp only[eqL];rw[Zwg (l:=l) (r:=r) (i:=i) (by simpa using h) (by simpa using k) hf,Bool.and_false]
theorem Zn0{α:Type}{f:α->α->Bool}:∀{l r:List α} {i:Nat} {x y:α},l[i]?=some x->r[i]?=some y->eqL f (l.take i) (r.take i)=true->f x y=true->eqL f (l.take (i+1)) (r.take (i+1))=true
 | [],_,i,x,y,h,_,_,_=>by simp at h
 | _::_,[],i,x,y,_,h,_,_=>by simp at h
 | a::l,b::r,0,x,y,h,k,_,hf=>by simp at h k;subst h k;simp[eqL,hf]
 | a::l,b::r,i+1,x,y,h,k,ht,hf=>by
  simp only[List.take_succ_cons,eqL,Bool.and_eq_true]at ht ⊢
  exact⟨ht.1,Zn0 (l:=l) (r:=r) (by simpa using h) (by simpa using k) ht.2 hf⟩
theorem Zwh{α β:Type}{f:α->α->Bool}{er:α->β}:∀{l r:List α},l.map er=r.map er->(∀x∈l,∀y∈r,er x=er y->f x y=true)->eqL f l r=true
 | [],[],_,_=>rfl
 | [],_::_,h,_=>by simp at h
 | _::_,[],h,_=>by simp at h
 | x::l,y::r,h,hf=>by
  simp only[List.map_cons,List.cons.injEq]at h
  simp only[eqL,hf x (by simp) y (by simp) h.1,Bool.true_and]
  exact Zwh h.2 λa ha b hb=>hf a (by simp[ha]) b (by simp[hb])
def Zpm(p q:Pt):Bool:=p.k == q.k&&(eqS p.s q.s&&(p.g == q.g&&(p.e.light&&(q.e.light&&p.e.same q.e))))
def Zpn(p q:Ac):Bool:=p.k == q.k&&(eqS p.s q.s&&(eqL Zpm p.parts q.parts&&(p.e.light&&(q.e.light&&p.e.same q.e))))
def Zhn(p q:Ru):Bool:=p.k == q.k&&(p.bg == q.bg&&(p.en == q.en&&((p.t.light&&(q.t.light&&p.t.same q.t))&&(eqS p.s q.s&&(p.n == q.n&&(eqL Zpn p.acts q.acts&&(eqS p.go q.go&&p.code == q.code)))))))
def Zho(r:Ru):Bool:=decide (wR r<=19999)
mutual
theorem Zsq:∀t u:T,t.er=u.er->t.same u=true
 | .node k s0 s1 s2 s3 mn mx a c l,.node k' s0' s1' s2' s3' mn' mx' a' c' l',h=>by
  simp only[T.er,T.node.injEq]at h
  obtain⟨rfl,rfl,rfl,rfl,rfl,rfl,rfl,_,_,h⟩:=h
  rw[Zu8]
  simp only[T.k,T.s0,T.s1,T.s2,T.s3,T.mn,T.mx,T.subs,beq_self_eq_true,Bool.true_and]
  exact Zpo l l' h
theorem Zpo:∀l r:List T,erL l=erL r->Zfc l r=true
 | [],[],_=>by simp[Zfc]
 | [],_::_,h=>by simp[erL]at h
 | _::_,[],h=>by simp[erL]at h
 | t::l,u::r,h=>by
  simp only[erL,List.cons.injEq]at h
  simp only[Zfc,Zsq t u h.1,Zpo l r h.2,Bool.and_self]
end
mutual
theorem Zn1:∀t u:E,t.er=u.er->t.same u=true
 | .node k x s g a c l,.node k' x' s' g' a' c' l',h=>by
  simp only[E.er,E.node.injEq]at h
  obtain⟨rfl,rfl,rfl,rfl,_,_,h⟩:=h
  rw[Zr9]
  simp only[E.k,E.x,E.s,E.g,E.subs,beq_self_eq_true,Bool.true_and,Zr8]
  exact Zpp l l' h
theorem Zpp:∀l r:List E,ZxE l=ZxE r->ZcK l r=true
 | [],[],_=>by simp[ZcK]
 | [],_::_,h=>by simp[ZxE]at h
 | _::_,[],h=>by simp[ZxE]at h
 | t::l,u::r,h=>by
  simp only[ZxE,List.cons.injEq]at h
  simp only[ZcK,Zn1 t u h.1,Zpp l r h.2,Bool.and_self]
end
theorem Zpq{e f:E}(h:e.er=f.er):e.light=f.light:=by rw[<-Zhk e,h,Zhk]
theorem ZtY{e f:T}(h:e.er=f.er):e.light=f.light:=by rw[<-Zkz e,h,Zkz]
theorem Zwi{p q:Pt}(h:p.er=q.er)(hl:p.e.light=true):Zpm p q=true:=by
 simp only[Pt.er,Pt.mk.injEq]at h
 obtain⟨h1,h2,h3,h4⟩:=h
 simp only[Zpm,h1,h2,h3,Zme,beq_self_eq_true,Bool.true_and,hl,<-Zpq h4,Zn1 _ _ h4]
theorem Zwj{p q:Ac}(h:p.er=q.er)(hl:LtA p):Zpn p q=true:=by
 simp only[Ac.er,Ac.mk.injEq]at h
 obtain⟨h1,h2,_,_,h3,h4⟩:=h
 simp only[Zpn,h1,h2,Zme,beq_self_eq_true,Bool.true_and,hl.1,<-Zpq h4,Zn1 _ _ h4,Bool.and_true]
 exact Zwh h3 λx hx y _ he=>Zwi he (hl.2 x hx)
theorem Zwk{p q:Ru}(h:p.er=q.er)(hl:LtR p):Zhn p q=true:=by
 simp only[Ru.er,Ru.mk.injEq]at h
 obtain⟨h1,h2,h3,h4,h5,h6,_,_,h7,h8,h9⟩:=h
 simp only[Zhn,h1,h2,h3,h5,h6,h8,h9,Zme,beq_self_eq_true,Bool.true_and,hl.1,<-ZtY h4,Zsq _ _ h4,Bool.and_true]
 exact Zwh h7 λx hx y _ he=>Zwj he (hl.2 x hx)
theorem ZBr{p q:Ru}(h:p.er=q.er):wR p=wR q:=by rw[<-ZzP p,h,ZzP]
end Go.Rx
namespace Go.Rx
open Go
variable {P:Program}
theorem Zhp{n:Nat}(w:World)(t e ty:TypeId)(z:Value)(ht:P.underlying t=some (.slice e))(hv:∀w,(zeroValue e).run P w=.ok z w)(h1:∀u∈(Builtin.zeroCells z.cells n).toList,u.oneCell'=true)(b o c:Nat)(hn:0 < n)
  (hc:∀j,j < (Builtin.zeroCells z.cells n).toList.length->(w.cell? ⟨b,o+j,none⟩).isSome=true) (hf:∀j,j < (Builtin.zeroCells z.cells n).toList.length->w.frozen? ⟨b,o+j,none⟩=false):
  (Builtin.clear_ #[t] ty #[.slice (some ⟨b,o,none⟩) n c]).run P w=.ok (.tuple #[]) (w.setCells b o (Builtin.zeroCells z.cells n).toList):=by
 have dI:=run_storeCells_cells (P:=P) b o (Builtin.zeroCells z.cells n).toList 0 w (by simpa using hc) (by simpa using hf) h1
 simp only[Nat.add_zero]at dI
 obtain⟨m,rfl⟩:∃m,n=m+1:=⟨n - 1,by omega⟩
 simp[Builtin.clear_,run_underlying ht,hv,dI]
end Go.Rx
namespace Go.Rx
open Go Go.Proofs Go.Shelf Go.RowKit Go.Lib Go.Sort
set_option maxHeartbeats 4000000
set_option maxRecDepth 1000000
structure DelLay (P:Program)(ρ:Ren)(k:Nat)(z:Value):Prop where
 mixed:P.follows .mixedOrders=true
 f45:Bears P (ρ.f 45) (SlBodyN.n45 ρ)
 t0:P.underlying (ρ.t 0)=some (TypeDesc.tuple #[])
 a0:∀w,(Go.isAgg (ρ.t 0)).run P w=.ok false w
 z0:∀w,(Go.sizeOf (ρ.t 0)).run P w=.ok 1 w
 v0:∀w,(zeroValue (ρ.t 0)).run P w=.ok (Value.tuple #[]) w
 t3:P.underlying (ρ.t 3)=some (TypeDesc.int IntKind.i64)
 a3:∀w,(Go.isAgg (ρ.t 3)).run P w=.ok false w
 z3:∀w,(Go.sizeOf (ρ.t 3)).run P w=.ok 1 w
 v3:∀w,(zeroValue (ρ.t 3)).run P w=.ok (Value.int IntKind.i64 0) w
 t4:P.underlying (ρ.t 4)=some (TypeDesc.bool)
 a4:∀w,(Go.isAgg (ρ.t 4)).run P w=.ok false w
 z4:∀w,(Go.sizeOf (ρ.t 4)).run P w=.ok 1 w
 v4:∀w,(zeroValue (ρ.t 4)).run P w=.ok (Value.bool false) w
 t22:P.underlying (ρ.t 22)=some (TypeDesc.slice (ρ.t 23))
 a22:∀w,(Go.isAgg (ρ.t 22)).run P w=.ok false w
 z22:∀w,(Go.sizeOf (ρ.t 22)).run P w=.ok 1 w
 v22:∀w,(zeroValue (ρ.t 22)).run P w=.ok (Value.slice none 0 0) w
 z23:∀w,(Go.sizeOf (ρ.t 23)).run P w=.ok k w
 v23:∀w,(zeroValue (ρ.t 23)).run P w=.ok z w
theorem ZmS{P:Program}{ρ:Ren}{k:Nat}{z:Value}(L:DelLay P ρ k z)(i0:TypeInfo)(r6:P.info? (ρ.t 23)=some i0)(pg:i0.size=k)(hk:z.cells.size=k)
  (blk off n cap i j:Nat) (cs:List Value) (w:World) (aX:cs.length=n*k) (hH:∀(q:Nat)(u:Value),cs[q]?=some u->w.cell? ⟨blk,off+q,none⟩=some u/\w.frozen? ⟨blk,off+q,none⟩=false) (h1:∀u∈cs,u.oneCell'=true)
  (hz:∀m,∀u∈(Builtin.zeroCells z.cells m).toList,u.oneCell'=true)
  (dB:n<=cap) (hm:n<=9223372036854775807) (qw:i < j) (hj:j<=n):
  Calls P (ρ.f 45) #[.slice (some ⟨blk,off,none⟩) n cap,.int .i64 i,.int .i64 j] w λe w'=>e=.returned (.slice (some ⟨blk,off,none⟩) (n - (j - i)) cap)/\
   w'=(w.drew.setCells blk (off+i*k) (cs.drop (j*k))).setCells blk (off+(n - (j - i))*k) (Builtin.zeroCells z.cells (j - i)).toList:=by
 have mixed:=L.mixed;have t0:=L.t0;have a0:=L.a0;have z0:=L.z0;have v0:=L.v0;have t3:=L.t3;have a3:=L.a3;have z3:=L.z3;have v3:=L.v3;have t4:=L.t4;have a4:=L.a4;have z4:=L.z4;have v4:=L.v4;have t22:=L.t22;have a22:=L.a22;have z22:=L.z22;have v22:=L.v22;have z23:=L.z23
 obtain⟨Z,hZ⟩:∃Z,(Builtin.zeroCells z.cells (j - i)).toList=Z:=⟨_,rfl⟩
 rw[hZ]
 obtain⟨news,gp⟩:∃news,news=cs.drop (j*k):=⟨_,rfl⟩
 have mE:news.length=(n - j)*k:=by rw[gp,List.length_drop,aX,Nat.sub_mul]
 obtain⟨A,hA,r7⟩:∃A:Addr,(if cap=j then some (⟨blk,off,none⟩:Addr)else some ⟨blk,off+j*k,none⟩)=some A/\Hid (∀t u,news[t]?=some u->w.drew.cell? (A.add t)=some u):=by
  by_cases h:cap=j
  ·refine⟨⟨blk,off,none⟩,by simp[h],λt u hu=>?_⟩
   have h0:news.length=0:=by rw[mE,show n - j=0 by omega,Nat.zero_mul]
   rw[List.length_eq_zero_iff.1 h0]at hu
   simp at hu
  ·refine⟨⟨blk,off+j*k,none⟩,by simp[h],λt u hu=>?_⟩
   rw[gp,List.getElem?_drop]at hu
   rw[Addr.add_lit,Nat.add_assoc]
   exact(hH _ _ hu).1
 have s2:Hid (∀u∈news,u.oneCell'=true):=λu hu=>h1 u (by rw[gp]at hu;exact List.mem_of_mem_drop hu)
 have ls:(i+(n - j))*k=i*k+(n - j)*k:=Nat.add_mul _ _ _
 have bM:(i+(n - j))*k<=n*k:=Nat.mul_le_mul_right _ (by omega)
 have s3:Hid (∀t,t < news.length->(w.drew.cell? ⟨blk,off+i*k+t,none⟩).isSome=true/\w.drew.frozen? ⟨blk,off+i*k+t,none⟩=false):=by
  intro t ht
  rw[mE]at ht
  have hb:i*k+t < cs.length:=by rw[aX];omega
  have h:=hH (i*k+t) cs[i*k+t] (List.getElem?_eq_getElem hb)
  rw[<-Nat.add_assoc]at h
  exact⟨by show(w.cell? _).isSome=true;rw[h.1];rfl,h.2⟩
 have s1:Hid (news.length=(n - j)*k):=mE
 obtain⟨W1,qy⟩:∃W1,W1=w.drew.setCells blk (off+i*k) news:=⟨_,rfl⟩
 have hW:Hid (W1=w.drew.setCells blk (off+i*k) news):=qy
 have w7:i<=cap:=by omega
 have w8:j<=cap:=by omega
 have gx:∀ty,(Builtin.clear_ #[ρ.t 22] ty #[.slice (some ⟨blk,off+(i+(n - j))*k,none⟩) (n - (i+(n - j))) (cap - (i+(n - j)))]).run P W1=.ok (.tuple #[]) (W1.setCells blk (off+(i+(n - j))*k) Z):=by
  intro ty
  have hT:∀t,t < (Builtin.zeroCells z.cells (n - (i+(n - j)))).toList.length->(w.drew.cell? ⟨blk,off+((i+(n - j))*k+t),none⟩).isSome=true/\w.drew.frozen? ⟨blk,off+((i+(n - j))*k+t),none⟩=false:=by
   intro t ht
   have hl:(Builtin.zeroCells z.cells (n - (i+(n - j)))).toList.length=(n - (i+(n - j)))*k:=by simp[Builtin.zeroCells,hk,Nat.mul_comm]
   rw[hl,Nat.sub_mul]at ht
   have hb:(i+(n - j))*k+t < cs.length:=by rw[aX];omega
   have h:=hH _ _ (List.getElem?_eq_getElem hb)
   exact⟨by show(w.cell? _).isSome=true;rw[h.1];rfl,h.2⟩
  rw[<-hZ,show j - i=n - (i+(n - j)) by omega]
  exact Zhp W1 _ _ ty z t22 L.v23 (hz _) blk _ _ (by omega) (λt ht=>by rw[qy];exact World.isSome_setCells _ _ _ _ _ (by rw[Nat.add_assoc];exact(hT t ht).1)) (λt ht=>by rw[qy,World.frozen?_setCells,Nat.add_assoc];exact(hT t ht).2)
 have hN:Hid (news=cs.drop (j*k)):=gp
 clear qy ls bM gp mE hZ hz hk
 obtain⟨_,_,FG⟩:=L.f45
 go_enter FG,SlBodyN.n45_ntmps ρ
 go_wp2_with fail
 go_region_law_o (refine step_append_room rfl (.tmp 22) (.tmp 25) (ρ.t 22) rfl (ρ.t 23) i0 k t22 r6 pg blk off i cap (by simp[Act.eval,Act.put]) A (n - j) (cap - j) news (by simp[Act.eval,Act.put]) s1.out r7.out s2.out (by omega) s3.out ?_;rw[<-hW.out])
 go_wp2
 go_ret
 refine⟨by rw[show n - (j - i)=i+(n - j) by omega];rfl,?_⟩
 rw[hW.out,hN.out,show n - (j - i)=i+(n - j) by omega]
end Go.Rx
namespace Go.Rx
open Go Go.Eng Go.RowKit Go.Shelf
theorem Zgi(b:Nat):∀(vs:List Value)(o:Nat)(w:World),(w.setCells b o vs).os=w.os/\(w.setCells b o vs).tape=w.tape/\(w.setCells b o vs).output=w.output/\(w.setCells b o vs).heap.size=w.heap.size
 | [],_,_=>⟨rfl,rfl,rfl,rfl⟩
 | v::r,o,w=>by
  obtain⟨h1,h2,h3,h4⟩:=Zgi b r (o+1) (w.setCell ⟨b,o,none⟩ v)
  exact⟨h1,h2,h3,h4.trans (by simp[World.setCell])⟩
theorem Zc0(b:Nat){k:Nat}(hk:k≠b):∀(vs:List Value)(o:Nat)(w:World),(w.setCells b o vs).heap[k]?=w.heap[k]?
 | [],_,_=>rfl
 | v::r,o,w=>by
  rw[World.setCells,Zc0 b hk r (o+1)]
  simp[World.setCell,Array.getElem?_modify,Ne.symm hk]
theorem Zez(b:Nat):∀(vs:List Value)(o:Nat)(w:World){c:Array Value}{T:TypeId}{fr:Nat×Nat},w.heap[b]?=some (.cells c T fr)->∃c':Array Value,(w.setCells b o vs).heap[b]?=some (.cells c' T fr)/\c'.size=c.size
 | [],_,_,c,_,_,h=>⟨c,h,rfl⟩
 | v::r,o,w,c,T,fr,h=>by
  have h1:(w.setCell ⟨b,o,none⟩ v).heap[b]?=some (.cells (c.setIfInBounds o v) T fr):=by
   simp[World.setCell,Array.getElem?_modify,h]
  obtain⟨c',h2,h3⟩:=Zez b r (o+1) (w.setCell ⟨b,o,none⟩ v) h1
  exact⟨c',h2,by rw[h3];simp⟩
theorem Zhq(b o:Nat)(vs:List Value)(w:World){c:Array Value}{T:TypeId}{fr:Nat×Nat}(h:w.heap[b]?=some (.cells c T fr)):Upd (λk=>k=b) w (w.setCells b o vs):=by
 obtain⟨h1,h2,h3,h4⟩:=Zgi b vs o w
 refine⟨h1,h2,h3,by omega,λk _ hk=>Zc0 b hk vs o w,λk hk hw=>?_⟩
 by_cases e:k=b
 ·subst e
  obtain⟨c',h5,h6⟩:=Zez k vs o w h
  intro c2 T2 fr2 hh q hq
  rw[h5]at hh
  simp only[Option.some.injEq,Obj.cells.injEq]at hh
  obtain⟨rfl,rfl,rfl⟩:=hh
  exact hw c T fr h q (by omega)
 ·exact hw.of_eq (Zc0 b e vs o w)
theorem Upd.tr{M:Nat->Prop}{a b c:World}(h:Upd M a b)(k:Upd M b c):Upd M a c:=
 ⟨k.os.trans h.os,k.tape.trans h.tape,k.output.trans h.output,Nat.le_trans h.size k.size,λq hq hm=>(k.block q (Nat.lt_of_lt_of_le hq h.size) hm).trans (h.block q hq hm),λq hq hw=>k.wr q (Nat.lt_of_lt_of_le hq h.size) (h.wr q hq hw)⟩
theorem Zmj{α:Type}{cs:α->List Value}{n:Nat}(hn:∀x,(cs x).length=n):∀(l:List α)(i:Nat),((l.eraseIdx i).map cs).flatten=(l.map cs).flatten.take (i*n)++(l.map cs).flatten.drop ((i+1)*n)
 | [],_=>by simp
 | x::l,0=>by
  simp only[List.eraseIdx_zero,List.tail_cons,List.map_cons,List.flatten_cons,Nat.zero_mul,List.take_zero,List.nil_append,Nat.zero_add,Nat.one_mul]
  rw[<-hn x,List.drop_left]
 | x::l,i+1=>by
  have e1:(i+1)*n=(cs x).length+i*n:=by rw[hn,Nat.succ_mul];omega
  have e2:(i+1+1)*n=(cs x).length+(i+1)*n:=by rw[hn,Nat.succ_mul (i+1)];omega
  simp only[List.eraseIdx_cons_succ,List.map_cons,List.flatten_cons]
  have e3:((cs x)++(l.map cs).flatten).take ((i+1)*n)=cs x++(l.map cs).flatten.take (i*n):=by rw[e1,List.take_length_add_append]
  have e4:((cs x)++(l.map cs).flatten).drop ((i+1+1)*n)=(l.map cs).flatten.drop ((i+1)*n):=by rw[e2,List.drop_length_add_append]
  rw[Zmj hn l i,e3,e4,List.append_assoc]
theorem ZtZ{P:Program}{ρ:Ren}{k:Nat}{z:Value}(L:DelLay P ρ k z)(i0:TypeInfo)(r6:P.info? (ρ.t 23)=some i0)(pg:i0.size=k)(hk:z.cells.size=k)(j4:Zfi P (ρ.f 45))(h0:0 < k)
  (rV:(Builtin.zeroCells z.cells 1).toList=z.cells.toList) (vD:∀m,∀u∈(Builtin.zeroCells z.cells m).toList,u.oneCell'=true)
  {α:Type} {cs:α->List Value} (hn:∀x,(cs x).length=k) (h1:∀x,∀u∈cs x,u.oneCell'=true) (l:List α) (b c i:Nat) (T:TypeId) (cap:Nat) (m:Mem) (hi:i < l.length) (hc:l.length<=c) (hm:l.length<=9223372036854775807):
  CX P (ρ.f 45) #[.slice (some ⟨b,0,none⟩) l.length c,.int .i64 i,.int .i64 (i+1:Nat)] m [⟨b,(l.map cs).flatten,T,cap,false,false⟩] (λv m' css=>v=.slice (some ⟨b,0,none⟩) (l.length - 1) c/\css=[((l.eraseIdx i).map cs).flatten++z.cells.toList]):=by
 refine⟨j4,λw hs hX _=>?_⟩
 obtain⟨eM,_⟩:=hX _ (List.mem_singleton.2 rfl)
 have iF:=eM.wr
 have aX:(l.map cs).flatten.length=l.length*k:=ZaT hn l
 have iG:0 < l.length*k:=Nat.mul_pos (by omega) h0
 obtain⟨sp,fr,vE,r8,r9⟩:=eM.cells
 obtain⟨cur,il⟩:∃cur,cur=((l.map cs).flatten++sp).toArray:=⟨_,rfl⟩
 have hh:w.heap[b]?=some (.cells cur T fr):=by rw[il];exact vE
 have cE:∀(q:Nat)(u:Value),(l.map cs).flatten[q]?=some u->w.cell? ⟨b,q,none⟩=some u:=λq u hu=>eM.cell hu
 have aP:∀q,q < l.length*k->q < cur.size:=λq hq=>by
  have:=cE q _ (List.getElem?_eq_getElem (by omega))
  simp only[World.cell?,hh,Option.isSome_none,Bool.false_eq_true,if_false]at this
  exact(Array.getElem?_eq_some_iff.1 this).1
 have hH:∀(q:Nat)(u:Value),(l.map cs).flatten[q]?=some u->w.cell? ⟨b,0+q,none⟩=some u/\w.frozen? ⟨b,0+q,none⟩=false:=λq u hu=>by
  rw[Nat.zero_add]
  refine⟨cE q u hu,?_⟩
  have hq:=(List.getElem?_eq_some_iff.1 hu).1
  have h2:=iF cur T fr hh q (aP q (by omega))
  obtain⟨f1,f2⟩:=fr
  simp only[World.frozen?,hh,Bool.and_eq_false_iff,decide_eq_false_iff_not]
  simp only at h2
  omega
 have h1':∀u∈(l.map cs).flatten,u.oneCell'=true:=λu hu=>by
  simp only[List.mem_flatten,List.mem_map]at hu
  obtain⟨_,⟨x,_,rfl⟩,hu⟩:=hu
  exact h1 x u hu
 refine(ZmS L i0 r6 pg hk b 0 l.length c i (i+1) (l.map cs).flatten w aX hH h1' vD hc hm (by omega) (by omega)).mono ?_
 rintro e w' ⟨rfl,rfl⟩
 rw[show i+1 - i=1 by omega,Nat.zero_add,Nat.zero_add,rV]
 obtain⟨news,gp⟩:∃news,news=(l.map cs).flatten.drop ((i+1)*k):=⟨_,rfl⟩
 rw[<-gp]
 have jK:(i+1)*k<=l.length*k:=Nat.mul_le_mul_right _ (by omega)
 have vF:(i+1)*k=i*k+k:=Nat.succ_mul i k
 have mE:news.length=l.length*k - (i+1)*k:=by rw[gp,List.length_drop,aX]
 have ln:(l.length - 1)*k+k=l.length*k:=by
  have:l.length=l.length - 1+1:=by omega
  rw[this,Nat.succ_mul];rfl
 have tX:w.drew.heap[b]?=some (.cells cur T fr):=hh
 obtain⟨c1,g1,g2⟩:=Zez b news (i*k) w.drew tX
 obtain⟨c2,g3,g4⟩:=Zez b z.cells.toList ((l.length - 1)*k) (w.drew.setCells b (i*k) news) g1
 have jW:Upd (λq=>q=b) w w.drew:=⟨rfl,rfl,rfl,Nat.le_refl _,λ_ _ _=>rfl,λ_ _ h=>h⟩
 have hU:=Upd.tr (Upd.tr jW (Zhq b (i*k) news w.drew tX)) (Zhq b ((l.length - 1)*k) z.cells.toList _ g1)
 have iv:z.cells.toList.length=k:=by simpa using hk
 have fG:(((l.eraseIdx i).map cs).flatten++z.cells.toList).length=l.length*k:=by
  rw[List.length_append,iv,ZaT hn,List.length_eraseIdx,if_pos hi];exact ln
 have some1:∀q,q < cur.size->(w.drew.cell? ⟨b,q,none⟩).isSome=true:=λq hq=>by
  show(w.cell? ⟨b,q,none⟩).isSome=true
  simp[World.cell?,hh,hq]
 have some2:∀q,q < cur.size->((w.drew.setCells b (i*k) news).cell? ⟨b,q,none⟩).isSome=true:=λq hq=>by
  simp[World.cell?,g1,g2,hq]
 have at_:∀q,((w.drew.setCells b (i*k) news).setCells b ((l.length - 1)*k) z.cells.toList).cell? ⟨b,q,none⟩=if q < l.length*k then(((l.eraseIdx i).map cs).flatten++z.cells.toList)[q]? else w.cell? ⟨b,q,none⟩:=λq=>by
  have tY:((l.eraseIdx i).map cs).flatten.length=(l.length - 1)*k:=by rw[ZaT hn,List.length_eraseIdx,if_pos hi]
  by_cases hq:q < l.length*k
  ·rw[if_pos hq]
   by_cases ov:(l.length - 1)*k<=q
   ·have:=World.cell?_setCells_in b z.cells.toList ((l.length - 1)*k) (w.drew.setCells b (i*k) news) (λj hj=>some2 _ (aP _ (by omega))) (q - (l.length - 1)*k) (by omega)
    rw[show(l.length - 1)*k+(q - (l.length - 1)*k)=q by omega]at this
    rw[this,List.getElem?_append_right (by omega),tY]
    exact(List.getElem?_eq_getElem _).symm
   ·rw[World.cell?_setCells_out b _ _ _ _ (λ_ _=>.inl (by show q < _;omega)),List.getElem?_append_left (by omega),Zmj hn]
    by_cases ow:i*k<=q
    ·have:=World.cell?_setCells_in b news (i*k) w.drew (λj hj=>some1 _ (aP _ (by omega))) (q - i*k) (by omega)
     rw[show i*k+(q - i*k)=q by omega]at this
     have i7:((l.map cs).flatten.take (i*k)).length=i*k:=by rw[List.length_take,aX];omega
     rw[this,List.getElem?_append_right (by omega),i7,<-gp]
     exact(List.getElem?_eq_getElem _).symm
    ·have i7:((l.map cs).flatten.take (i*k)).length=i*k:=by rw[List.length_take,aX];omega
     rw[World.cell?_setCells_out b _ _ _ _ (λ_ _=>.inl (by show q < _;omega)),List.getElem?_append_left (by omega),List.getElem?_take_of_lt (by omega)]
     have oz:q < (l.map cs).flatten.length:=by omega
     rw[List.getElem?_eq_getElem oz]
     exact cE q _ (List.getElem?_eq_getElem oz)
  ·rw[if_neg hq,World.cell?_setCells_out b _ _ _ _ (λ_ _=>.inr (by show _<=q;omega)),World.cell?_setCells_out b _ _ _ _ (λ_ _=>.inr (by show _<=q;omega))]
   rfl
 obtain⟨full,jj⟩:∃full,full=((l.eraseIdx i).map cs).flatten++z.cells.toList:=⟨_,rfl⟩
 rw[<-jj]at fG ⊢
 rw[<-jj]at at_
 have mP:((l.map cs).flatten++sp).length=l.length*k+sp.length:=by rw[List.length_append,aX]
 have sb:c2=(full++sp).toArray:=by
  refine Array.ext' (List.ext_getElem? λq=>?_)
  have h5:=at_ q
  simp only[World.cell?,g3,hh,Option.isSome_none,Bool.false_eq_true,if_false]at h5
  rw[Array.getElem?_toList,h5]
  by_cases hq:q < l.length*k
  ·rw[if_pos hq,List.getElem?_append_left (by rw[fG];exact hq)]
  ·rw[if_neg hq,List.getElem?_append_right (by rw[fG];omega),fG,il]
   simp only[List.getElem?_toArray]
   rw[List.getElem?_append_right (by rw[aX];omega),aX]
 have hb:∀q,q≠b->((w.drew.setCells b (i*k) news).setCells b ((l.length - 1)*k) z.cells.toList).heap[q]?=w.heap[q]?:=λq hq=>(Zc0 b hq _ _ _).trans (Zc0 b hq _ _ w.drew)
 refine⟨_,m,[full],rfl,Mem.le_refl m,⟨λb1 o1 v hv=>?_,λb1 e he=>?_⟩,NewM.refl _ _,⟨hU.os,hU.tape,hU.output,hU.size,λq _ hn=>hb q (by simpa using hn),hU.wr⟩,rfl,λi' x cs' hx cN=>?_,rfl,rfl⟩
 ·have dJ:b1≠b:=λe=>by
   subst e
   rw[eM.free rfl o1]at hv;cases hv
  rw[<-hs _ _ _ hv]
  exact Zci (hb b1 dJ) o1
 ·have:=hs.k b1 e he
  have dJ:b1≠b:=λe=>by
   subst e
   obtain⟨es,cl,h8,_⟩:=this
   rw[hh]at h8;cases h8
  exact this.same (hb b1 dJ)
 ·cases i' with
  | succ n=>simp at hx
  | zero=>
   simp at hx cN
   subst hx cN
   refine⟨⟨sp,fr,by rw[<-sb];exact g3,?_,?_⟩,λ_=>eM.free rfl,λh=>(by cases h),λh=>(by cases h)⟩
   ·have dB:((l.map cs).flatten++sp).length=cap:=r8
    show(full++sp).length=cap
    rw[<-dB,mP,List.length_append,fG]
   ·exact r9
end Go.Rx
namespace Go.Rx
open Go Go.Eng Go.RowKit
def ZdG(j:Nat)(r:Ru):Bool:=r.k == 4&&r.n == (j:Int)
def Zyv(l:List Ru)(j:Nat):Option Nat:=l.findIdx? (ZdG j)
def Zdk(l:List Ru):Nat->Option Nat
 | 0=>none
 | t+1=>match Zdk l t with
  | some k=>some k
  | none=>Zyv l (t+1)
def Zsr(l:List Ru):Option Nat:=l.findIdx? ZxD
def Zd2(l:List Ru)(t:Nat):Option Nat:=match Zdk l t with
 | some k=>some k
 | none=>Zsr l
def ZeI(l:List Ru)(t:Nat):Int:=match Zd2 l t with
 | some k=>k
 | none=>-1
theorem Zss{l:List Ru}{t k:Nat}(h:Zdk l t=some k):∀n,Zdk l (t+n)=some k
 | 0=>h
 | n+1=>by rw[<-Nat.add_assoc];simp only[Zdk,Zss h n]
theorem Zwl{l:List Ru}{t k t':Nat}(h:Zdk l t=some k)(ht:t<=t'):Zdk l t'=some k:=by
 obtain⟨n,rfl⟩:=Nat.le.dest ht;exact Zss h n
theorem ZkE{α:Type}{p:α->Bool}{l:List α}{k:Nat}{x:α}(hx:l[k]?=some x)(hp:p x=true)(hn:∀(i:Nat) y,i < k->l[i]?=some y->p y=false):l.findIdx? p=some k:=by
 rw[List.findIdx?_eq_some_iff_getElem]
 obtain⟨h1,h2⟩:=List.getElem?_eq_some_iff.1 hx
 exact⟨h1,by rw[h2];exact hp,λj hj=>by
  have:=hn j l[j] hj (List.getElem?_eq_getElem (by omega))
  simp[this]⟩
theorem ZfC{α:Type}{p:α->Bool}{l:List α}(hn:∀(i:Nat) y,l[i]?=some y->p y=false):l.findIdx? p=none:=by
 rw[List.findIdx?_eq_none_iff]
 intro x hx
 obtain⟨i,hi⟩:=List.getElem?_of_mem hx
 simp[hn i x hi]
theorem Zrf{α:Type}{p:α->Bool}{l:List α}{k:Nat}(h:l.findIdx? p=some k):(∃x,l[k]?=some x/\p x=true)/\∀(i:Nat) y,i < k->l[i]?=some y->p y=false:=by
 rw[List.findIdx?_eq_some_iff_getElem]at h
 obtain⟨h1,h2,h3⟩:=h
 refine⟨⟨l[k],List.getElem?_eq_getElem h1,h2⟩,λi y hi hy=>?_⟩
 have:=h3 i hi
 obtain⟨h4,h5⟩:=List.getElem?_eq_some_iff.1 hy
 rw[h5]at this;simpa using this
theorem Zvq{α:Type}{p:α->Bool}{l:List α}(h:l.findIdx? p=none):∀(i:Nat) y,l[i]?=some y->p y=false:=λi y hy=>by
 rw[List.findIdx?_eq_none_iff]at h
 have:=h y (List.mem_of_getElem? hy);simpa using this
theorem ZfD{l:List Ru}:∀{t k:Nat},Zdk l t=some k->∃j r,1<=j/\j<=t/\l[k]?=some r/\r.k=4/\r.n=(j:Int)/\(∀(i:Nat) y,i < k->l[i]?=some y->ZdG j y=false)/\∀(j' i:Nat)(y:Ru),1<=j'->j' < j->l[i]?=some y->ZdG j' y=false
 | 0,k,h=>by cases h
 | t+1,k,h=>by
  simp only[Zdk]at h
  cases hu:Zdk l t with
  | some k'=>
   rw[hu]at h;cases h
   obtain⟨j,r,h1,h2,h3⟩:=ZfD hu
   exact⟨j,r,h1,by omega,h3⟩
  | none=>
   rw[hu]at h
   obtain⟨⟨r,h1,h2⟩,h3⟩:=Zrf h
   simp only[ZdG,Bool.and_eq_true,beq_iff_eq]at h2
   refine⟨t+1,r,by omega,Nat.le_refl _,h1,h2.1,h2.2,h3,?_⟩
   have none:∀t,Zdk l t=none->∀(j' i:Nat)(y:Ru),1<=j'->j'<=t->l[i]?=some y->ZdG j' y=false:=by
    intro t
    induction t with
    | zero=>intro _ j' i y h1 h2;omega
    | succ t ih=>
     intro hu j' i y h1 h2 hy
     simp only[Zdk]at hu
     cases kp:Zdk l t with
     | some k=>rw[kp]at hu;cases hu
     | none=>
      rw[kp]at hu
      by_cases hj:j'=t+1
      ·subst hj;exact Zvq hu i y hy
      ·exact ih kp j' i y h1 (by omega) hy
   exact λj' i y h1 h2 hy=>none t hu j' i y h1 (by omega) hy
theorem Zis{l:List Ru}:∀{t:Nat},Zdk l t=none->∀(j' i:Nat)(y:Ru),1<=j'->j'<=t->l[i]?=some y->ZdG j' y=false
 | 0,_,j',i,y,h1,h2,_=>by omega
 | t+1,hu,j',i,y,h1,h2,hy=>by
  simp only[Zdk]at hu
  cases kp:Zdk l t with
  | some k=>rw[kp]at hu;cases hu
  | none=>
   rw[kp]at hu
   by_cases hj:j'=t+1
   ·subst hj;exact Zvq hu i y hy
   ·exact Zis kp j' i y h1 (by omega) hy
theorem Zdu{l:List Ru}{cnt:Ru->Bool}{key:Ru->Int}:∀{i t:Nat} {z:Ru},Zfe l cnt key i=some t->l[t]?=some z->∀(j:Nat) y,j < i->l[j]?=some y->cnt y=true->key z<=key y/\(j < t->key z < key y)
 | 0,t,z,h,_,j,y,hj,_,_=>by omega
 | i+1,t,z,h,hz,j,y,hj,hy,hc=>by
  rw[Zfe]at h
  split at h
  ·rename_i hi
   by_cases e:j=i
   ·subst e;rw[hi]at hy;cases hy
   ·exact Zdu h hz j y (by omega) hy hc
  ·rename_i x hx
   split at h
   ·rename_i hb
    obtain rfl:i=t:=by simpa using h
    rw[hx]at hz;cases hz
    by_cases e:j=i
    ·subst e;rw[hx]at hy;cases hy;exact⟨Int.le_refl _,λh=>by omega⟩
    ·rw[Bool.and_eq_true]at hb
     cases ho:Zfe l cnt key i with
     | none=>have:=ZcZ ho j y (by omega) hy;rw[hc]at this;cases this
     | some u=>
      obtain⟨_,w,hw,_⟩:=ZaS ho
      have h1:=Zdu ho hw j y (by omega) hy hc
      have h2:=hb.2
      rw[ho]at h2
      simp only[Zvl,hw,decide_eq_true_eq]at h2
      exact⟨by omega,λ_=>by omega⟩
   ·rename_i hb
    by_cases e:j=i
    ·subst e;rw[hx]at hy;cases hy
     rw[hc,Bool.true_and,h]at hb
     have ht:=(ZaS h).1
     simp only[Zvl,hz,decide_eq_true_eq]at hb
     exact⟨by omega,λ_=>by omega⟩
    ·exact Zdu h hz j y (by omega) hy hc
theorem Zwm{x:Sta}:Zsr x.rules=eoO x:=by
 unfold Zsr eoO ZBn
 cases h:Zfe x.rules ZxD ZBo x.rules.length with
 | none=>exact ZfC λi y hy=>ZcZ h i y (List.getElem?_eq_some_iff.1 hy).1 hy
 | some k=>
  obtain⟨hk,z,hz,hc⟩:=ZaS h
  refine ZkE hz hc λi y hi hy=>?_
  cases hb:ZxD y with
  | false=>rfl
  | true=>
   have:=(Zdu h hz i y (by omega) hy hb).2 hi
   simp[ZBo]at this
def ZBa(x:Sta):Prop:=∀(k:Nat)(r:Ru),x.rules[k]?=some r->r.k=4->1<=r.n
theorem Zst{x:Sta}(hx:ZBa x)(t:Nat):Zd2 x.rules t=match toO x with
  | some k=>(match x.rules[k]? with
   | some r=>if r.n<=t then some k else eoO x
   | none=>eoO x)
  | none=>eoO x:=by
 unfold Zd2
 rw[Zwm]
 cases hu:Zdk x.rules t with
 | some k=>
  obtain⟨j,r,h1,h2,hk,h4,hn,hf,hl⟩:=ZfD hu
  have e:toO x=some k:=by
   cases ho:toO x with
   | none=>
    have:=ZcZ ho k r (List.getElem?_eq_some_iff.1 hk).1 hk
    simp[ZzM,h4]at this
   | some u=>
    obtain⟨_,z,hz,hc⟩:=ZaS ho
    have nR:z.k=4:=by simpa[ZzM]using hc
    have oN:=hx u z hz nR
    have h5:=Zdu ho hz k r (List.getElem?_eq_some_iff.1 hk).1 hk (by simp[ZzM,h4])
    simp only[ZBN]at h5
    have h6:z.n=(j:Int):=by
     rcases(show z.n < (j:Int)\/(j:Int)<=z.n by omega)with aP|bX
     ·have:=hl z.n.toNat u z (by omega) (by omega) hz
      simp only[ZdG,nR,beq_self_eq_true,Bool.true_and,beq_eq_false_iff_ne]at this
      omega
     ·omega
    have h7:¬k < u:=λh=>by have:=h5.2 h;omega
    have h8:¬u < k:=λh=>by
     have:=hf u z h hz
     simp[ZdG,nR,h6]at this
    rw[show u=k by omega]
  rw[e]
  show some k=match x.rules[k]? with|some r=>_|none=>_
  rw[hk]
  show some k=if r.n<=t then _ else _
  rw[if_pos (by omega)]
 | none=>
  cases ho:toO x with
  | none=>rfl
  | some u=>
   obtain⟨_,z,hz,hc⟩:=ZaS ho
   have nR:z.k=4:=by simpa[ZzM]using hc
   have oN:=hx u z hz nR
   show eoO x=match x.rules[u]? with|some r=>_|none=>_
   rw[hz]
   show eoO x=if z.n<=t then _ else _
   rw[if_neg]
   intro bM
   have:=Zis hu z.n.toNat u z (by omega) (by omega) hz
   simp only[ZdG,nR,beq_self_eq_true,Bool.true_and,beq_eq_false_iff_ne]at this
   omega
def ZxB(x:Sta)(j:Nat):Nat:=(ZdU x j).length
theorem Zpr{x:Sta}{j:Nat}:∀{n:Nat},j<=n->∃r,ZdU x n=ZdU x j++r
 | 0,h=>⟨[],by rw[show j=0 by omega];simp⟩
 | n+1,h=>by
  by_cases e:j=n+1
  ·exact⟨[],by rw[e];simp⟩
  ·obtain⟨r,hr⟩:=Zpr (x:=x) (j:=j) (n:=n) (by omega)
   rw[ZdU,hr];exact⟨_,List.append_assoc _ _ _⟩
theorem ZkF{x:Sta}{j n:Nat}{r:Ru}(hj:j < n)(h:x.rules[j]?=some r)(hd:Zcw x j r=false):(ZdU x n)[ZxB x j]?=some r:=by
 obtain⟨l,e⟩:=Zpr (x:=x) (j:=j+1) (n:=n) hj
 have h2:ZdU x (j+1)=ZdU x j++[r]:=by simp[ZdU,h,hd]
 unfold ZxB
 rw[e,h2,List.append_assoc,List.getElem?_append_right (Nat.le_refl _)]
 simp
theorem Zeg{x:Sta}:∀{n i:Nat} {r:Ru},(ZdU x n)[i]?=some r->∃j,j < n/\x.rules[j]?=some r/\Zcw x j r=false/\ZxB x j=i
 | 0,i,r,h=>by simp[ZdU]at h
 | n+1,i,r,h=>by
  rw[ZdU]at h
  by_cases hi:i < (ZdU x n).length
  ·rw[List.getElem?_append_left hi]at h
   obtain⟨j,h1,h2⟩:=Zeg h
   exact⟨j,by omega,h2⟩
  ·rw[List.getElem?_append_right (by omega)]at h
   split at h
   ·rename_i r' hr
    split at h
    ·simp at h
    ·rename_i hd
     have:i - (ZdU x n).length=0:=by
      have:=(List.getElem?_eq_some_iff.1 h).1;simp at this;omega
     rw[this]at h
     obtain rfl:r'=r:=by simpa using h
     exact⟨n,by omega,hr,by simpa using hd,by unfold ZxB;omega⟩
   ·simp at h
theorem Zvr{x:Sta}{j:Nat}{r:Ru}(h:Zcw x j r=false)(h4:r.k=4):(j:Int)=Zrc (toO x):=by
 unfold Zcw at h
 simp only[h4,beq_self_eq_true,Bool.true_and,Bool.or_eq_false_iff]at h
 simpa using h.1
theorem Zyw{x:Sta}{j:Nat}{r:Ru}(h:Zcw x j r=false)(h4:r.k=3):(j:Int)=Zrc (eoO x):=by
 unfold Zcw at h
 simp only[h4,beq_self_eq_true,Bool.true_and,Bool.or_eq_false_iff]at h
 simpa using h.2
theorem Zvs{x:Sta}{k:Nat}{r:Ru}(h:toO x=some k)(hr:x.rules[k]?=some r):r.k=4/\Zcw x k r=false:=by
 obtain⟨_,z,hz,hc⟩:=ZaS h
 rw[hr]at hz;cases hz
 have h4:r.k=4:=by simpa[ZzM]using hc
 refine⟨h4,?_⟩
 unfold Zcw
 rw[h,h4]
 simp[Zrc]
theorem Zvt{x:Sta}{k:Nat}{r:Ru}(h:eoO x=some k)(hr:x.rules[k]?=some r):r.k=3/\Zcw x k r=false:=by
 obtain⟨_,z,hz,hc⟩:=ZaS h
 rw[hr]at hz;cases hz
 have h4:r.k=3:=by simpa[ZxD]using hc
 refine⟨h4,?_⟩
 unfold Zcw
 rw[h,h4]
 simp[Zrc]
theorem Zt0{x:Sta}(hx:ZBa x)(t:Nat):Zd2 (Zmi x).rules t=(Zd2 x.rules t).map (ZxB x):=by
 have hE:Zsr (Zmi x).rules=(eoO x).map (ZxB x):=by
  unfold Zsr
  cases ho:eoO x with
  | none=>
   refine ZfC λi y hy=>?_
   obtain⟨j,hj,h1,_⟩:=Zeg hy
   exact ZcZ ho j y hj h1
  | some e=>
   obtain⟨he,z,hz,hc⟩:=ZaS ho
   obtain⟨h3,hd⟩:=Zvt ho hz
   refine ZkE (ZkF he hz hd) hc λi y hi hy=>?_
   cases hb:ZxD y with
   | false=>rfl
   | true=>
    obtain⟨j,hj,h1,h2,h4⟩:=Zeg hy
    have:=Zyw h2 (by simpa[ZxD]using hb)
    rw[ho]at this
    have:j=e:=Int.ofNat.inj (by simpa[Zrc]using this)
    subst this;omega
 rw[Zst hx]
 unfold Zd2
 rw[hE]
 have no:(∀k r,toO x=some k->x.rules[k]?=some r->¬r.n<=t)->Zdk (Zmi x).rules t=none:=by
  intro h
  cases hu:Zdk (Zmi x).rules t with
  | none=>rfl
  | some i=>
   obtain⟨j,r,h1,h2,hk,h4,hn,_⟩:=ZfD hu
   obtain⟨u,jW,kp,se,_⟩:=Zeg hk
   cases ho:toO x with
   | none=>
    have:=ZcZ ho u r jW kp
    simp[ZzM,h4]at this
   | some k=>
    have:=Zvr se h4
    rw[ho]at this
    obtain rfl:u=k:=Int.ofNat.inj (by simpa[Zrc]using this)
    exact absurd (by omega) (h u r ho kp)
 cases ho:toO x with
 | none=>rw[no (by rw[ho];intro k r h;cases h)]
 | some k=>
  obtain⟨hk,z,hz,hc⟩:=ZaS ho
  obtain⟨h4,hd⟩:=Zvs ho hz
  show _=Option.map (ZxB x) (match x.rules[k]? with|some r=>_|none=>_)
  rw[hz]
  show _=Option.map (ZxB x) (if z.n<=t then some k else eoO x)
  by_cases bM:z.n<=t
  ·rw[if_pos bM]
   have iv:=ZkF hk hz hd
   cases hu:Zdk (Zmi x).rules t with
   | none=>
    have pg:=hx k z hz h4
    have:=Zis hu z.n.toNat _ z (by omega) (by omega) iv
    simp only[ZdG,h4,beq_self_eq_true,Bool.true_and,beq_eq_false_iff_ne]at this
    omega
   | some i=>
    obtain⟨j,r,_,_,hr,nJ,_,_⟩:=ZfD hu
    obtain⟨u,jW,kp,se,vG⟩:=Zeg hr
    have:=Zvr se nJ
    rw[ho]at this
    obtain rfl:u=k:=Int.ofNat.inj (by simpa[Zrc]using this)
    rw[<-vG];rfl
  ·rw[if_neg bM,no λk' r' e h=>?_]
   rw[ho]at e;cases e
   rw[hz]at h;cases h
   exact bM
theorem Zrg{x:Sta}(hx:ZBa x){t a:Nat}(h:Zd2 x.rules t=some a):∃r,x.rules[a]?=some r/\Zcw x a r=false/\(Zmi x).rules[ZxB x a]?=some r:=by
 rw[Zst hx]at h
 have eo:eoO x=some a->∃r,x.rules[a]?=some r/\Zcw x a r=false/\(Zmi x).rules[ZxB x a]?=some r:=by
  intro he
  obtain⟨hk,z,hz,hc⟩:=ZaS he
  obtain⟨_,hd⟩:=Zvt he hz
  exact⟨z,hz,hd,ZkF hk hz hd⟩
 cases ho:toO x with
 | none=>rw[ho]at h;exact eo h
 | some k=>
  rw[ho]at h
  obtain⟨hk,z,hz,hc⟩:=ZaS ho
  have h:(match x.rules[k]? with|some r=>if r.n<=(t:Int)then some k else eoO x|none=>eoO x)=some a:=h
  rw[hz]at h
  have h:(if z.n<=(t:Int)then some k else eoO x)=some a:=h
  split at h
  ·cases h
   obtain⟨_,hd⟩:=Zvs ho hz
   exact⟨z,hz,hd,ZkF hk hz hd⟩
  ·exact eo h
theorem Zwn{l l':List Ru}(h:l'.map Ru.er=l.map Ru.er)(t:Nat):Zd2 l' t=Zd2 l t:=by
 have h1:∀(L:List Ru) j,Zyv (L.map Ru.er) j=Zyv L j:=λL j=>by
  unfold Zyv;rw[List.findIdx?_map];rfl
 have h2:∀(L:List Ru) t,Zdk (L.map Ru.er) t=Zdk L t:=λL t=>by
  induction t with
  | zero=>rfl
  | succ t ih=>simp only[Zdk,ih,h1]
 have h3:∀(L:List Ru) t,Zd2 (L.map Ru.er) t=Zd2 L t:=λL t=>by
  unfold Zd2 Zsr;rw[h2,List.findIdx?_map];rfl
 rw[<-h3 l',h,h3]
theorem Zt1{x y:Sta}(hx:ZBa x)(he:y.er=(Zmi x).er)(t:Nat):(Zd2 x.rules t=none/\Zd2 y.rules t=none)\/∃a b p q,Zd2 x.rules t=some a/\Zd2 y.rules t=some b/\x.rules[a]?=some p/\y.rules[b]?=some q/\p.er=q.er/\Zcw x a p=false:=by
 obtain⟨_,hr,_⟩:=ZkB he
 rw[Zwn hr,Zt0 hx]
 cases h:Zd2 x.rules t with
 | none=>exact .inl ⟨rfl,rfl⟩
 | some a=>
  obtain⟨p,h1,h2,h3⟩:=Zrg hx h
  have:=congrArg (λl=>l[ZxB x a]?) hr
  simp only[List.getElem?_map,h3,Option.map_some]at this
  obtain⟨q,h4,h5⟩:=Option.map_eq_some_iff.1 this
  exact .inr ⟨a,ZxB x a,p,q,rfl,rfl,h1,h4,h5.symm,h2⟩
theorem MkC.deadU{s:Sc}(h:MkC s)(n:Nat):(Go.Rx.deadU s n).length<=n*5:=by
 induction n with
 | zero=>simp[Go.Rx.deadU]
 | succ n ih=>
  rw[Go.Rx.deadU,List.length_append,Nat.succ_mul]
  refine Nat.add_le_add ih ?_
  split
  ·rename_i x hx
   exact Nat.le_trans (Zky n x x.rules.length) (h.all n x hx).len
  ·simp
theorem MkC.dead{s:Sc}(h:MkC s):(ZbH s).length<=20:=Nat.le_trans (h.deadU s.states.length) (by have:=h.len;omega)
theorem MkC.tick{s:Sc}(h:MkC s){i:Nat}{x:Sta}(hx:s.states[i]?=some x):ZBa x:=by
 intro k r hr h4
 rcases((h.all i x hx).all r (List.mem_of_getElem? hr)).kind with⟨h1,_⟩|⟨_,⟨h1,_⟩|⟨h1,_⟩|⟨_,_,h2,h3⟩⟩
 ·omega
 ·omega
 ·omega
 ·exact h2
theorem MkC.wR{s:Sc}(h:MkC s){i a:Nat}{x:Sta}{r:Ru}(hx:s.states[i]?=some x)(hr:x.rules[a]?=some r):Go.Rx.wR r<=405:=((h.all i x hx).all r (List.mem_of_getElem? hr)).w
theorem Zyx{p q:Ru}(h:wR p<=405)(he:p.er=q.er):(Zho p&&(Zho q&&Zhn p q))=true:=by
 have h2:=ZBr he
 rw[Zwk he (Zyp (by omega))]
 unfold Zho
 rw[decide_eq_true (by omega),decide_eq_true (by omega)];rfl
theorem Zwo{s:Sc}{i a:Nat}{x:Sta}{r:Ru}(hx:s.states[i]?=some x)(hr:x.rules[a]?=some r)(hd:Zcw x a r=false):((i:Int),(a:Int)) ∉ ZbH s:=by
 intro h
 obtain⟨i',x',j',r',q1,q2,q3,q4⟩:=Zwb.1 h
 obtain⟨q5,q6⟩:(i:Int)=i'/\(a:Int)=j':=by simpa using q4
 obtain rfl:i=i':=by omega
 obtain rfl:a=j':=by omega
 rw[hx]at q1;cases q1
 rw[hr]at q2;cases q2
 rw[hd]at q3;cases q3
end Go.Rx