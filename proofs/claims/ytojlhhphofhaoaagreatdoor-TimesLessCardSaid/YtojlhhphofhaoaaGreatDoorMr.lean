/- Trees of regexes, what they mean, and xg they lie in memory; plain, no program is named. No condition. -/
import Derived.Test.YtojlhhphofhaoaaGreatDoorMc
import Derived.Lib.SliceRun
import Derived.Shelf.SlicesE.Delete
import Derived.Deep.MidRow
import Derived.Test.YtojlhhphofhaoaaGreatDoorMb
set_option linter.unusedVariables false
set_option linter.unusedSimpArgs false
set_option linter.unusedSectionVars false
namespace Go.Rx
open Go Go.Eng
inductive T where
 | node (k s0 s1 s2 s3 mn mx:Int) (a:Option Addr) (c:Nat) (subs:List T)
def T.k:T->Int
 | .node k _ _ _ _ _ _ _ _ _=>k
def T.s0:T->Int
 | .node _ s _ _ _ _ _ _ _ _=>s
def T.s1:T->Int
 | .node _ _ s _ _ _ _ _ _ _=>s
def T.s2:T->Int
 | .node _ _ _ s _ _ _ _ _ _=>s
def T.s3:T->Int
 | .node _ _ _ _ s _ _ _ _ _=>s
def T.mn:T->Int
 | .node _ _ _ _ _ x _ _ _ _=>x
def T.mx:T->Int
 | .node _ _ _ _ _ _ x _ _ _=>x
def T.a:T->Option Addr
 | .node _ _ _ _ _ _ _ a _ _=>a
def T.c:T->Nat
 | .node _ _ _ _ _ _ _ _ c _=>c
def T.subs:T->List T
 | .node _ _ _ _ _ _ _ _ _ l=>l
def T.sl(t:T):Value:=.slice t.a t.subs.length t.c
def T.cs(t:T):List Value:=[.int .u8 t.k,.int .u64 t.s0,.int .u64 t.s1,.int .u64 t.s2,.int .u64 t.s3,.int .i64 t.mn,.int .i64 t.mx,t.sl]
def T.v(t:T):Value:=.agg #[.int .u8 t.k,.int .u64 t.s0,.int .u64 t.s1,.int .u64 t.s2,.int .u64 t.s3,.int .i64 t.mn,.int .i64 t.mx,.slice t.a t.subs.length t.c]
structure OkN (k s0 s1 s2 s3 mn mx:Int):Prop where
 k:0<=k/\k < 256
 s0:0<=s0/\s0 < 18446744073709551616
 s1:0<=s1/\s1 < 18446744073709551616
 s2:0<=s2/\s2 < 18446744073709551616
 s3:0<=s3/\s3 < 18446744073709551616
 mn : -9223372036854775808<=mn/\mn<=9223372036854775807
 mx : -9223372036854775808<=mx/\mx<=9223372036854775807
mutual
def Rep(m:Mem):T->Prop
 | .node k s0 s1 s2 s3 mn mx a _ l=>l.length<=1000000000000000/\(l=[]\/∃b o,a=some ⟨b,o,none⟩/\RepAt m b o l)/\OkN k s0 s1 s2 s3 mn mx
def RepAt(m:Mem)(b:Nat):Nat->List T->Prop
 | _,[]=>True
 | o,t::l=>m.reads b o t.cs/\Rep m t/\RepAt m b (o+8) l
end
theorem Zkf{m:Mem}{t:T}:Rep m t->(t.subs.length<=1000000000000000/\(t.subs=[]\/∃b o,t.a=some ⟨b,o,none⟩/\RepAt m b o t.subs)):=by
 cases t;simp only[Rep,T.subs,T.a];exact λh=>⟨h.1,h.2.1⟩
theorem ZB4{m:Mem}{t:T}:Rep m t->OkN t.k t.s0 t.s1 t.s2 t.s3 t.mn t.mx:=by
 cases t;simp only[Rep];exact λh=>h.2.2
theorem ZB5{m:Mem}{t:T}(h1:t.subs.length<=1000000000000000)(h2:t.subs=[]\/∃b o,t.a=some ⟨b,o,none⟩/\RepAt m b o t.subs)(h3:OkN t.k t.s0 t.s1 t.s2 t.s3 t.mn t.mx):Rep m t:=by
 cases t;simp only[Rep];exact⟨h1,h2,h3⟩
mutual
theorem Rep.mono{m m':Mem}(h:m.le m'):∀t:T,Rep m t->Rep m' t
 | .node _ _ _ _ _ _ _ a _ l,hr=>by
  simp only[Rep]at *
  refine⟨hr.1,?_,hr.2.2⟩
  rcases hr.2.1 with hr|⟨b,o,h1,h2⟩
  ·exact .inl hr
  ·exact .inr ⟨b,o,h1,RepAt.mono h b o l h2⟩
theorem RepAt.mono{m m':Mem}(h:m.le m')(b:Nat):∀(o:Nat)(l:List T),RepAt m b o l->RepAt m' b o l
 | _,[],_=>by simp only[RepAt]
 | o,t::l,hr=>by
  simp only[RepAt]at *
  exact⟨hr.1.mono h,Rep.mono h t hr.2.1,RepAt.mono h b (o+8) l hr.2.2⟩
end
theorem RepAt.get{m:Mem}{b:Nat}:∀{o:Nat} {l:List T} {i:Nat} {t:T},RepAt m b o l->l[i]?=some t->m.reads b (o+i*8) t.cs/\Rep m t
 | o,[],i,t,_,hi=>by simp at hi
 | o,x::l,0,t,h,hi=>by
  simp only[RepAt]at h
  simp at hi;subst hi
  exact⟨by simpa using h.1,h.2.1⟩
 | o,x::l,i+1,t,h,hi=>by
  simp only[RepAt]at h
  have:=h.2.2.get (i:=i) (by simpa using hi)
  rw[show o+(i+1)*8=o+8+i*8 by omega]
  exact this
mutual
def T.nodes:T->List T
 | .node k s0 s1 s2 s3 mn mx a c l=>.node k s0 s1 s2 s3 mn mx a c l::ZaB l
def ZaB:List T->List T
 | []=>[]
 | t::l=>t.nodes++ZaB l
end
theorem ZcM(t:T):t.nodes=t::ZaB t.subs:=by cases t;simp only[T.nodes,T.subs]
theorem Zdl(l r:List T):ZaB (l++r)=ZaB l++ZaB r:=by
 induction l with
 | nil=>simp[ZaB]
 | cons t l ih=>simp[ZaB,ih,List.append_assoc]
theorem ZpO{l:List T}{i:Nat}{t:T}(h:l[i]?=some t):ZaB (l.take (i+1))=ZaB (l.take i)++t.nodes:=by
 have:l.take (i+1)=l.take i++[t]:=by
  rw[List.take_add_one,h];rfl
 rw[this,Zdl];simp[ZaB]
theorem ZdM{l:List T}{i:Nat}{t:T}(h:l[i]?=some t):ZaB l=ZaB (l.take i)++(t.nodes++ZaB (l.drop (i+1))):=by
 have aO:=(zA0 h).1
 have e:l=l.take i++(t::l.drop (i+1)):=by
  have:=List.drop_eq_getElem_cons aO
  rw[(zA0 h).2]at this
  rw[<-this,List.take_append_drop]
 conv=>lhs;rw[e,Zdl]
 simp[ZaB]
theorem ZxV{t x z:T}{i q:Nat}(hx:t.subs[i]?=some x)(hz:x.nodes[q]?=some z):t.nodes[1+(ZaB (t.subs.take i)).length+q]?=some z:=by
 have hq:=(zA0 hz).1
 rw[ZcM,show 1+(ZaB (t.subs.take i)).length+q=((ZaB (t.subs.take i)).length+q)+1 by omega,List.getElem?_cons_succ,ZdM hx,zA4 (by omega),zA5 (by omega),show(ZaB (List.take i t.subs)).length+q - (ZaB (List.take i t.subs)).length=q by omega]
 exact hz
theorem Zsg{t x:T}(h:x∈t.subs):SizeOf.sizeOf x < SizeOf.sizeOf t:=by
 cases t with
 | node k s0 s1 s2 s3 mn mx a c l=>
  have h':x∈l:=h
  have:=List.sizeOf_lt_of_mem h'
  simp only[T.node.sizeOf_spec]
  omega
theorem Zsh(t:T):Shape.fitsL [.agg [.int .u8,.int .u64,.int .u64,.int .u64,.int .u64,.int .i64,.int .i64,.slice]] [t.v]=true:=by
 simp[Shape.fitsL,Shape.fits,T.v]
mutual
theorem Ztk{m:Mem}:∀(t:T),Rep m t->∀x∈t.nodes,Rep m x
 | .node k s0 s1 s2 s3 mn mx a c l,hr,x,hx=>by
  simp only[T.nodes,List.mem_cons]at hx
  rcases hx with rfl|hx
  ·exact hr
  ·simp only[Rep]at hr
   rcases hr.2.1 with h|⟨b,o,_,h⟩
   ·subst h;simp[ZaB]at hx
   ·exact ZpP b o l h x hx
theorem ZpP{m:Mem}(b:Nat):∀(o:Nat)(l:List T),RepAt m b o l->∀x∈ZaB l,Rep m x
 | _,[],_,x,hx=>by simp[ZaB]at hx
 | o,t::l,hr,x,hx=>by
  simp only[RepAt]at hr
  simp only[ZaB,List.mem_append]at hx
  rcases hx with hx|hx
  ·exact Ztk t hr.2.1 x hx
  ·exact ZpP b (o+8) l hr.2.2 x hx
end
theorem Zu9{m:Mem}{t x:T}(h:Rep m t)(hx:x∈t.nodes):Rep m x:=Ztk t h x hx
def ZkW(least most:Int):Bool:=!(decide (least < 0)||decide (least > 16)||(least == 1&&most == 1))&&(most == -1||(decide (most ≥ 1)&&decide (most<=16)&&decide (most ≥ least)))
def T.has(t:T)(k:Int):Bool:=t.subs.any λx=>x.k == k
def T.light(t:T):Bool:=decide (t.nodes.length<=10000)
def T.setZ(t:T):Bool:=t.s0 == 0&&t.s1 == 0&&t.s2 == 0&&t.s3 == 0
def T.right(t:T):Bool:=
 !(t.k != 2&&!t.setZ||(t.k != 5&&(t.mn != 0||t.mx != 0)||(decide (t.k < 3)&&decide (0 < t.subs.length)))) &&
 (if t.k=1 then true else if t.k=2 then !t.setZ else if t.k=3 then decide (1 < t.subs.length)&&(!t.has 1&&!t.has 3)else if t.k=4 then decide (1 < t.subs.length)&&!t.has 4
  else if t.k=5 then t.subs.length == 1&&(ZkW t.mn t.mx&&!t.has 1)else t.k == 6&&t.subs.length == 1)
def T.clean(t:T):Bool:=t.light&&t.nodes.all T.right
def T.size(t:T):Int:=if t.light then t.nodes.length else 10001
def T.groups(t:T):Int:=if t.light then(t.nodes.countP λx=>x.k == 6:Nat)else 10001
def ZrA(x y:Int):Int:=if y > x then y else x
def Zhd(x y:Int):Int:=if y < x then y else x
def Zzq(k mn mx sum:Int):Int:=Zhd (if k=5 then sum*Zhd (if mx=-1 then ZrA (ZrA mn 0) 1 else ZrA (ZrA mn 0) mx) 10001 else sum) 10001
mutual
def T.pos:T->Int
 | .node k _ _ _ _ mn mx _ _ l=>Zzq k mn mx ((if k=2 then 1 else 0)+Ze2 l)
def Ze2:List T->Int
 | []=>0
 | t::l=>t.pos+Ze2 l
end
def T.positions(t:T):Int:=if t.light then t.pos else 10001
def T.check(t:T):Int:=if t.clean=false then 80 else if t.size > 120 then 81 else if t.positions > 400 then 82 else if t.groups > 9 then 83 else 0
mutual
def T.same:T->T->Bool
 | .node k s0 s1 s2 s3 mn mx _ _ l,.node k' s0' s1' s2' s3' mn' mx' _ _ l'=>k == k'&&((s0 == s0'&&s1 == s1'&&s2 == s2'&&s3 == s3')&&(mn == mn'&&(mx == mx'&&Zd1 l l')))
def Zd1:List T->List T->Bool
 | [],[]=>true
 | t::l,t'::l'=>t.same t'&&Zd1 l l'
 | _,_=>false
end
theorem ZwR(t u:T):t.same u=(t.k == u.k&&((t.s0 == u.s0&&t.s1 == u.s1&&t.s2 == u.s2&&t.s3 == u.s3)&&(t.mn == u.mn&&(t.mx == u.mx&&Zd1 t.subs u.subs)))):=by
 cases t;cases u;simp only[T.same,T.k,T.s0,T.s1,T.s2,T.s3,T.mn,T.mx,T.subs]
theorem ZpQ:∀{l r:List T},¬l.length=r.length->Zd1 l r=false
 | [],[],h=>by simp at h
 | [],_::_,_=>by simp[Zd1]
 | _::_,[],_=>by simp[Zd1]
 | x::l,y::r,h=>by
  simp only[Zd1,ZpQ (l:=l) (r:=r) (by simpa using h),Bool.and_false]
theorem Ztl:∀{l r:List T} {i:Nat} {x y:T},l[i]?=some x->r[i]?=some y->x.same y=false->Zd1 l r=false
 | [],r,i,x,y,h,_,_=>by simp at h
 | _::_,[],i,x,y,_,h,_=>by simp at h
 | a::l,b::r,0,x,y,h,k,e=>by
  simp at h k;subst h k
  simp[Zd1,e]
 | a::l,b::r,i+1,x,y,h,k,e=>by
  simp only[Zd1,Ztl (l:=l) (r:=r) (i:=i) (by simpa using h) (by simpa using k) e,Bool.and_false]
theorem ZmK:∀{l r:List T} {i:Nat} {x y:T},l[i]?=some x->r[i]?=some y->Zd1 (l.take i) (r.take i)=true->x.same y=true->True->Zd1 (l.take (i+1)) (r.take (i+1))=true
 | [],r,i,x,y,h,_,_,_,_=>by simp at h
 | _::_,[],i,x,y,_,h,_,_,_=>by simp at h
 | a::l,b::r,0,x,y,h,k,_,e,_=>by
  simp at h k;subst h k
  simp[Zd1,e]
 | a::l,b::r,i+1,x,y,h,k,hs,e,_=>by
  simp only[List.take_succ_cons,Zd1,zA7]at hs ⊢
  exact⟨hs.1,ZmK (by simpa using h) (by simpa using k) hs.2 e trivial⟩
theorem Zsi(t:T):t.pos=Zzq t.k t.mn t.mx ((if t.k=2 then 1 else 0)+Ze2 t.subs):=by
 cases t;simp only[T.pos,T.k,T.mn,T.mx,T.subs];congr 1
theorem Zbn(l r:List T):Ze2 (l++r)=Ze2 l+Ze2 r:=by
 induction l with
 | nil=>simp[Ze2]
 | cons t l ih=>simp[Ze2,ih,Int.add_assoc]
theorem Zva{l:List T}{i:Nat}{t:T}(h:l[i]?=some t):Ze2 (l.take (i+1))=Ze2 (l.take i)+t.pos:=by
 have:l.take (i+1)=l.take i++[t]:=by
  rw[List.take_add_one,h];rfl
 rw[this,Zbn];simp[Ze2]
theorem Ztm(x y:Int):x<=ZrA x y/\y<=ZrA x y:=by unfold ZrA;split <;> omega
theorem ZmL(x y:Int):Zhd x y<=x/\Zhd x y<=y:=by unfold Zhd;split <;> omega
theorem ZwS{x y:Int}(h:0<=x)(k:0<=y):0<=Zhd x y:=by unfold Zhd;split <;> omega
def ZxW(mn mx:Int):Int:=Zhd (if mx=-1 then ZrA (ZrA mn 0) 1 else ZrA (ZrA mn 0) mx) 10001
theorem ZwT(mn mx:Int):0<=ZxW mn mx/\ZxW mn mx<=10001:=by
 unfold ZxW
 refine⟨ZwS ?_ (by omega),(ZmL _ _).2⟩
 have h1:=Ztm mn 0
 split
 ·have:=Ztm (ZrA mn 0) 1;omega
 ·have:=Ztm (ZrA mn 0) mx;omega
theorem Zz4{k mn mx sum:Int}(h:0<=sum):0<=Zzq k mn mx sum/\Zzq k mn mx sum<=10001:=by
 have h2:=Int.mul_nonneg h (ZwT mn mx).1
 unfold Zzq
 refine⟨ZwS ?_ (by omega),(ZmL _ _).2⟩
 split
 ·exact h2
 ·exact h
mutual
theorem Zi6:∀t:T,0<=t.pos/\t.pos<=10001
 | .node k _ _ _ _ mn mx _ _ l=>by
  simp only[T.pos]
  have:=ZhD l
  exact Zz4 (by split <;> omega)
theorem ZhD:∀l:List T,0<=Ze2 l
 | []=>by simp[Ze2]
 | t::l=>by
  simp only[Ze2]
  have:=Zi6 t
  have:=ZhD l
  omega
end
theorem ZwU:∀l:List T,Ze2 l<=10001*l.length
 | []=>by simp[Ze2]
 | t::l=>by
  simp only[Ze2,List.length_cons]
  have:=Zi6 t
  have:=ZwU l
  omega
theorem ZwV(t:T):t.subs.length < t.nodes.length:=by
 rw[ZcM,List.length_cons]
 have:∀l:List T,l.length<=(ZaB l).length:=by
  intro l
  induction l with
  | nil=>simp[ZaB]
  | cons x l ih=>simp only[ZaB,List.length_cons,zA1];rw[ZcM];simp;omega
 have:=this t.subs
 omega
theorem Zvb{t x:T}(h:x∈t.subs):x.nodes.length < t.nodes.length:=by
 obtain⟨i,hi⟩:=List.getElem?_of_mem h
 rw[ZcM t,List.length_cons,ZdM hi]
 simp;omega
def T.hasB(t:T)(c:Nat):Bool:=((if c / 64=0 then t.s0 else if c / 64=1 then t.s1 else if c / 64=2 then t.s2 else t.s3).toNat).testBit (c % 64)
end Go.Rx
namespace Go.Rx
open Go Go.Eng Go.RowKit
def wdN(f j:Nat):Nat:=(f >>> (64*j)) % 2 ^ 64
theorem ZCP(n:Nat)(h:n < 18446744073709551616):IntKind.u64.wrap (n:Int)=n:=by
 unfold IntKind.wrap
 have e:(2:Int) ^ 64=18446744073709551616:=by decide
 simp only[IntKind.bits,IntKind.signed,Bool.false_and,Bool.false_eq_true,if_false,e]
 omega
theorem ZEg(a:Nat)(h:a < 18446744073709551616):(BitVec.ofInt 64 (a:Int)).toNat=a:=by
 rw[BitVec.toNat_ofInt]
 have e:((2:Nat) ^ 64:Nat)=18446744073709551616:=by decide
 rw[e];omega
theorem ZxX(a b:Nat)(ha:a < 18446744073709551616)(hb:b < 18446744073709551616):IntKind.u64.wrap ((BitVec.ofInt 64 (a:Int)|||BitVec.ofInt 64 (b:Int)).toNat:Int)=((a|||b:Nat):Int):=by
 rw[BitVec.toNat_or,ZEg a ha,ZEg b hb]
 exact ZCP _ (Nat.or_lt_two_pow (n:=64) ha hb)
def orL(f g k:Nat):List Value:=(List.range 9).map λj=>.int .u64 ((if j < k then wdN (f|||g) j else wdN f j:Nat):Int)
def Byt(m:Mem)(a:Option Addr)(s:List Nat):Prop:=(s=[]\/∃b o,a=some ⟨b,o,none⟩/\m.reads b o (s.map λc:Nat=>Value.int .u8 c))/\∀c∈s,c < 256
theorem Byt.mono{m m':Mem}{a s}(h:Byt m a s)(hm:m.le m'):Byt m' a s:=by
 refine⟨?_,h.2⟩
 rcases h.1 with h|⟨b,o,h1,h2⟩
 ·exact .inl h
 ·exact .inr ⟨b,o,h1,h2.mono hm⟩
theorem Byt.get{m:Mem}{a s}(h:Byt m a s){i c:Nat}(hi:s[i]?=some c):(∃b o,a=some ⟨b,o,none⟩/\m b (o+i)=some (.int .u8 c))/\c < 256:=by
 refine⟨?_,h.2 c (zA2 hi)⟩
 rcases h.1 with h|⟨b,o,h1,h2⟩
 ·subst h;simp at hi
 ·exact⟨b,o,h1,h2 i _ (by rw[List.getElem?_map,hi];rfl)⟩
def ZDy(t:T)(back:Bool)(f i c out:Nat):Nat:=if(f.testBit (if back then i+1 else i)&&t.hasB c)=true then out|||2 ^ (if back then i else i+1)else out
def ZEh(t:T)(back:Bool)(f:Nat):List Nat->Nat->Nat->Nat
 | [],_,out=>out
 | c::s,i,out=>ZEh t back f s (i+1) (ZDy t back f i c out)
def ZD5(g:Nat->Nat):Nat->Nat->Nat
 | 0,f=>f
 | n+1,f=>ZD5 g n (g f)
def ZCQ(g:Nat->Nat)(mx:Int):Nat->Int->Nat->Nat->Nat
 | 0,_,out,_=>out
 | n+1,k,out,last=>if k=mx then out else if out|||g last=out then out else ZCQ g mx n (IntKind.i64.wrap (k+1)) (out|||g last) (g last)
@[irreducible] def ZEo:Nat:=576
abbrev ZEp:Nat:=2 ^ ZEo
def ZEq(g:Nat->Nat)(mn mx:Int)(f:Nat):Nat:=ZCQ g mx (ZEp+1) mn (ZD5 g mn.toNat f) (ZD5 g mn.toNat f)
mutual
def T.lead(s:List Nat)(back:Bool):T->Nat->Nat
 | .node k s0 s1 s2 s3 mn mx a c l=>λf=>
  if k=1 then f else if k=2 then ZEh (.node k s0 s1 s2 s3 mn mx a c l) back f s 0 0
  else if k=3 then(if back then ZCS s back l f else ZCR s back l f)
  else if k=4 then ZEi s back l f 0
  else if k=5 then ZEq (ZCT s back l) mn mx f
  else if k=6 then ZCT s back l f else 0
def ZCR(s:List Nat)(back:Bool):List T->Nat->Nat
 | []=>λf=>f
 | t::l=>λf=>ZCR s back l (t.lead s back f)
def ZCS(s:List Nat)(back:Bool):List T->Nat->Nat
 | []=>λf=>f
 | t::l=>λf=>t.lead s back (ZCS s back l f)
def ZEi(s:List Nat)(back:Bool):List T->Nat->Nat->Nat
 | []=>λ_ out=>out
 | t::l=>λf out=>ZEi s back l f (out|||t.lead s back f)
def ZCT(s:List Nat)(back:Bool):List T->Nat->Nat
 | []=>λf=>f
 | t::_=>λf=>t.lead s back f
end
section
variable {s:List Nat} {back:Bool}
end
theorem ZpR{α:Type}{l:List α}{i:Nat}{x:α}(h:l[i]?=some x):l.drop i=x::l.drop (i+1):=by
 obtain⟨h1,h2⟩:=zA0 h
 rw[List.drop_eq_getElem_cons h1,h2]
theorem Ztn{α:Type}{l:List α}{i:Nat}{x:α}(h:l[i]?=some x):l.take (i+1)=l.take i++[x]:=by
 rw[List.take_add_one,h];rfl
section
variable (s:List Nat) (back:Bool) (hs:s.length<=512)
include hs
end
def T0:T:=.node 0 0 0 0 0 0 0 none 0 []
def T1:T:=.node 1 0 0 0 0 0 0 none 0 []
theorem ZB6(m:Mem):Rep m T0:=by simp only[T0,Rep];exact⟨by simp,.inl trivial,by constructor <;> decide⟩
theorem Zz5(m:Mem):Rep m T1:=by simp only[T1,Rep];exact⟨by simp,.inl trivial,by constructor <;> decide⟩
def T.isNone(t:T):Bool:=t.k == 0&&(t.light&&(T0.light&&t.same T0))
def T.wrong(t:T)(len:Nat)(i:Int):Int:=if(!t.isNone&&!(t.check == 0))=true then 130 else if(len:Int) > 512 then 3 else if i < 0\/i > len then 2 else 0
structure Rg where
 bg:Bool
 en:Bool
 t:T
def Rg.v(r:Rg):Value:=.agg #[.bool r.bg,.bool r.en,.int .u8 r.t.k,.int .u64 r.t.s0,.int .u64 r.t.s1,.int .u64 r.t.s2,.int .u64 r.t.s3,.int .i64 r.t.mn,.int .i64 r.t.mx,.slice r.t.a r.t.subs.length r.t.c]
def Rg.cs(r:Rg):List Value:=[.bool r.bg,.bool r.en,.int .u8 r.t.k,.int .u64 r.t.s0,.int .u64 r.t.s1,.int .u64 r.t.s2,.int .u64 r.t.s3,.int .i64 r.t.mn,.int .i64 r.t.mx,.slice r.t.a r.t.subs.length r.t.c]
def Rgs(m:Mem)(a:Option Addr)(l:List Rg):Prop:=l.length<=1000000000000000/\(l=[]\/∃b o,a=some ⟨b,o,none⟩/\∀i r,l[i]?=some r->m.reads b (o+i*10) r.cs)/\∀r∈l,Rep m r.t
theorem Rgs.mono{m m':Mem}{a l}(h:Rgs m a l)(hm:m.le m'):Rgs m' a l:=by
 refine⟨h.1,?_,λr hr=>(h.2.2 r hr).mono hm⟩
 rcases h.2.1 with h|⟨b,o,h1,h2⟩
 ·exact .inl h
 ·exact .inr ⟨b,o,h1,λi r hi=>(h2 i r hi).mono hm⟩
def ZB7(f:Nat):List Nat:=(List.range 513).filter λi=>f.testBit i
def Zz6(n:Nat):List Nat->Option Nat
 | []=>none
 | i::_=>if i > n then none else some i
def Rg.from(s:List Nat)(n:Nat)(r:Rg):Option Nat:=if(r.en&&decide ((n:Int) < s.length))=true then none else if r.bg then(if(r.t.lead s true (2 ^ n)).testBit 0 then some 0 else none)else
 Zz6 n (ZB7 (r.t.lead s true (2 ^ n)))
def Rg.wrong(r:Rg)(len:Nat)(n:Int):Int:=if r.t.check=0 then r.t.wrong len n else 130
def ZpS(φ:T->Prop):Value->Mem->List (List Value)->Prop:=λv m' _=>∃t:T,v=t.v/\Rep m' t/\φ t
abbrev TRK:=Int->Int->Int->Int->Int->Int->Int->Option Addr->Nat->Nat->Mem->Prop
theorem Zsj{φ:T->Prop}{m:Mem}{K:TRK}(k:∀(t:T)(m':Mem),m.le m'->Rep m' t->φ t->K t.k t.s0 t.s1 t.s2 t.s3 t.mn t.mx t.a t.subs.length t.c m'):
  ∀(n0 n1 n2 n3 n4 n5 n6:Int)(a:Option Addr)(n c:Nat)(m':Mem),m.le m'->ZpS φ (.agg #[.int .u8 n0,.int .u64 n1,.int .u64 n2,.int .u64 n3,.int .u64 n4,.int .i64 n5,.int .i64 n6,.slice a n c]) m' []->K n0 n1 n2 n3 n4 n5 n6 a n c m':=by
 rintro n0 n1 n2 n3 n4 n5 n6 a n c m' hm ⟨t,hv,hr,hp⟩
 simp only[T.v,Value.agg.injEq,Array.mk.injEq,List.cons.injEq,Value.int.injEq,Value.slice.injEq,true_and,and_true]at hv
 obtain⟨rfl,rfl,rfl,rfl,rfl,rfl,rfl,rfl,rfl,rfl⟩:=hv
 exact k t m' hm hr hp
theorem ZfH{φ:T->Prop}:∀(v:Value)(m':Mem) (css:List (List Value)),ZpS φ v m' css->Shape.fits (.agg [.int .u8,.int .u64,.int .u64,.int .u64,.int .u64,.int .i64,.int .i64,.slice]) v=true:=λv _ _ ⟨t,e,_⟩=>by rw[e];rfl
def RepL(m:Mem)(a:Option Addr)(l:List T):Prop:=l.length<=1000000000000000/\(l=[]\/∃b o,a=some ⟨b,o,none⟩/\RepAt m b o l)
theorem RepL.mono{m m':Mem}{a l}(h:RepL m a l)(hm:m.le m'):RepL m' a l:=by
 refine⟨h.1,?_⟩
 rcases h.2 with h|⟨b,o,h1,h2⟩
 ·exact .inl h
 ·exact .inr ⟨b,o,h1,h2.mono hm⟩
theorem Rep.subs{m:Mem}{t:T}(h:Rep m t):RepL m t.a t.subs:=Zkf h
def Zcn(k mn mx:Int)(a:Option Addr)(c:Nat)(l:List T):T:=.node k 0 0 0 0 mn mx a c l
theorem Zgu{m:Mem}{k mn mx:Int}{a:Option Addr}{c:Nat}{l:List T}(h:RepL m a l)(hk:0<=k/\k < 256)(h1 : -9223372036854775808<=mn/\mn<=9223372036854775807)(h2 : -9223372036854775808<=mx/\mx<=9223372036854775807):Rep m (Zcn k mn mx a c l):=by
 simp only[Zcn,Rep]
 exact⟨h.1,h.2,⟨hk,by omega,by omega,by omega,by omega,h1,h2⟩⟩
theorem Zto{m:Mem}{b:Nat}{t:T}(h:m.reads b 0 t.cs)(hr:Rep m t):RepL m (some ⟨b,0,none⟩) [t]:=⟨by simp,.inr ⟨b,0,rfl,by simp only[RepAt];exact⟨h,hr,trivial⟩⟩⟩
def Zc2(l:List T):List Value:=(l.map T.cs).flatten
theorem Zat(l:List T):(Zc2 l).length=l.length*8:=by
 induction l with
 | nil=>rfl
 | cons t l ih=>simp[Zc2,T.cs]at ih ⊢;omega
theorem ZaS(l r:List T):Zc2 (l++r)=Zc2 l++Zc2 r:=by simp[Zc2]
theorem Ztp{m:Mem}{b:Nat}:∀{o:Nat} {l:List T},m.reads b o (Zc2 l)->(∀t∈l,Rep m t)->RepAt m b o l
 | o,[],_,_=>by simp only[RepAt]
 | o,t::l,h,hr=>by
  simp only[RepAt]
  refine⟨λj v hj=>?_,hr t (by simp),Ztp (λj v hj=>?_) λx hx=>hr x (by simp[hx])⟩
  ·refine h j v ?_
   simp only[Zc2,List.map_cons,List.flatten_cons]
   rw[zA5 (zA0 hj).1];exact hj
  ·have:=h (8+j) v (by
    simp only[Zc2,List.map_cons,List.flatten_cons]
    rw[zA4 (by simp[T.cs])]
    have e:8+j - t.cs.length=j:=by simp[T.cs]
    rw[e];exact hj)
   rw[show o+8+j=o+(8+j) by omega];exact this
theorem ZwW{m:Mem}{a:Option Addr}{l:List T}(h:rowRd m a (Zc2 l))(hr:∀t∈l,Rep m t)(hl:l.length<=1000000000000000):RepL m a l:=by
 refine⟨hl,?_⟩
 cases l with
 | nil=>exact .inl rfl
 | cons t l=>
  rcases h with h|⟨b,o,h1,h2⟩
  ·simp[Zc2,T.cs]at h
  ·exact .inr ⟨b,o,h1,Ztp h2 hr⟩
theorem ZeF{m:Mem}{a:Option Addr}{l:List T}(h:RepL m a l):rowRd m a (Zc2 l):=by
 have key:∀(l:List T)(b o:Nat),RepAt m b o l->m.reads b o (Zc2 l):=by
  intro l
  induction l with
  | nil=>intro b o _ j v hj;simp[Zc2]at hj
  | cons t l ih=>
   intro b o hr j v hj
   simp only[RepAt]at hr
   simp only[Zc2,List.map_cons,List.flatten_cons]at hj
   by_cases aO:j < 8
   ·rw[zA5 (by simpa[T.cs]using aO)]at hj
    exact hr.1 j v hj
   ·rw[zA4 (by simp[T.cs];omega)]at hj
    have:=ih b (o+8) hr.2.2 (j - 8) v (by simpa[T.cs,Zc2]using hj)
    rw[show o+8+(j - 8)=o+j by omega]at this;exact this
 rcases h.2 with h|⟨b,o,h1,h2⟩
 ·subst h;exact .inl rfl
 ·exact .inr ⟨b,o,h1,key l b o h2⟩
theorem ZkX{m:Mem}{a:Option Addr}{l:List T}(h:RepL m a l):∀t∈l,Rep m t:=by
 rcases h.2 with h|⟨b,o,_,h⟩
 ·subst h;simp
 ·intro t ht
  obtain⟨i,hi⟩:=List.getElem?_of_mem ht
  exact(h.get hi).2
def ZD6(j:Nat)(w c:Nat):Nat:=if c / 64=j then w|||2 ^ (c % 64)else w
def ZwB(bs:List Nat)(j:Nat):Nat:=bs.foldl (ZD6 j) 0
theorem Zvc(l:List Nat)(c j:Nat):ZwB (l++[c]) j=if c / 64=j then ZwB l j|||2 ^ (c % 64)else ZwB l j:=by
 unfold ZwB
 rw[List.foldl_append];rfl
theorem ZwX(l:List Nat)(j:Nat):ZwB l j < 18446744073709551616:=by
 have key:∀(l:List Nat)(w:Nat),w < 2 ^ 64->l.foldl (ZD6 j) w < 2 ^ 64:=by
  intro l
  induction l with
  | nil=>intro w h;exact h
  | cons c l ih=>
   intro w h
   refine ih _ ?_
   unfold ZD6
   split
   ·exact Nat.or_lt_two_pow h (Nat.pow_lt_pow_right (by omega) (by omega))
   ·exact h
 exact key l 0 (by decide)
def ZkY(bs:List Nat):T:=.node 2 (ZwB bs 0:Nat) (ZwB bs 1:Nat) (ZwB bs 2:Nat) (ZwB bs 3:Nat) 0 0 none 0 []
theorem ZpT(bs:List Nat)(m:Mem):Rep m (ZkY bs):=by
 simp only[ZkY,Rep]
 have h:=ZwX bs
 exact⟨by simp,.inl trivial,⟨by omega,⟨by omega,by have:=h 0;omega⟩,⟨by omega,by have:=h 1;omega⟩,⟨by omega,by have:=h 2;omega⟩,⟨by omega,by have:=h 3;omega⟩,by omega,by omega⟩⟩
def ZwY(bs:List Nat):List Value:=[.int .u64 (ZwB bs 0:Nat),.int .u64 (ZwB bs 1:Nat),.int .u64 (ZwB bs 2:Nat),.int .u64 (ZwB bs 3:Nat)]
theorem Zvd(bs:List Nat){j:Nat}(h:j < 4):(ZwY bs)[j]?=some (.int .u64 (ZwB bs j:Nat)):=by
 have:j=0\/j=1\/j=2\/j=3:=by omega
 rcases this with rfl|rfl|rfl|rfl <;> rfl
theorem Zsk(l:List Nat){c j:Nat}(hj:c / 64=j)(h:j < 4):ZaE (ZwY l) j [.int .u64 ((ZwB l j|||2 ^ (c % 64):Nat):Int)]=ZwY (l++[c]):=by
 unfold ZwY
 simp only[Zvc,hj]
 have:j=0\/j=1\/j=2\/j=3:=by omega
 rcases this with rfl|rfl|rfl|rfl <;> rfl
def ZdG(n:Nat):List Nat:=([[97],[98],[97,98],[97],[98],[99],[97,98,99],[98,99],[10],[0,255],[97],[98]][n % 12]?).getD []
end Go.Rx
namespace Go.Rx
open Go Go.Eng
inductive E where
 | node (k:Int) (x:Nat) (s:ByteArray) (g:Int) (a:Option Addr) (c:Nat) (subs:List E)
def E.k:E->Int
 | .node k _ _ _ _ _ _=>k
def E.x:E->Nat
 | .node _ x _ _ _ _ _=>x
def E.s:E->ByteArray
 | .node _ _ s _ _ _ _=>s
def E.g:E->Int
 | .node _ _ _ g _ _ _=>g
def E.a:E->Option Addr
 | .node _ _ _ _ a _ _=>a
def E.c:E->Nat
 | .node _ _ _ _ _ c _=>c
def E.subs:E->List E
 | .node _ _ _ _ _ _ l=>l
def E.sl(t:E):Value:=.slice t.a t.subs.length t.c
def E.cs(t:E):List Value:=[.int .u8 t.k,.float .f64 t.x,.string t.s,.int .i64 t.g,t.sl]
def E.v(t:E):Value:=.agg #[.int .u8 t.k,.float .f64 t.x,.string t.s,.int .i64 t.g,.slice t.a t.subs.length t.c]
def E0:E:=.node 0 0 .empty 0 none 0 []
structure OkE (k:Int)(s:ByteArray)(g:Int):Prop where
 k:0<=k/\k < 256
 s:s.size<=1000000000000000
 g : -9223372036854775808<=g/\g<=9223372036854775807
mutual
def RepE(m:Mem):E->Prop
 | .node k x s g a _ l=>l.length<=1000000000000000/\(l=[]\/∃b o,a=some ⟨b,o,none⟩/\RepEAt m b o l)/\OkE k s g
def RepEAt(m:Mem)(b:Nat):Nat->List E->Prop
 | _,[]=>True
 | o,t::l=>m.reads b o t.cs/\RepE m t/\RepEAt m b (o+5) l
end
theorem Zzr(m:Mem):RepE m E0:=by simp only[E0,RepE];exact⟨by simp,.inl trivial,by constructor <;> decide⟩
theorem Zeb{m:Mem}{t:E}:RepE m t->(t.subs.length<=1000000000000000/\(t.subs=[]\/∃b o,t.a=some ⟨b,o,none⟩/\RepEAt m b o t.subs)):=by
 cases t;simp only[RepE,E.subs,E.a];exact λh=>⟨h.1,h.2.1⟩
theorem Ztq{m:Mem}{t:E}:RepE m t->OkE t.k t.s t.g:=by
 cases t;simp only[RepE];exact λh=>h.2.2
mutual
theorem RepE.mono{m m':Mem}(h:m.le m'):∀t:E,RepE m t->RepE m' t
 | .node _ _ _ _ a _ l,hr=>by
  simp only[RepE]at *
  refine⟨hr.1,?_,hr.2.2⟩
  rcases hr.2.1 with hr|⟨b,o,h1,h2⟩
  ·exact .inl hr
  ·exact .inr ⟨b,o,h1,RepEAt.mono h b o l h2⟩
theorem RepEAt.mono{m m':Mem}(h:m.le m')(b:Nat):∀(o:Nat)(l:List E),RepEAt m b o l->RepEAt m' b o l
 | _,[],_=>by simp only[RepEAt]
 | o,t::l,hr=>by
  simp only[RepEAt]at *
  exact⟨hr.1.mono h,RepE.mono h t hr.2.1,RepEAt.mono h b (o+5) l hr.2.2⟩
end
theorem RepE.mono'{m m':Mem}{t:E}(hr:RepE m t)(h:m.le m'):RepE m' t:=RepE.mono h t hr
theorem RepEAt.mono'{m m':Mem}{b o:Nat}{l:List E}(hr:RepEAt m b o l)(h:m.le m'):RepEAt m' b o l:=RepEAt.mono h b o l hr
theorem RepEAt.get{m:Mem}{b:Nat}:∀{o:Nat} {l:List E} {i:Nat} {t:E},RepEAt m b o l->l[i]?=some t->m.reads b (o+i*5) t.cs/\RepE m t
 | o,[],i,t,_,hi=>by simp at hi
 | o,x::l,0,t,h,hi=>by
  simp only[RepEAt]at h
  simp at hi;subst hi
  exact⟨by simpa using h.1,h.2.1⟩
 | o,x::l,i+1,t,h,hi=>by
  simp only[RepEAt]at h
  have:=h.2.2.get (i:=i) (by simpa using hi)
  rw[show o+(i+1)*5=o+5+i*5 by omega]
  exact this
mutual
def E.nodes:E->List E
 | .node k x s g a c l=>.node k x s g a c l::Zap l
def Zap:List E->List E
 | []=>[]
 | t::l=>t.nodes++Zap l
end
theorem ZbA(t:E):t.nodes=t::Zap t.subs:=by cases t;simp only[E.nodes,E.subs]
theorem ZaY(l r:List E):Zap (l++r)=Zap l++Zap r:=by
 induction l with
 | nil=>simp[Zap]
 | cons t l ih=>simp[Zap,ih,List.append_assoc]
theorem Ze3{l:List E}{i:Nat}{t:E}(h:l[i]?=some t):Zap (l.take (i+1))=Zap (l.take i)++t.nodes:=by
 have:l.take (i+1)=l.take i++[t]:=by
  rw[List.take_add_one,h];rfl
 rw[this,ZaY];simp[Zap]
theorem ZcN{l:List E}{i:Nat}{t:E}(h:l[i]?=some t):Zap l=Zap (l.take i)++(t.nodes++Zap (l.drop (i+1))):=by
 have aO:=(zA0 h).1
 have e:l=l.take i++(t::l.drop (i+1)):=by
  have:=List.drop_eq_getElem_cons aO
  rw[(zA0 h).2]at this
  rw[<-this,List.take_append_drop]
 conv=>lhs;rw[e,ZaY]
 simp[Zap]
theorem Zve{t x z:E}{i q:Nat}(hx:t.subs[i]?=some x)(hz:x.nodes[q]?=some z):t.nodes[1+(Zap (t.subs.take i)).length+q]?=some z:=by
 have hq:=(zA0 hz).1
 rw[ZbA,show 1+(Zap (t.subs.take i)).length+q=((Zap (t.subs.take i)).length+q)+1 by omega,List.getElem?_cons_succ,ZcN hx,zA4 (by omega),zA5 (by omega),show(Zap (List.take i t.subs)).length+q - (Zap (List.take i t.subs)).length=q by omega]
 exact hz
theorem ZhE{t x:E}(h:x∈t.subs):SizeOf.sizeOf x < SizeOf.sizeOf t:=by
 cases t with
 | node k x s g a c l=>
  have h':_∈l:=h
  have:=List.sizeOf_lt_of_mem h'
  simp only[E.node.sizeOf_spec]
  omega
theorem Zkg(t:E):Shape.fitsL [.agg [.int .u8,.any,.str,.int .i64,.slice]] [t.v]=true:=by
 simp[Shape.fitsL,Shape.fits,E.v]
mutual
theorem ZpU{m:Mem}:∀(t:E),RepE m t->∀x∈t.nodes,RepE m x
 | .node k x s g a c l,hr,z,hx=>by
  simp only[E.nodes,List.mem_cons]at hx
  rcases hx with rfl|hx
  ·exact hr
  ·simp only[RepE]at hr
   rcases hr.2.1 with h|⟨b,o,_,h⟩
   ·subst h;simp[Zap]at hx
   ·exact ZmM b o l h z hx
theorem ZmM{m:Mem}(b:Nat):∀(o:Nat)(l:List E),RepEAt m b o l->∀x∈Zap l,RepE m x
 | _,[],_,x,hx=>by simp[Zap]at hx
 | o,t::l,hr,x,hx=>by
  simp only[RepEAt]at hr
  simp only[Zap,List.mem_append]at hx
  rcases hx with hx|hx
  ·exact ZpU t hr.2.1 x hx
  ·exact ZmM b (o+5) l hr.2.2 x hx
end
theorem ZmN{m:Mem}{t x:E}(h:RepE m t)(hx:x∈t.nodes):RepE m x:=ZpU t h x hx
def Zz7:Nat:=9221120237041090561
def ZgK(x:Nat):Nat:=if Op.floatEq .f64 x x then x else Zz7
def ZmO(x y:Nat):Bool:=ZgK x == ZgK y
def ZfI(x:Nat):Bool:=Op.floatEq .f64 x x||x == Zz7
def E.light(t:E):Bool:=decide (t.nodes.length<=10000)
def E.size(t:E):Int:=if t.light then t.nodes.length else 0
mutual
def E.same:E->E->Bool
 | .node k x s g _ _ l,.node k' x' s' g' _ _ l'=>k == k'&&(ZmO x x'&&(s.toList == s'.toList&&(g == g'&&Zco l l')))
def Zco:List E->List E->Bool
 | [],[]=>true
 | t::l,t'::l'=>t.same t'&&Zco l l'
 | _,_=>false
end
theorem Ztr(t u:E):t.same u=(t.k == u.k&&(ZmO t.x u.x&&(t.s.toList == u.s.toList&&(t.g == u.g&&Zco t.subs u.subs)))):=by
 cases t;cases u;simp only[E.same,E.k,E.x,E.s,E.g,E.subs]
theorem ZmP:∀{l r:List E},¬l.length=r.length->Zco l r=false
 | [],[],h=>by simp at h
 | [],_::_,_=>by simp[Zco]
 | _::_,[],_=>by simp[Zco]
 | x::l,y::r,h=>by
  simp only[Zco,ZmP (l:=l) (r:=r) (by simpa using h),Bool.and_false]
theorem ZpV:∀{l r:List E} {i:Nat} {x y:E},l[i]?=some x->r[i]?=some y->x.same y=false->Zco l r=false
 | [],r,i,x,y,h,_,_=>by simp at h
 | _::_,[],i,x,y,_,h,_=>by simp at h
 | a::l,b::r,0,x,y,h,k,e=>by
  simp at h k;subst h k
  simp[Zco,e]
 | a::l,b::r,i+1,x,y,h,k,e=>by
  simp only[Zco,ZpV (l:=l) (r:=r) (i:=i) (by simpa using h) (by simpa using k) e,Bool.and_false]
theorem Zkh:∀{l r:List E} {i:Nat} {x y:E},l[i]?=some x->r[i]?=some y->Zco (l.take i) (r.take i)=true->x.same y=true->Zco (l.take (i+1)) (r.take (i+1))=true
 | [],r,i,x,y,h,_,_,_=>by simp at h
 | _::_,[],i,x,y,_,h,_,_=>by simp at h
 | a::l,b::r,0,x,y,h,k,_,e=>by
  simp at h k;subst h k
  simp[Zco,e]
 | a::l,b::r,i+1,x,y,h,k,hs,e=>by
  simp only[List.take_succ_cons,Zco,zA7]at hs ⊢
  exact⟨hs.1,Zkh (by simpa using h) (by simpa using k) hs.2 e⟩
def E.most(t:E):Int:=if t.light then t.nodes.foldl (λn x=>if x.k=10 then(if x.g > n then x.g else n)else n) (-1)else -1
mutual
def E.names:E->List ByteArray->List ByteArray
 | .node k _ s _ _ _ l,out=>if k=9 then(if out.any (λy=>y.toList == s.toList)then out else out++[s])else ZbM l out
def ZbM:List E->List ByteArray->List ByteArray
 | [],out=>out
 | t::l,out=>ZbM l (t.names out)
end
theorem ZpW(t:E)(out:List ByteArray):t.names out=if t.k=9 then(if out.any (λy=>y.toList == t.s.toList)then out else out++[t.s])else ZbM t.subs out:=by
 cases t;simp only[E.names,E.k,E.s,E.subs];rfl
mutual
theorem Zts:∀(t:E)(out:List ByteArray),out.length<=(t.names out).length
 | .node k _ s _ _ _ l,out=>by
  simp only[E.names]
  split
  ·split <;> simp
  ·exact ZkZ l out
theorem ZkZ:∀(l:List E)(out:List ByteArray),out.length<=(ZbM l out).length
 | [],out=>by simp[ZbM]
 | t::l,out=>by
  simp only[ZbM]
  exact Nat.le_trans (Zts t out) (ZkZ l _)
end
theorem ZmQ(l r:List E)(out:List ByteArray):ZbM (l++r) out=ZbM r (ZbM l out):=by
 induction l generalizing out with
 | nil=>simp[ZbM]
 | cons t l ih=>simp only[List.cons_append,ZbM,ih]
theorem Zsl{l:List E}{i:Nat}{t:E}(h:l[i]?=some t)(out:List ByteArray):ZbM (l.take (i+1)) out=t.names (ZbM (l.take i) out):=by
 have:l.take (i+1)=l.take i++[t]:=by rw[List.take_add_one,h];rfl
 rw[this,ZmQ];simp[ZbM]
theorem Zvf{l:List E}{i:Nat}(out:List ByteArray):(ZbM (l.take i) out).length<=(ZbM l out).length:=by
 conv=>rhs;rw[<-List.take_append_drop i l,ZmQ]
 exact ZkZ _ _
mutual
theorem Zgv:∀(t:E)(out:List ByteArray),(t.names out).length<=out.length+t.nodes.length
 | .node k _ s _ _ _ l,out=>by
  simp only[E.names,E.nodes,List.length_cons]
  split
  ·split
   ·omega
   ·rw[zA1,List.length_singleton];omega
  ·have:=ZhF l out
   omega
theorem ZhF:∀(l:List E)(out:List ByteArray),(ZbM l out).length<=out.length+(Zap l).length
 | [],out=>by simp[ZbM]
 | t::l,out=>by
  simp only[ZbM,Zap,zA1]
  have:=Zgv t out
  have:=ZhF l (t.names out)
  omega
end
def E.vars(t:E):List ByteArray:=if t.light then t.names []else[]
theorem ZeG(s:ByteArray):s.data.toList.length=s.size:=by rw[Array.length_toList];rfl
theorem ZwZ(s:ByteArray):∀(n i:Nat)(r:List UInt8),s.size - i=n->ByteArray.toList.loop s i r=r.reverse++s.data.toList.drop i
 | 0,i,r,h=>by
  rw[ByteArray.toList.loop,if_neg (by omega),List.drop_of_length_le (by have:=ZeG s;omega),List.append_nil]
 | n+1,i,r,h=>by
  have hs:=ZeG s
  have hi:i < s.size:=by omega
  rw[ByteArray.toList.loop,if_pos hi,ZwZ s n (i+1) _ (by omega),List.reverse_cons,List.append_assoc]
  have hd:=List.drop_eq_getElem_cons (l:=s.data.toList) (i:=i) (by omega)
  rw[hd]
  have e:s.get! i=s.data.toList[i]'(by omega):=by
   rw[Array.getElem_toList]
   exact getElem!_pos s.data i hi
  rw[e];rfl
theorem baL(s:ByteArray):s.toList=s.data.toList:=by
 have:=ZwZ s _ 0 [] rfl
 simpa[ByteArray.toList]using this
theorem Zcu(s:ByteArray):(s.toList == ByteArray.toList ⟨#[]⟩)=(s.size == 0):=by
 rw[baL,baL,<-ZeG]
 cases h:s.data.toList <;> simp[h] <;> rfl
theorem Zaj{α:Type}{cs:α->List Value}{n:Nat}(hn:∀x,(cs x).length=n){m:Mem}{a:Option Addr}{L:List α}(h:rowRd m a (L.map cs).flatten){k:Nat}{t:α}(ht:L[k]?=some t)(h0:0 < n):∃b o,a=some ⟨b,o,none⟩/\m.reads b (o+k*n) (cs t):=by
 have aO:=(zA0 ht).1
 have len:∀l:List α,(l.map cs).flatten.length=l.length*n:=λl=>by
  induction l with
  | nil=>simp
  | cons x l ih=>rw[List.map_cons,List.flatten_cons,zA1,hn,ih,List.length_cons,Nat.succ_mul];omega
 have e:(L.map cs).flatten=((L.take k).map cs).flatten++(cs t++((L.drop (k+1)).map cs).flatten):=by
  have e1:L=L.take k++(t::L.drop (k+1)):=by
   have:=List.drop_eq_getElem_cons aO
   rw[(zA0 ht).2]at this
   rw[<-this,List.take_append_drop]
  conv=>lhs;rw[e1]
  rw[List.map_append,List.flatten_append,List.map_cons,List.flatten_cons]
 have hl:((L.take k).map cs).flatten.length=k*n:=by rw[len,List.length_take,Nat.min_eq_left (by omega)]
 rcases h with h|⟨b,o,ha,h⟩
 ·have:=congrArg List.length h
  rw[len,List.length_nil]at this
  have:0 < L.length*n:=Nat.mul_pos (by omega) h0
  omega
 ·refine⟨b,o,ha,λj v hj=>?_⟩
  have sm:=(zA0 hj).1
  have:=h (k*n+j) v (by rw[e,zA4 (by omega),hl,Nat.add_sub_cancel_left,zA5 sm];exact hj)
  rw[Nat.add_assoc];exact this
theorem Za1{α:Type}{cs:α->List Value}{n:Nat}(hn:∀x,(cs x).length=n)(l:List α):(l.map cs).flatten.length=l.length*n:=by
 induction l with
 | nil=>simp
 | cons x l ih=>rw[List.map_cons,List.flatten_cons,zA1,hn,ih,List.length_cons,Nat.succ_mul];omega
structure Pt where
 k:Int
 s:ByteArray
 g:Int
 e:E
def Pt.cs(p:Pt):List Value:=[.int .u8 p.k,.string p.s,.int .i64 p.g,.int .u8 p.e.k,.float .f64 p.e.x,.string p.e.s,.int .i64 p.e.g,.slice p.e.a p.e.subs.length p.e.c]
def Pt.v(p:Pt):Value:=.agg p.cs.toArray
structure Ac where
 k:Int
 s:ByteArray
 pa:Option Addr
 pc:Nat
 parts:List Pt
 e:E
def Ac.cs(a:Ac):List Value:=[.int .u8 a.k,.string a.s,.slice a.pa a.parts.length a.pc,.int .u8 a.e.k,.float .f64 a.e.x,.string a.e.s,.int .i64 a.e.g,.slice a.e.a a.e.subs.length a.e.c]
structure Ru where
 k:Int
 bg:Bool
 en:Bool
 t:T
 s:ByteArray
 n:Int
 aa:Option Addr
 ac:Nat
 acts:List Ac
 go:ByteArray
 code:Int
def Ru.cs(r:Ru):List Value:=[.int .u8 r.k,.bool r.bg,.bool r.en,.int .u8 r.t.k,.int .u64 r.t.s0,.int .u64 r.t.s1,.int .u64 r.t.s2,.int .u64 r.t.s3,.int .i64 r.t.mn,.int .i64 r.t.mx,.slice r.t.a r.t.subs.length r.t.c,.string r.s,.int .i64 r.n,.slice r.aa r.acts.length r.ac,.string r.go,.int .i64 r.code]
structure Sta where
 s:ByteArray
 ra:Option Addr
 rc:Nat
 rules:List Ru
def Sta.cs(x:Sta):List Value:=[.string x.s,.slice x.ra x.rules.length x.rc]
structure Va where
 s:ByteArray
 b:Bool
 t:ByteArray
 x:Nat
def Va.cs(v:Va):List Value:=[.string v.s,.bool v.b,.string v.t,.float .f64 v.x]
structure Sc where
 n:Int
 va:Option Addr
 vc:Nat
 vars:List Va
 sa:Option Addr
 sc:Nat
 states:List Sta
def Sc.cs(s:Sc):List Value:=[.int .i64 s.n,.slice s.va s.vars.length s.vc,.slice s.sa s.states.length s.sc]
def Sc.v(s:Sc):Value:=.agg #[.int .i64 s.n,.slice s.va s.vars.length s.vc,.slice s.sa s.states.length s.sc]
theorem Pt.len(p:Pt):p.cs.length=8:=rfl
theorem Ac.len(p:Ac):p.cs.length=8:=rfl
theorem Ru.len(p:Ru):p.cs.length=16:=rfl
theorem Sta.len(p:Sta):p.cs.length=2:=rfl
theorem Va.len(p:Va):p.cs.length=4:=rfl
def I64(n:Int):Prop:=-9223372036854775808<=n/\n<=9223372036854775807
def few:Nat:=100000
structure RepP (m:Mem)(p:Pt):Prop where
 k:0<=p.k/\p.k < 256
 s:p.s.size<=1000000000000000
 g:I64 p.g
 e:RepE m p.e
structure RepA (m:Mem)(a:Ac):Prop where
 k:0<=a.k/\a.k < 256
 s:a.s.size<=1000000000000000
 n:a.parts.length<=few
 row:rowRd m a.pa (a.parts.map Pt.cs).flatten
 all:∀p∈a.parts,RepP m p
 e:RepE m a.e
structure RepR (m:Mem)(r:Ru):Prop where
 k:0<=r.k/\r.k < 256
 t:Rep m r.t
 s:r.s.size<=1000000000000000
 n:I64 r.n
 len:r.acts.length<=few
 row:rowRd m r.aa (r.acts.map Ac.cs).flatten
 all:∀p∈r.acts,RepA m p
 go:r.go.size<=1000000000000000
 code:I64 r.code
structure RepS (m:Mem)(x:Sta):Prop where
 s:x.s.size<=1000000000000000
 len:x.rules.length<=few
 row:rowRd m x.ra (x.rules.map Ru.cs).flatten
 all:∀p∈x.rules,RepR m p
structure RepV (v:Va):Prop where
 s:v.s.size<=1000000000000000
 t:v.t.size<=1000000000000000
structure RepC (m:Mem)(s:Sc):Prop where
 n:I64 s.n
 vlen:s.vars.length<=few
 vrow:rowRd m s.va (s.vars.map Va.cs).flatten
 vall:∀v∈s.vars,RepV v
 len:s.states.length<=few
 row:rowRd m s.sa (s.states.map Sta.cs).flatten
 all:∀x∈s.states,RepS m x
 vcap:s.vars.length<=s.vc
 scap:s.states.length<=s.sc
section
variable {m m':Mem} (h:m.le m')
include h
theorem RepP.mono{p:Pt}(x:RepP m p):RepP m' p:=⟨x.k,x.s,x.g,RepE.mono h _ x.e⟩
theorem RepA.mono{p:Ac}(x:RepA m p):RepA m' p:=⟨x.k,x.s,x.n,x.row.mono h,λp hp=>(x.all p hp).mono h,RepE.mono h _ x.e⟩
theorem RepR.mono{p:Ru}(x:RepR m p):RepR m' p:=⟨x.k,x.t.mono h,x.s,x.n,x.len,x.row.mono h,λp hp=>(x.all p hp).mono h,x.go,x.code⟩
theorem RepS.mono{p:Sta}(x:RepS m p):RepS m' p:=⟨x.s,x.len,x.row.mono h,λp hp=>(x.all p hp).mono h⟩
theorem RepC.mono{p:Sc}(x:RepC m p):RepC m' p:=⟨x.n,x.vlen,x.vrow.mono h,x.vall,x.len,x.row.mono h,λp hp=>(x.all p hp).mono h,x.vcap,x.scap⟩
end
def nE(e:E):Int:=if e.light then e.size else 20001
def ZaU:List Int->Int
 | []=>0
 | x::l=>x+ZaU l
theorem ZoM(l r:List Int):ZaU (l++r)=ZaU l+ZaU r:=by
 induction l with
 | nil=>simp[ZaU]
 | cons x l ih=>simp only[List.cons_append,ZaU,ih];omega
theorem Ze4{α:Type}{l:List α}{i:Nat}{x:α}(f:α->Int)(h:l[i]?=some x):ZaU ((l.take (i+1)).map f)=ZaU ((l.take i).map f)+f x:=by
 rw[List.take_add_one,h,List.map_append,ZoM];simp[ZaU]
theorem ZfJ{α:Type}(f:α->Int)(hf:∀x,0<=f x):∀l:List α,0<=ZaU (l.map f)
 | []=>by simp[ZaU]
 | x::l=>by
  have:=ZfJ f hf l;have:=hf x
  simp only[List.map_cons,ZaU];omega
theorem Zk0{α:Type}(f:α->Int)(hf:∀x,0<=f x)(l:List α)(i:Nat):ZaU ((l.take i).map f)<=ZaU (l.map f):=by
 have e:ZaU (l.map f)=ZaU ((l.take i).map f)+ZaU ((l.drop i).map f):=by rw[<-ZoM,<-List.map_append,List.take_append_drop]
 have:=ZfJ f hf (l.drop i)
 omega
def wA(a:Ac):Int:=1+nE a.e+a.parts.length+ZaU (a.parts.map λp=>nE p.e)
def wR(r:Ru):Int:=1+Zhd r.t.size 20000+(if r.t.light then 0 else 20001)+ZaU (r.acts.map wA)
theorem ZpX(e:E):0<=nE e/\nE e<=20001:=by
 unfold nE E.size E.light
 split
 ·rename_i h
  simp only[decide_eq_true_eq]at h
  first|omega|(rw[if_pos (by simpa using h)];omega)
 ·omega
theorem Zki(t:T):0<=t.size/\t.size<=10001:=by
 unfold T.size T.light
 split
 ·rename_i h;simp only[decide_eq_true_eq]at h;omega
 ·omega
theorem Zz8(a:Ac):0<=wA a:=by
 have:=(ZpX a.e).1
 have:=ZfJ (λp:Pt=>nE p.e) (λp=>(ZpX p.e).1) a.parts
 unfold wA;omega
theorem Zz9(r:Ru):0<=wR r:=by
 have:=ZfJ wA Zz8 r.acts
 have h1:=(Zki r.t).1
 have:0<=Zhd r.t.size 20000:=by unfold Zhd;split <;> omega
 unfold wR;split <;> omega
def wS(x:Sta):Int:=ZaU (x.rules.map wR)
theorem ZCU(x:Sta):0<=wS x:=ZfJ wR Zz9 _
def Sc.weight(s:Sc):Int:=s.vars.length+s.states.length+ZaU (s.states.map wS)
def Sc.light(s:Sc):Bool:=decide (s.weight<=20000)
structure Pl where
 v:Int
 s:Int
 r:Int
 a:Int
 p:Int
deriving DecidableEq
def Pl.cs(p:Pl):List Value:=[.int .i64 p.v,.int .i64 p.s,.int .i64 p.r,.int .i64 p.a,.int .i64 p.p]
def top:Pl:=⟨-1,-1,-1,-1,-1⟩
def ZdN(n:Nat)(f:Nat->List Pl):List Pl:=(List.range n).flatMap f
def plA(i k m:Nat)(a:Ac):List Pl:=⟨-1,i,k,m,-1⟩::ZdN a.parts.length λn=>[⟨-1,i,k,m,n⟩]
def plR(i k:Nat)(r:Ru):List Pl:=⟨-1,i,k,-1,-1⟩::ZdN r.acts.length λm=>match r.acts[m]? with
 | some a=>plA i k m a
 | none=>[]
def plS(i:Nat)(x:Sta):List Pl:=⟨-1,i,-1,-1,-1⟩::ZdN x.rules.length λk=>match x.rules[k]? with
 | some r=>plR i k r
 | none=>[]
def Sc.places(s:Sc):List Pl:=if s.light then top::(ZdN s.vars.length (λi=>[⟨i,-1,-1,-1,-1⟩])++ZdN s.states.length λi=>match s.states[i]? with
 | some x=>plS i x
 | none=>[])else[]
def Zcv:List (Int×Bool)->Int
 | []=>0
 | (e,w)::l=>if w then e else Zcv l
def ZbN(n a b:Int):Bool:=decide (n ≥ a)&&decide (n<=b)
def eqS(a b:ByteArray):Bool:=a.toList == b.toList
def Zzs(c:UInt8):Bool:=(decide (97<=c.toNat)&&decide (c.toNat<=122))||(decide (48<=c.toNat)&&decide (c.toNat<=57))||c.toNat == 95
def Znz:List ByteArray:=[⟨#[109,105,110]⟩,⟨#[109,97,120]⟩,⟨#[110,117,109]⟩]
def ZcQ(s:ByteArray):Bool:=!(s.size == 0||decide (s.size > 16)||decide ((s.data.toList.getD 0 0).toNat < 97)||decide ((s.data.toList.getD 0 0).toNat > 122)||Znz.any λw=>eqS w s)&&s.data.toList.all Zzs
def ZcU(s:Sc)(name:ByteArray):Bool×Bool:=match s.vars.find? λv=>eqS v.s name with
 | some v=>(v.b,true)
 | none=>(false,false)
def ZcZ(s:Sc)(e:E):Bool:=!e.vars.any λn=>!(ZcU s n).1
def ZmR(e:E):Bool:=e.light&&(E0.light&&e.same E0)
def Zk1(k:Int):Int:=if k=1 then 1 else if 2<=k/\k<=7 then 2 else 0
def Zk2:List E->Bool
 | u::_=>u.k == 8
 | []=>false
def E.right(t:E):Bool:=!(t.k == 0)&&(decide (t.k<=10)&&((if t.k=9 then ZcQ t.s else t.s.size == 0)&&((if t.k=8 then ZfI t.x else ZmO t.x 0)&&((if t.k=10 then decide (t.g ≥ 0)&&decide (t.g<=9)else t.g == 0)&&((t.subs.length:Int) == Zk1 t.k&&!(t.k == 1&&(t.subs.length == 1&&Zk2 t.subs)))))))
def E.clean(t:E):Bool:=t.light&&t.nodes.all E.right
def ZnA(s:Sc):Int:=Zcv [(300,!ZbN s.n 2 256),(302,!ZbN s.states.length 1 24||decide (s.vars.length > 12))]
def ZfK(v:Va):Bool:=if v.b then ZfI v.x&&v.t.size == 0 else v.x == 0&&decide (v.t.size<=512)
def ZfL(s:Sc)(i:Nat)(v:Va):Int:=Zcv [(301,!ZcQ v.s||(!ZfK v||(s.vars.take i).any λx=>eqS x.s v.s))]
def ZhG(s:Sc)(i:Nat)(x:Sta):Int:=Zcv [(303,!ZcQ x.s||(decide (x.rules.length > 12)||(s.states.take i).any λy=>eqS y.s x.s))]
def Zzt(r:Ru):Bool:=r.bg||(r.en||!(r.t.light&&(T0.light&&r.t.same T0)))
def Za3(r:Ru):Bool:=if r.k=2 then !Zzt r&&(r.n == 0&&ZbN r.s.size 1 64)else if r.k=4 then !Zzt r&&(r.s.size == 0&&ZbN r.n 1 1000)else if r.k=3 then !Zzt r&&(r.s.size == 0&&r.n == 0)else if r.k=1 then r.s.size == 0&&r.n == 0 else false
def Zcg(r:Ru):Int:=if r.k=1 then r.t.groups else if r.k=2 then 0 else -1
def Zkj(s:Sc)(name:ByteArray):Bool:=(s.states.any λx=>eqS x.s name)&&s.light
def Zk3(s:Sc)(r:Ru)(total:Int):Int:=Zcv [(304,!Za3 r||decide (r.acts.length > 8)),(305,r.k == 1&&(!(r.t.check == 0)||decide (total > 600))),
 (306,if r.go.size=0 then !ZbN r.code 0 255 else !Zkj s r.go||!(r.code == 0))]
def ZcS(s:Sc)(r:Ru)(a:Ac):Int:=Zcv [(307,!ZbN a.k 1 3||(a.k == 1&&!(a.s.size == 0))||(a.k == 3&&decide (a.parts.length > 0))||(a.k == 3&&!a.e.clean)||(!(a.k == 3)&&!ZmR a.e)||decide (a.parts.length > 16)),
 (308,(!(a.k == 1)&&(!(ZcU s a.s).2||!((ZcU s a.s).1 == (a.k == 3))))||(a.k == 3&&!ZcZ s a.e)),(309,a.k == 3&&decide (a.e.most > Zcg r))]
def Zbu(p:Pt):Bool:=if p.k=1 then decide (p.s.size > 0)&&(decide (p.s.size<=512)&&(p.g == 0&&ZmR p.e))else if p.k=2 then ZcQ p.s&&(p.g == 0&&ZmR p.e)else if p.k=3 then decide (p.g ≥ 0)&&(decide (p.g<=9)&&(p.s.size == 0&&ZmR p.e))else if p.k=4 then p.e.clean&&(p.s.size == 0&&p.g == 0)else false
def Zkk(s:Sc)(r:Ru)(l:List Pt)(i:Nat)(p:Pt):Int:=Zcv [(307,!Zbu p||(decide (i > 0)&&(p.k == 1&&(match l[i - 1]? with
 | some q=>q.k == 1
 | none=>false)))),(308,(p.k == 2&&!(ZcU s p.s).2)||(p.k == 4&&!ZcZ s p.e)),(309,(p.k == 3&&decide (p.g > Zcg r))||(p.k == 4&&decide (p.e.most > Zcg r)))]
def sizeR(r:Ru):Int:=if r.k=1 then r.t.size else 0
def totals(s:Sc)(i k:Nat):Int:=ZaU ((s.states.take i).map λx=>ZaU (x.rules.map sizeR))+(match s.states[i]? with
 | some x=>ZaU ((x.rules.take (k+1)).map sizeR)
 | none=>0)
def atS(s:Sc)(p:Pl):Int:=if p.v ≥ 0 then(match s.vars[p.v.toNat]? with
  | some v=>ZfL s p.v.toNat v
  | none=>0)else if p.s < 0 then ZnA s else match s.states[p.s.toNat]? with
  | none=>0
  | some x=>if p.r < 0 then ZhG s p.s.toNat x else match x.rules[p.r.toNat]? with
   | none=>0
   | some r=>if p.a < 0 then Zk3 s r (totals s p.s.toNat p.r.toNat)else match r.acts[p.a.toNat]? with
    | none=>0
    | some a=>if p.p < 0 then ZcS s r a else match a.parts[p.p.toNat]? with
     | none=>0
     | some q=>Zkk s r a.parts p.p.toNat q
def Sc.problems(s:Sc):List (Pl×Int):=s.places.filterMap λp=>if atS s p=0 then none else some (p,atS s p)
def Sc.check(s:Sc):Pl×Int:=if s.light then(match s.problems with
 | p::_=>p
 | []=>(top,0))else(top,5)
theorem Zcp(n:Nat)(f:Nat->List Pl):ZdN (n+1) f=ZdN n f++f n:=by simp[ZdN,List.range_succ,List.flatMap_append]
theorem Ztt{i n:Nat}(h:i<=n)(f:Nat->List Pl):(ZdN i f).length<=(ZdN n f).length:=by
 induction n with
 | zero=>
  obtain rfl:i=0:=by omega
  exact Nat.le_refl _
 | succ n ih=>
  by_cases e:i=n+1
  ·rw[e];exact Nat.le_refl _
  ·have:=ih (by omega)
   rw[Zcp,zA1];omega
theorem Zgw(n:Nat)(f:Nat->Pl):(ZdN n λi=>[f i]).length=n:=by
 induction n with
 | zero=>rfl
 | succ n ih=>rw[Zcp,zA1,ih];rfl
theorem ZoN{α:Type}(l:List α)(F:Nat->List Pl)(g:Nat->α->List Pl)(w:α->Int)(hF:∀i x,l[i]?=some x->F i=g i x)(hw:∀i x,x∈l->((g i x).length:Int)<=w x):∀k,k<=l.length->((ZdN k F).length:Int)<=ZaU ((l.take k).map w):=by
 intro k
 induction k with
 | zero=>intro _;simp[ZdN,ZaU]
 | succ k ih=>
  intro hk
  have:=ih (by omega)
  have hx:l[k]?=some l[k]:=zA3 (by omega)
  have h2:=hw k l[k] (List.getElem_mem _)
  rw[Zcp,zA1,Ze4 w hx,hF k _ hx]
  push_cast
  omega
def Hf(i k:Nat)(r:Ru)(m:Nat):List Pl:=match r.acts[m]? with
 | some a=>plA i k m a
 | none=>[]
def Gf(i:Nat)(x:Sta)(k:Nat):List Pl:=match x.rules[k]? with
 | some r=>plR i k r
 | none=>[]
def Ff(s:Sc)(i:Nat):List Pl:=match s.states[i]? with
 | some x=>plS i x
 | none=>[]
def Pf(i k m n:Nat):List Pl:=[⟨-1,i,k,m,n⟩]
def Vf(i:Nat):List Pl:=[⟨i,-1,-1,-1,-1⟩]
theorem Zvg(i k m:Nat)(a:Ac):plA i k m a=⟨-1,i,k,m,-1⟩::ZdN a.parts.length (Pf i k m):=rfl
theorem Zvh(i k:Nat)(r:Ru):plR i k r=⟨-1,i,k,-1,-1⟩::ZdN r.acts.length (Hf i k r):=rfl
theorem Zvi(i:Nat)(x:Sta):plS i x=⟨-1,i,-1,-1,-1⟩::ZdN x.rules.length (Gf i x):=rfl
theorem Zk4{s:Sc}(h:s.light=true):s.places=top::(ZdN s.vars.length Vf++ZdN s.states.length (Ff s)):=by unfold Sc.places;rw[if_pos h];rfl
theorem ZmS(s:Sc):s.places.length<=20001:=by
 cases h:s.light with
 | false=>unfold Sc.places;rw[h];simp
 | true=>
  have hw:s.weight<=20000:=by unfold Sc.light at h;exact zA6 h
  rw[Zk4 h,List.length_cons,zA1]
  have h1:(ZdN s.vars.length Vf).length=s.vars.length:=Zgw _ _
  have hA:∀i k m (a:Ac),((plA i k m a).length:Int)<=wA a:=λi k m a=>by
   rw[Zvg,List.length_cons,show(ZdN a.parts.length (Pf i k m)).length=a.parts.length from Zgw _ _]
   have:=(ZpX a.e).1
   have:=ZfJ (λp:Pt=>nE p.e) (λp=>(ZpX p.e).1) a.parts
   unfold wA;push_cast;omega
  have hR:∀i k (r:Ru),((plR i k r).length:Int)<=wR r:=λi k r=>by
   rw[Zvh,List.length_cons]
   have:=ZoN r.acts (Hf i k r) (plA i k) wA (λm a h=>by unfold Hf;rw[h]) (λj x _=>hA i k j x) r.acts.length (Nat.le_refl _)
   rw[List.take_length]at this
   have h1:=(Zki r.t).1
   have h2:0<=Zhd r.t.size 20000:=by unfold Zhd;split <;> omega
   have h3:((ZdN r.acts.length (Hf i k r)).length:Int)<=ZaU (r.acts.map wA):=this
   unfold wR;push_cast;split <;> omega
  have hS:∀i (x:Sta),((plS i x).length:Int)<=1+wS x:=λi x=>by
   rw[Zvi,List.length_cons]
   have:=ZoN x.rules (Gf i x) (plR i) wR (λm a h=>by unfold Gf;rw[h]) (λj x _=>hR i j x) x.rules.length (Nat.le_refl _)
   rw[List.take_length]at this
   have h3:((ZdN x.rules.length (Gf i x)).length:Int)<=ZaU (x.rules.map wR):=this
   unfold wS;push_cast;omega
  have:=ZoN s.states (Ff s) plS (λx=>1+wS x) (λm a h=>by unfold Ff;rw[h]) (λj x _=>hS j x) s.states.length (Nat.le_refl _)
  rw[List.take_length]at this
  have h3:((ZdN s.states.length (Ff s)).length:Int)<=ZaU (s.states.map λx=>1+wS x):=this
  have h4:∀l:List Sta,ZaU (l.map λx=>1+wS x)=l.length+ZaU (l.map wS):=λl=>by
   induction l with
   | nil=>rfl
   | cons x l ih=>simp only[List.map_cons,ZaU,ih,List.length_cons];push_cast;omega
  rw[h4]at h3
  unfold Sc.weight at hw
  omega
theorem ZiP{n:Nat}{f:Nat->List Pl}{p:Pl}(h:p∈ZdN n f):∃i,i < n/\p∈f i:=by
 unfold ZdN at h
 obtain⟨i,hi,hp⟩:=List.mem_flatMap.1 h
 exact⟨i,List.mem_range.1 hi,hp⟩
def ZD7(s:Sc)(p:Pl):Prop:=(∃i:Nat,p.v=i/\∃v,s.vars[i]?=some v)\/(p.v < 0/\(p.s < 0\/∃i:Nat,p.s=i/\∃x,s.states[i]?=some x/\(p.r < 0\/∃k:Nat,p.r=k/\∃r,x.rules[k]?=some r/\(p.a < 0\/∃j:Nat,p.a=j/\∃a,r.acts[j]?=some a/\(p.p < 0\/∃n:Nat,p.p=n/\∃q,a.parts[n]?=some q)))))
theorem ZB8:(-1:Int) < 0:=by decide
theorem Zzu{α:Type}{l:List α}{n:Nat}(h:n < l.length):∃c,l[n]?=some c:=⟨_,zA3 h⟩
theorem ZpY(s:Sc):∀p∈s.places,ZD7 s p:=by
 intro p hp
 cases h:s.light with
 | false=>unfold Sc.places at hp;rw[h]at hp;simp at hp
 | true=>
  rw[Zk4 h]at hp
  rcases List.mem_cons.1 hp with rfl|hp
  ·exact .inr ⟨by decide,.inl (by decide)⟩
  rcases List.mem_append.1 hp with hp|hp
  ·obtain⟨i,hi,hp⟩:=ZiP hp
   obtain rfl:p=⟨i,-1,-1,-1,-1⟩:=by simpa[Vf]using hp
   exact .inl ⟨i,rfl,Zzu hi⟩
  ·obtain⟨i,hi,hp⟩:=ZiP hp
   obtain⟨x,hx⟩:=Zzu hi
   have hp:p∈plS i x:=by unfold Ff at hp;rw[hx]at hp;exact hp
   rw[Zvi]at hp
   rcases List.mem_cons.1 hp with rfl|hp
   ·exact .inr ⟨ZB8,.inr ⟨i,rfl,x,hx,.inl (ZB8)⟩⟩
   obtain⟨k,hk,hp⟩:=ZiP hp
   obtain⟨r,hr⟩:=Zzu hk
   have hp:p∈plR i k r:=by unfold Gf at hp;rw[hr]at hp;exact hp
   rw[Zvh]at hp
   rcases List.mem_cons.1 hp with rfl|hp
   ·exact .inr ⟨ZB8,.inr ⟨i,rfl,x,hx,.inr ⟨k,rfl,r,hr,.inl (ZB8)⟩⟩⟩
   obtain⟨j,hj,hp⟩:=ZiP hp
   obtain⟨a,ha⟩:=Zzu hj
   have hp:p∈plA i k j a:=by unfold Hf at hp;rw[ha]at hp;exact hp
   rw[Zvg]at hp
   rcases List.mem_cons.1 hp with rfl|hp
   ·exact .inr ⟨ZB8,.inr ⟨i,rfl,x,hx,.inr ⟨k,rfl,r,hr,.inr ⟨j,rfl,a,ha,.inl (ZB8)⟩⟩⟩⟩
   obtain⟨n,hn,hp⟩:=ZiP hp
   obtain rfl:p=⟨-1,i,k,j,n⟩:=by simpa[Pf]using hp
   exact .inr ⟨ZB8,.inr ⟨i,rfl,x,hx,.inr ⟨k,rfl,r,hr,.inr ⟨j,rfl,a,ha,.inr ⟨n,rfl,Zzu hn⟩⟩⟩⟩⟩
end Go.Rx
namespace Go.Rx
open Go Go.Eng Go.RowKit
def T.good(t:T):Bool:=t.nodes.all T.right
def isG(t:T):Bool:=t.k == 6
theorem ZmT(p:T->Bool):∀l:List T,(ZaB l).all p=l.all λt=>t.nodes.all p
 | []=>rfl
 | t::l=>by simp only[ZaB,List.all_append,List.all_cons,ZmT p l]
theorem ZpZ(t:T):t.good=(t.right&&t.subs.all T.good):=by
 unfold T.good;rw[ZcM,List.all_cons,ZmT]
def grL(l:List T):Nat:=(ZaB l).countP isG
def szL(l:List T):Nat:=(ZaB l).length
def T.gr(t:T):Nat:=t.nodes.countP isG
theorem ZaI(l r:List T):szL (l++r)=szL l+szL r:=by unfold szL;rw[Zdl,zA1]
theorem ZbK(l r:List T):grL (l++r)=grL l+grL r:=by unfold grL;rw[Zdl,List.countP_append]
theorem Zbt(t:T):szL [t]=t.nodes.length:=by simp[szL,ZaB]
theorem Zdm(t:T):grL [t]=t.gr:=by simp[grL,ZaB,T.gr]
theorem ZcO(t:T):Ze2 [t]=t.pos:=by simp[Ze2]
theorem Ze5(t:T)(l:List T):szL (t::l)=t.nodes.length+szL l:=by simp[szL,ZaB]
theorem Ztu(t:T)(l:List T):grL (t::l)=t.gr+grL l:=by simp[grL,ZaB,T.gr,List.countP_append]
theorem Zk5(t:T):t.nodes.length=1+szL t.subs:=by rw[ZcM,List.length_cons,szL];omega
theorem Zzv(t:T):t.gr=(if isG t=true then 1 else 0)+grL t.subs:=by
 unfold T.gr;rw[ZcM,List.countP_cons,grL];omega
theorem Zp0(l:List T):l.length<=szL l:=by
 induction l with
 | nil=>simp
 | cons t l ih=>rw[Ze5,Zk5,List.length_cons];omega
def Zbc(k:Int)(t:T):List T:=if t.k=k then t.subs else if k=3/\t.k=1 then[]else[t]
def ZfM(k:Int)(a:Option Addr)(c:Nat):List T->T
 | []=>T1
 | [x]=>x
 | x::y::l=>Zcn k 0 0 a c (x::y::l)
theorem Zk6{t:T}{k:Int}(h:t.has k=false):∀x∈t.subs,x.k≠k:=by
 intro x hx e
 unfold T.has at h
 have:=List.any_eq_false.1 h x hx
 simp[e]at this
theorem ZxY{t:T}{k:Int}(h:∀x∈t.subs,x.k≠k):t.has k=false:=by
 unfold T.has
 rw[List.any_eq_false]
 intro x hx
 have:=h x hx
 simpa using this
theorem Zk7{k:Int}{t:T}(hk:k=3\/k=4)(hg:t.good=true)(hp:t.pos<=10000):(∀x∈Zbc k t,x.good=true/\x.k≠k/\(k=3->x.k≠1))/\szL (Zbc k t)<=t.nodes.length/\grL (Zbc k t)<=t.gr/\Ze2 (Zbc k t)<=t.pos:=by
 have hg':=hg
 rw[ZpZ,zA7,List.all_eq_true]at hg'
 unfold Zbc
 split
 ·rename_i dK
  refine⟨λx hx=>⟨hg'.2 x hx,?_⟩,by rw[Zk5];omega,by rw[Zzv];omega,?_⟩
  ·have hr:=hg'.1
   unfold T.right at hr
   rw[zA7]at hr
   have hr:=hr.2
   rcases hk with rfl|rfl
   ·simp only[dK]at hr
    simp at hr
    exact⟨Zk6 hr.2.2 x hx,λ_=>Zk6 hr.2.1 x hx⟩
   ·simp only[dK]at hr
    simp at hr
    exact⟨Zk6 hr.2 x hx,λh=>by omega⟩
  ·rw[Zsi]at hp ⊢
   have h5:¬t.k=5:=by omega
   have h2:¬t.k=2:=by omega
   unfold Zzq at hp ⊢
   rw[if_neg h5,if_neg h2,Int.zero_add]at hp ⊢
   unfold Zhd at hp ⊢
   split at hp
   ·omega
   ·split <;> omega
 ·rename_i dK
  split
  ·refine⟨λx hx=>by simp at hx,by simp[szL,ZaB],by simp[grL,ZaB],?_⟩
   simp only[Ze2];exact(Zi6 t).1
  ·rename_i vP
   refine⟨λx hx=>?_,by rw[Zbt];exact Nat.le_refl _,by rw[Zdm];exact Nat.le_refl _,by rw[ZcO];exact Int.le_refl _⟩
   simp at hx;subst hx
   exact⟨hg,dK,λh=>λh1=>vP ⟨h,h1⟩⟩
theorem Zp1{k:Int}(hk:k=3\/k=4)(a:Option Addr)(c:Nat):∀{l:List T},(∀x∈l,x.good=true/\x.k≠k/\(k=3->x.k≠1))->(ZfM k a c l).good=true/\(ZfM k a c l).nodes.length<=1+szL l/\(ZfM k a c l).gr<=grL l/\(ZfM k a c l).pos<=Ze2 l
 | [],_=>⟨show T1.good=true by decide,show T1.nodes.length<=1 by decide,show T1.gr<=0 by decide,show T1.pos<=0 by decide⟩
 | [x],h=>by
  rw[Zbt,Zdm,ZcO]
  exact⟨(h x (by simp)).1,by show x.nodes.length<=_;omega,Nat.le_refl _,Int.le_refl _⟩
 | x::y::l,h=>by
  show(Zcn k 0 0 a c (x::y::l)).good=true/\(Zcn k 0 0 a c (x::y::l)).nodes.length<=_/\(Zcn k 0 0 a c (x::y::l)).gr<=_/\(Zcn k 0 0 a c (x::y::l)).pos<=_
  have hs:(Zcn k 0 0 a c (x::y::l)).subs=x::y::l:=rfl
  have dK:(Zcn k 0 0 a c (x::y::l)).k=k:=rfl
  have hz:(Zcn k 0 0 a c (x::y::l)).setZ=true:=rfl
  have ua:(Zcn k 0 0 a c (x::y::l)).mn=0:=rfl
  have lR:(Zcn k 0 0 a c (x::y::l)).mx=0:=rfl
  refine⟨?_,by rw[Zk5,hs];exact Nat.le_refl _,?_,?_⟩
  ·rw[ZpZ,zA7,List.all_eq_true,hs]
   refine⟨?_,λz hz=>(h z hz).1⟩
   have h1:k=3->(Zcn k 0 0 a c (x::y::l)).has 1=false:=λe=>ZxY λz hz=>(h z hz).2.2 e
   have h2:(Zcn k 0 0 a c (x::y::l)).has k=false:=ZxY λz hz=>(h z hz).2.1
   unfold T.right
   rw[dK,hz,ua,lR,hs]
   rcases hk with rfl|rfl
   ·simp[h1 rfl,h2]
   ·simp[h2]
  ·rw[Zzv,hs,isG,dK]
   rcases hk with rfl|rfl <;> simp
  ·rw[Zsi,dK,ua,lR,hs]
   unfold Zzq
   rw[if_neg (by omega),if_neg (by omega),Int.zero_add]
   exact(ZmL _ _).1
structure J (i:Nat)(ts:List T)(u g:Nat):Prop where
 good:∀t∈ts,t.good=true
 sz:szL ts<=i
 pos:Ze2 ts<=(i*u:Nat)
 u1:1<=u
 u16:u<=16
 gr:grL ts<=g
 g9:g<=9
theorem J.zero:J 0 [] 1 0:=⟨by simp,by simp[szL,ZaB],by simp[Ze2],by omega,by omega,by simp[grL,ZaB],by omega⟩
theorem J.skip{i ts u g}(h:J i ts u g):J (i+1) ts u g:=
 ⟨h.good,by have:=h.sz;omega,by have:=h.pos;have e:(i+1)*u=i*u+u:=Nat.succ_mul i u;rw[e];omega,h.u1,h.u16,h.gr,h.g9⟩
theorem J.push{i ts u g}(h:J i ts u g){t:T}(hg:t.good=true)(hs:t.nodes.length=1)(hp:t.pos<=1)(hr:t.gr=0):J (i+1) (ts++[t]) u g:=by
 refine⟨λx hx=>?_,?_,?_,h.u1,h.u16,?_,h.g9⟩
 ·rcases List.mem_append.1 hx with hx|hx
  ·exact h.good x hx
  ·simp at hx;subst hx;exact hg
 ·rw[ZaI,Zbt,hs];have:=h.sz;omega
 ·rw[Zbn,ZcO];have:=h.pos;have:=h.u1;have e:(i+1)*u=i*u+u:=Nat.succ_mul i u;rw[e];omega
 ·rw[ZbK,Zdm,hr];have:=h.gr;omega
theorem J.pos400{i ts u g}(h:J i ts u g)(hi:i<=25):Ze2 ts<=400:=by
 have h1:=h.pos
 have:i*u<=25*16:=Nat.mul_le_mul hi h.u16
 omega
theorem J.join{i ts u g}{x y:T}(h:J i (ts++[x,y]) u g)(hi:i<=25){k:Int}(hk:k=3\/k=4)(a:Option Addr)(c:Nat):J (i+1) (ts++[ZfM k a c (Zbc k x++Zbc k y)]) u g:=by
 have h4:=h.pos400 hi
 have hz:=h.sz
 have hp:=h.pos
 have mg:=h.gr
 rw[show ts++[x,y]=ts++([x]++[y]) from rfl]at h4 hz hp mg
 rw[Zbn,Zbn,ZcO,ZcO]at h4 hp
 rw[ZaI,ZaI,Zbt,Zbt]at hz
 rw[ZbK,ZbK,Zdm,Zdm]at mg
 have n1:=ZhD ts
 have n2:=(Zi6 x).1
 have n3:=(Zi6 y).1
 obtain⟨a1,a2,a3,a4⟩:=Zk7 hk (h.good x (by simp)) (by omega)
 obtain⟨b1,b2,b3,b4⟩:=Zk7 hk (h.good y (by simp)) (by omega)
 obtain⟨c1,c2,c3,c4⟩:=Zp1 hk a c (l:=Zbc k x++Zbc k y) (λz hz=>by
  rcases List.mem_append.1 hz with hz|hz
  ·exact a1 z hz
  ·exact b1 z hz)
 rw[ZaI]at c2
 rw[ZbK]at c3
 rw[Zbn]at c4
 refine⟨λz hz=>?_,?_,?_,h.u1,h.u16,?_,h.g9⟩
 ·rcases List.mem_append.1 hz with hz|hz
  ·exact h.good z (by simp[hz])
  ·simp at hz;subst hz;exact c1
 ·rw[ZaI,Zbt];omega
 ·rw[Zbn,ZcO];have e:(i+1)*u=i*u+u:=Nat.succ_mul i u;rw[e];omega
 ·rw[ZbK,Zdm];omega
theorem J.group{i ts u g}{x:T}(h:J i (ts++[x]) u g)(hg:g < 9)(a:Option Addr)(c:Nat):J (i+1) (ts++[Zcn 6 0 0 a c [x]]) u (g+1):=by
 have hz:=h.sz
 have hp:=h.pos
 have mg:=h.gr
 rw[Zbn,ZcO]at hp
 rw[ZaI,Zbt]at hz
 rw[ZbK,Zdm]at mg
 have hs:(Zcn 6 0 0 a c [x]).subs=[x]:=rfl
 refine⟨λz hz=>?_,?_,?_,h.u1,h.u16,?_,by omega⟩
 ·rcases List.mem_append.1 hz with hz|hz
  ·exact h.good z (by simp[hz])
  ·simp at hz;subst hz
   rw[ZpZ,zA7,List.all_eq_true]
   refine⟨rfl,λz hz=>?_⟩
   rw[hs]at hz;simp at hz;subst hz
   exact h.good z (by simp)
 ·rw[ZaI,Zbt,Zk5,hs,Zbt];omega
 ·rw[Zbn,ZcO,Zsi,hs,ZcO]
  have:Zzq (Zcn 6 0 0 a c [x]).k (Zcn 6 0 0 a c [x]).mn (Zcn 6 0 0 a c [x]).mx ((if(Zcn 6 0 0 a c [x]).k=2 then 1 else 0)+x.pos)<=x.pos:=by
   show Zhd (if(6:Int)=5 then _ else(if(6:Int)=2 then 1 else 0)+x.pos) 10001<=_
   rw[if_neg (by omega),if_neg (by omega),Int.zero_add]
   exact(ZmL _ _).1
  have e:(i+1)*u=i*u+u:=Nat.succ_mul i u
  rw[e];omega
 ·rw[ZbK,Zdm,Zzv,hs,Zdm]
  split <;> omega
theorem J.rep{i ts u g}{x:T}(h:J i (ts++[x]) u g)(hx:x.k≠1){mn mx:Int}(hb:ZkW mn mx=true){w:Nat}(hw:ZxW mn mx<=w)(h1:1<=w)(hu:u*w<=16)(a:Option Addr)(c:Nat):J (i+1) (ts++[Zcn 5 mn mx a c [x]]) (u*w) g:=by
 have hz:=h.sz
 have hp:=h.pos
 have mg:=h.gr
 rw[Zbn,ZcO]at hp
 rw[ZaI,Zbt]at hz
 rw[ZbK,Zdm]at mg
 have hs:(Zcn 5 mn mx a c [x]).subs=[x]:=rfl
 have n1:=ZhD ts
 have n2:=(Zi6 x).1
 refine⟨λz hz=>?_,?_,?_,?_,hu,?_,h.g9⟩
 ·rcases List.mem_append.1 hz with hz|hz
  ·exact h.good z (by simp[hz])
  ·simp at hz;subst hz
   rw[ZpZ,zA7,List.all_eq_true]
   refine⟨?_,λz hz=>?_⟩
   ·have hh:(Zcn 5 mn mx a c [x]).has 1=false:=ZxY λz hz=>by rw[hs]at hz;simp at hz;subst hz;exact hx
    unfold T.right
    rw[hh,hs,show(Zcn 5 mn mx a c [x]).k=5 from rfl,show(Zcn 5 mn mx a c [x]).setZ=true from rfl,show(Zcn 5 mn mx a c [x]).mn=mn from rfl,show(Zcn 5 mn mx a c [x]).mx=mx from rfl,hb]
    simp
   ·rw[hs]at hz;simp at hz;subst hz
    exact h.good z (by simp)
 ·rw[ZaI,Zbt,Zk5,hs,Zbt];omega
 ·rw[Zbn,ZcO,Zsi,hs,ZcO]
  have key:Zzq (Zcn 5 mn mx a c [x]).k (Zcn 5 mn mx a c [x]).mn (Zcn 5 mn mx a c [x]).mx ((if(Zcn 5 mn mx a c [x]).k=2 then 1 else 0)+x.pos)<=x.pos*w:=by
   show Zhd (if(5:Int)=5 then((if(5:Int)=2 then 1 else 0)+x.pos)*ZxW mn mx else _) 10001<=_
   rw[if_pos rfl,if_neg (by omega),Int.zero_add]
   exact Int.le_trans (ZmL _ _).1 (Int.mul_le_mul_of_nonneg_left hw n2)
  have k2:Ze2 ts<=Ze2 ts*w:=by
   have:=Int.mul_le_mul_of_nonneg_left (show(1:Int)<=w by omega) n1
   rw[Int.mul_one]at this;exact this
  have k3:(Ze2 ts+x.pos)*w<=((i*u:Nat):Int)*w:=Int.mul_le_mul_of_nonneg_right hp (by omega)
  rw[Int.add_mul]at k3
  have e:(i+1)*(u*w)=i*u*w+u*w:=by rw[Nat.succ_mul,Nat.mul_assoc]
  have e2:(((i*u:Nat):Int)*w)=((i*u*w:Nat):Int):=by push_cast;rfl
  rw[e2]at k3
  rw[e]
  generalize i*u*w=A at *
  generalize u*w=B at *
  generalize Ze2 ts*(w:Int)=D at *
  generalize x.pos*(w:Int)=F at *
  omega
 ·have:=Nat.mul_le_mul h.u1 h1;omega
 ·rw[ZbK,Zdm,Zzv,hs,Zdm,isG,show(Zcn 5 mn mx a c [x]).k=5 from rfl]
  simp;omega
structure F (t:T)(l:List T):Prop where
 good:t.good=true
 goods:∀x∈l,x.good=true
 sz:t.nodes.length+szL l+l.length<=60
 pos:t.pos+Ze2 l<=400
 gr:t.gr+grL l<=9
theorem F.start{i u g}{t:T}{l:List T}(h:J i (t::l) u g)(hi:i<=25):F t l:=by
 have h1:=h.sz
 have h2:=h.pos400 hi
 have h3:=h.gr
 rw[Ze5]at h1
 rw[Ztu]at h3
 have:=Zp0 l
 have:=h.g9
 exact⟨h.good t (by simp),λx hx=>h.good x (by simp[hx]),by omega,by simpa[Ze2]using h2,by omega⟩
theorem F.step{t x:T}{l:List T}(h:F t (x::l))(a:Option Addr)(c:Nat):F (ZfM 4 a c (Zbc 4 t++Zbc 4 x)) l:=by
 have h1:=h.sz
 have h2:=h.pos
 have h3:=h.gr
 rw[Ze5,List.length_cons]at h1
 rw[Ztu]at h3
 simp only[Ze2]at h2
 have n1:=ZhD l
 have n2:=(Zi6 x).1
 have n3:=(Zi6 t).1
 obtain⟨a1,a2,a3,a4⟩:=Zk7 (.inr rfl) h.good (by omega) (t:=t)
 obtain⟨b1,b2,b3,b4⟩:=Zk7 (.inr rfl) (h.goods x (by simp)) (by omega)
 obtain⟨c1,c2,c3,c4⟩:=Zp1 (.inr rfl) a c (l:=Zbc 4 t++Zbc 4 x) (λz hz=>by
  rcases List.mem_append.1 hz with hz|hz
  ·exact a1 z hz
  ·exact b1 z hz)
 rw[ZaI]at c2
 rw[ZbK]at c3
 rw[Zbn]at c4
 exact⟨c1,λz hz=>h.goods z (by simp[hz]),by omega,by omega,by omega⟩
theorem F.done{t:T}{l:List T}(h:F t l):t.check=0:=by
 have h1:=h.sz
 have h2:=h.pos
 have h3:=h.gr
 have n1:=ZhD l
 have hl:t.light=true:=by unfold T.light;exact decide_eq_true (by omega)
 have hc:t.clean=true:=by unfold T.clean;rw[hl];exact h.good
 have hg:((t.nodes.countP λx=>x.k == 6:Nat))=t.gr:=rfl
 unfold T.check
 rw[hc]
 unfold T.size T.positions T.groups
 rw[hl,hg]
 simp only[if_true,Bool.true_eq_false,if_false]
 rw[if_neg (by omega),if_neg (by omega),if_neg (by omega)]
theorem Ztv(n:Nat):(ZkY (ZdG n)).good=true/\(ZkY (ZdG n)).nodes.length=1/\(ZkY (ZdG n)).pos<=1/\(ZkY (ZdG n)).gr=0:=by
 have h:n % 12=0\/n % 12=1\/n % 12=2\/n % 12=3\/n % 12=4\/n % 12=5\/n % 12=6\/n % 12=7\/n % 12=8\/n % 12=9\/n % 12=10\/n % 12=11:=by omega
 unfold ZdG
 rcases h with e|e|e|e|e|e|e|e|e|e|e|e <;> rw[e] <;> exact⟨by decide,by decide,by decide,by decide⟩
theorem ZAa:T1.good=true/\T1.nodes.length=1/\T1.pos<=1/\T1.gr=0:=⟨by decide,by decide,by decide,by decide⟩
theorem ZeH{k:Int}{t:T}:(Zbc k t).length<=t.nodes.length:=by
 unfold Zbc
 have:=ZwV t
 have:=Zk5 t
 split
 ·omega
 ·split <;> simp <;> omega
end Go.Rx
namespace Go.Rx
open Go Go.Eng
set_option maxRecDepth 100000
def Zkv:List ByteArray:=[⟨#[120]⟩,⟨#[121]⟩,⟨#[122,95,49]⟩,⟨#[97,98,99,100,101,102,103,104,105,106,107,108,109,110,111,112]⟩]
def Zfq:List ByteArray:=[⟨#[115]⟩,⟨#[116]⟩]
def Zzy:List ByteArray:=[⟨#[97]⟩,⟨#[98]⟩,⟨#[99]⟩,⟨#[100]⟩]
def okN(c:Int)(x:E):Prop:=x.right=true/\(x.k=9->x.s∈Zkv)/\(x.k=10->x.g<=c)
structure MkE (c:Int)(n:Nat)(e:E):Prop where
 all:∀x∈e.nodes,okN c x
 len:e.nodes.length<=n
def ZCV(x:Nat):E:=.node 8 x .empty 0 none 0 []
def ZBn(s:ByteArray):E:=.node 9 0 s 0 none 0 []
def ZDz(g:Int):E:=.node 10 0 .empty g none 0 []
def ZBo(a:Option Addr)(c:Nat)(x:E):E:=.node 1 0 .empty 0 a c [x]
def opE(k:Int)(a:Option Addr)(c:Nat)(x y:E):E:=.node k 0 .empty 0 a c [x,y]
theorem MkE.mono{c n k e}(h:MkE c n e)(hk:n<=k):MkE c k e:=⟨h.all,Nat.le_trans h.len hk⟩
theorem ZoO{c:Int}{k x s g a d}(h:okN c (.node k x s g a d [])):MkE c 1 (.node k x s g a d []):=by
 refine⟨λy hy=>?_,by simp[E.nodes,Zap]⟩
 simp only[E.nodes,Zap,List.mem_singleton]at hy
 rw[hy];exact h
theorem Zvj:ZmO 0 0=true:=by decide +kernel
theorem Zw0{c:Int}{x:Nat}(h:ZfI x=true):MkE c 1 (ZCV x):=by
 refine ZoO ⟨?_,λe=>absurd (show(8:Int)=9 from e) (by decide),λe=>absurd (show(8:Int)=10 from e) (by decide)⟩
 simp[E.right,E.k,E.s,E.x,E.g,E.subs,Zk1,h]
theorem Ztw:∀s∈Zkv,ZcQ s=true:=by decide +kernel
theorem Zw1:∀s∈Zfq,ZcQ s=true:=by decide +kernel
theorem ZAb:∀s∈Zzy,ZcQ s=true:=by decide +kernel
theorem Zw2{c:Int}{s:ByteArray}(h:s∈Zkv):MkE c 1 (ZBn s):=by
 refine ZoO ⟨?_,λ_=>h,λe=>absurd (show(9:Int)=10 from e) (by decide)⟩
 simp[E.right,E.k,E.s,E.x,E.g,E.subs,Zk1,Ztw s h,Zvj]
theorem ZAc{c g:Int}(h:0<=g/\g<=9)(hc:g<=c):MkE c 1 (ZDz g):=by
 refine ZoO ⟨?_,λe=>absurd (show(10:Int)=9 from e) (by decide),λ_=>hc⟩
 simp[E.right,E.k,E.s,E.x,E.g,E.subs,Zk1,Zvj,h.1,h.2]
theorem ZAd{c:Int}{n:Nat}{a d}{x:E}(h:MkE c n x)(hk:x.k≠8):MkE c (n+1) (ZBo a d x):=by
 refine⟨λy hy=>?_,by have:=h.len;simp[ZBo,E.nodes,Zap];omega⟩
 simp only[ZBo,E.nodes,Zap,List.append_nil,List.mem_cons]at hy
 rcases hy with rfl|hy
 ·refine⟨?_,λe=>absurd (show(1:Int)=9 from e) (by decide),λe=>absurd (show(1:Int)=10 from e) (by decide)⟩
  have h1:E.right (.node 1 0 .empty 0 a d [x])=!Zk2 [x]:=by simp[E.right,E.k,E.s,E.x,E.g,E.subs,Zk1,Zvj]
  rw[h1]
  show(!(x.k == 8))=true
  simpa using hk
 ·exact h.all y hy
theorem ZAe{c:Int}{n p:Nat}{a d}{k:Int}{x y:E}(hk:2<=k/\k<=7)(h:MkE c n x)(h2:MkE c p y):MkE c (n+p+1) (opE k a d x y):=by
 refine⟨λz hz=>?_,by have:=h.len;have:=h2.len;simp[opE,E.nodes,Zap];omega⟩
 simp only[opE,E.nodes,Zap,List.append_nil,List.mem_cons,List.mem_append]at hz
 rcases hz with rfl|hz|hz
 ·refine⟨?_,λe=>?_,λe=>?_⟩
  ·have h0:¬k=0:=by omega
   have h1:¬k=1:=by omega
   have h9:¬k=9:=by omega
   have h8:¬k=8:=by omega
   have gU:¬k=10:=by omega
   have hs:Zk1 k=2:=by unfold Zk1;rw[if_neg h1,if_pos hk]
   have bW:k<=10:=by omega
   simp[E.right,E.k,E.s,E.x,E.g,E.subs,hs,Zvj,h0,h1,h9,h8,gU,bW]
  ·have e:k=9:=e
   omega
  ·have e:k=10:=e
   omega
 ·exact h.all z hz
 ·exact h2.all z hz
theorem MkE.clean{c:Int}{n:Nat}{e:E}(h:MkE c n e)(hn:n<=10000):e.clean=true:=by
 have hl:e.light=true:=by unfold E.light;exact decide_eq_true (Nat.le_trans h.len hn)
 unfold E.clean
 rw[hl,Bool.true_and,List.all_eq_true]
 exact λx hx=>(h.all x hx).1
theorem ZAf{c:Int}(l:List E)(h:∀x∈l,x.k=10->x.g<=c):∀n:Int,n<=c->l.foldl (λn x=>if x.k=10 then(if x.g > n then x.g else n)else n) n<=c:=by
 induction l with
 | nil=>exact λn hn=>hn
 | cons x l ih=>
  intro n hn
  rw[List.foldl_cons]
  refine ih (λy hy=>h y (List.mem_cons_of_mem _ hy)) _ ?_
  split
  ·rename_i hk
   split
   ·exact h x (by simp) hk
   ·exact hn
  ·exact hn
theorem MkE.most{c:Int}{n:Nat}{e:E}(h:MkE c n e)(hc : -1<=c):e.most<=c:=by
 unfold E.most
 split
 ·exact ZAf _ (λx hx=>(h.all x hx).2.2) _ hc
 ·exact hc
mutual
theorem Ztx{A:List ByteArray}:∀(t:E)(out:List ByteArray),(∀x∈t.nodes,x.k=9->x.s∈A)->∀s∈t.names out,s∈out\/s∈A
 | .node k x s g a c l,out,h,z,hz=>by
  simp only[E.names]at hz
  split at hz
  ·rename_i hk
   split at hz
   ·exact .inl hz
   ·rcases List.mem_append.1 hz with hz|hz
    ·exact .inl hz
    ·rw[List.mem_singleton]at hz;subst hz
     exact .inr (h (.node k x z g a c l) (by simp[E.nodes]) hk)
  ·exact Zp2 l out (λy hy=>h y (by simp only[E.nodes];exact List.mem_cons_of_mem _ hy)) z hz
theorem Zp2{A:List ByteArray}:∀(l:List E)(out:List ByteArray),(∀x∈Zap l,x.k=9->x.s∈A)->∀s∈ZbM l out,s∈out\/s∈A
 | [],out,_,z,hz=>.inl hz
 | t::l,out,h,z,hz=>by
  simp only[ZbM]at hz
  rcases Zp2 l _ (λy hy=>h y (by simp only[Zap];exact List.mem_append_right _ hy)) z hz with hz|hz
  ·exact Ztx t out (λy hy=>h y (by simp only[Zap];exact List.mem_append_left _ hy)) z hz
  ·exact .inr hz
end
theorem MkE.vars{c:Int}{n:Nat}{e:E}(h:MkE c n e):∀s∈e.vars,s∈Zkv:=by
 intro s hs
 unfold E.vars at hs
 split at hs
 ·rcases Ztx (A:=Zkv) e [] (λx hx=>(h.all x hx).2.1) s hs with h|h
  ·cases h
  ·exact h
 ·cases hs
theorem ZAg:ZmR E0=true:=by decide +kernel
inductive MkP (c:Int):Pt->Prop
 | lit (s:ByteArray) (h:0 < s.size/\s.size<=512):MkP c ⟨1,s,0,E0⟩
 | var (s:ByteArray) (h:s∈Zkv\/s∈Zfq):MkP c ⟨2,s,0,E0⟩
 | cap (g:Int) (h:0<=g/\g<=9/\g<=c):MkP c ⟨3,.empty,g,E0⟩
 | clc (e:E) (h:MkE c 20 e):MkP c ⟨4,.empty,0,e⟩
def ZDl(l:List Pt):Prop:=∀(i:Nat)(p q:Pt),l[i]?=some p->l[i+1]?=some q->p.k=1->q.k=1->False
structure MkT (c:Int)(l:List Pt):Prop where
 len:l.length<=5
 all:∀p∈l,MkP c p
 ll:ZDl l
inductive MkA (c:Int):Ac->Prop
 | send (a:Option Addr) (n:Nat) (l:List Pt) (h:MkT c l):MkA c ⟨1,.empty,a,n,l,E0⟩
 | set (s:ByteArray) (hs:s∈Zfq) (a:Option Addr) (n:Nat) (l:List Pt) (h:MkT c l):MkA c ⟨2,s,a,n,l,E0⟩
 | let_ (s:ByteArray) (hs:s∈Zkv) (e:E) (h:MkE c 20 e):MkA c ⟨3,s,none,0,[],e⟩
def ZBK(r:Ru):Prop:=(r.k=1/\r.t.check=0/\r.t.nodes.length<=26/\r.s=.empty/\r.n=0)\/((r.bg=false/\r.en=false/\r.t=T0)/\((r.k=2/\1<=r.s.size/\r.s.size<=3/\r.n=0)\/(r.k=3/\r.s=.empty/\r.n=0)\/(r.k=4/\r.s=.empty/\1<=r.n/\r.n<=8)))
structure MkR (n:Nat)(r:Ru):Prop where
 kind:ZBK r
 len:r.acts.length<=3
 all:∀a∈r.acts,MkA (Zcg r) a
 go:((∃i,i < n/\Zzy[i]?=some r.go)/\r.code=0)\/(r.go=.empty/\0<=r.code/\r.code<=255)
structure MkS (n i:Nat)(x:Sta):Prop where
 name:Zzy[i]?=some x.s
 len:x.rules.length<=5
 all:∀r∈x.rules,MkR n r
structure MkV (i:Nat)(v:Va):Prop where
 name:(Zkv++Zfq)[i]?=some v.s
 kind:(i < 4/\v.b=true/\v.t=.empty/\ZfI v.x=true)\/(4<=i/\v.b=false/\v.t.size<=3/\v.x=0)
structure MkC (s:Sc):Prop where
 n:2<=s.n/\s.n<=12
 vlen:s.vars.length=6
 vall:∀i v,s.vars[i]?=some v->MkV i v
 len:1<=s.states.length/\s.states.length<=4
 all:∀i x,s.states[i]?=some x->MkS s.states.length i x
theorem Zsm{n:Nat}{e:E}(h:e.nodes.length<=n)(hn:n<=10000):e.light=true:=by unfold E.light;exact decide_eq_true (by omega)
theorem ZCW{n:Nat}{e:E}(h:e.nodes.length<=n)(hn:n<=10000):nE e<=n:=by
 unfold nE E.size;rw[Zsm h hn];simp;omega
theorem nE0:nE E0<=20:=by decide +kernel
theorem ZnB{α:Type}(f:α->Int)(B:Int)(l:List α)(hf:∀x∈l,f x<=B):ZaU (l.map f)<=l.length*B:=by
 induction l with
 | nil=>simp[ZaU]
 | cons x l ih=>
  have h1:=hf x (by simp)
  have h2:=ih (λy hy=>hf y (by simp[hy]))
  simp only[List.map_cons,ZaU,List.length_cons]
  rw[show((l.length+1:Nat):Int)*B=l.length*B+B by rw[Int.natCast_add,Int.add_mul];simp]
  omega
theorem MkP.nE{c:Int}{p:Pt}(h:MkP c p):nE p.e<=20:=by
 cases h with
 | clc e h=>exact ZCW (n:=20) h.len (by omega)
 | _=>exact nE0
theorem MkA.w{c:Int}{a:Ac}(h:MkA c a):wA a<=126:=by
 have go:∀{l:List Pt},MkT c l->(l.length:Int)+ZaU (l.map λp=>Rx.nE p.e)<=105:=λ{l} h=>by
  have:=ZnB (λp:Pt=>Rx.nE p.e) 20 l (λp hp=>(h.all p hp).nE)
  have:=h.len
  omega
 have e0:=nE0
 cases h with
 | send a n l h=>have:=go h;simp only[wA];omega
 | set s hs a n l h=>have:=go h;simp only[wA];omega
 | let_ s hs e h=>have:=ZCW h.len (by omega);simp[wA,ZaU];omega
theorem Zk8{t:T}(h:t.nodes.length<=10000):t.light=true:=by unfold T.light;exact decide_eq_true h
theorem Zp3:T0.size=1/\T0.light=true/\T0.same T0=true:=by decide +kernel
theorem MkR.size{n:Nat}{r:Ru}(h:MkR n r):r.t.light=true/\0<=r.t.size/\r.t.size<=26:=by
 rcases h.kind with⟨_,_,h,_⟩|⟨⟨_,_,h⟩,_⟩
 ·have hl:=Zk8 (t:=r.t) (by omega)
  refine⟨hl,?_⟩
  unfold T.size;rw[hl];simp;omega
 ·rw[h,Zp3.1];exact⟨Zp3.2.1,by omega,by omega⟩
theorem MkR.w{n:Nat}{r:Ru}(h:MkR n r):wR r<=405:=by
 obtain⟨h1,h2,h3⟩:=h.size
 have:=ZnB wA 126 r.acts (λa ha=>(h.all a ha).w)
 have:=h.len
 have hi:Zhd r.t.size 20000<=26:=by unfold Zhd;split <;> omega
 unfold wR;rw[h1];simp;omega
theorem MkS.w{n i:Nat}{x:Sta}(h:MkS n i x):wS x<=2025:=by
 have:=ZnB wR 405 x.rules (λa ha=>(h.all a ha).w)
 have:=h.len
 unfold wS;omega
theorem MkC.state{s:Sc}(h:MkC s){x:Sta}(hx:x∈s.states):∃i,s.states[i]?=some x/\MkS s.states.length i x:=by
 obtain⟨i,hi⟩:=List.getElem?_of_mem hx
 exact⟨i,hi,h.all i x hi⟩
theorem MkC.weight{s:Sc}(h:MkC s):s.weight<=8200:=by
 have:=ZnB wS 2025 s.states (λx hx=>by obtain⟨i,_,h⟩:=h.state hx;exact h.w)
 have:=h.len
 have:=h.vlen
 unfold Sc.weight;omega
theorem MkC.light{s:Sc}(h:MkC s):s.light=true:=by unfold Sc.light;exact decide_eq_true (by have:=h.weight;omega)
theorem ZhH(s:ByteArray):eqS s s=true:=by unfold eqS;simp
theorem ZAh:∀j < 6,∀i < 6,j≠i->eqS ((Zkv++Zfq).getD j .empty) ((Zkv++Zfq).getD i .empty)=false:=by decide +kernel
theorem ZB9:∀j < 4,∀i < 4,j≠i->eqS (Zzy.getD j .empty) (Zzy.getD i .empty)=false:=by decide +kernel
theorem Zkl{l:List ByteArray}{i:Nat}{s:ByteArray}(h:l[i]?=some s):l.getD i .empty=s:=by rw[List.getD_eq_getElem?_getD,h];rfl
theorem Zw3{α:Type}{p:α->Bool}:∀{l:List α} {i:Nat} {x:α},l[i]?=some x->p x=true->(∀j y,j < i->l[j]?=some y->p y=false)->l.find? p=some x
 | [],i,x,h,_,_=>by simp at h
 | a::l,0,x,h,hp,_=>by
  simp at h;subst h
  rw[List.find?_cons_of_pos hp]
 | a::l,i+1,x,h,hp,hn=>by
  rw[List.find?_cons_of_neg (by rw[hn 0 a (by omega) rfl];simp)]
  exact Zw3 (l:=l) (i:=i) (by simpa using h) hp (λj y hj hy=>hn (j+1) y (by omega) (by simpa using hy))
theorem MkC.kind{s:Sc}(h:MkC s){i:Nat}{name:ByteArray}(hi:(Zkv++Zfq)[i]?=some name):ZcU s name=(decide (i < 4),true):=by
 have sn:i < 6:=(zA0 hi).1
 have bA:=h.vlen
 have hv:s.vars[i]?=some (s.vars[i]'(by omega)):=zA3 (by omega)
 have hm:=h.vall i _ hv
 generalize s.vars[i]'(by omega)=v at hv hm
 have hn:v.s=name:=Option.some.inj (hm.name.symm.trans hi)
 have hf:(s.vars.find? λv=>eqS v.s name)=some v:=Zw3 hv (by rw[hn];exact ZhH _) (λj y hj hy=>by
  have hy':=(h.vall j y hy).name
  have:=ZAh j (by omega) i sn (by omega)
  rwa [Zkl hy',Zkl hi]at this)
 unfold ZcU
 rw[hf]
 rcases hm.kind with⟨h4,hb,_⟩|⟨h4,hb,_⟩
 ·rw[decide_eq_true h4];show(v.b,true)=_;rw[hb]
 ·rw[decide_eq_false (by omega)];show(v.b,true)=_;rw[hb]
theorem MkC.num{s:Sc}(h:MkC s){name:ByteArray}(hn:name∈Zkv):ZcU s name=(true,true):=by
 obtain⟨i,hi⟩:=List.getElem?_of_mem hn
 have aO:i < 4:=(zA0 hi).1
 have:=h.kind (i:=i) (name:=name) (by rw[zA5 aO];exact hi)
 rwa [decide_eq_true aO]at this
theorem MkC.txt{s:Sc}(h:MkC s){name:ByteArray}(hn:name∈Zfq):ZcU s name=(false,true):=by
 obtain⟨i,hi⟩:=List.getElem?_of_mem hn
 have aO:i < 2:=(zA0 hi).1
 have:=h.kind (i:=4+i) (name:=name) (by rw[zA4 (show Zkv.length<=4+i by show 4<=_;omega)];show Zfq[4+i - 4]?=_;rw[show 4+i - 4=i by omega];exact hi)
 rwa [decide_eq_false (by omega)]at this
theorem MkC.numbers{s:Sc}(h:MkC s){c:Int}{n:Nat}{e:E}(he:MkE c n e):ZcZ s e=true:=by
 unfold ZcZ
 rw[Bool.not_eq_true',List.any_eq_false]
 intro x hx
 rw[h.num (he.vars x hx)];simp
theorem MkC.finds{s:Sc}(h:MkC s){i:Nat}{name:ByteArray}(hi:i < s.states.length)(hn:Zzy[i]?=some name):Zkj s name=true:=by
 unfold Zkj
 rw[h.light,Bool.and_true,List.any_eq_true]
 refine⟨s.states[i],List.getElem_mem _,?_⟩
 have:=(h.all i _ (zA3 hi)).name
 rw[hn]at this
 rw[<-Option.some.inj this];exact ZhH _
theorem Zep{n a b:Int}:ZbN n a b=true↔a<=n/\n<=b:=by
 unfold ZbN
 rw[zA7,decide_eq_true_iff,decide_eq_true_iff]
theorem MkC.whole{s:Sc}(h:MkC s):ZnA s=0:=by
 have h1:ZbN s.n 2 256=true:=Zep.2 (by have:=h.n;omega)
 have h2:ZbN s.states.length 1 24=true:=Zep.2 (by have:=h.len;omega)
 have h3:decide (s.vars.length > 12)=false:=decide_eq_false (by have:=h.vlen;omega)
 simp[ZnA,Zcv,h1,h2,h3]
theorem ZaT:ByteArray.empty.size=0:=rfl
theorem MkC.var{s:Sc}(h:MkC s){i:Nat}{v:Va}(hv:s.vars[i]?=some v):ZfL s i v=0:=by
 have hm:=h.vall i v hv
 have sn:i < 6:=by have:=(zA0 hv).1;have:=h.vlen;omega
 have h1:ZcQ v.s=true:=by
  have cA:=zA2 hm.name
  rcases List.mem_append.1 cA with hx|hx
  ·exact Ztw _ hx
  ·exact Zw1 _ hx
 have h2:ZfK v=true:=by
  unfold ZfK
  rcases hm.kind with⟨_,hb,ht,hx⟩|⟨_,hb,ht,hx⟩
  ·rw[hb,ht,hx];rfl
  ·rw[hb,hx]
   simp;omega
 have h3:((s.vars.take i).any λx=>eqS x.s v.s)=false:=by
  rw[List.any_eq_false]
  intro x hx
  obtain⟨j,hj⟩:=List.getElem?_of_mem hx
  have np:j < i:=by have:=(zA0 hj).1;rw[List.length_take]at this;omega
  rw[List.getElem?_take_of_lt np]at hj
  have:=ZAh j (by omega) i sn (by omega)
  rw[Zkl (h.vall j x hj).name,Zkl hm.name]at this
  rw[this];simp
 simp[ZfL,Zcv,h1,h2,h3]
theorem MkC.stateOk{s:Sc}(h:MkC s){i:Nat}{x:Sta}(hx:s.states[i]?=some x):ZhG s i x=0:=by
 have hm:=h.all i x hx
 have vQ:i < 4:=by have:=(zA0 hx).1;have:=h.len;omega
 have h1:ZcQ x.s=true:=ZAb _ (zA2 hm.name)
 have h2:decide (x.rules.length > 12)=false:=decide_eq_false (by have:=hm.len;omega)
 have h3:((s.states.take i).any λy=>eqS y.s x.s)=false:=by
  rw[List.any_eq_false]
  intro y hy
  obtain⟨j,hj⟩:=List.getElem?_of_mem hy
  have np:j < i:=by have:=(zA0 hj).1;rw[List.length_take]at this;omega
  rw[List.getElem?_take_of_lt np]at hj
  have:=ZB9 j (by omega) i vQ (by omega)
  rw[Zkl (h.all j y hj).name,Zkl hm.name]at this
  rw[this];simp
 simp[ZhG,Zcv,h1,h2,h3]
theorem Zvk(t:T):0<=t.groups:=by unfold T.groups;split <;> omega
theorem Zty(r:Ru) : -1<=Zcg r:=by
 have:=Zvk r.t
 unfold Zcg;split
 ·omega
 ·split <;> omega
theorem ZBL{r:Ru}(h:r.bg=false/\r.en=false/\r.t=T0):Zzt r=false:=by
 unfold Zzt;rw[h.1,h.2.1,h.2.2,Zp3.2.1,Zp3.2.2];rfl
theorem MkR.fields{n:Nat}{r:Ru}(h:MkR n r):Za3 r=true:=by
 unfold Za3
 rcases h.kind with⟨hk,_,_,hs,hn⟩|⟨hx,⟨hk,h1,h2,hn⟩|⟨hk,hs,hn⟩|⟨hk,hs,h1,h2⟩⟩
 ·rw[hk,hs,hn];rfl
 ·rw[ZBL hx,hk,hn]
  have:ZbN r.s.size 1 64=true:=Zep.2 (by omega)
  simp[this]
 ·rw[ZBL hx,hk,hs,hn];rfl
 ·rw[ZBL hx,hk,hs]
  have:ZbN r.n 1 1000=true:=Zep.2 (by omega)
  simp[this,ZaT]
theorem MkR.sizeR{n:Nat}{r:Ru}(h:MkR n r):Rx.sizeR r<=26:=by
 unfold Rx.sizeR;split
 ·exact h.size.2.2
 ·omega
theorem MkS.sizes{n i:Nat}{x:Sta}(h:MkS n i x)(k:Nat):ZaU ((x.rules.take k).map Rx.sizeR)<=130:=by
 have:=ZnB Rx.sizeR 26 (x.rules.take k) (λr hr=>(h.all r (List.mem_of_mem_take hr)).sizeR)
 have h1:=h.len
 rw[List.length_take]at this
 omega
theorem MkC.totals{s:Sc}(h:MkC s)(i k:Nat):Rx.totals s i k<=600:=by
 have h0:=h.len
 have h1:=ZnB (λx:Sta=>ZaU (x.rules.map Rx.sizeR)) 130 (s.states.take i) (λx hx=>by
  obtain⟨j,_,hm⟩:=h.state (List.mem_of_mem_take hx)
  have:=hm.sizes x.rules.length
  rwa [List.take_length]at this)
 rw[List.length_take]at h1
 unfold Rx.totals
 cases hx:s.states[i]? with
 | none=>show _+0<=_;omega
 | some x=>
  have hi:=(zA0 hx).1
  have:=(h.all i x hx).sizes (k+1)
  show _+ZaU ((x.rules.take (k+1)).map Rx.sizeR)<=_
  omega
theorem ZoP:∀s∈Zzy,s.size=1:=by decide +kernel
theorem MkC.rule{s:Sc}(h:MkC s){r:Ru}(hr:MkR s.states.length r){t:Int}(ht:t<=600):Zk3 s r t=0:=by
 have h1:=hr.fields
 have h2:decide (r.acts.length > 8)=false:=decide_eq_false (by have:=hr.len;omega)
 have h3:(r.k == 1&&(!(r.t.check == 0)||decide (t > 600)))=false:=by
  rw[decide_eq_false (show ¬t > 600 by omega),Bool.or_false]
  rcases hr.kind with⟨_,hc,_⟩|⟨_,⟨hk,_⟩|⟨hk,_⟩|⟨hk,_⟩⟩
  ·rw[hc];simp
  ·rw[hk];rfl
  ·rw[hk];rfl
  ·rw[hk];rfl
 have h4:(if r.go.size=0 then !ZbN r.code 0 255 else !Zkj s r.go||!(r.code == 0))=false:=by
  rcases hr.go with⟨⟨i,hi,hn⟩,hc⟩|⟨hg,hc⟩
  ·rw[if_neg (by rw[ZoP _ (zA2 hn)];omega),h.finds hi hn,hc];rfl
  ·rw[hg,if_pos ZaT,Zep.2 hc];rfl
 unfold Zk3
 rw[h1,h2,h3,h4];rfl
theorem MkC.action{s:Sc}(h:MkC s){r:Ru}{a:Ac}(ha:MkA (Zcg r) a):ZcS s r a=0:=by
 have hz:=ZAg
 cases ha with
 | send a n l hl=>
  have h1:decide (l.length > 16)=false:=decide_eq_false (by have:=hl.len;omega)
  have h2:ZbN 1 1 3=true:=by decide
  unfold ZcS
  simp[Zcv,h1,h2,hz,ZaT]
 | set t ht a n l hl=>
  have h1:decide (l.length > 16)=false:=decide_eq_false (by have:=hl.len;omega)
  have h2:ZbN 2 1 3=true:=by decide
  unfold ZcS
  simp[Zcv,h1,h2,hz,h.txt ht]
 | let_ t ht e he=>
  have h2:ZbN 3 1 3=true:=by decide
  have h3:=he.clean (by omega)
  have h4:=h.numbers he
  have h5:decide (e.most > Zcg r)=false:=decide_eq_false (by have:=he.most (Zty r);omega)
  unfold ZcS
  simp only[Zcv,h2,h3,h4,h5,h.num ht]
  rfl
def ZBM(l:List Pt)(i:Nat):Bool:=match l[i - 1]? with
 | some q=>q.k == 1
 | none=>false
theorem Ztz(s:Sc)(r:Ru)(l:List Pt)(i:Nat)(p:Pt):Zkk s r l i p=Zcv [(307,!Zbu p||(decide (i > 0)&&(p.k == 1&&ZBM l i))),(308,(p.k == 2&&!(ZcU s p.s).2)||(p.k == 4&&!ZcZ s p.e)),(309,(p.k == 3&&decide (p.g > Zcg r))||(p.k == 4&&decide (p.e.most > Zcg r)))]:=rfl
theorem MkC.part{s:Sc}(h:MkC s){r:Ru}{l:List Pt}(hl:MkT (Zcg r) l){i:Nat}{p:Pt}(hp:l[i]?=some p):Zkk s r l i p=0:=by
 have hz:=ZAg
 have h0:(decide (i > 0)&&(p.k == 1&&ZBM l i))=false:=by
  cases i with
  | zero=>rfl
  | succ i=>
   unfold ZBM
   rw[Nat.add_sub_cancel]
   cases hq:l[i]? with
   | none=>simp
   | some q=>
    have:=hl.ll i q p hq hp
    simp only[Bool.and_eq_false_iff]
    refine .inr ?_
    by_cases h1:p.k=1
    ·refine .inr ?_
     simp
     exact λh2=>this h2 h1
    ·refine .inl ?_
     simpa using h1
 have hm:=hl.all p (zA2 hp)
 rw[Ztz,h0]
 cases hm with
 | lit t ht=>
  have h1:Zbu ⟨1,t,0,E0⟩=true:=by simp[Zbu,hz];omega
  rw[h1];rfl
 | var t ht=>
  have h1:Zbu ⟨2,t,0,E0⟩=true:=by
   have:ZcQ t=true:=by
    rcases ht with ht|ht
    ·exact Ztw _ ht
    ·exact Zw1 _ ht
   simp[Zbu,hz,this]
  have h2:(ZcU s t).2=true:=by
   rcases ht with ht|ht
   ·rw[h.num ht]
   ·rw[h.txt ht]
  rw[h1]
  simp[Zcv,h2]
 | cap g hg=>
  have h1:Zbu ⟨3,.empty,g,E0⟩=true:=by simp[Zbu,hz,ZaT];omega
  have h2:decide (g > Zcg r)=false:=decide_eq_false (by omega)
  rw[h1]
  simp only[Zcv,h2];rfl
 | clc e he=>
  have h1:Zbu ⟨4,.empty,0,e⟩=true:=by simp[Zbu,he.clean,ZaT]
  have h2:decide (e.most > Zcg r)=false:=decide_eq_false (by have:=he.most (Zty r);omega)
  have h3:=h.numbers he
  rw[h1]
  simp only[Zcv,h2,h3];rfl
theorem MkC.at0{s:Sc}(h:MkC s):∀p∈s.places,atS s p=0:=by
 intro p hp
 have hT:∀{r:Ru} {a:Ac},MkA (Zcg r) a->∀{n:Nat} {q:Pt},a.parts[n]?=some q->Zkk s r a.parts n q=0:=λ{r a} ha {n q} hq=>by
  cases ha with
  | send _ _ l hl=>exact h.part hl hq
  | set _ _ _ _ l hl=>exact h.part hl hq
  | let_ _ _ e _=>simp at hq
 rcases ZpY s p hp with⟨i,hi,v,hv⟩|⟨hv,hs|⟨i,hi,x,hx,hr|⟨k,hk,r,hr,ha|⟨j,hj,a,ha,hq|⟨n,hn,q,hq⟩⟩⟩⟩⟩
 ·have e:atS s p=ZfL s i v:=by
   unfold atS
   rw[if_pos (by omega),show p.v.toNat=i by omega,hv]
  rw[e];exact h.var hv
 all_goals have hv':¬p.v ≥ 0:=by omega
 ·unfold atS
  rw[if_neg hv',if_pos hs];exact h.whole
 all_goals
  have hs':¬p.s < 0:=by omega
  have qH:p.s.toNat=i:=by omega
  have hm:=h.all i x hx
 ·have e:atS s p=ZhG s i x:=by
   unfold atS
   rw[if_neg hv',if_neg hs',qH,hx]
   exact if_pos hr
  rw[e];exact h.stateOk hx
 all_goals
  have hr':¬p.r < 0:=by omega
  have gM:p.r.toNat=k:=by omega
  have hR:=hm.all r (zA2 hr)
 ·have e:atS s p=Zk3 s r (Rx.totals s i k):=by
   unfold atS
   rw[if_neg hv',if_neg hs',qH,hx]
   show(if p.r < 0 then _ else _)=_
   rw[if_neg hr',gM,hr]
   exact if_pos ha
  rw[e];exact h.rule hR (h.totals i k)
 all_goals
  have ha':¬p.a < 0:=by omega
  have ow:p.a.toNat=j:=by omega
  have hA:=hR.all a (zA2 ‹r.acts[j]?=some a›)
 ·have e:atS s p=ZcS s r a:=by
   unfold atS
   rw[if_neg hv',if_neg hs',qH,hx]
   show(if p.r < 0 then _ else _)=_
   rw[if_neg hr',gM,hr]
   show(if p.a < 0 then _ else _)=_
   rw[if_neg ha',ow,‹r.acts[j]?=some a›]
   exact if_pos hq
  rw[e];exact h.action hA
 ·have e:atS s p=Zkk s r a.parts n q:=by
   unfold atS
   rw[if_neg hv',if_neg hs',qH,hx]
   show(if p.r < 0 then _ else _)=_
   rw[if_neg hr',gM,hr]
   show(if p.a < 0 then _ else _)=_
   rw[if_neg ha',ow,‹r.acts[j]?=some a›]
   show(if p.p < 0 then _ else _)=_
   rw[if_neg (by omega),show p.p.toNat=n by omega,hq]
  rw[e];exact hT hA hq
theorem MkC.problems{s:Sc}(h:MkC s):s.problems=[]:=by
 unfold Sc.problems
 rw[List.filterMap_eq_nil_iff]
 intro p hp
 rw[if_pos (h.at0 p hp)]
theorem MkC.check{s:Sc}(h:MkC s):s.check=(top,0):=by
 unfold Sc.check
 rw[if_pos h.light,h.problems]
structure F26 (t:T)(l:List T):Prop where
 f:F t l
 n:(t.k=4/\t.nodes.length+szL l<=26)\/t.nodes.length+szL l<=25
theorem F26.done{t:T}(h:F26 t []):t.check=0/\t.nodes.length<=26:=by
 refine⟨h.f.done,?_⟩
 have:szL []=0:=rfl
 rcases h.n with h|h <;> omega
theorem F26.step{t x:T}{l:List T}(h:F26 t (x::l))(a:Option Addr)(c:Nat):F26 (ZfM 4 a c (Zbc 4 t++Zbc 4 x)) l:=by
 refine⟨h.f.step a c,?_⟩
 have hn:=h.n
 rw[Ze5]at hn
 have ht:=Zk5 t
 have hx:=Zk5 x
 have e1:szL (Zbc 4 t)<=if t.k=4 then szL t.subs else t.nodes.length:=by
  unfold Zbc
  split
  ·exact Nat.le_refl _
  ·rw[if_neg (by omega),Zbt];exact Nat.le_refl _
 have e2:szL (Zbc 4 x)<=x.nodes.length:=by
  unfold Zbc
  split
  ·omega
  ·rw[if_neg (by omega),Zbt];exact Nat.le_refl _
 have e3:szL (Zbc 4 t++Zbc 4 x)=szL (Zbc 4 t)+szL (Zbc 4 x):=ZaI _ _
 generalize Zbc 4 t++Zbc 4 x=L at e3
 have hA:szL L<=t.nodes.length+x.nodes.length/\(t.k=4->szL L+1<=t.nodes.length+x.nodes.length):=by
  refine⟨?_,λh4=>?_⟩
  ·split at e1 <;> omega
  ·rw[if_pos h4]at e1;omega
 match L,hA with
 | [],_=>
  refine .inr ?_
  show T1.nodes.length+_<=_
  have:T1.nodes.length=1:=rfl
  rcases hn with⟨_,hn⟩|hn <;> omega
 | [y],hA=>
  refine .inr ?_
  show y.nodes.length+_<=_
  rw[Zbt]at hA
  rcases hn with⟨h4,hn⟩|hn
  ·have:=hA.2 h4;omega
  ·omega
 | y::z::r,hA=>
  refine .inl ⟨rfl,?_⟩
  rw[Zk5]
  show 1+szL (y::z::r)+_<=_
  rcases hn with⟨h4,hn⟩|hn
  ·have:=hA.2 h4;omega
  ·omega
theorem F26.start{i u g}{t:T}{l:List T}(h:J i (t::l) u g)(hi:i<=25):F26 t l:=⟨F.start h hi,.inr (by have:=h.sz;rw[Ze5]at this;omega)⟩
theorem F26.leaf{t:T}(h1:F t [])(h2:t.nodes.length=1):F26 t []:=⟨h1,.inr (by have:szL []=0:=rfl;omega)⟩
structure PE (ts:List E)(i:Nat):Prop where
 all:∀x∈Zap ts,okN 9 x
 sz:(Zap ts).length<=i
theorem ZcE(t:E):Zap [t]=t.nodes:=by simp[Zap]
theorem PE.zero:PE [] 0:=⟨by simp[Zap],by simp[Zap]⟩
theorem PE.skip{ts i}(h:PE ts i):PE ts (i+1):=⟨h.all,by have:=h.sz;omega⟩
theorem PE.push{ts i}{t:E}(h:PE ts i)(ht:MkE 9 1 t):PE (ts++[t]) (i+1):=by
 refine⟨λx hx=>?_,?_⟩
 ·rw[ZaY,ZcE]at hx
  rcases List.mem_append.1 hx with hx|hx
  ·exact h.all x hx
  ·exact ht.all x hx
 ·rw[ZaY,ZcE,zA1]
  have:=h.sz;have:=ht.len;omega
theorem PE.neg{r:List E}{x:E}{i:Nat}(h:PE (r++[x]) i)(hk:x.k≠8)(a:Option Addr)(d:Nat):PE (r++[ZBo a d x]) (i+1):=by
 have h1:=h.all;have h2:=h.sz
 rw[ZaY,ZcE]at h1 h2
 rw[zA1]at h2
 have hm:MkE 9 (x.nodes.length+1) (ZBo a d x):=ZAd ⟨λz hz=>h1 z (List.mem_append_right _ hz),Nat.le_refl _⟩ hk
 refine⟨λz hz=>?_,?_⟩
 ·rw[ZaY,ZcE]at hz
  rcases List.mem_append.1 hz with hz|hz
  ·exact h1 z (List.mem_append_left _ hz)
  ·exact hm.all z hz
 ·rw[ZaY,ZcE,zA1]
  have:=hm.len;omega
theorem PE.op{r:List E}{x y:E}{i:Nat}(h:PE (r++[x,y]) i){k:Int}(hk:2<=k/\k<=7)(a:Option Addr)(d:Nat):PE (r++[opE k a d x y]) (i+1):=by
 have h1:=h.all;have h2:=h.sz
 rw[ZaY,show Zap [x,y]=x.nodes++y.nodes by simp[Zap]]at h1 h2
 rw[zA1,zA1]at h2
 have hm:MkE 9 (x.nodes.length+y.nodes.length+1) (opE k a d x y):=ZAe hk ⟨λz hz=>h1 z (List.mem_append_right _ (List.mem_append_left _ hz)),Nat.le_refl _⟩ ⟨λz hz=>h1 z (List.mem_append_right _ (List.mem_append_right _ hz)),Nat.le_refl _⟩
 refine⟨λz hz=>?_,?_⟩
 ·rw[ZaY,ZcE]at hz
  rcases List.mem_append.1 hz with hz|hz
  ·exact h1 z (List.mem_append_left _ hz)
  ·exact hm.all z hz
 ·rw[ZaY,ZcE,zA1]
  have:=hm.len;omega
theorem ZmU(t:E):1<=t.nodes.length:=by rw[ZbA,List.length_cons];omega
theorem ZeI(l:List E):l.length<=(Zap l).length:=by
 induction l with
 | nil=>simp
 | cons t l ih=>
  have:=ZmU t
  simp only[Zap,List.length_cons,zA1];omega
structure QE (t:E)(l:List E)(b:Nat):Prop where
 all:∀x∈t.nodes,okN 9 x
 alls:∀x∈Zap l,okN 9 x
 sz:t.nodes.length+(Zap l).length+l.length<=b
theorem QE.start{t:E}{l:List E}{i:Nat}(h:PE (t::l) i):QE t l (2*i):=by
 have h1:=h.all;have h2:=h.sz
 simp only[Zap,zA1]at h1 h2
 have:=ZeI l
 exact⟨λx hx=>h1 x (List.mem_append_left _ hx),λx hx=>h1 x (List.mem_append_right _ hx),by omega⟩
theorem QE.step{t x:E}{l:List E}{b:Nat}(h:QE t (x::l) b)(a:Option Addr)(d:Nat):QE (opE 2 a d t x) l b:=by
 have h1:=h.alls;have h2:=h.sz
 simp only[Zap,zA1,List.length_cons]at h1 h2
 have hm:MkE 9 (t.nodes.length+x.nodes.length+1) (opE 2 a d t x):=ZAe (by omega) ⟨h.all,Nat.le_refl _⟩ ⟨λz hz=>h1 z (List.mem_append_left _ hz),Nat.le_refl _⟩
 exact⟨hm.all,λz hz=>h1 z (List.mem_append_right _ hz),by have:=hm.len;omega⟩
theorem QE.done{t:E}{b:Nat}(h:QE t [] b):MkE 9 b t:=⟨h.all,by have:=h.sz;omega⟩
structure BoE (c:Int)(e u:E):Prop where
 all:∀x∈u.nodes,okN c x
 len:u.nodes.length<=e.nodes.length
 k8:u.k=8↔e.k=8
theorem ZtA{c:Int}:∀{l r:List E},l.length=r.length->(∀(i:Nat)(x y:E),l[i]?=some x->r[i]?=some y->BoE c x y)->(∀z∈Zap r,okN c z)/\(Zap r).length<=(Zap l).length/\Zk2 r=Zk2 l
 | [],[],_,_=>⟨by simp[Zap],Nat.le_refl _,rfl⟩
 | [],_::_,h,_=>by simp at h
 | _::_,[],h,_=>by simp at h
 | x::l,y::r,h,hb=>by
  have h0:=hb 0 x y rfl rfl
  obtain⟨h1,h2,_⟩:=ZtA (l:=l) (r:=r) (by simpa using h) (λi x' y' hx hy=>hb (i+1) x' y' (by simpa using hx) (by simpa using hy))
  refine⟨λz hz=>?_,?_,?_⟩
  ·simp only[Zap]at hz
   rcases List.mem_append.1 hz with hz|hz
   ·exact h0.all z hz
   ·exact h1 z hz
  ·simp only[Zap,zA1];have:=h0.len;omega
  ·show(y.k == 8)=(x.k == 8)
   rw[Bool.eq_iff_iff];simpa using h0.k8
theorem ZxZ{c:Int}{k:Int}{x:Nat}{s:ByteArray}{g:Int}{a a':Option Addr}{d d':Nat}{l r:List E}(h:okN 9 (.node k x s g a d l))(hk:¬(k=10/\g > c))(hl:l.length=r.length)(hb:∀(i:Nat)(x y:E),l[i]?=some x->r[i]?=some y->BoE c x y):BoE c (.node k x s g a d l) (.node k x s g a' d' r):=by
 obtain⟨h1,h2,h3⟩:=ZtA hl hb
 refine⟨λz hz=>?_,?_,Iff.rfl⟩
 ·simp only[E.nodes,List.mem_cons]at hz
  rcases hz with rfl|hz
  ·refine⟨?_,h.2.1,λe=>?_⟩
   ·have e1:=h.1
    simp only[E.right,E.k,E.s,E.x,E.g,E.subs]at e1 ⊢
    rw[<-hl,h3];exact e1
   ·have e:k=10:=e
    show g<=c
    omega
  ·exact h1 z hz
 ·simp only[E.nodes,List.length_cons];omega
theorem ZAi{c:Int}{e:E}{s:ByteArray}(hs:s∈Zkv)(hk:e.k=10):BoE c e (ZBn s):=by
 have h:=Zw2 (c:=c) hs
 refine⟨h.all,Nat.le_trans h.len (ZmU e),?_⟩
 rw[hk]
 show(9:Int)=8↔_
 omega
theorem BoE.toMk{c:Int}{n:Nat}{e u:E}(h:BoE c e u)(he:e.nodes.length<=n):MkE c n u:=⟨h.all,Nat.le_trans h.len he⟩
end Go.Rx
namespace Go.Rx
open Go Go.Eng
def Zvl(l:List Ru)(key:Ru->Int)(o:Option Nat)(x:Ru):Bool:=match o with
 | none=>true
 | some t=>match l[t]? with
  | some y=>decide (key x < key y)
  | none=>false
def ZeJ(l:List Ru)(cnt:Ru->Bool)(key:Ru->Int):Nat->Option Nat
 | 0=>none
 | i+1=>match l[i]? with
  | none=>ZeJ l cnt key i
  | some x=>if cnt x&&Zvl l key (ZeJ l cnt key i) x then some i else ZeJ l cnt key i
def ZDm(l:List Ru)(cnt:Ru->Bool)(key:Ru->Int):Option Nat:=ZeJ l cnt key l.length
theorem Zb4{l:List Ru}{cnt:Ru->Bool}{key:Ru->Int}:∀{i t:Nat},ZeJ l cnt key i=some t->t < i/\∃y,l[t]?=some y/\cnt y=true
 | 0,t,h=>by simp[ZeJ]at h
 | i+1,t,h=>by
  rw[ZeJ]at h
  split at h
  ·obtain⟨h1,h2⟩:=Zb4 h
   exact⟨by omega,h2⟩
  ·rename_i x hx
   split at h
   ·rename_i hc
    obtain rfl:i=t:=by simpa using h
    rw[zA7]at hc
    exact⟨by omega,x,hx,hc.1⟩
   ·obtain⟨h1,h2⟩:=Zb4 h
    exact⟨by omega,h2⟩
theorem Zsn{l:List Ru}{cnt:Ru->Bool}{key:Ru->Int}{i:Nat}{x:Ru}(hx:l[i]?=some x):ZeJ l cnt key (i+1)=if cnt x&&Zvl l key (ZeJ l cnt key i) x then some i else ZeJ l cnt key i:=by
 rw[ZeJ,hx]
theorem ZcP{l:List Ru}{cnt:Ru->Bool}{key:Ru->Int}:∀{i:Nat},ZeJ l cnt key i=none->∀j x,j < i->l[j]?=some x->cnt x=false
 | 0,_,j,x,hj,_=>by omega
 | i+1,h,j,x,hj,hx=>by
  rw[ZeJ]at h
  split at h
  ·rename_i hi
   rcases Nat.lt_or_ge j i with h1|h1
   ·exact ZcP h j x h1 hx
   ·obtain rfl:j=i:=by omega
    rw[hx]at hi;cases hi
  ·rename_i y hy
   split at h
   ·cases h
   ·rename_i hc
    rcases Nat.lt_or_ge j i with h1|h1
    ·exact ZcP h j x h1 hx
    ·obtain rfl:j=i:=by omega
     rw[hx]at hy;cases hy
     rw[h]at hc
     simpa[Zvl]using hc
def ZCX(r:Ru):Bool:=r.k == 4
def ZCY(r:Ru):Bool:=r.k == 3
def ZD8(r:Ru):Int:=r.n
def ZD9(_:Ru):Int:=0
def toO(x:Sta):Option Nat:=ZDm x.rules ZCX ZD8
def eoO(x:Sta):Option Nat:=ZDm x.rules ZCY ZD9
def ZrH(o:Option Nat):Int:=(o.getD 0:Nat)
def Zb8(x:Sta)(k:Nat)(r:Ru):Bool:=(r.k == 4&&!((k:Int) == ZrH (toO x)))||(r.k == 3&&!((k:Int) == ZrH (eoO x)))
abbrev Dd:=Int×Int
def ZbW(i:Nat)(x:Sta):Nat->List Dd
 | 0=>[]
 | k+1=>ZbW i x k++(match x.rules[k]? with
  | some r=>if Zb8 x k r then[((i:Int),(k:Int))]else[]
  | none=>[])
def deadU(s:Sc):Nat->List Dd
 | 0=>[]
 | i+1=>deadU s i++(match s.states[i]? with
  | some x=>ZbW i x x.rules.length
  | none=>[])
def Za0(s:Sc):List Dd:=deadU s s.states.length
def dV(d:Dd):Value:=.agg #[.int .i64 d.1,.int .i64 d.2]
def dC(d:Dd):List Value:=[.int .i64 d.1,.int .i64 d.2]
theorem ZfN{i:Nat}{x:Sta}{k:Nat}{r:Ru}(h:x.rules[k]?=some r):ZbW i x (k+1)=ZbW i x k++(if Zb8 x k r then[((i:Int),(k:Int))]else[]):=by rw[ZbW,h]
theorem Zeq{s:Sc}{i:Nat}{x:Sta}(h:s.states[i]?=some x):deadU s (i+1)=deadU s i++ZbW i x x.rules.length:=by rw[deadU,h]
theorem Zk9{i:Nat}{x:Sta}{d:Dd}:∀{k:Nat},d∈ZbW i x k↔d.1=i/\∃j r,j < k/\x.rules[j]?=some r/\Zb8 x j r=true/\d.2=j
 | 0=>by simp[ZbW]
 | k+1=>by
  rw[ZbW,List.mem_append,Zk9 (k:=k)]
  constructor
  ·rintro(⟨h1,j,r,h2,h3⟩|h)
   ·exact⟨h1,j,r,by omega,h3⟩
   ·split at h
    ·rename_i r hr
     split at h
     ·rename_i hb
      rw[List.mem_singleton]at h;subst h
      exact⟨rfl,k,r,by omega,hr,hb,rfl⟩
     ·cases h
    ·cases h
  ·rintro⟨h1,j,r,h2,h3,h4,h5⟩
   rcases Nat.lt_or_ge j k with hj|hj
   ·exact .inl ⟨h1,j,r,hj,h3,h4,h5⟩
   ·obtain rfl:j=k:=by omega
    refine .inr ?_
    rw[h3]
    show d∈(if Zb8 x j r=true then _ else _)
    rw[if_pos h4,List.mem_singleton]
    exact Prod.ext h1 h5
theorem Zp4{s:Sc}{d:Dd}:∀{n:Nat},d∈deadU s n↔∃i x j r,i < n/\s.states[i]?=some x/\x.rules[j]?=some r/\Zb8 x j r=true/\d=((i:Int),(j:Int))
 | 0=>by simp[deadU]
 | n+1=>by
  rw[deadU,List.mem_append,Zp4 (n:=n)]
  constructor
  ·rintro(⟨i,x,j,r,h1,h2⟩|h)
   ·exact⟨i,x,j,r,by omega,h2⟩
   ·split at h
    ·rename_i x hx
     obtain⟨h1,j,r,h2,h3,h4,h5⟩:=Zk9.1 h
     exact⟨n,x,j,r,by omega,hx,h3,h4,Prod.ext h1 h5⟩
    ·cases h
  ·rintro⟨i,x,j,r,h1,h2,h3,h4,h5⟩
   rcases Nat.lt_or_ge i n with hi|hi
   ·exact .inl ⟨i,x,j,r,hi,h2,h3,h4,h5⟩
   ·obtain rfl:i=n:=by omega
    refine .inr ?_
    rw[h2]
    exact Zk9.2 ⟨by rw[h5],j,r,(zA0 h3).1,h3,h4,by rw[h5]⟩
theorem ZtB{s:Sc}{d:Dd}:d∈Za0 s↔∃(i:Nat)(x:Sta)(j:Nat)(r:Ru),s.states[i]?=some x/\x.rules[j]?=some r/\Zb8 x j r=true/\d=((i:Int),(j:Int)):=by
 unfold Za0
 rw[Zp4]
 constructor
 ·rintro⟨i,x,j,r,_,h⟩;exact⟨i,x,j,r,h⟩
 ·rintro⟨i,x,j,r,h,h'⟩;exact⟨i,x,j,r,(zA0 h).1,h,h'⟩
theorem Zla(i:Nat)(x:Sta):∀k,(ZbW i x k).length<=k
 | 0=>by simp[ZbW]
 | k+1=>by
  rw[ZbW,zA1]
  have:=Zla i x k
  split
  ·split <;> simp <;> omega
  ·simp;omega
theorem Zp5{i:Nat}{x:Sta}{k n:Nat}(h:k<=n):∃r,ZbW i x n=ZbW i x k++r:=by
 induction n with
 | zero=>exact⟨[],by rw[show k=0 by omega];simp⟩
 | succ n ih=>
  by_cases e:k=n+1
  ·exact⟨[],by rw[e];simp⟩
  ·obtain⟨r,hr⟩:=ih (by omega)
   rw[ZbW,hr];exact⟨_,List.append_assoc _ _ _⟩
theorem Zp6{s:Sc}{k n:Nat}(h:k<=n):∃r,deadU s n=deadU s k++r:=by
 induction n with
 | zero=>exact⟨[],by rw[show k=0 by omega];simp⟩
 | succ n ih=>
  by_cases e:k=n+1
  ·exact⟨[],by rw[e];simp⟩
  ·obtain⟨r,hr⟩:=ih (by omega)
   rw[deadU,hr];exact⟨_,List.append_assoc _ _ _⟩
def Zzw:List Dd->List Dd->Bool
 | _,[]=>true
 | all,x::l=>match all.findIdx? (· == x)with
  | none=>false
  | some i=>Zzw (all.drop (i+1)) l
end Go.Rx
namespace Go.Rx
open Go Go.Eng Go.RowKit
set_option maxRecDepth 100000
mutual
def T.er:T->T
 | .node k s0 s1 s2 s3 mn mx _ _ l=>.node k s0 s1 s2 s3 mn mx none 0 (erL l)
def erL:List T->List T
 | []=>[]
 | t::l=>t.er::erL l
end
theorem ZtC:∀l:List T,erL l=l.map T.er
 | []=>rfl
 | t::l=>by simp only[erL,List.map_cons,ZtC l]
@[simp] theorem ZBp (t:T):t.er.k=t.k:=by cases t;rfl
@[simp] theorem ZDA (t:T):t.er.s0=t.s0:=by cases t;rfl
@[simp] theorem ZDB (t:T):t.er.s1=t.s1:=by cases t;rfl
@[simp] theorem ZDC (t:T):t.er.s2=t.s2:=by cases t;rfl
@[simp] theorem ZDD (t:T):t.er.s3=t.s3:=by cases t;rfl
@[simp] theorem ZDE (t:T):t.er.mn=t.mn:=by cases t;rfl
@[simp] theorem ZDF (t:T):t.er.mx=t.mx:=by cases t;rfl
@[simp] theorem Zw4 (t:T):t.er.subs=t.subs.map T.er:=by cases t;simp only[T.er,T.subs,ZtC]
mutual
theorem ZiQ:∀t:T,t.er.nodes=t.nodes.map T.er
 | .node k s0 s1 s2 s3 mn mx a c l=>by
  simp only[T.er,T.nodes,List.map_cons]
  rw[Zp7 l]
theorem Zp7:∀l:List T,ZaB (erL l)=(ZaB l).map T.er
 | []=>rfl
 | t::l=>by simp only[erL,ZaB,List.map_append,ZiQ t,Zp7 l]
end
theorem ZCa(t:T)(k:Int):t.er.has k=t.has k:=by
 unfold T.has;rw[Zw4,List.any_map];congr 1;funext x;simp
theorem Zx0(t:T):t.er.right=t.right:=by
 unfold T.right T.setZ
 simp only[ZCa,ZBp,ZDA,ZDB,ZDC,ZDD,ZDE,ZDF,Zw4,List.length_map]
theorem Zec(t:T):t.er.light=t.light:=by unfold T.light;rw[ZiQ,List.length_map]
theorem ZCb(l:List T):(l.map T.er).all T.right=l.all T.right:=by
 rw[List.all_map];congr 1;funext x;exact Zx0 x
theorem Zx1(t:T):t.er.clean=t.clean:=by unfold T.clean;rw[Zec,ZiQ,ZCb]
theorem ZtD(t:T):t.er.size=t.size:=by unfold T.size;rw[Zec,ZiQ,List.length_map]
theorem Zp8(t:T):t.er.groups=t.groups:=by
 unfold T.groups;rw[Zec,ZiQ,List.countP_map]
 have:((λx:T=>x.k == 6)∘T.er)=λx:T=>x.k == 6:=by funext x;simp
 rw[this]
mutual
theorem ZAj:∀t:T,t.er.pos=t.pos
 | .node k s0 s1 s2 s3 mn mx a c l=>by simp only[T.er,T.pos,Zw5 l]
theorem Zw5:∀l:List T,Ze2 (erL l)=Ze2 l
 | []=>rfl
 | t::l=>by simp only[erL,Ze2,ZAj t,Zw5 l]
end
theorem ZnC(t:T):t.er.positions=t.positions:=by unfold T.positions;rw[Zec,ZAj]
theorem Zx2(t:T):t.er.check=t.check:=by unfold T.check;rw[Zx1,ZtD,ZnC,Zp8]
def T.caps(t:T):Prop:=∀x∈t.nodes,x.subs.length<=x.c
theorem Zvm{k s0 s1 s2 s3 mn mx:Int}{a:Option Addr}{c:Nat}{l:List T}(h:l.length<=c)(hl:∀x∈l,x.caps):(T.node k s0 s1 s2 s3 mn mx a c l).caps:=by
 intro y hy
 rw[ZcM]at hy
 rcases List.mem_cons.1 hy with rfl|hy
 ·exact h
 ·obtain⟨x,hx,hy⟩:∃x∈l,y∈x.nodes:=by
   have:∀l:List T,y∈ZaB l->∃x∈l,y∈x.nodes:=λl=>by
    induction l with
    | nil=>intro h;simp[ZaB]at h
    | cons x l ih=>
     intro h
     simp only[ZaB,List.mem_append]at h
     rcases h with h|h
     ·exact⟨x,by simp,h⟩
     ·obtain⟨z,hz,h⟩:=ih h
      exact⟨z,by simp[hz],h⟩
   exact this l hy
  exact hl x hx y hy
theorem ZAk{k s0 s1 s2 s3 mn mx:Int}{a a':Option Addr}{c c':Nat}{l l':List T}(h:l.map T.er=l'.map T.er):(T.node k s0 s1 s2 s3 mn mx a c l).er=(T.node k s0 s1 s2 s3 mn mx a' c' l').er:=by
 simp only[T.er,ZtC,h]
end Go.Rx
namespace Go.Rx
open Go Go.Eng Go.RowKit
def Old(m:Mem)(b:Nat):Prop:=¬m.free b
noncomputable def nw(m m':Mem):Mem:=⟨(m'.off (Old m)).c,λ_=>none⟩
theorem ZoD(m m':Mem):(nw m m').le m':=⟨(Mem.off_le m' (Old m)).c,λ_ _ h=>by cases h⟩
theorem ZcF{m m':Mem}(h:m.le m'){b:Nat}(hf:m'.free b):m.free b:=λo=>by
 cases he:m b o with
 | none=>rfl
 | some v=>have:=h _ _ _ he;rw[hf o]at this;cases this
theorem Zi7{m m':Mem}(h:m.le m'){b:Nat}(hf:m'.k b=none):m.k b=none:=by
 cases he:m.k b with
 | none=>rfl
 | some v=>have:=h.k _ _ he;rw[hf]at this;cases this
theorem Zvn{m m':Mem}{b:Nat}(h:¬m.free b):(nw m m').free b:=λo=>Mem.off_free (m:=m') (Y:=Old m) h o
theorem Zzx{m m':Mem}{b:Nat}(h:m.free b)(o:Nat):nw m m' b o=m' b o:=Mem.off_at (m:=m') (Y:=Old m) (λk=>k h) o
theorem ZeK{m0 m m' m'':Mem}(h1:m0.le m)(h2:m'.le m''):(nw m m').le (nw m0 m''):=⟨λb o v hv=>by
 have hf:m.free b:=Classical.byContradiction λhn=>by rw[Zvn hn]at hv;cases hv
 rw[Zzx hf]at hv;rw[Zzx (ZcF h1 hf)];exact h2 _ _ _ hv,λb e he=>by cases he⟩
theorem ZtE{m m':Mem}{a:Option Addr}{cs:List Value}(h:rowRd m' a cs)(hf:cs=[]\/∀b o,a=some ⟨b,o,none⟩->m.free b):rowRd (nw m m') a cs:=by
 rcases hf with hf|hf
 ·exact .inl hf
 rcases h with h|⟨b,o,ha,h⟩
 ·exact .inl h
 ·exact .inr ⟨b,o,ha,λj v hj=>by rw[Zzx (hf b o ha)];exact h j v hj⟩
theorem Zx3{m m':Mem}{Y:Nat->Prop}(h:m.le m')(hf:∀b,Y b->m.free b/\m.k b=none):m.le (m'.off Y):=⟨λb o v hv=>by
 rw[Mem.off_at (λhy=>by rw[(hf b hy).1 o]at hv;cases hv)];exact h _ _ _ hv,λb e he=>by
 rw[Mem.off_k (λhy=>by rw[(hf b hy).2]at he;cases he)];exact h.k _ _ he⟩
structure Each {α β:Type}(cs:β->List Value)(Q:α->β->Mem->Prop)(m m':Mem)(L:List α)(a:Option Addr)(c:Nat)(L':List β)(μ:Nat->Mem):Prop where
 len:L'.length=L.length
 le:m.le m'
 row:rowRd m' a (L'.map cs).flatten
 q:∀i x y,L[i]?=some x->L'[i]?=some y->Q x y (μ i)
 sub:∀i,i < L.length->(μ i).le (nw m m')
 ap:∀i j,i < j->j < L.length->∀b,(μ i).free b\/(μ j).free b
 blk:(L=[]/\a=none/\c=0)\/(L≠[]/\∃b,a=some ⟨b,0,none⟩/\m.free b/\m.k b=none/\∀i,i < L.length->(μ i).free b/\(μ i).k b=none)
 cap:L'.length<=c
theorem Each.nil{α β:Type}{cs:β->List Value}{Q:α->β->Mem->Prop}(m:Mem):Each cs Q m m ([]:List α) none 0 [] λ_=>m:=
 ⟨rfl,Mem.le_refl m,.inl rfl,by simp,by simp,by simp,.inl ⟨rfl,rfl,rfl⟩,by simp⟩
theorem Each.step{α β:Type}{cs:β->List Value}{Q:α->β->Mem->Prop}{m m':Mem}{L:List α}{k:Nat}{a:Option Addr}{c:Nat}{L':List β}{μ:Nat->Mem}{n:Nat}(hn:∀y,(cs y).length=n)(h0:0 < n)(h:Each cs Q m m' (L.take k) a c L' μ){x:α}(hx:L[k]?=some x)
  {m3:Mem} {y:β} (h3:m'.le m3) (hq:Q x y (nw m' m3)) {b3:Nat} (iT:m3.free b3) {a':Option Addr} {c':Nat} {m4:Mem} (h4:(m3.add b3 (cs y)).le m4) (aN:rowRd m4 a' ((L'++[y]).map cs).flatten) (ht:TokFact (m3.add b3 (cs y)) a a' (L'.length+1) c'):
  Each cs Q m m4 (L.take (k+1)) a' c' (L'++[y]) (λi=>if i=k then nw m' m3 else μ i):=by
 have hk:k < L.length:=(zA0 hx).1
 have e:L.take (k+1)=L.take k++[x]:=by rw[List.take_add_one,hx];rfl
 have lk:(L.take k).length=k:=by rw[List.length_take];omega
 have lk':L'.length=k:=h.len.trans lk
 have add3:m3.le (m3.add b3 (cs y)):=Mem.le_add iT _
 have oa:m3.le m4:=mLt add3 h4
 have jz:m'.le m4:=mLt h3 oa
 have qI:m.le (m3.add b3 (cs y)):=mLt h.le (mLt h3 add3)
 have dH:((L'++[y]).map cs).flatten≠[]:=by
  intro hz
  have:=congrArg List.length hz
  rw[Za1 hn,zA1,List.length_cons]at this
  have h5:0 < (L'.length+(([]:List β).length+1))*n:=Nat.mul_pos (by omega) h0
  rw[this]at h5;exact absurd h5 (by simp)
 have ha':∃b,a'=some ⟨b,0,none⟩/\m.free b/\m.k b=none/\(∀i,i < k->(μ i).free b/\(μ i).k b=none)/\((nw m' m3).free b/\(nw m' m3).k b=none):=by
  rcases ht.2 with h1|⟨b,o,h1,h2⟩
  ·rcases aN with h2|⟨b,o,h2,_⟩
   ·exact absurd h2 dH
   ·rw[h1]at h2;cases h2
  ·rcases h2 with h2|⟨h2,h5,h6⟩
   ·rcases h.blk with⟨_,h7,_⟩|⟨h6,b',h7,h8,h8',h9⟩
    ·rw[h7,h1]at h2;cases h2
    ·rw[h7,h1]at h2
     simp only[Option.some.injEq,Addr.mk.injEq,and_true]at h2
     obtain⟨rfl,rfl⟩:=h2
     have iw:¬m'.free b':=λhf=>by
      rcases h.row with gU|⟨b2,o2,gU,l3⟩
      ·have:=congrArg List.length gU
       rw[Za1 hn,lk']at this
       have oU:k≠0:=λe=>h6 (by rw[e];rfl)
       have qJ:0 < k*n:=Nat.mul_pos (by omega) h0
       simp at this;omega
      ·rw[h7]at gU;cases gU
       have oU:k≠0:=λe=>h6 (by rw[e];rfl)
       have qJ:0 < k*n:=Nat.mul_pos (by omega) h0
       have aO:0 < (L'.map cs).flatten.length:=by rw[Za1 hn,lk'];exact qJ
       have:=l3 0 _ (zA3 aO)
       rw[hf]at this;cases this
     refine⟨b',h1,h8,h8',λi hi=>h9 i (by omega),Zvn iw,rfl⟩
   ·subst h2
    have hs:∀i,i < k->(μ i).le (m3.add b3 (cs y)):=λi hi=>mLt (h.sub i (by omega)) (mLt (ZoD _ _) (mLt h3 add3))
    have mh:(nw m' m3).le (m3.add b3 (cs y)):=mLt (ZoD _ _) add3
    exact⟨b,h1,ZcF qI h5,Zi7 qI h6,λi hi=>⟨ZcF (hs i hi) h5,Zi7 (hs i hi) h6⟩,ZcF mh h5,Zi7 mh h6⟩
 obtain⟨b,hb,cR,eR,eY,mj⟩:=ha'
 refine⟨by rw[zA1,List.length_take,lk'];simp;omega,mLt h.le jz,aN,λi u v hu hv=>?_,λi hi=>?_,λi j qK hj b'=>?_,.inr ⟨by rw[e];simp,b,hb,cR,eR,λi hi=>?_⟩,by have:=ht.1;rw[zA1];exact this⟩
 ·rw[e]at hu
  by_cases lG:i=k
  ·subst lG
   rw[zA4 (by omega),lk,Nat.sub_self]at hu
   rw[zA4 (by omega),lk',Nat.sub_self]at hv
   cases hu;cases hv
   rw[if_pos rfl];exact hq
  ·have hi:i < k:=by
    have:=(zA0 hu).1
    rw[zA1,lk]at this;simp at this;omega
   rw[zA5 (by omega)]at hu hv
   rw[if_neg lG];exact h.q i u v hu hv
 ·by_cases lG:i=k
  ·subst lG;rw[if_pos rfl];exact ZeK h.le oa
  ·rw[if_neg lG]
   rw[List.length_take]at hi
   exact mLt (h.sub i (by omega)) (ZeK (Mem.le_refl m) jz)
 ·rw[List.length_take]at hj
  by_cases ub:j=k
  ·subst ub
   rw[if_neg (by omega),if_pos rfl]
   by_cases hf:(μ i).free b'
   ·exact .inl hf
   ·exact .inr (Zvn λpw=>hf (ZcF (mLt (h.sub i (by omega)) (ZoD _ _)) pw))
  ·rw[if_neg (by omega),if_neg ub];exact h.ap i j qK (by omega) b'
 ·by_cases lG:i=k
  ·subst lG;rw[if_pos rfl];exact mj
  ·rw[if_neg lG];rw[List.length_take]at hi;exact eY i (by omega)
section
variable {α β:Type} {cs:β->List Value} {Q:α->β->Mem->Prop} {m m':Mem} {L:List α} {a:Option Addr} {c:Nat} {L':List β} {μ:Nat->Mem} (h:Each cs Q m m' L a c L' μ)
include h
theorem Each.rows:rowRd (nw m m') a (L'.map cs).flatten:=ZtE h.row (by
 rcases h.blk with⟨h1,_⟩|⟨_,b,hb,hf,_⟩
 ·left
  have:L'=[]:=List.eq_nil_of_length_eq_zero (by rw[h.len,h1];rfl)
  rw[this];rfl
 ·exact .inr λb' o e=>by rw[hb]at e;cases e;exact hf)
theorem Each.at{y:β}(hy:y∈L'):∃i x,L[i]?=some x/\L'[i]?=some y/\Q x y (μ i)/\(μ i).le (nw m m'):=by
 obtain⟨i,hi⟩:=List.getElem?_of_mem hy
 have aO:i < L.length:=by rw[<-h.len];exact(zA0 hi).1
 exact⟨i,L[i],zA3 aO,hi,h.q i _ _ (zA3 aO) hi,h.sub i aO⟩
theorem Each.same{γ:Type}{f:α->γ}{g:β->γ}(hs:∀x y μ,Q x y μ->g y=f x):L'.map g=L.map f:=by
 refine List.ext_getElem (by simp[h.len]) λi h1 h2=>?_
 simp only[List.length_map]at h1 h2
 rw[List.getElem_map,List.getElem_map]
 exact hs _ _ _ (h.q i _ _ (zA3 h2) (zA3 h1))
end
def Zvo{α β:Type}(cs:β->List Value)(Q:α->β->Mem->Prop)(m:Mem)(L:List α):Value->Mem->List (List Value)->Prop:=λv m' _=>∃a c L' μ,v=.slice a L'.length c/\Each cs Q m m' L a c L' μ
theorem ZhI{α β:Type}{cs:β->List Value}{Q:α->β->Mem->Prop}{m:Mem}{L:List α}:∀(v:Value)(m':Mem) (css:List (List Value)),Zvo cs Q m L v m' css->Shape.fits .slice v=true:=λv _ _ ⟨_,_,_,_,h,_⟩=>by rw[h];rfl
mutual
def E.er:E->E
 | .node k x s g _ _ l=>.node k x s g none 0 (Zvp l)
def Zvp:List E->List E
 | []=>[]
 | t::l=>t.er::Zvp l
end
theorem ZoQ:∀l:List E,Zvp l=l.map E.er
 | []=>rfl
 | t::l=>by simp only[Zvp,List.map_cons,ZoQ l]
@[simp] theorem ZCZ (t:E):t.er.k=t.k:=by cases t;rfl
@[simp] theorem ZDG (t:E):t.er.x=t.x:=by cases t;rfl
@[simp] theorem ZDH (t:E):t.er.s=t.s:=by cases t;rfl
@[simp] theorem ZC0 (t:E):t.er.g=t.g:=by cases t;rfl
@[simp] theorem Zx4 (t:E):t.er.subs=t.subs.map E.er:=by cases t;simp only[E.er,E.subs,ZoQ]
mutual
theorem ZfO:∀t:E,t.er.nodes=t.nodes.map E.er
 | .node k x s g a c l=>by
  simp only[E.er,E.nodes,List.map_cons]
  rw[ZmV l]
theorem ZmV:∀l:List E,Zap (Zvp l)=(Zap l).map E.er
 | []=>rfl
 | t::l=>by simp only[Zvp,Zap,List.map_append,ZfO t,ZmV l]
end
theorem Zdn(t:E):t.er.light=t.light:=by unfold E.light;rw[ZfO,List.length_map]
theorem Zx5(t:E):t.er.size=t.size:=by unfold E.size;rw[Zdn,ZfO,List.length_map]
theorem ZC1(t:E):nE t.er=nE t:=by unfold nE;rw[Zdn,Zx5]
def Pt.er(p:Pt):Pt:=⟨p.k,p.s,p.g,p.e.er⟩
def Ac.er(a:Ac):Ac:=⟨a.k,a.s,none,0,a.parts.map Pt.er,a.e.er⟩
def Ru.er(r:Ru):Ru:=⟨r.k,r.bg,r.en,r.t.er,r.s,r.n,none,0,r.acts.map Ac.er,r.go,r.code⟩
def Sta.er(x:Sta):Sta:=⟨x.s,none,0,x.rules.map Ru.er⟩
def Sc.er(s:Sc):Sc:=⟨s.n,none,0,s.vars,none,0,s.states.map Sta.er⟩
theorem Zp9{α:Type}(f:α->Int)(g:α->α)(h:∀x,f (g x)=f x)(l:List α):ZaU ((l.map g).map f)=ZaU (l.map f):=by
 rw[List.map_map];congr 1;exact List.map_congr_left λx _=>h x
theorem ZDI(a:Ac):wA a.er=wA a:=by
 unfold wA
 show 1+nE a.e.er+((a.parts.map Pt.er).length:Int)+ZaU ((a.parts.map Pt.er).map λp=>nE p.e)=_
 rw[ZC1,List.length_map,Zp9 (λp:Pt=>nE p.e) Pt.er (λp=>ZC1 p.e)]
theorem ZBN(r:Ru):wR r.er=wR r:=by
 unfold wR
 show 1+Zhd r.t.er.size 20000+(if r.t.er.light then 0 else 20001)+ZaU ((r.acts.map Ac.er).map wA)=_
 rw[ZtD,Zec,Zp9 wA Ac.er ZDI]
theorem ZDJ(x:Sta):wS x.er=wS x:=Zp9 wR Ru.er ZBN x.rules
theorem Zvq(s:Sc):s.er.weight=s.weight:=by
 unfold Sc.weight
 show(s.vars.length:Int)+((s.states.map Sta.er).length:Int)+ZaU ((s.states.map Sta.er).map wS)=_
 rw[List.length_map,Zp9 wS Sta.er ZDJ]
theorem ZfP(s:Sc):s.er.light=s.light:=by unfold Sc.light;rw[Zvq]
theorem Zlb{s s':Sc}(h:s'.er=s.er):s'.light=s.light:=by rw[<-ZfP s',h,ZfP]
theorem Zqa{α:Type}(f:α->Int)(hf:∀x,0<=f x){l:List α}{x:α}(hx:x∈l):f x<=ZaU (l.map f):=by
 induction l with
 | nil=>cases hx
 | cons y l ih=>
  have h1:=ZfJ f hf l
  have h2:=hf y
  simp only[List.map_cons,ZaU]
  rcases List.mem_cons.1 hx with rfl|hx
  ·omega
  ·have:=ih hx;omega
def LtA(a:Ac):Prop:=a.e.light=true/\∀p∈a.parts,p.e.light=true
def LtR(r:Ru):Prop:=r.t.light=true/\∀a∈r.acts,LtA a
theorem ZC2{e:E}(h:nE e<=20000):e.light=true:=by
 cases hl:e.light with
 | true=>rfl
 | false=>unfold nE at h;rw[hl]at h;simp at h
theorem ZCc{a:Ac}(h:wA a<=20000):LtA a:=by
 unfold wA at h
 have h1:=ZpX a.e
 have h2:=ZfJ (λp:Pt=>nE p.e) (λp=>(ZpX p.e).1) a.parts
 exact⟨ZC2 (by omega),λp hp=>ZC2 (by have:=Zqa (λp:Pt=>nE p.e) (λp=>(ZpX p.e).1) hp;omega)⟩
theorem ZAl{r:Ru}(h:wR r<=20000):LtR r:=by
 unfold wR at h
 have h1:=(Zki r.t).1
 have h2:=ZfJ wA Zz8 r.acts
 have h3:0<=Zhd r.t.size 20000:=by unfold Zhd;split <;> omega
 refine⟨?_,λa ha=>ZCc (by have:=Zqa wA Zz8 ha;split at h <;> omega)⟩
 cases hl:r.t.light with
 | true=>rfl
 | false=>rw[hl]at h;simp at h;omega
theorem ZAm{s:Sc}(h:s.light=true):∀x∈s.states,∀r∈x.rules,LtR r:=λx hx r hr=>ZAl (by
 have h1:s.weight<=20000:=zA6 h
 unfold Sc.weight at h1
 have h2:=Zqa wS ZCU hx
 have h3:wR r<=wS x:=Zqa wR Zz9 hr
 omega)
def QP(p q:Pt)(μ:Mem):Prop:=q.er=p.er/\RepP μ q
def QA(p q:Ac)(μ:Mem):Prop:=q.er=p.er/\RepA μ q
def QR(p q:Ru)(μ:Mem):Prop:=q.er=p.er/\RepR μ q
def ZEj(m μ:Mem)(y:Sta):Prop:=y.rules.length<=y.rc/\(y.rules=[]\/∃b,y.ra=some ⟨b,0,none⟩/\m.free b/\m.k b=none/\∀r∈y.rules,RepR (μ.off λk=>k=b) r)
def QS(m:Mem)(x y:Sta)(μ:Mem):Prop:=y.er=x.er/\RepS μ y/\ZEj m μ y
structure SepC (m m':Mem)(s:Sc)(b:Nat)(μ:Nat->Mem):Prop where
 sa:s.sa=some ⟨b,0,none⟩
 free:m.free b/\m.k b=none
 all:∀i x,s.states[i]?=some x->RepS (μ i) x/\ZEj m (μ i) x/\(μ i).le (nw m m')/\(μ i).free b
 ap:∀i j,i < j->j < s.states.length->∀b',(μ i).free b'\/(μ j).free b'
 va:∃μv:Mem,rowRd μv s.va (s.vars.map Va.cs).flatten/\μv.le (nw m m')/\μv.free b/\∀i,i < s.states.length->∀b',μv.free b'\/(μ i).free b'
theorem Zvr{m0 m m' M:Mem}{x:Ac}{a:Option Addr}{c:Nat}{L':List Pt}{μ:Nat->Mem}{e:E}(hx:RepA m0 x)(h:Each Pt.cs QP m m' x.parts a c L' μ)(hM:(nw m m').le M)(he:RepE M e):RepA M ⟨x.k,x.s,a,c,L',e⟩:=
 ⟨hx.k,hx.s,by rw[h.len];exact hx.n,h.rows.mono hM,λp hp=>by
  obtain⟨i,y,_,_,hq,hs⟩:=h.at hp
  exact hq.2.mono (mLt hs hM),he⟩
theorem Zvs{m0 m m' M:Mem}{x:Ru}{a:Option Addr}{c:Nat}{L':List Ac}{μ:Nat->Mem}{t:T}(hx:RepR m0 x)(h:Each Ac.cs QA m m' x.acts a c L' μ)(hM:(nw m m').le M)(ht:Rep M t):RepR M ⟨x.k,x.bg,x.en,t,x.s,x.n,a,c,L',x.go,x.code⟩:=
 ⟨hx.k,ht,hx.s,hx.n,by rw[h.len];exact hx.len,h.rows.mono hM,λp hp=>by
  obtain⟨i,y,_,_,hq,hs⟩:=h.at hp
  exact hq.2.mono (mLt hs hM),hx.go,hx.code⟩
theorem Zw6{m m':Mem}{Y:Nat->Prop}(h:m.le m'):(m.off Y).le (m'.off Y):=⟨λb o v hv=>by
 by_cases hy:Y b
 ·rw[Mem.off_free hy]at hv;cases hv
 ·rw[Mem.off_at hy]at hv ⊢;exact h _ _ _ hv,λb e he=>by
 by_cases hy:Y b
 ·rw[Mem.off_kn hy]at he;cases he
 ·rw[Mem.off_k hy]at he ⊢;exact h.k _ _ he⟩
theorem QS.mono{m0 μ μ':Mem}{x y:Sta}(h:QS m0 x y μ)(hm:μ.le μ'):QS m0 x y μ':=
 ⟨h.1,h.2.1.mono hm,h.2.2.1,h.2.2.2.imp_right λ⟨b,h1,h2,h3,h4⟩=>⟨b,h1,h2,h3,λr hr=>(h4 r hr).mono (Zw6 hm)⟩⟩
theorem ZAn{m0 m m':Mem}{x:Sta}{a:Option Addr}{c:Nat}{L':List Ru}{μ:Nat->Mem}(h0:m0.le m)(hx:RepS m x)(h:Each Ru.cs QR m m' x.rules a c L' μ):QS m0 x ⟨x.s,a,c,L'⟩ (nw m m'):=by
 refine⟨?_,⟨hx.s,by rw[h.len];exact hx.len,h.rows,λp hp=>by
  obtain⟨i,y,_,_,hq,hs⟩:=h.at hp
  exact hq.2.mono hs⟩,h.cap,?_⟩
 ·simp only[Sta.er,Sta.mk.injEq,true_and]
  exact h.same λx y μ hq=>hq.1
 ·rcases h.blk with⟨h1,_⟩|⟨_,b,hb,hf,hk,hμ⟩
  ·exact .inl (List.eq_nil_of_length_eq_zero (by rw[h.len,h1];rfl))
  ·refine .inr ⟨b,hb,ZcF h0 hf,Zi7 h0 hk,λr hr=>?_⟩
   obtain⟨i,y,hi,_,hq,hs⟩:=h.at hr
   exact hq.2.mono (Zx3 hs λb' e=>by rw[e];exact hμ i (zA0 hi).1)
end Go.Rx
namespace Go.Rx
open Go
variable {P:Program}
theorem ZhJ{n:Nat}(w:World)(t e ty:TypeId)(z:Value)(ht:P.underlying t=some (.slice e))(hv:∀w,(zeroValue e).run P w=.ok z w)(h1:∀u∈(Builtin.zeroCells z.cells n).toList,u.oneCell'=true)(b o c:Nat)(hn:0 < n)
  (hc:∀j,j < (Builtin.zeroCells z.cells n).toList.length->(w.cell? ⟨b,o+j,none⟩).isSome=true) (hf:∀j,j < (Builtin.zeroCells z.cells n).toList.length->w.frozen? ⟨b,o+j,none⟩=false):
  (Builtin.clear_ #[t] ty #[.slice (some ⟨b,o,none⟩) n c]).run P w=.ok (.tuple #[]) (w.setCells b o (Builtin.zeroCells z.cells n).toList):=by
 have dF:=run_storeCells_cells (P:=P) b o (Builtin.zeroCells z.cells n).toList 0 w (by simpa using hc) (by simpa using hf) h1
 simp only[Nat.add_zero]at dF
 obtain⟨m,rfl⟩:∃m,n=m+1:=⟨n - 1,by omega⟩
 simp[Builtin.clear_,run_underlying ht,hv,dF]
end Go.Rx
namespace Go.Rx
open Go Go.Proofs Go.Shelf Go.RowKit Go.Lib Go.Sort
set_option maxHeartbeats 4000000
set_option maxRecDepth 1000000
structure DelLay (P:Program)(ρ:Ren)(k:Nat)(z:Value):Prop where
 mixed:P.follows .mixedOrders=true
 f45:Bears P (ρ.f 45) (SlBodyN.n45 ρ)
 t0:P.underlying (ρ.t 0)=some (TypeDesc.tuple #[])
 a0:∀w,(Go.isAgg (ρ.t 0)).run P w=.ok false w
 z0:∀w,(Go.sizeOf (ρ.t 0)).run P w=.ok 1 w
 v0:∀w,(zeroValue (ρ.t 0)).run P w=.ok (Value.tuple #[]) w
 t3:P.underlying (ρ.t 3)=some (TypeDesc.int IntKind.i64)
 a3:∀w,(Go.isAgg (ρ.t 3)).run P w=.ok false w
 z3:∀w,(Go.sizeOf (ρ.t 3)).run P w=.ok 1 w
 v3:∀w,(zeroValue (ρ.t 3)).run P w=.ok (Value.int IntKind.i64 0) w
 t4:P.underlying (ρ.t 4)=some (TypeDesc.bool)
 a4:∀w,(Go.isAgg (ρ.t 4)).run P w=.ok false w
 z4:∀w,(Go.sizeOf (ρ.t 4)).run P w=.ok 1 w
 v4:∀w,(zeroValue (ρ.t 4)).run P w=.ok (Value.bool false) w
 t22:P.underlying (ρ.t 22)=some (TypeDesc.slice (ρ.t 23))
 a22:∀w,(Go.isAgg (ρ.t 22)).run P w=.ok false w
 z22:∀w,(Go.sizeOf (ρ.t 22)).run P w=.ok 1 w
 v22:∀w,(zeroValue (ρ.t 22)).run P w=.ok (Value.slice none 0 0) w
 z23:∀w,(Go.sizeOf (ρ.t 23)).run P w=.ok k w
 v23:∀w,(zeroValue (ρ.t 23)).run P w=.ok z w
theorem ZnD{P:Program}{ρ:Ren}{k:Nat}{z:Value}(L:DelLay P ρ k z)(i0:TypeInfo)(so:P.info? (ρ.t 23)=some i0)(qL:i0.size=k)(hk:z.cells.size=k)
  (blk off n cap i j:Nat) (cs:List Value) (w:World) (bA:cs.length=n*k) (hH:∀(q:Nat)(u:Value),cs[q]?=some u->w.cell? ⟨blk,off+q,none⟩=some u/\w.frozen? ⟨blk,off+q,none⟩=false) (h1:∀u∈cs,u.oneCell'=true)
  (hz:∀m,∀u∈(Builtin.zeroCells z.cells m).toList,u.oneCell'=true)
  (dE:n<=cap) (hm:n<=9223372036854775807) (qK:i < j) (hj:j<=n):
  Calls P (ρ.f 45) #[.slice (some ⟨blk,off,none⟩) n cap,.int .i64 i,.int .i64 j] w λe w'=>e=.returned (.slice (some ⟨blk,off,none⟩) (n - (j - i)) cap)/\
   w'=(w.drew.setCells blk (off+i*k) (cs.drop (j*k))).setCells blk (off+(n - (j - i))*k) (Builtin.zeroCells z.cells (j - i)).toList:=by
 have mixed:=L.mixed;have t0:=L.t0;have a0:=L.a0;have z0:=L.z0;have v0:=L.v0;have t3:=L.t3;have a3:=L.a3;have z3:=L.z3;have v3:=L.v3;have t4:=L.t4;have a4:=L.a4;have z4:=L.z4;have v4:=L.v4;have t22:=L.t22;have a22:=L.a22;have z22:=L.z22;have v22:=L.v22;have z23:=L.z23
 obtain⟨Z,hZ⟩:∃Z,(Builtin.zeroCells z.cells (j - i)).toList=Z:=⟨_,rfl⟩
 rw[hZ]
 obtain⟨news,gw⟩:∃news,news=cs.drop (j*k):=⟨_,rfl⟩
 have mR:news.length=(n - j)*k:=by rw[gw,List.length_drop,bA,Nat.sub_mul]
 obtain⟨A,hA,sq⟩:∃A:Addr,(if cap=j then some (⟨blk,off,none⟩:Addr)else some ⟨blk,off+j*k,none⟩)=some A/\Hid (∀t u,news[t]?=some u->w.drew.cell? (A.add t)=some u):=by
  by_cases h:cap=j
  ·refine⟨⟨blk,off,none⟩,by simp[h],λt u hu=>?_⟩
   have h0:news.length=0:=by rw[mR,show n - j=0 by omega,Nat.zero_mul]
   rw[List.length_eq_zero_iff.1 h0]at hu
   simp at hu
  ·refine⟨⟨blk,off+j*k,none⟩,by simp[h],λt u hu=>?_⟩
   rw[gw,List.getElem?_drop]at hu
   rw[Addr.add_lit,Nat.add_assoc]
   exact(hH _ _ hu).1
 have s2:Hid (∀u∈news,u.oneCell'=true):=λu hu=>h1 u (by rw[gw]at hu;exact List.mem_of_mem_drop hu)
 have lH:(i+(n - j))*k=i*k+(n - j)*k:=Nat.add_mul _ _ _
 have bW:(i+(n - j))*k<=n*k:=Nat.mul_le_mul_right _ (by omega)
 have s3:Hid (∀t,t < news.length->(w.drew.cell? ⟨blk,off+i*k+t,none⟩).isSome=true/\w.drew.frozen? ⟨blk,off+i*k+t,none⟩=false):=by
  intro t ht
  rw[mR]at ht
  have hb:i*k+t < cs.length:=by rw[bA];omega
  have h:=hH (i*k+t) cs[i*k+t] (zA3 hb)
  rw[<-Nat.add_assoc]at h
  exact⟨by show(w.cell? _).isSome=true;rw[h.1];rfl,h.2⟩
 have s1:Hid (news.length=(n - j)*k):=mR
 obtain⟨W1,qM⟩:∃W1,W1=w.drew.setCells blk (off+i*k) news:=⟨_,rfl⟩
 have hW:Hid (W1=w.drew.setCells blk (off+i*k) news):=qM
 have xh:i<=cap:=by omega
 have xi:j<=cap:=by omega
 have gB:∀ty,(Builtin.clear_ #[ρ.t 22] ty #[.slice (some ⟨blk,off+(i+(n - j))*k,none⟩) (n - (i+(n - j))) (cap - (i+(n - j)))]).run P W1=.ok (.tuple #[]) (W1.setCells blk (off+(i+(n - j))*k) Z):=by
  intro ty
  have hT:∀t,t < (Builtin.zeroCells z.cells (n - (i+(n - j)))).toList.length->(w.drew.cell? ⟨blk,off+((i+(n - j))*k+t),none⟩).isSome=true/\w.drew.frozen? ⟨blk,off+((i+(n - j))*k+t),none⟩=false:=by
   intro t ht
   have hl:(Builtin.zeroCells z.cells (n - (i+(n - j)))).toList.length=(n - (i+(n - j)))*k:=by simp[Builtin.zeroCells,hk,Nat.mul_comm]
   rw[hl,Nat.sub_mul]at ht
   have hb:(i+(n - j))*k+t < cs.length:=by rw[bA];omega
   have h:=hH _ _ (zA3 hb)
   exact⟨by show(w.cell? _).isSome=true;rw[h.1];rfl,h.2⟩
  rw[<-hZ,show j - i=n - (i+(n - j)) by omega]
  exact ZhJ W1 _ _ ty z t22 L.v23 (hz _) blk _ _ (by omega) (λt ht=>by rw[qM];exact World.isSome_setCells _ _ _ _ _ (by rw[Nat.add_assoc];exact(hT t ht).1)) (λt ht=>by rw[qM,World.frozen?_setCells,Nat.add_assoc];exact(hT t ht).2)
 have hN:Hid (news=cs.drop (j*k)):=gw
 clear qM lH bW gw mR hZ hz hk
 obtain⟨_,_,FG⟩:=L.f45
 go_enter FG,SlBodyN.n45_ntmps ρ
 go_wp2_with fail
 go_region_law_o (refine step_append_room rfl (.tmp 22) (.tmp 25) (ρ.t 22) rfl (ρ.t 23) i0 k t22 so qL blk off i cap (by simp[Act.eval,Act.put]) A (n - j) (cap - j) news (by simp[Act.eval,Act.put]) s1.out sq.out s2.out (by omega) s3.out ?_;rw[<-hW.out])
 go_wp2
 go_ret
 refine⟨by rw[show n - (j - i)=i+(n - j) by omega];rfl,?_⟩
 rw[hW.out,hN.out,show n - (j - i)=i+(n - j) by omega]
end Go.Rx
namespace Go.Rx
open Go Go.Eng Go.RowKit Go.Shelf
theorem Zgx(b:Nat):∀(vs:List Value)(o:Nat)(w:World),(w.setCells b o vs).os=w.os/\(w.setCells b o vs).tape=w.tape/\(w.setCells b o vs).output=w.output/\(w.setCells b o vs).heap.size=w.heap.size
 | [],_,_=>⟨rfl,rfl,rfl,rfl⟩
 | v::r,o,w=>by
  obtain⟨h1,h2,h3,h4⟩:=Zgx b r (o+1) (w.setCell ⟨b,o,none⟩ v)
  exact⟨h1,h2,h3,h4.trans (by simp[World.setCell])⟩
theorem Zda(b:Nat){k:Nat}(hk:k≠b):∀(vs:List Value)(o:Nat)(w:World),(w.setCells b o vs).heap[k]?=w.heap[k]?
 | [],_,_=>rfl
 | v::r,o,w=>by
  rw[World.setCells,Zda b hk r (o+1)]
  simp[World.setCell,Array.getElem?_modify,Ne.symm hk]
theorem ZeL(b:Nat):∀(vs:List Value)(o:Nat)(w:World){c:Array Value}{T:TypeId}{fr:Nat×Nat},w.heap[b]?=some (.cells c T fr)->∃c':Array Value,(w.setCells b o vs).heap[b]?=some (.cells c' T fr)/\c'.size=c.size
 | [],_,_,c,_,_,h=>⟨c,h,rfl⟩
 | v::r,o,w,c,T,fr,h=>by
  have h1:(w.setCell ⟨b,o,none⟩ v).heap[b]?=some (.cells (c.setIfInBounds o v) T fr):=by
   simp[World.setCell,Array.getElem?_modify,h]
  obtain⟨c',h2,h3⟩:=ZeL b r (o+1) (w.setCell ⟨b,o,none⟩ v) h1
  exact⟨c',h2,by rw[h3];simp⟩
theorem ZhK(b o:Nat)(vs:List Value)(w:World){c:Array Value}{T:TypeId}{fr:Nat×Nat}(h:w.heap[b]?=some (.cells c T fr)):Upd (λk=>k=b) w (w.setCells b o vs):=by
 obtain⟨h1,h2,h3,h4⟩:=Zgx b vs o w
 refine⟨h1,h2,h3,by omega,λk _ hk=>Zda b hk vs o w,λk hk hw=>?_⟩
 by_cases e:k=b
 ·subst e
  obtain⟨c',h5,h6⟩:=ZeL k vs o w h
  intro c2 T2 fr2 hh q hq
  rw[h5]at hh
  simp only[Option.some.injEq,Obj.cells.injEq]at hh
  obtain⟨rfl,rfl,rfl⟩:=hh
  exact hw c T fr h q (by omega)
 ·exact hw.of_eq (Zda b e vs o w)
theorem Upd.tr{M:Nat->Prop}{a b c:World}(h:Upd M a b)(k:Upd M b c):Upd M a c:=
 ⟨k.os.trans h.os,k.tape.trans h.tape,k.output.trans h.output,Nat.le_trans h.size k.size,λq hq hm=>(k.block q (Nat.lt_of_lt_of_le hq h.size) hm).trans (h.block q hq hm),λq hq hw=>k.wr q (Nat.lt_of_lt_of_le hq h.size) (h.wr q hq hw)⟩
theorem ZmW{α:Type}{cs:α->List Value}{n:Nat}(hn:∀x,(cs x).length=n):∀(l:List α)(i:Nat),((l.eraseIdx i).map cs).flatten=(l.map cs).flatten.take (i*n)++(l.map cs).flatten.drop ((i+1)*n)
 | [],_=>by simp
 | x::l,0=>by
  simp only[List.eraseIdx_zero,List.tail_cons,List.map_cons,List.flatten_cons,Nat.zero_mul,List.take_zero,List.nil_append,Nat.zero_add,Nat.one_mul]
  rw[<-hn x,List.drop_left]
 | x::l,i+1=>by
  have e1:(i+1)*n=(cs x).length+i*n:=by rw[hn,Nat.succ_mul];omega
  have e2:(i+1+1)*n=(cs x).length+(i+1)*n:=by rw[hn,Nat.succ_mul (i+1)];omega
  simp only[List.eraseIdx_cons_succ,List.map_cons,List.flatten_cons]
  have e3:((cs x)++(l.map cs).flatten).take ((i+1)*n)=cs x++(l.map cs).flatten.take (i*n):=by rw[e1,List.take_length_add_append]
  have e4:((cs x)++(l.map cs).flatten).drop ((i+1+1)*n)=(l.map cs).flatten.drop ((i+1)*n):=by rw[e2,List.drop_length_add_append]
  rw[ZmW hn l i,e3,e4,List.append_assoc]
theorem Zvt{P:Program}{ρ:Ren}{k:Nat}{z:Value}(L:DelLay P ρ k z)(i0:TypeInfo)(so:P.info? (ρ.t 23)=some i0)(qL:i0.size=k)(hk:z.cells.size=k)(ky:Zfv P (ρ.f 45))(h0:0 < k)
  (sk:(Builtin.zeroCells z.cells 1).toList=z.cells.toList) (vR:∀m,∀u∈(Builtin.zeroCells z.cells m).toList,u.oneCell'=true)
  {α:Type} {cs:α->List Value} (hn:∀x,(cs x).length=k) (h1:∀x,∀u∈cs x,u.oneCell'=true) (l:List α) (b c i:Nat) (T:TypeId) (cap:Nat) (m:Mem) (hi:i < l.length) (hc:l.length<=c) (hm:l.length<=9223372036854775807):
  CX P (ρ.f 45) #[.slice (some ⟨b,0,none⟩) l.length c,.int .i64 i,.int .i64 (i+1:Nat)] m [⟨b,(l.map cs).flatten,T,cap,false,false⟩] (λv m' css=>v=.slice (some ⟨b,0,none⟩) (l.length - 1) c/\css=[((l.eraseIdx i).map cs).flatten++z.cells.toList]):=by
 refine⟨ky,λw hs hX _=>?_⟩
 obtain⟨eQ,_⟩:=hX _ (List.mem_singleton.2 rfl)
 have iQ:=eQ.wr
 have bA:(l.map cs).flatten.length=l.length*k:=Za1 hn l
 have iR:0 < l.length*k:=Nat.mul_pos (by omega) h0
 obtain⟨sp,fr,vS,sr,ss⟩:=eQ.cells
 obtain⟨cur,iz⟩:∃cur,cur=((l.map cs).flatten++sp).toArray:=⟨_,rfl⟩
 have hh:w.heap[b]?=some (.cells cur T fr):=by rw[iz];exact vS
 have cF:∀(q:Nat)(u:Value),(l.map cs).flatten[q]?=some u->w.cell? ⟨b,q,none⟩=some u:=λq u hu=>eQ.cell hu
 have aO:∀q,q < l.length*k->q < cur.size:=λq hq=>by
  have:=cF q _ (zA3 (by omega))
  simp only[World.cell?,hh,Option.isSome_none,Bool.false_eq_true,if_false]at this
  exact(Array.getElem?_eq_some_iff.1 this).1
 have hH:∀(q:Nat)(u:Value),(l.map cs).flatten[q]?=some u->w.cell? ⟨b,0+q,none⟩=some u/\w.frozen? ⟨b,0+q,none⟩=false:=λq u hu=>by
  rw[Nat.zero_add]
  refine⟨cF q u hu,?_⟩
  have hq:=(zA0 hu).1
  have h2:=iQ cur T fr hh q (aO q (by omega))
  obtain⟨f1,f2⟩:=fr
  simp only[World.frozen?,hh,Bool.and_eq_false_iff,decide_eq_false_iff_not]
  simp only at h2
  omega
 have h1':∀u∈(l.map cs).flatten,u.oneCell'=true:=λu hu=>by
  simp only[List.mem_flatten,List.mem_map]at hu
  obtain⟨_,⟨x,_,rfl⟩,hu⟩:=hu
  exact h1 x u hu
 refine(ZnD L i0 so qL hk b 0 l.length c i (i+1) (l.map cs).flatten w bA hH h1' vR hc hm (by omega) (by omega)).mono ?_
 rintro e w' ⟨rfl,rfl⟩
 rw[show i+1 - i=1 by omega,Nat.zero_add,Nat.zero_add,sk]
 obtain⟨news,gw⟩:∃news,news=(l.map cs).flatten.drop ((i+1)*k):=⟨_,rfl⟩
 rw[<-gw]
 have lG:(i+1)*k<=l.length*k:=Nat.mul_le_mul_right _ (by omega)
 have vT:(i+1)*k=i*k+k:=Nat.succ_mul i k
 have mR:news.length=l.length*k - (i+1)*k:=by rw[gw,List.length_drop,bA]
 have ly:(l.length - 1)*k+k=l.length*k:=by
  have:l.length=l.length - 1+1:=by omega
  rw[this,Nat.succ_mul];rfl
 have uc:w.drew.heap[b]?=some (.cells cur T fr):=hh
 obtain⟨c1,g1,g2⟩:=ZeL b news (i*k) w.drew uc
 obtain⟨c2,g3,g4⟩:=ZeL b z.cells.toList ((l.length - 1)*k) (w.drew.setCells b (i*k) news) g1
 have lT:Upd (λq=>q=b) w w.drew:=⟨rfl,rfl,rfl,Nat.le_refl _,λ_ _ _=>rfl,λ_ _ h=>h⟩
 have hU:=Upd.tr (Upd.tr lT (ZhK b (i*k) news w.drew uc)) (ZhK b ((l.length - 1)*k) z.cells.toList _ g1)
 have iY:z.cells.toList.length=k:=by simpa using hk
 have fK:(((l.eraseIdx i).map cs).flatten++z.cells.toList).length=l.length*k:=by
  rw[zA1,iY,Za1 hn,List.length_eraseIdx,if_pos hi];exact ly
 have some1:∀q,q < cur.size->(w.drew.cell? ⟨b,q,none⟩).isSome=true:=λq hq=>by
  show(w.cell? ⟨b,q,none⟩).isSome=true
  simp[World.cell?,hh,hq]
 have some2:∀q,q < cur.size->((w.drew.setCells b (i*k) news).cell? ⟨b,q,none⟩).isSome=true:=λq hq=>by
  simp[World.cell?,g1,g2,hq]
 have at_:∀q,((w.drew.setCells b (i*k) news).setCells b ((l.length - 1)*k) z.cells.toList).cell? ⟨b,q,none⟩=if q < l.length*k then(((l.eraseIdx i).map cs).flatten++z.cells.toList)[q]? else w.cell? ⟨b,q,none⟩:=λq=>by
  have ud:((l.eraseIdx i).map cs).flatten.length=(l.length - 1)*k:=by rw[Za1 hn,List.length_eraseIdx,if_pos hi]
  by_cases hq:q < l.length*k
  ·rw[if_pos hq]
   by_cases oJ:(l.length - 1)*k<=q
   ·have:=World.cell?_setCells_in b z.cells.toList ((l.length - 1)*k) (w.drew.setCells b (i*k) news) (λj hj=>some2 _ (aO _ (by omega))) (q - (l.length - 1)*k) (by omega)
    rw[show(l.length - 1)*k+(q - (l.length - 1)*k)=q by omega]at this
    rw[this,zA4 (by omega),ud]
    exact(zA3 _).symm
   ·rw[World.cell?_setCells_out b _ _ _ _ (λ_ _=>.inl (by show q < _;omega)),zA5 (by omega),ZmW hn]
    by_cases rz:i*k<=q
    ·have:=World.cell?_setCells_in b news (i*k) w.drew (λj hj=>some1 _ (aO _ (by omega))) (q - i*k) (by omega)
     rw[show i*k+(q - i*k)=q by omega]at this
     have ju:((l.map cs).flatten.take (i*k)).length=i*k:=by rw[List.length_take,bA];omega
     rw[this,zA4 (by omega),ju,<-gw]
     exact(zA3 _).symm
    ·have ju:((l.map cs).flatten.take (i*k)).length=i*k:=by rw[List.length_take,bA];omega
     rw[World.cell?_setCells_out b _ _ _ _ (λ_ _=>.inl (by show q < _;omega)),zA5 (by omega),List.getElem?_take_of_lt (by omega)]
     have oK:q < (l.map cs).flatten.length:=by omega
     rw[zA3 oK]
     exact cF q _ (zA3 oK)
  ·rw[if_neg hq,World.cell?_setCells_out b _ _ _ _ (λ_ _=>.inr (by show _<=q;omega)),World.cell?_setCells_out b _ _ _ _ (λ_ _=>.inr (by show _<=q;omega))]
   rfl
 obtain⟨full,ue⟩:∃full,full=((l.eraseIdx i).map cs).flatten++z.cells.toList:=⟨_,rfl⟩
 rw[<-ue]at fK ⊢
 rw[<-ue]at at_
 have nb:((l.map cs).flatten++sp).length=l.length*k+sp.length:=by rw[zA1,bA]
 have su:c2=(full++sp).toArray:=by
  refine Array.ext' (List.ext_getElem? λq=>?_)
  have h5:=at_ q
  simp only[World.cell?,g3,hh,Option.isSome_none,Bool.false_eq_true,if_false]at h5
  rw[Array.getElem?_toList,h5]
  by_cases hq:q < l.length*k
  ·rw[if_pos hq,zA5 (by rw[fK];exact hq)]
  ·rw[if_neg hq,zA4 (by rw[fK];omega),fK,iz]
   simp only[List.getElem?_toArray]
   rw[zA4 (by rw[bA];omega),bA]
 have hb:∀q,q≠b->((w.drew.setCells b (i*k) news).setCells b ((l.length - 1)*k) z.cells.toList).heap[q]?=w.heap[q]?:=λq hq=>(Zda b hq _ _ _).trans (Zda b hq _ _ w.drew)
 refine⟨_,m,[full],rfl,Mem.le_refl m,⟨λb1 o1 v hv=>?_,λb1 e he=>?_⟩,NewM.refl _ _,⟨hU.os,hU.tape,hU.output,hU.size,λq _ hn=>hb q (by simpa using hn),hU.wr⟩,rfl,λi' x cs' hx cD=>?_,rfl,rfl⟩
 ·have dH:b1≠b:=λe=>by
   subst e
   rw[eQ.free rfl o1]at hv;cases hv
  rw[<-hs _ _ _ hv]
  exact Zct (hb b1 dH) o1
 ·have:=hs.k b1 e he
  have dH:b1≠b:=λe=>by
   subst e
   obtain⟨es,cl,h8,_⟩:=this
   rw[hh]at h8;cases h8
  exact this.same (hb b1 dH)
 ·cases i' with
  | succ n=>simp at hx
  | zero=>
   simp at hx cD
   subst hx cD
   refine⟨⟨sp,fr,by rw[<-su];exact g3,?_,?_⟩,λ_=>eQ.free rfl,λh=>(by cases h),λh=>(by cases h)⟩
   ·have dE:((l.map cs).flatten++sp).length=cap:=sr
    show(full++sp).length=cap
    rw[<-dE,nb,zA1,fK]
   ·exact ss
end Go.Rx
namespace Go.Rx
open Go Go.Eng Go.RowKit
def ZhL(x:Sta)(k:Nat):Sta:=⟨x.s,x.ra,x.rc,x.rules.eraseIdx k⟩
def ZoE(s:Sc)(i k:Nat):Sc:=match s.states[i]? with
 | some x=>⟨s.n,s.va,s.vc,s.vars,s.sa,s.sc,s.states.set i (ZhL x k)⟩
 | none=>s
def Zi8(s:Sc)(i k:Int):Bool:=s.light&&(decide (i ≥ 0)&&(decide (i < s.states.length)&&(decide (k ≥ 0)&&match s.states[i.toNat]? with
 | some x=>decide (k < x.rules.length)
 | none=>false)))
theorem ZfQ{s s':Sc}(h:s'.er=s.er):s'.states.map Sta.er=s.states.map Sta.er:=congrArg Sc.states h
theorem ZAo{s s':Sc}(h:s'.er=s.er){i:Nat}{x:Sta}(hx:s.states[i]?=some x):∃x',s'.states[i]?=some x'/\x'.er=x.er:=by
 have:=congrArg (λl=>l[i]?) (ZfQ h)
 simp only[List.getElem?_map,hx,Option.map_some]at this
 obtain⟨x',h1,h2⟩:=Option.map_eq_some_iff.1 this
 exact⟨x',h1,h2⟩
theorem ZAp{s s':Sc}(h:s'.er=s.er):s'.states.length=s.states.length:=by
 have:=congrArg List.length (ZfQ h);simpa using this
theorem ZiR{x x':Sta}(h:x'.er=x.er):x'.s=x.s/\x'.rules.map Ru.er=x.rules.map Ru.er/\x'.rules.length=x.rules.length:=by
 have h2:x'.rules.map Ru.er=x.rules.map Ru.er:=congrArg Sta.rules h
 have h1:x'.er.s=x.er.s:=congrArg Sta.s h
 exact⟨h1,h2,by have:=congrArg List.length h2;simpa using this⟩
theorem ZtF{s s':Sc}(h:s'.er=s.er):s'.n=s.n/\s'.vars=s.vars:=by
 have h1:s'.er.n=s.er.n:=congrArg Sc.n h
 have h2:s'.er.vars=s.er.vars:=congrArg Sc.vars h
 exact⟨h1,h2⟩
theorem ZtG{s s':Sc}(h1:s'.n=s.n)(h2:s'.vars=s.vars)(h3:s'.states.map Sta.er=s.states.map Sta.er):s'.er=s.er:=by
 unfold Sc.er;rw[h1,h2,h3]
theorem Zlc{α β:Type}(f:α->β):∀(l:List α)(k:Nat),(l.eraseIdx k).map f=(l.map f).eraseIdx k
 | [],_=>rfl
 | _::_,0=>rfl
 | x::l,k+1=>by simp only[List.eraseIdx_cons_succ,List.map_cons,Zlc f l k]
theorem ZtH{x x':Sta}(h:x'.er=x.er)(k:Nat):(ZhL x' k).er=(ZhL x k).er:=by
 obtain⟨h1,h2,_⟩:=ZiR h
 simp only[ZhL,Sta.er,h1,Sta.mk.injEq,true_and]
 rw[Zlc,Zlc,h2]
theorem Zx6{m:Mem}{b:Nat}{L:List Sta}{i:Nat}{x y:Sta}(h:rowRd m (some ⟨b,0,none⟩) (L.map Sta.cs).flatten)(hx:L[i]?=some x)(hs:y.s=x.s):
  rowRd (m.upd b (0+i*2+1) [.slice y.ra y.rules.length y.rc]) (some ⟨b,0,none⟩) ((L.set i y).map Sta.cs).flatten:=by
 have hi:=(zA0 hx).1
 have hl:∀l:List Sta,(l.map Sta.cs).flatten.length=l.length*2:=Za1 Sta.len
 have e0:L=L.take i++x::L.drop (i+1):=by
  have:=(zA0 hx).2
  rw[<-this,List.getElem_cons_drop,List.take_append_drop]
 have e1:L.set i y=L.take i++y::L.drop (i+1):=List.set_eq_take_append_cons_drop.trans (if_pos hi)
 have lt:(L.take i).length=i:=by rw[List.length_take];omega
 have e:∀z:Sta,((L.take i++z::L.drop (i+1)).map Sta.cs).flatten=((L.take i).map Sta.cs).flatten++(z.cs++((L.drop (i+1)).map Sta.cs).flatten):=λz=>by simp
 rw[e0,e]at h
 rw[e1,e]
 obtain⟨A,hA⟩:∃A,A=((L.take i).map Sta.cs).flatten:=⟨_,rfl⟩
 obtain⟨B,hB⟩:∃B,B=((L.drop (i+1)).map Sta.cs).flatten:=⟨_,rfl⟩
 have lA:A.length=i*2:=by rw[hA,hl,lt]
 rw[<-hA,<-hB]at h ⊢
 rcases h with h|⟨b',o',ha,h⟩
 ·have:=congrArg List.length h
  rw[zA1,zA1,Sta.len]at this
  simp at this
 cases ha
 refine .inr ⟨b,0,rfl,λj v hj=>?_⟩
 unfold Mem.upd;try dsimp only
 rw[Nat.zero_add,Nat.zero_add,List.length_singleton]
 rcases Nat.lt_or_ge j (i*2)with aO|bO
 ·rw[if_neg (by omega)]
  rw[zA5 (by omega)]at hj
  have:=h j v (by rw[zA5 (by omega)];exact hj)
  rwa [Nat.zero_add]at this
 ·rw[zA4 (by omega),lA]at hj
  by_cases px:j=i*2
  ·subst px
   rw[if_neg (by omega)]
   rw[Nat.sub_self]at hj
   have:=h (i*2) v (by
    rw[zA4 (by omega),lA,Nat.sub_self]
    simp only[Sta.cs,hs]at hj ⊢
    exact hj)
   rwa [Nat.zero_add]at this
  ·by_cases oe:j=i*2+1
   ·subst oe
    rw[if_pos ⟨rfl,Nat.le_refl _,Nat.lt_succ_self _⟩,Nat.sub_self]
    rw[show i*2+1 - i*2=1 by omega]at hj
    exact hj
   ·rw[if_neg (by omega)]
    rw[zA4 (by rw[Sta.len];omega),Sta.len]at hj
    have:=h j v (by
     rw[zA4 (by omega),lA,zA4 (by rw[Sta.len];omega),Sta.len];exact hj)
    rwa [Nat.zero_add]at this
theorem Zx7{m2 m3 M:Mem}{s':Sc}{bS bR i k:Nat}{μ:Nat->Mem}{x':Sta}{zs:List Value}(dO:RepC (nw m2 m3) s')(fN:SepC m2 m3 s' bS μ)(hx':s'.states[i]?=some x')(og:x'.ra=some ⟨bR,0,none⟩)(hk:k < x'.rules.length)
  (sw:∀r∈x'.rules,RepR ((μ i).off λq=>q=bR) r) (hM:(m3.off λq=>q=bR).le M) (sx:(M.upd bS (0+i*2+1) [.slice x'.ra (x'.rules.length - 1) x'.rc]).free bR):
  RepC ((M.upd bS (0+i*2+1) [.slice x'.ra (x'.rules.length - 1) x'.rc]).add bR (((x'.rules.eraseIdx k).map Ru.cs).flatten++zs)) ⟨s'.n,s'.va,s'.vc,s'.vars,s'.sa,s'.sc,s'.states.set i (ZhL x' k)⟩:=by
 obtain⟨V,hV⟩:∃V,V=M.upd bS (0+i*2+1) [.slice x'.ra (x'.rules.length - 1) x'.rc]:=⟨_,rfl⟩
 rw[<-hV]at sx ⊢
 have hi:=(zA0 hx').1
 obtain⟨py,nb,bW,qN⟩:=fN.all i x' hx'
 have kno:∀{ν:Mem},ν.le (nw m2 m3)->∀b,ν.k b=none:=λh b=>Zi7 h rfl
 have stay:∀{ν:Mem},ν.le (m3.off λq=>q=bR)->ν.free bS->ν.le (V.add bR (((x'.rules.eraseIdx k).map Ru.cs).flatten++zs)):=λh1 h2=>
  mLt (by rw[hV];exact Mem.le_upd (mLt h1 hM) h2 _ _) (Mem.le_add sx _)
 have kp:¬(μ i).free bR:=λhf=>by
  rcases py.row with h|⟨b,o,ha,h⟩
  ·have:=congrArg List.length h
   rw[Za1 Ru.len]at this;simp at this;omega
  ·rw[og]at ha;cases ha
   have aO:0 < (x'.rules.map Ru.cs).flatten.length:=by rw[Za1 Ru.len];omega
   have:=h 0 _ (zA3 aO)
   rw[hf]at this;cases this
 have sy:bS≠bR:=λe=>kp (e ▸ qN)
 have off:∀{ν:Mem},ν.le (nw m2 m3)->ν.free bR->ν.le (m3.off λq=>q=bR):=λh1 h2=>Zx3 (mLt h1 (ZoD _ _)) λb e=>⟨e ▸ h2,kno h1 b⟩
 have bH:∀j,j < s'.states.length->j≠i->(μ j).free bR:=λj hj dH=>by
  rcases Nat.lt_or_ge j i with h|h
  ·exact(fN.ap j i h hi bR).resolve_right kp
  ·exact(fN.ap i j (by omega) hj bR).resolve_left kp
 have sA:=fN.sa
 refine⟨dO.n,dO.vlen,?_,dO.vall,by rw[List.length_set];exact dO.len,?_,λy hy=>?_,dO.vcap,by rw[List.length_set];exact dO.scap⟩
 ·obtain⟨μv,h1,h2,h3,h4⟩:=fN.va
  exact h1.mono (stay (off h2 ((h4 i hi bR).resolve_right kp)) h3)
 ·have aN:rowRd (m3.off λq=>q=bR) s'.sa (s'.states.map Sta.cs).flatten:=by
   rcases dO.row with h|⟨b,o,ha,h⟩
   ·exact .inl h
   ·refine .inr ⟨b,o,ha,λj v hj=>?_⟩
    rw[sA]at ha;cases ha
    rw[Mem.off_at (Y:=λq=>q=bR) sy];exact(ZoD m2 m3) _ _ _ (h j v hj)
  rw[sA]at aN
  have h5:=Zx6 (y:=ZhL x' k) (aN.mono hM) hx' rfl
  have h6:(ZhL x' k).rules.length=x'.rules.length - 1:=by simp only[ZhL];rw[List.length_eraseIdx,if_pos hk]
  rw[h6]at h5
  rw[sA]
  have h7:rowRd V (some ⟨bS,0,none⟩) ((s'.states.set i (ZhL x' k)).map Sta.cs).flatten:=by rw[hV];exact h5
  exact h7.mono (Mem.le_add sx _)
 ·obtain⟨j,hj⟩:=List.getElem?_of_mem hy
  by_cases np:j=i
  ·subst np
   rw[List.getElem?_set_self hi]at hj
   cases hj
   refine⟨py.s,by show(x'.rules.eraseIdx k).length<=few;rw[List.length_eraseIdx,if_pos hk];have:=py.len;omega,?_,λr hr=>?_⟩
   ·show rowRd _ x'.ra ((x'.rules.eraseIdx k).map Ru.cs).flatten
    rw[og]
    refine .inr ⟨bR,0,rfl,λq v hq=>?_⟩
    rw[Nat.zero_add,Mem.add_same,zA5 (zA0 hq).1];exact hq
   ·refine(sw r (List.mem_of_mem_eraseIdx hr)).mono (stay (Zw6 (mLt bW (ZoD _ _))) ?_)
    exact ZcF (Mem.off_le _ _) qN
  ·rw[List.getElem?_set_ne (Ne.symm np)]at hj
   have oh:=(zA0 hj).1
   obtain⟨h1,_,h3,h4⟩:=fN.all j y hj
   exact h1.mono (stay (off h3 (bH j oh np)) h4)
def ZtI(s:Sc)(d:Dd):Sc:=ZoE s d.1.toNat d.2.toNat
def Zkm(s:Sc)(l:List Dd):Sc:=l.foldl ZtI s
def ZtJ(s:Sc):Sc:=Zkm s (Za0 s).reverse
def ZAq(s:Sc)(d:Dd):Prop:=∃(i k:Nat)(x:Sta),d=((i:Int),(k:Int))/\s.states[i]?=some x/\k < x.rules.length
def Zld:Sc->List Dd->Prop
 | _,[]=>True
 | s,d::l=>ZAq s d/\Zld (ZtI s d) l
theorem Zqb(s:Sc)(l r:List Dd):Zkm s (l++r)=Zkm (Zkm s l) r:=List.foldl_append
theorem ZmX:∀(l r:List Dd)(s:Sc),Zld s l->Zld (Zkm s l) r->Zld s (l++r)
 | [],r,s,_,h=>h
 | d::l,r,s,h,k=>⟨h.1,ZmX l r _ h.2 k⟩
theorem Zqc:∀{l:List Dd} {s:Sc},Zld s l->∀{j:Nat} {d:Dd},l[j]?=some d->ZAq (Zkm s (l.take j)) d
 | [],s,_,j,d,h=>by simp at h
 | e::l,s,h,0,d,hd=>by simp at hd;subst hd;exact h.1
 | e::l,s,h,j+1,d,hd=>Zqc (l:=l) (s:=ZtI s e) h.2 (j:=j) (by simpa using hd)
theorem Zvu{s:Sc}{l:List Dd}{j:Nat}{d:Dd}(h:l[j]?=some d):Zkm s (l.take (j+1))=ZtI (Zkm s (l.take j)) d:=by
 rw[List.take_add_one,h,Zqb];rfl
def Zch(x:Sta):Nat->List Ru
 | 0=>[]
 | k+1=>Zch x k++(match x.rules[k]? with
  | some r=>if Zb8 x k r then[]else[r]
  | none=>[])
def ZeV(x:Sta):Sta:=⟨x.s,x.ra,x.rc,Zch x x.rules.length⟩
theorem Zvv{i:Nat}{x:Sta}{k:Nat}{r:Ru}(h:x.rules[k]?=some r):(ZbW i x (k+1)).reverse=(if Zb8 x k r then[((i:Int),(k:Int))]else[])++(ZbW i x k).reverse:=by
 rw[ZfN h,List.reverse_append];split <;> simp
theorem Zgy(x:Sta)(i:Nat):∀(k:Nat),k<=x.rules.length->∀(s:Sc)(y:Sta)(tl:List Ru),s.states[i]?=some y->y.rules=x.rules.take k++tl->
  Zld s (ZbW i x k).reverse/\Zkm s (ZbW i x k).reverse=⟨s.n,s.va,s.vc,s.vars,s.sa,s.sc,s.states.set i ⟨y.s,y.ra,y.rc,Zch x k++tl⟩⟩
 | 0,_,s,y,tl,hy,hr=>by
  refine⟨trivial,?_⟩
  have h1:(⟨y.s,y.ra,y.rc,Zch x 0++tl⟩:Sta)=y:=by
   cases y;simp only[Zch,List.nil_append,Sta.mk.injEq,true_and]
   simpa using hr.symm
  have h2:s.states.set i y=s.states:=by
   obtain⟨hi,e⟩:=zA0 hy
   rw[<-e];exact List.set_getElem_self hi
  show s=_
  rw[h1,h2]
 | k+1,hk,s,y,tl,hy,hr=>by
  obtain⟨r,gM⟩:∃r,x.rules[k]?=some r:=⟨x.rules[k],zA3 (by omega)⟩
  have ht:x.rules.take (k+1)=x.rules.take k++[r]:=by rw[List.take_add_one,gM];rfl
  rw[Zvv gM]
  rw[ht,List.append_assoc]at hr
  have hl:(x.rules.take k).length=k:=by rw[List.length_take];omega
  cases hd:Zb8 x k r with
  | false=>
   have ih:=Zgy x i k (by omega) s y (r::tl) hy hr
   simp only[Bool.false_eq_true,if_false,List.nil_append]
   refine⟨ih.1,ih.2.trans ?_⟩
   have:Zch x (k+1)++tl=Zch x k++r::tl:=by simp[Zch,gM,hd]
   rw[this]
  | true=>
   simp only[if_true]
   have hi:=(zA0 hy).1
   have he:y.rules.eraseIdx k=x.rules.take k++tl:=by
    rw[hr,List.eraseIdx_append_of_length_le (by omega),hl,Nat.sub_self];rfl
   have lC:ZtI s ((i:Int),(k:Int))=⟨s.n,s.va,s.vc,s.vars,s.sa,s.sc,s.states.set i (ZhL y k)⟩:=by
    unfold ZtI ZoE
    simp only[zA8,hy]
   have ih:=Zgy x i k (by omega) (ZtI s ((i:Int),(k:Int))) (ZhL y k) tl (by rw[lC];exact List.getElem?_set_self hi) he
   have e2:Zch x (k+1)=Zch x k:=by simp[Zch,gM,hd]
   refine⟨⟨⟨i,k,y,rfl,hy,by rw[hr];simp;omega⟩,ih.1⟩,?_⟩
   show Zkm (ZtI s ((i:Int),(k:Int))) (ZbW i x k).reverse=_
   rw[ih.2,lC,e2]
   simp only[ZhL,List.set_set]
theorem Zqd(s0:Sc):∀(n:Nat),n<=s0.states.length->∀s:Sc,s.states.length=s0.states.length->(∀j,j < n->s.states[j]?=s0.states[j]?)->
  Zld s (deadU s0 n).reverse/\∃L:List Sta,Zkm s (deadU s0 n).reverse=⟨s.n,s.va,s.vc,s.vars,s.sa,s.sc,L⟩/\L.length=s0.states.length/\∀j,L[j]?=if j < n then(s0.states[j]?).map ZeV else s.states[j]?
 | 0,_,s,hl,_=>⟨trivial,s.states,rfl,hl,λj=>by simp⟩
 | n+1,hn,s,hl,hs=>by
  obtain⟨x,hx⟩:∃x,s0.states[n]?=some x:=⟨s0.states[n],zA3 (by omega)⟩
  have cQ:s.states[n]?=some x:=(hs n (by omega)).trans hx
  obtain⟨h1,h2⟩:=Zgy x n x.rules.length (Nat.le_refl _) s x [] cQ (by simp)
  have e:(deadU s0 (n+1)).reverse=(ZbW n x x.rules.length).reverse++(deadU s0 n).reverse:=by rw[Zeq hx,List.reverse_append]
  have hi:n < s.states.length:=by omega
  have ih:=Zqd s0 n (by omega) (Zkm s (ZbW n x x.rules.length).reverse) (by rw[h2];simp only[List.length_set];exact hl) (λj hj=>by
   rw[h2]
   show(s.states.set n _)[j]?=_
   rw[List.getElem?_set_ne (by omega)]
   exact hs j (by omega))
  obtain⟨i1,L,i2,i3,i4⟩:=ih
  rw[e]
  refine⟨ZmX _ _ _ h1 i1,L,?_,i3,λj=>?_⟩
  ·rw[Zqb,i2,h2]
  ·rw[i4]
   by_cases hj:j < n
   ·rw[if_pos hj,if_pos (by omega)]
   ·rw[if_neg hj,h2]
    show(s.states.set n _)[j]?=_
    by_cases uf:j=n
    ·subst uf
     rw[if_pos (by omega),List.getElem?_set_self hi,hx]
     simp[ZeV]
    ·rw[List.getElem?_set_ne (Ne.symm uf),if_neg (by omega)]
theorem Zkn(s:Sc):Zld s (Za0 s).reverse/\ZtJ s=⟨s.n,s.va,s.vc,s.vars,s.sa,s.sc,s.states.map ZeV⟩:=by
 obtain⟨h1,L,h2,h3,h4⟩:=Zqd s s.states.length (Nat.le_refl _) s rfl (λ_ _=>rfl)
 refine⟨h1,?_⟩
 unfold ZtJ
 rw[show Za0 s=deadU s s.states.length from rfl,h2]
 congr 1
 refine List.ext_getElem? λj=>?_
 rw[h4,List.getElem?_map]
 split
 ·rfl
 ·rw[List.getElem?_eq_none (by omega)];rfl
theorem Zqe{α:Type}(f:α->Int)(hf:∀x,0<=f x):∀(l:List α)(k:Nat),ZaU ((l.eraseIdx k).map f)<=ZaU (l.map f)
 | [],_=>by simp[ZaU]
 | x::l,0=>by have:=hf x;simp only[List.eraseIdx_zero,List.tail_cons,List.map_cons,ZaU];omega
 | x::l,k+1=>by have:=Zqe f hf l k;simp only[List.eraseIdx_cons_succ,List.map_cons,ZaU];omega
theorem Zw7{α:Type}(f:α->Int):∀(l:List α)(i:Nat)(x y:α),l[i]?=some x->f y<=f x->ZaU ((l.set i y).map f)<=ZaU (l.map f)
 | [],i,x,y,h,_=>by simp at h
 | z::l,0,x,y,h,hf=>by simp at h;subst h;simp only[List.set_cons_zero,List.map_cons,ZaU];omega
 | z::l,i+1,x,y,h,hf=>by have:=Zw7 f l i x y (by simpa using h) hf;simp only[List.set_cons_succ,List.map_cons,ZaU];omega
theorem Zso{s:Sc}(h:s.light=true)(i k:Nat):(ZoE s i k).light=true:=by
 unfold ZoE
 split
 ·rename_i x hx
  have h1:s.weight<=20000:=zA6 h
  refine decide_eq_true ?_
  unfold Sc.weight at h1 ⊢
  have h2:wS (ZhL x k)<=wS x:=Zqe wR Zz9 x.rules k
  have h3:=Zw7 wS s.states i x (ZhL x k) hx h2
  simp only[List.length_set]
  omega
 ·exact h
theorem Zsp{s:Sc}(h:s.light=true):∀l:List Dd,(Zkm s l).light=true:=by
 intro l
 induction l generalizing s with
 | nil=>exact h
 | cons d l ih=>exact ih (Zso h _ _)
theorem ZAr{s s':Sc}(h:s'.er=s.er)(i k:Nat):(ZoE s' i k).er=(ZoE s i k).er:=by
 obtain⟨h1,h2⟩:=ZtF h
 cases hx:s.states[i]? with
 | none=>
  have hx':s'.states[i]?=none:=by
   have:=ZAp h
   rw[List.getElem?_eq_none_iff]at hx ⊢;omega
  unfold ZoE;rw[hx,hx'];exact h
 | some x=>
  obtain⟨x',hx',he⟩:=ZAo h hx
  unfold ZoE;rw[hx,hx']
  exact ZtG h1 h2 (by rw[List.map_set,List.map_set,ZfQ h,ZtH he])
def eqL{α:Type}(f:α->α->Bool):List α->List α->Bool
 | [],[]=>true
 | x::l,y::r=>f x y&&eqL f l r
 | _,_=>false
theorem Zko{α:Type}{f:α->α->Bool}:∀{l r:List α},¬l.length=r.length->eqL f l r=false
 | [],[],h=>absurd rfl h
 | [],_::_,_=>rfl
 | _::_,[],_=>rfl
 | x::l,y::r,h=>by
  simp only[eqL];rw[Zko (l:=l) (r:=r) (λe=>h (by simp[e])),Bool.and_false]
theorem Zqf{α:Type}{f:α->α->Bool}:∀{l r:List α} {i:Nat} {x y:α},l[i]?=some x->r[i]?=some y->f x y=false->eqL f l r=false
 | [],_,i,x,y,h,_,_=>by simp at h
 | _::_,[],i,x,y,_,h,_=>by simp at h
 | a::l,b::r,0,x,y,h,k,hf=>by simp at h k;subst h k;simp only[eqL,hf,Bool.false_and]
 | a::l,b::r,i+1,x,y,h,k,hf=>by
  simp only[eqL];rw[Zqf (l:=l) (r:=r) (i:=i) (by simpa using h) (by simpa using k) hf,Bool.and_false]
theorem Zgz{α:Type}{f:α->α->Bool}:∀{l r:List α} {i:Nat} {x y:α},l[i]?=some x->r[i]?=some y->eqL f (l.take i) (r.take i)=true->f x y=true->eqL f (l.take (i+1)) (r.take (i+1))=true
 | [],_,i,x,y,h,_,_,_=>by simp at h
 | _::_,[],i,x,y,_,h,_,_=>by simp at h
 | a::l,b::r,0,x,y,h,k,_,hf=>by simp at h k;subst h k;simp[eqL,hf]
 | a::l,b::r,i+1,x,y,h,k,ht,hf=>by
  simp only[List.take_succ_cons,eqL,zA7]at ht ⊢
  exact⟨ht.1,Zgz (l:=l) (r:=r) (by simpa using h) (by simpa using k) ht.2 hf⟩
theorem Zsq{α β:Type}{f:α->α->Bool}{er:α->β}:∀{l r:List α},l.map er=r.map er->(∀x∈l,∀y∈r,er x=er y->f x y=true)->eqL f l r=true
 | [],[],_,_=>rfl
 | [],_::_,h,_=>by simp at h
 | _::_,[],h,_=>by simp at h
 | x::l,y::r,h,hf=>by
  simp only[List.map_cons,List.cons.injEq]at h
  simp only[eqL,hf x (by simp) y (by simp) h.1,Bool.true_and]
  exact Zsq h.2 λa ha b hb=>hf a (by simp[ha]) b (by simp[hb])
def Zqg(p q:Pt):Bool:=p.k == q.k&&(eqS p.s q.s&&(p.g == q.g&&(p.e.light&&(q.e.light&&p.e.same q.e))))
def Zqh(p q:Ac):Bool:=p.k == q.k&&(eqS p.s q.s&&(eqL Zqg p.parts q.parts&&(p.e.light&&(q.e.light&&p.e.same q.e))))
def ZgA(p q:Ru):Bool:=p.k == q.k&&(p.bg == q.bg&&(p.en == q.en&&((p.t.light&&(q.t.light&&p.t.same q.t))&&(eqS p.s q.s&&(p.n == q.n&&(eqL Zqh p.acts q.acts&&(eqS p.go q.go&&p.code == q.code)))))))
def ZhM(r:Ru):Bool:=decide (wR r<=19999)
mutual
theorem ZtK:∀t u:T,t.er=u.er->t.same u=true
 | .node k s0 s1 s2 s3 mn mx a c l,.node k' s0' s1' s2' s3' mn' mx' a' c' l',h=>by
  simp only[T.er,T.node.injEq]at h
  obtain⟨rfl,rfl,rfl,rfl,rfl,rfl,rfl,_,_,h⟩:=h
  rw[ZwR]
  simp only[T.k,T.s0,T.s1,T.s2,T.s3,T.mn,T.mx,T.subs,beq_self_eq_true,Bool.true_and]
  exact Zqi l l' h
theorem Zqi:∀l r:List T,erL l=erL r->Zd1 l r=true
 | [],[],_=>by simp[Zd1]
 | [],_::_,h=>by simp[erL]at h
 | _::_,[],h=>by simp[erL]at h
 | t::l,u::r,h=>by
  simp only[erL,List.cons.injEq]at h
  simp only[Zd1,ZtK t u h.1,Zqi l r h.2,Bool.and_self]
end
mutual
theorem ZoR:∀t u:E,t.er=u.er->t.same u=true
 | .node k x s g a c l,.node k' x' s' g' a' c' l',h=>by
  simp only[E.er,E.node.injEq]at h
  obtain⟨rfl,rfl,rfl,rfl,_,_,h⟩:=h
  rw[Ztr]
  simp only[E.k,E.x,E.s,E.g,E.subs,beq_self_eq_true,Bool.true_and,ZmO]
  exact Zqj l l' h
theorem Zqj:∀l r:List E,Zvp l=Zvp r->Zco l r=true
 | [],[],_=>by simp[Zco]
 | [],_::_,h=>by simp[Zvp]at h
 | _::_,[],h=>by simp[Zvp]at h
 | t::l,u::r,h=>by
  simp only[Zvp,List.cons.injEq]at h
  simp only[Zco,ZoR t u h.1,Zqj l r h.2,Bool.and_self]
end
theorem Zqk{e f:E}(h:e.er=f.er):e.light=f.light:=by rw[<-Zdn e,h,Zdn]
theorem Zvw{e f:T}(h:e.er=f.er):e.light=f.light:=by rw[<-Zec e,h,Zec]
theorem Zx8{p q:Pt}(h:p.er=q.er)(hl:p.e.light=true):Zqg p q=true:=by
 simp only[Pt.er,Pt.mk.injEq]at h
 obtain⟨h1,h2,h3,h4⟩:=h
 simp only[Zqg,h1,h2,h3,ZhH,beq_self_eq_true,Bool.true_and,hl,<-Zqk h4,ZoR _ _ h4]
theorem Zx9{p q:Ac}(h:p.er=q.er)(hl:LtA p):Zqh p q=true:=by
 simp only[Ac.er,Ac.mk.injEq]at h
 obtain⟨h1,h2,_,_,h3,h4⟩:=h
 simp only[Zqh,h1,h2,ZhH,beq_self_eq_true,Bool.true_and,hl.1,<-Zqk h4,ZoR _ _ h4,Bool.and_true]
 exact Zsq h3 λx hx y _ he=>Zx8 he (hl.2 x hx)
theorem ZtL{p q:Ru}(h:p.er=q.er)(hl:LtR p):ZgA p q=true:=by
 simp only[Ru.er,Ru.mk.injEq]at h
 obtain⟨h1,h2,h3,h4,h5,h6,_,_,h7,h8,h9⟩:=h
 simp only[ZgA,h1,h2,h3,h5,h6,h8,h9,ZhH,beq_self_eq_true,Bool.true_and,hl.1,<-Zvw h4,ZtK _ _ h4,Bool.and_true]
 exact Zsq h7 λx hx y _ he=>Zx9 he (hl.2 x hx)
theorem ZDK{p q:Ru}(h:p.er=q.er):wR p=wR q:=by rw[<-ZBN p,h,ZBN]
def Zle(p q:Va):Bool:=eqS p.s q.s&&(p.b == q.b&&(eqS p.t q.t&&ZmO p.x q.x))
def Zlf(p q:Sta):Bool:=eqS p.s q.s&&eqL ZgA p.rules q.rules
def Zi9(p q:Sc):Bool:=p.light&&(q.light&&(p.n == q.n&&(eqL Zle p.vars q.vars&&eqL Zlf p.states q.states)))
theorem Zsr(p:Va):Zle p p=true:=by simp[Zle,ZhH,ZmO]
theorem Zw8{α:Type}{f:α->α->Bool}(h:∀x,f x x=true):∀l:List α,eqL f l l=true
 | []=>rfl
 | x::l=>by simp[eqL,h,Zw8 h l]
theorem Zvx{p q:Sta}(h:p.er=q.er)(hl:∀r∈p.rules,LtR r):Zlf p q=true:=by
 obtain⟨h1,h2,_⟩:=ZiR h
 simp only[Zlf,h1,ZhH,Bool.true_and]
 exact Zsq h2 λx hx y _ he=>ZtL he (hl x hx)
theorem Zql{p q:Sc}(h:p.er=q.er)(hl:p.light=true):Zi9 p q=true:=by
 obtain⟨h1,h2⟩:=ZtF h
 have h3:q.light=true:=by rw[<-Zlb h];exact hl
 simp only[Zi9,hl,h3,h1,h2,beq_self_eq_true,Zw8 Zsr,Bool.true_and]
 exact Zsq (ZfQ h) λx hx y _ he=>Zvx he (ZAm hl x hx)
def w64(n:Int):Int:=IntKind.i64.wrap n
theorem Zlg(n:Int):IntKind.i64.wrap n=(if n % 18446744073709551616 ≥ 9223372036854775808 then n % 18446744073709551616 - 18446744073709551616 else n % 18446744073709551616):=by
 unfold IntKind.wrap
 simp only[show IntKind.i64.bits=64 from rfl,show IntKind.i64.signed=true from rfl,Bool.true_and]
 simp only[show(2:Int) ^ 64=18446744073709551616 by decide,show(2:Int) ^ (64 - 1)=9223372036854775808 by decide,decide_eq_true_eq]
theorem ZtM(a b:Int):IntKind.i64.wrap (w64 a+b)=w64 (a+b):=by
 unfold w64
 rw[Zlg,Zlg,Zlg]
 split <;> split <;> split <;> omega
theorem Zss(a b:Int):w64 (a+b)=IntKind.i64.wrap (w64 a+b):=(ZtM a b).symm
theorem Zya(a b:Int):IntKind.i64.wrap (a+w64 b)=w64 (a+b):=by
 rw[Int.add_comm,ZtM,Int.add_comm]
theorem ZAs(a b:Int):w64 (a+w64 b)=w64 (a+b):=Zya a b
theorem ZEa{n:Int}(h:I64 n):w64 n=n:=by
 unfold I64 at h
 unfold w64
 rw[Zlg]
 split <;> omega
theorem W_0:w64 0=0:=ZEa (by unfold I64;omega)
def Zst(p:E->Bool)(l:List E):Int:=((l.filter p).length:Nat)
theorem ZtN(p:E->Bool)(l r:List E):Zst p (l++r)=Zst p l+Zst p r:=by unfold Zst;rw[List.filter_append,zA1];omega
theorem ZtO(p:E->Bool)(x:E)(l:List E):Zst p (x::l)=(if p x then 1 else 0)+Zst p l:=by
 unfold Zst;rw[List.filter_cons];split <;> simp;omega
theorem Zw9(p:E->Bool):Zst p []=0:=rfl
theorem Zyb(p:E->Bool){l:List E}{q:Nat}{x:E}(h:l[q]?=some x):Zst p (l.take (q+1))=Zst p (l.take q)+(if p x then 1 else 0):=by
 rw[List.take_add_one,h,ZtN]
 show _+Zst p [x]=_
 rw[ZtO,Zw9];omega
def ZCd(x:E):Bool:=decide (Zk1 x.k > 0)
def ZC3(x:E):Bool:=x.k == 9||x.k == 10
def Zxa(e:E):Int:=if e.light then Zst ZCd e.nodes else 0
def vrE(e:E):Int:=Zst ZC3 e.nodes
def paP(p:Pt):Int:=if p.k=1 then 0 else 1
def Zyc(p:Pt):Int:=if p.k=4 then Zxa p.e else 0
def vrP(p:Pt):Int:=if p.k=4 then vrE p.e else 0
def paA(a:Ac):Int:=ZaU (a.parts.map paP)
def ZBq(a:Ac):Int:=(if a.k=3 then Zxa a.e else 0)+ZaU (a.parts.map Zyc)
def vrA(a:Ac):Int:=(if a.k=3 then vrE a.e else 0)+ZaU (a.parts.map vrP)
def ruS(x:Sta):Int:=x.rules.length
def rgR(r:Ru):Int:=if r.k=1 then r.t.size else 0
def rgS(x:Sta):Int:=ZaU (x.rules.map rgR)
def ZtP(x:Sta):List Ac:=x.rules.flatMap (·.acts)
def Zhc(s:Sc):List Ac:=s.states.flatMap ZtP
def msV(a b c d e f:Int):List Value:=[.int .i64 a,.int .i64 b,.int .i64 c,.int .i64 d,.int .i64 e,.int .i64 f]
def ms1(s:Sc):Int:=ZaU (s.states.map ruS)
def ms2(s:Sc):Int:=ZaU (s.states.map rgS)
def ms3(s:Sc):Int:=ZaU ((Zhc s).map paA)
def ms4(s:Sc):Int:=ZaU ((Zhc s).map ZBq)
def ms5(s:Sc):Int:=ZaU ((Zhc s).map vrA)
def ZrI(s:Sc):List Value:=if s.light then msV s.states.length (w64 (ms1 s)) (w64 (ms2 s)) (w64 (ms3 s)) (w64 (ms4 s)) (w64 (ms5 s))else msV 0 0 0 0 0 0
theorem Za8{α:Type}(f:α->Int){l:List α}{q:Nat}{x:α}(h:l[q]?=some x):ZaU ((l.take (q+1)).map f)=ZaU ((l.take q).map f)+f x:=by
 rw[List.take_add_one,h,List.map_append,ZoM]
 show _+(f x+0)=_
 omega
theorem Zqm{α β:Type}(f:α->List β){l:List α}{q:Nat}{x:α}(h:l[q]?=some x):(l.take (q+1)).flatMap f=(l.take q).flatMap f++f x:=by
 rw[List.take_add_one,h,List.flatMap_append]
 simp
theorem Zxb{α β:Type}(f:α->List β){l:List α}{q:Nat}{x:α}(h:l[q]?=some x){j:Nat}{y:β}(hj:(f x)[j]?=some y):(l.flatMap f)[((l.take q).flatMap f).length+j]?=some y:=by
 have e:l=l.take q++x::l.drop (q+1):=by
  have hq:=(zA0 h).1
  rw[<-(zA0 h).2,<-List.drop_eq_getElem_cons hq,List.take_append_drop]
 have e2:l.flatMap f=(l.take q).flatMap f++(f x++(l.drop (q+1)).flatMap f):=by
  conv=>lhs;rw[e]
  rw[List.flatMap_append,List.flatMap_cons]
 rw[e2,zA4 (by omega),Nat.add_sub_cancel_left,zA5 (zA0 hj).1]
 exact hj
theorem Zyd{m:Mem}{s:Sc}(hr:RepC m s){a:Ac}(h:a∈Zhc s):RepA m a:=by
 unfold Zhc ZtP at h
 obtain⟨x,hx,h⟩:=List.mem_flatMap.1 h
 obtain⟨r,eX,h⟩:=List.mem_flatMap.1 h
 exact((hr.all x hx).all r eX).all a h
end Go.Rx
namespace Go.Rx
open Go Go.Eng
def Zfr:List Int->List Int->Int
 | [],[]=>0
 | [],_::_=>-1
 | _::_,[]=>1
 | x::l,y::r=>if x < y then -1 else if x > y then 1 else Zfr l r
end Go.Rx
namespace Go.Rx
open Go Go.Eng Go.RowKit
def Zsu(x:Sta)(j:Nat):Nat:=(Zch x j).length
theorem Zqn{x:Sta}{j:Nat}:∀{n:Nat},j<=n->∃r,Zch x n=Zch x j++r
 | 0,h=>⟨[],by rw[show j=0 by omega];simp⟩
 | n+1,h=>by
  by_cases e:j=n+1
  ·exact⟨[],by rw[e];simp⟩
  ·obtain⟨r,hr⟩:=Zqn (x:=x) (j:=j) (n:=n) (by omega)
   rw[Zch,hr];exact⟨_,List.append_assoc _ _ _⟩
theorem ZoS{x:Sta}{j n:Nat}{r:Ru}(hj:j < n)(h:x.rules[j]?=some r)(hd:Zb8 x j r=false):(Zch x n)[Zsu x j]?=some r:=by
 obtain⟨l,e⟩:=Zqn (x:=x) (j:=j+1) (n:=n) hj
 have h2:Zch x (j+1)=Zch x j++[r]:=by simp[Zch,h,hd]
 unfold Zsu
 rw[e,h2,List.append_assoc,zA4 (Nat.le_refl _)]
 simp
theorem Zer{x:Sta}:∀{n i:Nat} {r:Ru},(Zch x n)[i]?=some r->∃j,j < n/\x.rules[j]?=some r/\Zb8 x j r=false/\Zsu x j=i
 | 0,i,r,h=>by simp[Zch]at h
 | n+1,i,r,h=>by
  rw[Zch]at h
  by_cases hi:i < (Zch x n).length
  ·rw[zA5 hi]at h
   obtain⟨j,h1,h2⟩:=Zer h
   exact⟨j,by omega,h2⟩
  ·rw[zA4 (by omega)]at h
   split at h
   ·rename_i r' hr
    split at h
    ·simp at h
    ·rename_i hd
     have:i - (Zch x n).length=0:=by
      have:=(zA0 h).1;simp at this;omega
     rw[this]at h
     obtain rfl:r'=r:=by simpa using h
     exact⟨n,by omega,hr,by simpa using hd,by unfold Zsu;omega⟩
   ·simp at h
theorem Zxc{x:Sta}{j:Nat}{r:Ru}(h:Zb8 x j r=false)(h4:r.k=4):(j:Int)=ZrH (toO x):=by
 unfold Zb8 at h
 simp only[h4,beq_self_eq_true,Bool.true_and,Bool.or_eq_false_iff]at h
 simpa using h.1
theorem Zxd{x:Sta}{j:Nat}{r:Ru}(h:Zb8 x j r=false)(h4:r.k=3):(j:Int)=ZrH (eoO x):=by
 unfold Zb8 at h
 simp only[h4,beq_self_eq_true,Bool.true_and,Bool.or_eq_false_iff]at h
 simpa using h.2
theorem ZAt{x:Sta}{k:Nat}{r:Ru}(h:toO x=some k)(hr:x.rules[k]?=some r):r.k=4/\Zb8 x k r=false:=by
 obtain⟨_,z,hz,hc⟩:=Zb4 h
 rw[hr]at hz;cases hz
 have h4:r.k=4:=by simpa[ZCX]using hc
 refine⟨h4,?_⟩
 unfold Zb8
 rw[h,h4]
 simp[ZrH]
theorem ZAu{x:Sta}{k:Nat}{r:Ru}(h:eoO x=some k)(hr:x.rules[k]?=some r):r.k=3/\Zb8 x k r=false:=by
 obtain⟨_,z,hz,hc⟩:=Zb4 h
 rw[hr]at hz;cases hz
 have h4:r.k=3:=by simpa[ZCY]using hc
 refine⟨h4,?_⟩
 unfold Zb8
 rw[h,h4]
 simp[ZrH]
theorem MkC.deadU{s:Sc}(h:MkC s)(n:Nat):(Go.Rx.deadU s n).length<=n*5:=by
 induction n with
 | zero=>simp[Go.Rx.deadU]
 | succ n ih=>
  rw[Go.Rx.deadU,zA1,Nat.succ_mul]
  refine Nat.add_le_add ih ?_
  split
  ·rename_i x hx
   exact Nat.le_trans (Zla n x x.rules.length) (h.all n x hx).len
  ·simp
theorem MkC.dead{s:Sc}(h:MkC s):(Za0 s).length<=20:=Nat.le_trans (h.deadU s.states.length) (by have:=h.len;omega)
theorem MkC.wR{s:Sc}(h:MkC s){i a:Nat}{x:Sta}{r:Ru}(hx:s.states[i]?=some x)(hr:x.rules[a]?=some r):Go.Rx.wR r<=405:=((h.all i x hx).all r (zA2 hr)).w
theorem ZAv{p q:Ru}(h:wR p<=405)(he:p.er=q.er):(ZhM p&&(ZhM q&&ZgA p q))=true:=by
 have h2:=ZDK he
 rw[ZtL he (ZAl (by omega))]
 unfold ZhM
 rw[decide_eq_true (by omega),decide_eq_true (by omega)];rfl
theorem Zye{s:Sc}{i a:Nat}{x:Sta}{r:Ru}(hx:s.states[i]?=some x)(hr:x.rules[a]?=some r)(hd:Zb8 x a r=false):((i:Int),(a:Int)) ∉ Za0 s:=by
 intro h
 obtain⟨i',x',j',r',q1,q2,q3,q4⟩:=ZtB.1 h
 obtain⟨q5,q6⟩:(i:Int)=i'/\(a:Int)=j':=by simpa using q4
 obtain rfl:i=i':=by omega
 obtain rfl:a=j':=by omega
 rw[hx]at q1;cases q1
 rw[hr]at q2;cases q2
 rw[hd]at q3;cases q3
theorem Zvy(l:List E):Zk2 (l.map E.er)=Zk2 l:=by cases l <;> simp[Zk2]
theorem Zvz(t:E):t.er.right=t.right:=by
 unfold E.right
 simp only[ZCZ,ZDG,ZDH,ZC0,Zx4,List.length_map,Zvy]
theorem Zqo(t:E):t.er.clean=t.clean:=by
 unfold E.clean
 rw[Zdn,ZfO,List.all_map]
 congr 2
 funext x;exact Zvz x
mutual
theorem Zqp:∀(t:E)(out:List ByteArray),t.er.names out=t.names out
 | .node k x s g a c l,out=>by
  simp only[E.er,E.names]
  rw[ZmY l out]
theorem ZmY:∀(l:List E)(out:List ByteArray),ZbM (Zvp l) out=ZbM l out
 | [],out=>rfl
 | t::l,out=>by simp only[Zvp,ZbM];rw[Zqp t out,ZmY l]
end
theorem ZtQ(t:E):t.er.vars=t.vars:=by unfold E.vars;rw[Zdn,Zqp]
theorem ZtR(t:E):t.er.most=t.most:=by
 unfold E.most
 rw[Zdn,ZfO,List.foldl_map]
 simp only[ZCZ,ZC0]
mutual
theorem Zqq:∀t u:E,t.er.same u=t.same u
 | .node k x s g a c l,.node k' x' s' g' a' c' l'=>by
  simp only[E.er,E.same]
  rw[ZmZ l l']
theorem ZmZ:∀l r:List E,Zco (Zvp l) r=Zco l r
 | [],r=>rfl
 | t::l,[]=>by simp[Zvp,Zco]
 | t::l,u::r=>by simp only[Zvp,Zco];rw[Zqq t u,ZmZ l r]
end
theorem ZtS(t:E):ZmR t.er=ZmR t:=by unfold ZmR;rw[Zdn,Zqq]
mutual
theorem Zqr:∀t u:T,t.er.same u=t.same u
 | .node k s0 s1 s2 s3 mn mx a c l,.node k' s0' s1' s2' s3' mn' mx' a' c' l'=>by
  simp only[T.er,T.same]
  rw[Zm0 l l']
theorem Zm0:∀l r:List T,Zd1 (erL l) r=Zd1 l r
 | [],r=>rfl
 | t::l,[]=>by simp[erL,Zd1]
 | t::l,u::r=>by simp only[erL,Zd1];rw[Zqr t u,Zm0 l r]
end
theorem ZAw(r:Ru):Zzt r.er=Zzt r:=by
 unfold Zzt
 simp only[Ru.er]
 rw[Zec,Zqr]
theorem Zsv(r:Ru):Za3 r.er=Za3 r:=by
 unfold Za3
 rw[ZAw];rfl
theorem ZtT(r:Ru):Zcg r.er=Zcg r:=by
 unfold Zcg
 simp only[Ru.er]
 rw[Zp8];rfl
theorem Zyf(r:Ru):sizeR r.er=sizeR r:=by
 unfold sizeR
 simp only[Ru.er]
 rw[ZtD];rfl
theorem Zxe(l:List Sta)(name:ByteArray):((l.map Sta.er).any λx=>eqS x.s name)=l.any λx=>eqS x.s name:=by rw[List.any_map];rfl
theorem Zyg(s:Sc)(r:Ru)(n:Int):Zk3 s.er r.er n=Zk3 s r n:=by
 unfold Zk3 Zkj
 rw[Zsv,ZfP]
 simp only[Ru.er,Sc.er,List.length_map,Zx2,Zxe]
theorem Zsw(s:Sc)(r:Ru)(a:Ac):ZcS s.er r.er a.er=ZcS s r a:=by
 unfold ZcS ZcU ZcZ ZcU
 rw[ZtT]
 simp only[Ac.er,Sc.er,List.length_map,Zqo,ZtS,ZtQ,ZtR]
theorem ZvA(p:Pt):Zbu p.er=Zbu p:=by
 unfold Zbu
 simp only[Pt.er,ZtS,Zqo];rfl
theorem Zyh(s:Sc)(r:Ru)(l:List Pt)(i:Nat)(p:Pt):Zkk s.er r.er (l.map Pt.er) i p.er=Zkk s r l i p:=by
 unfold Zkk ZcU ZcZ ZcU
 rw[ZtT,ZvA]
 simp only[Pt.er,Sc.er,ZtQ,ZtR,List.getElem?_map]
 cases l[i - 1]? <;> rfl
theorem ZvB(s:Sc)(i:Nat)(x:Sta):ZhG s.er i x.er=ZhG s i x:=by
 unfold ZhG
 simp only[Sta.er,Sc.er,List.length_map,<-List.map_take,Zxe]
theorem ZvC(s:Sc)(i k:Nat):totals s.er i k=totals s i k:=by
 have h1:∀l:List Ru,(l.map Ru.er).map sizeR=l.map sizeR:=λl=>by
  rw[List.map_map];exact List.map_congr_left λr _=>Zyf r
 have hA:((s.states.map Sta.er).take i).map (λx=>ZaU (x.rules.map sizeR))=(s.states.take i).map λx=>ZaU (x.rules.map sizeR):=by
  rw[<-List.map_take,List.map_map]
  exact List.map_congr_left λx _=>by show ZaU ((x.rules.map Ru.er).map sizeR)=_;rw[h1]
 unfold totals
 rw[show s.er.states=s.states.map Sta.er from rfl,hA,List.getElem?_map]
 cases s.states[i]? with
 | none=>rfl
 | some x=>
  show _+ZaU (((x.rules.map Ru.er).take (k+1)).map sizeR)=_
  rw[<-List.map_take,h1]
theorem ZCe(s:Sc)(p:Pl):atS s.er p=atS s p:=by
 have hs:s.er.states=s.states.map Sta.er:=rfl
 have hw:ZnA s.er=ZnA s:=by unfold ZnA;simp only[Sc.er,List.length_map];rfl
 unfold atS
 rw[hw,hs,List.getElem?_map]
 congr 2
 cases s.states[p.s.toNat]? with
 | none=>rfl
 | some x=>
  show(if p.r < 0 then ZhG s.er p.s.toNat x.er else _)=_
  rw[ZvB]
  congr 1
  rw[show x.er.rules=x.rules.map Ru.er from rfl,List.getElem?_map]
  cases x.rules[p.r.toNat]? with
  | none=>rfl
  | some r=>
   show(if p.a < 0 then Zk3 s.er r.er (totals s.er p.s.toNat p.r.toNat)else _)=_
   rw[Zyg,ZvC]
   congr 1
   rw[show r.er.acts=r.acts.map Ac.er from rfl,List.getElem?_map]
   cases r.acts[p.a.toNat]? with
   | none=>rfl
   | some a=>
    show(if p.p < 0 then ZcS s.er r.er a.er else _)=_
    rw[Zsw]
    congr 1
    rw[show a.er.parts=a.parts.map Pt.er from rfl,List.getElem?_map]
    cases a.parts[p.p.toNat]? with
    | none=>rfl
    | some q=>exact Zyh s r a.parts _ q
theorem ZCf(i k m:Nat)(a:Ac):plA i k m a.er=plA i k m a:=by
 unfold plA
 rw[show a.er.parts.length=a.parts.length from List.length_map ..]
theorem ZCg(i k:Nat)(r:Ru):plR i k r.er=plR i k r:=by
 unfold plR
 rw[show r.er.acts.length=r.acts.length from List.length_map ..]
 congr 2
 funext m
 rw[show r.er.acts=r.acts.map Ac.er from rfl,List.getElem?_map]
 cases r.acts[m]? with
 | none=>rfl
 | some a=>exact ZCf i k m a
theorem ZCh(i:Nat)(x:Sta):plS i x.er=plS i x:=by
 unfold plS
 rw[show x.er.rules.length=x.rules.length from List.length_map ..]
 congr 2
 funext m
 rw[show x.er.rules=x.rules.map Ru.er from rfl,List.getElem?_map]
 cases x.rules[m]? with
 | none=>rfl
 | some r=>exact ZCg i m r
theorem ZvD(s:Sc):s.er.places=s.places:=by
 unfold Sc.places
 rw[ZfP,show s.er.states.length=s.states.length from List.length_map ..]
 congr 4
 funext i
 rw[show s.er.states=s.states.map Sta.er from rfl,List.getElem?_map]
 cases s.states[i]? with
 | none=>rfl
 | some x=>exact ZCh i x
theorem Zqs(s:Sc):s.er.check=s.check:=by
 unfold Sc.check Sc.problems
 rw[ZfP,ZvD]
 simp only[ZCe]
theorem ZvE{s s':Sc}(h:s'.er=s.er):s'.check=s.check:=by rw[<-Zqs s',h,Zqs]
theorem Zlh(x:Sta):∀n,(Zch x n).length<=n
 | 0=>by simp[Zch]
 | n+1=>by
  have:=Zlh x n
  rw[Zch,zA1]
  split
  ·split <;> simp <;> omega
  ·simp;omega
theorem MkC.pass{s:Sc}(h:MkC s):MkC (ZtJ s):=by
 rw[(Zkn s).2]
 refine⟨h.n,h.vlen,h.vall,by show 1<=(s.states.map ZeV).length/\_;rw[List.length_map];exact h.len,λi x hx=>?_⟩
 have hx:(s.states.map ZeV)[i]?=some x:=hx
 rw[List.getElem?_map]at hx
 obtain⟨x0,h0,rfl⟩:=Option.map_eq_some_iff.1 hx
 have hs:=h.all i x0 h0
 refine⟨hs.name,Nat.le_trans (Zlh x0 _) hs.len,λr hr=>?_⟩
 show MkR (s.states.map ZeV).length r
 rw[List.length_map]
 obtain⟨j,hj⟩:=List.getElem?_of_mem hr
 obtain⟨k,_,hk,_⟩:=Zer hj
 exact hs.all r (zA2 hk)
theorem Zyi(x:Sta):toO (ZeV x)=(toO x).map (Zsu x):=by
 cases h:toO (ZeV x)with
 | none=>
  cases ho:toO x with
  | none=>rfl
  | some k=>
   obtain⟨hk,z,hz,hc⟩:=Zb4 ho
   obtain⟨_,hd⟩:=ZAt ho hz
   have hl:=ZoS hk hz hd
   have:=ZcP h _ _ (zA0 hl).1 hl
   rw[hc]at this;cases this
 | some u=>
  obtain⟨hu,y,hy,hc⟩:=Zb4 h
  obtain⟨j,hj,h1,h2,h3⟩:=Zer hy
  have h4:=Zxc h2 (by simpa[ZCX]using hc)
  cases ho:toO x with
  | none=>have:=ZcP ho j y hj h1;rw[hc]at this;cases this
  | some k=>
   rw[ho]at h4
   have:j=k:=Int.ofNat.inj (by simpa[ZrH]using h4)
   subst this
   rw[<-h3];rfl
theorem Zyj(x:Sta):eoO (ZeV x)=(eoO x).map (Zsu x):=by
 cases h:eoO (ZeV x)with
 | none=>
  cases ho:eoO x with
  | none=>rfl
  | some k=>
   obtain⟨hk,z,hz,hc⟩:=Zb4 ho
   obtain⟨_,hd⟩:=ZAu ho hz
   have hl:=ZoS hk hz hd
   have:=ZcP h _ _ (zA0 hl).1 hl
   rw[hc]at this;cases this
 | some u=>
  obtain⟨hu,y,hy,hc⟩:=Zb4 h
  obtain⟨j,hj,h1,h2,h3⟩:=Zer hy
  have h4:=Zxd h2 (by simpa[ZCY]using hc)
  cases ho:eoO x with
  | none=>have:=ZcP ho j y hj h1;rw[hc]at this;cases this
  | some k=>
   rw[ho]at h4
   have:j=k:=Int.ofNat.inj (by simpa[ZrH]using h4)
   subst this
   rw[<-h3];rfl
theorem ZtU{x:Sta}{i:Nat}{r:Ru}(hr:(ZeV x).rules[i]?=some r):(r.k=4->(i:Int)=ZrH (toO (ZeV x)))/\(r.k=3->(i:Int)=ZrH (eoO (ZeV x))):=by
 obtain⟨j,hj,h1,h2,h3⟩:=Zer hr
 refine⟨λh4=>?_,λh4=>?_⟩
 ·have h5:=Zxc h2 h4
  rw[Zyi]
  cases ho:toO x with
  | none=>have:=ZcP ho j r hj h1;simp[ZCX,h4]at this
  | some k=>
   rw[ho]at h5
   have:j=k:=Int.ofNat.inj (by simpa[ZrH]using h5)
   subst this
   rw[<-h3];rfl
 ·have h5:=Zxd h2 h4
  rw[Zyj]
  cases ho:eoO x with
  | none=>have:=ZcP ho j r hj h1;simp[ZCY,h4]at this
  | some k=>
   rw[ho]at h5
   have:j=k:=Int.ofNat.inj (by simpa[ZrH]using h5)
   subst this
   rw[<-h3];rfl
theorem ZvF(s:Sc):Za0 (ZtJ s)=[]:=by
 refine List.eq_nil_iff_forall_not_mem.2 λd hd=>?_
 rw[(Zkn s).2]at hd
 obtain⟨i,x,j,r,h1,h2,h3,_⟩:=ZtB.1 hd
 have h1:(s.states.map ZeV)[i]?=some x:=h1
 rw[List.getElem?_map]at h1
 obtain⟨x0,h0,rfl⟩:=Option.map_eq_some_iff.1 h1
 obtain⟨ha,hb⟩:=ZtU h2
 unfold Zb8 at h3
 rw[Bool.or_eq_true,zA7,zA7]at h3
 rcases h3 with⟨h4,h5⟩|⟨h4,h5⟩
 ·have:=ha (by simpa using h4)
  rw[<-this]at h5;simp at h5
 ·have:=hb (by simpa using h4)
  rw[<-this]at h5;simp at h5
theorem ZoT(l:List Ru)(cnt:Ru->Bool)(key:Ru->Int)(h1:∀r,cnt r.er=cnt r)(h2:∀r,key r.er=key r):∀n,ZeJ (l.map Ru.er) cnt key n=ZeJ l cnt key n
 | 0=>rfl
 | n+1=>by
  rw[ZeJ,ZeJ,ZoT l cnt key h1 h2 n,List.getElem?_map]
  cases l[n]? with
  | none=>rfl
  | some x=>
   have e:∀o,Zvl (l.map Ru.er) key o x.er=Zvl l key o x:=λo=>by
    cases o with
    | none=>rfl
    | some t=>
     simp only[Zvl,List.getElem?_map]
     cases l[t]? with
     | none=>rfl
     | some y=>simp only[Option.map_some,h2]
   simp only[Option.map_some,h1,e]
theorem ZCi(x:Sta):toO x.er=toO x:=by
 unfold toO ZDm
 show ZeJ (x.rules.map Ru.er) ZCX ZD8 (x.rules.map Ru.er).length=_
 rw[ZoT _ _ _ (λr=>rfl) (λr=>rfl),List.length_map]
theorem ZCj(x:Sta):eoO x.er=eoO x:=by
 unfold eoO ZDm
 show ZeJ (x.rules.map Ru.er) ZCY ZD9 (x.rules.map Ru.er).length=_
 rw[ZoT _ _ _ (λr=>rfl) (λr=>rfl),List.length_map]
theorem ZtV(i:Nat)(x:Sta):∀n,ZbW i x.er n=ZbW i x n
 | 0=>rfl
 | n+1=>by
  rw[ZbW,ZbW,ZtV i x n,show x.er.rules=x.rules.map Ru.er from rfl,List.getElem?_map]
  cases x.rules[n]? with
  | none=>rfl
  | some r=>
   have:Zb8 x.er n r.er=Zb8 x n r:=by unfold Zb8;rw[ZCi,ZCj];rfl
   simp only[Option.map_some,this]
theorem ZtW(s:Sc):∀n,deadU s.er n=deadU s n
 | 0=>rfl
 | n+1=>by
  rw[deadU,deadU,ZtW s n,show s.er.states=s.states.map Sta.er from rfl,List.getElem?_map]
  cases s.states[n]? with
  | none=>rfl
  | some x=>
   simp only[Option.map_some]
   rw[show x.er.rules.length=x.rules.length from List.length_map ..,ZtV]
theorem ZAx{s s':Sc}(h:s'.er=s.er):Za0 s'=Za0 s:=by
 have e:∀s:Sc,Za0 s.er=Za0 s:=λs=>by
  unfold Za0
  rw[show s.er.states.length=s.states.length from List.length_map ..,ZtW]
 rw[<-e s',h,e]
theorem Zqt{s:Sc}(h:Za0 s=[]):ZtJ s=s:=by unfold ZtJ;rw[h];rfl
theorem Zqu(i:Nat)(x:Sta):∀n,n<=x.rules.length->(Zch x n).length+(ZbW i x n).length=n
 | 0,_=>by simp[Zch,ZbW]
 | n+1,h=>by
  have ih:=Zqu i x n (by omega)
  obtain⟨r,hr⟩:∃r,x.rules[n]?=some r:=⟨x.rules[n],zA3 (by omega)⟩
  rw[Zch,ZbW,hr,zA1,zA1]
  simp only
  split <;> simp <;> omega
theorem ZtX(s:Sc):∀n,n<=s.states.length->ZaU ((s.states.take n).map λx=>ruS (ZeV x))+((deadU s n).length:Int)=ZaU ((s.states.take n).map ruS)
 | 0,_=>by simp[ZaU,deadU]
 | n+1,h=>by
  have ih:=ZtX s n (by omega)
  obtain⟨x,hx⟩:∃x,s.states[n]?=some x:=⟨s.states[n],zA3 (by omega)⟩
  rw[Za8 _ hx,Za8 _ hx,Zeq hx,zA1]
  have hl:=Zqu n x x.rules.length (Nat.le_refl _)
  have e1:ruS (ZeV x)=((Zch x x.rules.length).length:Nat):=rfl
  have e2:ruS x=(x.rules.length:Nat):=rfl
  rw[e1,e2]
  omega
theorem Zyk(s:Sc):ms1 (ZtJ s)+((Za0 s).length:Int)=ms1 s:=by
 have:=ZtX s s.states.length (Nat.le_refl _)
 rw[List.take_length]at this
 rw[(Zkn s).2]
 show ZaU ((s.states.map ZeV).map ruS)+_=_
 rw[List.map_map]
 exact this
theorem ZCk{s s':Sc}(h:s'.er=s.er):ms1 s'=ms1 s:=by
 have e:∀s:Sc,ms1 s.er=ms1 s:=λs=>by
  show ZaU ((s.states.map Sta.er).map ruS)=_
  rw[List.map_map]
  unfold ms1
  congr 1
  exact List.map_congr_left λx _=>by show((x.rules.map Ru.er).length:Int)=x.rules.length;rw[List.length_map]
 rw[<-e s',h,e]
theorem Zxf(f:Sta->Int)(hf:∀x,0<=f x):∀l:List Sta,0<=ZaU (l.map f)
 | []=>by simp[ZaU]
 | x::l=>by have:=hf x;have:=Zxf f hf l;simp only[List.map_cons,ZaU];omega
theorem MkC.ms1{s:Sc}(h:MkC s):0<=Go.Rx.ms1 s/\Go.Rx.ms1 s<=20:=by
 refine⟨Zxf _ (λx=>by unfold ruS;omega) _,?_⟩
 have:=ZnB ruS 5 s.states (λx hx=>by
  obtain⟨i,hi⟩:=List.getElem?_of_mem hx
  have:=(h.all i x hi).len
  unfold ruS;omega)
 have h2:=h.len.2
 unfold Go.Rx.ms1
 omega
theorem Zm1{α:Type}{p:α->Bool}:∀{l:List α},(∀(i j:Nat)(a b:α),l[i]?=some a->l[j]?=some b->p a=true->p b=true->i=j)->(l.filter p).length<=1
 | [],_=>by simp
 | x::l,h=>by
  have ih:=Zm1 (l:=l) λi j a b ha hb pa pb=>by
   have:=h (i+1) (j+1) a b (by simpa using ha) (by simpa using hb) pa pb
   omega
  rw[List.filter_cons]
  split
  ·rename_i hx
   have:l.filter p=[]:=by
    rw[List.filter_eq_nil_iff]
    intro a ha rJ
    obtain⟨i,hi⟩:=List.getElem?_of_mem ha
    have:=h 0 (i+1) x a rfl (by simpa using hi) hx rJ
    omega
   rw[this];simp
  ·exact ih
def ZAy(l:List Ru)(k:Int):Int:=((l.filter λr=>r.k == k).length:Nat)
theorem Zqv(x:Sta)(k:Int)(hk:k=4\/k=3):ZAy (ZeV x).rules k<=1:=by
 have:=Zm1 (l:=(ZeV x).rules) (p:=λr=>r.k == k) λi j a b ha hb pa pb=>by
  have iI:=ZtU ha
  have eR:=ZtU hb
  rcases hk with rfl|rfl
  ·have h1:=iI.1 (by simpa using pa)
   have h2:=eR.1 (by simpa using pb)
   omega
  ·have h1:=iI.2 (by simpa using pa)
   have h2:=eR.2 (by simpa using pb)
   omega
 unfold ZAy
 omega
theorem ZvG(l:List Ru)(r:Ru)(k:Int):ZAy (l++[r]) k=ZAy l k+(if r.k=k then 1 else 0):=by
 unfold ZAy
 rw[List.filter_append,zA1]
 by_cases h:r.k=k
 ·simp[List.filter_cons,h]
 ·simp[List.filter_cons,h]
theorem ZAz(l:List Ru)(k:Int):0<=ZAy l k/\ZAy l k<=l.length:=by
 unfold ZAy
 have:=List.length_filter_le (λr:Ru=>r.k == k) l
 omega
def ZDn(L:List (Int×Int)):List (Value×Value):=L.map λq=>(.int .u8 q.1,.int .i64 q.2)
def ZvH:List (Int×Int)->Int->Int
 | [],_=>0
 | q::L,k=>if k=q.1 then q.2 else ZvH L k
def ZBO:List (Int×Int)->Int->Int->List (Int×Int)
 | [],k,z=>[(k,z)]
 | q::L,k,z=>if k=q.1 then(k,z)::L else q::ZBO L k z
theorem Zxg(k z k':Int):∀L,ZvH (ZBO L k z) k'=if k'=k then z else ZvH L k'
 | []=>by simp[ZBO,ZvH]
 | q::L=>by
  have ih:=Zxg k z k' L
  simp only[ZBO]
  split
  ·rename_i h
   simp only[ZvH]
   split
   ·rfl
   ·rename_i h2;rw[if_neg (by rw[<-h];exact h2)]
  ·rename_i h
   simp only[ZvH,ih]
   by_cases h1:k'=q.1
   ·rw[if_pos h1,if_neg (by rw[h1];exact λe=>h e.symm),if_pos h1]
   ·rw[if_neg h1,if_neg h1]
section
variable {P:Program} {K:TypeId} (he:∀a b:Int,EqIs P K (.int .u8 a) (.int .u8 b) (a == b))
include he
theorem ZhN(k:Int):∀L,∃o,LookIs P K (.int .u8 k) (ZDn L) (.int .i64 0) (.int .i64 (ZvH L k)) o
 | []=>⟨false,none,rfl,rfl,rfl⟩
 | q::L=>by
  have h:=he k q.1
  by_cases e:k=q.1
  ·refine⟨true,some (.int .i64 q.2),.inl ⟨?_,rfl⟩,?_,rfl⟩
   ·rw[show(k == q.1)=true by simpa using e]at h;exact h
   ·simp only[ZvH,if_pos e];rfl
  ·obtain⟨o,r,h1,h2,h3⟩:=ZhN k L
   refine⟨o,r,.inr ⟨?_,h1⟩,?_,h3⟩
   ·rw[show(k == q.1)=false by simpa using e]at h;exact h
   ·simp only[ZvH,if_neg e];exact h2
theorem ZtY(k z:Int):∀L,ZkG P K (.int .u8 k) (.int .i64 z) (ZDn L) (ZDn (ZBO L k z))
 | []=>rfl
 | q::L=>by
  have h:=he k q.1
  by_cases e:k=q.1
  ·refine .inl ⟨?_,?_,?_⟩
   ·rw[show(k == q.1)=true by simpa using e]at h;exact h
   ·show Instr.sameBits 10000 (.int .u8 q.1) (.int .u8 k)=true
    rw[<-e];simp[Instr.sameBits]
   ·simp only[ZBO,if_pos e];rfl
  ·refine .inr ⟨?_,ZDn (ZBO L k z),ZtY k z L,?_⟩
   ·rw[show(k == q.1)=false by simpa using e]at h;exact h
   ·simp only[ZBO,if_neg e];rfl
end
end Go.Rx