/- Trees of regexes, what they mean, and wl they lie in memory; plain, no program is named. No condition. -/
import Derived.Test.YtplacemlpkhmfaaMc
set_option linter.unusedVariables false
set_option linter.unusedSimpArgs false
namespace Go.Rx
open Go Go.Eng
inductive T where
 | node (k s0 s1 s2 s3 mn mx:Int) (a:Option Addr) (c:Nat) (subs:List T)
def T.k:T→Int
 | .node k _ _ _ _ _ _ _ _ _=>k
def T.s0:T→Int
 | .node _ s _ _ _ _ _ _ _ _=>s
def T.s1:T→Int
 | .node _ _ s _ _ _ _ _ _ _=>s
def T.s2:T→Int
 | .node _ _ _ s _ _ _ _ _ _=>s
def T.s3:T→Int
 | .node _ _ _ _ s _ _ _ _ _=>s
def T.mn:T→Int
 | .node _ _ _ _ _ x _ _ _ _=>x
def T.mx:T→Int
 | .node _ _ _ _ _ _ x _ _ _=>x
def T.a:T→Option Addr
 | .node _ _ _ _ _ _ _ a _ _=>a
def T.c:T→Nat
 | .node _ _ _ _ _ _ _ _ c _=>c
def T.subs:T→List T
 | .node _ _ _ _ _ _ _ _ _ l=>l
def T.sl(t:T):Value:=.slice t.a t.subs.length t.c
def T.cs(t:T):List Value:=[.int .u8 t.k,.int .u64 t.s0,.int .u64 t.s1,.int .u64 t.s2,.int .u64 t.s3,.int .i64 t.mn,.int .i64 t.mx,t.sl]
def T.v(t:T):Value:=.agg #[.int .u8 t.k,.int .u64 t.s0,.int .u64 t.s1,.int .u64 t.s2,.int .u64 t.s3,.int .i64 t.mn,.int .i64 t.mx,.slice t.a t.subs.length t.c]
structure OkN (k s0 s1 s2 s3 mn mx:Int):Prop where
 k:0≤k∧k < 256
 s0:0≤s0∧s0 < 18446744073709551616
 s1:0≤s1∧s1 < 18446744073709551616
 s2:0≤s2∧s2 < 18446744073709551616
 s3:0≤s3∧s3 < 18446744073709551616
 mn : -9223372036854775808≤mn∧mn≤9223372036854775807
 mx : -9223372036854775808≤mx∧mx≤9223372036854775807
mutual
def Rep(m:Mem):T→Prop
 | .node k s0 s1 s2 s3 mn mx a _ l=>l.length≤1000000000000000∧(l=[]∨∃b o,a=some ⟨b,o,none⟩∧RepAt m b o l)∧OkN k s0 s1 s2 s3 mn mx
def RepAt(m:Mem)(b:Nat):Nat→List T→Prop
 | _,[]=>True
 | o,t::l=>m.reads b o t.cs∧Rep m t∧RepAt m b (o+8) l
end
theorem Zdd{m:Mem}{t:T}:Rep m t→(t.subs.length≤1000000000000000∧(t.subs=[]∨∃b o,t.a=some ⟨b,o,none⟩∧RepAt m b o t.subs)):=by
 cases t;simp only[Rep,T.subs,T.a];exact fun h=>⟨h.1,h.2.1⟩
theorem ZuQ{m:Mem}{t:T}:Rep m t→OkN t.k t.s0 t.s1 t.s2 t.s3 t.mn t.mx:=by
 cases t;simp only[Rep];exact fun h=>h.2.2
mutual
theorem Rep.mono{m m':Mem}(h:m.le m'):∀t:T,Rep m t→Rep m' t
 | .node _ _ _ _ _ _ _ a _ l,hr=>by
  simp only[Rep]at *
  refine⟨hr.1,?_,hr.2.2⟩
  rcases hr.2.1 with hr|⟨b,o,h1,h2⟩
  ·exact .inl hr
  ·exact .inr ⟨b,o,h1,RepAt.mono h b o l h2⟩
theorem RepAt.mono{m m':Mem}(h:m.le m')(b:Nat):∀(o:Nat)(l:List T),RepAt m b o l→RepAt m' b o l
 | _,[],_=>by simp only[RepAt]
 | o,t::l,hr=>by
  simp only[RepAt]at *
  exact⟨hr.1.mono h,Rep.mono h t hr.2.1,RepAt.mono h b (o+8) l hr.2.2⟩
end
theorem RepAt.get{m:Mem}{b:Nat}:∀{o:Nat} {l:List T} {i:Nat} {t:T},RepAt m b o l→l[i]?=some t→m.reads b (o+i*8) t.cs∧Rep m t
 | o,[],i,t,_,hi=>by simp at hi
 | o,x::l,0,t,h,hi=>by
  simp only[RepAt]at h
  simp at hi;subst hi
  exact⟨by simpa using h.1,h.2.1⟩
 | o,x::l,i+1,t,h,hi=>by
  simp only[RepAt]at h
  have:=h.2.2.get (i:=i) (by simpa using hi)
  rw[show o+(i+1)*8=o+8+i*8 by omega]
  exact this
mutual
def T.nodes:T→List T
 | .node k s0 s1 s2 s3 mn mx a c l=>.node k s0 s1 s2 s3 mn mx a c l::ZaG l
def ZaG:List T→List T
 | []=>[]
 | t::l=>t.nodes++ZaG l
end
theorem Zcp(t:T):t.nodes=t::ZaG t.subs:=by cases t;simp only[T.nodes,T.subs]
theorem ZcX(l r:List T):ZaG (l++r)=ZaG l++ZaG r:=by
 induction l with
 | nil=>simp[ZaG]
 | cons t l ih=>simp[ZaG,ih,List.append_assoc]
theorem Zm7{l:List T}{i:Nat}{t:T}(h:l[i]?=some t):ZaG (l.take (i+1))=ZaG (l.take i)++t.nodes:=by
 have:l.take (i+1)=l.take i++[t]:=by
  rw[List.take_add_one,h];rfl
 rw[this,ZcX];simp[ZaG]
theorem ZeV{l:List T}{i:Nat}{t:T}(h:l[i]?=some t):ZaG l=ZaG (l.take i)++(t.nodes++ZaG (l.drop (i+1))):=by
 have bV:=(List.getElem?_eq_some_iff.1 h).1
 have e:l=l.take i++(t::l.drop (i+1)):=by
  have:=List.drop_eq_getElem_cons bV
  rw[(List.getElem?_eq_some_iff.1 h).2]at this
  rw[←this,List.take_append_drop]
 conv=>lhs;rw[e,ZcX]
 simp[ZaG]
theorem Zst{t x z:T}{i q:Nat}(hx:t.subs[i]?=some x)(hz:x.nodes[q]?=some z):t.nodes[1+(ZaG (t.subs.take i)).length+q]?=some z:=by
 have hq:=(List.getElem?_eq_some_iff.1 hz).1
 rw[Zcp,show 1+(ZaG (t.subs.take i)).length+q=((ZaG (t.subs.take i)).length+q)+1 by omega,List.getElem?_cons_succ,ZeV hx,List.getElem?_append_right (by omega),List.getElem?_append_left (by omega),show(ZaG (List.take i t.subs)).length+q - (ZaG (List.take i t.subs)).length=q by omega]
 exact hz
theorem ZqG{t x:T}(h:x∈t.subs):SizeOf.sizeOf x < SizeOf.sizeOf t:=by
 cases t with
 | node k s0 s1 s2 s3 mn mx a c l=>
  have h':x∈l:=h
  have:=List.sizeOf_lt_of_mem h'
  simp only[T.node.sizeOf_spec]
  omega
theorem ZqH(t:T):Shape.fitsL [.agg [.int .u8,.int .u64,.int .u64,.int .u64,.int .u64,.int .i64,.int .i64,.slice]] [t.v]=true:=by
 simp[Shape.fitsL,Shape.fits,T.v]
mutual
theorem Zpx{m:Mem}:∀(t:T),Rep m t→∀x∈t.nodes,Rep m x
 | .node k s0 s1 s2 s3 mn mx a c l,hr,x,hx=>by
  simp only[T.nodes,List.mem_cons]at hx
  rcases hx with rfl|hx
  ·exact hr
  ·simp only[Rep]at hr
   rcases hr.2.1 with h|⟨b,o,_,h⟩
   ·subst h;simp[ZaG]at hx
   ·exact Zm8 b o l h x hx
theorem Zm8{m:Mem}(b:Nat):∀(o:Nat)(l:List T),RepAt m b o l→∀x∈ZaG l,Rep m x
 | _,[],_,x,hx=>by simp[ZaG]at hx
 | o,t::l,hr,x,hx=>by
  simp only[RepAt]at hr
  simp only[ZaG,List.mem_append]at hx
  rcases hx with hx|hx
  ·exact Zpx t hr.2.1 x hx
  ·exact Zm8 b (o+8) l hr.2.2 x hx
end
theorem ZqI{m:Mem}{t x:T}(h:Rep m t)(hx:x∈t.nodes):Rep m x:=Zpx t h x hx
def ZfB(least most:Int):Bool:=!(decide (least < 0)||decide (least > 16)||(least == 1&&most == 1))&&(most == -1||(decide (most ≥ 1)&&decide (most≤16)&&decide (most ≥ least)))
def T.has(t:T)(k:Int):Bool:=t.subs.any fun x=>x.k == k
def T.light(t:T):Bool:=decide (t.nodes.length≤10000)
def T.setZ(t:T):Bool:=t.s0 == 0&&t.s1 == 0&&t.s2 == 0&&t.s3 == 0
def T.right(t:T):Bool:=
 !(t.k != 2&&!t.setZ||(t.k != 5&&(t.mn != 0||t.mx != 0)||(decide (t.k < 3)&&decide (0 < t.subs.length)))) &&
 (if t.k=1 then true else if t.k=2 then !t.setZ else if t.k=3 then decide (1 < t.subs.length)&&(!t.has 1&&!t.has 3)else if t.k=4 then decide (1 < t.subs.length)&&!t.has 4
  else if t.k=5 then t.subs.length == 1&&(ZfB t.mn t.mx&&!t.has 1)else t.k == 6&&t.subs.length == 1)
def T.clean(t:T):Bool:=t.light&&t.nodes.all T.right
def T.size(t:T):Int:=if t.light then t.nodes.length else 10001
def T.groups(t:T):Int:=if t.light then(t.nodes.countP fun x=>x.k == 6:Nat)else 10001
def ZkS(x y:Int):Int:=if y > x then y else x
def Zl6(x y:Int):Int:=if y < x then y else x
def Zs7(k mn mx sum:Int):Int:=Zl6 (if k=5 then sum*Zl6 (if mx=-1 then ZkS (ZkS mn 0) 1 else ZkS (ZkS mn 0) mx) 10001 else sum) 10001
mutual
def T.pos:T→Int
 | .node k _ _ _ _ mn mx _ _ l=>Zs7 k mn mx ((if k=2 then 1 else 0)+Zdp l)
def Zdp:List T→Int
 | []=>0
 | t::l=>t.pos+Zdp l
end
def T.positions(t:T):Int:=if t.light then t.pos else 10001
def T.check(t:T):Int:=if t.clean=false then 80 else if t.size > 120 then 81 else if t.positions > 400 then 82 else if t.groups > 9 then 83 else 0
mutual
def T.same:T→T→Bool
 | .node k s0 s1 s2 s3 mn mx _ _ l,.node k' s0' s1' s2' s3' mn' mx' _ _ l'=>k == k'&&((s0 == s0'&&s1 == s1'&&s2 == s2'&&s3 == s3')&&(mn == mn'&&(mx == mx'&&ZgG l l')))
def ZgG:List T→List T→Bool
 | [],[]=>true
 | t::l,t'::l'=>t.same t'&&ZgG l l'
 | _,_=>false
end
theorem ZtA(t u:T):t.same u=(t.k == u.k&&((t.s0 == u.s0&&t.s1 == u.s1&&t.s2 == u.s2&&t.s3 == u.s3)&&(t.mn == u.mn&&(t.mx == u.mx&&ZgG t.subs u.subs)))):=by
 cases t;cases u;simp only[T.same,T.k,T.s0,T.s1,T.s2,T.s3,T.mn,T.mx,T.subs]
theorem Zm9:∀{l r:List T},¬l.length=r.length→ZgG l r=false
 | [],[],h=>by simp at h
 | [],_::_,_=>by simp[ZgG]
 | _::_,[],_=>by simp[ZgG]
 | x::l,y::r,h=>by
  simp only[ZgG,Zm9 (l:=l) (r:=r) (by simpa using h),Bool.and_false]
theorem Zpy:∀{l r:List T} {i:Nat} {x y:T},l[i]?=some x→r[i]?=some y→x.same y=false→ZgG l r=false
 | [],r,i,x,y,h,_,_=>by simp at h
 | _::_,[],i,x,y,_,h,_=>by simp at h
 | a::l,b::r,0,x,y,h,k,e=>by
  simp at h k;subst h k
  simp[ZgG,e]
 | a::l,b::r,i+1,x,y,h,k,e=>by
  simp only[ZgG,Zpy (l:=l) (r:=r) (i:=i) (by simpa using h) (by simpa using k) e,Bool.and_false]
theorem ZkT:∀{l r:List T} {i:Nat} {x y:T},l[i]?=some x→r[i]?=some y→ZgG (l.take i) (r.take i)=true→x.same y=true→True→ZgG (l.take (i+1)) (r.take (i+1))=true
 | [],r,i,x,y,h,_,_,_,_=>by simp at h
 | _::_,[],i,x,y,_,h,_,_,_=>by simp at h
 | a::l,b::r,0,x,y,h,k,_,e,_=>by
  simp at h k;subst h k
  simp[ZgG,e]
 | a::l,b::r,i+1,x,y,h,k,hs,e,_=>by
  simp only[List.take_succ_cons,ZgG,Bool.and_eq_true]at hs ⊢
  exact⟨hs.1,ZkT (by simpa using h) (by simpa using k) hs.2 e trivial⟩
theorem Zsu(t:T):t.pos=Zs7 t.k t.mn t.mx ((if t.k=2 then 1 else 0)+Zdp t.subs):=by
 cases t;simp only[T.pos,T.k,T.mn,T.mx,T.subs];congr 1
theorem Zgg(l r:List T):Zdp (l++r)=Zdp l+Zdp r:=by
 induction l with
 | nil=>simp[Zdp]
 | cons t l ih=>simp[Zdp,ih,Int.add_assoc]
theorem ZqJ{l:List T}{i:Nat}{t:T}(h:l[i]?=some t):Zdp (l.take (i+1))=Zdp (l.take i)+t.pos:=by
 have:l.take (i+1)=l.take i++[t]:=by
  rw[List.take_add_one,h];rfl
 rw[this,Zgg];simp[Zdp]
theorem Zpz(x y:Int):x≤ZkS x y∧y≤ZkS x y:=by unfold ZkS;split <;> omega
theorem ZpA(x y:Int):Zl6 x y≤x∧Zl6 x y≤y:=by unfold Zl6;split <;> omega
theorem ZrL{x y:Int}(h:0≤x)(k:0≤y):0≤Zl6 x y:=by unfold Zl6;split <;> omega
def Zui(mn mx:Int):Int:=Zl6 (if mx=-1 then ZkS (ZkS mn 0) 1 else ZkS (ZkS mn 0) mx) 10001
theorem ZrM(mn mx:Int):0≤Zui mn mx∧Zui mn mx≤10001:=by
 unfold Zui
 refine⟨ZrL ?_ (by omega),(ZpA _ _).2⟩
 have h1:=Zpz mn 0
 split
 ·have:=Zpz (ZkS mn 0) 1;omega
 ·have:=Zpz (ZkS mn 0) mx;omega
theorem ZtB{k mn mx sum:Int}(h:0≤sum):0≤Zs7 k mn mx sum∧Zs7 k mn mx sum≤10001:=by
 have h2:=Int.mul_nonneg h (ZrM mn mx).1
 unfold Zs7
 refine⟨ZrL ?_ (by omega),(ZpA _ _).2⟩
 split
 ·exact h2
 ·exact h
mutual
theorem ZjQ:∀t:T,0≤t.pos∧t.pos≤10001
 | .node k _ _ _ _ mn mx _ _ l=>by
  simp only[T.pos]
  have:=Zgh l
  exact ZtB (by split <;> omega)
theorem Zgh:∀l:List T,0≤Zdp l
 | []=>by simp[Zdp]
 | t::l=>by
  simp only[Zdp]
  have:=ZjQ t
  have:=Zgh l
  omega
end
theorem ZrN:∀l:List T,Zdp l≤10001*l.length
 | []=>by simp[Zdp]
 | t::l=>by
  simp only[Zdp,List.length_cons]
  have:=ZjQ t
  have:=ZrN l
  omega
theorem ZtC(t:T):t.subs.length < t.nodes.length:=by
 rw[Zcp,List.length_cons]
 have:∀l:List T,l.length≤(ZaG l).length:=by
  intro l
  induction l with
  | nil=>simp[ZaG]
  | cons x l ih=>simp only[ZaG,List.length_cons,List.length_append];rw[Zcp];simp;omega
 have:=this t.subs
 omega
theorem ZqK{t x:T}(h:x∈t.subs):x.nodes.length < t.nodes.length:=by
 obtain⟨i,hi⟩:=List.getElem?_of_mem h
 rw[Zcp t,List.length_cons,ZeV hi]
 simp;omega
def T.hasB(t:T)(c:Nat):Bool:=((if c / 64=0 then t.s0 else if c / 64=1 then t.s1 else if c / 64=2 then t.s2 else t.s3).toNat).testBit (c % 64)
end Go.Rx
namespace Go.Rx
open Go Go.Eng Go.RowKit
def wdN(f j:Nat):Nat:=(f >>> (64*j)) % 2 ^ 64
theorem Zna(f j:Nat):wdN f j < 18446744073709551616:=by
 unfold wdN
 exact Nat.mod_lt _ (by decide)
theorem ZpB(f j k:Nat):(wdN f j).testBit k=(decide (k < 64)&&f.testBit (64*j+k)):=by
 unfold wdN
 rw[Nat.testBit_mod_two_pow,Nat.testBit_shiftRight]
theorem ZtD(f g j:Nat):wdN (f|||g) j=wdN f j|||wdN g j:=by
 apply Nat.eq_of_testBit_eq
 intro k
 simp only[ZpB,Nat.testBit_or]
 cases decide (k < 64) <;> simp
theorem ZtE{q r j:Nat}(hr:r < 64):wdN (2 ^ (64*q+r)) j=if j=q then 2 ^ r else 0:=by
 apply Nat.eq_of_testBit_eq
 intro k
 rw[ZpB,Nat.testBit_two_pow]
 by_cases hj:j=q
 ·subst hj
  rw[if_pos rfl,Nat.testBit_two_pow]
  by_cases hk:k < 64
  ·simp[hk]
  ·have:¬r=k:=by omega
   simp[hk,this]
 ·rw[if_neg hj]
  simp only[Nat.zero_testBit,Bool.and_eq_false_iff,decide_eq_false_iff_not]
  omega
theorem Zs1(n:Nat)(h:n < 18446744073709551616):IntKind.u64.wrap (n:Int)=n:=by
 unfold IntKind.wrap
 have e:(2:Int) ^ 64=18446744073709551616:=by decide
 simp only[IntKind.bits,IntKind.signed,Bool.false_and,Bool.false_eq_true,if_false,e]
 omega
theorem ZvU(a:Nat)(h:a < 18446744073709551616):(BitVec.ofInt 64 (a:Int)).toNat=a:=by
 rw[BitVec.toNat_ofInt]
 have e:((2:Nat) ^ 64:Nat)=18446744073709551616:=by decide
 rw[e];omega
theorem Zl7(a b:Nat)(ha:a < 18446744073709551616)(hb:b < 18446744073709551616):IntKind.u64.wrap ((BitVec.ofInt 64 (a:Int)|||BitVec.ofInt 64 (b:Int)).toNat:Int)=((a|||b:Nat):Int):=by
 rw[BitVec.toNat_or,ZvU a ha,ZvU b hb]
 exact Zs1 _ (Nat.or_lt_two_pow (n:=64) ha hb)
theorem ZpC(a r:Nat)(ha:a < 18446744073709551616):(IntKind.u64.wrap ((BitVec.ofInt 64 (Int.fdiv (a:Int) (2 ^ r))&&&BitVec.ofInt 64 1).toNat:Int) == 1)=a.testBit r:=by
 have e:Int.fdiv (a:Int) (2 ^ r)=((a >>> r:Nat):Int):=by
  rw[Nat.shiftRight_eq_div_pow,Int.fdiv_eq_ediv_of_nonneg _ (Int.pow_nonneg (by omega))]
  push_cast
  rfl
 have bV:a >>> r < 18446744073709551616:=Nat.lt_of_le_of_lt (Nat.shiftRight_le a r) ha
 rw[e,BitVec.toNat_and,ZvU _ bV]
 have h1:(BitVec.ofInt 64 1).toNat=1:=by decide
 rw[h1,Zs1 _ (Nat.lt_of_le_of_lt Nat.and_le_left bV),Nat.and_one_is_mod]
 have e2:a.testBit r=decide (a >>> r % 2=1):=by
  rw[Nat.shiftRight_eq_div_pow];exact Nat.testBit_eq_decide_div_mod_eq
 rw[e2,Bool.eq_iff_iff]
 simp only[beq_iff_eq,decide_eq_true_eq]
 omega
def plV(f:Nat):Value:=.agg #[.int .u64 (wdN f 0:Nat),.int .u64 (wdN f 1:Nat),.int .u64 (wdN f 2:Nat),.int .u64 (wdN f 3:Nat),.int .u64 (wdN f 4:Nat),.int .u64 (wdN f 5:Nat),.int .u64 (wdN f 6:Nat),.int .u64 (wdN f 7:Nat),.int .u64 (wdN f 8:Nat)]
end Go.Rx
set_option linter.unusedSectionVars false
namespace Go.Rx
open Go Go.Eng Go.RowKit
def Byt(m:Mem)(a:Option Addr)(s:List Nat):Prop:=(s=[]∨∃b o,a=some ⟨b,o,none⟩∧m.reads b o (s.map fun c:Nat=>Value.int .u8 c))∧∀c∈s,c < 256
theorem Byt.mono{m m':Mem}{a s}(h:Byt m a s)(hm:m.le m'):Byt m' a s:=by
 refine⟨?_,h.2⟩
 rcases h.1 with h|⟨b,o,h1,h2⟩
 ·exact .inl h
 ·exact .inr ⟨b,o,h1,h2.mono hm⟩
theorem Byt.get{m:Mem}{a s}(h:Byt m a s){i c:Nat}(hi:s[i]?=some c):(∃b o,a=some ⟨b,o,none⟩∧m b (o+i)=some (.int .u8 c))∧c < 256:=by
 refine⟨?_,h.2 c (List.mem_of_getElem? hi)⟩
 rcases h.1 with h|⟨b,o,h1,h2⟩
 ·subst h;simp at hi
 ·exact⟨b,o,h1,h2 i _ (by rw[List.getElem?_map,hi];rfl)⟩
def ZvG(t:T)(back:Bool)(f i c out:Nat):Nat:=if(f.testBit (if back then i+1 else i)&&t.hasB c)=true then out|||2 ^ (if back then i else i+1)else out
def Zv5(t:T)(back:Bool)(f:Nat):List Nat→Nat→Nat→Nat
 | [],_,out=>out
 | c::s,i,out=>Zv5 t back f s (i+1) (ZvG t back f i c out)
def ZvV(g:Nat→Nat):Nat→Nat→Nat
 | 0,f=>f
 | n+1,f=>ZvV g n (g f)
def Zvh(g:Nat→Nat)(mx:Int):Nat→Int→Nat→Nat→Nat
 | 0,_,out,_=>out
 | n+1,k,out,last=>if k=mx then out else if out|||g last=out then out else Zvh g mx n (IntKind.i64.wrap (k+1)) (out|||g last) (g last)
@[irreducible] def Zwh:Nat:=576
abbrev ZvW:Nat:=2 ^ Zwh
def Zwi(g:Nat→Nat)(mn mx:Int)(f:Nat):Nat:=Zvh g mx (ZvW+1) mn (ZvV g mn.toNat f) (ZvV g mn.toNat f)
mutual
def T.lead(s:List Nat)(back:Bool):T→Nat→Nat
 | .node k s0 s1 s2 s3 mn mx a c l=>fun f=>
  if k=1 then f else if k=2 then Zv5 (.node k s0 s1 s2 s3 mn mx a c l) back f s 0 0
  else if k=3 then(if back then Zvj s back l f else Zvi s back l f)
  else if k=4 then Zv6 s back l f 0
  else if k=5 then Zwi (Zvk s back l) mn mx f
  else if k=6 then Zvk s back l f else 0
def Zvi(s:List Nat)(back:Bool):List T→Nat→Nat
 | []=>fun f=>f
 | t::l=>fun f=>Zvi s back l (t.lead s back f)
def Zvj(s:List Nat)(back:Bool):List T→Nat→Nat
 | []=>fun f=>f
 | t::l=>fun f=>t.lead s back (Zvj s back l f)
def Zv6(s:List Nat)(back:Bool):List T→Nat→Nat→Nat
 | []=>fun _ out=>out
 | t::l=>fun f out=>Zv6 s back l f (out|||t.lead s back f)
def Zvk(s:List Nat)(back:Bool):List T→Nat→Nat
 | []=>fun f=>f
 | t::_=>fun f=>t.lead s back f
end
section
variable {s:List Nat} {back:Bool}
end
theorem Zce{α:Type}{l:List α}{i:Nat}{x:α}(h:l[i]?=some x):l.drop i=x::l.drop (i+1):=by
 obtain⟨h1,h2⟩:=List.getElem?_eq_some_iff.1 h
 rw[List.drop_eq_getElem_cons h1,h2]
section
variable (s:List Nat) (back:Bool) (hs:s.length≤512)
include hs
end
end Go.Rx
namespace Go.Rx
open Go Go.Eng Go.RowKit
def T0:T:=.node 0 0 0 0 0 0 0 none 0 []
def T1:T:=.node 1 0 0 0 0 0 0 none 0 []
theorem ZuR(m:Mem):Rep m T0:=by simp only[T0,Rep];exact⟨by simp,.inl trivial,by constructor <;> decide⟩
def T.isNone(t:T):Bool:=t.k == 0&&(t.light&&(T0.light&&t.same T0))
def T.wrong(t:T)(len:Nat)(i:Int):Int:=if(!t.isNone&&!(t.check == 0))=true then 130 else if(len:Int) > 512 then 3 else if i < 0∨i > len then 2 else 0
structure Rg where
 bg:Bool
 en:Bool
 t:T
def Rg.v(r:Rg):Value:=.agg #[.bool r.bg,.bool r.en,.int .u8 r.t.k,.int .u64 r.t.s0,.int .u64 r.t.s1,.int .u64 r.t.s2,.int .u64 r.t.s3,.int .i64 r.t.mn,.int .i64 r.t.mx,.slice r.t.a r.t.subs.length r.t.c]
def Rg.cs(r:Rg):List Value:=[.bool r.bg,.bool r.en,.int .u8 r.t.k,.int .u64 r.t.s0,.int .u64 r.t.s1,.int .u64 r.t.s2,.int .u64 r.t.s3,.int .i64 r.t.mn,.int .i64 r.t.mx,.slice r.t.a r.t.subs.length r.t.c]
def Rgs(m:Mem)(a:Option Addr)(l:List Rg):Prop:=l.length≤1000000000000000∧(l=[]∨∃b o,a=some ⟨b,o,none⟩∧∀i r,l[i]?=some r→m.reads b (o+i*10) r.cs)∧∀r∈l,Rep m r.t
theorem Rgs.mono{m m':Mem}{a l}(h:Rgs m a l)(hm:m.le m'):Rgs m' a l:=by
 refine⟨h.1,?_,fun r hr=>(h.2.2 r hr).mono hm⟩
 rcases h.2.1 with h|⟨b,o,h1,h2⟩
 ·exact .inl h
 ·exact .inr ⟨b,o,h1,fun i r hi=>(h2 i r hi).mono hm⟩
def ZuS(f:Nat):List Nat:=(List.range 513).filter fun i=>f.testBit i
def ZtF(n:Nat):List Nat→Option Nat
 | []=>none
 | i::_=>if i > n then none else some i
def Rg.from(s:List Nat)(n:Nat)(r:Rg):Option Nat:=if(r.en&&decide ((n:Int) < s.length))=true then none else if r.bg then(if(r.t.lead s true (2 ^ n)).testBit 0 then some 0 else none)else
 ZtF n (ZuS (r.t.lead s true (2 ^ n)))
def Rg.wrong(r:Rg)(len:Nat)(n:Int):Int:=if r.t.check=0 then r.t.wrong len n else 130
def ZuT(l:List Rg)(len:Nat)(n:Int):Int:=if(l.length:Int) > 64 then 5 else if l.all (fun r=>r.t.check == 0)then T1.wrong len n else 130
end Go.Rx
namespace Go.Rx
open Go Go.Eng Go.RowKit
abbrev TRK:=Int→Int→Int→Int→Int→Int→Int→Option Addr→Nat→Nat→Mem→Prop
def ZbV(c j:Nat):Int:=if c / 64=j then((2 ^ (c % 64):Nat):Int)else 0
def Zbh(c:Nat):T:=.node 2 (ZbV c 0) (ZbV c 1) (ZbV c 2) (ZbV c 3) 0 0 none 0 []
theorem Zd2(c j:Nat):0≤ZbV c j∧ZbV c j < 18446744073709551616:=by
 unfold ZbV
 split
 ·have h:(2:Nat) ^ (c % 64) < 2 ^ 64:=Nat.pow_lt_pow_right (by omega) (by omega)
  have e:(2:Nat) ^ 64=18446744073709551616:=by decide
  rw[e]at h
  generalize (2:Nat) ^ (c % 64)=w at *
  exact⟨by omega,by omega⟩
 ·omega
theorem ZfC(c:Nat)(m:Mem):Rep m (Zbh c):=by
 simp only[Zbh,Rep]
 exact⟨by simp,.inl trivial,⟨by omega,Zd2 c 0,Zd2 c 1,Zd2 c 2,Zd2 c 3,by omega,by omega⟩⟩
def RepL(m:Mem)(a:Option Addr)(l:List T):Prop:=l.length≤1000000000000000∧(l=[]∨∃b o,a=some ⟨b,o,none⟩∧RepAt m b o l)
theorem RepL.mono{m m':Mem}{a l}(h:RepL m a l)(hm:m.le m'):RepL m' a l:=by
 refine⟨h.1,?_⟩
 rcases h.2 with h|⟨b,o,h1,h2⟩
 ·exact .inl h
 ·exact .inr ⟨b,o,h1,h2.mono hm⟩
theorem Rep.subs{m:Mem}{t:T}(h:Rep m t):RepL m t.a t.subs:=Zdd h
def Zfe(k mn mx:Int)(a:Option Addr)(c:Nat)(l:List T):T:=.node k 0 0 0 0 mn mx a c l
theorem Zde{m:Mem}{k mn mx:Int}{a:Option Addr}{c:Nat}{l:List T}(h:RepL m a l)(hk:0≤k∧k < 256)(h1 : -9223372036854775808≤mn∧mn≤9223372036854775807)(h2 : -9223372036854775808≤mx∧mx≤9223372036854775807):Rep m (Zfe k mn mx a c l):=by
 simp only[Zfe,Rep]
 exact⟨h.1,h.2,⟨hk,by omega,by omega,by omega,by omega,h1,h2⟩⟩
def Zee(l:List T):List Value:=(l.map T.cs).flatten
theorem ZhX(l:List T):(Zee l).length=l.length*8:=by
 induction l with
 | nil=>rfl
 | cons t l ih=>simp[Zee,T.cs]at ih ⊢;omega
theorem ZjR(l r:List T):Zee (l++r)=Zee l++Zee r:=by simp[Zee]
theorem ZpD{m:Mem}{b:Nat}:∀{o:Nat} {l:List T},m.reads b o (Zee l)→(∀t∈l,Rep m t)→RepAt m b o l
 | o,[],_,_=>by simp only[RepAt]
 | o,t::l,h,hr=>by
  simp only[RepAt]
  refine⟨fun j v hj=>?_,hr t (by simp),ZpD (fun j v hj=>?_) fun x hx=>hr x (by simp[hx])⟩
  ·refine h j v ?_
   simp only[Zee,List.map_cons,List.flatten_cons]
   rw[List.getElem?_append_left (List.getElem?_eq_some_iff.1 hj).1];exact hj
  ·have:=h (8+j) v (by
    simp only[Zee,List.map_cons,List.flatten_cons]
    rw[List.getElem?_append_right (by simp[T.cs])]
    have e:8+j - t.cs.length=j:=by simp[T.cs]
    rw[e];exact hj)
   rw[show o+8+j=o+(8+j) by omega];exact this
theorem ZtG{m:Mem}{a:Option Addr}{l:List T}(h:rowRd m a (Zee l))(hr:∀t∈l,Rep m t)(hl:l.length≤1000000000000000):RepL m a l:=by
 refine⟨hl,?_⟩
 cases l with
 | nil=>exact .inl rfl
 | cons t l=>
  rcases h with h|⟨b,o,h1,h2⟩
  ·simp[Zee,T.cs]at h
  ·exact .inr ⟨b,o,h1,ZpD h2 hr⟩
end Go.Rx
namespace Go.Rx
open Go Go.Eng Go.RowKit
def T.good(t:T):Bool:=t.nodes.all T.right
def isG(t:T):Bool:=t.k == 6
theorem ZkU(p:T→Bool):∀l:List T,(ZaG l).all p=l.all fun t=>t.nodes.all p
 | []=>rfl
 | t::l=>by simp only[ZaG,List.all_append,List.all_cons,ZkU p l]
theorem ZrO(t:T):t.good=(t.right&&t.subs.all T.good):=by
 unfold T.good;rw[Zcp,List.all_cons,ZkU]
def grL(l:List T):Nat:=(ZaG l).countP isG
def szL(l:List T):Nat:=(ZaG l).length
def T.gr(t:T):Nat:=t.nodes.countP isG
theorem ZkV(l r:List T):szL (l++r)=szL l+szL r:=by unfold szL;rw[ZcX,List.length_append]
theorem ZkW(l r:List T):grL (l++r)=grL l+grL r:=by unfold grL;rw[ZcX,List.countP_append]
theorem ZpE(t:T):szL [t]=t.nodes.length:=by simp[szL,ZaG]
theorem ZpF(t:T):grL [t]=t.gr:=by simp[grL,ZaG,T.gr]
theorem Zl8(t:T):Zdp [t]=t.pos:=by simp[Zdp]
theorem Zl9(t:T)(l:List T):szL (t::l)=t.nodes.length+szL l:=by simp[szL,ZaG]
theorem ZpG(t:T)(l:List T):grL (t::l)=t.gr+grL l:=by simp[grL,ZaG,T.gr,List.countP_append]
theorem ZuD(t:T):t.nodes.length=1+szL t.subs:=by rw[Zcp,List.length_cons,szL];omega
theorem Zvl(t:T):t.gr=(if isG t=true then 1 else 0)+grL t.subs:=by
 unfold T.gr;rw[Zcp,List.countP_cons,grL];omega
theorem ZtH(l:List T):l.length≤szL l:=by
 induction l with
 | nil=>simp
 | cons t l ih=>rw[Zl9,ZuD,List.length_cons];omega
def Zob(k:Int)(t:T):List T:=if t.k=k then t.subs else if k=3∧t.k=1 then[]else[t]
def ZoD(k:Int)(a:Option Addr)(c:Nat):List T→T
 | []=>T1
 | [x]=>x
 | x::y::l=>Zfe k 0 0 a c (x::y::l)
theorem ZjS{t:T}{k:Int}(h:t.has k=false):∀x∈t.subs,x.k≠k:=by
 intro x hx e
 unfold T.has at h
 have:=List.any_eq_false.1 h x hx
 simp[e]at this
theorem ZtI{t:T}{k:Int}(h:∀x∈t.subs,x.k≠k):t.has k=false:=by
 unfold T.has
 rw[List.any_eq_false]
 intro x hx
 have:=h x hx
 simpa using this
theorem ZpH{k:Int}{t:T}(hk:k=3∨k=4)(hg:t.good=true)(hp:t.pos≤10000):(∀x∈Zob k t,x.good=true∧x.k≠k∧(k=3→x.k≠1))∧szL (Zob k t)≤t.nodes.length∧grL (Zob k t)≤t.gr∧Zdp (Zob k t)≤t.pos:=by
 have hg':=hg
 rw[ZrO,Bool.and_eq_true,List.all_eq_true]at hg'
 unfold Zob
 split
 ·rename_i fF
  refine⟨fun x hx=>⟨hg'.2 x hx,?_⟩,by rw[ZuD];omega,by rw[Zvl];omega,?_⟩
  ·have hr:=hg'.1
   unfold T.right at hr
   rw[Bool.and_eq_true]at hr
   have hr:=hr.2
   rcases hk with rfl|rfl
   ·simp only[fF]at hr
    simp at hr
    exact⟨ZjS hr.2.2 x hx,fun _=>ZjS hr.2.1 x hx⟩
   ·simp only[fF]at hr
    simp at hr
    exact⟨ZjS hr.2 x hx,fun h=>by omega⟩
  ·rw[Zsu]at hp ⊢
   have h5:¬t.k=5:=by omega
   have h2:¬t.k=2:=by omega
   unfold Zs7 at hp ⊢
   rw[if_neg h5,if_neg h2,Int.zero_add]at hp ⊢
   unfold Zl6 at hp ⊢
   split at hp
   ·omega
   ·split <;> omega
 ·rename_i fF
  split
  ·refine⟨fun x hx=>by simp at hx,by simp[szL,ZaG],by simp[grL,ZaG],?_⟩
   simp only[Zdp];exact(ZjQ t).1
  ·rename_i uV
   refine⟨fun x hx=>?_,by rw[ZpE];exact Nat.le_refl _,by rw[ZpF];exact Nat.le_refl _,by rw[Zl8];exact Int.le_refl _⟩
   simp at hx;subst hx
   exact⟨hg,fF,fun h=>fun h1=>uV ⟨h,h1⟩⟩
theorem ZqL{k:Int}(hk:k=3∨k=4)(a:Option Addr)(c:Nat):∀{l:List T},(∀x∈l,x.good=true∧x.k≠k∧(k=3→x.k≠1))→(ZoD k a c l).good=true∧(ZoD k a c l).nodes.length≤1+szL l∧(ZoD k a c l).gr≤grL l∧(ZoD k a c l).pos≤Zdp l
 | [],_=>⟨show T1.good=true by decide,show T1.nodes.length≤1 by decide,show T1.gr≤0 by decide,show T1.pos≤0 by decide⟩
 | [x],h=>by
  rw[ZpE,ZpF,Zl8]
  exact⟨(h x (by simp)).1,by show x.nodes.length≤_;omega,Nat.le_refl _,Int.le_refl _⟩
 | x::y::l,h=>by
  show(Zfe k 0 0 a c (x::y::l)).good=true∧(Zfe k 0 0 a c (x::y::l)).nodes.length≤_∧(Zfe k 0 0 a c (x::y::l)).gr≤_∧(Zfe k 0 0 a c (x::y::l)).pos≤_
  have hs:(Zfe k 0 0 a c (x::y::l)).subs=x::y::l:=rfl
  have fF:(Zfe k 0 0 a c (x::y::l)).k=k:=rfl
  have hz:(Zfe k 0 0 a c (x::y::l)).setZ=true:=rfl
  have tz:(Zfe k 0 0 a c (x::y::l)).mn=0:=rfl
  have jv:(Zfe k 0 0 a c (x::y::l)).mx=0:=rfl
  refine⟨?_,by rw[ZuD,hs];exact Nat.le_refl _,?_,?_⟩
  ·rw[ZrO,Bool.and_eq_true,List.all_eq_true,hs]
   refine⟨?_,fun z hz=>(h z hz).1⟩
   have h1:k=3→(Zfe k 0 0 a c (x::y::l)).has 1=false:=fun e=>ZtI fun z hz=>(h z hz).2.2 e
   have h2:(Zfe k 0 0 a c (x::y::l)).has k=false:=ZtI fun z hz=>(h z hz).2.1
   unfold T.right
   rw[fF,hz,tz,jv,hs]
   rcases hk with rfl|rfl
   ·simp[h1 rfl,h2]
   ·simp[h2]
  ·rw[Zvl,hs,isG,fF]
   rcases hk with rfl|rfl <;> simp
  ·rw[Zsu,fF,tz,jv,hs]
   unfold Zs7
   rw[if_neg (by omega),if_neg (by omega),Int.zero_add]
   exact(ZpA _ _).1
structure J (i:Nat)(ts:List T)(u g:Nat):Prop where
 good:∀t∈ts,t.good=true
 sz:szL ts≤i
 pos:Zdp ts≤(i*u:Nat)
 u1:1≤u
 u16:u≤16
 gr:grL ts≤g
 g9:g≤9
theorem J.zero:J 0 [] 1 0:=⟨by simp,by simp[szL,ZaG],by simp[Zdp],by omega,by omega,by simp[grL,ZaG],by omega⟩
theorem J.skip{i ts u g}(h:J i ts u g):J (i+1) ts u g:=
 ⟨h.good,by have:=h.sz;omega,by have:=h.pos;have e:(i+1)*u=i*u+u:=Nat.succ_mul i u;rw[e];omega,h.u1,h.u16,h.gr,h.g9⟩
theorem J.push{i ts u g}(h:J i ts u g){t:T}(hg:t.good=true)(hs:t.nodes.length=1)(hp:t.pos≤1)(hr:t.gr=0):J (i+1) (ts++[t]) u g:=by
 refine⟨fun x hx=>?_,?_,?_,h.u1,h.u16,?_,h.g9⟩
 ·rcases List.mem_append.1 hx with hx|hx
  ·exact h.good x hx
  ·simp at hx;subst hx;exact hg
 ·rw[ZkV,ZpE,hs];have:=h.sz;omega
 ·rw[Zgg,Zl8];have:=h.pos;have:=h.u1;have e:(i+1)*u=i*u+u:=Nat.succ_mul i u;rw[e];omega
 ·rw[ZkW,ZpF,hr];have:=h.gr;omega
theorem J.pos400{i ts u g}(h:J i ts u g)(hi:i≤25):Zdp ts≤400:=by
 have h1:=h.pos
 have:i*u≤25*16:=Nat.mul_le_mul hi h.u16
 omega
structure F (t:T)(l:List T):Prop where
 good:t.good=true
 goods:∀x∈l,x.good=true
 sz:t.nodes.length+szL l+l.length≤60
 pos:t.pos+Zdp l≤400
 gr:t.gr+grL l≤9
theorem F.start{i u g}{t:T}{l:List T}(h:J i (t::l) u g)(hi:i≤25):F t l:=by
 have h1:=h.sz
 have h2:=h.pos400 hi
 have h3:=h.gr
 rw[Zl9]at h1
 rw[ZpG]at h3
 have:=ZtH l
 have:=h.g9
 exact⟨h.good t (by simp),fun x hx=>h.good x (by simp[hx]),by omega,by simpa[Zdp]using h2,by omega⟩
theorem F.step{t x:T}{l:List T}(h:F t (x::l))(a:Option Addr)(c:Nat):F (ZoD 4 a c (Zob 4 t++Zob 4 x)) l:=by
 have h1:=h.sz
 have h2:=h.pos
 have h3:=h.gr
 rw[Zl9,List.length_cons]at h1
 rw[ZpG]at h3
 simp only[Zdp]at h2
 have n1:=Zgh l
 have n2:=(ZjQ x).1
 have n3:=(ZjQ t).1
 obtain⟨a1,a2,a3,a4⟩:=ZpH (.inr rfl) h.good (by omega) (t:=t)
 obtain⟨b1,b2,b3,b4⟩:=ZpH (.inr rfl) (h.goods x (by simp)) (by omega)
 obtain⟨c1,c2,c3,c4⟩:=ZqL (.inr rfl) a c (l:=Zob 4 t++Zob 4 x) (fun z hz=>by
  rcases List.mem_append.1 hz with hz|hz
  ·exact a1 z hz
  ·exact b1 z hz)
 rw[ZkV]at c2
 rw[ZkW]at c3
 rw[Zgg]at c4
 exact⟨c1,fun z hz=>h.goods z (by simp[hz]),by omega,by omega,by omega⟩
theorem F.done{t:T}{l:List T}(h:F t l):t.check=0:=by
 have h1:=h.sz
 have h2:=h.pos
 have h3:=h.gr
 have n1:=Zgh l
 have hl:t.light=true:=by unfold T.light;exact decide_eq_true (by omega)
 have hc:t.clean=true:=by unfold T.clean;rw[hl];exact h.good
 have hg:((t.nodes.countP fun x=>x.k == 6:Nat))=t.gr:=rfl
 unfold T.check
 rw[hc]
 unfold T.size T.positions T.groups
 rw[hl,hg]
 simp only[if_true,Bool.true_eq_false,if_false]
 rw[if_neg (by omega),if_neg (by omega),if_neg (by omega)]
end Go.Rx
namespace Go.Rx
open Go Go.Eng Go.RowKit
def bwL(f:Nat):List Value:=[.int .u64 (wdN f 0:Nat),.int .u64 (wdN f 1:Nat),.int .u64 (wdN f 2:Nat),.int .u64 (wdN f 3:Nat),.int .u64 (wdN f 4:Nat),.int .u64 (wdN f 5:Nat),.int .u64 (wdN f 6:Nat)]
def bwV(f:Nat):Value:=.agg #[.int .u64 (wdN f 0:Nat),.int .u64 (wdN f 1:Nat),.int .u64 (wdN f 2:Nat),.int .u64 (wdN f 3:Nat),.int .u64 (wdN f 4:Nat),.int .u64 (wdN f 5:Nat),.int .u64 (wdN f 6:Nat)]
theorem ZkX{f j:Nat}(h:j < 7):(bwL f)[j]?=some (.int .u64 (wdN f j:Nat)):=by
 have:j=0∨j=1∨j=2∨j=3∨j=4∨j=5∨j=6:=by omega
 rcases this with rfl|rfl|rfl|rfl|rfl|rfl|rfl <;> rfl
theorem ZuU{f q r:Nat}(hq:q < 7)(hr:r < 64):Zan (bwL f) q [.int .u64 ((wdN f q|||2 ^ r:Nat):Int)]=bwL (f|||2 ^ (64*q+r)):=by
 unfold bwL
 simp only[ZtD,ZtE hr]
 have:q=0∨q=1∨q=2∨q=3∨q=4∨q=5∨q=6:=by omega
 rcases this with rfl|rfl|rfl|rfl|rfl|rfl|rfl <;> simp[Zan,Nat.or_zero]
theorem ZkY:bwL 0=[.int .u64 0,.int .u64 0,.int .u64 0,.int .u64 0,.int .u64 0,.int .u64 0,.int .u64 0]:=by simp[bwL,wdN]
def orB(f g k:Nat):List Value:=(List.range 7).map fun j=>.int .u64 ((if j < k then wdN (f|||g) j else wdN f j:Nat):Int)
theorem ZrP{f g k j:Nat}(h:j < 7):(orB f g k)[j]?=some (.int .u64 ((if j < k then wdN (f|||g) j else wdN f j:Nat):Int)):=by
 simp[orB,h]
theorem Znb(f g k:Nat):(orB f g k).length=7:=by simp[orB]
theorem Znc(f:Nat):(bwL f).length=7:=rfl
theorem ZpI{f g k:Nat}(h:k < 7):Zan (orB f g k) k [.int .u64 ((wdN f k|||wdN g k:Nat):Int)]=orB f g (k+1):=by
 rw[←ZtD]
 have:k=0∨k=1∨k=2∨k=3∨k=4∨k=5∨k=6:=by omega
 rcases this with rfl|rfl|rfl|rfl|rfl|rfl|rfl <;> rfl
theorem ZhY{A L B:List Value}{q:Nat}{v:Value}(h:q < L.length):Zan (A++L++B) (A.length+q) [v]=A++Zan L q [v]++B:=by
 simp only[Zan,List.length_singleton]
 have h1:(A++L++B).take (A.length+q)=A++L.take q:=by
  rw[List.append_assoc,List.take_append,List.take_of_length_le (by omega),Nat.add_sub_cancel_left,List.take_append_of_le_length (by omega)]
 have h2:(A++L++B).drop (A.length+q+1)=L.drop (q+1)++B:=by
  rw[List.append_assoc,Nat.add_assoc,List.drop_append,List.drop_eq_nil_of_le (by omega),List.nil_append,Nat.add_sub_cancel_left,List.drop_append_of_le_length (by omega)]
 rw[h1,h2];simp
theorem Znd{A L B:List Value}{q:Nat}{v:Value}(h:L[q]?=some v):(A++L++B)[A.length+q]?=some v:=by
 have hq:=(List.getElem?_eq_some_iff.1 h).1
 rw[List.append_assoc,List.getElem?_append_right (by omega),Nat.add_sub_cancel_left,List.getElem?_append_left hq,h]
def Zcf(f:Nat):List Nat:=(List.range 448).filter fun i=>f.testBit i
theorem ZoE(f k:Nat)(h:k≤448):(Zcf f).take (((List.range k).filter fun i=>f.testBit i).length)=(List.range k).filter fun i=>f.testBit i:=by
 have e:List.range 448=List.range k++(List.range 448).drop k:=by
  have:=(List.take_append_drop k (List.range 448)).symm
  rwa [List.take_range,Nat.min_eq_left h]at this
 unfold Zcf
 conv=>lhs;rw[e,List.filter_append]
 rw[List.take_left']
 rfl
theorem Zsv(f k:Nat)(h:k < 448)(hb:f.testBit k=true):(Zcf f)[((List.range k).filter fun i=>f.testBit i).length]?=some k:=by
 have h1:=ZoE f (k+1) (by omega)
 have e:(List.range (k+1)).filter (fun i=>f.testBit i)=(List.range k).filter (fun i=>f.testBit i)++[k]:=by
  rw[List.range_succ,List.filter_append];simp[hb]
 rw[e]at h1
 have h2:=congrArg (fun l=>l[((List.range k).filter fun i=>f.testBit i).length]?) h1
 simpa[List.getElem?_take]using h2
theorem Zne(f:Nat):(Zcf f).length≤448:=by
 unfold Zcf
 exact Nat.le_trans (List.length_filter_le _ _) (by simp)
theorem ZjT{f i:Nat}:i∈Zcf f↔i < 448∧f.testBit i=true:=by simp[Zcf]
theorem Zhb(f:Nat):(Zcf f).Pairwise (· < ·):=(List.pairwise_lt_range (n:=448)).filter _
end Go.Rx
namespace Go.Rx
open Go Go.Eng Go.RowKit
structure Pt where
 first:Nat
 last:Nat
 null:Bool
structure Ms where
 sets:List (Int×Int×Int×Int)
 fol:List Nat
def Pt.v(p:Pt):Value:=.agg #[.int .u64 (wdN p.first 0:Nat),.int .u64 (wdN p.first 1:Nat),.int .u64 (wdN p.first 2:Nat),.int .u64 (wdN p.first 3:Nat),.int .u64 (wdN p.first 4:Nat),.int .u64 (wdN p.first 5:Nat),.int .u64 (wdN p.first 6:Nat),.int .u64 (wdN p.last 0:Nat),.int .u64 (wdN p.last 1:Nat),.int .u64 (wdN p.last 2:Nat),.int .u64 (wdN p.last 3:Nat),.int .u64 (wdN p.last 4:Nat),.int .u64 (wdN p.last 5:Nat),.int .u64 (wdN p.last 6:Nat),.bool p.null]
def Pt.cs(p:Pt):List Value:=bwL p.first++bwL p.last++[Value.bool p.null]
theorem Pt.v_cs(p:Pt):p.v=.agg p.cs.toArray:=rfl
def Zdf(fol:List Nat)(a b:Nat):List Nat:=fol.mapIdx fun i x=>if a.testBit i then x|||b else x
theorem ZjU(fol:List Nat)(a b:Nat):(Zdf fol a b).length=fol.length:=by simp[Zdf]
def Zs2(p q:Pt):Pt:=⟨if p.null then p.first|||q.first else p.first,if q.null then q.last|||p.last else q.last,p.null&&q.null⟩
def Zie(p q:Pt)(s:Ms):Pt×Ms:=(Zs2 p q,⟨s.sets,Zdf s.fol p.last q.first⟩)
def Zvx(p q:Pt):Pt:=⟨p.first|||q.first,p.last|||q.last,p.null||q.null⟩
def Znf(f:Ms→Pt×Ms)(mn mx:Int)(n:Nat):Nat→Nat→Pt→Ms→Pt×Ms
 | 0,_,out,s=>(out,s)
 | q+1,i,out,s=>
  let x:=(f s).1
  let s1:=(f s).2
  let s2:Ms:=if mx=-1∧i+1=n then⟨s1.sets,Zdf s1.fol x.last x.first⟩ else s1
  let y:Pt:=⟨x.first,x.last,x.null||decide ((i:Int) ≥ mn)⟩
  Znf f mn mx n q (i+1) (Zie out y s2).1 (Zie out y s2).2
def ZqM(mn mx:Int):Nat:=(if mx=-1 then max mn 1 else mx).toNat
mutual
def mk:T→Ms→Pt×Ms
 | .node k s0 s1 s2 s3 mn mx _ _ l,s=>
  if k=0 then(⟨0,0,false⟩,s)
  else if k=1 then(⟨0,0,true⟩,s)
  else if k=2 then(⟨2 ^ s.sets.length,2 ^ s.sets.length,false⟩,⟨s.sets++[(s0,s1,s2,s3)],s.fol++[0]⟩)
  else if k=3 then ZgH l ⟨0,0,true⟩ s
  else if k=4 then ZfD l ⟨0,0,false⟩ s
  else if k=5 then Znf (fun s=>ZlB l s) mn mx (ZqM mn mx) (ZqM mn mx) 0 ⟨0,0,true⟩ s
  else ZlB l s
def ZlB:List T→Ms→Pt×Ms
 | [],s=>(⟨0,0,false⟩,s)
 | t::_,s=>mk t s
def ZgH:List T→Pt→Ms→Pt×Ms
 | [],out,s=>(out,s)
 | t::l,out,s=>ZgH l (Zie out (mk t s).1 (mk t s).2).1 (Zie out (mk t s).1 (mk t s).2).2
def ZfD:List T→Pt→Ms→Pt×Ms
 | [],out,s=>(out,s)
 | t::l,out,s=>ZfD l (Zvx out (mk t s).1) (mk t s).2
end
def Zby(l:List (Int×Int×Int×Int)):List Value:=l.flatMap fun q=>[.int .u64 q.1,.int .u64 q.2.1,.int .u64 q.2.2.1,.int .u64 q.2.2.2]
def ZcY(l:List Nat):List Value:=l.flatMap bwL
theorem Zep(l:List (Int×Int×Int×Int)):(Zby l).length=l.length*4:=by
 induction l with
 | nil=>rfl
 | cons a l ih=>simp only[Zby,List.flatMap_cons,List.length_append,List.length_cons,List.length_nil]at *;omega
theorem Zhc(l:List Nat):(ZcY l).length=l.length*7:=by
 induction l with
 | nil=>rfl
 | cons a l ih=>simp only[ZcY,List.flatMap_cons,List.length_append,Znc,List.length_cons]at *;omega
theorem ZqN(l l':List (Int×Int×Int×Int)):Zby (l++l')=Zby l++Zby l':=by simp[Zby]
theorem ZqO(l l':List Nat):ZcY (l++l')=ZcY l++ZcY l':=by simp[ZcY]
def Yof(v0 v1:Value)(b:Nat):Prop:=(Tok.mk v0 4).blk=some b∨(Tok.mk v1 7).blk=some b
def RowOk(m:Mem)(v:Value)(k:Nat)(cs:List Value):Prop:=(k=0∧v=.slice none 0 0)∨∃b c,v=.slice (some ⟨b,0,none⟩) k c∧m.reads b 0 cs∧k≠0
structure MkRow (m:Mem)(v0 v1:Value)(s:Ms):Prop where
 row0:RowOk m v0 s.sets.length (Zby s.sets)
 row1:RowOk m v1 s.fol.length (ZcY s.fol)
 ne:∀b,(Tok.mk v0 4).blk=some b→(Tok.mk v1 7).blk≠some b
structure MkOk (M0 m:Mem)(v0 v1:Value)(s:Ms):Prop extends MkRow m v0 v1 s where
 base:M0.le (m.off (Yof v0 v1))
theorem Zng{m m':Mem}{Y Y':Nat→Prop}(h:(m.off Y).le m')(hn:∀b,Y' b→Y b∨m.free b):(m.off Y).le (m'.off Y'):=fun b o v hv=>by
 unfold Mem.off at hv ⊢
 split at hv
 ·cases hv
 ·rename_i hY
  have:¬Y' b:=fun h'=>by
   rcases hn b h' with h1|h1
   ·exact hY h1
   ·rw[h1 o]at hv;cases hv
  rw[if_neg this]
  have:=h b o v (by unfold Mem.off;rw[if_neg hY];exact hv)
  exact this
theorem MkOk.next{M0 m m':Mem}{v0 v1 v0' v1':Value}{s s':Ms}(h:MkOk M0 m v0 v1 s)(cP:(m.off (Yof v0 v1)).le m')(hn:∀b,Yof v0' v1' b→Yof v0 v1 b∨m.free b)(hr:MkRow m' v0' v1' s'):MkOk M0 m' v0' v1' s':=
 {hr with base:=Mem.le_trans h.base (Zng cP hn) }
theorem MkOk.free{M0 m:Mem}{v0 v1:Value}{s:Ms}(h:MkOk M0 m v0 v1 s){b:Nat}(hb:Yof v0 v1 b):M0.free b:=fun o=>by
 cases he:M0 b o with
 | none=>rfl
 | some u=>
  have:=h.base b o u he
  unfold Mem.off at this
  rw[if_pos hb]at this;cases this
theorem MkOk.le{M0 m:Mem}{v0 v1:Value}{s:Ms}(h:MkOk M0 m v0 v1 s):M0.le m:=Mem.le_trans h.base (Mem.off_le m _)
theorem RowOk.mono{m m':Mem}{v:Value}{k:Nat}{cs:List Value}(h:RowOk m v k cs)(hm:m.le m'):RowOk m' v k cs:=by
 rcases h with h|⟨b,c,h1,h2,h3⟩
 ·exact .inl h
 ·exact .inr ⟨b,c,h1,h2.mono hm,h3⟩
theorem MkRow.mono{m m':Mem}{v0 v1:Value}{s:Ms}(h:MkRow m v0 v1 s)(hm:m.le m'):MkRow m' v0 v1 s:=⟨h.row0.mono hm,h.row1.mono hm,h.ne⟩
theorem Zi4(l r:List Nat)(f:Nat):ZcY (l++f::r)=ZcY l++bwL f++ZcY r:=by simp[ZcY]
theorem ZpJ{l:List Nat}{i f:Nat}(h:l[i]?=some f):ZcY l=ZcY (l.take i)++bwL f++ZcY (l.drop (i+1)):=by
 obtain⟨hi,hf⟩:=List.getElem?_eq_some_iff.1 h
 have e:l=l.take i++f::l.drop (i+1):=by
  conv=>lhs;rw[←List.take_append_drop i l]
  rw[List.drop_eq_getElem_cons hi,hf]
 conv=>lhs;rw[e]
 exact Zi4 _ _ _
theorem ZqP{l:List Nat}{i f:Nat}(hi:i < l.length):ZcY (l.set i f)=ZcY (l.take i)++bwL f++ZcY (l.drop (i+1)):=by
 have e:l.set i f=l.take i++f::l.drop (i+1):=List.set_eq_take_append_cons_drop.trans (if_pos hi)
 rw[e];exact Zi4 _ _ _
def ZfE(fol ds:List Nat)(b:Nat):List Nat:=fol.mapIdx fun i x=>if i∈ds then x|||b else x
theorem ZqQ(fol:List Nat)(b:Nat):ZfE fol [] b=fol:=by
 unfold ZfE
 apply List.ext_getElem? fun i=>?_
 simp
theorem ZqR{fol ds:List Nat}{b i x:Nat}(h:fol[i]?=some x)(hi:i ∉ ds):(ZfE fol ds b)[i]?=some x:=by
 simp[ZfE,h,hi]
theorem ZoF{fol ds:List Nat}{b i x:Nat}(h:fol[i]?=some x)(hi:i ∉ ds):ZfE fol (ds++[i]) b=(ZfE fol ds b).set i (x|||b):=by
 apply List.ext_getElem? fun j=>?_
 rw[List.getElem?_set]
 have bV:=(List.getElem?_eq_some_iff.1 h).1
 by_cases e:i=j
 ·subst e
  have hx:=(List.getElem?_eq_some_iff.1 h).2
  simp[ZfE,bV,hx]
 ·rw[if_neg e]
  have:j≠i:=fun h=>e h.symm
  simp[ZfE,this]
theorem ZqS{fol ds:List Nat}{a b:Nat}(h:∀i,i < fol.length→(i∈ds↔a.testBit i=true)):ZfE fol ds b=Zdf fol a b:=by
 unfold ZfE Zdf
 apply List.ext_getElem? fun j=>?_
 rw[List.getElem?_mapIdx,List.getElem?_mapIdx]
 cases hj:fol[j]? with
 | none=>rfl
 | some x=>
  have:=h j (List.getElem?_eq_some_iff.1 hj).1
  simp only[Option.map_some,Option.some.injEq]
  by_cases hd:j∈ds
  ·rw[if_pos hd,if_pos (this.1 hd)]
  ·rw[if_neg hd,if_neg (fun h=>hd (this.2 h))]
end Go.Rx
namespace Go.Rx
open Go Go.Eng Go.RowKit
def PtIn(n:Nat)(p:Pt):Prop:=(∀i,p.first.testBit i=true→i < n)∧(∀i,p.last.testBit i=true→i < n)
structure MsOk (s:Ms):Prop where
 len:s.fol.length=s.sets.length
 fol:∀(j x:Nat),s.fol[j]?=some x→∀i,x.testBit i=true→i < s.sets.length
theorem PtIn.mono{n n':Nat}{p:Pt}(h:PtIn n p)(hn:n≤n'):PtIn n' p:=⟨fun i hi=>Nat.lt_of_lt_of_le (h.1 i hi) hn,fun i hi=>Nat.lt_of_lt_of_le (h.2 i hi) hn⟩
theorem ZbK(n:Nat)(b:Bool):PtIn n ⟨0,0,b⟩:=⟨fun i hi=>by simp at hi,fun i hi=>by simp at hi⟩
theorem ZoG{a b i:Nat}(h:(a|||b).testBit i=true):a.testBit i=true∨b.testBit i=true:=by
 simpa[Nat.testBit_or]using h
theorem MsOk.loop{s:Ms}(h:MsOk s)(a b:Nat)(hb:∀i,b.testBit i=true→i < s.sets.length):MsOk ⟨s.sets,Zdf s.fol a b⟩:=by
 refine⟨by simp[Zdf,h.len],fun j x hj i hi=>?_⟩
 simp only[Zdf,List.getElem?_mapIdx]at hj
 obtain⟨y,hy,rfl⟩:=Option.map_eq_some_iff.1 hj
 by_cases gj:a.testBit j=true
 ·rw[if_pos gj]at hi
  rcases ZoG hi with h1|h1
  ·exact h.fol j y hy i h1
  ·exact hb i h1
 ·rw[if_neg gj]at hi
  exact h.fol j y hy i hi
theorem Zsw{n:Nat}{p q:Pt}(hp:PtIn n p)(hq:PtIn n q):PtIn n (Zs2 p q):=by
 obtain⟨pf,pl,pn⟩:=p
 obtain⟨qf,ql,qn⟩:=q
 constructor
 ·intro i hi
  cases pn
  ·exact hp.1 i hi
  ·rcases ZoG hi with h|h
   ·exact hp.1 i h
   ·exact hq.1 i h
 ·intro i hi
  cases qn
  ·exact hq.2 i hi
  ·rcases ZoG hi with h|h
   ·exact hq.2 i h
   ·exact hp.2 i h
theorem ZrQ{n:Nat}{p q:Pt}(hp:PtIn n p)(hq:PtIn n q):PtIn n (Zvx p q):=
 ⟨fun i hi=>(ZoG hi).elim (hp.1 i) (hq.1 i),fun i hi=>(ZoG hi).elim (hp.2 i) (hq.2 i)⟩
structure Grows (s:Ms)(r:Pt×Ms):Prop where
 le:s.sets.length≤r.2.sets.length
 ok:MsOk r.2
 pt:PtIn r.2.sets.length r.1
theorem Zeq{p q:Pt}{s:Ms}(h:MsOk s)(hp:PtIn s.sets.length p)(hq:PtIn s.sets.length q):Grows s (Zie p q s):=
 ⟨Nat.le_refl _,h.loop _ _ hq.1,Zsw hp hq⟩
theorem Grows.trans{s s1:Ms}{p:Pt}{r:Pt×Ms}(h:Grows s (p,s1))(k:Grows s1 r):Grows s r:=⟨Nat.le_trans h.le k.le,k.ok,k.pt⟩
theorem ZfF{f:Ms→Pt×Ms}(hf:∀s,MsOk s→Grows s (f s))(mn mx:Int)(n:Nat):∀(q i:Nat)(out:Pt)(s:Ms),MsOk s→PtIn s.sets.length out→Grows s (Znf f mn mx n q i out s)
 | 0,i,out,s,h,hp=>⟨Nat.le_refl _,h,hp⟩
 | q+1,i,out,s,h,hp=>by
  unfold Znf
  have h1:=hf s h
  simp only
  generalize hU:(if mx=-1∧i+1=n then(⟨(f s).2.sets,Zdf (f s).2.fol (f s).1.last (f s).1.first⟩:Ms)else(f s).2)=s2
  have e:s2.sets=(f s).2.sets:=by rw[←hU];split <;> rfl
  have h2:MsOk s2:=by
   rw[←hU];split
   ·exact h1.ok.loop _ _ h1.pt.1
   ·exact h1.ok
  have cP:s.sets.length≤s2.sets.length:=by rw[e];exact h1.le
  have h3:Grows s2 (Zie out ⟨(f s).1.first,(f s).1.last,(f s).1.null||decide ((i:Int) ≥ mn)⟩ s2):=Zeq h2 (hp.mono cP) (by rw[e];exact h1.pt)
  have h4:=ZfF hf mn mx n q (i+1) _ _ h3.ok h3.pt
  exact⟨Nat.le_trans cP (Nat.le_trans h3.le h4.le),h4.ok,h4.pt⟩
theorem ZtJ{n i:Nat}(h:(2 ^ n).testBit i=true):i=n:=by
 rw[Nat.testBit_two_pow]at h;exact(of_decide_eq_true h).symm
theorem Znh{s:Ms}(h:MsOk s)(q:Int×Int×Int×Int):Grows s (⟨2 ^ s.sets.length,2 ^ s.sets.length,false⟩,⟨s.sets++[q],s.fol++[0]⟩):=by
 refine⟨by simp,⟨by simp[h.len],fun j x hj i hi=>?_⟩,?_,?_⟩
 ·rw[List.getElem?_append]at hj
  split at hj
  ·have:=h.fol j x hj i hi
   simp;omega
  ·have:=(List.getElem?_eq_some_iff.1 hj)
   obtain⟨_,h2⟩:=this
   have:x=0:=by
    rw[List.getElem_singleton]at h2;exact h2.symm
   subst this;simp at hi
 ·intro i hi;have:=ZtJ hi;simp;omega
 ·intro i hi;have:=ZtJ hi;simp;omega
mutual
theorem Zd3:∀(t:T)(s:Ms),MsOk s→Grows s (mk t s)
 | .node k s0 s1 s2 s3 mn mx a c l,s,h=>by
  unfold mk
  split
  ·exact⟨Nat.le_refl _,h,ZbK _ _⟩
  split
  ·exact⟨Nat.le_refl _,h,ZbK _ _⟩
  split
  ·exact Znh h _
  split
  ·exact Zer l _ s h (ZbK _ _)
  split
  ·exact Zes l _ s h (ZbK _ _)
  split
  ·exact ZfF (fun s h=>Zed l s h) _ _ _ _ _ _ _ h (ZbK _ _)
  ·exact Zed l s h
theorem Zed:∀(l:List T)(s:Ms),MsOk s→Grows s (ZlB l s)
 | [],s,h=>by unfold ZlB;exact⟨Nat.le_refl _,h,ZbK _ _⟩
 | t::l,s,h=>by unfold ZlB;exact Zd3 t s h
theorem Zer:∀(l:List T)(out:Pt)(s:Ms),MsOk s→PtIn s.sets.length out→Grows s (ZgH l out s)
 | [],out,s,h,hp=>by unfold ZgH;exact⟨Nat.le_refl _,h,hp⟩
 | t::l,out,s,h,hp=>by
  unfold ZgH
  have h1:=Zd3 t s h
  have h2:=Zeq h1.ok (hp.mono h1.le) h1.pt
  have h3:=Zer l _ _ h2.ok h2.pt
  exact⟨Nat.le_trans h1.le (Nat.le_trans h2.le h3.le),h3.ok,h3.pt⟩
theorem Zes:∀(l:List T)(out:Pt)(s:Ms),MsOk s→PtIn s.sets.length out→Grows s (ZfD l out s)
 | [],out,s,h,hp=>by unfold ZfD;exact⟨Nat.le_refl _,h,hp⟩
 | t::l,out,s,h,hp=>by
  unfold ZfD
  have h1:=Zd3 t s h
  have h3:=Zes l _ _ h1.ok (ZrQ (hp.mono h1.le) h1.pt)
  exact⟨Nat.le_trans h1.le h3.le,h3.ok,h3.pt⟩
end
theorem ZvH(t:T)(s:Ms):mk t s=(if t.k=0 then(⟨0,0,false⟩,s)
  else if t.k=1 then(⟨0,0,true⟩,s)
  else if t.k=2 then(⟨2 ^ s.sets.length,2 ^ s.sets.length,false⟩,⟨s.sets++[(t.s0,t.s1,t.s2,t.s3)],s.fol++[0]⟩)
  else if t.k=3 then ZgH t.subs ⟨0,0,true⟩ s
  else if t.k=4 then ZfD t.subs ⟨0,0,false⟩ s
  else if t.k=5 then Znf (fun s=>ZlB t.subs s) t.mn t.mx (ZqM t.mn t.mx) (ZqM t.mn t.mx) 0 ⟨0,0,true⟩ s
  else ZlB t.subs s):=by
 cases t;rw[mk];rfl
theorem ZoH{l:List T}{k:Nat}{t:T}(h:l[k]?=some t)(out:Pt)(s:Ms):ZgH (l.drop k) out s=ZgH (l.drop (k+1)) (Zie out (mk t s).1 (mk t s).2).1 (Zie out (mk t s).1 (mk t s).2).2:=by
 obtain⟨hk,he⟩:=List.getElem?_eq_some_iff.1 h
 rw[List.drop_eq_getElem_cons hk,he,ZgH]
theorem ZoI{l:List T}{k:Nat}{t:T}(h:l[k]?=some t)(out:Pt)(s:Ms):ZfD (l.drop k) out s=ZfD (l.drop (k+1)) (Zvx out (mk t s).1) (mk t s).2:=by
 obtain⟨hk,he⟩:=List.getElem?_eq_some_iff.1 h
 rw[List.drop_eq_getElem_cons hk,he,ZfD]
theorem ZkZ{f:Ms→Pt×Ms}{c:Nat}(hf:∀s,(f s).2.sets.length=s.sets.length+c)(mn mx:Int)(n:Nat):∀(q i:Nat)(out:Pt)(s:Ms),(Znf f mn mx n q i out s).2.sets.length=s.sets.length+q*c
 | 0,i,out,s=>by simp[Znf]
 | q+1,i,out,s=>by
  unfold Znf
  simp only
  rw[ZkZ hf]
  have h2:(if mx=-1∧i+1=n then(⟨(f s).2.sets,Zdf (f s).2.fol (f s).1.last (f s).1.first⟩:Ms)else(f s).2).sets.length=s.sets.length+c:=by
   split <;> exact hf s
  show(Ms.sets _).length+_=_
  simp only[Zie]
  rw[h2,Nat.add_mul];omega
theorem Zni{x:Int}(h:Zl6 x 10001≤10000):Zl6 x 10001=x∧x≤10000:=by
 unfold Zl6 at *
 split at h
 ·omega
 ·rename_i h2;exact⟨if_neg h2,h⟩
theorem Zsx{mn mx:Int}(h:ZfB mn mx=true):Zl6 (if mx=-1 then ZkS (ZkS mn 0) 1 else ZkS (ZkS mn 0) mx) 10001=(ZqM mn mx:Nat)∧1≤ZqM mn mx:=by
 unfold ZfB at h
 simp only[Bool.and_eq_true,Bool.not_eq_true',Bool.or_eq_false_iff,Bool.or_eq_true,decide_eq_false_iff_not,decide_eq_true_eq,beq_iff_eq]at h
 unfold ZqM Zl6 ZkS
 by_cases hm:mx=-1
 ·simp only[hm,if_true]
  split <;> split <;> split <;> omega
 ·simp only[hm,if_false]
  split <;> split <;> split <;> omega
theorem Znj{t:T}(h:t.right=true):(t.k=1∧t.subs=[])∨(t.k=2∧t.subs=[]∧t.setZ=false)∨t.k=3∨t.k=4∨(t.k=5∧t.subs.length=1∧ZfB t.mn t.mx=true)∨(t.k=6∧t.subs.length=1):=by
 unfold T.right at h
 rw[Bool.and_eq_true]at h
 obtain⟨h0,h2⟩:=h
 simp only[Bool.not_eq_true',Bool.or_eq_false_iff,Bool.and_eq_false_iff,decide_eq_false_iff_not]at h0
 have hz:t.k < 3→t.subs=[]:=fun hk=>by
  have h1:=h0.2.2
  rcases h1 with h1|h1
  ·omega
  ·cases hs:t.subs with
   | nil=>rfl
   | cons a l=>rw[hs]at h1;simp at h1
 by_cases h1:t.k=1;· exact .inl ⟨h1,hz (by omega)⟩
 by_cases h3:t.k=2
 ·rw[if_neg h1,if_pos h3]at h2
  exact .inr (.inl ⟨h3,hz (by omega),by simpa using h2⟩)
 by_cases h4:t.k=3;· exact .inr (.inr (.inl h4))
 by_cases h5:t.k=4;· exact .inr (.inr (.inr (.inl h5)))
 by_cases h6:t.k=5
 ·rw[if_neg h1,if_neg h3,if_neg h4,if_neg h5,if_pos h6]at h2
  simp only[Bool.and_eq_true,beq_iff_eq]at h2
  exact .inr (.inr (.inr (.inr (.inl ⟨h6,h2.1,h2.2.1⟩))))
 ·rw[if_neg h1,if_neg h3,if_neg h4,if_neg h5,if_neg h6]at h2
  simp only[Bool.and_eq_true,beq_iff_eq]at h2
  exact .inr (.inr (.inr (.inr (.inr h2))))
mutual
theorem ZjV:∀(t:T),(∀x∈t.nodes,x.right=true)→t.pos≤10000→∀s:Ms,(mk t s).2.sets.length=s.sets.length+t.pos.toNat
 | .node k s0 s1 s2 s3 mn mx a c l,cC,hp,s=>by
  have hr:=Znj (cC (.node k s0 s1 s2 s3 mn mx a c l) (by simp[T.nodes]))
  have hl:∀x∈ZaG l,x.right=true:=fun x hx=>cC x (by simp[T.nodes,hx])
  simp only[T.k,T.subs,T.mn,T.mx]at hr
  have uW:=Zgh l
  simp only[T.pos,Zs7]at hp ⊢
  rw[mk]
  rcases hr with⟨hk,hs⟩|⟨hk,hs,_⟩|hk|hk|⟨hk,h1,hb⟩|⟨hk,h1⟩
  ·subst hk hs;simp[Zdp,Zl6]
  ·subst hk hs;simp[Zdp,Zl6]
  ·subst hk
   have hq:=Zni hp
   rw[hq.1]
   simp only[show ¬(3:Int)=0 by omega,show ¬(3:Int)=1 by omega,show ¬(3:Int)=2 by omega,show ¬(3:Int)=5 by omega,if_false,if_true,Int.zero_add]at hq ⊢
   exact Zi5 l hl (by omega) _ s
  ·subst hk
   have hq:=Zni hp
   rw[hq.1]
   simp only[show ¬(4:Int)=0 by omega,show ¬(4:Int)=1 by omega,show ¬(4:Int)=2 by omega,show ¬(4:Int)=3 by omega,show ¬(4:Int)=5 by omega,if_false,if_true,Int.zero_add]at hq ⊢
   exact Zi6 l hl (by omega) _ s
  ·subst hk
   have hq:=Zni hp
   rw[hq.1]
   obtain⟨hF,qS⟩:=Zsx hb
   simp only[show ¬(5:Int)=0 by omega,show ¬(5:Int)=1 by omega,show ¬(5:Int)=2 by omega,show ¬(5:Int)=3 by omega,show ¬(5:Int)=4 by omega,if_false,if_true,Int.zero_add,hF]at hq ⊢
   have cP:Zdp l≤10000:=by
    have h2:Zdp l*1≤Zdp l*(ZqM mn mx:Nat):=Int.mul_le_mul_of_nonneg_left (by omega) uW
    omega
   have hf:=fun s=>Zk0 l h1 hl cP s
   rw[ZkZ hf]
   obtain⟨z,hz⟩:∃z:Nat,Zdp l=z:=⟨(Zdp l).toNat,by omega⟩
   rw[hz,Int.toNat_natCast,←Int.natCast_mul,Int.toNat_natCast,Nat.mul_comm]
  ·subst hk
   have hq:=Zni hp
   rw[hq.1]
   simp only[show ¬(6:Int)=0 by omega,show ¬(6:Int)=1 by omega,show ¬(6:Int)=2 by omega,show ¬(6:Int)=3 by omega,show ¬(6:Int)=4 by omega,show ¬(6:Int)=5 by omega,if_false,if_true,Int.zero_add]at hq ⊢
   exact Zk0 l h1 hl (by omega) s
theorem Zk0:∀(l:List T),l.length=1→(∀x∈ZaG l,x.right=true)→Zdp l≤10000→∀s:Ms,(ZlB l s).2.sets.length=s.sets.length+(Zdp l).toNat
 | [],h,_,_,_=>by simp at h
 | [t],_,cC,hp,s=>by
  simp only[ZlB,Zdp,Int.add_zero]at hp ⊢
  exact ZjV t (fun x hx=>cC x (by simp[ZaG,hx])) hp s
 | _::_::_,h,_,_,_=>by simp at h
theorem Zi5:∀(l:List T),(∀x∈ZaG l,x.right=true)→Zdp l≤10000→∀(out:Pt)(s:Ms),(ZgH l out s).2.sets.length=s.sets.length+(Zdp l).toNat
 | [],_,_,out,s=>by simp[ZgH,Zdp]
 | t::l,cC,hp,out,s=>by
  have h1:=ZjQ t
  have h2:=Zgh l
  simp only[ZgH,Zdp]at hp ⊢
  rw[Zi5 l (fun x hx=>cC x (by simp[ZaG,hx])) (by omega)]
  show(mk t s).2.sets.length+_=_
  rw[ZjV t (fun x hx=>cC x (by simp[ZaG,hx])) (by omega) s]
  omega
theorem Zi6:∀(l:List T),(∀x∈ZaG l,x.right=true)→Zdp l≤10000→∀(out:Pt)(s:Ms),(ZfD l out s).2.sets.length=s.sets.length+(Zdp l).toNat
 | [],_,_,out,s=>by simp[ZfD,Zdp]
 | t::l,cC,hp,out,s=>by
  have h1:=ZjQ t
  have h2:=Zgh l
  simp only[ZfD,Zdp]at hp ⊢
  rw[Zi6 l (fun x hx=>cC x (by simp[ZaG,hx])) (by omega)]
  rw[ZjV t (fun x hx=>cC x (by simp[ZaG,hx])) (by omega) s]
  omega
end
end Go.Rx
namespace Go.Rx
open Go Go.Eng Go.RowKit
abbrev QS:=Int×Int×Int×Int
structure Nf where
 sets:List QS
 fol:List (List Int)
 first:List Int
 last:List Int
 empty:Bool
deriving DecidableEq
def Zaq(l:List Int):List Value:=l.map fun i=>.int .i64 i
theorem ZcZ(l:List Int):(Zaq l).length=l.length:=by simp[Zaq]
def SlI(st:Bool)(l:List Int)(v:Value)(m:Mem):Prop:=∃a c,v=.slice a l.length c∧rowRd m a (Zaq l)∧l.length≤1000000∧(st=true→l=[]→a=none)
def SlQ(st:Bool)(l:List QS)(v:Value)(m:Mem):Prop:=∃a c,v=.slice a l.length c∧rowRd m a (Zby l)∧l.length≤1000000∧(st=true→l=[]→a=none)
def FolR(st:Bool)(fol:List (List Int))(v:Value)(m:Mem):Prop:=∃a c vs,v=.slice a fol.length c∧rowRd m a vs∧vs.length=fol.length∧fol.length≤1000000∧∀(i:Nat)(v:Value)(l:List Int),vs[i]?=some v→fol[i]?=some l→SlI st l v m
def NfR(st:Bool)(A:Nf)(v:Value)(m:Mem):Prop:=∃s f x y,v=.agg #[s,f,x,y,.bool A.empty]∧SlQ st A.sets s m∧FolR st A.fol f m∧SlI st A.first x m∧SlI st A.last y m
theorem SlI.mono{st:Bool}{l:List Int}{v:Value}{m m':Mem}(h:SlI st l v m)(k:m.le m'):SlI st l v m':=by
 obtain⟨a,c,h1,h2,h3⟩:=h;exact⟨a,c,h1,h2.mono k,h3⟩
theorem SlQ.mono{st:Bool}{l:List QS}{v:Value}{m m':Mem}(h:SlQ st l v m)(k:m.le m'):SlQ st l v m':=by
 obtain⟨a,c,h1,h2,h3⟩:=h;exact⟨a,c,h1,h2.mono k,h3⟩
theorem FolR.mono{st:Bool}{l:List (List Int)}{v:Value}{m m':Mem}(h:FolR st l v m)(k:m.le m'):FolR st l v m':=by
 obtain⟨a,c,vs,h1,h2,h3,h4,h5⟩:=h;exact⟨a,c,vs,h1,h2.mono k,h3,h4,fun i v l hv hl=>(h5 i v l hv hl).mono k⟩
theorem NfR.mono{st:Bool}{A:Nf}{v:Value}{m m':Mem}(h:NfR st A v m)(k:m.le m'):NfR st A v m':=by
 obtain⟨s,f,x,y,h1,h2,h3,h4,h5⟩:=h;exact⟨s,f,x,y,h1,h2.mono k,h3.mono k,h4.mono k,h5.mono k⟩
theorem Zba{m:Mem}{a:Option Addr}{l:List Int}(h:rowRd m a (Zaq l)){i:Nat}{x:Int}(hx:l[i]?=some x):∃b o,a=some ⟨b,o,none⟩∧m b (o+i*1)=some (.int .i64 x):=by
 have hv:(Zaq l)[i]?=some (.int .i64 x):=by simp[Zaq,hx]
 rcases h with h|⟨b,o,h1,h2⟩
 ·rw[h]at hv;simp at hv
 ·exact⟨b,o,h1,by have:=h2 i _ hv;rwa [Nat.mul_one]⟩
theorem ZbX{m:Mem}{a:Option Addr}{l:List Value}(h:rowRd m a l){i:Nat}{x:Value}(hx:l[i]?=some x):∃b o,a=some ⟨b,o,none⟩∧m b (o+i*1)=some x:=by
 rcases h with h|⟨b,o,h1,h2⟩
 ·rw[h]at hx;simp at hx
 ·exact⟨b,o,h1,by have:=h2 i _ hx;rwa [Nat.mul_one]⟩
def qCs(q:QS):List Value:=[.int .u64 q.1,.int .u64 q.2.1,.int .u64 q.2.2.1,.int .u64 q.2.2.2]
theorem Zma{l:List QS}{i:Nat}{q:QS}(h:l[i]?=some q){j:Nat}{v:Value}(hv:(qCs q)[j]?=some v):(Zby l)[i*4+j]?=some v:=by
 have hj:j < 4:=by have:=(List.getElem?_eq_some_iff.1 hv).1;simpa[qCs]using this
 induction l generalizing i with
 | nil=>simp at h
 | cons a l ih=>
  show(qCs a++Zby l)[i*4+j]?=some v
  cases i with
  | zero=>
   simp at h;subst h
   rw[Nat.zero_mul,Nat.zero_add,List.getElem?_append_left (by simpa[qCs]using hj)];exact hv
  | succ i=>
   rw[List.getElem?_append_right (by simp[qCs];omega)]
   have:=ih (by simpa using h)
   rw[show(i+1)*4+j - (qCs a).length=i*4+j by simp[qCs];omega];exact this
theorem Zgi{m:Mem}{a:Option Addr}{l:List QS}(h:rowRd m a (Zby l)){i:Nat}{x:QS}(hx:l[i]?=some x):∃b o,a=some ⟨b,o,none⟩∧m.reads b (o+i*4) [.int .u64 x.1,.int .u64 x.2.1,.int .u64 x.2.2.1,.int .u64 x.2.2.2]:=by
 rcases h with h|⟨b,o,h1,h2⟩
 ·have:=Zma hx (j:=0) (v:=.int .u64 x.1) rfl
  rw[h]at this;simp at this
 ·refine⟨b,o,h1,fun j v hv=>?_⟩
  have:=h2 _ _ (Zma hx hv)
  rwa [←Nat.add_assoc]at this
def ZbC:List Int→Int→Int→Bool
 | [],_,_=>true
 | p::l,lo,hi=>decide (lo < p)&&(decide (p≤hi)&&ZbC l p hi)
def zQ:QS:=(0,0,0,0)
def Nf.top(A:Nf):Int:=(A.sets.length:Int) - 1
def Nf.right(A:Nf):Bool:=
 decide (A.sets.length≤400)&&(decide (A.fol.length=A.sets.length)&&(ZbC A.first (-1) A.top&&(ZbC A.last (-1) A.top&&((A.fol.zip A.sets).all fun p=>ZbC p.1 (-1) A.top&&!(p.2 == zQ)))))
theorem Zcm{l:List Int}:∀{lo hi:Int},ZbC l lo hi=true↔(l.Pairwise (· < ·)∧∀x∈l,lo < x∧x≤hi):=by
 induction l with
 | nil=>intro lo hi;simp[ZbC]
 | cons p l ih=>
  intro lo hi
  simp only[ZbC,Bool.and_eq_true,decide_eq_true_eq,ih,List.pairwise_cons,List.mem_cons,forall_eq_or_imp]
  constructor
  ·rintro⟨h1,h2,h3,h4⟩
   exact⟨⟨fun x hx=>(h4 x hx).1,h3⟩,⟨h1,h2⟩,fun x hx=>⟨Int.lt_trans h1 (h4 x hx).1,(h4 x hx).2⟩⟩
  ·rintro⟨⟨h1,h2⟩,⟨h3,h4⟩,h5⟩
   exact⟨h3,h4,h2,fun x hx=>⟨h1 x hx,(h5 x hx).2⟩⟩
def ZbZ(f:Nat):List Int:=(Zcf f).map fun i:Nat=>(i:Int)
theorem ZqT{f:Nat}{x:Int}:x∈ZbZ f↔∃i:Nat,i < 448∧f.testBit i=true∧x=i:=by
 simp only[ZbZ,List.mem_map,ZjT]
 constructor
 ·rintro⟨i,⟨h1,h2⟩,rfl⟩;exact⟨i,h1,h2,rfl⟩
 ·rintro⟨i,h1,h2,rfl⟩;exact⟨i,⟨h1,h2⟩,rfl⟩
theorem Zhd(f:Nat):(ZbZ f).Pairwise (· < ·):=by
 unfold ZbZ
 rw[List.pairwise_map]
 exact(Zhb f).imp (by intro a b h;omega)
theorem Znk(f:Nat):(ZbZ f).length≤448:=by simp[ZbZ,Zne]
def ZtK(r:Pt×Ms):Nf:=⟨r.2.sets,r.2.fol.map ZbZ,ZbZ r.1.first,ZbZ r.1.last,r.1.null⟩
def T.auto(t:T):Nf:=ZtK (mk t ⟨[],[]⟩)
def T.nfit(t:T):Bool:=t.clean&&(decide (t.size≤120)&&decide (t.positions≤400))
def nf0:Nf:=⟨[],[],[],[],false⟩
def T.ofN(t:T):Nf:=if t.isNone then nf0 else if t.nfit then t.auto else nf0
def T.ofE(t:T):Int:=if t.isNone then 0 else if t.nfit then 0 else 170
end Go.Rx
namespace Go.Rx
open Go Go.Eng Go.RowKit
def Zoc(p:Nat)(cur:List (List Int))(q:Int):List (List Int):=cur.modify q.toNat (fun l=>l++[(p:Int)])
def Zgj(p:Nat)(cur:List (List Int))(l:List Int):List (List Int):=l.foldl (Zoc p) cur
def Zc0:List (List Int)→Nat→List (List Int)→List (List Int)
 | [],_,cur=>cur
 | l::r,p,cur=>Zc0 r (p+1) (Zgj p cur l)
def Zi7(fol:List (List Int)):List (List Int):=Zc0 fol 0 (List.replicate fol.length [])
def Nf.turn(A:Nf):Nf:=⟨A.sets,Zi7 A.fol,A.last,A.first,A.empty⟩
theorem ZfG(p:Nat)(cur:List (List Int))(q:Int):(Zoc p cur q).length=cur.length:=by simp[Zoc]
theorem ZjW{p:Nat}{cur:List (List Int)}{q:Int}{i:Nat}{l:List Int}(h:cur[i]?=some l):(Zoc p cur q)[i]?=some (if q.toNat=i then l++[(p:Int)]else l):=by
 unfold Zoc
 rw[List.getElem?_modify,h]
 split <;> rfl
theorem Znl(p:Nat)(l:List Int):∀cur:List (List Int),(Zgj p cur l).length=cur.length:=by
 induction l with
 | nil=>intro cur;rfl
 | cons q l ih=>intro cur;show(Zgj p (Zoc p cur q) l).length=_;rw[ih,ZfG]
theorem Zhe:∀(r:List (List Int)) (p:Nat) (cur:List (List Int)),(Zc0 r p cur).length=cur.length
 | [],p,cur=>rfl
 | l::r,p,cur=>by rw[Zc0,Zhe,Znl]
theorem ZfH(fol:List (List Int)):(Zi7 fol).length=fol.length:=by simp[Zi7,Zhe]
theorem Zi8{p i:Nat}:∀{l:List Int},l.Pairwise (· < ·)→(∀x∈l,0≤x)→∀{cur:List (List Int)} {c:List Int},cur[i]?=some c→(Zgj p cur l)[i]?=some (c++if(i:Int)∈l then[(p:Int)]else[])
 | [],_,_,cur,c,h=>by simp[Zgj,h]
 | q::l,hl,hn,cur,c,h=>by
  rw[List.pairwise_cons]at hl
  show(Zgj p (Zoc p cur q) l)[i]?=_
  rw[Zi8 hl.2 (fun x hx=>hn x (by simp[hx])) (ZjW h)]
  have hq:=hn q (by simp)
  by_cases tA:q.toNat=i
  ·have:(i:Int)=q:=by omega
   have qF:(i:Int) ∉ l:=fun hm=>by have:=hl.1 _ hm;omega
   rw[if_pos tA,if_neg qF,if_pos (by simp[this]),List.append_nil]
  ·have:¬(i:Int)=q:=by omega
   rw[if_neg tA]
   simp[this]
theorem Zhf{i:Nat}:∀{r:List (List Int)} {p:Nat},(∀l∈r,l.Pairwise (· < ·)∧∀x∈l,0≤x)→∀{cur:List (List Int)} {c:List Int},cur[i]?=some c→(Zc0 r p cur)[i]?=some (c++(((List.range r.length).filter fun k=>decide ((i:Int)∈(r[k]?).getD [])).map fun k:Nat=>((p+k:Nat):Int)))
 | [],p,_,cur,c,h=>by simp[Zc0,h]
 | l::r,p,hr,cur,c,h=>by
  have h1:=hr l (by simp)
  rw[Zc0,Zhf (fun l hl=>hr l (by simp[hl])) (Zi8 h1.1 h1.2 h),List.length_cons,List.range_succ_eq_map,List.filter_cons,List.append_assoc]
  congr 2
  have e:(List.map Nat.succ (List.range r.length)).filter (fun k=>decide ((i:Int)∈((l::r)[k]?).getD []))=((List.range r.length).filter fun k=>decide ((i:Int)∈(r[k]?).getD [])).map Nat.succ:=by
   rw[List.filter_map];rfl
  rw[e]
  have e2:(((List.range r.length).filter fun k=>decide ((i:Int)∈(r[k]?).getD [])).map Nat.succ).map (fun k:Nat=>((p+k:Nat):Int))=((List.range r.length).filter fun k=>decide ((i:Int)∈(r[k]?).getD [])).map fun k:Nat=>((p+1+k:Nat):Int):=by
   rw[List.map_map];apply List.map_congr_left;intro k _;simp;omega
  by_cases hi:(i:Int)∈l
  ·rw[if_pos hi,if_pos (by simp[hi]),List.map_cons,e2];simp
  ·rw[if_neg hi,if_neg (by simp[hi]),e2];simp
theorem ZqU{fol:List (List Int)}{i:Nat}(hi:i < fol.length)(hr:∀l∈fol,l.Pairwise (· < ·)∧∀x∈l,0≤x):(Zi7 fol)[i]?=some (((List.range fol.length).filter fun k=>decide ((i:Int)∈(fol[k]?).getD [])).map fun k:Nat=>(k:Int)):=by
 unfold Zi7
 rw[Zhf hr (c:=[]) (by simp[hi])]
 simp
theorem ZlC{fol:List (List Int)}{i:Nat}{l:List Int}(h:(Zi7 fol)[i]?=some l)(hr:∀l∈fol,l.Pairwise (· < ·)∧∀x∈l,0≤x):l.Pairwise (· < ·)∧l.length≤fol.length:=by
 have hi:i < fol.length:=by have:=(List.getElem?_eq_some_iff.1 h).1;rwa [ZfH]at this
 rw[ZqU hi hr]at h
 cases h
 constructor
 ·rw[List.pairwise_map]
  exact((List.pairwise_lt_range (n:=fol.length)).filter _).imp (by intro a b h;omega)
 ·rw[List.length_map];exact Nat.le_trans (List.length_filter_le _ _) (by simp)
structure Nf.Ok (A:Nf):Prop where
 n:A.sets.length≤400
 len:A.fol.length=A.sets.length
 first:A.first.Pairwise (· < ·)∧∀x∈A.first,-1 < x∧x≤A.top
 last:A.last.Pairwise (· < ·)∧∀x∈A.last,-1 < x∧x≤A.top
 fol:∀l∈A.fol,l.Pairwise (· < ·)∧∀x∈l,-1 < x∧x≤A.top
 sets:∀q∈A.sets,q≠zQ
theorem ZeW{A:Nf}:A.right=true↔A.Ok:=by
 unfold Nf.right
 simp only[Bool.and_eq_true,decide_eq_true_eq,List.all_eq_true,Zcm,Bool.not_eq_true',beq_eq_false_iff_ne]
 constructor
 ·rintro⟨h1,h2,h3,h4,h5⟩
  refine⟨h1,h2,h3,h4,fun l hl=>?_,fun q hq=>?_⟩
  ·obtain⟨i,hi⟩:=List.getElem?_of_mem hl
   have bV:=(List.getElem?_eq_some_iff.1 hi).1
   have:(A.fol.zip A.sets)[i]?=some (l,A.sets[i]'(by omega)):=List.getElem?_zip_eq_some.2 ⟨hi,List.getElem?_eq_getElem (by omega)⟩
   exact(h5 _ (List.mem_of_getElem? this)).1
  ·obtain⟨i,hi⟩:=List.getElem?_of_mem hq
   have bV:=(List.getElem?_eq_some_iff.1 hi).1
   have:(A.fol.zip A.sets)[i]?=some (A.fol[i]'(by omega),q):=List.getElem?_zip_eq_some.2 ⟨List.getElem?_eq_getElem (by omega),hi⟩
   exact(h5 _ (List.mem_of_getElem? this)).2
 ·rintro⟨h1,h2,h3,h4,h5,h6⟩
  refine⟨h1,h2,h3,h4,fun p hp=>?_⟩
  obtain⟨l,q⟩:=p
  exact⟨h5 l (List.of_mem_zip hp).1,h6 q (List.of_mem_zip hp).2⟩
theorem Nf.Ok.rows{A:Nf}(h:A.Ok):∀l∈A.fol,l.Pairwise (· < ·)∧∀x∈l,0≤x:=fun l hl=>⟨(h.fol l hl).1,fun x hx=>by have:=((h.fol l hl).2 x hx).1;omega⟩
structure TurnI (base m:Mem)(b:Nat)(F:Nat→Option (Nat×Nat))(cur:List (List Int)):Prop where
 le:base.le m
 fr:base.free b
 cell:∀(q:Nat)(l:List Int),cur[q]?=some l→(F q=none∧l=[]∧m b q=some (.slice none 0 0))∨∃bq c,F q=some (bq,c)∧l≠[]∧l.length≤c∧m b q=some (.slice (some ⟨bq,0,none⟩) l.length c)∧(∀o,o < c→∃v,m bq o=some v)∧m.reads bq 0 (Zaq l)∧base.free bq∧bq≠b
 ne:∀(q q' b0 c c':Nat),F q=some (b0,c)→F q'=some (b0,c')→q=q'
 dom:∀(q:Nat)(x:Nat×Nat),F q=some x→q < cur.length
theorem Zmb{m m':Mem}(h:m.le m'){b:Nat}(hf:m'.free b):m.free b:=fun o=>by
 cases he:m b o with
 | none=>rfl
 | some v=>have:=h _ _ _ he;rw[hf o]at this;cases this
theorem Znm(l r:List Int):Zaq (l++r)=Zaq l++Zaq r:=by simp[Zaq]
theorem TurnI.push{base m:Mem}{b:Nat}{F:Nat→Option (Nat×Nat)}{cur:List (List Int)}(h:TurnI base m b F cur){q:Int}{p:Nat}{l:List Int}(oq:0≤q)(hq:cur[q.toNat]?=some l){a:Option Addr}{c:Nat}(hm:m b q.toNat=some (.slice a l.length c)){m1 m2 M:Mem}(bE:(m.cutA a (l.length*1)).le m1)
  {a':Option Addr} {c':Nat} (hr:rowRd m2 a' (Zaq l++[.int .i64 (p:Int)])) (hf:TokFact m1 a a' (l.length+1) c') (uX:(m.cutA a (l.length*1)).le M) (gq:m2.le M) (zs:List Value) (hz:zs.length=(c' - (l.length+1))*1):
  ∃F',TurnI base ((M.upd b q.toNat [.slice a' (l.length+1) c']).addA a' ((l.length+1)*1) zs) b F' (Zoc p cur q):=by
 have rq:=(List.getElem?_eq_some_iff.1 hq).1
 have uY:∀b o,a=some ⟨b,o,none⟩→o=0:=fun b1 o1 e=>by
  rcases h.cell _ _ hq with⟨_,_,h3⟩|⟨bq,c0,_,_,_,h4,_⟩
  ·rw[hm,e]at h3;simp at h3
  ·rw[hm,e]at h4;simp at h4;exact h4.1.2
 obtain⟨hc',gB⟩:=hf.old uY
 rcases hr with hr|⟨b',o',ha',cN⟩
 ·have:=congrArg List.length hr;simp at this
 rcases gB with mY|⟨b2,ip,fP⟩
 ·rw[mY]at ha';cases ha'
 rw[ip]at ha'
 simp only[Option.some.injEq,Addr.mk.injEq,and_true]at ha'
 obtain⟨rfl,rfl⟩:=ha'
 subst ip
 have gD:∀k o v,m k o=some v→(∀bq c0,F q.toNat=some (bq,c0)→k≠bq)→M k o=some v:=fun k o v hv hk=>by
  refine uX k o v ?_
  unfold Mem.cutA
  split
  ·rename_i k0 o0 s0
   rcases h.cell _ _ hq with⟨_,_,h3⟩|⟨bq,c0,h1,_,_,h4,_⟩
   ·rw[hm]at h3;simp only[Option.some.injEq,Value.slice.injEq]at h3;exact absurd h3.1 (by simp)
   ·rw[hm]at h4
    simp only[Option.some.injEq,Value.slice.injEq,Addr.mk.injEq]at h4
    rw[if_neg (fun hc=>hk bq c0 h1 (hc.1.trans h4.1.1))];exact hv
  ·exact hv
 have hb'k:∀k o v,m k o=some v→(∀bq c0,F q.toNat=some (bq,c0)→k≠bq)→k≠b2:=fun k o v hv hk e=>by
  subst e
  have uZ:(m.cutA a (l.length*1)) k o=some v:=by
   unfold Mem.cutA
   split
   ·rename_i k0 o0 s0
    rcases h.cell _ _ hq with⟨_,_,h3⟩|⟨bq,c0,h1,_,_,h4,_⟩
    ·rw[hm]at h3;simp only[Option.some.injEq,Value.slice.injEq]at h3;exact absurd h3.1 (by simp)
    ·rw[hm]at h4
     simp only[Option.some.injEq,Value.slice.injEq,Addr.mk.injEq]at h4
     rw[if_neg (fun hc=>hk bq c0 h1 (hc.1.trans h4.1.1))];exact hv
   ·exact hv
  rcases fP with fP|fP
  ·rcases h.cell _ _ hq with⟨_,_,h3⟩|⟨bq,c0,h1,_,_,h4,_⟩
   ·rw[hm,fP]at h3;simp only[Option.some.injEq,Value.slice.injEq]at h3;exact absurd h3.1 (by simp)
   ·rw[hm,fP]at h4
    simp only[Option.some.injEq,Value.slice.injEq,Addr.mk.injEq]at h4
    exact hk bq c0 h1 h4.1.1
  ·have:=bE _ _ _ uZ
   rw[fP o]at this;cases this
 have mZ:∀q' x,cur[q']?=some x→∃v,m b q'=some v:=fun q' x hx=>by
  rcases h.cell _ _ hx with⟨_,_,h3⟩|⟨_,_,_,_,_,h4,_⟩
  ·exact⟨_,h3⟩
  ·exact⟨_,h4⟩
 have rr:∀bq c0,F q.toNat=some (bq,c0)→b≠bq:=fun bq c0 h1 e=>by
  rcases h.cell _ _ hq with⟨h3,_,_⟩|⟨bq',c0',h1',_,_,_,_,_,_,h8⟩
  ·rw[h3]at h1;cases h1
  ·rw[h1]at h1';cases h1';exact h8 e.symm
 have gU:b≠b2:=by
  obtain⟨v,hv⟩:=mZ _ _ hq
  exact hb'k b _ v hv rr
 let N:=(M.upd b q.toNat [.slice (some ⟨b2,0,none⟩) (l.length+1) c']).addA (some ⟨b2,0,none⟩) ((l.length+1)*1) zs
 have hN:∀k o,k≠b2→(k≠b∨o≠q.toNat)→N k o=M k o:=fun k o hk u4=>by
  show Mem.addAt _ b2 _ zs k o=_
  unfold Mem.addAt
  rw[if_neg (fun hc=>hk hc.1)]
  unfold Mem.upd
  rw[if_neg]
  rintro⟨e1,e2,e3⟩
  simp at e3
  rcases u4 with h|h
  ·exact h e1
  ·omega
 have pR:N b q.toNat=some (.slice (some ⟨b2,0,none⟩) (l.length+1) c'):=by
  show Mem.addAt _ b2 _ zs b q.toNat=_
  unfold Mem.addAt
  rw[if_neg (fun hc=>gU hc.1)]
  unfold Mem.upd
  rw[if_pos ⟨rfl,Nat.le_refl _,by simp⟩];simp
 have mf:base.free b2:=by
  rcases fP with fP|fP
  ·rcases h.cell _ _ hq with⟨_,_,h3⟩|⟨bq,c0,h1,_,_,h4,_,_,h7,_⟩
   ·rw[hm,fP]at h3;simp only[Option.some.injEq,Value.slice.injEq]at h3;exact absurd h3.1 (by simp)
   ·rw[hm,fP]at h4
    simp only[Option.some.injEq,Value.slice.injEq,Addr.mk.injEq]at h4
    rw[h4.1.1];exact h7
  ·intro o
   cases he:base b2 o with
   | none=>rfl
   | some v=>
    exfalso
    refine hb'k b2 o v (h.le _ _ _ he) (fun bq c0 h1 e=>?_) rfl
    rcases h.cell _ _ hq with⟨h3,_,_⟩|⟨bq',c0',h1',_,_,_,_,_,h7,_⟩
    ·rw[h3]at h1;cases h1
    ·rw[h1]at h1';cases h1'
     rw[e,h7 o]at he;cases he
 refine⟨fun i=>if i=q.toNat then some (b2,c')else F i,?_⟩
 show TurnI base N b _ _
 refine⟨fun k o v hv=>?_,h.fr,fun i x hx=>?_,fun i i' b0 c0 c0' h1 h2=>?_,fun i x hx=>?_⟩
 ·have f8:k≠b2:=fun e=>by subst e;rw[mf o]at hv;cases hv
  have iQ:k≠b:=fun e=>by subst e;rw[h.fr o]at hv;cases hv
  rw[hN k o f8 (.inl iQ)]
  refine gD k o v (h.le _ _ _ hv) fun bq c0 h1 e=>?_
  rcases h.cell _ _ hq with⟨h3,_,_⟩|⟨bq',c0',h1',_,_,_,_,_,h7,_⟩
  ·rw[h3]at h1;cases h1
  ·rw[h1]at h1';cases h1'
   rw[e,h7 o]at hv;cases hv
 ·have ru:i < cur.length:=by have:=(List.getElem?_eq_some_iff.1 hx).1;rwa [ZfG]at this
  obtain⟨y,hy⟩:∃y,cur[i]?=some y:=⟨_,List.getElem?_eq_getElem ru⟩
  rw[ZjW hy]at hx
  by_cases hi:i=q.toNat
  ·subst hi
   rw[hq]at hy;cases hy
   rw[if_pos rfl]at hx;cases hx
   refine .inr ⟨b2,c',by simp,by simp,by simpa using hc',by rw[List.length_append];exact pR,fun o ho=>?_,fun j v hj=>?_,mf,gU.symm⟩
   ·show ∃v,Mem.addAt _ b2 _ zs b2 o=some v
    unfold Mem.addAt
    by_cases tB:0+(l.length+1)*1≤o
    ·rw[if_pos ⟨rfl,tB⟩]
     have:o - (0+(l.length+1)*1) < zs.length:=by omega
     rw[List.getElem?_eq_getElem this];exact⟨_,rfl⟩
    ·rw[if_neg (fun hc=>tB hc.2)]
     have hv:=cN o ((Zaq l++[.int .i64 (p:Int)])[o]'(by simp[ZcZ];omega)) (List.getElem?_eq_getElem _)
     rw[Nat.zero_add]at hv
     rw[Mem.upd_other _ gU.symm]
     exact⟨_,gq _ _ _ hv⟩
   ·show Mem.addAt _ b2 _ zs b2 (0+j)=some v
    have u5:=(List.getElem?_eq_some_iff.1 hj).1
    rw[ZcZ,List.length_append,List.length_singleton]at u5
    unfold Mem.addAt
    rw[if_neg (by omega),Mem.upd_other _ gU.symm]
    rw[Znm]at hj
    exact gq _ _ _ (cN j v hj)
  ·rw[if_neg (fun e=>hi e.symm)]at hx
   obtain rfl:y=x:=Option.some.inj hx
   have ou:∀x,F i=some x→∀bq c0,F q.toNat=some (bq,c0)→x.1≠bq:=fun x h1 bq c0 h2 e=>by
    obtain⟨x1,x2⟩:=x
    simp only at e;subst e
    exact hi (h.ne _ _ _ _ _ h1 h2)
   rcases h.cell _ _ hy with⟨h1,h2,h3⟩|⟨bq,c0,h1,h2,h3,h4,h5,h6,h7,h8⟩
   ·refine .inl ⟨by simp only[if_neg hi];exact h1,h2,?_⟩
    rw[hN b i gU (.inr hi)]
    exact gD _ _ _ h3 rr
   ·have hk:∀bq' c0',F q.toNat=some (bq',c0')→bq≠bq':=fun bq' c0' h=>ou _ h1 bq' c0' h
    have f8:bq≠b2:=by
     cases y with
     | nil=>exact absurd rfl h2
     | cons z y=>
      have:=h6 0 (.int .i64 z) rfl
      exact hb'k _ _ _ this hk
    refine .inr ⟨bq,c0,by simp only[if_neg hi];exact h1,h2,h3,?_,fun o ho=>?_,fun j v hj=>?_,h7,h8⟩
    ·rw[hN b i gU (.inr hi)];exact gD _ _ _ h4 rr
    ·obtain⟨v,hv⟩:=h5 o ho
     exact⟨v,by rw[hN bq o f8 (.inl h8)];exact gD _ _ _ hv hk⟩
    ·rw[hN bq _ f8 (.inl h8)];exact gD _ _ _ (h6 j v hj) hk
 ·have key:∀j c1,F j=some (b2,c1)→j=q.toNat:=fun j c1 hj=>by
   have jZ:=h.dom _ _ hj
   rcases h.cell j _ (List.getElem?_eq_getElem jZ)with⟨h3,_,_⟩|⟨bq,c0,g1,g2,_,_,_,g6,_,_⟩
   ·rw[h3]at hj;cases hj
   ·rw[hj]at g1;cases g1
    cases ou:F q.toNat with
    | none=>
     exfalso
     have:∃z y,cur[j]'jZ=z::y:=by
      cases hc:cur[j]'jZ with
      | nil=>exact absurd hc g2
      | cons z y=>exact⟨z,y,rfl⟩
     obtain⟨z,y,rv⟩:=this
     have hv:=g6 0 (.int .i64 z) (by rw[rv];rfl)
     exact hb'k _ _ _ hv (fun bq c0 h1=>by rw[ou]at h1;cases h1) rfl
    | some x=>
     obtain⟨x1,x2⟩:=x
     by_cases jb:x1=b2
     ·subst jb;exact h.ne _ _ _ _ _ hj ou
     ·exfalso
      have:∃z y,cur[j]'jZ=z::y:=by
       cases hc:cur[j]'jZ with
       | nil=>exact absurd hc g2
       | cons z y=>exact⟨z,y,rfl⟩
      obtain⟨z,y,rv⟩:=this
      have hv:=g6 0 (.int .i64 z) (by rw[rv];rfl)
      exact hb'k _ _ _ hv (fun bq c0 h1 e=>by rw[ou]at h1;cases h1;exact jb e.symm) rfl
  split at h1 <;> split at h2
  ·omega
  ·simp only[Option.some.injEq,Prod.mk.injEq]at h1
   rw[←h1.1]at h2
   have:=key _ _ h2;omega
  ·simp only[Option.some.injEq,Prod.mk.injEq]at h2
   rw[←h2.1]at h1
   have:=key _ _ h1;omega
  ·exact h.ne _ _ _ _ _ h1 h2
 ·rw[ZfG]
  split at hx
  ·omega
  ·exact h.dom _ _ hx
end Go.Rx
namespace Go.Rx
open Go Go.Eng Go.RowKit
def ZtL(q:QS):T:=.node 2 q.1 q.2.1 q.2.2.1 q.2.2.2 0 0 none 0 []
def ZqV(q:QS)(c:Nat):Bool:=(ZtL q).hasB c
def QOk(q:QS):Prop:=(0≤q.1∧q.1 < 18446744073709551616)∧(0≤q.2.1∧q.2.1 < 18446744073709551616)∧(0≤q.2.2.1∧q.2.2.1 < 18446744073709551616)∧(0≤q.2.2.2∧q.2.2.2 < 18446744073709551616)
theorem ZvI{q:QS}(h:QOk q)(m:Mem):Rep m (ZtL q):=by
 simp only[ZtL,Rep]
 exact⟨by simp,.inl trivial,⟨by omega,h.1,h.2.1,h.2.2.1,h.2.2.2,by omega,by omega⟩⟩
def ZuE(l:List Int)(f:Nat):Nat:=l.foldl (fun f p=>f|||2 ^ p.toNat) f
def Nf.fromL(A:Nf)(p:Int):List Int:=if p=-1 then A.first else(A.fol[p.toNat]?).getD []
def Nf.hasAt(A:Nf)(q:Int)(c:Nat):Bool:=ZqV ((A.sets[q.toNat]?).getD zQ) c
def Nf.step1(A:Nf)(c:Nat)(f:Nat)(q:Int):Nat:=if A.hasAt q c then f|||2 ^ q.toNat else f
def Nf.stepM(A:Nf)(l:List Int)(c:Nat)(f:Nat):Nat:=l.foldl (fun f p=>(A.fromL p).foldl (A.step1 c) f) f
def Nf.step(A:Nf)(l:List Int)(c:Nat):List Int:=ZbZ (A.stepM l c 0)
def Nf.acc1(A:Nf)(p:Int):Bool:=if p=-1 then A.empty else(ZuE A.last 0).testBit p.toNat
def Nf.accepts(A:Nf)(l:List Int):Bool:=l.any A.acc1
def Nf.states(A:Nf)(l:List Int):Bool:=ZbC l (-2) A.top
theorem ZfI{A:Nf}{l:List Int}(h:A.states l=true):∀p∈l,-1≤p∧p≤A.top:=fun p hp=>by
 have:=(Zcm.1 h).2 p hp;omega
theorem ZpK:∀(l:List Int)(f i:Nat),(∀p∈l,0≤p)→((ZuE l f).testBit i=true↔f.testBit i=true∨(i:Int)∈l)
 | [],f,i,_=>by simp[ZuE]
 | p::l,f,i,h=>by
  have hp:=h p (by simp)
  show(ZuE l (f|||2 ^ p.toNat)).testBit i=true↔_
  rw[ZpK l _ i (fun p hp=>h p (by simp[hp]))]
  simp only[Nat.testBit_or,Bool.or_eq_true,Nat.testBit_two_pow,decide_eq_true_eq,List.mem_cons]
  have:p.toNat=i↔(i:Int)=p:=by omega
  rw[this,or_assoc]
theorem Zk1{A:Nf}{c:Nat}:∀(l:List Int)(f i:Nat),(∀p∈l,0≤p)→((l.foldl (A.step1 c) f).testBit i=true↔f.testBit i=true∨((i:Int)∈l∧A.hasAt i c=true))
 | [],f,i,_=>by simp
 | p::l,f,i,h=>by
  have hp:=h p (by simp)
  rw[List.foldl_cons,Zk1 l _ i (fun p hp=>h p (by simp[hp]))]
  have e:p.toNat=i↔(i:Int)=p:=by omega
  unfold Nf.step1
  by_cases hh:A.hasAt p c=true
  ·rw[if_pos hh]
   simp only[Nat.testBit_or,Bool.or_eq_true,Nat.testBit_two_pow,decide_eq_true_eq,List.mem_cons,e]
   constructor
   ·rintro((h1|h1)|h1)
    ·exact .inl h1
    ·exact .inr ⟨.inl h1,by rw[h1];exact hh⟩
    ·exact .inr ⟨.inr h1.1,h1.2⟩
   ·rintro(h1|⟨h1|h1,h2⟩)
    ·exact .inl (.inl h1)
    ·exact .inl (.inr h1)
    ·exact .inr ⟨h1,h2⟩
  ·rw[if_neg hh]
   constructor
   ·rintro(h1|h1)
    ·exact .inl h1
    ·exact .inr ⟨by simp[h1.1],h1.2⟩
   ·rintro(h1|⟨h1,h2⟩)
    ·exact .inl h1
    ·rcases List.mem_cons.1 h1 with h1|h1
     ·rw[h1]at h2;exact absurd h2 hh
     ·exact .inr ⟨h1,h2⟩
theorem ZfJ{A:Nf}(h:A.Ok)(p:Int):(A.fromL p).Pairwise (· < ·)∧∀x∈A.fromL p,-1 < x∧x≤A.top:=by
 unfold Nf.fromL
 split
 ·exact h.first
 ·cases hl:A.fol[p.toNat]? with
  | none=>exact⟨by simp,by simp⟩
  | some l=>exact h.fol l (List.mem_of_getElem? hl)
theorem ZhZ{A:Nf}(hA:A.Ok){c:Nat}:∀(l:List Int)(f i:Nat),((A.stepM l c f).testBit i=true↔f.testBit i=true∨((∃p∈l,(i:Int)∈A.fromL p)∧A.hasAt i c=true))
 | [],f,i=>by simp[Nf.stepM]
 | p::l,f,i=>by
  show(A.stepM l c ((A.fromL p).foldl (A.step1 c) f)).testBit i=true↔_
  rw[ZhZ hA l,Zk1 _ _ _ (fun x hx=>by have:=(ZfJ hA p).2 x hx;omega)]
  constructor
  ·rintro((h1|h1)|⟨⟨q,h1,h2⟩,h3⟩)
   ·exact .inl h1
   ·exact .inr ⟨⟨p,by simp,h1.1⟩,h1.2⟩
   ·exact .inr ⟨⟨q,by simp[h1],h2⟩,h3⟩
  ·rintro(h1|⟨⟨q,h1,h2⟩,h3⟩)
   ·exact .inl (.inl h1)
   ·rcases List.mem_cons.1 h1 with h1|h1
    ·subst h1;exact .inl (.inr ⟨h2,h3⟩)
    ·exact .inr ⟨⟨q,h1,h2⟩,h3⟩
theorem Zmc{A:Nf}(hA:A.Ok){l:List Int}{c:Nat}{x:Int}:x∈A.step l c↔0≤x∧(∃p∈l,x∈A.fromL p)∧A.hasAt x c=true:=by
 unfold Nf.step
 rw[ZqT]
 constructor
 ·rintro⟨i,h1,h2,rfl⟩
  have:=(ZhZ hA l 0 i).1 h2
  simp at this
  exact⟨by omega,this.1,this.2⟩
 ·rintro⟨h0,⟨p,h1,h2⟩,h3⟩
  have hb:=(ZfJ hA p).2 x h2
  have hn:=hA.n
  unfold Nf.top at hb
  refine⟨x.toNat,by omega,?_,by omega⟩
  rw[ZhZ hA]
  refine .inr ⟨⟨p,h1,?_⟩,?_⟩
  ·rw[show((x.toNat:Nat):Int)=x by omega];exact h2
  ·rw[show((x.toNat:Nat):Int)=x by omega];exact h3
theorem Zi9{A:Nf}(hA:A.Ok)(l:List Int)(c:Nat):A.states (A.step l c)=true:=by
 unfold Nf.states
 rw[Zcm]
 refine⟨Zhd _,fun x hx=>?_⟩
 obtain⟨h0,⟨p,_,h2⟩,_⟩:=(Zmc hA).1 hx
 have:=(ZfJ hA p).2 x h2
 omega
def Nf.next(A:Nf)(again:Bool)(l:List Int)(c:Nat):List Int:=if again then -1::A.step l c else A.step l c
def Nf.runL{S:Type}(A:Nf)(again:Bool)(st:S→Nat→List Int→S):List Nat→Nat→List Int→S→S
 | [],_,_,s=>s
 | c::bs,i,l,s=>A.runL again st bs (i+1) (A.next again l c) (st s (i+1) (A.next again l c))
theorem Znn{A:Nf}(hA:A.Ok)(again:Bool)(l:List Int)(c:Nat):A.states (A.next again l c)=true:=by
 unfold Nf.next
 have h:=Zi9 hA l c
 split
 ·unfold Nf.states at h ⊢
  rw[Zcm]at h ⊢
  refine⟨?_,fun x hx=>?_⟩
  ·rw[List.pairwise_cons]
   refine⟨fun x hx=>?_,h.1⟩
   obtain⟨h0,_⟩:=(Zmc hA).1 hx
   omega
  ·rcases List.mem_cons.1 hx with rfl|hx
   ·exact⟨by omega,by unfold Nf.top;omega⟩
   ·exact h.2 x hx
 ·exact h
def Nf.run(A:Nf)(b:List Nat)(l:List Int):List Int:=b.foldl (fun l c=>A.step l c) l
def Nf.matches(A:Nf)(b:List Nat):Bool:=A.accepts (A.run b [-1])
def Nf.search(A:Nf)(b:List Nat):List Int:=A.runL true (fun s n l=>if A.accepts l then s++[(n:Int)]else s) b 0 [-1] (if A.accepts [-1]then[0]else[])
theorem ZpL(A:Nf):∀(b:List Nat)(i:Nat)(l:List Int),A.runL false (fun _ _ l=>l) b i l l=A.run b l
 | [],i,l=>rfl
 | c::b,i,l=>by rw[Nf.runL,ZpL A b];rfl
theorem Zk2{A:Nf}(hA:A.Ok):∀(b:List Nat)(l:List Int),A.states l=true→A.states (A.run b l)=true
 | [],l,h=>h
 | c::b,l,h=>Zk2 hA b _ (Zi9 hA l c)
theorem ZlD(A:Nf):A.states [-1]=true:=by
 unfold Nf.states
 rw[Zcm]
 exact⟨by simp,fun x hx=>by rw[List.mem_singleton]at hx;subst hx;unfold Nf.top;omega⟩
def Nf.err(A:Nf)(l:List Int):Int:=if A.right=false then 171 else if A.states l=false then 172 else 0
def Nf.runE(A:Nf)(n:Nat):Int:=if A.right=false then 171 else if 4096 < n then 3 else 0
inductive Nf.Reach (A:Nf):Nat→Prop
 | first {p:Nat} (h:(p:Int)∈A.first):A.Reach p
 | fol {p q:Nat} {l:List Int} (h:A.Reach p) (hl:A.fol[p]?=some l) (hq:(q:Int)∈l):A.Reach q
end Go.Rx
namespace Go.Rx
open Go Go.Eng Go.RowKit
structure Bad (t:T):Prop where
 k:t.k≠0
 no:t.check≠0
structure Says (t:T)(len:Nat)(i:Int)(e:Int):Prop where
 one:t.wrong len i=e
 rg:Rg.wrong ⟨false,false,t⟩ len i=e
 all:ZuT [⟨false,false,t⟩] len i=e
structure Asks (k:Nat)(t:T)(len:Nat)(i e:Int):Prop where
 u6:Says t len i e
 zero:k≤1→Says t len 0 e
 no:e≠0
 len:len≤513
end Go.Rx
namespace Go.Rx
open Go Go.Eng Go.RowKit
end Go.Rx
namespace Go.Rx
open Go Go.Eng Go.RowKit
set_option maxRecDepth 100000
mutual
def T.er:T→T
 | .node k s0 s1 s2 s3 mn mx _ _ l=>.node k s0 s1 s2 s3 mn mx none 0 (erL l)
def erL:List T→List T
 | []=>[]
 | t::l=>t.er::erL l
end
theorem ZrR:∀l:List T,erL l=l.map T.er
 | []=>rfl
 | t::l=>by simp only[erL,List.map_cons,ZrR l]
@[simp] theorem Zwl (t:T):t.er.k=t.k:=by cases t;rfl
@[simp] theorem Zv7 (t:T):t.er.s0=t.s0:=by cases t;rfl
@[simp] theorem Zv8 (t:T):t.er.s1=t.s1:=by cases t;rfl
@[simp] theorem Zv9 (t:T):t.er.s2=t.s2:=by cases t;rfl
@[simp] theorem Zwa (t:T):t.er.s3=t.s3:=by cases t;rfl
@[simp] theorem Zwb (t:T):t.er.mn=t.mn:=by cases t;rfl
@[simp] theorem Zwc (t:T):t.er.mx=t.mx:=by cases t;rfl
@[simp] theorem Zvm (t:T):t.er.subs=t.subs.map T.er:=by cases t;simp only[T.er,T.subs,ZrR]
end Go.Rx
namespace Go.Rx
open Go Go.Eng Go.RowKit
abbrev Re:=Nat→Nat→Prop
def pow(R:Re):Nat→Re
 | 0=>fun i j=>i=j
 | n+1=>fun i j=>∃m,R i m∧pow R n m j
mutual
def T.M(s:List Nat):T→Re
 | .node k s0 s1 s2 s3 mn mx a c l=>fun i j=>
  if k=1 then i=j else if k=2 then j=i+1∧∃b,s[i]?=some b∧(T.node k s0 s1 s2 s3 mn mx a c l).hasB b=true
  else if k=3 then MC s l i j else if k=4 then MA s l i j
  else if k=5 then ∃n:Nat,mn.toNat≤n∧(mx=-1∨n≤mx.toNat)∧pow (MH s l) n i j
  else if k=6 then MH s l i j else False
def MC(s:List Nat):List T→Re
 | []=>fun i j=>i=j
 | t::l=>fun i j=>∃m,t.M s i m∧MC s l m j
def MA(s:List Nat):List T→Re
 | []=>fun _ _=>False
 | t::l=>fun i j=>t.M s i j∨MA s l i j
def MH(s:List Nat):List T→Re
 | []=>fun i j=>i=j
 | t::_=>t.M s
end
section
variable {s:List Nat}
end
def Fwd(R:Re):Prop:=∀i j,R i j→i≤j
def Sh(s s':List Nat)(R R':Re):Prop:=∀i j i',R i j→(∀p,i+p < j→s[i+p]?=s'[i'+p]?)→R' i' (i'+(j - i))
def Len(s:List Nat)(R:Re):Prop:=∀i j,R i j→i≤s.length→j≤s.length
structure Nice (s s':List Nat)(R R':Re):Prop where
 fwd:Fwd R
 sh:Sh s s' R R'
 len:Len s R
end Go.Rx
namespace Go.Rx
open Go Go.Eng Go.RowKit
set_option maxRecDepth 100000
end Go.Rx
namespace Go.Rx
open Go Go.Eng Go.RowKit
set_option maxRecDepth 100000
def ZuF(F n:Nat)(u:List Nat):List Nat:=(u.filter fun k:Nat=>decide ((k:Int) - F≤n)).map fun k=>k - F
end Go.Rx
namespace Go.Rx
open Go Go.Eng Go.RowKit
set_option maxRecDepth 100000
end Go.Rx
namespace Go.Rx
open Go Go.Eng Go.RowKit
set_option maxRecDepth 100000
end Go.Rx
namespace Go.Rx
open Go Go.Eng Go.RowKit
set_option maxRecDepth 100000
def ZgI(g:Nat→Bool)(n:Nat):List Nat:=(List.range n).map fun j=>if g j then 1 else 0
theorem ZeX(g:Nat→Bool)(n:Nat):(ZgI g n).length=n:=by simp[ZgI]
theorem ZjX(g:Nat→Bool){n j:Nat}(h:j < n):(ZgI g n)[j]?=some (if g j then 1 else 0):=by simp[ZgI,h]
theorem Zsy(g:Nat→Bool){n j:Nat}(h:j < n)(v:Bool):(ZgI g n).set j (if v then 1 else 0)=ZgI (fun x=>if x=j then v else g x) n:=by
 refine List.ext_getElem? fun i=>?_
 rw[List.getElem?_set]
 by_cases hi:i < n
 ·rw[ZjX _ hi,ZeX]
  by_cases e:j=i
  ·subst e;rw[ZjX _ hi];simp[h]
  ·rw[if_neg e,ZjX _ hi,if_neg (Ne.symm e)]
 ·rw[List.getElem?_eq_none_iff.2 (by rw[ZeX];omega),List.getElem?_eq_none_iff.2 (by rw[ZeX];omega),ZeX]
  by_cases e:j=i
  ·subst e;exact absurd h hi
  ·rw[if_neg e]
theorem ZfK{g h:Nat→Bool}{n:Nat}(e:∀j,j < n→g j=h j):ZgI g n=ZgI h n:=by
 unfold ZgI
 refine List.map_congr_left fun j hj=>?_
 rw[e j (List.mem_range.1 hj)]
theorem Zk3{l:List Value}{i:Nat}{v:Value}(h:i < l.length):Zan l i [v]=l.set i v:=by
 refine List.ext_getElem? fun j=>?_
 unfold Zan
 simp only[List.length_cons,List.length_nil]
 rw[List.getElem?_set]
 by_cases h1:j < i
 ·rw[List.append_assoc,List.getElem?_append_left (by rw[List.length_take];omega),List.getElem?_take,if_pos h1,if_neg (by omega)]
 ·rw[List.append_assoc,List.getElem?_append_right (by rw[List.length_take];omega),List.length_take,Nat.min_eq_left (by omega)]
  by_cases h2:j=i
  ·subst h2;simp[h]
  ·rw[List.getElem?_append_right (by simp;omega),if_neg (by omega),List.getElem?_drop]
   congr 1
   simp;omega
end Go.Rx
namespace Go.Rx
open Go Go.Eng Go.RowKit
set_option maxRecDepth 100000
def Zod(q:QS)(c:Nat):Int:=if ZqV q c then 1 else 0
def Zbz(q:QS):List Value:=(List.range 256).map fun c=>Value.int .i64 (Zod q c)
theorem Zbe(q:QS):(Zbz q).length=256:=by simp[Zbz]
theorem ZfL(q:QS){c:Nat}(h:c < 256):(Zbz q)[c]?=some (.int .i64 (Zod q c)):=by simp[Zbz,h]
theorem Zk4(q:QS):∀u∈Zbz q,u.oneCell'=true:=by
 intro u hu
 obtain⟨c,_,rfl⟩:=List.mem_map.1 hu
 rfl
def ZgJ(q:QS)(j:Nat):Int:=if j=0 then q.1 else if j=1 then q.2.1 else if j=2 then q.2.2.1 else q.2.2.2
theorem Zno(q:QS)(c:Nat):ZqV q c=(ZgJ q (c / 64)).toNat.testBit (c % 64):=rfl
theorem Zmd{q:QS}(h:QOk q)(j:Nat):0≤ZgJ q j∧ZgJ q j < 18446744073709551616:=by
 obtain⟨h0,h1,h2,h3⟩:=h
 unfold ZgJ
 split
 ·exact h0
 ·split
  ·exact h1
  ·split
   ·exact h2
   ·exact h3
theorem ZtM(n i:Nat):n / 2 ^ i % 2=if n.testBit i then 1 else 0:=by
 rw[Nat.testBit_eq_decide_div_mod_eq]
 have:=Nat.mod_two_eq_zero_or_one (n / 2 ^ i)
 by_cases h:n / 2 ^ i % 2=1
 ·simp[h]
 ·have h0:n / 2 ^ i % 2=0:=by omega
  simp[h0]
theorem ZtN{q r:QS}(hq:QOk q)(hr:QOk r)(h:∀c,c < 256→ZqV q c=ZqV r c):q=r:=by
 have key:∀j,j < 4→ZgJ q j=ZgJ r j:=fun j hj=>by
  have a:=Zmd hq j
  have b:=Zmd hr j
  have e:(ZgJ q j).toNat=(ZgJ r j).toNat:=by
   apply Nat.eq_of_testBit_eq
   intro i
   by_cases hi:i < 64
   ·have:=h (64*j+i) (by omega)
    rw[Zno,Zno,show(64*j+i) / 64=j by omega,show(64*j+i) % 64=i by omega]at this
    exact this
   ·have p:2 ^ 64≤2 ^ i:=Nat.pow_le_pow_right (by omega) (by omega)
    rw[Nat.testBit_lt_two_pow (by omega),Nat.testBit_lt_two_pow (by omega)]
  omega
 obtain⟨q0,q1,q2,q3⟩:=q
 obtain⟨r0,r1,r2,r3⟩:=r
 have h0:=key 0 (by omega)
 have h1:=key 1 (by omega)
 have h2:=key 2 (by omega)
 have h3:=key 3 (by omega)
 simp only[ZgJ]at h0 h1 h2 h3
 simp at h0 h1 h2 h3
 rw[h0,h1,h2,h3]
theorem ZoJ{q r:QS}(hq:QOk q)(hr:QOk r)(h:Zbz q=Zbz r):q=r:=by
 refine ZtN hq hr fun c hc=>?_
 have h1:=ZfL q hc
 rw[h,ZfL r hc]at h1
 simp only[Option.some.injEq,Value.int.injEq,true_and,Zod]at h1
 cases h2:ZqV q c <;> cases h3:ZqV r c <;> rw[h2,h3]at h1 <;> simp at h1 ⊢
theorem ZvJ:QOk zQ:=by unfold QOk zQ;simp
theorem ZtO(c:Nat):ZqV zQ c=false:=by
 rw[Zno]
 have:ZgJ zQ (c / 64)=0:=by unfold ZgJ zQ;simp
 rw[this];simp
def Zs8(q:QS):Nat→Int
 | 0=>0
 | n+1=>Zs8 q n+Zod q n
theorem ZpM(q:QS)(c:Nat):0≤Zod q c∧Zod q c≤1:=by unfold Zod;split <;> omega
theorem ZpN(q:QS):∀n:Nat,0≤Zs8 q n∧Zs8 q n≤n
 | 0=>by simp[Zs8]
 | n+1=>by have:=ZpN q n;have:=ZpM q n;simp only[Zs8];omega
theorem Znp(q:QS):∀n:Nat,Zs8 q n=0↔∀c,c < n→ZqV q c=false
 | 0=>by simp[Zs8]
 | n+1=>by
  have h1:=ZpN q n
  have h2:=ZpM q n
  have ih:=Znp q n
  have hb:Zod q n=0↔ZqV q n=false:=by unfold Zod;cases ZqV q n <;> simp
  simp only[Zs8]
  constructor
  ·intro h c hc
   by_cases e:c=n
   ·subst e;exact hb.1 (by omega)
   ·exact ih.1 (by omega) c (by omega)
  ·intro h
   have a:=ih.2 fun c hc=>h c (by omega)
   have b:=hb.2 (h n (by omega))
   omega
theorem Znq{q:QS}(hq:QOk q):Zs8 q 256=0↔q=zQ:=by
 rw[Znp]
 constructor
 ·intro h
  exact ZtN hq ZvJ fun c hc=>by rw[h c hc,ZtO]
 ·rintro rfl c _;exact ZtO c
theorem ZpO{l:List Int}{lo hi:Int}(h:ZbC l lo hi=true){k:Nat}{v:Int}(hv:l[k]?=some v):lo < v∧v≤hi∧∀u,0 < k→l[k - 1]?=some u→u < v:=by
 obtain⟨hp,hb⟩:=Zcm.1 h
 have hb:=hb v (List.mem_of_getElem? hv)
 refine⟨hb.1,hb.2,fun u hk hu=>?_⟩
 obtain⟨h1,e1⟩:=List.getElem?_eq_some_iff.1 hv
 obtain⟨h2,e2⟩:=List.getElem?_eq_some_iff.1 hu
 have:=List.pairwise_iff_getElem.1 hp (k - 1) k h2 h1 (by omega)
 rw[e1,e2]at this;exact this
theorem ZqW{l:List Int}{lo hi:Int}{k:Nat}{v:Int}(hv:l[k]?=some v)(h:ZbC (l.take k) lo hi=true)(h1:lo < v)(h2:v≤hi)(h3:∀u,0 < k→l[k - 1]?=some u→u < v):ZbC (l.take (k+1)) lo hi=true:=by
 obtain⟨hp,hb⟩:=Zcm.1 h
 have e:l.take (k+1)=l.take k++[v]:=by rw[List.take_add_one,hv];rfl
 rw[e,Zcm,List.pairwise_append]
 refine⟨⟨hp,by simp,fun x hx y hy=>?_⟩,fun x hx=>?_⟩
 ·rw[List.mem_singleton]at hy;subst hy
  obtain⟨i,hi'⟩:=List.getElem?_of_mem hx
  have u9:i < k:=by have:=(List.getElem?_eq_some_iff.1 hi').1;simp at this;omega
  have lQ:=(List.getElem?_eq_some_iff.1 hv).1
  obtain⟨u,hu⟩:∃u,l[k - 1]?=some u:=⟨_,List.getElem?_eq_getElem (by omega)⟩
  have vb:=h3 u (by omega) hu
  by_cases e2:i=k - 1
  ·subst e2
   rw[List.getElem?_take,if_pos u9]at hi'
   rw[hi']at hu;cases hu;exact vb
  ·have hu':(l.take k)[k - 1]?=some u:=by rw[List.getElem?_take,if_pos (by omega)];exact hu
   obtain⟨a1,b1⟩:=List.getElem?_eq_some_iff.1 hi'
   obtain⟨a2,b2⟩:=List.getElem?_eq_some_iff.1 hu'
   have:=List.pairwise_iff_getElem.1 hp i (k - 1) a1 a2 (by omega)
   rw[b1,b2]at this;omega
 ·rcases List.mem_append.1 hx with hx|hx
  ·exact hb x hx
  ·rw[List.mem_singleton]at hx;subst hx;exact⟨h1,h2⟩
def Zgk(g:Nat→Bool)(n:Nat):List Int:=((List.range n).filter g).map fun i:Nat=>(i:Int)
theorem ZoK(g:Nat→Bool)(n:Nat):Zgk g (n+1)=Zgk g n++if g n then[(n:Int)]else[]:=by
 unfold Zgk
 rw[List.range_succ,List.filter_append,List.map_append]
 congr 1
 rw[List.filter_cons]
 cases g n <;> rfl
theorem ZqX(g:Nat→Bool)(n:Nat):(Zgk g n).length≤n:=by
 unfold Zgk
 rw[List.length_map]
 exact Nat.le_trans (List.length_filter_le _ _) (by simp)
theorem ZqY{g:Nat→Bool}{n:Nat}{x:Int}:x∈Zgk g n↔∃i:Nat,i < n∧g i=true∧x=i:=by
 unfold Zgk
 simp only[List.mem_map,List.mem_filter,List.mem_range]
 constructor
 ·rintro⟨i,⟨h1,h2⟩,rfl⟩;exact⟨i,h1,h2,rfl⟩
 ·rintro⟨i,h1,h2,rfl⟩;exact⟨i,⟨h1,h2⟩,rfl⟩
theorem ZlE(g:Nat→Bool)(n:Nat):(Zgk g n).Pairwise (· < ·):=by
 unfold Zgk
 rw[List.pairwise_map]
 exact(List.pairwise_lt_range.filter _).imp fun h=>by omega
theorem Zja:∀(l l':List Int),l.Pairwise (· < ·)→l'.Pairwise (· < ·)→(∀x,x∈l↔x∈l')→l=l'
 | [],[],_,_,_=>rfl
 | [],y::l',_,_,h=>by have:=(h y).2 (by simp);simp at this
 | x::l,[],_,_,h=>by have:=(h x).1 (by simp);simp at this
 | x::l,y::l',h1,h2,h=>by
  rw[List.pairwise_cons]at h1 h2
  have e:x=y:=by
   have a:=(h x).1 (by simp)
   have b:=(h y).2 (by simp)
   rcases List.mem_cons.1 a with a|a
   ·exact a
   ·rcases List.mem_cons.1 b with b|b
    ·exact b.symm
    ·have:=h1.1 y b;have:=h2.1 x a;omega
  subst e
  rw[Zja l l' h1.2 h2.2 fun z=>?_]
  constructor
  ·intro hz
   rcases List.mem_cons.1 ((h z).1 (by simp[hz]))with e|e
   ·subst e;have:=h1.1 z hz;omega
   ·exact e
  ·intro hz
   rcases List.mem_cons.1 ((h z).2 (by simp[hz]))with e|e
   ·subst e;have:=h2.1 z hz;omega
   ·exact e
noncomputable def Zkr(A:Nf)(l:List Int)(c i k:Nat):Nat→Bool:=open Classical in fun x=>decide (((∃p∈l.take i,(x:Int)∈A.fromL p)∨∃p,l[i]?=some p∧(x:Int)∈(A.fromL p).take k)∧A.hasAt x c=true)
theorem Zdq{A:Nf}{l:List Int}{c i k x:Nat}:Zkr A l c i k x=true↔(((∃p∈l.take i,(x:Int)∈A.fromL p)∨∃p,l[i]?=some p∧(x:Int)∈(A.fromL p).take k)∧A.hasAt x c=true):=by unfold Zkr;simp
theorem ZoL(A:Nf)(l:List Int)(c n:Nat):ZgI (fun _=>false) n=ZgI (Zkr A l c 0 0) n:=by
 refine ZfK fun x hx=>?_
 rw[Bool.eq_iff_iff,Zdq]
 simp
theorem ZqZ{A:Nf}{l:List Int}{c i n:Nat}{p:Int}(hp:l[i]?=some p):ZgI (Zkr A l c i (A.fromL p).length) n=ZgI (Zkr A l c (i+1) 0) n:=by
 refine ZfK fun x hx=>?_
 rw[Bool.eq_iff_iff,Zdq,Zdq]
 have e:l.take (i+1)=l.take i++[p]:=by rw[List.take_add_one,hp];rfl
 rw[e]
 simp only[List.mem_append,List.mem_singleton,List.take_zero,List.not_mem_nil,and_false,exists_false,or_false]
 constructor
 ·rintro⟨⟨r,h1,h2⟩|⟨r,h1,h2⟩,h3⟩
  ·exact⟨⟨r,.inl h1,h2⟩,h3⟩
  ·rw[hp]at h1;cases h1
   rw[List.take_length]at h2
   exact⟨⟨p,.inr rfl,h2⟩,h3⟩
 ·rintro⟨⟨r,h1|h1,h2⟩,h3⟩
  ·exact⟨.inl ⟨r,h1,h2⟩,h3⟩
  ·subst h1
   exact⟨.inr ⟨r,hp,by rw[List.take_length];exact h2⟩,h3⟩
theorem ZpP{A:Nf}{l:List Int}{c i k n q:Nat}{p:Int}(hp:l[i]?=some p)(hk:(A.fromL p)[k]?=some (q:Int))(hq:q < n)(hh:A.hasAt q c=true):(ZgI (Zkr A l c i k) n).set q 1=ZgI (Zkr A l c i (k+1)) n:=by
 have e1:=Zsy (Zkr A l c i k) hq true
 rw[if_pos rfl]at e1
 rw[e1]
 refine ZfK fun x hx=>?_
 have e:(A.fromL p).take (k+1)=(A.fromL p).take k++[(q:Int)]:=by rw[List.take_add_one,hk];rfl
 rw[Bool.eq_iff_iff,Zdq]
 by_cases ex:x=q
 ·subst ex
  simp only[if_true,true_iff]
  exact⟨.inr ⟨p,hp,by rw[e];simp⟩,hh⟩
 ·rw[if_neg ex,Zdq]
  have:∀r,l[i]?=some r→((x:Int)∈(A.fromL r).take (k+1)↔(x:Int)∈(A.fromL r).take k):=fun r hr=>by
   rw[hp]at hr;cases hr
   rw[e];simp;omega
  constructor
  ·rintro⟨h1|⟨r,h1,h2⟩,h3⟩
   ·exact⟨.inl h1,h3⟩
   ·exact⟨.inr ⟨r,h1,(this r h1).2 h2⟩,h3⟩
  ·rintro⟨h1|⟨r,h1,h2⟩,h3⟩
   ·exact⟨.inl h1,h3⟩
   ·exact⟨.inr ⟨r,h1,(this r h1).1 h2⟩,h3⟩
theorem Znr{A:Nf}{l:List Int}{c i k n q:Nat}{p:Int}(hp:l[i]?=some p)(hk:(A.fromL p)[k]?=some (q:Int))(hh:A.hasAt q c=false):ZgI (Zkr A l c i k) n=ZgI (Zkr A l c i (k+1)) n:=by
 refine ZfK fun x hx=>?_
 have e:(A.fromL p).take (k+1)=(A.fromL p).take k++[(q:Int)]:=by rw[List.take_add_one,hk];rfl
 rw[Bool.eq_iff_iff,Zdq,Zdq]
 have key:A.hasAt x c=true→∀r,l[i]?=some r→((x:Int)∈(A.fromL r).take (k+1)↔(x:Int)∈(A.fromL r).take k):=fun hx r hr=>by
  rw[hp]at hr;cases hr
  rw[e]
  have:(x:Int)≠q:=fun ee=>by rw[ee,hh]at hx;cases hx
  simp[this]
 constructor
 ·rintro⟨h1|⟨r,h1,h2⟩,h3⟩
  ·exact⟨.inl h1,h3⟩
  ·exact⟨.inr ⟨r,h1,(key h3 r h1).2 h2⟩,h3⟩
 ·rintro⟨h1|⟨r,h1,h2⟩,h3⟩
  ·exact⟨.inl h1,h3⟩
  ·exact⟨.inr ⟨r,h1,(key h3 r h1).1 h2⟩,h3⟩
theorem Zsz{A:Nf}(hA:A.Ok)(l:List Int)(c:Nat):Zgk (Zkr A l c l.length 0) A.sets.length=A.step l c:=by
 refine Zja _ _ (ZlE _ _) (Zhd _) fun x=>?_
 rw[ZqY,Zmc hA]
 constructor
 ·rintro⟨i,h1,h2,rfl⟩
  obtain⟨⟨r,h3,h4⟩|⟨r,h3,h4⟩,h5⟩:=Zdq.1 h2
  ·rw[List.take_length]at h3;exact⟨by omega,⟨r,h3,h4⟩,h5⟩
  ·rw[List.take_zero]at h4;cases h4
 ·rintro⟨h0,⟨p,h1,h2⟩,h3⟩
  obtain⟨i,rfl⟩:∃i:Nat,x=i:=⟨x.toNat,by omega⟩
  refine⟨i,?_,Zdq.2 ⟨.inl ⟨p,by rw[List.take_length];exact h1,h2⟩,h3⟩,rfl⟩
  have hb:(i:Int)≤A.top:=by
   unfold Nf.fromL at h2
   split at h2
   ·exact(hA.first.2 _ h2).2
   ·cases hl:A.fol[p.toNat]? with
    | none=>rw[hl]at h2;cases h2
    | some r=>rw[hl]at h2;exact((hA.fol r (List.mem_of_getElem? hl)).2 _ h2).2
  unfold Nf.top at hb;omega
end Go.Rx
namespace Go.Rx
open Go Go.Eng Go.RowKit
theorem ZsA{A:Nf}(hA:A.Ok){q:Int}(h:0≤q):A.acc1 q=true↔q∈A.last:=by
 unfold Nf.acc1
 rw[if_neg (by omega),ZpK _ _ _ (fun p hp=>by have:=(hA.last.2 p hp).1;omega),show((q.toNat:Nat):Int)=q by omega]
 simp
end Go.Rx
namespace Go.Rx
open Go Go.Eng Go.RowKit
structure Seek (A:Nf)(todo:List Int)(f:Nat):Prop where
 rng:∀x∈todo,0≤x∧x≤A.top∧A.Reach x.toNat
 in_:∀i,f.testBit i=true→A.Reach i
 first:∀x∈A.first,x∈todo∨f.testBit x.toNat=true
 fol:∀(i:Nat)(l:List Int),f.testBit i=true→A.fol[i]?=some l→∀x∈l,x∈todo∨f.testBit x.toNat=true
theorem Seek.start{A:Nf}(hA:A.Ok):Seek A A.first 0:=by
 refine⟨fun x hx=>?_,fun i hi=>by simp at hi,fun x hx=>.inl hx,fun i l hi=>by simp at hi⟩
 have:=hA.first.2 x hx
 exact⟨by omega,this.2,.first (by rw[show((x.toNat:Nat):Int)=x by omega];exact hx)⟩
theorem Seek.skip{A:Nf}{x:Int}{todo:List Int}{f:Nat}(h:Seek A (x::todo) f)(hx:f.testBit x.toNat=true):Seek A todo f:=by
 refine⟨fun y hy=>h.rng y (by simp[hy]),h.in_,fun y hy=>?_,fun i l hi hl y hy=>?_⟩
 ·rcases h.first y hy with h1|h1
  ·rcases List.mem_cons.1 h1 with rfl|h1
   ·exact .inr hx
   ·exact .inl h1
  ·exact .inr h1
 ·rcases h.fol i l hi hl y hy with h1|h1
  ·rcases List.mem_cons.1 h1 with rfl|h1
   ·exact .inr hx
   ·exact .inl h1
  ·exact .inr h1
theorem Seek.take{A:Nf}(hA:A.Ok){x:Int}{todo l:List Int}{f:Nat}(h:Seek A (x::todo) f)(hl:A.fol[x.toNat]?=some l):Seek A (todo++l) (f|||2 ^ x.toNat):=by
 have hx:=h.rng x (by simp)
 have ic:∀i,(f|||2 ^ x.toNat).testBit i=true↔f.testBit i=true∨i=x.toNat:=fun i=>by
  simp only[Nat.testBit_or,Bool.or_eq_true,Nat.testBit_two_pow,decide_eq_true_eq]
  exact⟨fun h=>h.imp_right Eq.symm,fun h=>h.imp_right Eq.symm⟩
 refine⟨fun y hy=>?_,fun i hi=>?_,fun y hy=>?_,fun i r hi hr y hy=>?_⟩
 ·rcases List.mem_append.1 hy with hy|hy
  ·exact h.rng y (by simp[hy])
  ·have hb:=(hA.fol l (List.mem_of_getElem? hl)).2 y hy
   exact⟨by omega,hb.2,.fol hx.2.2 hl (by rw[show((y.toNat:Nat):Int)=y by omega];exact hy)⟩
 ·rcases(ic i).1 hi with h1|rfl
  ·exact h.in_ i h1
  ·exact hx.2.2
 ·rcases h.first y hy with h1|h1
  ·rcases List.mem_cons.1 h1 with rfl|h1
   ·exact .inr ((ic _).2 (.inr rfl))
   ·exact .inl (by simp[h1])
  ·exact .inr ((ic _).2 (.inl h1))
 ·rcases(ic i).1 hi with h1|rfl
  ·rcases h.fol i r h1 hr y hy with h2|h2
   ·rcases List.mem_cons.1 h2 with rfl|h2
    ·exact .inr ((ic _).2 (.inr rfl))
    ·exact .inl (by simp[h2])
   ·exact .inr ((ic _).2 (.inl h2))
  ·rw[hl]at hr;cases hr
   exact .inl (by simp[hy])
theorem Seek.done{A:Nf}(hA:A.Ok){f:Nat}(h:Seek A [] f)(i:Nat):f.testBit i=true↔A.Reach i:=by
 refine⟨h.in_ i,fun hr=>?_⟩
 induction hr with
 | first hp=>
  rcases h.first _ hp with h1|h1
  ·simp at h1
  ·simpa using h1
 | fol _ hl hq ih=>
  rcases h.fol _ _ ih hl _ hq with h1|h1
  ·simp at h1
  ·simpa using h1
end Go.Rx
namespace Go.Rx
open Go Go.Eng Go.RowKit
def Src(l:List T)(s:Ms)(r:Pt×Ms):Prop:=∀q∈r.2.sets,q∈s.sets∨∃x∈l,x.k=2∧q=(x.s0,x.s1,x.s2,x.s3)
theorem Src.refl(l:List T)(s:Ms)(p:Pt):Src l s (p,s):=fun q hq=>.inl hq
theorem Src.mono{l l':List T}{s:Ms}{r:Pt×Ms}(h:Src l s r)(hl:∀x∈l,x∈l'):Src l' s r:=fun q hq=>(h q hq).imp_right fun⟨x,h1,h2⟩=>⟨x,hl x h1,h2⟩
theorem Src.trans{l:List T}{s s1:Ms}{p:Pt}{r:Pt×Ms}(h:Src l s (p,s1))(k:Src l s1 r):Src l s r:=fun q hq=>by
 rcases k q hq with h1|h1
 ·exact h q h1
 ·exact .inr h1
end Go.Rx
