/- Part of the proof: conditions and contracts of functions of this program. No condition of its own. -/
import Derived.Test.YtgclajkldphoaaaPEnv
import Derived.Test.YtgclajkldphoaaaPVC
import Derived.Test.YtgclajkldphoaaaMr
import Derived.Test.YtgclajkldphoaaaPVD
import Derived.Test.YtgclajkldphoaaaMc
import Derived.Test.YtgclajkldphoaaaRows
set_option linter.unusedVariables false
namespace Go.Proofs.Ytgclajkldphoaaa
open Go Go.Eng Go.Proofs Go.RowKit
open Go.Value (int slice agg bool string tuple func)
open Go.IntKind (u8 u64 i64)
set_option maxRecDepth 100000
noncomputable def Zoe:Env:={ EB with
 frzNew:=[2] }
def Ziv(aE aJ aH aI p1:Int)(m:Mem)(R:RT):Prop:=
 ∀(b:Nat)(m':Mem),Mem.le m m'->Mem.reads m' b 0 [int u64 aE,int u64 aJ,int u64 aH,int u64 aI]->(0:Int)<=(6:Int)/\Zag (Int.fdiv p1 ((2:Int) ^ 6)) 4/\Eng.Zqm [int u64 aE,int u64 aJ,
 int u64 aH,int u64 aI] (0+Int.toNat (Int.fdiv p1 ((2:Int) ^ 6))*1) λ(v:Value)=>chk (ZaS u64 v&&true) ((0:Int)<=IntKind.wrap u8 (↑(BitVec.toNat (BitVec.ofInt 8 p1&&&BitVec.ofInt 8 (63:Int)))
 : Int)/\∃(m'':Mem),Mem.le m m''/\Mem.le m'' m'/\R (bool (IntKind.wrap u64 (↑(BitVec.toNat (BitVec.ofInt 64 (Int.fdiv (RowKit.intOf v) ((2:Int) ^ min (Int.toNat (IntKind.wrap u8 (↑(BitVec.toNat (BitVec.ofInt 8
 p1&&&BitVec.ofInt 8 (63:Int))):Int))) 64))&&&BitVec.ofInt 64 (1:Int))):Int) == (1:Int))) m'' [])
theorem ZmS(aE aJ aH aI p1:Int)(m:Mem)(R:RT)(h:Ziv aE aJ aH aI p1 m R):CX Try.prog 92 #[.agg #[.int .u64 aE,.int .u64 aJ,.int .u64 aH,.int .u64 aI],.int .u8 p1] m [] R:=
 Zak (E:=Zoe) ZaR mix Try.func92 [.v (.agg #[.int .u64 aE,.int .u64 aJ,.int .u64 aH,.int .u64 aI]),.v (.int .u8 p1)] [] (by kernel_rfl) (Eq.mp (by kernel_rfl) h)
noncomputable def Zde:Env:={ EB with
 loops:=(λi=>bif Nat.beq i 4 then⟨[(13,.int .i64)],[],[],false⟩ else⟨[],[],[],false⟩)
 dr:=(λi=>bif Nat.beq i 6 then[⟨0,[],[],none,[],[]⟩,⟨1,[],[],none,[],[]⟩,⟨2,[],[],none,[0,1],[]⟩,⟨3,[],[],none,[0,1,2],[]⟩,⟨4,[],[],none,[],[]⟩,⟨5,[],[],none,[],[]⟩,⟨6,[],[],none,[4,5],[]⟩,⟨7,[],[],none,[4,5,6],[]⟩,⟨8,[],[],none,[0,1,2,3,4,5,6,7],[]⟩]else[]) }
def ZbQ(p0a:Option Addr)(p0n p0c:Nat)(p1a:Option Addr)(p1n p1c:Nat)(m:Mem)(R:RT):Prop:=
 br (!(↑p0n:Int) == (↑p1n:Int)) (∃(m'':Mem),Mem.le m m''/\Mem.le m'' m/\R (bool false) m'' []) (∃(I:IT),(∃(n:Nat),I [int i64 0] [] [] m n)/\∀(n:Int)(m':Mem)(n_1:Nat),Mem.le m m'->I [int i64
 n] [] [] m' n_1->br (decide (n < (↑p0n:Int))) (∃(b:Nat),∃(o:Nat),p0a=some (Addr.mk b o none)/\Zag n p0n/\∃(v:Value),m' b (o+Int.toNat n*1)=some v/\∃(b:Nat),∃(o:Nat),p1a=some
 (Addr.mk b o none)/\Zag n p1n/\∃(v_1:Value),m' b (o+Int.toNat n*1)=some v_1/\chk (ZaS i64 v&&ZaS i64 v_1) (br (!RowKit.intOf v == RowKit.intOf v_1) (∃(m'':Mem),Mem.le m m''/\Mem.le m'' m'/\R
 (bool false) m'' []) (∃(n':Nat),n' < n_1/\I [int i64 (IntKind.wrap i64 (n+(1:Int)))] [] [] m' n'))) (∃(m'':Mem),Mem.le m m''/\Mem.le m'' m'/\R (bool true) m'' []))
theorem Zc6(p0a:Option Addr)(p0n p0c:Nat)(p1a:Option Addr)(p1n p1c:Nat)(m:Mem)(R:RT)(h:ZbQ p0a p0n p0c p1a p1n p1c m R):CX Try.prog 35 #[.slice p0a p0n p0c,.slice p1a p1n p1c] m [] R:=
 Zak (E:=Zde) ZaR mix Try.func35 [.v (.slice p0a p0n p0c),.v (.slice p1a p1n p1c)] [] (by kernel_rfl) (Eq.mp (by kernel_rfl) h)
end Go.Proofs.Ytgclajkldphoaaa
set_option linter.unusedVariables false
set_option linter.unusedSimpArgs false
namespace Go.Proofs.Ytgclajkldphoaaa
open Go Go.Eng Go.Rx Go.Proofs Go.RowKit
set_option maxRecDepth 100000
theorem ZuW(i:Nat):Int.tdiv (i:Int) 64=((i / 64:Nat):Int):=rfl
theorem Zto(i:Nat):Int.tmod (i:Int) 64=((i % 64:Nat):Int):=rfl
theorem sh6:∀c:Nat,c < 256->IntKind.u8.wrap ((BitVec.ofInt 8 (c:Int)&&&BitVec.ofInt 8 63).toNat:Int)=((c % 64:Nat):Int)/\Int.fdiv (c:Int) (2 ^ 6)=((c / 64:Nat):Int):=by decide
theorem Ztp(t:T)(c:Nat)(hc:c < 256)(m:Mem)(hr:Rep m t):CX Try.prog 92 #[.agg #[.int .u64 t.s0,.int .u64 t.s1,.int .u64 t.s2,.int .u64 t.s3],.int .u8 c] m [] (Ret (.bool (t.hasB c))):=by
 apply ZmS
 unfold Ziv
 intro b m1 aU _
 obtain⟨h1,h2⟩:=sh6 c hc
 simp only[h1,h2,Int.toNat_natCast,Nat.zero_add,Nat.mul_one]
 have bL:=ZsV hr
 have hw:∃w:Int,[Value.int .u64 t.s0,.int .u64 t.s1,.int .u64 t.s2,.int .u64 t.s3][c / 64]?=some (.int .u64 w)/\0<=w/\w < 18446744073709551616/\t.hasB c=w.toNat.testBit (c % 64):=by
  have:c / 64=0\/c / 64=1\/c / 64=2\/c / 64=3:=by omega
  unfold T.hasB
  rcases this with e|e|e|e
  ·exact⟨t.s0,by rw[e];rfl,bL.s0.1,bL.s0.2,by simp[e]⟩
  ·exact⟨t.s1,by rw[e];rfl,bL.s1.1,bL.s1.2,by simp[e]⟩
  ·exact⟨t.s2,by rw[e];rfl,bL.s2.1,bL.s2.2,by simp[e]⟩
  ·exact⟨t.s3,by rw[e];rfl,bL.s3.1,bL.s3.2,by simp[e]⟩
 obtain⟨w,dY,dQ,mN,nM⟩:=hw
 refine⟨by omega,⟨by omega,by omega⟩,Zao dY (Zaa rfl ⟨by omega,Zai aU ?_⟩)⟩
 rw[nM,Nat.min_eq_left (by omega)]
 obtain⟨n,rfl⟩:∃n:Nat,w=n:=⟨w.toNat,by omega⟩
 show Value.bool (IntKind.u64.wrap _ == 1)=_
 simp only[intOf]
 rw[Zrx _ _ (by omega)]
 simp
end Go.Proofs.Ytgclajkldphoaaa
set_option linter.unusedVariables false
set_option linter.unusedSimpArgs false
namespace Go.Proofs.Ytgclajkldphoaaa
open Go Go.Eng Go.Proofs Go.RowKit Go.Rx
end Go.Proofs.Ytgclajkldphoaaa
set_option linter.unusedVariables false
set_option linter.unusedSimpArgs false
set_option linter.unusedSectionVars false
namespace Go.Proofs.Ytgclajkldphoaaa
open Go Go.Eng Go.Rx Go.Proofs Go.RowKit
set_option maxRecDepth 100000
abbrev txV(a:Option Addr)(s:List Nat)(c:Nat)(back:Bool):Value:=.agg #[.slice a s.length c,.bool back]
def IH(a:Option Addr)(s:List Nat)(c:Nat)(back:Bool)(t:T):Prop:=∀x∈t.subs,∀(f:Nat)(m:Mem),f < Zv3->Rep m x->Byt m a s->CX Try.prog 64 #[txV a s c back,x.v,plV f] m [] (Ret (plV (x.lead s back f)))
section
variable (t:T) (a:Option Addr) (s:List Nat) (c:Nat) (back:Bool) (f:Nat) (m:Mem) (hr:Rep m t) (hb:Byt m a s) (hs:s.length<=512) (ih:IH a s c back t) (hf:f < Zv3)
include hr hb hs ih hf
end
end Go.Proofs.Ytgclajkldphoaaa
set_option linter.unusedVariables false
set_option linter.unusedSimpArgs false
set_option linter.unusedSectionVars false
namespace Go.Proofs.Ytgclajkldphoaaa
open Go Go.Eng Go.Rx Go.Proofs Go.RowKit
set_option maxRecDepth 100000
def Zq3(l:List Nat):List Value:=l.map λi:Nat=>.int .i64 (i:Nat)
end Go.Proofs.Ytgclajkldphoaaa
set_option linter.unusedVariables false
set_option linter.unusedSimpArgs false
set_option linter.unusedSectionVars false
namespace Go.Proofs.Ytgclajkldphoaaa
open Go Go.Eng Go.Rx Go.Proofs Go.RowKit
set_option maxRecDepth 100000
theorem Rgs.get{m:Mem}{a l}(h:Rgs m a l){i:Nat}{r:Rg}(hi:l[i]?=some r):(∃b o,a=some ⟨b,o,none⟩/\m.reads b (o+i*10) r.cs)/\Rep m r.t:=by
 refine⟨?_,h.2.2 r (List.mem_of_getElem? hi)⟩
 rcases h.2.1 with h|⟨b,o,h1,h2⟩
 ·subst h;simp at hi
 ·exact⟨b,o,h1,h2 i r hi⟩
theorem Zk4(x y:List Nat)(ax ay:Option Addr)(cx cy:Nat)(m:Mem)(hx:rowRd m ax (Zq3 x))(hy:rowRd m ay (Zq3 y))(aX:x.length<=1000000000000000):CX Try.prog 35 #[.slice ax x.length cx,.slice ay y.length cy] m [] (Ret (.bool (x == y))):=by
 apply Zc6
 unfold ZbQ
 refine Zab (λh=>Zai (Mem.le_refl _) ?_) (λh=>?_)
 ·have:¬x=y:=λe=>by subst e;simp at h
  rw[show(x == y)=false by simpa using this]
 have hl:x.length=y.length:=by
  simp only[Bool.not_eq_false',beq_iff_eq]at h
  omega
 refine⟨λxs css _ m' q=>∃k:Nat,k<=x.length/\xs=[.int .i64 k]/\x.take k=y.take k/\m.le m'/\q=x.length - k,⟨_,0,by omega,rfl,rfl,Mem.le_refl _,rfl⟩,?_⟩
 rintro z m1 q aU ⟨k,hk,hz,uR,_,hq⟩
 obtain rfl:z=k:=by simpa using hz
 refine Zab (λaN=>?_) (λcP=>?_)
 ·have aT:k < x.length:=by have:=of_decide_eq_true aN;omega
  obtain⟨u,hu⟩:=Zit aT
  obtain⟨v,hv⟩:=Zit (l:=y) (k:=k) (by omega)
  have eQ:IntKind.i64.wrap ((k:Int)+1)=((k+1:Nat):Int):=by rw[Zbl (by omega) (by omega)];rfl
  rcases hx.mono aU with hx|⟨b,o,h1,h2⟩
  ·rw[show x=[] by simpa[Zq3]using hx]at aT;simp at aT
  rcases hy.mono aU with hy|⟨b',o',h1',h2'⟩
  ·rw[hl,show y=[] by simpa[Zq3]using hy]at aT;simp at aT
  simp only[eQ,Int.toNat_natCast,Nat.mul_one]
  refine⟨b,o,h1,⟨by omega,by omega⟩,_,h2 k (.int .i64 u) (by rw[Zq3,List.getElem?_map,hu];rfl),b',o',h1',⟨by omega,by omega⟩,_,h2' k (.int .i64 v) (by rw[Zq3,List.getElem?_map,hv];rfl),Zaa rfl (Zab (λhc=>Zai aU ?_) (λhc=>⟨x.length - (k+1),by omega,k+1,by omega,rfl,?_,aU,rfl⟩))⟩
  ·have:¬x=y:=λe=>by
    subst e
    rw[hu]at hv;cases hv
    simp at hc
   rw[show(x == y)=false by simpa using this]
  ·have:u=v:=by
    have:=hc
    simp[RowKit.intOf]at this
    omega
   rw[Zck hu,Zck hv,uR,this]
 ·have:k=x.length:=by have:=of_decide_eq_false cP;omega
  subst this
  rw[List.take_length,hl,List.take_length]at uR
  refine Zai aU ?_
  rw[uR];simp
end Go.Proofs.Ytgclajkldphoaaa
set_option linter.unusedVariables false
set_option linter.unusedSimpArgs false
set_option linter.unusedSectionVars false
namespace Go.Proofs.Ytgclajkldphoaaa
open Go Go.Eng Go.Rx Go.Proofs Go.RowKit
set_option maxRecDepth 100000
theorem ZuX{n:Int}(h1:0<=n)(h2:n < 256):IntKind.u8.wrap n=n:=by
 unfold IntKind.wrap
 simp only[IntKind.bits,IntKind.signed,Bool.false_and,Bool.false_eq_true,if_false]
 have e:(2:Int) ^ 8=256:=by decide
 rw[e];omega
theorem ZrN(t:T)(m:Mem)(hr:Rep m t):CX Try.prog 40 #[t.v] m [] (Zi9 (λu=>∃a c,u=ZaE 6 0 0 a c [t])):=by
 apply ZhO
 unfold Ze8
 intro b m1 aU _ b1 b2 hf
 have bO:=Mem.le_add hf t.cs
 refine ZfV (mLt aU bO) ⟨ZaE 6 0 0 (some ⟨b2,0,none⟩) 1 [t],rfl,Zba (Zhu ?_ (hr.mono (mLt aU bO))) (by omega) (by omega) (by omega),_,_,rfl⟩
 intro j v hj
 rw[Nat.zero_add,Mem.add_same];exact hj
theorem Ztq(t:T)(mn mx:Int)(h1 : -9223372036854775808<=mn/\mn<=9223372036854775807)(h2 : -9223372036854775808<=mx/\mx<=9223372036854775807)(m:Mem)(hr:Rep m t):CX Try.prog 41 #[t.v,.int .i64 mn,.int .i64 mx] m [] (Zi9 (λu=>∃a c,u=ZaE 5 mn mx a c [t])):=by
 apply ZkY
 unfold ZgN
 intro b m1 aU _ b1 b2 hf
 have bO:=Mem.le_add hf t.cs
 refine ZfV (mLt aU bO) ⟨ZaE 5 mn mx (some ⟨b2,0,none⟩) 1 [t],rfl,Zba (Zhu ?_ (hr.mono (mLt aU bO))) (by omega) h1 h2,_,_,rfl⟩
 intro j v hj
 rw[Nat.zero_add,Mem.add_same];exact hj
def ZbI(s:ByteArray):List Nat:=s.data.toList.map λb=>b.toNat
theorem Ziw(s:ByteArray):Zaz s=(ZbI s).map λc:Nat=>Value.int .u8 c:=by
 unfold Zaz ZbI
 rw[List.map_map];rfl
theorem Zkq(s:ByteArray):(ZbI s).length=s.size:=by unfold ZbI;rw[List.length_map,Array.length_toList];rfl
theorem Zqb(s:ByteArray):∀c∈ZbI s,c < 256:=by
 intro c hc
 unfold ZbI at hc
 obtain⟨b,_,rfl⟩:=List.mem_map.1 hc
 exact b.toBitVec.isLt
theorem ZrO{s:ByteArray}{k c:Nat}(h:(ZbI s)[k]?=some c):Zlk s k=(c:Int):=by
 unfold ZbI at h
 rw[List.getElem?_map]at h
 obtain⟨b,hb,rfl⟩:=Option.map_eq_some_iff.1 h
 unfold Zlk
 rw[List.getD_eq_getElem?_getD,hb];rfl
theorem ZmT(s:ByteArray)(hs:(ZbI s).length<=100000)(m:Mem):CX Try.prog 37 #[.string s] m [] (Zi9 (λt=>t=Zjb (ZbI s))):=by
 apply ZhP
 unfold Ze9
 intro b b1
 have aX:=Zkq s
 refine⟨λxs css tvs m' q=>∃k:Nat,k<=s.size/\xs=[.int .i64 k]/\css=[ZqL ((ZbI s).take k)]/\q=s.size - k,⟨_,0,by omega,rfl,rfl,rfl⟩,?_⟩
 rintro n cs m1 q aU ⟨k,hk,hn,cR,hq⟩
 obtain rfl:n=k:=by simpa using hn
 obtain rfl:cs=ZqL ((ZbI s).take k):=by simpa using cR
 refine Zab (λaN=>?_) (λcP=>?_)
 ·have aT:k < s.size:=by have:=of_decide_eq_true aN;omega
  obtain⟨c,hc⟩:=Zit (l:=ZbI s) (k:=k) (by omega)
  have oK:=Zqb s c (List.mem_of_getElem? hc)
  have hw:IntKind.i64.wrap ((k:Int)+1)=((k+1:Nat):Int):=by rw[Zbl (by omega) (by omega)];rfl
  have xV:IntKind.u8.wrap (Int.tdiv (c:Int) 64)=((c / 64:Nat):Int):=by rw[ZuW];exact ZuX (by omega) (by omega)
  have hr:IntKind.u64.wrap (1*2 ^ min (Int.toNat (Int.tmod (c:Int) 64)) 64)=((2 ^ (c % 64):Nat):Int):=by
   rw[Zto,Int.toNat_natCast,Nat.min_eq_left (by omega),Int.one_mul]
   have:=ZsX (2 ^ (c % 64)) (by
    have:2 ^ (c % 64) < 2 ^ 64:=Nat.pow_lt_pow_right (by omega) (by omega)
    exact this)
   rw[<-this];push_cast;rfl
  have h2:(2:Nat) ^ (c % 64) < 18446744073709551616:=by
   have:(2:Nat) ^ (c % 64) < 2 ^ 64:=Nat.pow_lt_pow_right (by omega) (by omega)
   exact this
  have hj:c / 64 < 4:=by omega
  simp only[hw,Int.toNat_natCast,ZrO hc,xV,hr,Nat.zero_add,Nat.mul_one]
  refine⟨⟨by omega,by omega⟩,by omega,⟨by omega,by omega⟩,Zao (ZpZ _ hj) ⟨⟨by omega,by omega⟩,by omega,by rw[Zto];omega,Zaa rfl ⟨⟨by omega,by omega⟩,Zaa (by rw[Nat.ble_eq];show c / 64+1<=4;omega) ⟨by trivial,s.size - (k+1),by omega,k+1,by omega,rfl,?_,rfl⟩⟩⟩⟩
  simp only[intOf]
  rw[Zrw _ _ (ZqK _ _) h2,Zn5 _ rfl hj,Zck hc]
 ·have:k=s.size:=by have:=of_decide_eq_false cP;omega
  subst this
  rw[<-aX,List.take_length]
  exact Zaa rfl (Zaa rfl (Zai aU ⟨Zjb (ZbI s),rfl,Zms _ m,rfl⟩))
theorem Zof(n:Nat)(hn:n < 256)(m:Mem):CX Try.prog 38 #[.int .u8 n] m [] (λv _ _=>∃s,v=.string s/\ZbI s=ZdA n):=by
 apply Zgg
 unfold ZdQ
 intro b hf
 have ht:Int.tmod (n:Int) 12=((n % 12:Nat):Int):=rfl
 simp only[ht,Int.toNat_natCast,Nat.mul_one]
 refine⟨by omega,⟨by omega,by omega⟩,?_⟩
 have h:n % 12=0\/n % 12=1\/n % 12=2\/n % 12=3\/n % 12=4\/n % 12=5\/n % 12=6\/n % 12=7\/n % 12=8\/n % 12=9\/n % 12=10\/n % 12=11:=by omega
 unfold ZdA
 rcases h with e|e|e|e|e|e|e|e|e|e|e|e <;>
 ·rw[e]
  refine Zao rfl ?_
  exact⟨_,Mem.le_add hf _,Mem.le_refl _,_,rfl,rfl⟩
end Go.Proofs.Ytgclajkldphoaaa
set_option linter.unusedVariables false
set_option linter.unusedSimpArgs false
set_option linter.unusedSectionVars false
namespace Go.Proofs.Ytgclajkldphoaaa
open Go Go.Eng Go.Rx Go.Proofs Go.RowKit
set_option maxRecDepth 100000
end Go.Proofs.Ytgclajkldphoaaa
set_option linter.unusedVariables false
set_option linter.unusedSimpArgs false
set_option linter.unusedSectionVars false
namespace Go.Proofs.Ytgclajkldphoaaa
open Go Go.Eng Go.Rx Go.Proofs Go.RowKit
set_option maxRecDepth 100000
theorem ZeT(k:Int)(t:T):ZbB k t=if t.k=k then t.subs else if k=3/\t.k=1 then[]else[t]:=rfl
theorem Zd5(l:List T):∀u∈Rx.Zcz l,u.oneCell'=true:=by
 intro u hu
 simp only[Rx.Zcz,List.mem_flatten,List.mem_map]at hu
 obtain⟨_,⟨t,_,rfl⟩,h⟩:=hu
 simp only[T.cs,List.mem_cons,List.not_mem_nil,or_false,T.sl]at h
 rcases h with rfl|rfl|rfl|rfl|rfl|rfl|rfl|rfl <;> rfl
theorem Zlw(k:Int)(t u:T)(hk:k=3\/k=4)(m:Mem)(hr:Rep m t)(hu:Rep m u)(ht:(ZbB k t).length<=10000)(xW:(ZbB k u).length<=10000):CX Try.prog 39 #[.int .u8 k,t.v,u.v] m [] (Zi9 (λr=>∃a c,r=Zge k a c (ZbB k t++ZbB k u))):=by
 apply ZhQ
 unfold Zfa
 intro b m1 aU _ b1 m2 bC _ b2 b3 qu
 have gI:=mLt aU bC
 have cX:m.le (m2.add b3 (t.cs++u.cs)):=mLt gI (Mem.le_add qu _)
 refine⟨λxs css tvs m' q=>∃(i:Nat)(l:List T)(a:Option Addr)(c:Nat),i<=2/\xs=[.slice a l.length c,.int .i64 i]/\tvs=[.slice a l.length c]/\l=(([t,u].take i).map (ZbB k)).flatten/\rowRd m' a (Rx.Zcz l)/\q=2 - i,⟨2,0,[],none,0,by omega,rfl,rfl,rfl,.inl rfl,rfl⟩,?_⟩
 rintro a n c z a1 n1 c1 m3 q cJ ⟨i,l,a',c',hi,cH,fI,hl,aM,hq⟩
 simp only[List.cons.injEq,Value.slice.injEq,Value.int.injEq,true_and,and_true]at cH fI
 obtain⟨⟨rfl,rfl,rfl⟩,rfl⟩:=cH
 obtain⟨rfl,rfl,rfl⟩:=fI
 have jK:=mLt cX cJ
 have pS:l.length<=20000:=by
  rw[hl]
  have:i=0\/i=1\/i=2:=by omega
  rcases this with rfl|rfl|rfl <;> simp <;> omega
 refine Zab (λaN=>?_) (λcP=>?_)
 ·have h2:i=0\/i=1:=by have:=of_decide_eq_true aN;omega
  rcases h2 with rfl|rfl
  ·
   refine⟨⟨by omega,by omega⟩,Zaa rfl λb4=>Zaa rfl (Zao (v:=.int .u8 t.k) rfl (Zaa rfl (Zab (λdF=>Zao (v:=t.sl) rfl (Zaa rfl ?_)) (λdF=>?_))))⟩
   ·have fC:t.k=k:=by simpa[RowKit.intOf]using dF
    have hj:ZbB k t=t.subs:=by rw[ZeT,if_pos fC]
    have aX:=ht
    rw[hj]at aX
    refine⟨.inl rfl,Rx.Zcz l,Rx.Zcz t.subs,Zap _,Zap _,aM,(ZfZ (hr.subs)).mono jK,Zd5 _,?_,?_,λa2 c2 m4 cI bP=>⟨by trivial,1,by omega,1,l++t.subs,a2,c2,by omega,?_,?_,?_,?_,?_⟩⟩
    ·simp only[T.sl,slN];omega
    ·simp only[T.sl,slN];omega
    ·rw[List.length_append];rfl
    ·rw[List.length_append];rfl
    ·rw[hl,<-hj];simp
    ·rw[ZaF];exact bP
    ·omega
   ·have fC:¬t.k=k:=by simpa[RowKit.intOf]using dF
    refine⟨k == 3&&t.k == 1,Zab (λh=>Zao (v:=.int .u8 t.k) rfl (Zaa rfl ⟨by trivial,by trivial,?_⟩)) (λh=>⟨by trivial,by trivial,?_⟩),Zab (λh=>⟨by trivial,1,by omega,1,l,_,_,by omega,rfl,rfl,?_,aM,by omega⟩) (λh=>Zaa rfl λb6 nN=>?_)⟩
    ·rw[h];rfl
    ·rw[h];rfl
    ·have:k=3/\t.k=1:=by simpa using h
     have hj:ZbB k t=[]:=by rw[ZeT,if_neg fC,if_pos this]
     rw[hl];simp[hj]
    ·have:¬(k=3/\t.k=1):=by simpa using h
     have hj:ZbB k t=[t]:=by rw[ZeT,if_neg fC,if_neg this]
     have gO:=Mem.le_add nN t.cs
     refine⟨.inl rfl,Rx.Zcz l,t.cs,Zap _,rfl,aM.mono gO,.inr ⟨b6,0,rfl,λj v hj=>by rw[Nat.zero_add,Mem.add_same];exact hj⟩,by rw[<-Zbn];exact Zd5 _,by omega,by omega,λa2 c2 m4 cI bP=>⟨by trivial,1,by omega,1,l++[t],a2,c2,by omega,?_,?_,?_,?_,?_⟩⟩
     ·rw[List.length_append];rfl
     ·rw[List.length_append];rfl
     ·rw[hl];simp[hj]
     ·rw[ZaF,Zbn];exact bP
     ·omega
  ·
   refine⟨⟨by omega,by omega⟩,Zaa rfl λb4=>Zaa rfl (Zao (v:=.int .u8 u.k) rfl (Zaa rfl (Zab (λdF=>Zao (v:=u.sl) rfl (Zaa rfl ?_)) (λdF=>?_))))⟩
   ·have fC:u.k=k:=by simpa[RowKit.intOf]using dF
    have hj:ZbB k u=u.subs:=by rw[ZeT,if_pos fC]
    have aX:=xW
    rw[hj]at aX
    refine⟨.inl rfl,Rx.Zcz l,Rx.Zcz u.subs,Zap _,Zap _,aM,(ZfZ (hu.subs)).mono jK,Zd5 _,?_,?_,λa2 c2 m4 cI bP=>⟨by trivial,0,by omega,2,l++u.subs,a2,c2,by omega,?_,?_,?_,?_,?_⟩⟩
    ·simp only[T.sl,slN];omega
    ·simp only[T.sl,slN];omega
    ·rw[List.length_append];rfl
    ·rw[List.length_append];rfl
    ·rw[hl,<-hj];simp
    ·rw[ZaF];exact bP
    ·omega
   ·have fC:¬u.k=k:=by simpa[RowKit.intOf]using dF
    refine⟨k == 3&&u.k == 1,Zab (λh=>Zao (v:=.int .u8 u.k) rfl (Zaa rfl ⟨by trivial,by trivial,?_⟩)) (λh=>⟨by trivial,by trivial,?_⟩),Zab (λh=>⟨by trivial,0,by omega,2,l,_,_,by omega,rfl,rfl,?_,aM,by omega⟩) (λh=>Zaa rfl λb6 nN=>?_)⟩
    ·rw[h];rfl
    ·rw[h];rfl
    ·have:k=3/\u.k=1:=by simpa using h
     have hj:ZbB k u=[]:=by rw[ZeT,if_neg fC,if_pos this]
     rw[hl];simp[hj]
    ·have:¬(k=3/\u.k=1):=by simpa using h
     have hj:ZbB k u=[u]:=by rw[ZeT,if_neg fC,if_neg this]
     have gO:=Mem.le_add nN u.cs
     refine⟨.inl rfl,Rx.Zcz l,u.cs,Zap _,rfl,aM.mono gO,.inr ⟨b6,0,rfl,λj v hj=>by rw[Nat.zero_add,Mem.add_same];exact hj⟩,by rw[<-Zbn];exact Zd5 _,by omega,by omega,λa2 c2 m4 cI bP=>⟨by trivial,0,by omega,2,l++[u],a2,c2,by omega,?_,?_,?_,?_,?_⟩⟩
     ·rw[List.length_append];rfl
     ·rw[List.length_append];rfl
     ·rw[hl];simp[hj]
     ·rw[ZaF,Zbn];exact bP
     ·omega
 ·have:i=2:=by have:=of_decide_eq_false cP;omega
  subst this
  have hl':ZbB k t++ZbB k u=l:=by rw[hl];simp
  rw[hl']
  have cB:∀x∈l,Rep m3 x:=by
   have key:∀t:T,Rep m t->∀x∈ZbB k t,Rep m3 x:=by
    intro t hr x hx
    rw[ZeT]at hx
    split at hx
    ·exact Zmr (hr.subs.mono jK) x hx
    ·split at hx
     ·simp at hx
     ·simp at hx;subst hx;exact hr.mono jK
   rw[<-hl']
   intro x hx
   rcases List.mem_append.1 hx with hx|hx
   ·exact key t hr x hx
   ·exact key u hu x hx
  refine Zab (λh0=>?_) (λh0=>Zab (λh1=>?_) (λh1=>?_))
  ·have:l=[]:=by simpa using h0
   subst this
   exact Zai jK ⟨T1,rfl,Zrz _,none,0,rfl⟩
  ·have uQ:l.length=1:=by
    have:((l.length:Int) == 1)=true:=h1
    have:=of_decide_eq_true this;omega
   obtain⟨x,rfl⟩:∃x,l=[x]:=by
    match l,uQ with
    | [x],_=>exact⟨x,rfl⟩
   rcases aM with aM|⟨b6,o,ha,cO⟩
   ·simp[Rx.Zcz,T.cs]at aM
   ·rw[Zbn]at cO
    exact⟨b6,o,ha,⟨by omega,by simp⟩,_,_,_,_,_,_,_,_,cO,Zaa rfl (ZfV jK ⟨x,rfl,cB x (by simp),none,0,rfl⟩)⟩
  ·have xX:¬l.length=0:=λe=>by rw[e]at h0;simp at h0
   have nE:¬l.length=1:=λe=>by rw[e]at h1;simp at h1
   obtain⟨x,y,r,rfl⟩:∃x y r,l=x::y::r:=by
    match l,xX,nE with
    | [],h,_=>simp at h
    | [x],_,h=>simp at h
    | x::y::r,_,_=>exact⟨x,y,r,rfl⟩
   refine ZfV jK ⟨ZaE k 0 0 _ _ (x::y::r),rfl,Zba (Zmq aM cB (by omega)) (by omega) (by omega) (by omega),_,_,rfl⟩
end Go.Proofs.Ytgclajkldphoaaa
set_option linter.unusedVariables false
set_option linter.unusedSimpArgs false
set_option linter.unusedSectionVars false
namespace Go.Proofs.Ytgclajkldphoaaa
open Go Go.Eng Go.Rx Go.Proofs Go.RowKit
set_option maxRecDepth 100000
structure Sm (m:Mem)(a:Option Addr)(l:List (Nat×Nat×Nat)):Prop where
 len:l.length<=9223372036854775807
 byte:∀s∈l,s.1 < 256/\s.2.1 < 256/\s.2.2 < 256
 at':∀i s,l[i]?=some s->∃b o,a=some ⟨b,o,none⟩/\m.reads b (o+i*3) [.int .u8 s.1,.int .u8 s.2.1,.int .u8 s.2.2]
theorem Sm.mono{m m':Mem}{a l}(h:Sm m a l)(hm:m.le m'):Sm m' a l:=
 ⟨h.len,h.byte,λi s hi=>by obtain⟨b,o,h1,h2⟩:=h.at' i s hi;exact⟨b,o,h1,h2.mono hm⟩⟩
theorem ZmU(n:Nat):(([[97],[98],[97,98],[97],[98],[99],[97,98,99],[98,99],[10],[0,255],[97],[98]][n % 12]?).getD []:List Nat).length<=100000:=by
 have h:n % 12=0\/n % 12=1\/n % 12=2\/n % 12=3\/n % 12=4\/n % 12=5\/n % 12=6\/n % 12=7\/n % 12=8\/n % 12=9\/n % 12=10\/n % 12=11:=by omega
 rcases h with e|e|e|e|e|e|e|e|e|e|e|e <;> rw[e] <;> decide
theorem Ztr:∀L < 3,∀Mo < 4,((Mo < L\/Mo=0\/(L=1/\Mo=1))->ZgI (L:Nat) (-1)=true/\Zrv (L:Nat) (-1)<=((max 1 L:Nat):Int))/\(¬(Mo < L\/Mo=0\/(L=1/\Mo=1))->ZgI (L:Nat) (Mo:Nat)=true/\Zrv (L:Nat) (Mo:Nat)<=((max 1 (max L Mo):Nat):Int)):=by
 intro L hL Mo hM
 have h1:L=0\/L=1\/L=2:=by omega
 have h2:Mo=0\/Mo=1\/Mo=2\/Mo=3:=by omega
 rcases h1 with rfl|rfl|rfl <;> rcases h2 with rfl|rfl|rfl|rfl <;> exact⟨λ_=>by first|exact⟨by decide,by decide⟩|omega,λ_=>by first|exact⟨by decide,by decide⟩|omega⟩
theorem Zts(l:List (Nat×Nat×Nat))(a:Option Addr)(c:Nat)(m:Mem)(hl:Sm m a l)(hc:l.length<=c):CX Try.prog 9 #[.slice a l.length c] m [] (Zi9 (λt=>t.check=0)):=by
 apply Zjl
 unfold Zf4
 have aX:=hl.len
 intro b
 have hN:(if(25:Int) < (l.length:Int)then(25:Int)else(l.length:Int))=((min 25 l.length:Nat):Int):=by split <;> omega
 simp only[hN,Int.toNat_natCast,Nat.sub_zero]
 generalize Aq:min 25 l.length=N
 refine⟨⟨by omega,by omega⟩,λxs css tvs m' q=>∃(i:Nat)(ts:List T)(a:Option Addr)(c:Nat)(u g:Nat)(mb:Mem),i<=N/\xs=[.slice a ts.length c,.int .i64 u,.int .i64 g,.int .i64 i]/\tvs=[.slice a ts.length c]/\ts.length<=c/\m.le mb/\mb.le m'/\Apart mb a/\rowRd m' a (Rx.Zcz ts)/\(∀t∈ts,Rep mb t)/\J i ts u g/\q=N - i,⟨N,0,[],none,0,1,0,m,by omega,rfl,rfl,by simp,Mem.le_refl _,Mem.le_refl _,.inl rfl,.inl rfl,by simp,J.zero,by omega⟩,?_⟩
 rintro a1 n1 c1 z1 z2 z3 a2 n2 c2 m1 q _ ⟨i,ts,a',c',u,g,mb,hi,cH,fI,cT,gX,dP,cG,aM,cB,hJ,hq⟩
 simp only[List.cons.injEq,Value.slice.injEq,Value.int.injEq,true_and,and_true]at cH fI
 obtain⟨⟨rfl,rfl,rfl⟩,rfl,rfl,rfl⟩:=cH
 obtain⟨rfl,rfl,rfl⟩:=fI
 have iW:ts.length<=25:=by have:=hJ.sz;have:=ZoP ts;omega
 refine Zab (λaN=>?_) (λcP=>?_)
 ·have xY:i < N:=by have:=of_decide_eq_true aN;omega
  have hi':i < l.length:=by omega
  obtain⟨s,hs⟩:=Zit hi'
  obtain⟨bs,os,ha,cO⟩:=(hl.mono (mLt gX dP)).at' i s hs
  obtain⟨s1,s2,s3⟩:=s
  obtain⟨Ar,jS,wm⟩:=hl.byte _ (List.mem_of_getElem? hs)
  have hw:IntKind.i64.wrap ((i:Int)+1)=((i+1:Nat):Int):=by rw[Zbl (by omega) (by omega)];rfl
  have uS:Int.tmod (intOf (Value.int .u8 (s1:Nat))) 12=((s1 % 12:Nat):Int):=rfl
  simp only[hw,Int.toNat_natCast]
  refine⟨bs,os,ha,⟨by omega,by omega⟩,_,_,_,cO,λb2=>Zaa rfl (Zaa rfl ⟨by omega,?_⟩)⟩
  simp only[uS]
  refine Zab (λh1=>?_) (λh1=>Zab (λh2=>?_) (λh2=>?_))
  ·refine Za7 (Zof s2 jS m1) (λv _ _ ⟨s,e,_⟩=>by rw[e];rfl) ?_
   rintro str m2 bC ⟨s',hv,hb⟩
   cases hv
   refine Za7 (ZmT str (by rw[hb];unfold ZdA;exact ZmU _) m2) ZcD (ZhN λt m3 cJ hr ht b3 qu=>?_)
   rw[hb]at ht
   have cX:=mLt bC (mLt cJ (Mem.le_add qu t.cs))
   obtain⟨k1,k2,k3,k4⟩:=ZoQ s2
   refine⟨.inl trivial,Rx.Zcz ts,t.cs,Zap _,rfl,aM.mono (cX),.inr ⟨b3,0,rfl,λj v hj=>by rw[Nat.zero_add,Mem.add_same];exact hj⟩,by rw[<-Zbn];exact Zd5 _,by omega,by omega,λa4 c4 m4 cI bP aY=>⟨by trivial,N - (i+1),by omega,i+1,ts++[t],a4,c4,u,g,mb,by omega,?_,?_,by have:=aY.1;rw[List.length_append];exact this,gX,mLt dP (mLt (cX) cI),cG.tok (mLt dP (cX)) aY,?_,?_,?_,by omega⟩⟩
   ·rw[List.length_append];rfl
   ·rw[List.length_append];rfl
   ·rw[ZaF,Zbn];exact bP
   ·intro x hx
    rcases List.mem_append.1 hx with hx|hx
    ·exact cB x hx
    ·simp at hx;subst hx;exact(by rw[ht];exact Zms _ _)
   ·rw[ht];exact hJ.push k1 k2 k3 k4
  ·intro b3 qu
   have cX:=Mem.le_add qu T1.cs
   refine⟨.inl trivial,Rx.Zcz ts,T1.cs,Zap _,rfl,aM.mono (cX),.inr ⟨b3,0,rfl,λj v hj=>by rw[Nat.zero_add,Mem.add_same];exact hj⟩,by rw[<-Zbn];exact Zd5 _,by omega,by omega,λa4 c4 m4 cI bP aY=>⟨by trivial,N - (i+1),by omega,i+1,ts++[T1],a4,c4,u,g,mb,by omega,?_,?_,by have:=aY.1;rw[List.length_append];exact this,gX,mLt dP (mLt (cX) cI),cG.tok (mLt dP (cX)) aY,?_,?_,?_,by omega⟩⟩
   ·rw[List.length_append];rfl
   ·rw[List.length_append];rfl
   ·rw[ZaF,Zbn];exact bP
   ·intro x hx
    rcases List.mem_append.1 hx with hx|hx
    ·exact cB x hx
    ·simp at hx;subst hx;exact Zrz _
   ·exact hJ.push Zs0.1 Zs0.2.1 Zs0.2.2.1 Zs0.2.2.2
  ·refine⟨decide (s1 % 12 < 7)&&decide (1 < ts.length),Zab (λh3=>⟨by trivial,by trivial,?_⟩) (λh3=>⟨by trivial,by trivial,?_⟩),Zab (λh3=>?_) (λh3=>?_)⟩
   ·refine ZaI ?_
    rw[Bool.eq_iff_iff];simp;have:=of_decide_eq_true h3;omega
   ·refine ZaI ?_
    rw[eq_comm,Bool.and_eq_false_iff];left;have:=of_decide_eq_false h3;exact decide_eq_false (by omega)
   ·skip
    obtain⟨r,x,y,rfl⟩:=ZuU (ts:=ts) (by simp at h3;omega)
    have gY:(r++[x,y]).length=r.length+2:=by simp
    have dQ:IntKind.i64.wrap (((r++[x,y]).length:Int) - 2)=(r.length:Int):=by rw[gY,Zbl (by omega) (by omega)];omega
    have dY:IntKind.i64.wrap (((r++[x,y]).length:Int) - 1)=((r.length+1:Nat):Int):=by rw[gY,Zbl (by omega) (by omega)];omega
    simp only[dQ,dY,Int.toNat_natCast,Nat.sub_zero]
    obtain⟨bb,kL,jX,o',u',hu'⟩:=cG.base aM (by simp)
    obtain⟨bx,ox,nO,lR⟩:=Zes aM (i:=r.length) (t:=x) (by simp)
    obtain⟨by',oy,uT,uU⟩:=Zes aM (i:=r.length+1) (t:=y) (by simp)
    have uV:(ZbB 3 x).length<=10000:=by
     have:=hJ.sz
     rw[ZaG,show szL [x,y]=szL ([x]++[y]) from rfl,ZaG,ZbA,ZbA]at this
     have:=Zep (k:=3) (t:=x)
     omega
    have uW:(ZbB 3 y).length<=10000:=by
     have:=hJ.sz
     rw[ZaG,show szL [x,y]=szL ([x]++[y]) from rfl,ZaG,ZbA,ZbA]at this
     have:=Zep (k:=3) (t:=y)
     omega
    refine⟨λ_ _ _=>Znr mb m1 (λr=>∃a c,r=Zge 3 a c (ZbB 3 x++ZbB 3 y)),⟨by omega,by omega⟩,⟨by omega,by omega⟩,bx,ox,nO,⟨by omega,by omega⟩,_,_,_,_,_,_,_,_,lR,by',oy,uT,⟨by omega,by omega⟩,_,_,_,_,_,_,_,_,uU,Znr mb m1 (λr=>∃a c,r=Zge 3 a c (ZbB 3 x++ZbB 3 y)),rfl,(Zlw 3 x y (by omega) mb (cB x (by simp)) (cB y (by simp)) uV uW).frame2 dP,Zdu,Ziu λt m0 m3 cJ h0 lS bM jY ht b6 nN=>?_⟩
    obtain⟨at',ct,ht⟩:=ht
    have gO:=Mem.le_add nN t.cs
    have eY:Apart m0 _:=.inr ⟨bb,kL,λo=>by rw[bM bb o' u' hu' o];exact jX o⟩
    refine⟨.inr (.inr (by omega)),Rx.Zcz r,t.cs,Zap _,rfl,((Zo5 aM).mono cJ).mono gO,.inr ⟨b6,0,rfl,λj v hj=>by rw[Nat.zero_add,Mem.add_same];exact hj⟩,by rw[<-Zbn];exact Zd5 _,by omega,by omega,λa4 c4 m4 cI bP aY M iO iF qv rX=>⟨by trivial,N - (i+1),by omega,i+1,r++[t],a4,c4,u,g,m0,by omega,?_,?_,by have:=aY.1;rw[List.length_append];exact this,mLt gX h0,mLt lS iF,eY.tok (mLt lS gO) aY,?_,?_,?_,by omega⟩⟩
    ·rw[List.length_append];rfl
    ·rw[List.length_append];rfl
    ·rw[ZaF,Zbn];exact bP.mono rX
    ·intro z hz
     rcases List.mem_append.1 hz with hz|hz
     ·exact(cB z (by simp[hz])).mono h0
     ·simp at hz;subst hz;exact jY
    ·rw[ht];exact hJ.join (by omega) (by omega) _ _
   ·refine⟨decide (s1 % 12 < 9)&&decide (1 < ts.length),Zab (λh4=>⟨by trivial,by trivial,?_⟩) (λh4=>⟨by trivial,by trivial,?_⟩),Zab (λh4=>?_) (λh4=>?_)⟩
    ·refine ZaI ?_
     rw[Bool.eq_iff_iff];simp;have:=of_decide_eq_true h4;omega
    ·refine ZaI ?_
     rw[eq_comm,Bool.and_eq_false_iff];left;have:=of_decide_eq_false h4;exact decide_eq_false (by omega)
    ·skip
     obtain⟨r,x,y,rfl⟩:=ZuU (ts:=ts) (by simp at h4;omega)
     have gY:(r++[x,y]).length=r.length+2:=by simp
     have dQ:IntKind.i64.wrap (((r++[x,y]).length:Int) - 2)=(r.length:Int):=by rw[gY,Zbl (by omega) (by omega)];omega
     have dY:IntKind.i64.wrap (((r++[x,y]).length:Int) - 1)=((r.length+1:Nat):Int):=by rw[gY,Zbl (by omega) (by omega)];omega
     simp only[dQ,dY,Int.toNat_natCast,Nat.sub_zero]
     obtain⟨bb,kL,jX,o',u',hu'⟩:=cG.base aM (by simp)
     obtain⟨bx,ox,nO,lR⟩:=Zes aM (i:=r.length) (t:=x) (by simp)
     obtain⟨by',oy,uT,uU⟩:=Zes aM (i:=r.length+1) (t:=y) (by simp)
     have uV:(ZbB 4 x).length<=10000:=by
      have:=hJ.sz
      rw[ZaG,show szL [x,y]=szL ([x]++[y]) from rfl,ZaG,ZbA,ZbA]at this
      have:=Zep (k:=4) (t:=x)
      omega
     have uW:(ZbB 4 y).length<=10000:=by
      have:=hJ.sz
      rw[ZaG,show szL [x,y]=szL ([x]++[y]) from rfl,ZaG,ZbA,ZbA]at this
      have:=Zep (k:=4) (t:=y)
      omega
     refine⟨λ_ _ _=>Znr mb m1 (λr=>∃a c,r=Zge 4 a c (ZbB 4 x++ZbB 4 y)),⟨by omega,by omega⟩,⟨by omega,by omega⟩,bx,ox,nO,⟨by omega,by omega⟩,_,_,_,_,_,_,_,_,lR,by',oy,uT,⟨by omega,by omega⟩,_,_,_,_,_,_,_,_,uU,Znr mb m1 (λr=>∃a c,r=Zge 4 a c (ZbB 4 x++ZbB 4 y)),rfl,(Zlw 4 x y (by omega) mb (cB x (by simp)) (cB y (by simp)) uV uW).frame2 dP,Zdu,Ziu λt m0 m3 cJ h0 lS bM jY ht b6 nN=>?_⟩
     obtain⟨at',ct,ht⟩:=ht
     have gO:=Mem.le_add nN t.cs
     have eY:Apart m0 _:=.inr ⟨bb,kL,λo=>by rw[bM bb o' u' hu' o];exact jX o⟩
     refine⟨.inr (.inr (by omega)),Rx.Zcz r,t.cs,Zap _,rfl,((Zo5 aM).mono cJ).mono gO,.inr ⟨b6,0,rfl,λj v hj=>by rw[Nat.zero_add,Mem.add_same];exact hj⟩,by rw[<-Zbn];exact Zd5 _,by omega,by omega,λa4 c4 m4 cI bP aY M iO iF qv rX=>⟨by trivial,N - (i+1),by omega,i+1,r++[t],a4,c4,u,g,m0,by omega,?_,?_,by have:=aY.1;rw[List.length_append];exact this,mLt gX h0,mLt lS iF,eY.tok (mLt lS gO) aY,?_,?_,?_,by omega⟩⟩
     ·rw[List.length_append];rfl
     ·rw[List.length_append];rfl
     ·rw[ZaF,Zbn];exact bP.mono rX
     ·intro z hz
      rcases List.mem_append.1 hz with hz|hz
      ·exact(cB z (by simp[hz])).mono h0
      ·simp at hz;subst hz;exact jY
     ·rw[ht];exact hJ.join (by omega) (by omega) _ _
    ·refine⟨decide (s1 % 12=9)&&(decide (0 < ts.length)&&decide (g < 9)),Zab (λh5=>Zab (λh6=>⟨by trivial,by trivial,?_⟩) (λh6=>⟨by trivial,by trivial,?_⟩)) (λh5=>⟨by trivial,by trivial,?_⟩),Zab (λh5=>?_) (λh5=>?_)⟩
     ·refine ZaI ?_
      have e1:=of_decide_eq_true h6
      have e2:s1 % 12=9:=by have:=h5;simp at this;omega
      rw[decide_eq_true e2,decide_eq_true (show 0 < ts.length by omega),Bool.true_and,Bool.true_and,Bool.eq_iff_iff];simp;omega
     ·refine ZaI ?_
      have e1:=of_decide_eq_false h6
      rw[decide_eq_false (show ¬0 < ts.length by omega)];simp
     ·refine ZaI ?_
      have e2:¬s1 % 12=9:=by have:=h5;simp at this;omega
      rw[decide_eq_false e2];rfl
     ·
      have xZ:g < 9:=by simp at h5;omega
      skip
      obtain⟨r,x,rfl⟩:=ZuV (ts:=ts) (by simp at h5;omega)
      have gY:(r++[x]).length=r.length+1:=by simp
      have dY:IntKind.i64.wrap (((r++[x]).length:Int) - 1)=(r.length:Int):=by rw[gY,Zbl (by omega) (by omega)];omega
      obtain⟨bb,kL,jX,o',u',hu'⟩:=cG.base aM (by simp)
      subst kL
      obtain⟨bx,ox,nO,lR⟩:=Zes aM (i:=r.length) (t:=x) (by simp)
      cases nO
      have x3:IntKind.i64.wrap ((g:Int)+1)=((g+1:Nat):Int):=by rw[Zbl (by omega) (by omega)];rfl
      simp only[dY,x3,Int.toNat_natCast]
      refine⟨_,_,rfl,⟨by omega,by omega⟩,_,_,_,_,_,_,_,_,lR,Za7 ((ZrN x mb (cB x (by simp))).frame2 dP) (Zdu (mb:=mb) (M0:=m1)) (Ziu λt m0 m3 cJ h0 lS bM jY ht=>?_)⟩
      obtain⟨at',ct,ht⟩:=ht
      have eY:m0.free bb:=λo=>by rw[bM bb o' u' hu' o];exact jX o
      refine⟨bb,0,rfl,⟨by omega,by omega⟩,rfl,by omega,by trivial,N - (i+1),by omega,i+1,r++[t],_,_,u,g+1,m0,by omega,?_,?_,by rw[List.length_append];rw[gY]at cT;exact cT,mLt gX h0,Mem.le_upd lS eY _ _,.inr ⟨bb,rfl,eY⟩,Zo6 (aM.mono cJ),?_,?_,by omega⟩
      ·rw[gY,List.length_append];rfl
      ·rw[gY,List.length_append];rfl
      ·intro z hz
       rcases List.mem_append.1 hz with hz|hz
       ·exact(cB z (by simp[hz])).mono h0
       ·simp at hz;subst hz;exact jY
      ·rw[ht];exact hJ.group xZ _ _
     ·by_cases h0:0 < ts.length
      ·skip
       obtain⟨r,x,rfl⟩:=ZuV (ts:=ts) (by exact h0)
       have gY:(r++[x]).length=r.length+1:=by simp
       have dY:IntKind.i64.wrap (((r++[x]).length:Int) - 1)=(r.length:Int):=by rw[gY,Zbl (by omega) (by omega)];omega
       obtain⟨bb,kL,jX,o',u',hu'⟩:=cG.base aM (by simp)
       subst kL
       obtain⟨bx,ox,nO,lR⟩:=Zes aM (i:=r.length) (t:=x) (by simp)
       cases nO
       have x4:IntKind.i64.wrap (Int.tmod (intOf (Value.int .u8 (s2:Nat))) 3)=((s2 % 3:Nat):Int):=by
        rw[show Int.tmod (intOf (Value.int .u8 (s2:Nat))) 3=((s2 % 3:Nat):Int) from rfl,Zbl (by omega) (by omega)]
       have qY:IntKind.i64.wrap (Int.tmod (intOf (Value.int .u8 (s3:Nat))) 4)=((s3 % 4:Nat):Int):=by
        rw[show Int.tmod (intOf (Value.int .u8 (s3:Nat))) 4=((s3 % 4:Nat):Int) from rfl,Zbl (by omega) (by omega)]
       simp only[dY,x4,qY,Int.toNat_natCast]
       have x5:s2 % 3 < 3:=by omega
       have rX:s3 % 4 < 4:=by omega
       generalize s2 % 3=L at *
       generalize s3 % 4=Mo at *
       refine⟨decide (9 < s1 % 12)&&!(x.k == 1),Zab (λh6=>Zab (λh7=>⟨_,_,rfl,⟨by omega,by omega⟩,.int .u8 x.k,lR 0 _ rfl,Zaa rfl ⟨by trivial,by trivial,?_⟩⟩) (λh7=>absurd h7 (by simp))) (λh6=>⟨by trivial,by trivial,?_⟩),Zab (λh6=>Zaa rfl ⟨by omega,Zaa rfl ⟨by omega,?_⟩⟩) (λh6=>⟨by trivial,N - (i+1),by omega,i+1,r++[x],_,_,u,g,mb,by omega,rfl,rfl,cT,gX,dP,cG,aM,cB,hJ.skip,by omega⟩)⟩
       ·refine ZaI ?_
        have:=of_decide_eq_true h6
        rw[decide_eq_true (show 9 < s1 % 12 by omega),Bool.true_and];rfl
       ·refine ZaI ?_
        have:=of_decide_eq_false h6
        rw[decide_eq_false (show ¬9 < s1 % 12 by omega)];rfl
       ·have fD:x.k≠1:=by
         rw[Bool.and_eq_true]at h6
         simpa using h6.2
        obtain⟨tab1,tab2⟩:=Ztr L x5 Mo rX
        refine⟨decide (Mo < L\/Mo=0\/(L=1/\Mo=1)),Zab (λg1=>⟨by trivial,by trivial,ZaI ?_⟩) (λg1=>Zab (λg2=>⟨by trivial,by trivial,ZaI ?_⟩) (λg2=>Zab (λg3=>⟨by trivial,by trivial,ZaI ?_⟩) (λg3=>⟨by trivial,by trivial,ZaI ?_⟩))),Zab (λg4=>?_) (λg4=>?_)⟩
        ·have:=of_decide_eq_true g1
         exact(decide_eq_true (by omega)).symm
        ·have:Mo=0:=by simp at g2;omega
         exact(decide_eq_true (by omega)).symm
        ·have e1:=of_decide_eq_false g1
         have e2:¬Mo=0:=by simp at g2;omega
         have e3:L=1:=by simp at g3;omega
         rw[Bool.eq_iff_iff];simp;omega
        ·have e1:=of_decide_eq_false g1
         have e2:¬Mo=0:=by simp at g2;omega
         have e3:¬L=1:=by simp at g3;omega
         exact(decide_eq_false (by omega)).symm
        ·
         have hA:(if(1:Int) > (if(-1:Int) > (L:Int)then(-1:Int)else(L:Int))then(1:Int)else(if(-1:Int) > (L:Int)then(-1:Int)else(L:Int)))=((max 1 L:Nat):Int):=by
          split <;> split <;> omega
         obtain⟨tb,tp⟩:=tab1 (of_decide_eq_true g4)
         have rW:u*max 1 L<=48:=by have:=Nat.mul_le_mul hJ.u16 (show max 1 L<=3 by omega);omega
         have uX:IntKind.i64.wrap ((u:Int)*((max 1 L:Nat):Int))=((u*max 1 L:Nat):Int):=by rw[<-Int.natCast_mul];exact Zbl (by omega) (by omega)
         simp only[hA,uX]
         refine Zab (λg5=>?_) (λg5=>⟨by trivial,N - (i+1),by omega,i+1,r++[x],_,_,u,g,mb,by omega,rfl,rfl,cT,gX,dP,cG,aM,cB,hJ.skip,by omega⟩)
         have qw:u*max 1 L<=16:=by have:=of_decide_eq_true g5;omega
         refine⟨_,_,rfl,⟨by omega,by omega⟩,_,_,_,_,_,_,_,_,lR,Za7 ((Ztq x (L:Nat) (-1:Int) ⟨by omega,by omega⟩ ⟨by omega,by omega⟩ mb (cB x (by simp))).frame2 dP) (Zdu (mb:=mb) (M0:=m1)) (Ziu λt m0 m3 cJ h0 lS bM jY ht=>?_)⟩
         obtain⟨at',ct,ht⟩:=ht
         have eY:m0.free bb:=λo=>by rw[bM bb o' u' hu' o];exact jX o
         refine⟨bb,0,rfl,⟨by omega,by omega⟩,rfl,by omega,by trivial,N - (i+1),by omega,i+1,r++[t],_,_,u*max 1 L,g,m0,by omega,?_,?_,by rw[List.length_append];rw[gY]at cT;exact cT,mLt gX h0,Mem.le_upd lS eY _ _,.inr ⟨bb,rfl,eY⟩,Zo6 (aM.mono cJ),?_,?_,by omega⟩
         ·rw[gY,List.length_append];rfl
         ·rw[gY,List.length_append];rfl
         ·intro z hz
          rcases List.mem_append.1 hz with hz|hz
          ·exact(cB z (by simp[hz])).mono h0
          ·simp at hz;subst hz;exact jY
         ·rw[ht];exact hJ.rep fD tb tp (by omega) qw _ _
        ·
         have hA:(if(1:Int) > (if((Mo:Int)) > (L:Int)then((Mo:Int))else(L:Int))then(1:Int)else(if((Mo:Int)) > (L:Int)then((Mo:Int))else(L:Int)))=((max 1 (max L Mo):Nat):Int):=by
          split <;> split <;> omega
         obtain⟨tb,tp⟩:=tab2 (of_decide_eq_false g4)
         have rW:u*max 1 (max L Mo)<=48:=by have:=Nat.mul_le_mul hJ.u16 (show max 1 (max L Mo)<=3 by omega);omega
         have uX:IntKind.i64.wrap ((u:Int)*((max 1 (max L Mo):Nat):Int))=((u*max 1 (max L Mo):Nat):Int):=by rw[<-Int.natCast_mul];exact Zbl (by omega) (by omega)
         simp only[hA,uX]
         refine Zab (λg5=>?_) (λg5=>⟨by trivial,N - (i+1),by omega,i+1,r++[x],_,_,u,g,mb,by omega,rfl,rfl,cT,gX,dP,cG,aM,cB,hJ.skip,by omega⟩)
         have qw:u*max 1 (max L Mo)<=16:=by have:=of_decide_eq_true g5;omega
         refine⟨_,_,rfl,⟨by omega,by omega⟩,_,_,_,_,_,_,_,_,lR,Za7 ((Ztq x (L:Nat) ((Mo:Int)) ⟨by omega,by omega⟩ ⟨by omega,by omega⟩ mb (cB x (by simp))).frame2 dP) (Zdu (mb:=mb) (M0:=m1)) (Ziu λt m0 m3 cJ h0 lS bM jY ht=>?_)⟩
         obtain⟨at',ct,ht⟩:=ht
         have eY:m0.free bb:=λo=>by rw[bM bb o' u' hu' o];exact jX o
         refine⟨bb,0,rfl,⟨by omega,by omega⟩,rfl,by omega,by trivial,N - (i+1),by omega,i+1,r++[t],_,_,u*max 1 (max L Mo),g,m0,by omega,?_,?_,by rw[List.length_append];rw[gY]at cT;exact cT,mLt gX h0,Mem.le_upd lS eY _ _,.inr ⟨bb,rfl,eY⟩,Zo6 (aM.mono cJ),?_,?_,by omega⟩
         ·rw[gY,List.length_append];rfl
         ·rw[gY,List.length_append];rfl
         ·intro z hz
          rcases List.mem_append.1 hz with hz|hz
          ·exact(cB z (by simp[hz])).mono h0
          ·simp at hz;subst hz;exact jY
         ·rw[ht];exact hJ.rep fD tb tp (by omega) qw _ _
      ·refine⟨false,Zab (λh6=>Zab (λh7=>absurd (of_decide_eq_true h7) (by omega)) (λh7=>⟨by trivial,by trivial,rfl⟩)) (λh6=>⟨by trivial,by trivial,rfl⟩),Zsr rfl ⟨by trivial,N - (i+1),by omega,i+1,ts,_,_,u,g,mb,by omega,rfl,rfl,cT,gX,dP,cG,aM,cB,hJ.skip,by omega⟩⟩
 ·have xY:i=N:=by have:=of_decide_eq_false cP;omega
  have aU:=mLt gX dP
  refine Zab (λh0=>?_) (λh0=>?_)
  ·have uY:(ZbI ⟨#[97]⟩)=ZdA 0:=by rfl
   refine Za7 (ZmT ⟨#[97]⟩ (by decide) m1) ZcD (ZhN λt m2 bC hr ht=>ZfV (mLt aU bC) ⟨t,rfl,hr,?_⟩)
   rw[uY]at ht
   obtain⟨k1,k2,k3,k4⟩:=ZoQ 0
   rw[<-ht]at k1 k2 k3 k4
   exact F.done (l:=[]) ⟨k1,by simp,by simp[szL,Zaj,k2],by simp[ZeQ];omega,by simp[grL,Zaj,k4]⟩
  ·obtain⟨t0,rest,rfl⟩:∃t r,ts=t::r:=by cases ts with
    | nil=>simp at h0
    | cons t r=>exact⟨t,r,rfl⟩
   have hF:=F.start hJ (by omega)
   obtain⟨bb,kL,jX,o',u',hu'⟩:=cG.base aM (by simp)
   subst kL
   obtain⟨bx,ox,nO,lR⟩:=Zes aM (i:=0) (t:=t0) rfl
   cases nO
   rw[List.length_cons]at iW cT
   refine⟨_,_,rfl,⟨by omega,by simp⟩,_,_,_,_,_,_,_,_,lR,λb2=>Zaa rfl ⟨⟨by omega,by rw[List.length_cons];omega⟩,?_⟩⟩
   refine⟨λxs css tvs m' q=>∃(k:Nat)(t:T),k<=rest.length/\xs=[.int .i64 k]/\css=[t.cs]/\m1.le m'/\Rep m' t/\F t (rest.drop k)/\q=rest.length - k,⟨rest.length,0,t0,by omega,rfl,rfl,Mem.le_refl _,(cB t0 (by simp)).mono dP,hF,by omega⟩,?_⟩
   rintro z cs m2 q2 _ ⟨k,t,hk,hz,cR,bC,jY,tn,jG⟩
   obtain rfl:z=k:=by simpa using hz
   obtain rfl:cs=t.cs:=by simpa using cR
   have x6:((t0::rest).length - Int.toNat 1)=rest.length:=by simp
   simp only[x6]
   refine Zab (λaN=>?_) (λuZ=>Zaa rfl (ZfV (mLt aU bC) ⟨t,rfl,jY,tn.done⟩))
   have aT:k < rest.length:=by have:=of_decide_eq_true aN;omega
   obtain⟨x,hx⟩:=Zit aT
   obtain⟨b3,o3,x7,p7⟩:=Zes (aM.mono bC) (i:=k+1) (t:=x) (by simpa using hx)
   cases x7
   have eQ:IntKind.i64.wrap ((k:Int)+1)=((k+1:Nat):Int):=by rw[Zbl (by omega) (by omega)];rfl
   simp only[eQ,Int.toNat_natCast]
   rw[Zmp hx]at tn
   have bK:=tn.sz
   rw[Zjc]at bK
   have xK:=Zep (k:=4) (t:=t)
   have wy:=Zep (k:=4) (t:=x)
   have kT:Zbk (some (⟨bb,0,none⟩:Addr)) (Int.toNat 1) c2 8=some ⟨bb,0+8,none⟩:=by
    unfold Zbk
    have:Nat.beq c2 1=false:=by
     cases hb:Nat.beq c2 1 with
     | false=>rfl
     | true=>have:=Nat.eq_of_beq_eq_true hb;omega
    show(bif Nat.beq c2 1 then _ else some (Addr.add _ (1*8)))=_
    rw[this,ZbN];rfl
   refine⟨_,_,kT,⟨by omega,by omega⟩,_,_,_,_,_,_,_,_,by rw[show 0+8+k*8=0+(k+1)*8 by omega];exact p7,λb4=>Zaa rfl (Za7 (Zlw 4 t x (.inr rfl) m2 jY ((cB x (by simp[List.mem_of_getElem? hx])).mono (mLt dP bC)) (by omega) (by omega)) ZcD (ZhN λt' m3 cJ hr' ht'=>⟨by trivial,by trivial,rest.length - (k+1),by omega,k+1,t',by omega,rfl,rfl,mLt bC cJ,hr',?_,by omega⟩))⟩
   obtain⟨a3,c3,ht'⟩:=ht'
   rw[ht'];exact tn.step _ _
end Go.Proofs.Ytgclajkldphoaaa
set_option linter.unusedVariables false
set_option linter.unusedSimpArgs false
namespace Go.Proofs.Ytgclajkldphoaaa
open Go Go.Eng Go.Rx Go.Proofs Go.RowKit Go.ChangeShapes Go.WideShapes Go.ChangeAt
set_option maxRecDepth 100000
theorem Zur:ownKnob Try.prog.godebug=none:=by kernel_rfl
theorem Ztt:laidOutB Try.prog=true:=by kernel_rfl
theorem Ztu{n:Int}(h:(Lit.int .u8 n).wf=true):0<=n/\n < 256:=by
 have:0<=n/\n<=255:=by simpa[Lit.wf,IntKind.min,IntKind.max,IntKind.signed,IntKind.bits]using h
 omega
theorem Zus{n:Int}(h:(Lit.int .i64 n).wf=true) : -9223372036854775808<=n/\n<=9223372036854775807:=by
 simpa[Lit.wf,IntKind.min,IntKind.max,IntKind.signed,IntKind.bits]using h
theorem Zqc{w:World}{a:Addr}{v:Value}(h:w.cell? ((a.add (0*3)).add 0)=some v):∃b o,a=⟨b,o,none⟩:=by
 obtain⟨b,o,sp⟩:=a
 cases sp with
 | none=>exact⟨b,o,rfl⟩
 | some s=>
  exfalso
  have e:(Addr.add (Addr.add ⟨b,o,some s⟩ (0*3)) 0)=⟨b,o,some s⟩:=rfl
  rw[e]at h
  unfold World.cell? at h
  split at h
  ·simp at h
  ·cases h
theorem Zq4:Try.prog.cellsOf 22=1/\Try.prog.cellsOf 78=3:=⟨by kernel_rfl,by kernel_rfl⟩
theorem Zqd{H:Type}{enc:TypeId×Value->H}{w:World}{base:Nat}{sp:Nat->Bool}{fJ:Bool}{n:Nat}{cs:List Value}{x:DataW H×List MemPlace}(h:DataW.trod enc Try.prog w base sp fJ n 78 cs=some x):
  ∃s:Nat×Nat×Nat,cs=[.int .u8 s.1,.int .u8 s.2.1,.int .u8 s.2.2]/\s.1 < 256/\s.2.1 < 256/\s.2.2 < 256:=by
 obtain⟨xs,k,rfl,rfl,aX,cH,hx⟩:=DataW.trod_struct (fs:=(Try.prog.fieldsOf 78)) (by kernel_rfl) h
 rw[Zq4.2]at aX
 have hf:(Try.prog.fieldsOf 78)=#[⟨ "Kind",5,0,false, "", "",0⟩,⟨ "N",5,1,false, "", "",1⟩,⟨ "M",5,2,false, "", "",2⟩]:=by kernel_rfl
 rw[hf]at hx cH
 have hc:Try.prog.cellsOf 5=1:=by kernel_rfl
 obtain⟨c0,c1,c2,rfl⟩:∃a b c,cs=[a,b,c]:=by
  match cs,aX with
  | [a,b,c],_=>exact⟨a,b,c,rfl⟩
 have get:∀i,i < 3->∃z,xs[i]?=some z:=λi hi=>⟨xs[i]'(by rw[cH];exact hi),List.getElem?_eq_getElem _⟩
 have h0:DataW.trod enc Try.prog w base sp fJ k 5 (List.take (Try.prog.cellsOf 5) (List.drop 0 [c0,c1,c2]))=xs[0]?:=hx 0 _ rfl
 have h1:DataW.trod enc Try.prog w base sp fJ k 5 (List.take (Try.prog.cellsOf 5) (List.drop 1 [c0,c1,c2]))=xs[1]?:=hx 1 _ rfl
 have h2:DataW.trod enc Try.prog w base sp fJ k 5 (List.take (Try.prog.cellsOf 5) (List.drop 2 [c0,c1,c2]))=xs[2]?:=hx 2 _ rfl
 obtain⟨z0,e0⟩:=get 0 (by omega)
 obtain⟨z1,e1⟩:=get 1 (by omega)
 obtain⟨z2,e2⟩:=get 2 (by omega)
 rw[e0,hc]at h0
 rw[e1,hc]at h1
 rw[e2,hc]at h2
 have g0:DataW.trod enc Try.prog w base sp fJ k 5 [c0]=some z0:=h0
 have g1:DataW.trod enc Try.prog w base sp fJ k 5 [c1]=some z1:=h1
 have g2:DataW.trod enc Try.prog w base sp fJ k 5 [c2]=some z2:=h2
 obtain⟨n0,k0,_,w0⟩:=DataW.trod_int Try.underlying5 g0
 obtain⟨n1,k1,_,w1⟩:=DataW.trod_int Try.underlying5 g1
 obtain⟨n2,k2,_,w2⟩:=DataW.trod_int Try.underlying5 g2
 simp at k0 k1 k2
 have:=Ztu w0
 have:=Ztu w1
 have:=Ztu w2
 obtain⟨m0,rfl⟩:∃k:Nat,n0=k:=⟨n0.toNat,by omega⟩
 obtain⟨m1,rfl⟩:∃k:Nat,n1=k:=⟨n1.toNat,by omega⟩
 obtain⟨m2,rfl⟩:∃k:Nat,n2=k:=⟨n2.toNat,by omega⟩
 exact⟨(m0,m1,m2),by rw[k0,k1,k2],by simp;omega,by simp;omega,by simp;omega⟩
theorem ZmV{H:Type}{enc:TypeId×Value->H}{W:World}{fJ:Bool}{n:Nat}{cs:List Value}{x:DataW H×List MemPlace}(h:DataW.trod enc Try.prog W 0 (λ_=>true) fJ n 22 cs=some x):
  ∃l a c,cs=[.slice a l.length c]/\Sm (ZsU W) a l/\l.length<=c:=by
 rcases Go.Deep.open_slice Try.underlying22 h with⟨cR,_⟩|⟨a,len,m,m',n',D,Pl,cR,hb,hl,hm,eE,_,hx⟩
 ·exact⟨[],none,0,cR,⟨by simp,by simp,λi s hi=>by simp at hi⟩,Nat.le_refl _⟩
 ·simp only[if_true]at eE
  subst eE
  rw[Zq4.2]at hx
  obtain⟨F,hF⟩:=Go.Deep.choose_lt (α:=Nat×Nat×Nat) (n:=m') (p:=λi s=>(∀j v,[Value.int .u8 (s.1:Nat),.int .u8 (s.2.1:Nat),.int .u8 (s.2.2:Nat)][j]?=some v->W.cell? ((a.add (i*3)).add j)=some v)/\s.1 < 256/\s.2.1 < 256/\s.2.2 < 256) (λi hi=>by
   obtain⟨cs,h1,h2⟩:=hx i hi
   obtain⟨s,rfl,hs⟩:=Zqd h2
   obtain⟨_,_,hc⟩:=World.cells?_some h1
   refine⟨s,λj v hj=>?_,hs⟩
   have aN:=(List.getElem?_eq_some_iff.1 hj).1
   rw[hc j (by simpa using aN)];exact hj)
  refine⟨(List.range len).map F,some a,m',by rw[cR];simp,⟨by simp[maxLen]at hm ⊢;omega,?_,?_⟩,by simpa using hl⟩
  ·intro s hs
   obtain⟨i,hi,rfl⟩:=List.mem_map.1 hs
   exact(hF i (by have:=List.mem_range.1 hi;omega)).2
  ·intro i s hi
   rw[List.getElem?_map]at hi
   obtain⟨i',hi',rfl⟩:=Option.map_eq_some_iff.1 hi
   have aN:i < len:=by have:=(List.getElem?_eq_some_iff.1 hi').1;simpa using this
   have e:i'=i:=by rw[List.getElem?_range aN]at hi';exact(Option.some.inj hi').symm
   subst e
   obtain⟨h1,_⟩:=hF i' (by omega)
   obtain⟨b,o,rfl⟩:=Zqc ((hF 0 (by omega)).1 0 _ rfl)
   refine⟨b,o,rfl,λj v hj=>?_⟩
   have:=h1 j v hj
   rw[ZbN,ZbN]at this
   exact this
theorem ZmW(a:Option Addr)(n c:Nat):(Value.slice a n c).cells.toList=[.slice a n c]:=rfl
theorem ZmX{H:Type}{enc:TypeId×Value->H}{W:World}{fJ:Bool}{v:Value}{d:DataW H}{ps:List MemPlace}{r:Reach}{b0:Nat}(fT:Value.okWide Try.prog W r b0 22 v)(h:DataW.Trod enc Try.prog W 0 (λ_=>true) fJ 22 v d ps):
  ∃l a c,v=.slice a l.length c/\Sm (ZsU W) a l/\l.length<=c:=by
 obtain⟨n,h⟩:=h
 obtain⟨a0,len0,cap0,rfl⟩:=okWide_slice Try.underlying22 fT
 rw[ZmW]at h
 obtain⟨l,a,c,cR,h1,h2⟩:=ZmV h
 exact⟨l,a,c,by simpa using cR,h1,h2⟩
end Go.Proofs.Ytgclajkldphoaaa
