/- Part of the proof: conditions and contracts of functions of this program. No condition of its own. -/
import Derived.Test.YtgclajkldphoaaaPEnv
import Derived.Test.YtgclajkldphoaaaPVC
import Derived.Test.YtgclajkldphoaaaMr
import Derived.Test.YtgclajkldphoaaaPVD
import Derived.Test.YtgclajkldphoaaaMc
import Derived.Test.YtgclajkldphoaaaRows
set_option linter.unusedVariables false
namespace Go.Proofs.Ytgclajkldphoaaa
open Go Go.Eng Go.Proofs Go.RowKit
open Go.Value (int slice agg bool string tuple func)
open Go.IntKind (u8 u64 i64)
set_option maxRecDepth 100000
noncomputable def Zn8:Env:={ EB with
 frzNew:=[2] }
def Zip(aE aJ aH aI p1:Int)(m:Mem)(R:RT):Prop:=
 ∀(b:Nat)(m':Mem),Mem.le m m'->Mem.reads m' b 0 [int u64 aE,int u64 aJ,int u64 aH,int u64 aI]->(0:Int)<=(6:Int)/\Zag (Int.fdiv p1 ((2:Int) ^ 6)) 4/\Eng.Zql [int u64 aE,int u64 aJ,
 int u64 aH,int u64 aI] (0+Int.toNat (Int.fdiv p1 ((2:Int) ^ 6))*1) λ(v:Value)=>chk (ZaQ u64 v&&true) ((0:Int)<=IntKind.wrap u8 (↑(BitVec.toNat (BitVec.ofInt 8 p1&&&BitVec.ofInt 8 (63:Int)))
 : Int)/\∃(m'':Mem),Mem.le m m''/\Mem.le m'' m'/\R (bool (IntKind.wrap u64 (↑(BitVec.toNat (BitVec.ofInt 64 (Int.fdiv (RowKit.intOf v) ((2:Int) ^ min (Int.toNat (IntKind.wrap u8 (↑(BitVec.toNat (BitVec.ofInt 8
 p1&&&BitVec.ofInt 8 (63:Int))):Int))) 64))&&&BitVec.ofInt 64 (1:Int))):Int) == (1:Int))) m'' [])
theorem ZmK(aE aJ aH aI p1:Int)(m:Mem)(R:RT)(h:Zip aE aJ aH aI p1 m R):CX Try.prog 92 #[.agg #[.int .u64 aE,.int .u64 aJ,.int .u64 aH,.int .u64 aI],.int .u8 p1] m [] R:=
 Zaj (E:=Zn8) ZaP mix Try.func92 [.v (.agg #[.int .u64 aE,.int .u64 aJ,.int .u64 aH,.int .u64 aI]),.v (.int .u8 p1)] [] (by kernel_rfl) (Eq.mp (by kernel_rfl) h)
noncomputable def Zc4:Env:={ EB with
 loops:=(λi=>bif Nat.beq i 4 then⟨[(13,.int .i64)],[],[],false⟩ else⟨[],[],[],false⟩)
 dr:=(λi=>bif Nat.beq i 6 then[⟨0,[],[],none,[],[]⟩,⟨1,[],[],none,[],[]⟩,⟨2,[],[],none,[0,1],[]⟩,⟨3,[],[],none,[0,1,2],[]⟩,⟨4,[],[],none,[],[]⟩,⟨5,[],[],none,[],[]⟩,⟨6,[],[],none,[4,5],[]⟩,⟨7,[],[],none,[4,5,6],[]⟩,⟨8,[],[],none,[0,1,2,3,4,5,6,7],[]⟩]else[]) }
def ZbL(p0a:Option Addr)(p0n p0c:Nat)(p1a:Option Addr)(p1n p1c:Nat)(m:Mem)(R:RT):Prop:=
 br (!(↑p0n:Int) == (↑p1n:Int)) (∃(m'':Mem),Mem.le m m''/\Mem.le m'' m/\R (bool false) m'' []) (∃(I:IT),(∃(n:Nat),I [int i64 0] [] [] m n)/\∀(n:Int)(m':Mem)(n_1:Nat),Mem.le m m'->I [int i64
 n] [] [] m' n_1->br (decide (n < (↑p0n:Int))) (∃(b:Nat),∃(o:Nat),p0a=some (Addr.mk b o none)/\Zag n p0n/\∃(v:Value),m' b (o+Int.toNat n*1)=some v/\∃(b:Nat),∃(o:Nat),p1a=some
 (Addr.mk b o none)/\Zag n p1n/\∃(v_1:Value),m' b (o+Int.toNat n*1)=some v_1/\chk (ZaQ i64 v&&ZaQ i64 v_1) (br (!RowKit.intOf v == RowKit.intOf v_1) (∃(m'':Mem),Mem.le m m''/\Mem.le m'' m'/\R
 (bool false) m'' []) (∃(n':Nat),n' < n_1/\I [int i64 (IntKind.wrap i64 (n+(1:Int)))] [] [] m' n'))) (∃(m'':Mem),Mem.le m m''/\Mem.le m'' m'/\R (bool true) m'' []))
theorem ZcY(p0a:Option Addr)(p0n p0c:Nat)(p1a:Option Addr)(p1n p1c:Nat)(m:Mem)(R:RT)(h:ZbL p0a p0n p0c p1a p1n p1c m R):CX Try.prog 35 #[.slice p0a p0n p0c,.slice p1a p1n p1c] m [] R:=
 Zaj (E:=Zc4) ZaP mix Try.func35 [.v (.slice p0a p0n p0c),.v (.slice p1a p1n p1c)] [] (by kernel_rfl) (Eq.mp (by kernel_rfl) h)
end Go.Proofs.Ytgclajkldphoaaa
set_option linter.unusedVariables false
set_option linter.unusedSimpArgs false
namespace Go.Proofs.Ytgclajkldphoaaa
open Go Go.Eng Go.Rx Go.Proofs Go.RowKit
set_option maxRecDepth 100000
theorem ZuO(i:Nat):Int.tdiv (i:Int) 64=((i / 64:Nat):Int):=rfl
theorem Ztk(i:Nat):Int.tmod (i:Int) 64=((i % 64:Nat):Int):=rfl
theorem sh6:∀c:Nat,c < 256->IntKind.u8.wrap ((BitVec.ofInt 8 (c:Int)&&&BitVec.ofInt 8 63).toNat:Int)=((c % 64:Nat):Int)/\Int.fdiv (c:Int) (2 ^ 6)=((c / 64:Nat):Int):=by decide
theorem Ztl(t:T)(c:Nat)(hc:c < 256)(m:Mem)(hr:Rep m t):CX Try.prog 92 #[.agg #[.int .u64 t.s0,.int .u64 t.s1,.int .u64 t.s2,.int .u64 t.s3],.int .u8 c] m [] (Ret (.bool (t.hasB c))):=by
 apply ZmK
 unfold Zip
 intro b m1 aT _
 obtain⟨h1,h2⟩:=sh6 c hc
 simp only[h1,h2,Int.toNat_natCast,Nat.zero_add,Nat.mul_one]
 have bK:=ZsQ hr
 have hw:∃w:Int,[Value.int .u64 t.s0,.int .u64 t.s1,.int .u64 t.s2,.int .u64 t.s3][c / 64]?=some (.int .u64 w)/\0<=w/\w < 18446744073709551616/\t.hasB c=w.toNat.testBit (c % 64):=by
  have:c / 64=0\/c / 64=1\/c / 64=2\/c / 64=3:=by omega
  unfold T.hasB
  rcases this with e|e|e|e
  ·exact⟨t.s0,by rw[e];rfl,bK.s0.1,bK.s0.2,by simp[e]⟩
  ·exact⟨t.s1,by rw[e];rfl,bK.s1.1,bK.s1.2,by simp[e]⟩
  ·exact⟨t.s2,by rw[e];rfl,bK.s2.1,bK.s2.2,by simp[e]⟩
  ·exact⟨t.s3,by rw[e];rfl,bK.s3.1,bK.s3.2,by simp[e]⟩
 obtain⟨w,dX,dP,mO,tn⟩:=hw
 refine⟨by omega,⟨by omega,by omega⟩,Zas dX (Zaa rfl ⟨by omega,Zah aT ?_⟩)⟩
 rw[tn,Nat.min_eq_left (by omega)]
 obtain⟨n,rfl⟩:∃n:Nat,w=n:=⟨w.toNat,by omega⟩
 show Value.bool (IntKind.u64.wrap _ == 1)=_
 simp only[intOf]
 rw[Zrv _ _ (by omega)]
 simp
end Go.Proofs.Ytgclajkldphoaaa
set_option linter.unusedVariables false
set_option linter.unusedSimpArgs false
namespace Go.Proofs.Ytgclajkldphoaaa
open Go Go.Eng Go.Proofs Go.RowKit Go.Rx
end Go.Proofs.Ytgclajkldphoaaa
set_option linter.unusedVariables false
set_option linter.unusedSimpArgs false
set_option linter.unusedSectionVars false
namespace Go.Proofs.Ytgclajkldphoaaa
open Go Go.Eng Go.Rx Go.Proofs Go.RowKit
set_option maxRecDepth 100000
abbrev txV(a:Option Addr)(s:List Nat)(c:Nat)(back:Bool):Value:=.agg #[.slice a s.length c,.bool back]
def IH(a:Option Addr)(s:List Nat)(c:Nat)(back:Bool)(t:T):Prop:=∀x∈t.subs,∀(f:Nat)(m:Mem),f < ZvS->Rep m x->Byt m a s->CX Try.prog 64 #[txV a s c back,x.v,plV f] m [] (Ret (plV (x.lead s back f)))
section
variable (t:T) (a:Option Addr) (s:List Nat) (c:Nat) (back:Bool) (f:Nat) (m:Mem) (hr:Rep m t) (hb:Byt m a s) (hs:s.length<=512) (ih:IH a s c back t) (hf:f < ZvS)
include hr hb hs ih hf
end
end Go.Proofs.Ytgclajkldphoaaa
set_option linter.unusedVariables false
set_option linter.unusedSimpArgs false
set_option linter.unusedSectionVars false
namespace Go.Proofs.Ytgclajkldphoaaa
open Go Go.Eng Go.Rx Go.Proofs Go.RowKit
set_option maxRecDepth 100000
def Zq2(l:List Nat):List Value:=l.map λi:Nat=>.int .i64 (i:Nat)
end Go.Proofs.Ytgclajkldphoaaa
set_option linter.unusedVariables false
set_option linter.unusedSimpArgs false
set_option linter.unusedSectionVars false
namespace Go.Proofs.Ytgclajkldphoaaa
open Go Go.Eng Go.Rx Go.Proofs Go.RowKit
set_option maxRecDepth 100000
theorem Rgs.get{m:Mem}{a l}(h:Rgs m a l){i:Nat}{r:Rg}(hi:l[i]?=some r):(∃b o,a=some ⟨b,o,none⟩/\m.reads b (o+i*10) r.cs)/\Rep m r.t:=by
 refine⟨?_,h.2.2 r (List.mem_of_getElem? hi)⟩
 rcases h.2.1 with h|⟨b,o,h1,h2⟩
 ·subst h;simp at hi
 ·exact⟨b,o,h1,h2 i r hi⟩
theorem ZkX(x y:List Nat)(ax ay:Option Addr)(cx cy:Nat)(m:Mem)(hx:rowRd m ax (Zq2 x))(hy:rowRd m ay (Zq2 y))(aW:x.length<=1000000000000000):CX Try.prog 35 #[.slice ax x.length cx,.slice ay y.length cy] m [] (Ret (.bool (x == y))):=by
 apply ZcY
 unfold ZbL
 refine Zab (λh=>Zah (Mem.le_refl _) ?_) (λh=>?_)
 ·have:¬x=y:=λe=>by subst e;simp at h
  rw[show(x == y)=false by simpa using this]
 have hl:x.length=y.length:=by
  simp only[Bool.not_eq_false',beq_iff_eq]at h
  omega
 refine⟨λxs css _ m' q=>∃k:Nat,k<=x.length/\xs=[.int .i64 k]/\x.take k=y.take k/\m.le m'/\q=x.length - k,⟨_,0,by omega,rfl,rfl,Mem.le_refl _,rfl⟩,?_⟩
 rintro z m1 q aT ⟨k,hk,hz,uP,_,hq⟩
 obtain rfl:z=k:=by simpa using hz
 refine Zab (λaM=>?_) (λcQ=>?_)
 ·have aQ:k < x.length:=by have:=of_decide_eq_true aM;omega
  obtain⟨u,hu⟩:=Zin aQ
  obtain⟨v,hv⟩:=Zin (l:=y) (k:=k) (by omega)
  have eH:IntKind.i64.wrap ((k:Int)+1)=((k+1:Nat):Int):=by rw[Zbg (by omega) (by omega)];rfl
  rcases hx.mono aT with hx|⟨b,o,h1,h2⟩
  ·rw[show x=[] by simpa[Zq2]using hx]at aQ;simp at aQ
  rcases hy.mono aT with hy|⟨b',o',h1',h2'⟩
  ·rw[hl,show y=[] by simpa[Zq2]using hy]at aQ;simp at aQ
  simp only[eH,Int.toNat_natCast,Nat.mul_one]
  refine⟨b,o,h1,⟨by omega,by omega⟩,_,h2 k (.int .i64 u) (by rw[Zq2,List.getElem?_map,hu];rfl),b',o',h1',⟨by omega,by omega⟩,_,h2' k (.int .i64 v) (by rw[Zq2,List.getElem?_map,hv];rfl),Zaa rfl (Zab (λhc=>Zah aT ?_) (λhc=>⟨x.length - (k+1),by omega,k+1,by omega,rfl,?_,aT,rfl⟩))⟩
  ·have:¬x=y:=λe=>by
    subst e
    rw[hu]at hv;cases hv
    simp at hc
   rw[show(x == y)=false by simpa using this]
  ·have:u=v:=by
    have:=hc
    simp[RowKit.intOf]at this
    omega
   rw[Zcb hu,Zcb hv,uP,this]
 ·have:k=x.length:=by have:=of_decide_eq_false cQ;omega
  subst this
  rw[List.take_length,hl,List.take_length]at uP
  refine Zah aT ?_
  rw[uP];simp
end Go.Proofs.Ytgclajkldphoaaa
set_option linter.unusedVariables false
set_option linter.unusedSimpArgs false
set_option linter.unusedSectionVars false
namespace Go.Proofs.Ytgclajkldphoaaa
open Go Go.Eng Go.Rx Go.Proofs Go.RowKit
set_option maxRecDepth 100000
theorem ZuP{n:Int}(h1:0<=n)(h2:n < 256):IntKind.u8.wrap n=n:=by
 unfold IntKind.wrap
 simp only[IntKind.bits,IntKind.signed,Bool.false_and,Bool.false_eq_true,if_false]
 have e:(2:Int) ^ 8=256:=by decide
 rw[e];omega
theorem ZrK(t:T)(m:Mem)(hr:Rep m t):CX Try.prog 40 #[t.v] m [] (Zi3 (λu=>∃a c,u=ZaN 6 0 0 a c [t])):=by
 apply ZhI
 unfold ZeY
 intro b m1 aT _ b1 b2 hf
 have bN:=Mem.le_add hf t.cs
 refine ZfQ (mLt aT bN) ⟨ZaN 6 0 0 (some ⟨b2,0,none⟩) 1 [t],rfl,Zbh (Zhp ?_ (hr.mono (mLt aT bN))) (by omega) (by omega) (by omega),_,_,rfl⟩
 intro j v hj
 rw[Nat.zero_add,Mem.add_same];exact hj
theorem Ztm(t:T)(mn mx:Int)(h1 : -9223372036854775808<=mn/\mn<=9223372036854775807)(h2 : -9223372036854775808<=mx/\mx<=9223372036854775807)(m:Mem)(hr:Rep m t):CX Try.prog 41 #[t.v,.int .i64 mn,.int .i64 mx] m [] (Zi3 (λu=>∃a c,u=ZaN 5 mn mx a c [t])):=by
 apply ZkR
 unfold ZgI
 intro b m1 aT _ b1 b2 hf
 have bN:=Mem.le_add hf t.cs
 refine ZfQ (mLt aT bN) ⟨ZaN 5 mn mx (some ⟨b2,0,none⟩) 1 [t],rfl,Zbh (Zhp ?_ (hr.mono (mLt aT bN))) (by omega) h1 h2,_,_,rfl⟩
 intro j v hj
 rw[Nat.zero_add,Mem.add_same];exact hj
def ZbE(s:ByteArray):List Nat:=s.data.toList.map λb=>b.toNat
theorem Zf2(s:ByteArray):Zak s=(ZbE s).map λc:Nat=>Value.int .u8 c:=by
 unfold Zak ZbE
 rw[List.map_map];rfl
theorem Zkj(s:ByteArray):(ZbE s).length=s.size:=by unfold ZbE;rw[List.length_map,Array.length_toList];rfl
theorem Zqa(s:ByteArray):∀c∈ZbE s,c < 256:=by
 intro c hc
 unfold ZbE at hc
 obtain⟨b,_,rfl⟩:=List.mem_map.1 hc
 exact b.toBitVec.isLt
theorem ZrL{s:ByteArray}{k c:Nat}(h:(ZbE s)[k]?=some c):Zle s k=(c:Int):=by
 unfold ZbE at h
 rw[List.getElem?_map]at h
 obtain⟨b,hb,rfl⟩:=Option.map_eq_some_iff.1 h
 unfold Zle
 rw[List.getD_eq_getElem?_getD,hb];rfl
theorem ZmL(s:ByteArray)(hs:(ZbE s).length<=100000)(m:Mem):CX Try.prog 37 #[.string s] m [] (Zi3 (λt=>t=Zi6 (ZbE s))):=by
 apply ZhJ
 unfold ZeZ
 intro b b1
 have aW:=Zkj s
 refine⟨λxs css tvs m' q=>∃k:Nat,k<=s.size/\xs=[.int .i64 k]/\css=[ZqJ ((ZbE s).take k)]/\q=s.size - k,⟨_,0,by omega,rfl,rfl,rfl⟩,?_⟩
 rintro n cs m1 q aT ⟨k,hk,hn,cO,hq⟩
 obtain rfl:n=k:=by simpa using hn
 obtain rfl:cs=ZqJ ((ZbE s).take k):=by simpa using cO
 refine Zab (λaM=>?_) (λcQ=>?_)
 ·have aQ:k < s.size:=by have:=of_decide_eq_true aM;omega
  obtain⟨c,hc⟩:=Zin (l:=ZbE s) (k:=k) (by omega)
  have oR:=Zqa s c (List.mem_of_getElem? hc)
  have hw:IntKind.i64.wrap ((k:Int)+1)=((k+1:Nat):Int):=by rw[Zbg (by omega) (by omega)];rfl
  have x3:IntKind.u8.wrap (Int.tdiv (c:Int) 64)=((c / 64:Nat):Int):=by rw[ZuO];exact ZuP (by omega) (by omega)
  have hr:IntKind.u64.wrap (1*2 ^ min (Int.toNat (Int.tmod (c:Int) 64)) 64)=((2 ^ (c % 64):Nat):Int):=by
   rw[Ztk,Int.toNat_natCast,Nat.min_eq_left (by omega),Int.one_mul]
   have:=ZsS (2 ^ (c % 64)) (by
    have:2 ^ (c % 64) < 2 ^ 64:=Nat.pow_lt_pow_right (by omega) (by omega)
    exact this)
   rw[<-this];push_cast;rfl
  have h2:(2:Nat) ^ (c % 64) < 18446744073709551616:=by
   have:(2:Nat) ^ (c % 64) < 2 ^ 64:=Nat.pow_lt_pow_right (by omega) (by omega)
   exact this
  have hj:c / 64 < 4:=by omega
  simp only[hw,Int.toNat_natCast,ZrL hc,x3,hr,Nat.zero_add,Nat.mul_one]
  refine⟨⟨by omega,by omega⟩,by omega,⟨by omega,by omega⟩,Zas (ZpY _ hj) ⟨⟨by omega,by omega⟩,by omega,by rw[Ztk];omega,Zaa rfl ⟨⟨by omega,by omega⟩,Zaa (by rw[Nat.ble_eq];show c / 64+1<=4;omega) ⟨by trivial,s.size - (k+1),by omega,k+1,by omega,rfl,?_,rfl⟩⟩⟩⟩
  simp only[intOf]
  rw[Zru _ _ (ZqI _ _) h2,ZnW _ rfl hj,Zcb hc]
 ·have:k=s.size:=by have:=of_decide_eq_false cQ;omega
  subst this
  rw[<-aW,List.take_length]
  exact Zaa rfl (Zaa rfl (Zah aT ⟨Zi6 (ZbE s),rfl,Zmh _ m,rfl⟩))
theorem Zn9(n:Nat)(hn:n < 256)(m:Mem):CX Try.prog 38 #[.int .u8 n] m [] (λv _ _=>∃s,v=.string s/\ZbE s=Zdr n):=by
 apply Zgg
 unfold ZdJ
 intro b hf
 have ht:Int.tmod (n:Int) 12=((n % 12:Nat):Int):=rfl
 simp only[ht,Int.toNat_natCast,Nat.mul_one]
 refine⟨by omega,⟨by omega,by omega⟩,?_⟩
 have h:n % 12=0\/n % 12=1\/n % 12=2\/n % 12=3\/n % 12=4\/n % 12=5\/n % 12=6\/n % 12=7\/n % 12=8\/n % 12=9\/n % 12=10\/n % 12=11:=by omega
 unfold Zdr
 rcases h with e|e|e|e|e|e|e|e|e|e|e|e <;>
 ·rw[e]
  refine Zas rfl ?_
  exact⟨_,Mem.le_add hf _,Mem.le_refl _,_,rfl,rfl⟩
end Go.Proofs.Ytgclajkldphoaaa
set_option linter.unusedVariables false
set_option linter.unusedSimpArgs false
set_option linter.unusedSectionVars false
namespace Go.Proofs.Ytgclajkldphoaaa
open Go Go.Eng Go.Rx Go.Proofs Go.RowKit
set_option maxRecDepth 100000
end Go.Proofs.Ytgclajkldphoaaa
set_option linter.unusedVariables false
set_option linter.unusedSimpArgs false
set_option linter.unusedSectionVars false
namespace Go.Proofs.Ytgclajkldphoaaa
open Go Go.Eng Go.Rx Go.Proofs Go.RowKit
set_option maxRecDepth 100000
theorem ZeJ(k:Int)(t:T):Zbv k t=if t.k=k then t.subs else if k=3/\t.k=1 then[]else[t]:=rfl
theorem ZdZ(l:List T):∀u∈Rx.Zcr l,u.oneCell'=true:=by
 intro u hu
 simp only[Rx.Zcr,List.mem_flatten,List.mem_map]at hu
 obtain⟨_,⟨t,_,rfl⟩,h⟩:=hu
 simp only[T.cs,List.mem_cons,List.not_mem_nil,or_false,T.sl]at h
 rcases h with rfl|rfl|rfl|rfl|rfl|rfl|rfl|rfl <;> rfl
theorem Zlp(k:Int)(t u:T)(hk:k=3\/k=4)(m:Mem)(hr:Rep m t)(hu:Rep m u)(ht:(Zbv k t).length<=10000)(x4:(Zbv k u).length<=10000):CX Try.prog 39 #[.int .u8 k,t.v,u.v] m [] (Zi3 (λr=>∃a c,r=Zge k a c (Zbv k t++Zbv k u))):=by
 apply ZhK
 unfold Ze0
 intro b m1 aT _ b1 m2 bB _ b2 b3 rh
 have gN:=mLt aT bB
 have cW:m.le (m2.add b3 (t.cs++u.cs)):=mLt gN (Mem.le_add rh _)
 refine⟨λxs css tvs m' q=>∃(i:Nat)(l:List T)(a:Option Addr)(c:Nat),i<=2/\xs=[.slice a l.length c,.int .i64 i]/\tvs=[.slice a l.length c]/\l=(([t,u].take i).map (Zbv k)).flatten/\rowRd m' a (Rx.Zcr l)/\q=2 - i,⟨2,0,[],none,0,by omega,rfl,rfl,rfl,.inl rfl,rfl⟩,?_⟩
 rintro a n c z a1 n1 c1 m3 q cE ⟨i,l,a',c',hi,cI,fW,hl,aL,hq⟩
 simp only[List.cons.injEq,Value.slice.injEq,Value.int.injEq,true_and,and_true]at cI fW
 obtain⟨⟨rfl,rfl,rfl⟩,rfl⟩:=cI
 obtain⟨rfl,rfl,rfl⟩:=fW
 have jJ:=mLt cW cE
 have p6:l.length<=20000:=by
  rw[hl]
  have:i=0\/i=1\/i=2:=by omega
  rcases this with rfl|rfl|rfl <;> simp <;> omega
 refine Zab (λaM=>?_) (λcQ=>?_)
 ·have h2:i=0\/i=1:=by have:=of_decide_eq_true aM;omega
  rcases h2 with rfl|rfl
  ·
   refine⟨⟨by omega,by omega⟩,Zaa rfl λb4=>Zaa rfl (Zas (v:=.int .u8 t.k) rfl (Zaa rfl (Zab (λdD=>Zas (v:=t.sl) rfl (Zaa rfl ?_)) (λdD=>?_))))⟩
   ·have fB:t.k=k:=by simpa[RowKit.intOf]using dD
    have hj:Zbv k t=t.subs:=by rw[ZeJ,if_pos fB]
    have aW:=ht
    rw[hj]at aW
    refine⟨.inl rfl,Rx.Zcr l,Rx.Zcr t.subs,Zao _,Zao _,aL,(ZfU (hr.subs)).mono jJ,ZdZ _,?_,?_,λa2 c2 m4 cF bY=>⟨by trivial,1,by omega,1,l++t.subs,a2,c2,by omega,?_,?_,?_,?_,?_⟩⟩
    ·simp only[T.sl,slN];omega
    ·simp only[T.sl,slN];omega
    ·rw[List.length_append];rfl
    ·rw[List.length_append];rfl
    ·rw[hl,<-hj];simp
    ·rw[ZaC];exact bY
    ·omega
   ·have fB:¬t.k=k:=by simpa[RowKit.intOf]using dD
    refine⟨k == 3&&t.k == 1,Zab (λh=>Zas (v:=.int .u8 t.k) rfl (Zaa rfl ⟨by trivial,by trivial,?_⟩)) (λh=>⟨by trivial,by trivial,?_⟩),Zab (λh=>⟨by trivial,1,by omega,1,l,_,_,by omega,rfl,rfl,?_,aL,by omega⟩) (λh=>Zaa rfl λb6 qC=>?_)⟩
    ·rw[h];rfl
    ·rw[h];rfl
    ·have:k=3/\t.k=1:=by simpa using h
     have hj:Zbv k t=[]:=by rw[ZeJ,if_neg fB,if_pos this]
     rw[hl];simp[hj]
    ·have:¬(k=3/\t.k=1):=by simpa using h
     have hj:Zbv k t=[t]:=by rw[ZeJ,if_neg fB,if_neg this]
     have gR:=Mem.le_add qC t.cs
     refine⟨.inl rfl,Rx.Zcr l,t.cs,Zao _,rfl,aL.mono gR,.inr ⟨b6,0,rfl,λj v hj=>by rw[Nat.zero_add,Mem.add_same];exact hj⟩,by rw[<-Zbj];exact ZdZ _,by omega,by omega,λa2 c2 m4 cF bY=>⟨by trivial,1,by omega,1,l++[t],a2,c2,by omega,?_,?_,?_,?_,?_⟩⟩
     ·rw[List.length_append];rfl
     ·rw[List.length_append];rfl
     ·rw[hl];simp[hj]
     ·rw[ZaC,Zbj];exact bY
     ·omega
  ·
   refine⟨⟨by omega,by omega⟩,Zaa rfl λb4=>Zaa rfl (Zas (v:=.int .u8 u.k) rfl (Zaa rfl (Zab (λdD=>Zas (v:=u.sl) rfl (Zaa rfl ?_)) (λdD=>?_))))⟩
   ·have fB:u.k=k:=by simpa[RowKit.intOf]using dD
    have hj:Zbv k u=u.subs:=by rw[ZeJ,if_pos fB]
    have aW:=x4
    rw[hj]at aW
    refine⟨.inl rfl,Rx.Zcr l,Rx.Zcr u.subs,Zao _,Zao _,aL,(ZfU (hu.subs)).mono jJ,ZdZ _,?_,?_,λa2 c2 m4 cF bY=>⟨by trivial,0,by omega,2,l++u.subs,a2,c2,by omega,?_,?_,?_,?_,?_⟩⟩
    ·simp only[T.sl,slN];omega
    ·simp only[T.sl,slN];omega
    ·rw[List.length_append];rfl
    ·rw[List.length_append];rfl
    ·rw[hl,<-hj];simp
    ·rw[ZaC];exact bY
    ·omega
   ·have fB:¬u.k=k:=by simpa[RowKit.intOf]using dD
    refine⟨k == 3&&u.k == 1,Zab (λh=>Zas (v:=.int .u8 u.k) rfl (Zaa rfl ⟨by trivial,by trivial,?_⟩)) (λh=>⟨by trivial,by trivial,?_⟩),Zab (λh=>⟨by trivial,0,by omega,2,l,_,_,by omega,rfl,rfl,?_,aL,by omega⟩) (λh=>Zaa rfl λb6 qC=>?_)⟩
    ·rw[h];rfl
    ·rw[h];rfl
    ·have:k=3/\u.k=1:=by simpa using h
     have hj:Zbv k u=[]:=by rw[ZeJ,if_neg fB,if_pos this]
     rw[hl];simp[hj]
    ·have:¬(k=3/\u.k=1):=by simpa using h
     have hj:Zbv k u=[u]:=by rw[ZeJ,if_neg fB,if_neg this]
     have gR:=Mem.le_add qC u.cs
     refine⟨.inl rfl,Rx.Zcr l,u.cs,Zao _,rfl,aL.mono gR,.inr ⟨b6,0,rfl,λj v hj=>by rw[Nat.zero_add,Mem.add_same];exact hj⟩,by rw[<-Zbj];exact ZdZ _,by omega,by omega,λa2 c2 m4 cF bY=>⟨by trivial,0,by omega,2,l++[u],a2,c2,by omega,?_,?_,?_,?_,?_⟩⟩
     ·rw[List.length_append];rfl
     ·rw[List.length_append];rfl
     ·rw[hl];simp[hj]
     ·rw[ZaC,Zbj];exact bY
     ·omega
 ·have:i=2:=by have:=of_decide_eq_false cQ;omega
  subst this
  have hl':Zbv k t++Zbv k u=l:=by rw[hl];simp
  rw[hl']
  have cA:∀x∈l,Rep m3 x:=by
   have key:∀t:T,Rep m t->∀x∈Zbv k t,Rep m3 x:=by
    intro t hr x hx
    rw[ZeJ]at hx
    split at hx
    ·exact Zmg (hr.subs.mono jJ) x hx
    ·split at hx
     ·simp at hx
     ·simp at hx;subst hx;exact hr.mono jJ
   rw[<-hl']
   intro x hx
   rcases List.mem_append.1 hx with hx|hx
   ·exact key t hr x hx
   ·exact key u hu x hx
  refine Zab (λh0=>?_) (λh0=>Zab (λh1=>?_) (λh1=>?_))
  ·have:l=[]:=by simpa using h0
   subst this
   exact Zah jJ ⟨T1,rfl,Zrw _,none,0,rfl⟩
  ·have uO:l.length=1:=by
    have:((l.length:Int) == 1)=true:=h1
    have:=of_decide_eq_true this;omega
   obtain⟨x,rfl⟩:∃x,l=[x]:=by
    match l,uO with
    | [x],_=>exact⟨x,rfl⟩
   rcases aL with aL|⟨b6,o,ha,cN⟩
   ·simp[Rx.Zcr,T.cs]at aL
   ·rw[Zbj]at cN
    exact⟨b6,o,ha,⟨by omega,by simp⟩,_,_,_,_,_,_,_,_,cN,Zaa rfl (ZfQ jJ ⟨x,rfl,cA x (by simp),none,0,rfl⟩)⟩
  ·have x5:¬l.length=0:=λe=>by rw[e]at h0;simp at h0
   have nH:¬l.length=1:=λe=>by rw[e]at h1;simp at h1
   obtain⟨x,y,r,rfl⟩:∃x y r,l=x::y::r:=by
    match l,x5,nH with
    | [],h,_=>simp at h
    | [x],_,h=>simp at h
    | x::y::r,_,_=>exact⟨x,y,r,rfl⟩
   refine ZfQ jJ ⟨ZaN k 0 0 _ _ (x::y::r),rfl,Zbh (ZoI aL cA (by omega)) (by omega) (by omega) (by omega),_,_,rfl⟩
end Go.Proofs.Ytgclajkldphoaaa
set_option linter.unusedVariables false
set_option linter.unusedSimpArgs false
set_option linter.unusedSectionVars false
namespace Go.Proofs.Ytgclajkldphoaaa
open Go Go.Eng Go.Rx Go.Proofs Go.RowKit
set_option maxRecDepth 100000
structure Sm (m:Mem)(a:Option Addr)(l:List (Nat×Nat×Nat)):Prop where
 len:l.length<=9223372036854775807
 byte:∀s∈l,s.1 < 256/\s.2.1 < 256/\s.2.2 < 256
 at':∀i s,l[i]?=some s->∃b o,a=some ⟨b,o,none⟩/\m.reads b (o+i*3) [.int .u8 s.1,.int .u8 s.2.1,.int .u8 s.2.2]
theorem Sm.mono{m m':Mem}{a l}(h:Sm m a l)(hm:m.le m'):Sm m' a l:=
 ⟨h.len,h.byte,λi s hi=>by obtain⟨b,o,h1,h2⟩:=h.at' i s hi;exact⟨b,o,h1,h2.mono hm⟩⟩
theorem ZmM(n:Nat):(([[97],[98],[97,98],[97],[98],[99],[97,98,99],[98,99],[10],[0,255],[97],[98]][n % 12]?).getD []:List Nat).length<=100000:=by
 have h:n % 12=0\/n % 12=1\/n % 12=2\/n % 12=3\/n % 12=4\/n % 12=5\/n % 12=6\/n % 12=7\/n % 12=8\/n % 12=9\/n % 12=10\/n % 12=11:=by omega
 rcases h with e|e|e|e|e|e|e|e|e|e|e|e <;> rw[e] <;> decide
theorem Ztn:∀L < 3,∀Mo < 4,((Mo < L\/Mo=0\/(L=1/\Mo=1))->ZhG (L:Nat) (-1)=true/\Zrt (L:Nat) (-1)<=((max 1 L:Nat):Int))/\(¬(Mo < L\/Mo=0\/(L=1/\Mo=1))->ZhG (L:Nat) (Mo:Nat)=true/\Zrt (L:Nat) (Mo:Nat)<=((max 1 (max L Mo):Nat):Int)):=by
 intro L hL Mo hM
 have h1:L=0\/L=1\/L=2:=by omega
 have h2:Mo=0\/Mo=1\/Mo=2\/Mo=3:=by omega
 rcases h1 with rfl|rfl|rfl <;> rcases h2 with rfl|rfl|rfl|rfl <;> exact⟨λ_=>by first|exact⟨by decide,by decide⟩|omega,λ_=>by first|exact⟨by decide,by decide⟩|omega⟩
theorem Zto(l:List (Nat×Nat×Nat))(a:Option Addr)(c:Nat)(m:Mem)(hl:Sm m a l)(hc:l.length<=c):CX Try.prog 9 #[.slice a l.length c] m [] (Zi3 (λt=>t.check=0)):=by
 apply Zjg
 unfold Zf0
 have aW:=hl.len
 intro b
 have hN:(if(25:Int) < (l.length:Int)then(25:Int)else(l.length:Int))=((min 25 l.length:Nat):Int):=by split <;> omega
 simp only[hN,Int.toNat_natCast,Nat.sub_zero]
 generalize Ao:min 25 l.length=N
 refine⟨⟨by omega,by omega⟩,λxs css tvs m' q=>∃(i:Nat)(ts:List T)(a:Option Addr)(c:Nat)(u g:Nat)(mb:Mem),i<=N/\xs=[.slice a ts.length c,.int .i64 u,.int .i64 g,.int .i64 i]/\tvs=[.slice a ts.length c]/\ts.length<=c/\m.le mb/\mb.le m'/\Apart mb a/\rowRd m' a (Rx.Zcr ts)/\(∀t∈ts,Rep mb t)/\J i ts u g/\q=N - i,⟨N,0,[],none,0,1,0,m,by omega,rfl,rfl,by simp,Mem.le_refl _,Mem.le_refl _,.inl rfl,.inl rfl,by simp,J.zero,by omega⟩,?_⟩
 rintro a1 n1 c1 z1 z2 z3 a2 n2 c2 m1 q _ ⟨i,ts,a',c',u,g,mb,hi,cI,fW,cS,hG,dO,cH,aL,cA,hJ,hq⟩
 simp only[List.cons.injEq,Value.slice.injEq,Value.int.injEq,true_and,and_true]at cI fW
 obtain⟨⟨rfl,rfl,rfl⟩,rfl,rfl,rfl⟩:=cI
 obtain⟨rfl,rfl,rfl⟩:=fW
 have iU:ts.length<=25:=by have:=hJ.sz;have:=ZoK ts;omega
 refine Zab (λaM=>?_) (λcQ=>?_)
 ·have x6:i < N:=by have:=of_decide_eq_true aM;omega
  have hi':i < l.length:=by omega
  obtain⟨s,hs⟩:=Zin hi'
  obtain⟨bs,os,ha,cN⟩:=(hl.mono (mLt hG dO)).at' i s hs
  obtain⟨s1,s2,s3⟩:=s
  obtain⟨Ap,jQ,wm⟩:=hl.byte _ (List.mem_of_getElem? hs)
  have hw:IntKind.i64.wrap ((i:Int)+1)=((i+1:Nat):Int):=by rw[Zbg (by omega) (by omega)];rfl
  have uQ:Int.tmod (intOf (Value.int .u8 (s1:Nat))) 12=((s1 % 12:Nat):Int):=rfl
  simp only[hw,Int.toNat_natCast]
  refine⟨bs,os,ha,⟨by omega,by omega⟩,_,_,_,cN,λb2=>Zaa rfl (Zaa rfl ⟨by omega,?_⟩)⟩
  simp only[uQ]
  refine Zab (λh1=>?_) (λh1=>Zab (λh2=>?_) (λh2=>?_))
  ·refine Za2 (Zn9 s2 jQ m1) (λv _ _ ⟨s,e,_⟩=>by rw[e];rfl) ?_
   rintro str m2 bB ⟨s',hv,hb⟩
   cases hv
   refine Za2 (ZmL str (by rw[hb];unfold Zdr;exact ZmM _) m2) ZcW (Zi4 λt m3 cE hr ht b3 rh=>?_)
   rw[hb]at ht
   have cW:=mLt bB (mLt cE (Mem.le_add rh t.cs))
   obtain⟨k1,k2,k3,k4⟩:=ZoL s2
   refine⟨.inl trivial,Rx.Zcr ts,t.cs,Zao _,rfl,aL.mono (cW),.inr ⟨b3,0,rfl,λj v hj=>by rw[Nat.zero_add,Mem.add_same];exact hj⟩,by rw[<-Zbj];exact ZdZ _,by omega,by omega,λa4 c4 m4 cF bY aX=>⟨by trivial,N - (i+1),by omega,i+1,ts++[t],a4,c4,u,g,mb,by omega,?_,?_,by have:=aX.1;rw[List.length_append];exact this,hG,mLt dO (mLt (cW) cF),cH.tok (mLt dO (cW)) aX,?_,?_,?_,by omega⟩⟩
   ·rw[List.length_append];rfl
   ·rw[List.length_append];rfl
   ·rw[ZaC,Zbj];exact bY
   ·intro x hx
    rcases List.mem_append.1 hx with hx|hx
    ·exact cA x hx
    ·simp at hx;subst hx;exact(by rw[ht];exact Zmh _ _)
   ·rw[ht];exact hJ.push k1 k2 k3 k4
  ·intro b3 rh
   have cW:=Mem.le_add rh T1.cs
   refine⟨.inl trivial,Rx.Zcr ts,T1.cs,Zao _,rfl,aL.mono (cW),.inr ⟨b3,0,rfl,λj v hj=>by rw[Nat.zero_add,Mem.add_same];exact hj⟩,by rw[<-Zbj];exact ZdZ _,by omega,by omega,λa4 c4 m4 cF bY aX=>⟨by trivial,N - (i+1),by omega,i+1,ts++[T1],a4,c4,u,g,mb,by omega,?_,?_,by have:=aX.1;rw[List.length_append];exact this,hG,mLt dO (mLt (cW) cF),cH.tok (mLt dO (cW)) aX,?_,?_,?_,by omega⟩⟩
   ·rw[List.length_append];rfl
   ·rw[List.length_append];rfl
   ·rw[ZaC,Zbj];exact bY
   ·intro x hx
    rcases List.mem_append.1 hx with hx|hx
    ·exact cA x hx
    ·simp at hx;subst hx;exact Zrw _
   ·exact hJ.push ZsW.1 ZsW.2.1 ZsW.2.2.1 ZsW.2.2.2
  ·refine⟨decide (s1 % 12 < 7)&&decide (1 < ts.length),Zab (λh3=>⟨by trivial,by trivial,?_⟩) (λh3=>⟨by trivial,by trivial,?_⟩),Zab (λh3=>?_) (λh3=>?_)⟩
   ·refine ZaF ?_
    rw[Bool.eq_iff_iff];simp;have:=of_decide_eq_true h3;omega
   ·refine ZaF ?_
    rw[eq_comm,Bool.and_eq_false_iff];left;have:=of_decide_eq_false h3;exact decide_eq_false (by omega)
   ·skip
    obtain⟨r,x,y,rfl⟩:=ZuM (ts:=ts) (by simp at h3;omega)
    have hH:(r++[x,y]).length=r.length+2:=by simp
    have dP:IntKind.i64.wrap (((r++[x,y]).length:Int) - 2)=(r.length:Int):=by rw[hH,Zbg (by omega) (by omega)];omega
    have dX:IntKind.i64.wrap (((r++[x,y]).length:Int) - 1)=((r.length+1:Nat):Int):=by rw[hH,Zbg (by omega) (by omega)];omega
    simp only[dP,dX,Int.toNat_natCast,Nat.sub_zero]
    obtain⟨bb,kI,jV,o',u',hu'⟩:=cH.base aL (by simp)
    obtain⟨bx,ox,nR,lO⟩:=Zel aL (i:=r.length) (t:=x) (by simp)
    obtain⟨by',oy,uR,uS⟩:=Zel aL (i:=r.length+1) (t:=y) (by simp)
    have uT:(Zbv 3 x).length<=10000:=by
     have:=hJ.sz
     rw[ZaD,show szL [x,y]=szL ([x]++[y]) from rfl,ZaD,Zbu,Zbu]at this
     have:=Zei (k:=3) (t:=x)
     omega
    have uU:(Zbv 3 y).length<=10000:=by
     have:=hJ.sz
     rw[ZaD,show szL [x,y]=szL ([x]++[y]) from rfl,ZaD,Zbu,Zbu]at this
     have:=Zei (k:=3) (t:=y)
     omega
    refine⟨λ_ _ _=>Zni mb m1 (λr=>∃a c,r=Zge 3 a c (Zbv 3 x++Zbv 3 y)),⟨by omega,by omega⟩,⟨by omega,by omega⟩,bx,ox,nR,⟨by omega,by omega⟩,_,_,_,_,_,_,_,_,lO,by',oy,uR,⟨by omega,by omega⟩,_,_,_,_,_,_,_,_,uS,Zni mb m1 (λr=>∃a c,r=Zge 3 a c (Zbv 3 x++Zbv 3 y)),rfl,(Zlp 3 x y (by omega) mb (cA x (by simp)) (cA y (by simp)) uT uU).frame2 dO,Zdl,Zio λt m0 m3 cE h0 lP bL kR ht b6 qC=>?_⟩
    obtain⟨at',ct,ht⟩:=ht
    have gR:=Mem.le_add qC t.cs
    have eW:Apart m0 _:=.inr ⟨bb,kI,λo=>by rw[bL bb o' u' hu' o];exact jV o⟩
    refine⟨.inr (.inr (by omega)),Rx.Zcr r,t.cs,Zao _,rfl,((Zo4 aL).mono cE).mono gR,.inr ⟨b6,0,rfl,λj v hj=>by rw[Nat.zero_add,Mem.add_same];exact hj⟩,by rw[<-Zbj];exact ZdZ _,by omega,by omega,λa4 c4 m4 cF bY aX M gS kM tq qD=>⟨by trivial,N - (i+1),by omega,i+1,r++[t],a4,c4,u,g,m0,by omega,?_,?_,by have:=aX.1;rw[List.length_append];exact this,mLt hG h0,mLt lP kM,eW.tok (mLt lP gR) aX,?_,?_,?_,by omega⟩⟩
    ·rw[List.length_append];rfl
    ·rw[List.length_append];rfl
    ·rw[ZaC,Zbj];exact bY.mono qD
    ·intro z hz
     rcases List.mem_append.1 hz with hz|hz
     ·exact(cA z (by simp[hz])).mono h0
     ·simp at hz;subst hz;exact kR
    ·rw[ht];exact hJ.join (by omega) (by omega) _ _
   ·refine⟨decide (s1 % 12 < 9)&&decide (1 < ts.length),Zab (λh4=>⟨by trivial,by trivial,?_⟩) (λh4=>⟨by trivial,by trivial,?_⟩),Zab (λh4=>?_) (λh4=>?_)⟩
    ·refine ZaF ?_
     rw[Bool.eq_iff_iff];simp;have:=of_decide_eq_true h4;omega
    ·refine ZaF ?_
     rw[eq_comm,Bool.and_eq_false_iff];left;have:=of_decide_eq_false h4;exact decide_eq_false (by omega)
    ·skip
     obtain⟨r,x,y,rfl⟩:=ZuM (ts:=ts) (by simp at h4;omega)
     have hH:(r++[x,y]).length=r.length+2:=by simp
     have dP:IntKind.i64.wrap (((r++[x,y]).length:Int) - 2)=(r.length:Int):=by rw[hH,Zbg (by omega) (by omega)];omega
     have dX:IntKind.i64.wrap (((r++[x,y]).length:Int) - 1)=((r.length+1:Nat):Int):=by rw[hH,Zbg (by omega) (by omega)];omega
     simp only[dP,dX,Int.toNat_natCast,Nat.sub_zero]
     obtain⟨bb,kI,jV,o',u',hu'⟩:=cH.base aL (by simp)
     obtain⟨bx,ox,nR,lO⟩:=Zel aL (i:=r.length) (t:=x) (by simp)
     obtain⟨by',oy,uR,uS⟩:=Zel aL (i:=r.length+1) (t:=y) (by simp)
     have uT:(Zbv 4 x).length<=10000:=by
      have:=hJ.sz
      rw[ZaD,show szL [x,y]=szL ([x]++[y]) from rfl,ZaD,Zbu,Zbu]at this
      have:=Zei (k:=4) (t:=x)
      omega
     have uU:(Zbv 4 y).length<=10000:=by
      have:=hJ.sz
      rw[ZaD,show szL [x,y]=szL ([x]++[y]) from rfl,ZaD,Zbu,Zbu]at this
      have:=Zei (k:=4) (t:=y)
      omega
     refine⟨λ_ _ _=>Zni mb m1 (λr=>∃a c,r=Zge 4 a c (Zbv 4 x++Zbv 4 y)),⟨by omega,by omega⟩,⟨by omega,by omega⟩,bx,ox,nR,⟨by omega,by omega⟩,_,_,_,_,_,_,_,_,lO,by',oy,uR,⟨by omega,by omega⟩,_,_,_,_,_,_,_,_,uS,Zni mb m1 (λr=>∃a c,r=Zge 4 a c (Zbv 4 x++Zbv 4 y)),rfl,(Zlp 4 x y (by omega) mb (cA x (by simp)) (cA y (by simp)) uT uU).frame2 dO,Zdl,Zio λt m0 m3 cE h0 lP bL kR ht b6 qC=>?_⟩
     obtain⟨at',ct,ht⟩:=ht
     have gR:=Mem.le_add qC t.cs
     have eW:Apart m0 _:=.inr ⟨bb,kI,λo=>by rw[bL bb o' u' hu' o];exact jV o⟩
     refine⟨.inr (.inr (by omega)),Rx.Zcr r,t.cs,Zao _,rfl,((Zo4 aL).mono cE).mono gR,.inr ⟨b6,0,rfl,λj v hj=>by rw[Nat.zero_add,Mem.add_same];exact hj⟩,by rw[<-Zbj];exact ZdZ _,by omega,by omega,λa4 c4 m4 cF bY aX M gS kM tq qD=>⟨by trivial,N - (i+1),by omega,i+1,r++[t],a4,c4,u,g,m0,by omega,?_,?_,by have:=aX.1;rw[List.length_append];exact this,mLt hG h0,mLt lP kM,eW.tok (mLt lP gR) aX,?_,?_,?_,by omega⟩⟩
     ·rw[List.length_append];rfl
     ·rw[List.length_append];rfl
     ·rw[ZaC,Zbj];exact bY.mono qD
     ·intro z hz
      rcases List.mem_append.1 hz with hz|hz
      ·exact(cA z (by simp[hz])).mono h0
      ·simp at hz;subst hz;exact kR
     ·rw[ht];exact hJ.join (by omega) (by omega) _ _
    ·refine⟨decide (s1 % 12=9)&&(decide (0 < ts.length)&&decide (g < 9)),Zab (λh5=>Zab (λh6=>⟨by trivial,by trivial,?_⟩) (λh6=>⟨by trivial,by trivial,?_⟩)) (λh5=>⟨by trivial,by trivial,?_⟩),Zab (λh5=>?_) (λh5=>?_)⟩
     ·refine ZaF ?_
      have e1:=of_decide_eq_true h6
      have e2:s1 % 12=9:=by have:=h5;simp at this;omega
      rw[decide_eq_true e2,decide_eq_true (show 0 < ts.length by omega),Bool.true_and,Bool.true_and,Bool.eq_iff_iff];simp;omega
     ·refine ZaF ?_
      have e1:=of_decide_eq_false h6
      rw[decide_eq_false (show ¬0 < ts.length by omega)];simp
     ·refine ZaF ?_
      have e2:¬s1 % 12=9:=by have:=h5;simp at this;omega
      rw[decide_eq_false e2];rfl
     ·
      have x7:g < 9:=by simp at h5;omega
      skip
      obtain⟨r,x,rfl⟩:=ZuN (ts:=ts) (by simp at h5;omega)
      have hH:(r++[x]).length=r.length+1:=by simp
      have dX:IntKind.i64.wrap (((r++[x]).length:Int) - 1)=(r.length:Int):=by rw[hH,Zbg (by omega) (by omega)];omega
      obtain⟨bb,kI,jV,o',u',hu'⟩:=cH.base aL (by simp)
      subst kI
      obtain⟨bx,ox,nR,lO⟩:=Zel aL (i:=r.length) (t:=x) (by simp)
      cases nR
      have x8:IntKind.i64.wrap ((g:Int)+1)=((g+1:Nat):Int):=by rw[Zbg (by omega) (by omega)];rfl
      simp only[dX,x8,Int.toNat_natCast]
      refine⟨_,_,rfl,⟨by omega,by omega⟩,_,_,_,_,_,_,_,_,lO,Za2 ((ZrK x mb (cA x (by simp))).frame2 dO) (Zdl (mb:=mb) (M0:=m1)) (Zio λt m0 m3 cE h0 lP bL kR ht=>?_)⟩
      obtain⟨at',ct,ht⟩:=ht
      have eW:m0.free bb:=λo=>by rw[bL bb o' u' hu' o];exact jV o
      refine⟨bb,0,rfl,⟨by omega,by omega⟩,rfl,by omega,by trivial,N - (i+1),by omega,i+1,r++[t],_,_,u,g+1,m0,by omega,?_,?_,by rw[List.length_append];rw[hH]at cS;exact cS,mLt hG h0,Mem.le_upd lP eW _ _,.inr ⟨bb,rfl,eW⟩,Zo5 (aL.mono cE),?_,?_,by omega⟩
      ·rw[hH,List.length_append];rfl
      ·rw[hH,List.length_append];rfl
      ·intro z hz
       rcases List.mem_append.1 hz with hz|hz
       ·exact(cA z (by simp[hz])).mono h0
       ·simp at hz;subst hz;exact kR
      ·rw[ht];exact hJ.group x7 _ _
     ·by_cases h0:0 < ts.length
      ·skip
       obtain⟨r,x,rfl⟩:=ZuN (ts:=ts) (by exact h0)
       have hH:(r++[x]).length=r.length+1:=by simp
       have dX:IntKind.i64.wrap (((r++[x]).length:Int) - 1)=(r.length:Int):=by rw[hH,Zbg (by omega) (by omega)];omega
       obtain⟨bb,kI,jV,o',u',hu'⟩:=cH.base aL (by simp)
       subst kI
       obtain⟨bx,ox,nR,lO⟩:=Zel aL (i:=r.length) (t:=x) (by simp)
       cases nR
       have x9:IntKind.i64.wrap (Int.tmod (intOf (Value.int .u8 (s2:Nat))) 3)=((s2 % 3:Nat):Int):=by
        rw[show Int.tmod (intOf (Value.int .u8 (s2:Nat))) 3=((s2 % 3:Nat):Int) from rfl,Zbg (by omega) (by omega)]
       have ya:IntKind.i64.wrap (Int.tmod (intOf (Value.int .u8 (s3:Nat))) 4)=((s3 % 4:Nat):Int):=by
        rw[show Int.tmod (intOf (Value.int .u8 (s3:Nat))) 4=((s3 % 4:Nat):Int) from rfl,Zbg (by omega) (by omega)]
       simp only[dX,x9,ya,Int.toNat_natCast]
       have yc:s2 % 3 < 3:=by omega
       have qD:s3 % 4 < 4:=by omega
       generalize s2 % 3=L at *
       generalize s3 % 4=Mo at *
       refine⟨decide (9 < s1 % 12)&&!(x.k == 1),Zab (λh6=>Zab (λh7=>⟨_,_,rfl,⟨by omega,by omega⟩,.int .u8 x.k,lO 0 _ rfl,Zaa rfl ⟨by trivial,by trivial,?_⟩⟩) (λh7=>absurd h7 (by simp))) (λh6=>⟨by trivial,by trivial,?_⟩),Zab (λh6=>Zaa rfl ⟨by omega,Zaa rfl ⟨by omega,?_⟩⟩) (λh6=>⟨by trivial,N - (i+1),by omega,i+1,r++[x],_,_,u,g,mb,by omega,rfl,rfl,cS,hG,dO,cH,aL,cA,hJ.skip,by omega⟩)⟩
       ·refine ZaF ?_
        have:=of_decide_eq_true h6
        rw[decide_eq_true (show 9 < s1 % 12 by omega),Bool.true_and];rfl
       ·refine ZaF ?_
        have:=of_decide_eq_false h6
        rw[decide_eq_false (show ¬9 < s1 % 12 by omega)];rfl
       ·have fC:x.k≠1:=by
         rw[Bool.and_eq_true]at h6
         simpa using h6.2
        obtain⟨tab1,tab2⟩:=Ztn L yc Mo qD
        refine⟨decide (Mo < L\/Mo=0\/(L=1/\Mo=1)),Zab (λg1=>⟨by trivial,by trivial,ZaF ?_⟩) (λg1=>Zab (λg2=>⟨by trivial,by trivial,ZaF ?_⟩) (λg2=>Zab (λg3=>⟨by trivial,by trivial,ZaF ?_⟩) (λg3=>⟨by trivial,by trivial,ZaF ?_⟩))),Zab (λg4=>?_) (λg4=>?_)⟩
        ·have:=of_decide_eq_true g1
         exact(decide_eq_true (by omega)).symm
        ·have:Mo=0:=by simp at g2;omega
         exact(decide_eq_true (by omega)).symm
        ·have e1:=of_decide_eq_false g1
         have e2:¬Mo=0:=by simp at g2;omega
         have e3:L=1:=by simp at g3;omega
         rw[Bool.eq_iff_iff];simp;omega
        ·have e1:=of_decide_eq_false g1
         have e2:¬Mo=0:=by simp at g2;omega
         have e3:¬L=1:=by simp at g3;omega
         exact(decide_eq_false (by omega)).symm
        ·
         have hA:(if(1:Int) > (if(-1:Int) > (L:Int)then(-1:Int)else(L:Int))then(1:Int)else(if(-1:Int) > (L:Int)then(-1:Int)else(L:Int)))=((max 1 L:Nat):Int):=by
          split <;> split <;> omega
         obtain⟨tb,tp⟩:=tab1 (of_decide_eq_true g4)
         have sk:u*max 1 L<=48:=by have:=Nat.mul_le_mul hJ.u16 (show max 1 L<=3 by omega);omega
         have uV:IntKind.i64.wrap ((u:Int)*((max 1 L:Nat):Int))=((u*max 1 L:Nat):Int):=by rw[<-Int.natCast_mul];exact Zbg (by omega) (by omega)
         simp only[hA,uV]
         refine Zab (λg5=>?_) (λg5=>⟨by trivial,N - (i+1),by omega,i+1,r++[x],_,_,u,g,mb,by omega,rfl,rfl,cS,hG,dO,cH,aL,cA,hJ.skip,by omega⟩)
         have qE:u*max 1 L<=16:=by have:=of_decide_eq_true g5;omega
         refine⟨_,_,rfl,⟨by omega,by omega⟩,_,_,_,_,_,_,_,_,lO,Za2 ((Ztm x (L:Nat) (-1:Int) ⟨by omega,by omega⟩ ⟨by omega,by omega⟩ mb (cA x (by simp))).frame2 dO) (Zdl (mb:=mb) (M0:=m1)) (Zio λt m0 m3 cE h0 lP bL kR ht=>?_)⟩
         obtain⟨at',ct,ht⟩:=ht
         have eW:m0.free bb:=λo=>by rw[bL bb o' u' hu' o];exact jV o
         refine⟨bb,0,rfl,⟨by omega,by omega⟩,rfl,by omega,by trivial,N - (i+1),by omega,i+1,r++[t],_,_,u*max 1 L,g,m0,by omega,?_,?_,by rw[List.length_append];rw[hH]at cS;exact cS,mLt hG h0,Mem.le_upd lP eW _ _,.inr ⟨bb,rfl,eW⟩,Zo5 (aL.mono cE),?_,?_,by omega⟩
         ·rw[hH,List.length_append];rfl
         ·rw[hH,List.length_append];rfl
         ·intro z hz
          rcases List.mem_append.1 hz with hz|hz
          ·exact(cA z (by simp[hz])).mono h0
          ·simp at hz;subst hz;exact kR
         ·rw[ht];exact hJ.rep fC tb tp (by omega) qE _ _
        ·
         have hA:(if(1:Int) > (if((Mo:Int)) > (L:Int)then((Mo:Int))else(L:Int))then(1:Int)else(if((Mo:Int)) > (L:Int)then((Mo:Int))else(L:Int)))=((max 1 (max L Mo):Nat):Int):=by
          split <;> split <;> omega
         obtain⟨tb,tp⟩:=tab2 (of_decide_eq_false g4)
         have sk:u*max 1 (max L Mo)<=48:=by have:=Nat.mul_le_mul hJ.u16 (show max 1 (max L Mo)<=3 by omega);omega
         have uV:IntKind.i64.wrap ((u:Int)*((max 1 (max L Mo):Nat):Int))=((u*max 1 (max L Mo):Nat):Int):=by rw[<-Int.natCast_mul];exact Zbg (by omega) (by omega)
         simp only[hA,uV]
         refine Zab (λg5=>?_) (λg5=>⟨by trivial,N - (i+1),by omega,i+1,r++[x],_,_,u,g,mb,by omega,rfl,rfl,cS,hG,dO,cH,aL,cA,hJ.skip,by omega⟩)
         have qE:u*max 1 (max L Mo)<=16:=by have:=of_decide_eq_true g5;omega
         refine⟨_,_,rfl,⟨by omega,by omega⟩,_,_,_,_,_,_,_,_,lO,Za2 ((Ztm x (L:Nat) ((Mo:Int)) ⟨by omega,by omega⟩ ⟨by omega,by omega⟩ mb (cA x (by simp))).frame2 dO) (Zdl (mb:=mb) (M0:=m1)) (Zio λt m0 m3 cE h0 lP bL kR ht=>?_)⟩
         obtain⟨at',ct,ht⟩:=ht
         have eW:m0.free bb:=λo=>by rw[bL bb o' u' hu' o];exact jV o
         refine⟨bb,0,rfl,⟨by omega,by omega⟩,rfl,by omega,by trivial,N - (i+1),by omega,i+1,r++[t],_,_,u*max 1 (max L Mo),g,m0,by omega,?_,?_,by rw[List.length_append];rw[hH]at cS;exact cS,mLt hG h0,Mem.le_upd lP eW _ _,.inr ⟨bb,rfl,eW⟩,Zo5 (aL.mono cE),?_,?_,by omega⟩
         ·rw[hH,List.length_append];rfl
         ·rw[hH,List.length_append];rfl
         ·intro z hz
          rcases List.mem_append.1 hz with hz|hz
          ·exact(cA z (by simp[hz])).mono h0
          ·simp at hz;subst hz;exact kR
         ·rw[ht];exact hJ.rep fC tb tp (by omega) qE _ _
      ·refine⟨false,Zab (λh6=>Zab (λh7=>absurd (of_decide_eq_true h7) (by omega)) (λh7=>⟨by trivial,by trivial,rfl⟩)) (λh6=>⟨by trivial,by trivial,rfl⟩),Znh rfl ⟨by trivial,N - (i+1),by omega,i+1,ts,_,_,u,g,mb,by omega,rfl,rfl,cS,hG,dO,cH,aL,cA,hJ.skip,by omega⟩⟩
 ·have x6:i=N:=by have:=of_decide_eq_false cQ;omega
  have aT:=mLt hG dO
  refine Zab (λh0=>?_) (λh0=>?_)
  ·have uW:(ZbE ⟨#[97]⟩)=Zdr 0:=by rfl
   refine Za2 (ZmL ⟨#[97]⟩ (by decide) m1) ZcW (Zi4 λt m2 bB hr ht=>ZfQ (mLt aT bB) ⟨t,rfl,hr,?_⟩)
   rw[uW]at ht
   obtain⟨k1,k2,k3,k4⟩:=ZoL 0
   rw[<-ht]at k1 k2 k3 k4
   exact F.done (l:=[]) ⟨k1,by simp,by simp[szL,Zai,k2],by simp[ZeG];omega,by simp[grL,Zai,k4]⟩
  ·obtain⟨t0,rest,rfl⟩:∃t r,ts=t::r:=by cases ts with
    | nil=>simp at h0
    | cons t r=>exact⟨t,r,rfl⟩
   have hF:=F.start hJ (by omega)
   obtain⟨bb,kI,jV,o',u',hu'⟩:=cH.base aL (by simp)
   subst kI
   obtain⟨bx,ox,nR,lO⟩:=Zel aL (i:=0) (t:=t0) rfl
   cases nR
   rw[List.length_cons]at iU cS
   refine⟨_,_,rfl,⟨by omega,by simp⟩,_,_,_,_,_,_,_,_,lO,λb2=>Zaa rfl ⟨⟨by omega,by rw[List.length_cons];omega⟩,?_⟩⟩
   refine⟨λxs css tvs m' q=>∃(k:Nat)(t:T),k<=rest.length/\xs=[.int .i64 k]/\css=[t.cs]/\m1.le m'/\Rep m' t/\F t (rest.drop k)/\q=rest.length - k,⟨rest.length,0,t0,by omega,rfl,rfl,Mem.le_refl _,(cA t0 (by simp)).mono dO,hF,by omega⟩,?_⟩
   rintro z cs m2 q2 _ ⟨k,t,hk,hz,cO,bB,kR,tu,jE⟩
   obtain rfl:z=k:=by simpa using hz
   obtain rfl:cs=t.cs:=by simpa using cO
   have yd:((t0::rest).length - Int.toNat 1)=rest.length:=by simp
   simp only[yd]
   refine Zab (λaM=>?_) (λuX=>Zaa rfl (ZfQ (mLt aT bB) ⟨t,rfl,kR,tu.done⟩))
   have aQ:k < rest.length:=by have:=of_decide_eq_true aM;omega
   obtain⟨x,hx⟩:=Zin aQ
   obtain⟨b3,o3,ye,rL⟩:=Zel (aL.mono bB) (i:=k+1) (t:=x) (by simpa using hx)
   cases ye
   have eH:IntKind.i64.wrap ((k:Int)+1)=((k+1:Nat):Int):=by rw[Zbg (by omega) (by omega)];rfl
   simp only[eH,Int.toNat_natCast]
   rw[Zmf hx]at tu
   have bJ:=tu.sz
   rw[Zi7]at bJ
   have xP:=Zei (k:=4) (t:=t)
   have wy:=Zei (k:=4) (t:=x)
   have kS:ZaW (some (⟨bb,0,none⟩:Addr)) (Int.toNat 1) c2 8=some ⟨bb,0+8,none⟩:=by
    unfold ZaW
    have:Nat.beq c2 1=false:=by
     cases hb:Nat.beq c2 1 with
     | false=>rfl
     | true=>have:=Nat.eq_of_beq_eq_true hb;omega
    show(bif Nat.beq c2 1 then _ else some (Addr.add _ (1*8)))=_
    rw[this,Zbx];rfl
   refine⟨_,_,kS,⟨by omega,by omega⟩,_,_,_,_,_,_,_,_,by rw[show 0+8+k*8=0+(k+1)*8 by omega];exact rL,λb4=>Zaa rfl (Za2 (Zlp 4 t x (.inr rfl) m2 kR ((cA x (by simp[List.mem_of_getElem? hx])).mono (mLt dO bB)) (by omega) (by omega)) ZcW (Zi4 λt' m3 cE hr' ht'=>⟨by trivial,by trivial,rest.length - (k+1),by omega,k+1,t',by omega,rfl,rfl,mLt bB cE,hr',?_,by omega⟩))⟩
   obtain⟨a3,c3,ht'⟩:=ht'
   rw[ht'];exact tu.step _ _
end Go.Proofs.Ytgclajkldphoaaa
set_option linter.unusedVariables false
set_option linter.unusedSimpArgs false
namespace Go.Proofs.Ytgclajkldphoaaa
open Go Go.Eng Go.Rx Go.Proofs Go.RowKit Go.ChangeShapes Go.WideShapes Go.ChangeAt
set_option maxRecDepth 100000
theorem Zuj:ownKnob Try.prog.godebug=none:=by kernel_rfl
theorem Ztp:laidOutB Try.prog=true:=by kernel_rfl
theorem Ztq{n:Int}(h:(Lit.int .u8 n).wf=true):0<=n/\n < 256:=by
 have:0<=n/\n<=255:=by simpa[Lit.wf,IntKind.min,IntKind.max,IntKind.signed,IntKind.bits]using h
 omega
theorem ZmN{w:World}{a:Addr}{v:Value}(h:w.cell? ((a.add (0*3)).add 0)=some v):∃b o,a=⟨b,o,none⟩:=by
 obtain⟨b,o,sp⟩:=a
 cases sp with
 | none=>exact⟨b,o,rfl⟩
 | some s=>
  exfalso
  have e:(Addr.add (Addr.add ⟨b,o,some s⟩ (0*3)) 0)=⟨b,o,some s⟩:=rfl
  rw[e]at h
  unfold World.cell? at h
  split at h
  ·simp at h
  ·cases h
theorem Zq3:Try.prog.cellsOf 22=1/\Try.prog.cellsOf 78=3:=⟨by kernel_rfl,by kernel_rfl⟩
theorem Zqb{H:Type}{enc:TypeId×Value->H}{w:World}{base:Nat}{sp:Nat->Bool}{eP:Bool}{n:Nat}{cs:List Value}{x:DataW H×List MemPlace}(h:DataW.trod enc Try.prog w base sp eP n 78 cs=some x):
  ∃s:Nat×Nat×Nat,cs=[.int .u8 s.1,.int .u8 s.2.1,.int .u8 s.2.2]/\s.1 < 256/\s.2.1 < 256/\s.2.2 < 256:=by
 obtain⟨xs,k,rfl,rfl,aW,cI,hx⟩:=DataW.trod_struct (fs:=(Try.prog.fieldsOf 78)) (by kernel_rfl) h
 rw[Zq3.2]at aW
 have hf:(Try.prog.fieldsOf 78)=#[⟨ "Kind",5,0,false, "", "",0⟩,⟨ "N",5,1,false, "", "",1⟩,⟨ "M",5,2,false, "", "",2⟩]:=by kernel_rfl
 rw[hf]at hx cI
 have hc:Try.prog.cellsOf 5=1:=by kernel_rfl
 obtain⟨c0,c1,c2,rfl⟩:∃a b c,cs=[a,b,c]:=by
  match cs,aW with
  | [a,b,c],_=>exact⟨a,b,c,rfl⟩
 have get:∀i,i < 3->∃z,xs[i]?=some z:=λi hi=>⟨xs[i]'(by rw[cI];exact hi),List.getElem?_eq_getElem _⟩
 have h0:DataW.trod enc Try.prog w base sp eP k 5 (List.take (Try.prog.cellsOf 5) (List.drop 0 [c0,c1,c2]))=xs[0]?:=hx 0 _ rfl
 have h1:DataW.trod enc Try.prog w base sp eP k 5 (List.take (Try.prog.cellsOf 5) (List.drop 1 [c0,c1,c2]))=xs[1]?:=hx 1 _ rfl
 have h2:DataW.trod enc Try.prog w base sp eP k 5 (List.take (Try.prog.cellsOf 5) (List.drop 2 [c0,c1,c2]))=xs[2]?:=hx 2 _ rfl
 obtain⟨z0,e0⟩:=get 0 (by omega)
 obtain⟨z1,e1⟩:=get 1 (by omega)
 obtain⟨z2,e2⟩:=get 2 (by omega)
 rw[e0,hc]at h0
 rw[e1,hc]at h1
 rw[e2,hc]at h2
 have g0:DataW.trod enc Try.prog w base sp eP k 5 [c0]=some z0:=h0
 have g1:DataW.trod enc Try.prog w base sp eP k 5 [c1]=some z1:=h1
 have g2:DataW.trod enc Try.prog w base sp eP k 5 [c2]=some z2:=h2
 obtain⟨n0,k0,_,w0⟩:=DataW.trod_int Try.underlying5 g0
 obtain⟨n1,k1,_,w1⟩:=DataW.trod_int Try.underlying5 g1
 obtain⟨n2,k2,_,w2⟩:=DataW.trod_int Try.underlying5 g2
 simp at k0 k1 k2
 have:=Ztq w0
 have:=Ztq w1
 have:=Ztq w2
 obtain⟨m0,rfl⟩:∃k:Nat,n0=k:=⟨n0.toNat,by omega⟩
 obtain⟨m1,rfl⟩:∃k:Nat,n1=k:=⟨n1.toNat,by omega⟩
 obtain⟨m2,rfl⟩:∃k:Nat,n2=k:=⟨n2.toNat,by omega⟩
 exact⟨(m0,m1,m2),by rw[k0,k1,k2],by simp;omega,by simp;omega,by simp;omega⟩
theorem ZmO{H:Type}{enc:TypeId×Value->H}{W:World}{eP:Bool}{n:Nat}{cs:List Value}{x:DataW H×List MemPlace}(h:DataW.trod enc Try.prog W 0 (λ_=>true) eP n 22 cs=some x):
  ∃l a c,cs=[.slice a l.length c]/\Sm (Zsd W) a l/\l.length<=c:=by
 rcases Go.Deep.open_slice Try.underlying22 h with⟨cO,_⟩|⟨a,len,m,m',n',D,Pl,cO,hb,hl,hm,dS,_,hx⟩
 ·exact⟨[],none,0,cO,⟨by simp,by simp,λi s hi=>by simp at hi⟩,Nat.le_refl _⟩
 ·simp only[if_true]at dS
  subst dS
  rw[Zq3.2]at hx
  obtain⟨F,hF⟩:=Go.Deep.choose_lt (α:=Nat×Nat×Nat) (n:=m') (p:=λi s=>(∀j v,[Value.int .u8 (s.1:Nat),.int .u8 (s.2.1:Nat),.int .u8 (s.2.2:Nat)][j]?=some v->W.cell? ((a.add (i*3)).add j)=some v)/\s.1 < 256/\s.2.1 < 256/\s.2.2 < 256) (λi hi=>by
   obtain⟨cs,h1,h2⟩:=hx i hi
   obtain⟨s,rfl,hs⟩:=Zqb h2
   obtain⟨_,_,hc⟩:=World.cells?_some h1
   refine⟨s,λj v hj=>?_,hs⟩
   have aM:=(List.getElem?_eq_some_iff.1 hj).1
   rw[hc j (by simpa using aM)];exact hj)
  refine⟨(List.range len).map F,some a,m',by rw[cO];simp,⟨by simp[maxLen]at hm ⊢;omega,?_,?_⟩,by simpa using hl⟩
  ·intro s hs
   obtain⟨i,hi,rfl⟩:=List.mem_map.1 hs
   exact(hF i (by have:=List.mem_range.1 hi;omega)).2
  ·intro i s hi
   rw[List.getElem?_map]at hi
   obtain⟨i',hi',rfl⟩:=Option.map_eq_some_iff.1 hi
   have aM:i < len:=by have:=(List.getElem?_eq_some_iff.1 hi').1;simpa using this
   have e:i'=i:=by rw[List.getElem?_range aM]at hi';exact(Option.some.inj hi').symm
   subst e
   obtain⟨h1,_⟩:=hF i' (by omega)
   obtain⟨b,o,rfl⟩:=ZmN ((hF 0 (by omega)).1 0 _ rfl)
   refine⟨b,o,rfl,λj v hj=>?_⟩
   have:=h1 j v hj
   rw[Zbx,Zbx]at this
   exact this
theorem Ziq(a:Option Addr)(n c:Nat):(Value.slice a n c).cells.toList=[.slice a n c]:=rfl
theorem ZmP{H:Type}{enc:TypeId×Value->H}{W:World}{eP:Bool}{v:Value}{d:DataW H}{ps:List MemPlace}{r:Reach}{b0:Nat}(fL:Value.okWide Try.prog W r b0 22 v)(h:DataW.Trod enc Try.prog W 0 (λ_=>true) eP 22 v d ps):
  ∃l a c,v=.slice a l.length c/\Sm (Zsd W) a l/\l.length<=c:=by
 obtain⟨n,h⟩:=h
 obtain⟨a0,len0,cap0,rfl⟩:=okWide_slice Try.underlying22 fL
 rw[Ziq]at h
 obtain⟨l,a,c,cO,h1,h2⟩:=ZmO h
 exact⟨l,a,c,by simpa using cO,h1,h2⟩
theorem Zuk:Try.prog.cellsOf 5=1:=by kernel_rfl
theorem Ztr{H:Type}{enc:TypeId×Value->H}{W:World}{eP:Bool}{v:Value}{d:DataW H}{ps:List MemPlace}{r:Reach}{b0:Nat}(fL:Value.okWide Try.prog W r b0 35 v)(h:DataW.Trod enc Try.prog W 0 (λ_=>true) eP 35 v d ps):
  ∃s a c,v=.slice a s.length c/\Byt (Zsd W) a s/\s.length<=c/\s.length<=9223372036854775807:=by
 obtain⟨n,h⟩:=h
 obtain⟨a0,len0,cap0,rfl⟩:=okWide_slice Try.underlying35 fL
 rw[Ziq]at h
 rcases Go.Deep.open_slice1 Try.underlying35 Zuk h with⟨cO,_⟩|⟨a,len,m,m',n',V,D,Pl,cO,hb,hl,hm,dS,_,hx⟩
 ·exact⟨[],none,0,by simpa using cO,⟨.inl rfl,by simp⟩,Nat.le_refl _,by simp⟩
 ·simp only[if_true]at dS
  subst dS
  have hm':m'<=9223372036854775807:=by simp[maxLen]at hm;omega
  obtain⟨F,hF⟩:=Go.Deep.choose_lt (α:=Nat) (n:=m') (p:=λi s=>W.cell? (a.add i)=some (.int .u8 (s:Nat))/\s < 256) (λi hi=>by
   obtain⟨h1,h2⟩:=hx i hi
   obtain⟨k,hk,_,hw⟩:=DataW.trod_int Try.underlying5 h2
   have:=Ztq hw
   obtain⟨k',rfl⟩:∃k':Nat,k=k':=⟨k.toNat,by omega⟩
   simp at hk
   exact⟨k',by rw[h1,hk],by omega⟩)
  refine⟨(List.range len).map F,some a,m',by have:=cO;simp at this ⊢;exact this,⟨?_,?_⟩,by simpa using hl,by simp;omega⟩
  ·by_cases h0:len=0
   ·left;subst h0;rfl
   ·right
    obtain⟨b,o,rfl⟩:=ZmN (a:=a) (v:=.int .u8 (F 0:Nat)) (by
     have:=(hF 0 (by omega)).1
     exact this)
    refine⟨b,o,rfl,λj v hj=>?_⟩
    rw[List.map_map,List.getElem?_map]at hj
    obtain⟨i',hi',rfl⟩:=Option.map_eq_some_iff.1 hj
    have aM:j < len:=by have:=(List.getElem?_eq_some_iff.1 hi').1;simpa using this
    have e:i'=j:=by rw[List.getElem?_range aM]at hi';exact(Option.some.inj hi').symm
    subst e
    have:=(hF i' (by omega)).1
    rw[Zbx]at this
    exact this
  ·intro c hc
   obtain⟨i,hi,rfl⟩:=List.mem_map.1 hc
   exact(hF i (by have:=List.mem_range.1 hi;omega)).2
end Go.Proofs.Ytgclajkldphoaaa
set_option linter.unusedVariables false
namespace Go.Proofs.Ytgclajkldphoaaa
open Go Go.Eng Go.Proofs Go.RowKit
open Go.Value (int slice agg bool string tuple func)
open Go.IntKind (u8 u64 i64)
set_option maxRecDepth 100000
noncomputable def ZdO:Env:={ EB with
 loops:=(λi=>bif Nat.beq i 12 then⟨[(80,.int .i64)],[],[],false⟩ else⟨[],[],[],false⟩)
 joins:=(λi=>bif Nat.beq i 7 then some [(42,.bool)]else bif Nat.beq i 8 then some [(4,.bool)]else none)
 dr:=(λi=>bif Nat.beq i 9 then[⟨0,[],[],none,[],[]⟩,⟨1,[],[],none,[0],[]⟩,⟨2,[],[],none,[],[]⟩,⟨3,[],[],none,[2],[]⟩,⟨4,[],[],none,[2,3],[]⟩,⟨5,[],[],none,[0,1,2,3,4],[]⟩,⟨6,[],[],none,[0,1,2,3,4,5],[]⟩,⟨7,[],[],none,[0,1,2,3,4,5,6],[]⟩,⟨8,[],[],none,[0,1,2,3,4,5,6,7],[]⟩,⟨9,[],[],none,[0,1,2,3,4,5,6,7,8],[]⟩,⟨10,[],[],none,[0,1,2,3,4,5,6],[]⟩,⟨11,[],[],none,[0,1,2,3,4,5,6,10],[]⟩,⟨12,[],[],none,rg 0 12,[]⟩,⟨13,[],[],none,rg 0 13,[]⟩,⟨14,[],[],none,rg 0 14,[]⟩,⟨15,[],[],none,rg 0 15,[]⟩,⟨16,[],[],none,rg 0 16,[]⟩,⟨17,[5],[],none,rg 0 15,[]⟩,⟨18,[],[],none,rg 0 15++[17],[]⟩,⟨19,[],[],none,rg 0 19,[]⟩,⟨20,[],[],none,rg 0 20,[]⟩]else bif Nat.beq i 14 then[⟨0,[11],[],none,[],[]⟩,⟨1,[],[],none,[],[]⟩,⟨2,[],[],none,[0,1],[]⟩]else bif Nat.beq i 17 then[⟨0,[11],[],none,[],[]⟩,⟨1,[11],[],none,[0],[]⟩,⟨2,[],[],none,[0,1],[]⟩,⟨3,[],[],none,[0,1,2],[]⟩,⟨4,[11],[],none,[0,1,2,3],[]⟩,⟨5,[11],[],none,[0,1,2,3,4],[]⟩,⟨6,[11],[],none,[0,1,2,3],[]⟩,⟨7,[11],[],none,[0,1,2,3,6],[]⟩,⟨8,[],[],none,[0,1,2,3,4,5,6,7],[]⟩,⟨9,[],[],none,[0,1,2,3,4,5,6,7,8],[]⟩,⟨10,[],[],none,[0,1,2,3,4,5,6,7,8,9],[]⟩,⟨11,[11],[],none,[0,1,2,3,4,5,6,7,8,9,10],[]⟩,⟨12,[11],[],none,rg 0 12,[]⟩,⟨13,[],[],none,[0,1,2,3,4,5,6,7,8,9,10],[]⟩,⟨14,[],[],none,rg 0 11++[13],[]⟩,⟨15,[],[],none,rg 0 15,[]⟩,⟨16,[],[],none,rg 0 16,[]⟩,⟨17,[],[],none,rg 0 17,[]⟩,⟨18,[],[],none,rg 0 18,[]⟩,⟨19,[],[],none,rg 0 18,[]⟩,⟨20,[],[],none,rg 0 18++[19],[]⟩,⟨21,[],[],none,rg 0 21,[]⟩,⟨22,[],[],none,rg 0 22,[]⟩,⟨23,[],[],none,rg 0 18,[]⟩,⟨24,[11],[],none,rg 0 18,[]⟩,⟨25,[11],[],none,rg 0 18++[24],[]⟩,⟨26,[11],[],none,rg 0 18,[]⟩,⟨27,[11],[],none,rg 0 18++[26],[]⟩,⟨28,[],[],none,rg 0 18++rg 23 5,[]⟩,⟨29,[],[],none,rg 0 18++rg 23 6,[]⟩,⟨30,[],[],none,rg 0 30,[]⟩,⟨31,[],[],none,rg 0 31,[]⟩]else[])
 tokOf:=(λi=>bif Nat.beq i 148 then 148 else 0)
 gb:=true
 tails:=true }
def Zcc(p0a:Option Addr)(p0n p0c:Nat)(p1a:Option Addr)(p1n p1c:Nat)(m:Mem)(R:RT):Prop:=
 ∃(R_1:RT),True/\CX Try.prog 8 (Array.mk []) m [] R_1/\ZaO Shape.bool R_1/\∀(b:Bool)(m':Mem),Mem.le m m'->R_1 (bool b) m' []->br (!b) (∃(m'':Mem),Mem.le m m''/\Mem.le m'' m'/\R (bool false) m'' [])
 (∃(R_2:RT),True/\CX Try.prog 9 (Array.mk [slice p0a p0n p0c]) m' [] R_2/\ZaO (shT) R_2/\∀(n aa ab ac ad ae af:Int)(a:Option Addr)(ag c:Nat)(ax:Mem),Mem.le m' ax->R_2 (agg (Array.mk [int u8 n,int
 u64 aa,int u64 ab,int u64 ac,int u64 ad,int i64 ae,int i64 af,slice a ag c])) ax []->∀(b:Nat),(((0:Int)<=if(14:Int) < (↑p1n:Int)then(14:Int)else(↑p1n:Int))/\(if(14:Int) < (↑p1n:Int)then
 (14:Int)else(↑p1n:Int))<=(↑p1c:Int))/\∃(R_3:RT),True/\CX Try.prog 15 (Array.mk [agg (Array.mk [int u8 n,int u64 aa,int u64 ab,int u64 ac,int u64 ad,int i64 ae,int i64 af,slice a ag c]),slice
 (ZaW p1a 0 p1c 1) (Int.toNat (if(14:Int) < (↑p1n:Int)then(14:Int)else(↑p1n:Int)) - 0) (p1c - 0)]) ax [] R_3/\ZaO (Shape.tup [Shape.slice,Shape.int i64]) R_3/\∀(az:Option Addr)(aj be:Nat) (ay:
 Int) (m':Mem),Mem.le ax m'->R_3 (tuple (Array.mk [slice az aj be,int i64 ay])) m' []->∃(R_4:RT),True/\CX Try.prog 16 (Array.mk [agg (Array.mk [int u8 n,int u64 aa,int u64 ab,int u64 ac,int u64 ad,int i64
 ae,int i64 af,slice a ag c]),slice (ZaW p1a 0 p1c 1) (Int.toNat (if(14:Int) < (↑p1n:Int)then(14:Int)else(↑p1n:Int)) - 0) (p1c - 0)]) m' [] R_4/\ZaO (Shape.tup [Shape.slice,Shape.int i64]) R_4/\∀
 (aq:Option Addr) (ao bf:Nat) (a0:Int) (ah:Mem),Mem.le m' ah->R_4 (tuple (Array.mk [slice aq ao bf,int i64 a0])) ah []->∃(a1:Bool),br (!ay == a0) ([some (Box.mk b [int u8 n,int u64 aa,int u64 ab,int
 u64 ac,int u64 ad,int i64 ae,int i64 af,slice a ag c] 29 8 false true)]=[some (Box.mk b [int u8 n,int u64 aa,int u64 ab,int u64 ac,int u64 ad,int i64 ae,int i64 af,slice a ag c] 29 8 false true)]/\[bool
 true]=[bool a1]) ([some (Box.mk b [int u8 n,int u64 aa,int u64 ab,int u64 ac,int u64 ad,int i64 ae,int i64 af,slice a ag c] 29 8 false true)]=[some (Box.mk b [int u8 n,int u64 aa,int u64 ab,int u64 ac,int
 u64 ad,int i64 ae,int i64 af,slice a ag c] 29 8 false true)]/\[bool !ay == (0:Int)]=[bool a1])/\br a1 (∃(ar:Bool),br (ay == (141:Int)) (br (a0 == (141:Int)) ([some (Box.mk b [int u8 n,int u64 aa,int
 u64 ab,int u64 ac,int u64 ad,int i64 ae,int i64 af,slice a ag c] 29 8 false true)]=[some (Box.mk b [int u8 n,int u64 aa,int u64 ab,int u64 ac,int u64 ad,int i64 ae,int i64 af,slice a ag c] 29 8 false
 true)]/\[bool (IntKind.wrap i64 ((↑aj:Int)+(↑ao:Int)) == (0:Int))]=[bool ar]) ([some (Box.mk b [int u8 n,int u64 aa,int u64 ab,int u64 ac,int u64 ad,int i64 ae,int i64 af,slice a ag c] 29 8 false
 true)]=[some (Box.mk b [int u8 n,int u64 aa,int u64 ab,int u64 ac,int u64 ad,int i64 ae,int i64 af,slice a ag c] 29 8 false true)]/\[bool false]=[bool ar])) ([some (Box.mk b [int u8 n,int u64 aa,int u64
 ab,int u64 ac,int u64 ad,int i64 ae,int i64 af,slice a ag c] 29 8 false true)]=[some (Box.mk b [int u8 n,int u64 aa,int u64 ab,int u64 ac,int u64 ad,int i64 ae,int i64 af,slice a ag c] 29 8 false true)]/\
 [bool false]=[bool ar])/\∃(m'':Mem),Mem.le m m''/\Mem.le m'' ah/\R (bool ar) m'' []) (∃(f:Fx),br (!(↑ao:Int) == IntKind.wrap i64 ((↑aj:Int)+(1:Int))) (∀(M:Mem),Mem.le ah M->Mem.le ah M->∃(m''
 : Mem),Mem.le m m''/\Mem.le m'' M/\R (bool false) m'' []) (∃(ar:Nat),∃(o:Nat),aq=some (Addr.mk ar o none)/\Zag (0:Int) ao/\∃(v:Value),ah ar (o+0)=some v/\∃(bs:ByteArray),ByteArray.size
 bs=Int.toNat (if(14:Int) < (↑p1n:Int)then(14:Int)else(↑p1n:Int)) - 0/\rowRd ah (ZaW p1a 0 p1c 1) (Zak bs)/\chk (Zfb v&&true) (br (!ByteArray.toList (ZaU v) == ByteArray.toList bs) (∀(M:
 Mem),Mem.le ah M->Mem.le ah M->∃(m'':Mem),Mem.le m m''/\Mem.le m'' M/\R (bool false) m'' []) (∃(R_5:RT),R_5=f 18 [agg (Array.mk [int u8 n,int u64 aa,int u64 ab,int u64 ac,int u64 ad,int i64 ae,int
 i64 af,slice a ag c])] ah/\CX Try.prog 20 (Array.mk [agg (Array.mk [int u8 n,int u64 aa,int u64 ab,int u64 ac,int u64 ad,int i64 ae,int i64 af,slice a ag c])]) ah [] R_5/\ZaO (Shape.int i64) R_5/\∀(ba:
 Int) (m':Mem),Mem.le ah m'->R_5 (int i64 ba) m' []->∀(M:Mem),Mem.le ah M->Mem.le m' M->br (!(↑aj:Int) == ba) (∃(m'':Mem),Mem.le m m''/\Mem.le m'' M/\R (bool false) m'' []) (∃(I:IT),(∃(n:Nat),I
 [int i64 0] [] [] M n)/\∀(an:Int)(m':Mem)(a2:Nat),Mem.le M m'->I [int i64 an] [] [] m' a2->br (decide (an < (↑aj:Int))) (∃(al:Nat),∃(o:Nat),az=some (Addr.mk al o none)/\Zag an aj/\∃(v:
 Value),∃(ak:Value),Mem.reads m' al (o+Int.toNat an*2) [v,ak]/\∀(a3:Nat),chk (Value.oneCell' v&&(Value.oneCell' ak&&true)) (∃(f:Fx),∃(R_6:RT),R_6=f 1 [] m'/\CX Try.prog 21 (Array.mk []) m'
 [] R_6/\ZaO (Shape.agg [Shape.int i64,Shape.int i64]) R_6/\∀(au av:Int)(ap:Mem),Mem.le m' ap->R_6 (agg (Array.mk [int i64 au,int i64 av])) ap []->∃(bb:Bool),EqIs Try.prog 56 (agg (Array.mk [v,ak]))
 (agg (Array.mk [int i64 au,int i64 av])) bb/\∀(M:Mem),Mem.le m' M->Mem.le ap M->br bb (∃(aw:Nat),∃(o:Nat),aq=some (Addr.mk aw o none)/\Zag (IntKind.wrap i64 (an+(1:Int))) ao/\∃(v:Value),M
 aw (o+Int.toNat (IntKind.wrap i64 (an+(1:Int)))*1)=some v/\chk (Zfb v&&true) (br (!ByteArray.toList (ZaU v) == ByteArray.toList (ByteArray.mk (Array.mk []))) (∃(m'':Mem),Mem.le m m''/\Mem.le m'' M
 /\ R (bool false) m'' []) ([some (Box.mk b [int u8 n,int u64 aa,int u64 ab,int u64 ac,int u64 ad,int i64 ae,int i64 af,slice a ag c] 29 8 false true)]=[some (Box.mk b [int u8 n,int u64 aa,int u64 ab,int u64
 ac,int u64 ad,int i64 ae,int i64 af,slice a ag c] 29 8 false true)]/\∃(n':Nat),n' < a2/\I [int i64 (IntKind.wrap i64 (an+(1:Int)))] [] [] M n'))) (chk (ZaQ i64 v&&decide (i64=i64)) (br (decide
 (RowKit.intOf v < (0:Int))) (∃(m'':Mem),Mem.le m m''/\Mem.le m'' M/\R (bool false) m'' []) (chk (ZaQ i64 v&&ZaQ i64 ak) (br (decide (RowKit.intOf v > RowKit.intOf ak)) (∃(m'':Mem),Mem.le m m''/\Mem.le
 m'' M/\R (bool false) m'' []) (chk (ZaQ i64 ak&&decide (i64=i64)) (br (decide (RowKit.intOf ak > (↑(Int.toNat (if(14:Int) < (↑p1n:Int)then(14:Int)else(↑p1n:Int)) - 0):Int))) (∃(m'':Mem),Mem.le
 m m''/\Mem.le m'' M/\R (bool false) m'' []) (∃(aw:Nat),∃(o:Nat),aq=some (Addr.mk aw o none)/\Zag (IntKind.wrap i64 (an+(1:Int))) ao/\∃(a4:Value),M aw (o+Int.toNat (IntKind.wrap i64 (an+(1:
 Int)))*1)=some a4/\chk (Zbd ak) (((0:Int)<=RowKit.intOf ak/\RowKit.intOf ak<=(↑(p1c - 0):Int))/\chk (Zbd v) (((0:Int)<=RowKit.intOf v/\RowKit.intOf v<=(↑(Int.toNat (RowKit.intOf ak)):Int))
 /\ ∃(bs:ByteArray),ByteArray.size bs=Int.toNat (RowKit.intOf ak) - Int.toNat (RowKit.intOf v)/\rowRd M (ZaW (ZaW p1a 0 p1c 1) (Int.toNat (RowKit.intOf v)) (p1c - 0) 1) (Zak bs)/\chk (Zfb a4&&true)
 (br (!ByteArray.toList (ZaU a4) == ByteArray.toList bs) (∃(m'':Mem),Mem.le m m''/\Mem.le m'' M/\R (bool false) m'' []) ([some (Box.mk b [int u8 n,int u64 aa,int u64 ab,int u64 ac,int u64 ad,int i64 ae,int
 i64 af,slice a ag c] 29 8 false true)]=[some (Box.mk b [int u8 n,int u64 aa,int u64 ab,int u64 ac,int u64 ad,int i64 ae,int i64 af,slice a ag c] 29 8 false true)]/\∃(n':Nat),n' < a2/\I [int i64
 (IntKind.wrap i64 (an+(1:Int)))] [] [] M n'))))))))))))) (∃(R_6:RT),True/\CX Try.prog 18 (Array.mk [agg (Array.mk [int u8 n,int u64 aa,int u64 ab,int u64 ac,int u64 ad,int i64 ae,int i64 af,slice a ag
 c])]) m' [] R_6/\ZaO (shT) R_6/\∀(n au av a5 a6 a7 a8:Int)(a:Option Addr)(a9 c:Nat)(ap:Mem),Mem.le m' ap->R_6 (agg (Array.mk [int u8 n,int u64 au,int u64 av,int u64 a5,int u64 a6,int i64 a7,int
 i64 a8,slice a a9 c])) ap []->∀(b:Nat),∃(R_7:RT),True/\CX Try.prog 19 (Array.mk [agg (Array.mk [bool false,bool false,int u8 n,int u64 au,int u64 av,int u64 a5,int u64 a6,int i64 a7,int i64 a8,slice
 a a9 c])]) ap [] R_7/\ZaO (Shape.int i64) R_7/\∀(bc:Int)(m':Mem),Mem.le ap m'->R_7 (int i64 bc) m' []->br (bc == (0:Int)) (∃(R_8:RT),True/\CX Try.prog 15 (Array.mk [agg (Array.mk [int u8 n,int u64
 au,int u64 av,int u64 a5,int u64 a6,int i64 a7,int i64 a8,slice a a9 c]),slice (ZaW p1a 0 p1c 1) (Int.toNat (if(14:Int) < (↑p1n:Int)then(14:Int)else(↑p1n:Int)) - 0) (p1c - 0)]) m' [] R_8/\ZaO
 (Shape.tup [Shape.slice,Shape.int i64]) R_8/\∀(a:Option Addr)(n c:Nat)(bd:Int)(ai:Mem),Mem.le m' ai->R_8 (tuple (Array.mk [slice a n c,int i64 bd])) ai []->br (!bd == (0:Int)) (∃(m'':Mem),Mem.le
 m m''/\Mem.le m'' ai/\R (bool false) m'' []) (∀(b:Nat),Mem.free ai b->br (Nat.beq aj 0) (∃(R_9:RT),True/\CX Try.prog 22 (Array.mk [slice a n c,slice (some (Addr.mk b 0 none)) 1 1]) (Mem.add ai b [int i64 0,
 int i64 (↑(Int.toNat (if(14:Int) < (↑p1n:Int)then(14:Int)else(↑p1n:Int)) - 0):Int)]) [] R_9/\ZaO Shape.bool R_9/\∀(al:Bool)(m':Mem),Mem.le (Mem.add ai b [int i64 0,int i64 (↑(Int.toNat (if(14
 : Int) < (↑p1n:Int)then(14:Int)else(↑p1n:Int)) - 0):Int)]) m'->R_9 (bool al) m' []->br (!al) (∃(m'':Mem),Mem.le m m''/\Mem.le m'' m'/\R (bool false) m'' []) (∃(b:Nat),∃(o:Nat),aq=some
 (Addr.mk b o none)/\Zag (0:Int) ao/\∃(v:Value),m' b (o+0)=some v/\chk (Zfb v) (∀(b c:Nat),Mem.free m' b->ByteArray.size (ZaU v)<=c->∃(R_10:RT),True/\CX Try.prog 23 (Array.mk [slice
 (ZaW p1a 0 p1c 1) (Int.toNat (if(14:Int) < (↑p1n:Int)then(14:Int)else(↑p1n:Int)) - 0) (p1c - 0),slice (some (Addr.mk b 0 none)) (ByteArray.size (ZaU v)) c]) (Mem.add m' b (Zak (ZaU v))) [] R_10
 /\ ZaO Shape.bool R_10/\∀(a3:Bool)(am:Mem),Mem.le (Mem.add m' b (Zak (ZaU v))) am->R_10 (bool a3) am []->∃(m'':Mem),Mem.le m m''/\Mem.le m'' am/\R (bool a3) m'' []))) ((slice (some (Addr.mk b 0
 none)) 1 1=slice none 0 0\/1 < 1+aj)/\∃(xs:List Value),∃(ys:List Value),List.length xs=1*2/\List.length ys=aj*2/\rowRd (Mem.add ai b [int i64 0,int i64 (↑(Int.toNat (if(14:Int) < (↑p1n:Int)
 then(14:Int)else(↑p1n:Int)) - 0):Int)]) (some (Addr.mk b 0 none)) xs/\rowRd (Mem.add ai b [int i64 0,int i64 (↑(Int.toNat (if(14:Int) < (↑p1n:Int)then(14:Int)else(↑p1n:Int)) - 0):Int)]) az ys/\
 (∀(u:Value),u∈ys->Value.oneCell' u=true)/\(1+aj)*16<=140737488355328/\1+aj<=9223372036854775807/\∀(a':Option Addr)(c':Nat)(m':Mem),Mem.le (Mem.add ai b [int i64 0,int i64 (↑(Int.toNat (if
 (14:Int) < (↑p1n:Int)then(14:Int)else(↑p1n:Int)) - 0):Int)]) m'->rowRd m' a' (List.append xs ys)->∃(R_9:RT),True/\CX Try.prog 22 (Array.mk [slice a n c,slice a' (1+aj) c']) m' [] R_9/\ZaO
 Shape.bool R_9/\∀(b:Bool)(am:Mem),Mem.le m' am->R_9 (bool b) am []->br (!b) (∃(m'':Mem),Mem.le m m''/\Mem.le m'' am/\R (bool false) m'' []) (∃(b:Nat),∃(o:Nat),aq=some (Addr.mk b o none)/\
 Zag (0:Int) ao/\∃(v:Value),am b (o+0)=some v/\chk (Zfb v) (∀(b c:Nat),Mem.free am b->ByteArray.size (ZaU v)<=c->∃(R_10:RT),True/\CX Try.prog 23 (Array.mk [slice (ZaW p1a 0 p1c 1)
 (Int.toNat (if(14:Int) < (↑p1n:Int)then(14:Int)else(↑p1n:Int)) - 0) (p1c - 0),slice (some (Addr.mk b 0 none)) (ByteArray.size (ZaU v)) c]) (Mem.add am b (Zak (ZaU v))) [] R_10/\ZaO Shape.bool
 R_10/\∀(al:Bool)(m':Mem),Mem.le (Mem.add am b (Zak (ZaU v))) m'->R_10 (bool al) m' []->∃(m'':Mem),Mem.le m m''/\Mem.le m'' m'/\R (bool al) m'' []))))) (∃(b:Nat),∃(o:Nat),aq=some (Addr.mk
 b o none)/\Zag (0:Int) ao/\∃(v:Value),m' b (o+0)=some v/\chk (Zfb v) (∀(b c:Nat),Mem.free m' b->ByteArray.size (ZaU v)<=c->∃(R_8:RT),True/\CX Try.prog 23 (Array.mk [slice (ZaW p1a 0
 p1c 1) (Int.toNat (if(14:Int) < (↑p1n:Int)then(14:Int)else(↑p1n:Int)) - 0) (p1c - 0),slice (some (Addr.mk b 0 none)) (ByteArray.size (ZaU v)) c]) (Mem.add m' b (Zak (ZaU v))) [] R_8/\ZaO
 Shape.bool R_8/\∀(al:Bool)(ai:Mem),Mem.le (Mem.add m' b (Zak (ZaU v))) ai->R_8 (bool al) ai []->∃(m'':Mem),Mem.le m m''/\Mem.le m'' ai/\R (bool al) m'' [])))))))))
theorem Zdw(p0a:Option Addr)(p0n p0c:Nat)(p1a:Option Addr)(p1n p1c:Nat)(m:Mem)(R:RT)(h:Zcc p0a p0n p0c p1a p1n p1c m R):CX Try.prog 4 #[.slice p0a p0n p0c,.slice p1a p1n p1c] m [] R:=
 Zaj (E:=ZdO) ZaP mix Try.func4 [.v (.slice p0a p0n p0c),.v (.slice p1a p1n p1c)] [] (by kernel_rfl) (Eq.mp (by kernel_rfl) h)
end Go.Proofs.Ytgclajkldphoaaa
