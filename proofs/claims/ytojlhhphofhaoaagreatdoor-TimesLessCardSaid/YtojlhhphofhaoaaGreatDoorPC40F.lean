/- Part of the proof: functions of the program. No condition. -/
import Derived.Test.YtojlhhphofhaoaaGreatDoorPEnv
import Derived.Test.YtojlhhphofhaoaaGreatDoorMc
import Derived.Test.YtojlhhphofhaoaaGreatDoorPVM
import Derived.Test.YtojlhhphofhaoaaGreatDoorPC25D
import Derived.Test.YtojlhhphofhaoaaGreatDoorMr
import Derived.Test.YtojlhhphofhaoaaGreatDoorPC25MC
import Derived.Test.YtojlhhphofhaoaaGreatDoorPC25I
set_option linter.unusedVariables false
set_option linter.unusedSimpArgs false
set_option linter.unusedSectionVars false
noncomputable section
namespace Go.Proofs.YtojlhhphofhaoaaGreatDoor
open Go Go.Eng Go.Proofs Go.RowKit
open Go.Value (int slice agg bool string tuple func)
open Go.IntKind (u8 u64 i64)
set_option maxRecDepth 100000
def Zwl:Env:={ EB with
 frzNew:=[1] }
theorem ZsT(aA aC aD aE aU aR aS:Int)(aQ:Option Addr)(aP aT:Nat)(m:Mem)(R:RT)(h:
 lV [int u8 aA,int u64 aC,int u64 aD,int u64 aE,int u64 aU,int i64 aR,int i64 aS,slice aQ aP aT] λxL=>fzM m xL λb m'=>∀(b:Nat),kB Tryz.prog 69 [agg (Array.mk xL)] m' λb m'
 => br (!b) (rtM m m' R (agg (Array.mk [int u8 0,int u64 0,int u64 0,int u64 0,int u64 0,int i64 0,int i64 0,slice none 0 0]))) (∃(R_1:RT),True/\CX Tryz.prog 108 (Array.mk [agg (Array.mk xL)]) m' [] R_1/\
 ZaZ (shT) R_1/\∀(n n_1 n_2 n_3 n_4 n_5 n_6:Int)(a:Option Addr)(n_7 c:Nat)(m'_1:Mem),lX (agg (Array.mk [int u8 n,int u64 n_1,int u64 n_2,int u64 n_3,int u64 n_4,int i64 n_5,int i64 n_6,slice a n_7
 c])) λyL=>m'.le m'_1->R_1 yL m'_1 []->rtM m m'_1 R yL)):CX Tryz.prog 71 #[.agg #[.int .u8 aA,.int .u64 aC,.int .u64 aD,.int .u64 aE,.int .u64 aU,.int .i64 aR,.int .i64 aS,.slice aQ aP aT]] m [] R:=
 Zal (E:=Zwl) Zak mix Tryz.func71 (by kernel_rfl) (Eq.mp (by kernel_rfl) h)
def ZbJ:Env:={ EB with
 tokOf:=(λi=>bif Nat.beq i 2 then 7 else bif Nat.beq i 7 then 7 else 0)
 tokC:=(λi=>bif Nat.beq i 5 then some (7,5)else none)
 thaw:=true }
theorem Zby(p0a:Option Addr)(p0n p0c:Nat)(m:Mem)(R:RT)(h:
 lE (0+p0n) λyL=>br (Option.isNone p0a) (slice none 0 0=slice none 0 0/\R (slice none 0 0) m []) (((0:Int)=(0:Int)/\(0:Int)<=(0:Int)/\(0:Int)*(↑(64:Nat):Int)<=(281474976710656:Int)/\(0
 : Int)<=(9223372036854775807:Int))/\∀(b:Nat),lX (slice (some (Addr.mk b 0 none)) 0 (Int.toNat (0:Int))) λyL_1=>m.free b->Mem.k m b=none->(Tok.mk yL_1 5=Tok.mk yL_1 5\/yL_1=slice none 0 0\/
 Int.toNat (0:Int) < yL)/\∃(xs:List Value),∃(ys:List Value),xs.length=0*5/\ys.length=p0n*5/\rowRd m (some (Addr.mk b 0 none)) xs/\rowRd m p0a ys/\(∀(u:Value),u∈ys->u.oneCell'
 = true)/\yL*64<=140737488355328/\yL<=9223372036854775807/\∀(a':Option Addr)(c':Nat)(m':Mem),lE (some (Tok.mk (slice a' yL c') 5)) λyL_2=>m.le m'->rowRd m' a' (List.append xs ys)->TokFact m
 (some (Addr.mk b 0 none)) a' yL c'->yL_2=yL_2/\R (slice a' yL c') m' [])):CXT Tryz.prog 132 #[.slice p0a p0n p0c] m 5 R:=
 ZiO (E:=ZbJ) Zak mix Tryz.func132 [.v (.slice p0a p0n p0c)] (by kernel_rfl) (Eq.mp (by kernel_rfl) h)
def ZjP:Env:={ EB with
 loops:=(λi=>bif Nat.beq i 3 then⟨[(14,.int .i64)],[],[],false⟩ else⟨[],[],[],false⟩)
 dr:=(λi=>bif Nat.beq i 5 then[⟨0,[2],[],none,[],[]⟩,⟨1,[2],[],none,[0],[]⟩,⟨2,[],[],none,[],[]⟩,⟨3,[6],[],none,[],[]⟩,⟨4,[],[],none,[],[]⟩,⟨5,[],[],none,[3,4],[]⟩,⟨6,[],[],none,[0,1,2,3,4,5],[]⟩]else[])
 thaw:=true
 stAt:=(λi=>bif Nat.beq i 25 then some 9 else none)
 last:=(λi=>bif Nat.beq i 5 then true else false)
 tokC:=(λi=>bif Nat.beq i 9 then some (9,5)else none) }
theorem Zit(aA:Int)(aC:Value)(aD:ByteArray)(aE:Int)(aX:Option Addr)(aV aZ p1g:Nat)(p1fi p1ca:List Value)(m:Mem)(R:RT)(h:
 ∀(b b_1:Nat),∃(R_1:RT),lV [func (Fn.func p1g) (Array.mk p1fi) (Array.mk p1ca)] λxL=>CXT Tryz.prog 132 (Array.mk [slice aX aV aZ]) m 5 R_1/\ZaZ Shape.slice R_1/\∀(a:Option Addr)(n c:Nat)
 (m':Mem),lX (slice a n c) λyL=>lV [int u8 aA,aC,string aD,int i64 aE,yL] λxL_1=>m.le m'->R_1 yL m' []->∃(I:IT),inI I [int i64 0] [] [] m'/\∀(n_1:Int)(m':Mem)(n_2:Nat),lE
 (Int.toNat n_1*5) λyL_1=>True->I [int i64 n_1] [] [] m' n_2->br (decide (n_1 < (↑n:Int))) (atA a λb_2 o=>Zaf n_1 n/\∃v v_1 v_2 v_3 v_4:Value,lV [v,v_1,v_2,v_3,v_4] λxL_2=>m'.reads b_2 (o+yL_1) xL_2/\∀(b_3:Nat),chk (v.oneCell'&&(v_1.oneCell'&&(v_2.oneCell'&&(v_3.oneCell'&&(v_4.oneCell'&&true))))) (∃
 (f:Fx),∃(R:RT),R=f 5 (agg (Array.mk xL_2)::xL) m'/\CX Tryz.prog 109 (Array.mk (agg (Array.mk xL_2)::xL)) m' [] R/\ZaZ (Shape.agg [Shape.int u8,Shape.any,Shape.str,Shape.int i64,Shape.slice]) R/\∀
 (n_3:Int) (v:Value) (s:ByteArray) (n_4:Int) (a_5:Option Addr) (n_5 c_1:Nat) (m'_1:Mem),lV [int u8 n_3,v,string s,int i64 n_4,slice a_5 n_5 c_1] λxL=>m'.le m'_1->R (agg (Array.mk xL)) m'_1 []
 -> atA a λb_4 o=>Zaf n_1 n/\∀(M:Mem),m'.le M->m'_1.le M->chk (v.oneCell'&&true) (yL=slice (some (Addr.mk b_4 0 none)) n c/\o+yL_1+5<=n*5/\Zad [some (Box.mk b_1 [int u8 0,
 Value.float .f64 0,string bE0,int i64 0,slice none 0 0] 133 5 false true),some (Box.mk b xL_1 133 5 false true)]/\[some (Tok.mk yL 5)]=[some (Tok.mk yL 5)]/\nxI n_2 I [int i64
 (i64.wrap (n_1+(1:Int)))] [] [] (Mem.upd M b_4 (o+yL_1) xL)))) (∃(R_2:RT),True/\CX Tryz.prog p1g (Array.mk (List.append (List.append p1fi [agg (Array.mk xL_1)]) p1ca)) m' [] R_2/\ZaZ (Shape.agg
 [Shape.int u8,Shape.any,Shape.str,Shape.int i64,Shape.slice]) R_2/\∀(n:Int)(v:Value)(s:ByteArray)(n_3:Int)(a:Option Addr)(n_4 c:Nat)(m'_1:Mem),lX (agg (Array.mk [int u8 n,v,string s,int i64
 n_3,slice a n_4 c])) λyL=>m'.le m'_1->R_2 yL m'_1 []->chk (v.oneCell'&&true) (rtM m m'_1 R yL))):CX Tryz.prog 109 #[.agg #[.int .u8 aA,aC,.string aD,.int .i64 aE,.slice aX aV aZ],.func (.func p1g) p1fi.toArray p1ca.toArray] m [] R:=
 Zal (E:=ZjP) Zak mix Tryz.func109 (by kernel_rfl) (Eq.mp (by kernel_rfl) h)
def Zmb:Env:={ EB with
 frzNew:=[1] }
theorem ZjQ(aA:Int)(aC:Value)(aD:ByteArray)(aE:Int)(aX:Option Addr)(aV aZ:Nat)(m:Mem)(R:RT)(h:
 lV [int u8 aA,aC,string aD,int i64 aE,slice aX aV aZ] λxL=>fzM m xL λb m'=>∀(b:Nat),chk (aC.oneCell'&&true) (rtM m m' R (agg (Array.mk xL)))):CX Tryz.prog 110 #[.agg #[.int .u8 aA,aC,.string aD,.int .i64 aE,.slice aX aV aZ]] m [] R:=
 Zal (E:=Zmb) Zak mix Tryz.func110 (by kernel_rfl) (Eq.mp (by kernel_rfl) h)
def Zrj:Env:={ EB with
 frzNew:=[1] }
theorem Zoo(aA:Int)(aC:Value)(aD:ByteArray)(aE:Int)(aX:Option Addr)(aV aZ:Nat)(m:Mem)(R:RT)(h:
 lV [int u8 aA,aC,string aD,int i64 aE,slice aX aV aZ] λxL=>fzM m xL λb m'=>∀(b:Nat),kB Tryz.prog 95 [agg (Array.mk xL)] m' λb m'=>br (!b) (rtM m m' R (agg (Array.mk [int u8 0,
 Value.float .f64 0,string bE0,int i64 0,slice none 0 0]))) (∃(R_1:RT),True/\CX Tryz.prog 109 (Array.mk [agg (Array.mk xL),func (Fn.func 110) (Array.mk []) (Array.mk [])]) m' []
 R_1/\ZaZ (Shape.agg [Shape.int u8,Shape.any,Shape.str,Shape.int i64,Shape.slice]) R_1/\∀(n:Int)(v:Value)(s:ByteArray)(n_1:Int)(a:Option Addr)(n_2 c:Nat)(m'_1:Mem),lX (agg (Array.mk [int u8
 n,v,string s,int i64 n_1,slice a n_2 c])) λyL=>m'.le m'_1->R_1 yL m'_1 []->chk (v.oneCell'&&true) (rtM m m'_1 R yL))):CX Tryz.prog 74 #[.agg #[.int .u8 aA,aC,.string aD,.int .i64 aE,.slice aX aV aZ]] m [] R:=
 Zal (E:=Zrj) Zak mix Tryz.func74 (by kernel_rfl) (Eq.mp (by kernel_rfl) h)
def Zfe:Env:=EB
theorem ZeT(aA:Int)(aC:ByteArray)(aD aE:Int)(aU:Value)(aR:ByteArray)(aS:Int)(aQ:Option Addr)(aP aT:Nat)(m:Mem)(R:RT)(h:
 ∀(b b:Nat),∃(R_1:RT),True/\CX Tryz.prog 74 (Array.mk [agg (Array.mk [int u8 aE,aU,string aR,int i64 aS,slice aQ aP aT])]) m [] R_1/\ZaZ (Shape.agg [Shape.int u8,Shape.any,Shape.str,
 Shape.int i64,Shape.slice]) R_1/\∀(n:Int)(v:Value)(s:ByteArray)(n_1:Int)(a:Option Addr)(n_2 c:Nat)(m':Mem),lV [int u8 n,v,string s,int i64 n_1,slice a n_2 c] λxL=>m.le m'->R_1 (agg
 (Array.mk xL)) m' []->chk (v.oneCell'&&true) (chk (v.oneCell'&&true) (rtM m m' R (agg (Array.mk (int u8 aA::string aC::int i64 aD::xL)))))):CX Tryz.prog 76 #[.agg #[.int .u8 aA,.string aC,.int .i64 aD,.int .u8 aE,aU,.string aR,.int .i64 aS,.slice aQ aP aT]] m [] R:=
 Zal (E:=Zfe) Zak mix Tryz.func76 (by kernel_rfl) (Eq.mp (by kernel_rfl) h)
def Zcy:Env:={ EB with
 loops:=(λi=>bif Nat.beq i 3 then⟨[(5,.slice),(10,.int .i64)],[],[(19,8)],false⟩ else⟨[],[],[],false⟩)
 tokOf:=(λi=>bif Nat.beq i 19 then 19 else 0)
 thaw:=true }
theorem Zcr(p0a:Option Addr)(p0n p0c p1g:Nat)(p1fi p1ca:List Value)(m:Mem)(R:RT)(h:
 ∃(I:IT),inI I [slice none 0 0,int i64 0] [] [slice none 0 0] m/\∀(a:Option Addr)(n c:Nat)(n_1:Int)(a_1:Option Addr)(n_2 c_1:Nat)(m':Mem)(n_3:Nat),lX (slice a n c) λyL=>lE (n+1) fun
 yL_1=>True->I [yL,int i64 n_1] [] [slice a_1 n_2 c_1] m' n_3->br (decide (n_1 < (↑p0n:Int))) (atA p0a λb o=>Zaf n_1 p0n/\∃v v_1 v_2 v_3 v_4 v_5 v_6 v_7:Value,lV [v,v_1,v_2,v_3,v_4,v_5,v_6,v_7] λxL=>m'.reads b (o+Int.toNat n_1*8) xL/\∀(b:Nat),chk (v.oneCell'&&(v_1.oneCell' &&
 (v_2.oneCell'&&(v_3.oneCell'&&(v_4.oneCell'&&(v_5.oneCell'&&(v_6.oneCell'&&(v_7.oneCell'&&true)))))))) (∃(R:RT),True/\CX Tryz.prog p1g (Array.mk (List.append
 (List.append p1fi [agg (Array.mk xL)]) p1ca)) m' [] R/\ZaZ (Shape.agg [Shape.int u8,Shape.str,Shape.int i64,Shape.int u8,Shape.any,Shape.str,Shape.int i64,Shape.slice]) R/\∀(n_4:Int)(s:ByteArray) (n_5
 n_6:Int) (v:Value) (s_1:ByteArray) (n_7:Int) (a_4:Option Addr) (n_8 c_2:Nat) (m'_1:Mem),lV [int u8 n_4,string s,int i64 n_5,int u8 n_6,v,string s_1,int i64 n_7,slice a_4 n_8 c_2] λxL=>m'.le m'_1->R (agg (Array.mk xL)) m'_1 []->∀(b:Nat),lM (m'_1.add b xL) λmL=>m'_1.free b->(Tok.mk (slice a_1 n_2 c_1) 8=Tok.mk yL 8\/yL=slice none 0 0\/c < yL_1)/\∃(xs:List Value),∃(ys:List
 Value),xs.length=n*8/\ys.length=1*8/\rowRd mL a xs/\rowRd mL (some (Addr.mk b 0 none)) ys/\(∀(u:Value),u∈ys->u.oneCell'=true)/\yL_1*96<=140737488355328/\yL_1 <=
 9223372036854775807/\∀(a':Option Addr)(c':Nat)(m':Mem),mL.le m'->rowRd m' a' (List.append xs ys)->TokFact mL a a' yL_1 c'->nxI n_3 I [slice a' yL_1 c',int i64 (i64.wrap (n_1+(1:Int)))] []
 [slice a' yL_1 c'] m')) (rtM m m' R yL)):CX Tryz.prog 75 #[.slice p0a p0n p0c,.func (.func p1g) p1fi.toArray p1ca.toArray] m [] R:=
 Zal (E:=Zcy) Zak mix Tryz.func75 (by kernel_rfl) (Eq.mp (by kernel_rfl) h)
def Zg5:Env:=EB
theorem Zf6(aA:Int)(aC:ByteArray)(aJ:Option Addr)(aF aK:Nat)(aE:Int)(aU:Value)(aR:ByteArray)(aS:Int)(aQ:Option Addr)(aP aT:Nat)(m:Mem)(R:RT)(h:
 ∀(b b:Nat),∃(R_1:RT),True/\CX Tryz.prog 74 (Array.mk [agg (Array.mk [int u8 aE,aU,string aR,int i64 aS,slice aQ aP aT])]) m [] R_1/\ZaZ (Shape.agg [Shape.int u8,Shape.any,Shape.str,
 Shape.int i64,Shape.slice]) R_1/\∀(n:Int)(v:Value)(s:ByteArray)(n_1:Int)(a:Option Addr)(n_2 c:Nat)(m':Mem),lV [int u8 n,v,string s,int i64 n_1,slice a n_2 c] λxL=>m.le m'->R_1 (agg
 (Array.mk xL)) m' []->chk (v.oneCell'&&true) (kS Tryz.prog 75 [slice aJ aF aK,func (Fn.func 76) (Array.mk []) (Array.mk [])] m' λa n c m'=>chk (v.oneCell'&&true) (rtM m m' R (agg
 (Array.mk (int u8 aA::string aC::slice a n c::xL)))))):CX Tryz.prog 73 #[.agg #[.int .u8 aA,.string aC,.slice aJ aF aK,.int .u8 aE,aU,.string aR,.int .i64 aS,.slice aQ aP aT]] m [] R:=
 Zal (E:=Zg5) Zak mix Tryz.func73 (by kernel_rfl) (Eq.mp (by kernel_rfl) h)
def ZbU:Env:={ EB with
 loops:=(λi=>bif Nat.beq i 3 then⟨[(5,.slice),(10,.int .i64)],[],[(19,8)],false⟩ else⟨[],[],[],false⟩)
 tokOf:=(λi=>bif Nat.beq i 19 then 19 else 0)
 thaw:=true }
theorem ZbP(p0a:Option Addr)(p0n p0c p1g:Nat)(p1fi p1ca:List Value)(m:Mem)(R:RT)(h:
 ∃(I:IT),inI I [slice none 0 0,int i64 0] [] [slice none 0 0] m/\∀(a:Option Addr)(n c:Nat)(n_1:Int)(a_1:Option Addr)(n_2 c_1:Nat)(m':Mem)(n_3:Nat),lX (slice a n c) λyL=>lE (n+1) fun
 yL_1=>True->I [yL,int i64 n_1] [] [slice a_1 n_2 c_1] m' n_3->br (decide (n_1 < (↑p0n:Int))) (atA p0a λb o=>Zaf n_1 p0n/\∃v v_1 v_2 v_3 v_4 v_5 v_6 v_7:Value,lV [v,v_1,v_2,v_3,v_4,v_5,v_6,v_7] λxL=>m'.reads b (o+Int.toNat n_1*8) xL/\∀(b:Nat),chk (v.oneCell'&&(v_1.oneCell' &&
 (v_2.oneCell'&&(v_3.oneCell'&&(v_4.oneCell'&&(v_5.oneCell'&&(v_6.oneCell'&&(v_7.oneCell'&&true)))))))) (∃(R:RT),True/\CX Tryz.prog p1g (Array.mk (List.append
 (List.append p1fi [agg (Array.mk xL)]) p1ca)) m' [] R/\ZaZ (Shape.agg [Shape.int u8,Shape.str,Shape.slice,Shape.int u8,Shape.any,Shape.str,Shape.int i64,Shape.slice]) R/\∀(n_4:Int)(s:ByteArray) (a_4:
 Option Addr) (n_5 c_2:Nat) (n_6:Int) (v:Value) (s_1:ByteArray) (n_7:Int) (a_5:Option Addr) (n_8 c_3:Nat) (m'_1:Mem),lV [int u8 n_4,string s,slice a_4 n_5 c_2,int u8 n_6,v,string s_1,int i64 n_7,
 slice a_5 n_8 c_3] λxL=>m'.le m'_1->R (agg (Array.mk xL)) m'_1 []->∀(b:Nat),lM (m'_1.add b xL) λmL=>m'_1.free b->(Tok.mk (slice a_1 n_2 c_1) 8=Tok.mk yL 8\/yL=slice none 0 0\/c < yL_1)
 /\ ∃(xs:List Value),∃(ys:List Value),xs.length=n*8/\ys.length=1*8/\rowRd mL a xs/\rowRd mL (some (Addr.mk b 0 none)) ys/\(∀(u:Value),u∈ys->u.oneCell'=true)/\yL_1*112 <=
 140737488355328/\yL_1<=9223372036854775807/\∀(a':Option Addr)(c':Nat)(m':Mem),mL.le m'->rowRd m' a' (List.append xs ys)->TokFact mL a a' yL_1 c'->nxI n_3 I [slice a' yL_1 c',int i64 (i64.wrap (n_1+(1:Int)))] [] [slice a' yL_1 c'] m')) (rtM m m' R yL)):CX Tryz.prog 72 #[.slice p0a p0n p0c,.func (.func p1g) p1fi.toArray p1ca.toArray] m [] R:=
 Zal (E:=ZbU) Zak mix Tryz.func72 (by kernel_rfl) (Eq.mp (by kernel_rfl) h)
def ZjR:Env:=EB
theorem Ziu(aA:Int)(aC aD:Bool)(aE aU aR aS cS cT dJ:Int)(bL:Option Addr)(bM bN:Nat)(bZ:ByteArray)(bX:Int)(bQ:Option Addr)(bT bU:Nat)(cB:ByteArray)(cC:Int)(m:Mem)(R:RT)(h:
 ∀(b b:Nat),∃(R_1:RT),True/\CX Tryz.prog 71 (Array.mk [agg (Array.mk [int u8 aE,int u64 aU,int u64 aR,int u64 aS,int u64 cS,int i64 cT,int i64 dJ,slice bL bM bN])]) m [] R_1/\
 ZaZ (shT) R_1/\∀(n n_1 n_2 n_3 n_4 n_5 n_6:Int)(a:Option Addr)(n_7 c:Nat)(m':Mem),m.le m'->R_1 (agg (Array.mk [int u8 n,int u64 n_1,int u64 n_2,int u64 n_3,int u64 n_4,int i64 n_5,int i64 n_6,
 slice a n_7 c])) m' []->kS Tryz.prog 72 [slice bQ bT bU,func (Fn.func 73) (Array.mk []) (Array.mk [])] m' λa_3 n_8 c_1 m'=>rtM m m' R (agg (Array.mk [int u8 aA,bool aC,bool aD,int u8 n,int
 u64 n_1,int u64 n_2,int u64 n_3,int u64 n_4,int i64 n_5,int i64 n_6,slice a n_7 c,string bZ,int i64 bX,slice a_3 n_8 c_1,string cB,int i64 cC]))):CX Tryz.prog 43 #[.agg #[.int .u8 aA,.bool aC,.bool aD,.int .u8 aE,.int .u64 aU,.int .u64 aR,.int .u64 aS,.int .u64 cS,.int .i64 cT,.int .i64 dJ,.slice bL bM bN,.string bZ,.int .i64 bX,.slice bQ bT bU,.string cB,.int .i64 cC]] m [] R:=
 Zal (E:=ZjR) Zak mix Tryz.func43 (by kernel_rfl) (Eq.mp (by kernel_rfl) h)
def Zcz:Env:={ EB with
 loops:=(λi=>bif Nat.beq i 3 then⟨[(5,.slice),(10,.int .i64)],[],[(19,16)],false⟩ else⟨[],[],[],false⟩)
 tokOf:=(λi=>bif Nat.beq i 19 then 19 else 0)
 thaw:=true }
theorem Zcs(p0a:Option Addr)(p0n p0c p1g:Nat)(p1fi p1ca:List Value)(m:Mem)(R:RT)(h:
 ∃(I:IT),inI I [slice none 0 0,int i64 0] [] [slice none 0 0] m/\∀(a:Option Addr)(n c:Nat)(n_1:Int)(a_1:Option Addr)(n_2 c_1:Nat)(m':Mem)(n_3:Nat),lX (slice a n c) λyL=>lE (n+1) fun
 yL_1=>True->I [yL,int i64 n_1] [] [slice a_1 n_2 c_1] m' n_3->br (decide (n_1 < (↑p0n:Int))) (atA p0a λb o=>Zaf n_1 p0n/\∃v v_1 v_2 v_3 v_4 v_5 v_6 v_7 v_8 v_9 v_10 v_11 v_12 v_13 v_14 v_15:Value,lV [v,v_1,v_2,
 v_3,v_4,v_5,v_6,v_7,v_8,v_9,v_10,v_11,v_12,v_13,v_14,v_15] λxL=>m'.reads b (o+Int.toNat n_1*16) xL/\∀(b:Nat),chk (v.oneCell'&&(v_1.oneCell'&&(v_2.oneCell' &&
 (v_3.oneCell'&&(v_4.oneCell'&&(v_5.oneCell'&&(v_6.oneCell'&&(v_7.oneCell'&&(v_8.oneCell'&&(v_9.oneCell'&&(v_10.oneCell'&&(v_11.oneCell' &&
 (v_12.oneCell'&&(v_13.oneCell'&&(v_14.oneCell'&&(v_15.oneCell'&&true)))))))))))))))) (∃(R:RT),True/\CX Tryz.prog p1g (Array.mk (List.append (List.append p1fi [agg (Array.mk xL)])
 p1ca)) m' [] R/\ZaZ (Shape.agg [Shape.int u8,Shape.bool,Shape.bool,Shape.int u8,Shape.int u64,Shape.int u64,Shape.int u64,Shape.int u64,Shape.int i64,Shape.int i64,Shape.slice,Shape.str,Shape.int i64,
 Shape.slice,Shape.str,Shape.int i64]) R/\∀(n_4:Int)(b b_1:Bool)(n_5 n_6 n_7 n_8 n_9 n_10 n_11:Int)(a_4:Option Addr)(n_12 c_2:Nat)(s:ByteArray)(n_13:Int)(a_5:Option Addr)(n_14 c_3:Nat) (s_1
 : ByteArray) (n_15:Int) (m'_1:Mem),lV [int u8 n_4,bool b,bool b_1,int u8 n_5,int u64 n_6,int u64 n_7,int u64 n_8,int u64 n_9,int i64 n_10,int i64 n_11,slice a_4 n_12 c_2,string s,int i64 n_13,slice a_5
 n_14 c_3,string s_1,int i64 n_15] λxL=>m'.le m'_1->R (agg (Array.mk xL)) m'_1 []->∀(b:Nat),lM (m'_1.add b xL) λmL=>m'_1.free b->(Tok.mk (slice a_1 n_2 c_1) 16=Tok.mk yL 16\/yL=slice
 none 0 0\/c < yL_1)/\∃(xs:List Value),∃(ys:List Value),xs.length=n*16/\ys.length=1*16/\rowRd mL a xs/\rowRd mL (some (Addr.mk b 0 none)) ys/\(∀(u:Value),u∈ys->u.oneCell' =
 true)/\yL_1*168<=140737488355328/\yL_1<=9223372036854775807/\∀(a':Option Addr)(c':Nat)(m':Mem),mL.le m'->rowRd m' a' (List.append xs ys)->TokFact mL a a' yL_1 c'->nxI n_3 I [slice a' yL_1 c',int
 i64 (i64.wrap (n_1+(1:Int)))] [] [slice a' yL_1 c'] m')) (rtM m m' R yL)):CX Tryz.prog 42 #[.slice p0a p0n p0c,.func (.func p1g) p1fi.toArray p1ca.toArray] m [] R:=
 Zal (E:=Zcz) Zak mix Tryz.func42 (by kernel_rfl) (Eq.mp (by kernel_rfl) h)
def Zop:Env:={ EB with
 dr:=(λi=>bif Nat.beq i 1 then[⟨0,[1],[],none,[],[]⟩,⟨1,[1],[],none,[0],[]⟩,⟨2,[1],[],none,[],[]⟩,⟨3,[1],[],none,[2],[]⟩,⟨4,[],[],none,[2,3],[]⟩,⟨5,[],[],none,[0,1,2,3,4],[]⟩,⟨6,[2],[2],none,[0,1,2,3,4,5],[]⟩]else[])
 frzNew:=[1] }
theorem Zmc(aA:ByteArray)(aH:Option Addr)(aG aI:Nat)(m:Mem)(R:RT)(h:
 lV [slice aH aG aI,func (Fn.func 43) (Array.mk []) (Array.mk [])] λxL=>fzM m [string aA,slice aH aG aI] λb m'=>∀(b:Nat),∃(f:Fx),∃(R_1:RT),R_1=f 4 xL m'/\CX Tryz.prog 42
 (Array.mk xL) m' [] R_1/\ZaZ Shape.slice R_1/\∀(a:Option Addr)(n c:Nat)(m'_1:Mem),m'.le m'_1->R_1 (slice a n c) m'_1 []->∀(M:Mem),m'.le M->m'_1.le M->rtM m M R (agg (Array.mk [string
 aA,slice a n c]))):CX Tryz.prog 41 #[.agg #[.string aA,.slice aH aG aI]] m [] R:=
 Zal (E:=Zop) Zak mix Tryz.func41 (by kernel_rfl) (Eq.mp (by kernel_rfl) h)
def Zca:Env:={ EB with
 loops:=(λi=>bif Nat.beq i 3 then⟨[(5,.slice),(10,.int .i64)],[],[(19,2)],false⟩ else⟨[],[],[],false⟩)
 tokOf:=(λi=>bif Nat.beq i 19 then 19 else 0)
 thaw:=true }
theorem Zb7(p0a:Option Addr)(p0n p0c p1g:Nat)(p1fi p1ca:List Value)(m:Mem)(R:RT)(h:
 ∃(I:IT),inI I [slice none 0 0,int i64 0] [] [slice none 0 0] m/\∀(a:Option Addr)(n c:Nat)(n_1:Int)(a_1:Option Addr)(n_2 c_1:Nat)(m':Mem)(n_3:Nat),lX (slice a n c) λyL=>lE (n+1) fun
 yL_1=>True->I [yL,int i64 n_1] [] [slice a_1 n_2 c_1] m' n_3->br (decide (n_1 < (↑p0n:Int))) (atA p0a λb o=>Zaf n_1 p0n/\∃v v_1:Value,m'.reads b (o+Int.toNat n_1*2) [v,v_1]/\
 ∀(b:Nat),chk (v.oneCell'&&(v_1.oneCell'&&true)) (∃(R:RT),True/\CX Tryz.prog p1g (Array.mk (List.append (List.append p1fi [agg (Array.mk [v,v_1])]) p1ca)) m' [] R/\ZaZ (Shape.agg [Shape.str,
 Shape.slice]) R/\∀(s:ByteArray)(a_4:Option Addr)(n_4 c_2:Nat)(m'_1:Mem),lV [string s,slice a_4 n_4 c_2] λxL=>m'.le m'_1->R (agg (Array.mk xL)) m'_1 []->∀(b:Nat),lM (m'_1.add b xL) fun
 mL=>m'_1.free b->(Tok.mk (slice a_1 n_2 c_1) 2=Tok.mk yL 2\/yL=slice none 0 0\/c < yL_1)/\∃(xs:List Value),∃(ys:List Value),xs.length=n*2/\ys.length=1*2/\rowRd mL a xs/\rowRd
 mL (some (Addr.mk b 0 none)) ys/\(∀(u:Value),u∈ys->u.oneCell'=true)/\yL_1*40<=140737488355328/\yL_1<=9223372036854775807/\∀(a':Option Addr)(c':Nat)(m':Mem),mL.le m'->rowRd m' a'
 (List.append xs ys)->TokFact mL a a' yL_1 c'->nxI n_3 I [slice a' yL_1 c',int i64 (i64.wrap (n_1+(1:Int)))] [] [slice a' yL_1 c'] m')) (rtM m m' R yL)):CX Tryz.prog 40 #[.slice p0a p0n p0c,.func (.func p1g) p1fi.toArray p1ca.toArray] m [] R:=
 Zal (E:=Zca) Zak mix Tryz.func40 (by kernel_rfl) (Eq.mp (by kernel_rfl) h)
def Zcb:Env:={ EB with
 tokOf:=(λi=>bif Nat.beq i 2 then 7 else bif Nat.beq i 7 then 7 else 0)
 tokC:=(λi=>bif Nat.beq i 5 then some (7,4)else none)
 thaw:=true }
theorem ZbV(p0a:Option Addr)(p0n p0c:Nat)(m:Mem)(R:RT)(h:
 lE (0+p0n) λyL=>br (Option.isNone p0a) (slice none 0 0=slice none 0 0/\R (slice none 0 0) m []) (((0:Int)=(0:Int)/\(0:Int)<=(0:Int)/\(0:Int)*(↑(48:Nat):Int)<=(281474976710656:Int)/\(0
 : Int)<=(9223372036854775807:Int))/\∀(b:Nat),lX (slice (some (Addr.mk b 0 none)) 0 (Int.toNat (0:Int))) λyL_1=>m.free b->Mem.k m b=none->(Tok.mk yL_1 4=Tok.mk yL_1 4\/yL_1=slice none 0 0\/
 Int.toNat (0:Int) < yL)/\∃(xs:List Value),∃(ys:List Value),xs.length=0*4/\ys.length=p0n*4/\rowRd m (some (Addr.mk b 0 none)) xs/\rowRd m p0a ys/\(∀(u:Value),u∈ys->u.oneCell'
 = true)/\yL*48<=140737488355328/\yL<=9223372036854775807/\∀(a':Option Addr)(c':Nat)(m':Mem),lE (some (Tok.mk (slice a' yL c') 4)) λyL_2=>m.le m'->rowRd m' a' (List.append xs ys)->TokFact m
 (some (Addr.mk b 0 none)) a' yL c'->yL_2=yL_2/\R (slice a' yL c') m' [])):CXT Tryz.prog 39 #[.slice p0a p0n p0c] m 4 R:=
 ZiO (E:=Zcb) Zak mix Tryz.func39 [.v (.slice p0a p0n p0c)] (by kernel_rfl) (Eq.mp (by kernel_rfl) h)
def ZsU:Env:={ EB with
 dr:=(λi=>bif Nat.beq i 3 then[⟨0,[1],[],none,[],[]⟩,⟨1,[1],[],none,[0],[]⟩,⟨2,[1],[],none,[],[]⟩,⟨3,[1],[],none,[2],[]⟩,⟨4,[],[],none,[2,3],[]⟩,⟨5,[1],[],none,[],[]⟩,⟨6,[1],[],none,[5],[]⟩,⟨7,[],[],none,[2,3,4,5,6],[4]⟩,⟨8,[],[],none,[0,1,2,3,4,5,6,7],[]⟩,⟨9,[2],[2],none,[0,1,2,3,4,5,6,7,8],[]⟩]else[])
 frzNew:=[1] }
theorem Zrk(aA:Int)(aH:Option Addr)(aG aI:Nat)(aJ:Option Addr)(aF aK:Nat)(m:Mem)(R:RT)(h:
 lX (slice aH aG aI) λyL=>lV [int i64 aA,yL,slice aJ aF aK] λxL=>lV [slice aJ aF aK,func (Fn.func 41) (Array.mk []) (Array.mk [])] λxL_1=>fzM m xL λb m'=>∀(b:Nat),
 kB Tryz.prog 38 [agg (Array.mk xL)] m' λb m'=>br (!b) (rtM m m' R (agg (Array.mk [int i64 0,slice none 0 0,slice none 0 0]))) (∃(f:Fx),∃(R_1:RT),R_1=f 4 [yL] m'/\CX Tryz.prog 39 (Array.mk [yL]) m' []
 R_1/\ZaZ Shape.slice R_1/\∀(a:Option Addr)(n c:Nat)(m'_1:Mem),m'.le m'_1->R_1 (slice a n c) m'_1 []->∃(R_2:RT),R_2=f 7 xL_1 m'_1/\CX Tryz.prog 40 (Array.mk xL_1) m'_1 [] R_2/\ZaZ Shape.slice
 R_2/\∀(a_3:Option Addr)(n_1 c_1:Nat)(m'_2:Mem),m'_1.le m'_2->R_2 (slice a_3 n_1 c_1) m'_2 []->∀(M:Mem),m'.le M->m'_1.le M->m'_2.le M->rtM m M R (agg (Array.mk [int i64 aA,slice a n
 c,slice a_3 n_1 c_1])))):CX Tryz.prog 13 #[.agg #[.int .i64 aA,.slice aH aG aI,.slice aJ aF aK]] m [] R:=
 Zal (E:=ZsU) Zak mix Tryz.func13 (by kernel_rfl) (Eq.mp (by kernel_rfl) h)
end Go.Proofs.YtojlhhphofhaoaaGreatDoor
namespace Go.Proofs.YtojlhhphofhaoaaGreatDoor
open Go Go.Eng Go.Rx Go.Proofs Go.RowKit
set_option maxRecDepth 100000
theorem ZEx(l:List T):∀u∈Rx.Zc2 l,u.oneCell'=true:=by
 intro u hu
 simp only[Rx.Zc2,List.mem_flatten,List.mem_map]at hu
 obtain⟨_,⟨t,_,rfl⟩,h⟩:=hu
 simp only[T.cs,T.sl,List.mem_cons,List.not_mem_nil,or_false]at h
 rcases h with rfl|rfl|rfl|rfl|rfl|rfl|rfl|rfl <;> rfl
theorem Zoq(a:Option Addr)(c:Nat)(l:List T)(m:Mem)(h:rowRd m a (Rx.Zc2 l))(hl:l.length<=1000000000000):CXT Tryz.prog 131 #[.slice a l.length c] m 8 (λv m' _=>∃a' c',v=.slice a' l.length c'/\rowRd m' a' (Rx.Zc2 l)/\l.length<=c'/\(l.length=0\/∃b,a'=some ⟨b,0,none⟩/\m.free b)):=by
 apply ZbT
 have bA:=Zat l
 refine Zab (λha=>?_) (λha=>⟨⟨rfl,Int.le_refl _,by decide,by decide⟩,λb hf _=>⟨.inl rfl,[],Rx.Zc2 l,rfl,bA,.inl rfl,h,ZEx l,by omega,by omega,λa' c' m' hm aN lb=>⟨rfl,?_⟩⟩⟩)
 ·obtain rfl:a=none:=by simpa using ha
  have h0:l=[]:=by
   rcases h with h|⟨_,_,h,_⟩
   ·rw[h]at bA;exact List.eq_nil_of_length_eq_zero (by simp at bA;omega)
   ·cases h
  subst h0
  exact⟨rfl,none,0,rfl,.inl rfl,Nat.le_refl _,.inl rfl⟩
 ·simp only[Nat.zero_add]at lb ⊢
  refine⟨a',c',rfl,aN,lb.1,?_⟩
  rcases(lb.old (λ_ _ e=>by cases e;rfl)).2 with h1|⟨b',h1,h2|h2⟩
  ·subst h1
   left
   rcases aN with h3|⟨_,_,h3,_⟩
   ·have h4:(Rx.Zc2 l).length=0:=congrArg List.length h3
    omega
   ·cases h3
  ·right;rw[<-h2];exact⟨b,rfl,hf⟩
  ·exact .inr ⟨b',h1,h2⟩
theorem ZyZ{m:Mem}{b:Nat}{ts r:List T}{x t:T}(h:rowRd m (some ⟨b,0,none⟩) (Rx.Zc2 (ts++x::r))):rowRd (m.upd b (0+ts.length*8) t.cs) (some ⟨b,0,none⟩) (Rx.Zc2 (ts++t::r)):=by
 rcases h with h|⟨b',o',ha,h⟩
 ·have hl:(Rx.Zc2 (ts++x::r)).length=0:=by rw[h];rfl
  rw[Zat,zA1,List.length_cons]at hl
  omega
 cases ha
 have e:∀y:T,Rx.Zc2 (ts++y::r)=Rx.Zc2 ts++(y.cs++Rx.Zc2 r):=λy=>by simp[Rx.Zc2]
 have h8:∀y:T,y.cs.length=8:=λ_=>rfl
 refine .inr ⟨b,0,rfl,λj v hj=>?_⟩
 rw[e]at hj
 unfold Mem.upd;try dsimp only
 rw[Nat.zero_add,Nat.zero_add,h8]
 rcases Nat.lt_or_ge j (ts.length*8)with aO|bO
 ·rw[if_neg (by omega)]
  rw[zA5 (by rw[Zat];exact aO)]at hj
  have:=h j v (by rw[e,zA5 (by rw[Zat];exact aO)];exact hj)
  rwa [Nat.zero_add]at this
 ·rw[zA4 (by rw[Zat];exact bO),Zat]at hj
  rcases Nat.lt_or_ge j (ts.length*8+8)with aO|eH
  ·rw[if_pos ⟨rfl,bO,aO⟩]
   rw[zA5 (by rw[h8];omega)]at hj
   exact hj
  ·rw[if_neg (by omega)]
   rw[zA4 (by rw[h8];omega),h8]at hj
   have:=h j v (by
    rw[e,zA4 (by rw[Zat];exact bO),Zat,zA4 (by rw[h8];omega),h8];exact hj)
   rwa [Nat.zero_add]at this
theorem Zy0{m m':Mem}(h:m.le m'){b:Nat}(hf:m'.free b):m.free b:=λo=>by
 cases he:m b o with
 | none=>rfl
 | some v=>have:=h _ _ _ he;rw[hf o]at this;cases this
def NewT(m:Mem)(t:T):Prop:=∀x∈t.nodes,x.subs=[]\/∃b,x.a=some ⟨b,0,none⟩/\m.free b
theorem NewT.less{m m':Mem}{t:T}(hn:NewT m' t)(h:m.le m'):NewT m t:=λx hx=>(hn x hx).imp id λ⟨b,e,hf⟩=>⟨b,e,Zy0 h hf⟩
theorem Zwm{m:Mem}{k s0 s1 s2 s3 mn mx:Int}{a:Option Addr}{c:Nat}{l:List T}(h:l=[]\/∃b,a=some ⟨b,0,none⟩/\m.free b)(hl:∀x∈l,NewT m x):NewT m (.node k s0 s1 s2 s3 mn mx a c l):=by
 intro x hx
 simp only[T.nodes,List.mem_cons]at hx
 rcases hx with rfl|hx
 ·exact h
 ·have:∀l:List T,(∀x∈l,NewT m x)->∀x∈ZaB l,x.subs=[]\/∃b,x.a=some ⟨b,0,none⟩/\m.free b:=by
   intro l
   induction l with
   | nil=>intro _ x hx;simp[ZaB]at hx
   | cons y l ih=>
    intro h x hx
    simp only[ZaB,List.mem_append]at hx
    rcases hx with hx|hx
    ·exact h y (by simp) x hx
    ·exact ih (λz hz=>h z (by simp[hz])) x hx
  exact this l hl x hx
set_option maxHeartbeats 800000 in
theorem Zm8(t:T)(m:Mem)(hr:Rep m t)(hz:t.nodes.length<=10000):CX Tryz.prog 108 #[t.v] m [] (ZpS λt'=>t'.er=t.er/\(t'.caps/\NewT m t')):=by
 have bV:szL t.subs<=10000:=by rw[Zk5]at hz;omega
 have fZ:t.subs.length<=10000:=Nat.le_trans (Zp0 _) bV
 apply Zon
 intro b b1
 refine⟨_,Zoq t.a t.c t.subs m (ZeF hr.subs) (by omega),(λv _ _ ⟨a,c,e,_⟩=>by rw[e];rfl),?_⟩
 rintro a n c m1 aB ⟨a',c',hv,aN,jq,bI⟩
 simp only[Value.slice.injEq]at hv
 obtain⟨rfl,rfl,rfl⟩:=hv
 have bC:∀x∈t.subs,Rep m x:=ZkX hr.subs
 refine⟨λxs css tvs m' q=>∃(k:Nat)(L:List T)(mb:Mem),k<=t.subs.length/\xs=[.int .i64 k]/\q=t.subs.length - k/\L.length=k/\L.map T.er=(t.subs.take k).map T.er/\m.le mb/\mb.le m'/\(t.subs.length=0\/∃b,a=some ⟨b,0,none⟩/\mb.free b)/\(∀x∈L,Rep mb x/\(x.caps/\NewT m x))/\(t.subs.length=0\/∃b,a=some ⟨b,0,none⟩/\m.free b)/\rowRd m' a (Rx.Zc2 (L++t.subs.drop k)),⟨_,0,[],m,by omega,rfl,rfl,rfl,rfl,Mem.le_refl _,aB,bI,by simp,bI,aN⟩,?_⟩
 rintro z m2 q _ ⟨k,L,mb,hk,cQ,hq,j7,mA,fP,jL,gq,lm,cP,eK⟩
 obtain rfl:z=k:=by simpa using cQ
 refine Zab (λaO=>?_) (λbO=>?_)
 ·have aW:k < t.subs.length:=by have:=zA6 aO;omega
  obtain⟨x,hx⟩:=Zas aW
  have dI:=bC x (zA2 hx)
  have lB:x.nodes.length<=10000:=by
   obtain⟨h1,h2⟩:=zA0 hx
   have:=congrArg List.length (ZdM hx)
   unfold szL at bV
   simp only[zA1]at this
   omega
  have ig:t.subs.drop k=x::t.subs.drop (k+1):=by
   rw[List.drop_eq_getElem_cons aW,(zA0 hx).2]
  rcases gq with gq|⟨bk,rfl,eJ⟩
  ·omega
  obtain⟨b0,o0,nK,cK⟩:=Zd2 eK (i:=k) (t:=x) (by rw[zA4 (by omega),j7,Nat.sub_self,ig];rfl)
  cases nK
  have hw:IntKind.i64.wrap ((k:Int)+1)=((k+1:Nat):Int):=by rw[Zan (by omega) (by omega)];rfl
  simp only[hw,zA8]
  have gA:CX Tryz.prog 108 #[x.v] m2 [] (ZrJ mb m2 λt'=>t'.er=x.er/\(t'.caps/\NewT mb t')):=(Zm8 x mb (Rep.mono fP x dI) lB).frame2 jL
  refine⟨bk,0,rfl,⟨by omega,by omega⟩,_,_,_,_,_,_,_,_,cK,λb3=>Zaa rfl ⟨λ_ _ _=>ZrJ mb m2 λt'=>t'.er=x.er/\(t'.caps/\NewT mb t'),ZrJ mb m2 λt'=>t'.er=x.er/\(t'.caps/\NewT mb t'),rfl,gA,ZdD,Zkp λt' m0 m3 aY h0 dM dZ hr' ht'=>⟨bk,0,rfl,⟨by omega,by omega⟩,λM gP iM=>⟨rfl,by omega,by trivial,by trivial,t.subs.length - (k+1),by omega,k+1,L++[t'],m0,by omega,rfl,rfl,by simp[j7],?_,mLt fP h0,?_,.inr ⟨bk,rfl,?_⟩,?_,cP,?_⟩⟩⟩⟩
  ·rw[List.map_append,mA,Ztn hx,List.map_append]
   simp[ht'.1]
  ·refine Mem.le_upd (mLt dM iM) ?_ _ _
   intro o'
   have hc:m2 bk (0+k*8+0)=some (.int .u8 x.k):=cK 0 _ rfl
   rw[dZ _ _ _ hc o'];exact eJ o'
  ·intro o'
   have hc:m2 bk (0+k*8+0)=some (.int .u8 x.k):=cK 0 _ rfl
   rw[dZ _ _ _ hc o'];exact eJ o'
  ·intro y hy
   rcases List.mem_append.1 hy with hy|hy
   ·exact⟨Rep.mono h0 y (lm y hy).1,(lm y hy).2⟩
   ·simp at hy;subst hy;exact⟨hr',ht'.2.1,ht'.2.2.less fP⟩
  ·rw[ig]at eK
   have h5:=ZyZ (t:=t') (eK.mono gP)
   rw[j7]at h5
   rw[List.append_assoc]
   exact h5
 ·have dK:k=t.subs.length:=by have:=of_decide_eq_false bO;omega
  subst dK
  rw[List.drop_length,List.append_nil]at eK
  rw[List.take_length]at mA
  have cE:=ZB4 hr
  refine⟨m2,mLt fP jL,Mem.le_refl _,.node t.k t.s0 t.s1 t.s2 t.s3 t.mn t.mx a c L,?_,?_,?_⟩
  ·simp only[T.v,T.k,T.s0,T.s1,T.s2,T.s3,T.mn,T.mx,T.a,T.c,T.subs,j7]
  ·have:=ZwW eK (λx hx=>Rep.mono jL x (lm x hx).1) (by omega)
   exact ZB5 this.1 this.2 cE
  ·have:=ZAk (k:=t.k) (s0:=t.s0) (s1:=t.s1) (s2:=t.s2) (s3:=t.s3) (mn:=t.mn) (mx:=t.mx) (a:=a) (a':=t.a) (c:=c) (c':=t.c) mA
   refine⟨this.trans ?_,Zvm (by omega) λx hx=>(lm x hx).2.1,Zwm (cP.imp (λh=>List.eq_nil_of_length_eq_zero (by omega)) id) λx hx=>(lm x hx).2.2⟩
   cases t;rfl
termination_by SizeOf.sizeOf t
decreasing_by exact Zsg (zA2 hx)
mutual
theorem ZA6{m m':Mem}:∀(t:T),Rep m' t->NewT m t->Rep (nw m m') t
 | .node k s0 s1 s2 s3 mn mx a c l,hr,hn=>by
  have h0:=hn _ (by rw[ZcM];exact List.mem_cons_self)
  simp only[Rep]at hr ⊢
  refine⟨hr.1,?_,hr.2.2⟩
  rcases hr.2.1 with h|⟨b,o,ha,fJ⟩
  ·exact .inl h
  rcases h0 with h|⟨b',hb',hf⟩
  ·exact .inl h
  ·have e:a=some ⟨b',0,none⟩:=hb'
   rw[ha]at e
   simp only[Option.some.injEq,Addr.mk.injEq,and_true]at e
   obtain⟨rfl,rfl⟩:=e
   exact .inr ⟨b,0,ha,Zuf b hf 0 l fJ λx hx y hy=>hn y (by
    rw[ZcM]
    refine List.mem_cons_of_mem _ ?_
    obtain⟨i,hi⟩:=List.getElem?_of_mem hx
    rw[show(T.node k s0 s1 s2 s3 mn mx a c l).subs=l from rfl,ZdM hi]
    simp[hy])⟩
theorem Zuf{m m':Mem}(b:Nat)(hf:m.free b):∀(o:Nat)(l:List T),RepAt m' b o l->(∀x∈l,NewT m x)->RepAt (nw m m') b o l
 | _,[],_,_=>by simp only[RepAt]
 | o,t::l,hr,hn=>by
  simp only[RepAt]at hr ⊢
  exact⟨λj v hj=>by rw[Zzx hf];exact hr.1 j v hj,ZA6 t hr.2.1 (hn t (by simp)),Zuf b hf (o+8) l hr.2.2 λx hx=>hn x (by simp[hx])⟩
end
def CpT(m:Mem)(t:T):Value->Mem->List (List Value)->Prop:=λv m' _=>∃t':T,v=t'.v/\t'.er=t.er/\Rep (nw m m') t'
theorem Zy1{m:Mem}{t:T}:∀(v:Value)(m':Mem) (css:List (List Value)),CpT m t v m' css->Shape.fits (.agg [.int .u8,.int .u64,.int .u64,.int .u64,.int .u64,.int .i64,.int .i64,.slice]) v=true:=λv _ _ ⟨t,e,_⟩=>by rw[e];rfl
theorem Zy2(t:T)(m:Mem)(hr:Rep m t)(hz:t.nodes.length<=10000):CX Tryz.prog 71 #[t.v] m [] (CpT m t):=by
 apply ZsT
 intro b m1 aB _ b1
 have hl:t.light=true:=by unfold T.light;exact decide_eq_true hz
 have h:=Zed t m1 (hr.mono aB)
 rw[hl]at h
 refine Zae h λm2 aM=>ZdQ rfl (Zai (Zm8 t m2 (hr.mono (mLt aB aM)) hz) ZfH (Zsj λt' m3 aY hr' ht'=>?_))
 exact⟨m3,mLt aB (mLt aM aY),Mem.le_refl _,t',rfl,ht'.1,ZA6 t' hr' (ht'.2.2.less (mLt aB aM))⟩
theorem Zrl(a:Option Addr)(c:Nat)(l:List E)(m:Mem)(h:rowRd m a (l.map E.cs).flatten)(hl:l.length<=1000000000000):CXT Tryz.prog 132 #[.slice a l.length c] m 5 (λv m' _=>∃a' c',v=.slice a' l.length c'/\rowRd m' a' (l.map E.cs).flatten/\l.length<=c'/\(l.length=0\/∃b,a'=some ⟨b,0,none⟩/\m.free b)):=by
 apply Zby
 have bA:(l.map E.cs).flatten.length=l.length*5:=Za1 E.len l
 refine Zab (λha=>?_) (λha=>⟨⟨rfl,Int.le_refl _,by decide,by decide⟩,λb hf _=>⟨.inl rfl,[],(l.map E.cs).flatten,rfl,bA,.inl rfl,h,?_,by omega,by omega,λa' c' m' hm aN lb=>⟨rfl,?_⟩⟩⟩)
 ·obtain rfl:a=none:=by simpa using ha
  have h0:l=[]:=by
   rcases h with h|⟨_,_,h,_⟩
   ·rw[h]at bA;exact List.eq_nil_of_length_eq_zero (by simp at bA;omega)
   ·cases h
  subst h0
  exact⟨rfl,none,0,rfl,.inl rfl,Nat.le_refl _,.inl rfl⟩
 ·intro u hu
  simp only[List.mem_flatten,List.mem_map]at hu
  obtain⟨_,⟨e,_,rfl⟩,hu⟩:=hu
  exact E.one e u hu
 ·simp only[Nat.zero_add]at lb ⊢
  refine⟨a',c',rfl,aN,lb.1,?_⟩
  rcases(lb.old (λ_ _ e=>by cases e;rfl)).2 with h1|⟨b',h1,h2|h2⟩
  ·subst h1
   left
   rcases aN with h3|⟨_,_,h3,_⟩
   ·have h4:(l.map E.cs).flatten.length=0:=congrArg List.length h3
    omega
   ·cases h3
  ·right;rw[<-h2];exact⟨b,rfl,hf⟩
  ·exact .inr ⟨b',h1,h2⟩
theorem Zwn{m:Mem}{b:Nat}{ts r:List E}{x t:E}(h:rowRd m (some ⟨b,0,none⟩) ((ts++x::r).map E.cs).flatten):rowRd (m.upd b (0+ts.length*5) t.cs) (some ⟨b,0,none⟩) ((ts++t::r).map E.cs).flatten:=by
 have hl:∀l:List E,(l.map E.cs).flatten.length=l.length*5:=Za1 E.len
 rcases h with h|⟨b',o',ha,h⟩
 ·have:=congrArg List.length h
  rw[hl,zA1,List.length_cons]at this
  simp at this
 cases ha
 have e:∀y:E,((ts++y::r).map E.cs).flatten=(ts.map E.cs).flatten++(y.cs++(r.map E.cs).flatten):=λy=>by simp
 refine .inr ⟨b,0,rfl,λj v hj=>?_⟩
 rw[e]at hj
 unfold Mem.upd;try dsimp only
 rw[Nat.zero_add,Nat.zero_add,E.len]
 rcases Nat.lt_or_ge j (ts.length*5)with aO|bO
 ·rw[if_neg (by omega)]
  rw[zA5 (by rw[hl];exact aO)]at hj
  have:=h j v (by rw[e,zA5 (by rw[hl];exact aO)];exact hj)
  rwa [Nat.zero_add]at this
 ·rw[zA4 (by rw[hl];exact bO),hl]at hj
  rcases Nat.lt_or_ge j (ts.length*5+5)with aO|eH
  ·rw[if_pos ⟨rfl,bO,aO⟩]
   rw[zA5 (by rw[E.len];omega)]at hj
   exact hj
  ·rw[if_neg (by omega)]
   rw[zA4 (by rw[E.len];omega),E.len]at hj
   have:=h j v (by
    rw[e,zA4 (by rw[hl];exact bO),hl,zA4 (by rw[E.len];omega),E.len];exact hj)
   rwa [Nat.zero_add]at this
def NewE(m:Mem)(t:E):Prop:=∀x∈t.nodes,x.subs=[]\/∃b,x.a=some ⟨b,0,none⟩/\m.free b
theorem NewE.less{m m':Mem}{t:E}(hn:NewE m' t)(h:m.le m'):NewE m t:=λx hx=>(hn x hx).imp id λ⟨b,e,hf⟩=>⟨b,e,ZcF h hf⟩
theorem Zkt{y x:E}{l:List E}(hx:x∈l)(hy:y∈x.nodes):y∈Zap l:=by
 obtain⟨i,hi⟩:=List.getElem?_of_mem hx
 rw[ZcN hi];simp[hy]
theorem Zwo{m:Mem}{k:Int}{x:Nat}{s:ByteArray}{g:Int}{a:Option Addr}{c:Nat}{l:List E}(h:l=[]\/∃b,a=some ⟨b,0,none⟩/\m.free b)(hl:∀x∈l,NewE m x):NewE m (.node k x s g a c l):=by
 intro x hx
 simp only[E.nodes,List.mem_cons]at hx
 rcases hx with rfl|hx
 ·exact h
 ·have:∀l:List E,(∀x∈l,NewE m x)->∀x∈Zap l,x.subs=[]\/∃b,x.a=some ⟨b,0,none⟩/\m.free b:=by
   intro l
   induction l with
   | nil=>intro _ x hx;simp[Zap]at hx
   | cons y l ih=>
    intro h x hx
    simp only[Zap,List.mem_append]at hx
    rcases hx with hx|hx
    ·exact h y (by simp) x hx
    ·exact ih (λz hz=>h z (by simp[hz])) x hx
  exact this l hl x hx
mutual
theorem Zxv{m m':Mem}:∀(t:E),RepE m' t->NewE m t->RepE (nw m m') t
 | .node k x s g a c l,hr,hn=>by
  have h0:=hn _ (by rw[ZbA];exact List.mem_cons_self)
  simp only[RepE]at hr ⊢
  refine⟨hr.1,?_,hr.2.2⟩
  rcases hr.2.1 with h|⟨b,o,ha,fJ⟩
  ·exact .inl h
  rcases h0 with h|⟨b',hb',hf⟩
  ·exact .inl h
  ·have e:a=some ⟨b',0,none⟩:=hb'
   rw[ha]at e
   simp only[Option.some.injEq,Addr.mk.injEq,and_true]at e
   obtain⟨rfl,rfl⟩:=e
   exact .inr ⟨b,0,ha,Zrm b hf 0 l fJ λx hx y hy=>hn y (by
    rw[ZbA]
    exact List.mem_cons_of_mem _ (Zkt hx hy))⟩
theorem Zrm{m m':Mem}(b:Nat)(hf:m.free b):∀(o:Nat)(l:List E),RepEAt m' b o l->(∀x∈l,NewE m x)->RepEAt (nw m m') b o l
 | _,[],_,_=>by simp only[RepEAt]
 | o,t::l,hr,hn=>by
  simp only[RepEAt]at hr ⊢
  exact⟨λj v hj=>by rw[Zzx hf];exact hr.1 j v hj,Zxv t hr.2.1 (hn t (by simp)),Zrm b hf (o+5) l hr.2.2 λx hx=>hn x (by simp[hx])⟩
end
theorem Ziv{m:Mem}{b:Nat}:∀(L:List E)(o:Nat),RepEAt m b o L->m.reads b o (L.map E.cs).flatten
 | [],o,_=>λj v hj=>by simp at hj
 | z::L,o,h=>λj v hj=>by
  simp only[RepEAt]at h
  rw[List.map_cons,List.flatten_cons]at hj
  rcases Nat.lt_or_ge j 5 with aO|bO
  ·rw[zA5 (by rw[E.len];exact aO)]at hj
   exact h.1 j v hj
  ·rw[zA4 (by rw[E.len];exact bO),E.len]at hj
   have:=Ziv L (o+5) h.2.2 (j - 5) v hj
   rwa [show o+5+(j - 5)=o+j by omega]at this
theorem Zy3(e:E)(m:Mem):CX Tryz.prog 110 #[e.v] m [] (Ret e.v):=by
 apply ZjQ
 intro b m1 aB _ b2
 exact Zaa rfl (Zac aB rfl)
set_option maxHeartbeats 800000 in
theorem Zm9(t:E)(m:Mem)(hr:RepE m t)(hz:t.nodes.length<=10000):CX Tryz.prog 109 #[t.v,.func (.func 110) #[] #[]] m [] (ER λt'=>t'.er=t.er/\NewE m t'):=by
 have fZ:t.subs.length<=10000:=by
  have:=ZeI t.subs
  rw[ZbA,List.length_cons]at hz;omega
 have bC:∀x∈t.subs,RepE m x:=λx hx=>ZmN hr (by rw[ZbA];exact List.mem_cons_of_mem _ (Zkt hx (by rw[ZbA];simp)))
 have qc:rowRd m t.a (t.subs.map E.cs).flatten:=by
  rcases(Zeb hr).2 with h|⟨b,o,ha,fJ⟩
  ·rw[h];exact .inl rfl
  ·exact .inr ⟨b,o,ha,Ziv t.subs o fJ⟩
 apply Zit
 intro b b1
 refine⟨_,Zrl t.a t.c t.subs m qc (by omega),(λv _ _ ⟨a,c,e,_⟩=>by rw[e];rfl),?_⟩
 rintro a n c m1 aB ⟨a',c',hv,aN,jq,bI⟩
 simp only[Value.slice.injEq]at hv
 obtain⟨rfl,rfl,rfl⟩:=hv
 refine⟨λxs css tvs m' q=>∃(k:Nat)(L:List E)(mb:Mem),k<=t.subs.length/\xs=[.int .i64 k]/\q=t.subs.length - k/\L.length=k/\L.map E.er=(t.subs.take k).map E.er/\m.le mb/\mb.le m'/\(t.subs.length=0\/∃b,a=some ⟨b,0,none⟩/\mb.free b)/\(∀x∈L,RepE mb x/\NewE m x)/\(t.subs.length=0\/∃b,a=some ⟨b,0,none⟩/\m.free b)/\rowRd m' a ((L++t.subs.drop k).map E.cs).flatten,⟨_,0,[],m,by omega,rfl,rfl,rfl,rfl,Mem.le_refl _,aB,bI,by simp,bI,aN⟩,?_⟩
 rintro z m2 q _ ⟨k,L,mb,hk,cQ,hq,j7,mA,fP,jL,gq,lm,cP,eK⟩
 obtain rfl:z=k:=by simpa using cQ
 refine Zab (λaO=>?_) (λbO=>?_)
 ·have aW:k < t.subs.length:=by have:=zA6 aO;omega
  obtain⟨x,hx⟩:=Zas aW
  have dI:=bC x (zA2 hx)
  have lB:x.nodes.length<=10000:=by
   have:=congrArg List.length (ZcN hx)
   rw[ZbA,List.length_cons]at hz
   simp only[zA1]at this
   omega
  have ig:t.subs.drop k=x::t.subs.drop (k+1):=by
   rw[List.drop_eq_getElem_cons aW,(zA0 hx).2]
  rcases gq with gq|⟨bk,rfl,eJ⟩
  ·omega
  obtain⟨b0,o0,nK,cK⟩:=Zaj E.len eK (k:=k) (t:=x) (by rw[zA4 (by omega),j7,Nat.sub_self,ig];rfl) (by omega)
  cases nK
  have hw:IntKind.i64.wrap ((k:Int)+1)=((k+1:Nat):Int):=by rw[Zan (by omega) (by omega)];rfl
  simp only[hw,zA8]
  have gA:CX Tryz.prog 109 #[x.v,.func (.func 110) #[] #[]] m2 [] (EF mb m2 λt'=>t'.er=x.er/\NewE mb t'):=(Zm9 x mb (RepE.mono fP x dI) lB).frame2 jL
  refine⟨bk,0,rfl,⟨by omega,by omega⟩,_,_,_,_,_,cK,λb3=>Zaa rfl ⟨λ_ _ _=>EF mb m2 λt'=>t'.er=x.er/\NewE mb t',EF mb m2 λt'=>t'.er=x.er/\NewE mb t',rfl,gA,Zt7,ZEd λt' m0 m3 aY h0 dM dZ hr' ht'=>⟨bk,0,rfl,⟨by omega,by omega⟩,λM gP iM=>Zaa rfl ⟨rfl,by omega,trivial,trivial,t.subs.length - (k+1),by omega,k+1,L++[t'],m0,by omega,rfl,rfl,by simp[j7],?_,mLt fP h0,?_,.inr ⟨bk,rfl,?_⟩,?_,cP,?_⟩⟩⟩⟩
  ·rw[List.map_append,mA,Ztn hx,List.map_append]
   simp[ht'.1]
  ·refine Mem.le_upd (mLt dM iM) ?_ _ _
   intro o'
   have hc:m2 bk (0+k*5+0)=some (.int .u8 x.k):=cK 0 _ rfl
   rw[dZ _ _ _ hc o'];exact eJ o'
  ·intro o'
   have hc:m2 bk (0+k*5+0)=some (.int .u8 x.k):=cK 0 _ rfl
   rw[dZ _ _ _ hc o'];exact eJ o'
  ·intro y hy
   rcases List.mem_append.1 hy with hy|hy
   ·exact⟨RepE.mono h0 y (lm y hy).1,(lm y hy).2⟩
   ·simp at hy;subst hy;exact⟨hr',ht'.2.less fP⟩
  ·rw[ig]at eK
   have h5:=Zwn (t:=t') (eK.mono gP)
   rw[j7]at h5
   rw[List.append_assoc]
   exact h5
 ·have dK:k=t.subs.length:=by have:=of_decide_eq_false bO;omega
  subst dK
  rw[List.drop_length,List.append_nil]at eK
  rw[List.take_length]at mA
  have cE:=Ztq hr
  have hv:Value.agg #[.int .u8 t.k,.float .f64 t.x,.string t.s,.int .i64 t.g,.slice a t.subs.length c]=(E.node t.k t.x t.s t.g a c L).v:=by
   simp only[E.v,E.k,E.x,E.s,E.g,E.a,E.c,E.subs,j7]
  have gA:=Zy3 (.node t.k t.x t.s t.g a c L) m2
  rw[<-hv]at gA
  refine⟨_,trivial,gA,(λv _ _ h=>by rw[h];rfl),?_⟩
  intro n5 v5 s5 g5 a5 k5 c5 m3 aY iv
  simp only[Value.agg.injEq,Array.mk.injEq,List.cons.injEq,Value.int.injEq,Value.string.injEq,Value.slice.injEq,true_and,and_true]at iv
  obtain⟨rfl,rfl,rfl,rfl,rfl,rfl,rfl⟩:=iv
  refine Zaa rfl ⟨m3,mLt fP (mLt jL aY),Mem.le_refl _,.node t.k t.x t.s t.g a5 c5 L,hv,?_,?_,?_⟩
  ·exact Zt8 (eK.mono aY) (λx hx=>RepE.mono (mLt jL aY) x (lm x hx).1) (by omega) cE
  ·cases t
   simp only[E.er,E.k,E.x,E.s,E.g,E.subs,ZoQ]at mA ⊢
   rw[mA]
  ·exact Zwo (cP.imp (λh=>List.eq_nil_of_length_eq_zero (by omega)) id) λx hx=>(lm x hx).2
termination_by SizeOf.sizeOf t
decreasing_by exact ZhE (zA2 hx)
theorem Zwp{x:List Value}{K:List Value->Prop}(h:∀y,K y):lV x K:=h x
theorem Zy4(cb:Nat)(Q:Pt->Pt->Mem->Prop)(L:List Pt)(a:Option Addr)(d:Nat)(m:Mem)(aN:rowRd m a (L.map Pt.cs).flatten)(hl:L.length<=few)(ja:∀x∈L,∀m2,m.le m2->CX Tryz.prog cb #[.agg x.cs.toArray] m2 [] (λv m3 _=>∃y:Pt,v=.agg y.cs.toArray/\Q x y (nw m2 m3))):
  CX Tryz.prog 75 #[.slice a L.length d,.func (.func cb) #[] #[]] m [] (Zvo Pt.cs Q m L):=by
 have hl:L.length<=100000:=hl
 apply Zcr (p1fi:=[]) (p1ca:=[])
 refine⟨λxs css tvs m' q=>∃(k:Nat)(a':Option Addr)(c':Nat)(L':List Pt)(μ:Nat->Mem),k<=L.length/\q=L.length - k/\xs=[.slice a' L'.length c',.int .i64 k]/\tvs=[.slice a' L'.length c']/\Each Pt.cs Q m m' (L.take k) a' c' L' μ,⟨_,0,none,0,[],_,by omega,rfl,rfl,rfl,Each.nil m⟩,?_⟩
 rintro a1 n1 c1 z a2 n2 c2 m2 q _ ⟨k,a',c',L',μ,hk,hq,cQ,eI,hE⟩
 simp only[List.cons.injEq,Value.slice.injEq,Value.int.injEq,true_and,and_true]at cQ eI
 obtain⟨⟨rfl,rfl,rfl⟩,rfl⟩:=cQ
 obtain⟨rfl,rfl,rfl⟩:=eI
 have j7:L'.length=k:=by rw[hE.len,List.length_take];omega
 refine Zab (λaO=>?_) (λbO=>?_)
 ·have aW:k < L.length:=by have:=zA6 aO;omega
  obtain⟨x,hx⟩:=Zas aW
  obtain⟨b,o,ha,cK⟩:=Zaj Pt.len aN hx (by omega)
  have hw:IntKind.i64.wrap ((k:Int)+1)=((k+1:Nat):Int):=by rw[Zan (by omega) (by omega)];rfl
  refine⟨b,o,ha,⟨by omega,by omega⟩,_,_,_,_,_,_,_,_,cK.mono hE.le,λb3=>Zaa rfl ⟨_,trivial,ja x (zA2 hx) m2 hE.le,(λv _ _ ⟨y,h,_⟩=>by rw[h];rfl),?_⟩⟩
  intros
  refine Zwp λys=>?_
  rintro aY ⟨y,hv,hQ⟩ b4 jh
  obtain rfl:ys=y.cs:=by simpa using hv
  have bV:(L'.length+1)*96<=140737488355328:=by omega
  refine Zee Pt.len Pt.one jh y (hE.row.mono aY) 96 bV (by omega) (.inl rfl) λa5 c5 m5 cL cO bF=>?_
  have dF:=hE.step Pt.len (by omega) hx aY hQ jh cL cO bF
  exact⟨L.length - (k+1),by omega,k+1,a5,c5,L'++[y],_,by omega,rfl,by rw[hw,zA1];rfl,by rw[zA1];rfl,dF⟩
 ·have dK:k=L.length:=by have:=of_decide_eq_false bO;omega
  rw[dK,List.take_length]at hE
  exact⟨m2,hE.le,Mem.le_refl _,_,_,L',μ,rfl,hE⟩
theorem Zy5(cb:Nat)(Q:Ac->Ac->Mem->Prop)(L:List Ac)(a:Option Addr)(d:Nat)(m:Mem)(aN:rowRd m a (L.map Ac.cs).flatten)(hl:L.length<=few)(ja:∀x∈L,∀m2,m.le m2->CX Tryz.prog cb #[.agg x.cs.toArray] m2 [] (λv m3 _=>∃y:Ac,v=.agg y.cs.toArray/\Q x y (nw m2 m3))):
  CX Tryz.prog 72 #[.slice a L.length d,.func (.func cb) #[] #[]] m [] (Zvo Ac.cs Q m L):=by
 have hl:L.length<=100000:=hl
 apply ZbP (p1fi:=[]) (p1ca:=[])
 refine⟨λxs css tvs m' q=>∃(k:Nat)(a':Option Addr)(c':Nat)(L':List Ac)(μ:Nat->Mem),k<=L.length/\q=L.length - k/\xs=[.slice a' L'.length c',.int .i64 k]/\tvs=[.slice a' L'.length c']/\Each Ac.cs Q m m' (L.take k) a' c' L' μ,⟨_,0,none,0,[],_,by omega,rfl,rfl,rfl,Each.nil m⟩,?_⟩
 rintro a1 n1 c1 z a2 n2 c2 m2 q _ ⟨k,a',c',L',μ,hk,hq,cQ,eI,hE⟩
 simp only[List.cons.injEq,Value.slice.injEq,Value.int.injEq,true_and,and_true]at cQ eI
 obtain⟨⟨rfl,rfl,rfl⟩,rfl⟩:=cQ
 obtain⟨rfl,rfl,rfl⟩:=eI
 have j7:L'.length=k:=by rw[hE.len,List.length_take];omega
 refine Zab (λaO=>?_) (λbO=>?_)
 ·have aW:k < L.length:=by have:=zA6 aO;omega
  obtain⟨x,hx⟩:=Zas aW
  obtain⟨b,o,ha,cK⟩:=Zaj Ac.len aN hx (by omega)
  have hw:IntKind.i64.wrap ((k:Int)+1)=((k+1:Nat):Int):=by rw[Zan (by omega) (by omega)];rfl
  refine⟨b,o,ha,⟨by omega,by omega⟩,_,_,_,_,_,_,_,_,cK.mono hE.le,λb3=>Zaa rfl ⟨_,trivial,ja x (zA2 hx) m2 hE.le,(λv _ _ ⟨y,h,_⟩=>by rw[h];rfl),?_⟩⟩
  intros
  refine Zwp λys=>?_
  rintro aY ⟨y,hv,hQ⟩ b4 jh
  obtain rfl:ys=y.cs:=by simpa using hv
  have bV:(L'.length+1)*112<=140737488355328:=by omega
  refine Zee Ac.len Ac.one jh y (hE.row.mono aY) 112 bV (by omega) (.inl rfl) λa5 c5 m5 cL cO bF=>?_
  have dF:=hE.step Ac.len (by omega) hx aY hQ jh cL cO bF
  exact⟨L.length - (k+1),by omega,k+1,a5,c5,L'++[y],_,by omega,rfl,by rw[hw,zA1];rfl,by rw[zA1];rfl,dF⟩
 ·have dK:k=L.length:=by have:=of_decide_eq_false bO;omega
  rw[dK,List.take_length]at hE
  exact⟨m2,hE.le,Mem.le_refl _,_,_,L',μ,rfl,hE⟩
theorem Zy6(cb:Nat)(Q:Ru->Ru->Mem->Prop)(L:List Ru)(a:Option Addr)(d:Nat)(m:Mem)(aN:rowRd m a (L.map Ru.cs).flatten)(hl:L.length<=few)(ja:∀x∈L,∀m2,m.le m2->CX Tryz.prog cb #[.agg x.cs.toArray] m2 [] (λv m3 _=>∃y:Ru,v=.agg y.cs.toArray/\Q x y (nw m2 m3))):
  CX Tryz.prog 42 #[.slice a L.length d,.func (.func cb) #[] #[]] m [] (Zvo Ru.cs Q m L):=by
 have hl:L.length<=100000:=hl
 apply Zcs (p1fi:=[]) (p1ca:=[])
 refine⟨λxs css tvs m' q=>∃(k:Nat)(a':Option Addr)(c':Nat)(L':List Ru)(μ:Nat->Mem),k<=L.length/\q=L.length - k/\xs=[.slice a' L'.length c',.int .i64 k]/\tvs=[.slice a' L'.length c']/\Each Ru.cs Q m m' (L.take k) a' c' L' μ,⟨_,0,none,0,[],_,by omega,rfl,rfl,rfl,Each.nil m⟩,?_⟩
 rintro a1 n1 c1 z a2 n2 c2 m2 q _ ⟨k,a',c',L',μ,hk,hq,cQ,eI,hE⟩
 simp only[List.cons.injEq,Value.slice.injEq,Value.int.injEq,true_and,and_true]at cQ eI
 obtain⟨⟨rfl,rfl,rfl⟩,rfl⟩:=cQ
 obtain⟨rfl,rfl,rfl⟩:=eI
 have j7:L'.length=k:=by rw[hE.len,List.length_take];omega
 refine Zab (λaO=>?_) (λbO=>?_)
 ·have aW:k < L.length:=by have:=zA6 aO;omega
  obtain⟨x,hx⟩:=Zas aW
  obtain⟨b,o,ha,cK⟩:=Zaj Ru.len aN hx (by omega)
  have hw:IntKind.i64.wrap ((k:Int)+1)=((k+1:Nat):Int):=by rw[Zan (by omega) (by omega)];rfl
  refine⟨b,o,ha,⟨by omega,by omega⟩,_,_,_,_,_,_,_,_,_,_,_,_,_,_,_,_,cK.mono hE.le,λb3=>Zaa rfl ⟨_,trivial,ja x (zA2 hx) m2 hE.le,(λv _ _ ⟨y,h,_⟩=>by rw[h];rfl),?_⟩⟩
  intros
  refine Zwp λys=>?_
  rintro aY ⟨y,hv,hQ⟩ b4 jh
  obtain rfl:ys=y.cs:=by simpa using hv
  have bV:(L'.length+1)*168<=140737488355328:=by omega
  refine Zee Ru.len Ru.one jh y (hE.row.mono aY) 168 bV (by omega) (.inl rfl) λa5 c5 m5 cL cO bF=>?_
  have dF:=hE.step Ru.len (by omega) hx aY hQ jh cL cO bF
  exact⟨L.length - (k+1),by omega,k+1,a5,c5,L'++[y],_,by omega,rfl,by rw[hw,zA1];rfl,by rw[zA1];rfl,dF⟩
 ·have dK:k=L.length:=by have:=of_decide_eq_false bO;omega
  rw[dK,List.take_length]at hE
  exact⟨m2,hE.le,Mem.le_refl _,_,_,L',μ,rfl,hE⟩
theorem Zy7(cb:Nat)(Q:Sta->Sta->Mem->Prop)(L:List Sta)(a:Option Addr)(d:Nat)(m:Mem)(aN:rowRd m a (L.map Sta.cs).flatten)(hl:L.length<=few)(ja:∀x∈L,∀m2,m.le m2->CX Tryz.prog cb #[.agg x.cs.toArray] m2 [] (λv m3 _=>∃y:Sta,v=.agg y.cs.toArray/\Q x y (nw m2 m3))):
  CX Tryz.prog 40 #[.slice a L.length d,.func (.func cb) #[] #[]] m [] (Zvo Sta.cs Q m L):=by
 have hl:L.length<=100000:=hl
 apply Zb7 (p1fi:=[]) (p1ca:=[])
 refine⟨λxs css tvs m' q=>∃(k:Nat)(a':Option Addr)(c':Nat)(L':List Sta)(μ:Nat->Mem),k<=L.length/\q=L.length - k/\xs=[.slice a' L'.length c',.int .i64 k]/\tvs=[.slice a' L'.length c']/\Each Sta.cs Q m m' (L.take k) a' c' L' μ,⟨_,0,none,0,[],_,by omega,rfl,rfl,rfl,Each.nil m⟩,?_⟩
 rintro a1 n1 c1 z a2 n2 c2 m2 q _ ⟨k,a',c',L',μ,hk,hq,cQ,eI,hE⟩
 simp only[List.cons.injEq,Value.slice.injEq,Value.int.injEq,true_and,and_true]at cQ eI
 obtain⟨⟨rfl,rfl,rfl⟩,rfl⟩:=cQ
 obtain⟨rfl,rfl,rfl⟩:=eI
 have j7:L'.length=k:=by rw[hE.len,List.length_take];omega
 refine Zab (λaO=>?_) (λbO=>?_)
 ·have aW:k < L.length:=by have:=zA6 aO;omega
  obtain⟨x,hx⟩:=Zas aW
  obtain⟨b,o,ha,cK⟩:=Zaj Sta.len aN hx (by omega)
  have hw:IntKind.i64.wrap ((k:Int)+1)=((k+1:Nat):Int):=by rw[Zan (by omega) (by omega)];rfl
  refine⟨b,o,ha,⟨by omega,by omega⟩,_,_,cK.mono hE.le,λb3=>Zaa rfl ⟨_,trivial,ja x (zA2 hx) m2 hE.le,(λv _ _ ⟨y,h,_⟩=>by rw[h];rfl),?_⟩⟩
  intros
  refine Zwp λys=>?_
  rintro aY ⟨y,hv,hQ⟩ b4 jh
  obtain rfl:ys=y.cs:=by simpa using hv
  have bV:(L'.length+1)*40<=140737488355328:=by omega
  refine Zee Sta.len Sta.one jh y (hE.row.mono aY) 40 bV (by omega) (.inl rfl) λa5 c5 m5 cL cO bF=>?_
  have dF:=hE.step Sta.len (by omega) hx aY hQ jh cL cO bF
  exact⟨L.length - (k+1),by omega,k+1,a5,c5,L'++[y],_,by omega,rfl,by rw[hw,zA1];rfl,by rw[zA1];rfl,dF⟩
 ·have dK:k=L.length:=by have:=of_decide_eq_false bO;omega
  rw[dK,List.take_length]at hE
  exact⟨m2,hE.le,Mem.le_refl _,_,_,L',μ,rfl,hE⟩
def CpE(m:Mem)(t:E):Value->Mem->List (List Value)->Prop:=λv m' _=>∃t':E,v=t'.v/\t'.er=t.er/\RepE (nw m m') t'
theorem Zug{m:Mem}{t:E}:∀(v:Value)(m':Mem) (css:List (List Value)),CpE m t v m' css->Shape.fits (.agg [.int .u8,.any,.str,.int .i64,.slice]) v=true:=λv _ _ ⟨t,e,_⟩=>by rw[e];rfl
theorem Zuh(t:E)(m:Mem)(hr:RepE m t)(hl:t.light=true):CX Tryz.prog 74 #[t.v] m [] (CpE m t):=by
 apply Zoo
 intro b m1 aB _ b1
 have h:=ZcW t m1 (hr.mono' aB)
 rw[hl]at h
 refine Zae h λm2 aM=>ZdQ rfl (Zai (Zm9 t m2 (hr.mono' (mLt aB aM)) (zA6 hl)) ZgE ?_)
 rintro n v s n1 a n2 c m3 aY ⟨t',hv,hr',he,hn⟩
 obtain⟨rfl,rfl,rfl,rfl,rfl,rfl,rfl⟩:=ZsP hv
 exact Zaa rfl ⟨m3,mLt aB (mLt aM aY),Mem.le_refl _,t',rfl,he,Zxv t' hr' (hn.less (mLt aB aM))⟩
theorem ZCA(p:Pt)(m:Mem)(hr:RepP m p)(hl:p.e.light=true):CX Tryz.prog 76 #[.agg p.cs.toArray] m [] (λv m' _=>∃q:Pt,v=.agg q.cs.toArray/\QP p q (nw m m')):=by
 apply ZeT
 intro b b1
 refine Zai (Zuh p.e m hr.e hl) Zug ?_
 rintro n v s n1 a n2 c m3 aY ⟨t',hv,he,dO⟩
 obtain⟨rfl,rfl,rfl,rfl,rfl,rfl,rfl⟩:=ZsP hv
 refine Zaa rfl (Zaa rfl ⟨m3,aY,Mem.le_refl _,⟨p.k,p.s,p.g,t'⟩,rfl,?_,hr.k,hr.s,hr.g,dO⟩)
 simp only[Pt.er,he]
theorem ZCB(x:Ac)(m:Mem)(hr:RepA m x)(hl:LtA x):CX Tryz.prog 73 #[.agg x.cs.toArray] m [] (λv m' _=>∃q:Ac,v=.agg q.cs.toArray/\QA x q (nw m m')):=by
 apply Zf6
 intro b b1
 refine Zai (Zuh x.e m hr.e hl.1) Zug ?_
 rintro n v s n1 a n2 c m1 aB ⟨t',hv,he,dO⟩
 obtain⟨rfl,rfl,rfl,rfl,rfl,rfl,rfl⟩:=ZsP hv
 refine Zaa rfl ⟨_,trivial,Zy4 76 QP x.parts x.pa x.pc m1 (hr.row.mono aB) hr.n (λp hp m2 aM=>ZCA p m2 ((hr.all p hp).mono (mLt aB aM)) (hl.2 p hp)),ZhI,?_⟩
 rintro a' n' c' m2 aM ⟨a5,c5,L',μ,hv',hE⟩
 simp only[Value.slice.injEq]at hv'
 obtain⟨rfl,rfl,rfl⟩:=hv'
 refine Zaa rfl ⟨m2,mLt aB aM,Mem.le_refl _,⟨x.k,x.s,a',c',L',t'⟩,rfl,?_,Zvr hr hE (ZeK aB (Mem.le_refl _)) (dO.mono' (ZeK (Mem.le_refl _) aM))⟩
 simp only[Ac.er,he,hE.same λ_ _ _ h=>h.1]
theorem ZCC(x:Ru)(m:Mem)(hr:RepR m x)(hl:LtR x):CX Tryz.prog 43 #[.agg x.cs.toArray] m [] (λv m' _=>∃q:Ru,v=.agg q.cs.toArray/\QR x q (nw m m')):=by
 apply Ziu
 intro b b1
 refine Zai (Zy2 x.t m hr.t (zA6 hl.1)) Zy1 ?_
 rintro n0 n1 n2 n3 n4 n5 n6 a n c m1 aB ⟨t',hv,he,dO⟩
 simp only[T.v,Value.agg.injEq,Array.mk.injEq,List.cons.injEq,Value.int.injEq,Value.slice.injEq,true_and,and_true]at hv
 obtain⟨rfl,rfl,rfl,rfl,rfl,rfl,rfl,rfl,rfl,rfl⟩:=hv
 refine⟨_,trivial,Zy5 73 QA x.acts x.aa x.ac m1 (hr.row.mono aB) hr.len (λp hp m2 aM=>ZCB p m2 ((hr.all p hp).mono (mLt aB aM)) (hl.2 p hp)),ZhI,?_⟩
 rintro a' n' c' m2 aM ⟨a5,c5,L',μ,hv',hE⟩
 simp only[Value.slice.injEq]at hv'
 obtain⟨rfl,rfl,rfl⟩:=hv'
 refine⟨m2,mLt aB aM,Mem.le_refl _,⟨x.k,x.bg,x.en,t',x.s,x.n,a',c',L',x.go,x.code⟩,rfl,?_,Zvs hr hE (ZeK aB (Mem.le_refl _)) (dO.mono (ZeK (Mem.le_refl _) aM))⟩
 simp only[Ru.er,he,hE.same λ_ _ _ h=>h.1]
theorem ZCD(x:Sta)(m0 m:Mem)(h0:m0.le m)(hr:RepS m x)(hl:∀r∈x.rules,LtR r):CX Tryz.prog 41 #[.agg x.cs.toArray] m [] (λv m' _=>∃q:Sta,v=.agg q.cs.toArray/\QS m0 x q (nw m m')):=by
 apply Zmc
 intro b m1 aB _ b1
 refine⟨λ_ _ μ=>Zvo Ru.cs QR μ x.rules,_,rfl,Zy6 43 QR x.rules x.ra x.rc m1 (hr.row.mono aB) hr.len (λp hp m2 aM=>ZCC p m2 ((hr.all p hp).mono (mLt aB aM)) (hl p hp)),ZhI,?_⟩
 rintro a' n' c' m2 aM ⟨a5,c5,L',μ,hv',hE⟩ M _ hM
 simp only[Value.slice.injEq]at hv'
 obtain⟨rfl,rfl,rfl⟩:=hv'
 exact⟨m2,mLt aB aM,hM,⟨x.s,a',c',L'⟩,rfl,(ZAn (mLt h0 aB) (hr.mono aB) hE).mono (ZeK aB (Mem.le_refl _))⟩
def ZBS(m:Mem)(l:List Va):Value->Mem->List (List Value)->Prop:=λv m' _=>∃a' c',v=.slice a' l.length c'/\rowRd (nw m m') a' (l.map Va.cs).flatten/\l.length<=c'
theorem Zrn(a:Option Addr)(c:Nat)(l:List Va)(m:Mem)(h:rowRd m a (l.map Va.cs).flatten)(hl:l.length<=few):CXT Tryz.prog 39 #[.slice a l.length c] m 4 (ZBS m l):=by
 have hl:l.length<=100000:=hl
 apply ZbV
 have bA:(l.map Va.cs).flatten.length=l.length*4:=Za1 Va.len l
 refine Zab (λha=>?_) (λha=>⟨⟨rfl,Int.le_refl _,by decide,by decide⟩,λb hf _=>⟨.inl rfl,[],(l.map Va.cs).flatten,rfl,bA,.inl rfl,h,?_,by omega,by omega,λa' c' m' hm aN lb=>⟨rfl,?_⟩⟩⟩)
 ·obtain rfl:a=none:=by simpa using ha
  have h0:l=[]:=by
   rcases h with h|⟨_,_,h,_⟩
   ·rw[h]at bA;exact List.eq_nil_of_length_eq_zero (by simp at bA;omega)
   ·cases h
  subst h0
  exact⟨rfl,none,0,rfl,.inl rfl,Nat.le_refl _⟩
 ·intro u hu
  simp only[List.mem_flatten,List.mem_map]at hu
  obtain⟨_,⟨e,_,rfl⟩,hu⟩:=hu
  exact Va.one e u hu
 ·simp only[Nat.zero_add]at lb ⊢
  refine⟨a',c',rfl,ZtE aN ?_,lb.1⟩
  rcases(lb.old (λ_ _ e=>by cases e;rfl)).2 with h1|⟨b',h1,h2|h2⟩
  ·exact .inr λb o e=>by rw[h1]at e;cases e
  ·exact .inr λb' o e=>by rw[<-h2]at e;cases e;exact hf
  ·exact .inr λb o e=>by rw[h1]at e;cases e;exact h2
def CpC(m:Mem)(s:Sc):Value->Mem->List (List Value)->Prop:=λv m' _=>∃s':Sc,v=s'.v/\s'.er=s.er/\RepC (nw m m') s'/\(s'.states=[]\/∃b μ,SepC m m' s' b μ)
theorem Zui{m:Mem}{s:Sc}:∀(v:Value)(m':Mem) (css:List (List Value)),CpC m s v m' css->Shape.fits (.agg [.int .i64,.slice,.slice]) v=true:=λv _ _ ⟨t,e,_⟩=>by rw[e];rfl
theorem Zwq{m:Mem}{l:List Va}:∀(v:Value)(m':Mem) (css:List (List Value)),ZBS m l v m' css->Shape.fits .slice v=true:=λv _ _ ⟨_,_,h,_⟩=>by rw[h];rfl
theorem Zxw(s:Sc)(m:Mem)(hr:RepC m s)(hl:s.light=true):CX Tryz.prog 13 #[s.v] m [] (CpC m s):=by
 apply Zrk
 intro b m1 aB _ b1
 have h:=ZcH s m1 (hr.mono aB)
 rw[hl]at h
 refine Zae h λm2 aM=>ZdQ rfl ?_
 have eX:=hr.mono (mLt aB aM)
 have bY:=mLt aB aM
 refine⟨λi _ μ=>if i=4 then ZBS μ s.vars else Zvo Sta.cs (QS m) μ s.states,_,rfl,(Zrn s.va s.vc s.vars m2 eX.vrow eX.vlen).toCX,Zwq,?_⟩
 rintro a n c m3 aY ⟨a',c',hv,aN,dE⟩
 simp only[Value.slice.injEq]at hv
 obtain⟨rfl,rfl,rfl⟩:=hv
 refine⟨_,rfl,Zy7 41 (QS m) s.states s.sa s.sc m3 (eX.row.mono aY) eX.len (λx hx m4 bP=>ZCD x m m4 (mLt bY (mLt aY bP)) ((eX.all x hx).mono (mLt aY bP)) (ZAm hl x hx)),ZhI,?_⟩
 rintro a4 n4 c4 m4 bP ⟨a5,c5,L',μ,hv',hE⟩ M _ iM ji
 simp only[Value.slice.injEq]at hv'
 obtain⟨rfl,rfl,rfl⟩:=hv'
 have dM:=mLt bY aY
 have ma:(nw m3 m4).le (nw m M):=ZeK dM ji
 refine⟨M,mLt bY (mLt aY iM),Mem.le_refl _,⟨s.n,a,c,s.vars,a4,c4,L'⟩,rfl,?_,⟨hr.n,hr.vlen,aN.mono (ZeK bY iM),hr.vall,by rw[hE.len];exact hr.len,hE.rows.mono ma,λy hy=>?_,dE,hE.cap⟩,?_⟩
 ·simp only[Sc.er,hE.same (f:=Sta.er) (g:=Sta.er) λ_ _ _ h=>h.1]
 ·obtain⟨i,x,_,_,hq,hs⟩:=hE.at hy
  exact hq.2.1.mono (mLt hs ma)
 ·rcases hE.blk with⟨h1,_⟩|⟨_,b,hb,hf,hk,hμ⟩
  ·exact .inl (List.eq_nil_of_length_eq_zero (by rw[hE.len,h1];rfl))
  ·refine .inr ⟨b,μ,hb,⟨ZcF dM hf,Zi7 dM hk⟩,λi y hy=>?_,λi j qK hj b'=>hE.ap i j qK (by rw[<-hE.len];exact hj) b',nw m2 m3,aN,ZeK bY iM,ZcF (ZoD _ _) hf,λi hi b'=>?_⟩
   ·have aO:i < s.states.length:=by rw[<-hE.len];exact(zA0 hy).1
    have hq:=hE.q i _ _ (zA3 aO) hy
    exact⟨hq.2.1,hq.2.2,mLt (hE.sub i aO) ma,(hμ i aO).1⟩
   ·by_cases iU:(nw m2 m3).free b'
    ·exact .inl iU
    ·exact .inr (ZcF (hE.sub i (by rw[<-hE.len];exact hi)) (Zvn λh=>iU (ZcF (ZoD _ _) h)))
end Go.Proofs.YtojlhhphofhaoaaGreatDoor
namespace Go.Proofs.YtojlhhphofhaoaaGreatDoor
open Go Go.Eng Go.Proofs Go.RowKit
open Go.Value (int slice agg bool string tuple func)
open Go.IntKind (u8 u64 i64)
set_option maxRecDepth 100000
def Zro:Env:={ EB with
 joins:=(λi=>bif Nat.beq i 1 then some [(6,.bool)]else none)
 frzNew:=[3] }
theorem Zor(aA:Int)(aH:Option Addr)(aG aI:Nat)(aJ:Option Addr)(aF aK:Nat)(p1 p2:Int)(m:Mem)(R:RT)(h:
 lV [int i64 aA,slice aH aG aI,slice aJ aF aK] λxL=>fzM m xL λb m'=>∃(b_1:Bool),lV [bool b_1] λxL_1=>lE [some (Box.mk b xL 30 3 true true)] λxL_2=>(kB Tryz.prog 38 [agg
 (Array.mk xL)] m' λb m'=>br b (br (decide (p1 ≥ (0:Int))) (br (decide (p1 < (↑aF:Int))) (br (decide (p2 ≥ (0:Int))) (atA aJ λb o=>Zaf p1 aF/\∃(v:Value),m' b (o+Int.toNat p1*2+1) =
 some v/\chk (Zbb v) (Zad xL_2/\[bool (decide (p2 < (↑(slN v):Int)))]=xL_1)) (Zad xL_2/\[bool false]=xL_1)) (Zad xL_2/\[bool false]=xL_1)) (Zad xL_2/\[bool false]=xL_1)) (Zad xL_2/\[bool
 false]=xL_1))/\rtM m m' R (bool b_1)):CX Tryz.prog 78 #[.agg #[.int .i64 aA,.slice aH aG aI,.slice aJ aF aK],.int .i64 p1,.int .i64 p2] m [] R:=
 Zal (E:=Zro) Zak mix Tryz.func78 (by kernel_rfl) (Eq.mp (by kernel_rfl) h)
def ZsV:Env:={ EB with
 dr:=(λi=>bif Nat.beq i 4 then[⟨0,[8],[],none,[],[]⟩,⟨1,[8],[],none,[0],[]⟩,⟨2,[],[],none,[],[]⟩,⟨3,[8],[],none,[],[]⟩,⟨4,[8],[],none,[3],[]⟩,⟨5,[],[],none,[],[]⟩,⟨6,[],[],none,[3,4,5],[]⟩,⟨7,[],[],none,[3,4,5,6],[]⟩,⟨8,[],[],none,[3,4,5,6,7],[]⟩,⟨9,[],[],none,[],[]⟩,⟨10,[],[],none,[],[]⟩,⟨11,[],[],none,[10],[]⟩,⟨12,[200],[200],none,[3,4,5,6,7,8,9,10,11],[]⟩]else[])
 borrow:=(λi=>bif Nat.beq i 29 then[200]else[])
 frzNew:=[3]
 acqB:=(λi=>bif Nat.beq i 4 then some 200 else none)
 thaw:=true
 stAt:=(λi=>bif Nat.beq i 31 then some 999 else none)
 last:=(λi=>bif Nat.beq i 4 then true else false)
 lastK:=(λi=>bif Nat.beq i 4 then 3 else 1)
 frz:=[200]
 kF:=true }
theorem Zrp(aA:Int)(aH:Option Addr)(aG aI:Nat)(aJ:Option Addr)(aF aK:Nat)(p1 p2:Int)(m:Mem)(R:RT)(h:
 lV [int i64 p2,int i64 (i64.wrap (p2+(1:Int)))] λxL=>lE (Int.toNat p1*2) λyL=>lV [int i64 aA,slice aH aG aI,slice aJ aF aK] λxL_1=>fzM m xL_1 λb m'=>m.free b
 -> (∀(b' o:Nat)(u:Value),m' b' o=some u->m b' o=some u\/b'=b)->Mem.k m b=none->∀(b_1:Nat),kB Tryz.prog 78 [agg (Array.mk xL_1),int i64 p1,int i64 p2] m' λb_2 m'=>br (!b_2) (rtM m m' R (tuple
 (Array.mk [agg (Array.mk [int i64 0,slice none 0 0,slice none 0 0]),int i64 250]))) (∃(R_1:RT),True/\CX Tryz.prog 13 (Array.mk [agg (Array.mk xL_1)]) m' [] R_1/\ZaZ (Shape.agg [Shape.int i64,Shape.slice,
 Shape.slice]) R_1/\∀(n:Int)(a:Option Addr)(n_1 c:Nat)(a_1:Option Addr)(n_2 c_1:Nat)(m'_1:Mem),lX (agg (Array.mk [int i64 n,slice a n_1 c,slice a_1 n_2 c_1])) λyL_1=>m'.le m'_1->R_1 yL_1
 m'_1 []->∀(b_3:Nat),∃(b_4:Nat),∃(cs:List Value),lM (Mem.off m'_1 λk=>k=b_4) λmL=>cs≠[]/\m'_1.reads b_4 0 cs/\m.free b_4/\(b≠b_4/\True)/\∀(T:TypeId)(cap:Nat),∃(f:Fx),
 atA a_1 λb_5 o=>Zaf p1 n_2/\∃(v:Value),mL b_5 (o+yL+1)=some v/\∃(R_2:RT),R_2=f 12 (v::xL) mL/\CX Tryz.prog 79 (Array.mk (v::xL)) mL [Box.mk b_4 cs T cap false false] R_2/\ZaZ
 Shape.slice R_2/\∀(a:Option Addr)(n c:Nat)(m':Mem),lX (slice a n c) λyL_2=>mL.le m'->∀(cs:List Value),R_2 yL_2 m' [cs]->∀(M:Mem),mL.le M->m'.le M->atA a_1 λb_6 o=>lM (Mem.upd
 M b_6 (o+yL+1) [yL_2]) λmL=>Zaf p1 n_2/\(∃(vs:List Value),vs.length=1/\M.reads b_6 (o+yL+1) vs)/\m.free b_6/\true=true/\b≠b_6/\(mL.free b_4->Mem.k mL b_4=none->rtM m
 (mL.add b_4 cs) R (tuple (Array.mk [yL_1,int i64 0]))))):CX Tryz.prog 45 #[.agg #[.int .i64 aA,.slice aH aG aI,.slice aJ aF aK],.int .i64 p1,.int .i64 p2] m [] R:=
 Zal (E:=ZsV) Zak mix Tryz.func45 (by kernel_rfl) (Eq.mp (by kernel_rfl) h)
def Zbh:Env:={ EB with
 frzNew:=[1] }
theorem Zbd(p0a:Option Addr)(p0n p0c:Nat)(m:Mem)(R:RT)(h:
 fzM m [slice p0a p0n p0c] λb m'=>rtM m m' R (func (Fn.func 77) (Array.mk []) (Array.mk [Value.pointer (some (Addr.mk b 0 none))]))):CX Tryz.prog 44 #[.slice p0a p0n p0c] m [] R:=
 Zal (E:=Zbh) Zak mix Tryz.func44 (by kernel_rfl) (Eq.mp (by kernel_rfl) h)
def Zba:Env:={ EB with
 loops:=(λi=>bif Nat.beq i 1 then⟨[(3,.int .i64)],[],[],true⟩ else⟨[],[],[],false⟩) }
theorem Za6(p0g:Nat)(p0fi p0ca:List Value)(c0b c0o:Nat)(m:Mem)(xs:List (List Value))(h:
 ∀(l:Nat),∃(v:Value),m c0b c0o=some v/\chk (Zbb v) (∃(I:IT),inI I [int i64 0,int i64 (i64.wrap ((↑(slN v):Int) - (1:Int)))] [] [] m/\∀(y n:Int)(m':Mem)(n_1:Nat),m.le m'->I
 [int i64 y,int i64 n] [] [] m' n_1->br (decide (n ≥ (0:Int))) (∃(v:Value),m' c0b c0o=some v/\chk (Zbb v) (atA (slA v) λb o=>Zaf n (slN v)/\∃v v_1:Value,m'.reads b (o +
 Int.toNat n*2) [v,v_1]/\(l=l/\(0:Int)<=y/\List.get?Internal xs (Int.toNat y)=some [int i64 n,agg (Array.mk [v,v_1])])/\nxI n_1 I [int i64 (y+(1:Int)),int i64 (i64.wrap (n - (1:Int)))] []
 [] m'/\((-1:Int)=(↑(xs.length):Int)\/(-1:Int)=(-1:Int)))) (y=(↑(xs.length):Int)\/y=(-1:Int)))):IX Tryz.prog 77 [] [.pointer (some ⟨c0b,c0o,none⟩)] m xs:=
 ZeE (E:=Zba) Zak mix Tryz.func77 _ _ _ (by kernel_rfl) (Eq.mp (by kernel_rfl) h)
end Go.Proofs.YtojlhhphofhaoaaGreatDoor
namespace Go.Proofs.YtojlhhphofhaoaaGreatDoor
open Go Go.Eng Go.Rx Go.Proofs Go.RowKit Go.Shelf
set_option maxRecDepth 100000
def zRu:Value:=.agg #[.int .u8 0,.bool false,.bool false,.int .u8 0,.int .u64 0,.int .u64 0,.int .u64 0,.int .u64 0,.int .i64 0,.int .i64 0,.slice none 0 0,.string .empty,.int .i64 0,.slice none 0 0,.string .empty,.int .i64 0]
def ZCE:Ren:=⟨fun|45=>79|n=>n,fun|0=>0|3=>3|4=>4|22=>40|23=>57|n=>n,λn=>n⟩
theorem ZA7:DelLay Tryz.prog ZCE 16 zRu:=
 {mixed:=mix,f45:=⟨Tryz.f79.name,by kernel_rfl,by kernel_rfl⟩
  t0:=by kernel_rfl,a0:=Tryz.isAgg0,z0:=Tryz.sizeOf0,v0:=Tryz.zeroValue0
  t3:=Tryz.underlying3,a3:=Tryz.isAgg3,z3:=Tryz.sizeOf3,v3:=Tryz.zeroValue3
  t4:=Tryz.underlying4,a4:=Tryz.isAgg4,z4:=Tryz.sizeOf4,v4:=Tryz.zeroValue4
  t22:=Tryz.underlying40,a22:=Tryz.isAgg40,z22:=Tryz.sizeOf40,v22:=Tryz.zeroValue40
  z23:=Tryz.sizeOf57,v23:=Tryz.zeroValue57 }
theorem ZA8(m:Nat):∀u∈(Builtin.zeroCells zRu.cells m).toList,u.oneCell'=true:=by
 have ol:∀i,i < 16->(zRu.cells[i]!).oneCell'=true:=by decide
 intro u hu
 simp only[Builtin.zeroCells,Array.toList_map,List.mem_map]at hu
 obtain⟨i,_,rfl⟩:=hu
 exact ol _ (Nat.mod_lt _ (by decide))
theorem ZA9(l:List Ru)(b c i:Nat)(T:TypeId)(cap:Nat)(m:Mem)(hi:i < l.length)(hc:l.length<=c)(hm:l.length<=9223372036854775807):
  CX Tryz.prog 79 #[.slice (some ⟨b,0,none⟩) l.length c,.int .i64 i,.int .i64 (i+1:Nat)] m [⟨b,(l.map Ru.cs).flatten,T,cap,false,false⟩] (λv m' css=>v=.slice (some ⟨b,0,none⟩) (l.length - 1) c/\css=[((l.eraseIdx i).map Ru.cs).flatten++zRu.cells.toList]):=by
 obtain⟨i0,h1,h2⟩:∃i0,Tryz.prog.info? 57=some i0/\i0.size=16:=by
  obtain⟨x,h1,h2,_⟩:=(Zak 57 _ rfl).info
  exact⟨x,h1,h2⟩
 exact Zvt ZA7 i0 h1 h2 rfl (Go.Eng.Zhh Tryz.func79 (by kernel_rfl) (by kernel_rfl)) (by decide) (by kernel_rfl) ZA8 Ru.len Ru.one l b c i T cap m hi hc hm
end Go.Proofs.YtojlhhphofhaoaaGreatDoor
end
