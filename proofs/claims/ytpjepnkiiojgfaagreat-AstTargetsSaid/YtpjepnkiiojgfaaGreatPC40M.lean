/- Part of the proof: functions of the program. No condition. -/
import Derived.Test.YtpjepnkiiojgfaaGreatPEnv
import Derived.Test.YtpjepnkiiojgfaaGreatPC25E
import Derived.Test.YtpjepnkiiojgfaaGreatPC25AU
import Derived.Test.YtpjepnkiiojgfaaGreatMr
set_option linter.unusedVariables false
set_option linter.unusedSimpArgs false
set_option linter.unusedSectionVars false
noncomputable section
namespace Go.Proofs.YtpjepnkiiojgfaaGreat
open Go Go.Eng Go.Proofs Go.RowKit
open Go.Value (int slice agg bool string tuple func)
open Go.IntKind (u8 u64 i64)
set_option maxRecDepth 100000
def ZvF:Env:={ EB with
 frzNew:=[1] }
theorem ZsX(aA:Int)(aD aG:Bool)(aF bG bH bI eo ep eu:Int)(cA:Option Addr)(cB cC:Nat)(cZ:ByteArray)(dA:Int)(cD:Option Addr)(cE cF:Nat)(dB:ByteArray)(dC:Int)(m:Mem)(R:RT)(h:
 lV [int u8 aA,bool aD,bool aG,int u8 aF,int u64 bG,int u64 bH,int u64 bI,int u64 eo,int i64 ep,int i64 eu,slice cA cB cC,string cZ,int i64 dA,slice cD cE
 cF,string dB,int i64 dC] λxL=>fzM m xL λb m'=>∀(b b:Nat),m'.free b->∀(b_1:Nat),Mem.free (m'.add b xL) b_1->rtM m (Mem.add (m'.add b xL) b_1 [string bE0,slice (some (Addr.mk b 0 none)) 1 1]) R (agg (Array.mk [int i64 0,slice none 0 0,slice (some (Addr.mk b_1 0 none)) 1 1]))):CX Tryz.prog 75 #[.agg #[.int .u8 aA,.bool aD,.bool aG,.int .u8 aF,.int .u64 bG,.int .u64 bH,.int .u64 bI,.int .u64 eo,.int .i64 ep,.int .i64 eu,.slice cA cB cC,.string cZ,.int .i64 dA,.slice cD cE cF,.string dB,.int .i64 dC]] m [] R:=
 Zae (E:=ZvF) Zao mix Tryz.func75 (by kernel_rfl) (Eq.mp (by kernel_rfl) h)
def Zh0:Env:={ EB with
 joins:=(λi=>bif Nat.beq i 1 then some [(4,.bool)]else none)
 frzNew:=[2,3] }
theorem Zg2(aA:Int)(aD:ByteArray)(aG aF:Int)(bG:Value)(bH:ByteArray)(bI:Int)(bF:Option Addr)(bD bJ:Nat)(bM:Int)(bV:ByteArray)(bX cJ:Int)(eA:Value)(eB:ByteArray)(eC:Int)(dR:Option Addr)(dS dT:Nat)(m:Mem)(R:RT)(h:
 lV [int u8 aF,bG,string bH,int i64 bI,slice bF bD bJ] λxL=>lV [int u8 cJ,eA,string eB,int i64 eC,slice dR dS dT] λxL_1=>lV (int u8 bM::string bV::int i64 bX
 :: xL_1) λxL_2=>lV (int u8 aA::string aD::int i64 aG::xL) λxL_3=>fzM m xL_3 λb m'=>lE [some (Box.mk b xL_3 130 8 true true)] λxL_4=>fzM m' xL_2 λb m'=>∃(b_1:Bool),lV [bool b_1]
 λxL_5=>lE (some (Box.mk b xL_2 130 8 true true)::xL_4) λxL_6=>br (aA == bM) (br (ByteArray.toList aD == ByteArray.toList bV) (br (aG == bX) (kB Tryz.prog 140 [agg (Array.mk xL),agg (Array.mk
 xL_1)] m' λb m'=>Zac xL_6/\[bool b]=xL_5) (Zac xL_6/\[bool false]=xL_5)) (Zac xL_6/\[bool false]=xL_5)) (Zac xL_6/\[bool false]=xL_5)/\rtM m m' R (bool b_1)):CX Tryz.prog 139 #[.agg #[.int .u8 aA,.string aD,.int .i64 aG,.int .u8 aF,bG,.string bH,.int .i64 bI,.slice bF bD bJ],.agg #[.int .u8 bM,.string bV,.int .i64 bX,.int .u8 cJ,eA,.string eB,.int .i64 eC,.slice dR dS dT]] m [] R:=
 Zae (E:=Zh0) Zao mix Tryz.func139 (by kernel_rfl) (Eq.mp (by kernel_rfl) h)
def ZaM:Env:={ EB with
 loops:=(λi=>bif Nat.beq i 4 then⟨[(17,.int .i64)],[],[],false⟩ else⟨[],[],[],false⟩) }
theorem ZaJ(p0a:Option Addr)(p0n p0c:Nat)(p1a:Option Addr)(p1n p1c p2g:Nat)(p2fi p2ca:List Value)(m:Mem)(R:RT)(h:
 br (!(↑p0n:Int) == (↑p1n:Int)) (rtM m m R (bool false)) (∃(I:IT),inI I [int i64 0] [] [] m/\∀(n:Int)(m':Mem)(n_1:Nat),m.le m'->I [int i64 n] [] [] m' n_1->br (decide (n < (↑p0n:Int))) (atA p0a
 λb o=>Zad n p0n/\∃v v_1 v_2 v_3 v_4 v_5 v_6 v_7:Value,lV [v,v_1,v_2,v_3,v_4,v_5,v_6,v_7] λxL=>
 m'.reads b (o+Int.toNat n*8) xL/\∀(b:Nat),chk (v.oneCell'&&(v_1.oneCell'&&(v_2.oneCell'&&(v_3.oneCell'&&(v_4.oneCell'&&(v_5.oneCell'&&(v_6.oneCell' &&
 (v_7.oneCell'&&true)))))))) (atA p1a λb o=>Zad n p1n/\∃v v_8 v_9 v_10 v_11 v_12 v_13 v_14:Value,lV [v,
 v_8,v_9,v_10,v_11,v_12,v_13,v_14] λxL_1=>m'.reads b (o+Int.toNat n*8) xL_1/\∀(b:Nat),chk (v.oneCell'&&(v_8.oneCell'&&(v_9.oneCell'&&(v_10.oneCell'&&(v_11.oneCell'&&(v_12.oneCell'&&(v_13.oneCell'&&(v_14.oneCell'&&true)))))))) (kB Tryz.prog p2g (List.append (List.append p2fi [agg (Array.mk xL),agg (Array.mk xL_1)]) p2ca) m' λb m'=>br (!b) (rtM m
 m' R (bool false)) (nxI n_1 I [int i64 (i64.wrap (n+(1:Int)))] [] [] m')))) (rtM m m' R (bool true)))):CX Tryz.prog 159 #[.slice p0a p0n p0c,.slice p1a p1n p1c,.func (.func p2g) p2fi.toArray p2ca.toArray] m [] R:=
 Zae (E:=ZaM) Zao mix Tryz.func159 (by kernel_rfl) (Eq.mp (by kernel_rfl) h)
def Zdt:Env:=EB
theorem Zdh(p0a:Option Addr)(p0n p0c:Nat)(p1a:Option Addr)(p1n p1c p2g:Nat)(p2fi p2ca:List Value)(m:Mem)(R:RT)(h:
 kB Tryz.prog 159 [slice p0a p0n p0c,slice p1a p1n p1c,func (Fn.func p2g) (Array.mk p2fi) (Array.mk p2ca)] m λb m'=>rtM m m' R (bool b)):CX Tryz.prog 138 #[.slice p0a p0n p0c,.slice p1a p1n p1c,.func (.func p2g) p2fi.toArray p2ca.toArray] m [] R:=
 Zae (E:=Zdt) Zao mix Tryz.func138 (by kernel_rfl) (Eq.mp (by kernel_rfl) h)
def Zf5:Env:={ EB with
 joins:=(λi=>bif Nat.beq i 1 then some [(4,.bool)]else none)
 frzNew:=[2,3] }
theorem Zfe(aA:Int)(aD:ByteArray)(aN:Option Addr)(aJ aV:Nat)(aF:Int)(bG:Value)(bH:ByteArray)(bI:Int)(bF:Option Addr)(bD bJ:Nat)(bM:Int)(bV:ByteArray)(fZ:Option Addr)(ga gc:Nat)(cJ:Int)(eA:Value)(eB:ByteArray)(eC:Int)(dR:Option Addr)(dS dT:Nat)(m:Mem)(R:RT)(h:
 lV [int u8 aF,bG,string bH,int i64 bI,slice bF bD bJ] λxL=>lV [int u8 cJ,eA,string eB,int i64 eC,slice dR dS dT] λxL_1=>lV (int u8 aA::string aD::slice aN
 aJ aV::xL) λxL_2=>lV (int u8 bM::string bV::slice fZ ga gc::xL_1) λxL_3=>fzM m xL_2 λb m'=>lE [some (Box.mk b xL_2 54 8 true true)] λxL_4=>fzM m' xL_3 λb m'=>∃(b_1:
 Bool),lV [bool b_1] λxL_5=>lE (some (Box.mk b xL_3 54 8 true true)::xL_4) λxL_6=>br (aA == bM) (br (ByteArray.toList aD == ByteArray.toList bV) (kB Tryz.prog 138 [slice aN aJ aV,slice
 fZ ga gc,func (Fn.func 139) (Array.mk []) (Array.mk [])] m' λb m'=>br b (kB Tryz.prog 140 [agg (Array.mk xL),agg (Array.mk xL_1)] m' λb m'=>Zac xL_6/\[bool b]=xL_5) (Zac xL_6/\[bool false]
 = xL_5)) (Zac xL_6/\[bool false]=xL_5)) (Zac xL_6/\[bool false]=xL_5)/\rtM m m' R (bool b_1)):CX Tryz.prog 102 #[.agg #[.int .u8 aA,.string aD,.slice aN aJ aV,.int .u8 aF,bG,.string bH,.int .i64 bI,.slice bF bD bJ],.agg #[.int .u8 bM,.string bV,.slice fZ ga gc,.int .u8 cJ,eA,.string eB,.int .i64 eC,.slice dR dS dT]] m [] R:=
 Zae (E:=Zf5) Zao mix Tryz.func102 (by kernel_rfl) (Eq.mp (by kernel_rfl) h)
def Zay:Env:={ EB with
 loops:=(λi=>bif Nat.beq i 4 then⟨[(17,.int .i64)],[],[],false⟩ else⟨[],[],[],false⟩) }
theorem Zax(p0a:Option Addr)(p0n p0c:Nat)(p1a:Option Addr)(p1n p1c p2g:Nat)(p2fi p2ca:List Value)(m:Mem)(R:RT)(h:
 br (!(↑p0n:Int) == (↑p1n:Int)) (rtM m m R (bool false)) (∃(I:IT),inI I [int i64 0] [] [] m/\∀(n:Int)(m':Mem)(n_1:Nat),m.le m'->I [int i64 n] [] [] m' n_1->br (decide (n < (↑p0n:Int))) (atA p0a
 λb o=>Zad n p0n/\∃v v_1 v_2 v_3 v_4 v_5 v_6 v_7:Value,lV [v,v_1,v_2,v_3,v_4,v_5,v_6,v_7] λxL=>
 m'.reads b (o+Int.toNat n*8) xL/\∀(b:Nat),chk (v.oneCell'&&(v_1.oneCell'&&(v_2.oneCell'&&(v_3.oneCell'&&(v_4.oneCell'&&(v_5.oneCell'&&(v_6.oneCell' &&
 (v_7.oneCell'&&true)))))))) (atA p1a λb o=>Zad n p1n/\∃v v_8 v_9 v_10 v_11 v_12 v_13 v_14:Value,lV [v,
 v_8,v_9,v_10,v_11,v_12,v_13,v_14] λxL_1=>m'.reads b (o+Int.toNat n*8) xL_1/\∀(b:Nat),chk (v.oneCell'&&(v_8.oneCell'&&(v_9.oneCell'&&(v_10.oneCell'&&(v_11.oneCell'&&(v_12.oneCell'&&(v_13.oneCell'&&(v_14.oneCell'&&true)))))))) (kB Tryz.prog p2g (List.append (List.append p2fi [agg (Array.mk xL),agg (Array.mk xL_1)]) p2ca) m' λb m'=>br (!b) (rtM m
 m' R (bool false)) (nxI n_1 I [int i64 (i64.wrap (n+(1:Int)))] [] [] m')))) (rtM m m' R (bool true)))):CX Tryz.prog 137 #[.slice p0a p0n p0c,.slice p1a p1n p1c,.func (.func p2g) p2fi.toArray p2ca.toArray] m [] R:=
 Zae (E:=Zay) Zao mix Tryz.func137 (by kernel_rfl) (Eq.mp (by kernel_rfl) h)
def Zc1:Env:=EB
theorem ZcV(p0a:Option Addr)(p0n p0c:Nat)(p1a:Option Addr)(p1n p1c p2g:Nat)(p2fi p2ca:List Value)(m:Mem)(R:RT)(h:
 kB Tryz.prog 137 [slice p0a p0n p0c,slice p1a p1n p1c,func (Fn.func p2g) (Array.mk p2fi) (Array.mk p2ca)] m λb m'=>rtM m m' R (bool b)):CX Tryz.prog 101 #[.slice p0a p0n p0c,.slice p1a p1n p1c,.func (.func p2g) p2fi.toArray p2ca.toArray] m [] R:=
 Zae (E:=Zc1) Zao mix Tryz.func101 (by kernel_rfl) (Eq.mp (by kernel_rfl) h)
def Zh1:Env:={ EB with
 joins:=(λi=>bif Nat.beq i 1 then some [(4,.bool)]else none)
 frzNew:=[2,3] }
theorem Zg3(aA:Int)(aD aG:Bool)(aF bG bH bI eo ep eu:Int)(cA:Option Addr)(cB cC:Nat)(cZ:ByteArray)(dA:Int)(cD:Option Addr)(cE cF:Nat)(dB:ByteArray)(dC bM:Int)(bV bX:Bool)(cJ eA eB eC nM nN nO:Int)(iP:Option Addr)(iQ iR:Nat)(ko:ByteArray)(kq:Int)(iS:Option Addr)(iT iU:Nat)(kr:ByteArray)(kt:Int)(m:Mem)(R:RT)(h:
 lV [int u8 bM,bool bV,bool bX,int u8 cJ,int u64 eA,int u64 eB,int u64 eC,int u64 nM,int i64 nN,int i64 nO,slice iP iQ iR,string ko,int i64 kq,slice iS iT
 iU,string kr,int i64 kt] λxL=>lV [int u8 aA,bool aD,bool aG,int u8 aF,int u64 bG,int u64 bH,int u64 bI,int u64 eo,int i64 ep,int i64 eu,slice cA cB cC,string
 cZ,int i64 dA,slice cD cE cF,string dB,int i64 dC] λxL_1=>fzM m xL_1 λb m'=>lE [some (Box.mk b xL_1 47 16 true true)] λxL_2=>fzM m' xL λb m'=>∃(b_1:Bool),lV [bool b_1]
 λxL_3=>lE (some (Box.mk b xL 47 16 true true)::xL_2) λxL=>br (aA == bM) (br (aD == bV) (br (aG == bX) (kB Tryz.prog 100 [agg (Array.mk [int u8 aF,int u64 bG,int u64 bH,int u64 bI,int
 u64 eo,int i64 ep,int i64 eu,slice cA cB cC]),agg (Array.mk [int u8 cJ,int u64 eA,int u64 eB,int u64 eC,int u64 nM,int i64 nN,int i64 nO,slice iP iQ iR])] m' λb
 m'=>br b (br (ByteArray.toList cZ == ByteArray.toList ko) (br (dA == kq) (kB Tryz.prog 101 [slice cD cE cF,slice iS iT iU,func (Fn.func 102) (Array.mk []) (Array.mk [])] m' λb
 m'=>br b (br (ByteArray.toList dB == ByteArray.toList kr) (Zac xL/\[bool (dC == kt)]=xL_3) (Zac xL/\[bool false]=xL_3)) (Zac xL/\[bool false]=xL_3)) (Zac xL/\[bool false]=xL_3))
 (Zac xL/\[bool false]=xL_3)) (Zac xL/\[bool false]=xL_3)) (Zac xL/\[bool false]=xL_3)) (Zac xL/\[bool false]=xL_3)) (Zac xL/\[bool false]=xL_3)/\rtM m m' R (bool b_1)):CX Tryz.prog 67 #[.agg #[.int .u8 aA,.bool aD,.bool aG,.int .u8 aF,.int .u64 bG,.int .u64 bH,.int .u64 bI,.int .u64 eo,.int .i64 ep,.int .i64 eu,.slice cA cB cC,.string cZ,.int .i64 dA,.slice cD cE cF,.string dB,.int .i64 dC],.agg #[.int .u8 bM,.bool bV,.bool bX,.int .u8 cJ,.int .u64 eA,.int .u64 eB,.int .u64 eC,.int .u64 nM,.int .i64 nN,.int .i64 nO,.slice iP iQ iR,.string ko,.int .i64 kq,.slice iS iT iU,.string kr,.int .i64 kt]] m [] R:=
 Zae (E:=Zh1) Zao mix Tryz.func67 (by kernel_rfl) (Eq.mp (by kernel_rfl) h)
def Zf6:Env:={ EB with
 loops:=(λi=>bif Nat.beq i 5 then⟨[(9,.agg [.int .u8,.any,.str,.int .i64,.slice])],[3],[],false⟩ else⟨[],[],[],false⟩)
 frzNew:=[1] }
theorem Zff(aA:Int)(aD:Value)(aG:ByteArray)(aF:Int)(aS:Option Addr)(aM aZ:Nat)(m:Mem)(R:RT)(h:
 lV [int u8 aA,aD,string aG,int i64 aF,slice aS aM aZ] λxL=>fzM m xL λb m'=>∀(b_1:Nat),lE [some (Box.mk b_1 [] 3 1 false true),some (Box.mk b xL 52 5 true true)] λxL_1=>kB
 Tryz.prog 94 [agg (Array.mk xL)] m' λb m'=>br b (kF Tryz.prog 103 [agg (Array.mk xL)] m' λg fi ca m'=>∃(xs:List (List Value)),IX Tryz.prog g fi ca m' xs/\(∀(x:List Value),x∈xs->Shape.fitsL
 [Shape.agg [Shape.int u8,Shape.any,Shape.str,Shape.int i64,Shape.slice]] x=true)/\∃(I:IT),I [] [[int i64 0]] [] m' 0/\(∀(n:Int)(v:Value)(s:ByteArray)(n_1:Int)(a:Option Addr)(n_2 c:Nat) (cs
 : List Value) (m'_1:Mem) (n_3:Nat),m'.le m'_1->List.get?Internal xs n_3=some [agg (Array.mk [int u8 n,v,string s,int i64 n_1,slice a n_2 c])]->I [] [cs] [] m'_1 n_3->∀(b:Nat),chk (v.oneCell'
 && true) (kI Tryz.prog 104 [int u8 n] m'_1 λn m'=>br (decide (n > (0:Int))) (Eng.Zth cs 0 λv=>chk (Za9 i64 v&&decide (i64=i64)) (Zac xL_1/\I [] [[int i64 (i64.wrap (RowKit.intOf v+(1:
 Int)))]] [] m' (n_3+1))) (Zac xL_1/\I [] [cs] [] m' (n_3+1))))/\∀(cs:List Value)(m'_1:Mem),m'.le m'_1->I [] [cs] [] m'_1 (xs.length)->Eng.Zth cs 0 λv=>rtM m m'_1 R v) (rtM m m' R (int
 i64 0))):CX Tryz.prog 69 #[.agg #[.int .u8 aA,aD,.string aG,.int .i64 aF,.slice aS aM aZ]] m [] R:=
 Zae (E:=Zf6) Zao mix Tryz.func69 (by kernel_rfl) (Eq.mp (by kernel_rfl) h)
def ZpJ:Env:={ EB with
 loops:=(λi=>bif Nat.beq i 5 then⟨[(3,.int .i64),(19,.int .i64)],[],[],false⟩ else⟨[],[],[],false⟩)
 joins:=(λi=>bif Nat.beq i 2 then some [(13,.bool)]else none)
 frzNew:=[1] }
theorem Zox(aA:Int)(aD:Value)(aG:ByteArray)(aF:Int)(aS:Option Addr)(aM aZ:Nat)(m:Mem)(R:RT)(h:
 lV [int u8 aA,aD,string aG,int i64 aF,slice aS aM aZ] λxL=>fzM m xL λb m'=>∃(b_1:Bool),lE [some (Box.mk b xL 52 5 true true)] λxL=>br (aA == (9:Int)) (Zac xL/\[bool true]
 = [bool b_1]) (Zac xL/\[bool (aA == (10:Int))]=[bool b_1])/\br b_1 (∃(I:IT),inI I [int i64 (i64.wrap ((0:Int)+(1:Int))),int i64 0] [] [] m'/\∀(n n_1:Int)(m'_1:Mem)(n_2:Nat),
 m'.le m'_1->I [int i64 n,int i64 n_1] [] [] m'_1 n_2->br (decide (n_1 < (↑aM:Int))) (atA aS λb o=>Zad n_1 aM/\∃v v_1 v_2 v_3 v_4:Value,m'_1.reads b (o+Int.toNat n_1*5) [v,v_1,v_2,v_3,v_4]/\∀(b:Nat),chk (v.oneCell'&&(v_1.oneCell'&&(v_2.oneCell'&&(v_3.oneCell'&&(v_4.oneCell'&&true))))) (kI
 Tryz.prog 70 [agg (Array.mk [v,v_1,v_2,v_3,v_4])] m'_1 λn_3 m'=>Zac xL/\nxI n_2 I [int i64 (i64.wrap (n+n_3)),int i64 (i64.wrap (n_1+(1:Int)))] [] [] m')) (rtM m m'_1 R (int i64 n)))
 (∃(I:IT),inI I [int i64 0,int i64 0] [] [] m'/\∀(n n_1:Int)(m'_1:Mem)(n_2:Nat),m'.le m'_1->I [int i64 n,int i64 n_1] [] [] m'_1 n_2->br (decide (n_1 < (↑aM:Int))) (atA aS λb o=>
 Zad n_1 aM/\∃v v_1 v_2 v_3 v_4:Value,m'_1.reads b (o+Int.toNat n_1*5) [v,v_1,v_2,v_3,v_4]/\∀(b:Nat),chk (v.oneCell' &&
 (v_1.oneCell'&&(v_2.oneCell'&&(v_3.oneCell'&&(v_4.oneCell'&&true))))) (kI Tryz.prog 70 [agg (Array.mk [v,v_1,v_2,v_3,v_4])] m'_1 λn_3 m'=>Zac xL/\nxI n_2 I [int i64
 (i64.wrap (n+n_3)),int i64 (i64.wrap (n_1+(1:Int)))] [] [] m')) (rtM m m'_1 R (int i64 n)))):CX Tryz.prog 70 #[.agg #[.int .u8 aA,aD,.string aG,.int .i64 aF,.slice aS aM aZ]] m [] R:=
 Zae (E:=ZpJ) Zao mix Tryz.func70 (by kernel_rfl) (Eq.mp (by kernel_rfl) h)
def ZjO:Env:={ EB with
 frzNew:=[1] }
theorem Zh2(aA:Int)(aW:Option Addr)(aP aX:Nat)(aN:Option Addr)(aJ aV:Nat)(m:Mem)(R:RT)(h:
 fzM m [int i64 aA,slice aW aP aX,slice aN aJ aV] λb m'=>rtM m m' R (func (Fn.func 105) (Array.mk []) (Array.mk [Value.pointer (some (Addr.mk b 0 none))]))):CX Tryz.prog 71 #[.agg #[.int .i64 aA,.slice aW aP aX,.slice aN aJ aV]] m [] R:=
 Zae (E:=ZjO) Zao mix Tryz.func71 (by kernel_rfl) (Eq.mp (by kernel_rfl) h)
def Zg4:Env:={ EB with
 loops:=(λi=>bif Nat.beq i 1 then⟨[(12,.int .i64)],[],[],true⟩ else bif Nat.beq i 4 then⟨[(19,.int .i64)],[],[],true⟩ else bif Nat.beq i 7 then⟨[(26,.int .i64)],[],[],true⟩ else⟨[],[],[],false⟩) }
theorem Zf7(p0g:Nat)(p0fi p0ca:List Value)(c0b c0o:Nat)(m:Mem)(xs:List (List Value))(h:
 ∀(l:Nat),∃(v:Value),m c0b (c0o+2)=some v/\chk (ZbM v) (∃(I:IT),inI I [int i64 0,int i64 0] [] [] m/\∀(y n:Int)(m':Mem)(n_1:Nat),m.le m'->I [int i64 y,int i64 n] [] [] m' n_1->br
 (decide (n < (↑(slN v):Int))) (chk (ZbM v) (atA (slA v) λb o=>Zad n (slN v)/\∃v v_1:Value,m'.reads b (o+Int.toNat n*2) [v,v_1]/\∀(b:Nat),lE [some (Box.mk b [v,v_1] 36 2
 false true)] λxL=>chk (v.oneCell'&&(v_1.oneCell'&&true)) (chk (ZbM v_1) (∃(I_1:IT),inI I_1 [int i64 y,int i64 0] [] [] m'/\∀(y n_2:Int)(m'_1:Mem)(n_3:Nat),lX (int i64 y) λyL=>
 m'.le m'_1->I_1 [yL,int i64 n_2] [] [] m'_1 n_3->br (decide (n_2 < (↑(slN v_1):Int))) (chk (ZbM v_1) (atA (slA v_1) λb o=>Zad n_2 (slN v_1)/\∃v v_2 v_3 v_4 v_5 v_6 v_7 v_8 v_9 v_10 v_11 v_12 v_13 v_14 v_15 v_16:Value,lV [v,v_2,v_3,v_4,v_5,v_6,v_7,v_8,v_9,v_10,v_11,v_12,v_13,v_14,v_15,v_16] λxL_1=>m'_1.reads b (o+Int.toNat n_2*16) xL_1/\∀(b:Nat),chk (v.oneCell'&&(v_2.oneCell' &&
 (v_3.oneCell'&&(v_4.oneCell'&&(v_5.oneCell'&&(v_6.oneCell'&&(v_7.oneCell'&&(v_8.oneCell'&&(v_9.oneCell'&&(v_10.oneCell'&&(v_11.oneCell' &&
 (v_12.oneCell'&&(v_13.oneCell'&&(v_14.oneCell'&&(v_15.oneCell'&&(v_16.oneCell'&&true)))))))))))))))) (chk (ZbM v_14) (∃(I:IT),inI I [yL,int i64 0] [] [] m'_1/\∀(y n:Int)
 (m':Mem) (n_4:Nat),m'_1.le m'->I [int i64 y,int i64 n] [] [] m' n_4->br (decide (n < (↑(slN v_14):Int))) (chk (ZbM v_14) (atA (slA v_14) λb_1 o=>Zad n (slN v_14)/\∃v v_17 v_18 v_19 v_20 v_21 v_22 v_23:Value,lV [v,v_17,v_18,v_19,v_20,v_21,v_22,v_23] λxL_2=>m'.reads b_1 (o+Int.toNat n*8)
 xL_2/\∀(b_2:Nat),chk (v.oneCell'&&(v_17.oneCell'&&(v_18.oneCell'&&(v_19.oneCell'&&(v_20.oneCell'&&(v_21.oneCell'&&(v_22.oneCell'&&(v_23.oneCell' &&
 true)))))))) ((l=l/\(0:Int)<=y/\List.get?Internal xs (Int.toNat y)=some [agg (Array.mk xL_2)])/\(Zac (some (Box.mk b xL_1 47 16 false true)::xL)/\nxI n_4 I [int i64 (y+(1:Int)),int i64 (i64.wrap (n+(1:Int)))] [] [] m')/\((-1:Int)=(↑(xs.length):Int)\/(-1:Int)=(-1:Int))))) (Zac xL/\nxI n_3 I_1 [int i64 y,int i64 (i64.wrap (n_2+(1:Int)))] [] [] m'))))) (nxI n_1 I [yL,
 int i64 (i64.wrap (n+(1:Int)))] [] [] m'_1))))) (y=(↑(xs.length):Int)\/y=(-1:Int)))):IX Tryz.prog 105 [] [.pointer (some ⟨c0b,c0o,none⟩)] m xs:=
 Zi0 (E:=Zg4) Zao mix Tryz.func105 _ _ _ (by kernel_rfl) (Eq.mp (by kernel_rfl) h)
def ZlO:Env:={ EB with
 dr:=(λi=>bif Nat.beq i 1 then[⟨0,[100000],[],none,[],[]⟩,⟨1,[100000],[],none,[0],[]⟩,⟨2,[2],[],none,[],[]⟩,⟨3,[],[],none,[2],[]⟩,⟨4,[],[],none,[0,1,2,3],[]⟩,⟨5,[100000],[],none,[0,1,2,3,4],[]⟩,⟨6,[100000],[100000],none,[0,1,2,3,4,5],[]⟩]else bif Nat.beq i 2 then[⟨0,[100000],[],none,[],[]⟩,⟨1,[100000],[],none,[0],[]⟩,⟨2,[2],[],none,[],[]⟩,⟨3,[],[],none,[2],[]⟩,⟨4,[],[],none,[0,1,2,3],[]⟩,⟨5,[100000],[],none,[0,1,2,3,4],[]⟩,⟨6,[100000],[100000],none,[0,1,2,3,4,5],[]⟩]else[])
 frzNew:=[2] }
theorem ZjP(aA:Int)(aD:Value)(aG:ByteArray)(aF:Int)(aS:Option Addr)(aM aZ c0b:Nat)(c0_0 c0_1 c0_2 c0_3 c0_4 c0_5:Int)(m:Mem)(R:RT)(h:
 lV [int u8 aA,aD,string aG,int i64 aF,slice aS aM aZ] λxL=>lV [agg (Array.mk xL)] λxL_1=>lE (Box.mk c0b [int i64 c0_0,int i64 c0_1,int i64 c0_2,int i64 c0_3,int i64 c0_4,int i64 c0_5]
 75 6 false true) λyL=>fzM m xL λb m'=>∃(f:Fx),∃(R_1:RT),R_1=f 3 xL_1 m'/\CX Tryz.prog 69 (Array.mk xL_1) m' [] R_1/\ZbC (Shape.int i64) R_1/\∀(n:Int)(m'_1:Mem),m'.le m'_1->R_1 (int
 i64 n) m'_1 []->∀(M:Mem),m'.le M->m'_1.le M->∃(f:Fx),∃(R_2:RT),R_2=f 3 xL_1 M/\CX Tryz.prog 70 (Array.mk xL_1) M [] R_2/\ZbC (Shape.int i64) R_2/\∀(n_1:Int)(m':Mem),M.le m'->R_2
 (int i64 n_1) m' []->∀(M_1:Mem),M.le M_1->m'.le M_1->yL=yL/\∃(m'':Mem),m.le m''/\m''.le M_1/\R (tuple (Array.mk [])) m'' [[int i64 c0_0,int i64 c0_1,int i64 c0_2,int i64 c0_3,int i64
 (i64.wrap (c0_4+n)),int i64 (i64.wrap (c0_5+n_1))]]):CX Tryz.prog 68 #[.agg #[.int .u8 aA,aD,.string aG,.int .i64 aF,.slice aS aM aZ],.pointer (some ⟨c0b,0,none⟩)] m [⟨c0b,[.int .i64 c0_0,.int .i64 c0_1,.int .i64 c0_2,.int .i64 c0_3,.int .i64 c0_4,.int .i64 c0_5],75,6,false,true⟩] R:=
 Zqa (E:=ZlO) Zao mix Tryz.func68 [.v (.agg #[.int .u8 aA,aD,.string aG,.int .i64 aF,.slice aS aM aZ]),.loc 100000 0] [⟨c0b,[.int .i64 c0_0,.int .i64 c0_1,.int .i64 c0_2,.int .i64 c0_3,.int .i64 c0_4,.int .i64 c0_5],75,6,false,true⟩] (by kernel_rfl) (Eq.mp (by kernel_rfl) h)
def ZpK:Env:={ EB with
 loops:=(λi=>bif Nat.beq i 6 then⟨[(23,.int .i64)],[3],[],false⟩ else bif Nat.beq i 10 then⟨[(37,.int .i64)],[3],[],false⟩ else bif Nat.beq i 19 then⟨[(57,.agg [.int .u8,.str,.slice,.int .u8,.any,.str,.int .i64,.slice])],[3],[],false⟩ else bif Nat.beq i 22 then⟨[(68,.int .i64)],[3],[],false⟩ else⟨[],[],[],false⟩)
 dr:=(λi=>bif Nat.beq i 13 then[⟨0,[3],[],none,[],[]⟩,⟨1,[3],[],none,[0],[]⟩,⟨2,[7],[],none,[],[]⟩,⟨3,[7],[],none,[2],[]⟩,⟨4,[7],[],none,[2,3],[]⟩,⟨5,[],[],none,[2,3,4],[]⟩,⟨6,[],[],none,[0,1,2,3,4,5],[]⟩,⟨7,[3],[],none,[0,1,2,3,4,5,6],[]⟩,⟨8,[3],[3],none,[0,1,2,3,4,5,6,7],[]⟩]else[])
 borrow:=(λi=>bif Nat.beq i 64 then[3]else bif Nat.beq i 85 then[3]else[])
 frzNew:=[1] }
theorem Zoy(aA:Int)(aW:Option Addr)(aP aX:Nat)(aN:Option Addr)(aJ aV:Nat)(m:Mem)(R:RT)(h:
 lV [int i64 aA,slice aW aP aX,slice aN aJ aV] λxL=>fzM m xL λb m'=>∀(a9 ao:Nat),lV [Value.pointer (some (Addr.mk ao 0 none))] λaq=>lV [func (Fn.func 68) (Array.mk []) (Array.mk
 aq)] λba=>lE [some (Box.mk ao [] 75 6 false true),some (Box.mk a9 [int i64 0,int i64 0,int i64 0,int i64 0,int i64 0,int i64 0] 75 6 false true),some (Box.mk b xL 32 3 true true)] λaz=>kB Tryz.prog 19
 [agg (Array.mk xL)] m' λb m'=>br (!b) (rtM m m' R (agg (Array.mk [int i64 0,int i64 0,int i64 0,int i64 0,int i64 0,int i64 0]))) (∃(I:IT),inI I [int i64 0] [[int i64 (↑aJ:Int),int i64 0,int i64 0,
 int i64 0,int i64 0,int i64 0]] [] m'/\∀(n:Int)(cs:List Value)(ar:Mem)(a3:Nat),m'.le ar->I [int i64 n] [cs] [] ar a3->br (decide (n < (↑aJ:Int))) (atA aN λb o=>Zad n aJ/\∃v ac:Value,ar.reads b (o+Int.toNat n*2) [v,ac]/\∀(b:Nat),lE (some (Box.mk b [v,ac] 36 2 false true)::az) λxL=>chk (v.oneCell'&&(ac.oneCell'&&true)) (Eng.Zth cs 1 λv
 => chk (ZbM ac) (chk (Za9 i64 v&&decide (i64=i64)) (chk (Nat.ble 2 (cs.length)) (chk (ZbM ac) (∃(aa:IT),inI aa [int i64 0] [ZaF cs 1 [int i64 (i64.wrap (RowKit.intOf v+(↑(slN ac):Int)))]]
 [] ar/\∀(ae:Int)(cs:List Value)(m':Mem)(av:Nat),lV [int i64 (i64.wrap (ae+(1:Int)))] λau=>ar.le m'->aa [int i64 ae] [cs] [] m' av->br (decide (ae < (↑(slN ac):Int))) (chk (ZbM ac)
 (atA (slA ac) λb o=>Zad ae (slN ac)/\∃v al am ag ah ai aj ak a0 a1 a2 a4 a5 a6 a7 a8:Value,lV [agg (Array.mk [ag,ah,ai,aj,ak,a0,a1,a2])] λaw=>m'.reads b (o+Int.toNat ae*16) [v,al,am,ag,ah,ai,aj,
 ak,a0,a1,a2,a4,a5,a6,a7,a8]/\∀(b:Nat),chk (v.oneCell'&&(al.oneCell'&&(am.oneCell'&&(ag.oneCell'&&(ah.oneCell'&&(ai.oneCell'&&(aj.oneCell' &&
 (ak.oneCell'&&(a0.oneCell'&&(a1.oneCell'&&(a2.oneCell'&&(a4.oneCell'&&(a5.oneCell'&&(a6.oneCell'&&(a7.oneCell'&&(a8.oneCell'&&true))))))))))))))))
 (chk (Za9 u8 v&&decide (u8=u8)) (br (RowKit.intOf v == (1:Int)) (∃(f:Fx),Eng.Zth cs 2 λv=>∃(R:RT),R=f 5 aw m'/\CX Tryz.prog 58 (Array.mk aw) m' [] R/\ZbC (Shape.int i64) R/\∀(n:Int) (ad:
 Mem),m'.le ad->R (int i64 n) ad []->chk (Za9 i64 v&&decide (i64=i64)) (chk (Nat.ble 3 (cs.length)) (∀(M:Mem),m'.le M->ad.le M->Zac xL/\nxI av aa au [ZaF cs 2 [int i64 (i64.wrap (RowKit.intOf v+n))]] [] M))) (Zac xL/\nxI av aa au [cs] [] m'))))) (Zac az/\nxI a3 I [int i64 (i64.wrap (n+(1:Int)))] [cs] [] m'))))))) (∀(b:Nat),lE (some (Box.mk b ba 137 1 false true) ::
 az) λau=>kF Tryz.prog 71 [agg (Array.mk xL)] ar λg fi ca m'=>∃(xs:List (List Value)),IX Tryz.prog g fi ca m' xs/\(∀(x:List Value),x∈xs->Shape.fitsL [Shape.agg [Shape.int u8,Shape.str,Shape.slice,
 Shape.int u8,Shape.any,Shape.str,Shape.int i64,Shape.slice]] x=true)/\∃(I:IT),I [] [cs] [] m' 0/\(∀(n:Int)(s:ByteArray)(a:Option Addr)(ae c:Nat)(av:Int)(v:Value)(bb:ByteArray)(bc:Int)
 (bd:Option Addr) (be bf:Nat) (cs:List Value) (ad:Mem) (ay:Nat),lV [int u8 av,v,string bb,int i64 bc,slice bd be bf] λxL=>lV (int u8 n::string s::slice a ae c::xL) λaw=>m'.le ad->
 List.get?Internal xs ay=some [agg (Array.mk aw)]->I [] [cs] [] ad ay->∀(b:Nat),lE (some (Box.mk b aw 54 8 false true)::au) λan=>chk (v.oneCell'&&true) (br (n == (3:Int)) (∃(R:RT),True/\CX
 Tryz.prog 68 (Array.mk (agg (Array.mk xL)::aq)) ad [Box.mk ao cs 75 6 false true] R/\ZbC (Shape.tup []) R/\∀(m':Mem),ad.le m'->∀(cs:List Value),R (tuple (Array.mk [])) m' [cs]->∃(aa:IT),inI aa
 [int i64 0] [cs] [] m'/\∀(n:Int)(cs:List Value)(ab:Mem)(af:Nat),lV [int i64 (i64.wrap (n+(1:Int)))] λxL=>m'.le ab->aa [int i64 n] [cs] [] ab af->br (decide (n < (↑ae:Int))) (atA a
 λb o=>Zad n ae/\∃v ac al am ag ah ai aj:Value,lV [am,ag,ah,ai,aj] λap=>lE (Za9 u8 v&&decide (u8 =
 u8)) λyL=>ab.reads b (o+Int.toNat n*8) (v::ac::al::ap)/\∀(b:Nat),chk (v.oneCell'&&(ac.oneCell'&&(al.oneCell'&&(am.oneCell'&&(ag.oneCell'&&(ah.oneCell'&&(ai.oneCell'&&(aj.oneCell'&&true)))))))) (chk yL (br (!RowKit.intOf v == (1:Int)) (Eng.Zth cs 3 λak=>lV (ZaF cs 3 [int i64 (i64.wrap (RowKit.intOf ak+(1:Int)))]) λax=>
 chk (Za9 i64 ak&&decide (i64=i64)) (chk (Nat.ble 4 (cs.length)) (chk yL (br (RowKit.intOf v == (4:Int)) (∃(R:RT),True/\CX Tryz.prog 68 (Array.mk (agg (Array.mk ap)::aq)) ab [Box.mk ao ax 75 6 false
 true] R/\ZbC (Shape.tup []) R/\∀(m':Mem),ab.le m'->∀(cs:List Value),R (tuple (Array.mk [])) m' [cs]->Zac an/\nxI af aa xL [cs] [] m') (Zac an/\nxI af aa xL [ax] [] ab))))) (chk yL (br
 (RowKit.intOf v == (4:Int)) (∃(R:RT),True/\CX Tryz.prog 68 (Array.mk (agg (Array.mk ap)::aq)) ab [Box.mk ao cs 75 6 false true] R/\ZbC (Shape.tup []) R/\∀(m':Mem),ab.le m'->∀(cs:List Value),R
 (tuple (Array.mk [])) m' [cs]->Zac an/\nxI af aa xL [cs] [] m') (Zac an/\nxI af aa xL [cs] [] ab)))))) (Zac au/\I [] [cs] [] ab (ay+1))) (∃(aa:IT),inI aa [int i64 0] [cs] [] ad/\∀(n:Int) (cs:
 List Value) (m':Mem) (af:Nat),lV [int i64 (i64.wrap (n+(1:Int)))] λxL=>ad.le m'->aa [int i64 n] [cs] [] m' af->br (decide (n < (↑ae:Int))) (atA a λb o=>Zad n ae/\∃v ac al am ag ah ai aj:Value,lV [am,ag,ah,ai,aj] λap=>lE (Za9 u8 v&&decide (u8=u8)) λyL=>m'.reads b (o+Int.toNat
 n*8) (v::ac::al::ap)/\∀(b:Nat),chk (v.oneCell'&&(ac.oneCell'&&(al.oneCell'&&(am.oneCell'&&(ag.oneCell'&&(ah.oneCell'&&(ai.oneCell'&&(aj.oneCell'
 && true)))))))) (chk yL (br (!RowKit.intOf v == (1:Int)) (Eng.Zth cs 3 λak=>lV (ZaF cs 3 [int i64 (i64.wrap (RowKit.intOf ak+(1:Int)))]) λax=>chk (Za9 i64 ak&&decide (i64=i64)) (chk
 (Nat.ble 4 (cs.length)) (chk yL (br (RowKit.intOf v == (4:Int)) (∃(R:RT),True/\CX Tryz.prog 68 (Array.mk (agg (Array.mk ap)::aq)) m' [Box.mk ao ax 75 6 false true] R/\ZbC (Shape.tup []) R/\∀(ab:Mem),
 m'.le ab->∀(cs:List Value),R (tuple (Array.mk [])) ab [cs]->Zac an/\nxI af aa xL [cs] [] ab) (Zac an/\nxI af aa xL [ax] [] m'))))) (chk yL (br (RowKit.intOf v == (4:Int)) (∃(R:RT),True/\CX
 Tryz.prog 68 (Array.mk (agg (Array.mk ap)::aq)) m' [Box.mk ao cs 75 6 false true] R/\ZbC (Shape.tup []) R/\∀(ab:Mem),m'.le ab->∀(cs:List Value),R (tuple (Array.mk [])) ab [cs]->Zac an/\nxI af aa
 xL [cs] [] ab) (Zac an/\nxI af aa xL [cs] [] m')))))) (Zac au/\I [] [cs] [] m' (ay+1)))))/\∀(cs:List Value)(ad:Mem),m'.le ad->I [] [cs] [] ad (xs.length)->chk (Nat.beq (cs.length) 6 &&
 Zey cs) (rtM m ad R (agg (Array.mk cs)))))):CX Tryz.prog 21 #[.agg #[.int .i64 aA,.slice aW aP aX,.slice aN aJ aV]] m [] R:=
 Zae (E:=ZpK) Zao mix Tryz.func21 (by kernel_rfl) (Eq.mp (by kernel_rfl) h)
end Go.Proofs.YtpjepnkiiojgfaaGreat
namespace Go.Proofs.YtpjepnkiiojgfaaGreat
open Go Go.Eng Go.Rx Go.Proofs Go.RowKit
set_option maxRecDepth 100000
theorem ZAE(a b:Int):Value.int .i64 (IntKind.i64.wrap (RowKit.intOf (Value.int .i64 (w64 a))+b))=.int .i64 (w64 (a+b)):=by
 show Value.int .i64 (IntKind.i64.wrap (w64 a+b))=_
 rw[ZqA]
theorem ZlP(e:E)(m:Mem)(hr:RepE m e):CX Tryz.prog 69 #[e.v] m [] (Ret (.int .i64 (w64 (ZnO e)))):=by
 apply Zff
 intro b m1 aE _ b2
 refine Zah (ZcR e m1 (hr.mono' aE)) λm2 aK=>?_
 have cR:=mLt aE aK
 refine Zab (λhl=>?_) (λhl=>Zaf cR (by show Value.int _ _=Value.int _ _;unfold ZnO;rw[hl,if_neg (by decide),W_0]))
 refine Zan (Zfb e m2) (λv m' css h=>by obtain⟨_,rfl,_⟩:=h;rfl) ?_
 rintro g fi ca m3 aQ ⟨b3,hv,gl⟩
 obtain⟨rfl,rfl,rfl⟩:=Zcp hv
 have dQ:=mLt cR aQ
 refine⟨_,ZdK e m3 b3 gl (hr.mono' dQ),λy hy=>?_,λ_ css _ m' q=>css=[[.int .i64 (w64 (ZlZ ZyG (e.nodes.take q)))]]/\q<=e.nodes.length,⟨by rw[List.take_zero,ZtM,W_0],by omega⟩,?_,?_⟩
 ·obtain⟨z,_,rfl⟩:=List.mem_map.1 hy;exact Zku z
 ·rintro n0 v0 s0 n3 a n7 c cs m4 q bZ hq ⟨bN,gZ⟩ b4
  obtain rfl:cs=[.int .i64 (w64 (ZlZ ZyG (e.nodes.take q)))]:=by simpa using bN
  have hq':(List.map (λz:E=>[z.v]) e.nodes)[(q:Nat)]?=some [Value.agg #[.int .u8 n0,v0,.string s0,.int .i64 n3,.slice a n7 c]]:=hq
  rw[List.getElem?_map]at hq'
  obtain⟨z,hz,ic⟩:=Option.map_eq_some_iff.1 hq'
  have pB:q < e.nodes.length:=(zA0 hz).1
  simp only[E.v,List.cons.injEq,Value.agg.injEq,Array.mk.injEq,Value.int.injEq,Value.string.injEq,Value.slice.injEq,true_and,and_true]at ic
  obtain⟨rfl,rfl,rfl,rfl,rfl,rfl,rfl⟩:=ic
  have bW:=ZuW ZyG hz
  refine Zaa rfl (Zco (ZxK z.k m4) λm5 cO=>Zab (λh=>Zal rfl (Zaa rfl ⟨rfl,?_,by omega⟩)) (λh=>⟨rfl,?_,by omega⟩))
  ·have h:ZyG z=true:=h
   rw[h,if_pos rfl]at bW
   rw[ZAE,bW]
  ·have h:ZyG z=false:=h
   rw[h,if_neg (by decide),Int.add_zero]at bW
   rw[bW]
 ·rintro cs m4 bZ ⟨bN,_⟩
  rw[List.length_map,List.take_length]at bN
  obtain rfl:cs=[.int .i64 (w64 (ZlZ ZyG e.nodes))]:=by simpa using bN
  refine Zal rfl (Zaf (mLt dQ bZ) ?_)
  show Value.int _ _=Value.int _ _
  unfold ZnO;rw[hl,if_pos rfl]
theorem Zrf(t:E)(m:Mem)(hr:RepE m t):CX Tryz.prog 70 #[t.v] m [] (Ret (.int .i64 (w64 (vrE t)))):=by
 apply Zox
 intro b m1 aE _
 have hn:vrE t=(if Zy2 t then 1 else 0)+ZlZ Zy2 (Zam t.subs):=by unfold vrE;rw[Zbg,Zjh]
 obtain⟨nD,aB⟩:=Zeo (hr.mono' aE)
 refine⟨Zy2 t,Zab (λh=>⟨rfl,?_⟩) (λh=>⟨rfl,?_⟩),?_⟩
 ·have h:(t.k == 9)=true:=h
  show[Value.bool true]=[Value.bool (t.k == 9||t.k == 10)];rw[h];rfl
 ·have h:(t.k == 9)=false:=h
  show[Value.bool (t.k == 10)]=[Value.bool (t.k == 9||t.k == 10)];rw[h];rfl
 refine Zab (λh=>?_) (λh=>?_)
 ·refine⟨λxs _ _ m'' q=>∃i:Nat,i<=t.subs.length/\xs=[.int .i64 (w64 (1+ZlZ Zy2 (Zam (t.subs.take i)))),.int .i64 i]/\m1.le m''/\q=t.subs.length - i,⟨t.subs.length,0,by omega,?_,Mem.le_refl _,by omega⟩,?_⟩
  ·show[Value.int .i64 _,Value.int .i64 0]=[Value.int .i64 (w64 (1+0)),Value.int .i64 0]
   rw[show w64 (1+0)=w64 1 from rfl,show IntKind.i64.wrap (0+1)=w64 1 from rfl]
  rintro y n m2 q aK ⟨i,hi,cK,eU,hq⟩
  simp only[List.cons.injEq,Value.int.injEq,true_and,and_true]at cK
  obtain⟨rfl,rfl⟩:=cK
  refine ZaG (λaC=>?_) (λbL=>?_)
  ·have aI:i < t.subs.length:=by have:(i:Int) < (t.subs.length:Nat):=aC;omega
   obtain⟨x,hx⟩:∃x,t.subs[i]?=some x:=⟨_,zA3 aI⟩
   have bE:=ZgF (zA2 hx)
   obtain h0|⟨b1,o1,ha,eT⟩:=aB
   ·rw[h0]at aI;simp at aI
   obtain⟨dJ,dW⟩:=(eT.mono' eU).get hx
   refine⟨b1,o1,ha,⟨by omega,by omega⟩,_,_,_,_,_,dJ,λb2=>Zaa rfl (Zco (Zrf x m2 dW) λm3 aQ=>⟨rfl,t.subs.length - (i+1),by omega,i+1,by omega,?_,mLt eU aQ,rfl⟩)⟩
   rw[ZqA,ZwY,Zep hx,ZqB,Zak (n:=(i:Int)+1) (by omega) (by omega),Int.add_assoc]
   rfl
  ·have hi':i=t.subs.length:=by have:¬(i:Int) < (t.subs.length:Nat):=bL;omega
   subst hi'
   refine Zaf (mLt aE eU) ?_
   show Value.int _ _=Value.int _ _
   rw[hn,List.take_length,h,if_pos rfl]
 ·refine⟨λxs _ _ m'' q=>∃i:Nat,i<=t.subs.length/\xs=[.int .i64 (w64 (0+ZlZ Zy2 (Zam (t.subs.take i)))),.int .i64 i]/\m1.le m''/\q=t.subs.length - i,⟨t.subs.length,0,by omega,?_,Mem.le_refl _,by omega⟩,?_⟩
  ·show[Value.int .i64 _,Value.int .i64 0]=[Value.int .i64 (w64 (0+0)),Value.int .i64 0]
   rw[show(0:Int)+0=0 from rfl,W_0]
  rintro y n m2 q aK ⟨i,hi,cK,eU,hq⟩
  simp only[List.cons.injEq,Value.int.injEq,true_and,and_true]at cK
  obtain⟨rfl,rfl⟩:=cK
  refine ZaG (λaC=>?_) (λbL=>?_)
  ·have aI:i < t.subs.length:=by have:(i:Int) < (t.subs.length:Nat):=aC;omega
   obtain⟨x,hx⟩:∃x,t.subs[i]?=some x:=⟨_,zA3 aI⟩
   have bE:=ZgF (zA2 hx)
   obtain h0|⟨b1,o1,ha,eT⟩:=aB
   ·rw[h0]at aI;simp at aI
   obtain⟨dJ,dW⟩:=(eT.mono' eU).get hx
   refine⟨b1,o1,ha,⟨by omega,by omega⟩,_,_,_,_,_,dJ,λb2=>Zaa rfl (Zco (Zrf x m2 dW) λm3 aQ=>⟨rfl,t.subs.length - (i+1),by omega,i+1,by omega,?_,mLt eU aQ,rfl⟩)⟩
   rw[ZqA,ZwY,Zep hx,ZqB,Zak (n:=(i:Int)+1) (by omega) (by omega),Int.add_assoc]
   rfl
  ·have hi':i=t.subs.length:=by have:¬(i:Int) < (t.subs.length:Nat):=bL;omega
   subst hi'
   refine Zaf (mLt aE eU) ?_
   show Value.int _ _=Value.int _ _
   rw[hn,List.take_length,h,if_neg (by decide)]
termination_by SizeOf.sizeOf t
decreasing_by all_goals exact bE
theorem Zhu(s:Sc)(m:Mem):CX Tryz.prog 71 #[s.v] m [] (λv m' _=>∃b,v=.func (.func 105) #[] #[.pointer (some ⟨b,0,none⟩)]/\m'.reads b 0 s.cs):=by
 apply Zh2
 intro b m' hm hb
 exact⟨m',hm,Mem.le_refl _,b,rfl,hb⟩
theorem ZfQ(s:Sc)(m:Mem)(c0b:Nat)(hr:RepC m s)(hb:m.reads c0b 0 s.cs):IX Tryz.prog 105 [] [.pointer (some ⟨c0b,0,none⟩)] m ((Zb3 s).map λa=>[.agg a.cs.toArray]):=by
 apply Zf7 0 [] [] c0b 0
 intro l
 have eR:s.states.length<=100000:=hr.len
 refine⟨.slice s.sa s.states.length s.sc,hb 2 _ rfl,Zaa rfl ⟨λxs _ _ m' q=>∃i:Nat,i<=s.states.length/\xs=[.int .i64 (((s.states.take i).flatMap Zge).length:Nat),.int .i64 i]/\q=s.states.length - i,⟨s.states.length,0,by omega,rfl,rfl⟩,?_⟩⟩
 rintro y n m1 q aE ⟨i,hi,hx,rfl⟩
 simp only[List.cons.injEq,Value.int.injEq,true_and,and_true]at hx
 obtain⟨rfl,rfl⟩:=hx
 have hw:IntKind.i64.wrap ((i:Int)+1)=((i+1:Nat):Int):=by rw[Zak (by omega) (by omega)];rfl
 refine ZaG (λaC=>?_) (λbL=>.inl ?_)
 ·have aC:(i:Int) < (s.states.length:Nat):=aC
  obtain⟨x,hx⟩:=Zaq (show i < s.states.length by omega)
  have mq:=zA2 hx
  obtain⟨b1,o1,fH,dJ⟩:=Zai Sta.len (hr.mono aE).row hx (by omega)
  have cK:=(hr.mono aE).all x mq
  have lq:x.rules.length<=100000:=cK.len
  refine Zaa rfl ⟨b1,o1,fH,⟨by omega,aC⟩,_,_,dJ,λb2=>Zaa rfl (Zaa rfl ⟨λxs _ _ m' q=>∃k:Nat,k<=x.rules.length/\xs=[.int .i64 (((s.states.take i).flatMap Zge).length+((x.rules.take k).flatMap (·.acts)).length:Nat),.int .i64 k]/\q=x.rules.length - k,⟨x.rules.length,0,by omega,rfl,rfl⟩,?_⟩)⟩
  rintro y n2 m2 q2 aK ⟨k,hk,gX,rfl⟩
  simp only[List.cons.injEq,Value.int.injEq,true_and,and_true]at gX
  obtain⟨rfl,rfl⟩:=gX
  have iV:IntKind.i64.wrap ((k:Int)+1)=((k+1:Nat):Int):=by rw[Zak (by omega) (by omega)];rfl
  refine ZaG (λdO=>?_) (λdX=>?_)
  ·have dO:(k:Int) < (x.rules.length:Nat):=dO
   obtain⟨r,eG⟩:=Zaq (show k < x.rules.length by omega)
   obtain⟨b3,o3,fu,gE⟩:=Zai Ru.len (cK.mono aK).row eG (by omega)
   have eX:=(cK.mono aK).all r (zA2 eG)
   have oB:r.acts.length<=100000:=eX.len
   refine Zaa rfl ⟨b3,o3,fu,⟨by omega,dO⟩,_,_,_,_,_,_,_,_,_,_,_,_,_,_,_,_,gE,λb4=>Zaa rfl (Zaa rfl ⟨λxs _ _ m' q=>∃j:Nat,j<=r.acts.length/\xs=[.int .i64 (((s.states.take i).flatMap Zge).length+(((x.rules.take k).flatMap (·.acts)).length+j):Nat),.int .i64 j]/\q=r.acts.length - j,⟨r.acts.length,0,by omega,rfl,rfl⟩,?_⟩)⟩
   rintro y n3 m3 q3 aQ ⟨j,hj,lu,rfl⟩
   simp only[List.cons.injEq,Value.int.injEq,true_and,and_true]at lu
   obtain⟨rfl,rfl⟩:=lu
   have ku:IntKind.i64.wrap ((j:Int)+1)=((j+1:Nat):Int):=by rw[Zak (by omega) (by omega)];rfl
   refine ZaG (λfg=>?_) (λgD=>?_)
   ·have fg:(j:Int) < (r.acts.length:Nat):=fg
    obtain⟨a,ha⟩:=Zaq (show j < r.acts.length by omega)
    obtain⟨b5,o5,ly,iO⟩:=Zai Ac.len (eX.mono aQ).row ha (by omega)
    refine Zaa rfl ⟨b5,o5,ly,⟨by omega,fg⟩,_,_,_,_,_,_,_,_,iO,λb6=>Zaa rfl ⟨⟨rfl,Int.natCast_nonneg _,?_⟩,⟨rfl,r.acts.length - (j+1),by omega,j+1,by omega,by rw[ku];rfl,rfl⟩,.inr rfl⟩⟩
    show(List.map (λa:Ac=>[Value.agg a.cs.toArray]) (Zb3 s))[((((s.states.take i).flatMap Zge).length+(((x.rules.take k).flatMap (·.acts)).length+j):Nat):Int).toNat]?=some [Value.agg a.cs.toArray]
    rw[zA8,List.getElem?_map,show(Zb3 s)[_]?=some a from ZtN Zge hx (ZtN (·.acts) eG ha)];rfl
   ·have gD:¬(j:Int) < (r.acts.length:Nat):=gD
    have:j=r.acts.length:=by omega
    subst this
    refine⟨rfl,x.rules.length - (k+1),by omega,k+1,by omega,?_,rfl⟩
    rw[ZnP (·.acts) eG,zA1,iV]
  ·have dX:¬(k:Int) < (x.rules.length:Nat):=dX
   have:k=x.rules.length:=by omega
   subst this
   refine⟨s.states.length - (i+1),by omega,i+1,by omega,?_,rfl⟩
   rw[ZnP Zge hx,zA1,List.take_length,hw];rfl
 ·have bL:¬(i:Int) < (s.states.length:Nat):=bL
  have:i=s.states.length:=by omega
  subst this
  rw[List.take_length,List.length_map];rfl
theorem Zmq(e:E)(a b c d f g:Int)(c0b:Nat)(m:Mem)(hr:RepE m e):CX Tryz.prog 68 #[e.v,.pointer (some ⟨c0b,0,none⟩)] m [⟨c0b,msV a b c d (w64 f) (w64 g),75,6,false,true⟩] (λv _ css=>v=.tuple #[]/\css=[msV a b c d (w64 (f+ZnO e)) (w64 (g+vrE e))]):=by
 apply ZjP
 intro b1 m1 aE _
 refine⟨λ_ _ _=>Ret (.int .i64 (w64 (ZnO e))),_,rfl,ZlP e m1 (hr.mono' aE),(λv _ _ h=>by rw[show v=_ from h];rfl),?_⟩
 intro n m2 aK hv M gm fy
 obtain rfl:n=w64 (ZnO e):=by simpa using(show Value.int .i64 n=Value.int .i64 _ from hv)
 refine⟨λ_ _ _=>Ret (.int .i64 (w64 (vrE e))),_,rfl,Zrf e M (hr.mono' (mLt aE gm)),(λv _ _ h=>by rw[show v=_ from h];rfl),?_⟩
 intro n2 m3 aQ xE M2 fw gJ
 obtain rfl:n2=w64 (vrE e):=by simpa using(show Value.int .i64 n2=Value.int .i64 _ from xE)
 refine⟨rfl,m,Mem.le_refl _,mLt aE (mLt gm fw),rfl,?_⟩
 rw[ZuV,ZuV,<-ZqA f,<-ZqA g]
 show[[_,_,_,_,Value.int .i64 (w64 (w64 f+ZnO e)),Value.int .i64 (w64 (w64 g+vrE e))]]=_
 rfl
set_option maxHeartbeats 1000000 in
theorem Zmr(s:Sc)(m:Mem)(hr:RepC m s):CX Tryz.prog 21 #[s.v] m [] (Ret (.agg (Zir s).toArray)):=by
 apply Zoy
 intro b m1 aE _ b1 b2
 have eR:s.states.length<=100000:=hr.len
 refine Zah (Zb9 s m1 (hr.mono aE)) λm2 aK=>?_
 have cR:=mLt aE aK
 refine Zab (λhl=>Zaf cR ?_) (λhl=>?_)
 ·have hl:s.light=false:=by simpa using hl
  show Value.agg _=Value.agg _
  unfold Zir;rw[hl];rfl
 have hl:s.light=true:=by simpa using hl
 refine⟨λxs css _ m' q=>∃i:Nat,i<=s.states.length/\xs=[.int .i64 i]/\css=[msV s.states.length (w64 (ZaB ((s.states.take i).map ruS))) (w64 (ZaB ((s.states.take i).map rgS))) 0 0 0]/\q=s.states.length - i,⟨s.states.length,0,by omega,rfl,?_,rfl⟩,?_⟩
 ·show[_]=[msV _ (w64 0) (w64 0) 0 0 0]
  rw[W_0];rfl
 rintro z cs m3 q aQ ⟨i,hi,hz,bN,rfl⟩
 obtain rfl:z=i:=by simpa using hz
 obtain rfl:=(List.cons.inj bN).1
 have dQ:=mLt cR aQ
 have jG:IntKind.i64.wrap ((i:Int)+1)=((i+1:Nat):Int):=by rw[Zak (by omega) (by omega)];rfl
 refine ZaG (λaC=>?_) (λbL=>?_)
 ·have aC:(i:Int) < (s.states.length:Nat):=aC
  obtain⟨x,hx⟩:=Zaq (show i < s.states.length by omega)
  obtain⟨b3,o3,fu,dJ⟩:=Zai Sta.len (hr.mono dQ).row hx (by omega)
  have cK:=(hr.mono dQ).all x (zA2 hx)
  have lq:x.rules.length<=100000:=cK.len
  have g1:=Za8 ruS hx
  have g2:=Za8 rgS hx
  refine⟨b3,o3,fu,⟨by omega,aC⟩,_,_,dJ,λb4=>Zaa rfl (Zal rfl (Zaa rfl (Zaa rfl (Zaa rfl (Zaa rfl ?_)))))⟩
  refine⟨λxs css _ m' q=>∃k:Nat,k<=x.rules.length/\xs=[.int .i64 k]/\css=[msV s.states.length (w64 (ZaB ((s.states.take (i+1)).map ruS))) (w64 (ZaB ((s.states.take i).map rgS)+ZaB ((x.rules.take k).map rgR))) 0 0 0]/\q=x.rules.length - k,⟨x.rules.length,0,by omega,rfl,?_,rfl⟩,?_⟩
  ·show[_]=[msV _ _ (w64 (_+0)) 0 0 0]
   rw[g1,<-ZqA,Int.add_zero];rfl
  rintro z cs m4 q bZ ⟨k,hk,hz,bN,rfl⟩
  obtain rfl:z=k:=by simpa using hz
  obtain rfl:=(List.cons.inj bN).1
  have iV:IntKind.i64.wrap ((k:Int)+1)=((k+1:Nat):Int):=by rw[Zak (by omega) (by omega)];rfl
  refine ZaG (λdO=>?_) (λdX=>⟨rfl,s.states.length - (i+1),by omega,i+1,by omega,by rw[jG],?_,rfl⟩)
  ·have dO:(k:Int) < (x.rules.length:Nat):=dO
   obtain⟨r,eG⟩:=Zaq (show k < x.rules.length by omega)
   obtain⟨b5,o5,ly,gE⟩:=Zai Ru.len (cK.mono bZ).row eG (by omega)
   have eX:=(cK.mono bZ).all r (zA2 eG)
   have g3:=Za8 rgR eG
   refine Zaa rfl ⟨b5,o5,ly,⟨by omega,dO⟩,_,_,_,_,_,_,_,_,_,_,_,_,_,_,_,_,gE,λb6=>Zaa rfl (Zaa rfl (Zab (λh1=>?_) (λh1=>⟨rfl,x.rules.length - (k+1),by omega,k+1,by omega,by rw[iV],?_,rfl⟩)))⟩
   ·have h1':r.k=1:=by have h1:(r.k == (1:Int))=true:=h1;simpa using h1
    refine⟨λ_ _ _=>Ret (.int .i64 r.t.size),Zal rfl ⟨_,rfl,Zt2 r.t m4 eX.t,(λv _ _ h=>by rw[show v=_ from h];rfl),?_⟩⟩
    intro n m5 cO hv
    obtain rfl:n=r.t.size:=by simpa using(show Value.int .i64 n=Value.int .i64 _ from hv)
    refine Zaa rfl (Zaa rfl λM hM _=>⟨rfl,x.rules.length - (k+1),by omega,k+1,by omega,by rw[iV],?_,rfl⟩)
    rw[g3,show rgR r=r.t.size from if_pos h1',<-Int.add_assoc,Zpp (ZaB ((s.states.take i).map rgS)+ZaB ((x.rules.take k).map rgR)) r.t.size]
    rfl
   ·have h1':¬r.k=1:=by have h1:(r.k == (1:Int))=false:=h1;simpa using h1
    rw[g3,show rgR r=0 from if_neg h1',Int.add_zero]
  ·have dX:¬(k:Int) < (x.rules.length:Nat):=dX
   have:k=x.rules.length:=by omega
   subst this
   rw[List.take_length,g2];rfl
 have bL:¬(i:Int) < (s.states.length:Nat):=bL
 have:i=s.states.length:=by omega
 subst this
 rw[List.take_length]
 intro b3
 refine Zan (Zhu s m3) (λv m' css h=>by obtain⟨_,rfl,_⟩:=h;rfl) ?_
 rintro g fi ca m4 bZ ⟨b4,hv,oz⟩
 obtain⟨rfl,rfl,rfl⟩:=Zcp hv
 have gB:=mLt dQ bZ
 refine⟨_,ZfQ s m4 b4 (hr.mono gB) oz,λy hy=>?_,λ_ css _ m' q=>css=[msV s.states.length (w64 (ms1 s)) (w64 (ms2 s)) (w64 (ZaB (((Zb3 s).take q).map paA))) (w64 (ZaB (((Zb3 s).take q).map ZqC))) (w64 (ZaB (((Zb3 s).take q).map vrA)))]/\q<=(Zb3 s).length,⟨?_,by omega⟩,?_,?_⟩
 ·obtain⟨z,_,rfl⟩:=List.mem_map.1 hy;rfl
 ·show[_]=[msV _ _ _ (w64 0) (w64 0) (w64 0)]
  rw[W_0];rfl
 ·rintro k0 s0 pa pn pc ek ev es eg ea en ec cs m5 q cO hq ⟨bN,gZ⟩ b6
  obtain rfl:=(List.cons.inj bN).1
  have hq':(List.map (λa:Ac=>[Value.agg a.cs.toArray]) (Zb3 s))[(q:Nat)]?=some [Value.agg #[.int .u8 k0,.string s0,.slice pa pn pc,.int .u8 ek,ev,.string es,.int .i64 eg,.slice ea en ec]]:=hq
  rw[List.getElem?_map]at hq'
  obtain⟨a,mG,ic⟩:=Option.map_eq_some_iff.1 hq'
  have pB:q < (Zb3 s).length:=(zA0 mG).1
  simp only[Ac.cs,List.cons.injEq,Value.agg.injEq,Array.mk.injEq,Value.int.injEq,Value.string.injEq,Value.slice.injEq,true_and,and_true]at ic
  obtain⟨rfl,rfl,⟨rfl,rfl,rfl⟩,rfl,rfl,rfl,rfl,rfl,rfl,rfl⟩:=ic
  have iz:=mLt gB cO
  have iO:=ZuX hr (zA2 mG)
  have jD:a.parts.length<=100000:=iO.n
  generalize mV:ZaB (((Zb3 s).take q).map paA)=P0
  generalize vj:ZaB (((Zb3 s).take q).map ZqC)=O0
  generalize tu:ZaB (((Zb3 s).take q).map vrA)=V0
  refine Zaa rfl (Zab (λh3=>?_) (λh3=>?_))
  ·have h3':a.k=3:=by simpa using h3
   refine⟨_,trivial,Zmq a.e s.states.length (w64 (ms1 s)) (w64 (ms2 s)) (w64 P0) O0 V0 _ m5 (iO.mono iz).e,(λv _ _ h=>by rw[h.1];rfl),λm6 eY cs hv=>?_⟩
   rw[hv.2]
   have tD:=mLt iz eY
   refine⟨λxs css _ m' q=>∃k:Nat,k<=a.parts.length/\xs=[.int .i64 k]/\css=[msV s.states.length (w64 (ms1 s)) (w64 (ms2 s)) (w64 (P0+ZaB ((a.parts.take k).map paP))) (w64 (O0+ZnO a.e+ZaB ((a.parts.take k).map ZoL))) (w64 (V0+vrE a.e+ZaB ((a.parts.take k).map vrP)))]/\q=a.parts.length - k,⟨a.parts.length,0,by omega,rfl,?_,rfl⟩,?_⟩
   ·show[_]=[msV _ _ _ (w64 (P0+0)) (w64 (O0+ZnO a.e+0)) (w64 (V0+vrE a.e+0))]
    simp only[Int.add_zero]
   rintro z cs m6 q eY ⟨k,hk,hz,bN,rfl⟩
   obtain rfl:z=k:=by simpa using hz
   obtain rfl:=(List.cons.inj bN).1
   have gC:=mLt tD eY
   have iV:IntKind.i64.wrap ((k:Int)+1)=((k+1:Nat):Int):=by rw[Zak (by omega) (by omega)];rfl
   refine ZaG (λaC=>?_) (λbL=>⟨rfl,?_,by omega⟩)
   ·have aC:(k:Int) < (a.parts.length:Nat):=aC
    obtain⟨p,hp⟩:=Zaq (show k < a.parts.length by omega)
    obtain⟨b8,o8,nP,ib⟩:=Zai Pt.len (iO.mono gC).row hp (by omega)
    have kZ:=(iO.mono gC).all p (zA2 hp)
    have g1:=Za8 paP hp
    have g2:=Za8 ZoL hp
    have g3:=Za8 vrP hp
    refine⟨b8,o8,nP,⟨by omega,aC⟩,_,_,_,_,_,_,_,_,ib,λb9=>Zaa rfl (Zaa rfl (Zab (λh1=>Zal rfl (Zaa rfl (Zaa rfl (Zaa rfl (Zab (λh4=>?_) (λh4=>?_)))))) (λh1=>Zaa rfl (Zab (λh4=>?_) (λh4=>?_)))))⟩
    ·have h1':¬p.k=1:=by have h1:(!(p.k == (1:Int)))=true:=h1;simpa using h1
     have h4':p.k=4:=by have h4:(p.k == (4:Int))=true:=h4;simpa using h4
     refine⟨_,trivial,Zmq p.e s.states.length (w64 (ms1 s)) (w64 (ms2 s)) (IntKind.i64.wrap (RowKit.intOf (Value.int .i64 (w64 (P0+ZaB ((a.parts.take k).map paP))))+1)) _ _ _ m6 kZ.e,(λv _ _ h=>by rw[h.1];rfl),λm7 fD cs hv=>⟨rfl,a.parts.length - (k+1),by omega,k+1,by omega,by rw[iV],?_,rfl⟩⟩
     rw[hv.2,g1,g2,g3,show paP p=1 from if_neg h1',show ZoL p=ZnO p.e from if_pos h4',show vrP p=vrE p.e from if_pos h4',<-Int.add_assoc,<-Int.add_assoc,<-Int.add_assoc,Zpp (P0+ZaB ((a.parts.take k).map paP)) 1]
     rfl
    ·have h1':¬p.k=1:=by have h1:(!(p.k == (1:Int)))=true:=h1;simpa using h1
     have h4':¬p.k=4:=by have h4:(p.k == (4:Int))=false:=h4;simpa using h4
     refine⟨rfl,a.parts.length - (k+1),by omega,k+1,by omega,by rw[iV],?_,rfl⟩
     rw[g1,g2,g3,show paP p=1 from if_neg h1',show ZoL p=0 from if_neg h4',show vrP p=0 from if_neg h4',Int.add_zero,Int.add_zero,<-Int.add_assoc,Zpp (P0+ZaB ((a.parts.take k).map paP)) 1]
     rfl
    ·have h1':p.k=1:=by have h1:(!(p.k == (1:Int)))=false:=h1;simpa using h1
     have h4':p.k=4:=by have h4:(p.k == (4:Int))=true:=h4;simpa using h4
     omega
    ·have h1':p.k=1:=by have h1:(!(p.k == (1:Int)))=false:=h1;simpa using h1
     have h4':¬p.k=4:=by have h4:(p.k == (4:Int))=false:=h4;simpa using h4
     refine⟨rfl,a.parts.length - (k+1),by omega,k+1,by omega,by rw[iV],?_,rfl⟩
     rw[g1,g2,g3,show paP p=0 from if_pos h1',show ZoL p=0 from if_neg h4',show vrP p=0 from if_neg h4',Int.add_zero,Int.add_zero,Int.add_zero]
   ·have bL:¬(k:Int) < (a.parts.length:Nat):=bL
    have:k=a.parts.length:=by omega
    subst this
    have e2:ZqC a=ZnO a.e+ZaB (a.parts.map ZoL):=by unfold ZqC;rw[if_pos h3']
    have e3:vrA a=vrE a.e+ZaB (a.parts.map vrP):=by unfold vrA;rw[if_pos h3']
    rw[List.take_length,Za8 paA mG,Za8 ZqC mG,Za8 vrA mG,mV,vj,tu,e2,e3]
    rw[<-Int.add_assoc,<-Int.add_assoc]
    rfl
  ·have h3':¬a.k=3:=by simpa using h3
   refine⟨λxs css _ m' q=>∃k:Nat,k<=a.parts.length/\xs=[.int .i64 k]/\css=[msV s.states.length (w64 (ms1 s)) (w64 (ms2 s)) (w64 (P0+ZaB ((a.parts.take k).map paP))) (w64 (O0+ZaB ((a.parts.take k).map ZoL))) (w64 (V0+ZaB ((a.parts.take k).map vrP)))]/\q=a.parts.length - k,⟨a.parts.length,0,by omega,rfl,?_,rfl⟩,?_⟩
   ·show[_]=[msV _ _ _ (w64 (P0+0)) (w64 (O0+0)) (w64 (V0+0))]
    simp only[Int.add_zero]
   rintro z cs m6 q eY ⟨k,hk,hz,bN,rfl⟩
   obtain rfl:z=k:=by simpa using hz
   obtain rfl:=(List.cons.inj bN).1
   have gC:=mLt iz eY
   have iV:IntKind.i64.wrap ((k:Int)+1)=((k+1:Nat):Int):=by rw[Zak (by omega) (by omega)];rfl
   refine ZaG (λaC=>?_) (λbL=>⟨rfl,?_,by omega⟩)
   ·have aC:(k:Int) < (a.parts.length:Nat):=aC
    obtain⟨p,hp⟩:=Zaq (show k < a.parts.length by omega)
    obtain⟨b8,o8,nP,ib⟩:=Zai Pt.len (iO.mono gC).row hp (by omega)
    have kZ:=(iO.mono gC).all p (zA2 hp)
    have g1:=Za8 paP hp
    have g2:=Za8 ZoL hp
    have g3:=Za8 vrP hp
    refine⟨b8,o8,nP,⟨by omega,aC⟩,_,_,_,_,_,_,_,_,ib,λb9=>Zaa rfl (Zaa rfl (Zab (λh1=>Zal rfl (Zaa rfl (Zaa rfl (Zaa rfl (Zab (λh4=>?_) (λh4=>?_)))))) (λh1=>Zaa rfl (Zab (λh4=>?_) (λh4=>?_)))))⟩
    ·have h1':¬p.k=1:=by have h1:(!(p.k == (1:Int)))=true:=h1;simpa using h1
     have h4':p.k=4:=by have h4:(p.k == (4:Int))=true:=h4;simpa using h4
     refine⟨_,trivial,Zmq p.e s.states.length (w64 (ms1 s)) (w64 (ms2 s)) (IntKind.i64.wrap (RowKit.intOf (Value.int .i64 (w64 (P0+ZaB ((a.parts.take k).map paP))))+1)) _ _ _ m6 kZ.e,(λv _ _ h=>by rw[h.1];rfl),λm7 fD cs hv=>⟨rfl,a.parts.length - (k+1),by omega,k+1,by omega,by rw[iV],?_,rfl⟩⟩
     rw[hv.2,g1,g2,g3,show paP p=1 from if_neg h1',show ZoL p=ZnO p.e from if_pos h4',show vrP p=vrE p.e from if_pos h4',<-Int.add_assoc,<-Int.add_assoc,<-Int.add_assoc,Zpp (P0+ZaB ((a.parts.take k).map paP)) 1]
     rfl
    ·have h1':¬p.k=1:=by have h1:(!(p.k == (1:Int)))=true:=h1;simpa using h1
     have h4':¬p.k=4:=by have h4:(p.k == (4:Int))=false:=h4;simpa using h4
     refine⟨rfl,a.parts.length - (k+1),by omega,k+1,by omega,by rw[iV],?_,rfl⟩
     rw[g1,g2,g3,show paP p=1 from if_neg h1',show ZoL p=0 from if_neg h4',show vrP p=0 from if_neg h4',Int.add_zero,Int.add_zero,<-Int.add_assoc,Zpp (P0+ZaB ((a.parts.take k).map paP)) 1]
     rfl
    ·have h1':p.k=1:=by have h1:(!(p.k == (1:Int)))=false:=h1;simpa using h1
     have h4':p.k=4:=by have h4:(p.k == (4:Int))=true:=h4;simpa using h4
     omega
    ·have h1':p.k=1:=by have h1:(!(p.k == (1:Int)))=false:=h1;simpa using h1
     have h4':¬p.k=4:=by have h4:(p.k == (4:Int))=false:=h4;simpa using h4
     refine⟨rfl,a.parts.length - (k+1),by omega,k+1,by omega,by rw[iV],?_,rfl⟩
     rw[g1,g2,g3,show paP p=0 from if_pos h1',show ZoL p=0 from if_neg h4',show vrP p=0 from if_neg h4',Int.add_zero,Int.add_zero,Int.add_zero]
   ·have bL:¬(k:Int) < (a.parts.length:Nat):=bL
    have:k=a.parts.length:=by omega
    subst this
    have e2:ZqC a=ZaB (a.parts.map ZoL):=by unfold ZqC;rw[if_neg h3',Int.zero_add]
    have e3:vrA a=ZaB (a.parts.map vrP):=by unfold vrA;rw[if_neg h3',Int.zero_add]
    rw[List.take_length,Za8 paA mG,Za8 ZqC mG,Za8 vrA mG,mV,vj,tu,e2,e3]
    rfl
 ·rintro cs m5 cO ⟨bN,_⟩
  rw[List.length_map,List.take_length]at bN
  obtain rfl:=(List.cons.inj bN).1
  refine Zaa rfl (Zaf (mLt gB cO) ?_)
  show Value.agg _=Value.agg _
  unfold Zir;rw[hl,if_pos rfl];rfl
end Go.Proofs.YtpjepnkiiojgfaaGreat
end
