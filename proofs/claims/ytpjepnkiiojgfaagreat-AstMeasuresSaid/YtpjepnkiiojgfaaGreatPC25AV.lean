/- Part of the proof: functions of the program. No condition. -/
import Derived.Test.YtpjepnkiiojgfaaGreatPEnv
import Derived.Test.YtpjepnkiiojgfaaGreatPC25E
import Derived.Test.YtpjepnkiiojgfaaGreatPC25AU
import Derived.Test.YtpjepnkiiojgfaaGreatMr
import Derived.Test.YtpjepnkiiojgfaaGreatPC25MA
set_option linter.unusedVariables false
set_option linter.unusedSimpArgs false
set_option linter.unusedSectionVars false
noncomputable section
namespace Go.Proofs.YtpjepnkiiojgfaaGreat
open Go Go.Eng Go.Proofs Go.RowKit
open Go.Value (int slice agg bool string tuple func)
open Go.IntKind (u8 u64 i64)
set_option maxRecDepth 100000
def Zvh:Env:={ EB with
 frzNew:=[1] }
theorem ZsR(aA:Int)(aD aG:Bool)(aF bC bD bG dY dZ eA:Int)(bV:Option Addr)(bW bX:Nat)(cV:ByteArray)(cW:Int)(bY:Option Addr)(bZ cA:Nat)(cX:ByteArray)(cY:Int)(m:Mem)(R:RT)(h:
 lV [int u8 aA,bool aD,bool aG,int u8 aF,int u64 bC,int u64 bD,int u64 bG,int u64 dY,int i64 dZ,int i64 eA,slice bV bW bX,string cV,int i64 cW,slice bY bZ
 cA,string cX,int i64 cY] λxL=>fzM m xL λb m'=>∀(b b:Nat),m'.free b->∀(b_1:Nat),Mem.free (m'.add b xL) b_1->rtM m (Mem.add (m'.add b xL) b_1 [string bE0,slice (some (Addr.mk b 0 none)) 1 1]) R (agg (Array.mk [int i64 0,slice none 0 0,slice (some (Addr.mk b_1 0 none)) 1 1]))):CX Tryz.prog 75 #[.agg #[.int .u8 aA,.bool aD,.bool aG,.int .u8 aF,.int .u64 bC,.int .u64 bD,.int .u64 bG,.int .u64 dY,.int .i64 dZ,.int .i64 eA,.slice bV bW bX,.string cV,.int .i64 cW,.slice bY bZ cA,.string cX,.int .i64 cY]] m [] R:=
 Zad (E:=Zvh) Zao mix Tryz.func75 (by kernel_rfl) (Eq.mp (by kernel_rfl) h)
def ZhX:Env:={ EB with
 joins:=(λi=>bif Nat.beq i 1 then some [(4,.bool)]else none)
 frzNew:=[2,3] }
theorem ZgY(aA:Int)(aD:ByteArray)(aG aF:Int)(bC:Value)(bD:ByteArray)(bG:Int)(bE:Option Addr)(bB bH:Nat)(bF:Int)(bN:ByteArray)(bP bT:Int)(dO:Value)(dP:ByteArray)(eD:Int)(dJ:Option Addr)(dK dM:Nat)(m:Mem)(R:RT)(h:
 lV [int u8 aF,bC,string bD,int i64 bG,slice bE bB bH] λxL=>lV [int u8 bT,dO,string dP,int i64 eD,slice dJ dK dM] λxL_1=>lV (int u8 bF::string bN::int i64 bP
 :: xL_1) λxL_2=>lV (int u8 aA::string aD::int i64 aG::xL) λxL_3=>fzM m xL_3 λb m'=>lE [some (Box.mk b xL_3 130 8 true true)] λxL_4=>fzM m' xL_2 λb m'=>∃(b_1:Bool),lV [bool b_1]
 λxL_5=>lE (some (Box.mk b xL_2 130 8 true true)::xL_4) λxL_6=>br (aA == bF) (br (ByteArray.toList aD == ByteArray.toList bN) (br (aG == bP) (kB Tryz.prog 140 [agg (Array.mk xL),agg (Array.mk
 xL_1)] m' λb m'=>Zac xL_6/\[bool b]=xL_5) (Zac xL_6/\[bool false]=xL_5)) (Zac xL_6/\[bool false]=xL_5)) (Zac xL_6/\[bool false]=xL_5)/\rtM m m' R (bool b_1)):CX Tryz.prog 139 #[.agg #[.int .u8 aA,.string aD,.int .i64 aG,.int .u8 aF,bC,.string bD,.int .i64 bG,.slice bE bB bH],.agg #[.int .u8 bF,.string bN,.int .i64 bP,.int .u8 bT,dO,.string dP,.int .i64 eD,.slice dJ dK dM]] m [] R:=
 Zad (E:=ZhX) Zao mix Tryz.func139 (by kernel_rfl) (Eq.mp (by kernel_rfl) h)
def ZaK:Env:={ EB with
 loops:=(λi=>bif Nat.beq i 4 then⟨[(17,.int .i64)],[],[],false⟩ else⟨[],[],[],false⟩) }
theorem ZaI(p0a:Option Addr)(p0n p0c:Nat)(p1a:Option Addr)(p1n p1c p2g:Nat)(p2fi p2ca:List Value)(m:Mem)(R:RT)(h:
 br (!(↑p0n:Int) == (↑p1n:Int)) (rtM m m R (bool false)) (∃(I:IT),inI I [int i64 0] [] [] m/\∀(n:Int)(m':Mem)(n_1:Nat),m.le m'->I [int i64 n] [] [] m' n_1->br (decide (n < (↑p0n:Int))) (atA p0a
 λb o=>Zae n p0n/\∃v v_1 v_2 v_3 v_4 v_5 v_6 v_7:Value,lV [v,v_1,v_2,v_3,v_4,v_5,v_6,v_7] λxL=>
 m'.reads b (o+Int.toNat n*8) xL/\∀(b:Nat),chk (v.oneCell'&&(v_1.oneCell'&&(v_2.oneCell'&&(v_3.oneCell'&&(v_4.oneCell'&&(v_5.oneCell'&&(v_6.oneCell' &&
 (v_7.oneCell'&&true)))))))) (atA p1a λb o=>Zae n p1n/\∃v v_8 v_9 v_10 v_11 v_12 v_13 v_14:Value,lV [v,
 v_8,v_9,v_10,v_11,v_12,v_13,v_14] λxL_1=>m'.reads b (o+Int.toNat n*8) xL_1/\∀(b:Nat),chk (v.oneCell'&&(v_8.oneCell'&&(v_9.oneCell'&&(v_10.oneCell'&&(v_11.oneCell'&&(v_12.oneCell'&&(v_13.oneCell'&&(v_14.oneCell'&&true)))))))) (kB Tryz.prog p2g (List.append (List.append p2fi [agg (Array.mk xL),agg (Array.mk xL_1)]) p2ca) m' λb m'=>br (!b) (rtM m
 m' R (bool false)) (nxI n_1 I [int i64 (i64.wrap (n+(1:Int)))] [] [] m')))) (rtM m m' R (bool true)))):CX Tryz.prog 159 #[.slice p0a p0n p0c,.slice p1a p1n p1c,.func (.func p2g) p2fi.toArray p2ca.toArray] m [] R:=
 Zad (E:=ZaK) Zao mix Tryz.func159 (by kernel_rfl) (Eq.mp (by kernel_rfl) h)
def Zdr:Env:=EB
theorem Zde(p0a:Option Addr)(p0n p0c:Nat)(p1a:Option Addr)(p1n p1c p2g:Nat)(p2fi p2ca:List Value)(m:Mem)(R:RT)(h:
 kB Tryz.prog 159 [slice p0a p0n p0c,slice p1a p1n p1c,func (Fn.func p2g) (Array.mk p2fi) (Array.mk p2ca)] m λb m'=>rtM m m' R (bool b)):CX Tryz.prog 138 #[.slice p0a p0n p0c,.slice p1a p1n p1c,.func (.func p2g) p2fi.toArray p2ca.toArray] m [] R:=
 Zad (E:=Zdr) Zao mix Tryz.func138 (by kernel_rfl) (Eq.mp (by kernel_rfl) h)
def Zf4:Env:={ EB with
 joins:=(λi=>bif Nat.beq i 1 then some [(4,.bool)]else none)
 frzNew:=[2,3] }
theorem Ze9(aA:Int)(aD:ByteArray)(aO:Option Addr)(aJ aT:Nat)(aF:Int)(bC:Value)(bD:ByteArray)(bG:Int)(bE:Option Addr)(bB bH:Nat)(bF:Int)(bN:ByteArray)(e9:Option Addr)(fa fb:Nat)(bT:Int)(dO:Value)(dP:ByteArray)(eD:Int)(dJ:Option Addr)(dK dM:Nat)(m:Mem)(R:RT)(h:
 lV [int u8 aF,bC,string bD,int i64 bG,slice bE bB bH] λxL=>lV [int u8 bT,dO,string dP,int i64 eD,slice dJ dK dM] λxL_1=>lV (int u8 aA::string aD::slice aO
 aJ aT::xL) λxL_2=>lV (int u8 bF::string bN::slice e9 fa fb::xL_1) λxL_3=>fzM m xL_2 λb m'=>lE [some (Box.mk b xL_2 54 8 true true)] λxL_4=>fzM m' xL_3 λb m'=>∃(b_1:
 Bool),lV [bool b_1] λxL_5=>lE (some (Box.mk b xL_3 54 8 true true)::xL_4) λxL_6=>br (aA == bF) (br (ByteArray.toList aD == ByteArray.toList bN) (kB Tryz.prog 138 [slice aO aJ aT,slice
 e9 fa fb,func (Fn.func 139) (Array.mk []) (Array.mk [])] m' λb m'=>br b (kB Tryz.prog 140 [agg (Array.mk xL),agg (Array.mk xL_1)] m' λb m'=>Zac xL_6/\[bool b]=xL_5) (Zac xL_6/\[bool false]
 = xL_5)) (Zac xL_6/\[bool false]=xL_5)) (Zac xL_6/\[bool false]=xL_5)/\rtM m m' R (bool b_1)):CX Tryz.prog 102 #[.agg #[.int .u8 aA,.string aD,.slice aO aJ aT,.int .u8 aF,bC,.string bD,.int .i64 bG,.slice bE bB bH],.agg #[.int .u8 bF,.string bN,.slice e9 fa fb,.int .u8 bT,dO,.string dP,.int .i64 eD,.slice dJ dK dM]] m [] R:=
 Zad (E:=Zf4) Zao mix Tryz.func102 (by kernel_rfl) (Eq.mp (by kernel_rfl) h)
def Zaz:Env:={ EB with
 loops:=(λi=>bif Nat.beq i 4 then⟨[(17,.int .i64)],[],[],false⟩ else⟨[],[],[],false⟩) }
theorem Zay(p0a:Option Addr)(p0n p0c:Nat)(p1a:Option Addr)(p1n p1c p2g:Nat)(p2fi p2ca:List Value)(m:Mem)(R:RT)(h:
 br (!(↑p0n:Int) == (↑p1n:Int)) (rtM m m R (bool false)) (∃(I:IT),inI I [int i64 0] [] [] m/\∀(n:Int)(m':Mem)(n_1:Nat),m.le m'->I [int i64 n] [] [] m' n_1->br (decide (n < (↑p0n:Int))) (atA p0a
 λb o=>Zae n p0n/\∃v v_1 v_2 v_3 v_4 v_5 v_6 v_7:Value,lV [v,v_1,v_2,v_3,v_4,v_5,v_6,v_7] λxL=>
 m'.reads b (o+Int.toNat n*8) xL/\∀(b:Nat),chk (v.oneCell'&&(v_1.oneCell'&&(v_2.oneCell'&&(v_3.oneCell'&&(v_4.oneCell'&&(v_5.oneCell'&&(v_6.oneCell' &&
 (v_7.oneCell'&&true)))))))) (atA p1a λb o=>Zae n p1n/\∃v v_8 v_9 v_10 v_11 v_12 v_13 v_14:Value,lV [v,
 v_8,v_9,v_10,v_11,v_12,v_13,v_14] λxL_1=>m'.reads b (o+Int.toNat n*8) xL_1/\∀(b:Nat),chk (v.oneCell'&&(v_8.oneCell'&&(v_9.oneCell'&&(v_10.oneCell'&&(v_11.oneCell'&&(v_12.oneCell'&&(v_13.oneCell'&&(v_14.oneCell'&&true)))))))) (kB Tryz.prog p2g (List.append (List.append p2fi [agg (Array.mk xL),agg (Array.mk xL_1)]) p2ca) m' λb m'=>br (!b) (rtM m
 m' R (bool false)) (nxI n_1 I [int i64 (i64.wrap (n+(1:Int)))] [] [] m')))) (rtM m m' R (bool true)))):CX Tryz.prog 137 #[.slice p0a p0n p0c,.slice p1a p1n p1c,.func (.func p2g) p2fi.toArray p2ca.toArray] m [] R:=
 Zad (E:=Zaz) Zao mix Tryz.func137 (by kernel_rfl) (Eq.mp (by kernel_rfl) h)
def ZcV:Env:=EB
theorem ZcR(p0a:Option Addr)(p0n p0c:Nat)(p1a:Option Addr)(p1n p1c p2g:Nat)(p2fi p2ca:List Value)(m:Mem)(R:RT)(h:
 kB Tryz.prog 137 [slice p0a p0n p0c,slice p1a p1n p1c,func (Fn.func p2g) (Array.mk p2fi) (Array.mk p2ca)] m λb m'=>rtM m m' R (bool b)):CX Tryz.prog 101 #[.slice p0a p0n p0c,.slice p1a p1n p1c,.func (.func p2g) p2fi.toArray p2ca.toArray] m [] R:=
 Zad (E:=ZcV) Zao mix Tryz.func101 (by kernel_rfl) (Eq.mp (by kernel_rfl) h)
def ZhY:Env:={ EB with
 joins:=(λi=>bif Nat.beq i 1 then some [(4,.bool)]else none)
 frzNew:=[2,3] }
theorem ZgZ(aA:Int)(aD aG:Bool)(aF bC bD bG dY dZ eA:Int)(bV:Option Addr)(bW bX:Nat)(cV:ByteArray)(cW:Int)(bY:Option Addr)(bZ cA:Nat)(cX:ByteArray)(cY bF:Int)(bN bP:Bool)(bT dO dP eD oD oE oF:Int)(iW:Option Addr)(iX iY:Nat)(kD:ByteArray)(kE:Int)(iZ:Option Addr)(i4 i5:Nat)(kG:ByteArray)(kH:Int)(m:Mem)(R:RT)(h:
 lV [int u8 bF,bool bN,bool bP,int u8 bT,int u64 dO,int u64 dP,int u64 eD,int u64 oD,int i64 oE,int i64 oF,slice iW iX iY,string kD,int i64 kE,slice iZ i4
 i5,string kG,int i64 kH] λxL=>lV [int u8 aA,bool aD,bool aG,int u8 aF,int u64 bC,int u64 bD,int u64 bG,int u64 dY,int i64 dZ,int i64 eA,slice bV bW bX,string
 cV,int i64 cW,slice bY bZ cA,string cX,int i64 cY] λxL_1=>fzM m xL_1 λb m'=>lE [some (Box.mk b xL_1 47 16 true true)] λxL_2=>fzM m' xL λb m'=>∃(b_1:Bool),lV [bool b_1]
 λxL_3=>lE (some (Box.mk b xL 47 16 true true)::xL_2) λxL=>br (aA == bF) (br (aD == bN) (br (aG == bP) (kB Tryz.prog 100 [agg (Array.mk [int u8 aF,int u64 bC,int u64 bD,int u64 bG,int
 u64 dY,int i64 dZ,int i64 eA,slice bV bW bX]),agg (Array.mk [int u8 bT,int u64 dO,int u64 dP,int u64 eD,int u64 oD,int i64 oE,int i64 oF,slice iW iX iY])] m' λb
 m'=>br b (br (ByteArray.toList cV == ByteArray.toList kD) (br (cW == kE) (kB Tryz.prog 101 [slice bY bZ cA,slice iZ i4 i5,func (Fn.func 102) (Array.mk []) (Array.mk [])] m' λb
 m'=>br b (br (ByteArray.toList cX == ByteArray.toList kG) (Zac xL/\[bool (cY == kH)]=xL_3) (Zac xL/\[bool false]=xL_3)) (Zac xL/\[bool false]=xL_3)) (Zac xL/\[bool false]=xL_3))
 (Zac xL/\[bool false]=xL_3)) (Zac xL/\[bool false]=xL_3)) (Zac xL/\[bool false]=xL_3)) (Zac xL/\[bool false]=xL_3)) (Zac xL/\[bool false]=xL_3)/\rtM m m' R (bool b_1)):CX Tryz.prog 67 #[.agg #[.int .u8 aA,.bool aD,.bool aG,.int .u8 aF,.int .u64 bC,.int .u64 bD,.int .u64 bG,.int .u64 dY,.int .i64 dZ,.int .i64 eA,.slice bV bW bX,.string cV,.int .i64 cW,.slice bY bZ cA,.string cX,.int .i64 cY],.agg #[.int .u8 bF,.bool bN,.bool bP,.int .u8 bT,.int .u64 dO,.int .u64 dP,.int .u64 eD,.int .u64 oD,.int .i64 oE,.int .i64 oF,.slice iW iX iY,.string kD,.int .i64 kE,.slice iZ i4 i5,.string kG,.int .i64 kH]] m [] R:=
 Zad (E:=ZhY) Zao mix Tryz.func67 (by kernel_rfl) (Eq.mp (by kernel_rfl) h)
def Zf5:Env:={ EB with
 loops:=(λi=>bif Nat.beq i 5 then⟨[(9,.agg [.int .u8,.any,.str,.int .i64,.slice])],[3],[],false⟩ else⟨[],[],[],false⟩)
 frzNew:=[1] }
theorem Zfa(aA:Int)(aD:Value)(aG:ByteArray)(aF:Int)(aR:Option Addr)(aM aV:Nat)(m:Mem)(R:RT)(h:
 lV [int u8 aA,aD,string aG,int i64 aF,slice aR aM aV] λxL=>fzM m xL λb m'=>∀(b_1:Nat),lE [some (Box.mk b_1 [] 3 1 false true),some (Box.mk b xL 52 5 true true)] λxL_1=>kB
 Tryz.prog 94 [agg (Array.mk xL)] m' λb m'=>br b (kF Tryz.prog 103 [agg (Array.mk xL)] m' λg fi ca m'=>∃(xs:List (List Value)),IX Tryz.prog g fi ca m' xs/\(∀(x:List Value),x∈xs->Shape.fitsL
 [Shape.agg [Shape.int u8,Shape.any,Shape.str,Shape.int i64,Shape.slice]] x=true)/\∃(I:IT),I [] [[int i64 0]] [] m' 0/\(∀(n:Int)(v:Value)(s:ByteArray)(n_1:Int)(a:Option Addr)(n_2 c:Nat) (cs
 : List Value) (m'_1:Mem) (n_3:Nat),m'.le m'_1->List.get?Internal xs n_3=some [agg (Array.mk [int u8 n,v,string s,int i64 n_1,slice a n_2 c])]->I [] [cs] [] m'_1 n_3->∀(b:Nat),chk (v.oneCell'
 && true) (kI Tryz.prog 104 [int u8 n] m'_1 λn m'=>br (decide (n > (0:Int))) (Eng.Zs8 cs 0 λv=>chk (Za6 i64 v&&decide (i64=i64)) (Zac xL_1/\I [] [[int i64 (i64.wrap (RowKit.intOf v+(1:
 Int)))]] [] m' (n_3+1))) (Zac xL_1/\I [] [cs] [] m' (n_3+1))))/\∀(cs:List Value)(m'_1:Mem),m'.le m'_1->I [] [cs] [] m'_1 (xs.length)->Eng.Zs8 cs 0 λv=>rtM m m'_1 R v) (rtM m m' R (int
 i64 0))):CX Tryz.prog 69 #[.agg #[.int .u8 aA,aD,.string aG,.int .i64 aF,.slice aR aM aV]] m [] R:=
 Zad (E:=Zf5) Zao mix Tryz.func69 (by kernel_rfl) (Eq.mp (by kernel_rfl) h)
def ZpI:Env:={ EB with
 loops:=(λi=>bif Nat.beq i 5 then⟨[(3,.int .i64),(19,.int .i64)],[],[],false⟩ else⟨[],[],[],false⟩)
 joins:=(λi=>bif Nat.beq i 2 then some [(13,.bool)]else none)
 frzNew:=[1] }
theorem Zoq(aA:Int)(aD:Value)(aG:ByteArray)(aF:Int)(aR:Option Addr)(aM aV:Nat)(m:Mem)(R:RT)(h:
 lV [int u8 aA,aD,string aG,int i64 aF,slice aR aM aV] λxL=>fzM m xL λb m'=>∃(b_1:Bool),lE [some (Box.mk b xL 52 5 true true)] λxL=>br (aA == (9:Int)) (Zac xL/\[bool true]
 = [bool b_1]) (Zac xL/\[bool (aA == (10:Int))]=[bool b_1])/\br b_1 (∃(I:IT),inI I [int i64 (i64.wrap ((0:Int)+(1:Int))),int i64 0] [] [] m'/\∀(n n_1:Int)(m'_1:Mem)(n_2:Nat),
 m'.le m'_1->I [int i64 n,int i64 n_1] [] [] m'_1 n_2->br (decide (n_1 < (↑aM:Int))) (atA aR λb o=>Zae n_1 aM/\∃v v_1 v_2 v_3 v_4:Value,m'_1.reads b (o+Int.toNat n_1*5) [v,v_1,v_2,v_3,v_4]/\∀(b:Nat),chk (v.oneCell'&&(v_1.oneCell'&&(v_2.oneCell'&&(v_3.oneCell'&&(v_4.oneCell'&&true))))) (kI
 Tryz.prog 70 [agg (Array.mk [v,v_1,v_2,v_3,v_4])] m'_1 λn_3 m'=>Zac xL/\nxI n_2 I [int i64 (i64.wrap (n+n_3)),int i64 (i64.wrap (n_1+(1:Int)))] [] [] m')) (rtM m m'_1 R (int i64 n)))
 (∃(I:IT),inI I [int i64 0,int i64 0] [] [] m'/\∀(n n_1:Int)(m'_1:Mem)(n_2:Nat),m'.le m'_1->I [int i64 n,int i64 n_1] [] [] m'_1 n_2->br (decide (n_1 < (↑aM:Int))) (atA aR λb o=>
 Zae n_1 aM/\∃v v_1 v_2 v_3 v_4:Value,m'_1.reads b (o+Int.toNat n_1*5) [v,v_1,v_2,v_3,v_4]/\∀(b:Nat),chk (v.oneCell' &&
 (v_1.oneCell'&&(v_2.oneCell'&&(v_3.oneCell'&&(v_4.oneCell'&&true))))) (kI Tryz.prog 70 [agg (Array.mk [v,v_1,v_2,v_3,v_4])] m'_1 λn_3 m'=>Zac xL/\nxI n_2 I [int i64
 (i64.wrap (n+n_3)),int i64 (i64.wrap (n_1+(1:Int)))] [] [] m')) (rtM m m'_1 R (int i64 n)))):CX Tryz.prog 70 #[.agg #[.int .u8 aA,aD,.string aG,.int .i64 aF,.slice aR aM aV]] m [] R:=
 Zad (E:=ZpI) Zao mix Tryz.func70 (by kernel_rfl) (Eq.mp (by kernel_rfl) h)
def ZjL:Env:={ EB with
 frzNew:=[1] }
theorem ZhZ(aA:Int)(aW:Option Addr)(aS aX:Nat)(aO:Option Addr)(aJ aT:Nat)(m:Mem)(R:RT)(h:
 fzM m [int i64 aA,slice aW aS aX,slice aO aJ aT] λb m'=>rtM m m' R (func (Fn.func 105) (Array.mk []) (Array.mk [Value.pointer (some (Addr.mk b 0 none))]))):CX Tryz.prog 71 #[.agg #[.int .i64 aA,.slice aW aS aX,.slice aO aJ aT]] m [] R:=
 Zad (E:=ZjL) Zao mix Tryz.func71 (by kernel_rfl) (Eq.mp (by kernel_rfl) h)
def Zg0:Env:={ EB with
 loops:=(λi=>bif Nat.beq i 1 then⟨[(12,.int .i64)],[],[],true⟩ else bif Nat.beq i 4 then⟨[(19,.int .i64)],[],[],true⟩ else bif Nat.beq i 7 then⟨[(26,.int .i64)],[],[],true⟩ else⟨[],[],[],false⟩) }
theorem Zf6(p0g:Nat)(p0fi p0ca:List Value)(c0b c0o:Nat)(m:Mem)(xs:List (List Value))(h:
 ∀(l:Nat),∃(v:Value),m c0b (c0o+2)=some v/\chk (ZbF v) (∃(I:IT),inI I [int i64 0,int i64 0] [] [] m/\∀(y n:Int)(m':Mem)(n_1:Nat),m.le m'->I [int i64 y,int i64 n] [] [] m' n_1->br
 (decide (n < (↑(slN v):Int))) (chk (ZbF v) (atA (slA v) λb o=>Zae n (slN v)/\∃v v_1:Value,m'.reads b (o+Int.toNat n*2) [v,v_1]/\∀(b:Nat),lE [some (Box.mk b [v,v_1] 36 2
 false true)] λxL=>chk (v.oneCell'&&(v_1.oneCell'&&true)) (chk (ZbF v_1) (∃(I_1:IT),inI I_1 [int i64 y,int i64 0] [] [] m'/\∀(y n_2:Int)(m'_1:Mem)(n_3:Nat),lX (int i64 y) λyL=>
 m'.le m'_1->I_1 [yL,int i64 n_2] [] [] m'_1 n_3->br (decide (n_2 < (↑(slN v_1):Int))) (chk (ZbF v_1) (atA (slA v_1) λb o=>Zae n_2 (slN v_1)/\∃v v_2 v_3 v_4 v_5 v_6 v_7 v_8 v_9 v_10 v_11 v_12 v_13 v_14 v_15 v_16:Value,lV [v,v_2,v_3,v_4,v_5,v_6,v_7,v_8,v_9,v_10,v_11,v_12,v_13,v_14,v_15,v_16] λxL_1=>m'_1.reads b (o+Int.toNat n_2*16) xL_1/\∀(b:Nat),chk (v.oneCell'&&(v_2.oneCell' &&
 (v_3.oneCell'&&(v_4.oneCell'&&(v_5.oneCell'&&(v_6.oneCell'&&(v_7.oneCell'&&(v_8.oneCell'&&(v_9.oneCell'&&(v_10.oneCell'&&(v_11.oneCell' &&
 (v_12.oneCell'&&(v_13.oneCell'&&(v_14.oneCell'&&(v_15.oneCell'&&(v_16.oneCell'&&true)))))))))))))))) (chk (ZbF v_14) (∃(I:IT),inI I [yL,int i64 0] [] [] m'_1/\∀(y n:Int)
 (m':Mem) (n_4:Nat),m'_1.le m'->I [int i64 y,int i64 n] [] [] m' n_4->br (decide (n < (↑(slN v_14):Int))) (chk (ZbF v_14) (atA (slA v_14) λb_1 o=>Zae n (slN v_14)/\∃v v_17 v_18 v_19 v_20 v_21 v_22 v_23:Value,lV [v,v_17,v_18,v_19,v_20,v_21,v_22,v_23] λxL_2=>m'.reads b_1 (o+Int.toNat n*8)
 xL_2/\∀(b_2:Nat),chk (v.oneCell'&&(v_17.oneCell'&&(v_18.oneCell'&&(v_19.oneCell'&&(v_20.oneCell'&&(v_21.oneCell'&&(v_22.oneCell'&&(v_23.oneCell' &&
 true)))))))) ((l=l/\(0:Int)<=y/\List.get?Internal xs (Int.toNat y)=some [agg (Array.mk xL_2)])/\(Zac (some (Box.mk b xL_1 47 16 false true)::xL)/\nxI n_4 I [int i64 (y+(1:Int)),int i64 (i64.wrap (n+(1:Int)))] [] [] m')/\((-1:Int)=(↑(xs.length):Int)\/(-1:Int)=(-1:Int))))) (Zac xL/\nxI n_3 I_1 [int i64 y,int i64 (i64.wrap (n_2+(1:Int)))] [] [] m'))))) (nxI n_1 I [yL,
 int i64 (i64.wrap (n+(1:Int)))] [] [] m'_1))))) (y=(↑(xs.length):Int)\/y=(-1:Int)))):IX Tryz.prog 105 [] [.pointer (some ⟨c0b,c0o,none⟩)] m xs:=
 ZiY (E:=Zg0) Zao mix Tryz.func105 _ _ _ (by kernel_rfl) (Eq.mp (by kernel_rfl) h)
def ZlK:Env:={ EB with
 dr:=(λi=>bif Nat.beq i 1 then[⟨0,[100000],[],none,[],[]⟩,⟨1,[100000],[],none,[0],[]⟩,⟨2,[2],[],none,[],[]⟩,⟨3,[],[],none,[2],[]⟩,⟨4,[],[],none,[0,1,2,3],[]⟩,⟨5,[100000],[],none,[0,1,2,3,4],[]⟩,⟨6,[100000],[100000],none,[0,1,2,3,4,5],[]⟩]else bif Nat.beq i 2 then[⟨0,[100000],[],none,[],[]⟩,⟨1,[100000],[],none,[0],[]⟩,⟨2,[2],[],none,[],[]⟩,⟨3,[],[],none,[2],[]⟩,⟨4,[],[],none,[0,1,2,3],[]⟩,⟨5,[100000],[],none,[0,1,2,3,4],[]⟩,⟨6,[100000],[100000],none,[0,1,2,3,4,5],[]⟩]else[])
 frzNew:=[2] }
theorem ZjM(aA:Int)(aD:Value)(aG:ByteArray)(aF:Int)(aR:Option Addr)(aM aV c0b:Nat)(c0_0 c0_1 c0_2 c0_3 c0_4 c0_5:Int)(m:Mem)(R:RT)(h:
 lV [int u8 aA,aD,string aG,int i64 aF,slice aR aM aV] λxL=>lV [agg (Array.mk xL)] λxL_1=>lE (Box.mk c0b [int i64 c0_0,int i64 c0_1,int i64 c0_2,int i64 c0_3,int i64 c0_4,int i64 c0_5]
 75 6 false true) λyL=>fzM m xL λb m'=>∃(f:Fx),∃(R_1:RT),R_1=f 3 xL_1 m'/\CX Tryz.prog 69 (Array.mk xL_1) m' [] R_1/\Za3 (Shape.int i64) R_1/\∀(n:Int)(m'_1:Mem),m'.le m'_1->R_1 (int
 i64 n) m'_1 []->∀(M:Mem),m'.le M->m'_1.le M->∃(f:Fx),∃(R_2:RT),R_2=f 3 xL_1 M/\CX Tryz.prog 70 (Array.mk xL_1) M [] R_2/\Za3 (Shape.int i64) R_2/\∀(n_1:Int)(m':Mem),M.le m'->R_2
 (int i64 n_1) m' []->∀(M_1:Mem),M.le M_1->m'.le M_1->yL=yL/\∃(m'':Mem),m.le m''/\m''.le M_1/\R (tuple (Array.mk [])) m'' [[int i64 c0_0,int i64 c0_1,int i64 c0_2,int i64 c0_3,int i64
 (i64.wrap (c0_4+n)),int i64 (i64.wrap (c0_5+n_1))]]):CX Tryz.prog 68 #[.agg #[.int .u8 aA,aD,.string aG,.int .i64 aF,.slice aR aM aV],.pointer (some ⟨c0b,0,none⟩)] m [⟨c0b,[.int .i64 c0_0,.int .i64 c0_1,.int .i64 c0_2,.int .i64 c0_3,.int .i64 c0_4,.int .i64 c0_5],75,6,false,true⟩] R:=
 Zqe (E:=ZlK) Zao mix Tryz.func68 [.v (.agg #[.int .u8 aA,aD,.string aG,.int .i64 aF,.slice aR aM aV]),.loc 100000 0] [⟨c0b,[.int .i64 c0_0,.int .i64 c0_1,.int .i64 c0_2,.int .i64 c0_3,.int .i64 c0_4,.int .i64 c0_5],75,6,false,true⟩] (by kernel_rfl) (Eq.mp (by kernel_rfl) h)
def ZpJ:Env:={ EB with
 loops:=(λi=>bif Nat.beq i 6 then⟨[(23,.int .i64)],[3],[],false⟩ else bif Nat.beq i 10 then⟨[(37,.int .i64)],[3],[],false⟩ else bif Nat.beq i 19 then⟨[(57,.agg [.int .u8,.str,.slice,.int .u8,.any,.str,.int .i64,.slice])],[3],[],false⟩ else bif Nat.beq i 22 then⟨[(68,.int .i64)],[3],[],false⟩ else⟨[],[],[],false⟩)
 dr:=(λi=>bif Nat.beq i 13 then[⟨0,[3],[],none,[],[]⟩,⟨1,[3],[],none,[0],[]⟩,⟨2,[7],[],none,[],[]⟩,⟨3,[7],[],none,[2],[]⟩,⟨4,[7],[],none,[2,3],[]⟩,⟨5,[],[],none,[2,3,4],[]⟩,⟨6,[],[],none,[0,1,2,3,4,5],[]⟩,⟨7,[3],[],none,[0,1,2,3,4,5,6],[]⟩,⟨8,[3],[3],none,[0,1,2,3,4,5,6,7],[]⟩]else[])
 borrow:=(λi=>bif Nat.beq i 64 then[3]else bif Nat.beq i 85 then[3]else[])
 frzNew:=[1] }
theorem Zor(aA:Int)(aW:Option Addr)(aS aX:Nat)(aO:Option Addr)(aJ aT:Nat)(m:Mem)(R:RT)(h:
 lV [int i64 aA,slice aW aS aX,slice aO aJ aT] λxL=>fzM m xL λb m'=>∀(a9 ao:Nat),lV [Value.pointer (some (Addr.mk ao 0 none))] λaq=>lV [func (Fn.func 68) (Array.mk []) (Array.mk
 aq)] λba=>lE [some (Box.mk ao [] 75 6 false true),some (Box.mk a9 [int i64 0,int i64 0,int i64 0,int i64 0,int i64 0,int i64 0] 75 6 false true),some (Box.mk b xL 32 3 true true)] λaz=>kB Tryz.prog 19
 [agg (Array.mk xL)] m' λb m'=>br (!b) (rtM m m' R (agg (Array.mk [int i64 0,int i64 0,int i64 0,int i64 0,int i64 0,int i64 0]))) (∃(I:IT),inI I [int i64 0] [[int i64 (↑aJ:Int),int i64 0,int i64 0,
 int i64 0,int i64 0,int i64 0]] [] m'/\∀(n:Int)(cs:List Value)(ar:Mem)(a3:Nat),m'.le ar->I [int i64 n] [cs] [] ar a3->br (decide (n < (↑aJ:Int))) (atA aO λb o=>Zae n aJ/\∃v ac:Value,ar.reads b (o+Int.toNat n*2) [v,ac]/\∀(b:Nat),lE (some (Box.mk b [v,ac] 36 2 false true)::az) λxL=>chk (v.oneCell'&&(ac.oneCell'&&true)) (Eng.Zs8 cs 1 λv
 => chk (ZbF ac) (chk (Za6 i64 v&&decide (i64=i64)) (chk (Nat.ble 2 (cs.length)) (chk (ZbF ac) (∃(aa:IT),inI aa [int i64 0] [ZaF cs 1 [int i64 (i64.wrap (RowKit.intOf v+(↑(slN ac):Int)))]]
 [] ar/\∀(ae:Int)(cs:List Value)(m':Mem)(av:Nat),lV [int i64 (i64.wrap (ae+(1:Int)))] λau=>ar.le m'->aa [int i64 ae] [cs] [] m' av->br (decide (ae < (↑(slN ac):Int))) (chk (ZbF ac)
 (atA (slA ac) λb o=>Zae ae (slN ac)/\∃v al am ag ah ai aj ak a0 a1 a2 a4 a5 a6 a7 a8:Value,lV [agg (Array.mk [ag,ah,ai,aj,ak,a0,a1,a2])] λaw=>m'.reads b (o+Int.toNat ae*16) [v,al,am,ag,ah,ai,aj,
 ak,a0,a1,a2,a4,a5,a6,a7,a8]/\∀(b:Nat),chk (v.oneCell'&&(al.oneCell'&&(am.oneCell'&&(ag.oneCell'&&(ah.oneCell'&&(ai.oneCell'&&(aj.oneCell' &&
 (ak.oneCell'&&(a0.oneCell'&&(a1.oneCell'&&(a2.oneCell'&&(a4.oneCell'&&(a5.oneCell'&&(a6.oneCell'&&(a7.oneCell'&&(a8.oneCell'&&true))))))))))))))))
 (chk (Za6 u8 v&&decide (u8=u8)) (br (RowKit.intOf v == (1:Int)) (∃(f:Fx),Eng.Zs8 cs 2 λv=>∃(R:RT),R=f 5 aw m'/\CX Tryz.prog 58 (Array.mk aw) m' [] R/\Za3 (Shape.int i64) R/\∀(n:Int) (ad:
 Mem),m'.le ad->R (int i64 n) ad []->chk (Za6 i64 v&&decide (i64=i64)) (chk (Nat.ble 3 (cs.length)) (∀(M:Mem),m'.le M->ad.le M->Zac xL/\nxI av aa au [ZaF cs 2 [int i64 (i64.wrap (RowKit.intOf v+n))]] [] M))) (Zac xL/\nxI av aa au [cs] [] m'))))) (Zac az/\nxI a3 I [int i64 (i64.wrap (n+(1:Int)))] [cs] [] m'))))))) (∀(b:Nat),lE (some (Box.mk b ba 137 1 false true) ::
 az) λau=>kF Tryz.prog 71 [agg (Array.mk xL)] ar λg fi ca m'=>∃(xs:List (List Value)),IX Tryz.prog g fi ca m' xs/\(∀(x:List Value),x∈xs->Shape.fitsL [Shape.agg [Shape.int u8,Shape.str,Shape.slice,
 Shape.int u8,Shape.any,Shape.str,Shape.int i64,Shape.slice]] x=true)/\∃(I:IT),I [] [cs] [] m' 0/\(∀(n:Int)(s:ByteArray)(a:Option Addr)(ae c:Nat)(av:Int)(v:Value)(bb:ByteArray)(bc:Int)
 (bd:Option Addr) (be bf:Nat) (cs:List Value) (ad:Mem) (ay:Nat),lV [int u8 av,v,string bb,int i64 bc,slice bd be bf] λxL=>lV (int u8 n::string s::slice a ae c::xL) λaw=>m'.le ad->
 List.get?Internal xs ay=some [agg (Array.mk aw)]->I [] [cs] [] ad ay->∀(b:Nat),lE (some (Box.mk b aw 54 8 false true)::au) λan=>chk (v.oneCell'&&true) (br (n == (3:Int)) (∃(R:RT),True/\CX
 Tryz.prog 68 (Array.mk (agg (Array.mk xL)::aq)) ad [Box.mk ao cs 75 6 false true] R/\Za3 (Shape.tup []) R/\∀(m':Mem),ad.le m'->∀(cs:List Value),R (tuple (Array.mk [])) m' [cs]->∃(aa:IT),inI aa
 [int i64 0] [cs] [] m'/\∀(n:Int)(cs:List Value)(ab:Mem)(af:Nat),lV [int i64 (i64.wrap (n+(1:Int)))] λxL=>m'.le ab->aa [int i64 n] [cs] [] ab af->br (decide (n < (↑ae:Int))) (atA a
 λb o=>Zae n ae/\∃v ac al am ag ah ai aj:Value,lV [am,ag,ah,ai,aj] λap=>lE (Za6 u8 v&&decide (u8 =
 u8)) λyL=>ab.reads b (o+Int.toNat n*8) (v::ac::al::ap)/\∀(b:Nat),chk (v.oneCell'&&(ac.oneCell'&&(al.oneCell'&&(am.oneCell'&&(ag.oneCell'&&(ah.oneCell'&&(ai.oneCell'&&(aj.oneCell'&&true)))))))) (chk yL (br (!RowKit.intOf v == (1:Int)) (Eng.Zs8 cs 3 λak=>lV (ZaF cs 3 [int i64 (i64.wrap (RowKit.intOf ak+(1:Int)))]) λax=>
 chk (Za6 i64 ak&&decide (i64=i64)) (chk (Nat.ble 4 (cs.length)) (chk yL (br (RowKit.intOf v == (4:Int)) (∃(R:RT),True/\CX Tryz.prog 68 (Array.mk (agg (Array.mk ap)::aq)) ab [Box.mk ao ax 75 6 false
 true] R/\Za3 (Shape.tup []) R/\∀(m':Mem),ab.le m'->∀(cs:List Value),R (tuple (Array.mk [])) m' [cs]->Zac an/\nxI af aa xL [cs] [] m') (Zac an/\nxI af aa xL [ax] [] ab))))) (chk yL (br
 (RowKit.intOf v == (4:Int)) (∃(R:RT),True/\CX Tryz.prog 68 (Array.mk (agg (Array.mk ap)::aq)) ab [Box.mk ao cs 75 6 false true] R/\Za3 (Shape.tup []) R/\∀(m':Mem),ab.le m'->∀(cs:List Value),R
 (tuple (Array.mk [])) m' [cs]->Zac an/\nxI af aa xL [cs] [] m') (Zac an/\nxI af aa xL [cs] [] ab)))))) (Zac au/\I [] [cs] [] ab (ay+1))) (∃(aa:IT),inI aa [int i64 0] [cs] [] ad/\∀(n:Int) (cs:
 List Value) (m':Mem) (af:Nat),lV [int i64 (i64.wrap (n+(1:Int)))] λxL=>ad.le m'->aa [int i64 n] [cs] [] m' af->br (decide (n < (↑ae:Int))) (atA a λb o=>Zae n ae/\∃v ac al am ag ah ai aj:Value,lV [am,ag,ah,ai,aj] λap=>lE (Za6 u8 v&&decide (u8=u8)) λyL=>m'.reads b (o+Int.toNat
 n*8) (v::ac::al::ap)/\∀(b:Nat),chk (v.oneCell'&&(ac.oneCell'&&(al.oneCell'&&(am.oneCell'&&(ag.oneCell'&&(ah.oneCell'&&(ai.oneCell'&&(aj.oneCell'
 && true)))))))) (chk yL (br (!RowKit.intOf v == (1:Int)) (Eng.Zs8 cs 3 λak=>lV (ZaF cs 3 [int i64 (i64.wrap (RowKit.intOf ak+(1:Int)))]) λax=>chk (Za6 i64 ak&&decide (i64=i64)) (chk
 (Nat.ble 4 (cs.length)) (chk yL (br (RowKit.intOf v == (4:Int)) (∃(R:RT),True/\CX Tryz.prog 68 (Array.mk (agg (Array.mk ap)::aq)) m' [Box.mk ao ax 75 6 false true] R/\Za3 (Shape.tup []) R/\∀(ab:Mem),
 m'.le ab->∀(cs:List Value),R (tuple (Array.mk [])) ab [cs]->Zac an/\nxI af aa xL [cs] [] ab) (Zac an/\nxI af aa xL [ax] [] m'))))) (chk yL (br (RowKit.intOf v == (4:Int)) (∃(R:RT),True/\CX
 Tryz.prog 68 (Array.mk (agg (Array.mk ap)::aq)) m' [Box.mk ao cs 75 6 false true] R/\Za3 (Shape.tup []) R/\∀(ab:Mem),m'.le ab->∀(cs:List Value),R (tuple (Array.mk [])) ab [cs]->Zac an/\nxI af aa
 xL [cs] [] ab) (Zac an/\nxI af aa xL [cs] [] m')))))) (Zac au/\I [] [cs] [] m' (ay+1)))))/\∀(cs:List Value)(ad:Mem),m'.le ad->I [] [cs] [] ad (xs.length)->chk (Nat.beq (cs.length) 6 &&
 ZdK cs) (rtM m ad R (agg (Array.mk cs)))))):CX Tryz.prog 21 #[.agg #[.int .i64 aA,.slice aW aS aX,.slice aO aJ aT]] m [] R:=
 Zad (E:=ZpJ) Zao mix Tryz.func21 (by kernel_rfl) (Eq.mp (by kernel_rfl) h)
end Go.Proofs.YtpjepnkiiojgfaaGreat
namespace Go.Proofs.YtpjepnkiiojgfaaGreat
open Go Go.Eng Go.Rx Go.Proofs Go.RowKit
set_option maxRecDepth 100000
theorem Zz6(a b:Int):Value.int .i64 (IntKind.i64.wrap (RowKit.intOf (Value.int .i64 (w64 a))+b))=.int .i64 (w64 (a+b)):=by
 show Value.int .i64 (IntKind.i64.wrap (w64 a+b))=_
 rw[ZqE]
theorem ZlL(e:E)(m:Mem)(hr:RepE m e):CX Tryz.prog 69 #[e.v] m [] (Ret (.int .i64 (w64 (ZnJ e)))):=by
 apply Zfa
 intro b m1 aE _ b2
 refine Zag (ZcO e m1 (hr.mono' aE)) λm2 aI=>?_
 have cI:=mLt aE aI
 refine Zab (λhl=>?_) (λhl=>Zaf cI (by show Value.int _ _=Value.int _ _;unfold ZnJ;rw[hl,if_neg (by decide),W_0]))
 refine Zan (Ze5 e m2) (λv m' css h=>by obtain⟨_,rfl,_⟩:=h;rfl) ?_
 rintro g fi ca m3 aP ⟨b3,hv,fN⟩
 obtain⟨rfl,rfl,rfl⟩:=Zcn hv
 have dG:=mLt cI aP
 refine⟨_,ZdJ e m3 b3 fN (hr.mono' dG),λy hy=>?_,λ_ css _ m' q=>css=[[.int .i64 (w64 (ZlX Zx8 (e.nodes.take q)))]]/\q<=e.nodes.length,⟨by rw[List.take_zero,ZtB,W_0],by omega⟩,?_,?_⟩
 ·obtain⟨z,_,rfl⟩:=List.mem_map.1 hy;exact Zkp z
 ·rintro n0 v0 s0 n3 a n7 c cs m4 q bU hq ⟨bL,ib⟩ b4
  obtain rfl:cs=[.int .i64 (w64 (ZlX Zx8 (e.nodes.take q)))]:=by simpa using bL
  have hq':(List.map (λz:E=>[z.v]) e.nodes)[(q:Nat)]?=some [Value.agg #[.int .u8 n0,v0,.string s0,.int .i64 n3,.slice a n7 c]]:=hq
  rw[List.getElem?_map]at hq'
  obtain⟨z,hz,ig⟩:=Option.map_eq_some_iff.1 hq'
  have qc:q < e.nodes.length:=(zA0 hz).1
  simp only[E.v,List.cons.injEq,Value.agg.injEq,Array.mk.injEq,Value.int.injEq,Value.string.injEq,Value.slice.injEq,true_and,and_true]at ig
  obtain⟨rfl,rfl,rfl,rfl,rfl,rfl,rfl⟩:=ig
  have cB:=ZuG Zx8 hz
  refine Zaa rfl (ZcH (Zxb z.k m4) λm5 cC=>Zab (λh=>Zak rfl (Zaa rfl ⟨rfl,?_,by omega⟩)) (λh=>⟨rfl,?_,by omega⟩))
  ·have h:Zx8 z=true:=h
   rw[h,if_pos rfl]at cB
   rw[Zz6,cB]
  ·have h:Zx8 z=false:=h
   rw[h,if_neg (by decide),Int.add_zero]at cB
   rw[cB]
 ·rintro cs m4 bU ⟨bL,_⟩
  rw[List.length_map,List.take_length]at bL
  obtain rfl:cs=[.int .i64 (w64 (ZlX Zx8 e.nodes))]:=by simpa using bL
  refine Zak rfl (Zaf (mLt dG bU) ?_)
  show Value.int _ _=Value.int _ _
  unfold ZnJ;rw[hl,if_pos rfl]
theorem Zri(t:E)(m:Mem)(hr:RepE m t):CX Tryz.prog 70 #[t.v] m [] (Ret (.int .i64 (w64 (vrE t)))):=by
 apply Zoq
 intro b m1 aE _
 have hn:vrE t=(if Zyx t then 1 else 0)+ZlX Zyx (Zam t.subs):=by unfold vrE;rw[Zbf,Zjf]
 obtain⟨ol,aB⟩:=Zen (hr.mono' aE)
 refine⟨Zyx t,Zab (λh=>⟨rfl,?_⟩) (λh=>⟨rfl,?_⟩),?_⟩
 ·have h:(t.k == 9)=true:=h
  show[Value.bool true]=[Value.bool (t.k == 9||t.k == 10)];rw[h];rfl
 ·have h:(t.k == 9)=false:=h
  show[Value.bool (t.k == 10)]=[Value.bool (t.k == 9||t.k == 10)];rw[h];rfl
 refine Zab (λh=>?_) (λh=>?_)
 ·refine⟨λxs _ _ m'' q=>∃i:Nat,i<=t.subs.length/\xs=[.int .i64 (w64 (1+ZlX Zyx (Zam (t.subs.take i)))),.int .i64 i]/\m1.le m''/\q=t.subs.length - i,⟨t.subs.length,0,by omega,?_,Mem.le_refl _,by omega⟩,?_⟩
  ·show[Value.int .i64 _,Value.int .i64 0]=[Value.int .i64 (w64 (1+0)),Value.int .i64 0]
   rw[show w64 (1+0)=w64 1 from rfl,show IntKind.i64.wrap (0+1)=w64 1 from rfl]
  rintro y n m2 q aI ⟨i,hi,cE,eX,hq⟩
  simp only[List.cons.injEq,Value.int.injEq,true_and,and_true]at cE
  obtain⟨rfl,rfl⟩:=cE
  refine ZaA (λaC=>?_) (λbJ=>?_)
  ·have aK:i < t.subs.length:=by have:(i:Int) < (t.subs.length:Nat):=aC;omega
   obtain⟨x,hx⟩:∃x,t.subs[i]?=some x:=⟨_,zA3 aK⟩
   have bI:=Zgz (zA2 hx)
   obtain h0|⟨b1,o1,ha,eU⟩:=aB
   ·rw[h0]at aK;simp at aK
   obtain⟨dB,dQ⟩:=(eU.mono' eX).get hx
   refine⟨b1,o1,ha,⟨by omega,by omega⟩,_,_,_,_,_,dB,λb2=>Zaa rfl (ZcH (Zri x m2 dQ) λm3 aP=>⟨rfl,t.subs.length - (i+1),by omega,i+1,by omega,?_,mLt eX aP,rfl⟩)⟩
   rw[ZqE,Zwy,Zeo hx,ZqF,Zal (n:=(i:Int)+1) (by omega) (by omega),Int.add_assoc]
   rfl
  ·have hi':i=t.subs.length:=by have:¬(i:Int) < (t.subs.length:Nat):=bJ;omega
   subst hi'
   refine Zaf (mLt aE eX) ?_
   show Value.int _ _=Value.int _ _
   rw[hn,List.take_length,h,if_pos rfl]
 ·refine⟨λxs _ _ m'' q=>∃i:Nat,i<=t.subs.length/\xs=[.int .i64 (w64 (0+ZlX Zyx (Zam (t.subs.take i)))),.int .i64 i]/\m1.le m''/\q=t.subs.length - i,⟨t.subs.length,0,by omega,?_,Mem.le_refl _,by omega⟩,?_⟩
  ·show[Value.int .i64 _,Value.int .i64 0]=[Value.int .i64 (w64 (0+0)),Value.int .i64 0]
   rw[show(0:Int)+0=0 from rfl,W_0]
  rintro y n m2 q aI ⟨i,hi,cE,eX,hq⟩
  simp only[List.cons.injEq,Value.int.injEq,true_and,and_true]at cE
  obtain⟨rfl,rfl⟩:=cE
  refine ZaA (λaC=>?_) (λbJ=>?_)
  ·have aK:i < t.subs.length:=by have:(i:Int) < (t.subs.length:Nat):=aC;omega
   obtain⟨x,hx⟩:∃x,t.subs[i]?=some x:=⟨_,zA3 aK⟩
   have bI:=Zgz (zA2 hx)
   obtain h0|⟨b1,o1,ha,eU⟩:=aB
   ·rw[h0]at aK;simp at aK
   obtain⟨dB,dQ⟩:=(eU.mono' eX).get hx
   refine⟨b1,o1,ha,⟨by omega,by omega⟩,_,_,_,_,_,dB,λb2=>Zaa rfl (ZcH (Zri x m2 dQ) λm3 aP=>⟨rfl,t.subs.length - (i+1),by omega,i+1,by omega,?_,mLt eX aP,rfl⟩)⟩
   rw[ZqE,Zwy,Zeo hx,ZqF,Zal (n:=(i:Int)+1) (by omega) (by omega),Int.add_assoc]
   rfl
  ·have hi':i=t.subs.length:=by have:¬(i:Int) < (t.subs.length:Nat):=bJ;omega
   subst hi'
   refine Zaf (mLt aE eX) ?_
   show Value.int _ _=Value.int _ _
   rw[hn,List.take_length,h,if_neg (by decide)]
termination_by SizeOf.sizeOf t
decreasing_by all_goals exact bI
theorem Zhq(s:Sc)(m:Mem):CX Tryz.prog 71 #[s.v] m [] (λv m' _=>∃b,v=.func (.func 105) #[] #[.pointer (some ⟨b,0,none⟩)]/\m'.reads b 0 s.cs):=by
 apply ZhZ
 intro b m' hm hb
 exact⟨m',hm,Mem.le_refl _,b,rfl,hb⟩
theorem ZfM(s:Sc)(m:Mem)(c0b:Nat)(hr:RepC m s)(hb:m.reads c0b 0 s.cs):IX Tryz.prog 105 [] [.pointer (some ⟨c0b,0,none⟩)] m ((Zbz s).map λa=>[.agg a.cs.toArray]):=by
 apply Zf6 0 [] [] c0b 0
 intro l
 have eW:s.states.length<=100000:=hr.len
 refine⟨.slice s.sa s.states.length s.sc,hb 2 _ rfl,Zaa rfl ⟨λxs _ _ m' q=>∃i:Nat,i<=s.states.length/\xs=[.int .i64 (((s.states.take i).flatMap Zkx).length:Nat),.int .i64 i]/\q=s.states.length - i,⟨s.states.length,0,by omega,rfl,rfl⟩,?_⟩⟩
 rintro y n m1 q aE ⟨i,hi,hx,rfl⟩
 simp only[List.cons.injEq,Value.int.injEq,true_and,and_true]at hx
 obtain⟨rfl,rfl⟩:=hx
 have hw:IntKind.i64.wrap ((i:Int)+1)=((i+1:Nat):Int):=by rw[Zal (by omega) (by omega)];rfl
 refine ZaA (λaC=>?_) (λbJ=>.inl ?_)
 ·have aC:(i:Int) < (s.states.length:Nat):=aC
  obtain⟨x,hx⟩:=Zaq (show i < s.states.length by omega)
  have mI:=zA2 hx
  obtain⟨b1,o1,fE,dB⟩:=Zaj Sta.len (hr.mono aE).row hx (by omega)
  have cE:=(hr.mono aE).all x mI
  have iS:x.rules.length<=100000:=cE.len
  refine Zaa rfl ⟨b1,o1,fE,⟨by omega,aC⟩,_,_,dB,λb2=>Zaa rfl (Zaa rfl ⟨λxs _ _ m' q=>∃k:Nat,k<=x.rules.length/\xs=[.int .i64 (((s.states.take i).flatMap Zkx).length+((x.rules.take k).flatMap (·.acts)).length:Nat),.int .i64 k]/\q=x.rules.length - k,⟨x.rules.length,0,by omega,rfl,rfl⟩,?_⟩)⟩
  rintro y n2 m2 q2 aI ⟨k,hk,gC,rfl⟩
  simp only[List.cons.injEq,Value.int.injEq,true_and,and_true]at gC
  obtain⟨rfl,rfl⟩:=gC
  have i6:IntKind.i64.wrap ((k:Int)+1)=((k+1:Nat):Int):=by rw[Zal (by omega) (by omega)];rfl
  refine ZaA (λdX=>?_) (λeE=>?_)
  ·have dX:(k:Int) < (x.rules.length:Nat):=dX
   obtain⟨r,eH⟩:=Zaq (show k < x.rules.length by omega)
   obtain⟨b3,o3,fF,gD⟩:=Zaj Ru.len (cE.mono aI).row eH (by omega)
   have e8:=(cE.mono aI).all r (zA2 eH)
   have pi:r.acts.length<=100000:=e8.len
   refine Zaa rfl ⟨b3,o3,fF,⟨by omega,dX⟩,_,_,_,_,_,_,_,_,_,_,_,_,_,_,_,_,gD,λb4=>Zaa rfl (Zaa rfl ⟨λxs _ _ m' q=>∃j:Nat,j<=r.acts.length/\xs=[.int .i64 (((s.states.take i).flatMap Zkx).length+(((x.rules.take k).flatMap (·.acts)).length+j):Nat),.int .i64 j]/\q=r.acts.length - j,⟨r.acts.length,0,by omega,rfl,rfl⟩,?_⟩)⟩
   rintro y n3 m3 q3 aP ⟨j,hj,lQ,rfl⟩
   simp only[List.cons.injEq,Value.int.injEq,true_and,and_true]at lQ
   obtain⟨rfl,rfl⟩:=lQ
   have kJ:IntKind.i64.wrap ((j:Int)+1)=((j+1:Nat):Int):=by rw[Zal (by omega) (by omega)];rfl
   refine ZaA (λgW=>?_) (λgB=>?_)
   ·have gW:(j:Int) < (r.acts.length:Nat):=gW
    obtain⟨a,ha⟩:=Zaq (show j < r.acts.length by omega)
    obtain⟨b5,o5,oA,iU⟩:=Zaj Ac.len (e8.mono aP).row ha (by omega)
    refine Zaa rfl ⟨b5,o5,oA,⟨by omega,gW⟩,_,_,_,_,_,_,_,_,iU,λb6=>Zaa rfl ⟨⟨rfl,Int.natCast_nonneg _,?_⟩,⟨rfl,r.acts.length - (j+1),by omega,j+1,by omega,by rw[kJ];rfl,rfl⟩,.inr rfl⟩⟩
    show(List.map (λa:Ac=>[Value.agg a.cs.toArray]) (Zbz s))[((((s.states.take i).flatMap Zkx).length+(((x.rules.take k).flatMap (·.acts)).length+j):Nat):Int).toNat]?=some [Value.agg a.cs.toArray]
    rw[zA8,List.getElem?_map,show(Zbz s)[_]?=some a from ZtC Zkx hx (ZtC (·.acts) eH ha)];rfl
   ·have gB:¬(j:Int) < (r.acts.length:Nat):=gB
    have:j=r.acts.length:=by omega
    subst this
    refine⟨rfl,x.rules.length - (k+1),by omega,k+1,by omega,?_,rfl⟩
    rw[ZnK (·.acts) eH,zA1,i6]
  ·have eE:¬(k:Int) < (x.rules.length:Nat):=eE
   have:k=x.rules.length:=by omega
   subst this
   refine⟨s.states.length - (i+1),by omega,i+1,by omega,?_,rfl⟩
   rw[ZnK Zkx hx,zA1,List.take_length,hw];rfl
 ·have bJ:¬(i:Int) < (s.states.length:Nat):=bJ
  have:i=s.states.length:=by omega
  subst this
  rw[List.take_length,List.length_map];rfl
theorem Zmm(e:E)(a b c d f g:Int)(c0b:Nat)(m:Mem)(hr:RepE m e):CX Tryz.prog 68 #[e.v,.pointer (some ⟨c0b,0,none⟩)] m [⟨c0b,msV a b c d (w64 f) (w64 g),75,6,false,true⟩] (λv _ css=>v=.tuple #[]/\css=[msV a b c d (w64 (f+ZnJ e)) (w64 (g+vrE e))]):=by
 apply ZjM
 intro b1 m1 aE _
 refine⟨λ_ _ _=>Ret (.int .i64 (w64 (ZnJ e))),_,rfl,ZlL e m1 (hr.mono' aE),(λv _ _ h=>by rw[show v=_ from h];rfl),?_⟩
 intro n m2 aI hv M fP fD
 obtain rfl:n=w64 (ZnJ e):=by simpa using(show Value.int .i64 n=Value.int .i64 _ from hv)
 refine⟨λ_ _ _=>Ret (.int .i64 (w64 (vrE e))),_,rfl,Zri e M (hr.mono' (mLt aE fP)),(λv _ _ h=>by rw[show v=_ from h];rfl),?_⟩
 intro n2 m3 aP x7 M2 gm gS
 obtain rfl:n2=w64 (vrE e):=by simpa using(show Value.int .i64 n2=Value.int .i64 _ from x7)
 refine⟨rfl,m,Mem.le_refl _,mLt aE (mLt fP gm),rfl,?_⟩
 rw[ZuF,ZuF,<-ZqE f,<-ZqE g]
 show[[_,_,_,_,Value.int .i64 (w64 (w64 f+ZnJ e)),Value.int .i64 (w64 (w64 g+vrE e))]]=_
 rfl
set_option maxHeartbeats 1000000 in
theorem Zmn(s:Sc)(m:Mem)(hr:RepC m s):CX Tryz.prog 21 #[s.v] m [] (Ret (.agg (Zip s).toArray)):=by
 apply Zor
 intro b m1 aE _ b1 b2
 have eW:s.states.length<=100000:=hr.len
 refine Zag (ZbW s m1 (hr.mono aE)) λm2 aI=>?_
 have cI:=mLt aE aI
 refine Zab (λhl=>Zaf cI ?_) (λhl=>?_)
 ·have hl:s.light=false:=by simpa using hl
  show Value.agg _=Value.agg _
  unfold Zip;rw[hl];rfl
 have hl:s.light=true:=by simpa using hl
 refine⟨λxs css _ m' q=>∃i:Nat,i<=s.states.length/\xs=[.int .i64 i]/\css=[msV s.states.length (w64 (Zaw ((s.states.take i).map ruS))) (w64 (Zaw ((s.states.take i).map rgS))) 0 0 0]/\q=s.states.length - i,⟨s.states.length,0,by omega,rfl,?_,rfl⟩,?_⟩
 ·show[_]=[msV _ (w64 0) (w64 0) 0 0 0]
  rw[W_0];rfl
 rintro z cs m3 q aP ⟨i,hi,hz,bL,rfl⟩
 obtain rfl:z=i:=by simpa using hz
 obtain rfl:=(List.cons.inj bL).1
 have dG:=mLt cI aP
 have js:IntKind.i64.wrap ((i:Int)+1)=((i+1:Nat):Int):=by rw[Zal (by omega) (by omega)];rfl
 refine ZaA (λaC=>?_) (λbJ=>?_)
 ·have aC:(i:Int) < (s.states.length:Nat):=aC
  obtain⟨x,hx⟩:=Zaq (show i < s.states.length by omega)
  obtain⟨b3,o3,fF,dB⟩:=Zaj Sta.len (hr.mono dG).row hx (by omega)
  have cE:=(hr.mono dG).all x (zA2 hx)
  have iS:x.rules.length<=100000:=cE.len
  have g1:=Za7 ruS hx
  have g2:=Za7 rgS hx
  refine⟨b3,o3,fF,⟨by omega,aC⟩,_,_,dB,λb4=>Zaa rfl (Zak rfl (Zaa rfl (Zaa rfl (Zaa rfl (Zaa rfl ?_)))))⟩
  refine⟨λxs css _ m' q=>∃k:Nat,k<=x.rules.length/\xs=[.int .i64 k]/\css=[msV s.states.length (w64 (Zaw ((s.states.take (i+1)).map ruS))) (w64 (Zaw ((s.states.take i).map rgS)+Zaw ((x.rules.take k).map rgR))) 0 0 0]/\q=x.rules.length - k,⟨x.rules.length,0,by omega,rfl,?_,rfl⟩,?_⟩
  ·show[_]=[msV _ _ (w64 (_+0)) 0 0 0]
   rw[g1,<-ZqE,Int.add_zero];rfl
  rintro z cs m4 q bU ⟨k,hk,hz,bL,rfl⟩
  obtain rfl:z=k:=by simpa using hz
  obtain rfl:=(List.cons.inj bL).1
  have i6:IntKind.i64.wrap ((k:Int)+1)=((k+1:Nat):Int):=by rw[Zal (by omega) (by omega)];rfl
  refine ZaA (λdX=>?_) (λeE=>⟨rfl,s.states.length - (i+1),by omega,i+1,by omega,by rw[js],?_,rfl⟩)
  ·have dX:(k:Int) < (x.rules.length:Nat):=dX
   obtain⟨r,eH⟩:=Zaq (show k < x.rules.length by omega)
   obtain⟨b5,o5,oA,gD⟩:=Zaj Ru.len (cE.mono bU).row eH (by omega)
   have e8:=(cE.mono bU).all r (zA2 eH)
   have g3:=Za7 rgR eH
   refine Zaa rfl ⟨b5,o5,oA,⟨by omega,dX⟩,_,_,_,_,_,_,_,_,_,_,_,_,_,_,_,_,gD,λb6=>Zaa rfl (Zaa rfl (Zab (λh1=>?_) (λh1=>⟨rfl,x.rules.length - (k+1),by omega,k+1,by omega,by rw[i6],?_,rfl⟩)))⟩
   ·have h1':r.k=1:=by have h1:(r.k == (1:Int))=true:=h1;simpa using h1
    refine⟨λ_ _ _=>Ret (.int .i64 r.t.size),Zak rfl ⟨_,rfl,ZtO r.t m4 e8.t,(λv _ _ h=>by rw[show v=_ from h];rfl),?_⟩⟩
    intro n m5 cC hv
    obtain rfl:n=r.t.size:=by simpa using(show Value.int .i64 n=Value.int .i64 _ from hv)
    refine Zaa rfl (Zaa rfl λM hM _=>⟨rfl,x.rules.length - (k+1),by omega,k+1,by omega,by rw[i6],?_,rfl⟩)
    rw[g3,show rgR r=r.t.size from if_pos h1',<-Int.add_assoc,Zpo (Zaw ((s.states.take i).map rgS)+Zaw ((x.rules.take k).map rgR)) r.t.size]
    rfl
   ·have h1':¬r.k=1:=by have h1:(r.k == (1:Int))=false:=h1;simpa using h1
    rw[g3,show rgR r=0 from if_neg h1',Int.add_zero]
  ·have eE:¬(k:Int) < (x.rules.length:Nat):=eE
   have:k=x.rules.length:=by omega
   subst this
   rw[List.take_length,g2];rfl
 have bJ:¬(i:Int) < (s.states.length:Nat):=bJ
 have:i=s.states.length:=by omega
 subst this
 rw[List.take_length]
 intro b3
 refine Zan (Zhq s m3) (λv m' css h=>by obtain⟨_,rfl,_⟩:=h;rfl) ?_
 rintro g fi ca m4 bU ⟨b4,hv,pg⟩
 obtain⟨rfl,rfl,rfl⟩:=Zcn hv
 have fO:=mLt dG bU
 refine⟨_,ZfM s m4 b4 (hr.mono fO) pg,λy hy=>?_,λ_ css _ m' q=>css=[msV s.states.length (w64 (ms1 s)) (w64 (ms2 s)) (w64 (Zaw (((Zbz s).take q).map paA))) (w64 (Zaw (((Zbz s).take q).map ZoK))) (w64 (Zaw (((Zbz s).take q).map vrA)))]/\q<=(Zbz s).length,⟨?_,by omega⟩,?_,?_⟩
 ·obtain⟨z,_,rfl⟩:=List.mem_map.1 hy;rfl
 ·show[_]=[msV _ _ _ (w64 0) (w64 0) (w64 0)]
  rw[W_0];rfl
 ·rintro k0 s0 pa pn pc ek ev es eg ea en ec cs m5 q cC hq ⟨bL,ib⟩ b6
  obtain rfl:=(List.cons.inj bL).1
  have hq':(List.map (λa:Ac=>[Value.agg a.cs.toArray]) (Zbz s))[(q:Nat)]?=some [Value.agg #[.int .u8 k0,.string s0,.slice pa pn pc,.int .u8 ek,ev,.string es,.int .i64 eg,.slice ea en ec]]:=hq
  rw[List.getElem?_map]at hq'
  obtain⟨a,mU,ig⟩:=Option.map_eq_some_iff.1 hq'
  have qc:q < (Zbz s).length:=(zA0 mU).1
  simp only[Ac.cs,List.cons.injEq,Value.agg.injEq,Array.mk.injEq,Value.int.injEq,Value.string.injEq,Value.slice.injEq,true_and,and_true]at ig
  obtain⟨rfl,rfl,⟨rfl,rfl,rfl⟩,rfl,rfl,rfl,rfl,rfl,rfl,rfl⟩:=ig
  have gn:=mLt fO cC
  have iU:=ZuH hr (zA2 mU)
  have jP:a.parts.length<=100000:=iU.n
  generalize nH:Zaw (((Zbz s).take q).map paA)=P0
  generalize vT:Zaw (((Zbz s).take q).map ZoK)=O0
  generalize ub:Zaw (((Zbz s).take q).map vrA)=V0
  refine Zaa rfl (Zab (λh3=>?_) (λh3=>?_))
  ·have h3':a.k=3:=by simpa using h3
   refine⟨_,trivial,Zmm a.e s.states.length (w64 (ms1 s)) (w64 (ms2 s)) (w64 P0) O0 V0 _ m5 (iU.mono gn).e,(λv _ _ h=>by rw[h.1];rfl),λm6 eS cs hv=>?_⟩
   rw[hv.2]
   have uj:=mLt gn eS
   refine⟨λxs css _ m' q=>∃k:Nat,k<=a.parts.length/\xs=[.int .i64 k]/\css=[msV s.states.length (w64 (ms1 s)) (w64 (ms2 s)) (w64 (P0+Zaw ((a.parts.take k).map paP))) (w64 (O0+ZnJ a.e+Zaw ((a.parts.take k).map ZoJ))) (w64 (V0+vrE a.e+Zaw ((a.parts.take k).map vrP)))]/\q=a.parts.length - k,⟨a.parts.length,0,by omega,rfl,?_,rfl⟩,?_⟩
   ·show[_]=[msV _ _ _ (w64 (P0+0)) (w64 (O0+ZnJ a.e+0)) (w64 (V0+vrE a.e+0))]
    simp only[Int.add_zero]
   rintro z cs m6 q eS ⟨k,hk,hz,bL,rfl⟩
   obtain rfl:z=k:=by simpa using hz
   obtain rfl:=(List.cons.inj bL).1
   have gi:=mLt uj eS
   have i6:IntKind.i64.wrap ((k:Int)+1)=((k+1:Nat):Int):=by rw[Zal (by omega) (by omega)];rfl
   refine ZaA (λaC=>?_) (λbJ=>⟨rfl,?_,by omega⟩)
   ·have aC:(k:Int) < (a.parts.length:Nat):=aC
    obtain⟨p,hp⟩:=Zaq (show k < a.parts.length by omega)
    obtain⟨b8,o8,oG,gG⟩:=Zaj Pt.len (iU.mono gi).row hp (by omega)
    have lD:=(iU.mono gi).all p (zA2 hp)
    have g1:=Za7 paP hp
    have g2:=Za7 ZoJ hp
    have g3:=Za7 vrP hp
    refine⟨b8,o8,oG,⟨by omega,aC⟩,_,_,_,_,_,_,_,_,gG,λb9=>Zaa rfl (Zaa rfl (Zab (λh1=>Zak rfl (Zaa rfl (Zaa rfl (Zaa rfl (Zab (λh4=>?_) (λh4=>?_)))))) (λh1=>Zaa rfl (Zab (λh4=>?_) (λh4=>?_)))))⟩
    ·have h1':¬p.k=1:=by have h1:(!(p.k == (1:Int)))=true:=h1;simpa using h1
     have h4':p.k=4:=by have h4:(p.k == (4:Int))=true:=h4;simpa using h4
     refine⟨_,trivial,Zmm p.e s.states.length (w64 (ms1 s)) (w64 (ms2 s)) (IntKind.i64.wrap (RowKit.intOf (Value.int .i64 (w64 (P0+Zaw ((a.parts.take k).map paP))))+1)) _ _ _ m6 lD.e,(λv _ _ h=>by rw[h.1];rfl),λm7 fG cs hv=>⟨rfl,a.parts.length - (k+1),by omega,k+1,by omega,by rw[i6],?_,rfl⟩⟩
     rw[hv.2,g1,g2,g3,show paP p=1 from if_neg h1',show ZoJ p=ZnJ p.e from if_pos h4',show vrP p=vrE p.e from if_pos h4',<-Int.add_assoc,<-Int.add_assoc,<-Int.add_assoc,Zpo (P0+Zaw ((a.parts.take k).map paP)) 1]
     rfl
    ·have h1':¬p.k=1:=by have h1:(!(p.k == (1:Int)))=true:=h1;simpa using h1
     have h4':¬p.k=4:=by have h4:(p.k == (4:Int))=false:=h4;simpa using h4
     refine⟨rfl,a.parts.length - (k+1),by omega,k+1,by omega,by rw[i6],?_,rfl⟩
     rw[g1,g2,g3,show paP p=1 from if_neg h1',show ZoJ p=0 from if_neg h4',show vrP p=0 from if_neg h4',Int.add_zero,Int.add_zero,<-Int.add_assoc,Zpo (P0+Zaw ((a.parts.take k).map paP)) 1]
     rfl
    ·have h1':p.k=1:=by have h1:(!(p.k == (1:Int)))=false:=h1;simpa using h1
     have h4':p.k=4:=by have h4:(p.k == (4:Int))=true:=h4;simpa using h4
     omega
    ·have h1':p.k=1:=by have h1:(!(p.k == (1:Int)))=false:=h1;simpa using h1
     have h4':¬p.k=4:=by have h4:(p.k == (4:Int))=false:=h4;simpa using h4
     refine⟨rfl,a.parts.length - (k+1),by omega,k+1,by omega,by rw[i6],?_,rfl⟩
     rw[g1,g2,g3,show paP p=0 from if_pos h1',show ZoJ p=0 from if_neg h4',show vrP p=0 from if_neg h4',Int.add_zero,Int.add_zero,Int.add_zero]
   ·have bJ:¬(k:Int) < (a.parts.length:Nat):=bJ
    have:k=a.parts.length:=by omega
    subst this
    have e2:ZoK a=ZnJ a.e+Zaw (a.parts.map ZoJ):=by unfold ZoK;rw[if_pos h3']
    have e3:vrA a=vrE a.e+Zaw (a.parts.map vrP):=by unfold vrA;rw[if_pos h3']
    rw[List.take_length,Za7 paA mU,Za7 ZoK mU,Za7 vrA mU,nH,vT,ub,e2,e3]
    rw[<-Int.add_assoc,<-Int.add_assoc]
    rfl
  ·have h3':¬a.k=3:=by simpa using h3
   refine⟨λxs css _ m' q=>∃k:Nat,k<=a.parts.length/\xs=[.int .i64 k]/\css=[msV s.states.length (w64 (ms1 s)) (w64 (ms2 s)) (w64 (P0+Zaw ((a.parts.take k).map paP))) (w64 (O0+Zaw ((a.parts.take k).map ZoJ))) (w64 (V0+Zaw ((a.parts.take k).map vrP)))]/\q=a.parts.length - k,⟨a.parts.length,0,by omega,rfl,?_,rfl⟩,?_⟩
   ·show[_]=[msV _ _ _ (w64 (P0+0)) (w64 (O0+0)) (w64 (V0+0))]
    simp only[Int.add_zero]
   rintro z cs m6 q eS ⟨k,hk,hz,bL,rfl⟩
   obtain rfl:z=k:=by simpa using hz
   obtain rfl:=(List.cons.inj bL).1
   have gi:=mLt gn eS
   have i6:IntKind.i64.wrap ((k:Int)+1)=((k+1:Nat):Int):=by rw[Zal (by omega) (by omega)];rfl
   refine ZaA (λaC=>?_) (λbJ=>⟨rfl,?_,by omega⟩)
   ·have aC:(k:Int) < (a.parts.length:Nat):=aC
    obtain⟨p,hp⟩:=Zaq (show k < a.parts.length by omega)
    obtain⟨b8,o8,oG,gG⟩:=Zaj Pt.len (iU.mono gi).row hp (by omega)
    have lD:=(iU.mono gi).all p (zA2 hp)
    have g1:=Za7 paP hp
    have g2:=Za7 ZoJ hp
    have g3:=Za7 vrP hp
    refine⟨b8,o8,oG,⟨by omega,aC⟩,_,_,_,_,_,_,_,_,gG,λb9=>Zaa rfl (Zaa rfl (Zab (λh1=>Zak rfl (Zaa rfl (Zaa rfl (Zaa rfl (Zab (λh4=>?_) (λh4=>?_)))))) (λh1=>Zaa rfl (Zab (λh4=>?_) (λh4=>?_)))))⟩
    ·have h1':¬p.k=1:=by have h1:(!(p.k == (1:Int)))=true:=h1;simpa using h1
     have h4':p.k=4:=by have h4:(p.k == (4:Int))=true:=h4;simpa using h4
     refine⟨_,trivial,Zmm p.e s.states.length (w64 (ms1 s)) (w64 (ms2 s)) (IntKind.i64.wrap (RowKit.intOf (Value.int .i64 (w64 (P0+Zaw ((a.parts.take k).map paP))))+1)) _ _ _ m6 lD.e,(λv _ _ h=>by rw[h.1];rfl),λm7 fG cs hv=>⟨rfl,a.parts.length - (k+1),by omega,k+1,by omega,by rw[i6],?_,rfl⟩⟩
     rw[hv.2,g1,g2,g3,show paP p=1 from if_neg h1',show ZoJ p=ZnJ p.e from if_pos h4',show vrP p=vrE p.e from if_pos h4',<-Int.add_assoc,<-Int.add_assoc,<-Int.add_assoc,Zpo (P0+Zaw ((a.parts.take k).map paP)) 1]
     rfl
    ·have h1':¬p.k=1:=by have h1:(!(p.k == (1:Int)))=true:=h1;simpa using h1
     have h4':¬p.k=4:=by have h4:(p.k == (4:Int))=false:=h4;simpa using h4
     refine⟨rfl,a.parts.length - (k+1),by omega,k+1,by omega,by rw[i6],?_,rfl⟩
     rw[g1,g2,g3,show paP p=1 from if_neg h1',show ZoJ p=0 from if_neg h4',show vrP p=0 from if_neg h4',Int.add_zero,Int.add_zero,<-Int.add_assoc,Zpo (P0+Zaw ((a.parts.take k).map paP)) 1]
     rfl
    ·have h1':p.k=1:=by have h1:(!(p.k == (1:Int)))=false:=h1;simpa using h1
     have h4':p.k=4:=by have h4:(p.k == (4:Int))=true:=h4;simpa using h4
     omega
    ·have h1':p.k=1:=by have h1:(!(p.k == (1:Int)))=false:=h1;simpa using h1
     have h4':¬p.k=4:=by have h4:(p.k == (4:Int))=false:=h4;simpa using h4
     refine⟨rfl,a.parts.length - (k+1),by omega,k+1,by omega,by rw[i6],?_,rfl⟩
     rw[g1,g2,g3,show paP p=0 from if_pos h1',show ZoJ p=0 from if_neg h4',show vrP p=0 from if_neg h4',Int.add_zero,Int.add_zero,Int.add_zero]
   ·have bJ:¬(k:Int) < (a.parts.length:Nat):=bJ
    have:k=a.parts.length:=by omega
    subst this
    have e2:ZoK a=Zaw (a.parts.map ZoJ):=by unfold ZoK;rw[if_neg h3',Int.zero_add]
    have e3:vrA a=Zaw (a.parts.map vrP):=by unfold vrA;rw[if_neg h3',Int.zero_add]
    rw[List.take_length,Za7 paA mU,Za7 ZoK mU,Za7 vrA mU,nH,vT,ub,e2,e3]
    rfl
 ·rintro cs m5 cC ⟨bL,_⟩
  rw[List.length_map,List.take_length]at bL
  obtain rfl:=(List.cons.inj bL).1
  refine Zaa rfl (Zaf (mLt fO cC) ?_)
  show Value.agg _=Value.agg _
  unfold Zip;rw[hl,if_pos rfl];rfl
theorem NmSt.up{m mm mL:Mem}{v0:Value}{a:Option Addr}{c:Nat}{l:List ByteArray}(h:NmSt m v0 mm a c l)(bQ:mm.le mL):NmSt m v0 mL a c l:=⟨h.row.mono bQ,mLt h.base (Zim bQ),h.new⟩
theorem Zvi{a:Option Addr}{n c b:Nat}(h:Yn (.slice a n c) b):∃o e,a=some ⟨b,o,e⟩:=by
 cases a with
 | none=>simp[Yn,Tok.blk]at h
 | some q=>
  obtain⟨b',o,e⟩:=q
  obtain rfl:b'=b:=by simpa[Yn,Tok.blk]using h
  exact⟨o,e,rfl⟩
def ZAn(v0:Value)(m:Mem)(l:List ByteArray):RTY:=λv m' css tvs=>∃a c,v=.tuple #[]/\css=[[.slice a l.length c]]/\tvs=[.slice a l.length c]/\rowRd m' a (Zcb l)/\(∀b,Yn (.slice a l.length c) b->Yn v0 b\/(m.free b/\m.k b=none))/\(l=[]->a=none)
theorem ZjN{v0 m l}:∀(v:Value)(m':Mem) (css:List (List Value)) (tvs:List Value),ZAn v0 m l v m' css tvs->Shape.fits (.tup []) v=true:=λv _ _ _ ⟨_,_,h,_⟩=>by rw[h];rfl
theorem Zos(l out:List ByteArray)(la:Option Addr)(lc:Nat)(a:Option Addr)(c c0b:Nat)(m:Mem)(hl:rowRd (m.off (Yn (.slice a out.length c))) la (Zcb l))(ho:rowRd m a (Zcb out))(eF:out=[]->a=none)(hb:out.length+l.length<=100000):
  CXY Tryz.prog 108 #[.slice la l.length lc,.pointer (some ⟨c0b,0,none⟩)] m (Yn (.slice a out.length c)) [⟨c0b,[.slice a out.length c],80,1,false,true⟩] [⟨.slice a out.length c,1⟩] (ZAn (.slice a out.length c) m (l.foldl ZeH out)):=by
 apply ZhW
 refine⟨λxs css tvs mm q=>∃(i:Nat)(a':Option Addr)(c':Nat),i<=l.length/\xs=[.int .i64 i]/\css=[[.slice a' ((l.take i).foldl ZeH out).length c']]/\tvs=[.slice none 0 0,.slice a' ((l.take i).foldl ZeH out).length c']/\NmSt m (.slice a out.length c) mm a' c' ((l.take i).foldl ZeH out)/\((l.take i).foldl ZeH out=[]->a'=none)/\q=l.length - i,
  ⟨_,0,a,c,by omega,rfl,rfl,rfl,⟨ho,Mem.le_refl _,λb h=>.inl h⟩,eF,rfl⟩,?_⟩
 rintro z cs a1 n1 c1 a2 n2 c2 mm q _ ⟨i,a',c',hi,hz,bL,cD,hS,hn,rfl⟩
 obtain rfl:z=i:=by simpa using hz
 simp only[List.cons.injEq,Value.slice.injEq,and_true]at bL cD
 obtain⟨⟨rfl,rfl,rfl⟩,rfl,rfl,rfl⟩:=cD
 subst bL
 have aH:=Zmf (l.take i) out
 rw[List.length_take]at aH
 have js:IntKind.i64.wrap ((i:Int)+1)=((i+1:Nat):Int):=by rw[Zal (by omega) (by omega)];rfl
 refine ZaA (λaC=>?_) (λbJ=>⟨rfl,?_⟩)
 ·have aC:(i:Int) < (l.length:Nat):=aC
  obtain⟨s,hs⟩:=Zdz (show i < l.length by omega)
  have cB:=Ze4 ZeH out hs
  obtain⟨b,o,ha,hv⟩:=ZyP (hl.mono (mLt hS.base (Mem.off_le _ _))) (show(Zcb l)[i]?=some (.string s) by unfold Zcb;rw[List.getElem?_map,hs];rfl)
  refine⟨b,o,ha,⟨by omega,aC⟩,_,hv,Zak rfl (Zag (ZgI ((l.take i).foldl ZeH out) a2 c2 s mm (by omega) hS.row) λm2 aI=>?_)⟩
  have vU:=hS.up aI
  refine Zab (λh=>Zak rfl (Zaa rfl λb3 gA=>Zaa rfl ?_)) (λh=>⟨rfl,rfl,?_⟩)
  ·have iP:((l.take i).foldl ZeH out).any (λy=>eqS s y)=false:=by simpa using h
   have eC:ZeH ((l.take i).foldl ZeH out) s=(l.take i).foldl ZeH out++[s]:=ZyB iP
   rw[eC]at cB
   have bQ:m2.le (m2.add b3 [.string s]):=Mem.le_add gA _
   have vV:=vU.up bQ
   refine⟨.inl rfl,Zcb ((l.take i).foldl ZeH out),[.string s],by rw[Zd9];exact(Nat.mul_one _).symm,rfl,vV.row,.inr ⟨b3,0,rfl,Zdd m2 b3 _⟩,λu hu=>?_,by show(((l.take i).foldl ZeH out).length+1)*16<=_;omega,by show((l.take i).foldl ZeH out).length+1<=_;omega,λa5 c5 m5 cC bM hT=>⟨rfl,rfl,l.length - (i+1),by omega,i+1,a5,c5,by omega,by rw[js],?_,?_,?_,?_,rfl⟩⟩
   ·obtain rfl:u=.string s:=by simpa using hu
    rfl
   ·rw[cB,zA1];rfl
   ·rw[cB,zA1];rfl
   ·have e:((l.take i).foldl ZeH out++[s]).length=((l.take i).foldl ZeH out).length+1:=by rw[zA1];rfl
    rw[cB]
    refine vV.step (mLt (Mem.off_le _ _) cC) (by unfold Zcb at bM ⊢;rw[List.map_append];exact bM) λb' hb'=>?_
    obtain⟨oo,oe,hb'⟩:=Zvi hb'
    rcases hT.2 with h|⟨b6,o6,ha',h⟩
    ·rw[h]at hb';cases hb'
    ·rw[ha']at hb';cases hb'
     rcases h with h|⟨_,h2,h3⟩
     ·left
      have h:a2=a5:=h
      rw[h,ha'];simp[Yn,Tok.blk]
     ·exact .inr ⟨h2,h3⟩
   ·rw[cB];intro e;simp at e
  ·have iP:((l.take i).foldl ZeH out).any (λy=>eqS s y)=true:=by simpa using h
   have eC:ZeH ((l.take i).foldl ZeH out) s=(l.take i).foldl ZeH out:=ZyC iP
   rw[eC]at cB
   exact⟨l.length - (i+1),by omega,i+1,a2,c2,by omega,by rw[js],by rw[cB],by rw[cB],by rw[cB];exact vU,by rw[cB];exact hn,rfl⟩
 ·have bJ:¬(i:Int) < (l.length:Nat):=bJ
  have hi:i=l.length:=by omega
  subst hi
  rw[List.take_length]at hS hn ⊢
  exact⟨a2,c2,rfl,rfl,rfl,hS.row,hS.new,hn⟩
def Zzu(r:Ru):Value->Mem->List (List Value)->Prop:=λv m' _=>∃s:Sc,v=s.v/\RepC m' s/\s.light=ZhD r/\Zbz s=r.acts
theorem Zfb{r:Ru}:∀(v:Value)(m':Mem) (css:List (List Value)),Zzu r v m' css->Shape.fits (.agg [.int .i64,.slice,.slice]) v=true:=λv _ _ ⟨t,e,_⟩=>by rw[e];rfl
theorem ZsS(r:Ru)(m:Mem)(hr:RepR m r):CX Tryz.prog 75 #[.agg r.cs.toArray] m [] (Zzu r):=by
 apply ZsR
 intro b m1 aE _ b1 b2 qb b3 gA
 have h2:m1.le (m1.add b2 r.cs):=Mem.le_add qb _
 have h3:(m1.add b2 r.cs).le ((m1.add b2 r.cs).add b3 [.string ⟨#[]⟩,.slice (some ⟨b2,0,none⟩) 1 1]):=Mem.le_add gA _
 have vW:=mLt aE (mLt h2 h3)
 refine⟨_,vW,Mem.le_refl _,⟨0,none,0,[],some ⟨b3,0,none⟩,1,[⟨⟨#[]⟩,some ⟨b2,0,none⟩,1,[r]⟩]⟩,rfl,⟨by show I64 0;unfold I64;omega,by show 0<=few;omega,.inl rfl,by simp,by show 1<=few;unfold few;omega,Zbh,λx hx=>?_,Nat.le_refl _,Nat.le_refl _⟩,?_,?_⟩
 ·simp only[List.mem_singleton]at hx
  subst hx
  have aB:rowRd (m1.add b2 r.cs) (some ⟨b2,0,none⟩) ([r].map Ru.cs).flatten:=by simpa using(Zbh (m:=m1) (b:=b2) (cs:=r.cs))
  exact⟨by show(ByteArray.mk #[]).size<=_;decide,by show 1<=few;unfold few;omega,aB.mono h3,λp hp=>by
   simp only[List.mem_singleton]at hp;subst hp;exact hr.mono vW⟩
 ·unfold Sc.light Sc.weight ZhD
  simp only[List.length_nil,List.length_singleton,List.map_cons,List.map_nil,Zaw,wS]
  congr 1
  refine propext ?_
  constructor <;> intro h <;> simp only[Int.add_zero]at h ⊢ <;> omega
 ·simp[Zbz,Zkx]
theorem Zrj(e:E){M0 mm:Mem}{v0:Value}{a:Option Addr}{c:Nat}{o:List ByteArray}(hS:NmSt M0 v0 mm a c o)(hn:o=[]->a=none)(he:RepE (M0.off (Yn v0)) e):
  CX Tryz.prog 109 #[e.v] mm [] (λv m' _=>∃a1 c1,v=.slice a1 e.vars.length c1/\∃m1:Mem,m1.le m'/\rowRd (m1.off (Yn (.slice a o.length c))) a1 (Zcb e.vars)):=by
 refine((Zu8 e (mm.off (Yn (.slice a o.length c))) (RepE.mono' he hS.base)).frame2 (Mem.off_le _ _)).mono ?_
 rintro v m' css _ ⟨m1,h1,h2,h3,a1,c1,hv,aB⟩
 refine⟨a1,c1,hv,m1,h2,?_⟩
 rcases aB with h|⟨b,oo,ha,h⟩
 ·exact .inl h
 ·refine .inr ⟨b,oo,ha,λj u hj=>?_⟩
  by_cases hY:Yn (.slice a o.length c) b
  ·exfalso
   obtain⟨o2,e2,fy⟩:=Zvi hY
   have ho:o≠[]:=λe=>by rw[hn e]at fy;cases fy
   rcases hS.row with h4|⟨b4,o4,kw,h4⟩
   ·have:=congrArg List.length h4
    rw[Zd9]at this
    exact ho (List.eq_nil_of_length_eq_zero (by simpa using this))
   ·rw[fy]at kw;cases kw
    have aC:0 < (Zcb o).length:=by rw[Zd9];exact List.length_pos_iff.2 ho
    have h5:=h3 _ _ _ (h4 0 _ (zA3 aC)) (oo+j)
    have h6:(mm.off (Yn (.slice a o.length c))) b (oo+j)=none:=Mem.off_free hY _
    rw[h6]at h5
    have h7:=h j u hj
    rw[h5]at h7;cases h7
  ·rw[Mem.off_at hY];exact h j u hj
theorem Zz7(m:Mem):NmSt m (.slice none 0 0) m none 0 []:=⟨.inl rfl,Mem.le_refl _,λb h=>.inl h⟩
theorem NmSt.put{M0 mm m':Mem}{v0:Value}{a a':Option Addr}{c c':Nat}{o l:List ByteArray}(h:NmSt M0 v0 mm a c o)(bQ:(mm.off (Yn (.slice a o.length c))).le m')(hr:rowRd m' a' (Zcb l))(hn:∀b,Yn (.slice a' l.length c') b->Yn (.slice a o.length c) b\/(mm.free b/\mm.k b=none)):NmSt M0 v0 m' a' c' l:=h.step bQ hr hn
theorem NmSt.low{m mm:Mem}{a:Option Addr}{c:Nat}{l:List ByteArray}(h:NmSt m (.slice none 0 0) mm a c l):m.le mm:=by
 have hY:∀b,¬Yn (.slice none 0 0) b:=λb hb=>by simp[Yn,Tok.blk]at hb
 have gy:m.le (m.off (Yn (.slice none 0 0))):=⟨λb o v hv=>by rw[Mem.off_at (hY b)];exact hv,λb e he=>by rw[Mem.off_k (hY b)];exact he⟩
 exact mLt gy (mLt h.base (Mem.off_le _ _))
theorem ZtY(m:Mem):m.le (m.off (Yn (.slice none 0 0))):=ZfT (Mem.le_refl m) λb hb=>by simp[Yn,Tok.blk]at hb
theorem Zxf{M0 mm:Mem}{v0:Value}{a:Option Addr}{c b:Nat}{o:List ByteArray}(hS:NmSt M0 v0 mm a c o)(hn:o=[]->a=none)(hf:mm.free b):¬Yn (.slice a o.length c) b:=λhY=>by
 obtain⟨o2,e2,fy⟩:=Zvi hY
 have ho:o≠[]:=λe=>by rw[hn e]at fy;cases fy
 rcases hS.row with h4|⟨b4,o4,kw,h4⟩
 ·have:=congrArg List.length h4
  rw[Zd9]at this
  exact ho (List.eq_nil_of_length_eq_zero (by simpa using this))
 ·rw[fy]at kw;cases kw
  have aC:0 < (Zcb o).length:=by rw[Zd9];exact List.length_pos_iff.2 ho
  have:=h4 0 _ (zA3 aC)
  rw[hf]at this;cases this
theorem Zot{cs:List Value}{a7:Option Addr}{c7 d7:Nat}{v0:Value}{m m7:Mem}{l:List ByteArray}{v:Value}(h:ZAn v0 m l v m7 [cs] [.slice a7 c7 d7]):c7=l.length/\cs=[.slice a7 l.length d7]/\rowRd m7 a7 (Zcb l)/\(∀b,Yn (.slice a7 l.length d7) b->Yn v0 b\/(m.free b/\m.k b=none))/\(l=[]->a7=none):=by
 obtain⟨a8,c8,_,bL,cD,aB,bK,eF⟩:=h
 simp only[List.cons.injEq,Value.slice.injEq,and_true]at bL cD
 obtain⟨rfl,rfl,rfl⟩:=cD
 exact⟨rfl,bL,aB,bK,eF⟩
theorem ZtZ(r:Ru)(w:Bool)(m:Mem)(hr:RepR m r):CX Tryz.prog 74 #[.agg r.cs.toArray,.bool w] m [] (ZvE (Zsu w r)):=by
 have pi:r.acts.length<=100000:=hr.len
 apply Zol
 intro b m1 aE jI gc _ b1 m2 aI _ _ _
 have cI:=mLt aE aI
 refine⟨_,trivial,ZsS r m2 (hr.mono cI),Zfb,?_⟩
 rintro n a n1 c a1 n2 c1 m3 aP ⟨s,hv,hs,eW,oh⟩
 rw[hv]
 have dG:=mLt cI aP
 refine Zag (ZbW s m3 hs) λm4 bU=>Zab (λh=>Zaf (mLt dG bU) ?_) (λh=>?_)
 ·have hl:ZhD r=false:=by rw[<-eW];simpa using h
  unfold Zsu
  rw[hl]
  exact⟨none,0,rfl,.inl rfl⟩
 have hl:ZhD r=true:=by rw[<-eW];simpa using h
 have fO:=mLt dG bU
 intro b3 b4
 refine⟨_,trivial,ZsS r m4 (hr.mono fO),Zfb,?_⟩
 rintro n' a' n1' c' a1' n2' c1' m5 cC ⟨s',hv',hs',uk,oH⟩
 rw[hv']
 have gn:=mLt fO cC
 refine Zan (Zhq s' m5) (λv m' css h=>by obtain⟨_,rfl,_⟩:=h;rfl) ?_
 rintro g fi ca m6 eS ⟨b5,fU,ul⟩
 obtain⟨rfl,rfl,rfl⟩:=Zcn fU
 have gi:=mLt gn eS
 have qA:=ZfM s' m6 b5 (hs'.mono eS) ul
 rw[oH]at qA
 have um:=hr.mono gi
 refine⟨m6,Mem.le_refl _,_,qA,λy hy=>?_,λ_ css tvs mm q=>∃(a:Option Addr)(c:Nat),q<=r.acts.length/\css=[[.slice a ((r.acts.take q).foldl (ZfJ w) []).length c]]/\tvs=[.slice a ((r.acts.take q).foldl (ZfJ w) []).length c]/\NmSt m6 (.slice none 0 0) mm a c ((r.acts.take q).foldl (ZfJ w) [])/\((r.acts.take q).foldl (ZfJ w) []=[]->a=none),⟨none,0,by omega,rfl,rfl,Zz7 m6,λ_=>rfl⟩,?_,?_⟩
 ·obtain⟨z,_,rfl⟩:=List.mem_map.1 hy;rfl
 ·rintro k0 s0 pa pn pc k1 x1 s1 g1 sa sn sc cs ta tn tc mm q jj hq ⟨a',c',ib,bL,cD,hS,hn⟩ b6
  simp only[List.cons.injEq,Value.slice.injEq,and_true]at bL cD
  obtain⟨rfl,rfl,rfl⟩:=cD
  subst bL
  have hq':(List.map (λa:Ac=>[Value.agg a.cs.toArray]) r.acts)[(q:Nat)]?=some [Value.agg #[.int .u8 k0,.string s0,.slice pa pn pc,.int .u8 k1,x1,.string s1,.int .i64 g1,.slice sa sn sc]]:=hq
  rw[List.getElem?_map]at hq'
  obtain⟨x,hx,qB⟩:=Option.map_eq_some_iff.1 hq'
  have qc:=(zA0 hx).1
  simp only[Ac.cs,List.cons.injEq,Value.agg.injEq,Array.mk.injEq,Value.int.injEq,Value.string.injEq,Value.slice.injEq,true_and,and_true]at qB
  obtain⟨rfl,rfl,⟨rfl,rfl,rfl⟩,rfl,rfl,rfl,rfl,rfl,rfl,rfl⟩:=qB
  have cB:=Ze4 (ZfJ w) [] hx
  have x8:=ZwD w hl q hx
  have dB:=um.all x (zA2 hx)
  have zl:=Zqo x
  have jP:x.parts.length<=100000:=dB.n
  obtain⟨o,ho⟩:∃o,o=(r.acts.take q).foldl (ZfJ w) []:=⟨_,rfl⟩
  rw[<-ho]at hS hn cB x8 ⊢
  have jt:ZfJ w o x=o->NmSt m6 (.slice none 0 0) mm ta tc o/\((r.acts.take (q+1)).foldl (ZfJ w) []=o):=λh=>⟨hS,by rw[cB,h]⟩
  refine Zaa rfl ?_
  cases w with
  | true=>
   refine ZsF rfl ⟨x.k == 2||x.k == 3,Zab (λh=>⟨rfl,rfl,by rw[h];rfl⟩) (λh=>⟨rfl,rfl,by rw[h];rfl⟩),Zab (λh b7 kx=>?_) (λh=>?_)⟩
   ·have hu:ZfJ true o x=ZeH o x.s:=by
     unfold ZfJ;rw[if_pos rfl,if_pos (by simpa using h)]
    have rR:=hS.up (Mem.le_add kx [.string x.s])
    have un:=Zxf hS hn kx
    refine⟨_,_,Zos [x.s] o (some ⟨b7,0,none⟩) 1 ta tc b3 (mm.add b7 [.string x.s]) ?_ rR.row hn (by simp;omega),λt ht bb eB=>?_,λbb eB=>.inl ⟨_,by simp,eB⟩,ZjN,?_⟩
    ·refine .inr ⟨b7,0,rfl,λj v hj=>?_⟩
     rw[Mem.off_at un]
     exact Zdd mm b7 _ j v hj
    ·obtain rfl:t=_:=by simpa using ht
     exact eB
    ·rintro m7 fG _ cs7 a7 c7 d7 hp
     obtain⟨rfl,rfl,aB,bK,eF⟩:=Zot hp
     have hS':=rR.step fG aB bK
     rw[show[x.s].foldl ZeH o=ZeH o x.s from rfl,<-hu,<-cB]at hS' eF ⊢
     exact⟨hS'.low,rfl,a7,d7,by omega,rfl,rfl,hS',eF⟩
   ·have hu:ZfJ true o x=o:=by
     unfold ZfJ;rw[if_pos rfl,if_neg (by simpa using h)]
    have:=jt hu
    exact⟨jj,rfl,ta,tc,by omega,by rw[this.2],by rw[this.2],by rw[this.2];exact hS,by rw[this.2];exact hn⟩
  | false=>
   have hu:ZfJ false o x=x.parts.foldl ZcT (Zcj o x):=by unfold ZfJ;rw[if_neg (by decide)]
   have iJ:=ZqK x.e
   refine Zhy rfl ⟨λ_ css tvs mm'=>∃(a:Option Addr)(c:Nat),css=[[.slice a (Zcj o x).length c]]/\tvs=[.slice a (Zcj o x).length c]/\NmSt m6 (.slice none 0 0) mm' a c (Zcj o x)/\(Zcj o x=[]->a=none),Zab (λh=>?_) (λh=>?_),?_⟩
   ·have hk:Zcj o x=x.e.vars.foldl ZeH o:=by unfold Zcj;rw[if_pos (by simpa using h)]
    refine⟨λ_ _ _=>_,_,rfl,Zrj x.e hS hn (RepE.mono' dB.e (ZtY m6)),(λv _ _ ⟨_,_,e,_⟩=>by rw[e];rfl),?_⟩
    rintro a8 n8 c8 m8 fh ⟨a9,c9,mO,m9,iz,kK⟩ M hM vX
    simp only[Value.slice.injEq]at mO
    obtain⟨rfl,rfl,rfl⟩:=mO
    have qC:=hS.up hM
    refine⟨_,_,Zos x.e.vars o a8 c8 ta tc b3 M (kK.mono (Zim (mLt iz vX))) qC.row hn (by omega),λt ht bb eB=>?_,λbb eB=>.inl ⟨_,by simp,eB⟩,ZjN,?_⟩
    ·obtain rfl:t=_:=by simpa using ht
     exact eB
    ·rintro m7 fG _ cs7 a7 c7 d7 hp
     obtain⟨rfl,rfl,aB,bK,eF⟩:=Zot hp
     have hS':=qC.step fG aB bK
     rw[<-hk]at hS' eF ⊢
     exact⟨rfl,rfl,a7,d7,rfl,rfl,hS',eF⟩
   ·have hk:Zcj o x=o:=by unfold Zcj;rw[if_neg (by simpa using h)]
    exact⟨rfl,rfl,ta,tc,by rw[hk],by rw[hk],by rw[hk];exact hS,by rw[hk];exact hn⟩
   rintro cs ja jn jc m7 _ ⟨a',c',bL,cD,rR,x9⟩
   simp only[List.cons.injEq,Value.slice.injEq,and_true]at bL cD
   obtain⟨rfl,rfl,rfl⟩:=cD
   subst bL
   refine⟨λxs css tvs mm' q=>∃(j:Nat)(a:Option Addr)(c:Nat),j<=x.parts.length/\xs=[.int .i64 j]/\css=[[.slice a ((x.parts.take j).foldl ZcT (Zcj o x)).length c]]/\tvs=[.slice a ((x.parts.take j).foldl ZcT (Zcj o x)).length c]/\NmSt m6 (.slice none 0 0) mm' a c ((x.parts.take j).foldl ZcT (Zcj o x))/\((x.parts.take j).foldl ZcT (Zcj o x)=[]->a=none)/\q=x.parts.length - j,⟨_,0,ja,jc,by omega,rfl,rfl,rfl,rR,x9,rfl⟩,?_⟩
   rintro z cs a1 n1 c1 m8 q2 _ ⟨j,a',c',hj,hz,bL,cD,lx,jT,rfl⟩
   obtain rfl:z=j:=by simpa using hz
   simp only[List.cons.injEq,Value.slice.injEq,and_true]at bL cD
   obtain⟨rfl,rfl,rfl⟩:=cD
   subst bL
   have kJ:IntKind.i64.wrap ((j:Int)+1)=((j+1:Nat):Int):=by rw[Zal (by omega) (by omega)];rfl
   have yb:=Zhm o x j
   refine ZaA (λaC=>?_) (λbJ=>?_)
   ·have aC:(j:Int) < (x.parts.length:Nat):=aC
    obtain⟨p,hp⟩:=Zdz (show j < x.parts.length by omega)
    have rS:=dB.mono lx.low
    obtain⟨b8,o8,oG,oI⟩:=Zaj Pt.len rS.row hp (by omega)
    have gG:=dB.all p (zA2 hp)
    have fH:=Ze4 ZcT (Zcj o x) hp
    have yd:=Zhm o x (j+1)
    have qD:=ZqK p.e
    obtain⟨o',ho'⟩:∃o',o'=(x.parts.take j).foldl ZcT (Zcj o x):=⟨_,rfl⟩
    rw[<-ho']at lx jT fH yb ⊢
    refine⟨b8,o8,oG,⟨by omega,aC⟩,_,_,_,_,_,_,_,_,oI,λb9=>Zaa rfl (Zaa rfl (Zab (λh=>Zaa rfl λb10 gV=>?_) (λh=>Zaa rfl (Zab (λh2=>?_) (λh2=>?_)))))⟩
    ·have h:(p.k == 2)=true:=h
     have hk:ZcT o' p=ZeH o' p.s:=by unfold ZcT;rw[if_pos (by simpa using h)]
     have qE:=lx.up (Mem.le_add gV [.string p.s])
     have un:=Zxf lx jT gV
     refine⟨_,_,Zos [p.s] o' (some ⟨b10,0,none⟩) 1 a1 c1 b3 (m8.add b10 [.string p.s]) ?_ qE.row jT (by simp;omega),λt ht bb eB=>?_,λbb eB=>.inl ⟨_,by simp,eB⟩,ZjN,?_⟩
     ·refine .inr ⟨b10,0,rfl,λj v hj=>?_⟩
      rw[Mem.off_at un]
      exact Zdd m8 b10 _ j v hj
     ·obtain rfl:t=_:=by simpa using ht
      exact eB
     ·rintro m9 iz _ cs9 a9 c9 d9 uo
      obtain⟨rfl,rfl,aB,bK,eF⟩:=Zot uo
      have hS':=qE.step iz aB bK
      rw[show[p.s].foldl ZeH o'=ZeH o' p.s from rfl,<-hk,<-fH]at hS' eF ⊢
      exact⟨rfl,rfl,x.parts.length - (j+1),by omega,j+1,a9,d9,by omega,by rw[kJ],rfl,rfl,hS',eF,rfl⟩
    ·have h:(p.k == 2)=false:=h
     have h2:(p.k == 4)=true:=h2
     have hk:ZcT o' p=p.e.vars.foldl ZeH o':=by unfold ZcT;rw[if_neg (by simpa using h),if_pos (by simpa using h2)]
     refine⟨λ_ _ _=>_,_,rfl,Zrj p.e lx jT (RepE.mono' gG.e (ZtY m6)),(λv _ _ ⟨_,_,e,_⟩=>by rw[e];rfl),?_⟩
     rintro a10 n10 c10 m10 i7 ⟨a9,c9,mO,m9,iz,kK⟩ M hM qF
     simp only[Value.slice.injEq]at mO
     obtain⟨rfl,rfl,rfl⟩:=mO
     have qC:=lx.up hM
     refine⟨_,_,Zos p.e.vars o' a10 c10 a1 c1 b3 M (kK.mono (Zim (mLt iz qF))) qC.row jT (by omega),λt ht bb eB=>?_,λbb eB=>.inl ⟨_,by simp,eB⟩,ZjN,?_⟩
     ·obtain rfl:t=_:=by simpa using ht
      exact eB
     ·rintro m11 fQ _ cs9 a9 c9 d9 uo
      obtain⟨rfl,rfl,aB,bK,eF⟩:=Zot uo
      have hS':=qC.step fQ aB bK
      rw[<-hk,<-fH]at hS' eF ⊢
      exact⟨rfl,rfl,x.parts.length - (j+1),by omega,j+1,a9,d9,by omega,by rw[kJ],rfl,rfl,hS',eF,rfl⟩
    ·have h:(p.k == 2)=false:=h
     have h2:(p.k == 4)=false:=h2
     have hk:ZcT o' p=o':=by unfold ZcT;rw[if_neg (by simpa using h),if_neg (by simpa using h2)]
     rw[hk]at fH
     exact⟨rfl,rfl,x.parts.length - (j+1),by omega,j+1,a1,c1,by omega,by rw[kJ],by rw[fH],by rw[fH],by rw[fH];exact lx,by rw[fH];exact jT,rfl⟩
   ·have bJ:¬(j:Int) < (x.parts.length:Nat):=bJ
    have hj:j=x.parts.length:=by omega
    subst hj
    rw[List.take_length,<-hu,<-cB]at lx jT ⊢
    exact⟨lx.low,rfl,a1,c1,by omega,rfl,rfl,lx,jT⟩
 ·rintro cs a7 n7 c7 m7 fG ⟨a',c',_,bL,cD,hS,hn⟩
  rw[List.length_map,List.take_length]at bL cD hS
  simp only[List.cons.injEq,Value.slice.injEq,and_true]at bL cD
  obtain⟨rfl,rfl,rfl⟩:=cD
  subst bL
  refine Zak rfl (ZaM (mLt gi fG) ?_)
  unfold Zsu
  rw[hl,if_pos rfl]
  exact⟨a7,c7,rfl,hS.row⟩
theorem Zvj(r:Ru)(m:Mem)(hr:RepR m r):CX Tryz.prog 27 #[.agg r.cs.toArray] m [] (ZvE (Zsu false r)):=by
 apply ZlI
 intro b m0 e7 _
 refine Zan (ZtZ r false m0 (hr.mono e7)) ZgW ?_
 rintro a n c m1 aE ⟨a',c',hv,aB⟩
 exact ZaM (mLt e7 aE) ⟨a',c',hv,aB⟩
theorem ZsT(r:Ru)(m:Mem)(hr:RepR m r):CX Tryz.prog 28 #[.agg r.cs.toArray] m [] (ZvE (Zsu true r)):=by
 apply ZjK
 intro b m0 e7 _
 refine Zan (ZtZ r true m0 (hr.mono e7)) ZgW ?_
 rintro a n c m1 aE ⟨a',c',hv,aB⟩
 exact ZaM (mLt e7 aE) ⟨a',c',hv,aB⟩
end Go.Proofs.YtpjepnkiiojgfaaGreat
end
