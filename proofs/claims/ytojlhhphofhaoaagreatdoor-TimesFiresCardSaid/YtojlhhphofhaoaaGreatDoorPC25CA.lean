/- Part of the proof: functions of the program. No condition. -/
import Derived.Test.YtojlhhphofhaoaaGreatDoorPEnv
import Derived.Test.YtojlhhphofhaoaaGreatDoorMc
import Derived.Test.YtojlhhphofhaoaaGreatDoorPC25D
import Derived.Test.YtojlhhphofhaoaaGreatDoorMr
import Derived.Test.YtojlhhphofhaoaaGreatDoorPC25MC
set_option linter.unusedVariables false
set_option linter.unusedSimpArgs false
set_option linter.unusedSectionVars false
namespace Go.Proofs.YtojlhhphofhaoaaGreatDoor
open Go Go.Eng Go.Proofs Go.RowKit
open Go.Value (int slice agg bool string tuple func)
open Go.IntKind (u8 u64 i64)
set_option maxRecDepth 100000
noncomputable def Zw4:Env:={ EB with
 frzNew:=[1] }
theorem ZuE(aA:Int)(aC aD:Bool)(aE aU aT aR cO cP dF:Int)(bJ:Option Addr)(bK bL:Nat)(bY:ByteArray)(bW:Int)(bN:Option Addr)(bO bP:Nat)(cA:ByteArray)(cB:Int)(m:Mem)(R:RT)(h:
 lV [int u8 aA,bool aC,bool aD,int u8 aE,int u64 aU,int u64 aT,int u64 aR,int u64 cO,int i64 cP,int i64 dF,slice bJ bK bL,string bY,int i64 bW,slice bN bO
 bP,string cA,int i64 cB] λxL=>fzM m xL λb m'=>∀(b b:Nat),m'.free b->∀(b_1:Nat),Mem.free (m'.add b xL) b_1->rtM m (Mem.add (m'.add b xL) b_1 [string bE0,slice (some (Addr.mk b 0 none)) 1 1]) R (agg (Array.mk [int i64 0,slice none 0 0,slice (some (Addr.mk b_1 0 none)) 1 1]))):CX Tryz.prog 46 #[.agg #[.int .u8 aA,.bool aC,.bool aD,.int .u8 aE,.int .u64 aU,.int .u64 aT,.int .u64 aR,.int .u64 cO,.int .i64 cP,.int .i64 dF,.slice bJ bK bL,.string bY,.int .i64 bW,.slice bN bO bP,.string cA,.int .i64 cB]] m [] R:=
 Zao (E:=Zw4) Zak mix Tryz.func46 (by kernel_rfl) (Eq.mp (by kernel_rfl) h)
noncomputable def Zjo:Env:={ EB with
 joins:=(λi=>bif Nat.beq i 1 then some [(4,.bool)]else none)
 frzNew:=[2,3] }
theorem Zh4(aA:Int)(aC:ByteArray)(aD aE:Int)(aU:Value)(aT:ByteArray)(aR:Int)(aQ:Option Addr)(aO aS:Nat)(bE:Int)(bF:ByteArray)(bT bQ:Int)(cR:Value)(cS:ByteArray)(cT:Int)(dP:Option Addr)(dQ dR:Nat)(m:Mem)(R:RT)(h:
 lV [int u8 aE,aU,string aT,int i64 aR,slice aQ aO aS] λxL=>lV [int u8 bQ,cR,string cS,int i64 cT,slice dP dQ dR] λxL_1=>lV (int u8 bE::string bF::int i64 bT
 :: xL_1) λxL_2=>lV (int u8 aA::string aC::int i64 aD::xL) λxL_3=>fzM m xL_3 λb m'=>lE [some (Box.mk b xL_3 143 8 true true)] λxL_4=>fzM m' xL_2 λb m'=>∃(b_1:Bool),lV [bool b_1]
 λxL_5=>lE (some (Box.mk b xL_2 143 8 true true)::xL_4) λxL_6=>br (aA == bE) (br (ByteArray.toList aC == ByteArray.toList bF) (br (aD == bT) (kB Tryz.prog 115 [agg (Array.mk xL),agg (Array.mk
 xL_1)] m' λb m'=>Zad xL_6/\[bool b]=xL_5) (Zad xL_6/\[bool false]=xL_5)) (Zad xL_6/\[bool false]=xL_5)) (Zad xL_6/\[bool false]=xL_5)/\rtM m m' R (bool b_1)):CX Tryz.prog 114 #[.agg #[.int .u8 aA,.string aC,.int .i64 aD,.int .u8 aE,aU,.string aT,.int .i64 aR,.slice aQ aO aS],.agg #[.int .u8 bE,.string bF,.int .i64 bT,.int .u8 bQ,cR,.string cS,.int .i64 cT,.slice dP dQ dR]] m [] R:=
 Zao (E:=Zjo) Zak mix Tryz.func114 (by kernel_rfl) (Eq.mp (by kernel_rfl) h)
noncomputable def ZaI:Env:={ EB with
 loops:=(λi=>bif Nat.beq i 4 then⟨[(17,.int .i64)],[],[],false⟩ else⟨[],[],[],false⟩) }
theorem ZaG(p0a:Option Addr)(p0n p0c:Nat)(p1a:Option Addr)(p1n p1c p2g:Nat)(p2fi p2ca:List Value)(m:Mem)(R:RT)(h:
 br (!(↑p0n:Int) == (↑p1n:Int)) (rtM m m R (bool false)) (∃(I:IT),inI I [int i64 0] [] [] m/\∀(n:Int)(m':Mem)(n_1:Nat),m.le m'->I [int i64 n] [] [] m' n_1->br (decide (n < (↑p0n:Int))) (atA p0a
 λb o=>Zag n p0n/\∃v v_1 v_2 v_3 v_4 v_5 v_6 v_7:Value,lV [v,v_1,v_2,v_3,v_4,v_5,v_6,v_7] λxL=>
 m'.reads b (o+Int.toNat n*8) xL/\∀(b:Nat),chk (v.oneCell'&&(v_1.oneCell'&&(v_2.oneCell'&&(v_3.oneCell'&&(v_4.oneCell'&&(v_5.oneCell'&&(v_6.oneCell' &&
 (v_7.oneCell'&&true)))))))) (atA p1a λb o=>Zag n p1n/\∃v v_8 v_9 v_10 v_11 v_12 v_13 v_14:Value,lV [v,
 v_8,v_9,v_10,v_11,v_12,v_13,v_14] λxL_1=>m'.reads b (o+Int.toNat n*8) xL_1/\∀(b:Nat),chk (v.oneCell'&&(v_8.oneCell'&&(v_9.oneCell'&&(v_10.oneCell'&&(v_11.oneCell'&&(v_12.oneCell'&&(v_13.oneCell'&&(v_14.oneCell'&&true)))))))) (kB Tryz.prog p2g (List.append (List.append p2fi [agg (Array.mk xL),agg (Array.mk xL_1)]) p2ca) m' λb m'=>br (!b) (rtM m
 m' R (bool false)) (nxI n_1 I [int i64 (i64.wrap (n+(1:Int)))] [] [] m')))) (rtM m m' R (bool true)))):CX Tryz.prog 134 #[.slice p0a p0n p0c,.slice p1a p1n p1c,.func (.func p2g) p2fi.toArray p2ca.toArray] m [] R:=
 Zao (E:=ZaI) Zak mix Tryz.func134 (by kernel_rfl) (Eq.mp (by kernel_rfl) h)
noncomputable def ZdZ:Env:=EB
theorem ZdL(p0a:Option Addr)(p0n p0c:Nat)(p1a:Option Addr)(p1n p1c p2g:Nat)(p2fi p2ca:List Value)(m:Mem)(R:RT)(h:
 kB Tryz.prog 134 [slice p0a p0n p0c,slice p1a p1n p1c,func (Fn.func p2g) (Array.mk p2fi) (Array.mk p2ca)] m λb m'=>rtM m m' R (bool b)):CX Tryz.prog 113 #[.slice p0a p0n p0c,.slice p1a p1n p1c,.func (.func p2g) p2fi.toArray p2ca.toArray] m [] R:=
 Zao (E:=ZdZ) Zak mix Tryz.func113 (by kernel_rfl) (Eq.mp (by kernel_rfl) h)
noncomputable def ZgN:Env:={ EB with
 joins:=(λi=>bif Nat.beq i 1 then some [(4,.bool)]else none)
 frzNew:=[2,3] }
theorem ZfS(aA:Int)(aC:ByteArray)(aJ:Option Addr)(aG aK:Nat)(aE:Int)(aU:Value)(aT:ByteArray)(aR:Int)(aQ:Option Addr)(aO aS:Nat)(bE:Int)(bF:ByteArray)(kO:Option Addr)(kP kQ:Nat)(bQ:Int)(cR:Value)(cS:ByteArray)(cT:Int)(dP:Option Addr)(dQ dR:Nat)(m:Mem)(R:RT)(h:
 lV [int u8 aE,aU,string aT,int i64 aR,slice aQ aO aS] λxL=>lV [int u8 bQ,cR,string cS,int i64 cT,slice dP dQ dR] λxL_1=>lV (int u8 aA::string aC::slice aJ
 aG aK::xL) λxL_2=>lV (int u8 bE::string bF::slice kO kP kQ::xL_1) λxL_3=>fzM m xL_2 λb m'=>lE [some (Box.mk b xL_2 141 8 true true)] λxL_4=>fzM m' xL_3 λb m'=>∃(b_1:
 Bool),lV [bool b_1] λxL_5=>lE (some (Box.mk b xL_3 141 8 true true)::xL_4) λxL_6=>br (aA == bE) (br (ByteArray.toList aC == ByteArray.toList bF) (kB Tryz.prog 113 [slice aJ aG aK,slice
 kO kP kQ,func (Fn.func 114) (Array.mk []) (Array.mk [])] m' λb m'=>br b (kB Tryz.prog 115 [agg (Array.mk xL),agg (Array.mk xL_1)] m' λb m'=>Zad xL_6/\[bool b]=xL_5) (Zad xL_6/\[bool false]
 = xL_5)) (Zad xL_6/\[bool false]=xL_5)) (Zad xL_6/\[bool false]=xL_5)/\rtM m m' R (bool b_1)):CX Tryz.prog 82 #[.agg #[.int .u8 aA,.string aC,.slice aJ aG aK,.int .u8 aE,aU,.string aT,.int .i64 aR,.slice aQ aO aS],.agg #[.int .u8 bE,.string bF,.slice kO kP kQ,.int .u8 bQ,cR,.string cS,.int .i64 cT,.slice dP dQ dR]] m [] R:=
 Zao (E:=ZgN) Zak mix Tryz.func82 (by kernel_rfl) (Eq.mp (by kernel_rfl) h)
noncomputable def Zax:Env:={ EB with
 loops:=(λi=>bif Nat.beq i 4 then⟨[(17,.int .i64)],[],[],false⟩ else⟨[],[],[],false⟩) }
theorem Zaw(p0a:Option Addr)(p0n p0c:Nat)(p1a:Option Addr)(p1n p1c p2g:Nat)(p2fi p2ca:List Value)(m:Mem)(R:RT)(h:
 br (!(↑p0n:Int) == (↑p1n:Int)) (rtM m m R (bool false)) (∃(I:IT),inI I [int i64 0] [] [] m/\∀(n:Int)(m':Mem)(n_1:Nat),m.le m'->I [int i64 n] [] [] m' n_1->br (decide (n < (↑p0n:Int))) (atA p0a
 λb o=>Zag n p0n/\∃v v_1 v_2 v_3 v_4 v_5 v_6 v_7:Value,lV [v,v_1,v_2,v_3,v_4,v_5,v_6,v_7] λxL=>
 m'.reads b (o+Int.toNat n*8) xL/\∀(b:Nat),chk (v.oneCell'&&(v_1.oneCell'&&(v_2.oneCell'&&(v_3.oneCell'&&(v_4.oneCell'&&(v_5.oneCell'&&(v_6.oneCell' &&
 (v_7.oneCell'&&true)))))))) (atA p1a λb o=>Zag n p1n/\∃v v_8 v_9 v_10 v_11 v_12 v_13 v_14:Value,lV [v,
 v_8,v_9,v_10,v_11,v_12,v_13,v_14] λxL_1=>m'.reads b (o+Int.toNat n*8) xL_1/\∀(b:Nat),chk (v.oneCell'&&(v_8.oneCell'&&(v_9.oneCell'&&(v_10.oneCell'&&(v_11.oneCell'&&(v_12.oneCell'&&(v_13.oneCell'&&(v_14.oneCell'&&true)))))))) (kB Tryz.prog p2g (List.append (List.append p2fi [agg (Array.mk xL),agg (Array.mk xL_1)]) p2ca) m' λb m'=>br (!b) (rtM m
 m' R (bool false)) (nxI n_1 I [int i64 (i64.wrap (n+(1:Int)))] [] [] m')))) (rtM m m' R (bool true)))):CX Tryz.prog 112 #[.slice p0a p0n p0c,.slice p1a p1n p1c,.func (.func p2g) p2fi.toArray p2ca.toArray] m [] R:=
 Zao (E:=Zax) Zak mix Tryz.func112 (by kernel_rfl) (Eq.mp (by kernel_rfl) h)
noncomputable def Zdo:Env:=EB
theorem Zdi(p0a:Option Addr)(p0n p0c:Nat)(p1a:Option Addr)(p1n p1c p2g:Nat)(p2fi p2ca:List Value)(m:Mem)(R:RT)(h:
 kB Tryz.prog 112 [slice p0a p0n p0c,slice p1a p1n p1c,func (Fn.func p2g) (Array.mk p2fi) (Array.mk p2ca)] m λb m'=>rtM m m' R (bool b)):CX Tryz.prog 81 #[.slice p0a p0n p0c,.slice p1a p1n p1c,.func (.func p2g) p2fi.toArray p2ca.toArray] m [] R:=
 Zao (E:=Zdo) Zak mix Tryz.func81 (by kernel_rfl) (Eq.mp (by kernel_rfl) h)
noncomputable def Zjp:Env:={ EB with
 joins:=(λi=>bif Nat.beq i 1 then some [(4,.bool)]else none)
 frzNew:=[2,3] }
theorem Zh5(aA:Int)(aC aD:Bool)(aE aU aT aR cO cP dF:Int)(bJ:Option Addr)(bK bL:Nat)(bY:ByteArray)(bW:Int)(bN:Option Addr)(bO bP:Nat)(cA:ByteArray)(cB bE:Int)(bF bT:Bool)(bQ cR cS cT fC fD fE:Int)(cV:Option Addr)(cW cX:Nat)(dY:ByteArray)(dZ:Int)(cY:Option Addr)(cZ dA:Nat)(eA:ByteArray)(eB:Int)(m:Mem)(R:RT)(h:
 lV [int u8 bE,bool bF,bool bT,int u8 bQ,int u64 cR,int u64 cS,int u64 cT,int u64 fC,int i64 fD,int i64 fE,slice cV cW cX,string dY,int i64 dZ,slice cY cZ
 dA,string eA,int i64 eB] λxL=>lV [int u8 aA,bool aC,bool aD,int u8 aE,int u64 aU,int u64 aT,int u64 aR,int u64 cO,int i64 cP,int i64 dF,slice bJ bK bL,string
 bY,int i64 bW,slice bN bO bP,string cA,int i64 cB] λxL_1=>fzM m xL_1 λb m'=>lE [some (Box.mk b xL_1 57 16 true true)] λxL_2=>fzM m' xL λb m'=>∃(b_1:Bool),lV [bool b_1]
 λxL_3=>lE (some (Box.mk b xL 57 16 true true)::xL_2) λxL=>br (aA == bE) (br (aC == bF) (br (aD == bT) (kB Tryz.prog 80 [agg (Array.mk [int u8 aE,int u64 aU,int u64 aT,int u64 aR,int
 u64 cO,int i64 cP,int i64 dF,slice bJ bK bL]),agg (Array.mk [int u8 bQ,int u64 cR,int u64 cS,int u64 cT,int u64 fC,int i64 fD,int i64 fE,slice cV cW cX])] m' λb
 m'=>br b (br (ByteArray.toList bY == ByteArray.toList dY) (br (bW == dZ) (kB Tryz.prog 81 [slice bN bO bP,slice cY cZ dA,func (Fn.func 82) (Array.mk []) (Array.mk [])] m' λb m'
 => br b (br (ByteArray.toList cA == ByteArray.toList eA) (Zad xL/\[bool (cB == eB)]=xL_3) (Zad xL/\[bool false]=xL_3)) (Zad xL/\[bool false]=xL_3)) (Zad xL/\[bool false]=xL_3))
 (Zad xL/\[bool false]=xL_3)) (Zad xL/\[bool false]=xL_3)) (Zad xL/\[bool false]=xL_3)) (Zad xL/\[bool false]=xL_3)) (Zad xL/\[bool false]=xL_3)/\rtM m m' R (bool b_1)):CX Tryz.prog 47 #[.agg #[.int .u8 aA,.bool aC,.bool aD,.int .u8 aE,.int .u64 aU,.int .u64 aT,.int .u64 aR,.int .u64 cO,.int .i64 cP,.int .i64 dF,.slice bJ bK bL,.string bY,.int .i64 bW,.slice bN bO bP,.string cA,.int .i64 cB],.agg #[.int .u8 bE,.bool bF,.bool bT,.int .u8 bQ,.int .u64 cR,.int .u64 cS,.int .u64 cT,.int .u64 fC,.int .i64 fD,.int .i64 fE,.slice cV cW cX,.string dY,.int .i64 dZ,.slice cY cZ dA,.string eA,.int .i64 eB]] m [] R:=
 Zao (E:=Zjp) Zak mix Tryz.func47 (by kernel_rfl) (Eq.mp (by kernel_rfl) h)
noncomputable def Zjq:Env:={ EB with
 joins:=(λi=>bif Nat.beq i 1 then some [(4,.bool)]else none)
 frzNew:=[2,3] }
theorem Zh6(aA:Int)(aC aD:Bool)(aE aU aT aR cO cP dF:Int)(bJ:Option Addr)(bK bL:Nat)(bY:ByteArray)(bW:Int)(bN:Option Addr)(bO bP:Nat)(cA:ByteArray)(cB bE:Int)(bF bT:Bool)(bQ cR cS cT fC fD fE:Int)(cV:Option Addr)(cW cX:Nat)(dY:ByteArray)(dZ:Int)(cY:Option Addr)(cZ dA:Nat)(eA:ByteArray)(eB:Int)(m:Mem)(R:RT)(h:
 lV [int u8 aA,bool aC,bool aD,int u8 aE,int u64 aU,int u64 aT,int u64 aR,int u64 cO,int i64 cP,int i64 dF,slice bJ bK bL,string bY,int i64 bW,slice bN bO
 bP,string cA,int i64 cB] λxL=>lV [int u8 bE,bool bF,bool bT,int u8 bQ,int u64 cR,int u64 cS,int u64 cT,int u64 fC,int i64 fD,int i64 fE,slice cV cW cX,string
 dY,int i64 dZ,slice cY cZ dA,string eA,int i64 eB] λxL_1=>fzM m xL λb m'=>lE [some (Box.mk b xL 57 16 true true)] λxL_2=>fzM m' xL_1 λb m'=>∃(b_1:Bool),lE (some
 (Box.mk b xL_1 57 16 true true)::xL_2) λxL_3=>(∃(R:RT),True/\CX Tryz.prog 46 (Array.mk [agg (Array.mk xL)]) m' [] R/\Za1 (Shape.agg [Shape.int i64,Shape.slice,Shape.slice]) R/\∀(n:Int) (a:Option
 Addr) (n_1 c:Nat) (a_1:Option Addr) (n_2 c_1:Nat) (m'_1:Mem),lX (agg (Array.mk [int i64 n,slice a n_1 c,slice a_1 n_2 c_1])) λyL=>m'.le m'_1->R yL m'_1 []->kB Tryz.prog 38 [yL] m'_1 λb m'=>br
 b (∃(R:RT),True/\CX Tryz.prog 46 (Array.mk [agg (Array.mk xL_1)]) m' [] R/\Za1 (Shape.agg [Shape.int i64,Shape.slice,Shape.slice]) R/\∀(n:Int)(a:Option Addr)(n_3 c:Nat)(a_2:Option Addr) (n_4 c_2:
 Nat) (m'_2:Mem),lX (agg (Array.mk [int i64 n,slice a n_3 c,slice a_2 n_4 c_2])) λyL=>m'.le m'_2->R yL m'_2 []->kB Tryz.prog 38 [yL] m'_2 λb m'=>br b (kB Tryz.prog 47 [agg (Array.mk xL),agg
 (Array.mk xL_1)] m' λb m'=>Zad xL_3/\[bool b]=[bool b_1]) (Zad xL_3/\[bool false]=[bool b_1])) (Zad xL_3/\[bool false]=[bool b_1]))/\rtM m m' R (bool b_1)):CX Tryz.prog 17 #[.agg #[.int .u8 aA,.bool aC,.bool aD,.int .u8 aE,.int .u64 aU,.int .u64 aT,.int .u64 aR,.int .u64 cO,.int .i64 cP,.int .i64 dF,.slice bJ bK bL,.string bY,.int .i64 bW,.slice bN bO bP,.string cA,.int .i64 cB],.agg #[.int .u8 bE,.bool bF,.bool bT,.int .u8 bQ,.int .u64 cR,.int .u64 cS,.int .u64 cT,.int .u64 fC,.int .i64 fD,.int .i64 fE,.slice cV cW cX,.string dY,.int .i64 dZ,.slice cY cZ dA,.string eA,.int .i64 eB]] m [] R:=
 Zao (E:=Zjq) Zak mix Tryz.func17 (by kernel_rfl) (Eq.mp (by kernel_rfl) h)
noncomputable def Zqf:Env:={ EB with
 loops:=(λi=>bif Nat.beq i 3 then⟨[(12,.int .i64)],[],[],false⟩ else⟨[],[],[],false⟩)
 dr:=(λi=>bif Nat.beq i 5 then[⟨0,[1],[],none,[],[]⟩,⟨1,[1],[],none,[0],[]⟩,⟨2,[],[],none,[],[]⟩,⟨3,[4],[],none,[],[]⟩,⟨4,[],[],none,[3],[]⟩,⟨5,[],[],none,[0,1,2,3,4],[]⟩]else[])
 thaw:=true
 stAt:=(λi=>bif Nat.beq i 22 then some 7 else none)
 last:=(λi=>bif Nat.beq i 5 then true else false)
 tokC:=(λi=>bif Nat.beq i 7 then some (7,8)else none) }
theorem ZnD(aA aC aD aE aU aT aR:Int)(aQ:Option Addr)(aO aS:Nat)(m:Mem)(R:RT)(h:
 ∀(b b_1:Nat),∃(R_1:RT),CXT Tryz.prog 131 (Array.mk [slice aQ aO aS]) m 8 R_1/\Za1 Shape.slice R_1/\∀(a:Option Addr)(n c:Nat)(m':Mem),lX (slice a n c) λyL=>lV [int u8 aA,int u64
 aC,int u64 aD,int u64 aE,int u64 aU,int i64 aT,int i64 aR,yL] λxL=>m.le m'->R_1 yL m' []->∃(I:IT),inI I [int i64 0] [] [] m'/\∀(n_1:Int)(m':Mem)(n_2:Nat),lE (Int.toNat n_1 *
 8) λyL_1=>True->I [int i64 n_1] [] [] m' n_2->br (decide (n_1 < (↑n:Int))) (atA a λb_2 o=>Zag n_1 n/\∃v v_1 v_2 v_3 v_4 v_5 v_6 v_7:Value,lV [v,v_1,v_2,v_3,v_4,v_5,v_6,v_7] λxL_1=>m'.reads b_2 (o+yL_1) xL_1/\∀(b_3:Nat),chk (v.oneCell'&&(v_1.oneCell'&&(v_2.oneCell' &&
 (v_3.oneCell'&&(v_4.oneCell'&&(v_5.oneCell'&&(v_6.oneCell'&&(v_7.oneCell'&&true)))))))) (∃(f:Fx),∃(R:RT),R=f 4 [agg (Array.mk xL_1)] m'/\CX Tryz.prog 108 (Array.mk [agg
 (Array.mk xL_1)]) m' [] R/\Za1 (shT) R/\∀(n_3 n_4 n_5 n_6 n_7 n_8 n_9:Int)(a_5:Option Addr)(n_10 c_1:Nat)(m'_1:Mem),lV [int u8 n_3,int u64 n_4,int u64 n_5,int u64 n_6,int u64 n_7,int i64 n_8,int
 i64 n_9,slice a_5 n_10 c_1] λxL_2=>m'.le m'_1->R (agg (Array.mk xL_2)) m'_1 []->atA a λb_4 o=>Zag n_1 n/\∀(M:Mem),m'.le M->m'_1.le M->yL=slice (some (Addr.mk b_4 0 none)) n c/\o +
 yL_1+8<=n*8/\Zad [some (Box.mk b_1 [int u8 0,int u64 0,int u64 0,int u64 0,int u64 0,int i64 0,int i64 0,slice none 0 0] 52 8 false true),some (Box.mk b xL 52 8 false true)]/\[some (Tok.mk yL 8)] =
 [some (Tok.mk yL 8)]/\nxI n_2 I [int i64 (i64.wrap (n_1+(1:Int)))] [] [] (Mem.upd M b_4 (o+yL_1) xL_2))) (rtM m m' R (agg (Array.mk xL)))):CX Tryz.prog 108 #[.agg #[.int .u8 aA,.int .u64 aC,.int .u64 aD,.int .u64 aE,.int .u64 aU,.int .i64 aT,.int .i64 aR,.slice aQ aO aS]] m [] R:=
 Zao (E:=Zqf) Zak mix Tryz.func108 (by kernel_rfl) (Eq.mp (by kernel_rfl) h)
noncomputable def Zb0:Env:={ EB with
 tokOf:=(λi=>bif Nat.beq i 2 then 7 else bif Nat.beq i 7 then 7 else 0)
 tokC:=(λi=>bif Nat.beq i 5 then some (7,8)else none)
 thaw:=true }
theorem ZbN(p0a:Option Addr)(p0n p0c:Nat)(m:Mem)(R:RT)(h:
 lE (0+p0n) λyL=>br (Option.isNone p0a) (slice none 0 0=slice none 0 0/\R (slice none 0 0) m []) (((0:Int)=(0:Int)/\(0:Int)<=(0:Int)/\(0:Int)*(↑(80:Nat):Int)<=(281474976710656:Int)/\(0
 : Int)<=(9223372036854775807:Int))/\∀(b:Nat),lX (slice (some (Addr.mk b 0 none)) 0 (Int.toNat (0:Int))) λyL_1=>m.free b->Mem.k m b=none->(Tok.mk yL_1 8=Tok.mk yL_1 8\/yL_1=slice none 0 0\/
 Int.toNat (0:Int) < yL)/\∃(xs:List Value),∃(ys:List Value),xs.length=0*8/\ys.length=p0n*8/\rowRd m (some (Addr.mk b 0 none)) xs/\rowRd m p0a ys/\(∀(u:Value),u∈ys->u.oneCell'
 = true)/\yL*80<=140737488355328/\yL<=9223372036854775807/\∀(a':Option Addr)(c':Nat)(m':Mem),lE (some (Tok.mk (slice a' yL c') 8)) λyL_2=>m.le m'->rowRd m' a' (List.append xs ys)->TokFact m
 (some (Addr.mk b 0 none)) a' yL c'->yL_2=yL_2/\R (slice a' yL c') m' [])):CXT Tryz.prog 131 #[.slice p0a p0n p0c] m 8 R:=
 Zio (E:=Zb0) Zak mix Tryz.func131 [.v (.slice p0a p0n p0c)] (by kernel_rfl) (Eq.mp (by kernel_rfl) h)
noncomputable def ZuF:Env:={ EB with
 frzNew:=[1] }
theorem ZrD(aA aC aD aE aU aT aR:Int)(aQ:Option Addr)(aO aS:Nat)(m:Mem)(R:RT)(h:
 lV [int u8 aA,int u64 aC,int u64 aD,int u64 aE,int u64 aU,int i64 aT,int i64 aR,slice aQ aO aS] λxL=>fzM m xL λb m'=>∀(b:Nat),kB Tryz.prog 69 [agg (Array.mk xL)] m' λb m'
 => br (!b) (rtM m m' R (agg (Array.mk [int u8 0,int u64 0,int u64 0,int u64 0,int u64 0,int i64 0,int i64 0,slice none 0 0]))) (∃(R_1:RT),True/\CX Tryz.prog 108 (Array.mk [agg (Array.mk xL)]) m' [] R_1/\
 Za1 (shT) R_1/\∀(n n_1 n_2 n_3 n_4 n_5 n_6:Int)(a:Option Addr)(n_7 c:Nat)(m'_1:Mem),lX (agg (Array.mk [int u8 n,int u64 n_1,int u64 n_2,int u64 n_3,int u64 n_4,int i64 n_5,int i64 n_6,slice a n_7
 c])) λyL=>m'.le m'_1->R_1 yL m'_1 []->rtM m m'_1 R yL)):CX Tryz.prog 71 #[.agg #[.int .u8 aA,.int .u64 aC,.int .u64 aD,.int .u64 aE,.int .u64 aU,.int .i64 aT,.int .i64 aR,.slice aQ aO aS]] m [] R:=
 Zao (E:=ZuF) Zak mix Tryz.func71 (by kernel_rfl) (Eq.mp (by kernel_rfl) h)
noncomputable def ZbB:Env:={ EB with
 tokOf:=(λi=>bif Nat.beq i 2 then 7 else bif Nat.beq i 7 then 7 else 0)
 tokC:=(λi=>bif Nat.beq i 5 then some (7,5)else none)
 thaw:=true }
theorem Zbr(p0a:Option Addr)(p0n p0c:Nat)(m:Mem)(R:RT)(h:
 lE (0+p0n) λyL=>br (Option.isNone p0a) (slice none 0 0=slice none 0 0/\R (slice none 0 0) m []) (((0:Int)=(0:Int)/\(0:Int)<=(0:Int)/\(0:Int)*(↑(64:Nat):Int)<=(281474976710656:Int)/\(0
 : Int)<=(9223372036854775807:Int))/\∀(b:Nat),lX (slice (some (Addr.mk b 0 none)) 0 (Int.toNat (0:Int))) λyL_1=>m.free b->Mem.k m b=none->(Tok.mk yL_1 5=Tok.mk yL_1 5\/yL_1=slice none 0 0\/
 Int.toNat (0:Int) < yL)/\∃(xs:List Value),∃(ys:List Value),xs.length=0*5/\ys.length=p0n*5/\rowRd m (some (Addr.mk b 0 none)) xs/\rowRd m p0a ys/\(∀(u:Value),u∈ys->u.oneCell'
 = true)/\yL*64<=140737488355328/\yL<=9223372036854775807/\∀(a':Option Addr)(c':Nat)(m':Mem),lE (some (Tok.mk (slice a' yL c') 5)) λyL_2=>m.le m'->rowRd m' a' (List.append xs ys)->TokFact m
 (some (Addr.mk b 0 none)) a' yL c'->yL_2=yL_2/\R (slice a' yL c') m' [])):CXT Tryz.prog 132 #[.slice p0a p0n p0c] m 5 R:=
 Zio (E:=ZbB) Zak mix Tryz.func132 [.v (.slice p0a p0n p0c)] (by kernel_rfl) (Eq.mp (by kernel_rfl) h)
noncomputable def Zjr:Env:={ EB with
 loops:=(λi=>bif Nat.beq i 3 then⟨[(14,.int .i64)],[],[],false⟩ else⟨[],[],[],false⟩)
 dr:=(λi=>bif Nat.beq i 5 then[⟨0,[2],[],none,[],[]⟩,⟨1,[2],[],none,[0],[]⟩,⟨2,[],[],none,[],[]⟩,⟨3,[6],[],none,[],[]⟩,⟨4,[],[],none,[],[]⟩,⟨5,[],[],none,[3,4],[]⟩,⟨6,[],[],none,[0,1,2,3,4,5],[]⟩]else[])
 thaw:=true
 stAt:=(λi=>bif Nat.beq i 25 then some 9 else none)
 last:=(λi=>bif Nat.beq i 5 then true else false)
 tokC:=(λi=>bif Nat.beq i 9 then some (9,5)else none) }
theorem Zh7(aA:Int)(aC:Value)(aD:ByteArray)(aE:Int)(aZ:Option Addr)(aY bA p1g:Nat)(p1fi p1ca:List Value)(m:Mem)(R:RT)(h:
 ∀(b b_1:Nat),∃(R_1:RT),lV [func (Fn.func p1g) (Array.mk p1fi) (Array.mk p1ca)] λxL=>CXT Tryz.prog 132 (Array.mk [slice aZ aY bA]) m 5 R_1/\Za1 Shape.slice R_1/\∀(a:Option Addr)(n c:Nat)
 (m':Mem),lX (slice a n c) λyL=>lV [int u8 aA,aC,string aD,int i64 aE,yL] λxL_1=>m.le m'->R_1 yL m' []->∃(I:IT),inI I [int i64 0] [] [] m'/\∀(n_1:Int)(m':Mem)(n_2:Nat),lE
 (Int.toNat n_1*5) λyL_1=>True->I [int i64 n_1] [] [] m' n_2->br (decide (n_1 < (↑n:Int))) (atA a λb_2 o=>Zag n_1 n/\∃v v_1 v_2 v_3 v_4:Value,lV [v,v_1,v_2,v_3,v_4] λxL_2=>m'.reads b_2 (o+yL_1) xL_2/\∀(b_3:Nat),chk (v.oneCell'&&(v_1.oneCell'&&(v_2.oneCell'&&(v_3.oneCell'&&(v_4.oneCell'&&true))))) (∃
 (f:Fx),∃(R:RT),R=f 5 (agg (Array.mk xL_2)::xL) m'/\CX Tryz.prog 109 (Array.mk (agg (Array.mk xL_2)::xL)) m' [] R/\Za1 (Shape.agg [Shape.int u8,Shape.any,Shape.str,Shape.int i64,Shape.slice]) R/\∀
 (n_3:Int) (v:Value) (s:ByteArray) (n_4:Int) (a_5:Option Addr) (n_5 c_1:Nat) (m'_1:Mem),lV [int u8 n_3,v,string s,int i64 n_4,slice a_5 n_5 c_1] λxL=>m'.le m'_1->R (agg (Array.mk xL)) m'_1 []
 -> atA a λb_4 o=>Zag n_1 n/\∀(M:Mem),m'.le M->m'_1.le M->chk (v.oneCell'&&true) (yL=slice (some (Addr.mk b_4 0 none)) n c/\o+yL_1+5<=n*5/\Zad [some (Box.mk b_1 [int u8 0,
 Value.float .f64 0,string bE0,int i64 0,slice none 0 0] 133 5 false true),some (Box.mk b xL_1 133 5 false true)]/\[some (Tok.mk yL 5)]=[some (Tok.mk yL 5)]/\nxI n_2 I [int i64
 (i64.wrap (n_1+(1:Int)))] [] [] (Mem.upd M b_4 (o+yL_1) xL)))) (∃(R_2:RT),True/\CX Tryz.prog p1g (Array.mk (List.append (List.append p1fi [agg (Array.mk xL_1)]) p1ca)) m' [] R_2/\Za1 (Shape.agg
 [Shape.int u8,Shape.any,Shape.str,Shape.int i64,Shape.slice]) R_2/\∀(n:Int)(v:Value)(s:ByteArray)(n_3:Int)(a:Option Addr)(n_4 c:Nat)(m'_1:Mem),lX (agg (Array.mk [int u8 n,v,string s,int i64
 n_3,slice a n_4 c])) λyL=>m'.le m'_1->R_2 yL m'_1 []->chk (v.oneCell'&&true) (rtM m m'_1 R yL))):CX Tryz.prog 109 #[.agg #[.int .u8 aA,aC,.string aD,.int .i64 aE,.slice aZ aY bA],.func (.func p1g) p1fi.toArray p1ca.toArray] m [] R:=
 Zao (E:=Zjr) Zak mix Tryz.func109 (by kernel_rfl) (Eq.mp (by kernel_rfl) h)
noncomputable def Zlx:Env:={ EB with
 frzNew:=[1] }
theorem Zjs(aA:Int)(aC:Value)(aD:ByteArray)(aE:Int)(aZ:Option Addr)(aY bA:Nat)(m:Mem)(R:RT)(h:
 lV [int u8 aA,aC,string aD,int i64 aE,slice aZ aY bA] λxL=>fzM m xL λb m'=>∀(b:Nat),chk (aC.oneCell'&&true) (rtM m m' R (agg (Array.mk xL)))):CX Tryz.prog 110 #[.agg #[.int .u8 aA,aC,.string aD,.int .i64 aE,.slice aZ aY bA]] m [] R:=
 Zao (E:=Zlx) Zak mix Tryz.func110 (by kernel_rfl) (Eq.mp (by kernel_rfl) h)
noncomputable def Zqg:Env:={ EB with
 frzNew:=[1] }
theorem ZnE(aA:Int)(aC:Value)(aD:ByteArray)(aE:Int)(aZ:Option Addr)(aY bA:Nat)(m:Mem)(R:RT)(h:
 lV [int u8 aA,aC,string aD,int i64 aE,slice aZ aY bA] λxL=>fzM m xL λb m'=>∀(b:Nat),kB Tryz.prog 95 [agg (Array.mk xL)] m' λb m'=>br (!b) (rtM m m' R (agg (Array.mk [int u8 0,
 Value.float .f64 0,string bE0,int i64 0,slice none 0 0]))) (∃(R_1:RT),True/\CX Tryz.prog 109 (Array.mk [agg (Array.mk xL),func (Fn.func 110) (Array.mk []) (Array.mk [])]) m' []
 R_1/\Za1 (Shape.agg [Shape.int u8,Shape.any,Shape.str,Shape.int i64,Shape.slice]) R_1/\∀(n:Int)(v:Value)(s:ByteArray)(n_1:Int)(a:Option Addr)(n_2 c:Nat)(m'_1:Mem),lX (agg (Array.mk [int u8
 n,v,string s,int i64 n_1,slice a n_2 c])) λyL=>m'.le m'_1->R_1 yL m'_1 []->chk (v.oneCell'&&true) (rtM m m'_1 R yL))):CX Tryz.prog 74 #[.agg #[.int .u8 aA,aC,.string aD,.int .i64 aE,.slice aZ aY bA]] m [] R:=
 Zao (E:=Zqg) Zak mix Tryz.func74 (by kernel_rfl) (Eq.mp (by kernel_rfl) h)
noncomputable def Ze0:Env:=EB
theorem ZeG(aA:Int)(aC:ByteArray)(aD aE:Int)(aU:Value)(aT:ByteArray)(aR:Int)(aQ:Option Addr)(aO aS:Nat)(m:Mem)(R:RT)(h:
 ∀(b b:Nat),∃(R_1:RT),True/\CX Tryz.prog 74 (Array.mk [agg (Array.mk [int u8 aE,aU,string aT,int i64 aR,slice aQ aO aS])]) m [] R_1/\Za1 (Shape.agg [Shape.int u8,Shape.any,Shape.str,
 Shape.int i64,Shape.slice]) R_1/\∀(n:Int)(v:Value)(s:ByteArray)(n_1:Int)(a:Option Addr)(n_2 c:Nat)(m':Mem),lV [int u8 n,v,string s,int i64 n_1,slice a n_2 c] λxL=>m.le m'->R_1 (agg
 (Array.mk xL)) m' []->chk (v.oneCell'&&true) (chk (v.oneCell'&&true) (rtM m m' R (agg (Array.mk (int u8 aA::string aC::int i64 aD::xL)))))):CX Tryz.prog 76 #[.agg #[.int .u8 aA,.string aC,.int .i64 aD,.int .u8 aE,aU,.string aT,.int .i64 aR,.slice aQ aO aS]] m [] R:=
 Zao (E:=Ze0) Zak mix Tryz.func76 (by kernel_rfl) (Eq.mp (by kernel_rfl) h)
noncomputable def Zco:Env:={ EB with
 loops:=(λi=>bif Nat.beq i 3 then⟨[(5,.slice),(10,.int .i64)],[],[(19,8)],false⟩ else⟨[],[],[],false⟩)
 tokOf:=(λi=>bif Nat.beq i 19 then 19 else 0)
 thaw:=true }
theorem Zcg(p0a:Option Addr)(p0n p0c p1g:Nat)(p1fi p1ca:List Value)(m:Mem)(R:RT)(h:
 ∃(I:IT),inI I [slice none 0 0,int i64 0] [] [slice none 0 0] m/\∀(a:Option Addr)(n c:Nat)(n_1:Int)(a_1:Option Addr)(n_2 c_1:Nat)(m':Mem)(n_3:Nat),lX (slice a n c) λyL=>lE (n+1) fun
 yL_1=>True->I [yL,int i64 n_1] [] [slice a_1 n_2 c_1] m' n_3->br (decide (n_1 < (↑p0n:Int))) (atA p0a λb o=>Zag n_1 p0n/\∃v v_1 v_2 v_3 v_4 v_5 v_6 v_7:Value,lV [v,v_1,v_2,v_3,v_4,v_5,v_6,v_7] λxL=>m'.reads b (o+Int.toNat n_1*8) xL/\∀(b:Nat),chk (v.oneCell'&&(v_1.oneCell' &&
 (v_2.oneCell'&&(v_3.oneCell'&&(v_4.oneCell'&&(v_5.oneCell'&&(v_6.oneCell'&&(v_7.oneCell'&&true)))))))) (∃(R:RT),True/\CX Tryz.prog p1g (Array.mk (List.append
 (List.append p1fi [agg (Array.mk xL)]) p1ca)) m' [] R/\Za1 (Shape.agg [Shape.int u8,Shape.str,Shape.int i64,Shape.int u8,Shape.any,Shape.str,Shape.int i64,Shape.slice]) R/\∀(n_4:Int)(s:ByteArray) (n_5
 n_6:Int) (v:Value) (s_1:ByteArray) (n_7:Int) (a_4:Option Addr) (n_8 c_2:Nat) (m'_1:Mem),lV [int u8 n_4,string s,int i64 n_5,int u8 n_6,v,string s_1,int i64 n_7,slice a_4 n_8 c_2] λxL=>m'.le m'_1->R (agg (Array.mk xL)) m'_1 []->∀(b:Nat),lM (m'_1.add b xL) λmL=>m'_1.free b->(Tok.mk (slice a_1 n_2 c_1) 8=Tok.mk yL 8\/yL=slice none 0 0\/c < yL_1)/\∃(xs:List Value),∃(ys:List
 Value),xs.length=n*8/\ys.length=1*8/\rowRd mL a xs/\rowRd mL (some (Addr.mk b 0 none)) ys/\(∀(u:Value),u∈ys->u.oneCell'=true)/\yL_1*96<=140737488355328/\yL_1 <=
 9223372036854775807/\∀(a':Option Addr)(c':Nat)(m':Mem),mL.le m'->rowRd m' a' (List.append xs ys)->TokFact mL a a' yL_1 c'->nxI n_3 I [slice a' yL_1 c',int i64 (i64.wrap (n_1+(1:Int)))] []
 [slice a' yL_1 c'] m')) (rtM m m' R yL)):CX Tryz.prog 75 #[.slice p0a p0n p0c,.func (.func p1g) p1fi.toArray p1ca.toArray] m [] R:=
 Zao (E:=Zco) Zak mix Tryz.func75 (by kernel_rfl) (Eq.mp (by kernel_rfl) h)
noncomputable def ZgO:Env:=EB
theorem ZfT(aA:Int)(aC:ByteArray)(aJ:Option Addr)(aG aK:Nat)(aE:Int)(aU:Value)(aT:ByteArray)(aR:Int)(aQ:Option Addr)(aO aS:Nat)(m:Mem)(R:RT)(h:
 ∀(b b:Nat),∃(R_1:RT),True/\CX Tryz.prog 74 (Array.mk [agg (Array.mk [int u8 aE,aU,string aT,int i64 aR,slice aQ aO aS])]) m [] R_1/\Za1 (Shape.agg [Shape.int u8,Shape.any,Shape.str,
 Shape.int i64,Shape.slice]) R_1/\∀(n:Int)(v:Value)(s:ByteArray)(n_1:Int)(a:Option Addr)(n_2 c:Nat)(m':Mem),lV [int u8 n,v,string s,int i64 n_1,slice a n_2 c] λxL=>m.le m'->R_1 (agg
 (Array.mk xL)) m' []->chk (v.oneCell'&&true) (kS Tryz.prog 75 [slice aJ aG aK,func (Fn.func 76) (Array.mk []) (Array.mk [])] m' λa n c m'=>chk (v.oneCell'&&true) (rtM m m' R (agg
 (Array.mk (int u8 aA::string aC::slice a n c::xL)))))):CX Tryz.prog 73 #[.agg #[.int .u8 aA,.string aC,.slice aJ aG aK,.int .u8 aE,aU,.string aT,.int .i64 aR,.slice aQ aO aS]] m [] R:=
 Zao (E:=ZgO) Zak mix Tryz.func73 (by kernel_rfl) (Eq.mp (by kernel_rfl) h)
noncomputable def ZbO:Env:={ EB with
 loops:=(λi=>bif Nat.beq i 3 then⟨[(5,.slice),(10,.int .i64)],[],[(19,8)],false⟩ else⟨[],[],[],false⟩)
 tokOf:=(λi=>bif Nat.beq i 19 then 19 else 0)
 thaw:=true }
theorem ZbJ(p0a:Option Addr)(p0n p0c p1g:Nat)(p1fi p1ca:List Value)(m:Mem)(R:RT)(h:
 ∃(I:IT),inI I [slice none 0 0,int i64 0] [] [slice none 0 0] m/\∀(a:Option Addr)(n c:Nat)(n_1:Int)(a_1:Option Addr)(n_2 c_1:Nat)(m':Mem)(n_3:Nat),lX (slice a n c) λyL=>lE (n+1) fun
 yL_1=>True->I [yL,int i64 n_1] [] [slice a_1 n_2 c_1] m' n_3->br (decide (n_1 < (↑p0n:Int))) (atA p0a λb o=>Zag n_1 p0n/\∃v v_1 v_2 v_3 v_4 v_5 v_6 v_7:Value,lV [v,v_1,v_2,v_3,v_4,v_5,v_6,v_7] λxL=>m'.reads b (o+Int.toNat n_1*8) xL/\∀(b:Nat),chk (v.oneCell'&&(v_1.oneCell' &&
 (v_2.oneCell'&&(v_3.oneCell'&&(v_4.oneCell'&&(v_5.oneCell'&&(v_6.oneCell'&&(v_7.oneCell'&&true)))))))) (∃(R:RT),True/\CX Tryz.prog p1g (Array.mk (List.append
 (List.append p1fi [agg (Array.mk xL)]) p1ca)) m' [] R/\Za1 (Shape.agg [Shape.int u8,Shape.str,Shape.slice,Shape.int u8,Shape.any,Shape.str,Shape.int i64,Shape.slice]) R/\∀(n_4:Int)(s:ByteArray) (a_4:
 Option Addr) (n_5 c_2:Nat) (n_6:Int) (v:Value) (s_1:ByteArray) (n_7:Int) (a_5:Option Addr) (n_8 c_3:Nat) (m'_1:Mem),lV [int u8 n_4,string s,slice a_4 n_5 c_2,int u8 n_6,v,string s_1,int i64 n_7,
 slice a_5 n_8 c_3] λxL=>m'.le m'_1->R (agg (Array.mk xL)) m'_1 []->∀(b:Nat),lM (m'_1.add b xL) λmL=>m'_1.free b->(Tok.mk (slice a_1 n_2 c_1) 8=Tok.mk yL 8\/yL=slice none 0 0\/c < yL_1)
 /\ ∃(xs:List Value),∃(ys:List Value),xs.length=n*8/\ys.length=1*8/\rowRd mL a xs/\rowRd mL (some (Addr.mk b 0 none)) ys/\(∀(u:Value),u∈ys->u.oneCell'=true)/\yL_1*112 <=
 140737488355328/\yL_1<=9223372036854775807/\∀(a':Option Addr)(c':Nat)(m':Mem),mL.le m'->rowRd m' a' (List.append xs ys)->TokFact mL a a' yL_1 c'->nxI n_3 I [slice a' yL_1 c',int i64 (i64.wrap (n_1+(1:Int)))] [] [slice a' yL_1 c'] m')) (rtM m m' R yL)):CX Tryz.prog 72 #[.slice p0a p0n p0c,.func (.func p1g) p1fi.toArray p1ca.toArray] m [] R:=
 Zao (E:=ZbO) Zak mix Tryz.func72 (by kernel_rfl) (Eq.mp (by kernel_rfl) h)
noncomputable def Zjt:Env:=EB
theorem Zh8(aA:Int)(aC aD:Bool)(aE aU aT aR cO cP dF:Int)(bJ:Option Addr)(bK bL:Nat)(bY:ByteArray)(bW:Int)(bN:Option Addr)(bO bP:Nat)(cA:ByteArray)(cB:Int)(m:Mem)(R:RT)(h:
 ∀(b b:Nat),∃(R_1:RT),True/\CX Tryz.prog 71 (Array.mk [agg (Array.mk [int u8 aE,int u64 aU,int u64 aT,int u64 aR,int u64 cO,int i64 cP,int i64 dF,slice bJ bK bL])]) m [] R_1/\
 Za1 (shT) R_1/\∀(n n_1 n_2 n_3 n_4 n_5 n_6:Int)(a:Option Addr)(n_7 c:Nat)(m':Mem),m.le m'->R_1 (agg (Array.mk [int u8 n,int u64 n_1,int u64 n_2,int u64 n_3,int u64 n_4,int i64 n_5,int i64 n_6,
 slice a n_7 c])) m' []->kS Tryz.prog 72 [slice bN bO bP,func (Fn.func 73) (Array.mk []) (Array.mk [])] m' λa_3 n_8 c_1 m'=>rtM m m' R (agg (Array.mk [int u8 aA,bool aC,bool aD,int u8 n,int
 u64 n_1,int u64 n_2,int u64 n_3,int u64 n_4,int i64 n_5,int i64 n_6,slice a n_7 c,string bY,int i64 bW,slice a_3 n_8 c_1,string cA,int i64 cB]))):CX Tryz.prog 43 #[.agg #[.int .u8 aA,.bool aC,.bool aD,.int .u8 aE,.int .u64 aU,.int .u64 aT,.int .u64 aR,.int .u64 cO,.int .i64 cP,.int .i64 dF,.slice bJ bK bL,.string bY,.int .i64 bW,.slice bN bO bP,.string cA,.int .i64 cB]] m [] R:=
 Zao (E:=Zjt) Zak mix Tryz.func43 (by kernel_rfl) (Eq.mp (by kernel_rfl) h)
noncomputable def Zcp:Env:={ EB with
 loops:=(λi=>bif Nat.beq i 3 then⟨[(5,.slice),(10,.int .i64)],[],[(19,16)],false⟩ else⟨[],[],[],false⟩)
 tokOf:=(λi=>bif Nat.beq i 19 then 19 else 0)
 thaw:=true }
theorem Zch(p0a:Option Addr)(p0n p0c p1g:Nat)(p1fi p1ca:List Value)(m:Mem)(R:RT)(h:
 ∃(I:IT),inI I [slice none 0 0,int i64 0] [] [slice none 0 0] m/\∀(a:Option Addr)(n c:Nat)(n_1:Int)(a_1:Option Addr)(n_2 c_1:Nat)(m':Mem)(n_3:Nat),lX (slice a n c) λyL=>lE (n+1) fun
 yL_1=>True->I [yL,int i64 n_1] [] [slice a_1 n_2 c_1] m' n_3->br (decide (n_1 < (↑p0n:Int))) (atA p0a λb o=>Zag n_1 p0n/\∃v v_1 v_2 v_3 v_4 v_5 v_6 v_7 v_8 v_9 v_10 v_11 v_12 v_13 v_14 v_15:Value,lV [v,v_1,v_2,
 v_3,v_4,v_5,v_6,v_7,v_8,v_9,v_10,v_11,v_12,v_13,v_14,v_15] λxL=>m'.reads b (o+Int.toNat n_1*16) xL/\∀(b:Nat),chk (v.oneCell'&&(v_1.oneCell'&&(v_2.oneCell' &&
 (v_3.oneCell'&&(v_4.oneCell'&&(v_5.oneCell'&&(v_6.oneCell'&&(v_7.oneCell'&&(v_8.oneCell'&&(v_9.oneCell'&&(v_10.oneCell'&&(v_11.oneCell' &&
 (v_12.oneCell'&&(v_13.oneCell'&&(v_14.oneCell'&&(v_15.oneCell'&&true)))))))))))))))) (∃(R:RT),True/\CX Tryz.prog p1g (Array.mk (List.append (List.append p1fi [agg (Array.mk xL)])
 p1ca)) m' [] R/\Za1 (Shape.agg [Shape.int u8,Shape.bool,Shape.bool,Shape.int u8,Shape.int u64,Shape.int u64,Shape.int u64,Shape.int u64,Shape.int i64,Shape.int i64,Shape.slice,Shape.str,Shape.int i64,
 Shape.slice,Shape.str,Shape.int i64]) R/\∀(n_4:Int)(b b_1:Bool)(n_5 n_6 n_7 n_8 n_9 n_10 n_11:Int)(a_4:Option Addr)(n_12 c_2:Nat)(s:ByteArray)(n_13:Int)(a_5:Option Addr)(n_14 c_3:Nat) (s_1
 : ByteArray) (n_15:Int) (m'_1:Mem),lV [int u8 n_4,bool b,bool b_1,int u8 n_5,int u64 n_6,int u64 n_7,int u64 n_8,int u64 n_9,int i64 n_10,int i64 n_11,slice a_4 n_12 c_2,string s,int i64 n_13,slice a_5
 n_14 c_3,string s_1,int i64 n_15] λxL=>m'.le m'_1->R (agg (Array.mk xL)) m'_1 []->∀(b:Nat),lM (m'_1.add b xL) λmL=>m'_1.free b->(Tok.mk (slice a_1 n_2 c_1) 16=Tok.mk yL 16\/yL=slice
 none 0 0\/c < yL_1)/\∃(xs:List Value),∃(ys:List Value),xs.length=n*16/\ys.length=1*16/\rowRd mL a xs/\rowRd mL (some (Addr.mk b 0 none)) ys/\(∀(u:Value),u∈ys->u.oneCell' =
 true)/\yL_1*168<=140737488355328/\yL_1<=9223372036854775807/\∀(a':Option Addr)(c':Nat)(m':Mem),mL.le m'->rowRd m' a' (List.append xs ys)->TokFact mL a a' yL_1 c'->nxI n_3 I [slice a' yL_1 c',int
 i64 (i64.wrap (n_1+(1:Int)))] [] [slice a' yL_1 c'] m')) (rtM m m' R yL)):CX Tryz.prog 42 #[.slice p0a p0n p0c,.func (.func p1g) p1fi.toArray p1ca.toArray] m [] R:=
 Zao (E:=Zcp) Zak mix Tryz.func42 (by kernel_rfl) (Eq.mp (by kernel_rfl) h)
noncomputable def ZnF:Env:={ EB with
 dr:=(λi=>bif Nat.beq i 1 then[⟨0,[1],[],none,[],[]⟩,⟨1,[1],[],none,[0],[]⟩,⟨2,[1],[],none,[],[]⟩,⟨3,[1],[],none,[2],[]⟩,⟨4,[],[],none,[2,3],[]⟩,⟨5,[],[],none,[0,1,2,3,4],[]⟩,⟨6,[2],[2],none,[0,1,2,3,4,5],[]⟩]else[])
 frzNew:=[1] }
theorem Zly(aA:ByteArray)(aH:Option Addr)(aF aI:Nat)(m:Mem)(R:RT)(h:
 lV [slice aH aF aI,func (Fn.func 43) (Array.mk []) (Array.mk [])] λxL=>fzM m [string aA,slice aH aF aI] λb m'=>∀(b:Nat),∃(f:Fx),∃(R_1:RT),R_1=f 4 xL m'/\CX Tryz.prog 42
 (Array.mk xL) m' [] R_1/\Za1 Shape.slice R_1/\∀(a:Option Addr)(n c:Nat)(m'_1:Mem),m'.le m'_1->R_1 (slice a n c) m'_1 []->∀(M:Mem),m'.le M->m'_1.le M->rtM m M R (agg (Array.mk [string
 aA,slice a n c]))):CX Tryz.prog 41 #[.agg #[.string aA,.slice aH aF aI]] m [] R:=
 Zao (E:=ZnF) Zak mix Tryz.func41 (by kernel_rfl) (Eq.mp (by kernel_rfl) h)
noncomputable def Zb1:Env:={ EB with
 loops:=(λi=>bif Nat.beq i 3 then⟨[(5,.slice),(10,.int .i64)],[],[(19,2)],false⟩ else⟨[],[],[],false⟩)
 tokOf:=(λi=>bif Nat.beq i 19 then 19 else 0)
 thaw:=true }
theorem ZbY(p0a:Option Addr)(p0n p0c p1g:Nat)(p1fi p1ca:List Value)(m:Mem)(R:RT)(h:
 ∃(I:IT),inI I [slice none 0 0,int i64 0] [] [slice none 0 0] m/\∀(a:Option Addr)(n c:Nat)(n_1:Int)(a_1:Option Addr)(n_2 c_1:Nat)(m':Mem)(n_3:Nat),lX (slice a n c) λyL=>lE (n+1) fun
 yL_1=>True->I [yL,int i64 n_1] [] [slice a_1 n_2 c_1] m' n_3->br (decide (n_1 < (↑p0n:Int))) (atA p0a λb o=>Zag n_1 p0n/\∃v v_1:Value,m'.reads b (o+Int.toNat n_1*2) [v,v_1]/\
 ∀(b:Nat),chk (v.oneCell'&&(v_1.oneCell'&&true)) (∃(R:RT),True/\CX Tryz.prog p1g (Array.mk (List.append (List.append p1fi [agg (Array.mk [v,v_1])]) p1ca)) m' [] R/\Za1 (Shape.agg [Shape.str,
 Shape.slice]) R/\∀(s:ByteArray)(a_4:Option Addr)(n_4 c_2:Nat)(m'_1:Mem),lV [string s,slice a_4 n_4 c_2] λxL=>m'.le m'_1->R (agg (Array.mk xL)) m'_1 []->∀(b:Nat),lM (m'_1.add b xL) fun
 mL=>m'_1.free b->(Tok.mk (slice a_1 n_2 c_1) 2=Tok.mk yL 2\/yL=slice none 0 0\/c < yL_1)/\∃(xs:List Value),∃(ys:List Value),xs.length=n*2/\ys.length=1*2/\rowRd mL a xs/\rowRd
 mL (some (Addr.mk b 0 none)) ys/\(∀(u:Value),u∈ys->u.oneCell'=true)/\yL_1*40<=140737488355328/\yL_1<=9223372036854775807/\∀(a':Option Addr)(c':Nat)(m':Mem),mL.le m'->rowRd m' a'
 (List.append xs ys)->TokFact mL a a' yL_1 c'->nxI n_3 I [slice a' yL_1 c',int i64 (i64.wrap (n_1+(1:Int)))] [] [slice a' yL_1 c'] m')) (rtM m m' R yL)):CX Tryz.prog 40 #[.slice p0a p0n p0c,.func (.func p1g) p1fi.toArray p1ca.toArray] m [] R:=
 Zao (E:=Zb1) Zak mix Tryz.func40 (by kernel_rfl) (Eq.mp (by kernel_rfl) h)
noncomputable def Zb2:Env:={ EB with
 tokOf:=(λi=>bif Nat.beq i 2 then 7 else bif Nat.beq i 7 then 7 else 0)
 tokC:=(λi=>bif Nat.beq i 5 then some (7,4)else none)
 thaw:=true }
theorem ZbP(p0a:Option Addr)(p0n p0c:Nat)(m:Mem)(R:RT)(h:
 lE (0+p0n) λyL=>br (Option.isNone p0a) (slice none 0 0=slice none 0 0/\R (slice none 0 0) m []) (((0:Int)=(0:Int)/\(0:Int)<=(0:Int)/\(0:Int)*(↑(48:Nat):Int)<=(281474976710656:Int)/\(0
 : Int)<=(9223372036854775807:Int))/\∀(b:Nat),lX (slice (some (Addr.mk b 0 none)) 0 (Int.toNat (0:Int))) λyL_1=>m.free b->Mem.k m b=none->(Tok.mk yL_1 4=Tok.mk yL_1 4\/yL_1=slice none 0 0\/
 Int.toNat (0:Int) < yL)/\∃(xs:List Value),∃(ys:List Value),xs.length=0*4/\ys.length=p0n*4/\rowRd m (some (Addr.mk b 0 none)) xs/\rowRd m p0a ys/\(∀(u:Value),u∈ys->u.oneCell'
 = true)/\yL*48<=140737488355328/\yL<=9223372036854775807/\∀(a':Option Addr)(c':Nat)(m':Mem),lE (some (Tok.mk (slice a' yL c') 4)) λyL_2=>m.le m'->rowRd m' a' (List.append xs ys)->TokFact m
 (some (Addr.mk b 0 none)) a' yL c'->yL_2=yL_2/\R (slice a' yL c') m' [])):CXT Tryz.prog 39 #[.slice p0a p0n p0c] m 4 R:=
 Zio (E:=Zb2) Zak mix Tryz.func39 [.v (.slice p0a p0n p0c)] (by kernel_rfl) (Eq.mp (by kernel_rfl) h)
noncomputable def ZrE:Env:={ EB with
 dr:=(λi=>bif Nat.beq i 3 then[⟨0,[1],[],none,[],[]⟩,⟨1,[1],[],none,[0],[]⟩,⟨2,[1],[],none,[],[]⟩,⟨3,[1],[],none,[2],[]⟩,⟨4,[],[],none,[2,3],[]⟩,⟨5,[1],[],none,[],[]⟩,⟨6,[1],[],none,[5],[]⟩,⟨7,[],[],none,[2,3,4,5,6],[4]⟩,⟨8,[],[],none,[0,1,2,3,4,5,6,7],[]⟩,⟨9,[2],[2],none,[0,1,2,3,4,5,6,7,8],[]⟩]else[])
 frzNew:=[1] }
theorem Zqh(aA:Int)(aH:Option Addr)(aF aI:Nat)(aJ:Option Addr)(aG aK:Nat)(m:Mem)(R:RT)(h:
 lX (slice aH aF aI) λyL=>lV [int i64 aA,yL,slice aJ aG aK] λxL=>lV [slice aJ aG aK,func (Fn.func 41) (Array.mk []) (Array.mk [])] λxL_1=>fzM m xL λb m'=>∀(b:Nat),
 kB Tryz.prog 38 [agg (Array.mk xL)] m' λb m'=>br (!b) (rtM m m' R (agg (Array.mk [int i64 0,slice none 0 0,slice none 0 0]))) (∃(f:Fx),∃(R_1:RT),R_1=f 4 [yL] m'/\CX Tryz.prog 39 (Array.mk [yL]) m' []
 R_1/\Za1 Shape.slice R_1/\∀(a:Option Addr)(n c:Nat)(m'_1:Mem),m'.le m'_1->R_1 (slice a n c) m'_1 []->∃(R_2:RT),R_2=f 7 xL_1 m'_1/\CX Tryz.prog 40 (Array.mk xL_1) m'_1 [] R_2/\Za1 Shape.slice
 R_2/\∀(a_3:Option Addr)(n_1 c_1:Nat)(m'_2:Mem),m'_1.le m'_2->R_2 (slice a_3 n_1 c_1) m'_2 []->∀(M:Mem),m'.le M->m'_1.le M->m'_2.le M->rtM m M R (agg (Array.mk [int i64 aA,slice a n
 c,slice a_3 n_1 c_1])))):CX Tryz.prog 13 #[.agg #[.int .i64 aA,.slice aH aF aI,.slice aJ aG aK]] m [] R:=
 Zao (E:=ZrE) Zak mix Tryz.func13 (by kernel_rfl) (Eq.mp (by kernel_rfl) h)
end Go.Proofs.YtojlhhphofhaoaaGreatDoor
namespace Go.Proofs.YtojlhhphofhaoaaGreatDoor
open Go Go.Eng Go.Rx Go.Proofs Go.RowKit
set_option maxRecDepth 100000
theorem ZCk(l:List T):∀u∈Rx.ZcR l,u.oneCell'=true:=by
 intro u hu
 simp only[Rx.ZcR,List.mem_flatten,List.mem_map]at hu
 obtain⟨_,⟨t,_,rfl⟩,h⟩:=hu
 simp only[T.cs,T.sl,List.mem_cons,List.not_mem_nil,or_false]at h
 rcases h with rfl|rfl|rfl|rfl|rfl|rfl|rfl|rfl <;> rfl
theorem ZnG(a:Option Addr)(c:Nat)(l:List T)(m:Mem)(h:rowRd m a (Rx.ZcR l))(hl:l.length<=1000000000000):CXT Tryz.prog 131 #[.slice a l.length c] m 8 (λv m' _=>∃a' c',v=.slice a' l.length c'/\rowRd m' a' (Rx.ZcR l)/\l.length<=c'/\(l.length=0\/∃b,a'=some ⟨b,0,none⟩/\m.free b)):=by
 apply ZbN
 have aX:=Zar l
 refine Zaa (λha=>?_) (λha=>⟨⟨rfl,Int.le_refl _,by decide,by decide⟩,λb hf _=>⟨.inl rfl,[],Rx.ZcR l,rfl,aX,.inl rfl,h,ZCk l,by omega,by omega,λa' c' m' hm aM kR=>⟨rfl,?_⟩⟩⟩)
 ·obtain rfl:a=none:=by simpa using ha
  have h0:l=[]:=by
   rcases h with h|⟨_,_,h,_⟩
   ·rw[h]at aX;exact List.eq_nil_of_length_eq_zero (by simp at aX;omega)
   ·cases h
  subst h0
  exact⟨rfl,none,0,rfl,.inl rfl,Nat.le_refl _,.inl rfl⟩
 ·simp only[Nat.zero_add]at kR ⊢
  refine⟨a',c',rfl,aM,kR.1,?_⟩
  rcases(kR.old (λ_ _ e=>by cases e;rfl)).2 with h1|⟨b',h1,h2|h2⟩
  ·subst h1
   left
   rcases aM with h3|⟨_,_,h3,_⟩
   ·have h4:(Rx.ZcR l).length=0:=congrArg List.length h3
    omega
   ·cases h3
  ·right;rw[<-h2];exact⟨b,rfl,hf⟩
  ·exact .inr ⟨b',h1,h2⟩
theorem Zw5{m:Mem}{b:Nat}{ts r:List T}{x t:T}(h:rowRd m (some ⟨b,0,none⟩) (Rx.ZcR (ts++x::r))):rowRd (m.upd b (0+ts.length*8) t.cs) (some ⟨b,0,none⟩) (Rx.ZcR (ts++t::r)):=by
 rcases h with h|⟨b',o',ha,h⟩
 ·have hl:(Rx.ZcR (ts++x::r)).length=0:=by rw[h];rfl
  rw[Zar,List.length_append,List.length_cons]at hl
  omega
 cases ha
 have e:∀y:T,Rx.ZcR (ts++y::r)=Rx.ZcR ts++(y.cs++Rx.ZcR r):=λy=>by simp[Rx.ZcR]
 have h8:∀y:T,y.cs.length=8:=λ_=>rfl
 refine .inr ⟨b,0,rfl,λj v hj=>?_⟩
 rw[e]at hj
 unfold Mem.upd;try dsimp only
 rw[Nat.zero_add,Nat.zero_add,h8]
 rcases Nat.lt_or_ge j (ts.length*8)with aP|bX
 ·rw[if_neg (by omega)]
  rw[List.getElem?_append_left (by rw[Zar];exact aP)]at hj
  have:=h j v (by rw[e,List.getElem?_append_left (by rw[Zar];exact aP)];exact hj)
  rwa [Nat.zero_add]at this
 ·rw[List.getElem?_append_right (by rw[Zar];exact bX),Zar]at hj
  rcases Nat.lt_or_ge j (ts.length*8+8)with aP|fM
  ·rw[if_pos ⟨rfl,bX,aP⟩]
   rw[List.getElem?_append_left (by rw[h8];omega)]at hj
   exact hj
  ·rw[if_neg (by omega)]
   rw[List.getElem?_append_right (by rw[h8];omega),h8]at hj
   have:=h j v (by
    rw[e,List.getElem?_append_right (by rw[Zar];exact bX),Zar,List.getElem?_append_right (by rw[h8];omega),h8];exact hj)
   rwa [Nat.zero_add]at this
theorem Zw6{m m':Mem}(h:m.le m'){b:Nat}(hf:m'.free b):m.free b:=λo=>by
 cases he:m b o with
 | none=>rfl
 | some v=>have:=h _ _ _ he;rw[hf o]at this;cases this
def NewT(m:Mem)(t:T):Prop:=∀x∈t.nodes,x.subs=[]\/∃b,x.a=some ⟨b,0,none⟩/\m.free b
theorem NewT.less{m m':Mem}{t:T}(hn:NewT m' t)(h:m.le m'):NewT m t:=λx hx=>(hn x hx).imp id λ⟨b,e,hf⟩=>⟨b,e,Zw6 h hf⟩
theorem ZuG{m:Mem}{k s0 s1 s2 s3 mn mx:Int}{a:Option Addr}{c:Nat}{l:List T}(h:l=[]\/∃b,a=some ⟨b,0,none⟩/\m.free b)(hl:∀x∈l,NewT m x):NewT m (.node k s0 s1 s2 s3 mn mx a c l):=by
 intro x hx
 simp only[T.nodes,List.mem_cons]at hx
 rcases hx with rfl|hx
 ·exact h
 ·have:∀l:List T,(∀x∈l,NewT m x)->∀x∈ZaA l,x.subs=[]\/∃b,x.a=some ⟨b,0,none⟩/\m.free b:=by
   intro l
   induction l with
   | nil=>intro _ x hx;simp[ZaA]at hx
   | cons y l ih=>
    intro h x hx
    simp only[ZaA,List.mem_append]at hx
    rcases hx with hx|hx
    ·exact h y (by simp) x hx
    ·exact ih (λz hz=>h z (by simp[hz])) x hx
  exact this l hl x hx
set_option maxHeartbeats 800000 in
theorem Zmp(t:T)(m:Mem)(hr:Rep m t)(hz:t.nodes.length<=10000):CX Tryz.prog 108 #[t.v] m [] (ZoZ λt'=>t'.er=t.er/\(t'.caps/\NewT m t')):=by
 have bU:szL t.subs<=10000:=by rw[Zkt]at hz;omega
 have gm:t.subs.length<=10000:=Nat.le_trans (Zo8 _) bU
 apply ZnD
 intro b b1
 refine⟨_,ZnG t.a t.c t.subs m (Zeu hr.subs) (by omega),(λv _ _ ⟨a,c,e,_⟩=>by rw[e];rfl),?_⟩
 rintro a n c m1 aB ⟨a',c',hv,aM,jc,bH⟩
 simp only[Value.slice.injEq]at hv
 obtain⟨rfl,rfl,rfl⟩:=hv
 have bB:∀x∈t.subs,Rep m x:=Zkn hr.subs
 refine⟨λxs css tvs m' q=>∃(k:Nat)(L:List T)(mb:Mem),k<=t.subs.length/\xs=[.int .i64 k]/\q=t.subs.length - k/\L.length=k/\L.map T.er=(t.subs.take k).map T.er/\m.le mb/\mb.le m'/\(t.subs.length=0\/∃b,a=some ⟨b,0,none⟩/\mb.free b)/\(∀x∈L,Rep mb x/\(x.caps/\NewT m x))/\(t.subs.length=0\/∃b,a=some ⟨b,0,none⟩/\m.free b)/\rowRd m' a (Rx.ZcR (L++t.subs.drop k)),⟨_,0,[],m,by omega,rfl,rfl,rfl,rfl,Mem.le_refl _,aB,bH,by simp,bH,aM⟩,?_⟩
 rintro z m2 q _ ⟨k,L,mb,hk,dG,hq,jR,mh,fO,js,fZ,lc,cL,eI⟩
 obtain rfl:z=k:=by simpa using dG
 refine Zaa (λaP=>?_) (λbX=>?_)
 ·have aV:k < t.subs.length:=by have:=of_decide_eq_true aP;omega
  obtain⟨x,hx⟩:=ZaF aV
  have dM:=bB x (List.mem_of_getElem? hx)
  have lq:x.nodes.length<=10000:=by
   obtain⟨h1,h2⟩:=List.getElem?_eq_some_iff.1 hx
   have:=congrArg List.length (ZdE hx)
   unfold szL at bU
   simp only[List.length_append]at this
   omega
  have ib:t.subs.drop k=x::t.subs.drop (k+1):=by
   rw[List.drop_eq_getElem_cons aV,(List.getElem?_eq_some_iff.1 hx).2]
  rcases fZ with fZ|⟨bk,rfl,eG⟩
  ·omega
  obtain⟨b0,o0,nt,cG⟩:=ZdV eI (i:=k) (t:=x) (by rw[List.getElem?_append_right (by omega),jR,Nat.sub_self,ib];rfl)
  cases nt
  have hw:IntKind.i64.wrap ((k:Int)+1)=((k+1:Nat):Int):=by rw[Zan (by omega) (by omega)];rfl
  simp only[hw,Int.toNat_natCast]
  have gw:CX Tryz.prog 108 #[x.v] m2 [] (Zqw mb m2 λt'=>t'.er=x.er/\(t'.caps/\NewT mb t')):=(Zmp x mb (Rep.mono fO x dM) lq).frame2 js
  refine⟨bk,0,rfl,⟨by omega,by omega⟩,_,_,_,_,_,_,_,_,cG,λb3=>Zab rfl ⟨λ_ _ _=>Zqw mb m2 λt'=>t'.er=x.er/\(t'.caps/\NewT mb t'),Zqw mb m2 λt'=>t'.er=x.er/\(t'.caps/\NewT mb t'),rfl,gw,Zdv,ZjR λt' m0 m3 aW h0 dN dX hr' ht'=>⟨bk,0,rfl,⟨by omega,by omega⟩,λM gR iO=>⟨rfl,by omega,by trivial,by trivial,t.subs.length - (k+1),by omega,k+1,L++[t'],m0,by omega,rfl,rfl,by simp[jR],?_,mLt fO h0,?_,.inr ⟨bk,rfl,?_⟩,?_,cL,?_⟩⟩⟩⟩
  ·rw[List.map_append,mh,Zr4 hx,List.map_append]
   simp[ht'.1]
  ·refine Mem.le_upd (mLt dN iO) ?_ _ _
   intro o'
   have hc:m2 bk (0+k*8+0)=some (.int .u8 x.k):=cG 0 _ rfl
   rw[dX _ _ _ hc o'];exact eG o'
  ·intro o'
   have hc:m2 bk (0+k*8+0)=some (.int .u8 x.k):=cG 0 _ rfl
   rw[dX _ _ _ hc o'];exact eG o'
  ·intro y hy
   rcases List.mem_append.1 hy with hy|hy
   ·exact⟨Rep.mono h0 y (lc y hy).1,(lc y hy).2⟩
   ·simp at hy;subst hy;exact⟨hr',ht'.2.1,ht'.2.2.less fO⟩
  ·rw[ib]at eI
   have h5:=Zw5 (t:=t') (eI.mono gR)
   rw[jR]at h5
   rw[List.append_assoc]
   exact h5
 ·have dU:k=t.subs.length:=by have:=of_decide_eq_false bX;omega
  subst dU
  rw[List.drop_length,List.append_nil]at eI
  rw[List.take_length]at mh
  have cC:=Zz7 hr
  refine⟨m2,mLt fO js,Mem.le_refl _,.node t.k t.s0 t.s1 t.s2 t.s3 t.mn t.mx a c L,?_,?_,?_⟩
  ·simp only[T.v,T.k,T.s0,T.s1,T.s2,T.s3,T.mn,T.mx,T.a,T.c,T.subs,jR]
  ·have:=Zvd eI (λx hx=>Rep.mono js x (lc x hx).1) (by omega)
   exact Zz8 this.1 this.2 cC
  ·have:=Zyo (k:=t.k) (s0:=t.s0) (s1:=t.s1) (s2:=t.s2) (s3:=t.s3) (mn:=t.mn) (mx:=t.mx) (a:=a) (a':=t.a) (c:=c) (c':=t.c) mh
   refine⟨this.trans ?_,ZtP (by omega) λx hx=>(lc x hx).2.1,ZuG (cL.imp (λh=>List.eq_nil_of_length_eq_zero (by omega)) id) λx hx=>(lc x hx).2.2⟩
   cases t;rfl
termination_by SizeOf.sizeOf t
decreasing_by exact Zq3 (List.mem_of_getElem? hx)
mutual
theorem Zy8{m m':Mem}:∀(t:T),Rep m' t->NewT m t->Rep (nw m m') t
 | .node k s0 s1 s2 s3 mn mx a c l,hr,hn=>by
  have h0:=hn _ (by rw[ZcD];exact List.mem_cons_self)
  simp only[Rep]at hr ⊢
  refine⟨hr.1,?_,hr.2.2⟩
  rcases hr.2.1 with h|⟨b,o,ha,fR⟩
  ·exact .inl h
  rcases h0 with h|⟨b',hb',hf⟩
  ·exact .inl h
  ·have e:a=some ⟨b',0,none⟩:=hb'
   rw[ha]at e
   simp only[Option.some.injEq,Addr.mk.injEq,and_true]at e
   obtain⟨rfl,rfl⟩:=e
   exact .inr ⟨b,0,ha,ZsK b hf 0 l fR λx hx y hy=>hn y (by
    rw[ZcD]
    refine List.mem_cons_of_mem _ ?_
    obtain⟨i,hi⟩:=List.getElem?_of_mem hx
    rw[show(T.node k s0 s1 s2 s3 mn mx a c l).subs=l from rfl,ZdE hi]
    simp[hy])⟩
theorem ZsK{m m':Mem}(b:Nat)(hf:m.free b):∀(o:Nat)(l:List T),RepAt m' b o l->(∀x∈l,NewT m x)->RepAt (nw m m') b o l
 | _,[],_,_=>by simp only[RepAt]
 | o,t::l,hr,hn=>by
  simp only[RepAt]at hr ⊢
  exact⟨λj v hj=>by rw[ZxA hf];exact hr.1 j v hj,Zy8 t hr.2.1 (hn t (by simp)),ZsK b hf (o+8) l hr.2.2 λx hx=>hn x (by simp[hx])⟩
end
def CpT(m:Mem)(t:T):Value->Mem->List (List Value)->Prop:=λv m' _=>∃t':T,v=t'.v/\t'.er=t.er/\Rep (nw m m') t'
theorem Zw7{m:Mem}{t:T}:∀(v:Value)(m':Mem) (css:List (List Value)),CpT m t v m' css->Shape.fits (.agg [.int .u8,.int .u64,.int .u64,.int .u64,.int .u64,.int .i64,.int .i64,.slice]) v=true:=λv _ _ ⟨t,e,_⟩=>by rw[e];rfl
theorem Zw8(t:T)(m:Mem)(hr:Rep m t)(hz:t.nodes.length<=10000):CX Tryz.prog 71 #[t.v] m [] (CpT m t):=by
 apply ZrD
 intro b m1 aB _ b1
 have hl:t.light=true:=by unfold T.light;exact decide_eq_true hz
 have h:=Zd3 t m1 (hr.mono aB)
 rw[hl]at h
 refine Zah h λm2 aN=>ZcI rfl (Zai (Zmp t m2 (hr.mono (mLt aB aN)) hz) Zfw (Zq6 λt' m3 aW hr' ht'=>?_))
 exact⟨m3,mLt aB (mLt aN aW),Mem.le_refl _,t',rfl,ht'.1,Zy8 t' hr' (ht'.2.2.less (mLt aB aN))⟩
theorem Zqi(a:Option Addr)(c:Nat)(l:List E)(m:Mem)(h:rowRd m a (l.map E.cs).flatten)(hl:l.length<=1000000000000):CXT Tryz.prog 132 #[.slice a l.length c] m 5 (λv m' _=>∃a' c',v=.slice a' l.length c'/\rowRd m' a' (l.map E.cs).flatten/\l.length<=c'/\(l.length=0\/∃b,a'=some ⟨b,0,none⟩/\m.free b)):=by
 apply Zbr
 have aX:(l.map E.cs).flatten.length=l.length*5:=ZaT E.len l
 refine Zaa (λha=>?_) (λha=>⟨⟨rfl,Int.le_refl _,by decide,by decide⟩,λb hf _=>⟨.inl rfl,[],(l.map E.cs).flatten,rfl,aX,.inl rfl,h,?_,by omega,by omega,λa' c' m' hm aM kR=>⟨rfl,?_⟩⟩⟩)
 ·obtain rfl:a=none:=by simpa using ha
  have h0:l=[]:=by
   rcases h with h|⟨_,_,h,_⟩
   ·rw[h]at aX;exact List.eq_nil_of_length_eq_zero (by simp at aX;omega)
   ·cases h
  subst h0
  exact⟨rfl,none,0,rfl,.inl rfl,Nat.le_refl _,.inl rfl⟩
 ·intro u hu
  simp only[List.mem_flatten,List.mem_map]at hu
  obtain⟨_,⟨e,_,rfl⟩,hu⟩:=hu
  exact E.one e u hu
 ·simp only[Nat.zero_add]at kR ⊢
  refine⟨a',c',rfl,aM,kR.1,?_⟩
  rcases(kR.old (λ_ _ e=>by cases e;rfl)).2 with h1|⟨b',h1,h2|h2⟩
  ·subst h1
   left
   rcases aM with h3|⟨_,_,h3,_⟩
   ·have h4:(l.map E.cs).flatten.length=0:=congrArg List.length h3
    omega
   ·cases h3
  ·right;rw[<-h2];exact⟨b,rfl,hf⟩
  ·exact .inr ⟨b',h1,h2⟩
theorem ZuH{m:Mem}{b:Nat}{ts r:List E}{x t:E}(h:rowRd m (some ⟨b,0,none⟩) ((ts++x::r).map E.cs).flatten):rowRd (m.upd b (0+ts.length*5) t.cs) (some ⟨b,0,none⟩) ((ts++t::r).map E.cs).flatten:=by
 have hl:∀l:List E,(l.map E.cs).flatten.length=l.length*5:=ZaT E.len
 rcases h with h|⟨b',o',ha,h⟩
 ·have:=congrArg List.length h
  rw[hl,List.length_append,List.length_cons]at this
  simp at this
 cases ha
 have e:∀y:E,((ts++y::r).map E.cs).flatten=(ts.map E.cs).flatten++(y.cs++(r.map E.cs).flatten):=λy=>by simp
 refine .inr ⟨b,0,rfl,λj v hj=>?_⟩
 rw[e]at hj
 unfold Mem.upd;try dsimp only
 rw[Nat.zero_add,Nat.zero_add,E.len]
 rcases Nat.lt_or_ge j (ts.length*5)with aP|bX
 ·rw[if_neg (by omega)]
  rw[List.getElem?_append_left (by rw[hl];exact aP)]at hj
  have:=h j v (by rw[e,List.getElem?_append_left (by rw[hl];exact aP)];exact hj)
  rwa [Nat.zero_add]at this
 ·rw[List.getElem?_append_right (by rw[hl];exact bX),hl]at hj
  rcases Nat.lt_or_ge j (ts.length*5+5)with aP|fM
  ·rw[if_pos ⟨rfl,bX,aP⟩]
   rw[List.getElem?_append_left (by rw[E.len];omega)]at hj
   exact hj
  ·rw[if_neg (by omega)]
   rw[List.getElem?_append_right (by rw[E.len];omega),E.len]at hj
   have:=h j v (by
    rw[e,List.getElem?_append_right (by rw[hl];exact bX),hl,List.getElem?_append_right (by rw[E.len];omega),E.len];exact hj)
   rwa [Nat.zero_add]at this
def NewE(m:Mem)(t:E):Prop:=∀x∈t.nodes,x.subs=[]\/∃b,x.a=some ⟨b,0,none⟩/\m.free b
theorem NewE.less{m m':Mem}{t:E}(hn:NewE m' t)(h:m.le m'):NewE m t:=λx hx=>(hn x hx).imp id λ⟨b,e,hf⟩=>⟨b,e,Zcx h hf⟩
theorem ZjV{y x:E}{l:List E}(hx:x∈l)(hy:y∈x.nodes):y∈Zap l:=by
 obtain⟨i,hi⟩:=List.getElem?_of_mem hx
 rw[ZcE hi];simp[hy]
theorem ZuI{m:Mem}{k:Int}{x:Nat}{s:ByteArray}{g:Int}{a:Option Addr}{c:Nat}{l:List E}(h:l=[]\/∃b,a=some ⟨b,0,none⟩/\m.free b)(hl:∀x∈l,NewE m x):NewE m (.node k x s g a c l):=by
 intro x hx
 simp only[E.nodes,List.mem_cons]at hx
 rcases hx with rfl|hx
 ·exact h
 ·have:∀l:List E,(∀x∈l,NewE m x)->∀x∈Zap l,x.subs=[]\/∃b,x.a=some ⟨b,0,none⟩/\m.free b:=by
   intro l
   induction l with
   | nil=>intro _ x hx;simp[Zap]at hx
   | cons y l ih=>
    intro h x hx
    simp only[Zap,List.mem_append]at hx
    rcases hx with hx|hx
    ·exact h y (by simp) x hx
    ·exact ih (λz hz=>h z (by simp[hz])) x hx
  exact this l hl x hx
mutual
theorem ZvI{m m':Mem}:∀(t:E),RepE m' t->NewE m t->RepE (nw m m') t
 | .node k x s g a c l,hr,hn=>by
  have h0:=hn _ (by rw[ZbE];exact List.mem_cons_self)
  simp only[RepE]at hr ⊢
  refine⟨hr.1,?_,hr.2.2⟩
  rcases hr.2.1 with h|⟨b,o,ha,fR⟩
  ·exact .inl h
  rcases h0 with h|⟨b',hb',hf⟩
  ·exact .inl h
  ·have e:a=some ⟨b',0,none⟩:=hb'
   rw[ha]at e
   simp only[Option.some.injEq,Addr.mk.injEq,and_true]at e
   obtain⟨rfl,rfl⟩:=e
   exact .inr ⟨b,0,ha,Zqj b hf 0 l fR λx hx y hy=>hn y (by
    rw[ZbE]
    exact List.mem_cons_of_mem _ (ZjV hx hy))⟩
theorem Zqj{m m':Mem}(b:Nat)(hf:m.free b):∀(o:Nat)(l:List E),RepEAt m' b o l->(∀x∈l,NewE m x)->RepEAt (nw m m') b o l
 | _,[],_,_=>by simp only[RepEAt]
 | o,t::l,hr,hn=>by
  simp only[RepEAt]at hr ⊢
  exact⟨λj v hj=>by rw[ZxA hf];exact hr.1 j v hj,ZvI t hr.2.1 (hn t (by simp)),Zqj b hf (o+5) l hr.2.2 λx hx=>hn x (by simp[hx])⟩
end
theorem Zh9{m:Mem}{b:Nat}:∀(L:List E)(o:Nat),RepEAt m b o L->m.reads b o (L.map E.cs).flatten
 | [],o,_=>λj v hj=>by simp at hj
 | z::L,o,h=>λj v hj=>by
  simp only[RepEAt]at h
  rw[List.map_cons,List.flatten_cons]at hj
  rcases Nat.lt_or_ge j 5 with aP|bX
  ·rw[List.getElem?_append_left (by rw[E.len];exact aP)]at hj
   exact h.1 j v hj
  ·rw[List.getElem?_append_right (by rw[E.len];exact bX),E.len]at hj
   have:=Zh9 L (o+5) h.2.2 (j - 5) v hj
   rwa [show o+5+(j - 5)=o+j by omega]at this
theorem Zw9(e:E)(m:Mem):CX Tryz.prog 110 #[e.v] m [] (Ret e.v):=by
 apply Zjs
 intro b m1 aB _ b2
 exact Zab rfl (Zac aB rfl)
set_option maxHeartbeats 800000 in
theorem Zmq(t:E)(m:Mem)(hr:RepE m t)(hz:t.nodes.length<=10000):CX Tryz.prog 109 #[t.v,.func (.func 110) #[] #[]] m [] (ER λt'=>t'.er=t.er/\NewE m t'):=by
 have gm:t.subs.length<=10000:=by
  have:=Zex t.subs
  rw[ZbE,List.length_cons]at hz;omega
 have bB:∀x∈t.subs,RepE m x:=λx hx=>Zl8 hr (by rw[ZbE];exact List.mem_cons_of_mem _ (ZjV hx (by rw[ZbE];simp)))
 have pT:rowRd m t.a (t.subs.map E.cs).flatten:=by
  rcases(ZeP hr).2 with h|⟨b,o,ha,fR⟩
  ·rw[h];exact .inl rfl
  ·exact .inr ⟨b,o,ha,Zh9 t.subs o fR⟩
 apply Zh7
 intro b b1
 refine⟨_,Zqi t.a t.c t.subs m pT (by omega),(λv _ _ ⟨a,c,e,_⟩=>by rw[e];rfl),?_⟩
 rintro a n c m1 aB ⟨a',c',hv,aM,jc,bH⟩
 simp only[Value.slice.injEq]at hv
 obtain⟨rfl,rfl,rfl⟩:=hv
 refine⟨λxs css tvs m' q=>∃(k:Nat)(L:List E)(mb:Mem),k<=t.subs.length/\xs=[.int .i64 k]/\q=t.subs.length - k/\L.length=k/\L.map E.er=(t.subs.take k).map E.er/\m.le mb/\mb.le m'/\(t.subs.length=0\/∃b,a=some ⟨b,0,none⟩/\mb.free b)/\(∀x∈L,RepE mb x/\NewE m x)/\(t.subs.length=0\/∃b,a=some ⟨b,0,none⟩/\m.free b)/\rowRd m' a ((L++t.subs.drop k).map E.cs).flatten,⟨_,0,[],m,by omega,rfl,rfl,rfl,rfl,Mem.le_refl _,aB,bH,by simp,bH,aM⟩,?_⟩
 rintro z m2 q _ ⟨k,L,mb,hk,dG,hq,jR,mh,fO,js,fZ,lc,cL,eI⟩
 obtain rfl:z=k:=by simpa using dG
 refine Zaa (λaP=>?_) (λbX=>?_)
 ·have aV:k < t.subs.length:=by have:=of_decide_eq_true aP;omega
  obtain⟨x,hx⟩:=ZaF aV
  have dM:=bB x (List.mem_of_getElem? hx)
  have lq:x.nodes.length<=10000:=by
   have:=congrArg List.length (ZcE hx)
   rw[ZbE,List.length_cons]at hz
   simp only[List.length_append]at this
   omega
  have ib:t.subs.drop k=x::t.subs.drop (k+1):=by
   rw[List.drop_eq_getElem_cons aV,(List.getElem?_eq_some_iff.1 hx).2]
  rcases fZ with fZ|⟨bk,rfl,eG⟩
  ·omega
  obtain⟨b0,o0,nt,cG⟩:=Zal E.len eI (k:=k) (t:=x) (by rw[List.getElem?_append_right (by omega),jR,Nat.sub_self,ib];rfl) (by omega)
  cases nt
  have hw:IntKind.i64.wrap ((k:Int)+1)=((k+1:Nat):Int):=by rw[Zan (by omega) (by omega)];rfl
  simp only[hw,Int.toNat_natCast]
  have gw:CX Tryz.prog 109 #[x.v,.func (.func 110) #[] #[]] m2 [] (EF mb m2 λt'=>t'.er=x.er/\NewE mb t'):=(Zmq x mb (RepE.mono fO x dM) lq).frame2 js
  refine⟨bk,0,rfl,⟨by omega,by omega⟩,_,_,_,_,_,cG,λb3=>Zab rfl ⟨λ_ _ _=>EF mb m2 λt'=>t'.er=x.er/\NewE mb t',EF mb m2 λt'=>t'.er=x.er/\NewE mb t',rfl,gw,ZsE,ZBP λt' m0 m3 aW h0 dN dX hr' ht'=>⟨bk,0,rfl,⟨by omega,by omega⟩,λM gR iO=>Zab rfl ⟨rfl,by omega,trivial,trivial,t.subs.length - (k+1),by omega,k+1,L++[t'],m0,by omega,rfl,rfl,by simp[jR],?_,mLt fO h0,?_,.inr ⟨bk,rfl,?_⟩,?_,cL,?_⟩⟩⟩⟩
  ·rw[List.map_append,mh,Zr4 hx,List.map_append]
   simp[ht'.1]
  ·refine Mem.le_upd (mLt dN iO) ?_ _ _
   intro o'
   have hc:m2 bk (0+k*5+0)=some (.int .u8 x.k):=cG 0 _ rfl
   rw[dX _ _ _ hc o'];exact eG o'
  ·intro o'
   have hc:m2 bk (0+k*5+0)=some (.int .u8 x.k):=cG 0 _ rfl
   rw[dX _ _ _ hc o'];exact eG o'
  ·intro y hy
   rcases List.mem_append.1 hy with hy|hy
   ·exact⟨RepE.mono h0 y (lc y hy).1,(lc y hy).2⟩
   ·simp at hy;subst hy;exact⟨hr',ht'.2.less fO⟩
  ·rw[ib]at eI
   have h5:=ZuH (t:=t') (eI.mono gR)
   rw[jR]at h5
   rw[List.append_assoc]
   exact h5
 ·have dU:k=t.subs.length:=by have:=of_decide_eq_false bX;omega
  subst dU
  rw[List.drop_length,List.append_nil]at eI
  rw[List.take_length]at mh
  have cC:=Zr7 hr
  have hv:Value.agg #[.int .u8 t.k,.float .f64 t.x,.string t.s,.int .i64 t.g,.slice a t.subs.length c]=(E.node t.k t.x t.s t.g a c L).v:=by
   simp only[E.v,E.k,E.x,E.s,E.g,E.a,E.c,E.subs,jR]
  have gw:=Zw9 (.node t.k t.x t.s t.g a c L) m2
  rw[<-hv]at gw
  refine⟨_,trivial,gw,(λv _ _ h=>by rw[h];rfl),?_⟩
  intro n5 v5 s5 g5 a5 k5 c5 m3 aW ii
  simp only[Value.agg.injEq,Array.mk.injEq,List.cons.injEq,Value.int.injEq,Value.string.injEq,Value.slice.injEq,true_and,and_true]at ii
  obtain⟨rfl,rfl,rfl,rfl,rfl,rfl,rfl⟩:=ii
  refine Zab rfl ⟨m3,mLt fO (mLt js aW),Mem.le_refl _,.node t.k t.x t.s t.g a5 c5 L,hv,?_,?_,?_⟩
  ·exact ZsF (eI.mono aW) (λx hx=>RepE.mono (mLt js aW) x (lc x hx).1) (by omega) cC
  ·cases t
   simp only[E.er,E.k,E.x,E.s,E.g,E.subs,ZnZ]at mh ⊢
   rw[mh]
  ·exact ZuI (cL.imp (λh=>List.eq_nil_of_length_eq_zero (by omega)) id) λx hx=>(lc x hx).2
termination_by SizeOf.sizeOf t
decreasing_by exact Zl5 (List.mem_of_getElem? hx)
end Go.Proofs.YtojlhhphofhaoaaGreatDoor