/- Part of the proof: functions of the program. No condition. -/
import Derived.Test.YtpjepnkiiojgfaaGreatPEnv
import Derived.Test.YtpjepnkiiojgfaaGreatMr
import Derived.Test.YtpjepnkiiojgfaaGreatMc
import Derived.Laws.StructEq
import Derived.Laws.Tables
import Derived.Laws.Cover2
import Derived.Laws.Externs
import Derived.Shelf.Sort.Plain
import Derived.Shelf.Slices.In.SortNone
import Derived.Shelf.SlicesE.Compact
set_option linter.unusedVariables false
set_option linter.unusedSimpArgs false
set_option linter.unusedSectionVars false
noncomputable section
namespace Go.Proofs.YtpjepnkiiojgfaaGreat
open Go Go.Eng Go.Proofs Go.RowKit
open Go.Value (int slice agg bool string tuple func)
open Go.IntKind (u8 u64 i64)
set_option maxRecDepth 100000
def Zlj:Env:={ EB with
 frzNew:=[1] }
theorem Zjl(aA:Int)(aD:Value)(aG:ByteArray)(aF:Int)(aS:Option Addr)(aM aZ:Nat)(m:Mem)(R:RT)(h:
 fzM m [int u8 aA,aD,string aG,int i64 aF,slice aS aM aZ] λb m'=>rtM m m' R (func (Fn.func 141) (Array.mk []) (Array.mk [Value.pointer (some (Addr.mk b 0 none))]))):CX Tryz.prog 103 #[.agg #[.int .u8 aA,aD,.string aG,.int .i64 aF,.slice aS aM aZ]] m [] R:=
 Zae (E:=Zlj) Zao mix Tryz.func103 (by kernel_rfl) (Eq.mp (by kernel_rfl) h)
def ZhI:Env:={ EB with
 loops:=(λi=>bif Nat.beq i 3 then⟨[(13,.int .i64)],[],[],true⟩ else bif Nat.beq i 7 then⟨[(19,.agg [.int .u8,.any,.str,.int .i64,.slice])],[],[],true⟩ else⟨[],[],[],false⟩)
 frzNew:=[2] }
theorem ZgL(p0g:Nat)(p0fi p0ca:List Value)(c0b c0o:Nat)(m:Mem)(xs:List (List Value))(h:
 ∀(l:Nat),lE (↑(xs.length):Int) λyL=>lV [func (Fn.yield l) (Array.mk []) (Array.mk [])] λxL=>fzM m xL λb m'=>∃v v_1 v_2 v_3 v_4:Value,lE
 [some (Box.mk b xL 169 1 true true)] λxL=>m'.reads c0b c0o [v,v_1,v_2,v_3,v_4]/\(l=l/\(0:Int)<=(0:Int)/\List.get?Internal xs (Int.toNat (0:Int))=some [agg (Array.mk [v,v_1,v_2,v_3,v_4])])
 /\ (∃(v:Value),m' c0b (c0o+4)=some v/\chk (ZbM v) (∃(I:IT),inI I [int i64 ((0:Int)+(1:Int)),int i64 0] [] [] m'/\∀(y n:Int)(m'_1:Mem)(n_1:Nat),m'.le m'_1->I [int i64 y,int i64 n] []
 [] m'_1 n_1->br (decide (n < (↑(slN v):Int))) (chk (ZbM v) (atA (slA v) λb o=>Zad n (slN v)/\∃v v_5 v_6 v_7 v_8:Value,lV [v,v_5,v_6,v_7,v_8]
 λxL_1=>m'_1.reads b (o+Int.toNat n*5) xL_1/\∀(b:Nat),lE (some (Box.mk b xL_1 52 5 false true)::xL) λxL_2=>chk (v.oneCell'&&(v_5.oneCell'&&(v_6.oneCell'&&(v_7.oneCell'&&(v_8.oneCell'&&true))))) (kF Tryz.prog 103 [agg (Array.mk xL_1)] m'_1 λg fi ca m'=>∃(xs_1:List (List Value)),IX Tryz.prog g fi ca m' xs_1/\(∀(x:List Value),x∈xs_1->Shape.fitsL [Shape.agg
 [Shape.int u8,Shape.any,Shape.str,Shape.int i64,Shape.slice]] x=true)/\∃(I_1:IT),I_1 [int i64 y] [] [] m' 0/\(∀(y n:Int)(v:Value)(s:ByteArray)(n_2:Int)(a:Option Addr)(n_3 c:Nat) (m'_2:
 Mem) (n_4:Nat),lE (some [agg (Array.mk [int u8 n,v,string s,int i64 n_2,slice a n_3 c])]) λyL_1=>m'.le m'_2->List.get?Internal xs_1 n_4=yL_1->I_1 [int i64 y] [] [] m'_2 n_4->∀(b:Nat),chk
 (v.oneCell'&&true) ((l=l/\(0:Int)<=y/\List.get?Internal xs (Int.toNat y)=yL_1)/\(Zac xL_2/\I_1 [int i64 (y+(1:Int))] [] [] m'_2 (n_4+1))/\Zac xL_2/\((-1:Int)=yL\/(-1:Int)=(-1:
 Int))))/\∀(y:Int)(m'_2:Mem),m'.le m'_2->I_1 [int i64 y] [] [] m'_2 (xs_1.length)->Zac xL/\nxI n_1 I [int i64 y,int i64 (i64.wrap (n+(1:Int)))] [] [] m'_2))) (y=yL\/y=(-1:
 Int))))/\((-1:Int)=yL\/(-1:Int)=(-1:Int))):IX Tryz.prog 141 [] [.pointer (some ⟨c0b,c0o,none⟩)] m xs:=
 Zi0 (E:=ZhI) Zao mix Tryz.func141 _ _ _ (by kernel_rfl) (Eq.mp (by kernel_rfl) h)
def Zlk:Env:={ EB with
 loops:=(λi=>bif Nat.beq i 3 then⟨[(6,.agg [.int .u8,.any,.str,.int .i64,.slice])],[3],[],false⟩ else⟨[],[],[],false⟩)
 frzNew:=[1] }
theorem Zjm(aA:Int)(aD:Value)(aG:ByteArray)(aF:Int)(aS:Option Addr)(aM aZ:Nat)(m:Mem)(R:RT)(h:
 lV [int u8 aA,aD,string aG,int i64 aF,slice aS aM aZ] λxL=>fzM m xL λb m'=>∀(b_1:Nat),lE [some (Box.mk b_1 [] 3 1 false true),some (Box.mk b xL 52 5 true true)] λxL_1=>kF
 Tryz.prog 103 [agg (Array.mk xL)] m' λg fi ca m'=>∃(xs:List (List Value)),IX Tryz.prog g fi ca m' xs/\(∀(x:List Value),x∈xs->Shape.fitsL [Shape.agg [Shape.int u8,Shape.any,Shape.str,Shape.int i64,
 Shape.slice]] x=true)/\∃(I:IT),I [] [[int i64 0]] [] m' 0/\(∀(n:Int)(v:Value)(s:ByteArray)(n_1:Int)(a:Option Addr)(n_2 c:Nat)(cs:List Value)(m'_1:Mem)(n_3:Nat),m'.le m'_1->
 List.get?Internal xs n_3=some [agg (Array.mk [int u8 n,v,string s,int i64 n_1,slice a n_2 c])]->I [] [cs] [] m'_1 n_3->Eng.Zth cs 0 λv=>lE (i64.wrap (RowKit.intOf v+(1:Int))) λyL=>chk
 (Za9 i64 v&&decide (i64=i64)) (br (decide (yL > (10000:Int))) (Zac xL_1/\rtM m m'_1 R (bool (decide (yL<=(10000:Int))))) (Zac xL_1/\I [] [[int i64 yL]] [] m'_1 (n_3+1))))/\∀(cs:List Value) (m'_1
 : Mem),m'.le m'_1->I [] [cs] [] m'_1 (xs.length)->Eng.Zth cs 0 λv=>chk (Za9 i64 v&&decide (i64=i64)) (rtM m m'_1 R (bool (decide (RowKit.intOf v<=(10000:Int)))))):CX Tryz.prog 94 #[.agg #[.int .u8 aA,aD,.string aG,.int .i64 aF,.slice aS aM aZ]] m [] R:=
 Zae (E:=Zlk) Zao mix Tryz.func94 (by kernel_rfl) (Eq.mp (by kernel_rfl) h)
def ZnW:Env:={ EB with
 loops:=(λi=>bif Nat.beq i 4 then⟨[(8,.agg [.int .u8,.any,.str,.int .i64,.slice])],[3],[],false⟩ else⟨[],[],[],false⟩)
 frzNew:=[1] }
theorem Zll(aA:Int)(aD:Value)(aG:ByteArray)(aF:Int)(aS:Option Addr)(aM aZ:Nat)(m:Mem)(R:RT)(h:
 lV [int u8 aA,aD,string aG,int i64 aF,slice aS aM aZ] λxL=>fzM m xL λb m'=>∀(b_1:Nat),kB Tryz.prog 94 [agg (Array.mk xL)] m' λb_2 m'=>br b_2 (kF Tryz.prog 103 [agg (Array.mk xL)]
 m' λg fi ca m'=>∃(xs:List (List Value)),IX Tryz.prog g fi ca m' xs/\(∀(x:List Value),x∈xs->Shape.fitsL [Shape.agg [Shape.int u8,Shape.any,Shape.str,Shape.int i64,Shape.slice]] x=true)/\∃(I:
 IT),I [] [[int i64 0]] [] m' 0/\(∀(n:Int)(v:Value)(s:ByteArray)(n_1:Int)(a:Option Addr)(n_2 c:Nat)(cs:List Value)(m'_1:Mem)(n_3:Nat),m'.le m'_1->List.get?Internal xs n_3=some [agg
 (Array.mk [int u8 n,v,string s,int i64 n_1,slice a n_2 c])]->I [] [cs] [] m'_1 n_3->Eng.Zth cs 0 λv=>chk (Za9 i64 v&&decide (i64=i64)) (Zac [some (Box.mk b_1 [] 3 1 false true),some (Box.mk b xL 52
 5 true true)]/\I [] [[int i64 (i64.wrap (RowKit.intOf v+(1:Int)))]] [] m'_1 (n_3+1)))/\∀(cs:List Value)(m'_1:Mem),m'.le m'_1->I [] [cs] [] m'_1 (xs.length)->Eng.Zth cs 0 λv=>rtM m
 m'_1 R v) (rtM m m' R (int i64 0))):CX Tryz.prog 95 #[.agg #[.int .u8 aA,aD,.string aG,.int .i64 aF,.slice aS aM aZ]] m [] R:=
 Zae (E:=ZnW) Zao mix Tryz.func95 (by kernel_rfl) (Eq.mp (by kernel_rfl) h)
def Zlm:Env:={ EB with
 exv:=(λi=>bif Nat.beq i 1 then true else false) }
theorem Zjn  (m:Mem)(R:RT)(h:
 ∃(v:Value),ZpU Tryz.prog 148 [int u64 9221120237041090561] v/\rtM m m R v):CX Tryz.prog 157 #[] m [] R:=
 Zae (E:=Zlm) Zao mix Tryz.func157 (by kernel_rfl) (Eq.mp (by kernel_rfl) h)
def ZhJ:Env:=EB
theorem ZgM(p0:Value)(m:Mem)(R:RT)(h:
 ∃(b:Bool),BinIs Tryz.prog BinOp.neq 49 p0 p0 (bool b)/\br b (∃(R_1:RT),True/\CX Tryz.prog 157 (Array.mk []) m [] R_1/\(∀(v:Value)(m':Mem) (css:List (List Value)),R_1 v m' css->true=true)/\∀(v:
 Value) (m':Mem),m.le m'->R_1 v m' []->rtM m m' R v) (rtM m m R p0)):CX Tryz.prog 135 #[p0] m [] R:=
 Zae (E:=ZhJ) Zao mix Tryz.func135 (by kernel_rfl) (Eq.mp (by kernel_rfl) h)
def Zjo:Env:={ EB with
 exv:=(λi=>bif Nat.beq i 7 then true else bif Nat.beq i 10 then true else false) }
theorem ZhK(p0 p1:Value)(m:Mem)(R:RT)(h:
 ∃(R_1:RT),True/\CX Tryz.prog 135 (Array.mk [p0]) m [] R_1/\(∀(v:Value)(m':Mem) (css:List (List Value)),R_1 v m' css->true=true)/\∀(v:Value)(m':Mem),m.le m'->R_1 v m' []->∃(v_1:Value),
 ZpU Tryz.prog 134 [v] v_1/\∃(R_2:RT),True/\CX Tryz.prog 135 (Array.mk [p1]) m' [] R_2/\(∀(v:Value)(m':Mem) (css:List (List Value)),R_2 v m' css->true=true)/\∀(v:Value)(m'_1:Mem),m'.le m'_1->R_2 v m'_1 []->∃(v_2:Value),ZpU Tryz.prog 134 [v] v_2/\chk (Za9 u64 v_1&&Za9 u64 v_2) (rtM m m'_1 R (bool (RowKit.intOf v_1 == RowKit.intOf v_2)))):CX Tryz.prog 97 #[p0,p1] m [] R:=
 Zae (E:=Zjo) Zao mix Tryz.func97 (by kernel_rfl) (Eq.mp (by kernel_rfl) h)
def ZbZ:Env:={ EB with
 loops:=(λi=>bif Nat.beq i 2 then⟨[(8,.int .i64)],[],[],false⟩ else⟨[],[],[],false⟩) }
theorem ZbT(p0a:Option Addr)(p0n p0c:Nat)(p1:ByteArray)(m:Mem)(R:RT)(h:
 ∃(I:IT),inI I [int i64 0] [] [] m/\∀(n:Int)(m':Mem)(n_1:Nat),m.le m'->I [int i64 n] [] [] m' n_1->br (decide (n < (↑p0n:Int))) (atA p0a λb o=>Zad n p0n/\∃(v:Value),m' b (o +
 Int.toNat n*1)=some v/\chk (Zfh v) (br (ByteArray.toList p1 == ByteArray.toList (ZbX v)) (rtM m m' R (int i64 n)) (nxI n_1 I [int i64 (i64.wrap (n+(1:Int)))] [] [] m'))) (rtM m m' R (int i64 (-1:
 Int)))):CX Tryz.prog 34 #[.slice p0a p0n p0c,.string p1] m [] R:=
 Zae (E:=ZbZ) Zao mix Tryz.func34 (by kernel_rfl) (Eq.mp (by kernel_rfl) h)
def ZbA:Env:=EB
theorem Zbr(p0a:Option Addr)(p0n p0c:Nat)(p1:ByteArray)(m:Mem)(R:RT)(h:
 kI Tryz.prog 34 [slice p0a p0n p0c,string p1] m λn m'=>rtM m m' R (bool (decide (n ≥ (0:Int))))):CX Tryz.prog 29 #[.slice p0a p0n p0c,.string p1] m [] R:=
 Zae (E:=ZbA) Zao mix Tryz.func29 (by kernel_rfl) (Eq.mp (by kernel_rfl) h)
def ZnX:Env:={ EB with
 joins:=(λi=>bif Nat.beq i 3 then some [(6,.bool)]else none) }
theorem Zln(p0:Int)(m:Mem)(R:RT)(h:
 br (p0 == (1:Int)) (rtM m m R (int i64 1)) (∃(b:Bool),br (decide (p0 ≥ (2:Int))) ([bool (decide (p0<=(7:Int)))]=[bool b]) ([bool false]=[bool b])/\br b (rtM m m R (int i64 2)) (rtM m m R (int i64 0)))):CX Tryz.prog 104 #[.int .u8 p0] m [] R:=
 Zae (E:=ZnX) Zao mix Tryz.func104 (by kernel_rfl) (Eq.mp (by kernel_rfl) h)
def ZaC:Env:={ EB with
 loops:=(λi=>bif Nat.beq i 4 then⟨[(17,.int .i64)],[],[],false⟩ else⟨[],[],[],false⟩) }
theorem Zaz(p0a:Option Addr)(p0n p0c:Nat)(p1a:Option Addr)(p1n p1c p2g:Nat)(p2fi p2ca:List Value)(m:Mem)(R:RT)(h:
 br (!(↑p0n:Int) == (↑p1n:Int)) (rtM m m R (bool false)) (∃(I:IT),inI I [int i64 0] [] [] m/\∀(n:Int)(m':Mem)(n_1:Nat),m.le m'->I [int i64 n] [] [] m' n_1->br (decide (n < (↑p0n:Int))) (atA p0a
 λb o=>Zad n p0n/\∃v v_1 v_2 v_3 v_4:Value,m'.reads b (o+Int.toNat n*5) [v,v_1,v_2,v_3,v_4]/\∀(b:Nat),chk (v.oneCell' &&
 (v_1.oneCell'&&(v_2.oneCell'&&(v_3.oneCell'&&(v_4.oneCell'&&true))))) (atA p1a λb o=>Zad n p1n/\∃v_5 v_6 v_7 v_8 v_9:Value,m'.reads b (o+Int.toNat n*5) [v_5,v_6,v_7,v_8,v_9]/\∀(b:Nat),chk (v_5.oneCell'&&(v_6.oneCell'&&(v_7.oneCell'&&(v_8.oneCell'&&(v_9.oneCell'&&true))))) (kB
 Tryz.prog p2g (List.append (List.append p2fi [agg (Array.mk [v,v_1,v_2,v_3,v_4]),agg (Array.mk [v_5,v_6,v_7,v_8,v_9])]) p2ca) m' λb m'=>br (!b) (rtM m m' R (bool false)) (nxI n_1 I [int i64 (i64.wrap (n+(1:Int)))] [] [] m')))) (rtM m m' R (bool true)))):CX Tryz.prog 162 #[.slice p0a p0n p0c,.slice p1a p1n p1c,.func (.func p2g) p2fi.toArray p2ca.toArray] m [] R:=
 Zae (E:=ZaC) Zao mix Tryz.func162 (by kernel_rfl) (Eq.mp (by kernel_rfl) h)
def ZnY:Env:={ EB with
 joins:=(λi=>bif Nat.beq i 1 then some [(4,.bool)]else none)
 frzNew:=[2,3] }
theorem Zlo(aA:Int)(aD:Value)(aG:ByteArray)(aF:Int)(aS:Option Addr)(aM aZ:Nat)(bM:Int)(bV:Value)(bX:ByteArray)(cJ:Int)(dM:Option Addr)(dG dP:Nat)(m:Mem)(R:RT)(h:
 lV [int u8 bM,bV,string bX,int i64 cJ,slice dM dG dP] λxL=>lV [int u8 aA,aD,string aG,int i64 aF,slice aS aM aZ] λxL_1=>fzM m xL_1 λb m'=>lE [some (Box.mk b xL_1
 52 5 true true)] λxL_2=>fzM m' xL λb m'=>∃(b_1:Bool),lV [bool b_1] λxL_3=>lE (some (Box.mk b xL 52 5 true true)::xL_2) λxL=>br (aA == bM) (kB Tryz.prog 97 [aD,bV] m' λb m'=>br b
 (br (ByteArray.toList aG == ByteArray.toList bX) (br (aF == cJ) (kB Tryz.prog 162 [slice aS aM aZ,slice dM dG dP,func (Fn.func 160) (Array.mk []) (Array.mk [])] m' λb m'=>Zac xL/\
 [bool b]=xL_3) (Zac xL/\[bool false]=xL_3)) (Zac xL/\[bool false]=xL_3)) (Zac xL/\[bool false]=xL_3)) (Zac xL/\[bool false]=xL_3)/\rtM m m' R (bool b_1)):CX Tryz.prog 160 #[.agg #[.int .u8 aA,aD,.string aG,.int .i64 aF,.slice aS aM aZ],.agg #[.int .u8 bM,bV,.string bX,.int .i64 cJ,.slice dM dG dP]] m [] R:=
 Zae (E:=ZnY) Zao mix Tryz.func160 (by kernel_rfl) (Eq.mp (by kernel_rfl) h)
def ZnZ:Env:={ EB with
 joins:=(λi=>bif Nat.beq i 1 then some [(4,.bool)]else none)
 frzNew:=[2,3] }
theorem Zlp(aA:Int)(aD:Value)(aG:ByteArray)(aF:Int)(aS:Option Addr)(aM aZ:Nat)(bM:Int)(bV:Value)(bX:ByteArray)(cJ:Int)(dM:Option Addr)(dG dP:Nat)(m:Mem)(R:RT)(h:
 lV [int u8 bM,bV,string bX,int i64 cJ,slice dM dG dP] λxL=>lV [int u8 aA,aD,string aG,int i64 aF,slice aS aM aZ] λxL_1=>fzM m xL_1 λb m'=>lE [some (Box.mk b xL_1
 52 5 true true)] λxL_2=>fzM m' xL λb m'=>∃(b_1:Bool),lE (some (Box.mk b xL 52 5 true true)::xL_2) λxL_3=>(kB Tryz.prog 94 [agg (Array.mk xL_1)] m' λb m'=>br b (kB Tryz.prog 94 [agg (Array.mk
 xL)] m' λb m'=>br b (kB Tryz.prog 160 [agg (Array.mk xL_1),agg (Array.mk xL)] m' λb m'=>Zac xL_3/\[bool b]=[bool b_1]) (Zac xL_3/\[bool false]=[bool b_1])) (Zac xL_3/\[bool false]=[bool
 b_1]))/\rtM m m' R (bool b_1)):CX Tryz.prog 140 #[.agg #[.int .u8 aA,aD,.string aG,.int .i64 aF,.slice aS aM aZ],.agg #[.int .u8 bM,bV,.string bX,.int .i64 cJ,.slice dM dG dP]] m [] R:=
 Zae (E:=ZnZ) Zao mix Tryz.func140 (by kernel_rfl) (Eq.mp (by kernel_rfl) h)
def Zn0:Env:={ EB with
 frzNew:=[1] }
theorem Zlq(aA:Int)(aD:Value)(aG:ByteArray)(aF:Int)(aS:Option Addr)(aM aZ:Nat)(m:Mem)(R:RT)(h:
 lV [int u8 aA,aD,string aG,int i64 aF,slice aS aM aZ] λxL=>fzM m xL λb m'=>kB Tryz.prog 94 [agg (Array.mk xL)] m' λb m'=>br (!b) (rtM m m' R (slice none 0 0)) (kS Tryz.prog 142 [slice
 none 0 0,agg (Array.mk xL)] m' λa n c m'=>rtM m m' R (slice a n c))):CX Tryz.prog 109 #[.agg #[.int .u8 aA,aD,.string aG,.int .i64 aF,.slice aS aM aZ]] m [] R:=
 Zae (E:=Zn0) Zao mix Tryz.func109 (by kernel_rfl) (Eq.mp (by kernel_rfl) h)
def Zn1:Env:={ EB with
 loops:=(λi=>bif Nat.beq i 5 then⟨[(9,.agg [.int .u8,.any,.str,.int .i64,.slice])],[3],[],false⟩ else⟨[],[],[],false⟩)
 frzNew:=[1] }
theorem Zlr(aA:Int)(aD:Value)(aG:ByteArray)(aF:Int)(aS:Option Addr)(aM aZ:Nat)(m:Mem)(R:RT)(h:
 lV [int u8 aA,aD,string aG,int i64 aF,slice aS aM aZ] λxL=>fzM m xL λb m'=>∀(b_1:Nat),lE [some (Box.mk b_1 [] 3 1 false true),some (Box.mk b xL 52 5 true true)] λxL_1=>kB
 Tryz.prog 94 [agg (Array.mk xL)] m' λb m'=>br b (kF Tryz.prog 103 [agg (Array.mk xL)] m' λg fi ca m'=>∃(xs:List (List Value)),IX Tryz.prog g fi ca m' xs/\(∀(x:List Value),x∈xs->Shape.fitsL
 [Shape.agg [Shape.int u8,Shape.any,Shape.str,Shape.int i64,Shape.slice]] x=true)/\∃(I:IT),I [] [[int i64 (-1:Int)]] [] m' 0/\(∀(n:Int)(v:Value)(s:ByteArray)(n_1:Int)(a:Option Addr) (n_2 c:
 Nat) (cs:List Value) (m'_1:Mem) (n_3:Nat),m'.le m'_1->List.get?Internal xs n_3=some [agg (Array.mk [int u8 n,v,string s,int i64 n_1,slice a n_2 c])]->I [] [cs] [] m'_1 n_3->∀(b:Nat),chk
 (v.oneCell'&&true) (br (n == (10:Int)) (Eng.Zth cs 0 λv=>chk (Za9 i64 v&&decide (i64=i64)) (Zac xL_1/\I [] [[int i64 (if n_1 > RowKit.intOf v then n_1 else RowKit.intOf v)]] [] m'_1 (n_3+1)))
 (Zac xL_1/\I [] [cs] [] m'_1 (n_3+1))))/\∀(cs:List Value)(m'_1:Mem),m'.le m'_1->I [] [cs] [] m'_1 (xs.length)->Eng.Zth cs 0 λv=>rtM m m'_1 R v) (rtM m m' R (int i64 (-1:Int)))):CX Tryz.prog 76 #[.agg #[.int .u8 aA,aD,.string aG,.int .i64 aF,.slice aS aM aZ]] m [] R:=
 Zae (E:=Zn1) Zao mix Tryz.func76 (by kernel_rfl) (Eq.mp (by kernel_rfl) h)
def Zpt:Env:={ EB with
 frzNew:=[1] }
theorem Zn2(aA aD aG aF bG bH bI:Int)(bF:Option Addr)(bD bJ:Nat)(m:Mem)(R:RT)(h:
 fzM m [int u8 aA,int u64 aD,int u64 aG,int u64 aF,int u64 bG,int i64 bH,int i64 bI,slice bF bD bJ] λb m'=>rtM m m' R (func (Fn.func 133) (Array.mk []) (Array.mk [Value.pointer (some
 (Addr.mk b 0 none))]))):CX Tryz.prog 93 #[.agg #[.int .u8 aA,.int .u64 aD,.int .u64 aG,.int .u64 aF,.int .u64 bG,.int .i64 bH,.int .i64 bI,.slice bF bD bJ]] m [] R:=
 Zae (E:=Zpt) Zao mix Tryz.func93 (by kernel_rfl) (Eq.mp (by kernel_rfl) h)
def Zls:Env:={ EB with
 loops:=(λi=>bif Nat.beq i 3 then⟨[(13,.int .i64)],[],[],true⟩ else bif Nat.beq i 7 then⟨[(19,.agg [.int .u8,.int .u64,.int .u64,.int .u64,.int .u64,.int .i64,.int .i64,.slice])],[],[],true⟩ else⟨[],[],[],false⟩)
 frzNew:=[2] }
theorem Zjp(p0g:Nat)(p0fi p0ca:List Value)(c0b c0o:Nat)(m:Mem)(xs:List (List Value))(h:
 ∀(l:Nat),lE (↑(xs.length):Int) λyL=>lV [func (Fn.yield l) (Array.mk []) (Array.mk [])] λxL=>fzM m xL λb m'=>∃v v_1 v_2 v_3 v_4 v_5 v_6 v_7:Value,lV [v,v_1,v_2,v_3,v_4,v_5,v_6,v_7] λxL_1=>lE [some (Box.mk b xL 127 1 true true)] λxL=>m'.reads c0b c0o xL_1/\(l=l/\(0:Int)<=(0:Int)/\
 List.get?Internal xs (Int.toNat (0:Int))=some [agg (Array.mk xL_1)])/\(∃(v:Value),m' c0b (c0o+7)=some v/\chk (ZbM v) (∃(I:IT),inI I [int i64 ((0:Int)+(1:Int)),int i64 0] [] [] m'/\∀(y n:
 Int) (m'_1:Mem) (n_1:Nat),m'.le m'_1->I [int i64 y,int i64 n] [] [] m'_1 n_1->br (decide (n < (↑(slN v):Int))) (chk (ZbM v) (atA (slA v) λb o=>Zad n (slN v)/\∃v v_8 v_9 v_10 v_11 v_12 v_13 v_14:Value,lV [v,v_8,v_9,v_10,v_11,v_12,v_13,v_14] λxL_2=>m'_1.reads b (o+Int.toNat n*8) xL_2/\∀(b:
 Nat),lE (some (Box.mk b xL_2 42 8 false true)::xL) λxL_3=>chk (v.oneCell'&&(v_8.oneCell'&&(v_9.oneCell'&&(v_10.oneCell'&&(v_11.oneCell'&&(v_12.oneCell' &&
 (v_13.oneCell'&&(v_14.oneCell'&&true)))))))) (kF Tryz.prog 93 [agg (Array.mk xL_2)] m'_1 λg fi ca m'=>∃(xs_1:List (List Value)),IX Tryz.prog g fi ca m' xs_1/\(∀(x:List Value),x∈xs_1->
 Shape.fitsL [shT] x=true)/\∃(I_1:IT),I_1 [int i64 y] [] [] m' 0/\(∀(y n n_2 n_3 n_4 n_5 n_6 n_7:Int)(a:Option Addr)(n_8 c:Nat)(m'_2:Mem)(n_9:Nat),lE (some [agg (Array.mk [int u8 n,int u64 n_2,
 int u64 n_3,int u64 n_4,int u64 n_5,int i64 n_6,int i64 n_7,slice a n_8 c])]) λyL_1=>m'.le m'_2->List.get?Internal xs_1 n_9=yL_1->I_1 [int i64 y] [] [] m'_2 n_9->∀(b:Nat),(l=l/\(0:Int)<=y/\
 List.get?Internal xs (Int.toNat y)=yL_1)/\(Zac xL_3/\I_1 [int i64 (y+(1:Int))] [] [] m'_2 (n_9+1))/\Zac xL_3/\((-1:Int)=yL\/(-1:Int)=(-1:Int)))/\∀(y:Int)(m'_2:Mem),m'.le m'_2->
 I_1 [int i64 y] [] [] m'_2 (xs_1.length)->Zac xL/\nxI n_1 I [int i64 y,int i64 (i64.wrap (n+(1:Int)))] [] [] m'_2))) (y=yL\/y=(-1:Int))))/\((-1:Int)=yL\/(-1:Int)=(-1:Int))):IX Tryz.prog 133 [] [.pointer (some ⟨c0b,c0o,none⟩)] m xs:=
 Zi0 (E:=Zls) Zao mix Tryz.func133 _ _ _ (by kernel_rfl) (Eq.mp (by kernel_rfl) h)
def Zpu:Env:={ EB with
 loops:=(λi=>bif Nat.beq i 3 then⟨[(6,.agg [.int .u8,.int .u64,.int .u64,.int .u64,.int .u64,.int .i64,.int .i64,.slice])],[3],[],false⟩ else⟨[],[],[],false⟩)
 frzNew:=[1] }
theorem Zn3(aA aD aG aF bG bH bI:Int)(bF:Option Addr)(bD bJ:Nat)(m:Mem)(R:RT)(h:
 lV [int u8 aA,int u64 aD,int u64 aG,int u64 aF,int u64 bG,int i64 bH,int i64 bI,slice bF bD bJ] λxL=>fzM m xL λb m'=>∀(b_1:Nat),lE [some (Box.mk b_1 [] 3 1 false true),some
 (Box.mk b xL 42 8 true true)] λxL_1=>kF Tryz.prog 93 [agg (Array.mk xL)] m' λg fi ca m'=>∃(xs:List (List Value)),IX Tryz.prog g fi ca m' xs/\(∀(x:List Value),x∈xs->Shape.fitsL [shT] x=true)/\∃
 (I:IT),I [] [[int i64 0]] [] m' 0/\(∀(n n_1 n_2 n_3 n_4 n_5 n_6:Int)(a:Option Addr)(n_7 c:Nat)(cs:List Value)(m'_1:Mem)(n_8:Nat),m'.le m'_1->List.get?Internal xs n_8=some [agg (Array.mk
 [int u8 n,int u64 n_1,int u64 n_2,int u64 n_3,int u64 n_4,int i64 n_5,int i64 n_6,slice a n_7 c])]->I [] [cs] [] m'_1 n_8->Eng.Zth cs 0 λv=>lE (i64.wrap (RowKit.intOf v+(1:Int))) λyL=>chk
 (Za9 i64 v&&decide (i64=i64)) (br (decide (yL > (10000:Int))) (Zac xL_1/\rtM m m'_1 R (bool (decide (yL<=(10000:Int))))) (Zac xL_1/\I [] [[int i64 yL]] [] m'_1 (n_8+1))))/\∀(cs:List Value) (m'_1
 : Mem),m'.le m'_1->I [] [cs] [] m'_1 (xs.length)->Eng.Zth cs 0 λv=>chk (Za9 i64 v&&decide (i64=i64)) (rtM m m'_1 R (bool (decide (RowKit.intOf v<=(10000:Int)))))):CX Tryz.prog 59 #[.agg #[.int .u8 aA,.int .u64 aD,.int .u64 aG,.int .u64 aF,.int .u64 bG,.int .i64 bH,.int .i64 bI,.slice bF bD bJ]] m [] R:=
 Zae (E:=Zpu) Zao mix Tryz.func59 (by kernel_rfl) (Eq.mp (by kernel_rfl) h)
def ZsJ:Env:={ EB with
 loops:=(λi=>bif Nat.beq i 5 then⟨[(9,.agg [.int .u8,.int .u64,.int .u64,.int .u64,.int .u64,.int .i64,.int .i64,.slice])],[3],[],false⟩ else⟨[],[],[],false⟩)
 frzNew:=[1] }
theorem Zpv(aA aD aG aF bG bH bI:Int)(bF:Option Addr)(bD bJ:Nat)(m:Mem)(R:RT)(h:
 lV [int u8 aA,int u64 aD,int u64 aG,int u64 aF,int u64 bG,int i64 bH,int i64 bI,slice bF bD bJ] λxL=>fzM m xL λb m'=>kB Tryz.prog 59 [agg (Array.mk xL)] m' λb_1 m'=>br (!b_1)
 (rtM m m' R (int i64 10001)) (∀(b_2:Nat),kF Tryz.prog 93 [agg (Array.mk xL)] m' λg fi ca m'=>∃(xs:List (List Value)),IX Tryz.prog g fi ca m' xs/\(∀(x:List Value),x∈xs->Shape.fitsL [shT] x=true)/\
 ∃(I:IT),I [] [[int i64 0]] [] m' 0/\(∀(n n_1 n_2 n_3 n_4 n_5 n_6:Int)(a:Option Addr)(n_7 c:Nat)(cs:List Value)(m'_1:Mem)(n_8:Nat),m'.le m'_1->List.get?Internal xs n_8=some [agg (Array.mk
 [int u8 n,int u64 n_1,int u64 n_2,int u64 n_3,int u64 n_4,int i64 n_5,int i64 n_6,slice a n_7 c])]->I [] [cs] [] m'_1 n_8->Eng.Zth cs 0 λv=>chk (Za9 i64 v&&decide (i64=i64)) (Zac [some (Box.mk
 b_2 [] 3 1 false true),some (Box.mk b xL 42 8 true true)]/\I [] [[int i64 (i64.wrap (RowKit.intOf v+(1:Int)))]] [] m'_1 (n_8+1)))/\∀(cs:List Value)(m'_1:Mem),m'.le m'_1->I [] [cs] [] m'_1
 (xs.length)->Eng.Zth cs 0 λv=>rtM m m'_1 R v)):CX Tryz.prog 58 #[.agg #[.int .u8 aA,.int .u64 aD,.int .u64 aG,.int .u64 aF,.int .u64 bG,.int .i64 bH,.int .i64 bI,.slice bF bD bJ]] m [] R:=
 Zae (E:=ZsJ) Zao mix Tryz.func58 (by kernel_rfl) (Eq.mp (by kernel_rfl) h)
def ZaQ:Env:={ EB with
 loops:=(λi=>bif Nat.beq i 4 then⟨[(17,.int .i64)],[],[],false⟩ else⟨[],[],[],false⟩) }
theorem ZaO(p0a:Option Addr)(p0n p0c:Nat)(p1a:Option Addr)(p1n p1c p2g:Nat)(p2fi p2ca:List Value)(m:Mem)(R:RT)(h:
 br (!(↑p0n:Int) == (↑p1n:Int)) (rtM m m R (bool false)) (∃(I:IT),inI I [int i64 0] [] [] m/\∀(n:Int)(m':Mem)(n_1:Nat),m.le m'->I [int i64 n] [] [] m' n_1->br (decide (n < (↑p0n:Int))) (atA p0a
 λb o=>Zad n p0n/\∃v v_1 v_2 v_3 v_4 v_5 v_6 v_7:Value,lV [v,v_1,v_2,v_3,v_4,v_5,v_6,v_7] λxL=>
 m'.reads b (o+Int.toNat n*8) xL/\∀(b:Nat),chk (v.oneCell'&&(v_1.oneCell'&&(v_2.oneCell'&&(v_3.oneCell'&&(v_4.oneCell'&&(v_5.oneCell'&&(v_6.oneCell' &&
 (v_7.oneCell'&&true)))))))) (atA p1a λb o=>Zad n p1n/\∃v v_8 v_9 v_10 v_11 v_12 v_13 v_14:Value,lV [v,
 v_8,v_9,v_10,v_11,v_12,v_13,v_14] λxL_1=>m'.reads b (o+Int.toNat n*8) xL_1/\∀(b:Nat),chk (v.oneCell'&&(v_8.oneCell'&&(v_9.oneCell'&&(v_10.oneCell'&&(v_11.oneCell'&&(v_12.oneCell'&&(v_13.oneCell'&&(v_14.oneCell'&&true)))))))) (kB Tryz.prog p2g (List.append (List.append p2fi [agg (Array.mk xL),agg (Array.mk xL_1)]) p2ca) m' λb m'=>br (!b) (rtM m
 m' R (bool false)) (nxI n_1 I [int i64 (i64.wrap (n+(1:Int)))] [] [] m')))) (rtM m m' R (bool true)))):CX Tryz.prog 158 #[.slice p0a p0n p0c,.slice p1a p1n p1c,.func (.func p2g) p2fi.toArray p2ca.toArray] m [] R:=
 Zae (E:=ZaQ) Zao mix Tryz.func158 (by kernel_rfl) (Eq.mp (by kernel_rfl) h)
def ZsK:Env:={ EB with
 joins:=(λi=>bif Nat.beq i 1 then some [(4,.bool)]else none)
 frzNew:=[2,3] }
theorem Zpw(aA aD aG aF bG bH bI:Int)(bF:Option Addr)(bD bJ:Nat)(bM bV bX cJ eA eB eC:Int)(dR:Option Addr)(dS dT:Nat)(m:Mem)(R:RT)(h:
 lV [int u8 aA,int u64 aD,int u64 aG,int u64 aF,int u64 bG,int i64 bH,int i64 bI,slice bF bD bJ] λxL=>lV [int u8 bM,int u64 bV,int u64 bX,int u64 cJ,int u64 eA,int i64
 eB,int i64 eC,slice dR dS dT] λxL_1=>fzM m xL λb m'=>lE [some (Box.mk b xL 42 8 true true)] λxL=>fzM m' xL_1 λb m'=>∃(b_1:Bool),lV [bool b_1] λxL_2=>lE (some (Box.mk b xL_1 42
 8 true true)::xL) λxL=>br (aA == bM) (∃(b:Bool),EqIs Tryz.prog 39 (agg (Array.mk [int u64 aD,int u64 aG,int u64 aF,int u64 bG])) (agg (Array.mk [int u64 bV,int u64 bX,int u64 cJ,int
 u64 eA])) b/\br b (br (bH == eB) (br (bI == eC) (kB Tryz.prog 158 [slice bF bD bJ,slice dR dS dT,func (Fn.func 136) (Array.mk []) (Array.mk [])] m' λb m'=>Zac xL/\[bool b]=xL_2)
 (Zac xL/\[bool false]=xL_2)) (Zac xL/\[bool false]=xL_2)) (Zac xL/\[bool false]=xL_2)) (Zac xL/\[bool false]=xL_2)/\rtM m m' R (bool b_1)):CX Tryz.prog 136 #[.agg #[.int .u8 aA,.int .u64 aD,.int .u64 aG,.int .u64 aF,.int .u64 bG,.int .i64 bH,.int .i64 bI,.slice bF bD bJ],.agg #[.int .u8 bM,.int .u64 bV,.int .u64 bX,.int .u64 cJ,.int .u64 eA,.int .i64 eB,.int .i64 eC,.slice dR dS dT]] m [] R:=
 Zae (E:=ZsK) Zao mix Tryz.func136 (by kernel_rfl) (Eq.mp (by kernel_rfl) h)
def ZsL:Env:={ EB with
 joins:=(λi=>bif Nat.beq i 1 then some [(4,.bool)]else none)
 frzNew:=[2,3] }
theorem Zpx(aA aD aG aF bG bH bI:Int)(bF:Option Addr)(bD bJ:Nat)(bM bV bX cJ eA eB eC:Int)(dR:Option Addr)(dS dT:Nat)(m:Mem)(R:RT)(h:
 lV [int u8 aA,int u64 aD,int u64 aG,int u64 aF,int u64 bG,int i64 bH,int i64 bI,slice bF bD bJ] λxL=>lV [int u8 bM,int u64 bV,int u64 bX,int u64 cJ,int u64 eA,int i64
 eB,int i64 eC,slice dR dS dT] λxL_1=>fzM m xL λb m'=>lE [some (Box.mk b xL 42 8 true true)] λxL_2=>fzM m' xL_1 λb m'=>∃(b_1:Bool),lE (some (Box.mk b xL_1 42 8 true true)::xL_2)
 λxL_3=>(kB Tryz.prog 59 [agg (Array.mk xL)] m' λb m'=>br b (kB Tryz.prog 59 [agg (Array.mk xL_1)] m' λb m'=>br b (kB Tryz.prog 136 [agg (Array.mk xL),agg (Array.mk xL_1)] m' λb m'=>Zac xL_3/\
 [bool b]=[bool b_1]) (Zac xL_3/\[bool false]=[bool b_1])) (Zac xL_3/\[bool false]=[bool b_1]))/\rtM m m' R (bool b_1)):CX Tryz.prog 100 #[.agg #[.int .u8 aA,.int .u64 aD,.int .u64 aG,.int .u64 aF,.int .u64 bG,.int .i64 bH,.int .i64 bI,.slice bF bD bJ],.agg #[.int .u8 bM,.int .u64 bV,.int .u64 bX,.int .u64 cJ,.int .u64 eA,.int .i64 eB,.int .i64 eC,.slice dR dS dT]] m [] R:=
 Zae (E:=ZsL) Zao mix Tryz.func100 (by kernel_rfl) (Eq.mp (by kernel_rfl) h)
end Go.Proofs.YtpjepnkiiojgfaaGreat
namespace Go.Proofs.YtpjepnkiiojgfaaGreat
open Go Go.Eng Go.Rx Go.Proofs Go.RowKit
set_option maxRecDepth 100000
theorem Zmm(t:T)(m:Mem):CX Tryz.prog 93 #[t.v] m [] (λv m' _=>∃b,v=.func (.func 133) #[] #[.pointer (some ⟨b,0,none⟩)]/\m'.reads b 0 t.cs):=by
 apply Zn2
 intro b m' hm hb
 exact⟨m',hm,Mem.le_refl _,b,rfl,hb⟩
theorem Zjq(t:T)(m:Mem)(c0b:Nat)(cG:m.reads c0b 0 t.cs)(cX:Rep m t):IX Tryz.prog 133 [] [.pointer (some ⟨c0b,0,none⟩)] m (t.nodes.map λx=>[x.v]):=by
 apply Zjp 0 [] [] c0b 0
 intro l b m' hm hb
 have io:=cG.mono hm
 refine⟨_,_,_,_,_,_,_,_,io,⟨rfl,by omega,?_⟩,?_,.inr rfl⟩
 ·rw[Zcq];rfl
 refine⟨t.sl,io 7 _ rfl,Zaa rfl ?_⟩
 refine⟨λxs _ _ m'' q=>∃i:Nat,i<=t.subs.length/\xs=[.int .i64 ((1+(ZaI (t.subs.take i)).length:Nat):Int),.int .i64 i]/\m'.le m''/\q=t.subs.length - i,⟨t.subs.length,0,by omega,?_,Mem.le_refl _,by omega⟩,?_⟩
 ·simp[ZaI]
 rintro y n m2 q aK ⟨i,hi,cK,eU,hq⟩
 simp only[List.cons.injEq,Value.int.injEq,true_and,and_true]at cK
 obtain⟨rfl,rfl⟩:=cK
 have aH:slN t.sl=t.subs.length:=rfl
 rw[aH]
 refine Zab (λaC=>?_) (λbL=>?_)
 ·have aI:i < t.subs.length:=by simpa using aC
  obtain⟨x,hx⟩:∃x,t.subs[i]?=some x:=⟨_,zA3 aI⟩
  have cI:x∈t.subs:=zA2 hx
  have bE:=Zr0 cI
  obtain⟨nD,h0|⟨b1,o1,ha,eT⟩⟩:=Znl cX
  ·rw[h0]at aI;simp at aI
  obtain⟨dJ,dW⟩:=(eT.mono ((mLt hm eU))).get hx
  refine Zaa rfl ⟨b1,o1,ha,⟨by omega,by omega⟩,_,_,_,_,_,_,_,_,dJ,λb2=>Zaa rfl ?_⟩
  refine⟨_,trivial,Zmm x m2,λv m' css h=>?_,?_⟩
  ·obtain⟨b3,rfl,_⟩:=h;rfl
  rintro g fi ca m3 aQ ⟨b3,hv,gl⟩
  obtain⟨rfl,rfl,rfl⟩:=Zcp hv
  refine⟨_,Zjq x m3 b3 gl (dW.mono aQ),λy hy=>?_,?_⟩
  ·obtain⟨z,_,rfl⟩:=List.mem_map.1 hy;exact ZuF z
  refine⟨λxs _ _ m'' q=>q<=x.nodes.length/\xs=[.int .i64 ((1+(ZaI (t.subs.take i)).length+q:Nat):Int)]/\m3.le m'',⟨Nat.zero_le _,rfl,Mem.le_refl _⟩,?_,?_⟩
  ·rintro y n0 n1 n2 n3 n4 n5 n6 a n7 c m4 q bZ hq ⟨gZ,hy,_⟩ b4
   simp only[List.cons.injEq,Value.int.injEq,true_and,and_true]at hy
   subst hy
   have hq':(List.map (λz:T=>[z.v]) x.nodes)[(q:Nat)]?=some [Value.agg #[.int .u8 n0,.int .u64 n1,.int .u64 n2,.int .u64 n3,.int .u64 n4,.int .i64 n5,.int .i64 n6,.slice a n7 c]]:=hq
   rw[List.getElem?_map]at hq'
   obtain⟨z,hz,ic⟩:=Option.map_eq_some_iff.1 hq'
   have pB:q < x.nodes.length:=(zA0 hz).1
   refine⟨⟨rfl,by omega,?_⟩,⟨rfl,by omega,?_,bZ⟩,rfl,.inr rfl⟩
   ·rw[zA8]
    show(t.nodes.map λx=>[x.v])[1+(ZaI (t.subs.take i)).length+q]?=_
    rw[List.getElem?_map,ZuE hx hz,<-ic];rfl
   ·congr 2
  ·rintro y m4 bZ ⟨gZ,hy,_⟩
   simp only[List.cons.injEq,Value.int.injEq,true_and,and_true]at hy
   subst hy
   refine⟨rfl,t.subs.length - (i+1),by omega,i+1,by omega,?_,mLt eU (mLt aQ bZ),rfl⟩
   rw[Zak (by omega) (by omega),Znm hx,zA1]
   simp[T.v,Nat.add_assoc]
 ·have hi':i=t.subs.length:=by
   have:¬((i:Int) < (t.subs.length:Int)):=by simpa using bL
   omega
  subst hi'
  left
  rw[List.take_length,Zcq]
  simp
  omega
termination_by SizeOf.sizeOf t
decreasing_by exact bE
theorem Zhr(t:T)(m:Mem)(hr:Rep m t):CX Tryz.prog 59 #[t.v] m [] (Ret (.bool t.light)):=by
 apply Zn3
 intro b m1 aE _ b2
 refine Zan (Zmm t m1) (λv m' css h=>by obtain⟨_,rfl,_⟩:=h;rfl) ?_
 rintro g fi ca m2 aK ⟨b3,hv,gl⟩
 obtain⟨rfl,rfl,rfl⟩:=Zcp hv
 have bU:=mLt aE aK
 refine⟨_,Zjq t m2 b3 gl (hr.mono bU),λy hy=>?_,λ_ css _ m' q=>css=[[.int .i64 q]]/\q<=10000/\q<=t.nodes.length,⟨rfl,by omega,by omega⟩,?_,?_⟩
 ·obtain⟨z,_,rfl⟩:=List.mem_map.1 hy;exact ZuF z
 ·rintro n0 n1 n2 n3 n4 n5 n6 a n7 c cs m3 q aQ hq ⟨bN,gZ,_⟩
  obtain rfl:cs=[.int .i64 q]:=by simpa using bN
  have aC:q < t.nodes.length:=by
   have:=(zA0 (show(List.map (λz:T=>[z.v]) t.nodes)[(q:Nat)]?=some _ from hq)).1
   simpa using this
  refine Zal rfl (Zaa rfl ?_)
  have hw:IntKind.i64.wrap (RowKit.intOf (Value.int .i64 (q:Int))+1)=(q:Int)+1:=Zak (n:=(q:Int)+1) (by omega) (by omega)
  simp only[hw]
  refine Zab (λh=>⟨by trivial,Zaf (mLt bU aQ) ?_⟩) (λh=>⟨by trivial,?_,?_,by omega⟩)
  ·have:((q:Int)+1 > 10000):=by simpa using h
   simp[Ret,T.light];omega
  ·simp
  ·have:¬((q:Int)+1 > 10000):=by simpa using h
   omega
 ·rintro cs m3 aQ ⟨bN,gZ,_⟩
  obtain rfl:cs=[.int .i64 t.nodes.length]:=by simpa using bN
  refine Zal rfl (Zaa rfl (Zaf (mLt bU aQ) ?_))
  show Value.bool (decide ((t.nodes.length:Int)<=10000))=Value.bool t.light
  congr 1
  rw[T.light,decide_eq_decide];omega
end Go.Proofs.YtpjepnkiiojgfaaGreat
namespace Go.Proofs.YtpjepnkiiojgfaaGreat
open Go Go.Eng Go.Proofs Go.RowKit
theorem Zet{P:Program}{T:TypeId}(hg:P.eqGuardType P.depth T=false)(op:BinOp)(ox oy:Operand)(xs ys:Array Value)(w:World):(eqGuard op T ox oy (.agg xs) (.agg ys)).run P w=.ok () w:=by
 unfold eqGuard
 have h1:(P.eqGuardType P.depth T)=true->False:=λh=>by rw[hg]at h;cases h
 split
 ·simp[go_sem];exact λh=>(h1 h).elim
 ·simp[go_sem];exact λh=>(h1 h).elim
 ·simp
theorem Zzh(a b c d a' b' c' d':Int):EqIs Tryz.prog 39 (.agg #[.int .u64 a,.int .u64 b,.int .u64 c,.int .u64 d]) (.agg #[.int .u64 a',.int .u64 b',.int .u64 c',.int .u64 d']) (a == a'&&b == b'&&c == c'&&d == d'):=by
 refine⟨λw=>?_,λop ox oy w=>Zet (by kernel_rfl) op ox oy _ _ w⟩
 have u3:=Tryz.underlying37
 have a3:=Tryz.isAgg37
 have z3:=Tryz.sizeOf37
 rw[Op.equal,Op.maxDepth,show(10000:Nat)=9999+1 from rfl,Op.equalIn]
 simp only[Sem.run_bind,run_underlying Tryz.underlying39,Result.andThen_ok]
 simp only[Std.Legacy.Range.forIn_eq_forIn_range',Std.Legacy.Range.size,Nat.sub_zero,Nat.add_sub_cancel,Nat.div_one,List.range'_succ,List.range'_zero,List.forIn_cons,List.forIn_nil]
 go_simp
 by_cases h1:a=a' <;> by_cases h2:b=b' <;> by_cases h3:c=c' <;> by_cases h4:d=d' <;> simp[h1,h2,h3,h4]
end Go.Proofs.YtpjepnkiiojgfaaGreat
namespace Go.Proofs.YtpjepnkiiojgfaaGreat
open Go Go.Eng Go.Rx Go.Proofs Go.RowKit
set_option maxRecDepth 100000
theorem Zt2(t:T)(m:Mem)(hr:Rep m t):CX Tryz.prog 58 #[t.v] m [] (Ret (.int .i64 t.size)):=by
 apply Zpv
 intro b m1 aE _
 refine Zah (Zhr t m1 (hr.mono aE)) λm2 aK=>Zab (λh=>Zaf (mLt aE aK) ?_) (λh=>?_)
 ·have:t.light=false:=by simpa using h
  simp[Ret,T.size,this]
 have hl:t.light=true:=by simpa using h
 have sR:t.nodes.length<=10000:=zA6 hl
 intro b2
 refine Zan (Zmm t m2) (λv m' css h=>by obtain⟨_,rfl,_⟩:=h;rfl) ?_
 rintro g fi ca m3 aQ ⟨b3,hv,gl⟩
 obtain⟨rfl,rfl,rfl⟩:=Zcp hv
 have bU:=mLt aE (mLt aK aQ)
 refine⟨_,Zjq t m3 b3 gl (hr.mono bU),λy hy=>?_,λ_ css _ m' q=>css=[[.int .i64 q]]/\q<=t.nodes.length,⟨rfl,by omega⟩,?_,?_⟩
 ·obtain⟨z,_,rfl⟩:=List.mem_map.1 hy;exact ZuF z
 ·rintro n0 n1 n2 n3 n4 n5 n6 a n7 c cs m4 q bZ hq ⟨bN,_⟩
  obtain rfl:cs=[.int .i64 q]:=by simpa using bN
  have aC:q < t.nodes.length:=by
   have:=(zA0 (show(List.map (λz:T=>[z.v]) t.nodes)[(q:Nat)]?=some _ from hq)).1
   simpa using this
  have hw:IntKind.i64.wrap (RowKit.intOf (Value.int .i64 (q:Int))+1)=(q:Int)+1:=Zak (n:=(q:Int)+1) (by omega) (by omega)
  refine Zal rfl (Zaa rfl ?_)
  simp only[hw]
  exact⟨by trivial,by simp,by omega⟩
 ·rintro cs m4 bZ ⟨bN,gZ⟩
  obtain rfl:cs=[.int .i64 t.nodes.length]:=by simpa using bN
  refine Zal rfl (Zaf (mLt bU bZ) ?_)
  simp[Ret,T.size,hl]
theorem Zlt(l l':List T)(a a':Option Addr)(c c':Nat)(m:Mem)(hl:l.length<=1000000000000000)(hr:l=[]\/∃b o,a=some ⟨b,o,none⟩/\RepAt m b o l)(hr':l'=[]\/∃b o,a'=some ⟨b,o,none⟩/\RepAt m b o l')
  (hp:∀x∈l,∀y∈l',∀m',m.le m'->Rep m' x->Rep m' y->CX Tryz.prog 136 #[x.v,y.v] m' [] (Ret (.bool (x.same y)))):
  CX Tryz.prog 158 #[.slice a l.length c,.slice a' l'.length c',.func (.func 136) #[] #[]] m [] (Ret (.bool (ZeH l l'))):=by
 apply ZaO a l.length c a' l'.length c' _ [] []
 refine Zab (λh=>Zaf (Mem.le_refl _) ?_) (λh=>?_)
 ·have:¬l.length=l'.length:=by
   intro e;rw[e]at h;simp at h
  show Value.bool false=_
  rw[Znn this]
 have gx:l.length=l'.length:=by
  have h2:((l.length:Int) == (l'.length:Int))=true:=by simpa using h
  have:=zA6 h2;omega
 refine⟨λxs _ _ m'' q=>∃i:Nat,i<=l.length/\xs=[.int .i64 i]/\ZeH (l.take i) (l'.take i)=true/\m.le m''/\q=l.length - i,⟨l.length,0,by omega,rfl,by simp[ZeH],Mem.le_refl _,by omega⟩,?_⟩
 rintro n m' q hm ⟨i,hi,hn,cY,bU,hq⟩
 obtain rfl:n=i:=by simpa using hn
 refine Zab (λaC=>?_) (λbL=>?_)
 ·have aI:i < l.length:=by simpa using aC
  obtain⟨x,hx⟩:∃x,l[i]?=some x:=⟨_,zA3 aI⟩
  obtain⟨y,hy⟩:∃y,l'[i]?=some y:=⟨_,zA3 (by omega)⟩
  have lG:x∈l:=zA2 hx
  have sS:y∈l':=zA2 hy
  rcases hr with h0|⟨b1,o1,ha,eT⟩
  ·rw[h0]at aI;simp at aI
  rcases hr' with h0|⟨b2,o2,ha',nF⟩
  ·rw[h0]at gx;simp at gx;rw[gx]at aI;simp at aI
  obtain⟨dJ,dW⟩:=(eT.mono hm).get hx
  obtain⟨gq,jX⟩:=(nF.mono hm).get hy
  refine⟨b1,o1,ha,⟨by omega,by omega⟩,_,_,_,_,_,_,_,_,dJ,λb3=>Zaa rfl ⟨b2,o2,ha',⟨by omega,by omega⟩,_,_,_,_,_,_,_,_,gq,λb4=>Zaa rfl ?_⟩⟩
  refine Zah (hp x lG y sS m' hm dW jX) λm1 aE=>Zab (λip=>?_) (λip=>?_)
  ·have hf:x.same y=false:=by simpa using ip
   refine Zaf (mLt hm aE) ?_
   show Value.bool false=_
   rw[Zqc hx hy hf]
  ·have hf:x.same y=true:=by simpa using ip
   refine⟨l.length - (i+1),by omega,i+1,by omega,by rw[Zak (by omega) (by omega)];rfl,Zks hx hy cY hf trivial,mLt hm aE,rfl⟩
 ·have hi':i=l.length:=by
   have:¬((i:Int) < (l.length:Int)):=by simpa using bL
   omega
  subst hi'
  refine Zaf hm ?_
  rw[List.take_length,gx,List.take_length]at cY
  show Value.bool true=_
  rw[cY]
theorem Zt3(t u:T)(m:Mem)(hr:Rep m t)(hu:Rep m u):CX Tryz.prog 136 #[t.v,u.v] m [] (Ret (.bool (t.same u))):=by
 apply Zpw
 intro b m1 aE _ b' m2 aK _
 have hm:=mLt aE aK
 refine⟨t.same u,?_,Zaf hm rfl⟩
 rw[Zty]
 refine Zab (λh1=>⟨_,Zzh _ _ _ _ _ _ _ _,Zab (λh2=>Zab (λh3=>Zab (λh4=>?_) (λh4=>⟨rfl,Zap ?_⟩)) (λh3=>⟨rfl,Zap ?_⟩)) (λh2=>⟨rfl,Zap ?_⟩)⟩) (λh1=>⟨rfl,Zap ?_⟩)
 ·have hr':=Znl (hr.mono hm)
  have hu':=Znl (hu.mono hm)
  refine Zah (Zlt t.subs u.subs t.a u.a t.c u.c m2 hr'.1 hr'.2 hu'.2 λx hx y hy m' _ dJ gq=>?_) λm3 aQ=>⟨rfl,Zap ?_⟩
  ·have bE:=Zr0 hx
   exact Zt3 x y m' dJ gq
  ·rw[h1,h2,h3,h4];rfl
 ·rw[h1,h2,h3,h4];rfl
 ·rw[h1,h2,h3];rfl
 ·rw[h1,h2];rfl
 ·rw[h1];rfl
termination_by SizeOf.sizeOf t
decreasing_by exact bE
theorem Zxs(t u:T)(m:Mem)(hr:Rep m t)(hu:Rep m u):CX Tryz.prog 100 #[t.v,u.v] m [] (Ret (.bool (t.light&&(u.light&&t.same u)))):=by
 apply Zpx
 intro b m1 aE _ b' m2 aK _
 have hm:=mLt aE aK
 refine⟨t.light&&(u.light&&t.same u),?_,Zaf hm rfl⟩
 refine Zah (Zhr t m2 (hr.mono hm)) λm3 aQ=>Zab (λh1=>?_) (λh1=>⟨rfl,Zap ?_⟩)
 ·refine Zah (Zhr u m3 (hu.mono (mLt hm aQ))) λm4 bZ=>Zab (λh2=>?_) (λh2=>?_)
  ·have cO:=mLt (mLt hm aQ) bZ
   refine Zah (Zt3 t u m4 (hr.mono cO) (hu.mono cO)) λm6 eY=>⟨rfl,Zap ?_⟩
   rw[h1,h2];rfl
  ·refine⟨rfl,Zap ?_⟩
   rw[h1,h2];rfl
 ·rw[h1];rfl
end Go.Proofs.YtpjepnkiiojgfaaGreat
namespace Go.Proofs.YtpjepnkiiojgfaaGreat
open Go Go.Eng Go.Rx Go.Proofs Go.RowKit
theorem ZqY{b:Bool}{p q:Prop}(h:b=true)(k:p):br b p q:=by subst h;exact k
theorem Zn4{b:Bool}{p q:Prop}(h:b=false)(k:q):br b p q:=by subst h;exact k
theorem Zaq{α:Type}{l:List α}{k:Nat}(h:k < l.length):∃x,l[k]?=some x:=⟨l[k],zA3 h⟩
theorem Zbh(t:T):Rx.Zcg [t]=t.cs:=by simp[Rx.Zcg]
theorem Zdq{m:Mem}{a:Option Addr}{ts:List T}(h:rowRd m a (Rx.Zcg ts)){i:Nat}{t:T}(hi:ts[i]?=some t):∃b o,a=some ⟨b,o,none⟩/\m.reads b (o+i*8) t.cs:=by
 rcases h with h|⟨b,o,ha,h⟩
 ·have hl:(Rx.Zcg ts).length=0:=by rw[h];rfl
  rw[Zar]at hl
  have:=(zA0 hi).1
  omega
 ·refine⟨b,o,ha,λj v hj=>?_⟩
  rw[Nat.add_assoc]
  refine h (i*8+j) v ?_
  have e:ts=ts.take i++(t::ts.drop (i+1)):=by
   have aC:=(zA0 hi).1
   have h2:=List.drop_eq_getElem_cons aC
   rw[(zA0 hi).2]at h2
   rw[<-h2,List.take_append_drop]
  have aC:=(zA0 hi).1
  have sF:=(zA0 hj).1
  rw[e,ZaS,zA4 (by rw[Zar,List.length_take,Nat.min_eq_left (by omega)];omega),Zar,List.length_take,Nat.min_eq_left (by omega),show i*8+j - i*8=j by omega]
  have e2:Rx.Zcg (t::ts.drop (i+1))=t.cs++Rx.Zcg (ts.drop (i+1)):=by simp[Rx.Zcg]
  rw[e2,zA5 sF];exact hj
def ZoN(mb M0:Mem)(φ:T->Prop):Value->Mem->List (List Value)->Prop:=λv M' css=>∃m0,mb.le m0/\m0.le M'/\(∀b o u,M0 b o=some u->∀o',m0 b o'=mb b o')/\Zno φ v m0 css
theorem Zit{mb M0:Mem}{φ:T->Prop}{m:Mem}{K:TRK}(k:∀(t:T)(m0 m':Mem),m.le m'->mb.le m0->m0.le m'->(∀b o u,M0 b o=some u->∀o',m0 b o'=mb b o')->Rep m0 t->φ t->K t.k t.s0 t.s1 t.s2 t.s3 t.mn t.mx t.a t.subs.length t.c m'):
  ∀(n0 n1 n2 n3 n4 n5 n6:Int)(a:Option Addr)(n c:Nat)(m':Mem),m.le m'->ZoN mb M0 φ (.agg #[.int .u8 n0,.int .u64 n1,.int .u64 n2,.int .u64 n3,.int .u64 n4,.int .i64 n5,.int .i64 n6,.slice a n c]) m' []->K n0 n1 n2 n3 n4 n5 n6 a n c m':=by
 rintro n0 n1 n2 n3 n4 n5 n6 a n c m' hm ⟨m0,h1,h2,h3,t,hv,hr,hp⟩
 simp only[T.v,Value.agg.injEq,Array.mk.injEq,List.cons.injEq,Value.int.injEq,Value.slice.injEq,true_and,and_true]at hv
 obtain⟨rfl,rfl,rfl,rfl,rfl,rfl,rfl,rfl,rfl,rfl⟩:=hv
 exact k t m0 m' hm h1 h2 h3 hr hp
theorem Zc9{mb M0:Mem}{φ:T->Prop}:∀(v:Value)(m':Mem) (css:List (List Value)),ZoN mb M0 φ v m' css->Shape.fits (.agg [.int .u8,.int .u64,.int .u64,.int .u64,.int .u64,.int .i64,.int .i64,.slice]) v=true:=λv _ _ ⟨_,_,_,_,t,e,_⟩=>by rw[e];rfl
def Apart(mb:Mem)(a:Option Addr):Prop:=a=none\/∃b,a=some ⟨b,0,none⟩/\mb.free b
theorem Apart.tok{mb M:Mem}{a a':Option Addr}{n c:Nat}(h:Apart mb a)(hm:mb.le M)(ht:TokFact M a a' n c):Apart mb a':=by
 rcases ht.2 with h1|⟨b,o,h1,h2⟩
 ·exact .inl h1
 rcases h2 with h2|⟨h3,h2⟩
 ·rw[<-h2];exact h
 ·subst h3
  refine .inr ⟨b,h1,λo=>?_⟩
  cases hb:mb b o with
  | none=>rfl
  | some v=>have:=hm _ _ _ hb;rw[h2.1 o]at this;cases this
theorem ZqZ{m:Mem}{a:Option Addr}{ts r:List T}(h:rowRd m a (Rx.Zcg (ts++r))):rowRd m a (Rx.Zcg ts):=by
 rw[ZaS]at h
 rcases h with h|⟨b,o,ha,h⟩
 ·exact .inl (List.append_eq_nil_iff.1 h).1
 ·refine .inr ⟨b,o,ha,λj v hj=>h j v ?_⟩
  rw[zA5 (zA0 hj).1];exact hj
theorem Zq0{m:Mem}{b:Nat}{ts:List T}{x t:T}(h:rowRd m (some ⟨b,0,none⟩) (Rx.Zcg (ts++[x]))):rowRd (m.upd b (0+ts.length*8) t.cs) (some ⟨b,0,none⟩) (Rx.Zcg (ts++[t])):=by
 refine .inr ⟨b,0,rfl,λj v hj=>?_⟩
 rw[ZaS]at hj
 rcases Nat.lt_or_ge j (ts.length*8)with aC|bL
 ·rw[zA5 (by rw[Zar];exact aC)]at hj
  unfold Mem.upd;try dsimp only
  rw[if_neg (by omega)]
  rcases h with h|⟨b',o',ha,h⟩
  ·have hl:(Rx.Zcg (ts++[x])).length=0:=by rw[h];rfl
   rw[Zar,zA1]at hl
   simp at hl
  ·cases ha
   refine h j v ?_
   rw[ZaS,zA5 (by rw[Zar];exact aC)];exact hj
 ·rw[zA4 (by rw[Zar];exact bL),Zar,Zbh]at hj
  have h8:=(zA0 hj).1
  have h8':t.cs.length=8:=rfl
  unfold Mem.upd;try dsimp only
  rw[if_pos ⟨rfl,by omega,by omega⟩,show 0+j - (0+ts.length*8)=j - ts.length*8 by omega]
  exact hj
theorem Apart.base{mb m:Mem}{a:Option Addr}{ts:List T}(h:Apart mb a)(aB:rowRd m a (Rx.Zcg ts))(hn:ts≠[]):∃b,a=some ⟨b,0,none⟩/\mb.free b/\∃o u,m b o=some u:=by
 obtain⟨t,r,rfl⟩:∃t r,ts=t::r:=by cases ts with
  | nil=>exact absurd rfl hn
  | cons t r=>exact⟨t,r,rfl⟩
 obtain⟨b',o,ha,cG⟩:=Zdq aB (i:=0) (t:=t) rfl
 rcases h with h|⟨b,hb,hf⟩
 ·rw[h]at ha;cases ha
 ·rw[hb]at ha;cases ha
  exact⟨b',hb,hf,_,_,cG 0 (.int .u8 t.k) rfl⟩
theorem ZzX{ts:List T}(h:1 < ts.length):∃r x y,ts=r++[x,y]:=by
 have h1:ts.length - 2 < ts.length:=by omega
 refine⟨ts.take (ts.length - 2),ts[ts.length - 2],ts[ts.length - 1],?_⟩
 have e:=(List.take_append_drop (ts.length - 2) ts).symm
 rw[List.drop_eq_getElem_cons h1,List.drop_eq_getElem_cons (by omega),List.drop_eq_nil_of_le (by omega)]at e
 simpa[show ts.length - 2+1=ts.length - 1 by omega]using e
theorem ZzY{ts:List T}(h:0 < ts.length):∃r x,ts=r++[x]:=by
 refine⟨ts.dropLast,ts.getLast (by intro e;subst e;simp at h),?_⟩
 exact(List.dropLast_concat_getLast _).symm
end Go.Proofs.YtpjepnkiiojgfaaGreat
namespace Go.Proofs.YtpjepnkiiojgfaaGreat
open Go Go.Eng Go.Rx Go.Proofs Go.RowKit
set_option maxRecDepth 100000
theorem ZaG{p:Prop} [Decidable p]{A B:Prop}(ht:p->A)(hf:¬p->B):br (decide p) A B:=Zab (λh=>ht (zA6 h)) (λh=>hf (of_decide_eq_false h))
theorem Zfb(t:E)(m:Mem):CX Tryz.prog 103 #[t.v] m [] (λv m' _=>∃b,v=.func (.func 141) #[] #[.pointer (some ⟨b,0,none⟩)]/\m'.reads b 0 t.cs):=by
 apply Zjl
 intro b m' hm hb
 exact⟨m',hm,Mem.le_refl _,b,rfl,hb⟩
theorem ZdK(t:E)(m:Mem)(c0b:Nat)(cG:m.reads c0b 0 t.cs)(cX:RepE m t):IX Tryz.prog 141 [] [.pointer (some ⟨c0b,0,none⟩)] m (t.nodes.map λx=>[x.v]):=by
 apply ZgL 0 [] [] c0b 0
 intro l b m' hm hb
 have io:=cG.mono hm
 refine⟨_,_,_,_,_,io,⟨rfl,by omega,?_⟩,?_,.inr rfl⟩
 ·rw[Zbg];rfl
 refine⟨t.sl,io 4 _ rfl,Zaa rfl ?_⟩
 refine⟨λxs _ _ m'' q=>∃i:Nat,i<=t.subs.length/\xs=[.int .i64 ((1+(Zam (t.subs.take i)).length:Nat):Int),.int .i64 i]/\m'.le m''/\q=t.subs.length - i,⟨t.subs.length,0,by omega,?_,Mem.le_refl _,by omega⟩,?_⟩
 ·simp[Zam]
 rintro y n m2 q aK ⟨i,hi,cK,eU,hq⟩
 simp only[List.cons.injEq,Value.int.injEq,true_and,and_true]at cK
 obtain⟨rfl,rfl⟩:=cK
 have aH:slN t.sl=t.subs.length:=rfl
 rw[aH]
 refine Zab (λaC=>?_) (λbL=>?_)
 ·have aI:i < t.subs.length:=by simpa using aC
  obtain⟨x,hx⟩:∃x,t.subs[i]?=some x:=⟨_,zA3 aI⟩
  have cI:x∈t.subs:=zA2 hx
  have bE:=ZgF cI
  obtain⟨nD,h0|⟨b1,o1,ha,eT⟩⟩:=Zeo cX
  ·rw[h0]at aI;simp at aI
  obtain⟨dJ,dW⟩:=(eT.mono' ((mLt hm eU))).get hx
  refine Zaa rfl ⟨b1,o1,ha,⟨by omega,by omega⟩,_,_,_,_,_,dJ,λb2=>Zaa rfl ?_⟩
  refine⟨_,trivial,Zfb x m2,λv m' css h=>?_,?_⟩
  ·obtain⟨b3,rfl,_⟩:=h;rfl
  rintro g fi ca m3 aQ ⟨b3,hv,gl⟩
  obtain⟨rfl,rfl,rfl⟩:=Zcp hv
  refine⟨_,ZdK x m3 b3 gl (RepE.mono' dW aQ),λy hy=>?_,?_⟩
  ·obtain⟨z,_,rfl⟩:=List.mem_map.1 hy;exact Zku z
  refine⟨λxs _ _ m'' q=>q<=x.nodes.length/\xs=[.int .i64 ((1+(Zam (t.subs.take i)).length+q:Nat):Int)]/\m3.le m'',⟨Nat.zero_le _,rfl,Mem.le_refl _⟩,?_,?_⟩
  ·rintro y n0 v0 s0 n3 a n7 c m4 q bZ hq ⟨gZ,hy,_⟩ b4
   simp only[List.cons.injEq,Value.int.injEq,true_and,and_true]at hy
   subst hy
   have hq':(List.map (λz:E=>[z.v]) x.nodes)[(q:Nat)]?=some [Value.agg #[.int .u8 n0,v0,.string s0,.int .i64 n3,.slice a n7 c]]:=hq
   rw[List.getElem?_map]at hq'
   obtain⟨z,hz,ic⟩:=Option.map_eq_some_iff.1 hq'
   have pB:q < x.nodes.length:=(zA0 hz).1
   simp only[E.v,List.cons.injEq,Value.agg.injEq,Array.mk.injEq,Value.int.injEq,Value.string.injEq,Value.slice.injEq,true_and,and_true]at ic
   obtain⟨rfl,rfl,rfl,rfl,rfl,rfl,rfl⟩:=ic
   refine Zaa rfl ⟨⟨rfl,by omega,?_⟩,⟨rfl,by omega,?_,bZ⟩,rfl,.inr rfl⟩
   ·rw[zA8]
    show(t.nodes.map λx=>[x.v])[1+(Zam (t.subs.take i)).length+q]?=_
    rw[List.getElem?_map,Zr5 hx hz];rfl
   ·congr 2
  ·rintro y m4 bZ ⟨gZ,hy,_⟩
   simp only[List.cons.injEq,Value.int.injEq,true_and,and_true]at hy
   subst hy
   refine⟨rfl,t.subs.length - (i+1),by omega,i+1,by omega,?_,mLt eU (mLt aQ bZ),rfl⟩
   rw[Zak (by omega) (by omega),Zep hx,zA1]
   simp[E.v,Nat.add_assoc]
 ·have hi':i=t.subs.length:=by
   have:¬((i:Int) < (t.subs.length:Int)):=by simpa using bL
   omega
  subst hi'
  left
  rw[List.take_length,Zbg]
  simp
  omega
termination_by SizeOf.sizeOf t
decreasing_by exact bE
theorem ZcR(t:E)(m:Mem)(hr:RepE m t):CX Tryz.prog 94 #[t.v] m [] (Ret (.bool t.light)):=by
 apply Zjm
 intro b m1 aE _ b2
 refine Zan (Zfb t m1) (λv m' css h=>by obtain⟨_,rfl,_⟩:=h;rfl) ?_
 rintro g fi ca m2 aK ⟨b3,hv,gl⟩
 obtain⟨rfl,rfl,rfl⟩:=Zcp hv
 have bU:=mLt aE aK
 refine⟨_,ZdK t m2 b3 gl (RepE.mono' hr bU),λy hy=>?_,λ_ css _ m' q=>css=[[.int .i64 q]]/\q<=10000/\q<=t.nodes.length,⟨rfl,by omega,by omega⟩,?_,?_⟩
 ·obtain⟨z,_,rfl⟩:=List.mem_map.1 hy;exact Zku z
 ·rintro n0 v0 s0 n3 a n7 c cs m3 q aQ hq ⟨bN,gZ,_⟩
  obtain rfl:cs=[.int .i64 q]:=by simpa using bN
  have aC:q < t.nodes.length:=by
   have:=(zA0 (show(List.map (λz:E=>[z.v]) t.nodes)[(q:Nat)]?=some _ from hq)).1
   simpa using this
  refine Zal rfl (Zaa rfl ?_)
  have hw:IntKind.i64.wrap (RowKit.intOf (Value.int .i64 (q:Int))+1)=(q:Int)+1:=Zak (n:=(q:Int)+1) (by omega) (by omega)
  simp only[hw]
  refine Zab (λh=>⟨by trivial,Zaf (mLt bU aQ) ?_⟩) (λh=>⟨by trivial,?_,?_,by omega⟩)
  ·have:((q:Int)+1 > 10000):=by simpa using h
   simp[Ret,E.light];omega
  ·simp
  ·have:¬((q:Int)+1 > 10000):=by simpa using h
   omega
 ·rintro cs m3 aQ ⟨bN,gZ,_⟩
  obtain rfl:cs=[.int .i64 t.nodes.length]:=by simpa using bN
  refine Zal rfl (Zaa rfl (Zaf (mLt bU aQ) ?_))
  show Value.bool (decide ((t.nodes.length:Int)<=10000))=Value.bool t.light
  congr 1
  rw[E.light,decide_eq_decide];omega
theorem Zvh(t:E)(m:Mem)(hr:RepE m t):CX Tryz.prog 95 #[t.v] m [] (Ret (.int .i64 t.size)):=by
 apply Zll
 intro b m1 aE _ b2
 refine Zah (ZcR t m1 (RepE.mono' hr aE)) λm2 aK=>Zab (λhl=>?_) (λh=>Zaf (mLt aE aK) (by simp[Ret,E.size,h]))
 have sR:t.nodes.length<=10000:=zA6 hl
 refine Zan (Zfb t m2) (λv m' css h=>by obtain⟨_,rfl,_⟩:=h;rfl) ?_
 rintro g fi ca m3 aQ ⟨b3,hv,gl⟩
 obtain⟨rfl,rfl,rfl⟩:=Zcp hv
 have bU:=mLt aE (mLt aK aQ)
 refine⟨_,ZdK t m3 b3 gl (RepE.mono' hr bU),λy hy=>?_,λ_ css _ m' q=>css=[[.int .i64 q]]/\q<=t.nodes.length,⟨rfl,by omega⟩,?_,?_⟩
 ·obtain⟨z,_,rfl⟩:=List.mem_map.1 hy;exact Zku z
 ·rintro n0 v0 s0 n3 a n7 c cs m4 q bZ hq ⟨bN,_⟩
  obtain rfl:cs=[.int .i64 q]:=by simpa using bN
  have aC:q < t.nodes.length:=by
   have:=(zA0 (show(List.map (λz:E=>[z.v]) t.nodes)[(q:Nat)]?=some _ from hq)).1
   simpa using this
  have hw:IntKind.i64.wrap (RowKit.intOf (Value.int .i64 (q:Int))+1)=(q:Int)+1:=Zak (n:=(q:Int)+1) (by omega) (by omega)
  refine Zal rfl (Zaa rfl ?_)
  simp only[hw]
  exact⟨by trivial,by simp,by omega⟩
 ·rintro cs m4 bZ ⟨bN,gZ⟩
  obtain rfl:cs=[.int .i64 t.nodes.length]:=by simpa using bN
  refine Zal rfl (Zaf (mLt bU bZ) ?_)
  simp[Ret,E.size,hl]
theorem Zxt(T:TypeId)(x y:Nat):BinIs Tryz.prog .neq T (.float .f64 x) (.float .f64 y) (.bool (!Op.floatEq .f64 x y)):=λox oy w=>by
 simp[eqGuard,binOp,Op.floatCmp,Op.floatEq,bne]
theorem Zt4(x:Nat):ZpU Tryz.prog 134 [.float .f64 x] (.int .u64 x):=λw=>by
 rw[run_callFunc_extern Tryz.func134 (by kernel_rfl) (by kernel_rfl) (by kernel_rfl) (e:=Go.Extern.MathFloatBits.float64bits) (by kernel_rfl)]
 rfl
theorem Zq1(n:Nat):ZpU Tryz.prog 148 [.int .u64 n] (.float .f64 n):=λw=>by
 rw[run_callFunc_extern Tryz.func148 (by kernel_rfl) (by kernel_rfl) (by kernel_rfl) (e:=Go.Extern.MathFloatBits.float64frombits) (by kernel_rfl)]
 rfl
theorem Zzi(m:Mem):CX Tryz.prog 157 #[] m [] (Ret (.float .f64 Zyz)):=by
 apply Zjn
 exact⟨_,Zq1 Zyz,Zaf (Mem.le_refl _) rfl⟩
theorem Zq2(x:Nat)(m:Mem):CX Tryz.prog 135 #[.float .f64 x] m [] (Ret (.float .f64 (ZfV x))):=by
 apply ZgM
 refine⟨_,Zxt _ x x,Zab (λh=>?_) (λh=>Zaf (Mem.le_refl _) ?_)⟩
 ·refine Zan (Zzi m) (s:=.any) (λ_ _ _ _=>rfl) ?_
  intro v m1 aE hv
  have h':Op.floatEq .f64 x x=false:=by simpa using h
  refine Zaf aE ?_
  show v=_
  rw[show v=_ from hv];unfold ZfV;rw[h'];rfl
 ·have h':Op.floatEq .f64 x x=true:=by simpa using h
  show Value.float .f64 x=_
  unfold ZfV;rw[h'];rfl
theorem Zq3(x y:Nat)(m:Mem):CX Tryz.prog 97 #[.float .f64 x,.float .f64 y] m [] (Ret (.bool (Znr x y))):=by
 apply ZhK
 refine Zan (Zq2 x m) (s:=.any) (λ_ _ _ _=>rfl) ?_
 intro v m1 aE hv
 refine⟨.int .u64 (ZfV x),by rw[show v=_ from hv];exact Zt4 _,?_⟩
 refine Zan (Zq2 y m1) (s:=.any) (λ_ _ _ _=>rfl) ?_
 intro u m2 aK hu
 refine⟨.int .u64 (ZfV y),by rw[show u=_ from hu];exact Zt4 _,Zaa rfl (Zaf (mLt aE aK) ?_)⟩
 show Value.bool _=_
 congr 1
 exact show decide ((ZfV x:Int)=ZfV y)=decide (ZfV x=ZfV y) from decide_eq_decide.2 (by omega)
def Zb8(l:List ByteArray):List Value:=l.map λs=>.string s
theorem ZcS{m:Mem}{a:Option Addr}{l:List ByteArray}(h:rowRd m a (Zb8 l)){k:Nat}{s:ByteArray}(hk:l[k]?=some s):∃b o,a=some ⟨b,o,none⟩/\m b (o+k*1)=some (.string s):=by
 rcases h with h|⟨b,o,ha,h⟩
 ·have:l=[]:=by simpa[Zb8]using h
  rw[this]at hk;simp at hk
 ·exact⟨b,o,ha,by rw[Nat.mul_one];exact h k _ (by rw[Zb8,List.getElem?_map,hk];rfl)⟩
theorem Zn5(l:List ByteArray)(a:Option Addr)(c:Nat)(s:ByteArray)(m:Mem)(hl:l.length<=1000000000000000)(hr:rowRd m a (Zb8 l)):
  CX Tryz.prog 34 #[.slice a l.length c,.string s] m [] (Ret (.int .i64 (if l.any (λy=>eqS s y)then(l.findIdx (λy=>eqS s y):Nat)else(-1:Int)))):=by
 apply ZbT
 refine⟨λxs _ _ m'' q=>∃i:Nat,i<=l.length/\xs=[.int .i64 i]/\(∀x∈l.take i,eqS s x=false)/\q=l.length - i,⟨l.length,0,by omega,rfl,by simp,by omega⟩,?_⟩
 rintro n m' q hm ⟨i,hi,hn,jC,hq⟩
 obtain rfl:n=i:=by simpa using hn
 refine Zab (λaC=>?_) (λbL=>?_)
 ·have aI:i < l.length:=by simpa using aC
  obtain⟨x,hx⟩:∃x,l[i]?=some x:=⟨_,zA3 aI⟩
  have cI:x∈l:=zA2 hx
  obtain⟨b1,o1,ha,eL⟩:=ZcS (hr.mono hm) hx
  refine⟨b1,o1,ha,⟨by omega,by omega⟩,_,eL,Zaa rfl (Zab (λip=>?_) (λip=>?_))⟩
  ·refine Zaf hm ?_
   have fV:l.any (λy=>eqS s y)=true:=List.any_eq_true.2 ⟨x,cI,ip⟩
   have jY:l.findIdx (λy=>eqS s y)=i:=by
    rw[List.findIdx_eq aI]
    refine⟨by rw[(zA0 hx).2];exact ip,λj hj=>?_⟩
    exact jC _ (List.mem_of_getElem? (i:=j) (by rw[List.getElem?_take_of_lt hj];exact zA3 (by omega)))
   simp[Ret,fV,jY]
  ·refine⟨l.length - (i+1),by omega,i+1,by omega,by rw[Zak (by omega) (by omega)];rfl,?_,rfl⟩
   intro y hy
   rw[List.take_add_one,hx]at hy
   rcases List.mem_append.1 hy with hy|hy
   ·exact jC y hy
   ·simp at hy;rw[hy];exact ip
 ·have hi':i=l.length:=by
   have:¬((i:Int) < (l.length:Int)):=by simpa using bL
   omega
  subst hi'
  refine Zaf hm ?_
  have fV:l.any (λy=>eqS s y)=false:=by
   rw[List.any_eq_false]
   rw[List.take_length]at jC
   exact λx hx=>by simp[jC x hx]
  simp[Ret,fV]
theorem ZgN(l:List ByteArray)(a:Option Addr)(c:Nat)(s:ByteArray)(m:Mem)(hl:l.length<=1000000000000000)(hr:rowRd m a (Zb8 l)):
  CX Tryz.prog 29 #[.slice a l.length c,.string s] m [] (Ret (.bool (l.any λy=>eqS s y))):=by
 apply Zbr
 refine Zco (Zn5 l a c s m hl hr) λm' hm=>Zaf hm ?_
 cases h:l.any (λy=>eqS s y) <;> simp[Ret]
end Go.Proofs.YtpjepnkiiojgfaaGreat
namespace Go.Proofs.YtpjepnkiiojgfaaGreat
open Go Go.Eng Go.Rx Go.Proofs Go.RowKit Go.Shelf
set_option maxRecDepth 100000
def Zxu:Ren:=⟨fun|125=>80|128=>119|129=>120|189=>36|215=>121|216=>116|257=>79|294=>110|295=>111|296=>112|297=>113|298=>114|299=>115|300=>117|301=>118|328=>143|329=>144|330=>145|331=>146|332=>147|343=>161|n=>n,
 fun|0=>0|3=>3|4=>4|5=>5|9=>9|28=>65|46=>151|51=>191|53=>37|131=>68|182=>183|183=>184|218=>210|222=>214|228=>227|229=>228|n=>n,λn=>n⟩
theorem Zq4:Lays.n189 Tryz.prog Zxu:=
 {mixed:=mix
  f125:=by kernel_rfl,f128:=by kernel_rfl,f129:=by kernel_rfl,f189:=by kernel_rfl,f215:=by kernel_rfl,f216:=by kernel_rfl,f257:=by kernel_rfl,f294:=by kernel_rfl,f295:=by kernel_rfl,f296:=by kernel_rfl,f297:=by kernel_rfl
  f298:=by kernel_rfl,f299:=by kernel_rfl,f300:=by kernel_rfl,f301:=by kernel_rfl,f328:=by kernel_rfl,f329:=by kernel_rfl,f330:=by kernel_rfl,f331:=by kernel_rfl,f332:=by kernel_rfl,f343:=by kernel_rfl
  t0:=by kernel_rfl,a0:=Tryz.isAgg0,z0:=Tryz.sizeOf0,v0:=Tryz.zeroValue0
  t3:=by kernel_rfl,a3:=Tryz.isAgg3,z3:=Tryz.sizeOf3,v3:=Tryz.zeroValue3
  t4:=by kernel_rfl,a4:=Tryz.isAgg4,z4:=Tryz.sizeOf4,v4:=Tryz.zeroValue4
  t5:=by kernel_rfl,a5:=Tryz.isAgg5,z5:=Tryz.sizeOf5,v5:=Tryz.zeroValue5
  t9:=by kernel_rfl,a9:=Tryz.isAgg9,z9:=Tryz.sizeOf9,v9:=Tryz.zeroValue9
  t28:=by kernel_rfl,a28:=Tryz.isAgg65,z28:=Tryz.sizeOf65,v28:=Tryz.zeroValue65
  t46:=by kernel_rfl,a46:=Tryz.isAgg151,z46:=Tryz.sizeOf151,v46:=Tryz.zeroValue151
  t51:=by kernel_rfl,a51:=Tryz.isAgg191,z51:=Tryz.sizeOf191,v51:=Tryz.zeroValue191
  t53:=by kernel_rfl,a53:=Tryz.isAgg37,z53:=Tryz.sizeOf37,v53:=Tryz.zeroValue37
  t131:=by kernel_rfl,a131:=Tryz.isAgg68,z131:=Tryz.sizeOf68,v131:=Tryz.zeroValue68
  t182:=by kernel_rfl,a182:=Tryz.isAgg183,z182:=Tryz.sizeOf183,v182:=Tryz.zeroValue183
  t183:=by kernel_rfl,a183:=Tryz.isAgg184,z183:=Tryz.sizeOf184,v183:=Tryz.zeroValue184
  t218:=by kernel_rfl,a218:=Tryz.isAgg210,z218:=Tryz.sizeOf210,v218:=Tryz.zeroValue210
  t222:=by kernel_rfl,a222:=Tryz.isAgg214,z222:=Tryz.sizeOf214,v222:=Tryz.zeroValue214
  t228:=by kernel_rfl,a228:=Tryz.isAgg227,z228:=Tryz.sizeOf227,v228:=Tryz.zeroValue227
  t229:=by kernel_rfl,a229:=Tryz.isAgg228,z229:=Tryz.sizeOf228,v229:=Tryz.zeroValue228 }
def Zcf(l:List Int):List Value:=l.map (Value.int .i64)
abbrev Yi(v:Value):Nat->Prop:=λk=>(Tok.mk v 1).blk=some k
theorem ZfO(zs:List Int)(a:Option Addr)(c N:Nat)(m:Mem)(hr:rowRd m a (Zcf zs))(hl:zs.length<=100000)(hN:zs.length<=N):
  CXY Tryz.prog 36 #[.slice a zs.length c] m (Yi (.slice a N c)) [] [⟨.slice a N c,1⟩]
   (λv m' css tvs=>v=.tuple #[]/\css=[]/\tvs=[.slice a N c]/\rowRd m' a (Zcf (Zgf zs))):=
 Zip (Value.int .i64) (vf:=λ_=>.tuple #[]) (Go.Eng.Zgk Tryz.func36 (by kernel_rfl) (by kernel_rfl)) hr (Ze8 zs) hN
  (λ_ w=>Any.slices_Sort_int_none Zq4 a c w)
  (λ_ b o w _ _ hH hb=>Any.slices_Sort_int Zq4 b o c zs w hH hb (by omega))
theorem ZgO(zs:List Int)(a:Option Addr)(c:Nat)(m:Mem)(hr:rowRd m a (Zcf zs))(hl:zs.length<=100000):
  CXY Tryz.prog 36 #[.slice a zs.length c] m (Yi (.slice a zs.length c)) [] [⟨.slice a zs.length c,1⟩]
   (λv m' css tvs=>v=.tuple #[]/\css=[]/\tvs=[.slice a zs.length c]/\rowRd m' a (Zcf (Zgf zs))):=ZfO zs a c zs.length m hr hl (Nat.le_refl _)
def ZAu:Ren:=⟨fun|43=>37|n=>n,fun|0=>0|3=>3|4=>4|22=>65|23=>3|n=>n,λn=>n⟩
theorem Ziu:SlLaysE.n43 Tryz.prog ZAu:=
 {mixed:=mix,f43:=⟨Tryz.f37.name,by kernel_rfl,by kernel_rfl⟩
  t0:=by kernel_rfl,a0:=Tryz.isAgg0,z0:=Tryz.sizeOf0,v0:=Tryz.zeroValue0
  t3:=Tryz.underlying3,a3:=Tryz.isAgg3,z3:=Tryz.sizeOf3,v3:=Tryz.zeroValue3
  t4:=Tryz.underlying4,a4:=Tryz.isAgg4,z4:=Tryz.sizeOf4,v4:=Tryz.zeroValue4
  t22:=Tryz.underlying65,a22:=Tryz.isAgg65,z22:=Tryz.sizeOf65,v22:=Tryz.zeroValue65
  a23:=Tryz.isAgg3,z23:=Tryz.sizeOf3 }
section
variable {P:Program} {ρ:Ren}
set_option maxHeartbeats 1000000 in
theorem Zlu(L:SlLaysE.n43 P ρ)(a:Option Addr)(cap:Nat)(w:World):Calls P (ρ.f 43) #[.slice a 0 cap] w λe w'=>e=.returned (.slice a 0 cap)/\w'=w:=by
 have mixed:=L.mixed;have t0:=L.t0;have a0:=L.a0;have z0:=L.z0;have v0:=L.v0;have t3:=L.t3;have a3:=L.a3;have z3:=L.z3;have v3:=L.v3;have t4:=L.t4;have a4:=L.a4;have z4:=L.z4;have v4:=L.v4;have t22:=L.t22;have a22:=L.a22;have z22:=L.z22;have v22:=L.v22;have a23:=L.a23;have z23:=L.z23
 obtain⟨_,_,FG⟩:=L.f43
 go_enter FG,SlBodyN.n43_ntmps ρ
 go_wp2
 go_ret
 exact⟨rfl,rfl⟩
end
theorem Zn6(zs:List Int):(Go.Lib.compact zs).length<=zs.length:=by
 unfold Go.Lib.compact Go.Lib.compactUpTo
 rw[List.length_map]
 exact Nat.le_trans (List.length_filter_le _ _) (by rw[List.length_range];exact Nat.le_refl _)
theorem Zdr(zs:List Int)(a:Option Addr)(c N:Nat)(m:Mem)(hr:rowRd m a (Zcf zs))(hl:zs.length<=100000)(hN:zs.length<=N):
  CXY Tryz.prog 37 #[.slice a zs.length c] m (Yi (.slice a N c)) [] [⟨.slice a N c,1⟩]
   (λv m' css tvs=>v=.slice a (Go.Lib.compact zs).length c/\css=[]/\tvs=[.slice a N c]/\rowRd m' a (Zcf (Go.Lib.compact zs++List.replicate (zs.length - (Go.Lib.compact zs).length) 0))):=by
 have fE:=Zn6 zs
 refine Zip (Value.int .i64) (vf:=λa=>.slice a (Go.Lib.compact zs).length c) (Go.Eng.Zgk Tryz.func37 (by kernel_rfl) (by kernel_rfl)) hr (by rw[zA1,List.length_replicate];omega) hN
  (λh w=>?_) (λ_ b o w ha hc hH hb=>?_)
 ·subst h;exact Zlu Ziu a c w
 ·refine(AnyE.slices_Compact Ziu (Value.int .i64) (λ_=>rfl) (EqlAt.intD _ _ _) (NeqAt.intD _ _ _) 0 (λw=>Tryz.zeroValue3 w) b o c zs.toArray w hH (by simp;omega) (by simpa using hc)).mono ?_
  rintro e w' ⟨h1,q,h2⟩
  refine⟨by rw[h1,ha];rfl,q,#[],?_⟩
  rw[h2,ZuJ]
  rfl
theorem Zd5(zs:List Int)(a:Option Addr)(c:Nat)(m:Mem)(hr:rowRd m a (Zcf zs))(hl:zs.length<=100000):
  CXY Tryz.prog 37 #[.slice a zs.length c] m (Yi (.slice a zs.length c)) [] [⟨.slice a zs.length c,1⟩]
   (λv m' css tvs=>v=.slice a (Go.Lib.compact zs).length c/\css=[]/\tvs=[.slice a zs.length c]/\rowRd m' a (Zcf (Go.Lib.compact zs++List.replicate (zs.length - (Go.Lib.compact zs).length) 0))):=Zdr zs a c zs.length m hr hl (Nat.le_refl _)
end Go.Proofs.YtpjepnkiiojgfaaGreat
namespace Go.Proofs.YtpjepnkiiojgfaaGreat
open Go Go.Eng Go.Proofs Go.RowKit
open Go.Value (int slice agg bool string tuple func)
open Go.IntKind (u8 u64 i64)
set_option maxRecDepth 100000
def Zn7:Env:={ EB with
 loops:=(λi=>bif Nat.beq i 3 then⟨[(12,.int .i64)],[],[],false⟩ else⟨[],[],[],false⟩)
 dr:=(λi=>bif Nat.beq i 5 then[⟨0,[1],[],none,[],[]⟩,⟨1,[1],[],none,[0],[]⟩,⟨2,[],[],none,[],[]⟩,⟨3,[4],[],none,[],[]⟩,⟨4,[],[],none,[3],[]⟩,⟨5,[],[],none,[0,1,2,3,4],[]⟩]else[])
 thaw:=true
 stAt:=(λi=>bif Nat.beq i 22 then some 7 else none)
 last:=(λi=>bif Nat.beq i 5 then true else false)
 tokC:=(λi=>bif Nat.beq i 7 then some (7,8)else none) }
theorem Zlv(aA aD aG aF bG bH bI:Int)(bF:Option Addr)(bD bJ:Nat)(m:Mem)(R:RT)(h:
 ∀(b b_1:Nat),∃(R_1:RT),CXT Tryz.prog 155 (Array.mk [slice bF bD bJ]) m 8 R_1/\ZbC Shape.slice R_1/\∀(a:Option Addr)(n c:Nat)(m':Mem),lX (slice a n c) λyL=>lV [int u8 aA,int u64
 aD,int u64 aG,int u64 aF,int u64 bG,int i64 bH,int i64 bI,yL] λxL=>m.le m'->R_1 yL m' []->∃(I:IT),inI I [int i64 0] [] [] m'/\∀(n_1:Int)(m':Mem)(n_2:Nat),lE (Int.toNat n_1 *
 8) λyL_1=>True->I [int i64 n_1] [] [] m' n_2->br (decide (n_1 < (↑n:Int))) (atA a λb_2 o=>Zad n_1 n/\∃v v_1 v_2 v_3 v_4 v_5 v_6 v_7:Value,lV [v,v_1,v_2,v_3,v_4,v_5,v_6,v_7] λxL_1=>m'.reads b_2 (o+yL_1) xL_1/\∀(b_3:Nat),chk (v.oneCell'&&(v_1.oneCell'&&(v_2.oneCell' &&
 (v_3.oneCell'&&(v_4.oneCell'&&(v_5.oneCell'&&(v_6.oneCell'&&(v_7.oneCell'&&true)))))))) (∃(f:Fx),∃(R:RT),R=f 4 [agg (Array.mk xL_1)] m'/\CX Tryz.prog 130 (Array.mk [agg
 (Array.mk xL_1)]) m' [] R/\ZbC (shT) R/\∀(n_3 n_4 n_5 n_6 n_7 n_8 n_9:Int)(a_5:Option Addr)(n_10 c_1:Nat)(m'_1:Mem),lV [int u8 n_3,int u64 n_4,int u64 n_5,int u64 n_6,int u64 n_7,int i64 n_8,int
 i64 n_9,slice a_5 n_10 c_1] λxL_2=>m'.le m'_1->R (agg (Array.mk xL_2)) m'_1 []->atA a λb_4 o=>Zad n_1 n/\∀(M:Mem),m'.le M->m'_1.le M->yL=slice (some (Addr.mk b_4 0 none)) n c/\o +
 yL_1+8<=n*8/\Zac [some (Box.mk b_1 [int u8 0,int u64 0,int u64 0,int u64 0,int u64 0,int i64 0,int i64 0,slice none 0 0] 42 8 false true),some (Box.mk b xL 42 8 false true)]/\[some (Tok.mk yL 8)] =
 [some (Tok.mk yL 8)]/\nxI n_2 I [int i64 (i64.wrap (n_1+(1:Int)))] [] [] (Mem.upd M b_4 (o+yL_1) xL_2))) (rtM m m' R (agg (Array.mk xL)))):CX Tryz.prog 130 #[.agg #[.int .u8 aA,.int .u64 aD,.int .u64 aG,.int .u64 aF,.int .u64 bG,.int .i64 bH,.int .i64 bI,.slice bF bD bJ]] m [] R:=
 Zae (E:=Zn7) Zao mix Tryz.func130 (by kernel_rfl) (Eq.mp (by kernel_rfl) h)
def ZbE:Env:={ EB with
 tokOf:=(λi=>bif Nat.beq i 2 then 7 else bif Nat.beq i 7 then 7 else 0)
 tokC:=(λi=>bif Nat.beq i 5 then some (7,8)else none)
 thaw:=true }
theorem Zbs(p0a:Option Addr)(p0n p0c:Nat)(m:Mem)(R:RT)(h:
 lE (0+p0n) λyL=>br (Option.isNone p0a) (slice none 0 0=slice none 0 0/\R (slice none 0 0) m []) (((0:Int)=(0:Int)/\(0:Int)<=(0:Int)/\(0:Int)*(↑(80:Nat):Int)<=(281474976710656:Int)/\(0
 : Int)<=(9223372036854775807:Int))/\∀(b:Nat),lX (slice (some (Addr.mk b 0 none)) 0 (Int.toNat (0:Int))) λyL_1=>m.free b->Mem.k m b=none->(Tok.mk yL_1 8=Tok.mk yL_1 8\/yL_1=slice none 0 0\/
 Int.toNat (0:Int) < yL)/\∃(xs:List Value),∃(ys:List Value),xs.length=0*8/\ys.length=p0n*8/\rowRd m (some (Addr.mk b 0 none)) xs/\rowRd m p0a ys/\(∀(u:Value),u∈ys->u.oneCell'
 = true)/\yL*80<=140737488355328/\yL<=9223372036854775807/\∀(a':Option Addr)(c':Nat)(m':Mem),lE (some (Tok.mk (slice a' yL c') 8)) λyL_2=>m.le m'->rowRd m' a' (List.append xs ys)->TokFact m
 (some (Addr.mk b 0 none)) a' yL c'->yL_2=yL_2/\R (slice a' yL c') m' [])):CXT Tryz.prog 155 #[.slice p0a p0n p0c] m 8 R:=
 Zhm (E:=ZbE) Zao mix Tryz.func155 [.v (.slice p0a p0n p0c)] (by kernel_rfl) (Eq.mp (by kernel_rfl) h)
end Go.Proofs.YtpjepnkiiojgfaaGreat
end
