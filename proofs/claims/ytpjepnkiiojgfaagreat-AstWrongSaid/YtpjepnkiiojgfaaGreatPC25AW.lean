/- Part of the proof: functions of the program. No condition. -/
import Derived.Test.YtpjepnkiiojgfaaGreatPEnv
import Derived.Test.YtpjepnkiiojgfaaGreatPC25E
import Derived.Test.YtpjepnkiiojgfaaGreatPC25AU
import Derived.Test.YtpjepnkiiojgfaaGreatMr
import Derived.Test.YtpjepnkiiojgfaaGreatPC25MA
set_option linter.unusedVariables false
set_option linter.unusedSimpArgs false
set_option linter.unusedSectionVars false
noncomputable section
namespace Go.Proofs.YtpjepnkiiojgfaaGreat
open Go Go.Eng Go.Proofs Go.RowKit
open Go.Value (int slice agg bool string tuple func)
open Go.IntKind (u8 u64 i64)
set_option maxRecDepth 100000
def ZsR:Env:={ EB with
 frzNew:=[1] }
theorem Zqv(aA:Int)(aE aI:Bool)(aG bI bJ bK dA dB dC:Int)(cx:Option Addr)(cy cz:Nat)(cN:ByteArray)(cO:Int)(cA:Option Addr)(cB cC:Nat)(cP:ByteArray)(cQ:Int)(m:Mem)(R:RT)(h:
 lV [int u8 aA,bool aE,bool aI,int u8 aG,int u64 bI,int u64 bJ,int u64 bK,int u64 dA,int i64 dB,int i64 dC,slice cx cy cz,string cN,int i64 cO,slice cA cB
 cC,string cP,int i64 cQ] λxL=>fzM m xL λb m'=>∀(b b:Nat),m'.free b->∀(b_1:Nat),Mem.free (m'.add b xL) b_1->rtM m (Mem.add (m'.add b xL) b_1 [string bE0,slice (some (Addr.mk b 0 none)) 1 1]) R (agg (Array.mk [int i64 0,slice none 0 0,slice (some (Addr.mk b_1 0 none)) 1 1]))):CX Tryz.prog 75 #[.agg #[.int .u8 aA,.bool aE,.bool aI,.int .u8 aG,.int .u64 bI,.int .u64 bJ,.int .u64 bK,.int .u64 dA,.int .i64 dB,.int .i64 dC,.slice cx cy cz,.string cN,.int .i64 cO,.slice cA cB cC,.string cP,.int .i64 cQ]] m [] R:=
 Zad (E:=ZsR) Zas mix Tryz.func75 (by kernel_rfl) (Eq.mp (by kernel_rfl) h)
def Zfi:Env:={ EB with
 loops:=(λi=>bif Nat.beq i 5 then⟨[(9,.agg [.int .u8,.any,.str,.int .i64,.slice])],[3],[],false⟩ else⟨[],[],[],false⟩)
 frzNew:=[1] }
theorem Zez(aA:Int)(aE:Value)(aI:ByteArray)(aG:Int)(aW:Option Addr)(aU bA:Nat)(m:Mem)(R:RT)(h:
 lV [int u8 aA,aE,string aI,int i64 aG,slice aW aU bA] λxL=>fzM m xL λb m'=>∀(b_1:Nat),lE [some (Box.mk b_1 [] 3 1 false true),some (Box.mk b xL 52 5 true true)] λxL_1=>kB
 Tryz.prog 94 [agg (Array.mk xL)] m' λb m'=>br b (kF Tryz.prog 103 [agg (Array.mk xL)] m' λg fi ca m'=>∃(xs:List (List Value)),IX Tryz.prog g fi ca m' xs/\(∀(x:List Value),x∈xs->Shape.fitsL
 [Shape.agg [Shape.int u8,Shape.any,Shape.str,Shape.int i64,Shape.slice]] x=true)/\∃(I:IT),I [] [[int i64 0]] [] m' 0/\(∀(n:Int)(v:Value)(s:ByteArray)(n_1:Int)(a:Option Addr)(n_2 c:Nat) (cs
 : List Value) (m'_1:Mem) (n_3:Nat),m'.le m'_1->List.get?Internal xs n_3=some [agg (Array.mk [int u8 n,v,string s,int i64 n_1,slice a n_2 c])]->I [] [cs] [] m'_1 n_3->∀(b:Nat),chk (v.oneCell'
 && true) (kI Tryz.prog 104 [int u8 n] m'_1 λn m'=>br (decide (n > (0:Int))) (Eng.ZrL cs 0 λv=>chk (Za0 i64 v&&decide (i64=i64)) (Zac xL_1/\I [] [[int i64 (i64.wrap (RowKit.intOf v+(1:
 Int)))]] [] m' (n_3+1))) (Zac xL_1/\I [] [cs] [] m' (n_3+1))))/\∀(cs:List Value)(m'_1:Mem),m'.le m'_1->I [] [cs] [] m'_1 (xs.length)->Eng.ZrL cs 0 λv=>rtM m m'_1 R v) (rtM m m' R (int
 i64 0))):CX Tryz.prog 69 #[.agg #[.int .u8 aA,aE,.string aI,.int .i64 aG,.slice aW aU bA]] m [] R:=
 Zad (E:=Zfi) Zas mix Tryz.func69 (by kernel_rfl) (Eq.mp (by kernel_rfl) h)
def ZnT:Env:={ EB with
 loops:=(λi=>bif Nat.beq i 5 then⟨[(3,.int .i64),(19,.int .i64)],[],[],false⟩ else⟨[],[],[],false⟩)
 joins:=(λi=>bif Nat.beq i 2 then some [(13,.bool)]else none)
 frzNew:=[1] }
theorem ZmH(aA:Int)(aE:Value)(aI:ByteArray)(aG:Int)(aW:Option Addr)(aU bA:Nat)(m:Mem)(R:RT)(h:
 lV [int u8 aA,aE,string aI,int i64 aG,slice aW aU bA] λxL=>fzM m xL λb m'=>∃(b_1:Bool),lE [some (Box.mk b xL 52 5 true true)] λxL=>br (aA == (9:Int)) (Zac xL/\[bool true]
 = [bool b_1]) (Zac xL/\[bool (aA == (10:Int))]=[bool b_1])/\br b_1 (∃(I:IT),inI I [int i64 (i64.wrap ((0:Int)+(1:Int))),int i64 0] [] [] m'/\∀(n n_1:Int)(m'_1:Mem)(n_2:Nat),
 m'.le m'_1->I [int i64 n,int i64 n_1] [] [] m'_1 n_2->br (decide (n_1 < (↑aU:Int))) (atA aW λb o=>Zae n_1 aU/\∃v v_1 v_2 v_3 v_4:Value,m'_1.reads b (o+Int.toNat n_1*5) [v,v_1,v_2,v_3,v_4]/\∀(b:Nat),chk (v.oneCell'&&(v_1.oneCell'&&(v_2.oneCell'&&(v_3.oneCell'&&(v_4.oneCell'&&true))))) (kI
 Tryz.prog 70 [agg (Array.mk [v,v_1,v_2,v_3,v_4])] m'_1 λn_3 m'=>Zac xL/\nxI n_2 I [int i64 (i64.wrap (n+n_3)),int i64 (i64.wrap (n_1+(1:Int)))] [] [] m')) (rtM m m'_1 R (int i64 n)))
 (∃(I:IT),inI I [int i64 0,int i64 0] [] [] m'/\∀(n n_1:Int)(m'_1:Mem)(n_2:Nat),m'.le m'_1->I [int i64 n,int i64 n_1] [] [] m'_1 n_2->br (decide (n_1 < (↑aU:Int))) (atA aW λb o=>
 Zae n_1 aU/\∃v v_1 v_2 v_3 v_4:Value,m'_1.reads b (o+Int.toNat n_1*5) [v,v_1,v_2,v_3,v_4]/\∀(b:Nat),chk (v.oneCell' &&
 (v_1.oneCell'&&(v_2.oneCell'&&(v_3.oneCell'&&(v_4.oneCell'&&true))))) (kI Tryz.prog 70 [agg (Array.mk [v,v_1,v_2,v_3,v_4])] m'_1 λn_3 m'=>Zac xL/\nxI n_2 I [int i64
 (i64.wrap (n+n_3)),int i64 (i64.wrap (n_1+(1:Int)))] [] [] m')) (rtM m m'_1 R (int i64 n)))):CX Tryz.prog 70 #[.agg #[.int .u8 aA,aE,.string aI,.int .i64 aG,.slice aW aU bA]] m [] R:=
 Zad (E:=ZnT) Zas mix Tryz.func70 (by kernel_rfl) (Eq.mp (by kernel_rfl) h)
def ZiB:Env:={ EB with
 frzNew:=[1] }
theorem ZgZ(aA:Int)(aQ:Option Addr)(aM aT:Nat)(aK:Option Addr)(aH aS:Nat)(m:Mem)(R:RT)(h:
 fzM m [int i64 aA,slice aQ aM aT,slice aK aH aS] λb m'=>rtM m m' R (func (Fn.func 105) (Array.mk []) (Array.mk [Value.pointer (some (Addr.mk b 0 none))]))):CX Tryz.prog 71 #[.agg #[.int .i64 aA,.slice aQ aM aT,.slice aK aH aS]] m [] R:=
 Zad (E:=ZiB) Zas mix Tryz.func71 (by kernel_rfl) (Eq.mp (by kernel_rfl) h)
def Zf8:Env:={ EB with
 loops:=(λi=>bif Nat.beq i 1 then⟨[(12,.int .i64)],[],[],true⟩ else bif Nat.beq i 4 then⟨[(19,.int .i64)],[],[],true⟩ else bif Nat.beq i 7 then⟨[(26,.int .i64)],[],[],true⟩ else⟨[],[],[],false⟩) }
theorem Zfj(p0g:Nat)(p0fi p0ca:List Value)(c0b c0o:Nat)(m:Mem)(xs:List (List Value))(h:
 ∀(l:Nat),∃(v:Value),m c0b (c0o+2)=some v/\chk (ZbK v) (∃(I:IT),inI I [int i64 0,int i64 0] [] [] m/\∀(y n:Int)(m':Mem)(n_1:Nat),m.le m'->I [int i64 y,int i64 n] [] [] m' n_1->br
 (decide (n < (↑(slN v):Int))) (chk (ZbK v) (atA (slA v) λb o=>Zae n (slN v)/\∃v v_1:Value,m'.reads b (o+Int.toNat n*2) [v,v_1]/\∀(b:Nat),lE [some (Box.mk b [v,v_1] 36 2
 false true)] λxL=>chk (v.oneCell'&&(v_1.oneCell'&&true)) (chk (ZbK v_1) (∃(I_1:IT),inI I_1 [int i64 y,int i64 0] [] [] m'/\∀(y n_2:Int)(m'_1:Mem)(n_3:Nat),lX (int i64 y) λyL=>
 m'.le m'_1->I_1 [yL,int i64 n_2] [] [] m'_1 n_3->br (decide (n_2 < (↑(slN v_1):Int))) (chk (ZbK v_1) (atA (slA v_1) λb o=>Zae n_2 (slN v_1)/\∃v v_2 v_3 v_4 v_5 v_6 v_7 v_8 v_9 v_10 v_11 v_12 v_13 v_14 v_15 v_16:Value,lV [v,v_2,v_3,v_4,v_5,v_6,v_7,v_8,v_9,v_10,v_11,v_12,v_13,v_14,v_15,v_16] λxL_1=>m'_1.reads b (o+Int.toNat n_2*16) xL_1/\∀(b:Nat),chk (v.oneCell'&&(v_2.oneCell' &&
 (v_3.oneCell'&&(v_4.oneCell'&&(v_5.oneCell'&&(v_6.oneCell'&&(v_7.oneCell'&&(v_8.oneCell'&&(v_9.oneCell'&&(v_10.oneCell'&&(v_11.oneCell' &&
 (v_12.oneCell'&&(v_13.oneCell'&&(v_14.oneCell'&&(v_15.oneCell'&&(v_16.oneCell'&&true)))))))))))))))) (chk (ZbK v_14) (∃(I:IT),inI I [yL,int i64 0] [] [] m'_1/\∀(y n:Int)
 (m':Mem) (n_4:Nat),m'_1.le m'->I [int i64 y,int i64 n] [] [] m' n_4->br (decide (n < (↑(slN v_14):Int))) (chk (ZbK v_14) (atA (slA v_14) λb_1 o=>Zae n (slN v_14)/\∃v v_17 v_18 v_19 v_20 v_21 v_22 v_23:Value,lV [v,v_17,v_18,v_19,v_20,v_21,v_22,v_23] λxL_2=>m'.reads b_1 (o+Int.toNat n*8)
 xL_2/\∀(b_2:Nat),chk (v.oneCell'&&(v_17.oneCell'&&(v_18.oneCell'&&(v_19.oneCell'&&(v_20.oneCell'&&(v_21.oneCell'&&(v_22.oneCell'&&(v_23.oneCell' &&
 true)))))))) ((l=l/\(0:Int)<=y/\List.get?Internal xs (Int.toNat y)=some [agg (Array.mk xL_2)])/\(Zac (some (Box.mk b xL_1 47 16 false true)::xL)/\nxI n_4 I [int i64 (y+(1:Int)),int i64 (i64.wrap (n+(1:Int)))] [] [] m')/\((-1:Int)=(↑(xs.length):Int)\/(-1:Int)=(-1:Int))))) (Zac xL/\nxI n_3 I_1 [int i64 y,int i64 (i64.wrap (n_2+(1:Int)))] [] [] m'))))) (nxI n_1 I [yL,
 int i64 (i64.wrap (n+(1:Int)))] [] [] m'_1))))) (y=(↑(xs.length):Int)\/y=(-1:Int)))):IX Tryz.prog 105 [] [.pointer (some ⟨c0b,c0o,none⟩)] m xs:=
 ZhU (E:=Zf8) Zas mix Tryz.func105 _ _ _ (by kernel_rfl) (Eq.mp (by kernel_rfl) h)
def Zkr:Env:={ EB with
 dr:=(λi=>bif Nat.beq i 1 then[⟨0,[100000],[],none,[],[]⟩,⟨1,[100000],[],none,[0],[]⟩,⟨2,[2],[],none,[],[]⟩,⟨3,[],[],none,[2],[]⟩,⟨4,[],[],none,[0,1,2,3],[]⟩,⟨5,[100000],[],none,[0,1,2,3,4],[]⟩,⟨6,[100000],[100000],none,[0,1,2,3,4,5],[]⟩]else bif Nat.beq i 2 then[⟨0,[100000],[],none,[],[]⟩,⟨1,[100000],[],none,[0],[]⟩,⟨2,[2],[],none,[],[]⟩,⟨3,[],[],none,[2],[]⟩,⟨4,[],[],none,[0,1,2,3],[]⟩,⟨5,[100000],[],none,[0,1,2,3,4],[]⟩,⟨6,[100000],[100000],none,[0,1,2,3,4,5],[]⟩]else[])
 frzNew:=[2] }
theorem ZiC(aA:Int)(aE:Value)(aI:ByteArray)(aG:Int)(aW:Option Addr)(aU bA c0b:Nat)(c0_0 c0_1 c0_2 c0_3 c0_4 c0_5:Int)(m:Mem)(R:RT)(h:
 lV [int u8 aA,aE,string aI,int i64 aG,slice aW aU bA] λxL=>lV [agg (Array.mk xL)] λxL_1=>lE (Box.mk c0b [int i64 c0_0,int i64 c0_1,int i64 c0_2,int i64 c0_3,int i64 c0_4,int i64 c0_5]
 75 6 false true) λyL=>fzM m xL λb m'=>∃(f:Fx),∃(R_1:RT),R_1=f 3 xL_1 m'/\CX Tryz.prog 69 (Array.mk xL_1) m' [] R_1/\Zbo (Shape.int i64) R_1/\∀(n:Int)(m'_1:Mem),m'.le m'_1->R_1 (int
 i64 n) m'_1 []->∀(M:Mem),m'.le M->m'_1.le M->∃(f:Fx),∃(R_2:RT),R_2=f 3 xL_1 M/\CX Tryz.prog 70 (Array.mk xL_1) M [] R_2/\Zbo (Shape.int i64) R_2/\∀(n_1:Int)(m':Mem),M.le m'->R_2
 (int i64 n_1) m' []->∀(M_1:Mem),M.le M_1->m'.le M_1->yL=yL/\∃(m'':Mem),m.le m''/\m''.le M_1/\R (tuple (Array.mk [])) m'' [[int i64 c0_0,int i64 c0_1,int i64 c0_2,int i64 c0_3,int i64
 (i64.wrap (c0_4+n)),int i64 (i64.wrap (c0_5+n_1))]]):CX Tryz.prog 68 #[.agg #[.int .u8 aA,aE,.string aI,.int .i64 aG,.slice aW aU bA],.pointer (some ⟨c0b,0,none⟩)] m [⟨c0b,[.int .i64 c0_0,.int .i64 c0_1,.int .i64 c0_2,.int .i64 c0_3,.int .i64 c0_4,.int .i64 c0_5],75,6,false,true⟩] R:=
 Zol (E:=Zkr) Zas mix Tryz.func68 [.v (.agg #[.int .u8 aA,aE,.string aI,.int .i64 aG,.slice aW aU bA]),.loc 100000 0] [⟨c0b,[.int .i64 c0_0,.int .i64 c0_1,.int .i64 c0_2,.int .i64 c0_3,.int .i64 c0_4,.int .i64 c0_5],75,6,false,true⟩] (by kernel_rfl) (Eq.mp (by kernel_rfl) h)
def ZnU:Env:={ EB with
 loops:=(λi=>bif Nat.beq i 6 then⟨[(23,.int .i64)],[3],[],false⟩ else bif Nat.beq i 10 then⟨[(37,.int .i64)],[3],[],false⟩ else bif Nat.beq i 19 then⟨[(57,.agg [.int .u8,.str,.slice,.int .u8,.any,.str,.int .i64,.slice])],[3],[],false⟩ else bif Nat.beq i 22 then⟨[(68,.int .i64)],[3],[],false⟩ else⟨[],[],[],false⟩)
 dr:=(λi=>bif Nat.beq i 13 then[⟨0,[3],[],none,[],[]⟩,⟨1,[3],[],none,[0],[]⟩,⟨2,[7],[],none,[],[]⟩,⟨3,[7],[],none,[2],[]⟩,⟨4,[7],[],none,[2,3],[]⟩,⟨5,[],[],none,[2,3,4],[]⟩,⟨6,[],[],none,[0,1,2,3,4,5],[]⟩,⟨7,[3],[],none,[0,1,2,3,4,5,6],[]⟩,⟨8,[3],[3],none,[0,1,2,3,4,5,6,7],[]⟩]else[])
 borrow:=(λi=>bif Nat.beq i 64 then[3]else bif Nat.beq i 85 then[3]else[])
 frzNew:=[1] }
theorem ZmI(aA:Int)(aQ:Option Addr)(aM aT:Nat)(aK:Option Addr)(aH aS:Nat)(m:Mem)(R:RT)(h:
 lV [int i64 aA,slice aQ aM aT,slice aK aH aS] λxL=>fzM m xL λb m'=>∀(a9 ao:Nat),lV [Value.pointer (some (Addr.mk ao 0 none))] λaq=>lV [func (Fn.func 68) (Array.mk []) (Array.mk
 aq)] λba=>lE [some (Box.mk ao [] 75 6 false true),some (Box.mk a9 [int i64 0,int i64 0,int i64 0,int i64 0,int i64 0,int i64 0] 75 6 false true),some (Box.mk b xL 32 3 true true)] λaz=>kB Tryz.prog 19
 [agg (Array.mk xL)] m' λb m'=>br (!b) (rtM m m' R (agg (Array.mk [int i64 0,int i64 0,int i64 0,int i64 0,int i64 0,int i64 0]))) (∃(I:IT),inI I [int i64 0] [[int i64 (↑aH:Int),int i64 0,int i64 0,
 int i64 0,int i64 0,int i64 0]] [] m'/\∀(n:Int)(cs:List Value)(ar:Mem)(a3:Nat),m'.le ar->I [int i64 n] [cs] [] ar a3->br (decide (n < (↑aH:Int))) (atA aK λb o=>Zae n aH/\∃v ac:Value,ar.reads b (o+Int.toNat n*2) [v,ac]/\∀(b:Nat),lE (some (Box.mk b [v,ac] 36 2 false true)::az) λxL=>chk (v.oneCell'&&(ac.oneCell'&&true)) (Eng.ZrL cs 1 λv
 => chk (ZbK ac) (chk (Za0 i64 v&&decide (i64=i64)) (chk (Nat.ble 2 (cs.length)) (chk (ZbK ac) (∃(aa:IT),inI aa [int i64 0] [Zaw cs 1 [int i64 (i64.wrap (RowKit.intOf v+(↑(slN ac):Int)))]]
 [] ar/\∀(ae:Int)(cs:List Value)(m':Mem)(av:Nat),lV [int i64 (i64.wrap (ae+(1:Int)))] λau=>ar.le m'->aa [int i64 ae] [cs] [] m' av->br (decide (ae < (↑(slN ac):Int))) (chk (ZbK ac)
 (atA (slA ac) λb o=>Zae ae (slN ac)/\∃v al am ag ah ai aj ak a0 a1 a2 a4 a5 a6 a7 a8:Value,lV [agg (Array.mk [ag,ah,ai,aj,ak,a0,a1,a2])] λaw=>m'.reads b (o+Int.toNat ae*16) [v,al,am,ag,ah,ai,aj,
 ak,a0,a1,a2,a4,a5,a6,a7,a8]/\∀(b:Nat),chk (v.oneCell'&&(al.oneCell'&&(am.oneCell'&&(ag.oneCell'&&(ah.oneCell'&&(ai.oneCell'&&(aj.oneCell' &&
 (ak.oneCell'&&(a0.oneCell'&&(a1.oneCell'&&(a2.oneCell'&&(a4.oneCell'&&(a5.oneCell'&&(a6.oneCell'&&(a7.oneCell'&&(a8.oneCell'&&true))))))))))))))))
 (chk (Za0 u8 v&&decide (u8=u8)) (br (RowKit.intOf v == (1:Int)) (∃(f:Fx),Eng.ZrL cs 2 λv=>∃(R:RT),R=f 5 aw m'/\CX Tryz.prog 58 (Array.mk aw) m' [] R/\Zbo (Shape.int i64) R/\∀(n:Int) (ad:
 Mem),m'.le ad->R (int i64 n) ad []->chk (Za0 i64 v&&decide (i64=i64)) (chk (Nat.ble 3 (cs.length)) (∀(M:Mem),m'.le M->ad.le M->Zac xL/\nxI av aa au [Zaw cs 2 [int i64 (i64.wrap (RowKit.intOf v+n))]] [] M))) (Zac xL/\nxI av aa au [cs] [] m'))))) (Zac az/\nxI a3 I [int i64 (i64.wrap (n+(1:Int)))] [cs] [] m'))))))) (∀(b:Nat),lE (some (Box.mk b ba 137 1 false true) ::
 az) λau=>kF Tryz.prog 71 [agg (Array.mk xL)] ar λg fi ca m'=>∃(xs:List (List Value)),IX Tryz.prog g fi ca m' xs/\(∀(x:List Value),x∈xs->Shape.fitsL [Shape.agg [Shape.int u8,Shape.str,Shape.slice,
 Shape.int u8,Shape.any,Shape.str,Shape.int i64,Shape.slice]] x=true)/\∃(I:IT),I [] [cs] [] m' 0/\(∀(n:Int)(s:ByteArray)(a:Option Addr)(ae c:Nat)(av:Int)(v:Value)(bb:ByteArray)(bc:Int)
 (bd:Option Addr) (be bf:Nat) (cs:List Value) (ad:Mem) (ay:Nat),lV [int u8 av,v,string bb,int i64 bc,slice bd be bf] λxL=>lV (int u8 n::string s::slice a ae c::xL) λaw=>m'.le ad->
 List.get?Internal xs ay=some [agg (Array.mk aw)]->I [] [cs] [] ad ay->∀(b:Nat),lE (some (Box.mk b aw 54 8 false true)::au) λan=>chk (v.oneCell'&&true) (br (n == (3:Int)) (∃(R:RT),True/\CX
 Tryz.prog 68 (Array.mk (agg (Array.mk xL)::aq)) ad [Box.mk ao cs 75 6 false true] R/\Zbo (Shape.tup []) R/\∀(m':Mem),ad.le m'->∀(cs:List Value),R (tuple (Array.mk [])) m' [cs]->∃(aa:IT),inI aa
 [int i64 0] [cs] [] m'/\∀(n:Int)(cs:List Value)(ab:Mem)(af:Nat),lV [int i64 (i64.wrap (n+(1:Int)))] λxL=>m'.le ab->aa [int i64 n] [cs] [] ab af->br (decide (n < (↑ae:Int))) (atA a
 λb o=>Zae n ae/\∃v ac al am ag ah ai aj:Value,lV [am,ag,ah,ai,aj] λap=>lE (Za0 u8 v&&decide (u8 =
 u8)) λyL=>ab.reads b (o+Int.toNat n*8) (v::ac::al::ap)/\∀(b:Nat),chk (v.oneCell'&&(ac.oneCell'&&(al.oneCell'&&(am.oneCell'&&(ag.oneCell'&&(ah.oneCell'&&(ai.oneCell'&&(aj.oneCell'&&true)))))))) (chk yL (br (!RowKit.intOf v == (1:Int)) (Eng.ZrL cs 3 λak=>lV (Zaw cs 3 [int i64 (i64.wrap (RowKit.intOf ak+(1:Int)))]) λax=>
 chk (Za0 i64 ak&&decide (i64=i64)) (chk (Nat.ble 4 (cs.length)) (chk yL (br (RowKit.intOf v == (4:Int)) (∃(R:RT),True/\CX Tryz.prog 68 (Array.mk (agg (Array.mk ap)::aq)) ab [Box.mk ao ax 75 6 false
 true] R/\Zbo (Shape.tup []) R/\∀(m':Mem),ab.le m'->∀(cs:List Value),R (tuple (Array.mk [])) m' [cs]->Zac an/\nxI af aa xL [cs] [] m') (Zac an/\nxI af aa xL [ax] [] ab))))) (chk yL (br
 (RowKit.intOf v == (4:Int)) (∃(R:RT),True/\CX Tryz.prog 68 (Array.mk (agg (Array.mk ap)::aq)) ab [Box.mk ao cs 75 6 false true] R/\Zbo (Shape.tup []) R/\∀(m':Mem),ab.le m'->∀(cs:List Value),R
 (tuple (Array.mk [])) m' [cs]->Zac an/\nxI af aa xL [cs] [] m') (Zac an/\nxI af aa xL [cs] [] ab)))))) (Zac au/\I [] [cs] [] ab (ay+1))) (∃(aa:IT),inI aa [int i64 0] [cs] [] ad/\∀(n:Int) (cs:
 List Value) (m':Mem) (af:Nat),lV [int i64 (i64.wrap (n+(1:Int)))] λxL=>ad.le m'->aa [int i64 n] [cs] [] m' af->br (decide (n < (↑ae:Int))) (atA a λb o=>Zae n ae/\∃v ac al am ag ah ai aj:Value,lV [am,ag,ah,ai,aj] λap=>lE (Za0 u8 v&&decide (u8=u8)) λyL=>m'.reads b (o+Int.toNat
 n*8) (v::ac::al::ap)/\∀(b:Nat),chk (v.oneCell'&&(ac.oneCell'&&(al.oneCell'&&(am.oneCell'&&(ag.oneCell'&&(ah.oneCell'&&(ai.oneCell'&&(aj.oneCell'
 && true)))))))) (chk yL (br (!RowKit.intOf v == (1:Int)) (Eng.ZrL cs 3 λak=>lV (Zaw cs 3 [int i64 (i64.wrap (RowKit.intOf ak+(1:Int)))]) λax=>chk (Za0 i64 ak&&decide (i64=i64)) (chk
 (Nat.ble 4 (cs.length)) (chk yL (br (RowKit.intOf v == (4:Int)) (∃(R:RT),True/\CX Tryz.prog 68 (Array.mk (agg (Array.mk ap)::aq)) m' [Box.mk ao ax 75 6 false true] R/\Zbo (Shape.tup []) R/\∀(ab:Mem),
 m'.le ab->∀(cs:List Value),R (tuple (Array.mk [])) ab [cs]->Zac an/\nxI af aa xL [cs] [] ab) (Zac an/\nxI af aa xL [ax] [] m'))))) (chk yL (br (RowKit.intOf v == (4:Int)) (∃(R:RT),True/\CX
 Tryz.prog 68 (Array.mk (agg (Array.mk ap)::aq)) m' [Box.mk ao cs 75 6 false true] R/\Zbo (Shape.tup []) R/\∀(ab:Mem),m'.le ab->∀(cs:List Value),R (tuple (Array.mk [])) ab [cs]->Zac an/\nxI af aa
 xL [cs] [] ab) (Zac an/\nxI af aa xL [cs] [] m')))))) (Zac au/\I [] [cs] [] m' (ay+1)))))/\∀(cs:List Value)(ad:Mem),m'.le ad->I [] [cs] [] ad (xs.length)->chk (Nat.beq (cs.length) 6 &&
 Zc2 cs) (rtM m ad R (agg (Array.mk cs)))))):CX Tryz.prog 21 #[.agg #[.int .i64 aA,.slice aQ aM aT,.slice aK aH aS]] m [] R:=
 Zad (E:=ZnU) Zas mix Tryz.func21 (by kernel_rfl) (Eq.mp (by kernel_rfl) h)
end Go.Proofs.YtpjepnkiiojgfaaGreat
namespace Go.Proofs.YtpjepnkiiojgfaaGreat
open Go Go.Eng Go.Rx Go.Proofs Go.RowKit
set_option maxRecDepth 100000
theorem Zxk(a b:Int):Value.int .i64 (IntKind.i64.wrap (RowKit.intOf (Value.int .i64 (w64 a))+b))=.int .i64 (w64 (a+b)):=by
 show Value.int .i64 (IntKind.i64.wrap (w64 a+b))=_
 rw[ZoH]
theorem Zks(e:E)(m:Mem)(hr:RepE m e):CX Tryz.prog 69 #[e.v] m [] (Ret (.int .i64 (w64 (ZnA e)))):=by
 apply Zez
 intro b m1 aF _ b2
 refine Zan (ZdD e m1 (hr.mono' aF)) λm2 aO=>?_
 have cT:=mLt aF aO
 refine Zab (λhl=>?_) (λhl=>Zai cT (by show Value.int _ _=Value.int _ _;unfold ZnA;rw[hl,if_neg (by decide),W_0]))
 refine Zam (Zew e m2) (λv m' css h=>by obtain⟨_,rfl,_⟩:=h;rfl) ?_
 rintro g fi ca m3 aV ⟨b3,hv,fb⟩
 obtain⟨rfl,rfl,rfl⟩:=Zb7 hv
 have cK:=mLt cT aV
 refine⟨_,Zdh e m3 b3 fb (hr.mono' cK),λy hy=>?_,λ_ css _ m' q=>css=[[.int .i64 (w64 (ZmR ZvN (e.nodes.take q)))]]/\q<=e.nodes.length,⟨by rw[List.take_zero,Zrk,W_0],by omega⟩,?_,?_⟩
 ·obtain⟨z,_,rfl⟩:=List.mem_map.1 hy;exact Zjd z
 ·rintro n0 v0 s0 n3 a n7 c cs m4 q bU hq ⟨bC,fP⟩ b4
  obtain rfl:cs=[.int .i64 (w64 (ZmR ZvN (e.nodes.take q)))]:=by simpa using bC
  have hq':(List.map (λz:E=>[z.v]) e.nodes)[(q:Nat)]?=some [Value.agg #[.int .u8 n0,v0,.string s0,.int .i64 n3,.slice a n7 c]]:=hq
  rw[List.getElem?_map]at hq'
  obtain⟨z,hz,fT⟩:=Option.map_eq_some_iff.1 hq'
  have nK:q < e.nodes.length:=(zA0 hz).1
  simp only[E.v,List.cons.injEq,Value.agg.injEq,Array.mk.injEq,Value.int.injEq,Value.string.injEq,Value.slice.injEq,true_and,and_true]at fT
  obtain⟨rfl,rfl,rfl,rfl,rfl,rfl,rfl⟩:=fT
  have bP:=Zsi ZvN hz
  refine Zaa rfl (ZbW (Zuz z.k m4) λm5 bW=>Zab (λh=>Zaf rfl (Zaa rfl ⟨rfl,?_,by omega⟩)) (λh=>⟨rfl,?_,by omega⟩))
  ·have h:ZvN z=true:=h
   rw[h,if_pos rfl]at bP
   rw[Zxk,bP]
  ·have h:ZvN z=false:=h
   rw[h,if_neg (by decide),Int.add_zero]at bP
   rw[bP]
 ·rintro cs m4 bU ⟨bC,_⟩
  rw[List.length_map,List.take_length]at bC
  obtain rfl:cs=[.int .i64 (w64 (ZmR ZvN e.nodes))]:=by simpa using bC
  refine Zaf rfl (Zai (mLt cK bU) ?_)
  show Value.int _ _=Value.int _ _
  unfold ZnA;rw[hl,if_pos rfl]
theorem Zo3(t:E)(m:Mem)(hr:RepE m t):CX Tryz.prog 70 #[t.v] m [] (Ret (.int .i64 (w64 (vrE t)))):=by
 apply ZmH
 intro b m1 aF _
 have hn:vrE t=(if ZwD t then 1 else 0)+ZmR ZwD (Zaj t.subs):=by unfold vrE;rw[Za2,Zia]
 obtain⟨lT,aB⟩:=Zgq (hr.mono' aF)
 refine⟨ZwD t,Zab (λh=>⟨rfl,?_⟩) (λh=>⟨rfl,?_⟩),?_⟩
 ·have h:(t.k == 9)=true:=h
  show[Value.bool true]=[Value.bool (t.k == 9||t.k == 10)];rw[h];rfl
 ·have h:(t.k == 9)=false:=h
  show[Value.bool (t.k == 10)]=[Value.bool (t.k == 9||t.k == 10)];rw[h];rfl
 refine Zab (λh=>?_) (λh=>?_)
 ·refine⟨λxs _ _ m'' q=>∃i:Nat,i<=t.subs.length/\xs=[.int .i64 (w64 (1+ZmR ZwD (Zaj (t.subs.take i)))),.int .i64 i]/\m1.le m''/\q=t.subs.length - i,⟨t.subs.length,0,by omega,?_,Mem.le_refl _,by omega⟩,?_⟩
  ·show[Value.int .i64 _,Value.int .i64 0]=[Value.int .i64 (w64 (1+0)),Value.int .i64 0]
   rw[show w64 (1+0)=w64 1 from rfl,show IntKind.i64.wrap (0+1)=w64 1 from rfl]
  rintro y n m2 q aO ⟨i,hi,cD,dJ,hq⟩
  simp only[List.cons.injEq,Value.int.injEq,true_and,and_true]at cD
  obtain⟨rfl,rfl⟩:=cD
  refine Zaz (λaC=>?_) (λbE=>?_)
  ·have aP:i < t.subs.length:=by have:(i:Int) < (t.subs.length:Nat):=aC;omega
   obtain⟨x,hx⟩:∃x,t.subs[i]?=some x:=⟨_,zA3 aP⟩
   have bB:=Zhl (zA2 hx)
   obtain h0|⟨b1,o1,ha,dY⟩:=aB
   ·rw[h0]at aP;simp at aP
   obtain⟨cL,dz⟩:=(dY.mono' dJ).get hx
   refine⟨b1,o1,ha,⟨by omega,by omega⟩,_,_,_,_,_,cL,λb2=>Zaa rfl (ZbW (Zo3 x m2 dz) λm3 aV=>⟨rfl,t.subs.length - (i+1),by omega,i+1,by omega,?_,mLt dJ aV,rfl⟩)⟩
   rw[ZoH,Zt7,ZdW hx,ZoI,Zak (n:=(i:Int)+1) (by omega) (by omega),Int.add_assoc]
   rfl
  ·have hi':i=t.subs.length:=by have:¬(i:Int) < (t.subs.length:Nat):=bE;omega
   subst hi'
   refine Zai (mLt aF dJ) ?_
   show Value.int _ _=Value.int _ _
   rw[hn,List.take_length,h,if_pos rfl]
 ·refine⟨λxs _ _ m'' q=>∃i:Nat,i<=t.subs.length/\xs=[.int .i64 (w64 (0+ZmR ZwD (Zaj (t.subs.take i)))),.int .i64 i]/\m1.le m''/\q=t.subs.length - i,⟨t.subs.length,0,by omega,?_,Mem.le_refl _,by omega⟩,?_⟩
  ·show[Value.int .i64 _,Value.int .i64 0]=[Value.int .i64 (w64 (0+0)),Value.int .i64 0]
   rw[show(0:Int)+0=0 from rfl,W_0]
  rintro y n m2 q aO ⟨i,hi,cD,dJ,hq⟩
  simp only[List.cons.injEq,Value.int.injEq,true_and,and_true]at cD
  obtain⟨rfl,rfl⟩:=cD
  refine Zaz (λaC=>?_) (λbE=>?_)
  ·have aP:i < t.subs.length:=by have:(i:Int) < (t.subs.length:Nat):=aC;omega
   obtain⟨x,hx⟩:∃x,t.subs[i]?=some x:=⟨_,zA3 aP⟩
   have bB:=Zhl (zA2 hx)
   obtain h0|⟨b1,o1,ha,dY⟩:=aB
   ·rw[h0]at aP;simp at aP
   obtain⟨cL,dz⟩:=(dY.mono' dJ).get hx
   refine⟨b1,o1,ha,⟨by omega,by omega⟩,_,_,_,_,_,cL,λb2=>Zaa rfl (ZbW (Zo3 x m2 dz) λm3 aV=>⟨rfl,t.subs.length - (i+1),by omega,i+1,by omega,?_,mLt dJ aV,rfl⟩)⟩
   rw[ZoH,Zt7,ZdW hx,ZoI,Zak (n:=(i:Int)+1) (by omega) (by omega),Int.add_assoc]
   rfl
  ·have hi':i=t.subs.length:=by have:¬(i:Int) < (t.subs.length:Nat):=bE;omega
   subst hi'
   refine Zai (mLt aF dJ) ?_
   show Value.int _ _=Value.int _ _
   rw[hn,List.take_length,h,if_neg (by decide)]
termination_by SizeOf.sizeOf t
decreasing_by all_goals exact bB
theorem Zgu(s:Sc)(m:Mem):CX Tryz.prog 71 #[s.v] m [] (λv m' _=>∃b,v=.func (.func 105) #[] #[.pointer (some ⟨b,0,none⟩)]/\m'.reads b 0 s.cs):=by
 apply ZgZ
 intro b m' hm hb
 exact⟨m',hm,Mem.le_refl _,b,rfl,hb⟩
theorem Ze5(s:Sc)(m:Mem)(c0b:Nat)(hr:RepC m s)(hb:m.reads c0b 0 s.cs):IX Tryz.prog 105 [] [.pointer (some ⟨c0b,0,none⟩)] m ((ZdL s).map λa=>[.agg a.cs.toArray]):=by
 apply Zfj 0 [] [] c0b 0
 intro l
 have dq:s.states.length<=100000:=hr.len
 refine⟨.slice s.sa s.states.length s.sc,hb 2 _ rfl,Zaa rfl ⟨λxs _ _ m' q=>∃i:Nat,i<=s.states.length/\xs=[.int .i64 (((s.states.take i).flatMap Zl5).length:Nat),.int .i64 i]/\q=s.states.length - i,⟨s.states.length,0,by omega,rfl,rfl⟩,?_⟩⟩
 rintro y n m1 q aF ⟨i,hi,hx,rfl⟩
 simp only[List.cons.injEq,Value.int.injEq,true_and,and_true]at hx
 obtain⟨rfl,rfl⟩:=hx
 have hw:IntKind.i64.wrap ((i:Int)+1)=((i+1:Nat):Int):=by rw[Zak (by omega) (by omega)];rfl
 refine Zaz (λaC=>?_) (λbE=>.inl ?_)
 ·have aC:(i:Int) < (s.states.length:Nat):=aC
  obtain⟨x,hx⟩:=Zav (show i < s.states.length by omega)
  have kK:=zA2 hx
  obtain⟨b1,o1,gA,cL⟩:=Zal Sta.len (hr.mono aF).row hx (by omega)
  have cD:=(hr.mono aF).all x kK
  have jT:x.rules.length<=100000:=cD.len
  refine Zaa rfl ⟨b1,o1,gA,⟨by omega,aC⟩,_,_,cL,λb2=>Zaa rfl (Zaa rfl ⟨λxs _ _ m' q=>∃k:Nat,k<=x.rules.length/\xs=[.int .i64 (((s.states.take i).flatMap Zl5).length+((x.rules.take k).flatMap (·.acts)).length:Nat),.int .i64 k]/\q=x.rules.length - k,⟨x.rules.length,0,by omega,rfl,rfl⟩,?_⟩)⟩
  rintro y n2 m2 q2 aO ⟨k,hk,fN,rfl⟩
  simp only[List.cons.injEq,Value.int.injEq,true_and,and_true]at fN
  obtain⟨rfl,rfl⟩:=fN
  have iu:IntKind.i64.wrap ((k:Int)+1)=((k+1:Nat):Int):=by rw[Zak (by omega) (by omega)];rfl
  refine Zaz (λdx=>?_) (λdF=>?_)
  ·have dx:(k:Int) < (x.rules.length:Nat):=dx
   obtain⟨r,eC⟩:=Zav (show k < x.rules.length by omega)
   obtain⟨b3,o3,eE,fw⟩:=Zal Ru.len (cD.mono aO).row eC (by omega)
   have dQ:=(cD.mono aO).all r (zA2 eC)
   have mH:r.acts.length<=100000:=dQ.len
   refine Zaa rfl ⟨b3,o3,eE,⟨by omega,dx⟩,_,_,_,_,_,_,_,_,_,_,_,_,_,_,_,_,fw,λb4=>Zaa rfl (Zaa rfl ⟨λxs _ _ m' q=>∃j:Nat,j<=r.acts.length/\xs=[.int .i64 (((s.states.take i).flatMap Zl5).length+(((x.rules.take k).flatMap (·.acts)).length+j):Nat),.int .i64 j]/\q=r.acts.length - j,⟨r.acts.length,0,by omega,rfl,rfl⟩,?_⟩)⟩
   rintro y n3 m3 q3 aV ⟨j,hj,jV,rfl⟩
   simp only[List.cons.injEq,Value.int.injEq,true_and,and_true]at jV
   obtain⟨rfl,rfl⟩:=jV
   have j2:IntKind.i64.wrap ((j:Int)+1)=((j+1:Nat):Int):=by rw[Zak (by omega) (by omega)];rfl
   refine Zaz (λfK=>?_) (λgH=>?_)
   ·have fK:(j:Int) < (r.acts.length:Nat):=fK
    obtain⟨a,ha⟩:=Zav (show j < r.acts.length by omega)
    obtain⟨b5,o5,jY,gI⟩:=Zal Ac.len (dQ.mono aV).row ha (by omega)
    refine Zaa rfl ⟨b5,o5,jY,⟨by omega,fK⟩,_,_,_,_,_,_,_,_,gI,λb6=>Zaa rfl ⟨⟨rfl,Int.natCast_nonneg _,?_⟩,⟨rfl,r.acts.length - (j+1),by omega,j+1,by omega,by rw[j2];rfl,rfl⟩,.inr rfl⟩⟩
    show(List.map (λa:Ac=>[Value.agg a.cs.toArray]) (ZdL s))[((((s.states.take i).flatMap Zl5).length+(((x.rules.take k).flatMap (·.acts)).length+j):Nat):Int).toNat]?=some [Value.agg a.cs.toArray]
    rw[zA8,List.getElem?_map,show(ZdL s)[_]?=some a from Zrl Zl5 hx (Zrl (·.acts) eC ha)];rfl
   ·have gH:¬(j:Int) < (r.acts.length:Nat):=gH
    have:j=r.acts.length:=by omega
    subst this
    refine⟨rfl,x.rules.length - (k+1),by omega,k+1,by omega,?_,rfl⟩
    rw[Zl6 (·.acts) eC,zA1,iu]
  ·have dF:¬(k:Int) < (x.rules.length:Nat):=dF
   have:k=x.rules.length:=by omega
   subst this
   refine⟨s.states.length - (i+1),by omega,i+1,by omega,?_,rfl⟩
   rw[Zl6 Zl5 hx,zA1,List.take_length,hw];rfl
 ·have bE:¬(i:Int) < (s.states.length:Nat):=bE
  have:i=s.states.length:=by omega
  subst this
  rw[List.take_length,List.length_map];rfl
theorem ZkY(e:E)(a b c d f g:Int)(c0b:Nat)(m:Mem)(hr:RepE m e):CX Tryz.prog 68 #[e.v,.pointer (some ⟨c0b,0,none⟩)] m [⟨c0b,msV a b c d (w64 f) (w64 g),75,6,false,true⟩] (λv _ css=>v=.tuple #[]/\css=[msV a b c d (w64 (f+ZnA e)) (w64 (g+vrE e))]):=by
 apply ZiC
 intro b1 m1 aF _
 refine⟨λ_ _ _=>Ret (.int .i64 (w64 (ZnA e))),_,rfl,Zks e m1 (hr.mono' aF),(λv _ _ h=>by rw[show v=_ from h];rfl),?_⟩
 intro n m2 aO hv M eR dO
 obtain rfl:n=w64 (ZnA e):=by simpa using(show Value.int .i64 n=Value.int .i64 _ from hv)
 refine⟨λ_ _ _=>Ret (.int .i64 (w64 (vrE e))),_,rfl,Zo3 e M (hr.mono' (mLt aF eR)),(λv _ _ h=>by rw[show v=_ from h];rfl),?_⟩
 intro n2 m3 aV vN M2 eu gj
 obtain rfl:n2=w64 (vrE e):=by simpa using(show Value.int .i64 n2=Value.int .i64 _ from vN)
 refine⟨rfl,m,Mem.le_refl _,mLt aF (mLt eR eu),rfl,?_⟩
 rw[Zsh,Zsh,<-ZoH f,<-ZoH g]
 show[[_,_,_,_,Value.int .i64 (w64 (w64 f+ZnA e)),Value.int .i64 (w64 (w64 g+vrE e))]]=_
 rfl
set_option maxHeartbeats 1000000 in
theorem Zo4(s:Sc)(m:Mem)(hr:RepC m s):CX Tryz.prog 21 #[s.v] m [] (Ret (.agg (Zjl s).toArray)):=by
 apply ZmI
 intro b m1 aF _ b1 b2
 have dq:s.states.length<=100000:=hr.len
 refine Zan (ZbI s m1 (hr.mono aF)) λm2 aO=>?_
 have cT:=mLt aF aO
 refine Zab (λhl=>Zai cT ?_) (λhl=>?_)
 ·have hl:s.light=false:=by simpa using hl
  show Value.agg _=Value.agg _
  unfold Zjl;rw[hl];rfl
 have hl:s.light=true:=by simpa using hl
 refine⟨λxs css _ m' q=>∃i:Nat,i<=s.states.length/\xs=[.int .i64 i]/\css=[msV s.states.length (w64 (ZaI ((s.states.take i).map ruS))) (w64 (ZaI ((s.states.take i).map rgS))) 0 0 0]/\q=s.states.length - i,⟨s.states.length,0,by omega,rfl,?_,rfl⟩,?_⟩
 ·show[_]=[msV _ (w64 0) (w64 0) 0 0 0]
  rw[W_0];rfl
 rintro z cs m3 q aV ⟨i,hi,hz,bC,rfl⟩
 obtain rfl:z=i:=by simpa using hz
 obtain rfl:=(List.cons.inj bC).1
 have cK:=mLt cT aV
 have e8:IntKind.i64.wrap ((i:Int)+1)=((i+1:Nat):Int):=by rw[Zak (by omega) (by omega)];rfl
 refine Zaz (λaC=>?_) (λbE=>?_)
 ·have aC:(i:Int) < (s.states.length:Nat):=aC
  obtain⟨x,hx⟩:=Zav (show i < s.states.length by omega)
  obtain⟨b3,o3,eE,cL⟩:=Zal Sta.len (hr.mono cK).row hx (by omega)
  have cD:=(hr.mono cK).all x (zA2 hx)
  have jT:x.rules.length<=100000:=cD.len
  have g1:=ZaU ruS hx
  have g2:=ZaU rgS hx
  refine⟨b3,o3,eE,⟨by omega,aC⟩,_,_,cL,λb4=>Zaa rfl (Zaf rfl (Zaa rfl (Zaa rfl (Zaa rfl (Zaa rfl ?_)))))⟩
  refine⟨λxs css _ m' q=>∃k:Nat,k<=x.rules.length/\xs=[.int .i64 k]/\css=[msV s.states.length (w64 (ZaI ((s.states.take (i+1)).map ruS))) (w64 (ZaI ((s.states.take i).map rgS)+ZaI ((x.rules.take k).map rgR))) 0 0 0]/\q=x.rules.length - k,⟨x.rules.length,0,by omega,rfl,?_,rfl⟩,?_⟩
  ·show[_]=[msV _ _ (w64 (_+0)) 0 0 0]
   rw[g1,<-ZoH,Int.add_zero];rfl
  rintro z cs m4 q bU ⟨k,hk,hz,bC,rfl⟩
  obtain rfl:z=k:=by simpa using hz
  obtain rfl:=(List.cons.inj bC).1
  have iu:IntKind.i64.wrap ((k:Int)+1)=((k+1:Nat):Int):=by rw[Zak (by omega) (by omega)];rfl
  refine Zaz (λdx=>?_) (λdF=>⟨rfl,s.states.length - (i+1),by omega,i+1,by omega,by rw[e8],?_,rfl⟩)
  ·have dx:(k:Int) < (x.rules.length:Nat):=dx
   obtain⟨r,eC⟩:=Zav (show k < x.rules.length by omega)
   obtain⟨b5,o5,jY,fw⟩:=Zal Ru.len (cD.mono bU).row eC (by omega)
   have dQ:=(cD.mono bU).all r (zA2 eC)
   have g3:=ZaU rgR eC
   refine Zaa rfl ⟨b5,o5,jY,⟨by omega,dx⟩,_,_,_,_,_,_,_,_,_,_,_,_,_,_,_,_,fw,λb6=>Zaa rfl (Zaa rfl (Zab (λh1=>?_) (λh1=>⟨rfl,x.rules.length - (k+1),by omega,k+1,by omega,by rw[iu],?_,rfl⟩)))⟩
   ·have h1':r.k=1:=by have h1:(r.k == (1:Int))=true:=h1;simpa using h1
    refine⟨λ_ _ _=>Ret (.int .i64 r.t.size),Zaf rfl ⟨_,rfl,Zrr r.t m4 dQ.t,(λv _ _ h=>by rw[show v=_ from h];rfl),?_⟩⟩
    intro n m5 bW hv
    obtain rfl:n=r.t.size:=by simpa using(show Value.int .i64 n=Value.int .i64 _ from hv)
    refine Zaa rfl (Zaa rfl λM hM _=>⟨rfl,x.rules.length - (k+1),by omega,k+1,by omega,by rw[iu],?_,rfl⟩)
    rw[g3,show rgR r=r.t.size from if_pos h1',<-Int.add_assoc,Znz (ZaI ((s.states.take i).map rgS)+ZaI ((x.rules.take k).map rgR)) r.t.size]
    rfl
   ·have h1':¬r.k=1:=by have h1:(r.k == (1:Int))=false:=h1;simpa using h1
    rw[g3,show rgR r=0 from if_neg h1',Int.add_zero]
  ·have dF:¬(k:Int) < (x.rules.length:Nat):=dF
   have:k=x.rules.length:=by omega
   subst this
   rw[List.take_length,g2];rfl
 have bE:¬(i:Int) < (s.states.length:Nat):=bE
 have:i=s.states.length:=by omega
 subst this
 rw[List.take_length]
 intro b3
 refine Zam (Zgu s m3) (λv m' css h=>by obtain⟨_,rfl,_⟩:=h;rfl) ?_
 rintro g fi ca m4 bU ⟨b4,hv,mE⟩
 obtain⟨rfl,rfl,rfl⟩:=Zb7 hv
 have gk:=mLt cK bU
 refine⟨_,Ze5 s m4 b4 (hr.mono gk) mE,λy hy=>?_,λ_ css _ m' q=>css=[msV s.states.length (w64 (ms1 s)) (w64 (ms2 s)) (w64 (ZaI (((ZdL s).take q).map paA))) (w64 (ZaI (((ZdL s).take q).map Zsj))) (w64 (ZaI (((ZdL s).take q).map vrA)))]/\q<=(ZdL s).length,⟨?_,by omega⟩,?_,?_⟩
 ·obtain⟨z,_,rfl⟩:=List.mem_map.1 hy;rfl
 ·show[_]=[msV _ _ _ (w64 0) (w64 0) (w64 0)]
  rw[W_0];rfl
 ·rintro k0 s0 pa pn pc ek ev es eg ea en ec cs m5 q bW hq ⟨bC,fP⟩ b6
  obtain rfl:=(List.cons.inj bC).1
  have hq':(List.map (λa:Ac=>[Value.agg a.cs.toArray]) (ZdL s))[(q:Nat)]?=some [Value.agg #[.int .u8 k0,.string s0,.slice pa pn pc,.int .u8 ek,ev,.string es,.int .i64 eg,.slice ea en ec]]:=hq
  rw[List.getElem?_map]at hq'
  obtain⟨a,kX,fT⟩:=Option.map_eq_some_iff.1 hq'
  have nK:q < (ZdL s).length:=(zA0 kX).1
  simp only[Ac.cs,List.cons.injEq,Value.agg.injEq,Array.mk.injEq,Value.int.injEq,Value.string.injEq,Value.slice.injEq,true_and,and_true]at fT
  obtain⟨rfl,rfl,⟨rfl,rfl,rfl⟩,rfl,rfl,rfl,rfl,rfl,rfl,rfl⟩:=fT
  have ij:=mLt gk bW
  have gI:=Zsk hr (zA2 kX)
  have ip:a.parts.length<=100000:=gI.n
  generalize lu:ZaI (((ZdL s).take q).map paA)=P0
  generalize tz:ZaI (((ZdL s).take q).map Zsj)=O0
  generalize rF:ZaI (((ZdL s).take q).map vrA)=V0
  refine Zaa rfl (Zab (λh3=>?_) (λh3=>?_))
  ·have h3':a.k=3:=by simpa using h3
   refine⟨_,trivial,ZkY a.e s.states.length (w64 (ms1 s)) (w64 (ms2 s)) (w64 P0) O0 V0 _ m5 (gI.mono ij).e,(λv _ _ h=>by rw[h.1];rfl),λm6 dt cs hv=>?_⟩
   rw[hv.2]
   have rO:=mLt ij dt
   refine⟨λxs css _ m' q=>∃k:Nat,k<=a.parts.length/\xs=[.int .i64 k]/\css=[msV s.states.length (w64 (ms1 s)) (w64 (ms2 s)) (w64 (P0+ZaI ((a.parts.take k).map paP))) (w64 (O0+ZnA a.e+ZaI ((a.parts.take k).map ZqO))) (w64 (V0+vrE a.e+ZaI ((a.parts.take k).map vrP)))]/\q=a.parts.length - k,⟨a.parts.length,0,by omega,rfl,?_,rfl⟩,?_⟩
   ·show[_]=[msV _ _ _ (w64 (P0+0)) (w64 (O0+ZnA a.e+0)) (w64 (V0+vrE a.e+0))]
    simp only[Int.add_zero]
   rintro z cs m6 q dt ⟨k,hk,hz,bC,rfl⟩
   obtain rfl:z=k:=by simpa using hz
   obtain rfl:=(List.cons.inj bC).1
   have fu:=mLt rO dt
   have iu:IntKind.i64.wrap ((k:Int)+1)=((k+1:Nat):Int):=by rw[Zak (by omega) (by omega)];rfl
   refine Zaz (λaC=>?_) (λbE=>⟨rfl,?_,by omega⟩)
   ·have aC:(k:Int) < (a.parts.length:Nat):=aC
    obtain⟨p,hp⟩:=Zav (show k < a.parts.length by omega)
    obtain⟨b8,o8,ml,fS⟩:=Zal Pt.len (gI.mono fu).row hp (by omega)
    have jH:=(gI.mono fu).all p (zA2 hp)
    have g1:=ZaU paP hp
    have g2:=ZaU ZqO hp
    have g3:=ZaU vrP hp
    refine⟨b8,o8,ml,⟨by omega,aC⟩,_,_,_,_,_,_,_,_,fS,λb9=>Zaa rfl (Zaa rfl (Zab (λh1=>Zaf rfl (Zaa rfl (Zaa rfl (Zaa rfl (Zab (λh4=>?_) (λh4=>?_)))))) (λh1=>Zaa rfl (Zab (λh4=>?_) (λh4=>?_)))))⟩
    ·have h1':¬p.k=1:=by have h1:(!(p.k == (1:Int)))=true:=h1;simpa using h1
     have h4':p.k=4:=by have h4:(p.k == (4:Int))=true:=h4;simpa using h4
     refine⟨_,trivial,ZkY p.e s.states.length (w64 (ms1 s)) (w64 (ms2 s)) (IntKind.i64.wrap (RowKit.intOf (Value.int .i64 (w64 (P0+ZaI ((a.parts.take k).map paP))))+1)) _ _ _ m6 jH.e,(λv _ _ h=>by rw[h.1];rfl),λm7 eF cs hv=>⟨rfl,a.parts.length - (k+1),by omega,k+1,by omega,by rw[iu],?_,rfl⟩⟩
     rw[hv.2,g1,g2,g3,show paP p=1 from if_neg h1',show ZqO p=ZnA p.e from if_pos h4',show vrP p=vrE p.e from if_pos h4',<-Int.add_assoc,<-Int.add_assoc,<-Int.add_assoc,Znz (P0+ZaI ((a.parts.take k).map paP)) 1]
     rfl
    ·have h1':¬p.k=1:=by have h1:(!(p.k == (1:Int)))=true:=h1;simpa using h1
     have h4':¬p.k=4:=by have h4:(p.k == (4:Int))=false:=h4;simpa using h4
     refine⟨rfl,a.parts.length - (k+1),by omega,k+1,by omega,by rw[iu],?_,rfl⟩
     rw[g1,g2,g3,show paP p=1 from if_neg h1',show ZqO p=0 from if_neg h4',show vrP p=0 from if_neg h4',Int.add_zero,Int.add_zero,<-Int.add_assoc,Znz (P0+ZaI ((a.parts.take k).map paP)) 1]
     rfl
    ·have h1':p.k=1:=by have h1:(!(p.k == (1:Int)))=false:=h1;simpa using h1
     have h4':p.k=4:=by have h4:(p.k == (4:Int))=true:=h4;simpa using h4
     omega
    ·have h1':p.k=1:=by have h1:(!(p.k == (1:Int)))=false:=h1;simpa using h1
     have h4':¬p.k=4:=by have h4:(p.k == (4:Int))=false:=h4;simpa using h4
     refine⟨rfl,a.parts.length - (k+1),by omega,k+1,by omega,by rw[iu],?_,rfl⟩
     rw[g1,g2,g3,show paP p=0 from if_pos h1',show ZqO p=0 from if_neg h4',show vrP p=0 from if_neg h4',Int.add_zero,Int.add_zero,Int.add_zero]
   ·have bE:¬(k:Int) < (a.parts.length:Nat):=bE
    have:k=a.parts.length:=by omega
    subst this
    have e2:Zsj a=ZnA a.e+ZaI (a.parts.map ZqO):=by unfold Zsj;rw[if_pos h3']
    have e3:vrA a=vrE a.e+ZaI (a.parts.map vrP):=by unfold vrA;rw[if_pos h3']
    rw[List.take_length,ZaU paA kX,ZaU Zsj kX,ZaU vrA kX,lu,tz,rF,e2,e3]
    rw[<-Int.add_assoc,<-Int.add_assoc]
    rfl
  ·have h3':¬a.k=3:=by simpa using h3
   refine⟨λxs css _ m' q=>∃k:Nat,k<=a.parts.length/\xs=[.int .i64 k]/\css=[msV s.states.length (w64 (ms1 s)) (w64 (ms2 s)) (w64 (P0+ZaI ((a.parts.take k).map paP))) (w64 (O0+ZaI ((a.parts.take k).map ZqO))) (w64 (V0+ZaI ((a.parts.take k).map vrP)))]/\q=a.parts.length - k,⟨a.parts.length,0,by omega,rfl,?_,rfl⟩,?_⟩
   ·show[_]=[msV _ _ _ (w64 (P0+0)) (w64 (O0+0)) (w64 (V0+0))]
    simp only[Int.add_zero]
   rintro z cs m6 q dt ⟨k,hk,hz,bC,rfl⟩
   obtain rfl:z=k:=by simpa using hz
   obtain rfl:=(List.cons.inj bC).1
   have fu:=mLt ij dt
   have iu:IntKind.i64.wrap ((k:Int)+1)=((k+1:Nat):Int):=by rw[Zak (by omega) (by omega)];rfl
   refine Zaz (λaC=>?_) (λbE=>⟨rfl,?_,by omega⟩)
   ·have aC:(k:Int) < (a.parts.length:Nat):=aC
    obtain⟨p,hp⟩:=Zav (show k < a.parts.length by omega)
    obtain⟨b8,o8,ml,fS⟩:=Zal Pt.len (gI.mono fu).row hp (by omega)
    have jH:=(gI.mono fu).all p (zA2 hp)
    have g1:=ZaU paP hp
    have g2:=ZaU ZqO hp
    have g3:=ZaU vrP hp
    refine⟨b8,o8,ml,⟨by omega,aC⟩,_,_,_,_,_,_,_,_,fS,λb9=>Zaa rfl (Zaa rfl (Zab (λh1=>Zaf rfl (Zaa rfl (Zaa rfl (Zaa rfl (Zab (λh4=>?_) (λh4=>?_)))))) (λh1=>Zaa rfl (Zab (λh4=>?_) (λh4=>?_)))))⟩
    ·have h1':¬p.k=1:=by have h1:(!(p.k == (1:Int)))=true:=h1;simpa using h1
     have h4':p.k=4:=by have h4:(p.k == (4:Int))=true:=h4;simpa using h4
     refine⟨_,trivial,ZkY p.e s.states.length (w64 (ms1 s)) (w64 (ms2 s)) (IntKind.i64.wrap (RowKit.intOf (Value.int .i64 (w64 (P0+ZaI ((a.parts.take k).map paP))))+1)) _ _ _ m6 jH.e,(λv _ _ h=>by rw[h.1];rfl),λm7 eF cs hv=>⟨rfl,a.parts.length - (k+1),by omega,k+1,by omega,by rw[iu],?_,rfl⟩⟩
     rw[hv.2,g1,g2,g3,show paP p=1 from if_neg h1',show ZqO p=ZnA p.e from if_pos h4',show vrP p=vrE p.e from if_pos h4',<-Int.add_assoc,<-Int.add_assoc,<-Int.add_assoc,Znz (P0+ZaI ((a.parts.take k).map paP)) 1]
     rfl
    ·have h1':¬p.k=1:=by have h1:(!(p.k == (1:Int)))=true:=h1;simpa using h1
     have h4':¬p.k=4:=by have h4:(p.k == (4:Int))=false:=h4;simpa using h4
     refine⟨rfl,a.parts.length - (k+1),by omega,k+1,by omega,by rw[iu],?_,rfl⟩
     rw[g1,g2,g3,show paP p=1 from if_neg h1',show ZqO p=0 from if_neg h4',show vrP p=0 from if_neg h4',Int.add_zero,Int.add_zero,<-Int.add_assoc,Znz (P0+ZaI ((a.parts.take k).map paP)) 1]
     rfl
    ·have h1':p.k=1:=by have h1:(!(p.k == (1:Int)))=false:=h1;simpa using h1
     have h4':p.k=4:=by have h4:(p.k == (4:Int))=true:=h4;simpa using h4
     omega
    ·have h1':p.k=1:=by have h1:(!(p.k == (1:Int)))=false:=h1;simpa using h1
     have h4':¬p.k=4:=by have h4:(p.k == (4:Int))=false:=h4;simpa using h4
     refine⟨rfl,a.parts.length - (k+1),by omega,k+1,by omega,by rw[iu],?_,rfl⟩
     rw[g1,g2,g3,show paP p=0 from if_pos h1',show ZqO p=0 from if_neg h4',show vrP p=0 from if_neg h4',Int.add_zero,Int.add_zero,Int.add_zero]
   ·have bE:¬(k:Int) < (a.parts.length:Nat):=bE
    have:k=a.parts.length:=by omega
    subst this
    have e2:Zsj a=ZaI (a.parts.map ZqO):=by unfold Zsj;rw[if_neg h3',Int.zero_add]
    have e3:vrA a=ZaI (a.parts.map vrP):=by unfold vrA;rw[if_neg h3',Int.zero_add]
    rw[List.take_length,ZaU paA kX,ZaU Zsj kX,ZaU vrA kX,lu,tz,rF,e2,e3]
    rfl
 ·rintro cs m5 bW ⟨bC,_⟩
  rw[List.length_map,List.take_length]at bC
  obtain rfl:=(List.cons.inj bC).1
  refine Zaa rfl (Zai (mLt gk bW) ?_)
  show Value.agg _=Value.agg _
  unfold Zjl;rw[hl,if_pos rfl];rfl
theorem NmSt.up{m mm mL:Mem}{v0:Value}{a:Option Addr}{c:Nat}{l:List ByteArray}(h:NmSt m v0 mm a c l)(bH:mm.le mL):NmSt m v0 mL a c l:=⟨h.row.mono bH,mLt h.base (Zjk bH),h.new⟩
theorem ZsS{a:Option Addr}{n c b:Nat}(h:Yn (.slice a n c) b):∃o e,a=some ⟨b,o,e⟩:=by
 cases a with
 | none=>simp[Yn,Tok.blk]at h
 | some q=>
  obtain⟨b',o,e⟩:=q
  obtain rfl:b'=b:=by simpa[Yn,Tok.blk]using h
  exact⟨o,e,rfl⟩
def ZxB(v0:Value)(m:Mem)(l:List ByteArray):RTY:=λv m' css tvs=>∃a c,v=.tuple #[]/\css=[[.slice a l.length c]]/\tvs=[.slice a l.length c]/\rowRd m' a (ZbZ l)/\(∀b,Yn (.slice a l.length c) b->Yn v0 b\/(m.free b/\m.k b=none))/\(l=[]->a=none)
theorem ZiD{v0 m l}:∀(v:Value)(m':Mem) (css:List (List Value)) (tvs:List Value),ZxB v0 m l v m' css tvs->Shape.fits (.tup []) v=true:=λv _ _ _ ⟨_,_,h,_⟩=>by rw[h];rfl
theorem ZmJ(l out:List ByteArray)(la:Option Addr)(lc:Nat)(a:Option Addr)(c c0b:Nat)(m:Mem)(hl:rowRd (m.off (Yn (.slice a out.length c))) la (ZbZ l))(ho:rowRd m a (ZbZ out))(dg:out=[]->a=none)(hb:out.length+l.length<=100000):
  CXY Tryz.prog 108 #[.slice la l.length lc,.pointer (some ⟨c0b,0,none⟩)] m (Yn (.slice a out.length c)) [⟨c0b,[.slice a out.length c],80,1,false,true⟩] [⟨.slice a out.length c,1⟩] (ZxB (.slice a out.length c) m (l.foldl Zea out)):=by
 apply ZgY
 refine⟨λxs css tvs mm q=>∃(i:Nat)(a':Option Addr)(c':Nat),i<=l.length/\xs=[.int .i64 i]/\css=[[.slice a' ((l.take i).foldl Zea out).length c']]/\tvs=[.slice none 0 0,.slice a' ((l.take i).foldl Zea out).length c']/\NmSt m (.slice a out.length c) mm a' c' ((l.take i).foldl Zea out)/\((l.take i).foldl Zea out=[]->a'=none)/\q=l.length - i,
  ⟨_,0,a,c,by omega,rfl,rfl,rfl,⟨ho,Mem.le_refl _,λb h=>.inl h⟩,dg,rfl⟩,?_⟩
 rintro z cs a1 n1 c1 a2 n2 c2 mm q _ ⟨i,a',c',hi,hz,bC,bQ,hS,hn,rfl⟩
 obtain rfl:z=i:=by simpa using hz
 simp only[List.cons.injEq,Value.slice.injEq,and_true]at bC bQ
 obtain⟨⟨rfl,rfl,rfl⟩,rfl,rfl,rfl⟩:=bQ
 subst bC
 have aD:=ZkR (l.take i) out
 rw[List.length_take]at aD
 have e8:IntKind.i64.wrap ((i:Int)+1)=((i+1:Nat):Int):=by rw[Zak (by omega) (by omega)];rfl
 refine Zaz (λaC=>?_) (λbE=>⟨rfl,?_⟩)
 ·have aC:(i:Int) < (l.length:Nat):=aC
  obtain⟨s,hs⟩:=ZcZ (show i < l.length by omega)
  have bP:=Zev Zea out hs
  obtain⟨b,o,ha,hv⟩:=Zvs (hl.mono (mLt hS.base (Mem.off_le _ _))) (show(ZbZ l)[i]?=some (.string s) by unfold ZbZ;rw[List.getElem?_map,hs];rfl)
  refine⟨b,o,ha,⟨by omega,aC⟩,_,hv,Zaf rfl (Zan (ZfT ((l.take i).foldl Zea out) a2 c2 s mm (by omega) hS.row) λm2 aO=>?_)⟩
  have tA:=hS.up aO
  refine Zab (λh=>Zaf rfl (Zaa rfl λb3 ft=>Zaa rfl ?_)) (λh=>⟨rfl,rfl,?_⟩)
  ·have dT:((l.take i).foldl Zea out).any (λy=>eqS s y)=false:=by simpa using h
   have de:Zea ((l.take i).foldl Zea out) s=(l.take i).foldl Zea out++[s]:=ZvR dT
   rw[de]at bP
   have bH:m2.le (m2.add b3 [.string s]):=Mem.le_add ft _
   have tB:=tA.up bH
   refine⟨.inl rfl,ZbZ ((l.take i).foldl Zea out),[.string s],by rw[ZdI];exact(Nat.mul_one _).symm,rfl,tB.row,.inr ⟨b3,0,rfl,ZdH m2 b3 _⟩,λu hu=>?_,by show(((l.take i).foldl Zea out).length+1)*16<=_;omega,by show((l.take i).foldl Zea out).length+1<=_;omega,λa5 c5 m5 bW bG hT=>⟨rfl,rfl,l.length - (i+1),by omega,i+1,a5,c5,by omega,by rw[e8],?_,?_,?_,?_,rfl⟩⟩
   ·obtain rfl:u=.string s:=by simpa using hu
    rfl
   ·rw[bP,zA1];rfl
   ·rw[bP,zA1];rfl
   ·have e:((l.take i).foldl Zea out++[s]).length=((l.take i).foldl Zea out).length+1:=by rw[zA1];rfl
    rw[bP]
    refine tB.step (mLt (Mem.off_le _ _) bW) (by unfold ZbZ at bG ⊢;rw[List.map_append];exact bG) λb' hb'=>?_
    obtain⟨oo,oe,hb'⟩:=ZsS hb'
    rcases hT.2 with h|⟨b6,o6,ha',h⟩
    ·rw[h]at hb';cases hb'
    ·rw[ha']at hb';cases hb'
     rcases h with h|⟨_,h2,h3⟩
     ·left
      have h:a2=a5:=h
      rw[h,ha'];simp[Yn,Tok.blk]
     ·exact .inr ⟨h2,h3⟩
   ·rw[bP];intro e;simp at e
  ·have dT:((l.take i).foldl Zea out).any (λy=>eqS s y)=true:=by simpa using h
   have de:Zea ((l.take i).foldl Zea out) s=(l.take i).foldl Zea out:=ZvS dT
   rw[de]at bP
   exact⟨l.length - (i+1),by omega,i+1,a2,c2,by omega,by rw[e8],by rw[bP],by rw[bP],by rw[bP];exact tA,by rw[bP];exact hn,rfl⟩
 ·have bE:¬(i:Int) < (l.length:Nat):=bE
  have hi:i=l.length:=by omega
  subst hi
  rw[List.take_length]at hS hn ⊢
  exact⟨a2,c2,rfl,rfl,rfl,hS.row,hS.new,hn⟩
def ZwI(r:Ru):Value->Mem->List (List Value)->Prop:=λv m' _=>∃s:Sc,v=s.v/\RepC m' s/\s.light=ZgI r/\ZdL s=r.acts
theorem ZeA{r:Ru}:∀(v:Value)(m':Mem) (css:List (List Value)),ZwI r v m' css->Shape.fits (.agg [.int .i64,.slice,.slice]) v=true:=λv _ _ ⟨t,e,_⟩=>by rw[e];rfl
theorem Zqw(r:Ru)(m:Mem)(hr:RepR m r):CX Tryz.prog 75 #[.agg r.cs.toArray] m [] (ZwI r):=by
 apply Zqv
 intro b m1 aF _ b1 b2 nH b3 ft
 have h2:m1.le (m1.add b2 r.cs):=Mem.le_add nH _
 have h3:(m1.add b2 r.cs).le ((m1.add b2 r.cs).add b3 [.string ⟨#[]⟩,.slice (some ⟨b2,0,none⟩) 1 1]):=Mem.le_add ft _
 have tC:=mLt aF (mLt h2 h3)
 refine⟨_,tC,Mem.le_refl _,⟨0,none,0,[],some ⟨b3,0,none⟩,1,[⟨⟨#[]⟩,some ⟨b2,0,none⟩,1,[r]⟩]⟩,rfl,⟨by show I64 0;unfold I64;omega,by show 0<=few;omega,.inl rfl,by simp,by show 1<=few;unfold few;omega,ZaN,λx hx=>?_,Nat.le_refl _,Nat.le_refl _⟩,?_,?_⟩
 ·simp only[List.mem_singleton]at hx
  subst hx
  have aB:rowRd (m1.add b2 r.cs) (some ⟨b2,0,none⟩) ([r].map Ru.cs).flatten:=by simpa using(ZaN (m:=m1) (b:=b2) (cs:=r.cs))
  exact⟨by show(ByteArray.mk #[]).size<=_;decide,by show 1<=few;unfold few;omega,aB.mono h3,λp hp=>by
   simp only[List.mem_singleton]at hp;subst hp;exact hr.mono tC⟩
 ·unfold Sc.light Sc.weight ZgI
  simp only[List.length_nil,List.length_singleton,List.map_cons,List.map_nil,ZaI,wS]
  congr 1
  refine propext ?_
  constructor <;> intro h <;> simp only[Int.add_zero]at h ⊢ <;> omega
 ·simp[ZdL,Zl5]
theorem Zo5(e:E){M0 mm:Mem}{v0:Value}{a:Option Addr}{c:Nat}{o:List ByteArray}(hS:NmSt M0 v0 mm a c o)(hn:o=[]->a=none)(he:RepE (M0.off (Yn v0)) e):
  CX Tryz.prog 109 #[e.v] mm [] (λv m' _=>∃a1 c1,v=.slice a1 e.vars.length c1/\∃m1:Mem,m1.le m'/\rowRd (m1.off (Yn (.slice a o.length c))) a1 (ZbZ e.vars)):=by
 refine((ZsH e (mm.off (Yn (.slice a o.length c))) (RepE.mono' he hS.base)).frame2 (Mem.off_le _ _)).mono ?_
 rintro v m' css _ ⟨m1,h1,h2,h3,a1,c1,hv,aB⟩
 refine⟨a1,c1,hv,m1,h2,?_⟩
 rcases aB with h|⟨b,oo,ha,h⟩
 ·exact .inl h
 ·refine .inr ⟨b,oo,ha,λj u hj=>?_⟩
  by_cases hY:Yn (.slice a o.length c) b
  ·exfalso
   obtain⟨o2,e2,gn⟩:=ZsS hY
   have ho:o≠[]:=λe=>by rw[hn e]at gn;cases gn
   rcases hS.row with h4|⟨b4,o4,gu,h4⟩
   ·have:=congrArg List.length h4
    rw[ZdI]at this
    exact ho (List.eq_nil_of_length_eq_zero (by simpa using this))
   ·rw[gn]at gu;cases gu
    have aC:0 < (ZbZ o).length:=by rw[ZdI];exact List.length_pos_iff.2 ho
    have h5:=h3 _ _ _ (h4 0 _ (zA3 aC)) (oo+j)
    have h6:(mm.off (Yn (.slice a o.length c))) b (oo+j)=none:=Mem.off_free hY _
    rw[h6]at h5
    have h7:=h j u hj
    rw[h5]at h7;cases h7
  ·rw[Mem.off_at hY];exact h j u hj
theorem Zxl(m:Mem):NmSt m (.slice none 0 0) m none 0 []:=⟨.inl rfl,Mem.le_refl _,λb h=>.inl h⟩
theorem NmSt.put{M0 mm m':Mem}{v0:Value}{a a':Option Addr}{c c':Nat}{o l:List ByteArray}(h:NmSt M0 v0 mm a c o)(bH:(mm.off (Yn (.slice a o.length c))).le m')(hr:rowRd m' a' (ZbZ l))(hn:∀b,Yn (.slice a' l.length c') b->Yn (.slice a o.length c) b\/(mm.free b/\mm.k b=none)):NmSt M0 v0 m' a' c' l:=h.step bH hr hn
theorem NmSt.low{m mm:Mem}{a:Option Addr}{c:Nat}{l:List ByteArray}(h:NmSt m (.slice none 0 0) mm a c l):m.le mm:=by
 have hY:∀b,¬Yn (.slice none 0 0) b:=λb hb=>by simp[Yn,Tok.blk]at hb
 have fq:m.le (m.off (Yn (.slice none 0 0))):=⟨λb o v hv=>by rw[Mem.off_at (hY b)];exact hv,λb e he=>by rw[Mem.off_k (hY b)];exact he⟩
 exact mLt fq (mLt h.base (Mem.off_le _ _))
theorem ZrA(m:Mem):m.le (m.off (Yn (.slice none 0 0))):=Zl3 (Mem.le_refl m) λb hb=>by simp[Yn,Tok.blk]at hb
theorem ZuC{M0 mm:Mem}{v0:Value}{a:Option Addr}{c b:Nat}{o:List ByteArray}(hS:NmSt M0 v0 mm a c o)(hn:o=[]->a=none)(hf:mm.free b):¬Yn (.slice a o.length c) b:=λhY=>by
 obtain⟨o2,e2,gn⟩:=ZsS hY
 have ho:o≠[]:=λe=>by rw[hn e]at gn;cases gn
 rcases hS.row with h4|⟨b4,o4,gu,h4⟩
 ·have:=congrArg List.length h4
  rw[ZdI]at this
  exact ho (List.eq_nil_of_length_eq_zero (by simpa using this))
 ·rw[gn]at gu;cases gu
  have aC:0 < (ZbZ o).length:=by rw[ZdI];exact List.length_pos_iff.2 ho
  have:=h4 0 _ (zA3 aC)
  rw[hf]at this;cases this
theorem ZmK{cs:List Value}{a7:Option Addr}{c7 d7:Nat}{v0:Value}{m m7:Mem}{l:List ByteArray}{v:Value}(h:ZxB v0 m l v m7 [cs] [.slice a7 c7 d7]):c7=l.length/\cs=[.slice a7 l.length d7]/\rowRd m7 a7 (ZbZ l)/\(∀b,Yn (.slice a7 l.length d7) b->Yn v0 b\/(m.free b/\m.k b=none))/\(l=[]->a7=none):=by
 obtain⟨a8,c8,_,bC,bQ,aB,bD,dg⟩:=h
 simp only[List.cons.injEq,Value.slice.injEq,and_true]at bC bQ
 obtain⟨rfl,rfl,rfl⟩:=bQ
 exact⟨rfl,bC,aB,bD,dg⟩
theorem ZrB(r:Ru)(w:Bool)(m:Mem)(hr:RepR m r):CX Tryz.prog 74 #[.agg r.cs.toArray,.bool w] m [] (Ztf (Zqc w r)):=by
 have mH:r.acts.length<=100000:=hr.len
 apply ZmC
 intro b m1 aF mj fc _ b1 m2 aO _ _ _
 have cT:=mLt aF aO
 refine⟨_,trivial,Zqw r m2 (hr.mono cT),ZeA,?_⟩
 rintro n a n1 c a1 n2 c1 m3 aV ⟨s,hv,hs,dq,nJ⟩
 rw[hv]
 have cK:=mLt cT aV
 refine Zan (ZbI s m3 hs) λm4 bU=>Zab (λh=>Zai (mLt cK bU) ?_) (λh=>?_)
 ·have hl:ZgI r=false:=by rw[<-dq];simpa using h
  unfold Zqc
  rw[hl]
  exact⟨none,0,rfl,.inl rfl⟩
 have hl:ZgI r=true:=by rw[<-dq];simpa using h
 have gk:=mLt cK bU
 intro b3 b4
 refine⟨_,trivial,Zqw r m4 (hr.mono gk),ZeA,?_⟩
 rintro n' a' n1' c' a1' n2' c1' m5 bW ⟨s',hv',hs',rP,mo⟩
 rw[hv']
 have ij:=mLt gk bW
 refine Zam (Zgu s' m5) (λv m' css h=>by obtain⟨_,rfl,_⟩:=h;rfl) ?_
 rintro g fi ca m6 dt ⟨b5,eQ,rQ⟩
 obtain⟨rfl,rfl,rfl⟩:=Zb7 eQ
 have fu:=mLt ij dt
 have om:=Ze5 s' m6 b5 (hs'.mono dt) rQ
 rw[mo]at om
 have rR:=hr.mono fu
 refine⟨m6,Mem.le_refl _,_,om,λy hy=>?_,λ_ css tvs mm q=>∃(a:Option Addr)(c:Nat),q<=r.acts.length/\css=[[.slice a ((r.acts.take q).foldl (Ze2 w) []).length c]]/\tvs=[.slice a ((r.acts.take q).foldl (Ze2 w) []).length c]/\NmSt m6 (.slice none 0 0) mm a c ((r.acts.take q).foldl (Ze2 w) [])/\((r.acts.take q).foldl (Ze2 w) []=[]->a=none),⟨none,0,by omega,rfl,rfl,Zxl m6,λ_=>rfl⟩,?_,?_⟩
 ·obtain⟨z,_,rfl⟩:=List.mem_map.1 hy;rfl
 ·rintro k0 s0 pa pn pc k1 x1 s1 g1 sa sn sc cs ta tn tc mm q io hq ⟨a',c',fP,bC,bQ,hS,hn⟩ b6
  simp only[List.cons.injEq,Value.slice.injEq,and_true]at bC bQ
  obtain⟨rfl,rfl,rfl⟩:=bQ
  subst bC
  have hq':(List.map (λa:Ac=>[Value.agg a.cs.toArray]) r.acts)[(q:Nat)]?=some [Value.agg #[.int .u8 k0,.string s0,.slice pa pn pc,.int .u8 k1,x1,.string s1,.int .i64 g1,.slice sa sn sc]]:=hq
  rw[List.getElem?_map]at hq'
  obtain⟨x,hx,oq⟩:=Option.map_eq_some_iff.1 hq'
  have nK:=(zA0 hx).1
  simp only[Ac.cs,List.cons.injEq,Value.agg.injEq,Array.mk.injEq,Value.int.injEq,Value.string.injEq,Value.slice.injEq,true_and,and_true]at oq
  obtain⟨rfl,rfl,⟨rfl,rfl,rfl⟩,rfl,rfl,rfl,rfl,rfl,rfl,rfl⟩:=oq
  have bP:=Zev (Ze2 w) [] hx
  have vO:=Zub w hl q hx
  have cL:=rR.all x (zA2 hx)
  have wN:=Zrb x
  have ip:x.parts.length<=100000:=cL.n
  obtain⟨o,ho⟩:∃o,o=(r.acts.take q).foldl (Ze2 w) []:=⟨_,rfl⟩
  rw[<-ho]at hS hn bP vO ⊢
  have gY:Ze2 w o x=o->NmSt m6 (.slice none 0 0) mm ta tc o/\((r.acts.take (q+1)).foldl (Ze2 w) []=o):=λh=>⟨hS,by rw[bP,h]⟩
  refine Zaa rfl ?_
  cases w with
  | true=>
   refine ZiK rfl ⟨x.k == 2||x.k == 3,Zab (λh=>⟨rfl,rfl,by rw[h];rfl⟩) (λh=>⟨rfl,rfl,by rw[h];rfl⟩),Zab (λh b7 iq=>?_) (λh=>?_)⟩
   ·have hu:Ze2 true o x=Zea o x.s:=by
     unfold Ze2;rw[if_pos rfl,if_pos (by simpa using h)]
    have pH:=hS.up (Mem.le_add iq [.string x.s])
    have rS:=ZuC hS hn iq
    refine⟨_,_,ZmJ [x.s] o (some ⟨b7,0,none⟩) 1 ta tc b3 (mm.add b7 [.string x.s]) ?_ pH.row hn (by simp;omega),λt ht bb dj=>?_,λbb dj=>.inl ⟨_,by simp,dj⟩,ZiD,?_⟩
    ·refine .inr ⟨b7,0,rfl,λj v hj=>?_⟩
     rw[Mem.off_at rS]
     exact ZdH mm b7 _ j v hj
    ·obtain rfl:t=_:=by simpa using ht
     exact dj
    ·rintro m7 eF _ cs7 a7 c7 d7 hp
     obtain⟨rfl,rfl,aB,bD,dg⟩:=ZmK hp
     have hS':=pH.step eF aB bD
     rw[show[x.s].foldl Zea o=Zea o x.s from rfl,<-hu,<-bP]at hS' dg ⊢
     exact⟨hS'.low,rfl,a7,d7,by omega,rfl,rfl,hS',dg⟩
   ·have hu:Ze2 true o x=o:=by
     unfold Ze2;rw[if_pos rfl,if_neg (by simpa using h)]
    have:=gY hu
    exact⟨io,rfl,ta,tc,by omega,by rw[this.2],by rw[this.2],by rw[this.2];exact hS,by rw[this.2];exact hn⟩
  | false=>
   have hu:Ze2 false o x=x.parts.foldl ZcA (Zb3 o x):=by unfold Ze2;rw[if_neg (by decide)]
   have gx:=ZoM x.e
   refine ZdJ rfl ⟨λ_ css tvs mm'=>∃(a:Option Addr)(c:Nat),css=[[.slice a (Zb3 o x).length c]]/\tvs=[.slice a (Zb3 o x).length c]/\NmSt m6 (.slice none 0 0) mm' a c (Zb3 o x)/\(Zb3 o x=[]->a=none),Zab (λh=>?_) (λh=>?_),?_⟩
   ·have hk:Zb3 o x=x.e.vars.foldl Zea o:=by unfold Zb3;rw[if_pos (by simpa using h)]
    refine⟨λ_ _ _=>_,_,rfl,Zo5 x.e hS hn (RepE.mono' cL.e (ZrA m6)),(λv _ _ ⟨_,_,e,_⟩=>by rw[e];rfl),?_⟩
    rintro a8 n8 c8 m8 dX ⟨a9,c9,kP,m9,gX,jd⟩ M hM tD
    simp only[Value.slice.injEq]at kP
    obtain⟨rfl,rfl,rfl⟩:=kP
    have ot:=hS.up hM
    refine⟨_,_,ZmJ x.e.vars o a8 c8 ta tc b3 M (jd.mono (Zjk (mLt gX tD))) ot.row hn (by omega),λt ht bb dj=>?_,λbb dj=>.inl ⟨_,by simp,dj⟩,ZiD,?_⟩
    ·obtain rfl:t=_:=by simpa using ht
     exact dj
    ·rintro m7 eF _ cs7 a7 c7 d7 hp
     obtain⟨rfl,rfl,aB,bD,dg⟩:=ZmK hp
     have hS':=ot.step eF aB bD
     rw[<-hk]at hS' dg ⊢
     exact⟨rfl,rfl,a7,d7,rfl,rfl,hS',dg⟩
   ·have hk:Zb3 o x=o:=by unfold Zb3;rw[if_neg (by simpa using h)]
    exact⟨rfl,rfl,ta,tc,by rw[hk],by rw[hk],by rw[hk];exact hS,by rw[hk];exact hn⟩
   rintro cs ja jn jc m7 _ ⟨a',c',bC,bQ,pH,vP⟩
   simp only[List.cons.injEq,Value.slice.injEq,and_true]at bC bQ
   obtain⟨rfl,rfl,rfl⟩:=bQ
   subst bC
   refine⟨λxs css tvs mm' q=>∃(j:Nat)(a:Option Addr)(c:Nat),j<=x.parts.length/\xs=[.int .i64 j]/\css=[[.slice a ((x.parts.take j).foldl ZcA (Zb3 o x)).length c]]/\tvs=[.slice a ((x.parts.take j).foldl ZcA (Zb3 o x)).length c]/\NmSt m6 (.slice none 0 0) mm' a c ((x.parts.take j).foldl ZcA (Zb3 o x))/\((x.parts.take j).foldl ZcA (Zb3 o x)=[]->a=none)/\q=x.parts.length - j,⟨_,0,ja,jc,by omega,rfl,rfl,rfl,pH,vP,rfl⟩,?_⟩
   rintro z cs a1 n1 c1 m8 q2 _ ⟨j,a',c',hj,hz,bC,bQ,jD,ir,rfl⟩
   obtain rfl:z=j:=by simpa using hz
   simp only[List.cons.injEq,Value.slice.injEq,and_true]at bC bQ
   obtain⟨rfl,rfl,rfl⟩:=bQ
   subst bC
   have j2:IntKind.i64.wrap ((j:Int)+1)=((j+1:Nat):Int):=by rw[Zak (by omega) (by omega)];rfl
   have vQ:=Zgs o x j
   refine Zaz (λaC=>?_) (λbE=>?_)
   ·have aC:(j:Int) < (x.parts.length:Nat):=aC
    obtain⟨p,hp⟩:=ZcZ (show j < x.parts.length by omega)
    have pI:=cL.mono jD.low
    obtain⟨b8,o8,ml,mq⟩:=Zal Pt.len pI.row hp (by omega)
    have fS:=cL.all p (zA2 hp)
    have eG:=Zev ZcA (Zb3 o x) hp
    have vR:=Zgs o x (j+1)
    have rT:=ZoM p.e
    obtain⟨o',ho'⟩:∃o',o'=(x.parts.take j).foldl ZcA (Zb3 o x):=⟨_,rfl⟩
    rw[<-ho']at jD ir eG vQ ⊢
    refine⟨b8,o8,ml,⟨by omega,aC⟩,_,_,_,_,_,_,_,_,mq,λb9=>Zaa rfl (Zaa rfl (Zab (λh=>Zaa rfl λb10 eZ=>?_) (λh=>Zaa rfl (Zab (λh2=>?_) (λh2=>?_)))))⟩
    ·have h:(p.k == 2)=true:=h
     have hk:ZcA o' p=Zea o' p.s:=by unfold ZcA;rw[if_pos (by simpa using h)]
     have ou:=jD.up (Mem.le_add eZ [.string p.s])
     have rS:=ZuC jD ir eZ
     refine⟨_,_,ZmJ [p.s] o' (some ⟨b10,0,none⟩) 1 a1 c1 b3 (m8.add b10 [.string p.s]) ?_ ou.row ir (by simp;omega),λt ht bb dj=>?_,λbb dj=>.inl ⟨_,by simp,dj⟩,ZiD,?_⟩
     ·refine .inr ⟨b10,0,rfl,λj v hj=>?_⟩
      rw[Mem.off_at rS]
      exact ZdH m8 b10 _ j v hj
     ·obtain rfl:t=_:=by simpa using ht
      exact dj
     ·rintro m9 gX _ cs9 a9 c9 d9 rU
      obtain⟨rfl,rfl,aB,bD,dg⟩:=ZmK rU
      have hS':=ou.step gX aB bD
      rw[show[p.s].foldl Zea o'=Zea o' p.s from rfl,<-hk,<-eG]at hS' dg ⊢
      exact⟨rfl,rfl,x.parts.length - (j+1),by omega,j+1,a9,d9,by omega,by rw[j2],rfl,rfl,hS',dg,rfl⟩
    ·have h:(p.k == 2)=false:=h
     have h2:(p.k == 4)=true:=h2
     have hk:ZcA o' p=p.e.vars.foldl Zea o':=by unfold ZcA;rw[if_neg (by simpa using h),if_pos (by simpa using h2)]
     refine⟨λ_ _ _=>_,_,rfl,Zo5 p.e jD ir (RepE.mono' fS.e (ZrA m6)),(λv _ _ ⟨_,_,e,_⟩=>by rw[e];rfl),?_⟩
     rintro a10 n10 c10 m10 ik ⟨a9,c9,kP,m9,gX,jd⟩ M hM ov
     simp only[Value.slice.injEq]at kP
     obtain⟨rfl,rfl,rfl⟩:=kP
     have ot:=jD.up hM
     refine⟨_,_,ZmJ p.e.vars o' a10 c10 a1 c1 b3 M (jd.mono (Zjk (mLt gX ov))) ot.row ir (by omega),λt ht bb dj=>?_,λbb dj=>.inl ⟨_,by simp,dj⟩,ZiD,?_⟩
     ·obtain rfl:t=_:=by simpa using ht
      exact dj
     ·rintro m11 je _ cs9 a9 c9 d9 rU
      obtain⟨rfl,rfl,aB,bD,dg⟩:=ZmK rU
      have hS':=ot.step je aB bD
      rw[<-hk,<-eG]at hS' dg ⊢
      exact⟨rfl,rfl,x.parts.length - (j+1),by omega,j+1,a9,d9,by omega,by rw[j2],rfl,rfl,hS',dg,rfl⟩
    ·have h:(p.k == 2)=false:=h
     have h2:(p.k == 4)=false:=h2
     have hk:ZcA o' p=o':=by unfold ZcA;rw[if_neg (by simpa using h),if_neg (by simpa using h2)]
     rw[hk]at eG
     exact⟨rfl,rfl,x.parts.length - (j+1),by omega,j+1,a1,c1,by omega,by rw[j2],by rw[eG],by rw[eG],by rw[eG];exact jD,by rw[eG];exact ir,rfl⟩
   ·have bE:¬(j:Int) < (x.parts.length:Nat):=bE
    have hj:j=x.parts.length:=by omega
    subst hj
    rw[List.take_length,<-hu,<-bP]at jD ir ⊢
    exact⟨jD.low,rfl,a1,c1,by omega,rfl,rfl,jD,ir⟩
 ·rintro cs a7 n7 c7 m7 eF ⟨a',c',_,bC,bQ,hS,hn⟩
  rw[List.length_map,List.take_length]at bC bQ hS
  simp only[List.cons.injEq,Value.slice.injEq,and_true]at bC bQ
  obtain⟨rfl,rfl,rfl⟩:=bQ
  subst bC
  refine Zaf rfl (ZaA (mLt fu eF) ?_)
  unfold Zqc
  rw[hl,if_pos rfl]
  exact⟨a7,c7,rfl,hS.row⟩
theorem ZsT(r:Ru)(m:Mem)(hr:RepR m r):CX Tryz.prog 27 #[.agg r.cs.toArray] m [] (Ztf (Zqc false r)):=by
 apply Zkp
 intro b m0 dN _
 refine Zam (ZrB r false m0 (hr.mono dN)) Zf6 ?_
 rintro a n c m1 aF ⟨a',c',hv,aB⟩
 exact ZaA (mLt dN aF) ⟨a',c',hv,aB⟩
theorem Zqx(r:Ru)(m:Mem)(hr:RepR m r):CX Tryz.prog 28 #[.agg r.cs.toArray] m [] (Ztf (Zqc true r)):=by
 apply ZiA
 intro b m0 dN _
 refine Zam (ZrB r true m0 (hr.mono dN)) Zf6 ?_
 rintro a n c m1 aF ⟨a',c',hv,aB⟩
 exact ZaA (mLt dN aF) ⟨a',c',hv,aB⟩
theorem ZuD(r:Ru)(m:Mem)(hr:RepR m r):CX Tryz.prog 30 #[.agg r.cs.toArray] m [] (Ret (.int .i64 (Zuc r))):=by
 have mH:r.acts.length<=100000:=hr.len
 apply ZmE
 intro b m2 cT _
 refine⟨_,trivial,Zqw r m2 (hr.mono cT),ZeA,?_⟩
 rintro n a n1 c a1 n2 c1 m3 aV ⟨s,hv,hs,dq,nJ⟩
 rw[hv]
 have cK:=mLt cT aV
 refine Zan (ZbI s m3 hs) λm4 bU=>Zab (λh=>Zai (mLt cK bU) ?_) (λh=>?_)
 ·have hl:ZgI r=false:=by rw[<-dq];simpa using h
  show Value.int _ _=Value.int _ _
  unfold Zuc
  rw[hl];rfl
 have hl:ZgI r=true:=by rw[<-dq];simpa using h
 have gk:=mLt cK bU
 intro b3
 refine⟨_,trivial,Zqw r m4 (hr.mono gk),ZeA,?_⟩
 rintro n' a' n1' c' a1' n2' c1' m5 bW ⟨s',hv',hs',rP,mo⟩
 rw[hv']
 have ij:=mLt gk bW
 refine Zam (Zgu s' m5) (λv m' css h=>by obtain⟨_,rfl,_⟩:=h;rfl) ?_
 rintro g fi ca m6 dt ⟨b5,eQ,rQ⟩
 obtain⟨rfl,rfl,rfl⟩:=Zb7 eQ
 have fu:=mLt ij dt
 have om:=Ze5 s' m6 b5 (hs'.mono dt) rQ
 rw[mo]at om
 have rR:=hr.mono fu
 refine⟨_,om,λy hy=>?_,λ_ css tvs mm q=>q<=r.acts.length/\css=[[.int .i64 ((r.acts.take q).foldl Zte (-1))]],⟨by omega,rfl⟩,?_,?_⟩
 ·obtain⟨z,_,rfl⟩:=List.mem_map.1 hy;rfl
 ·rintro k0 s0 pa pn pc k1 x1 s1 g1 sa sn sc cs mm q io hq ⟨fP,bC⟩ b6
  obtain rfl:cs=_:=by simpa using bC
  have hq':(List.map (λa:Ac=>[Value.agg a.cs.toArray]) r.acts)[(q:Nat)]?=some [Value.agg #[.int .u8 k0,.string s0,.slice pa pn pc,.int .u8 k1,x1,.string s1,.int .i64 g1,.slice sa sn sc]]:=hq
  rw[List.getElem?_map]at hq'
  obtain⟨x,hx,oq⟩:=Option.map_eq_some_iff.1 hq'
  have nK:=(zA0 hx).1
  simp only[Ac.cs,List.cons.injEq,Value.agg.injEq,Array.mk.injEq,Value.int.injEq,Value.string.injEq,Value.slice.injEq,true_and,and_true]at oq
  obtain⟨rfl,rfl,⟨rfl,rfl,rfl⟩,rfl,rfl,rfl,rfl,rfl,rfl,rfl⟩:=oq
  have bP:=Zev Zte (-1) hx
  have cL:=rR.all x (zA2 hx)
  have ip:x.parts.length<=100000:=cL.n
  generalize (r.acts.take q).foldl Zte (-1)=o at bP ⊢
  have hu:Zte o x=x.parts.foldl ZkB (if x.k=3 then mxI o x.e.most else o):=rfl
  refine Zaa rfl ⟨λ_ css _ mm'=>m6.le mm'/\css=[[.int .i64 (if x.k=3 then mxI o x.e.most else o)]],Zab (λh=>?_) (λh=>?_),?_⟩
  ·have h:x.k=3:=by simpa using h
   refine⟨λ_ _ _=>_,Zaf rfl ⟨_,rfl,ZoY x.e mm (RepE.mono' cL.e io),(λv _ _ h=>by rw[show v=_ from h];rfl),?_⟩⟩
   intro n8 m8 dX vS
   obtain rfl:n8=_:=by simpa using(show Value.int .i64 n8=Value.int .i64 _ from vS)
   refine Zaa rfl λM hM tD=>⟨rfl,mLt io hM,?_⟩
   rw[if_pos h];rfl
  ·have h:¬x.k=3:=by simpa using h
   exact⟨rfl,io,by rw[if_neg h]⟩
  rintro cs m7 _ ⟨eF,bC⟩
  obtain rfl:cs=_:=by simpa using bC
  generalize (if x.k=3 then mxI o x.e.most else o)=o1 at hu ⊢
  refine⟨λxs css _ mm' q=>∃j:Nat,j<=x.parts.length/\xs=[.int .i64 j]/\css=[[.int .i64 ((x.parts.take j).foldl ZkB o1)]]/\q=x.parts.length - j,⟨_,0,by omega,rfl,rfl,rfl⟩,?_⟩
  rintro z cs m8 q2 dX ⟨j,hj,hz,bC,rfl⟩
  obtain rfl:z=j:=by simpa using hz
  obtain rfl:cs=_:=by simpa using bC
  have j2:IntKind.i64.wrap ((j:Int)+1)=((j+1:Nat):Int):=by rw[Zak (by omega) (by omega)];rfl
  have pE:=mLt eF dX
  refine Zaz (λaC=>?_) (λbE=>?_)
  ·have aC:(j:Int) < (x.parts.length:Nat):=aC
   obtain⟨p,hp⟩:=ZcZ (show j < x.parts.length by omega)
   have pI:=cL.mono pE
   obtain⟨b8,o8,ml,mq⟩:=Zal Pt.len pI.row hp (by omega)
   have fS:=pI.all p (zA2 hp)
   have eG:=Zev ZkB o1 hp
   generalize (x.parts.take j).foldl ZkB o1=o' at eG ⊢
   refine⟨b8,o8,ml,⟨by omega,aC⟩,_,_,_,_,_,_,_,_,mq,λb9=>Zaa rfl (Zaa rfl (Zab (λh=>Zaf rfl (Zaa rfl ⟨rfl,x.parts.length - (j+1),by omega,j+1,by omega,by rw[j2],?_,rfl⟩)) (λh=>Zaa rfl (Zab (λh2=>?_) (λh2=>⟨rfl,x.parts.length - (j+1),by omega,j+1,by omega,by rw[j2],?_,rfl⟩)))))⟩
   ·have h:(p.k == 3)=true:=h
    rw[eG,show ZkB o' p=mxI o' p.g by unfold ZkB;rw[if_pos (by simpa using h)]];rfl
   ·have h:(p.k == 3)=false:=h
    have h2:(p.k == 4)=true:=h2
    refine⟨λ_ _ _=>_,Zaf rfl ⟨_,rfl,ZoY p.e m8 fS.e,(λv _ _ h=>by rw[show v=_ from h];rfl),?_⟩⟩
    intro n10 m10 ik rV
    obtain rfl:n10=_:=by simpa using(show Value.int .i64 n10=Value.int .i64 _ from rV)
    refine Zaa rfl λM hM ov=>⟨rfl,x.parts.length - (j+1),by omega,j+1,by omega,by rw[j2],?_,rfl⟩
    rw[eG,show ZkB o' p=mxI o' p.e.most by unfold ZkB;rw[if_neg (by simpa using h),if_pos (by simpa using h2)]];rfl
   ·have h:(p.k == 3)=false:=h
    have h2:(p.k == 4)=false:=h2
    rw[eG,show ZkB o' p=o' by unfold ZkB;rw[if_neg (by simpa using h),if_neg (by simpa using h2)]]
  ·have bE:¬(j:Int) < (x.parts.length:Nat):=bE
   have hj:j=x.parts.length:=by omega
   subst hj
   rw[List.take_length,<-hu,<-bP]
   exact⟨rfl,by omega,rfl⟩
 ·rintro cs m7 eF ⟨_,bC⟩
  rw[List.length_map,List.take_length]at bC
  obtain rfl:cs=_:=by simpa using bC
  refine Zaf rfl (Zai (mLt fu eF) ?_)
  show Value.int _ _=Value.int _ _
  unfold Zuc
  rw[hl,if_pos rfl]
end Go.Proofs.YtpjepnkiiojgfaaGreat
end
