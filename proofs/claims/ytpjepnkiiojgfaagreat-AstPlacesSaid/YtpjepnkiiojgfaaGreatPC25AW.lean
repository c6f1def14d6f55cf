/- Part of the proof: functions of the program. No condition. -/
import Derived.Test.YtpjepnkiiojgfaaGreatPEnv
import Derived.Test.YtpjepnkiiojgfaaGreatPC25E
import Derived.Test.YtpjepnkiiojgfaaGreatPC25AU
import Derived.Test.YtpjepnkiiojgfaaGreatMr
import Derived.Test.YtpjepnkiiojgfaaGreatPC25MA
set_option linter.unusedVariables false
set_option linter.unusedSimpArgs false
set_option linter.unusedSectionVars false
noncomputable section
namespace Go.Proofs.YtpjepnkiiojgfaaGreat
open Go Go.Eng Go.Proofs Go.RowKit
open Go.Value (int slice agg bool string tuple func)
open Go.IntKind (u8 u64 i64)
set_option maxRecDepth 100000
def ZsL:Env:={ EB with
 frzNew:=[1] }
theorem Zqr(aB:Int)(aD aG:Bool)(aF bC bI bJ dB dC dD:Int)(cx:Option Addr)(cy cz:Nat)(cJ:ByteArray)(cK:Int)(cA:Option Addr)(cB cC:Nat)(cL:ByteArray)(cM:Int)(m:Mem)(R:RT)(h:
 lV [int u8 aB,bool aD,bool aG,int u8 aF,int u64 bC,int u64 bI,int u64 bJ,int u64 dB,int i64 dC,int i64 dD,slice cx cy cz,string cJ,int i64 cK,slice cA cB
 cC,string cL,int i64 cM] λxL=>fzM m xL λb m'=>∀(b b:Nat),m'.free b->∀(b_1:Nat),Mem.free (m'.add b xL) b_1->rtM m (Mem.add (m'.add b xL) b_1 [string bE0,slice (some (Addr.mk b 0 none)) 1 1]) R (agg (Array.mk [int i64 0,slice none 0 0,slice (some (Addr.mk b_1 0 none)) 1 1]))):CX Tryz.prog 75 #[.agg #[.int .u8 aB,.bool aD,.bool aG,.int .u8 aF,.int .u64 bC,.int .u64 bI,.int .u64 bJ,.int .u64 dB,.int .i64 dC,.int .i64 dD,.slice cx cy cz,.string cJ,.int .i64 cK,.slice cA cB cC,.string cL,.int .i64 cM]] m [] R:=
 Zae (E:=ZsL) Zav mix Tryz.func75 (by kernel_rfl) (Eq.mp (by kernel_rfl) h)
def Zfo:Env:={ EB with
 loops:=(λi=>bif Nat.beq i 5 then⟨[(9,.agg [.int .u8,.any,.str,.int .i64,.slice])],[3],[],false⟩ else⟨[],[],[],false⟩)
 frzNew:=[1] }
theorem ZeD(aB:Int)(aD:Value)(aG:ByteArray)(aF:Int)(aQ:Option Addr)(aN aV:Nat)(m:Mem)(R:RT)(h:
 lV [int u8 aB,aD,string aG,int i64 aF,slice aQ aN aV] λxL=>fzM m xL λb m'=>∀(b_1:Nat),lE [some (Box.mk b_1 [] 3 1 false true),some (Box.mk b xL 52 5 true true)] λxL_1=>kB
 Tryz.prog 94 [agg (Array.mk xL)] m' λb m'=>br b (kF Tryz.prog 103 [agg (Array.mk xL)] m' λg fi ca m'=>∃(xs:List (List Value)),IX Tryz.prog g fi ca m' xs/\(∀(x:List Value),x∈xs->Shape.fitsL
 [Shape.agg [Shape.int u8,Shape.any,Shape.str,Shape.int i64,Shape.slice]] x=true)/\∃(I:IT),I [] [[int i64 0]] [] m' 0/\(∀(n:Int)(v:Value)(s:ByteArray)(n_1:Int)(a:Option Addr)(n_2 c:Nat) (cs
 : List Value) (m'_1:Mem) (n_3:Nat),m'.le m'_1->List.get?Internal xs n_3=some [agg (Array.mk [int u8 n,v,string s,int i64 n_1,slice a n_2 c])]->I [] [cs] [] m'_1 n_3->∀(b:Nat),chk (v.oneCell'
 && true) (kI Tryz.prog 104 [int u8 n] m'_1 λn m'=>br (decide (n > (0:Int))) (Eng.ZrE cs 0 λv=>chk (Za2 i64 v&&decide (i64=i64)) (Zac xL_1/\I [] [[int i64 (i64.wrap (RowKit.intOf v+(1:
 Int)))]] [] m' (n_3+1))) (Zac xL_1/\I [] [cs] [] m' (n_3+1))))/\∀(cs:List Value)(m'_1:Mem),m'.le m'_1->I [] [cs] [] m'_1 (xs.length)->Eng.ZrE cs 0 λv=>rtM m m'_1 R v) (rtM m m' R (int
 i64 0))):CX Tryz.prog 69 #[.agg #[.int .u8 aB,aD,.string aG,.int .i64 aF,.slice aQ aN aV]] m [] R:=
 Zae (E:=Zfo) Zav mix Tryz.func69 (by kernel_rfl) (Eq.mp (by kernel_rfl) h)
def ZnT:Env:={ EB with
 loops:=(λi=>bif Nat.beq i 5 then⟨[(3,.int .i64),(19,.int .i64)],[],[],false⟩ else⟨[],[],[],false⟩)
 joins:=(λi=>bif Nat.beq i 2 then some [(13,.bool)]else none)
 frzNew:=[1] }
theorem ZmN(aB:Int)(aD:Value)(aG:ByteArray)(aF:Int)(aQ:Option Addr)(aN aV:Nat)(m:Mem)(R:RT)(h:
 lV [int u8 aB,aD,string aG,int i64 aF,slice aQ aN aV] λxL=>fzM m xL λb m'=>∃(b_1:Bool),lE [some (Box.mk b xL 52 5 true true)] λxL=>br (aB == (9:Int)) (Zac xL/\[bool true]
 = [bool b_1]) (Zac xL/\[bool (aB == (10:Int))]=[bool b_1])/\br b_1 (∃(I:IT),inI I [int i64 (i64.wrap ((0:Int)+(1:Int))),int i64 0] [] [] m'/\∀(n n_1:Int)(m'_1:Mem)(n_2:Nat),
 m'.le m'_1->I [int i64 n,int i64 n_1] [] [] m'_1 n_2->br (decide (n_1 < (↑aN:Int))) (atA aQ λb o=>Zad n_1 aN/\∃v v_1 v_2 v_3 v_4:Value,m'_1.reads b (o+Int.toNat n_1*5) [v,v_1,v_2,v_3,v_4]/\∀(b:Nat),chk (v.oneCell'&&(v_1.oneCell'&&(v_2.oneCell'&&(v_3.oneCell'&&(v_4.oneCell'&&true))))) (kI
 Tryz.prog 70 [agg (Array.mk [v,v_1,v_2,v_3,v_4])] m'_1 λn_3 m'=>Zac xL/\nxI n_2 I [int i64 (i64.wrap (n+n_3)),int i64 (i64.wrap (n_1+(1:Int)))] [] [] m')) (rtM m m'_1 R (int i64 n)))
 (∃(I:IT),inI I [int i64 0,int i64 0] [] [] m'/\∀(n n_1:Int)(m'_1:Mem)(n_2:Nat),m'.le m'_1->I [int i64 n,int i64 n_1] [] [] m'_1 n_2->br (decide (n_1 < (↑aN:Int))) (atA aQ λb o=>
 Zad n_1 aN/\∃v v_1 v_2 v_3 v_4:Value,m'_1.reads b (o+Int.toNat n_1*5) [v,v_1,v_2,v_3,v_4]/\∀(b:Nat),chk (v.oneCell' &&
 (v_1.oneCell'&&(v_2.oneCell'&&(v_3.oneCell'&&(v_4.oneCell'&&true))))) (kI Tryz.prog 70 [agg (Array.mk [v,v_1,v_2,v_3,v_4])] m'_1 λn_3 m'=>Zac xL/\nxI n_2 I [int i64
 (i64.wrap (n+n_3)),int i64 (i64.wrap (n_1+(1:Int)))] [] [] m')) (rtM m m'_1 R (int i64 n)))):CX Tryz.prog 70 #[.agg #[.int .u8 aB,aD,.string aG,.int .i64 aF,.slice aQ aN aV]] m [] R:=
 Zae (E:=ZnT) Zav mix Tryz.func70 (by kernel_rfl) (Eq.mp (by kernel_rfl) h)
def ZiD:Env:={ EB with
 frzNew:=[1] }
theorem Zg4(aB:Int)(bA:Option Addr)(aX bD:Nat)(aW:Option Addr)(aO aY:Nat)(m:Mem)(R:RT)(h:
 fzM m [int i64 aB,slice bA aX bD,slice aW aO aY] λb m'=>rtM m m' R (func (Fn.func 105) (Array.mk []) (Array.mk [Value.pointer (some (Addr.mk b 0 none))]))):CX Tryz.prog 71 #[.agg #[.int .i64 aB,.slice bA aX bD,.slice aW aO aY]] m [] R:=
 Zae (E:=ZiD) Zav mix Tryz.func71 (by kernel_rfl) (Eq.mp (by kernel_rfl) h)
def Zgf:Env:={ EB with
 loops:=(λi=>bif Nat.beq i 1 then⟨[(12,.int .i64)],[],[],true⟩ else bif Nat.beq i 4 then⟨[(19,.int .i64)],[],[],true⟩ else bif Nat.beq i 7 then⟨[(26,.int .i64)],[],[],true⟩ else⟨[],[],[],false⟩) }
theorem Zfp(p0g:Nat)(p0fi p0ca:List Value)(c0b c0o:Nat)(m:Mem)(xs:List (List Value))(h:
 ∀(l:Nat),∃(v:Value),m c0b (c0o+2)=some v/\chk (Zbr v) (∃(I:IT),inI I [int i64 0,int i64 0] [] [] m/\∀(y n:Int)(m':Mem)(n_1:Nat),m.le m'->I [int i64 y,int i64 n] [] [] m' n_1->br
 (decide (n < (↑(slN v):Int))) (chk (Zbr v) (atA (slA v) λb o=>Zad n (slN v)/\∃v v_1:Value,m'.reads b (o+Int.toNat n*2) [v,v_1]/\∀(b:Nat),lE [some (Box.mk b [v,v_1] 36 2
 false true)] λxL=>chk (v.oneCell'&&(v_1.oneCell'&&true)) (chk (Zbr v_1) (∃(I_1:IT),inI I_1 [int i64 y,int i64 0] [] [] m'/\∀(y n_2:Int)(m'_1:Mem)(n_3:Nat),lX (int i64 y) λyL=>
 m'.le m'_1->I_1 [yL,int i64 n_2] [] [] m'_1 n_3->br (decide (n_2 < (↑(slN v_1):Int))) (chk (Zbr v_1) (atA (slA v_1) λb o=>Zad n_2 (slN v_1)/\∃v v_2 v_3 v_4 v_5 v_6 v_7 v_8 v_9 v_10 v_11 v_12 v_13 v_14 v_15 v_16:Value,lV [v,v_2,v_3,v_4,v_5,v_6,v_7,v_8,v_9,v_10,v_11,v_12,v_13,v_14,v_15,v_16] λxL_1=>m'_1.reads b (o+Int.toNat n_2*16) xL_1/\∀(b:Nat),chk (v.oneCell'&&(v_2.oneCell' &&
 (v_3.oneCell'&&(v_4.oneCell'&&(v_5.oneCell'&&(v_6.oneCell'&&(v_7.oneCell'&&(v_8.oneCell'&&(v_9.oneCell'&&(v_10.oneCell'&&(v_11.oneCell' &&
 (v_12.oneCell'&&(v_13.oneCell'&&(v_14.oneCell'&&(v_15.oneCell'&&(v_16.oneCell'&&true)))))))))))))))) (chk (Zbr v_14) (∃(I:IT),inI I [yL,int i64 0] [] [] m'_1/\∀(y n:Int)
 (m':Mem) (n_4:Nat),m'_1.le m'->I [int i64 y,int i64 n] [] [] m' n_4->br (decide (n < (↑(slN v_14):Int))) (chk (Zbr v_14) (atA (slA v_14) λb_1 o=>Zad n (slN v_14)/\∃v v_17 v_18 v_19 v_20 v_21 v_22 v_23:Value,lV [v,v_17,v_18,v_19,v_20,v_21,v_22,v_23] λxL_2=>m'.reads b_1 (o+Int.toNat n*8)
 xL_2/\∀(b_2:Nat),chk (v.oneCell'&&(v_17.oneCell'&&(v_18.oneCell'&&(v_19.oneCell'&&(v_20.oneCell'&&(v_21.oneCell'&&(v_22.oneCell'&&(v_23.oneCell' &&
 true)))))))) ((l=l/\(0:Int)<=y/\List.get?Internal xs (Int.toNat y)=some [agg (Array.mk xL_2)])/\(Zac (some (Box.mk b xL_1 47 16 false true)::xL)/\nxI n_4 I [int i64 (y+(1:Int)),int i64 (i64.wrap (n+(1:Int)))] [] [] m')/\((-1:Int)=(↑(xs.length):Int)\/(-1:Int)=(-1:Int))))) (Zac xL/\nxI n_3 I_1 [int i64 y,int i64 (i64.wrap (n_2+(1:Int)))] [] [] m'))))) (nxI n_1 I [yL,
 int i64 (i64.wrap (n+(1:Int)))] [] [] m'_1))))) (y=(↑(xs.length):Int)\/y=(-1:Int)))):IX Tryz.prog 105 [] [.pointer (some ⟨c0b,c0o,none⟩)] m xs:=
 ZhY (E:=Zgf) Zav mix Tryz.func105 _ _ _ (by kernel_rfl) (Eq.mp (by kernel_rfl) h)
def Zkw:Env:={ EB with
 dr:=(λi=>bif Nat.beq i 1 then[⟨0,[100000],[],none,[],[]⟩,⟨1,[100000],[],none,[0],[]⟩,⟨2,[2],[],none,[],[]⟩,⟨3,[],[],none,[2],[]⟩,⟨4,[],[],none,[0,1,2,3],[]⟩,⟨5,[100000],[],none,[0,1,2,3,4],[]⟩,⟨6,[100000],[100000],none,[0,1,2,3,4,5],[]⟩]else bif Nat.beq i 2 then[⟨0,[100000],[],none,[],[]⟩,⟨1,[100000],[],none,[0],[]⟩,⟨2,[2],[],none,[],[]⟩,⟨3,[],[],none,[2],[]⟩,⟨4,[],[],none,[0,1,2,3],[]⟩,⟨5,[100000],[],none,[0,1,2,3,4],[]⟩,⟨6,[100000],[100000],none,[0,1,2,3,4,5],[]⟩]else[])
 frzNew:=[2] }
theorem ZiE(aB:Int)(aD:Value)(aG:ByteArray)(aF:Int)(aQ:Option Addr)(aN aV c0b:Nat)(c0_0 c0_1 c0_2 c0_3 c0_4 c0_5:Int)(m:Mem)(R:RT)(h:
 lV [int u8 aB,aD,string aG,int i64 aF,slice aQ aN aV] λxL=>lV [agg (Array.mk xL)] λxL_1=>lE (Box.mk c0b [int i64 c0_0,int i64 c0_1,int i64 c0_2,int i64 c0_3,int i64 c0_4,int i64 c0_5]
 75 6 false true) λyL=>fzM m xL λb m'=>∃(f:Fx),∃(R_1:RT),R_1=f 3 xL_1 m'/\CX Tryz.prog 69 (Array.mk xL_1) m' [] R_1/\ZbD (Shape.int i64) R_1/\∀(n:Int)(m'_1:Mem),m'.le m'_1->R_1 (int
 i64 n) m'_1 []->∀(M:Mem),m'.le M->m'_1.le M->∃(f:Fx),∃(R_2:RT),R_2=f 3 xL_1 M/\CX Tryz.prog 70 (Array.mk xL_1) M [] R_2/\ZbD (Shape.int i64) R_2/\∀(n_1:Int)(m':Mem),M.le m'->R_2
 (int i64 n_1) m' []->∀(M_1:Mem),M.le M_1->m'.le M_1->yL=yL/\∃(m'':Mem),m.le m''/\m''.le M_1/\R (tuple (Array.mk [])) m'' [[int i64 c0_0,int i64 c0_1,int i64 c0_2,int i64 c0_3,int i64
 (i64.wrap (c0_4+n)),int i64 (i64.wrap (c0_5+n_1))]]):CX Tryz.prog 68 #[.agg #[.int .u8 aB,aD,.string aG,.int .i64 aF,.slice aQ aN aV],.pointer (some ⟨c0b,0,none⟩)] m [⟨c0b,[.int .i64 c0_0,.int .i64 c0_1,.int .i64 c0_2,.int .i64 c0_3,.int .i64 c0_4,.int .i64 c0_5],75,6,false,true⟩] R:=
 Zoh (E:=Zkw) Zav mix Tryz.func68 [.v (.agg #[.int .u8 aB,aD,.string aG,.int .i64 aF,.slice aQ aN aV]),.loc 100000 0] [⟨c0b,[.int .i64 c0_0,.int .i64 c0_1,.int .i64 c0_2,.int .i64 c0_3,.int .i64 c0_4,.int .i64 c0_5],75,6,false,true⟩] (by kernel_rfl) (Eq.mp (by kernel_rfl) h)
def ZnU:Env:={ EB with
 loops:=(λi=>bif Nat.beq i 6 then⟨[(23,.int .i64)],[3],[],false⟩ else bif Nat.beq i 10 then⟨[(37,.int .i64)],[3],[],false⟩ else bif Nat.beq i 19 then⟨[(57,.agg [.int .u8,.str,.slice,.int .u8,.any,.str,.int .i64,.slice])],[3],[],false⟩ else bif Nat.beq i 22 then⟨[(68,.int .i64)],[3],[],false⟩ else⟨[],[],[],false⟩)
 dr:=(λi=>bif Nat.beq i 13 then[⟨0,[3],[],none,[],[]⟩,⟨1,[3],[],none,[0],[]⟩,⟨2,[7],[],none,[],[]⟩,⟨3,[7],[],none,[2],[]⟩,⟨4,[7],[],none,[2,3],[]⟩,⟨5,[],[],none,[2,3,4],[]⟩,⟨6,[],[],none,[0,1,2,3,4,5],[]⟩,⟨7,[3],[],none,[0,1,2,3,4,5,6],[]⟩,⟨8,[3],[3],none,[0,1,2,3,4,5,6,7],[]⟩]else[])
 borrow:=(λi=>bif Nat.beq i 64 then[3]else bif Nat.beq i 85 then[3]else[])
 frzNew:=[1] }
theorem ZmO(aB:Int)(bA:Option Addr)(aX bD:Nat)(aW:Option Addr)(aO aY:Nat)(m:Mem)(R:RT)(h:
 lV [int i64 aB,slice bA aX bD,slice aW aO aY] λxL=>fzM m xL λb m'=>∀(a9 ao:Nat),lV [Value.pointer (some (Addr.mk ao 0 none))] λaq=>lV [func (Fn.func 68) (Array.mk []) (Array.mk
 aq)] λba=>lE [some (Box.mk ao [] 75 6 false true),some (Box.mk a9 [int i64 0,int i64 0,int i64 0,int i64 0,int i64 0,int i64 0] 75 6 false true),some (Box.mk b xL 32 3 true true)] λaz=>kB Tryz.prog 19
 [agg (Array.mk xL)] m' λb m'=>br (!b) (rtM m m' R (agg (Array.mk [int i64 0,int i64 0,int i64 0,int i64 0,int i64 0,int i64 0]))) (∃(I:IT),inI I [int i64 0] [[int i64 (↑aO:Int),int i64 0,int i64 0,
 int i64 0,int i64 0,int i64 0]] [] m'/\∀(n:Int)(cs:List Value)(ar:Mem)(a3:Nat),m'.le ar->I [int i64 n] [cs] [] ar a3->br (decide (n < (↑aO:Int))) (atA aW λb o=>Zad n aO/\∃v ac:Value,ar.reads b (o+Int.toNat n*2) [v,ac]/\∀(b:Nat),lE (some (Box.mk b [v,ac] 36 2 false true)::az) λxL=>chk (v.oneCell'&&(ac.oneCell'&&true)) (Eng.ZrE cs 1 λv
 => chk (Zbr ac) (chk (Za2 i64 v&&decide (i64=i64)) (chk (Nat.ble 2 (cs.length)) (chk (Zbr ac) (∃(aa:IT),inI aa [int i64 0] [Zay cs 1 [int i64 (i64.wrap (RowKit.intOf v+(↑(slN ac):Int)))]]
 [] ar/\∀(ae:Int)(cs:List Value)(m':Mem)(av:Nat),lV [int i64 (i64.wrap (ae+(1:Int)))] λau=>ar.le m'->aa [int i64 ae] [cs] [] m' av->br (decide (ae < (↑(slN ac):Int))) (chk (Zbr ac)
 (atA (slA ac) λb o=>Zad ae (slN ac)/\∃v al am ag ah ai aj ak a0 a1 a2 a4 a5 a6 a7 a8:Value,lV [agg (Array.mk [ag,ah,ai,aj,ak,a0,a1,a2])] λaw=>m'.reads b (o+Int.toNat ae*16) [v,al,am,ag,ah,ai,aj,
 ak,a0,a1,a2,a4,a5,a6,a7,a8]/\∀(b:Nat),chk (v.oneCell'&&(al.oneCell'&&(am.oneCell'&&(ag.oneCell'&&(ah.oneCell'&&(ai.oneCell'&&(aj.oneCell' &&
 (ak.oneCell'&&(a0.oneCell'&&(a1.oneCell'&&(a2.oneCell'&&(a4.oneCell'&&(a5.oneCell'&&(a6.oneCell'&&(a7.oneCell'&&(a8.oneCell'&&true))))))))))))))))
 (chk (Za2 u8 v&&decide (u8=u8)) (br (RowKit.intOf v == (1:Int)) (∃(f:Fx),Eng.ZrE cs 2 λv=>∃(R:RT),R=f 5 aw m'/\CX Tryz.prog 58 (Array.mk aw) m' [] R/\ZbD (Shape.int i64) R/\∀(n:Int) (ad:
 Mem),m'.le ad->R (int i64 n) ad []->chk (Za2 i64 v&&decide (i64=i64)) (chk (Nat.ble 3 (cs.length)) (∀(M:Mem),m'.le M->ad.le M->Zac xL/\nxI av aa au [Zay cs 2 [int i64 (i64.wrap (RowKit.intOf v+n))]] [] M))) (Zac xL/\nxI av aa au [cs] [] m'))))) (Zac az/\nxI a3 I [int i64 (i64.wrap (n+(1:Int)))] [cs] [] m'))))))) (∀(b:Nat),lE (some (Box.mk b ba 137 1 false true) ::
 az) λau=>kF Tryz.prog 71 [agg (Array.mk xL)] ar λg fi ca m'=>∃(xs:List (List Value)),IX Tryz.prog g fi ca m' xs/\(∀(x:List Value),x∈xs->Shape.fitsL [Shape.agg [Shape.int u8,Shape.str,Shape.slice,
 Shape.int u8,Shape.any,Shape.str,Shape.int i64,Shape.slice]] x=true)/\∃(I:IT),I [] [cs] [] m' 0/\(∀(n:Int)(s:ByteArray)(a:Option Addr)(ae c:Nat)(av:Int)(v:Value)(bb:ByteArray)(bc:Int)
 (bd:Option Addr) (be bf:Nat) (cs:List Value) (ad:Mem) (ay:Nat),lV [int u8 av,v,string bb,int i64 bc,slice bd be bf] λxL=>lV (int u8 n::string s::slice a ae c::xL) λaw=>m'.le ad->
 List.get?Internal xs ay=some [agg (Array.mk aw)]->I [] [cs] [] ad ay->∀(b:Nat),lE (some (Box.mk b aw 54 8 false true)::au) λan=>chk (v.oneCell'&&true) (br (n == (3:Int)) (∃(R:RT),True/\CX
 Tryz.prog 68 (Array.mk (agg (Array.mk xL)::aq)) ad [Box.mk ao cs 75 6 false true] R/\ZbD (Shape.tup []) R/\∀(m':Mem),ad.le m'->∀(cs:List Value),R (tuple (Array.mk [])) m' [cs]->∃(aa:IT),inI aa
 [int i64 0] [cs] [] m'/\∀(n:Int)(cs:List Value)(ab:Mem)(af:Nat),lV [int i64 (i64.wrap (n+(1:Int)))] λxL=>m'.le ab->aa [int i64 n] [cs] [] ab af->br (decide (n < (↑ae:Int))) (atA a
 λb o=>Zad n ae/\∃v ac al am ag ah ai aj:Value,lV [am,ag,ah,ai,aj] λap=>lE (Za2 u8 v&&decide (u8 =
 u8)) λyL=>ab.reads b (o+Int.toNat n*8) (v::ac::al::ap)/\∀(b:Nat),chk (v.oneCell'&&(ac.oneCell'&&(al.oneCell'&&(am.oneCell'&&(ag.oneCell'&&(ah.oneCell'&&(ai.oneCell'&&(aj.oneCell'&&true)))))))) (chk yL (br (!RowKit.intOf v == (1:Int)) (Eng.ZrE cs 3 λak=>lV (Zay cs 3 [int i64 (i64.wrap (RowKit.intOf ak+(1:Int)))]) λax=>
 chk (Za2 i64 ak&&decide (i64=i64)) (chk (Nat.ble 4 (cs.length)) (chk yL (br (RowKit.intOf v == (4:Int)) (∃(R:RT),True/\CX Tryz.prog 68 (Array.mk (agg (Array.mk ap)::aq)) ab [Box.mk ao ax 75 6 false
 true] R/\ZbD (Shape.tup []) R/\∀(m':Mem),ab.le m'->∀(cs:List Value),R (tuple (Array.mk [])) m' [cs]->Zac an/\nxI af aa xL [cs] [] m') (Zac an/\nxI af aa xL [ax] [] ab))))) (chk yL (br
 (RowKit.intOf v == (4:Int)) (∃(R:RT),True/\CX Tryz.prog 68 (Array.mk (agg (Array.mk ap)::aq)) ab [Box.mk ao cs 75 6 false true] R/\ZbD (Shape.tup []) R/\∀(m':Mem),ab.le m'->∀(cs:List Value),R
 (tuple (Array.mk [])) m' [cs]->Zac an/\nxI af aa xL [cs] [] m') (Zac an/\nxI af aa xL [cs] [] ab)))))) (Zac au/\I [] [cs] [] ab (ay+1))) (∃(aa:IT),inI aa [int i64 0] [cs] [] ad/\∀(n:Int) (cs:
 List Value) (m':Mem) (af:Nat),lV [int i64 (i64.wrap (n+(1:Int)))] λxL=>ad.le m'->aa [int i64 n] [cs] [] m' af->br (decide (n < (↑ae:Int))) (atA a λb o=>Zad n ae/\∃v ac al am ag ah ai aj:Value,lV [am,ag,ah,ai,aj] λap=>lE (Za2 u8 v&&decide (u8=u8)) λyL=>m'.reads b (o+Int.toNat
 n*8) (v::ac::al::ap)/\∀(b:Nat),chk (v.oneCell'&&(ac.oneCell'&&(al.oneCell'&&(am.oneCell'&&(ag.oneCell'&&(ah.oneCell'&&(ai.oneCell'&&(aj.oneCell'
 && true)))))))) (chk yL (br (!RowKit.intOf v == (1:Int)) (Eng.ZrE cs 3 λak=>lV (Zay cs 3 [int i64 (i64.wrap (RowKit.intOf ak+(1:Int)))]) λax=>chk (Za2 i64 ak&&decide (i64=i64)) (chk
 (Nat.ble 4 (cs.length)) (chk yL (br (RowKit.intOf v == (4:Int)) (∃(R:RT),True/\CX Tryz.prog 68 (Array.mk (agg (Array.mk ap)::aq)) m' [Box.mk ao ax 75 6 false true] R/\ZbD (Shape.tup []) R/\∀(ab:Mem),
 m'.le ab->∀(cs:List Value),R (tuple (Array.mk [])) ab [cs]->Zac an/\nxI af aa xL [cs] [] ab) (Zac an/\nxI af aa xL [ax] [] m'))))) (chk yL (br (RowKit.intOf v == (4:Int)) (∃(R:RT),True/\CX
 Tryz.prog 68 (Array.mk (agg (Array.mk ap)::aq)) m' [Box.mk ao cs 75 6 false true] R/\ZbD (Shape.tup []) R/\∀(ab:Mem),m'.le ab->∀(cs:List Value),R (tuple (Array.mk [])) ab [cs]->Zac an/\nxI af aa
 xL [cs] [] ab) (Zac an/\nxI af aa xL [cs] [] m')))))) (Zac au/\I [] [cs] [] m' (ay+1)))))/\∀(cs:List Value)(ad:Mem),m'.le ad->I [] [cs] [] ad (xs.length)->chk (Nat.beq (cs.length) 6 &&
 Zd3 cs) (rtM m ad R (agg (Array.mk cs)))))):CX Tryz.prog 21 #[.agg #[.int .i64 aB,.slice bA aX bD,.slice aW aO aY]] m [] R:=
 Zae (E:=ZnU) Zav mix Tryz.func21 (by kernel_rfl) (Eq.mp (by kernel_rfl) h)
end Go.Proofs.YtpjepnkiiojgfaaGreat
namespace Go.Proofs.YtpjepnkiiojgfaaGreat
open Go Go.Eng Go.Rx Go.Proofs Go.RowKit
set_option maxRecDepth 100000
theorem Zxs(a b:Int):Value.int .i64 (IntKind.i64.wrap (RowKit.intOf (Value.int .i64 (w64 a))+b))=.int .i64 (w64 (a+b)):=by
 show Value.int .i64 (IntKind.i64.wrap (w64 a+b))=_
 rw[ZoD]
theorem Zkx(e:E)(m:Mem)(hr:RepE m e):CX Tryz.prog 69 #[e.v] m [] (Ret (.int .i64 (w64 (ZnC e)))):=by
 apply ZeD
 intro b m1 aH _ b2
 refine Zar (ZdF e m1 (hr.mono' aH)) λm2 aK=>?_
 have dq:=mLt aH aK
 refine Zab (λhl=>?_) (λhl=>Zaj dq (by show Value.int _ _=Value.int _ _;unfold ZnC;rw[hl,if_neg (by decide),W_0]))
 refine Zam (Zez e m2) (λv m' css h=>by obtain⟨_,rfl,_⟩:=h;rfl) ?_
 rintro g fi ca m3 aR ⟨b3,hv,eZ⟩
 obtain⟨rfl,rfl,rfl⟩:=Zb4 hv
 have dh:=mLt dq aR
 refine⟨_,Zdj e m3 b3 eZ (hr.mono' dh),λy hy=>?_,λ_ css _ m' q=>css=[[.int .i64 (w64 (ZmV ZvO (e.nodes.take q)))]]/\q<=e.nodes.length,⟨by rw[List.take_zero,Zrc,W_0],by omega⟩,?_,?_⟩
 ·obtain⟨z,_,rfl⟩:=List.mem_map.1 hy;exact Zjc z
 ·rintro n0 v0 s0 n3 a n7 c cs m4 q bU hq ⟨bE,fP⟩ b4
  obtain rfl:cs=[.int .i64 (w64 (ZmV ZvO (e.nodes.take q)))]:=by simpa using bE
  have hq':(List.map (λz:E=>[z.v]) e.nodes)[(q:Nat)]?=some [Value.agg #[.int .u8 n0,v0,.string s0,.int .i64 n3,.slice a n7 c]]:=hq
  rw[List.getElem?_map]at hq'
  obtain⟨z,hz,fT⟩:=Option.map_eq_some_iff.1 hq'
  have nq:q < e.nodes.length:=(zA0 hz).1
  simp only[E.v,List.cons.injEq,Value.agg.injEq,Array.mk.injEq,Value.int.injEq,Value.string.injEq,Value.slice.injEq,true_and,and_true]at fT
  obtain⟨rfl,rfl,rfl,rfl,rfl,rfl,rfl⟩:=fT
  have bO:=Zsc ZvO hz
  refine Zaa rfl (Zb3 (Zux z.k m4) λm5 cE=>Zab (λh=>Zah rfl (Zaa rfl ⟨rfl,?_,by omega⟩)) (λh=>⟨rfl,?_,by omega⟩))
  ·have h:ZvO z=true:=h
   rw[h,if_pos rfl]at bO
   rw[Zxs,bO]
  ·have h:ZvO z=false:=h
   rw[h,if_neg (by decide),Int.add_zero]at bO
   rw[bO]
 ·rintro cs m4 bU ⟨bE,_⟩
  rw[List.length_map,List.take_length]at bE
  obtain rfl:cs=[.int .i64 (w64 (ZmV ZvO e.nodes))]:=by simpa using bE
  refine Zah rfl (Zaj (mLt dh bU) ?_)
  show Value.int _ _=Value.int _ _
  unfold ZnC;rw[hl,if_pos rfl]
theorem Zo0(t:E)(m:Mem)(hr:RepE m t):CX Tryz.prog 70 #[t.v] m [] (Ret (.int .i64 (w64 (vrE t)))):=by
 apply ZmN
 intro b m1 aH _
 have hn:vrE t=(if ZwL t then 1 else 0)+ZmV ZwL (Zak t.subs):=by unfold vrE;rw[ZaZ,Zib]
 obtain⟨lr,aA⟩:=Zgw (hr.mono' aH)
 refine⟨ZwL t,Zab (λh=>⟨rfl,?_⟩) (λh=>⟨rfl,?_⟩),?_⟩
 ·have h:(t.k == 9)=true:=h
  show[Value.bool true]=[Value.bool (t.k == 9||t.k == 10)];rw[h];rfl
 ·have h:(t.k == 9)=false:=h
  show[Value.bool (t.k == 10)]=[Value.bool (t.k == 9||t.k == 10)];rw[h];rfl
 refine Zab (λh=>?_) (λh=>?_)
 ·refine⟨λxs _ _ m'' q=>∃i:Nat,i<=t.subs.length/\xs=[.int .i64 (w64 (1+ZmV ZwL (Zak (t.subs.take i)))),.int .i64 i]/\m1.le m''/\q=t.subs.length - i,⟨t.subs.length,0,by omega,?_,Mem.le_refl _,by omega⟩,?_⟩
  ·show[Value.int .i64 _,Value.int .i64 0]=[Value.int .i64 (w64 (1+0)),Value.int .i64 0]
   rw[show w64 (1+0)=w64 1 from rfl,show IntKind.i64.wrap (0+1)=w64 1 from rfl]
  rintro y n m2 q aK ⟨i,hi,bQ,dJ,hq⟩
  simp only[List.cons.injEq,Value.int.injEq,true_and,and_true]at bQ
  obtain⟨rfl,rfl⟩:=bQ
  refine Zat (λaC=>?_) (λbF=>?_)
  ·have aP:i < t.subs.length:=by have:(i:Int) < (t.subs.length:Nat):=aC;omega
   obtain⟨x,hx⟩:∃x,t.subs[i]?=some x:=⟨_,zA3 aP⟩
   have aZ:=Zho (zA2 hx)
   obtain h0|⟨b1,o1,ha,dR⟩:=aA
   ·rw[h0]at aP;simp at aP
   obtain⟨cQ,dA⟩:=(dR.mono' dJ).get hx
   refine⟨b1,o1,ha,⟨by omega,by omega⟩,_,_,_,_,_,cQ,λb2=>Zaa rfl (Zb3 (Zo0 x m2 dA) λm3 aR=>⟨rfl,t.subs.length - (i+1),by omega,i+1,by omega,?_,mLt dJ aR,rfl⟩)⟩
   rw[ZoD,ZtY,ZdV hx,ZoE,Zai (n:=(i:Int)+1) (by omega) (by omega),Int.add_assoc]
   rfl
  ·have hi':i=t.subs.length:=by have:¬(i:Int) < (t.subs.length:Nat):=bF;omega
   subst hi'
   refine Zaj (mLt aH dJ) ?_
   show Value.int _ _=Value.int _ _
   rw[hn,List.take_length,h,if_pos rfl]
 ·refine⟨λxs _ _ m'' q=>∃i:Nat,i<=t.subs.length/\xs=[.int .i64 (w64 (0+ZmV ZwL (Zak (t.subs.take i)))),.int .i64 i]/\m1.le m''/\q=t.subs.length - i,⟨t.subs.length,0,by omega,?_,Mem.le_refl _,by omega⟩,?_⟩
  ·show[Value.int .i64 _,Value.int .i64 0]=[Value.int .i64 (w64 (0+0)),Value.int .i64 0]
   rw[show(0:Int)+0=0 from rfl,W_0]
  rintro y n m2 q aK ⟨i,hi,bQ,dJ,hq⟩
  simp only[List.cons.injEq,Value.int.injEq,true_and,and_true]at bQ
  obtain⟨rfl,rfl⟩:=bQ
  refine Zat (λaC=>?_) (λbF=>?_)
  ·have aP:i < t.subs.length:=by have:(i:Int) < (t.subs.length:Nat):=aC;omega
   obtain⟨x,hx⟩:∃x,t.subs[i]?=some x:=⟨_,zA3 aP⟩
   have aZ:=Zho (zA2 hx)
   obtain h0|⟨b1,o1,ha,dR⟩:=aA
   ·rw[h0]at aP;simp at aP
   obtain⟨cQ,dA⟩:=(dR.mono' dJ).get hx
   refine⟨b1,o1,ha,⟨by omega,by omega⟩,_,_,_,_,_,cQ,λb2=>Zaa rfl (Zb3 (Zo0 x m2 dA) λm3 aR=>⟨rfl,t.subs.length - (i+1),by omega,i+1,by omega,?_,mLt dJ aR,rfl⟩)⟩
   rw[ZoD,ZtY,ZdV hx,ZoE,Zai (n:=(i:Int)+1) (by omega) (by omega),Int.add_assoc]
   rfl
  ·have hi':i=t.subs.length:=by have:¬(i:Int) < (t.subs.length:Nat):=bF;omega
   subst hi'
   refine Zaj (mLt aH dJ) ?_
   show Value.int _ _=Value.int _ _
   rw[hn,List.take_length,h,if_neg (by decide)]
termination_by SizeOf.sizeOf t
decreasing_by all_goals exact aZ
theorem ZgA(s:Sc)(m:Mem):CX Tryz.prog 71 #[s.v] m [] (λv m' _=>∃b,v=.func (.func 105) #[] #[.pointer (some ⟨b,0,none⟩)]/\m'.reads b 0 s.cs):=by
 apply Zg4
 intro b m' hm hb
 exact⟨m',hm,Mem.le_refl _,b,rfl,hb⟩
theorem Zfa(s:Sc)(m:Mem)(c0b:Nat)(hr:RepC m s)(hb:m.reads c0b 0 s.cs):IX Tryz.prog 105 [] [.pointer (some ⟨c0b,0,none⟩)] m ((ZdK s).map λa=>[.agg a.cs.toArray]):=by
 apply Zfp 0 [] [] c0b 0
 intro l
 have dS:s.states.length<=100000:=hr.len
 refine⟨.slice s.sa s.states.length s.sc,hb 2 _ rfl,Zaa rfl ⟨λxs _ _ m' q=>∃i:Nat,i<=s.states.length/\xs=[.int .i64 (((s.states.take i).flatMap Zma).length:Nat),.int .i64 i]/\q=s.states.length - i,⟨s.states.length,0,by omega,rfl,rfl⟩,?_⟩⟩
 rintro y n m1 q aH ⟨i,hi,hx,rfl⟩
 simp only[List.cons.injEq,Value.int.injEq,true_and,and_true]at hx
 obtain⟨rfl,rfl⟩:=hx
 have hw:IntKind.i64.wrap ((i:Int)+1)=((i+1:Nat):Int):=by rw[Zai (by omega) (by omega)];rfl
 refine Zat (λaC=>?_) (λbF=>.inl ?_)
 ·have aC:(i:Int) < (s.states.length:Nat):=aC
  obtain⟨x,hx⟩:=Zaw (show i < s.states.length by omega)
  have j8:=zA2 hx
  obtain⟨b1,o1,gu,cQ⟩:=Zal Sta.len (hr.mono aH).row hx (by omega)
  have bQ:=(hr.mono aH).all x j8
  have jy:x.rules.length<=100000:=bQ.len
  refine Zaa rfl ⟨b1,o1,gu,⟨by omega,aC⟩,_,_,cQ,λb2=>Zaa rfl (Zaa rfl ⟨λxs _ _ m' q=>∃k:Nat,k<=x.rules.length/\xs=[.int .i64 (((s.states.take i).flatMap Zma).length+((x.rules.take k).flatMap (·.acts)).length:Nat),.int .i64 k]/\q=x.rules.length - k,⟨x.rules.length,0,by omega,rfl,rfl⟩,?_⟩)⟩
  rintro y n2 m2 q2 aK ⟨k,hk,fN,rfl⟩
  simp only[List.cons.injEq,Value.int.injEq,true_and,and_true]at fN
  obtain⟨rfl,rfl⟩:=fN
  have gV:IntKind.i64.wrap ((k:Int)+1)=((k+1:Nat):Int):=by rw[Zai (by omega) (by omega)];rfl
  refine Zat (λcY=>?_) (λdg=>?_)
  ·have cY:(k:Int) < (x.rules.length:Nat):=cY
   obtain⟨r,dY⟩:=Zaw (show k < x.rules.length by omega)
   obtain⟨b3,o3,eu,eK⟩:=Zal Ru.len (bQ.mono aK).row dY (by omega)
   have dP:=(bQ.mono aK).all r (zA2 dY)
   have mh:r.acts.length<=100000:=dP.len
   refine Zaa rfl ⟨b3,o3,eu,⟨by omega,cY⟩,_,_,_,_,_,_,_,_,_,_,_,_,_,_,_,_,eK,λb4=>Zaa rfl (Zaa rfl ⟨λxs _ _ m' q=>∃j:Nat,j<=r.acts.length/\xs=[.int .i64 (((s.states.take i).flatMap Zma).length+(((x.rules.take k).flatMap (·.acts)).length+j):Nat),.int .i64 j]/\q=r.acts.length - j,⟨r.acts.length,0,by omega,rfl,rfl⟩,?_⟩)⟩
   rintro y n3 m3 q3 aR ⟨j,hj,jB,rfl⟩
   simp only[List.cons.injEq,Value.int.injEq,true_and,and_true]at jB
   obtain⟨rfl,rfl⟩:=jB
   have iW:IntKind.i64.wrap ((j:Int)+1)=((j+1:Nat):Int):=by rw[Zai (by omega) (by omega)];rfl
   refine Zat (λeB=>?_) (λfl=>?_)
   ·have eB:(j:Int) < (r.acts.length:Nat):=eB
    obtain⟨a,ha⟩:=Zaw (show j < r.acts.length by omega)
    obtain⟨b5,o5,lC,gD⟩:=Zal Ac.len (dP.mono aR).row ha (by omega)
    refine Zaa rfl ⟨b5,o5,lC,⟨by omega,eB⟩,_,_,_,_,_,_,_,_,gD,λb6=>Zaa rfl ⟨⟨rfl,Int.natCast_nonneg _,?_⟩,⟨rfl,r.acts.length - (j+1),by omega,j+1,by omega,by rw[iW];rfl,rfl⟩,.inr rfl⟩⟩
    show(List.map (λa:Ac=>[Value.agg a.cs.toArray]) (ZdK s))[((((s.states.take i).flatMap Zma).length+(((x.rules.take k).flatMap (·.acts)).length+j):Nat):Int).toNat]?=some [Value.agg a.cs.toArray]
    rw[zA8,List.getElem?_map,show(ZdK s)[_]?=some a from Zrd Zma hx (Zrd (·.acts) dY ha)];rfl
   ·have fl:¬(j:Int) < (r.acts.length:Nat):=fl
    have:j=r.acts.length:=by omega
    subst this
    refine⟨rfl,x.rules.length - (k+1),by omega,k+1,by omega,?_,rfl⟩
    rw[Zmb (·.acts) dY,zA1,gV]
  ·have dg:¬(k:Int) < (x.rules.length:Nat):=dg
   have:k=x.rules.length:=by omega
   subst this
   refine⟨s.states.length - (i+1),by omega,i+1,by omega,?_,rfl⟩
   rw[Zmb Zma hx,zA1,List.take_length,hw];rfl
 ·have bF:¬(i:Int) < (s.states.length:Nat):=bF
  have:i=s.states.length:=by omega
  subst this
  rw[List.take_length,List.length_map];rfl
theorem Zk3(e:E)(a b c d f g:Int)(c0b:Nat)(m:Mem)(hr:RepE m e):CX Tryz.prog 68 #[e.v,.pointer (some ⟨c0b,0,none⟩)] m [⟨c0b,msV a b c d (w64 f) (w64 g),75,6,false,true⟩] (λv _ css=>v=.tuple #[]/\css=[msV a b c d (w64 (f+ZnC e)) (w64 (g+vrE e))]):=by
 apply ZiE
 intro b1 m1 aH _
 refine⟨λ_ _ _=>Ret (.int .i64 (w64 (ZnC e))),_,rfl,Zkx e m1 (hr.mono' aH),(λv _ _ h=>by rw[show v=_ from h];rfl),?_⟩
 intro n m2 aK hv M gS eD
 obtain rfl:n=w64 (ZnC e):=by simpa using(show Value.int .i64 n=Value.int .i64 _ from hv)
 refine⟨λ_ _ _=>Ret (.int .i64 (w64 (vrE e))),_,rfl,Zo0 e M (hr.mono' (mLt aH gS)),(λv _ _ h=>by rw[show v=_ from h];rfl),?_⟩
 intro n2 m3 aR vo M2 fw gi
 obtain rfl:n2=w64 (vrE e):=by simpa using(show Value.int .i64 n2=Value.int .i64 _ from vo)
 refine⟨rfl,m,Mem.le_refl _,mLt aH (mLt gS fw),rfl,?_⟩
 rw[Zsb,Zsb,<-ZoD f,<-ZoD g]
 show[[_,_,_,_,Value.int .i64 (w64 (w64 f+ZnC e)),Value.int .i64 (w64 (w64 g+vrE e))]]=_
 rfl
set_option maxHeartbeats 1000000 in
theorem Zo1(s:Sc)(m:Mem)(hr:RepC m s):CX Tryz.prog 21 #[s.v] m [] (Ret (.agg (Zjk s).toArray)):=by
 apply ZmO
 intro b m1 aH _ b1 b2
 have dS:s.states.length<=100000:=hr.len
 refine Zar (ZcS s m1 (hr.mono aH)) λm2 aK=>?_
 have dq:=mLt aH aK
 refine Zab (λhl=>Zaj dq ?_) (λhl=>?_)
 ·have hl:s.light=false:=by simpa using hl
  show Value.agg _=Value.agg _
  unfold Zjk;rw[hl];rfl
 have hl:s.light=true:=by simpa using hl
 refine⟨λxs css _ m' q=>∃i:Nat,i<=s.states.length/\xs=[.int .i64 i]/\css=[msV s.states.length (w64 (ZaI ((s.states.take i).map ruS))) (w64 (ZaI ((s.states.take i).map rgS))) 0 0 0]/\q=s.states.length - i,⟨s.states.length,0,by omega,rfl,?_,rfl⟩,?_⟩
 ·show[_]=[msV _ (w64 0) (w64 0) 0 0 0]
  rw[W_0];rfl
 rintro z cs m3 q aR ⟨i,hi,hz,bE,rfl⟩
 obtain rfl:z=i:=by simpa using hz
 obtain rfl:=(List.cons.inj bE).1
 have dh:=mLt dq aR
 have gT:IntKind.i64.wrap ((i:Int)+1)=((i+1:Nat):Int):=by rw[Zai (by omega) (by omega)];rfl
 refine Zat (λaC=>?_) (λbF=>?_)
 ·have aC:(i:Int) < (s.states.length:Nat):=aC
  obtain⟨x,hx⟩:=Zaw (show i < s.states.length by omega)
  obtain⟨b3,o3,eu,cQ⟩:=Zal Sta.len (hr.mono dh).row hx (by omega)
  have bQ:=(hr.mono dh).all x (zA2 hx)
  have jy:x.rules.length<=100000:=bQ.len
  have g1:=ZaS ruS hx
  have g2:=ZaS rgS hx
  refine⟨b3,o3,eu,⟨by omega,aC⟩,_,_,cQ,λb4=>Zaa rfl (Zah rfl (Zaa rfl (Zaa rfl (Zaa rfl (Zaa rfl ?_)))))⟩
  refine⟨λxs css _ m' q=>∃k:Nat,k<=x.rules.length/\xs=[.int .i64 k]/\css=[msV s.states.length (w64 (ZaI ((s.states.take (i+1)).map ruS))) (w64 (ZaI ((s.states.take i).map rgS)+ZaI ((x.rules.take k).map rgR))) 0 0 0]/\q=x.rules.length - k,⟨x.rules.length,0,by omega,rfl,?_,rfl⟩,?_⟩
  ·show[_]=[msV _ _ (w64 (_+0)) 0 0 0]
   rw[g1,<-ZoD,Int.add_zero];rfl
  rintro z cs m4 q bU ⟨k,hk,hz,bE,rfl⟩
  obtain rfl:z=k:=by simpa using hz
  obtain rfl:=(List.cons.inj bE).1
  have gV:IntKind.i64.wrap ((k:Int)+1)=((k+1:Nat):Int):=by rw[Zai (by omega) (by omega)];rfl
  refine Zat (λcY=>?_) (λdg=>⟨rfl,s.states.length - (i+1),by omega,i+1,by omega,by rw[gT],?_,rfl⟩)
  ·have cY:(k:Int) < (x.rules.length:Nat):=cY
   obtain⟨r,dY⟩:=Zaw (show k < x.rules.length by omega)
   obtain⟨b5,o5,lC,eK⟩:=Zal Ru.len (bQ.mono bU).row dY (by omega)
   have dP:=(bQ.mono bU).all r (zA2 dY)
   have g3:=ZaS rgR dY
   refine Zaa rfl ⟨b5,o5,lC,⟨by omega,cY⟩,_,_,_,_,_,_,_,_,_,_,_,_,_,_,_,_,eK,λb6=>Zaa rfl (Zaa rfl (Zab (λh1=>?_) (λh1=>⟨rfl,x.rules.length - (k+1),by omega,k+1,by omega,by rw[gV],?_,rfl⟩)))⟩
   ·have h1':r.k=1:=by have h1:(r.k == (1:Int))=true:=h1;simpa using h1
    refine⟨λ_ _ _=>Ret (.int .i64 r.t.size),Zah rfl ⟨_,rfl,Zrm r.t m4 dP.t,(λv _ _ h=>by rw[show v=_ from h];rfl),?_⟩⟩
    intro n m5 cE hv
    obtain rfl:n=r.t.size:=by simpa using(show Value.int .i64 n=Value.int .i64 _ from hv)
    refine Zaa rfl (Zaa rfl λM hM _=>⟨rfl,x.rules.length - (k+1),by omega,k+1,by omega,by rw[gV],?_,rfl⟩)
    rw[g3,show rgR r=r.t.size from if_pos h1',<-Int.add_assoc,ZnB (ZaI ((s.states.take i).map rgS)+ZaI ((x.rules.take k).map rgR)) r.t.size]
    rfl
   ·have h1':¬r.k=1:=by have h1:(r.k == (1:Int))=false:=h1;simpa using h1
    rw[g3,show rgR r=0 from if_neg h1',Int.add_zero]
  ·have dg:¬(k:Int) < (x.rules.length:Nat):=dg
   have:k=x.rules.length:=by omega
   subst this
   rw[List.take_length,g2];rfl
 have bF:¬(i:Int) < (s.states.length:Nat):=bF
 have:i=s.states.length:=by omega
 subst this
 rw[List.take_length]
 intro b3
 refine Zam (ZgA s m3) (λv m' css h=>by obtain⟨_,rfl,_⟩:=h;rfl) ?_
 rintro g fi ca m4 bU ⟨b4,hv,ma⟩
 obtain⟨rfl,rfl,rfl⟩:=Zb4 hv
 have fx:=mLt dh bU
 refine⟨_,Zfa s m4 b4 (hr.mono fx) ma,λy hy=>?_,λ_ css _ m' q=>css=[msV s.states.length (w64 (ms1 s)) (w64 (ms2 s)) (w64 (ZaI (((ZdK s).take q).map paA))) (w64 (ZaI (((ZdK s).take q).map Zsd))) (w64 (ZaI (((ZdK s).take q).map vrA)))]/\q<=(ZdK s).length,⟨?_,by omega⟩,?_,?_⟩
 ·obtain⟨z,_,rfl⟩:=List.mem_map.1 hy;rfl
 ·show[_]=[msV _ _ _ (w64 0) (w64 0) (w64 0)]
  rw[W_0];rfl
 ·rintro k0 s0 pa pn pc ek ev es eg ea en ec cs m5 q cE hq ⟨bE,fP⟩ b6
  obtain rfl:=(List.cons.inj bE).1
  have hq':(List.map (λa:Ac=>[Value.agg a.cs.toArray]) (ZdK s))[(q:Nat)]?=some [Value.agg #[.int .u8 k0,.string s0,.slice pa pn pc,.int .u8 ek,ev,.string es,.int .i64 eg,.slice ea en ec]]:=hq
  rw[List.getElem?_map]at hq'
  obtain⟨a,ky,fT⟩:=Option.map_eq_some_iff.1 hq'
  have nq:q < (ZdK s).length:=(zA0 ky).1
  simp only[Ac.cs,List.cons.injEq,Value.agg.injEq,Array.mk.injEq,Value.int.injEq,Value.string.injEq,Value.slice.injEq,true_and,and_true]at fT
  obtain⟨rfl,rfl,⟨rfl,rfl,rfl⟩,rfl,rfl,rfl,rfl,rfl,rfl,rfl⟩:=fT
  have ii:=mLt fx cE
  have gD:=Zse hr (zA2 ky)
  have gL:a.parts.length<=100000:=gD.n
  generalize kM:ZaI (((ZdK s).take q).map paA)=P0
  generalize s4:ZaI (((ZdK s).take q).map Zsd)=O0
  generalize re:ZaI (((ZdK s).take q).map vrA)=V0
  refine Zaa rfl (Zab (λh3=>?_) (λh3=>?_))
  ·have h3':a.k=3:=by simpa using h3
   refine⟨_,trivial,Zk3 a.e s.states.length (w64 (ms1 s)) (w64 (ms2 s)) (w64 P0) O0 V0 _ m5 (gD.mono ii).e,(λv _ _ h=>by rw[h.1];rfl),λm6 eA cs hv=>?_⟩
   rw[hv.2]
   have ru:=mLt ii eA
   refine⟨λxs css _ m' q=>∃k:Nat,k<=a.parts.length/\xs=[.int .i64 k]/\css=[msV s.states.length (w64 (ms1 s)) (w64 (ms2 s)) (w64 (P0+ZaI ((a.parts.take k).map paP))) (w64 (O0+ZnC a.e+ZaI ((a.parts.take k).map ZqG))) (w64 (V0+vrE a.e+ZaI ((a.parts.take k).map vrP)))]/\q=a.parts.length - k,⟨a.parts.length,0,by omega,rfl,?_,rfl⟩,?_⟩
   ·show[_]=[msV _ _ _ (w64 (P0+0)) (w64 (O0+ZnC a.e+0)) (w64 (V0+vrE a.e+0))]
    simp only[Int.add_zero]
   rintro z cs m6 q eA ⟨k,hk,hz,bE,rfl⟩
   obtain rfl:z=k:=by simpa using hz
   obtain rfl:=(List.cons.inj bE).1
   have eW:=mLt ru eA
   have gV:IntKind.i64.wrap ((k:Int)+1)=((k+1:Nat):Int):=by rw[Zai (by omega) (by omega)];rfl
   refine Zat (λaC=>?_) (λbF=>⟨rfl,?_,by omega⟩)
   ·have aC:(k:Int) < (a.parts.length:Nat):=aC
    obtain⟨p,hp⟩:=Zaw (show k < a.parts.length by omega)
    obtain⟨b8,o8,lG,fS⟩:=Zal Pt.len (gD.mono eW).row hp (by omega)
    have jk:=(gD.mono eW).all p (zA2 hp)
    have g1:=ZaS paP hp
    have g2:=ZaS ZqG hp
    have g3:=ZaS vrP hp
    refine⟨b8,o8,lG,⟨by omega,aC⟩,_,_,_,_,_,_,_,_,fS,λb9=>Zaa rfl (Zaa rfl (Zab (λh1=>Zah rfl (Zaa rfl (Zaa rfl (Zaa rfl (Zab (λh4=>?_) (λh4=>?_)))))) (λh1=>Zaa rfl (Zab (λh4=>?_) (λh4=>?_)))))⟩
    ·have h1':¬p.k=1:=by have h1:(!(p.k == (1:Int)))=true:=h1;simpa using h1
     have h4':p.k=4:=by have h4:(p.k == (4:Int))=true:=h4;simpa using h4
     refine⟨_,trivial,Zk3 p.e s.states.length (w64 (ms1 s)) (w64 (ms2 s)) (IntKind.i64.wrap (RowKit.intOf (Value.int .i64 (w64 (P0+ZaI ((a.parts.take k).map paP))))+1)) _ _ _ m6 jk.e,(λv _ _ h=>by rw[h.1];rfl),λm7 ew cs hv=>⟨rfl,a.parts.length - (k+1),by omega,k+1,by omega,by rw[gV],?_,rfl⟩⟩
     rw[hv.2,g1,g2,g3,show paP p=1 from if_neg h1',show ZqG p=ZnC p.e from if_pos h4',show vrP p=vrE p.e from if_pos h4',<-Int.add_assoc,<-Int.add_assoc,<-Int.add_assoc,ZnB (P0+ZaI ((a.parts.take k).map paP)) 1]
     rfl
    ·have h1':¬p.k=1:=by have h1:(!(p.k == (1:Int)))=true:=h1;simpa using h1
     have h4':¬p.k=4:=by have h4:(p.k == (4:Int))=false:=h4;simpa using h4
     refine⟨rfl,a.parts.length - (k+1),by omega,k+1,by omega,by rw[gV],?_,rfl⟩
     rw[g1,g2,g3,show paP p=1 from if_neg h1',show ZqG p=0 from if_neg h4',show vrP p=0 from if_neg h4',Int.add_zero,Int.add_zero,<-Int.add_assoc,ZnB (P0+ZaI ((a.parts.take k).map paP)) 1]
     rfl
    ·have h1':p.k=1:=by have h1:(!(p.k == (1:Int)))=false:=h1;simpa using h1
     have h4':p.k=4:=by have h4:(p.k == (4:Int))=true:=h4;simpa using h4
     omega
    ·have h1':p.k=1:=by have h1:(!(p.k == (1:Int)))=false:=h1;simpa using h1
     have h4':¬p.k=4:=by have h4:(p.k == (4:Int))=false:=h4;simpa using h4
     refine⟨rfl,a.parts.length - (k+1),by omega,k+1,by omega,by rw[gV],?_,rfl⟩
     rw[g1,g2,g3,show paP p=0 from if_pos h1',show ZqG p=0 from if_neg h4',show vrP p=0 from if_neg h4',Int.add_zero,Int.add_zero,Int.add_zero]
   ·have bF:¬(k:Int) < (a.parts.length:Nat):=bF
    have:k=a.parts.length:=by omega
    subst this
    have e2:Zsd a=ZnC a.e+ZaI (a.parts.map ZqG):=by unfold Zsd;rw[if_pos h3']
    have e3:vrA a=vrE a.e+ZaI (a.parts.map vrP):=by unfold vrA;rw[if_pos h3']
    rw[List.take_length,ZaS paA ky,ZaS Zsd ky,ZaS vrA ky,kM,s4,re,e2,e3]
    rw[<-Int.add_assoc,<-Int.add_assoc]
    rfl
  ·have h3':¬a.k=3:=by simpa using h3
   refine⟨λxs css _ m' q=>∃k:Nat,k<=a.parts.length/\xs=[.int .i64 k]/\css=[msV s.states.length (w64 (ms1 s)) (w64 (ms2 s)) (w64 (P0+ZaI ((a.parts.take k).map paP))) (w64 (O0+ZaI ((a.parts.take k).map ZqG))) (w64 (V0+ZaI ((a.parts.take k).map vrP)))]/\q=a.parts.length - k,⟨a.parts.length,0,by omega,rfl,?_,rfl⟩,?_⟩
   ·show[_]=[msV _ _ _ (w64 (P0+0)) (w64 (O0+0)) (w64 (V0+0))]
    simp only[Int.add_zero]
   rintro z cs m6 q eA ⟨k,hk,hz,bE,rfl⟩
   obtain rfl:z=k:=by simpa using hz
   obtain rfl:=(List.cons.inj bE).1
   have eW:=mLt ii eA
   have gV:IntKind.i64.wrap ((k:Int)+1)=((k+1:Nat):Int):=by rw[Zai (by omega) (by omega)];rfl
   refine Zat (λaC=>?_) (λbF=>⟨rfl,?_,by omega⟩)
   ·have aC:(k:Int) < (a.parts.length:Nat):=aC
    obtain⟨p,hp⟩:=Zaw (show k < a.parts.length by omega)
    obtain⟨b8,o8,lG,fS⟩:=Zal Pt.len (gD.mono eW).row hp (by omega)
    have jk:=(gD.mono eW).all p (zA2 hp)
    have g1:=ZaS paP hp
    have g2:=ZaS ZqG hp
    have g3:=ZaS vrP hp
    refine⟨b8,o8,lG,⟨by omega,aC⟩,_,_,_,_,_,_,_,_,fS,λb9=>Zaa rfl (Zaa rfl (Zab (λh1=>Zah rfl (Zaa rfl (Zaa rfl (Zaa rfl (Zab (λh4=>?_) (λh4=>?_)))))) (λh1=>Zaa rfl (Zab (λh4=>?_) (λh4=>?_)))))⟩
    ·have h1':¬p.k=1:=by have h1:(!(p.k == (1:Int)))=true:=h1;simpa using h1
     have h4':p.k=4:=by have h4:(p.k == (4:Int))=true:=h4;simpa using h4
     refine⟨_,trivial,Zk3 p.e s.states.length (w64 (ms1 s)) (w64 (ms2 s)) (IntKind.i64.wrap (RowKit.intOf (Value.int .i64 (w64 (P0+ZaI ((a.parts.take k).map paP))))+1)) _ _ _ m6 jk.e,(λv _ _ h=>by rw[h.1];rfl),λm7 ew cs hv=>⟨rfl,a.parts.length - (k+1),by omega,k+1,by omega,by rw[gV],?_,rfl⟩⟩
     rw[hv.2,g1,g2,g3,show paP p=1 from if_neg h1',show ZqG p=ZnC p.e from if_pos h4',show vrP p=vrE p.e from if_pos h4',<-Int.add_assoc,<-Int.add_assoc,<-Int.add_assoc,ZnB (P0+ZaI ((a.parts.take k).map paP)) 1]
     rfl
    ·have h1':¬p.k=1:=by have h1:(!(p.k == (1:Int)))=true:=h1;simpa using h1
     have h4':¬p.k=4:=by have h4:(p.k == (4:Int))=false:=h4;simpa using h4
     refine⟨rfl,a.parts.length - (k+1),by omega,k+1,by omega,by rw[gV],?_,rfl⟩
     rw[g1,g2,g3,show paP p=1 from if_neg h1',show ZqG p=0 from if_neg h4',show vrP p=0 from if_neg h4',Int.add_zero,Int.add_zero,<-Int.add_assoc,ZnB (P0+ZaI ((a.parts.take k).map paP)) 1]
     rfl
    ·have h1':p.k=1:=by have h1:(!(p.k == (1:Int)))=false:=h1;simpa using h1
     have h4':p.k=4:=by have h4:(p.k == (4:Int))=true:=h4;simpa using h4
     omega
    ·have h1':p.k=1:=by have h1:(!(p.k == (1:Int)))=false:=h1;simpa using h1
     have h4':¬p.k=4:=by have h4:(p.k == (4:Int))=false:=h4;simpa using h4
     refine⟨rfl,a.parts.length - (k+1),by omega,k+1,by omega,by rw[gV],?_,rfl⟩
     rw[g1,g2,g3,show paP p=0 from if_pos h1',show ZqG p=0 from if_neg h4',show vrP p=0 from if_neg h4',Int.add_zero,Int.add_zero,Int.add_zero]
   ·have bF:¬(k:Int) < (a.parts.length:Nat):=bF
    have:k=a.parts.length:=by omega
    subst this
    have e2:Zsd a=ZaI (a.parts.map ZqG):=by unfold Zsd;rw[if_neg h3',Int.zero_add]
    have e3:vrA a=ZaI (a.parts.map vrP):=by unfold vrA;rw[if_neg h3',Int.zero_add]
    rw[List.take_length,ZaS paA ky,ZaS Zsd ky,ZaS vrA ky,kM,s4,re,e2,e3]
    rfl
 ·rintro cs m5 cE ⟨bE,_⟩
  rw[List.length_map,List.take_length]at bE
  obtain rfl:=(List.cons.inj bE).1
  refine Zaa rfl (Zaj (mLt fx cE) ?_)
  show Value.agg _=Value.agg _
  unfold Zjk;rw[hl,if_pos rfl];rfl
theorem NmSt.up{m mm mL:Mem}{v0:Value}{a:Option Addr}{c:Nat}{l:List ByteArray}(h:NmSt m v0 mm a c l)(bM:mm.le mL):NmSt m v0 mL a c l:=⟨h.row.mono bM,mLt h.base (Zjj bM),h.new⟩
theorem ZsM{a:Option Addr}{n c b:Nat}(h:Yn (.slice a n c) b):∃o e,a=some ⟨b,o,e⟩:=by
 cases a with
 | none=>simp[Yn,Tok.blk]at h
 | some q=>
  obtain⟨b',o,e⟩:=q
  obtain rfl:b'=b:=by simpa[Yn,Tok.blk]using h
  exact⟨o,e,rfl⟩
def ZxJ(v0:Value)(m:Mem)(l:List ByteArray):RTY:=λv m' css tvs=>∃a c,v=.tuple #[]/\css=[[.slice a l.length c]]/\tvs=[.slice a l.length c]/\rowRd m' a (ZbV l)/\(∀b,Yn (.slice a l.length c) b->Yn v0 b\/(m.free b/\m.k b=none))/\(l=[]->a=none)
theorem ZiF{v0 m l}:∀(v:Value)(m':Mem) (css:List (List Value)) (tvs:List Value),ZxJ v0 m l v m' css tvs->Shape.fits (.tup []) v=true:=λv _ _ _ ⟨_,_,h,_⟩=>by rw[h];rfl
theorem ZmP(l out:List ByteArray)(la:Option Addr)(lc:Nat)(a:Option Addr)(c c0b:Nat)(m:Mem)(hl:rowRd (m.off (Yn (.slice a out.length c))) la (ZbV l))(ho:rowRd m a (ZbV out))(di:out=[]->a=none)(hb:out.length+l.length<=100000):
  CXY Tryz.prog 108 #[.slice la l.length lc,.pointer (some ⟨c0b,0,none⟩)] m (Yn (.slice a out.length c)) [⟨c0b,[.slice a out.length c],80,1,false,true⟩] [⟨.slice a out.length c,1⟩] (ZxJ (.slice a out.length c) m (l.foldl Zed out)):=by
 apply Zg3
 refine⟨λxs css tvs mm q=>∃(i:Nat)(a':Option Addr)(c':Nat),i<=l.length/\xs=[.int .i64 i]/\css=[[.slice a' ((l.take i).foldl Zed out).length c']]/\tvs=[.slice none 0 0,.slice a' ((l.take i).foldl Zed out).length c']/\NmSt m (.slice a out.length c) mm a' c' ((l.take i).foldl Zed out)/\((l.take i).foldl Zed out=[]->a'=none)/\q=l.length - i,
  ⟨_,0,a,c,by omega,rfl,rfl,rfl,⟨ho,Mem.le_refl _,λb h=>.inl h⟩,di,rfl⟩,?_⟩
 rintro z cs a1 n1 c1 a2 n2 c2 mm q _ ⟨i,a',c',hi,hz,bE,bY,hS,hn,rfl⟩
 obtain rfl:z=i:=by simpa using hz
 simp only[List.cons.injEq,Value.slice.injEq,and_true]at bE bY
 obtain⟨⟨rfl,rfl,rfl⟩,rfl,rfl,rfl⟩:=bY
 subst bE
 have aE:=ZkX (l.take i) out
 rw[List.length_take]at aE
 have gT:IntKind.i64.wrap ((i:Int)+1)=((i+1:Nat):Int):=by rw[Zai (by omega) (by omega)];rfl
 refine Zat (λaC=>?_) (λbF=>⟨rfl,?_⟩)
 ·have aC:(i:Int) < (l.length:Nat):=aC
  obtain⟨s,hs⟩:=Zcz (show i < l.length by omega)
  have bO:=Zey Zed out hs
  obtain⟨b,o,ha,hv⟩:=Zwc (hl.mono (mLt hS.base (Mem.off_le _ _))) (show(ZbV l)[i]?=some (.string s) by unfold ZbV;rw[List.getElem?_map,hs];rfl)
  refine⟨b,o,ha,⟨by omega,aC⟩,_,hv,Zah rfl (Zar (ZfZ ((l.take i).foldl Zed out) a2 c2 s mm (by omega) hS.row) λm2 aK=>?_)⟩
  have s6:=hS.up aK
  refine Zab (λh=>Zah rfl (Zaa rfl λb3 fj=>Zaa rfl ?_)) (λh=>⟨rfl,rfl,?_⟩)
  ·have gy:((l.take i).foldl Zed out).any (λy=>eqS s y)=false:=by simpa using h
   have db:Zed ((l.take i).foldl Zed out) s=(l.take i).foldl Zed out++[s]:=ZvY gy
   rw[db]at bO
   have bM:m2.le (m2.add b3 [.string s]):=Mem.le_add fj _
   have s7:=s6.up bM
   refine⟨.inl rfl,ZbV ((l.take i).foldl Zed out),[.string s],by rw[ZdJ];exact(Nat.mul_one _).symm,rfl,s7.row,.inr ⟨b3,0,rfl,ZcR m2 b3 _⟩,λu hu=>?_,by show(((l.take i).foldl Zed out).length+1)*16<=_;omega,by show((l.take i).foldl Zed out).length+1<=_;omega,λa5 c5 m5 cE bH hT=>⟨rfl,rfl,l.length - (i+1),by omega,i+1,a5,c5,by omega,by rw[gT],?_,?_,?_,?_,rfl⟩⟩
   ·obtain rfl:u=.string s:=by simpa using hu
    rfl
   ·rw[bO,zA1];rfl
   ·rw[bO,zA1];rfl
   ·have e:((l.take i).foldl Zed out++[s]).length=((l.take i).foldl Zed out).length+1:=by rw[zA1];rfl
    rw[bO]
    refine s7.step (mLt (Mem.off_le _ _) cE) (by unfold ZbV at bH ⊢;rw[List.map_append];exact bH) λb' hb'=>?_
    obtain⟨oo,oe,hb'⟩:=ZsM hb'
    rcases hT.2 with h|⟨b6,o6,ha',h⟩
    ·rw[h]at hb';cases hb'
    ·rw[ha']at hb';cases hb'
     rcases h with h|⟨_,h2,h3⟩
     ·left
      have h:a2=a5:=h
      rw[h,ha'];simp[Yn,Tok.blk]
     ·exact .inr ⟨h2,h3⟩
   ·rw[bO];intro e;simp at e
  ·have gy:((l.take i).foldl Zed out).any (λy=>eqS s y)=true:=by simpa using h
   have db:Zed ((l.take i).foldl Zed out) s=(l.take i).foldl Zed out:=ZvZ gy
   rw[db]at bO
   exact⟨l.length - (i+1),by omega,i+1,a2,c2,by omega,by rw[gT],by rw[bO],by rw[bO],by rw[bO];exact s6,by rw[bO];exact hn,rfl⟩
 ·have bF:¬(i:Int) < (l.length:Nat):=bF
  have hi:i=l.length:=by omega
  subst hi
  rw[List.take_length]at hS hn ⊢
  exact⟨a2,c2,rfl,rfl,rfl,hS.row,hS.new,hn⟩
def ZwR(r:Ru):Value->Mem->List (List Value)->Prop:=λv m' _=>∃s:Sc,v=s.v/\RepC m' s/\s.light=ZgN r/\ZdK s=r.acts
theorem ZeE{r:Ru}:∀(v:Value)(m':Mem) (css:List (List Value)),ZwR r v m' css->Shape.fits (.agg [.int .i64,.slice,.slice]) v=true:=λv _ _ ⟨t,e,_⟩=>by rw[e];rfl
theorem Zqs(r:Ru)(m:Mem)(hr:RepR m r):CX Tryz.prog 75 #[.agg r.cs.toArray] m [] (ZwR r):=by
 apply Zqr
 intro b m1 aH _ b1 b2 ni b3 fj
 have h2:m1.le (m1.add b2 r.cs):=Mem.le_add ni _
 have h3:(m1.add b2 r.cs).le ((m1.add b2 r.cs).add b3 [.string ⟨#[]⟩,.slice (some ⟨b2,0,none⟩) 1 1]):=Mem.le_add fj _
 have s8:=mLt aH (mLt h2 h3)
 refine⟨_,s8,Mem.le_refl _,⟨0,none,0,[],some ⟨b3,0,none⟩,1,[⟨⟨#[]⟩,some ⟨b2,0,none⟩,1,[r]⟩]⟩,rfl,⟨by show I64 0;unfold I64;omega,by show 0<=few;omega,.inl rfl,by simp,by show 1<=few;unfold few;omega,Za1,λx hx=>?_,Nat.le_refl _,Nat.le_refl _⟩,?_,?_⟩
 ·simp only[List.mem_singleton]at hx
  subst hx
  have aA:rowRd (m1.add b2 r.cs) (some ⟨b2,0,none⟩) ([r].map Ru.cs).flatten:=by simpa using(Za1 (m:=m1) (b:=b2) (cs:=r.cs))
  exact⟨by show(ByteArray.mk #[]).size<=_;decide,by show 1<=few;unfold few;omega,aA.mono h3,λp hp=>by
   simp only[List.mem_singleton]at hp;subst hp;exact hr.mono s8⟩
 ·unfold Sc.light Sc.weight ZgN
  simp only[List.length_nil,List.length_singleton,List.map_cons,List.map_nil,ZaI,wS]
  congr 1
  refine propext ?_
  constructor <;> intro h <;> simp only[Int.add_zero]at h ⊢ <;> omega
 ·simp[ZdK,Zma]
theorem Zo2(e:E){M0 mm:Mem}{v0:Value}{a:Option Addr}{c:Nat}{o:List ByteArray}(hS:NmSt M0 v0 mm a c o)(hn:o=[]->a=none)(he:RepE (M0.off (Yn v0)) e):
  CX Tryz.prog 109 #[e.v] mm [] (λv m' _=>∃a1 c1,v=.slice a1 e.vars.length c1/\∃m1:Mem,m1.le m'/\rowRd (m1.off (Yn (.slice a o.length c))) a1 (ZbV e.vars)):=by
 refine((ZsB e (mm.off (Yn (.slice a o.length c))) (RepE.mono' he hS.base)).frame2 (Mem.off_le _ _)).mono ?_
 rintro v m' css _ ⟨m1,h1,h2,h3,a1,c1,hv,aA⟩
 refine⟨a1,c1,hv,m1,h2,?_⟩
 rcases aA with h|⟨b,oo,ha,h⟩
 ·exact .inl h
 ·refine .inr ⟨b,oo,ha,λj u hj=>?_⟩
  by_cases hY:Yn (.slice a o.length c) b
  ·exfalso
   obtain⟨o2,e2,fK⟩:=ZsM hY
   have ho:o≠[]:=λe=>by rw[hn e]at fK;cases fK
   rcases hS.row with h4|⟨b4,o4,jz,h4⟩
   ·have:=congrArg List.length h4
    rw[ZdJ]at this
    exact ho (List.eq_nil_of_length_eq_zero (by simpa using this))
   ·rw[fK]at jz;cases jz
    have aC:0 < (ZbV o).length:=by rw[ZdJ];exact List.length_pos_iff.2 ho
    have h5:=h3 _ _ _ (h4 0 _ (zA3 aC)) (oo+j)
    have h6:(mm.off (Yn (.slice a o.length c))) b (oo+j)=none:=Mem.off_free hY _
    rw[h6]at h5
    have h7:=h j u hj
    rw[h5]at h7;cases h7
  ·rw[Mem.off_at hY];exact h j u hj
theorem Zxt(m:Mem):NmSt m (.slice none 0 0) m none 0 []:=⟨.inl rfl,Mem.le_refl _,λb h=>.inl h⟩
theorem NmSt.put{M0 mm m':Mem}{v0:Value}{a a':Option Addr}{c c':Nat}{o l:List ByteArray}(h:NmSt M0 v0 mm a c o)(bM:(mm.off (Yn (.slice a o.length c))).le m')(hr:rowRd m' a' (ZbV l))(hn:∀b,Yn (.slice a' l.length c') b->Yn (.slice a o.length c) b\/(mm.free b/\mm.k b=none)):NmSt M0 v0 m' a' c' l:=h.step bM hr hn
theorem NmSt.low{m mm:Mem}{a:Option Addr}{c:Nat}{l:List ByteArray}(h:NmSt m (.slice none 0 0) mm a c l):m.le mm:=by
 have hY:∀b,¬Yn (.slice none 0 0) b:=λb hb=>by simp[Yn,Tok.blk]at hb
 have fh:m.le (m.off (Yn (.slice none 0 0))):=⟨λb o v hv=>by rw[Mem.off_at (hY b)];exact hv,λb e he=>by rw[Mem.off_k (hY b)];exact he⟩
 exact mLt fh (mLt h.base (Mem.off_le _ _))
theorem Zrv(m:Mem):m.le (m.off (Yn (.slice none 0 0))):=Zl7 (Mem.le_refl m) λb hb=>by simp[Yn,Tok.blk]at hb
theorem ZuB{M0 mm:Mem}{v0:Value}{a:Option Addr}{c b:Nat}{o:List ByteArray}(hS:NmSt M0 v0 mm a c o)(hn:o=[]->a=none)(hf:mm.free b):¬Yn (.slice a o.length c) b:=λhY=>by
 obtain⟨o2,e2,fK⟩:=ZsM hY
 have ho:o≠[]:=λe=>by rw[hn e]at fK;cases fK
 rcases hS.row with h4|⟨b4,o4,jz,h4⟩
 ·have:=congrArg List.length h4
  rw[ZdJ]at this
  exact ho (List.eq_nil_of_length_eq_zero (by simpa using this))
 ·rw[fK]at jz;cases jz
  have aC:0 < (ZbV o).length:=by rw[ZdJ];exact List.length_pos_iff.2 ho
  have:=h4 0 _ (zA3 aC)
  rw[hf]at this;cases this
theorem ZmQ{cs:List Value}{a7:Option Addr}{c7 d7:Nat}{v0:Value}{m m7:Mem}{l:List ByteArray}{v:Value}(h:ZxJ v0 m l v m7 [cs] [.slice a7 c7 d7]):c7=l.length/\cs=[.slice a7 l.length d7]/\rowRd m7 a7 (ZbV l)/\(∀b,Yn (.slice a7 l.length d7) b->Yn v0 b\/(m.free b/\m.k b=none))/\(l=[]->a7=none):=by
 obtain⟨a8,c8,_,bE,bY,aA,bB,di⟩:=h
 simp only[List.cons.injEq,Value.slice.injEq,and_true]at bE bY
 obtain⟨rfl,rfl,rfl⟩:=bY
 exact⟨rfl,bE,aA,bB,di⟩
theorem Zrw(r:Ru)(w:Bool)(m:Mem)(hr:RepR m r):CX Tryz.prog 74 #[.agg r.cs.toArray,.bool w] m [] (Zs6 (Zp7 w r)):=by
 have mh:r.acts.length<=100000:=hr.len
 apply ZmI
 intro b m1 aH lF e7 _ b1 m2 aK _ _ _
 have dq:=mLt aH aK
 refine⟨_,trivial,Zqs r m2 (hr.mono dq),ZeE,?_⟩
 rintro n a n1 c a1 n2 c1 m3 aR ⟨s,hv,hs,dS,nk⟩
 rw[hv]
 have dh:=mLt dq aR
 refine Zar (ZcS s m3 hs) λm4 bU=>Zab (λh=>Zaj (mLt dh bU) ?_) (λh=>?_)
 ·have hl:ZgN r=false:=by rw[<-dS];simpa using h
  unfold Zp7
  rw[hl]
  exact⟨none,0,rfl,.inl rfl⟩
 have hl:ZgN r=true:=by rw[<-dS];simpa using h
 have fx:=mLt dh bU
 intro b3 b4
 refine⟨_,trivial,Zqs r m4 (hr.mono fx),ZeE,?_⟩
 rintro n' a' n1' c' a1' n2' c1' m5 cE ⟨s',hv',hs',rv,lH⟩
 rw[hv']
 have ii:=mLt fx cE
 refine Zam (ZgA s' m5) (λv m' css h=>by obtain⟨_,rfl,_⟩:=h;rfl) ?_
 rintro g fi ca m6 eA ⟨b5,eO,rx⟩
 obtain⟨rfl,rfl,rfl⟩:=Zb4 eO
 have eW:=mLt ii eA
 have nT:=Zfa s' m6 b5 (hs'.mono eA) rx
 rw[lH]at nT
 have ry:=hr.mono eW
 refine⟨m6,Mem.le_refl _,_,nT,λy hy=>?_,λ_ css tvs mm q=>∃(a:Option Addr)(c:Nat),q<=r.acts.length/\css=[[.slice a ((r.acts.take q).foldl (Ze6 w) []).length c]]/\tvs=[.slice a ((r.acts.take q).foldl (Ze6 w) []).length c]/\NmSt m6 (.slice none 0 0) mm a c ((r.acts.take q).foldl (Ze6 w) [])/\((r.acts.take q).foldl (Ze6 w) []=[]->a=none),⟨none,0,by omega,rfl,rfl,Zxt m6,λ_=>rfl⟩,?_,?_⟩
 ·obtain⟨z,_,rfl⟩:=List.mem_map.1 hy;rfl
 ·rintro k0 s0 pa pn pc k1 x1 s1 g1 sa sn sc cs ta tn tc mm q im hq ⟨a',c',fP,bE,bY,hS,hn⟩ b6
  simp only[List.cons.injEq,Value.slice.injEq,and_true]at bE bY
  obtain⟨rfl,rfl,rfl⟩:=bY
  subst bE
  have hq':(List.map (λa:Ac=>[Value.agg a.cs.toArray]) r.acts)[(q:Nat)]?=some [Value.agg #[.int .u8 k0,.string s0,.slice pa pn pc,.int .u8 k1,x1,.string s1,.int .i64 g1,.slice sa sn sc]]:=hq
  rw[List.getElem?_map]at hq'
  obtain⟨x,hx,nU⟩:=Option.map_eq_some_iff.1 hq'
  have nq:=(zA0 hx).1
  simp only[Ac.cs,List.cons.injEq,Value.agg.injEq,Array.mk.injEq,Value.int.injEq,Value.string.injEq,Value.slice.injEq,true_and,and_true]at nU
  obtain⟨rfl,rfl,⟨rfl,rfl,rfl⟩,rfl,rfl,rfl,rfl,rfl,rfl,rfl⟩:=nU
  have bO:=Zey (Ze6 w) [] hx
  have s9:=Zt6 w hl q hx
  have cQ:=ry.all x (zA2 hx)
  have wy:=Zq4 x
  have gL:x.parts.length<=100000:=cQ.n
  obtain⟨o,ho⟩:∃o,o=(r.acts.take q).foldl (Ze6 w) []:=⟨_,rfl⟩
  rw[<-ho]at hS hn bO s9 ⊢
  have gU:Ze6 w o x=o->NmSt m6 (.slice none 0 0) mm ta tc o/\((r.acts.take (q+1)).foldl (Ze6 w) []=o):=λh=>⟨hS,by rw[bO,h]⟩
  refine Zaa rfl ?_
  cases w with
  | true=>
   refine Zs5 rfl ⟨x.k == 2||x.k == 3,Zab (λh=>⟨rfl,rfl,by rw[h];rfl⟩) (λh=>⟨rfl,rfl,by rw[h];rfl⟩),Zab (λh b7 j9=>?_) (λh=>?_)⟩
   ·have hu:Ze6 true o x=Zed o x.s:=by
     unfold Ze6;rw[if_pos rfl,if_pos (by simpa using h)]
    have pr:=hS.up (Mem.le_add j9 [.string x.s])
    have rz:=ZuB hS hn j9
    refine⟨_,_,ZmP [x.s] o (some ⟨b7,0,none⟩) 1 ta tc b3 (mm.add b7 [.string x.s]) ?_ pr.row hn (by simp;omega),λt ht bb dk=>?_,λbb dk=>.inl ⟨_,by simp,dk⟩,ZiF,?_⟩
    ·refine .inr ⟨b7,0,rfl,λj v hj=>?_⟩
     rw[Mem.off_at rz]
     exact ZcR mm b7 _ j v hj
    ·obtain rfl:t=_:=by simpa using ht
     exact dk
    ·rintro m7 ew _ cs7 a7 c7 d7 hp
     obtain⟨rfl,rfl,aA,bB,di⟩:=ZmQ hp
     have hS':=pr.step ew aA bB
     rw[show[x.s].foldl Zed o=Zed o x.s from rfl,<-hu,<-bO]at hS' di ⊢
     exact⟨hS'.low,rfl,a7,d7,by omega,rfl,rfl,hS',di⟩
   ·have hu:Ze6 true o x=o:=by
     unfold Ze6;rw[if_pos rfl,if_neg (by simpa using h)]
    have:=gU hu
    exact⟨im,rfl,ta,tc,by omega,by rw[this.2],by rw[this.2],by rw[this.2];exact hS,by rw[this.2];exact hn⟩
  | false=>
   have hu:Ze6 false o x=x.parts.foldl ZcB (ZbZ o x):=by unfold Ze6;rw[if_neg (by decide)]
   have gq:=ZoI x.e
   refine Zmm rfl ⟨λ_ css tvs mm'=>∃(a:Option Addr)(c:Nat),css=[[.slice a (ZbZ o x).length c]]/\tvs=[.slice a (ZbZ o x).length c]/\NmSt m6 (.slice none 0 0) mm' a c (ZbZ o x)/\(ZbZ o x=[]->a=none),Zab (λh=>?_) (λh=>?_),?_⟩
   ·have hk:ZbZ o x=x.e.vars.foldl Zed o:=by unfold ZbZ;rw[if_pos (by simpa using h)]
    refine⟨λ_ _ _=>_,_,rfl,Zo2 x.e hS hn (RepE.mono' cQ.e (Zrv m6)),(λv _ _ ⟨_,_,e,_⟩=>by rw[e];rfl),?_⟩
    rintro a8 n8 c8 m8 dG ⟨a9,c9,kq,m9,fI,iX⟩ M hM pt
    simp only[Value.slice.injEq]at kq
    obtain⟨rfl,rfl,rfl⟩:=kq
    have nV:=hS.up hM
    refine⟨_,_,ZmP x.e.vars o a8 c8 ta tc b3 M (iX.mono (Zjj (mLt fI pt))) nV.row hn (by omega),λt ht bb dk=>?_,λbb dk=>.inl ⟨_,by simp,dk⟩,ZiF,?_⟩
    ·obtain rfl:t=_:=by simpa using ht
     exact dk
    ·rintro m7 ew _ cs7 a7 c7 d7 hp
     obtain⟨rfl,rfl,aA,bB,di⟩:=ZmQ hp
     have hS':=nV.step ew aA bB
     rw[<-hk]at hS' di ⊢
     exact⟨rfl,rfl,a7,d7,rfl,rfl,hS',di⟩
   ·have hk:ZbZ o x=o:=by unfold ZbZ;rw[if_neg (by simpa using h)]
    exact⟨rfl,rfl,ta,tc,by rw[hk],by rw[hk],by rw[hk];exact hS,by rw[hk];exact hn⟩
   rintro cs ja jn jc m7 _ ⟨a',c',bE,bY,pr,vp⟩
   simp only[List.cons.injEq,Value.slice.injEq,and_true]at bE bY
   obtain⟨rfl,rfl,rfl⟩:=bY
   subst bE
   refine⟨λxs css tvs mm' q=>∃(j:Nat)(a:Option Addr)(c:Nat),j<=x.parts.length/\xs=[.int .i64 j]/\css=[[.slice a ((x.parts.take j).foldl ZcB (ZbZ o x)).length c]]/\tvs=[.slice a ((x.parts.take j).foldl ZcB (ZbZ o x)).length c]/\NmSt m6 (.slice none 0 0) mm' a c ((x.parts.take j).foldl ZcB (ZbZ o x))/\((x.parts.take j).foldl ZcB (ZbZ o x)=[]->a=none)/\q=x.parts.length - j,⟨_,0,ja,jc,by omega,rfl,rfl,rfl,pr,vp,rfl⟩,?_⟩
   rintro z cs a1 n1 c1 m8 q2 _ ⟨j,a',c',hj,hz,bE,bY,je,io,rfl⟩
   obtain rfl:z=j:=by simpa using hz
   simp only[List.cons.injEq,Value.slice.injEq,and_true]at bE bY
   obtain⟨rfl,rfl,rfl⟩:=bY
   subst bE
   have iW:IntKind.i64.wrap ((j:Int)+1)=((j+1:Nat):Int):=by rw[Zai (by omega) (by omega)];rfl
   have vq:=Zgy o x j
   refine Zat (λaC=>?_) (λbF=>?_)
   ·have aC:(j:Int) < (x.parts.length:Nat):=aC
    obtain⟨p,hp⟩:=Zcz (show j < x.parts.length by omega)
    have pu:=cQ.mono je.low
    obtain⟨b8,o8,lG,lI⟩:=Zal Pt.len pu.row hp (by omega)
    have fS:=cQ.all p (zA2 hp)
    have eC:=Zey ZcB (ZbZ o x) hp
    have vr:=Zgy o x (j+1)
    have mj:=ZoI p.e
    obtain⟨o',ho'⟩:∃o',o'=(x.parts.take j).foldl ZcB (ZbZ o x):=⟨_,rfl⟩
    rw[<-ho']at je io eC vq ⊢
    refine⟨b8,o8,lG,⟨by omega,aC⟩,_,_,_,_,_,_,_,_,lI,λb9=>Zaa rfl (Zaa rfl (Zab (λh=>Zaa rfl λb10 fJ=>?_) (λh=>Zaa rfl (Zab (λh2=>?_) (λh2=>?_)))))⟩
    ·have h:(p.k == 2)=true:=h
     have hk:ZcB o' p=Zed o' p.s:=by unfold ZcB;rw[if_pos (by simpa using h)]
     have nW:=je.up (Mem.le_add fJ [.string p.s])
     have rz:=ZuB je io fJ
     refine⟨_,_,ZmP [p.s] o' (some ⟨b10,0,none⟩) 1 a1 c1 b3 (m8.add b10 [.string p.s]) ?_ nW.row io (by simp;omega),λt ht bb dk=>?_,λbb dk=>.inl ⟨_,by simp,dk⟩,ZiF,?_⟩
     ·refine .inr ⟨b10,0,rfl,λj v hj=>?_⟩
      rw[Mem.off_at rz]
      exact ZcR m8 b10 _ j v hj
     ·obtain rfl:t=_:=by simpa using ht
      exact dk
     ·rintro m9 fI _ cs9 a9 c9 d9 rA
      obtain⟨rfl,rfl,aA,bB,di⟩:=ZmQ rA
      have hS':=nW.step fI aA bB
      rw[show[p.s].foldl Zed o'=Zed o' p.s from rfl,<-hk,<-eC]at hS' di ⊢
      exact⟨rfl,rfl,x.parts.length - (j+1),by omega,j+1,a9,d9,by omega,by rw[iW],rfl,rfl,hS',di,rfl⟩
    ·have h:(p.k == 2)=false:=h
     have h2:(p.k == 4)=true:=h2
     have hk:ZcB o' p=p.e.vars.foldl Zed o':=by unfold ZcB;rw[if_neg (by simpa using h),if_pos (by simpa using h2)]
     refine⟨λ_ _ _=>_,_,rfl,Zo2 p.e je io (RepE.mono' fS.e (Zrv m6)),(λv _ _ ⟨_,_,e,_⟩=>by rw[e];rfl),?_⟩
     rintro a10 n10 c10 m10 fm ⟨a9,c9,kq,m9,fI,iX⟩ M hM nX
     simp only[Value.slice.injEq]at kq
     obtain⟨rfl,rfl,rfl⟩:=kq
     have nV:=je.up hM
     refine⟨_,_,ZmP p.e.vars o' a10 c10 a1 c1 b3 M (iX.mono (Zjj (mLt fI nX))) nV.row io (by omega),λt ht bb dk=>?_,λbb dk=>.inl ⟨_,by simp,dk⟩,ZiF,?_⟩
     ·obtain rfl:t=_:=by simpa using ht
      exact dk
     ·rintro m11 ij _ cs9 a9 c9 d9 rA
      obtain⟨rfl,rfl,aA,bB,di⟩:=ZmQ rA
      have hS':=nV.step ij aA bB
      rw[<-hk,<-eC]at hS' di ⊢
      exact⟨rfl,rfl,x.parts.length - (j+1),by omega,j+1,a9,d9,by omega,by rw[iW],rfl,rfl,hS',di,rfl⟩
    ·have h:(p.k == 2)=false:=h
     have h2:(p.k == 4)=false:=h2
     have hk:ZcB o' p=o':=by unfold ZcB;rw[if_neg (by simpa using h),if_neg (by simpa using h2)]
     rw[hk]at eC
     exact⟨rfl,rfl,x.parts.length - (j+1),by omega,j+1,a1,c1,by omega,by rw[iW],by rw[eC],by rw[eC],by rw[eC];exact je,by rw[eC];exact io,rfl⟩
   ·have bF:¬(j:Int) < (x.parts.length:Nat):=bF
    have hj:j=x.parts.length:=by omega
    subst hj
    rw[List.take_length,<-hu,<-bO]at je io ⊢
    exact⟨je.low,rfl,a1,c1,by omega,rfl,rfl,je,io⟩
 ·rintro cs a7 n7 c7 m7 ew ⟨a',c',_,bE,bY,hS,hn⟩
  rw[List.length_map,List.take_length]at bE bY hS
  simp only[List.cons.injEq,Value.slice.injEq,and_true]at bE bY
  obtain⟨rfl,rfl,rfl⟩:=bY
  subst bE
  refine Zah rfl (ZaA (mLt eW ew) ?_)
  unfold Zp7
  rw[hl,if_pos rfl]
  exact⟨a7,c7,rfl,hS.row⟩
theorem ZsN(r:Ru)(m:Mem)(hr:RepR m r):CX Tryz.prog 27 #[.agg r.cs.toArray] m [] (Zs6 (Zp7 false r)):=by
 apply Zku
 intro b m0 dN _
 refine Zam (Zrw r false m0 (hr.mono dN)) Zgd ?_
 rintro a n c m1 aH ⟨a',c',hv,aA⟩
 exact ZaA (mLt dN aH) ⟨a',c',hv,aA⟩
theorem Zqt(r:Ru)(m:Mem)(hr:RepR m r):CX Tryz.prog 28 #[.agg r.cs.toArray] m [] (Zs6 (Zp7 true r)):=by
 apply ZiC
 intro b m0 dN _
 refine Zam (Zrw r true m0 (hr.mono dN)) Zgd ?_
 rintro a n c m1 aH ⟨a',c',hv,aA⟩
 exact ZaA (mLt dN aH) ⟨a',c',hv,aA⟩
theorem ZuC(r:Ru)(m:Mem)(hr:RepR m r):CX Tryz.prog 30 #[.agg r.cs.toArray] m [] (Ret (.int .i64 (Zt7 r))):=by
 have mh:r.acts.length<=100000:=hr.len
 apply ZmK
 intro b m2 dq _
 refine⟨_,trivial,Zqs r m2 (hr.mono dq),ZeE,?_⟩
 rintro n a n1 c a1 n2 c1 m3 aR ⟨s,hv,hs,dS,nk⟩
 rw[hv]
 have dh:=mLt dq aR
 refine Zar (ZcS s m3 hs) λm4 bU=>Zab (λh=>Zaj (mLt dh bU) ?_) (λh=>?_)
 ·have hl:ZgN r=false:=by rw[<-dS];simpa using h
  show Value.int _ _=Value.int _ _
  unfold Zt7
  rw[hl];rfl
 have hl:ZgN r=true:=by rw[<-dS];simpa using h
 have fx:=mLt dh bU
 intro b3
 refine⟨_,trivial,Zqs r m4 (hr.mono fx),ZeE,?_⟩
 rintro n' a' n1' c' a1' n2' c1' m5 cE ⟨s',hv',hs',rv,lH⟩
 rw[hv']
 have ii:=mLt fx cE
 refine Zam (ZgA s' m5) (λv m' css h=>by obtain⟨_,rfl,_⟩:=h;rfl) ?_
 rintro g fi ca m6 eA ⟨b5,eO,rx⟩
 obtain⟨rfl,rfl,rfl⟩:=Zb4 eO
 have eW:=mLt ii eA
 have nT:=Zfa s' m6 b5 (hs'.mono eA) rx
 rw[lH]at nT
 have ry:=hr.mono eW
 refine⟨_,nT,λy hy=>?_,λ_ css tvs mm q=>q<=r.acts.length/\css=[[.int .i64 ((r.acts.take q).foldl Zs4 (-1))]],⟨by omega,rfl⟩,?_,?_⟩
 ·obtain⟨z,_,rfl⟩:=List.mem_map.1 hy;rfl
 ·rintro k0 s0 pa pn pc k1 x1 s1 g1 sa sn sc cs mm q im hq ⟨fP,bE⟩ b6
  obtain rfl:cs=_:=by simpa using bE
  have hq':(List.map (λa:Ac=>[Value.agg a.cs.toArray]) r.acts)[(q:Nat)]?=some [Value.agg #[.int .u8 k0,.string s0,.slice pa pn pc,.int .u8 k1,x1,.string s1,.int .i64 g1,.slice sa sn sc]]:=hq
  rw[List.getElem?_map]at hq'
  obtain⟨x,hx,nU⟩:=Option.map_eq_some_iff.1 hq'
  have nq:=(zA0 hx).1
  simp only[Ac.cs,List.cons.injEq,Value.agg.injEq,Array.mk.injEq,Value.int.injEq,Value.string.injEq,Value.slice.injEq,true_and,and_true]at nU
  obtain⟨rfl,rfl,⟨rfl,rfl,rfl⟩,rfl,rfl,rfl,rfl,rfl,rfl,rfl⟩:=nU
  have bO:=Zey Zs4 (-1) hx
  have cQ:=ry.all x (zA2 hx)
  have gL:x.parts.length<=100000:=cQ.n
  generalize (r.acts.take q).foldl Zs4 (-1)=o at bO ⊢
  have hu:Zs4 o x=x.parts.foldl ZkH (if x.k=3 then mxI o x.e.most else o):=rfl
  refine Zaa rfl ⟨λ_ css _ mm'=>m6.le mm'/\css=[[.int .i64 (if x.k=3 then mxI o x.e.most else o)]],Zab (λh=>?_) (λh=>?_),?_⟩
  ·have h:x.k=3:=by simpa using h
   refine⟨λ_ _ _=>_,Zah rfl ⟨_,rfl,ZoW x.e mm (RepE.mono' cQ.e im),(λv _ _ h=>by rw[show v=_ from h];rfl),?_⟩⟩
   intro n8 m8 dG vt
   obtain rfl:n8=_:=by simpa using(show Value.int .i64 n8=Value.int .i64 _ from vt)
   refine Zaa rfl λM hM pt=>⟨rfl,mLt im hM,?_⟩
   rw[if_pos h];rfl
  ·have h:¬x.k=3:=by simpa using h
   exact⟨rfl,im,by rw[if_neg h]⟩
  rintro cs m7 _ ⟨ew,bE⟩
  obtain rfl:cs=_:=by simpa using bE
  generalize (if x.k=3 then mxI o x.e.most else o)=o1 at hu ⊢
  refine⟨λxs css _ mm' q=>∃j:Nat,j<=x.parts.length/\xs=[.int .i64 j]/\css=[[.int .i64 ((x.parts.take j).foldl ZkH o1)]]/\q=x.parts.length - j,⟨_,0,by omega,rfl,rfl,rfl⟩,?_⟩
  rintro z cs m8 q2 dG ⟨j,hj,hz,bE,rfl⟩
  obtain rfl:z=j:=by simpa using hz
  obtain rfl:cs=_:=by simpa using bE
  have iW:IntKind.i64.wrap ((j:Int)+1)=((j+1:Nat):Int):=by rw[Zai (by omega) (by omega)];rfl
  have po:=mLt ew dG
  refine Zat (λaC=>?_) (λbF=>?_)
  ·have aC:(j:Int) < (x.parts.length:Nat):=aC
   obtain⟨p,hp⟩:=Zcz (show j < x.parts.length by omega)
   have pu:=cQ.mono po
   obtain⟨b8,o8,lG,lI⟩:=Zal Pt.len pu.row hp (by omega)
   have fS:=pu.all p (zA2 hp)
   have eC:=Zey ZkH o1 hp
   generalize (x.parts.take j).foldl ZkH o1=o' at eC ⊢
   refine⟨b8,o8,lG,⟨by omega,aC⟩,_,_,_,_,_,_,_,_,lI,λb9=>Zaa rfl (Zaa rfl (Zab (λh=>Zah rfl (Zaa rfl ⟨rfl,x.parts.length - (j+1),by omega,j+1,by omega,by rw[iW],?_,rfl⟩)) (λh=>Zaa rfl (Zab (λh2=>?_) (λh2=>⟨rfl,x.parts.length - (j+1),by omega,j+1,by omega,by rw[iW],?_,rfl⟩)))))⟩
   ·have h:(p.k == 3)=true:=h
    rw[eC,show ZkH o' p=mxI o' p.g by unfold ZkH;rw[if_pos (by simpa using h)]];rfl
   ·have h:(p.k == 3)=false:=h
    have h2:(p.k == 4)=true:=h2
    refine⟨λ_ _ _=>_,Zah rfl ⟨_,rfl,ZoW p.e m8 fS.e,(λv _ _ h=>by rw[show v=_ from h];rfl),?_⟩⟩
    intro n10 m10 fm rB
    obtain rfl:n10=_:=by simpa using(show Value.int .i64 n10=Value.int .i64 _ from rB)
    refine Zaa rfl λM hM nX=>⟨rfl,x.parts.length - (j+1),by omega,j+1,by omega,by rw[iW],?_,rfl⟩
    rw[eC,show ZkH o' p=mxI o' p.e.most by unfold ZkH;rw[if_neg (by simpa using h),if_pos (by simpa using h2)]];rfl
   ·have h:(p.k == 3)=false:=h
    have h2:(p.k == 4)=false:=h2
    rw[eC,show ZkH o' p=o' by unfold ZkH;rw[if_neg (by simpa using h),if_neg (by simpa using h2)]]
  ·have bF:¬(j:Int) < (x.parts.length:Nat):=bF
   have hj:j=x.parts.length:=by omega
   subst hj
   rw[List.take_length,<-hu,<-bO]
   exact⟨rfl,by omega,rfl⟩
 ·rintro cs m7 ew ⟨_,bE⟩
  rw[List.length_map,List.take_length]at bE
  obtain rfl:cs=_:=by simpa using bE
  refine Zah rfl (Zaj (mLt eW ew) ?_)
  show Value.int _ _=Value.int _ _
  unfold Zt7
  rw[hl,if_pos rfl]
end Go.Proofs.YtpjepnkiiojgfaaGreat
end
