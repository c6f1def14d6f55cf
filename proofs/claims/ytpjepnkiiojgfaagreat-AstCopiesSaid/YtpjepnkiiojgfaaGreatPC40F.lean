/- Part of the proof: functions of the program. No condition. -/
import Derived.Test.YtpjepnkiiojgfaaGreatPEnv
import Derived.Test.YtpjepnkiiojgfaaGreatPC25D
import Derived.Test.YtpjepnkiiojgfaaGreatPC25AT
import Derived.Test.YtpjepnkiiojgfaaGreatMr
import Derived.Test.YtpjepnkiiojgfaaGreatPVES
import Derived.Test.YtpjepnkiiojgfaaGreatPVM
set_option linter.unusedVariables false
set_option linter.unusedSimpArgs false
set_option linter.unusedSectionVars false
noncomputable section
namespace Go.Proofs.YtpjepnkiiojgfaaGreat
open Go Go.Eng Go.Proofs Go.RowKit
open Go.Value (int slice agg bool string tuple func)
open Go.IntKind (u8 u64 i64)
set_option maxRecDepth 100000
def Zgb:Env:={ EB with
 loops:=swI nLa [(5,⟨[(9,.agg [.int .u8,.any,.str,.int .i64,.slice])],[3],[],false⟩)]
 frzNew:=[1] }
theorem Zfk(aA:Int)(aD:Value)(aF:ByteArray)(aE:Int)(aN:Option Addr)(aM aQ:Nat)(m:Mem)(R:RT)(h:
 lV [int u8 aA,aD,string aF,int i64 aE,slice aN aM aQ] λxL=>fzM m xL λb m'=>∀b_1,lE [some (Box.mk b_1 [] 3 1 false true),some (Box.mk b xL 52 5 true true)] λxL_1=>kB pG 94 [agg (.mk xL)] m'
 λb m'=>br b (kF pG 103 [agg (.mk xL)] m' λg fi ca m'=>∃(xs:List (List Value)),IX pG g fi ca m' xs/\(∀(x:List Value),x∈xs->Shape.fitsL [.agg [.int u8,.any,.str,.int i64,.slice]] x=true)/\∃(I:IT),I
 [] [[int i64 0]] [] m' 0/\(∀n (v:Value) s n_1 a n_2 c (cs:List Value) m'_1 (n_3:Nat),m'.le m'_1->List.get?Internal xs n_3=some [agg (.mk [int u8 n,v,string s,int i64 n_1,slice a n_2 c])]->I [] [cs] [] m'_1 n_3->∀
 (b:Nat),chk (v.oneCell'&&true) (kI pG 104 [int u8 n] m'_1 λn m'=>br (decide (n > 0)) (Eng.Ztz cs 0 λv=>chk (Zbb i64 v&&decide (i64=i64)) (Zac xL_1/\I [] [[int i64 (i64.wrap (RowKit.intOf v+1))]] [] m'
 (n_3+1))) (Zac xL_1/\I [] [cs] [] m' (n_3+1))))/\∀(cs:List Value) m'_1,m'.le m'_1->I [] [cs] [] m'_1 (xs.length)->Eng.Ztz cs 0 λv=>rtM m m'_1 R v) (rtM m m' R (int i64 0))):CX Tryz.prog 69 #[.agg #[.int .u8 aA,aD,.string aF,.int .i64 aE,.slice aN aM aQ]] m [] R:=
 Zad (E:=Zgb) Zap mix Tryz.func69 (by kernel_rfl) (Eq.mp (by kernel_rfl) h)
def Zp7:Env:={ EB with
 loops:=swI nLa [(5,⟨[(3,.int .i64),(19,.int .i64)],[],[],false⟩)]
 joins:=swI none [(2,some [(13,.bool)])]
 frzNew:=[1] }
theorem ZoR(aA:Int)(aD:Value)(aF:ByteArray)(aE:Int)(aN:Option Addr)(aM aQ:Nat)(m:Mem)(R:RT)(h:
 lV [int u8 aA,aD,string aF,int i64 aE,slice aN aM aQ] λxL=>fzM m xL λb m'=>∃(b_1:Bool),lE [some (Box.mk b xL 52 5 true true)] λxL=>br (aA == 9) (Zac xL/\[bool true]=[bool b_1])
 (Zac xL/\[bool (aA == 10)]=[bool b_1])/\br b_1 (∃I,inI I [int i64 (i64.wrap ((0:Int)+1)),int i64 0] [] [] m'/\∀n n_1 m'_1 (n_2:Nat),m'.le m'_1->I [int i64 n,int i64 n_1] [] [] m'_1 n_2->br (decide (n_1 <
 (↑aM:Int))) (atA aN λb o=>Zae n_1 aM/\∃v v_1 v_2 v_3 v_4:Value,m'_1.reads b (o+Int.toNat n_1*5) [v,v_1,v_2,v_3,v_4]/\∀(b:Nat),chk (v.oneCell'&&(v_1.oneCell'&&(v_2.oneCell'&&(v_3.oneCell'
 && (v_4.oneCell'&&true))))) (kI pG 70 [agg (.mk [v,v_1,v_2,v_3,v_4])] m'_1 λn_3 m'=>Zac xL/\nxI n_2 I [int i64 (i64.wrap (n+n_3)),int i64 (i64.wrap (n_1+1))] [] [] m')) (rtM m m'_1 R (int i64 n))) (∃I,inI I
 [int i64 0,int i64 0] [] [] m'/\∀n n_1 m'_1 (n_2:Nat),m'.le m'_1->I [int i64 n,int i64 n_1] [] [] m'_1 n_2->br (decide (n_1 < (↑aM:Int))) (atA aN λb o=>Zae n_1 aM/\∃v v_1 v_2 v_3 v_4:Value,
 m'_1.reads b (o+Int.toNat n_1*5) [v,v_1,v_2,v_3,v_4]/\∀(b:Nat),chk (v.oneCell'&&(v_1.oneCell'&&(v_2.oneCell'&&(v_3.oneCell'&&(v_4.oneCell'&&true))))) (kI pG 70 [agg (.mk [v,v_1,v_2,v_3,v_4])] m'_1 fun
 n_3 m'=>Zac xL/\nxI n_2 I [int i64 (i64.wrap (n+n_3)),int i64 (i64.wrap (n_1+1))] [] [] m')) (rtM m m'_1 R (int i64 n)))):CX Tryz.prog 70 #[.agg #[.int .u8 aA,aD,.string aF,.int .i64 aE,.slice aN aM aQ]] m [] R:=
 Zad (E:=Zp7) Zap mix Tryz.func70 (by kernel_rfl) (Eq.mp (by kernel_rfl) h)
def Zj0:Env:={ EB with
 frzNew:=[1] }
theorem Zib(aA:Int)(aY:Option Addr)(aT bF:Nat)(aO:Option Addr)(aI aW:Nat)(m:Mem)(R:RT)(h:
 fzM m [int i64 aA,slice aY aT bF,slice aO aI aW] λb m'=>rtM m m' R (func (Fn.func 105) (Array.mk []) (Array.mk [Value.pointer (some (Addr.mk b 0 none))]))):CX Tryz.prog 71 #[.agg #[.int .i64 aA,.slice aY aT bF,.slice aO aI aW]] m [] R:=
 Zad (E:=Zj0) Zap mix Tryz.func71 (by kernel_rfl) (Eq.mp (by kernel_rfl) h)
def Zhf:Env:={ EB with
 loops:=swI nLa [(1,⟨[(12,.int .i64)],[],[],true⟩),(4,⟨[(19,.int .i64)],[],[],true⟩),(7,⟨[(26,.int .i64)],[],[],true⟩)] }
theorem Zgc(p0g:Nat)(p0fi p0ca:List Value)(c0b c0o:Nat)(m:Mem)(xs:List (List Value))(h:
 ∀(l:Nat),∃(v:Value),m c0b (c0o+2)=some v/\chk (ZbQ v) (∃I,inI I [int i64 0,int i64 0] [] [] m/\∀y n m' (n_1:Nat),m.le m'->I [int i64 y,int i64 n] [] [] m' n_1->br (decide (n < (↑(slN v):Int))) (chk (ZbQ
 v) (atA (slA v) λb o=>Zae n (slN v)/\∃v v_1:Value,m'.reads b (o+Int.toNat n*2) [v,v_1]/\∀b,lE [some (Box.mk b [v,v_1] 36 2 false true)] λxL=>chk (v.oneCell'&&(v_1.oneCell'&&true)) (chk (ZbQ v_1) (∃
 I_1,inI I_1 [int i64 y,int i64 0] [] [] m'/\∀y n_2 m'_1 (n_3:Nat),lX (int i64 y) λyL=>m'.le m'_1->I_1 [yL,int i64 n_2] [] [] m'_1 n_3->br (decide (n_2 < (↑(slN v_1):Int))) (chk (ZbQ v_1) (atA (slA v_1) λb o=>
 Zae n_2 (slN v_1)/\∃v v_2 v_3 v_4 v_5 v_6 v_7 v_8 v_9 v_10 v_11 v_12 v_13 v_14 v_15 v_16:Value,lV [v,v_2,v_3,v_4,v_5,v_6,v_7,v_8,v_9,v_10,v_11,v_12,v_13,v_14,v_15,v_16] λxL_1=>m'_1.reads b (o +
 Int.toNat n_2*16) xL_1/\∀b,chk (v.oneCell'&&(v_2.oneCell'&&(v_3.oneCell'&&(v_4.oneCell'&&(v_5.oneCell'&&(v_6.oneCell'&&(v_7.oneCell'&&(v_8.oneCell'&&(v_9.oneCell'&&(v_10.oneCell'&&(v_11.oneCell' &&
 (v_12.oneCell'&&(v_13.oneCell'&&(v_14.oneCell'&&(v_15.oneCell'&&(v_16.oneCell'&&true)))))))))))))))) (chk (ZbQ v_14) (∃I,inI I [yL,int i64 0] [] [] m'_1/\∀y n m' (n_4:Nat),m'_1.le m'->I [int i64 y,int i64 n]
 [] [] m' n_4->br (decide (n < (↑(slN v_14):Int))) (chk (ZbQ v_14) (atA (slA v_14) λb_1 o=>Zae n (slN v_14)/\∃v v_17 v_18 v_19 v_20 v_21 v_22 v_23:Value,lV [v,v_17,v_18,v_19,v_20,v_21,v_22,v_23] λxL_2=>
 m'.reads b_1 (o+Int.toNat n*8) xL_2/\∀(b_2:Nat),chk (v.oneCell'&&(v_17.oneCell'&&(v_18.oneCell'&&(v_19.oneCell'&&(v_20.oneCell'&&(v_21.oneCell'&&(v_22.oneCell'&&(v_23.oneCell'&&true)))))))) ((l=l/\(0:
 Int)<=y/\List.get?Internal xs (Int.toNat y)=some [agg (.mk xL_2)])/\(Zac (some (Box.mk b xL_1 47 16 false true)::xL)/\nxI n_4 I [int i64 (y+1),int i64 (i64.wrap (n+1))] [] [] m')/\((-1:Int)=(↑(xs.length):
 Int)\/(-1:Int)=(-1:Int))))) (Zac xL/\nxI n_3 I_1 [int i64 y,int i64 (i64.wrap (n_2+1))] [] [] m'))))) (nxI n_1 I [yL,int i64 (i64.wrap (n+1))] [] [] m'_1))))) (y=(↑(xs.length):Int)\/y=(-1:Int)))):IX Tryz.prog 105 [] [.pointer (some ⟨c0b,c0o,none⟩)] m xs:=
 Zi9 (E:=Zhf) Zap mix Tryz.func105 _ _ _ (by kernel_rfl) (Eq.mp (by kernel_rfl) h)
def Zl5:Env:={ EB with
 dr:=swI [] [(1,[⟨0,[100000],[],none,[],[]⟩,⟨1,[100000],[],none,[0],[]⟩,⟨2,[2],[],none,[],[]⟩,dO 3 [2],dO 4 [0,1,2,3],⟨5,[100000],[],none,[0,1,2,3,4],[]⟩,⟨6,[100000],[100000],none,[0,1,2,3,4,5],[]⟩]),(2,[⟨0,[100000],[],none,[],[]⟩,⟨1,[100000],[],none,[0],[]⟩,⟨2,[2],[],none,[],[]⟩,dO 3 [2],dO 4 [0,1,2,3],⟨5,[100000],[],none,[0,1,2,3,4],[]⟩,⟨6,[100000],[100000],none,[0,1,2,3,4,5],[]⟩])]
 frzNew:=[2] }
theorem Zj1(aA:Int)(aD:Value)(aF:ByteArray)(aE:Int)(aN:Option Addr)(aM aQ c0b:Nat)(c0_0 c0_1 c0_2 c0_3 c0_4 c0_5:Int)(m:Mem)(R:RT)(h:
 lV [int u8 aA,aD,string aF,int i64 aE,slice aN aM aQ] λxL=>lV [agg (.mk xL)] λxL_1=>lE (Box.mk c0b [int i64 c0_0,int i64 c0_1,int i64 c0_2,int i64 c0_3,int i64 c0_4,int i64 c0_5] 75 6 false
 true) λyL=>fzM m xL λb m'=>∃(f:Fx),∃R_1,R_1=f 3 xL_1 m'/\CX pG 69 (.mk xL_1) m' [] R_1/\Zbp (.int i64) R_1/\∀n m'_1,m'.le m'_1->R_1 (int i64 n) m'_1 []->∀M,m'.le M->m'_1.le M->∃(f:Fx),∃R_2,R_2 =
 f 3 xL_1 M/\CX pG 70 (.mk xL_1) M [] R_2/\Zbp (.int i64) R_2/\∀n_1 m',M.le m'->R_2 (int i64 n_1) m' []->∀M_1,M.le M_1->m'.le M_1->yL=yL/\∃m'',m.le m''/\m''.le M_1/\R (tuple (.mk [])) m'' [[int i64 c0_0,int i64
 c0_1,int i64 c0_2,int i64 c0_3,int i64 (i64.wrap (c0_4+n)),int i64 (i64.wrap (c0_5+n_1))]]):CX Tryz.prog 68 #[.agg #[.int .u8 aA,aD,.string aF,.int .i64 aE,.slice aN aM aQ],.pointer (some ⟨c0b,0,none⟩)] m [⟨c0b,[.int .i64 c0_0,.int .i64 c0_1,.int .i64 c0_2,.int .i64 c0_3,.int .i64 c0_4,.int .i64 c0_5],75,6,false,true⟩] R:=
 Zqz (E:=Zl5) Zap mix Tryz.func68 [.v (.agg #[.int .u8 aA,aD,.string aF,.int .i64 aE,.slice aN aM aQ]),.loc 100000 0] [⟨c0b,[.int .i64 c0_0,.int .i64 c0_1,.int .i64 c0_2,.int .i64 c0_3,.int .i64 c0_4,.int .i64 c0_5],75,6,false,true⟩] (by kernel_rfl) (Eq.mp (by kernel_rfl) h)
def Zp8:Env:={ EB with
 loops:=swI nLa [(6,⟨[(23,.int .i64)],[3],[],false⟩),(10,⟨[(37,.int .i64)],[3],[],false⟩),(19,⟨[(57,.agg [.int .u8,.str,.slice,.int .u8,.any,.str,.int .i64,.slice])],[3],[],false⟩),(22,⟨[(68,.int .i64)],[3],[],false⟩)]
 dr:=swI [] [(13,[⟨0,[3],[],none,[],[]⟩,⟨1,[3],[],none,[0],[]⟩,⟨2,[7],[],none,[],[]⟩,⟨3,[7],[],none,[2],[]⟩,⟨4,[7],[],none,[2,3],[]⟩,dO 5 [2,3,4],dO 6 [0,1,2,3,4,5],⟨7,[3],[],none,[0,1,2,3,4,5,6],[]⟩,⟨8,[3],[3],none,[0,1,2,3,4,5,6,7],[]⟩])]
 borrow:=swI [] [(64,[3]),(85,[3])]
 frzNew:=[1] }
theorem ZoS(aA:Int)(aY:Option Addr)(aT bF:Nat)(aO:Option Addr)(aI aW:Nat)(m:Mem)(R:RT)(h:
 lV [int i64 aA,slice aY aT bF,slice aO aI aW] λxL=>fzM m xL λb m'=>∀a9 (ao:Nat),lV [Value.pointer (some (Addr.mk ao 0 none))] λaq=>lV [func (Fn.func 68) (Array.mk []) (Array.mk aq)] λba
 => lE [some (Box.mk ao [] 75 6 false true),some (Box.mk a9 [int i64 0,int i64 0,int i64 0,int i64 0,int i64 0,int i64 0] 75 6 false true),some (Box.mk b xL 32 3 true true)] λaz=>kB pG 19 [agg (.mk xL)] m' λb m'=>
 br (!b) (rtM m m' R (agg (.mk [int i64 0,int i64 0,int i64 0,int i64 0,int i64 0,int i64 0]))) (∃I,inI I [int i64 0] [[int i64 (↑aI:Int),int i64 0,int i64 0,int i64 0,int i64 0,int i64 0]] [] m'/\∀n (cs:List
 Value) ar (a3:Nat),m'.le ar->I [int i64 n] [cs] [] ar a3->br (decide (n < (↑aI:Int))) (atA aO λb o=>Zae n aI/\∃v ac:Value,ar.reads b (o+Int.toNat n*2) [v,ac]/\∀b,lE (some (Box.mk b [v,ac] 36
 2 false true)::az) λxL=>chk (v.oneCell'&&(ac.oneCell'&&true)) (Eng.Ztz cs 1 λv=>chk (ZbQ ac) (chk (Zbb i64 v&&decide (i64=i64)) (chk (Nat.ble 2 (cs.length)) (chk (ZbQ ac) (∃aa,inI aa [int i64 0] [ZaH
 cs 1 [int i64 (i64.wrap (RowKit.intOf v+(↑(slN ac):Int)))]] [] ar/\∀(ae:Int)(cs:List Value) m' (av:Nat),lV [int i64 (i64.wrap (ae+1))] λau=>ar.le m'->aa [int i64 ae] [cs] [] m' av->br (decide (ae < (↑(slN
 ac):Int))) (chk (ZbQ ac) (atA (slA ac) λb o=>Zae ae (slN ac)/\∃v al am ag ah ai aj ak a0 a1 a2 a4 a5 a6 a7 a8:Value,lV [agg (.mk [ag,ah,ai,aj,ak,a0,a1,a2])] λaw=>m'.reads b (o+Int.toNat ae*16) [v,
 al,am,ag,ah,ai,aj,ak,a0,a1,a2,a4,a5,a6,a7,a8]/\∀(b:Nat),chk (v.oneCell'&&(al.oneCell'&&(am.oneCell'&&(ag.oneCell'&&(ah.oneCell'&&(ai.oneCell'&&(aj.oneCell'&&(ak.oneCell'&&(a0.oneCell' &&
 (a1.oneCell'&&(a2.oneCell'&&(a4.oneCell'&&(a5.oneCell'&&(a6.oneCell'&&(a7.oneCell'&&(a8.oneCell'&&true)))))))))))))))) (chk (Zbb u8 v&&decide (u8=u8)) (br (RowKit.intOf v == 1) (∃(f:Fx),Eng.Ztz cs 2 λv
 => ∃R,R=f 5 aw m'/\CX pG 58 (.mk aw) m' [] R/\Zbp (.int i64) R/\∀n ad,m'.le ad->R (int i64 n) ad []->chk (Zbb i64 v&&decide (i64=i64)) (chk (Nat.ble 3 (cs.length)) (∀M,m'.le M->ad.le M->Zac xL/\nxI av aa
 au [ZaH cs 2 [int i64 (i64.wrap (RowKit.intOf v+n))]] [] M))) (Zac xL/\nxI av aa au [cs] [] m'))))) (Zac az/\nxI a3 I [int i64 (i64.wrap (n+1))] [cs] [] m'))))))) (∀b,lE (some (Box.mk b ba 137 1 false true)::az)
 λau=>kF pG 71 [agg (.mk xL)] ar λg fi ca m'=>∃(xs:List (List Value)),IX pG g fi ca m' xs/\(∀(x:List Value),x∈xs->Shape.fitsL [.agg [.int u8,.str,.slice,.int u8,.any,.str,.int i64,.slice]] x=true)/\∃
 (I:IT),I [] [cs] [] m' 0/\(∀n s a ae c av (v:Value) bb bc bd be bf (cs:List Value) ad (ay:Nat),lV [int u8 av,v,string bb,int i64 bc,slice bd be bf] λxL=>lV (int u8 n::string s::slice a ae c::xL) λaw
 => m'.le ad->List.get?Internal xs ay=some [agg (.mk aw)]->I [] [cs] [] ad ay->∀b,lE (some (Box.mk b aw 54 8 false true)::au) λan=>chk (v.oneCell'&&true) (br (n == 3) (∃R,True/\CX pG 68 (.mk (agg (.mk xL)::aq))
 ad [Box.mk ao cs 75 6 false true] R/\Zbp (.tup []) R/\∀m',ad.le m'->∀(cs:List Value),R (tuple (.mk [])) m' [cs]->∃aa,inI aa [int i64 0] [cs] [] m'/\∀(n:Int)(cs:List Value) ab (af:Nat),lV [int i64 (i64.wrap
 (n+1))] λxL=>m'.le ab->aa [int i64 n] [cs] [] ab af->br (decide (n < (↑ae:Int))) (atA a λb o=>Zae n ae/\∃v ac al am ag ah ai aj:Value,lV [am,ag,ah,ai,aj] λap=>lE (Zbb u8 v&&decide (u8=u8))
 λyL=>ab.reads b (o+Int.toNat n*8) (v::ac::al::ap)/\∀(b:Nat),chk (v.oneCell'&&(ac.oneCell'&&(al.oneCell'&&(am.oneCell'&&(ag.oneCell'&&(ah.oneCell'&&(ai.oneCell'&&(aj.oneCell'&&true)))))))) (chk
 yL (br (!RowKit.intOf v == 1) (Eng.Ztz cs 3 λak=>lV (ZaH cs 3 [int i64 (i64.wrap (RowKit.intOf ak+1))]) λax=>chk (Zbb i64 ak&&decide (i64=i64)) (chk (Nat.ble 4 (cs.length)) (chk yL (br (RowKit.intOf v == 4)
 (∃R,True/\CX pG 68 (.mk (agg (.mk ap)::aq)) ab [Box.mk ao ax 75 6 false true] R/\Zbp (.tup []) R/\∀m',ab.le m'->∀(cs:List Value),R (tuple (.mk [])) m' [cs]->Zac an/\nxI af aa xL [cs] [] m') (Zac an/\nxI af
 aa xL [ax] [] ab))))) (chk yL (br (RowKit.intOf v == 4) (∃R,True/\CX pG 68 (.mk (agg (.mk ap)::aq)) ab [Box.mk ao cs 75 6 false true] R/\Zbp (.tup []) R/\∀m',ab.le m'->∀(cs:List Value),R (tuple (.mk [])) m' [cs]->
 Zac an/\nxI af aa xL [cs] [] m') (Zac an/\nxI af aa xL [cs] [] ab)))))) (Zac au/\I [] [cs] [] ab (ay+1))) (∃aa,inI aa [int i64 0] [cs] [] ad/\∀(n:Int)(cs:List Value) m' (af:Nat),lV [int i64 (i64.wrap (n +
 1))] λxL=>ad.le m'->aa [int i64 n] [cs] [] m' af->br (decide (n < (↑ae:Int))) (atA a λb o=>Zae n ae/\∃v ac al am ag ah ai aj:Value,lV [am,ag,ah,ai,aj] λap=>lE (Zbb u8 v&&decide (u8=u8)) λyL
 => m'.reads b (o+Int.toNat n*8) (v::ac::al::ap)/\∀(b:Nat),chk (v.oneCell'&&(ac.oneCell'&&(al.oneCell'&&(am.oneCell'&&(ag.oneCell'&&(ah.oneCell'&&(ai.oneCell'&&(aj.oneCell'&&true)))))))) (chk yL (br
 (!RowKit.intOf v == 1) (Eng.Ztz cs 3 λak=>lV (ZaH cs 3 [int i64 (i64.wrap (RowKit.intOf ak+1))]) λax=>chk (Zbb i64 ak&&decide (i64=i64)) (chk (Nat.ble 4 (cs.length)) (chk yL (br (RowKit.intOf v == 4) (∃R,
 True/\CX pG 68 (.mk (agg (.mk ap)::aq)) m' [Box.mk ao ax 75 6 false true] R/\Zbp (.tup []) R/\∀ab,m'.le ab->∀(cs:List Value),R (tuple (.mk [])) ab [cs]->Zac an/\nxI af aa xL [cs] [] ab) (Zac an/\nxI af aa xL
 [ax] [] m'))))) (chk yL (br (RowKit.intOf v == 4) (∃R,True/\CX pG 68 (.mk (agg (.mk ap)::aq)) m' [Box.mk ao cs 75 6 false true] R/\Zbp (.tup []) R/\∀ab,m'.le ab->∀(cs:List Value),R (tuple (.mk [])) ab [cs]->Zac
 an/\nxI af aa xL [cs] [] ab) (Zac an/\nxI af aa xL [cs] [] m')))))) (Zac au/\I [] [cs] [] m' (ay+1)))))/\∀(cs:List Value) ad,m'.le ad->I [] [cs] [] ad (xs.length)->chk (Nat.beq (cs.length) 6&&ZeI cs) (rtM m
 ad R (agg (.mk cs)))))):CX Tryz.prog 21 #[.agg #[.int .i64 aA,.slice aY aT bF,.slice aO aI aW]] m [] R:=
 Zad (E:=Zp8) Zap mix Tryz.func21 (by kernel_rfl) (Eq.mp (by kernel_rfl) h)
end Go.Proofs.YtpjepnkiiojgfaaGreat
namespace Go.Proofs.YtpjepnkiiojgfaaGreat
open Go Go.Eng Go.Rx Go.Proofs Go.RowKit
set_option maxRecDepth 100000
theorem ZBx(a b:Int):Value.int .i64 (IntKind.i64.wrap (RowKit.intOf (Value.int .i64 (w64 a))+b))=.int .i64 (w64 (a+b)):=by
 show Value.int .i64 (IntKind.i64.wrap (w64 a+b))=_
 rw[Zq4]
theorem Zl6(e:E)(m:Mem)(hr:RepE m e):CX Tryz.prog 69 #[e.v] m [] (Ret (.int .i64 (w64 (Zn8 e)))):=by
 apply Zfk
 intro b m1 aG _ b2
 refine Zah (ZcW e m1 (hr.mono' aG)) λm2 aK=>?_
 have cV:=mLt aG aK
 refine Zab (λhl=>?_) (λhl=>Zaf cV (by show Value.int _ _=Value.int _ _;unfold Zn8;rw[hl,if_neg (by decide),W_0]))
 refine Zan (Zff e m2) (λv m' css h=>by obtain⟨_,rfl,_⟩:=h;rfl) ?_
 rintro g fi ca m3 aR ⟨b3,hv,eZ⟩
 obtain⟨rfl,rfl,rfl⟩:=Zcu hv
 have dA:=mLt cV aR
 refine⟨_,ZdT e m3 b3 eZ (hr.mono' dA),λy hy=>?_,λ_ css _ m' q=>css=[[.int .i64 (w64 (Zmi Zzg (e.nodes.take q)))]]/\q<=e.nodes.length,⟨by rw[List.take_zero,Zud,W_0],by omega⟩,?_,?_⟩
 ·obtain⟨z,_,rfl⟩:=List.mem_map.1 hy;exact ZkD z
 ·rintro n0 v0 s0 n3 a n7 c cs m4 q cE hq ⟨bX,gB⟩ b4
  obtain rfl:cs=[.int .i64 (w64 (Zmi Zzg (e.nodes.take q)))]:=by simpa using bX
  have hq':(List.map (λz:E=>[z.v]) e.nodes)[(q:Nat)]?=some [Value.agg #[.int .u8 n0,v0,.string s0,.int .i64 n3,.slice a n7 c]]:=hq
  rw[List.getElem?_map]at hq'
  obtain⟨z,hz,gF⟩:=Option.map_eq_some_iff.1 hq'
  have pb:q < e.nodes.length:=(zA0 hz).1
  simp only[E.v,List.cons.injEq,Value.agg.injEq,Array.mk.injEq,Value.int.injEq,Value.string.injEq,Value.slice.injEq,true_and,and_true]at gF
  obtain⟨rfl,rfl,rfl,rfl,rfl,rfl,rfl⟩:=gF
  have cB:=Zvr Zzg hz
  refine Zaa rfl (ZcQ (Zyj z.k m4) λm5 cP=>Zab (λh=>Zam rfl (Zaa rfl ⟨rfl,?_,by omega⟩)) (λh=>⟨rfl,?_,by omega⟩))
  ·have h:Zzg z=true:=h
   rw[h,if_pos rfl]at cB
   rw[ZBx,cB]
  ·have h:Zzg z=false:=h
   rw[h,if_neg (by decide),Int.add_zero]at cB
   rw[cB]
 ·rintro cs m4 cE ⟨bX,_⟩
  rw[List.length_map,List.take_length]at bX
  obtain rfl:cs=[.int .i64 (w64 (Zmi Zzg e.nodes))]:=by simpa using bX
  refine Zam rfl (Zaf (mLt dA cE) ?_)
  show Value.int _ _=Value.int _ _
  unfold Zn8;rw[hl,if_pos rfl]
theorem ZrF(t:E)(m:Mem)(hr:RepE m t):CX Tryz.prog 70 #[t.v] m [] (Ret (.int .i64 (w64 (vrE t)))):=by
 apply ZoR
 intro b m1 aG _
 have hn:vrE t=(if ZzL t then 1 else 0)+Zmi ZzL (Zak t.subs):=by unfold vrE;rw[Zbg,Zjq]
 obtain⟨mO,aC⟩:=Zdg (hr.mono' aG)
 refine⟨ZzL t,Zab (λh=>⟨rfl,?_⟩) (λh=>⟨rfl,?_⟩),?_⟩
 ·have h:(t.k == 9)=true:=h
  show[Value.bool true]=[Value.bool (t.k == 9||t.k == 10)];rw[h];rfl
 ·have h:(t.k == 9)=false:=h
  show[Value.bool (t.k == 10)]=[Value.bool (t.k == 9||t.k == 10)];rw[h];rfl
 refine Zab (λh=>?_) (λh=>?_)
 ·refine⟨λxs _ _ m'' q=>∃i:Nat,i<=t.subs.length/\xs=[.int .i64 (w64 (1+Zmi ZzL (Zak (t.subs.take i)))),.int .i64 i]/\m1.le m''/\q=t.subs.length - i,⟨t.subs.length,0,by omega,?_,Mem.le_refl _,by omega⟩,?_⟩
  ·show[Value.int .i64 _,Value.int .i64 0]=[Value.int .i64 (w64 (1+0)),Value.int .i64 0]
   rw[show w64 (1+0)=w64 1 from rfl,show IntKind.i64.wrap (0+1)=w64 1 from rfl]
  rintro y n m2 q aK ⟨i,hi,cC,eu,hq⟩
  simp only[List.cons.injEq,Value.int.injEq,true_and,and_true]at cC
  obtain⟨rfl,rfl⟩:=cC
  refine ZaB (λaB=>?_) (λbO=>?_)
  ·have aJ:i < t.subs.length:=by have:(i:Int) < (t.subs.length:Nat):=aB;omega
   obtain⟨x,hx⟩:∃x,t.subs[i]?=some x:=⟨_,zA3 aJ⟩
   have bJ:=ZgH (zA2 hx)
   obtain h0|⟨b1,o1,ha,dU⟩:=aC
   ·rw[h0]at aJ;simp at aJ
   obtain⟨dd,dz⟩:=(dU.mono' eu).get hx
   refine⟨b1,o1,ha,⟨by omega,by omega⟩,_,_,_,_,_,dd,λb2=>Zaa rfl (ZcQ (ZrF x m2 dz) λm3 aR=>⟨rfl,t.subs.length - (i+1),by omega,i+1,by omega,?_,mLt eu aR,rfl⟩)⟩
   rw[Zq4,ZxB,Zew hx,Zq5,Zal (n:=(i:Int)+1) (by omega) (by omega),Int.add_assoc]
   rfl
  ·have hi':i=t.subs.length:=by have:¬(i:Int) < (t.subs.length:Nat):=bO;omega
   subst hi'
   refine Zaf (mLt aG eu) ?_
   show Value.int _ _=Value.int _ _
   rw[hn,List.take_length,h,if_pos rfl]
 ·refine⟨λxs _ _ m'' q=>∃i:Nat,i<=t.subs.length/\xs=[.int .i64 (w64 (0+Zmi ZzL (Zak (t.subs.take i)))),.int .i64 i]/\m1.le m''/\q=t.subs.length - i,⟨t.subs.length,0,by omega,?_,Mem.le_refl _,by omega⟩,?_⟩
  ·show[Value.int .i64 _,Value.int .i64 0]=[Value.int .i64 (w64 (0+0)),Value.int .i64 0]
   rw[show(0:Int)+0=0 from rfl,W_0]
  rintro y n m2 q aK ⟨i,hi,cC,eu,hq⟩
  simp only[List.cons.injEq,Value.int.injEq,true_and,and_true]at cC
  obtain⟨rfl,rfl⟩:=cC
  refine ZaB (λaB=>?_) (λbO=>?_)
  ·have aJ:i < t.subs.length:=by have:(i:Int) < (t.subs.length:Nat):=aB;omega
   obtain⟨x,hx⟩:∃x,t.subs[i]?=some x:=⟨_,zA3 aJ⟩
   have bJ:=ZgH (zA2 hx)
   obtain h0|⟨b1,o1,ha,dU⟩:=aC
   ·rw[h0]at aJ;simp at aJ
   obtain⟨dd,dz⟩:=(dU.mono' eu).get hx
   refine⟨b1,o1,ha,⟨by omega,by omega⟩,_,_,_,_,_,dd,λb2=>Zaa rfl (ZcQ (ZrF x m2 dz) λm3 aR=>⟨rfl,t.subs.length - (i+1),by omega,i+1,by omega,?_,mLt eu aR,rfl⟩)⟩
   rw[Zq4,ZxB,Zew hx,Zq5,Zal (n:=(i:Int)+1) (by omega) (by omega),Int.add_assoc]
   rfl
  ·have hi':i=t.subs.length:=by have:¬(i:Int) < (t.subs.length:Nat):=bO;omega
   subst hi'
   refine Zaf (mLt aG eu) ?_
   show Value.int _ _=Value.int _ _
   rw[hn,List.take_length,h,if_neg (by decide)]
termination_by SizeOf.sizeOf t
decreasing_by all_goals exact bJ
theorem ZhE(s:Sc)(m:Mem):CX Tryz.prog 71 #[s.v] m [] (λv m' _=>∃b,v=.func (.func 105) #[] #[.pointer (some ⟨b,0,none⟩)]/\m'.reads b 0 s.cs):=by
 apply Zib
 intro b m' hm hb
 exact⟨m',hm,Mem.le_refl _,b,rfl,hb⟩
theorem ZfU(s:Sc)(m:Mem)(c0b:Nat)(hr:RepC m s)(hb:m.reads c0b 0 s.cs):IX Tryz.prog 105 [] [.pointer (some ⟨c0b,0,none⟩)] m ((Zco s).map λa=>[.agg a.cs.toArray]):=by
 apply Zgc 0 [] [] c0b 0
 intro l
 have d5:s.states.length<=100000:=hr.len
 refine⟨.slice s.sa s.states.length s.sc,hb 2 _ rfl,Zaa rfl ⟨λxs _ _ m' q=>∃i:Nat,i<=s.states.length/\xs=[.int .i64 (((s.states.take i).flatMap ZkP).length:Nat),.int .i64 i]/\q=s.states.length - i,⟨s.states.length,0,by omega,rfl,rfl⟩,?_⟩⟩
 rintro y n m1 q aG ⟨i,hi,hx,rfl⟩
 simp only[List.cons.injEq,Value.int.injEq,true_and,and_true]at hx
 obtain⟨rfl,rfl⟩:=hx
 have hw:IntKind.i64.wrap ((i:Int)+1)=((i+1:Nat):Int):=by rw[Zal (by omega) (by omega)];rfl
 refine ZaB (λaB=>?_) (λbO=>.inl ?_)
 ·have aB:(i:Int) < (s.states.length:Nat):=aB
  obtain⟨x,hx⟩:=Zao (show i < s.states.length by omega)
  have lK:=zA2 hx
  obtain⟨b1,o1,fb,dd⟩:=Zaj Sta.len (hr.mono aG).row hx (by omega)
  have cC:=(hr.mono aG).all x lK
  have kR:x.rules.length<=100000:=cC.len
  refine Zaa rfl ⟨b1,o1,fb,⟨by omega,aB⟩,_,_,dd,λb2=>Zaa rfl (Zaa rfl ⟨λxs _ _ m' q=>∃k:Nat,k<=x.rules.length/\xs=[.int .i64 (((s.states.take i).flatMap ZkP).length+((x.rules.take k).flatMap (·.acts)).length:Nat),.int .i64 k]/\q=x.rules.length - k,⟨x.rules.length,0,by omega,rfl,rfl⟩,?_⟩)⟩
  rintro y n2 m2 q2 aK ⟨k,hk,gz,rfl⟩
  simp only[List.cons.injEq,Value.int.injEq,true_and,and_true]at gz
  obtain⟨rfl,rfl⟩:=gz
  have ji:IntKind.i64.wrap ((k:Int)+1)=((k+1:Nat):Int):=by rw[Zal (by omega) (by omega)];rfl
  refine ZaB (λdh=>?_) (λdP=>?_)
  ·have dh:(k:Int) < (x.rules.length:Nat):=dh
   obtain⟨r,dY⟩:=Zao (show k < x.rules.length by omega)
   obtain⟨b3,o3,ew,fM⟩:=Zaj Ru.len (cC.mono aK).row dY (by omega)
   have eD:=(cC.mono aK).all r (zA2 dY)
   have nV:r.acts.length<=100000:=eD.len
   refine Zaa rfl ⟨b3,o3,ew,⟨by omega,dh⟩,_,_,_,_,_,_,_,_,_,_,_,_,_,_,_,_,fM,λb4=>Zaa rfl (Zaa rfl ⟨λxs _ _ m' q=>∃j:Nat,j<=r.acts.length/\xs=[.int .i64 (((s.states.take i).flatMap ZkP).length+(((x.rules.take k).flatMap (·.acts)).length+j):Nat),.int .i64 j]/\q=r.acts.length - j,⟨r.acts.length,0,by omega,rfl,rfl⟩,?_⟩)⟩
   rintro y n3 m3 q3 aR ⟨j,hj,kW,rfl⟩
   simp only[List.cons.injEq,Value.int.injEq,true_and,and_true]at kW
   obtain⟨rfl,rfl⟩:=kW
   have i6:IntKind.i64.wrap ((j:Int)+1)=((j+1:Nat):Int):=by rw[Zal (by omega) (by omega)];rfl
   refine ZaB (λgw=>?_) (λil=>?_)
   ·have gw:(j:Int) < (r.acts.length:Nat):=gw
    obtain⟨a,ha⟩:=Zao (show j < r.acts.length by omega)
    obtain⟨b5,o5,mZ,im⟩:=Zaj Ac.len (eD.mono aR).row ha (by omega)
    refine Zaa rfl ⟨b5,o5,mZ,⟨by omega,gw⟩,_,_,_,_,_,_,_,_,im,λb6=>Zaa rfl ⟨⟨rfl,Int.natCast_nonneg _,?_⟩,⟨rfl,r.acts.length - (j+1),by omega,j+1,by omega,by rw[i6];rfl,rfl⟩,.inr rfl⟩⟩
    show(List.map (λa:Ac=>[Value.agg a.cs.toArray]) (Zco s))[((((s.states.take i).flatMap ZkP).length+(((x.rules.take k).flatMap (·.acts)).length+j):Nat):Int).toNat]?=some [Value.agg a.cs.toArray]
    rw[zA8,List.getElem?_map,show(Zco s)[_]?=some a from Zue ZkP hx (Zue (·.acts) dY ha)];rfl
   ·have il:¬(j:Int) < (r.acts.length:Nat):=il
    have:j=r.acts.length:=by omega
    subst this
    refine⟨rfl,x.rules.length - (k+1),by omega,k+1,by omega,?_,rfl⟩
    rw[Zn9 (·.acts) dY,zA1,ji]
  ·have dP:¬(k:Int) < (x.rules.length:Nat):=dP
   have:k=x.rules.length:=by omega
   subst this
   refine⟨s.states.length - (i+1),by omega,i+1,by omega,?_,rfl⟩
   rw[Zn9 ZkP hx,zA1,List.take_length,hw];rfl
 ·have bO:¬(i:Int) < (s.states.length:Nat):=bO
  have:i=s.states.length:=by omega
  subst this
  rw[List.take_length,List.length_map];rfl
theorem ZmH(e:E)(a b c d f g:Int)(c0b:Nat)(m:Mem)(hr:RepE m e):CX Tryz.prog 68 #[e.v,.pointer (some ⟨c0b,0,none⟩)] m [⟨c0b,msV a b c d (w64 f) (w64 g),75,6,false,true⟩] (λv _ css=>v=.tuple #[]/\css=[msV a b c d (w64 (f+Zn8 e)) (w64 (g+vrE e))]):=by
 apply Zj1
 intro b1 m1 aG _
 refine⟨λ_ _ _=>Ret (.int .i64 (w64 (Zn8 e))),_,rfl,Zl6 e m1 (hr.mono' aG),(λv _ _ h=>by rw[show v=_ from h];rfl),?_⟩
 intro n m2 aK hv M iO fh
 obtain rfl:n=w64 (Zn8 e):=by simpa using(show Value.int .i64 n=Value.int .i64 _ from hv)
 refine⟨λ_ _ _=>Ret (.int .i64 (w64 (vrE e))),_,rfl,ZrF e M (hr.mono' (mLt aG iO)),(λv _ _ h=>by rw[show v=_ from h];rfl),?_⟩
 intro n2 m3 aR xl M2 fA gt
 obtain rfl:n2=w64 (vrE e):=by simpa using(show Value.int .i64 n2=Value.int .i64 _ from xl)
 refine⟨rfl,m,Mem.le_refl _,mLt aG (mLt iO fA),rfl,?_⟩
 rw[Zvq,Zvq,<-Zq4 f,<-Zq4 g]
 show[[_,_,_,_,Value.int .i64 (w64 (w64 f+Zn8 e)),Value.int .i64 (w64 (w64 g+vrE e))]]=_
 rfl
set_option maxHeartbeats 1000000 in
theorem ZmI(s:Sc)(m:Mem)(hr:RepC m s):CX Tryz.prog 21 #[s.v] m [] (Ret (.agg (ZiA s).toArray)):=by
 apply ZoS
 intro b m1 aG _ b1 b2
 have d5:s.states.length<=100000:=hr.len
 refine Zah (Zcc s m1 (hr.mono aG)) λm2 aK=>?_
 have cV:=mLt aG aK
 refine Zab (λhl=>Zaf cV ?_) (λhl=>?_)
 ·have hl:s.light=false:=by simpa using hl
  show Value.agg _=Value.agg _
  unfold ZiA;rw[hl];rfl
 have hl:s.light=true:=by simpa using hl
 refine⟨λxs css _ m' q=>∃i:Nat,i<=s.states.length/\xs=[.int .i64 i]/\css=[msV s.states.length (w64 (ZaF ((s.states.take i).map ruS))) (w64 (ZaF ((s.states.take i).map rgS))) 0 0 0]/\q=s.states.length - i,⟨s.states.length,0,by omega,rfl,?_,rfl⟩,?_⟩
 ·show[_]=[msV _ (w64 0) (w64 0) 0 0 0]
  rw[W_0];rfl
 rintro z cs m3 q aR ⟨i,hi,hz,bX,rfl⟩
 obtain rfl:z=i:=by simpa using hz
 obtain rfl:=(List.cons.inj bX).1
 have dA:=mLt cV aR
 have kt:IntKind.i64.wrap ((i:Int)+1)=((i+1:Nat):Int):=by rw[Zal (by omega) (by omega)];rfl
 refine ZaB (λaB=>?_) (λbO=>?_)
 ·have aB:(i:Int) < (s.states.length:Nat):=aB
  obtain⟨x,hx⟩:=Zao (show i < s.states.length by omega)
  obtain⟨b3,o3,ew,dd⟩:=Zaj Sta.len (hr.mono dA).row hx (by omega)
  have cC:=(hr.mono dA).all x (zA2 hx)
  have kR:x.rules.length<=100000:=cC.len
  have g1:=Za7 ruS hx
  have g2:=Za7 rgS hx
  refine⟨b3,o3,ew,⟨by omega,aB⟩,_,_,dd,λb4=>Zaa rfl (Zam rfl (Zaa rfl (Zaa rfl (Zaa rfl (Zaa rfl ?_)))))⟩
  refine⟨λxs css _ m' q=>∃k:Nat,k<=x.rules.length/\xs=[.int .i64 k]/\css=[msV s.states.length (w64 (ZaF ((s.states.take (i+1)).map ruS))) (w64 (ZaF ((s.states.take i).map rgS)+ZaF ((x.rules.take k).map rgR))) 0 0 0]/\q=x.rules.length - k,⟨x.rules.length,0,by omega,rfl,?_,rfl⟩,?_⟩
  ·show[_]=[msV _ _ (w64 (_+0)) 0 0 0]
   rw[g1,<-Zq4,Int.add_zero];rfl
  rintro z cs m4 q cE ⟨k,hk,hz,bX,rfl⟩
  obtain rfl:z=k:=by simpa using hz
  obtain rfl:=(List.cons.inj bX).1
  have ji:IntKind.i64.wrap ((k:Int)+1)=((k+1:Nat):Int):=by rw[Zal (by omega) (by omega)];rfl
  refine ZaB (λdh=>?_) (λdP=>⟨rfl,s.states.length - (i+1),by omega,i+1,by omega,by rw[kt],?_,rfl⟩)
  ·have dh:(k:Int) < (x.rules.length:Nat):=dh
   obtain⟨r,dY⟩:=Zao (show k < x.rules.length by omega)
   obtain⟨b5,o5,mZ,fM⟩:=Zaj Ru.len (cC.mono cE).row dY (by omega)
   have eD:=(cC.mono cE).all r (zA2 dY)
   have g3:=Za7 rgR dY
   refine Zaa rfl ⟨b5,o5,mZ,⟨by omega,dh⟩,_,_,_,_,_,_,_,_,_,_,_,_,_,_,_,_,fM,λb6=>Zaa rfl (Zaa rfl (Zab (λh1=>?_) (λh1=>⟨rfl,x.rules.length - (k+1),by omega,k+1,by omega,by rw[ji],?_,rfl⟩)))⟩
   ·have h1':r.k=1:=by have h1:(r.k == (1:Int))=true:=h1;simpa using h1
    refine⟨λ_ _ _=>Ret (.int .i64 r.t.size),Zam rfl ⟨_,rfl,Zuo r.t m4 eD.t,(λv _ _ h=>by rw[show v=_ from h];rfl),?_⟩⟩
    intro n m5 cP hv
    obtain rfl:n=r.t.size:=by simpa using(show Value.int .i64 n=Value.int .i64 _ from hv)
    refine Zaa rfl (Zaa rfl λM hM _=>⟨rfl,x.rules.length - (k+1),by omega,k+1,by omega,by rw[ji],?_,rfl⟩)
    rw[g3,show rgR r=r.t.size from if_pos h1',<-Int.add_assoc,ZpK (ZaF ((s.states.take i).map rgS)+ZaF ((x.rules.take k).map rgR)) r.t.size]
    rfl
   ·have h1':¬r.k=1:=by have h1:(r.k == (1:Int))=false:=h1;simpa using h1
    rw[g3,show rgR r=0 from if_neg h1',Int.add_zero]
  ·have dP:¬(k:Int) < (x.rules.length:Nat):=dP
   have:k=x.rules.length:=by omega
   subst this
   rw[List.take_length,g2];rfl
 have bO:¬(i:Int) < (s.states.length:Nat):=bO
 have:i=s.states.length:=by omega
 subst this
 rw[List.take_length]
 intro b3
 refine Zan (ZhE s m3) (λv m' css h=>by obtain⟨_,rfl,_⟩:=h;rfl) ?_
 rintro g fi ca m4 cE ⟨b4,hv,nO⟩
 obtain⟨rfl,rfl,rfl⟩:=Zcu hv
 have fZ:=mLt dA cE
 refine⟨_,ZfU s m4 b4 (hr.mono fZ) nO,λy hy=>?_,λ_ css _ m' q=>css=[msV s.states.length (w64 (ms1 s)) (w64 (ms2 s)) (w64 (ZaF (((Zco s).take q).map paA))) (w64 (ZaF (((Zco s).take q).map Zq6))) (w64 (ZaF (((Zco s).take q).map vrA)))]/\q<=(Zco s).length,⟨?_,by omega⟩,?_,?_⟩
 ·obtain⟨z,_,rfl⟩:=List.mem_map.1 hy;rfl
 ·show[_]=[msV _ _ _ (w64 0) (w64 0) (w64 0)]
  rw[W_0];rfl
 ·rintro k0 s0 pa pn pc ek ev es eg ea en ec cs m5 q cP hq ⟨bX,gB⟩ b6
  obtain rfl:=(List.cons.inj bX).1
  have hq':(List.map (λa:Ac=>[Value.agg a.cs.toArray]) (Zco s))[(q:Nat)]?=some [Value.agg #[.int .u8 k0,.string s0,.slice pa pn pc,.int .u8 ek,ev,.string es,.int .i64 eg,.slice ea en ec]]:=hq
  rw[List.getElem?_map]at hq'
  obtain⟨a,ko,gF⟩:=Option.map_eq_some_iff.1 hq'
  have pb:q < (Zco s).length:=(zA0 ko).1
  simp only[Ac.cs,List.cons.injEq,Value.agg.injEq,Array.mk.injEq,Value.int.injEq,Value.string.injEq,Value.slice.injEq,true_and,and_true]at gF
  obtain⟨rfl,rfl,⟨rfl,rfl,rfl⟩,rfl,rfl,rfl,rfl,rfl,rfl,rfl⟩:=gF
  have gV:=mLt fZ cP
  have im:=Zvs hr (zA2 ko)
  have ia:a.parts.length<=100000:=im.n
  generalize mo:ZaF (((Zco s).take q).map paA)=P0
  generalize u0:ZaF (((Zco s).take q).map Zq6)=O0
  generalize sY:ZaF (((Zco s).take q).map vrA)=V0
  refine Zaa rfl (Zab (λh3=>?_) (λh3=>?_))
  ·have h3':a.k=3:=by simpa using h3
   refine⟨_,trivial,ZmH a.e s.states.length (w64 (ms1 s)) (w64 (ms2 s)) (w64 P0) O0 V0 _ m5 (im.mono gV).e,(λv _ _ h=>by rw[h.1];rfl),λm6 ef cs hv=>?_⟩
   rw[hv.2]
   have tz:=mLt gV ef
   refine⟨λxs css _ m' q=>∃k:Nat,k<=a.parts.length/\xs=[.int .i64 k]/\css=[msV s.states.length (w64 (ms1 s)) (w64 (ms2 s)) (w64 (P0+ZaF ((a.parts.take k).map paP))) (w64 (O0+Zn8 a.e+ZaF ((a.parts.take k).map Zo5))) (w64 (V0+vrE a.e+ZaF ((a.parts.take k).map vrP)))]/\q=a.parts.length - k,⟨a.parts.length,0,by omega,rfl,?_,rfl⟩,?_⟩
   ·show[_]=[msV _ _ _ (w64 (P0+0)) (w64 (O0+Zn8 a.e+0)) (w64 (V0+vrE a.e+0))]
    simp only[Int.add_zero]
   rintro z cs m6 q ef ⟨k,hk,hz,bX,rfl⟩
   obtain rfl:z=k:=by simpa using hz
   obtain rfl:=(List.cons.inj bX).1
   have fC:=mLt tz ef
   have ji:IntKind.i64.wrap ((k:Int)+1)=((k+1:Nat):Int):=by rw[Zal (by omega) (by omega)];rfl
   refine ZaB (λaB=>?_) (λbO=>⟨rfl,?_,by omega⟩)
   ·have aB:(k:Int) < (a.parts.length:Nat):=aB
    obtain⟨p,hp⟩:=Zao (show k < a.parts.length by omega)
    obtain⟨b8,o8,nu,gE⟩:=Zaj Pt.len (im.mono fC).row hp (by omega)
    have kC:=(im.mono fC).all p (zA2 hp)
    have g1:=Za7 paP hp
    have g2:=Za7 Zo5 hp
    have g3:=Za7 vrP hp
    refine⟨b8,o8,nu,⟨by omega,aB⟩,_,_,_,_,_,_,_,_,gE,λb9=>Zaa rfl (Zaa rfl (Zab (λh1=>Zam rfl (Zaa rfl (Zaa rfl (Zaa rfl (Zab (λh4=>?_) (λh4=>?_)))))) (λh1=>Zaa rfl (Zab (λh4=>?_) (λh4=>?_)))))⟩
    ·have h1':¬p.k=1:=by have h1:(!(p.k == (1:Int)))=true:=h1;simpa using h1
     have h4':p.k=4:=by have h4:(p.k == (4:Int))=true:=h4;simpa using h4
     refine⟨_,trivial,ZmH p.e s.states.length (w64 (ms1 s)) (w64 (ms2 s)) (IntKind.i64.wrap (RowKit.intOf (Value.int .i64 (w64 (P0+ZaF ((a.parts.take k).map paP))))+1)) _ _ _ m6 kC.e,(λv _ _ h=>by rw[h.1];rfl),λm7 eo cs hv=>⟨rfl,a.parts.length - (k+1),by omega,k+1,by omega,by rw[ji],?_,rfl⟩⟩
     rw[hv.2,g1,g2,g3,show paP p=1 from if_neg h1',show Zo5 p=Zn8 p.e from if_pos h4',show vrP p=vrE p.e from if_pos h4',<-Int.add_assoc,<-Int.add_assoc,<-Int.add_assoc,ZpK (P0+ZaF ((a.parts.take k).map paP)) 1]
     rfl
    ·have h1':¬p.k=1:=by have h1:(!(p.k == (1:Int)))=true:=h1;simpa using h1
     have h4':¬p.k=4:=by have h4:(p.k == (4:Int))=false:=h4;simpa using h4
     refine⟨rfl,a.parts.length - (k+1),by omega,k+1,by omega,by rw[ji],?_,rfl⟩
     rw[g1,g2,g3,show paP p=1 from if_neg h1',show Zo5 p=0 from if_neg h4',show vrP p=0 from if_neg h4',Int.add_zero,Int.add_zero,<-Int.add_assoc,ZpK (P0+ZaF ((a.parts.take k).map paP)) 1]
     rfl
    ·have h1':p.k=1:=by have h1:(!(p.k == (1:Int)))=false:=h1;simpa using h1
     have h4':p.k=4:=by have h4:(p.k == (4:Int))=true:=h4;simpa using h4
     omega
    ·have h1':p.k=1:=by have h1:(!(p.k == (1:Int)))=false:=h1;simpa using h1
     have h4':¬p.k=4:=by have h4:(p.k == (4:Int))=false:=h4;simpa using h4
     refine⟨rfl,a.parts.length - (k+1),by omega,k+1,by omega,by rw[ji],?_,rfl⟩
     rw[g1,g2,g3,show paP p=0 from if_pos h1',show Zo5 p=0 from if_neg h4',show vrP p=0 from if_neg h4',Int.add_zero,Int.add_zero,Int.add_zero]
   ·have bO:¬(k:Int) < (a.parts.length:Nat):=bO
    have:k=a.parts.length:=by omega
    subst this
    have e2:Zq6 a=Zn8 a.e+ZaF (a.parts.map Zo5):=by unfold Zq6;rw[if_pos h3']
    have e3:vrA a=vrE a.e+ZaF (a.parts.map vrP):=by unfold vrA;rw[if_pos h3']
    rw[List.take_length,Za7 paA ko,Za7 Zq6 ko,Za7 vrA ko,mo,u0,sY,e2,e3]
    rw[<-Int.add_assoc,<-Int.add_assoc]
    rfl
  ·have h3':¬a.k=3:=by simpa using h3
   refine⟨λxs css _ m' q=>∃k:Nat,k<=a.parts.length/\xs=[.int .i64 k]/\css=[msV s.states.length (w64 (ms1 s)) (w64 (ms2 s)) (w64 (P0+ZaF ((a.parts.take k).map paP))) (w64 (O0+ZaF ((a.parts.take k).map Zo5))) (w64 (V0+ZaF ((a.parts.take k).map vrP)))]/\q=a.parts.length - k,⟨a.parts.length,0,by omega,rfl,?_,rfl⟩,?_⟩
   ·show[_]=[msV _ _ _ (w64 (P0+0)) (w64 (O0+0)) (w64 (V0+0))]
    simp only[Int.add_zero]
   rintro z cs m6 q ef ⟨k,hk,hz,bX,rfl⟩
   obtain rfl:z=k:=by simpa using hz
   obtain rfl:=(List.cons.inj bX).1
   have fC:=mLt gV ef
   have ji:IntKind.i64.wrap ((k:Int)+1)=((k+1:Nat):Int):=by rw[Zal (by omega) (by omega)];rfl
   refine ZaB (λaB=>?_) (λbO=>⟨rfl,?_,by omega⟩)
   ·have aB:(k:Int) < (a.parts.length:Nat):=aB
    obtain⟨p,hp⟩:=Zao (show k < a.parts.length by omega)
    obtain⟨b8,o8,nu,gE⟩:=Zaj Pt.len (im.mono fC).row hp (by omega)
    have kC:=(im.mono fC).all p (zA2 hp)
    have g1:=Za7 paP hp
    have g2:=Za7 Zo5 hp
    have g3:=Za7 vrP hp
    refine⟨b8,o8,nu,⟨by omega,aB⟩,_,_,_,_,_,_,_,_,gE,λb9=>Zaa rfl (Zaa rfl (Zab (λh1=>Zam rfl (Zaa rfl (Zaa rfl (Zaa rfl (Zab (λh4=>?_) (λh4=>?_)))))) (λh1=>Zaa rfl (Zab (λh4=>?_) (λh4=>?_)))))⟩
    ·have h1':¬p.k=1:=by have h1:(!(p.k == (1:Int)))=true:=h1;simpa using h1
     have h4':p.k=4:=by have h4:(p.k == (4:Int))=true:=h4;simpa using h4
     refine⟨_,trivial,ZmH p.e s.states.length (w64 (ms1 s)) (w64 (ms2 s)) (IntKind.i64.wrap (RowKit.intOf (Value.int .i64 (w64 (P0+ZaF ((a.parts.take k).map paP))))+1)) _ _ _ m6 kC.e,(λv _ _ h=>by rw[h.1];rfl),λm7 eo cs hv=>⟨rfl,a.parts.length - (k+1),by omega,k+1,by omega,by rw[ji],?_,rfl⟩⟩
     rw[hv.2,g1,g2,g3,show paP p=1 from if_neg h1',show Zo5 p=Zn8 p.e from if_pos h4',show vrP p=vrE p.e from if_pos h4',<-Int.add_assoc,<-Int.add_assoc,<-Int.add_assoc,ZpK (P0+ZaF ((a.parts.take k).map paP)) 1]
     rfl
    ·have h1':¬p.k=1:=by have h1:(!(p.k == (1:Int)))=true:=h1;simpa using h1
     have h4':¬p.k=4:=by have h4:(p.k == (4:Int))=false:=h4;simpa using h4
     refine⟨rfl,a.parts.length - (k+1),by omega,k+1,by omega,by rw[ji],?_,rfl⟩
     rw[g1,g2,g3,show paP p=1 from if_neg h1',show Zo5 p=0 from if_neg h4',show vrP p=0 from if_neg h4',Int.add_zero,Int.add_zero,<-Int.add_assoc,ZpK (P0+ZaF ((a.parts.take k).map paP)) 1]
     rfl
    ·have h1':p.k=1:=by have h1:(!(p.k == (1:Int)))=false:=h1;simpa using h1
     have h4':p.k=4:=by have h4:(p.k == (4:Int))=true:=h4;simpa using h4
     omega
    ·have h1':p.k=1:=by have h1:(!(p.k == (1:Int)))=false:=h1;simpa using h1
     have h4':¬p.k=4:=by have h4:(p.k == (4:Int))=false:=h4;simpa using h4
     refine⟨rfl,a.parts.length - (k+1),by omega,k+1,by omega,by rw[ji],?_,rfl⟩
     rw[g1,g2,g3,show paP p=0 from if_pos h1',show Zo5 p=0 from if_neg h4',show vrP p=0 from if_neg h4',Int.add_zero,Int.add_zero,Int.add_zero]
   ·have bO:¬(k:Int) < (a.parts.length:Nat):=bO
    have:k=a.parts.length:=by omega
    subst this
    have e2:Zq6 a=ZaF (a.parts.map Zo5):=by unfold Zq6;rw[if_neg h3',Int.zero_add]
    have e3:vrA a=ZaF (a.parts.map vrP):=by unfold vrA;rw[if_neg h3',Int.zero_add]
    rw[List.take_length,Za7 paA ko,Za7 Zq6 ko,Za7 vrA ko,mo,u0,sY,e2,e3]
    rfl
 ·rintro cs m5 cP ⟨bX,_⟩
  rw[List.length_map,List.take_length]at bX
  obtain rfl:=(List.cons.inj bX).1
  refine Zaa rfl (Zaf (mLt fZ cP) ?_)
  show Value.agg _=Value.agg _
  unfold ZiA;rw[hl,if_pos rfl];rfl
theorem NmSt.up{m mm mL:Mem}{v0:Value}{a:Option Addr}{c:Nat}{l:List ByteArray}(h:NmSt m v0 mm a c l)(cy:mm.le mL):NmSt m v0 mL a c l:=⟨h.row.mono cy,mLt h.base (ZkL cy),h.new⟩
theorem Zwc{a:Option Addr}{n c b:Nat}(h:Yn (.slice a n c) b):∃o e,a=some ⟨b,o,e⟩:=by
 cases a with
 | none=>simp[Yn,Tok.blk]at h
 | some q=>
  obtain⟨b',o,e⟩:=q
  obtain rfl:b'=b:=by simpa[Yn,Tok.blk]using h
  exact⟨o,e,rfl⟩
structure Nl (l:List ByteArray)(a:Option Addr)(c:Nat):Prop where
 nil:l=[]->a=none
 cap:l.length<=c
def Zyo(l:List ByteArray):Value->Mem->List (List Value)->Prop:=λv m' _=>∃a c,v=.slice a l.length c/\rowRd m' a (Zcb l)/\l.length<=c
theorem Zk0{l}:∀(v:Value)(m':Mem) (css:List (List Value)),Zyo l v m' css->Shape.fits .slice v=true:=λv _ _ ⟨_,_,e,_⟩=>by rw[e];rfl
def ZBO(v0:Value)(m:Mem)(l:List ByteArray):RTY:=λv m' css tvs=>∃a c,v=.tuple #[]/\css=[[.slice a l.length c]]/\tvs=[.slice a l.length c]/\rowRd m' a (Zcb l)/\(∀b,Yn (.slice a l.length c) b->Yn v0 b\/(m.free b/\m.k b=none))/\Nl l a c
theorem Zj2{v0 m l}:∀(v:Value)(m':Mem) (css:List (List Value)) (tvs:List Value),ZBO v0 m l v m' css tvs->Shape.fits (.tup []) v=true:=λv _ _ _ ⟨_,_,h,_⟩=>by rw[h];rfl
theorem ZoT(l out:List ByteArray)(la:Option Addr)(lc:Nat)(a:Option Addr)(c c0b:Nat)(m:Mem)(hl:rowRd (m.off (Yn (.slice a out.length c))) la (Zcb l))(ho:rowRd m a (Zcb out))(dR:Nl out a c)(hb:out.length+l.length<=100000):
  CXY Tryz.prog 108 #[.slice la l.length lc,.pointer (some ⟨c0b,0,none⟩)] m (Yn (.slice a out.length c)) [⟨c0b,[.slice a out.length c],80,1,false,true⟩] [⟨.slice a out.length c,1⟩] (ZBO (.slice a out.length c) m (l.foldl Zdv out)):=by
 apply Zh8
 refine⟨λxs css tvs mm q=>∃(i:Nat)(a':Option Addr)(c':Nat),i<=l.length/\xs=[.int .i64 i]/\css=[[.slice a' ((l.take i).foldl Zdv out).length c']]/\tvs=[.slice none 0 0,.slice a' ((l.take i).foldl Zdv out).length c']/\NmSt m (.slice a out.length c) mm a' c' ((l.take i).foldl Zdv out)/\Nl ((l.take i).foldl Zdv out) a' c'/\q=l.length - i,
  ⟨_,0,a,c,by omega,rfl,rfl,rfl,⟨ho,Mem.le_refl _,λb h=>.inl h⟩,dR,rfl⟩,?_⟩
 rintro z cs a1 n1 c1 a2 n2 c2 mm q _ ⟨i,a',c',hi,hz,bX,cQ,hS,hn,rfl⟩
 obtain rfl:z=i:=by simpa using hz
 simp only[List.cons.injEq,Value.slice.injEq,and_true]at bX cQ
 obtain⟨⟨rfl,rfl,rfl⟩,rfl,rfl,rfl⟩:=cQ
 subst bX
 have aH:=ZmA (l.take i) out
 rw[List.length_take]at aH
 have kt:IntKind.i64.wrap ((i:Int)+1)=((i+1:Nat):Int):=by rw[Zal (by omega) (by omega)];rfl
 refine ZaB (λaB=>?_) (λbO=>⟨rfl,?_⟩)
 ·have aB:(i:Int) < (l.length:Nat):=aB
  obtain⟨s,hs⟩:=Zfi (show i < l.length by omega)
  have cB:=Zfe Zdv out hs
  obtain⟨b,o,ha,hv⟩:=ZA1 (hl.mono (mLt hS.base (Mem.off_le _ _))) (show(Zcb l)[i]?=some (.string s) by unfold Zcb;rw[List.getElem?_map,hs];rfl)
  refine⟨b,o,ha,⟨by omega,aB⟩,_,hv,Zam rfl (Zah (ZgZ ((l.take i).foldl Zdv out) a2 c2 s mm (by omega) hS.row) λm2 aK=>?_)⟩
  have nW:=hS.up aK
  refine Zab (λh=>Zam rfl (Zaa rfl λb3 fY=>Zaa rfl ?_)) (λh=>⟨rfl,rfl,?_⟩)
  ·have ie:((l.take i).foldl Zdv out).any (λy=>eqS s y)=false:=by simpa using h
   have dJ:Zdv ((l.take i).foldl Zdv out) s=(l.take i).foldl Zdv out++[s]:=ZzP ie
   rw[dJ]at cB
   have cy:m2.le (m2.add b3 [.string s]):=Mem.le_add fY _
   have pA:=nW.up cy
   refine⟨.inl rfl,Zcb ((l.take i).foldl Zdv out),[.string s],by rw[Zei];exact(Nat.mul_one _).symm,rfl,pA.row,.inr ⟨b3,0,rfl,Zeh m2 b3 _⟩,λu hu=>?_,by show(((l.take i).foldl Zdv out).length+1)*16<=_;omega,by show((l.take i).foldl Zdv out).length+1<=_;omega,λa5 c5 m5 cP cw hT=>⟨rfl,rfl,l.length - (i+1),by omega,i+1,a5,c5,by omega,by rw[kt],?_,?_,?_,?_,rfl⟩⟩
   ·obtain rfl:u=.string s:=by simpa using hu
    rfl
   ·rw[cB,zA1];rfl
   ·rw[cB,zA1];rfl
   ·have e:((l.take i).foldl Zdv out++[s]).length=((l.take i).foldl Zdv out).length+1:=by rw[zA1];rfl
    rw[cB]
    refine pA.step (mLt (Mem.off_le _ _) cP) (by unfold Zcb at cw ⊢;rw[List.map_append];exact cw) λb' hb'=>?_
    obtain⟨oo,oe,hb'⟩:=Zwc hb'
    rcases hT.2 with h|⟨b6,o6,ha',h⟩
    ·rw[h]at hb';cases hb'
    ·rw[ha']at hb';cases hb'
     rcases h with h|⟨_,h2,h3⟩
     ·left
      have h:a2=a5:=h
      rw[h,ha'];simp[Yn,Tok.blk]
     ·exact .inr ⟨h2,h3⟩
   ·rw[cB];exact⟨λe=>by simp at e,by rw[zA1];exact hT.1⟩
  ·have ie:((l.take i).foldl Zdv out).any (λy=>eqS s y)=true:=by simpa using h
   have dJ:Zdv ((l.take i).foldl Zdv out) s=(l.take i).foldl Zdv out:=ZzQ ie
   rw[dJ]at cB
   exact⟨l.length - (i+1),by omega,i+1,a2,c2,by omega,by rw[kt],by rw[cB],by rw[cB],by rw[cB];exact nW,by rw[cB];exact hn,rfl⟩
 ·have bO:¬(i:Int) < (l.length:Nat):=bO
  have hi:i=l.length:=by omega
  subst hi
  rw[List.take_length]at hS hn ⊢
  exact⟨a2,c2,rfl,rfl,rfl,hS.row,hS.new,hn⟩
def ZAO(r:Ru):Value->Mem->List (List Value)->Prop:=λv m' _=>∃s:Sc,v=s.v/\RepC m' s/\s.light=Zf0 r/\Zco s=r.acts
theorem Zfl{r:Ru}:∀(v:Value)(m':Mem) (css:List (List Value)),ZAO r v m' css->Shape.fits (.agg [.int .i64,.slice,.slice]) v=true:=λv _ _ ⟨t,e,_⟩=>by rw[e];rfl
theorem Ztj(r:Ru)(m:Mem)(hr:RepR m r):CX Tryz.prog 75 #[.agg r.cs.toArray] m [] (ZAO r):=by
 apply Zti
 intro b m1 aG _ b1 b2 nP b3 fY
 have h2:m1.le (m1.add b2 r.cs):=Mem.le_add nP _
 have h3:(m1.add b2 r.cs).le ((m1.add b2 r.cs).add b3 [.string ⟨#[]⟩,.slice (some ⟨b2,0,none⟩) 1 1]):=Mem.le_add fY _
 have u2:=mLt aG (mLt h2 h3)
 refine⟨_,u2,Mem.le_refl _,⟨0,none,0,[],some ⟨b3,0,none⟩,1,[⟨⟨#[]⟩,some ⟨b2,0,none⟩,1,[r]⟩]⟩,rfl,⟨by show I64 0;unfold I64;omega,by show 0<=few;omega,.inl rfl,by simp,by show 1<=few;unfold few;omega,Zbk,λx hx=>?_,Nat.le_refl _,Nat.le_refl _⟩,?_,?_⟩
 ·simp only[List.mem_singleton]at hx
  subst hx
  have aC:rowRd (m1.add b2 r.cs) (some ⟨b2,0,none⟩) ([r].map Ru.cs).flatten:=by simpa using(Zbk (m:=m1) (b:=b2) (cs:=r.cs))
  exact⟨by show(ByteArray.mk #[]).size<=_;decide,by show 1<=few;unfold few;omega,aC.mono h3,λp hp=>by
   simp only[List.mem_singleton]at hp;subst hp;exact hr.mono u2⟩
 ·unfold Sc.light Sc.weight Zf0
  simp only[List.length_nil,List.length_singleton,List.map_cons,List.map_nil,ZaF,wS]
  congr 1
  refine propext ?_
  constructor <;> intro h <;> simp only[Int.add_zero]at h ⊢ <;> omega
 ·simp[Zco,ZkP]
theorem ZrG(e:E){M0 mm:Mem}{v0:Value}{a:Option Addr}{c:Nat}{o:List ByteArray}(hS:NmSt M0 v0 mm a c o)(hn:Nl o a c)(he:RepE (M0.off (Yn v0)) e):
  CX Tryz.prog 109 #[e.v] mm [] (λv m' _=>∃a1 c1,v=.slice a1 e.vars.length c1/\∃m1:Mem,m1.le m'/\rowRd (m1.off (Yn (.slice a o.length c))) a1 (Zcb e.vars)):=by
 refine((Zv0 e (mm.off (Yn (.slice a o.length c))) (RepE.mono' he hS.base)).frame2 (Mem.off_le _ _)).mono ?_
 rintro v m' css _ ⟨m1,h1,h2,h3,a1,c1,hv,aC⟩
 refine⟨a1,c1,hv,m1,h2,?_⟩
 rcases aC with h|⟨b,oo,ha,h⟩
 ·exact .inl h
 ·refine .inr ⟨b,oo,ha,λj u hj=>?_⟩
  by_cases hY:Yn (.slice a o.length c) b
  ·exfalso
   obtain⟨o2,e2,eX⟩:=Zwc hY
   have ho:o≠[]:=λe=>by rw[hn.nil e]at eX;cases eX
   rcases hS.row with h4|⟨b4,o4,kU,h4⟩
   ·have:=congrArg List.length h4
    rw[Zei]at this
    exact ho (List.eq_nil_of_length_eq_zero (by simpa using this))
   ·rw[eX]at kU;cases kU
    have aB:0 < (Zcb o).length:=by rw[Zei];exact List.length_pos_iff.2 ho
    have h5:=h3 _ _ _ (h4 0 _ (zA3 aB)) (oo+j)
    have h6:(mm.off (Yn (.slice a o.length c))) b (oo+j)=none:=Mem.off_free hY _
    rw[h6]at h5
    have h7:=h j u hj
    rw[h5]at h7;cases h7
  ·rw[Mem.off_at hY];exact h j u hj
theorem ZBy(m:Mem):NmSt m (.slice none 0 0) m none 0 []:=⟨.inl rfl,Mem.le_refl _,λb h=>.inl h⟩
theorem NmSt.put{M0 mm m':Mem}{v0:Value}{a a':Option Addr}{c c':Nat}{o l:List ByteArray}(h:NmSt M0 v0 mm a c o)(cy:(mm.off (Yn (.slice a o.length c))).le m')(hr:rowRd m' a' (Zcb l))(hn:∀b,Yn (.slice a' l.length c') b->Yn (.slice a o.length c) b\/(mm.free b/\mm.k b=none)):NmSt M0 v0 m' a' c' l:=h.step cy hr hn
theorem NmSt.low{m mm:Mem}{a:Option Addr}{c:Nat}{l:List ByteArray}(h:NmSt m (.slice none 0 0) mm a c l):m.le mm:=by
 have hY:∀b,¬Yn (.slice none 0 0) b:=λb hb=>by simp[Yn,Tok.blk]at hb
 have fc:m.le (m.off (Yn (.slice none 0 0))):=⟨λb o v hv=>by rw[Mem.off_at (hY b)];exact hv,λb e he=>by rw[Mem.off_k (hY b)];exact he⟩
 exact mLt fc (mLt h.base (Mem.off_le _ _))
theorem Zuy(m:Mem):m.le (m.off (Yn (.slice none 0 0))):=ZhO (Mem.le_refl m) λb hb=>by simp[Yn,Tok.blk]at hb
theorem Zyp{M0 mm:Mem}{v0:Value}{a:Option Addr}{c b:Nat}{o:List ByteArray}(hS:NmSt M0 v0 mm a c o)(hn:Nl o a c)(hf:mm.free b):¬Yn (.slice a o.length c) b:=λhY=>by
 obtain⟨o2,e2,eX⟩:=Zwc hY
 have ho:o≠[]:=λe=>by rw[hn.nil e]at eX;cases eX
 rcases hS.row with h4|⟨b4,o4,kU,h4⟩
 ·have:=congrArg List.length h4
  rw[Zei]at this
  exact ho (List.eq_nil_of_length_eq_zero (by simpa using this))
 ·rw[eX]at kU;cases kU
  have aB:0 < (Zcb o).length:=by rw[Zei];exact List.length_pos_iff.2 ho
  have:=h4 0 _ (zA3 aB)
  rw[hf]at this;cases this
theorem ZoU{cs:List Value}{a7:Option Addr}{c7 d7:Nat}{v0:Value}{m m7:Mem}{l:List ByteArray}{v:Value}(h:ZBO v0 m l v m7 [cs] [.slice a7 c7 d7]):c7=l.length/\cs=[.slice a7 l.length d7]/\rowRd m7 a7 (Zcb l)/\(∀b,Yn (.slice a7 l.length d7) b->Yn v0 b\/(m.free b/\m.k b=none))/\Nl l a7 d7:=by
 obtain⟨a8,c8,_,bX,cQ,aC,bN,dR⟩:=h
 simp only[List.cons.injEq,Value.slice.injEq,and_true]at bX cQ
 obtain⟨rfl,rfl,rfl⟩:=cQ
 exact⟨rfl,bX,aC,bN,dR⟩
theorem Zuz(r:Ru)(w:Bool)(m:Mem)(hr:RepR m r):CX Tryz.prog 74 #[.agg r.cs.toArray,.bool w] m [] (Zyo (Zjr w r)):=by
 have nV:r.acts.length<=100000:=hr.len
 apply ZoM
 intro b m1 aG io fO _ b1 m2 aK _ _ _
 have cV:=mLt aG aK
 refine⟨_,trivial,Ztj r m2 (hr.mono cV),Zfl,?_⟩
 rintro n a n1 c a1 n2 c1 m3 aR ⟨s,hv,hs,d5,iH⟩
 rw[hv]
 have dA:=mLt cV aR
 refine Zah (Zcc s m3 hs) λm4 cE=>Zab (λh=>Zaf (mLt dA cE) ?_) (λh=>?_)
 ·have hl:Zf0 r=false:=by rw[<-d5];simpa using h
  unfold Zjr
  rw[hl]
  exact⟨none,0,rfl,.inl rfl,Nat.le_refl _⟩
 have hl:Zf0 r=true:=by rw[<-d5];simpa using h
 have fZ:=mLt dA cE
 intro b3 b4
 refine⟨_,trivial,Ztj r m4 (hr.mono fZ),Zfl,?_⟩
 rintro n' a' n1' c' a1' n2' c1' m5 cP ⟨s',hv',hs',lb,nv⟩
 rw[hv']
 have gV:=mLt fZ cP
 refine Zan (ZhE s' m5) (λv m' css h=>by obtain⟨_,rfl,_⟩:=h;rfl) ?_
 rintro g fi ca m6 ef ⟨b5,fB,tA⟩
 obtain⟨rfl,rfl,rfl⟩:=Zcu fB
 have fC:=mLt gV ef
 have pB:=ZfU s' m6 b5 (hs'.mono ef) tA
 rw[nv]at pB
 have jj:=hr.mono fC
 refine⟨m6,Mem.le_refl _,_,pB,λy hy=>?_,λ_ css tvs mm q=>∃(a:Option Addr)(c:Nat),q<=r.acts.length/\css=[[.slice a ((r.acts.take q).foldl (ZeS w) []).length c]]/\tvs=[.slice a ((r.acts.take q).foldl (ZeS w) []).length c]/\NmSt m6 (.slice none 0 0) mm a c ((r.acts.take q).foldl (ZeS w) [])/\Nl ((r.acts.take q).foldl (ZeS w) []) a c,⟨none,0,by omega,rfl,rfl,ZBy m6,⟨λ_=>rfl,Nat.le_refl _⟩⟩,?_,?_⟩
 ·obtain⟨z,_,rfl⟩:=List.mem_map.1 hy;rfl
 ·rintro k0 s0 pa pn pc k1 x1 s1 g1 sa sn sc cs ta tn tc mm q jd hq ⟨a',c',gB,bX,cQ,hS,hn⟩ b6
  simp only[List.cons.injEq,Value.slice.injEq,and_true]at bX cQ
  obtain⟨rfl,rfl,rfl⟩:=cQ
  subst bX
  have hq':(List.map (λa:Ac=>[Value.agg a.cs.toArray]) r.acts)[(q:Nat)]?=some [Value.agg #[.int .u8 k0,.string s0,.slice pa pn pc,.int .u8 k1,x1,.string s1,.int .i64 g1,.slice sa sn sc]]:=hq
  rw[List.getElem?_map]at hq'
  obtain⟨x,hx,pC⟩:=Option.map_eq_some_iff.1 hq'
  have pb:=(zA0 hx).1
  simp only[Ac.cs,List.cons.injEq,Value.agg.injEq,Array.mk.injEq,Value.int.injEq,Value.string.injEq,Value.slice.injEq,true_and,and_true]at pC
  obtain⟨rfl,rfl,⟨rfl,rfl,rfl⟩,rfl,rfl,rfl,rfl,rfl,rfl,rfl⟩:=pC
  have cB:=Zfe (ZeS w) [] hx
  have xm:=ZxG w hl q hx
  have dd:=jj.all x (zA2 hx)
  have yw:=ZqJ x
  have ia:x.parts.length<=100000:=dd.n
  obtain⟨o,ho⟩:∃o,o=(r.acts.take q).foldl (ZeS w) []:=⟨_,rfl⟩
  rw[<-ho]at hS hn cB xm ⊢
  have iP:ZeS w o x=o->NmSt m6 (.slice none 0 0) mm ta tc o/\((r.acts.take (q+1)).foldl (ZeS w) []=o):=λh=>⟨hS,by rw[cB,h]⟩
  refine Zaa rfl ?_
  cases w with
  | true=>
   refine ZwD rfl ⟨x.k == 2||x.k == 3,Zab (λh=>⟨rfl,rfl,by rw[h];rfl⟩) (λh=>⟨rfl,rfl,by rw[h];rfl⟩),Zab (λh b7 lN=>?_) (λh=>?_)⟩
   ·have hu:ZeS true o x=Zdv o x.s:=by
     unfold ZeS;rw[if_pos rfl,if_pos (by simpa using h)]
    have qI:=hS.up (Mem.le_add lN [.string x.s])
    have tB:=Zyp hS hn lN
    refine⟨_,_,ZoT [x.s] o (some ⟨b7,0,none⟩) 1 ta tc b3 (mm.add b7 [.string x.s]) ?_ qI.row hn (by simp;omega),λt ht bb dT=>?_,λbb dT=>.inl ⟨_,by simp,dT⟩,Zj2,?_⟩
    ·refine .inr ⟨b7,0,rfl,λj v hj=>?_⟩
     rw[Mem.off_at tB]
     exact Zeh mm b7 _ j v hj
    ·obtain rfl:t=_:=by simpa using ht
     exact dT
    ·rintro m7 eo _ cs7 a7 c7 d7 hp
     obtain⟨rfl,rfl,aC,bN,dR⟩:=ZoU hp
     have hS':=qI.step eo aC bN
     rw[show[x.s].foldl Zdv o=Zdv o x.s from rfl,<-hu,<-cB]at hS' dR ⊢
     exact⟨hS'.low,rfl,a7,d7,by omega,rfl,rfl,hS',dR⟩
   ·have hu:ZeS true o x=o:=by
     unfold ZeS;rw[if_pos rfl,if_neg (by simpa using h)]
    have:=iP hu
    exact⟨jd,rfl,ta,tc,by omega,by rw[this.2],by rw[this.2],by rw[this.2];exact hS,by rw[this.2];exact hn⟩
  | false=>
   have hu:ZeS false o x=x.parts.foldl ZcF (Zck o x):=by unfold ZeS;rw[if_neg (by decide)]
   have gQ:=Zrb x.e
   refine Zor rfl ⟨λ_ css tvs mm'=>∃(a:Option Addr)(c:Nat),css=[[.slice a (Zck o x).length c]]/\tvs=[.slice a (Zck o x).length c]/\NmSt m6 (.slice none 0 0) mm' a c (Zck o x)/\Nl (Zck o x) a c,Zab (λh=>?_) (λh=>?_),?_⟩
   ·have hk:Zck o x=x.e.vars.foldl Zdv o:=by unfold Zck;rw[if_pos (by simpa using h)]
    refine⟨λ_ _ _=>_,_,rfl,ZrG x.e hS hn (RepE.mono' dd.e (Zuy m6)),(λv _ _ ⟨_,_,e,_⟩=>by rw[e];rfl),?_⟩
    rintro a8 n8 c8 m8 eA ⟨a9,c9,lR,m9,ga,jT⟩ M hM u4
    simp only[Value.slice.injEq]at lR
    obtain⟨rfl,rfl,rfl⟩:=lR
    have pD:=hS.up hM
    refine⟨_,_,ZoT x.e.vars o a8 c8 ta tc b3 M (jT.mono (ZkL (mLt ga u4))) pD.row hn (by omega),λt ht bb dT=>?_,λbb dT=>.inl ⟨_,by simp,dT⟩,Zj2,?_⟩
    ·obtain rfl:t=_:=by simpa using ht
     exact dT
    ·rintro m7 eo _ cs7 a7 c7 d7 hp
     obtain⟨rfl,rfl,aC,bN,dR⟩:=ZoU hp
     have hS':=pD.step eo aC bN
     rw[<-hk]at hS' dR ⊢
     exact⟨rfl,rfl,a7,d7,rfl,rfl,hS',dR⟩
   ·have hk:Zck o x=o:=by unfold Zck;rw[if_neg (by simpa using h)]
    exact⟨rfl,rfl,ta,tc,by rw[hk],by rw[hk],by rw[hk];exact hS,by rw[hk];exact hn⟩
   rintro cs ja jn jc m7 _ ⟨a',c',bX,cQ,qI,xn⟩
   simp only[List.cons.injEq,Value.slice.injEq,and_true]at bX cQ
   obtain⟨rfl,rfl,rfl⟩:=cQ
   subst bX
   refine⟨λxs css tvs mm' q=>∃(j:Nat)(a:Option Addr)(c:Nat),j<=x.parts.length/\xs=[.int .i64 j]/\css=[[.slice a ((x.parts.take j).foldl ZcF (Zck o x)).length c]]/\tvs=[.slice a ((x.parts.take j).foldl ZcF (Zck o x)).length c]/\NmSt m6 (.slice none 0 0) mm' a c ((x.parts.take j).foldl ZcF (Zck o x))/\Nl ((x.parts.take j).foldl ZcF (Zck o x)) a c/\q=x.parts.length - j,⟨_,0,ja,jc,by omega,rfl,rfl,rfl,qI,xn,rfl⟩,?_⟩
   rintro z cs a1 n1 c1 m8 q2 _ ⟨j,a',c',hj,hz,bX,cQ,ku,jg,rfl⟩
   obtain rfl:z=j:=by simpa using hz
   simp only[List.cons.injEq,Value.slice.injEq,and_true]at bX cQ
   obtain⟨rfl,rfl,rfl⟩:=cQ
   subst bX
   have i6:IntKind.i64.wrap ((j:Int)+1)=((j+1:Nat):Int):=by rw[Zal (by omega) (by omega)];rfl
   have xo:=ZhA o x j
   refine ZaB (λaB=>?_) (λbO=>?_)
   ·have aB:(j:Int) < (x.parts.length:Nat):=aB
    obtain⟨p,hp⟩:=Zfi (show j < x.parts.length by omega)
    have qJ:=dd.mono ku.low
    obtain⟨b8,o8,nu,nA⟩:=Zaj Pt.len qJ.row hp (by omega)
    have gE:=dd.all p (zA2 hp)
    have ff:=Zfe ZcF (Zck o x) hp
    have xp:=ZhA o x (j+1)
    have tC:=Zrb p.e
    obtain⟨o',ho'⟩:∃o',o'=(x.parts.take j).foldl ZcF (Zck o x):=⟨_,rfl⟩
    rw[<-ho']at ku jg ff xo ⊢
    refine⟨b8,o8,nu,⟨by omega,aB⟩,_,_,_,_,_,_,_,_,nA,λb9=>Zaa rfl (Zaa rfl (Zab (λh=>Zaa rfl λb10 gv=>?_) (λh=>Zaa rfl (Zab (λh2=>?_) (λh2=>?_)))))⟩
    ·have h:(p.k == 2)=true:=h
     have hk:ZcF o' p=Zdv o' p.s:=by unfold ZcF;rw[if_pos (by simpa using h)]
     have pE:=ku.up (Mem.le_add gv [.string p.s])
     have tB:=Zyp ku jg gv
     refine⟨_,_,ZoT [p.s] o' (some ⟨b10,0,none⟩) 1 a1 c1 b3 (m8.add b10 [.string p.s]) ?_ pE.row jg (by simp;omega),λt ht bb dT=>?_,λbb dT=>.inl ⟨_,by simp,dT⟩,Zj2,?_⟩
     ·refine .inr ⟨b10,0,rfl,λj v hj=>?_⟩
      rw[Mem.off_at tB]
      exact Zeh m8 b10 _ j v hj
     ·obtain rfl:t=_:=by simpa using ht
      exact dT
     ·rintro m9 ga _ cs9 a9 c9 d9 tD
      obtain⟨rfl,rfl,aC,bN,dR⟩:=ZoU tD
      have hS':=pE.step ga aC bN
      rw[show[p.s].foldl Zdv o'=Zdv o' p.s from rfl,<-hk,<-ff]at hS' dR ⊢
      exact⟨rfl,rfl,x.parts.length - (j+1),by omega,j+1,a9,d9,by omega,by rw[i6],rfl,rfl,hS',dR,rfl⟩
    ·have h:(p.k == 2)=false:=h
     have h2:(p.k == 4)=true:=h2
     have hk:ZcF o' p=p.e.vars.foldl Zdv o':=by unfold ZcF;rw[if_neg (by simpa using h),if_pos (by simpa using h2)]
     refine⟨λ_ _ _=>_,_,rfl,ZrG p.e ku jg (RepE.mono' gE.e (Zuy m6)),(λv _ _ ⟨_,_,e,_⟩=>by rw[e];rfl),?_⟩
     rintro a10 n10 c10 m10 fu ⟨a9,c9,lR,m9,ga,jT⟩ M hM pF
     simp only[Value.slice.injEq]at lR
     obtain⟨rfl,rfl,rfl⟩:=lR
     have pD:=ku.up hM
     refine⟨_,_,ZoT p.e.vars o' a10 c10 a1 c1 b3 M (jT.mono (ZkL (mLt ga pF))) pD.row jg (by omega),λt ht bb dT=>?_,λbb dT=>.inl ⟨_,by simp,dT⟩,Zj2,?_⟩
     ·obtain rfl:t=_:=by simpa using ht
      exact dT
     ·rintro m11 fL _ cs9 a9 c9 d9 tD
      obtain⟨rfl,rfl,aC,bN,dR⟩:=ZoU tD
      have hS':=pD.step fL aC bN
      rw[<-hk,<-ff]at hS' dR ⊢
      exact⟨rfl,rfl,x.parts.length - (j+1),by omega,j+1,a9,d9,by omega,by rw[i6],rfl,rfl,hS',dR,rfl⟩
    ·have h:(p.k == 2)=false:=h
     have h2:(p.k == 4)=false:=h2
     have hk:ZcF o' p=o':=by unfold ZcF;rw[if_neg (by simpa using h),if_neg (by simpa using h2)]
     rw[hk]at ff
     exact⟨rfl,rfl,x.parts.length - (j+1),by omega,j+1,a1,c1,by omega,by rw[i6],by rw[ff],by rw[ff],by rw[ff];exact ku,by rw[ff];exact jg,rfl⟩
   ·have bO:¬(j:Int) < (x.parts.length:Nat):=bO
    have hj:j=x.parts.length:=by omega
    subst hj
    rw[List.take_length,<-hu,<-cB]at ku jg ⊢
    exact⟨ku.low,rfl,a1,c1,by omega,rfl,rfl,ku,jg⟩
 ·rintro cs a7 n7 c7 m7 eo ⟨a',c',_,bX,cQ,hS,hn⟩
  rw[List.length_map,List.take_length]at bX cQ hS hn
  simp only[List.cons.injEq,Value.slice.injEq,and_true]at bX cQ
  obtain⟨rfl,rfl,rfl⟩:=cQ
  subst bX
  refine Zam rfl (ZaN (mLt fC eo) ?_)
  unfold Zjr
  rw[hl,if_pos rfl]
  exact⟨a7,c7,rfl,hS.row,hn.cap⟩
theorem Ztk(r:Ru)(m:Mem)(hr:RepR m r):CX Tryz.prog 27 #[.agg r.cs.toArray] m [] (Zyo (Zjr false r)):=by
 apply Zl3
 intro b m0 dQ _
 refine Zan (Zuz r false m0 (hr.mono dQ)) Zk0 ?_
 rintro a n c m1 aG ⟨a',c',hv,aC,hc⟩
 exact ZaN (mLt dQ aG) ⟨a',c',hv,aC,hc⟩
theorem Zp9(r:Ru)(m:Mem)(hr:RepR m r):CX Tryz.prog 28 #[.agg r.cs.toArray] m [] (Zyo (Zjr true r)):=by
 apply ZjZ
 intro b m0 dQ _
 refine Zan (Zuz r true m0 (hr.mono dQ)) Zk0 ?_
 rintro a n c m1 aG ⟨a',c',hv,aC,hc⟩
 exact ZaN (mLt dQ aG) ⟨a',c',hv,aC,hc⟩
theorem Zwd(r:Ru)(m:Mem)(hr:RepR m r):CX Tryz.prog 27 #[.agg r.cs.toArray] m [] (Zym (Zjr false r)):=(Ztk r m hr).mono λ_ _ _ _ ⟨a,c,h1,h2,_⟩=>⟨a,c,h1,h2⟩
theorem Ztl(r:Ru)(m:Mem)(hr:RepR m r):CX Tryz.prog 28 #[.agg r.cs.toArray] m [] (Zym (Zjr true r)):=(Zp9 r m hr).mono λ_ _ _ _ ⟨a,c,h1,h2,_⟩=>⟨a,c,h1,h2⟩
theorem Zyq(r:Ru)(m:Mem)(hr:RepR m r):CX Tryz.prog 30 #[.agg r.cs.toArray] m [] (Ret (.int .i64 (ZxH r))):=by
 have nV:r.acts.length<=100000:=hr.len
 apply ZoO
 intro b m2 cV _
 refine⟨_,trivial,Ztj r m2 (hr.mono cV),Zfl,?_⟩
 rintro n a n1 c a1 n2 c1 m3 aR ⟨s,hv,hs,d5,iH⟩
 rw[hv]
 have dA:=mLt cV aR
 refine Zah (Zcc s m3 hs) λm4 cE=>Zab (λh=>Zaf (mLt dA cE) ?_) (λh=>?_)
 ·have hl:Zf0 r=false:=by rw[<-d5];simpa using h
  show Value.int _ _=Value.int _ _
  unfold ZxH
  rw[hl];rfl
 have hl:Zf0 r=true:=by rw[<-d5];simpa using h
 have fZ:=mLt dA cE
 intro b3
 refine⟨_,trivial,Ztj r m4 (hr.mono fZ),Zfl,?_⟩
 rintro n' a' n1' c' a1' n2' c1' m5 cP ⟨s',hv',hs',lb,nv⟩
 rw[hv']
 have gV:=mLt fZ cP
 refine Zan (ZhE s' m5) (λv m' css h=>by obtain⟨_,rfl,_⟩:=h;rfl) ?_
 rintro g fi ca m6 ef ⟨b5,fB,tA⟩
 obtain⟨rfl,rfl,rfl⟩:=Zcu fB
 have fC:=mLt gV ef
 have pB:=ZfU s' m6 b5 (hs'.mono ef) tA
 rw[nv]at pB
 have jj:=hr.mono fC
 refine⟨_,pB,λy hy=>?_,λ_ css tvs mm q=>q<=r.acts.length/\css=[[.int .i64 ((r.acts.take q).foldl ZwC (-1))]],⟨by omega,rfl⟩,?_,?_⟩
 ·obtain⟨z,_,rfl⟩:=List.mem_map.1 hy;rfl
 ·rintro k0 s0 pa pn pc k1 x1 s1 g1 sa sn sc cs mm q jd hq ⟨gB,bX⟩ b6
  obtain rfl:cs=_:=by simpa using bX
  have hq':(List.map (λa:Ac=>[Value.agg a.cs.toArray]) r.acts)[(q:Nat)]?=some [Value.agg #[.int .u8 k0,.string s0,.slice pa pn pc,.int .u8 k1,x1,.string s1,.int .i64 g1,.slice sa sn sc]]:=hq
  rw[List.getElem?_map]at hq'
  obtain⟨x,hx,pC⟩:=Option.map_eq_some_iff.1 hq'
  have pb:=(zA0 hx).1
  simp only[Ac.cs,List.cons.injEq,Value.agg.injEq,Array.mk.injEq,Value.int.injEq,Value.string.injEq,Value.slice.injEq,true_and,and_true]at pC
  obtain⟨rfl,rfl,⟨rfl,rfl,rfl⟩,rfl,rfl,rfl,rfl,rfl,rfl,rfl⟩:=pC
  have cB:=Zfe ZwC (-1) hx
  have dd:=jj.all x (zA2 hx)
  have ia:x.parts.length<=100000:=dd.n
  generalize (r.acts.take q).foldl ZwC (-1)=o at cB ⊢
  have hu:ZwC o x=x.parts.foldl Zmj (if x.k=3 then mxI o x.e.most else o):=rfl
  refine Zaa rfl ⟨λ_ css _ mm'=>m6.le mm'/\css=[[.int .i64 (if x.k=3 then mxI o x.e.most else o)]],Zab (λh=>?_) (λh=>?_),?_⟩
  ·have h:x.k=3:=by simpa using h
   refine⟨λ_ _ _=>_,Zam rfl ⟨_,rfl,ZrA x.e mm (RepE.mono' dd.e jd),(λv _ _ h=>by rw[show v=_ from h];rfl),?_⟩⟩
   intro n8 m8 eA xq
   obtain rfl:n8=_:=by simpa using(show Value.int .i64 n8=Value.int .i64 _ from xq)
   refine Zaa rfl λM hM u4=>⟨rfl,mLt jd hM,?_⟩
   rw[if_pos h];rfl
  ·have h:¬x.k=3:=by simpa using h
   exact⟨rfl,jd,by rw[if_neg h]⟩
  rintro cs m7 _ ⟨eo,bX⟩
  obtain rfl:cs=_:=by simpa using bX
  generalize (if x.k=3 then mxI o x.e.most else o)=o1 at hu ⊢
  refine⟨λxs css _ mm' q=>∃j:Nat,j<=x.parts.length/\xs=[.int .i64 j]/\css=[[.int .i64 ((x.parts.take j).foldl Zmj o1)]]/\q=x.parts.length - j,⟨_,0,by omega,rfl,rfl,rfl⟩,?_⟩
  rintro z cs m8 q2 eA ⟨j,hj,hz,bX,rfl⟩
  obtain rfl:z=j:=by simpa using hz
  obtain rfl:cs=_:=by simpa using bX
  have i6:IntKind.i64.wrap ((j:Int)+1)=((j+1:Nat):Int):=by rw[Zal (by omega) (by omega)];rfl
  have km:=mLt eo eA
  refine ZaB (λaB=>?_) (λbO=>?_)
  ·have aB:(j:Int) < (x.parts.length:Nat):=aB
   obtain⟨p,hp⟩:=Zfi (show j < x.parts.length by omega)
   have qJ:=dd.mono km
   obtain⟨b8,o8,nu,nA⟩:=Zaj Pt.len qJ.row hp (by omega)
   have gE:=qJ.all p (zA2 hp)
   have ff:=Zfe Zmj o1 hp
   generalize (x.parts.take j).foldl Zmj o1=o' at ff ⊢
   refine⟨b8,o8,nu,⟨by omega,aB⟩,_,_,_,_,_,_,_,_,nA,λb9=>Zaa rfl (Zaa rfl (Zab (λh=>Zam rfl (Zaa rfl ⟨rfl,x.parts.length - (j+1),by omega,j+1,by omega,by rw[i6],?_,rfl⟩)) (λh=>Zaa rfl (Zab (λh2=>?_) (λh2=>⟨rfl,x.parts.length - (j+1),by omega,j+1,by omega,by rw[i6],?_,rfl⟩)))))⟩
   ·have h:(p.k == 3)=true:=h
    rw[ff,show Zmj o' p=mxI o' p.g by unfold Zmj;rw[if_pos (by simpa using h)]];rfl
   ·have h:(p.k == 3)=false:=h
    have h2:(p.k == 4)=true:=h2
    refine⟨λ_ _ _=>_,Zam rfl ⟨_,rfl,ZrA p.e m8 gE.e,(λv _ _ h=>by rw[show v=_ from h];rfl),?_⟩⟩
    intro n10 m10 fu tE
    obtain rfl:n10=_:=by simpa using(show Value.int .i64 n10=Value.int .i64 _ from tE)
    refine Zaa rfl λM hM pF=>⟨rfl,x.parts.length - (j+1),by omega,j+1,by omega,by rw[i6],?_,rfl⟩
    rw[ff,show Zmj o' p=mxI o' p.e.most by unfold Zmj;rw[if_neg (by simpa using h),if_pos (by simpa using h2)]];rfl
   ·have h:(p.k == 3)=false:=h
    have h2:(p.k == 4)=false:=h2
    rw[ff,show Zmj o' p=o' by unfold Zmj;rw[if_neg (by simpa using h),if_neg (by simpa using h2)]]
  ·have bO:¬(j:Int) < (x.parts.length:Nat):=bO
   have hj:j=x.parts.length:=by omega
   subst hj
   rw[List.take_length,<-hu,<-cB]
   exact⟨rfl,by omega,rfl⟩
 ·rintro cs m7 eo ⟨_,bX⟩
  rw[List.length_map,List.take_length]at bX
  obtain rfl:cs=_:=by simpa using bX
  refine Zam rfl (Zaf (mLt fC eo) ?_)
  show Value.int _ _=Value.int _ _
  unfold ZxH
  rw[hl,if_pos rfl]
end Go.Proofs.YtpjepnkiiojgfaaGreat
namespace Go.Proofs.YtpjepnkiiojgfaaGreat
open Go Go.Eng Go.Proofs Go.RowKit
open Go.Value (int slice agg bool string tuple func)
open Go.IntKind (u8 u64 i64)
set_option maxRecDepth 100000
def ZoV:Env:={ EB with
 joins:=swI none [(1,some [(6,.bool)])]
 frzNew:=[3] }
theorem Zl7(aA:Int)(aY:Option Addr)(aT bF:Nat)(aO:Option Addr)(aI aW:Nat)(p1 p2:Int)(m:Mem)(R:RT)(h:
 lV [int i64 aA,slice aY aT bF,slice aO aI aW] λxL=>fzM m xL λb m'=>∃(b_1:Bool),lV [bool b_1] λxL_1=>lE [some (Box.mk b xL 32 3 true true)] λxL_2=>(kB pG 19 [agg (.mk xL)] m' λb m'
 => br b (br (decide (p1 ≥ 0)) (br (decide (p1 < (↑aI:Int))) (br (decide (p2 ≥ 0)) (atA aO λb o=>Zae p1 aI/\∃(v:Value),m' b (o+Int.toNat p1*2+1)=some v/\chk (ZbQ v) (Zac xL_2/\[bool (decide
 (p2 < (↑(slN v):Int)))]=xL_1)) (Zac xL_2/\[bool false]=xL_1)) (Zac xL_2/\[bool false]=xL_1)) (Zac xL_2/\[bool false]=xL_1)) (Zac xL_2/\[bool false]=xL_1))/\rtM m m' R (bool b_1)):CX Tryz.prog 47 #[.agg #[.int .i64 aA,.slice aY aT bF,.slice aO aI aW],.int .i64 p1,.int .i64 p2] m [] R:=
 Zad (E:=ZoV) Zap mix Tryz.func47 (by kernel_rfl) (Eq.mp (by kernel_rfl) h)
def Zqa:Env:={ EB with
 dr:=swI [] [(4,[⟨0,[8],[],none,[],[]⟩,⟨1,[8],[],none,[0],[]⟩,dO 2 [],⟨3,[8],[],none,[],[]⟩,⟨4,[8],[],none,[3],[]⟩,dO 5 [],dO 6 [3,4,5],dO 7 [3,4,5,6],dO 8 [3,4,5,6,7],dO 9 [],dO 10 [],dO 11 [10],⟨12,[200],[200],none,[3,4,5,6,7,8,9,10,11],[]⟩])]
 borrow:=swI [] [(29,[200])]
 frzNew:=[3]
 acqB:=swI none [(4,some 200)]
 thaw:=true
 stAt:=swI none [(31,some 999)]
 last:=swI false [(4,true)]
 lastK:=swI 1 [(4,3)]
 frz:=[200]
 kF:=true }
theorem ZoW(aA:Int)(aY:Option Addr)(aT bF:Nat)(aO:Option Addr)(aI aW:Nat)(p1 p2:Int)(m:Mem)(R:RT)(h:
 lV [int i64 p2,int i64 (i64.wrap (p2+1))] λxL=>lE (Int.toNat p1*2) λyL=>lV [int i64 aA,slice aY aT bF,slice aO aI aW] λxL_1=>fzM m xL_1 λb m'=>m.free b->(∀(b' o:Nat)(u:Value),
 m' b' o=some u->m b' o=some u\/b'=b)->Mem.k m b=none->∀(b_1:Nat),kB pG 47 [agg (.mk xL_1),int i64 p1,int i64 p2] m' λb_2 m'=>br (!b_2) (rtM m m' R (tuple (.mk [agg (.mk [int i64 0,slice none 0 0,slice none
 0 0]),int i64 250]))) (∃R_1,True/\CX pG 18 (.mk [agg (.mk xL_1)]) m' [] R_1/\Zbp (.agg [.int i64,.slice,.slice]) R_1/\∀n a n_1 c a_1 n_2 c_1 m'_1,lX (agg (.mk [int i64 n,slice a n_1 c,slice a_1 n_2 c_1])) λyL_1=>
 m'.le m'_1->R_1 yL_1 m'_1 []->∀(b_3:Nat),∃(b_4:Nat),∃(cs:List Value),lM (Mem.off m'_1 λk=>k=b_4) λmL=>cs≠[]/\m'_1.reads b_4 0 cs/\m.free b_4/\(b≠b_4/\True)/\∀(T:TypeId)(cap:Nat),∃(f:
 Fx),atA a_1 λb_5 o=>Zae p1 n_2/\∃(v:Value),mL b_5 (o+yL+1)=some v/\∃R_2,R_2=f 12 (v::xL) mL/\CX pG 48 (.mk (v::xL)) mL [Box.mk b_4 cs T cap false false] R_2/\Zbp .slice R_2/\∀a n c m',lX (slice
 a n c) λyL_2=>mL.le m'->∀(cs:List Value),R_2 yL_2 m' [cs]->∀M,mL.le M->m'.le M->atA a_1 λb_6 o=>lM (Mem.upd M b_6 (o+yL+1) [yL_2]) λmL=>Zae p1 n_2/\(∃(vs:List Value),vs.length=1/\M.reads
 b_6 (o+yL+1) vs)/\m.free b_6/\true=true/\b≠b_6/\(mL.free b_4->Mem.k mL b_4=none->rtM m (mL.add b_4 cs) R (tuple (.mk [yL_1,int i64 0]))))):CX Tryz.prog 13 #[.agg #[.int .i64 aA,.slice aY aT bF,.slice aO aI aW],.int .i64 p1,.int .i64 p2] m [] R:=
 Zad (E:=Zqa) Zap mix Tryz.func13 (by kernel_rfl) (Eq.mp (by kernel_rfl) h)
end Go.Proofs.YtpjepnkiiojgfaaGreat
namespace Go.Proofs.YtpjepnkiiojgfaaGreat
open Go Go.Eng Go.Rx Go.Proofs Go.RowKit Go.Shelf
set_option maxRecDepth 100000
def zRu:Value:=.agg #[.int .u8 0,.bool false,.bool false,.int .u8 0,.int .u64 0,.int .u64 0,.int .u64 0,.int .u64 0,.int .i64 0,.int .i64 0,.slice none 0 0,.string .empty,.int .i64 0,.slice none 0 0,.string .empty,.int .i64 0]
def ZAe:Ren:=⟨fun|45=>48|n=>n,fun|0=>0|3=>3|4=>4|22=>34|23=>47|n=>n,λn=>n⟩
theorem Zyr:DelLay Tryz.prog ZAe 16 zRu:=
 {mixed:=mix,f45:=⟨Tryz.f48.name,by kernel_rfl,by kernel_rfl⟩
  t0:=by kernel_rfl,a0:=Tryz.isAgg0,z0:=Tryz.sizeOf0,v0:=Tryz.zeroValue0
  t3:=Tryz.underlying3,a3:=Tryz.isAgg3,z3:=Tryz.sizeOf3,v3:=Tryz.zeroValue3
  t4:=Tryz.underlying4,a4:=Tryz.isAgg4,z4:=Tryz.sizeOf4,v4:=Tryz.zeroValue4
  t22:=Tryz.underlying34,a22:=Tryz.isAgg34,z22:=Tryz.sizeOf34,v22:=Tryz.zeroValue34
  z23:=Tryz.sizeOf47,v23:=Tryz.zeroValue47 }
theorem Zys(m:Nat):∀u∈(Builtin.zeroCells zRu.cells m).toList,u.oneCell'=true:=by
 have kX:∀i,i < 16->(zRu.cells[i]!).oneCell'=true:=by decide
 intro u hu
 simp only[Builtin.zeroCells,Array.toList_map,List.mem_map]at hu
 obtain⟨i,_,rfl⟩:=hu
 exact kX _ (Nat.mod_lt _ (by decide))
theorem Zyt(l:List Ru)(b c i:Nat)(T:TypeId)(cap:Nat)(m:Mem)(hi:i < l.length)(hc:l.length<=c)(hm:l.length<=9223372036854775807):
  CX Tryz.prog 48 #[.slice (some ⟨b,0,none⟩) l.length c,.int .i64 i,.int .i64 (i+1:Nat)] m [⟨b,(l.map Ru.cs).flatten,T,cap,false,false⟩] (λv m' css=>v=.slice (some ⟨b,0,none⟩) (l.length - 1) c/\css=[((l.eraseIdx i).map Ru.cs).flatten++zRu.cells.toList]):=by
 obtain⟨i0,h1,h2⟩:∃i0,Tryz.prog.info? 47=some i0/\i0.size=16:=by
  obtain⟨x,h1,h2,_⟩:=(Zap 47 _ rfl).info
  exact⟨x,h1,h2⟩
 exact ZsS Zyr i0 h1 h2 rfl (Go.Eng.Zgl Tryz.func48 (by kernel_rfl) (by kernel_rfl)) (by decide) (by kernel_rfl) Zys Ru.len Ru.one l b c i T cap m hi hc hm
end Go.Proofs.YtpjepnkiiojgfaaGreat
end
