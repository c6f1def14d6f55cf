/- Part of the proof: functions of the program. No condition. -/
import Derived.Test.YtojlhhphofhaoaaGreatDoorPEnv
import Derived.Test.YtojlhhphofhaoaaGreatDoorPC25D
import Derived.Test.YtojlhhphofhaoaaGreatDoorPC25I
import Derived.Test.YtojlhhphofhaoaaGreatDoorMr
import Derived.Test.YtojlhhphofhaoaaGreatDoorPVEN
import Derived.Test.YtojlhhphofhaoaaGreatDoorPVM
import Derived.Test.YtojlhhphofhaoaaGreatDoorPC40L
set_option linter.unusedVariables false
set_option linter.unusedSimpArgs false
set_option linter.unusedSectionVars false
noncomputable section
namespace Go.Proofs.YtojlhhphofhaoaaGreatDoor
open Go Go.Eng Go.Proofs Go.RowKit
open Go.Value (int slice agg bool string tuple func)
open Go.IntKind (u8 u64 i64)
set_option maxRecDepth 100000
def Zg8:Env:={ EB with
 loops:=(λi=>bif Nat.beq i 5 then⟨[(9,.agg [.int .u8,.any,.str,.int .i64,.slice])],[3],[],false⟩ else⟨[],[],[],false⟩)
 frzNew:=[1] }
theorem Zf8(aA:Int)(aC:Value)(aD:ByteArray)(aE:Int)(aX:Option Addr)(aV aZ:Nat)(m:Mem)(R:RT)(h:
 lV [int u8 aA,aC,string aD,int i64 aE,slice aX aV aZ] λxL=>fzM m xL λb m'=>∀(b_1:Nat),lE [some (Box.mk b_1 [] 3 1 false true),some (Box.mk b xL 133 5 true true)] λxL_1=>kB
 Tryz.prog 95 [agg (Array.mk xL)] m' λb m'=>br b (kF Tryz.prog 96 [agg (Array.mk xL)] m' λg fi ca m'=>∃(xs:List (List Value)),IX Tryz.prog g fi ca m' xs/\(∀(x:List Value),x∈xs->Shape.fitsL
 [Shape.agg [Shape.int u8,Shape.any,Shape.str,Shape.int i64,Shape.slice]] x=true)/\∃(I:IT),I [] [[int i64 0]] [] m' 0/\(∀(n:Int)(v:Value)(s:ByteArray)(n_1:Int)(a:Option Addr)(n_2 c:Nat) (cs
 : List Value) (m'_1:Mem) (n_3:Nat),m'.le m'_1->List.get?Internal xs n_3=some [agg (Array.mk [int u8 n,v,string s,int i64 n_1,slice a n_2 c])]->I [] [cs] [] m'_1 n_3->∀(b:Nat),chk (v.oneCell'
 && true) (kI Tryz.prog 97 [int u8 n] m'_1 λn m'=>br (decide (n > (0:Int))) (Eng.ZxD cs 0 λv=>chk (ZaN i64 v&&decide (i64=i64)) (Zad xL_1/\I [] [[int i64 (i64.wrap (intOf v+(1:
 Int)))]] [] m' (n_3+1))) (Zad xL_1/\I [] [cs] [] m' (n_3+1))))/\∀(cs:List Value)(m'_1:Mem),m'.le m'_1->I [] [cs] [] m'_1 (xs.length)->Eng.ZxD cs 0 λv=>rtM m m'_1 R v) (rtM m m' R (int
 i64 0))):CX Tryz.prog 62 #[.agg #[.int .u8 aA,aC,.string aD,.int .i64 aE,.slice aX aV aZ]] m [] R:=
 Zal (E:=Zg8) Zak mix Tryz.func62 (by kernel_rfl) (Eq.mp (by kernel_rfl) h)
def ZsX:Env:={ EB with
 loops:=(λi=>bif Nat.beq i 5 then⟨[(3,.int .i64),(19,.int .i64)],[],[],false⟩ else⟨[],[],[],false⟩)
 joins:=(λi=>bif Nat.beq i 2 then some [(13,.bool)]else none)
 frzNew:=[1] }
theorem Zrt(aA:Int)(aC:Value)(aD:ByteArray)(aE:Int)(aX:Option Addr)(aV aZ:Nat)(m:Mem)(R:RT)(h:
 lV [int u8 aA,aC,string aD,int i64 aE,slice aX aV aZ] λxL=>fzM m xL λb m'=>∃(b_1:Bool),lE [some (Box.mk b xL 133 5 true true)] λxL=>br (aA == (9:Int)) (Zad xL/\[bool true]
 = [bool b_1]) (Zad xL/\[bool (aA == (10:Int))]=[bool b_1])/\br b_1 (∃(I:IT),inI I [int i64 (i64.wrap ((0:Int)+(1:Int))),int i64 0] [] [] m'/\∀(n n_1:Int)(m'_1:Mem)(n_2:Nat),
 m'.le m'_1->I [int i64 n,int i64 n_1] [] [] m'_1 n_2->br (decide (n_1 < (↑aV:Int))) (atA aX λb o=>Zaf n_1 aV/\∃v v_1 v_2 v_3 v_4:Value,m'_1.reads b (o+Int.toNat n_1*5) [v,v_1,v_2,v_3,v_4]/\∀(b:Nat),chk (v.oneCell'&&(v_1.oneCell'&&(v_2.oneCell'&&(v_3.oneCell'&&(v_4.oneCell'&&true))))) (kI
 Tryz.prog 63 [agg (Array.mk [v,v_1,v_2,v_3,v_4])] m'_1 λn_3 m'=>Zad xL/\nxI n_2 I [int i64 (i64.wrap (n+n_3)),int i64 (i64.wrap (n_1+(1:Int)))] [] [] m')) (rtM m m'_1 R (int i64 n)))
 (∃(I:IT),inI I [int i64 0,int i64 0] [] [] m'/\∀(n n_1:Int)(m'_1:Mem)(n_2:Nat),m'.le m'_1->I [int i64 n,int i64 n_1] [] [] m'_1 n_2->br (decide (n_1 < (↑aV:Int))) (atA aX λb o=>
 Zaf n_1 aV/\∃v v_1 v_2 v_3 v_4:Value,m'_1.reads b (o+Int.toNat n_1*5) [v,v_1,v_2,v_3,v_4]/\∀(b:Nat),chk (v.oneCell' &&
 (v_1.oneCell'&&(v_2.oneCell'&&(v_3.oneCell'&&(v_4.oneCell'&&true))))) (kI Tryz.prog 63 [agg (Array.mk [v,v_1,v_2,v_3,v_4])] m'_1 λn_3 m'=>Zad xL/\nxI n_2 I [int i64
 (i64.wrap (n+n_3)),int i64 (i64.wrap (n_1+(1:Int)))] [] [] m')) (rtM m m'_1 R (int i64 n)))):CX Tryz.prog 63 #[.agg #[.int .u8 aA,aC,.string aD,.int .i64 aE,.slice aX aV aZ]] m [] R:=
 Zal (E:=ZsX) Zak mix Tryz.func63 (by kernel_rfl) (Eq.mp (by kernel_rfl) h)
def Zmg:Env:={ EB with
 frzNew:=[1] }
theorem ZjV(aA:Int)(aH:Option Addr)(aG aI:Nat)(aJ:Option Addr)(aF aK:Nat)(m:Mem)(R:RT)(h:
 fzM m [int i64 aA,slice aH aG aI,slice aJ aF aK] λb m'=>rtM m m' R (func (Fn.func 98) (Array.mk []) (Array.mk [Value.pointer (some (Addr.mk b 0 none))]))):CX Tryz.prog 64 #[.agg #[.int .i64 aA,.slice aH aG aI,.slice aJ aF aK]] m [] R:=
 Zal (E:=Zmg) Zak mix Tryz.func64 (by kernel_rfl) (Eq.mp (by kernel_rfl) h)
def ZiA:Env:={ EB with
 loops:=(λi=>bif Nat.beq i 1 then⟨[(12,.int .i64)],[],[],true⟩ else bif Nat.beq i 4 then⟨[(19,.int .i64)],[],[],true⟩ else bif Nat.beq i 7 then⟨[(26,.int .i64)],[],[],true⟩ else⟨[],[],[],false⟩) }
theorem Zg9(p0g:Nat)(p0fi p0ca:List Value)(c0b c0o:Nat)(m:Mem)(xs:List (List Value))(h:
 ∀(l:Nat),∃(v:Value),m c0b (c0o+2)=some v/\chk (Zbb v) (∃(I:IT),inI I [int i64 0,int i64 0] [] [] m/\∀(y n:Int)(m':Mem)(n_1:Nat),m.le m'->I [int i64 y,int i64 n] [] [] m' n_1->br
 (decide (n < (↑(slN v):Int))) (chk (Zbb v) (atA (slA v) λb o=>Zaf n (slN v)/\∃v v_1:Value,m'.reads b (o+Int.toNat n*2) [v,v_1]/\∀(b:Nat),lE [some (Box.mk b [v,v_1] 42 2
 false true)] λxL=>chk (v.oneCell'&&(v_1.oneCell'&&true)) (chk (Zbb v_1) (∃(I_1:IT),inI I_1 [int i64 y,int i64 0] [] [] m'/\∀(y n_2:Int)(m'_1:Mem)(n_3:Nat),lX (int i64 y) λyL=>
 m'.le m'_1->I_1 [yL,int i64 n_2] [] [] m'_1 n_3->br (decide (n_2 < (↑(slN v_1):Int))) (chk (Zbb v_1) (atA (slA v_1) λb o=>Zaf n_2 (slN v_1)/\∃v v_2 v_3 v_4 v_5 v_6 v_7 v_8 v_9 v_10 v_11 v_12 v_13 v_14 v_15 v_16:Value,lV [v,v_2,v_3,v_4,v_5,v_6,v_7,v_8,v_9,v_10,v_11,v_12,v_13,v_14,v_15,v_16] λxL_1=>m'_1.reads b (o+Int.toNat n_2*16) xL_1/\∀(b:Nat),chk (v.oneCell'&&(v_2.oneCell' &&
 (v_3.oneCell'&&(v_4.oneCell'&&(v_5.oneCell'&&(v_6.oneCell'&&(v_7.oneCell'&&(v_8.oneCell'&&(v_9.oneCell'&&(v_10.oneCell'&&(v_11.oneCell' &&
 (v_12.oneCell'&&(v_13.oneCell'&&(v_14.oneCell'&&(v_15.oneCell'&&(v_16.oneCell'&&true)))))))))))))))) (chk (Zbb v_14) (∃(I:IT),inI I [yL,int i64 0] [] [] m'_1/\∀(y n:Int)
 (m':Mem) (n_4:Nat),m'_1.le m'->I [int i64 y,int i64 n] [] [] m' n_4->br (decide (n < (↑(slN v_14):Int))) (chk (Zbb v_14) (atA (slA v_14) λb_1 o=>Zaf n (slN v_14)/\∃v v_17 v_18 v_19 v_20 v_21 v_22 v_23:Value,lV [v,v_17,v_18,v_19,v_20,v_21,v_22,v_23] λxL_2=>m'.reads b_1 (o+Int.toNat n*8)
 xL_2/\∀(b_2:Nat),chk (v.oneCell'&&(v_17.oneCell'&&(v_18.oneCell'&&(v_19.oneCell'&&(v_20.oneCell'&&(v_21.oneCell'&&(v_22.oneCell'&&(v_23.oneCell' &&
 true)))))))) ((l=l/\(0:Int)<=y/\List.get?Internal xs (Int.toNat y)=some [agg (Array.mk xL_2)])/\(Zad (some (Box.mk b xL_1 57 16 false true)::xL)/\nxI n_4 I [int i64 (y+(1:Int)),int i64 (i64.wrap (n+(1:Int)))] [] [] m')/\((-1:Int)=(↑(xs.length):Int)\/(-1:Int)=(-1:Int))))) (Zad xL/\nxI n_3 I_1 [int i64 y,int i64 (i64.wrap (n_2+(1:Int)))] [] [] m'))))) (nxI n_1 I [yL,
 int i64 (i64.wrap (n+(1:Int)))] [] [] m'_1))))) (y=(↑(xs.length):Int)\/y=(-1:Int)))):IX Tryz.prog 98 [] [.pointer (some ⟨c0b,c0o,none⟩)] m xs:=
 ZeE (E:=ZiA) Zak mix Tryz.func98 _ _ _ (by kernel_rfl) (Eq.mp (by kernel_rfl) h)
def Zou:Env:={ EB with
 dr:=(λi=>bif Nat.beq i 1 then[⟨0,[100000],[],none,[],[]⟩,⟨1,[100000],[],none,[0],[]⟩,⟨2,[2],[],none,[],[]⟩,⟨3,[],[],none,[2],[]⟩,⟨4,[],[],none,[0,1,2,3],[]⟩,⟨5,[100000],[],none,[0,1,2,3,4],[]⟩,⟨6,[100000],[100000],none,[0,1,2,3,4,5],[]⟩]else bif Nat.beq i 2 then[⟨0,[100000],[],none,[],[]⟩,⟨1,[100000],[],none,[0],[]⟩,⟨2,[2],[],none,[],[]⟩,⟨3,[],[],none,[2],[]⟩,⟨4,[],[],none,[0,1,2,3],[]⟩,⟨5,[100000],[],none,[0,1,2,3,4],[]⟩,⟨6,[100000],[100000],none,[0,1,2,3,4,5],[]⟩]else[])
 frzNew:=[2] }
theorem Zmh(aA:Int)(aC:Value)(aD:ByteArray)(aE:Int)(aX:Option Addr)(aV aZ c0b:Nat)(c0_0 c0_1 c0_2 c0_3 c0_4 c0_5:Int)(m:Mem)(R:RT)(h:
 lV [int u8 aA,aC,string aD,int i64 aE,slice aX aV aZ] λxL=>lV [agg (Array.mk xL)] λxL_1=>lE (Box.mk c0b [int i64 c0_0,int i64 c0_1,int i64 c0_2,int i64 c0_3,int i64 c0_4,int i64 c0_5]
 77 6 false true) λyL=>fzM m xL λb m'=>∃(f:Fx),∃(R_1:RT),R_1=f 3 xL_1 m'/\CX Tryz.prog 62 (Array.mk xL_1) m' [] R_1/\ZaZ (Shape.int i64) R_1/\∀(n:Int)(m'_1:Mem),m'.le m'_1->R_1 (int
 i64 n) m'_1 []->∀(M:Mem),m'.le M->m'_1.le M->∃(f:Fx),∃(R_2:RT),R_2=f 3 xL_1 M/\CX Tryz.prog 63 (Array.mk xL_1) M [] R_2/\ZaZ (Shape.int i64) R_2/\∀(n_1:Int)(m':Mem),M.le m'->R_2
 (int i64 n_1) m' []->∀(M_1:Mem),M.le M_1->m'.le M_1->yL=yL/\∃(m'':Mem),m.le m''/\m''.le M_1/\R (tuple (Array.mk [])) m'' [[int i64 c0_0,int i64 c0_1,int i64 c0_2,int i64 c0_3,int i64
 (i64.wrap (c0_4+n)),int i64 (i64.wrap (c0_5+n_1))]]):CX Tryz.prog 61 #[.agg #[.int .u8 aA,aC,.string aD,.int .i64 aE,.slice aX aV aZ],.pointer (some ⟨c0b,0,none⟩)] m [⟨c0b,[.int .i64 c0_0,.int .i64 c0_1,.int .i64 c0_2,.int .i64 c0_3,.int .i64 c0_4,.int .i64 c0_5],77,6,false,true⟩] R:=
 Zag (E:=Zou) Zak mix Tryz.func61 [.v (.agg #[.int .u8 aA,aC,.string aD,.int .i64 aE,.slice aX aV aZ]),.loc 100000 0] [⟨c0b,[.int .i64 c0_0,.int .i64 c0_1,.int .i64 c0_2,.int .i64 c0_3,.int .i64 c0_4,.int .i64 c0_5],77,6,false,true⟩] (by kernel_rfl) (Eq.mp (by kernel_rfl) h)
def ZsY:Env:={ EB with
 loops:=(λi=>bif Nat.beq i 6 then⟨[(23,.int .i64)],[3],[],false⟩ else bif Nat.beq i 10 then⟨[(37,.int .i64)],[3],[],false⟩ else bif Nat.beq i 19 then⟨[(57,.agg [.int .u8,.str,.slice,.int .u8,.any,.str,.int .i64,.slice])],[3],[],false⟩ else bif Nat.beq i 22 then⟨[(68,.int .i64)],[3],[],false⟩ else⟨[],[],[],false⟩)
 dr:=(λi=>bif Nat.beq i 13 then[⟨0,[3],[],none,[],[]⟩,⟨1,[3],[],none,[0],[]⟩,⟨2,[7],[],none,[],[]⟩,⟨3,[7],[],none,[2],[]⟩,⟨4,[7],[],none,[2,3],[]⟩,⟨5,[],[],none,[2,3,4],[]⟩,⟨6,[],[],none,[0,1,2,3,4,5],[]⟩,⟨7,[3],[],none,[0,1,2,3,4,5,6],[]⟩,⟨8,[3],[3],none,[0,1,2,3,4,5,6,7],[]⟩]else[])
 borrow:=(λi=>bif Nat.beq i 64 then[3]else bif Nat.beq i 85 then[3]else[])
 frzNew:=[1] }
theorem Zru(aA:Int)(aH:Option Addr)(aG aI:Nat)(aJ:Option Addr)(aF aK:Nat)(m:Mem)(R:RT)(h:
 lV [int i64 aA,slice aH aG aI,slice aJ aF aK] λxL=>fzM m xL λb m'=>∀(a9 ao:Nat),lV [Value.pointer (some (Addr.mk ao 0 none))] λaq=>lV [func (Fn.func 61) (Array.mk []) (Array.mk
 aq)] λba=>lE [some (Box.mk ao [] 77 6 false true),some (Box.mk a9 [int i64 0,int i64 0,int i64 0,int i64 0,int i64 0,int i64 0] 77 6 false true),some (Box.mk b xL 30 3 true true)] λaz=>kB Tryz.prog 38
 [agg (Array.mk xL)] m' λb m'=>br (!b) (rtM m m' R (agg (Array.mk [int i64 0,int i64 0,int i64 0,int i64 0,int i64 0,int i64 0]))) (∃(I:IT),inI I [int i64 0] [[int i64 (↑aF:Int),int i64 0,int i64 0,
 int i64 0,int i64 0,int i64 0]] [] m'/\∀(n:Int)(cs:List Value)(ar:Mem)(a3:Nat),m'.le ar->I [int i64 n] [cs] [] ar a3->br (decide (n < (↑aF:Int))) (atA aJ λb o=>Zaf n aF/\∃v ac:Value,ar.reads b (o+Int.toNat n*2) [v,ac]/\∀(b:Nat),lE (some (Box.mk b [v,ac] 42 2 false true)::az) λxL=>chk (v.oneCell'&&(ac.oneCell'&&true)) (Eng.ZxD cs 1 λv
 => chk (Zbb ac) (chk (ZaN i64 v&&decide (i64=i64)) (chk (Nat.ble 2 (cs.length)) (chk (Zbb ac) (∃(aa:IT),inI aa [int i64 0] [ZaE cs 1 [int i64 (i64.wrap (intOf v+(↑(slN ac):Int)))]]
 [] ar/\∀(ae:Int)(cs:List Value)(m':Mem)(av:Nat),lV [int i64 (i64.wrap (ae+(1:Int)))] λau=>ar.le m'->aa [int i64 ae] [cs] [] m' av->br (decide (ae < (↑(slN ac):Int))) (chk (Zbb ac)
 (atA (slA ac) λb o=>Zaf ae (slN ac)/\∃v al am ag ah ai aj ak a0 a1 a2 a4 a5 a6 a7 a8:Value,lV [agg (Array.mk [ag,ah,ai,aj,ak,a0,a1,a2])] λaw=>m'.reads b (o+Int.toNat ae*16) [v,al,am,ag,ah,ai,aj,
 ak,a0,a1,a2,a4,a5,a6,a7,a8]/\∀(b:Nat),chk (v.oneCell'&&(al.oneCell'&&(am.oneCell'&&(ag.oneCell'&&(ah.oneCell'&&(ai.oneCell'&&(aj.oneCell' &&
 (ak.oneCell'&&(a0.oneCell'&&(a1.oneCell'&&(a2.oneCell'&&(a4.oneCell'&&(a5.oneCell'&&(a6.oneCell'&&(a7.oneCell'&&(a8.oneCell'&&true))))))))))))))))
 (chk (ZaN u8 v&&decide (u8=u8)) (br (intOf v == (1:Int)) (∃(f:Fx),Eng.ZxD cs 2 λv=>∃(R:RT),R=f 5 aw m'/\CX Tryz.prog 60 (Array.mk aw) m' [] R/\ZaZ (Shape.int i64) R/\∀(n:Int) (ad:
 Mem),m'.le ad->R (int i64 n) ad []->chk (ZaN i64 v&&decide (i64=i64)) (chk (Nat.ble 3 (cs.length)) (∀(M:Mem),m'.le M->ad.le M->Zad xL/\nxI av aa au [ZaE cs 2 [int i64 (i64.wrap (intOf v+n))]] [] M))) (Zad xL/\nxI av aa au [cs] [] m'))))) (Zad az/\nxI a3 I [int i64 (i64.wrap (n+(1:Int)))] [cs] [] m'))))))) (∀(b:Nat),lE (some (Box.mk b ba 135 1 false true) ::
 az) λau=>kF Tryz.prog 64 [agg (Array.mk xL)] ar λg fi ca m'=>∃(xs:List (List Value)),IX Tryz.prog g fi ca m' xs/\(∀(x:List Value),x∈xs->Shape.fitsL [Shape.agg [Shape.int u8,Shape.str,Shape.slice,
 Shape.int u8,Shape.any,Shape.str,Shape.int i64,Shape.slice]] x=true)/\∃(I:IT),I [] [cs] [] m' 0/\(∀(n:Int)(s:ByteArray)(a:Option Addr)(ae c:Nat)(av:Int)(v:Value)(bb:ByteArray)(bc:Int)
 (bd:Option Addr) (be bf:Nat) (cs:List Value) (ad:Mem) (ay:Nat),lV [int u8 av,v,string bb,int i64 bc,slice bd be bf] λxL=>lV (int u8 n::string s::slice a ae c::xL) λaw=>m'.le ad->
 List.get?Internal xs ay=some [agg (Array.mk aw)]->I [] [cs] [] ad ay->∀(b:Nat),lE (some (Box.mk b aw 141 8 false true)::au) λan=>chk (v.oneCell'&&true) (br (n == (3:Int)) (∃(R:RT),True/\CX
 Tryz.prog 61 (Array.mk (agg (Array.mk xL)::aq)) ad [Box.mk ao cs 77 6 false true] R/\ZaZ (Shape.tup []) R/\∀(m':Mem),ad.le m'->∀(cs:List Value),R (tuple (Array.mk [])) m' [cs]->∃(aa:IT),inI aa
 [int i64 0] [cs] [] m'/\∀(n:Int)(cs:List Value)(ab:Mem)(af:Nat),lV [int i64 (i64.wrap (n+(1:Int)))] λxL=>m'.le ab->aa [int i64 n] [cs] [] ab af->br (decide (n < (↑ae:Int))) (atA a
 λb o=>Zaf n ae/\∃v ac al am ag ah ai aj:Value,lV [am,ag,ah,ai,aj] λap=>lE (ZaN u8 v&&decide (u8 =
 u8)) λyL=>ab.reads b (o+Int.toNat n*8) (v::ac::al::ap)/\∀(b:Nat),chk (v.oneCell'&&(ac.oneCell'&&(al.oneCell'&&(am.oneCell'&&(ag.oneCell'&&(ah.oneCell'&&(ai.oneCell'&&(aj.oneCell'&&true)))))))) (chk yL (br (!intOf v == (1:Int)) (Eng.ZxD cs 3 λak=>lV (ZaE cs 3 [int i64 (i64.wrap (intOf ak+(1:Int)))]) λax=>
 chk (ZaN i64 ak&&decide (i64=i64)) (chk (Nat.ble 4 (cs.length)) (chk yL (br (intOf v == (4:Int)) (∃(R:RT),True/\CX Tryz.prog 61 (Array.mk (agg (Array.mk ap)::aq)) ab [Box.mk ao ax 77 6 false
 true] R/\ZaZ (Shape.tup []) R/\∀(m':Mem),ab.le m'->∀(cs:List Value),R (tuple (Array.mk [])) m' [cs]->Zad an/\nxI af aa xL [cs] [] m') (Zad an/\nxI af aa xL [ax] [] ab))))) (chk yL (br
 (intOf v == (4:Int)) (∃(R:RT),True/\CX Tryz.prog 61 (Array.mk (agg (Array.mk ap)::aq)) ab [Box.mk ao cs 77 6 false true] R/\ZaZ (Shape.tup []) R/\∀(m':Mem),ab.le m'->∀(cs:List Value),R
 (tuple (Array.mk [])) m' [cs]->Zad an/\nxI af aa xL [cs] [] m') (Zad an/\nxI af aa xL [cs] [] ab)))))) (Zad au/\I [] [cs] [] ab (ay+1))) (∃(aa:IT),inI aa [int i64 0] [cs] [] ad/\∀(n:Int) (cs:
 List Value) (m':Mem) (af:Nat),lV [int i64 (i64.wrap (n+(1:Int)))] λxL=>ad.le m'->aa [int i64 n] [cs] [] m' af->br (decide (n < (↑ae:Int))) (atA a λb o=>Zaf n ae/\∃v ac al am ag ah ai aj:Value,lV [am,ag,ah,ai,aj] λap=>lE (ZaN u8 v&&decide (u8=u8)) λyL=>m'.reads b (o+Int.toNat
 n*8) (v::ac::al::ap)/\∀(b:Nat),chk (v.oneCell'&&(ac.oneCell'&&(al.oneCell'&&(am.oneCell'&&(ag.oneCell'&&(ah.oneCell'&&(ai.oneCell'&&(aj.oneCell'
 && true)))))))) (chk yL (br (!intOf v == (1:Int)) (Eng.ZxD cs 3 λak=>lV (ZaE cs 3 [int i64 (i64.wrap (intOf ak+(1:Int)))]) λax=>chk (ZaN i64 ak&&decide (i64=i64)) (chk
 (Nat.ble 4 (cs.length)) (chk yL (br (intOf v == (4:Int)) (∃(R:RT),True/\CX Tryz.prog 61 (Array.mk (agg (Array.mk ap)::aq)) m' [Box.mk ao ax 77 6 false true] R/\ZaZ (Shape.tup []) R/\∀(ab:Mem),
 m'.le ab->∀(cs:List Value),R (tuple (Array.mk [])) ab [cs]->Zad an/\nxI af aa xL [cs] [] ab) (Zad an/\nxI af aa xL [ax] [] m'))))) (chk yL (br (intOf v == (4:Int)) (∃(R:RT),True/\CX
 Tryz.prog 61 (Array.mk (agg (Array.mk ap)::aq)) m' [Box.mk ao cs 77 6 false true] R/\ZaZ (Shape.tup []) R/\∀(ab:Mem),m'.le ab->∀(cs:List Value),R (tuple (Array.mk [])) ab [cs]->Zad an/\nxI af aa
 xL [cs] [] ab) (Zad an/\nxI af aa xL [cs] [] m')))))) (Zad au/\I [] [cs] [] m' (ay+1)))))/\∀(cs:List Value)(ad:Mem),m'.le ad->I [] [cs] [] ad (xs.length)->chk (Nat.beq (cs.length) 6 &&
 ZdI cs) (rtM m ad R (agg (Array.mk cs)))))):CX Tryz.prog 25 #[.agg #[.int .i64 aA,.slice aH aG aI,.slice aJ aF aK]] m [] R:=
 Zal (E:=ZsY) Zak mix Tryz.func25 (by kernel_rfl) (Eq.mp (by kernel_rfl) h)
end Go.Proofs.YtojlhhphofhaoaaGreatDoor
namespace Go.Proofs.YtojlhhphofhaoaaGreatDoor
open Go Go.Eng Go.Rx Go.Proofs Go.RowKit
set_option maxRecDepth 100000
theorem ZDW(a b:Int):Value.int .i64 (IntKind.i64.wrap (intOf (Value.int .i64 (w64 a))+b))=.int .i64 (w64 (a+b)):=by
 show Value.int .i64 (IntKind.i64.wrap (w64 a+b))=_
 rw[ZtM]
theorem Zov(e:E)(m:Mem)(hr:RepE m e):CX Tryz.prog 62 #[e.v] m [] (Ret (.int .i64 (w64 (Zxa e)))):=by
 apply Zf8
 intro b m1 aB _ b2
 refine Zae (ZcW e m1 (hr.mono' aB)) λm2 aM=>?_
 have bY:=mLt aB aM
 refine Zab (λhl=>?_) (λhl=>Zac bY (by show Value.int _ _=Value.int _ _;unfold Zxa;rw[hl,if_neg (by decide),W_0]))
 refine Zai (ZeO e m2) (λv m' css h=>by obtain⟨_,rfl,_⟩:=h;rfl) ?_
 rintro g fi ca m3 aY ⟨b3,hv,eY⟩
 obtain⟨rfl,rfl,rfl⟩:=ZbZ hv
 have dM:=mLt bY aY
 refine⟨_,ZdE e m3 b3 eY (hr.mono' dM),λy hy=>?_,λ_ css _ m' q=>css=[[.int .i64 (w64 (Zst ZCd (e.nodes.take q)))]]/\q<=e.nodes.length,⟨by rw[List.take_zero,Zw9,W_0],by omega⟩,?_,?_⟩
 ·obtain⟨z,_,rfl⟩:=List.mem_map.1 hy;exact Zkg z
 ·rintro n0 v0 s0 n3 a n7 c cs m4 q bP hq ⟨cD,gL⟩ b4
  obtain rfl:cs=[.int .i64 (w64 (Zst ZCd (e.nodes.take q)))]:=by simpa using cD
  have hq':(List.map (λz:E=>[z.v]) e.nodes)[(q:Nat)]?=some [Value.agg #[.int .u8 n0,v0,.string s0,.int .i64 n3,.slice a n7 c]]:=hq
  rw[List.getElem?_map]at hq'
  obtain⟨z,hz,iu⟩:=Option.map_eq_some_iff.1 hq'
  have qO:q < e.nodes.length:=(zA0 hz).1
  simp only[E.v,List.cons.injEq,Value.agg.injEq,Array.mk.injEq,Value.int.injEq,Value.string.injEq,Value.slice.injEq,true_and,and_true]at iu
  obtain⟨rfl,rfl,rfl,rfl,rfl,rfl,rfl⟩:=iu
  have dF:=Zyb ZCd hz
  refine Zaa rfl (Zav (Zxj z.k m4) λm5 cL=>Zab (λh=>Zaq rfl (Zaa rfl ⟨rfl,?_,by omega⟩)) (λh=>⟨rfl,?_,by omega⟩))
  ·have h:ZCd z=true:=h
   rw[h,if_pos rfl]at dF
   rw[ZDW,dF]
  ·have h:ZCd z=false:=h
   rw[h,if_neg (by decide),Int.add_zero]at dF
   rw[dF]
 ·rintro cs m4 bP ⟨cD,_⟩
  rw[List.length_map,List.take_length]at cD
  obtain rfl:cs=[.int .i64 (w64 (Zst ZCd e.nodes))]:=by simpa using cD
  refine Zaq rfl (Zac (mLt dM bP) ?_)
  show Value.int _ _=Value.int _ _
  unfold Zxa;rw[hl,if_pos rfl]
theorem Zun(t:E)(m:Mem)(hr:RepE m t):CX Tryz.prog 63 #[t.v] m [] (Ret (.int .i64 (w64 (vrE t)))):=by
 apply Zrt
 intro b m1 aB _
 have hn:vrE t=(if ZC3 t then 1 else 0)+Zst ZC3 (Zap t.subs):=by unfold vrE;rw[ZbA,ZtO]
 obtain⟨nq,aN⟩:=Zeb (hr.mono' aB)
 refine⟨ZC3 t,Zab (λh=>⟨rfl,?_⟩) (λh=>⟨rfl,?_⟩),?_⟩
 ·have h:(t.k == 9)=true:=h
  show[Value.bool true]=[Value.bool (t.k == 9||t.k == 10)];rw[h];rfl
 ·have h:(t.k == 9)=false:=h
  show[Value.bool (t.k == 10)]=[Value.bool (t.k == 9||t.k == 10)];rw[h];rfl
 refine Zab (λh=>?_) (λh=>?_)
 ·refine⟨λxs _ _ m'' q=>∃i:Nat,i<=t.subs.length/\xs=[.int .i64 (w64 (1+Zst ZC3 (Zap (t.subs.take i)))),.int .i64 i]/\m1.le m''/\q=t.subs.length - i,⟨t.subs.length,0,by omega,?_,Mem.le_refl _,by omega⟩,?_⟩
  ·show[Value.int .i64 _,Value.int .i64 0]=[Value.int .i64 (w64 (1+0)),Value.int .i64 0]
   rw[show w64 (1+0)=w64 1 from rfl,show IntKind.i64.wrap (0+1)=w64 1 from rfl]
  rintro y n m2 q aM ⟨i,hi,cQ,fT,hq⟩
  simp only[List.cons.injEq,Value.int.injEq,true_and,and_true]at cQ
  obtain⟨rfl,rfl⟩:=cQ
  refine Zar (λaO=>?_) (λbO=>?_)
  ·have aW:i < t.subs.length:=by have:(i:Int) < (t.subs.length:Nat):=aO;omega
   obtain⟨x,hx⟩:∃x,t.subs[i]?=some x:=⟨_,zA3 aW⟩
   have bV:=ZhE (zA2 hx)
   obtain h0|⟨b1,o1,ha,fJ⟩:=aN
   ·rw[h0]at aW;simp at aW
   obtain⟨dI,dU⟩:=(fJ.mono' fT).get hx
   refine⟨b1,o1,ha,⟨by omega,by omega⟩,_,_,_,_,_,dI,λb2=>Zaa rfl (Zav (Zun x m2 dU) λm3 aY=>⟨rfl,t.subs.length - (i+1),by omega,i+1,by omega,?_,mLt fT aY,rfl⟩)⟩
   rw[ZtM,ZAs,Ze3 hx,ZtN,Zan (n:=(i:Int)+1) (by omega) (by omega),Int.add_assoc]
   rfl
  ·have hi':i=t.subs.length:=by have:¬(i:Int) < (t.subs.length:Nat):=bO;omega
   subst hi'
   refine Zac (mLt aB fT) ?_
   show Value.int _ _=Value.int _ _
   rw[hn,List.take_length,h,if_pos rfl]
 ·refine⟨λxs _ _ m'' q=>∃i:Nat,i<=t.subs.length/\xs=[.int .i64 (w64 (0+Zst ZC3 (Zap (t.subs.take i)))),.int .i64 i]/\m1.le m''/\q=t.subs.length - i,⟨t.subs.length,0,by omega,?_,Mem.le_refl _,by omega⟩,?_⟩
  ·show[Value.int .i64 _,Value.int .i64 0]=[Value.int .i64 (w64 (0+0)),Value.int .i64 0]
   rw[show(0:Int)+0=0 from rfl,W_0]
  rintro y n m2 q aM ⟨i,hi,cQ,fT,hq⟩
  simp only[List.cons.injEq,Value.int.injEq,true_and,and_true]at cQ
  obtain⟨rfl,rfl⟩:=cQ
  refine Zar (λaO=>?_) (λbO=>?_)
  ·have aW:i < t.subs.length:=by have:(i:Int) < (t.subs.length:Nat):=aO;omega
   obtain⟨x,hx⟩:∃x,t.subs[i]?=some x:=⟨_,zA3 aW⟩
   have bV:=ZhE (zA2 hx)
   obtain h0|⟨b1,o1,ha,fJ⟩:=aN
   ·rw[h0]at aW;simp at aW
   obtain⟨dI,dU⟩:=(fJ.mono' fT).get hx
   refine⟨b1,o1,ha,⟨by omega,by omega⟩,_,_,_,_,_,dI,λb2=>Zaa rfl (Zav (Zun x m2 dU) λm3 aY=>⟨rfl,t.subs.length - (i+1),by omega,i+1,by omega,?_,mLt fT aY,rfl⟩)⟩
   rw[ZtM,ZAs,Ze3 hx,ZtN,Zan (n:=(i:Int)+1) (by omega) (by omega),Int.add_assoc]
   rfl
  ·have hi':i=t.subs.length:=by have:¬(i:Int) < (t.subs.length:Nat):=bO;omega
   subst hi'
   refine Zac (mLt aB fT) ?_
   show Value.int _ _=Value.int _ _
   rw[hn,List.take_length,h,if_neg (by decide)]
termination_by SizeOf.sizeOf t
decreasing_by all_goals exact bV
theorem ZsZ(s:Sc)(m:Mem):CX Tryz.prog 64 #[s.v] m [] (λv m' _=>∃b,v=.func (.func 98) #[] #[.pointer (some ⟨b,0,none⟩)]/\m'.reads b 0 s.cs):=by
 apply ZjV
 intro b m' hm hb
 exact⟨m',hm,Mem.le_refl _,b,rfl,hb⟩
theorem Zrv(s:Sc)(m:Mem)(c0b:Nat)(hr:RepC m s)(hb:m.reads c0b 0 s.cs):IX Tryz.prog 98 [] [.pointer (some ⟨c0b,0,none⟩)] m ((Zhc s).map λa=>[.agg a.cs.toArray]):=by
 apply Zg9 0 [] [] c0b 0
 intro l
 have fZ:s.states.length<=100000:=hr.len
 refine⟨.slice s.sa s.states.length s.sc,hb 2 _ rfl,Zaa rfl ⟨λxs _ _ m' q=>∃i:Nat,i<=s.states.length/\xs=[.int .i64 (((s.states.take i).flatMap ZtP).length:Nat),.int .i64 i]/\q=s.states.length - i,⟨s.states.length,0,by omega,rfl,rfl⟩,?_⟩⟩
 rintro y n m1 q aB ⟨i,hi,hx,rfl⟩
 simp only[List.cons.injEq,Value.int.injEq,true_and,and_true]at hx
 obtain⟨rfl,rfl⟩:=hx
 have hw:IntKind.i64.wrap ((i:Int)+1)=((i+1:Nat):Int):=by rw[Zan (by omega) (by omega)];rfl
 refine Zar (λaO=>?_) (λbO=>.inl ?_)
 ·have aO:(i:Int) < (s.states.length:Nat):=aO
  obtain⟨x,hx⟩:=Zas (show i < s.states.length by omega)
  have jC:=zA2 hx
  obtain⟨b1,o1,gD,dI⟩:=Zaj Sta.len (hr.mono aB).row hx (by omega)
  have cQ:=(hr.mono aB).all x jC
  have jD:x.rules.length<=100000:=cQ.len
  refine Zaa rfl ⟨b1,o1,gD,⟨by omega,aO⟩,_,_,dI,λb2=>Zaa rfl (Zaa rfl ⟨λxs _ _ m' q=>∃k:Nat,k<=x.rules.length/\xs=[.int .i64 (((s.states.take i).flatMap ZtP).length+((x.rules.take k).flatMap (·.acts)).length:Nat),.int .i64 k]/\q=x.rules.length - k,⟨x.rules.length,0,by omega,rfl,rfl⟩,?_⟩)⟩
  rintro y n2 m2 q2 aM ⟨k,hk,gR,rfl⟩
  simp only[List.cons.injEq,Value.int.injEq,true_and,and_true]at gR
  obtain⟨rfl,rfl⟩:=gR
  have jK:IntKind.i64.wrap ((k:Int)+1)=((k+1:Nat):Int):=by rw[Zan (by omega) (by omega)];rfl
  refine Zar (λdQ=>?_) (λeH=>?_)
  ·have dQ:(k:Int) < (x.rules.length:Nat):=dQ
   obtain⟨r,eX⟩:=Zas (show k < x.rules.length by omega)
   obtain⟨b3,o3,gl,fA⟩:=Zaj Ru.len (cQ.mono aM).row eX (by omega)
   have fX:=(cQ.mono aM).all r (zA2 eX)
   have oi:r.acts.length<=100000:=fX.len
   refine Zaa rfl ⟨b3,o3,gl,⟨by omega,dQ⟩,_,_,_,_,_,_,_,_,_,_,_,_,_,_,_,_,fA,λb4=>Zaa rfl (Zaa rfl ⟨λxs _ _ m' q=>∃j:Nat,j<=r.acts.length/\xs=[.int .i64 (((s.states.take i).flatMap ZtP).length+(((x.rules.take k).flatMap (·.acts)).length+j):Nat),.int .i64 j]/\q=r.acts.length - j,⟨r.acts.length,0,by omega,rfl,rfl⟩,?_⟩)⟩
   rintro y n3 m3 q3 aY ⟨j,hj,jT,rfl⟩
   simp only[List.cons.injEq,Value.int.injEq,true_and,and_true]at jT
   obtain⟨rfl,rfl⟩:=jT
   have ot:IntKind.i64.wrap ((j:Int)+1)=((j+1:Nat):Int):=by rw[Zan (by omega) (by omega)];rfl
   refine Zar (λiV=>?_) (λjE=>?_)
   ·have iV:(j:Int) < (r.acts.length:Nat):=iV
    obtain⟨a,ha⟩:=Zas (show j < r.acts.length by omega)
    obtain⟨b5,o5,jU,iK⟩:=Zaj Ac.len (fX.mono aY).row ha (by omega)
    refine Zaa rfl ⟨b5,o5,jU,⟨by omega,iV⟩,_,_,_,_,_,_,_,_,iK,λb6=>Zaa rfl ⟨⟨rfl,Int.natCast_nonneg _,?_⟩,⟨rfl,r.acts.length - (j+1),by omega,j+1,by omega,by rw[ot];rfl,rfl⟩,.inr rfl⟩⟩
    show(List.map (λa:Ac=>[Value.agg a.cs.toArray]) (Zhc s))[((((s.states.take i).flatMap ZtP).length+(((x.rules.take k).flatMap (·.acts)).length+j):Nat):Int).toNat]?=some [Value.agg a.cs.toArray]
    rw[zA8,List.getElem?_map,show(Zhc s)[_]?=some a from Zxb ZtP hx (Zxb (·.acts) eX ha)];rfl
   ·have jE:¬(j:Int) < (r.acts.length:Nat):=jE
    have:j=r.acts.length:=by omega
    subst this
    refine⟨rfl,x.rules.length - (k+1),by omega,k+1,by omega,?_,rfl⟩
    rw[Zqm (·.acts) eX,zA1,jK]
  ·have eH:¬(k:Int) < (x.rules.length:Nat):=eH
   have:k=x.rules.length:=by omega
   subst this
   refine⟨s.states.length - (i+1),by omega,i+1,by omega,?_,rfl⟩
   rw[Zqm ZtP hx,zA1,List.take_length,hw];rfl
 ·have bO:¬(i:Int) < (s.states.length:Nat):=bO
  have:i=s.states.length:=by omega
  subst this
  rw[List.take_length,List.length_map];rfl
theorem Zo1(e:E)(a b c d f g:Int)(c0b:Nat)(m:Mem)(hr:RepE m e):CX Tryz.prog 61 #[e.v,.pointer (some ⟨c0b,0,none⟩)] m [⟨c0b,msV a b c d (w64 f) (w64 g),77,6,false,true⟩] (λv _ css=>v=.tuple #[]/\css=[msV a b c d (w64 (f+Zxa e)) (w64 (g+vrE e))]):=by
 apply Zmh
 intro b1 m1 aB _
 refine⟨λ_ _ _=>Ret (.int .i64 (w64 (Zxa e))),_,rfl,Zov e m1 (hr.mono' aB),(λv _ _ h=>by rw[show v=_ from h];rfl),?_⟩
 intro n m2 aM hv M jn gP
 obtain rfl:n=w64 (Zxa e):=by simpa using(show Value.int .i64 n=Value.int .i64 _ from hv)
 refine⟨λ_ _ _=>Ret (.int .i64 (w64 (vrE e))),_,rfl,Zun e M (hr.mono' (mLt aB jn)),(λv _ _ h=>by rw[show v=_ from h];rfl),?_⟩
 intro n2 m3 aY kV M2 iM ji
 obtain rfl:n2=w64 (vrE e):=by simpa using(show Value.int .i64 n2=Value.int .i64 _ from kV)
 refine⟨rfl,m,Mem.le_refl _,mLt aB (mLt jn iM),rfl,?_⟩
 rw[Zya,Zya,<-ZtM f,<-ZtM g]
 show[[_,_,_,_,Value.int .i64 (w64 (w64 f+Zxa e)),Value.int .i64 (w64 (w64 g+vrE e))]]=_
 rfl
set_option maxHeartbeats 1000000 in
theorem Zuo(s:Sc)(m:Mem)(hr:RepC m s):CX Tryz.prog 25 #[s.v] m [] (Ret (.agg (ZrI s).toArray)):=by
 apply Zru
 intro b m1 aB _ b1 b2
 have fZ:s.states.length<=100000:=hr.len
 refine Zae (ZcH s m1 (hr.mono aB)) λm2 aM=>?_
 have bY:=mLt aB aM
 refine Zab (λhl=>Zac bY ?_) (λhl=>?_)
 ·have hl:s.light=false:=by simpa using hl
  show Value.agg _=Value.agg _
  unfold ZrI;rw[hl];rfl
 have hl:s.light=true:=by simpa using hl
 refine⟨λxs css _ m' q=>∃i:Nat,i<=s.states.length/\xs=[.int .i64 i]/\css=[msV s.states.length (w64 (ZaU ((s.states.take i).map ruS))) (w64 (ZaU ((s.states.take i).map rgS))) 0 0 0]/\q=s.states.length - i,⟨s.states.length,0,by omega,rfl,?_,rfl⟩,?_⟩
 ·show[_]=[msV _ (w64 0) (w64 0) 0 0 0]
  rw[W_0];rfl
 rintro z cs m3 q aY ⟨i,hi,hz,cD,rfl⟩
 obtain rfl:z=i:=by simpa using hz
 obtain rfl:=(List.cons.inj cD).1
 have dM:=mLt bY aY
 have tA:IntKind.i64.wrap ((i:Int)+1)=((i+1:Nat):Int):=by rw[Zan (by omega) (by omega)];rfl
 refine Zar (λaO=>?_) (λbO=>?_)
 ·have aO:(i:Int) < (s.states.length:Nat):=aO
  obtain⟨x,hx⟩:=Zas (show i < s.states.length by omega)
  obtain⟨b3,o3,gl,dI⟩:=Zaj Sta.len (hr.mono dM).row hx (by omega)
  have cQ:=(hr.mono dM).all x (zA2 hx)
  have jD:x.rules.length<=100000:=cQ.len
  have g1:=Za8 ruS hx
  have g2:=Za8 rgS hx
  refine⟨b3,o3,gl,⟨by omega,aO⟩,_,_,dI,λb4=>Zaa rfl (Zaq rfl (Zaa rfl (Zaa rfl (Zaa rfl (Zaa rfl ?_)))))⟩
  refine⟨λxs css _ m' q=>∃k:Nat,k<=x.rules.length/\xs=[.int .i64 k]/\css=[msV s.states.length (w64 (ZaU ((s.states.take (i+1)).map ruS))) (w64 (ZaU ((s.states.take i).map rgS)+ZaU ((x.rules.take k).map rgR))) 0 0 0]/\q=x.rules.length - k,⟨x.rules.length,0,by omega,rfl,?_,rfl⟩,?_⟩
  ·show[_]=[msV _ _ (w64 (_+0)) 0 0 0]
   rw[g1,<-ZtM,Int.add_zero];rfl
  rintro z cs m4 q bP ⟨k,hk,hz,cD,rfl⟩
  obtain rfl:z=k:=by simpa using hz
  obtain rfl:=(List.cons.inj cD).1
  have jK:IntKind.i64.wrap ((k:Int)+1)=((k+1:Nat):Int):=by rw[Zan (by omega) (by omega)];rfl
  refine Zar (λdQ=>?_) (λeH=>⟨rfl,s.states.length - (i+1),by omega,i+1,by omega,by rw[tA],?_,rfl⟩)
  ·have dQ:(k:Int) < (x.rules.length:Nat):=dQ
   obtain⟨r,eX⟩:=Zas (show k < x.rules.length by omega)
   obtain⟨b5,o5,jU,fA⟩:=Zaj Ru.len (cQ.mono bP).row eX (by omega)
   have fX:=(cQ.mono bP).all r (zA2 eX)
   have g3:=Za8 rgR eX
   refine Zaa rfl ⟨b5,o5,jU,⟨by omega,dQ⟩,_,_,_,_,_,_,_,_,_,_,_,_,_,_,_,_,fA,λb6=>Zaa rfl (Zaa rfl (Zab (λh1=>?_) (λh1=>⟨rfl,x.rules.length - (k+1),by omega,k+1,by omega,by rw[jK],?_,rfl⟩)))⟩
   ·have h1':r.k=1:=by have h1:(r.k == (1:Int))=true:=h1;simpa using h1
    refine⟨λ_ _ _=>Ret (.int .i64 r.t.size),Zaq rfl ⟨_,rfl,ZqR r.t m4 fX.t,(λv _ _ h=>by rw[show v=_ from h];rfl),?_⟩⟩
    intro n m5 cL hv
    obtain rfl:n=r.t.size:=by simpa using(show Value.int .i64 n=Value.int .i64 _ from hv)
    refine Zaa rfl (Zaa rfl λM hM _=>⟨rfl,x.rules.length - (k+1),by omega,k+1,by omega,by rw[jK],?_,rfl⟩)
    rw[g3,show rgR r=r.t.size from if_pos h1',<-Int.add_assoc,Zss (ZaU ((s.states.take i).map rgS)+ZaU ((x.rules.take k).map rgR)) r.t.size]
    rfl
   ·have h1':¬r.k=1:=by have h1:(r.k == (1:Int))=false:=h1;simpa using h1
    rw[g3,show rgR r=0 from if_neg h1',Int.add_zero]
  ·have eH:¬(k:Int) < (x.rules.length:Nat):=eH
   have:k=x.rules.length:=by omega
   subst this
   rw[List.take_length,g2];rfl
 have bO:¬(i:Int) < (s.states.length:Nat):=bO
 have:i=s.states.length:=by omega
 subst this
 rw[List.take_length]
 intro b3
 refine Zai (ZsZ s m3) (λv m' css h=>by obtain⟨_,rfl,_⟩:=h;rfl) ?_
 rintro g fi ca m4 bP ⟨b4,hv,mj⟩
 obtain⟨rfl,rfl,rfl⟩:=ZbZ hv
 have ib:=mLt dM bP
 refine⟨_,Zrv s m4 b4 (hr.mono ib) mj,λy hy=>?_,λ_ css _ m' q=>css=[msV s.states.length (w64 (ms1 s)) (w64 (ms2 s)) (w64 (ZaU (((Zhc s).take q).map paA))) (w64 (ZaU (((Zhc s).take q).map ZBq))) (w64 (ZaU (((Zhc s).take q).map vrA)))]/\q<=(Zhc s).length,⟨?_,by omega⟩,?_,?_⟩
 ·obtain⟨z,_,rfl⟩:=List.mem_map.1 hy;rfl
 ·show[_]=[msV _ _ _ (w64 0) (w64 0) (w64 0)]
  rw[W_0];rfl
 ·rintro k0 s0 pa pn pc ek ev es eg ea en ec cs m5 q cL hq ⟨cD,gL⟩ b6
  obtain rfl:=(List.cons.inj cD).1
  have hq':(List.map (λa:Ac=>[Value.agg a.cs.toArray]) (Zhc s))[(q:Nat)]?=some [Value.agg #[.int .u8 k0,.string s0,.slice pa pn pc,.int .u8 ek,ev,.string es,.int .i64 eg,.slice ea en ec]]:=hq
  rw[List.getElem?_map]at hq'
  obtain⟨a,lI,iu⟩:=Option.map_eq_some_iff.1 hq'
  have qO:q < (Zhc s).length:=(zA0 lI).1
  simp only[Ac.cs,List.cons.injEq,Value.agg.injEq,Array.mk.injEq,Value.int.injEq,Value.string.injEq,Value.slice.injEq,true_and,and_true]at iu
  obtain⟨rfl,rfl,⟨rfl,rfl,rfl⟩,rfl,rfl,rfl,rfl,rfl,rfl,rfl⟩:=iu
  have ko:=mLt ib cL
  have iK:=Zyd hr (zA2 lI)
  have km:a.parts.length<=100000:=iK.n
  generalize mO:ZaU (((Zhc s).take q).map paA)=P0
  generalize uL:ZaU (((Zhc s).take q).map ZBq)=O0
  generalize sF:ZaU (((Zhc s).take q).map vrA)=V0
  refine Zaa rfl (Zab (λh3=>?_) (λh3=>?_))
  ·have h3':a.k=3:=by simpa using h3
   refine⟨_,trivial,Zo1 a.e s.states.length (w64 (ms1 s)) (w64 (ms2 s)) (w64 P0) O0 V0 _ m5 (iK.mono ko).e,(λv _ _ h=>by rw[h.1];rfl),λm6 fR cs hv=>?_⟩
   rw[hv.2]
   have tB:=mLt ko fR
   refine⟨λxs css _ m' q=>∃k:Nat,k<=a.parts.length/\xs=[.int .i64 k]/\css=[msV s.states.length (w64 (ms1 s)) (w64 (ms2 s)) (w64 (P0+ZaU ((a.parts.take k).map paP))) (w64 (O0+Zxa a.e+ZaU ((a.parts.take k).map Zyc))) (w64 (V0+vrE a.e+ZaU ((a.parts.take k).map vrP)))]/\q=a.parts.length - k,⟨a.parts.length,0,by omega,rfl,?_,rfl⟩,?_⟩
   ·show[_]=[msV _ _ _ (w64 (P0+0)) (w64 (O0+Zxa a.e+0)) (w64 (V0+vrE a.e+0))]
    simp only[Int.add_zero]
   rintro z cs m6 q fR ⟨k,hk,hz,cD,rfl⟩
   obtain rfl:z=k:=by simpa using hz
   obtain rfl:=(List.cons.inj cD).1
   have iJ:=mLt tB fR
   have jK:IntKind.i64.wrap ((k:Int)+1)=((k+1:Nat):Int):=by rw[Zan (by omega) (by omega)];rfl
   refine Zar (λaO=>?_) (λbO=>⟨rfl,?_,by omega⟩)
   ·have aO:(k:Int) < (a.parts.length:Nat):=aO
    obtain⟨p,hp⟩:=Zas (show k < a.parts.length by omega)
    obtain⟨b8,o8,qd,jS⟩:=Zaj Pt.len (iK.mono iJ).row hp (by omega)
    have lq:=(iK.mono iJ).all p (zA2 hp)
    have g1:=Za8 paP hp
    have g2:=Za8 Zyc hp
    have g3:=Za8 vrP hp
    refine⟨b8,o8,qd,⟨by omega,aO⟩,_,_,_,_,_,_,_,_,jS,λb9=>Zaa rfl (Zaa rfl (Zab (λh1=>Zaq rfl (Zaa rfl (Zaa rfl (Zaa rfl (Zab (λh4=>?_) (λh4=>?_)))))) (λh1=>Zaa rfl (Zab (λh4=>?_) (λh4=>?_)))))⟩
    ·have h1':¬p.k=1:=by have h1:(!(p.k == (1:Int)))=true:=h1;simpa using h1
     have h4':p.k=4:=by have h4:(p.k == (4:Int))=true:=h4;simpa using h4
     refine⟨_,trivial,Zo1 p.e s.states.length (w64 (ms1 s)) (w64 (ms2 s)) (IntKind.i64.wrap (intOf (Value.int .i64 (w64 (P0+ZaU ((a.parts.take k).map paP))))+1)) _ _ _ m6 lq.e,(λv _ _ h=>by rw[h.1];rfl),λm7 i6 cs hv=>⟨rfl,a.parts.length - (k+1),by omega,k+1,by omega,by rw[jK],?_,rfl⟩⟩
     rw[hv.2,g1,g2,g3,show paP p=1 from if_neg h1',show Zyc p=Zxa p.e from if_pos h4',show vrP p=vrE p.e from if_pos h4',<-Int.add_assoc,<-Int.add_assoc,<-Int.add_assoc,Zss (P0+ZaU ((a.parts.take k).map paP)) 1]
     rfl
    ·have h1':¬p.k=1:=by have h1:(!(p.k == (1:Int)))=true:=h1;simpa using h1
     have h4':¬p.k=4:=by have h4:(p.k == (4:Int))=false:=h4;simpa using h4
     refine⟨rfl,a.parts.length - (k+1),by omega,k+1,by omega,by rw[jK],?_,rfl⟩
     rw[g1,g2,g3,show paP p=1 from if_neg h1',show Zyc p=0 from if_neg h4',show vrP p=0 from if_neg h4',Int.add_zero,Int.add_zero,<-Int.add_assoc,Zss (P0+ZaU ((a.parts.take k).map paP)) 1]
     rfl
    ·have h1':p.k=1:=by have h1:(!(p.k == (1:Int)))=false:=h1;simpa using h1
     have h4':p.k=4:=by have h4:(p.k == (4:Int))=true:=h4;simpa using h4
     omega
    ·have h1':p.k=1:=by have h1:(!(p.k == (1:Int)))=false:=h1;simpa using h1
     have h4':¬p.k=4:=by have h4:(p.k == (4:Int))=false:=h4;simpa using h4
     refine⟨rfl,a.parts.length - (k+1),by omega,k+1,by omega,by rw[jK],?_,rfl⟩
     rw[g1,g2,g3,show paP p=0 from if_pos h1',show Zyc p=0 from if_neg h4',show vrP p=0 from if_neg h4',Int.add_zero,Int.add_zero,Int.add_zero]
   ·have bO:¬(k:Int) < (a.parts.length:Nat):=bO
    have:k=a.parts.length:=by omega
    subst this
    have e2:ZBq a=Zxa a.e+ZaU (a.parts.map Zyc):=by unfold ZBq;rw[if_pos h3']
    have e3:vrA a=vrE a.e+ZaU (a.parts.map vrP):=by unfold vrA;rw[if_pos h3']
    rw[List.take_length,Za8 paA lI,Za8 ZBq lI,Za8 vrA lI,mO,uL,sF,e2,e3]
    rw[<-Int.add_assoc,<-Int.add_assoc]
    rfl
  ·have h3':¬a.k=3:=by simpa using h3
   refine⟨λxs css _ m' q=>∃k:Nat,k<=a.parts.length/\xs=[.int .i64 k]/\css=[msV s.states.length (w64 (ms1 s)) (w64 (ms2 s)) (w64 (P0+ZaU ((a.parts.take k).map paP))) (w64 (O0+ZaU ((a.parts.take k).map Zyc))) (w64 (V0+ZaU ((a.parts.take k).map vrP)))]/\q=a.parts.length - k,⟨a.parts.length,0,by omega,rfl,?_,rfl⟩,?_⟩
   ·show[_]=[msV _ _ _ (w64 (P0+0)) (w64 (O0+0)) (w64 (V0+0))]
    simp only[Int.add_zero]
   rintro z cs m6 q fR ⟨k,hk,hz,cD,rfl⟩
   obtain rfl:z=k:=by simpa using hz
   obtain rfl:=(List.cons.inj cD).1
   have iJ:=mLt ko fR
   have jK:IntKind.i64.wrap ((k:Int)+1)=((k+1:Nat):Int):=by rw[Zan (by omega) (by omega)];rfl
   refine Zar (λaO=>?_) (λbO=>⟨rfl,?_,by omega⟩)
   ·have aO:(k:Int) < (a.parts.length:Nat):=aO
    obtain⟨p,hp⟩:=Zas (show k < a.parts.length by omega)
    obtain⟨b8,o8,qd,jS⟩:=Zaj Pt.len (iK.mono iJ).row hp (by omega)
    have lq:=(iK.mono iJ).all p (zA2 hp)
    have g1:=Za8 paP hp
    have g2:=Za8 Zyc hp
    have g3:=Za8 vrP hp
    refine⟨b8,o8,qd,⟨by omega,aO⟩,_,_,_,_,_,_,_,_,jS,λb9=>Zaa rfl (Zaa rfl (Zab (λh1=>Zaq rfl (Zaa rfl (Zaa rfl (Zaa rfl (Zab (λh4=>?_) (λh4=>?_)))))) (λh1=>Zaa rfl (Zab (λh4=>?_) (λh4=>?_)))))⟩
    ·have h1':¬p.k=1:=by have h1:(!(p.k == (1:Int)))=true:=h1;simpa using h1
     have h4':p.k=4:=by have h4:(p.k == (4:Int))=true:=h4;simpa using h4
     refine⟨_,trivial,Zo1 p.e s.states.length (w64 (ms1 s)) (w64 (ms2 s)) (IntKind.i64.wrap (intOf (Value.int .i64 (w64 (P0+ZaU ((a.parts.take k).map paP))))+1)) _ _ _ m6 lq.e,(λv _ _ h=>by rw[h.1];rfl),λm7 i6 cs hv=>⟨rfl,a.parts.length - (k+1),by omega,k+1,by omega,by rw[jK],?_,rfl⟩⟩
     rw[hv.2,g1,g2,g3,show paP p=1 from if_neg h1',show Zyc p=Zxa p.e from if_pos h4',show vrP p=vrE p.e from if_pos h4',<-Int.add_assoc,<-Int.add_assoc,<-Int.add_assoc,Zss (P0+ZaU ((a.parts.take k).map paP)) 1]
     rfl
    ·have h1':¬p.k=1:=by have h1:(!(p.k == (1:Int)))=true:=h1;simpa using h1
     have h4':¬p.k=4:=by have h4:(p.k == (4:Int))=false:=h4;simpa using h4
     refine⟨rfl,a.parts.length - (k+1),by omega,k+1,by omega,by rw[jK],?_,rfl⟩
     rw[g1,g2,g3,show paP p=1 from if_neg h1',show Zyc p=0 from if_neg h4',show vrP p=0 from if_neg h4',Int.add_zero,Int.add_zero,<-Int.add_assoc,Zss (P0+ZaU ((a.parts.take k).map paP)) 1]
     rfl
    ·have h1':p.k=1:=by have h1:(!(p.k == (1:Int)))=false:=h1;simpa using h1
     have h4':p.k=4:=by have h4:(p.k == (4:Int))=true:=h4;simpa using h4
     omega
    ·have h1':p.k=1:=by have h1:(!(p.k == (1:Int)))=false:=h1;simpa using h1
     have h4':¬p.k=4:=by have h4:(p.k == (4:Int))=false:=h4;simpa using h4
     refine⟨rfl,a.parts.length - (k+1),by omega,k+1,by omega,by rw[jK],?_,rfl⟩
     rw[g1,g2,g3,show paP p=0 from if_pos h1',show Zyc p=0 from if_neg h4',show vrP p=0 from if_neg h4',Int.add_zero,Int.add_zero,Int.add_zero]
   ·have bO:¬(k:Int) < (a.parts.length:Nat):=bO
    have:k=a.parts.length:=by omega
    subst this
    have e2:ZBq a=ZaU (a.parts.map Zyc):=by unfold ZBq;rw[if_neg h3',Int.zero_add]
    have e3:vrA a=ZaU (a.parts.map vrP):=by unfold vrA;rw[if_neg h3',Int.zero_add]
    rw[List.take_length,Za8 paA lI,Za8 ZBq lI,Za8 vrA lI,mO,uL,sF,e2,e3]
    rfl
 ·rintro cs m5 cL ⟨cD,_⟩
  rw[List.length_map,List.take_length]at cD
  obtain rfl:=(List.cons.inj cD).1
  refine Zaa rfl (Zac (mLt ib cL) ?_)
  show Value.agg _=Value.agg _
  unfold ZrI;rw[hl,if_pos rfl];rfl
end Go.Proofs.YtojlhhphofhaoaaGreatDoor
namespace Go.Proofs.YtojlhhphofhaoaaGreatDoor
open Go Go.Eng Go.Proofs Go.RowKit
open Go.Value (int slice agg bool string tuple func)
open Go.IntKind (u8 u64 i64)
set_option maxRecDepth 100000
def Zow:Env:={ EB with
 loops:=(λi=>bif Nat.beq i 3 then⟨[(8,.int .i64)],[],[],false⟩ else⟨[],[],[],false⟩) }
theorem Zmi(p0a:Option Addr)(p0n p0c:Nat)(m:Mem)(R:RT)(h:
 ∃(I:IT),inI I [int i64 0] [] [] m/\∀(n:Int)(m':Mem)(n_1:Nat),m.le m'->I [int i64 n] [] [] m' n_1->br (decide (n < (↑p0n:Int))) (atA p0a λb o=>Zaf n p0n/\∃(v:Value),m' b (o +
 Int.toNat n*1)=some v/\chk (ZaN i64 v&&decide (i64=i64)) (br (!intOf v == (0:Int)) (rtM m m' R v) (nxI n_1 I [int i64 (i64.wrap (n+(1:Int)))] [] [] m'))) (rtM m m' R (int i64 0))):CX Tryz.prog 58 #[.slice p0a p0n p0c] m [] R:=
 Zal (E:=Zow) Zak mix Tryz.func58 (by kernel_rfl) (Eq.mp (by kernel_rfl) h)
def Zmj:Env:={ EB with
 dr:=(λi=>bif Nat.beq i 1 then[⟨0,[2],[],none,[],[]⟩,⟨1,[2],[],none,[0],[]⟩,⟨2,[3],[],none,[],[]⟩,⟨3,[3],[],none,[2],[]⟩,⟨4,[],[],none,[0,1,2,3],[]⟩,⟨5,[2],[],none,[],[]⟩,⟨6,[2],[],none,[5],[]⟩,⟨7,[3],[],none,[],[]⟩,⟨8,[3],[],none,[7],[]⟩,⟨9,[],[],none,[0,1,2,3,4,5,6,7,8],[4]⟩,⟨10,[2],[],none,[],[]⟩,⟨11,[2],[],none,[10],[]⟩,⟨12,[3],[],none,[],[]⟩,⟨13,[3],[],none,[12],[]⟩,⟨14,[],[],none,rg 0 14,[9]⟩,⟨15,[2],[],none,[],[]⟩,⟨16,[2],[],none,[15],[]⟩,⟨17,[3],[],none,[],[]⟩,⟨18,[3],[],none,[17],[]⟩,⟨19,[],[],none,rg 0 19,[14]⟩,⟨20,[2],[],none,[],[]⟩,⟨21,[2],[],none,[20],[]⟩,⟨22,[3],[],none,[],[]⟩,⟨23,[3],[],none,[22],[]⟩,⟨24,[],[],none,rg 0 24,[19]⟩,⟨25,[2],[],none,[],[]⟩,⟨26,[2],[],none,[25],[]⟩,⟨27,[3],[],none,[],[]⟩,⟨28,[3],[],none,[27],[]⟩,⟨29,[],[],none,rg 0 29,[24]⟩,⟨30,[35],[35],none,rg 0 30,[29]⟩,⟨31,[35],[35],none,rg 0 31,[30]⟩,⟨32,[],[],none,rg 0 32,[]⟩]else[])
 frzNew:=[2,3] }
theorem ZjW(aA aC aD aE aU aR bB bD bG bK cH cI:Int)(m:Mem)(R:RT)(h:
 lV [int i64 aU,int i64 cH] λxL=>lV [int i64 aD,int i64 bG] λxL_1=>lV [int i64 aR,int i64 cI] λxL_2=>lV [int i64 aC,int i64 bD] λxL_3=>lV [int i64 aA,int i64 bB] λxL_4=>
 lV [int i64 aE,int i64 bK] λxL_5=>fzM m [int i64 aA,int i64 aC,int i64 aD,int i64 aE,int i64 aU,int i64 aR] λb m'=>fzM m' [int i64 bB,int i64 bD,int i64 bG,int i64 bK,int i64
 cH,int i64 cI] λb m'=>∃(f:Fx),∃(R_1:RT),R_1=f 4 xL_4 m'/\CX Tryz.prog 59 (Array.mk xL_4) m' [] R_1/\ZaZ (Shape.int i64) R_1/\∀(n:Int)(m'_1:Mem),lX (int i64 n) λyL=>m'.le m'_1->
 R_1 yL m'_1 []->∃(R_2:RT),R_2=f 9 xL_3 m'_1/\CX Tryz.prog 59 (Array.mk xL_3) m'_1 [] R_2/\ZaZ (Shape.int i64) R_2/\∀(n:Int)(m'_2:Mem),lX (int i64 n) λyL_1=>m'_1.le m'_2->R_2 yL_1 m'_2 []->∃
 (R_3:RT),R_3=f 14 xL_1 m'_2/\CX Tryz.prog 59 (Array.mk xL_1) m'_2 [] R_3/\ZaZ (Shape.int i64) R_3/\∀(n:Int)(m'_3:Mem),lX (int i64 n) λyL_2=>m'_2.le m'_3->R_3 yL_2 m'_3 []->∃(R_4:RT),R_4 =
 f 19 xL_5 m'_3/\CX Tryz.prog 59 (Array.mk xL_5) m'_3 [] R_4/\ZaZ (Shape.int i64) R_4/\∀(n:Int)(m'_4:Mem),lX (int i64 n) λyL_3=>m'_3.le m'_4->R_4 yL_3 m'_4 []->∃(R_5:RT),R_5=f 24 xL m'_4/\CX
 Tryz.prog 59 (Array.mk xL) m'_4 [] R_5/\ZaZ (Shape.int i64) R_5/\∀(n:Int)(m'_5:Mem),lX (int i64 n) λyL_4=>m'_4.le m'_5->R_5 yL_4 m'_5 []->∃(R_6:RT),R_6=f 29 xL_2 m'_5/\CX Tryz.prog 59
 (Array.mk xL_2) m'_5 [] R_6/\ZaZ (Shape.int i64) R_6/\∀(n:Int)(m'_6:Mem),lV [yL,yL_1,yL_2,yL_3,yL_4,int i64 n] λxL=>m'_5.le m'_6->R_6 (int i64 n) m'_6 []->∀(b:Nat),lM (m'_6.add b xL)
 λmL=>lV [slice (some (Addr.mk b 0 none)) 6 6] λxL=>m'_6.free b->∃(R_7:RT),R_7=f 31 xL mL/\CX Tryz.prog 58 (Array.mk xL) mL [] R_7/\ZaZ (Shape.int i64) R_7/\∀(n:Int)(m'_7:Mem),mL.le m'_7->R_7 (int i64 n) m'_7 []->∀(M:Mem),m'.le M->m'_1.le M->m'_2.le M->m'_3.le M->m'_4.le M->m'_5.le M->m'_6.le M->mL.le M->m'_7.le M->rtM m M R (int i64 n)):CX Tryz.prog 24 #[.agg #[.int .i64 aA,.int .i64 aC,.int .i64 aD,.int .i64 aE,.int .i64 aU,.int .i64 aR],.agg #[.int .i64 bB,.int .i64 bD,.int .i64 bG,.int .i64 bK,.int .i64 cH,.int .i64 cI]] m [] R:=
 Zal (E:=Zmj) Zak mix Tryz.func24 (by kernel_rfl) (Eq.mp (by kernel_rfl) h)
end Go.Proofs.YtojlhhphofhaoaaGreatDoor
namespace Go.Proofs.YtojlhhphofhaoaaGreatDoor
open Go Go.Eng Go.Rx Go.Proofs Go.RowKit
set_option maxRecDepth 100000
theorem Zrw(x:Int)(m:Mem):CX Tryz.prog 93 #[.int .i64 x] m [] (Ret (.bool false)):=by
 apply ZgY
 exact Zac (Mem.le_refl m) (by show Value.bool _=Value.bool false;simp)
theorem Zku(x y:Int)(m:Mem):CX Tryz.prog 59 #[.int .i64 x,.int .i64 y] m [] (Ret (.int .i64 (Zfr [x] [y]))):=by
 apply Zfc
 refine Zae (Zrw x m) λm1 aB=>Zae (Zrw y m1) λm2 aM=>ZdQ rfl (ZdQ rfl (Zar (λh=>Zac (mLt aB aM) ?_) (λh=>Zar (λh2=>Zac (mLt aB aM) ?_) (λh2=>Zac (mLt aB aM) ?_))))
 ·show Value.int _ _=Value.int _ _
  unfold Zfr;rw[if_pos h]
 ·show Value.int _ _=Value.int _ _
  unfold Zfr;rw[if_neg h,if_pos h2]
 ·show Value.int _ _=Value.int _ _
  unfold Zfr;rw[if_neg h,if_neg h2];rfl
def orL:List Int->Int
 | []=>0
 | x::l=>if x=0 then orL l else x
theorem ZDX(l:List Int)(a:Option Addr)(c:Nat)(m:Mem)(hl:l.length<=1000000)(hr:rowRd m a (l.map (Value.int .i64))):CX Tryz.prog 58 #[.slice a l.length c] m [] (Ret (.int .i64 (orL l))):=by
 apply Zmi
 refine⟨λxs _ _ m' q=>∃i:Nat,i<=l.length/\xs=[.int .i64 i]/\orL l=orL (l.drop i)/\q=l.length - i,⟨l.length,0,by omega,rfl,rfl,rfl⟩,?_⟩
 rintro n m1 q aB ⟨i,hi,hx,he,rfl⟩
 obtain rfl:n=i:=by simpa using hx
 refine Zar (λaO=>?_) (λbO=>Zac aB ?_)
 ·have aO:(i:Int) < (l.length:Nat):=aO
  obtain⟨x,hx⟩:=Zde (show i < l.length by omega)
  have hd:l.drop i=x::l.drop (i+1):=by rw[List.drop_eq_getElem_cons (by omega),(zA0 hx).2]
  obtain⟨b1,o1,ha,ug⟩:=ZEc (hr.mono aB) (show(l.map (Value.int .i64))[i]?=some (.int .i64 x) by rw[List.getElem?_map,hx];rfl)
  refine⟨b1,o1,ha,⟨by omega,aO⟩,_,ug,Zaa rfl (Zab (λh=>Zac aB ?_) (λh=>⟨l.length - (i+1),by omega,i+1,by omega,by rw[Zan (by omega) (by omega)];rfl,?_,rfl⟩))⟩
  ·have h:¬x=0:=by have h:(!(x == (0:Int)))=true:=h;simpa using h
   show Value.int _ _=Value.int _ _
   rw[he,hd];unfold orL;rw[if_neg h]
  ·have h:x=0:=by have h:(!(x == (0:Int)))=false:=h;simpa using h
   rw[he,hd];show(if x=0 then _ else _)=_;rw[if_pos h]
 ·have hi:i=l.length:=by have:¬(i:Int) < (l.length:Nat):=bO;omega
  subst hi
  show Value.int _ _=Value.int _ _
  rw[he,List.drop_length];rfl
theorem Zs0(x y:Int)(l r:List Int)(n:Int)(h:n=Zfr l r):(if Zfr [x] [y]=0 then n else Zfr [x] [y])=Zfr (x::l) (y::r):=by
 subst h
 simp only[Zfr]
 by_cases g1:x < y
 ·simp[g1]
 ·by_cases g2:x > y
  ·simp[g1,g2]
  ·simp[g1,g2]
theorem Zrx(a0 a1 a2 a3 a4 a5 b0 b1 b2 b3 b4 b5:Int)(m:Mem):CX Tryz.prog 24 #[.agg (msV a0 a1 a2 a3 a4 a5).toArray,.agg (msV b0 b1 b2 b3 b4 b5).toArray] m [] (Ret (.int .i64 (Zfr [a0,a1,a2,a3,a4,a5] [b0,b1,b2,b3,b4,b5]))):=by
 apply ZjW
 intro q1 m1 aB _ q2 m2 aM _
 have fi:∀{x:Int} (v:Value) (m':Mem) (css:List (List Value)),Ret (.int .i64 x) v m' css->Shape.fits (.int .i64) v=true:=λv _ _ h=>by rw[show v=_ from h];rfl
 have inj:∀{x y:Int} {m':Mem},Ret (.int .i64 x) (.int .i64 y) m' []->y=x:=λh=>by simpa using(show Value.int .i64 _=Value.int .i64 _ from h)
 refine⟨λk _ _=>Ret (.int .i64 (bif Nat.beq k 4 then Zfr [a0] [b0]else bif Nat.beq k 9 then Zfr [a1] [b1]else bif Nat.beq k 14 then Zfr [a2] [b2]else bif Nat.beq k 19 then Zfr [a3] [b3]else bif Nat.beq k 24 then Zfr [a4] [b4]else bif Nat.beq k 29 then Zfr [a5] [b5]else Zfr [a0,a1,a2,a3,a4,a5] [b0,b1,b2,b3,b4,b5])),?_⟩
 refine⟨_,rfl,Zku a0 b0 m2,fi,λn1 m3 aY h1=>?_⟩
 refine⟨_,rfl,Zku a1 b1 m3,fi,λn2 m4 bP h2=>?_⟩
 refine⟨_,rfl,Zku a2 b2 m4,fi,λn3 m5 cL h3=>?_⟩
 refine⟨_,rfl,Zku a3 b3 m5,fi,λn4 m6 fR h4=>?_⟩
 refine⟨_,rfl,Zku a4 b4 m6,fi,λn5 m7 i6 h5=>?_⟩
 refine⟨_,rfl,Zku a5 b5 m7,fi,λn6 m8 ia h6 b hf=>?_⟩
 obtain rfl:=inj h1
 obtain rfl:=inj h2
 obtain rfl:=inj h3
 obtain rfl:=inj h4
 obtain rfl:=inj h5
 obtain rfl:=inj h6
 have hO:=ZDX [Zfr [a0] [b0],Zfr [a1] [b1],Zfr [a2] [b2],Zfr [a3] [b3],Zfr [a4] [b4],Zfr [a5] [b5]] (some ⟨b,0,none⟩) 6 (m8.add b ([Zfr [a0] [b0],Zfr [a1] [b1],Zfr [a2] [b2],Zfr [a3] [b3],Zfr [a4] [b4],Zfr [a5] [b5]].map (Value.int .i64))) (by simp) (.inr ⟨b,0,rfl,Zb6 m8 b _⟩)
 have e:orL [Zfr [a0] [b0],Zfr [a1] [b1],Zfr [a2] [b2],Zfr [a3] [b3],Zfr [a4] [b4],Zfr [a5] [b5]]=Zfr [a0,a1,a2,a3,a4,a5] [b0,b1,b2,b3,b4,b5]:=by
  simp only[orL]
  refine Zs0 _ _ _ _ _ (Zs0 _ _ _ _ _ (Zs0 _ _ _ _ _ (Zs0 _ _ _ _ _ (Zs0 _ _ _ _ _ ?_))))
  split
  ·rename_i h;exact h.symm
  ·rfl
 rw[e]at hO
 refine⟨_,rfl,hO,fi,λn7 m9 mr h7 M hM _ _ _ _ _ _ _ _=>?_⟩
 obtain rfl:=inj h7
 exact Zac (mLt aB (mLt aM hM)) rfl
end Go.Proofs.YtojlhhphofhaoaaGreatDoor
namespace Go.Proofs.YtojlhhphofhaoaaGreatDoor
open Go Go.Eng Go.Proofs Go.RowKit
open Go.Value (int slice agg bool string tuple func)
open Go.IntKind (u8 u64 i64)
set_option maxRecDepth 100000
def Zf9:Env:={ EB with
 loops:=(λi=>bif Nat.beq i 13 then⟨[(11,.int .i64),(89,.int .i64)],[],[],false⟩ else bif Nat.beq i 18 then⟨[(11,.int .i64),(15,.int .i64),(98,.int .i64)],[],[],false⟩ else⟨[],[],[],false⟩)
 joins:=(λi=>bif Nat.beq i 6 then some [(62,.bool)]else bif Nat.beq i 9 then some [(85,.bool)]else bif Nat.beq i 20 then some [(116,.bool)]else bif Nat.beq i 27 then some [(168,.bool)]else none)
 dr:=(λi=>bif Nat.beq i 8 then[⟨0,[4],[],none,[],[]⟩,⟨1,[],[],none,[0],[]⟩,⟨2,[3],[],none,[],[]⟩,⟨3,[],[],none,[0,1,2],[1]⟩,⟨4,[],[],none,[0,1,2,3],[3]⟩,⟨5,[],[],none,[0,1,2,3,4],[]⟩]else bif Nat.beq i 22 then[⟨0,[],[],none,[],[]⟩,⟨1,[4],[],none,[],[]⟩,⟨2,[4],[],none,[1],[]⟩,⟨3,[],[],none,[],[]⟩,⟨4,[],[],none,[1,2,3],[]⟩,⟨5,[],[],none,[1,2,3,4],[]⟩,⟨6,[],[],none,[1,2,3,4,5],[]⟩,⟨7,[],[],none,[1,2,3,4,5,6],[]⟩,⟨8,[],[],none,[0,1,2,3,4,5,6,7],[]⟩,⟨9,[],[],none,[0,1,2,3,4,5,6,7,8],[]⟩,⟨10,[17],[],none,[0,1,2,3,4,5,6,7,8,9],[]⟩,⟨11,[4],[],none,[0,1,2,3,4,5,6,7,8,9],[]⟩,⟨12,[4],[],none,[0,1,2,3,4,5,6,7,8,9,11],[]⟩,⟨13,[],[],none,[0,1,2,3,4,5,6,7,8,9],[]⟩,⟨14,[],[],none,rg 0 10++[11,12,13],[]⟩,⟨15,[],[],none,rg 0 10++rg 11 4,[]⟩,⟨16,[],[],none,rg 0 10++rg 11 5,[]⟩,⟨17,[],[],none,[0,1,2,3,4,5,6,7,8,9],[]⟩,⟨18,[],[],none,rg 0 10++rg 11 7,[]⟩,⟨19,[],[],none,rg 0 10++rg 11 8,[]⟩,⟨20,[],[],none,rg 0 20,[]⟩,⟨21,[],[],none,rg 0 21,[]⟩,⟨22,[],[],none,rg 0 22,[]⟩]else[])
 frzNew:=[1]
 thaw:=true
 gb:=true }
theorem Zff(aA:Int)(aH:Option Addr)(aG aI:Nat)(aJ:Option Addr)(aF aK:Nat)(m:Mem)(R:RT)(h:
 lV [int u8 aA,slice aH aG aI,slice aJ aF aK] λxL=>fzM m xL λb m'=>lE [some (Box.mk b xL 25 3 true true)] λcb=>m.free b->(∀(b' o:Nat)(u:Value),m' b' o=some u->m b' o =
 some u\/b'=b)->kB Tryz.prog 8 [] m' λb m'=>br (!b) (rtM m m' R (bool false)) (∃(R_1:RT),True/\CX Tryz.prog 9 (Array.mk [agg (Array.mk xL)]) m' [] R_1/\ZaZ (Shape.agg [Shape.int i64,Shape.slice,
 Shape.slice]) R_1/\∀(n:Int)(a:Option Addr)(cc c:Nat)(a6:Option Addr)(ao cd:Nat)(ap:Mem),lV [int i64 n,slice a cc c,slice a6 ao cd] λxL=>lX (agg (Array.mk xL)) λyL=>m'.le ap->R_1 yL
 ap []->∀(b:Nat),∃(R_2:RT),lE (some (Box.mk b xL 30 3 false true)::cb) λxL=>True/\CX Tryz.prog 15 (Array.mk [yL]) ap [] R_2/\ZaZ (Shape.tup [Shape.agg [Shape.int i64,Shape.slice,Shape.slice],
 Shape.slice,Shape.int i64]) R_2/\∀(n:Int)(a:Option Addr)(ce c:Nat)(aq:Option Addr)(aj cf:Nat)(a7:Option Addr)(aw cg:Nat)(a8:Int)(m':Mem),lE (↑aw:Int) λak=>lV [int i64 n,slice a ce
 c,slice aq aj cf] λa9=>lX (agg (Array.mk a9)) λac=>ap.le m'->R_2 (tuple (Array.mk [ac,slice a7 aw cg,int i64 a8])) m' []->∀(b:Nat),∃(R_3:RT),lE (some (Box.mk b a9 30 3 false true)::xL) fun
 xL=>True/\CX Tryz.prog 15 (Array.mk [ac]) m' [] R_3/\ZaZ (Shape.tup [Shape.agg [Shape.int i64,Shape.slice,Shape.slice],Shape.slice,Shape.int i64]) R_3/\∀(n:Int)(a:Option Addr)(ch c:Nat) (ci:Option
 Addr) (cj ck:Nat) (cl:Option Addr) (ba cm:Nat) (bb:Int) (ab:Mem),lV [int i64 n,slice a ch c,slice ci cj ck] λax=>m'.le ab->R_3 (tuple (Array.mk [agg (Array.mk ax),slice cl ba cm,int i64 bb])) ab
 []->∀(b:Nat),∃(bc:Bool),lV [bool bc] λal=>lE (some (Box.mk b ax 30 3 false true)::xL) λxL=>br (!i64.wrap (a8+bb) == (0:Int)) (Zad xL/\[bool true]=al) (kB Tryz.prog 22 [ac] ab λb
 m'=>br (!b) (Zad xL/\[bool true]=al) (br (!(↑ba:Int) == (0:Int)) (Zad xL/\[bool true]=al) (kB Tryz.prog 23 [ac,agg (Array.mk ax)] m' λb m'=>br (!b) (Zad xL/\[bool true]=al) (Zad xL/\
 [bool !(↑aj:Int) == (↑ao:Int)]=al))))/\br bc (rtM m ab R (bool false)) (∃(f:Fx),∃(R_4:RT),R_4=f 1 [ac] ab/\CX Tryz.prog 25 (Array.mk [ac]) ab [] R_4/\ZaZ (Shape.agg [Shape.int i64,Shape.int i64,
 Shape.int i64,Shape.int i64,Shape.int i64,Shape.int i64]) R_4/\∀(n cn co cp cq cr:Int)(m':Mem),lX (agg (Array.mk [int i64 n,int i64 cn,int i64 co,int i64 cp,int i64 cq,int i64 cr])) λay=>ab.le m'->R_4 ay m' []->∃(R_5:RT),R_5=f 3 [yL] m'/\CX Tryz.prog 25 (Array.mk [yL]) m' [] R_5/\ZaZ (Shape.agg [Shape.int i64,Shape.int i64,Shape.int i64,Shape.int i64,Shape.int i64,Shape.int i64]) R_5/\∀(n cs
 ct cu cv cw:Int) (af:Mem),lX (agg (Array.mk [int i64 n,int i64 cs,int i64 ct,int i64 cu,int i64 cv,int i64 cw])) λaz=>m'.le af->R_5 az af []->∃(R_6:RT),R_6=f 4 [ay,az] af/\CX Tryz.prog 24
 (Array.mk [ay,az]) af [] R_6/\ZaZ (Shape.int i64) R_6/\∀(n:Int)(a0:Mem),lV [bool (decide (n ≥ (0:Int)))] λbd=>af.le a0->R_6 (int i64 n) a0 []->∀(M:Mem),ab.le M->m'.le M->af.le M
 -> a0.le M->∃(b:Bool),lV [bool b] λam=>br (ak == (0:Int)) (kB Tryz.prog 23 [yL,ac] M λb m'=>br (!b) (Zad xL/\[bool true]=am) (br (decide (ak > (0:Int))) (Zad xL/\bd=am) (Zad xL/\
 [bool false]=am))) (br (decide (ak > (0:Int))) (Zad xL/\bd=am) (Zad xL/\[bool false]=am))/\br b (rtM m M R (bool false)) (∃(I:IT),inI I [int i64 0,int i64 0] [] [] M/\∀(n aa:Int)(m':Mem) (be
 : Nat),lE (Int.toNat aa*2) λyL=>True->I [int i64 n,int i64 aa] [] [] m' be->br (decide (aa < (↑ao:Int))) (atA a6 λb o=>Zaf aa ao/\∃v ad:Value,lV [v,ad] λbf=>m'.reads b
 (o+yL) bf/\∀(b:Nat),lE (some (Box.mk b bf 42 2 false true)::xL) λag=>chk (v.oneCell'&&(ad.oneCell'&&true)) (∀(b:Nat),lX (Value.map (some b)) λar=>m'.free b->Mem.k m' b=none
 -> chk (Zbb ad) (∃(au:IT),inI au [int i64 n,int i64 0,int i64 0] [] [] (Mem.updK m' b [])/\∀(n ae ah:Int)(m':Mem)(a1:Nat),lX (int i64 n) λa2=>lV [int i64 (i64.wrap (ah+(1:Int)))] λbg
 => True->au [a2,int i64 ae,int i64 ah] [] [] m' a1->br (decide (ah < (↑(slN ad):Int))) (chk (Zbb ad) (atA (slA ad) λb o=>Zaf ah (slN ad)/\∃v bh bi bj bk bl bm bn bo bp bq bs bt bu bv bw:Value,lV [v,bh,bi,bj,bk,bl,
 bm,bn,bo,bp,bq,bs,bt,bu,bv,bw] λxL=>m'.reads b (o+Int.toNat ah*16) xL/\∀(b:Nat),lE (some (Box.mk b xL 57 16 false true)::ag) λbx=>chk (v.oneCell'&&(bh.oneCell' &&
 (bi.oneCell'&&(bj.oneCell'&&(bk.oneCell'&&(bl.oneCell'&&(bm.oneCell'&&(bn.oneCell'&&(bo.oneCell'&&(bp.oneCell'&&(bq.oneCell'&&(bs.oneCell' &&
 (bt.oneCell'&&(bu.oneCell'&&(bv.oneCell'&&(bw.oneCell'&&true)))))))))))))))) (∃(b:Bool),br (decide (n < ak)) (atA a7 λa3 o=>Zaf n aw/\∃v ai:Value,m'.reads a3 (o+Int.toNat n*2) [v,ai]/\∃(an:Bool),EqIs Tryz.prog 37 (agg (Array.mk [v,ai])) (agg (Array.mk [int i64 aa,int i64 ah])) an/\Zad bx/\[bool an]=[bool b]) (Zad bx/\[bool false] =
 [bool b])/\br b (Zad ag/\nxI a1 au (int i64 (i64.wrap (n+(1:Int)))::int i64 ae::bg) [] [] m') (∃(f:Fx),atA aq λb o=>Zaf aa aj/\∃(ai:Value),m' b (o+yL+1)=some ai/\chk (Zbb
 ai) (br (decide (ae ≥ (↑(slN ai):Int))) (∀(M:Mem),m'.le M->m'.le M->rtM m M R (bool false)) (atA aq λb o=>Zaf aa aj/\∃(av:Value),m' b (o+yL+1)=some av/\chk (Zbb av) (atA (slA av)
 λb o=>Zaf ae (slN av)/\∃cx cy cz da db dc dd de df dg dh di dj dk dl dm:Value,lV [cx,cy,cz,da,db,dc,dd,de,df,dg,dh,di,dj,dk,dl,dm] λbz=>lV [agg (Array.mk xL),agg (Array.mk bz)] λxL=>m'.reads b (o
 + Int.toNat ae*16) bz/\∃(R_7:RT),R_7=f 20 xL m'/\CX Tryz.prog 17 (Array.mk xL) m' [] R_7/\ZaZ Shape.bool R_7/\∀(b:Bool)(a4:Mem),m'.le a4->R_7 (bool b) a4 []->∀(M:Mem),m'.le M->a4.le M->br (!b) (rtM m M R (bool false)) (∃(b:Nat),∃(es:List (Value×Value)),∃(a5:Value),∃(o:Bool),ar=Value.map (some b)/\Mem.k M b=some es/\ZuF Tryz.prog 5 v/\LookIs Tryz.prog 5 v es (int i64
 0) a5 o/\chk (ZaN i64 a5&&decide (i64=i64)) (∃(b:Nat),∃(es:List (Value×Value)),∃(es':List (Value×Value)),ar=Value.map (some b)/\Mem.k M b=some es/\ZuF Tryz.prog 5 v/\ZkG Tryz.prog 5 v
 (int i64 (i64.wrap (intOf a5+(1:Int)))) es es'/\Mem.k m b=none/\Zad ag/\nxI a1 au (a2::int i64 (i64.wrap (ae+(1:Int)))::bg) [] [] (Mem.updK M b es')))))))))) (∃(b:Bool),
 (atA aq λa3 o=>Zaf aa aj/\∃(v:Value),m' a3 (o+yL+1)=some v/\chk (Zbb v) (br (!ae == (↑(slN v):Int)) (Zad ag/\[bool true]=[bool b]) (∃(an:Nat),∃(es:List (Value×Value)),∃(v:
 Value),∃(o:Bool),ar=Value.map (some an)/\Mem.k m' an=some es/\ZuF Tryz.prog 5 (int u8 4)/\LookIs Tryz.prog 5 (int u8 4) es (int i64 0) v o/\chk (ZaN i64 v&&decide (i64=i64)) (br (decide
 (intOf v > (1:Int))) (Zad ag/\[bool true]=[bool b]) (∃(ca:Nat),∃(es:List (Value×Value)),∃(v:Value),∃(o:Bool),ar=Value.map (some ca)/\Mem.k m' ca=some es/\ZuF Tryz.prog 5 (int u8
 3)/\LookIs Tryz.prog 5 (int u8 3) es (int i64 0) v o/\chk (ZaN i64 v&&decide (i64=i64)) (Zad ag/\[bool (decide (intOf v > (1:Int)))]=[bool b]))))))/\br b (rtM m m' R (bool false)) (Zad xL/\
 nxI be I [a2,int i64 (i64.wrap (aa+(1:Int)))] [] [] m'))))) (rtM m m' R (bool (n == ak))))))):CX Tryz.prog 7 #[.agg #[.int .u8 aA,.slice aH aG aI,.slice aJ aF aK]] m [] R:=
 Zal (E:=Zf9) Zak mix Tryz.func7 (by kernel_rfl) (Eq.mp (by kernel_rfl) h)
end Go.Proofs.YtojlhhphofhaoaaGreatDoor
namespace Go.Proofs.YtojlhhphofhaoaaGreatDoor
open Go Go.Eng Go.Rx Go.Proofs Go.RowKit
set_option maxRecDepth 100000
theorem ZBh(a b:Int):EqIs Tryz.prog 5 (.int .u8 a) (.int .u8 b) (a == b):=ZxI Tryz.underlying5 (by simp[Instr.sameNow]) (λop ox oy w=>by cases op <;> simp[eqGuard])
theorem Zry{s s':Sc}{n:Int}{a1:Option Addr}{k1 c1:Nat}{a2:Option Addr}{k2 c2:Nat}{a3:Option Addr}{k3 c3:Nat}{e:Int}{a:Option Addr}{c:Nat}(h:Value.tuple #[.agg #[.int .i64 n,.slice a1 k1 c1,.slice a2 k2 c2],.slice a3 k3 c3,.int .i64 e]=.tuple #[s'.v,.slice a (Za0 s).length c,.int .i64 0]):(n=s'.n/\a1=s'.va/\k1=s'.vars.length/\c1=s'.vc/\a2=s'.sa/\k2=s'.states.length/\c2=s'.sc)/\(a3=a/\k3=(Za0 s).length/\c3=c)/\e=0:=by
 simpa[Sc.v,and_assoc]using h
theorem Zrz{s:Sc}(hl:s.light=true):∀(v:Value)(m':Mem) (css:List (List Value)),Ret (.agg (ZrI s).toArray) v m' css->Shape.fits (.agg [.int .i64,.int .i64,.int .i64,.int .i64,.int .i64,.int .i64]) v=true:=λv _ _ h=>by
 rw[show v=_ from h]
 unfold ZrI
 rw[if_pos hl];rfl
theorem Zup{s:Sc}(hl:s.light=true){a b c d e f:Int}{m':Mem}(h:Ret (.agg (ZrI s).toArray) (.agg #[.int .i64 a,.int .i64 b,.int .i64 c,.int .i64 d,.int .i64 e,.int .i64 f]) m' []):a=s.states.length/\b=w64 (ms1 s)/\c=w64 (ms2 s)/\d=w64 (ms3 s)/\e=w64 (ms4 s)/\f=w64 (ms5 s):=by
 have h:Value.agg _=Value.agg _:=h
 unfold ZrI at h
 rw[if_pos hl]at h
 simpa[msV]using h
set_option maxHeartbeats 4000000 in
theorem Zox(x:SScr)(m:Mem)(hx:RepSC m x):CX Tryz.prog 7 #[.agg x.cs.toArray] m [] (Ret (.bool true)):=by
 apply Zff
 intro b m1 aB _ _ _
 refine Zae (ZsS m1) λm2 aM=>ZdQ rfl ?_
 have bY:=mLt aB aM
 refine Zai (ZAY x m2 (hx.mono bY)) ZAW ?_
 rintro n a n1 c a1 n2 c1 m3 aY ⟨s,hv,hr,hk⟩
 simp only[Sc.v,Value.agg.injEq,Array.mk.injEq,List.cons.injEq,Value.int.injEq,Value.slice.injEq,true_and,and_true]at hv
 obtain⟨rfl,⟨rfl,rfl,rfl⟩,rfl,rfl,rfl⟩:=hv
 have dM:=mLt bY aY
 have cE:okS s=true:=by unfold okS;rw[hk.check];rfl
 have fZ:=hk.len
 intro b2
 refine Zai (Zxx s m3 hr cE hk.light) Zna ?_
 rintro n3 a3 n4 c3 a5 n5 c5 a6 n6 c6 e7 m4 bP ⟨s',al,cl,hv,jY,dO,aN⟩
 obtain⟨⟨rfl,rfl,rfl,rfl,rfl,rfl,rfl⟩,⟨rfl,rfl,rfl⟩,rfl⟩:=Zry hv
 have ib:=mLt dM bP
 have hl':s'.light=true:=(Zlb jY).trans hk.pass.light
 have qg:okS s'=true:=by unfold okS;rw[ZvE jY,hk.pass.check];rfl
 have nW:Za0 s'=[]:=(ZAx jY).trans (ZvF s)
 have tT:=Zyk s
 have gG:=ZCk jY
 have fP:=hk.ms1
 have xF:=hk.pass.ms1
 intro b3
 refine Zai (Zxx s' m4 dO qg hl') Zna ?_
 rintro n7 a7 n8 c8 a8 n9 c9 a9 n10 c10 e10 m5 cL ⟨s2,al2,cl2,kV,qh,qi,eK⟩
 obtain⟨⟨rfl,rfl,rfl,rfl,rfl,rfl,rfl⟩,⟨rfl,rfl,rfl⟩,rfl⟩:=Zry kV
 rw[Zqt nW]at qh
 have uM:=mLt bP cL
 have vH:=hk.dead
 have bA:s'.states.length=s.states.length:=by
  have:=ZAp jY
  rw[(Zkn s).2]at this
  simpa using this
 have lF:(Za0 s=[]->s'.er=s.er):=λh=>by rw[jY,Zqt h]
 rw[(Zkn s).2]at jY
 intro b4
 refine⟨false,ZdQ rfl (Zae (ZlO s' m5 (dO.mono cL)) λm6 fR=>ZdQ (by show(!okS s')=false;rw[qg];rfl) (ZdQ (by rw[nW];rfl) (Zae (Zrs s' s2 m6 (dO.mono (mLt cL fR)) (qi.mono fR)) λm7 i6=>ZdQ (by rw[Zql qh.symm hl'];rfl) ⟨rfl,by rw[bA];simp⟩))),ZdQ rfl ?_⟩
 refine⟨λk _ _=>bif Nat.beq k 1 then Ret (.agg (ZrI s').toArray)else bif Nat.beq k 3 then Ret (.agg (ZrI s).toArray)else Ret (.int .i64 (Zfr [(s'.states.length:Int),w64 (ms1 s'),w64 (ms2 s'),w64 (ms3 s'),w64 (ms4 s'),w64 (ms5 s')] [(s.states.length:Int),w64 (ms1 s),w64 (ms2 s),w64 (ms3 s),w64 (ms4 s),w64 (ms5 s)])),_,rfl,Zuo s' m5 (dO.mono cL),Zrz hl',?_⟩
 intro p1 p2 p3 p4 p5 p6 m6 fR p8
 obtain⟨rfl,rfl,rfl,rfl,rfl,rfl⟩:=Zup (m':=m6) hl' p8
 refine⟨_,rfl,Zuo s m6 (hr.mono (mLt uM fR)),Zrz hk.light,?_⟩
 intro p1 p2 p3 p4 p5 p6 m7 i6 qa
 obtain⟨rfl,rfl,rfl,rfl,rfl,rfl⟩:=Zup (m':=m7) hk.light qa
 refine⟨_,rfl,Zrx _ _ _ _ _ _ _ _ _ _ _ _ m7,(λv _ _ h=>by rw[show v=_ from h];rfl),?_⟩
 intro cc m8 ia tu M uN xG xH xI
 obtain rfl:cc=_:=by simpa using(show Value.int .i64 cc=Value.int .i64 _ from tu)
 have rb:=mLt uM uN
 have uO:=mLt cL uN
 have qT:=mLt dM rb
 have qj:0 < (Za0 s).length->Zfr [(s'.states.length:Int),w64 (ms1 s'),w64 (ms2 s'),w64 (ms3 s'),w64 (ms4 s'),w64 (ms5 s')] [(s.states.length:Int),w64 (ms1 s),w64 (ms2 s),w64 (ms3 s),w64 (ms4 s),w64 (ms5 s)]=-1:=λh=>by
  rw[bA,ZEa (n:=ms1 s') (by unfold I64;omega),ZEa (n:=ms1 s) (by unfold I64;omega)]
  unfold Zfr
  rw[if_neg (by omega),if_neg (by omega)]
  unfold Zfr
  rw[if_pos (by omega)]
 generalize Zfr [(s'.states.length:Int),w64 (ms1 s'),w64 (ms2 s'),w64 (ms3 s'),w64 (ms4 s'),w64 (ms5 s')] [(s.states.length:Int),w64 (ms1 s),w64 (ms2 s),w64 (ms3 s),w64 (ms4 s),w64 (ms5 s)]=cc at qj
 refine⟨false,Zab (λh0=>?_) (λh0=>?_),ZdQ rfl ?_⟩
 ·have h1:((Za0 s).length:Int)=0:=by simpa using h0
  have h0:(Za0 s).length=0:=by omega
  refine Zae (Zrs s s' M (hr.mono rb) (dO.mono uO)) λm9 mr=>ZdQ ?_ (ZdQ (decide_eq_false (by omega)) ⟨rfl,rfl⟩)
  rw[Zql (lF (List.eq_nil_of_length_eq_zero h0)).symm hk.light];rfl
 ·have h0:0 < (Za0 s).length:=by
   have:¬((Za0 s).length:Int)=0:=by simpa using h0
   omega
  refine ZrB (decide_eq_true (by omega)) ⟨rfl,?_⟩
  rw[qj h0];rfl
 refine⟨λxs _ _ m' q=>∃i:Nat,i<=s.states.length/\xs=[.int .i64 ((deadU s i).length:Nat),.int .i64 i]/\M.le m'/\q=s.states.length - i,⟨s.states.length,0,by omega,rfl,Mem.le_refl _,rfl⟩,?_⟩
 rintro nd z m9 q _ ⟨i,hi,hz,re,rfl⟩
 simp only[List.cons.injEq,Value.int.injEq,true_and,and_true]at hz
 obtain⟨rfl,rfl⟩:=hz
 have w7:=mLt rb re
 have tA:IntKind.i64.wrap ((i:Int)+1)=((i+1:Nat):Int):=by rw[Zan (by omega) (by omega)];rfl
 refine Zar (λaO=>?_) (λbO=>Zac (mLt qT re) ?_)
 ·have aO:(i:Int) < (s.states.length:Nat):=aO
  obtain⟨y,hy⟩:=Zde (show i < s.states.length by omega)
  have q7:=zA2 hy
  obtain⟨y',hy',w8⟩:=ZAo jY (i:=i) (x:=ZeV y) (by simp[hy])
  have qk:=zA2 hy'
  obtain⟨_,tC,nL⟩:=ZiR w8
  have nL:y'.rules.length=(Zch y y.rules.length).length:=nL
  have gO:=(hk.all i y hy).len
  have dF:=Zeq hy
  obtain⟨b5,o5,jU,iy⟩:=Zaj Sta.len (hr.mono w7).row hy (by omega)
  refine⟨b5,o5,jU,⟨by omega,aO⟩,_,_,iy,λb6=>Zaa rfl λbm xJ eJ=>Zaa rfl ?_⟩
  have tD:M.k bm=none:=Zi7 re eJ
  have jo:m.k bm=none:=Zi7 qT tD
  refine⟨λxs _ _ mm q=>∃j:Nat,j<=y.rules.length/\xs=[.int .i64 ((deadU s i).length+(ZbW i y j).length:Nat),.int .i64 (Zsu y j:Nat),.int .i64 j]/\M.le mm/\(∃L,mm.k bm=some (ZDn L)/\∀k,ZvH L k=ZAy (Zch y j) k)/\q=y.rules.length - j,⟨y.rules.length,0,by omega,rfl,Mem.le_updK re tD _,⟨[],Mem.updK_same _ _ _,λk=>rfl⟩,rfl⟩,?_⟩
  rintro nd2 kk jj m10 q2 _ ⟨j,hj,nu,lc,⟨L,hL,ld⟩,rfl⟩
  simp only[List.cons.injEq,Value.int.injEq,true_and,and_true]at nu
  obtain⟨rfl,rfl,rfl⟩:=nu
  have ql:=mLt rb lc
  have lP:=mLt uO lc
  have ot:IntKind.i64.wrap ((j:Int)+1)=((j+1:Nat):Int):=by rw[Zan (by omega) (by omega)];rfl
  have xK:(deadU s i).length+(ZbW i y j).length<=20:=by
   obtain⟨r1,h1⟩:=Zp6 (s:=s) (show i+1<=s.states.length by omega)
   obtain⟨r2,h2⟩:=Zp5 (i:=i) (x:=y) (show j<=y.rules.length by omega)
   have:(Za0 s).length=_:=congrArg List.length h1
   rw[dF,h2]at this
   simp only[zA1]at this
   omega
  have oO:=Zlh y j
  obtain⟨b7,o7,pC,nM⟩:=Zaj Sta.len (dO.mono lP).row hy' (by omega)
  refine Zar (λdQ=>?_) (λeH=>?_)
  ·have dQ:(j:Int) < (y.rules.length:Nat):=dQ
   obtain⟨r,fA⟩:=Zde (show j < y.rules.length by omega)
   have lC:=ZfN (i:=i) fA
   have i5:Zch y (j+1)=Zch y j++(if Zb8 y j r then[]else[r]):=by rw[Zch,fA]
   obtain⟨b8,o8,qd,cK⟩:=Zaj Ru.len ((hr.mono ql).all y q7).row fA (by omega)
   refine Zaa rfl ⟨b8,o8,qd,⟨by omega,dQ⟩,_,_,_,_,_,_,_,_,_,_,_,_,_,_,_,_,cK,λb9=>Zaa rfl ⟨Zb8 y j r,Zab (λhl=>?_) (λhl=>⟨rfl,?_⟩),Zab (λhd=>?_) (λhd=>?_)⟩⟩
   ·have hl:(deadU s i).length+(ZbW i y j).length < (Za0 s).length:=by have:=zA6 hl;omega
    obtain⟨d,hd⟩:=Zde hl
    obtain⟨b10,o10,tE,mf⟩:=Zaj Zl6 (aN.mono lP) hd (by omega)
    refine⟨b10,o10,tE,⟨by omega,by omega⟩,_,_,mf,_,Zud d.1 d.2 i j,rfl,?_⟩
    cases hb:Zb8 y j r with
    | true=>
     have:=Zuc hy fA hb
     rw[hd]at this
     cases this
     simp
    | false=>
     have:¬((d.1,d.2):Dd)=((i:Int),(j:Int)):=λe=>Zye hy fA hb (by rw[<-e];exact zA2 hd)
     rw[decide_eq_false this]
   ·cases hb:Zb8 y j r with
    | false=>rfl
    | true=>
     have:=(zA0 (Zuc hy fA hb)).1
     have:=of_decide_eq_false hl
     omega
   ·rw[hd]at lC i5
    refine⟨rfl,y.rules.length - (j+1),by omega,j+1,by omega,?_,lc,⟨L,hL,λk=>by rw[i5];simpa using ld k⟩,rfl⟩
    rw[lC,ot,Zan (by omega) (by omega)]
    unfold Zsu
    rw[i5]
    simp
    omega
   ·rw[hd]at lC i5
    have mC:=ZoS (n:=y.rules.length) (by omega) fA hd
    have km:=(zA0 mC).1
    have hq:=congrArg (λl=>l[Zsu y j]?) tC
    simp only[List.getElem?_map]at hq
    rw[show(ZeV y).rules[Zsu y j]?=some r from mC]at hq
    obtain⟨r',hr',w9⟩:=Option.map_eq_some_iff.1 hq
    obtain⟨b11,o11,tF,tG⟩:=Zaj Ru.len ((dO.mono lP).all y' qk).row hr' (by omega)
    have hS:=Zrr r r' m10 (((hr.mono ql).all y q7).all r (zA2 fA)) (((dO.mono lP).all y' qk).all r' (zA2 hr'))
    rw[ZAv (hk.wR hy fA) w9.symm]at hS
    refine⟨λ_ _ _=>Ret (.bool true),b7,o7,pC,⟨by omega,by omega⟩,.slice y'.ra y'.rules.length y'.rc,nM 1 _ rfl,Zaa rfl (ZdQ (decide_eq_false (by show ¬((Zsu y j:Nat):Int) ≥ (y'.rules.length:Nat);unfold Zsu at km ⊢;omega)) ⟨b7,o7,pC,⟨by omega,by omega⟩,.slice y'.ra y'.rules.length y'.rc,nM 1 _ rfl,Zaa rfl ⟨b11,o11,tF,⟨by omega,by show((Zsu y j:Nat):Int) < (y'.rules.length:Nat);unfold Zsu at km ⊢;omega⟩,?_⟩⟩)⟩
    refine⟨_,_,_,_,_,_,_,_,_,_,_,_,_,_,_,_,tG,_,rfl,hS,(λv _ _ h=>by rw[show v=_ from h];rfl),?_⟩
    intro bb m11 nJ tH M2 hA hB
    obtain rfl:bb=true:=by simpa using(show Value.bool bb=Value.bool true from tH)
    obtain⟨o12,xb⟩:=ZhN ZBh r.k L
    refine ZdQ rfl ⟨bm,_,_,o12,rfl,hA.k _ _ hL,Zhr Tryz.underlying5 _,xb,Zaa rfl ⟨bm,_,_,rfl,hA.k _ _ hL,Zhr Tryz.underlying5 _,ZtY ZBh r.k _ L,jo,rfl,y.rules.length - (j+1),by omega,j+1,by omega,?_,Mem.le_updK (mLt lc hA) tD _,⟨_,Mem.updK_same _ _ _,λk=>?_⟩,rfl⟩⟩
    ·rw[lC,ot,Zan (by unfold Zsu;omega) (by unfold Zsu;omega)]
     unfold Zsu
     rw[i5]
     simp
    ·have ja:=ZAz (Zch y j) r.k
     rw[Zxg,i5]
     show _=ZAy (Zch y j++[r]) k
     rw[ZvG]
     show(if k=r.k then IntKind.i64.wrap (ZvH L r.k+1)else ZvH L k)=_
     rw[ld r.k,ld k,Zan (by omega) (by omega)]
     by_cases dK:k=r.k
     ·rw[if_pos dK,if_pos dK.symm,dK]
     ·rw[if_neg dK,if_neg (λe=>dK e.symm)];omega
  ·have eH:¬(j:Int) < (y.rules.length:Nat):=eH
   have:j=y.rules.length:=by omega
   subst this
   obtain⟨o4,li⟩:=ZhN ZBh 4 L
   obtain⟨o3,oX⟩:=ZhN ZBh 3 L
   have c4:ZvH L 4<=1:=by rw[ld];exact Zqv y 4 (.inl rfl)
   have c3:ZvH L 3<=1:=by rw[ld];exact Zqv y 3 (.inr rfl)
   refine⟨false,⟨b7,o7,pC,⟨by omega,by omega⟩,.slice y'.ra y'.rules.length y'.rc,nM 1 _ rfl,Zaa rfl (ZdQ ?_ ⟨bm,_,_,o4,rfl,hL,Zhr Tryz.underlying5 _,li,Zaa rfl (ZdQ (decide_eq_false (by show ¬ZvH L 4 > 1;omega)) ⟨bm,_,_,o3,rfl,hL,Zhr Tryz.underlying5 _,oX,Zaa rfl ⟨rfl,?_⟩⟩)⟩)⟩,ZdQ rfl ⟨rfl,s.states.length - (i+1),by omega,i+1,by omega,?_,lc,rfl⟩⟩
   ·show(!(((Zsu y y.rules.length:Nat):Int) == (y'.rules.length:Nat)))=false
    rw[nL];unfold Zsu;simp
   ·show[Value.bool (decide (ZvH L 3 > 1))]=_
    rw[decide_eq_false (by omega)]
   ·rw[dF,zA1,tA]
 ·have bO:¬(i:Int) < (s.states.length:Nat):=bO
  have:i=s.states.length:=by omega
  subst this
  show Value.bool (((Za0 s).length:Int) == ((Za0 s).length:Int))=Value.bool true
  simp
end Go.Proofs.YtojlhhphofhaoaaGreatDoor
end
