/- Part of the proof: functions of the program. No condition. -/
import Derived.Test.YtojlhhphofhaoaaGreatDoorPEnv
set_option linter.unusedVariables false
set_option linter.unusedSimpArgs false
set_option linter.unusedSectionVars false
noncomputable section
namespace Go.Proofs.YtojlhhphofhaoaaGreatDoor
open Go Go.Eng Go.Proofs Go.RowKit
open Go.Value (int slice agg bool string tuple func)
open Go.IntKind (u8 u64 i64)
set_option maxRecDepth 100000
def Zdc:Env:={ EB with
 loops:=(λi=>bif Nat.beq i 3 then⟨[(8,.int .i64),(13,.int .i64)],[],[],false⟩ else⟨[],[],[],false⟩)
 dr:=(λi=>bif Nat.beq i 5 then[⟨0,[],[],none,[],[]⟩,⟨1,[10],[],none,[],[]⟩,⟨2,[],[],none,[0,1],[]⟩,⟨3,[],[],none,[0,1,2],[]⟩,⟨4,[],[],none,[0,1,2,3],[]⟩,⟨5,[],[],none,[0,1,2,3,4],[]⟩,⟨6,[],[],none,[0,1,2,3,4,5],[]⟩,⟨7,[],[],none,[0,1,2,3,4,5,6],[]⟩,⟨8,[10],[],none,[0,1,2,3,4,5,6],[2]⟩,⟨9,[],[],none,[0,1,2,3,4,5,6,7,8],[2]⟩,⟨10,[],[],none,[0,1,2,3,4,5,6],[]⟩,⟨11,[],[],none,[0,1,2,3,4,5,6],[]⟩,⟨12,[],[],none,[0,1,2,3,4,5,6],[]⟩,⟨13,[],[],none,[0,1,2,3,4,5,6,11,12],[]⟩,⟨14,[],[],none,[0,1,2,3,4,5,6,11,12,13],[2]⟩,⟨15,[],[],none,rg 0 15,[9]⟩,⟨16,[],[],none,rg 0 16,[]⟩,⟨17,[],[],none,rg 0 17,[]⟩,⟨18,[],[],none,rg 0 18,[]⟩]else[])
 gb:=true }
theorem Zc6(p0a:Option Addr)(p0n p0c p1g:Nat)(p1fi p1ca:List Value)(p2g:Nat)(p2fi p2ca:List Value)(m:Mem)(R:RT)(h:
 ∃(I:IT),inI I [int i64 (-1:Int),int i64 0] [] [] m/\∀(n n_1:Int)(m':Mem)(n_2:Nat),lX (int i64 n_1) λyL=>lX (int i64 n) λyL_1=>lV [int i64 (i64.wrap (n_1+(1:Int)))] λxL=>
 m.le m'->I [yL_1,yL] [] [] m' n_2->br (decide (n_1 < (↑p0n:Int))) (atA p0a λb o=>Zag n_1 p0n/\∃v v_1 v_2 v_3 v_4 v_5 v_6 v_7 v_8 v_9 v_10 v_11 v_12 v_13 v_14 v_15:Value,lV [v,v_1,v_2,v_3,v_4,v_5,v_6,v_7,v_8,
 v_9,v_10,v_11,v_12,v_13,v_14,v_15] λxL_1=>lV [agg (Array.mk xL_1)] λxL_2=>m'.reads b (o+Int.toNat n_1*16) xL_1/\∀(b:Nat),chk (v.oneCell'&&(v_1.oneCell'&&(v_2.oneCell'
 && (v_3.oneCell'&&(v_4.oneCell'&&(v_5.oneCell'&&(v_6.oneCell'&&(v_7.oneCell'&&(v_8.oneCell'&&(v_9.oneCell'&&(v_10.oneCell'&&(v_11.oneCell' &&
 (v_12.oneCell'&&(v_13.oneCell'&&(v_14.oneCell'&&(v_15.oneCell'&&true)))))))))))))))) (∃(f:Fx),∃(R:RT),R=f 2 (List.append (List.append p1fi xL_2) p1ca) m'/\CX Tryz.prog p1g
 (Array.mk (List.append (List.append p1fi xL_2) p1ca)) m' [] R/\Za1 Shape.bool R/\∀(b:Bool)(m'_1:Mem),m'.le m'_1->R (bool b) m'_1 []->br b (br (decide (n < (0:Int))) (∀(M:Mem),m'.le M->m'_1.le M->m'_1.le M->m'_1.le M->nxI n_2 I (yL::xL) [] [] M) (∃(R:RT),R=f 9 (List.append (List.append p2fi xL_2) p2ca) m'_1/\CX Tryz.prog p2g (Array.mk (List.append (List.append p2fi xL_2) p2ca)) m'_1
 [] R/\Za1 (Shape.int i64) R/\∀(n_3:Int)(m'_2:Mem),m'_1.le m'_2->R (int i64 n_3) m'_2 []->atA p0a λb o=>Zag n p0n/\∃v v_16 v_17 v_18 v_19 v_20 v_21 v_22 v_23 v_24 v_25 v_26 v_27 v_28 v_29 v_30:Value,lV [v,v_16,
 v_17,v_18,v_19,v_20,v_21,v_22,v_23,v_24,v_25,v_26,v_27,v_28,v_29,v_30] λxL_3=>lV (List.append (List.append p2fi [agg (Array.mk xL_3)]) p2ca) λxL_4=>m'_1.reads b (o+Int.toNat n*16) xL_3/\∃
 (R:RT),R=f 15 xL_4 m'_2/\CX Tryz.prog p2g (Array.mk xL_4) m'_2 [] R/\Za1 (Shape.int i64) R/\∀(n:Int)(m'_3:Mem),m'_2.le m'_3->R (int i64 n) m'_3 []->∀(M:Mem),m'.le M->m'_1.le M->m'_2.le M->m'_3.le M->br (decide (n_3 < n)) (nxI n_2 I (yL::xL) [] [] M) (nxI n_2 I (yL_1::xL) [] [] M))) (∀(M:Mem),m'.le M->m'_1.le M->m'_1.le M->m'_1.le M->nxI n_2 I (yL_1::xL) [] []
 M))) (rtM m m' R (tuple (Array.mk [int i64 (if(0:Int) > n then(0:Int)else n),bool (decide (n ≥ (0:Int)))])))):CX Tryz.prog 83 #[.slice p0a p0n p0c,.func (.func p1g) p1fi.toArray p1ca.toArray,.func (.func p2g) p2fi.toArray p2ca.toArray] m [] R:=
 Zaq (E:=Zdc) Zal mix Tryz.func83 (by kernel_rfl) (Eq.mp (by kernel_rfl) h)
def Zhc:Env:={ EB with
 frzNew:=[1] }
theorem Zgh(aA:ByteArray)(aH:Option Addr)(aF aI:Nat)(m:Mem)(R:RT)(h:
 fzM m [string aA,slice aH aF aI] λb m'=>∃(R_1:RT),True/\CX Tryz.prog 83 (Array.mk [slice aH aF aI,func (Fn.func 84) (Array.mk []) (Array.mk []),func (Fn.func 85) (Array.mk []) (Array.mk
 [])]) m' [] R_1/\Za1 (Shape.tup [Shape.int i64,Shape.bool]) R_1/\∀(n:Int)(b:Bool)(m'_1:Mem),lX (tuple (Array.mk [int i64 n,bool b])) λyL=>m'.le m'_1->R_1 yL m'_1 []->rtM m m'_1 R yL):CX Tryz.prog 49 #[.agg #[.string aA,.slice aH aF aI]] m [] R:=
 Zaq (E:=Zhc) Zal mix Tryz.func49 (by kernel_rfl) (Eq.mp (by kernel_rfl) h)
def ZoT:Env:={ EB with
 frzNew:=[1] }
theorem Zmu(aA:ByteArray)(aH:Option Addr)(aF aI:Nat)(m:Mem)(R:RT)(h:
 fzM m [string aA,slice aH aF aI] λb m'=>∃(R_1:RT),True/\CX Tryz.prog 83 (Array.mk [slice aH aF aI,func (Fn.func 86) (Array.mk []) (Array.mk []),func (Fn.func 87) (Array.mk []) (Array.mk
 [])]) m' [] R_1/\Za1 (Shape.tup [Shape.int i64,Shape.bool]) R_1/\∀(n:Int)(b:Bool)(m'_1:Mem),lX (tuple (Array.mk [int i64 n,bool b])) λyL=>m'.le m'_1->R_1 yL m'_1 []->rtM m m'_1 R yL):CX Tryz.prog 50 #[.agg #[.string aA,.slice aH aF aI]] m [] R:=
 Zaq (E:=ZoT) Zal mix Tryz.func50 (by kernel_rfl) (Eq.mp (by kernel_rfl) h)
def Zfo:Env:={ EB with
 frzNew:=[1] }
theorem ZeH(aA:Int)(aC aD:Bool)(aE aU aT aS dA dB dO:Int)(bQ:Option Addr)(bR bT:Nat)(cJ:ByteArray)(bZ:Int)(bV:Option Addr)(bW bX:Nat)(cN:ByteArray)(cO:Int)(m:Mem)(R:RT)(h:
 fzM m [int u8 aA,bool aC,bool aD,int u8 aE,int u64 aU,int u64 aT,int u64 aS,int u64 dA,int i64 dB,int i64 dO,slice bQ bR bT,string cJ,int i64 bZ,slice bV bW
 bX,string cN,int i64 cO] λb m'=>rtM m m' R (bool (aA == (4:Int)))):CX Tryz.prog 84 #[.agg #[.int .u8 aA,.bool aC,.bool aD,.int .u8 aE,.int .u64 aU,.int .u64 aT,.int .u64 aS,.int .u64 dA,.int .i64 dB,.int .i64 dO,.slice bQ bR bT,.string cJ,.int .i64 bZ,.slice bV bW bX,.string cN,.int .i64 cO]] m [] R:=
 Zaq (E:=Zfo) Zal mix Tryz.func84 (by kernel_rfl) (Eq.mp (by kernel_rfl) h)
def Zfp:Env:={ EB with
 frzNew:=[1] }
theorem ZeI(aA:Int)(aC aD:Bool)(aE aU aT aS dA dB dO:Int)(bQ:Option Addr)(bR bT:Nat)(cJ:ByteArray)(bZ:Int)(bV:Option Addr)(bW bX:Nat)(cN:ByteArray)(cO:Int)(m:Mem)(R:RT)(h:
 fzM m [int u8 aA,bool aC,bool aD,int u8 aE,int u64 aU,int u64 aT,int u64 aS,int u64 dA,int i64 dB,int i64 dO,slice bQ bR bT,string cJ,int i64 bZ,slice bV bW
 bX,string cN,int i64 cO] λb m'=>rtM m m' R (int i64 bZ)):CX Tryz.prog 85 #[.agg #[.int .u8 aA,.bool aC,.bool aD,.int .u8 aE,.int .u64 aU,.int .u64 aT,.int .u64 aS,.int .u64 dA,.int .i64 dB,.int .i64 dO,.slice bQ bR bT,.string cJ,.int .i64 bZ,.slice bV bW bX,.string cN,.int .i64 cO]] m [] R:=
 Zaq (E:=Zfp) Zal mix Tryz.func85 (by kernel_rfl) (Eq.mp (by kernel_rfl) h)
def Zkl:Env:={ EB with
 frzNew:=[1] }
theorem Zip(aA:Int)(aC aD:Bool)(aE aU aT aS dA dB dO:Int)(bQ:Option Addr)(bR bT:Nat)(cJ:ByteArray)(bZ:Int)(bV:Option Addr)(bW bX:Nat)(cN:ByteArray)(cO:Int)(m:Mem)(R:RT)(h:
 fzM m [int u8 aA,bool aC,bool aD,int u8 aE,int u64 aU,int u64 aT,int u64 aS,int u64 dA,int i64 dB,int i64 dO,slice bQ bR bT,string cJ,int i64 bZ,slice bV bW
 bX,string cN,int i64 cO] λb m'=>rtM m m' R (bool (aA == (3:Int)))):CX Tryz.prog 86 #[.agg #[.int .u8 aA,.bool aC,.bool aD,.int .u8 aE,.int .u64 aU,.int .u64 aT,.int .u64 aS,.int .u64 dA,.int .i64 dB,.int .i64 dO,.slice bQ bR bT,.string cJ,.int .i64 bZ,.slice bV bW bX,.string cN,.int .i64 cO]] m [] R:=
 Zaq (E:=Zkl) Zal mix Tryz.func86 (by kernel_rfl) (Eq.mp (by kernel_rfl) h)
def Zkm:Env:={ EB with
 frzNew:=[1] }
theorem Ziq(aA:Int)(aC aD:Bool)(aE aU aT aS dA dB dO:Int)(bQ:Option Addr)(bR bT:Nat)(cJ:ByteArray)(bZ:Int)(bV:Option Addr)(bW bX:Nat)(cN:ByteArray)(cO:Int)(m:Mem)(R:RT)(h:
 fzM m [int u8 aA,bool aC,bool aD,int u8 aE,int u64 aU,int u64 aT,int u64 aS,int u64 dA,int i64 dB,int i64 dO,slice bQ bR bT,string cJ,int i64 bZ,slice bV bW
 bX,string cN,int i64 cO] λb m'=>rtM m m' R (int i64 0)):CX Tryz.prog 87 #[.agg #[.int .u8 aA,.bool aC,.bool aD,.int .u8 aE,.int .u64 aU,.int .u64 aT,.int .u64 aS,.int .u64 dA,.int .i64 dB,.int .i64 dO,.slice bQ bR bT,.string cJ,.int .i64 bZ,.slice bV bW bX,.string cN,.int .i64 cO]] m [] R:=
 Zaq (E:=Zkm) Zal mix Tryz.func87 (by kernel_rfl) (Eq.mp (by kernel_rfl) h)
def Zkn:Env:={ EB with
 joins:=(λi=>bif Nat.beq i 3 then some [(9,.bool)]else none)
 frzNew:=[2] }
theorem Zir(aA:Int)(aH:Option Addr)(aF aI:Nat)(aJ:Option Addr)(aG aK:Nat)(p1:Int)(m:Mem)(R:RT)(h:
 lV [int i64 aA,slice aH aF aI,slice aJ aG aK] λxL=>fzM m xL λb m'=>lE [some (Box.mk b xL 30 3 true true)] λxL_1=>kB Tryz.prog 22 [agg (Array.mk xL)] m' λb m'=>br (!b) (rtM m m'
 R (int i64 400)) (∃(b:Bool),br (decide (p1 < (0:Int))) (Zad xL_1/\[bool true]=[bool b]) (Zad xL_1/\[bool (decide (p1 ≥ (↑aG:Int)))]=[bool b])/\br b (rtM m m' R (int i64 250)) (rtM m m' R (int i64
 0)))):CX Tryz.prog 48 #[.agg #[.int .i64 aA,.slice aH aF aI,.slice aJ aG aK],.int .i64 p1] m [] R:=
 Zaq (E:=Zkn) Zal mix Tryz.func48 (by kernel_rfl) (Eq.mp (by kernel_rfl) h)
def Zhd:Env:={ EB with
 frzNew:=[2] }
theorem Zgi(aA:Int)(aH:Option Addr)(aF aI:Nat)(aJ:Option Addr)(aG aK:Nat)(p1:Int)(m:Mem)(R:RT)(h:
 lV [int i64 aA,slice aH aF aI,slice aJ aG aK] λxL=>fzM m xL λb m'=>kI Tryz.prog 48 [agg (Array.mk xL),int i64 p1] m' λn m'=>br (!n == (0:Int)) (rtM m m' R (tuple (Array.mk [int
 i64 0,bool false,int i64 n]))) (atA aJ λb o=>Zag p1 aG/\∃v v_1:Value,m'.reads b (o+Int.toNat p1*2) [v,v_1]/\∃(R_1:RT),True/\CX Tryz.prog 49 (Array.mk [agg (Array.mk
 [v,v_1])]) m' [] R_1/\Za1 (Shape.tup [Shape.int i64,Shape.bool]) R_1/\∀(n:Int)(b:Bool)(m'_1:Mem),m'.le m'_1->R_1 (tuple (Array.mk [int i64 n,bool b])) m'_1 []->rtM m m'_1 R (tuple (Array.mk [int
 i64 n,bool b,int i64 0])))):CX Tryz.prog 18 #[.agg #[.int .i64 aA,.slice aH aF aI,.slice aJ aG aK],.int .i64 p1] m [] R:=
 Zaq (E:=Zhd) Zal mix Tryz.func18 (by kernel_rfl) (Eq.mp (by kernel_rfl) h)
def ZoU:Env:={ EB with
 frzNew:=[2] }
theorem Zmv(aA:Int)(aH:Option Addr)(aF aI:Nat)(aJ:Option Addr)(aG aK:Nat)(p1:Int)(m:Mem)(R:RT)(h:
 lV [int i64 aA,slice aH aF aI,slice aJ aG aK] λxL=>fzM m xL λb m'=>kI Tryz.prog 48 [agg (Array.mk xL),int i64 p1] m' λn m'=>br (!n == (0:Int)) (rtM m m' R (tuple (Array.mk [int
 i64 0,bool false,int i64 n]))) (atA aJ λb o=>Zag p1 aG/\∃v v_1:Value,m'.reads b (o+Int.toNat p1*2) [v,v_1]/\∃(R_1:RT),True/\CX Tryz.prog 50 (Array.mk [agg (Array.mk
 [v,v_1])]) m' [] R_1/\Za1 (Shape.tup [Shape.int i64,Shape.bool]) R_1/\∀(n:Int)(b:Bool)(m'_1:Mem),m'.le m'_1->R_1 (tuple (Array.mk [int i64 n,bool b])) m'_1 []->rtM m m'_1 R (tuple (Array.mk [int
 i64 n,bool b,int i64 0])))):CX Tryz.prog 19 #[.agg #[.int .i64 aA,.slice aH aF aI,.slice aJ aG aK],.int .i64 p1] m [] R:=
 Zaq (E:=ZoU) Zal mix Tryz.func19 (by kernel_rfl) (Eq.mp (by kernel_rfl) h)
def ZoV:Env:={ EB with
 joins:=(λi=>bif Nat.beq i 2 then some [(38,.bool)]else none)
 frzNew:=[3] }
theorem Zmw(aA:Int)(aH:Option Addr)(aF aI:Nat)(aJ:Option Addr)(aG aK:Nat)(p1 p2:Int)(m:Mem)(R:RT)(h:
 lV [int i64 aA,slice aH aF aI,slice aJ aG aK] λxL=>fzM m xL λb m'=>∃(R_1:RT),lE [some (Box.mk b xL 30 3 true true)] λxL_1=>True/\CX Tryz.prog 18 (Array.mk [agg (Array.mk xL),
 int i64 p1]) m' [] R_1/\Za1 (Shape.tup [Shape.int i64,Shape.bool,Shape.int i64]) R_1/\∀(n:Int)(b:Bool)(n_1:Int)(m'_1:Mem),m'.le m'_1->R_1 (tuple (Array.mk [int i64 n,bool b,int i64 n_1])) m'_1
 []->∃(b_1:Bool),br (!n_1 == (0:Int)) (Zad xL_1/\[bool true]=[bool b_1]) (br (!b) (Zad xL_1/\[bool true]=[bool b_1]) (atA aJ λb o=>Zag p1 aG/\∃(v:Value),m'_1 b (o+Int.toNat p1*2
 + 1)=some v/\chk (Zbd v) (atA (slA v) λb o=>Zag n (slN v)/\∃(v:Value),m'_1 b (o+Int.toNat n*16+12)=some v/\chk (ZaO i64 v&&decide (i64=i64)) (Zad xL_1/\[bool !intOf v == p2] =
 [bool b_1]))))/\br b_1 (rtM m m'_1 R (tuple (Array.mk [int i64 0,bool false,int i64 n_1]))) (rtM m m'_1 R (tuple (Array.mk [int i64 n,bool true,int i64 0])))):CX Tryz.prog 20 #[.agg #[.int .i64 aA,.slice aH aF aI,.slice aJ aG aK],.int .i64 p1,.int .i64 p2] m [] R:=
 Zaq (E:=ZoV) Zal mix Tryz.func20 (by kernel_rfl) (Eq.mp (by kernel_rfl) h)
def Zmx:Env:={ EB with
 frzNew:=[1] }
theorem Zko(aA:Int)(aH:Option Addr)(aF aI:Nat)(aJ:Option Addr)(aG aK:Nat)(m:Mem)(R:RT)(h:
 fzM m [int i64 aA,slice aH aF aI,slice aJ aG aK] λb m'=>rtM m m' R (func (Fn.func 68) (Array.mk []) (Array.mk [Value.pointer (some (Addr.mk b 0 none))]))):CX Tryz.prog 36 #[.agg #[.int .i64 aA,.slice aH aF aI,.slice aJ aG aK]] m [] R:=
 Zaq (E:=Zmx) Zal mix Tryz.func36 (by kernel_rfl) (Eq.mp (by kernel_rfl) h)
def Zis:Env:={ EB with
 loops:=(λi=>bif Nat.beq i 1 then⟨[(14,.int .i64)],[],[],true⟩ else bif Nat.beq i 6 then⟨[(32,.int .i64)],[],[],true⟩ else⟨[],[],[],false⟩) }
theorem Zhe(p0g:Nat)(p0fi p0ca:List Value)(c0b c0o:Nat)(m:Mem)(xs:List (List Value))(h:
 ∀(l:Nat),∃(v:Value),lE (↑(xs.length):Int) λyL=>m c0b (c0o+2)=some v/\chk (Zbd v) (∃(I:IT),inI I [int i64 0,int i64 0] [] [] m/\∀(y n:Int)(m':Mem)(an:Nat),lX (int i64 n) λao
 => m.le m'->I [int i64 y,ao] [] [] m' an->br (decide (n < (↑(slN v):Int))) (chk (Zbd v) (atA (slA v) λb o=>Zag n (slN v)/\∃v ae:Value,lV [v,ae] λxL=>m'.reads b (o +
 Int.toNat n*2) xL/\∀(b:Nat),lE [some (Box.mk b xL 42 2 false true)] λaf=>chk (v.oneCell'&&(ae.oneCell'&&true)) (∃(R:RT),True/\CX Tryz.prog 49 (Array.mk [agg (Array.mk xL)]) m' [] R/\
 Za1 (Shape.tup [Shape.int i64,Shape.bool]) R/\∀(ap:Int)(b:Bool)(ah:Mem),m'.le ah->R (tuple (Array.mk [int i64 ap,bool b])) ah []->∃(R:RT),True/\CX Tryz.prog 50 (Array.mk [agg (Array.mk xL)]) ah
 [] R/\Za1 (Shape.tup [Shape.int i64,Shape.bool]) R/\∀(ai:Int)(b:Bool)(m':Mem),ah.le m'->R (tuple (Array.mk [int i64 ai,bool b])) m' []->chk (Zbd ae) (∃(ab:IT),inI ab [int i64 y,int i64 0] []
 [] m'/\∀(y ac:Int)(aa:Mem)(ad:Nat),lE (List.get?Internal xs (Int.toNat y)) λaj=>lV [int i64 (i64.wrap (ac+(1:Int)))] λxL=>lV (int i64 (y+(1:Int))::xL) λak=>lX (int i64 y) fun
 ag=>lE (some [agg (Array.mk [ao,int i64 ac])]) λal=>m'.le aa->ab [ag,int i64 ac] [] [] aa ad->br (decide (ac < (↑(slN ae):Int))) (chk (Zbd ae) (atA (slA ae) λb o=>Zag ac (slN ae)/\∃v aq ar au av aw ax ay az a0 a1 a2 a3 a4 a5 a6:Value,lE (ZaO u8 v&&decide (u8=u8)) λam=>aa.reads b (o+Int.toNat ac*16) [v,aq,ar,au,av,aw,ax,ay,az,a0,a1,a2,a3,a4,a5,a6]/\∀(b:Nat),chk (v.oneCell' &&
 (aq.oneCell'&&(ar.oneCell'&&(au.oneCell'&&(av.oneCell'&&(aw.oneCell'&&(ax.oneCell'&&(ay.oneCell'&&(az.oneCell'&&(a0.oneCell'&&(a1.oneCell' &&
 (a2.oneCell'&&(a3.oneCell'&&(a4.oneCell'&&(a5.oneCell'&&(a6.oneCell'&&true)))))))))))))))) (chk am (br (intOf v == (4:Int)) (br (!ac == ap) ((l=l/\(0:Int)<=y/\aj =
 al)/\(Zad af/\nxI ad ab ak [] [] aa)/\((-1:Int)=yL\/(-1:Int)=(-1:Int))) (chk am (br (intOf v == (3:Int)) (br (!ac == ai) ((l=l/\(0:Int)<=y/\aj=al)/\(Zad af/\nxI ad ab ak [] [] aa)
 /\ ((-1:Int)=yL\/(-1:Int)=(-1:Int))) (Zad af/\nxI ad ab (ag::xL) [] [] aa)) (Zad af/\nxI ad ab (ag::xL) [] [] aa)))) (chk am (br (intOf v == (3:Int)) (br (!ac == ai) ((l=l/\(0:Int) <=
 y/\aj=al)/\(Zad af/\nxI ad ab ak [] [] aa)/\((-1:Int)=yL\/(-1:Int)=(-1:Int))) (Zad af/\nxI ad ab (ag::xL) [] [] aa)) (Zad af/\nxI ad ab (ag::xL) [] [] aa))))))) (nxI an I [ag,int i64
 (i64.wrap (n+(1:Int)))] [] [] aa))))) (y=yL\/y=(-1:Int)))):IX Tryz.prog 68 [] [.pointer (some ⟨c0b,c0o,none⟩)] m xs:=
 Zg5 (E:=Zis) Zal mix Tryz.func68 _ _ _ (by kernel_rfl) (Eq.mp (by kernel_rfl) h)
def Zmy:Env:={ EB with
 loops:=(λi=>bif Nat.beq i 6 then⟨[(11,.agg [.int .i64,.int .i64])],[4],[(15,2)],false⟩ else⟨[],[],[],false⟩)
 tokOf:=(λi=>bif Nat.beq i 15 then 15 else 0)
 frzNew:=[1]
 capF:=true }
theorem Zkp(aA:Int)(aH:Option Addr)(aF aI:Nat)(aJ:Option Addr)(aG aK:Nat)(m:Mem)(R:RT)(h:
 lV [int i64 aA,slice aH aF aI,slice aJ aG aK] λxL=>fzM m xL λb m'=>kB Tryz.prog 22 [agg (Array.mk xL)] m' λb_1 m'=>br (!b_1) (rtM m m' R (tuple (Array.mk [slice none 0 0,int i64
 400]))) (∀(b_2:Nat),kF Tryz.prog 36 [agg (Array.mk xL)] m' λg fi ca m'=>∃(xs:List (List Value)),IX Tryz.prog g fi ca m' xs/\(∀(x:List Value),x∈xs->Shape.fitsL [Shape.agg [Shape.int i64,Shape.int
 i64]] x=true)/\∃(I:IT),I [] [[slice none 0 0]] [slice none 0 0] m' 0/\(∀(n n_1:Int)(cs:List Value)(a:Option Addr)(n_2 c:Nat)(m'_1:Mem)(n_3:Nat),lV [int i64 n,int i64 n_1] λxL_1=>m'.le m'_1->List.get?Internal xs n_3=some [agg (Array.mk xL_1)]->I [] [cs] [slice a n_2 c] m'_1 n_3->∀(b_3:Nat),Eng.Zvs cs 0 λv=>∀(b_4:Nat),lM (m'_1.add b_4 xL_1) λmL=>lE (slN v+1) λyL=>
 m'_1.free b_4->chk (Zbd v&&true) ((Tok.mk (slice a n_2 c) 2=Tok.mk v 2\/v=slice none 0 0\/slC v < yL)/\∃(xs:List Value),∃(ys:List Value),xs.length=slN v*2/\ys.length=1*2/\rowRd
 mL (slA v) xs/\rowRd mL (some (Addr.mk b_4 0 none)) ys/\(∀(u:Value),u∈ys->u.oneCell'=true)/\yL*16<=140737488355328/\yL<=9223372036854775807/\∀(a':Option Addr)(c':Nat)(m':Mem),mL.le m'->rowRd m' a' (List.append xs ys)->yL<=c'->Zad [some (Box.mk b_2 [] 32 1 false true),some (Box.mk b xL 30 3 true true)]/\I [] [[slice a' yL c']] [slice a' yL c'] m' (n_3+1)))/\∀(cs:List Value) (a:
 Option Addr) (n c:Nat) (m'_1:Mem),m'.le m'_1->I [] [cs] [slice a n c] m'_1 (xs.length)->Eng.Zvs cs 0 λv=>rtM m m'_1 R (tuple (Array.mk [v,int i64 0])))):CX Tryz.prog 10 #[.agg #[.int .i64 aA,.slice aH aF aI,.slice aJ aG aK]] m [] R:=
 Zaq (E:=Zmy) Zal mix Tryz.func10 (by kernel_rfl) (Eq.mp (by kernel_rfl) h)
def Zkq:Env:={ EB with
 loops:=(λi=>bif Nat.beq i 5 then⟨[(6,.slice),(21,.int .i64)],[],[],false⟩ else⟨[],[],[],false⟩)
 frzNew:=[2] }
theorem Zit(aA:Int)(aH:Option Addr)(aF aI:Nat)(aJ:Option Addr)(aG aK:Nat)(p1a:Option Addr)(p1n p1c:Nat)(m:Mem)(R:RT)(h:
 lV [int i64 aA,slice aH aF aI,slice aJ aG aK] λxL=>fzM m xL λb m'=>∃(R_1:RT),True/\CX Tryz.prog 10 (Array.mk [agg (Array.mk xL)]) m' [] R_1/\Za1 (Shape.tup [Shape.slice,Shape.int
 i64]) R_1/\∀(a:Option Addr)(n c:Nat)(n_1:Int)(m'_1:Mem),m'.le m'_1->R_1 (tuple (Array.mk [slice a n c,int i64 n_1])) m'_1 []->br (!n_1 == (0:Int)) (rtM m m'_1 R (tuple (Array.mk [bool false,int
 i64 n_1]))) (∃(I:IT),inI I [slice a n c,int i64 0] [] [] m'_1/\∀(a:Option Addr)(n c:Nat)(n_2:Int)(m':Mem)(n_3:Nat),m'_1.le m'->I [slice a n c,int i64 n_2] [] [] m' n_3->br (decide (n_2 <
 (↑p1n:Int))) (atA p1a λb_1 o=>Zag n_2 p1n/\∃v v_1:Value,m'.reads b_1 (o+Int.toNat n_2*2) [v,v_1]/\∀(b_2:Nat),chk (v.oneCell'&&(v_1.oneCell'&&true)) (kI
 Tryz.prog 37 [slice a n c,agg (Array.mk [v,v_1])] m' λn_4 m'=>lE (i64.wrap (n_4+(1:Int))) λyL=>br (decide (n_4 < (0:Int))) (rtM m m' R (tuple (Array.mk [bool false,int i64 0]))) (((0:Int) <=
 yL/\yL<=(↑n:Int))/\Zad [some (Box.mk b xL 30 3 true true)]/\nxI n_3 I [slice (ZaS a (Int.toNat yL) c 2) (n - Int.toNat yL) (c - Int.toNat yL),int i64 (i64.wrap (n_2+(1:Int)))] [] [] m'))) (rtM m
 m' R (tuple (Array.mk [bool true,int i64 0]))))):CX Tryz.prog 11 #[.agg #[.int .i64 aA,.slice aH aF aI,.slice aJ aG aK],.slice p1a p1n p1c] m [] R:=
 Zaq (E:=Zkq) Zal mix Tryz.func11 (by kernel_rfl) (Eq.mp (by kernel_rfl) h)
def Zbh:Env:={ EB with
 loops:=(λi=>bif Nat.beq i 2 then⟨[(8,.int .i64)],[],[],false⟩ else⟨[],[],[],false⟩)
 dr:=(λi=>bif Nat.beq i 4 then[⟨0,[3],[],none,[],[]⟩,⟨1,[],[],none,[],[]⟩,⟨2,[],[],none,[],[]⟩,⟨3,[],[],none,[1,2],[]⟩,⟨4,[],[],none,[1,2,3],[]⟩,⟨5,[],[],none,[0,1,2,3,4],[]⟩]else[])
 frzNew:=[3] }
theorem Za9(p0a:Option Addr)(p0n p0c:Nat)(bK bL:Int)(m:Mem)(R:RT)(h:
 lV [int i64 bK,int i64 bL] λxL=>fzM m xL λb m'=>∃(I:IT),inI I [int i64 0] [] [] m'/\∀(n:Int)(m'_1:Mem)(n_1:Nat),m'.le m'_1->I [int i64 n] [] [] m'_1 n_1->br (decide (n < (↑p0n:
 Int))) (atA p0a λb_1 o=>Zag n p0n/\∃v v_1:Value,m'_1.reads b_1 (o+Int.toNat n*2) [v,v_1]/\∃(b_2:Bool),EqIs Tryz.prog 37 (agg (Array.mk xL)) (agg (Array.mk [v,v_1])) b_2/\br
 b_2 (rtM m m'_1 R (int i64 n)) (Zad [some (Box.mk b xL 37 2 true true)]/\nxI n_1 I [int i64 (i64.wrap (n+(1:Int)))] [] [] m'_1)) (rtM m m'_1 R (int i64 (-1:Int)))):CX Tryz.prog 37 #[.slice p0a p0n p0c,.agg #[.int .i64 bK,.int .i64 bL]] m [] R:=
 Zaq (E:=Zbh) Zal mix Tryz.func37 (by kernel_rfl) (Eq.mp (by kernel_rfl) h)
def ZaZ:Env:={ EB with
 frzNew:=[3] }
theorem ZaX(p0a:Option Addr)(p0n p0c:Nat)(bK bL:Int)(m:Mem)(R:RT)(h:
 lV [int i64 bK,int i64 bL] λxL=>fzM m xL λb m'=>kI Tryz.prog 37 [slice p0a p0n p0c,agg (Array.mk xL)] m' λn m'=>rtM m m' R (bool (decide (n ≥ (0:Int))))):CX Tryz.prog 12 #[.slice p0a p0n p0c,.agg #[.int .i64 bK,.int .i64 bL]] m [] R:=
 Zaq (E:=ZaZ) Zal mix Tryz.func12 (by kernel_rfl) (Eq.mp (by kernel_rfl) h)
end Go.Proofs.YtojlhhphofhaoaaGreatDoor
end
