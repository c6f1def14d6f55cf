/- Part of the proof: functions of the program. No condition. -/
import Derived.Test.YtpjepnkiiojgfaaGreatPEnv
import Derived.Test.YtpjepnkiiojgfaaGreatMc
set_option linter.unusedVariables false
set_option linter.unusedSimpArgs false
set_option linter.unusedSectionVars false
noncomputable section
namespace Go.Proofs.YtpjepnkiiojgfaaGreat
open Go Go.Eng Go.Proofs Go.RowKit
open Go.Value (int slice agg bool string tuple func)
open Go.IntKind (u8 u64 i64)
set_option maxRecDepth 100000
def ZsM:Env:={ EB with
 frzNew:=[1] }
theorem Zpy(aA aD aG aF bG bH bI:Int)(bF:Option Addr)(bD bJ:Nat)(m:Mem)(R:RT)(h:
 lV [int u8 aA,int u64 aD,int u64 aG,int u64 aF,int u64 bG,int i64 bH,int i64 bI,slice bF bD bJ] λxL=>fzM m xL λb m'=>∀(b:Nat),kB Tryz.prog 59 [agg (Array.mk xL)] m' λb m'
 => br (!b) (rtM m m' R (agg (Array.mk [int u8 0,int u64 0,int u64 0,int u64 0,int u64 0,int i64 0,int i64 0,slice none 0 0]))) (∃(R_1:RT),True/\CX Tryz.prog 130 (Array.mk [agg (Array.mk xL)]) m' [] R_1/\
 ZbC (shT) R_1/\∀(n n_1 n_2 n_3 n_4 n_5 n_6:Int)(a:Option Addr)(n_7 c:Nat)(m'_1:Mem),lX (agg (Array.mk [int u8 n,int u64 n_1,int u64 n_2,int u64 n_3,int u64 n_4,int i64 n_5,int i64 n_6,slice a n_7
 c])) λyL=>m'.le m'_1->R_1 yL m'_1 []->rtM m m'_1 R yL)):CX Tryz.prog 87 #[.agg #[.int .u8 aA,.int .u64 aD,.int .u64 aG,.int .u64 aF,.int .u64 bG,.int .i64 bH,.int .i64 bI,.slice bF bD bJ]] m [] R:=
 Zae (E:=ZsM) Zao mix Tryz.func87 (by kernel_rfl) (Eq.mp (by kernel_rfl) h)
def Zbj:Env:={ EB with
 tokOf:=(λi=>bif Nat.beq i 2 then 7 else bif Nat.beq i 7 then 7 else 0)
 tokC:=(λi=>bif Nat.beq i 5 then some (7,5)else none)
 thaw:=true }
theorem Zbc(p0a:Option Addr)(p0n p0c:Nat)(m:Mem)(R:RT)(h:
 lE (0+p0n) λyL=>br (Option.isNone p0a) (slice none 0 0=slice none 0 0/\R (slice none 0 0) m []) (((0:Int)=(0:Int)/\(0:Int)<=(0:Int)/\(0:Int)*(↑(64:Nat):Int)<=(281474976710656:Int)/\(0
 : Int)<=(9223372036854775807:Int))/\∀(b:Nat),lX (slice (some (Addr.mk b 0 none)) 0 (Int.toNat (0:Int))) λyL_1=>m.free b->Mem.k m b=none->(Tok.mk yL_1 5=Tok.mk yL_1 5\/yL_1=slice none 0 0\/
 Int.toNat (0:Int) < yL)/\∃(xs:List Value),∃(ys:List Value),xs.length=0*5/\ys.length=p0n*5/\rowRd m (some (Addr.mk b 0 none)) xs/\rowRd m p0a ys/\(∀(u:Value),u∈ys->u.oneCell'
 = true)/\yL*64<=140737488355328/\yL<=9223372036854775807/\∀(a':Option Addr)(c':Nat)(m':Mem),lE (some (Tok.mk (slice a' yL c') 5)) λyL_2=>m.le m'->rowRd m' a' (List.append xs ys)->TokFact m
 (some (Addr.mk b 0 none)) a' yL c'->yL_2=yL_2/\R (slice a' yL c') m' [])):CXT Tryz.prog 156 #[.slice p0a p0n p0c] m 5 R:=
 Zhm (E:=Zbj) Zao mix Tryz.func156 [.v (.slice p0a p0n p0c)] (by kernel_rfl) (Eq.mp (by kernel_rfl) h)
def ZhL:Env:={ EB with
 loops:=(λi=>bif Nat.beq i 3 then⟨[(14,.int .i64)],[],[],false⟩ else⟨[],[],[],false⟩)
 dr:=(λi=>bif Nat.beq i 5 then[⟨0,[2],[],none,[],[]⟩,⟨1,[2],[],none,[0],[]⟩,⟨2,[],[],none,[],[]⟩,⟨3,[6],[],none,[],[]⟩,⟨4,[],[],none,[],[]⟩,⟨5,[],[],none,[3,4],[]⟩,⟨6,[],[],none,[0,1,2,3,4,5],[]⟩]else[])
 thaw:=true
 stAt:=(λi=>bif Nat.beq i 25 then some 9 else none)
 last:=(λi=>bif Nat.beq i 5 then true else false)
 tokC:=(λi=>bif Nat.beq i 9 then some (9,5)else none) }
theorem ZgP(aA:Int)(aD:Value)(aG:ByteArray)(aF:Int)(aS:Option Addr)(aM aZ p1g:Nat)(p1fi p1ca:List Value)(m:Mem)(R:RT)(h:
 ∀(b b_1:Nat),∃(R_1:RT),lV [func (Fn.func p1g) (Array.mk p1fi) (Array.mk p1ca)] λxL=>CXT Tryz.prog 156 (Array.mk [slice aS aM aZ]) m 5 R_1/\ZbC Shape.slice R_1/\∀(a:Option Addr)(n c:Nat)
 (m':Mem),lX (slice a n c) λyL=>lV [int u8 aA,aD,string aG,int i64 aF,yL] λxL_1=>m.le m'->R_1 yL m' []->∃(I:IT),inI I [int i64 0] [] [] m'/\∀(n_1:Int)(m':Mem)(n_2:Nat),lE
 (Int.toNat n_1*5) λyL_1=>True->I [int i64 n_1] [] [] m' n_2->br (decide (n_1 < (↑n:Int))) (atA a λb_2 o=>Zad n_1 n/\∃v v_1 v_2 v_3 v_4:Value,lV [v,v_1,v_2,v_3,v_4] λxL_2=>m'.reads b_2 (o+yL_1) xL_2/\∀(b_3:Nat),chk (v.oneCell'&&(v_1.oneCell'&&(v_2.oneCell'&&(v_3.oneCell'&&(v_4.oneCell'&&true))))) (∃
 (f:Fx),∃(R:RT),R=f 5 (agg (Array.mk xL_2)::xL) m'/\CX Tryz.prog 131 (Array.mk (agg (Array.mk xL_2)::xL)) m' [] R/\ZbC (Shape.agg [Shape.int u8,Shape.any,Shape.str,Shape.int i64,Shape.slice]) R/\∀
 (n_3:Int) (v:Value) (s:ByteArray) (n_4:Int) (a_5:Option Addr) (n_5 c_1:Nat) (m'_1:Mem),lV [int u8 n_3,v,string s,int i64 n_4,slice a_5 n_5 c_1] λxL=>m'.le m'_1->R (agg (Array.mk xL)) m'_1 []
 -> atA a λb_4 o=>Zad n_1 n/\∀(M:Mem),m'.le M->m'_1.le M->chk (v.oneCell'&&true) (yL=slice (some (Addr.mk b_4 0 none)) n c/\o+yL_1+5<=n*5/\Zac [some (Box.mk b_1 [int u8 0,
 Value.float .f64 0,string bE0,int i64 0,slice none 0 0] 52 5 false true),some (Box.mk b xL_1 52 5 false true)]/\[some (Tok.mk yL 5)]=[some (Tok.mk yL 5)]/\nxI n_2 I [int i64
 (i64.wrap (n_1+(1:Int)))] [] [] (Mem.upd M b_4 (o+yL_1) xL)))) (∃(R_2:RT),True/\CX Tryz.prog p1g (Array.mk (List.append (List.append p1fi [agg (Array.mk xL_1)]) p1ca)) m' [] R_2/\ZbC (Shape.agg
 [Shape.int u8,Shape.any,Shape.str,Shape.int i64,Shape.slice]) R_2/\∀(n:Int)(v:Value)(s:ByteArray)(n_3:Int)(a:Option Addr)(n_4 c:Nat)(m'_1:Mem),lX (agg (Array.mk [int u8 n,v,string s,int i64
 n_3,slice a n_4 c])) λyL=>m'.le m'_1->R_2 yL m'_1 []->chk (v.oneCell'&&true) (rtM m m'_1 R yL))):CX Tryz.prog 131 #[.agg #[.int .u8 aA,aD,.string aG,.int .i64 aF,.slice aS aM aZ],.func (.func p1g) p1fi.toArray p1ca.toArray] m [] R:=
 Zae (E:=ZhL) Zao mix Tryz.func131 (by kernel_rfl) (Eq.mp (by kernel_rfl) h)
def Zjr:Env:={ EB with
 frzNew:=[1] }
theorem ZhM(aA:Int)(aD:Value)(aG:ByteArray)(aF:Int)(aS:Option Addr)(aM aZ:Nat)(m:Mem)(R:RT)(h:
 lV [int u8 aA,aD,string aG,int i64 aF,slice aS aM aZ] λxL=>fzM m xL λb m'=>∀(b:Nat),chk (aD.oneCell'&&true) (rtM m m' R (agg (Array.mk xL)))):CX Tryz.prog 132 #[.agg #[.int .u8 aA,aD,.string aG,.int .i64 aF,.slice aS aM aZ]] m [] R:=
 Zae (E:=Zjr) Zao mix Tryz.func132 (by kernel_rfl) (Eq.mp (by kernel_rfl) h)
def Zn8:Env:={ EB with
 frzNew:=[1] }
theorem Zlw(aA:Int)(aD:Value)(aG:ByteArray)(aF:Int)(aS:Option Addr)(aM aZ:Nat)(m:Mem)(R:RT)(h:
 lV [int u8 aA,aD,string aG,int i64 aF,slice aS aM aZ] λxL=>fzM m xL λb m'=>∀(b:Nat),kB Tryz.prog 94 [agg (Array.mk xL)] m' λb m'=>br (!b) (rtM m m' R (agg (Array.mk [int u8 0,
 Value.float .f64 0,string bE0,int i64 0,slice none 0 0]))) (∃(R_1:RT),True/\CX Tryz.prog 131 (Array.mk [agg (Array.mk xL),func (Fn.func 132) (Array.mk []) (Array.mk [])]) m' []
 R_1/\ZbC (Shape.agg [Shape.int u8,Shape.any,Shape.str,Shape.int i64,Shape.slice]) R_1/\∀(n:Int)(v:Value)(s:ByteArray)(n_1:Int)(a:Option Addr)(n_2 c:Nat)(m'_1:Mem),lX (agg (Array.mk [int u8
 n,v,string s,int i64 n_1,slice a n_2 c])) λyL=>m'.le m'_1->R_1 yL m'_1 []->chk (v.oneCell'&&true) (rtM m m'_1 R yL))):CX Tryz.prog 90 #[.agg #[.int .u8 aA,aD,.string aG,.int .i64 aF,.slice aS aM aZ]] m [] R:=
 Zae (E:=Zn8) Zao mix Tryz.func90 (by kernel_rfl) (Eq.mp (by kernel_rfl) h)
def Zeu:Env:=EB
theorem Zd6(aA:Int)(aD:ByteArray)(aG aF:Int)(bG:Value)(bH:ByteArray)(bI:Int)(bF:Option Addr)(bD bJ:Nat)(m:Mem)(R:RT)(h:
 ∀(b b:Nat),∃(R_1:RT),True/\CX Tryz.prog 90 (Array.mk [agg (Array.mk [int u8 aF,bG,string bH,int i64 bI,slice bF bD bJ])]) m [] R_1/\ZbC (Shape.agg [Shape.int u8,Shape.any,Shape.str,
 Shape.int i64,Shape.slice]) R_1/\∀(n:Int)(v:Value)(s:ByteArray)(n_1:Int)(a:Option Addr)(n_2 c:Nat)(m':Mem),lV [int u8 n,v,string s,int i64 n_1,slice a n_2 c] λxL=>m.le m'->R_1 (agg
 (Array.mk xL)) m' []->chk (v.oneCell'&&true) (chk (v.oneCell'&&true) (rtM m m' R (agg (Array.mk (int u8 aA::string aD::int i64 aG::xL)))))):CX Tryz.prog 92 #[.agg #[.int .u8 aA,.string aD,.int .i64 aG,.int .u8 aF,bG,.string bH,.int .i64 bI,.slice bF bD bJ]] m [] R:=
 Zae (E:=Zeu) Zao mix Tryz.func92 (by kernel_rfl) (Eq.mp (by kernel_rfl) h)
def Zb0:Env:={ EB with
 loops:=(λi=>bif Nat.beq i 3 then⟨[(5,.slice),(10,.int .i64)],[],[(19,8)],false⟩ else⟨[],[],[],false⟩)
 tokOf:=(λi=>bif Nat.beq i 19 then 19 else 0)
 thaw:=true }
theorem ZbU(p0a:Option Addr)(p0n p0c p1g:Nat)(p1fi p1ca:List Value)(m:Mem)(R:RT)(h:
 ∃(I:IT),inI I [slice none 0 0,int i64 0] [] [slice none 0 0] m/\∀(a:Option Addr)(n c:Nat)(n_1:Int)(a_1:Option Addr)(n_2 c_1:Nat)(m':Mem)(n_3:Nat),lX (slice a n c) λyL=>lE (n+1) fun
 yL_1=>True->I [yL,int i64 n_1] [] [slice a_1 n_2 c_1] m' n_3->br (decide (n_1 < (↑p0n:Int))) (atA p0a λb o=>Zad n_1 p0n/\∃v v_1 v_2 v_3 v_4 v_5 v_6 v_7:Value,lV [v,v_1,v_2,v_3,v_4,v_5,v_6,v_7] λxL=>m'.reads b (o+Int.toNat n_1*8) xL/\∀(b:Nat),chk (v.oneCell'&&(v_1.oneCell' &&
 (v_2.oneCell'&&(v_3.oneCell'&&(v_4.oneCell'&&(v_5.oneCell'&&(v_6.oneCell'&&(v_7.oneCell'&&true)))))))) (∃(R:RT),True/\CX Tryz.prog p1g (Array.mk (List.append
 (List.append p1fi [agg (Array.mk xL)]) p1ca)) m' [] R/\ZbC (Shape.agg [Shape.int u8,Shape.str,Shape.int i64,Shape.int u8,Shape.any,Shape.str,Shape.int i64,Shape.slice]) R/\∀(n_4:Int)(s:ByteArray) (n_5
 n_6:Int) (v:Value) (s_1:ByteArray) (n_7:Int) (a_4:Option Addr) (n_8 c_2:Nat) (m'_1:Mem),lV [int u8 n_4,string s,int i64 n_5,int u8 n_6,v,string s_1,int i64 n_7,slice a_4 n_8 c_2] λxL=>m'.le m'_1->R (agg (Array.mk xL)) m'_1 []->∀(b:Nat),lM (m'_1.add b xL) λmL=>m'_1.free b->(Tok.mk (slice a_1 n_2 c_1) 8=Tok.mk yL 8\/yL=slice none 0 0\/c < yL_1)/\∃(xs:List Value),∃(ys:List
 Value),xs.length=n*8/\ys.length=1*8/\rowRd mL a xs/\rowRd mL (some (Addr.mk b 0 none)) ys/\(∀(u:Value),u∈ys->u.oneCell'=true)/\yL_1*96<=140737488355328/\yL_1 <=
 9223372036854775807/\∀(a':Option Addr)(c':Nat)(m':Mem),mL.le m'->rowRd m' a' (List.append xs ys)->TokFact mL a a' yL_1 c'->nxI n_3 I [slice a' yL_1 c',int i64 (i64.wrap (n_1+(1:Int)))] []
 [slice a' yL_1 c'] m')) (rtM m m' R yL)):CX Tryz.prog 91 #[.slice p0a p0n p0c,.func (.func p1g) p1fi.toArray p1ca.toArray] m [] R:=
 Zae (E:=Zb0) Zao mix Tryz.func91 (by kernel_rfl) (Eq.mp (by kernel_rfl) h)
def ZfY:Env:=EB
theorem Zfc(aA:Int)(aD:ByteArray)(aN:Option Addr)(aJ aV:Nat)(aF:Int)(bG:Value)(bH:ByteArray)(bI:Int)(bF:Option Addr)(bD bJ:Nat)(m:Mem)(R:RT)(h:
 ∀(b b:Nat),∃(R_1:RT),True/\CX Tryz.prog 90 (Array.mk [agg (Array.mk [int u8 aF,bG,string bH,int i64 bI,slice bF bD bJ])]) m [] R_1/\ZbC (Shape.agg [Shape.int u8,Shape.any,Shape.str,
 Shape.int i64,Shape.slice]) R_1/\∀(n:Int)(v:Value)(s:ByteArray)(n_1:Int)(a:Option Addr)(n_2 c:Nat)(m':Mem),lV [int u8 n,v,string s,int i64 n_1,slice a n_2 c] λxL=>m.le m'->R_1 (agg
 (Array.mk xL)) m' []->chk (v.oneCell'&&true) (kS Tryz.prog 91 [slice aN aJ aV,func (Fn.func 92) (Array.mk []) (Array.mk [])] m' λa n c m'=>chk (v.oneCell'&&true) (rtM m m' R (agg
 (Array.mk (int u8 aA::string aD::slice a n c::xL)))))):CX Tryz.prog 89 #[.agg #[.int .u8 aA,.string aD,.slice aN aJ aV,.int .u8 aF,bG,.string bH,.int .i64 bI,.slice bF bD bJ]] m [] R:=
 Zae (E:=ZfY) Zao mix Tryz.func89 (by kernel_rfl) (Eq.mp (by kernel_rfl) h)
def Zbt:Env:={ EB with
 loops:=(λi=>bif Nat.beq i 3 then⟨[(5,.slice),(10,.int .i64)],[],[(19,8)],false⟩ else⟨[],[],[],false⟩)
 tokOf:=(λi=>bif Nat.beq i 19 then 19 else 0)
 thaw:=true }
theorem Zbo(p0a:Option Addr)(p0n p0c p1g:Nat)(p1fi p1ca:List Value)(m:Mem)(R:RT)(h:
 ∃(I:IT),inI I [slice none 0 0,int i64 0] [] [slice none 0 0] m/\∀(a:Option Addr)(n c:Nat)(n_1:Int)(a_1:Option Addr)(n_2 c_1:Nat)(m':Mem)(n_3:Nat),lX (slice a n c) λyL=>lE (n+1) fun
 yL_1=>True->I [yL,int i64 n_1] [] [slice a_1 n_2 c_1] m' n_3->br (decide (n_1 < (↑p0n:Int))) (atA p0a λb o=>Zad n_1 p0n/\∃v v_1 v_2 v_3 v_4 v_5 v_6 v_7:Value,lV [v,v_1,v_2,v_3,v_4,v_5,v_6,v_7] λxL=>m'.reads b (o+Int.toNat n_1*8) xL/\∀(b:Nat),chk (v.oneCell'&&(v_1.oneCell' &&
 (v_2.oneCell'&&(v_3.oneCell'&&(v_4.oneCell'&&(v_5.oneCell'&&(v_6.oneCell'&&(v_7.oneCell'&&true)))))))) (∃(R:RT),True/\CX Tryz.prog p1g (Array.mk (List.append
 (List.append p1fi [agg (Array.mk xL)]) p1ca)) m' [] R/\ZbC (Shape.agg [Shape.int u8,Shape.str,Shape.slice,Shape.int u8,Shape.any,Shape.str,Shape.int i64,Shape.slice]) R/\∀(n_4:Int)(s:ByteArray) (a_4:
 Option Addr) (n_5 c_2:Nat) (n_6:Int) (v:Value) (s_1:ByteArray) (n_7:Int) (a_5:Option Addr) (n_8 c_3:Nat) (m'_1:Mem),lV [int u8 n_4,string s,slice a_4 n_5 c_2,int u8 n_6,v,string s_1,int i64 n_7,
 slice a_5 n_8 c_3] λxL=>m'.le m'_1->R (agg (Array.mk xL)) m'_1 []->∀(b:Nat),lM (m'_1.add b xL) λmL=>m'_1.free b->(Tok.mk (slice a_1 n_2 c_1) 8=Tok.mk yL 8\/yL=slice none 0 0\/c < yL_1)
 /\ ∃(xs:List Value),∃(ys:List Value),xs.length=n*8/\ys.length=1*8/\rowRd mL a xs/\rowRd mL (some (Addr.mk b 0 none)) ys/\(∀(u:Value),u∈ys->u.oneCell'=true)/\yL_1*112 <=
 140737488355328/\yL_1<=9223372036854775807/\∀(a':Option Addr)(c':Nat)(m':Mem),mL.le m'->rowRd m' a' (List.append xs ys)->TokFact mL a a' yL_1 c'->nxI n_3 I [slice a' yL_1 c',int i64 (i64.wrap (n_1+(1:Int)))] [] [slice a' yL_1 c'] m')) (rtM m m' R yL)):CX Tryz.prog 88 #[.slice p0a p0n p0c,.func (.func p1g) p1fi.toArray p1ca.toArray] m [] R:=
 Zae (E:=Zbt) Zao mix Tryz.func88 (by kernel_rfl) (Eq.mp (by kernel_rfl) h)
def ZhN:Env:=EB
theorem ZgQ(aA:Int)(aD aG:Bool)(aF bG bH bI eo ep eu:Int)(cA:Option Addr)(cB cC:Nat)(cZ:ByteArray)(dA:Int)(cD:Option Addr)(cE cF:Nat)(dB:ByteArray)(dC:Int)(m:Mem)(R:RT)(h:
 ∀(b b:Nat),∃(R_1:RT),True/\CX Tryz.prog 87 (Array.mk [agg (Array.mk [int u8 aF,int u64 bG,int u64 bH,int u64 bI,int u64 eo,int i64 ep,int i64 eu,slice cA cB cC])]) m [] R_1/\
 ZbC (shT) R_1/\∀(n n_1 n_2 n_3 n_4 n_5 n_6:Int)(a:Option Addr)(n_7 c:Nat)(m':Mem),m.le m'->R_1 (agg (Array.mk [int u8 n,int u64 n_1,int u64 n_2,int u64 n_3,int u64 n_4,int i64 n_5,int i64 n_6,
 slice a n_7 c])) m' []->kS Tryz.prog 88 [slice cD cE cF,func (Fn.func 89) (Array.mk []) (Array.mk [])] m' λa_3 n_8 c_1 m'=>rtM m m' R (agg (Array.mk [int u8 aA,bool aD,bool aG,int u8 n,int
 u64 n_1,int u64 n_2,int u64 n_3,int u64 n_4,int i64 n_5,int i64 n_6,slice a n_7 c,string cZ,int i64 dA,slice a_3 n_8 c_1,string dB,int i64 dC]))):CX Tryz.prog 49 #[.agg #[.int .u8 aA,.bool aD,.bool aG,.int .u8 aF,.int .u64 bG,.int .u64 bH,.int .u64 bI,.int .u64 eo,.int .i64 ep,.int .i64 eu,.slice cA cB cC,.string cZ,.int .i64 dA,.slice cD cE cF,.string dB,.int .i64 dC]] m [] R:=
 Zae (E:=ZhN) Zao mix Tryz.func49 (by kernel_rfl) (Eq.mp (by kernel_rfl) h)
def Zb1:Env:={ EB with
 loops:=(λi=>bif Nat.beq i 3 then⟨[(5,.slice),(10,.int .i64)],[],[(19,16)],false⟩ else⟨[],[],[],false⟩)
 tokOf:=(λi=>bif Nat.beq i 19 then 19 else 0)
 thaw:=true }
theorem ZbV(p0a:Option Addr)(p0n p0c p1g:Nat)(p1fi p1ca:List Value)(m:Mem)(R:RT)(h:
 ∃(I:IT),inI I [slice none 0 0,int i64 0] [] [slice none 0 0] m/\∀(a:Option Addr)(n c:Nat)(n_1:Int)(a_1:Option Addr)(n_2 c_1:Nat)(m':Mem)(n_3:Nat),lX (slice a n c) λyL=>lE (n+1) fun
 yL_1=>True->I [yL,int i64 n_1] [] [slice a_1 n_2 c_1] m' n_3->br (decide (n_1 < (↑p0n:Int))) (atA p0a λb o=>Zad n_1 p0n/\∃v v_1 v_2 v_3 v_4 v_5 v_6 v_7 v_8 v_9 v_10 v_11 v_12 v_13 v_14 v_15:Value,lV [v,v_1,v_2,
 v_3,v_4,v_5,v_6,v_7,v_8,v_9,v_10,v_11,v_12,v_13,v_14,v_15] λxL=>m'.reads b (o+Int.toNat n_1*16) xL/\∀(b:Nat),chk (v.oneCell'&&(v_1.oneCell'&&(v_2.oneCell' &&
 (v_3.oneCell'&&(v_4.oneCell'&&(v_5.oneCell'&&(v_6.oneCell'&&(v_7.oneCell'&&(v_8.oneCell'&&(v_9.oneCell'&&(v_10.oneCell'&&(v_11.oneCell' &&
 (v_12.oneCell'&&(v_13.oneCell'&&(v_14.oneCell'&&(v_15.oneCell'&&true)))))))))))))))) (∃(R:RT),True/\CX Tryz.prog p1g (Array.mk (List.append (List.append p1fi [agg (Array.mk xL)])
 p1ca)) m' [] R/\ZbC (Shape.agg [Shape.int u8,Shape.bool,Shape.bool,Shape.int u8,Shape.int u64,Shape.int u64,Shape.int u64,Shape.int u64,Shape.int i64,Shape.int i64,Shape.slice,Shape.str,Shape.int i64,
 Shape.slice,Shape.str,Shape.int i64]) R/\∀(n_4:Int)(b b_1:Bool)(n_5 n_6 n_7 n_8 n_9 n_10 n_11:Int)(a_4:Option Addr)(n_12 c_2:Nat)(s:ByteArray)(n_13:Int)(a_5:Option Addr)(n_14 c_3:Nat) (s_1
 : ByteArray) (n_15:Int) (m'_1:Mem),lV [int u8 n_4,bool b,bool b_1,int u8 n_5,int u64 n_6,int u64 n_7,int u64 n_8,int u64 n_9,int i64 n_10,int i64 n_11,slice a_4 n_12 c_2,string s,int i64 n_13,slice a_5
 n_14 c_3,string s_1,int i64 n_15] λxL=>m'.le m'_1->R (agg (Array.mk xL)) m'_1 []->∀(b:Nat),lM (m'_1.add b xL) λmL=>m'_1.free b->(Tok.mk (slice a_1 n_2 c_1) 16=Tok.mk yL 16\/yL=slice
 none 0 0\/c < yL_1)/\∃(xs:List Value),∃(ys:List Value),xs.length=n*16/\ys.length=1*16/\rowRd mL a xs/\rowRd mL (some (Addr.mk b 0 none)) ys/\(∀(u:Value),u∈ys->u.oneCell' =
 true)/\yL_1*168<=140737488355328/\yL_1<=9223372036854775807/\∀(a':Option Addr)(c':Nat)(m':Mem),mL.le m'->rowRd m' a' (List.append xs ys)->TokFact mL a a' yL_1 c'->nxI n_3 I [slice a' yL_1 c',int
 i64 (i64.wrap (n_1+(1:Int)))] [] [slice a' yL_1 c'] m')) (rtM m m' R yL)):CX Tryz.prog 57 #[.slice p0a p0n p0c,.func (.func p1g) p1fi.toArray p1ca.toArray] m [] R:=
 Zae (E:=Zb1) Zao mix Tryz.func57 (by kernel_rfl) (Eq.mp (by kernel_rfl) h)
def Zlx:Env:={ EB with
 dr:=(λi=>bif Nat.beq i 1 then[⟨0,[1],[],none,[],[]⟩,⟨1,[1],[],none,[0],[]⟩,⟨2,[1],[],none,[],[]⟩,⟨3,[1],[],none,[2],[]⟩,⟨4,[],[],none,[2,3],[]⟩,⟨5,[],[],none,[0,1,2,3,4],[]⟩,⟨6,[2],[2],none,[0,1,2,3,4,5],[]⟩]else[])
 frzNew:=[1] }
theorem Zjs(aA:ByteArray)(aW:Option Addr)(aP aX:Nat)(m:Mem)(R:RT)(h:
 lV [slice aW aP aX,func (Fn.func 49) (Array.mk []) (Array.mk [])] λxL=>fzM m [string aA,slice aW aP aX] λb m'=>∀(b:Nat),∃(f:Fx),∃(R_1:RT),R_1=f 4 xL m'/\CX Tryz.prog 57
 (Array.mk xL) m' [] R_1/\ZbC Shape.slice R_1/\∀(a:Option Addr)(n c:Nat)(m'_1:Mem),m'.le m'_1->R_1 (slice a n c) m'_1 []->∀(M:Mem),m'.le M->m'_1.le M->rtM m M R (agg (Array.mk [string
 aA,slice a n c]))):CX Tryz.prog 56 #[.agg #[.string aA,.slice aW aP aX]] m [] R:=
 Zae (E:=Zlx) Zao mix Tryz.func56 (by kernel_rfl) (Eq.mp (by kernel_rfl) h)
def ZbF:Env:={ EB with
 loops:=(λi=>bif Nat.beq i 3 then⟨[(5,.slice),(10,.int .i64)],[],[(19,2)],false⟩ else⟨[],[],[],false⟩)
 tokOf:=(λi=>bif Nat.beq i 19 then 19 else 0)
 thaw:=true }
theorem ZbB(p0a:Option Addr)(p0n p0c p1g:Nat)(p1fi p1ca:List Value)(m:Mem)(R:RT)(h:
 ∃(I:IT),inI I [slice none 0 0,int i64 0] [] [slice none 0 0] m/\∀(a:Option Addr)(n c:Nat)(n_1:Int)(a_1:Option Addr)(n_2 c_1:Nat)(m':Mem)(n_3:Nat),lX (slice a n c) λyL=>lE (n+1) fun
 yL_1=>True->I [yL,int i64 n_1] [] [slice a_1 n_2 c_1] m' n_3->br (decide (n_1 < (↑p0n:Int))) (atA p0a λb o=>Zad n_1 p0n/\∃v v_1:Value,m'.reads b (o+Int.toNat n_1*2) [v,v_1]/\
 ∀(b:Nat),chk (v.oneCell'&&(v_1.oneCell'&&true)) (∃(R:RT),True/\CX Tryz.prog p1g (Array.mk (List.append (List.append p1fi [agg (Array.mk [v,v_1])]) p1ca)) m' [] R/\ZbC (Shape.agg [Shape.str,
 Shape.slice]) R/\∀(s:ByteArray)(a_4:Option Addr)(n_4 c_2:Nat)(m'_1:Mem),lV [string s,slice a_4 n_4 c_2] λxL=>m'.le m'_1->R (agg (Array.mk xL)) m'_1 []->∀(b:Nat),lM (m'_1.add b xL) fun
 mL=>m'_1.free b->(Tok.mk (slice a_1 n_2 c_1) 2=Tok.mk yL 2\/yL=slice none 0 0\/c < yL_1)/\∃(xs:List Value),∃(ys:List Value),xs.length=n*2/\ys.length=1*2/\rowRd mL a xs/\rowRd
 mL (some (Addr.mk b 0 none)) ys/\(∀(u:Value),u∈ys->u.oneCell'=true)/\yL_1*40<=140737488355328/\yL_1<=9223372036854775807/\∀(a':Option Addr)(c':Nat)(m':Mem),mL.le m'->rowRd m' a'
 (List.append xs ys)->TokFact mL a a' yL_1 c'->nxI n_3 I [slice a' yL_1 c',int i64 (i64.wrap (n_1+(1:Int)))] [] [slice a' yL_1 c'] m')) (rtM m m' R yL)):CX Tryz.prog 55 #[.slice p0a p0n p0c,.func (.func p1g) p1fi.toArray p1ca.toArray] m [] R:=
 Zae (E:=ZbF) Zao mix Tryz.func55 (by kernel_rfl) (Eq.mp (by kernel_rfl) h)
def ZbG:Env:={ EB with
 tokOf:=(λi=>bif Nat.beq i 2 then 7 else bif Nat.beq i 7 then 7 else 0)
 tokC:=(λi=>bif Nat.beq i 5 then some (7,4)else none)
 thaw:=true }
theorem Zbu(p0a:Option Addr)(p0n p0c:Nat)(m:Mem)(R:RT)(h:
 lE (0+p0n) λyL=>br (Option.isNone p0a) (slice none 0 0=slice none 0 0/\R (slice none 0 0) m []) (((0:Int)=(0:Int)/\(0:Int)<=(0:Int)/\(0:Int)*(↑(48:Nat):Int)<=(281474976710656:Int)/\(0
 : Int)<=(9223372036854775807:Int))/\∀(b:Nat),lX (slice (some (Addr.mk b 0 none)) 0 (Int.toNat (0:Int))) λyL_1=>m.free b->Mem.k m b=none->(Tok.mk yL_1 4=Tok.mk yL_1 4\/yL_1=slice none 0 0\/
 Int.toNat (0:Int) < yL)/\∃(xs:List Value),∃(ys:List Value),xs.length=0*4/\ys.length=p0n*4/\rowRd m (some (Addr.mk b 0 none)) xs/\rowRd m p0a ys/\(∀(u:Value),u∈ys->u.oneCell'
 = true)/\yL*48<=140737488355328/\yL<=9223372036854775807/\∀(a':Option Addr)(c':Nat)(m':Mem),lE (some (Tok.mk (slice a' yL c') 4)) λyL_2=>m.le m'->rowRd m' a' (List.append xs ys)->TokFact m
 (some (Addr.mk b 0 none)) a' yL c'->yL_2=yL_2/\R (slice a' yL c') m' [])):CXT Tryz.prog 54 #[.slice p0a p0n p0c] m 4 R:=
 Zhm (E:=ZbG) Zao mix Tryz.func54 [.v (.slice p0a p0n p0c)] (by kernel_rfl) (Eq.mp (by kernel_rfl) h)
def Zpz:Env:={ EB with
 dr:=(λi=>bif Nat.beq i 3 then[⟨0,[1],[],none,[],[]⟩,⟨1,[1],[],none,[0],[]⟩,⟨2,[1],[],none,[],[]⟩,⟨3,[1],[],none,[2],[]⟩,⟨4,[],[],none,[2,3],[]⟩,⟨5,[1],[],none,[],[]⟩,⟨6,[1],[],none,[5],[]⟩,⟨7,[],[],none,[2,3,4,5,6],[4]⟩,⟨8,[],[],none,[0,1,2,3,4,5,6,7],[]⟩,⟨9,[2],[2],none,[0,1,2,3,4,5,6,7,8],[]⟩]else[])
 frzNew:=[1] }
theorem Zn9(aA:Int)(aW:Option Addr)(aP aX:Nat)(aN:Option Addr)(aJ aV:Nat)(m:Mem)(R:RT)(h:
 lX (slice aW aP aX) λyL=>lV [int i64 aA,yL,slice aN aJ aV] λxL=>lV [slice aN aJ aV,func (Fn.func 56) (Array.mk []) (Array.mk [])] λxL_1=>fzM m xL λb m'=>∀(b:Nat),
 kB Tryz.prog 19 [agg (Array.mk xL)] m' λb m'=>br (!b) (rtM m m' R (agg (Array.mk [int i64 0,slice none 0 0,slice none 0 0]))) (∃(f:Fx),∃(R_1:RT),R_1=f 4 [yL] m'/\CX Tryz.prog 54 (Array.mk [yL]) m' []
 R_1/\ZbC Shape.slice R_1/\∀(a:Option Addr)(n c:Nat)(m'_1:Mem),m'.le m'_1->R_1 (slice a n c) m'_1 []->∃(R_2:RT),R_2=f 7 xL_1 m'_1/\CX Tryz.prog 55 (Array.mk xL_1) m'_1 [] R_2/\ZbC Shape.slice
 R_2/\∀(a_3:Option Addr)(n_1 c_1:Nat)(m'_2:Mem),m'_1.le m'_2->R_2 (slice a_3 n_1 c_1) m'_2 []->∀(M:Mem),m'.le M->m'_1.le M->m'_2.le M->rtM m M R (agg (Array.mk [int i64 aA,slice a n
 c,slice a_3 n_1 c_1])))):CX Tryz.prog 18 #[.agg #[.int .i64 aA,.slice aW aP aX,.slice aN aJ aV]] m [] R:=
 Zae (E:=Zpz) Zao mix Tryz.func18 (by kernel_rfl) (Eq.mp (by kernel_rfl) h)
def ZgR:Env:=EB
theorem ZfZ  (m:Mem)(R:RT)(h:
 ∀(b:Nat),m.free b->rtM m (m.add b [string (ByteArray.mk (Array.mk [120])),string (ByteArray.mk (Array.mk [121])),string (ByteArray.mk (Array.mk [122,95,49])),string (ByteArray.mk (Array.mk [97,98,99,100,101,102,103,104,105,106,107,108,
 109,110,111,112]))]) R (slice (some (Addr.mk b 0 none)) 4 4)):CX Tryz.prog 24 #[] m [] R:=
 Zae (E:=ZgR) Zao mix Tryz.func24 (by kernel_rfl) (Eq.mp (by kernel_rfl) h)
def Zjt:Env:=EB
theorem ZhO  (m:Mem)(R:RT)(h:
 ∀(b:Nat),m.free b->rtM m (m.add b [string (ByteArray.mk (Array.mk [115])),string (ByteArray.mk (Array.mk [116]))]) R (slice (some (Addr.mk b 0 none)) 2 2)):CX Tryz.prog 25 #[] m [] R:=
 Zae (E:=Zjt) Zao mix Tryz.func25 (by kernel_rfl) (Eq.mp (by kernel_rfl) h)
def Zju:Env:=EB
theorem ZhP  (m:Mem)(R:RT)(h:
 ∀(b:Nat),m.free b->rtM m (m.add b [string (ByteArray.mk (Array.mk [97])),string (ByteArray.mk (Array.mk [98])),string (ByteArray.mk (Array.mk [99])),string (ByteArray.mk
 (Array.mk [100]))]) R (slice (some (Addr.mk b 0 none)) 4 4)):CX Tryz.prog 35 #[] m [] R:=
 Zae (E:=Zju) Zao mix Tryz.func35 (by kernel_rfl) (Eq.mp (by kernel_rfl) h)
def ZhQ:Env:={ EB with
 dr:=(λi=>bif Nat.beq i 3 then[⟨0,[],[],none,[],[]⟩,⟨1,[],[],none,[0],[]⟩,⟨2,[],[],none,[],[]⟩,⟨3,[],[],none,[],[]⟩,⟨4,[],[],none,[3],[]⟩,⟨5,[],[],none,[3,4],[]⟩,⟨6,[],[],none,[2,3,4,5],[]⟩,⟨7,[],[],none,[0,1,2,3,4,5,6],[]⟩,⟨8,[],[],none,[0,1,2,3,4,5,6,7],[]⟩,⟨9,[],[],none,[0,1,2,3,4,5,6,7,8],[]⟩,⟨10,[],[],none,[0,1,2,3,4,5,6,7,8,9],[]⟩]else[])
 ldF:=(λi=>bif Nat.beq i 16 then some (.int .u8)else none) }
theorem ZgS(p0:Int)(c0b c0o:Nat)(m:Mem)(R:RT)(h:
 ∃(v:Value),lE (m c0b (c0o+1)) λyL=>yL=some v/\chk (ZbM v) (br ((↑(slN v):Int) == (0:Int)) (rtM m m R (int i64 0)) (∃(v:Value),yL=some v/\∃(v_1:Value),lE (↑(slN v_1):Int) λyL_1=>yL =
 some v_1/\chk (ZbM v_1) (yL_1≠(0:Int)/\chk (ZbM v) (atA (slA v) λb o=>Zad (Int.tmod p0 yL_1) (slN v)/\∃(v:Value),m b (o+Int.toNat (Int.tmod p0 yL_1)*1)=some v/\∃(n:Int),v=int u8 n/\
 rtM m m R (int i64 (i64.wrap n))))))):CX Tryz.prog 43 #[.int .i64 p0,.pointer (some ⟨c0b,c0o,none⟩)] m [] R:=
 Zae (E:=ZhQ) Zao mix Tryz.func43 (by kernel_rfl) (Eq.mp (by kernel_rfl) h)
def ZhR:Env:={ EB with
 loops:=(λi=>bif Nat.beq i 5 then⟨[(3,.int .i64),(14,.int .i64)],[],[],false⟩ else⟨[],[],[],false⟩)
 frzNew:=[1] }
theorem ZgT(aA aD aG aF bG bH bI:Int)(bF:Option Addr)(bD bJ:Nat)(m:Mem)(R:RT)(h:
 lV [int u8 aA,int u64 aD,int u64 aG,int u64 aF,int u64 bG,int i64 bH,int i64 bI,slice bF bD bJ] λxL=>fzM m xL λb m'=>lE [some (Box.mk b xL 42 8 true true)] λxL=>br (aA ==
 (6:Int)) (∃(I:IT),inI I [int i64 (i64.wrap ((0:Int)+(1:Int))),int i64 0] [] [] m'/\∀(n n_1:Int)(m'_1:Mem)(n_2:Nat),m'.le m'_1->I [int i64 n,int i64 n_1] [] [] m'_1 n_2->br (decide
 (n_1 < (↑bD:Int))) (atA bF λb o=>Zad n_1 bD/\∃v v_1 v_2 v_3 v_4 v_5 v_6 v_7:Value,lV [v,v_1,v_2,
 v_3,v_4,v_5,v_6,v_7] λxL_1=>m'_1.reads b (o+Int.toNat n_1*8) xL_1/\∀(b:Nat),chk (v.oneCell'&&(v_1.oneCell'&&(v_2.oneCell'&&(v_3.oneCell'&&(v_4.oneCell' &&
 (v_5.oneCell'&&(v_6.oneCell'&&(v_7.oneCell'&&true)))))))) (kI Tryz.prog 85 [agg (Array.mk xL_1)] m'_1 λn_3 m'=>Zac xL/\nxI n_2 I [int i64 (i64.wrap (n+n_3)),int i64
 (i64.wrap (n_1+(1:Int)))] [] [] m')) (rtM m m'_1 R (int i64 n))) (∃(I:IT),inI I [int i64 0,int i64 0] [] [] m'/\∀(n n_1:Int)(m'_1:Mem)(n_2:Nat),m'.le m'_1->I [int i64 n,int i64 n_1] []
 [] m'_1 n_2->br (decide (n_1 < (↑bD:Int))) (atA bF λb o=>Zad n_1 bD/\∃v v_1 v_2 v_3 v_4 v_5 v_6 v_7:Value,lV [v,v_1,v_2,v_3,v_4,v_5,v_6,v_7] λxL_1=>m'_1.reads b (o+Int.toNat n_1*8) xL_1/\∀(b:Nat),chk (v.oneCell'&&(v_1.oneCell'&&(v_2.oneCell'&&(v_3.oneCell' &&
 (v_4.oneCell'&&(v_5.oneCell'&&(v_6.oneCell'&&(v_7.oneCell'&&true)))))))) (kI Tryz.prog 85 [agg (Array.mk xL_1)] m'_1 λn_3 m'=>Zac xL/\nxI n_2 I [int i64 (i64.wrap (n +
 n_3)),int i64 (i64.wrap (n_1+(1:Int)))] [] [] m')) (rtM m m'_1 R (int i64 n)))):CX Tryz.prog 85 #[.agg #[.int .u8 aA,.int .u64 aD,.int .u64 aG,.int .u64 aF,.int .u64 bG,.int .i64 bH,.int .i64 bI,.slice bF bD bJ]] m [] R:=
 Zae (E:=ZhR) Zao mix Tryz.func85 (by kernel_rfl) (Eq.mp (by kernel_rfl) h)
def ZgU:Env:={ EB with
 loops:=(λi=>bif Nat.beq i 6 then⟨[(23,.int .i64)],[2],[(33,5)],false⟩ else⟨[],[],[],false⟩)
 joins:=(λi=>bif Nat.beq i 1 then some [(16,.bool)]else none)
 dr:=(λi=>bif Nat.beq i 8 then[⟨0,[2],[],none,[],[]⟩,⟨1,[2],[],none,[0],[]⟩,⟨2,[7],[],none,[],[]⟩,⟨3,[],[],none,[],[]⟩,⟨4,[],[],none,[2,3],[]⟩,⟨5,[32],[32],none,[2,3,4],[4]⟩,⟨6,[32],[],some 33,[0,1,2,3,4,5],[5]⟩,⟨7,[2],[],none,[0,1,2,3,4,5,6],[]⟩,⟨8,[2],[2],none,[0,1,2,3,4,5,6,7],[]⟩]else[])
 tokOf:=(λi=>bif Nat.beq i 33 then 33 else 0) }
theorem Zf0(aA:Int)(aD:Value)(aG:ByteArray)(aF:Int)(aS:Option Addr)(aM aZ:Nat)(p1:Int)(m:Mem)(R:RT)(h:
 ∀(b b_1:Nat),∃(b_2:Bool),lE (some (Box.mk b_1 [int u8 0,Value.float .f64 0,string bE0,int i64 0,slice none 0 0] 52 5 false true)) λyL=>lE [yL,some (Box.mk b [int u8
 aA,aD,string aG,int i64 aF,slice aS aM aZ] 52 5 false true)] λxL=>br (aA == (10:Int)) (Zac xL/\[bool (decide (aF > p1))]=[bool b_2]) (Zac xL/\[bool false]=[bool b_2])/\br b_2
 (rtM m m R (agg (Array.mk [int u8 9,Value.float .f64 0,string (ByteArray.mk (Array.mk [121])),int i64 0,slice none 0 0]))) (∃(I:IT),inI I [int i64 0] [[int u8 aA,aD,string aG,int i64
 aF,slice none 0 0]] [slice none 0 0] m/\∀(n:Int)(cs:List Value)(a:Option Addr)(n_1 c:Nat)(m':Mem)(n_2:Nat),m.le m'->I [int i64 n] [cs] [slice a n_1 c] m' n_2->br (decide (n < (↑aM:
 Int))) (atA aS λb_3 o=>Zad n aM/\∃v v_1 v_2 v_3 v_4:Value,lV [agg (Array.mk [v,v_1,v_2,v_3,v_4]),int i64 p1] λxL=>m'.reads b_3 (o +
 Int.toNat n*5) [v,v_1,v_2,v_3,v_4]/\∀(b_4:Nat),chk (v.oneCell'&&(v_1.oneCell'&&(v_2.oneCell'&&(v_3.oneCell'&&(v_4.oneCell'&&true))))) (∃(f:Fx),Eng.Zth cs 4 λv
 => ∃(R:RT),lE (slN v+1) λyL_1=>R=f 4 xL m'/\CX Tryz.prog 127 (Array.mk xL) m' [] R/\ZbC (Shape.agg [Shape.int u8,Shape.any,Shape.str,Shape.int i64,Shape.slice]) R/\∀(n_3:Int)(v_5:Value) (s:
 ByteArray) (n_4:Int) (a_3:Option Addr) (n_5 c_1:Nat) (m'_1:Mem),lV [int u8 n_3,v_5,string s,int i64 n_4,slice a_3 n_5 c_1] λxL=>m'.le m'_1->R (agg (Array.mk xL)) m'_1 []->∀(b_5:Nat),lM
 (m'_1.add b_5 xL) λmL=>m'_1.free b_5->chk (ZbM v&&true) ((Tok.mk (slice a n_1 c) 5=Tok.mk v 5\/v=slice none 0 0\/slC v < yL_1)/\∃(xs:List Value),∃(ys:List Value),xs.length=slN v *
 5/\ys.length=1*5/\rowRd mL (slA v) xs/\rowRd mL (some (Addr.mk b_5 0 none)) ys/\(∀(u:Value),u∈ys->u.oneCell'=true)/\yL_1*64<=140737488355328/\yL_1<=9223372036854775807/\∀(a':Option
 Addr) (c':Nat) (m'_2:Mem),mL.le m'_2->rowRd m'_2 a' (List.append xs ys)->chk (Nat.ble 5 (cs.length)) (∀(M:Mem),m'.le M->m'_1.le M->mL.le M->m'_2.le M->Zac [yL,some (Box.mk b
 [] 52 5 false true)]/\nxI n_2 I [int i64 (i64.wrap (n+(1:Int)))] [ZaF cs 4 [slice a' yL_1 c']] [slice a' yL_1 c'] M)))) (chk (Nat.beq (cs.length) 5&&Zey cs) (rtM m m' R (agg (Array.mk cs)))))):CX Tryz.prog 127 #[.agg #[.int .u8 aA,aD,.string aG,.int .i64 aF,.slice aS aM aZ],.int .i64 p1] m [] R:=
 Zae (E:=ZgU) Zao mix Tryz.func127 (by kernel_rfl) (Eq.mp (by kernel_rfl) h)
def Zf1:Env:={ EB with
 loops:=(λi=>bif Nat.beq i 3 then⟨[(7,.slice),(18,.int .i64)],[],[(56,8)],false⟩ else⟨[],[],[],false⟩)
 joins:=(λi=>bif Nat.beq i 11 then some [(47,.bool)]else none)
 tokOf:=(λi=>bif Nat.beq i 34 then 56 else bif Nat.beq i 56 then 56 else bif Nat.beq i 68 then 56 else bif Nat.beq i 79 then 56 else bif Nat.beq i 93 then 56 else 0)
 frzNew:=[4]
 cuts:=(λi=>bif Nat.beq i 11 then some ⟨[(35,.bool)],[],[],false⟩ else bif Nat.beq i 15 then some ⟨[(57,.bool)],[],[],false⟩ else bif Nat.beq i 20 then some ⟨[(80,.bool)],[],[],false⟩ else none)
 ldF:=(λi=>bif Nat.beq i 53 then some (.str)else bif Nat.beq i 65 then some (.str)else bif Nat.beq i 76 then some (.str)else bif Nat.beq i 21 then some (.int .u8)else bif Nat.beq i 45 then some (.int .u8)else none) }
theorem Zfd(p0a:Option Addr)(p0n p0c:Nat)(bM:Int)(bV:Value)(bX:ByteArray)(cJ:Int)(dM:Option Addr)(dG dP:Nat)(p2:Int)(m:Mem)(R:RT)(h:
 lV [int u8 bM,bV,string bX,int i64 cJ,slice dM dG dP] λxL=>lV (int u8 4::string bE0::int i64 0::xL) λaw=>lE (if(5:Int) < (↑p0n:Int)then(5:Int)else
 (↑p0n:Int)) λyL=>lE (i64.wrap ((if(9:Int) < p2 then(9:Int)else p2)+(1:Int))) λav=>fzM m xL λb m'=>lE [some (Box.mk b xL 52 5 true true)] λxL=>((0:Int)<=yL/\yL<=(↑p0c:Int))
 /\ ∃(I:IT),inI I [slice none 0 0,int i64 0] [] [slice none 0 0] m'/\∀(a:Option Addr)(n c:Nat)(aj:Int)(ax:Option Addr)(ay az:Nat)(ae:Mem)(ad:Nat),lX (slice ax ay az) λao=>lE (n*8) λak
 => lE (n+1) λaa=>lE (aa*96) λal=>lX (slice a n c) λac=>lE (Tok.mk ac 8) λam=>lE (i64.wrap ((↑n:Int) - (1:Int))) λap=>lE (Tok.mk ao 8) λai=>lV [int i64 (i64.wrap (aj
 + (1:Int)))] λaf=>lE [some ai] λab=>m'.le ae->I [ac,int i64 aj] [] [ao] ae ad->br (decide (aj < (↑(Int.toNat yL - 0):Int))) (atA (Za6 p0a 0 p0c 1) λb o=>Zad aj (Int.toNat yL - 0)/\∃(v
 : Value),ae b (o+Int.toNat aj*1)=some v/\∃(aq:Int),lE (Int.tmod aq (8:Int)) λyL=>lE (i64.wrap (Int.tdiv (i64.wrap aq) (8:Int))) λag=>lV [int u8 3,string bE0,int i64 (Int.tmod ag av),int u8 0,Value.float .f64 0,string bE0,int i64 0,slice none 0 0] λa0=>v=int u8 aq/\(8:Int)≠(0:Int)/\(8:Int)≠(0:Int)/\∃(J:
 JT),br (yL == (0:Int)) (Zac xL/\ab=ab/\J [bool (yL == (0:Int))] [] [] ae) (Zac xL/\ab=ab/\J [bool (yL == (1:Int))] [] [] ae)/\∀(b:Bool)(m':Mem),ae.le m'->J [bool b] [] [] m'->br b (∃
 (b:Bool),br (decide (ap < (0:Int))) (Zac xL/\ab=ab/\[bool true]=[bool b]) (atA a λa1 o=>Zad ap n/\∃(v:Value),m' a1 (o+Int.toNat ap*8+0)=some v/\∃(n:Int),v=int u8 n/\Zac xL
 /\ ab=ab/\[bool !n == (1:Int)]=[bool b])/\br b (∀(b:Nat),lM (m'.add b [string (ByteArray.mk (Array.mk [97])),string (ByteArray.mk (Array.mk [45])),string (ByteArray.mk (Array.mk [97,98,32])),string (ByteArray.mk (Array.mk [0,255])),string (ByteArray.mk (Array.mk [49,50]))]) λmL=>m'.free b->(5:Int)≠(0:Int)/\
 Zad (Int.tmod ag (5:Int)) 5/\Eng.Zth [string (ByteArray.mk (Array.mk [97])),string (ByteArray.mk (Array.mk [45])),string (ByteArray.mk (Array.mk [97,98,32])),string (ByteArray.mk (Array.mk [0,255])),string (ByteArray.mk (Array.mk [49,50]))] (Int.toNat (Int.tmod ag (5:Int))*1) λv=>∃(s:ByteArray),lV [int u8 1,
 string s,int i64 0,int u8 0,Value.float .f64 0,string bE0,int i64 0,slice none 0 0] λan=>v=string s/\∀(b:Nat),lM (mL.add b an) λar=>mL.free b->(ai=am\/
 ac=slice none 0 0\/c < aa)/\∃(xs:List Value),∃(ys:List Value),xs.length=ak/\ys.length=1*8/\rowRd ar a xs/\rowRd ar (some (Addr.mk b 0 none)) ys/\(∀(u:Value),u∈ys->u.oneCell'
 = true)/\al<=140737488355328/\aa<=9223372036854775807/\∀(a':Option Addr)(c':Nat)(m':Mem),ar.le m'->rowRd m' a' (List.append xs ys)->Zac xL/\nxI ad I (slice a' aa c'::af) [] [slice a' aa c']
 m') (Zac xL/\nxI ad I (ac::af) [] [ao] m')) (∃(J:JT),br (yL == (2:Int)) (Zac xL/\ab=ab/\J [bool (yL == (2:Int))] [] [] m') (Zac xL/\ab=ab/\J [bool (yL == (3:Int))] [] [] m')/\∀(b:Bool)
 (ah:Mem),m'.le ah->J [bool b] [] [] ah->br b (kS Tryz.prog 25 [] ah λau n a2 m'=>(2:Int)≠(0:Int)/\atA au λb o=>Zad (Int.tmod ag (2:Int)) n/\∃(v:Value),m' b (o+Int.toNat (Int.tmod
 ag (2:Int))*1)=some v/\∃(s:ByteArray),lV [int u8 2,string s,int i64 0,int u8 0,Value.float .f64 0,string bE0,int i64 0,slice none 0 0] λan=>v=string s/\∀(b:
 Nat),lM (m'.add b an) λmL=>m'.free b->(ai=am\/ac=slice none 0 0\/c < aa)/\∃(xs:List Value),∃(ys:List Value),xs.length=ak/\ys.length=1*8/\rowRd mL a xs/\rowRd mL (some
 (Addr.mk b 0 none)) ys/\(∀(u:Value),u∈ys->u.oneCell'=true)/\al<=140737488355328/\aa<=9223372036854775807/\∀(a':Option Addr)(c':Nat)(m':Mem),mL.le m'->rowRd m' a' (List.append xs ys)->
 Zac xL/\nxI ad I (slice a' aa c'::af) [] [slice a' aa c'] m') (br (yL == (4:Int)) (kS Tryz.prog 24 [] ah λau n a2 m'=>(4:Int)≠(0:Int)/\atA au λb o=>Zad (Int.tmod ag (4:Int)) n/\∃(v:
 Value),m' b (o+Int.toNat (Int.tmod ag (4:Int))*1)=some v/\∃(s:ByteArray),lV [int u8 2,string s,int i64 0,int u8 0,Value.float .f64 0,string bE0,int i64 0,slice none
 0 0] λan=>v=string s/\∀(b:Nat),lM (m'.add b an) λmL=>m'.free b->(ai=am\/ac=slice none 0 0\/c < aa)/\∃(xs:List Value),∃(ys:List Value),xs.length=ak/\ys.length=1*8
 /\ rowRd mL a xs/\rowRd mL (some (Addr.mk b 0 none)) ys/\(∀(u:Value),u∈ys->u.oneCell'=true)/\al<=140737488355328/\aa<=9223372036854775807/\∀(a':Option Addr)(c':Nat)(m':Mem),mL.le m'->
 rowRd m' a' (List.append xs ys)->Zac xL/\nxI ad I (slice a' aa c'::af) [] [slice a' aa c'] m') (∃(J:JT),br (yL == (5:Int)) (Zac xL/\ab=ab/\J [bool (yL == (5:Int))] [] [] ah) (Zac xL/\ab=ab/\
 J [bool (yL == (6:Int))] [] [] ah)/\∀(b:Bool)(m':Mem),ah.le m'->J [bool b] [] [] m'->br b (br (decide (p2 ≥ (0:Int))) (av≠(0:Int)/\∀(b:Nat),lM (m'.add b a0) λmL=>m'.free b->(ai =
 am\/ac=slice none 0 0\/c < aa)/\∃(xs:List Value),∃(ys:List Value),xs.length=ak/\ys.length=1*8/\rowRd mL a xs/\rowRd mL (some (Addr.mk b 0 none)) ys/\(∀(u:Value),u∈ys->
 u.oneCell'=true)/\al<=140737488355328/\aa<=9223372036854775807/\∀(a':Option Addr)(c':Nat)(m':Mem),mL.le m'->rowRd m' a' (List.append xs ys)->Zac xL/\nxI ad I (slice a' aa c'::af) []
 [slice a' aa c'] m') (Zac xL/\nxI ad I (ac::af) [] [ao] m')) (∀(b:Nat),lM (m'.add b aw) λmL=>m'.free b->(ai=am\/ac=slice none 0 0\/c < aa)/\∃(xs:List Value),∃(ys:List Value),
 xs.length=ak/\ys.length=1*8/\rowRd mL a xs/\rowRd mL (some (Addr.mk b 0 none)) ys/\(∀(u:Value),u∈ys->u.oneCell'=true)/\al<=140737488355328/\aa<=9223372036854775807/\∀(a':Option
 Addr) (c':Nat) (m':Mem),mL.le m'->rowRd m' a' (List.append xs ys)->Zac xL/\nxI ad I (slice a' aa c'::af) [] [slice a' aa c'] m'))))) (rtM m ae R ac)):CX Tryz.prog 129 #[.slice p0a p0n p0c,.agg #[.int .u8 bM,bV,.string bX,.int .i64 cJ,.slice dM dG dP],.int .i64 p2] m [] R:=
 Zae (E:=Zf1) Zao mix Tryz.func129 (by kernel_rfl) (Eq.mp (by kernel_rfl) h)
def ZhS:Env:={ EB with
 dr:=(λi=>bif Nat.beq i 4 then[⟨0,[],[],none,[],[]⟩,⟨1,[2],[],none,[],[]⟩,⟨2,[2],[],none,[1],[]⟩,⟨3,[],[],none,[1,2],[]⟩,⟨4,[],[],none,[0,1,2,3],[]⟩,⟨5,[],[],none,[0,1,2,3,4],[0]⟩,⟨6,[2],[],none,[],[]⟩,⟨7,[2],[],none,[6],[]⟩,⟨8,[5],[],none,[],[]⟩,⟨9,[],[],none,[],[]⟩,⟨10,[],[],none,[0,6,7,8,9],[0]⟩,⟨11,[],[],none,[0,1,2,3,4,5,6,7,8,9,10],[]⟩,⟨12,[4],[4],none,rg 0 12,[]⟩]else bif Nat.beq i 6 then[⟨0,[],[],none,[],[]⟩,⟨1,[2],[],none,[],[]⟩,⟨2,[2],[],none,[1],[]⟩,⟨3,[],[],none,[1,2],[]⟩,⟨4,[],[],none,[0,1,2,3],[]⟩,⟨5,[],[],none,[0,1,2,3,4],[0]⟩,⟨6,[5],[],none,[],[]⟩,⟨7,[],[],none,[0,1,2,3,4,5,6],[]⟩,⟨8,[4],[4],none,[0,1,2,3,4,5,6,7],[]⟩]else[])
 frzNew:=[2]
 ldF:=(λi=>bif Nat.beq i 26 then some (.str)else bif Nat.beq i 40 then some (.str)else none) }
theorem ZgV(aA aD:Int)(aN:Option Addr)(aJ aV:Nat)(jZ:Option Addr)(jd iq:Nat)(p1:Int)(m:Mem)(R:RT)(h:
 lX (slice aN aJ aV) λyL=>lV [int i64 p1] λxL=>lE (if(8:Int) < (↑jd:Int)then(8:Int)else(↑jd:Int)) λac=>fzM m [int u8 aA,int u8 aD,yL,slice jZ jd iq] λb m'=>
 ∀(b:Nat),((0:Int)<=ac/\ac<=(↑iq:Int))/\∃(R_1:RT),True/\CX Tryz.prog 128 (Array.mk [slice (Za6 jZ 0 iq 3) (Int.toNat ac - 0) (iq - 0)]) m' [] R_1/\ZbC (Shape.agg [Shape.int u8,
 Shape.any,Shape.str,Shape.int i64,Shape.slice]) R_1/\∀(n:Int)(v:Value)(s:ByteArray)(ah:Int)(a:Option Addr)(ai c:Nat)(ab:Mem),lX (agg (Array.mk [int u8 n,v,string s,int i64 ah,slice a ai
 c])) λaf=>m'.le ab->R_1 af ab []->∃(R_2:RT),True/\CX Tryz.prog 127 (Array.mk (af::xL)) ab [] R_2/\ZbC (Shape.agg [Shape.int u8,Shape.any,Shape.str,Shape.int i64,Shape.slice]) R_2/\∀(n:Int) (v
 : Value) (s:ByteArray) (aj:Int) (a:Option Addr) (ak c:Nat) (m':Mem),lV [int u8 n,v,string s,int i64 aj,slice a ak c] λad=>lV (yL::agg (Array.mk ad)::xL) λxL=>ab.le m'->R_2 (agg
 (Array.mk ad)) m' []->∀(b:Nat),chk (v.oneCell'&&true) ((4:Int)≠(0:Int)/\br (Int.tmod aA (4:Int) == (2:Int)) (∃(f:Fx),∃(R_3:RT),R_3=f 0 [] m'/\CX Tryz.prog 25 (Array.mk []) m' [] R_3
 /\ ZbC Shape.slice R_3/\∀(a:Option Addr)(n c:Nat)(aa:Mem),m'.le aa->R_3 (slice a n c) aa []->(2:Int)≠(0:Int)/\atA a λb o=>Zad (Int.tmod aD (2:Int)) n/\∃(v:Value),aa b (o +
 Int.toNat (Int.tmod aD (2:Int))*1)=some v/\∃(s:ByteArray),v=string s/\∃(R_4:RT),R_4=f 10 xL aa/\CX Tryz.prog 129 (Array.mk xL) aa [] R_4/\ZbC Shape.slice R_4/\∀(a:Option Addr)(n c:Nat)
 (ae:Mem),aa.le ae->R_4 (slice a n c) ae []->∀(M:Mem),m'.le M->aa.le M->ae.le M->rtM m M R (agg (Array.mk [int u8 2,string s,slice a n c,int u8 0,Value.float .f64 0,string
 bE0,int i64 0,slice none 0 0]))) (br (Int.tmod aA (4:Int) == (3:Int)) (∃(f:Fx),∃(R_3:RT),R_3=f 0 [] m'/\CX Tryz.prog 24 (Array.mk []) m' [] R_3/\ZbC Shape.slice R_3/\∀(a:
 Option Addr) (n c:Nat) (aa:Mem),m'.le aa->R_3 (slice a n c) aa []->(4:Int)≠(0:Int)/\atA a λb o=>Zad (Int.tmod aD (4:Int)) n/\∃(ag:Value),aa b (o+Int.toNat (Int.tmod aD (4:Int))
 * 1)=some ag/\∃(s:ByteArray),ag=string s/\chk (v.oneCell'&&true) (∀(M:Mem),m'.le M->aa.le M->rtM m M R (agg (Array.mk (int u8 3::string s::slice none 0 0::ad))))) (kS Tryz.prog 129
 xL m' λa n c m'=>rtM m m' R (agg (Array.mk [int u8 1,string bE0,slice a n c,int u8 0,Value.float .f64 0,string bE0,int i64 0,slice none 0 0])))))):CX Tryz.prog 86 #[.agg #[.int .u8 aA,.int .u8 aD,.slice aN aJ aV,.slice jZ jd iq],.int .i64 p1] m [] R:=
 Zae (E:=ZhS) Zao mix Tryz.func86 (by kernel_rfl) (Eq.mp (by kernel_rfl) h)
def Zly:Env:={ EB with
 loops:=(λi=>bif Nat.beq i 18 then⟨[(65,.int .i64)],[5],[(75,8)],false⟩ else⟨[],[],[],false⟩)
 dr:=(λi=>bif Nat.beq i 4 then[⟨0,[2],[],none,[],[]⟩,⟨1,[2],[],none,[0],[]⟩,⟨2,[],[],none,[0,1],[]⟩,⟨3,[],[],none,[0,1,2],[]⟩,⟨4,[],[],none,[0,1,2,3],[]⟩,⟨5,[5],[],none,[],[]⟩,⟨6,[5],[5],none,[5],[]⟩,⟨7,[5],[],none,[0,1,2,3,4,5,6],[]⟩,⟨8,[5],[5],none,[0,1,2,3,4,5,6,7],[]⟩]else bif Nat.beq i 9 then[⟨0,[2],[],none,[],[]⟩,⟨1,[2],[],none,[0],[]⟩,⟨2,[],[],none,[0,1],[]⟩,⟨3,[],[],none,[0,1,2],[]⟩,⟨4,[2],[],none,[],[]⟩,⟨5,[2],[],none,[4],[]⟩,⟨6,[],[],none,[4,5],[]⟩,⟨7,[],[],none,[4,5,6],[]⟩,⟨8,[2],[],none,[],[]⟩,⟨9,[2],[],none,[8],[]⟩,⟨10,[],[],none,[8,9],[]⟩,⟨11,[],[],none,[0,1,2,3,4,5,6,7,8,9,10],[]⟩,⟨12,[5],[],none,rg 0 12,[]⟩,⟨13,[5],[5],none,rg 0 13,[]⟩]else bif Nat.beq i 13 then[⟨0,[46],[46],none,[],[]⟩,⟨1,[2],[],none,[],[]⟩,⟨2,[2],[],none,[1],[]⟩,⟨3,[],[],none,[1,2],[]⟩,⟨4,[46],[],none,[0,1,2,3],[]⟩,⟨5,[46],[],none,[0,1,2,3,4],[0]⟩,⟨6,[5],[],none,[],[]⟩,⟨7,[5],[5],none,[6],[]⟩,⟨8,[5],[],none,[0,1,2,3,4,5,6,7],[]⟩,⟨9,[5],[5],none,[0,1,2,3,4,5,6,7,8],[]⟩]else bif Nat.beq i 20 then[⟨0,[5],[],none,[],[]⟩,⟨1,[5],[],none,[0],[]⟩,⟨2,[8],[],none,[],[]⟩,⟨3,[],[],none,[],[]⟩,⟨4,[],[],none,[2,3],[]⟩,⟨5,[74],[74],none,[2,3,4],[4]⟩,⟨6,[74],[],some 75,[0,1,2,3,4,5],[5]⟩,⟨7,[5],[],none,[0,1,2,3,4,5,6],[]⟩,⟨8,[5],[5],none,[0,1,2,3,4,5,6,7],[]⟩]else bif Nat.beq i 24 then[⟨0,[],[],none,[],[]⟩,⟨1,[],[],none,[],[]⟩,⟨2,[],[],none,[],[]⟩,⟨3,[],[],none,[1,2],[]⟩,⟨4,[],[],none,[0,1,2,3],[]⟩,⟨5,[],[],none,[0,1,2,3,4],[0]⟩,⟨6,[5],[],none,[0,1,2,3,4,5],[]⟩,⟨7,[5],[5],none,[0,1,2,3,4,5,6],[]⟩]else[])
 tokOf:=(λi=>bif Nat.beq i 75 then 75 else 0)
 frzNew:=[2]
 cuts:=(λi=>bif Nat.beq i 8 then some ⟨[(21,.bool)],[],[],false⟩ else bif Nat.beq i 13 then some ⟨[(43,.bool)],[],[],false⟩ else bif Nat.beq i 17 then some ⟨[(6,.int .i64)],[5],[],false⟩ else bif Nat.beq i 26 then some ⟨[],[5],[],false⟩ else none)
 ldF:=(λi=>bif Nat.beq i 12 then some (.int .u8)else bif Nat.beq i 27 then some (.int .u8)else bif Nat.beq i 31 then some (.int .u8)else bif Nat.beq i 48 then some (.int .u8)else bif Nat.beq i 15 then some (.int .u8)else bif Nat.beq i 79 then some (.int .u8)else bif Nat.beq i 51 then some (.str)else bif Nat.beq i 89 then some (.str)else none) }
theorem Zjv(aA aD aG aF:Int)(aS:Option Addr)(aM aZ:Nat)(j0:Option Addr)(je jf:Nat)(p1:Int)(m:Mem)(R:RT)(h:
 lX (slice aS aM aZ) λyL=>lX (int u8 aD) λaf=>lE (if(3:Int) < (↑je:Int)then(3:Int)else(↑je:Int)) λag=>lV [int u8 aA,af,int u8 aG,int u8 aF,yL,slice j0 je
 jf] λxL=>fzM m xL λb m'=>∀(az aw:Nat),∃(J:JT),lE [some (Box.mk az [int u8 0,bool false,bool false,int u8 0,int u64 0,int u64 0,int u64 0,int u64 0,int i64 0,int i64 0,slice none 0 0,
 string bE0,int i64 0,slice none 0 0,string bE0,int i64 0] 47 16 false true),some (Box.mk b xL 108 6 true true)] λxL=>lE (some (Box.mk aw [] 47 16 false true)
 :: xL) λad=>lE (some (Box.mk aw [int u8 0,bool false,bool false,int u8 0,int u64 0,int u64 0,int u64 0,int u64 0,int i64 0,int i64 0,slice none 0 0,string bE0,int i64 0,slice
 none 0 0,string bE0,int i64 0] 47 16 false true)::xL) λxL=>(∃(n:Int),lE (Int.tmod n (8:Int)) λaa=>int u8 aA=int u8 n/\(8:Int)≠(0:Int)/\∃(ah:JT),br (aa == (0:
 Int)) (Zac xL/\ah [bool (aa == (0:Int))] [] [] m') (br (aa == (1:Int)) (Zac xL/\ah [bool (aa == (1:Int))] [] [] m') (Zac xL/\ah [bool (aa == (2:Int))] [] [] m'))/\∀(b:Bool)(ab:Mem),m'.le ab->ah [bool b] [] [] ab->br b (∃(f:Fx),∃(n:Int),af=int u8 n/\(5:Int)≠(0:Int)/\∃(ai:Int),af=int u8 ai/\(7:Int)≠(0:Int)/\∃(R:RT),R=f 10 [yL] ab/\CX Tryz.prog 84 (Array.mk [yL]) ab
 [] R/\ZbC (shT) R/\∀(ae aj ak al am an ax:Int)(a:Option Addr)(ay c:Nat)(m':Mem),lX (agg (Array.mk [int u8 ae,int u64 aj,int u64 ak,int u64 al,int u64 am,int i64 an,int i64 ax,slice a ay c])) fun
 yL=>ab.le m'->R yL m' []->∀(M:Mem),ab.le M->m'.le M->kI Tryz.prog 85 [yL] M λa0 m'=>Zac ad/\J [int i64 a0] [[int u8 1,bool (Int.tmod n (5:Int) == (4:Int)),bool (Int.tmod ai (7:Int)
 == (6:Int)),int u8 ae,int u64 aj,int u64 ak,int u64 al,int u64 am,int i64 an,int i64 ax,slice a ay c,string bE0,int i64 0,slice none 0 0,string bE0,int
 i64 0]] [] m') (∃(ap:JT),br (aa == (3:Int)) (Zac xL/\ap [bool (aa == (3:Int))] [] [] ab) (Zac xL/\ap [bool (aa == (4:Int))] [] [] ab)/\∀(b:Bool)(m':Mem),ab.le m'->ap [bool b] [] [] m'->br
 b (∀(b:Nat),m'.free b->∃(n:Int),af=int u8 n/\(6:Int)≠(0:Int)/\Zad (Int.tmod n (6:Int)) 6/\Eng.Zth [string (ByteArray.mk (Array.mk [97])),string (ByteArray.mk (Array.mk [98])),string (ByteArray.mk (Array.mk [97,98])),string (ByteArray.mk (Array.mk [98,97])),string (ByteArray.mk (Array.mk [97,97,98])),
 string (ByteArray.mk (Array.mk [99]))] (Int.toNat (Int.tmod n (6:Int))*1) λv=>∃(s:ByteArray),v=string s/\∀(M:Mem),m'.le M->Mem.le (m'.add b [string (ByteArray.mk (Array.mk [97])),string (ByteArray.mk (Array.mk [98])),string (ByteArray.mk (Array.mk [97,98])),string (ByteArray.mk (Array.mk [98,97])),string (ByteArray.mk (Array.mk
 [97,97,98])),string (ByteArray.mk (Array.mk [99]))]) M->Zac ad/\J [int i64 0] [[int u8 2,bool false,bool false,int u8 0,int u64 0,int u64 0,int u64 0,int u64 0,int
 i64 0,int i64 0,slice none 0 0,string s,int i64 0,slice none 0 0,string bE0,int i64 0]] [] M) (br (aa == (5:Int)) (Zac ad/\J [int i64 (-1:Int)] [[int u8 3,bool false,bool false,
 int u8 0,int u64 0,int u64 0,int u64 0,int u64 0,int i64 0,int i64 0,slice none 0 0,string bE0,int i64 0,slice none 0 0,string bE0,int i64 0]] [] m') (∃(n:
 Int),int u8 aG=int u8 n/\(8:Int)≠(0:Int)/\Zac ad/\J [int i64 (-1:Int)] [[int u8 4,bool false,bool false,int u8 0,int u64 0,int u64 0,int u64 0,int u64 0,int i64 0,int i64 0,slice none 0 0,
 string bE0,int i64 (i64.wrap ((1:Int)+i64.wrap (Int.tmod n (8:Int)))),slice none 0 0,string bE0,int i64 0]] [] m'))))/\∀(n:Int) (cs:List
 Value) (ab:Mem),lV [int i64 n] λxL=>m'.le ab->J xL [cs] [] ab->((0:Int)<=ag/\ag<=(↑jf:Int))/\∃(I:IT),inI I [int i64 0] [cs] [slice none 0 0] ab/\∀(n:Int)(cs:List Value) (a:Option
 Addr) (ai c:Nat) (m':Mem) (ae:Nat),lX (slice a ai c) λyL=>lE [some (Tok.mk yL 8)] λao=>ab.le m'->I [int i64 n] [cs] [yL] m' ae->br (decide (n < (↑(Int.toNat ag - 0):Int))) (atA (Za6 j0 0
 jf 4) λb o=>Zad n (Int.toNat ag - 0)/\∃v aq ar au:Value,lV (agg (Array.mk [v,aq,ar,au])::xL) λxL=>m'.reads b (o+Int.toNat n*4) [v,aq,ar,au]
 /\ ∀(b:Nat),chk (v.oneCell'&&(aq.oneCell'&&(ar.oneCell'&&(au.oneCell'&&true)))) (∃(f:Fx),Eng.Zth cs 13 λv=>∃(R:RT),lE (slN v+1) λaa=>R=f 4 xL m'/\CX Tryz.prog
 86 (Array.mk xL) m' [] R/\ZbC (Shape.agg [Shape.int u8,Shape.str,Shape.slice,Shape.int u8,Shape.any,Shape.str,Shape.int i64,Shape.slice]) R/\∀(aj:Int)(s:ByteArray)(a:Option Addr)(ak c:Nat) (al:
 Int) (a1:Value) (a2:ByteArray) (am:Int) (a3:Option Addr) (an a4:Nat) (ac:Mem),lV [int u8 aj,string s,slice a ak c,int u8 al,a1,string a2,int i64 am,slice a3 an a4] λxL=>m'.le ac->R (agg
 (Array.mk xL)) ac []->∀(b:Nat),lM (ac.add b xL) λmL=>ac.free b->chk (ZbM v&&true) ((Tok.mk yL 8=Tok.mk v 8\/v=slice none 0 0\/slC v < aa)/\∃(xs:List Value),∃(ys:List Value),
 xs.length=slN v*8/\ys.length=1*8/\rowRd mL (slA v) xs/\rowRd mL (some (Addr.mk b 0 none)) ys/\(∀(u:Value),u∈ys->u.oneCell'=true)/\aa*112<=140737488355328/\aa <=
 9223372036854775807/\∀(a':Option Addr)(c':Nat)(av:Mem),mL.le av->rowRd av a' (List.append xs ys)->chk (Nat.ble 14 (cs.length)) (∀(M:Mem),m'.le M->ac.le M->mL.le M->av.le M->
 Zac ad/\nxI ae I [int i64 (i64.wrap (n+(1:Int)))] [ZaF cs 13 [slice a' aa c']] [slice a' aa c'] M)))) (∃(J:JT),(∃(n:Int),lE (i64.wrap (Int.tmod n (8:Int))) λyL=>int u8 aF =
 int u8 n/\(8:Int)≠(0:Int)/\br (decide (yL < (6:Int))) (∃(f:Fx),∃(R:RT),R=f 0 [] m'/\CX Tryz.prog 35 (Array.mk []) m' [] R/\ZbC Shape.slice R/\∀(a:Option Addr)(n c:Nat)(ac:Mem),m'.le ac->R (slice a n c) ac []->p1≠(0:Int)/\atA a λb o=>Zad (Int.tmod yL p1) n/\∃(v:Value),ac b (o+Int.toNat (Int.tmod yL p1)*1)=some v/\∃(s:ByteArray),v=string s/\chk (Nat.ble 15
 (cs.length)) (∀(M:Mem),m'.le M->ac.le M->Zac ad/\ao=ao/\J [] [ZaF cs 14 [string s]] [] M)) ((256:Int)≠(0:Int)/\chk (Nat.ble 16 (cs.length)) (Zac ad/\ao=ao/\J [] [ZaF cs
 15 [int i64 (Int.tmod (i64.wrap (yL*(41:Int))) (256:Int))]] [] m')))/\∀(cs:List Value)(ac:Mem),m'.le ac->J [] [cs] [] ac->chk (Nat.beq (cs.length) 16&&Zey cs) (rtM m ac R (agg
 (Array.mk cs))))):CX Tryz.prog 44 #[.agg #[.int .u8 aA,.int .u8 aD,.int .u8 aG,.int .u8 aF,.slice aS aM aZ,.slice j0 je jf],.int .i64 p1] m [] R:=
 Zae (E:=Zly) Zao mix Tryz.func44 (by kernel_rfl) (Eq.mp (by kernel_rfl) h)
def Zlz:Env:={ EB with
 loops:=(λi=>bif Nat.beq i 4 then⟨[(24,.int .i64)],[3],[(41,4)],false⟩ else bif Nat.beq i 9 then⟨[(46,.int .i64)],[3],[(41,4)],false⟩ else bif Nat.beq i 15 then⟨[(77,.int .i64)],[3],[(111,2)],false⟩ else bif Nat.beq i 19 then⟨[(93,.int .i64)],[12],[(104,16)],false⟩ else⟨[],[],[],false⟩)
 dr:=(λi=>bif Nat.beq i 6 then[⟨0,[3],[],none,[],[]⟩,⟨1,[3],[],none,[0],[]⟩,⟨2,[],[],none,[],[]⟩,⟨3,[],[],none,[],[]⟩,⟨4,[],[],none,[],[]⟩,⟨5,[],[],none,[3,4],[]⟩,⟨6,[],[],none,[3,4,5],[]⟩,⟨7,[],[],none,[3,4,5,6],[]⟩,⟨8,[],[],none,[3,4,5,6,7],[]⟩,⟨9,[],[],none,[3,4,5,6,7,8],[]⟩,⟨10,[],[],none,[2,3,4,5,6,7,8,9],[]⟩,⟨11,[40],[40],none,[2,3,4,5,6,7,8,9,10],[5]⟩,⟨12,[40],[],some 41,rg 0 12,[11]⟩,⟨13,[3],[],none,rg 0 13,[]⟩,⟨14,[3],[3],none,rg 0 14,[]⟩]else bif Nat.beq i 11 then[⟨0,[3],[],none,[],[]⟩,⟨1,[3],[],none,[0],[]⟩,⟨2,[],[],none,[],[]⟩,⟨3,[54],[54],none,[],[]⟩,⟨4,[],[],none,[],[]⟩,⟨5,[],[],none,[],[]⟩,⟨6,[],[],none,[5],[]⟩,⟨7,[],[],none,[4,5,6],[]⟩,⟨8,[],[],none,[4,5,6,7],[]⟩,⟨9,[54],[],none,[3,4,5,6,7,8],[]⟩,⟨10,[54],[],none,[3,4,5,6,7,8,9],[3,7]⟩,⟨11,[],[],none,[3,4,5,6,7,8,9,10],[]⟩,⟨12,[],[],none,[2,3,4,5,6,7,8,9,10,11],[]⟩,⟨13,[64],[64],none,[2,3,4,5,6,7,8,9,10,11,12],[3,7]⟩,⟨14,[64],[],some 41,rg 0 14,[13]⟩,⟨15,[3],[],none,rg 0 15,[]⟩,⟨16,[3],[3],none,rg 0 16,[]⟩]else bif Nat.beq i 21 then[⟨0,[12],[],none,[],[]⟩,⟨1,[12],[],none,[0],[]⟩,⟨2,[14],[],none,[],[]⟩,⟨3,[],[],none,[],[]⟩,⟨4,[],[],none,[3],[]⟩,⟨5,[],[],none,[2,3,4],[]⟩,⟨6,[103],[103],none,[2,3,4,5],[5]⟩,⟨7,[103],[],some 104,[0,1,2,3,4,5,6],[6]⟩,⟨8,[12],[],none,[0,1,2,3,4,5,6,7],[]⟩,⟨9,[12],[12],none,[0,1,2,3,4,5,6,7,8],[]⟩]else[])
 tokOf:=(λi=>bif Nat.beq i 41 then 41 else bif Nat.beq i 65 then 41 else bif Nat.beq i 104 then 104 else bif Nat.beq i 111 then 111 else 0)
 frzNew:=[1]
 capF:=true
 ldF:=(λi=>bif Nat.beq i 28 then some (.str)else bif Nat.beq i 50 then some (.str)else bif Nat.beq i 61 then some (.str)else bif Nat.beq i 85 then some (.str)else bif Nat.beq i 16 then some (.int .u8)else none) }
theorem Zjw(aA:Int)(aW:Option Addr)(aP aX:Nat)(aN:Option Addr)(aJ aV:Nat)(m:Mem)(R:RT)(h:
 lE (if(4:Int) < (↑aJ:Int)then(4:Int)else(↑aJ:Int)) λyL=>lE (Int.toNat yL - 0) λap=>lV [int u8 aA,slice aW aP aX,slice aN aJ aV] λxL=>fzM m xL λb m'=>∀(bb:
 Nat),∃(n:Int),lV [Value.pointer (some (Addr.mk b 0 none))] λaq=>lE [some (Box.mk bb [int i64 0,slice none 0 0,slice none 0 0] 32 3 false true),some (Box.mk b xL 25 3 true true)] λxL=>int u8 aA=int
 u8 n/\(11:Int)≠(0:Int)/\∀(b:Nat),lE (some (Box.mk b [] 32 3 false true)::xL) λar=>kS Tryz.prog 24 [] m' λa a4 c m'=>∃(I:IT),inI I [int i64 0] [[int i64 (i64.wrap ((2:Int) +
 i64.wrap (Int.tmod n (11:Int)))),slice none 0 0,slice none 0 0]] [slice none 0 0] m'/\∀(n:Int)(cs:List Value)(bc:Option Addr)(bd c:Nat)(ag:Mem)(a5:Nat),lX (int i64 n) λau=>lX (slice
 bc bd c) λav=>m'.le ag->I [au] [cs] [av] ag a5->br (decide (n < (↑a4:Int))) (atA a λb o=>Zad n a4/\∃(v:Value),ag b (o+Int.toNat n*1)=some v/\∃(s:ByteArray),lX (string s) λyL=>v
 = yL/\∃(f:Fx),Eng.Zth cs 1 λv=>∃(R:RT),lE (slN v+1) λae=>R=f 5 (au::aq) ag/\CX Tryz.prog 43 (Array.mk (au::aq)) ag [] R/\ZbC (Shape.int i64) R/\∀(af:Int)(m':Mem),ag.le m'->R
 (int i64 af) m' []->(5:Int)≠(0:Int)/\∃(u:Value),ConvIs Tryz.prog 3 49 (int i64 (Int.tmod af (5:Int))) u/\∃(ai:Value),lV (Array.toList (Value.cells ai)) λxL=>lV (List.append xL (List.drop (2 +
 xL.length) [bool true,string bE0,Value.float .f64 0])) λaj=>lV (List.append aj (List.drop (Nat.add 1 (aj.length)) [string bE0,Value.float
 FloatKind.f64 0])) λal=>lV (yL::bool true::string bE0::List.append al []) λan=>BinIs Tryz.prog BinOp.quo 49 u (Value.float .f64 4611686018427387904) ai/\chk (Nat.beq
 (xL.length) 1&&true) (chk (Nat.beq (aj.length) (nat_lit 1)&&true) (chk (Nat.beq (al.length) (nat_lit 1)&&true) (∀(b:Nat),lM (m'.add b an) λmL=>m'.free b->chk (ZbM v&&true)
 ((Tok.mk av 4=Tok.mk v 4\/v=slice none 0 0\/slC v < ae)/\∃(xs:List Value),∃(ys:List Value),xs.length=slN v*4/\ys.length=1*4/\rowRd mL (slA v) xs/\rowRd mL (some (Addr.mk b 0 none)) ys
 /\ (∀(u:Value),u∈ys->u.oneCell'=true)/\ae*48<=140737488355328/\ae<=9223372036854775807/\∀(a':Option Addr)(c':Nat)(aa:Mem),mL.le aa->rowRd aa a' (List.append xs ys)->ae<=c'->chk
 (Nat.ble 2 (cs.length)) (∀(M:Mem),ag.le M->m'.le M->mL.le M->aa.le M->Zac ar/\nxI a5 I [int i64 (i64.wrap (n+(1:Int)))] [ZaF cs 1 [slice a' ae c']] [slice a' ae c']
 M)))))) (kS Tryz.prog 25 [] ag λa n c m'=>∃(I:IT),inI I [int i64 0] [cs] [av] m'/\∀(af:Int)(cs:List Value)(be:Option Addr)(bf c:Nat)(aa:Mem)(a6:Nat),lX (slice be bf c) λae=>lV (int i64
 (i64.wrap (af+(4:Int)))::aq) λaj=>lE (some (Tok.mk ae 4)) λah=>m'.le aa->I [int i64 af] [cs] [ae] aa a6->br (decide (af < (↑n:Int))) (atA a λb o=>Zad af n/\∃(v:Value),aa b
 (o+Int.toNat af*1)=some v/\∃(s:ByteArray),lX (string s) λyL=>v=yL/\∃(f:Fx),Eng.Zth cs 1 λv=>∀(b:Nat),lE (slN v+1) λad=>lM (aa.add b [string bE0,
 string (ByteArray.mk (Array.mk [97])),string (ByteArray.mk (Array.mk [98,98])),string (ByteArray.mk (Array.mk [49])),string (ByteArray.mk (Array.mk [48,46,53]))]) λmL=>aa.free b->∃(R:RT),R=f 7 aj aa/\CX Tryz.prog 43 (Array.mk aj) aa [] R/\ZbC (Shape.int i64) R/\∀(n:Int)(m':Mem),aa.le m'->R (int i64 n) m' []->(5:Int) ≠
 (0:Int)/\Zad (Int.tmod n (5:Int)) 5/\∀(V:Mem),aa.le V->mL.le V->m'.le V->Eng.Zth [string bE0,string (ByteArray.mk (Array.mk [97])),string (ByteArray.mk
 (Array.mk [98,98])),string (ByteArray.mk (Array.mk [49])),string (ByteArray.mk (Array.mk [48,46,53]))] (Int.toNat (Int.tmod n (5:Int))*1) λai=>∃
 (s:ByteArray),lV [yL,bool false,string s,Value.float .f64 0] λxL=>ai=string s/\∀(V:Mem),aa.le V->mL.le V->m'.le V->∀(b:Nat),lM (V.add b xL) λao=>V.free b->chk
 (ZbM v&&true) ((Tok.mk ae 4=Tok.mk v 4\/v=slice none 0 0\/slC v < ad)/\∃(xs:List Value),∃(ys:List Value),xs.length=slN v*4/\ys.length=1*4/\rowRd ao (slA v) xs/\rowRd ao (some
 (Addr.mk b 0 none)) ys/\(∀(u:Value),u∈ys->u.oneCell'=true)/\ad*48<=140737488355328/\ad<=9223372036854775807/\∀(a':Option Addr)(c':Nat)(ab:Mem),ao.le ab->rowRd ab a' (List.append xs
 ys)->ad<=c'->chk (Nat.ble 2 (cs.length)) (∀(M:Mem),aa.le M->mL.le M->m'.le M->ao.le M->ab.le M->Zac ar/\([none]:List (Option Tok))=[none]/\nxI a6 I [int i64 (i64.wrap (af+(1:Int)))] [ZaF cs 1 [slice a' ad c']] [slice a' ad c'] M))) (((0:Int)<=yL/\yL<=(↑aV:Int))/\∃(I:IT),inI I [int i64 0] [cs] [slice none 0 0] aa/\∀(n:Int)(cs:List Value) (a:Option
 Addr) (a7 c:Nat) (m':Mem) (a8:Nat),lE (Tok.mk (slice a a7 c) 2) λyL=>aa.le m'->I [int i64 n] [cs] [slice a a7 c] m' a8->br (decide (n < (↑ap:Int))) (atA (Za6 aN 0 aV 1) λbg o=>Zad n
 ap/\∃(v:Value),lE (if(5:Int) < (↑(slN v):Int)then(5:Int)else(↑(slN v):Int)) λad=>m' bg (o+Int.toNat n*1)=some v/\kS Tryz.prog 35 [] m' λa bh c m'=>atA a λbi o=>Zad n bh/\∃
 (ai:Value),m' bi (o+Int.toNat n*1)=some ai/\∃(s:ByteArray),ai=string s/\∀(bj:Nat),chk (ZbM v) (chk (ZbM v) (((0:Int)<=ad/\ad<=(↑(slC v):Int))/\∃(aw:IT),inI aw [int i64 0] [[string s,
 slice none 0 0]] [slice none 0 0] m'/\∀(am:Int)(ak:List Value)(a:Option Addr)(a9 c:Nat)(ab:Mem)(ba:Nat),m'.le ab->aw [int i64 am] [ak] [slice a a9 c] ab ba->br (decide (am < (↑(Int.toNat ad -
 0):Int))) (atA (Za6 (slA v) 0 (slC v) 6) λbk o=>Zad am (Int.toNat ad - 0)/\∃v ax ay az a0 a1:Value,lV [agg (Array.mk [v,ax,ay,az,
 a0,a1]),int i64 (↑ap:Int)] λal=>ab.reads bk (o+Int.toNat am*6) [v,ax,ay,az,a0,a1]/\∀(cf:Nat),chk (v.oneCell'&&(ax.oneCell'&&(ay.oneCell'&&(az.oneCell' &&
 (a0.oneCell'&&(a1.oneCell'&&true)))))) (∃(f:Fx),Eng.Zth ak 1 λv=>∃(R:RT),lE (slN v+1) λac=>R=f 5 al ab/\CX Tryz.prog 44 (Array.mk al) ab [] R/\ZbC (Shape.agg [Shape.int u8,
 Shape.bool,Shape.bool,Shape.int u8,Shape.int u64,Shape.int u64,Shape.int u64,Shape.int u64,Shape.int i64,Shape.int i64,Shape.slice,Shape.str,Shape.int i64,Shape.slice,Shape.str,Shape.int i64]) R/\∀(n:
 Int) (bl bm:Bool) (bn bo bp bq bs bt bu:Int) (bv:Option Addr) (bw bx:Nat) (s:ByteArray) (bz:Int) (ca:Option Addr) (cb cc:Nat) (cd:ByteArray) (ce:Int) (m':Mem),lV [int u8 n,bool bl,bool bm,int
 u8 bn,int u64 bo,int u64 bp,int u64 bq,int u64 bs,int i64 bt,int i64 bu,slice bv bw bx,string s,int i64 bz,slice ca cb cc,string cd,int i64 ce] λan=>ab.le m'->R (agg (Array.mk an)) m' []->∀(a2:
 Nat),lM (m'.add a2 an) λmL=>m'.free a2->chk (ZbM v&&true) ((Tok.mk (slice a a9 c) 16=Tok.mk v 16\/v=slice none 0 0\/slC v < ac)/\∃(xs:List Value),∃(ys:List Value),xs.length=slN v
 * 16/\ys.length=1*16/\rowRd mL (slA v) xs/\rowRd mL (some (Addr.mk a2 0 none)) ys/\(∀(u:Value),u∈ys->u.oneCell'=true)/\ac*168<=140737488355328/\ac<=9223372036854775807/\∀(a':Option
 Addr) (c':Nat) (a3:Mem),mL.le a3->rowRd a3 a' (List.append xs ys)->ac<=c'->chk (Nat.ble 2 (ak.length)) (∀(M:Mem),ab.le M->m'.le M->mL.le M->a3.le M->Zac (some (Box.mk bj []
 36 2 false true)::some (Box.mk b cs 32 3 false true)::xL)/\[some yL,ah,ah]=[some yL,ah,ah]/\nxI ba aw [int i64 (i64.wrap (am+(1:Int)))] [ZaF ak 1 [slice a' ac c']] [slice a' ac c'] M))))
 (Eng.Zth cs 2 λv=>lE (slN v+1) λac=>chk (Nat.beq (ak.length) 2&&true) (∀(b:Nat),lM (ab.add b (List.append ak [])) λmL=>ab.free b->chk (ZbM v&&true) ((yL=Tok.mk v 2\/v=slice
 none 0 0\/slC v < ac)/\∃(xs:List Value),∃(ys:List Value),xs.length=slN v*2/\ys.length=1*2/\rowRd mL (slA v) xs/\rowRd mL (some (Addr.mk b 0 none)) ys/\(∀(u:Value),u∈ys->
 u.oneCell'=true)/\ac*40<=140737488355328/\ac<=9223372036854775807/\∀(a':Option Addr)(c':Nat)(m':Mem),mL.le m'->rowRd m' a' (List.append xs ys)->ac<=c'->chk (Nat.ble 3 (cs.length))
 (Zac ar/\[ah,ah]=[ah,ah]/\nxI a8 I [int i64 (i64.wrap (n+(1:Int)))] [ZaF cs 2 [slice a' ac c']] [slice a' ac c'] m'))))))) (Eng.Zth cs 2 λv=>chk (ZbM v) (br ((↑(slN v):Int) == (0:Int))
 (∀(b:Nat),lV (ZaF cs 2 [slice (some (Addr.mk b 0 none)) 1 1]) λxL=>m'.free b->chk (Nat.ble 3 (cs.length)) (chk (Nat.beq (xL.length) 3&&Zey xL) (rtM m (m'.add b [string (ByteArray.mk
 (Array.mk [97])),slice none 0 0]) R (agg (Array.mk xL))))) (chk (Nat.beq (cs.length) 3&&Zey cs) (rtM m m' R (agg (Array.mk cs))))))))):CX Tryz.prog 10 #[.agg #[.int .u8 aA,.slice aW aP aX,.slice aN aJ aV]] m [] R:=
 Zae (E:=Zlz) Zao mix Tryz.func10 (by kernel_rfl) (Eq.mp (by kernel_rfl) h)
end Go.Proofs.YtpjepnkiiojgfaaGreat
end
