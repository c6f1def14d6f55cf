/- Part of the proof: functions of the program. No condition. -/
import Derived.Test.YtpjepnkiiojgfaaGreatPEnv
import Derived.Test.YtpjepnkiiojgfaaGreatMc
set_option linter.unusedVariables false
set_option linter.unusedSimpArgs false
set_option linter.unusedSectionVars false
noncomputable section
namespace Go.Proofs.YtpjepnkiiojgfaaGreat
open Go Go.Eng Go.Proofs Go.RowKit
open Go.Value (int slice agg bool string tuple func)
open Go.IntKind (u8 u64 i64)
set_option maxRecDepth 100000
def Zs8:Env:={ EB with
 frzNew:=[1] }
theorem ZpY(aA aD aF aE bA bB bC:Int)(aX:Option Addr)(aU bK:Nat)(m:Mem)(R:RT)(h:
 lV [int u8 aA,int u64 aD,int u64 aF,int u64 aE,int u64 bA,int i64 bB,int i64 bC,slice aX aU bK] λxL=>fzM m xL λb m'=>∀(b:Nat),kB pG 59 [agg (.mk xL)] m' λb m'=>br (!b) (rtM m m' R
 (agg (.mk [int u8 0,int u64 0,int u64 0,int u64 0,int u64 0,int i64 0,int i64 0,slice none 0 0]))) (∃R_1,True/\CX pG 130 (.mk [agg (.mk xL)]) m' [] R_1/\Zbp (shT) R_1/\∀n n_1 n_2 n_3 n_4 n_5 n_6 a n_7 c m'_1,lX (agg
 (.mk [int u8 n,int u64 n_1,int u64 n_2,int u64 n_3,int u64 n_4,int i64 n_5,int i64 n_6,slice a n_7 c])) λyL=>m'.le m'_1->R_1 yL m'_1 []->rtM m m'_1 R yL)):CX Tryz.prog 87 #[.agg #[.int .u8 aA,.int .u64 aD,.int .u64 aF,.int .u64 aE,.int .u64 bA,.int .i64 bB,.int .i64 bC,.slice aX aU bK]] m [] R:=
 Zad (E:=Zs8) Zap mix Tryz.func87 (by kernel_rfl) (Eq.mp (by kernel_rfl) h)
def Zbm:Env:={ EB with
 tokOf:=swI 0 [(2,7),(7,7)]
 tokC:=swI none [(5,some (7,5))]
 thaw:=true }
theorem Zba(p0a:Option Addr)(p0n p0c:Nat)(m:Mem)(R:RT)(h:
 lE (0+p0n) λyL=>br (Option.isNone p0a) (slice none 0 0=slice none 0 0/\R (slice none 0 0) m []) (((0:Int)=(0:Int)/\(0:Int)<=0/\(0:Int)*(↑(64:Nat):Int)<=281474976710656/\(0:Int) <=
 9223372036854775807)/\∀(b:Nat),lX (slice (some (Addr.mk b 0 none)) 0 (Int.toNat (0:Int))) λyL_1=>m.free b->Mem.k m b=none->(Tok.mk yL_1 5=Tok.mk yL_1 5\/yL_1=slice none 0 0\/Int.toNat (0:Int) < yL)/\∃(xs
 : List Value),∃(ys:List Value),xs.length=0*5/\ys.length=p0n*5/\rowRd m (some (Addr.mk b 0 none)) xs/\rowRd m p0a ys/\(∀(u:Value),u∈ys->u.oneCell'=true)/\yL*64<=140737488355328/\yL <=
 9223372036854775807/\∀a' c' m',lE (some (Tok.mk (slice a' yL c') 5)) λyL_2=>m.le m'->rowRd m' a' (List.append xs ys)->TokFact m (some (Addr.mk b 0 none)) a' yL c'->yL_2=yL_2/\R (slice a' yL c') m' [])):CXT Tryz.prog 156 #[.slice p0a p0n p0c] m 5 R:=
 Zhx (E:=Zbm) Zap mix Tryz.func156 [.v (.slice p0a p0n p0c)] (by kernel_rfl) (Eq.mp (by kernel_rfl) h)
def ZhY:Env:={ EB with
 loops:=swI nLa [(3,⟨[(14,.int .i64)],[],[],false⟩)]
 dr:=swI [] [(5,[⟨0,[2],[],none,[],[]⟩,⟨1,[2],[],none,[0],[]⟩,dO 2 [],⟨3,[6],[],none,[],[]⟩,dO 4 [],dO 5 [3,4],dO 6 [0,1,2,3,4,5]])]
 thaw:=true
 stAt:=swI none [(25,some 9)]
 last:=swI false [(5,true)]
 tokC:=swI none [(9,some (9,5))] }
theorem Zg1(aA:Int)(aD:Value)(aF:ByteArray)(aE:Int)(aN:Option Addr)(aM aQ p1g:Nat)(p1fi p1ca:List Value)(m:Mem)(R:RT)(h:
 ∀b b_1,∃R_1,lV [func (Fn.func p1g) (Array.mk p1fi) (Array.mk p1ca)] λxL=>CXT pG 156 (.mk [slice aN aM aQ]) m 5 R_1/\Zbp .slice R_1/\∀a n c m',lX (slice a n c) λyL=>lV [int u8 aA,aD,string aF,
 int i64 aE,yL] λxL_1=>m.le m'->R_1 yL m' []->∃I,inI I [int i64 0] [] [] m'/\∀(n_1:Int)(m':Mem)(n_2:Nat),lE (Int.toNat n_1*5) λyL_1=>True->I [int i64 n_1] [] [] m' n_2->br (decide (n_1 < (↑n:Int)))
 (atA a λb_2 o=>Zae n_1 n/\∃v v_1 v_2 v_3 v_4:Value,lV [v,v_1,v_2,v_3,v_4] λxL_2=>m'.reads b_2 (o+yL_1) xL_2/\∀(b_3:Nat),chk (v.oneCell'&&(v_1.oneCell'&&(v_2.oneCell'&&(v_3.oneCell' &&
 (v_4.oneCell'&&true))))) (∃(f:Fx),∃R,R=f 5 (agg (.mk xL_2)::xL) m'/\CX pG 131 (.mk (agg (.mk xL_2)::xL)) m' [] R/\Zbp (.agg [.int u8,.any,.str,.int i64,.slice]) R/\∀n_3 (v:Value) s n_4 a_5 n_5 c_1 m'_1,lV
 [int u8 n_3,v,string s,int i64 n_4,slice a_5 n_5 c_1] λxL=>m'.le m'_1->R (agg (.mk xL)) m'_1 []->atA a λb_4 o=>Zae n_1 n/\∀M,m'.le M->m'_1.le M->chk (v.oneCell'&&true) (yL=slice (some (Addr.mk b_4 0
 none)) n c/\o+yL_1+5<=n*5/\Zac [some (Box.mk b_1 [int u8 0,Value.float .f64 0,string bE0,int i64 0,slice none 0 0] 52 5 false true),some (Box.mk b xL_1 52 5 false true)]/\[some (Tok.mk yL 5)]=[some (Tok.mk yL
 5)]/\nxI n_2 I [int i64 (i64.wrap (n_1+1))] [] [] (Mem.upd M b_4 (o+yL_1) xL)))) (∃R_2,True/\CX pG p1g (Array.mk (List.append (List.append p1fi [agg (.mk xL_1)]) p1ca)) m' [] R_2/\Zbp (.agg [.int u8,.any,.str,.int
 i64,.slice]) R_2/\∀n (v:Value) s n_3 a n_4 c m'_1,lX (agg (.mk [int u8 n,v,string s,int i64 n_3,slice a n_4 c])) λyL=>m'.le m'_1->R_2 yL m'_1 []->chk (v.oneCell'&&true) (rtM m m'_1 R yL))):CX Tryz.prog 131 #[.agg #[.int .u8 aA,aD,.string aF,.int .i64 aE,.slice aN aM aQ],.func (.func p1g) p1fi.toArray p1ca.toArray] m [] R:=
 Zad (E:=ZhY) Zap mix Tryz.func131 (by kernel_rfl) (Eq.mp (by kernel_rfl) h)
def ZjJ:Env:={ EB with
 frzNew:=[1] }
theorem ZhZ(aA:Int)(aD:Value)(aF:ByteArray)(aE:Int)(aN:Option Addr)(aM aQ:Nat)(m:Mem)(R:RT)(h:
 lV [int u8 aA,aD,string aF,int i64 aE,slice aN aM aQ] λxL=>fzM m xL λb m'=>∀(b:Nat),chk (aD.oneCell'&&true) (rtM m m' R (agg (.mk xL)))):CX Tryz.prog 132 #[.agg #[.int .u8 aA,aD,.string aF,.int .i64 aE,.slice aN aM aQ]] m [] R:=
 Zad (E:=ZjJ) Zap mix Tryz.func132 (by kernel_rfl) (Eq.mp (by kernel_rfl) h)
def Zot:Env:={ EB with
 frzNew:=[1] }
theorem ZlQ(aA:Int)(aD:Value)(aF:ByteArray)(aE:Int)(aN:Option Addr)(aM aQ:Nat)(m:Mem)(R:RT)(h:
 lV [int u8 aA,aD,string aF,int i64 aE,slice aN aM aQ] λxL=>fzM m xL λb m'=>∀(b:Nat),kB pG 94 [agg (.mk xL)] m' λb m'=>br (!b) (rtM m m' R (agg (.mk [int u8 0,Value.float .f64 0,string bE0,
 int i64 0,slice none 0 0]))) (∃R_1,True/\CX pG 131 (.mk [agg (.mk xL),func (Fn.func 132) (Array.mk []) (Array.mk [])]) m' [] R_1/\Zbp (.agg [.int u8,.any,.str,.int i64,.slice]) R_1/\∀n (v:Value) s n_1 a n_2 c m'_1,
 lX (agg (.mk [int u8 n,v,string s,int i64 n_1,slice a n_2 c])) λyL=>m'.le m'_1->R_1 yL m'_1 []->chk (v.oneCell'&&true) (rtM m m'_1 R yL))):CX Tryz.prog 90 #[.agg #[.int .u8 aA,aD,.string aF,.int .i64 aE,.slice aN aM aQ]] m [] R:=
 Zad (E:=Zot) Zap mix Tryz.func90 (by kernel_rfl) (Eq.mp (by kernel_rfl) h)
def ZeE:Env:=EB
theorem Zef(aA:Int)(aD:ByteArray)(aF aE:Int)(bA:Value)(bB:ByteArray)(bC:Int)(aX:Option Addr)(aU bK:Nat)(m:Mem)(R:RT)(h:
 ∀(b b:Nat),∃R_1,True/\CX pG 90 (.mk [agg (.mk [int u8 aE,bA,string bB,int i64 bC,slice aX aU bK])]) m [] R_1/\Zbp (.agg [.int u8,.any,.str,.int i64,.slice]) R_1/\∀n (v:Value) s n_1 a n_2 c m',
 lV [int u8 n,v,string s,int i64 n_1,slice a n_2 c] λxL=>m.le m'->R_1 (agg (.mk xL)) m' []->chk (v.oneCell'&&true) (chk (v.oneCell'&&true) (rtM m m' R (agg (.mk (int u8 aA::string aD::int i64 aF::xL)))))):CX Tryz.prog 92 #[.agg #[.int .u8 aA,.string aD,.int .i64 aF,.int .u8 aE,bA,.string bB,.int .i64 bC,.slice aX aU bK]] m [] R:=
 Zad (E:=ZeE) Zap mix Tryz.func92 (by kernel_rfl) (Eq.mp (by kernel_rfl) h)
def Zb4:Env:={ EB with
 loops:=swI nLa [(3,⟨[(5,.slice),(10,.int .i64)],[],[(19,8)],false⟩)]
 tokOf:=swI 0 [(19,19)]
 thaw:=true }
theorem ZbY(p0a:Option Addr)(p0n p0c p1g:Nat)(p1fi p1ca:List Value)(m:Mem)(R:RT)(h:
 ∃I,inI I [slice none 0 0,int i64 0] [] [slice none 0 0] m/\∀a n c n_1 a_1 n_2 c_1 (m':Mem) (n_3:Nat),lX (slice a n c) λyL=>lE (n+1) λyL_1=>True->I [yL,int i64 n_1] [] [slice a_1 n_2 c_1] m' n_3->br (decide
 (n_1 < (↑p0n:Int))) (atA p0a λb o=>Zae n_1 p0n/\∃v v_1 v_2 v_3 v_4 v_5 v_6 v_7:Value,lV [v,v_1,v_2,v_3,v_4,v_5,v_6,v_7] λxL=>m'.reads b (o+Int.toNat n_1*8) xL/\∀(b:Nat),chk (v.oneCell' &&
 (v_1.oneCell'&&(v_2.oneCell'&&(v_3.oneCell'&&(v_4.oneCell'&&(v_5.oneCell'&&(v_6.oneCell'&&(v_7.oneCell'&&true)))))))) (∃R,True/\CX pG p1g (Array.mk (List.append (List.append p1fi [agg (.mk xL)]) p1ca)) m' [] R/\
 Zbp (.agg [.int u8,.str,.int i64,.int u8,.any,.str,.int i64,.slice]) R/\∀n_4 s n_5 n_6 (v:Value) s_1 n_7 a_4 n_8 c_2 m'_1,lV [int u8 n_4,string s,int i64 n_5,int u8 n_6,v,string s_1,int i64 n_7,slice a_4 n_8
 c_2] λxL=>m'.le m'_1->R (agg (.mk xL)) m'_1 []->∀b,lM (m'_1.add b xL) λmL=>m'_1.free b->(Tok.mk (slice a_1 n_2 c_1) 8=Tok.mk yL 8\/yL=slice none 0 0\/c < yL_1)/\∃(xs:List Value),∃(ys:List Value),
 xs.length=n*8/\ys.length=1*8/\rowRd mL a xs/\rowRd mL (some (Addr.mk b 0 none)) ys/\(∀(u:Value),u∈ys->u.oneCell'=true)/\yL_1*96<=140737488355328/\yL_1<=9223372036854775807/\∀(a':Option Addr) (c':
 Nat) m',mL.le m'->rowRd m' a' (List.append xs ys)->TokFact mL a a' yL_1 c'->nxI n_3 I [slice a' yL_1 c',int i64 (i64.wrap (n_1+1))] [] [slice a' yL_1 c'] m')) (rtM m m' R yL)):CX Tryz.prog 91 #[.slice p0a p0n p0c,.func (.func p1g) p1fi.toArray p1ca.toArray] m [] R:=
 Zad (E:=Zb4) Zap mix Tryz.func91 (by kernel_rfl) (Eq.mp (by kernel_rfl) h)
def Zf3:Env:=EB
theorem Zfg(aA:Int)(aD:ByteArray)(aO:Option Addr)(aI aW:Nat)(aE:Int)(bA:Value)(bB:ByteArray)(bC:Int)(aX:Option Addr)(aU bK:Nat)(m:Mem)(R:RT)(h:
 ∀(b b:Nat),∃R_1,True/\CX pG 90 (.mk [agg (.mk [int u8 aE,bA,string bB,int i64 bC,slice aX aU bK])]) m [] R_1/\Zbp (.agg [.int u8,.any,.str,.int i64,.slice]) R_1/\∀n (v:Value) s n_1 a n_2 c m',
 lV [int u8 n,v,string s,int i64 n_1,slice a n_2 c] λxL=>m.le m'->R_1 (agg (.mk xL)) m' []->chk (v.oneCell'&&true) (kS pG 91 [slice aO aI aW,func (Fn.func 92) (Array.mk []) (Array.mk [])] m' λa n c m'=>
 chk (v.oneCell'&&true) (rtM m m' R (agg (.mk (int u8 aA::string aD::slice a n c::xL)))))):CX Tryz.prog 89 #[.agg #[.int .u8 aA,.string aD,.slice aO aI aW,.int .u8 aE,bA,.string bB,.int .i64 bC,.slice aX aU bK]] m [] R:=
 Zad (E:=Zf3) Zap mix Tryz.func89 (by kernel_rfl) (Eq.mp (by kernel_rfl) h)
def Zbx:Env:={ EB with
 loops:=swI nLa [(3,⟨[(5,.slice),(10,.int .i64)],[],[(19,8)],false⟩)]
 tokOf:=swI 0 [(19,19)]
 thaw:=true }
theorem Zbt(p0a:Option Addr)(p0n p0c p1g:Nat)(p1fi p1ca:List Value)(m:Mem)(R:RT)(h:
 ∃I,inI I [slice none 0 0,int i64 0] [] [slice none 0 0] m/\∀a n c n_1 a_1 n_2 c_1 (m':Mem) (n_3:Nat),lX (slice a n c) λyL=>lE (n+1) λyL_1=>True->I [yL,int i64 n_1] [] [slice a_1 n_2 c_1] m' n_3->br (decide
 (n_1 < (↑p0n:Int))) (atA p0a λb o=>Zae n_1 p0n/\∃v v_1 v_2 v_3 v_4 v_5 v_6 v_7:Value,lV [v,v_1,v_2,v_3,v_4,v_5,v_6,v_7] λxL=>m'.reads b (o+Int.toNat n_1*8) xL/\∀(b:Nat),chk (v.oneCell' &&
 (v_1.oneCell'&&(v_2.oneCell'&&(v_3.oneCell'&&(v_4.oneCell'&&(v_5.oneCell'&&(v_6.oneCell'&&(v_7.oneCell'&&true)))))))) (∃R,True/\CX pG p1g (Array.mk (List.append (List.append p1fi [agg (.mk xL)]) p1ca)) m' [] R/\
 Zbp (.agg [.int u8,.str,.slice,.int u8,.any,.str,.int i64,.slice]) R/\∀n_4 s a_4 n_5 c_2 n_6 (v:Value) s_1 n_7 a_5 n_8 c_3 m'_1,lV [int u8 n_4,string s,slice a_4 n_5 c_2,int u8 n_6,v,string s_1,int i64 n_7,
 slice a_5 n_8 c_3] λxL=>m'.le m'_1->R (agg (.mk xL)) m'_1 []->∀b,lM (m'_1.add b xL) λmL=>m'_1.free b->(Tok.mk (slice a_1 n_2 c_1) 8=Tok.mk yL 8\/yL=slice none 0 0\/c < yL_1)/\∃(xs:List Value),∃(ys:List
 Value),xs.length=n*8/\ys.length=1*8/\rowRd mL a xs/\rowRd mL (some (Addr.mk b 0 none)) ys/\(∀(u:Value),u∈ys->u.oneCell'=true)/\yL_1*112<=140737488355328/\yL_1<=9223372036854775807/\∀(a':Option Addr)
 (c':Nat) m',mL.le m'->rowRd m' a' (List.append xs ys)->TokFact mL a a' yL_1 c'->nxI n_3 I [slice a' yL_1 c',int i64 (i64.wrap (n_1+1))] [] [slice a' yL_1 c'] m')) (rtM m m' R yL)):CX Tryz.prog 88 #[.slice p0a p0n p0c,.func (.func p1g) p1fi.toArray p1ca.toArray] m [] R:=
 Zad (E:=Zbx) Zap mix Tryz.func88 (by kernel_rfl) (Eq.mp (by kernel_rfl) h)
def Zh0:Env:=EB
theorem Zg2(aA:Int)(aD aF:Bool)(aE bA bB bC di dj dk:Int)(bY:Option Addr)(bZ cu:Nat)(cK:ByteArray)(cL:Int)(bQ:Option Addr)(bP cv:Nat)(cM:ByteArray)(cN:Int)(m:Mem)(R:RT)(h:
 ∀(b b:Nat),∃R_1,True/\CX pG 87 (.mk [agg (.mk [int u8 aE,int u64 bA,int u64 bB,int u64 bC,int u64 di,int i64 dj,int i64 dk,slice bY bZ cu])]) m [] R_1/\Zbp (shT) R_1/\∀n n_1 n_2 n_3 n_4
 n_5 n_6 a n_7 c m',m.le m'->R_1 (agg (.mk [int u8 n,int u64 n_1,int u64 n_2,int u64 n_3,int u64 n_4,int i64 n_5,int i64 n_6,slice a n_7 c])) m' []->kS pG 88 [slice bQ bP cv,func (Fn.func 89) (Array.mk [])
 (Array.mk [])] m' λa_3 n_8 c_1 m'=>rtM m m' R (agg (.mk [int u8 aA,bool aD,bool aF,int u8 n,int u64 n_1,int u64 n_2,int u64 n_3,int u64 n_4,int i64 n_5,int i64 n_6,slice a n_7 c,string cK,int i64 cL,
 slice a_3 n_8 c_1,string cM,int i64 cN]))):CX Tryz.prog 49 #[.agg #[.int .u8 aA,.bool aD,.bool aF,.int .u8 aE,.int .u64 bA,.int .u64 bB,.int .u64 bC,.int .u64 di,.int .i64 dj,.int .i64 dk,.slice bY bZ cu,.string cK,.int .i64 cL,.slice bQ bP cv,.string cM,.int .i64 cN]] m [] R:=
 Zad (E:=Zh0) Zap mix Tryz.func49 (by kernel_rfl) (Eq.mp (by kernel_rfl) h)
def Zb5:Env:={ EB with
 loops:=swI nLa [(3,⟨[(5,.slice),(10,.int .i64)],[],[(19,16)],false⟩)]
 tokOf:=swI 0 [(19,19)]
 thaw:=true }
theorem ZbZ(p0a:Option Addr)(p0n p0c p1g:Nat)(p1fi p1ca:List Value)(m:Mem)(R:RT)(h:
 ∃I,inI I [slice none 0 0,int i64 0] [] [slice none 0 0] m/\∀a n c n_1 a_1 n_2 c_1 (m':Mem) (n_3:Nat),lX (slice a n c) λyL=>lE (n+1) λyL_1=>True->I [yL,int i64 n_1] [] [slice a_1 n_2 c_1] m' n_3->br (decide
 (n_1 < (↑p0n:Int))) (atA p0a λb o=>Zae n_1 p0n/\∃v v_1 v_2 v_3 v_4 v_5 v_6 v_7 v_8 v_9 v_10 v_11 v_12 v_13 v_14 v_15:Value,lV [v,v_1,v_2,v_3,v_4,v_5,v_6,v_7,v_8,v_9,v_10,v_11,v_12,v_13,v_14,v_15] fun
 xL=>m'.reads b (o+Int.toNat n_1*16) xL/\∀(b:Nat),chk (v.oneCell'&&(v_1.oneCell'&&(v_2.oneCell'&&(v_3.oneCell'&&(v_4.oneCell'&&(v_5.oneCell'&&(v_6.oneCell'&&(v_7.oneCell'&&(v_8.oneCell'&&(v_9.oneCell'
 && (v_10.oneCell'&&(v_11.oneCell'&&(v_12.oneCell'&&(v_13.oneCell'&&(v_14.oneCell'&&(v_15.oneCell'&&true)))))))))))))))) (∃R,True/\CX pG p1g (Array.mk (List.append (List.append p1fi [agg (.mk xL)]) p1ca)) m' [] R/\
 Zbp (.agg [.int u8,.bool,.bool,.int u8,.int u64,.int u64,.int u64,.int u64,.int i64,.int i64,.slice,.str,.int i64,.slice,.str,.int i64]) R/\∀n_4 (b b_1:Bool) n_5 n_6 n_7 n_8 n_9 n_10 n_11 a_4 n_12 c_2 s n_13
 a_5 n_14 c_3 s_1 n_15 m'_1,lV [int u8 n_4,bool b,bool b_1,int u8 n_5,int u64 n_6,int u64 n_7,int u64 n_8,int u64 n_9,int i64 n_10,int i64 n_11,slice a_4 n_12 c_2,string s,int i64 n_13,slice a_5 n_14 c_3,string s_1,
 int i64 n_15] λxL=>m'.le m'_1->R (agg (.mk xL)) m'_1 []->∀b,lM (m'_1.add b xL) λmL=>m'_1.free b->(Tok.mk (slice a_1 n_2 c_1) 16=Tok.mk yL 16\/yL=slice none 0 0\/c < yL_1)/\∃(xs:List Value),∃(ys:List
 Value),xs.length=n*16/\ys.length=1*16/\rowRd mL a xs/\rowRd mL (some (Addr.mk b 0 none)) ys/\(∀(u:Value),u∈ys->u.oneCell'=true)/\yL_1*168<=140737488355328/\yL_1<=9223372036854775807/\∀(a':Option
 Addr) (c':Nat) m',mL.le m'->rowRd m' a' (List.append xs ys)->TokFact mL a a' yL_1 c'->nxI n_3 I [slice a' yL_1 c',int i64 (i64.wrap (n_1+1))] [] [slice a' yL_1 c'] m')) (rtM m m' R yL)):CX Tryz.prog 57 #[.slice p0a p0n p0c,.func (.func p1g) p1fi.toArray p1ca.toArray] m [] R:=
 Zad (E:=Zb5) Zap mix Tryz.func57 (by kernel_rfl) (Eq.mp (by kernel_rfl) h)
def ZlR:Env:={ EB with
 dr:=swI [] [(1,[⟨0,[1],[],none,[],[]⟩,⟨1,[1],[],none,[0],[]⟩,⟨2,[1],[],none,[],[]⟩,⟨3,[1],[],none,[2],[]⟩,dO 4 [2,3],dO 5 [0,1,2,3,4],⟨6,[2],[2],none,[0,1,2,3,4,5],[]⟩])]
 frzNew:=[1] }
theorem ZjK(aA:ByteArray)(aY:Option Addr)(aT bF:Nat)(m:Mem)(R:RT)(h:
 lV [slice aY aT bF,func (Fn.func 49) (Array.mk []) (Array.mk [])] λxL=>fzM m [string aA,slice aY aT bF] λb m'=>∀(b:Nat),∃(f:Fx),∃R_1,R_1=f 4 xL m'/\CX pG 57 (.mk xL) m' [] R_1/\Zbp
 .slice R_1/\∀a n c m'_1,m'.le m'_1->R_1 (slice a n c) m'_1 []->∀M,m'.le M->m'_1.le M->rtM m M R (agg (.mk [string aA,slice a n c]))):CX Tryz.prog 56 #[.agg #[.string aA,.slice aY aT bF]] m [] R:=
 Zad (E:=ZlR) Zap mix Tryz.func56 (by kernel_rfl) (Eq.mp (by kernel_rfl) h)
def ZbJ:Env:={ EB with
 loops:=swI nLa [(3,⟨[(5,.slice),(10,.int .i64)],[],[(19,2)],false⟩)]
 tokOf:=swI 0 [(19,19)]
 thaw:=true }
theorem ZbF(p0a:Option Addr)(p0n p0c p1g:Nat)(p1fi p1ca:List Value)(m:Mem)(R:RT)(h:
 ∃I,inI I [slice none 0 0,int i64 0] [] [slice none 0 0] m/\∀a n c n_1 a_1 n_2 c_1 (m':Mem) (n_3:Nat),lX (slice a n c) λyL=>lE (n+1) λyL_1=>True->I [yL,int i64 n_1] [] [slice a_1 n_2 c_1] m' n_3->br (decide
 (n_1 < (↑p0n:Int))) (atA p0a λb o=>Zae n_1 p0n/\∃v v_1:Value,m'.reads b (o+Int.toNat n_1*2) [v,v_1]/\∀(b:Nat),chk (v.oneCell'&&(v_1.oneCell'&&true)) (∃R,True/\CX pG p1g (Array.mk (List.append
 (List.append p1fi [agg (.mk [v,v_1])]) p1ca)) m' [] R/\Zbp (.agg [.str,.slice]) R/\∀s a_4 n_4 c_2 m'_1,lV [string s,slice a_4 n_4 c_2] λxL=>m'.le m'_1->R (agg (.mk xL)) m'_1 []->∀b,lM (m'_1.add b xL) λmL=>
 m'_1.free b->(Tok.mk (slice a_1 n_2 c_1) 2=Tok.mk yL 2\/yL=slice none 0 0\/c < yL_1)/\∃(xs:List Value),∃(ys:List Value),xs.length=n*2/\ys.length=1*2/\rowRd mL a xs/\rowRd mL (some (Addr.mk b 0 none)) ys
 /\ (∀(u:Value),u∈ys->u.oneCell'=true)/\yL_1*40<=140737488355328/\yL_1<=9223372036854775807/\∀(a':Option Addr)(c':Nat) m',mL.le m'->rowRd m' a' (List.append xs ys)->TokFact mL a a' yL_1 c'->nxI n_3 I [slice
 a' yL_1 c',int i64 (i64.wrap (n_1+1))] [] [slice a' yL_1 c'] m')) (rtM m m' R yL)):CX Tryz.prog 55 #[.slice p0a p0n p0c,.func (.func p1g) p1fi.toArray p1ca.toArray] m [] R:=
 Zad (E:=ZbJ) Zap mix Tryz.func55 (by kernel_rfl) (Eq.mp (by kernel_rfl) h)
def ZbK:Env:={ EB with
 tokOf:=swI 0 [(2,7),(7,7)]
 tokC:=swI none [(5,some (7,4))]
 thaw:=true }
theorem Zby(p0a:Option Addr)(p0n p0c:Nat)(m:Mem)(R:RT)(h:
 lE (0+p0n) λyL=>br (Option.isNone p0a) (slice none 0 0=slice none 0 0/\R (slice none 0 0) m []) (((0:Int)=(0:Int)/\(0:Int)<=0/\(0:Int)*(↑(48:Nat):Int)<=281474976710656/\(0:Int) <=
 9223372036854775807)/\∀(b:Nat),lX (slice (some (Addr.mk b 0 none)) 0 (Int.toNat (0:Int))) λyL_1=>m.free b->Mem.k m b=none->(Tok.mk yL_1 4=Tok.mk yL_1 4\/yL_1=slice none 0 0\/Int.toNat (0:Int) < yL)/\∃(xs
 : List Value),∃(ys:List Value),xs.length=0*4/\ys.length=p0n*4/\rowRd m (some (Addr.mk b 0 none)) xs/\rowRd m p0a ys/\(∀(u:Value),u∈ys->u.oneCell'=true)/\yL*48<=140737488355328/\yL <=
 9223372036854775807/\∀a' c' m',lE (some (Tok.mk (slice a' yL c') 4)) λyL_2=>m.le m'->rowRd m' a' (List.append xs ys)->TokFact m (some (Addr.mk b 0 none)) a' yL c'->yL_2=yL_2/\R (slice a' yL c') m' [])):CXT Tryz.prog 54 #[.slice p0a p0n p0c] m 4 R:=
 Zhx (E:=ZbK) Zap mix Tryz.func54 [.v (.slice p0a p0n p0c)] (by kernel_rfl) (Eq.mp (by kernel_rfl) h)
def ZpZ:Env:={ EB with
 dr:=swI [] [(3,[⟨0,[1],[],none,[],[]⟩,⟨1,[1],[],none,[0],[]⟩,⟨2,[1],[],none,[],[]⟩,⟨3,[1],[],none,[2],[]⟩,dO 4 [2,3],⟨5,[1],[],none,[],[]⟩,⟨6,[1],[],none,[5],[]⟩,⟨7,[],[],none,[2,3,4,5,6],[4]⟩,dO 8 [0,1,2,3,4,5,6,7],⟨9,[2],[2],none,[0,1,2,3,4,5,6,7,8],[]⟩])]
 frzNew:=[1] }
theorem Zou(aA:Int)(aY:Option Addr)(aT bF:Nat)(aO:Option Addr)(aI aW:Nat)(m:Mem)(R:RT)(h:
 lX (slice aY aT bF) λyL=>lV [int i64 aA,yL,slice aO aI aW] λxL=>lV [slice aO aI aW,func (Fn.func 56) (Array.mk []) (Array.mk [])] λxL_1=>fzM m xL λb m'=>∀(b:Nat),kB pG 19
 [agg (.mk xL)] m' λb m'=>br (!b) (rtM m m' R (agg (.mk [int i64 0,slice none 0 0,slice none 0 0]))) (∃(f:Fx),∃R_1,R_1=f 4 [yL] m'/\CX pG 54 (.mk [yL]) m' [] R_1/\Zbp .slice R_1/\∀a n c m'_1,m'.le m'_1->R_1
 (slice a n c) m'_1 []->∃R_2,R_2=f 7 xL_1 m'_1/\CX pG 55 (.mk xL_1) m'_1 [] R_2/\Zbp .slice R_2/\∀a_3 n_1 c_1 m'_2,m'_1.le m'_2->R_2 (slice a_3 n_1 c_1) m'_2 []->∀M,m'.le M->m'_1.le M->m'_2.le M->rtM m M R (agg
 (.mk [int i64 aA,slice a n c,slice a_3 n_1 c_1])))):CX Tryz.prog 18 #[.agg #[.int .i64 aA,.slice aY aT bF,.slice aO aI aW]] m [] R:=
 Zad (E:=ZpZ) Zap mix Tryz.func18 (by kernel_rfl) (Eq.mp (by kernel_rfl) h)
def Zg3:Env:=EB
theorem Zf4  (m:Mem)(R:RT)(h:
 ∀b,m.free b->rtM m (m.add b [string (.mk (.mk [120])),string (.mk (.mk [121])),string (.mk (.mk [122,95,49])),string (.mk (.mk [97,98,99,100,101,102,103,104,105,106,107,108,109,110,111,112]))]) R (slice
 (some (Addr.mk b 0 none)) 4 4)):CX Tryz.prog 24 #[] m [] R:=
 Zad (E:=Zg3) Zap mix Tryz.func24 (by kernel_rfl) (Eq.mp (by kernel_rfl) h)
def ZjL:Env:=EB
theorem Zh1  (m:Mem)(R:RT)(h:
 ∀b,m.free b->rtM m (m.add b [string (.mk (.mk [115])),string (.mk (.mk [116]))]) R (slice (some (Addr.mk b 0 none)) 2 2)):CX Tryz.prog 25 #[] m [] R:=
 Zad (E:=ZjL) Zap mix Tryz.func25 (by kernel_rfl) (Eq.mp (by kernel_rfl) h)
def ZjM:Env:=EB
theorem Zh2  (m:Mem)(R:RT)(h:
 ∀b,m.free b->rtM m (m.add b [string (.mk (.mk [97])),string (.mk (.mk [98])),string (.mk (.mk [99])),string (.mk (.mk [100]))]) R (slice (some (Addr.mk b 0 none)) 4 4)):CX Tryz.prog 35 #[] m [] R:=
 Zad (E:=ZjM) Zap mix Tryz.func35 (by kernel_rfl) (Eq.mp (by kernel_rfl) h)
def Zh3:Env:={ EB with
 dr:=swI [] [(3,[dO 0 [],dO 1 [0],dO 2 [],dO 3 [],dO 4 [3],dO 5 [3,4],dO 6 [2,3,4,5],dO 7 [0,1,2,3,4,5,6],dO 8 [0,1,2,3,4,5,6,7],dO 9 [0,1,2,3,4,5,6,7,8],dO 10 [0,1,2,3,4,5,6,7,8,9]])]
 ldF:=swI none [(16,some (.int .u8))] }
theorem Zg4(p0:Int)(c0b c0o:Nat)(m:Mem)(R:RT)(h:
 ∃(v:Value),lE (m c0b (c0o+1)) λyL=>yL=some v/\chk (ZbQ v) (br ((↑(slN v):Int) == 0) (rtM m m R (int i64 0)) (∃(v:Value),yL=some v/\∃(v_1:Value),lE (↑(slN v_1):Int) λyL_1=>yL=some v_1/\chk
 (ZbQ v_1) (yL_1≠0/\chk (ZbQ v) (atA (slA v) λb o=>Zae (Int.tmod p0 yL_1) (slN v)/\∃(v:Value),m b (o+Int.toNat (Int.tmod p0 yL_1)*1)=some v/\∃n,v=int u8 n/\rtM m m R (int i64 (i64.wrap n))))))):CX Tryz.prog 43 #[.int .i64 p0,.pointer (some ⟨c0b,c0o,none⟩)] m [] R:=
 Zad (E:=Zh3) Zap mix Tryz.func43 (by kernel_rfl) (Eq.mp (by kernel_rfl) h)
def Zh4:Env:={ EB with
 loops:=swI nLa [(5,⟨[(3,.int .i64),(14,.int .i64)],[],[],false⟩)]
 frzNew:=[1] }
theorem Zg5(aA aD aF aE bA bB bC:Int)(aX:Option Addr)(aU bK:Nat)(m:Mem)(R:RT)(h:
 lV [int u8 aA,int u64 aD,int u64 aF,int u64 aE,int u64 bA,int i64 bB,int i64 bC,slice aX aU bK] λxL=>fzM m xL λb m'=>lE [some (Box.mk b xL 42 8 true true)] λxL=>br (aA == 6) (∃I,inI
 I [int i64 (i64.wrap ((0:Int)+1)),int i64 0] [] [] m'/\∀n n_1 m'_1 (n_2:Nat),m'.le m'_1->I [int i64 n,int i64 n_1] [] [] m'_1 n_2->br (decide (n_1 < (↑aU:Int))) (atA aX λb o=>Zae n_1 aU/\∃v v_1
 v_2 v_3 v_4 v_5 v_6 v_7:Value,lV [v,v_1,v_2,v_3,v_4,v_5,v_6,v_7] λxL_1=>m'_1.reads b (o+Int.toNat n_1*8) xL_1/\∀(b:Nat),chk (v.oneCell'&&(v_1.oneCell'&&(v_2.oneCell'&&(v_3.oneCell'&&(v_4.oneCell' &&
 (v_5.oneCell'&&(v_6.oneCell'&&(v_7.oneCell'&&true)))))))) (kI pG 85 [agg (.mk xL_1)] m'_1 λn_3 m'=>Zac xL/\nxI n_2 I [int i64 (i64.wrap (n+n_3)),int i64 (i64.wrap (n_1+1))] [] [] m')) (rtM m m'_1 R (int i64
 n))) (∃I,inI I [int i64 0,int i64 0] [] [] m'/\∀n n_1 m'_1 (n_2:Nat),m'.le m'_1->I [int i64 n,int i64 n_1] [] [] m'_1 n_2->br (decide (n_1 < (↑aU:Int))) (atA aX λb o=>Zae n_1 aU/\∃v v_1 v_2 v_3 v_4
 v_5 v_6 v_7:Value,lV [v,v_1,v_2,v_3,v_4,v_5,v_6,v_7] λxL_1=>m'_1.reads b (o+Int.toNat n_1*8) xL_1/\∀(b:Nat),chk (v.oneCell'&&(v_1.oneCell'&&(v_2.oneCell'&&(v_3.oneCell'&&(v_4.oneCell' &&
 (v_5.oneCell'&&(v_6.oneCell'&&(v_7.oneCell'&&true)))))))) (kI pG 85 [agg (.mk xL_1)] m'_1 λn_3 m'=>Zac xL/\nxI n_2 I [int i64 (i64.wrap (n+n_3)),int i64 (i64.wrap (n_1+1))] [] [] m')) (rtM m m'_1 R (int i64
 n)))):CX Tryz.prog 85 #[.agg #[.int .u8 aA,.int .u64 aD,.int .u64 aF,.int .u64 aE,.int .u64 bA,.int .i64 bB,.int .i64 bC,.slice aX aU bK]] m [] R:=
 Zad (E:=Zh4) Zap mix Tryz.func85 (by kernel_rfl) (Eq.mp (by kernel_rfl) h)
def Zg6:Env:={ EB with
 loops:=swI nLa [(6,⟨[(23,.int .i64)],[2],[(33,5)],false⟩)]
 joins:=swI none [(1,some [(16,.bool)])]
 dr:=swI [] [(8,[⟨0,[2],[],none,[],[]⟩,⟨1,[2],[],none,[0],[]⟩,⟨2,[7],[],none,[],[]⟩,dO 3 [],dO 4 [2,3],⟨5,[32],[32],none,[2,3,4],[4]⟩,⟨6,[32],[],some 33,[0,1,2,3,4,5],[5]⟩,⟨7,[2],[],none,[0,1,2,3,4,5,6],[]⟩,⟨8,[2],[2],none,[0,1,2,3,4,5,6,7],[]⟩])]
 tokOf:=swI 0 [(33,33)] }
theorem Zf5(aA:Int)(aD:Value)(aF:ByteArray)(aE:Int)(aN:Option Addr)(aM aQ:Nat)(p1:Int)(m:Mem)(R:RT)(h:
 ∀b b_1,∃(b_2:Bool),lE (some (Box.mk b_1 [int u8 0,Value.float .f64 0,string bE0,int i64 0,slice none 0 0] 52 5 false true)) λyL=>lE [yL,some (Box.mk b [int u8 aA,aD,string aF,int i64 aE,slice aN
 aM aQ] 52 5 false true)] λxL=>br (aA == 10) (Zac xL/\[bool (decide (aE > p1))]=[bool b_2]) (Zac xL/\[bool false]=[bool b_2])/\br b_2 (rtM m m R (agg (.mk [int u8 9,Value.float .f64 0,string (.mk (.mk
 [121])),int i64 0,slice none 0 0]))) (∃I,inI I [int i64 0] [[int u8 aA,aD,string aF,int i64 aE,slice none 0 0]] [slice none 0 0] m/\∀n (cs:List Value) a n_1 c m' (n_2:Nat),m.le m'->I [int i64 n] [cs] [slice
 a n_1 c] m' n_2->br (decide (n < (↑aM:Int))) (atA aN λb_3 o=>Zae n aM/\∃v v_1 v_2 v_3 v_4:Value,lV [agg (.mk [v,v_1,v_2,v_3,v_4]),int i64 p1] λxL=>m'.reads b_3 (o+Int.toNat n*5) [v,v_1,
 v_2,v_3,v_4]/\∀(b_4:Nat),chk (v.oneCell'&&(v_1.oneCell'&&(v_2.oneCell'&&(v_3.oneCell'&&(v_4.oneCell'&&true))))) (∃(f:Fx),Eng.Ztz cs 4 λv=>∃R,lE (slN v+1) λyL_1=>R=f 4 xL m'/\CX pG 127 (.mk
 xL) m' [] R/\Zbp (.agg [.int u8,.any,.str,.int i64,.slice]) R/\∀n_3 (v_5:Value) s n_4 a_3 n_5 c_1 m'_1,lV [int u8 n_3,v_5,string s,int i64 n_4,slice a_3 n_5 c_1] λxL=>m'.le m'_1->R (agg (.mk xL)) m'_1 []->∀
 b_5,lM (m'_1.add b_5 xL) λmL=>m'_1.free b_5->chk (ZbQ v&&true) ((Tok.mk (slice a n_1 c) 5=Tok.mk v 5\/v=slice none 0 0\/slC v < yL_1)/\∃(xs:List Value),∃(ys:List Value),xs.length=slN v*5/\ys.length =
 1*5/\rowRd mL (slA v) xs/\rowRd mL (some (Addr.mk b_5 0 none)) ys/\(∀(u:Value),u∈ys->u.oneCell'=true)/\yL_1*64<=140737488355328/\yL_1<=9223372036854775807/\∀(a':Option Addr) c' m'_2,mL.le m'_2->rowRd m'_2
 a' (List.append xs ys)->chk (Nat.ble 5 (cs.length)) (∀M,m'.le M->m'_1.le M->mL.le M->m'_2.le M->Zac [yL,some (Box.mk b [] 52 5 false true)]/\nxI n_2 I [int i64 (i64.wrap (n+1))] [ZaH cs 4 [slice a' yL_1 c']]
 [slice a' yL_1 c'] M)))) (chk (Nat.beq (cs.length) 5&&ZeI cs) (rtM m m' R (agg (.mk cs)))))):CX Tryz.prog 127 #[.agg #[.int .u8 aA,aD,.string aF,.int .i64 aE,.slice aN aM aQ],.int .i64 p1] m [] R:=
 Zad (E:=Zg6) Zap mix Tryz.func127 (by kernel_rfl) (Eq.mp (by kernel_rfl) h)
def Zf6:Env:={ EB with
 loops:=swI nLa [(3,⟨[(7,.slice),(18,.int .i64)],[],[(56,8)],false⟩)]
 joins:=swI none [(11,some [(47,.bool)])]
 tokOf:=swI 0 [(34,56),(56,56),(68,56),(79,56),(93,56)]
 frzNew:=[4]
 cuts:=swI none [(11,some ⟨[(35,.bool)],[],[],false⟩),(15,some ⟨[(57,.bool)],[],[],false⟩),(20,some ⟨[(80,.bool)],[],[],false⟩)]
 ldF:=swI none [(53,some (.str)),(65,some (.str)),(76,some (.str)),(21,some (.int .u8)),(45,some (.int .u8))] }
theorem Zfh(p0a:Option Addr)(p0n p0c:Nat)(bM:Int)(cA:Value)(cD:ByteArray)(cF:Int)(dg:Option Addr)(cZ dm:Nat)(p2:Int)(m:Mem)(R:RT)(h:
 lV [int u8 bM,cA,string cD,int i64 cF,slice dg cZ dm] λxL=>lV (int u8 4::string bE0::int i64 0::xL) λaw=>lE (if(5:Int) < (↑p0n:Int)then(5:Int)else(↑p0n:Int)) λyL=>lE (i64.wrap
 ((if(9:Int) < p2 then(9:Int)else p2)+1)) λav=>fzM m xL λb m'=>lE [some (Box.mk b xL 52 5 true true)] λxL=>((0:Int)<=yL/\yL<=(↑p0c:Int))/\∃I,inI I [slice none 0 0,int i64 0] [] [slice none 0 0] m'
 /\ ∀a (n:Nat) c (aj:Int) ax ay az ae (ad:Nat),lX (slice ax ay az) λao=>lE (n*8) λak=>lE (n+1) λaa=>lE (aa*96) λal=>lX (slice a n c) λac=>lE (Tok.mk ac 8) λam=>lE (i64.wrap ((↑n:Int) -
 (1:Int))) λap=>lE (Tok.mk ao 8) λai=>lV [int i64 (i64.wrap (aj+1))] λaf=>lE [some ai] λab=>m'.le ae->I [ac,int i64 aj] [] [ao] ae ad->br (decide (aj < (↑(Int.toNat yL - 0):Int))) (atA (Za5 p0a 0 p0c
 1) λb o=>Zae aj (Int.toNat yL - 0)/\∃(v:Value),ae b (o+Int.toNat aj*1)=some v/\∃(aq:Int),lE (Int.tmod aq (8:Int)) λyL=>lE (i64.wrap (Int.tdiv (i64.wrap aq) (8:Int))) λag=>lV [int u8 3,string
 bE0,int i64 (Int.tmod ag av),int u8 0,Value.float .f64 0,string bE0,int i64 0,slice none 0 0] λa0=>v=int u8 aq/\(8:Int)≠0/\(8:Int)≠0/\∃(J:JT),br (yL == 0) (Zac xL/\ab=ab/\J [bool (yL == 0)] [] []
 ae) (Zac xL/\ab=ab/\J [bool (yL == 1)] [] [] ae)/\∀(b:Bool) m',ae.le m'->J [bool b] [] [] m'->br b (∃(b:Bool),br (decide (ap < 0)) (Zac xL/\ab=ab/\[bool true]=[bool b]) (atA a λa1 o=>Zae ap n/\
 ∃(v:Value),m' a1 (o+Int.toNat ap*8+0)=some v/\∃n,v=int u8 n/\Zac xL/\ab=ab/\[bool !n == 1]=[bool b])/\br b (∀b,lM (m'.add b [string (.mk (.mk [97])),string (.mk (.mk [45])),string (.mk (.mk [97,98,
 32])),string (.mk (.mk [0,255])),string (.mk (.mk [49,50]))]) λmL=>m'.free b->(5:Int)≠0/\Zae (Int.tmod ag (5:Int)) 5/\Eng.Ztz [string (.mk (.mk [97])),string (.mk (.mk [45])),string (.mk (.mk [97,98,
 32])),string (.mk (.mk [0,255])),string (.mk (.mk [49,50]))] (Int.toNat (Int.tmod ag (5:Int))*1) λv=>∃s,lV [int u8 1,string s,int i64 0,int u8 0,Value.float .f64 0,string bE0,int i64 0,slice none 0 0] λan
 => v=string s/\∀b,lM (mL.add b an) λar=>mL.free b->(ai=am\/ac=slice none 0 0\/c < aa)/\∃(xs:List Value),∃(ys:List Value),xs.length=ak/\ys.length=1*8/\rowRd ar a xs/\rowRd ar (some (Addr.mk b 0
 none)) ys/\(∀(u:Value),u∈ys->u.oneCell'=true)/\al<=140737488355328/\aa<=9223372036854775807/\∀(a':Option Addr) c' m',ar.le m'->rowRd m' a' (List.append xs ys)->Zac xL/\nxI ad I (slice a' aa c'::af) []
 [slice a' aa c'] m') (Zac xL/\nxI ad I (ac::af) [] [ao] m')) (∃(J:JT),br (yL == 2) (Zac xL/\ab=ab/\J [bool (yL == 2)] [] [] m') (Zac xL/\ab=ab/\J [bool (yL == 3)] [] [] m')/\∀(b:Bool) ah,m'.le ah->J
 [bool b] [] [] ah->br b (kS pG 25 [] ah λau n a2 m'=>(2:Int)≠0/\atA au λb o=>Zae (Int.tmod ag (2:Int)) n/\∃(v:Value),m' b (o+Int.toNat (Int.tmod ag (2:Int))*1)=some v/\∃s,lV [int u8 2,string
 s,int i64 0,int u8 0,Value.float .f64 0,string bE0,int i64 0,slice none 0 0] λan=>v=string s/\∀b,lM (m'.add b an) λmL=>m'.free b->(ai=am\/ac=slice none 0 0\/c < aa)/\∃(xs:List Value),∃(ys:List
 Value),xs.length=ak/\ys.length=1*8/\rowRd mL a xs/\rowRd mL (some (Addr.mk b 0 none)) ys/\(∀(u:Value),u∈ys->u.oneCell'=true)/\al<=140737488355328/\aa<=9223372036854775807/\∀(a':Option Addr) c' m',mL.le
 m'->rowRd m' a' (List.append xs ys)->Zac xL/\nxI ad I (slice a' aa c'::af) [] [slice a' aa c'] m') (br (yL == 4) (kS pG 24 [] ah λau n a2 m'=>(4:Int)≠0/\atA au λb o=>Zae (Int.tmod ag (4:Int)) n/\∃(v
 : Value),m' b (o+Int.toNat (Int.tmod ag (4:Int))*1)=some v/\∃s,lV [int u8 2,string s,int i64 0,int u8 0,Value.float .f64 0,string bE0,int i64 0,slice none 0 0] λan=>v=string s/\∀b,lM (m'.add b an) fun
 mL=>m'.free b->(ai=am\/ac=slice none 0 0\/c < aa)/\∃(xs:List Value),∃(ys:List Value),xs.length=ak/\ys.length=1*8/\rowRd mL a xs/\rowRd mL (some (Addr.mk b 0 none)) ys/\(∀(u:Value),u∈ys->
 u.oneCell'=true)/\al<=140737488355328/\aa<=9223372036854775807/\∀(a':Option Addr) c' m',mL.le m'->rowRd m' a' (List.append xs ys)->Zac xL/\nxI ad I (slice a' aa c'::af) [] [slice a' aa c'] m') (∃(J:JT),br
 (yL == 5) (Zac xL/\ab=ab/\J [bool (yL == 5)] [] [] ah) (Zac xL/\ab=ab/\J [bool (yL == 6)] [] [] ah)/\∀(b:Bool) m',ah.le m'->J [bool b] [] [] m'->br b (br (decide (p2 ≥ 0)) (av≠0/\∀b,lM (m'.add b a0) fun
 mL=>m'.free b->(ai=am\/ac=slice none 0 0\/c < aa)/\∃(xs:List Value),∃(ys:List Value),xs.length=ak/\ys.length=1*8/\rowRd mL a xs/\rowRd mL (some (Addr.mk b 0 none)) ys/\(∀(u:Value),u∈ys->
 u.oneCell'=true)/\al<=140737488355328/\aa<=9223372036854775807/\∀(a':Option Addr) c' m',mL.le m'->rowRd m' a' (List.append xs ys)->Zac xL/\nxI ad I (slice a' aa c'::af) [] [slice a' aa c'] m') (Zac xL/\nxI
 ad I (ac::af) [] [ao] m')) (∀b,lM (m'.add b aw) λmL=>m'.free b->(ai=am\/ac=slice none 0 0\/c < aa)/\∃(xs:List Value),∃(ys:List Value),xs.length=ak/\ys.length=1*8/\rowRd mL a xs/\rowRd mL (some
 (Addr.mk b 0 none)) ys/\(∀(u:Value),u∈ys->u.oneCell'=true)/\al<=140737488355328/\aa<=9223372036854775807/\∀(a':Option Addr) c' m',mL.le m'->rowRd m' a' (List.append xs ys)->Zac xL/\nxI ad I (slice a' aa c'
 :: af) [] [slice a' aa c'] m'))))) (rtM m ae R ac)):CX Tryz.prog 129 #[.slice p0a p0n p0c,.agg #[.int .u8 bM,cA,.string cD,.int .i64 cF,.slice dg cZ dm],.int .i64 p2] m [] R:=
 Zad (E:=Zf6) Zap mix Tryz.func129 (by kernel_rfl) (Eq.mp (by kernel_rfl) h)
def Zh5:Env:={ EB with
 dr:=swI [] [(4,[dO 0 [],⟨1,[2],[],none,[],[]⟩,⟨2,[2],[],none,[1],[]⟩,dO 3 [1,2],dO 4 [0,1,2,3],⟨5,[],[],none,[0,1,2,3,4],[0]⟩,⟨6,[2],[],none,[],[]⟩,⟨7,[2],[],none,[6],[]⟩,⟨8,[5],[],none,[],[]⟩,dO 9 [],⟨10,[],[],none,[0,6,7,8,9],[0]⟩,dO 11 [0,1,2,3,4,5,6,7,8,9,10],⟨12,[4],[4],none,rg 0 12,[]⟩]),(6,[dO 0 [],⟨1,[2],[],none,[],[]⟩,⟨2,[2],[],none,[1],[]⟩,dO 3 [1,2],dO 4 [0,1,2,3],⟨5,[],[],none,[0,1,2,3,4],[0]⟩,⟨6,[5],[],none,[],[]⟩,dO 7 [0,1,2,3,4,5,6],⟨8,[4],[4],none,[0,1,2,3,4,5,6,7],[]⟩])]
 frzNew:=[2]
 ldF:=swI none [(26,some (.str)),(40,some (.str))] }
theorem Zg7(aA aD:Int)(aO:Option Addr)(aI aW:Nat)(jG:Option Addr)(iI gL:Nat)(p1:Int)(m:Mem)(R:RT)(h:
 lX (slice aO aI aW) λyL=>lV [int i64 p1] λxL=>lE (if(8:Int) < (↑iI:Int)then(8:Int)else(↑iI:Int)) λac=>fzM m [int u8 aA,int u8 aD,yL,slice jG iI gL] λb m'=>∀(b:
 Nat),((0:Int)<=ac/\ac<=(↑gL:Int))/\∃R_1,True/\CX pG 128 (.mk [slice (Za5 jG 0 gL 3) (Int.toNat ac - 0) (gL - 0)]) m' [] R_1/\Zbp (.agg [.int u8,.any,.str,.int i64,.slice]) R_1/\∀n (v:Value) s
 ah a ai c ab,lX (agg (.mk [int u8 n,v,string s,int i64 ah,slice a ai c])) λaf=>m'.le ab->R_1 af ab []->∃R_2,True/\CX pG 127 (.mk (af::xL)) ab [] R_2/\Zbp (.agg [.int u8,.any,.str,.int i64,.slice]) R_2/\∀n
 (v:Value) s aj a ak c m',lV [int u8 n,v,string s,int i64 aj,slice a ak c] λad=>lV (yL::agg (.mk ad)::xL) λxL=>ab.le m'->R_2 (agg (.mk ad)) m' []->∀(b:Nat),chk (v.oneCell'&&true) ((4:Int)≠0/\br
 (Int.tmod aA (4:Int) == 2) (∃(f:Fx),∃R_3,R_3=f 0 [] m'/\CX pG 25 (.mk []) m' [] R_3/\Zbp .slice R_3/\∀a n c aa,m'.le aa->R_3 (slice a n c) aa []->(2:Int)≠0/\atA a λb o=>Zae (Int.tmod aD (2:
 Int)) n/\∃(v:Value),aa b (o+Int.toNat (Int.tmod aD (2:Int))*1)=some v/\∃s,v=string s/\∃R_4,R_4=f 10 xL aa/\CX pG 129 (.mk xL) aa [] R_4/\Zbp .slice R_4/\∀a n c ae,aa.le ae->R_4 (slice a n c) ae []->
 ∀M,m'.le M->aa.le M->ae.le M->rtM m M R (agg (.mk [int u8 2,string s,slice a n c,int u8 0,Value.float .f64 0,string bE0,int i64 0,slice none 0 0]))) (br (Int.tmod aA (4:Int) == 3) (∃(f:Fx),∃R_3,R_3=f 0 []
 m'/\CX pG 24 (.mk []) m' [] R_3/\Zbp .slice R_3/\∀a n c aa,m'.le aa->R_3 (slice a n c) aa []->(4:Int)≠0/\atA a λb o=>Zae (Int.tmod aD (4:Int)) n/\∃(ag:Value),aa b (o+Int.toNat (Int.tmod aD (4:
 Int))*1)=some ag/\∃s,ag=string s/\chk (v.oneCell'&&true) (∀M,m'.le M->aa.le M->rtM m M R (agg (.mk (int u8 3::string s::slice none 0 0::ad))))) (kS pG 129 xL m' λa n c m'=>rtM m m' R (agg (.mk [int u8 1,
 string bE0,slice a n c,int u8 0,Value.float .f64 0,string bE0,int i64 0,slice none 0 0])))))):CX Tryz.prog 86 #[.agg #[.int .u8 aA,.int .u8 aD,.slice aO aI aW,.slice jG iI gL],.int .i64 p1] m [] R:=
 Zad (E:=Zh5) Zap mix Tryz.func86 (by kernel_rfl) (Eq.mp (by kernel_rfl) h)
def ZlS:Env:={ EB with
 loops:=swI nLa [(18,⟨[(65,.int .i64)],[5],[(75,8)],false⟩)]
 dr:=swI [] [(4,[⟨0,[2],[],none,[],[]⟩,⟨1,[2],[],none,[0],[]⟩,dO 2 [0,1],dO 3 [0,1,2],dO 4 [0,1,2,3],⟨5,[5],[],none,[],[]⟩,⟨6,[5],[5],none,[5],[]⟩,⟨7,[5],[],none,[0,1,2,3,4,5,6],[]⟩,⟨8,[5],[5],none,[0,1,2,3,4,5,6,7],[]⟩]),(9,[⟨0,[2],[],none,[],[]⟩,⟨1,[2],[],none,[0],[]⟩,dO 2 [0,1],dO 3 [0,1,2],⟨4,[2],[],none,[],[]⟩,⟨5,[2],[],none,[4],[]⟩,dO 6 [4,5],dO 7 [4,5,6],⟨8,[2],[],none,[],[]⟩,⟨9,[2],[],none,[8],[]⟩,dO 10 [8,9],dO 11 [0,1,2,3,4,5,6,7,8,9,10],⟨12,[5],[],none,rg 0 12,[]⟩,⟨13,[5],[5],none,rg 0 13,[]⟩]),(13,[⟨0,[46],[46],none,[],[]⟩,⟨1,[2],[],none,[],[]⟩,⟨2,[2],[],none,[1],[]⟩,dO 3 [1,2],⟨4,[46],[],none,[0,1,2,3],[]⟩,⟨5,[46],[],none,[0,1,2,3,4],[0]⟩,⟨6,[5],[],none,[],[]⟩,⟨7,[5],[5],none,[6],[]⟩,⟨8,[5],[],none,[0,1,2,3,4,5,6,7],[]⟩,⟨9,[5],[5],none,[0,1,2,3,4,5,6,7,8],[]⟩]),(20,[⟨0,[5],[],none,[],[]⟩,⟨1,[5],[],none,[0],[]⟩,⟨2,[8],[],none,[],[]⟩,dO 3 [],dO 4 [2,3],⟨5,[74],[74],none,[2,3,4],[4]⟩,⟨6,[74],[],some 75,[0,1,2,3,4,5],[5]⟩,⟨7,[5],[],none,[0,1,2,3,4,5,6],[]⟩,⟨8,[5],[5],none,[0,1,2,3,4,5,6,7],[]⟩]),(24,[dO 0 [],dO 1 [],dO 2 [],dO 3 [1,2],dO 4 [0,1,2,3],⟨5,[],[],none,[0,1,2,3,4],[0]⟩,⟨6,[5],[],none,[0,1,2,3,4,5],[]⟩,⟨7,[5],[5],none,[0,1,2,3,4,5,6],[]⟩])]
 tokOf:=swI 0 [(75,75)]
 frzNew:=[2]
 cuts:=swI none [(8,some ⟨[(21,.bool)],[],[],false⟩),(13,some ⟨[(43,.bool)],[],[],false⟩),(17,some ⟨[(6,.int .i64)],[5],[],false⟩),(26,some ⟨[],[5],[],false⟩)]
 ldF:=swI none [(12,some (.int .u8)),(27,some (.int .u8)),(31,some (.int .u8)),(48,some (.int .u8)),(15,some (.int .u8)),(79,some (.int .u8)),(51,some (.str)),(89,some (.str))] }
theorem ZjN(aA aD aF aE:Int)(aN:Option Addr)(aM aQ:Nat)(jH:Option Addr)(iJ iK:Nat)(p1:Int)(m:Mem)(R:RT)(h:
 lX (slice aN aM aQ) λyL=>lX (int u8 aD) λaf=>lE (if(3:Int) < (↑iJ:Int)then(3:Int)else(↑iJ:Int)) λag=>lV [int u8 aA,af,int u8 aF,int u8 aE,yL,slice jH iJ iK] λxL
 => fzM m xL λb m'=>∀az aw,∃(J:JT),lE [some (Box.mk az [int u8 0,bool false,bool false,int u8 0,int u64 0,int u64 0,int u64 0,int u64 0,int i64 0,int i64 0,slice none 0 0,string bE0,int i64 0,slice none 0 0,
 string bE0,int i64 0] 47 16 false true),some (Box.mk b xL 108 6 true true)] λxL=>lE (some (Box.mk aw [] 47 16 false true)::xL) λad=>lE (some (Box.mk aw [int u8 0,bool false,bool false,int u8 0,int u64 0,int u64
 0,int u64 0,int u64 0,int i64 0,int i64 0,slice none 0 0,string bE0,int i64 0,slice none 0 0,string bE0,int i64 0] 47 16 false true)::xL) λxL=>(∃(n:Int),lE (Int.tmod n (8:Int)) λaa=>int u8 aA=int u8
 n/\(8:Int)≠0/\∃(ah:JT),br (aa == 0) (Zac xL/\ah [bool (aa == 0)] [] [] m') (br (aa == 1) (Zac xL/\ah [bool (aa == 1)] [] [] m') (Zac xL/\ah [bool (aa == 2)] [] [] m'))/\∀(b:Bool) ab,m'.le ab->ah [bool
 b] [] [] ab->br b (∃(f:Fx),∃n,af=int u8 n/\(5:Int)≠0/\∃ai,af=int u8 ai/\(7:Int)≠0/\∃R,R=f 10 [yL] ab/\CX pG 84 (.mk [yL]) ab [] R/\Zbp (shT) R/\∀ae aj ak al am an ax a ay c m',lX (agg (.mk [int
 u8 ae,int u64 aj,int u64 ak,int u64 al,int u64 am,int i64 an,int i64 ax,slice a ay c])) λyL=>ab.le m'->R yL m' []->∀M,ab.le M->m'.le M->kI pG 85 [yL] M λa0 m'=>Zac ad/\J [int i64 a0] [[int u8 1,bool
 (Int.tmod n (5:Int) == 4),bool (Int.tmod ai (7:Int) == 6),int u8 ae,int u64 aj,int u64 ak,int u64 al,int u64 am,int i64 an,int i64 ax,slice a ay c,string bE0,int i64 0,slice none 0 0,string bE0,int i64 0]] [] m')
 (∃(ap:JT),br (aa == 3) (Zac xL/\ap [bool (aa == 3)] [] [] ab) (Zac xL/\ap [bool (aa == 4)] [] [] ab)/\∀(b:Bool) m',ab.le m'->ap [bool b] [] [] m'->br b (∀b,m'.free b->∃n,af=int u8 n/\(6:Int)≠0/\
 Zae (Int.tmod n (6:Int)) 6/\Eng.Ztz [string (.mk (.mk [97])),string (.mk (.mk [98])),string (.mk (.mk [97,98])),string (.mk (.mk [98,97])),string (.mk (.mk [97,97,98])),string (.mk (.mk [99]))] (Int.toNat
 (Int.tmod n (6:Int))*1) λv=>∃s,v=string s/\∀M,m'.le M->Mem.le (m'.add b [string (.mk (.mk [97])),string (.mk (.mk [98])),string (.mk (.mk [97,98])),string (.mk (.mk [98,97])),string (.mk (.mk [97,97,98])),
 string (.mk (.mk [99]))]) M->Zac ad/\J [int i64 0] [[int u8 2,bool false,bool false,int u8 0,int u64 0,int u64 0,int u64 0,int u64 0,int i64 0,int i64 0,slice none 0 0,string s,int i64 0,slice none 0 0,string
 bE0,int i64 0]] [] M) (br (aa == 5) (Zac ad/\J [int i64 (-1)] [[int u8 3,bool false,bool false,int u8 0,int u64 0,int u64 0,int u64 0,int u64 0,int i64 0,int i64 0,slice none 0 0,string bE0,int i64 0,slice none 0
 0,string bE0,int i64 0]] [] m') (∃n,int u8 aF=int u8 n/\(8:Int)≠0/\Zac ad/\J [int i64 (-1)] [[int u8 4,bool false,bool false,int u8 0,int u64 0,int u64 0,int u64 0,int u64 0,int i64 0,int i64 0,slice
 none 0 0,string bE0,int i64 (i64.wrap ((1:Int)+i64.wrap (Int.tmod n (8:Int)))),slice none 0 0,string bE0,int i64 0]] [] m'))))/\∀n (cs:List Value) ab,lV [int i64 n] λxL=>m'.le ab->J xL [cs] [] ab->((0:Int)
 <= ag/\ag<=(↑iK:Int))/\∃I,inI I [int i64 0] [cs] [slice none 0 0] ab/\∀n (cs:List Value) a ai c m' (ae:Nat),lX (slice a ai c) λyL=>lE [some (Tok.mk yL 8)] λao=>ab.le m'->I [int i64 n] [cs] [yL] m' ae->
 br (decide (n < (↑(Int.toNat ag - 0):Int))) (atA (Za5 jH 0 iK 4) λb o=>Zae n (Int.toNat ag - 0)/\∃v aq ar au:Value,lV (agg (.mk [v,aq,ar,au])::xL) λxL=>m'.reads b (o+Int.toNat n*4) [v,aq,
 ar,au]/\∀(b:Nat),chk (v.oneCell'&&(aq.oneCell'&&(ar.oneCell'&&(au.oneCell'&&true)))) (∃(f:Fx),Eng.Ztz cs 13 λv=>∃R,lE (slN v+1) λaa=>R=f 4 xL m'/\CX pG 86 (.mk xL) m' [] R/\Zbp (.agg [.int u8,
 .str,.slice,.int u8,.any,.str,.int i64,.slice]) R/\∀aj s a ak c al (a1:Value) a2 am a3 an a4 ac,lV [int u8 aj,string s,slice a ak c,int u8 al,a1,string a2,int i64 am,slice a3 an a4] λxL=>m'.le ac->R (agg
 (.mk xL)) ac []->∀b,lM (ac.add b xL) λmL=>ac.free b->chk (ZbQ v&&true) ((Tok.mk yL 8=Tok.mk v 8\/v=slice none 0 0\/slC v < aa)/\∃(xs:List Value),∃(ys:List Value),xs.length=slN v*8/\ys.length=1*8
 /\ rowRd mL (slA v) xs/\rowRd mL (some (Addr.mk b 0 none)) ys/\(∀(u:Value),u∈ys->u.oneCell'=true)/\aa*112<=140737488355328/\aa<=9223372036854775807/\∀(a':Option Addr) c' av,mL.le av->rowRd av a' (List.append
 xs ys)->chk (Nat.ble 14 (cs.length)) (∀M,m'.le M->ac.le M->mL.le M->av.le M->Zac ad/\nxI ae I [int i64 (i64.wrap (n+1))] [ZaH cs 13 [slice a' aa c']] [slice a' aa c'] M)))) (∃(J:JT),(∃(n:Int),lE (i64.wrap
 (Int.tmod n (8:Int))) λyL=>int u8 aE=int u8 n/\(8:Int)≠0/\br (decide (yL < 6)) (∃(f:Fx),∃R,R=f 0 [] m'/\CX pG 35 (.mk []) m' [] R/\Zbp .slice R/\∀a n c ac,m'.le ac->R (slice a n c) ac []->p1≠0/\
 atA a λb o=>Zae (Int.tmod yL p1) n/\∃(v:Value),ac b (o+Int.toNat (Int.tmod yL p1)*1)=some v/\∃s,v=string s/\chk (Nat.ble 15 (cs.length)) (∀M,m'.le M->ac.le M->Zac ad/\ao=ao/\J [] [ZaH cs 14
 [string s]] [] M)) ((256:Int)≠0/\chk (Nat.ble 16 (cs.length)) (Zac ad/\ao=ao/\J [] [ZaH cs 15 [int i64 (Int.tmod (i64.wrap (yL*(41:Int))) (256:Int))]] [] m')))/\∀(cs:List Value) ac,m'.le ac->J [] [cs] []
 ac->chk (Nat.beq (cs.length) 16&&ZeI cs) (rtM m ac R (agg (.mk cs))))):CX Tryz.prog 44 #[.agg #[.int .u8 aA,.int .u8 aD,.int .u8 aF,.int .u8 aE,.slice aN aM aQ,.slice jH iJ iK],.int .i64 p1] m [] R:=
 Zad (E:=ZlS) Zap mix Tryz.func44 (by kernel_rfl) (Eq.mp (by kernel_rfl) h)
def ZlT:Env:={ EB with
 loops:=swI nLa [(4,⟨[(24,.int .i64)],[3],[(41,4)],false⟩),(9,⟨[(46,.int .i64)],[3],[(41,4)],false⟩),(15,⟨[(77,.int .i64)],[3],[(111,2)],false⟩),(19,⟨[(93,.int .i64)],[12],[(104,16)],false⟩)]
 dr:=swI [] [(6,[⟨0,[3],[],none,[],[]⟩,⟨1,[3],[],none,[0],[]⟩,dO 2 [],dO 3 [],dO 4 [],dO 5 [3,4],dO 6 [3,4,5],dO 7 [3,4,5,6],dO 8 [3,4,5,6,7],dO 9 [3,4,5,6,7,8],dO 10 [2,3,4,5,6,7,8,9],⟨11,[40],[40],none,[2,3,4,5,6,7,8,9,10],[5]⟩,⟨12,[40],[],some 41,rg 0 12,[11]⟩,⟨13,[3],[],none,rg 0 13,[]⟩,⟨14,[3],[3],none,rg 0 14,[]⟩]),(11,[⟨0,[3],[],none,[],[]⟩,⟨1,[3],[],none,[0],[]⟩,dO 2 [],⟨3,[54],[54],none,[],[]⟩,dO 4 [],dO 5 [],dO 6 [5],dO 7 [4,5,6],dO 8 [4,5,6,7],⟨9,[54],[],none,[3,4,5,6,7,8],[]⟩,⟨10,[54],[],none,[3,4,5,6,7,8,9],[3,7]⟩,dO 11 [3,4,5,6,7,8,9,10],dO 12 [2,3,4,5,6,7,8,9,10,11],⟨13,[64],[64],none,[2,3,4,5,6,7,8,9,10,11,12],[3,7]⟩,⟨14,[64],[],some 41,rg 0 14,[13]⟩,⟨15,[3],[],none,rg 0 15,[]⟩,⟨16,[3],[3],none,rg 0 16,[]⟩]),(21,[⟨0,[12],[],none,[],[]⟩,⟨1,[12],[],none,[0],[]⟩,⟨2,[14],[],none,[],[]⟩,dO 3 [],dO 4 [3],dO 5 [2,3,4],⟨6,[103],[103],none,[2,3,4,5],[5]⟩,⟨7,[103],[],some 104,[0,1,2,3,4,5,6],[6]⟩,⟨8,[12],[],none,[0,1,2,3,4,5,6,7],[]⟩,⟨9,[12],[12],none,[0,1,2,3,4,5,6,7,8],[]⟩])]
 tokOf:=swI 0 [(41,41),(65,41),(104,104),(111,111)]
 frzNew:=[1]
 capF:=true
 ldF:=swI none [(28,some (.str)),(50,some (.str)),(61,some (.str)),(85,some (.str)),(16,some (.int .u8))] }
theorem ZjO(aA:Int)(aY:Option Addr)(aT bF:Nat)(aO:Option Addr)(aI aW:Nat)(m:Mem)(R:RT)(h:
 lE (if(4:Int) < (↑aI:Int)then(4:Int)else(↑aI:Int)) λyL=>lE (Int.toNat yL - 0) λap=>lV [int u8 aA,slice aY aT bF,slice aO aI aW] λxL=>fzM m xL λb m'=>∀bb,∃n,lV
 [Value.pointer (some (Addr.mk b 0 none))] λaq=>lE [some (Box.mk bb [int i64 0,slice none 0 0,slice none 0 0] 32 3 false true),some (Box.mk b xL 25 3 true true)] λxL=>int u8 aA=int u8 n/\(11:Int)≠0/\∀b,lE
 (some (Box.mk b [] 32 3 false true)::xL) λar=>kS pG 24 [] m' λa a4 c m'=>∃I,inI I [int i64 0] [[int i64 (i64.wrap ((2:Int)+i64.wrap (Int.tmod n (11:Int)))),slice none 0 0,slice none 0 0]] [slice none 0 0] m'
 /\ ∀n (cs:List Value) bc bd c ag (a5:Nat),lX (int i64 n) λau=>lX (slice bc bd c) λav=>m'.le ag->I [au] [cs] [av] ag a5->br (decide (n < (↑a4:Int))) (atA a λb o=>Zae n a4/\∃(v:Value),ag b (o +
 Int.toNat n*1)=some v/\∃s,lX (string s) λyL=>v=yL/\∃(f:Fx),Eng.Ztz cs 1 λv=>∃R,lE (slN v+1) λae=>R=f 5 (au::aq) ag/\CX pG 43 (.mk (au::aq)) ag [] R/\Zbp (.int i64) R/\∀af m',ag.le m'->
 R (int i64 af) m' []->(5:Int)≠0/\∃(u:Value),ConvIs pG 3 49 (int i64 (Int.tmod af (5:Int))) u/\∃(ai:Value),lV (Array.toList (Value.cells ai)) λxL=>lV (List.append xL (List.drop (2+xL.length) [bool true,
 string bE0,Value.float .f64 0])) λaj=>lV (List.append aj (List.drop (Nat.add 1 (aj.length)) [string bE0,Value.float FloatKind.f64 0])) λal=>lV (yL::bool true::string bE0::List.append al []) λan=>BinIs pG
 BinOp.quo 49 u (Value.float .f64 4611686018427387904) ai/\chk (Nat.beq (xL.length) 1&&true) (chk (Nat.beq (aj.length) (nat_lit 1)&&true) (chk (Nat.beq (al.length) (nat_lit 1)&&true) (∀b,lM (m'.add b an) λmL=>m'.free
 b->chk (ZbQ v&&true) ((Tok.mk av 4=Tok.mk v 4\/v=slice none 0 0\/slC v < ae)/\∃(xs:List Value),∃(ys:List Value),xs.length=slN v*4/\ys.length=1*4/\rowRd mL (slA v) xs/\rowRd mL (some (Addr.mk b 0
 none)) ys/\(∀(u:Value),u∈ys->u.oneCell'=true)/\ae*48<=140737488355328/\ae<=9223372036854775807/\∀(a':Option Addr)(c':Nat) aa,mL.le aa->rowRd aa a' (List.append xs ys)->ae<=c'->chk (Nat.ble 2
 (cs.length)) (∀M,ag.le M->m'.le M->mL.le M->aa.le M->Zac ar/\nxI a5 I [int i64 (i64.wrap (n+1))] [ZaH cs 1 [slice a' ae c']] [slice a' ae c'] M)))))) (kS pG 25 [] ag λa n c m'=>∃I,inI I [int i64 0] [cs] [av]
 m'/\∀(af:Int)(cs:List Value) be bf c aa (a6:Nat),lX (slice be bf c) λae=>lV (int i64 (i64.wrap (af+4))::aq) λaj=>lE (some (Tok.mk ae 4)) λah=>m'.le aa->I [int i64 af] [cs] [ae] aa a6->br (decide (af
 < (↑n:Int))) (atA a λb o=>Zae af n/\∃(v:Value),aa b (o+Int.toNat af*1)=some v/\∃s,lX (string s) λyL=>v=yL/\∃(f:Fx),Eng.Ztz cs 1 λv=>∀b,lE (slN v+1) λad=>lM (aa.add b [string bE0,
 string (.mk (.mk [97])),string (.mk (.mk [98,98])),string (.mk (.mk [49])),string (.mk (.mk [48,46,53]))]) λmL=>aa.free b->∃R,R=f 7 aj aa/\CX pG 43 (.mk aj) aa [] R/\Zbp (.int i64) R/\∀n m',aa.le m'->R (int
 i64 n) m' []->(5:Int)≠0/\Zae (Int.tmod n (5:Int)) 5/\∀V,aa.le V->mL.le V->m'.le V->Eng.Ztz [string bE0,string (.mk (.mk [97])),string (.mk (.mk [98,98])),string (.mk (.mk [49])),string (.mk (.mk [48,46,
 53]))] (Int.toNat (Int.tmod n (5:Int))*1) λai=>∃s,lV [yL,bool false,string s,Value.float .f64 0] λxL=>ai=string s/\∀V,aa.le V->mL.le V->m'.le V->∀b,lM (V.add b xL) λao=>V.free b->chk (ZbQ v &&
 true) ((Tok.mk ae 4=Tok.mk v 4\/v=slice none 0 0\/slC v < ad)/\∃(xs:List Value),∃(ys:List Value),xs.length=slN v*4/\ys.length=1*4/\rowRd ao (slA v) xs/\rowRd ao (some (Addr.mk b 0 none)) ys/\(∀(u:
 Value),u∈ys->u.oneCell'=true)/\ad*48<=140737488355328/\ad<=9223372036854775807/\∀(a':Option Addr)(c':Nat) ab,ao.le ab->rowRd ab a' (List.append xs ys)->ad<=c'->chk (Nat.ble 2 (cs.length)) (∀M,aa.le M->
 mL.le M->m'.le M->ao.le M->ab.le M->Zac ar/\([none]:List (Option Tok))=[none]/\nxI a6 I [int i64 (i64.wrap (af+1))] [ZaH cs 1 [slice a' ad c']] [slice a' ad c'] M))) (((0:Int)<=yL/\yL<=(↑aW:Int))/\∃I,
 inI I [int i64 0] [cs] [slice none 0 0] aa/\∀n (cs:List Value) a a7 c m' (a8:Nat),lE (Tok.mk (slice a a7 c) 2) λyL=>aa.le m'->I [int i64 n] [cs] [slice a a7 c] m' a8->br (decide (n < (↑ap:Int))) (atA (Za5 aO
 0 aW 1) λbg o=>Zae n ap/\∃(v:Value),lE (if(5:Int) < (↑(slN v):Int)then(5:Int)else(↑(slN v):Int)) λad=>m' bg (o+Int.toNat n*1)=some v/\kS pG 35 [] m' λa bh c m'=>atA a λbi o=>
 Zae n bh/\∃(ai:Value),m' bi (o+Int.toNat n*1)=some ai/\∃s,ai=string s/\∀bj,chk (ZbQ v) (chk (ZbQ v) (((0:Int)<=ad/\ad<=(↑(slC v):Int))/\∃aw,inI aw [int i64 0] [[string s,slice none 0 0]] [slice
 none 0 0] m'/\∀am (ak:List Value) a a9 c ab (ba:Nat),m'.le ab->aw [int i64 am] [ak] [slice a a9 c] ab ba->br (decide (am < (↑(Int.toNat ad - 0):Int))) (atA (Za5 (slA v) 0 (slC v) 6) λbk o=>Zae am (Int.toNat
 ad - 0)/\∃v ax ay az a0 a1:Value,lV [agg (.mk [v,ax,ay,az,a0,a1]),int i64 (↑ap:Int)] λal=>ab.reads bk (o+Int.toNat am*6) [v,ax,ay,az,a0,a1]/\∀(cf:Nat),chk (v.oneCell'&&(ax.oneCell'&&(ay.oneCell'
 && (az.oneCell'&&(a0.oneCell'&&(a1.oneCell'&&true)))))) (∃(f:Fx),Eng.Ztz ak 1 λv=>∃R,lE (slN v+1) λac=>R=f 5 al ab/\CX pG 44 (.mk al) ab [] R/\Zbp (.agg [.int u8,.bool,.bool,.int u8,.int u64,.int
 u64,.int u64,.int u64,.int i64,.int i64,.slice,.str,.int i64,.slice,.str,.int i64]) R/\∀n (bl bm:Bool) bn bo bp bq bs bt bu bv bw bx s bz ca cb cc cd ce m',lV [int u8 n,bool bl,bool bm,int u8 bn,int u64 bo,int
 u64 bp,int u64 bq,int u64 bs,int i64 bt,int i64 bu,slice bv bw bx,string s,int i64 bz,slice ca cb cc,string cd,int i64 ce] λan=>ab.le m'->R (agg (.mk an)) m' []->∀a2,lM (m'.add a2 an) λmL=>m'.free a2->chk
 (ZbQ v&&true) ((Tok.mk (slice a a9 c) 16=Tok.mk v 16\/v=slice none 0 0\/slC v < ac)/\∃(xs:List Value),∃(ys:List Value),xs.length=slN v*16/\ys.length=1*16/\rowRd mL (slA v) xs/\rowRd mL (some (Addr.mk
 a2 0 none)) ys/\(∀(u:Value),u∈ys->u.oneCell'=true)/\ac*168<=140737488355328/\ac<=9223372036854775807/\∀(a':Option Addr)(c':Nat) a3,mL.le a3->rowRd a3 a' (List.append xs ys)->ac<=c'->chk (Nat.ble 2
 (ak.length)) (∀M,ab.le M->m'.le M->mL.le M->a3.le M->Zac (some (Box.mk bj [] 36 2 false true)::some (Box.mk b cs 32 3 false true)::xL)/\[some yL,ah,ah]=[some yL,ah,ah]/\nxI ba aw [int i64 (i64.wrap (am+1))]
 [ZaH ak 1 [slice a' ac c']] [slice a' ac c'] M)))) (Eng.Ztz cs 2 λv=>lE (slN v+1) λac=>chk (Nat.beq (ak.length) 2&&true) (∀b,lM (ab.add b (List.append ak [])) λmL=>ab.free b->chk (ZbQ v&&true) ((yL =
 Tok.mk v 2\/v=slice none 0 0\/slC v < ac)/\∃(xs:List Value),∃(ys:List Value),xs.length=slN v*2/\ys.length=1*2/\rowRd mL (slA v) xs/\rowRd mL (some (Addr.mk b 0 none)) ys/\(∀(u:Value),u∈ys->
 u.oneCell'=true)/\ac*40<=140737488355328/\ac<=9223372036854775807/\∀(a':Option Addr)(c':Nat) m',mL.le m'->rowRd m' a' (List.append xs ys)->ac<=c'->chk (Nat.ble 3 (cs.length)) (Zac ar/\[ah,ah]=[ah,ah]/\
 nxI a8 I [int i64 (i64.wrap (n+1))] [ZaH cs 2 [slice a' ac c']] [slice a' ac c'] m'))))))) (Eng.Ztz cs 2 λv=>chk (ZbQ v) (br ((↑(slN v):Int) == 0) (∀(b:Nat),lV (ZaH cs 2 [slice (some (Addr.mk b 0 none)) 1 1])
 λxL=>m'.free b->chk (Nat.ble 3 (cs.length)) (chk (Nat.beq (xL.length) 3&&ZeI xL) (rtM m (m'.add b [string (.mk (.mk [97])),slice none 0 0]) R (agg (.mk xL))))) (chk (Nat.beq (cs.length) 3&&ZeI cs) (rtM m m' R (agg
 (.mk cs))))))))):CX Tryz.prog 10 #[.agg #[.int .u8 aA,.slice aY aT bF,.slice aO aI aW]] m [] R:=
 Zad (E:=ZlT) Zap mix Tryz.func10 (by kernel_rfl) (Eq.mp (by kernel_rfl) h)
end Go.Proofs.YtpjepnkiiojgfaaGreat
end
