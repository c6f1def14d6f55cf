/- Part of the proof: functions of the program. No condition. -/
import Derived.Test.YtpjepnkiiojgfaaGreatPEnv
import Derived.Test.YtpjepnkiiojgfaaGreatMc
set_option linter.unusedVariables false
set_option linter.unusedSimpArgs false
set_option linter.unusedSectionVars false
noncomputable section
namespace Go.Proofs.YtpjepnkiiojgfaaGreat
open Go Go.Eng Go.Proofs Go.RowKit
open Go.Value (int slice agg bool string tuple func)
open Go.IntKind (u8 u64 i64)
set_option maxRecDepth 100000
def ZeA:Env:={ EB with
 loops:=swI nLa [(2,⟨[(6,.int .i64)],[],[],false⟩)]
 frzNew:=[1]
 thaw:=true
 stAt:=swI none [(19,some 999)]
 lentC:=swI none [(14,some [])] }
theorem Zdz(aA aD aF aE bA bB bC:Int)(aX:Option Addr)(aU bK:Nat)(m:Mem)(Y:Nat->Prop)(R:RTY)(h:
 lV [int u8 aA,int u64 aD,int u64 aF,int u64 aE,int u64 bA,int i64 bB,int i64 bC,slice aX aU bK] λxL=>fzM m xL λb m'=>m.free b->(∀(b' o:Nat)(u:Value),m' b' o=some u->m b' o=some
 u\/b'=b)->∃I,inI I [int i64 0] [] [] m'/\∀(n:Int)(m':Mem)(n_1:Nat),lE (Int.toNat n*8) λyL=>True->I [int i64 n] [] [] m' n_1->br (decide (n < (↑aU:Int))) (atA aX λb_1 o=>Zae n aU/\∃v
 v_1 v_2 v_3 v_4 v_5 v_6 v_7:Value,lV [v,v_1,v_2,v_3,v_4,v_5,v_6,v_7] λxL_1=>m'.reads b_1 (o+yL) xL_1/\∃(Y_1:Nat->Prop),∃(R:Value->Mem->List (List Value)->List Value->Prop),CXY pG 106 (.mk [agg (.mk
 xL_1)]) m' Y_1 [] [] R/\(∀(t:Tok),t∈[]->∀(b:Nat),Tok.blk t=some b->Y_1 b)/\(∀(b_2:Nat),Y_1 b_2->(∃(t:Tok),t∈[]/\Tok.blk t=some b_2)\/(Mem.free (Mem.off m Y) b_2/\Mem.k (Mem.off m Y) b_2=none)/\
 ((∃(o:Nat),∃(v:Value),m' b_2 o=some v)\/∃(e:List (Value×Value)),Mem.k m' b_2=some e)/\b≠b_2/\True)/\(∀(v:Value)(m':Mem) (css:List (List Value)) (tvs:List Value),R v m' css tvs->Shape.fits (.tup
 []) v=true)/\∀(m'_1:Mem),Mem.le (Mem.off m' Y_1) m'_1->(NewM m' m'_1 λb=>Y_1 b\/m'.free b)->R (tuple (.mk [])) m'_1 [] []->atA aX λb_2 o=>Zae n aU/\(∃(vs:List Value),vs.length=1/\m'_1.reads
 b_2 (o+yL+0) vs)/\Mem.free (Mem.off m Y) b_2/\true=true/\b≠b_2/\Zac [some (Box.mk b xL 42 8 true true)]/\nxI n_1 I [int i64 (i64.wrap (n+1))] [] [] (Mem.upd m'_1 b_2 (o+yL+0) [int u8 99])) (R (tuple (.mk []))
 m' [] [])):CXY Tryz.prog 106 #[.agg #[.int .u8 aA,.int .u64 aD,.int .u64 aF,.int .u64 aE,.int .u64 bA,.int .i64 bB,.int .i64 bC,.slice aX aU bK]] m Y [] [] R:=
 Zdd (E:=ZeA) Zap mix Tryz.func106 [.v (.agg #[.int .u8 aA,.int .u64 aD,.int .u64 aF,.int .u64 aE,.int .u64 bA,.int .i64 bB,.int .i64 bC,.slice aX aU bK])] [] [] [] (by decide) (by kernel_rfl) (Eq.mp (by kernel_rfl) h)
def ZeB:Env:={ EB with
 loops:=swI nLa [(2,⟨[(6,.int .i64)],[],[],false⟩)]
 frzNew:=[1]
 thaw:=true
 stAt:=swI none [(19,some 999)]
 lentC:=swI none [(14,some [])] }
theorem ZdA(aA:Int)(aD:Value)(aF:ByteArray)(aE:Int)(aN:Option Addr)(aM aQ:Nat)(m:Mem)(Y:Nat->Prop)(R:RTY)(h:
 lV [int u8 aA,aD,string aF,int i64 aE,slice aN aM aQ] λxL=>fzM m xL λb m'=>m.free b->(∀(b' o:Nat)(u:Value),m' b' o=some u->m b' o=some u\/b'=b)->∃I,inI I [int i64 0] [] [] m'/\∀
 (n:Int) (m':Mem) (n_1:Nat),lE (Int.toNat n*5) λyL=>True->I [int i64 n] [] [] m' n_1->br (decide (n < (↑aM:Int))) (atA aN λb_1 o=>Zae n aM/\∃v v_1 v_2 v_3 v_4:Value,m'.reads b_1 (o+yL) [v,
 v_1,v_2,v_3,v_4]/\∃(Y_1:Nat->Prop),∃(R:Value->Mem->List (List Value)->List Value->Prop),CXY pG 107 (.mk [agg (.mk [v,v_1,v_2,v_3,v_4])]) m' Y_1 [] [] R/\(∀(t:Tok),t∈[]->∀(b:Nat),Tok.blk t=some b
 -> Y_1 b)/\(∀(b_2:Nat),Y_1 b_2->(∃(t:Tok),t∈[]/\Tok.blk t=some b_2)\/(Mem.free (Mem.off m Y) b_2/\Mem.k (Mem.off m Y) b_2=none)/\((∃(o:Nat),∃(v:Value),m' b_2 o=some v)\/∃(e:List (Value×Value)),
 Mem.k m' b_2=some e)/\b≠b_2/\True)/\(∀(v:Value)(m':Mem) (css:List (List Value)) (tvs:List Value),R v m' css tvs->Shape.fits (.tup []) v=true)/\∀(m'_1:Mem),Mem.le (Mem.off m' Y_1) m'_1->(NewM m' m'_1 fun
 b=>Y_1 b\/m'.free b)->R (tuple (.mk [])) m'_1 [] []->atA aN λb_2 o=>Zae n aM/\(∃(vs:List Value),vs.length=1/\m'_1.reads b_2 (o+yL+0) vs)/\Mem.free (Mem.off m Y) b_2/\true=true/\b≠b_2/\Zac
 [some (Box.mk b xL 52 5 true true)]/\nxI n_1 I [int i64 (i64.wrap (n+1))] [] [] (Mem.upd m'_1 b_2 (o+yL+0) [int u8 99])) (R (tuple (.mk [])) m' [] [])):CXY Tryz.prog 107 #[.agg #[.int .u8 aA,aD,.string aF,.int .i64 aE,.slice aN aM aQ]] m Y [] [] R:=
 Zdd (E:=ZeB) Zap mix Tryz.func107 [.v (.agg #[.int .u8 aA,aD,.string aF,.int .i64 aE,.slice aN aM aQ])] [] [] [] (by decide) (by kernel_rfl) (Eq.mp (by kernel_rfl) h)
def ZeC:Env:={ EB with
 loops:=swI nLa [(3,⟨[(13,.int .i64)],[],[],false⟩),(7,⟨[(24,.int .i64)],[],[],false⟩)]
 frzNew:=[1]
 thaw:=true
 stAt:=swI none [(36,some 999),(42,some 999)]
 lentC:=swI none [(9,some []),(20,some []),(31,some [])] }
theorem ZdB(aA:Int)(aD aF:Bool)(aE bA bB bC di dj dk:Int)(bY:Option Addr)(bZ cu:Nat)(cK:ByteArray)(cL:Int)(bQ:Option Addr)(bP cv:Nat)(cM:ByteArray)(cN:Int)(m:Mem)(Y:Nat->Prop)(R:RTY)(h:
 lM (Mem.off m Y) λmL=>lV [int u8 aA,bool aD,bool aF,int u8 aE,int u64 bA,int u64 bB,int u64 bC,int u64 di,int i64 dj,int i64 dk,slice bY bZ cu,string cK,int i64 cL,slice
 bQ bP cv,string cM,int i64 cN] λxL=>fzM m xL λb m'=>lE [some (Box.mk b xL 47 16 true true)] λxL=>m.free b->(∀(b' o:Nat)(u:Value),m' b' o=some u->m b' o=some u\/b'=b)->∃(Y:Nat
 -> Prop),∃(R_1:Value->Mem->List (List Value)->List Value->Prop),CXY pG 106 (.mk [agg (.mk [int u8 aE,int u64 bA,int u64 bB,int u64 bC,int u64 di,int i64 dj,int i64 dk,slice bY bZ cu])]) m'
 Y [] [] R_1/\(∀(t:Tok),t∈[]->∀(b:Nat),Tok.blk t=some b->Y b)/\(∀(ad:Nat),Y ad->(∃(t:Tok),t∈[]/\Tok.blk t=some ad)\/(mL.free ad/\Mem.k mL ad=none)/\((∃(o:Nat),∃(v:Value),m' ad o=some v)
 \/ ∃(e:List (Value×Value)),Mem.k m' ad=some e)/\b≠ad/\True)/\(∀(v:Value)(m':Mem) (css:List (List Value)) (tvs:List Value),R_1 v m' css tvs->Shape.fits (.tup []) v=true)/\∀(ag:Mem),Mem.le (Mem.off m'
 Y) ag->(NewM m' ag λb=>Y b\/m'.free b)->R_1 (tuple (.mk [])) ag [] []->∃I,inI I [int i64 0] [] [] ag/\∀(n:Int)(m':Mem)(ar:Nat),lE (Int.toNat n*8) λyL=>True->I [int i64 n] [] [] m' ar->br (decide (n <
 (↑bP:Int))) (atA bQ λad o=>Zae n bP/\∃v ai ac au av aw ax ay:Value,lV [au,av,aw,ax,ay] λaj=>m'.reads ad (o+yL) (v::ai::ac::aj)/\∀a3,chk (v.oneCell'&&(ai.oneCell'&&(ac.oneCell' &&
 (au.oneCell'&&(av.oneCell'&&(aw.oneCell'&&(ax.oneCell'&&(ay.oneCell'&&true)))))))) (∃(Y:Nat->Prop),∃(R:Value->Mem->List (List Value)->List Value->Prop),CXY pG 107 (.mk [agg (.mk aj)]) m' Y [] [] R/\(∀(t:
 Tok),t∈[]->∀(b:Nat),Tok.blk t=some b->Y b)/\(∀(aa:Nat),Y aa->(∃(t:Tok),t∈[]/\Tok.blk t=some aa)\/(mL.free aa/\Mem.k mL aa=none)/\((∃(o:Nat),∃(v:Value),m' aa o=some v)\/∃(e:List (Value ×
 Value)),Mem.k m' aa=some e)/\b≠aa/\True)/\(∀(v:Value)(m':Mem) (css:List (List Value)) (tvs:List Value),R v m' css tvs->Shape.fits (.tup []) v=true)/\∀(ah:Mem),Mem.le (Mem.off m' Y) ah->(NewM m' ah λb
 => Y b\/m'.free b)->R (tuple (.mk [])) ah [] []->chk (ZbQ ac) (∃ak,inI ak [int i64 0] [] [] ah/\∀(ae:Int)(m':Mem)(az:Nat),lE (Int.toNat ae*8) λal=>True->ak [int i64 ae] [] [] m' az->br (decide (ae <
 (↑(slN ac):Int))) (chk (ZbQ ac) (atA (slA ac) λaa o=>Zae ae (slN ac)/\∃a0 a1 a2 am an ao ap aq:Value,m'.reads aa (o+al) [a0,a1,a2,am,an,ao,ap,aq]/\∀(a4:Nat),chk (a0.oneCell'&&(a1.oneCell' &&
 (a2.oneCell'&&(am.oneCell'&&(an.oneCell'&&(ao.oneCell'&&(ap.oneCell'&&(aq.oneCell'&&true)))))))) (∃(Y:Nat->Prop),∃(R:Value->Mem->List (List Value)->List Value->Prop),CXY pG 107 (.mk [agg (.mk [am,an,ao,
 ap,aq])]) m' Y [] [] R/\(∀(t:Tok),t∈[]->∀(b:Nat),Tok.blk t=some b->Y b)/\(∀(ab:Nat),Y ab->(∃(t:Tok),t∈[]/\Tok.blk t=some ab)\/(mL.free ab/\Mem.k mL ab=none)/\((∃(o:Nat),∃(v:Value),m' ab
 o=some v)\/∃(e:List (Value×Value)),Mem.k m' ab=some e)/\b≠ab/\True)/\(∀(v:Value)(m':Mem) (css:List (List Value)) (tvs:List Value),R v m' css tvs->Shape.fits (.tup []) v=true)/\∀(af:Mem),Mem.le
 (Mem.off m' Y) af->(NewM m' af λb=>Y b\/m'.free b)->R (tuple (.mk [])) af [] []->chk (ZbQ ac) (atA (slA ac) λab o=>Zae ae (slN ac)/\(∃(vs:List Value),vs.length=1/\af.reads ab (o+al+1) vs)/\mL.free
 ab/\true=true/\b≠ab/\Zac (some (Box.mk a3 (v::ai::ac::aj) 54 8 false true)::xL)/\nxI az ak [int i64 (i64.wrap (ae+1))] [] [] (Mem.upd af ab (o+al+1) [string (.mk (.mk [115,112,111,105,108,116]))])))))
 (atA bQ λaa o=>Zae n bP/\(∃(vs:List Value),vs.length=1/\m'.reads aa (o+yL+1) vs)/\mL.free aa/\true=true/\b≠aa/\Zac xL/\nxI ar I [int i64 (i64.wrap (n+1))] [] [] (Mem.upd m' aa (o+yL +
 1) [string (.mk (.mk [115,112,111,105,108,116]))]))))) (R (tuple (.mk [])) m' [] [])):CXY Tryz.prog 72 #[.agg #[.int .u8 aA,.bool aD,.bool aF,.int .u8 aE,.int .u64 bA,.int .u64 bB,.int .u64 bC,.int .u64 di,.int .i64 dj,.int .i64 dk,.slice bY bZ cu,.string cK,.int .i64 cL,.slice bQ bP cv,.string cM,.int .i64 cN]] m Y [] [] R:=
 Zdd (E:=ZeC) Zap mix Tryz.func72 [.v (.agg #[.int .u8 aA,.bool aD,.bool aF,.int .u8 aE,.int .u64 bA,.int .u64 bB,.int .u64 bC,.int .u64 di,.int .i64 dj,.int .i64 dk,.slice bY bZ cu,.string cK,.int .i64 cL,.slice bQ bP cv,.string cM,.int .i64 cN])] [] [] [] (by decide) (by kernel_rfl) (Eq.mp (by kernel_rfl) h)
def ZhQ:Env:={ EB with
 loops:=swI nLa [(2,⟨[(8,.int .i64)],[],[],false⟩),(7,⟨[(20,.int .i64)],[],[],false⟩),(10,⟨[(30,.int .i64)],[],[],false⟩)]
 frzNew:=[1]
 thaw:=true
 stAt:=swI none [(15,some 999),(51,some 999),(57,some 999)]
 lentC:=swI none [(42,some [])] }
theorem Zf1(aA:Int)(aY:Option Addr)(aT bF:Nat)(aO:Option Addr)(aI aW:Nat)(m:Mem)(Y:Nat->Prop)(R:RTY)(h:
 lM (Mem.off m Y) λmL=>lV [int i64 aA,slice aY aT bF,slice aO aI aW] λxL=>fzM m xL λb m'=>lE [some (Box.mk b xL 32 3 true true)] λxL=>m.free b->(∀(b' o:Nat)(u:Value),m' b' o=some
 u->m b' o=some u\/b'=b)->∃I,inI I [int i64 0] [] [] m'/\∀n (m':Mem) (ai:Nat),True->I [int i64 n] [] [] m' ai->br (decide (n < (↑aT:Int))) (atA aY λab o=>lE (o+Int.toNat n*4+0) λyL=>Zae
 n aT/\(∃(vs:List Value),vs.length=1/\m'.reads ab yL vs)/\mL.free ab/\true=true/\b≠ab/\Zac xL/\nxI ai I [int i64 (i64.wrap (n+1))] [] [] (Mem.upd m' ab yL [string (.mk (.mk [115,112,111,105,108,
 116]))])) (∃I,inI I [int i64 0] [] [] m'/\∀(n:Int)(m':Mem)(aj:Nat),lE (Int.toNat n*2) λyL=>True->I [int i64 n] [] [] m' aj->br (decide (n < (↑aI:Int))) (atA aO λab o=>Zae n aI/\∃(v:
 Value),m' ab (o+yL+1)=some v/\chk (ZbQ v) (∃ag,inI ag [int i64 0] [] [] m'/\∀(ac:Int)(m':Mem)(ak:Nat),lE (Int.toNat ac*16) λah=>True->ag [int i64 ac] [] [] m' ak->br (decide (ac < (↑(slN v):Int)))
 (atA aO λad o=>Zae n aI/\∃(v:Value),m' ad (o+yL+1)=some v/\chk (ZbQ v) (atA (slA v) λam o=>Zae ac (slN v)/\∃v an ao ap aq ar au av aw ax ay az a0 a1 a2 a3:Value,lV [v,an,ao,ap,aq,ar,
 au,av,aw,ax,ay,az,a0,a1,a2,a3] λal=>m'.reads am (o+ah) al/\∃(Y:Nat->Prop),∃(R:Value->Mem->List (List Value)->List Value->Prop),CXY pG 72 (.mk [agg (.mk al)]) m' Y [] [] R/\(∀(t:Tok),t∈[]->∀(b
 : Nat),Tok.blk t=some b->Y b)/\(∀(aa:Nat),Y aa->(∃(t:Tok),t∈[]/\Tok.blk t=some aa)\/(mL.free aa/\Mem.k mL aa=none)/\((∃(o:Nat),∃(v:Value),m' aa o=some v)\/∃(e:List (Value×Value)),Mem.k m'
 aa=some e)/\b≠aa/\True)/\(∀(v:Value)(m':Mem) (css:List (List Value)) (tvs:List Value),R v m' css tvs->Shape.fits (.tup []) v=true)/\∀(ae:Mem),Mem.le (Mem.off m' Y) ae->(NewM m' ae λb=>Y b\/m'.free
 b)->R (tuple (.mk [])) ae [] []->atA aO λaa o=>Zae n aI/\∃(v:Value),ae aa (o+yL+1)=some v/\chk (ZbQ v) (atA (slA v) λaf o=>Zae ac (slN v)/\(∃(vs:List Value),vs.length=16/\ae.reads af
 (o+ah) vs)/\mL.free af/\true=true/\b≠af/\Zac xL/\nxI ak ag [int i64 (i64.wrap (ac+1))] [] [] (Mem.upd ae af (o+ah) [int u8 99,bool false,bool false,int u8 0,int u64 0,int u64 0,int u64 0,int u64 0,int i64
 0,int i64 0,slice none 0 0,string bE0,int i64 0,slice none 0 0,string bE0,int i64 0])))) (atA aO λad o=>Zae n aI/\(∃(vs:List Value),vs.length=1/\m'.reads ad (o+yL+0) vs)/\mL.free ad/\true=true
 /\ b≠ad/\Zac xL/\nxI aj I [int i64 (i64.wrap (n+1))] [] [] (Mem.upd m' ad (o+yL+0) [string (.mk (.mk [115,112,111,105,108,116]))])))) (R (tuple (.mk [])) m' [] []))):CXY Tryz.prog 23 #[.agg #[.int .i64 aA,.slice aY aT bF,.slice aO aI aW]] m Y [] [] R:=
 Zdd (E:=ZhQ) Zap mix Tryz.func23 [.v (.agg #[.int .i64 aA,.slice aY aT bF,.slice aO aI aW])] [] [] [] (by decide) (by kernel_rfl) (Eq.mp (by kernel_rfl) h)
def ZpQ:Env:={ EB with
 exv:=swI false [(1,true)] }
theorem Zoe  (m:Mem)(R:RT)(h:
 ∃(v:Value),Zqi pG 148 [int u64 9221120237041090561] v/\rtM m m R v):CX Tryz.prog 149 #[] m [] R:=
 Zad (E:=ZpQ) Zap mix Tryz.func149 (by kernel_rfl) (Eq.mp (by kernel_rfl) h)
def Zof:Env:=EB
theorem Zly(p0:Value)(m:Mem)(R:RT)(h:
 ∀(b:Nat),lV (Array.toList (Value.cells p0)) λxL=>lV (List.append xL (List.drop (1+xL.length) [int u8 8,Value.float .f64 0,string bE0,int i64 0,slice none 0 0])) λxL_1=>chk (Nat.beq (xL.length) 1&&true) (chk
 (Nat.beq (xL_1.length) (nat_lit 4)&&ZeI xL_1) (rtM m m R (agg (.mk (ZaH [int u8 8,Value.float .f64 0,string bE0,int i64 0,slice none 0 0] 1 xL)))))):CX Tryz.prog 150 #[p0] m [] R:=
 Zad (E:=Zof) Zap mix Tryz.func150 (by kernel_rfl) (Eq.mp (by kernel_rfl) h)
def Zlz:Env:=EB
theorem Zju(p0:ByteArray)(m:Mem)(R:RT)(h:
 ∀(b:Nat),rtM m m R (agg (.mk [int u8 9,Value.float .f64 0,string p0,int i64 0,slice none 0 0]))):CX Tryz.prog 151 #[.string p0] m [] R:=
 Zad (E:=Zlz) Zap mix Tryz.func151 (by kernel_rfl) (Eq.mp (by kernel_rfl) h)
def Zjv:Env:=EB
theorem ZhR  (m:Mem)(R:RT)(h:
 ∀b,m.free b->rtM m (m.add b [string (.mk (.mk [120])),string (.mk (.mk [121])),string (.mk (.mk [122,95,49])),string (.mk (.mk [97,98,99,100,101,102,103,104,105,106,107,108,109,110,111,112]))]) R (slice
 (some (Addr.mk b 0 none)) 4 4)):CX Tryz.prog 152 #[] m [] R:=
 Zad (E:=Zjv) Zap mix Tryz.func152 (by kernel_rfl) (Eq.mp (by kernel_rfl) h)
def Zog:Env:={ EB with
 frzNew:=[1] }
theorem ZlA(aA:Int)(aD:Value)(aF:ByteArray)(aE:Int)(aN:Option Addr)(aM aQ:Nat)(m:Mem)(R:RT)(h:
 lV [int u8 aA,aD,string aF,int i64 aE,slice aN aM aQ] λxL=>fzM m xL λb m'=>∀(b:Nat) b,m'.free b->rtM m (m'.add b xL) R (agg (.mk [int u8 1,Value.float .f64 0,string bE0,int i64 0,slice (some
 (Addr.mk b 0 none)) 1 1]))):CX Tryz.prog 153 #[.agg #[.int .u8 aA,aD,.string aF,.int .i64 aE,.slice aN aM aQ]] m [] R:=
 Zad (E:=Zog) Zap mix Tryz.func153 (by kernel_rfl) (Eq.mp (by kernel_rfl) h)
def ZpR:Env:={ EB with
 frzNew:=[4,5] }
theorem Zoh(p0 bM:Int)(cA:Value)(cD:ByteArray)(cF:Int)(dg:Option Addr)(cZ dm:Nat)(jB:Int)(jC:Value)(jD:ByteArray)(jE:Int)(lD:Option Addr)(lF lG:Nat)(m:Mem)(R:RT)(h:
 lV [int u8 jB,jC,string jD,int i64 jE,slice lD lF lG] λxL=>fzM m [int u8 bM,cA,string cD,int i64 cF,slice dg cZ dm] λb m'=>fzM m' xL λb m'=>∀(b:Nat) b,m'.free b->rtM m
 (m'.add b (int u8 bM::cA::string cD::int i64 cF::slice dg cZ dm::xL)) R (agg (.mk [int u8 p0,Value.float .f64 0,string bE0,int i64 0,slice (some (Addr.mk b 0 none)) 2 2]))):CX Tryz.prog 154 #[.int .u8 p0,.agg #[.int .u8 bM,cA,.string cD,.int .i64 cF,.slice dg cZ dm],.agg #[.int .u8 jB,jC,.string jD,.int .i64 jE,.slice lD lF lG]] m [] R:=
 Zad (E:=ZpR) Zap mix Tryz.func154 (by kernel_rfl) (Eq.mp (by kernel_rfl) h)
def ZlB:Env:={ EB with
 loops:=swI nLa [(3,⟨[(3,.slice),(18,.int .i64)],[],[(49,5)],false⟩),(28,⟨[(137,.int .i64)],[9],[],false⟩)]
 joins:=swI none [(18,some [(74,.bool)]),(21,some [(98,.bool)])]
 dr:=swI [] [(15,[dO 0 [],dO 1 [],⟨2,[5],[],none,[],[]⟩,⟨3,[5],[],none,[2],[]⟩,dO 4 [2,3],dO 5 [1,2,3,4],⟨6,[],[],none,[1,2,3,4,5],[1]⟩,⟨7,[],[],none,[1,2,3,4,5,6],[1]⟩,⟨8,[61],[61],none,[1,2,3,4,5,6,7],[7]⟩,⟨9,[61],[],some 49,[0,1,2,3,4,5,6,7,8],[8]⟩,dO 10 [0,1,2,3,4,5,6,7,8,9]]),(22,[dO 0 [],dO 1 [],dO 2 [1],dO 3 [],dO 4 [3],dO 5 [0,1,2,3,4],dO 6 [],dO 7 [6],dO 8 [],dO 9 [],dO 10 [9],dO 11 [8,9,10],dO 12 [8,9,10,11],dO 13 [],dO 14 [],dO 15 [14],dO 16 [13,14,15],dO 17 [13,14,15,16],dO 18 (rg 6 12),⟨19,[124],[124],none,rg 6 13,[18]⟩,⟨20,[124],[],some 49,rg 0 20,[19]⟩,dO 21 (rg 0 21)])]
 tokOf:=swI 0 [(49,49),(62,49),(73,49),(125,49)]
 exv:=swI false [(40,true)]
 thaw:=true
 stAt:=swI none [(97,some 49)]
 cuts:=swI none [(11,some ⟨[(8,.any)],[],[],false⟩),(13,some ⟨[(8,.any)],[],[],false⟩)]
 ldF:=swI none [(25,some (.int .u8)),(31,some (.int .u8)),(56,some (.int .u8)),(68,some (.int .u8)),(36,some (.int .u64)),(39,some (.int .u64)),(59,some (.str)),(86,some (.int .u8))] }
theorem Zjw(p0a:Option Addr)(p0n p0c:Nat)(m:Mem)(R:RT)(h:
 ∀b,lE (if(60:Int) < (↑p0n:Int)then(60:Int)else(↑p0n:Int)) λyL=>lE [some (Box.mk b [int u8 0,Value.float .f64 0,string bE0,int i64 0,slice none 0 0] 52 5 false true)] λxL=>((0:Int)<=yL/\yL<=(↑p0c:
 Int))/\∃I,inI I [slice none 0 0,int i64 0] [] [slice none 0 0] m/\∀(a:Option Addr)(n:Nat) c (a3:Int) bj ba bd (m':Mem) (ak:Nat),lE (↑n:Int) λav=>lE (i64.wrap (av - (2:Int))) λaw=>lE (Int.toNat aw)
 λax=>lE (ax - 0) λa4=>lX (slice (Za5 a 0 ax 5) a4 a4) λbe=>lX (slice bj ba bd) λay=>lE (Tok.mk ay 5) λa5=>lE (a4+1) λaz=>lE (i64.wrap (av - (1:Int))) λa6=>lE (Int.toNat a6*5) λa7=>
 lX (slice a n c) λag=>lE (n+1) λab=>lV [int i64 (i64.wrap (a3+1))] λar=>lE [some a5] λac=>True->I [ag,int i64 a3] [] [ay] m' ak->br (decide (a3 < (↑(Int.toNat yL - 0):Int))) (atA (Za5 p0a 0 p0c 3)
 λb o=>Zae a3 (Int.toNat yL - 0)/\∃v ai al:Value,lV [v,ai,al] λa8=>m'.reads b (o+Int.toNat a3*3) a8/\∀b,lE (some (Box.mk b a8 217 3 false true)::xL) λam=>chk (v.oneCell'&&(ai.oneCell' &&
 (al.oneCell'&&true))) (∃(ah:Int),lE (Int.tmod ah (12:Int)) λyL=>lX (int u8 (u8.wrap (yL - (4:Int)))) λbk=>v=int u8 ah/\(12:Int)≠0/\br (decide (yL < 2)) (∃ad,ai=int u8 ad/\∃(u:Value),ConvIs pG
 218 49 (int IntKind.i8 (IntKind.wrap IntKind.i8 ad)) u/\∃(v:Value),BinIs pG BinOp.quo 49 u (Value.float .f64 4616189618054758400) v/\∃(J:JT),(∃n,al=int u64 n/\br (!n == 0) (∃n,al=int u64 n/\∃(v:Value),Zqi
 pG 148 [int u64 n] v/\Zac am/\ac=ac/\J [v] [] [] m') (Zac am/\ac=ac/\J [v] [] [] m'))/\∀(v:Value)(m':Mem),True->J [v] [] [] m'->∃(J:JT),(∃(b:Bool),BinIs pG BinOp.neq 49 v v (bool b)/\br b (∃R,
 True/\CX pG 149 (.mk []) m' [] R/\(∀(v:Value)(m':Mem) (css:List (List Value)),R v m' css->true=true)/\∀(v:Value) aa,m'.le aa->R v aa []->Zac am/\ac=ac/\J [v] [] [] aa) (Zac am/\ac=ac/\J [v] [] []
 m'))/\∀(v:Value)(m':Mem),True->J [v] [] [] m'->∃R,True/\CX pG 150 (.mk [v]) m' [] R/\Zbp (.agg [.int u8,.any,.str,.int i64,.slice]) R/\∀af (v:Value) s au bl a9 bb aa,lV [int u8 af,v,string s,int i64 au,
 slice bl a9 bb] λae=>m'.le aa->R (agg (.mk ae)) aa []->∀b,lM (aa.add b ae) λmL=>aa.free b->(a5=Tok.mk ag 5\/ag=slice none 0 0\/c < ab)/\∃(xs:List Value),∃(ys:List Value),xs.length=n*5/\ys.length
 = 1*5/\rowRd mL a xs/\rowRd mL (some (Addr.mk b 0 none)) ys/\(∀(u:Value),u∈ys->u.oneCell'=true)/\ab*64<=140737488355328/\ab<=9223372036854775807/\∀(a':Option Addr)(c':Nat) m',mL.le m'->rowRd m' a'
 (List.append xs ys)->TokFact mL a a' ab c'->Zac xL/\nxI ak I (slice a' ab c'::ar) [] [slice a' ab c'] m') (br (decide (yL < 4)) (∃(f:Fx),∃R,R=f 1 [] m'/\CX pG 152 (.mk []) m' [] R/\Zbp .slice R/\∀a0 ad bb aa,
 m'.le aa->R (slice a0 ad bb) aa []->∃af,ai=int u8 af/\(4:Int)≠0/\atA a0 λb o=>Zae (Int.tmod af (4:Int)) ad/\∃(v:Value),aa b (o+Int.toNat (Int.tmod af (4:Int))*1)=some v/\∃s,v=string s/\∃
 R,R=f 7 [string s] aa/\CX pG 151 (.mk [string s]) aa [] R/\Zbp (.agg [.int u8,.any,.str,.int i64,.slice]) R/\∀au (v:Value) s a9 bm bn bo aj,lV [int u8 au,v,string s,int i64 a9,slice bm bn bo] λae=>aa.le aj
 -> R (agg (.mk ae)) aj []->∀b,lM (aj.add b ae) λmL=>aj.free b->(a5=Tok.mk ag 5\/ag=slice none 0 0\/c < ab)/\∃(xs:List Value),∃(ys:List Value),xs.length=n*5/\ys.length=1*5/\rowRd mL a xs/\rowRd mL
 (some (Addr.mk b 0 none)) ys/\(∀(u:Value),u∈ys->u.oneCell'=true)/\ab*64<=140737488355328/\ab<=9223372036854775807/\∀(a':Option Addr)(c':Nat) bc,mL.le bc->rowRd bc a' (List.append xs ys)->TokFact mL a a'
 ab c'->∀M,m'.le M->aa.le M->aj.le M->mL.le M->bc.le M->Zac xL/\nxI ak I (slice a' ab c'::ar) [] [slice a' ab c'] M) (br (yL == 4) (∃(ad:Int),lV [int u8 10,Value.float .f64 0,string bE0,int i64 (i64.wrap
 (Int.tmod ad (10:Int))),slice none 0 0] λae=>ai=int u8 ad/\(10:Int)≠0/\∀b,lM (m'.add b ae) λmL=>m'.free b->(a5=Tok.mk ag 5\/ag=slice none 0 0\/c < ab)/\∃(xs:List Value),∃(ys:List Value),
 xs.length=n*5/\ys.length=1*5/\rowRd mL a xs/\rowRd mL (some (Addr.mk b 0 none)) ys/\(∀(u:Value),u∈ys->u.oneCell'=true)/\ab*64<=140737488355328/\ab<=9223372036854775807/\∀(a':Option Addr)(c':Nat)
 m',mL.le m'->rowRd m' a' (List.append xs ys)->TokFact mL a a' ab c'->Zac xL/\nxI ak I (slice a' ab c'::ar) [] [slice a' ab c'] m') (∃(b:Bool),br (yL == 5) (Zac am/\ac=ac/\[bool (decide (av > 0))]=[bool b])
 (Zac am/\ac=ac/\[bool false]=[bool b])/\br b (atA a λb o=>Zae a6 n/\∃(v:Value),m' b (o+a7+0)=some v/\∃ad,v=int u8 ad/\br (!ad == 8) (atA a λb o=>Zae a6 n/\∃v an ao ap aq:Value,
 m'.reads b (o+a7) [v,an,ao,ap,aq]/\∃R,True/\CX pG 153 (.mk [agg (.mk [v,an,ao,ap,aq])]) m' [] R/\Zbp (.agg [.int u8,.any,.str,.int i64,.slice]) R/\∀af (v:Value) s au a0 a9 c aa,lV [int u8 af,v,string s,
 int i64 au,slice a0 a9 c] λae=>m'.le aa->R (agg (.mk ae)) aa []->atA a λb o=>Zae a6 n/\chk (v.oneCell'&&true) (ay=slice (some (Addr.mk b 0 none)) ba bd/\o+a7+5<=ba*5/\Zac xL/\nxI ak I (ag::ar)
 [] [ay] (Mem.upd aa b (o+a7) ae))) (Zac xL/\nxI ak I (ag::ar) [] [ay] m')) (∃(b:Bool),br (decide (yL > 5)) (Zac am/\ac=ac/\[bool (decide (av > 1))]=[bool b]) (Zac am/\ac=ac/\[bool false]=[bool b])/\
 br b (∃(f:Fx),((0:Int)<=aw/\aw<=(↑c:Int))/\((0:Int)<=aw/\aw<=(↑ax:Int))/\atA a λb o=>Zae aw n/\∃v an ao ap aq:Value,lV [v,an,ao,ap,aq] λae=>m'.reads b (o+ax*5) ae/\atA a λb o=>
 Zae a6 n/\∃v a1 a2 bf bg:Value,lV [bk,agg (.mk ae),agg (.mk [v,a1,a2,bf,bg])] λbh=>m'.reads b (o+a7) [v,a1,a2,bf,bg]/\∃R,R=f 18 bh m'/\CX pG 154 (.mk bh) m' [] R/\Zbp (.agg [.int u8,.any,.str,
 .int i64,.slice]) R/\∀n (v:Value) s ad a0 af c aa,lV [int u8 n,v,string s,int i64 ad,slice a0 af c] λbi=>m'.le aa->R (agg (.mk bi)) aa []->∀b,lM (aa.add b bi) λmL=>aa.free b->(a5=Tok.mk be 5\/be=slice
 none 0 0\/a4 < az)/\∃(xs:List Value),∃(ys:List Value),xs.length=a4*5/\ys.length=1*5/\rowRd mL (Za5 a 0 ax 5) xs/\rowRd mL (some (Addr.mk b 0 none)) ys/\(∀(u:Value),u∈ys->u.oneCell'=true)/\az*64
 <= 140737488355328/\az<=9223372036854775807/\∀(a':Option Addr)(c':Nat) aj,mL.le aj->rowRd aj a' (List.append xs ys)->TokFact mL (Za5 a 0 ax 5) a' az c'->∀M,m'.le M->aa.le M->mL.le M->aj.le M->Zac xL/\nxI
 ak I (slice a' az c'::ar) [] [slice a' az c'] M) (Zac xL/\nxI ak I (ag::ar) [] [ay] m'))))))) (br (av == 0) (∃R_1,True/\CX pG 150 (.mk [Value.float .f64 4607182418800017408]) m' [] R_1/\Zbp (.agg [.int u8,.any,.str,
 .int i64,.slice]) R_1/\∀n (v:Value) s ah a ad c aa,lX (agg (.mk [int u8 n,v,string s,int i64 ah,slice a ad c])) λyL=>m'.le aa->R_1 yL aa []->chk (v.oneCell'&&true) (rtM m aa R yL)) (atA a λb o=>Zae (0:
 Int) n/\∃v ai al an ao:Value,m'.reads b (o+0) [v,ai,al,an,ao]/\∀b,chk (v.oneCell'&&(ai.oneCell'&&(al.oneCell'&&(an.oneCell'&&(ao.oneCell'&&true))))) (((0:Int)<=1/\(1:Int)<=av)/\∃I,inI I [int i64
 0] [[v,ai,al,an,ao]] [] m'/\∀ah (cs:List Value) (m':Mem) (ad:Nat),True->I [int i64 ah] [cs] [] m' ad->br (decide (ah < (↑(n - Int.toNat (1:Int)):Int))) (atA (Za5 a (Int.toNat (1:Int)) c 5) λbp o=>
 Zae ah (n - Int.toNat (1:Int))/\∃v ap aq a1 a2:Value,m'.reads bp (o+Int.toNat ah*5) [v,ap,aq,a1,a2]/\∀(bq:Nat),chk (v.oneCell'&&(ap.oneCell'&&(aq.oneCell'&&(a1.oneCell'&&(a2.oneCell'&&true))))) (∃
 R,True/\CX pG 154 (.mk [int u8 2,agg (.mk cs),agg (.mk [v,ap,aq,a1,a2])]) m' [] R/\Zbp (.agg [.int u8,.any,.str,.int i64,.slice]) R/\∀n (v:Value) s af a au c aa,lV [int u8 n,v,string s,int i64 af,slice a au
 c] λa8=>m'.le aa->R (agg (.mk a8)) aa []->chk (v.oneCell'&&true) (Zac (some (Box.mk b [] 52 5 false true)::xL)/\ac=ac/\nxI ad I [int i64 (i64.wrap (ah+1))] [a8] [] aa))) (chk (Nat.beq (cs.length) 5&&ZeI cs)
 (rtM m m' R (agg (.mk cs)))))))):CX Tryz.prog 128 #[.slice p0a p0n p0c] m [] R:=
 Zad (E:=ZlB) Zap mix Tryz.func128 (by kernel_rfl) (Eq.mp (by kernel_rfl) h)
def Zjx:Env:={ EB with
 frzNew:=[1] }
theorem ZhS(aA aD aF aE bA bB bC:Int)(aX:Option Addr)(aU bK:Nat)(m:Mem)(R:RT)(h:
 lV [int u8 aA,int u64 aD,int u64 aF,int u64 aE,int u64 bA,int i64 bB,int i64 bC,slice aX aU bK] λxL=>fzM m xL λb m'=>∀(b:Nat) b,m'.free b->rtM m (m'.add b xL) R (agg (.mk [int u8 6,int
 u64 0,int u64 0,int u64 0,int u64 0,int i64 0,int i64 0,slice (some (Addr.mk b 0 none)) 1 1]))):CX Tryz.prog 125 #[.agg #[.int .u8 aA,.int .u64 aD,.int .u64 aF,.int .u64 aE,.int .u64 bA,.int .i64 bB,.int .i64 bC,.slice aX aU bK]] m [] R:=
 Zad (E:=Zjx) Zap mix Tryz.func125 (by kernel_rfl) (Eq.mp (by kernel_rfl) h)
def Zoi:Env:={ EB with
 frzNew:=[3] }
theorem ZlC(aA aD aF aE bA bB bC:Int)(aX:Option Addr)(aU bK:Nat)(p1 p2:Int)(m:Mem)(R:RT)(h:
 lV [int u8 aA,int u64 aD,int u64 aF,int u64 aE,int u64 bA,int i64 bB,int i64 bC,slice aX aU bK] λxL=>fzM m xL λb m'=>∀(b:Nat) b,m'.free b->rtM m (m'.add b xL) R (agg (.mk [int u8 5,int
 u64 0,int u64 0,int u64 0,int u64 0,int i64 p1,int i64 p2,slice (some (Addr.mk b 0 none)) 1 1]))):CX Tryz.prog 126 #[.agg #[.int .u8 aA,.int .u64 aD,.int .u64 aF,.int .u64 aE,.int .u64 bA,.int .i64 bB,.int .i64 bC,.slice aX aU bK],.int .i64 p1,.int .i64 p2] m [] R:=
 Zad (E:=Zoi) Zap mix Tryz.func126 (by kernel_rfl) (Eq.mp (by kernel_rfl) h)
def ZgW:Env:=EB
theorem Zf2(p0:Int)(m:Mem)(R:RT)(h:
 ∀b,m.free b->(12:Int)≠0/\Zae (Int.tmod p0 (12:Int)) 12/\Eng.Ztz [string (.mk (.mk [97])),string (.mk (.mk [98])),string (.mk (.mk [97,98])),string (.mk (.mk [97])),string (.mk (.mk [98])),string (.mk (.mk
 [99])),string (.mk (.mk [97,98,99])),string (.mk (.mk [98,99])),string (.mk (.mk [10])),string (.mk (.mk [0,255])),string (.mk (.mk [97])),string (.mk (.mk [98]))] (Int.toNat (Int.tmod p0 (12:Int))*1) λv=>rtM m
 (m.add b [string (.mk (.mk [97])),string (.mk (.mk [98])),string (.mk (.mk [97,98])),string (.mk (.mk [97])),string (.mk (.mk [98])),string (.mk (.mk [99])),string (.mk (.mk [97,98,99])),string (.mk (.mk [98,99])),
 string (.mk (.mk [10])),string (.mk (.mk [0,255])),string (.mk (.mk [97])),string (.mk (.mk [98]))]) R v):CX Tryz.prog 123 #[.int .u8 p0] m [] R:=
 Zad (E:=ZgW) Zap mix Tryz.func123 (by kernel_rfl) (Eq.mp (by kernel_rfl) h)
def Zjy:Env:={ EB with
 loops:=swI nLa [(3,⟨[(7,.int .i64)],[3],[],false⟩)]
 dr:=swI [] [(5,[dO 0 [],dO 1 [],dO 2 [0,1],dO 3 [0,1,2],⟨4,[3],[],none,[0,1,2,3],[]⟩,⟨5,[3],[],none,[0,1,2,3,4],[]⟩,dO 6 [],dO 7 [],dO 8 [6,7],dO 9 [6,7,8],dO 10 [6,7,8,9],dO 11 [0,1,2,3,4,5,6,7,8,9,10],⟨12,[3],[],none,rg 0 12,[]⟩,⟨13,[3],[3],none,rg 0 13,[]⟩])] }
theorem ZhT(p0:ByteArray)(m:Mem)(R:RT)(h:
 ∀b b_1,∃I,inI I [int i64 0] [[int u64 0,int u64 0,int u64 0,int u64 0]] [] m/\∀(n:Int)(cs:List Value) m' (n_1:Nat),lE (Zwl p0 (Int.toNat n)) λyL=>lE (u8.wrap (Int.tdiv yL (64:Int))) λyL_1=>lE (0 +
 Int.toNat yL_1*1) λyL_2=>lV (List.append cs (List.drop (1+cs.length) [int u8 2,int u64 0,int u64 0,int u64 0,int u64 0,int i64 0,int i64 0,slice none 0 0])) λxL=>m.le m'->I [int i64 n] [cs] [] m' n_1->br
 (decide (n < (↑(ByteArray.size p0):Int))) (Zae n (ByteArray.size p0)/\(64:Int)≠0/\Zae yL_1 4/\Eng.Ztz cs yL_2 λv=>Zae n (ByteArray.size p0)/\(64:Int)≠0/\(0:Int)<=Int.tmod yL (64:Int)/\chk
 (Zbb u64 v&&decide (u64=u64)) (Zae yL_1 4/\chk (Nat.ble (yL_2+1) (cs.length)) (Zac [some (Box.mk b_1 [] 39 4 false true),some (Box.mk b [int u8 0,int u64 0,int u64 0,int u64 0,int u64 0,int i64 0,int i64 0,
 slice none 0 0] 42 8 false true)]/\nxI n_1 I [int i64 (i64.wrap (n+1))] [ZaH cs yL_2 [int u64 (u64.wrap (↑(BitVec.toNat (BitVec.ofInt 64 (RowKit.intOf v)|||BitVec.ofInt 64 (u64.wrap ((1:Int)*(2:Int) ^ min (Int.toNat
 (Int.tmod yL (64:Int))) 64)))):Int))]] [] m'))) (chk (Nat.beq (cs.length) 4&&true) (chk (Nat.beq (xL.length) (nat_lit 7)&&ZeI xL) (rtM m m' R (agg (.mk (ZaH [int u8 2,int u64 0,int u64 0,int u64 0,int u64 0,int
 i64 0,int i64 0,slice none 0 0] 1 cs))))))):CX Tryz.prog 122 #[.string p0] m [] R:=
 Zad (E:=Zjy) Zap mix Tryz.func122 (by kernel_rfl) (Eq.mp (by kernel_rfl) h)
def Zjz:Env:={ EB with
 loops:=swI nLa [(3,⟨[(7,.slice),(14,.int .i64)],[],[(30,8)],false⟩)]
 joins:=swI none [(8,some [(31,.bool)])]
 tokOf:=swI 0 [(21,30),(30,30)]
 frzNew:=[4,5] }
theorem ZhU(p0 bM cA cD cF dK dM dN:Int)(du:Option Addr)(dv dw:Nat)(jB jC jD jE oX oY oZ:Int)(lH:Option Addr)(lI lJ:Nat)(m:Mem)(R:RT)(h:
 lV [int u8 bM,int u64 cA,int u64 cD,int u64 cF,int u64 dK,int i64 dM,int i64 dN,slice du dv dw] λxL=>lV [int u8 jB,int u64 jC,int u64 jD,int u64 jE,int u64 oX,int i64 oY,int i64
 oZ,slice lH lI lJ] λaj=>lV (int u8 bM::int u64 cA::int u64 cD::int u64 cF::int u64 dK::int i64 dM::int i64 dN::slice du dv dw::aj) λaf=>fzM m xL λb m'=>lE [some
 (Box.mk b xL 42 8 true true)] λxL=>fzM m' aj λb m'=>∀aw ag,lE (some (Box.mk ag af 42 16 true true)::some (Box.mk aw [int u8 0,int u64 0,int u64 0,int u64 0,int u64 0,int i64 0,int i64 0,slice none 0 0] 42 8
 false true)::some (Box.mk b aj 42 8 true true)::xL) λxL=>m'.free ag->∃I,inI I [slice none 0 0,int i64 0] [] [slice none 0 0] (m'.add ag af)/\∀a (n:Nat) c (ad:Int) ax ay az (aa:Mem) (ah:Nat),lX (slice ax ay
 az) λyL=>lE (Tok.mk yL 8) λak=>lE [some ak] λai=>lE (n+1) λae=>lV [int i64 (i64.wrap (ad+1))] λal=>lX (slice a n c) λac=>lV (List.take 8 (List.drop (Int.toNat ad*8) af)) λab=>Mem.le (m'.add
 ag af) aa->I [ac,int i64 ad] [] [yL] aa ah->br (decide (ad < (↑(2:Nat):Int))) (Zae ad 2/\chk (Nat.ble (Int.toNat ad*8) (1+1+1+1+1+1+1+1)) (∀b,lE (some (Box.mk b ab 42 8 false true)::xL) λam=>
 chk (Nat.beq (ab.length) 8&&ZeI ab) (Eng.Ztz ab 0 λv=>chk (Zbb u8 v&&decide (u8=u8)) (br (RowKit.intOf v == p0) (Eng.Ztz ab 7 λv=>lE (n+slN v) λyL=>chk (ZbQ v&&true) ((ak=Tok.mk ac 8\/ac=slice
 none 0 0\/c < yL)/\∃(xs:List Value),∃(ys:List Value),xs.length=n*8/\ys.length=slN v*8/\rowRd aa a xs/\rowRd aa (slA v) ys/\(∀(u:Value),u∈ys->u.oneCell'=true)/\yL*80<=140737488355328/\yL <=
 9223372036854775807/\∀(a':Option Addr) c' m',aa.le m'->rowRd m' a' (List.append xs ys)->Zac xL/\nxI ah I (slice a' yL c'::al) [] [slice a' yL c'] m')) (∃(b:Bool),br (p0 == 3) (Eng.Ztz ab 0 λv=>chk (Zbb u8
 v&&decide (u8=u8)) (Zac am/\ai=ai/\[bool (RowKit.intOf v == 1)]=[bool b])) (Zac am/\ai=ai/\[bool false]=[bool b])/\br b (Zac xL/\nxI ah I (ac::al) [] [yL] aa) (chk (Nat.beq (ab.length) 8&&true) (∀b,
 lM (aa.add b (List.append ab [])) λmL=>aa.free b->(ak=Tok.mk ac 8\/ac=slice none 0 0\/c < ae)/\∃(xs:List Value),∃(ys:List Value),xs.length=n*8/\ys.length=1*8/\rowRd mL a xs/\rowRd mL (some (Addr.mk
 b 0 none)) ys/\(∀(u:Value),u∈ys->u.oneCell'=true)/\ae*80<=140737488355328/\ae<=9223372036854775807/\∀(a':Option Addr) c' m',mL.le m'->rowRd m' a' (List.append xs ys)->Zac xL/\nxI ah I (slice a' ae c' ::
 al) [] [slice a' ae c'] m'))))))) (br ((↑n:Int) == 0) (rtM m aa R (agg (.mk [int u8 1,int u64 0,int u64 0,int u64 0,int u64 0,int i64 0,int i64 0,slice none 0 0]))) (br ((↑n:Int) == 1) (atA a λb o=>Zae (0:
 Int) n/\∃v an ao ap aq ar au av:Value,lV [v,an,ao,ap,aq,ar,au,av] λxL=>aa.reads b (o+0) xL/\chk (v.oneCell'&&(an.oneCell'&&(ao.oneCell'&&(ap.oneCell'&&(aq.oneCell'&&(ar.oneCell'&&(au.oneCell' &&
 (av.oneCell'&&true)))))))) (rtM m aa R (agg (.mk xL)))) (rtM m aa R (agg (.mk [int u8 p0,int u64 0,int u64 0,int u64 0,int u64 0,int i64 0,int i64 0,ac])))))):CX Tryz.prog 124 #[.int .u8 p0,.agg #[.int .u8 bM,.int .u64 cA,.int .u64 cD,.int .u64 cF,.int .u64 dK,.int .i64 dM,.int .i64 dN,.slice du dv dw],.agg #[.int .u8 jB,.int .u64 jC,.int .u64 jD,.int .u64 jE,.int .u64 oX,.int .i64 oY,.int .i64 oZ,.slice lH lI lJ]] m [] R:=
 Zad (E:=Zjz) Zap mix Tryz.func124 (by kernel_rfl) (Eq.mp (by kernel_rfl) h)
def ZlD:Env:={ EB with
 loops:=swI nLa [(4,⟨[(3,.slice),(4,.int .i64),(5,.int .i64),(22,.int .i64)],[],[(40,8)],false⟩),(32,⟨[(195,.int .i64)],[13],[],false⟩)]
 joins:=swI none [(12,some [(48,.bool)]),(14,some [(74,.bool)]),(16,some [(100,.bool)]),(19,some [(123,.bool)]),(21,some [(161,.bool)])]
 dr:=swI [] [(13,[dO 0 [],dO 1 [],dO 2 [1],dO 3 [],dO 4 [3],dO 5 [0,1,2,3,4],dO 6 [],dO 7 [],dO 8 [7],dO 9 [6,7,8],dO 10 [6,7,8,9],dO 11 [],dO 12 [],dO 13 [12],dO 14 [11,12,13],dO 15 [11,12,13,14],dO 16 [6,7,8,9,10,11,12,13,14,15],⟨17,[72],[72],none,[6,7,8,9,10,11,12,13,14,15,16],[16]⟩,⟨18,[72],[],some 40,rg 0 18,[17]⟩,dO 19 (rg 0 19)]),(15,[dO 0 [],dO 1 [],dO 2 [1],dO 3 [],dO 4 [3],dO 5 [0,1,2,3,4],dO 6 [],dO 7 [],dO 8 [7],dO 9 [6,7,8],dO 10 [6,7,8,9],dO 11 [],dO 12 [],dO 13 [12],dO 14 [11,12,13],dO 15 [11,12,13,14],dO 16 [6,7,8,9,10,11,12,13,14,15],⟨17,[98],[98],none,[6,7,8,9,10,11,12,13,14,15,16],[16]⟩,⟨18,[98],[],some 40,rg 0 18,[17]⟩,dO 19 (rg 0 19)]),(20,[⟨0,[7],[],none,[],[]⟩,⟨1,[7],[],none,[0],[]⟩,dO 2 [0,1],dO 3 [0,1,2],⟨4,[7],[],none,[],[]⟩,⟨5,[7],[],none,[4],[]⟩,dO 6 [4,5],dO 7 [4,5,6],dO 8 [0,1,2,3],dO 9 [0,1,2,3,4,5,6,7,8]])]
 tokOf:=swI 0 [(40,40),(47,40),(73,40),(99,40)]
 thaw:=true
 stAt:=swI none [(120,some 40),(183,some 40)] }
theorem ZjA(p0a:Option Addr)(p0n p0c:Nat)(m:Mem)(R:RT)(h:
 ∀b,lE (if(25:Int) < (↑p0n:Int)then(25:Int)else(↑p0n:Int)) λyL=>lE [some (Box.mk b [int u8 0,int u64 0,int u64 0,int u64 0,int u64 0,int i64 0,int i64 0,slice none 0 0] 42 8 false true)] λxL=>((0:
 Int)<=yL/\yL<=(↑p0c:Int))/\∃I,inI I [slice none 0 0,int i64 1,int i64 0,int i64 0] [] [slice none 0 0] m/\∀(a:Option Addr)(n:Nat) c bu bq (bm:Int) cf bb bs (m':Mem) (ay:Nat),lE (↑n:Int) λbc=>lV
 [bool (decide (bc > 1))] λbz=>lV [int i64 (i64.wrap (bm+1))] λca=>lX (slice cf bb bs) λaz=>lE (Tok.mk az 8) λbn=>lE (i64.wrap (bc - (2:Int))) λa0=>lE (Int.toNat a0) λa4=>lX (int i64 bu) λa6=>
 lE (a4 - 0) λbd=>lX (slice (Za5 a 0 a4 8) bd bd) λbt=>lE (bd+1) λam=>lE (n+1) λan=>lX (slice a n c) λa1=>lE (i64.wrap (bc - (1:Int))) λa5=>lE (Int.toNat a5*8) λao=>lV (int i64 bq ::
 ca) λa7=>lE [some bn] λab=>True->I [a1,a6,int i64 bq,int i64 bm] [] [az] m' ay->br (decide (bm < (↑(Int.toNat yL - 0):Int))) (atA (Za5 p0a 0 p0c 3) λb o=>Zae bm (Int.toNat yL - 0)/\∃v a9 be:Value,
 lE (i64.wrap (Int.tmod (RowKit.intOf be) (4:Int))) λyL=>lE (i64.wrap (Int.tmod (RowKit.intOf a9) (3:Int))) λba=>lE (if yL > ba then yL else ba) λcb=>lE (if(-1:Int) > ba then(-1:Int)else ba) λcc=>lE
 (Int.tmod (RowKit.intOf v) (12:Int)) λbg=>lE (i64.wrap (bu*if(1:Int) > cb then(1:Int)else cb)) λcd=>lE (i64.wrap (bu*if(1:Int) > cc then(1:Int)else cc)) λce=>lV [v,a9,be] λbo=>m'.reads b
 (o+Int.toNat bm*3) bo/\∀b,lE (some (Box.mk b bo 195 3 false true)::xL) λae=>chk (v.oneCell'&&(a9.oneCell'&&(be.oneCell'&&true))) (chk (Zbb u8 v&&decide (u8=u8)) ((12:Int)≠0/\br (decide (bg < 4)) (kT
 pG 123 [a9] m' λs m'=>∃R,True/\CX pG 122 (.mk [string s]) m' [] R/\Zbp (shT) R/\∀ac af ag ah ai aj ak a2 a8 cg aa,lV [int u8 ac,int u64 af,int u64 ag,int u64 ah,int u64 ai,int i64 aj,int i64 ak,slice a2 a8 cg]
 λad=>m'.le aa->R (agg (.mk ad)) aa []->∀b,lM (aa.add b ad) λmL=>aa.free b->(bn=Tok.mk a1 8\/a1=slice none 0 0\/c < an)/\∃(xs:List Value),∃(ys:List Value),xs.length=n*8/\ys.length=1*8/\rowRd
 mL a xs/\rowRd mL (some (Addr.mk b 0 none)) ys/\(∀(u:Value),u∈ys->u.oneCell'=true)/\an*80<=140737488355328/\an<=9223372036854775807/\∀(a':Option Addr)(c':Nat) m',mL.le m'->rowRd m' a' (List.append xs ys)
 -> TokFact mL a a' an c'->Zac xL/\nxI ay I (slice a' an c'::a6::a7) [] [slice a' an c'] m') (br (bg == 4) (∀b,lM (m'.add b [int u8 1,int u64 0,int u64 0,int u64 0,int u64 0,int i64 0,int i64 0,slice none 0 0]) fun
 mL=>m'.free b->(bn=Tok.mk a1 8\/a1=slice none 0 0\/c < an)/\∃(xs:List Value),∃(ys:List Value),xs.length=n*8/\ys.length=1*8/\rowRd mL a xs/\rowRd mL (some (Addr.mk b 0 none)) ys/\(∀(u:Value),u∈ys
 -> u.oneCell'=true)/\an*80<=140737488355328/\an<=9223372036854775807/\∀(a':Option Addr)(c':Nat) m',mL.le m'->rowRd m' a' (List.append xs ys)->TokFact mL a a' an c'->Zac xL/\nxI ay I (slice a' an c'::a6 ::
 a7) [] [slice a' an c'] m') (∃(b:Bool),br (decide (bg < 7)) (Zac ae/\ab=ab/\bz=[bool b]) (Zac ae/\ab=ab/\[bool false]=[bool b])/\br b (∃(f:Fx),((0:Int)<=a0/\a0<=(↑c:Int))/\((0:Int)<=a0/\a0 <=
 (↑a4:Int))/\atA a λb o=>Zae a0 n/\∃v ap aq ar au av aw ax:Value,lV [v,ap,aq,ar,au,av,aw,ax] λad=>m'.reads b (o+a4*8) ad/\atA a λb o=>Zae a5 n/\∃v bh bi bj bk bl bv bw:Value,lV [v,
 bh,bi,bj,bk,bl,bv,bw] λal=>lV [int u8 3,agg (.mk ad),agg (.mk al)] λa3=>m'.reads b (o+ao) al/\∃R,R=f 16 a3 m'/\CX pG 124 (.mk a3) m' [] R/\Zbp (shT) R/\∀n ac af ag ah ai aj a2 ak c aa,lV [int u8 n,
 int u64 ac,int u64 af,int u64 ag,int u64 ah,int i64 ai,int i64 aj,slice a2 ak c] λbp=>m'.le aa->R (agg (.mk bp)) aa []->∀b,lM (aa.add b bp) λmL=>aa.free b->(bn=Tok.mk bt 8\/bt=slice none 0 0\/bd < am)/\
 ∃(xs:List Value),∃(ys:List Value),xs.length=bd*8/\ys.length=1*8/\rowRd mL (Za5 a 0 a4 8) xs/\rowRd mL (some (Addr.mk b 0 none)) ys/\(∀(u:Value),u∈ys->u.oneCell'=true)/\am*80<=140737488355328/\
 am<=9223372036854775807/\∀(a':Option Addr)(c':Nat) bf,mL.le bf->rowRd bf a' (List.append xs ys)->TokFact mL (Za5 a 0 a4 8) a' am c'->∀M,m'.le M->aa.le M->mL.le M->bf.le M->Zac xL/\nxI ay I (slice a' am c'
 :: a6::a7) [] [slice a' am c'] M) (∃(b:Bool),br (decide (bg < 9)) (Zac ae/\ab=ab/\bz=[bool b]) (Zac ae/\ab=ab/\[bool false]=[bool b])/\br b (∃(f:Fx),((0:Int)<=a0/\a0<=(↑c:Int))/\((0:Int)<=a0
 /\ a0<=(↑a4:Int))/\atA a λb o=>Zae a0 n/\∃v ap aq ar au av aw ax:Value,lV [v,ap,aq,ar,au,av,aw,ax] λad=>m'.reads b (o+a4*8) ad/\atA a λb o=>Zae a5 n/\∃v bh bi bj bk bl bv bw:Value,lV
 [v,bh,bi,bj,bk,bl,bv,bw] λal=>lV [int u8 4,agg (.mk ad),agg (.mk al)] λa3=>m'.reads b (o+ao) al/\∃R,R=f 16 a3 m'/\CX pG 124 (.mk a3) m' [] R/\Zbp (shT) R/\∀n ac af ag ah ai aj a2 ak c aa,lV [int u8
 n,int u64 ac,int u64 af,int u64 ag,int u64 ah,int i64 ai,int i64 aj,slice a2 ak c] λbp=>m'.le aa->R (agg (.mk bp)) aa []->∀b,lM (aa.add b bp) λmL=>aa.free b->(bn=Tok.mk bt 8\/bt=slice none 0 0\/bd < am)
 /\ ∃(xs:List Value),∃(ys:List Value),xs.length=bd*8/\ys.length=1*8/\rowRd mL (Za5 a 0 a4 8) xs/\rowRd mL (some (Addr.mk b 0 none)) ys/\(∀(u:Value),u∈ys->u.oneCell'=true)/\am*80<=140737488355328/\
 am<=9223372036854775807/\∀(a':Option Addr)(c':Nat) bf,mL.le bf->rowRd bf a' (List.append xs ys)->TokFact mL (Za5 a 0 a4 8) a' am c'->∀M,m'.le M->aa.le M->mL.le M->bf.le M->Zac xL/\nxI ay I (slice a' am c'
 :: a6::a7) [] [slice a' am c'] M) (∃(b:Bool),br (bg == 9) (br (decide (bc > 0)) (Zac ae/\ab=ab/\[bool (decide (bq < 9))]=[bool b]) (Zac ae/\ab=ab/\[bool false]=[bool b])) (Zac ae/\ab=ab/\[bool false]
 = [bool b])/\br b (atA a λb o=>Zae a5 n/\∃v ap aq ar au av aw ax:Value,lV [v,ap,aq,ar,au,av,aw,ax] λad=>m'.reads b (o+ao) ad/\∃R,True/\CX pG 125 (.mk [agg (.mk ad)]) m' [] R/\Zbp (shT) R/\∀ac
 af ag ah ai aj ak a2 a8 c aa,lV [int u8 ac,int u64 af,int u64 ag,int u64 ah,int u64 ai,int i64 aj,int i64 ak,slice a2 a8 c] λal=>m'.le aa->R (agg (.mk al)) aa []->atA a λb o=>Zae a5 n/\az=slice (some
 (Addr.mk b 0 none)) bb bs/\o+ao+8<=bb*8/\Zac xL/\nxI ay I (a1::a6::int i64 (i64.wrap (bq+1))::ca) [] [az] (Mem.upd aa b (o+ao) al)) (∃(b:Bool),br (decide (bg > 9)) (br (decide (bc > 0)) (atA a λbx o
 => Zae a5 n/\∃(v:Value),m' bx (o+ao+0)=some v/\chk (Zbb u8 v&&decide (u8=u8)) (Zac ae/\ab=ab/\[bool !RowKit.intOf v == 1]=[bool b])) (Zac ae/\ab=ab/\[bool false]=[bool b])) (Zac ae/\ab =
 ab/\[bool false]=[bool b])/\br b (chk (Zbb u8 a9&&decide (u8=u8)) ((3:Int)≠0/\chk (Zbb u8 be&&decide (u8=u8)) ((4:Int)≠0/\∃(b:Bool),lV [bool b] λad=>br (decide (yL < ba)) (Zac ae/\ab=ab/\
 [bool true]=ad) (br (yL == 0) (Zac ae/\ab=ab/\[bool true]=ad) (br (ba == 1) (Zac ae/\ab=ab/\[bool (yL == 1)]=ad) (Zac ae/\ab=ab/\[bool false]=ad)))/\br b (br (decide (ce<=16)) (atA a λb o=>
 Zae a5 n/\∃v ap aq ar au av aw ax:Value,lV [v,ap,aq,ar,au,av,aw,ax] λal=>m'.reads b (o+ao) al/\∃R,True/\CX pG 126 (.mk [agg (.mk al),int i64 ba,int i64 (-1)]) m' [] R/\Zbp (shT) R/\∀ac af ag ah ai
 aj ak a2 a8 c aa,lV [int u8 ac,int u64 af,int u64 ag,int u64 ah,int u64 ai,int i64 aj,int i64 ak,slice a2 a8 c] λa3=>m'.le aa->R (agg (.mk a3)) aa []->atA a λb o=>Zae a5 n/\az=slice (some (Addr.mk b 0
 none)) bb bs/\o+ao+8<=bb*8/\Zac xL/\nxI ay I (a1::int i64 ce::a7) [] [az] (Mem.upd aa b (o+ao) a3)) (Zac xL/\nxI ay I (a1::a6::a7) [] [az] m')) (br (decide (cd<=16)) (atA a λb o=>Zae a5 n/\∃v
 ap aq ar au av aw ax:Value,lV [v,ap,aq,ar,au,av,aw,ax] λal=>m'.reads b (o+ao) al/\∃R,True/\CX pG 126 (.mk [agg (.mk al),int i64 ba,int i64 yL]) m' [] R/\Zbp (shT) R/\∀ac af ag ah ai aj ak a2 a8 c aa,lV
 [int u8 ac,int u64 af,int u64 ag,int u64 ah,int u64 ai,int i64 aj,int i64 ak,slice a2 a8 c] λa3=>m'.le aa->R (agg (.mk a3)) aa []->atA a λb o=>Zae a5 n/\az=slice (some (Addr.mk b 0 none)) bb bs/\o+ao +
 8<=bb*8/\Zac xL/\nxI ay I (a1::int i64 cd::a7) [] [az] (Mem.upd aa b (o+ao) a3)) (Zac xL/\nxI ay I (a1::a6::a7) [] [az] m'))))) (Zac xL/\nxI ay I (a1::a6::a7) [] [az] m'))))))))) (br (bc == 0) (∃R_1,
 True/\CX pG 122 (.mk [string (.mk (.mk [97]))]) m' [] R_1/\Zbp (shT) R_1/\∀n ac af ag ah ai aj a ak c aa,lX (agg (.mk [int u8 n,int u64 ac,int u64 af,int u64 ag,int u64 ah,int i64 ai,int i64 aj,slice a ak c])) λyL
 => m'.le aa->R_1 yL aa []->rtM m aa R yL) (atA a λb o=>Zae (0:Int) n/\∃v a9 be ap aq ar au av:Value,lV [v,a9,be,ap,aq,ar,au,av] λbo=>m'.reads b (o+0) bo/\∀b,chk (v.oneCell'&&(a9.oneCell' &&
 (be.oneCell'&&(ap.oneCell'&&(aq.oneCell'&&(ar.oneCell'&&(au.oneCell'&&(av.oneCell'&&true)))))))) (((0:Int)<=1/\(1:Int)<=bc)/\∃I,inI I [int i64 0] [bo] [] m'/\∀ac (cs:List Value) (m':Mem) (af:Nat),
 True->I [int i64 ac] [cs] [] m' af->br (decide (ac < (↑(n - Int.toNat (1:Int)):Int))) (atA (Za5 a (Int.toNat (1:Int)) c 8) λbx o=>Zae ac (n - Int.toNat (1:Int))/\∃v aw ax bh bi bj bk bl:Value,lV [v,aw,
 ax,bh,bi,bj,bk,bl] λae=>m'.reads bx (o+Int.toNat ac*8) ae/\∀(ci:Nat),chk (v.oneCell'&&(aw.oneCell'&&(ax.oneCell'&&(bh.oneCell'&&(bi.oneCell'&&(bj.oneCell'&&(bk.oneCell'&&(bl.oneCell' &&
 true)))))))) (∃R,True/\CX pG 124 (.mk [int u8 4,agg (.mk cs),agg (.mk ae)]) m' [] R/\Zbp (shT) R/\∀n ag ah ai aj ak a8 a ch c aa,lV [int u8 n,int u64 ag,int u64 ah,int u64 ai,int u64 aj,int i64 ak,int i64 a8,slice
 a ch c] λad=>m'.le aa->R (agg (.mk ad)) aa []->Zac (some (Box.mk b [] 42 8 false true)::xL)/\ab=ab/\nxI af I [int i64 (i64.wrap (ac+1))] [ad] [] aa)) (chk (Nat.beq (cs.length) 8&&ZeI cs) (rtM m m' R (agg (.mk
 cs)))))))):CX Tryz.prog 84 #[.slice p0a p0n p0c] m [] R:=
 Zad (E:=ZlD) Zap mix Tryz.func84 (by kernel_rfl) (Eq.mp (by kernel_rfl) h)
def ZlE:Env:={ EB with
 frzNew:=[1] }
theorem ZjB(aA:Int)(aD:Value)(aF:ByteArray)(aE:Int)(aN:Option Addr)(aM aQ:Nat)(m:Mem)(R:RT)(h:
 fzM m [int u8 aA,aD,string aF,int i64 aE,slice aN aM aQ] λb m'=>rtM m m' R (func (Fn.func 141) (Array.mk []) (Array.mk [Value.pointer (some (Addr.mk b 0 none))]))):CX Tryz.prog 103 #[.agg #[.int .u8 aA,aD,.string aF,.int .i64 aE,.slice aN aM aQ]] m [] R:=
 Zad (E:=ZlE) Zap mix Tryz.func103 (by kernel_rfl) (Eq.mp (by kernel_rfl) h)
def ZhV:Env:={ EB with
 loops:=swI nLa [(3,⟨[(13,.int .i64)],[],[],true⟩),(7,⟨[(19,.agg [.int .u8,.any,.str,.int .i64,.slice])],[],[],true⟩)]
 frzNew:=[2] }
theorem ZgX(p0g:Nat)(p0fi p0ca:List Value)(c0b c0o:Nat)(m:Mem)(xs:List (List Value))(h:
 ∀(l:Nat),lE (↑(xs.length):Int) λyL=>lV [func (Fn.yield l) (Array.mk []) (Array.mk [])] λxL=>fzM m xL λb m'=>∃v v_1 v_2 v_3 v_4:Value,lE [some (Box.mk b xL 169 1 true true)] λxL=>m'.reads c0b c0o [v,
 v_1,v_2,v_3,v_4]/\(l=l/\(0:Int)<=0/\List.get?Internal xs (Int.toNat (0:Int))=some [agg (.mk [v,v_1,v_2,v_3,v_4])])/\(∃(v:Value),m' c0b (c0o+4)=some v/\chk (ZbQ v) (∃I,inI I [int i64 ((0:Int)+1),
 int i64 0] [] [] m'/\∀y n m'_1 (n_1:Nat),m'.le m'_1->I [int i64 y,int i64 n] [] [] m'_1 n_1->br (decide (n < (↑(slN v):Int))) (chk (ZbQ v) (atA (slA v) λb o=>Zae n (slN v)/\∃v v_5 v_6 v_7 v_8:Value,lV [v,
 v_5,v_6,v_7,v_8] λxL_1=>m'_1.reads b (o+Int.toNat n*5) xL_1/\∀b,lE (some (Box.mk b xL_1 52 5 false true)::xL) λxL_2=>chk (v.oneCell'&&(v_5.oneCell'&&(v_6.oneCell'&&(v_7.oneCell'&&(v_8.oneCell' &&
 true))))) (kF pG 103 [agg (.mk xL_1)] m'_1 λg fi ca m'=>∃(xs_1:List (List Value)),IX pG g fi ca m' xs_1/\(∀(x:List Value),x∈xs_1->Shape.fitsL [.agg [.int u8,.any,.str,.int i64,.slice]] x=true)/\∃(I_1:
 IT),I_1 [int i64 y] [] [] m' 0/\(∀y n (v:Value) s n_2 a n_3 c m'_2 (n_4:Nat),lE (some [agg (.mk [int u8 n,v,string s,int i64 n_2,slice a n_3 c])]) λyL_1=>m'.le m'_2->List.get?Internal xs_1 n_4=yL_1->I_1 [int
 i64 y] [] [] m'_2 n_4->∀(b:Nat),chk (v.oneCell'&&true) ((l=l/\(0:Int)<=y/\List.get?Internal xs (Int.toNat y)=yL_1)/\(Zac xL_2/\I_1 [int i64 (y+1)] [] [] m'_2 (n_4+1))/\Zac xL_2/\((-1:Int)=yL\/(-1
 : Int)=(-1:Int))))/\∀y m'_2,m'.le m'_2->I_1 [int i64 y] [] [] m'_2 (xs_1.length)->Zac xL/\nxI n_1 I [int i64 y,int i64 (i64.wrap (n+1))] [] [] m'_2))) (y=yL\/y=(-1:Int))))/\((-1:Int)=yL\/(-1:Int) =
 (-1:Int))):IX Tryz.prog 141 [] [.pointer (some ⟨c0b,c0o,none⟩)] m xs:=
 Zi9 (E:=ZhV) Zap mix Tryz.func141 _ _ _ (by kernel_rfl) (Eq.mp (by kernel_rfl) h)
def ZlF:Env:={ EB with
 loops:=swI nLa [(3,⟨[(6,.agg [.int .u8,.any,.str,.int .i64,.slice])],[3],[],false⟩)]
 frzNew:=[1] }
theorem ZjC(aA:Int)(aD:Value)(aF:ByteArray)(aE:Int)(aN:Option Addr)(aM aQ:Nat)(m:Mem)(R:RT)(h:
 lV [int u8 aA,aD,string aF,int i64 aE,slice aN aM aQ] λxL=>fzM m xL λb m'=>∀b_1,lE [some (Box.mk b_1 [] 3 1 false true),some (Box.mk b xL 52 5 true true)] λxL_1=>kF pG 103 [agg (.mk xL)] m'
 λg fi ca m'=>∃(xs:List (List Value)),IX pG g fi ca m' xs/\(∀(x:List Value),x∈xs->Shape.fitsL [.agg [.int u8,.any,.str,.int i64,.slice]] x=true)/\∃(I:IT),I [] [[int i64 0]] [] m' 0/\(∀n (v:Value) s
 n_1 a n_2 c (cs:List Value) m'_1 (n_3:Nat),m'.le m'_1->List.get?Internal xs n_3=some [agg (.mk [int u8 n,v,string s,int i64 n_1,slice a n_2 c])]->I [] [cs] [] m'_1 n_3->Eng.Ztz cs 0 λv=>lE (i64.wrap
 (RowKit.intOf v+1)) λyL=>chk (Zbb i64 v&&decide (i64=i64)) (br (decide (yL > 10000)) (Zac xL_1/\rtM m m'_1 R (bool (decide (yL<=10000)))) (Zac xL_1/\I [] [[int i64 yL]] [] m'_1 (n_3+1))))/\∀(cs:List
 Value) m'_1,m'.le m'_1->I [] [cs] [] m'_1 (xs.length)->Eng.Ztz cs 0 λv=>chk (Zbb i64 v&&decide (i64=i64)) (rtM m m'_1 R (bool (decide (RowKit.intOf v<=10000))))):CX Tryz.prog 94 #[.agg #[.int .u8 aA,aD,.string aF,.int .i64 aE,.slice aN aM aQ]] m [] R:=
 Zad (E:=ZlF) Zap mix Tryz.func94 (by kernel_rfl) (Eq.mp (by kernel_rfl) h)
def Zoj:Env:={ EB with
 loops:=swI nLa [(4,⟨[(8,.agg [.int .u8,.any,.str,.int .i64,.slice])],[3],[],false⟩)]
 frzNew:=[1] }
theorem ZlG(aA:Int)(aD:Value)(aF:ByteArray)(aE:Int)(aN:Option Addr)(aM aQ:Nat)(m:Mem)(R:RT)(h:
 lV [int u8 aA,aD,string aF,int i64 aE,slice aN aM aQ] λxL=>fzM m xL λb m'=>∀b_1,kB pG 94 [agg (.mk xL)] m' λb_2 m'=>br b_2 (kF pG 103 [agg (.mk xL)] m' λg fi ca m'=>∃(xs:List (List
 Value)),IX pG g fi ca m' xs/\(∀(x:List Value),x∈xs->Shape.fitsL [.agg [.int u8,.any,.str,.int i64,.slice]] x=true)/\∃(I:IT),I [] [[int i64 0]] [] m' 0/\(∀n (v:Value) s n_1 a n_2 c (cs:List Value) m'_1
 (n_3:Nat),m'.le m'_1->List.get?Internal xs n_3=some [agg (.mk [int u8 n,v,string s,int i64 n_1,slice a n_2 c])]->I [] [cs] [] m'_1 n_3->Eng.Ztz cs 0 λv=>chk (Zbb i64 v&&decide (i64=i64)) (Zac [some
 (Box.mk b_1 [] 3 1 false true),some (Box.mk b xL 52 5 true true)]/\I [] [[int i64 (i64.wrap (RowKit.intOf v+1))]] [] m'_1 (n_3+1)))/\∀(cs:List Value) m'_1,m'.le m'_1->I [] [cs] [] m'_1 (xs.length)->Eng.Ztz cs 0 λv
 => rtM m m'_1 R v) (rtM m m' R (int i64 0))):CX Tryz.prog 95 #[.agg #[.int .u8 aA,aD,.string aF,.int .i64 aE,.slice aN aM aQ]] m [] R:=
 Zad (E:=Zoj) Zap mix Tryz.func95 (by kernel_rfl) (Eq.mp (by kernel_rfl) h)
def ZlH:Env:={ EB with
 exv:=swI false [(1,true)] }
theorem ZjD  (m:Mem)(R:RT)(h:
 ∃(v:Value),Zqi pG 148 [int u64 9221120237041090561] v/\rtM m m R v):CX Tryz.prog 157 #[] m [] R:=
 Zad (E:=ZlH) Zap mix Tryz.func157 (by kernel_rfl) (Eq.mp (by kernel_rfl) h)
def ZhW:Env:=EB
theorem ZgY(p0:Value)(m:Mem)(R:RT)(h:
 ∃(b:Bool),BinIs pG BinOp.neq 49 p0 p0 (bool b)/\br b (∃R_1,True/\CX pG 157 (.mk []) m [] R_1/\(∀(v:Value)(m':Mem) (css:List (List Value)),R_1 v m' css->true=true)/\∀(v:Value) m',m.le m'->R_1 v m' []->
 rtM m m' R v) (rtM m m R p0)):CX Tryz.prog 135 #[p0] m [] R:=
 Zad (E:=ZhW) Zap mix Tryz.func135 (by kernel_rfl) (Eq.mp (by kernel_rfl) h)
def ZjE:Env:={ EB with
 exv:=swI false [(7,true),(10,true)] }
theorem ZhX(p0 p1:Value)(m:Mem)(R:RT)(h:
 ∃R_1,True/\CX pG 135 (.mk [p0]) m [] R_1/\(∀(v:Value)(m':Mem) (css:List (List Value)),R_1 v m' css->true=true)/\∀(v:Value) m',m.le m'->R_1 v m' []->∃(v_1:Value),Zqi pG 134 [v] v_1/\∃R_2,True/\CX pG
 135 (.mk [p1]) m' [] R_2/\(∀(v:Value)(m':Mem) (css:List (List Value)),R_2 v m' css->true=true)/\∀(v:Value) m'_1,m'.le m'_1->R_2 v m'_1 []->∃(v_2:Value),Zqi pG 134 [v] v_2/\chk (Zbb u64 v_1&&Zbb u64
 v_2) (rtM m m'_1 R (bool (RowKit.intOf v_1 == RowKit.intOf v_2)))):CX Tryz.prog 97 #[p0,p1] m [] R:=
 Zad (E:=ZjE) Zap mix Tryz.func97 (by kernel_rfl) (Eq.mp (by kernel_rfl) h)
def Zb3:Env:={ EB with
 loops:=swI nLa [(2,⟨[(8,.int .i64)],[],[],false⟩)] }
theorem ZbX(p0a:Option Addr)(p0n p0c:Nat)(p1:ByteArray)(m:Mem)(R:RT)(h:
 ∃I,inI I [int i64 0] [] [] m/\∀n m' (n_1:Nat),m.le m'->I [int i64 n] [] [] m' n_1->br (decide (n < (↑p0n:Int))) (atA p0a λb o=>Zae n p0n/\∃(v:Value),m' b (o+Int.toNat n*1)=some v/\chk (ZiH v) (br
 (ByteArray.toList p1 == ByteArray.toList (Zcp v)) (rtM m m' R (int i64 n)) (nxI n_1 I [int i64 (i64.wrap (n+1))] [] [] m'))) (rtM m m' R (int i64 (-1)))):CX Tryz.prog 34 #[.slice p0a p0n p0c,.string p1] m [] R:=
 Zad (E:=Zb3) Zap mix Tryz.func34 (by kernel_rfl) (Eq.mp (by kernel_rfl) h)
def ZbE:Env:=EB
theorem Zbv(p0a:Option Addr)(p0n p0c:Nat)(p1:ByteArray)(m:Mem)(R:RT)(h:
 kI pG 34 [slice p0a p0n p0c,string p1] m λn m'=>rtM m m' R (bool (decide (n ≥ 0)))):CX Tryz.prog 29 #[.slice p0a p0n p0c,.string p1] m [] R:=
 Zad (E:=ZbE) Zap mix Tryz.func29 (by kernel_rfl) (Eq.mp (by kernel_rfl) h)
def Zok:Env:={ EB with
 joins:=swI none [(3,some [(6,.bool)])] }
theorem ZlI(p0:Int)(m:Mem)(R:RT)(h:
 br (p0 == 1) (rtM m m R (int i64 1)) (∃(b:Bool),br (decide (p0 ≥ 2)) ([bool (decide (p0<=7))]=[bool b]) ([bool false]=[bool b])/\br b (rtM m m R (int i64 2)) (rtM m m R (int i64 0)))):CX Tryz.prog 104 #[.int .u8 p0] m [] R:=
 Zad (E:=Zok) Zap mix Tryz.func104 (by kernel_rfl) (Eq.mp (by kernel_rfl) h)
def ZaD:Env:={ EB with
 loops:=swI nLa [(4,⟨[(17,.int .i64)],[],[],false⟩)] }
theorem ZaA(p0a:Option Addr)(p0n p0c:Nat)(p1a:Option Addr)(p1n p1c p2g:Nat)(p2fi p2ca:List Value)(m:Mem)(R:RT)(h:
 br (!(↑p0n:Int) == (↑p1n:Int)) (rtM m m R (bool false)) (∃I,inI I [int i64 0] [] [] m/\∀n m' (n_1:Nat),m.le m'->I [int i64 n] [] [] m' n_1->br (decide (n < (↑p0n:Int))) (atA p0a λb o=>Zae n p0n/\∃v v_1
 v_2 v_3 v_4:Value,m'.reads b (o+Int.toNat n*5) [v,v_1,v_2,v_3,v_4]/\∀(b:Nat),chk (v.oneCell'&&(v_1.oneCell'&&(v_2.oneCell'&&(v_3.oneCell'&&(v_4.oneCell'&&true))))) (atA p1a λb o=>Zae n p1n/\∃
 v_5 v_6 v_7 v_8 v_9:Value,m'.reads b (o+Int.toNat n*5) [v_5,v_6,v_7,v_8,v_9]/\∀(b:Nat),chk (v_5.oneCell'&&(v_6.oneCell'&&(v_7.oneCell'&&(v_8.oneCell'&&(v_9.oneCell'&&true))))) (kB pG p2g (List.append
 (List.append p2fi [agg (.mk [v,v_1,v_2,v_3,v_4]),agg (.mk [v_5,v_6,v_7,v_8,v_9])]) p2ca) m' λb m'=>br (!b) (rtM m m' R (bool false)) (nxI n_1 I [int i64 (i64.wrap (n+1))] [] [] m')))) (rtM m m' R (bool true)))):CX Tryz.prog 162 #[.slice p0a p0n p0c,.slice p1a p1n p1c,.func (.func p2g) p2fi.toArray p2ca.toArray] m [] R:=
 Zad (E:=ZaD) Zap mix Tryz.func162 (by kernel_rfl) (Eq.mp (by kernel_rfl) h)
def Zol:Env:={ EB with
 joins:=swI none [(1,some [(4,.bool)])]
 frzNew:=[2,3] }
theorem ZlJ(aA:Int)(aD:Value)(aF:ByteArray)(aE:Int)(aN:Option Addr)(aM aQ:Nat)(bM:Int)(cA:Value)(cD:ByteArray)(cF:Int)(dg:Option Addr)(cZ dm:Nat)(m:Mem)(R:RT)(h:
 lV [int u8 bM,cA,string cD,int i64 cF,slice dg cZ dm] λxL=>lV [int u8 aA,aD,string aF,int i64 aE,slice aN aM aQ] λxL_1=>fzM m xL_1 λb m'=>lE [some (Box.mk b xL_1 52 5 true
 true)] λxL_2=>fzM m' xL λb m'=>∃(b_1:Bool),lV [bool b_1] λxL_3=>lE (some (Box.mk b xL 52 5 true true)::xL_2) λxL=>br (aA == bM) (kB pG 97 [aD,cA] m' λb m'=>br b (br (ByteArray.toList aF ==
 ByteArray.toList cD) (br (aE == cF) (kB pG 162 [slice aN aM aQ,slice dg cZ dm,func (Fn.func 160) (Array.mk []) (Array.mk [])] m' λb m'=>Zac xL/\[bool b]=xL_3) (Zac xL/\[bool false]=xL_3))
 (Zac xL/\[bool false]=xL_3)) (Zac xL/\[bool false]=xL_3)) (Zac xL/\[bool false]=xL_3)/\rtM m m' R (bool b_1)):CX Tryz.prog 160 #[.agg #[.int .u8 aA,aD,.string aF,.int .i64 aE,.slice aN aM aQ],.agg #[.int .u8 bM,cA,.string cD,.int .i64 cF,.slice dg cZ dm]] m [] R:=
 Zad (E:=Zol) Zap mix Tryz.func160 (by kernel_rfl) (Eq.mp (by kernel_rfl) h)
def Zom:Env:={ EB with
 joins:=swI none [(1,some [(4,.bool)])]
 frzNew:=[2,3] }
theorem ZlK(aA:Int)(aD:Value)(aF:ByteArray)(aE:Int)(aN:Option Addr)(aM aQ:Nat)(bM:Int)(cA:Value)(cD:ByteArray)(cF:Int)(dg:Option Addr)(cZ dm:Nat)(m:Mem)(R:RT)(h:
 lV [int u8 bM,cA,string cD,int i64 cF,slice dg cZ dm] λxL=>lV [int u8 aA,aD,string aF,int i64 aE,slice aN aM aQ] λxL_1=>fzM m xL_1 λb m'=>lE [some (Box.mk b xL_1 52 5 true
 true)] λxL_2=>fzM m' xL λb m'=>∃(b_1:Bool),lE (some (Box.mk b xL 52 5 true true)::xL_2) λxL_3=>(kB pG 94 [agg (.mk xL_1)] m' λb m'=>br b (kB pG 94 [agg (.mk xL)] m' λb m'=>br b (kB pG 160 [agg (.mk
 xL_1),agg (.mk xL)] m' λb m'=>Zac xL_3/\[bool b]=[bool b_1]) (Zac xL_3/\[bool false]=[bool b_1])) (Zac xL_3/\[bool false]=[bool b_1]))/\rtM m m' R (bool b_1)):CX Tryz.prog 140 #[.agg #[.int .u8 aA,aD,.string aF,.int .i64 aE,.slice aN aM aQ],.agg #[.int .u8 bM,cA,.string cD,.int .i64 cF,.slice dg cZ dm]] m [] R:=
 Zad (E:=Zom) Zap mix Tryz.func140 (by kernel_rfl) (Eq.mp (by kernel_rfl) h)
def Zon:Env:={ EB with
 frzNew:=[1] }
theorem ZlL(aA:Int)(aD:Value)(aF:ByteArray)(aE:Int)(aN:Option Addr)(aM aQ:Nat)(m:Mem)(R:RT)(h:
 lV [int u8 aA,aD,string aF,int i64 aE,slice aN aM aQ] λxL=>fzM m xL λb m'=>kB pG 94 [agg (.mk xL)] m' λb m'=>br (!b) (rtM m m' R (slice none 0 0)) (kS pG 142 [slice none 0 0,agg (.mk xL)] m'
 λa n c m'=>rtM m m' R (slice a n c))):CX Tryz.prog 109 #[.agg #[.int .u8 aA,aD,.string aF,.int .i64 aE,.slice aN aM aQ]] m [] R:=
 Zad (E:=Zon) Zap mix Tryz.func109 (by kernel_rfl) (Eq.mp (by kernel_rfl) h)
def Zoo:Env:={ EB with
 loops:=swI nLa [(5,⟨[(9,.agg [.int .u8,.any,.str,.int .i64,.slice])],[3],[],false⟩)]
 frzNew:=[1] }
theorem ZlM(aA:Int)(aD:Value)(aF:ByteArray)(aE:Int)(aN:Option Addr)(aM aQ:Nat)(m:Mem)(R:RT)(h:
 lV [int u8 aA,aD,string aF,int i64 aE,slice aN aM aQ] λxL=>fzM m xL λb m'=>∀b_1,lE [some (Box.mk b_1 [] 3 1 false true),some (Box.mk b xL 52 5 true true)] λxL_1=>kB pG 94 [agg (.mk xL)] m'
 λb m'=>br b (kF pG 103 [agg (.mk xL)] m' λg fi ca m'=>∃(xs:List (List Value)),IX pG g fi ca m' xs/\(∀(x:List Value),x∈xs->Shape.fitsL [.agg [.int u8,.any,.str,.int i64,.slice]] x=true)/\∃(I:IT),I
 [] [[int i64 (-1)]] [] m' 0/\(∀n (v:Value) s n_1 a n_2 c (cs:List Value) m'_1 (n_3:Nat),m'.le m'_1->List.get?Internal xs n_3=some [agg (.mk [int u8 n,v,string s,int i64 n_1,slice a n_2 c])]->I [] [cs] [] m'_1 n_3
 -> ∀(b:Nat),chk (v.oneCell'&&true) (br (n == 10) (Eng.Ztz cs 0 λv=>chk (Zbb i64 v&&decide (i64=i64)) (Zac xL_1/\I [] [[int i64 (if n_1 > RowKit.intOf v then n_1 else RowKit.intOf v)]] [] m'_1 (n_3+1)))
 (Zac xL_1/\I [] [cs] [] m'_1 (n_3+1))))/\∀(cs:List Value) m'_1,m'.le m'_1->I [] [cs] [] m'_1 (xs.length)->Eng.Ztz cs 0 λv=>rtM m m'_1 R v) (rtM m m' R (int i64 (-1)))):CX Tryz.prog 76 #[.agg #[.int .u8 aA,aD,.string aF,.int .i64 aE,.slice aN aM aQ]] m [] R:=
 Zad (E:=Zoo) Zap mix Tryz.func76 (by kernel_rfl) (Eq.mp (by kernel_rfl) h)
end Go.Proofs.YtpjepnkiiojgfaaGreat
end
