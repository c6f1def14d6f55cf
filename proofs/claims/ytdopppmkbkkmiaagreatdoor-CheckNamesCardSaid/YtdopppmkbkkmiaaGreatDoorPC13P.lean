/- Part of the proof: functions of the program. No condition. -/
import Derived.Test.YtdopppmkbkkmiaaGreatDoorPEnv
import Derived.Test.YtdopppmkbkkmiaaGreatDoorMc
import Derived.Test.YtdopppmkbkkmiaaGreatDoorMr
import Derived.Laws.StructEq
import Derived.Laws.Tables
import Derived.Laws.Cover2
set_option linter.unusedVariables false
set_option linter.unusedSimpArgs false
set_option linter.unusedSectionVars false
noncomputable section
namespace Go.Proofs.YtdopppmkbkkmiaaGreatDoor
open Go Go.Eng Go.Proofs Go.RowKit
open Go.Value (int slice agg bool string tuple func)
open Go.IntKind (u8 u64 i64)
set_option maxRecDepth 100000
def ZpQ:Env:={ EB with
 loops:=swI nLa [(3,⟨[(12,.int .i64)],[],[],false⟩)]
 dr:=swI [] [(5,[⟨0,[1],[],none,[],[]⟩,⟨1,[1],[],none,[0],[]⟩,dO 2 [],⟨3,[4],[],none,[],[]⟩,dO 4 [3],dO 5 [0,1,2,3,4]])]
 thaw:=true
 stAt:=swI none [(22,some 7)]
 last:=swI false [(5,true)]
 tokC:=swI none [(7,some (7,8))] }
theorem Zm3(aA aC aE aF aY aW aV:Int)(aU:Option Addr)(aR aX:Nat)(m:Mem)(R:RT)(h:
 ∀b b_1,∃R_1,CXT pG 115 (.mk [slice aU aR aX]) m 8 R_1/\Za7 .slice R_1/\∀a n c m',lX (slice a n c) λyL=>lV [int u8 aA,int u64 aC,int u64 aE,int u64 aF,int u64 aY,int i64 aW,int i64 aV,yL]
 λxL=>m.le m'->R_1 yL m' []->∃I,inI I [int i64 0] [] [] m'/\∀(n_1:Int)(m':Mem)(n_2:Nat),lE (Int.toNat n_1*8) λyL_1=>True->I [int i64 n_1] [] [] m' n_2->br (decide (n_1 < (↑n:Int))) (atA a λb_2 o=>
 Zag n_1 n/\∃v v_1 v_2 v_3 v_4 v_5 v_6 v_7:Value,lV [v,v_1,v_2,v_3,v_4,v_5,v_6,v_7] λxL_1=>m'.reads b_2 (o+yL_1) xL_1/\∀(b_3:Nat),chk (v.oneCell'&&(v_1.oneCell'&&(v_2.oneCell'&&(v_3.oneCell' &&
 (v_4.oneCell'&&(v_5.oneCell'&&(v_6.oneCell'&&(v_7.oneCell'&&true)))))))) (∃(f:Fx),∃R,R=f 4 [agg (.mk xL_1)] m'/\CX pG 94 (.mk [agg (.mk xL_1)]) m' [] R/\Za7 (shT) R/\∀n_3 n_4 n_5 n_6 n_7 n_8 n_9 a_5 n_10 c_1
 m'_1,lV [int u8 n_3,int u64 n_4,int u64 n_5,int u64 n_6,int u64 n_7,int i64 n_8,int i64 n_9,slice a_5 n_10 c_1] λxL_2=>m'.le m'_1->R (agg (.mk xL_2)) m'_1 []->atA a λb_4 o=>Zag n_1 n/\∀M,m'.le M->
 m'_1.le M->yL=slice (some (Addr.mk b_4 0 none)) n c/\o+yL_1+8<=n*8/\Zae [some (Box.mk b_1 [int u8 0,int u64 0,int u64 0,int u64 0,int u64 0,int i64 0,int i64 0,slice none 0 0] 40 8 false true),some (Box.mk b
 xL 40 8 false true)]/\[some (Tok.mk yL 8)]=[some (Tok.mk yL 8)]/\nxI n_2 I [int i64 (i64.wrap (n_1+1))] [] [] (Mem.upd M b_4 (o+yL_1) xL_2))) (rtM m m' R (agg (.mk xL)))):CX Tryz.prog 94 #[.agg #[.int .u8 aA,.int .u64 aC,.int .u64 aE,.int .u64 aF,.int .u64 aY,.int .i64 aW,.int .i64 aV,.slice aU aR aX]] m [] R:=
 Zad (E:=ZpQ) Zam mix Tryz.func94 (by kernel_rfl) (Eq.mp (by kernel_rfl) h)
def Zb6:Env:={ EB with
 tokOf:=swI 0 [(2,7),(7,7)]
 tokC:=swI none [(5,some (7,8))]
 thaw:=true }
theorem ZbR(p0a:Option Addr)(p0n p0c:Nat)(m:Mem)(R:RT)(h:
 lE (0+p0n) λyL=>br (Option.isNone p0a) (slice none 0 0=slice none 0 0/\R (slice none 0 0) m []) (((0:Int)=(0:Int)/\(0:Int)<=0/\(0:Int)*(↑(80:Nat):Int)<=281474976710656/\(0:Int) <=
 9223372036854775807)/\∀(b:Nat),lX (slice (some (Addr.mk b 0 none)) 0 (Int.toNat (0:Int))) λyL_1=>m.free b->Mem.k m b=none->(Tok.mk yL_1 8=Tok.mk yL_1 8\/yL_1=slice none 0 0\/Int.toNat (0:Int) < yL)/\∃(xs
 : List Value),∃(ys:List Value),xs.length=0*8/\ys.length=p0n*8/\rowRd m (some (Addr.mk b 0 none)) xs/\rowRd m p0a ys/\(∀(u:Value),u∈ys->u.oneCell'=true)/\yL*80<=140737488355328/\yL <=
 9223372036854775807/\∀a' c' m',lE (some (Tok.mk (slice a' yL c') 8)) λyL_2=>m.le m'->rowRd m' a' (List.append xs ys)->TokFact m (some (Addr.mk b 0 none)) a' yL c'->yL_2=yL_2/\R (slice a' yL c') m' [])):CXT Tryz.prog 115 #[.slice p0a p0n p0c] m 8 R:=
 Zin (E:=Zb6) Zam mix Tryz.func115 [.v (.slice p0a p0n p0c)] (by kernel_rfl) (Eq.mp (by kernel_rfl) h)
def ZrH:Env:={ EB with
 frzNew:=[1] }
theorem ZpR(aA aC aE aF aY aW aV:Int)(aU:Option Addr)(aR aX:Nat)(m:Mem)(R:RT)(h:
 fzM m [int u8 aA,int u64 aC,int u64 aE,int u64 aF,int u64 aY,int i64 aW,int i64 aV,slice aU aR aX] λb m'=>rtM m m' R (func (Fn.func 61) (Array.mk []) (Array.mk [Value.pointer (some (Addr.mk b 0
 none))]))):CX Tryz.prog 38 #[.agg #[.int .u8 aA,.int .u64 aC,.int .u64 aE,.int .u64 aF,.int .u64 aY,.int .i64 aW,.int .i64 aV,.slice aU aR aX]] m [] R:=
 Zad (E:=ZrH) Zam mix Tryz.func38 (by kernel_rfl) (Eq.mp (by kernel_rfl) h)
def Zm4:Env:={ EB with
 loops:=swI nLa [(3,⟨[(13,.int .i64)],[],[],true⟩),(7,⟨[(19,.agg [.int .u8,.int .u64,.int .u64,.int .u64,.int .u64,.int .i64,.int .i64,.slice])],[],[],true⟩)]
 frzNew:=[2] }
theorem ZkF(p0g:Nat)(p0fi p0ca:List Value)(c0b c0o:Nat)(m:Mem)(xs:List (List Value))(h:
 ∀(l:Nat),lE (↑(xs.length):Int) λyL=>lV [func (Fn.yield l) (Array.mk []) (Array.mk [])] λxL=>fzM m xL λb m'=>∃v v_1 v_2 v_3 v_4 v_5 v_6 v_7:Value,lV [v,v_1,v_2,v_3,v_4,v_5,v_6,v_7] λxL_1=>lE
 [some (Box.mk b xL 106 1 true true)] λxL=>m'.reads c0b c0o xL_1/\(l=l/\(0:Int)<=0/\List.get?Internal xs (Int.toNat (0:Int))=some [agg (.mk xL_1)])/\(∃(v:Value),m' c0b (c0o+7)=some v/\chk (Za8 v) (∃I,
 inI I [int i64 ((0:Int)+1),int i64 0] [] [] m'/\∀y n m'_1 (n_1:Nat),m'.le m'_1->I [int i64 y,int i64 n] [] [] m'_1 n_1->br (decide (n < (↑(slN v):Int))) (chk (Za8 v) (atA (slA v) λb o=>Zag n (slN v)/\∃v
 v_8 v_9 v_10 v_11 v_12 v_13 v_14:Value,lV [v,v_8,v_9,v_10,v_11,v_12,v_13,v_14] λxL_2=>m'_1.reads b (o+Int.toNat n*8) xL_2/\∀b,lE (some (Box.mk b xL_2 40 8 false true)::xL) λxL_3=>chk (v.oneCell' &&
 (v_8.oneCell'&&(v_9.oneCell'&&(v_10.oneCell'&&(v_11.oneCell'&&(v_12.oneCell'&&(v_13.oneCell'&&(v_14.oneCell'&&true)))))))) (kF pG 38 [agg (.mk xL_2)] m'_1 λg fi ca m'=>∃(xs_1:List (List Value)),IX pG g fi ca
 m' xs_1/\(∀(x:List Value),x∈xs_1->Shape.fitsL [shT] x=true)/\∃(I_1:IT),I_1 [int i64 y] [] [] m' 0/\(∀y n n_2 n_3 n_4 n_5 n_6 n_7 a n_8 c m'_2 (n_9:Nat),lE (some [agg (.mk [int u8 n,int u64 n_2,int u64 n_3,
 int u64 n_4,int u64 n_5,int i64 n_6,int i64 n_7,slice a n_8 c])]) λyL_1=>m'.le m'_2->List.get?Internal xs_1 n_9=yL_1->I_1 [int i64 y] [] [] m'_2 n_9->∀(b:Nat),(l=l/\(0:Int)<=y/\List.get?Internal xs
 (Int.toNat y)=yL_1)/\(Zae xL_3/\I_1 [int i64 (y+1)] [] [] m'_2 (n_9+1))/\Zae xL_3/\((-1:Int)=yL\/(-1:Int)=(-1:Int)))/\∀y m'_2,m'.le m'_2->I_1 [int i64 y] [] [] m'_2 (xs_1.length)->Zae xL/\nxI
 n_1 I [int i64 y,int i64 (i64.wrap (n+1))] [] [] m'_2))) (y=yL\/y=(-1:Int))))/\((-1:Int)=yL\/(-1:Int)=(-1:Int))):IX Tryz.prog 61 [] [.pointer (some ⟨c0b,c0o,none⟩)] m xs:=
 Zhm (E:=Zm4) Zam mix Tryz.func61 _ _ _ (by kernel_rfl) (Eq.mp (by kernel_rfl) h)
def ZrI:Env:={ EB with
 loops:=swI nLa [(3,⟨[(6,.agg [.int .u8,.int .u64,.int .u64,.int .u64,.int .u64,.int .i64,.int .i64,.slice])],[3],[],false⟩)]
 frzNew:=[1] }
theorem ZpS(aA aC aE aF aY aW aV:Int)(aU:Option Addr)(aR aX:Nat)(m:Mem)(R:RT)(h:
 lV [int u8 aA,int u64 aC,int u64 aE,int u64 aF,int u64 aY,int i64 aW,int i64 aV,slice aU aR aX] λxL=>fzM m xL λb m'=>∀b_1,lE [some (Box.mk b_1 [] 3 1 false true),some (Box.mk b xL 40 8
 true true)] λxL_1=>kF pG 38 [agg (.mk xL)] m' λg fi ca m'=>∃(xs:List (List Value)),IX pG g fi ca m' xs/\(∀(x:List Value),x∈xs->Shape.fitsL [shT] x=true)/\∃(I:IT),I [] [[int i64 0]] [] m' 0/\(∀n n_1
 n_2 n_3 n_4 n_5 n_6 a n_7 c (cs:List Value) m'_1 (n_8:Nat),m'.le m'_1->List.get?Internal xs n_8=some [agg (.mk [int u8 n,int u64 n_1,int u64 n_2,int u64 n_3,int u64 n_4,int i64 n_5,int i64 n_6,slice a n_7 c])]->I
 [] [cs] [] m'_1 n_8->Eng.ZvD cs 0 λv=>lE (i64.wrap (RowKit.intOf v+1)) λyL=>chk (ZaR i64 v&&decide (i64=i64)) (br (decide (yL > 10000)) (Zae xL_1/\rtM m m'_1 R (bool (decide (yL<=10000)))) (Zae xL_1/\I
 [] [[int i64 yL]] [] m'_1 (n_8+1))))/\∀(cs:List Value) m'_1,m'.le m'_1->I [] [cs] [] m'_1 (xs.length)->Eng.ZvD cs 0 λv=>chk (ZaR i64 v&&decide (i64=i64)) (rtM m m'_1 R (bool (decide (RowKit.intOf v<=10000))))):CX Tryz.prog 37 #[.agg #[.int .u8 aA,.int .u64 aC,.int .u64 aE,.int .u64 aF,.int .u64 aY,.int .i64 aW,.int .i64 aV,.slice aU aR aX]] m [] R:=
 Zad (E:=ZrI) Zam mix Tryz.func37 (by kernel_rfl) (Eq.mp (by kernel_rfl) h)
def ZpT:Env:={ EB with
 joins:=swI none [(1,some [(18,.bool)]),(3,some [(4,.bool)])] }
theorem Zm5(p0 p1:Int)(m:Mem)(R:RT)(h:
 ∃(b:Bool),lV [bool b] λxL=>br (decide (p0 < 0)) ([bool true]=xL) (br (decide (p0 > 16)) ([bool true]=xL) (br (p0 == 1) ([bool (p1 == 1)]=xL) ([bool false]=xL)))/\br b (rtM m m R (bool false)) (∃(b:Bool),lV
 [bool b] λxL=>br (p1 == (-1)) ([bool true]=xL) (br (decide (p1 ≥ 1)) (br (decide (p1<=16)) ([bool (decide (p1 ≥ p0))]=xL) ([bool false]=xL)) ([bool false]=xL))/\rtM m m R (bool b))):CX Tryz.prog 201 #[.int .i64 p0,.int .i64 p1] m [] R:=
 Zad (E:=ZpT) Zam mix Tryz.func201 (by kernel_rfl) (Eq.mp (by kernel_rfl) h)
def ZrJ:Env:={ EB with
 frzNew:=[2] }
theorem ZpU(aA aC aE aF aY aW aV:Int)(aU:Option Addr)(aR aX c0b c0o:Nat)(m:Mem)(R:RT)(h:
 fzM m [int u8 aA,int u64 aC,int u64 aE,int u64 aF,int u64 aY,int i64 aW,int i64 aV,slice aU aR aX] λb m'=>∃(v:Value),m' c0b c0o=some v/\chk (ZaR u8 v) (rtM m m' R (bool (aA ==
 RowKit.intOf v)))):CX Tryz.prog 208 #[.agg #[.int .u8 aA,.int .u64 aC,.int .u64 aE,.int .u64 aF,.int .u64 aY,.int .i64 aW,.int .i64 aV,.slice aU aR aX],.pointer (some ⟨c0b,c0o,none⟩)] m [] R:=
 Zad (E:=ZrJ) Zam mix Tryz.func208 (by kernel_rfl) (Eq.mp (by kernel_rfl) h)
def ZbD:Env:={ EB with
 loops:=swI nLa [(2,⟨[(8,.int .i64)],[],[],false⟩)] }
theorem Zbx(p0a:Option Addr)(p0n p0c p1g:Nat)(p1fi p1ca:List Value)(m:Mem)(R:RT)(h:
 ∃I,inI I [int i64 0] [] [] m/\∀n m' (n_1:Nat),m.le m'->I [int i64 n] [] [] m' n_1->br (decide (n < (↑p0n:Int))) (atA p0a λb o=>Zag n p0n/\∃v v_1 v_2 v_3 v_4 v_5 v_6 v_7:Value,lV [v,v_1,v_2,v_3,v_4,
 v_5,v_6,v_7] λxL=>m'.reads b (o+Int.toNat n*8) xL/\kB pG p1g (List.append (List.append p1fi [agg (.mk xL)]) p1ca) m' λb m'=>br b (rtM m m' R (int i64 n)) (nxI n_1 I [int i64 (i64.wrap (n+1))] [] [] m')) (rtM m
 m' R (int i64 (-1)))):CX Tryz.prog 214 #[.slice p0a p0n p0c,.func (.func p1g) p1fi.toArray p1ca.toArray] m [] R:=
 Zad (E:=ZbD) Zam mix Tryz.func214 (by kernel_rfl) (Eq.mp (by kernel_rfl) h)
def Zbm:Env:=EB
theorem Zbf(p0a:Option Addr)(p0n p0c p1g:Nat)(p1fi p1ca:List Value)(m:Mem)(R:RT)(h:
 kI pG 214 [slice p0a p0n p0c,func (Fn.func p1g) (Array.mk p1fi) (Array.mk p1ca)] m λn m'=>rtM m m' R (bool (decide (n ≥ 0)))):CX Tryz.prog 207 #[.slice p0a p0n p0c,.func (.func p1g) p1fi.toArray p1ca.toArray] m [] R:=
 Zad (E:=Zbm) Zam mix Tryz.func207 (by kernel_rfl) (Eq.mp (by kernel_rfl) h)
def Zxs:Env:={ EB with
 frzNew:=[2,3] }
theorem ZuJ(aA aC aE aF aY aW aV:Int)(aU:Option Addr)(aR aX:Nat)(p1:Int)(m:Mem)(R:RT)(h:
 fzM m [int u8 aA,int u64 aC,int u64 aE,int u64 aF,int u64 aY,int i64 aW,int i64 aV,slice aU aR aX] λb m'=>fzM m' [int u8 p1] λb m'=>kB pG 207 [slice aU aR aX,func (Fn.func 208)
 (Array.mk []) (Array.mk [Value.pointer (some (Addr.mk b 0 none))])] m' λb m'=>rtM m m' R (bool b)):CX Tryz.prog 200 #[.agg #[.int .u8 aA,.int .u64 aC,.int .u64 aE,.int .u64 aF,.int .u64 aY,.int .i64 aW,.int .i64 aV,.slice aU aR aX],.int .u8 p1] m [] R:=
 Zad (E:=Zxs) Zam mix Tryz.func200 (by kernel_rfl) (Eq.mp (by kernel_rfl) h)
def ZrK:Env:={ EB with
 joins:=swI none [(1,some [(37,.bool)]),(9,some [(2,.bool)]),(11,some [(2,.bool)]),(13,some [(2,.bool)]),(14,some [(2,.bool)])]
 frzNew:=[1] }
theorem ZpV(aA aC aE aF aY aW aV:Int)(aU:Option Addr)(aR aX:Nat)(m:Mem)(R:RT)(h:
 lE (↑aR:Int) λyL=>lV [int u8 aA,int u64 aC,int u64 aE,int u64 aF,int u64 aY,int i64 aW,int i64 aV,slice aU aR aX] λxL=>lX (agg (.mk xL)) λyL_1=>lE (decide (aA < 3)) λyL_2=>
 lX (agg (.mk [int u64 aC,int u64 aE,int u64 aF,int u64 aY])) λyL_3=>lV [bool (decide (yL > 0))] λxL_1=>fzM m xL λb m'=>∃(b_1:Bool),lV [bool b_1] λxL_2=>lE [some (Box.mk b xL 40 8 true true)] fun
 xL=>br (!aA == 2) (∃(b:Bool),EqIs pG 37 yL_3 (agg (.mk [int u64 0,int u64 0,int u64 0,int u64 0])) b/\br (!b) (Zae xL/\[bool true]=xL_2) (br (!aA == 5) (br (!aW == 0) (Zae xL/\[bool true]=xL_2) (br
 (!aV == 0) (Zae xL/\[bool true]=xL_2) (br yL_2 (Zae xL/\xL_1=xL_2) (Zae xL/\[bool false]=xL_2)))) (br yL_2 (Zae xL/\xL_1=xL_2) (Zae xL/\[bool false]=xL_2)))) (br (!aA == 5) (br (!aW == 0)
 (Zae xL/\[bool true]=xL_2) (br (!aV == 0) (Zae xL/\[bool true]=xL_2) (br yL_2 (Zae xL/\xL_1=xL_2) (Zae xL/\[bool false]=xL_2)))) (br yL_2 (Zae xL/\xL_1=xL_2) (Zae xL/\[bool false]=xL_2)))/\br
 b_1 (rtM m m' R (bool false)) (br (aA == 1) (rtM m m' R (bool true)) (br (aA == 2) (∃(b:Bool),EqIs pG 37 yL_3 (agg (.mk [int u64 0,int u64 0,int u64 0,int u64 0])) b/\rtM m m' R (bool !b)) (br (aA == 3) (∃(b:
 Bool),br (decide (yL > 1)) (kB pG 200 [yL_1,int u8 1] m' λb_2 m'=>br (!b_2) (kB pG 200 [yL_1,int u8 3] m' λb_3 m'=>Zae xL/\[bool !b_3]=[bool b]) (Zae xL/\[bool false]=[bool b])) (Zae xL/\[bool false] =
 [bool b])/\rtM m m' R (bool b)) (br (aA == 4) (∃(b:Bool),br (decide (yL > 1)) (kB pG 200 [yL_1,int u8 4] m' λb_2 m'=>Zae xL/\[bool !b_2]=[bool b]) (Zae xL/\[bool false]=[bool b])/\rtM m m' R (bool b)) (br
 (aA == 5) (∃(b:Bool),br (yL == 1) (kB pG 201 [int i64 aW,int i64 aV] m' λb_2 m'=>br b_2 (kB pG 200 [yL_1,int u8 1] m' λb_3 m'=>Zae xL/\[bool !b_3]=[bool b]) (Zae xL/\[bool false]=[bool b]))
 (Zae xL/\[bool false]=[bool b])/\rtM m m' R (bool b)) (∃(b:Bool),br (aA == 6) (Zae xL/\[bool (yL == 1)]=[bool b]) (Zae xL/\[bool false]=[bool b])/\rtM m m' R (bool b)))))))):CX Tryz.prog 188 #[.agg #[.int .u8 aA,.int .u64 aC,.int .u64 aE,.int .u64 aF,.int .u64 aY,.int .i64 aW,.int .i64 aV,.slice aU aR aX]] m [] R:=
 Zad (E:=ZrK) Zam mix Tryz.func188 (by kernel_rfl) (Eq.mp (by kernel_rfl) h)
def ZrL:Env:={ EB with
 loops:=swI nLa [(5,⟨[(9,.agg [.int .u8,.int .u64,.int .u64,.int .u64,.int .u64,.int .i64,.int .i64,.slice])],[2],[],false⟩)]
 frzNew:=[1] }
theorem ZpW(aA aC aE aF aY aW aV:Int)(aU:Option Addr)(aR aX:Nat)(m:Mem)(R:RT)(h:
 lV [int u8 aA,int u64 aC,int u64 aE,int u64 aF,int u64 aY,int i64 aW,int i64 aV,slice aU aR aX] λxL=>fzM m xL λb m'=>∀b_1,lE [some (Box.mk b_1 [] 4 1 false true),some (Box.mk b xL 40 8
 true true)] λxL_1=>kB pG 37 [agg (.mk xL)] m' λb m'=>br (!b) (rtM m m' R (bool false)) (kF pG 38 [agg (.mk xL)] m' λg fi ca m'=>∃(xs:List (List Value)),IX pG g fi ca m' xs/\(∀(x:List Value),x∈xs->
 Shape.fitsL [shT] x=true)/\∃(I:IT),I [] [[bool false]] [] m' 0/\(∀n n_1 n_2 n_3 n_4 n_5 n_6 a n_7 c (cs:List Value) m'_1 (n_8:Nat),lV [agg (.mk [int u8 n,int u64 n_1,int u64 n_2,int u64 n_3,int u64 n_4,int i64
 n_5,int i64 n_6,slice a n_7 c])] λxL=>m'.le m'_1->List.get?Internal xs n_8=some xL->I [] [cs] [] m'_1 n_8->∀(b:Nat),kB pG 188 xL m'_1 λb m'=>br (!b) (Zae xL_1/\rtM m m' R (bool false)) (Zae xL_1/\I []
 [cs] [] m' (n_8+1)))/\∀(cs:List Value) m'_1,m'.le m'_1->I [] [cs] [] m'_1 (xs.length)->rtM m m'_1 R (bool true))):CX Tryz.prog 165 #[.agg #[.int .u8 aA,.int .u64 aC,.int .u64 aE,.int .u64 aF,.int .u64 aY,.int .i64 aW,.int .i64 aV,.slice aU aR aX]] m [] R:=
 Zad (E:=ZrL) Zam mix Tryz.func165 (by kernel_rfl) (Eq.mp (by kernel_rfl) h)
def ZuK:Env:={ EB with
 loops:=swI nLa [(5,⟨[(9,.agg [.int .u8,.int .u64,.int .u64,.int .u64,.int .u64,.int .i64,.int .i64,.slice])],[3],[],false⟩)]
 frzNew:=[1] }
theorem ZrM(aA aC aE aF aY aW aV:Int)(aU:Option Addr)(aR aX:Nat)(m:Mem)(R:RT)(h:
 lV [int u8 aA,int u64 aC,int u64 aE,int u64 aF,int u64 aY,int i64 aW,int i64 aV,slice aU aR aX] λxL=>fzM m xL λb m'=>kB pG 37 [agg (.mk xL)] m' λb_1 m'=>br (!b_1) (rtM m m' R (int i64
 10001)) (∀b_2,kF pG 38 [agg (.mk xL)] m' λg fi ca m'=>∃(xs:List (List Value)),IX pG g fi ca m' xs/\(∀(x:List Value),x∈xs->Shape.fitsL [shT] x=true)/\∃(I:IT),I [] [[int i64 0]] [] m' 0/\(∀n n_1 n_2 n_3
 n_4 n_5 n_6 a n_7 c (cs:List Value) m'_1 (n_8:Nat),m'.le m'_1->List.get?Internal xs n_8=some [agg (.mk [int u8 n,int u64 n_1,int u64 n_2,int u64 n_3,int u64 n_4,int i64 n_5,int i64 n_6,slice a n_7 c])]->I [] [cs]
 [] m'_1 n_8->Eng.ZvD cs 0 λv=>chk (ZaR i64 v&&decide (i64=i64)) (Zae [some (Box.mk b_2 [] 3 1 false true),some (Box.mk b xL 40 8 true true)]/\I [] [[int i64 (i64.wrap (RowKit.intOf v+1))]] [] m'_1 (n_8+1)))/\
 ∀(cs:List Value) m'_1,m'.le m'_1->I [] [cs] [] m'_1 (xs.length)->Eng.ZvD cs 0 λv=>rtM m m'_1 R v)):CX Tryz.prog 62 #[.agg #[.int .u8 aA,.int .u64 aC,.int .u64 aE,.int .u64 aF,.int .u64 aY,.int .i64 aW,.int .i64 aV,.slice aU aR aX]] m [] R:=
 Zad (E:=ZuK) Zam mix Tryz.func62 (by kernel_rfl) (Eq.mp (by kernel_rfl) h)
def ZiM:Env:={ EB with
 loops:=swI nLa [(5,⟨[(3,.int .i64),(14,.int .i64)],[],[],false⟩)]
 frzNew:=[1] }
theorem Zhv(aA aC aE aF aY aW aV:Int)(aU:Option Addr)(aR aX:Nat)(m:Mem)(R:RT)(h:
 lE (if(0:Int) > aW then(0:Int)else aW) λyL=>lE (if aV > yL then aV else yL) λyL_1=>lE (if(1:Int) > yL then(1:Int)else yL) λyL=>lE (if(10001:Int) < yL_1 then(10001:Int)else yL_1) λyL_2
 => lE (if(10001:Int) < yL then(10001:Int)else yL) λyL=>lV [int u8 aA,int u64 aC,int u64 aE,int u64 aF,int u64 aY,int i64 aW,int i64 aV,slice aU aR aX] λxL=>fzM m xL λb m'=>lE
 [some (Box.mk b xL 40 8 true true)] λxL=>br (aA == 2) (∃I,inI I [int i64 1,int i64 0] [] [] m'/\∀n n_1 m'_1 (n_2:Nat),m'.le m'_1->I [int i64 n,int i64 n_1] [] [] m'_1 n_2->br (decide (n_1 < (↑aR:Int))) (atA
 aU λb o=>Zag n_1 aR/\∃v v_1 v_2 v_3 v_4 v_5 v_6 v_7:Value,lV [v,v_1,v_2,v_3,v_4,v_5,v_6,v_7] λxL_1=>m'_1.reads b (o+Int.toNat n_1*8) xL_1/\∀(b:Nat),chk (v.oneCell'&&(v_1.oneCell' &&
 (v_2.oneCell'&&(v_3.oneCell'&&(v_4.oneCell'&&(v_5.oneCell'&&(v_6.oneCell'&&(v_7.oneCell'&&true)))))))) (kI pG 189 [agg (.mk xL_1)] m'_1 λn_3 m'=>Zae xL/\nxI n_2 I [int i64 (i64.wrap (n+n_3)),int i64
 (i64.wrap (n_1+1))] [] [] m')) (br (aA == 5) (br (aV == (-1)) (rtM m m'_1 R (int i64 (if(10001:Int) < i64.wrap (n*yL)then(10001:Int)else i64.wrap (n*yL)))) (rtM m m'_1 R (int i64 (if(10001:Int) < i64.wrap (n *
 yL_2)then(10001:Int)else i64.wrap (n*yL_2))))) (rtM m m'_1 R (int i64 (if(10001:Int) < n then(10001:Int)else n))))) (∃I,inI I [int i64 0,int i64 0] [] [] m'/\∀n n_1 m'_1 (n_2:Nat),m'.le m'_1->I [int i64 n,
 int i64 n_1] [] [] m'_1 n_2->br (decide (n_1 < (↑aR:Int))) (atA aU λb o=>Zag n_1 aR/\∃v v_1 v_2 v_3 v_4 v_5 v_6 v_7:Value,lV [v,v_1,v_2,v_3,v_4,v_5,v_6,v_7] λxL_1=>m'_1.reads b (o+Int.toNat
 n_1*8) xL_1/\∀(b:Nat),chk (v.oneCell'&&(v_1.oneCell'&&(v_2.oneCell'&&(v_3.oneCell'&&(v_4.oneCell'&&(v_5.oneCell'&&(v_6.oneCell'&&(v_7.oneCell'&&true)))))))) (kI pG 189 [agg (.mk xL_1)] m'_1 λn_3 m'=>
 Zae xL/\nxI n_2 I [int i64 (i64.wrap (n+n_3)),int i64 (i64.wrap (n_1+1))] [] [] m')) (br (aA == 5) (br (aV == (-1)) (rtM m m'_1 R (int i64 (if(10001:Int) < i64.wrap (n*yL)then(10001:Int)else i64.wrap (n *
 yL)))) (rtM m m'_1 R (int i64 (if(10001:Int) < i64.wrap (n*yL_2)then(10001:Int)else i64.wrap (n*yL_2))))) (rtM m m'_1 R (int i64 (if(10001:Int) < n then(10001:Int)else n)))))):CX Tryz.prog 189 #[.agg #[.int .u8 aA,.int .u64 aC,.int .u64 aE,.int .u64 aF,.int .u64 aY,.int .i64 aW,.int .i64 aV,.slice aU aR aX]] m [] R:=
 Zad (E:=ZiM) Zam mix Tryz.func189 (by kernel_rfl) (Eq.mp (by kernel_rfl) h)
def ZiN:Env:={ EB with
 frzNew:=[1] }
theorem Zhw(aA aC aE aF aY aW aV:Int)(aU:Option Addr)(aR aX:Nat)(m:Mem)(R:RT)(h:
 lV [int u8 aA,int u64 aC,int u64 aE,int u64 aF,int u64 aY,int i64 aW,int i64 aV,slice aU aR aX] λxL=>fzM m xL λb m'=>kB pG 37 [agg (.mk xL)] m' λb m'=>br (!b) (rtM m m' R (int i64
 10001)) (kI pG 189 [agg (.mk xL)] m' λn m'=>rtM m m' R (int i64 n))):CX Tryz.prog 166 #[.agg #[.int .u8 aA,.int .u64 aC,.int .u64 aE,.int .u64 aF,.int .u64 aY,.int .i64 aW,.int .i64 aV,.slice aU aR aX]] m [] R:=
 Zad (E:=ZiN) Zam mix Tryz.func166 (by kernel_rfl) (Eq.mp (by kernel_rfl) h)
def ZpX:Env:={ EB with
 loops:=swI nLa [(6,⟨[(10,.agg [.int .u8,.int .u64,.int .u64,.int .u64,.int .u64,.int .i64,.int .i64,.slice])],[3],[],false⟩)]
 frzNew:=[1] }
theorem Zm6(aA aC aE aF aY aW aV:Int)(aU:Option Addr)(aR aX:Nat)(m:Mem)(R:RT)(h:
 lV [int u8 aA,int u64 aC,int u64 aE,int u64 aF,int u64 aY,int i64 aW,int i64 aV,slice aU aR aX] λxL=>fzM m xL λb m'=>lE [some (Box.mk b xL 40 8 true true)] λxL_1=>kB pG 37 [agg (.mk
 xL)] m' λb m'=>br (!b) (rtM m m' R (int i64 10001)) (∀b,lE (some (Box.mk b [] 3 1 false true)::xL_1) λxL_2=>kF pG 38 [agg (.mk xL)] m' λg fi ca m'=>∃(xs:List (List Value)),IX pG g fi ca m' xs/\(∀(x:List
 Value),x∈xs->Shape.fitsL [shT] x=true)/\∃(I:IT),I [] [[int i64 0]] [] m' 0/\(∀n n_1 n_2 n_3 n_4 n_5 n_6 a n_7 c (cs:List Value) m'_1 (n_8:Nat),m'.le m'_1->List.get?Internal xs n_8=some [agg (.mk [int u8 n,int
 u64 n_1,int u64 n_2,int u64 n_3,int u64 n_4,int i64 n_5,int i64 n_6,slice a n_7 c])]->I [] [cs] [] m'_1 n_8->∀(b:Nat),br (n == 6) (Eng.ZvD cs 0 λv=>chk (ZaR i64 v&&decide (i64=i64)) (Zae xL_2/\I []
 [[int i64 (i64.wrap (RowKit.intOf v+1))]] [] m'_1 (n_8+1))) (Zae xL_2/\I [] [cs] [] m'_1 (n_8+1)))/\∀(cs:List Value) m'_1,m'.le m'_1->I [] [cs] [] m'_1 (xs.length)->Eng.ZvD cs 0 λv=>rtM m m'_1 R v)):CX Tryz.prog 9 #[.agg #[.int .u8 aA,.int .u64 aC,.int .u64 aE,.int .u64 aF,.int .u64 aY,.int .i64 aW,.int .i64 aV,.slice aU aR aX]] m [] R:=
 Zad (E:=ZpX) Zam mix Tryz.func9 (by kernel_rfl) (Eq.mp (by kernel_rfl) h)
def ZrN:Env:={ EB with
 frzNew:=[1] }
theorem ZpY(aA aC:Bool)(aE aF aY aW aV dK dM:Int)(nB:Option Addr)(nC nD:Nat)(m:Mem)(R:RT)(h:
 lV [int u8 aE,int u64 aF,int u64 aY,int u64 aW,int u64 aV,int i64 dK,int i64 dM,slice nB nC nD] λxL=>lV [agg (.mk xL)] λxL_1=>fzM m (bool aA::bool aC::xL) λb m'=>kB pG 165 xL_1
 m' λb m'=>br (!b) (rtM m m' R (int i64 80)) (kI pG 62 xL_1 m' λn m'=>br (decide (n > 120)) (rtM m m' R (int i64 81)) (kI pG 166 xL_1 m' λn m'=>br (decide (n > 400)) (rtM m m' R (int i64 82)) (kI pG 9 xL_1 m' λn
 m'=>br (decide (n > 9)) (rtM m m' R (int i64 83)) (rtM m m' R (int i64 0)))))):CX Tryz.prog 132 #[.agg #[.bool aA,.bool aC,.int .u8 aE,.int .u64 aF,.int .u64 aY,.int .u64 aW,.int .u64 aV,.int .i64 dK,.int .i64 dM,.slice nB nC nD]] m [] R:=
 Zad (E:=ZrN) Zam mix Tryz.func132 (by kernel_rfl) (Eq.mp (by kernel_rfl) h)
def ZaJ:Env:={ EB with
 loops:=swI nLa [(4,⟨[(17,.int .i64)],[],[],false⟩)] }
theorem ZaI(p0a:Option Addr)(p0n p0c:Nat)(p1a:Option Addr)(p1n p1c p2g:Nat)(p2fi p2ca:List Value)(m:Mem)(R:RT)(h:
 br (!(↑p0n:Int) == (↑p1n:Int)) (rtM m m R (bool false)) (∃I,inI I [int i64 0] [] [] m/\∀n m' (n_1:Nat),m.le m'->I [int i64 n] [] [] m' n_1->br (decide (n < (↑p0n:Int))) (atA p0a λb o=>Zag n p0n/\∃v v_1
 v_2 v_3 v_4 v_5 v_6 v_7:Value,lV [v,v_1,v_2,v_3,v_4,v_5,v_6,v_7] λxL=>m'.reads b (o+Int.toNat n*8) xL/\∀(b:Nat),chk (v.oneCell'&&(v_1.oneCell'&&(v_2.oneCell'&&(v_3.oneCell'&&(v_4.oneCell' &&
 (v_5.oneCell'&&(v_6.oneCell'&&(v_7.oneCell'&&true)))))))) (atA p1a λb o=>Zag n p1n/\∃v v_8 v_9 v_10 v_11 v_12 v_13 v_14:Value,lV [v,v_8,v_9,v_10,v_11,v_12,v_13,v_14] λxL_1=>m'.reads b (o+Int.toNat
 n*8) xL_1/\∀(b:Nat),chk (v.oneCell'&&(v_8.oneCell'&&(v_9.oneCell'&&(v_10.oneCell'&&(v_11.oneCell'&&(v_12.oneCell'&&(v_13.oneCell'&&(v_14.oneCell'&&true)))))))) (kB pG p2g (List.append (List.append p2fi [agg
 (.mk xL),agg (.mk xL_1)]) p2ca) m' λb m'=>br (!b) (rtM m m' R (bool false)) (nxI n_1 I [int i64 (i64.wrap (n+1))] [] [] m')))) (rtM m m' R (bool true)))):CX Tryz.prog 199 #[.slice p0a p0n p0c,.slice p1a p1n p1c,.func (.func p2g) p2fi.toArray p2ca.toArray] m [] R:=
 Zad (E:=ZaJ) Zam mix Tryz.func199 (by kernel_rfl) (Eq.mp (by kernel_rfl) h)
def ZuL:Env:={ EB with
 joins:=swI none [(1,some [(4,.bool)])]
 frzNew:=[2,3] }
theorem ZrO(aA aC aE aF aY aW aV:Int)(aU:Option Addr)(aR aX:Nat)(bN bR bO bW dC dV eO:Int)(fQ:Option Addr)(fR fS:Nat)(m:Mem)(R:RT)(h:
 lV [int u8 aA,int u64 aC,int u64 aE,int u64 aF,int u64 aY,int i64 aW,int i64 aV,slice aU aR aX] λxL=>lV [int u8 bN,int u64 bR,int u64 bO,int u64 bW,int u64 dC,int i64 dV,int i64
 eO,slice fQ fR fS] λxL_1=>fzM m xL λb m'=>lE [some (Box.mk b xL 40 8 true true)] λxL=>fzM m' xL_1 λb m'=>∃(b_1:Bool),lV [bool b_1] λxL_2=>lE (some (Box.mk b xL_1 40 8 true true)::xL) fun
 xL=>br (aA == bN) (∃(b:Bool),EqIs pG 37 (agg (.mk [int u64 aC,int u64 aE,int u64 aF,int u64 aY])) (agg (.mk [int u64 bR,int u64 bO,int u64 bW,int u64 dC])) b/\br b (br (aW == dV) (br (aV ==
 eO) (kB pG 199 [slice aU aR aX,slice fQ fR fS,func (Fn.func 187) (Array.mk []) (Array.mk [])] m' λb m'=>Zae xL/\[bool b]=xL_2) (Zae xL/\[bool false]=xL_2)) (Zae xL/\[bool false]=xL_2))
 (Zae xL/\[bool false]=xL_2)) (Zae xL/\[bool false]=xL_2)/\rtM m m' R (bool b_1)):CX Tryz.prog 187 #[.agg #[.int .u8 aA,.int .u64 aC,.int .u64 aE,.int .u64 aF,.int .u64 aY,.int .i64 aW,.int .i64 aV,.slice aU aR aX],.agg #[.int .u8 bN,.int .u64 bR,.int .u64 bO,.int .u64 bW,.int .u64 dC,.int .i64 dV,.int .i64 eO,.slice fQ fR fS]] m [] R:=
 Zad (E:=ZuL) Zam mix Tryz.func187 (by kernel_rfl) (Eq.mp (by kernel_rfl) h)
def ZuM:Env:={ EB with
 joins:=swI none [(1,some [(4,.bool)])]
 frzNew:=[2,3] }
theorem ZrP(aA aC aE aF aY aW aV:Int)(aU:Option Addr)(aR aX:Nat)(bN bR bO bW dC dV eO:Int)(fQ:Option Addr)(fR fS:Nat)(m:Mem)(R:RT)(h:
 lV [int u8 aA,int u64 aC,int u64 aE,int u64 aF,int u64 aY,int i64 aW,int i64 aV,slice aU aR aX] λxL=>lV [int u8 bN,int u64 bR,int u64 bO,int u64 bW,int u64 dC,int i64 dV,int i64
 eO,slice fQ fR fS] λxL_1=>fzM m xL λb m'=>lE [some (Box.mk b xL 40 8 true true)] λxL_2=>fzM m' xL_1 λb m'=>∃(b_1:Bool),lE (some (Box.mk b xL_1 40 8 true true)::xL_2) λxL_3=>(kB pG 37 [agg
 (.mk xL)] m' λb m'=>br b (kB pG 37 [agg (.mk xL_1)] m' λb m'=>br b (kB pG 187 [agg (.mk xL),agg (.mk xL_1)] m' λb m'=>Zae xL_3/\[bool b]=[bool b_1]) (Zae xL_3/\[bool false]=[bool b_1])) (Zae xL_3/\
 [bool false]=[bool b_1]))/\rtM m m' R (bool b_1)):CX Tryz.prog 164 #[.agg #[.int .u8 aA,.int .u64 aC,.int .u64 aE,.int .u64 aF,.int .u64 aY,.int .i64 aW,.int .i64 aV,.slice aU aR aX],.agg #[.int .u8 bN,.int .u64 bR,.int .u64 bO,.int .u64 bW,.int .u64 dC,.int .i64 dV,.int .i64 eO,.slice fQ fR fS]] m [] R:=
 Zad (E:=ZuM) Zam mix Tryz.func164 (by kernel_rfl) (Eq.mp (by kernel_rfl) h)
end Go.Proofs.YtdopppmkbkkmiaaGreatDoor
namespace Go.Proofs.YtdopppmkbkkmiaaGreatDoor
open Go Go.Eng Go.Rx Go.Proofs Go.RowKit
set_option maxRecDepth 100000
theorem Ziu(t:T)(m:Mem):CX Tryz.prog 38 #[t.v] m [] (λv m' _=>∃b,v=.func (.func 61) #[] #[.pointer (some ⟨b,0,none⟩)]/\m'.reads b 0 t.cs):=by
 apply ZpR
 intro b m' hm hb
 exact⟨m',hm,Mem.le_refl _,b,rfl,hb⟩
theorem ZfJ(t:T)(m:Mem)(c0b:Nat)(cQ:m.reads c0b 0 t.cs)(dX:Rep m t):IX Tryz.prog 61 [] [.pointer (some ⟨c0b,0,none⟩)] m (t.nodes.map λx=>[x.v]):=by
 apply ZkF 0 [] [] c0b 0
 intro l b m' hm hb
 have lA:=cQ.mono hm
 refine⟨_,_,_,_,_,_,_,_,lA,⟨rfl,by omega,?_⟩,?_,.inr rfl⟩
 ·rw[ZcH];rfl
 refine⟨t.sl,lA 7 _ rfl,Zaa rfl ?_⟩
 refine⟨λxs _ _ m'' q=>∃i:Nat,i<=t.subs.length/\xs=[.int .i64 ((1+(Zaz (t.subs.take i)).length:Nat):Int),.int .i64 i]/\m'.le m''/\q=t.subs.length - i,⟨t.subs.length,0,by omega,?_,Mem.le_refl _,by omega⟩,?_⟩
 ·simp[Zaz]
 rintro y n m2 q aH ⟨i,hi,cT,jl,hq⟩
 simp only[List.cons.injEq,Value.int.injEq,true_and,and_true]at cT
 obtain⟨rfl,rfl⟩:=cT
 have aQ:slN t.sl=t.subs.length:=rfl
 rw[aQ]
 refine Zab (λaG=>?_) (λbK=>?_)
 ·have aT:i < t.subs.length:=by simpa using aG
  obtain⟨x,hx⟩:∃x,t.subs[i]?=some x:=⟨_,zA3 aT⟩
  have bL:x∈t.subs:=zA2 hx
  have bI:=Zrr bL
  obtain⟨qp,h0|⟨b1,o1,ha,fI⟩⟩:=ZjI dX
  ·rw[h0]at aT;simp at aT
  obtain⟨dH,dY⟩:=(fI.mono ((mLt hm jl))).get hx
  refine Zaa rfl ⟨b1,o1,ha,⟨by omega,by omega⟩,_,_,_,_,_,_,_,_,dH,λb2=>Zaa rfl ?_⟩
  refine⟨_,trivial,Ziu x m2,λv m' css h=>?_,?_⟩
  ·obtain⟨b3,rfl,_⟩:=h;rfl
  rintro g fi ca m3 aS ⟨b3,hv,eS⟩
  obtain⟨rfl,rfl,rfl⟩:=Zcr hv
  refine⟨_,ZfJ x m3 b3 eS (dY.mono aS),λy hy=>?_,?_⟩
  ·obtain⟨z,_,rfl⟩:=List.mem_map.1 hy;exact Zrs z
  refine⟨λxs _ _ m'' q=>q<=x.nodes.length/\xs=[.int .i64 ((1+(Zaz (t.subs.take i)).length+q:Nat):Int)]/\m3.le m'',⟨Nat.zero_le _,rfl,Mem.le_refl _⟩,?_,?_⟩
  ·rintro y n0 n1 n2 n3 n4 n5 n6 a n7 c m4 q bM hq ⟨ib,hy,_⟩ b4
   simp only[List.cons.injEq,Value.int.injEq,true_and,and_true]at hy
   subst hy
   have hq':(List.map (λz:T=>[z.v]) x.nodes)[(q:Nat)]?=some [Value.agg #[.int .u8 n0,.int .u64 n1,.int .u64 n2,.int .u64 n3,.int .u64 n4,.int .i64 n5,.int .i64 n6,.slice a n7 c]]:=hq
   rw[List.getElem?_map]at hq'
   obtain⟨z,hz,iV⟩:=Option.map_eq_some_iff.1 hq'
   have qq:q < x.nodes.length:=(zA0 hz).1
   refine⟨⟨rfl,by omega,?_⟩,⟨rfl,by omega,?_,bM⟩,rfl,.inr rfl⟩
   ·rw[zA8]
    show(t.nodes.map λx=>[x.v])[1+(Zaz (t.subs.take i)).length+q]?=_
    rw[List.getElem?_map,ZwX hx hz,<-iV];rfl
   ·congr 2
  ·rintro y m4 bM ⟨ib,hy,_⟩
   simp only[List.cons.injEq,Value.int.injEq,true_and,and_true]at hy
   subst hy
   refine⟨rfl,t.subs.length - (i+1),by omega,i+1,by omega,?_,mLt jl (mLt aS bM),rfl⟩
   rw[Zal (by omega) (by omega),Zph hx,zA1]
   simp[T.v,Nat.add_assoc]
 ·have hi':i=t.subs.length:=by
   have:¬((i:Int) < (t.subs.length:Int)):=by simpa using bK
   omega
  subst hi'
  left
  rw[List.take_length,ZcH]
  simp
  omega
termination_by SizeOf.sizeOf t
decreasing_by exact bI
theorem ZuN(least most:Int)(m:Mem):CX Tryz.prog 201 #[.int .i64 least,.int .i64 most] m [] (Ret (.bool (Zkm least most))):=by
 apply Zm5
 refine⟨decide (least < 0)||decide (least > 16)||(least == 1&&most == 1),?_,Zab (λh=>Zac (Mem.le_refl _) ?_) (λh=>⟨most == -1||(decide (most ≥ 1)&&decide (most<=16)&&decide (most ≥ least)),?_,Zac (Mem.le_refl _) ?_⟩)⟩
 ·simp only[Zt9];(repeat' split) <;> simp_all <;> omega
 ·simp[Ret,Zkm,h]
 ·simp only[Zt9];(repeat' split) <;> simp_all <;> omega
 ·simp[Ret,Zkm,h]
theorem Zm7(l:List T)(a:Option Addr)(c:Nat)(g:Nat)(ca:List Value)(p:T->Bool)(m:Mem)(hl:l.length<=1000000000000000)(hr:l=[]\/∃b o,a=some ⟨b,o,none⟩/\RepAt m b o l)
  (hp:∀x∈l,∀m',m.le m'->Rep m' x->CX Tryz.prog g (x.v::ca).toArray m' [] (Ret (.bool (p x)))):
  CX Tryz.prog 214 #[.slice a l.length c,.func (.func g) #[] ca.toArray] m [] (Ret (.int .i64 (if l.any p then(l.findIdx p:Nat)else(-1:Int)))):=by
 apply Zbx a l.length c g [] ca
 refine⟨λxs _ _ m'' q=>∃i:Nat,i<=l.length/\xs=[.int .i64 i]/\(∀x∈l.take i,p x=false)/\m.le m''/\q=l.length - i,⟨l.length,0,by omega,rfl,by simp,Mem.le_refl _,by omega⟩,?_⟩
 rintro n m' q hm ⟨i,hi,hn,eT,bH,hq⟩
 obtain rfl:n=i:=by simpa using hn
 refine Zab (λaG=>?_) (λbK=>?_)
 ·have aT:i < l.length:=by simpa using aG
  obtain⟨x,hx⟩:∃x,l[i]?=some x:=⟨_,zA3 aT⟩
  have bL:x∈l:=zA2 hx
  rcases hr with h0|⟨b1,o1,ha,fI⟩
  ·rw[h0]at aT;simp at aT
  obtain⟨dH,dY⟩:=(fI.mono hm).get hx
  refine⟨b1,o1,ha,⟨by omega,by omega⟩,_,_,_,_,_,_,_,_,dH,Zah (hp x bL m' hm dY) λm1 aB=>Zab (λeK=>?_) (λeK=>?_)⟩
  ·refine Zac (mLt hm aB) ?_
   have dR:l.any p=true:=List.any_eq_true.2 ⟨x,bL,eK⟩
   have eW:l.findIdx p=i:=by
    rw[List.findIdx_eq aT]
    refine⟨by rw[(zA0 hx).2];exact eK,λj hj=>?_⟩
    exact eT _ (List.mem_of_getElem? (i:=j) (by rw[List.getElem?_take_of_lt hj];exact zA3 (by omega)))
   simp[Ret,dR,eW]
  ·refine⟨l.length - (i+1),by omega,i+1,by omega,by rw[Zal (by omega) (by omega)];rfl,?_,mLt hm aB,rfl⟩
   intro y hy
   rw[List.take_add_one,hx]at hy
   rcases List.mem_append.1 hy with hy|hy
   ·exact eT y hy
   ·simp at hy;rw[hy];exact eK
 ·have hi':i=l.length:=by
   have:¬((i:Int) < (l.length:Int)):=by simpa using bK
   omega
  subst hi'
  refine Zac hm ?_
  have dR:l.any p=false:=by
   rw[List.any_eq_false]
   rw[List.take_length]at eT
   exact λx hx=>by simp[eT x hx]
  simp[Ret,dR]
theorem Zhx(l:List T)(a:Option Addr)(c:Nat)(g:Nat)(ca:List Value)(p:T->Bool)(m:Mem)(hl:l.length<=1000000000000000)(hr:l=[]\/∃b o,a=some ⟨b,o,none⟩/\RepAt m b o l)
  (hp:∀x∈l,∀m',m.le m'->Rep m' x->CX Tryz.prog g (x.v::ca).toArray m' [] (Ret (.bool (p x)))):
  CX Tryz.prog 207 #[.slice a l.length c,.func (.func g) #[] ca.toArray] m [] (Ret (.bool (l.any p))):=by
 apply Zbf a l.length c g [] ca
 refine ZaC (Zm7 l a c g ca p m hl hr hp) λm' hm=>Zac hm ?_
 cases h:l.any p <;> simp[Ret]
theorem ZzC(t:T)(k:Int)(b:Nat)(m:Mem)(hb:m.reads b 0 [.int .u8 k]):CX Tryz.prog 208 #[t.v,.pointer (some ⟨b,0,none⟩)] m [] (Ret (.bool (t.k == k))):=by
 apply ZpU (c0b:=b) (c0o:=0)
 intro b' m' hm _
 exact⟨_,hm _ _ _ (hb 0 _ rfl),Zaa rfl (Zac hm rfl)⟩
theorem ZuO(t:T)(k:Int)(m:Mem)(hr:Rep m t):CX Tryz.prog 200 #[t.v,.int .u8 k] m [] (Ret (.bool (t.has k))):=by
 apply ZuJ
 intro b m1 aB _ b2 m2 aH eR
 have hr':=ZjI (hr.mono (mLt aB aH))
 exact Zah (Zhx t.subs t.a t.c _ [.pointer (some ⟨b2,0,none⟩)] (λx=>x.k == k) m2 hr'.1 hr'.2 λx _ m' hm' _=>ZzC x k b2 m' (eR.mono hm')) λm3 aS=>Zac (mLt aB (mLt aH aS)) rfl
theorem Zd7(t:T)(m:Mem)(hr:Rep m t):CX Tryz.prog 37 #[t.v] m [] (Ret (.bool t.light)):=by
 apply ZpS
 intro b m1 aB _ b2
 refine Zaj (Ziu t m1) (λv m' css h=>by obtain⟨_,rfl,_⟩:=h;rfl) ?_
 rintro g fi ca m2 aH ⟨b3,hv,eS⟩
 obtain⟨rfl,rfl,rfl⟩:=Zcr hv
 have bH:=mLt aB aH
 refine⟨_,ZfJ t m2 b3 eS (hr.mono bH),λy hy=>?_,λ_ css _ m' q=>css=[[.int .i64 q]]/\q<=10000/\q<=t.nodes.length,⟨rfl,by omega,by omega⟩,?_,?_⟩
 ·obtain⟨z,_,rfl⟩:=List.mem_map.1 hy;exact Zrs z
 ·rintro n0 n1 n2 n3 n4 n5 n6 a n7 c cs m3 q aS hq ⟨cA,ib,_⟩
  obtain rfl:cs=[.int .i64 q]:=by simpa using cA
  have aG:q < t.nodes.length:=by
   have:=(zA0 (show(List.map (λz:T=>[z.v]) t.nodes)[(q:Nat)]?=some _ from hq)).1
   simpa using this
  refine Zan rfl (Zaa rfl ?_)
  have hw:IntKind.i64.wrap (RowKit.intOf (Value.int .i64 (q:Int))+1)=(q:Int)+1:=Zal (n:=(q:Int)+1) (by omega) (by omega)
  simp only[hw]
  refine Zab (λh=>⟨by trivial,Zac (mLt bH aS) ?_⟩) (λh=>⟨by trivial,?_,?_,by omega⟩)
  ·have:((q:Int)+1 > 10000):=by simpa using h
   simp[Ret,T.light];omega
  ·simp
  ·have:¬((q:Int)+1 > 10000):=by simpa using h
   omega
 ·rintro cs m3 aS ⟨cA,ib,_⟩
  obtain rfl:cs=[.int .i64 t.nodes.length]:=by simpa using cA
  refine Zan rfl (Zaa rfl (Zac (mLt bH aS) ?_))
  show Value.bool (decide ((t.nodes.length:Int)<=10000))=Value.bool t.light
  congr 1
  rw[T.light,decide_eq_decide];omega
end Go.Proofs.YtdopppmkbkkmiaaGreatDoor
namespace Go.Proofs.YtdopppmkbkkmiaaGreatDoor
open Go Go.Eng Go.Proofs Go.RowKit
theorem Ze1{P:Program}{T:TypeId}(hg:P.eqGuardType P.depth T=false)(op:BinOp)(ox oy:Operand)(xs ys:Array Value)(w:World):(eqGuard op T ox oy (.agg xs) (.agg ys)).run P w=.ok () w:=by
 unfold eqGuard
 have h1:(P.eqGuardType P.depth T)=true->False:=λh=>by rw[hg]at h;cases h
 split
 ·simp[go_sem];exact λh=>(h1 h).elim
 ·simp[go_sem];exact λh=>(h1 h).elim
 ·simp
theorem Zxt(a b c d a' b' c' d':Int):EqIs Tryz.prog 37 (.agg #[.int .u64 a,.int .u64 b,.int .u64 c,.int .u64 d]) (.agg #[.int .u64 a',.int .u64 b',.int .u64 c',.int .u64 d']) (a == a'&&b == b'&&c == c'&&d == d'):=by
 refine⟨λw=>?_,λop ox oy w=>Ze1 (by kernel_rfl) op ox oy _ _ w⟩
 have u3:=Tryz.underlying35
 have a3:=Tryz.isAgg35
 have z3:=Tryz.sizeOf35
 rw[Op.equal,Op.maxDepth,show(10000:Nat)=9999+1 from rfl,Op.equalIn]
 simp only[Sem.run_bind,run_underlying Tryz.underlying37,Result.andThen_ok]
 simp only[Std.Legacy.Range.forIn_eq_forIn_range',Std.Legacy.Range.size,Nat.sub_zero,Nat.add_sub_cancel,Nat.div_one,List.range'_succ,List.range'_zero,List.forIn_cons,List.forIn_nil]
 go_simp
 by_cases h1:a=a' <;> by_cases h2:b=b' <;> by_cases h3:c=c' <;> by_cases h4:d=d' <;> simp[h1,h2,h3,h4]
end Go.Proofs.YtdopppmkbkkmiaaGreatDoor
namespace Go.Proofs.YtdopppmkbkkmiaaGreatDoor
open Go Go.Eng Go.Rx Go.Proofs Go.RowKit
set_option maxRecDepth 100000
theorem Zxu(t:T)(m:Mem)(hr:Rep m t):CX Tryz.prog 188 #[t.v] m [] (Ret (.bool t.right)):=by
 apply ZpV
 intro b m1 aB _
 have eD:=hr.mono aB
 refine⟨t.k != 2&&!t.setZ||(t.k != 5&&(t.mn != 0||t.mx != 0)||(decide (t.k < 3)&&decide (0 < t.subs.length))),?_,Zab (λh=>Zac aB ?_) (λh=>?_)⟩
 ·refine Zab (λh1=>?_) (λh1=>?_)
  ·refine⟨t.setZ,Zxt _ _ _ _ _ _ _ _,?_⟩
   simp only[Zt9]
   (repeat' split) <;> simp_all <;> omega
  ·simp only[Zt9]
   (repeat' split) <;> simp_all <;> omega
 ·simp[Ret,T.right,h]
 ·refine Zab (λh1=>Zac aB ?_) (λh1=>Zab (λh2=>⟨t.setZ,Zxt _ _ _ _ _ _ _ _,Zac aB ?_⟩) (λh2=>Zab (λh3=>?_) (λh3=>Zab (λh4=>?_) (λh4=>Zab (λh5=>?_) (λh5=>?_)))))
  ·have:t.k=1:=by simpa using h1
   show Value.bool _=Value.bool t.right;rw[T.right,h];simp[this]
  ·have:t.k=2:=by simpa using h2
   show Value.bool _=Value.bool t.right;rw[T.right,h];simp[this]
  ·have:t.k=3:=by simpa using h3
   refine⟨decide (1 < t.subs.length)&&(!t.has 1&&!t.has 3),Zab (λh4=>?_) (λh4=>?_),Zac aB ?_⟩
   ·refine Zah (ZuO t 1 m1 eD) λm2 aH=>Zab (λh5=>?_) (λh5=>?_)
    ·refine Zah (ZuO t 3 m2 (eD.mono aH)) λm3 aS=>⟨rfl,Zaf ?_⟩
     simp_all <;> (intros;omega)
    ·refine⟨rfl,Zaf ?_⟩
     simp_all <;> (intros;omega)
   ·refine⟨rfl,Zaf ?_⟩
    simp_all <;> (intros;omega)
   ·show Value.bool _=Value.bool t.right;rw[T.right,h];simp[this]
  ·have:t.k=4:=by simpa using h4
   refine⟨decide (1 < t.subs.length)&&!t.has 4,Zab (λh4=>?_) (λh4=>?_),Zac aB ?_⟩
   ·refine Zah (ZuO t 4 m1 eD) λm2 aH=>⟨rfl,Zaf ?_⟩
    simp_all <;> (intros;omega)
   ·refine⟨rfl,Zaf ?_⟩
    simp_all <;> (intros;omega)
   ·show Value.bool _=Value.bool t.right;rw[T.right,h];simp[this]
  ·have:t.k=5:=by simpa using h5
   refine⟨t.subs.length == 1&&(Zkm t.mn t.mx&&!t.has 1),Zab (λh4=>?_) (λh4=>?_),Zac aB ?_⟩
   ·refine Zah (ZuN t.mn t.mx m1) λm2 aH=>Zab (λh5=>?_) (λh5=>?_)
    ·refine Zah (ZuO t 1 m2 (eD.mono aH)) λm3 aS=>⟨rfl,Zaf ?_⟩
     have h4':((t.subs.length:Int) == 1)=true:=h4
     have:t.subs.length=1:=by have:=zA6 h4';omega
     simp_all <;> (intros;omega)
    ·refine⟨rfl,Zaf ?_⟩
     simp_all <;> (intros;omega)
   ·refine⟨rfl,Zaf ?_⟩
    have h4':((t.subs.length:Int) == 1)=false:=h4
    have:¬t.subs.length=1:=by have:=of_decide_eq_false h4';omega
    simp_all <;> (intros;omega)
   ·show Value.bool _=Value.bool t.right;rw[T.right,h];simp[this]
  ·refine⟨t.k == 6&&t.subs.length == 1,Zab (λh4=>⟨rfl,Zaf ?_⟩) (λh4=>⟨rfl,Zaf ?_⟩),Zac aB ?_⟩
   ·have:(t.k == 6)=true:=h4
    rw[this,Bool.true_and]
    show(decide ((t.subs.length:Int)=1))=decide (t.subs.length=1)
    rw[decide_eq_decide];omega
   ·have:(t.k == 6)=false:=h4
    simp[this]
   ·show Value.bool _=Value.bool t.right;rw[T.right,h]
    have e1:¬t.k=1:=by simpa using h1
    have e2:¬t.k=2:=by simpa using h2
    have e3:¬t.k=3:=by simpa using h3
    have e4:¬t.k=4:=by simpa using h4
    have e5:¬t.k=5:=by simpa using h5
    simp[e1,e2,e3,e4,e5]
theorem Zxv(t:T)(m:Mem)(hr:Rep m t):CX Tryz.prog 165 #[t.v] m [] (Ret (.bool t.clean)):=by
 apply ZpW
 intro b m1 aB _ b2
 refine Zah (Zd7 t m1 (hr.mono aB)) λm2 aH=>Zab (λh=>Zac (mLt aB aH) ?_) (λh=>?_)
 ·have:t.light=false:=by simpa using h
  simp[Ret,T.clean,this]
 have hl:t.light=true:=by simpa using h
 refine Zaj (Ziu t m2) (λv m' css h=>by obtain⟨_,rfl,_⟩:=h;rfl) ?_
 rintro g fi ca m3 aS ⟨b3,hv,eS⟩
 obtain⟨rfl,rfl,rfl⟩:=Zcr hv
 have bH:=mLt aB (mLt aH aS)
 refine⟨_,ZfJ t m3 b3 eS (hr.mono bH),λy hy=>?_,λ_ css _ m' q=>m3.le m'/\∀x∈t.nodes.take q,x.right=true,⟨Mem.le_refl _,by simp⟩,?_,?_⟩
 ·obtain⟨z,_,rfl⟩:=List.mem_map.1 hy;exact Zrs z
 ·rintro n0 n1 n2 n3 n4 n5 n6 a n7 c cs m4 q bM hq ⟨_,ib⟩ b4
  have hq':(List.map (λz:T=>[z.v]) t.nodes)[(q:Nat)]?=some [Value.agg #[.int .u8 n0,.int .u64 n1,.int .u64 n2,.int .u64 n3,.int .u64 n4,.int .i64 n5,.int .i64 n6,.slice a n7 c]]:=hq
  rw[List.getElem?_map]at hq'
  obtain⟨z,hz,iV⟩:=Option.map_eq_some_iff.1 hq'
  have lB:z.v=Value.agg #[.int .u8 n0,.int .u64 n1,.int .u64 n2,.int .u64 n3,.int .u64 n4,.int .i64 n5,.int .i64 n6,.slice a n7 c]:=by simpa using iV
  have tz:Rep m4 z:=(Zub (hr.mono bH) (zA2 hz)).mono bM
  have gJ:=Zxu z m4 tz
  rw[lB]at gJ
  refine Zah gJ λm5 cV=>Zab (λh=>⟨rfl,Zac (mLt bH (mLt bM cV)) ?_⟩) (λh=>⟨rfl,mLt bM cV,λx hx=>?_⟩)
  ·have pX:z.right=false:=by simpa using h
   have:t.nodes.all T.right=false:=by
    rw[List.all_eq_false];exact⟨z,zA2 hz,by simp[pX]⟩
   simp[Ret,T.clean,this]
  ·rw[List.take_add_one,hz]at hx
   rcases List.mem_append.1 hx with hx|hx
   ·exact ib x hx
   ·simp at hx;rw[hx];simpa using h
 ·rintro cs m4 bM ⟨_,ib⟩
  refine Zac (mLt bH bM) ?_
  rw[List.length_map,List.take_length]at ib
  have:t.nodes.all T.right=true:=List.all_eq_true.2 ib
  simp[Ret,T.clean,this,hl]
theorem Zs3(t:T)(m:Mem)(hr:Rep m t):CX Tryz.prog 62 #[t.v] m [] (Ret (.int .i64 t.size)):=by
 apply ZrM
 intro b m1 aB _
 refine Zah (Zd7 t m1 (hr.mono aB)) λm2 aH=>Zab (λh=>Zac (mLt aB aH) ?_) (λh=>?_)
 ·have:t.light=false:=by simpa using h
  simp[Ret,T.size,this]
 have hl:t.light=true:=by simpa using h
 have rL:t.nodes.length<=10000:=zA6 hl
 intro b2
 refine Zaj (Ziu t m2) (λv m' css h=>by obtain⟨_,rfl,_⟩:=h;rfl) ?_
 rintro g fi ca m3 aS ⟨b3,hv,eS⟩
 obtain⟨rfl,rfl,rfl⟩:=Zcr hv
 have bH:=mLt aB (mLt aH aS)
 refine⟨_,ZfJ t m3 b3 eS (hr.mono bH),λy hy=>?_,λ_ css _ m' q=>css=[[.int .i64 q]]/\q<=t.nodes.length,⟨rfl,by omega⟩,?_,?_⟩
 ·obtain⟨z,_,rfl⟩:=List.mem_map.1 hy;exact Zrs z
 ·rintro n0 n1 n2 n3 n4 n5 n6 a n7 c cs m4 q bM hq ⟨cA,_⟩
  obtain rfl:cs=[.int .i64 q]:=by simpa using cA
  have aG:q < t.nodes.length:=by
   have:=(zA0 (show(List.map (λz:T=>[z.v]) t.nodes)[(q:Nat)]?=some _ from hq)).1
   simpa using this
  have hw:IntKind.i64.wrap (RowKit.intOf (Value.int .i64 (q:Int))+1)=(q:Int)+1:=Zal (n:=(q:Int)+1) (by omega) (by omega)
  refine Zan rfl (Zaa rfl ?_)
  simp only[hw]
  exact⟨by trivial,by simp,by omega⟩
 ·rintro cs m4 bM ⟨cA,ib⟩
  obtain rfl:cs=[.int .i64 t.nodes.length]:=by simpa using cA
  refine Zan rfl (Zac (mLt bH bM) ?_)
  simp[Ret,T.size,hl]
theorem ZpZ(t:T)(m:Mem)(hr:Rep m t):CX Tryz.prog 9 #[t.v] m [] (Ret (.int .i64 t.groups)):=by
 apply Zm6
 intro b m1 aB _
 refine Zah (Zd7 t m1 (hr.mono aB)) λm2 aH=>Zab (λh=>Zac (mLt aB aH) ?_) (λh=>?_)
 ·have:t.light=false:=by simpa using h
  simp[Ret,T.groups,this]
 have hl:t.light=true:=by simpa using h
 have rL:t.nodes.length<=10000:=zA6 hl
 intro b2
 refine Zaj (Ziu t m2) (λv m' css h=>by obtain⟨_,rfl,_⟩:=h;rfl) ?_
 rintro g fi ca m3 aS ⟨b3,hv,eS⟩
 obtain⟨rfl,rfl,rfl⟩:=Zcr hv
 have bH:=mLt aB (mLt aH aS)
 have gK:∀q,(t.nodes.take q).countP (λx=>x.k == 6)<=10000:=λq=>by
  have h1:=List.countP_le_length (p:=λx:T=>x.k == 6) (l:=t.nodes.take q)
  have h2:(t.nodes.take q).length<=t.nodes.length:=List.length_take_le' _ _
  omega
 refine⟨_,ZfJ t m3 b3 eS (hr.mono bH),λy hy=>?_,λ_ css _ m' q=>css=[[.int .i64 ((t.nodes.take q).countP λx=>x.k == 6:Nat)]]/\q<=t.nodes.length,⟨rfl,by omega⟩,?_,?_⟩
 ·obtain⟨z,_,rfl⟩:=List.mem_map.1 hy;exact Zrs z
 ·rintro n0 n1 n2 n3 n4 n5 n6 a n7 c cs m4 q bM hq ⟨cA,_⟩ b4
  obtain rfl:cs=_:=by simpa using cA
  have hq':(List.map (λz:T=>[z.v]) t.nodes)[(q:Nat)]?=some [Value.agg #[.int .u8 n0,.int .u64 n1,.int .u64 n2,.int .u64 n3,.int .u64 n4,.int .i64 n5,.int .i64 n6,.slice a n7 c]]:=hq
  rw[List.getElem?_map]at hq'
  obtain⟨z,hz,iV⟩:=Option.map_eq_some_iff.1 hq'
  have hk:z.k=n0:=by
   have:z.v=Value.agg #[.int .u8 n0,.int .u64 n1,.int .u64 n2,.int .u64 n3,.int .u64 n4,.int .i64 n5,.int .i64 n6,.slice a n7 c]:=by simpa using iV
   simp[T.v]at this;exact this.1
  have aG:=(zA0 hz).1
  have eX:(t.nodes.take (q+1)).countP (λx=>x.k == 6)=(t.nodes.take q).countP (λx=>x.k == 6)+(if z.k == 6 then 1 else 0):=by
   rw[List.take_add_one,hz,List.countP_append];simp[List.countP_cons]
  refine Zab (λh=>?_) (λh=>?_)
  ·have hw:IntKind.i64.wrap (RowKit.intOf (Value.int .i64 ((t.nodes.take q).countP λx=>x.k == 6:Nat))+1)=(((t.nodes.take q).countP λx=>x.k == 6:Nat):Int)+1:=Zal (n:=(((t.nodes.take q).countP λx=>x.k == 6:Nat):Int)+1) (by have:=gK q;omega) (by have:=gK q;omega)
   refine Zan rfl (Zaa rfl ?_)
   simp only[hw]
   refine⟨by trivial,?_,by omega⟩
   rw[eX,hk]
   have:(n0 == 6)=true:=h
   simp[this]
  ·refine⟨rfl,?_,by omega⟩
   rw[eX,hk]
   have:(n0 == 6)=false:=h
   simp[this]
 ·rintro cs m4 bM ⟨cA,ib⟩
  obtain rfl:cs=_:=by simpa using cA
  refine Zan rfl (Zac (mLt bH bM) ?_)
  simp[Ret,T.groups,hl]
theorem Zhy(t:T)(m:Mem)(hr:Rep m t)(hl:t.nodes.length<=10000):CX Tryz.prog 189 #[t.v] m [] (Ret (.int .i64 t.pos)):=by
 apply Zhv
 intro b m1 aB _
 have fO:=ZvV t
 have gN:=Zrt t
 refine Zab (λhk=>?_) (λhk=>?_)
 all_goals
  have hk':(if t.k=2 then(1:Int)else 0)=1/\t.k=2\/(if t.k=2 then(1:Int)else 0)=0/\t.k≠2:=by split <;> simp_all
  refine⟨λxs _ _ m'' q=>∃i:Nat,i<=t.subs.length/\xs=[.int .i64 ((if t.k=2 then 1 else 0)+ZeW (t.subs.take i)),.int .i64 i]/\m1.le m''/\q=t.subs.length - i,⟨t.subs.length,0,by omega,by simp_all [ZeW],Mem.le_refl _,by omega⟩,?_⟩
  rintro n n1 m2 q aH ⟨i,hi,cT,_,hq⟩
  have cM:=Zhn (t.subs.take i)
  have eR:=ZvU (t.subs.take i)
  have eS:(t.subs.take i).length<=i:=List.length_take_le _ _
  clear hk'
  generalize hc:(if t.k=2 then(1:Int)else 0)=c at *
  have zi:0<=c/\c<=1:=by rw[<-hc];split <;> omega
  simp only[List.cons.injEq,Value.int.injEq,true_and,and_true]at cT
  obtain⟨rfl,rfl⟩:=cT
  refine Zab (λaG=>?_) (λbK=>?_)
  ·have aT:i < t.subs.length:=by simpa using aG
   obtain⟨x,hx⟩:∃x,t.subs[i]?=some x:=⟨_,zA3 aT⟩
   have bL:x∈t.subs:=zA2 hx
   have bI:=Zrr bL
   have vv:=Zud bL
   obtain⟨_,h0|⟨b1,o1,ha,fI⟩⟩:=ZjI hr
   ·rw[h0]at aT;simp at aT
   obtain⟨dH,dY⟩:=(fI.mono ((mLt aB aH))).get hx
   have wp:=ZiK x
   refine⟨b1,o1,ha,⟨by omega,by omega⟩,_,_,_,_,_,_,_,_,dH,λb2=>Zaa rfl ?_⟩
   refine ZaC (Zhy x m2 dY (by omega)) λm3 aS=>⟨rfl,t.subs.length - (i+1),by omega,i+1,by omega,?_,mLt aH aS,rfl⟩
   rw[Zal (by omega) (by omega),Zal (by omega) (by omega),Zuc hx,Int.add_assoc]
   rfl
  ·have hi':i=t.subs.length:=by
    have:¬((i:Int) < (t.subs.length:Int)):=by simpa using bK
    omega
   subst hi'
   rw[List.take_length]at cM eR ⊢
   have hF:=ZvT t.mn t.mx
   have mG:0<=(c+ZeW t.subs)*ZwY t.mn t.mx/\(c+ZeW t.subs)*ZwY t.mn t.mx<=100020001*10001:=by
    constructor
    ·exact Int.mul_nonneg (by omega) hF.1
    ·exact Int.mul_le_mul (by omega) hF.2 hF.1 (by omega)
   refine Zab (λh5=>Zab (λhx=>Zac (mLt aB aH) ?_) (λhx=>Zac (mLt aB aH) ?_)) (λh5=>Zac (mLt aB aH) ?_)
   ·have e1:t.k=5:=by simpa using h5
    have e2:t.mx=-1:=by simpa using hx
    have hF':ZwY t.mn t.mx=Zfl (ZqP (ZqP t.mn 0) 1) 10001:=by simp[ZwY,e2]
    show Value.int .i64 (Zfl (IntKind.i64.wrap ((c+ZeW t.subs)*Zfl (ZqP (ZqP t.mn 0) 1) 10001)) 10001)=Value.int .i64 t.pos
    rw[<-hF',Zal (by omega) (by omega),gN,Zyv,if_pos e1];rfl
   ·have e1:t.k=5:=by simpa using h5
    have e2:¬t.mx=-1:=by simpa using hx
    have hF':ZwY t.mn t.mx=Zfl (ZqP (ZqP t.mn 0) t.mx) 10001:=by simp[ZwY,e2]
    show Value.int .i64 (Zfl (IntKind.i64.wrap ((c+ZeW t.subs)*Zfl (ZqP (ZqP t.mn 0) t.mx) 10001)) 10001)=Value.int .i64 t.pos
    rw[<-hF',Zal (by omega) (by omega),gN,Zyv,if_pos e1];rfl
   ·have e1:¬t.k=5:=by simpa using h5
    show Value.int .i64 (Zfl (c+ZeW t.subs) 10001)=Value.int .i64 t.pos
    rw[gN,Zyv,if_neg e1]
termination_by SizeOf.sizeOf t
decreasing_by all_goals exact bI
theorem Zm8(t:T)(m:Mem)(hr:Rep m t):CX Tryz.prog 166 #[t.v] m [] (Ret (.int .i64 t.positions)):=by
 apply Zhw
 intro b m1 aB _
 refine Zah (Zd7 t m1 (hr.mono aB)) λm2 aH=>Zab (λh=>Zac (mLt aB aH) ?_) (λh=>?_)
 ·have:t.light=false:=by simpa using h
  simp[Ret,T.positions,this]
 have hl:t.light=true:=by simpa using h
 refine ZaC (Zhy t m2 (hr.mono (mLt aB aH)) (zA6 hl)) λm3 aS=>Zac (mLt aB (mLt aH aS)) ?_
 simp[Ret,T.positions,hl]
def ZCR(bg en:Bool)(t:T):Value:=.agg #[.bool bg,.bool en,.int .u8 t.k,.int .u64 t.s0,.int .u64 t.s1,.int .u64 t.s2,.int .u64 t.s3,.int .i64 t.mn,.int .i64 t.mx,.slice t.a t.subs.length t.c]
theorem Zxw(bg en:Bool)(t:T)(m:Mem)(hr:Rep m t):CX Tryz.prog 132 #[ZCR bg en t] m [] (Ret (.int .i64 t.check)):=by
 apply ZpY
 intro b m1 aB _
 refine Zah (Zxv t m1 (hr.mono aB)) λm2 aH=>Zab (λh=>Zac (mLt aB aH) ?_) (λh=>?_)
 ·have:t.clean=false:=by simpa using h
  simp[Ret,T.check,this]
 have jW:=mLt aB aH
 have h1:¬t.clean=false:=by simpa using h
 refine ZaC (Zs3 t m2 (hr.mono jW)) λm3 aS=>Zab (λh=>Zac (mLt jW aS) ?_) (λh=>?_)
 ·have h2:t.size > 120:=by simpa using h
  show Value.int .i64 81=Value.int .i64 t.check
  rw[T.check,if_neg h1,if_pos h2]
 have h2:¬t.size > 120:=by simpa using h
 have jX:=mLt jW aS
 refine ZaC (Zm8 t m3 (hr.mono jX)) λm4 bM=>Zab (λh=>Zac (mLt jX bM) ?_) (λh=>?_)
 ·have h3:t.positions > 400:=by simpa using h
  show Value.int .i64 82=Value.int .i64 t.check
  rw[T.check,if_neg h1,if_neg h2,if_pos h3]
 have h3:¬t.positions > 400:=by simpa using h
 have iH:=mLt jX bM
 refine ZaC (ZpZ t m4 (hr.mono iH)) λm5 cV=>Zab (λh=>Zac (mLt iH cV) ?_) (λh=>Zac (mLt iH cV) ?_)
 ·have h4:t.groups > 9:=by simpa using h
  show Value.int .i64 83=Value.int .i64 t.check
  rw[T.check,if_neg h1,if_neg h2,if_neg h3,if_pos h4]
 ·have h4:¬t.groups > 9:=by simpa using h
  show Value.int .i64 0=Value.int .i64 t.check
  rw[T.check,if_neg h1,if_neg h2,if_neg h3,if_neg h4]
theorem Zm9(l l':List T)(a a':Option Addr)(c c':Nat)(m:Mem)(hl:l.length<=1000000000000000)(hr:l=[]\/∃b o,a=some ⟨b,o,none⟩/\RepAt m b o l)(hr':l'=[]\/∃b o,a'=some ⟨b,o,none⟩/\RepAt m b o l')
  (hp:∀x∈l,∀y∈l',∀m',m.le m'->Rep m' x->Rep m' y->CX Tryz.prog 187 #[x.v,y.v] m' [] (Ret (.bool (x.same y)))):
  CX Tryz.prog 199 #[.slice a l.length c,.slice a' l'.length c',.func (.func 187) #[] #[]] m [] (Ret (.bool (ZeL l l'))):=by
 apply ZaI a l.length c a' l'.length c' _ [] []
 refine Zab (λh=>Zac (Mem.le_refl _) ?_) (λh=>?_)
 ·have:¬l.length=l'.length:=by
   intro e;rw[e]at h;simp at h
  show Value.bool false=_
  rw[Zpj this]
 have iD:l.length=l'.length:=by
  have h2:((l.length:Int) == (l'.length:Int))=true:=by simpa using h
  have:=zA6 h2;omega
 refine⟨λxs _ _ m'' q=>∃i:Nat,i<=l.length/\xs=[.int .i64 i]/\ZeL (l.take i) (l'.take i)=true/\m.le m''/\q=l.length - i,⟨l.length,0,by omega,rfl,by simp[ZeL],Mem.le_refl _,by omega⟩,?_⟩
 rintro n m' q hm ⟨i,hi,hn,dQ,bH,hq⟩
 obtain rfl:n=i:=by simpa using hn
 refine Zab (λaG=>?_) (λbK=>?_)
 ·have aT:i < l.length:=by simpa using aG
  obtain⟨x,hx⟩:∃x,l[i]?=some x:=⟨_,zA3 aT⟩
  obtain⟨y,hy⟩:∃y,l'[i]?=some y:=⟨_,zA3 (by omega)⟩
  have mQ:x∈l:=zA2 hx
  have qo:y∈l':=zA2 hy
  rcases hr with h0|⟨b1,o1,ha,fI⟩
  ·rw[h0]at aT;simp at aT
  rcases hr' with h0|⟨b2,o2,ha',oO⟩
  ·rw[h0]at iD;simp at iD;rw[iD]at aT;simp at aT
  obtain⟨dH,dY⟩:=(fI.mono hm).get hx
  obtain⟨jP,lC⟩:=(oO.mono hm).get hy
  refine⟨b1,o1,ha,⟨by omega,by omega⟩,_,_,_,_,_,_,_,_,dH,λb3=>Zaa rfl ⟨b2,o2,ha',⟨by omega,by omega⟩,_,_,_,_,_,_,_,_,jP,λb4=>Zaa rfl ?_⟩⟩
  refine Zah (hp x mQ y qo m' hm dY lC) λm1 aB=>Zab (λeK=>?_) (λeK=>?_)
  ·have hf:x.same y=false:=by simpa using eK
   refine Zac (mLt hm aB) ?_
   show Value.bool false=_
   rw[Zsx hx hy hf]
  ·have hf:x.same y=true:=by simpa using eK
   refine⟨l.length - (i+1),by omega,i+1,by omega,by rw[Zal (by omega) (by omega)];rfl,Zl2 hx hy dQ hf trivial,mLt hm aB,rfl⟩
 ·have hi':i=l.length:=by
   have:¬((i:Int) < (l.length:Int)):=by simpa using bK
   omega
  subst hi'
  refine Zac hm ?_
  rw[List.take_length,iD,List.take_length]at dQ
  show Value.bool true=_
  rw[dQ]
theorem Zwj(t u:T)(m:Mem)(hr:Rep m t)(hu:Rep m u):CX Tryz.prog 187 #[t.v,u.v] m [] (Ret (.bool (t.same u))):=by
 apply ZrO
 intro b m1 aB _ b' m2 aH _
 have hm:=mLt aB aH
 refine⟨t.same u,?_,Zac hm rfl⟩
 rw[Zza]
 refine Zab (λh1=>⟨_,Zxt _ _ _ _ _ _ _ _,Zab (λh2=>Zab (λh3=>Zab (λh4=>?_) (λh4=>⟨rfl,Zaf ?_⟩)) (λh3=>⟨rfl,Zaf ?_⟩)) (λh2=>⟨rfl,Zaf ?_⟩)⟩) (λh1=>⟨rfl,Zaf ?_⟩)
 ·have hr':=ZjI (hr.mono hm)
  have hu':=ZjI (hu.mono hm)
  refine Zah (Zm9 t.subs u.subs t.a u.a t.c u.c m2 hr'.1 hr'.2 hu'.2 λx hx y hy m' _ dH jP=>?_) λm3 aS=>⟨rfl,Zaf ?_⟩
  ·have bI:=Zrr hx
   exact Zwj x y m' dH jP
  ·rw[h1,h2,h3,h4];rfl
 ·rw[h1,h2,h3,h4];rfl
 ·rw[h1,h2,h3];rfl
 ·rw[h1,h2];rfl
 ·rw[h1];rfl
termination_by SizeOf.sizeOf t
decreasing_by exact bI
theorem ZzD(t u:T)(m:Mem)(hr:Rep m t)(hu:Rep m u):CX Tryz.prog 164 #[t.v,u.v] m [] (Ret (.bool (t.light&&(u.light&&t.same u)))):=by
 apply ZrP
 intro b m1 aB _ b' m2 aH _
 have hm:=mLt aB aH
 refine⟨t.light&&(u.light&&t.same u),?_,Zac hm rfl⟩
 refine Zah (Zd7 t m2 (hr.mono hm)) λm3 aS=>Zab (λh1=>?_) (λh1=>⟨rfl,Zaf ?_⟩)
 ·refine Zah (Zd7 u m3 (hu.mono (mLt hm aS))) λm4 bM=>Zab (λh2=>?_) (λh2=>?_)
  ·have cV:=mLt (mLt hm aS) bM
   refine Zah (Zwj t u m4 (hr.mono cV) (hu.mono cV)) λm6 iI=>⟨rfl,Zaf ?_⟩
   rw[h1,h2];rfl
  ·refine⟨rfl,Zaf ?_⟩
   rw[h1,h2];rfl
 ·rw[h1];rfl
end Go.Proofs.YtdopppmkbkkmiaaGreatDoor
namespace Go.Proofs.YtdopppmkbkkmiaaGreatDoor
open Go Go.Eng Go.Rx Go.Proofs Go.RowKit
theorem Ztv{b:Bool}{p q:Prop}(h:b=true)(k:p):br b p q:=by subst h;exact k
theorem Zfj{b:Bool}{p q:Prop}(h:b=false)(k:q):br b p q:=by subst h;exact k
theorem ZaL{α:Type}{l:List α}{k:Nat}(h:k < l.length):∃x,l[k]?=some x:=⟨l[k],zA3 h⟩
theorem Zby(t:T):Rx.ZcL [t]=t.cs:=by simp[Rx.ZcL]
theorem ZdZ{m:Mem}{a:Option Addr}{ts:List T}(h:rowRd m a (Rx.ZcL ts)){i:Nat}{t:T}(hi:ts[i]?=some t):∃b o,a=some ⟨b,o,none⟩/\m.reads b (o+i*8) t.cs:=by
 rcases h with h|⟨b,o,ha,h⟩
 ·have hl:(Rx.ZcL ts).length=0:=by rw[h];rfl
  rw[Zar]at hl
  have:=(zA0 hi).1
  omega
 ·refine⟨b,o,ha,λj v hj=>?_⟩
  rw[Nat.add_assoc]
  refine h (i*8+j) v ?_
  have e:ts=ts.take i++(t::ts.drop (i+1)):=by
   have aG:=(zA0 hi).1
   have h2:=List.drop_eq_getElem_cons aG
   rw[(zA0 hi).2]at h2
   rw[<-h2,List.take_append_drop]
  have aG:=(zA0 hi).1
  have tj:=(zA0 hj).1
  rw[e,ZaK,zA4 (by rw[Zar,List.length_take,Nat.min_eq_left (by omega)];omega),Zar,List.length_take,Nat.min_eq_left (by omega),show i*8+j - i*8=j by omega]
  have e2:Rx.ZcL (t::ts.drop (i+1))=t.cs++Rx.ZcL (ts.drop (i+1)):=by simp[Rx.ZcL]
  rw[e2,zA5 tj];exact hj
def ZqV(mb M0:Mem)(φ:T->Prop):Value->Mem->List (List Value)->Prop:=λv M' css=>∃m0,mb.le m0/\m0.le M'/\(∀b o u,M0 b o=some u->∀o',m0 b o'=mb b o')/\Zpk φ v m0 css
theorem ZjO{mb M0:Mem}{φ:T->Prop}{m:Mem}{K:TRK}(k:∀(t:T)(m0 m':Mem),m.le m'->mb.le m0->m0.le m'->(∀b o u,M0 b o=some u->∀o',m0 b o'=mb b o')->Rep m0 t->φ t->K t.k t.s0 t.s1 t.s2 t.s3 t.mn t.mx t.a t.subs.length t.c m'):
  ∀(n0 n1 n2 n3 n4 n5 n6:Int)(a:Option Addr)(n c:Nat)(m':Mem),m.le m'->ZqV mb M0 φ (.agg #[.int .u8 n0,.int .u64 n1,.int .u64 n2,.int .u64 n3,.int .u64 n4,.int .i64 n5,.int .i64 n6,.slice a n c]) m' []->K n0 n1 n2 n3 n4 n5 n6 a n c m':=by
 rintro n0 n1 n2 n3 n4 n5 n6 a n c m' hm ⟨m0,h1,h2,h3,t,hv,hr,hp⟩
 simp only[T.v,Value.agg.injEq,Array.mk.injEq,List.cons.injEq,Value.int.injEq,Value.slice.injEq,true_and,and_true]at hv
 obtain⟨rfl,rfl,rfl,rfl,rfl,rfl,rfl,rfl,rfl,rfl⟩:=hv
 exact k t m0 m' hm h1 h2 h3 hr hp
theorem ZdG{mb M0:Mem}{φ:T->Prop}:∀(v:Value)(m':Mem) (css:List (List Value)),ZqV mb M0 φ v m' css->Shape.fits (.agg [.int .u8,.int .u64,.int .u64,.int .u64,.int .u64,.int .i64,.int .i64,.slice]) v=true:=λv _ _ ⟨_,_,_,_,t,e,_⟩=>by rw[e];rfl
def Apart(mb:Mem)(a:Option Addr):Prop:=a=none\/∃b,a=some ⟨b,0,none⟩/\mb.free b
theorem Apart.tok{mb M:Mem}{a a':Option Addr}{n c:Nat}(h:Apart mb a)(hm:mb.le M)(ht:TokFact M a a' n c):Apart mb a':=by
 rcases ht.2 with h1|⟨b,o,h1,h2⟩
 ·exact .inl h1
 rcases h2 with h2|⟨h3,h2⟩
 ·rw[<-h2];exact h
 ·subst h3
  refine .inr ⟨b,h1,λo=>?_⟩
  cases hb:mb b o with
  | none=>rfl
  | some v=>have:=hm _ _ _ hb;rw[h2.1 o]at this;cases this
theorem Zs4{m:Mem}{a:Option Addr}{ts r:List T}(h:rowRd m a (Rx.ZcL (ts++r))):rowRd m a (Rx.ZcL ts):=by
 rw[ZaK]at h
 rcases h with h|⟨b,o,ha,h⟩
 ·exact .inl (List.append_eq_nil_iff.1 h).1
 ·refine .inr ⟨b,o,ha,λj v hj=>h j v ?_⟩
  rw[zA5 (zA0 hj).1];exact hj
theorem Zs5{m:Mem}{b:Nat}{ts:List T}{x t:T}(h:rowRd m (some ⟨b,0,none⟩) (Rx.ZcL (ts++[x]))):rowRd (m.upd b (0+ts.length*8) t.cs) (some ⟨b,0,none⟩) (Rx.ZcL (ts++[t])):=by
 refine .inr ⟨b,0,rfl,λj v hj=>?_⟩
 rw[ZaK]at hj
 rcases Nat.lt_or_ge j (ts.length*8)with aG|bK
 ·rw[zA5 (by rw[Zar];exact aG)]at hj
  unfold Mem.upd;try dsimp only
  rw[if_neg (by omega)]
  rcases h with h|⟨b',o',ha,h⟩
  ·have hl:(Rx.ZcL (ts++[x])).length=0:=by rw[h];rfl
   rw[Zar,zA1]at hl
   simp at hl
  ·cases ha
   refine h j v ?_
   rw[ZaK,zA5 (by rw[Zar];exact aG)];exact hj
 ·rw[zA4 (by rw[Zar];exact bK),Zar,Zby]at hj
  have h8:=(zA0 hj).1
  have h8':t.cs.length=8:=rfl
  unfold Mem.upd;try dsimp only
  rw[if_pos ⟨rfl,by omega,by omega⟩,show 0+j - (0+ts.length*8)=j - ts.length*8 by omega]
  exact hj
theorem Apart.base{mb m:Mem}{a:Option Addr}{ts:List T}(h:Apart mb a)(aD:rowRd m a (Rx.ZcL ts))(hn:ts≠[]):∃b,a=some ⟨b,0,none⟩/\mb.free b/\∃o u,m b o=some u:=by
 obtain⟨t,r,rfl⟩:∃t r,ts=t::r:=by cases ts with
  | nil=>exact absurd rfl hn
  | cons t r=>exact⟨t,r,rfl⟩
 obtain⟨b',o,ha,cQ⟩:=ZdZ aD (i:=0) (t:=t) rfl
 rcases h with h|⟨b,hb,hf⟩
 ·rw[h]at ha;cases ha
 ·rw[hb]at ha;cases ha
  exact⟨b',hb,hf,_,_,cQ 0 (.int .u8 t.k) rfl⟩
theorem ZB5{ts:List T}(h:1 < ts.length):∃r x y,ts=r++[x,y]:=by
 have h1:ts.length - 2 < ts.length:=by omega
 refine⟨ts.take (ts.length - 2),ts[ts.length - 2],ts[ts.length - 1],?_⟩
 have e:=(List.take_append_drop (ts.length - 2) ts).symm
 rw[List.drop_eq_getElem_cons h1,List.drop_eq_getElem_cons (by omega),List.drop_eq_nil_of_le (by omega)]at e
 simpa[show ts.length - 2+1=ts.length - 1 by omega]using e
theorem ZB6{ts:List T}(h:0 < ts.length):∃r x,ts=r++[x]:=by
 refine⟨ts.dropLast,ts.getLast (by intro e;subst e;simp at h),?_⟩
 exact(List.dropLast_concat_getLast _).symm
end Go.Proofs.YtdopppmkbkkmiaaGreatDoor
end
