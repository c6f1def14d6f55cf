/- Part of the proof: conditions and contracts of functions of this program. No condition of its own. -/
import Derived.Test.YtfgfahnakepegaaGreatPEnv
import Derived.Test.YtfgfahnakepegaaGreatMr
import Derived.Test.YtfgfahnakepegaaGreatMc
import Derived.Laws.StructEq
import Derived.Laws.Tables
import Derived.Laws.Cover2
set_option linter.unusedVariables false
set_option linter.unusedSimpArgs false
set_option linter.unusedSectionVars false
noncomputable section
namespace Go.Proofs.YtfgfahnakepegaaGreat
open Go Go.Eng Go.Proofs Go.RowKit
open Go.Value (int slice agg bool string tuple func)
open Go.IntKind (u8 u64 i64)
set_option maxRecDepth 100000
def Zlk:Env:={ EB with
 frzNew:=[1] }
theorem Zjo(aD aE aF aG aJ aH aI:Int)(aB:Option Addr)(aA aC:Nat)(m:Mem)(R:RT)(h:
 lX (slice aB aA aC) λyL=>lV [int u8 aD,int u64 aE,int u64 aF,int u64 aG,int u64 aJ,int i64 aH,int i64 aI,yL] λxL=>fzM m xL λb m'=>br (aD == 2) (∀b,m'.free b->rtM m (m'.add b xL) R
 (slice (some (Addr.mk b 0 none)) 1 1)) (br (aD == 3) (kI pG 102 [yL,func (Fn.func 103) (Array.mk []) (Array.mk [])] m' λn m'=>br (decide (n < 0)) (rtM m m' R yL) (((0:Int)<=n/\n<=(↑aC:Int))/\rtM m m' R (slice
 (ZaG aB 0 aC 8) (Int.toNat n - 0) (aC - 0)))) (rtM m m' R (slice none 0 0)))):CX Tryz.prog 74 #[.agg #[.int .u8 aD,.int .u64 aE,.int .u64 aF,.int .u64 aG,.int .u64 aJ,.int .i64 aH,.int .i64 aI,.slice aB aA aC]] m [] R:=
 Zad (E:=Zlk) Zay mix Tryz.func74 [.v (.agg #[.int .u8 aD,.int .u64 aE,.int .u64 aF,.int .u64 aG,.int .u64 aJ,.int .i64 aH,.int .i64 aI,.slice aB aA aC])] [] (by kernel_rfl) (Eq.mp (by kernel_rfl) h)
def ZhT:Env:={ EB with
 frzNew:=[1] }
theorem Zg9(aD aE aF aG aJ aH aI:Int)(aB:Option Addr)(aA aC:Nat)(m:Mem)(R:RT)(h:
 fzM m [int u8 aD,int u64 aE,int u64 aF,int u64 aG,int u64 aJ,int i64 aH,int i64 aI,slice aB aA aC] λb m'=>rtM m m' R (bool !aD == 2)):CX Tryz.prog 103 #[.agg #[.int .u8 aD,.int .u64 aE,.int .u64 aF,.int .u64 aG,.int .u64 aJ,.int .i64 aH,.int .i64 aI,.slice aB aA aC]] m [] R:=
 Zad (E:=ZhT) Zay mix Tryz.func103 [.v (.agg #[.int .u8 aD,.int .u64 aE,.int .u64 aF,.int .u64 aG,.int .u64 aJ,.int .i64 aH,.int .i64 aI,.slice aB aA aC])] [] (by kernel_rfl) (Eq.mp (by kernel_rfl) h)
def Zll:Env:={ EB with
 frzNew:=[2] }
theorem Zjp(aD aE aF aG aJ aH aI:Int)(aB:Option Addr)(aA aC:Nat)(p1:Int)(m:Mem)(R:RT)(h:
 fzM m [int u8 aD,int u64 aE,int u64 aF,int u64 aG,int u64 aJ,int i64 aH,int i64 aI,slice aB aA aC] λb m'=>∀(b:Nat),br (aD == 2) (kN pG 6 [slice none 0 0] m' λn n_1 n_2 n_3 n_4 n_5 n_6 a
 n_7 c m'=>rtM m m' R (agg (.mk [int u8 n,int u64 n_1,int u64 n_2,int u64 n_3,int u64 n_4,int i64 n_5,int i64 n_6,slice a n_7 c]))) (((0:Int)<=p1/\p1<=(↑aA:Int))/\kN pG 6 [slice (ZaG aB (Int.toNat p1)
 aC 8) (aA - Int.toNat p1) (aC - Int.toNat p1)] m' λn n_1 n_2 n_3 n_4 n_5 n_6 a n_7 c m'=>rtM m m' R (agg (.mk [int u8 n,int u64 n_1,int u64 n_2,int u64 n_3,int u64 n_4,int i64 n_5,int i64 n_6,slice a n_7 c])))):CX Tryz.prog 112 #[.agg #[.int .u8 aD,.int .u64 aE,.int .u64 aF,.int .u64 aG,.int .u64 aJ,.int .i64 aH,.int .i64 aI,.slice aB aA aC],.int .i64 p1] m [] R:=
 Zad (E:=Zll) Zay mix Tryz.func112 [.v (.agg #[.int .u8 aD,.int .u64 aE,.int .u64 aF,.int .u64 aG,.int .u64 aJ,.int .i64 aH,.int .i64 aI,.slice aB aA aC]),.v (.int .i64 p1)] [] (by kernel_rfl) (Eq.mp (by kernel_rfl) h)
def Zjq:Env:={ EB with
 joins:=swI none [(1,some [(2,.bool)])]
 frzNew:=[1] }
theorem ZhU(aD aE aF aG aJ aH aI:Int)(aB:Option Addr)(aA aC:Nat)(m:Mem)(R:RT)(h:
 lV [int u8 aD,int u64 aE,int u64 aF,int u64 aG,int u64 aJ,int i64 aH,int i64 aI,slice aB aA aC] λxL=>fzM m xL λb m'=>∃(b_1:Bool),lE [some (Box.mk b xL 27 8 true true)] λxL_1=>(kB pG
 26 [agg (.mk xL)] m' λb m'=>br b (kI pG 63 [agg (.mk xL)] m' λn m'=>Zab xL_1/\[bool (decide (n<=120))]=[bool b_1]) (Zab xL_1/\[bool false]=[bool b_1]))/\rtM m m' R (bool b_1)):CX Tryz.prog 57 #[.agg #[.int .u8 aD,.int .u64 aE,.int .u64 aF,.int .u64 aG,.int .u64 aJ,.int .i64 aH,.int .i64 aI,.slice aB aA aC]] m [] R:=
 Zad (E:=Zjq) Zay mix Tryz.func57 [.v (.agg #[.int .u8 aD,.int .u64 aE,.int .u64 aF,.int .u64 aG,.int .u64 aJ,.int .i64 aH,.int .i64 aI,.slice aB aA aC])] [] (by kernel_rfl) (Eq.mp (by kernel_rfl) h)
def ZhV:Env:={ EB with
 loops:=swI nLa [(2,⟨[(5,.int .i64)],[],[],false⟩)]
 joins:=swI none [(2,some [(28,.bool)])]
 dr:=swI [] [(2,[dO 0 [],dO 1 [],dO 2 [1],dO 3 [0,1,2],dO 4 [0,1,2,3],dO 5 [0,1,2,3,4],dO 6 [0,1,2,3,4],dO 7 [0,1,2,3,4,6],dO 8 [0,1,2,3,4,5,6,7],dO 9 [0,1,2,3,4,5,6,7,8],dO 10 [0,1,2,3,4,5,6,7,8,9],dO 11 [0,1,2,3,4,5,6,7,8,9,10],dO 12 [0,1,2,3,4,5,6,7,8,9,10],dO 13 (rg 0 13),dO 14 (rg 0 14),dO 15 (rg 0 15),dO 16 [0,1,2,3,4,5,6,7,8,9,10],dO 17 [0,1,2,3,4,5,6,7,8,9,10],dO 18 (rg 0 11++[16,17]),dO 19 (rg 0 11++[16,17,18]),dO 20 (rg 0 11++rg 16 4),dO 21 (rg 0 21),dO 22 (rg 0 22)])]
 gb:=true }
theorem Zha(p0a:Option Addr)(p0n p0c:Nat)(p1a:Option Addr)(p1n p1c:Nat)(m:Mem)(R:RT)(h:
 ∃I,inI I [int i64 0] [] [] m/\∀n m' (n_1:Nat),m.le m'->I [int i64 n] [] [] m' n_1->∃(b:Bool),br (decide (n < (↑p0n:Int))) (br (decide (n < (↑p1n:Int))) (atA p0a λb_1 o=>Zaf n p0n/\∃v v_1 v_2 v_3:
 Value,m'.reads b_1 (o+Int.toNat n*8+1) [v,v_1,v_2,v_3]/\atA p1a λb_2 o=>Zaf n p1n/\∃v_4 v_5 v_6 v_7:Value,m'.reads b_2 (o+Int.toNat n*8+1) [v_4,v_5,v_6,v_7]/\∃(b_3:Bool),EqIs pG 24 (agg (.mk
 [v,v_1,v_2,v_3])) (agg (.mk [v_4,v_5,v_6,v_7])) b_3/\[bool b_3]=[bool b]) ([bool false]=[bool b])) ([bool false]=[bool b])/\br b (nxI n_1 I [int i64 (i64.wrap (n+1))] [] [] m') (rtM m m' R (int i64 n))):CX Tryz.prog 90 #[.slice p0a p0n p0c,.slice p1a p1n p1c] m [] R:=
 Zad (E:=ZhV) Zay mix Tryz.func90 [.v (.slice p0a p0n p0c),.v (.slice p1a p1n p1c)] [] (by kernel_rfl) (Eq.mp (by kernel_rfl) h)
def Zlm:Env:={ EB with
 frzNew:=[1] }
theorem Zjr(aD aE aF aG aJ aH aI:Int)(aB:Option Addr)(aA aC:Nat)(m:Mem)(R:RT)(h:
 fzM m [int u8 aD,int u64 aE,int u64 aF,int u64 aG,int u64 aJ,int i64 aH,int i64 aI,slice aB aA aC] λb m'=>rtM m m' R (func (Fn.func 88) (Array.mk []) (Array.mk [Value.pointer (some (Addr.mk b 0
 none))]))):CX Tryz.prog 61 #[.agg #[.int .u8 aD,.int .u64 aE,.int .u64 aF,.int .u64 aG,.int .u64 aJ,.int .i64 aH,.int .i64 aI,.slice aB aA aC]] m [] R:=
 Zad (E:=Zlm) Zay mix Tryz.func61 [.v (.agg #[.int .u8 aD,.int .u64 aE,.int .u64 aF,.int .u64 aG,.int .u64 aJ,.int .i64 aH,.int .i64 aI,.slice aB aA aC])] [] (by kernel_rfl) (Eq.mp (by kernel_rfl) h)
def ZhW:Env:={ EB with
 loops:=swI nLa [(4,⟨[(10,.agg [.int .u8,.int .u64,.int .u64,.int .u64,.int .u64,.int .i64,.int .i64,.slice])],[3],[],true⟩),(5,⟨[(14,.int .i64)],[],[],true⟩),(9,⟨[(6,.slice),(7,.int .i64)],[],[],true⟩)]
 frzNew:=[2] }
theorem Zhb(p0g:Nat)(p0fi p0ca:List Value)(c0b c0o:Nat)(m:Mem)(xs:List (List Value))(h:
 ∀(l:Nat),lV [func (Fn.yield l) (Array.mk []) (Array.mk [])] λxL=>fzM m xL λb m'=>∀am,∃v ay az a0 a1 a2 a3 a4:Value,lV [v,ay,az,a0,a1,a2,a3,a4] λan=>lE [some (Box.mk b xL 139 1 true true)] λxL=>
 lE (some (Box.mk am [] 3 1 false true)::xL) λao=>m'.reads c0b c0o an/\kF pG 89 [agg (.mk an)] m' λg fi ca m'=>∃(ad:List (List Value)),IX pG g fi ca m' ad/\(∀(x:List Value),x∈ad->Shape.fitsL [shT] x=true)
 /\ ∃(I:IT),I [int i64 0] [[int i64 0]] [] m' 0/\(∀y n a5 a6 a7 a8 a9 ba a ab c (cs:List Value) aa (ag:Nat),lE (some (Box.mk am cs 3 1 false true)::xL) λxL=>lV [int u8 n,int u64 a5,int u64 a6,int u64 a7,int u64
 a8,int i64 a9,int i64 ba,slice a ab c] λap=>m'.le aa->List.get?Internal ad ag=some [agg (.mk ap)]->I [int i64 y] [cs] [] aa ag->∀b,∃ae,lE (some (Box.mk b ap 27 8 false true)::xL) λxL=>inI ae [int i64 y,int
 i64 0] [] [] aa/\∀y (n:Int) m' (ah:Nat),lX (int i64 y) λyL=>lV [int i64 (i64.wrap (n+1))] λaq=>lV [int i64 n] λai=>aa.le m'->ae (yL::ai) [] [] m' ah->br (decide (n < (↑ab:Int))) (atA a λb o=>
 Zaf n ab/\∃v bb bc bd be bf bg bh:Value,lV [v,bb,bc,bd,be,bf,bg,bh] λar=>m'.reads b (o+Int.toNat n*8) ar/\kS pG 74 [agg (.mk ar)] m' λbi bj c m'=>∃I,inI I [yL,slice bi bj c,int i64 (i64.wrap (n +
 2))] [] [] m'/\∀y aj n c (af:Int) ac (au:Nat),lE (i64.wrap (af - (1:Int))) λyL=>lX (int i64 y) λak=>lV [int i64 af] λav=>m'.le ac->I (ak::slice aj n c::av) [] [] ac au->br (decide (af<=(↑ab:Int)))
 (atA a λb o=>Zaf yL ab/\∃v bk bl bm bn bo bp bq:Value,lV [v,bk,bl,bm,bn,bo,bp,bq] λaw=>ac.reads b (o+Int.toNat yL*8) aw/\kS pG 74 [agg (.mk aw)] ac λa bs bt m'=>kI pG 90 [slice aj n c,slice a
 bs bt] m' λn m'=>lE (Int.toNat n - 0) λyL=>((0:Int)<=n/\n<=(↑c:Int))/\br ((↑yL:Int) == 0) (Zab xL/\nxI ah ae (ak::aq) [] [] m') (Eng.ZuZ cs 0 λv=>lV (Zau [int i64 0,int i64 0,int i64 0,int i64
 0] 0 (Array.toList (Value.cells v))) λal=>lV (Zau (Zau al 1 ai) 2 av) λax=>chk (Nat.beq (List.length (Array.toList (Value.cells v))) 1&&true) (chk (Nat.ble 2 (al.length)) (chk (Nat.ble 3 (List.length (Zau al 1
 ai))) (chk (Nat.ble 4 (ax.length)) ((l=l/\(0:Int)<=y/\List.get?Internal xs (Int.toNat y)=some [agg (.mk (Zau ax 3 [int i64 (↑yL:Int)]))])/\(Zab xL/\nxI au I [int i64 (y+1),slice (ZaG aj 0 c 8) yL (c - 0),
 int i64 (i64.wrap (af+1))] [] [] m')/\Zab ao/\((-1:Int)=(↑(xs.length):Int)\/(-1:Int)=(-1:Int)))))))) (Zab xL/\nxI ah ae (ak::aq) [] [] ac)) (Eng.ZuZ cs 0 λv=>chk (ZaE i64 v&&decide (i64=i64))
 (Zab ao/\I [yL] [[int i64 (i64.wrap (RowKit.intOf v+1))]] [] m' (ag+1))))/\∀y (cs:List Value) aa,m'.le aa->I [int i64 y] [cs] [] aa (ad.length)->y=(↑(xs.length):Int)\/y=(-1:Int)):IX Tryz.prog 88 [] [.pointer (some ⟨c0b,c0o,none⟩)] m xs:=
 Zk0 (E:=ZhW) Zay mix Tryz.func88 [] [.pointer (some ⟨c0b,c0o,none⟩)] xs (by kernel_rfl) (Eq.mp (by kernel_rfl) h)
def Zln:Env:={ EB with
 frzNew:=[1] }
theorem Zjs(aD aE aF aG aJ aH aI:Int)(aB:Option Addr)(aA aC:Nat)(m:Mem)(R:RT)(h:
 fzM m [int u8 aD,int u64 aE,int u64 aF,int u64 aG,int u64 aJ,int i64 aH,int i64 aI,slice aB aA aC] λb m'=>rtM m m' R (func (Fn.func 108) (Array.mk []) (Array.mk [Value.pointer (some (Addr.mk b 0
 none))]))):CX Tryz.prog 89 #[.agg #[.int .u8 aD,.int .u64 aE,.int .u64 aF,.int .u64 aG,.int .u64 aJ,.int .i64 aH,.int .i64 aI,.slice aB aA aC]] m [] R:=
 Zad (E:=Zln) Zay mix Tryz.func89 [.v (.agg #[.int .u8 aD,.int .u64 aE,.int .u64 aF,.int .u64 aG,.int .u64 aJ,.int .i64 aH,.int .i64 aI,.slice aB aA aC])] [] (by kernel_rfl) (Eq.mp (by kernel_rfl) h)
def ZhX:Env:={ EB with
 frzNew:=[2]
 frzAt:=swI [] [(7,[3])]
 eff:=swI false [(7,true)] }
theorem Zhc(p0g:Nat)(p0fi p0ca:List Value)(c0b c0o:Nat)(m:Mem)(xs:List (List Value))(h:
 ∀(l:Nat),fzM m [func (Fn.yield l) (Array.mk []) (Array.mk [])] λb m'=>∀(b_1:Nat),∃v v_1 v_2 v_3 v_4 v_5 v_6 v_7:Value,lV [v,v_1,v_2,v_3,v_4,v_5,v_6,v_7] λxL=>lV [Value.pointer (some (Addr.mk b 0
 none)),Value.pointer (some (Addr.mk b_1 0 none))] λxL_1=>m'.reads c0b c0o xL/\∀m'_1,m'.le m'_1->m'_1.reads b_1 0 [func (Fn.func 109) (Array.mk []) (Array.mk xL_1)]->∃(l_1:Nat),∃(xs_1:List (List Value)),∃(go:
 Value->Prop),∃(stop:Value->Prop),lE ((0:Int)+(↑(xs_1.length):Int)) λyL=>CY pG 109 (agg (.mk xL)::xL_1) m'_1 l_1 xs_1 go stop/\(∀(j:Nat)(v:List Value),List.get?Internal xs_1 j=some v->l_1=l/\(0:
 Int)<=0+(↑j:Int)/\List.get?Internal xs (Int.toNat ((0:Int)+(↑j:Int)))=some v)/\(∀(v:Value),go v\/stop v->Shape.fits .bool v=true)/\∀(b:Bool),(go (bool b)->yL=(↑(xs.length):Int)\/yL=(-1:Int))/\
 (stop (bool b)->(-1:Int)=(↑(xs.length):Int)\/(-1:Int)=(-1:Int))):IX Tryz.prog 108 [] [.pointer (some ⟨c0b,c0o,none⟩)] m xs:=
 Zk0 (E:=ZhX) Zay mix Tryz.func108 [] [.pointer (some ⟨c0b,c0o,none⟩)] xs (by kernel_rfl) (Eq.mp (by kernel_rfl) h)
def ZfZ:Env:={ EB with
 frzNew:=[3]
 eff:=swI false [(17,true)]
 ldF:=swI none [(9,some (some true))] }
theorem Zff(aD aE aF aG aJ aH aI:Int)(aB:Option Addr)(aA aC c0b c0o c1b c1o:Nat)(m:Mem)(l:Nat)(xs:List (List Value))(go stop:Value->Prop)(h:
 lE (↑(xs.length):Int) λyL=>lV [slice aB aA aC,func (Fn.func 111) (Array.mk []) (Array.mk [Value.pointer (some (Addr.mk c1b c1o none))])] λxL=>lV [int u8 aD,int u64 aE,int u64 aF,int u64 aG,int u64
 aJ,int i64 aH,int i64 aI,slice aB aA aC] λxL_1=>fzM m xL_1 λb m'=>br (aD == 4) (∃(v:Value),m' c0b c0o=some v/\∃(l_1:Nat),v=func (Fn.yield l_1) (Array.mk []) (Array.mk [])/\(l_1=l/\(0
 : Int)<=0/\List.get?Internal xs (Int.toNat (0:Int))=some [agg (.mk xL_1)])/\(∃(l_2:Nat),∃(xs_1:List (List Value)),∃(go_1:Value->Prop),∃(stop_1:Value->Prop),lE ((0:Int)+1+(↑(xs_1.length):Int)) fun
 yL_1=>CY pG 110 xL m' l_2 xs_1 go_1 stop_1/\(∀(j:Nat)(v:List Value),lE ((0:Int)+1+(↑j:Int)) λyL=>List.get?Internal xs_1 j=some v->l_2=l/\(0:Int)<=yL/\List.get?Internal xs (Int.toNat yL)=some v)/\
 (∀(v:Value),go_1 v\/stop_1 v->Shape.fits .bool v=true)/\∀(b:Bool),lX (bool !b) λyL_2=>(go_1 (bool b)->yL_1=yL/\go yL_2\/yL_1=(-1:Int)/\stop yL_2)/\(stop_1 (bool b)->(-1:Int)=yL/\go yL_2\/(-1:
 Int)=(-1:Int)/\stop yL_2))/\((-1:Int)=yL/\go (bool false)\/(-1:Int)=(-1:Int)/\stop (bool false))) (∃(l_1:Nat),∃(xs_1:List (List Value)),∃(go_1:Value->Prop),∃(stop_1:Value->Prop),lE ((0:Int) +
 (↑(xs_1.length):Int)) λyL_1=>CY pG 110 xL m' l_1 xs_1 go_1 stop_1/\(∀(j:Nat)(v:List Value),List.get?Internal xs_1 j=some v->l_1=l/\(0:Int)<=0+(↑j:Int)/\List.get?Internal xs (Int.toNat ((0:Int)+(↑j
 : Int)))=some v)/\(∀(v:Value),go_1 v\/stop_1 v->Shape.fits .bool v=true)/\∀(b:Bool),lX (bool !b) λyL_2=>(go_1 (bool b)->yL_1=yL/\go yL_2\/yL_1=(-1:Int)/\stop yL_2)/\(stop_1 (bool b)->(-1:Int) =
 yL/\go yL_2\/(-1:Int)=(-1:Int)/\stop yL_2))):CY Tryz.prog 109 [.agg #[.int .u8 aD,.int .u64 aE,.int .u64 aF,.int .u64 aG,.int .u64 aJ,.int .i64 aH,.int .i64 aI,.slice aB aA aC],.pointer (some ⟨c0b,c0o,none⟩),.pointer (some ⟨c1b,c1o,none⟩)] m l xs go stop:=
 ZhL (E:=ZfZ) Zay mix Tryz.func109 [.agg #[.int .u8 aD,.int .u64 aE,.int .u64 aF,.int .u64 aG,.int .u64 aJ,.int .i64 aH,.int .i64 aI,.slice aB aA aC],.pointer (some ⟨c0b,c0o,none⟩),.pointer (some ⟨c1b,c1o,none⟩)] l xs go stop (by kernel_rfl) (Eq.mp (by kernel_rfl) h)
def ZeX:Env:={ EB with
 frzNew:=[2]
 eff:=swI false [(6,true)]
 ldF:=swI none [(4,some (some false))] }
theorem Zer(aD aE aF aG aJ aH aI:Int)(aB:Option Addr)(aA aC c0b c0o:Nat)(m:Mem)(l:Nat)(xs:List (List Value))(go stop:Value->Prop)(h:
 lV [int u8 aD,int u64 aE,int u64 aF,int u64 aG,int u64 aJ,int i64 aH,int i64 aI,slice aB aA aC] λxL=>fzM m xL λb m'=>∃(v:Value),m' c0b c0o=some v/\∃(g:Nat),∃(fi:List Value),∃
 (ca:List Value),v=func (Fn.func g) (Array.mk fi) (Array.mk ca)/\∃(l_1:Nat),∃(xs_1:List (List Value)),∃(go_1:Value->Prop),∃(stop_1:Value->Prop),lE ((0:Int)+(↑(xs_1.length):Int)) λyL=>CY pG g
 (List.append (List.append fi [agg (.mk xL)]) ca) m' l_1 xs_1 go_1 stop_1/\(∀(j:Nat)(v:List Value),List.get?Internal xs_1 j=some v->l_1=l/\(0:Int)<=0+(↑j:Int)/\List.get?Internal xs (Int.toNat ((0:Int)+(↑j
 : Int)))=some v)/\(∀(v:Value),go_1 v\/stop_1 v->Shape.fits .bool v=true)/\∀(b:Bool),lX (bool !b) λyL_1=>(go_1 (bool b)->yL=(↑(xs.length):Int)/\go yL_1\/yL=(-1:Int)/\stop yL_1)/\(stop_1 (bool b)->
 (-1:Int)=(↑(xs.length):Int)/\go yL_1\/(-1:Int)=(-1:Int)/\stop yL_1)):CY Tryz.prog 111 [.agg #[.int .u8 aD,.int .u64 aE,.int .u64 aF,.int .u64 aG,.int .u64 aJ,.int .i64 aH,.int .i64 aI,.slice aB aA aC],.pointer (some ⟨c0b,c0o,none⟩)] m l xs go stop:=
 ZhL (E:=ZeX) Zay mix Tryz.func111 [.agg #[.int .u8 aD,.int .u64 aE,.int .u64 aF,.int .u64 aG,.int .u64 aJ,.int .i64 aH,.int .i64 aI,.slice aB aA aC],.pointer (some ⟨c0b,c0o,none⟩)] l xs go stop (by kernel_rfl) (Eq.mp (by kernel_rfl) h)
def Zbr:Env:={ EB with
 eff:=swI false [(7,true)] }
theorem Zbl(p0a:Option Addr)(p0n p0c p1g:Nat)(p1fi p1ca:List Value)(m:Mem)(l:Nat)(xs:List (List Value))(go stop:Value->Prop)(h:
 ∃(l_1:Nat),∃(xs_1:List (List Value)),∃(go_1:Value->Prop),∃(stop_1:Value->Prop),lE ((0:Int)+(↑(xs_1.length):Int)) λyL=>CY pG 102 [slice p0a p0n p0c,func (Fn.func p1g) (Array.mk p1fi) (Array.mk p1ca)] m
 l_1 xs_1 go_1 stop_1/\(∀(j:Nat)(v:List Value),List.get?Internal xs_1 j=some v->l_1=l/\(0:Int)<=0+(↑j:Int)/\List.get?Internal xs (Int.toNat ((0:Int)+(↑j:Int)))=some v)/\(∀(v:Value),go_1 v\/stop_1
 v->Shape.fits (.int i64) v=true)/\∀(n:Int),lX (bool (decide (n ≥ 0))) λyL_1=>(go_1 (int i64 n)->yL=(↑(xs.length):Int)/\go yL_1\/yL=(-1:Int)/\stop yL_1)/\(stop_1 (int i64 n)->(-1:Int)=(↑(xs.length):
 Int)/\go yL_1\/(-1:Int)=(-1:Int)/\stop yL_1)):CY Tryz.prog 110 [.slice p0a p0n p0c,.func (.func p1g) p1fi.toArray p1ca.toArray] m l xs go stop:=
 ZhL (E:=Zbr) Zay mix Tryz.func110 [.slice p0a p0n p0c,.func (.func p1g) p1fi.toArray p1ca.toArray] l xs go stop (by kernel_rfl) (Eq.mp (by kernel_rfl) h)
def ZbC:Env:={ EB with
 loops:=swI nLa [(2,⟨[(8,.int .i64)],[],[],true⟩)]
 eff:=swI false [(16,true)] }
theorem Zbx(p0a:Option Addr)(p0n p0c p1g:Nat)(p1fi p1ca:List Value)(m:Mem)(l:Nat)(xs:List (List Value))(go stop:Value->Prop)(h:
 ∃I,lE (↑(xs.length):Int) λyL=>inI I [int i64 0,int i64 0] [] [] m/\∀y (n:Int) m' (n_1:Nat),lV [int i64 (i64.wrap (n+1))] λxL=>lX (int i64 n) λyL_1=>m.le m'->I [int i64 y,yL_1] [] [] m' n_1->br
 (decide (n < (↑p0n:Int))) (atA p0a λb o=>Zaf n p0n/\∃v v_1 v_2 v_3 v_4 v_5 v_6 v_7:Value,lV [v,v_1,v_2,v_3,v_4,v_5,v_6,v_7] λxL_1=>m'.reads b (o+Int.toNat n*8) xL_1/\∃(l_1:Nat),∃(xs_1:List
 (List Value)),∃(go_1:Value->Prop),∃(stop_1:Value->Prop),lE (y+(↑(xs_1.length):Int)) λyL_2=>CY pG p1g (List.append (List.append p1fi [agg (.mk xL_1)]) p1ca) m' l_1 xs_1 go_1 stop_1/\(∀(j:Nat) (v:List
 Value),List.get?Internal xs_1 j=some v->l_1=l/\(0:Int)<=y+(↑j:Int)/\List.get?Internal xs (Int.toNat (y+(↑j:Int)))=some v)/\(∀(v:Value),go_1 v\/stop_1 v->Shape.fits .bool v=true)/\∀(b:Bool),(go_1
 (bool b)->br b (yL_2=yL/\go yL_1\/yL_2=(-1:Int)/\stop yL_1) (nxI n_1 I (int i64 yL_2::xL) [] [] m'))/\(stop_1 (bool b)->br b ((-1:Int)=yL/\go yL_1\/(-1:Int)=(-1:Int)/\stop yL_1) (nxI n_1 I (int i64 (-1)
 :: xL) [] [] m'))) (y=yL/\go (int i64 (-1))\/y=(-1:Int)/\stop (int i64 (-1)))):CY Tryz.prog 102 [.slice p0a p0n p0c,.func (.func p1g) p1fi.toArray p1ca.toArray] m l xs go stop:=
 ZhL (E:=ZbC) Zay mix Tryz.func102 [.slice p0a p0n p0c,.func (.func p1g) p1fi.toArray p1ca.toArray] l xs go stop (by kernel_rfl) (Eq.mp (by kernel_rfl) h)
def Zrj:Env:={ EB with
 frzNew:=[1] }
theorem ZpN(aD aE aF aG aJ aH aI:Int)(aB:Option Addr)(aA aC:Nat)(m:Mem)(R:RT)(h:
 fzM m [int u8 aD,int u64 aE,int u64 aF,int u64 aG,int u64 aJ,int i64 aH,int i64 aI,slice aB aA aC] λb m'=>rtM m m' R (func (Fn.func 99) (Array.mk []) (Array.mk [Value.pointer (some (Addr.mk b 0
 none))]))):CX Tryz.prog 70 #[.agg #[.int .u8 aD,.int .u64 aE,.int .u64 aF,.int .u64 aG,.int .u64 aJ,.int .i64 aH,.int .i64 aI,.slice aB aA aC]] m [] R:=
 Zad (E:=Zrj) Zay mix Tryz.func70 [.v (.agg #[.int .u8 aD,.int .u64 aE,.int .u64 aF,.int .u64 aG,.int .u64 aJ,.int .i64 aH,.int .i64 aI,.slice aB aA aC])] [] (by kernel_rfl) (Eq.mp (by kernel_rfl) h)
def ZnD:Env:={ EB with
 loops:=swI nLa [(3,⟨[(13,.int .i64)],[],[],true⟩),(7,⟨[(19,.agg [.int .u8,.int .u64,.int .u64,.int .u64,.int .u64,.int .i64,.int .i64,.slice])],[],[],true⟩)]
 frzNew:=[2] }
theorem Zlo(p0g:Nat)(p0fi p0ca:List Value)(c0b c0o:Nat)(m:Mem)(xs:List (List Value))(h:
 ∀(l:Nat),lE (↑(xs.length):Int) λyL=>lV [func (Fn.yield l) (Array.mk []) (Array.mk [])] λxL=>fzM m xL λb m'=>∃v v_1 v_2 v_3 v_4 v_5 v_6 v_7:Value,lV [v,v_1,v_2,v_3,v_4,v_5,v_6,v_7] λxL_1=>lE
 [some (Box.mk b xL 34 1 true true)] λxL=>m'.reads c0b c0o xL_1/\(l=l/\(0:Int)<=0/\List.get?Internal xs (Int.toNat (0:Int))=some [agg (.mk xL_1)])/\(∃(v:Value),m' c0b (c0o+7)=some v/\chk (Zck v) (∃I,
 inI I [int i64 ((0:Int)+1),int i64 0] [] [] m'/\∀y n m'_1 (n_1:Nat),m'.le m'_1->I [int i64 y,int i64 n] [] [] m'_1 n_1->br (decide (n < (↑(slN v):Int))) (chk (Zck v) (atA (slA v) λb o=>Zaf n (slN v)/\∃v
 v_8 v_9 v_10 v_11 v_12 v_13 v_14:Value,lV [v,v_8,v_9,v_10,v_11,v_12,v_13,v_14] λxL_2=>m'_1.reads b (o+Int.toNat n*8) xL_2/\∀b,lE (some (Box.mk b xL_2 27 8 false true)::xL) λxL_3=>chk (v.oneCell' &&
 (v_8.oneCell'&&(v_9.oneCell'&&(v_10.oneCell'&&(v_11.oneCell'&&(v_12.oneCell'&&(v_13.oneCell'&&(v_14.oneCell'&&true)))))))) (kF pG 70 [agg (.mk xL_2)] m'_1 λg fi ca m'=>∃(xs_1:List (List Value)),IX pG g fi ca
 m' xs_1/\(∀(x:List Value),x∈xs_1->Shape.fitsL [shT] x=true)/\∃(I_1:IT),I_1 [int i64 y] [] [] m' 0/\(∀y n n_2 n_3 n_4 n_5 n_6 n_7 a n_8 c m'_2 (n_9:Nat),lE (some [agg (.mk [int u8 n,int u64 n_2,int u64 n_3,
 int u64 n_4,int u64 n_5,int i64 n_6,int i64 n_7,slice a n_8 c])]) λyL_1=>m'.le m'_2->List.get?Internal xs_1 n_9=yL_1->I_1 [int i64 y] [] [] m'_2 n_9->∀(b:Nat),(l=l/\(0:Int)<=y/\List.get?Internal xs
 (Int.toNat y)=yL_1)/\(Zab xL_3/\I_1 [int i64 (y+1)] [] [] m'_2 (n_9+1))/\Zab xL_3/\((-1:Int)=yL\/(-1:Int)=(-1:Int)))/\∀y m'_2,m'.le m'_2->I_1 [int i64 y] [] [] m'_2 (xs_1.length)->Zab xL/\nxI
 n_1 I [int i64 y,int i64 (i64.wrap (n+1))] [] [] m'_2))) (y=yL\/y=(-1:Int))))/\((-1:Int)=yL\/(-1:Int)=(-1:Int))):IX Tryz.prog 99 [] [.pointer (some ⟨c0b,c0o,none⟩)] m xs:=
 Zk0 (E:=ZnD) Zay mix Tryz.func99 [] [.pointer (some ⟨c0b,c0o,none⟩)] xs (by kernel_rfl) (Eq.mp (by kernel_rfl) h)
def Zrk:Env:={ EB with
 loops:=swI nLa [(3,⟨[(6,.agg [.int .u8,.int .u64,.int .u64,.int .u64,.int .u64,.int .i64,.int .i64,.slice])],[3],[],false⟩)]
 frzNew:=[1] }
theorem ZpO(aD aE aF aG aJ aH aI:Int)(aB:Option Addr)(aA aC:Nat)(m:Mem)(R:RT)(h:
 lV [int u8 aD,int u64 aE,int u64 aF,int u64 aG,int u64 aJ,int i64 aH,int i64 aI,slice aB aA aC] λxL=>fzM m xL λb m'=>∀b_1,lE [some (Box.mk b_1 [] 3 1 false true),some (Box.mk b xL 27 8
 true true)] λxL_1=>kF pG 70 [agg (.mk xL)] m' λg fi ca m'=>∃(xs:List (List Value)),IX pG g fi ca m' xs/\(∀(x:List Value),x∈xs->Shape.fitsL [shT] x=true)/\∃(I:IT),I [] [[int i64 0]] [] m' 0/\(∀n n_1
 n_2 n_3 n_4 n_5 n_6 a n_7 c (cs:List Value) m'_1 (n_8:Nat),m'.le m'_1->List.get?Internal xs n_8=some [agg (.mk [int u8 n,int u64 n_1,int u64 n_2,int u64 n_3,int u64 n_4,int i64 n_5,int i64 n_6,slice a n_7 c])]->I
 [] [cs] [] m'_1 n_8->Eng.ZuZ cs 0 λv=>lE (i64.wrap (RowKit.intOf v+1)) λyL=>chk (ZaE i64 v&&decide (i64=i64)) (br (decide (yL > 10000)) (Zab xL_1/\rtM m m'_1 R (bool (decide (yL<=10000)))) (Zab xL_1/\I
 [] [[int i64 yL]] [] m'_1 (n_8+1))))/\∀(cs:List Value) m'_1,m'.le m'_1->I [] [cs] [] m'_1 (xs.length)->Eng.ZuZ cs 0 λv=>chk (ZaE i64 v&&decide (i64=i64)) (rtM m m'_1 R (bool (decide (RowKit.intOf v<=10000))))):CX Tryz.prog 69 #[.agg #[.int .u8 aD,.int .u64 aE,.int .u64 aF,.int .u64 aG,.int .u64 aJ,.int .i64 aH,.int .i64 aI,.slice aB aA aC]] m [] R:=
 Zad (E:=Zrk) Zay mix Tryz.func69 [.v (.agg #[.int .u8 aD,.int .u64 aE,.int .u64 aF,.int .u64 aG,.int .u64 aJ,.int .i64 aH,.int .i64 aI,.slice aB aA aC])] [] (by kernel_rfl) (Eq.mp (by kernel_rfl) h)
def ZpP:Env:={ EB with
 joins:=swI none [(1,some [(18,.bool)]),(3,some [(4,.bool)])] }
theorem ZnE(p0 p1:Int)(m:Mem)(R:RT)(h:
 ∃(b:Bool),lV [bool b] λxL=>br (decide (p0 < 0)) ([bool true]=xL) (br (decide (p0 > 16)) ([bool true]=xL) (br (p0 == 1) ([bool (p1 == 1)]=xL) ([bool false]=xL)))/\br b (rtM m m R (bool false)) (∃(b:Bool),lV
 [bool b] λxL=>br (p1 == (-1)) ([bool true]=xL) (br (decide (p1 ≥ 1)) (br (decide (p1<=16)) ([bool (decide (p1 ≥ p0))]=xL) ([bool false]=xL)) ([bool false]=xL))/\rtM m m R (bool b))):CX Tryz.prog 30 #[.int .i64 p0,.int .i64 p1] m [] R:=
 Zad (E:=ZpP) Zay mix Tryz.func30 [.v (.int .i64 p0),.v (.int .i64 p1)] [] (by kernel_rfl) (Eq.mp (by kernel_rfl) h)
def Zrl:Env:={ EB with
 frzNew:=[2] }
theorem ZpQ(aD aE aF aG aJ aH aI:Int)(aB:Option Addr)(aA aC c0b c0o:Nat)(m:Mem)(R:RT)(h:
 fzM m [int u8 aD,int u64 aE,int u64 aF,int u64 aG,int u64 aJ,int i64 aH,int i64 aI,slice aB aA aC] λb m'=>∃(v:Value),m' c0b c0o=some v/\chk (ZaE u8 v) (rtM m m' R (bool (aD ==
 RowKit.intOf v)))):CX Tryz.prog 119 #[.agg #[.int .u8 aD,.int .u64 aE,.int .u64 aF,.int .u64 aG,.int .u64 aJ,.int .i64 aH,.int .i64 aI,.slice aB aA aC],.pointer (some ⟨c0b,c0o,none⟩)] m [] R:=
 Zad (E:=Zrl) Zay mix Tryz.func119 [.v (.agg #[.int .u8 aD,.int .u64 aE,.int .u64 aF,.int .u64 aG,.int .u64 aJ,.int .i64 aH,.int .i64 aI,.slice aB aA aC]),.v (.pointer (some ⟨c0b,c0o,none⟩))] [] (by kernel_rfl) (Eq.mp (by kernel_rfl) h)
def ZbQ:Env:={ EB with
 loops:=swI nLa [(2,⟨[(8,.int .i64)],[],[],false⟩)] }
theorem ZbL(p0a:Option Addr)(p0n p0c p1g:Nat)(p1fi p1ca:List Value)(m:Mem)(R:RT)(h:
 ∃I,inI I [int i64 0] [] [] m/\∀n m' (n_1:Nat),m.le m'->I [int i64 n] [] [] m' n_1->br (decide (n < (↑p0n:Int))) (atA p0a λb o=>Zaf n p0n/\∃v v_1 v_2 v_3 v_4 v_5 v_6 v_7:Value,lV [v,v_1,v_2,v_3,v_4,
 v_5,v_6,v_7] λxL=>m'.reads b (o+Int.toNat n*8) xL/\kB pG p1g (List.append (List.append p1fi [agg (.mk xL)]) p1ca) m' λb m'=>br b (rtM m m' R (int i64 n)) (nxI n_1 I [int i64 (i64.wrap (n+1))] [] [] m')) (rtM m
 m' R (int i64 (-1)))):CX Tryz.prog 102 #[.slice p0a p0n p0c,.func (.func p1g) p1fi.toArray p1ca.toArray] m [] R:=
 Zad (E:=ZbQ) Zay mix Tryz.func102 [.v (.slice p0a p0n p0c),.v (.func (.func p1g) p1fi.toArray p1ca.toArray)] [] (by kernel_rfl) (Eq.mp (by kernel_rfl) h)
def ZbD:Env:=EB
theorem Zby(p0a:Option Addr)(p0n p0c p1g:Nat)(p1fi p1ca:List Value)(m:Mem)(R:RT)(h:
 kI pG 102 [slice p0a p0n p0c,func (Fn.func p1g) (Array.mk p1fi) (Array.mk p1ca)] m λn m'=>rtM m m' R (bool (decide (n ≥ 0)))):CX Tryz.prog 110 #[.slice p0a p0n p0c,.func (.func p1g) p1fi.toArray p1ca.toArray] m [] R:=
 Zad (E:=ZbD) Zay mix Tryz.func110 [.v (.slice p0a p0n p0c),.v (.func (.func p1g) p1fi.toArray p1ca.toArray)] [] (by kernel_rfl) (Eq.mp (by kernel_rfl) h)
def Zwp:Env:={ EB with
 frzNew:=[2,3] }
theorem Zun(aD aE aF aG aJ aH aI:Int)(aB:Option Addr)(aA aC:Nat)(p1:Int)(m:Mem)(R:RT)(h:
 fzM m [int u8 aD,int u64 aE,int u64 aF,int u64 aG,int u64 aJ,int i64 aH,int i64 aI,slice aB aA aC] λb m'=>fzM m' [int u8 p1] λb m'=>kB pG 110 [slice aB aA aC,func (Fn.func 119)
 (Array.mk []) (Array.mk [Value.pointer (some (Addr.mk b 0 none))])] m' λb m'=>rtM m m' R (bool b)):CX Tryz.prog 100 #[.agg #[.int .u8 aD,.int .u64 aE,.int .u64 aF,.int .u64 aG,.int .u64 aJ,.int .i64 aH,.int .i64 aI,.slice aB aA aC],.int .u8 p1] m [] R:=
 Zad (E:=Zwp) Zay mix Tryz.func100 [.v (.agg #[.int .u8 aD,.int .u64 aE,.int .u64 aF,.int .u64 aG,.int .u64 aJ,.int .i64 aH,.int .i64 aI,.slice aB aA aC]),.v (.int .u8 p1)] [] (by kernel_rfl) (Eq.mp (by kernel_rfl) h)
def Zrm:Env:={ EB with
 joins:=swI none [(1,some [(37,.bool)]),(9,some [(2,.bool)]),(11,some [(2,.bool)]),(13,some [(2,.bool)]),(14,some [(2,.bool)])]
 frzNew:=[1] }
theorem ZpR(aD aE aF aG aJ aH aI:Int)(aB:Option Addr)(aA aC:Nat)(m:Mem)(R:RT)(h:
 lE (↑aA:Int) λyL=>lV [int u8 aD,int u64 aE,int u64 aF,int u64 aG,int u64 aJ,int i64 aH,int i64 aI,slice aB aA aC] λxL=>lX (agg (.mk xL)) λyL_1=>lE (decide (aD < 3)) λyL_2=>
 lX (agg (.mk [int u64 aE,int u64 aF,int u64 aG,int u64 aJ])) λyL_3=>lV [bool (decide (yL > 0))] λxL_1=>fzM m xL λb m'=>∃(b_1:Bool),lV [bool b_1] λxL_2=>lE [some (Box.mk b xL 27 8 true true)] fun
 xL=>br (!aD == 2) (∃(b:Bool),EqIs pG 24 yL_3 (agg (.mk [int u64 0,int u64 0,int u64 0,int u64 0])) b/\br (!b) (Zab xL/\[bool true]=xL_2) (br (!aD == 5) (br (!aH == 0) (Zab xL/\[bool true]=xL_2) (br
 (!aI == 0) (Zab xL/\[bool true]=xL_2) (br yL_2 (Zab xL/\xL_1=xL_2) (Zab xL/\[bool false]=xL_2)))) (br yL_2 (Zab xL/\xL_1=xL_2) (Zab xL/\[bool false]=xL_2)))) (br (!aD == 5) (br (!aH == 0)
 (Zab xL/\[bool true]=xL_2) (br (!aI == 0) (Zab xL/\[bool true]=xL_2) (br yL_2 (Zab xL/\xL_1=xL_2) (Zab xL/\[bool false]=xL_2)))) (br yL_2 (Zab xL/\xL_1=xL_2) (Zab xL/\[bool false]=xL_2)))/\br
 b_1 (rtM m m' R (bool false)) (br (aD == 1) (rtM m m' R (bool true)) (br (aD == 2) (∃(b:Bool),EqIs pG 24 yL_3 (agg (.mk [int u64 0,int u64 0,int u64 0,int u64 0])) b/\rtM m m' R (bool !b)) (br (aD == 3) (∃(b:
 Bool),br (decide (yL > 1)) (kB pG 100 [yL_1,int u8 1] m' λb_2 m'=>br (!b_2) (kB pG 100 [yL_1,int u8 3] m' λb_3 m'=>Zab xL/\[bool !b_3]=[bool b]) (Zab xL/\[bool false]=[bool b])) (Zab xL/\[bool false] =
 [bool b])/\rtM m m' R (bool b)) (br (aD == 4) (∃(b:Bool),br (decide (yL > 1)) (kB pG 100 [yL_1,int u8 4] m' λb_2 m'=>Zab xL/\[bool !b_2]=[bool b]) (Zab xL/\[bool false]=[bool b])/\rtM m m' R (bool b)) (br
 (aD == 5) (∃(b:Bool),br (yL == 1) (kB pG 30 [int i64 aH,int i64 aI] m' λb_2 m'=>br b_2 (kB pG 100 [yL_1,int u8 1] m' λb_3 m'=>Zab xL/\[bool !b_3]=[bool b]) (Zab xL/\[bool false]=[bool b])) (Zab
 xL/\[bool false]=[bool b])/\rtM m m' R (bool b)) (∃(b:Bool),br (aD == 6) (Zab xL/\[bool (yL == 1)]=[bool b]) (Zab xL/\[bool false]=[bool b])/\rtM m m' R (bool b)))))))):CX Tryz.prog 71 #[.agg #[.int .u8 aD,.int .u64 aE,.int .u64 aF,.int .u64 aG,.int .u64 aJ,.int .i64 aH,.int .i64 aI,.slice aB aA aC]] m [] R:=
 Zad (E:=Zrm) Zay mix Tryz.func71 [.v (.agg #[.int .u8 aD,.int .u64 aE,.int .u64 aF,.int .u64 aG,.int .u64 aJ,.int .i64 aH,.int .i64 aI,.slice aB aA aC])] [] (by kernel_rfl) (Eq.mp (by kernel_rfl) h)
def Zrn:Env:={ EB with
 loops:=swI nLa [(5,⟨[(9,.agg [.int .u8,.int .u64,.int .u64,.int .u64,.int .u64,.int .i64,.int .i64,.slice])],[2],[],false⟩)]
 frzNew:=[1] }
theorem ZpS(aD aE aF aG aJ aH aI:Int)(aB:Option Addr)(aA aC:Nat)(m:Mem)(R:RT)(h:
 lV [int u8 aD,int u64 aE,int u64 aF,int u64 aG,int u64 aJ,int i64 aH,int i64 aI,slice aB aA aC] λxL=>fzM m xL λb m'=>∀b_1,lE [some (Box.mk b_1 [] 4 1 false true),some (Box.mk b xL 27 8
 true true)] λxL_1=>kB pG 69 [agg (.mk xL)] m' λb m'=>br (!b) (rtM m m' R (bool false)) (kF pG 70 [agg (.mk xL)] m' λg fi ca m'=>∃(xs:List (List Value)),IX pG g fi ca m' xs/\(∀(x:List Value),x∈xs->
 Shape.fitsL [shT] x=true)/\∃(I:IT),I [] [[bool false]] [] m' 0/\(∀n n_1 n_2 n_3 n_4 n_5 n_6 a n_7 c (cs:List Value) m'_1 (n_8:Nat),lV [agg (.mk [int u8 n,int u64 n_1,int u64 n_2,int u64 n_3,int u64 n_4,int i64
 n_5,int i64 n_6,slice a n_7 c])] λxL=>m'.le m'_1->List.get?Internal xs n_8=some xL->I [] [cs] [] m'_1 n_8->∀(b:Nat),kB pG 71 xL m'_1 λb m'=>br (!b) (Zab xL_1/\rtM m m' R (bool false)) (Zab xL_1/\I []
 [cs] [] m' (n_8+1)))/\∀(cs:List Value) m'_1,m'.le m'_1->I [] [cs] [] m'_1 (xs.length)->rtM m m'_1 R (bool true))):CX Tryz.prog 26 #[.agg #[.int .u8 aD,.int .u64 aE,.int .u64 aF,.int .u64 aG,.int .u64 aJ,.int .i64 aH,.int .i64 aI,.slice aB aA aC]] m [] R:=
 Zad (E:=Zrn) Zay mix Tryz.func26 [.v (.agg #[.int .u8 aD,.int .u64 aE,.int .u64 aF,.int .u64 aG,.int .u64 aJ,.int .i64 aH,.int .i64 aI,.slice aB aA aC])] [] (by kernel_rfl) (Eq.mp (by kernel_rfl) h)
def Zuo:Env:={ EB with
 loops:=swI nLa [(5,⟨[(9,.agg [.int .u8,.int .u64,.int .u64,.int .u64,.int .u64,.int .i64,.int .i64,.slice])],[3],[],false⟩)]
 frzNew:=[1] }
theorem Zro(aD aE aF aG aJ aH aI:Int)(aB:Option Addr)(aA aC:Nat)(m:Mem)(R:RT)(h:
 lV [int u8 aD,int u64 aE,int u64 aF,int u64 aG,int u64 aJ,int i64 aH,int i64 aI,slice aB aA aC] λxL=>fzM m xL λb m'=>kB pG 69 [agg (.mk xL)] m' λb_1 m'=>br (!b_1) (rtM m m' R (int i64
 10001)) (∀b_2,kF pG 70 [agg (.mk xL)] m' λg fi ca m'=>∃(xs:List (List Value)),IX pG g fi ca m' xs/\(∀(x:List Value),x∈xs->Shape.fitsL [shT] x=true)/\∃(I:IT),I [] [[int i64 0]] [] m' 0/\(∀n n_1 n_2 n_3
 n_4 n_5 n_6 a n_7 c (cs:List Value) m'_1 (n_8:Nat),m'.le m'_1->List.get?Internal xs n_8=some [agg (.mk [int u8 n,int u64 n_1,int u64 n_2,int u64 n_3,int u64 n_4,int i64 n_5,int i64 n_6,slice a n_7 c])]->I [] [cs]
 [] m'_1 n_8->Eng.ZuZ cs 0 λv=>chk (ZaE i64 v&&decide (i64=i64)) (Zab [some (Box.mk b_2 [] 3 1 false true),some (Box.mk b xL 27 8 true true)]/\I [] [[int i64 (i64.wrap (RowKit.intOf v+1))]] [] m'_1 (n_8+1)))/\
 ∀(cs:List Value) m'_1,m'.le m'_1->I [] [cs] [] m'_1 (xs.length)->Eng.ZuZ cs 0 λv=>rtM m m'_1 R v)):CX Tryz.prog 63 #[.agg #[.int .u8 aD,.int .u64 aE,.int .u64 aF,.int .u64 aG,.int .u64 aJ,.int .i64 aH,.int .i64 aI,.slice aB aA aC]] m [] R:=
 Zad (E:=Zuo) Zay mix Tryz.func63 [.v (.agg #[.int .u8 aD,.int .u64 aE,.int .u64 aF,.int .u64 aG,.int .u64 aJ,.int .i64 aH,.int .i64 aI,.slice aB aA aC])] [] (by kernel_rfl) (Eq.mp (by kernel_rfl) h)
def Za2:Env:={ EB with
 loops:=swI nLa [(4,⟨[(17,.int .i64)],[],[],false⟩)] }
theorem ZaY(p0a:Option Addr)(p0n p0c:Nat)(p1a:Option Addr)(p1n p1c p2g:Nat)(p2fi p2ca:List Value)(m:Mem)(R:RT)(h:
 br (!(↑p0n:Int) == (↑p1n:Int)) (rtM m m R (bool false)) (∃I,inI I [int i64 0] [] [] m/\∀n m' (n_1:Nat),m.le m'->I [int i64 n] [] [] m' n_1->br (decide (n < (↑p0n:Int))) (atA p0a λb o=>Zaf n p0n/\∃v v_1
 v_2 v_3 v_4 v_5 v_6 v_7:Value,lV [v,v_1,v_2,v_3,v_4,v_5,v_6,v_7] λxL=>m'.reads b (o+Int.toNat n*8) xL/\∀(b:Nat),chk (v.oneCell'&&(v_1.oneCell'&&(v_2.oneCell'&&(v_3.oneCell'&&(v_4.oneCell' &&
 (v_5.oneCell'&&(v_6.oneCell'&&(v_7.oneCell'&&true)))))))) (atA p1a λb o=>Zaf n p1n/\∃v v_8 v_9 v_10 v_11 v_12 v_13 v_14:Value,lV [v,v_8,v_9,v_10,v_11,v_12,v_13,v_14] λxL_1=>m'.reads b (o+Int.toNat
 n*8) xL_1/\∀(b:Nat),chk (v.oneCell'&&(v_8.oneCell'&&(v_9.oneCell'&&(v_10.oneCell'&&(v_11.oneCell'&&(v_12.oneCell'&&(v_13.oneCell'&&(v_14.oneCell'&&true)))))))) (kB pG p2g (List.append (List.append p2fi [agg
 (.mk xL),agg (.mk xL_1)]) p2ca) m' λb m'=>br (!b) (rtM m m' R (bool false)) (nxI n_1 I [int i64 (i64.wrap (n+1))] [] [] m')))) (rtM m m' R (bool true)))):CX Tryz.prog 101 #[.slice p0a p0n p0c,.slice p1a p1n p1c,.func (.func p2g) p2fi.toArray p2ca.toArray] m [] R:=
 Zad (E:=Za2) Zay mix Tryz.func101 [.v (.slice p0a p0n p0c),.v (.slice p1a p1n p1c),.v (.func (.func p2g) p2fi.toArray p2ca.toArray)] [] (by kernel_rfl) (Eq.mp (by kernel_rfl) h)
def Zup:Env:={ EB with
 joins:=swI none [(1,some [(4,.bool)])]
 frzNew:=[2,3] }
theorem Zrp(aD aE aF aG aJ aH aI:Int)(aB:Option Addr)(aA aC:Nat)(aR aL aM aQ iQ iR iS:Int)(eW:Option Addr)(eX eY:Nat)(m:Mem)(R:RT)(h:
 lV [int u8 aD,int u64 aE,int u64 aF,int u64 aG,int u64 aJ,int i64 aH,int i64 aI,slice aB aA aC] λxL=>lV [int u8 aR,int u64 aL,int u64 aM,int u64 aQ,int u64 iQ,int i64 iR,int i64
 iS,slice eW eX eY] λxL_1=>fzM m xL λb m'=>lE [some (Box.mk b xL 27 8 true true)] λxL=>fzM m' xL_1 λb m'=>∃(b_1:Bool),lV [bool b_1] λxL_2=>lE (some (Box.mk b xL_1 27 8 true true)::xL) fun
 xL=>br (aD == aR) (∃(b:Bool),EqIs pG 24 (agg (.mk [int u64 aE,int u64 aF,int u64 aG,int u64 aJ])) (agg (.mk [int u64 aL,int u64 aM,int u64 aQ,int u64 iQ])) b/\br b (br (aH == iR) (br (aI ==
 iS) (kB pG 101 [slice aB aA aC,slice eW eX eY,func (Fn.func 72) (Array.mk []) (Array.mk [])] m' λb m'=>Zab xL/\[bool b]=xL_2) (Zab xL/\[bool false]=xL_2)) (Zab xL/\[bool false]=xL_2))
 (Zab xL/\[bool false]=xL_2)) (Zab xL/\[bool false]=xL_2)/\rtM m m' R (bool b_1)):CX Tryz.prog 72 #[.agg #[.int .u8 aD,.int .u64 aE,.int .u64 aF,.int .u64 aG,.int .u64 aJ,.int .i64 aH,.int .i64 aI,.slice aB aA aC],.agg #[.int .u8 aR,.int .u64 aL,.int .u64 aM,.int .u64 aQ,.int .u64 iQ,.int .i64 iR,.int .i64 iS,.slice eW eX eY]] m [] R:=
 Zad (E:=Zup) Zay mix Tryz.func72 [.v (.agg #[.int .u8 aD,.int .u64 aE,.int .u64 aF,.int .u64 aG,.int .u64 aJ,.int .i64 aH,.int .i64 aI,.slice aB aA aC]),.v (.agg #[.int .u8 aR,.int .u64 aL,.int .u64 aM,.int .u64 aQ,.int .u64 iQ,.int .i64 iR,.int .i64 iS,.slice eW eX eY])] [] (by kernel_rfl) (Eq.mp (by kernel_rfl) h)
def Zuq:Env:={ EB with
 joins:=swI none [(1,some [(4,.bool)])]
 frzNew:=[2,3] }
theorem Zrq(aD aE aF aG aJ aH aI:Int)(aB:Option Addr)(aA aC:Nat)(aR aL aM aQ iQ iR iS:Int)(eW:Option Addr)(eX eY:Nat)(m:Mem)(R:RT)(h:
 lV [int u8 aR,int u64 aL,int u64 aM,int u64 aQ,int u64 iQ,int i64 iR,int i64 iS,slice eW eX eY] λxL=>lV [int u8 aD,int u64 aE,int u64 aF,int u64 aG,int u64 aJ,int i64 aH,int i64
 aI,slice aB aA aC] λxL_1=>fzM m xL_1 λb m'=>lE [some (Box.mk b xL_1 27 8 true true)] λxL_2=>fzM m' xL λb m'=>∃(b_1:Bool),lE (some (Box.mk b xL 27 8 true true)::xL_2) λxL_3=>(kB pG 69 [agg
 (.mk xL_1)] m' λb m'=>br b (kB pG 69 [agg (.mk xL)] m' λb m'=>br b (kB pG 72 [agg (.mk xL_1),agg (.mk xL)] m' λb m'=>Zab xL_3/\[bool b]=[bool b_1]) (Zab xL_3/\[bool false]=[bool b_1])) (Zab xL_3/\
 [bool false]=[bool b_1]))/\rtM m m' R (bool b_1)):CX Tryz.prog 54 #[.agg #[.int .u8 aD,.int .u64 aE,.int .u64 aF,.int .u64 aG,.int .u64 aJ,.int .i64 aH,.int .i64 aI,.slice aB aA aC],.agg #[.int .u8 aR,.int .u64 aL,.int .u64 aM,.int .u64 aQ,.int .u64 iQ,.int .i64 iR,.int .i64 iS,.slice eW eX eY]] m [] R:=
 Zad (E:=Zuq) Zay mix Tryz.func54 [.v (.agg #[.int .u8 aD,.int .u64 aE,.int .u64 aF,.int .u64 aG,.int .u64 aJ,.int .i64 aH,.int .i64 aI,.slice aB aA aC]),.v (.agg #[.int .u8 aR,.int .u64 aL,.int .u64 aM,.int .u64 aQ,.int .u64 iQ,.int .i64 iR,.int .i64 iS,.slice eW eX eY])] [] (by kernel_rfl) (Eq.mp (by kernel_rfl) h)
end Go.Proofs.YtfgfahnakepegaaGreat
namespace Go.Proofs.YtfgfahnakepegaaGreat
open Go Go.Eng Go.Rx Go.Proofs Go.RowKit
set_option maxRecDepth 100000
theorem Zlp(t:T)(m:Mem):CX Tryz.prog 70 #[t.v] m [] (λv m' _=>∃b,v=.func (.func 99) #[] #[.pointer (some ⟨b,0,none⟩)]/\m'.reads b 0 t.cs):=by
 apply ZpN
 intro b m' hm hb
 exact⟨m',hm,Mem.le_refl _,b,rfl,hb⟩
theorem ZhY(t:T)(m:Mem)(c0b:Nat)(bA:m.reads c0b 0 t.cs)(jR:Rep m t):IX Tryz.prog 99 [] [.pointer (some ⟨c0b,0,none⟩)] m (t.nodes.map λx=>[x.v]):=by
 apply Zlo 0 [] [] c0b 0
 intro l b m' hm hb
 have iT:=bA.mono hm
 refine⟨_,_,_,_,_,_,_,_,iT,⟨rfl,by omega,?_⟩,?_,.inr rfl⟩
 ·rw[Zbf];rfl
 refine⟨t.sl,iT 7 _ rfl,Zaa rfl ?_⟩
 refine⟨λxs _ _ m'' q=>∃i:Nat,i<=t.subs.length/\xs=[.int .i64 ((1+(Zaq (t.subs.take i)).length:Nat):Int),.int .i64 i]/\m'.le m''/\q=t.subs.length - i,⟨t.subs.length,0,by omega,?_,Mem.le_refl _,by omega⟩,?_⟩
 ·simp[Zaq]
 rintro y n m2 q aO ⟨i,hi,aZ,lW,hq⟩
 simp only[List.cons.injEq,Value.int.injEq,true_and,and_true]at aZ
 obtain⟨rfl,rfl⟩:=aZ
 have aU:slN t.sl=t.subs.length:=rfl
 rw[aU]
 refine Zac (λaS=>?_) (λbI=>?_)
 ·have aN:i < t.subs.length:=by simpa using aS
  obtain⟨x,hx⟩:∃x,t.subs[i]?=some x:=⟨_,zA3 aN⟩
  have bP:x∈t.subs:=zA2 hx
  have bE:=Zdi bP
  obtain⟨Bo,h0|⟨b1,o1,ha,bO⟩⟩:=Zgz jR
  ·rw[h0]at aN;simp at aN
  obtain⟨cO,iU⟩:=(bO.mono ((mLt hm lW))).get hx
  refine Zaa rfl ⟨b1,o1,ha,⟨by omega,by omega⟩,_,_,_,_,_,_,_,_,cO,λb2=>Zaa rfl ?_⟩
  refine⟨_,trivial,Zlp x m2,λv m' css h=>?_,?_⟩
  ·obtain⟨b3,rfl,_⟩:=h;rfl
  rintro g fi ca m3 aX ⟨b3,hv,gF⟩
  obtain⟨rfl,rfl,rfl⟩:=Zet hv
  refine⟨_,ZhY x m3 b3 gF (iU.mono aX),λy hy=>?_,?_⟩
  ·obtain⟨z,_,rfl⟩:=List.mem_map.1 hy;exact Zq0 z
  refine⟨λxs _ _ m'' q=>q<=x.nodes.length/\xs=[.int .i64 ((1+(Zaq (t.subs.take i)).length+q:Nat):Int)]/\m3.le m'',⟨Nat.zero_le _,rfl,Mem.le_refl _⟩,?_,?_⟩
  ·rintro y n0 n1 n2 n3 n4 n5 n6 a n7 c m4 q bB hq ⟨kX,hy,_⟩ b4
   simp only[List.cons.injEq,Value.int.injEq,true_and,and_true]at hy
   subst hy
   have hq':(List.map (λz:T=>[z.v]) x.nodes)[(q:Nat)]?=some [Value.agg #[.int .u8 n0,.int .u64 n1,.int .u64 n2,.int .u64 n3,.int .u64 n4,.int .i64 n5,.int .i64 n6,.slice a n7 c]]:=hq
   rw[List.getElem?_map]at hq'
   obtain⟨z,hz,xn⟩:=Option.map_eq_some_iff.1 hq'
   have De:q < x.nodes.length:=(zA0 hz).1
   refine⟨⟨rfl,by omega,?_⟩,⟨rfl,by omega,?_,bB⟩,rfl,.inr rfl⟩
   ·rw[zA8]
    show(t.nodes.map λx=>[x.v])[1+(Zaq (t.subs.take i)).length+q]?=_
    rw[List.getElem?_map,Zv1 hx hz,<-xn];rfl
   ·congr 2
  ·rintro y m4 bB ⟨kX,hy,_⟩
   simp only[List.cons.injEq,Value.int.injEq,true_and,and_true]at hy
   subst hy
   refine⟨rfl,t.subs.length - (i+1),by omega,i+1,by omega,?_,mLt lW (mLt aX bB),rfl⟩
   rw[Zas (by omega) (by omega),Zkl hx,zA1]
   simp[T.v,Nat.add_assoc]
 ·have hi':i=t.subs.length:=by
   have:¬((i:Int) < (t.subs.length:Int)):=by simpa using bI
   omega
  subst hi'
  left
  rw[List.take_length,Zbf]
  simp
  omega
termination_by SizeOf.sizeOf t
decreasing_by exact bE
theorem ZpT(least most:Int)(m:Mem):CX Tryz.prog 30 #[.int .i64 least,.int .i64 most] m [] (Ret (.bool (Zb7 least most))):=by
 apply ZnE
 refine⟨decide (least < 0)||decide (least > 16)||(least == 1&&most == 1),?_,Zac (λh=>Zah (Mem.le_refl _) ?_) (λh=>⟨most == -1||(decide (most ≥ 1)&&decide (most<=16)&&decide (most ≥ least)),?_,Zah (Mem.le_refl _) ?_⟩)⟩
 ·simp only[Zt0];(repeat' split) <;> simp_all <;> omega
 ·simp[Ret,Zb7,h]
 ·simp only[Zt0];(repeat' split) <;> simp_all <;> omega
 ·simp[Ret,Zb7,h]
theorem ZhZ(l:List T)(a:Option Addr)(c:Nat)(g:Nat)(ca:List Value)(p:T->Bool)(m:Mem)(hl:l.length<=1000000000000000)(hr:l=[]\/∃b o,a=some ⟨b,o,none⟩/\RepAt m b o l)
  (hp:∀x∈l,∀m',m.le m'->Rep m' x->CX Tryz.prog g (x.v::ca).toArray m' [] (Ret (.bool (p x)))):
  CX Tryz.prog 102 #[.slice a l.length c,.func (.func g) #[] ca.toArray] m [] (Ret (.int .i64 (if l.any p then(l.findIdx p:Nat)else(-1:Int)))):=by
 apply ZbL a l.length c g [] ca
 refine⟨λxs _ _ m'' q=>∃i:Nat,i<=l.length/\xs=[.int .i64 i]/\(∀x∈l.take i,p x=false)/\m.le m''/\q=l.length - i,⟨l.length,0,by omega,rfl,by simp,Mem.le_refl _,by omega⟩,?_⟩
 rintro n m' q hm ⟨i,hi,hn,dL,bC,hq⟩
 obtain rfl:n=i:=by simpa using hn
 refine Zac (λaS=>?_) (λbI=>?_)
 ·have aN:i < l.length:=by simpa using aS
  obtain⟨x,hx⟩:∃x,l[i]?=some x:=⟨_,zA3 aN⟩
  have bP:x∈l:=zA2 hx
  rcases hr with h0|⟨b1,o1,ha,bO⟩
  ·rw[h0]at aN;simp at aN
  obtain⟨cO,iU⟩:=(bO.mono hm).get hx
  refine⟨b1,o1,ha,⟨by omega,by omega⟩,_,_,_,_,_,_,_,_,cO,Zai (hp x bP m' hm iU) λm1 aK=>Zac (λpH=>?_) (λpH=>?_)⟩
  ·refine Zah (mLt hm aK) ?_
   have eT:l.any p=true:=List.any_eq_true.2 ⟨x,bP,pH⟩
   have um:l.findIdx p=i:=by
    rw[List.findIdx_eq aN]
    refine⟨by rw[(zA0 hx).2];exact pH,λj hj=>?_⟩
    exact dL _ (List.mem_of_getElem? (i:=j) (by rw[List.getElem?_take_of_lt hj];exact zA3 (by omega)))
   simp[Ret,eT,um]
  ·refine⟨l.length - (i+1),by omega,i+1,by omega,by rw[Zas (by omega) (by omega)];rfl,?_,mLt hm aK,rfl⟩
   intro y hy
   rw[List.take_add_one,hx]at hy
   rcases List.mem_append.1 hy with hy|hy
   ·exact dL y hy
   ·simp at hy;rw[hy];exact pH
 ·have hi':i=l.length:=by
   have:¬((i:Int) < (l.length:Int)):=by simpa using bI
   omega
  subst hi'
  refine Zah hm ?_
  have eT:l.any p=false:=by
   rw[List.any_eq_false]
   rw[List.take_length]at dL
   exact λx hx=>by simp[dL x hx]
  simp[Ret,eT]
theorem Zh0(l:List T)(a:Option Addr)(c:Nat)(g:Nat)(ca:List Value)(p:T->Bool)(m:Mem)(hl:l.length<=1000000000000000)(hr:l=[]\/∃b o,a=some ⟨b,o,none⟩/\RepAt m b o l)
  (hp:∀x∈l,∀m',m.le m'->Rep m' x->CX Tryz.prog g (x.v::ca).toArray m' [] (Ret (.bool (p x)))):
  CX Tryz.prog 110 #[.slice a l.length c,.func (.func g) #[] ca.toArray] m [] (Ret (.bool (l.any p))):=by
 apply Zby a l.length c g [] ca
 refine Zdx (ZhZ l a c g ca p m hl hr hp) λm' hm=>Zah hm ?_
 cases h:l.any p <;> simp[Ret]
theorem Zx6(t:T)(k:Int)(b:Nat)(m:Mem)(hb:m.reads b 0 [.int .u8 k]):CX Tryz.prog 119 #[t.v,.pointer (some ⟨b,0,none⟩)] m [] (Ret (.bool (t.k == k))):=by
 apply ZpQ (c0b:=b) (c0o:=0)
 intro b' m' hm _
 exact⟨_,hm _ _ _ (hb 0 _ rfl),Zaa rfl (Zah hm rfl)⟩
theorem Zur(t:T)(k:Int)(m:Mem)(hr:Rep m t):CX Tryz.prog 100 #[t.v,.int .u8 k] m [] (Ret (.bool (t.has k))):=by
 apply Zun
 intro b m1 aK _ b2 m2 aO iM
 have hr':=Zgz (hr.mono (mLt aK aO))
 exact Zai (Zh0 t.subs t.a t.c _ [.pointer (some ⟨b2,0,none⟩)] (λx=>x.k == k) m2 hr'.1 hr'.2 λx _ m' hm' _=>Zx6 x k b2 m' (iM.mono hm')) λm3 aX=>Zah (mLt aK (mLt aO aX)) rfl
theorem ZiZ(t:T)(m:Mem)(hr:Rep m t):CX Tryz.prog 69 #[t.v] m [] (Ret (.bool t.light)):=by
 apply ZpO
 intro b m1 aK _ b2
 refine Zae (Zlp t m1) (λv m' css h=>by obtain⟨_,rfl,_⟩:=h;rfl) ?_
 rintro g fi ca m2 aO ⟨b3,hv,gF⟩
 obtain⟨rfl,rfl,rfl⟩:=Zet hv
 have bC:=mLt aK aO
 refine⟨_,ZhY t m2 b3 gF (hr.mono bC),λy hy=>?_,λ_ css _ m' q=>css=[[.int .i64 q]]/\q<=10000/\q<=t.nodes.length,⟨rfl,by omega,by omega⟩,?_,?_⟩
 ·obtain⟨z,_,rfl⟩:=List.mem_map.1 hy;exact Zq0 z
 ·rintro n0 n1 n2 n3 n4 n5 n6 a n7 c cs m3 q aX hq ⟨cE,kX,_⟩
  obtain rfl:cs=[.int .i64 q]:=by simpa using cE
  have aS:q < t.nodes.length:=by
   have:=(zA0 (show(List.map (λz:T=>[z.v]) t.nodes)[(q:Nat)]?=some _ from hq)).1
   simpa using this
  refine Zap rfl (Zaa rfl ?_)
  have hw:IntKind.i64.wrap (intOf (Value.int .i64 (q:Int))+1)=(q:Int)+1:=Zas (n:=(q:Int)+1) (by omega) (by omega)
  simp only[hw]
  refine Zac (λh=>⟨by trivial,Zah (mLt bC aX) ?_⟩) (λh=>⟨by trivial,?_,?_,by omega⟩)
  ·have:((q:Int)+1 > 10000):=by simpa using h
   simp[Ret,T.light];omega
  ·simp
  ·have:¬((q:Int)+1 > 10000):=by simpa using h
   omega
 ·rintro cs m3 aX ⟨cE,kX,_⟩
  obtain rfl:cs=[.int .i64 t.nodes.length]:=by simpa using cE
  refine Zap rfl (Zaa rfl (Zah (mLt bC aX) ?_))
  show Value.bool (decide ((t.nodes.length:Int)<=10000))=Value.bool t.light
  congr 1
  rw[T.light,decide_eq_decide];omega
end Go.Proofs.YtfgfahnakepegaaGreat
namespace Go.Proofs.YtfgfahnakepegaaGreat
open Go Go.Eng Go.Proofs Go.RowKit
theorem Zef{P:Program}{T:TypeId}(hg:P.eqGuardType P.depth T=false)(op:BinOp)(ox oy:Operand)(xs ys:Array Value)(w:World):(eqGuard op T ox oy (.agg xs) (.agg ys)).run P w=.ok () w:=by
 unfold eqGuard
 have h1:(P.eqGuardType P.depth T)=true->False:=λh=>by rw[hg]at h;cases h
 split
 ·simp[go_sem];exact λh=>(h1 h).elim
 ·simp[go_sem];exact λh=>(h1 h).elim
 ·simp
theorem Zrr(a b c d a' b' c' d':Int):EqIs Tryz.prog 24 (.agg #[.int .u64 a,.int .u64 b,.int .u64 c,.int .u64 d]) (.agg #[.int .u64 a',.int .u64 b',.int .u64 c',.int .u64 d']) (a == a'&&b == b'&&c == c'&&d == d'):=by
 refine⟨λw=>?_,λop ox oy w=>Zef (by kernel_rfl) op ox oy _ _ w⟩
 have u3:=Tryz.underlying22
 have a3:=Tryz.isAgg22
 have z3:=Tryz.sizeOf22
 rw[Op.equal,Op.maxDepth,show(10000:Nat)=9999+1 from rfl,Op.equalIn]
 simp only[Sem.run_bind,run_underlying Tryz.underlying24,Result.andThen_ok]
 simp only[Std.Legacy.Range.forIn_eq_forIn_range',Std.Legacy.Range.size,Nat.sub_zero,Nat.add_sub_cancel,Nat.div_one,List.range'_succ,List.range'_zero,List.forIn_cons,List.forIn_nil]
 go_simp
 by_cases h1:a=a' <;> by_cases h2:b=b' <;> by_cases h3:c=c' <;> by_cases h4:d=d' <;> simp[h1,h2,h3,h4]
end Go.Proofs.YtfgfahnakepegaaGreat
namespace Go.Proofs.YtfgfahnakepegaaGreat
open Go Go.Eng Go.Rx Go.Proofs Go.RowKit
set_option maxRecDepth 100000
theorem Zwq(t:T)(m:Mem)(hr:Rep m t):CX Tryz.prog 71 #[t.v] m [] (Ret (.bool t.right)):=by
 apply ZpR
 intro b m1 aK _
 have dH:=hr.mono aK
 refine⟨t.k != 2&&!t.setZ||(t.k != 5&&(t.mn != 0||t.mx != 0)||(decide (t.k < 3)&&decide (0 < t.subs.length))),?_,Zac (λh=>Zah aK ?_) (λh=>?_)⟩
 ·refine Zac (λh1=>?_) (λh1=>?_)
  ·refine⟨t.setZ,Zrr _ _ _ _ _ _ _ _,?_⟩
   simp only[Zt0]
   (repeat' split) <;> simp_all <;> omega
  ·simp only[Zt0]
   (repeat' split) <;> simp_all <;> omega
 ·simp[Ret,T.right,h]
 ·refine Zac (λh1=>Zah aK ?_) (λh1=>Zac (λh2=>⟨t.setZ,Zrr _ _ _ _ _ _ _ _,Zah aK ?_⟩) (λh2=>Zac (λh3=>?_) (λh3=>Zac (λh4=>?_) (λh4=>Zac (λh5=>?_) (λh5=>?_)))))
  ·have:t.k=1:=by simpa using h1
   show Value.bool _=Value.bool t.right;rw[T.right,h];simp[this]
  ·have:t.k=2:=by simpa using h2
   show Value.bool _=Value.bool t.right;rw[T.right,h];simp[this]
  ·have:t.k=3:=by simpa using h3
   refine⟨decide (1 < t.subs.length)&&(!t.has 1&&!t.has 3),Zac (λh4=>?_) (λh4=>?_),Zah aK ?_⟩
   ·refine Zai (Zur t 1 m1 dH) λm2 aO=>Zac (λh5=>?_) (λh5=>?_)
    ·refine Zai (Zur t 3 m2 (dH.mono aO)) λm3 aX=>⟨rfl,Zbw ?_⟩
     simp_all <;> (intros;omega)
    ·refine⟨rfl,Zbw ?_⟩
     simp_all <;> (intros;omega)
   ·refine⟨rfl,Zbw ?_⟩
    simp_all <;> (intros;omega)
   ·show Value.bool _=Value.bool t.right;rw[T.right,h];simp[this]
  ·have:t.k=4:=by simpa using h4
   refine⟨decide (1 < t.subs.length)&&!t.has 4,Zac (λh4=>?_) (λh4=>?_),Zah aK ?_⟩
   ·refine Zai (Zur t 4 m1 dH) λm2 aO=>⟨rfl,Zbw ?_⟩
    simp_all <;> (intros;omega)
   ·refine⟨rfl,Zbw ?_⟩
    simp_all <;> (intros;omega)
   ·show Value.bool _=Value.bool t.right;rw[T.right,h];simp[this]
  ·have:t.k=5:=by simpa using h5
   refine⟨t.subs.length == 1&&(Zb7 t.mn t.mx&&!t.has 1),Zac (λh4=>?_) (λh4=>?_),Zah aK ?_⟩
   ·refine Zai (ZpT t.mn t.mx m1) λm2 aO=>Zac (λh5=>?_) (λh5=>?_)
    ·refine Zai (Zur t 1 m2 (dH.mono aO)) λm3 aX=>⟨rfl,Zbw ?_⟩
     have h4':((t.subs.length:Int) == 1)=true:=h4
     have:t.subs.length=1:=by have:=zA6 h4';omega
     simp_all <;> (intros;omega)
    ·refine⟨rfl,Zbw ?_⟩
     simp_all <;> (intros;omega)
   ·refine⟨rfl,Zbw ?_⟩
    have h4':((t.subs.length:Int) == 1)=false:=h4
    have:¬t.subs.length=1:=by have:=of_decide_eq_false h4';omega
    simp_all <;> (intros;omega)
   ·show Value.bool _=Value.bool t.right;rw[T.right,h];simp[this]
  ·refine⟨t.k == 6&&t.subs.length == 1,Zac (λh4=>⟨rfl,Zbw ?_⟩) (λh4=>⟨rfl,Zbw ?_⟩),Zah aK ?_⟩
   ·have:(t.k == 6)=true:=h4
    rw[this,Bool.true_and]
    show(decide ((t.subs.length:Int)=1))=decide (t.subs.length=1)
    rw[decide_eq_decide];omega
   ·have:(t.k == 6)=false:=h4
    simp[this]
   ·show Value.bool _=Value.bool t.right;rw[T.right,h]
    have e1:¬t.k=1:=by simpa using h1
    have e2:¬t.k=2:=by simpa using h2
    have e3:¬t.k=3:=by simpa using h3
    have e4:¬t.k=4:=by simpa using h4
    have e5:¬t.k=5:=by simpa using h5
    simp[e1,e2,e3,e4,e5]
theorem Zi0(t:T)(m:Mem)(hr:Rep m t):CX Tryz.prog 26 #[t.v] m [] (Ret (.bool t.clean)):=by
 apply ZpS
 intro b m1 aK _ b2
 refine Zai (ZiZ t m1 (hr.mono aK)) λm2 aO=>Zac (λh=>Zah (mLt aK aO) ?_) (λh=>?_)
 ·have:t.light=false:=by simpa using h
  simp[Ret,T.clean,this]
 have hl:t.light=true:=by simpa using h
 refine Zae (Zlp t m2) (λv m' css h=>by obtain⟨_,rfl,_⟩:=h;rfl) ?_
 rintro g fi ca m3 aX ⟨b3,hv,gF⟩
 obtain⟨rfl,rfl,rfl⟩:=Zet hv
 have bC:=mLt aK (mLt aO aX)
 refine⟨_,ZhY t m3 b3 gF (hr.mono bC),λy hy=>?_,λ_ css _ m' q=>m3.le m'/\∀x∈t.nodes.take q,x.right=true,⟨Mem.le_refl _,by simp⟩,?_,?_⟩
 ·obtain⟨z,_,rfl⟩:=List.mem_map.1 hy;exact Zq0 z
 ·rintro n0 n1 n2 n3 n4 n5 n6 a n7 c cs m4 q bB hq ⟨_,kX⟩ b4
  have hq':(List.map (λz:T=>[z.v]) t.nodes)[(q:Nat)]?=some [Value.agg #[.int .u8 n0,.int .u64 n1,.int .u64 n2,.int .u64 n3,.int .u64 n4,.int .i64 n5,.int .i64 n6,.slice a n7 c]]:=hq
  rw[List.getElem?_map]at hq'
  obtain⟨z,hz,xn⟩:=Option.map_eq_some_iff.1 hq'
  have xo:z.v=Value.agg #[.int .u8 n0,.int .u64 n1,.int .u64 n2,.int .u64 n3,.int .u64 n4,.int .i64 n5,.int .i64 n6,.slice a n7 c]:=by simpa using xn
  have xp:Rep m4 z:=(Zk2 (hr.mono bC) (zA2 hz)).mono bB
  have iI:=Zwq z m4 xp
  rw[xo]at iI
  refine Zai iI λm5 cC=>Zac (λh=>⟨rfl,Zah (mLt bC (mLt bB cC)) ?_⟩) (λh=>⟨rfl,mLt bB cC,λx hx=>?_⟩)
  ·have wB:z.right=false:=by simpa using h
   have:t.nodes.all T.right=false:=by
    rw[List.all_eq_false];exact⟨z,zA2 hz,by simp[wB]⟩
   simp[Ret,T.clean,this]
  ·rw[List.take_add_one,hz]at hx
   rcases List.mem_append.1 hx with hx|hx
   ·exact kX x hx
   ·simp at hx;rw[hx];simpa using h
 ·rintro cs m4 bB ⟨_,kX⟩
  refine Zah (mLt bC bB) ?_
  rw[List.length_map,List.take_length]at kX
  have:t.nodes.all T.right=true:=List.all_eq_true.2 kX
  simp[Ret,T.clean,this,hl]
theorem Zm1(t:T)(m:Mem)(hr:Rep m t):CX Tryz.prog 63 #[t.v] m [] (Ret (.int .i64 t.size)):=by
 apply Zro
 intro b m1 aK _
 refine Zai (ZiZ t m1 (hr.mono aK)) λm2 aO=>Zac (λh=>Zah (mLt aK aO) ?_) (λh=>?_)
 ·have:t.light=false:=by simpa using h
  simp[Ret,T.size,this]
 have hl:t.light=true:=by simpa using h
 have xq:t.nodes.length<=10000:=zA6 hl
 intro b2
 refine Zae (Zlp t m2) (λv m' css h=>by obtain⟨_,rfl,_⟩:=h;rfl) ?_
 rintro g fi ca m3 aX ⟨b3,hv,gF⟩
 obtain⟨rfl,rfl,rfl⟩:=Zet hv
 have bC:=mLt aK (mLt aO aX)
 refine⟨_,ZhY t m3 b3 gF (hr.mono bC),λy hy=>?_,λ_ css _ m' q=>css=[[.int .i64 q]]/\q<=t.nodes.length,⟨rfl,by omega⟩,?_,?_⟩
 ·obtain⟨z,_,rfl⟩:=List.mem_map.1 hy;exact Zq0 z
 ·rintro n0 n1 n2 n3 n4 n5 n6 a n7 c cs m4 q bB hq ⟨cE,_⟩
  obtain rfl:cs=[.int .i64 q]:=by simpa using cE
  have aS:q < t.nodes.length:=by
   have:=(zA0 (show(List.map (λz:T=>[z.v]) t.nodes)[(q:Nat)]?=some _ from hq)).1
   simpa using this
  have hw:IntKind.i64.wrap (intOf (Value.int .i64 (q:Int))+1)=(q:Int)+1:=Zas (n:=(q:Int)+1) (by omega) (by omega)
  refine Zap rfl (Zaa rfl ?_)
  simp only[hw]
  exact⟨by trivial,by simp,by omega⟩
 ·rintro cs m4 bB ⟨cE,kX⟩
  obtain rfl:cs=[.int .i64 t.nodes.length]:=by simpa using cE
  refine Zap rfl (Zah (mLt bC bB) ?_)
  simp[Ret,T.size,hl]
theorem ZnF(l l':List T)(a a':Option Addr)(c c':Nat)(m:Mem)(hl:l.length<=1000000000000000)(hr:l=[]\/∃b o,a=some ⟨b,o,none⟩/\RepAt m b o l)(hr':l'=[]\/∃b o,a'=some ⟨b,o,none⟩/\RepAt m b o l')
  (hp:∀x∈l,∀y∈l',∀m',m.le m'->Rep m' x->Rep m' y->CX Tryz.prog 72 #[x.v,y.v] m' [] (Ret (.bool (x.same y)))):
  CX Tryz.prog 101 #[.slice a l.length c,.slice a' l'.length c',.func (.func 72) #[] #[]] m [] (Ret (.bool (ZdN l l'))):=by
 apply ZaY a l.length c a' l'.length c' _ [] []
 refine Zac (λh=>Zah (Mem.le_refl _) ?_) (λh=>?_)
 ·have:¬l.length=l'.length:=by
   intro e;rw[e]at h;simp at h
  show Value.bool false=_
  rw[Zk3 this]
 have fS:l.length=l'.length:=by
  have h2:((l.length:Int) == (l'.length:Int))=true:=by simpa using h
  have:=zA6 h2;omega
 refine⟨λxs _ _ m'' q=>∃i:Nat,i<=l.length/\xs=[.int .i64 i]/\ZdN (l.take i) (l'.take i)=true/\m.le m''/\q=l.length - i,⟨l.length,0,by omega,rfl,by simp[ZdN],Mem.le_refl _,by omega⟩,?_⟩
 rintro n m' q hm ⟨i,hi,hn,dF,bC,hq⟩
 obtain rfl:n=i:=by simpa using hn
 refine Zac (λaS=>?_) (λbI=>?_)
 ·have aN:i < l.length:=by simpa using aS
  obtain⟨x,hx⟩:∃x,l[i]?=some x:=⟨_,zA3 aN⟩
  obtain⟨y,hy⟩:∃y,l'[i]?=some y:=⟨_,zA3 (by omega)⟩
  have mZ:x∈l:=zA2 hx
  have Bp:y∈l':=zA2 hy
  rcases hr with h0|⟨b1,o1,ha,bO⟩
  ·rw[h0]at aN;simp at aN
  rcases hr' with h0|⟨b2,o2,ha',qW⟩
  ·rw[h0]at fS;simp at fS;rw[fS]at aN;simp at aN
  obtain⟨cO,iU⟩:=(bO.mono hm).get hx
  obtain⟨nN,un⟩:=(qW.mono hm).get hy
  refine⟨b1,o1,ha,⟨by omega,by omega⟩,_,_,_,_,_,_,_,_,cO,λb3=>Zaa rfl ⟨b2,o2,ha',⟨by omega,by omega⟩,_,_,_,_,_,_,_,_,nN,λb4=>Zaa rfl ?_⟩⟩
  refine Zai (hp x mZ y Bp m' hm iU un) λm1 aK=>Zac (λpH=>?_) (λpH=>?_)
  ·have hf:x.same y=false:=by simpa using pH
   refine Zah (mLt hm aK) ?_
   show Value.bool false=_
   rw[Zom hx hy hf]
  ·have hf:x.same y=true:=by simpa using pH
   refine⟨l.length - (i+1),by omega,i+1,by omega,by rw[Zas (by omega) (by omega)];rfl,ZiO hx hy dF hf trivial,mLt hm aK,rfl⟩
 ·have hi':i=l.length:=by
   have:¬((i:Int) < (l.length:Int)):=by simpa using bI
   omega
  subst hi'
  refine Zah hm ?_
  rw[List.take_length,fS,List.take_length]at dF
  show Value.bool true=_
  rw[dF]
theorem ZsR(t u:T)(m:Mem)(hr:Rep m t)(hu:Rep m u):CX Tryz.prog 72 #[t.v,u.v] m [] (Ret (.bool (t.same u))):=by
 apply Zrp
 intro b m1 aK _ b' m2 aO _
 have hm:=mLt aK aO
 refine⟨t.same u,?_,Zah hm rfl⟩
 rw[Zvh]
 refine Zac (λh1=>⟨_,Zrr _ _ _ _ _ _ _ _,Zac (λh2=>Zac (λh3=>Zac (λh4=>?_) (λh4=>⟨rfl,Zbw ?_⟩)) (λh3=>⟨rfl,Zbw ?_⟩)) (λh2=>⟨rfl,Zbw ?_⟩)⟩) (λh1=>⟨rfl,Zbw ?_⟩)
 ·have hr':=Zgz (hr.mono hm)
  have hu':=Zgz (hu.mono hm)
  refine Zai (ZnF t.subs u.subs t.a u.a t.c u.c m2 hr'.1 hr'.2 hu'.2 λx hx y hy m' _ cO nN=>?_) λm3 aX=>⟨rfl,Zbw ?_⟩
  ·have bE:=Zdi hx
   exact ZsR x y m' cO nN
  ·rw[h1,h2,h3,h4];rfl
 ·rw[h1,h2,h3,h4];rfl
 ·rw[h1,h2,h3];rfl
 ·rw[h1,h2];rfl
 ·rw[h1];rfl
termination_by SizeOf.sizeOf t
decreasing_by exact bE
theorem Zx7(t u:T)(m:Mem)(hr:Rep m t)(hu:Rep m u):CX Tryz.prog 54 #[t.v,u.v] m [] (Ret (.bool (t.light&&(u.light&&t.same u)))):=by
 apply Zrq
 intro b m1 aK _ b' m2 aO _
 have hm:=mLt aK aO
 refine⟨t.light&&(u.light&&t.same u),?_,Zah hm rfl⟩
 refine Zai (ZiZ t m2 (hr.mono hm)) λm3 aX=>Zac (λh1=>?_) (λh1=>⟨rfl,Zbw ?_⟩)
 ·refine Zai (ZiZ u m3 (hu.mono (mLt hm aX))) λm4 bB=>Zac (λh2=>?_) (λh2=>?_)
  ·have cC:=mLt (mLt hm aX) bB
   refine Zai (ZsR t u m4 (hr.mono cC) (hu.mono cC)) λm6 cI=>⟨rfl,Zbw ?_⟩
   rw[h1,h2];rfl
  ·refine⟨rfl,Zbw ?_⟩
   rw[h1,h2];rfl
 ·rw[h1];rfl
end Go.Proofs.YtfgfahnakepegaaGreat
namespace Go.Proofs.YtfgfahnakepegaaGreat
open Go Go.Eng Go.Rx Go.Proofs Go.RowKit
theorem ZsS{b:Bool}{p q:Prop}(h:b=true)(k:p):br b p q:=by subst h;exact k
theorem Zf0{b:Bool}{p q:Prop}(h:b=false)(k:q):br b p q:=by subst h;exact k
theorem ZbU{α:Type}{l:List α}{k:Nat}(h:k < l.length):∃x,l[k]?=some x:=⟨l[k],zA3 h⟩
theorem ZpU(t:T):Rx.Zcx [t]=t.cs:=by simp[Rx.Zcx]
theorem Zct{m:Mem}{a:Option Addr}{ts:List T}(h:rowRd m a (Rx.Zcx ts)){i:Nat}{t:T}(hi:ts[i]?=some t):∃b o,a=some ⟨b,o,none⟩/\m.reads b (o+i*8) t.cs:=by
 rcases h with h|⟨b,o,ha,h⟩
 ·have hl:(Rx.Zcx ts).length=0:=by rw[h];rfl
  rw[Zat]at hl
  have:=(zA0 hi).1
  omega
 ·refine⟨b,o,ha,λj v hj=>?_⟩
  rw[Nat.add_assoc]
  refine h (i*8+j) v ?_
  have e:ts=ts.take i++(t::ts.drop (i+1)):=by
   have aS:=(zA0 hi).1
   have h2:=List.drop_eq_getElem_cons aS
   rw[(zA0 hi).2]at h2
   rw[<-h2,List.take_append_drop]
  have aS:=(zA0 hi).1
  have xr:=(zA0 hj).1
  rw[e,Za3,zA4 (by rw[Zat,List.length_take,Nat.min_eq_left (by omega)];omega),Zat,List.length_take,Nat.min_eq_left (by omega),show i*8+j - i*8=j by omega]
  have e2:Rx.Zcx (t::ts.drop (i+1))=t.cs++Rx.Zcx (ts.drop (i+1)):=by simp[Rx.Zcx]
  rw[e2,zA5 xr];exact hj
def Zw6(mb M0:Mem)(φ:T->Prop):Value->Mem->List (List Value)->Prop:=λv M' css=>∃m0,mb.le m0/\m0.le M'/\(∀b o u,M0 b o=some u->∀o',m0 b o'=mb b o')/\Za9 φ v m0 css
theorem Zx8{mb M0:Mem}{φ:T->Prop}{m:Mem}{K:TRK}(k:∀(t:T)(m0 m':Mem),m.le m'->mb.le m0->m0.le m'->(∀b o u,M0 b o=some u->∀o',m0 b o'=mb b o')->Rep m0 t->φ t->K t.k t.s0 t.s1 t.s2 t.s3 t.mn t.mx t.a t.subs.length t.c m'):
  ∀(n0 n1 n2 n3 n4 n5 n6:Int)(a:Option Addr)(n c:Nat)(m':Mem),m.le m'->Zw6 mb M0 φ (.agg #[.int .u8 n0,.int .u64 n1,.int .u64 n2,.int .u64 n3,.int .u64 n4,.int .i64 n5,.int .i64 n6,.slice a n c]) m' []->K n0 n1 n2 n3 n4 n5 n6 a n c m':=by
 rintro n0 n1 n2 n3 n4 n5 n6 a n c m' hm ⟨m0,h1,h2,h3,t,hv,hr,hp⟩
 simp only[T.v,Value.agg.injEq,Array.mk.injEq,List.cons.injEq,Value.int.injEq,Value.slice.injEq,true_and,and_true]at hv
 obtain⟨rfl,rfl,rfl,rfl,rfl,rfl,rfl,rfl,rfl,rfl⟩:=hv
 exact k t m0 m' hm h1 h2 h3 hr hp
theorem Zrs{mb M0:Mem}{φ:T->Prop}:∀(v:Value)(m':Mem) (css:List (List Value)),Zw6 mb M0 φ v m' css->Shape.fits (.agg [.int .u8,.int .u64,.int .u64,.int .u64,.int .u64,.int .i64,.int .i64,.slice]) v=true:=λv _ _ ⟨_,_,_,_,t,e,_⟩=>by rw[e];rfl
def Apart(mb:Mem)(a:Option Addr):Prop:=a=none\/∃b,a=some ⟨b,0,none⟩/\mb.free b
theorem Apart.tok{mb M:Mem}{a a':Option Addr}{n c:Nat}(h:Apart mb a)(hm:mb.le M)(ht:TokFact M a a' n c):Apart mb a':=by
 rcases ht.2 with h1|⟨b,o,h1,h2⟩
 ·exact .inl h1
 rcases h2 with h2|⟨h3,h2⟩
 ·rw[<-h2];exact h
 ·subst h3
  refine .inr ⟨b,h1,λo=>?_⟩
  cases hb:mb b o with
  | none=>rfl
  | some v=>have:=hm _ _ _ hb;rw[h2 o]at this;cases this
theorem Zwr{m:Mem}{a:Option Addr}{ts r:List T}(h:rowRd m a (Rx.Zcx (ts++r))):rowRd m a (Rx.Zcx ts):=by
 rw[Za3]at h
 rcases h with h|⟨b,o,ha,h⟩
 ·exact .inl (List.append_eq_nil_iff.1 h).1
 ·refine .inr ⟨b,o,ha,λj v hj=>h j v ?_⟩
  rw[zA5 (zA0 hj).1];exact hj
theorem Apart.base{mb m:Mem}{a:Option Addr}{ts:List T}(h:Apart mb a)(aP:rowRd m a (Rx.Zcx ts))(hn:ts≠[]):∃b,a=some ⟨b,0,none⟩/\mb.free b/\∃o u,m b o=some u:=by
 obtain⟨t,r,rfl⟩:∃t r,ts=t::r:=by cases ts with
  | nil=>exact absurd rfl hn
  | cons t r=>exact⟨t,r,rfl⟩
 obtain⟨b',o,ha,bA⟩:=Zct aP (i:=0) (t:=t) rfl
 rcases h with h|⟨b,hb,hf⟩
 ·rw[h]at ha;cases ha
 ·rw[hb]at ha;cases ha
  exact⟨b',hb,hf,_,_,bA 0 (.int .u8 t.k) rfl⟩
end Go.Proofs.YtfgfahnakepegaaGreat
end
