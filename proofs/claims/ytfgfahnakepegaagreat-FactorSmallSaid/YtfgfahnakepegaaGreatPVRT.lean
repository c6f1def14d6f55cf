/- Part of the proof: conditions and contracts of functions of this program. No condition of its own. -/
import Derived.Test.YtfgfahnakepegaaGreatPEnv
import Derived.Test.YtfgfahnakepegaaGreatPC15D
import Derived.Test.YtfgfahnakepegaaGreatMr
import Derived.Test.YtfgfahnakepegaaGreatMc
import Derived.Test.YtfgfahnakepegaaGreatRows
import Derived.Deep.Slices
import Derived.Laws.IdiomArrays
set_option linter.unusedVariables false
set_option linter.unusedSimpArgs false
set_option linter.unusedSectionVars false
noncomputable section
namespace Go.Proofs.YtfgfahnakepegaaGreat
open Go Go.Eng Go.Proofs Go.RowKit
open Go.Value (int slice agg bool string tuple func)
open Go.IntKind (u8 u64 i64)
set_option maxRecDepth 100000
def Zh6:Env:={ EB with
 joins:=swI none [(1,some [(6,.bool)])]
 frzNew:=[4]
 gb:=true }
theorem Zhe(aD aE aF aG p1:Int)(c0b:Nat)(c0_0:Int)(c1b:Nat)(c1_0 c1_1 c1_2 c1_3:Int)(m:Mem)(R:RT)(h:
 lV [int i64 c1_0,int i64 c1_1,int i64 c1_2,int i64 c1_3] λxL=>lE (Box.mk c0b [int i64 c0_0] 3 1 false true) λyL=>lE (Box.mk c1b xL 37 4 false true) λyL_1=>lV [int i64 aD,int i64 aE,int i64 aF,int i64
 aG] λxL_1=>lE [some yL,some yL_1] λxL_2=>fzM m xL_1 λb m'=>∃(b_1:Bool),lV [bool b_1] λxL_3=>lE (some (Box.mk b xL_1 37 4 true true)::xL_2) λxL_4=>br (decide (p1 > c0_0)) (Zab xL_4/\[bool true]
 = xL_3) (br (p1 == c0_0) (br (decide (p1 > 0)) (br (aD == c1_0) (br (aE == c1_1) (Zab xL_4/\[bool (decide (aF > c1_2))]=xL_3) (Zab xL_4/\[bool false]=xL_3)) (Zab xL_4/\[bool false]=xL_3)) (Zab xL_4/\
 [bool false]=xL_3)) (Zab xL_4/\[bool false]=xL_3))/\yL=yL/\yL_1=yL_1/\∃m'',m.le m''/\m''.le m'/\R (bool b_1) m'' [[int i64 c0_0],xL]):CX Tryz.prog 86 #[.agg #[.int .i64 aD,.int .i64 aE,.int .i64 aF,.int .i64 aG],.int .i64 p1,.pointer (some ⟨c0b,0,none⟩),.pointer (some ⟨c1b,0,none⟩)] m [⟨c0b,[.int .i64 c0_0],3,1,false,true⟩,⟨c1b,[.int .i64 c1_0,.int .i64 c1_1,.int .i64 c1_2,.int .i64 c1_3],37,4,false,true⟩] R:=
 Zad (E:=Zh6) Zay mix Tryz.func86 [.v (.agg #[.int .i64 aD,.int .i64 aE,.int .i64 aF,.int .i64 aG]),.v (.int .i64 p1),.loc 100000 0,.loc 100001 0] [⟨c0b,[.int .i64 c0_0],3,1,false,true⟩,⟨c1b,[.int .i64 c1_0,.int .i64 c1_1,.int .i64 c1_2,.int .i64 c1_3],37,4,false,true⟩] (by kernel_rfl) (Eq.mp (by kernel_rfl) h)
def Zlx:Env:={ EB with
 loops:=swI nLa [(6,⟨[(19,.agg [.int .i64,.int .i64,.int .i64,.int .i64])],[5,6,7],[],false⟩)]
 dr:=swI [] [(2,[⟨0,[1],[],none,[],[]⟩,⟨1,[1],[],none,[],[]⟩,dO 2 [1],⟨3,[6],[6],none,[],[]⟩,⟨4,[7],[7],none,[],[]⟩,⟨5,[8],[8],none,[],[]⟩,⟨6,[6],[6],none,[1,2,3,4,5],[]⟩,⟨7,[7],[7],none,[0,1,2,3,4,5,6],[]⟩,⟨8,[8],[8],none,[0,1,2,3,4,5,6,7],[]⟩]),(7,[⟨0,[8],[],none,[],[]⟩,⟨1,[11],[],none,[],[]⟩,dO 2 [1],dO 3 [0,1,2],dO 4 [0,1,2,3]]),(9,[⟨0,[10],[],none,[],[]⟩,dO 1 [],⟨2,[11],[],none,[],[]⟩,⟨3,[5],[5],none,[0],[]⟩,⟨4,[6],[6],none,[0,1,3],[]⟩,⟨5,[7],[7],none,[0,1,2,3,4],[]⟩]),(10,[⟨0,[5],[],none,[],[]⟩,⟨1,[6],[],none,[],[]⟩,⟨2,[7],[],none,[],[]⟩,⟨3,[2],[2],none,[0],[]⟩,dO 4 [0,1,3],⟨5,[4],[4],none,[0,1,2,3,4],[]⟩])]
 borrow:=swI [] [(30,[6,5])]
 frzNew:=[1] }
theorem Zju(aD aE aF aG aJ aH aI:Int)(aB:Option Addr)(aA aC:Nat)(m:Mem)(R:RT)(h:
 lV [int u8 aD,int u64 aE,int u64 aF,int u64 aG,int u64 aJ,int i64 aH,int i64 aI,slice aB aA aC] λxL=>lX (agg (.mk xL)) λyL=>fzM m xL λb m'=>∀an ao (ae:Nat),∃(f:Fx),lV
 [Value.pointer (some (Addr.mk ae 0 none))] λap=>lE [some (Box.mk ae [] 37 4 false true),some (Box.mk ao [int u8 0,int u64 0,int u64 0,int u64 0,int u64 0,int i64 0,int i64 0,slice none 0 0] 27 8 false true),some
 (Box.mk an [int i64 0,int i64 0,int i64 0,int i64 0] 37 4 false true),some (Box.mk b xL 27 8 true true)] λaq=>dI f 2 pG 63 [yL] m' λn ar=>∀(b:Nat) au av M,lV (Value.pointer (some (Addr.mk b 0 none))::ap) λag
 => lE (some (Box.mk b [] 3 1 false true)) λah=>lE (some (Box.mk au [] 27 8 false true)) λai=>lE (some (Box.mk av [int i64 n] 3 1 false true)) λaj=>lV [func (Fn.func 86) (Array.mk []) (Array.mk ag)] λaw=>lE (ah
 :: ai::aj::ah::ai::aj::aq) λax=>m'.le M->ar.le M->∀ay,lE (some (Box.mk ay aw 137 1 false true)::ax) λak=>kF pG 61 [yL] M λg fi ca m'=>∃(xs:List (List Value)),IX pG g fi ca m' xs/\(∀(x:List
 Value),x∈xs->Shape.fitsL [.agg [.int i64,.int i64,.int i64,.int i64]] x=true)/\∃(I:IT),I [] [[int i64 0,int i64 0,int i64 0,int i64 0],[int i64 0],xL] [] m' 0/\(∀az a0 a1 a2 (cs ac aa:List Value) ab (ad:
 Nat),lV [int i64 az,int i64 a0,int i64 a1,int i64 a2] λxL=>lX (agg (.mk xL)) λaf=>m'.le ab->List.get?Internal xs ad=some [af]->I [] [cs,ac,aa] [] ab ad->∀(bd:Nat),kN pG 62 [yL,af] ab λa3 a4 a5 a6 a7 a8
 a9 a ba c m'=>∀(be:Nat),∃(f:Fx),lV [int u8 a3,int u64 a4,int u64 a5,int u64 a6,int u64 a7,int i64 a8,int i64 a9,slice a ba c] λal=>dI f 2 pG 63 [agg (.mk al)] m' λbb bc=>∀M,lX (int i64 (i64.wrap (n -
 bb))) λyL=>m'.le M->bc.le M->∃R,True/\CX pG 86 (.mk (af::yL::ag)) M [Box.mk b ac 3 1 false true,Box.mk ae cs 37 4 false true] R/\ZbT .bool R/\∀(b:Bool) m',M.le m'->∀(cs am:List Value),R (bool b) m' [cs,
 am]->br b (Zab ak/\I [] [xL,[yL],al] [] m' (ad+1)) (Zab ak/\I [] [am,cs,aa] [] m' (ad+1)))/\∀(cs ac aa:List Value) ab,m'.le ab->I [] [cs,ac,aa] [] ab (xs.length)->Eng.ZuZ ac 0 λv=>chk (Nat.beq
 (cs.length) 4&&Zbi cs) (chk (Nat.beq (aa.length) 8&&Zbi aa) (rtM m ab R (tuple (.mk [agg (.mk cs),v,agg (.mk aa)]))))):CX Tryz.prog 58 #[.agg #[.int .u8 aD,.int .u64 aE,.int .u64 aF,.int .u64 aG,.int .u64 aJ,.int .i64 aH,.int .i64 aI,.slice aB aA aC]] m [] R:=
 Zad (E:=Zlx) Zay mix Tryz.func58 [.v (.agg #[.int .u8 aD,.int .u64 aE,.int .u64 aF,.int .u64 aG,.int .u64 aJ,.int .i64 aH,.int .i64 aI,.slice aB aA aC])] [] (by kernel_rfl) (Eq.mp (by kernel_rfl) h)
def Zh7:Env:={ EB with
 loops:=swI nLa [(3,⟨[],[1,2],[],false⟩)] }
theorem Zhf(aD aE aF aG aJ aH aI:Int)(aB:Option Addr)(aA aC:Nat)(m:Mem)(R:RT)(h:
 ∀b b_1,lV [int u8 aD,int u64 aE,int u64 aF,int u64 aG,int u64 aJ,int i64 aH,int i64 aI,slice aB aA aC] λxL=>kB pG 57 [agg (.mk xL)] m λb_2 m'=>br (!b_2) (rtM m m' R (tuple (.mk [agg (.mk
 [int u8 0,int u64 0,int u64 0,int u64 0,int u64 0,int i64 0,int i64 0,slice none 0 0]),int i64 2]))) (∃I,inI I [] [xL,[int u8 0,int u64 0,int u64 0,int u64 0,int u64 0,int i64 0,int i64 0,slice none 0 0]] [] m'/\
 ∀(cs cs_1:List Value) m'_1 (n:Nat),m'.le m'_1->I [] [cs,cs_1] [] m'_1 n->∃R_1,True/\CX pG 58 (.mk [agg (.mk cs)]) m'_1 [] R_1/\ZbT (.tup [.agg [.int i64,.int i64,.int i64,.int i64],.int i64,shT]) R_1/\∀n_1 n_2
 n_3 n_4 n_5 n_6 n_7 n_8 n_9 n_10 n_11 n_12 a n_13 c m',lV [int u8 n_6,int u64 n_7,int u64 n_8,int u64 n_9,int u64 n_10,int i64 n_11,int i64 n_12,slice a n_13 c] λxL=>m'_1.le m'->R_1 (tuple (.mk [agg (.mk [int i64
 n_1,int i64 n_2,int i64 n_3,int i64 n_4]),int i64 n_5,agg (.mk xL)])) m' []->∀(b_3 b_4:Nat),br (decide (n_5<=0)) (kN pG 59 [agg (.mk cs)] m' λn n_14 n_15 n_16 n_17 n_18 n_19 a n_20 c m'=>rtM m m' R (tuple (.mk [agg
 (.mk [int u8 n,int u64 n_14,int u64 n_15,int u64 n_16,int u64 n_17,int i64 n_18,int i64 n_19,slice a n_20 c]),int i64 0]))) (Zab [some (Box.mk b_1 [] 27 8 false true),some (Box.mk b [] 27 8 false true)]/\nxI n I []
 [xL,cs_1] [] m'))):CX Tryz.prog 19 #[.agg #[.int .u8 aD,.int .u64 aE,.int .u64 aF,.int .u64 aG,.int .u64 aJ,.int .i64 aH,.int .i64 aI,.slice aB aA aC]] m [] R:=
 Zad (E:=Zh7) Zay mix Tryz.func19 [.v (.agg #[.int .u8 aD,.int .u64 aE,.int .u64 aF,.int .u64 aG,.int .u64 aJ,.int .i64 aH,.int .i64 aI,.slice aB aA aC])] [] (by kernel_rfl) (Eq.mp (by kernel_rfl) h)
def Zjv:Env:={ EB with
 loops:=swI nLa [(4,⟨[(4,.slice)],[1],[(23,4)],false⟩)]
 dr:=swI [] [(7,[dO 0 [],⟨1,[5],[],none,[],[]⟩,⟨2,[22],[22],none,[1],[]⟩,⟨3,[22],[],some 23,[0,1,2],[2]⟩,⟨4,[7],[],none,[],[]⟩,dO 5 [0,1,2,3],⟨6,[1],[1],none,[0,1,2,3,4,5],[]⟩])]
 tokOf:=swI 0 [(23,23)] }
theorem Zh8(aD aE aF aG aJ aH aI:Int)(aB:Option Addr)(aA aC:Nat)(m:Mem)(R:RT)(h:
 ∀b,lV [int u8 aD,int u64 aE,int u64 aF,int u64 aG,int u64 aJ,int i64 aH,int i64 aI,slice aB aA aC] λxL=>kB pG 57 [agg (.mk xL)] m λb_1 m'=>br (!b_1) (rtM m m' R (tuple (.mk [slice none 0
 0,int i64 2]))) (∃I,inI I [slice none 0 0] [xL] [slice none 0 0] m'/\∀a n c (cs:List Value) a_1 n_1 c_1 m'_1 (n_2:Nat),lX (slice a n c) λyL=>lE (n+1) λyL_1=>m'.le m'_1->I [yL] [cs] [slice a_1 n_1 c_1] m'_1
 n_2->∃R_1,True/\CX pG 58 (.mk [agg (.mk cs)]) m'_1 [] R_1/\ZbT (.tup [.agg [.int i64,.int i64,.int i64,.int i64],.int i64,shT]) R_1/\∀n_3 n_4 n_5 n_6 n_7 n_8 n_9 n_10 n_11 n_12 n_13 n_14 a_4 n_15 c_2 m',lV [int u8
 n_8,int u64 n_9,int u64 n_10,int u64 n_11,int u64 n_12,int i64 n_13,int i64 n_14,slice a_4 n_15 c_2] λxL=>lV [int i64 n_3,int i64 n_4,int i64 n_5,int i64 n_6] λxL_1=>m'_1.le m'->R_1 (tuple (.mk [agg (.mk
 xL_1),int i64 n_7,agg (.mk xL)])) m' []->∀(b_2 b_3:Nat),br (decide (n_7<=0)) (rtM m m' R (tuple (.mk [yL,int i64 0]))) (∀b_4,lM (m'.add b_4 xL_1) λmL=>m'.free b_4->(Tok.mk (slice a_1 n_1 c_1) 4=Tok.mk yL 4\/yL
 = slice none 0 0\/c < yL_1)/\∃(xs:List Value),∃(ys:List Value),xs.length=n*4/\ys.length=1*4/\rowRd mL a xs/\rowRd mL (some (Addr.mk b_4 0 none)) ys/\(∀(u:Value),u∈ys->u.oneCell'=true)/\yL_1*32 <=
 140737488355328/\yL_1<=9223372036854775807/\∀(a':Option Addr) c' m'_2,mL.le m'_2->rowRd m'_2 a' (List.append xs ys)->∀M,m'.le M->mL.le M->m'_2.le M->Zab [some (Box.mk b [] 27 8 false true)]/\nxI n_2 I [slice a'
 yL_1 c'] [xL] [slice a' yL_1 c'] M))):CX Tryz.prog 35 #[.agg #[.int .u8 aD,.int .u64 aE,.int .u64 aF,.int .u64 aG,.int .u64 aJ,.int .i64 aH,.int .i64 aI,.slice aB aA aC]] m [] R:=
 Zad (E:=Zjv) Zay mix Tryz.func35 [.v (.agg #[.int .u8 aD,.int .u64 aE,.int .u64 aF,.int .u64 aG,.int .u64 aJ,.int .i64 aH,.int .i64 aI,.slice aB aA aC])] [] (by kernel_rfl) (Eq.mp (by kernel_rfl) h)
def Zly:Env:={ EB with
 frzNew:=[1] }
theorem Zjw(aD aE aF aG aJ aH aI:Int)(aB:Option Addr)(aA aC:Nat)(m:Mem)(R:RT)(h:
 lV [int u8 aD,int u64 aE,int u64 aF,int u64 aG,int u64 aJ,int i64 aH,int i64 aI,slice aB aA aC] λxL=>fzM m xL λb m'=>∀(b:Nat),kB pG 57 [agg (.mk xL)] m' λb m'=>br (!b) (rtM m m' R
 (tuple (.mk [agg (.mk [int i64 0,int i64 0,int i64 0,int i64 0]),int i64 0,bool false,int i64 2]))) (∃R_1,True/\CX pG 58 (.mk [agg (.mk xL)]) m' [] R_1/\ZbT (.tup [.agg [.int i64,.int i64,.int i64,.int i64],.int
 i64,shT]) R_1/\∀n n_1 n_2 n_3 n_4 n_5 n_6 n_7 n_8 n_9 n_10 n_11 a n_12 c m'_1,lX (agg (.mk [int i64 n,int i64 n_1,int i64 n_2,int i64 n_3])) λyL=>m'.le m'_1->R_1 (tuple (.mk [yL,int i64 n_4,agg (.mk [int u8 n_5,int
 u64 n_6,int u64 n_7,int u64 n_8,int u64 n_9,int i64 n_10,int i64 n_11,slice a n_12 c])])) m'_1 []->∀(b b:Nat),br (decide (n_4<=0)) (rtM m m'_1 R (tuple (.mk [agg (.mk [int i64 0,int i64 0,int i64 0,int i64 0]),int
 i64 0,bool false,int i64 0]))) (rtM m m'_1 R (tuple (.mk [yL,int i64 n_4,bool true,int i64 0]))))):CX Tryz.prog 36 #[.agg #[.int .u8 aD,.int .u64 aE,.int .u64 aF,.int .u64 aG,.int .u64 aJ,.int .i64 aH,.int .i64 aI,.slice aB aA aC]] m [] R:=
 Zad (E:=Zly) Zay mix Tryz.func36 [.v (.agg #[.int .u8 aD,.int .u64 aE,.int .u64 aF,.int .u64 aG,.int .u64 aJ,.int .i64 aH,.int .i64 aI,.slice aB aA aC])] [] (by kernel_rfl) (Eq.mp (by kernel_rfl) h)
def Zlz:Env:={ EB with
 dr:=swI [] [(4,[⟨0,[2],[],none,[],[]⟩,dO 1 [0],⟨2,[6],[],none,[],[]⟩,⟨3,[],[],none,[0,1,2],[1]⟩,dO 4 [0,1,2,3],dO 5 [0,1,2,3,4],dO 6 [0,1,2,3,4,5]])]
 frzNew:=[2,3] }
theorem Zjx(aD aE aF aG aJ aH aI:Int)(aB:Option Addr)(aA aC:Nat)(aR aL aM aQ:Int)(m:Mem)(R:RT)(h:
 lV [int i64 aR,int i64 aL,int i64 aM,int i64 aQ] λxL=>lV [int u8 aD,int u64 aE,int u64 aF,int u64 aG,int u64 aJ,int i64 aH,int i64 aI,slice aB aA aC] λxL_1=>fzM m xL_1 λb m'=>
 fzM m' xL λb m'=>∃R_1,True/\CX pG 21 (.mk [agg (.mk xL_1),agg (.mk xL)]) m' [] R_1/\ZbT (.tup [shT,.int i64]) R_1/\∀n n_1 n_2 n_3 n_4 n_5 n_6 a n_7 c n_8 m'_1,lX (agg (.mk [int u8 n,int u64 n_1,int u64 n_2,int
 u64 n_3,int u64 n_4,int i64 n_5,int i64 n_6,slice a n_7 c])) λyL=>m'.le m'_1->R_1 (tuple (.mk [yL,int i64 n_8])) m'_1 []->∀(b:Nat),br (!n_8 == 0) (rtM m m'_1 R (tuple (.mk [int i64 0,int i64 n_8]))) (∃(f:Fx),
 dI f 1 pG 63 [agg (.mk xL_1)] m'_1 λn m'=>dI f 3 pG 63 [yL] m' λn_9 m'_2=>∀M,m'_1.le M->m'.le M->m'_2.le M->rtM m M R (tuple (.mk [int i64 (i64.wrap (n - n_9)),int i64 0])))):CX Tryz.prog 49 #[.agg #[.int .u8 aD,.int .u64 aE,.int .u64 aF,.int .u64 aG,.int .u64 aJ,.int .i64 aH,.int .i64 aI,.slice aB aA aC],.agg #[.int .i64 aR,.int .i64 aL,.int .i64 aM,.int .i64 aQ]] m [] R:=
 Zad (E:=Zlz) Zay mix Tryz.func49 [.v (.agg #[.int .u8 aD,.int .u64 aE,.int .u64 aF,.int .u64 aG,.int .u64 aJ,.int .i64 aH,.int .i64 aI,.slice aB aA aC]),.v (.agg #[.int .i64 aR,.int .i64 aL,.int .i64 aM,.int .i64 aQ])] [] (by kernel_rfl) (Eq.mp (by kernel_rfl) h)
def ZlA:Env:={ EB with
 loops:=swI nLa [(5,⟨[(13,.agg [.int .i64,.int .i64,.int .i64,.int .i64])],[4,5],[],false⟩)]
 frzNew:=[2,3] }
theorem Zjy(aD aE aF aG aJ aH aI:Int)(aB:Option Addr)(aA aC:Nat)(aR aL aM aQ:Int)(m:Mem)(R:RT)(h:
 lV [int u8 aD,int u64 aE,int u64 aF,int u64 aG,int u64 aJ,int i64 aH,int i64 aI,slice aB aA aC] λxL=>lX (agg (.mk xL)) λyL=>lV [int i64 aR,int i64 aL,int i64 aM,int i64 aQ] fun
 xL_1=>fzM m xL λb m'=>lE [some (Box.mk b xL 27 8 true true)] λxL=>fzM m' xL_1 λb m'=>∀b_1 b_2,lE (some (Box.mk b_2 [] 45 1 false true)::some (Box.mk b_1 [] 27 8 false true)::some (Box.mk b xL_1 37 4 true
 true)::xL) λxL=>kB pG 57 [yL] m' λb m'=>br (!b) (rtM m m' R (tuple (.mk [agg (.mk [int u8 0,int u64 0,int u64 0,int u64 0,int u64 0,int i64 0,int i64 0,slice none 0 0]),int i64 2]))) (kF pG 61 [yL] m' λg fi
 ca m'=>∃(xs:List (List Value)),IX pG g fi ca m' xs/\(∀(x:List Value),x∈xs->Shape.fitsL [.agg [.int i64,.int i64,.int i64,.int i64]] x=true)/\∃(I:IT),I [] [[int u8 0,int u64 0,int u64 0,int u64 0,int u64
 0,int i64 0,int i64 0,slice none 0 0],[int i64 0]] [] m' 0/\(∀n n_1 n_2 n_3 (cs cs_1:List Value) m'_1 (n_4:Nat),lX (agg (.mk [int i64 n,int i64 n_1,int i64 n_2,int i64 n_3])) λyL_1=>m'.le m'_1->
 List.get?Internal xs n_4=some [yL_1]->I [] [cs,cs_1] [] m'_1 n_4->∀(b:Nat),∃(b:Bool),EqIs pG 37 yL_1 (agg (.mk xL_1)) b/\br b (kN pG 62 [yL,agg (.mk xL_1)] m'_1 λn n_5 n_6 n_7 n_8 n_9 n_10 a n_11 c m'=>Zab
 xL/\rtM m m' R (tuple (.mk [agg (.mk [int u8 n,int u64 n_5,int u64 n_6,int u64 n_7,int u64 n_8,int i64 n_9,int i64 n_10,slice a n_11 c]),int i64 0]))) (Zab xL/\I [] [cs,cs_1] [] m'_1 (n_4+1)))/\∀(cs cs_1:List
 Value) m'_1,m'.le m'_1->I [] [cs,cs_1] [] m'_1 (xs.length)->rtM m m'_1 R (tuple (.mk [agg (.mk [int u8 0,int u64 0,int u64 0,int u64 0,int u64 0,int i64 0,int i64 0,slice none 0 0]),int i64 150])))):CX Tryz.prog 21 #[.agg #[.int .u8 aD,.int .u64 aE,.int .u64 aF,.int .u64 aG,.int .u64 aJ,.int .i64 aH,.int .i64 aI,.slice aB aA aC],.agg #[.int .i64 aR,.int .i64 aL,.int .i64 aM,.int .i64 aQ]] m [] R:=
 Zad (E:=ZlA) Zay mix Tryz.func21 [.v (.agg #[.int .u8 aD,.int .u64 aE,.int .u64 aF,.int .u64 aG,.int .u64 aJ,.int .i64 aH,.int .i64 aI,.slice aB aA aC]),.v (.agg #[.int .i64 aR,.int .i64 aL,.int .i64 aM,.int .i64 aQ])] [] (by kernel_rfl) (Eq.mp (by kernel_rfl) h)
def ZlB:Env:={ EB with
 frzNew:=[1] }
theorem Zjz(aD aE aF aG aJ aH aI:Int)(aB:Option Addr)(aA aC:Nat)(m:Mem)(R:RT)(h:
 lV [int u8 aD,int u64 aE,int u64 aF,int u64 aG,int u64 aJ,int i64 aH,int i64 aI,slice aB aA aC] λxL=>fzM m xL λb m'=>kB pG 57 [agg (.mk xL)] m' λb m'=>br (!b) (rtM m m' R (tuple (.mk
 [slice none 0 0,int i64 2]))) (kF pG 61 [agg (.mk xL)] m' λg fi ca m'=>kS pG 60 [func (Fn.func g) (Array.mk fi) (Array.mk ca)] m' λa n c m'=>rtM m m' R (tuple (.mk [slice a n c,int i64 0])))):CX Tryz.prog 20 #[.agg #[.int .u8 aD,.int .u64 aE,.int .u64 aF,.int .u64 aG,.int .u64 aJ,.int .i64 aH,.int .i64 aI,.slice aB aA aC]] m [] R:=
 Zad (E:=ZlB) Zay mix Tryz.func20 [.v (.agg #[.int .u8 aD,.int .u64 aE,.int .u64 aF,.int .u64 aG,.int .u64 aJ,.int .i64 aH,.int .i64 aI,.slice aB aA aC])] [] (by kernel_rfl) (Eq.mp (by kernel_rfl) h)
def ZlC:Env:={ EB with
 loops:=swI nLa [(5,⟨[(4,.slice),(13,.int .i64)],[],[(21,4)],false⟩)]
 tokOf:=swI 0 [(21,21)]
 frzNew:=[1] }
theorem ZjA(aD aE aF aG aJ aH aI:Int)(aB:Option Addr)(aA aC:Nat)(m:Mem)(R:RT)(h:
 lV [int u8 aD,int u64 aE,int u64 aF,int u64 aG,int u64 aJ,int i64 aH,int i64 aI,slice aB aA aC] λxL=>fzM m xL λb m'=>kB pG 57 [agg (.mk xL)] m' λb_1 m'=>br (!b_1) (rtM m m' R (tuple
 (.mk [slice none 0 0,int i64 2]))) (kS pG 74 [agg (.mk xL)] m' λa n c m'=>∃I,inI I [slice none 0 0,int i64 0] [] [slice none 0 0] m'/\∀a_1 n_1 c n_2 a_2 n_3 c_1 m'_1 (n_4:Nat),lX (slice a_1 n_1 c) λyL=>lE (n_1 +
 1) λyL_1=>m'.le m'_1->I [yL,int i64 n_2] [] [slice a_2 n_3 c_1] m'_1 n_4->br (decide (n_2 < (↑n:Int))) (atA a λb_2 o=>Zaf n_2 n/\∃v v_1 v_2 v_3 v_4 v_5 v_6 v_7:Value,lV [v_1,v_2,v_3,v_4] λxL_1=>
 m'_1.reads b_2 (o+Int.toNat n_2*8) [v,v_1,v_2,v_3,v_4,v_5,v_6,v_7]/\∀(b_3:Nat),chk (v.oneCell'&&(v_1.oneCell'&&(v_2.oneCell'&&(v_3.oneCell'&&(v_4.oneCell'&&(v_5.oneCell'&&(v_6.oneCell'&&(v_7.oneCell'
 && true)))))))) (∀b_4,lM (m'_1.add b_4 xL_1) λmL=>m'_1.free b_4->(Tok.mk (slice a_2 n_3 c_1) 4=Tok.mk yL 4\/yL=slice none 0 0\/c < yL_1)/\∃(xs:List Value),∃(ys:List Value),xs.length=n_1*4/\ys.length=1
 * 4/\rowRd mL a_1 xs/\rowRd mL (some (Addr.mk b_4 0 none)) ys/\(∀(u:Value),u∈ys->u.oneCell'=true)/\yL_1*32<=140737488355328/\yL_1<=9223372036854775807/\∀(a':Option Addr) c' m',mL.le m'->rowRd m' a'
 (List.append xs ys)->Zab [some (Box.mk b xL 27 8 true true)]/\nxI n_4 I [slice a' yL_1 c',int i64 (i64.wrap (n_2+1))] [] [slice a' yL_1 c'] m')) (rtM m m'_1 R (tuple (.mk [yL,int i64 0]))))):CX Tryz.prog 37 #[.agg #[.int .u8 aD,.int .u64 aE,.int .u64 aF,.int .u64 aG,.int .u64 aJ,.int .i64 aH,.int .i64 aI,.slice aB aA aC]] m [] R:=
 Zad (E:=ZlC) Zay mix Tryz.func37 [.v (.agg #[.int .u8 aD,.int .u64 aE,.int .u64 aF,.int .u64 aG,.int .u64 aJ,.int .i64 aH,.int .i64 aI,.slice aB aA aC])] [] (by kernel_rfl) (Eq.mp (by kernel_rfl) h)
def ZcF:Env:=EB
theorem Zcw(p0g:Nat)(p0fi p0ca:List Value)(m:Mem)(R:RT)(h:
 kS pG 87 [slice none 0 0,func (Fn.func p0g) (Array.mk p0fi) (Array.mk p0ca)] m λa n c m'=>rtM m m' R (slice a n c)):CX Tryz.prog 60 #[.func (.func p0g) p0fi.toArray p0ca.toArray] m [] R:=
 Zad (E:=ZcF) Zay mix Tryz.func60 [.v (.func (.func p0g) p0fi.toArray p0ca.toArray)] [] (by kernel_rfl) (Eq.mp (by kernel_rfl) h)
def Zbs:Env:={ EB with
 loops:=swI nLa [(3,⟨[(7,.agg [.int .i64,.int .i64,.int .i64,.int .i64])],[2],[(11,4)],false⟩)]
 tokOf:=swI 0 [(11,11)]
 capF:=true }
theorem Zbm(p0a:Option Addr)(p0n p0c p1g:Nat)(p1fi p1ca:List Value)(m:Mem)(R:RT)(h:
 ∀b,∃(xs:List (List Value)),IX pG p1g p1fi p1ca m xs/\(∀(x:List Value),x∈xs->Shape.fitsL [.agg [.int i64,.int i64,.int i64,.int i64]] x=true)/\∃(I:IT),I [] [[slice p0a p0n p0c]] [slice none 0 0] m 0/\(∀n
 n_1 n_2 n_3 (cs:List Value) a n_4 c m' (n_5:Nat),lV [int i64 n,int i64 n_1,int i64 n_2,int i64 n_3] λxL=>m.le m'->List.get?Internal xs n_5=some [agg (.mk xL)]->I [] [cs] [slice a n_4 c] m' n_5->∀(b_1:Nat),
 Eng.ZuZ cs 0 λv=>∀b_2,lM (m'.add b_2 xL) λmL=>lE (slN v+1) λyL=>m'.free b_2->chk (Zck v&&true) ((Tok.mk (slice a n_4 c) 4=Tok.mk v 4\/v=slice none 0 0\/slC v < yL)/\∃(xs:List Value),∃(ys:List
 Value),xs.length=slN v*4/\ys.length=1*4/\rowRd mL (slA v) xs/\rowRd mL (some (Addr.mk b_2 0 none)) ys/\(∀(u:Value),u∈ys->u.oneCell'=true)/\yL*32<=140737488355328/\yL<=9223372036854775807/\∀(a':
 Option Addr) (c':Nat) m',mL.le m'->rowRd m' a' (List.append xs ys)->yL<=c'->Zab [some (Box.mk b [] 48 1 false true)]/\I [] [[slice a' yL c']] [slice a' yL c'] m' (n_5+1)))/\∀(cs:List Value) a n c m',m.le m'->I
 [] [cs] [slice a n c] m' (xs.length)->Eng.ZuZ cs 0 λv=>rtM m m' R v):CX Tryz.prog 87 #[.slice p0a p0n p0c,.func (.func p1g) p1fi.toArray p1ca.toArray] m [] R:=
 Zad (E:=Zbs) Zay mix Tryz.func87 [.v (.slice p0a p0n p0c),.v (.func (.func p1g) p1fi.toArray p1ca.toArray)] [] (by kernel_rfl) (Eq.mp (by kernel_rfl) h)
end Go.Proofs.YtfgfahnakepegaaGreat
namespace Go.Proofs.YtfgfahnakepegaaGreat
open Go Go.Eng Go.Rx Go.Proofs Go.RowKit
set_option maxRecDepth 100000
def Zcd(c:C4):List Value:=[.int .i64 (c.a:Nat),.int .i64 (c.f:Nat),.int .i64 (c.t:Nat),.int .i64 (c.n:Nat)]
theorem ZsX(t:T)(c:C4)(m:Mem)(hr:Rep m t)(hg:t.good=true)(cY:t.caps)(hz:t.nodes.length<=120)(hf:Zem c t.alts 0):CX Tryz.prog 62 #[t.v,c.v] m [] (Za9 λt'=>t'.er=(t.cutAt c 0).1/\(t'.caps/\NewT m t')):=by
 apply Zjt
 intro b m1 aK _ b' m2 aO _ b1 b2 b3 m3 aX hw hc
 have bQ:=mLt aK (mLt aO aX)
 have xS:=Zkt c m3 b2 b' b3 hc (by have:=hw 0 _ rfl;rw[Nat.zero_add]at this;exact this) t 0 (by omega) (hr.mono bQ) hg cY hz hf
 refine⟨_,trivial,xS,ZrA,?_⟩
 rintro k' s0' s1' s2' s3' mn' mx' a6 n6 c6 m4 bB cs6 ⟨t',hv,hr',ht',gO,uJ⟩
 simp only[T.v,Value.agg.injEq,Array.mk.injEq,List.cons.injEq,Value.int.injEq,Value.slice.injEq,true_and,and_true]at hv
 obtain⟨rfl,rfl,rfl,rfl,rfl,rfl,rfl,rfl,rfl,rfl⟩:=hv
 exact⟨m4,mLt bQ bB,Mem.le_refl _,t',rfl,hr',ht',gO.1,gO.2.less bQ⟩
theorem Zyi(t:T)(c:C4)(m:Mem)(hr:Rep m t)(hg:t.good=true)(cY:t.caps)(hz:t.nodes.length<=120)(hf:Zem c t.alts 0):CX Tryz.prog 62 #[t.v,c.v] m [] (Za9 λt'=>t'.er=(t.cutAt c 0).1/\t'.caps):=
 (ZsX t c m hr hg cY hz hf).mono λ_ _ _ _ ⟨t',e,hr',h1,h2⟩=>⟨t',e,hr',h1,h2.1⟩
theorem ZuB(c top:C4)(gain most:Int)(b0 b1:Nat)(m:Mem):CX Tryz.prog 86 #[c.v,.int .i64 gain,Zd8 b0,Zd8 b1] m [⟨b0,[.int .i64 most],3,1,false,true⟩,⟨b1,Zcd top,37,4,false,true⟩] (λv _ css=>v=.bool (ZgI top c most gain)/\css=[[.int .i64 most],Zcd top]):=by
 apply Zhe (c.a:Nat) (c.f:Nat) (c.t:Nat) (c.n:Nat) gain b0 most b1 (top.a:Nat) (top.f:Nat) (top.t:Nat) (top.n:Nat)
 intro b m1 aK _
 have e1:(((c.a:Nat):Int) == ((top.a:Nat):Int))=(c.a == top.a):=by rw[Bool.eq_iff_iff];simp only[beq_iff_eq];omega
 have e2:(((c.f:Nat):Int) == ((top.f:Nat):Int))=(c.f == top.f):=by rw[Bool.eq_iff_iff];simp only[beq_iff_eq];omega
 have e3:decide (((c.t:Nat):Int) > ((top.t:Nat):Int))=decide (c.t > top.t):=decide_eq_decide.2 (by omega)
 rw[e1,e2,e3]
 refine⟨ZgI top c most gain,?_,rfl,rfl,m1,aK,Mem.le_refl _,rfl,rfl⟩
 unfold ZgI
 generalize decide (gain > most)=x1
 generalize (gain == most)=x2
 generalize decide (gain > 0)=x3
 generalize (c.a == top.a)=x4
 generalize (c.f == top.f)=x5
 generalize decide (c.t > top.t)=x6
 cases x1
 ·cases x2
  ·exact⟨rfl,rfl⟩
  ·cases x3
   ·exact⟨rfl,rfl⟩
   ·cases x4
    ·exact⟨rfl,rfl⟩
    ·cases x5
     ·exact⟨rfl,rfl⟩
     ·exact⟨rfl,rfl⟩
 ·exact⟨rfl,rfl⟩
def Zz8(t:T):Value->Mem->List (List Value)->Prop:=λv m' _=>∃t':T,v=.tuple #[(Za1 t).c.v,.int .i64 (Za1 t).g,t'.v]/\Rep m' t'/\t'.er=(Za1 t).t/\t'.caps
theorem Zbz{t:T}(h:t.nodes.length<=10000):t.size=(t.nodes.length:Nat):=by
 unfold T.size T.light
 rw[decide_eq_true h,if_pos rfl]
theorem ZsY(t:T)(m:Mem)(hr:Rep m t)(hg:t.good=true)(cY:t.caps)(hz:t.nodes.length<=120):CX Tryz.prog 58 #[t.v] m [] (Zz8 t):=by
 apply Zju
 intro b m1 aK bA b1 b2 b3
 have dH:=hr.mono aK
 have bE:=Zbz (t:=t) (by omega)
 refine⟨λ_ _ _=>Ret (.int .i64 t.size),_,rfl,Zm1 t m1 dH,(λv _ _ e=>by rw[e];rfl),?_⟩
 intro n m2 aO hn b4 b5 b6 M cM cS b7
 obtain rfl:n=t.size:=by unfold Ret at hn;simpa using hn
 refine Zae (ZsU t M) Zlt ?_
 rintro g fi ca m3 aX ⟨nb,hv,jJ⟩
 obtain⟨rfl,rfl,rfl⟩:=Zet hv
 have bQ:=mLt aK (mLt cM aX)
 have qK:=hr.mono bQ
 refine⟨_,ZsV t m3 nb jJ qK cY (by omega),λx hx=>?_,λxs css tvs m' q=>∃tt:T,css=[Zcd ((t.cuts.take q).foldl (Zbg t) ⟨C4.zero,0,t.er⟩).c,[.int .i64 ((t.cuts.take q).foldl (Zbg t) ⟨C4.zero,0,t.er⟩).g],tt.cs]/\Rep m' tt/\tt.er=((t.cuts.take q).foldl (Zbg t) ⟨C4.zero,0,t.er⟩).t/\tt.caps,⟨t,rfl,qK,rfl,cY⟩,?_,?_⟩
 ·obtain⟨c,_,rfl⟩:=List.mem_map.1 hx
  rfl
 ·rintro n1 n2 n3 n4 cs cs1 cs2 m4 q bB cN ⟨tt,bW,uM,vS,gE⟩ b8
  have cN:(t.cuts.map Zu3)[q]?=some [.agg #[.int .i64 n1,.int .i64 n2,.int .i64 n3,.int .i64 n4]]:=cN
  rw[List.getElem?_map]at cN
  obtain⟨c,hc,he⟩:=Option.map_eq_some_iff.1 cN
  simp only[Zu3,C4.v,List.cons.injEq,Value.agg.injEq,Array.mk.injEq,Value.int.injEq,true_and,and_true]at he
  obtain⟨rfl,rfl,rfl,rfl⟩:=he
  have vK:=zA2 hc
  have bU:(t.cuts.take (q+1)).foldl (Zbg t) ⟨C4.zero,0,t.er⟩=Zbg t ((t.cuts.take q).foldl (Zbg t) ⟨C4.zero,0,t.er⟩) c:=by
   rw[ZbR hc,List.foldl_append];rfl
  have uN:=ZgH (c:=c) t 0 hg (ZcS vK)
  refine Zae (Zyi t c m4 (qK.mono bB) hg cY hz (ZcS vK)) Zaj (ZaD λt' m5 cC hr' ⟨ht',gO⟩ b9=>?_)
  have hz':t'.nodes.length=(t.cutAt c 0).1.nodes.length:=Zcv ht'
  have rP:=Zbz (t:=t') (by have:=uN.sz;omega)
  refine⟨λ_ _ _=>Ret (.int .i64 t'.size),_,rfl,Zm1 t' m5 hr',(λv _ _ e=>by rw[e];rfl),?_⟩
  intro n14 m6 cI uO M2 xU BO
  obtain rfl:n14=t'.size:=by unfold Ret at uO;simpa using uO
  have mR:IntKind.i64.wrap (t.size - t'.size)=Zec t c:=by
   rw[bE,rP]
   unfold Zec
   have:=uN.sz
   rw[hz',Zas (by omega) (by omega)]
  rw[mR]
  generalize hB:(t.cuts.take q).foldl (Zbg t) ⟨C4.zero,0,t.er⟩=B at *
  simp only[List.cons.injEq,and_true]at bW
  obtain⟨rfl,rfl,rfl⟩:=bW
  refine⟨_,trivial,ZuB c B.c (Zec t c) B.g b4 b3 M2,(λv _ _ e=>by rw[e.1];rfl),?_⟩
  rintro bb m7 cB cs' cs3 ⟨dC,cE⟩
  obtain rfl:bb=ZgI B.c c B.g (Zec t c):=by simpa using dC
  simp only[List.cons.injEq,and_true]at cE
  obtain⟨rfl,rfl⟩:=cE
  have vQ:=mLt xU cB
  refine Zac (λhy=>?_) (λhn=>?_)
  ·refine⟨by trivial,t',?_,hr'.mono vQ,?_,gO⟩
   ·rw[bU];unfold Zbg;rw[hy,if_pos rfl];rfl
   ·rw[bU];unfold Zbg;rw[hy,if_pos rfl];exact ht'
  ·refine⟨by trivial,tt,?_,uM.mono (mLt cC vQ),?_,gE⟩
   ·rw[bU];unfold Zbg;rw[hn];rfl
   ·rw[bU];unfold Zbg;rw[hn];exact vS
 ·rintro cs cs1 cs2 m4 bB ⟨tt,bW,uM,vS,gE⟩
  rw[List.length_map,List.take_length]at bW vS
  simp only[List.cons.injEq,and_true]at bW
  obtain⟨rfl,rfl,rfl⟩:=bW
  refine Zap (v:=.int .i64 (Za1 t).g) rfl (Zaa rfl (Zaa rfl ⟨m4,mLt bQ bB,Mem.le_refl _,tt,rfl,uM,vS,gE⟩))
def T.rgt(t:T):Bool:=t.clean&&decide (t.size<=120)
theorem Zc8{t:T}:T.rgt t=true↔t.good=true/\t.nodes.length<=120:=by
 unfold T.rgt
 rw[zA7,decide_eq_true_iff]
 constructor
 ·rintro⟨h1,h2⟩
  have h3:=ZfQ h1
  rw[Zbz h3.2]at h2
  exact⟨h3.1,by omega⟩
 ·rintro⟨h1,h2⟩
  exact⟨ZaO h1 (by omega),by rw[Zbz (by omega)];omega⟩
def Zjg(e:Int)(φ:T->Prop):Value->Mem->List (List Value)->Prop:=λv m' _=>∃t':T,v=.tuple #[t'.v,.int .i64 e]/\Rep m' t'/\φ t'/\t'.caps
def ZaI(L:List C4):List Value:=(L.map Zcd).flatten
theorem ZcT(L:List C4):(ZaI L).length=L.length*4:=by
 induction L with
 | nil=>rfl
 | cons c L ih=>simp[ZaI,Zcd]at ih ⊢;omega
theorem ZcW(L:List C4)(c:C4):ZaI (L++[c])=ZaI L++Zcd c:=by simp[ZaI]
theorem ZrB(c:C4):∀u∈Zcd c,u.oneCell'=true:=by
 intro u hu
 simp only[Zcd,List.mem_cons,List.not_mem_nil,or_false]at hu
 rcases hu with rfl|rfl|rfl|rfl <;> rfl
def Zz9(L:List C4):Value->Mem->List (List Value)->Prop:=λv m' _=>∃a c,v=.slice a L.length c/\rowRd m' a (ZaI L)
def Zyj(e:Int)(L:List C4):Value->Mem->List (List Value)->Prop:=λv m' _=>∃a c,v=.tuple #[.slice a L.length c,.int .i64 e]/\rowRd m' a (ZaI L)
theorem ZlD{t:T}:∀(v:Value)(m':Mem) (css:List (List Value)),Zz8 t v m' css->Shape.fits (.tup [.agg [.int .i64,.int .i64,.int .i64,.int .i64],.int .i64,.agg [.int .u8,.int .u64,.int .u64,.int .u64,.int .u64,.int .i64,.int .i64,.slice]]) v=true:=λv _ _ ⟨t,e,_⟩=>by rw[e];rfl
theorem Zi2(t:T)(m:Mem)(hr:Rep m t)(cY:t.caps):CX Tryz.prog 19 #[t.v] m [] (λv m' css=>if T.rgt t then Zjg 0 (λt'=>t'.er=(ZaF t).1/\NewT m t') v m' css else Zjg 2 (λt'=>t'=T0) v m' css):=by
 apply Zhf
 intro b b1
 refine Zai (ZeZ t m hr) λm1 aK=>Zac (λh=>?_) (λh=>?_)
 ·have hf:T.rgt t=false:=by rw[Bool.not_eq_true']at h;exact h
  refine⟨m1,aK,Mem.le_refl _,?_⟩
  rw[hf]
  exact⟨T0,rfl,Zjn _,rfl,ZhM⟩
 ·have ht:T.rgt t=true:=by unfold T.rgt;simpa using h
  obtain⟨hg,hz⟩:=Zc8.1 ht
  refine⟨λxs css tvs m' q=>∃x:T,css=[x.cs,T0.cs]/\Rep m' x/\x.caps/\x.good=true/\x.nodes.length<=120/\ZaF x=((ZaF t).1,(ZaF x).2)/\q=x.nodes.length,⟨_,t,rfl,hr.mono aK,cY,hg,hz,rfl,rfl⟩,?_⟩
  rintro cs cs1 m2 q aO ⟨x,bW,cO,s5,iG,iO,nG,hq⟩
  simp only[List.cons.injEq,and_true]at bW
  obtain⟨rfl,rfl⟩:=bW
  refine⟨_,trivial,ZsY x m2 cO iG s5 iO,ZlD,?_⟩
  rintro n1 n2 n3 n4 n5 n6 n7 n8 n9 n10 n11 n12 a n13 c m3 aX ⟨t',hv,hr',ht',hc'⟩ b3 b4
  simp only[C4.v,T.v,Value.tuple.injEq,Value.agg.injEq,Array.mk.injEq,List.cons.injEq,Value.int.injEq,Value.slice.injEq,true_and,and_true]at hv
  obtain⟨_,rfl,rfl,rfl,rfl,rfl,rfl,rfl,rfl,rfl,rfl,rfl⟩:=hv
  refine Zac (λbC=>?_) (λgV=>?_)
  ·have bC:=zA6 bC
   refine Zae (ZsW x m3 (cO.mono aX) (by omega)) Zaj (ZaD λo m4 bB kE ⟨ho,fO,zS⟩=>?_)
   refine⟨m4,mLt aK (mLt aO (mLt aX bB)),Mem.le_refl _,?_⟩
   rw[ht]
   refine⟨o,rfl,kE,⟨?_,zS.less (mLt aK (mLt aO aX))⟩,fO⟩
   show o.er=(ZaF t).1
   rw[ZcE bC]at nG
   rw[ho,<-(Prod.mk.inj nG).1]
  ·have gV:=of_decide_eq_false gV
   have hb:=ZdT iG (by omega)
   have hz':t'.nodes.length=(Za1 x).t.nodes.length:=by rw[<-ZdF t',ht']
   have me:ZaF t'=ZaF (Za1 x).t:=ZiV (by rw[ht',hb.2.2.1])
   refine⟨by trivial,t'.nodes.length,by omega,t',rfl,hr',hc',by rw[<-ZbY,ht'];exact hb.1,by omega,?_,rfl⟩
   rw[ZfX iG gV]at nG
   rw[me,<-(Prod.mk.inj nG).1]
theorem ZuC(t:T)(m:Mem)(hr:Rep m t)(cY:t.caps):CX Tryz.prog 19 #[t.v] m [] (λv m' css=>if T.rgt t then Zjg 0 (λt'=>t'.er=(ZaF t).1) v m' css else Zjg 2 (λt'=>t'=T0) v m' css):=
 (Zi2 t m hr cY).mono λv m' css _ h=>by
  split at h
  ·rename_i hr
   rw[if_pos hr]
   obtain⟨t',e,hr',h1,h2⟩:=h
   exact⟨t',e,hr',h1.1,h2⟩
  ·rename_i hr
   rw[if_neg hr];exact h
theorem ZsZ(t:T)(m:Mem)(hr:Rep m t)(cY:t.caps):CX Tryz.prog 36 #[t.v] m [] (λv _ _=>v=(if T.rgt t=false then .tuple #[C4.zero.v,.int .i64 0,.bool false,.int .i64 2]else if(Za1 t).g<=0 then .tuple #[C4.zero.v,.int .i64 0,.bool false,.int .i64 0]else .tuple #[(Za1 t).c.v,.int .i64 (Za1 t).g,.bool true,.int .i64 0])):=by
 apply Zjw
 intro b m1 aK _ b1
 refine Zai (ZeZ t m1 (hr.mono aK)) λm2 aO=>Zac (λh=>?_) (λh=>?_)
 ·have hf:T.rgt t=false:=by rw[Bool.not_eq_true']at h;exact h
  rw[if_pos hf]
  exact⟨m2,mLt aK aO,Mem.le_refl _,rfl⟩
 have ht:T.rgt t=true:=by rw[Bool.not_eq_false']at h;exact h
 obtain⟨hg,hz⟩:=Zc8.1 ht
 rw[if_neg (by rw[ht];simp)]
 refine⟨_,trivial,ZsY t m2 (hr.mono (mLt aK aO)) hg cY hz,ZlD,?_⟩
 rintro n1 n2 n3 n4 n5 n6 n7 n8 n9 n10 n11 n12 a n13 c m3 aX ⟨t',hv,hr',ht',hc'⟩ b3 b4
 simp only[C4.v,T.v,Value.tuple.injEq,Value.agg.injEq,Array.mk.injEq,List.cons.injEq,Value.int.injEq,Value.slice.injEq,true_and,and_true]at hv
 obtain⟨⟨rfl,rfl,rfl,rfl⟩,rfl,rfl,rfl,rfl,rfl,rfl,rfl,rfl,rfl,rfl,rfl⟩:=hv
 have bQ:=mLt aK (mLt aO aX)
 refine Zac (λbC=>?_) (λgV=>?_)
 ·rw[if_pos (zA6 bC)]
  exact⟨m3,bQ,Mem.le_refl _,rfl⟩
 ·rw[if_neg (of_decide_eq_false gV)]
  exact⟨m3,bQ,Mem.le_refl _,rfl⟩
theorem Zwx(a b c d a' b' c' d':Int):EqIs Tryz.prog 37 (.agg #[.int .i64 a,.int .i64 b,.int .i64 c,.int .i64 d]) (.agg #[.int .i64 a',.int .i64 b',.int .i64 c',.int .i64 d']) (a == a'&&b == b'&&c == c'&&d == d'):=by
 refine⟨λw=>?_,λop ox oy w=>Zef (by kernel_rfl) op ox oy _ _ w⟩
 have u3:=Tryz.underlying3
 have a3:=Tryz.isAgg3
 have z3:=Tryz.sizeOf3
 rw[Op.equal,Op.maxDepth,show(10000:Nat)=9999+1 from rfl]
 rw[run_equalIn_agg _ _ _ _ _ (by kernel_rfl) (by kernel_rfl)]
 have hf:(Tryz.prog.fieldsOf 37).toList=[⟨ "Alt",3,0,false, "", "",0⟩,⟨ "From",3,1,false, "", "",8⟩,⟨ "To",3,2,false, "", "",16⟩,⟨ "Length",3,3,false, "", "",24⟩]:=by kernel_rfl
 rw[hf]
 go_simp
 by_cases h1:a=a' <;> by_cases h2:b=b' <;> by_cases h3:c=c' <;> by_cases h4:d=d' <;> simp[h1,h2,h3,h4]
def Zw8(t:T)(a b c d:Int):Value->Mem->List (List Value)->Prop:=λv m' css=>
 if T.rgt t=false then Zjg 2 (λt'=>t'=T0) v m' css else
 (∃k∈t.cuts,((k.a:Nat):Int)=a/\((k.f:Nat):Int)=b/\((k.t:Nat):Int)=c/\((k.n:Nat):Int)=d/\Zjg 0 (λt'=>t'.er=(t.cutAt k 0).1) v m' css)\/
 ((∀k∈t.cuts,¬(((k.a:Nat):Int)=a/\((k.f:Nat):Int)=b/\((k.t:Nat):Int)=c/\((k.n:Nat):Int)=d))/\Zjg 150 (λt'=>t'=T0) v m' css)
def Zqx(t:T)(m:Mem)(a b c d:Int):Value->Mem->List (List Value)->Prop:=λv m' css=>
 if T.rgt t=false then Zjg 2 (λt'=>t'=T0) v m' css else
 (∃k∈t.cuts,((k.a:Nat):Int)=a/\((k.f:Nat):Int)=b/\((k.t:Nat):Int)=c/\((k.n:Nat):Int)=d/\Zjg 0 (λt'=>t'.er=(t.cutAt k 0).1/\NewT m t') v m' css)\/
 ((∀k∈t.cuts,¬(((k.a:Nat):Int)=a/\((k.f:Nat):Int)=b/\((k.t:Nat):Int)=c/\((k.n:Nat):Int)=d))/\Zjg 150 (λt'=>t'=T0) v m' css)
theorem Zs0(t:T)(a b c d:Int)(m:Mem)(hr:Rep m t)(cY:t.caps):CX Tryz.prog 21 #[t.v,.agg #[.int .i64 a,.int .i64 b,.int .i64 c,.int .i64 d]] m [] (Zqx t m a b c d):=by
 apply Zjy
 intro b0 m1 aK _ b1 m2 aO _ b2 b3
 have bR:=mLt aK aO
 refine Zai (ZeZ t m2 (hr.mono bR)) λm3 aX=>Zac (λh=>?_) (λh=>?_)
 ·have hf:T.rgt t=false:=by rw[Bool.not_eq_true']at h;exact h
  refine⟨m3,mLt bR aX,Mem.le_refl _,?_⟩
  unfold Zqx
  rw[if_pos hf]
  exact⟨T0,rfl,Zjn _,rfl,ZhM⟩
 have ht:T.rgt t=true:=by rw[Bool.not_eq_false']at h;exact h
 obtain⟨hg,hz⟩:=Zc8.1 ht
 have zT:¬T.rgt t=false:=by rw[ht];simp
 refine Zae (ZsU t m3) Zlt ?_
 rintro g fi ca m4 bB ⟨nb,hv,jJ⟩
 obtain⟨rfl,rfl,rfl⟩:=Zet hv
 have fH:=mLt bR (mLt aX bB)
 have kP:=hr.mono fH
 refine⟨_,ZsV t m4 nb jJ kP cY (by omega),λx hx=>?_,λxs css tvs m' q=>css=[T0.cs,[.int .i64 0]]/\∀k∈t.cuts.take q,¬(((k.a:Nat):Int)=a/\((k.f:Nat):Int)=b/\((k.t:Nat):Int)=c/\((k.n:Nat):Int)=d),⟨rfl,by simp⟩,?_,?_⟩
 ·obtain⟨c,_,rfl⟩:=List.mem_map.1 hx
  rfl
 ·rintro n1 n2 n3 n4 cs cs1 m5 q cC cN ⟨bW,dL⟩ b5
  have cN:(t.cuts.map Zu3)[q]?=some [.agg #[.int .i64 n1,.int .i64 n2,.int .i64 n3,.int .i64 n4]]:=cN
  rw[List.getElem?_map]at cN
  obtain⟨k,hk,he⟩:=Option.map_eq_some_iff.1 cN
  simp only[Zu3,C4.v,List.cons.injEq,Value.agg.injEq,Array.mk.injEq,Value.int.injEq,true_and,and_true]at he
  obtain⟨rfl,rfl,rfl,rfl⟩:=he
  have kZ:=zA2 hk
  simp only[List.cons.injEq,and_true]at bW
  obtain⟨rfl,rfl⟩:=bW
  refine⟨_,Zwx _ _ _ _ _ _ _ _,Zac (λhy=>?_) (λhn=>?_)⟩
  ·simp only[zA7,beq_iff_eq]at hy
   obtain⟨⟨⟨rfl,rfl⟩,rfl⟩,rfl⟩:=hy
   refine Zae (ZsX t k m5 (kP.mono cC) hg cY hz (ZcS kZ)) Zaj (ZaD λt' m6 cI hr' ⟨ht',gO⟩=>?_)
   refine⟨by trivial,m6,mLt fH (mLt cC cI),Mem.le_refl _,?_⟩
   unfold Zqx
   rw[if_neg zT]
   exact .inl ⟨k,kZ,rfl,rfl,rfl,rfl,t',rfl,hr',⟨ht',gO.2.less (mLt fH cC)⟩,gO.1⟩
  ·refine⟨by trivial,rfl,λk' hk'=>?_⟩
   rw[ZbR hk]at hk'
   rcases List.mem_append.1 hk' with hk'|hk'
   ·exact dL k' hk'
   ·rw[List.mem_singleton]at hk';subst hk'
    rintro⟨h1,h2,h3,h4⟩
    rw[h1,h2,h3,h4]at hn
    simp at hn
 ·rintro cs cs1 m5 cC ⟨bW,dL⟩
  rw[List.length_map,List.take_length]at dL
  refine⟨m5,mLt fH cC,Mem.le_refl _,?_⟩
  unfold Zqx
  rw[if_neg zT]
  exact .inr ⟨dL,T0,rfl,Zjn _,rfl,ZhM⟩
theorem Zyk(t:T)(a b c d:Int)(m:Mem)(hr:Rep m t)(cY:t.caps):CX Tryz.prog 21 #[t.v,.agg #[.int .i64 a,.int .i64 b,.int .i64 c,.int .i64 d]] m [] (Zw8 t a b c d):=
 (Zs0 t a b c d m hr cY).mono λv m' css _ h=>by
  unfold Zqx at h
  unfold Zw8
  split at h
  ·rename_i hr
   rw[if_pos hr];exact h
  ·rename_i hr
   rw[if_neg hr]
   rcases h with⟨k,hk,h1,h2,h3,h4,t',e,hr',h5,h6⟩|h
   ·exact .inl ⟨k,hk,h1,h2,h3,h4,t',e,hr',h5.1,h6⟩
   ·exact .inr h
theorem ZrC{t:T}{a b c d:Int}:∀(v:Value)(m':Mem) (css:List (List Value)),Zw8 t a b c d v m' css->Shape.fits (.tup [.agg [.int .u8,.int .u64,.int .u64,.int .u64,.int .u64,.int .i64,.int .i64,.slice],.int .i64]) v=true:=by
 intro v m' css h
 have key:∀e φ,Zjg e φ v m' css->Shape.fits (.tup [.agg [.int .u8,.int .u64,.int .u64,.int .u64,.int .u64,.int .i64,.int .i64,.slice],.int .i64]) v=true:=λe φ ⟨t',h,_⟩=>by rw[h];rfl
 unfold Zw8 at h
 split at h
 ·exact key _ _ h
 ·rcases h with⟨_,_,_,_,_,_,h⟩|⟨_,h⟩
  ·exact key _ _ h
  ·exact key _ _ h
theorem ZrD{t:T}{m:Mem}{a b c d:Int}:∀(v:Value)(m':Mem) (css:List (List Value)),Zqx t m a b c d v m' css->Shape.fits (.tup [.agg [.int .u8,.int .u64,.int .u64,.int .u64,.int .u64,.int .i64,.int .i64,.slice],.int .i64]) v=true:=by
 intro v m' css h
 have key:∀e φ,Zjg e φ v m' css->Shape.fits (.tup [.agg [.int .u8,.int .u64,.int .u64,.int .u64,.int .u64,.int .i64,.int .i64,.slice],.int .i64]) v=true:=λe φ ⟨t',h,_⟩=>by rw[h];rfl
 unfold Zqx at h
 split at h
 ·exact key _ _ h
 ·rcases h with⟨_,_,_,_,_,_,h⟩|⟨_,h⟩
  ·exact key _ _ h
  ·exact key _ _ h
def ZAa(t:T)(a b c d:Int)(g e:Int):Prop:=
 (T.rgt t=false/\g=0/\e=2)\/
 (T.rgt t=true/\∃k∈t.cuts,((k.a:Nat):Int)=a/\((k.f:Nat):Int)=b/\((k.t:Nat):Int)=c/\((k.n:Nat):Int)=d/\g=Zec t k/\e=0)\/
 (T.rgt t=true/\(∀k∈t.cuts,¬(((k.a:Nat):Int)=a/\((k.f:Nat):Int)=b/\((k.t:Nat):Int)=c/\((k.n:Nat):Int)=d))/\g=0/\e=150)
def ZAb(t:T)(a b c d:Int):Value->Mem->List (List Value)->Prop:=λv _ _=>∃g e,v=.tuple #[.int .i64 g,.int .i64 e]/\ZAa t a b c d g e
theorem ZuD{t:T}{a b c d:Int}:∀(v:Value)(m':Mem) (css:List (List Value)),ZAb t a b c d v m' css->Shape.fits (.tup [.int .i64,.int .i64]) v=true:=λv _ _ ⟨g,e,h,_⟩=>by rw[h];rfl
theorem Zvv(t:T)(a b c d:Int)(m:Mem)(hr:Rep m t)(cY:t.caps):CX Tryz.prog 49 #[t.v,.agg #[.int .i64 a,.int .i64 b,.int .i64 c,.int .i64 d]] m [] (ZAb t a b c d):=by
 apply Zjx
 intro b0 m1 aK _ b1 m2 aO _
 have bR:=mLt aK aO
 refine Zae (Zyk t a b c d m2 (hr.mono bR) cY) ZrC ?_
 rintro n1 n2 n3 n4 n5 n6 n7 a1 n8 c1 n9 m3 aX iF b3
 have bQ:=mLt bR aX
 unfold Zw8 at iF
 have tk:∀{e:Int} {φ:T->Prop},Zjg e φ (.tuple #[.agg #[.int .u8 n1,.int .u64 n2,.int .u64 n3,.int .u64 n4,.int .u64 n5,.int .i64 n6,.int .i64 n7,.slice a1 n8 c1],.int .i64 n9]) m3 []->n9=e/\∃t':T,.agg #[.int .u8 n1,.int .u64 n2,.int .u64 n3,.int .u64 n4,.int .u64 n5,.int .i64 n6,.int .i64 n7,.slice a1 n8 c1]=t'.v/\Rep m3 t'/\φ t':=by
  rintro e φ ⟨t',hv,hr',hp,_⟩
  simp only[Value.tuple.injEq,Array.mk.injEq,List.cons.injEq,Value.int.injEq,true_and,and_true]at hv
  exact⟨hv.2,t',hv.1,hr',hp⟩
 by_cases ht:T.rgt t=false
 ·rw[if_pos ht]at iF
  obtain⟨rfl,-⟩:=tk iF
  exact ZsS rfl (Zah bQ ⟨_,_,rfl,.inl ⟨ht,rfl,rfl⟩⟩)
 rw[if_neg ht]at iF
 have ht':T.rgt t=true:=by simpa using ht
 obtain⟨hg,hz⟩:=Zc8.1 ht'
 rcases iF with⟨k,hk,e1,e2,e3,e4,iF⟩|⟨dL,iF⟩
 ·obtain⟨rfl,t',hv,hr',hp⟩:=tk iF
  have ho:=ZgH (c:=k) t 0 hg (ZcS hk)
  have hz':t'.nodes.length=(t.cutAt k 0).1.nodes.length:=by rw[<-ZdF t',hp]
  have bE:=ho.sz
  refine Zf0 rfl ⟨λi _ _=>if i=1 then Ret (.int .i64 t.size)else Ret (.int .i64 t'.size),_,(if_pos rfl).symm,Zm1 t m3 (hr.mono bQ),λv _ _ e=>by rw[e];rfl,?_⟩
  rintro n m4 bB hn
  obtain rfl:n=t.size:=by simpa[Ret]using hn
  refine⟨_,(if_neg (by omega)).symm,by rw[hv];exact Zm1 t' m4 (hr'.mono bB),λv _ _ e=>by rw[e];rfl,?_⟩
  rintro n m5 cC hn M _ _ hM
  obtain rfl:n=t'.size:=by simpa[Ret]using hn
  refine⟨M,mLt bQ (mLt bB (mLt cC hM)),Mem.le_refl _,_,_,rfl,.inr (.inl ⟨ht',k,hk,e1,e2,e3,e4,?_,rfl⟩)⟩
  rw[Zbz (by omega),Zbz (by omega),Zas (by omega) (by omega)]
  unfold Zec
  omega
 ·obtain⟨rfl,-⟩:=tk iF
  exact ZsS rfl (Zah bQ ⟨_,_,rfl,.inr (.inr ⟨ht',dL,rfl,rfl⟩)⟩)
theorem ZrE{e:Int}{L:List C4}:∀(v:Value)(m':Mem) (css:List (List Value)),Zyj e L v m' css->Shape.fits (.tup [.slice,.int .i64]) v=true:=λv _ _ ⟨a,c,e,_⟩=>by rw[e];rfl
def Zy3(L:List C4):Value->Mem->List (List Value)->Prop:=λv m' _=>∃a c,v=.slice a L.length c/\rowRd m' a (ZaI L)/\L.length<=c
theorem Zm3{L:List C4}:∀(v:Value)(m':Mem) (css:List (List Value)),Zy3 L v m' css->Shape.fits .slice v=true:=λv _ _ ⟨a,c,e,_⟩=>by rw[e];rfl
theorem ZnP(L:List C4)(g:Nat)(fi ca:List Value)(m:Mem)(hx:IX Tryz.prog g fi ca m (L.map Zu3))(hl:L.length<=1000000):CX Tryz.prog 87 #[.slice none 0 0,.func (.func g) fi.toArray ca.toArray] m [] (Zy3 L):=by
 apply Zbm
 intro b1
 refine⟨_,hx,λx hx=>?_,λxs css tvs m' q=>∃a' c',css=[[.slice a' q c']]/\tvs=[.slice a' q c']/\rowRd m' a' (ZaI (L.take q))/\q<=c',⟨none,0,rfl,rfl,.inl rfl,Nat.le_refl _⟩,?_,?_⟩
 ·obtain⟨c,_,rfl⟩:=List.mem_map.1 hx
  rfl
 ·rintro z1 z2 z3 z4 cs a1 n1 c1 m7 q cB hq ⟨a',c',cE,bY,aP,xV⟩
  obtain rfl:cs=[.slice a' q c']:=by simpa using cE
  obtain⟨rfl,rfl,rfl⟩:a1=a'/\n1=q/\c1=c':=by simpa using bY
  have hq:(L.map Zu3)[n1]?=some [.agg #[.int .i64 z1,.int .i64 z2,.int .i64 z3,.int .i64 z4]]:=hq
  rw[List.getElem?_map]at hq
  obtain⟨k,hk,he⟩:=Option.map_eq_some_iff.1 hq
  simp only[Zu3,C4.v,List.cons.injEq,Value.agg.injEq,Array.mk.injEq,Value.int.injEq,true_and,and_true]at he
  obtain⟨rfl,rfl,rfl,rfl⟩:=he
  have aS:=(zA0 hk).1
  intro b2
  refine Zap rfl ?_
  intro b3 aY
  refine Zaa rfl ⟨.inl rfl,ZaI (L.take n1),Zcd k,?_,rfl,aP.mono (Mem.le_add aY _),.inr ⟨b3,0,rfl,?_⟩,ZrB k,?_,?_,?_⟩
  ·rw[ZcT,List.length_take,Nat.min_eq_left (by omega)];rfl
  ·intro j v hj;rw[Nat.zero_add,Mem.add_same];exact hj
  ·simp only[slN];omega
  ·simp only[slN];omega
  ·intro a2 c2 m8 dT dV bL
   refine⟨by trivial,a2,c2,rfl,rfl,?_,bL⟩
   rw[ZbR hk,ZcW]
   exact dV
 ·rintro cs a1 n1 c1 m7 cB ⟨a',c',cE,bY,aP,xV⟩
  obtain rfl:cs=_:=by simpa using cE
  refine Zap rfl ⟨m7,cB,Mem.le_refl _,a',c',?_,?_,?_⟩
  ·simp only[List.length_map]
  ·rw[List.length_map,List.take_length]at aP
   exact aP
  ·rw[List.length_map]at xV
   exact xV
theorem ZrF(L:List C4)(g:Nat)(fi ca:List Value)(m:Mem)(hx:IX Tryz.prog g fi ca m (L.map Zu3))(hl:L.length<=1000000):CX Tryz.prog 60 #[.func (.func g) fi.toArray ca.toArray] m [] (Zy3 L):=by
 apply Zcw
 refine Zae (ZnP L g fi ca m hx hl) Zm3 ?_
 rintro a n c m1 aK ⟨a',c',hv,aP,bL⟩
 cases hv
 exact⟨m1,aK,Mem.le_refl _,_,_,rfl,aP,bL⟩
def OrE(t:T)(L:List C4):Value->Mem->List (List Value)->Prop:=λv m' css=>if T.rgt t=false then v=.tuple #[.slice none 0 0,.int .i64 2]else Zyj 0 L v m' css
def OrC(t:T):Value->Mem->List (List Value)->Prop:=λv m' css=>if T.rgt t=false then v=.tuple #[.slice none 0 0,.int .i64 2]else ∃a c,v=.tuple #[.slice a t.cuts.length c,.int .i64 0]/\rowRd m' a (ZaI t.cuts)/\t.cuts.length<=c
theorem Zwy(t:T)(m:Mem)(hr:Rep m t)(cY:t.caps)(hl:t.cuts.length<=1000000):CX Tryz.prog 20 #[t.v] m [] (OrC t):=by
 apply Zjz
 intro b m1 aK _
 refine Zai (ZeZ t m1 (hr.mono aK)) λm2 aO=>Zac (λh=>?_) (λh=>?_)
 ·have hf:T.rgt t=false:=by rw[Bool.not_eq_true']at h;exact h
  refine Zah (mLt aK aO) ?_
  unfold OrC
  rw[if_pos hf]
 have ht:T.rgt t=true:=by rw[Bool.not_eq_false']at h;exact h
 obtain⟨hg,hz⟩:=Zc8.1 ht
 have bR:=mLt aK aO
 refine Zae (ZsU t m2) Zlt ?_
 rintro g fi ca m3 aX ⟨nb,hv,jJ⟩
 obtain⟨rfl,rfl,rfl⟩:=Zet hv
 have bQ:=mLt bR aX
 refine Zae (ZrF t.cuts _ _ _ m3 (ZsV t m3 nb jJ (hr.mono bQ) cY (by omega)) hl) Zm3 ?_
 rintro a n c m4 bB ⟨a',c',hv,aP,bL⟩
 cases hv
 refine⟨m4,mLt bQ bB,Mem.le_refl _,?_⟩
 unfold OrC
 rw[if_neg (by rw[ht];simp)]
 exact⟨_,_,rfl,aP,bL⟩
theorem Zs1(t:T)(m:Mem)(hr:Rep m t)(cY:t.caps)(hl:t.cuts.length<=1000000):CX Tryz.prog 20 #[t.v] m [] (OrE t t.cuts):=
 (Zwy t m hr cY hl).mono λv m' css _ h=>by
  unfold OrC at h
  unfold OrE
  split at h
  ·rename_i hf;rw[if_pos hf];exact h
  ·rename_i hf
   obtain⟨a,c,hv,aP,_⟩:=h
   rw[if_neg hf];exact⟨a,c,hv,aP⟩
theorem Zp3{t:T}:(ZaF t).2.length<=t.nodes.length:=by
 have:∀(k:Nat)(t:T),(ZcD k t).2.length<=k:=by
  intro k
  induction k with
  | zero=>intro t;simp[ZcD]
  | succ k ih=>
   intro t
   rw[ZcD]
   split
   ·simp
   ·simp;exact ih _
 exact this _ _
theorem Zs2(t:T)(m:Mem)(hr:Rep m t)(cY:t.caps):CX Tryz.prog 35 #[t.v] m [] (OrE t (ZaF t).2):=by
 apply Zh8
 intro b
 refine Zai (ZeZ t m hr) λm1 aK=>Zac (λh=>?_) (λh=>?_)
 ·have hf:T.rgt t=false:=by rw[Bool.not_eq_true']at h;exact h
  refine Zah aK ?_
  unfold OrE
  rw[if_pos hf]
 have ht:T.rgt t=true:=by rw[Bool.not_eq_false']at h;exact h
 obtain⟨hg,hz⟩:=Zc8.1 ht
 have bC:=Zp3 (t:=t)
 refine⟨λxs css tvs m' q=>∃(x:T)(done:List C4)(a:Option Addr)(c:Nat),css=[x.cs]/\xs=[.slice a done.length c]/\tvs=[.slice a done.length c]/\rowRd m' a (ZaI done)/\Rep m' x/\x.caps/\x.good=true/\x.nodes.length<=120/\(ZaF t).2=done++(ZaF x).2/\q=x.nodes.length,⟨_,t,[],none,0,rfl,rfl,rfl,.inl rfl,hr.mono aK,cY,hg,hz,rfl,rfl⟩,?_⟩
 rintro a n c cs a1 n1 c1 m2 q aO ⟨x,done,a',c',bW,aZ,bY,aP,cO,s5,iG,iO,nG,hq⟩
 obtain rfl:cs=x.cs:=by simpa using bW
 obtain⟨rfl,rfl,rfl⟩:a=a'/\n=done.length/\c=c':=by simpa using aZ
 obtain⟨rfl,rfl,rfl⟩:a1=a/\n1=done.length/\c1=c:=by simpa using bY
 refine⟨_,trivial,ZsY x m2 cO iG s5 iO,ZlD,?_⟩
 rintro n1 n2 n3 n4 n5 n6 n7 n8 n9 n10 n11 n12 a2 n13 c2 m3 aX ⟨t',hv,hr',ht',hc'⟩ b3 b4
 simp only[C4.v,T.v,Value.tuple.injEq,Value.agg.injEq,Array.mk.injEq,List.cons.injEq,Value.int.injEq,Value.slice.injEq,true_and,and_true]at hv
 obtain⟨⟨rfl,rfl,rfl,rfl⟩,rfl,rfl,rfl,rfl,rfl,rfl,rfl,rfl,rfl,rfl,rfl⟩:=hv
 have bQ:=mLt aK (mLt aO aX)
 refine Zac (λrQ=>?_) (λgV=>?_)
 ·have rQ:=zA6 rQ
  rw[ZcE rQ,List.append_nil]at nG
  refine⟨m3,bQ,Mem.le_refl _,?_⟩
  unfold OrE
  rw[if_neg (by rw[ht];simp),nG]
  exact⟨_,_,rfl,aP.mono aX⟩
 ·have gV:=of_decide_eq_false gV
  have hb:=ZdT iG (by omega)
  have hz':t'.nodes.length=(Za1 x).t.nodes.length:=by rw[<-ZdF t',ht']
  have me:ZaF t'=ZaF (Za1 x).t:=ZiV (by rw[ht',hb.2.2.1])
  rw[ZfX iG gV]at nG
  have aU:=congrArg List.length nG
  rw[zA1,List.length_cons]at aU
  intro b5 aY
  refine⟨.inl rfl,ZaI done,Zcd (Za1 x).c,ZcT _,rfl,(aP.mono aX).mono (Mem.le_add aY _),.inr ⟨b5,0,rfl,?_⟩,ZrB _,by omega,by omega,?_⟩
  ·intro j v hj;rw[Nat.zero_add,Mem.add_same];exact hj
  intro a4 c4 m4 bB iZ M cM cS dM
  refine⟨by trivial,t'.nodes.length,by omega,t',done++[(Za1 x).c],a4,c4,rfl,?_,?_,?_,hr'.mono cM,hc',by rw[<-ZbY,ht'];exact hb.1,by omega,?_,rfl⟩
  ·rw[zA1];rfl
  ·rw[zA1];rfl
  ·rw[ZcW];exact rowRd.mono iZ dM
  ·rw[nG,me,List.append_assoc];rfl
def ZcL(t:T):List Value:=[.int .u64 t.s0,.int .u64 t.s1,.int .u64 t.s2,.int .u64 t.s3]
def ZbW(L:List T):List Value:=(L.map ZcL).flatten
theorem ZgO(L:List T):(ZbW L).length=L.length*4:=by
 induction L with
 | nil=>rfl
 | cons c L ih=>simp[ZbW,ZcL]at ih ⊢;omega
theorem ZjB(L:List T)(c:T):ZbW (L++[c])=ZbW L++ZcL c:=by simp[ZbW]
def ZuE(t:T):Value->Mem->List (List Value)->Prop:=λv m' _=>if T.rgt t=false then v=.tuple #[.slice none 0 0,.int .i64 2]else ∃a c,v=.tuple #[.slice a (Zao t).length c,.int .i64 0]/\rowRd m' a (ZbW (Zao t))
theorem Zm4{t:T}:∀(v:Value)(m':Mem) (css:List (List Value)),ZuE t v m' css->Shape.fits (.tup [.slice,.int .i64]) v=true:=by
 intro v m' css h
 unfold ZuE at h
 split at h
 ·rw[h];rfl
 ·obtain⟨_,_,h,_⟩:=h
  rw[h];rfl
theorem Zvw(t:T)(m:Mem)(hr:Rep m t)(cY:t.caps):CX Tryz.prog 37 #[t.v] m [] (ZuE t):=by
 apply ZjA
 intro b m1 aK _
 refine Zai (ZeZ t m1 (hr.mono aK)) λm2 aO=>Zac (λh=>?_) (λh=>?_)
 ·have hf:T.rgt t=false:=by rw[Bool.not_eq_true']at h;exact h
  refine Zah (mLt aK aO) ?_
  unfold ZuE
  rw[if_pos hf]
 have ht:T.rgt t=true:=by rw[Bool.not_eq_false']at h;exact h
 obtain⟨hg,hz⟩:=Zc8.1 ht
 have bR:=mLt aK aO
 refine Zae (ZpZ t m2 (hr.mono bR) (ZgE cY)) Zf3 ?_
 rintro a n c m3 aX ⟨a',c',hv,hL,Dl⟩
 cases hv
 have aP:=Zaw hL
 have xW:(Zao t).length<=120:=by
  have:=ZfT t
  omega
 refine⟨λxs css tvs m' q=>∃(i:Nat)(a:Option Addr)(c:Nat),i<=(Zao t).length/\css=[]/\xs=[.slice a i c,.int .i64 i]/\tvs=[.slice a i c]/\rowRd m' a (ZbW ((Zao t).take i))/\q=(Zao t).length - i,⟨_,0,none,0,by omega,rfl,rfl,rfl,.inl rfl,rfl⟩,?_⟩
 rintro a3 n1 c3 n2 a4 n3 c4 m4 q bB ⟨i,a5,c5,hi,-,aZ,bY,jL,hq⟩
 simp only[List.cons.injEq,Value.slice.injEq,Value.int.injEq,true_and,and_true]at aZ bY
 obtain⟨⟨rfl,rfl,rfl⟩,rfl⟩:=aZ
 obtain⟨rfl,rfl,rfl⟩:=bY
 refine Zac (λaS=>?_) (λbI=>?_)
 ·have aN:n3 < (Zao t).length:=by have:=zA6 aS;omega
  obtain⟨x,hx⟩:=ZbU aN
  obtain⟨b0,o0,eO,dW⟩:=Zct (aP.mono bB) hx
  refine⟨b0,o0,eO,⟨by omega,by omega⟩,_,_,_,_,_,_,_,_,dW,?_⟩
  intro b6
  refine Zaa rfl ?_
  intro b7 aY
  refine⟨.inl rfl,ZbW ((Zao t).take n3),ZcL x,?_,rfl,jL.mono (Mem.le_add aY _),.inr ⟨b7,0,rfl,?_⟩,?_,by omega,by omega,?_⟩
  ·rw[ZgO,List.length_take,Nat.min_eq_left hi]
  ·intro j v hj;rw[Nat.zero_add,Mem.add_same];exact hj
  ·intro u hu
   simp only[ZcL,List.mem_cons,List.not_mem_nil,or_false]at hu
   rcases hu with rfl|rfl|rfl|rfl <;> rfl
  intro a8 c8 m8 dT gA
  refine⟨by trivial,(Zao t).length - (n3+1),by omega,n3+1,a8,c8,by omega,rfl,?_,rfl,?_,rfl⟩
  ·rw[Zas (by omega) (by omega)];rfl
  ·rw[ZbR hx,ZjB];exact gA
 ·have BP:n3=(Zao t).length:=by have:=of_decide_eq_false bI;omega
  subst BP
  rw[List.take_length]at jL
  refine⟨m4,mLt bR (mLt aX bB),Mem.le_refl _,?_⟩
  unfold ZuE
  rw[if_neg (by rw[ht];simp)]
  exact⟨_,_,rfl,jL⟩
end Go.Proofs.YtfgfahnakepegaaGreat
namespace Go.Proofs.YtfgfahnakepegaaGreat
open Go Go.Eng Go.Proofs Go.RowKit
open Go.Value (int slice agg bool string tuple func)
open Go.IntKind (u8 u64 i64)
set_option maxRecDepth 100000
def ZuF:Env:={ EB with
 loops:=swI nLa [(3,⟨[(8,.int .i64)],[3],[],false⟩)] }
theorem ZrG(p0a:Option Addr)(p0n p0c:Nat)(m:Mem)(R:RT)(h:
 ∀b b_1,∃I,inI I [int i64 0] [[int u64 0,int u64 0,int u64 0,int u64 0]] [] m/\∀n (cs:List Value) m' (n_1:Nat),m.le m'->I [int i64 n] [cs] [] m' n_1->br (decide (n < (↑p0n:Int))) (atA p0a λb_2 o=>Zaf n
 p0n/\∃(v:Value),lE (Int.fdiv (RowKit.intOf v) ((2:Int) ^ 6)) λyL=>lE (u8.wrap (↑(BitVec.toNat (BitVec.ofInt 8 (RowKit.intOf v)&&&BitVec.ofInt 8 (63:Int))):Int)) λyL_1=>lE (0+Int.toNat yL*1) λyL_2=>
 m' b_2 (o+Int.toNat n*1)=some v/\chk (ZaE u8 v&&true) ((0:Int)<=6/\Zaf yL 4/\Eng.ZuZ cs yL_2 λv_1=>chk (ZaE u8 v&&decide (u8=u8)) ((0:Int)<=yL_1/\chk (ZaE u64 v_1&&decide (u64=u64))
 (Zaf yL 4/\chk (Nat.ble (yL_2+1) (cs.length)) (Zab [some (Box.mk b_1 [] 24 4 false true),some (Box.mk b [int u64 0,int u64 0,int u64 0,int u64 0] 24 4 false true)]/\nxI n_1 I [int i64 (i64.wrap (n+1))] [Zau cs
 yL_2 [int u64 (u64.wrap (↑(BitVec.toNat (BitVec.ofInt 64 (RowKit.intOf v_1)|||BitVec.ofInt 64 (u64.wrap ((1:Int)*(2:Int) ^ min (Int.toNat yL_1) 64)))):Int))]] [] m'))))) (chk (Nat.beq (cs.length) 4&&Zbi cs) (rtM m m'
 R (agg (.mk cs))))):CX Tryz.prog 25 #[.slice p0a p0n p0c] m [] R:=
 Zad (E:=ZuF) Zay mix Tryz.func25 [.v (.slice p0a p0n p0c)] [] (by kernel_rfl) (Eq.mp (by kernel_rfl) h)
def ZnQ:Env:={ EB with
 loops:=swI nLa [(3,⟨[(6,.int .i64)],[5],[],false⟩)]
 dr:=swI [] [(5,[dO 0 [],dO 1 [0],⟨2,[5],[],none,[0,1],[]⟩,⟨3,[5],[],none,[0,1,2],[]⟩,dO 4 [],dO 5 [4],dO 6 [4,5],dO 7 [0,1,2,3,4,5,6],⟨8,[5],[],none,[0,1,2,3,4,5,6,7],[]⟩,⟨9,[5],[5],none,[0,1,2,3,4,5,6,7,8],[]⟩])] }
theorem ZlE(p0 p1:Int)(m:Mem)(R:RT)(h:
 ∀b b_1,∃I,inI I [int i64 (i64.wrap p0)] [[int u64 0,int u64 0,int u64 0,int u64 0]] [] m/\∀(n:Int)(cs:List Value) m' (n_1:Nat),lE (Int.fdiv n ((2:Int) ^ 6)) λyL=>lE (i64.wrap (↑(BitVec.toNat (BitVec.ofInt
 64 n&&&BitVec.ofInt 64 (63:Int))):Int)) λyL_1=>lE (0+Int.toNat yL*1) λyL_2=>m.le m'->I [int i64 n] [cs] [] m' n_1->br (decide (n<=i64.wrap p1)) ((0:Int)<=6/\Zaf yL 4/\Eng.ZuZ cs yL_2 λv=>(0:
 Int)<=yL_1/\chk (ZaE u64 v&&decide (u64=u64)) (Zaf yL 4/\chk (Nat.ble (yL_2+1) (cs.length)) (Zab [some (Box.mk b_1 [] 24 4 false true),some (Box.mk b [int u64 0,int u64 0,int u64 0,int u64 0] 24 4 false
 true)]/\nxI n_1 I [int i64 (i64.wrap (n+1))] [Zau cs yL_2 [int u64 (u64.wrap (↑(BitVec.toNat (BitVec.ofInt 64 (RowKit.intOf v)|||BitVec.ofInt 64 (u64.wrap ((1:Int)*(2:Int) ^ min (Int.toNat yL_1) 64)))):Int))]] []
 m'))) (chk (Nat.beq (cs.length) 4&&Zbi cs) (rtM m m' R (agg (.mk cs))))):CX Tryz.prog 11 #[.int .u8 p0,.int .u8 p1] m [] R:=
 Zad (E:=ZnQ) Zay mix Tryz.func11 [.v (.int .u8 p0),.v (.int .u8 p1)] [] (by kernel_rfl) (Eq.mp (by kernel_rfl) h)
def Zyl:Env:={ EB with
 frzNew:=[1] }
theorem Zwz(aD aE aF aG:Int)(m:Mem)(R:RT)(h:
 lV [int u64 aD,int u64 aE,int u64 aF,int u64 aG] λxL=>fzM m xL λb m'=>∀(b:Nat),∃(b:Bool),EqIs pG 24 (agg (.mk xL)) (agg (.mk [int u64 0,int u64 0,int u64 0,int u64 0])) b/\br b (rtM m m' R (agg
 (.mk [int u8 0,int u64 0,int u64 0,int u64 0,int u64 0,int i64 0,int i64 0,slice none 0 0]))) (rtM m m' R (agg (.mk [int u8 2,int u64 aD,int u64 aE,int u64 aF,int u64 aG,int i64 0,int i64 0,slice none 0 0])))):CX Tryz.prog 10 #[.agg #[.int .u64 aD,.int .u64 aE,.int .u64 aF,.int .u64 aG]] m [] R:=
 Zad (E:=Zyl) Zay mix Tryz.func10 [.v (.agg #[.int .u64 aD,.int .u64 aE,.int .u64 aF,.int .u64 aG])] [] (by kernel_rfl) (Eq.mp (by kernel_rfl) h)
def ZuG:Env:=EB
theorem ZrH(p0:Int)(m:Mem)(R:RT)(h:
 ∀(b:Nat) b,lM (m.add b [int u8 p0]) λmL=>m.free b->∃R_1,True/\CX pG 25 (.mk [slice (some (Addr.mk b 0 none)) 1 1]) mL [] R_1/\ZbT (.agg [.int u64,.int u64,.int u64,.int u64]) R_1/\∀n n_1 n_2 n_3 m',lX (agg
 (.mk [int u64 n,int u64 n_1,int u64 n_2,int u64 n_3])) λyL=>mL.le m'->R_1 yL m' []->kN pG 10 [yL] m' λn n_4 n_5 n_6 n_7 n_8 n_9 a n_10 c m'=>rtM m m' R (agg (.mk [int u8 n,int u64 n_4,int u64 n_5,int u64 n_6,int
 u64 n_7,int i64 n_8,int i64 n_9,slice a n_10 c]))):CX Tryz.prog 5 #[.int .u8 p0] m [] R:=
 Zad (E:=ZuG) Zay mix Tryz.func5 [.v (.int .u8 p0)] [] (by kernel_rfl) (Eq.mp (by kernel_rfl) h)
end Go.Proofs.YtfgfahnakepegaaGreat
namespace Go.Proofs.YtfgfahnakepegaaGreat
open Go Go.Eng Go.Rx Go.Proofs Go.RowKit
set_option maxRecDepth 100000
theorem ZBV:∀c:Fin 256,IntKind.u64.wrap (((BitVec.ofInt 64 0|||BitVec.ofInt 64 (IntKind.u64.wrap (1*2 ^ min (IntKind.u8.wrap ((BitVec.ofInt 8 (c.val:Int)&&&BitVec.ofInt 8 63).toNat:Int)).toNat 64))).toNat:Nat):Int)=((2 ^ (c.val % 64):Nat):Int):=by decide +kernel
theorem ZAM{c:Nat}(hc:c < 256):IntKind.u64.wrap (((BitVec.ofInt 64 0|||BitVec.ofInt 64 (IntKind.u64.wrap (1*2 ^ min (IntKind.u8.wrap ((BitVec.ofInt 8 (c:Int)&&&BitVec.ofInt 8 63).toNat:Int)).toNat 64))).toNat:Nat):Int)=((2 ^ (c % 64):Nat):Int):=ZBV ⟨c,hc⟩
theorem Zzr:∀c:Fin 256,(0:Int)<=IntKind.u8.wrap ((BitVec.ofInt 8 (c.val:Int)&&&BitVec.ofInt 8 63).toNat:Int)/\Int.fdiv (c.val:Int) (2 ^ 6)=((c.val / 64:Nat):Int):=by decide +kernel
def ZAc(t:T):Value:=.agg (ZcL t).toArray
theorem ZrI(c:Nat)(hc:c < 256)(b o k:Nat)(m:Mem)(h:m b o=some (.int .u8 (c:Nat))):CX Tryz.prog 25 #[.slice (some ⟨b,o,none⟩) 1 k] m [] (Ret (ZAc (Zam c))):=by
 apply ZrG
 intro b1 b2
 have hs:=Zzr ⟨c,hc⟩
 simp only at hs
 refine⟨λxs css tvs m' q=>(xs=[.int .i64 0]/\css=[[.int .u64 0,.int .u64 0,.int .u64 0,.int .u64 0]]/\q=1)\/(xs=[.int .i64 1]/\css=[ZcL (Zam c)]/\q=0),⟨1,.inl ⟨rfl,rfl,rfl⟩⟩,?_⟩
 rintro n cs m1 q aK (⟨hx,cE,hq⟩|⟨hx,cE,hq⟩)
 ·obtain rfl:n=0:=by simpa using hx
  obtain rfl:cs=_:=by simpa using cE
  refine ZsS rfl ⟨b,o,rfl,⟨by omega,by omega⟩,.int .u8 (c:Nat),?_,Zaa rfl ⟨by decide,?_,?_⟩⟩
  ·have:=aK _ _ _ h
   simpa using this
  ·show Zaf (Int.fdiv (c:Int) (2 ^ 6)) 4
   rw[hs.2]
   exact⟨by omega,by omega⟩
  ·show Eng.ZuZ _ (0+(Int.fdiv (c:Int) (2 ^ 6)).toNat*1) _
   rw[hs.2,zA8,Nat.mul_one,Nat.zero_add]
   have hj:c / 64=0\/c / 64=1\/c / 64=2\/c / 64=3:=by omega
   have cN:([.int .u64 0,.int .u64 0,.int .u64 0,.int .u64 0]:List Value)[c / 64]?=some (.int .u64 0):=by
    rcases hj with e|e|e|e <;> rw[e] <;> rfl
   refine Zap cN (Zaa rfl ⟨hs.1,Zaa rfl ⟨?_,Zaa ?_ ⟨by trivial,0,by omega,.inr ⟨?_,?_,rfl⟩⟩⟩⟩)
   ·show Zaf (Int.fdiv (c:Int) (2 ^ 6)) 4
    rw[hs.2]
    exact⟨by omega,by omega⟩
   ·show Nat.ble (0+(Int.fdiv (c:Int) (2 ^ 6)).toNat*1+1) 4=true
    rw[hs.2]
    rw[Nat.ble_eq]
    omega
   ·rw[Zas (by omega) (by omega)];rfl
   ·show[Zau _ (0+(Int.fdiv (c:Int) (2 ^ 6)).toNat*1) [.int .u64 (IntKind.u64.wrap (((BitVec.ofInt 64 0|||BitVec.ofInt 64 (IntKind.u64.wrap (1*2 ^ min (IntKind.u8.wrap ((BitVec.ofInt 8 (c:Int)&&&BitVec.ofInt 8 63).toNat:Int)).toNat 64))).toNat:Nat):Int))]]=_
    rw[hs.2,ZAM hc,zA8,Nat.mul_one,Nat.zero_add]
    unfold ZcL Zam T.s0 T.s1 T.s2 T.s3 Zk4
    rcases hj with e|e|e|e <;> simp[e,Zau]
 ·obtain rfl:n=1:=by simpa using hx
  obtain rfl:cs=_:=by simpa using cE
  exact Zf0 rfl (Zaa rfl (Zah aK rfl))
def ZA7(k:Nat):Int:=((2 ^ k - 1:Nat):Int)*8589934592
theorem Zvx(a b c d:Int)(hz:¬(a=0/\b=0/\c=0/\d=0))(m:Mem)(hr:Rep m (.node 2 a b c d 0 0 none 0 [])):CX Tryz.prog 10 #[.agg #[.int .u64 a,.int .u64 b,.int .u64 c,.int .u64 d]] m [] (Za9 λt=>t=.node 2 a b c d 0 0 none 0 []):=by
 apply Zwz
 intro b1 m1 aK _ b2
 refine⟨_,Zrr _ _ _ _ _ _ _ _,Zf0 ?_ ⟨m1,aK,Mem.le_refl _,_,rfl,hr.mono aK,rfl⟩⟩
 cases h:(a == 0&&b == 0&&c == 0&&d == 0)with
 | false=>rfl
 | true=>simp only[zA7,beq_iff_eq]at h;exact absurd ⟨h.1.1.1,h.1.1.2,h.1.2,h.2⟩ hz
theorem ZuH(c:Nat)(hc:c < 256):¬(Zk4 c 0=0/\Zk4 c 1=0/\Zk4 c 2=0/\Zk4 c 3=0):=by
 rintro⟨h0,h1,h2,h3⟩
 have hp:(0:Int) < ((2 ^ (c % 64):Nat):Int):=by
  have:0 < 2 ^ (c % 64):=Nat.two_pow_pos _
  omega
 have hj:c / 64=0\/c / 64=1\/c / 64=2\/c / 64=3:=by omega
 unfold Zk4 at h0 h1 h2 h3
 rcases hj with e|e|e|e
 ·rw[if_pos e]at h0;omega
 ·rw[if_pos e]at h1;omega
 ·rw[if_pos e]at h2;omega
 ·rw[if_pos e]at h3;omega
theorem Zm5(c:Nat)(hc:c < 256)(m:Mem):CX Tryz.prog 5 #[.int .u8 (c:Nat)] m [] (Za9 λt=>t=Zam c):=by
 apply ZrH
 intro b0 b1 hf
 refine Zae (ZrI c hc b1 0 1 _ (Mem.le_refl _ _ _ _ (by rw[Mem.add_same];rfl))) (λv _ _ e=>by rw[e];rfl) ?_
 rintro n1 n2 n3 n4 m1 aK hv
 simp only[Ret,ZAc,ZcL,Value.agg.injEq,Array.mk.injEq,List.cons.injEq,Value.int.injEq,true_and,and_true]at hv
 obtain⟨rfl,rfl,rfl,rfl⟩:=hv
 refine Zae (Zvx _ _ _ _ (ZuH c hc) m1 (ZmM c m1)) Zaj (ZaD λt' m2 aO hr' ht'=>?_)
 subst ht'
 exact⟨m2,mLt (Mem.le_add hf _) (mLt aK aO),Mem.le_refl _,_,rfl,hr',rfl⟩
def Zy4(t:T):Bool:=decide (t.check=0)&&decide (t.size<=60)
theorem Zym(t:T):∀u∈t.cs,u.oneCell'=true:=by
 intro u hu
 simp only[T.cs,List.mem_cons,List.not_mem_nil,or_false]at hu
 rcases hu with rfl|rfl|rfl|rfl|rfl|rfl|rfl|rfl <;> rfl
end Go.Proofs.YtfgfahnakepegaaGreat
namespace Go.Proofs.YtfgfahnakepegaaGreat
open Go Go.Eng Go.Proofs Go.RowKit
open Go.Value (int slice agg bool string tuple func)
open Go.IntKind (u8 u64 i64)
set_option maxRecDepth 100000
end Go.Proofs.YtfgfahnakepegaaGreat
namespace Go.Proofs.YtfgfahnakepegaaGreat
open Go Go.Eng Go.Rx Go.Proofs Go.RowKit
set_option maxRecDepth 100000
structure OkT (t:T):Prop where
 good:t.good=true
 caps:t.caps
 fits:Zy4 t=true
theorem ZgF{t:T}(h:t.check=0):t.clean=true:=by
 unfold T.check at h
 cases hc:t.clean with
 | true=>rfl
 | false=>rw[if_pos hc]at h;cases h
theorem ZwA{t:T}(h:Zy4 t=true):t.check=0/\t.good=true/\t.nodes.length<=60:=by
 unfold Zy4 at h
 rw[zA7,decide_eq_true_iff,decide_eq_true_iff]at h
 have h1:=ZfQ (ZgF h.1)
 have h2:=h.2
 rw[Zbz h1.2]at h2
 exact⟨h.1,h1.1,by omega⟩
theorem OkT.clean{t:T}(h:OkT t):t.clean=true:=ZgF (ZwA h.fits).1
theorem Za7{m:Mem}{b:Nat}{l:List T}(hf:m.free b)(hr:∀t∈l,Rep m t)(hl:l.length<=1000000000000000):RepL (m.add b (Rx.Zcx l)) (some ⟨b,0,none⟩) l:=
 Zcs (.inr ⟨b,0,rfl,λj v hj=>by rw[Nat.zero_add,Mem.add_same];exact hj⟩) (λt ht=>(hr t ht).mono (Mem.le_add hf _)) hl
end Go.Proofs.YtfgfahnakepegaaGreat
namespace Go.Proofs.YtfgfahnakepegaaGreat
open Go Go.Eng Go.Rx Go.Proofs Go.RowKit Go.ChangeShapes Go.WideShapes Go.ChangeAt
set_option maxRecDepth 100000
theorem Zzs:ownKnob Tryz.prog.godebug=none:=by kernel_rfl
theorem Zyn:laidOutB Tryz.prog=true:=by kernel_rfl
section
variable {H:Type} {enc:TypeId×Value->H} {W:World} {BQ:Bool}
instance:Inhabited T:=⟨T0⟩
end
end Go.Proofs.YtfgfahnakepegaaGreat
namespace Go.Proofs.YtfgfahnakepegaaGreat
open Go Go.Eng Go.Proofs Go.RowKit
open Go.Value (int slice agg bool string tuple func)
open Go.IntKind (u8 u64 i64)
set_option maxRecDepth 100000
end Go.Proofs.YtfgfahnakepegaaGreat
end
