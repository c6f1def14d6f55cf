/- Part of the proof: conditions and contracts of functions of this program. No condition of its own. -/
import Derived.Test.YtfgfahnakepegaaPEnv
set_option linter.unusedVariables false
namespace Go.Proofs.Ytfgfahnakepegaa
open Go Go.Eng Go.Proofs Go.RowKit
open Go.Value (int slice agg bool string tuple func)
open Go.IntKind (u8 u64 i64)
set_option maxRecDepth 100000
noncomputable def ZlU:Env:={ EB with
 frzNew:=[1] }
def ZfG(aD aE aF aG aJ aH aI:Int)(aB:Option Addr)(aA aC:Nat)(m:Mem)(R:RT):Prop:=
 ∀(b:Nat)(m':Mem),Mem.le m m'->Mem.reads m' b 0 [int u8 aD,int u64 aE,int u64 aF,int u64 aG,int u64 aJ,int i64 aH,int i64 aI,slice aB aA aC]->br (aD == (2:Int)) (∀(b:Nat),
 Mem.free m' b->∃(m'':Mem),Mem.le m m''/\Mem.le m'' (Mem.add m' b [int u8 aD,int u64 aE,int u64 aF,int u64 aG,int u64 aJ,int i64 aH,int i64 aI,slice aB aA aC])/\R (slice (some
 (Addr.mk b 0 none)) 1 1) m'' []) (br (aD == (3:Int)) (∃(R_1:RT),True/\CX Try.prog 87 (Array.mk [slice aB aA aC,func (Fn.func 88) (Array.mk []) (Array.mk [])]) m' [] R_1/\Zau (Shape.int i64) R_1/\∀
 (n:Int) (m'_1:Mem),Mem.le m' m'_1->R_1 (int i64 n) m'_1 []->br (decide (n < (0:Int))) (∃(m'':Mem),Mem.le m m''/\Mem.le m'' m'_1/\R (slice aB aA aC) m'' []) (((0:Int)<=n/\n<=(↑aC:Int))/\
 ∃(m'':Mem),Mem.le m m''/\Mem.le m'' m'_1/\R (slice (ZaM aB 0 aC 8) (Int.toNat n - 0) (aC - 0)) m'' [])) (∃(m'':Mem),Mem.le m m''/\Mem.le m'' m'/\R (slice none 0 0) m'' []))
theorem ZjS(aD aE aF aG aJ aH aI:Int)(aB:Option Addr)(aA aC:Nat)(m:Mem)(R:RT)(h:ZfG aD aE aF aG aJ aH aI aB aA aC m R):CX Try.prog 53 #[.agg #[.int .u8 aD,.int .u64 aE,.int .u64 aF,.int .u64 aG,.int .u64 aJ,.int .i64 aH,.int .i64 aI,.slice aB aA aC]] m [] R:=
 Zaf (E:=ZlU) ZaH mix Try.func53 [.v (.agg #[.int .u8 aD,.int .u64 aE,.int .u64 aF,.int .u64 aG,.int .u64 aJ,.int .i64 aH,.int .i64 aI,.slice aB aA aC])] [] (by kernel_rfl) (Eq.mp (by kernel_rfl) h)
noncomputable def Zis:Env:={ EB with
 frzNew:=[1] }
def Zeq(aD aE aF aG aJ aH aI:Int)(aB:Option Addr)(aA aC:Nat)(m:Mem)(R:RT):Prop:=
 ∀(b:Nat)(m':Mem),Mem.le m m'->Mem.reads m' b 0 [int u8 aD,int u64 aE,int u64 aF,int u64 aG,int u64 aJ,int i64 aH,int i64 aI,slice aB aA aC]->∃(m'':Mem),Mem.le m m''/\Mem.le
 m'' m'/\R (bool !aD == (2:Int)) m'' []
theorem ZhJ(aD aE aF aG aJ aH aI:Int)(aB:Option Addr)(aA aC:Nat)(m:Mem)(R:RT)(h:Zeq aD aE aF aG aJ aH aI aB aA aC m R):CX Try.prog 88 #[.agg #[.int .u8 aD,.int .u64 aE,.int .u64 aF,.int .u64 aG,.int .u64 aJ,.int .i64 aH,.int .i64 aI,.slice aB aA aC]] m [] R:=
 Zaf (E:=Zis) ZaH mix Try.func88 [.v (.agg #[.int .u8 aD,.int .u64 aE,.int .u64 aF,.int .u64 aG,.int .u64 aJ,.int .i64 aH,.int .i64 aI,.slice aB aA aC])] [] (by kernel_rfl) (Eq.mp (by kernel_rfl) h)
noncomputable def ZlV:Env:={ EB with
 frzNew:=[2] }
def ZfH(aD aE aF aG aJ aH aI:Int)(aB:Option Addr)(aA aC:Nat)(p1:Int)(m:Mem)(R:RT):Prop:=
 ∀(b:Nat)(m':Mem),Mem.le m m'->Mem.reads m' b 0 [int u8 aD,int u64 aE,int u64 aF,int u64 aG,int u64 aJ,int i64 aH,int i64 aI,slice aB aA aC]->∀(b:Nat),br (aD == (2:Int)) (∃
 (R_1:RT),True/\CX Try.prog 15 (Array.mk [slice none 0 0]) m' [] R_1/\Zau (shT) R_1/\∀(n n_1 n_2 n_3 n_4 n_5 n_6:Int)(a:Option Addr)(n_7 c:Nat)(m'_1:Mem),Mem.le m' m'_1->R_1 (agg (Array.mk [int u8 n,
 int u64 n_1,int u64 n_2,int u64 n_3,int u64 n_4,int i64 n_5,int i64 n_6,slice a n_7 c])) m'_1 []->∃(m'':Mem),Mem.le m m''/\Mem.le m'' m'_1/\R (agg (Array.mk [int u8 n,int u64 n_1,int u64 n_2,int u64 n_3,
 int u64 n_4,int i64 n_5,int i64 n_6,slice a n_7 c])) m'' []) (((0:Int)<=p1/\p1<=(↑aA:Int))/\∃(R_1:RT),True/\CX Try.prog 15 (Array.mk [slice (ZaM aB (Int.toNat p1) aC 8) (aA - Int.toNat p1)
 (aC - Int.toNat p1)]) m' [] R_1/\Zau (shT) R_1/\∀(n n_1 n_2 n_3 n_4 n_5 n_6:Int)(a:Option Addr)(n_7 c:Nat)(m'_1:Mem),Mem.le m' m'_1->R_1 (agg (Array.mk [int u8 n,int u64 n_1,int u64 n_2,int u64
 n_3,int u64 n_4,int i64 n_5,int i64 n_6,slice a n_7 c])) m'_1 []->∃(m'':Mem),Mem.le m m''/\Mem.le m'' m'_1/\R (agg (Array.mk [int u8 n,int u64 n_1,int u64 n_2,int u64 n_3,int u64 n_4,int i64 n_5,int i64
 n_6,slice a n_7 c])) m'' [])
theorem ZjT(aD aE aF aG aJ aH aI:Int)(aB:Option Addr)(aA aC:Nat)(p1:Int)(m:Mem)(R:RT)(h:ZfH aD aE aF aG aJ aH aI aB aA aC p1 m R):CX Try.prog 115 #[.agg #[.int .u8 aD,.int .u64 aE,.int .u64 aF,.int .u64 aG,.int .u64 aJ,.int .i64 aH,.int .i64 aI,.slice aB aA aC],.int .i64 p1] m [] R:=
 Zaf (E:=ZlV) ZaH mix Try.func115 [.v (.agg #[.int .u8 aD,.int .u64 aE,.int .u64 aF,.int .u64 aG,.int .u64 aJ,.int .i64 aH,.int .i64 aI,.slice aB aA aC]),.v (.int .i64 p1)] [] (by kernel_rfl) (Eq.mp (by kernel_rfl) h)
noncomputable def ZjU:Env:={ EB with
 joins:=(λi=>bif Nat.beq i 1 then some [(2,.bool)]else none)
 frzNew:=[1] }
def Ze9(aD aE aF aG aJ aH aI:Int)(aB:Option Addr)(aA aC:Nat)(m:Mem)(R:RT):Prop:=
 ∀(b:Nat)(m':Mem),Mem.le m m'->Mem.reads m' b 0 [int u8 aD,int u64 aE,int u64 aF,int u64 aG,int u64 aJ,int i64 aH,int i64 aI,slice aB aA aC]->∃(b_1:Bool),(∃(R:RT),True/\CX
 Try.prog 19 (Array.mk [agg (Array.mk [int u8 aD,int u64 aE,int u64 aF,int u64 aG,int u64 aJ,int i64 aH,int i64 aI,slice aB aA aC])]) m' [] R/\Zau Shape.bool R/\∀(b_2:Bool) (m'_1:
 Mem),Mem.le m' m'_1->R (bool b_2) m'_1 []->br b_2 (∃(R:RT),True/\CX Try.prog 27 (Array.mk [agg (Array.mk [int u8 aD,int u64 aE,int u64 aF,int u64 aG,int u64 aJ,int i64 aH,int i64 aI,slice
 aB aA aC])]) m'_1 [] R/\Zau (Shape.int i64) R/\∀(n:Int)(m':Mem),Mem.le m'_1 m'->R (int i64 n) m' []->[some (Box.mk b [int u8 aD,int u64 aE,int u64 aF,int u64 aG,int u64 aJ,int i64
 aH,int i64 aI,slice aB aA aC] 27 8 true true)]=[some (Box.mk b [int u8 aD,int u64 aE,int u64 aF,int u64 aG,int u64 aJ,int i64 aH,int i64 aI,slice aB aA aC] 27 8 true true)]
 /\ [bool (decide (n<=(120:Int)))]=[bool b_1]) ([some (Box.mk b [int u8 aD,int u64 aE,int u64 aF,int u64 aG,int u64 aJ,int i64 aH,int i64 aI,slice aB aA aC] 27 8 true true)]=[some
 (Box.mk b [int u8 aD,int u64 aE,int u64 aF,int u64 aG,int u64 aJ,int i64 aH,int i64 aI,slice aB aA aC] 27 8 true true)]/\[bool false]=[bool b_1]))/\∃(m'':Mem),Mem.le m m''/\Mem.le
 m'' m'/\R (bool b_1) m'' []
theorem Zit(aD aE aF aG aJ aH aI:Int)(aB:Option Addr)(aA aC:Nat)(m:Mem)(R:RT)(h:Ze9 aD aE aF aG aJ aH aI aB aA aC m R):CX Try.prog 50 #[.agg #[.int .u8 aD,.int .u64 aE,.int .u64 aF,.int .u64 aG,.int .u64 aJ,.int .i64 aH,.int .i64 aI,.slice aB aA aC]] m [] R:=
 Zaf (E:=ZjU) ZaH mix Try.func50 [.v (.agg #[.int .u8 aD,.int .u64 aE,.int .u64 aF,.int .u64 aG,.int .u64 aJ,.int .i64 aH,.int .i64 aI,.slice aB aA aC])] [] (by kernel_rfl) (Eq.mp (by kernel_rfl) h)
noncomputable def Ziu:Env:={ EB with
 loops:=(λi=>bif Nat.beq i 2 then⟨[(5,.int .i64)],[],[],false⟩ else⟨[],[],[],false⟩)
 joins:=(λi=>bif Nat.beq i 2 then some [(28,.bool)]else none)
 dr:=(λi=>bif Nat.beq i 2 then[⟨0,[],[],none,[],[]⟩,⟨1,[],[],none,[],[]⟩,⟨2,[],[],none,[1],[]⟩,⟨3,[],[],none,[0,1,2],[]⟩,⟨4,[],[],none,[0,1,2,3],[]⟩,⟨5,[],[],none,[0,1,2,3,4],[]⟩,⟨6,[],[],none,[0,1,2,3,4],[]⟩,⟨7,[],[],none,[0,1,2,3,4,6],[]⟩,⟨8,[],[],none,[0,1,2,3,4,5,6,7],[]⟩,⟨9,[],[],none,[0,1,2,3,4,5,6,7,8],[]⟩,⟨10,[],[],none,[0,1,2,3,4,5,6,7,8,9],[]⟩,⟨11,[],[],none,[0,1,2,3,4,5,6,7,8,9,10],[]⟩,⟨12,[],[],none,[0,1,2,3,4,5,6,7,8,9,10],[]⟩,⟨13,[],[],none,rg 0 13,[]⟩,⟨14,[],[],none,rg 0 14,[]⟩,⟨15,[],[],none,rg 0 15,[]⟩,⟨16,[],[],none,[0,1,2,3,4,5,6,7,8,9,10],[]⟩,⟨17,[],[],none,[0,1,2,3,4,5,6,7,8,9,10],[]⟩,⟨18,[],[],none,rg 0 11++[16,17],[]⟩,⟨19,[],[],none,rg 0 11++[16,17,18],[]⟩,⟨20,[],[],none,rg 0 11++rg 16 4,[]⟩,⟨21,[],[],none,rg 0 21,[]⟩,⟨22,[],[],none,rg 0 22,[]⟩]else[])
 gb:=true }
def Zer(p0a:Option Addr)(p0n p0c:Nat)(p1a:Option Addr)(p1n p1c:Nat)(m:Mem)(R:RT):Prop:=
 ∃(I:IT),(∃(n:Nat),I [int i64 0] [] [] m n)/\∀(n:Int)(m':Mem)(n_1:Nat),Mem.le m m'->I [int i64 n] [] [] m' n_1->∃(b:Bool),br (decide (n < (↑p0n:Int))) (br (decide (n < (↑p1n:Int))) (∃(b_1:
 Nat),∃(o:Nat),p0a=some (Addr.mk b_1 o none)/\Zad n p0n/\∃(v:Value),∃(v_1:Value),∃(v_2:Value),∃(v_3:Value),Mem.reads m' b_1 (o+Int.toNat n*8+1) [v,v_1,v_2,v_3]/\∃(b_2:Nat),∃(o
 : Nat),p1a=some (Addr.mk b_2 o none)/\Zad n p1n/\∃(v_4:Value),∃(v_5:Value),∃(v_6:Value),∃(v_7:Value),Mem.reads m' b_2 (o+Int.toNat n*8+1) [v_4,v_5,v_6,v_7]/\∃(b_3:Bool),EqIs
 Try.prog 24 (agg (Array.mk [v,v_1,v_2,v_3])) (agg (Array.mk [v_4,v_5,v_6,v_7])) b_3/\[bool b_3]=[bool b]) ([bool false]=[bool b])) ([bool false]=[bool b])/\br b (∃(n':Nat),n' < n_1/\I [int i64
 (IntKind.wrap i64 (n+(1:Int)))] [] [] m' n') (∃(m'':Mem),Mem.le m m''/\Mem.le m'' m'/\R (int i64 n) m'' [])
theorem ZhK(p0a:Option Addr)(p0n p0c:Nat)(p1a:Option Addr)(p1n p1c:Nat)(m:Mem)(R:RT)(h:Zer p0a p0n p0c p1a p1n p1c m R):CX Try.prog 98 #[.slice p0a p0n p0c,.slice p1a p1n p1c] m [] R:=
 Zaf (E:=Ziu) ZaH mix Try.func98 [.v (.slice p0a p0n p0c),.v (.slice p1a p1n p1c)] [] (by kernel_rfl) (Eq.mp (by kernel_rfl) h)
noncomputable def ZlW:Env:={ EB with
 frzNew:=[1] }
def ZfI(aD aE aF aG aJ aH aI:Int)(aB:Option Addr)(aA aC:Nat)(m:Mem)(R:RT):Prop:=
 ∀(b:Nat)(m':Mem),Mem.le m m'->Mem.reads m' b 0 [int u8 aD,int u64 aE,int u64 aF,int u64 aG,int u64 aJ,int i64 aH,int i64 aI,slice aB aA aC]->∃(m'':Mem),Mem.le m m''/\Mem.le
 m'' m'/\R (func (Fn.func 96) (Array.mk []) (Array.mk [Value.pointer (some (Addr.mk b 0 none))])) m'' []
theorem ZjV(aD aE aF aG aJ aH aI:Int)(aB:Option Addr)(aA aC:Nat)(m:Mem)(R:RT)(h:ZfI aD aE aF aG aJ aH aI aB aA aC m R):CX Try.prog 72 #[.agg #[.int .u8 aD,.int .u64 aE,.int .u64 aF,.int .u64 aG,.int .u64 aJ,.int .i64 aH,.int .i64 aI,.slice aB aA aC]] m [] R:=
 Zaf (E:=ZlW) ZaH mix Try.func72 [.v (.agg #[.int .u8 aD,.int .u64 aE,.int .u64 aF,.int .u64 aG,.int .u64 aJ,.int .i64 aH,.int .i64 aI,.slice aB aA aC])] [] (by kernel_rfl) (Eq.mp (by kernel_rfl) h)
noncomputable def Ziv:Env:={ EB with
 loops:=(λi=>bif Nat.beq i 4 then⟨[(10,.agg [.int .u8,.int .u64,.int .u64,.int .u64,.int .u64,.int .i64,.int .i64,.slice])],[3],[],true⟩ else bif Nat.beq i 5 then⟨[(14,.int .i64)],[],[],true⟩ else bif Nat.beq i 9 then⟨[(6,.slice),(7,.int .i64)],[],[],true⟩ else⟨[],[],[],false⟩)
 frzNew:=[2] }
def Zes(p0g:Nat)(p0fi p0ca:List Value)(c0b c0o:Nat)(m:Mem)(xs:List (List Value)):Prop:=
 ∀(l b:Nat)(m':Mem),Mem.le m m'->Mem.reads m' b 0 [func (Fn.yield l) (Array.mk []) (Array.mk [])]->∀(ab:Nat),∃(v:Value),∃(ay:Value),∃(az:Value),∃(a0:Value),∃(a1:Value),∃(a2:Value),∃
 (a3:Value),∃(a4:Value),Mem.reads m' c0b c0o [v,ay,az,a0,a1,a2,a3,a4]/\∃(R:RT),True/\CX Try.prog 97 (Array.mk [agg (Array.mk [v,ay,az,a0,a1,a2,a3,a4])]) m' [] R/\Zau Shape.fn R/\∀(g:Nat)
 (fi ca:List Value) (ak:Mem),Mem.le m' ak->R (func (Fn.func g) (Array.mk fi) (Array.mk ca)) ak []->∃(aq:List (List Value)),IX Try.prog g fi ca ak aq/\(∀(x:List Value),x∈aq->Shape.fitsL [shT] x=true)
 /\ ∃(I:IT),I [int i64 0] [[int i64 0]] [] ak 0/\(∀(y n ad ae af ag ah ai:Int)(a:Option Addr)(aa c:Nat)(cs:List Value)(m':Mem)(av:Nat),Mem.le ak m'->List.get?Internal aq av=some [agg (Array.mk
 [int u8 n,int u64 ad,int u64 ae,int u64 af,int u64 ag,int i64 ah,int i64 ai,slice a aa c])]->I [int i64 y] [cs] [] m' av->∀(al:Nat),∃(ar:IT),(∃(n:Nat),ar [int i64 y,int i64 0] [] [] m' n)/\∀(y ac
 : Int) (am:Mem) (aw:Nat),Mem.le m' am->ar [int i64 y,int i64 ac] [] [] am aw->br (decide (ac < (↑aa:Int))) (∃(a5:Nat),∃(o:Nat),a=some (Addr.mk a5 o none)/\Zad ac aa/\∃(v:Value),∃(a6:
 Value),∃(a7:Value),∃(a8:Value),∃(a9:Value),∃(ba:Value),∃(bb:Value),∃(bc:Value),Mem.reads am a5 (o+Int.toNat ac*8) [v,a6,a7,a8,a9,ba,bb,bc]/\∃(R:RT),True/\CX Try.prog 53
 (Array.mk [agg (Array.mk [v,a6,a7,a8,a9,ba,bb,bc])]) am [] R/\Zau Shape.slice R/\∀(bd:Option Addr)(be bf:Nat)(m':Mem),Mem.le am m'->R (slice bd be bf) m' []->∃(I:IT),(∃(n:Nat),I [int i64 y,
 slice bd be bf,int i64 (IntKind.wrap i64 (ac+(2:Int)))] [] [] m' n)/\∀(y:Int)(ax:Option Addr)(bg ap:Nat)(aj:Int)(an:Mem)(bh:Nat),Mem.le m' an->I [int i64 y,slice ax bg ap,int i64 aj] [] [] an
 bh->br (decide (aj<=(↑aa:Int))) (∃(bi:Nat),∃(o:Nat),a=some (Addr.mk bi o none)/\Zad (IntKind.wrap i64 (aj - (1:Int))) aa/\∃(v:Value),∃(bj:Value),∃(bk:Value),∃(bl:Value),∃(bm:
 Value),∃(bn:Value),∃(bo:Value),∃(bp:Value),Mem.reads an bi (o+Int.toNat (IntKind.wrap i64 (aj - (1:Int)))*8) [v,bj,bk,bl,bm,bn,bo,bp]/\∃(R:RT),True/\CX Try.prog 53 (Array.mk [agg
 (Array.mk [v,bj,bk,bl,bm,bn,bo,bp])]) an [] R/\Zau Shape.slice R/\∀(bq:Option Addr)(bs bt:Nat)(m':Mem),Mem.le an m'->R (slice bq bs bt) m' []->∃(R:RT),True/\CX Try.prog 98 (Array.mk [slice ax
 bg ap,slice bq bs bt]) m' [] R/\Zau (Shape.int i64) R/\∀(ao:Int)(au:Mem),Mem.le m' au->R (int i64 ao) au []->((0:Int)<=ao/\ao<=(↑ap:Int))/\br ((↑(Int.toNat ao - 0):Int) == (0:Int)) ([some
 (Box.mk al [int u8 n,int u64 ad,int u64 ae,int u64 af,int u64 ag,int i64 ah,int i64 ai,slice a aa c] 27 8 false true),some (Box.mk ab cs 3 1 false true),some (Box.mk b [func (Fn.yield l) (Array.mk []) (Array.mk
 [])] 135 1 true true)]=[some (Box.mk al [int u8 n,int u64 ad,int u64 ae,int u64 af,int u64 ag,int i64 ah,int i64 ai,slice a aa c] 27 8 false true),some (Box.mk ab cs 3 1 false true),some (Box.mk b [func
 (Fn.yield l) (Array.mk []) (Array.mk [])] 135 1 true true)]/\∃(n':Nat),n' < aw/\ar [int i64 y,int i64 (IntKind.wrap i64 (ac+(1:Int)))] [] [] au n') (Eng.Zvl cs 0 λ(v:Value)=>chk (Nat.beq (List.length
 (Array.toList (Value.cells v))) 1&&true) (chk (Nat.ble 2 (List.length (Zav [int i64 0,int i64 0,int i64 0,int i64 0] 0 (Array.toList (Value.cells v))))) (chk (Nat.ble 3 (List.length (Zav (Zav [int i64 0,
 int i64 0,int i64 0,int i64 0] 0 (Array.toList (Value.cells v))) 1 [int i64 ac]))) (chk (Nat.ble 4 (List.length (Zav (Zav (Zav [int i64 0,int i64 0,int i64 0,int i64 0] 0 (Array.toList (Value.cells v))) 1
 [int i64 ac]) 2 [int i64 aj]))) ((l=l/\(0:Int)<=y/\List.get?Internal xs (Int.toNat y)=some [agg (Array.mk (Zav (Zav (Zav (Zav [int i64 0,int i64 0,int i64 0,int i64 0] 0 (Array.toList
 (Value.cells v))) 1 [int i64 ac]) 2 [int i64 aj]) 3 [int i64 (↑(Int.toNat ao - 0):Int)]))])/\([some (Box.mk al [int u8 n,int u64 ad,int u64 ae,int u64 af,int u64 ag,int i64 ah,int i64 ai,slice a aa c] 27 8
 false true),some (Box.mk ab cs 3 1 false true),some (Box.mk b [func (Fn.yield l) (Array.mk []) (Array.mk [])] 135 1 true true)]=[some (Box.mk al [int u8 n,int u64 ad,int u64 ae,int u64 af,int u64 ag,int i64 ah,
 int i64 ai,slice a aa c] 27 8 false true),some (Box.mk ab cs 3 1 false true),some (Box.mk b [func (Fn.yield l) (Array.mk []) (Array.mk [])] 135 1 true true)]/\∃(n':Nat),n' < bh/\I [int i64 (y+(1:Int)),
 slice (ZaM ax 0 ap 8) (Int.toNat ao - 0) (ap - 0),int i64 (IntKind.wrap i64 (aj+(1:Int)))] [] [] au n')/\[some (Box.mk ab [] 3 1 false true),some (Box.mk b [func (Fn.yield l) (Array.mk []) (Array.mk [])] 135 1
 true true)]=[some (Box.mk ab [] 3 1 false true),some (Box.mk b [func (Fn.yield l) (Array.mk []) (Array.mk [])] 135 1 true true)]/\((-1:Int)=(↑(List.length xs):Int)\/(-1:Int)=(-1:Int)))))))) ([some
 (Box.mk al [int u8 n,int u64 ad,int u64 ae,int u64 af,int u64 ag,int i64 ah,int i64 ai,slice a aa c] 27 8 false true),some (Box.mk ab cs 3 1 false true),some (Box.mk b [func (Fn.yield l) (Array.mk []) (Array.mk
 [])] 135 1 true true)]=[some (Box.mk al [int u8 n,int u64 ad,int u64 ae,int u64 af,int u64 ag,int i64 ah,int i64 ai,slice a aa c] 27 8 false true),some (Box.mk ab cs 3 1 false true),some (Box.mk b [func
 (Fn.yield l) (Array.mk []) (Array.mk [])] 135 1 true true)]/\∃(n':Nat),n' < aw/\ar [int i64 y,int i64 (IntKind.wrap i64 (ac+(1:Int)))] [] [] an n')) (Eng.Zvl cs 0 λ(v:Value)=>chk (ZaG i64 v &&
 decide (i64=i64)) ([some (Box.mk ab [] 3 1 false true),some (Box.mk b [func (Fn.yield l) (Array.mk []) (Array.mk [])] 135 1 true true)]=[some (Box.mk ab [] 3 1 false true),some (Box.mk b [func (Fn.yield l)
 (Array.mk []) (Array.mk [])] 135 1 true true)]/\I [int i64 y] [[int i64 (IntKind.wrap i64 (RowKit.intOf v+(1:Int)))]] [] am (av+1))))/\∀(y:Int)(cs:List Value)(m':Mem),Mem.le ak m'->I [int i64 y] [cs]
 [] m' (List.length aq)->y=(↑(List.length xs):Int)\/y=(-1:Int)
theorem ZhL(p0g:Nat)(p0fi p0ca:List Value)(c0b c0o:Nat)(m:Mem)(xs:List (List Value))(h:Zes p0g p0fi p0ca c0b c0o m xs):IX Try.prog 96 [] [.pointer (some ⟨c0b,c0o,none⟩)] m xs:=
 Zlx (E:=Ziv) ZaH mix Try.func96 [] [.pointer (some ⟨c0b,c0o,none⟩)] xs (by kernel_rfl) (Eq.mp (by kernel_rfl) h)
end Go.Proofs.Ytfgfahnakepegaa
set_option linter.unusedVariables false
namespace Go.Proofs.Ytfgfahnakepegaa
open Go Go.Eng Go.Proofs Go.RowKit
open Go.Value (int slice agg bool string tuple func)
open Go.IntKind (u8 u64 i64)
set_option maxRecDepth 100000
noncomputable def ZlX:Env:={ EB with
 frzNew:=[1] }
def ZfJ(aD aE aF aG aJ aH aI:Int)(aB:Option Addr)(aA aC:Nat)(m:Mem)(R:RT):Prop:=
 ∀(b:Nat)(m':Mem),Mem.le m m'->Mem.reads m' b 0 [int u8 aD,int u64 aE,int u64 aF,int u64 aG,int u64 aJ,int i64 aH,int i64 aI,slice aB aA aC]->∃(m'':Mem),Mem.le m m''/\Mem.le
 m'' m'/\R (func (Fn.func 112) (Array.mk []) (Array.mk [Value.pointer (some (Addr.mk b 0 none))])) m'' []
theorem ZjW(aD aE aF aG aJ aH aI:Int)(aB:Option Addr)(aA aC:Nat)(m:Mem)(R:RT)(h:ZfJ aD aE aF aG aJ aH aI aB aA aC m R):CX Try.prog 97 #[.agg #[.int .u8 aD,.int .u64 aE,.int .u64 aF,.int .u64 aG,.int .u64 aJ,.int .i64 aH,.int .i64 aI,.slice aB aA aC]] m [] R:=
 Zaf (E:=ZlX) ZaH mix Try.func97 [.v (.agg #[.int .u8 aD,.int .u64 aE,.int .u64 aF,.int .u64 aG,.int .u64 aJ,.int .i64 aH,.int .i64 aI,.slice aB aA aC])] [] (by kernel_rfl) (Eq.mp (by kernel_rfl) h)
noncomputable def Ziw:Env:={ EB with
 frzNew:=[2]
 frzAt:=(λi=>bif Nat.beq i 7 then[3]else[])
 eff:=(λi=>bif Nat.beq i 7 then true else false) }
def Zet(p0g:Nat)(p0fi p0ca:List Value)(c0b c0o:Nat)(m:Mem)(xs:List (List Value)):Prop:=
 ∀(l b:Nat)(m':Mem),Mem.le m m'->Mem.reads m' b 0 [func (Fn.yield l) (Array.mk []) (Array.mk [])]->∀(b_1:Nat),∃(v:Value),∃(v_1:Value),∃(v_2:Value),∃(v_3:Value),∃(v_4:Value),∃(v_5:
 Value),∃(v_6:Value),∃(v_7:Value),Mem.reads m' c0b c0o [v,v_1,v_2,v_3,v_4,v_5,v_6,v_7]/\∀(m'_1:Mem),Mem.le m' m'_1->Mem.reads m'_1 b_1 0 [func (Fn.func 113) (Array.mk []) (Array.mk [Value.pointer
 (some (Addr.mk b 0 none)),Value.pointer (some (Addr.mk b_1 0 none))])]->∃(l_1:Nat),∃(xs_1:List (List Value)),∃(go:Value->Prop),∃(stop:Value->Prop),CY Try.prog 113 [agg (Array.mk [v,v_1,v_2,v_3,
 v_4,v_5,v_6,v_7]),Value.pointer (some (Addr.mk b 0 none)),Value.pointer (some (Addr.mk b_1 0 none))] m'_1 l_1 xs_1 go stop/\(∀(j:Nat)(v:List Value),List.get?Internal xs_1 j=some v->l_1=l/\(0:Int) <=
 (0:Int)+(↑j:Int)/\List.get?Internal xs (Int.toNat ((0:Int)+(↑j:Int)))=some v)/\(∀(v:Value),go v\/stop v->Shape.fits Shape.bool v=true)/\∀(b:Bool),(go (bool b)->(0:Int)+(↑(List.length
 xs_1):Int)=(↑(List.length xs):Int)\/(0:Int)+(↑(List.length xs_1):Int)=(-1:Int))/\(stop (bool b)->(-1:Int)=(↑(List.length xs):Int)\/(-1:Int)=(-1:Int))
theorem ZhM(p0g:Nat)(p0fi p0ca:List Value)(c0b c0o:Nat)(m:Mem)(xs:List (List Value))(h:Zet p0g p0fi p0ca c0b c0o m xs):IX Try.prog 112 [] [.pointer (some ⟨c0b,c0o,none⟩)] m xs:=
 Zlx (E:=Ziw) ZaH mix Try.func112 [] [.pointer (some ⟨c0b,c0o,none⟩)] xs (by kernel_rfl) (Eq.mp (by kernel_rfl) h)
noncomputable def Zgu:Env:={ EB with
 frzNew:=[3]
 eff:=(λi=>bif Nat.beq i 17 then true else false)
 ldF:=(λi=>bif Nat.beq i 9 then some (some true)else none) }
def ZdD(aD aE aF aG aJ aH aI:Int)(aB:Option Addr)(aA aC c0b c0o c1b c1o:Nat)(m:Mem)(l:Nat)(xs:List (List Value))(go stop:Value->Prop):Prop:=
 ∀(b:Nat)(m':Mem),Mem.le m m'->Mem.reads m' b 0 [int u8 aD,int u64 aE,int u64 aF,int u64 aG,int u64 aJ,int i64 aH,int i64 aI,slice aB aA aC]->br (aD == (4:Int)) (∃(v:Value),
 m' c0b c0o=some v/\∃(l_1:Nat),v=func (Fn.yield l_1) (Array.mk []) (Array.mk [])/\(l_1=l/\(0:Int)<=(0:Int)/\List.get?Internal xs (Int.toNat (0:Int))=some [agg (Array.mk [int u8 aD,int u64 aE,
 int u64 aF,int u64 aG,int u64 aJ,int i64 aH,int i64 aI,slice aB aA aC])])/\(∃(l_2:Nat),∃(xs_1:List (List Value)),∃(go_1:Value->Prop),∃(stop_1:Value->Prop),CY Try.prog 110
 [slice aB aA aC,func (Fn.func 114) (Array.mk []) (Array.mk [Value.pointer (some (Addr.mk c1b c1o none))])] m' l_2 xs_1 go_1 stop_1/\(∀(j:Nat)(v:List Value),List.get?Internal xs_1 j=some v->l_2=l/\
 (0:Int)<=(0:Int)+(1:Int)+(↑j:Int)/\List.get?Internal xs (Int.toNat ((0:Int)+(1:Int)+(↑j:Int)))=some v)/\(∀(v:Value),go_1 v\/stop_1 v->Shape.fits Shape.bool v=true)/\∀(b:Bool),
 (go_1 (bool b)->(0:Int)+(1:Int)+(↑(List.length xs_1):Int)=(↑(List.length xs):Int)/\go (bool !b)\/(0:Int)+(1:Int)+(↑(List.length xs_1):Int)=(-1:Int)/\stop (bool !b))/\(stop_1 (bool b)->
 (-1:Int)=(↑(List.length xs):Int)/\go (bool !b)\/(-1:Int)=(-1:Int)/\stop (bool !b)))/\((-1:Int)=(↑(List.length xs):Int)/\go (bool false)\/(-1:Int)=(-1:Int)/\stop (bool false))) (∃(l_1:
 Nat),∃(xs_1:List (List Value)),∃(go_1:Value->Prop),∃(stop_1:Value->Prop),CY Try.prog 110 [slice aB aA aC,func (Fn.func 114) (Array.mk []) (Array.mk [Value.pointer (some (Addr.mk c1b c1o
 none))])] m' l_1 xs_1 go_1 stop_1/\(∀(j:Nat)(v:List Value),List.get?Internal xs_1 j=some v->l_1=l/\(0:Int)<=(0:Int)+(↑j:Int)/\List.get?Internal xs (Int.toNat ((0:Int)+(↑j:Int)))=some v)/\
 (∀(v:Value),go_1 v\/stop_1 v->Shape.fits Shape.bool v=true)/\∀(b:Bool),(go_1 (bool b)->(0:Int)+(↑(List.length xs_1):Int)=(↑(List.length xs):Int)/\go (bool !b)\/(0:Int)+(↑(List.length xs_1)
 : Int)=(-1:Int)/\stop (bool !b))/\(stop_1 (bool b)->(-1:Int)=(↑(List.length xs):Int)/\go (bool !b)\/(-1:Int)=(-1:Int)/\stop (bool !b)))
theorem Zfu(aD aE aF aG aJ aH aI:Int)(aB:Option Addr)(aA aC c0b c0o c1b c1o:Nat)(m:Mem)(l:Nat)(xs:List (List Value))(go stop:Value->Prop)(h:ZdD aD aE aF aG aJ aH aI aB aA aC c0b c0o c1b c1o m l xs go stop):CY Try.prog 113 [.agg #[.int .u8 aD,.int .u64 aE,.int .u64 aF,.int .u64 aG,.int .u64 aJ,.int .i64 aH,.int .i64 aI,.slice aB aA aC],.pointer (some ⟨c0b,c0o,none⟩),.pointer (some ⟨c1b,c1o,none⟩)] m l xs go stop:=
 Zij (E:=Zgu) ZaH mix Try.func113 [.agg #[.int .u8 aD,.int .u64 aE,.int .u64 aF,.int .u64 aG,.int .u64 aJ,.int .i64 aH,.int .i64 aI,.slice aB aA aC],.pointer (some ⟨c0b,c0o,none⟩),.pointer (some ⟨c1b,c1o,none⟩)] l xs go stop (by kernel_rfl) (Eq.mp (by kernel_rfl) h)
noncomputable def Zfa:Env:={ EB with
 frzNew:=[2]
 eff:=(λi=>bif Nat.beq i 6 then true else false)
 ldF:=(λi=>bif Nat.beq i 4 then some (some false)else none) }
def ZcX(aD aE aF aG aJ aH aI:Int)(aB:Option Addr)(aA aC c0b c0o:Nat)(m:Mem)(l:Nat)(xs:List (List Value))(go stop:Value->Prop):Prop:=
 ∀(b:Nat)(m':Mem),Mem.le m m'->Mem.reads m' b 0 [int u8 aD,int u64 aE,int u64 aF,int u64 aG,int u64 aJ,int i64 aH,int i64 aI,slice aB aA aC]->∃(v:Value),m' c0b c0o=some v/\∃
 (g:Nat),∃(fi:List Value),∃(ca:List Value),v=func (Fn.func g) (Array.mk fi) (Array.mk ca)/\∃(l_1:Nat),∃(xs_1:List (List Value)),∃(go_1:Value->Prop),∃(stop_1:Value->Prop),CY Try.prog g
 (List.append (List.append fi [agg (Array.mk [int u8 aD,int u64 aE,int u64 aF,int u64 aG,int u64 aJ,int i64 aH,int i64 aI,slice aB aA aC])]) ca) m' l_1 xs_1 go_1 stop_1/\(∀(j:Nat) (v:
 List Value),List.get?Internal xs_1 j=some v->l_1=l/\(0:Int)<=(0:Int)+(↑j:Int)/\List.get?Internal xs (Int.toNat ((0:Int)+(↑j:Int)))=some v)/\(∀(v:Value),go_1 v\/stop_1 v->Shape.fits
 Shape.bool v=true)/\∀(b:Bool),(go_1 (bool b)->(0:Int)+(↑(List.length xs_1):Int)=(↑(List.length xs):Int)/\go (bool !b)\/(0:Int)+(↑(List.length xs_1):Int)=(-1:Int)/\stop (bool !b))/\(stop_1
 (bool b)->(-1:Int)=(↑(List.length xs):Int)/\go (bool !b)\/(-1:Int)=(-1:Int)/\stop (bool !b))
theorem ZeC(aD aE aF aG aJ aH aI:Int)(aB:Option Addr)(aA aC c0b c0o:Nat)(m:Mem)(l:Nat)(xs:List (List Value))(go stop:Value->Prop)(h:ZcX aD aE aF aG aJ aH aI aB aA aC c0b c0o m l xs go stop):CY Try.prog 114 [.agg #[.int .u8 aD,.int .u64 aE,.int .u64 aF,.int .u64 aG,.int .u64 aJ,.int .i64 aH,.int .i64 aI,.slice aB aA aC],.pointer (some ⟨c0b,c0o,none⟩)] m l xs go stop:=
 Zij (E:=Zfa) ZaH mix Try.func114 [.agg #[.int .u8 aD,.int .u64 aE,.int .u64 aF,.int .u64 aG,.int .u64 aJ,.int .i64 aH,.int .i64 aI,.slice aB aA aC],.pointer (some ⟨c0b,c0o,none⟩)] l xs go stop (by kernel_rfl) (Eq.mp (by kernel_rfl) h)
noncomputable def Zbo:Env:={ EB with
 eff:=(λi=>bif Nat.beq i 7 then true else false) }
def ZaU(p0a:Option Addr)(p0n p0c p1g:Nat)(p1fi p1ca:List Value)(m:Mem)(l:Nat)(xs:List (List Value))(go stop:Value->Prop):Prop:=
 ∃(l_1:Nat),∃(xs_1:List (List Value)),∃(go_1:Value->Prop),∃(stop_1:Value->Prop),CY Try.prog 87 [slice p0a p0n p0c,func (Fn.func p1g) (Array.mk p1fi) (Array.mk p1ca)] m l_1 xs_1 go_1 stop_1/\(∀(j:
 Nat) (v:List Value),List.get?Internal xs_1 j=some v->l_1=l/\(0:Int)<=(0:Int)+(↑j:Int)/\List.get?Internal xs (Int.toNat ((0:Int)+(↑j:Int)))=some v)/\(∀(v:Value),go_1 v\/stop_1 v->
 Shape.fits (Shape.int i64) v=true)/\∀(n:Int),(go_1 (int i64 n)->(0:Int)+(↑(List.length xs_1):Int)=(↑(List.length xs):Int)/\go (bool (decide (n ≥ (0:Int))))\/(0:Int)+(↑(List.length xs_1):Int)
 = (-1:Int)/\stop (bool (decide (n ≥ (0:Int)))))/\(stop_1 (int i64 n)->(-1:Int)=(↑(List.length xs):Int)/\go (bool (decide (n ≥ (0:Int))))\/(-1:Int)=(-1:Int)/\stop (bool (decide (n ≥ (0:Int)))))
theorem Zbj(p0a:Option Addr)(p0n p0c p1g:Nat)(p1fi p1ca:List Value)(m:Mem)(l:Nat)(xs:List (List Value))(go stop:Value->Prop)(h:ZaU p0a p0n p0c p1g p1fi p1ca m l xs go stop):CY Try.prog 110 [.slice p0a p0n p0c,.func (.func p1g) p1fi.toArray p1ca.toArray] m l xs go stop:=
 Zij (E:=Zbo) ZaH mix Try.func110 [.slice p0a p0n p0c,.func (.func p1g) p1fi.toArray p1ca.toArray] l xs go stop (by kernel_rfl) (Eq.mp (by kernel_rfl) h)
noncomputable def ZbD:Env:={ EB with
 loops:=(λi=>bif Nat.beq i 2 then⟨[(8,.int .i64)],[],[],true⟩ else⟨[],[],[],false⟩)
 eff:=(λi=>bif Nat.beq i 16 then true else false) }
def Za3(p0a:Option Addr)(p0n p0c p1g:Nat)(p1fi p1ca:List Value)(m:Mem)(l:Nat)(xs:List (List Value))(go stop:Value->Prop):Prop:=
 ∃(I:IT),(∃(n:Nat),I [int i64 0,int i64 0] [] [] m n)/\∀(y n:Int)(m':Mem)(n_1:Nat),Mem.le m m'->I [int i64 y,int i64 n] [] [] m' n_1->br (decide (n < (↑p0n:Int))) (∃(b:Nat),∃(o:Nat),p0a =
 some (Addr.mk b o none)/\Zad n p0n/\∃(v:Value),∃(v_1:Value),∃(v_2:Value),∃(v_3:Value),∃(v_4:Value),∃(v_5:Value),∃(v_6:Value),∃(v_7:Value),Mem.reads m' b (o+Int.toNat n*8) [v,
 v_1,v_2,v_3,v_4,v_5,v_6,v_7]/\∃(l_1:Nat),∃(xs_1:List (List Value)),∃(go_1:Value->Prop),∃(stop_1:Value->Prop),CY Try.prog p1g (List.append (List.append p1fi [agg (Array.mk [v,v_1,v_2,v_3,v_4,
 v_5,v_6,v_7])]) p1ca) m' l_1 xs_1 go_1 stop_1/\(∀(j:Nat)(v:List Value),List.get?Internal xs_1 j=some v->l_1=l/\(0:Int)<=y+(↑j:Int)/\List.get?Internal xs (Int.toNat (y+(↑j:Int)))=some v)/\
 (∀(v:Value),go_1 v\/stop_1 v->Shape.fits Shape.bool v=true)/\∀(b:Bool),(go_1 (bool b)->br b (y+(↑(List.length xs_1):Int)=(↑(List.length xs):Int)/\go (int i64 n)\/y+(↑(List.length xs_1):Int) =
 (-1:Int)/\stop (int i64 n)) (∃(n':Nat),n' < n_1/\I [int i64 (y+(↑(List.length xs_1):Int)),int i64 (IntKind.wrap i64 (n+(1:Int)))] [] [] m' n'))/\(stop_1 (bool b)->br b ((-1:Int)=(↑(List.length xs)
 : Int)/\go (int i64 n)\/(-1:Int)=(-1:Int)/\stop (int i64 n)) (∃(n':Nat),n' < n_1/\I [int i64 (-1:Int),int i64 (IntKind.wrap i64 (n+(1:Int)))] [] [] m' n'))) (y=(↑(List.length xs):Int)/\go (int
 i64 (-1:Int))\/y=(-1:Int)/\stop (int i64 (-1:Int)))
theorem Zbw(p0a:Option Addr)(p0n p0c p1g:Nat)(p1fi p1ca:List Value)(m:Mem)(l:Nat)(xs:List (List Value))(go stop:Value->Prop)(h:Za3 p0a p0n p0c p1g p1fi p1ca m l xs go stop):CY Try.prog 87 [.slice p0a p0n p0c,.func (.func p1g) p1fi.toArray p1ca.toArray] m l xs go stop:=
 Zij (E:=ZbD) ZaH mix Try.func87 [.slice p0a p0n p0c,.func (.func p1g) p1fi.toArray p1ca.toArray] l xs go stop (by kernel_rfl) (Eq.mp (by kernel_rfl) h)
end Go.Proofs.Ytfgfahnakepegaa
set_option linter.unusedVariables false
namespace Go.Proofs.Ytfgfahnakepegaa
open Go Go.Eng Go.Proofs Go.RowKit
open Go.Value (int slice agg bool string tuple func)
open Go.IntKind (u8 u64 i64)
set_option maxRecDepth 100000
noncomputable def ZrS:Env:={ EB with
 frzNew:=[1] }
def ZkV(aD aE aF aG aJ aH aI:Int)(aB:Option Addr)(aA aC:Nat)(m:Mem)(R:RT):Prop:=
 ∀(b:Nat)(m':Mem),Mem.le m m'->Mem.reads m' b 0 [int u8 aD,int u64 aE,int u64 aF,int u64 aG,int u64 aJ,int i64 aH,int i64 aI,slice aB aA aC]->∃(m'':Mem),Mem.le m m''/\Mem.le
 m'' m'/\R (func (Fn.func 89) (Array.mk []) (Array.mk [Value.pointer (some (Addr.mk b 0 none))])) m'' []
theorem Zqp(aD aE aF aG aJ aH aI:Int)(aB:Option Addr)(aA aC:Nat)(m:Mem)(R:RT)(h:ZkV aD aE aF aG aJ aH aI aB aA aC m R):CX Try.prog 55 #[.agg #[.int .u8 aD,.int .u64 aE,.int .u64 aF,.int .u64 aG,.int .u64 aJ,.int .i64 aH,.int .i64 aI,.slice aB aA aC]] m [] R:=
 Zaf (E:=ZrS) ZaH mix Try.func55 [.v (.agg #[.int .u8 aD,.int .u64 aE,.int .u64 aF,.int .u64 aG,.int .u64 aJ,.int .i64 aH,.int .i64 aI,.slice aB aA aC])] [] (by kernel_rfl) (Eq.mp (by kernel_rfl) h)
noncomputable def Zof:Env:={ EB with
 loops:=(λi=>bif Nat.beq i 3 then⟨[(13,.int .i64)],[],[],true⟩ else bif Nat.beq i 7 then⟨[(19,.agg [.int .u8,.int .u64,.int .u64,.int .u64,.int .u64,.int .i64,.int .i64,.slice])],[],[],true⟩ else⟨[],[],[],false⟩)
 frzNew:=[2] }
def Zg9(p0g:Nat)(p0fi p0ca:List Value)(c0b c0o:Nat)(m:Mem)(xs:List (List Value)):Prop:=
 ∀(l b:Nat)(m':Mem),Mem.le m m'->Mem.reads m' b 0 [func (Fn.yield l) (Array.mk []) (Array.mk [])]->∃(v:Value),∃(an:Value),∃(ao:Value),∃(ap:Value),∃(aq:Value),∃(ar:Value),∃(au:Value),∃
 (av:Value),Mem.reads m' c0b c0o [v,an,ao,ap,aq,ar,au,av]/\(l=l/\(0:Int)<=(0:Int)/\List.get?Internal xs (Int.toNat (0:Int))=some [agg (Array.mk [v,an,ao,ap,aq,ar,au,av])])/\(∃(v:Value),
 m' c0b (c0o+7)=some v/\chk (Zcn v) (∃(I:IT),(∃(n:Nat),I [int i64 ((0:Int)+(1:Int)),int i64 0] [] [] m' n)/\∀(y n:Int)(ai:Mem)(aw:Nat),Mem.le m' ai->I [int i64 y,int i64 n] [] [] ai aw->
 br (decide (n < (↑(slN v):Int))) (chk (Zcn v) (∃(ax:Nat),∃(o:Nat),slA v=some (Addr.mk ax o none)/\Zad n (slN v)/\∃(v:Value),∃(aa:Value),∃(ab:Value),∃(ac:Value),∃(ad:Value),∃(ae:
 Value),∃(af:Value),∃(ag:Value),Mem.reads ai ax (o+Int.toNat n*8) [v,aa,ab,ac,ad,ae,af,ag]/\∀(aj:Nat),chk (Value.oneCell' v&&(Value.oneCell' aa&&(Value.oneCell' ab&&(Value.oneCell' ac &&
 (Value.oneCell' ad&&(Value.oneCell' ae&&(Value.oneCell' af&&(Value.oneCell' ag&&true)))))))) (∃(R:RT),True/\CX Try.prog 55 (Array.mk [agg (Array.mk [v,aa,ab,ac,ad,ae,af,ag])]) ai [] R/\Zau Shape.fn
 R/\∀(g:Nat)(fi ca:List Value)(m':Mem),Mem.le ai m'->R (func (Fn.func g) (Array.mk fi) (Array.mk ca)) m' []->∃(ak:List (List Value)),IX Try.prog g fi ca m' ak/\(∀(x:List Value),x∈ak->Shape.fitsL
 [shT] x=true)/\∃(al:IT),al [int i64 y] [] [] m' 0/\(∀(y n ay az a0 a1 a2 a3:Int)(a:Option Addr)(a4 c:Nat)(ah:Mem)(am:Nat),Mem.le m' ah->List.get?Internal ak am=some [agg (Array.mk [int u8 n,
 int u64 ay,int u64 az,int u64 a0,int u64 a1,int i64 a2,int i64 a3,slice a a4 c])]->al [int i64 y] [] [] ah am->∀(a5:Nat),(l=l/\(0:Int)<=y/\List.get?Internal xs (Int.toNat y)=some [agg (Array.mk [int
 u8 n,int u64 ay,int u64 az,int u64 a0,int u64 a1,int i64 a2,int i64 a3,slice a a4 c])])/\([some (Box.mk aj [v,aa,ab,ac,ad,ae,af,ag] 27 8 false true),some (Box.mk b [func (Fn.yield l) (Array.mk [])
 (Array.mk [])] 30 1 true true)]=[some (Box.mk aj [v,aa,ab,ac,ad,ae,af,ag] 27 8 false true),some (Box.mk b [func (Fn.yield l) (Array.mk []) (Array.mk [])] 30 1 true true)]/\al [int i64 (y+(1:Int))] [] []
 ah (am+1))/\[some (Box.mk aj [v,aa,ab,ac,ad,ae,af,ag] 27 8 false true),some (Box.mk b [func (Fn.yield l) (Array.mk []) (Array.mk [])] 30 1 true true)]=[some (Box.mk aj [v,aa,ab,ac,ad,ae,af,ag] 27 8
 false true),some (Box.mk b [func (Fn.yield l) (Array.mk []) (Array.mk [])] 30 1 true true)]/\((-1:Int)=(↑(List.length xs):Int)\/(-1:Int)=(-1:Int)))/\∀(y:Int)(ah:Mem),Mem.le m' ah->al [int i64 y]
 [] [] ah (List.length ak)->[some (Box.mk b [func (Fn.yield l) (Array.mk []) (Array.mk [])] 30 1 true true)]=[some (Box.mk b [func (Fn.yield l) (Array.mk []) (Array.mk [])] 30 1 true true)]/\∃(n':Nat),n' < aw/\I
 [int i64 y,int i64 (IntKind.wrap i64 (n+(1:Int)))] [] [] ah n'))) (y=(↑(List.length xs):Int)\/y=(-1:Int))))/\((-1:Int)=(↑(List.length xs):Int)\/(-1:Int)=(-1:Int))
theorem ZlY(p0g:Nat)(p0fi p0ca:List Value)(c0b c0o:Nat)(m:Mem)(xs:List (List Value))(h:Zg9 p0g p0fi p0ca c0b c0o m xs):IX Try.prog 89 [] [.pointer (some ⟨c0b,c0o,none⟩)] m xs:=
 Zlx (E:=Zof) ZaH mix Try.func89 [] [.pointer (some ⟨c0b,c0o,none⟩)] xs (by kernel_rfl) (Eq.mp (by kernel_rfl) h)
noncomputable def ZrT:Env:={ EB with
 loops:=(λi=>bif Nat.beq i 3 then⟨[(6,.agg [.int .u8,.int .u64,.int .u64,.int .u64,.int .u64,.int .i64,.int .i64,.slice])],[3],[],false⟩ else⟨[],[],[],false⟩)
 frzNew:=[1] }
def ZkW(aD aE aF aG aJ aH aI:Int)(aB:Option Addr)(aA aC:Nat)(m:Mem)(R:RT):Prop:=
 ∀(b:Nat)(m':Mem),Mem.le m m'->Mem.reads m' b 0 [int u8 aD,int u64 aE,int u64 aF,int u64 aG,int u64 aJ,int i64 aH,int i64 aI,slice aB aA aC]->∀(b_1:Nat),∃(R_1:RT),True/\CX
 Try.prog 55 (Array.mk [agg (Array.mk [int u8 aD,int u64 aE,int u64 aF,int u64 aG,int u64 aJ,int i64 aH,int i64 aI,slice aB aA aC])]) m' [] R_1/\Zau Shape.fn R_1/\∀(g:Nat) (fi ca:
 List Value) (m'_1:Mem),Mem.le m' m'_1->R_1 (func (Fn.func g) (Array.mk fi) (Array.mk ca)) m'_1 []->∃(xs:List (List Value)),IX Try.prog g fi ca m'_1 xs/\(∀(x:List Value),x∈xs->Shape.fitsL [shT] x=true)
 /\ ∃(I:IT),I [] [[int i64 0]] [] m'_1 0/\(∀(n n_1 n_2 n_3 n_4 n_5 n_6:Int)(a:Option Addr)(n_7 c:Nat)(cs:List Value)(m':Mem)(n_8:Nat),Mem.le m'_1 m'->List.get?Internal xs n_8=some [agg (Array.mk
 [int u8 n,int u64 n_1,int u64 n_2,int u64 n_3,int u64 n_4,int i64 n_5,int i64 n_6,slice a n_7 c])]->I [] [cs] [] m' n_8->Eng.Zvl cs 0 λ(v:Value)=>chk (ZaG i64 v&&decide (i64=i64)) (br (decide
 (IntKind.wrap i64 (RowKit.intOf v+(1:Int)) > (10000:Int))) ([some (Box.mk b_1 [] 3 1 false true),some (Box.mk b [int u8 aD,int u64 aE,int u64 aF,int u64 aG,int u64 aJ,int i64 aH,int i64 aI,
 slice aB aA aC] 27 8 true true)]=[some (Box.mk b_1 [] 3 1 false true),some (Box.mk b [int u8 aD,int u64 aE,int u64 aF,int u64 aG,int u64 aJ,int i64 aH,int i64 aI,slice aB aA aC]
 27 8 true true)]/\∃(m'':Mem),Mem.le m m''/\Mem.le m'' m'/\R (bool (decide (IntKind.wrap i64 (RowKit.intOf v+(1:Int))<=(10000:Int)))) m'' []) ([some (Box.mk b_1 [] 3 1 false true),some (Box.mk b [int u8
 aD,int u64 aE,int u64 aF,int u64 aG,int u64 aJ,int i64 aH,int i64 aI,slice aB aA aC] 27 8 true true)]=[some (Box.mk b_1 [] 3 1 false true),some (Box.mk b [int u8 aD,int u64 aE,int
 u64 aF,int u64 aG,int u64 aJ,int i64 aH,int i64 aI,slice aB aA aC] 27 8 true true)]/\I [] [[int i64 (IntKind.wrap i64 (RowKit.intOf v+(1:Int)))]] [] m' (n_8+1))))/\∀(cs:List Value) (m'
 : Mem),Mem.le m'_1 m'->I [] [cs] [] m' (List.length xs)->Eng.Zvl cs 0 λ(v:Value)=>chk (ZaG i64 v&&decide (i64=i64)) (∃(m'':Mem),Mem.le m m''/\Mem.le m'' m'/\R (bool (decide (RowKit.intOf v <=
 (10000:Int)))) m'' [])
theorem Zqq(aD aE aF aG aJ aH aI:Int)(aB:Option Addr)(aA aC:Nat)(m:Mem)(R:RT)(h:ZkW aD aE aF aG aJ aH aI aB aA aC m R):CX Try.prog 54 #[.agg #[.int .u8 aD,.int .u64 aE,.int .u64 aF,.int .u64 aG,.int .u64 aJ,.int .i64 aH,.int .i64 aI,.slice aB aA aC]] m [] R:=
 Zaf (E:=ZrT) ZaH mix Try.func54 [.v (.agg #[.int .u8 aD,.int .u64 aE,.int .u64 aF,.int .u64 aG,.int .u64 aJ,.int .i64 aH,.int .i64 aI,.slice aB aA aC])] [] (by kernel_rfl) (Eq.mp (by kernel_rfl) h)
noncomputable def Zqr:Env:={ EB with
 joins:=(λi=>bif Nat.beq i 1 then some [(18,.bool)]else bif Nat.beq i 3 then some [(4,.bool)]else none) }
def Zix(p0 p1:Int)(m:Mem)(R:RT):Prop:=
 ∃(b:Bool),br (decide (p0 < (0:Int))) ([bool true]=[bool b]) (br (decide (p0 > (16:Int))) ([bool true]=[bool b]) (br (p0 == (1:Int)) ([bool (p1 == (1:Int))]=[bool b]) ([bool false]=[bool b])))/\br b
 (∃(m'':Mem),Mem.le m m''/\Mem.le m'' m/\R (bool false) m'' []) (∃(b:Bool),br (p1 == (-1:Int)) ([bool true]=[bool b]) (br (decide (p1 ≥ (1:Int))) (br (decide (p1<=(16:Int))) ([bool (decide (p1 ≥ p0))]
 = [bool b]) ([bool false]=[bool b])) ([bool false]=[bool b]))/\∃(m'':Mem),Mem.le m m''/\Mem.le m'' m/\R (bool b) m'' [])
theorem Zog(p0 p1:Int)(m:Mem)(R:RT)(h:Zix p0 p1 m R):CX Try.prog 91 #[.int .i64 p0,.int .i64 p1] m [] R:=
 Zaf (E:=Zqr) ZaH mix Try.func91 [.v (.int .i64 p0),.v (.int .i64 p1)] [] (by kernel_rfl) (Eq.mp (by kernel_rfl) h)
noncomputable def ZrU:Env:={ EB with
 frzNew:=[2] }
def ZkX(aD aE aF aG aJ aH aI:Int)(aB:Option Addr)(aA aC c0b c0o:Nat)(m:Mem)(R:RT):Prop:=
 ∀(b:Nat)(m':Mem),Mem.le m m'->Mem.reads m' b 0 [int u8 aD,int u64 aE,int u64 aF,int u64 aG,int u64 aJ,int i64 aH,int i64 aI,slice aB aA aC]->∃(v:Value),m' c0b c0o=some v/\
 chk (ZaG u8 v) (∃(m'':Mem),Mem.le m m''/\Mem.le m'' m'/\R (bool (aD == RowKit.intOf v)) m'' [])
theorem Zqs(aD aE aF aG aJ aH aI:Int)(aB:Option Addr)(aA aC c0b c0o:Nat)(m:Mem)(R:RT)(h:ZkX aD aE aF aG aJ aH aI aB aA aC c0b c0o m R):CX Try.prog 111 #[.agg #[.int .u8 aD,.int .u64 aE,.int .u64 aF,.int .u64 aG,.int .u64 aJ,.int .i64 aH,.int .i64 aI,.slice aB aA aC],.pointer (some ⟨c0b,c0o,none⟩)] m [] R:=
 Zaf (E:=ZrU) ZaH mix Try.func111 [.v (.agg #[.int .u8 aD,.int .u64 aE,.int .u64 aF,.int .u64 aG,.int .u64 aJ,.int .i64 aH,.int .i64 aI,.slice aB aA aC]),.v (.pointer (some ⟨c0b,c0o,none⟩))] [] (by kernel_rfl) (Eq.mp (by kernel_rfl) h)
noncomputable def ZbX:Env:={ EB with
 loops:=(λi=>bif Nat.beq i 2 then⟨[(8,.int .i64)],[],[],false⟩ else⟨[],[],[],false⟩) }
def Za8(p0a:Option Addr)(p0n p0c p1g:Nat)(p1fi p1ca:List Value)(m:Mem)(R:RT):Prop:=
 ∃(I:IT),(∃(n:Nat),I [int i64 0] [] [] m n)/\∀(n:Int)(m':Mem)(n_1:Nat),Mem.le m m'->I [int i64 n] [] [] m' n_1->br (decide (n < (↑p0n:Int))) (∃(b:Nat),∃(o:Nat),p0a=some (Addr.mk b o none)
 /\ Zad n p0n/\∃(v:Value),∃(v_1:Value),∃(v_2:Value),∃(v_3:Value),∃(v_4:Value),∃(v_5:Value),∃(v_6:Value),∃(v_7:Value),Mem.reads m' b (o+Int.toNat n*8) [v,v_1,v_2,v_3,v_4,v_5,
 v_6,v_7]/\∃(R_1:RT),True/\CX Try.prog p1g (Array.mk (List.append (List.append p1fi [agg (Array.mk [v,v_1,v_2,v_3,v_4,v_5,v_6,v_7])]) p1ca)) m' [] R_1/\Zau Shape.bool R_1/\∀(b:Bool)(m'_1:Mem),
 Mem.le m' m'_1->R_1 (bool b) m'_1 []->br b (∃(m'':Mem),Mem.le m m''/\Mem.le m'' m'_1/\R (int i64 n) m'' []) (∃(n':Nat),n' < n_1/\I [int i64 (IntKind.wrap i64 (n+(1:Int)))] [] [] m'_1 n')) (∃(m'':
 Mem),Mem.le m m''/\Mem.le m'' m'/\R (int i64 (-1:Int)) m'' [])
theorem ZbQ(p0a:Option Addr)(p0n p0c p1g:Nat)(p1fi p1ca:List Value)(m:Mem)(R:RT)(h:Za8 p0a p0n p0c p1g p1fi p1ca m R):CX Try.prog 87 #[.slice p0a p0n p0c,.func (.func p1g) p1fi.toArray p1ca.toArray] m [] R:=
 Zaf (E:=ZbX) ZaH mix Try.func87 [.v (.slice p0a p0n p0c),.v (.func (.func p1g) p1fi.toArray p1ca.toArray)] [] (by kernel_rfl) (Eq.mp (by kernel_rfl) h)
noncomputable def ZbE:Env:=EB
def Za4(p0a:Option Addr)(p0n p0c p1g:Nat)(p1fi p1ca:List Value)(m:Mem)(R:RT):Prop:=
 ∃(R_1:RT),True/\CX Try.prog 87 (Array.mk [slice p0a p0n p0c,func (Fn.func p1g) (Array.mk p1fi) (Array.mk p1ca)]) m [] R_1/\Zau (Shape.int i64) R_1/\∀(n:Int)(m':Mem),Mem.le m m'->R_1 (int i64 n) m' []->
 ∃(m'':Mem),Mem.le m m''/\Mem.le m'' m'/\R (bool (decide (n ≥ (0:Int)))) m'' []
theorem Zbx(p0a:Option Addr)(p0n p0c p1g:Nat)(p1fi p1ca:List Value)(m:Mem)(R:RT)(h:Za4 p0a p0n p0c p1g p1fi p1ca m R):CX Try.prog 110 #[.slice p0a p0n p0c,.func (.func p1g) p1fi.toArray p1ca.toArray] m [] R:=
 Zaf (E:=ZbE) ZaH mix Try.func110 [.v (.slice p0a p0n p0c),.v (.func (.func p1g) p1fi.toArray p1ca.toArray)] [] (by kernel_rfl) (Eq.mp (by kernel_rfl) h)
noncomputable def ZwJ:Env:={ EB with
 frzNew:=[2,3] }
def Zqt(aD aE aF aG aJ aH aI:Int)(aB:Option Addr)(aA aC:Nat)(p1:Int)(m:Mem)(R:RT):Prop:=
 ∀(b:Nat)(m':Mem),Mem.le m m'->Mem.reads m' b 0 [int u8 aD,int u64 aE,int u64 aF,int u64 aG,int u64 aJ,int i64 aH,int i64 aI,slice aB aA aC]->∀(b:Nat)(m'_1:Mem),Mem.le m'
 m'_1->Mem.reads m'_1 b 0 [int u8 p1]->∃(R_1:RT),True/\CX Try.prog 110 (Array.mk [slice aB aA aC,func (Fn.func 111) (Array.mk []) (Array.mk [Value.pointer (some (Addr.mk b 0 none))])]) m'_1 [] R_1/\Zau
 Shape.bool R_1/\∀(b:Bool)(m':Mem),Mem.le m'_1 m'->R_1 (bool b) m' []->∃(m'':Mem),Mem.le m m''/\Mem.le m'' m'/\R (bool b) m'' []
theorem ZuL(aD aE aF aG aJ aH aI:Int)(aB:Option Addr)(aA aC:Nat)(p1:Int)(m:Mem)(R:RT)(h:Zqt aD aE aF aG aJ aH aI aB aA aC p1 m R):CX Try.prog 90 #[.agg #[.int .u8 aD,.int .u64 aE,.int .u64 aF,.int .u64 aG,.int .u64 aJ,.int .i64 aH,.int .i64 aI,.slice aB aA aC],.int .u8 p1] m [] R:=
 Zaf (E:=ZwJ) ZaH mix Try.func90 [.v (.agg #[.int .u8 aD,.int .u64 aE,.int .u64 aF,.int .u64 aG,.int .u64 aJ,.int .i64 aH,.int .i64 aI,.slice aB aA aC]),.v (.int .u8 p1)] [] (by kernel_rfl) (Eq.mp (by kernel_rfl) h)
noncomputable def ZrV:Env:={ EB with
 joins:=(λi=>bif Nat.beq i 1 then some [(37,.bool)]else bif Nat.beq i 9 then some [(2,.bool)]else bif Nat.beq i 11 then some [(2,.bool)]else bif Nat.beq i 13 then some [(2,.bool)]else bif Nat.beq i 14 then some [(2,.bool)]else none)
 frzNew:=[1] }
def ZkY(aD aE aF aG aJ aH aI:Int)(aB:Option Addr)(aA aC:Nat)(m:Mem)(R:RT):Prop:=
 ∀(b:Nat)(m':Mem),Mem.le m m'->Mem.reads m' b 0 [int u8 aD,int u64 aE,int u64 aF,int u64 aG,int u64 aJ,int i64 aH,int i64 aI,slice aB aA aC]->∃(ab:Bool),br (!aD == (2:Int))
 (∃(aa:Bool),EqIs Try.prog 24 (agg (Array.mk [int u64 aE,int u64 aF,int u64 aG,int u64 aJ])) (agg (Array.mk [int u64 0,int u64 0,int u64 0,int u64 0])) aa/\br (!aa) ([some (Box.mk b [int u8 aD,int
 u64 aE,int u64 aF,int u64 aG,int u64 aJ,int i64 aH,int i64 aI,slice aB aA aC] 27 8 true true)]=[some (Box.mk b [int u8 aD,int u64 aE,int u64 aF,int u64 aG,int u64 aJ,int i64
 aH,int i64 aI,slice aB aA aC] 27 8 true true)]/\[bool true]=[bool ab]) (br (!aD == (5:Int)) (br (!aH == (0:Int)) ([some (Box.mk b [int u8 aD,int u64 aE,int u64 aF,int u64 aG,int u64
 aJ,int i64 aH,int i64 aI,slice aB aA aC] 27 8 true true)]=[some (Box.mk b [int u8 aD,int u64 aE,int u64 aF,int u64 aG,int u64 aJ,int i64 aH,int i64 aI,slice aB aA aC] 27
 8 true true)]/\[bool true]=[bool ab]) (br (!aI == (0:Int)) ([some (Box.mk b [int u8 aD,int u64 aE,int u64 aF,int u64 aG,int u64 aJ,int i64 aH,int i64 aI,slice aB aA aC] 27 8 true
 true)]=[some (Box.mk b [int u8 aD,int u64 aE,int u64 aF,int u64 aG,int u64 aJ,int i64 aH,int i64 aI,slice aB aA aC] 27 8 true true)]/\[bool true]=[bool ab]) (br (decide (aD < (3:
 Int))) ([some (Box.mk b [int u8 aD,int u64 aE,int u64 aF,int u64 aG,int u64 aJ,int i64 aH,int i64 aI,slice aB aA aC] 27 8 true true)]=[some (Box.mk b [int u8 aD,int u64 aE,int u64
 aF,int u64 aG,int u64 aJ,int i64 aH,int i64 aI,slice aB aA aC] 27 8 true true)]/\[bool (decide ((↑aA:Int) > (0:Int)))]=[bool ab]) ([some (Box.mk b [int u8 aD,int u64 aE,int u64
 aF,int u64 aG,int u64 aJ,int i64 aH,int i64 aI,slice aB aA aC] 27 8 true true)]=[some (Box.mk b [int u8 aD,int u64 aE,int u64 aF,int u64 aG,int u64 aJ,int i64 aH,int i64 aI,
 slice aB aA aC] 27 8 true true)]/\[bool false]=[bool ab])))) (br (decide (aD < (3:Int))) ([some (Box.mk b [int u8 aD,int u64 aE,int u64 aF,int u64 aG,int u64 aJ,int i64 aH,int i64 aI,
 slice aB aA aC] 27 8 true true)]=[some (Box.mk b [int u8 aD,int u64 aE,int u64 aF,int u64 aG,int u64 aJ,int i64 aH,int i64 aI,slice aB aA aC] 27 8 true true)]/\[bool (decide
 ((↑aA:Int) > (0:Int)))]=[bool ab]) ([some (Box.mk b [int u8 aD,int u64 aE,int u64 aF,int u64 aG,int u64 aJ,int i64 aH,int i64 aI,slice aB aA aC] 27 8 true true)]=[some (Box.mk b
 [int u8 aD,int u64 aE,int u64 aF,int u64 aG,int u64 aJ,int i64 aH,int i64 aI,slice aB aA aC] 27 8 true true)]/\[bool false]=[bool ab])))) (br (!aD == (5:Int)) (br (!aH == (0:
 Int)) ([some (Box.mk b [int u8 aD,int u64 aE,int u64 aF,int u64 aG,int u64 aJ,int i64 aH,int i64 aI,slice aB aA aC] 27 8 true true)]=[some (Box.mk b [int u8 aD,int u64 aE,int u64
 aF,int u64 aG,int u64 aJ,int i64 aH,int i64 aI,slice aB aA aC] 27 8 true true)]/\[bool true]=[bool ab]) (br (!aI == (0:Int)) ([some (Box.mk b [int u8 aD,int u64 aE,int u64 aF,int
 u64 aG,int u64 aJ,int i64 aH,int i64 aI,slice aB aA aC] 27 8 true true)]=[some (Box.mk b [int u8 aD,int u64 aE,int u64 aF,int u64 aG,int u64 aJ,int i64 aH,int i64 aI,slice
 aB aA aC] 27 8 true true)]/\[bool true]=[bool ab]) (br (decide (aD < (3:Int))) ([some (Box.mk b [int u8 aD,int u64 aE,int u64 aF,int u64 aG,int u64 aJ,int i64 aH,int i64 aI,slice
 aB aA aC] 27 8 true true)]=[some (Box.mk b [int u8 aD,int u64 aE,int u64 aF,int u64 aG,int u64 aJ,int i64 aH,int i64 aI,slice aB aA aC] 27 8 true true)]/\[bool (decide ((↑aA
 : Int) > (0:Int)))]=[bool ab]) ([some (Box.mk b [int u8 aD,int u64 aE,int u64 aF,int u64 aG,int u64 aJ,int i64 aH,int i64 aI,slice aB aA aC] 27 8 true true)]=[some (Box.mk b [int u8
 aD,int u64 aE,int u64 aF,int u64 aG,int u64 aJ,int i64 aH,int i64 aI,slice aB aA aC] 27 8 true true)]/\[bool false]=[bool ab])))) (br (decide (aD < (3:Int))) ([some (Box.mk b [int u8
 aD,int u64 aE,int u64 aF,int u64 aG,int u64 aJ,int i64 aH,int i64 aI,slice aB aA aC] 27 8 true true)]=[some (Box.mk b [int u8 aD,int u64 aE,int u64 aF,int u64 aG,int u64 aJ,
 int i64 aH,int i64 aI,slice aB aA aC] 27 8 true true)]/\[bool (decide ((↑aA:Int) > (0:Int)))]=[bool ab]) ([some (Box.mk b [int u8 aD,int u64 aE,int u64 aF,int u64 aG,int u64 aJ,
 int i64 aH,int i64 aI,slice aB aA aC] 27 8 true true)]=[some (Box.mk b [int u8 aD,int u64 aE,int u64 aF,int u64 aG,int u64 aJ,int i64 aH,int i64 aI,slice aB aA aC] 27 8
 true true)]/\[bool false]=[bool ab])))/\br ab (∃(m'':Mem),Mem.le m m''/\Mem.le m'' m'/\R (bool false) m'' []) (br (aD == (1:Int)) (∃(m'':Mem),Mem.le m m''/\Mem.le m'' m'/\R (bool true) m'' []) (br
 (aD == (2:Int)) (∃(b:Bool),EqIs Try.prog 24 (agg (Array.mk [int u64 aE,int u64 aF,int u64 aG,int u64 aJ])) (agg (Array.mk [int u64 0,int u64 0,int u64 0,int u64 0])) b/\∃(m'':Mem),Mem.le m m''
 /\ Mem.le m'' m'/\R (bool !b) m'' []) (br (aD == (3:Int)) (∃(aa:Bool),br (decide ((↑aA:Int) > (1:Int))) (∃(R:RT),True/\CX Try.prog 90 (Array.mk [agg (Array.mk [int u8 aD,int u64 aE,int u64
 aF,int u64 aG,int u64 aJ,int i64 aH,int i64 aI,slice aB aA aC]),int u8 1]) m' [] R/\Zau Shape.bool R/\∀(ad:Bool)(ac:Mem),Mem.le m' ac->R (bool ad) ac []->br (!ad) (∃(R:RT),True/\
 CX Try.prog 90 (Array.mk [agg (Array.mk [int u8 aD,int u64 aE,int u64 aF,int u64 aG,int u64 aJ,int i64 aH,int i64 aI,slice aB aA aC]),int u8 3]) ac [] R/\Zau Shape.bool R/\∀(ae:Bool)
 (m':Mem),Mem.le ac m'->R (bool ae) m' []->[some (Box.mk b [int u8 aD,int u64 aE,int u64 aF,int u64 aG,int u64 aJ,int i64 aH,int i64 aI,slice aB aA aC] 27 8 true true)]=[some (Box.mk
 b [int u8 aD,int u64 aE,int u64 aF,int u64 aG,int u64 aJ,int i64 aH,int i64 aI,slice aB aA aC] 27 8 true true)]/\[bool !ae]=[bool aa]) ([some (Box.mk b [int u8 aD,int u64 aE,int
 u64 aF,int u64 aG,int u64 aJ,int i64 aH,int i64 aI,slice aB aA aC] 27 8 true true)]=[some (Box.mk b [int u8 aD,int u64 aE,int u64 aF,int u64 aG,int u64 aJ,int i64 aH,int i64
 aI,slice aB aA aC] 27 8 true true)]/\[bool false]=[bool aa])) ([some (Box.mk b [int u8 aD,int u64 aE,int u64 aF,int u64 aG,int u64 aJ,int i64 aH,int i64 aI,slice aB aA aC] 27
 8 true true)]=[some (Box.mk b [int u8 aD,int u64 aE,int u64 aF,int u64 aG,int u64 aJ,int i64 aH,int i64 aI,slice aB aA aC] 27 8 true true)]/\[bool false]=[bool aa])/\∃(m'':Mem),
 Mem.le m m''/\Mem.le m'' m'/\R (bool aa) m'' []) (br (aD == (4:Int)) (∃(aa:Bool),br (decide ((↑aA:Int) > (1:Int))) (∃(R:RT),True/\CX Try.prog 90 (Array.mk [agg (Array.mk [int u8 aD,int u64 aE,
 int u64 aF,int u64 aG,int u64 aJ,int i64 aH,int i64 aI,slice aB aA aC]),int u8 4]) m' [] R/\Zau Shape.bool R/\∀(ad:Bool)(ac:Mem),Mem.le m' ac->R (bool ad) ac []->[some (Box.mk b [int
 u8 aD,int u64 aE,int u64 aF,int u64 aG,int u64 aJ,int i64 aH,int i64 aI,slice aB aA aC] 27 8 true true)]=[some (Box.mk b [int u8 aD,int u64 aE,int u64 aF,int u64 aG,int u64
 aJ,int i64 aH,int i64 aI,slice aB aA aC] 27 8 true true)]/\[bool !ad]=[bool aa]) ([some (Box.mk b [int u8 aD,int u64 aE,int u64 aF,int u64 aG,int u64 aJ,int i64 aH,int i64 aI,
 slice aB aA aC] 27 8 true true)]=[some (Box.mk b [int u8 aD,int u64 aE,int u64 aF,int u64 aG,int u64 aJ,int i64 aH,int i64 aI,slice aB aA aC] 27 8 true true)]/\[bool false] =
 [bool aa])/\∃(m'':Mem),Mem.le m m''/\Mem.le m'' m'/\R (bool aa) m'' []) (br (aD == (5:Int)) (∃(aa:Bool),br ((↑aA:Int) == (1:Int)) (∃(R:RT),True/\CX Try.prog 91 (Array.mk [int i64 aH,int i64
 aI]) m' [] R/\Zau Shape.bool R/\∀(ad:Bool)(ac:Mem),Mem.le m' ac->R (bool ad) ac []->br ad (∃(R:RT),True/\CX Try.prog 90 (Array.mk [agg (Array.mk [int u8 aD,int u64 aE,int u64 aF,int u64 aG,
 int u64 aJ,int i64 aH,int i64 aI,slice aB aA aC]),int u8 1]) ac [] R/\Zau Shape.bool R/\∀(ae:Bool)(m':Mem),Mem.le ac m'->R (bool ae) m' []->[some (Box.mk b [int u8 aD,int u64 aE,int
 u64 aF,int u64 aG,int u64 aJ,int i64 aH,int i64 aI,slice aB aA aC] 27 8 true true)]=[some (Box.mk b [int u8 aD,int u64 aE,int u64 aF,int u64 aG,int u64 aJ,int i64 aH,int i64
 aI,slice aB aA aC] 27 8 true true)]/\[bool !ae]=[bool aa]) ([some (Box.mk b [int u8 aD,int u64 aE,int u64 aF,int u64 aG,int u64 aJ,int i64 aH,int i64 aI,slice aB aA aC] 27 8
 true true)]=[some (Box.mk b [int u8 aD,int u64 aE,int u64 aF,int u64 aG,int u64 aJ,int i64 aH,int i64 aI,slice aB aA aC] 27 8 true true)]/\[bool false]=[bool aa])) ([some (Box.mk b
 [int u8 aD,int u64 aE,int u64 aF,int u64 aG,int u64 aJ,int i64 aH,int i64 aI,slice aB aA aC] 27 8 true true)]=[some (Box.mk b [int u8 aD,int u64 aE,int u64 aF,int u64 aG,int
 u64 aJ,int i64 aH,int i64 aI,slice aB aA aC] 27 8 true true)]/\[bool false]=[bool aa])/\∃(m'':Mem),Mem.le m m''/\Mem.le m'' m'/\R (bool aa) m'' []) (∃(aa:Bool),br (aD == (6:Int))
 ([some (Box.mk b [int u8 aD,int u64 aE,int u64 aF,int u64 aG,int u64 aJ,int i64 aH,int i64 aI,slice aB aA aC] 27 8 true true)]=[some (Box.mk b [int u8 aD,int u64 aE,int u64 aF,
 int u64 aG,int u64 aJ,int i64 aH,int i64 aI,slice aB aA aC] 27 8 true true)]/\[bool ((↑aA:Int) == (1:Int))]=[bool aa]) ([some (Box.mk b [int u8 aD,int u64 aE,int u64 aF,int u64
 aG,int u64 aJ,int i64 aH,int i64 aI,slice aB aA aC] 27 8 true true)]=[some (Box.mk b [int u8 aD,int u64 aE,int u64 aF,int u64 aG,int u64 aJ,int i64 aH,int i64 aI,slice aB
 aA aC] 27 8 true true)]/\[bool false]=[bool aa])/\∃(m'':Mem),Mem.le m m''/\Mem.le m'' m'/\R (bool aa) m'' []))))))
theorem Zqu(aD aE aF aG aJ aH aI:Int)(aB:Option Addr)(aA aC:Nat)(m:Mem)(R:RT)(h:ZkY aD aE aF aG aJ aH aI aB aA aC m R):CX Try.prog 56 #[.agg #[.int .u8 aD,.int .u64 aE,.int .u64 aF,.int .u64 aG,.int .u64 aJ,.int .i64 aH,.int .i64 aI,.slice aB aA aC]] m [] R:=
 Zaf (E:=ZrV) ZaH mix Try.func56 [.v (.agg #[.int .u8 aD,.int .u64 aE,.int .u64 aF,.int .u64 aG,.int .u64 aJ,.int .i64 aH,.int .i64 aI,.slice aB aA aC])] [] (by kernel_rfl) (Eq.mp (by kernel_rfl) h)
noncomputable def ZrW:Env:={ EB with
 loops:=(λi=>bif Nat.beq i 5 then⟨[(9,.agg [.int .u8,.int .u64,.int .u64,.int .u64,.int .u64,.int .i64,.int .i64,.slice])],[2],[],false⟩ else⟨[],[],[],false⟩)
 frzNew:=[1] }
def ZkZ(aD aE aF aG aJ aH aI:Int)(aB:Option Addr)(aA aC:Nat)(m:Mem)(R:RT):Prop:=
 ∀(b:Nat)(m':Mem),Mem.le m m'->Mem.reads m' b 0 [int u8 aD,int u64 aE,int u64 aF,int u64 aG,int u64 aJ,int i64 aH,int i64 aI,slice aB aA aC]->∀(ac:Nat),∃(R_1:RT),True/\CX
 Try.prog 54 (Array.mk [agg (Array.mk [int u8 aD,int u64 aE,int u64 aF,int u64 aG,int u64 aJ,int i64 aH,int i64 aI,slice aB aA aC])]) m' [] R_1/\Zau Shape.bool R_1/\∀(ae:Bool) (ab:
 Mem),Mem.le m' ab->R_1 (bool ae) ab []->br (!ae) (∃(m'':Mem),Mem.le m m''/\Mem.le m'' ab/\R (bool false) m'' []) (∃(R_2:RT),True/\CX Try.prog 55 (Array.mk [agg (Array.mk [int u8 aD,int u64 aE,int u64
 aF,int u64 aG,int u64 aJ,int i64 aH,int i64 aI,slice aB aA aC])]) ab [] R_2/\Zau Shape.fn R_2/\∀(g:Nat)(fi ca:List Value)(m':Mem),Mem.le ab m'->R_2 (func (Fn.func g) (Array.mk fi)
 (Array.mk ca)) m' []->∃(xs:List (List Value)),IX Try.prog g fi ca m' xs/\(∀(x:List Value),x∈xs->Shape.fitsL [shT] x=true)/\∃(I:IT),I [] [[bool false]] [] m' 0/\(∀(n af ag ah ai aj ak:Int) (a:
 Option Addr) (al c:Nat) (cs:List Value) (aa:Mem) (ad:Nat),Mem.le m' aa->List.get?Internal xs ad=some [agg (Array.mk [int u8 n,int u64 af,int u64 ag,int u64 ah,int u64 ai,int i64 aj,int i64 ak,slice a
 al c])]->I [] [cs] [] aa ad->∀(an:Nat),∃(R_3:RT),True/\CX Try.prog 56 (Array.mk [agg (Array.mk [int u8 n,int u64 af,int u64 ag,int u64 ah,int u64 ai,int i64 aj,int i64 ak,slice a al c])]) aa [] R_3/\
 Zau Shape.bool R_3/\∀(am:Bool)(m':Mem),Mem.le aa m'->R_3 (bool am) m' []->br (!am) ([some (Box.mk ac [] 4 1 false true),some (Box.mk b [int u8 aD,int u64 aE,int u64 aF,int u64 aG,int u64 aJ,
 int i64 aH,int i64 aI,slice aB aA aC] 27 8 true true)]=[some (Box.mk ac [] 4 1 false true),some (Box.mk b [int u8 aD,int u64 aE,int u64 aF,int u64 aG,int u64 aJ,int i64 aH,int i64
 aI,slice aB aA aC] 27 8 true true)]/\∃(m'':Mem),Mem.le m m''/\Mem.le m'' m'/\R (bool false) m'' []) ([some (Box.mk ac [] 4 1 false true),some (Box.mk b [int u8 aD,int u64 aE,int u64 aF,int
 u64 aG,int u64 aJ,int i64 aH,int i64 aI,slice aB aA aC] 27 8 true true)]=[some (Box.mk ac [] 4 1 false true),some (Box.mk b [int u8 aD,int u64 aE,int u64 aF,int u64 aG,int u64 aJ,
 int i64 aH,int i64 aI,slice aB aA aC] 27 8 true true)]/\I [] [cs] [] m' (ad+1)))/\∀(cs:List Value)(aa:Mem),Mem.le m' aa->I [] [cs] [] aa (List.length xs)->∃(m'':Mem),Mem.le m m''/\Mem.le
 m'' aa/\R (bool true) m'' [])
theorem Zqv(aD aE aF aG aJ aH aI:Int)(aB:Option Addr)(aA aC:Nat)(m:Mem)(R:RT)(h:ZkZ aD aE aF aG aJ aH aI aB aA aC m R):CX Try.prog 19 #[.agg #[.int .u8 aD,.int .u64 aE,.int .u64 aF,.int .u64 aG,.int .u64 aJ,.int .i64 aH,.int .i64 aI,.slice aB aA aC]] m [] R:=
 Zaf (E:=ZrW) ZaH mix Try.func19 [.v (.agg #[.int .u8 aD,.int .u64 aE,.int .u64 aF,.int .u64 aG,.int .u64 aJ,.int .i64 aH,.int .i64 aI,.slice aB aA aC])] [] (by kernel_rfl) (Eq.mp (by kernel_rfl) h)
noncomputable def ZuM:Env:={ EB with
 loops:=(λi=>bif Nat.beq i 5 then⟨[(9,.agg [.int .u8,.int .u64,.int .u64,.int .u64,.int .u64,.int .i64,.int .i64,.slice])],[3],[],false⟩ else⟨[],[],[],false⟩)
 frzNew:=[1] }
def Znx(aD aE aF aG aJ aH aI:Int)(aB:Option Addr)(aA aC:Nat)(m:Mem)(R:RT):Prop:=
 ∀(b:Nat)(m':Mem),Mem.le m m'->Mem.reads m' b 0 [int u8 aD,int u64 aE,int u64 aF,int u64 aG,int u64 aJ,int i64 aH,int i64 aI,slice aB aA aC]->∃(R_1:RT),True/\CX Try.prog 54
 (Array.mk [agg (Array.mk [int u8 aD,int u64 aE,int u64 aF,int u64 aG,int u64 aJ,int i64 aH,int i64 aI,slice aB aA aC])]) m' [] R_1/\Zau Shape.bool R_1/\∀(b_1:Bool)(m'_1:Mem),
 Mem.le m' m'_1->R_1 (bool b_1) m'_1 []->br (!b_1) (∃(m'':Mem),Mem.le m m''/\Mem.le m'' m'_1/\R (int i64 10001) m'' []) (∀(b_2:Nat),∃(R_2:RT),True/\CX Try.prog 55 (Array.mk [agg (Array.mk [int u8 aD,
 int u64 aE,int u64 aF,int u64 aG,int u64 aJ,int i64 aH,int i64 aI,slice aB aA aC])]) m'_1 [] R_2/\Zau Shape.fn R_2/\∀(g:Nat)(fi ca:List Value)(m':Mem),Mem.le m'_1 m'->R_2 (func
 (Fn.func g) (Array.mk fi) (Array.mk ca)) m' []->∃(xs:List (List Value)),IX Try.prog g fi ca m' xs/\(∀(x:List Value),x∈xs->Shape.fitsL [shT] x=true)/\∃(I:IT),I [] [[int i64 0]] [] m' 0/\(∀(n n_1 n_2
 n_3 n_4 n_5 n_6:Int) (a:Option Addr) (n_7 c:Nat) (cs:List Value) (m'_2:Mem) (n_8:Nat),Mem.le m' m'_2->List.get?Internal xs n_8=some [agg (Array.mk [int u8 n,int u64 n_1,int u64 n_2,int u64 n_3,int
 u64 n_4,int i64 n_5,int i64 n_6,slice a n_7 c])]->I [] [cs] [] m'_2 n_8->Eng.Zvl cs 0 λ(v:Value)=>chk (ZaG i64 v&&decide (i64=i64)) ([some (Box.mk b_2 [] 3 1 false true),some (Box.mk b [int u8 aD,
 int u64 aE,int u64 aF,int u64 aG,int u64 aJ,int i64 aH,int i64 aI,slice aB aA aC] 27 8 true true)]=[some (Box.mk b_2 [] 3 1 false true),some (Box.mk b [int u8 aD,int u64 aE,int u64
 aF,int u64 aG,int u64 aJ,int i64 aH,int i64 aI,slice aB aA aC] 27 8 true true)]/\I [] [[int i64 (IntKind.wrap i64 (RowKit.intOf v+(1:Int)))]] [] m'_2 (n_8+1)))/\∀(cs:List Value) (m'_2
 : Mem),Mem.le m' m'_2->I [] [cs] [] m'_2 (List.length xs)->Eng.Zvl cs 0 λ(v:Value)=>∃(m'':Mem),Mem.le m m''/\Mem.le m'' m'_2/\R v m'' [])
theorem ZrX(aD aE aF aG aJ aH aI:Int)(aB:Option Addr)(aA aC:Nat)(m:Mem)(R:RT)(h:Znx aD aE aF aG aJ aH aI aB aA aC m R):CX Try.prog 27 #[.agg #[.int .u8 aD,.int .u64 aE,.int .u64 aF,.int .u64 aG,.int .u64 aJ,.int .i64 aH,.int .i64 aI,.slice aB aA aC]] m [] R:=
 Zaf (E:=ZuM) ZaH mix Try.func27 [.v (.agg #[.int .u8 aD,.int .u64 aE,.int .u64 aF,.int .u64 aG,.int .u64 aJ,.int .i64 aH,.int .i64 aI,.slice aB aA aC])] [] (by kernel_rfl) (Eq.mp (by kernel_rfl) h)
noncomputable def Za2:Env:={ EB with
 loops:=(λi=>bif Nat.beq i 4 then⟨[(17,.int .i64)],[],[],false⟩ else⟨[],[],[],false⟩) }
def ZaE(p0a:Option Addr)(p0n p0c:Nat)(p1a:Option Addr)(p1n p1c p2g:Nat)(p2fi p2ca:List Value)(m:Mem)(R:RT):Prop:=
 br (!(↑p0n:Int) == (↑p1n:Int)) (∃(m'':Mem),Mem.le m m''/\Mem.le m'' m/\R (bool false) m'' []) (∃(I:IT),(∃(n:Nat),I [int i64 0] [] [] m n)/\∀(n:Int)(m':Mem)(n_1:Nat),Mem.le m m'->I [int i64
 n] [] [] m' n_1->br (decide (n < (↑p0n:Int))) (∃(b:Nat),∃(o:Nat),p0a=some (Addr.mk b o none)/\Zad n p0n/\∃(v:Value),∃(v_1:Value),∃(v_2:Value),∃(v_3:Value),∃(v_4:Value),∃(v_5:
 Value),∃(v_6:Value),∃(v_7:Value),Mem.reads m' b (o+Int.toNat n*8) [v,v_1,v_2,v_3,v_4,v_5,v_6,v_7]/\∀(b:Nat),chk (Value.oneCell' v&&(Value.oneCell' v_1&&(Value.oneCell' v_2&&(Value.oneCell'
 v_3&&(Value.oneCell' v_4&&(Value.oneCell' v_5&&(Value.oneCell' v_6&&(Value.oneCell' v_7&&true)))))))) (∃(b:Nat),∃(o:Nat),p1a=some (Addr.mk b o none)/\Zad n p1n/\∃(v_8:Value),∃(v_9:
 Value),∃(v_10:Value),∃(v_11:Value),∃(v_12:Value),∃(v_13:Value),∃(v_14:Value),∃(v_15:Value),Mem.reads m' b (o+Int.toNat n*8) [v_8,v_9,v_10,v_11,v_12,v_13,v_14,v_15]/\∀(b:Nat),chk
 (Value.oneCell' v_8&&(Value.oneCell' v_9&&(Value.oneCell' v_10&&(Value.oneCell' v_11&&(Value.oneCell' v_12&&(Value.oneCell' v_13&&(Value.oneCell' v_14&&(Value.oneCell' v_15&&true)))))))) (∃(R_1:RT),
 True/\CX Try.prog p2g (Array.mk (List.append (List.append p2fi [agg (Array.mk [v,v_1,v_2,v_3,v_4,v_5,v_6,v_7]),agg (Array.mk [v_8,v_9,v_10,v_11,v_12,v_13,v_14,v_15])]) p2ca)) m' [] R_1/\Zau Shape.bool
 R_1/\∀(b:Bool)(m'_1:Mem),Mem.le m' m'_1->R_1 (bool b) m'_1 []->br (!b) (∃(m'':Mem),Mem.le m m''/\Mem.le m'' m'_1/\R (bool false) m'' []) (∃(n':Nat),n' < n_1/\I [int i64 (IntKind.wrap i64 (n+(1:
 Int)))] [] [] m'_1 n')))) (∃(m'':Mem),Mem.le m m''/\Mem.le m'' m'/\R (bool true) m'' []))
theorem ZaZ(p0a:Option Addr)(p0n p0c:Nat)(p1a:Option Addr)(p1n p1c p2g:Nat)(p2fi p2ca:List Value)(m:Mem)(R:RT)(h:ZaE p0a p0n p0c p1a p1n p1c p2g p2fi p2ca m R):CX Try.prog 92 #[.slice p0a p0n p0c,.slice p1a p1n p1c,.func (.func p2g) p2fi.toArray p2ca.toArray] m [] R:=
 Zaf (E:=Za2) ZaH mix Try.func92 [.v (.slice p0a p0n p0c),.v (.slice p1a p1n p1c),.v (.func (.func p2g) p2fi.toArray p2ca.toArray)] [] (by kernel_rfl) (Eq.mp (by kernel_rfl) h)
noncomputable def ZuN:Env:={ EB with
 joins:=(λi=>bif Nat.beq i 1 then some [(4,.bool)]else none)
 frzNew:=[2,3] }
def Zny(aD aE aF aG aJ aH aI:Int)(aB:Option Addr)(aA aC:Nat)(aN aK aL aM cB cC cD:Int)(bG:Option Addr)(bH bI:Nat)(m:Mem)(R:RT):Prop:=
 ∀(b:Nat)(m':Mem),Mem.le m m'->Mem.reads m' b 0 [int u8 aD,int u64 aE,int u64 aF,int u64 aG,int u64 aJ,int i64 aH,int i64 aI,slice aB aA aC]->∀(aa:Nat)(ac:Mem),Mem.le m' ac->
 Mem.reads ac aa 0 [int u8 aN,int u64 aK,int u64 aL,int u64 aM,int u64 cB,int i64 cC,int i64 cD,slice bG bH bI]->∃(ab:Bool),br (aD == aN) (∃(ad:Bool),EqIs Try.prog 24 (agg
 (Array.mk [int u64 aE,int u64 aF,int u64 aG,int u64 aJ])) (agg (Array.mk [int u64 aK,int u64 aL,int u64 aM,int u64 cB])) ad/\br ad (br (aH == cC) (br (aI == cD) (∃(R:RT),True/\CX
 Try.prog 92 (Array.mk [slice aB aA aC,slice bG bH bI,func (Fn.func 57) (Array.mk []) (Array.mk [])]) ac [] R/\Zau Shape.bool R/\∀(ae:Bool)(m':Mem),Mem.le ac m'->R (bool ae) m' []->[some
 (Box.mk aa [int u8 aN,int u64 aK,int u64 aL,int u64 aM,int u64 cB,int i64 cC,int i64 cD,slice bG bH bI] 27 8 true true),some (Box.mk b [int u8 aD,int u64 aE,int u64 aF,int u64
 aG,int u64 aJ,int i64 aH,int i64 aI,slice aB aA aC] 27 8 true true)]=[some (Box.mk aa [int u8 aN,int u64 aK,int u64 aL,int u64 aM,int u64 cB,int i64 cC,int i64 cD,slice bG
 bH bI] 27 8 true true),some (Box.mk b [int u8 aD,int u64 aE,int u64 aF,int u64 aG,int u64 aJ,int i64 aH,int i64 aI,slice aB aA aC] 27 8 true true)]/\[bool ae]=[bool ab]) ([some
 (Box.mk aa [int u8 aN,int u64 aK,int u64 aL,int u64 aM,int u64 cB,int i64 cC,int i64 cD,slice bG bH bI] 27 8 true true),some (Box.mk b [int u8 aD,int u64 aE,int u64 aF,int u64
 aG,int u64 aJ,int i64 aH,int i64 aI,slice aB aA aC] 27 8 true true)]=[some (Box.mk aa [int u8 aN,int u64 aK,int u64 aL,int u64 aM,int u64 cB,int i64 cC,int i64 cD,slice bG
 bH bI] 27 8 true true),some (Box.mk b [int u8 aD,int u64 aE,int u64 aF,int u64 aG,int u64 aJ,int i64 aH,int i64 aI,slice aB aA aC] 27 8 true true)]/\[bool false]=[bool ab]))
 ([some (Box.mk aa [int u8 aN,int u64 aK,int u64 aL,int u64 aM,int u64 cB,int i64 cC,int i64 cD,slice bG bH bI] 27 8 true true),some (Box.mk b [int u8 aD,int u64 aE,int u64 aF,int
 u64 aG,int u64 aJ,int i64 aH,int i64 aI,slice aB aA aC] 27 8 true true)]=[some (Box.mk aa [int u8 aN,int u64 aK,int u64 aL,int u64 aM,int u64 cB,int i64 cC,int i64 cD,slice
 bG bH bI] 27 8 true true),some (Box.mk b [int u8 aD,int u64 aE,int u64 aF,int u64 aG,int u64 aJ,int i64 aH,int i64 aI,slice aB aA aC] 27 8 true true)]/\[bool false]=[bool ab]))
 ([some (Box.mk aa [int u8 aN,int u64 aK,int u64 aL,int u64 aM,int u64 cB,int i64 cC,int i64 cD,slice bG bH bI] 27 8 true true),some (Box.mk b [int u8 aD,int u64 aE,int u64 aF,int
 u64 aG,int u64 aJ,int i64 aH,int i64 aI,slice aB aA aC] 27 8 true true)]=[some (Box.mk aa [int u8 aN,int u64 aK,int u64 aL,int u64 aM,int u64 cB,int i64 cC,int i64 cD,slice
 bG bH bI] 27 8 true true),some (Box.mk b [int u8 aD,int u64 aE,int u64 aF,int u64 aG,int u64 aJ,int i64 aH,int i64 aI,slice aB aA aC] 27 8 true true)]/\[bool false]=[bool ab]))
 ([some (Box.mk aa [int u8 aN,int u64 aK,int u64 aL,int u64 aM,int u64 cB,int i64 cC,int i64 cD,slice bG bH bI] 27 8 true true),some (Box.mk b [int u8 aD,int u64 aE,int u64 aF,int
 u64 aG,int u64 aJ,int i64 aH,int i64 aI,slice aB aA aC] 27 8 true true)]=[some (Box.mk aa [int u8 aN,int u64 aK,int u64 aL,int u64 aM,int u64 cB,int i64 cC,int i64 cD,slice
 bG bH bI] 27 8 true true),some (Box.mk b [int u8 aD,int u64 aE,int u64 aF,int u64 aG,int u64 aJ,int i64 aH,int i64 aI,slice aB aA aC] 27 8 true true)]/\[bool false]=[bool ab])
 /\ ∃(m'':Mem),Mem.le m m''/\Mem.le m'' ac/\R (bool ab) m'' []
theorem ZrY(aD aE aF aG aJ aH aI:Int)(aB:Option Addr)(aA aC:Nat)(aN aK aL aM cB cC cD:Int)(bG:Option Addr)(bH bI:Nat)(m:Mem)(R:RT)(h:Zny aD aE aF aG aJ aH aI aB aA aC aN aK aL aM cB cC cD bG bH bI m R):CX Try.prog 57 #[.agg #[.int .u8 aD,.int .u64 aE,.int .u64 aF,.int .u64 aG,.int .u64 aJ,.int .i64 aH,.int .i64 aI,.slice aB aA aC],.agg #[.int .u8 aN,.int .u64 aK,.int .u64 aL,.int .u64 aM,.int .u64 cB,.int .i64 cC,.int .i64 cD,.slice bG bH bI]] m [] R:=
 Zaf (E:=ZuN) ZaH mix Try.func57 [.v (.agg #[.int .u8 aD,.int .u64 aE,.int .u64 aF,.int .u64 aG,.int .u64 aJ,.int .i64 aH,.int .i64 aI,.slice aB aA aC]),.v (.agg #[.int .u8 aN,.int .u64 aK,.int .u64 aL,.int .u64 aM,.int .u64 cB,.int .i64 cC,.int .i64 cD,.slice bG bH bI])] [] (by kernel_rfl) (Eq.mp (by kernel_rfl) h)
noncomputable def ZuO:Env:={ EB with
 joins:=(λi=>bif Nat.beq i 1 then some [(4,.bool)]else none)
 frzNew:=[2,3] }
def Znz(aD aE aF aG aJ aH aI:Int)(aB:Option Addr)(aA aC:Nat)(aN aK aL aM cB cC cD:Int)(bG:Option Addr)(bH bI:Nat)(m:Mem)(R:RT):Prop:=
 ∀(b:Nat)(m':Mem),Mem.le m m'->Mem.reads m' b 0 [int u8 aD,int u64 aE,int u64 aF,int u64 aG,int u64 aJ,int i64 aH,int i64 aI,slice aB aA aC]->∀(aa:Nat)(ab:Mem),Mem.le m' ab->
 Mem.reads ab aa 0 [int u8 aN,int u64 aK,int u64 aL,int u64 aM,int u64 cB,int i64 cC,int i64 cD,slice bG bH bI]->∃(ac:Bool),(∃(R:RT),True/\CX Try.prog 54 (Array.mk [agg (Array.mk
 [int u8 aD,int u64 aE,int u64 aF,int u64 aG,int u64 aJ,int i64 aH,int i64 aI,slice aB aA aC])]) ab [] R/\Zau Shape.bool R/\∀(ae:Bool)(m':Mem),Mem.le ab m'->R (bool ae) m' []->br
 ae (∃(R:RT),True/\CX Try.prog 54 (Array.mk [agg (Array.mk [int u8 aN,int u64 aK,int u64 aL,int u64 aM,int u64 cB,int i64 cC,int i64 cD,slice bG bH bI])]) m' [] R/\Zau Shape.bool R/\
 ∀(af:Bool)(ad:Mem),Mem.le m' ad->R (bool af) ad []->br af (∃(R:RT),True/\CX Try.prog 57 (Array.mk [agg (Array.mk [int u8 aD,int u64 aE,int u64 aF,int u64 aG,int u64 aJ,int i64 aH,int i64
 aI,slice aB aA aC]),agg (Array.mk [int u8 aN,int u64 aK,int u64 aL,int u64 aM,int u64 cB,int i64 cC,int i64 cD,slice bG bH bI])]) ad [] R/\Zau Shape.bool R/\∀(ag:Bool)
 (m':Mem),Mem.le ad m'->R (bool ag) m' []->[some (Box.mk aa [int u8 aN,int u64 aK,int u64 aL,int u64 aM,int u64 cB,int i64 cC,int i64 cD,slice bG bH bI] 27 8 true true),some (Box.mk b
 [int u8 aD,int u64 aE,int u64 aF,int u64 aG,int u64 aJ,int i64 aH,int i64 aI,slice aB aA aC] 27 8 true true)]=[some (Box.mk aa [int u8 aN,int u64 aK,int u64 aL,int u64 aM,int
 u64 cB,int i64 cC,int i64 cD,slice bG bH bI] 27 8 true true),some (Box.mk b [int u8 aD,int u64 aE,int u64 aF,int u64 aG,int u64 aJ,int i64 aH,int i64 aI,slice aB aA aC]
 27 8 true true)]/\[bool ag]=[bool ac]) ([some (Box.mk aa [int u8 aN,int u64 aK,int u64 aL,int u64 aM,int u64 cB,int i64 cC,int i64 cD,slice bG bH bI] 27 8 true true),some (Box.mk b [int
 u8 aD,int u64 aE,int u64 aF,int u64 aG,int u64 aJ,int i64 aH,int i64 aI,slice aB aA aC] 27 8 true true)]=[some (Box.mk aa [int u8 aN,int u64 aK,int u64 aL,int u64 aM,int u64
 cB,int i64 cC,int i64 cD,slice bG bH bI] 27 8 true true),some (Box.mk b [int u8 aD,int u64 aE,int u64 aF,int u64 aG,int u64 aJ,int i64 aH,int i64 aI,slice aB aA aC] 27 8
 true true)]/\[bool false]=[bool ac])) ([some (Box.mk aa [int u8 aN,int u64 aK,int u64 aL,int u64 aM,int u64 cB,int i64 cC,int i64 cD,slice bG bH bI] 27 8 true true),some (Box.mk b [int
 u8 aD,int u64 aE,int u64 aF,int u64 aG,int u64 aJ,int i64 aH,int i64 aI,slice aB aA aC] 27 8 true true)]=[some (Box.mk aa [int u8 aN,int u64 aK,int u64 aL,int u64 aM,int u64
 cB,int i64 cC,int i64 cD,slice bG bH bI] 27 8 true true),some (Box.mk b [int u8 aD,int u64 aE,int u64 aF,int u64 aG,int u64 aJ,int i64 aH,int i64 aI,slice aB aA aC] 27 8
 true true)]/\[bool false]=[bool ac]))/\∃(m'':Mem),Mem.le m m''/\Mem.le m'' ab/\R (bool ac) m'' []
theorem ZrZ(aD aE aF aG aJ aH aI:Int)(aB:Option Addr)(aA aC:Nat)(aN aK aL aM cB cC cD:Int)(bG:Option Addr)(bH bI:Nat)(m:Mem)(R:RT)(h:Znz aD aE aF aG aJ aH aI aB aA aC aN aK aL aM cB cC cD bG bH bI m R):CX Try.prog 20 #[.agg #[.int .u8 aD,.int .u64 aE,.int .u64 aF,.int .u64 aG,.int .u64 aJ,.int .i64 aH,.int .i64 aI,.slice aB aA aC],.agg #[.int .u8 aN,.int .u64 aK,.int .u64 aL,.int .u64 aM,.int .u64 cB,.int .i64 cC,.int .i64 cD,.slice bG bH bI]] m [] R:=
 Zaf (E:=ZuO) ZaH mix Try.func20 [.v (.agg #[.int .u8 aD,.int .u64 aE,.int .u64 aF,.int .u64 aG,.int .u64 aJ,.int .i64 aH,.int .i64 aI,.slice aB aA aC]),.v (.agg #[.int .u8 aN,.int .u64 aK,.int .u64 aL,.int .u64 aM,.int .u64 cB,.int .i64 cC,.int .i64 cD,.slice bG bH bI])] [] (by kernel_rfl) (Eq.mp (by kernel_rfl) h)
end Go.Proofs.Ytfgfahnakepegaa
