/- Part of the proof: conditions and contracts of functions of this program. No condition of its own. -/
import Derived.Test.YtgclajkldphoaaaGreatPEnv
import Derived.Test.YtgclajkldphoaaaGreatPVC
import Derived.Test.YtgclajkldphoaaaGreatMr
import Derived.Test.YtgclajkldphoaaaGreatPC13Q
set_option linter.unusedVariables false
set_option linter.unusedSimpArgs false
set_option linter.unusedSectionVars false
namespace Go.Proofs.YtgclajkldphoaaaGreat
open Go Go.Eng Go.Proofs Go.RowKit
open Go.Value (int slice agg bool string tuple func)
open Go.IntKind (u8 u64 i64)
set_option maxRecDepth 100000
noncomputable def Zpz:Env:=EB
def Ziw(p0:Int)(m:Mem)(R:RT):Prop:=
 ∀(b b:Nat),(64:Int)≠(0:Int)/\(64:Int)≠(0:Int)/\(0:Int)<=Int.tmod p0 (64:Int)/\Zag (IntKind.wrap i64 (Int.tdiv p0 (64:Int))) 9/\chk (Nat.ble (0+Int.toNat (IntKind.wrap i64 (Int.tdiv p0
 (64:Int)))*1) (nat_lit 8)) (chk (Nat.beq (List.length (ZaH (List.replicate 9 (int u64 0)) (0+Int.toNat (IntKind.wrap i64 (Int.tdiv p0 (64:Int)))*1) [int u64 (IntKind.wrap u64 ((1:Int)*(2:Int) ^ min
 (Int.toNat (Int.tmod p0 (64:Int))) 64))])) 9&&ZeL (ZaH (List.replicate 9 (int u64 0)) (0+Int.toNat (IntKind.wrap i64 (Int.tdiv p0 (64:Int)))*1) [int u64 (IntKind.wrap u64 ((1:Int)*(2:Int) ^ min
 (Int.toNat (Int.tmod p0 (64:Int))) 64))])) (∃(m'':Mem),Mem.le m m''/\Mem.le m'' m/\R (agg (Array.mk (ZaH (List.replicate 9 (int u64 0)) (0+Int.toNat (IntKind.wrap i64 (Int.tdiv p0 (64:Int)))*1) [int u64
 (IntKind.wrap u64 ((1:Int)*(2:Int) ^ min (Int.toNat (Int.tmod p0 (64:Int))) 64))]))) m'' []))
theorem Znl(p0:Int)(m:Mem)(R:RT)(h:Ziw p0 m R):CX Tryz.prog 40 #[.int .i64 p0] m [] R:=
 Zah (E:=Zpz) Zay mix Tryz.func40 [.v (.int .i64 p0)] [] (by kernel_rfl) (Eq.mp (by kernel_rfl) h)
noncomputable def ZfN:Env:=EB
def ZcW(p0b p0o:Nat)(p1:Int)(m:Mem)(R:RT):Prop:=
 (64:Int)≠(0:Int)/\Zag (IntKind.wrap i64 (Int.tdiv p1 (64:Int))) 9/\∃(v:Value),m p0b (p0o+Int.toNat (IntKind.wrap i64 (Int.tdiv p1 (64:Int)))*1)=some v/\(64:Int)≠(0:Int)/\chk (ZaS u64
 v&&true) ((0:Int)<=Int.tmod p1 (64:Int)/\∃(m'':Mem),Mem.le m m''/\Mem.le m'' m/\R (bool (IntKind.wrap u64 (↑(BitVec.toNat (BitVec.ofInt 64 (Int.fdiv (RowKit.intOf v) ((2:Int) ^ min (Int.toNat (Int.tmod
 p1 (64:Int))) 64))&&&BitVec.ofInt 64 (1:Int))):Int) == (1:Int))) m'' [])
theorem Ze5(p0b p0o:Nat)(p1:Int)(m:Mem)(R:RT)(h:ZcW p0b p0o p1 m R):CX Tryz.prog 41 #[.pointer (some ⟨p0b,p0o,none⟩),.int .i64 p1] m [] R:=
 Zah (E:=ZfN) Zay mix Tryz.func41 [.v (.pointer (some ⟨p0b,p0o,none⟩)),.v (.int .i64 p1)] [] (by kernel_rfl) (Eq.mp (by kernel_rfl) h)
noncomputable def Zge:Env:={ EB with
 loops:=(λi=>bif Nat.beq i 2 then⟨[(6,.int .i64)],[2],[],false⟩ else⟨[],[],[],false⟩)
 dr:=(λi=>bif Nat.beq i 4 then[⟨0,[],[],none,[],[]⟩,⟨1,[2],[],none,[0],[]⟩,⟨2,[2],[],none,[0,1],[]⟩,⟨3,[],[],none,[],[]⟩,⟨4,[3],[],none,[3],[]⟩,⟨5,[3],[],none,[3,4],[]⟩,⟨6,[],[],none,[0,1,2,3,4,5],[]⟩,⟨7,[2],[],none,[0,1,2,3,4,5,6],[]⟩,⟨8,[2],[2],none,[0,1,2,3,4,5,6,7],[]⟩]else[])
 frzNew:=[3] }
def Zdg(aG aD aI aJ aK aE aH eS eT aU aO aP aQ aR aS aT cD cE:Int)(m:Mem)(R:RT):Prop:=
 ∀(b b_1:Nat)(m':Mem),Mem.le m m'->Mem.reads m' b_1 0 [int u64 aU,int u64 aO,int u64 aP,int u64 aQ,int u64 aR,int u64 aS,int u64 aT,int u64 cD,int u64 cE]->∀(b_2:Nat),∃(I:IT),(∃
 (n:Nat),I [int i64 0] [[int u64 aG,int u64 aD,int u64 aI,int u64 aJ,int u64 aK,int u64 aE,int u64 aH,int u64 eS,int u64 eT]] [] m' n)/\∀(n:Int)(cs:List Value)(m'_1:Mem) (n_1:
 Nat),Mem.le m' m'_1->I [int i64 n] [cs] [] m'_1 n_1->br (decide (n < (9:Int))) (Zag n 9/\Eng.Zum cs (0+Int.toNat n*1) λ(v:Value)=>Zag n 9/\Eng.Zum [int u64 aU,int u64 aO,int u64 aP,
 int u64 aQ,int u64 aR,int u64 aS,int u64 aT,int u64 cD,int u64 cE] (0+Int.toNat n*1) λ(v_1:Value)=>chk (ZaS u64 v&&ZaS u64 v_1) (Zag n 9/\chk (Nat.ble (0+Int.toNat n*1+1)
 (List.length cs)) ([some (Box.mk b_2 (List.replicate 9 (int u64 0)) 75 9 false true),some (Box.mk b_1 [int u64 aU,int u64 aO,int u64 aP,int u64 aQ,int u64 aR,int u64 aS,int u64 aT,int u64 cD,int
 u64 cE] 75 9 true true),some (Box.mk b [] 75 9 false true)]=[some (Box.mk b_2 (List.replicate 9 (int u64 0)) 75 9 false true),some (Box.mk b_1 [int u64 aU,int u64 aO,int u64 aP,int u64 aQ,int u64 aR,
 int u64 aS,int u64 aT,int u64 cD,int u64 cE] 75 9 true true),some (Box.mk b [] 75 9 false true)]/\∃(n':Nat),n' < n_1/\I [int i64 (IntKind.wrap i64 (n+(1:Int)))] [ZaH cs (0+Int.toNat n*1)
 [int u64 (IntKind.wrap u64 (↑(BitVec.toNat (BitVec.ofInt 64 (RowKit.intOf v)|||BitVec.ofInt 64 (RowKit.intOf v_1))):Int))]] [] m'_1 n'))) (chk (Nat.beq (List.length cs) 9&&ZeL cs) (∃(m'':Mem),Mem.le m m''/\
 Mem.le m'' m'_1/\R (agg (Array.mk cs)) m'' []))
theorem ZfO(aG aD aI aJ aK aE aH eS eT aU aO aP aQ aR aS aT cD cE:Int)(m:Mem)(R:RT)(h:Zdg aG aD aI aJ aK aE aH eS eT aU aO aP aQ aR aS aT cD cE m R):CX Tryz.prog 86 #[.agg #[.int .u64 aG,.int .u64 aD,.int .u64 aI,.int .u64 aJ,.int .u64 aK,.int .u64 aE,.int .u64 aH,.int .u64 eS,.int .u64 eT],.agg #[.int .u64 aU,.int .u64 aO,.int .u64 aP,.int .u64 aQ,.int .u64 aR,.int .u64 aS,.int .u64 aT,.int .u64 cD,.int .u64 cE]] m [] R:=
 Zah (E:=Zge) Zay mix Tryz.func86 [.v (.agg #[.int .u64 aG,.int .u64 aD,.int .u64 aI,.int .u64 aJ,.int .u64 aK,.int .u64 aE,.int .u64 aH,.int .u64 eS,.int .u64 eT]),.v (.agg #[.int .u64 aU,.int .u64 aO,.int .u64 aP,.int .u64 aQ,.int .u64 aR,.int .u64 aS,.int .u64 aT,.int .u64 cD,.int .u64 cE])] [] (by kernel_rfl) (Eq.mp (by kernel_rfl) h)
noncomputable def Zez:Env:={ EB with
 loops:=(λi=>bif Nat.beq i 1 then⟨[(4,.int .i64)],[],[],true⟩ else⟨[],[],[],false⟩) }
def Zcl(p0g:Nat)(p0fi p0ca:List Value)(c0b c0o:Nat)(m:Mem)(xs:List (List Value)):Prop:=
 ∀(l:Nat),∃(I:IT),(∃(n:Nat),I [int i64 0,int i64 0] [] [] m n)/\∀(y n:Int)(m':Mem)(n_1:Nat),Mem.le m m'->I [int i64 y,int i64 n] [] [] m' n_1->br (decide (n < (513:Int))) (∃(v:Value),m'
 c0b c0o=some v/\∃(R:RT),True/\CX Tryz.prog 41 (Array.mk [v,int i64 n]) m' [] R/\Zaz Shape.bool R/\∀(b:Bool)(m'_1:Mem),Mem.le m' m'_1->R (bool b) m'_1 []->br b ((l=l/\(0:Int)<=y/\
 List.get?Internal xs (Int.toNat y)=some [int i64 n])/\(∃(n':Nat),n' < n_1/\I [int i64 (y+(1:Int)),int i64 (IntKind.wrap i64 (n+(1:Int)))] [] [] m'_1 n')/\((-1:Int)=(↑(List.length xs):Int)\/(-1:
 Int)=(-1:Int))) (∃(n':Nat),n' < n_1/\I [int i64 y,int i64 (IntKind.wrap i64 (n+(1:Int)))] [] [] m'_1 n')) (y=(↑(List.length xs):Int)\/y=(-1:Int))
theorem ZdL(p0g:Nat)(p0fi p0ca:List Value)(c0b c0o:Nat)(m:Mem)(xs:List (List Value))(h:Zcl p0g p0fi p0ca c0b c0o m xs):IX Tryz.prog 95 [] [.pointer (some ⟨c0b,c0o,none⟩)] m xs:=
 ZoO (E:=Zez) Zay mix Tryz.func95 [] [.pointer (some ⟨c0b,c0o,none⟩)] xs (by kernel_rfl) (Eq.mp (by kernel_rfl) h)
noncomputable def ZfP:Env:={ EB with
 frzNew:=[1] }
def ZcX(p0b p0o:Nat)(m:Mem)(R:RT):Prop:=
 ∀(b:Nat)(m':Mem),Mem.le m m'->Mem.reads m' b 0 [Value.pointer (some (Addr.mk p0b p0o none))]->∃(m'':Mem),Mem.le m m''/\Mem.le m'' m'/\R (func (Fn.func 95) (Array.mk []) (Array.mk [Value.pointer (some
 (Addr.mk b 0 none))])) m'' []
theorem Ze6(p0b p0o:Nat)(m:Mem)(R:RT)(h:ZcX p0b p0o m R):CX Tryz.prog 65 #[.pointer (some ⟨p0b,p0o,none⟩)] m [] R:=
 Zah (E:=ZfP) Zay mix Tryz.func65 [.v (.pointer (some ⟨p0b,p0o,none⟩))] [] (by kernel_rfl) (Eq.mp (by kernel_rfl) h)
noncomputable def Zq9:Env:={ EB with
 frzNew:=[2] }
def Zkj(aG aD aI aJ p1:Int)(m:Mem)(R:RT):Prop:=
 ∀(b:Nat)(m':Mem),Mem.le m m'->Mem.reads m' b 0 [int u64 aG,int u64 aD,int u64 aI,int u64 aJ]->(0:Int)<=(6:Int)/\Zag (Int.fdiv p1 ((2:Int) ^ 6)) 4/\Eng.Zum [int u64 aG,int u64 aD,
 int u64 aI,int u64 aJ] (0+Int.toNat (Int.fdiv p1 ((2:Int) ^ 6))*1) λ(v:Value)=>chk (ZaS u64 v&&true) ((0:Int)<=IntKind.wrap u8 (↑(BitVec.toNat (BitVec.ofInt 8 p1&&&BitVec.ofInt 8 (63:Int)))
 : Int)/\∃(m'':Mem),Mem.le m m''/\Mem.le m'' m'/\R (bool (IntKind.wrap u64 (↑(BitVec.toNat (BitVec.ofInt 64 (Int.fdiv (RowKit.intOf v) ((2:Int) ^ min (Int.toNat (IntKind.wrap u8 (↑(BitVec.toNat (BitVec.ofInt 8
 p1&&&BitVec.ofInt 8 (63:Int))):Int))) 64))&&&BitVec.ofInt 64 (1:Int))):Int) == (1:Int))) m'' [])
theorem ZpA(aG aD aI aJ p1:Int)(m:Mem)(R:RT)(h:Zkj aG aD aI aJ p1 m R):CX Tryz.prog 92 #[.agg #[.int .u64 aG,.int .u64 aD,.int .u64 aI,.int .u64 aJ],.int .u8 p1] m [] R:=
 Zah (E:=Zq9) Zay mix Tryz.func92 [.v (.agg #[.int .u64 aG,.int .u64 aD,.int .u64 aI,.int .u64 aJ]),.v (.int .u8 p1)] [] (by kernel_rfl) (Eq.mp (by kernel_rfl) h)
noncomputable def ZfQ:Env:={ EB with
 frzNew:=[1] }
def ZcY(aW:Option Addr)(aV aX:Nat)(aD:Bool)(m:Mem)(R:RT):Prop:=
 ∀(b:Nat)(m':Mem),Mem.le m m'->Mem.reads m' b 0 [slice aW aV aX,bool aD]->∀(b_1:Nat),∃(m'':Mem),Mem.le m m''/\Mem.le m'' m'/\R (agg (Array.mk [func (Fn.func 81) (Array.mk []) (Array.mk []),
 func (Fn.func 82) (Array.mk []) (Array.mk []),func (Fn.func 83) (Array.mk [agg (Array.mk [slice aW aV aX,bool aD])]) (Array.mk []),func (Fn.func 84) (Array.mk []) (Array.mk [Value.pointer (some (Addr.mk b
 0 none))]),func (Fn.func 85) (Array.mk []) (Array.mk [Value.pointer (some (Addr.mk b 0 none))]),func (Fn.func 87) (Array.mk [agg (Array.mk [slice aW aV aX,bool aD])]) (Array.mk []),func (Fn.func 88)
 (Array.mk []) (Array.mk [Value.pointer (some (Addr.mk b 0 none))])])) m'' []
set_option maxHeartbeats 4000000 in
theorem Ze7(aW:Option Addr)(aV aX:Nat)(aD:Bool)(m:Mem)(R:RT)(h:ZcY aW aV aX aD m R):CX Tryz.prog 55 #[.agg #[.slice aW aV aX,.bool aD]] m [] R:=
 Zah (E:=ZfQ) Zay mix Tryz.func55 [.v (.agg #[.slice aW aV aX,.bool aD])] [] (by kernel_rfl) (Eq.mp (by kernel_rfl) h)
noncomputable def ZeA:Env:={ EB with
 frzNew:=[2,3] }
def Zcm(aG aD aI aJ aK aE aH:Int)(aB:Option Addr)(aA aC:Nat)(aU aO aP aQ aR aS aT cD cE:Int)(m:Mem)(R:RT):Prop:=
 ∀(b:Nat)(m':Mem),Mem.le m m'->Mem.reads m' b 0 [int u8 aG,int u64 aD,int u64 aI,int u64 aJ,int u64 aK,int i64 aE,int i64 aH,slice aB aA aC]->∀(b:Nat)(m'_1:Mem),Mem.le m'
 m'_1->Mem.reads m'_1 b 0 [int u64 aU,int u64 aO,int u64 aP,int u64 aQ,int u64 aR,int u64 aS,int u64 aT,int u64 cD,int u64 cE]->∀(b:Nat),∃(m'':Mem),Mem.le m m''/\Mem.le m'' m'_1/\R
 (agg (Array.mk (List.replicate 9 (int u64 0)))) m'' []
theorem ZdM(aG aD aI aJ aK aE aH:Int)(aB:Option Addr)(aA aC:Nat)(aU aO aP aQ aR aS aT cD cE:Int)(m:Mem)(R:RT)(h:Zcm aG aD aI aJ aK aE aH aB aA aC aU aO aP aQ aR aS aT cD cE m R):CX Tryz.prog 81 #[.agg #[.int .u8 aG,.int .u64 aD,.int .u64 aI,.int .u64 aJ,.int .u64 aK,.int .i64 aE,.int .i64 aH,.slice aB aA aC],.agg #[.int .u64 aU,.int .u64 aO,.int .u64 aP,.int .u64 aQ,.int .u64 aR,.int .u64 aS,.int .u64 aT,.int .u64 cD,.int .u64 cE]] m [] R:=
 Zah (E:=ZeA) Zay mix Tryz.func81 [.v (.agg #[.int .u8 aG,.int .u64 aD,.int .u64 aI,.int .u64 aJ,.int .u64 aK,.int .i64 aE,.int .i64 aH,.slice aB aA aC]),.v (.agg #[.int .u64 aU,.int .u64 aO,.int .u64 aP,.int .u64 aQ,.int .u64 aR,.int .u64 aS,.int .u64 aT,.int .u64 cD,.int .u64 cE])] [] (by kernel_rfl) (Eq.mp (by kernel_rfl) h)
noncomputable def ZeB:Env:={ EB with
 frzNew:=[2,3] }
def Zcn(aG aD aI aJ aK aE aH:Int)(aB:Option Addr)(aA aC:Nat)(aU aO aP aQ aR aS aT cD cE:Int)(m:Mem)(R:RT):Prop:=
 ∀(b:Nat)(m':Mem),Mem.le m m'->Mem.reads m' b 0 [int u8 aG,int u64 aD,int u64 aI,int u64 aJ,int u64 aK,int i64 aE,int i64 aH,slice aB aA aC]->∀(b:Nat)(m'_1:Mem),Mem.le m'
 m'_1->Mem.reads m'_1 b 0 [int u64 aU,int u64 aO,int u64 aP,int u64 aQ,int u64 aR,int u64 aS,int u64 aT,int u64 cD,int u64 cE]->∀(b:Nat),∃(m'':Mem),Mem.le m m''/\Mem.le m'' m'_1/\R
 (agg (Array.mk [int u64 aU,int u64 aO,int u64 aP,int u64 aQ,int u64 aR,int u64 aS,int u64 aT,int u64 cD,int u64 cE])) m'' []
theorem ZdN(aG aD aI aJ aK aE aH:Int)(aB:Option Addr)(aA aC:Nat)(aU aO aP aQ aR aS aT cD cE:Int)(m:Mem)(R:RT)(h:Zcn aG aD aI aJ aK aE aH aB aA aC aU aO aP aQ aR aS aT cD cE m R):CX Tryz.prog 82 #[.agg #[.int .u8 aG,.int .u64 aD,.int .u64 aI,.int .u64 aJ,.int .u64 aK,.int .i64 aE,.int .i64 aH,.slice aB aA aC],.agg #[.int .u64 aU,.int .u64 aO,.int .u64 aP,.int .u64 aQ,.int .u64 aR,.int .u64 aS,.int .u64 aT,.int .u64 cD,.int .u64 cE]] m [] R:=
 Zah (E:=ZeB) Zay mix Tryz.func82 [.v (.agg #[.int .u8 aG,.int .u64 aD,.int .u64 aI,.int .u64 aJ,.int .u64 aK,.int .i64 aE,.int .i64 aH,.slice aB aA aC]),.v (.agg #[.int .u64 aU,.int .u64 aO,.int .u64 aP,.int .u64 aQ,.int .u64 aR,.int .u64 aS,.int .u64 aT,.int .u64 cD,.int .u64 cE])] [] (by kernel_rfl) (Eq.mp (by kernel_rfl) h)
noncomputable def ZfR:Env:={ EB with
 loops:=(λi=>bif Nat.beq i 3 then⟨[(15,.int .i64)],[7],[],false⟩ else⟨[],[],[],false⟩)
 joins:=(λi=>bif Nat.beq i 8 then some [(34,.bool)]else none)
 dr:=(λi=>bif Nat.beq i 9 then[⟨0,[7],[],none,[],[]⟩,⟨1,[],[],none,[],[]⟩,⟨2,[],[],none,[1],[]⟩,⟨3,[],[],none,[0,1,2],[2]⟩,⟨4,[7],[7],none,[0,1,2,3],[]⟩]else[])
 frzNew:=[3,4,5] }
def ZcZ(aW:Option Addr)(aV aX:Nat)(aD:Bool)(aU aO aP aQ aR aS aT:Int)(aM:Option Addr)(aL aN:Nat)(aY aZ bA bB bC bD bE bM bN:Int)(m:Mem)(R:RT):Prop:=
 ∀(b:Nat)(m':Mem),Mem.le m m'->Mem.reads m' b 0 [slice aW aV aX,bool aD]->∀(ac:Nat)(a4:Mem),Mem.le m' a4->Mem.reads a4 ac 0 [int u8 aU,int u64 aO,int u64 aP,int u64 aQ,int u64
 aR,int i64 aS,int i64 aT,slice aM aL aN]->∀(aa:Nat)(m':Mem),Mem.le a4 m'->Mem.reads m' aa 0 [int u64 aY,int u64 aZ,int u64 bA,int u64 bB,int u64 bC,int u64 bD,int u64 bE,
 int u64 bM,int u64 bN]->∀(ad ae:Nat),∃(I:IT),(∃(n:Nat),I [int i64 0] [List.replicate 9 (int u64 0)] [] m' n)/\∀(n:Int)(cs:List Value)(ab:Mem)(aq:Nat),Mem.le m' ab->I [int i64 n] [cs] []
 ab aq->br (decide (n < (↑aV:Int))) (∃(a5:Nat),∃(o:Nat),aW=some (Addr.mk a5 o none)/\Zag n aV/\∃(v:Value),ab a5 (o+Int.toNat n*1)=some v/\br aD (∃(ag:Bool),(∃(R:RT),True/\
 CX Tryz.prog 41 (Array.mk [Value.pointer (some (Addr.mk aa 0 none)),int i64 (IntKind.wrap i64 (n+(1:Int)))]) ab [] R/\Zaz Shape.bool R/\∀(ar:Bool)(m':Mem),Mem.le ab m'->R (bool ar) m' []->br ar (∃(R:
 RT),True/\CX Tryz.prog 92 (Array.mk [agg (Array.mk [int u64 aO,int u64 aP,int u64 aQ,int u64 aR]),v]) m' [] R/\Zaz Shape.bool R/\∀(au:Bool)(af:Mem),Mem.le m' af->R (bool au) af []->[some
 (Box.mk ae cs 75 9 false true),some (Box.mk ad (List.replicate 9 (int u64 0)) 75 9 false true),some (Box.mk aa [int u64 aY,int u64 aZ,int u64 bA,int u64 bB,int u64 bC,int u64 bD,int u64 bE,int u64
 bM,int u64 bN] 75 9 true true),some (Box.mk ac [int u8 aU,int u64 aO,int u64 aP,int u64 aQ,int u64 aR,int i64 aS,int i64 aT,slice aM aL aN] 30 8 true true),some (Box.mk b [slice
 aW aV aX,bool aD] 77 2 true true)]=[some (Box.mk ae cs 75 9 false true),some (Box.mk ad (List.replicate 9 (int u64 0)) 75 9 false true),some (Box.mk aa [int u64 aY,int u64 aZ,int u64 bA,int u64
 bB,int u64 bC,int u64 bD,int u64 bE,int u64 bM,int u64 bN] 75 9 true true),some (Box.mk ac [int u8 aU,int u64 aO,int u64 aP,int u64 aQ,int u64 aR,int i64 aS,int i64 aT,slice aM
 aL aN] 30 8 true true),some (Box.mk b [slice aW aV aX,bool aD] 77 2 true true)]/\[bool au]=[bool ag]) ([some (Box.mk ae cs 75 9 false true),some (Box.mk ad (List.replicate 9 (int u64 0)) 75 9
 false true),some (Box.mk aa [int u64 aY,int u64 aZ,int u64 bA,int u64 bB,int u64 bC,int u64 bD,int u64 bE,int u64 bM,int u64 bN] 75 9 true true),some (Box.mk ac [int u8 aU,int u64 aO,
 int u64 aP,int u64 aQ,int u64 aR,int i64 aS,int i64 aT,slice aM aL aN] 30 8 true true),some (Box.mk b [slice aW aV aX,bool aD] 77 2 true true)]=[some (Box.mk ae cs 75 9 false
 true),some (Box.mk ad (List.replicate 9 (int u64 0)) 75 9 false true),some (Box.mk aa [int u64 aY,int u64 aZ,int u64 bA,int u64 bB,int u64 bC,int u64 bD,int u64 bE,int u64 bM,int u64 bN] 75 9
 true true),some (Box.mk ac [int u8 aU,int u64 aO,int u64 aP,int u64 aQ,int u64 aR,int i64 aS,int i64 aT,slice aM aL aN] 30 8 true true),some (Box.mk b [slice aW aV aX,bool aD]
 77 2 true true)]/\[bool false]=[bool ag]))/\br ag (∃(f:Fx),∃(R:RT),R=f 2 [int i64 n] ab/\CX Tryz.prog 40 (Array.mk [int i64 n]) ab [] R/\Zaz (Shape.agg [Shape.int u64,Shape.int u64,Shape.int u64,
 Shape.int u64,Shape.int u64,Shape.int u64,Shape.int u64,Shape.int u64,Shape.int u64]) R/\∀(ah ai aj ak al am an ao ap:Int)(m':Mem),Mem.le ab m'->R (agg (Array.mk [int u64 ah,int u64 ai,int u64 aj,int
 u64 ak,int u64 al,int u64 am,int u64 an,int u64 ao,int u64 ap])) m' []->∃(R:RT),R=f 3 [agg (Array.mk cs),agg (Array.mk [int u64 ah,int u64 ai,int u64 aj,int u64 ak,int u64 al,int u64 am,int u64 an,
 int u64 ao,int u64 ap])] m'/\CX Tryz.prog 86 (Array.mk [agg (Array.mk cs),agg (Array.mk [int u64 ah,int u64 ai,int u64 aj,int u64 ak,int u64 al,int u64 am,int u64 an,int u64 ao,int u64 ap])]) m' [] R/\Zaz
 (Shape.agg [Shape.int u64,Shape.int u64,Shape.int u64,Shape.int u64,Shape.int u64,Shape.int u64,Shape.int u64,Shape.int u64,Shape.int u64]) R/\∀(av aw ax ay az a0 a1 a2 a3:Int)(af:Mem),Mem.le m' af->R
 (agg (Array.mk [int u64 av,int u64 aw,int u64 ax,int u64 ay,int u64 az,int u64 a0,int u64 a1,int u64 a2,int u64 a3])) af []->∀(M:Mem),Mem.le ab M->Mem.le m' M->Mem.le af M->[some (Box.mk ae [] 75 9 false
 true),some (Box.mk ad (List.replicate 9 (int u64 0)) 75 9 false true),some (Box.mk aa [int u64 aY,int u64 aZ,int u64 bA,int u64 bB,int u64 bC,int u64 bD,int u64 bE,int u64 bM,int u64 bN] 75 9
 true true),some (Box.mk ac [int u8 aU,int u64 aO,int u64 aP,int u64 aQ,int u64 aR,int i64 aS,int i64 aT,slice aM aL aN] 30 8 true true),some (Box.mk b [slice aW aV aX,bool aD]
 77 2 true true)]=[some (Box.mk ae [] 75 9 false true),some (Box.mk ad (List.replicate 9 (int u64 0)) 75 9 false true),some (Box.mk aa [int u64 aY,int u64 aZ,int u64 bA,int u64 bB,int u64 bC,int u64
 bD,int u64 bE,int u64 bM,int u64 bN] 75 9 true true),some (Box.mk ac [int u8 aU,int u64 aO,int u64 aP,int u64 aQ,int u64 aR,int i64 aS,int i64 aT,slice aM aL aN] 30 8 true
 true),some (Box.mk b [slice aW aV aX,bool aD] 77 2 true true)]/\∃(n':Nat),n' < aq/\I [int i64 (IntKind.wrap i64 (n+(1:Int)))] [[int u64 av,int u64 aw,int u64 ax,int u64 ay,int u64 az,int u64
 a0,int u64 a1,int u64 a2,int u64 a3]] [] M n') ([some (Box.mk ae [] 75 9 false true),some (Box.mk ad (List.replicate 9 (int u64 0)) 75 9 false true),some (Box.mk aa [int u64 aY,int u64 aZ,int u64 bA,int
 u64 bB,int u64 bC,int u64 bD,int u64 bE,int u64 bM,int u64 bN] 75 9 true true),some (Box.mk ac [int u8 aU,int u64 aO,int u64 aP,int u64 aQ,int u64 aR,int i64 aS,int i64 aT,slice
 aM aL aN] 30 8 true true),some (Box.mk b [slice aW aV aX,bool aD] 77 2 true true)]=[some (Box.mk ae [] 75 9 false true),some (Box.mk ad (List.replicate 9 (int u64 0)) 75 9 false true),some
 (Box.mk aa [int u64 aY,int u64 aZ,int u64 bA,int u64 bB,int u64 bC,int u64 bD,int u64 bE,int u64 bM,int u64 bN] 75 9 true true),some (Box.mk ac [int u8 aU,int u64 aO,int u64 aP,int
 u64 aQ,int u64 aR,int i64 aS,int i64 aT,slice aM aL aN] 30 8 true true),some (Box.mk b [slice aW aV aX,bool aD] 77 2 true true)]/\∃(n':Nat),n' < aq/\I [int i64 (IntKind.wrap i64
 (n+(1:Int)))] [cs] [] ab n')) (∃(ag:Bool),(∃(R:RT),True/\CX Tryz.prog 41 (Array.mk [Value.pointer (some (Addr.mk aa 0 none)),int i64 n]) ab [] R/\Zaz Shape.bool R/\∀(ar:Bool)(m':Mem),Mem.le ab m'
 -> R (bool ar) m' []->br ar (∃(R:RT),True/\CX Tryz.prog 92 (Array.mk [agg (Array.mk [int u64 aO,int u64 aP,int u64 aQ,int u64 aR]),v]) m' [] R/\Zaz Shape.bool R/\∀(au:Bool)(af:Mem),Mem.le m'
 af->R (bool au) af []->[some (Box.mk ae cs 75 9 false true),some (Box.mk ad (List.replicate 9 (int u64 0)) 75 9 false true),some (Box.mk aa [int u64 aY,int u64 aZ,int u64 bA,int u64 bB,int u64 bC,int
 u64 bD,int u64 bE,int u64 bM,int u64 bN] 75 9 true true),some (Box.mk ac [int u8 aU,int u64 aO,int u64 aP,int u64 aQ,int u64 aR,int i64 aS,int i64 aT,slice aM aL aN] 30 8 true
 true),some (Box.mk b [slice aW aV aX,bool aD] 77 2 true true)]=[some (Box.mk ae cs 75 9 false true),some (Box.mk ad (List.replicate 9 (int u64 0)) 75 9 false true),some (Box.mk aa [int u64 aY,int u64
 aZ,int u64 bA,int u64 bB,int u64 bC,int u64 bD,int u64 bE,int u64 bM,int u64 bN] 75 9 true true),some (Box.mk ac [int u8 aU,int u64 aO,int u64 aP,int u64 aQ,int u64 aR,int i64
 aS,int i64 aT,slice aM aL aN] 30 8 true true),some (Box.mk b [slice aW aV aX,bool aD] 77 2 true true)]/\[bool au]=[bool ag]) ([some (Box.mk ae cs 75 9 false true),some (Box.mk ad
 (List.replicate 9 (int u64 0)) 75 9 false true),some (Box.mk aa [int u64 aY,int u64 aZ,int u64 bA,int u64 bB,int u64 bC,int u64 bD,int u64 bE,int u64 bM,int u64 bN] 75 9 true true),some
 (Box.mk ac [int u8 aU,int u64 aO,int u64 aP,int u64 aQ,int u64 aR,int i64 aS,int i64 aT,slice aM aL aN] 30 8 true true),some (Box.mk b [slice aW aV aX,bool aD] 77 2 true true)]
 = [some (Box.mk ae cs 75 9 false true),some (Box.mk ad (List.replicate 9 (int u64 0)) 75 9 false true),some (Box.mk aa [int u64 aY,int u64 aZ,int u64 bA,int u64 bB,int u64 bC,int u64 bD,int u64 bE,
 int u64 bM,int u64 bN] 75 9 true true),some (Box.mk ac [int u8 aU,int u64 aO,int u64 aP,int u64 aQ,int u64 aR,int i64 aS,int i64 aT,slice aM aL aN] 30 8 true true),some (Box.mk b
 [slice aW aV aX,bool aD] 77 2 true true)]/\[bool false]=[bool ag]))/\br ag (∃(f:Fx),∃(R:RT),R=f 2 [int i64 (IntKind.wrap i64 (n+(1:Int)))] ab/\CX Tryz.prog 40 (Array.mk [int i64
 (IntKind.wrap i64 (n+(1:Int)))]) ab [] R/\Zaz (Shape.agg [Shape.int u64,Shape.int u64,Shape.int u64,Shape.int u64,Shape.int u64,Shape.int u64,Shape.int u64,Shape.int u64,Shape.int u64]) R/\∀(ah ai aj ak
 al am an ao ap:Int) (m':Mem),Mem.le ab m'->R (agg (Array.mk [int u64 ah,int u64 ai,int u64 aj,int u64 ak,int u64 al,int u64 am,int u64 an,int u64 ao,int u64 ap])) m' []->∃(R:RT),R=f 3 [agg (Array.mk
 cs),agg (Array.mk [int u64 ah,int u64 ai,int u64 aj,int u64 ak,int u64 al,int u64 am,int u64 an,int u64 ao,int u64 ap])] m'/\CX Tryz.prog 86 (Array.mk [agg (Array.mk cs),agg (Array.mk [int u64 ah,int u64 ai,
 int u64 aj,int u64 ak,int u64 al,int u64 am,int u64 an,int u64 ao,int u64 ap])]) m' [] R/\Zaz (Shape.agg [Shape.int u64,Shape.int u64,Shape.int u64,Shape.int u64,Shape.int u64,Shape.int u64,Shape.int u64,
 Shape.int u64,Shape.int u64]) R/\∀(av aw ax ay az a0 a1 a2 a3:Int)(af:Mem),Mem.le m' af->R (agg (Array.mk [int u64 av,int u64 aw,int u64 ax,int u64 ay,int u64 az,int u64 a0,int u64 a1,int u64 a2,int
 u64 a3])) af []->∀(M:Mem),Mem.le ab M->Mem.le m' M->Mem.le af M->[some (Box.mk ae [] 75 9 false true),some (Box.mk ad (List.replicate 9 (int u64 0)) 75 9 false true),some (Box.mk aa [int u64 aY,int u64
 aZ,int u64 bA,int u64 bB,int u64 bC,int u64 bD,int u64 bE,int u64 bM,int u64 bN] 75 9 true true),some (Box.mk ac [int u8 aU,int u64 aO,int u64 aP,int u64 aQ,int u64 aR,int i64
 aS,int i64 aT,slice aM aL aN] 30 8 true true),some (Box.mk b [slice aW aV aX,bool aD] 77 2 true true)]=[some (Box.mk ae [] 75 9 false true),some (Box.mk ad (List.replicate 9 (int u64 0))
 75 9 false true),some (Box.mk aa [int u64 aY,int u64 aZ,int u64 bA,int u64 bB,int u64 bC,int u64 bD,int u64 bE,int u64 bM,int u64 bN] 75 9 true true),some (Box.mk ac [int u8 aU,int u64
 aO,int u64 aP,int u64 aQ,int u64 aR,int i64 aS,int i64 aT,slice aM aL aN] 30 8 true true),some (Box.mk b [slice aW aV aX,bool aD] 77 2 true true)]/\∃(n':Nat),n' < aq/\I [int
 i64 (IntKind.wrap i64 (n+(1:Int)))] [[int u64 av,int u64 aw,int u64 ax,int u64 ay,int u64 az,int u64 a0,int u64 a1,int u64 a2,int u64 a3]] [] M n') ([some (Box.mk ae [] 75 9 false true),some (Box.mk ad
 (List.replicate 9 (int u64 0)) 75 9 false true),some (Box.mk aa [int u64 aY,int u64 aZ,int u64 bA,int u64 bB,int u64 bC,int u64 bD,int u64 bE,int u64 bM,int u64 bN] 75 9 true true),some
 (Box.mk ac [int u8 aU,int u64 aO,int u64 aP,int u64 aQ,int u64 aR,int i64 aS,int i64 aT,slice aM aL aN] 30 8 true true),some (Box.mk b [slice aW aV aX,bool aD] 77 2 true true)]
 = [some (Box.mk ae [] 75 9 false true),some (Box.mk ad (List.replicate 9 (int u64 0)) 75 9 false true),some (Box.mk aa [int u64 aY,int u64 aZ,int u64 bA,int u64 bB,int u64 bC,int u64 bD,int u64 bE,
 int u64 bM,int u64 bN] 75 9 true true),some (Box.mk ac [int u8 aU,int u64 aO,int u64 aP,int u64 aQ,int u64 aR,int i64 aS,int i64 aT,slice aM aL aN] 30 8 true true),some (Box.mk b
 [slice aW aV aX,bool aD] 77 2 true true)]/\∃(n':Nat),n' < aq/\I [int i64 (IntKind.wrap i64 (n+(1:Int)))] [cs] [] ab n'))) (chk (Nat.beq (List.length cs) 9&&ZeL cs) (∃(m'':Mem),Mem.le m m''
 /\ Mem.le m'' ab/\R (agg (Array.mk cs)) m'' []))
theorem Ze8(aW:Option Addr)(aV aX:Nat)(aD:Bool)(aU aO aP aQ aR aS aT:Int)(aM:Option Addr)(aL aN:Nat)(aY aZ bA bB bC bD bE bM bN:Int)(m:Mem)(R:RT)(h:ZcZ aW aV aX aD aU aO aP aQ aR aS aT aM aL aN aY aZ bA bB bC bD bE bM bN m R):CX Tryz.prog 83 #[.agg #[.slice aW aV aX,.bool aD],.agg #[.int .u8 aU,.int .u64 aO,.int .u64 aP,.int .u64 aQ,.int .u64 aR,.int .i64 aS,.int .i64 aT,.slice aM aL aN],.agg #[.int .u64 aY,.int .u64 aZ,.int .u64 bA,.int .u64 bB,.int .u64 bC,.int .u64 bD,.int .u64 bE,.int .u64 bM,.int .u64 bN]] m [] R:=
 Zah (E:=ZfR) Zay mix Tryz.func83 [.v (.agg #[.slice aW aV aX,.bool aD]),.v (.agg #[.int .u8 aU,.int .u64 aO,.int .u64 aP,.int .u64 aQ,.int .u64 aR,.int .i64 aS,.int .i64 aT,.slice aM aL aN]),.v (.agg #[.int .u64 aY,.int .u64 aZ,.int .u64 bA,.int .u64 bB,.int .u64 bC,.int .u64 bD,.int .u64 bE,.int .u64 bM,.int .u64 bN])] [] (by kernel_rfl) (Eq.mp (by kernel_rfl) h)
noncomputable def ZeC:Env:={ EB with
 loops:=(λi=>bif Nat.beq i 2 then⟨[(11,.int .i64)],[4],[],false⟩ else⟨[],[],[],false⟩)
 dr:=(λi=>bif Nat.beq i 7 then[⟨0,[],[],none,[],[]⟩,⟨1,[3],[],none,[],[]⟩,⟨2,[3],[],none,[1],[]⟩,⟨3,[],[],none,[],[]⟩,⟨4,[],[],none,[1,2,3],[]⟩,⟨5,[],[],none,[1,2,3,4],[]⟩,⟨6,[4],[],none,[],[]⟩,⟨7,[],[],none,[0,1,2,3,4,5,6],[]⟩,⟨8,[4],[4],none,[0,1,2,3,4,5,6,7],[]⟩]else[])
 frzNew:=[3] }
def Zco(aG aD aI aJ aK aE aH:Int)(aB:Option Addr)(aA aC:Nat)(aU aO aP aQ aR aS aT cD cE:Int)(c0b c0o:Nat)(m:Mem)(R:RT):Prop:=
 ∀(b:Nat)(m':Mem),Mem.le m m'->Mem.reads m' b 0 [int u8 aG,int u64 aD,int u64 aI,int u64 aJ,int u64 aK,int i64 aE,int i64 aH,slice aB aA aC]->∀(aw ax:Nat),∃(I:IT),(∃(n:
 Nat),I [int i64 0] [[int u64 aU,int u64 aO,int u64 aP,int u64 aQ,int u64 aR,int u64 aS,int u64 aT,int u64 cD,int u64 cE]] [] m' n)/\∀(n:Int)(cs:List Value)(aa:Mem)(ay:Nat),Mem.le
 m' aa->I [int i64 n] [cs] [] aa ay->br (decide (n < (↑aA:Int))) (∃(v:Value),aa c0b (c0o+1)=some v/\chk (ZhL v) (br (Zdj v) (∃(f:Fx),∃(v:Value),∃(ab:Value),Mem.reads aa c0b c0o [v,ab]/\
 ∃(ak:Nat),∃(o:Nat),aB=some (Addr.mk ak o none)/\Zag (IntKind.wrap i64 (IntKind.wrap i64 ((↑aA:Int) - (1:Int)) - n)) aA/\∃(ac:Value),∃(ad:Value),∃(ae:Value),∃(af:Value),∃(ag
 : Value),∃(ah:Value),∃(ai:Value),∃(aj:Value),Mem.reads aa ak (o+Int.toNat (IntKind.wrap i64 (IntKind.wrap i64 ((↑aA:Int) - (1:Int)) - n))*8) [ac,ad,ae,af,ag,ah,ai,aj]/\∃(R:RT),R=f 7
 [agg (Array.mk [v,ab]),agg (Array.mk [ac,ad,ae,af,ag,ah,ai,aj]),agg (Array.mk cs)] aa/\CX Tryz.prog 39 (Array.mk [agg (Array.mk [v,ab]),agg (Array.mk [ac,ad,ae,af,ag,ah,ai,aj]),agg (Array.mk cs)])
 aa [] R/\Zaz (Shape.agg [Shape.int u64,Shape.int u64,Shape.int u64,Shape.int u64,Shape.int u64,Shape.int u64,Shape.int u64,Shape.int u64,Shape.int u64]) R/\∀(al am an ao ap aq ar au av:Int)(m':Mem),
 Mem.le aa m'->R (agg (Array.mk [int u64 al,int u64 am,int u64 an,int u64 ao,int u64 ap,int u64 aq,int u64 ar,int u64 au,int u64 av])) m' []->∀(M:Mem),Mem.le aa M->Mem.le m' M->[some (Box.mk ax
 (List.replicate 9 (int u64 0)) 75 9 false true),some (Box.mk aw [] 75 9 false true),some (Box.mk b [int u8 aG,int u64 aD,int u64 aI,int u64 aJ,int u64 aK,int i64 aE,int i64 aH,slice aB aA
 aC] 30 8 true true)]=[some (Box.mk ax (List.replicate 9 (int u64 0)) 75 9 false true),some (Box.mk aw [] 75 9 false true),some (Box.mk b [int u8 aG,int u64 aD,int u64 aI,int u64 aJ,int u64 aK,int
 i64 aE,int i64 aH,slice aB aA aC] 30 8 true true)]/\∃(n':Nat),n' < ay/\I [int i64 (IntKind.wrap i64 (n+(1:Int)))] [[int u64 al,int u64 am,int u64 an,int u64 ao,int u64 ap,int u64 aq,int
 u64 ar,int u64 au,int u64 av]] [] M n') (∃(f:Fx),∃(v:Value),∃(ab:Value),Mem.reads aa c0b c0o [v,ab]/\∃(ak:Nat),∃(o:Nat),aB=some (Addr.mk ak o none)/\Zag n aA/\∃(ac:Value),∃(ad
 : Value),∃(ae:Value),∃(af:Value),∃(ag:Value),∃(ah:Value),∃(ai:Value),∃(aj:Value),Mem.reads aa ak (o+Int.toNat n*8) [ac,ad,ae,af,ag,ah,ai,aj]/\∃(R:RT),R=f 7 [agg (Array.mk [v,
 ab]),agg (Array.mk [ac,ad,ae,af,ag,ah,ai,aj]),agg (Array.mk cs)] aa/\CX Tryz.prog 39 (Array.mk [agg (Array.mk [v,ab]),agg (Array.mk [ac,ad,ae,af,ag,ah,ai,aj]),agg (Array.mk cs)]) aa [] R/\Zaz
 (Shape.agg [Shape.int u64,Shape.int u64,Shape.int u64,Shape.int u64,Shape.int u64,Shape.int u64,Shape.int u64,Shape.int u64,Shape.int u64]) R/\∀(al am an ao ap aq ar au av:Int)(m':Mem),Mem.le aa m'->R
 (agg (Array.mk [int u64 al,int u64 am,int u64 an,int u64 ao,int u64 ap,int u64 aq,int u64 ar,int u64 au,int u64 av])) m' []->∀(M:Mem),Mem.le aa M->Mem.le m' M->[some (Box.mk ax (List.replicate 9 (int u64
 0)) 75 9 false true),some (Box.mk aw [] 75 9 false true),some (Box.mk b [int u8 aG,int u64 aD,int u64 aI,int u64 aJ,int u64 aK,int i64 aE,int i64 aH,slice aB aA aC] 30 8 true true)] =
 [some (Box.mk ax (List.replicate 9 (int u64 0)) 75 9 false true),some (Box.mk aw [] 75 9 false true),some (Box.mk b [int u8 aG,int u64 aD,int u64 aI,int u64 aJ,int u64 aK,int i64 aE,int i64 aH,
 slice aB aA aC] 30 8 true true)]/\∃(n':Nat),n' < ay/\I [int i64 (IntKind.wrap i64 (n+(1:Int)))] [[int u64 al,int u64 am,int u64 an,int u64 ao,int u64 ap,int u64 aq,int u64 ar,int u64 au,int
 u64 av]] [] M n'))) (chk (Nat.beq (List.length cs) 9&&ZeL cs) (∃(m'':Mem),Mem.le m m''/\Mem.le m'' aa/\R (agg (Array.mk cs)) m'' []))
theorem ZdO(aG aD aI aJ aK aE aH:Int)(aB:Option Addr)(aA aC:Nat)(aU aO aP aQ aR aS aT cD cE:Int)(c0b c0o:Nat)(m:Mem)(R:RT)(h:Zco aG aD aI aJ aK aE aH aB aA aC aU aO aP aQ aR aS aT cD cE c0b c0o m R):CX Tryz.prog 84 #[.agg #[.int .u8 aG,.int .u64 aD,.int .u64 aI,.int .u64 aJ,.int .u64 aK,.int .i64 aE,.int .i64 aH,.slice aB aA aC],.agg #[.int .u64 aU,.int .u64 aO,.int .u64 aP,.int .u64 aQ,.int .u64 aR,.int .u64 aS,.int .u64 aT,.int .u64 cD,.int .u64 cE],.pointer (some ⟨c0b,c0o,none⟩)] m [] R:=
 Zah (E:=ZeC) Zay mix Tryz.func84 [.v (.agg #[.int .u8 aG,.int .u64 aD,.int .u64 aI,.int .u64 aJ,.int .u64 aK,.int .i64 aE,.int .i64 aH,.slice aB aA aC]),.v (.agg #[.int .u64 aU,.int .u64 aO,.int .u64 aP,.int .u64 aQ,.int .u64 aR,.int .u64 aS,.int .u64 aT,.int .u64 cD,.int .u64 cE]),.v (.pointer (some ⟨c0b,c0o,none⟩))] [] (by kernel_rfl) (Eq.mp (by kernel_rfl) h)
noncomputable def ZeD:Env:={ EB with
 loops:=(λi=>bif Nat.beq i 3 then⟨[(12,.int .i64)],[6],[],false⟩ else⟨[],[],[],false⟩)
 dr:=(λi=>bif Nat.beq i 5 then[⟨0,[6],[],none,[],[]⟩,⟨1,[],[],none,[],[]⟩,⟨2,[8],[],none,[],[]⟩,⟨3,[4],[],none,[],[]⟩,⟨4,[],[],none,[1,2,3],[]⟩,⟨5,[],[],none,[0,1,2,3,4],[4]⟩,⟨6,[6],[6],none,[0,1,2,3,4,5],[]⟩]else[])
 frzNew:=[3,4] }
def Zcp(aG aD aI aJ aK aE aH:Int)(aB:Option Addr)(aA aC:Nat)(aU aO aP aQ aR aS aT cD cE:Int)(c0b c0o:Nat)(m:Mem)(R:RT):Prop:=
 ∀(b:Nat)(m':Mem),Mem.le m m'->Mem.reads m' b 0 [int u8 aG,int u64 aD,int u64 aI,int u64 aJ,int u64 aK,int i64 aE,int i64 aH,slice aB aA aC]->∀(aj:Nat)(ab:Mem),Mem.le m' ab->
 Mem.reads ab aj 0 [int u64 aU,int u64 aO,int u64 aP,int u64 aQ,int u64 aR,int u64 aS,int u64 aT,int u64 cD,int u64 cE]->∀(ay az:Nat),∃(I:IT),(∃(n:Nat),I [int i64 0] [List.replicate
 9 (int u64 0)] [] ab n)/\∀(n:Int)(cs:List Value)(m':Mem)(a0:Nat),Mem.le ab m'->I [int i64 n] [cs] [] m' a0->br (decide (n < (↑aA:Int))) (∃(a1:Nat),∃(o:Nat),aB=some (Addr.mk a1 o none)/\
 Zag n aA/\∃(v:Value),∃(ac:Value),∃(ad:Value),∃(ae:Value),∃(af:Value),∃(ag:Value),∃(ah:Value),∃(ai:Value),Mem.reads m' a1 (o+Int.toNat n*8) [v,ac,ad,ae,af,ag,ah,ai]/\∀
 (bb:Nat),chk (Value.oneCell' v&&(Value.oneCell' ac&&(Value.oneCell' ad&&(Value.oneCell' ae&&(Value.oneCell' af&&(Value.oneCell' ag&&(Value.oneCell' ah&&(Value.oneCell' ai&&true)))))))) (∃(f:Fx),∃
 (ak:Value),∃(al:Value),Mem.reads m' c0b c0o [ak,al]/\∃(R:RT),R=f 4 [agg (Array.mk [ak,al]),agg (Array.mk [v,ac,ad,ae,af,ag,ah,ai]),agg (Array.mk [int u64 aU,int u64 aO,int u64 aP,int
 u64 aQ,int u64 aR,int u64 aS,int u64 aT,int u64 cD,int u64 cE])] m'/\CX Tryz.prog 39 (Array.mk [agg (Array.mk [ak,al]),agg (Array.mk [v,ac,ad,ae,af,ag,ah,ai]),agg (Array.mk [int u64 aU,int
 u64 aO,int u64 aP,int u64 aQ,int u64 aR,int u64 aS,int u64 aT,int u64 cD,int u64 cE])]) m' [] R/\Zaz (Shape.agg [Shape.int u64,Shape.int u64,Shape.int u64,Shape.int u64,Shape.int u64,
 Shape.int u64,Shape.int u64,Shape.int u64,Shape.int u64]) R/\∀(am an ao ap aq ar au av aw:Int)(aa:Mem),Mem.le m' aa->R (agg (Array.mk [int u64 am,int u64 an,int u64 ao,int u64 ap,int u64 aq,int u64 ar,
 int u64 au,int u64 av,int u64 aw])) aa []->∃(R:RT),R=f 5 [agg (Array.mk cs),agg (Array.mk [int u64 am,int u64 an,int u64 ao,int u64 ap,int u64 aq,int u64 ar,int u64 au,int u64 av,int u64 aw])] aa/\CX
 Tryz.prog 86 (Array.mk [agg (Array.mk cs),agg (Array.mk [int u64 am,int u64 an,int u64 ao,int u64 ap,int u64 aq,int u64 ar,int u64 au,int u64 av,int u64 aw])]) aa [] R/\Zaz (Shape.agg [Shape.int u64,
 Shape.int u64,Shape.int u64,Shape.int u64,Shape.int u64,Shape.int u64,Shape.int u64,Shape.int u64,Shape.int u64]) R/\∀(a2 a3 a4 a5 a6 a7 a8 a9 ba:Int)(ax:Mem),Mem.le aa ax->R (agg (Array.mk [int u64 a2,
 int u64 a3,int u64 a4,int u64 a5,int u64 a6,int u64 a7,int u64 a8,int u64 a9,int u64 ba])) ax []->∀(M:Mem),Mem.le m' M->Mem.le aa M->Mem.le ax M->[some (Box.mk az [] 75 9 false true),some (Box.mk ay
 (List.replicate 9 (int u64 0)) 75 9 false true),some (Box.mk aj [int u64 aU,int u64 aO,int u64 aP,int u64 aQ,int u64 aR,int u64 aS,int u64 aT,int u64 cD,int u64 cE] 75 9 true true),some
 (Box.mk b [int u8 aG,int u64 aD,int u64 aI,int u64 aJ,int u64 aK,int i64 aE,int i64 aH,slice aB aA aC] 30 8 true true)]=[some (Box.mk az [] 75 9 false true),some (Box.mk ay
 (List.replicate 9 (int u64 0)) 75 9 false true),some (Box.mk aj [int u64 aU,int u64 aO,int u64 aP,int u64 aQ,int u64 aR,int u64 aS,int u64 aT,int u64 cD,int u64 cE] 75 9 true true),some
 (Box.mk b [int u8 aG,int u64 aD,int u64 aI,int u64 aJ,int u64 aK,int i64 aE,int i64 aH,slice aB aA aC] 30 8 true true)]/\∃(n':Nat),n' < a0/\I [int i64 (IntKind.wrap i64 (n+(1:
 Int)))] [[int u64 a2,int u64 a3,int u64 a4,int u64 a5,int u64 a6,int u64 a7,int u64 a8,int u64 a9,int u64 ba]] [] M n')) (chk (Nat.beq (List.length cs) 9&&ZeL cs) (∃(m'':Mem),Mem.le m m''/\Mem.le m'' m'
 /\ R (agg (Array.mk cs)) m'' []))
theorem ZdP(aG aD aI aJ aK aE aH:Int)(aB:Option Addr)(aA aC:Nat)(aU aO aP aQ aR aS aT cD cE:Int)(c0b c0o:Nat)(m:Mem)(R:RT)(h:Zcp aG aD aI aJ aK aE aH aB aA aC aU aO aP aQ aR aS aT cD cE c0b c0o m R):CX Tryz.prog 85 #[.agg #[.int .u8 aG,.int .u64 aD,.int .u64 aI,.int .u64 aJ,.int .u64 aK,.int .i64 aE,.int .i64 aH,.slice aB aA aC],.agg #[.int .u64 aU,.int .u64 aO,.int .u64 aP,.int .u64 aQ,.int .u64 aR,.int .u64 aS,.int .u64 aT,.int .u64 cD,.int .u64 cE],.pointer (some ⟨c0b,c0o,none⟩)] m [] R:=
 Zah (E:=ZeD) Zay mix Tryz.func85 [.v (.agg #[.int .u8 aG,.int .u64 aD,.int .u64 aI,.int .u64 aJ,.int .u64 aK,.int .i64 aE,.int .i64 aH,.slice aB aA aC]),.v (.agg #[.int .u64 aU,.int .u64 aO,.int .u64 aP,.int .u64 aQ,.int .u64 aR,.int .u64 aS,.int .u64 aT,.int .u64 cD,.int .u64 cE]),.v (.pointer (some ⟨c0b,c0o,none⟩))] [] (by kernel_rfl) (Eq.mp (by kernel_rfl) h)
noncomputable def Ze9:Env:={ EB with
 loops:=(λi=>bif Nat.beq i 2 then⟨[(13,.int .i64)],[5],[],false⟩ else bif Nat.beq i 7 then⟨[(9,.int .i64)],[6,7,8],[],false⟩ else⟨[],[],[],false⟩)
 dr:=(λi=>bif Nat.beq i 3 then[⟨0,[3],[],none,[],[]⟩,⟨1,[4],[],none,[],[]⟩,⟨2,[4],[],none,[1],[]⟩,⟨3,[],[],none,[1,2],[]⟩,⟨4,[],[],none,[1,2,3],[]⟩,⟨5,[5],[],none,[],[]⟩,⟨6,[],[],none,[0,1,2,3,4,5],[]⟩,⟨7,[5],[5],none,[0,1,2,3,4,5,6],[]⟩]else bif Nat.beq i 5 then[⟨0,[5],[],none,[],[]⟩,⟨1,[5],[],none,[],[]⟩,⟨2,[7],[7],none,[],[]⟩,⟨3,[8],[8],none,[],[]⟩,⟨4,[7],[7],none,[0,2,3],[]⟩,⟨5,[8],[8],none,[0,1,2,3,4],[]⟩]else bif Nat.beq i 9 then[⟨0,[3],[],none,[],[]⟩,⟨1,[4],[],none,[],[]⟩,⟨2,[4],[],none,[1],[]⟩,⟨3,[],[],none,[1,2],[]⟩,⟨4,[],[],none,[1,2,3],[]⟩,⟨5,[8],[],none,[],[]⟩,⟨6,[],[],none,[0,1,2,3,4,5],[]⟩,⟨7,[8],[8],none,[0,1,2,3,4,5,6],[]⟩]else[])
 frzNew:=[3,4] }
def ZcJ(aW:Option Addr)(aV aX:Nat)(aD:Bool)(aU aO aP aQ aR aS aT:Int)(aM:Option Addr)(aL aN:Nat)(aY aZ bA bB bC bD bE bM bN:Int)(m:Mem)(R:RT):Prop:=
 ∀(b:Nat)(m':Mem),Mem.le m m'->Mem.reads m' b 0 [slice aW aV aX,bool aD]->∀(au:Nat)(aw:Mem),Mem.le m' aw->Mem.reads aw au 0 [int u8 aU,int u64 aO,int u64 aP,int u64 aQ,int u64
 aR,int i64 aS,int i64 aT,slice aM aL aN]->∀(ax ay:Nat),∃(I:IT),(∃(n:Nat),I [int i64 0] [[int u64 aY,int u64 aZ,int u64 bA,int u64 bB,int u64 bC,int u64 bD,int u64 bE,
 int u64 bM,int u64 bN]] [] aw n)/\∀(n:Int)(cs:List Value)(m':Mem)(bb:Nat),Mem.le aw m'->I [int i64 n] [cs] [] m' bb->br (decide (n < aS)) (∃(f:Fx),∃(ac:Nat),∃(o:Nat),aM=some
 (Addr.mk ac o none)/\Zag (0:Int) aL/\∃(v:Value),∃(ad:Value),∃(ae:Value),∃(af:Value),∃(ag:Value),∃(ah:Value),∃(ai:Value),∃(aj:Value),Mem.reads m' ac (o+0) [v,ad,ae,af,ag,
 ah,ai,aj]/\∃(R:RT),R=f 6 [agg (Array.mk [slice aW aV aX,bool aD]),agg (Array.mk [v,ad,ae,af,ag,ah,ai,aj]),agg (Array.mk cs)] m'/\CX Tryz.prog 39 (Array.mk [agg (Array.mk [slice aW aV
 aX,bool aD]),agg (Array.mk [v,ad,ae,af,ag,ah,ai,aj]),agg (Array.mk cs)]) m' [] R/\Zaz (Shape.agg [Shape.int u64,Shape.int u64,Shape.int u64,Shape.int u64,Shape.int u64,Shape.int u64,Shape.int u64,
 Shape.int u64,Shape.int u64]) R/\∀(av ak al am an ao ap aq ar:Int)(aa:Mem),Mem.le m' aa->R (agg (Array.mk [int u64 av,int u64 ak,int u64 al,int u64 am,int u64 an,int u64 ao,int u64 ap,int u64 aq,int
 u64 ar])) aa []->∀(M:Mem),Mem.le m' M->Mem.le aa M->[some (Box.mk ay (List.replicate 9 (int u64 0)) 75 9 false true),some (Box.mk ax [] 75 9 false true),some (Box.mk au [int u8 aU,int u64 aO,int u64 aP,
 int u64 aQ,int u64 aR,int i64 aS,int i64 aT,slice aM aL aN] 30 8 true true),some (Box.mk b [slice aW aV aX,bool aD] 77 2 true true)]=[some (Box.mk ay (List.replicate 9 (int u64 0)) 75
 9 false true),some (Box.mk ax [] 75 9 false true),some (Box.mk au [int u8 aU,int u64 aO,int u64 aP,int u64 aQ,int u64 aR,int i64 aS,int i64 aT,slice aM aL aN] 30 8 true true),some
 (Box.mk b [slice aW aV aX,bool aD] 77 2 true true)]/\∃(n':Nat),n' < bb/\I [int i64 (IntKind.wrap i64 (n+(1:Int)))] [[int u64 av,int u64 ak,int u64 al,int u64 am,int u64 an,int u64 ao,int u64
 ap,int u64 aq,int u64 ar]] [] M n') (∀(ac az:Nat),chk (Nat.beq (List.length cs) 9&&ZeL cs) (chk (Nat.beq (List.length cs) 9&&ZeL cs) (∃(I:IT),(∃(n:Nat),I [int i64 aS] [List.replicate 9 (int u64
 0),cs,cs] [] m' n)/\∀(n:Int)(bc ab a0:List Value)(aa:Mem)(av:Nat),Mem.le m' aa->I [int i64 n] [bc,ab,a0] [] aa av->br (!n == aT) (∃(f:Fx),∃(bd:Nat),∃(o:Nat),aM=some (Addr.mk bd o
 none)/\Zag (0:Int) aL/\∃(v:Value),∃(ad:Value),∃(ae:Value),∃(af:Value),∃(ag:Value),∃(ah:Value),∃(ai:Value),∃(aj:Value),Mem.reads aa bd (o+0) [v,ad,ae,af,ag,ah,ai,aj]/\
 ∃(R_1:RT),R_1=f 6 [agg (Array.mk [slice aW aV aX,bool aD]),agg (Array.mk [v,ad,ae,af,ag,ah,ai,aj]),agg (Array.mk a0)] aa/\CX Tryz.prog 39 (Array.mk [agg (Array.mk [slice aW aV aX,
 bool aD]),agg (Array.mk [v,ad,ae,af,ag,ah,ai,aj]),agg (Array.mk a0)]) aa [] R_1/\Zaz (Shape.agg [Shape.int u64,Shape.int u64,Shape.int u64,Shape.int u64,Shape.int u64,Shape.int u64,Shape.int u64,
 Shape.int u64,Shape.int u64]) R_1/\∀(ak al am an ao ap aq ar a1:Int)(m':Mem),Mem.le aa m'->R_1 (agg (Array.mk [int u64 ak,int u64 al,int u64 am,int u64 an,int u64 ao,int u64 ap,int u64 aq,int u64 ar,
 int u64 a1])) m' []->∀(M:Mem),Mem.le aa M->Mem.le m' M->∃(R_2:RT),True/\CX Tryz.prog 86 (Array.mk [agg (Array.mk ab),agg (Array.mk [int u64 ak,int u64 al,int u64 am,int u64 an,int u64 ao,int u64 ap,
 int u64 aq,int u64 ar,int u64 a1])]) M [] R_2/\Zaz (Shape.agg [Shape.int u64,Shape.int u64,Shape.int u64,Shape.int u64,Shape.int u64,Shape.int u64,Shape.int u64,Shape.int u64,Shape.int u64]) R_2/\∀(a2 a3
 a4 a5 a6 a7 a8 a9 ba:Int) (m':Mem),Mem.le M m'->R_2 (agg (Array.mk [int u64 a2,int u64 a3,int u64 a4,int u64 a5,int u64 a6,int u64 a7,int u64 a8,int u64 a9,int u64 ba])) m' []->∀(bf:Nat),∃(be:
 Bool),EqIs Tryz.prog 75 (agg (Array.mk [int u64 a2,int u64 a3,int u64 a4,int u64 a5,int u64 a6,int u64 a7,int u64 a8,int u64 a9,int u64 ba])) (agg (Array.mk ab)) be/\br be (chk (Nat.beq (List.length ab) 9 &&
 ZeL ab) (∃(m'':Mem),Mem.le m m''/\Mem.le m'' m'/\R (agg (Array.mk ab)) m'' [])) ([some (Box.mk ac [] 75 9 false true),some (Box.mk az [] 75 9 false true),some (Box.mk ac [] 75 9 false true),some (Box.mk az []
 75 9 false true),some (Box.mk ay [] 75 9 false true),some (Box.mk ax cs 75 9 false true),some (Box.mk au [int u8 aU,int u64 aO,int u64 aP,int u64 aQ,int u64 aR,int i64 aS,int i64 aT,slice aM
 aL aN] 30 8 true true),some (Box.mk b [slice aW aV aX,bool aD] 77 2 true true)]=[some (Box.mk ac [] 75 9 false true),some (Box.mk az [] 75 9 false true),some (Box.mk ac [] 75 9 false true),some
 (Box.mk az [] 75 9 false true),some (Box.mk ay [] 75 9 false true),some (Box.mk ax cs 75 9 false true),some (Box.mk au [int u8 aU,int u64 aO,int u64 aP,int u64 aQ,int u64 aR,int i64 aS,int i64 aT,
 slice aM aL aN] 30 8 true true),some (Box.mk b [slice aW aV aX,bool aD] 77 2 true true)]/\∃(n':Nat),n' < av/\I [int i64 (IntKind.wrap i64 (n+(1:Int)))] [bc,[int u64 a2,int u64 a3,int
 u64 a4,int u64 a5,int u64 a6,int u64 a7,int u64 a8,int u64 a9,int u64 ba],[int u64 ak,int u64 al,int u64 am,int u64 an,int u64 ao,int u64 ap,int u64 aq,int u64 ar,int u64 a1]] [] m' n')) (chk (Nat.beq
 (List.length ab) 9&&ZeL ab) (∃(m'':Mem),Mem.le m m''/\Mem.le m'' aa/\R (agg (Array.mk ab)) m'' [])))))
theorem ZeE(aW:Option Addr)(aV aX:Nat)(aD:Bool)(aU aO aP aQ aR aS aT:Int)(aM:Option Addr)(aL aN:Nat)(aY aZ bA bB bC bD bE bM bN:Int)(m:Mem)(R:RT)(h:ZcJ aW aV aX aD aU aO aP aQ aR aS aT aM aL aN aY aZ bA bB bC bD bE bM bN m R):CX Tryz.prog 87 #[.agg #[.slice aW aV aX,.bool aD],.agg #[.int .u8 aU,.int .u64 aO,.int .u64 aP,.int .u64 aQ,.int .u64 aR,.int .i64 aS,.int .i64 aT,.slice aM aL aN],.agg #[.int .u64 aY,.int .u64 aZ,.int .u64 bA,.int .u64 bB,.int .u64 bC,.int .u64 bD,.int .u64 bE,.int .u64 bM,.int .u64 bN]] m [] R:=
 Zah (E:=Ze9) Zay mix Tryz.func87 [.v (.agg #[.slice aW aV aX,.bool aD]),.v (.agg #[.int .u8 aU,.int .u64 aO,.int .u64 aP,.int .u64 aQ,.int .u64 aR,.int .i64 aS,.int .i64 aT,.slice aM aL aN]),.v (.agg #[.int .u64 aY,.int .u64 aZ,.int .u64 bA,.int .u64 bB,.int .u64 bC,.int .u64 bD,.int .u64 bE,.int .u64 bM,.int .u64 bN])] [] (by kernel_rfl) (Eq.mp (by kernel_rfl) h)
noncomputable def ZeF:Env:={ EB with
 dr:=(λi=>bif Nat.beq i 1 then[⟨0,[],[],none,[],[]⟩,⟨1,[3],[],none,[],[]⟩,⟨2,[3],[],none,[1],[]⟩,⟨3,[],[],none,[1,2],[]⟩,⟨4,[],[],none,[1,2,3],[]⟩,⟨5,[4],[],none,[],[]⟩,⟨6,[],[],none,[0,1,2,3,4,5],[]⟩,⟨7,[5],[5],none,[0,1,2,3,4,5,6],[]⟩]else[])
 frzNew:=[3,4] }
def Zcq(aG aD aI aJ aK aE aH:Int)(aB:Option Addr)(aA aC:Nat)(aU aO aP aQ aR aS aT cD cE:Int)(c0b c0o:Nat)(m:Mem)(R:RT):Prop:=
 ∀(b:Nat)(m':Mem),Mem.le m m'->Mem.reads m' b 0 [int u8 aG,int u64 aD,int u64 aI,int u64 aJ,int u64 aK,int i64 aE,int i64 aH,slice aB aA aC]->∀(b:Nat)(m'_1:Mem),Mem.le m'
 m'_1->Mem.reads m'_1 b 0 [int u64 aU,int u64 aO,int u64 aP,int u64 aQ,int u64 aR,int u64 aS,int u64 aT,int u64 cD,int u64 cE]->∀(b:Nat),∃(f:Fx),∃(v:Value),∃(v_1:Value),
 Mem.reads m'_1 c0b c0o [v,v_1]/\∃(b:Nat),∃(o:Nat),aB=some (Addr.mk b o none)/\Zag (0:Int) aA/\∃(v_2:Value),∃(v_3:Value),∃(v_4:Value),∃(v_5:Value),∃(v_6:Value),∃(v_7:
 Value),∃(v_8:Value),∃(v_9:Value),Mem.reads m'_1 b (o+0) [v_2,v_3,v_4,v_5,v_6,v_7,v_8,v_9]/\∃(R_1:RT),R_1=f 6 [agg (Array.mk [v,v_1]),agg (Array.mk [v_2,v_3,v_4,v_5,v_6,v_7,v_8,v_9]),
 agg (Array.mk [int u64 aU,int u64 aO,int u64 aP,int u64 aQ,int u64 aR,int u64 aS,int u64 aT,int u64 cD,int u64 cE])] m'_1/\CX Tryz.prog 39 (Array.mk [agg (Array.mk [v,v_1]),agg (Array.mk
 [v_2,v_3,v_4,v_5,v_6,v_7,v_8,v_9]),agg (Array.mk [int u64 aU,int u64 aO,int u64 aP,int u64 aQ,int u64 aR,int u64 aS,int u64 aT,int u64 cD,int u64 cE])]) m'_1 [] R_1/\Zaz (Shape.agg
 [Shape.int u64,Shape.int u64,Shape.int u64,Shape.int u64,Shape.int u64,Shape.int u64,Shape.int u64,Shape.int u64,Shape.int u64]) R_1/\∀(n n_1 n_2 n_3 n_4 n_5 n_6 n_7 n_8:Int)(m':Mem),Mem.le m'_1 m'->R_1
 (agg (Array.mk [int u64 n,int u64 n_1,int u64 n_2,int u64 n_3,int u64 n_4,int u64 n_5,int u64 n_6,int u64 n_7,int u64 n_8])) m' []->∀(M:Mem),Mem.le m'_1 M->Mem.le m' M->∃(m'':Mem),Mem.le m m''/\
 Mem.le m'' M/\R (agg (Array.mk [int u64 n,int u64 n_1,int u64 n_2,int u64 n_3,int u64 n_4,int u64 n_5,int u64 n_6,int u64 n_7,int u64 n_8])) m'' []
theorem ZdQ(aG aD aI aJ aK aE aH:Int)(aB:Option Addr)(aA aC:Nat)(aU aO aP aQ aR aS aT cD cE:Int)(c0b c0o:Nat)(m:Mem)(R:RT)(h:Zcq aG aD aI aJ aK aE aH aB aA aC aU aO aP aQ aR aS aT cD cE c0b c0o m R):CX Tryz.prog 88 #[.agg #[.int .u8 aG,.int .u64 aD,.int .u64 aI,.int .u64 aJ,.int .u64 aK,.int .i64 aE,.int .i64 aH,.slice aB aA aC],.agg #[.int .u64 aU,.int .u64 aO,.int .u64 aP,.int .u64 aQ,.int .u64 aR,.int .u64 aS,.int .u64 aT,.int .u64 cD,.int .u64 cE],.pointer (some ⟨c0b,c0o,none⟩)] m [] R:=
 Zah (E:=ZeF) Zay mix Tryz.func88 [.v (.agg #[.int .u8 aG,.int .u64 aD,.int .u64 aI,.int .u64 aJ,.int .u64 aK,.int .i64 aE,.int .i64 aH,.slice aB aA aC]),.v (.agg #[.int .u64 aU,.int .u64 aO,.int .u64 aP,.int .u64 aQ,.int .u64 aR,.int .u64 aS,.int .u64 aT,.int .u64 cD,.int .u64 cE]),.v (.pointer (some ⟨c0b,c0o,none⟩))] [] (by kernel_rfl) (Eq.mp (by kernel_rfl) h)
noncomputable def ZjB:Env:={ EB with
 joins:=(λi=>bif Nat.beq i 1 then some [(7,.bool)]else bif Nat.beq i 2 then some [(16,.bool)]else bif Nat.beq i 6 then some [(29,.bool)]else none)
 frzNew:=[3] }
def ZfS(aG aD aI aJ aK aE aH:Int)(aB:Option Addr)(aA aC:Nat)(p1a:Option Addr)(p1n p1c:Nat)(p2:Int)(m:Mem)(R:RT):Prop:=
 ∀(b:Nat)(m':Mem),Mem.le m m'->Mem.reads m' b 0 [int u8 aG,int u64 aD,int u64 aI,int u64 aJ,int u64 aK,int i64 aE,int i64 aH,slice aB aA aC]->∃(ac:Bool),br (aG == (0:Int))
 (∃(R:RT),True/\CX Tryz.prog 54 (Array.mk [agg (Array.mk [int u8 aG,int u64 aD,int u64 aI,int u64 aJ,int u64 aK,int i64 aE,int i64 aH,slice aB aA aC]),agg (Array.mk [int u8 0,int u64
 0,int u64 0,int u64 0,int u64 0,int i64 0,int i64 0,slice none 0 0])]) m' [] R/\Zaz Shape.bool R/\∀(aa:Bool)(ab:Mem),Mem.le m' ab->R (bool aa) ab []->[some (Box.mk b [int u8 aG,int u64 aD,int u64
 aI,int u64 aJ,int u64 aK,int i64 aE,int i64 aH,slice aB aA aC] 30 8 true true)]=[some (Box.mk b [int u8 aG,int u64 aD,int u64 aI,int u64 aJ,int u64 aK,int i64 aE,int i64 aH,
 slice aB aA aC] 30 8 true true)]/\[bool aa]=[bool ac]) ([some (Box.mk b [int u8 aG,int u64 aD,int u64 aI,int u64 aJ,int u64 aK,int i64 aE,int i64 aH,slice aB aA aC] 30 8 true
 true)]=[some (Box.mk b [int u8 aG,int u64 aD,int u64 aI,int u64 aJ,int u64 aK,int i64 aE,int i64 aH,slice aB aA aC] 30 8 true true)]/\[bool false]=[bool ac])/\∃(aa:Bool),br (!ac)
 (∃(R:RT),True/\CX Tryz.prog 8 (Array.mk [agg (Array.mk [bool false,bool false,int u8 aG,int u64 aD,int u64 aI,int u64 aJ,int u64 aK,int i64 aE,int i64 aH,slice aB aA aC])]) m' [] R/\
 Zaz (Shape.int i64) R/\∀(n:Int)(ab:Mem),Mem.le m' ab->R (int i64 n) ab []->[some (Box.mk b [int u8 aG,int u64 aD,int u64 aI,int u64 aJ,int u64 aK,int i64 aE,int i64 aH,slice aB aA
 aC] 30 8 true true)]=[some (Box.mk b [int u8 aG,int u64 aD,int u64 aI,int u64 aJ,int u64 aK,int i64 aE,int i64 aH,slice aB aA aC] 30 8 true true)]/\[bool !n == (0:Int)]=[bool aa])
 ([some (Box.mk b [int u8 aG,int u64 aD,int u64 aI,int u64 aJ,int u64 aK,int i64 aE,int i64 aH,slice aB aA aC] 30 8 true true)]=[some (Box.mk b [int u8 aG,int u64 aD,int u64 aI,
 int u64 aJ,int u64 aK,int i64 aE,int i64 aH,slice aB aA aC] 30 8 true true)]/\[bool false]=[bool aa])/\br aa (∃(m'':Mem),Mem.le m m''/\Mem.le m'' m'/\R (int i64 130) m'' []) (br (decide
 ((↑p1n:Int) > (512:Int))) (∃(m'':Mem),Mem.le m m''/\Mem.le m'' m'/\R (int i64 3) m'' []) (∃(ad:Bool),br (decide (p2 < (0:Int))) ([some (Box.mk b [int u8 aG,int u64 aD,int u64 aI,int u64 aJ,
 int u64 aK,int i64 aE,int i64 aH,slice aB aA aC] 30 8 true true)]=[some (Box.mk b [int u8 aG,int u64 aD,int u64 aI,int u64 aJ,int u64 aK,int i64 aE,int i64 aH,slice aB aA
 aC] 30 8 true true)]/\[bool true]=[bool ad]) ([some (Box.mk b [int u8 aG,int u64 aD,int u64 aI,int u64 aJ,int u64 aK,int i64 aE,int i64 aH,slice aB aA aC] 30 8 true true)]=[some
 (Box.mk b [int u8 aG,int u64 aD,int u64 aI,int u64 aJ,int u64 aK,int i64 aE,int i64 aH,slice aB aA aC] 30 8 true true)]/\[bool (decide (p2 > (↑p1n:Int)))]=[bool ad])/\br ad (∃(m'':
 Mem),Mem.le m m''/\Mem.le m'' m'/\R (int i64 2) m'' []) (∃(m'':Mem),Mem.le m m''/\Mem.le m'' m'/\R (int i64 0) m'' [])))
theorem Zix(aG aD aI aJ aK aE aH:Int)(aB:Option Addr)(aA aC:Nat)(p1a:Option Addr)(p1n p1c:Nat)(p2:Int)(m:Mem)(R:RT)(h:ZfS aG aD aI aJ aK aE aH aB aA aC p1a p1n p1c p2 m R):CX Tryz.prog 38 #[.agg #[.int .u8 aG,.int .u64 aD,.int .u64 aI,.int .u64 aJ,.int .u64 aK,.int .i64 aE,.int .i64 aH,.slice aB aA aC],.slice p1a p1n p1c,.int .i64 p2] m [] R:=
 Zah (E:=ZjB) Zay mix Tryz.func38 [.v (.agg #[.int .u8 aG,.int .u64 aD,.int .u64 aI,.int .u64 aJ,.int .u64 aK,.int .i64 aE,.int .i64 aH,.slice aB aA aC]),.v (.slice p1a p1n p1c),.v (.int .i64 p2)] [] (by kernel_rfl) (Eq.mp (by kernel_rfl) h)
noncomputable def Zlp:Env:={ EB with
 loops:=(λi=>bif Nat.beq i 8 then⟨[(29,.int .i64)],[11],[(33,1)],false⟩ else⟨[],[],[],false⟩)
 dr:=(λi=>bif Nat.beq i 5 then[⟨0,[],[],none,[],[]⟩,⟨1,[],[],none,[],[]⟩,⟨2,[],[],none,[0,1],[]⟩,⟨3,[4],[],none,[],[]⟩,⟨4,[],[],none,[],[]⟩,⟨5,[],[],none,[4],[]⟩,⟨6,[],[],none,[0,1,2,3,4,5],[5]⟩,⟨7,[12],[12],none,[],[]⟩,⟨8,[12],[12],none,[0,1,2,3,4,5,6,7],[]⟩]else[])
 tokOf:=(λi=>bif Nat.beq i 33 then 33 else 0)
 frzNew:=[4]
 frzAt:=(λi=>bif Nat.beq i 28 then[12]else[]) }
def Zgx(aG aD aI aJ aK aE aH:Int)(aB:Option Addr)(aA aC:Nat)(p1a:Option Addr)(p1n p1c:Nat)(p2:Int)(p3:Bool)(m:Mem)(R:RT):Prop:=
 ∀(b:Nat)(m':Mem),Mem.le m m'->Mem.reads m' b 0 [int u8 aG,int u64 aD,int u64 aI,int u64 aJ,int u64 aK,int i64 aE,int i64 aH,slice aB aA aC]->∃(R_1:RT),True/\CX Tryz.prog 38
 (Array.mk [agg (Array.mk [int u8 aG,int u64 aD,int u64 aI,int u64 aJ,int u64 aK,int i64 aE,int i64 aH,slice aB aA aC]),slice p1a p1n p1c,int i64 p2]) m' [] R_1/\Zaz (Shape.int i64) R_1
 /\ ∀(n:Int)(aa:Mem),Mem.le m' aa->R_1 (int i64 n) aa []->br (!n == (0:Int)) (∃(m'':Mem),Mem.le m m''/\Mem.le m'' aa/\R (tuple (Array.mk [slice none 0 0,int i64 n])) m'' []) (∀(a0:Nat),∃(f:Fx),∃
 (R_2:RT),R_2=f 5 [int i64 p2] aa/\CX Tryz.prog 40 (Array.mk [int i64 p2]) aa [] R_2/\Zaz (Shape.agg [Shape.int u64,Shape.int u64,Shape.int u64,Shape.int u64,Shape.int u64,Shape.int u64,Shape.int u64,
 Shape.int u64,Shape.int u64]) R_2/\∀(n an ao ap aq ar au av aw:Int)(m':Mem),Mem.le aa m'->R_2 (agg (Array.mk [int u64 n,int u64 an,int u64 ao,int u64 ap,int u64 aq,int u64 ar,int u64 au,int u64 av,int
 u64 aw])) m' []->∃(R_3:RT),R_3=f 6 [agg (Array.mk [slice p1a p1n p1c,bool p3]),agg (Array.mk [int u8 aG,int u64 aD,int u64 aI,int u64 aJ,int u64 aK,int i64 aE,int i64 aH,slice aB aA
 aC]),agg (Array.mk [int u64 n,int u64 an,int u64 ao,int u64 ap,int u64 aq,int u64 ar,int u64 au,int u64 av,int u64 aw])] m'/\CX Tryz.prog 39 (Array.mk [agg (Array.mk [slice p1a p1n p1c,bool p3]),agg
 (Array.mk [int u8 aG,int u64 aD,int u64 aI,int u64 aJ,int u64 aK,int i64 aE,int i64 aH,slice aB aA aC]),agg (Array.mk [int u64 n,int u64 an,int u64 ao,int u64 ap,int u64 aq,int u64
 ar,int u64 au,int u64 av,int u64 aw])]) m' [] R_3/\Zaz (Shape.agg [Shape.int u64,Shape.int u64,Shape.int u64,Shape.int u64,Shape.int u64,Shape.int u64,Shape.int u64,Shape.int u64,Shape.int u64]) R_3/\∀(n
 ab ac ad ae af ag ah ai:Int) (ax:Mem),Mem.le m' ax->R_3 (agg (Array.mk [int u64 n,int u64 ab,int u64 ac,int u64 ad,int u64 ae,int u64 af,int u64 ag,int u64 ah,int u64 ai])) ax []->∀(aj:Nat)(M:Mem),
 Mem.le aa M->Mem.le m' M->Mem.le ax M->∀(m':Mem),Mem.le M m'->Mem.reads m' aj 0 [int u64 n,int u64 ab,int u64 ac,int u64 ad,int u64 ae,int u64 af,int u64 ag,int u64 ah,int u64 ai]->∃(R_4:RT),True/\
 CX Tryz.prog 65 (Array.mk [Value.pointer (some (Addr.mk aj 0 none))]) m' [] R_4/\Zaz Shape.fn R_4/\∀(g:Nat)(fi ca:List Value)(ak:Mem),Mem.le m' ak->R_4 (func (Fn.func g) (Array.mk fi) (Array.mk ca)) ak []
 -> ∃(xs:List (List Value)),IX Tryz.prog g fi ca ak xs/\(∀(x:List Value),x∈xs->Shape.fitsL [Shape.int i64] x=true)/\∃(I:IT),I [] [[slice none 0 0]] [slice none 0 0] ak 0/\(∀(am:Int) (cs:List
 Value) (a:Option Addr) (a1 c:Nat) (m':Mem) (ay:Nat),Mem.le ak m'->List.get?Internal xs ay=some [int i64 am]->I [] [cs] [slice a a1 c] m' ay->Eng.Zum cs 0 λ(v:Value)=>∀(al:Nat),Mem.free m' al->
 chk (Zel v&&true) ((Tok.mk (slice a a1 c) 1=Tok.mk v 1\/v=slice none 0 0\/slC v < slN v+1)/\∃(xs:List Value),∃(ys:List Value),List.length xs=slN v*1/\List.length ys=1*1/\rowRd (Mem.add m'
 al [int i64 am]) (slA v) xs/\rowRd (Mem.add m' al [int i64 am]) (some (Addr.mk al 0 none)) ys/\(∀(u:Value),u∈ys->Value.oneCell' u=true)/\(slN v+1)*8<=140737488355328/\slN v+1<=9223372036854775807/\
 ∀(a':Option Addr)(c':Nat)(az:Mem),Mem.le (Mem.add m' al [int i64 am]) az->rowRd az a' (List.append xs ys)->[some (Box.mk aj [int u64 n,int u64 ab,int u64 ac,int u64 ad,int u64 ae,int u64 af,int u64 ag,
 int u64 ah,int u64 ai] 75 9 true true),some (Box.mk aj [int u64 n,int u64 ab,int u64 ac,int u64 ad,int u64 ae,int u64 af,int u64 ag,int u64 ah,int u64 ai] 75 9 true true),some (Box.mk a0 [] 44 1 false true),
 some (Box.mk b [int u8 aG,int u64 aD,int u64 aI,int u64 aJ,int u64 aK,int i64 aE,int i64 aH,slice aB aA aC] 30 8 true true)]=[some (Box.mk aj [int u64 n,int u64 ab,int u64 ac,int u64
 ad,int u64 ae,int u64 af,int u64 ag,int u64 ah,int u64 ai] 75 9 true true),some (Box.mk aj [int u64 n,int u64 ab,int u64 ac,int u64 ad,int u64 ae,int u64 af,int u64 ag,int u64 ah,int u64 ai] 75 9 true
 true),some (Box.mk a0 [] 44 1 false true),some (Box.mk b [int u8 aG,int u64 aD,int u64 aI,int u64 aJ,int u64 aK,int i64 aE,int i64 aH,slice aB aA aC] 30 8 true true)]/\I [] [[slice a'
 (slN v+1) c']] [slice a' (slN v+1) c'] az (ay+1)))/\∀(cs:List Value)(a:Option Addr)(n c:Nat)(m':Mem),Mem.le ak m'->I [] [cs] [slice a n c] m' (List.length xs)->Eng.Zum cs 0 λ(v:Value)=>∃
 (m'':Mem),Mem.le m m''/\Mem.le m'' m'/\R (tuple (Array.mk [v,int i64 0])) m'' [])
theorem ZjC(aG aD aI aJ aK aE aH:Int)(aB:Option Addr)(aA aC:Nat)(p1a:Option Addr)(p1n p1c:Nat)(p2:Int)(p3:Bool)(m:Mem)(R:RT)(h:Zgx aG aD aI aJ aK aE aH aB aA aC p1a p1n p1c p2 p3 m R):CX Tryz.prog 48 #[.agg #[.int .u8 aG,.int .u64 aD,.int .u64 aI,.int .u64 aJ,.int .u64 aK,.int .i64 aE,.int .i64 aH,.slice aB aA aC],.slice p1a p1n p1c,.int .i64 p2,.bool p3] m [] R:=
 Zah (E:=Zlp) Zay mix Tryz.func48 [.v (.agg #[.int .u8 aG,.int .u64 aD,.int .u64 aI,.int .u64 aJ,.int .u64 aK,.int .i64 aE,.int .i64 aH,.slice aB aA aC]),.v (.slice p1a p1n p1c),.v (.int .i64 p2),.v (.bool p3)] [] (by kernel_rfl) (Eq.mp (by kernel_rfl) h)
noncomputable def Zlq:Env:={ EB with
 frzNew:=[3] }
def Zgy(aG aD aI aJ aK aE aH:Int)(aB:Option Addr)(aA aC:Nat)(p1a:Option Addr)(p1n p1c:Nat)(p2:Int)(m:Mem)(R:RT):Prop:=
 ∀(b:Nat)(m':Mem),Mem.le m m'->Mem.reads m' b 0 [int u8 aG,int u64 aD,int u64 aI,int u64 aJ,int u64 aK,int i64 aE,int i64 aH,slice aB aA aC]->∃(R_1:RT),True/\CX Tryz.prog 48
 (Array.mk [agg (Array.mk [int u8 aG,int u64 aD,int u64 aI,int u64 aJ,int u64 aK,int i64 aE,int i64 aH,slice aB aA aC]),slice p1a p1n p1c,int i64 p2,bool false]) m' [] R_1/\Zaz
 (Shape.tup [Shape.slice,Shape.int i64]) R_1/\∀(a:Option Addr)(n c:Nat)(n_1:Int)(m'_1:Mem),Mem.le m' m'_1->R_1 (tuple (Array.mk [slice a n c,int i64 n_1])) m'_1 []->∃(m'':Mem),Mem.le m m''/\Mem.le
 m'' m'_1/\R (tuple (Array.mk [slice a n c,int i64 n_1])) m'' []
theorem ZjD(aG aD aI aJ aK aE aH:Int)(aB:Option Addr)(aA aC:Nat)(p1a:Option Addr)(p1n p1c:Nat)(p2:Int)(m:Mem)(R:RT)(h:Zgy aG aD aI aJ aK aE aH aB aA aC p1a p1n p1c p2 m R):CX Tryz.prog 13 #[.agg #[.int .u8 aG,.int .u64 aD,.int .u64 aI,.int .u64 aJ,.int .u64 aK,.int .i64 aE,.int .i64 aH,.slice aB aA aC],.slice p1a p1n p1c,.int .i64 p2] m [] R:=
 Zah (E:=Zlq) Zay mix Tryz.func13 [.v (.agg #[.int .u8 aG,.int .u64 aD,.int .u64 aI,.int .u64 aJ,.int .u64 aK,.int .i64 aE,.int .i64 aH,.slice aB aA aC]),.v (.slice p1a p1n p1c),.v (.int .i64 p2)] [] (by kernel_rfl) (Eq.mp (by kernel_rfl) h)
noncomputable def ZhQ:Env:={ EB with
 dr:=(λi=>bif Nat.beq i 4 then[⟨0,[],[],none,[],[]⟩,⟨1,[],[],none,[0],[]⟩,⟨2,[2],[],none,[],[]⟩,⟨3,[],[],none,[],[]⟩,⟨4,[],[],none,[0,1,2,3],[3]⟩,⟨5,[7],[7],none,[],[]⟩,⟨6,[7],[7],none,[0,1,2,3,4,5],[]⟩]else[])
 frzNew:=[2]
 frzAt:=(λi=>bif Nat.beq i 21 then[7]else[]) }
def Zec(aG aD aI aJ aK aE aH:Int)(aB:Option Addr)(aA aC:Nat)(p1a:Option Addr)(p1n p1c:Nat)(m:Mem)(R:RT):Prop:=
 ∀(b:Nat)(m':Mem),Mem.le m m'->Mem.reads m' b 0 [int u8 aG,int u64 aD,int u64 aI,int u64 aJ,int u64 aK,int i64 aE,int i64 aH,slice aB aA aC]->∃(R_1:RT),True/\CX Tryz.prog 38
 (Array.mk [agg (Array.mk [int u8 aG,int u64 aD,int u64 aI,int u64 aJ,int u64 aK,int i64 aE,int i64 aH,slice aB aA aC]),slice p1a p1n p1c,int i64 0]) m' [] R_1/\Zaz (Shape.int i64) R_1/\
 ∀(n:Int)(aa:Mem),Mem.le m' aa->R_1 (int i64 n) aa []->br (!n == (0:Int)) (∃(m'':Mem),Mem.le m m''/\Mem.le m'' aa/\R (tuple (Array.mk [bool false,int i64 n])) m'' []) (∃(f:Fx),∃(R_2:RT),R_2=f
 3 [int i64 0] aa/\CX Tryz.prog 40 (Array.mk [int i64 0]) aa [] R_2/\Zaz (Shape.agg [Shape.int u64,Shape.int u64,Shape.int u64,Shape.int u64,Shape.int u64,Shape.int u64,Shape.int u64,Shape.int u64,Shape.int
 u64]) R_2/\∀(n ab ac ad ae af ag ah ai:Int)(m':Mem),Mem.le aa m'->R_2 (agg (Array.mk [int u64 n,int u64 ab,int u64 ac,int u64 ad,int u64 ae,int u64 af,int u64 ag,int u64 ah,int u64 ai])) m' []->∃(R_3
 : RT),R_3=f 4 [agg (Array.mk [slice p1a p1n p1c,bool false]),agg (Array.mk [int u8 aG,int u64 aD,int u64 aI,int u64 aJ,int u64 aK,int i64 aE,int i64 aH,slice aB aA aC]),agg (Array.mk
 [int u64 n,int u64 ab,int u64 ac,int u64 ad,int u64 ae,int u64 af,int u64 ag,int u64 ah,int u64 ai])] m'/\CX Tryz.prog 39 (Array.mk [agg (Array.mk [slice p1a p1n p1c,bool false]),agg (Array.mk [int u8 aG,
 int u64 aD,int u64 aI,int u64 aJ,int u64 aK,int i64 aE,int i64 aH,slice aB aA aC]),agg (Array.mk [int u64 n,int u64 ab,int u64 ac,int u64 ad,int u64 ae,int u64 af,int u64 ag,int u64
 ah,int u64 ai])]) m' [] R_3/\Zaz (Shape.agg [Shape.int u64,Shape.int u64,Shape.int u64,Shape.int u64,Shape.int u64,Shape.int u64,Shape.int u64,Shape.int u64,Shape.int u64]) R_3/\∀(n al am an ao ap aq ar au
 : Int) (aj:Mem),Mem.le m' aj->R_3 (agg (Array.mk [int u64 n,int u64 al,int u64 am,int u64 an,int u64 ao,int u64 ap,int u64 aq,int u64 ar,int u64 au])) aj []->∀(b:Nat)(M:Mem),Mem.le aa M->Mem.le m' M
 -> Mem.le aj M->∀(m':Mem),Mem.le M m'->Mem.reads m' b 0 [int u64 n,int u64 al,int u64 am,int u64 an,int u64 ao,int u64 ap,int u64 aq,int u64 ar,int u64 au]->∃(R_4:RT),True/\CX Tryz.prog 41 (Array.mk
 [Value.pointer (some (Addr.mk b 0 none)),int i64 (↑p1n:Int)]) m' [] R_4/\Zaz Shape.bool R_4/\∀(b:Bool)(ak:Mem),Mem.le m' ak->R_4 (bool b) ak []->∃(m'':Mem),Mem.le m m''/\Mem.le m'' ak/\R (tuple
 (Array.mk [bool b,int i64 0])) m'' [])
theorem ZgX(aG aD aI aJ aK aE aH:Int)(aB:Option Addr)(aA aC:Nat)(p1a:Option Addr)(p1n p1c:Nat)(m:Mem)(R:RT)(h:Zec aG aD aI aJ aK aE aH aB aA aC p1a p1n p1c m R):CX Tryz.prog 9 #[.agg #[.int .u8 aG,.int .u64 aD,.int .u64 aI,.int .u64 aJ,.int .u64 aK,.int .i64 aE,.int .i64 aH,.slice aB aA aC],.slice p1a p1n p1c] m [] R:=
 Zah (E:=ZhQ) Zay mix Tryz.func9 [.v (.agg #[.int .u8 aG,.int .u64 aD,.int .u64 aI,.int .u64 aJ,.int .u64 aK,.int .i64 aE,.int .i64 aH,.slice aB aA aC]),.v (.slice p1a p1n p1c)] [] (by kernel_rfl) (Eq.mp (by kernel_rfl) h)
noncomputable def ZdR:Env:={ EB with
 loops:=(λi=>bif Nat.beq i 4 then⟨[(13,.int .i64)],[],[],false⟩ else⟨[],[],[],false⟩)
 dr:=(λi=>bif Nat.beq i 6 then[⟨0,[],[],none,[],[]⟩,⟨1,[],[],none,[],[]⟩,⟨2,[],[],none,[0,1],[]⟩,⟨3,[],[],none,[0,1,2],[]⟩,⟨4,[],[],none,[],[]⟩,⟨5,[],[],none,[],[]⟩,⟨6,[],[],none,[4,5],[]⟩,⟨7,[],[],none,[4,5,6],[]⟩,⟨8,[],[],none,[0,1,2,3,4,5,6,7],[]⟩]else[]) }
def Zcb(p0a:Option Addr)(p0n p0c:Nat)(p1a:Option Addr)(p1n p1c:Nat)(m:Mem)(R:RT):Prop:=
 br (!(↑p0n:Int) == (↑p1n:Int)) (∃(m'':Mem),Mem.le m m''/\Mem.le m'' m/\R (bool false) m'' []) (∃(I:IT),(∃(n:Nat),I [int i64 0] [] [] m n)/\∀(n:Int)(m':Mem)(n_1:Nat),Mem.le m m'->I [int i64
 n] [] [] m' n_1->br (decide (n < (↑p0n:Int))) (∃(b:Nat),∃(o:Nat),p0a=some (Addr.mk b o none)/\Zag n p0n/\∃(v:Value),m' b (o+Int.toNat n*1)=some v/\∃(b:Nat),∃(o:Nat),p1a=some
 (Addr.mk b o none)/\Zag n p1n/\∃(v_1:Value),m' b (o+Int.toNat n*1)=some v_1/\chk (ZaS i64 v&&ZaS i64 v_1) (br (!RowKit.intOf v == RowKit.intOf v_1) (∃(m'':Mem),Mem.le m m''/\Mem.le m'' m'/\R
 (bool false) m'' []) (∃(n':Nat),n' < n_1/\I [int i64 (IntKind.wrap i64 (n+(1:Int)))] [] [] m' n'))) (∃(m'':Mem),Mem.le m m''/\Mem.le m'' m'/\R (bool true) m'' []))
theorem ZdF(p0a:Option Addr)(p0n p0c:Nat)(p1a:Option Addr)(p1n p1c:Nat)(m:Mem)(R:RT)(h:Zcb p0a p0n p0c p1a p1n p1c m R):CX Tryz.prog 16 #[.slice p0a p0n p0c,.slice p1a p1n p1c] m [] R:=
 Zah (E:=ZdR) Zay mix Tryz.func16 [.v (.slice p0a p0n p0c),.v (.slice p1a p1n p1c)] [] (by kernel_rfl) (Eq.mp (by kernel_rfl) h)
end Go.Proofs.YtgclajkldphoaaaGreat
namespace Go.Proofs.YtgclajkldphoaaaGreat
open Go Go.Eng Go.Rx Go.Proofs Go.RowKit
set_option maxRecDepth 100000
theorem Zyd(i:Nat):Int.tdiv (i:Int) 64=((i / 64:Nat):Int):=rfl
theorem Zsv(i:Nat):Int.tmod (i:Int) 64=((i % 64:Nat):Int):=rfl
theorem Zye(i:Nat)(h:i < 576)(m:Mem):CX Tryz.prog 40 #[.int .i64 i] m [] (Ret (plV (2 ^ i))):=by
 apply Znl
 unfold Ziw
 intro b b2
 have hq:IntKind.i64.wrap (Int.tdiv (i:Int) 64)=((i / 64:Nat):Int):=by rw[Zyd];exact ZaN (by omega) (by omega)
 have hr:IntKind.u64.wrap (1*2 ^ min (Int.toNat (Int.tmod (i:Int) 64)) 64)=((2 ^ (i % 64):Nat):Int):=by
  rw[Zsv,Int.toNat_natCast,Nat.min_eq_left (by omega),Int.one_mul]
  have:=ZwM (2 ^ (i % 64)) (by
   have:2 ^ (i % 64) < 2 ^ 64:=Nat.pow_lt_pow_right (by omega) (by omega)
   exact this)
  rw[<-this];push_cast;rfl
 have hs:=ZAq (q:=i / 64) (r:=i % 64) (by omega) (by omega)
 rw[show 64*(i / 64)+i % 64=i by omega]at hs
 simp only[hq,hr,Int.toNat_natCast,Nat.zero_add,Nat.mul_one,hs]
 refine⟨by omega,by omega,by rw[Zsv];omega,⟨by omega,by omega⟩,Zaa (by rw[Nat.ble_eq];omega) (Zaa rfl (Zaf (Mem.le_refl _) rfl))⟩
theorem ZpB(f i:Nat)(h:i < 576)(b:Nat)(m:Mem)(hb:m.reads b 0 (plL f)):CX Tryz.prog 41 #[.pointer (some ⟨b,0,none⟩),.int .i64 i] m [] (Ret (.bool (f.testBit i))):=by
 apply Ze5
 unfold ZcW
 have hq:IntKind.i64.wrap (Int.tdiv (i:Int) 64)=((i / 64:Nat):Int):=by rw[Zyd];exact ZaN (by omega) (by omega)
 simp only[hq,Int.toNat_natCast,Nat.zero_add,Nat.mul_one]
 have wt:(wdN f (i / 64)).testBit (i % 64)=f.testBit i:=by
  rw[ZoS,show 64*(i / 64)+i % 64=i by omega];simp;omega
 refine⟨by omega,⟨by omega,by omega⟩,_,(by have:=hb (i / 64) _ (ZuK (by omega));simpa using this),by omega,Zaa rfl ⟨by rw[Zsv];omega,Zaf (Mem.le_refl _) ?_⟩⟩
 rw[Zsv,Int.toNat_natCast,Nat.min_eq_left (by omega)]
 show Value.bool (IntKind.u64.wrap _ == 1)=_
 simp only[intOf]
 rw[ZrJ _ _ (ZvK _ _),wt]
theorem Zyf(f g:Nat)(m:Mem):CX Tryz.prog 86 #[plV f,plV g] m [] (Ret (plV (f|||g))):=by
 apply ZfO
 unfold Zdg
 intro b b1 m1 bH _ b2
 refine⟨λxs css _ m' q=>∃k:Nat,k<=9/\xs=[.int .i64 k]/\css=[orL f g k]/\m1.le m'/\q=9 - k,⟨9,0,by omega,rfl,rfl,Mem.le_refl _,rfl⟩,?_⟩
 rintro n cs m2 q bL ⟨k,hk,hn,cQ,_,hq⟩
 obtain rfl:n=k:=by simpa using hn
 obtain rfl:cs=orL f g k:=by simpa using cQ
 refine Zab (λbF=>?_) (λcR=>?_)
 ·have bI:k < 9:=by have:=of_decide_eq_true bF;omega
  have h1:=Zxv (f:=f) (g:=g) (k:=k) bI
  rw[if_neg (by omega)]at h1
  have h2:=ZuK (f:=g) bI
  simp only[Int.toNat_natCast,Nat.zero_add,Nat.mul_one]
  refine⟨⟨by omega,by omega⟩,Zar h1 ⟨⟨by omega,by omega⟩,Zar h2 (Zaa rfl ⟨⟨by omega,by omega⟩,Zaa (by rw[Nat.ble_eq];simp[orL];omega) ⟨by trivial,9 - (k+1),by omega,k+1,by omega,?_,?_,mLt (by assumption) (Mem.le_refl _),rfl⟩⟩)⟩⟩
  ·rw[ZaN (by omega) (by omega)];rfl
  ·show[ZaH _ _ [Value.int .u64 (IntKind.u64.wrap _)]]=_
   simp only[intOf]
   rw[ZrI _ _ (ZvK _ _) (ZvK _ _),ZvL bI]
 ·have:k=9:=by have:=of_decide_eq_false cR;omega
  subst this
  exact Zaa (by rfl) (Zaf (mLt bH bL) rfl)
theorem ZtW(f k:Nat)(h:k<=513):(ZdK f).take (((List.range k).filter λi=>f.testBit i).length)=(List.range k).filter λi=>f.testBit i:=by
 have e:List.range 513=List.range k++(List.range 513).drop k:=by
  have:=(List.take_append_drop k (List.range 513)).symm
  rwa [List.take_range,Nat.min_eq_left h]at this
 unfold ZdK
 conv=>lhs;rw[e,List.filter_append]
 rw[List.take_left']
 rfl
theorem Zyg(f k:Nat)(h:k < 513)(hb:f.testBit k=true):(ZdK f)[((List.range k).filter λi=>f.testBit i).length]?=some k:=by
 have h1:=ZtW f (k+1) (by omega)
 have e:(List.range (k+1)).filter (λi=>f.testBit i)=(List.range k).filter (λi=>f.testBit i)++[k]:=by
  rw[List.range_succ,List.filter_append];simp[hb]
 rw[e]at h1
 have h2:=congrArg (λl=>l[((List.range k).filter λi=>f.testBit i).length]?) h1
 simpa[List.getElem?_take]using h2
theorem Zyh(f:Nat)(b c:Nat)(m:Mem)(hb:m.reads b 0 (plL f))(hc:m.reads c 0 [.pointer (some ⟨b,0,none⟩)]):IX Tryz.prog 95 [] [.pointer (some ⟨c,0,none⟩)] m ((ZdK f).map λi=>[.int .i64 (i:Nat)]):=by
 apply ZdL 0 [] [] c 0
 unfold Zcl
 intro l
 refine⟨λxs _ _ m' q=>∃k:Nat,k<=513/\xs=[.int .i64 (((List.range k).filter λi=>f.testBit i).length:Nat),.int .i64 k]/\m.le m'/\q=513 - k,⟨513,0,by omega,rfl,Mem.le_refl _,rfl⟩,?_⟩
 rintro y n m1 q bH ⟨k,hk,cJ,_,hq⟩
 simp only[List.cons.injEq,Value.int.injEq,true_and,and_true]at cJ
 obtain⟨rfl,rfl⟩:=cJ
 have bY:((List.range (k+1)).filter λi=>f.testBit i).length=((List.range k).filter λi=>f.testBit i).length+(if f.testBit k then 1 else 0):=by
  rw[List.range_succ,List.filter_append,List.length_append];simp[List.filter_cons];split <;> simp
 refine Zab (λbF=>?_) (λcR=>?_)
 ·have bI:k < 513:=by have:=of_decide_eq_true bF;omega
  refine⟨_,bH _ _ _ (hc 0 _ rfl),Zax (ZpB f k (by omega) b m1 (hb.mono bH)) λm2 bL=>Zab (λh=>?_) (λh=>?_)⟩
  ·refine⟨⟨rfl,by omega,?_⟩,⟨513 - (k+1),by omega,k+1,by omega,?_,mLt bH bL,rfl⟩,.inr rfl⟩
   ·rw[Int.toNat_natCast]
    show((ZdK f).map λi=>[Value.int .i64 (i:Nat)])[((List.range k).filter λi=>f.testBit i).length]?=_
    rw[List.getElem?_map,Zyg f k bI h];rfl
   ·rw[bY,if_pos h,ZaN (by omega) (by omega)];rfl
  ·refine⟨513 - (k+1),by omega,k+1,by omega,?_,mLt bH bL,rfl⟩
   rw[bY,if_neg (by simp[h]),ZaN (by omega) (by omega)];rfl
 ·have:k=513:=by have:=of_decide_eq_false cR;omega
  subst this
  left
  simp[ZdK]
theorem Zzu(f b:Nat)(m:Mem)(hb:m.reads b 0 (plL f)):CX Tryz.prog 65 #[.pointer (some ⟨b,0,none⟩)] m [] (λv m' _=>∃c,v=.func (.func 95) #[] #[.pointer (some ⟨c,0,none⟩)]/\m'.reads c 0 [.pointer (some ⟨b,0,none⟩)]):=by
 apply Ze6
 unfold ZcX
 intro c m1 bH hc
 exact⟨m1,bH,Mem.le_refl _,c,rfl,hc⟩
theorem sh6:∀c:Nat,c < 256->IntKind.u8.wrap ((BitVec.ofInt 8 (c:Int)&&&BitVec.ofInt 8 63).toNat:Int)=((c % 64:Nat):Int)/\Int.fdiv (c:Int) (2 ^ 6)=((c / 64:Nat):Int):=by decide
theorem Zsw(t:T)(c:Nat)(hc:c < 256)(m:Mem)(hr:Rep m t):CX Tryz.prog 92 #[.agg #[.int .u64 t.s0,.int .u64 t.s1,.int .u64 t.s2,.int .u64 t.s3],.int .u8 c] m [] (Ret (.bool (t.hasB c))):=by
 apply ZpA
 unfold Zkj
 intro b m1 bH _
 obtain⟨h1,h2⟩:=sh6 c hc
 simp only[h1,h2,Int.toNat_natCast,Nat.zero_add,Nat.mul_one]
 have bZ:=ZvH hr
 have hw:∃w:Int,[Value.int .u64 t.s0,.int .u64 t.s1,.int .u64 t.s2,.int .u64 t.s3][c / 64]?=some (.int .u64 w)/\0<=w/\w < 18446744073709551616/\t.hasB c=w.toNat.testBit (c % 64):=by
  have:c / 64=0\/c / 64=1\/c / 64=2\/c / 64=3:=by omega
  unfold T.hasB
  rcases this with e|e|e|e
  ·exact⟨t.s0,by rw[e];rfl,bZ.s0.1,bZ.s0.2,by simp[e]⟩
  ·exact⟨t.s1,by rw[e];rfl,bZ.s1.1,bZ.s1.2,by simp[e]⟩
  ·exact⟨t.s2,by rw[e];rfl,bZ.s2.1,bZ.s2.2,by simp[e]⟩
  ·exact⟨t.s3,by rw[e];rfl,bZ.s3.1,bZ.s3.2,by simp[e]⟩
 obtain⟨w,eM,dS,oC,uF⟩:=hw
 refine⟨by omega,⟨by omega,by omega⟩,Zar eM (Zaa rfl ⟨by omega,Zaf bH ?_⟩)⟩
 rw[uF,Nat.min_eq_left (by omega)]
 obtain⟨n,rfl⟩:∃n:Nat,w=n:=⟨w.toNat,by omega⟩
 show Value.bool (IntKind.u64.wrap _ == 1)=_
 simp only[intOf]
 rw[ZrJ _ _ (by omega)]
 simp
end Go.Proofs.YtgclajkldphoaaaGreat
namespace Go.Proofs.YtgclajkldphoaaaGreat
open Go Go.Eng Go.Proofs Go.RowKit Go.Rx
theorem Zyi(a b c d e f g h i a' b' c' d' e' f' g' h' i':Int):EqIs Tryz.prog 75 (.agg #[.int .u64 a,.int .u64 b,.int .u64 c,.int .u64 d,.int .u64 e,.int .u64 f,.int .u64 g,.int .u64 h,.int .u64 i]) (.agg #[.int .u64 a',.int .u64 b',.int .u64 c',.int .u64 d',.int .u64 e',.int .u64 f',.int .u64 g',.int .u64 h',.int .u64 i']) (a == a'&&(b == b'&&(c == c'&&(d == d'&&(e == e'&&(f == f'&&(g == g'&&(h == h'&&i == i')))))))):=by
 refine⟨λw=>?_,λop ox oy w=>Zer (by kernel_rfl) op ox oy _ _ w⟩
 have u3:=Tryz.underlying25
 have a3:=Tryz.isAgg25
 have z3:=Tryz.sizeOf25
 rw[Op.equal,Op.maxDepth,show(10000:Nat)=9999+1 from rfl,Op.equalIn]
 simp only[Sem.run_bind,run_underlying Tryz.underlying75,Result.andThen_ok]
 simp only[Std.Legacy.Range.forIn_eq_forIn_range',Std.Legacy.Range.size,Nat.sub_zero,Nat.add_sub_cancel,Nat.div_one,List.range'_succ,List.range'_zero,List.forIn_cons,List.forIn_nil]
 go_simp
 by_cases h1:a=a'
 ·by_cases h2:b=b'
  ·by_cases h3:c=c'
   ·by_cases h4:d=d'
    ·by_cases h5:e=e'
     ·by_cases h6:f=f'
      ·by_cases h7:g=g'
       ·by_cases h8:h=h'
        ·by_cases h9:i=i' <;> simp[h1,h2,h3,h4,h5,h6,h7,h8,h9]
        ·simp[h1,h2,h3,h4,h5,h6,h7,h8]
       ·simp[h1,h2,h3,h4,h5,h6,h7]
      ·simp[h1,h2,h3,h4,h5,h6]
     ·simp[h1,h2,h3,h4,h5]
    ·simp[h1,h2,h3,h4]
   ·simp[h1,h2,h3]
  ·simp[h1,h2]
 ·simp[h1]
theorem ZAB{f g:Nat}(hf:f < ZcC)(hg:g < ZcC):EqIs Tryz.prog 75 (plV f) (plV g) (f == g):=by
 have h:=Zyi (wdN f 0:Nat) (wdN f 1:Nat) (wdN f 2:Nat) (wdN f 3:Nat) (wdN f 4:Nat) (wdN f 5:Nat) (wdN f 6:Nat) (wdN f 7:Nat) (wdN f 8:Nat) (wdN g 0:Nat) (wdN g 1:Nat) (wdN g 2:Nat) (wdN g 3:Nat) (wdN g 4:Nat) (wdN g 5:Nat) (wdN g 6:Nat) (wdN g 7:Nat) (wdN g 8:Nat)
 have e:(((wdN f 0:Nat):Int) == (wdN g 0:Nat)&&(((wdN f 1:Nat):Int) == (wdN g 1:Nat)&&(((wdN f 2:Nat):Int) == (wdN g 2:Nat)&&(((wdN f 3:Nat):Int) == (wdN g 3:Nat)&&(((wdN f 4:Nat):Int) == (wdN g 4:Nat)&&(((wdN f 5:Nat):Int) == (wdN g 5:Nat)&&(((wdN f 6:Nat):Int) == (wdN g 6:Nat)&&(((wdN f 7:Nat):Int) == (wdN g 7:Nat)&&((wdN f 8:Nat):Int) == (wdN g 8:Nat)))))))))=(f == g):=by
  rw[Bool.eq_iff_iff]
  simp only[Bool.and_eq_true,beq_iff_eq,Int.natCast_inj]
  constructor
  ·rintro⟨h0,h1,h2,h3,h4,h5,h6,h7,h8⟩
   refine Zzl hf hg λj hj=>?_
   have:j=0\/j=1\/j=2\/j=3\/j=4\/j=5\/j=6\/j=7\/j=8:=by omega
   rcases this with rfl|rfl|rfl|rfl|rfl|rfl|rfl|rfl|rfl
   ·exact h0
   ·exact h1
   ·exact h2
   ·exact h3
   ·exact h4
   ·exact h5
   ·exact h6
   ·exact h7
   ·exact h8
  ·rintro rfl;simp
 rw[e]at h
 exact h
end Go.Proofs.YtgclajkldphoaaaGreat