/- Part of the proof: conditions and contracts of functions of this program. No condition of its own. -/
import Derived.Test.YtgclajkldphoaaaPEnv
import Derived.Test.YtgclajkldphoaaaPVC
import Derived.Test.YtgclajkldphoaaaMr
import Derived.Test.YtgclajkldphoaaaPC13Q
set_option linter.unusedVariables false
set_option linter.unusedSimpArgs false
set_option linter.unusedSectionVars false
namespace Go.Proofs.Ytgclajkldphoaaa
open Go Go.Eng Go.Proofs Go.RowKit
open Go.Value (int slice agg bool string tuple func)
open Go.IntKind (u8 u64 i64)
set_option maxRecDepth 100000
noncomputable def ZpB:Env:=EB
def ZiJ(p0:Int)(m:Mem)(R:RT):Prop:=
 ∀(b b:Nat),(64:Int)≠(0:Int)/\(64:Int)≠(0:Int)/\(0:Int)<=Int.tmod p0 (64:Int)/\Zaj (IntKind.wrap i64 (Int.tdiv p0 (64:Int))) 9/\chk (Nat.ble (0+Int.toNat (IntKind.wrap i64 (Int.tdiv p0
 (64:Int)))*1) (nat_lit 8)) (chk (Nat.beq (List.length (ZaG (List.replicate 9 (int u64 0)) (0+Int.toNat (IntKind.wrap i64 (Int.tdiv p0 (64:Int)))*1) [int u64 (IntKind.wrap u64 ((1:Int)*(2:Int) ^ min
 (Int.toNat (Int.tmod p0 (64:Int))) 64))])) 9&&Zfn (ZaG (List.replicate 9 (int u64 0)) (0+Int.toNat (IntKind.wrap i64 (Int.tdiv p0 (64:Int)))*1) [int u64 (IntKind.wrap u64 ((1:Int)*(2:Int) ^ min
 (Int.toNat (Int.tmod p0 (64:Int))) 64))])) (∃(m'':Mem),Mem.le m m''/\Mem.le m'' m/\R (agg (Array.mk (ZaG (List.replicate 9 (int u64 0)) (0+Int.toNat (IntKind.wrap i64 (Int.tdiv p0 (64:Int)))*1) [int u64
 (IntKind.wrap u64 ((1:Int)*(2:Int) ^ min (Int.toNat (Int.tmod p0 (64:Int))) 64))]))) m'' []))
theorem Znt(p0:Int)(m:Mem)(R:RT)(h:ZiJ p0 m R):CX Try.prog 65 #[.int .i64 p0] m [] R:=
 Zah (E:=ZpB) Zay mix Try.func65 [.v (.int .i64 p0)] [] (by kernel_rfl) (Eq.mp (by kernel_rfl) h)
noncomputable def ZfS:Env:=EB
def Zc4(p0b p0o:Nat)(p1:Int)(m:Mem)(R:RT):Prop:=
 (64:Int)≠(0:Int)/\Zaj (IntKind.wrap i64 (Int.tdiv p1 (64:Int))) 9/\∃(v:Value),m p0b (p0o+Int.toNat (IntKind.wrap i64 (Int.tdiv p1 (64:Int)))*1)=some v/\(64:Int)≠(0:Int)/\chk (ZaX u64
 v&&true) ((0:Int)<=Int.tmod p1 (64:Int)/\∃(m'':Mem),Mem.le m m''/\Mem.le m'' m/\R (bool (IntKind.wrap u64 (↑(BitVec.toNat (BitVec.ofInt 64 (Int.fdiv (RowKit.intOf v) ((2:Int) ^ min (Int.toNat (Int.tmod
 p1 (64:Int))) 64))&&&BitVec.ofInt 64 (1:Int))):Int) == (1:Int))) m'' [])
theorem Zfe(p0b p0o:Nat)(p1:Int)(m:Mem)(R:RT)(h:Zc4 p0b p0o p1 m R):CX Try.prog 66 #[.pointer (some ⟨p0b,p0o,none⟩),.int .i64 p1] m [] R:=
 Zah (E:=ZfS) Zay mix Try.func66 [.v (.pointer (some ⟨p0b,p0o,none⟩)),.v (.int .i64 p1)] [] (by kernel_rfl) (Eq.mp (by kernel_rfl) h)
noncomputable def Zgl:Env:={ EB with
 loops:=(λi=>bif Nat.beq i 2 then⟨[(6,.int .i64)],[2],[],false⟩ else⟨[],[],[],false⟩)
 dr:=(λi=>bif Nat.beq i 4 then[⟨0,[],[],none,[],[]⟩,⟨1,[2],[],none,[0],[]⟩,⟨2,[2],[],none,[0,1],[]⟩,⟨3,[],[],none,[],[]⟩,⟨4,[3],[],none,[3],[]⟩,⟨5,[3],[],none,[3,4],[]⟩,⟨6,[],[],none,[0,1,2,3,4,5],[]⟩,⟨7,[2],[],none,[0,1,2,3,4,5,6],[]⟩,⟨8,[2],[2],none,[0,1,2,3,4,5,6,7],[]⟩]else[])
 frzNew:=[3] }
def Zdr(aG aD aI aJ aK aE aH eR eS aU aO aP aQ aR aS aT cC cD:Int)(m:Mem)(R:RT):Prop:=
 ∀(b b_1:Nat)(m':Mem),Mem.le m m'->Mem.reads m' b_1 0 [int u64 aU,int u64 aO,int u64 aP,int u64 aQ,int u64 aR,int u64 aS,int u64 aT,int u64 cC,int u64 cD]->∀(b_2:Nat),∃(I:IT),(∃
 (n:Nat),I [int i64 0] [[int u64 aG,int u64 aD,int u64 aI,int u64 aJ,int u64 aK,int u64 aE,int u64 aH,int u64 eR,int u64 eS]] [] m' n)/\∀(n:Int)(cs:List Value)(m'_1:Mem) (n_1:
 Nat),Mem.le m' m'_1->I [int i64 n] [cs] [] m'_1 n_1->br (decide (n < (9:Int))) (Zaj n 9/\Eng.Zub cs (0+Int.toNat n*1) λ(v:Value)=>Zaj n 9/\Eng.Zub [int u64 aU,int u64 aO,int u64 aP,
 int u64 aQ,int u64 aR,int u64 aS,int u64 aT,int u64 cC,int u64 cD] (0+Int.toNat n*1) λ(v_1:Value)=>chk (ZaX u64 v&&ZaX u64 v_1) (Zaj n 9/\chk (Nat.ble (0+Int.toNat n*1+1)
 (List.length cs)) ([some (Box.mk b_2 (List.replicate 9 (int u64 0)) 119 9 false true),some (Box.mk b_1 [int u64 aU,int u64 aO,int u64 aP,int u64 aQ,int u64 aR,int u64 aS,int u64 aT,int u64 cC,
 int u64 cD] 119 9 true true),some (Box.mk b [] 119 9 false true)]=[some (Box.mk b_2 (List.replicate 9 (int u64 0)) 119 9 false true),some (Box.mk b_1 [int u64 aU,int u64 aO,int u64 aP,int u64 aQ,int
 u64 aR,int u64 aS,int u64 aT,int u64 cC,int u64 cD] 119 9 true true),some (Box.mk b [] 119 9 false true)]/\∃(n':Nat),n' < n_1/\I [int i64 (IntKind.wrap i64 (n+(1:Int)))] [ZaG cs (0 +
 Int.toNat n*1) [int u64 (IntKind.wrap u64 (↑(BitVec.toNat (BitVec.ofInt 64 (RowKit.intOf v)|||BitVec.ofInt 64 (RowKit.intOf v_1))):Int))]] [] m'_1 n'))) (chk (Nat.beq (List.length cs) 9&&Zfn cs) (∃(m'':
 Mem),Mem.le m m''/\Mem.le m'' m'_1/\R (agg (Array.mk cs)) m'' []))
theorem ZfT(aG aD aI aJ aK aE aH eR eS aU aO aP aQ aR aS aT cC cD:Int)(m:Mem)(R:RT)(h:Zdr aG aD aI aJ aK aE aH eR eS aU aO aP aQ aR aS aT cC cD m R):CX Try.prog 106 #[.agg #[.int .u64 aG,.int .u64 aD,.int .u64 aI,.int .u64 aJ,.int .u64 aK,.int .u64 aE,.int .u64 aH,.int .u64 eR,.int .u64 eS],.agg #[.int .u64 aU,.int .u64 aO,.int .u64 aP,.int .u64 aQ,.int .u64 aR,.int .u64 aS,.int .u64 aT,.int .u64 cC,.int .u64 cD]] m [] R:=
 Zah (E:=Zgl) Zay mix Try.func106 [.v (.agg #[.int .u64 aG,.int .u64 aD,.int .u64 aI,.int .u64 aJ,.int .u64 aK,.int .u64 aE,.int .u64 aH,.int .u64 eR,.int .u64 eS]),.v (.agg #[.int .u64 aU,.int .u64 aO,.int .u64 aP,.int .u64 aQ,.int .u64 aR,.int .u64 aS,.int .u64 aT,.int .u64 cC,.int .u64 cD])] [] (by kernel_rfl) (Eq.mp (by kernel_rfl) h)
noncomputable def Zrd:Env:={ EB with
 frzNew:=[2] }
def Zky(aG aD aI aJ p1:Int)(m:Mem)(R:RT):Prop:=
 ∀(b:Nat)(m':Mem),Mem.le m m'->Mem.reads m' b 0 [int u64 aG,int u64 aD,int u64 aI,int u64 aJ]->(0:Int)<=(6:Int)/\Zaj (Int.fdiv p1 ((2:Int) ^ 6)) 4/\Eng.Zub [int u64 aG,int u64 aD,
 int u64 aI,int u64 aJ] (0+Int.toNat (Int.fdiv p1 ((2:Int) ^ 6))*1) λ(v:Value)=>chk (ZaX u64 v&&true) ((0:Int)<=IntKind.wrap u8 (↑(BitVec.toNat (BitVec.ofInt 8 p1&&&BitVec.ofInt 8 (63:Int)))
 : Int)/\∃(m'':Mem),Mem.le m m''/\Mem.le m'' m'/\R (bool (IntKind.wrap u64 (↑(BitVec.toNat (BitVec.ofInt 64 (Int.fdiv (RowKit.intOf v) ((2:Int) ^ min (Int.toNat (IntKind.wrap u8 (↑(BitVec.toNat (BitVec.ofInt 8
 p1&&&BitVec.ofInt 8 (63:Int))):Int))) 64))&&&BitVec.ofInt 64 (1:Int))):Int) == (1:Int))) m'' [])
theorem ZpC(aG aD aI aJ p1:Int)(m:Mem)(R:RT)(h:Zky aG aD aI aJ p1 m R):CX Try.prog 92 #[.agg #[.int .u64 aG,.int .u64 aD,.int .u64 aI,.int .u64 aJ],.int .u8 p1] m [] R:=
 Zah (E:=Zrd) Zay mix Try.func92 [.v (.agg #[.int .u64 aG,.int .u64 aD,.int .u64 aI,.int .u64 aJ]),.v (.int .u8 p1)] [] (by kernel_rfl) (Eq.mp (by kernel_rfl) h)
noncomputable def ZfU:Env:={ EB with
 frzNew:=[1] }
def Zc5(aW:Option Addr)(aV aX:Nat)(aD:Bool)(m:Mem)(R:RT):Prop:=
 ∀(b:Nat)(m':Mem),Mem.le m m'->Mem.reads m' b 0 [slice aW aV aX,bool aD]->∀(b_1:Nat),∃(m'':Mem),Mem.le m m''/\Mem.le m'' m'/\R (agg (Array.mk [func (Fn.func 101) (Array.mk []) (Array.mk
 []),func (Fn.func 102) (Array.mk []) (Array.mk []),func (Fn.func 103) (Array.mk [agg (Array.mk [slice aW aV aX,bool aD])]) (Array.mk []),func (Fn.func 104) (Array.mk []) (Array.mk [Value.pointer (some
 (Addr.mk b 0 none))]),func (Fn.func 105) (Array.mk []) (Array.mk [Value.pointer (some (Addr.mk b 0 none))]),func (Fn.func 107) (Array.mk [agg (Array.mk [slice aW aV aX,bool aD])]) (Array.mk []),func
 (Fn.func 108) (Array.mk []) (Array.mk [Value.pointer (some (Addr.mk b 0 none))])])) m'' []
set_option maxHeartbeats 4000000 in
theorem Zff(aW:Option Addr)(aV aX:Nat)(aD:Bool)(m:Mem)(R:RT)(h:Zc5 aW aV aX aD m R):CX Try.prog 88 #[.agg #[.slice aW aV aX,.bool aD]] m [] R:=
 Zah (E:=ZfU) Zay mix Try.func88 [.v (.agg #[.slice aW aV aX,.bool aD])] [] (by kernel_rfl) (Eq.mp (by kernel_rfl) h)
noncomputable def ZeH:Env:={ EB with
 frzNew:=[2,3] }
def Zcw(aG aD aI aJ aK aE aH:Int)(aB:Option Addr)(aA aC:Nat)(aU aO aP aQ aR aS aT cC cD:Int)(m:Mem)(R:RT):Prop:=
 ∀(b:Nat)(m':Mem),Mem.le m m'->Mem.reads m' b 0 [int u8 aG,int u64 aD,int u64 aI,int u64 aJ,int u64 aK,int i64 aE,int i64 aH,slice aB aA aC]->∀(b:Nat)(m'_1:Mem),Mem.le m'
 m'_1->Mem.reads m'_1 b 0 [int u64 aU,int u64 aO,int u64 aP,int u64 aQ,int u64 aR,int u64 aS,int u64 aT,int u64 cC,int u64 cD]->∀(b:Nat),∃(m'':Mem),Mem.le m m''/\Mem.le m'' m'_1/\R
 (agg (Array.mk (List.replicate 9 (int u64 0)))) m'' []
theorem ZdY(aG aD aI aJ aK aE aH:Int)(aB:Option Addr)(aA aC:Nat)(aU aO aP aQ aR aS aT cC cD:Int)(m:Mem)(R:RT)(h:Zcw aG aD aI aJ aK aE aH aB aA aC aU aO aP aQ aR aS aT cC cD m R):CX Try.prog 101 #[.agg #[.int .u8 aG,.int .u64 aD,.int .u64 aI,.int .u64 aJ,.int .u64 aK,.int .i64 aE,.int .i64 aH,.slice aB aA aC],.agg #[.int .u64 aU,.int .u64 aO,.int .u64 aP,.int .u64 aQ,.int .u64 aR,.int .u64 aS,.int .u64 aT,.int .u64 cC,.int .u64 cD]] m [] R:=
 Zah (E:=ZeH) Zay mix Try.func101 [.v (.agg #[.int .u8 aG,.int .u64 aD,.int .u64 aI,.int .u64 aJ,.int .u64 aK,.int .i64 aE,.int .i64 aH,.slice aB aA aC]),.v (.agg #[.int .u64 aU,.int .u64 aO,.int .u64 aP,.int .u64 aQ,.int .u64 aR,.int .u64 aS,.int .u64 aT,.int .u64 cC,.int .u64 cD])] [] (by kernel_rfl) (Eq.mp (by kernel_rfl) h)
noncomputable def ZeI:Env:={ EB with
 frzNew:=[2,3] }
def Zcx(aG aD aI aJ aK aE aH:Int)(aB:Option Addr)(aA aC:Nat)(aU aO aP aQ aR aS aT cC cD:Int)(m:Mem)(R:RT):Prop:=
 ∀(b:Nat)(m':Mem),Mem.le m m'->Mem.reads m' b 0 [int u8 aG,int u64 aD,int u64 aI,int u64 aJ,int u64 aK,int i64 aE,int i64 aH,slice aB aA aC]->∀(b:Nat)(m'_1:Mem),Mem.le m'
 m'_1->Mem.reads m'_1 b 0 [int u64 aU,int u64 aO,int u64 aP,int u64 aQ,int u64 aR,int u64 aS,int u64 aT,int u64 cC,int u64 cD]->∀(b:Nat),∃(m'':Mem),Mem.le m m''/\Mem.le m'' m'_1/\R
 (agg (Array.mk [int u64 aU,int u64 aO,int u64 aP,int u64 aQ,int u64 aR,int u64 aS,int u64 aT,int u64 cC,int u64 cD])) m'' []
theorem ZdZ(aG aD aI aJ aK aE aH:Int)(aB:Option Addr)(aA aC:Nat)(aU aO aP aQ aR aS aT cC cD:Int)(m:Mem)(R:RT)(h:Zcx aG aD aI aJ aK aE aH aB aA aC aU aO aP aQ aR aS aT cC cD m R):CX Try.prog 102 #[.agg #[.int .u8 aG,.int .u64 aD,.int .u64 aI,.int .u64 aJ,.int .u64 aK,.int .i64 aE,.int .i64 aH,.slice aB aA aC],.agg #[.int .u64 aU,.int .u64 aO,.int .u64 aP,.int .u64 aQ,.int .u64 aR,.int .u64 aS,.int .u64 aT,.int .u64 cC,.int .u64 cD]] m [] R:=
 Zah (E:=ZeI) Zay mix Try.func102 [.v (.agg #[.int .u8 aG,.int .u64 aD,.int .u64 aI,.int .u64 aJ,.int .u64 aK,.int .i64 aE,.int .i64 aH,.slice aB aA aC]),.v (.agg #[.int .u64 aU,.int .u64 aO,.int .u64 aP,.int .u64 aQ,.int .u64 aR,.int .u64 aS,.int .u64 aT,.int .u64 cC,.int .u64 cD])] [] (by kernel_rfl) (Eq.mp (by kernel_rfl) h)
noncomputable def ZfV:Env:={ EB with
 loops:=(λi=>bif Nat.beq i 3 then⟨[(15,.int .i64)],[7],[],false⟩ else⟨[],[],[],false⟩)
 joins:=(λi=>bif Nat.beq i 8 then some [(34,.bool)]else none)
 dr:=(λi=>bif Nat.beq i 9 then[⟨0,[7],[],none,[],[]⟩,⟨1,[],[],none,[],[]⟩,⟨2,[],[],none,[1],[]⟩,⟨3,[],[],none,[0,1,2],[2]⟩,⟨4,[7],[7],none,[0,1,2,3],[]⟩]else[])
 frzNew:=[3,4,5] }
def Zc6(aW:Option Addr)(aV aX:Nat)(aD:Bool)(aU aO aP aQ aR aS aT:Int)(aM:Option Addr)(aL aN:Nat)(aY aZ bA bB bC bD bE bN bO:Int)(m:Mem)(R:RT):Prop:=
 ∀(b:Nat)(m':Mem),Mem.le m m'->Mem.reads m' b 0 [slice aW aV aX,bool aD]->∀(ac:Nat)(a4:Mem),Mem.le m' a4->Mem.reads a4 ac 0 [int u8 aU,int u64 aO,int u64 aP,int u64 aQ,int u64
 aR,int i64 aS,int i64 aT,slice aM aL aN]->∀(aa:Nat)(m':Mem),Mem.le a4 m'->Mem.reads m' aa 0 [int u64 aY,int u64 aZ,int u64 bA,int u64 bB,int u64 bC,int u64 bD,int u64 bE,
 int u64 bN,int u64 bO]->∀(ad ae:Nat),∃(I:IT),(∃(n:Nat),I [int i64 0] [List.replicate 9 (int u64 0)] [] m' n)/\∀(n:Int)(cs:List Value)(ab:Mem)(aq:Nat),Mem.le m' ab->I [int i64 n] [cs] []
 ab aq->br (decide (n < (↑aV:Int))) (∃(a5:Nat),∃(o:Nat),aW=some (Addr.mk a5 o none)/\Zaj n aV/\∃(v:Value),ab a5 (o+Int.toNat n*1)=some v/\br aD (∃(ag:Bool),(∃(R:RT),True/\
 CX Try.prog 66 (Array.mk [Value.pointer (some (Addr.mk aa 0 none)),int i64 (IntKind.wrap i64 (n+(1:Int)))]) ab [] R/\Zar Shape.bool R/\∀(ar:Bool)(m':Mem),Mem.le ab m'->R (bool ar) m' []->br ar (∃(R:
 RT),True/\CX Try.prog 92 (Array.mk [agg (Array.mk [int u64 aO,int u64 aP,int u64 aQ,int u64 aR]),v]) m' [] R/\Zar Shape.bool R/\∀(au:Bool)(af:Mem),Mem.le m' af->R (bool au) af []->[some (Box.mk
 ae cs 119 9 false true),some (Box.mk ad (List.replicate 9 (int u64 0)) 119 9 false true),some (Box.mk aa [int u64 aY,int u64 aZ,int u64 bA,int u64 bB,int u64 bC,int u64 bD,int u64 bE,int u64 bN,
 int u64 bO] 119 9 true true),some (Box.mk ac [int u8 aU,int u64 aO,int u64 aP,int u64 aQ,int u64 aR,int i64 aS,int i64 aT,slice aM aL aN] 29 8 true true),some (Box.mk b [slice aW
 aV aX,bool aD] 121 2 true true)]=[some (Box.mk ae cs 119 9 false true),some (Box.mk ad (List.replicate 9 (int u64 0)) 119 9 false true),some (Box.mk aa [int u64 aY,int u64 aZ,int u64 bA,int u64
 bB,int u64 bC,int u64 bD,int u64 bE,int u64 bN,int u64 bO] 119 9 true true),some (Box.mk ac [int u8 aU,int u64 aO,int u64 aP,int u64 aQ,int u64 aR,int i64 aS,int i64 aT,slice aM
 aL aN] 29 8 true true),some (Box.mk b [slice aW aV aX,bool aD] 121 2 true true)]/\[bool au]=[bool ag]) ([some (Box.mk ae cs 119 9 false true),some (Box.mk ad (List.replicate 9 (int u64 0)) 119 9
 false true),some (Box.mk aa [int u64 aY,int u64 aZ,int u64 bA,int u64 bB,int u64 bC,int u64 bD,int u64 bE,int u64 bN,int u64 bO] 119 9 true true),some (Box.mk ac [int u8 aU,int u64 aO,
 int u64 aP,int u64 aQ,int u64 aR,int i64 aS,int i64 aT,slice aM aL aN] 29 8 true true),some (Box.mk b [slice aW aV aX,bool aD] 121 2 true true)]=[some (Box.mk ae cs 119 9 false
 true),some (Box.mk ad (List.replicate 9 (int u64 0)) 119 9 false true),some (Box.mk aa [int u64 aY,int u64 aZ,int u64 bA,int u64 bB,int u64 bC,int u64 bD,int u64 bE,int u64 bN,int u64 bO] 119
 9 true true),some (Box.mk ac [int u8 aU,int u64 aO,int u64 aP,int u64 aQ,int u64 aR,int i64 aS,int i64 aT,slice aM aL aN] 29 8 true true),some (Box.mk b [slice aW aV aX,bool
 aD] 121 2 true true)]/\[bool false]=[bool ag]))/\br ag (∃(f:Fx),∃(R:RT),R=f 2 [int i64 n] ab/\CX Try.prog 65 (Array.mk [int i64 n]) ab [] R/\Zar (Shape.agg [Shape.int u64,Shape.int u64,Shape.int
 u64,Shape.int u64,Shape.int u64,Shape.int u64,Shape.int u64,Shape.int u64,Shape.int u64]) R/\∀(ah ai aj ak al am an ao ap:Int)(m':Mem),Mem.le ab m'->R (agg (Array.mk [int u64 ah,int u64 ai,int u64 aj,
 int u64 ak,int u64 al,int u64 am,int u64 an,int u64 ao,int u64 ap])) m' []->∃(R:RT),R=f 3 [agg (Array.mk cs),agg (Array.mk [int u64 ah,int u64 ai,int u64 aj,int u64 ak,int u64 al,int u64 am,int u64
 an,int u64 ao,int u64 ap])] m'/\CX Try.prog 106 (Array.mk [agg (Array.mk cs),agg (Array.mk [int u64 ah,int u64 ai,int u64 aj,int u64 ak,int u64 al,int u64 am,int u64 an,int u64 ao,int u64 ap])]) m' [] R/\
 Zar (Shape.agg [Shape.int u64,Shape.int u64,Shape.int u64,Shape.int u64,Shape.int u64,Shape.int u64,Shape.int u64,Shape.int u64,Shape.int u64]) R/\∀(av aw ax ay az a0 a1 a2 a3:Int)(af:Mem),Mem.le m' af
 -> R (agg (Array.mk [int u64 av,int u64 aw,int u64 ax,int u64 ay,int u64 az,int u64 a0,int u64 a1,int u64 a2,int u64 a3])) af []->∀(M:Mem),Mem.le ab M->Mem.le m' M->Mem.le af M->[some (Box.mk ae [] 119 9
 false true),some (Box.mk ad (List.replicate 9 (int u64 0)) 119 9 false true),some (Box.mk aa [int u64 aY,int u64 aZ,int u64 bA,int u64 bB,int u64 bC,int u64 bD,int u64 bE,int u64 bN,int u64
 bO] 119 9 true true),some (Box.mk ac [int u8 aU,int u64 aO,int u64 aP,int u64 aQ,int u64 aR,int i64 aS,int i64 aT,slice aM aL aN] 29 8 true true),some (Box.mk b [slice aW aV
 aX,bool aD] 121 2 true true)]=[some (Box.mk ae [] 119 9 false true),some (Box.mk ad (List.replicate 9 (int u64 0)) 119 9 false true),some (Box.mk aa [int u64 aY,int u64 aZ,int u64 bA,int u64 bB,int
 u64 bC,int u64 bD,int u64 bE,int u64 bN,int u64 bO] 119 9 true true),some (Box.mk ac [int u8 aU,int u64 aO,int u64 aP,int u64 aQ,int u64 aR,int i64 aS,int i64 aT,slice aM aL
 aN] 29 8 true true),some (Box.mk b [slice aW aV aX,bool aD] 121 2 true true)]/\∃(n':Nat),n' < aq/\I [int i64 (IntKind.wrap i64 (n+(1:Int)))] [[int u64 av,int u64 aw,int u64 ax,int u64 ay,
 int u64 az,int u64 a0,int u64 a1,int u64 a2,int u64 a3]] [] M n') ([some (Box.mk ae [] 119 9 false true),some (Box.mk ad (List.replicate 9 (int u64 0)) 119 9 false true),some (Box.mk aa [int u64 aY,int u64
 aZ,int u64 bA,int u64 bB,int u64 bC,int u64 bD,int u64 bE,int u64 bN,int u64 bO] 119 9 true true),some (Box.mk ac [int u8 aU,int u64 aO,int u64 aP,int u64 aQ,int u64 aR,int i64
 aS,int i64 aT,slice aM aL aN] 29 8 true true),some (Box.mk b [slice aW aV aX,bool aD] 121 2 true true)]=[some (Box.mk ae [] 119 9 false true),some (Box.mk ad (List.replicate 9 (int u64 0))
 119 9 false true),some (Box.mk aa [int u64 aY,int u64 aZ,int u64 bA,int u64 bB,int u64 bC,int u64 bD,int u64 bE,int u64 bN,int u64 bO] 119 9 true true),some (Box.mk ac [int u8 aU,int u64
 aO,int u64 aP,int u64 aQ,int u64 aR,int i64 aS,int i64 aT,slice aM aL aN] 29 8 true true),some (Box.mk b [slice aW aV aX,bool aD] 121 2 true true)]/\∃(n':Nat),n' < aq/\I
 [int i64 (IntKind.wrap i64 (n+(1:Int)))] [cs] [] ab n')) (∃(ag:Bool),(∃(R:RT),True/\CX Try.prog 66 (Array.mk [Value.pointer (some (Addr.mk aa 0 none)),int i64 n]) ab [] R/\Zar Shape.bool R/\∀(ar:
 Bool) (m':Mem),Mem.le ab m'->R (bool ar) m' []->br ar (∃(R:RT),True/\CX Try.prog 92 (Array.mk [agg (Array.mk [int u64 aO,int u64 aP,int u64 aQ,int u64 aR]),v]) m' [] R/\Zar Shape.bool R/\∀(au:
 Bool) (af:Mem),Mem.le m' af->R (bool au) af []->[some (Box.mk ae cs 119 9 false true),some (Box.mk ad (List.replicate 9 (int u64 0)) 119 9 false true),some (Box.mk aa [int u64 aY,int u64 aZ,int u64 bA,
 int u64 bB,int u64 bC,int u64 bD,int u64 bE,int u64 bN,int u64 bO] 119 9 true true),some (Box.mk ac [int u8 aU,int u64 aO,int u64 aP,int u64 aQ,int u64 aR,int i64 aS,int i64 aT,
 slice aM aL aN] 29 8 true true),some (Box.mk b [slice aW aV aX,bool aD] 121 2 true true)]=[some (Box.mk ae cs 119 9 false true),some (Box.mk ad (List.replicate 9 (int u64 0)) 119 9 false true),
 some (Box.mk aa [int u64 aY,int u64 aZ,int u64 bA,int u64 bB,int u64 bC,int u64 bD,int u64 bE,int u64 bN,int u64 bO] 119 9 true true),some (Box.mk ac [int u8 aU,int u64 aO,int u64 aP,
 int u64 aQ,int u64 aR,int i64 aS,int i64 aT,slice aM aL aN] 29 8 true true),some (Box.mk b [slice aW aV aX,bool aD] 121 2 true true)]/\[bool au]=[bool ag]) ([some (Box.mk ae cs 119 9
 false true),some (Box.mk ad (List.replicate 9 (int u64 0)) 119 9 false true),some (Box.mk aa [int u64 aY,int u64 aZ,int u64 bA,int u64 bB,int u64 bC,int u64 bD,int u64 bE,int u64 bN,int u64
 bO] 119 9 true true),some (Box.mk ac [int u8 aU,int u64 aO,int u64 aP,int u64 aQ,int u64 aR,int i64 aS,int i64 aT,slice aM aL aN] 29 8 true true),some (Box.mk b [slice aW aV
 aX,bool aD] 121 2 true true)]=[some (Box.mk ae cs 119 9 false true),some (Box.mk ad (List.replicate 9 (int u64 0)) 119 9 false true),some (Box.mk aa [int u64 aY,int u64 aZ,int u64 bA,int u64 bB,int
 u64 bC,int u64 bD,int u64 bE,int u64 bN,int u64 bO] 119 9 true true),some (Box.mk ac [int u8 aU,int u64 aO,int u64 aP,int u64 aQ,int u64 aR,int i64 aS,int i64 aT,slice aM aL
 aN] 29 8 true true),some (Box.mk b [slice aW aV aX,bool aD] 121 2 true true)]/\[bool false]=[bool ag]))/\br ag (∃(f:Fx),∃(R:RT),R=f 2 [int i64 (IntKind.wrap i64 (n+(1:Int)))] ab/\CX
 Try.prog 65 (Array.mk [int i64 (IntKind.wrap i64 (n+(1:Int)))]) ab [] R/\Zar (Shape.agg [Shape.int u64,Shape.int u64,Shape.int u64,Shape.int u64,Shape.int u64,Shape.int u64,Shape.int u64,Shape.int u64,
 Shape.int u64]) R/\∀(ah ai aj ak al am an ao ap:Int)(m':Mem),Mem.le ab m'->R (agg (Array.mk [int u64 ah,int u64 ai,int u64 aj,int u64 ak,int u64 al,int u64 am,int u64 an,int u64 ao,int u64 ap])) m' []->
 ∃(R:RT),R=f 3 [agg (Array.mk cs),agg (Array.mk [int u64 ah,int u64 ai,int u64 aj,int u64 ak,int u64 al,int u64 am,int u64 an,int u64 ao,int u64 ap])] m'/\CX Try.prog 106 (Array.mk [agg (Array.mk cs),agg
 (Array.mk [int u64 ah,int u64 ai,int u64 aj,int u64 ak,int u64 al,int u64 am,int u64 an,int u64 ao,int u64 ap])]) m' [] R/\Zar (Shape.agg [Shape.int u64,Shape.int u64,Shape.int u64,Shape.int u64,Shape.int
 u64,Shape.int u64,Shape.int u64,Shape.int u64,Shape.int u64]) R/\∀(av aw ax ay az a0 a1 a2 a3:Int)(af:Mem),Mem.le m' af->R (agg (Array.mk [int u64 av,int u64 aw,int u64 ax,int u64 ay,int u64 az,int u64
 a0,int u64 a1,int u64 a2,int u64 a3])) af []->∀(M:Mem),Mem.le ab M->Mem.le m' M->Mem.le af M->[some (Box.mk ae [] 119 9 false true),some (Box.mk ad (List.replicate 9 (int u64 0)) 119 9 false true),some
 (Box.mk aa [int u64 aY,int u64 aZ,int u64 bA,int u64 bB,int u64 bC,int u64 bD,int u64 bE,int u64 bN,int u64 bO] 119 9 true true),some (Box.mk ac [int u8 aU,int u64 aO,int u64 aP,int
 u64 aQ,int u64 aR,int i64 aS,int i64 aT,slice aM aL aN] 29 8 true true),some (Box.mk b [slice aW aV aX,bool aD] 121 2 true true)]=[some (Box.mk ae [] 119 9 false true),some (Box.mk
 ad (List.replicate 9 (int u64 0)) 119 9 false true),some (Box.mk aa [int u64 aY,int u64 aZ,int u64 bA,int u64 bB,int u64 bC,int u64 bD,int u64 bE,int u64 bN,int u64 bO] 119 9 true true),some
 (Box.mk ac [int u8 aU,int u64 aO,int u64 aP,int u64 aQ,int u64 aR,int i64 aS,int i64 aT,slice aM aL aN] 29 8 true true),some (Box.mk b [slice aW aV aX,bool aD] 121 2 true
 true)]/\∃(n':Nat),n' < aq/\I [int i64 (IntKind.wrap i64 (n+(1:Int)))] [[int u64 av,int u64 aw,int u64 ax,int u64 ay,int u64 az,int u64 a0,int u64 a1,int u64 a2,int u64 a3]] [] M n') ([some (Box.mk ae
 [] 119 9 false true),some (Box.mk ad (List.replicate 9 (int u64 0)) 119 9 false true),some (Box.mk aa [int u64 aY,int u64 aZ,int u64 bA,int u64 bB,int u64 bC,int u64 bD,int u64 bE,int u64 bN,
 int u64 bO] 119 9 true true),some (Box.mk ac [int u8 aU,int u64 aO,int u64 aP,int u64 aQ,int u64 aR,int i64 aS,int i64 aT,slice aM aL aN] 29 8 true true),some (Box.mk b [slice aW
 aV aX,bool aD] 121 2 true true)]=[some (Box.mk ae [] 119 9 false true),some (Box.mk ad (List.replicate 9 (int u64 0)) 119 9 false true),some (Box.mk aa [int u64 aY,int u64 aZ,int u64 bA,int u64
 bB,int u64 bC,int u64 bD,int u64 bE,int u64 bN,int u64 bO] 119 9 true true),some (Box.mk ac [int u8 aU,int u64 aO,int u64 aP,int u64 aQ,int u64 aR,int i64 aS,int i64 aT,slice aM
 aL aN] 29 8 true true),some (Box.mk b [slice aW aV aX,bool aD] 121 2 true true)]/\∃(n':Nat),n' < aq/\I [int i64 (IntKind.wrap i64 (n+(1:Int)))] [cs] [] ab n'))) (chk (Nat.beq (List.length
 cs) 9&&Zfn cs) (∃(m'':Mem),Mem.le m m''/\Mem.le m'' ab/\R (agg (Array.mk cs)) m'' []))
theorem Zfg(aW:Option Addr)(aV aX:Nat)(aD:Bool)(aU aO aP aQ aR aS aT:Int)(aM:Option Addr)(aL aN:Nat)(aY aZ bA bB bC bD bE bN bO:Int)(m:Mem)(R:RT)(h:Zc6 aW aV aX aD aU aO aP aQ aR aS aT aM aL aN aY aZ bA bB bC bD bE bN bO m R):CX Try.prog 103 #[.agg #[.slice aW aV aX,.bool aD],.agg #[.int .u8 aU,.int .u64 aO,.int .u64 aP,.int .u64 aQ,.int .u64 aR,.int .i64 aS,.int .i64 aT,.slice aM aL aN],.agg #[.int .u64 aY,.int .u64 aZ,.int .u64 bA,.int .u64 bB,.int .u64 bC,.int .u64 bD,.int .u64 bE,.int .u64 bN,.int .u64 bO]] m [] R:=
 Zah (E:=ZfV) Zay mix Try.func103 [.v (.agg #[.slice aW aV aX,.bool aD]),.v (.agg #[.int .u8 aU,.int .u64 aO,.int .u64 aP,.int .u64 aQ,.int .u64 aR,.int .i64 aS,.int .i64 aT,.slice aM aL aN]),.v (.agg #[.int .u64 aY,.int .u64 aZ,.int .u64 bA,.int .u64 bB,.int .u64 bC,.int .u64 bD,.int .u64 bE,.int .u64 bN,.int .u64 bO])] [] (by kernel_rfl) (Eq.mp (by kernel_rfl) h)
noncomputable def ZeJ:Env:={ EB with
 loops:=(λi=>bif Nat.beq i 2 then⟨[(11,.int .i64)],[4],[],false⟩ else⟨[],[],[],false⟩)
 dr:=(λi=>bif Nat.beq i 7 then[⟨0,[],[],none,[],[]⟩,⟨1,[3],[],none,[],[]⟩,⟨2,[3],[],none,[1],[]⟩,⟨3,[],[],none,[],[]⟩,⟨4,[],[],none,[1,2,3],[]⟩,⟨5,[],[],none,[1,2,3,4],[]⟩,⟨6,[4],[],none,[],[]⟩,⟨7,[],[],none,[0,1,2,3,4,5,6],[]⟩,⟨8,[4],[4],none,[0,1,2,3,4,5,6,7],[]⟩]else[])
 frzNew:=[3] }
def Zcy(aG aD aI aJ aK aE aH:Int)(aB:Option Addr)(aA aC:Nat)(aU aO aP aQ aR aS aT cC cD:Int)(c0b c0o:Nat)(m:Mem)(R:RT):Prop:=
 ∀(b:Nat)(m':Mem),Mem.le m m'->Mem.reads m' b 0 [int u8 aG,int u64 aD,int u64 aI,int u64 aJ,int u64 aK,int i64 aE,int i64 aH,slice aB aA aC]->∀(aw ax:Nat),∃(I:IT),(∃(n:
 Nat),I [int i64 0] [[int u64 aU,int u64 aO,int u64 aP,int u64 aQ,int u64 aR,int u64 aS,int u64 aT,int u64 cC,int u64 cD]] [] m' n)/\∀(n:Int)(cs:List Value)(aa:Mem)(ay:Nat),Mem.le
 m' aa->I [int i64 n] [cs] [] aa ay->br (decide (n < (↑aA:Int))) (∃(v:Value),aa c0b (c0o+1)=some v/\chk (ZhX v) (br (Zdu v) (∃(f:Fx),∃(v:Value),∃(ab:Value),Mem.reads aa c0b c0o [v,ab]/\
 ∃(ak:Nat),∃(o:Nat),aB=some (Addr.mk ak o none)/\Zaj (IntKind.wrap i64 (IntKind.wrap i64 ((↑aA:Int) - (1:Int)) - n)) aA/\∃(ac:Value),∃(ad:Value),∃(ae:Value),∃(af:Value),∃(ag
 : Value),∃(ah:Value),∃(ai:Value),∃(aj:Value),Mem.reads aa ak (o+Int.toNat (IntKind.wrap i64 (IntKind.wrap i64 ((↑aA:Int) - (1:Int)) - n))*8) [ac,ad,ae,af,ag,ah,ai,aj]/\∃(R:RT),R=f 7
 [agg (Array.mk [v,ab]),agg (Array.mk [ac,ad,ae,af,ag,ah,ai,aj]),agg (Array.mk cs)] aa/\CX Try.prog 64 (Array.mk [agg (Array.mk [v,ab]),agg (Array.mk [ac,ad,ae,af,ag,ah,ai,aj]),agg (Array.mk cs)]) aa
 [] R/\Zar (Shape.agg [Shape.int u64,Shape.int u64,Shape.int u64,Shape.int u64,Shape.int u64,Shape.int u64,Shape.int u64,Shape.int u64,Shape.int u64]) R/\∀(al am an ao ap aq ar au av:Int)(m':Mem),Mem.le
 aa m'->R (agg (Array.mk [int u64 al,int u64 am,int u64 an,int u64 ao,int u64 ap,int u64 aq,int u64 ar,int u64 au,int u64 av])) m' []->∀(M:Mem),Mem.le aa M->Mem.le m' M->[some (Box.mk ax (List.replicate 9
 (int u64 0)) 119 9 false true),some (Box.mk aw [] 119 9 false true),some (Box.mk b [int u8 aG,int u64 aD,int u64 aI,int u64 aJ,int u64 aK,int i64 aE,int i64 aH,slice aB aA aC] 29 8 true
 true)]=[some (Box.mk ax (List.replicate 9 (int u64 0)) 119 9 false true),some (Box.mk aw [] 119 9 false true),some (Box.mk b [int u8 aG,int u64 aD,int u64 aI,int u64 aJ,int u64 aK,int i64 aE,int
 i64 aH,slice aB aA aC] 29 8 true true)]/\∃(n':Nat),n' < ay/\I [int i64 (IntKind.wrap i64 (n+(1:Int)))] [[int u64 al,int u64 am,int u64 an,int u64 ao,int u64 ap,int u64 aq,int u64 ar,int u64
 au,int u64 av]] [] M n') (∃(f:Fx),∃(v:Value),∃(ab:Value),Mem.reads aa c0b c0o [v,ab]/\∃(ak:Nat),∃(o:Nat),aB=some (Addr.mk ak o none)/\Zaj n aA/\∃(ac:Value),∃(ad:Value),∃(ae
 : Value),∃(af:Value),∃(ag:Value),∃(ah:Value),∃(ai:Value),∃(aj:Value),Mem.reads aa ak (o+Int.toNat n*8) [ac,ad,ae,af,ag,ah,ai,aj]/\∃(R:RT),R=f 7 [agg (Array.mk [v,ab]),agg
 (Array.mk [ac,ad,ae,af,ag,ah,ai,aj]),agg (Array.mk cs)] aa/\CX Try.prog 64 (Array.mk [agg (Array.mk [v,ab]),agg (Array.mk [ac,ad,ae,af,ag,ah,ai,aj]),agg (Array.mk cs)]) aa [] R/\Zar (Shape.agg
 [Shape.int u64,Shape.int u64,Shape.int u64,Shape.int u64,Shape.int u64,Shape.int u64,Shape.int u64,Shape.int u64,Shape.int u64]) R/\∀(al am an ao ap aq ar au av:Int)(m':Mem),Mem.le aa m'->R (agg
 (Array.mk [int u64 al,int u64 am,int u64 an,int u64 ao,int u64 ap,int u64 aq,int u64 ar,int u64 au,int u64 av])) m' []->∀(M:Mem),Mem.le aa M->Mem.le m' M->[some (Box.mk ax (List.replicate 9 (int u64 0))
 119 9 false true),some (Box.mk aw [] 119 9 false true),some (Box.mk b [int u8 aG,int u64 aD,int u64 aI,int u64 aJ,int u64 aK,int i64 aE,int i64 aH,slice aB aA aC] 29 8 true true)]=[some
 (Box.mk ax (List.replicate 9 (int u64 0)) 119 9 false true),some (Box.mk aw [] 119 9 false true),some (Box.mk b [int u8 aG,int u64 aD,int u64 aI,int u64 aJ,int u64 aK,int i64 aE,int i64 aH,slice
 aB aA aC] 29 8 true true)]/\∃(n':Nat),n' < ay/\I [int i64 (IntKind.wrap i64 (n+(1:Int)))] [[int u64 al,int u64 am,int u64 an,int u64 ao,int u64 ap,int u64 aq,int u64 ar,int u64 au,int u64 av]]
 [] M n'))) (chk (Nat.beq (List.length cs) 9&&Zfn cs) (∃(m'':Mem),Mem.le m m''/\Mem.le m'' aa/\R (agg (Array.mk cs)) m'' []))
theorem Zd0(aG aD aI aJ aK aE aH:Int)(aB:Option Addr)(aA aC:Nat)(aU aO aP aQ aR aS aT cC cD:Int)(c0b c0o:Nat)(m:Mem)(R:RT)(h:Zcy aG aD aI aJ aK aE aH aB aA aC aU aO aP aQ aR aS aT cC cD c0b c0o m R):CX Try.prog 104 #[.agg #[.int .u8 aG,.int .u64 aD,.int .u64 aI,.int .u64 aJ,.int .u64 aK,.int .i64 aE,.int .i64 aH,.slice aB aA aC],.agg #[.int .u64 aU,.int .u64 aO,.int .u64 aP,.int .u64 aQ,.int .u64 aR,.int .u64 aS,.int .u64 aT,.int .u64 cC,.int .u64 cD],.pointer (some ⟨c0b,c0o,none⟩)] m [] R:=
 Zah (E:=ZeJ) Zay mix Try.func104 [.v (.agg #[.int .u8 aG,.int .u64 aD,.int .u64 aI,.int .u64 aJ,.int .u64 aK,.int .i64 aE,.int .i64 aH,.slice aB aA aC]),.v (.agg #[.int .u64 aU,.int .u64 aO,.int .u64 aP,.int .u64 aQ,.int .u64 aR,.int .u64 aS,.int .u64 aT,.int .u64 cC,.int .u64 cD]),.v (.pointer (some ⟨c0b,c0o,none⟩))] [] (by kernel_rfl) (Eq.mp (by kernel_rfl) h)
noncomputable def ZeK:Env:={ EB with
 loops:=(λi=>bif Nat.beq i 3 then⟨[(12,.int .i64)],[6],[],false⟩ else⟨[],[],[],false⟩)
 dr:=(λi=>bif Nat.beq i 5 then[⟨0,[6],[],none,[],[]⟩,⟨1,[],[],none,[],[]⟩,⟨2,[8],[],none,[],[]⟩,⟨3,[4],[],none,[],[]⟩,⟨4,[],[],none,[1,2,3],[]⟩,⟨5,[],[],none,[0,1,2,3,4],[4]⟩,⟨6,[6],[6],none,[0,1,2,3,4,5],[]⟩]else[])
 frzNew:=[3,4] }
def Zcz(aG aD aI aJ aK aE aH:Int)(aB:Option Addr)(aA aC:Nat)(aU aO aP aQ aR aS aT cC cD:Int)(c0b c0o:Nat)(m:Mem)(R:RT):Prop:=
 ∀(b:Nat)(m':Mem),Mem.le m m'->Mem.reads m' b 0 [int u8 aG,int u64 aD,int u64 aI,int u64 aJ,int u64 aK,int i64 aE,int i64 aH,slice aB aA aC]->∀(aj:Nat)(ab:Mem),Mem.le m' ab->
 Mem.reads ab aj 0 [int u64 aU,int u64 aO,int u64 aP,int u64 aQ,int u64 aR,int u64 aS,int u64 aT,int u64 cC,int u64 cD]->∀(ay az:Nat),∃(I:IT),(∃(n:Nat),I [int i64 0] [List.replicate
 9 (int u64 0)] [] ab n)/\∀(n:Int)(cs:List Value)(m':Mem)(a0:Nat),Mem.le ab m'->I [int i64 n] [cs] [] m' a0->br (decide (n < (↑aA:Int))) (∃(a1:Nat),∃(o:Nat),aB=some (Addr.mk a1 o none)/\
 Zaj n aA/\∃(v:Value),∃(ac:Value),∃(ad:Value),∃(ae:Value),∃(af:Value),∃(ag:Value),∃(ah:Value),∃(ai:Value),Mem.reads m' a1 (o+Int.toNat n*8) [v,ac,ad,ae,af,ag,ah,ai]/\∀
 (bb:Nat),chk (Value.oneCell' v&&(Value.oneCell' ac&&(Value.oneCell' ad&&(Value.oneCell' ae&&(Value.oneCell' af&&(Value.oneCell' ag&&(Value.oneCell' ah&&(Value.oneCell' ai&&true)))))))) (∃(f:Fx),∃
 (ak:Value),∃(al:Value),Mem.reads m' c0b c0o [ak,al]/\∃(R:RT),R=f 4 [agg (Array.mk [ak,al]),agg (Array.mk [v,ac,ad,ae,af,ag,ah,ai]),agg (Array.mk [int u64 aU,int u64 aO,int u64 aP,int
 u64 aQ,int u64 aR,int u64 aS,int u64 aT,int u64 cC,int u64 cD])] m'/\CX Try.prog 64 (Array.mk [agg (Array.mk [ak,al]),agg (Array.mk [v,ac,ad,ae,af,ag,ah,ai]),agg (Array.mk [int u64 aU,int
 u64 aO,int u64 aP,int u64 aQ,int u64 aR,int u64 aS,int u64 aT,int u64 cC,int u64 cD])]) m' [] R/\Zar (Shape.agg [Shape.int u64,Shape.int u64,Shape.int u64,Shape.int u64,Shape.int u64,
 Shape.int u64,Shape.int u64,Shape.int u64,Shape.int u64]) R/\∀(am an ao ap aq ar au av aw:Int)(aa:Mem),Mem.le m' aa->R (agg (Array.mk [int u64 am,int u64 an,int u64 ao,int u64 ap,int u64 aq,int u64 ar,
 int u64 au,int u64 av,int u64 aw])) aa []->∃(R:RT),R=f 5 [agg (Array.mk cs),agg (Array.mk [int u64 am,int u64 an,int u64 ao,int u64 ap,int u64 aq,int u64 ar,int u64 au,int u64 av,int u64 aw])] aa/\CX
 Try.prog 106 (Array.mk [agg (Array.mk cs),agg (Array.mk [int u64 am,int u64 an,int u64 ao,int u64 ap,int u64 aq,int u64 ar,int u64 au,int u64 av,int u64 aw])]) aa [] R/\Zar (Shape.agg [Shape.int u64,
 Shape.int u64,Shape.int u64,Shape.int u64,Shape.int u64,Shape.int u64,Shape.int u64,Shape.int u64,Shape.int u64]) R/\∀(a2 a3 a4 a5 a6 a7 a8 a9 ba:Int)(ax:Mem),Mem.le aa ax->R (agg (Array.mk [int u64 a2,
 int u64 a3,int u64 a4,int u64 a5,int u64 a6,int u64 a7,int u64 a8,int u64 a9,int u64 ba])) ax []->∀(M:Mem),Mem.le m' M->Mem.le aa M->Mem.le ax M->[some (Box.mk az [] 119 9 false true),some (Box.mk ay
 (List.replicate 9 (int u64 0)) 119 9 false true),some (Box.mk aj [int u64 aU,int u64 aO,int u64 aP,int u64 aQ,int u64 aR,int u64 aS,int u64 aT,int u64 cC,int u64 cD] 119 9 true true),some
 (Box.mk b [int u8 aG,int u64 aD,int u64 aI,int u64 aJ,int u64 aK,int i64 aE,int i64 aH,slice aB aA aC] 29 8 true true)]=[some (Box.mk az [] 119 9 false true),some (Box.mk ay
 (List.replicate 9 (int u64 0)) 119 9 false true),some (Box.mk aj [int u64 aU,int u64 aO,int u64 aP,int u64 aQ,int u64 aR,int u64 aS,int u64 aT,int u64 cC,int u64 cD] 119 9 true true),some
 (Box.mk b [int u8 aG,int u64 aD,int u64 aI,int u64 aJ,int u64 aK,int i64 aE,int i64 aH,slice aB aA aC] 29 8 true true)]/\∃(n':Nat),n' < a0/\I [int i64 (IntKind.wrap i64 (n+(1:
 Int)))] [[int u64 a2,int u64 a3,int u64 a4,int u64 a5,int u64 a6,int u64 a7,int u64 a8,int u64 a9,int u64 ba]] [] M n')) (chk (Nat.beq (List.length cs) 9&&Zfn cs) (∃(m'':Mem),Mem.le m m''/\Mem.le m'' m'
 /\ R (agg (Array.mk cs)) m'' []))
theorem Zd1(aG aD aI aJ aK aE aH:Int)(aB:Option Addr)(aA aC:Nat)(aU aO aP aQ aR aS aT cC cD:Int)(c0b c0o:Nat)(m:Mem)(R:RT)(h:Zcz aG aD aI aJ aK aE aH aB aA aC aU aO aP aQ aR aS aT cC cD c0b c0o m R):CX Try.prog 105 #[.agg #[.int .u8 aG,.int .u64 aD,.int .u64 aI,.int .u64 aJ,.int .u64 aK,.int .i64 aE,.int .i64 aH,.slice aB aA aC],.agg #[.int .u64 aU,.int .u64 aO,.int .u64 aP,.int .u64 aQ,.int .u64 aR,.int .u64 aS,.int .u64 aT,.int .u64 cC,.int .u64 cD],.pointer (some ⟨c0b,c0o,none⟩)] m [] R:=
 Zah (E:=ZeK) Zay mix Try.func105 [.v (.agg #[.int .u8 aG,.int .u64 aD,.int .u64 aI,.int .u64 aJ,.int .u64 aK,.int .i64 aE,.int .i64 aH,.slice aB aA aC]),.v (.agg #[.int .u64 aU,.int .u64 aO,.int .u64 aP,.int .u64 aQ,.int .u64 aR,.int .u64 aS,.int .u64 aT,.int .u64 cC,.int .u64 cD]),.v (.pointer (some ⟨c0b,c0o,none⟩))] [] (by kernel_rfl) (Eq.mp (by kernel_rfl) h)
noncomputable def Zfh:Env:={ EB with
 loops:=(λi=>bif Nat.beq i 2 then⟨[(13,.int .i64)],[5],[],false⟩ else bif Nat.beq i 7 then⟨[(9,.int .i64)],[6,7,8],[],false⟩ else⟨[],[],[],false⟩)
 dr:=(λi=>bif Nat.beq i 3 then[⟨0,[3],[],none,[],[]⟩,⟨1,[4],[],none,[],[]⟩,⟨2,[4],[],none,[1],[]⟩,⟨3,[],[],none,[1,2],[]⟩,⟨4,[],[],none,[1,2,3],[]⟩,⟨5,[5],[],none,[],[]⟩,⟨6,[],[],none,[0,1,2,3,4,5],[]⟩,⟨7,[5],[5],none,[0,1,2,3,4,5,6],[]⟩]else bif Nat.beq i 5 then[⟨0,[5],[],none,[],[]⟩,⟨1,[5],[],none,[],[]⟩,⟨2,[7],[7],none,[],[]⟩,⟨3,[8],[8],none,[],[]⟩,⟨4,[7],[7],none,[0,2,3],[]⟩,⟨5,[8],[8],none,[0,1,2,3,4],[]⟩]else bif Nat.beq i 9 then[⟨0,[3],[],none,[],[]⟩,⟨1,[4],[],none,[],[]⟩,⟨2,[4],[],none,[1],[]⟩,⟨3,[],[],none,[1,2],[]⟩,⟨4,[],[],none,[1,2,3],[]⟩,⟨5,[8],[],none,[],[]⟩,⟨6,[],[],none,[0,1,2,3,4,5],[]⟩,⟨7,[8],[8],none,[0,1,2,3,4,5,6],[]⟩]else[])
 frzNew:=[3,4] }
def ZcU(aW:Option Addr)(aV aX:Nat)(aD:Bool)(aU aO aP aQ aR aS aT:Int)(aM:Option Addr)(aL aN:Nat)(aY aZ bA bB bC bD bE bN bO:Int)(m:Mem)(R:RT):Prop:=
 ∀(b:Nat)(m':Mem),Mem.le m m'->Mem.reads m' b 0 [slice aW aV aX,bool aD]->∀(au:Nat)(aw:Mem),Mem.le m' aw->Mem.reads aw au 0 [int u8 aU,int u64 aO,int u64 aP,int u64 aQ,int u64
 aR,int i64 aS,int i64 aT,slice aM aL aN]->∀(ax ay:Nat),∃(I:IT),(∃(n:Nat),I [int i64 0] [[int u64 aY,int u64 aZ,int u64 bA,int u64 bB,int u64 bC,int u64 bD,int u64 bE,
 int u64 bN,int u64 bO]] [] aw n)/\∀(n:Int)(cs:List Value)(m':Mem)(bb:Nat),Mem.le aw m'->I [int i64 n] [cs] [] m' bb->br (decide (n < aS)) (∃(f:Fx),∃(ac:Nat),∃(o:Nat),aM=some
 (Addr.mk ac o none)/\Zaj (0:Int) aL/\∃(v:Value),∃(ad:Value),∃(ae:Value),∃(af:Value),∃(ag:Value),∃(ah:Value),∃(ai:Value),∃(aj:Value),Mem.reads m' ac (o+0) [v,ad,ae,af,ag,
 ah,ai,aj]/\∃(R:RT),R=f 6 [agg (Array.mk [slice aW aV aX,bool aD]),agg (Array.mk [v,ad,ae,af,ag,ah,ai,aj]),agg (Array.mk cs)] m'/\CX Try.prog 64 (Array.mk [agg (Array.mk [slice aW aV
 aX,bool aD]),agg (Array.mk [v,ad,ae,af,ag,ah,ai,aj]),agg (Array.mk cs)]) m' [] R/\Zar (Shape.agg [Shape.int u64,Shape.int u64,Shape.int u64,Shape.int u64,Shape.int u64,Shape.int u64,Shape.int u64,
 Shape.int u64,Shape.int u64]) R/\∀(av ak al am an ao ap aq ar:Int)(aa:Mem),Mem.le m' aa->R (agg (Array.mk [int u64 av,int u64 ak,int u64 al,int u64 am,int u64 an,int u64 ao,int u64 ap,int u64 aq,int
 u64 ar])) aa []->∀(M:Mem),Mem.le m' M->Mem.le aa M->[some (Box.mk ay (List.replicate 9 (int u64 0)) 119 9 false true),some (Box.mk ax [] 119 9 false true),some (Box.mk au [int u8 aU,int u64 aO,int u64
 aP,int u64 aQ,int u64 aR,int i64 aS,int i64 aT,slice aM aL aN] 29 8 true true),some (Box.mk b [slice aW aV aX,bool aD] 121 2 true true)]=[some (Box.mk ay (List.replicate 9 (int u64
 0)) 119 9 false true),some (Box.mk ax [] 119 9 false true),some (Box.mk au [int u8 aU,int u64 aO,int u64 aP,int u64 aQ,int u64 aR,int i64 aS,int i64 aT,slice aM aL aN] 29 8 true true),
 some (Box.mk b [slice aW aV aX,bool aD] 121 2 true true)]/\∃(n':Nat),n' < bb/\I [int i64 (IntKind.wrap i64 (n+(1:Int)))] [[int u64 av,int u64 ak,int u64 al,int u64 am,int u64 an,int u64 ao,
 int u64 ap,int u64 aq,int u64 ar]] [] M n') (∀(ac az:Nat),chk (Nat.beq (List.length cs) 9&&Zfn cs) (chk (Nat.beq (List.length cs) 9&&Zfn cs) (∃(I:IT),(∃(n:Nat),I [int i64 aS] [List.replicate 9
 (int u64 0),cs,cs] [] m' n)/\∀(n:Int)(bc ab a0:List Value)(aa:Mem)(av:Nat),Mem.le m' aa->I [int i64 n] [bc,ab,a0] [] aa av->br (!n == aT) (∃(f:Fx),∃(bd:Nat),∃(o:Nat),aM=some
 (Addr.mk bd o none)/\Zaj (0:Int) aL/\∃(v:Value),∃(ad:Value),∃(ae:Value),∃(af:Value),∃(ag:Value),∃(ah:Value),∃(ai:Value),∃(aj:Value),Mem.reads aa bd (o+0) [v,ad,ae,af,ag,
 ah,ai,aj]/\∃(R_1:RT),R_1=f 6 [agg (Array.mk [slice aW aV aX,bool aD]),agg (Array.mk [v,ad,ae,af,ag,ah,ai,aj]),agg (Array.mk a0)] aa/\CX Try.prog 64 (Array.mk [agg (Array.mk [slice aW
 aV aX,bool aD]),agg (Array.mk [v,ad,ae,af,ag,ah,ai,aj]),agg (Array.mk a0)]) aa [] R_1/\Zar (Shape.agg [Shape.int u64,Shape.int u64,Shape.int u64,Shape.int u64,Shape.int u64,Shape.int u64,
 Shape.int u64,Shape.int u64,Shape.int u64]) R_1/\∀(ak al am an ao ap aq ar a1:Int)(m':Mem),Mem.le aa m'->R_1 (agg (Array.mk [int u64 ak,int u64 al,int u64 am,int u64 an,int u64 ao,int u64 ap,int u64 aq,
 int u64 ar,int u64 a1])) m' []->∀(M:Mem),Mem.le aa M->Mem.le m' M->∃(R_2:RT),True/\CX Try.prog 106 (Array.mk [agg (Array.mk ab),agg (Array.mk [int u64 ak,int u64 al,int u64 am,int u64 an,int u64 ao,
 int u64 ap,int u64 aq,int u64 ar,int u64 a1])]) M [] R_2/\Zar (Shape.agg [Shape.int u64,Shape.int u64,Shape.int u64,Shape.int u64,Shape.int u64,Shape.int u64,Shape.int u64,Shape.int u64,Shape.int u64]) R_2
 /\ ∀(a2 a3 a4 a5 a6 a7 a8 a9 ba:Int)(m':Mem),Mem.le M m'->R_2 (agg (Array.mk [int u64 a2,int u64 a3,int u64 a4,int u64 a5,int u64 a6,int u64 a7,int u64 a8,int u64 a9,int u64 ba])) m' []->∀(bf:Nat),∃
 (be:Bool),EqIs Try.prog 119 (agg (Array.mk [int u64 a2,int u64 a3,int u64 a4,int u64 a5,int u64 a6,int u64 a7,int u64 a8,int u64 a9,int u64 ba])) (agg (Array.mk ab)) be/\br be (chk (Nat.beq (List.length ab)
 9&&Zfn ab) (∃(m'':Mem),Mem.le m m''/\Mem.le m'' m'/\R (agg (Array.mk ab)) m'' [])) ([some (Box.mk ac [] 119 9 false true),some (Box.mk az [] 119 9 false true),some (Box.mk ac [] 119 9 false true),some
 (Box.mk az [] 119 9 false true),some (Box.mk ay [] 119 9 false true),some (Box.mk ax cs 119 9 false true),some (Box.mk au [int u8 aU,int u64 aO,int u64 aP,int u64 aQ,int u64 aR,int i64 aS,int i64
 aT,slice aM aL aN] 29 8 true true),some (Box.mk b [slice aW aV aX,bool aD] 121 2 true true)]=[some (Box.mk ac [] 119 9 false true),some (Box.mk az [] 119 9 false true),some (Box.mk ac [] 119
 9 false true),some (Box.mk az [] 119 9 false true),some (Box.mk ay [] 119 9 false true),some (Box.mk ax cs 119 9 false true),some (Box.mk au [int u8 aU,int u64 aO,int u64 aP,int u64 aQ,int u64 aR,int
 i64 aS,int i64 aT,slice aM aL aN] 29 8 true true),some (Box.mk b [slice aW aV aX,bool aD] 121 2 true true)]/\∃(n':Nat),n' < av/\I [int i64 (IntKind.wrap i64 (n+(1:Int)))] [bc,[int
 u64 a2,int u64 a3,int u64 a4,int u64 a5,int u64 a6,int u64 a7,int u64 a8,int u64 a9,int u64 ba],[int u64 ak,int u64 al,int u64 am,int u64 an,int u64 ao,int u64 ap,int u64 aq,int u64 ar,int u64 a1]] []
 m' n')) (chk (Nat.beq (List.length ab) 9&&Zfn ab) (∃(m'':Mem),Mem.le m m''/\Mem.le m'' aa/\R (agg (Array.mk ab)) m'' [])))))
theorem ZeL(aW:Option Addr)(aV aX:Nat)(aD:Bool)(aU aO aP aQ aR aS aT:Int)(aM:Option Addr)(aL aN:Nat)(aY aZ bA bB bC bD bE bN bO:Int)(m:Mem)(R:RT)(h:ZcU aW aV aX aD aU aO aP aQ aR aS aT aM aL aN aY aZ bA bB bC bD bE bN bO m R):CX Try.prog 107 #[.agg #[.slice aW aV aX,.bool aD],.agg #[.int .u8 aU,.int .u64 aO,.int .u64 aP,.int .u64 aQ,.int .u64 aR,.int .i64 aS,.int .i64 aT,.slice aM aL aN],.agg #[.int .u64 aY,.int .u64 aZ,.int .u64 bA,.int .u64 bB,.int .u64 bC,.int .u64 bD,.int .u64 bE,.int .u64 bN,.int .u64 bO]] m [] R:=
 Zah (E:=Zfh) Zay mix Try.func107 [.v (.agg #[.slice aW aV aX,.bool aD]),.v (.agg #[.int .u8 aU,.int .u64 aO,.int .u64 aP,.int .u64 aQ,.int .u64 aR,.int .i64 aS,.int .i64 aT,.slice aM aL aN]),.v (.agg #[.int .u64 aY,.int .u64 aZ,.int .u64 bA,.int .u64 bB,.int .u64 bC,.int .u64 bD,.int .u64 bE,.int .u64 bN,.int .u64 bO])] [] (by kernel_rfl) (Eq.mp (by kernel_rfl) h)
noncomputable def ZeM:Env:={ EB with
 dr:=(λi=>bif Nat.beq i 1 then[⟨0,[],[],none,[],[]⟩,⟨1,[3],[],none,[],[]⟩,⟨2,[3],[],none,[1],[]⟩,⟨3,[],[],none,[1,2],[]⟩,⟨4,[],[],none,[1,2,3],[]⟩,⟨5,[4],[],none,[],[]⟩,⟨6,[],[],none,[0,1,2,3,4,5],[]⟩,⟨7,[5],[5],none,[0,1,2,3,4,5,6],[]⟩]else[])
 frzNew:=[3,4] }
def ZcA(aG aD aI aJ aK aE aH:Int)(aB:Option Addr)(aA aC:Nat)(aU aO aP aQ aR aS aT cC cD:Int)(c0b c0o:Nat)(m:Mem)(R:RT):Prop:=
 ∀(b:Nat)(m':Mem),Mem.le m m'->Mem.reads m' b 0 [int u8 aG,int u64 aD,int u64 aI,int u64 aJ,int u64 aK,int i64 aE,int i64 aH,slice aB aA aC]->∀(b:Nat)(m'_1:Mem),Mem.le m'
 m'_1->Mem.reads m'_1 b 0 [int u64 aU,int u64 aO,int u64 aP,int u64 aQ,int u64 aR,int u64 aS,int u64 aT,int u64 cC,int u64 cD]->∀(b:Nat),∃(f:Fx),∃(v:Value),∃(v_1:Value),
 Mem.reads m'_1 c0b c0o [v,v_1]/\∃(b:Nat),∃(o:Nat),aB=some (Addr.mk b o none)/\Zaj (0:Int) aA/\∃(v_2:Value),∃(v_3:Value),∃(v_4:Value),∃(v_5:Value),∃(v_6:Value),∃(v_7:
 Value),∃(v_8:Value),∃(v_9:Value),Mem.reads m'_1 b (o+0) [v_2,v_3,v_4,v_5,v_6,v_7,v_8,v_9]/\∃(R_1:RT),R_1=f 6 [agg (Array.mk [v,v_1]),agg (Array.mk [v_2,v_3,v_4,v_5,v_6,v_7,v_8,v_9]),
 agg (Array.mk [int u64 aU,int u64 aO,int u64 aP,int u64 aQ,int u64 aR,int u64 aS,int u64 aT,int u64 cC,int u64 cD])] m'_1/\CX Try.prog 64 (Array.mk [agg (Array.mk [v,v_1]),agg (Array.mk
 [v_2,v_3,v_4,v_5,v_6,v_7,v_8,v_9]),agg (Array.mk [int u64 aU,int u64 aO,int u64 aP,int u64 aQ,int u64 aR,int u64 aS,int u64 aT,int u64 cC,int u64 cD])]) m'_1 [] R_1/\Zar (Shape.agg
 [Shape.int u64,Shape.int u64,Shape.int u64,Shape.int u64,Shape.int u64,Shape.int u64,Shape.int u64,Shape.int u64,Shape.int u64]) R_1/\∀(n n_1 n_2 n_3 n_4 n_5 n_6 n_7 n_8:Int)(m':Mem),Mem.le m'_1 m'->R_1
 (agg (Array.mk [int u64 n,int u64 n_1,int u64 n_2,int u64 n_3,int u64 n_4,int u64 n_5,int u64 n_6,int u64 n_7,int u64 n_8])) m' []->∀(M:Mem),Mem.le m'_1 M->Mem.le m' M->∃(m'':Mem),Mem.le m m''/\
 Mem.le m'' M/\R (agg (Array.mk [int u64 n,int u64 n_1,int u64 n_2,int u64 n_3,int u64 n_4,int u64 n_5,int u64 n_6,int u64 n_7,int u64 n_8])) m'' []
theorem Zd2(aG aD aI aJ aK aE aH:Int)(aB:Option Addr)(aA aC:Nat)(aU aO aP aQ aR aS aT cC cD:Int)(c0b c0o:Nat)(m:Mem)(R:RT)(h:ZcA aG aD aI aJ aK aE aH aB aA aC aU aO aP aQ aR aS aT cC cD c0b c0o m R):CX Try.prog 108 #[.agg #[.int .u8 aG,.int .u64 aD,.int .u64 aI,.int .u64 aJ,.int .u64 aK,.int .i64 aE,.int .i64 aH,.slice aB aA aC],.agg #[.int .u64 aU,.int .u64 aO,.int .u64 aP,.int .u64 aQ,.int .u64 aR,.int .u64 aS,.int .u64 aT,.int .u64 cC,.int .u64 cD],.pointer (some ⟨c0b,c0o,none⟩)] m [] R:=
 Zah (E:=ZeM) Zay mix Try.func108 [.v (.agg #[.int .u8 aG,.int .u64 aD,.int .u64 aI,.int .u64 aJ,.int .u64 aK,.int .i64 aE,.int .i64 aH,.slice aB aA aC]),.v (.agg #[.int .u64 aU,.int .u64 aO,.int .u64 aP,.int .u64 aQ,.int .u64 aR,.int .u64 aS,.int .u64 aT,.int .u64 cC,.int .u64 cD]),.v (.pointer (some ⟨c0b,c0o,none⟩))] [] (by kernel_rfl) (Eq.mp (by kernel_rfl) h)
noncomputable def ZjP:Env:={ EB with
 joins:=(λi=>bif Nat.beq i 1 then some [(7,.bool)]else bif Nat.beq i 2 then some [(16,.bool)]else bif Nat.beq i 6 then some [(29,.bool)]else none)
 frzNew:=[3] }
def ZfW(aG aD aI aJ aK aE aH:Int)(aB:Option Addr)(aA aC:Nat)(p1a:Option Addr)(p1n p1c:Nat)(p2:Int)(m:Mem)(R:RT):Prop:=
 ∀(b:Nat)(m':Mem),Mem.le m m'->Mem.reads m' b 0 [int u8 aG,int u64 aD,int u64 aI,int u64 aJ,int u64 aK,int i64 aE,int i64 aH,slice aB aA aC]->∃(ac:Bool),br (aG == (0:Int))
 (∃(R:RT),True/\CX Try.prog 87 (Array.mk [agg (Array.mk [int u8 aG,int u64 aD,int u64 aI,int u64 aJ,int u64 aK,int i64 aE,int i64 aH,slice aB aA aC]),agg (Array.mk [int u8 0,int u64
 0,int u64 0,int u64 0,int u64 0,int i64 0,int i64 0,slice none 0 0])]) m' [] R/\Zar Shape.bool R/\∀(aa:Bool)(ab:Mem),Mem.le m' ab->R (bool aa) ab []->[some (Box.mk b [int u8 aG,int u64 aD,int u64
 aI,int u64 aJ,int u64 aK,int i64 aE,int i64 aH,slice aB aA aC] 29 8 true true)]=[some (Box.mk b [int u8 aG,int u64 aD,int u64 aI,int u64 aJ,int u64 aK,int i64 aE,int i64 aH,
 slice aB aA aC] 29 8 true true)]/\[bool aa]=[bool ac]) ([some (Box.mk b [int u8 aG,int u64 aD,int u64 aI,int u64 aJ,int u64 aK,int i64 aE,int i64 aH,slice aB aA aC] 29 8 true
 true)]=[some (Box.mk b [int u8 aG,int u64 aD,int u64 aI,int u64 aJ,int u64 aK,int i64 aE,int i64 aH,slice aB aA aC] 29 8 true true)]/\[bool false]=[bool ac])/\∃(aa:Bool),br (!ac)
 (∃(R:RT),True/\CX Try.prog 19 (Array.mk [agg (Array.mk [bool false,bool false,int u8 aG,int u64 aD,int u64 aI,int u64 aJ,int u64 aK,int i64 aE,int i64 aH,slice aB aA aC])]) m' [] R/\
 Zar (Shape.int i64) R/\∀(n:Int)(ab:Mem),Mem.le m' ab->R (int i64 n) ab []->[some (Box.mk b [int u8 aG,int u64 aD,int u64 aI,int u64 aJ,int u64 aK,int i64 aE,int i64 aH,slice aB aA
 aC] 29 8 true true)]=[some (Box.mk b [int u8 aG,int u64 aD,int u64 aI,int u64 aJ,int u64 aK,int i64 aE,int i64 aH,slice aB aA aC] 29 8 true true)]/\[bool !n == (0:Int)]=[bool aa])
 ([some (Box.mk b [int u8 aG,int u64 aD,int u64 aI,int u64 aJ,int u64 aK,int i64 aE,int i64 aH,slice aB aA aC] 29 8 true true)]=[some (Box.mk b [int u8 aG,int u64 aD,int u64 aI,
 int u64 aJ,int u64 aK,int i64 aE,int i64 aH,slice aB aA aC] 29 8 true true)]/\[bool false]=[bool aa])/\br aa (∃(m'':Mem),Mem.le m m''/\Mem.le m'' m'/\R (int i64 130) m'' []) (br (decide
 ((↑p1n:Int) > (512:Int))) (∃(m'':Mem),Mem.le m m''/\Mem.le m'' m'/\R (int i64 3) m'' []) (∃(ad:Bool),br (decide (p2 < (0:Int))) ([some (Box.mk b [int u8 aG,int u64 aD,int u64 aI,int u64 aJ,
 int u64 aK,int i64 aE,int i64 aH,slice aB aA aC] 29 8 true true)]=[some (Box.mk b [int u8 aG,int u64 aD,int u64 aI,int u64 aJ,int u64 aK,int i64 aE,int i64 aH,slice aB aA
 aC] 29 8 true true)]/\[bool true]=[bool ad]) ([some (Box.mk b [int u8 aG,int u64 aD,int u64 aI,int u64 aJ,int u64 aK,int i64 aE,int i64 aH,slice aB aA aC] 29 8 true true)]=[some
 (Box.mk b [int u8 aG,int u64 aD,int u64 aI,int u64 aJ,int u64 aK,int i64 aE,int i64 aH,slice aB aA aC] 29 8 true true)]/\[bool (decide (p2 > (↑p1n:Int)))]=[bool ad])/\br ad (∃(m'':
 Mem),Mem.le m m''/\Mem.le m'' m'/\R (int i64 2) m'' []) (∃(m'':Mem),Mem.le m m''/\Mem.le m'' m'/\R (int i64 0) m'' [])))
theorem ZiK(aG aD aI aJ aK aE aH:Int)(aB:Option Addr)(aA aC:Nat)(p1a:Option Addr)(p1n p1c:Nat)(p2:Int)(m:Mem)(R:RT)(h:ZfW aG aD aI aJ aK aE aH aB aA aC p1a p1n p1c p2 m R):CX Try.prog 63 #[.agg #[.int .u8 aG,.int .u64 aD,.int .u64 aI,.int .u64 aJ,.int .u64 aK,.int .i64 aE,.int .i64 aH,.slice aB aA aC],.slice p1a p1n p1c,.int .i64 p2] m [] R:=
 Zah (E:=ZjP) Zay mix Try.func63 [.v (.agg #[.int .u8 aG,.int .u64 aD,.int .u64 aI,.int .u64 aJ,.int .u64 aK,.int .i64 aE,.int .i64 aH,.slice aB aA aC]),.v (.slice p1a p1n p1c),.v (.int .i64 p2)] [] (by kernel_rfl) (Eq.mp (by kernel_rfl) h)
noncomputable def Zh2:Env:={ EB with
 dr:=(λi=>bif Nat.beq i 4 then[⟨0,[],[],none,[],[]⟩,⟨1,[],[],none,[0],[]⟩,⟨2,[2],[],none,[],[]⟩,⟨3,[],[],none,[],[]⟩,⟨4,[],[],none,[0,1,2,3],[3]⟩,⟨5,[7],[7],none,[],[]⟩,⟨6,[7],[7],none,[0,1,2,3,4,5],[]⟩]else[])
 frzNew:=[2]
 frzAt:=(λi=>bif Nat.beq i 21 then[7]else[]) }
def Zem(aG aD aI aJ aK aE aH:Int)(aB:Option Addr)(aA aC:Nat)(p1a:Option Addr)(p1n p1c:Nat)(m:Mem)(R:RT):Prop:=
 ∀(b:Nat)(m':Mem),Mem.le m m'->Mem.reads m' b 0 [int u8 aG,int u64 aD,int u64 aI,int u64 aJ,int u64 aK,int i64 aE,int i64 aH,slice aB aA aC]->∃(R_1:RT),True/\CX Try.prog 63
 (Array.mk [agg (Array.mk [int u8 aG,int u64 aD,int u64 aI,int u64 aJ,int u64 aK,int i64 aE,int i64 aH,slice aB aA aC]),slice p1a p1n p1c,int i64 0]) m' [] R_1/\Zar (Shape.int i64) R_1/\
 ∀(n:Int)(aa:Mem),Mem.le m' aa->R_1 (int i64 n) aa []->br (!n == (0:Int)) (∃(m'':Mem),Mem.le m m''/\Mem.le m'' aa/\R (tuple (Array.mk [bool false,int i64 n])) m'' []) (∃(f:Fx),∃(R_2:RT),R_2=f
 3 [int i64 0] aa/\CX Try.prog 65 (Array.mk [int i64 0]) aa [] R_2/\Zar (Shape.agg [Shape.int u64,Shape.int u64,Shape.int u64,Shape.int u64,Shape.int u64,Shape.int u64,Shape.int u64,Shape.int u64,Shape.int
 u64]) R_2/\∀(n ab ac ad ae af ag ah ai:Int)(m':Mem),Mem.le aa m'->R_2 (agg (Array.mk [int u64 n,int u64 ab,int u64 ac,int u64 ad,int u64 ae,int u64 af,int u64 ag,int u64 ah,int u64 ai])) m' []->∃(R_3
 : RT),R_3=f 4 [agg (Array.mk [slice p1a p1n p1c,bool false]),agg (Array.mk [int u8 aG,int u64 aD,int u64 aI,int u64 aJ,int u64 aK,int i64 aE,int i64 aH,slice aB aA aC]),agg (Array.mk
 [int u64 n,int u64 ab,int u64 ac,int u64 ad,int u64 ae,int u64 af,int u64 ag,int u64 ah,int u64 ai])] m'/\CX Try.prog 64 (Array.mk [agg (Array.mk [slice p1a p1n p1c,bool false]),agg (Array.mk [int u8 aG,
 int u64 aD,int u64 aI,int u64 aJ,int u64 aK,int i64 aE,int i64 aH,slice aB aA aC]),agg (Array.mk [int u64 n,int u64 ab,int u64 ac,int u64 ad,int u64 ae,int u64 af,int u64 ag,int u64
 ah,int u64 ai])]) m' [] R_3/\Zar (Shape.agg [Shape.int u64,Shape.int u64,Shape.int u64,Shape.int u64,Shape.int u64,Shape.int u64,Shape.int u64,Shape.int u64,Shape.int u64]) R_3/\∀(n al am an ao ap aq ar au
 : Int) (aj:Mem),Mem.le m' aj->R_3 (agg (Array.mk [int u64 n,int u64 al,int u64 am,int u64 an,int u64 ao,int u64 ap,int u64 aq,int u64 ar,int u64 au])) aj []->∀(b:Nat)(M:Mem),Mem.le aa M->Mem.le m' M
 -> Mem.le aj M->∀(m':Mem),Mem.le M m'->Mem.reads m' b 0 [int u64 n,int u64 al,int u64 am,int u64 an,int u64 ao,int u64 ap,int u64 aq,int u64 ar,int u64 au]->∃(R_4:RT),True/\CX Try.prog 66 (Array.mk
 [Value.pointer (some (Addr.mk b 0 none)),int i64 (↑p1n:Int)]) m' [] R_4/\Zar Shape.bool R_4/\∀(b:Bool)(ak:Mem),Mem.le m' ak->R_4 (bool b) ak []->∃(m'':Mem),Mem.le m m''/\Mem.le m'' ak/\R (tuple
 (Array.mk [bool b,int i64 0])) m'' [])
theorem Zg9(aG aD aI aJ aK aE aH:Int)(aB:Option Addr)(aA aC:Nat)(p1a:Option Addr)(p1n p1c:Nat)(m:Mem)(R:RT)(h:Zem aG aD aI aJ aK aE aH aB aA aC p1a p1n p1c m R):CX Try.prog 29 #[.agg #[.int .u8 aG,.int .u64 aD,.int .u64 aI,.int .u64 aJ,.int .u64 aK,.int .i64 aE,.int .i64 aH,.slice aB aA aC],.slice p1a p1n p1c] m [] R:=
 Zah (E:=Zh2) Zay mix Try.func29 [.v (.agg #[.int .u8 aG,.int .u64 aD,.int .u64 aI,.int .u64 aJ,.int .u64 aK,.int .i64 aE,.int .i64 aH,.slice aB aA aC]),.v (.slice p1a p1n p1c)] [] (by kernel_rfl) (Eq.mp (by kernel_rfl) h)
noncomputable def Zd3:Env:={ EB with
 loops:=(λi=>bif Nat.beq i 4 then⟨[(13,.int .i64)],[],[],false⟩ else⟨[],[],[],false⟩)
 dr:=(λi=>bif Nat.beq i 6 then[⟨0,[],[],none,[],[]⟩,⟨1,[],[],none,[],[]⟩,⟨2,[],[],none,[0,1],[]⟩,⟨3,[],[],none,[0,1,2],[]⟩,⟨4,[],[],none,[],[]⟩,⟨5,[],[],none,[],[]⟩,⟨6,[],[],none,[4,5],[]⟩,⟨7,[],[],none,[4,5,6],[]⟩,⟨8,[],[],none,[0,1,2,3,4,5,6,7],[]⟩]else[]) }
def Zch(p0a:Option Addr)(p0n p0c:Nat)(p1a:Option Addr)(p1n p1c:Nat)(m:Mem)(R:RT):Prop:=
 br (!(↑p0n:Int) == (↑p1n:Int)) (∃(m'':Mem),Mem.le m m''/\Mem.le m'' m/\R (bool false) m'' []) (∃(I:IT),(∃(n:Nat),I [int i64 0] [] [] m n)/\∀(n:Int)(m':Mem)(n_1:Nat),Mem.le m m'->I [int i64
 n] [] [] m' n_1->br (decide (n < (↑p0n:Int))) (∃(b:Nat),∃(o:Nat),p0a=some (Addr.mk b o none)/\Zaj n p0n/\∃(v:Value),m' b (o+Int.toNat n*1)=some v/\∃(b:Nat),∃(o:Nat),p1a=some
 (Addr.mk b o none)/\Zaj n p1n/\∃(v_1:Value),m' b (o+Int.toNat n*1)=some v_1/\chk (ZaX i64 v&&ZaX i64 v_1) (br (!RowKit.intOf v == RowKit.intOf v_1) (∃(m'':Mem),Mem.le m m''/\Mem.le m'' m'/\R
 (bool false) m'' []) (∃(n':Nat),n' < n_1/\I [int i64 (IntKind.wrap i64 (n+(1:Int)))] [] [] m' n'))) (∃(m'':Mem),Mem.le m m''/\Mem.le m'' m'/\R (bool true) m'' []))
theorem ZdQ(p0a:Option Addr)(p0n p0c:Nat)(p1a:Option Addr)(p1n p1c:Nat)(m:Mem)(R:RT)(h:Zch p0a p0n p0c p1a p1n p1c m R):CX Try.prog 35 #[.slice p0a p0n p0c,.slice p1a p1n p1c] m [] R:=
 Zah (E:=Zd3) Zay mix Try.func35 [.v (.slice p0a p0n p0c),.v (.slice p1a p1n p1c)] [] (by kernel_rfl) (Eq.mp (by kernel_rfl) h)
end Go.Proofs.Ytgclajkldphoaaa
namespace Go.Proofs.Ytgclajkldphoaaa
open Go Go.Eng Go.Rx Go.Proofs Go.RowKit
set_option maxRecDepth 100000
theorem Zx3(i:Nat):Int.tdiv (i:Int) 64=((i / 64:Nat):Int):=rfl
theorem Zsw(i:Nat):Int.tmod (i:Int) 64=((i % 64:Nat):Int):=rfl
theorem ZyR(i:Nat)(h:i < 576)(m:Mem):CX Try.prog 65 #[.int .i64 i] m [] (Ret (plV (2 ^ i))):=by
 apply Znt
 unfold ZiJ
 intro b b2
 have hq:IntKind.i64.wrap (Int.tdiv (i:Int) 64)=((i / 64:Nat):Int):=by rw[Zx3];exact ZaO (by omega) (by omega)
 have hr:IntKind.u64.wrap (1*2 ^ min (Int.toNat (Int.tmod (i:Int) 64)) 64)=((2 ^ (i % 64):Nat):Int):=by
  rw[Zsw,Int.toNat_natCast,Nat.min_eq_left (by omega),Int.one_mul]
  have:=Zuy (2 ^ (i % 64)) (by
   have:2 ^ (i % 64) < 2 ^ 64:=Nat.pow_lt_pow_right (by omega) (by omega)
   exact this)
  rw[<-this];push_cast;rfl
 have hs:=ZAe (q:=i / 64) (r:=i % 64) (by omega) (by omega)
 rw[show 64*(i / 64)+i % 64=i by omega]at hs
 simp only[hq,hr,Int.toNat_natCast,Nat.zero_add,Nat.mul_one,hs]
 refine⟨by omega,by omega,by rw[Zsw];omega,⟨by omega,by omega⟩,Zaa (by rw[Nat.ble_eq];omega) (Zaa rfl (Zag (Mem.le_refl _) rfl))⟩
theorem Zsx(f i:Nat)(h:i < 576)(b:Nat)(m:Mem)(hb:m.reads b 0 (plL f)):CX Try.prog 66 #[.pointer (some ⟨b,0,none⟩),.int .i64 i] m [] (Ret (.bool (f.testBit i))):=by
 apply Zfe
 unfold Zc4
 have hq:IntKind.i64.wrap (Int.tdiv (i:Int) 64)=((i / 64:Nat):Int):=by rw[Zx3];exact ZaO (by omega) (by omega)
 simp only[hq,Int.toNat_natCast,Nat.zero_add,Nat.mul_one]
 have wJ:(wdN f (i / 64)).testBit (i % 64)=f.testBit i:=by
  rw[ZoT,show 64*(i / 64)+i % 64=i by omega];simp;omega
 refine⟨by omega,⟨by omega,by omega⟩,_,(by have:=hb (i / 64) _ (Zuz (by omega));simpa using this),by omega,Zaa rfl ⟨by rw[Zsw];omega,Zag (Mem.le_refl _) ?_⟩⟩
 rw[Zsw,Int.toNat_natCast,Nat.min_eq_left (by omega)]
 show Value.bool (IntKind.u64.wrap _ == 1)=_
 simp only[intOf]
 rw[ZrP _ _ (ZvC _ _),wJ]
theorem Zx4(f g:Nat)(m:Mem):CX Try.prog 106 #[plV f,plV g] m [] (Ret (plV (f|||g))):=by
 apply ZfT
 unfold Zdr
 intro b b1 m1 bH _ b2
 refine⟨λxs css _ m' q=>∃k:Nat,k<=9/\xs=[.int .i64 k]/\css=[orL f g k]/\m1.le m'/\q=9 - k,⟨9,0,by omega,rfl,rfl,Mem.le_refl _,rfl⟩,?_⟩
 rintro n cs m2 q bL ⟨k,hk,hn,cR,_,hq⟩
 obtain rfl:n=k:=by simpa using hn
 obtain rfl:cs=orL f g k:=by simpa using cR
 refine Zab (λbF=>?_) (λcP=>?_)
 ·have bI:k < 9:=by have:=of_decide_eq_true bF;omega
  have h1:=Zxj (f:=f) (g:=g) (k:=k) bI
  rw[if_neg (by omega)]at h1
  have h2:=Zuz (f:=g) bI
  simp only[Int.toNat_natCast,Nat.zero_add,Nat.mul_one]
  refine⟨⟨by omega,by omega⟩,Zaw h1 ⟨⟨by omega,by omega⟩,Zaw h2 (Zaa rfl ⟨⟨by omega,by omega⟩,Zaa (by rw[Nat.ble_eq];simp[orL];omega) ⟨by trivial,9 - (k+1),by omega,k+1,by omega,?_,?_,mLt (by assumption) (Mem.le_refl _),rfl⟩⟩)⟩⟩
  ·rw[ZaO (by omega) (by omega)];rfl
  ·show[ZaG _ _ [Value.int .u64 (IntKind.u64.wrap _)]]=_
   simp only[intOf]
   rw[ZrO _ _ (ZvC _ _) (ZvC _ _),ZvD bI]
 ·have:k=9:=by have:=of_decide_eq_false cP;omega
  subst this
  exact Zaa (by rfl) (Zag (mLt bH bL) rfl)
theorem sh6:∀c:Nat,c < 256->IntKind.u8.wrap ((BitVec.ofInt 8 (c:Int)&&&BitVec.ofInt 8 63).toNat:Int)=((c % 64:Nat):Int)/\Int.fdiv (c:Int) (2 ^ 6)=((c / 64:Nat):Int):=by decide
theorem Zsy(t:T)(c:Nat)(hc:c < 256)(m:Mem)(hr:Rep m t):CX Try.prog 92 #[.agg #[.int .u64 t.s0,.int .u64 t.s1,.int .u64 t.s2,.int .u64 t.s3],.int .u8 c] m [] (Ret (.bool (t.hasB c))):=by
 apply ZpC
 unfold Zky
 intro b m1 bH _
 obtain⟨h1,h2⟩:=sh6 c hc
 simp only[h1,h2,Int.toNat_natCast,Nat.zero_add,Nat.mul_one]
 have cA:=Zvz hr
 have hw:∃w:Int,[Value.int .u64 t.s0,.int .u64 t.s1,.int .u64 t.s2,.int .u64 t.s3][c / 64]?=some (.int .u64 w)/\0<=w/\w < 18446744073709551616/\t.hasB c=w.toNat.testBit (c % 64):=by
  have:c / 64=0\/c / 64=1\/c / 64=2\/c / 64=3:=by omega
  unfold T.hasB
  rcases this with e|e|e|e
  ·exact⟨t.s0,by rw[e];rfl,cA.s0.1,cA.s0.2,by simp[e]⟩
  ·exact⟨t.s1,by rw[e];rfl,cA.s1.1,cA.s1.2,by simp[e]⟩
  ·exact⟨t.s2,by rw[e];rfl,cA.s2.1,cA.s2.2,by simp[e]⟩
  ·exact⟨t.s3,by rw[e];rfl,cA.s3.1,cA.s3.2,by simp[e]⟩
 obtain⟨w,eF,dT,oW,u0⟩:=hw
 refine⟨by omega,⟨by omega,by omega⟩,Zaw eF (Zaa rfl ⟨by omega,Zag bH ?_⟩)⟩
 rw[u0,Nat.min_eq_left (by omega)]
 obtain⟨n,rfl⟩:∃n:Nat,w=n:=⟨w.toNat,by omega⟩
 show Value.bool (IntKind.u64.wrap _ == 1)=_
 simp only[intOf]
 rw[ZrP _ _ (by omega)]
 simp
end Go.Proofs.Ytgclajkldphoaaa
namespace Go.Proofs.Ytgclajkldphoaaa
open Go Go.Eng Go.Proofs Go.RowKit Go.Rx
theorem Zx5(a b c d e f g h i a' b' c' d' e' f' g' h' i':Int):EqIs Try.prog 119 (.agg #[.int .u64 a,.int .u64 b,.int .u64 c,.int .u64 d,.int .u64 e,.int .u64 f,.int .u64 g,.int .u64 h,.int .u64 i]) (.agg #[.int .u64 a',.int .u64 b',.int .u64 c',.int .u64 d',.int .u64 e',.int .u64 f',.int .u64 g',.int .u64 h',.int .u64 i']) (a == a'&&(b == b'&&(c == c'&&(d == d'&&(e == e'&&(f == f'&&(g == g'&&(h == h'&&i == i')))))))):=by
 refine⟨λw=>?_,λop ox oy w=>Zez (by kernel_rfl) op ox oy _ _ w⟩
 have u3:=Try.underlying24
 have a3:=Try.isAgg24
 have z3:=Try.sizeOf24
 rw[Op.equal,Op.maxDepth,show(10000:Nat)=9999+1 from rfl,Op.equalIn]
 simp only[Sem.run_bind,run_underlying Try.underlying119,Result.andThen_ok]
 simp only[Std.Legacy.Range.forIn_eq_forIn_range',Std.Legacy.Range.size,Nat.sub_zero,Nat.add_sub_cancel,Nat.div_one,List.range'_succ,List.range'_zero,List.forIn_cons,List.forIn_nil]
 go_simp
 by_cases h1:a=a'
 ·by_cases h2:b=b'
  ·by_cases h3:c=c'
   ·by_cases h4:d=d'
    ·by_cases h5:e=e'
     ·by_cases h6:f=f'
      ·by_cases h7:g=g'
       ·by_cases h8:h=h'
        ·by_cases h9:i=i' <;> simp[h1,h2,h3,h4,h5,h6,h7,h8,h9]
        ·simp[h1,h2,h3,h4,h5,h6,h7,h8]
       ·simp[h1,h2,h3,h4,h5,h6,h7]
      ·simp[h1,h2,h3,h4,h5,h6]
     ·simp[h1,h2,h3,h4,h5]
    ·simp[h1,h2,h3,h4]
   ·simp[h1,h2,h3]
  ·simp[h1,h2]
 ·simp[h1]
theorem ZAo{f g:Nat}(hf:f < ZcS)(hg:g < ZcS):EqIs Try.prog 119 (plV f) (plV g) (f == g):=by
 have h:=Zx5 (wdN f 0:Nat) (wdN f 1:Nat) (wdN f 2:Nat) (wdN f 3:Nat) (wdN f 4:Nat) (wdN f 5:Nat) (wdN f 6:Nat) (wdN f 7:Nat) (wdN f 8:Nat) (wdN g 0:Nat) (wdN g 1:Nat) (wdN g 2:Nat) (wdN g 3:Nat) (wdN g 4:Nat) (wdN g 5:Nat) (wdN g 6:Nat) (wdN g 7:Nat) (wdN g 8:Nat)
 have e:(((wdN f 0:Nat):Int) == (wdN g 0:Nat)&&(((wdN f 1:Nat):Int) == (wdN g 1:Nat)&&(((wdN f 2:Nat):Int) == (wdN g 2:Nat)&&(((wdN f 3:Nat):Int) == (wdN g 3:Nat)&&(((wdN f 4:Nat):Int) == (wdN g 4:Nat)&&(((wdN f 5:Nat):Int) == (wdN g 5:Nat)&&(((wdN f 6:Nat):Int) == (wdN g 6:Nat)&&(((wdN f 7:Nat):Int) == (wdN g 7:Nat)&&((wdN f 8:Nat):Int) == (wdN g 8:Nat)))))))))=(f == g):=by
  rw[Bool.eq_iff_iff]
  simp only[Bool.and_eq_true,beq_iff_eq,Int.natCast_inj]
  constructor
  ·rintro⟨h0,h1,h2,h3,h4,h5,h6,h7,h8⟩
   refine Zy9 hf hg λj hj=>?_
   have:j=0\/j=1\/j=2\/j=3\/j=4\/j=5\/j=6\/j=7\/j=8:=by omega
   rcases this with rfl|rfl|rfl|rfl|rfl|rfl|rfl|rfl|rfl
   ·exact h0
   ·exact h1
   ·exact h2
   ·exact h3
   ·exact h4
   ·exact h5
   ·exact h6
   ·exact h7
   ·exact h8
  ·rintro rfl;simp
 rw[e]at h
 exact h
end Go.Proofs.Ytgclajkldphoaaa