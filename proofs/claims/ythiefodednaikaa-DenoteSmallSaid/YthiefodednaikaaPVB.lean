/- Part of the proof: conditions and contracts of functions of this program. No condition of its own. -/
import Derived.Test.YthiefodednaikaaPEnv
set_option linter.unusedVariables false
set_option linter.unusedSimpArgs false
set_option linter.unusedSectionVars false
namespace Go.Proofs.Ythiefodednaikaa
open Go Go.Eng Go.Proofs Go.RowKit
open Go.Value (int slice agg bool string tuple func)
open Go.IntKind (u8 u64 i64)
set_option maxRecDepth 100000
noncomputable def ZpF:Env:=EB
def ZiL(p0:Int)(m:Mem)(R:RT):Prop:=
 ∀(b b:Nat),(64:Int)≠(0:Int)/\(64:Int)≠(0:Int)/\(0:Int)<=Int.tmod p0 (64:Int)/\Zaf (IntKind.wrap i64 (Int.tdiv p0 (64:Int))) 9/\chk (Nat.ble (0+Int.toNat (IntKind.wrap i64 (Int.tdiv p0
 (64:Int)))*1) (nat_lit 8)) (chk (Nat.beq (List.length (Zam (List.replicate 9 (int u64 0)) (0+Int.toNat (IntKind.wrap i64 (Int.tdiv p0 (64:Int)))*1) [int u64 (IntKind.wrap u64 ((1:Int)*(2:Int) ^ min
 (Int.toNat (Int.tmod p0 (64:Int))) 64))])) 9&&Zcp (Zam (List.replicate 9 (int u64 0)) (0+Int.toNat (IntKind.wrap i64 (Int.tdiv p0 (64:Int)))*1) [int u64 (IntKind.wrap u64 ((1:Int)*(2:Int) ^ min
 (Int.toNat (Int.tmod p0 (64:Int))) 64))])) (∃(m'':Mem),Mem.le m m''/\Mem.le m'' m/\R (agg (Array.mk (Zam (List.replicate 9 (int u64 0)) (0+Int.toNat (IntKind.wrap i64 (Int.tdiv p0 (64:Int)))*1) [int u64
 (IntKind.wrap u64 ((1:Int)*(2:Int) ^ min (Int.toNat (Int.tmod p0 (64:Int))) 64))]))) m'' []))
theorem ZnH(p0:Int)(m:Mem)(R:RT)(h:ZiL p0 m R):CX Try.prog 54 #[.int .i64 p0] m [] R:=
 Zae (E:=ZpF) Zax mix Try.func54 [.v (.int .i64 p0)] [] (by kernel_rfl) (Eq.mp (by kernel_rfl) h)
noncomputable def Zfn:Env:=EB
def ZcI(p0b p0o:Nat)(p1:Int)(m:Mem)(R:RT):Prop:=
 (64:Int)≠(0:Int)/\Zaf (IntKind.wrap i64 (Int.tdiv p1 (64:Int))) 9/\∃(v:Value),m p0b (p0o+Int.toNat (IntKind.wrap i64 (Int.tdiv p1 (64:Int)))*1)=some v/\(64:Int)≠(0:Int)/\chk (Zar u64
 v&&true) ((0:Int)<=Int.tmod p1 (64:Int)/\∃(m'':Mem),Mem.le m m''/\Mem.le m'' m/\R (bool (IntKind.wrap u64 (↑(BitVec.toNat (BitVec.ofInt 64 (Int.fdiv (RowKit.intOf v) ((2:Int) ^ min (Int.toNat (Int.tmod
 p1 (64:Int))) 64))&&&BitVec.ofInt 64 (1:Int))):Int) == (1:Int))) m'' [])
theorem ZeN(p0b p0o:Nat)(p1:Int)(m:Mem)(R:RT)(h:ZcI p0b p0o p1 m R):CX Try.prog 55 #[.pointer (some ⟨p0b,p0o,none⟩),.int .i64 p1] m [] R:=
 Zae (E:=Zfn) Zax mix Try.func55 [.v (.pointer (some ⟨p0b,p0o,none⟩)),.v (.int .i64 p1)] [] (by kernel_rfl) (Eq.mp (by kernel_rfl) h)
noncomputable def ZfX:Env:={ EB with
 loops:=(λi=>bif Nat.beq i 2 then⟨[(6,.int .i64)],[2],[],false⟩ else⟨[],[],[],false⟩)
 dr:=(λi=>bif Nat.beq i 4 then[⟨0,[],[],none,[],[]⟩,⟨1,[2],[],none,[0],[]⟩,⟨2,[2],[],none,[0,1],[]⟩,⟨3,[],[],none,[],[]⟩,⟨4,[3],[],none,[3],[]⟩,⟨5,[3],[],none,[3,4],[]⟩,⟨6,[],[],none,[0,1,2,3,4,5],[]⟩,⟨7,[2],[],none,[0,1,2,3,4,5,6],[]⟩,⟨8,[2],[2],none,[0,1,2,3,4,5,6,7],[]⟩]else[])
 frzNew:=[3] }
def ZcW(aF aC aH aI aJ aE aG bX bY aZ aN aO aP aQ aR aS cG cH:Int)(m:Mem)(R:RT):Prop:=
 ∀(b b_1:Nat)(m':Mem),Mem.le m m'->Mem.reads m' b_1 0 [int u64 aZ,int u64 aN,int u64 aO,int u64 aP,int u64 aQ,int u64 aR,int u64 aS,int u64 cG,int u64 cH]->∀(b_2:Nat),∃(I:IT),(∃
 (n:Nat),I [int i64 0] [[int u64 aF,int u64 aC,int u64 aH,int u64 aI,int u64 aJ,int u64 aE,int u64 aG,int u64 bX,int u64 bY]] [] m' n)/\∀(n:Int)(cs:List Value)(m'_1:Mem) (n_1:
 Nat),Mem.le m' m'_1->I [int i64 n] [cs] [] m'_1 n_1->br (decide (n < (9:Int))) (Zaf n 9/\Eng.Zty cs (0+Int.toNat n*1) λ(v:Value)=>Zaf n 9/\Eng.Zty [int u64 aZ,int u64 aN,int u64 aO,
 int u64 aP,int u64 aQ,int u64 aR,int u64 aS,int u64 cG,int u64 cH] (0+Int.toNat n*1) λ(v_1:Value)=>chk (Zar u64 v&&Zar u64 v_1) (Zaf n 9/\chk (Nat.ble (0+Int.toNat n*1+1)
 (List.length cs)) ([some (Box.mk b_2 (List.replicate 9 (int u64 0)) 95 9 false true),some (Box.mk b_1 [int u64 aZ,int u64 aN,int u64 aO,int u64 aP,int u64 aQ,int u64 aR,int u64 aS,int u64 cG,int
 u64 cH] 95 9 true true),some (Box.mk b [] 95 9 false true)]=[some (Box.mk b_2 (List.replicate 9 (int u64 0)) 95 9 false true),some (Box.mk b_1 [int u64 aZ,int u64 aN,int u64 aO,int u64 aP,int u64 aQ,
 int u64 aR,int u64 aS,int u64 cG,int u64 cH] 95 9 true true),some (Box.mk b [] 95 9 false true)]/\∃(n':Nat),n' < n_1/\I [int i64 (IntKind.wrap i64 (n+(1:Int)))] [Zam cs (0+Int.toNat n*1)
 [int u64 (IntKind.wrap u64 (↑(BitVec.toNat (BitVec.ofInt 64 (RowKit.intOf v)|||BitVec.ofInt 64 (RowKit.intOf v_1))):Int))]] [] m'_1 n'))) (chk (Nat.beq (List.length cs) 9&&Zcp cs) (∃(m'':Mem),Mem.le m m''/\
 Mem.le m'' m'_1/\R (agg (Array.mk cs)) m'' []))
theorem Zfo(aF aC aH aI aJ aE aG bX bY aZ aN aO aP aQ aR aS cG cH:Int)(m:Mem)(R:RT)(h:ZcW aF aC aH aI aJ aE aG bX bY aZ aN aO aP aQ aR aS cG cH m R):CX Try.prog 104 #[.agg #[.int .u64 aF,.int .u64 aC,.int .u64 aH,.int .u64 aI,.int .u64 aJ,.int .u64 aE,.int .u64 aG,.int .u64 bX,.int .u64 bY],.agg #[.int .u64 aZ,.int .u64 aN,.int .u64 aO,.int .u64 aP,.int .u64 aQ,.int .u64 aR,.int .u64 aS,.int .u64 cG,.int .u64 cH]] m [] R:=
 Zae (E:=ZfX) Zax mix Try.func104 [.v (.agg #[.int .u64 aF,.int .u64 aC,.int .u64 aH,.int .u64 aI,.int .u64 aJ,.int .u64 aE,.int .u64 aG,.int .u64 bX,.int .u64 bY]),.v (.agg #[.int .u64 aZ,.int .u64 aN,.int .u64 aO,.int .u64 aP,.int .u64 aQ,.int .u64 aR,.int .u64 aS,.int .u64 cG,.int .u64 cH])] [] (by kernel_rfl) (Eq.mp (by kernel_rfl) h)
noncomputable def Zeg:Env:={ EB with
 loops:=(λi=>bif Nat.beq i 1 then⟨[(4,.int .i64)],[],[],true⟩ else⟨[],[],[],false⟩) }
def Zcg(p0g:Nat)(p0fi p0ca:List Value)(c0b c0o:Nat)(m:Mem)(xs:List (List Value)):Prop:=
 ∀(l:Nat),∃(I:IT),(∃(n:Nat),I [int i64 0,int i64 0] [] [] m n)/\∀(y n:Int)(m':Mem)(n_1:Nat),Mem.le m m'->I [int i64 y,int i64 n] [] [] m' n_1->br (decide (n < (513:Int))) (∃(v:Value),m'
 c0b c0o=some v/\∃(R:RT),True/\CX Try.prog 55 (Array.mk [v,int i64 n]) m' [] R/\Zaq Shape.bool R/\∀(b:Bool)(m'_1:Mem),Mem.le m' m'_1->R (bool b) m'_1 []->br b ((l=l/\(0:Int)<=y/\
 List.get?Internal xs (Int.toNat y)=some [int i64 n])/\(∃(n':Nat),n' < n_1/\I [int i64 (y+(1:Int)),int i64 (IntKind.wrap i64 (n+(1:Int)))] [] [] m'_1 n')/\((-1:Int)=(↑(List.length xs):Int)\/(-1:
 Int)=(-1:Int))) (∃(n':Nat),n' < n_1/\I [int i64 y,int i64 (IntKind.wrap i64 (n+(1:Int)))] [] [] m'_1 n')) (y=(↑(List.length xs):Int)\/y=(-1:Int))
theorem ZdA(p0g:Nat)(p0fi p0ca:List Value)(c0b c0o:Nat)(m:Mem)(xs:List (List Value))(h:Zcg p0g p0fi p0ca c0b c0o m xs):IX Try.prog 98 [] [.pointer (some ⟨c0b,c0o,none⟩)] m xs:=
 Zo3 (E:=Zeg) Zax mix Try.func98 [] [.pointer (some ⟨c0b,c0o,none⟩)] xs (by kernel_rfl) (Eq.mp (by kernel_rfl) h)
noncomputable def Zfp:Env:={ EB with
 frzNew:=[1] }
def ZcJ(p0b p0o:Nat)(m:Mem)(R:RT):Prop:=
 ∀(b:Nat)(m':Mem),Mem.le m m'->Mem.reads m' b 0 [Value.pointer (some (Addr.mk p0b p0o none))]->∃(m'':Mem),Mem.le m m''/\Mem.le m'' m'/\R (func (Fn.func 98) (Array.mk []) (Array.mk [Value.pointer (some
 (Addr.mk b 0 none))])) m'' []
theorem ZeO(p0b p0o:Nat)(m:Mem)(R:RT)(h:ZcJ p0b p0o m R):CX Try.prog 82 #[.pointer (some ⟨p0b,p0o,none⟩)] m [] R:=
 Zae (E:=Zfp) Zax mix Try.func82 [.v (.pointer (some ⟨p0b,p0o,none⟩))] [] (by kernel_rfl) (Eq.mp (by kernel_rfl) h)
noncomputable def ZqN:Env:={ EB with
 frzNew:=[2] }
def ZkT(aF aC aH aI p1:Int)(m:Mem)(R:RT):Prop:=
 ∀(b:Nat)(m':Mem),Mem.le m m'->Mem.reads m' b 0 [int u64 aF,int u64 aC,int u64 aH,int u64 aI]->(0:Int)<=(6:Int)/\Zaf (Int.fdiv p1 ((2:Int) ^ 6)) 4/\Eng.Zty [int u64 aF,int u64 aC,
 int u64 aH,int u64 aI] (0+Int.toNat (Int.fdiv p1 ((2:Int) ^ 6))*1) λ(v:Value)=>chk (Zar u64 v&&true) ((0:Int)<=IntKind.wrap u8 (↑(BitVec.toNat (BitVec.ofInt 8 p1&&&BitVec.ofInt 8 (63:Int)))
 : Int)/\∃(m'':Mem),Mem.le m m''/\Mem.le m'' m'/\R (bool (IntKind.wrap u64 (↑(BitVec.toNat (BitVec.ofInt 64 (Int.fdiv (RowKit.intOf v) ((2:Int) ^ min (Int.toNat (IntKind.wrap u8 (↑(BitVec.toNat (BitVec.ofInt 8
 p1&&&BitVec.ofInt 8 (63:Int))):Int))) 64))&&&BitVec.ofInt 64 (1:Int))):Int) == (1:Int))) m'' [])
theorem ZpG(aF aC aH aI p1:Int)(m:Mem)(R:RT)(h:ZkT aF aC aH aI p1 m R):CX Try.prog 119 #[.agg #[.int .u64 aF,.int .u64 aC,.int .u64 aH,.int .u64 aI],.int .u8 p1] m [] R:=
 Zae (E:=ZqN) Zax mix Try.func119 [.v (.agg #[.int .u64 aF,.int .u64 aC,.int .u64 aH,.int .u64 aI]),.v (.int .u8 p1)] [] (by kernel_rfl) (Eq.mp (by kernel_rfl) h)
noncomputable def Zfq:Env:={ EB with
 frzNew:=[1] }
def ZcK(aU:Option Addr)(aT aV:Nat)(aC:Bool)(m:Mem)(R:RT):Prop:=
 ∀(b:Nat)(m':Mem),Mem.le m m'->Mem.reads m' b 0 [slice aU aT aV,bool aC]->∀(b_1:Nat),∃(m'':Mem),Mem.le m m''/\Mem.le m'' m'/\R (agg (Array.mk [func (Fn.func 99) (Array.mk []) (Array.mk []),
 func (Fn.func 100) (Array.mk []) (Array.mk []),func (Fn.func 101) (Array.mk [agg (Array.mk [slice aU aT aV,bool aC])]) (Array.mk []),func (Fn.func 102) (Array.mk []) (Array.mk [Value.pointer (some (Addr.mk
 b 0 none))]),func (Fn.func 103) (Array.mk []) (Array.mk [Value.pointer (some (Addr.mk b 0 none))]),func (Fn.func 105) (Array.mk [agg (Array.mk [slice aU aT aV,bool aC])]) (Array.mk []),func (Fn.func 106)
 (Array.mk []) (Array.mk [Value.pointer (some (Addr.mk b 0 none))])])) m'' []
set_option maxHeartbeats 4000000 in
theorem ZeP(aU:Option Addr)(aT aV:Nat)(aC:Bool)(m:Mem)(R:RT)(h:ZcK aU aT aV aC m R):CX Try.prog 84 #[.agg #[.slice aU aT aV,.bool aC]] m [] R:=
 Zae (E:=Zfq) Zax mix Try.func84 [.v (.agg #[.slice aU aT aV,.bool aC])] [] (by kernel_rfl) (Eq.mp (by kernel_rfl) h)
noncomputable def Zeh:Env:={ EB with
 frzNew:=[2,3] }
def Zch(aF aC aH aI aJ aE aG:Int)(aB:Option Addr)(aA aD:Nat)(aZ aN aO aP aQ aR aS cG cH:Int)(m:Mem)(R:RT):Prop:=
 ∀(b:Nat)(m':Mem),Mem.le m m'->Mem.reads m' b 0 [int u8 aF,int u64 aC,int u64 aH,int u64 aI,int u64 aJ,int i64 aE,int i64 aG,slice aB aA aD]->∀(b:Nat)(m'_1:Mem),Mem.le m'
 m'_1->Mem.reads m'_1 b 0 [int u64 aZ,int u64 aN,int u64 aO,int u64 aP,int u64 aQ,int u64 aR,int u64 aS,int u64 cG,int u64 cH]->∀(b:Nat),∃(m'':Mem),Mem.le m m''/\Mem.le m'' m'_1/\R
 (agg (Array.mk (List.replicate 9 (int u64 0)))) m'' []
theorem ZdB(aF aC aH aI aJ aE aG:Int)(aB:Option Addr)(aA aD:Nat)(aZ aN aO aP aQ aR aS cG cH:Int)(m:Mem)(R:RT)(h:Zch aF aC aH aI aJ aE aG aB aA aD aZ aN aO aP aQ aR aS cG cH m R):CX Try.prog 99 #[.agg #[.int .u8 aF,.int .u64 aC,.int .u64 aH,.int .u64 aI,.int .u64 aJ,.int .i64 aE,.int .i64 aG,.slice aB aA aD],.agg #[.int .u64 aZ,.int .u64 aN,.int .u64 aO,.int .u64 aP,.int .u64 aQ,.int .u64 aR,.int .u64 aS,.int .u64 cG,.int .u64 cH]] m [] R:=
 Zae (E:=Zeh) Zax mix Try.func99 [.v (.agg #[.int .u8 aF,.int .u64 aC,.int .u64 aH,.int .u64 aI,.int .u64 aJ,.int .i64 aE,.int .i64 aG,.slice aB aA aD]),.v (.agg #[.int .u64 aZ,.int .u64 aN,.int .u64 aO,.int .u64 aP,.int .u64 aQ,.int .u64 aR,.int .u64 aS,.int .u64 cG,.int .u64 cH])] [] (by kernel_rfl) (Eq.mp (by kernel_rfl) h)
noncomputable def Zei:Env:={ EB with
 frzNew:=[2,3] }
def Zci(aF aC aH aI aJ aE aG:Int)(aB:Option Addr)(aA aD:Nat)(aZ aN aO aP aQ aR aS cG cH:Int)(m:Mem)(R:RT):Prop:=
 ∀(b:Nat)(m':Mem),Mem.le m m'->Mem.reads m' b 0 [int u8 aF,int u64 aC,int u64 aH,int u64 aI,int u64 aJ,int i64 aE,int i64 aG,slice aB aA aD]->∀(b:Nat)(m'_1:Mem),Mem.le m'
 m'_1->Mem.reads m'_1 b 0 [int u64 aZ,int u64 aN,int u64 aO,int u64 aP,int u64 aQ,int u64 aR,int u64 aS,int u64 cG,int u64 cH]->∀(b:Nat),∃(m'':Mem),Mem.le m m''/\Mem.le m'' m'_1/\R
 (agg (Array.mk [int u64 aZ,int u64 aN,int u64 aO,int u64 aP,int u64 aQ,int u64 aR,int u64 aS,int u64 cG,int u64 cH])) m'' []
theorem ZdC(aF aC aH aI aJ aE aG:Int)(aB:Option Addr)(aA aD:Nat)(aZ aN aO aP aQ aR aS cG cH:Int)(m:Mem)(R:RT)(h:Zci aF aC aH aI aJ aE aG aB aA aD aZ aN aO aP aQ aR aS cG cH m R):CX Try.prog 100 #[.agg #[.int .u8 aF,.int .u64 aC,.int .u64 aH,.int .u64 aI,.int .u64 aJ,.int .i64 aE,.int .i64 aG,.slice aB aA aD],.agg #[.int .u64 aZ,.int .u64 aN,.int .u64 aO,.int .u64 aP,.int .u64 aQ,.int .u64 aR,.int .u64 aS,.int .u64 cG,.int .u64 cH]] m [] R:=
 Zae (E:=Zei) Zax mix Try.func100 [.v (.agg #[.int .u8 aF,.int .u64 aC,.int .u64 aH,.int .u64 aI,.int .u64 aJ,.int .i64 aE,.int .i64 aG,.slice aB aA aD]),.v (.agg #[.int .u64 aZ,.int .u64 aN,.int .u64 aO,.int .u64 aP,.int .u64 aQ,.int .u64 aR,.int .u64 aS,.int .u64 cG,.int .u64 cH])] [] (by kernel_rfl) (Eq.mp (by kernel_rfl) h)
noncomputable def Zfr:Env:={ EB with
 loops:=(λi=>bif Nat.beq i 3 then⟨[(15,.int .i64)],[7],[],false⟩ else⟨[],[],[],false⟩)
 joins:=(λi=>bif Nat.beq i 8 then some [(34,.bool)]else none)
 dr:=(λi=>bif Nat.beq i 9 then[⟨0,[7],[],none,[],[]⟩,⟨1,[],[],none,[],[]⟩,⟨2,[],[],none,[1],[]⟩,⟨3,[],[],none,[0,1,2],[2]⟩,⟨4,[7],[7],none,[0,1,2,3],[]⟩]else[])
 frzNew:=[3,4,5] }
def ZcL(aU:Option Addr)(aT aV:Nat)(aC:Bool)(aZ aN aO aP aQ aR aS:Int)(aK:Option Addr)(aL aM:Nat)(bD bE bF bG bH bI bJ bK bL:Int)(m:Mem)(R:RT):Prop:=
 ∀(b:Nat)(m':Mem),Mem.le m m'->Mem.reads m' b 0 [slice aU aT aV,bool aC]->∀(ac:Nat)(a4:Mem),Mem.le m' a4->Mem.reads a4 ac 0 [int u8 aZ,int u64 aN,int u64 aO,int u64 aP,int u64
 aQ,int i64 aR,int i64 aS,slice aK aL aM]->∀(aa:Nat)(m':Mem),Mem.le a4 m'->Mem.reads m' aa 0 [int u64 bD,int u64 bE,int u64 bF,int u64 bG,int u64 bH,int u64 bI,int u64 bJ,
 int u64 bK,int u64 bL]->∀(ad ae:Nat),∃(I:IT),(∃(n:Nat),I [int i64 0] [List.replicate 9 (int u64 0)] [] m' n)/\∀(n:Int)(cs:List Value)(ab:Mem)(aq:Nat),Mem.le m' ab->I [int i64 n] [cs] []
 ab aq->br (decide (n < (↑aT:Int))) (∃(a5:Nat),∃(o:Nat),aU=some (Addr.mk a5 o none)/\Zaf n aT/\∃(v:Value),ab a5 (o+Int.toNat n*1)=some v/\br aC (∃(ag:Bool),(∃(R:RT),True/\
 CX Try.prog 55 (Array.mk [Value.pointer (some (Addr.mk aa 0 none)),int i64 (IntKind.wrap i64 (n+(1:Int)))]) ab [] R/\Zaq Shape.bool R/\∀(ar:Bool)(m':Mem),Mem.le ab m'->R (bool ar) m' []->br ar (∃(R:
 RT),True/\CX Try.prog 119 (Array.mk [agg (Array.mk [int u64 aN,int u64 aO,int u64 aP,int u64 aQ]),v]) m' [] R/\Zaq Shape.bool R/\∀(au:Bool)(af:Mem),Mem.le m' af->R (bool au) af []->[some
 (Box.mk ae cs 95 9 false true),some (Box.mk ad (List.replicate 9 (int u64 0)) 95 9 false true),some (Box.mk aa [int u64 bD,int u64 bE,int u64 bF,int u64 bG,int u64 bH,int u64 bI,int u64 bJ,int u64
 bK,int u64 bL] 95 9 true true),some (Box.mk ac [int u8 aZ,int u64 aN,int u64 aO,int u64 aP,int u64 aQ,int i64 aR,int i64 aS,slice aK aL aM] 29 8 true true),some (Box.mk b [slice
 aU aT aV,bool aC] 97 2 true true)]=[some (Box.mk ae cs 95 9 false true),some (Box.mk ad (List.replicate 9 (int u64 0)) 95 9 false true),some (Box.mk aa [int u64 bD,int u64 bE,int u64 bF,int u64
 bG,int u64 bH,int u64 bI,int u64 bJ,int u64 bK,int u64 bL] 95 9 true true),some (Box.mk ac [int u8 aZ,int u64 aN,int u64 aO,int u64 aP,int u64 aQ,int i64 aR,int i64 aS,slice aK
 aL aM] 29 8 true true),some (Box.mk b [slice aU aT aV,bool aC] 97 2 true true)]/\[bool au]=[bool ag]) ([some (Box.mk ae cs 95 9 false true),some (Box.mk ad (List.replicate 9 (int u64 0)) 95 9
 false true),some (Box.mk aa [int u64 bD,int u64 bE,int u64 bF,int u64 bG,int u64 bH,int u64 bI,int u64 bJ,int u64 bK,int u64 bL] 95 9 true true),some (Box.mk ac [int u8 aZ,int u64 aN,
 int u64 aO,int u64 aP,int u64 aQ,int i64 aR,int i64 aS,slice aK aL aM] 29 8 true true),some (Box.mk b [slice aU aT aV,bool aC] 97 2 true true)]=[some (Box.mk ae cs 95 9 false
 true),some (Box.mk ad (List.replicate 9 (int u64 0)) 95 9 false true),some (Box.mk aa [int u64 bD,int u64 bE,int u64 bF,int u64 bG,int u64 bH,int u64 bI,int u64 bJ,int u64 bK,int u64 bL] 95 9
 true true),some (Box.mk ac [int u8 aZ,int u64 aN,int u64 aO,int u64 aP,int u64 aQ,int i64 aR,int i64 aS,slice aK aL aM] 29 8 true true),some (Box.mk b [slice aU aT aV,bool aC]
 97 2 true true)]/\[bool false]=[bool ag]))/\br ag (∃(f:Fx),∃(R:RT),R=f 2 [int i64 n] ab/\CX Try.prog 54 (Array.mk [int i64 n]) ab [] R/\Zaq (Shape.agg [Shape.int u64,Shape.int u64,Shape.int u64,
 Shape.int u64,Shape.int u64,Shape.int u64,Shape.int u64,Shape.int u64,Shape.int u64]) R/\∀(ah ai aj ak al am an ao ap:Int)(m':Mem),Mem.le ab m'->R (agg (Array.mk [int u64 ah,int u64 ai,int u64 aj,int
 u64 ak,int u64 al,int u64 am,int u64 an,int u64 ao,int u64 ap])) m' []->∃(R:RT),R=f 3 [agg (Array.mk cs),agg (Array.mk [int u64 ah,int u64 ai,int u64 aj,int u64 ak,int u64 al,int u64 am,int u64 an,
 int u64 ao,int u64 ap])] m'/\CX Try.prog 104 (Array.mk [agg (Array.mk cs),agg (Array.mk [int u64 ah,int u64 ai,int u64 aj,int u64 ak,int u64 al,int u64 am,int u64 an,int u64 ao,int u64 ap])]) m' [] R/\Zaq
 (Shape.agg [Shape.int u64,Shape.int u64,Shape.int u64,Shape.int u64,Shape.int u64,Shape.int u64,Shape.int u64,Shape.int u64,Shape.int u64]) R/\∀(av aw ax ay az a0 a1 a2 a3:Int)(af:Mem),Mem.le m' af->R
 (agg (Array.mk [int u64 av,int u64 aw,int u64 ax,int u64 ay,int u64 az,int u64 a0,int u64 a1,int u64 a2,int u64 a3])) af []->∀(M:Mem),Mem.le ab M->Mem.le m' M->Mem.le af M->[some (Box.mk ae [] 95 9 false
 true),some (Box.mk ad (List.replicate 9 (int u64 0)) 95 9 false true),some (Box.mk aa [int u64 bD,int u64 bE,int u64 bF,int u64 bG,int u64 bH,int u64 bI,int u64 bJ,int u64 bK,int u64 bL] 95 9
 true true),some (Box.mk ac [int u8 aZ,int u64 aN,int u64 aO,int u64 aP,int u64 aQ,int i64 aR,int i64 aS,slice aK aL aM] 29 8 true true),some (Box.mk b [slice aU aT aV,bool aC]
 97 2 true true)]=[some (Box.mk ae [] 95 9 false true),some (Box.mk ad (List.replicate 9 (int u64 0)) 95 9 false true),some (Box.mk aa [int u64 bD,int u64 bE,int u64 bF,int u64 bG,int u64 bH,int u64
 bI,int u64 bJ,int u64 bK,int u64 bL] 95 9 true true),some (Box.mk ac [int u8 aZ,int u64 aN,int u64 aO,int u64 aP,int u64 aQ,int i64 aR,int i64 aS,slice aK aL aM] 29 8 true
 true),some (Box.mk b [slice aU aT aV,bool aC] 97 2 true true)]/\∃(n':Nat),n' < aq/\I [int i64 (IntKind.wrap i64 (n+(1:Int)))] [[int u64 av,int u64 aw,int u64 ax,int u64 ay,int u64 az,int u64
 a0,int u64 a1,int u64 a2,int u64 a3]] [] M n') ([some (Box.mk ae [] 95 9 false true),some (Box.mk ad (List.replicate 9 (int u64 0)) 95 9 false true),some (Box.mk aa [int u64 bD,int u64 bE,int u64 bF,int
 u64 bG,int u64 bH,int u64 bI,int u64 bJ,int u64 bK,int u64 bL] 95 9 true true),some (Box.mk ac [int u8 aZ,int u64 aN,int u64 aO,int u64 aP,int u64 aQ,int i64 aR,int i64 aS,slice
 aK aL aM] 29 8 true true),some (Box.mk b [slice aU aT aV,bool aC] 97 2 true true)]=[some (Box.mk ae [] 95 9 false true),some (Box.mk ad (List.replicate 9 (int u64 0)) 95 9 false true),some
 (Box.mk aa [int u64 bD,int u64 bE,int u64 bF,int u64 bG,int u64 bH,int u64 bI,int u64 bJ,int u64 bK,int u64 bL] 95 9 true true),some (Box.mk ac [int u8 aZ,int u64 aN,int u64 aO,int
 u64 aP,int u64 aQ,int i64 aR,int i64 aS,slice aK aL aM] 29 8 true true),some (Box.mk b [slice aU aT aV,bool aC] 97 2 true true)]/\∃(n':Nat),n' < aq/\I [int i64 (IntKind.wrap i64
 (n+(1:Int)))] [cs] [] ab n')) (∃(ag:Bool),(∃(R:RT),True/\CX Try.prog 55 (Array.mk [Value.pointer (some (Addr.mk aa 0 none)),int i64 n]) ab [] R/\Zaq Shape.bool R/\∀(ar:Bool)(m':Mem),Mem.le ab m'
 -> R (bool ar) m' []->br ar (∃(R:RT),True/\CX Try.prog 119 (Array.mk [agg (Array.mk [int u64 aN,int u64 aO,int u64 aP,int u64 aQ]),v]) m' [] R/\Zaq Shape.bool R/\∀(au:Bool)(af:Mem),Mem.le m'
 af->R (bool au) af []->[some (Box.mk ae cs 95 9 false true),some (Box.mk ad (List.replicate 9 (int u64 0)) 95 9 false true),some (Box.mk aa [int u64 bD,int u64 bE,int u64 bF,int u64 bG,int u64 bH,int
 u64 bI,int u64 bJ,int u64 bK,int u64 bL] 95 9 true true),some (Box.mk ac [int u8 aZ,int u64 aN,int u64 aO,int u64 aP,int u64 aQ,int i64 aR,int i64 aS,slice aK aL aM] 29 8 true
 true),some (Box.mk b [slice aU aT aV,bool aC] 97 2 true true)]=[some (Box.mk ae cs 95 9 false true),some (Box.mk ad (List.replicate 9 (int u64 0)) 95 9 false true),some (Box.mk aa [int u64 bD,int u64
 bE,int u64 bF,int u64 bG,int u64 bH,int u64 bI,int u64 bJ,int u64 bK,int u64 bL] 95 9 true true),some (Box.mk ac [int u8 aZ,int u64 aN,int u64 aO,int u64 aP,int u64 aQ,int i64
 aR,int i64 aS,slice aK aL aM] 29 8 true true),some (Box.mk b [slice aU aT aV,bool aC] 97 2 true true)]/\[bool au]=[bool ag]) ([some (Box.mk ae cs 95 9 false true),some (Box.mk ad
 (List.replicate 9 (int u64 0)) 95 9 false true),some (Box.mk aa [int u64 bD,int u64 bE,int u64 bF,int u64 bG,int u64 bH,int u64 bI,int u64 bJ,int u64 bK,int u64 bL] 95 9 true true),some
 (Box.mk ac [int u8 aZ,int u64 aN,int u64 aO,int u64 aP,int u64 aQ,int i64 aR,int i64 aS,slice aK aL aM] 29 8 true true),some (Box.mk b [slice aU aT aV,bool aC] 97 2 true true)]
 = [some (Box.mk ae cs 95 9 false true),some (Box.mk ad (List.replicate 9 (int u64 0)) 95 9 false true),some (Box.mk aa [int u64 bD,int u64 bE,int u64 bF,int u64 bG,int u64 bH,int u64 bI,int u64 bJ,
 int u64 bK,int u64 bL] 95 9 true true),some (Box.mk ac [int u8 aZ,int u64 aN,int u64 aO,int u64 aP,int u64 aQ,int i64 aR,int i64 aS,slice aK aL aM] 29 8 true true),some (Box.mk b
 [slice aU aT aV,bool aC] 97 2 true true)]/\[bool false]=[bool ag]))/\br ag (∃(f:Fx),∃(R:RT),R=f 2 [int i64 (IntKind.wrap i64 (n+(1:Int)))] ab/\CX Try.prog 54 (Array.mk [int i64
 (IntKind.wrap i64 (n+(1:Int)))]) ab [] R/\Zaq (Shape.agg [Shape.int u64,Shape.int u64,Shape.int u64,Shape.int u64,Shape.int u64,Shape.int u64,Shape.int u64,Shape.int u64,Shape.int u64]) R/\∀(ah ai aj ak
 al am an ao ap:Int) (m':Mem),Mem.le ab m'->R (agg (Array.mk [int u64 ah,int u64 ai,int u64 aj,int u64 ak,int u64 al,int u64 am,int u64 an,int u64 ao,int u64 ap])) m' []->∃(R:RT),R=f 3 [agg (Array.mk
 cs),agg (Array.mk [int u64 ah,int u64 ai,int u64 aj,int u64 ak,int u64 al,int u64 am,int u64 an,int u64 ao,int u64 ap])] m'/\CX Try.prog 104 (Array.mk [agg (Array.mk cs),agg (Array.mk [int u64 ah,int u64 ai,
 int u64 aj,int u64 ak,int u64 al,int u64 am,int u64 an,int u64 ao,int u64 ap])]) m' [] R/\Zaq (Shape.agg [Shape.int u64,Shape.int u64,Shape.int u64,Shape.int u64,Shape.int u64,Shape.int u64,Shape.int u64,
 Shape.int u64,Shape.int u64]) R/\∀(av aw ax ay az a0 a1 a2 a3:Int)(af:Mem),Mem.le m' af->R (agg (Array.mk [int u64 av,int u64 aw,int u64 ax,int u64 ay,int u64 az,int u64 a0,int u64 a1,int u64 a2,int
 u64 a3])) af []->∀(M:Mem),Mem.le ab M->Mem.le m' M->Mem.le af M->[some (Box.mk ae [] 95 9 false true),some (Box.mk ad (List.replicate 9 (int u64 0)) 95 9 false true),some (Box.mk aa [int u64 bD,int u64
 bE,int u64 bF,int u64 bG,int u64 bH,int u64 bI,int u64 bJ,int u64 bK,int u64 bL] 95 9 true true),some (Box.mk ac [int u8 aZ,int u64 aN,int u64 aO,int u64 aP,int u64 aQ,int i64
 aR,int i64 aS,slice aK aL aM] 29 8 true true),some (Box.mk b [slice aU aT aV,bool aC] 97 2 true true)]=[some (Box.mk ae [] 95 9 false true),some (Box.mk ad (List.replicate 9 (int u64 0))
 95 9 false true),some (Box.mk aa [int u64 bD,int u64 bE,int u64 bF,int u64 bG,int u64 bH,int u64 bI,int u64 bJ,int u64 bK,int u64 bL] 95 9 true true),some (Box.mk ac [int u8 aZ,int u64
 aN,int u64 aO,int u64 aP,int u64 aQ,int i64 aR,int i64 aS,slice aK aL aM] 29 8 true true),some (Box.mk b [slice aU aT aV,bool aC] 97 2 true true)]/\∃(n':Nat),n' < aq/\I [int
 i64 (IntKind.wrap i64 (n+(1:Int)))] [[int u64 av,int u64 aw,int u64 ax,int u64 ay,int u64 az,int u64 a0,int u64 a1,int u64 a2,int u64 a3]] [] M n') ([some (Box.mk ae [] 95 9 false true),some (Box.mk ad
 (List.replicate 9 (int u64 0)) 95 9 false true),some (Box.mk aa [int u64 bD,int u64 bE,int u64 bF,int u64 bG,int u64 bH,int u64 bI,int u64 bJ,int u64 bK,int u64 bL] 95 9 true true),some
 (Box.mk ac [int u8 aZ,int u64 aN,int u64 aO,int u64 aP,int u64 aQ,int i64 aR,int i64 aS,slice aK aL aM] 29 8 true true),some (Box.mk b [slice aU aT aV,bool aC] 97 2 true true)]
 = [some (Box.mk ae [] 95 9 false true),some (Box.mk ad (List.replicate 9 (int u64 0)) 95 9 false true),some (Box.mk aa [int u64 bD,int u64 bE,int u64 bF,int u64 bG,int u64 bH,int u64 bI,int u64 bJ,
 int u64 bK,int u64 bL] 95 9 true true),some (Box.mk ac [int u8 aZ,int u64 aN,int u64 aO,int u64 aP,int u64 aQ,int i64 aR,int i64 aS,slice aK aL aM] 29 8 true true),some (Box.mk b
 [slice aU aT aV,bool aC] 97 2 true true)]/\∃(n':Nat),n' < aq/\I [int i64 (IntKind.wrap i64 (n+(1:Int)))] [cs] [] ab n'))) (chk (Nat.beq (List.length cs) 9&&Zcp cs) (∃(m'':Mem),Mem.le m m''
 /\ Mem.le m'' ab/\R (agg (Array.mk cs)) m'' []))
theorem ZeQ(aU:Option Addr)(aT aV:Nat)(aC:Bool)(aZ aN aO aP aQ aR aS:Int)(aK:Option Addr)(aL aM:Nat)(bD bE bF bG bH bI bJ bK bL:Int)(m:Mem)(R:RT)(h:ZcL aU aT aV aC aZ aN aO aP aQ aR aS aK aL aM bD bE bF bG bH bI bJ bK bL m R):CX Try.prog 101 #[.agg #[.slice aU aT aV,.bool aC],.agg #[.int .u8 aZ,.int .u64 aN,.int .u64 aO,.int .u64 aP,.int .u64 aQ,.int .i64 aR,.int .i64 aS,.slice aK aL aM],.agg #[.int .u64 bD,.int .u64 bE,.int .u64 bF,.int .u64 bG,.int .u64 bH,.int .u64 bI,.int .u64 bJ,.int .u64 bK,.int .u64 bL]] m [] R:=
 Zae (E:=Zfr) Zax mix Try.func101 [.v (.agg #[.slice aU aT aV,.bool aC]),.v (.agg #[.int .u8 aZ,.int .u64 aN,.int .u64 aO,.int .u64 aP,.int .u64 aQ,.int .i64 aR,.int .i64 aS,.slice aK aL aM]),.v (.agg #[.int .u64 bD,.int .u64 bE,.int .u64 bF,.int .u64 bG,.int .u64 bH,.int .u64 bI,.int .u64 bJ,.int .u64 bK,.int .u64 bL])] [] (by kernel_rfl) (Eq.mp (by kernel_rfl) h)
noncomputable def Zej:Env:={ EB with
 loops:=(λi=>bif Nat.beq i 2 then⟨[(11,.int .i64)],[4],[],false⟩ else⟨[],[],[],false⟩)
 dr:=(λi=>bif Nat.beq i 7 then[⟨0,[],[],none,[],[]⟩,⟨1,[3],[],none,[],[]⟩,⟨2,[3],[],none,[1],[]⟩,⟨3,[],[],none,[],[]⟩,⟨4,[],[],none,[1,2,3],[]⟩,⟨5,[],[],none,[1,2,3,4],[]⟩,⟨6,[4],[],none,[],[]⟩,⟨7,[],[],none,[0,1,2,3,4,5,6],[]⟩,⟨8,[4],[4],none,[0,1,2,3,4,5,6,7],[]⟩]else[])
 frzNew:=[3] }
def Zcj(aF aC aH aI aJ aE aG:Int)(aB:Option Addr)(aA aD:Nat)(aZ aN aO aP aQ aR aS cG cH:Int)(c0b c0o:Nat)(m:Mem)(R:RT):Prop:=
 ∀(b:Nat)(m':Mem),Mem.le m m'->Mem.reads m' b 0 [int u8 aF,int u64 aC,int u64 aH,int u64 aI,int u64 aJ,int i64 aE,int i64 aG,slice aB aA aD]->∀(aw ax:Nat),∃(I:IT),(∃(n:
 Nat),I [int i64 0] [[int u64 aZ,int u64 aN,int u64 aO,int u64 aP,int u64 aQ,int u64 aR,int u64 aS,int u64 cG,int u64 cH]] [] m' n)/\∀(n:Int)(cs:List Value)(aa:Mem)(ay:Nat),Mem.le
 m' aa->I [int i64 n] [cs] [] aa ay->br (decide (n < (↑aA:Int))) (∃(v:Value),aa c0b (c0o+1)=some v/\chk (ZhK v) (br (ZcZ v) (∃(f:Fx),∃(v:Value),∃(ab:Value),Mem.reads aa c0b c0o [v,ab]/\
 ∃(ak:Nat),∃(o:Nat),aB=some (Addr.mk ak o none)/\Zaf (IntKind.wrap i64 (IntKind.wrap i64 ((↑aA:Int) - (1:Int)) - n)) aA/\∃(ac:Value),∃(ad:Value),∃(ae:Value),∃(af:Value),∃(ag
 : Value),∃(ah:Value),∃(ai:Value),∃(aj:Value),Mem.reads aa ak (o+Int.toNat (IntKind.wrap i64 (IntKind.wrap i64 ((↑aA:Int) - (1:Int)) - n))*8) [ac,ad,ae,af,ag,ah,ai,aj]/\∃(R:RT),R=f 7
 [agg (Array.mk [v,ab]),agg (Array.mk [ac,ad,ae,af,ag,ah,ai,aj]),agg (Array.mk cs)] aa/\CX Try.prog 53 (Array.mk [agg (Array.mk [v,ab]),agg (Array.mk [ac,ad,ae,af,ag,ah,ai,aj]),agg (Array.mk cs)]) aa
 [] R/\Zaq (Shape.agg [Shape.int u64,Shape.int u64,Shape.int u64,Shape.int u64,Shape.int u64,Shape.int u64,Shape.int u64,Shape.int u64,Shape.int u64]) R/\∀(al am an ao ap aq ar au av:Int)(m':Mem),Mem.le
 aa m'->R (agg (Array.mk [int u64 al,int u64 am,int u64 an,int u64 ao,int u64 ap,int u64 aq,int u64 ar,int u64 au,int u64 av])) m' []->∀(M:Mem),Mem.le aa M->Mem.le m' M->[some (Box.mk ax (List.replicate 9
 (int u64 0)) 95 9 false true),some (Box.mk aw [] 95 9 false true),some (Box.mk b [int u8 aF,int u64 aC,int u64 aH,int u64 aI,int u64 aJ,int i64 aE,int i64 aG,slice aB aA aD] 29 8 true
 true)]=[some (Box.mk ax (List.replicate 9 (int u64 0)) 95 9 false true),some (Box.mk aw [] 95 9 false true),some (Box.mk b [int u8 aF,int u64 aC,int u64 aH,int u64 aI,int u64 aJ,int i64 aE,int i64
 aG,slice aB aA aD] 29 8 true true)]/\∃(n':Nat),n' < ay/\I [int i64 (IntKind.wrap i64 (n+(1:Int)))] [[int u64 al,int u64 am,int u64 an,int u64 ao,int u64 ap,int u64 aq,int u64 ar,int u64 au,
 int u64 av]] [] M n') (∃(f:Fx),∃(v:Value),∃(ab:Value),Mem.reads aa c0b c0o [v,ab]/\∃(ak:Nat),∃(o:Nat),aB=some (Addr.mk ak o none)/\Zaf n aA/\∃(ac:Value),∃(ad:Value),∃(ae:
 Value),∃(af:Value),∃(ag:Value),∃(ah:Value),∃(ai:Value),∃(aj:Value),Mem.reads aa ak (o+Int.toNat n*8) [ac,ad,ae,af,ag,ah,ai,aj]/\∃(R:RT),R=f 7 [agg (Array.mk [v,ab]),agg (Array.mk
 [ac,ad,ae,af,ag,ah,ai,aj]),agg (Array.mk cs)] aa/\CX Try.prog 53 (Array.mk [agg (Array.mk [v,ab]),agg (Array.mk [ac,ad,ae,af,ag,ah,ai,aj]),agg (Array.mk cs)]) aa [] R/\Zaq (Shape.agg [Shape.int u64,
 Shape.int u64,Shape.int u64,Shape.int u64,Shape.int u64,Shape.int u64,Shape.int u64,Shape.int u64,Shape.int u64]) R/\∀(al am an ao ap aq ar au av:Int)(m':Mem),Mem.le aa m'->R (agg (Array.mk [int u64 al,
 int u64 am,int u64 an,int u64 ao,int u64 ap,int u64 aq,int u64 ar,int u64 au,int u64 av])) m' []->∀(M:Mem),Mem.le aa M->Mem.le m' M->[some (Box.mk ax (List.replicate 9 (int u64 0)) 95 9 false true),some
 (Box.mk aw [] 95 9 false true),some (Box.mk b [int u8 aF,int u64 aC,int u64 aH,int u64 aI,int u64 aJ,int i64 aE,int i64 aG,slice aB aA aD] 29 8 true true)]=[some (Box.mk ax
 (List.replicate 9 (int u64 0)) 95 9 false true),some (Box.mk aw [] 95 9 false true),some (Box.mk b [int u8 aF,int u64 aC,int u64 aH,int u64 aI,int u64 aJ,int i64 aE,int i64 aG,slice aB aA
 aD] 29 8 true true)]/\∃(n':Nat),n' < ay/\I [int i64 (IntKind.wrap i64 (n+(1:Int)))] [[int u64 al,int u64 am,int u64 an,int u64 ao,int u64 ap,int u64 aq,int u64 ar,int u64 au,int u64 av]] [] M n')))
 (chk (Nat.beq (List.length cs) 9&&Zcp cs) (∃(m'':Mem),Mem.le m m''/\Mem.le m'' aa/\R (agg (Array.mk cs)) m'' []))
theorem ZdD(aF aC aH aI aJ aE aG:Int)(aB:Option Addr)(aA aD:Nat)(aZ aN aO aP aQ aR aS cG cH:Int)(c0b c0o:Nat)(m:Mem)(R:RT)(h:Zcj aF aC aH aI aJ aE aG aB aA aD aZ aN aO aP aQ aR aS cG cH c0b c0o m R):CX Try.prog 102 #[.agg #[.int .u8 aF,.int .u64 aC,.int .u64 aH,.int .u64 aI,.int .u64 aJ,.int .i64 aE,.int .i64 aG,.slice aB aA aD],.agg #[.int .u64 aZ,.int .u64 aN,.int .u64 aO,.int .u64 aP,.int .u64 aQ,.int .u64 aR,.int .u64 aS,.int .u64 cG,.int .u64 cH],.pointer (some ⟨c0b,c0o,none⟩)] m [] R:=
 Zae (E:=Zej) Zax mix Try.func102 [.v (.agg #[.int .u8 aF,.int .u64 aC,.int .u64 aH,.int .u64 aI,.int .u64 aJ,.int .i64 aE,.int .i64 aG,.slice aB aA aD]),.v (.agg #[.int .u64 aZ,.int .u64 aN,.int .u64 aO,.int .u64 aP,.int .u64 aQ,.int .u64 aR,.int .u64 aS,.int .u64 cG,.int .u64 cH]),.v (.pointer (some ⟨c0b,c0o,none⟩))] [] (by kernel_rfl) (Eq.mp (by kernel_rfl) h)
noncomputable def Zek:Env:={ EB with
 loops:=(λi=>bif Nat.beq i 3 then⟨[(12,.int .i64)],[6],[],false⟩ else⟨[],[],[],false⟩)
 dr:=(λi=>bif Nat.beq i 5 then[⟨0,[6],[],none,[],[]⟩,⟨1,[],[],none,[],[]⟩,⟨2,[8],[],none,[],[]⟩,⟨3,[4],[],none,[],[]⟩,⟨4,[],[],none,[1,2,3],[]⟩,⟨5,[],[],none,[0,1,2,3,4],[4]⟩,⟨6,[6],[6],none,[0,1,2,3,4,5],[]⟩]else[])
 frzNew:=[3,4] }
def Zck(aF aC aH aI aJ aE aG:Int)(aB:Option Addr)(aA aD:Nat)(aZ aN aO aP aQ aR aS cG cH:Int)(c0b c0o:Nat)(m:Mem)(R:RT):Prop:=
 ∀(b:Nat)(m':Mem),Mem.le m m'->Mem.reads m' b 0 [int u8 aF,int u64 aC,int u64 aH,int u64 aI,int u64 aJ,int i64 aE,int i64 aG,slice aB aA aD]->∀(aj:Nat)(ab:Mem),Mem.le m' ab->
 Mem.reads ab aj 0 [int u64 aZ,int u64 aN,int u64 aO,int u64 aP,int u64 aQ,int u64 aR,int u64 aS,int u64 cG,int u64 cH]->∀(ay az:Nat),∃(I:IT),(∃(n:Nat),I [int i64 0] [List.replicate
 9 (int u64 0)] [] ab n)/\∀(n:Int)(cs:List Value)(m':Mem)(a0:Nat),Mem.le ab m'->I [int i64 n] [cs] [] m' a0->br (decide (n < (↑aA:Int))) (∃(a1:Nat),∃(o:Nat),aB=some (Addr.mk a1 o none)/\
 Zaf n aA/\∃(v:Value),∃(ac:Value),∃(ad:Value),∃(ae:Value),∃(af:Value),∃(ag:Value),∃(ah:Value),∃(ai:Value),Mem.reads m' a1 (o+Int.toNat n*8) [v,ac,ad,ae,af,ag,ah,ai]/\∀
 (bb:Nat),chk (Value.oneCell' v&&(Value.oneCell' ac&&(Value.oneCell' ad&&(Value.oneCell' ae&&(Value.oneCell' af&&(Value.oneCell' ag&&(Value.oneCell' ah&&(Value.oneCell' ai&&true)))))))) (∃(f:Fx),∃
 (ak:Value),∃(al:Value),Mem.reads m' c0b c0o [ak,al]/\∃(R:RT),R=f 4 [agg (Array.mk [ak,al]),agg (Array.mk [v,ac,ad,ae,af,ag,ah,ai]),agg (Array.mk [int u64 aZ,int u64 aN,int u64 aO,int
 u64 aP,int u64 aQ,int u64 aR,int u64 aS,int u64 cG,int u64 cH])] m'/\CX Try.prog 53 (Array.mk [agg (Array.mk [ak,al]),agg (Array.mk [v,ac,ad,ae,af,ag,ah,ai]),agg (Array.mk [int u64 aZ,int
 u64 aN,int u64 aO,int u64 aP,int u64 aQ,int u64 aR,int u64 aS,int u64 cG,int u64 cH])]) m' [] R/\Zaq (Shape.agg [Shape.int u64,Shape.int u64,Shape.int u64,Shape.int u64,Shape.int u64,
 Shape.int u64,Shape.int u64,Shape.int u64,Shape.int u64]) R/\∀(am an ao ap aq ar au av aw:Int)(aa:Mem),Mem.le m' aa->R (agg (Array.mk [int u64 am,int u64 an,int u64 ao,int u64 ap,int u64 aq,int u64 ar,
 int u64 au,int u64 av,int u64 aw])) aa []->∃(R:RT),R=f 5 [agg (Array.mk cs),agg (Array.mk [int u64 am,int u64 an,int u64 ao,int u64 ap,int u64 aq,int u64 ar,int u64 au,int u64 av,int u64 aw])] aa/\CX
 Try.prog 104 (Array.mk [agg (Array.mk cs),agg (Array.mk [int u64 am,int u64 an,int u64 ao,int u64 ap,int u64 aq,int u64 ar,int u64 au,int u64 av,int u64 aw])]) aa [] R/\Zaq (Shape.agg [Shape.int u64,
 Shape.int u64,Shape.int u64,Shape.int u64,Shape.int u64,Shape.int u64,Shape.int u64,Shape.int u64,Shape.int u64]) R/\∀(a2 a3 a4 a5 a6 a7 a8 a9 ba:Int)(ax:Mem),Mem.le aa ax->R (agg (Array.mk [int u64 a2,
 int u64 a3,int u64 a4,int u64 a5,int u64 a6,int u64 a7,int u64 a8,int u64 a9,int u64 ba])) ax []->∀(M:Mem),Mem.le m' M->Mem.le aa M->Mem.le ax M->[some (Box.mk az [] 95 9 false true),some (Box.mk ay
 (List.replicate 9 (int u64 0)) 95 9 false true),some (Box.mk aj [int u64 aZ,int u64 aN,int u64 aO,int u64 aP,int u64 aQ,int u64 aR,int u64 aS,int u64 cG,int u64 cH] 95 9 true true),some
 (Box.mk b [int u8 aF,int u64 aC,int u64 aH,int u64 aI,int u64 aJ,int i64 aE,int i64 aG,slice aB aA aD] 29 8 true true)]=[some (Box.mk az [] 95 9 false true),some (Box.mk ay
 (List.replicate 9 (int u64 0)) 95 9 false true),some (Box.mk aj [int u64 aZ,int u64 aN,int u64 aO,int u64 aP,int u64 aQ,int u64 aR,int u64 aS,int u64 cG,int u64 cH] 95 9 true true),some
 (Box.mk b [int u8 aF,int u64 aC,int u64 aH,int u64 aI,int u64 aJ,int i64 aE,int i64 aG,slice aB aA aD] 29 8 true true)]/\∃(n':Nat),n' < a0/\I [int i64 (IntKind.wrap i64 (n+(1:
 Int)))] [[int u64 a2,int u64 a3,int u64 a4,int u64 a5,int u64 a6,int u64 a7,int u64 a8,int u64 a9,int u64 ba]] [] M n')) (chk (Nat.beq (List.length cs) 9&&Zcp cs) (∃(m'':Mem),Mem.le m m''/\Mem.le m'' m'
 /\ R (agg (Array.mk cs)) m'' []))
theorem ZdE(aF aC aH aI aJ aE aG:Int)(aB:Option Addr)(aA aD:Nat)(aZ aN aO aP aQ aR aS cG cH:Int)(c0b c0o:Nat)(m:Mem)(R:RT)(h:Zck aF aC aH aI aJ aE aG aB aA aD aZ aN aO aP aQ aR aS cG cH c0b c0o m R):CX Try.prog 103 #[.agg #[.int .u8 aF,.int .u64 aC,.int .u64 aH,.int .u64 aI,.int .u64 aJ,.int .i64 aE,.int .i64 aG,.slice aB aA aD],.agg #[.int .u64 aZ,.int .u64 aN,.int .u64 aO,.int .u64 aP,.int .u64 aQ,.int .u64 aR,.int .u64 aS,.int .u64 cG,.int .u64 cH],.pointer (some ⟨c0b,c0o,none⟩)] m [] R:=
 Zae (E:=Zek) Zax mix Try.func103 [.v (.agg #[.int .u8 aF,.int .u64 aC,.int .u64 aH,.int .u64 aI,.int .u64 aJ,.int .i64 aE,.int .i64 aG,.slice aB aA aD]),.v (.agg #[.int .u64 aZ,.int .u64 aN,.int .u64 aO,.int .u64 aP,.int .u64 aQ,.int .u64 aR,.int .u64 aS,.int .u64 cG,.int .u64 cH]),.v (.pointer (some ⟨c0b,c0o,none⟩))] [] (by kernel_rfl) (Eq.mp (by kernel_rfl) h)
noncomputable def ZeR:Env:={ EB with
 loops:=(λi=>bif Nat.beq i 2 then⟨[(13,.int .i64)],[5],[],false⟩ else bif Nat.beq i 7 then⟨[(9,.int .i64)],[6,7,8],[],false⟩ else⟨[],[],[],false⟩)
 dr:=(λi=>bif Nat.beq i 3 then[⟨0,[3],[],none,[],[]⟩,⟨1,[4],[],none,[],[]⟩,⟨2,[4],[],none,[1],[]⟩,⟨3,[],[],none,[1,2],[]⟩,⟨4,[],[],none,[1,2,3],[]⟩,⟨5,[5],[],none,[],[]⟩,⟨6,[],[],none,[0,1,2,3,4,5],[]⟩,⟨7,[5],[5],none,[0,1,2,3,4,5,6],[]⟩]else bif Nat.beq i 5 then[⟨0,[5],[],none,[],[]⟩,⟨1,[5],[],none,[],[]⟩,⟨2,[7],[7],none,[],[]⟩,⟨3,[8],[8],none,[],[]⟩,⟨4,[7],[7],none,[0,2,3],[]⟩,⟨5,[8],[8],none,[0,1,2,3,4],[]⟩]else bif Nat.beq i 9 then[⟨0,[3],[],none,[],[]⟩,⟨1,[4],[],none,[],[]⟩,⟨2,[4],[],none,[1],[]⟩,⟨3,[],[],none,[1,2],[]⟩,⟨4,[],[],none,[1,2,3],[]⟩,⟨5,[8],[],none,[],[]⟩,⟨6,[],[],none,[0,1,2,3,4,5],[]⟩,⟨7,[8],[8],none,[0,1,2,3,4,5,6],[]⟩]else[])
 frzNew:=[3,4] }
def Zcv(aU:Option Addr)(aT aV:Nat)(aC:Bool)(aZ aN aO aP aQ aR aS:Int)(aK:Option Addr)(aL aM:Nat)(bD bE bF bG bH bI bJ bK bL:Int)(m:Mem)(R:RT):Prop:=
 ∀(b:Nat)(m':Mem),Mem.le m m'->Mem.reads m' b 0 [slice aU aT aV,bool aC]->∀(au:Nat)(aw:Mem),Mem.le m' aw->Mem.reads aw au 0 [int u8 aZ,int u64 aN,int u64 aO,int u64 aP,int u64
 aQ,int i64 aR,int i64 aS,slice aK aL aM]->∀(ax ay:Nat),∃(I:IT),(∃(n:Nat),I [int i64 0] [[int u64 bD,int u64 bE,int u64 bF,int u64 bG,int u64 bH,int u64 bI,int u64 bJ,
 int u64 bK,int u64 bL]] [] aw n)/\∀(n:Int)(cs:List Value)(m':Mem)(bb:Nat),Mem.le aw m'->I [int i64 n] [cs] [] m' bb->br (decide (n < aR)) (∃(f:Fx),∃(ac:Nat),∃(o:Nat),aK=some
 (Addr.mk ac o none)/\Zaf (0:Int) aL/\∃(v:Value),∃(ad:Value),∃(ae:Value),∃(af:Value),∃(ag:Value),∃(ah:Value),∃(ai:Value),∃(aj:Value),Mem.reads m' ac (o+0) [v,ad,ae,af,ag,
 ah,ai,aj]/\∃(R:RT),R=f 6 [agg (Array.mk [slice aU aT aV,bool aC]),agg (Array.mk [v,ad,ae,af,ag,ah,ai,aj]),agg (Array.mk cs)] m'/\CX Try.prog 53 (Array.mk [agg (Array.mk [slice aU aT
 aV,bool aC]),agg (Array.mk [v,ad,ae,af,ag,ah,ai,aj]),agg (Array.mk cs)]) m' [] R/\Zaq (Shape.agg [Shape.int u64,Shape.int u64,Shape.int u64,Shape.int u64,Shape.int u64,Shape.int u64,Shape.int u64,
 Shape.int u64,Shape.int u64]) R/\∀(av ak al am an ao ap aq ar:Int)(aa:Mem),Mem.le m' aa->R (agg (Array.mk [int u64 av,int u64 ak,int u64 al,int u64 am,int u64 an,int u64 ao,int u64 ap,int u64 aq,int
 u64 ar])) aa []->∀(M:Mem),Mem.le m' M->Mem.le aa M->[some (Box.mk ay (List.replicate 9 (int u64 0)) 95 9 false true),some (Box.mk ax [] 95 9 false true),some (Box.mk au [int u8 aZ,int u64 aN,int u64 aO,
 int u64 aP,int u64 aQ,int i64 aR,int i64 aS,slice aK aL aM] 29 8 true true),some (Box.mk b [slice aU aT aV,bool aC] 97 2 true true)]=[some (Box.mk ay (List.replicate 9 (int u64 0)) 95
 9 false true),some (Box.mk ax [] 95 9 false true),some (Box.mk au [int u8 aZ,int u64 aN,int u64 aO,int u64 aP,int u64 aQ,int i64 aR,int i64 aS,slice aK aL aM] 29 8 true true),some
 (Box.mk b [slice aU aT aV,bool aC] 97 2 true true)]/\∃(n':Nat),n' < bb/\I [int i64 (IntKind.wrap i64 (n+(1:Int)))] [[int u64 av,int u64 ak,int u64 al,int u64 am,int u64 an,int u64 ao,int u64
 ap,int u64 aq,int u64 ar]] [] M n') (∀(ac az:Nat),chk (Nat.beq (List.length cs) 9&&Zcp cs) (chk (Nat.beq (List.length cs) 9&&Zcp cs) (∃(I:IT),(∃(n:Nat),I [int i64 aR] [List.replicate 9 (int u64
 0),cs,cs] [] m' n)/\∀(n:Int)(bc ab a0:List Value)(aa:Mem)(av:Nat),Mem.le m' aa->I [int i64 n] [bc,ab,a0] [] aa av->br (!n == aS) (∃(f:Fx),∃(bd:Nat),∃(o:Nat),aK=some (Addr.mk bd o
 none)/\Zaf (0:Int) aL/\∃(v:Value),∃(ad:Value),∃(ae:Value),∃(af:Value),∃(ag:Value),∃(ah:Value),∃(ai:Value),∃(aj:Value),Mem.reads aa bd (o+0) [v,ad,ae,af,ag,ah,ai,aj]/\
 ∃(R_1:RT),R_1=f 6 [agg (Array.mk [slice aU aT aV,bool aC]),agg (Array.mk [v,ad,ae,af,ag,ah,ai,aj]),agg (Array.mk a0)] aa/\CX Try.prog 53 (Array.mk [agg (Array.mk [slice aU aT aV,
 bool aC]),agg (Array.mk [v,ad,ae,af,ag,ah,ai,aj]),agg (Array.mk a0)]) aa [] R_1/\Zaq (Shape.agg [Shape.int u64,Shape.int u64,Shape.int u64,Shape.int u64,Shape.int u64,Shape.int u64,Shape.int u64,
 Shape.int u64,Shape.int u64]) R_1/\∀(ak al am an ao ap aq ar a1:Int)(m':Mem),Mem.le aa m'->R_1 (agg (Array.mk [int u64 ak,int u64 al,int u64 am,int u64 an,int u64 ao,int u64 ap,int u64 aq,int u64 ar,
 int u64 a1])) m' []->∀(M:Mem),Mem.le aa M->Mem.le m' M->∃(R_2:RT),True/\CX Try.prog 104 (Array.mk [agg (Array.mk ab),agg (Array.mk [int u64 ak,int u64 al,int u64 am,int u64 an,int u64 ao,int u64 ap,
 int u64 aq,int u64 ar,int u64 a1])]) M [] R_2/\Zaq (Shape.agg [Shape.int u64,Shape.int u64,Shape.int u64,Shape.int u64,Shape.int u64,Shape.int u64,Shape.int u64,Shape.int u64,Shape.int u64]) R_2/\∀(a2 a3
 a4 a5 a6 a7 a8 a9 ba:Int) (m':Mem),Mem.le M m'->R_2 (agg (Array.mk [int u64 a2,int u64 a3,int u64 a4,int u64 a5,int u64 a6,int u64 a7,int u64 a8,int u64 a9,int u64 ba])) m' []->∀(bf:Nat),∃(be:
 Bool),EqIs Try.prog 95 (agg (Array.mk [int u64 a2,int u64 a3,int u64 a4,int u64 a5,int u64 a6,int u64 a7,int u64 a8,int u64 a9,int u64 ba])) (agg (Array.mk ab)) be/\br be (chk (Nat.beq (List.length ab) 9 &&
 Zcp ab) (∃(m'':Mem),Mem.le m m''/\Mem.le m'' m'/\R (agg (Array.mk ab)) m'' [])) ([some (Box.mk ac [] 95 9 false true),some (Box.mk az [] 95 9 false true),some (Box.mk ac [] 95 9 false true),some (Box.mk az []
 95 9 false true),some (Box.mk ay [] 95 9 false true),some (Box.mk ax cs 95 9 false true),some (Box.mk au [int u8 aZ,int u64 aN,int u64 aO,int u64 aP,int u64 aQ,int i64 aR,int i64 aS,slice aK
 aL aM] 29 8 true true),some (Box.mk b [slice aU aT aV,bool aC] 97 2 true true)]=[some (Box.mk ac [] 95 9 false true),some (Box.mk az [] 95 9 false true),some (Box.mk ac [] 95 9 false true),some
 (Box.mk az [] 95 9 false true),some (Box.mk ay [] 95 9 false true),some (Box.mk ax cs 95 9 false true),some (Box.mk au [int u8 aZ,int u64 aN,int u64 aO,int u64 aP,int u64 aQ,int i64 aR,int i64 aS,
 slice aK aL aM] 29 8 true true),some (Box.mk b [slice aU aT aV,bool aC] 97 2 true true)]/\∃(n':Nat),n' < av/\I [int i64 (IntKind.wrap i64 (n+(1:Int)))] [bc,[int u64 a2,int u64 a3,int
 u64 a4,int u64 a5,int u64 a6,int u64 a7,int u64 a8,int u64 a9,int u64 ba],[int u64 ak,int u64 al,int u64 am,int u64 an,int u64 ao,int u64 ap,int u64 aq,int u64 ar,int u64 a1]] [] m' n')) (chk (Nat.beq
 (List.length ab) 9&&Zcp ab) (∃(m'':Mem),Mem.le m m''/\Mem.le m'' aa/\R (agg (Array.mk ab)) m'' [])))))
theorem Zel(aU:Option Addr)(aT aV:Nat)(aC:Bool)(aZ aN aO aP aQ aR aS:Int)(aK:Option Addr)(aL aM:Nat)(bD bE bF bG bH bI bJ bK bL:Int)(m:Mem)(R:RT)(h:Zcv aU aT aV aC aZ aN aO aP aQ aR aS aK aL aM bD bE bF bG bH bI bJ bK bL m R):CX Try.prog 105 #[.agg #[.slice aU aT aV,.bool aC],.agg #[.int .u8 aZ,.int .u64 aN,.int .u64 aO,.int .u64 aP,.int .u64 aQ,.int .i64 aR,.int .i64 aS,.slice aK aL aM],.agg #[.int .u64 bD,.int .u64 bE,.int .u64 bF,.int .u64 bG,.int .u64 bH,.int .u64 bI,.int .u64 bJ,.int .u64 bK,.int .u64 bL]] m [] R:=
 Zae (E:=ZeR) Zax mix Try.func105 [.v (.agg #[.slice aU aT aV,.bool aC]),.v (.agg #[.int .u8 aZ,.int .u64 aN,.int .u64 aO,.int .u64 aP,.int .u64 aQ,.int .i64 aR,.int .i64 aS,.slice aK aL aM]),.v (.agg #[.int .u64 bD,.int .u64 bE,.int .u64 bF,.int .u64 bG,.int .u64 bH,.int .u64 bI,.int .u64 bJ,.int .u64 bK,.int .u64 bL])] [] (by kernel_rfl) (Eq.mp (by kernel_rfl) h)
noncomputable def Zem:Env:={ EB with
 dr:=(λi=>bif Nat.beq i 1 then[⟨0,[],[],none,[],[]⟩,⟨1,[3],[],none,[],[]⟩,⟨2,[3],[],none,[1],[]⟩,⟨3,[],[],none,[1,2],[]⟩,⟨4,[],[],none,[1,2,3],[]⟩,⟨5,[4],[],none,[],[]⟩,⟨6,[],[],none,[0,1,2,3,4,5],[]⟩,⟨7,[5],[5],none,[0,1,2,3,4,5,6],[]⟩]else[])
 frzNew:=[3,4] }
def Zcl(aF aC aH aI aJ aE aG:Int)(aB:Option Addr)(aA aD:Nat)(aZ aN aO aP aQ aR aS cG cH:Int)(c0b c0o:Nat)(m:Mem)(R:RT):Prop:=
 ∀(b:Nat)(m':Mem),Mem.le m m'->Mem.reads m' b 0 [int u8 aF,int u64 aC,int u64 aH,int u64 aI,int u64 aJ,int i64 aE,int i64 aG,slice aB aA aD]->∀(b:Nat)(m'_1:Mem),Mem.le m'
 m'_1->Mem.reads m'_1 b 0 [int u64 aZ,int u64 aN,int u64 aO,int u64 aP,int u64 aQ,int u64 aR,int u64 aS,int u64 cG,int u64 cH]->∀(b:Nat),∃(f:Fx),∃(v:Value),∃(v_1:Value),
 Mem.reads m'_1 c0b c0o [v,v_1]/\∃(b:Nat),∃(o:Nat),aB=some (Addr.mk b o none)/\Zaf (0:Int) aA/\∃(v_2:Value),∃(v_3:Value),∃(v_4:Value),∃(v_5:Value),∃(v_6:Value),∃(v_7:
 Value),∃(v_8:Value),∃(v_9:Value),Mem.reads m'_1 b (o+0) [v_2,v_3,v_4,v_5,v_6,v_7,v_8,v_9]/\∃(R_1:RT),R_1=f 6 [agg (Array.mk [v,v_1]),agg (Array.mk [v_2,v_3,v_4,v_5,v_6,v_7,v_8,v_9]),
 agg (Array.mk [int u64 aZ,int u64 aN,int u64 aO,int u64 aP,int u64 aQ,int u64 aR,int u64 aS,int u64 cG,int u64 cH])] m'_1/\CX Try.prog 53 (Array.mk [agg (Array.mk [v,v_1]),agg (Array.mk
 [v_2,v_3,v_4,v_5,v_6,v_7,v_8,v_9]),agg (Array.mk [int u64 aZ,int u64 aN,int u64 aO,int u64 aP,int u64 aQ,int u64 aR,int u64 aS,int u64 cG,int u64 cH])]) m'_1 [] R_1/\Zaq (Shape.agg
 [Shape.int u64,Shape.int u64,Shape.int u64,Shape.int u64,Shape.int u64,Shape.int u64,Shape.int u64,Shape.int u64,Shape.int u64]) R_1/\∀(n n_1 n_2 n_3 n_4 n_5 n_6 n_7 n_8:Int)(m':Mem),Mem.le m'_1 m'->R_1
 (agg (Array.mk [int u64 n,int u64 n_1,int u64 n_2,int u64 n_3,int u64 n_4,int u64 n_5,int u64 n_6,int u64 n_7,int u64 n_8])) m' []->∀(M:Mem),Mem.le m'_1 M->Mem.le m' M->∃(m'':Mem),Mem.le m m''/\
 Mem.le m'' M/\R (agg (Array.mk [int u64 n,int u64 n_1,int u64 n_2,int u64 n_3,int u64 n_4,int u64 n_5,int u64 n_6,int u64 n_7,int u64 n_8])) m'' []
theorem ZdF(aF aC aH aI aJ aE aG:Int)(aB:Option Addr)(aA aD:Nat)(aZ aN aO aP aQ aR aS cG cH:Int)(c0b c0o:Nat)(m:Mem)(R:RT)(h:Zcl aF aC aH aI aJ aE aG aB aA aD aZ aN aO aP aQ aR aS cG cH c0b c0o m R):CX Try.prog 106 #[.agg #[.int .u8 aF,.int .u64 aC,.int .u64 aH,.int .u64 aI,.int .u64 aJ,.int .i64 aE,.int .i64 aG,.slice aB aA aD],.agg #[.int .u64 aZ,.int .u64 aN,.int .u64 aO,.int .u64 aP,.int .u64 aQ,.int .u64 aR,.int .u64 aS,.int .u64 cG,.int .u64 cH],.pointer (some ⟨c0b,c0o,none⟩)] m [] R:=
 Zae (E:=Zem) Zax mix Try.func106 [.v (.agg #[.int .u8 aF,.int .u64 aC,.int .u64 aH,.int .u64 aI,.int .u64 aJ,.int .i64 aE,.int .i64 aG,.slice aB aA aD]),.v (.agg #[.int .u64 aZ,.int .u64 aN,.int .u64 aO,.int .u64 aP,.int .u64 aQ,.int .u64 aR,.int .u64 aS,.int .u64 cG,.int .u64 cH]),.v (.pointer (some ⟨c0b,c0o,none⟩))] [] (by kernel_rfl) (Eq.mp (by kernel_rfl) h)
noncomputable def ZjN:Env:={ EB with
 joins:=(λi=>bif Nat.beq i 1 then some [(7,.bool)]else bif Nat.beq i 2 then some [(16,.bool)]else bif Nat.beq i 6 then some [(29,.bool)]else none)
 frzNew:=[3] }
def Zfs(aF aC aH aI aJ aE aG:Int)(aB:Option Addr)(aA aD:Nat)(p1a:Option Addr)(p1n p1c:Nat)(p2:Int)(m:Mem)(R:RT):Prop:=
 ∀(b:Nat)(m':Mem),Mem.le m m'->Mem.reads m' b 0 [int u8 aF,int u64 aC,int u64 aH,int u64 aI,int u64 aJ,int i64 aE,int i64 aG,slice aB aA aD]->∃(ac:Bool),br (aF == (0:Int))
 (∃(R:RT),True/\CX Try.prog 83 (Array.mk [agg (Array.mk [int u8 aF,int u64 aC,int u64 aH,int u64 aI,int u64 aJ,int i64 aE,int i64 aG,slice aB aA aD]),agg (Array.mk [int u8 0,int u64
 0,int u64 0,int u64 0,int u64 0,int i64 0,int i64 0,slice none 0 0])]) m' [] R/\Zaq Shape.bool R/\∀(aa:Bool)(ab:Mem),Mem.le m' ab->R (bool aa) ab []->[some (Box.mk b [int u8 aF,int u64 aC,int u64
 aH,int u64 aI,int u64 aJ,int i64 aE,int i64 aG,slice aB aA aD] 29 8 true true)]=[some (Box.mk b [int u8 aF,int u64 aC,int u64 aH,int u64 aI,int u64 aJ,int i64 aE,int i64 aG,
 slice aB aA aD] 29 8 true true)]/\[bool aa]=[bool ac]) ([some (Box.mk b [int u8 aF,int u64 aC,int u64 aH,int u64 aI,int u64 aJ,int i64 aE,int i64 aG,slice aB aA aD] 29 8 true
 true)]=[some (Box.mk b [int u8 aF,int u64 aC,int u64 aH,int u64 aI,int u64 aJ,int i64 aE,int i64 aG,slice aB aA aD] 29 8 true true)]/\[bool false]=[bool ac])/\∃(aa:Bool),br (!ac)
 (∃(R:RT),True/\CX Try.prog 34 (Array.mk [agg (Array.mk [bool false,bool false,int u8 aF,int u64 aC,int u64 aH,int u64 aI,int u64 aJ,int i64 aE,int i64 aG,slice aB aA aD])]) m' [] R/\
 Zaq (Shape.int i64) R/\∀(n:Int)(ab:Mem),Mem.le m' ab->R (int i64 n) ab []->[some (Box.mk b [int u8 aF,int u64 aC,int u64 aH,int u64 aI,int u64 aJ,int i64 aE,int i64 aG,slice aB aA
 aD] 29 8 true true)]=[some (Box.mk b [int u8 aF,int u64 aC,int u64 aH,int u64 aI,int u64 aJ,int i64 aE,int i64 aG,slice aB aA aD] 29 8 true true)]/\[bool !n == (0:Int)]=[bool aa])
 ([some (Box.mk b [int u8 aF,int u64 aC,int u64 aH,int u64 aI,int u64 aJ,int i64 aE,int i64 aG,slice aB aA aD] 29 8 true true)]=[some (Box.mk b [int u8 aF,int u64 aC,int u64 aH,
 int u64 aI,int u64 aJ,int i64 aE,int i64 aG,slice aB aA aD] 29 8 true true)]/\[bool false]=[bool aa])/\br aa (∃(m'':Mem),Mem.le m m''/\Mem.le m'' m'/\R (int i64 130) m'' []) (br (decide
 ((↑p1n:Int) > (512:Int))) (∃(m'':Mem),Mem.le m m''/\Mem.le m'' m'/\R (int i64 3) m'' []) (∃(ad:Bool),br (decide (p2 < (0:Int))) ([some (Box.mk b [int u8 aF,int u64 aC,int u64 aH,int u64 aI,
 int u64 aJ,int i64 aE,int i64 aG,slice aB aA aD] 29 8 true true)]=[some (Box.mk b [int u8 aF,int u64 aC,int u64 aH,int u64 aI,int u64 aJ,int i64 aE,int i64 aG,slice aB aA
 aD] 29 8 true true)]/\[bool true]=[bool ad]) ([some (Box.mk b [int u8 aF,int u64 aC,int u64 aH,int u64 aI,int u64 aJ,int i64 aE,int i64 aG,slice aB aA aD] 29 8 true true)]=[some
 (Box.mk b [int u8 aF,int u64 aC,int u64 aH,int u64 aI,int u64 aJ,int i64 aE,int i64 aG,slice aB aA aD] 29 8 true true)]/\[bool (decide (p2 > (↑p1n:Int)))]=[bool ad])/\br ad (∃(m'':
 Mem),Mem.le m m''/\Mem.le m'' m'/\R (int i64 2) m'' []) (∃(m'':Mem),Mem.le m m''/\Mem.le m'' m'/\R (int i64 0) m'' [])))
theorem ZiM(aF aC aH aI aJ aE aG:Int)(aB:Option Addr)(aA aD:Nat)(p1a:Option Addr)(p1n p1c:Nat)(p2:Int)(m:Mem)(R:RT)(h:Zfs aF aC aH aI aJ aE aG aB aA aD p1a p1n p1c p2 m R):CX Try.prog 52 #[.agg #[.int .u8 aF,.int .u64 aC,.int .u64 aH,.int .u64 aI,.int .u64 aJ,.int .i64 aE,.int .i64 aG,.slice aB aA aD],.slice p1a p1n p1c,.int .i64 p2] m [] R:=
 Zae (E:=ZjN) Zax mix Try.func52 [.v (.agg #[.int .u8 aF,.int .u64 aC,.int .u64 aH,.int .u64 aI,.int .u64 aJ,.int .i64 aE,.int .i64 aG,.slice aB aA aD]),.v (.slice p1a p1n p1c),.v (.int .i64 p2)] [] (by kernel_rfl) (Eq.mp (by kernel_rfl) h)
noncomputable def ZlD:Env:={ EB with
 loops:=(λi=>bif Nat.beq i 8 then⟨[(29,.int .i64)],[11],[(33,1)],false⟩ else⟨[],[],[],false⟩)
 dr:=(λi=>bif Nat.beq i 5 then[⟨0,[],[],none,[],[]⟩,⟨1,[],[],none,[],[]⟩,⟨2,[],[],none,[0,1],[]⟩,⟨3,[4],[],none,[],[]⟩,⟨4,[],[],none,[],[]⟩,⟨5,[],[],none,[4],[]⟩,⟨6,[],[],none,[0,1,2,3,4,5],[5]⟩,⟨7,[12],[12],none,[],[]⟩,⟨8,[12],[12],none,[0,1,2,3,4,5,6,7],[]⟩]else[])
 tokOf:=(λi=>bif Nat.beq i 33 then 33 else 0)
 frzNew:=[4]
 frzAt:=(λi=>bif Nat.beq i 28 then[12]else[]) }
def Zgk(aF aC aH aI aJ aE aG:Int)(aB:Option Addr)(aA aD:Nat)(p1a:Option Addr)(p1n p1c:Nat)(p2:Int)(p3:Bool)(m:Mem)(R:RT):Prop:=
 ∀(b:Nat)(m':Mem),Mem.le m m'->Mem.reads m' b 0 [int u8 aF,int u64 aC,int u64 aH,int u64 aI,int u64 aJ,int i64 aE,int i64 aG,slice aB aA aD]->∃(R_1:RT),True/\CX Try.prog 52
 (Array.mk [agg (Array.mk [int u8 aF,int u64 aC,int u64 aH,int u64 aI,int u64 aJ,int i64 aE,int i64 aG,slice aB aA aD]),slice p1a p1n p1c,int i64 p2]) m' [] R_1/\Zaq (Shape.int i64) R_1
 /\ ∀(n:Int)(aa:Mem),Mem.le m' aa->R_1 (int i64 n) aa []->br (!n == (0:Int)) (∃(m'':Mem),Mem.le m m''/\Mem.le m'' aa/\R (tuple (Array.mk [slice none 0 0,int i64 n])) m'' []) (∀(a0:Nat),∃(f:Fx),∃
 (R_2:RT),R_2=f 5 [int i64 p2] aa/\CX Try.prog 54 (Array.mk [int i64 p2]) aa [] R_2/\Zaq (Shape.agg [Shape.int u64,Shape.int u64,Shape.int u64,Shape.int u64,Shape.int u64,Shape.int u64,Shape.int u64,
 Shape.int u64,Shape.int u64]) R_2/\∀(n an ao ap aq ar au av aw:Int)(m':Mem),Mem.le aa m'->R_2 (agg (Array.mk [int u64 n,int u64 an,int u64 ao,int u64 ap,int u64 aq,int u64 ar,int u64 au,int u64 av,int
 u64 aw])) m' []->∃(R_3:RT),R_3=f 6 [agg (Array.mk [slice p1a p1n p1c,bool p3]),agg (Array.mk [int u8 aF,int u64 aC,int u64 aH,int u64 aI,int u64 aJ,int i64 aE,int i64 aG,slice aB aA
 aD]),agg (Array.mk [int u64 n,int u64 an,int u64 ao,int u64 ap,int u64 aq,int u64 ar,int u64 au,int u64 av,int u64 aw])] m'/\CX Try.prog 53 (Array.mk [agg (Array.mk [slice p1a p1n p1c,bool p3]),agg
 (Array.mk [int u8 aF,int u64 aC,int u64 aH,int u64 aI,int u64 aJ,int i64 aE,int i64 aG,slice aB aA aD]),agg (Array.mk [int u64 n,int u64 an,int u64 ao,int u64 ap,int u64 aq,int u64
 ar,int u64 au,int u64 av,int u64 aw])]) m' [] R_3/\Zaq (Shape.agg [Shape.int u64,Shape.int u64,Shape.int u64,Shape.int u64,Shape.int u64,Shape.int u64,Shape.int u64,Shape.int u64,Shape.int u64]) R_3/\∀(n
 ab ac ad ae af ag ah ai:Int) (ax:Mem),Mem.le m' ax->R_3 (agg (Array.mk [int u64 n,int u64 ab,int u64 ac,int u64 ad,int u64 ae,int u64 af,int u64 ag,int u64 ah,int u64 ai])) ax []->∀(aj:Nat)(M:Mem),
 Mem.le aa M->Mem.le m' M->Mem.le ax M->∀(m':Mem),Mem.le M m'->Mem.reads m' aj 0 [int u64 n,int u64 ab,int u64 ac,int u64 ad,int u64 ae,int u64 af,int u64 ag,int u64 ah,int u64 ai]->∃(R_4:RT),True/\
 CX Try.prog 82 (Array.mk [Value.pointer (some (Addr.mk aj 0 none))]) m' [] R_4/\Zaq Shape.fn R_4/\∀(g:Nat)(fi ca:List Value)(ak:Mem),Mem.le m' ak->R_4 (func (Fn.func g) (Array.mk fi) (Array.mk ca)) ak []->
 ∃(xs:List (List Value)),IX Try.prog g fi ca ak xs/\(∀(x:List Value),x∈xs->Shape.fitsL [Shape.int i64] x=true)/\∃(I:IT),I [] [[slice none 0 0]] [slice none 0 0] ak 0/\(∀(am:Int)(cs:List Value)
 (a:Option Addr) (a1 c:Nat) (m':Mem) (ay:Nat),Mem.le ak m'->List.get?Internal xs ay=some [int i64 am]->I [] [cs] [slice a a1 c] m' ay->Eng.Zty cs 0 λ(v:Value)=>∀(al:Nat),Mem.free m' al->chk
 (Zcf v&&true) ((Tok.mk (slice a a1 c) 1=Tok.mk v 1\/v=slice none 0 0\/slC v < slN v+1)/\∃(xs:List Value),∃(ys:List Value),List.length xs=slN v*1/\List.length ys=1*1/\rowRd (Mem.add m' al
 [int i64 am]) (slA v) xs/\rowRd (Mem.add m' al [int i64 am]) (some (Addr.mk al 0 none)) ys/\(∀(u:Value),u∈ys->Value.oneCell' u=true)/\(slN v+1)*8<=140737488355328/\slN v+1<=9223372036854775807/\∀
 (a':Option Addr) (c':Nat) (az:Mem),Mem.le (Mem.add m' al [int i64 am]) az->rowRd az a' (List.append xs ys)->[some (Box.mk aj [int u64 n,int u64 ab,int u64 ac,int u64 ad,int u64 ae,int u64 af,int u64 ag,
 int u64 ah,int u64 ai] 95 9 true true),some (Box.mk aj [int u64 n,int u64 ab,int u64 ac,int u64 ad,int u64 ae,int u64 af,int u64 ag,int u64 ah,int u64 ai] 95 9 true true),some (Box.mk a0 [] 38 1 false true),
 some (Box.mk b [int u8 aF,int u64 aC,int u64 aH,int u64 aI,int u64 aJ,int i64 aE,int i64 aG,slice aB aA aD] 29 8 true true)]=[some (Box.mk aj [int u64 n,int u64 ab,int u64 ac,int u64
 ad,int u64 ae,int u64 af,int u64 ag,int u64 ah,int u64 ai] 95 9 true true),some (Box.mk aj [int u64 n,int u64 ab,int u64 ac,int u64 ad,int u64 ae,int u64 af,int u64 ag,int u64 ah,int u64 ai] 95 9 true
 true),some (Box.mk a0 [] 38 1 false true),some (Box.mk b [int u8 aF,int u64 aC,int u64 aH,int u64 aI,int u64 aJ,int i64 aE,int i64 aG,slice aB aA aD] 29 8 true true)]/\I [] [[slice a'
 (slN v+1) c']] [slice a' (slN v+1) c'] az (ay+1)))/\∀(cs:List Value)(a:Option Addr)(n c:Nat)(m':Mem),Mem.le ak m'->I [] [cs] [slice a n c] m' (List.length xs)->Eng.Zty cs 0 λ(v:Value)=>∃
 (m'':Mem),Mem.le m m''/\Mem.le m'' m'/\R (tuple (Array.mk [v,int i64 0])) m'' [])
theorem ZjO(aF aC aH aI aJ aE aG:Int)(aB:Option Addr)(aA aD:Nat)(p1a:Option Addr)(p1n p1c:Nat)(p2:Int)(p3:Bool)(m:Mem)(R:RT)(h:Zgk aF aC aH aI aJ aE aG aB aA aD p1a p1n p1c p2 p3 m R):CX Try.prog 47 #[.agg #[.int .u8 aF,.int .u64 aC,.int .u64 aH,.int .u64 aI,.int .u64 aJ,.int .i64 aE,.int .i64 aG,.slice aB aA aD],.slice p1a p1n p1c,.int .i64 p2,.bool p3] m [] R:=
 Zae (E:=ZlD) Zax mix Try.func47 [.v (.agg #[.int .u8 aF,.int .u64 aC,.int .u64 aH,.int .u64 aI,.int .u64 aJ,.int .i64 aE,.int .i64 aG,.slice aB aA aD]),.v (.slice p1a p1n p1c),.v (.int .i64 p2),.v (.bool p3)] [] (by kernel_rfl) (Eq.mp (by kernel_rfl) h)
noncomputable def ZlE:Env:={ EB with
 frzNew:=[3] }
def ZdZ(aF aC aH aI aJ aE aG:Int)(aB:Option Addr)(aA aD:Nat)(p1a:Option Addr)(p1n p1c:Nat)(p2:Int)(m:Mem)(R:RT):Prop:=
 ∀(b:Nat)(m':Mem),Mem.le m m'->Mem.reads m' b 0 [int u8 aF,int u64 aC,int u64 aH,int u64 aI,int u64 aJ,int i64 aE,int i64 aG,slice aB aA aD]->∃(R_1:RT),True/\CX Try.prog 47
 (Array.mk [agg (Array.mk [int u8 aF,int u64 aC,int u64 aH,int u64 aI,int u64 aJ,int i64 aE,int i64 aG,slice aB aA aD]),slice p1a p1n p1c,int i64 p2,bool false]) m' [] R_1/\Zaq
 (Shape.tup [Shape.slice,Shape.int i64]) R_1/\∀(a:Option Addr)(n c:Nat)(n_1:Int)(m'_1:Mem),Mem.le m' m'_1->R_1 (tuple (Array.mk [slice a n c,int i64 n_1])) m'_1 []->∃(m'':Mem),Mem.le m m''/\Mem.le
 m'' m'_1/\R (tuple (Array.mk [slice a n c,int i64 n_1])) m'' []
theorem Zgl(aF aC aH aI aJ aE aG:Int)(aB:Option Addr)(aA aD:Nat)(p1a:Option Addr)(p1n p1c:Nat)(p2:Int)(m:Mem)(R:RT)(h:ZdZ aF aC aH aI aJ aE aG aB aA aD p1a p1n p1c p2 m R):CX Try.prog 14 #[.agg #[.int .u8 aF,.int .u64 aC,.int .u64 aH,.int .u64 aI,.int .u64 aJ,.int .i64 aE,.int .i64 aG,.slice aB aA aD],.slice p1a p1n p1c,.int .i64 p2] m [] R:=
 Zae (E:=ZlE) Zax mix Try.func14 [.v (.agg #[.int .u8 aF,.int .u64 aC,.int .u64 aH,.int .u64 aI,.int .u64 aJ,.int .i64 aE,.int .i64 aG,.slice aB aA aD]),.v (.slice p1a p1n p1c),.v (.int .i64 p2)] [] (by kernel_rfl) (Eq.mp (by kernel_rfl) h)
noncomputable def ZiN:Env:={ EB with
 frzNew:=[3] }
def ZcO(aF aC aH aI aJ aE aG:Int)(aB:Option Addr)(aA aD:Nat)(p1a:Option Addr)(p1n p1c:Nat)(p2:Int)(m:Mem)(R:RT):Prop:=
 ∀(b:Nat)(m':Mem),Mem.le m m'->Mem.reads m' b 0 [int u8 aF,int u64 aC,int u64 aH,int u64 aI,int u64 aJ,int i64 aE,int i64 aG,slice aB aA aD]->∃(R_1:RT),True/\CX Try.prog 47
 (Array.mk [agg (Array.mk [int u8 aF,int u64 aC,int u64 aH,int u64 aI,int u64 aJ,int i64 aE,int i64 aG,slice aB aA aD]),slice p1a p1n p1c,int i64 p2,bool true]) m' [] R_1/\Zaq
 (Shape.tup [Shape.slice,Shape.int i64]) R_1/\∀(a:Option Addr)(n c:Nat)(n_1:Int)(m'_1:Mem),Mem.le m' m'_1->R_1 (tuple (Array.mk [slice a n c,int i64 n_1])) m'_1 []->∃(m'':Mem),Mem.le m m''/\Mem.le
 m'' m'_1/\R (tuple (Array.mk [slice a n c,int i64 n_1])) m'' []
theorem Zey(aF aC aH aI aJ aE aG:Int)(aB:Option Addr)(aA aD:Nat)(p1a:Option Addr)(p1n p1c:Nat)(p2:Int)(m:Mem)(R:RT)(h:ZcO aF aC aH aI aJ aE aG aB aA aD p1a p1n p1c p2 m R):CX Try.prog 15 #[.agg #[.int .u8 aF,.int .u64 aC,.int .u64 aH,.int .u64 aI,.int .u64 aJ,.int .i64 aE,.int .i64 aG,.slice aB aA aD],.slice p1a p1n p1c,.int .i64 p2] m [] R:=
 Zae (E:=ZiN) Zax mix Try.func15 [.v (.agg #[.int .u8 aF,.int .u64 aC,.int .u64 aH,.int .u64 aI,.int .u64 aJ,.int .i64 aE,.int .i64 aG,.slice aB aA aD]),.v (.slice p1a p1n p1c),.v (.int .i64 p2)] [] (by kernel_rfl) (Eq.mp (by kernel_rfl) h)
noncomputable def ZhO:Env:={ EB with
 dr:=(λi=>bif Nat.beq i 4 then[⟨0,[],[],none,[],[]⟩,⟨1,[],[],none,[0],[]⟩,⟨2,[2],[],none,[],[]⟩,⟨3,[],[],none,[],[]⟩,⟨4,[],[],none,[0,1,2,3],[3]⟩,⟨5,[7],[7],none,[],[]⟩,⟨6,[7],[7],none,[0,1,2,3,4,5],[]⟩]else[])
 frzNew:=[2]
 frzAt:=(λi=>bif Nat.beq i 21 then[7]else[]) }
def ZdP(aF aC aH aI aJ aE aG:Int)(aB:Option Addr)(aA aD:Nat)(p1a:Option Addr)(p1n p1c:Nat)(m:Mem)(R:RT):Prop:=
 ∀(b:Nat)(m':Mem),Mem.le m m'->Mem.reads m' b 0 [int u8 aF,int u64 aC,int u64 aH,int u64 aI,int u64 aJ,int i64 aE,int i64 aG,slice aB aA aD]->∃(R_1:RT),True/\CX Try.prog 52
 (Array.mk [agg (Array.mk [int u8 aF,int u64 aC,int u64 aH,int u64 aI,int u64 aJ,int i64 aE,int i64 aG,slice aB aA aD]),slice p1a p1n p1c,int i64 0]) m' [] R_1/\Zaq (Shape.int i64) R_1/\
 ∀(n:Int)(aa:Mem),Mem.le m' aa->R_1 (int i64 n) aa []->br (!n == (0:Int)) (∃(m'':Mem),Mem.le m m''/\Mem.le m'' aa/\R (tuple (Array.mk [bool false,int i64 n])) m'' []) (∃(f:Fx),∃(R_2:RT),R_2=f
 3 [int i64 0] aa/\CX Try.prog 54 (Array.mk [int i64 0]) aa [] R_2/\Zaq (Shape.agg [Shape.int u64,Shape.int u64,Shape.int u64,Shape.int u64,Shape.int u64,Shape.int u64,Shape.int u64,Shape.int u64,Shape.int
 u64]) R_2/\∀(n ab ac ad ae af ag ah ai:Int)(m':Mem),Mem.le aa m'->R_2 (agg (Array.mk [int u64 n,int u64 ab,int u64 ac,int u64 ad,int u64 ae,int u64 af,int u64 ag,int u64 ah,int u64 ai])) m' []->∃(R_3
 : RT),R_3=f 4 [agg (Array.mk [slice p1a p1n p1c,bool false]),agg (Array.mk [int u8 aF,int u64 aC,int u64 aH,int u64 aI,int u64 aJ,int i64 aE,int i64 aG,slice aB aA aD]),agg (Array.mk
 [int u64 n,int u64 ab,int u64 ac,int u64 ad,int u64 ae,int u64 af,int u64 ag,int u64 ah,int u64 ai])] m'/\CX Try.prog 53 (Array.mk [agg (Array.mk [slice p1a p1n p1c,bool false]),agg (Array.mk [int u8 aF,
 int u64 aC,int u64 aH,int u64 aI,int u64 aJ,int i64 aE,int i64 aG,slice aB aA aD]),agg (Array.mk [int u64 n,int u64 ab,int u64 ac,int u64 ad,int u64 ae,int u64 af,int u64 ag,int u64
 ah,int u64 ai])]) m' [] R_3/\Zaq (Shape.agg [Shape.int u64,Shape.int u64,Shape.int u64,Shape.int u64,Shape.int u64,Shape.int u64,Shape.int u64,Shape.int u64,Shape.int u64]) R_3/\∀(n al am an ao ap aq ar au
 : Int) (aj:Mem),Mem.le m' aj->R_3 (agg (Array.mk [int u64 n,int u64 al,int u64 am,int u64 an,int u64 ao,int u64 ap,int u64 aq,int u64 ar,int u64 au])) aj []->∀(b:Nat)(M:Mem),Mem.le aa M->Mem.le m' M
 -> Mem.le aj M->∀(m':Mem),Mem.le M m'->Mem.reads m' b 0 [int u64 n,int u64 al,int u64 am,int u64 an,int u64 ao,int u64 ap,int u64 aq,int u64 ar,int u64 au]->∃(R_4:RT),True/\CX Try.prog 55 (Array.mk
 [Value.pointer (some (Addr.mk b 0 none)),int i64 (↑p1n:Int)]) m' [] R_4/\Zaq Shape.bool R_4/\∀(b:Bool)(ak:Mem),Mem.le m' ak->R_4 (bool b) ak []->∃(m'':Mem),Mem.le m m''/\Mem.le m'' ak/\R (tuple
 (Array.mk [bool b,int i64 0])) m'' [])
theorem ZgU(aF aC aH aI aJ aE aG:Int)(aB:Option Addr)(aA aD:Nat)(p1a:Option Addr)(p1n p1c:Nat)(m:Mem)(R:RT)(h:ZdP aF aC aH aI aJ aE aG aB aA aD p1a p1n p1c m R):CX Try.prog 19 #[.agg #[.int .u8 aF,.int .u64 aC,.int .u64 aH,.int .u64 aI,.int .u64 aJ,.int .i64 aE,.int .i64 aG,.slice aB aA aD],.slice p1a p1n p1c] m [] R:=
 Zae (E:=ZhO) Zax mix Try.func19 [.v (.agg #[.int .u8 aF,.int .u64 aC,.int .u64 aH,.int .u64 aI,.int .u64 aJ,.int .i64 aE,.int .i64 aG,.slice aB aA aD]),.v (.slice p1a p1n p1c)] [] (by kernel_rfl) (Eq.mp (by kernel_rfl) h)
noncomputable def ZjP:Env:={ EB with
 frzNew:=[3] }
def Zft(aF aC:Bool)(aH aI aJ aE aG bX bY:Int)(bO:Option Addr)(bP bQ:Nat)(p1a:Option Addr)(p1n p1c:Nat)(p2:Int)(m:Mem)(R:RT):Prop:=
 ∀(b:Nat)(m':Mem),Mem.le m m'->Mem.reads m' b 0 [bool aF,bool aC,int u8 aH,int u64 aI,int u64 aJ,int u64 aE,int u64 aG,int i64 bX,int i64 bY,slice bO bP bQ]->∃(R_1:RT),
 True/\CX Try.prog 34 (Array.mk [agg (Array.mk [bool aF,bool aC,int u8 aH,int u64 aI,int u64 aJ,int u64 aE,int u64 aG,int i64 bX,int i64 bY,slice bO bP bQ])]) m' [] R_1/\Zaq
 (Shape.int i64) R_1/\∀(n:Int)(m'_1:Mem),Mem.le m' m'_1->R_1 (int i64 n) m'_1 []->br (!n == (0:Int)) (∃(m'':Mem),Mem.le m m''/\Mem.le m'' m'_1/\R (int i64 130) m'' []) (∃(R_2:RT),True/\CX Try.prog
 52 (Array.mk [agg (Array.mk [int u8 aH,int u64 aI,int u64 aJ,int u64 aE,int u64 aG,int i64 bX,int i64 bY,slice bO bP bQ]),slice p1a p1n p1c,int i64 p2]) m'_1 [] R_2/\Zaq (Shape.int i64)
 R_2/\∀(n:Int)(m':Mem),Mem.le m'_1 m'->R_2 (int i64 n) m' []->∃(m'':Mem),Mem.le m m''/\Mem.le m'' m'/\R (int i64 n) m'' [])
theorem ZiO(aF aC:Bool)(aH aI aJ aE aG bX bY:Int)(bO:Option Addr)(bP bQ:Nat)(p1a:Option Addr)(p1n p1c:Nat)(p2:Int)(m:Mem)(R:RT)(h:Zft aF aC aH aI aJ aE aG bX bY bO bP bQ p1a p1n p1c p2 m R):CX Try.prog 48 #[.agg #[.bool aF,.bool aC,.int .u8 aH,.int .u64 aI,.int .u64 aJ,.int .u64 aE,.int .u64 aG,.int .i64 bX,.int .i64 bY,.slice bO bP bQ],.slice p1a p1n p1c,.int .i64 p2] m [] R:=
 Zae (E:=ZjP) Zax mix Try.func48 [.v (.agg #[.bool aF,.bool aC,.int .u8 aH,.int .u64 aI,.int .u64 aJ,.int .u64 aE,.int .u64 aG,.int .i64 bX,.int .i64 bY,.slice bO bP bQ]),.v (.slice p1a p1n p1c),.v (.int .i64 p2)] [] (by kernel_rfl) (Eq.mp (by kernel_rfl) h)
noncomputable def ZlF:Env:={ EB with
 loops:=(λi=>bif Nat.beq i 8 then⟨[(29,.int .i64)],[6,7],[],false⟩ else⟨[],[],[],false⟩)
 joins:=(λi=>bif Nat.beq i 1 then some [(17,.bool)]else none)
 dr:=(λi=>bif Nat.beq i 3 then[⟨0,[],[],none,[],[]⟩,⟨1,[],[],none,[0],[]⟩,⟨2,[3],[],none,[],[]⟩,⟨3,[3],[],none,[2],[]⟩,⟨4,[5],[],none,[],[]⟩,⟨5,[],[],none,[4],[]⟩,⟨6,[],[],none,[0,1,2,3,4,5],[5]⟩,⟨7,[8],[8],none,[],[]⟩,⟨8,[8],[8],none,[0,1,2,3,4,5,6,7],[]⟩]else[])
 frzNew:=[3,5]
 frzAt:=(λi=>bif Nat.beq i 27 then[8]else bif Nat.beq i 28 then[8]else[]) }
def Zgm(aF aC:Bool)(aH aI aJ aE aG bX bY:Int)(bO:Option Addr)(bP bQ:Nat)(p1a:Option Addr)(p1n p1c:Nat)(p2:Int)(m:Mem)(R:RT):Prop:=
 ∀(b:Nat)(m':Mem),Mem.le m m'->Mem.reads m' b 0 [bool aF,bool aC,int u8 aH,int u64 aI,int u64 aJ,int u64 aE,int u64 aG,int i64 bX,int i64 bY,slice bO bP bQ]->∀(ak:Nat) (an
 : Mem),Mem.le m' an->Mem.reads an ak 0 [int i64 p2]->∀(al am:Nat),∃(ao:Bool),br aC ([some (Box.mk am [bool false] 4 1 false true),some (Box.mk al [int i64 0] 3 1 false true),some (Box.mk ak [int i64 p2] 3
 1 true true),some (Box.mk b [bool aF,bool aC,int u8 aH,int u64 aI,int u64 aJ,int u64 aE,int u64 aG,int i64 bX,int i64 bY,slice bO bP bQ] 37 10 true true)]=[some (Box.mk am [bool
 false] 4 1 false true),some (Box.mk al [int i64 0] 3 1 false true),some (Box.mk ak [int i64 p2] 3 1 true true),some (Box.mk b [bool aF,bool aC,int u8 aH,int u64 aI,int u64 aJ,int u64 aE,int u64
 aG,int i64 bX,int i64 bY,slice bO bP bQ] 37 10 true true)]/\[bool (decide (p2 < (↑p1n:Int)))]=[bool ao]) ([some (Box.mk am [bool false] 4 1 false true),some (Box.mk al [int i64 0] 3 1 false
 true),some (Box.mk ak [int i64 p2] 3 1 true true),some (Box.mk b [bool aF,bool aC,int u8 aH,int u64 aI,int u64 aJ,int u64 aE,int u64 aG,int i64 bX,int i64 bY,slice bO bP bQ] 37 10
 true true)]=[some (Box.mk am [bool false] 4 1 false true),some (Box.mk al [int i64 0] 3 1 false true),some (Box.mk ak [int i64 p2] 3 1 true true),some (Box.mk b [bool aF,bool aC,int u8 aH,int u64 aI,int
 u64 aJ,int u64 aE,int u64 aG,int i64 bX,int i64 bY,slice bO bP bQ] 37 10 true true)]/\[bool false]=[bool ao])/\br ao (∃(m'':Mem),Mem.le m m''/\Mem.le m'' an/\R (tuple (Array.mk [int i64
 0,bool false])) m'' []) (∃(f:Fx),∃(R_1:RT),R_1=f 5 [int i64 p2] an/\CX Try.prog 54 (Array.mk [int i64 p2]) an [] R_1/\Zaq (Shape.agg [Shape.int u64,Shape.int u64,Shape.int u64,Shape.int u64,Shape.int
 u64,Shape.int u64,Shape.int u64,Shape.int u64,Shape.int u64]) R_1/\∀(n ap aq ar au av aw ax ay:Int)(m':Mem),Mem.le an m'->R_1 (agg (Array.mk [int u64 n,int u64 ap,int u64 aq,int u64 ar,int u64 au,int
 u64 av,int u64 aw,int u64 ax,int u64 ay])) m' []->∃(R_2:RT),R_2=f 6 [agg (Array.mk [slice p1a p1n p1c,bool true]),agg (Array.mk [int u8 aH,int u64 aI,int u64 aJ,int u64 aE,int u64 aG,int i64
 bX,int i64 bY,slice bO bP bQ]),agg (Array.mk [int u64 n,int u64 ap,int u64 aq,int u64 ar,int u64 au,int u64 av,int u64 aw,int u64 ax,int u64 ay])] m'/\CX Try.prog 53 (Array.mk [agg (Array.mk
 [slice p1a p1n p1c,bool true]),agg (Array.mk [int u8 aH,int u64 aI,int u64 aJ,int u64 aE,int u64 aG,int i64 bX,int i64 bY,slice bO bP bQ]),agg (Array.mk [int u64 n,int u64 ap,int u64
 aq,int u64 ar,int u64 au,int u64 av,int u64 aw,int u64 ax,int u64 ay])]) m' [] R_2/\Zaq (Shape.agg [Shape.int u64,Shape.int u64,Shape.int u64,Shape.int u64,Shape.int u64,Shape.int u64,Shape.int u64,
 Shape.int u64,Shape.int u64]) R_2/\∀(n ab ac ad ae af ag ah ai:Int)(az:Mem),Mem.le m' az->R_2 (agg (Array.mk [int u64 n,int u64 ab,int u64 ac,int u64 ad,int u64 ae,int u64 af,int u64 ag,int u64 ah,int
 u64 ai])) az []->∀(aa:Nat)(M:Mem),Mem.le an M->Mem.le m' M->Mem.le az M->br aF (∀(m':Mem),Mem.le M m'->Mem.reads m' aa 0 [int u64 n,int u64 ab,int u64 ac,int u64 ad,int u64 ae,int u64 af,int u64
 ag,int u64 ah,int u64 ai]->∃(R_3:RT),True/\CX Try.prog 55 (Array.mk [Value.pointer (some (Addr.mk aa 0 none)),int i64 0]) m' [] R_3/\Zaq Shape.bool R_3/\∀(b:Bool)(aj:Mem),Mem.le m' aj->R_3 (bool b)
 aj []->∃(m'':Mem),Mem.le m m''/\Mem.le m'' aj/\R (tuple (Array.mk [int i64 0,bool b])) m'' []) (∀(m':Mem),Mem.le M m'->Mem.reads m' aa 0 [int u64 n,int u64 ab,int u64 ac,int u64 ad,int u64 ae,int u64
 af,int u64 ag,int u64 ah,int u64 ai]->∃(R_3:RT),True/\CX Try.prog 82 (Array.mk [Value.pointer (some (Addr.mk aa 0 none))]) m' [] R_3/\Zaq Shape.fn R_3/\∀(g:Nat)(fi ca:List Value)(aj:Mem),Mem.le m'
 aj->R_3 (func (Fn.func g) (Array.mk fi) (Array.mk ca)) aj []->∃(xs:List (List Value)),IX Try.prog g fi ca aj xs/\(∀(x:List Value),x∈xs->Shape.fitsL [Shape.int i64] x=true)/\∃(I:IT),I [] [[int i64
 0],[bool false]] [] aj 0/\(∀(a0:Int)(cs a1:List Value)(m':Mem)(a2:Nat),Mem.le aj m'->List.get?Internal xs a2=some [int i64 a0]->I [] [cs,a1] [] m' a2->br (decide (a0 > p2)) ([some (Box.mk aa [int
 u64 n,int u64 ab,int u64 ac,int u64 ad,int u64 ae,int u64 af,int u64 ag,int u64 ah,int u64 ai] 95 9 true true),some (Box.mk aa [int u64 n,int u64 ab,int u64 ac,int u64 ad,int u64 ae,int u64 af,int u64 ag,
 int u64 ah,int u64 ai] 95 9 true true),some (Box.mk am [] 4 1 false true),some (Box.mk al [] 3 1 false true),some (Box.mk ak [int i64 p2] 3 1 true true),some (Box.mk b [bool aF,bool aC,int u8 aH,int u64
 aI,int u64 aJ,int u64 aE,int u64 aG,int i64 bX,int i64 bY,slice bO bP bQ] 37 10 true true)]=[some (Box.mk aa [int u64 n,int u64 ab,int u64 ac,int u64 ad,int u64 ae,int u64 af,int u64
 ag,int u64 ah,int u64 ai] 95 9 true true),some (Box.mk aa [int u64 n,int u64 ab,int u64 ac,int u64 ad,int u64 ae,int u64 af,int u64 ag,int u64 ah,int u64 ai] 95 9 true true),some (Box.mk am [] 4 1 false
 true),some (Box.mk al [] 3 1 false true),some (Box.mk ak [int i64 p2] 3 1 true true),some (Box.mk b [bool aF,bool aC,int u8 aH,int u64 aI,int u64 aJ,int u64 aE,int u64 aG,int i64 bX,int i64
 bY,slice bO bP bQ] 37 10 true true)]/\∃(m'':Mem),Mem.le m m''/\Mem.le m'' m'/\R (tuple (Array.mk [int i64 0,bool false])) m'' []) ([some (Box.mk aa [int u64 n,int u64 ab,int u64 ac,int u64 ad,int
 u64 ae,int u64 af,int u64 ag,int u64 ah,int u64 ai] 95 9 true true),some (Box.mk aa [int u64 n,int u64 ab,int u64 ac,int u64 ad,int u64 ae,int u64 af,int u64 ag,int u64 ah,int u64 ai] 95 9 true true),some
 (Box.mk am [] 4 1 false true),some (Box.mk al [] 3 1 false true),some (Box.mk ak [int i64 p2] 3 1 true true),some (Box.mk b [bool aF,bool aC,int u8 aH,int u64 aI,int u64 aJ,int u64 aE,int u64 aG,
 int i64 bX,int i64 bY,slice bO bP bQ] 37 10 true true)]=[some (Box.mk aa [int u64 n,int u64 ab,int u64 ac,int u64 ad,int u64 ae,int u64 af,int u64 ag,int u64 ah,int u64 ai] 95 9 true true),some
 (Box.mk aa [int u64 n,int u64 ab,int u64 ac,int u64 ad,int u64 ae,int u64 af,int u64 ag,int u64 ah,int u64 ai] 95 9 true true),some (Box.mk am [] 4 1 false true),some (Box.mk al [] 3 1 false true),some
 (Box.mk ak [int i64 p2] 3 1 true true),some (Box.mk b [bool aF,bool aC,int u8 aH,int u64 aI,int u64 aJ,int u64 aE,int u64 aG,int i64 bX,int i64 bY,slice bO bP bQ] 37 10 true true)]/\
 ∃(m'':Mem),Mem.le m m''/\Mem.le m'' m'/\R (tuple (Array.mk [int i64 a0,bool true])) m'' []))/\∀(cs a1:List Value)(m':Mem),Mem.le aj m'->I [] [cs,a1] [] m' (List.length xs)->∃(m'':Mem),Mem.le m m''
 /\ Mem.le m'' m'/\R (tuple (Array.mk [int i64 0,bool false])) m'' []))
theorem ZjQ(aF aC:Bool)(aH aI aJ aE aG bX bY:Int)(bO:Option Addr)(bP bQ:Nat)(p1a:Option Addr)(p1n p1c:Nat)(p2:Int)(m:Mem)(R:RT)(h:Zgm aF aC aH aI aJ aE aG bX bY bO bP bQ p1a p1n p1c p2 m R):CX Try.prog 49 #[.agg #[.bool aF,.bool aC,.int .u8 aH,.int .u64 aI,.int .u64 aJ,.int .u64 aE,.int .u64 aG,.int .i64 bX,.int .i64 bY,.slice bO bP bQ],.slice p1a p1n p1c,.int .i64 p2] m [] R:=
 Zae (E:=ZlF) Zax mix Try.func49 [.v (.agg #[.bool aF,.bool aC,.int .u8 aH,.int .u64 aI,.int .u64 aJ,.int .u64 aE,.int .u64 aG,.int .i64 bX,.int .i64 bY,.slice bO bP bQ]),.v (.slice p1a p1n p1c),.v (.int .i64 p2)] [] (by kernel_rfl) (Eq.mp (by kernel_rfl) h)
noncomputable def ZlG:Env:={ EB with
 frzNew:=[3] }
def Zgn(aF aC:Bool)(aH aI aJ aE aG bX bY:Int)(bO:Option Addr)(bP bQ:Nat)(p1a:Option Addr)(p1n p1c:Nat)(p2:Int)(m:Mem)(R:RT):Prop:=
 ∀(b:Nat)(m':Mem),Mem.le m m'->Mem.reads m' b 0 [bool aF,bool aC,int u8 aH,int u64 aI,int u64 aJ,int u64 aE,int u64 aG,int i64 bX,int i64 bY,slice bO bP bQ]->∃(R_1:RT),
 True/\CX Try.prog 48 (Array.mk [agg (Array.mk [bool aF,bool aC,int u8 aH,int u64 aI,int u64 aJ,int u64 aE,int u64 aG,int i64 bX,int i64 bY,slice bO bP bQ]),slice p1a p1n p1c,int
 i64 p2]) m' [] R_1/\Zaq (Shape.int i64) R_1/\∀(n:Int)(m'_1:Mem),Mem.le m' m'_1->R_1 (int i64 n) m'_1 []->br (!n == (0:Int)) (∃(m'':Mem),Mem.le m m''/\Mem.le m'' m'_1/\R (tuple (Array.mk [int i64 0,
 bool false,int i64 n])) m'' []) (∃(R_2:RT),True/\CX Try.prog 49 (Array.mk [agg (Array.mk [bool aF,bool aC,int u8 aH,int u64 aI,int u64 aJ,int u64 aE,int u64 aG,int i64 bX,int i64 bY,
 slice bO bP bQ]),slice p1a p1n p1c,int i64 p2]) m'_1 [] R_2/\Zaq (Shape.tup [Shape.int i64,Shape.bool]) R_2/\∀(n:Int)(b:Bool)(m':Mem),Mem.le m'_1 m'->R_2 (tuple (Array.mk [int i64 n,bool b]))
 m' []->∃(m'':Mem),Mem.le m m''/\Mem.le m'' m'/\R (tuple (Array.mk [int i64 n,bool b,int i64 0])) m'' [])
theorem ZjR(aF aC:Bool)(aH aI aJ aE aG bX bY:Int)(bO:Option Addr)(bP bQ:Nat)(p1a:Option Addr)(p1n p1c:Nat)(p2:Int)(m:Mem)(R:RT)(h:Zgn aF aC aH aI aJ aE aG bX bY bO bP bQ p1a p1n p1c p2 m R):CX Try.prog 17 #[.agg #[.bool aF,.bool aC,.int .u8 aH,.int .u64 aI,.int .u64 aJ,.int .u64 aE,.int .u64 aG,.int .i64 bX,.int .i64 bY,.slice bO bP bQ],.slice p1a p1n p1c,.int .i64 p2] m [] R:=
 Zae (E:=ZlG) Zax mix Try.func17 [.v (.agg #[.bool aF,.bool aC,.int .u8 aH,.int .u64 aI,.int .u64 aJ,.int .u64 aE,.int .u64 aG,.int .i64 bX,.int .i64 bY,.slice bO bP bQ]),.v (.slice p1a p1n p1c),.v (.int .i64 p2)] [] (by kernel_rfl) (Eq.mp (by kernel_rfl) h)
noncomputable def ZjS:Env:={ EB with
 frzNew:=[3] }
def Zfu(aF aC:Bool)(aH aI aJ aE aG bX bY:Int)(bO:Option Addr)(bP bQ:Nat)(p1a:Option Addr)(p1n p1c:Nat)(p2:Int)(m:Mem)(R:RT):Prop:=
 ∀(b:Nat)(m':Mem),Mem.le m m'->Mem.reads m' b 0 [bool aF,bool aC,int u8 aH,int u64 aI,int u64 aJ,int u64 aE,int u64 aG,int i64 bX,int i64 bY,slice bO bP bQ]->∃(R_1:RT),
 True/\CX Try.prog 17 (Array.mk [agg (Array.mk [bool aF,bool aC,int u8 aH,int u64 aI,int u64 aJ,int u64 aE,int u64 aG,int i64 bX,int i64 bY,slice bO bP bQ]),slice p1a p1n p1c,int
 i64 p2]) m' [] R_1/\Zaq (Shape.tup [Shape.int i64,Shape.bool,Shape.int i64]) R_1/\∀(n:Int)(b:Bool)(n_1:Int)(m'_1:Mem),Mem.le m' m'_1->R_1 (tuple (Array.mk [int i64 n,bool b,int i64 n_1])) m'_1 []->
 ∃(m'':Mem),Mem.le m m''/\Mem.le m'' m'_1/\R (tuple (Array.mk [bool b,int i64 n_1])) m'' []
theorem ZiP(aF aC:Bool)(aH aI aJ aE aG bX bY:Int)(bO:Option Addr)(bP bQ:Nat)(p1a:Option Addr)(p1n p1c:Nat)(p2:Int)(m:Mem)(R:RT)(h:Zfu aF aC aH aI aJ aE aG bX bY bO bP bQ p1a p1n p1c p2 m R):CX Try.prog 16 #[.agg #[.bool aF,.bool aC,.int .u8 aH,.int .u64 aI,.int .u64 aJ,.int .u64 aE,.int .u64 aG,.int .i64 bX,.int .i64 bY,.slice bO bP bQ],.slice p1a p1n p1c,.int .i64 p2] m [] R:=
 Zae (E:=ZjS) Zax mix Try.func16 [.v (.agg #[.bool aF,.bool aC,.int .u8 aH,.int .u64 aI,.int .u64 aJ,.int .u64 aE,.int .u64 aG,.int .i64 bX,.int .i64 bY,.slice bO bP bQ]),.v (.slice p1a p1n p1c),.v (.int .i64 p2)] [] (by kernel_rfl) (Eq.mp (by kernel_rfl) h)
noncomputable def ZjT:Env:={ EB with
 loops:=(λi=>bif Nat.beq i 4 then⟨[(14,.int .i64)],[],[],false⟩ else⟨[],[],[],false⟩) }
def Zfv(p0a:Option Addr)(p0n p0c:Nat)(p1a:Option Addr)(p1n p1c:Nat)(p2:Int)(m:Mem)(R:RT):Prop:=
 br (decide ((↑p0n:Int) > (64:Int))) (∃(m'':Mem),Mem.le m m''/\Mem.le m'' m/\R (int i64 5) m'' []) (∃(I:IT),(∃(n:Nat),I [int i64 0] [] [] m n)/\∀(n:Int)(m':Mem)(n_1:Nat),Mem.le m m'->I [int
 i64 n] [] [] m' n_1->br (decide (n < (↑p0n:Int))) (∃(b:Nat),∃(o:Nat),p0a=some (Addr.mk b o none)/\Zaf n p0n/\∃(v:Value),∃(v_1:Value),∃(v_2:Value),∃(v_3:Value),∃(v_4:Value),∃(v_5:
 Value),∃(v_6:Value),∃(v_7:Value),∃(v_8:Value),∃(v_9:Value),Mem.reads m' b (o+Int.toNat n*10) [v,v_1,v_2,v_3,v_4,v_5,v_6,v_7,v_8,v_9]/\∀(b:Nat),chk (Value.oneCell' v&&(Value.oneCell'
 v_1&&(Value.oneCell' v_2&&(Value.oneCell' v_3&&(Value.oneCell' v_4&&(Value.oneCell' v_5&&(Value.oneCell' v_6&&(Value.oneCell' v_7&&(Value.oneCell' v_8&&(Value.oneCell' v_9&&true)))))))))) (∃(R_1:
 RT),True/\CX Try.prog 34 (Array.mk [agg (Array.mk [v,v_1,v_2,v_3,v_4,v_5,v_6,v_7,v_8,v_9])]) m' [] R_1/\Zaq (Shape.int i64) R_1/\∀(n_2:Int)(m'_1:Mem),Mem.le m' m'_1->R_1 (int i64 n_2) m'_1 []->br
 (!n_2 == (0:Int)) (∃(m'':Mem),Mem.le m m''/\Mem.le m'' m'_1/\R (int i64 130) m'' []) (∃(n':Nat),n' < n_1/\I [int i64 (IntKind.wrap i64 (n+(1:Int)))] [] [] m'_1 n'))) (∃(R_1:RT),True/\CX Try.prog 52
 (Array.mk [agg (Array.mk [int u8 1,int u64 0,int u64 0,int u64 0,int u64 0,int i64 0,int i64 0,slice none 0 0]),slice p1a p1n p1c,int i64 p2]) m' [] R_1/\Zaq (Shape.int i64) R_1/\∀(n:Int)(m'_1:Mem),
 Mem.le m' m'_1->R_1 (int i64 n) m'_1 []->∃(m'':Mem),Mem.le m m''/\Mem.le m'' m'_1/\R (int i64 n) m'' []))
theorem ZiQ(p0a:Option Addr)(p0n p0c:Nat)(p1a:Option Addr)(p1n p1c:Nat)(p2:Int)(m:Mem)(R:RT)(h:Zfv p0a p0n p0c p1a p1n p1c p2 m R):CX Try.prog 50 #[.slice p0a p0n p0c,.slice p1a p1n p1c,.int .i64 p2] m [] R:=
 Zae (E:=ZjT) Zax mix Try.func50 [.v (.slice p0a p0n p0c),.v (.slice p1a p1n p1c),.v (.int .i64 p2)] [] (by kernel_rfl) (Eq.mp (by kernel_rfl) h)
noncomputable def ZlH:Env:={ EB with
 loops:=(λi=>bif Nat.beq i 2 then⟨[(14,.int .i64)],[6],[],false⟩ else⟨[],[],[],false⟩) }
def Zgo(p0a:Option Addr)(p0n p0c:Nat)(p1a:Option Addr)(p1n p1c:Nat)(p2:Int)(m:Mem)(R:RT):Prop:=
 ∀(b:Nat),∃(I:IT),(∃(n:Nat),I [int i64 0] [[int i64 0,int i64 0,int i64 0]] [] m n)/\∀(n:Int)(cs:List Value)(m':Mem)(n_1:Nat),Mem.le m m'->I [int i64 n] [cs] [] m' n_1->br (decide (n < (↑p0n
 : Int))) (∃(b_1:Nat),∃(o:Nat),p0a=some (Addr.mk b_1 o none)/\Zaf n p0n/\∃(v:Value),∃(v_1:Value),∃(v_2:Value),∃(v_3:Value),∃(v_4:Value),∃(v_5:Value),∃(v_6:Value),∃(v_7:
 Value),∃(v_8:Value),∃(v_9:Value),Mem.reads m' b_1 (o+Int.toNat n*10) [v,v_1,v_2,v_3,v_4,v_5,v_6,v_7,v_8,v_9]/\∀(b_2:Nat),chk (Value.oneCell' v&&(Value.oneCell' v_1&&(Value.oneCell' v_2 &&
 (Value.oneCell' v_3&&(Value.oneCell' v_4&&(Value.oneCell' v_5&&(Value.oneCell' v_6&&(Value.oneCell' v_7&&(Value.oneCell' v_8&&(Value.oneCell' v_9&&true)))))))))) (∃(R_1:RT),True/\CX Try.prog 49
 (Array.mk [agg (Array.mk [v,v_1,v_2,v_3,v_4,v_5,v_6,v_7,v_8,v_9]),slice p1a p1n p1c,int i64 p2]) m' [] R_1/\Zaq (Shape.tup [Shape.int i64,Shape.bool]) R_1/\∀(n_2:Int)(b_3:Bool)(m'_1:Mem),Mem.le
 m' m'_1->R_1 (tuple (Array.mk [int i64 n_2,bool b_3])) m'_1 []->br b_3 (∃(m'':Mem),Mem.le m m''/\Mem.le m'' m'_1/\R (tuple (Array.mk [agg (Array.mk [int i64 n,int i64 n_2,int i64 p2]),bool true])) m'' [])
 ([some (Box.mk b [] 46 3 false true)]=[some (Box.mk b [] 46 3 false true)]/\∃(n':Nat),n' < n_1/\I [int i64 (IntKind.wrap i64 (n+(1:Int)))] [cs] [] m'_1 n'))) (∃(m'':Mem),Mem.le m m''/\Mem.le m'' m'/\R
 (tuple (Array.mk [agg (Array.mk [int i64 0,int i64 0,int i64 0]),bool false])) m'' [])
theorem ZjU(p0a:Option Addr)(p0n p0c:Nat)(p1a:Option Addr)(p1n p1c:Nat)(p2:Int)(m:Mem)(R:RT)(h:Zgo p0a p0n p0c p1a p1n p1c p2 m R):CX Try.prog 51 #[.slice p0a p0n p0c,.slice p1a p1n p1c,.int .i64 p2] m [] R:=
 Zae (E:=ZlH) Zax mix Try.func51 [.v (.slice p0a p0n p0c),.v (.slice p1a p1n p1c),.v (.int .i64 p2)] [] (by kernel_rfl) (Eq.mp (by kernel_rfl) h)
noncomputable def ZlI:Env:=EB
def Zgp(p0a:Option Addr)(p0n p0c:Nat)(p1a:Option Addr)(p1n p1c:Nat)(p2:Int)(m:Mem)(R:RT):Prop:=
 ∀(b:Nat),∃(R_1:RT),True/\CX Try.prog 50 (Array.mk [slice p0a p0n p0c,slice p1a p1n p1c,int i64 p2]) m [] R_1/\Zaq (Shape.int i64) R_1/\∀(n:Int)(m':Mem),Mem.le m m'->R_1 (int i64 n) m' []->br (!n
 == (0:Int)) (∃(m'':Mem),Mem.le m m''/\Mem.le m'' m'/\R (tuple (Array.mk [agg (Array.mk [int i64 0,int i64 0,int i64 0]),bool false,int i64 n])) m'' []) (∃(R_2:RT),True/\CX Try.prog 51 (Array.mk [slice
 p0a p0n p0c,slice p1a p1n p1c,int i64 p2]) m' [] R_2/\Zaq (Shape.tup [Shape.agg [Shape.int i64,Shape.int i64,Shape.int i64],Shape.bool]) R_2/\∀(n n_1 n_2:Int)(b:Bool)(m'_1:Mem),Mem.le m' m'_1->R_2
 (tuple (Array.mk [agg (Array.mk [int i64 n,int i64 n_1,int i64 n_2]),bool b])) m'_1 []->∀(b_1:Nat),∃(m'':Mem),Mem.le m m''/\Mem.le m'' m'_1/\R (tuple (Array.mk [agg (Array.mk [int i64 n,int i64 n_1,int
 i64 n_2]),bool b,int i64 0])) m'' [])
theorem ZjV(p0a:Option Addr)(p0n p0c:Nat)(p1a:Option Addr)(p1n p1c:Nat)(p2:Int)(m:Mem)(R:RT)(h:Zgp p0a p0n p0c p1a p1n p1c p2 m R):CX Try.prog 18 #[.slice p0a p0n p0c,.slice p1a p1n p1c,.int .i64 p2] m [] R:=
 Zae (E:=ZlI) Zax mix Try.func18 [.v (.slice p0a p0n p0c),.v (.slice p1a p1n p1c),.v (.int .i64 p2)] [] (by kernel_rfl) (Eq.mp (by kernel_rfl) h)
noncomputable def ZjW:Env:={ EB with
 loops:=(λi=>bif Nat.beq i 5 then⟨[(21,.int .i64)],[4],[],false⟩ else⟨[],[],[],false⟩) }
def Zfw(p0a:Option Addr)(p0n p0c:Nat)(p1a:Option Addr)(p1n p1c:Nat)(m:Mem)(R:RT):Prop:=
 ∀(b:Nat),∃(R_1:RT),True/\CX Try.prog 50 (Array.mk [slice p0a p0n p0c,slice p1a p1n p1c,int i64 0]) m [] R_1/\Zaq (Shape.int i64) R_1/\∀(n:Int)(m':Mem),Mem.le m m'->R_1 (int i64 n) m' []->br (!n ==
 (0:Int)) (∃(m'':Mem),Mem.le m m''/\Mem.le m'' m'/\R (tuple (Array.mk [agg (Array.mk [int i64 0,int i64 0,int i64 0]),bool false,int i64 n])) m'' []) (∃(I:IT),(∃(n:Nat),I [int i64 0] [[int i64 0,int
 i64 0,int i64 0]] [] m' n)/\∀(n:Int)(cs:List Value)(m'_1:Mem)(n_1:Nat),Mem.le m' m'_1->I [int i64 n] [cs] [] m'_1 n_1->br (decide (n < IntKind.wrap i64 ((↑p1n:Int)+(1:Int)))) (∃(R_2:RT),True/\
 CX Try.prog 51 (Array.mk [slice p0a p0n p0c,slice p1a p1n p1c,int i64 n]) m'_1 [] R_2/\Zaq (Shape.tup [Shape.agg [Shape.int i64,Shape.int i64,Shape.int i64],Shape.bool]) R_2/\∀(n_2 n_3 n_4:Int)(b_1:Bool)
 (m':Mem),Mem.le m'_1 m'->R_2 (tuple (Array.mk [agg (Array.mk [int i64 n_2,int i64 n_3,int i64 n_4]),bool b_1])) m' []->∀(b_2:Nat),br b_1 (∃(m'':Mem),Mem.le m m''/\Mem.le m'' m'/\R (tuple (Array.mk [agg
 (Array.mk [int i64 n_2,int i64 n_3,int i64 n_4]),bool true,int i64 0])) m'' []) ([some (Box.mk b [] 46 3 false true)]=[some (Box.mk b [] 46 3 false true)]/\∃(n':Nat),n' < n_1/\I [int i64 (IntKind.wrap i64 (n
 + (1:Int)))] [cs] [] m' n')) (∃(m'':Mem),Mem.le m m''/\Mem.le m'' m'_1/\R (tuple (Array.mk [agg (Array.mk [int i64 0,int i64 0,int i64 0]),bool false,int i64 0])) m'' []))
theorem ZiR(p0a:Option Addr)(p0n p0c:Nat)(p1a:Option Addr)(p1n p1c:Nat)(m:Mem)(R:RT)(h:Zfw p0a p0n p0c p1a p1n p1c m R):CX Try.prog 20 #[.slice p0a p0n p0c,.slice p1a p1n p1c] m [] R:=
 Zae (E:=ZjW) Zax mix Try.func20 [.v (.slice p0a p0n p0c),.v (.slice p1a p1n p1c)] [] (by kernel_rfl) (Eq.mp (by kernel_rfl) h)
noncomputable def ZdG:Env:={ EB with
 loops:=(λi=>bif Nat.beq i 4 then⟨[(13,.int .i64)],[],[],false⟩ else⟨[],[],[],false⟩)
 dr:=(λi=>bif Nat.beq i 6 then[⟨0,[],[],none,[],[]⟩,⟨1,[],[],none,[],[]⟩,⟨2,[],[],none,[0,1],[]⟩,⟨3,[],[],none,[0,1,2],[]⟩,⟨4,[],[],none,[],[]⟩,⟨5,[],[],none,[],[]⟩,⟨6,[],[],none,[4,5],[]⟩,⟨7,[],[],none,[4,5,6],[]⟩,⟨8,[],[],none,[0,1,2,3,4,5,6,7],[]⟩]else[]) }
def Zb6(p0a:Option Addr)(p0n p0c:Nat)(p1a:Option Addr)(p1n p1c:Nat)(m:Mem)(R:RT):Prop:=
 br (!(↑p0n:Int) == (↑p1n:Int)) (∃(m'':Mem),Mem.le m m''/\Mem.le m'' m/\R (bool false) m'' []) (∃(I:IT),(∃(n:Nat),I [int i64 0] [] [] m n)/\∀(n:Int)(m':Mem)(n_1:Nat),Mem.le m m'->I [int i64
 n] [] [] m' n_1->br (decide (n < (↑p0n:Int))) (∃(b:Nat),∃(o:Nat),p0a=some (Addr.mk b o none)/\Zaf n p0n/\∃(v:Value),m' b (o+Int.toNat n*1)=some v/\∃(b:Nat),∃(o:Nat),p1a=some
 (Addr.mk b o none)/\Zaf n p1n/\∃(v_1:Value),m' b (o+Int.toNat n*1)=some v_1/\chk (Zar i64 v&&Zar i64 v_1) (br (!RowKit.intOf v == RowKit.intOf v_1) (∃(m'':Mem),Mem.le m m''/\Mem.le m'' m'/\R
 (bool false) m'' []) (∃(n':Nat),n' < n_1/\I [int i64 (IntKind.wrap i64 (n+(1:Int)))] [] [] m' n'))) (∃(m'':Mem),Mem.le m m''/\Mem.le m'' m'/\R (bool true) m'' []))
theorem Zdn(p0a:Option Addr)(p0n p0c:Nat)(p1a:Option Addr)(p1n p1c:Nat)(m:Mem)(R:RT)(h:Zb6 p0a p0n p0c p1a p1n p1c m R):CX Try.prog 28 #[.slice p0a p0n p0c,.slice p1a p1n p1c] m [] R:=
 Zae (E:=ZdG) Zax mix Try.func28 [.v (.slice p0a p0n p0c),.v (.slice p1a p1n p1c)] [] (by kernel_rfl) (Eq.mp (by kernel_rfl) h)
end Go.Proofs.Ythiefodednaikaa