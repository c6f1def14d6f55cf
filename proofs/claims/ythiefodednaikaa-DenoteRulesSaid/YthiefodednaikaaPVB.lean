/- Part of the proof: conditions and contracts of functions of this program. No condition of its own. -/
import Derived.Test.YthiefodednaikaaPEnv
set_option linter.unusedVariables false
namespace Go.Proofs.Ythiefodednaikaa
open Go Go.Eng Go.Proofs Go.RowKit
open Go.Value (int slice agg)
open Go.IntKind (u8 u64 i64)
set_option maxRecDepth 100000
noncomputable def Zn6:Env:=EB
def Zhq(p0:Int)(m:Mem)(R:RT):Prop:=
 ∀(b b:Nat),(64:Int)≠(0:Int)∧(64:Int)≠(0:Int)∧(0:Int)≤Int.tmod p0 (64:Int)∧Zaf (IntKind.wrap i64 (Int.tdiv p0 (64:Int))) 9∧chk (Nat.ble (0+Int.toNat (IntKind.wrap i64 (Int.tdiv p0
 (64:Int)))*1) (nat_lit 8)) (chk (Nat.beq (List.length (Zaj (List.replicate 9 (int u64 0)) (0+Int.toNat (IntKind.wrap i64 (Int.tdiv p0 (64:Int)))*1) [int u64 (IntKind.wrap u64 ((1:Int)*(2:Int) ^ min
 (Int.toNat (Int.tmod p0 (64:Int))) 64))])) 9&&Zcb (Zaj (List.replicate 9 (int u64 0)) (0+Int.toNat (IntKind.wrap i64 (Int.tdiv p0 (64:Int)))*1) [int u64 (IntKind.wrap u64 ((1:Int)*(2:Int) ^ min
 (Int.toNat (Int.tmod p0 (64:Int))) 64))])) (∃(m'':Mem),Mem.le m m''∧Mem.le m'' m∧R (agg (Array.mk (Zaj (List.replicate 9 (int u64 0)) (0+Int.toNat (IntKind.wrap i64 (Int.tdiv p0 (64:Int)))*1) [int u64
 (IntKind.wrap u64 ((1:Int)*(2:Int) ^ min (Int.toNat (Int.tmod p0 (64:Int))) 64))]))) m'' []))
theorem Zmb(p0:Int)(m:Mem)(R:RT)(h:Zhq p0 m R):CX Try.prog 54 #[.int .i64 p0] m [] R:=
 Zad (E:=Zn6) ZaA mix Try.func54 [.v (.int .i64 p0)] [] (by kernel_rfl) (Eq.mp (by kernel_rfl) h)
noncomputable def Zeo:Env:=EB
def Zb6(p0b p0o:Nat)(p1:Int)(m:Mem)(R:RT):Prop:=
 (64:Int)≠(0:Int)∧Zaf (IntKind.wrap i64 (Int.tdiv p1 (64:Int))) 9∧∃(v:Value),m p0b (p0o+Int.toNat (IntKind.wrap i64 (Int.tdiv p1 (64:Int)))*1)=some v∧(64:Int)≠(0:Int)∧chk (Zal u64
 v&&true) ((0:Int)≤Int.tmod p1 (64:Int)∧∃(m'':Mem),Mem.le m m''∧Mem.le m'' m∧R (Value.bool (IntKind.wrap u64 (↑(BitVec.toNat (BitVec.ofInt 64 (Int.fdiv (RowKit.intOf v) ((2:Int) ^ min (Int.toNat
 (Int.tmod p1 (64:Int))) 64))&&&BitVec.ofInt 64 (1:Int))):Int) == (1:Int))) m'' [])
theorem ZdQ(p0b p0o:Nat)(p1:Int)(m:Mem)(R:RT)(h:Zb6 p0b p0o p1 m R):CX Try.prog 55 #[.pointer (some ⟨p0b,p0o,none⟩),.int .i64 p1] m [] R:=
 Zad (E:=Zeo) ZaA mix Try.func55 [.v (.pointer (some ⟨p0b,p0o,none⟩)),.v (.int .i64 p1)] [] (by kernel_rfl) (Eq.mp (by kernel_rfl) h)
noncomputable def ZeS:Env:={ EB with
 loops:=(fun i=>bif Nat.beq i 2 then⟨[(6,.int .i64)],[2],[],false⟩ else⟨[],[],[],false⟩)
 dr:=(fun i=>bif Nat.beq i 4 then[⟨0,[],[],none,[],[]⟩,⟨1,[2],[],none,[0],[]⟩,⟨2,[2],[],none,[0,1],[]⟩,⟨3,[],[],none,[],[]⟩,⟨4,[3],[],none,[3],[]⟩,⟨5,[3],[],none,[3,4],[]⟩,⟨6,[],[],none,[0,1,2,3,4,5],[]⟩,⟨7,[2],[],none,[0,1,2,3,4,5,6],[]⟩,⟨8,[2],[2],none,[0,1,2,3,4,5,6,7],[]⟩]else[])
 frzNew:=[3] }
def Zci(aF aB aH aI aJ aE aG bU bW aZ aN aO aP aQ aR aS cD cE:Int)(m:Mem)(R:RT):Prop:=
 ∀(b b_1:Nat)(m':Mem),Mem.le m m'→Mem.reads m' b_1 0 [int u64 aZ,int u64 aN,int u64 aO,int u64 aP,int u64 aQ,int u64 aR,int u64 aS,int u64 cD,int u64 cE]→∀(b_2:Nat),∃(I:IT),(∃
 (n:Nat),I [int i64 0] [[int u64 aF,int u64 aB,int u64 aH,int u64 aI,int u64 aJ,int u64 aE,int u64 aG,int u64 bU,int u64 bW]] [] m' n)∧∀(n:Int)(cs:List Value)(m'_1:Mem) (n_1:
 Nat),Mem.le m' m'_1→I [int i64 n] [cs] [] m'_1 n_1→br (decide (n < (9:Int))) (Zaf n 9∧Eng.ZrO cs (0+Int.toNat n*1) fun(v:Value)=>Zaf n 9∧Eng.ZrO [int u64 aZ,int u64 aN,int u64 aO,
 int u64 aP,int u64 aQ,int u64 aR,int u64 aS,int u64 cD,int u64 cE] (0+Int.toNat n*1) fun(v_1:Value)=>chk (Zal u64 v&&Zal u64 v_1) (Zaf n 9∧chk (Nat.ble (0+Int.toNat n*1+1)
 (List.length cs)) ([some (Box.mk b_2 (List.replicate 9 (int u64 0)) 95 9 false true),some (Box.mk b_1 [int u64 aZ,int u64 aN,int u64 aO,int u64 aP,int u64 aQ,int u64 aR,int u64 aS,int u64 cD,int
 u64 cE] 95 9 true true),some (Box.mk b [] 95 9 false true)]=[some (Box.mk b_2 (List.replicate 9 (int u64 0)) 95 9 false true),some (Box.mk b_1 [int u64 aZ,int u64 aN,int u64 aO,int u64 aP,int u64 aQ,
 int u64 aR,int u64 aS,int u64 cD,int u64 cE] 95 9 true true),some (Box.mk b [] 95 9 false true)]∧∃(n':Nat),n' < n_1∧I [int i64 (IntKind.wrap i64 (n+(1:Int)))] [Zaj cs (0+Int.toNat n*1)
 [int u64 (IntKind.wrap u64 (↑(BitVec.toNat (BitVec.ofInt 64 (RowKit.intOf v)|||BitVec.ofInt 64 (RowKit.intOf v_1))):Int))]] [] m'_1 n'))) (chk (Nat.beq (List.length cs) 9&&Zcb cs) (∃(m'':Mem),Mem.le m m''∧
 Mem.le m'' m'_1∧R (agg (Array.mk cs)) m'' []))
theorem Zep(aF aB aH aI aJ aE aG bU bW aZ aN aO aP aQ aR aS cD cE:Int)(m:Mem)(R:RT)(h:Zci aF aB aH aI aJ aE aG bU bW aZ aN aO aP aQ aR aS cD cE m R):CX Try.prog 104 #[.agg #[.int .u64 aF,.int .u64 aB,.int .u64 aH,.int .u64 aI,.int .u64 aJ,.int .u64 aE,.int .u64 aG,.int .u64 bU,.int .u64 bW],.agg #[.int .u64 aZ,.int .u64 aN,.int .u64 aO,.int .u64 aP,.int .u64 aQ,.int .u64 aR,.int .u64 aS,.int .u64 cD,.int .u64 cE]] m [] R:=
 Zad (E:=ZeS) ZaA mix Try.func104 [.v (.agg #[.int .u64 aF,.int .u64 aB,.int .u64 aH,.int .u64 aI,.int .u64 aJ,.int .u64 aE,.int .u64 aG,.int .u64 bU,.int .u64 bW]),.v (.agg #[.int .u64 aZ,.int .u64 aN,.int .u64 aO,.int .u64 aP,.int .u64 aQ,.int .u64 aR,.int .u64 aS,.int .u64 cD,.int .u64 cE])] [] (by kernel_rfl) (Eq.mp (by kernel_rfl) h)
noncomputable def Zdq:Env:={ EB with
 loops:=(fun i=>bif Nat.beq i 1 then⟨[(4,.int .i64)],[],[],true⟩ else⟨[],[],[],false⟩) }
def ZbH(p0g:Nat)(p0fi p0ca:List Value)(c0b c0o:Nat)(m:Mem)(xs:List (List Value)):Prop:=
 ∀(l:Nat),∃(I:IT),(∃(n:Nat),I [int i64 0,int i64 0] [] [] m n)∧∀(y n:Int)(m':Mem)(n_1:Nat),Mem.le m m'→I [int i64 y,int i64 n] [] [] m' n_1→br (decide (n < (513:Int))) (∃(v:Value),m'
 c0b c0o=some v∧∃(R:RT),True∧CX Try.prog 55 (Array.mk [v,int i64 n]) m' [] R∧Zax Shape.bool R∧∀(b:Bool)(m'_1:Mem),Mem.le m' m'_1→R (Value.bool b) m'_1 []→br b ((l=l∧(0:Int)≤y∧
 List.get?Internal xs (Int.toNat y)=some [int i64 n])∧(∃(n':Nat),n' < n_1∧I [int i64 (y+(1:Int)),int i64 (IntKind.wrap i64 (n+(1:Int)))] [] [] m'_1 n')∧((-1:Int)=(↑(List.length xs):Int)∨(-1:
 Int)=(-1:Int))) (∃(n':Nat),n' < n_1∧I [int i64 y,int i64 (IntKind.wrap i64 (n+(1:Int)))] [] [] m'_1 n')) (y=(↑(List.length xs):Int)∨y=(-1:Int))
theorem ZcN(p0g:Nat)(p0fi p0ca:List Value)(c0b c0o:Nat)(m:Mem)(xs:List (List Value))(h:ZbH p0g p0fi p0ca c0b c0o m xs):IX Try.prog 98 [] [.pointer (some ⟨c0b,c0o,none⟩)] m xs:=
 Znt (E:=Zdq) ZaA mix Try.func98 [] [.pointer (some ⟨c0b,c0o,none⟩)] xs (by kernel_rfl) (Eq.mp (by kernel_rfl) h)
noncomputable def Zeq:Env:={ EB with
 frzNew:=[1] }
def Zb7(p0b p0o:Nat)(m:Mem)(R:RT):Prop:=
 ∀(b:Nat)(m':Mem),Mem.le m m'→Mem.reads m' b 0 [Value.pointer (some (Addr.mk p0b p0o none))]→∃(m'':Mem),Mem.le m m''∧Mem.le m'' m'∧R (Value.func (Fn.func 98) (Array.mk []) (Array.mk [Value.pointer
 (some (Addr.mk b 0 none))])) m'' []
theorem ZdR(p0b p0o:Nat)(m:Mem)(R:RT)(h:Zb7 p0b p0o m R):CX Try.prog 82 #[.pointer (some ⟨p0b,p0o,none⟩)] m [] R:=
 Zad (E:=Zeq) ZaA mix Try.func82 [.v (.pointer (some ⟨p0b,p0o,none⟩))] [] (by kernel_rfl) (Eq.mp (by kernel_rfl) h)
noncomputable def Zo9:Env:={ EB with
 frzNew:=[2] }
def Zjy(aF aB aH aI p1:Int)(m:Mem)(R:RT):Prop:=
 ∀(b:Nat)(m':Mem),Mem.le m m'→Mem.reads m' b 0 [int u64 aF,int u64 aB,int u64 aH,int u64 aI]→(0:Int)≤(6:Int)∧Zaf (Int.fdiv p1 ((2:Int) ^ 6)) 4∧Eng.ZrO [int u64 aF,int u64 aB,
 int u64 aH,int u64 aI] (0+Int.toNat (Int.fdiv p1 ((2:Int) ^ 6))*1) fun(v:Value)=>chk (Zal u64 v&&true) ((0:Int)≤IntKind.wrap u8 (↑(BitVec.toNat (BitVec.ofInt 8 p1&&&BitVec.ofInt 8 (63:Int)))
 : Int)∧∃(m'':Mem),Mem.le m m''∧Mem.le m'' m'∧R (Value.bool (IntKind.wrap u64 (↑(BitVec.toNat (BitVec.ofInt 64 (Int.fdiv (RowKit.intOf v) ((2:Int) ^ min (Int.toNat (IntKind.wrap u8 (↑(BitVec.toNat
 (BitVec.ofInt 8 p1&&&BitVec.ofInt 8 (63:Int))):Int))) 64))&&&BitVec.ofInt 64 (1:Int))):Int) == (1:Int))) m'' [])
theorem Zn7(aF aB aH aI p1:Int)(m:Mem)(R:RT)(h:Zjy aF aB aH aI p1 m R):CX Try.prog 119 #[.agg #[.int .u64 aF,.int .u64 aB,.int .u64 aH,.int .u64 aI],.int .u8 p1] m [] R:=
 Zad (E:=Zo9) ZaA mix Try.func119 [.v (.agg #[.int .u64 aF,.int .u64 aB,.int .u64 aH,.int .u64 aI]),.v (.int .u8 p1)] [] (by kernel_rfl) (Eq.mp (by kernel_rfl) h)
noncomputable def Zer:Env:={ EB with
 frzNew:=[1] }
def Zb8(aU:Option Addr)(aT aV:Nat)(aB:Bool)(m:Mem)(R:RT):Prop:=
 ∀(b:Nat)(m':Mem),Mem.le m m'→Mem.reads m' b 0 [slice aU aT aV,Value.bool aB]→∀(b_1:Nat),∃(m'':Mem),Mem.le m m''∧Mem.le m'' m'∧R (agg (Array.mk [Value.func (Fn.func 99) (Array.mk [])
 (Array.mk []),Value.func (Fn.func 100) (Array.mk []) (Array.mk []),Value.func (Fn.func 101) (Array.mk [agg (Array.mk [slice aU aT aV,Value.bool aB])]) (Array.mk []),Value.func (Fn.func 102) (Array.mk [])
 (Array.mk [Value.pointer (some (Addr.mk b 0 none))]),Value.func (Fn.func 103) (Array.mk []) (Array.mk [Value.pointer (some (Addr.mk b 0 none))]),Value.func (Fn.func 105) (Array.mk [agg (Array.mk [slice aU aT
 aV,Value.bool aB])]) (Array.mk []),Value.func (Fn.func 106) (Array.mk []) (Array.mk [Value.pointer (some (Addr.mk b 0 none))])])) m'' []
set_option maxHeartbeats 4000000 in
theorem ZdS(aU:Option Addr)(aT aV:Nat)(aB:Bool)(m:Mem)(R:RT)(h:Zb8 aU aT aV aB m R):CX Try.prog 84 #[.agg #[.slice aU aT aV,.bool aB]] m [] R:=
 Zad (E:=Zer) ZaA mix Try.func84 [.v (.agg #[.slice aU aT aV,.bool aB])] [] (by kernel_rfl) (Eq.mp (by kernel_rfl) h)
noncomputable def Zdr:Env:={ EB with
 frzNew:=[2,3] }
def ZbI(aF aB aH aI aJ aE aG:Int)(aC:Option Addr)(aA aD:Nat)(aZ aN aO aP aQ aR aS cD cE:Int)(m:Mem)(R:RT):Prop:=
 ∀(b:Nat)(m':Mem),Mem.le m m'→Mem.reads m' b 0 [int u8 aF,int u64 aB,int u64 aH,int u64 aI,int u64 aJ,int i64 aE,int i64 aG,slice aC aA aD]→∀(b:Nat)(m'_1:Mem),Mem.le m'
 m'_1→Mem.reads m'_1 b 0 [int u64 aZ,int u64 aN,int u64 aO,int u64 aP,int u64 aQ,int u64 aR,int u64 aS,int u64 cD,int u64 cE]→∀(b:Nat),∃(m'':Mem),Mem.le m m''∧Mem.le m'' m'_1∧R
 (agg (Array.mk (List.replicate 9 (int u64 0)))) m'' []
theorem ZcO(aF aB aH aI aJ aE aG:Int)(aC:Option Addr)(aA aD:Nat)(aZ aN aO aP aQ aR aS cD cE:Int)(m:Mem)(R:RT)(h:ZbI aF aB aH aI aJ aE aG aC aA aD aZ aN aO aP aQ aR aS cD cE m R):CX Try.prog 99 #[.agg #[.int .u8 aF,.int .u64 aB,.int .u64 aH,.int .u64 aI,.int .u64 aJ,.int .i64 aE,.int .i64 aG,.slice aC aA aD],.agg #[.int .u64 aZ,.int .u64 aN,.int .u64 aO,.int .u64 aP,.int .u64 aQ,.int .u64 aR,.int .u64 aS,.int .u64 cD,.int .u64 cE]] m [] R:=
 Zad (E:=Zdr) ZaA mix Try.func99 [.v (.agg #[.int .u8 aF,.int .u64 aB,.int .u64 aH,.int .u64 aI,.int .u64 aJ,.int .i64 aE,.int .i64 aG,.slice aC aA aD]),.v (.agg #[.int .u64 aZ,.int .u64 aN,.int .u64 aO,.int .u64 aP,.int .u64 aQ,.int .u64 aR,.int .u64 aS,.int .u64 cD,.int .u64 cE])] [] (by kernel_rfl) (Eq.mp (by kernel_rfl) h)
noncomputable def Zds:Env:={ EB with
 frzNew:=[2,3] }
def ZbJ(aF aB aH aI aJ aE aG:Int)(aC:Option Addr)(aA aD:Nat)(aZ aN aO aP aQ aR aS cD cE:Int)(m:Mem)(R:RT):Prop:=
 ∀(b:Nat)(m':Mem),Mem.le m m'→Mem.reads m' b 0 [int u8 aF,int u64 aB,int u64 aH,int u64 aI,int u64 aJ,int i64 aE,int i64 aG,slice aC aA aD]→∀(b:Nat)(m'_1:Mem),Mem.le m'
 m'_1→Mem.reads m'_1 b 0 [int u64 aZ,int u64 aN,int u64 aO,int u64 aP,int u64 aQ,int u64 aR,int u64 aS,int u64 cD,int u64 cE]→∀(b:Nat),∃(m'':Mem),Mem.le m m''∧Mem.le m'' m'_1∧R
 (agg (Array.mk [int u64 aZ,int u64 aN,int u64 aO,int u64 aP,int u64 aQ,int u64 aR,int u64 aS,int u64 cD,int u64 cE])) m'' []
theorem ZcP(aF aB aH aI aJ aE aG:Int)(aC:Option Addr)(aA aD:Nat)(aZ aN aO aP aQ aR aS cD cE:Int)(m:Mem)(R:RT)(h:ZbJ aF aB aH aI aJ aE aG aC aA aD aZ aN aO aP aQ aR aS cD cE m R):CX Try.prog 100 #[.agg #[.int .u8 aF,.int .u64 aB,.int .u64 aH,.int .u64 aI,.int .u64 aJ,.int .i64 aE,.int .i64 aG,.slice aC aA aD],.agg #[.int .u64 aZ,.int .u64 aN,.int .u64 aO,.int .u64 aP,.int .u64 aQ,.int .u64 aR,.int .u64 aS,.int .u64 cD,.int .u64 cE]] m [] R:=
 Zad (E:=Zds) ZaA mix Try.func100 [.v (.agg #[.int .u8 aF,.int .u64 aB,.int .u64 aH,.int .u64 aI,.int .u64 aJ,.int .i64 aE,.int .i64 aG,.slice aC aA aD]),.v (.agg #[.int .u64 aZ,.int .u64 aN,.int .u64 aO,.int .u64 aP,.int .u64 aQ,.int .u64 aR,.int .u64 aS,.int .u64 cD,.int .u64 cE])] [] (by kernel_rfl) (Eq.mp (by kernel_rfl) h)
noncomputable def Zes:Env:={ EB with
 loops:=(fun i=>bif Nat.beq i 3 then⟨[(15,.int .i64)],[7],[],false⟩ else⟨[],[],[],false⟩)
 joins:=(fun i=>bif Nat.beq i 8 then some [(34,.bool)]else none)
 dr:=(fun i=>bif Nat.beq i 9 then[⟨0,[7],[],none,[],[]⟩,⟨1,[],[],none,[],[]⟩,⟨2,[],[],none,[1],[]⟩,⟨3,[],[],none,[0,1,2],[2]⟩,⟨4,[7],[7],none,[0,1,2,3],[]⟩]else[])
 frzNew:=[3,4,5] }
def Zb9(aU:Option Addr)(aT aV:Nat)(aB:Bool)(aZ aN aO aP aQ aR aS:Int)(aK:Option Addr)(aL aM:Nat)(bC bD bE bF bG bH bI bJ bK:Int)(m:Mem)(R:RT):Prop:=
 ∀(b:Nat)(m':Mem),Mem.le m m'→Mem.reads m' b 0 [slice aU aT aV,Value.bool aB]→∀(ac:Nat)(a4:Mem),Mem.le m' a4→Mem.reads a4 ac 0 [int u8 aZ,int u64 aN,int u64 aO,int u64 aP,int
 u64 aQ,int i64 aR,int i64 aS,slice aK aL aM]→∀(aa:Nat)(m':Mem),Mem.le a4 m'→Mem.reads m' aa 0 [int u64 bC,int u64 bD,int u64 bE,int u64 bF,int u64 bG,int u64 bH,int u64
 bI,int u64 bJ,int u64 bK]→∀(ad ae:Nat),∃(I:IT),(∃(n:Nat),I [int i64 0] [List.replicate 9 (int u64 0)] [] m' n)∧∀(n:Int)(cs:List Value)(ab:Mem)(aq:Nat),Mem.le m' ab→I [int i64 n]
 [cs] [] ab aq→br (decide (n < (↑aT:Int))) (∃(a5:Nat),∃(o:Nat),aU=some (Addr.mk a5 o none)∧Zaf n aT∧∃(v:Value),ab a5 (o+Int.toNat n*1)=some v∧br aB (∃(ag:Bool),(∃(R:
 RT),True∧CX Try.prog 55 (Array.mk [Value.pointer (some (Addr.mk aa 0 none)),int i64 (IntKind.wrap i64 (n+(1:Int)))]) ab [] R∧Zax Shape.bool R∧∀(ar:Bool)(m':Mem),Mem.le ab m'→R (Value.bool ar) m' []
 → br ar (∃(R:RT),True∧CX Try.prog 119 (Array.mk [agg (Array.mk [int u64 aN,int u64 aO,int u64 aP,int u64 aQ]),v]) m' [] R∧Zax Shape.bool R∧∀(au:Bool)(af:Mem),Mem.le m' af→R (Value.bool
 au) af []→[some (Box.mk ae cs 95 9 false true),some (Box.mk ad (List.replicate 9 (int u64 0)) 95 9 false true),some (Box.mk aa [int u64 bC,int u64 bD,int u64 bE,int u64 bF,int u64 bG,int u64 bH,int
 u64 bI,int u64 bJ,int u64 bK] 95 9 true true),some (Box.mk ac [int u8 aZ,int u64 aN,int u64 aO,int u64 aP,int u64 aQ,int i64 aR,int i64 aS,slice aK aL aM] 29 8 true true),some
 (Box.mk b [slice aU aT aV,Value.bool aB] 97 2 true true)]=[some (Box.mk ae cs 95 9 false true),some (Box.mk ad (List.replicate 9 (int u64 0)) 95 9 false true),some (Box.mk aa [int u64 bC,int u64 bD,
 int u64 bE,int u64 bF,int u64 bG,int u64 bH,int u64 bI,int u64 bJ,int u64 bK] 95 9 true true),some (Box.mk ac [int u8 aZ,int u64 aN,int u64 aO,int u64 aP,int u64 aQ,int i64 aR,int
 i64 aS,slice aK aL aM] 29 8 true true),some (Box.mk b [slice aU aT aV,Value.bool aB] 97 2 true true)]∧[Value.bool au]=[Value.bool ag]) ([some (Box.mk ae cs 95 9 false true),some (Box.mk ad
 (List.replicate 9 (int u64 0)) 95 9 false true),some (Box.mk aa [int u64 bC,int u64 bD,int u64 bE,int u64 bF,int u64 bG,int u64 bH,int u64 bI,int u64 bJ,int u64 bK] 95 9 true true),some
 (Box.mk ac [int u8 aZ,int u64 aN,int u64 aO,int u64 aP,int u64 aQ,int i64 aR,int i64 aS,slice aK aL aM] 29 8 true true),some (Box.mk b [slice aU aT aV,Value.bool aB] 97 2 true
 true)]=[some (Box.mk ae cs 95 9 false true),some (Box.mk ad (List.replicate 9 (int u64 0)) 95 9 false true),some (Box.mk aa [int u64 bC,int u64 bD,int u64 bE,int u64 bF,int u64 bG,int u64 bH,int
 u64 bI,int u64 bJ,int u64 bK] 95 9 true true),some (Box.mk ac [int u8 aZ,int u64 aN,int u64 aO,int u64 aP,int u64 aQ,int i64 aR,int i64 aS,slice aK aL aM] 29 8 true true),some
 (Box.mk b [slice aU aT aV,Value.bool aB] 97 2 true true)]∧[Value.bool false]=[Value.bool ag]))∧br ag (∃(f:Fx),∃(R:RT),R=f 2 [int i64 n] ab∧CX Try.prog 54 (Array.mk [int i64 n]) ab [] R∧
 Zax (Shape.agg [Shape.int u64,Shape.int u64,Shape.int u64,Shape.int u64,Shape.int u64,Shape.int u64,Shape.int u64,Shape.int u64,Shape.int u64]) R∧∀(ah ai aj ak al am an ao ap:Int)(m':Mem),Mem.le ab m'
 → R (agg (Array.mk [int u64 ah,int u64 ai,int u64 aj,int u64 ak,int u64 al,int u64 am,int u64 an,int u64 ao,int u64 ap])) m' []→∃(R:RT),R=f 3 [agg (Array.mk cs),agg (Array.mk [int u64 ah,int u64 ai,
 int u64 aj,int u64 ak,int u64 al,int u64 am,int u64 an,int u64 ao,int u64 ap])] m'∧CX Try.prog 104 (Array.mk [agg (Array.mk cs),agg (Array.mk [int u64 ah,int u64 ai,int u64 aj,int u64 ak,int u64 al,int u64
 am,int u64 an,int u64 ao,int u64 ap])]) m' [] R∧Zax (Shape.agg [Shape.int u64,Shape.int u64,Shape.int u64,Shape.int u64,Shape.int u64,Shape.int u64,Shape.int u64,Shape.int u64,Shape.int u64]) R∧∀(av aw
 ax ay az a0 a1 a2 a3:Int) (af:Mem),Mem.le m' af→R (agg (Array.mk [int u64 av,int u64 aw,int u64 ax,int u64 ay,int u64 az,int u64 a0,int u64 a1,int u64 a2,int u64 a3])) af []→∀(M:Mem),Mem.le ab M→
 Mem.le m' M→Mem.le af M→[some (Box.mk ae [] 95 9 false true),some (Box.mk ad (List.replicate 9 (int u64 0)) 95 9 false true),some (Box.mk aa [int u64 bC,int u64 bD,int u64 bE,int u64 bF,int u64 bG,
 int u64 bH,int u64 bI,int u64 bJ,int u64 bK] 95 9 true true),some (Box.mk ac [int u8 aZ,int u64 aN,int u64 aO,int u64 aP,int u64 aQ,int i64 aR,int i64 aS,slice aK aL aM] 29 8
 true true),some (Box.mk b [slice aU aT aV,Value.bool aB] 97 2 true true)]=[some (Box.mk ae [] 95 9 false true),some (Box.mk ad (List.replicate 9 (int u64 0)) 95 9 false true),some (Box.mk aa [int u64
 bC,int u64 bD,int u64 bE,int u64 bF,int u64 bG,int u64 bH,int u64 bI,int u64 bJ,int u64 bK] 95 9 true true),some (Box.mk ac [int u8 aZ,int u64 aN,int u64 aO,int u64 aP,int u64
 aQ,int i64 aR,int i64 aS,slice aK aL aM] 29 8 true true),some (Box.mk b [slice aU aT aV,Value.bool aB] 97 2 true true)]∧∃(n':Nat),n' < aq∧I [int i64 (IntKind.wrap i64 (n+(1:
 Int)))] [[int u64 av,int u64 aw,int u64 ax,int u64 ay,int u64 az,int u64 a0,int u64 a1,int u64 a2,int u64 a3]] [] M n') ([some (Box.mk ae [] 95 9 false true),some (Box.mk ad (List.replicate 9 (int u64 0)) 95 9
 false true),some (Box.mk aa [int u64 bC,int u64 bD,int u64 bE,int u64 bF,int u64 bG,int u64 bH,int u64 bI,int u64 bJ,int u64 bK] 95 9 true true),some (Box.mk ac [int u8 aZ,int u64 aN,
 int u64 aO,int u64 aP,int u64 aQ,int i64 aR,int i64 aS,slice aK aL aM] 29 8 true true),some (Box.mk b [slice aU aT aV,Value.bool aB] 97 2 true true)]=[some (Box.mk ae [] 95 9 false
 true),some (Box.mk ad (List.replicate 9 (int u64 0)) 95 9 false true),some (Box.mk aa [int u64 bC,int u64 bD,int u64 bE,int u64 bF,int u64 bG,int u64 bH,int u64 bI,int u64 bJ,int u64 bK] 95 9
 true true),some (Box.mk ac [int u8 aZ,int u64 aN,int u64 aO,int u64 aP,int u64 aQ,int i64 aR,int i64 aS,slice aK aL aM] 29 8 true true),some (Box.mk b [slice aU aT aV,Value.bool
 aB] 97 2 true true)]∧∃(n':Nat),n' < aq∧I [int i64 (IntKind.wrap i64 (n+(1:Int)))] [cs] [] ab n')) (∃(ag:Bool),(∃(R:RT),True∧CX Try.prog 55 (Array.mk [Value.pointer (some (Addr.mk aa 0 none)),int
 i64 n]) ab [] R∧Zax Shape.bool R∧∀(ar:Bool)(m':Mem),Mem.le ab m'→R (Value.bool ar) m' []→br ar (∃(R:RT),True∧CX Try.prog 119 (Array.mk [agg (Array.mk [int u64 aN,int u64 aO,int u64 aP,int
 u64 aQ]),v]) m' [] R∧Zax Shape.bool R∧∀(au:Bool)(af:Mem),Mem.le m' af→R (Value.bool au) af []→[some (Box.mk ae cs 95 9 false true),some (Box.mk ad (List.replicate 9 (int u64 0)) 95 9 false true),
 some (Box.mk aa [int u64 bC,int u64 bD,int u64 bE,int u64 bF,int u64 bG,int u64 bH,int u64 bI,int u64 bJ,int u64 bK] 95 9 true true),some (Box.mk ac [int u8 aZ,int u64 aN,int u64 aO,
 int u64 aP,int u64 aQ,int i64 aR,int i64 aS,slice aK aL aM] 29 8 true true),some (Box.mk b [slice aU aT aV,Value.bool aB] 97 2 true true)]=[some (Box.mk ae cs 95 9 false true),some
 (Box.mk ad (List.replicate 9 (int u64 0)) 95 9 false true),some (Box.mk aa [int u64 bC,int u64 bD,int u64 bE,int u64 bF,int u64 bG,int u64 bH,int u64 bI,int u64 bJ,int u64 bK] 95 9 true true),
 some (Box.mk ac [int u8 aZ,int u64 aN,int u64 aO,int u64 aP,int u64 aQ,int i64 aR,int i64 aS,slice aK aL aM] 29 8 true true),some (Box.mk b [slice aU aT aV,Value.bool aB] 97 2
 true true)]∧[Value.bool au]=[Value.bool ag]) ([some (Box.mk ae cs 95 9 false true),some (Box.mk ad (List.replicate 9 (int u64 0)) 95 9 false true),some (Box.mk aa [int u64 bC,int u64 bD,int u64 bE,int u64
 bF,int u64 bG,int u64 bH,int u64 bI,int u64 bJ,int u64 bK] 95 9 true true),some (Box.mk ac [int u8 aZ,int u64 aN,int u64 aO,int u64 aP,int u64 aQ,int i64 aR,int i64 aS,slice aK
 aL aM] 29 8 true true),some (Box.mk b [slice aU aT aV,Value.bool aB] 97 2 true true)]=[some (Box.mk ae cs 95 9 false true),some (Box.mk ad (List.replicate 9 (int u64 0)) 95 9 false true),some
 (Box.mk aa [int u64 bC,int u64 bD,int u64 bE,int u64 bF,int u64 bG,int u64 bH,int u64 bI,int u64 bJ,int u64 bK] 95 9 true true),some (Box.mk ac [int u8 aZ,int u64 aN,int u64 aO,int
 u64 aP,int u64 aQ,int i64 aR,int i64 aS,slice aK aL aM] 29 8 true true),some (Box.mk b [slice aU aT aV,Value.bool aB] 97 2 true true)]∧[Value.bool false]=[Value.bool ag]))∧br ag
 (∃(f:Fx),∃(R:RT),R=f 2 [int i64 (IntKind.wrap i64 (n+(1:Int)))] ab∧CX Try.prog 54 (Array.mk [int i64 (IntKind.wrap i64 (n+(1:Int)))]) ab [] R∧Zax (Shape.agg [Shape.int u64,Shape.int u64,
 Shape.int u64,Shape.int u64,Shape.int u64,Shape.int u64,Shape.int u64,Shape.int u64,Shape.int u64]) R∧∀(ah ai aj ak al am an ao ap:Int)(m':Mem),Mem.le ab m'→R (agg (Array.mk [int u64 ah,int u64 ai,int
 u64 aj,int u64 ak,int u64 al,int u64 am,int u64 an,int u64 ao,int u64 ap])) m' []→∃(R:RT),R=f 3 [agg (Array.mk cs),agg (Array.mk [int u64 ah,int u64 ai,int u64 aj,int u64 ak,int u64 al,int u64 am,
 int u64 an,int u64 ao,int u64 ap])] m'∧CX Try.prog 104 (Array.mk [agg (Array.mk cs),agg (Array.mk [int u64 ah,int u64 ai,int u64 aj,int u64 ak,int u64 al,int u64 am,int u64 an,int u64 ao,int u64 ap])]) m'
 [] R∧Zax (Shape.agg [Shape.int u64,Shape.int u64,Shape.int u64,Shape.int u64,Shape.int u64,Shape.int u64,Shape.int u64,Shape.int u64,Shape.int u64]) R∧∀(av aw ax ay az a0 a1 a2 a3:Int)(af:Mem),Mem.le
 m' af→R (agg (Array.mk [int u64 av,int u64 aw,int u64 ax,int u64 ay,int u64 az,int u64 a0,int u64 a1,int u64 a2,int u64 a3])) af []→∀(M:Mem),Mem.le ab M→Mem.le m' M→Mem.le af M→[some (Box.mk ae []
 95 9 false true),some (Box.mk ad (List.replicate 9 (int u64 0)) 95 9 false true),some (Box.mk aa [int u64 bC,int u64 bD,int u64 bE,int u64 bF,int u64 bG,int u64 bH,int u64 bI,int u64 bJ,int u64
 bK] 95 9 true true),some (Box.mk ac [int u8 aZ,int u64 aN,int u64 aO,int u64 aP,int u64 aQ,int i64 aR,int i64 aS,slice aK aL aM] 29 8 true true),some (Box.mk b [slice aU aT aV,
 Value.bool aB] 97 2 true true)]=[some (Box.mk ae [] 95 9 false true),some (Box.mk ad (List.replicate 9 (int u64 0)) 95 9 false true),some (Box.mk aa [int u64 bC,int u64 bD,int u64 bE,int u64 bF,int u64
 bG,int u64 bH,int u64 bI,int u64 bJ,int u64 bK] 95 9 true true),some (Box.mk ac [int u8 aZ,int u64 aN,int u64 aO,int u64 aP,int u64 aQ,int i64 aR,int i64 aS,slice aK aL aM]
 29 8 true true),some (Box.mk b [slice aU aT aV,Value.bool aB] 97 2 true true)]∧∃(n':Nat),n' < aq∧I [int i64 (IntKind.wrap i64 (n+(1:Int)))] [[int u64 av,int u64 aw,int u64 ax,int u64 ay,int
 u64 az,int u64 a0,int u64 a1,int u64 a2,int u64 a3]] [] M n') ([some (Box.mk ae [] 95 9 false true),some (Box.mk ad (List.replicate 9 (int u64 0)) 95 9 false true),some (Box.mk aa [int u64 bC,int u64 bD,int
 u64 bE,int u64 bF,int u64 bG,int u64 bH,int u64 bI,int u64 bJ,int u64 bK] 95 9 true true),some (Box.mk ac [int u8 aZ,int u64 aN,int u64 aO,int u64 aP,int u64 aQ,int i64 aR,int i64
 aS,slice aK aL aM] 29 8 true true),some (Box.mk b [slice aU aT aV,Value.bool aB] 97 2 true true)]=[some (Box.mk ae [] 95 9 false true),some (Box.mk ad (List.replicate 9 (int u64 0)) 95 9
 false true),some (Box.mk aa [int u64 bC,int u64 bD,int u64 bE,int u64 bF,int u64 bG,int u64 bH,int u64 bI,int u64 bJ,int u64 bK] 95 9 true true),some (Box.mk ac [int u8 aZ,int u64 aN,
 int u64 aO,int u64 aP,int u64 aQ,int i64 aR,int i64 aS,slice aK aL aM] 29 8 true true),some (Box.mk b [slice aU aT aV,Value.bool aB] 97 2 true true)]∧∃(n':Nat),n' < aq∧I [int
 i64 (IntKind.wrap i64 (n+(1:Int)))] [cs] [] ab n'))) (chk (Nat.beq (List.length cs) 9&&Zcb cs) (∃(m'':Mem),Mem.le m m''∧Mem.le m'' ab∧R (agg (Array.mk cs)) m'' []))
theorem ZdT(aU:Option Addr)(aT aV:Nat)(aB:Bool)(aZ aN aO aP aQ aR aS:Int)(aK:Option Addr)(aL aM:Nat)(bC bD bE bF bG bH bI bJ bK:Int)(m:Mem)(R:RT)(h:Zb9 aU aT aV aB aZ aN aO aP aQ aR aS aK aL aM bC bD bE bF bG bH bI bJ bK m R):CX Try.prog 101 #[.agg #[.slice aU aT aV,.bool aB],.agg #[.int .u8 aZ,.int .u64 aN,.int .u64 aO,.int .u64 aP,.int .u64 aQ,.int .i64 aR,.int .i64 aS,.slice aK aL aM],.agg #[.int .u64 bC,.int .u64 bD,.int .u64 bE,.int .u64 bF,.int .u64 bG,.int .u64 bH,.int .u64 bI,.int .u64 bJ,.int .u64 bK]] m [] R:=
 Zad (E:=Zes) ZaA mix Try.func101 [.v (.agg #[.slice aU aT aV,.bool aB]),.v (.agg #[.int .u8 aZ,.int .u64 aN,.int .u64 aO,.int .u64 aP,.int .u64 aQ,.int .i64 aR,.int .i64 aS,.slice aK aL aM]),.v (.agg #[.int .u64 bC,.int .u64 bD,.int .u64 bE,.int .u64 bF,.int .u64 bG,.int .u64 bH,.int .u64 bI,.int .u64 bJ,.int .u64 bK])] [] (by kernel_rfl) (Eq.mp (by kernel_rfl) h)
noncomputable def Zdt:Env:={ EB with
 loops:=(fun i=>bif Nat.beq i 2 then⟨[(11,.int .i64)],[4],[],false⟩ else⟨[],[],[],false⟩)
 dr:=(fun i=>bif Nat.beq i 7 then[⟨0,[],[],none,[],[]⟩,⟨1,[3],[],none,[],[]⟩,⟨2,[3],[],none,[1],[]⟩,⟨3,[],[],none,[],[]⟩,⟨4,[],[],none,[1,2,3],[]⟩,⟨5,[],[],none,[1,2,3,4],[]⟩,⟨6,[4],[],none,[],[]⟩,⟨7,[],[],none,[0,1,2,3,4,5,6],[]⟩,⟨8,[4],[4],none,[0,1,2,3,4,5,6,7],[]⟩]else[])
 frzNew:=[3] }
def ZbK(aF aB aH aI aJ aE aG:Int)(aC:Option Addr)(aA aD:Nat)(aZ aN aO aP aQ aR aS cD cE:Int)(c0b c0o:Nat)(m:Mem)(R:RT):Prop:=
 ∀(b:Nat)(m':Mem),Mem.le m m'→Mem.reads m' b 0 [int u8 aF,int u64 aB,int u64 aH,int u64 aI,int u64 aJ,int i64 aE,int i64 aG,slice aC aA aD]→∀(aw ax:Nat),∃(I:IT),(∃(n:
 Nat),I [int i64 0] [[int u64 aZ,int u64 aN,int u64 aO,int u64 aP,int u64 aQ,int u64 aR,int u64 aS,int u64 cD,int u64 cE]] [] m' n)∧∀(n:Int)(cs:List Value)(aa:Mem)(ay:Nat),Mem.le
 m' aa→I [int i64 n] [cs] [] aa ay→br (decide (n < (↑aA:Int))) (∃(v:Value),aa c0b (c0o+1)=some v∧chk (ZgA v) (br (Zcl v) (∃(f:Fx),∃(v:Value),∃(ab:Value),Mem.reads aa c0b c0o [v,ab]∧
 ∃(ak:Nat),∃(o:Nat),aC=some (Addr.mk ak o none)∧Zaf (IntKind.wrap i64 (IntKind.wrap i64 ((↑aA:Int) - (1:Int)) - n)) aA∧∃(ac:Value),∃(ad:Value),∃(ae:Value),∃(af:Value),∃(ag
 : Value),∃(ah:Value),∃(ai:Value),∃(aj:Value),Mem.reads aa ak (o+Int.toNat (IntKind.wrap i64 (IntKind.wrap i64 ((↑aA:Int) - (1:Int)) - n))*8) [ac,ad,ae,af,ag,ah,ai,aj]∧∃(R:RT),R=f 7
 [agg (Array.mk [v,ab]),agg (Array.mk [ac,ad,ae,af,ag,ah,ai,aj]),agg (Array.mk cs)] aa∧CX Try.prog 53 (Array.mk [agg (Array.mk [v,ab]),agg (Array.mk [ac,ad,ae,af,ag,ah,ai,aj]),agg (Array.mk cs)]) aa
 [] R∧Zax (Shape.agg [Shape.int u64,Shape.int u64,Shape.int u64,Shape.int u64,Shape.int u64,Shape.int u64,Shape.int u64,Shape.int u64,Shape.int u64]) R∧∀(al am an ao ap aq ar au av:Int)(m':Mem),Mem.le
 aa m'→R (agg (Array.mk [int u64 al,int u64 am,int u64 an,int u64 ao,int u64 ap,int u64 aq,int u64 ar,int u64 au,int u64 av])) m' []→∀(M:Mem),Mem.le aa M→Mem.le m' M→[some (Box.mk ax (List.replicate 9
 (int u64 0)) 95 9 false true),some (Box.mk aw [] 95 9 false true),some (Box.mk b [int u8 aF,int u64 aB,int u64 aH,int u64 aI,int u64 aJ,int i64 aE,int i64 aG,slice aC aA aD] 29 8 true
 true)]=[some (Box.mk ax (List.replicate 9 (int u64 0)) 95 9 false true),some (Box.mk aw [] 95 9 false true),some (Box.mk b [int u8 aF,int u64 aB,int u64 aH,int u64 aI,int u64 aJ,int i64 aE,int i64
 aG,slice aC aA aD] 29 8 true true)]∧∃(n':Nat),n' < ay∧I [int i64 (IntKind.wrap i64 (n+(1:Int)))] [[int u64 al,int u64 am,int u64 an,int u64 ao,int u64 ap,int u64 aq,int u64 ar,int u64 au,
 int u64 av]] [] M n') (∃(f:Fx),∃(v:Value),∃(ab:Value),Mem.reads aa c0b c0o [v,ab]∧∃(ak:Nat),∃(o:Nat),aC=some (Addr.mk ak o none)∧Zaf n aA∧∃(ac:Value),∃(ad:Value),∃(ae:
 Value),∃(af:Value),∃(ag:Value),∃(ah:Value),∃(ai:Value),∃(aj:Value),Mem.reads aa ak (o+Int.toNat n*8) [ac,ad,ae,af,ag,ah,ai,aj]∧∃(R:RT),R=f 7 [agg (Array.mk [v,ab]),agg (Array.mk
 [ac,ad,ae,af,ag,ah,ai,aj]),agg (Array.mk cs)] aa∧CX Try.prog 53 (Array.mk [agg (Array.mk [v,ab]),agg (Array.mk [ac,ad,ae,af,ag,ah,ai,aj]),agg (Array.mk cs)]) aa [] R∧Zax (Shape.agg [Shape.int u64,
 Shape.int u64,Shape.int u64,Shape.int u64,Shape.int u64,Shape.int u64,Shape.int u64,Shape.int u64,Shape.int u64]) R∧∀(al am an ao ap aq ar au av:Int)(m':Mem),Mem.le aa m'→R (agg (Array.mk [int u64 al,
 int u64 am,int u64 an,int u64 ao,int u64 ap,int u64 aq,int u64 ar,int u64 au,int u64 av])) m' []→∀(M:Mem),Mem.le aa M→Mem.le m' M→[some (Box.mk ax (List.replicate 9 (int u64 0)) 95 9 false true),some
 (Box.mk aw [] 95 9 false true),some (Box.mk b [int u8 aF,int u64 aB,int u64 aH,int u64 aI,int u64 aJ,int i64 aE,int i64 aG,slice aC aA aD] 29 8 true true)]=[some (Box.mk ax
 (List.replicate 9 (int u64 0)) 95 9 false true),some (Box.mk aw [] 95 9 false true),some (Box.mk b [int u8 aF,int u64 aB,int u64 aH,int u64 aI,int u64 aJ,int i64 aE,int i64 aG,slice aC aA
 aD] 29 8 true true)]∧∃(n':Nat),n' < ay∧I [int i64 (IntKind.wrap i64 (n+(1:Int)))] [[int u64 al,int u64 am,int u64 an,int u64 ao,int u64 ap,int u64 aq,int u64 ar,int u64 au,int u64 av]] [] M n')))
 (chk (Nat.beq (List.length cs) 9&&Zcb cs) (∃(m'':Mem),Mem.le m m''∧Mem.le m'' aa∧R (agg (Array.mk cs)) m'' []))
theorem ZcQ(aF aB aH aI aJ aE aG:Int)(aC:Option Addr)(aA aD:Nat)(aZ aN aO aP aQ aR aS cD cE:Int)(c0b c0o:Nat)(m:Mem)(R:RT)(h:ZbK aF aB aH aI aJ aE aG aC aA aD aZ aN aO aP aQ aR aS cD cE c0b c0o m R):CX Try.prog 102 #[.agg #[.int .u8 aF,.int .u64 aB,.int .u64 aH,.int .u64 aI,.int .u64 aJ,.int .i64 aE,.int .i64 aG,.slice aC aA aD],.agg #[.int .u64 aZ,.int .u64 aN,.int .u64 aO,.int .u64 aP,.int .u64 aQ,.int .u64 aR,.int .u64 aS,.int .u64 cD,.int .u64 cE],.pointer (some ⟨c0b,c0o,none⟩)] m [] R:=
 Zad (E:=Zdt) ZaA mix Try.func102 [.v (.agg #[.int .u8 aF,.int .u64 aB,.int .u64 aH,.int .u64 aI,.int .u64 aJ,.int .i64 aE,.int .i64 aG,.slice aC aA aD]),.v (.agg #[.int .u64 aZ,.int .u64 aN,.int .u64 aO,.int .u64 aP,.int .u64 aQ,.int .u64 aR,.int .u64 aS,.int .u64 cD,.int .u64 cE]),.v (.pointer (some ⟨c0b,c0o,none⟩))] [] (by kernel_rfl) (Eq.mp (by kernel_rfl) h)
noncomputable def Zdu:Env:={ EB with
 loops:=(fun i=>bif Nat.beq i 3 then⟨[(12,.int .i64)],[6],[],false⟩ else⟨[],[],[],false⟩)
 dr:=(fun i=>bif Nat.beq i 5 then[⟨0,[6],[],none,[],[]⟩,⟨1,[],[],none,[],[]⟩,⟨2,[8],[],none,[],[]⟩,⟨3,[4],[],none,[],[]⟩,⟨4,[],[],none,[1,2,3],[]⟩,⟨5,[],[],none,[0,1,2,3,4],[4]⟩,⟨6,[6],[6],none,[0,1,2,3,4,5],[]⟩]else[])
 frzNew:=[3,4] }
def ZbL(aF aB aH aI aJ aE aG:Int)(aC:Option Addr)(aA aD:Nat)(aZ aN aO aP aQ aR aS cD cE:Int)(c0b c0o:Nat)(m:Mem)(R:RT):Prop:=
 ∀(b:Nat)(m':Mem),Mem.le m m'→Mem.reads m' b 0 [int u8 aF,int u64 aB,int u64 aH,int u64 aI,int u64 aJ,int i64 aE,int i64 aG,slice aC aA aD]→∀(aj:Nat)(ab:Mem),Mem.le m' ab→
 Mem.reads ab aj 0 [int u64 aZ,int u64 aN,int u64 aO,int u64 aP,int u64 aQ,int u64 aR,int u64 aS,int u64 cD,int u64 cE]→∀(ay az:Nat),∃(I:IT),(∃(n:Nat),I [int i64 0] [List.replicate
 9 (int u64 0)] [] ab n)∧∀(n:Int)(cs:List Value)(m':Mem)(a0:Nat),Mem.le ab m'→I [int i64 n] [cs] [] m' a0→br (decide (n < (↑aA:Int))) (∃(a1:Nat),∃(o:Nat),aC=some (Addr.mk a1 o none)∧
 Zaf n aA∧∃(v:Value),∃(ac:Value),∃(ad:Value),∃(ae:Value),∃(af:Value),∃(ag:Value),∃(ah:Value),∃(ai:Value),Mem.reads m' a1 (o+Int.toNat n*8) [v,ac,ad,ae,af,ag,ah,ai]∧∀
 (bb:Nat),chk (Value.oneCell' v&&(Value.oneCell' ac&&(Value.oneCell' ad&&(Value.oneCell' ae&&(Value.oneCell' af&&(Value.oneCell' ag&&(Value.oneCell' ah&&(Value.oneCell' ai&&true)))))))) (∃(f:Fx),∃
 (ak:Value),∃(al:Value),Mem.reads m' c0b c0o [ak,al]∧∃(R:RT),R=f 4 [agg (Array.mk [ak,al]),agg (Array.mk [v,ac,ad,ae,af,ag,ah,ai]),agg (Array.mk [int u64 aZ,int u64 aN,int u64 aO,int
 u64 aP,int u64 aQ,int u64 aR,int u64 aS,int u64 cD,int u64 cE])] m'∧CX Try.prog 53 (Array.mk [agg (Array.mk [ak,al]),agg (Array.mk [v,ac,ad,ae,af,ag,ah,ai]),agg (Array.mk [int u64 aZ,int
 u64 aN,int u64 aO,int u64 aP,int u64 aQ,int u64 aR,int u64 aS,int u64 cD,int u64 cE])]) m' [] R∧Zax (Shape.agg [Shape.int u64,Shape.int u64,Shape.int u64,Shape.int u64,Shape.int u64,
 Shape.int u64,Shape.int u64,Shape.int u64,Shape.int u64]) R∧∀(am an ao ap aq ar au av aw:Int)(aa:Mem),Mem.le m' aa→R (agg (Array.mk [int u64 am,int u64 an,int u64 ao,int u64 ap,int u64 aq,int u64 ar,
 int u64 au,int u64 av,int u64 aw])) aa []→∃(R:RT),R=f 5 [agg (Array.mk cs),agg (Array.mk [int u64 am,int u64 an,int u64 ao,int u64 ap,int u64 aq,int u64 ar,int u64 au,int u64 av,int u64 aw])] aa∧CX
 Try.prog 104 (Array.mk [agg (Array.mk cs),agg (Array.mk [int u64 am,int u64 an,int u64 ao,int u64 ap,int u64 aq,int u64 ar,int u64 au,int u64 av,int u64 aw])]) aa [] R∧Zax (Shape.agg [Shape.int u64,
 Shape.int u64,Shape.int u64,Shape.int u64,Shape.int u64,Shape.int u64,Shape.int u64,Shape.int u64,Shape.int u64]) R∧∀(a2 a3 a4 a5 a6 a7 a8 a9 ba:Int)(ax:Mem),Mem.le aa ax→R (agg (Array.mk [int u64 a2,
 int u64 a3,int u64 a4,int u64 a5,int u64 a6,int u64 a7,int u64 a8,int u64 a9,int u64 ba])) ax []→∀(M:Mem),Mem.le m' M→Mem.le aa M→Mem.le ax M→[some (Box.mk az [] 95 9 false true),some (Box.mk ay
 (List.replicate 9 (int u64 0)) 95 9 false true),some (Box.mk aj [int u64 aZ,int u64 aN,int u64 aO,int u64 aP,int u64 aQ,int u64 aR,int u64 aS,int u64 cD,int u64 cE] 95 9 true true),some
 (Box.mk b [int u8 aF,int u64 aB,int u64 aH,int u64 aI,int u64 aJ,int i64 aE,int i64 aG,slice aC aA aD] 29 8 true true)]=[some (Box.mk az [] 95 9 false true),some (Box.mk ay
 (List.replicate 9 (int u64 0)) 95 9 false true),some (Box.mk aj [int u64 aZ,int u64 aN,int u64 aO,int u64 aP,int u64 aQ,int u64 aR,int u64 aS,int u64 cD,int u64 cE] 95 9 true true),some
 (Box.mk b [int u8 aF,int u64 aB,int u64 aH,int u64 aI,int u64 aJ,int i64 aE,int i64 aG,slice aC aA aD] 29 8 true true)]∧∃(n':Nat),n' < a0∧I [int i64 (IntKind.wrap i64 (n+(1:
 Int)))] [[int u64 a2,int u64 a3,int u64 a4,int u64 a5,int u64 a6,int u64 a7,int u64 a8,int u64 a9,int u64 ba]] [] M n')) (chk (Nat.beq (List.length cs) 9&&Zcb cs) (∃(m'':Mem),Mem.le m m''∧Mem.le m'' m'
 ∧ R (agg (Array.mk cs)) m'' []))
theorem ZcR(aF aB aH aI aJ aE aG:Int)(aC:Option Addr)(aA aD:Nat)(aZ aN aO aP aQ aR aS cD cE:Int)(c0b c0o:Nat)(m:Mem)(R:RT)(h:ZbL aF aB aH aI aJ aE aG aC aA aD aZ aN aO aP aQ aR aS cD cE c0b c0o m R):CX Try.prog 103 #[.agg #[.int .u8 aF,.int .u64 aB,.int .u64 aH,.int .u64 aI,.int .u64 aJ,.int .i64 aE,.int .i64 aG,.slice aC aA aD],.agg #[.int .u64 aZ,.int .u64 aN,.int .u64 aO,.int .u64 aP,.int .u64 aQ,.int .u64 aR,.int .u64 aS,.int .u64 cD,.int .u64 cE],.pointer (some ⟨c0b,c0o,none⟩)] m [] R:=
 Zad (E:=Zdu) ZaA mix Try.func103 [.v (.agg #[.int .u8 aF,.int .u64 aB,.int .u64 aH,.int .u64 aI,.int .u64 aJ,.int .i64 aE,.int .i64 aG,.slice aC aA aD]),.v (.agg #[.int .u64 aZ,.int .u64 aN,.int .u64 aO,.int .u64 aP,.int .u64 aQ,.int .u64 aR,.int .u64 aS,.int .u64 cD,.int .u64 cE]),.v (.pointer (some ⟨c0b,c0o,none⟩))] [] (by kernel_rfl) (Eq.mp (by kernel_rfl) h)
noncomputable def ZdU:Env:={ EB with
 loops:=(fun i=>bif Nat.beq i 2 then⟨[(13,.int .i64)],[5],[],false⟩ else bif Nat.beq i 7 then⟨[(9,.int .i64)],[6,7,8],[],false⟩ else⟨[],[],[],false⟩)
 dr:=(fun i=>bif Nat.beq i 3 then[⟨0,[3],[],none,[],[]⟩,⟨1,[4],[],none,[],[]⟩,⟨2,[4],[],none,[1],[]⟩,⟨3,[],[],none,[1,2],[]⟩,⟨4,[],[],none,[1,2,3],[]⟩,⟨5,[5],[],none,[],[]⟩,⟨6,[],[],none,[0,1,2,3,4,5],[]⟩,⟨7,[5],[5],none,[0,1,2,3,4,5,6],[]⟩]else bif Nat.beq i 5 then[⟨0,[5],[],none,[],[]⟩,⟨1,[5],[],none,[],[]⟩,⟨2,[7],[7],none,[],[]⟩,⟨3,[8],[8],none,[],[]⟩,⟨4,[7],[7],none,[0,2,3],[]⟩,⟨5,[8],[8],none,[0,1,2,3,4],[]⟩]else bif Nat.beq i 9 then[⟨0,[3],[],none,[],[]⟩,⟨1,[4],[],none,[],[]⟩,⟨2,[4],[],none,[1],[]⟩,⟨3,[],[],none,[1,2],[]⟩,⟨4,[],[],none,[1,2,3],[]⟩,⟨5,[8],[],none,[],[]⟩,⟨6,[],[],none,[0,1,2,3,4,5],[]⟩,⟨7,[8],[8],none,[0,1,2,3,4,5,6],[]⟩]else[])
 frzNew:=[3,4] }
def ZbY(aU:Option Addr)(aT aV:Nat)(aB:Bool)(aZ aN aO aP aQ aR aS:Int)(aK:Option Addr)(aL aM:Nat)(bC bD bE bF bG bH bI bJ bK:Int)(m:Mem)(R:RT):Prop:=
 ∀(b:Nat)(m':Mem),Mem.le m m'→Mem.reads m' b 0 [slice aU aT aV,Value.bool aB]→∀(au:Nat)(aw:Mem),Mem.le m' aw→Mem.reads aw au 0 [int u8 aZ,int u64 aN,int u64 aO,int u64 aP,int
 u64 aQ,int i64 aR,int i64 aS,slice aK aL aM]→∀(ax ay:Nat),∃(I:IT),(∃(n:Nat),I [int i64 0] [[int u64 bC,int u64 bD,int u64 bE,int u64 bF,int u64 bG,int u64 bH,int u64
 bI,int u64 bJ,int u64 bK]] [] aw n)∧∀(n:Int)(cs:List Value)(m':Mem)(bb:Nat),Mem.le aw m'→I [int i64 n] [cs] [] m' bb→br (decide (n < aR)) (∃(f:Fx),∃(ac:Nat),∃(o:Nat),aK=some
 (Addr.mk ac o none)∧Zaf (0:Int) aL∧∃(v:Value),∃(ad:Value),∃(ae:Value),∃(af:Value),∃(ag:Value),∃(ah:Value),∃(ai:Value),∃(aj:Value),Mem.reads m' ac (o+0) [v,ad,ae,af,ag,
 ah,ai,aj]∧∃(R:RT),R=f 6 [agg (Array.mk [slice aU aT aV,Value.bool aB]),agg (Array.mk [v,ad,ae,af,ag,ah,ai,aj]),agg (Array.mk cs)] m'∧CX Try.prog 53 (Array.mk [agg (Array.mk [slice aU
 aT aV,Value.bool aB]),agg (Array.mk [v,ad,ae,af,ag,ah,ai,aj]),agg (Array.mk cs)]) m' [] R∧Zax (Shape.agg [Shape.int u64,Shape.int u64,Shape.int u64,Shape.int u64,Shape.int u64,Shape.int u64,
 Shape.int u64,Shape.int u64,Shape.int u64]) R∧∀(av ak al am an ao ap aq ar:Int)(aa:Mem),Mem.le m' aa→R (agg (Array.mk [int u64 av,int u64 ak,int u64 al,int u64 am,int u64 an,int u64 ao,int u64 ap,int
 u64 aq,int u64 ar])) aa []→∀(M:Mem),Mem.le m' M→Mem.le aa M→[some (Box.mk ay (List.replicate 9 (int u64 0)) 95 9 false true),some (Box.mk ax [] 95 9 false true),some (Box.mk au [int u8 aZ,int u64 aN,
 int u64 aO,int u64 aP,int u64 aQ,int i64 aR,int i64 aS,slice aK aL aM] 29 8 true true),some (Box.mk b [slice aU aT aV,Value.bool aB] 97 2 true true)]=[some (Box.mk ay
 (List.replicate 9 (int u64 0)) 95 9 false true),some (Box.mk ax [] 95 9 false true),some (Box.mk au [int u8 aZ,int u64 aN,int u64 aO,int u64 aP,int u64 aQ,int i64 aR,int i64 aS,slice aK aL
 aM] 29 8 true true),some (Box.mk b [slice aU aT aV,Value.bool aB] 97 2 true true)]∧∃(n':Nat),n' < bb∧I [int i64 (IntKind.wrap i64 (n+(1:Int)))] [[int u64 av,int u64 ak,int u64 al,int u64
 am,int u64 an,int u64 ao,int u64 ap,int u64 aq,int u64 ar]] [] M n') (∀(ac az:Nat),chk (Nat.beq (List.length cs) 9&&Zcb cs) (chk (Nat.beq (List.length cs) 9&&Zcb cs) (∃(I:IT),(∃(n:Nat),I [int
 i64 aR] [List.replicate 9 (int u64 0),cs,cs] [] m' n)∧∀(n:Int)(bc ab a0:List Value)(aa:Mem)(av:Nat),Mem.le m' aa→I [int i64 n] [bc,ab,a0] [] aa av→br (!n == aS) (∃(f:Fx),∃(bd:Nat),∃(o
 : Nat),aK=some (Addr.mk bd o none)∧Zaf (0:Int) aL∧∃(v:Value),∃(ad:Value),∃(ae:Value),∃(af:Value),∃(ag:Value),∃(ah:Value),∃(ai:Value),∃(aj:Value),Mem.reads aa bd (o+0)
 [v,ad,ae,af,ag,ah,ai,aj]∧∃(R_1:RT),R_1=f 6 [agg (Array.mk [slice aU aT aV,Value.bool aB]),agg (Array.mk [v,ad,ae,af,ag,ah,ai,aj]),agg (Array.mk a0)] aa∧CX Try.prog 53 (Array.mk [agg
 (Array.mk [slice aU aT aV,Value.bool aB]),agg (Array.mk [v,ad,ae,af,ag,ah,ai,aj]),agg (Array.mk a0)]) aa [] R_1∧Zax (Shape.agg [Shape.int u64,Shape.int u64,Shape.int u64,Shape.int u64,
 Shape.int u64,Shape.int u64,Shape.int u64,Shape.int u64,Shape.int u64]) R_1∧∀(ak al am an ao ap aq ar a1:Int)(m':Mem),Mem.le aa m'→R_1 (agg (Array.mk [int u64 ak,int u64 al,int u64 am,int u64 an,int
 u64 ao,int u64 ap,int u64 aq,int u64 ar,int u64 a1])) m' []→∀(M:Mem),Mem.le aa M→Mem.le m' M→∃(R_2:RT),True∧CX Try.prog 104 (Array.mk [agg (Array.mk ab),agg (Array.mk [int u64 ak,int u64 al,int
 u64 am,int u64 an,int u64 ao,int u64 ap,int u64 aq,int u64 ar,int u64 a1])]) M [] R_2∧Zax (Shape.agg [Shape.int u64,Shape.int u64,Shape.int u64,Shape.int u64,Shape.int u64,Shape.int u64,Shape.int u64,
 Shape.int u64,Shape.int u64]) R_2∧∀(a2 a3 a4 a5 a6 a7 a8 a9 ba:Int)(m':Mem),Mem.le M m'→R_2 (agg (Array.mk [int u64 a2,int u64 a3,int u64 a4,int u64 a5,int u64 a6,int u64 a7,int u64 a8,int u64 a9,int
 u64 ba])) m' []→∀(bf:Nat),∃(be:Bool),EqIs Try.prog 95 (agg (Array.mk [int u64 a2,int u64 a3,int u64 a4,int u64 a5,int u64 a6,int u64 a7,int u64 a8,int u64 a9,int u64 ba])) (agg (Array.mk ab)) be∧br
 be (chk (Nat.beq (List.length ab) 9&&Zcb ab) (∃(m'':Mem),Mem.le m m''∧Mem.le m'' m'∧R (agg (Array.mk ab)) m'' [])) ([some (Box.mk ac [] 95 9 false true),some (Box.mk az [] 95 9 false true),some (Box.mk ac
 [] 95 9 false true),some (Box.mk az [] 95 9 false true),some (Box.mk ay [] 95 9 false true),some (Box.mk ax cs 95 9 false true),some (Box.mk au [int u8 aZ,int u64 aN,int u64 aO,int u64 aP,int u64 aQ,
 int i64 aR,int i64 aS,slice aK aL aM] 29 8 true true),some (Box.mk b [slice aU aT aV,Value.bool aB] 97 2 true true)]=[some (Box.mk ac [] 95 9 false true),some (Box.mk az [] 95 9 false
 true),some (Box.mk ac [] 95 9 false true),some (Box.mk az [] 95 9 false true),some (Box.mk ay [] 95 9 false true),some (Box.mk ax cs 95 9 false true),some (Box.mk au [int u8 aZ,int u64 aN,int u64 aO,int
 u64 aP,int u64 aQ,int i64 aR,int i64 aS,slice aK aL aM] 29 8 true true),some (Box.mk b [slice aU aT aV,Value.bool aB] 97 2 true true)]∧∃(n':Nat),n' < av∧I [int i64 (IntKind.wrap
 i64 (n+(1:Int)))] [bc,[int u64 a2,int u64 a3,int u64 a4,int u64 a5,int u64 a6,int u64 a7,int u64 a8,int u64 a9,int u64 ba],[int u64 ak,int u64 al,int u64 am,int u64 an,int u64 ao,int u64 ap,int u64
 aq,int u64 ar,int u64 a1]] [] m' n')) (chk (Nat.beq (List.length ab) 9&&Zcb ab) (∃(m'':Mem),Mem.le m m''∧Mem.le m'' aa∧R (agg (Array.mk ab)) m'' [])))))
theorem Zdv(aU:Option Addr)(aT aV:Nat)(aB:Bool)(aZ aN aO aP aQ aR aS:Int)(aK:Option Addr)(aL aM:Nat)(bC bD bE bF bG bH bI bJ bK:Int)(m:Mem)(R:RT)(h:ZbY aU aT aV aB aZ aN aO aP aQ aR aS aK aL aM bC bD bE bF bG bH bI bJ bK m R):CX Try.prog 105 #[.agg #[.slice aU aT aV,.bool aB],.agg #[.int .u8 aZ,.int .u64 aN,.int .u64 aO,.int .u64 aP,.int .u64 aQ,.int .i64 aR,.int .i64 aS,.slice aK aL aM],.agg #[.int .u64 bC,.int .u64 bD,.int .u64 bE,.int .u64 bF,.int .u64 bG,.int .u64 bH,.int .u64 bI,.int .u64 bJ,.int .u64 bK]] m [] R:=
 Zad (E:=ZdU) ZaA mix Try.func105 [.v (.agg #[.slice aU aT aV,.bool aB]),.v (.agg #[.int .u8 aZ,.int .u64 aN,.int .u64 aO,.int .u64 aP,.int .u64 aQ,.int .i64 aR,.int .i64 aS,.slice aK aL aM]),.v (.agg #[.int .u64 bC,.int .u64 bD,.int .u64 bE,.int .u64 bF,.int .u64 bG,.int .u64 bH,.int .u64 bI,.int .u64 bJ,.int .u64 bK])] [] (by kernel_rfl) (Eq.mp (by kernel_rfl) h)
noncomputable def Zdw:Env:={ EB with
 dr:=(fun i=>bif Nat.beq i 1 then[⟨0,[],[],none,[],[]⟩,⟨1,[3],[],none,[],[]⟩,⟨2,[3],[],none,[1],[]⟩,⟨3,[],[],none,[1,2],[]⟩,⟨4,[],[],none,[1,2,3],[]⟩,⟨5,[4],[],none,[],[]⟩,⟨6,[],[],none,[0,1,2,3,4,5],[]⟩,⟨7,[5],[5],none,[0,1,2,3,4,5,6],[]⟩]else[])
 frzNew:=[3,4] }
def ZbM(aF aB aH aI aJ aE aG:Int)(aC:Option Addr)(aA aD:Nat)(aZ aN aO aP aQ aR aS cD cE:Int)(c0b c0o:Nat)(m:Mem)(R:RT):Prop:=
 ∀(b:Nat)(m':Mem),Mem.le m m'→Mem.reads m' b 0 [int u8 aF,int u64 aB,int u64 aH,int u64 aI,int u64 aJ,int i64 aE,int i64 aG,slice aC aA aD]→∀(b:Nat)(m'_1:Mem),Mem.le m'
 m'_1→Mem.reads m'_1 b 0 [int u64 aZ,int u64 aN,int u64 aO,int u64 aP,int u64 aQ,int u64 aR,int u64 aS,int u64 cD,int u64 cE]→∀(b:Nat),∃(f:Fx),∃(v:Value),∃(v_1:Value),
 Mem.reads m'_1 c0b c0o [v,v_1]∧∃(b:Nat),∃(o:Nat),aC=some (Addr.mk b o none)∧Zaf (0:Int) aA∧∃(v_2:Value),∃(v_3:Value),∃(v_4:Value),∃(v_5:Value),∃(v_6:Value),∃(v_7:
 Value),∃(v_8:Value),∃(v_9:Value),Mem.reads m'_1 b (o+0) [v_2,v_3,v_4,v_5,v_6,v_7,v_8,v_9]∧∃(R_1:RT),R_1=f 6 [agg (Array.mk [v,v_1]),agg (Array.mk [v_2,v_3,v_4,v_5,v_6,v_7,v_8,v_9]),
 agg (Array.mk [int u64 aZ,int u64 aN,int u64 aO,int u64 aP,int u64 aQ,int u64 aR,int u64 aS,int u64 cD,int u64 cE])] m'_1∧CX Try.prog 53 (Array.mk [agg (Array.mk [v,v_1]),agg (Array.mk
 [v_2,v_3,v_4,v_5,v_6,v_7,v_8,v_9]),agg (Array.mk [int u64 aZ,int u64 aN,int u64 aO,int u64 aP,int u64 aQ,int u64 aR,int u64 aS,int u64 cD,int u64 cE])]) m'_1 [] R_1∧Zax (Shape.agg
 [Shape.int u64,Shape.int u64,Shape.int u64,Shape.int u64,Shape.int u64,Shape.int u64,Shape.int u64,Shape.int u64,Shape.int u64]) R_1∧∀(n n_1 n_2 n_3 n_4 n_5 n_6 n_7 n_8:Int)(m':Mem),Mem.le m'_1 m'→R_1
 (agg (Array.mk [int u64 n,int u64 n_1,int u64 n_2,int u64 n_3,int u64 n_4,int u64 n_5,int u64 n_6,int u64 n_7,int u64 n_8])) m' []→∀(M:Mem),Mem.le m'_1 M→Mem.le m' M→∃(m'':Mem),Mem.le m m''∧
 Mem.le m'' M∧R (agg (Array.mk [int u64 n,int u64 n_1,int u64 n_2,int u64 n_3,int u64 n_4,int u64 n_5,int u64 n_6,int u64 n_7,int u64 n_8])) m'' []
theorem ZcS(aF aB aH aI aJ aE aG:Int)(aC:Option Addr)(aA aD:Nat)(aZ aN aO aP aQ aR aS cD cE:Int)(c0b c0o:Nat)(m:Mem)(R:RT)(h:ZbM aF aB aH aI aJ aE aG aC aA aD aZ aN aO aP aQ aR aS cD cE c0b c0o m R):CX Try.prog 106 #[.agg #[.int .u8 aF,.int .u64 aB,.int .u64 aH,.int .u64 aI,.int .u64 aJ,.int .i64 aE,.int .i64 aG,.slice aC aA aD],.agg #[.int .u64 aZ,.int .u64 aN,.int .u64 aO,.int .u64 aP,.int .u64 aQ,.int .u64 aR,.int .u64 aS,.int .u64 cD,.int .u64 cE],.pointer (some ⟨c0b,c0o,none⟩)] m [] R:=
 Zad (E:=Zdw) ZaA mix Try.func106 [.v (.agg #[.int .u8 aF,.int .u64 aB,.int .u64 aH,.int .u64 aI,.int .u64 aJ,.int .i64 aE,.int .i64 aG,.slice aC aA aD]),.v (.agg #[.int .u64 aZ,.int .u64 aN,.int .u64 aO,.int .u64 aP,.int .u64 aQ,.int .u64 aR,.int .u64 aS,.int .u64 cD,.int .u64 cE]),.v (.pointer (some ⟨c0b,c0o,none⟩))] [] (by kernel_rfl) (Eq.mp (by kernel_rfl) h)
noncomputable def Zis:Env:={ EB with
 joins:=(fun i=>bif Nat.beq i 1 then some [(7,.bool)]else bif Nat.beq i 2 then some [(16,.bool)]else bif Nat.beq i 6 then some [(29,.bool)]else none)
 frzNew:=[3] }
def Zet(aF aB aH aI aJ aE aG:Int)(aC:Option Addr)(aA aD:Nat)(p1a:Option Addr)(p1n p1c:Nat)(p2:Int)(m:Mem)(R:RT):Prop:=
 ∀(b:Nat)(m':Mem),Mem.le m m'→Mem.reads m' b 0 [int u8 aF,int u64 aB,int u64 aH,int u64 aI,int u64 aJ,int i64 aE,int i64 aG,slice aC aA aD]→∃(ac:Bool),br (aF == (0:Int))
 (∃(R:RT),True∧CX Try.prog 83 (Array.mk [agg (Array.mk [int u8 aF,int u64 aB,int u64 aH,int u64 aI,int u64 aJ,int i64 aE,int i64 aG,slice aC aA aD]),agg (Array.mk [int u8 0,int u64
 0,int u64 0,int u64 0,int u64 0,int i64 0,int i64 0,slice none 0 0])]) m' [] R∧Zax Shape.bool R∧∀(aa:Bool)(ab:Mem),Mem.le m' ab→R (Value.bool aa) ab []→[some (Box.mk b [int u8 aF,int u64 aB,
 int u64 aH,int u64 aI,int u64 aJ,int i64 aE,int i64 aG,slice aC aA aD] 29 8 true true)]=[some (Box.mk b [int u8 aF,int u64 aB,int u64 aH,int u64 aI,int u64 aJ,int i64 aE,int
 i64 aG,slice aC aA aD] 29 8 true true)]∧[Value.bool aa]=[Value.bool ac]) ([some (Box.mk b [int u8 aF,int u64 aB,int u64 aH,int u64 aI,int u64 aJ,int i64 aE,int i64 aG,slice aC
 aA aD] 29 8 true true)]=[some (Box.mk b [int u8 aF,int u64 aB,int u64 aH,int u64 aI,int u64 aJ,int i64 aE,int i64 aG,slice aC aA aD] 29 8 true true)]∧[Value.bool false] =
 [Value.bool ac])∧∃(aa:Bool),br (!ac) (∃(R:RT),True∧CX Try.prog 34 (Array.mk [agg (Array.mk [Value.bool false,Value.bool false,int u8 aF,int u64 aB,int u64 aH,int u64 aI,int u64 aJ,int i64
 aE,int i64 aG,slice aC aA aD])]) m' [] R∧Zax (Shape.int i64) R∧∀(n:Int)(ab:Mem),Mem.le m' ab→R (int i64 n) ab []→[some (Box.mk b [int u8 aF,int u64 aB,int u64 aH,int u64 aI,int
 u64 aJ,int i64 aE,int i64 aG,slice aC aA aD] 29 8 true true)]=[some (Box.mk b [int u8 aF,int u64 aB,int u64 aH,int u64 aI,int u64 aJ,int i64 aE,int i64 aG,slice aC aA
 aD] 29 8 true true)]∧[Value.bool !n == (0:Int)]=[Value.bool aa]) ([some (Box.mk b [int u8 aF,int u64 aB,int u64 aH,int u64 aI,int u64 aJ,int i64 aE,int i64 aG,slice aC aA aD] 29 8
 true true)]=[some (Box.mk b [int u8 aF,int u64 aB,int u64 aH,int u64 aI,int u64 aJ,int i64 aE,int i64 aG,slice aC aA aD] 29 8 true true)]∧[Value.bool false]=[Value.bool aa])∧br aa
 (∃(m'':Mem),Mem.le m m''∧Mem.le m'' m'∧R (int i64 130) m'' []) (br (decide ((↑p1n:Int) > (512:Int))) (∃(m'':Mem),Mem.le m m''∧Mem.le m'' m'∧R (int i64 3) m'' []) (∃(ad:Bool),br (decide (p2 < (0:
 Int))) ([some (Box.mk b [int u8 aF,int u64 aB,int u64 aH,int u64 aI,int u64 aJ,int i64 aE,int i64 aG,slice aC aA aD] 29 8 true true)]=[some (Box.mk b [int u8 aF,int u64 aB,int u64
 aH,int u64 aI,int u64 aJ,int i64 aE,int i64 aG,slice aC aA aD] 29 8 true true)]∧[Value.bool true]=[Value.bool ad]) ([some (Box.mk b [int u8 aF,int u64 aB,int u64 aH,int u64 aI,int
 u64 aJ,int i64 aE,int i64 aG,slice aC aA aD] 29 8 true true)]=[some (Box.mk b [int u8 aF,int u64 aB,int u64 aH,int u64 aI,int u64 aJ,int i64 aE,int i64 aG,slice aC aA
 aD] 29 8 true true)]∧[Value.bool (decide (p2 > (↑p1n:Int)))]=[Value.bool ad])∧br ad (∃(m'':Mem),Mem.le m m''∧Mem.le m'' m'∧R (int i64 2) m'' []) (∃(m'':Mem),Mem.le m m''∧Mem.le m'' m'∧R (int
 i64 0) m'' [])))
theorem Zhr(aF aB aH aI aJ aE aG:Int)(aC:Option Addr)(aA aD:Nat)(p1a:Option Addr)(p1n p1c:Nat)(p2:Int)(m:Mem)(R:RT)(h:Zet aF aB aH aI aJ aE aG aC aA aD p1a p1n p1c p2 m R):CX Try.prog 52 #[.agg #[.int .u8 aF,.int .u64 aB,.int .u64 aH,.int .u64 aI,.int .u64 aJ,.int .i64 aE,.int .i64 aG,.slice aC aA aD],.slice p1a p1n p1c,.int .i64 p2] m [] R:=
 Zad (E:=Zis) ZaA mix Try.func52 [.v (.agg #[.int .u8 aF,.int .u64 aB,.int .u64 aH,.int .u64 aI,.int .u64 aJ,.int .i64 aE,.int .i64 aG,.slice aC aA aD]),.v (.slice p1a p1n p1c),.v (.int .i64 p2)] [] (by kernel_rfl) (Eq.mp (by kernel_rfl) h)
noncomputable def Zkk:Env:={ EB with
 loops:=(fun i=>bif Nat.beq i 8 then⟨[(29,.int .i64)],[11],[(33,1)],false⟩ else⟨[],[],[],false⟩)
 dr:=(fun i=>bif Nat.beq i 5 then[⟨0,[],[],none,[],[]⟩,⟨1,[],[],none,[],[]⟩,⟨2,[],[],none,[0,1],[]⟩,⟨3,[4],[],none,[],[]⟩,⟨4,[],[],none,[],[]⟩,⟨5,[],[],none,[4],[]⟩,⟨6,[],[],none,[0,1,2,3,4,5],[5]⟩,⟨7,[12],[12],none,[],[]⟩,⟨8,[12],[12],none,[0,1,2,3,4,5,6,7],[]⟩]else[])
 tokOf:=(fun i=>bif Nat.beq i 33 then 33 else 0)
 frzNew:=[4]
 frzAt:=(fun i=>bif Nat.beq i 28 then[12]else[]) }
def Zfc(aF aB aH aI aJ aE aG:Int)(aC:Option Addr)(aA aD:Nat)(p1a:Option Addr)(p1n p1c:Nat)(p2:Int)(p3:Bool)(m:Mem)(R:RT):Prop:=
 ∀(b:Nat)(m':Mem),Mem.le m m'→Mem.reads m' b 0 [int u8 aF,int u64 aB,int u64 aH,int u64 aI,int u64 aJ,int i64 aE,int i64 aG,slice aC aA aD]→∃(R_1:RT),True∧CX Try.prog 52
 (Array.mk [agg (Array.mk [int u8 aF,int u64 aB,int u64 aH,int u64 aI,int u64 aJ,int i64 aE,int i64 aG,slice aC aA aD]),slice p1a p1n p1c,int i64 p2]) m' [] R_1∧Zax (Shape.int i64) R_1
 ∧ ∀(n:Int)(aa:Mem),Mem.le m' aa→R_1 (int i64 n) aa []→br (!n == (0:Int)) (∃(m'':Mem),Mem.le m m''∧Mem.le m'' aa∧R (Value.tuple (Array.mk [slice none 0 0,int i64 n])) m'' []) (∀(a0:Nat),∃(f:
 Fx),∃(R_2:RT),R_2=f 5 [int i64 p2] aa∧CX Try.prog 54 (Array.mk [int i64 p2]) aa [] R_2∧Zax (Shape.agg [Shape.int u64,Shape.int u64,Shape.int u64,Shape.int u64,Shape.int u64,Shape.int u64,Shape.int u64,
 Shape.int u64,Shape.int u64]) R_2∧∀(n an ao ap aq ar au av aw:Int)(m':Mem),Mem.le aa m'→R_2 (agg (Array.mk [int u64 n,int u64 an,int u64 ao,int u64 ap,int u64 aq,int u64 ar,int u64 au,int u64 av,int
 u64 aw])) m' []→∃(R_3:RT),R_3=f 6 [agg (Array.mk [slice p1a p1n p1c,Value.bool p3]),agg (Array.mk [int u8 aF,int u64 aB,int u64 aH,int u64 aI,int u64 aJ,int i64 aE,int i64 aG,slice aC
 aA aD]),agg (Array.mk [int u64 n,int u64 an,int u64 ao,int u64 ap,int u64 aq,int u64 ar,int u64 au,int u64 av,int u64 aw])] m'∧CX Try.prog 53 (Array.mk [agg (Array.mk [slice p1a p1n p1c,Value.bool
 p3]),agg (Array.mk [int u8 aF,int u64 aB,int u64 aH,int u64 aI,int u64 aJ,int i64 aE,int i64 aG,slice aC aA aD]),agg (Array.mk [int u64 n,int u64 an,int u64 ao,int u64 ap,int u64 aq,
 int u64 ar,int u64 au,int u64 av,int u64 aw])]) m' [] R_3∧Zax (Shape.agg [Shape.int u64,Shape.int u64,Shape.int u64,Shape.int u64,Shape.int u64,Shape.int u64,Shape.int u64,Shape.int u64,Shape.int u64]) R_3
 ∧ ∀(n ab ac ad ae af ag ah ai:Int)(ax:Mem),Mem.le m' ax→R_3 (agg (Array.mk [int u64 n,int u64 ab,int u64 ac,int u64 ad,int u64 ae,int u64 af,int u64 ag,int u64 ah,int u64 ai])) ax []→∀(aj:Nat) (M:
 Mem),Mem.le aa M→Mem.le m' M→Mem.le ax M→∀(m':Mem),Mem.le M m'→Mem.reads m' aj 0 [int u64 n,int u64 ab,int u64 ac,int u64 ad,int u64 ae,int u64 af,int u64 ag,int u64 ah,int u64 ai]→∃(R_4:RT),
 True∧CX Try.prog 82 (Array.mk [Value.pointer (some (Addr.mk aj 0 none))]) m' [] R_4∧Zax Shape.fn R_4∧∀(g:Nat)(fi ca:List Value)(ak:Mem),Mem.le m' ak→R_4 (Value.func (Fn.func g) (Array.mk fi) (Array.mk
 ca)) ak []→∃(xs:List (List Value)),IX Try.prog g fi ca ak xs∧(∀(x:List Value),x∈xs→Shape.fitsL [Shape.int i64] x=true)∧∃(I:IT),I [] [[slice none 0 0]] [slice none 0 0] ak 0∧(∀(am:Int) (cs:
 List Value) (a:Option Addr) (a1 c:Nat) (m':Mem) (ay:Nat),Mem.le ak m'→List.get?Internal xs ay=some [int i64 am]→I [] [cs] [slice a a1 c] m' ay→Eng.ZrO cs 0 fun(v:Value)=>∀(al:Nat),Mem.free m'
 al→chk (ZbS v&&true) ((Tok.mk (slice a a1 c) 1=Tok.mk v 1∨v=slice none 0 0∨slC v < slN v+1)∧∃(xs:List Value),∃(ys:List Value),List.length xs=slN v*1∧List.length ys=1*1∧rowRd (Mem.add
 m' al [int i64 am]) (slA v) xs∧rowRd (Mem.add m' al [int i64 am]) (some (Addr.mk al 0 none)) ys∧(∀(u:Value),u∈ys→Value.oneCell' u=true)∧(slN v+1)*8≤140737488355328∧slN v+1≤9223372036854775807
 ∧ ∀(a':Option Addr)(c':Nat)(az:Mem),Mem.le (Mem.add m' al [int i64 am]) az→rowRd az a' (List.append xs ys)→[some (Box.mk aj [int u64 n,int u64 ab,int u64 ac,int u64 ad,int u64 ae,int u64 af,int u64
 ag,int u64 ah,int u64 ai] 95 9 true true),some (Box.mk aj [int u64 n,int u64 ab,int u64 ac,int u64 ad,int u64 ae,int u64 af,int u64 ag,int u64 ah,int u64 ai] 95 9 true true),some (Box.mk a0 [] 38 1 false
 true),some (Box.mk b [int u8 aF,int u64 aB,int u64 aH,int u64 aI,int u64 aJ,int i64 aE,int i64 aG,slice aC aA aD] 29 8 true true)]=[some (Box.mk aj [int u64 n,int u64 ab,int u64 ac,
 int u64 ad,int u64 ae,int u64 af,int u64 ag,int u64 ah,int u64 ai] 95 9 true true),some (Box.mk aj [int u64 n,int u64 ab,int u64 ac,int u64 ad,int u64 ae,int u64 af,int u64 ag,int u64 ah,int u64 ai] 95 9
 true true),some (Box.mk a0 [] 38 1 false true),some (Box.mk b [int u8 aF,int u64 aB,int u64 aH,int u64 aI,int u64 aJ,int i64 aE,int i64 aG,slice aC aA aD] 29 8 true true)]∧I [] [[slice
 a' (slN v+1) c']] [slice a' (slN v+1) c'] az (ay+1)))∧∀(cs:List Value)(a:Option Addr)(n c:Nat)(m':Mem),Mem.le ak m'→I [] [cs] [slice a n c] m' (List.length xs)→Eng.ZrO cs 0 fun(v:Value)=>∃
 (m'':Mem),Mem.le m m''∧Mem.le m'' m'∧R (Value.tuple (Array.mk [v,int i64 0])) m'' [])
theorem Zit(aF aB aH aI aJ aE aG:Int)(aC:Option Addr)(aA aD:Nat)(p1a:Option Addr)(p1n p1c:Nat)(p2:Int)(p3:Bool)(m:Mem)(R:RT)(h:Zfc aF aB aH aI aJ aE aG aC aA aD p1a p1n p1c p2 p3 m R):CX Try.prog 47 #[.agg #[.int .u8 aF,.int .u64 aB,.int .u64 aH,.int .u64 aI,.int .u64 aJ,.int .i64 aE,.int .i64 aG,.slice aC aA aD],.slice p1a p1n p1c,.int .i64 p2,.bool p3] m [] R:=
 Zad (E:=Zkk) ZaA mix Try.func47 [.v (.agg #[.int .u8 aF,.int .u64 aB,.int .u64 aH,.int .u64 aI,.int .u64 aJ,.int .i64 aE,.int .i64 aG,.slice aC aA aD]),.v (.slice p1a p1n p1c),.v (.int .i64 p2),.v (.bool p3)] [] (by kernel_rfl) (Eq.mp (by kernel_rfl) h)
noncomputable def Zkl:Env:={ EB with
 frzNew:=[3] }
def Zfd(aF aB aH aI aJ aE aG:Int)(aC:Option Addr)(aA aD:Nat)(p1a:Option Addr)(p1n p1c:Nat)(p2:Int)(m:Mem)(R:RT):Prop:=
 ∀(b:Nat)(m':Mem),Mem.le m m'→Mem.reads m' b 0 [int u8 aF,int u64 aB,int u64 aH,int u64 aI,int u64 aJ,int i64 aE,int i64 aG,slice aC aA aD]→∃(R_1:RT),True∧CX Try.prog 47
 (Array.mk [agg (Array.mk [int u8 aF,int u64 aB,int u64 aH,int u64 aI,int u64 aJ,int i64 aE,int i64 aG,slice aC aA aD]),slice p1a p1n p1c,int i64 p2,Value.bool false]) m' [] R_1∧Zax
 (Shape.tup [Shape.slice,Shape.int i64]) R_1∧∀(a:Option Addr)(n c:Nat)(n_1:Int)(m'_1:Mem),Mem.le m' m'_1→R_1 (Value.tuple (Array.mk [slice a n c,int i64 n_1])) m'_1 []→∃(m'':Mem),Mem.le m m''∧
 Mem.le m'' m'_1∧R (Value.tuple (Array.mk [slice a n c,int i64 n_1])) m'' []
theorem Ziu(aF aB aH aI aJ aE aG:Int)(aC:Option Addr)(aA aD:Nat)(p1a:Option Addr)(p1n p1c:Nat)(p2:Int)(m:Mem)(R:RT)(h:Zfd aF aB aH aI aJ aE aG aC aA aD p1a p1n p1c p2 m R):CX Try.prog 14 #[.agg #[.int .u8 aF,.int .u64 aB,.int .u64 aH,.int .u64 aI,.int .u64 aJ,.int .i64 aE,.int .i64 aG,.slice aC aA aD],.slice p1a p1n p1c,.int .i64 p2] m [] R:=
 Zad (E:=Zkl) ZaA mix Try.func14 [.v (.agg #[.int .u8 aF,.int .u64 aB,.int .u64 aH,.int .u64 aI,.int .u64 aJ,.int .i64 aE,.int .i64 aG,.slice aC aA aD]),.v (.slice p1a p1n p1c),.v (.int .i64 p2)] [] (by kernel_rfl) (Eq.mp (by kernel_rfl) h)
noncomputable def Zhs:Env:={ EB with
 frzNew:=[3] }
def ZdE(aF aB aH aI aJ aE aG:Int)(aC:Option Addr)(aA aD:Nat)(p1a:Option Addr)(p1n p1c:Nat)(p2:Int)(m:Mem)(R:RT):Prop:=
 ∀(b:Nat)(m':Mem),Mem.le m m'→Mem.reads m' b 0 [int u8 aF,int u64 aB,int u64 aH,int u64 aI,int u64 aJ,int i64 aE,int i64 aG,slice aC aA aD]→∃(R_1:RT),True∧CX Try.prog 47
 (Array.mk [agg (Array.mk [int u8 aF,int u64 aB,int u64 aH,int u64 aI,int u64 aJ,int i64 aE,int i64 aG,slice aC aA aD]),slice p1a p1n p1c,int i64 p2,Value.bool true]) m' [] R_1∧Zax
 (Shape.tup [Shape.slice,Shape.int i64]) R_1∧∀(a:Option Addr)(n c:Nat)(n_1:Int)(m'_1:Mem),Mem.le m' m'_1→R_1 (Value.tuple (Array.mk [slice a n c,int i64 n_1])) m'_1 []→∃(m'':Mem),Mem.le m m''∧
 Mem.le m'' m'_1∧R (Value.tuple (Array.mk [slice a n c,int i64 n_1])) m'' []
theorem ZgF(aF aB aH aI aJ aE aG:Int)(aC:Option Addr)(aA aD:Nat)(p1a:Option Addr)(p1n p1c:Nat)(p2:Int)(m:Mem)(R:RT)(h:ZdE aF aB aH aI aJ aE aG aC aA aD p1a p1n p1c p2 m R):CX Try.prog 15 #[.agg #[.int .u8 aF,.int .u64 aB,.int .u64 aH,.int .u64 aI,.int .u64 aJ,.int .i64 aE,.int .i64 aG,.slice aC aA aD],.slice p1a p1n p1c,.int .i64 p2] m [] R:=
 Zad (E:=Zhs) ZaA mix Try.func15 [.v (.agg #[.int .u8 aF,.int .u64 aB,.int .u64 aH,.int .u64 aI,.int .u64 aJ,.int .i64 aE,.int .i64 aG,.slice aC aA aD]),.v (.slice p1a p1n p1c),.v (.int .i64 p2)] [] (by kernel_rfl) (Eq.mp (by kernel_rfl) h)
noncomputable def ZgG:Env:={ EB with
 dr:=(fun i=>bif Nat.beq i 4 then[⟨0,[],[],none,[],[]⟩,⟨1,[],[],none,[0],[]⟩,⟨2,[2],[],none,[],[]⟩,⟨3,[],[],none,[],[]⟩,⟨4,[],[],none,[0,1,2,3],[3]⟩,⟨5,[7],[7],none,[],[]⟩,⟨6,[7],[7],none,[0,1,2,3,4,5],[]⟩]else[])
 frzNew:=[2]
 frzAt:=(fun i=>bif Nat.beq i 21 then[7]else[]) }
def Zc1(aF aB aH aI aJ aE aG:Int)(aC:Option Addr)(aA aD:Nat)(p1a:Option Addr)(p1n p1c:Nat)(m:Mem)(R:RT):Prop:=
 ∀(b:Nat)(m':Mem),Mem.le m m'→Mem.reads m' b 0 [int u8 aF,int u64 aB,int u64 aH,int u64 aI,int u64 aJ,int i64 aE,int i64 aG,slice aC aA aD]→∃(R_1:RT),True∧CX Try.prog 52
 (Array.mk [agg (Array.mk [int u8 aF,int u64 aB,int u64 aH,int u64 aI,int u64 aJ,int i64 aE,int i64 aG,slice aC aA aD]),slice p1a p1n p1c,int i64 0]) m' [] R_1∧Zax (Shape.int i64) R_1∧
 ∀(n:Int)(aa:Mem),Mem.le m' aa→R_1 (int i64 n) aa []→br (!n == (0:Int)) (∃(m'':Mem),Mem.le m m''∧Mem.le m'' aa∧R (Value.tuple (Array.mk [Value.bool false,int i64 n])) m'' []) (∃(f:Fx),∃(R_2:
 RT),R_2=f 3 [int i64 0] aa∧CX Try.prog 54 (Array.mk [int i64 0]) aa [] R_2∧Zax (Shape.agg [Shape.int u64,Shape.int u64,Shape.int u64,Shape.int u64,Shape.int u64,Shape.int u64,Shape.int u64,Shape.int u64,
 Shape.int u64]) R_2∧∀(n ab ac ad ae af ag ah ai:Int)(m':Mem),Mem.le aa m'→R_2 (agg (Array.mk [int u64 n,int u64 ab,int u64 ac,int u64 ad,int u64 ae,int u64 af,int u64 ag,int u64 ah,int u64 ai])) m' []
 → ∃(R_3:RT),R_3=f 4 [agg (Array.mk [slice p1a p1n p1c,Value.bool false]),agg (Array.mk [int u8 aF,int u64 aB,int u64 aH,int u64 aI,int u64 aJ,int i64 aE,int i64 aG,slice aC aA aD]),
 agg (Array.mk [int u64 n,int u64 ab,int u64 ac,int u64 ad,int u64 ae,int u64 af,int u64 ag,int u64 ah,int u64 ai])] m'∧CX Try.prog 53 (Array.mk [agg (Array.mk [slice p1a p1n p1c,Value.bool false]),agg
 (Array.mk [int u8 aF,int u64 aB,int u64 aH,int u64 aI,int u64 aJ,int i64 aE,int i64 aG,slice aC aA aD]),agg (Array.mk [int u64 n,int u64 ab,int u64 ac,int u64 ad,int u64 ae,int u64
 af,int u64 ag,int u64 ah,int u64 ai])]) m' [] R_3∧Zax (Shape.agg [Shape.int u64,Shape.int u64,Shape.int u64,Shape.int u64,Shape.int u64,Shape.int u64,Shape.int u64,Shape.int u64,Shape.int u64]) R_3∧∀(n
 al am an ao ap aq ar au:Int) (aj:Mem),Mem.le m' aj→R_3 (agg (Array.mk [int u64 n,int u64 al,int u64 am,int u64 an,int u64 ao,int u64 ap,int u64 aq,int u64 ar,int u64 au])) aj []→∀(b:Nat)(M:Mem),
 Mem.le aa M→Mem.le m' M→Mem.le aj M→∀(m':Mem),Mem.le M m'→Mem.reads m' b 0 [int u64 n,int u64 al,int u64 am,int u64 an,int u64 ao,int u64 ap,int u64 aq,int u64 ar,int u64 au]→∃(R_4:RT),True∧
 CX Try.prog 55 (Array.mk [Value.pointer (some (Addr.mk b 0 none)),int i64 (↑p1n:Int)]) m' [] R_4∧Zax Shape.bool R_4∧∀(b:Bool)(ak:Mem),Mem.le m' ak→R_4 (Value.bool b) ak []→∃(m'':Mem),Mem.le m m''
 ∧ Mem.le m'' ak∧R (Value.tuple (Array.mk [Value.bool b,int i64 0])) m'' [])
theorem ZfO(aF aB aH aI aJ aE aG:Int)(aC:Option Addr)(aA aD:Nat)(p1a:Option Addr)(p1n p1c:Nat)(m:Mem)(R:RT)(h:Zc1 aF aB aH aI aJ aE aG aC aA aD p1a p1n p1c m R):CX Try.prog 19 #[.agg #[.int .u8 aF,.int .u64 aB,.int .u64 aH,.int .u64 aI,.int .u64 aJ,.int .i64 aE,.int .i64 aG,.slice aC aA aD],.slice p1a p1n p1c] m [] R:=
 Zad (E:=ZgG) ZaA mix Try.func19 [.v (.agg #[.int .u8 aF,.int .u64 aB,.int .u64 aH,.int .u64 aI,.int .u64 aJ,.int .i64 aE,.int .i64 aG,.slice aC aA aD]),.v (.slice p1a p1n p1c)] [] (by kernel_rfl) (Eq.mp (by kernel_rfl) h)
noncomputable def Ziv:Env:={ EB with
 frzNew:=[3] }
def Zeu(aF aB:Bool)(aH aI aJ aE aG bU bW:Int)(bN:Option Addr)(bO bP:Nat)(p1a:Option Addr)(p1n p1c:Nat)(p2:Int)(m:Mem)(R:RT):Prop:=
 ∀(b:Nat)(m':Mem),Mem.le m m'→Mem.reads m' b 0 [Value.bool aF,Value.bool aB,int u8 aH,int u64 aI,int u64 aJ,int u64 aE,int u64 aG,int i64 bU,int i64 bW,slice bN bO bP]→∃
 (R_1:RT),True∧CX Try.prog 34 (Array.mk [agg (Array.mk [Value.bool aF,Value.bool aB,int u8 aH,int u64 aI,int u64 aJ,int u64 aE,int u64 aG,int i64 bU,int i64 bW,slice bN bO bP])])
 m' [] R_1∧Zax (Shape.int i64) R_1∧∀(n:Int)(m'_1:Mem),Mem.le m' m'_1→R_1 (int i64 n) m'_1 []→br (!n == (0:Int)) (∃(m'':Mem),Mem.le m m''∧Mem.le m'' m'_1∧R (int i64 130) m'' []) (∃(R_2:RT),
 True∧CX Try.prog 52 (Array.mk [agg (Array.mk [int u8 aH,int u64 aI,int u64 aJ,int u64 aE,int u64 aG,int i64 bU,int i64 bW,slice bN bO bP]),slice p1a p1n p1c,int i64 p2]) m'_1 [] R_2∧
 Zax (Shape.int i64) R_2∧∀(n:Int)(m':Mem),Mem.le m'_1 m'→R_2 (int i64 n) m' []→∃(m'':Mem),Mem.le m m''∧Mem.le m'' m'∧R (int i64 n) m'' [])
theorem Zht(aF aB:Bool)(aH aI aJ aE aG bU bW:Int)(bN:Option Addr)(bO bP:Nat)(p1a:Option Addr)(p1n p1c:Nat)(p2:Int)(m:Mem)(R:RT)(h:Zeu aF aB aH aI aJ aE aG bU bW bN bO bP p1a p1n p1c p2 m R):CX Try.prog 48 #[.agg #[.bool aF,.bool aB,.int .u8 aH,.int .u64 aI,.int .u64 aJ,.int .u64 aE,.int .u64 aG,.int .i64 bU,.int .i64 bW,.slice bN bO bP],.slice p1a p1n p1c,.int .i64 p2] m [] R:=
 Zad (E:=Ziv) ZaA mix Try.func48 [.v (.agg #[.bool aF,.bool aB,.int .u8 aH,.int .u64 aI,.int .u64 aJ,.int .u64 aE,.int .u64 aG,.int .i64 bU,.int .i64 bW,.slice bN bO bP]),.v (.slice p1a p1n p1c),.v (.int .i64 p2)] [] (by kernel_rfl) (Eq.mp (by kernel_rfl) h)
noncomputable def Zkm:Env:={ EB with
 loops:=(fun i=>bif Nat.beq i 8 then⟨[(29,.int .i64)],[6,7],[],false⟩ else⟨[],[],[],false⟩)
 joins:=(fun i=>bif Nat.beq i 1 then some [(17,.bool)]else none)
 dr:=(fun i=>bif Nat.beq i 3 then[⟨0,[],[],none,[],[]⟩,⟨1,[],[],none,[0],[]⟩,⟨2,[3],[],none,[],[]⟩,⟨3,[3],[],none,[2],[]⟩,⟨4,[5],[],none,[],[]⟩,⟨5,[],[],none,[4],[]⟩,⟨6,[],[],none,[0,1,2,3,4,5],[5]⟩,⟨7,[8],[8],none,[],[]⟩,⟨8,[8],[8],none,[0,1,2,3,4,5,6,7],[]⟩]else[])
 frzNew:=[3,5]
 frzAt:=(fun i=>bif Nat.beq i 27 then[8]else bif Nat.beq i 28 then[8]else[]) }
def Zfe(aF aB:Bool)(aH aI aJ aE aG bU bW:Int)(bN:Option Addr)(bO bP:Nat)(p1a:Option Addr)(p1n p1c:Nat)(p2:Int)(m:Mem)(R:RT):Prop:=
 ∀(b:Nat)(m':Mem),Mem.le m m'→Mem.reads m' b 0 [Value.bool aF,Value.bool aB,int u8 aH,int u64 aI,int u64 aJ,int u64 aE,int u64 aG,int i64 bU,int i64 bW,slice bN bO bP]→∀(ak
 : Nat) (an:Mem),Mem.le m' an→Mem.reads an ak 0 [int i64 p2]→∀(al am:Nat),∃(ao:Bool),br aB ([some (Box.mk am [Value.bool false] 4 1 false true),some (Box.mk al [int i64 0] 3 1 false true),some (Box.mk
 ak [int i64 p2] 3 1 true true),some (Box.mk b [Value.bool aF,Value.bool aB,int u8 aH,int u64 aI,int u64 aJ,int u64 aE,int u64 aG,int i64 bU,int i64 bW,slice bN bO bP] 37 10 true
 true)]=[some (Box.mk am [Value.bool false] 4 1 false true),some (Box.mk al [int i64 0] 3 1 false true),some (Box.mk ak [int i64 p2] 3 1 true true),some (Box.mk b [Value.bool aF,Value.bool aB,int u8 aH,int
 u64 aI,int u64 aJ,int u64 aE,int u64 aG,int i64 bU,int i64 bW,slice bN bO bP] 37 10 true true)]∧[Value.bool (decide (p2 < (↑p1n:Int)))]=[Value.bool ao]) ([some (Box.mk am [Value.bool
 false] 4 1 false true),some (Box.mk al [int i64 0] 3 1 false true),some (Box.mk ak [int i64 p2] 3 1 true true),some (Box.mk b [Value.bool aF,Value.bool aB,int u8 aH,int u64 aI,int u64 aJ,int u64 aE,
 int u64 aG,int i64 bU,int i64 bW,slice bN bO bP] 37 10 true true)]=[some (Box.mk am [Value.bool false] 4 1 false true),some (Box.mk al [int i64 0] 3 1 false true),some (Box.mk ak [int i64 p2] 3 1
 true true),some (Box.mk b [Value.bool aF,Value.bool aB,int u8 aH,int u64 aI,int u64 aJ,int u64 aE,int u64 aG,int i64 bU,int i64 bW,slice bN bO bP] 37 10 true true)]∧[Value.bool
 false]=[Value.bool ao])∧br ao (∃(m'':Mem),Mem.le m m''∧Mem.le m'' an∧R (Value.tuple (Array.mk [int i64 0,Value.bool false])) m'' []) (∃(f:Fx),∃(R_1:RT),R_1=f 5 [int i64 p2] an∧CX Try.prog 54
 (Array.mk [int i64 p2]) an [] R_1∧Zax (Shape.agg [Shape.int u64,Shape.int u64,Shape.int u64,Shape.int u64,Shape.int u64,Shape.int u64,Shape.int u64,Shape.int u64,Shape.int u64]) R_1∧∀(n ap aq ar au av aw
 ax ay:Int) (m':Mem),Mem.le an m'→R_1 (agg (Array.mk [int u64 n,int u64 ap,int u64 aq,int u64 ar,int u64 au,int u64 av,int u64 aw,int u64 ax,int u64 ay])) m' []→∃(R_2:RT),R_2=f 6 [agg (Array.mk
 [slice p1a p1n p1c,Value.bool true]),agg (Array.mk [int u8 aH,int u64 aI,int u64 aJ,int u64 aE,int u64 aG,int i64 bU,int i64 bW,slice bN bO bP]),agg (Array.mk [int u64 n,int u64 ap,int
 u64 aq,int u64 ar,int u64 au,int u64 av,int u64 aw,int u64 ax,int u64 ay])] m'∧CX Try.prog 53 (Array.mk [agg (Array.mk [slice p1a p1n p1c,Value.bool true]),agg (Array.mk [int u8 aH,int u64 aI,int u64
 aJ,int u64 aE,int u64 aG,int i64 bU,int i64 bW,slice bN bO bP]),agg (Array.mk [int u64 n,int u64 ap,int u64 aq,int u64 ar,int u64 au,int u64 av,int u64 aw,int u64 ax,int u64 ay])]) m' []
 R_2∧Zax (Shape.agg [Shape.int u64,Shape.int u64,Shape.int u64,Shape.int u64,Shape.int u64,Shape.int u64,Shape.int u64,Shape.int u64,Shape.int u64]) R_2∧∀(n ab ac ad ae af ag ah ai:Int)(az:Mem),Mem.le
 m' az→R_2 (agg (Array.mk [int u64 n,int u64 ab,int u64 ac,int u64 ad,int u64 ae,int u64 af,int u64 ag,int u64 ah,int u64 ai])) az []→∀(aa:Nat)(M:Mem),Mem.le an M→Mem.le m' M→Mem.le az M→br aF
 (∀(m':Mem),Mem.le M m'→Mem.reads m' aa 0 [int u64 n,int u64 ab,int u64 ac,int u64 ad,int u64 ae,int u64 af,int u64 ag,int u64 ah,int u64 ai]→∃(R_3:RT),True∧CX Try.prog 55 (Array.mk [Value.pointer
 (some (Addr.mk aa 0 none)),int i64 0]) m' [] R_3∧Zax Shape.bool R_3∧∀(b:Bool)(aj:Mem),Mem.le m' aj→R_3 (Value.bool b) aj []→∃(m'':Mem),Mem.le m m''∧Mem.le m'' aj∧R (Value.tuple (Array.mk [int
 i64 0,Value.bool b])) m'' []) (∀(m':Mem),Mem.le M m'→Mem.reads m' aa 0 [int u64 n,int u64 ab,int u64 ac,int u64 ad,int u64 ae,int u64 af,int u64 ag,int u64 ah,int u64 ai]→∃(R_3:RT),True∧CX
 Try.prog 82 (Array.mk [Value.pointer (some (Addr.mk aa 0 none))]) m' [] R_3∧Zax Shape.fn R_3∧∀(g:Nat)(fi ca:List Value)(aj:Mem),Mem.le m' aj→R_3 (Value.func (Fn.func g) (Array.mk fi) (Array.mk ca)) aj
 []→∃(xs:List (List Value)),IX Try.prog g fi ca aj xs∧(∀(x:List Value),x∈xs→Shape.fitsL [Shape.int i64] x=true)∧∃(I:IT),I [] [[int i64 0],[Value.bool false]] [] aj 0∧(∀(a0:Int) (cs a1:List
 Value) (m':Mem) (a2:Nat),Mem.le aj m'→List.get?Internal xs a2=some [int i64 a0]→I [] [cs,a1] [] m' a2→br (decide (a0 > p2)) ([some (Box.mk aa [int u64 n,int u64 ab,int u64 ac,int u64 ad,int u64 ae,int
 u64 af,int u64 ag,int u64 ah,int u64 ai] 95 9 true true),some (Box.mk aa [int u64 n,int u64 ab,int u64 ac,int u64 ad,int u64 ae,int u64 af,int u64 ag,int u64 ah,int u64 ai] 95 9 true true),some (Box.mk am
 [] 4 1 false true),some (Box.mk al [] 3 1 false true),some (Box.mk ak [int i64 p2] 3 1 true true),some (Box.mk b [Value.bool aF,Value.bool aB,int u8 aH,int u64 aI,int u64 aJ,int u64 aE,int u64 aG,
 int i64 bU,int i64 bW,slice bN bO bP] 37 10 true true)]=[some (Box.mk aa [int u64 n,int u64 ab,int u64 ac,int u64 ad,int u64 ae,int u64 af,int u64 ag,int u64 ah,int u64 ai] 95 9 true true),some
 (Box.mk aa [int u64 n,int u64 ab,int u64 ac,int u64 ad,int u64 ae,int u64 af,int u64 ag,int u64 ah,int u64 ai] 95 9 true true),some (Box.mk am [] 4 1 false true),some (Box.mk al [] 3 1 false true),some
 (Box.mk ak [int i64 p2] 3 1 true true),some (Box.mk b [Value.bool aF,Value.bool aB,int u8 aH,int u64 aI,int u64 aJ,int u64 aE,int u64 aG,int i64 bU,int i64 bW,slice bN bO bP] 37 10
 true true)]∧∃(m'':Mem),Mem.le m m''∧Mem.le m'' m'∧R (Value.tuple (Array.mk [int i64 0,Value.bool false])) m'' []) ([some (Box.mk aa [int u64 n,int u64 ab,int u64 ac,int u64 ad,int u64 ae,int u64 af,int
 u64 ag,int u64 ah,int u64 ai] 95 9 true true),some (Box.mk aa [int u64 n,int u64 ab,int u64 ac,int u64 ad,int u64 ae,int u64 af,int u64 ag,int u64 ah,int u64 ai] 95 9 true true),some (Box.mk am [] 4 1 false
 true),some (Box.mk al [] 3 1 false true),some (Box.mk ak [int i64 p2] 3 1 true true),some (Box.mk b [Value.bool aF,Value.bool aB,int u8 aH,int u64 aI,int u64 aJ,int u64 aE,int u64 aG,int i64
 bU,int i64 bW,slice bN bO bP] 37 10 true true)]=[some (Box.mk aa [int u64 n,int u64 ab,int u64 ac,int u64 ad,int u64 ae,int u64 af,int u64 ag,int u64 ah,int u64 ai] 95 9 true true),some (Box.mk
 aa [int u64 n,int u64 ab,int u64 ac,int u64 ad,int u64 ae,int u64 af,int u64 ag,int u64 ah,int u64 ai] 95 9 true true),some (Box.mk am [] 4 1 false true),some (Box.mk al [] 3 1 false true),some (Box.mk ak
 [int i64 p2] 3 1 true true),some (Box.mk b [Value.bool aF,Value.bool aB,int u8 aH,int u64 aI,int u64 aJ,int u64 aE,int u64 aG,int i64 bU,int i64 bW,slice bN bO bP] 37 10 true true)]
 ∧ ∃(m'':Mem),Mem.le m m''∧Mem.le m'' m'∧R (Value.tuple (Array.mk [int i64 a0,Value.bool true])) m'' []))∧∀(cs a1:List Value)(m':Mem),Mem.le aj m'→I [] [cs,a1] [] m' (List.length xs)→∃(m'':Mem),
 Mem.le m m''∧Mem.le m'' m'∧R (Value.tuple (Array.mk [int i64 0,Value.bool false])) m'' []))
theorem Ziw(aF aB:Bool)(aH aI aJ aE aG bU bW:Int)(bN:Option Addr)(bO bP:Nat)(p1a:Option Addr)(p1n p1c:Nat)(p2:Int)(m:Mem)(R:RT)(h:Zfe aF aB aH aI aJ aE aG bU bW bN bO bP p1a p1n p1c p2 m R):CX Try.prog 49 #[.agg #[.bool aF,.bool aB,.int .u8 aH,.int .u64 aI,.int .u64 aJ,.int .u64 aE,.int .u64 aG,.int .i64 bU,.int .i64 bW,.slice bN bO bP],.slice p1a p1n p1c,.int .i64 p2] m [] R:=
 Zad (E:=Zkm) ZaA mix Try.func49 [.v (.agg #[.bool aF,.bool aB,.int .u8 aH,.int .u64 aI,.int .u64 aJ,.int .u64 aE,.int .u64 aG,.int .i64 bU,.int .i64 bW,.slice bN bO bP]),.v (.slice p1a p1n p1c),.v (.int .i64 p2)] [] (by kernel_rfl) (Eq.mp (by kernel_rfl) h)
noncomputable def Zkn:Env:={ EB with
 frzNew:=[3] }
def Zff(aF aB:Bool)(aH aI aJ aE aG bU bW:Int)(bN:Option Addr)(bO bP:Nat)(p1a:Option Addr)(p1n p1c:Nat)(p2:Int)(m:Mem)(R:RT):Prop:=
 ∀(b:Nat)(m':Mem),Mem.le m m'→Mem.reads m' b 0 [Value.bool aF,Value.bool aB,int u8 aH,int u64 aI,int u64 aJ,int u64 aE,int u64 aG,int i64 bU,int i64 bW,slice bN bO bP]→∃
 (R_1:RT),True∧CX Try.prog 48 (Array.mk [agg (Array.mk [Value.bool aF,Value.bool aB,int u8 aH,int u64 aI,int u64 aJ,int u64 aE,int u64 aG,int i64 bU,int i64 bW,slice bN bO bP]),
 slice p1a p1n p1c,int i64 p2]) m' [] R_1∧Zax (Shape.int i64) R_1∧∀(n:Int)(m'_1:Mem),Mem.le m' m'_1→R_1 (int i64 n) m'_1 []→br (!n == (0:Int)) (∃(m'':Mem),Mem.le m m''∧Mem.le m'' m'_1∧R
 (Value.tuple (Array.mk [int i64 0,Value.bool false,int i64 n])) m'' []) (∃(R_2:RT),True∧CX Try.prog 49 (Array.mk [agg (Array.mk [Value.bool aF,Value.bool aB,int u8 aH,int u64 aI,int u64 aJ,int u64
 aE,int u64 aG,int i64 bU,int i64 bW,slice bN bO bP]),slice p1a p1n p1c,int i64 p2]) m'_1 [] R_2∧Zax (Shape.tup [Shape.int i64,Shape.bool]) R_2∧∀(n:Int)(b:Bool)(m':Mem),Mem.le m'_1
 m'→R_2 (Value.tuple (Array.mk [int i64 n,Value.bool b])) m' []→∃(m'':Mem),Mem.le m m''∧Mem.le m'' m'∧R (Value.tuple (Array.mk [int i64 n,Value.bool b,int i64 0])) m'' [])
theorem Zix(aF aB:Bool)(aH aI aJ aE aG bU bW:Int)(bN:Option Addr)(bO bP:Nat)(p1a:Option Addr)(p1n p1c:Nat)(p2:Int)(m:Mem)(R:RT)(h:Zff aF aB aH aI aJ aE aG bU bW bN bO bP p1a p1n p1c p2 m R):CX Try.prog 17 #[.agg #[.bool aF,.bool aB,.int .u8 aH,.int .u64 aI,.int .u64 aJ,.int .u64 aE,.int .u64 aG,.int .i64 bU,.int .i64 bW,.slice bN bO bP],.slice p1a p1n p1c,.int .i64 p2] m [] R:=
 Zad (E:=Zkn) ZaA mix Try.func17 [.v (.agg #[.bool aF,.bool aB,.int .u8 aH,.int .u64 aI,.int .u64 aJ,.int .u64 aE,.int .u64 aG,.int .i64 bU,.int .i64 bW,.slice bN bO bP]),.v (.slice p1a p1n p1c),.v (.int .i64 p2)] [] (by kernel_rfl) (Eq.mp (by kernel_rfl) h)
noncomputable def Ziy:Env:={ EB with
 frzNew:=[3] }
def Zev(aF aB:Bool)(aH aI aJ aE aG bU bW:Int)(bN:Option Addr)(bO bP:Nat)(p1a:Option Addr)(p1n p1c:Nat)(p2:Int)(m:Mem)(R:RT):Prop:=
 ∀(b:Nat)(m':Mem),Mem.le m m'→Mem.reads m' b 0 [Value.bool aF,Value.bool aB,int u8 aH,int u64 aI,int u64 aJ,int u64 aE,int u64 aG,int i64 bU,int i64 bW,slice bN bO bP]→∃
 (R_1:RT),True∧CX Try.prog 17 (Array.mk [agg (Array.mk [Value.bool aF,Value.bool aB,int u8 aH,int u64 aI,int u64 aJ,int u64 aE,int u64 aG,int i64 bU,int i64 bW,slice bN bO bP]),
 slice p1a p1n p1c,int i64 p2]) m' [] R_1∧Zax (Shape.tup [Shape.int i64,Shape.bool,Shape.int i64]) R_1∧∀(n:Int)(b:Bool)(n_1:Int)(m'_1:Mem),Mem.le m' m'_1→R_1 (Value.tuple (Array.mk [int i64 n,
 Value.bool b,int i64 n_1])) m'_1 []→∃(m'':Mem),Mem.le m m''∧Mem.le m'' m'_1∧R (Value.tuple (Array.mk [Value.bool b,int i64 n_1])) m'' []
theorem Zhu(aF aB:Bool)(aH aI aJ aE aG bU bW:Int)(bN:Option Addr)(bO bP:Nat)(p1a:Option Addr)(p1n p1c:Nat)(p2:Int)(m:Mem)(R:RT)(h:Zev aF aB aH aI aJ aE aG bU bW bN bO bP p1a p1n p1c p2 m R):CX Try.prog 16 #[.agg #[.bool aF,.bool aB,.int .u8 aH,.int .u64 aI,.int .u64 aJ,.int .u64 aE,.int .u64 aG,.int .i64 bU,.int .i64 bW,.slice bN bO bP],.slice p1a p1n p1c,.int .i64 p2] m [] R:=
 Zad (E:=Ziy) ZaA mix Try.func16 [.v (.agg #[.bool aF,.bool aB,.int .u8 aH,.int .u64 aI,.int .u64 aJ,.int .u64 aE,.int .u64 aG,.int .i64 bU,.int .i64 bW,.slice bN bO bP]),.v (.slice p1a p1n p1c),.v (.int .i64 p2)] [] (by kernel_rfl) (Eq.mp (by kernel_rfl) h)
noncomputable def Ziz:Env:={ EB with
 loops:=(fun i=>bif Nat.beq i 4 then⟨[(14,.int .i64)],[],[],false⟩ else⟨[],[],[],false⟩) }
def Zew(p0a:Option Addr)(p0n p0c:Nat)(p1a:Option Addr)(p1n p1c:Nat)(p2:Int)(m:Mem)(R:RT):Prop:=
 br (decide ((↑p0n:Int) > (64:Int))) (∃(m'':Mem),Mem.le m m''∧Mem.le m'' m∧R (int i64 5) m'' []) (∃(I:IT),(∃(n:Nat),I [int i64 0] [] [] m n)∧∀(n:Int)(m':Mem)(n_1:Nat),Mem.le m m'→I [int
 i64 n] [] [] m' n_1→br (decide (n < (↑p0n:Int))) (∃(b:Nat),∃(o:Nat),p0a=some (Addr.mk b o none)∧Zaf n p0n∧∃(v:Value),∃(v_1:Value),∃(v_2:Value),∃(v_3:Value),∃(v_4:Value),∃(v_5:
 Value),∃(v_6:Value),∃(v_7:Value),∃(v_8:Value),∃(v_9:Value),Mem.reads m' b (o+Int.toNat n*10) [v,v_1,v_2,v_3,v_4,v_5,v_6,v_7,v_8,v_9]∧∀(b:Nat),chk (Value.oneCell' v&&(Value.oneCell'
 v_1&&(Value.oneCell' v_2&&(Value.oneCell' v_3&&(Value.oneCell' v_4&&(Value.oneCell' v_5&&(Value.oneCell' v_6&&(Value.oneCell' v_7&&(Value.oneCell' v_8&&(Value.oneCell' v_9&&true)))))))))) (∃(R_1:
 RT),True∧CX Try.prog 34 (Array.mk [agg (Array.mk [v,v_1,v_2,v_3,v_4,v_5,v_6,v_7,v_8,v_9])]) m' [] R_1∧Zax (Shape.int i64) R_1∧∀(n_2:Int)(m'_1:Mem),Mem.le m' m'_1→R_1 (int i64 n_2) m'_1 []→br
 (!n_2 == (0:Int)) (∃(m'':Mem),Mem.le m m''∧Mem.le m'' m'_1∧R (int i64 130) m'' []) (∃(n':Nat),n' < n_1∧I [int i64 (IntKind.wrap i64 (n+(1:Int)))] [] [] m'_1 n'))) (∃(R_1:RT),True∧CX Try.prog 52
 (Array.mk [agg (Array.mk [int u8 1,int u64 0,int u64 0,int u64 0,int u64 0,int i64 0,int i64 0,slice none 0 0]),slice p1a p1n p1c,int i64 p2]) m' [] R_1∧Zax (Shape.int i64) R_1∧∀(n:Int)(m'_1:Mem),
 Mem.le m' m'_1→R_1 (int i64 n) m'_1 []→∃(m'':Mem),Mem.le m m''∧Mem.le m'' m'_1∧R (int i64 n) m'' []))
theorem Zhv(p0a:Option Addr)(p0n p0c:Nat)(p1a:Option Addr)(p1n p1c:Nat)(p2:Int)(m:Mem)(R:RT)(h:Zew p0a p0n p0c p1a p1n p1c p2 m R):CX Try.prog 50 #[.slice p0a p0n p0c,.slice p1a p1n p1c,.int .i64 p2] m [] R:=
 Zad (E:=Ziz) ZaA mix Try.func50 [.v (.slice p0a p0n p0c),.v (.slice p1a p1n p1c),.v (.int .i64 p2)] [] (by kernel_rfl) (Eq.mp (by kernel_rfl) h)
noncomputable def Zko:Env:={ EB with
 loops:=(fun i=>bif Nat.beq i 2 then⟨[(14,.int .i64)],[6],[],false⟩ else⟨[],[],[],false⟩) }
def Zfg(p0a:Option Addr)(p0n p0c:Nat)(p1a:Option Addr)(p1n p1c:Nat)(p2:Int)(m:Mem)(R:RT):Prop:=
 ∀(b:Nat),∃(I:IT),(∃(n:Nat),I [int i64 0] [[int i64 0,int i64 0,int i64 0]] [] m n)∧∀(n:Int)(cs:List Value)(m':Mem)(n_1:Nat),Mem.le m m'→I [int i64 n] [cs] [] m' n_1→br (decide (n < (↑p0n
 : Int))) (∃(b_1:Nat),∃(o:Nat),p0a=some (Addr.mk b_1 o none)∧Zaf n p0n∧∃(v:Value),∃(v_1:Value),∃(v_2:Value),∃(v_3:Value),∃(v_4:Value),∃(v_5:Value),∃(v_6:Value),∃(v_7:
 Value),∃(v_8:Value),∃(v_9:Value),Mem.reads m' b_1 (o+Int.toNat n*10) [v,v_1,v_2,v_3,v_4,v_5,v_6,v_7,v_8,v_9]∧∀(b_2:Nat),chk (Value.oneCell' v&&(Value.oneCell' v_1&&(Value.oneCell' v_2 &&
 (Value.oneCell' v_3&&(Value.oneCell' v_4&&(Value.oneCell' v_5&&(Value.oneCell' v_6&&(Value.oneCell' v_7&&(Value.oneCell' v_8&&(Value.oneCell' v_9&&true)))))))))) (∃(R_1:RT),True∧CX Try.prog 49
 (Array.mk [agg (Array.mk [v,v_1,v_2,v_3,v_4,v_5,v_6,v_7,v_8,v_9]),slice p1a p1n p1c,int i64 p2]) m' [] R_1∧Zax (Shape.tup [Shape.int i64,Shape.bool]) R_1∧∀(n_2:Int)(b_3:Bool)(m'_1:Mem),Mem.le
 m' m'_1→R_1 (Value.tuple (Array.mk [int i64 n_2,Value.bool b_3])) m'_1 []→br b_3 (∃(m'':Mem),Mem.le m m''∧Mem.le m'' m'_1∧R (Value.tuple (Array.mk [agg (Array.mk [int i64 n,int i64 n_2,int i64 p2]),
 Value.bool true])) m'' []) ([some (Box.mk b [] 46 3 false true)]=[some (Box.mk b [] 46 3 false true)]∧∃(n':Nat),n' < n_1∧I [int i64 (IntKind.wrap i64 (n+(1:Int)))] [cs] [] m'_1 n'))) (∃(m'':Mem),Mem.le
 m m''∧Mem.le m'' m'∧R (Value.tuple (Array.mk [agg (Array.mk [int i64 0,int i64 0,int i64 0]),Value.bool false])) m'' [])
theorem ZiA(p0a:Option Addr)(p0n p0c:Nat)(p1a:Option Addr)(p1n p1c:Nat)(p2:Int)(m:Mem)(R:RT)(h:Zfg p0a p0n p0c p1a p1n p1c p2 m R):CX Try.prog 51 #[.slice p0a p0n p0c,.slice p1a p1n p1c,.int .i64 p2] m [] R:=
 Zad (E:=Zko) ZaA mix Try.func51 [.v (.slice p0a p0n p0c),.v (.slice p1a p1n p1c),.v (.int .i64 p2)] [] (by kernel_rfl) (Eq.mp (by kernel_rfl) h)
noncomputable def Zkp:Env:=EB
def Zfh(p0a:Option Addr)(p0n p0c:Nat)(p1a:Option Addr)(p1n p1c:Nat)(p2:Int)(m:Mem)(R:RT):Prop:=
 ∀(b:Nat),∃(R_1:RT),True∧CX Try.prog 50 (Array.mk [slice p0a p0n p0c,slice p1a p1n p1c,int i64 p2]) m [] R_1∧Zax (Shape.int i64) R_1∧∀(n:Int)(m':Mem),Mem.le m m'→R_1 (int i64 n) m' []→br (!n
 == (0:Int)) (∃(m'':Mem),Mem.le m m''∧Mem.le m'' m'∧R (Value.tuple (Array.mk [agg (Array.mk [int i64 0,int i64 0,int i64 0]),Value.bool false,int i64 n])) m'' []) (∃(R_2:RT),True∧CX Try.prog 51
 (Array.mk [slice p0a p0n p0c,slice p1a p1n p1c,int i64 p2]) m' [] R_2∧Zax (Shape.tup [Shape.agg [Shape.int i64,Shape.int i64,Shape.int i64],Shape.bool]) R_2∧∀(n n_1 n_2:Int)(b:Bool)(m'_1:Mem),Mem.le
 m' m'_1→R_2 (Value.tuple (Array.mk [agg (Array.mk [int i64 n,int i64 n_1,int i64 n_2]),Value.bool b])) m'_1 []→∀(b_1:Nat),∃(m'':Mem),Mem.le m m''∧Mem.le m'' m'_1∧R (Value.tuple (Array.mk [agg
 (Array.mk [int i64 n,int i64 n_1,int i64 n_2]),Value.bool b,int i64 0])) m'' [])
theorem ZiB(p0a:Option Addr)(p0n p0c:Nat)(p1a:Option Addr)(p1n p1c:Nat)(p2:Int)(m:Mem)(R:RT)(h:Zfh p0a p0n p0c p1a p1n p1c p2 m R):CX Try.prog 18 #[.slice p0a p0n p0c,.slice p1a p1n p1c,.int .i64 p2] m [] R:=
 Zad (E:=Zkp) ZaA mix Try.func18 [.v (.slice p0a p0n p0c),.v (.slice p1a p1n p1c),.v (.int .i64 p2)] [] (by kernel_rfl) (Eq.mp (by kernel_rfl) h)
noncomputable def ZiC:Env:={ EB with
 loops:=(fun i=>bif Nat.beq i 5 then⟨[(21,.int .i64)],[4],[],false⟩ else⟨[],[],[],false⟩) }
def Zex(p0a:Option Addr)(p0n p0c:Nat)(p1a:Option Addr)(p1n p1c:Nat)(m:Mem)(R:RT):Prop:=
 ∀(b:Nat),∃(R_1:RT),True∧CX Try.prog 50 (Array.mk [slice p0a p0n p0c,slice p1a p1n p1c,int i64 0]) m [] R_1∧Zax (Shape.int i64) R_1∧∀(n:Int)(m':Mem),Mem.le m m'→R_1 (int i64 n) m' []→br (!n ==
 (0:Int)) (∃(m'':Mem),Mem.le m m''∧Mem.le m'' m'∧R (Value.tuple (Array.mk [agg (Array.mk [int i64 0,int i64 0,int i64 0]),Value.bool false,int i64 n])) m'' []) (∃(I:IT),(∃(n:Nat),I [int i64 0] [[int
 i64 0,int i64 0,int i64 0]] [] m' n)∧∀(n:Int)(cs:List Value)(m'_1:Mem)(n_1:Nat),Mem.le m' m'_1→I [int i64 n] [cs] [] m'_1 n_1→br (decide (n < IntKind.wrap i64 ((↑p1n:Int)+(1:Int)))) (∃(R_2:
 RT),True∧CX Try.prog 51 (Array.mk [slice p0a p0n p0c,slice p1a p1n p1c,int i64 n]) m'_1 [] R_2∧Zax (Shape.tup [Shape.agg [Shape.int i64,Shape.int i64,Shape.int i64],Shape.bool]) R_2∧∀(n_2 n_3 n_4:Int)
 (b_1:Bool) (m':Mem),Mem.le m'_1 m'→R_2 (Value.tuple (Array.mk [agg (Array.mk [int i64 n_2,int i64 n_3,int i64 n_4]),Value.bool b_1])) m' []→∀(b_2:Nat),br b_1 (∃(m'':Mem),Mem.le m m''∧Mem.le m'' m'
 ∧ R (Value.tuple (Array.mk [agg (Array.mk [int i64 n_2,int i64 n_3,int i64 n_4]),Value.bool true,int i64 0])) m'' []) ([some (Box.mk b [] 46 3 false true)]=[some (Box.mk b [] 46 3 false true)]∧∃(n':Nat),n' <
 n_1∧I [int i64 (IntKind.wrap i64 (n+(1:Int)))] [cs] [] m' n')) (∃(m'':Mem),Mem.le m m''∧Mem.le m'' m'_1∧R (Value.tuple (Array.mk [agg (Array.mk [int i64 0,int i64 0,int i64 0]),Value.bool false,int i64
 0])) m'' []))
theorem Zhw(p0a:Option Addr)(p0n p0c:Nat)(p1a:Option Addr)(p1n p1c:Nat)(m:Mem)(R:RT)(h:Zex p0a p0n p0c p1a p1n p1c m R):CX Try.prog 20 #[.slice p0a p0n p0c,.slice p1a p1n p1c] m [] R:=
 Zad (E:=ZiC) ZaA mix Try.func20 [.v (.slice p0a p0n p0c),.v (.slice p1a p1n p1c)] [] (by kernel_rfl) (Eq.mp (by kernel_rfl) h)
noncomputable def ZcT:Env:={ EB with
 loops:=(fun i=>bif Nat.beq i 4 then⟨[(13,.int .i64)],[],[],false⟩ else⟨[],[],[],false⟩)
 dr:=(fun i=>bif Nat.beq i 6 then[⟨0,[],[],none,[],[]⟩,⟨1,[],[],none,[],[]⟩,⟨2,[],[],none,[0,1],[]⟩,⟨3,[],[],none,[0,1,2],[]⟩,⟨4,[],[],none,[],[]⟩,⟨5,[],[],none,[],[]⟩,⟨6,[],[],none,[4,5],[]⟩,⟨7,[],[],none,[4,5,6],[]⟩,⟨8,[],[],none,[0,1,2,3,4,5,6,7],[]⟩]else[]) }
def ZbB(p0a:Option Addr)(p0n p0c:Nat)(p1a:Option Addr)(p1n p1c:Nat)(m:Mem)(R:RT):Prop:=
 br (!(↑p0n:Int) == (↑p1n:Int)) (∃(m'':Mem),Mem.le m m''∧Mem.le m'' m∧R (Value.bool false) m'' []) (∃(I:IT),(∃(n:Nat),I [int i64 0] [] [] m n)∧∀(n:Int)(m':Mem)(n_1:Nat),Mem.le m m'→I
 [int i64 n] [] [] m' n_1→br (decide (n < (↑p0n:Int))) (∃(b:Nat),∃(o:Nat),p0a=some (Addr.mk b o none)∧Zaf n p0n∧∃(v:Value),m' b (o+Int.toNat n*1)=some v∧∃(b:Nat),∃(o:Nat),p1a =
 some (Addr.mk b o none)∧Zaf n p1n∧∃(v_1:Value),m' b (o+Int.toNat n*1)=some v_1∧chk (Zal i64 v&&Zal i64 v_1) (br (!RowKit.intOf v == RowKit.intOf v_1) (∃(m'':Mem),Mem.le m m''∧Mem.le m''
 m'∧R (Value.bool false) m'' []) (∃(n':Nat),n' < n_1∧I [int i64 (IntKind.wrap i64 (n+(1:Int)))] [] [] m' n'))) (∃(m'':Mem),Mem.le m m''∧Mem.le m'' m'∧R (Value.bool true) m'' []))
theorem ZcI(p0a:Option Addr)(p0n p0c:Nat)(p1a:Option Addr)(p1n p1c:Nat)(m:Mem)(R:RT)(h:ZbB p0a p0n p0c p1a p1n p1c m R):CX Try.prog 28 #[.slice p0a p0n p0c,.slice p1a p1n p1c] m [] R:=
 Zad (E:=ZcT) ZaA mix Try.func28 [.v (.slice p0a p0n p0c),.v (.slice p1a p1n p1c)] [] (by kernel_rfl) (Eq.mp (by kernel_rfl) h)
end Go.Proofs.Ythiefodednaikaa
