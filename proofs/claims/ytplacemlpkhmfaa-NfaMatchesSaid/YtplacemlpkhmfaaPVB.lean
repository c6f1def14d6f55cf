/- Part of the proof: conditions and contracts of functions of this program. No condition of its own. -/
import Derived.Test.YtplacemlpkhmfaaPEnv
set_option linter.unusedVariables false
namespace Go.Proofs.Ytplacemlpkhmfaa
open Go Go.Eng Go.Proofs Go.RowKit
open Go.Value (int slice agg)
open Go.IntKind (u8 u64 i64)
set_option maxRecDepth 100000
noncomputable def ZpB:Env:=EB
def ZiX(p0:Int)(m:Mem)(R:RT):Prop:=
 ∀(b b:Nat),(64:Int)≠(0:Int)∧(64:Int)≠(0:Int)∧(0:Int)≤Int.tmod p0 (64:Int)∧Zae (IntKind.wrap i64 (Int.tdiv p0 (64:Int))) 9∧chk (Nat.ble (0+Int.toNat (IntKind.wrap i64 (Int.tdiv p0
 (64:Int)))*1) (nat_lit 8)) (chk (Nat.beq (List.length (Zan (List.replicate 9 (int u64 0)) (0+Int.toNat (IntKind.wrap i64 (Int.tdiv p0 (64:Int)))*1) [int u64 (IntKind.wrap u64 ((1:Int)*(2:Int) ^ min
 (Int.toNat (Int.tmod p0 (64:Int))) 64))])) 9&&Zb3 (Zan (List.replicate 9 (int u64 0)) (0+Int.toNat (IntKind.wrap i64 (Int.tdiv p0 (64:Int)))*1) [int u64 (IntKind.wrap u64 ((1:Int)*(2:Int) ^ min
 (Int.toNat (Int.tmod p0 (64:Int))) 64))])) (∃(m'':Mem),Mem.le m m''∧Mem.le m'' m∧R (agg (Array.mk (Zan (List.replicate 9 (int u64 0)) (0+Int.toNat (IntKind.wrap i64 (Int.tdiv p0 (64:Int)))*1) [int u64
 (IntKind.wrap u64 ((1:Int)*(2:Int) ^ min (Int.toNat (Int.tmod p0 (64:Int))) 64))]))) m'' []))
theorem ZnD(p0:Int)(m:Mem)(R:RT)(h:ZiX p0 m R):CX Try.prog 90 #[.int .i64 p0] m [] R:=
 Zaf (E:=ZpB) Zar mix Try.func90 [.v (.int .i64 p0)] [] (by kernel_rfl) (Eq.mp (by kernel_rfl) h)
noncomputable def ZfN:Env:=EB
def ZcK(p0b p0o:Nat)(p1:Int)(m:Mem)(R:RT):Prop:=
 (64:Int)≠(0:Int)∧Zae (IntKind.wrap i64 (Int.tdiv p1 (64:Int))) 9∧∃(v:Value),m p0b (p0o+Int.toNat (IntKind.wrap i64 (Int.tdiv p1 (64:Int)))*1)=some v∧(64:Int)≠(0:Int)∧chk (Zby u64
 v&&true) ((0:Int)≤Int.tmod p1 (64:Int)∧∃(m'':Mem),Mem.le m m''∧Mem.le m'' m∧R (Value.bool (IntKind.wrap u64 (↑(BitVec.toNat (BitVec.ofInt 64 (Int.fdiv (RowKit.intOf v) ((2:Int) ^ min (Int.toNat
 (Int.tmod p1 (64:Int))) 64))&&&BitVec.ofInt 64 (1:Int))):Int) == (1:Int))) m'' [])
theorem ZeU(p0b p0o:Nat)(p1:Int)(m:Mem)(R:RT)(h:ZcK p0b p0o p1 m R):CX Try.prog 91 #[.pointer (some ⟨p0b,p0o,none⟩),.int .i64 p1] m [] R:=
 Zaf (E:=ZfN) Zar mix Try.func91 [.v (.pointer (some ⟨p0b,p0o,none⟩)),.v (.int .i64 p1)] [] (by kernel_rfl) (Eq.mp (by kernel_rfl) h)
noncomputable def Zgl:Env:={ EB with
 loops:=(fun i=>bif Nat.beq i 2 then⟨[(6,.int .i64)],[2],[],false⟩ else⟨[],[],[],false⟩)
 dr:=(fun i=>bif Nat.beq i 4 then[⟨0,[],[],none,[],[]⟩,⟨1,[2],[],none,[0],[]⟩,⟨2,[2],[],none,[0,1],[]⟩,⟨3,[],[],none,[],[]⟩,⟨4,[3],[],none,[3],[]⟩,⟨5,[3],[],none,[3,4],[]⟩,⟨6,[],[],none,[0,1,2,3,4,5],[]⟩,⟨7,[2],[],none,[0,1,2,3,4,5,6],[]⟩,⟨8,[2],[2],none,[0,1,2,3,4,5,6,7],[]⟩]else[])
 frzNew:=[3] }
def Zc3(aK aE aM aN aC aG aL fW fX bI aU aV aW aR aS aT cI cJ:Int)(m:Mem)(R:RT):Prop:=
 ∀(b b_1:Nat)(m':Mem),Mem.le m m'→Mem.reads m' b_1 0 [int u64 bI,int u64 aU,int u64 aV,int u64 aW,int u64 aR,int u64 aS,int u64 aT,int u64 cI,int u64 cJ]→∀(b_2:Nat),∃(I:IT),(∃
 (n:Nat),I [int i64 0] [[int u64 aK,int u64 aE,int u64 aM,int u64 aN,int u64 aC,int u64 aG,int u64 aL,int u64 fW,int u64 fX]] [] m' n)∧∀(n:Int)(cs:List Value)(m'_1:Mem) (n_1:
 Nat),Mem.le m' m'_1→I [int i64 n] [cs] [] m'_1 n_1→br (decide (n < (9:Int))) (Zae n 9∧Eng.ZtS cs (0+Int.toNat n*1) fun(v:Value)=>Zae n 9∧Eng.ZtS [int u64 bI,int u64 aU,int u64 aV,
 int u64 aW,int u64 aR,int u64 aS,int u64 aT,int u64 cI,int u64 cJ] (0+Int.toNat n*1) fun(v_1:Value)=>chk (Zby u64 v&&Zby u64 v_1) (Zae n 9∧chk (Nat.ble (0+Int.toNat n*1+1)
 (List.length cs)) ([some (Box.mk b_2 (List.replicate 9 (int u64 0)) 127 9 false true),some (Box.mk b_1 [int u64 bI,int u64 aU,int u64 aV,int u64 aW,int u64 aR,int u64 aS,int u64 aT,int u64 cI,
 int u64 cJ] 127 9 true true),some (Box.mk b [] 127 9 false true)]=[some (Box.mk b_2 (List.replicate 9 (int u64 0)) 127 9 false true),some (Box.mk b_1 [int u64 bI,int u64 aU,int u64 aV,int u64 aW,int
 u64 aR,int u64 aS,int u64 aT,int u64 cI,int u64 cJ] 127 9 true true),some (Box.mk b [] 127 9 false true)]∧∃(n':Nat),n' < n_1∧I [int i64 (IntKind.wrap i64 (n+(1:Int)))] [Zan cs (0 +
 Int.toNat n*1) [int u64 (IntKind.wrap u64 (↑(BitVec.toNat (BitVec.ofInt 64 (RowKit.intOf v)|||BitVec.ofInt 64 (RowKit.intOf v_1))):Int))]] [] m'_1 n'))) (chk (Nat.beq (List.length cs) 9&&Zb3 cs) (∃(m'':
 Mem),Mem.le m m''∧Mem.le m'' m'_1∧R (agg (Array.mk cs)) m'' []))
theorem ZfO(aK aE aM aN aC aG aL fW fX bI aU aV aW aR aS aT cI cJ:Int)(m:Mem)(R:RT)(h:Zc3 aK aE aM aN aC aG aL fW fX bI aU aV aW aR aS aT cI cJ m R):CX Try.prog 152 #[.agg #[.int .u64 aK,.int .u64 aE,.int .u64 aM,.int .u64 aN,.int .u64 aC,.int .u64 aG,.int .u64 aL,.int .u64 fW,.int .u64 fX],.agg #[.int .u64 bI,.int .u64 aU,.int .u64 aV,.int .u64 aW,.int .u64 aR,.int .u64 aS,.int .u64 aT,.int .u64 cI,.int .u64 cJ]] m [] R:=
 Zaf (E:=Zgl) Zar mix Try.func152 [.v (.agg #[.int .u64 aK,.int .u64 aE,.int .u64 aM,.int .u64 aN,.int .u64 aC,.int .u64 aG,.int .u64 aL,.int .u64 fW,.int .u64 fX]),.v (.agg #[.int .u64 bI,.int .u64 aU,.int .u64 aV,.int .u64 aW,.int .u64 aR,.int .u64 aS,.int .u64 aT,.int .u64 cI,.int .u64 cJ])] [] (by kernel_rfl) (Eq.mp (by kernel_rfl) h)
noncomputable def Zep:Env:={ EB with
 loops:=(fun i=>bif Nat.beq i 1 then⟨[(4,.int .i64)],[],[],true⟩ else⟨[],[],[],false⟩) }
def Zcf(p0g:Nat)(p0fi p0ca:List Value)(c0b c0o:Nat)(m:Mem)(xs:List (List Value)):Prop:=
 ∀(l:Nat),∃(I:IT),(∃(n:Nat),I [int i64 0,int i64 0] [] [] m n)∧∀(y n:Int)(m':Mem)(n_1:Nat),Mem.le m m'→I [int i64 y,int i64 n] [] [] m' n_1→br (decide (n < (513:Int))) (∃(v:Value),m'
 c0b c0o=some v∧∃(R:RT),True∧CX Try.prog 91 (Array.mk [v,int i64 n]) m' [] R∧Zaz Shape.bool R∧∀(b:Bool)(m'_1:Mem),Mem.le m' m'_1→R (Value.bool b) m'_1 []→br b ((l=l∧(0:Int)≤y∧
 List.get?Internal xs (Int.toNat y)=some [int i64 n])∧(∃(n':Nat),n' < n_1∧I [int i64 (y+(1:Int)),int i64 (IntKind.wrap i64 (n+(1:Int)))] [] [] m'_1 n')∧((-1:Int)=(↑(List.length xs):Int)∨(-1:
 Int)=(-1:Int))) (∃(n':Nat),n' < n_1∧I [int i64 y,int i64 (IntKind.wrap i64 (n+(1:Int)))] [] [] m'_1 n')) (y=(↑(List.length xs):Int)∨y=(-1:Int))
theorem ZdJ(p0g:Nat)(p0fi p0ca:List Value)(c0b c0o:Nat)(m:Mem)(xs:List (List Value))(h:Zcf p0g p0fi p0ca c0b c0o m xs):IX Try.prog 155 [] [.pointer (some ⟨c0b,c0o,none⟩)] m xs:=
 ZlC (E:=Zep) Zar mix Try.func155 [] [.pointer (some ⟨c0b,c0o,none⟩)] xs (by kernel_rfl) (Eq.mp (by kernel_rfl) h)
noncomputable def ZfP:Env:={ EB with
 frzNew:=[1] }
def ZcL(p0b p0o:Nat)(m:Mem)(R:RT):Prop:=
 ∀(b:Nat)(m':Mem),Mem.le m m'→Mem.reads m' b 0 [Value.pointer (some (Addr.mk p0b p0o none))]→∃(m'':Mem),Mem.le m m''∧Mem.le m'' m'∧R (Value.func (Fn.func 155) (Array.mk []) (Array.mk [Value.pointer
 (some (Addr.mk b 0 none))])) m'' []
theorem ZeV(p0b p0o:Nat)(m:Mem)(R:RT)(h:ZcL p0b p0o m R):CX Try.prog 120 #[.pointer (some ⟨p0b,p0o,none⟩)] m [] R:=
 Zaf (E:=ZfP) Zar mix Try.func120 [.v (.pointer (some ⟨p0b,p0o,none⟩))] [] (by kernel_rfl) (Eq.mp (by kernel_rfl) h)
noncomputable def Zq5:Env:={ EB with
 frzNew:=[2] }
def ZkX(aK aE aM aN p1:Int)(m:Mem)(R:RT):Prop:=
 ∀(b:Nat)(m':Mem),Mem.le m m'→Mem.reads m' b 0 [int u64 aK,int u64 aE,int u64 aM,int u64 aN]→(0:Int)≤(6:Int)∧Zae (Int.fdiv p1 ((2:Int) ^ 6)) 4∧Eng.ZtS [int u64 aK,int u64 aE,
 int u64 aM,int u64 aN] (0+Int.toNat (Int.fdiv p1 ((2:Int) ^ 6))*1) fun(v:Value)=>chk (Zby u64 v&&true) ((0:Int)≤IntKind.wrap u8 (↑(BitVec.toNat (BitVec.ofInt 8 p1&&&BitVec.ofInt 8 (63:Int)))
 : Int)∧∃(m'':Mem),Mem.le m m''∧Mem.le m'' m'∧R (Value.bool (IntKind.wrap u64 (↑(BitVec.toNat (BitVec.ofInt 64 (Int.fdiv (RowKit.intOf v) ((2:Int) ^ min (Int.toNat (IntKind.wrap u8 (↑(BitVec.toNat
 (BitVec.ofInt 8 p1&&&BitVec.ofInt 8 (63:Int))):Int))) 64))&&&BitVec.ofInt 64 (1:Int))):Int) == (1:Int))) m'' [])
theorem ZpC(aK aE aM aN p1:Int)(m:Mem)(R:RT)(h:ZkX aK aE aM aN p1 m R):CX Try.prog 117 #[.agg #[.int .u64 aK,.int .u64 aE,.int .u64 aM,.int .u64 aN],.int .u8 p1] m [] R:=
 Zaf (E:=Zq5) Zar mix Try.func117 [.v (.agg #[.int .u64 aK,.int .u64 aE,.int .u64 aM,.int .u64 aN]),.v (.int .u8 p1)] [] (by kernel_rfl) (Eq.mp (by kernel_rfl) h)
noncomputable def ZfQ:Env:={ EB with
 frzNew:=[1] }
def ZcM(aI:Option Addr)(aH aJ:Nat)(aE:Bool)(m:Mem)(R:RT):Prop:=
 ∀(b:Nat)(m':Mem),Mem.le m m'→Mem.reads m' b 0 [slice aI aH aJ,Value.bool aE]→∀(b_1:Nat),∃(m'':Mem),Mem.le m m''∧Mem.le m'' m'∧R (agg (Array.mk [Value.func (Fn.func 147) (Array.mk [])
 (Array.mk []),Value.func (Fn.func 148) (Array.mk []) (Array.mk []),Value.func (Fn.func 149) (Array.mk [agg (Array.mk [slice aI aH aJ,Value.bool aE])]) (Array.mk []),Value.func (Fn.func 150) (Array.mk [])
 (Array.mk [Value.pointer (some (Addr.mk b 0 none))]),Value.func (Fn.func 151) (Array.mk []) (Array.mk [Value.pointer (some (Addr.mk b 0 none))]),Value.func (Fn.func 153) (Array.mk [agg (Array.mk [slice aI aH
 aJ,Value.bool aE])]) (Array.mk []),Value.func (Fn.func 154) (Array.mk []) (Array.mk [Value.pointer (some (Addr.mk b 0 none))])])) m'' []
set_option maxHeartbeats 4000000 in
theorem ZeW(aI:Option Addr)(aH aJ:Nat)(aE:Bool)(m:Mem)(R:RT)(h:ZcM aI aH aJ aE m R):CX Try.prog 119 #[.agg #[.slice aI aH aJ,.bool aE]] m [] R:=
 Zaf (E:=ZfQ) Zar mix Try.func119 [.v (.agg #[.slice aI aH aJ,.bool aE])] [] (by kernel_rfl) (Eq.mp (by kernel_rfl) h)
noncomputable def Zeq:Env:={ EB with
 frzNew:=[2,3] }
def Zcg(aK aE aM aN aC aG aL:Int)(aB:Option Addr)(aA aD:Nat)(bI aU aV aW aR aS aT cI cJ:Int)(m:Mem)(R:RT):Prop:=
 ∀(b:Nat)(m':Mem),Mem.le m m'→Mem.reads m' b 0 [int u8 aK,int u64 aE,int u64 aM,int u64 aN,int u64 aC,int i64 aG,int i64 aL,slice aB aA aD]→∀(b:Nat)(m'_1:Mem),Mem.le m'
 m'_1→Mem.reads m'_1 b 0 [int u64 bI,int u64 aU,int u64 aV,int u64 aW,int u64 aR,int u64 aS,int u64 aT,int u64 cI,int u64 cJ]→∀(b:Nat),∃(m'':Mem),Mem.le m m''∧Mem.le m'' m'_1∧R
 (agg (Array.mk (List.replicate 9 (int u64 0)))) m'' []
theorem ZdK(aK aE aM aN aC aG aL:Int)(aB:Option Addr)(aA aD:Nat)(bI aU aV aW aR aS aT cI cJ:Int)(m:Mem)(R:RT)(h:Zcg aK aE aM aN aC aG aL aB aA aD bI aU aV aW aR aS aT cI cJ m R):CX Try.prog 147 #[.agg #[.int .u8 aK,.int .u64 aE,.int .u64 aM,.int .u64 aN,.int .u64 aC,.int .i64 aG,.int .i64 aL,.slice aB aA aD],.agg #[.int .u64 bI,.int .u64 aU,.int .u64 aV,.int .u64 aW,.int .u64 aR,.int .u64 aS,.int .u64 aT,.int .u64 cI,.int .u64 cJ]] m [] R:=
 Zaf (E:=Zeq) Zar mix Try.func147 [.v (.agg #[.int .u8 aK,.int .u64 aE,.int .u64 aM,.int .u64 aN,.int .u64 aC,.int .i64 aG,.int .i64 aL,.slice aB aA aD]),.v (.agg #[.int .u64 bI,.int .u64 aU,.int .u64 aV,.int .u64 aW,.int .u64 aR,.int .u64 aS,.int .u64 aT,.int .u64 cI,.int .u64 cJ])] [] (by kernel_rfl) (Eq.mp (by kernel_rfl) h)
noncomputable def Zer:Env:={ EB with
 frzNew:=[2,3] }
def Zch(aK aE aM aN aC aG aL:Int)(aB:Option Addr)(aA aD:Nat)(bI aU aV aW aR aS aT cI cJ:Int)(m:Mem)(R:RT):Prop:=
 ∀(b:Nat)(m':Mem),Mem.le m m'→Mem.reads m' b 0 [int u8 aK,int u64 aE,int u64 aM,int u64 aN,int u64 aC,int i64 aG,int i64 aL,slice aB aA aD]→∀(b:Nat)(m'_1:Mem),Mem.le m'
 m'_1→Mem.reads m'_1 b 0 [int u64 bI,int u64 aU,int u64 aV,int u64 aW,int u64 aR,int u64 aS,int u64 aT,int u64 cI,int u64 cJ]→∀(b:Nat),∃(m'':Mem),Mem.le m m''∧Mem.le m'' m'_1∧R
 (agg (Array.mk [int u64 bI,int u64 aU,int u64 aV,int u64 aW,int u64 aR,int u64 aS,int u64 aT,int u64 cI,int u64 cJ])) m'' []
theorem ZdL(aK aE aM aN aC aG aL:Int)(aB:Option Addr)(aA aD:Nat)(bI aU aV aW aR aS aT cI cJ:Int)(m:Mem)(R:RT)(h:Zch aK aE aM aN aC aG aL aB aA aD bI aU aV aW aR aS aT cI cJ m R):CX Try.prog 148 #[.agg #[.int .u8 aK,.int .u64 aE,.int .u64 aM,.int .u64 aN,.int .u64 aC,.int .i64 aG,.int .i64 aL,.slice aB aA aD],.agg #[.int .u64 bI,.int .u64 aU,.int .u64 aV,.int .u64 aW,.int .u64 aR,.int .u64 aS,.int .u64 aT,.int .u64 cI,.int .u64 cJ]] m [] R:=
 Zaf (E:=Zer) Zar mix Try.func148 [.v (.agg #[.int .u8 aK,.int .u64 aE,.int .u64 aM,.int .u64 aN,.int .u64 aC,.int .i64 aG,.int .i64 aL,.slice aB aA aD]),.v (.agg #[.int .u64 bI,.int .u64 aU,.int .u64 aV,.int .u64 aW,.int .u64 aR,.int .u64 aS,.int .u64 aT,.int .u64 cI,.int .u64 cJ])] [] (by kernel_rfl) (Eq.mp (by kernel_rfl) h)
noncomputable def ZfR:Env:={ EB with
 loops:=(fun i=>bif Nat.beq i 3 then⟨[(15,.int .i64)],[7],[],false⟩ else⟨[],[],[],false⟩)
 joins:=(fun i=>bif Nat.beq i 8 then some [(34,.bool)]else none)
 dr:=(fun i=>bif Nat.beq i 9 then[⟨0,[7],[],none,[],[]⟩,⟨1,[],[],none,[],[]⟩,⟨2,[],[],none,[1],[]⟩,⟨3,[],[],none,[0,1,2],[2]⟩,⟨4,[7],[7],none,[0,1,2,3],[]⟩]else[])
 frzNew:=[3,4,5] }
def ZcN(aI:Option Addr)(aH aJ:Nat)(aE:Bool)(bI aU aV aW aR aS aT:Int)(aO:Option Addr)(aP aQ:Nat)(bK bL bM bN bO bP bQ bU bV:Int)(m:Mem)(R:RT):Prop:=
 ∀(b:Nat)(m':Mem),Mem.le m m'→Mem.reads m' b 0 [slice aI aH aJ,Value.bool aE]→∀(ac:Nat)(a4:Mem),Mem.le m' a4→Mem.reads a4 ac 0 [int u8 bI,int u64 aU,int u64 aV,int u64 aW,int
 u64 aR,int i64 aS,int i64 aT,slice aO aP aQ]→∀(aa:Nat)(m':Mem),Mem.le a4 m'→Mem.reads m' aa 0 [int u64 bK,int u64 bL,int u64 bM,int u64 bN,int u64 bO,int u64 bP,int u64
 bQ,int u64 bU,int u64 bV]→∀(ad ae:Nat),∃(I:IT),(∃(n:Nat),I [int i64 0] [List.replicate 9 (int u64 0)] [] m' n)∧∀(n:Int)(cs:List Value)(ab:Mem)(aq:Nat),Mem.le m' ab→I [int i64 n]
 [cs] [] ab aq→br (decide (n < (↑aH:Int))) (∃(a5:Nat),∃(o:Nat),aI=some (Addr.mk a5 o none)∧Zae n aH∧∃(v:Value),ab a5 (o+Int.toNat n*1)=some v∧br aE (∃(ag:Bool),(∃(R:
 RT),True∧CX Try.prog 91 (Array.mk [Value.pointer (some (Addr.mk aa 0 none)),int i64 (IntKind.wrap i64 (n+(1:Int)))]) ab [] R∧Zaz Shape.bool R∧∀(ar:Bool)(m':Mem),Mem.le ab m'→R (Value.bool ar) m' []
 → br ar (∃(R:RT),True∧CX Try.prog 117 (Array.mk [agg (Array.mk [int u64 aU,int u64 aV,int u64 aW,int u64 aR]),v]) m' [] R∧Zaz Shape.bool R∧∀(au:Bool)(af:Mem),Mem.le m' af→R (Value.bool
 au) af []→[some (Box.mk ae cs 127 9 false true),some (Box.mk ad (List.replicate 9 (int u64 0)) 127 9 false true),some (Box.mk aa [int u64 bK,int u64 bL,int u64 bM,int u64 bN,int u64 bO,int u64 bP,
 int u64 bQ,int u64 bU,int u64 bV] 127 9 true true),some (Box.mk ac [int u8 bI,int u64 aU,int u64 aV,int u64 aW,int u64 aR,int i64 aS,int i64 aT,slice aO aP aQ] 41 8 true true),
 some (Box.mk b [slice aI aH aJ,Value.bool aE] 129 2 true true)]=[some (Box.mk ae cs 127 9 false true),some (Box.mk ad (List.replicate 9 (int u64 0)) 127 9 false true),some (Box.mk aa [int u64 bK,int
 u64 bL,int u64 bM,int u64 bN,int u64 bO,int u64 bP,int u64 bQ,int u64 bU,int u64 bV] 127 9 true true),some (Box.mk ac [int u8 bI,int u64 aU,int u64 aV,int u64 aW,int u64 aR,int i64
 aS,int i64 aT,slice aO aP aQ] 41 8 true true),some (Box.mk b [slice aI aH aJ,Value.bool aE] 129 2 true true)]∧[Value.bool au]=[Value.bool ag]) ([some (Box.mk ae cs 127 9 false true),some
 (Box.mk ad (List.replicate 9 (int u64 0)) 127 9 false true),some (Box.mk aa [int u64 bK,int u64 bL,int u64 bM,int u64 bN,int u64 bO,int u64 bP,int u64 bQ,int u64 bU,int u64 bV] 127 9 true
 true),some (Box.mk ac [int u8 bI,int u64 aU,int u64 aV,int u64 aW,int u64 aR,int i64 aS,int i64 aT,slice aO aP aQ] 41 8 true true),some (Box.mk b [slice aI aH aJ,Value.bool
 aE] 129 2 true true)]=[some (Box.mk ae cs 127 9 false true),some (Box.mk ad (List.replicate 9 (int u64 0)) 127 9 false true),some (Box.mk aa [int u64 bK,int u64 bL,int u64 bM,int u64 bN,int u64 bO,
 int u64 bP,int u64 bQ,int u64 bU,int u64 bV] 127 9 true true),some (Box.mk ac [int u8 bI,int u64 aU,int u64 aV,int u64 aW,int u64 aR,int i64 aS,int i64 aT,slice aO aP aQ] 41 8
 true true),some (Box.mk b [slice aI aH aJ,Value.bool aE] 129 2 true true)]∧[Value.bool false]=[Value.bool ag]))∧br ag (∃(f:Fx),∃(R:RT),R=f 2 [int i64 n] ab∧CX Try.prog 90 (Array.mk [int
 i64 n]) ab [] R∧Zaz (Shape.agg [Shape.int u64,Shape.int u64,Shape.int u64,Shape.int u64,Shape.int u64,Shape.int u64,Shape.int u64,Shape.int u64,Shape.int u64]) R∧∀(ah ai aj ak al am an ao ap:Int) (m':
 Mem),Mem.le ab m'→R (agg (Array.mk [int u64 ah,int u64 ai,int u64 aj,int u64 ak,int u64 al,int u64 am,int u64 an,int u64 ao,int u64 ap])) m' []→∃(R:RT),R=f 3 [agg (Array.mk cs),agg (Array.mk [int u64
 ah,int u64 ai,int u64 aj,int u64 ak,int u64 al,int u64 am,int u64 an,int u64 ao,int u64 ap])] m'∧CX Try.prog 152 (Array.mk [agg (Array.mk cs),agg (Array.mk [int u64 ah,int u64 ai,int u64 aj,int u64 ak,int
 u64 al,int u64 am,int u64 an,int u64 ao,int u64 ap])]) m' [] R∧Zaz (Shape.agg [Shape.int u64,Shape.int u64,Shape.int u64,Shape.int u64,Shape.int u64,Shape.int u64,Shape.int u64,Shape.int u64,Shape.int
 u64]) R∧∀(av aw ax ay az a0 a1 a2 a3:Int)(af:Mem),Mem.le m' af→R (agg (Array.mk [int u64 av,int u64 aw,int u64 ax,int u64 ay,int u64 az,int u64 a0,int u64 a1,int u64 a2,int u64 a3])) af []→∀(M:
 Mem),Mem.le ab M→Mem.le m' M→Mem.le af M→[some (Box.mk ae [] 127 9 false true),some (Box.mk ad (List.replicate 9 (int u64 0)) 127 9 false true),some (Box.mk aa [int u64 bK,int u64 bL,int u64 bM,int u64
 bN,int u64 bO,int u64 bP,int u64 bQ,int u64 bU,int u64 bV] 127 9 true true),some (Box.mk ac [int u8 bI,int u64 aU,int u64 aV,int u64 aW,int u64 aR,int i64 aS,int i64 aT,slice aO
 aP aQ] 41 8 true true),some (Box.mk b [slice aI aH aJ,Value.bool aE] 129 2 true true)]=[some (Box.mk ae [] 127 9 false true),some (Box.mk ad (List.replicate 9 (int u64 0)) 127 9 false true),some
 (Box.mk aa [int u64 bK,int u64 bL,int u64 bM,int u64 bN,int u64 bO,int u64 bP,int u64 bQ,int u64 bU,int u64 bV] 127 9 true true),some (Box.mk ac [int u8 bI,int u64 aU,int u64 aV,int
 u64 aW,int u64 aR,int i64 aS,int i64 aT,slice aO aP aQ] 41 8 true true),some (Box.mk b [slice aI aH aJ,Value.bool aE] 129 2 true true)]∧∃(n':Nat),n' < aq∧I [int i64
 (IntKind.wrap i64 (n+(1:Int)))] [[int u64 av,int u64 aw,int u64 ax,int u64 ay,int u64 az,int u64 a0,int u64 a1,int u64 a2,int u64 a3]] [] M n') ([some (Box.mk ae [] 127 9 false true),some (Box.mk ad
 (List.replicate 9 (int u64 0)) 127 9 false true),some (Box.mk aa [int u64 bK,int u64 bL,int u64 bM,int u64 bN,int u64 bO,int u64 bP,int u64 bQ,int u64 bU,int u64 bV] 127 9 true true),some
 (Box.mk ac [int u8 bI,int u64 aU,int u64 aV,int u64 aW,int u64 aR,int i64 aS,int i64 aT,slice aO aP aQ] 41 8 true true),some (Box.mk b [slice aI aH aJ,Value.bool aE] 129 2 true
 true)]=[some (Box.mk ae [] 127 9 false true),some (Box.mk ad (List.replicate 9 (int u64 0)) 127 9 false true),some (Box.mk aa [int u64 bK,int u64 bL,int u64 bM,int u64 bN,int u64 bO,int u64 bP,int
 u64 bQ,int u64 bU,int u64 bV] 127 9 true true),some (Box.mk ac [int u8 bI,int u64 aU,int u64 aV,int u64 aW,int u64 aR,int i64 aS,int i64 aT,slice aO aP aQ] 41 8 true true),some
 (Box.mk b [slice aI aH aJ,Value.bool aE] 129 2 true true)]∧∃(n':Nat),n' < aq∧I [int i64 (IntKind.wrap i64 (n+(1:Int)))] [cs] [] ab n')) (∃(ag:Bool),(∃(R:RT),True∧CX Try.prog 91
 (Array.mk [Value.pointer (some (Addr.mk aa 0 none)),int i64 n]) ab [] R∧Zaz Shape.bool R∧∀(ar:Bool)(m':Mem),Mem.le ab m'→R (Value.bool ar) m' []→br ar (∃(R:RT),True∧CX Try.prog 117 (Array.mk [agg
 (Array.mk [int u64 aU,int u64 aV,int u64 aW,int u64 aR]),v]) m' [] R∧Zaz Shape.bool R∧∀(au:Bool)(af:Mem),Mem.le m' af→R (Value.bool au) af []→[some (Box.mk ae cs 127 9 false true),some
 (Box.mk ad (List.replicate 9 (int u64 0)) 127 9 false true),some (Box.mk aa [int u64 bK,int u64 bL,int u64 bM,int u64 bN,int u64 bO,int u64 bP,int u64 bQ,int u64 bU,int u64 bV] 127 9 true
 true),some (Box.mk ac [int u8 bI,int u64 aU,int u64 aV,int u64 aW,int u64 aR,int i64 aS,int i64 aT,slice aO aP aQ] 41 8 true true),some (Box.mk b [slice aI aH aJ,Value.bool
 aE] 129 2 true true)]=[some (Box.mk ae cs 127 9 false true),some (Box.mk ad (List.replicate 9 (int u64 0)) 127 9 false true),some (Box.mk aa [int u64 bK,int u64 bL,int u64 bM,int u64 bN,int u64 bO,
 int u64 bP,int u64 bQ,int u64 bU,int u64 bV] 127 9 true true),some (Box.mk ac [int u8 bI,int u64 aU,int u64 aV,int u64 aW,int u64 aR,int i64 aS,int i64 aT,slice aO aP aQ] 41 8
 true true),some (Box.mk b [slice aI aH aJ,Value.bool aE] 129 2 true true)]∧[Value.bool au]=[Value.bool ag]) ([some (Box.mk ae cs 127 9 false true),some (Box.mk ad (List.replicate 9 (int u64 0)) 127 9
 false true),some (Box.mk aa [int u64 bK,int u64 bL,int u64 bM,int u64 bN,int u64 bO,int u64 bP,int u64 bQ,int u64 bU,int u64 bV] 127 9 true true),some (Box.mk ac [int u8 bI,int u64 aU,
 int u64 aV,int u64 aW,int u64 aR,int i64 aS,int i64 aT,slice aO aP aQ] 41 8 true true),some (Box.mk b [slice aI aH aJ,Value.bool aE] 129 2 true true)]=[some (Box.mk ae cs 127 9
 false true),some (Box.mk ad (List.replicate 9 (int u64 0)) 127 9 false true),some (Box.mk aa [int u64 bK,int u64 bL,int u64 bM,int u64 bN,int u64 bO,int u64 bP,int u64 bQ,int u64 bU,int u64
 bV] 127 9 true true),some (Box.mk ac [int u8 bI,int u64 aU,int u64 aV,int u64 aW,int u64 aR,int i64 aS,int i64 aT,slice aO aP aQ] 41 8 true true),some (Box.mk b [slice aI aH
 aJ,Value.bool aE] 129 2 true true)]∧[Value.bool false]=[Value.bool ag]))∧br ag (∃(f:Fx),∃(R:RT),R=f 2 [int i64 (IntKind.wrap i64 (n+(1:Int)))] ab∧CX Try.prog 90 (Array.mk [int i64
 (IntKind.wrap i64 (n+(1:Int)))]) ab [] R∧Zaz (Shape.agg [Shape.int u64,Shape.int u64,Shape.int u64,Shape.int u64,Shape.int u64,Shape.int u64,Shape.int u64,Shape.int u64,Shape.int u64]) R∧∀(ah ai aj ak
 al am an ao ap:Int) (m':Mem),Mem.le ab m'→R (agg (Array.mk [int u64 ah,int u64 ai,int u64 aj,int u64 ak,int u64 al,int u64 am,int u64 an,int u64 ao,int u64 ap])) m' []→∃(R:RT),R=f 3 [agg (Array.mk
 cs),agg (Array.mk [int u64 ah,int u64 ai,int u64 aj,int u64 ak,int u64 al,int u64 am,int u64 an,int u64 ao,int u64 ap])] m'∧CX Try.prog 152 (Array.mk [agg (Array.mk cs),agg (Array.mk [int u64 ah,int u64 ai,
 int u64 aj,int u64 ak,int u64 al,int u64 am,int u64 an,int u64 ao,int u64 ap])]) m' [] R∧Zaz (Shape.agg [Shape.int u64,Shape.int u64,Shape.int u64,Shape.int u64,Shape.int u64,Shape.int u64,Shape.int u64,
 Shape.int u64,Shape.int u64]) R∧∀(av aw ax ay az a0 a1 a2 a3:Int)(af:Mem),Mem.le m' af→R (agg (Array.mk [int u64 av,int u64 aw,int u64 ax,int u64 ay,int u64 az,int u64 a0,int u64 a1,int u64 a2,int
 u64 a3])) af []→∀(M:Mem),Mem.le ab M→Mem.le m' M→Mem.le af M→[some (Box.mk ae [] 127 9 false true),some (Box.mk ad (List.replicate 9 (int u64 0)) 127 9 false true),some (Box.mk aa [int u64 bK,int u64
 bL,int u64 bM,int u64 bN,int u64 bO,int u64 bP,int u64 bQ,int u64 bU,int u64 bV] 127 9 true true),some (Box.mk ac [int u8 bI,int u64 aU,int u64 aV,int u64 aW,int u64 aR,int i64
 aS,int i64 aT,slice aO aP aQ] 41 8 true true),some (Box.mk b [slice aI aH aJ,Value.bool aE] 129 2 true true)]=[some (Box.mk ae [] 127 9 false true),some (Box.mk ad (List.replicate 9 (int
 u64 0)) 127 9 false true),some (Box.mk aa [int u64 bK,int u64 bL,int u64 bM,int u64 bN,int u64 bO,int u64 bP,int u64 bQ,int u64 bU,int u64 bV] 127 9 true true),some (Box.mk ac [int u8 bI,
 int u64 aU,int u64 aV,int u64 aW,int u64 aR,int i64 aS,int i64 aT,slice aO aP aQ] 41 8 true true),some (Box.mk b [slice aI aH aJ,Value.bool aE] 129 2 true true)]∧∃(n':Nat),
 n' < aq∧I [int i64 (IntKind.wrap i64 (n+(1:Int)))] [[int u64 av,int u64 aw,int u64 ax,int u64 ay,int u64 az,int u64 a0,int u64 a1,int u64 a2,int u64 a3]] [] M n') ([some (Box.mk ae [] 127 9 false true),
 some (Box.mk ad (List.replicate 9 (int u64 0)) 127 9 false true),some (Box.mk aa [int u64 bK,int u64 bL,int u64 bM,int u64 bN,int u64 bO,int u64 bP,int u64 bQ,int u64 bU,int u64 bV] 127 9 true
 true),some (Box.mk ac [int u8 bI,int u64 aU,int u64 aV,int u64 aW,int u64 aR,int i64 aS,int i64 aT,slice aO aP aQ] 41 8 true true),some (Box.mk b [slice aI aH aJ,Value.bool
 aE] 129 2 true true)]=[some (Box.mk ae [] 127 9 false true),some (Box.mk ad (List.replicate 9 (int u64 0)) 127 9 false true),some (Box.mk aa [int u64 bK,int u64 bL,int u64 bM,int u64 bN,int u64 bO,
 int u64 bP,int u64 bQ,int u64 bU,int u64 bV] 127 9 true true),some (Box.mk ac [int u8 bI,int u64 aU,int u64 aV,int u64 aW,int u64 aR,int i64 aS,int i64 aT,slice aO aP aQ] 41 8
 true true),some (Box.mk b [slice aI aH aJ,Value.bool aE] 129 2 true true)]∧∃(n':Nat),n' < aq∧I [int i64 (IntKind.wrap i64 (n+(1:Int)))] [cs] [] ab n'))) (chk (Nat.beq (List.length cs) 9&&Zb3
 cs) (∃(m'':Mem),Mem.le m m''∧Mem.le m'' ab∧R (agg (Array.mk cs)) m'' []))
theorem ZeX(aI:Option Addr)(aH aJ:Nat)(aE:Bool)(bI aU aV aW aR aS aT:Int)(aO:Option Addr)(aP aQ:Nat)(bK bL bM bN bO bP bQ bU bV:Int)(m:Mem)(R:RT)(h:ZcN aI aH aJ aE bI aU aV aW aR aS aT aO aP aQ bK bL bM bN bO bP bQ bU bV m R):CX Try.prog 149 #[.agg #[.slice aI aH aJ,.bool aE],.agg #[.int .u8 bI,.int .u64 aU,.int .u64 aV,.int .u64 aW,.int .u64 aR,.int .i64 aS,.int .i64 aT,.slice aO aP aQ],.agg #[.int .u64 bK,.int .u64 bL,.int .u64 bM,.int .u64 bN,.int .u64 bO,.int .u64 bP,.int .u64 bQ,.int .u64 bU,.int .u64 bV]] m [] R:=
 Zaf (E:=ZfR) Zar mix Try.func149 [.v (.agg #[.slice aI aH aJ,.bool aE]),.v (.agg #[.int .u8 bI,.int .u64 aU,.int .u64 aV,.int .u64 aW,.int .u64 aR,.int .i64 aS,.int .i64 aT,.slice aO aP aQ]),.v (.agg #[.int .u64 bK,.int .u64 bL,.int .u64 bM,.int .u64 bN,.int .u64 bO,.int .u64 bP,.int .u64 bQ,.int .u64 bU,.int .u64 bV])] [] (by kernel_rfl) (Eq.mp (by kernel_rfl) h)
noncomputable def Zes:Env:={ EB with
 loops:=(fun i=>bif Nat.beq i 2 then⟨[(11,.int .i64)],[4],[],false⟩ else⟨[],[],[],false⟩)
 dr:=(fun i=>bif Nat.beq i 7 then[⟨0,[],[],none,[],[]⟩,⟨1,[3],[],none,[],[]⟩,⟨2,[3],[],none,[1],[]⟩,⟨3,[],[],none,[],[]⟩,⟨4,[],[],none,[1,2,3],[]⟩,⟨5,[],[],none,[1,2,3,4],[]⟩,⟨6,[4],[],none,[],[]⟩,⟨7,[],[],none,[0,1,2,3,4,5,6],[]⟩,⟨8,[4],[4],none,[0,1,2,3,4,5,6,7],[]⟩]else[])
 frzNew:=[3] }
def Zci(aK aE aM aN aC aG aL:Int)(aB:Option Addr)(aA aD:Nat)(bI aU aV aW aR aS aT cI cJ:Int)(c0b c0o:Nat)(m:Mem)(R:RT):Prop:=
 ∀(b:Nat)(m':Mem),Mem.le m m'→Mem.reads m' b 0 [int u8 aK,int u64 aE,int u64 aM,int u64 aN,int u64 aC,int i64 aG,int i64 aL,slice aB aA aD]→∀(aw ax:Nat),∃(I:IT),(∃(n:
 Nat),I [int i64 0] [[int u64 bI,int u64 aU,int u64 aV,int u64 aW,int u64 aR,int u64 aS,int u64 aT,int u64 cI,int u64 cJ]] [] m' n)∧∀(n:Int)(cs:List Value)(aa:Mem)(ay:Nat),Mem.le
 m' aa→I [int i64 n] [cs] [] aa ay→br (decide (n < (↑aA:Int))) (∃(v:Value),aa c0b (c0o+1)=some v∧chk (Zag v) (br (Zad v) (∃(f:Fx),∃(v:Value),∃(ab:Value),Mem.reads aa c0b c0o [v,ab]∧
 ∃(ak:Nat),∃(o:Nat),aB=some (Addr.mk ak o none)∧Zae (IntKind.wrap i64 (IntKind.wrap i64 ((↑aA:Int) - (1:Int)) - n)) aA∧∃(ac:Value),∃(ad:Value),∃(ae:Value),∃(af:Value),∃(ag
 : Value),∃(ah:Value),∃(ai:Value),∃(aj:Value),Mem.reads aa ak (o+Int.toNat (IntKind.wrap i64 (IntKind.wrap i64 ((↑aA:Int) - (1:Int)) - n))*8) [ac,ad,ae,af,ag,ah,ai,aj]∧∃(R:RT),R=f 7
 [agg (Array.mk [v,ab]),agg (Array.mk [ac,ad,ae,af,ag,ah,ai,aj]),agg (Array.mk cs)] aa∧CX Try.prog 89 (Array.mk [agg (Array.mk [v,ab]),agg (Array.mk [ac,ad,ae,af,ag,ah,ai,aj]),agg (Array.mk cs)]) aa
 [] R∧Zaz (Shape.agg [Shape.int u64,Shape.int u64,Shape.int u64,Shape.int u64,Shape.int u64,Shape.int u64,Shape.int u64,Shape.int u64,Shape.int u64]) R∧∀(al am an ao ap aq ar au av:Int)(m':Mem),Mem.le
 aa m'→R (agg (Array.mk [int u64 al,int u64 am,int u64 an,int u64 ao,int u64 ap,int u64 aq,int u64 ar,int u64 au,int u64 av])) m' []→∀(M:Mem),Mem.le aa M→Mem.le m' M→[some (Box.mk ax (List.replicate 9
 (int u64 0)) 127 9 false true),some (Box.mk aw [] 127 9 false true),some (Box.mk b [int u8 aK,int u64 aE,int u64 aM,int u64 aN,int u64 aC,int i64 aG,int i64 aL,slice aB aA aD] 41 8 true
 true)]=[some (Box.mk ax (List.replicate 9 (int u64 0)) 127 9 false true),some (Box.mk aw [] 127 9 false true),some (Box.mk b [int u8 aK,int u64 aE,int u64 aM,int u64 aN,int u64 aC,int i64 aG,int
 i64 aL,slice aB aA aD] 41 8 true true)]∧∃(n':Nat),n' < ay∧I [int i64 (IntKind.wrap i64 (n+(1:Int)))] [[int u64 al,int u64 am,int u64 an,int u64 ao,int u64 ap,int u64 aq,int u64 ar,int u64
 au,int u64 av]] [] M n') (∃(f:Fx),∃(v:Value),∃(ab:Value),Mem.reads aa c0b c0o [v,ab]∧∃(ak:Nat),∃(o:Nat),aB=some (Addr.mk ak o none)∧Zae n aA∧∃(ac:Value),∃(ad:Value),∃(ae
 : Value),∃(af:Value),∃(ag:Value),∃(ah:Value),∃(ai:Value),∃(aj:Value),Mem.reads aa ak (o+Int.toNat n*8) [ac,ad,ae,af,ag,ah,ai,aj]∧∃(R:RT),R=f 7 [agg (Array.mk [v,ab]),agg
 (Array.mk [ac,ad,ae,af,ag,ah,ai,aj]),agg (Array.mk cs)] aa∧CX Try.prog 89 (Array.mk [agg (Array.mk [v,ab]),agg (Array.mk [ac,ad,ae,af,ag,ah,ai,aj]),agg (Array.mk cs)]) aa [] R∧Zaz (Shape.agg
 [Shape.int u64,Shape.int u64,Shape.int u64,Shape.int u64,Shape.int u64,Shape.int u64,Shape.int u64,Shape.int u64,Shape.int u64]) R∧∀(al am an ao ap aq ar au av:Int)(m':Mem),Mem.le aa m'→R (agg
 (Array.mk [int u64 al,int u64 am,int u64 an,int u64 ao,int u64 ap,int u64 aq,int u64 ar,int u64 au,int u64 av])) m' []→∀(M:Mem),Mem.le aa M→Mem.le m' M→[some (Box.mk ax (List.replicate 9 (int u64 0))
 127 9 false true),some (Box.mk aw [] 127 9 false true),some (Box.mk b [int u8 aK,int u64 aE,int u64 aM,int u64 aN,int u64 aC,int i64 aG,int i64 aL,slice aB aA aD] 41 8 true true)]=[some
 (Box.mk ax (List.replicate 9 (int u64 0)) 127 9 false true),some (Box.mk aw [] 127 9 false true),some (Box.mk b [int u8 aK,int u64 aE,int u64 aM,int u64 aN,int u64 aC,int i64 aG,int i64 aL,slice
 aB aA aD] 41 8 true true)]∧∃(n':Nat),n' < ay∧I [int i64 (IntKind.wrap i64 (n+(1:Int)))] [[int u64 al,int u64 am,int u64 an,int u64 ao,int u64 ap,int u64 aq,int u64 ar,int u64 au,int u64 av]]
 [] M n'))) (chk (Nat.beq (List.length cs) 9&&Zb3 cs) (∃(m'':Mem),Mem.le m m''∧Mem.le m'' aa∧R (agg (Array.mk cs)) m'' []))
theorem ZdM(aK aE aM aN aC aG aL:Int)(aB:Option Addr)(aA aD:Nat)(bI aU aV aW aR aS aT cI cJ:Int)(c0b c0o:Nat)(m:Mem)(R:RT)(h:Zci aK aE aM aN aC aG aL aB aA aD bI aU aV aW aR aS aT cI cJ c0b c0o m R):CX Try.prog 150 #[.agg #[.int .u8 aK,.int .u64 aE,.int .u64 aM,.int .u64 aN,.int .u64 aC,.int .i64 aG,.int .i64 aL,.slice aB aA aD],.agg #[.int .u64 bI,.int .u64 aU,.int .u64 aV,.int .u64 aW,.int .u64 aR,.int .u64 aS,.int .u64 aT,.int .u64 cI,.int .u64 cJ],.pointer (some ⟨c0b,c0o,none⟩)] m [] R:=
 Zaf (E:=Zes) Zar mix Try.func150 [.v (.agg #[.int .u8 aK,.int .u64 aE,.int .u64 aM,.int .u64 aN,.int .u64 aC,.int .i64 aG,.int .i64 aL,.slice aB aA aD]),.v (.agg #[.int .u64 bI,.int .u64 aU,.int .u64 aV,.int .u64 aW,.int .u64 aR,.int .u64 aS,.int .u64 aT,.int .u64 cI,.int .u64 cJ]),.v (.pointer (some ⟨c0b,c0o,none⟩))] [] (by kernel_rfl) (Eq.mp (by kernel_rfl) h)
noncomputable def Zet:Env:={ EB with
 loops:=(fun i=>bif Nat.beq i 3 then⟨[(12,.int .i64)],[6],[],false⟩ else⟨[],[],[],false⟩)
 dr:=(fun i=>bif Nat.beq i 5 then[⟨0,[6],[],none,[],[]⟩,⟨1,[],[],none,[],[]⟩,⟨2,[8],[],none,[],[]⟩,⟨3,[4],[],none,[],[]⟩,⟨4,[],[],none,[1,2,3],[]⟩,⟨5,[],[],none,[0,1,2,3,4],[4]⟩,⟨6,[6],[6],none,[0,1,2,3,4,5],[]⟩]else[])
 frzNew:=[3,4] }
def Zcj(aK aE aM aN aC aG aL:Int)(aB:Option Addr)(aA aD:Nat)(bI aU aV aW aR aS aT cI cJ:Int)(c0b c0o:Nat)(m:Mem)(R:RT):Prop:=
 ∀(b:Nat)(m':Mem),Mem.le m m'→Mem.reads m' b 0 [int u8 aK,int u64 aE,int u64 aM,int u64 aN,int u64 aC,int i64 aG,int i64 aL,slice aB aA aD]→∀(aj:Nat)(ab:Mem),Mem.le m' ab→
 Mem.reads ab aj 0 [int u64 bI,int u64 aU,int u64 aV,int u64 aW,int u64 aR,int u64 aS,int u64 aT,int u64 cI,int u64 cJ]→∀(ay az:Nat),∃(I:IT),(∃(n:Nat),I [int i64 0] [List.replicate
 9 (int u64 0)] [] ab n)∧∀(n:Int)(cs:List Value)(m':Mem)(a0:Nat),Mem.le ab m'→I [int i64 n] [cs] [] m' a0→br (decide (n < (↑aA:Int))) (∃(a1:Nat),∃(o:Nat),aB=some (Addr.mk a1 o none)∧
 Zae n aA∧∃(v:Value),∃(ac:Value),∃(ad:Value),∃(ae:Value),∃(af:Value),∃(ag:Value),∃(ah:Value),∃(ai:Value),Mem.reads m' a1 (o+Int.toNat n*8) [v,ac,ad,ae,af,ag,ah,ai]∧∀
 (bb:Nat),chk (Value.oneCell' v&&(Value.oneCell' ac&&(Value.oneCell' ad&&(Value.oneCell' ae&&(Value.oneCell' af&&(Value.oneCell' ag&&(Value.oneCell' ah&&(Value.oneCell' ai&&true)))))))) (∃(f:Fx),∃
 (ak:Value),∃(al:Value),Mem.reads m' c0b c0o [ak,al]∧∃(R:RT),R=f 4 [agg (Array.mk [ak,al]),agg (Array.mk [v,ac,ad,ae,af,ag,ah,ai]),agg (Array.mk [int u64 bI,int u64 aU,int u64 aV,int
 u64 aW,int u64 aR,int u64 aS,int u64 aT,int u64 cI,int u64 cJ])] m'∧CX Try.prog 89 (Array.mk [agg (Array.mk [ak,al]),agg (Array.mk [v,ac,ad,ae,af,ag,ah,ai]),agg (Array.mk [int u64 bI,int
 u64 aU,int u64 aV,int u64 aW,int u64 aR,int u64 aS,int u64 aT,int u64 cI,int u64 cJ])]) m' [] R∧Zaz (Shape.agg [Shape.int u64,Shape.int u64,Shape.int u64,Shape.int u64,Shape.int u64,
 Shape.int u64,Shape.int u64,Shape.int u64,Shape.int u64]) R∧∀(am an ao ap aq ar au av aw:Int)(aa:Mem),Mem.le m' aa→R (agg (Array.mk [int u64 am,int u64 an,int u64 ao,int u64 ap,int u64 aq,int u64 ar,
 int u64 au,int u64 av,int u64 aw])) aa []→∃(R:RT),R=f 5 [agg (Array.mk cs),agg (Array.mk [int u64 am,int u64 an,int u64 ao,int u64 ap,int u64 aq,int u64 ar,int u64 au,int u64 av,int u64 aw])] aa∧CX
 Try.prog 152 (Array.mk [agg (Array.mk cs),agg (Array.mk [int u64 am,int u64 an,int u64 ao,int u64 ap,int u64 aq,int u64 ar,int u64 au,int u64 av,int u64 aw])]) aa [] R∧Zaz (Shape.agg [Shape.int u64,
 Shape.int u64,Shape.int u64,Shape.int u64,Shape.int u64,Shape.int u64,Shape.int u64,Shape.int u64,Shape.int u64]) R∧∀(a2 a3 a4 a5 a6 a7 a8 a9 ba:Int)(ax:Mem),Mem.le aa ax→R (agg (Array.mk [int u64 a2,
 int u64 a3,int u64 a4,int u64 a5,int u64 a6,int u64 a7,int u64 a8,int u64 a9,int u64 ba])) ax []→∀(M:Mem),Mem.le m' M→Mem.le aa M→Mem.le ax M→[some (Box.mk az [] 127 9 false true),some (Box.mk ay
 (List.replicate 9 (int u64 0)) 127 9 false true),some (Box.mk aj [int u64 bI,int u64 aU,int u64 aV,int u64 aW,int u64 aR,int u64 aS,int u64 aT,int u64 cI,int u64 cJ] 127 9 true true),some
 (Box.mk b [int u8 aK,int u64 aE,int u64 aM,int u64 aN,int u64 aC,int i64 aG,int i64 aL,slice aB aA aD] 41 8 true true)]=[some (Box.mk az [] 127 9 false true),some (Box.mk ay
 (List.replicate 9 (int u64 0)) 127 9 false true),some (Box.mk aj [int u64 bI,int u64 aU,int u64 aV,int u64 aW,int u64 aR,int u64 aS,int u64 aT,int u64 cI,int u64 cJ] 127 9 true true),some
 (Box.mk b [int u8 aK,int u64 aE,int u64 aM,int u64 aN,int u64 aC,int i64 aG,int i64 aL,slice aB aA aD] 41 8 true true)]∧∃(n':Nat),n' < a0∧I [int i64 (IntKind.wrap i64 (n+(1:
 Int)))] [[int u64 a2,int u64 a3,int u64 a4,int u64 a5,int u64 a6,int u64 a7,int u64 a8,int u64 a9,int u64 ba]] [] M n')) (chk (Nat.beq (List.length cs) 9&&Zb3 cs) (∃(m'':Mem),Mem.le m m''∧Mem.le m'' m'
 ∧ R (agg (Array.mk cs)) m'' []))
theorem ZdN(aK aE aM aN aC aG aL:Int)(aB:Option Addr)(aA aD:Nat)(bI aU aV aW aR aS aT cI cJ:Int)(c0b c0o:Nat)(m:Mem)(R:RT)(h:Zcj aK aE aM aN aC aG aL aB aA aD bI aU aV aW aR aS aT cI cJ c0b c0o m R):CX Try.prog 151 #[.agg #[.int .u8 aK,.int .u64 aE,.int .u64 aM,.int .u64 aN,.int .u64 aC,.int .i64 aG,.int .i64 aL,.slice aB aA aD],.agg #[.int .u64 bI,.int .u64 aU,.int .u64 aV,.int .u64 aW,.int .u64 aR,.int .u64 aS,.int .u64 aT,.int .u64 cI,.int .u64 cJ],.pointer (some ⟨c0b,c0o,none⟩)] m [] R:=
 Zaf (E:=Zet) Zar mix Try.func151 [.v (.agg #[.int .u8 aK,.int .u64 aE,.int .u64 aM,.int .u64 aN,.int .u64 aC,.int .i64 aG,.int .i64 aL,.slice aB aA aD]),.v (.agg #[.int .u64 bI,.int .u64 aU,.int .u64 aV,.int .u64 aW,.int .u64 aR,.int .u64 aS,.int .u64 aT,.int .u64 cI,.int .u64 cJ]),.v (.pointer (some ⟨c0b,c0o,none⟩))] [] (by kernel_rfl) (Eq.mp (by kernel_rfl) h)
noncomputable def ZeY:Env:={ EB with
 loops:=(fun i=>bif Nat.beq i 2 then⟨[(13,.int .i64)],[5],[],false⟩ else bif Nat.beq i 7 then⟨[(9,.int .i64)],[6,7,8],[],false⟩ else⟨[],[],[],false⟩)
 dr:=(fun i=>bif Nat.beq i 3 then[⟨0,[3],[],none,[],[]⟩,⟨1,[4],[],none,[],[]⟩,⟨2,[4],[],none,[1],[]⟩,⟨3,[],[],none,[1,2],[]⟩,⟨4,[],[],none,[1,2,3],[]⟩,⟨5,[5],[],none,[],[]⟩,⟨6,[],[],none,[0,1,2,3,4,5],[]⟩,⟨7,[5],[5],none,[0,1,2,3,4,5,6],[]⟩]else bif Nat.beq i 5 then[⟨0,[5],[],none,[],[]⟩,⟨1,[5],[],none,[],[]⟩,⟨2,[7],[7],none,[],[]⟩,⟨3,[8],[8],none,[],[]⟩,⟨4,[7],[7],none,[0,2,3],[]⟩,⟨5,[8],[8],none,[0,1,2,3,4],[]⟩]else bif Nat.beq i 9 then[⟨0,[3],[],none,[],[]⟩,⟨1,[4],[],none,[],[]⟩,⟨2,[4],[],none,[1],[]⟩,⟨3,[],[],none,[1,2],[]⟩,⟨4,[],[],none,[1,2,3],[]⟩,⟨5,[8],[],none,[],[]⟩,⟨6,[],[],none,[0,1,2,3,4,5],[]⟩,⟨7,[8],[8],none,[0,1,2,3,4,5,6],[]⟩]else[])
 frzNew:=[3,4] }
def Zct(aI:Option Addr)(aH aJ:Nat)(aE:Bool)(bI aU aV aW aR aS aT:Int)(aO:Option Addr)(aP aQ:Nat)(bK bL bM bN bO bP bQ bU bV:Int)(m:Mem)(R:RT):Prop:=
 ∀(b:Nat)(m':Mem),Mem.le m m'→Mem.reads m' b 0 [slice aI aH aJ,Value.bool aE]→∀(au:Nat)(aw:Mem),Mem.le m' aw→Mem.reads aw au 0 [int u8 bI,int u64 aU,int u64 aV,int u64 aW,int
 u64 aR,int i64 aS,int i64 aT,slice aO aP aQ]→∀(ax ay:Nat),∃(I:IT),(∃(n:Nat),I [int i64 0] [[int u64 bK,int u64 bL,int u64 bM,int u64 bN,int u64 bO,int u64 bP,int u64
 bQ,int u64 bU,int u64 bV]] [] aw n)∧∀(n:Int)(cs:List Value)(m':Mem)(bb:Nat),Mem.le aw m'→I [int i64 n] [cs] [] m' bb→br (decide (n < aS)) (∃(f:Fx),∃(ac:Nat),∃(o:Nat),aO=some
 (Addr.mk ac o none)∧Zae (0:Int) aP∧∃(v:Value),∃(ad:Value),∃(ae:Value),∃(af:Value),∃(ag:Value),∃(ah:Value),∃(ai:Value),∃(aj:Value),Mem.reads m' ac (o+0) [v,ad,ae,af,ag,
 ah,ai,aj]∧∃(R:RT),R=f 6 [agg (Array.mk [slice aI aH aJ,Value.bool aE]),agg (Array.mk [v,ad,ae,af,ag,ah,ai,aj]),agg (Array.mk cs)] m'∧CX Try.prog 89 (Array.mk [agg (Array.mk [slice aI
 aH aJ,Value.bool aE]),agg (Array.mk [v,ad,ae,af,ag,ah,ai,aj]),agg (Array.mk cs)]) m' [] R∧Zaz (Shape.agg [Shape.int u64,Shape.int u64,Shape.int u64,Shape.int u64,Shape.int u64,Shape.int u64,
 Shape.int u64,Shape.int u64,Shape.int u64]) R∧∀(av ak al am an ao ap aq ar:Int)(aa:Mem),Mem.le m' aa→R (agg (Array.mk [int u64 av,int u64 ak,int u64 al,int u64 am,int u64 an,int u64 ao,int u64 ap,int
 u64 aq,int u64 ar])) aa []→∀(M:Mem),Mem.le m' M→Mem.le aa M→[some (Box.mk ay (List.replicate 9 (int u64 0)) 127 9 false true),some (Box.mk ax [] 127 9 false true),some (Box.mk au [int u8 bI,int u64 aU,
 int u64 aV,int u64 aW,int u64 aR,int i64 aS,int i64 aT,slice aO aP aQ] 41 8 true true),some (Box.mk b [slice aI aH aJ,Value.bool aE] 129 2 true true)]=[some (Box.mk ay
 (List.replicate 9 (int u64 0)) 127 9 false true),some (Box.mk ax [] 127 9 false true),some (Box.mk au [int u8 bI,int u64 aU,int u64 aV,int u64 aW,int u64 aR,int i64 aS,int i64 aT,slice aO aP
 aQ] 41 8 true true),some (Box.mk b [slice aI aH aJ,Value.bool aE] 129 2 true true)]∧∃(n':Nat),n' < bb∧I [int i64 (IntKind.wrap i64 (n+(1:Int)))] [[int u64 av,int u64 ak,int u64 al,int u64
 am,int u64 an,int u64 ao,int u64 ap,int u64 aq,int u64 ar]] [] M n') (∀(ac az:Nat),chk (Nat.beq (List.length cs) 9&&Zb3 cs) (chk (Nat.beq (List.length cs) 9&&Zb3 cs) (∃(I:IT),(∃(n:Nat),I [int
 i64 aS] [List.replicate 9 (int u64 0),cs,cs] [] m' n)∧∀(n:Int)(bc ab a0:List Value)(aa:Mem)(av:Nat),Mem.le m' aa→I [int i64 n] [bc,ab,a0] [] aa av→br (!n == aT) (∃(f:Fx),∃(bd:Nat),∃(o
 : Nat),aO=some (Addr.mk bd o none)∧Zae (0:Int) aP∧∃(v:Value),∃(ad:Value),∃(ae:Value),∃(af:Value),∃(ag:Value),∃(ah:Value),∃(ai:Value),∃(aj:Value),Mem.reads aa bd (o+0)
 [v,ad,ae,af,ag,ah,ai,aj]∧∃(R_1:RT),R_1=f 6 [agg (Array.mk [slice aI aH aJ,Value.bool aE]),agg (Array.mk [v,ad,ae,af,ag,ah,ai,aj]),agg (Array.mk a0)] aa∧CX Try.prog 89 (Array.mk [agg
 (Array.mk [slice aI aH aJ,Value.bool aE]),agg (Array.mk [v,ad,ae,af,ag,ah,ai,aj]),agg (Array.mk a0)]) aa [] R_1∧Zaz (Shape.agg [Shape.int u64,Shape.int u64,Shape.int u64,Shape.int u64,
 Shape.int u64,Shape.int u64,Shape.int u64,Shape.int u64,Shape.int u64]) R_1∧∀(ak al am an ao ap aq ar a1:Int)(m':Mem),Mem.le aa m'→R_1 (agg (Array.mk [int u64 ak,int u64 al,int u64 am,int u64 an,int
 u64 ao,int u64 ap,int u64 aq,int u64 ar,int u64 a1])) m' []→∀(M:Mem),Mem.le aa M→Mem.le m' M→∃(R_2:RT),True∧CX Try.prog 152 (Array.mk [agg (Array.mk ab),agg (Array.mk [int u64 ak,int u64 al,int
 u64 am,int u64 an,int u64 ao,int u64 ap,int u64 aq,int u64 ar,int u64 a1])]) M [] R_2∧Zaz (Shape.agg [Shape.int u64,Shape.int u64,Shape.int u64,Shape.int u64,Shape.int u64,Shape.int u64,Shape.int u64,
 Shape.int u64,Shape.int u64]) R_2∧∀(a2 a3 a4 a5 a6 a7 a8 a9 ba:Int)(m':Mem),Mem.le M m'→R_2 (agg (Array.mk [int u64 a2,int u64 a3,int u64 a4,int u64 a5,int u64 a6,int u64 a7,int u64 a8,int u64 a9,int
 u64 ba])) m' []→∀(bf:Nat),∃(be:Bool),EqIs Try.prog 127 (agg (Array.mk [int u64 a2,int u64 a3,int u64 a4,int u64 a5,int u64 a6,int u64 a7,int u64 a8,int u64 a9,int u64 ba])) (agg (Array.mk ab)) be∧br
 be (chk (Nat.beq (List.length ab) 9&&Zb3 ab) (∃(m'':Mem),Mem.le m m''∧Mem.le m'' m'∧R (agg (Array.mk ab)) m'' [])) ([some (Box.mk ac [] 127 9 false true),some (Box.mk az [] 127 9 false true),some (Box.mk
 ac [] 127 9 false true),some (Box.mk az [] 127 9 false true),some (Box.mk ay [] 127 9 false true),some (Box.mk ax cs 127 9 false true),some (Box.mk au [int u8 bI,int u64 aU,int u64 aV,int u64 aW,int u64
 aR,int i64 aS,int i64 aT,slice aO aP aQ] 41 8 true true),some (Box.mk b [slice aI aH aJ,Value.bool aE] 129 2 true true)]=[some (Box.mk ac [] 127 9 false true),some (Box.mk az [] 127 9
 false true),some (Box.mk ac [] 127 9 false true),some (Box.mk az [] 127 9 false true),some (Box.mk ay [] 127 9 false true),some (Box.mk ax cs 127 9 false true),some (Box.mk au [int u8 bI,int u64 aU,int u64
 aV,int u64 aW,int u64 aR,int i64 aS,int i64 aT,slice aO aP aQ] 41 8 true true),some (Box.mk b [slice aI aH aJ,Value.bool aE] 129 2 true true)]∧∃(n':Nat),n' < av∧I [int i64
 (IntKind.wrap i64 (n+(1:Int)))] [bc,[int u64 a2,int u64 a3,int u64 a4,int u64 a5,int u64 a6,int u64 a7,int u64 a8,int u64 a9,int u64 ba],[int u64 ak,int u64 al,int u64 am,int u64 an,int u64 ao,int u64
 ap,int u64 aq,int u64 ar,int u64 a1]] [] m' n')) (chk (Nat.beq (List.length ab) 9&&Zb3 ab) (∃(m'':Mem),Mem.le m m''∧Mem.le m'' aa∧R (agg (Array.mk ab)) m'' [])))))
theorem Zeu(aI:Option Addr)(aH aJ:Nat)(aE:Bool)(bI aU aV aW aR aS aT:Int)(aO:Option Addr)(aP aQ:Nat)(bK bL bM bN bO bP bQ bU bV:Int)(m:Mem)(R:RT)(h:Zct aI aH aJ aE bI aU aV aW aR aS aT aO aP aQ bK bL bM bN bO bP bQ bU bV m R):CX Try.prog 153 #[.agg #[.slice aI aH aJ,.bool aE],.agg #[.int .u8 bI,.int .u64 aU,.int .u64 aV,.int .u64 aW,.int .u64 aR,.int .i64 aS,.int .i64 aT,.slice aO aP aQ],.agg #[.int .u64 bK,.int .u64 bL,.int .u64 bM,.int .u64 bN,.int .u64 bO,.int .u64 bP,.int .u64 bQ,.int .u64 bU,.int .u64 bV]] m [] R:=
 Zaf (E:=ZeY) Zar mix Try.func153 [.v (.agg #[.slice aI aH aJ,.bool aE]),.v (.agg #[.int .u8 bI,.int .u64 aU,.int .u64 aV,.int .u64 aW,.int .u64 aR,.int .i64 aS,.int .i64 aT,.slice aO aP aQ]),.v (.agg #[.int .u64 bK,.int .u64 bL,.int .u64 bM,.int .u64 bN,.int .u64 bO,.int .u64 bP,.int .u64 bQ,.int .u64 bU,.int .u64 bV])] [] (by kernel_rfl) (Eq.mp (by kernel_rfl) h)
noncomputable def Zev:Env:={ EB with
 dr:=(fun i=>bif Nat.beq i 1 then[⟨0,[],[],none,[],[]⟩,⟨1,[3],[],none,[],[]⟩,⟨2,[3],[],none,[1],[]⟩,⟨3,[],[],none,[1,2],[]⟩,⟨4,[],[],none,[1,2,3],[]⟩,⟨5,[4],[],none,[],[]⟩,⟨6,[],[],none,[0,1,2,3,4,5],[]⟩,⟨7,[5],[5],none,[0,1,2,3,4,5,6],[]⟩]else[])
 frzNew:=[3,4] }
def Zck(aK aE aM aN aC aG aL:Int)(aB:Option Addr)(aA aD:Nat)(bI aU aV aW aR aS aT cI cJ:Int)(c0b c0o:Nat)(m:Mem)(R:RT):Prop:=
 ∀(b:Nat)(m':Mem),Mem.le m m'→Mem.reads m' b 0 [int u8 aK,int u64 aE,int u64 aM,int u64 aN,int u64 aC,int i64 aG,int i64 aL,slice aB aA aD]→∀(b:Nat)(m'_1:Mem),Mem.le m'
 m'_1→Mem.reads m'_1 b 0 [int u64 bI,int u64 aU,int u64 aV,int u64 aW,int u64 aR,int u64 aS,int u64 aT,int u64 cI,int u64 cJ]→∀(b:Nat),∃(f:Fx),∃(v:Value),∃(v_1:Value),
 Mem.reads m'_1 c0b c0o [v,v_1]∧∃(b:Nat),∃(o:Nat),aB=some (Addr.mk b o none)∧Zae (0:Int) aA∧∃(v_2:Value),∃(v_3:Value),∃(v_4:Value),∃(v_5:Value),∃(v_6:Value),∃(v_7:
 Value),∃(v_8:Value),∃(v_9:Value),Mem.reads m'_1 b (o+0) [v_2,v_3,v_4,v_5,v_6,v_7,v_8,v_9]∧∃(R_1:RT),R_1=f 6 [agg (Array.mk [v,v_1]),agg (Array.mk [v_2,v_3,v_4,v_5,v_6,v_7,v_8,v_9]),
 agg (Array.mk [int u64 bI,int u64 aU,int u64 aV,int u64 aW,int u64 aR,int u64 aS,int u64 aT,int u64 cI,int u64 cJ])] m'_1∧CX Try.prog 89 (Array.mk [agg (Array.mk [v,v_1]),agg (Array.mk
 [v_2,v_3,v_4,v_5,v_6,v_7,v_8,v_9]),agg (Array.mk [int u64 bI,int u64 aU,int u64 aV,int u64 aW,int u64 aR,int u64 aS,int u64 aT,int u64 cI,int u64 cJ])]) m'_1 [] R_1∧Zaz (Shape.agg
 [Shape.int u64,Shape.int u64,Shape.int u64,Shape.int u64,Shape.int u64,Shape.int u64,Shape.int u64,Shape.int u64,Shape.int u64]) R_1∧∀(n n_1 n_2 n_3 n_4 n_5 n_6 n_7 n_8:Int)(m':Mem),Mem.le m'_1 m'→R_1
 (agg (Array.mk [int u64 n,int u64 n_1,int u64 n_2,int u64 n_3,int u64 n_4,int u64 n_5,int u64 n_6,int u64 n_7,int u64 n_8])) m' []→∀(M:Mem),Mem.le m'_1 M→Mem.le m' M→∃(m'':Mem),Mem.le m m''∧
 Mem.le m'' M∧R (agg (Array.mk [int u64 n,int u64 n_1,int u64 n_2,int u64 n_3,int u64 n_4,int u64 n_5,int u64 n_6,int u64 n_7,int u64 n_8])) m'' []
theorem ZdO(aK aE aM aN aC aG aL:Int)(aB:Option Addr)(aA aD:Nat)(bI aU aV aW aR aS aT cI cJ:Int)(c0b c0o:Nat)(m:Mem)(R:RT)(h:Zck aK aE aM aN aC aG aL aB aA aD bI aU aV aW aR aS aT cI cJ c0b c0o m R):CX Try.prog 154 #[.agg #[.int .u8 aK,.int .u64 aE,.int .u64 aM,.int .u64 aN,.int .u64 aC,.int .i64 aG,.int .i64 aL,.slice aB aA aD],.agg #[.int .u64 bI,.int .u64 aU,.int .u64 aV,.int .u64 aW,.int .u64 aR,.int .u64 aS,.int .u64 aT,.int .u64 cI,.int .u64 cJ],.pointer (some ⟨c0b,c0o,none⟩)] m [] R:=
 Zaf (E:=Zev) Zar mix Try.func154 [.v (.agg #[.int .u8 aK,.int .u64 aE,.int .u64 aM,.int .u64 aN,.int .u64 aC,.int .i64 aG,.int .i64 aL,.slice aB aA aD]),.v (.agg #[.int .u64 bI,.int .u64 aU,.int .u64 aV,.int .u64 aW,.int .u64 aR,.int .u64 aS,.int .u64 aT,.int .u64 cI,.int .u64 cJ]),.v (.pointer (some ⟨c0b,c0o,none⟩))] [] (by kernel_rfl) (Eq.mp (by kernel_rfl) h)
noncomputable def Zj1:Env:={ EB with
 joins:=(fun i=>bif Nat.beq i 1 then some [(7,.bool)]else bif Nat.beq i 2 then some [(16,.bool)]else bif Nat.beq i 6 then some [(29,.bool)]else none)
 frzNew:=[3] }
def ZfS(aK aE aM aN aC aG aL:Int)(aB:Option Addr)(aA aD:Nat)(p1a:Option Addr)(p1n p1c:Nat)(p2:Int)(m:Mem)(R:RT):Prop:=
 ∀(b:Nat)(m':Mem),Mem.le m m'→Mem.reads m' b 0 [int u8 aK,int u64 aE,int u64 aM,int u64 aN,int u64 aC,int i64 aG,int i64 aL,slice aB aA aD]→∃(ac:Bool),br (aK == (0:Int))
 (∃(R:RT),True∧CX Try.prog 58 (Array.mk [agg (Array.mk [int u8 aK,int u64 aE,int u64 aM,int u64 aN,int u64 aC,int i64 aG,int i64 aL,slice aB aA aD]),agg (Array.mk [int u8 0,int u64
 0,int u64 0,int u64 0,int u64 0,int i64 0,int i64 0,slice none 0 0])]) m' [] R∧Zaz Shape.bool R∧∀(aa:Bool)(ab:Mem),Mem.le m' ab→R (Value.bool aa) ab []→[some (Box.mk b [int u8 aK,int u64 aE,
 int u64 aM,int u64 aN,int u64 aC,int i64 aG,int i64 aL,slice aB aA aD] 41 8 true true)]=[some (Box.mk b [int u8 aK,int u64 aE,int u64 aM,int u64 aN,int u64 aC,int i64 aG,int
 i64 aL,slice aB aA aD] 41 8 true true)]∧[Value.bool aa]=[Value.bool ac]) ([some (Box.mk b [int u8 aK,int u64 aE,int u64 aM,int u64 aN,int u64 aC,int i64 aG,int i64 aL,slice aB
 aA aD] 41 8 true true)]=[some (Box.mk b [int u8 aK,int u64 aE,int u64 aM,int u64 aN,int u64 aC,int i64 aG,int i64 aL,slice aB aA aD] 41 8 true true)]∧[Value.bool false] =
 [Value.bool ac])∧∃(aa:Bool),br (!ac) (∃(R:RT),True∧CX Try.prog 35 (Array.mk [agg (Array.mk [Value.bool false,Value.bool false,int u8 aK,int u64 aE,int u64 aM,int u64 aN,int u64 aC,int i64
 aG,int i64 aL,slice aB aA aD])]) m' [] R∧Zaz (Shape.int i64) R∧∀(n:Int)(ab:Mem),Mem.le m' ab→R (int i64 n) ab []→[some (Box.mk b [int u8 aK,int u64 aE,int u64 aM,int u64 aN,int
 u64 aC,int i64 aG,int i64 aL,slice aB aA aD] 41 8 true true)]=[some (Box.mk b [int u8 aK,int u64 aE,int u64 aM,int u64 aN,int u64 aC,int i64 aG,int i64 aL,slice aB aA
 aD] 41 8 true true)]∧[Value.bool !n == (0:Int)]=[Value.bool aa]) ([some (Box.mk b [int u8 aK,int u64 aE,int u64 aM,int u64 aN,int u64 aC,int i64 aG,int i64 aL,slice aB aA aD] 41 8
 true true)]=[some (Box.mk b [int u8 aK,int u64 aE,int u64 aM,int u64 aN,int u64 aC,int i64 aG,int i64 aL,slice aB aA aD] 41 8 true true)]∧[Value.bool false]=[Value.bool aa])∧br aa
 (∃(m'':Mem),Mem.le m m''∧Mem.le m'' m'∧R (int i64 130) m'' []) (br (decide ((↑p1n:Int) > (512:Int))) (∃(m'':Mem),Mem.le m m''∧Mem.le m'' m'∧R (int i64 3) m'' []) (∃(ad:Bool),br (decide (p2 < (0:
 Int))) ([some (Box.mk b [int u8 aK,int u64 aE,int u64 aM,int u64 aN,int u64 aC,int i64 aG,int i64 aL,slice aB aA aD] 41 8 true true)]=[some (Box.mk b [int u8 aK,int u64 aE,int u64
 aM,int u64 aN,int u64 aC,int i64 aG,int i64 aL,slice aB aA aD] 41 8 true true)]∧[Value.bool true]=[Value.bool ad]) ([some (Box.mk b [int u8 aK,int u64 aE,int u64 aM,int u64 aN,int
 u64 aC,int i64 aG,int i64 aL,slice aB aA aD] 41 8 true true)]=[some (Box.mk b [int u8 aK,int u64 aE,int u64 aM,int u64 aN,int u64 aC,int i64 aG,int i64 aL,slice aB aA
 aD] 41 8 true true)]∧[Value.bool (decide (p2 > (↑p1n:Int)))]=[Value.bool ad])∧br ad (∃(m'':Mem),Mem.le m m''∧Mem.le m'' m'∧R (int i64 2) m'' []) (∃(m'':Mem),Mem.le m m''∧Mem.le m'' m'∧R (int
 i64 0) m'' [])))
theorem ZiY(aK aE aM aN aC aG aL:Int)(aB:Option Addr)(aA aD:Nat)(p1a:Option Addr)(p1n p1c:Nat)(p2:Int)(m:Mem)(R:RT)(h:ZfS aK aE aM aN aC aG aL aB aA aD p1a p1n p1c p2 m R):CX Try.prog 88 #[.agg #[.int .u8 aK,.int .u64 aE,.int .u64 aM,.int .u64 aN,.int .u64 aC,.int .i64 aG,.int .i64 aL,.slice aB aA aD],.slice p1a p1n p1c,.int .i64 p2] m [] R:=
 Zaf (E:=Zj1) Zar mix Try.func88 [.v (.agg #[.int .u8 aK,.int .u64 aE,.int .u64 aM,.int .u64 aN,.int .u64 aC,.int .i64 aG,.int .i64 aL,.slice aB aA aD]),.v (.slice p1a p1n p1c),.v (.int .i64 p2)] [] (by kernel_rfl) (Eq.mp (by kernel_rfl) h)
noncomputable def Zl0:Env:={ EB with
 loops:=(fun i=>bif Nat.beq i 8 then⟨[(29,.int .i64)],[11],[(33,1)],false⟩ else⟨[],[],[],false⟩)
 dr:=(fun i=>bif Nat.beq i 5 then[⟨0,[],[],none,[],[]⟩,⟨1,[],[],none,[],[]⟩,⟨2,[],[],none,[0,1],[]⟩,⟨3,[4],[],none,[],[]⟩,⟨4,[],[],none,[],[]⟩,⟨5,[],[],none,[4],[]⟩,⟨6,[],[],none,[0,1,2,3,4,5],[5]⟩,⟨7,[12],[12],none,[],[]⟩,⟨8,[12],[12],none,[0,1,2,3,4,5,6,7],[]⟩]else[])
 tokOf:=(fun i=>bif Nat.beq i 33 then 33 else 0)
 frzNew:=[4]
 frzAt:=(fun i=>bif Nat.beq i 28 then[12]else[]) }
def ZgO(aK aE aM aN aC aG aL:Int)(aB:Option Addr)(aA aD:Nat)(p1a:Option Addr)(p1n p1c:Nat)(p2:Int)(p3:Bool)(m:Mem)(R:RT):Prop:=
 ∀(b:Nat)(m':Mem),Mem.le m m'→Mem.reads m' b 0 [int u8 aK,int u64 aE,int u64 aM,int u64 aN,int u64 aC,int i64 aG,int i64 aL,slice aB aA aD]→∃(R_1:RT),True∧CX Try.prog 88
 (Array.mk [agg (Array.mk [int u8 aK,int u64 aE,int u64 aM,int u64 aN,int u64 aC,int i64 aG,int i64 aL,slice aB aA aD]),slice p1a p1n p1c,int i64 p2]) m' [] R_1∧Zaz (Shape.int i64) R_1
 ∧ ∀(n:Int)(aa:Mem),Mem.le m' aa→R_1 (int i64 n) aa []→br (!n == (0:Int)) (∃(m'':Mem),Mem.le m m''∧Mem.le m'' aa∧R (Value.tuple (Array.mk [slice none 0 0,int i64 n])) m'' []) (∀(a0:Nat),∃(f:
 Fx),∃(R_2:RT),R_2=f 5 [int i64 p2] aa∧CX Try.prog 90 (Array.mk [int i64 p2]) aa [] R_2∧Zaz (Shape.agg [Shape.int u64,Shape.int u64,Shape.int u64,Shape.int u64,Shape.int u64,Shape.int u64,Shape.int u64,
 Shape.int u64,Shape.int u64]) R_2∧∀(n an ao ap aq ar au av aw:Int)(m':Mem),Mem.le aa m'→R_2 (agg (Array.mk [int u64 n,int u64 an,int u64 ao,int u64 ap,int u64 aq,int u64 ar,int u64 au,int u64 av,int
 u64 aw])) m' []→∃(R_3:RT),R_3=f 6 [agg (Array.mk [slice p1a p1n p1c,Value.bool p3]),agg (Array.mk [int u8 aK,int u64 aE,int u64 aM,int u64 aN,int u64 aC,int i64 aG,int i64 aL,slice aB
 aA aD]),agg (Array.mk [int u64 n,int u64 an,int u64 ao,int u64 ap,int u64 aq,int u64 ar,int u64 au,int u64 av,int u64 aw])] m'∧CX Try.prog 89 (Array.mk [agg (Array.mk [slice p1a p1n p1c,Value.bool
 p3]),agg (Array.mk [int u8 aK,int u64 aE,int u64 aM,int u64 aN,int u64 aC,int i64 aG,int i64 aL,slice aB aA aD]),agg (Array.mk [int u64 n,int u64 an,int u64 ao,int u64 ap,int u64 aq,
 int u64 ar,int u64 au,int u64 av,int u64 aw])]) m' [] R_3∧Zaz (Shape.agg [Shape.int u64,Shape.int u64,Shape.int u64,Shape.int u64,Shape.int u64,Shape.int u64,Shape.int u64,Shape.int u64,Shape.int u64]) R_3
 ∧ ∀(n ab ac ad ae af ag ah ai:Int)(ax:Mem),Mem.le m' ax→R_3 (agg (Array.mk [int u64 n,int u64 ab,int u64 ac,int u64 ad,int u64 ae,int u64 af,int u64 ag,int u64 ah,int u64 ai])) ax []→∀(aj:Nat) (M:
 Mem),Mem.le aa M→Mem.le m' M→Mem.le ax M→∀(m':Mem),Mem.le M m'→Mem.reads m' aj 0 [int u64 n,int u64 ab,int u64 ac,int u64 ad,int u64 ae,int u64 af,int u64 ag,int u64 ah,int u64 ai]→∃(R_4:RT),
 True∧CX Try.prog 120 (Array.mk [Value.pointer (some (Addr.mk aj 0 none))]) m' [] R_4∧Zaz Shape.fn R_4∧∀(g:Nat)(fi ca:List Value)(ak:Mem),Mem.le m' ak→R_4 (Value.func (Fn.func g) (Array.mk fi)
 (Array.mk ca)) ak []→∃(xs:List (List Value)),IX Try.prog g fi ca ak xs∧(∀(x:List Value),x∈xs→Shape.fitsL [Shape.int i64] x=true)∧∃(I:IT),I [] [[slice none 0 0]] [slice none 0 0] ak 0∧(∀(am:
 Int) (cs:List Value) (a:Option Addr) (a1 c:Nat) (m':Mem) (ay:Nat),Mem.le ak m'→List.get?Internal xs ay=some [int i64 am]→I [] [cs] [slice a a1 c] m' ay→Eng.ZtS cs 0 fun(v:Value)=>∀(al:Nat),
 Mem.free m' al→chk (Zft v&&true) ((Tok.mk (slice a a1 c) 1=Tok.mk v 1∨v=slice none 0 0∨slC v < slN v+1)∧∃(xs:List Value),∃(ys:List Value),List.length xs=slN v*1∧List.length ys=1*1∧
 rowRd (Mem.add m' al [int i64 am]) (slA v) xs∧rowRd (Mem.add m' al [int i64 am]) (some (Addr.mk al 0 none)) ys∧(∀(u:Value),u∈ys→Value.oneCell' u=true)∧(slN v+1)*8≤140737488355328∧slN v+1 ≤
 9223372036854775807∧∀(a':Option Addr)(c':Nat)(az:Mem),Mem.le (Mem.add m' al [int i64 am]) az→rowRd az a' (List.append xs ys)→[some (Box.mk aj [int u64 n,int u64 ab,int u64 ac,int u64 ad,int u64 ae,
 int u64 af,int u64 ag,int u64 ah,int u64 ai] 127 9 true true),some (Box.mk aj [int u64 n,int u64 ab,int u64 ac,int u64 ad,int u64 ae,int u64 af,int u64 ag,int u64 ah,int u64 ai] 127 9 true true),some
 (Box.mk a0 [] 24 1 false true),some (Box.mk b [int u8 aK,int u64 aE,int u64 aM,int u64 aN,int u64 aC,int i64 aG,int i64 aL,slice aB aA aD] 41 8 true true)]=[some (Box.mk aj [int u64 n,
 int u64 ab,int u64 ac,int u64 ad,int u64 ae,int u64 af,int u64 ag,int u64 ah,int u64 ai] 127 9 true true),some (Box.mk aj [int u64 n,int u64 ab,int u64 ac,int u64 ad,int u64 ae,int u64 af,int u64 ag,int
 u64 ah,int u64 ai] 127 9 true true),some (Box.mk a0 [] 24 1 false true),some (Box.mk b [int u8 aK,int u64 aE,int u64 aM,int u64 aN,int u64 aC,int i64 aG,int i64 aL,slice aB aA aD] 41 8
 true true)]∧I [] [[slice a' (slN v+1) c']] [slice a' (slN v+1) c'] az (ay+1)))∧∀(cs:List Value)(a:Option Addr)(n c:Nat)(m':Mem),Mem.le ak m'→I [] [cs] [slice a n c] m' (List.length xs)→
 Eng.ZtS cs 0 fun(v:Value)=>∃(m'':Mem),Mem.le m m''∧Mem.le m'' m'∧R (Value.tuple (Array.mk [v,int i64 0])) m'' [])
theorem Zj2(aK aE aM aN aC aG aL:Int)(aB:Option Addr)(aA aD:Nat)(p1a:Option Addr)(p1n p1c:Nat)(p2:Int)(p3:Bool)(m:Mem)(R:RT)(h:ZgO aK aE aM aN aC aG aL aB aA aD p1a p1n p1c p2 p3 m R):CX Try.prog 94 #[.agg #[.int .u8 aK,.int .u64 aE,.int .u64 aM,.int .u64 aN,.int .u64 aC,.int .i64 aG,.int .i64 aL,.slice aB aA aD],.slice p1a p1n p1c,.int .i64 p2,.bool p3] m [] R:=
 Zaf (E:=Zl0) Zar mix Try.func94 [.v (.agg #[.int .u8 aK,.int .u64 aE,.int .u64 aM,.int .u64 aN,.int .u64 aC,.int .i64 aG,.int .i64 aL,.slice aB aA aD]),.v (.slice p1a p1n p1c),.v (.int .i64 p2),.v (.bool p3)] [] (by kernel_rfl) (Eq.mp (by kernel_rfl) h)
noncomputable def ZiZ:Env:={ EB with
 frzNew:=[3] }
def ZeG(aK aE aM aN aC aG aL:Int)(aB:Option Addr)(aA aD:Nat)(p1a:Option Addr)(p1n p1c:Nat)(p2:Int)(m:Mem)(R:RT):Prop:=
 ∀(b:Nat)(m':Mem),Mem.le m m'→Mem.reads m' b 0 [int u8 aK,int u64 aE,int u64 aM,int u64 aN,int u64 aC,int i64 aG,int i64 aL,slice aB aA aD]→∃(R_1:RT),True∧CX Try.prog 94
 (Array.mk [agg (Array.mk [int u8 aK,int u64 aE,int u64 aM,int u64 aN,int u64 aC,int i64 aG,int i64 aL,slice aB aA aD]),slice p1a p1n p1c,int i64 p2,Value.bool true]) m' [] R_1∧Zaz
 (Shape.tup [Shape.slice,Shape.int i64]) R_1∧∀(a:Option Addr)(n c:Nat)(n_1:Int)(m'_1:Mem),Mem.le m' m'_1→R_1 (Value.tuple (Array.mk [slice a n c,int i64 n_1])) m'_1 []→∃(m'':Mem),Mem.le m m''∧
 Mem.le m'' m'_1∧R (Value.tuple (Array.mk [slice a n c,int i64 n_1])) m'' []
theorem ZhV(aK aE aM aN aC aG aL:Int)(aB:Option Addr)(aA aD:Nat)(p1a:Option Addr)(p1n p1c:Nat)(p2:Int)(m:Mem)(R:RT)(h:ZeG aK aE aM aN aC aG aL aB aA aD p1a p1n p1c p2 m R):CX Try.prog 38 #[.agg #[.int .u8 aK,.int .u64 aE,.int .u64 aM,.int .u64 aN,.int .u64 aC,.int .i64 aG,.int .i64 aL,.slice aB aA aD],.slice p1a p1n p1c,.int .i64 p2] m [] R:=
 Zaf (E:=ZiZ) Zar mix Try.func38 [.v (.agg #[.int .u8 aK,.int .u64 aE,.int .u64 aM,.int .u64 aN,.int .u64 aC,.int .i64 aG,.int .i64 aL,.slice aB aA aD]),.v (.slice p1a p1n p1c),.v (.int .i64 p2)] [] (by kernel_rfl) (Eq.mp (by kernel_rfl) h)
noncomputable def ZhW:Env:={ EB with
 dr:=(fun i=>bif Nat.beq i 4 then[⟨0,[],[],none,[],[]⟩,⟨1,[],[],none,[0],[]⟩,⟨2,[2],[],none,[],[]⟩,⟨3,[],[],none,[],[]⟩,⟨4,[],[],none,[0,1,2,3],[3]⟩,⟨5,[7],[7],none,[],[]⟩,⟨6,[7],[7],none,[0,1,2,3,4,5],[]⟩]else[])
 frzNew:=[2]
 frzAt:=(fun i=>bif Nat.beq i 21 then[7]else[]) }
def ZdZ(aK aE aM aN aC aG aL:Int)(aB:Option Addr)(aA aD:Nat)(p1a:Option Addr)(p1n p1c:Nat)(m:Mem)(R:RT):Prop:=
 ∀(b:Nat)(m':Mem),Mem.le m m'→Mem.reads m' b 0 [int u8 aK,int u64 aE,int u64 aM,int u64 aN,int u64 aC,int i64 aG,int i64 aL,slice aB aA aD]→∃(R_1:RT),True∧CX Try.prog 88
 (Array.mk [agg (Array.mk [int u8 aK,int u64 aE,int u64 aM,int u64 aN,int u64 aC,int i64 aG,int i64 aL,slice aB aA aD]),slice p1a p1n p1c,int i64 0]) m' [] R_1∧Zaz (Shape.int i64) R_1∧
 ∀(n:Int)(aa:Mem),Mem.le m' aa→R_1 (int i64 n) aa []→br (!n == (0:Int)) (∃(m'':Mem),Mem.le m m''∧Mem.le m'' aa∧R (Value.tuple (Array.mk [Value.bool false,int i64 n])) m'' []) (∃(f:Fx),∃(R_2:
 RT),R_2=f 3 [int i64 0] aa∧CX Try.prog 90 (Array.mk [int i64 0]) aa [] R_2∧Zaz (Shape.agg [Shape.int u64,Shape.int u64,Shape.int u64,Shape.int u64,Shape.int u64,Shape.int u64,Shape.int u64,Shape.int u64,
 Shape.int u64]) R_2∧∀(n ab ac ad ae af ag ah ai:Int)(m':Mem),Mem.le aa m'→R_2 (agg (Array.mk [int u64 n,int u64 ab,int u64 ac,int u64 ad,int u64 ae,int u64 af,int u64 ag,int u64 ah,int u64 ai])) m' []
 → ∃(R_3:RT),R_3=f 4 [agg (Array.mk [slice p1a p1n p1c,Value.bool false]),agg (Array.mk [int u8 aK,int u64 aE,int u64 aM,int u64 aN,int u64 aC,int i64 aG,int i64 aL,slice aB aA aD]),
 agg (Array.mk [int u64 n,int u64 ab,int u64 ac,int u64 ad,int u64 ae,int u64 af,int u64 ag,int u64 ah,int u64 ai])] m'∧CX Try.prog 89 (Array.mk [agg (Array.mk [slice p1a p1n p1c,Value.bool false]),agg
 (Array.mk [int u8 aK,int u64 aE,int u64 aM,int u64 aN,int u64 aC,int i64 aG,int i64 aL,slice aB aA aD]),agg (Array.mk [int u64 n,int u64 ab,int u64 ac,int u64 ad,int u64 ae,int u64
 af,int u64 ag,int u64 ah,int u64 ai])]) m' [] R_3∧Zaz (Shape.agg [Shape.int u64,Shape.int u64,Shape.int u64,Shape.int u64,Shape.int u64,Shape.int u64,Shape.int u64,Shape.int u64,Shape.int u64]) R_3∧∀(n
 al am an ao ap aq ar au:Int) (aj:Mem),Mem.le m' aj→R_3 (agg (Array.mk [int u64 n,int u64 al,int u64 am,int u64 an,int u64 ao,int u64 ap,int u64 aq,int u64 ar,int u64 au])) aj []→∀(b:Nat)(M:Mem),
 Mem.le aa M→Mem.le m' M→Mem.le aj M→∀(m':Mem),Mem.le M m'→Mem.reads m' b 0 [int u64 n,int u64 al,int u64 am,int u64 an,int u64 ao,int u64 ap,int u64 aq,int u64 ar,int u64 au]→∃(R_4:RT),True∧
 CX Try.prog 91 (Array.mk [Value.pointer (some (Addr.mk b 0 none)),int i64 (↑p1n:Int)]) m' [] R_4∧Zaz Shape.bool R_4∧∀(b:Bool)(ak:Mem),Mem.le m' ak→R_4 (Value.bool b) ak []→∃(m'':Mem),Mem.le m m''
 ∧ Mem.le m'' ak∧R (Value.tuple (Array.mk [Value.bool b,int i64 0])) m'' [])
theorem Zhe(aK aE aM aN aC aG aL:Int)(aB:Option Addr)(aA aD:Nat)(p1a:Option Addr)(p1n p1c:Nat)(m:Mem)(R:RT)(h:ZdZ aK aE aM aN aC aG aL aB aA aD p1a p1n p1c m R):CX Try.prog 36 #[.agg #[.int .u8 aK,.int .u64 aE,.int .u64 aM,.int .u64 aN,.int .u64 aC,.int .i64 aG,.int .i64 aL,.slice aB aA aD],.slice p1a p1n p1c] m [] R:=
 Zaf (E:=ZhW) Zar mix Try.func36 [.v (.agg #[.int .u8 aK,.int .u64 aE,.int .u64 aM,.int .u64 aN,.int .u64 aC,.int .i64 aG,.int .i64 aL,.slice aB aA aD]),.v (.slice p1a p1n p1c)] [] (by kernel_rfl) (Eq.mp (by kernel_rfl) h)
noncomputable def ZdP:Env:={ EB with
 loops:=(fun i=>bif Nat.beq i 4 then⟨[(13,.int .i64)],[],[],false⟩ else⟨[],[],[],false⟩)
 dr:=(fun i=>bif Nat.beq i 6 then[⟨0,[],[],none,[],[]⟩,⟨1,[],[],none,[],[]⟩,⟨2,[],[],none,[0,1],[]⟩,⟨3,[],[],none,[0,1,2],[]⟩,⟨4,[],[],none,[],[]⟩,⟨5,[],[],none,[],[]⟩,⟨6,[],[],none,[4,5],[]⟩,⟨7,[],[],none,[4,5,6],[]⟩,⟨8,[],[],none,[0,1,2,3,4,5,6,7],[]⟩]else[]) }
def Zb7(p0a:Option Addr)(p0n p0c:Nat)(p1a:Option Addr)(p1n p1c:Nat)(m:Mem)(R:RT):Prop:=
 br (!(↑p0n:Int) == (↑p1n:Int)) (∃(m'':Mem),Mem.le m m''∧Mem.le m'' m∧R (Value.bool false) m'' []) (∃(I:IT),(∃(n:Nat),I [int i64 0] [] [] m n)∧∀(n:Int)(m':Mem)(n_1:Nat),Mem.le m m'→I
 [int i64 n] [] [] m' n_1→br (decide (n < (↑p0n:Int))) (∃(b:Nat),∃(o:Nat),p0a=some (Addr.mk b o none)∧Zae n p0n∧∃(v:Value),m' b (o+Int.toNat n*1)=some v∧∃(b:Nat),∃(o:Nat),p1a =
 some (Addr.mk b o none)∧Zae n p1n∧∃(v_1:Value),m' b (o+Int.toNat n*1)=some v_1∧chk (Zby i64 v&&Zby i64 v_1) (br (!RowKit.intOf v == RowKit.intOf v_1) (∃(m'':Mem),Mem.le m m''∧Mem.le m''
 m'∧R (Value.bool false) m'' []) (∃(n':Nat),n' < n_1∧I [int i64 (IntKind.wrap i64 (n+(1:Int)))] [] [] m' n'))) (∃(m'':Mem),Mem.le m m''∧Mem.le m'' m'∧R (Value.bool true) m'' []))
theorem ZdE(p0a:Option Addr)(p0n p0c:Nat)(p1a:Option Addr)(p1n p1c:Nat)(m:Mem)(R:RT)(h:Zb7 p0a p0n p0c p1a p1n p1c m R):CX Try.prog 23 #[.slice p0a p0n p0c,.slice p1a p1n p1c] m [] R:=
 Zaf (E:=ZdP) Zar mix Try.func23 [.v (.slice p0a p0n p0c),.v (.slice p1a p1n p1c)] [] (by kernel_rfl) (Eq.mp (by kernel_rfl) h)
end Go.Proofs.Ytplacemlpkhmfaa

