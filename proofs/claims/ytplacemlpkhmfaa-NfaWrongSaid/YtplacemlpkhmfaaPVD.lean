/- Part of the proof: conditions and contracts of functions of this program. No condition of its own. -/
import Derived.Test.YtplacemlpkhmfaaPEnv
set_option linter.unusedVariables false
namespace Go.Proofs.Ytplacemlpkhmfaa
open Go Go.Eng Go.Proofs Go.RowKit
open Go.Value (int slice agg)
open Go.IntKind (u8 u64 i64)
set_option maxRecDepth 100000
noncomputable def Zkr:Env:={ EB with
 frzNew:=[1] }
def ZfT(aF aG aH aI aA aE aJ:Int)(aC:Option Addr)(aB aD:Nat)(m:Mem)(R:RT):Prop:=
 ∀(b:Nat)(m':Mem),Mem.le m m'→Mem.reads m' b 0 [int u8 aF,int u64 aG,int u64 aH,int u64 aI,int u64 aA,int i64 aE,int i64 aJ,slice aC aB aD]→∀(b b:Nat),Mem.free m' b→∃(m'':
 Mem),Mem.le m m''∧Mem.le m'' (Mem.add m' b [int u8 aF,int u64 aG,int u64 aH,int u64 aI,int u64 aA,int i64 aE,int i64 aJ,slice aC aB aD])∧R (agg (Array.mk [int u8 6,int u64 0,int u64
 0,int u64 0,int u64 0,int i64 0,int i64 0,slice (some (Addr.mk b 0 none)) 1 1])) m'' []
theorem ZiH(aF aG aH aI aA aE aJ:Int)(aC:Option Addr)(aB aD:Nat)(m:Mem)(R:RT)(h:ZfT aF aG aH aI aA aE aJ aC aB aD m R):CX Try.prog 66 #[.agg #[.int .u8 aF,.int .u64 aG,.int .u64 aH,.int .u64 aI,.int .u64 aA,.int .i64 aE,.int .i64 aJ,.slice aC aB aD]] m [] R:=
 Zal (E:=Zkr) ZaC mix Try.func66 [.v (.agg #[.int .u8 aF,.int .u64 aG,.int .u64 aH,.int .u64 aI,.int .u64 aA,.int .i64 aE,.int .i64 aJ,.slice aC aB aD])] [] (by kernel_rfl) (Eq.mp (by kernel_rfl) h)
noncomputable def ZnP:Env:={ EB with
 frzNew:=[3] }
def ZhI(aF aG aH aI aA aE aJ:Int)(aC:Option Addr)(aB aD:Nat)(p1 p2:Int)(m:Mem)(R:RT):Prop:=
 ∀(b:Nat)(m':Mem),Mem.le m m'→Mem.reads m' b 0 [int u8 aF,int u64 aG,int u64 aH,int u64 aI,int u64 aA,int i64 aE,int i64 aJ,slice aC aB aD]→∀(b b:Nat),Mem.free m' b→∃(m'':
 Mem),Mem.le m m''∧Mem.le m'' (Mem.add m' b [int u8 aF,int u64 aG,int u64 aH,int u64 aI,int u64 aA,int i64 aE,int i64 aJ,slice aC aB aD])∧R (agg (Array.mk [int u8 5,int u64 0,int u64
 0,int u64 0,int u64 0,int i64 p1,int i64 p2,slice (some (Addr.mk b 0 none)) 1 1])) m'' []
theorem Zl1(aF aG aH aI aA aE aJ:Int)(aC:Option Addr)(aB aD:Nat)(p1 p2:Int)(m:Mem)(R:RT)(h:ZhI aF aG aH aI aA aE aJ aC aB aD p1 p2 m R):CX Try.prog 67 #[.agg #[.int .u8 aF,.int .u64 aG,.int .u64 aH,.int .u64 aI,.int .u64 aA,.int .i64 aE,.int .i64 aJ,.slice aC aB aD],.int .i64 p1,.int .i64 p2] m [] R:=
 Zal (E:=ZnP) ZaC mix Try.func67 [.v (.agg #[.int .u8 aF,.int .u64 aG,.int .u64 aH,.int .u64 aI,.int .u64 aA,.int .i64 aE,.int .i64 aJ,.slice aC aB aD]),.v (.int .i64 p1),.v (.int .i64 p2)] [] (by kernel_rfl) (Eq.mp (by kernel_rfl) h)
noncomputable def ZhJ:Env:=EB
def Zed(p0:Int)(m:Mem)(R:RT):Prop:=
 ∀(b:Nat),Mem.free m b→(12:Int)≠(0:Int)∧Zaf (Int.tmod p0 (12:Int)) 12∧Eng.Zr2 [Value.string (ByteArray.mk (Array.mk [(97:UInt8)])),Value.string (ByteArray.mk (Array.mk [(98:UInt8)])),
 Value.string (ByteArray.mk (Array.mk [(97:UInt8),(98:UInt8)])),Value.string (ByteArray.mk (Array.mk [(97:UInt8)])),Value.string (ByteArray.mk (Array.mk [(98:UInt8)])),Value.string (ByteArray.mk (Array.mk
 [(99:UInt8)])),Value.string (ByteArray.mk (Array.mk [(97:UInt8),(98:UInt8),(99:UInt8)])),Value.string (ByteArray.mk (Array.mk [(98:UInt8),(99:UInt8)])),Value.string (ByteArray.mk (Array.mk [(10:
 UInt8)])),Value.string (ByteArray.mk (Array.mk [(0:UInt8),(255:UInt8)])),Value.string (ByteArray.mk (Array.mk [(97:UInt8)])),Value.string (ByteArray.mk (Array.mk [(98:UInt8)]))] (Int.toNat (Int.tmod p0 (12:
 Int))*1) fun(v:Value)=>∃(m'':Mem),Mem.le m m''∧Mem.le m'' (Mem.add m b [Value.string (ByteArray.mk (Array.mk [(97:UInt8)])),Value.string (ByteArray.mk (Array.mk [(98:UInt8)])),Value.string
 (ByteArray.mk (Array.mk [(97:UInt8),(98:UInt8)])),Value.string (ByteArray.mk (Array.mk [(97:UInt8)])),Value.string (ByteArray.mk (Array.mk [(98:UInt8)])),Value.string (ByteArray.mk (Array.mk [(99:
 UInt8)])),Value.string (ByteArray.mk (Array.mk [(97:UInt8),(98:UInt8),(99:UInt8)])),Value.string (ByteArray.mk (Array.mk [(98:UInt8),(99:UInt8)])),Value.string (ByteArray.mk (Array.mk [(10:UInt8)])),
 Value.string (ByteArray.mk (Array.mk [(0:UInt8),(255:UInt8)])),Value.string (ByteArray.mk (Array.mk [(97:UInt8)])),Value.string (ByteArray.mk (Array.mk [(98:UInt8)]))])∧R v m'' []
theorem ZgZ(p0:Int)(m:Mem)(R:RT)(h:Zed p0 m R):CX Try.prog 64 #[.int .u8 p0] m [] R:=
 Zal (E:=ZhJ) ZaC mix Try.func64 [.v (.int .u8 p0)] [] (by kernel_rfl) (Eq.mp (by kernel_rfl) h)
noncomputable def Zks:Env:={ EB with
 loops:=(fun i=>bif Nat.beq i 3 then⟨[(7,.int .i64)],[3],[],false⟩ else⟨[],[],[],false⟩)
 dr:=(fun i=>bif Nat.beq i 5 then[⟨0,[],[],none,[],[]⟩,⟨1,[],[],none,[],[]⟩,⟨2,[],[],none,[0,1],[]⟩,⟨3,[],[],none,[0,1,2],[]⟩,⟨4,[3],[],none,[0,1,2,3],[]⟩,⟨5,[3],[],none,[0,1,2,3,4],[]⟩,⟨6,[],[],none,[],[]⟩,⟨7,[],[],none,[],[]⟩,⟨8,[],[],none,[6,7],[]⟩,⟨9,[],[],none,[6,7,8],[]⟩,⟨10,[],[],none,[6,7,8,9],[]⟩,⟨11,[],[],none,[0,1,2,3,4,5,6,7,8,9,10],[]⟩,⟨12,[3],[],none,[0,1,2,3,4,5,6,7,8,9,10,11],[]⟩,⟨13,[3],[3],none,[0,1,2,3,4,5,6,7,8,9,10,11,12],[]⟩]else[]) }
def ZfU(p0:ByteArray)(m:Mem)(R:RT):Prop:=
 ∀(b b_1:Nat),∃(I:IT),(∃(n:Nat),I [int i64 0] [[int u64 0,int u64 0,int u64 0,int u64 0]] [] m n)∧∀(n:Int)(cs:List Value)(m':Mem)(n_1:Nat),Mem.le m m'→I [int i64 n] [cs] [] m' n_1→br
 (decide (n < (↑(ByteArray.size p0):Int))) (Zaf n (ByteArray.size p0)∧(64:Int)≠(0:Int)∧Zaf (IntKind.wrap u8 (Int.tdiv (Zmi p0 (Int.toNat n)) (64:Int))) 4∧Eng.Zr2 cs (0+Int.toNat (IntKind.wrap
 u8 (Int.tdiv (Zmi p0 (Int.toNat n)) (64:Int)))*1) fun(v:Value)=>Zaf n (ByteArray.size p0)∧(64:Int)≠(0:Int)∧(0:Int)≤Int.tmod (Zmi p0 (Int.toNat n)) (64:Int)∧chk (Zbn u64 v&&decide
 (u64=u64)) (Zaf (IntKind.wrap u8 (Int.tdiv (Zmi p0 (Int.toNat n)) (64:Int))) 4∧chk (Nat.ble (0+Int.toNat (IntKind.wrap u8 (Int.tdiv (Zmi p0 (Int.toNat n)) (64:Int)))*1+1) (List.length cs)) ([some
 (Box.mk b_1 [] 38 4 false true),some (Box.mk b [int u8 0,int u64 0,int u64 0,int u64 0,int u64 0,int i64 0,int i64 0,slice none 0 0] 41 8 false true)]=[some (Box.mk b_1 [] 38 4 false true),some (Box.mk b [int
 u8 0,int u64 0,int u64 0,int u64 0,int u64 0,int i64 0,int i64 0,slice none 0 0] 41 8 false true)]∧∃(n':Nat),n' < n_1∧I [int i64 (IntKind.wrap i64 (n+(1:Int)))] [Zan cs (0+Int.toNat (IntKind.wrap
 u8 (Int.tdiv (Zmi p0 (Int.toNat n)) (64:Int)))*1) [int u64 (IntKind.wrap u64 (↑(BitVec.toNat (BitVec.ofInt 64 (RowKit.intOf v)|||BitVec.ofInt 64 (IntKind.wrap u64 ((1:Int)*(2:Int) ^ min (Int.toNat
 (Int.tmod (Zmi p0 (Int.toNat n)) (64:Int))) 64)))):Int))]] [] m' n'))) (chk (Nat.beq (List.length cs) 4&&true) (chk (Nat.beq (List.length (List.append cs (List.drop (1+List.length cs) [int u8 2,int u64 0,int
 u64 0,int u64 0,int u64 0,int i64 0,int i64 0,slice none 0 0]))) (nat_lit 7)&&Zc8 (List.append cs (List.drop (1+List.length cs) [int u8 2,int u64 0,int u64 0,int u64 0,int u64 0,int i64 0,int i64 0,
 slice none 0 0]))) (∃(m'':Mem),Mem.le m m''∧Mem.le m'' m'∧R (agg (Array.mk (Zan [int u8 2,int u64 0,int u64 0,int u64 0,int u64 0,int i64 0,int i64 0,slice none 0 0] 1 cs))) m'' [])))
theorem ZiI(p0:ByteArray)(m:Mem)(R:RT)(h:ZfU p0 m R):CX Try.prog 63 #[.string p0] m [] R:=
 Zal (E:=Zks) ZaC mix Try.func63 [.v (.string p0)] [] (by kernel_rfl) (Eq.mp (by kernel_rfl) h)
noncomputable def Zkt:Env:={ EB with
 loops:=(fun i=>bif Nat.beq i 3 then⟨[(7,.slice),(14,.int .i64)],[],[(30,8)],false⟩ else⟨[],[],[],false⟩)
 joins:=(fun i=>bif Nat.beq i 8 then some [(31,.bool)]else none)
 tokOf:=(fun i=>bif Nat.beq i 21 then 30 else bif Nat.beq i 30 then 30 else 0)
 frzNew:=[4,5] }
def ZfV(p0 bI bE bF bG aZ bC bD:Int)(aW:Option Addr)(aX aY:Nat)(bU bV bW bX bY bZ cA:Int)(bQ:Option Addr)(bR bS:Nat)(m:Mem)(R:RT):Prop:=
 ∀(b:Nat)(m':Mem),Mem.le m m'→Mem.reads m' b 0 [int u8 bI,int u64 bE,int u64 bF,int u64 bG,int u64 aZ,int i64 bC,int i64 bD,slice aW aX aY]→∀(ac:Nat)(ai:Mem),Mem.le m' ai→
 Mem.reads ai ac 0 [int u8 bU,int u64 bV,int u64 bW,int u64 bX,int u64 bY,int i64 bZ,int i64 cA,slice bQ bR bS]→∀(ad ab:Nat),Mem.free ai ab→∃(I:IT),(∃(n:Nat),I [slice none 0
 0,int i64 0] [] [slice none 0 0] (Mem.add ai ab [int u8 bI,int u64 bE,int u64 bF,int u64 bG,int u64 aZ,int i64 bC,int i64 bD,slice aW aX aY,int u8 bU,int u64 bV,int u64 bW,int
 u64 bX,int u64 bY,int i64 bZ,int i64 cA,slice bQ bR bS]) n)∧∀(a:Option Addr)(n c:Nat)(aa:Int)(ae:Option Addr)(af ag:Nat)(m':Mem)(ak:Nat),Mem.le (Mem.add ai ab [int u8 bI,
 int u64 bE,int u64 bF,int u64 bG,int u64 aZ,int i64 bC,int i64 bD,slice aW aX aY,int u8 bU,int u64 bV,int u64 bW,int u64 bX,int u64 bY,int i64 bZ,int i64 cA,slice bQ
 bR bS]) m'→I [slice a n c,int i64 aa] [] [slice ae af ag] m' ak→br (decide (aa < (↑(2:Nat):Int))) (Zaf aa 2∧chk (Nat.ble (Int.toNat aa*8) (1+1+1+1+1+1+1+1)) (∀(al:Nat),chk
 (Nat.beq (List.length (List.take 8 (List.drop (Int.toNat aa*8) [int u8 bI,int u64 bE,int u64 bF,int u64 bG,int u64 aZ,int i64 bC,int i64 bD,slice aW aX aY,int u8 bU,int u64 bV,int
 u64 bW,int u64 bX,int u64 bY,int i64 bZ,int i64 cA,slice bQ bR bS]))) 8&&Zc8 (List.take 8 (List.drop (Int.toNat aa*8) [int u8 bI,int u64 bE,int u64 bF,int u64 bG,int u64 aZ,
 int i64 bC,int i64 bD,slice aW aX aY,int u8 bU,int u64 bV,int u64 bW,int u64 bX,int u64 bY,int i64 bZ,int i64 cA,slice bQ bR bS]))) (Eng.Zr2 (List.take 8 (List.drop
 (Int.toNat aa*8) [int u8 bI,int u64 bE,int u64 bF,int u64 bG,int u64 aZ,int i64 bC,int i64 bD,slice aW aX aY,int u8 bU,int u64 bV,int u64 bW,int u64 bX,int u64 bY,int i64
 bZ,int i64 cA,slice bQ bR bS])) 0 fun(v:Value)=>chk (Zbn u8 v&&decide (u8=u8)) (br (RowKit.intOf v == p0) (Eng.Zr2 (List.take 8 (List.drop (Int.toNat aa*8) [int u8 bI,int u64 bE,int
 u64 bF,int u64 bG,int u64 aZ,int i64 bC,int i64 bD,slice aW aX aY,int u8 bU,int u64 bV,int u64 bW,int u64 bX,int u64 bY,int i64 bZ,int i64 cA,slice bQ bR bS])) 7
 fun(v:Value)=>chk (Zfq v&&true) ((Tok.mk (slice ae af ag) 8=Tok.mk (slice a n c) 8∨slice a n c=slice none 0 0∨c < n+slN v)∧∃(xs:List Value),∃(ys:List Value),List.length xs=n*8∧
 List.length ys=slN v*8∧rowRd m' a xs∧rowRd m' (slA v) ys∧(∀(u:Value),u∈ys→Value.oneCell' u=true)∧(n+slN v)*80≤140737488355328∧n+slN v≤9223372036854775807∧∀(a':Option Addr) (c':
 Nat) (ah:Mem),Mem.le m' ah→rowRd ah a' (List.append xs ys)→[some (Box.mk ab [int u8 bI,int u64 bE,int u64 bF,int u64 bG,int u64 aZ,int i64 bC,int i64 bD,slice aW aX aY,int u8 bU,
 int u64 bV,int u64 bW,int u64 bX,int u64 bY,int i64 bZ,int i64 cA,slice bQ bR bS] 41 16 true true),some (Box.mk ad [int u8 0,int u64 0,int u64 0,int u64 0,int u64 0,int i64 0,int i64 0,
 slice none 0 0] 41 8 false true),some (Box.mk ac [int u8 bU,int u64 bV,int u64 bW,int u64 bX,int u64 bY,int i64 bZ,int i64 cA,slice bQ bR bS] 41 8 true true),some (Box.mk b [int u8 bI,
 int u64 bE,int u64 bF,int u64 bG,int u64 aZ,int i64 bC,int i64 bD,slice aW aX aY] 41 8 true true)]=[some (Box.mk ab [int u8 bI,int u64 bE,int u64 bF,int u64 bG,int u64 aZ,int
 i64 bC,int i64 bD,slice aW aX aY,int u8 bU,int u64 bV,int u64 bW,int u64 bX,int u64 bY,int i64 bZ,int i64 cA,slice bQ bR bS] 41 16 true true),some (Box.mk ad [int u8 0,int
 u64 0,int u64 0,int u64 0,int u64 0,int i64 0,int i64 0,slice none 0 0] 41 8 false true),some (Box.mk ac [int u8 bU,int u64 bV,int u64 bW,int u64 bX,int u64 bY,int i64 bZ,int i64 cA,slice
 bQ bR bS] 41 8 true true),some (Box.mk b [int u8 bI,int u64 bE,int u64 bF,int u64 bG,int u64 aZ,int i64 bC,int i64 bD,slice aW aX aY] 41 8 true true)]∧∃(n':Nat),n' < ak∧I
 [slice a' (n+slN v) c',int i64 (IntKind.wrap i64 (aa+(1:Int)))] [] [slice a' (n+slN v) c'] ah n')) (∃(am:Bool),br (p0 == (3:Int)) (Eng.Zr2 (List.take 8 (List.drop (Int.toNat aa*8) [int u8 bI,int u64
 bE,int u64 bF,int u64 bG,int u64 aZ,int i64 bC,int i64 bD,slice aW aX aY,int u8 bU,int u64 bV,int u64 bW,int u64 bX,int u64 bY,int i64 bZ,int i64 cA,slice bQ bR
 bS])) 0 fun(v:Value)=>chk (Zbn u8 v&&decide (u8=u8)) ([some (Box.mk al (List.take 8 (List.drop (Int.toNat aa*8) [int u8 bI,int u64 bE,int u64 bF,int u64 bG,int u64 aZ,int i64 bC,int i64
 bD,slice aW aX aY,int u8 bU,int u64 bV,int u64 bW,int u64 bX,int u64 bY,int i64 bZ,int i64 cA,slice bQ bR bS])) 41 8 false true),some (Box.mk ab [int u8 bI,int u64 bE,
 int u64 bF,int u64 bG,int u64 aZ,int i64 bC,int i64 bD,slice aW aX aY,int u8 bU,int u64 bV,int u64 bW,int u64 bX,int u64 bY,int i64 bZ,int i64 cA,slice bQ bR bS] 41
 16 true true),some (Box.mk ad [int u8 0,int u64 0,int u64 0,int u64 0,int u64 0,int i64 0,int i64 0,slice none 0 0] 41 8 false true),some (Box.mk ac [int u8 bU,int u64 bV,int u64 bW,int u64 bX,int
 u64 bY,int i64 bZ,int i64 cA,slice bQ bR bS] 41 8 true true),some (Box.mk b [int u8 bI,int u64 bE,int u64 bF,int u64 bG,int u64 aZ,int i64 bC,int i64 bD,slice aW aX aY]
 41 8 true true)]=[some (Box.mk al (List.take 8 (List.drop (Int.toNat aa*8) [int u8 bI,int u64 bE,int u64 bF,int u64 bG,int u64 aZ,int i64 bC,int i64 bD,slice aW aX aY,int u8 bU,int
 u64 bV,int u64 bW,int u64 bX,int u64 bY,int i64 bZ,int i64 cA,slice bQ bR bS])) 41 8 false true),some (Box.mk ab [int u8 bI,int u64 bE,int u64 bF,int u64 bG,int u64 aZ,int i64
 bC,int i64 bD,slice aW aX aY,int u8 bU,int u64 bV,int u64 bW,int u64 bX,int u64 bY,int i64 bZ,int i64 cA,slice bQ bR bS] 41 16 true true),some (Box.mk ad [int u8 0,int u64
 0,int u64 0,int u64 0,int u64 0,int i64 0,int i64 0,slice none 0 0] 41 8 false true),some (Box.mk ac [int u8 bU,int u64 bV,int u64 bW,int u64 bX,int u64 bY,int i64 bZ,int i64 cA,slice bQ
 bR bS] 41 8 true true),some (Box.mk b [int u8 bI,int u64 bE,int u64 bF,int u64 bG,int u64 aZ,int i64 bC,int i64 bD,slice aW aX aY] 41 8 true true)]∧[some (Tok.mk (slice ae af ag)
 8)]=[some (Tok.mk (slice ae af ag) 8)]∧[Value.bool (RowKit.intOf v == (1:Int))]=[Value.bool am])) ([some (Box.mk al (List.take 8 (List.drop (Int.toNat aa*8) [int u8 bI,int u64 bE,int u64 bF,int u64
 bG,int u64 aZ,int i64 bC,int i64 bD,slice aW aX aY,int u8 bU,int u64 bV,int u64 bW,int u64 bX,int u64 bY,int i64 bZ,int i64 cA,slice bQ bR bS])) 41 8 false true),some
 (Box.mk ab [int u8 bI,int u64 bE,int u64 bF,int u64 bG,int u64 aZ,int i64 bC,int i64 bD,slice aW aX aY,int u8 bU,int u64 bV,int u64 bW,int u64 bX,int u64 bY,int i64 bZ,
 int i64 cA,slice bQ bR bS] 41 16 true true),some (Box.mk ad [int u8 0,int u64 0,int u64 0,int u64 0,int u64 0,int i64 0,int i64 0,slice none 0 0] 41 8 false true),some (Box.mk ac [int u8 bU,int
 u64 bV,int u64 bW,int u64 bX,int u64 bY,int i64 bZ,int i64 cA,slice bQ bR bS] 41 8 true true),some (Box.mk b [int u8 bI,int u64 bE,int u64 bF,int u64 bG,int u64 aZ,int i64
 bC,int i64 bD,slice aW aX aY] 41 8 true true)]=[some (Box.mk al (List.take 8 (List.drop (Int.toNat aa*8) [int u8 bI,int u64 bE,int u64 bF,int u64 bG,int u64 aZ,int i64 bC,int i64
 bD,slice aW aX aY,int u8 bU,int u64 bV,int u64 bW,int u64 bX,int u64 bY,int i64 bZ,int i64 cA,slice bQ bR bS])) 41 8 false true),some (Box.mk ab [int u8 bI,int u64 bE,
 int u64 bF,int u64 bG,int u64 aZ,int i64 bC,int i64 bD,slice aW aX aY,int u8 bU,int u64 bV,int u64 bW,int u64 bX,int u64 bY,int i64 bZ,int i64 cA,slice bQ bR bS] 41
 16 true true),some (Box.mk ad [int u8 0,int u64 0,int u64 0,int u64 0,int u64 0,int i64 0,int i64 0,slice none 0 0] 41 8 false true),some (Box.mk ac [int u8 bU,int u64 bV,int u64 bW,int u64 bX,int
 u64 bY,int i64 bZ,int i64 cA,slice bQ bR bS] 41 8 true true),some (Box.mk b [int u8 bI,int u64 bE,int u64 bF,int u64 bG,int u64 aZ,int i64 bC,int i64 bD,slice aW aX aY]
 41 8 true true)]∧[some (Tok.mk (slice ae af ag) 8)]=[some (Tok.mk (slice ae af ag) 8)]∧[Value.bool false]=[Value.bool am])∧br am ([some (Box.mk ab [int u8 bI,int u64 bE,int u64 bF,int u64 bG,int
 u64 aZ,int i64 bC,int i64 bD,slice aW aX aY,int u8 bU,int u64 bV,int u64 bW,int u64 bX,int u64 bY,int i64 bZ,int i64 cA,slice bQ bR bS] 41 16 true true),some (Box.mk ad
 [int u8 0,int u64 0,int u64 0,int u64 0,int u64 0,int i64 0,int i64 0,slice none 0 0] 41 8 false true),some (Box.mk ac [int u8 bU,int u64 bV,int u64 bW,int u64 bX,int u64 bY,int i64 bZ,int i64
 cA,slice bQ bR bS] 41 8 true true),some (Box.mk b [int u8 bI,int u64 bE,int u64 bF,int u64 bG,int u64 aZ,int i64 bC,int i64 bD,slice aW aX aY] 41 8 true true)]=[some (Box.mk
 ab [int u8 bI,int u64 bE,int u64 bF,int u64 bG,int u64 aZ,int i64 bC,int i64 bD,slice aW aX aY,int u8 bU,int u64 bV,int u64 bW,int u64 bX,int u64 bY,int i64 bZ,int i64
 cA,slice bQ bR bS] 41 16 true true),some (Box.mk ad [int u8 0,int u64 0,int u64 0,int u64 0,int u64 0,int i64 0,int i64 0,slice none 0 0] 41 8 false true),some (Box.mk ac [int u8 bU,int u64 bV,
 int u64 bW,int u64 bX,int u64 bY,int i64 bZ,int i64 cA,slice bQ bR bS] 41 8 true true),some (Box.mk b [int u8 bI,int u64 bE,int u64 bF,int u64 bG,int u64 aZ,int i64 bC,int i64
 bD,slice aW aX aY] 41 8 true true)]∧∃(n':Nat),n' < ak∧I [slice a n c,int i64 (IntKind.wrap i64 (aa+(1:Int)))] [] [slice ae af ag] m' n') (chk (Nat.beq (List.length (List.take 8 (List.drop
 (Int.toNat aa*8) [int u8 bI,int u64 bE,int u64 bF,int u64 bG,int u64 aZ,int i64 bC,int i64 bD,slice aW aX aY,int u8 bU,int u64 bV,int u64 bW,int u64 bX,int u64 bY,int i64
 bZ,int i64 cA,slice bQ bR bS]))) 8&&true) (∀(aj:Nat),Mem.free m' aj→(Tok.mk (slice ae af ag) 8=Tok.mk (slice a n c) 8∨slice a n c=slice none 0 0∨c < n+1)∧∃(xs:List Value),∃(ys:
 List Value),List.length xs=n*8∧List.length ys=1*8∧rowRd (Mem.add m' aj (List.append (List.take 8 (List.drop (Int.toNat aa*8) [int u8 bI,int u64 bE,int u64 bF,int u64 bG,int u64 aZ,int i64
 bC,int i64 bD,slice aW aX aY,int u8 bU,int u64 bV,int u64 bW,int u64 bX,int u64 bY,int i64 bZ,int i64 cA,slice bQ bR bS])) [])) a xs∧rowRd (Mem.add m' aj (List.append
 (List.take 8 (List.drop (Int.toNat aa*8) [int u8 bI,int u64 bE,int u64 bF,int u64 bG,int u64 aZ,int i64 bC,int i64 bD,slice aW aX aY,int u8 bU,int u64 bV,int u64 bW,int u64
 bX,int u64 bY,int i64 bZ,int i64 cA,slice bQ bR bS])) [])) (some (Addr.mk aj 0 none)) ys∧(∀(u:Value),u∈ys→Value.oneCell' u=true)∧(n+1)*80≤140737488355328∧n+1 ≤
 9223372036854775807∧∀(a':Option Addr)(c':Nat)(ah:Mem),Mem.le (Mem.add m' aj (List.append (List.take 8 (List.drop (Int.toNat aa*8) [int u8 bI,int u64 bE,int u64 bF,int u64 bG,int u64 aZ,int
 i64 bC,int i64 bD,slice aW aX aY,int u8 bU,int u64 bV,int u64 bW,int u64 bX,int u64 bY,int i64 bZ,int i64 cA,slice bQ bR bS])) [])) ah→rowRd ah a' (List.append xs ys)→
 [some (Box.mk ab [int u8 bI,int u64 bE,int u64 bF,int u64 bG,int u64 aZ,int i64 bC,int i64 bD,slice aW aX aY,int u8 bU,int u64 bV,int u64 bW,int u64 bX,int u64 bY,int i64
 bZ,int i64 cA,slice bQ bR bS] 41 16 true true),some (Box.mk ad [int u8 0,int u64 0,int u64 0,int u64 0,int u64 0,int i64 0,int i64 0,slice none 0 0] 41 8 false true),some (Box.mk ac [int u8 bU,
 int u64 bV,int u64 bW,int u64 bX,int u64 bY,int i64 bZ,int i64 cA,slice bQ bR bS] 41 8 true true),some (Box.mk b [int u8 bI,int u64 bE,int u64 bF,int u64 bG,int u64 aZ,int i64
 bC,int i64 bD,slice aW aX aY] 41 8 true true)]=[some (Box.mk ab [int u8 bI,int u64 bE,int u64 bF,int u64 bG,int u64 aZ,int i64 bC,int i64 bD,slice aW aX aY,int u8 bU,
 int u64 bV,int u64 bW,int u64 bX,int u64 bY,int i64 bZ,int i64 cA,slice bQ bR bS] 41 16 true true),some (Box.mk ad [int u8 0,int u64 0,int u64 0,int u64 0,int u64 0,int i64 0,int i64 0,
 slice none 0 0] 41 8 false true),some (Box.mk ac [int u8 bU,int u64 bV,int u64 bW,int u64 bX,int u64 bY,int i64 bZ,int i64 cA,slice bQ bR bS] 41 8 true true),some (Box.mk b [int u8 bI,
 int u64 bE,int u64 bF,int u64 bG,int u64 aZ,int i64 bC,int i64 bD,slice aW aX aY] 41 8 true true)]∧∃(n':Nat),n' < ak∧I [slice a' (n+1) c',int i64 (IntKind.wrap i64 (aa+(1:
 Int)))] [] [slice a' (n+1) c'] ah n'))))))) (br ((↑n:Int) == (0:Int)) (∃(m'':Mem),Mem.le m m''∧Mem.le m'' m'∧R (agg (Array.mk [int u8 1,int u64 0,int u64 0,int u64 0,int u64 0,int i64 0,int i64 0,
 slice none 0 0])) m'' []) (br ((↑n:Int) == (1:Int)) (∃(b:Nat),∃(o:Nat),a=some (Addr.mk b o none)∧Zaf (0:Int) n∧∃(v:Value),∃(an:Value),∃(ao:Value),∃(ap:Value),∃(aq:Value),∃(ar
 : Value),∃(au:Value),∃(av:Value),Mem.reads m' b (o+0) [v,an,ao,ap,aq,ar,au,av]∧chk (Value.oneCell' v&&(Value.oneCell' an&&(Value.oneCell' ao&&(Value.oneCell' ap&&(Value.oneCell' aq &&
 (Value.oneCell' ar&&(Value.oneCell' au&&(Value.oneCell' av&&true)))))))) (∃(m'':Mem),Mem.le m m''∧Mem.le m'' m'∧R (agg (Array.mk [v,an,ao,ap,aq,ar,au,av])) m'' [])) (∃(m'':Mem),Mem.le m m''∧
 Mem.le m'' m'∧R (agg (Array.mk [int u8 p0,int u64 0,int u64 0,int u64 0,int u64 0,int i64 0,int i64 0,slice a n c])) m'' [])))
theorem ZiJ(p0 bI bE bF bG aZ bC bD:Int)(aW:Option Addr)(aX aY:Nat)(bU bV bW bX bY bZ cA:Int)(bQ:Option Addr)(bR bS:Nat)(m:Mem)(R:RT)(h:ZfV p0 bI bE bF bG aZ bC bD aW aX aY bU bV bW bX bY bZ cA bQ bR bS m R):CX Try.prog 65 #[.int .u8 p0,.agg #[.int .u8 bI,.int .u64 bE,.int .u64 bF,.int .u64 bG,.int .u64 aZ,.int .i64 bC,.int .i64 bD,.slice aW aX aY],.agg #[.int .u8 bU,.int .u64 bV,.int .u64 bW,.int .u64 bX,.int .u64 bY,.int .i64 bZ,.int .i64 cA,.slice bQ bR bS]] m [] R:=
 Zal (E:=Zkt) ZaC mix Try.func65 [.v (.int .u8 p0),.v (.agg #[.int .u8 bI,.int .u64 bE,.int .u64 bF,.int .u64 bG,.int .u64 aZ,.int .i64 bC,.int .i64 bD,.slice aW aX aY]),.v (.agg #[.int .u8 bU,.int .u64 bV,.int .u64 bW,.int .u64 bX,.int .u64 bY,.int .i64 bZ,.int .i64 cA,.slice bQ bR bS])] [] (by kernel_rfl) (Eq.mp (by kernel_rfl) h)
end Go.Proofs.Ytplacemlpkhmfaa

