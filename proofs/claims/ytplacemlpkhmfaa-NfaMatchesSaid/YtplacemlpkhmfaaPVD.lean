/- Part of the proof: conditions and contracts of functions of this program. No condition of its own. -/
import Derived.Test.YtplacemlpkhmfaaPEnv
set_option linter.unusedVariables false
namespace Go.Proofs.Ytplacemlpkhmfaa
open Go Go.Eng Go.Proofs Go.RowKit
open Go.Value (int slice agg)
open Go.IntKind (u8 u64 i64)
set_option maxRecDepth 100000
noncomputable def ZlW:Env:={ EB with
 frzNew:=[1] }
def ZgK(aK aE aM aN aC aG aL:Int)(aB:Option Addr)(aA aD:Nat)(m:Mem)(R:RT):Prop:=
 ∀(b:Nat)(m':Mem),Mem.le m m'→Mem.reads m' b 0 [int u8 aK,int u64 aE,int u64 aM,int u64 aN,int u64 aC,int i64 aG,int i64 aL,slice aB aA aD]→∀(b b:Nat),Mem.free m' b→∃(m'':
 Mem),Mem.le m m''∧Mem.le m'' (Mem.add m' b [int u8 aK,int u64 aE,int u64 aM,int u64 aN,int u64 aC,int i64 aG,int i64 aL,slice aB aA aD])∧R (agg (Array.mk [int u8 6,int u64 0,int u64
 0,int u64 0,int u64 0,int i64 0,int i64 0,slice (some (Addr.mk b 0 none)) 1 1])) m'' []
theorem ZjW(aK aE aM aN aC aG aL:Int)(aB:Option Addr)(aA aD:Nat)(m:Mem)(R:RT)(h:ZgK aK aE aM aN aC aG aL aB aA aD m R):CX Try.prog 66 #[.agg #[.int .u8 aK,.int .u64 aE,.int .u64 aM,.int .u64 aN,.int .u64 aC,.int .i64 aG,.int .i64 aL,.slice aB aA aD]] m [] R:=
 Zaf (E:=ZlW) Zar mix Try.func66 [.v (.agg #[.int .u8 aK,.int .u64 aE,.int .u64 aM,.int .u64 aN,.int .u64 aC,.int .i64 aG,.int .i64 aL,.slice aB aA aD])] [] (by kernel_rfl) (Eq.mp (by kernel_rfl) h)
noncomputable def Zpr:Env:={ EB with
 frzNew:=[3] }
def ZiN(aK aE aM aN aC aG aL:Int)(aB:Option Addr)(aA aD:Nat)(p1 p2:Int)(m:Mem)(R:RT):Prop:=
 ∀(b:Nat)(m':Mem),Mem.le m m'→Mem.reads m' b 0 [int u8 aK,int u64 aE,int u64 aM,int u64 aN,int u64 aC,int i64 aG,int i64 aL,slice aB aA aD]→∀(b b:Nat),Mem.free m' b→∃(m'':
 Mem),Mem.le m m''∧Mem.le m'' (Mem.add m' b [int u8 aK,int u64 aE,int u64 aM,int u64 aN,int u64 aC,int i64 aG,int i64 aL,slice aB aA aD])∧R (agg (Array.mk [int u8 5,int u64 0,int u64
 0,int u64 0,int u64 0,int i64 p1,int i64 p2,slice (some (Addr.mk b 0 none)) 1 1])) m'' []
theorem Znx(aK aE aM aN aC aG aL:Int)(aB:Option Addr)(aA aD:Nat)(p1 p2:Int)(m:Mem)(R:RT)(h:ZiN aK aE aM aN aC aG aL aB aA aD p1 p2 m R):CX Try.prog 67 #[.agg #[.int .u8 aK,.int .u64 aE,.int .u64 aM,.int .u64 aN,.int .u64 aC,.int .i64 aG,.int .i64 aL,.slice aB aA aD],.int .i64 p1,.int .i64 p2] m [] R:=
 Zaf (E:=Zpr) Zar mix Try.func67 [.v (.agg #[.int .u8 aK,.int .u64 aE,.int .u64 aM,.int .u64 aN,.int .u64 aC,.int .i64 aG,.int .i64 aL,.slice aB aA aD]),.v (.int .i64 p1),.v (.int .i64 p2)] [] (by kernel_rfl) (Eq.mp (by kernel_rfl) h)
noncomputable def ZiO:Env:=EB
def ZeF(p0:Int)(m:Mem)(R:RT):Prop:=
 ∀(b:Nat),Mem.free m b→(12:Int)≠(0:Int)∧Zae (Int.tmod p0 (12:Int)) 12∧Eng.ZtS [Value.string (ByteArray.mk (Array.mk [(97:UInt8)])),Value.string (ByteArray.mk (Array.mk [(98:UInt8)])),
 Value.string (ByteArray.mk (Array.mk [(97:UInt8),(98:UInt8)])),Value.string (ByteArray.mk (Array.mk [(97:UInt8)])),Value.string (ByteArray.mk (Array.mk [(98:UInt8)])),Value.string (ByteArray.mk (Array.mk
 [(99:UInt8)])),Value.string (ByteArray.mk (Array.mk [(97:UInt8),(98:UInt8),(99:UInt8)])),Value.string (ByteArray.mk (Array.mk [(98:UInt8),(99:UInt8)])),Value.string (ByteArray.mk (Array.mk [(10:
 UInt8)])),Value.string (ByteArray.mk (Array.mk [(0:UInt8),(255:UInt8)])),Value.string (ByteArray.mk (Array.mk [(97:UInt8)])),Value.string (ByteArray.mk (Array.mk [(98:UInt8)]))] (Int.toNat (Int.tmod p0 (12:
 Int))*1) fun(v:Value)=>∃(m'':Mem),Mem.le m m''∧Mem.le m'' (Mem.add m b [Value.string (ByteArray.mk (Array.mk [(97:UInt8)])),Value.string (ByteArray.mk (Array.mk [(98:UInt8)])),Value.string
 (ByteArray.mk (Array.mk [(97:UInt8),(98:UInt8)])),Value.string (ByteArray.mk (Array.mk [(97:UInt8)])),Value.string (ByteArray.mk (Array.mk [(98:UInt8)])),Value.string (ByteArray.mk (Array.mk [(99:
 UInt8)])),Value.string (ByteArray.mk (Array.mk [(97:UInt8),(98:UInt8),(99:UInt8)])),Value.string (ByteArray.mk (Array.mk [(98:UInt8),(99:UInt8)])),Value.string (ByteArray.mk (Array.mk [(10:UInt8)])),
 Value.string (ByteArray.mk (Array.mk [(0:UInt8),(255:UInt8)])),Value.string (ByteArray.mk (Array.mk [(97:UInt8)])),Value.string (ByteArray.mk (Array.mk [(98:UInt8)]))])∧R v m'' []
theorem ZhU(p0:Int)(m:Mem)(R:RT)(h:ZeF p0 m R):CX Try.prog 64 #[.int .u8 p0] m [] R:=
 Zaf (E:=ZiO) Zar mix Try.func64 [.v (.int .u8 p0)] [] (by kernel_rfl) (Eq.mp (by kernel_rfl) h)
noncomputable def ZlX:Env:={ EB with
 loops:=(fun i=>bif Nat.beq i 3 then⟨[(7,.int .i64)],[3],[],false⟩ else⟨[],[],[],false⟩)
 dr:=(fun i=>bif Nat.beq i 5 then[⟨0,[],[],none,[],[]⟩,⟨1,[],[],none,[],[]⟩,⟨2,[],[],none,[0,1],[]⟩,⟨3,[],[],none,[0,1,2],[]⟩,⟨4,[3],[],none,[0,1,2,3],[]⟩,⟨5,[3],[],none,[0,1,2,3,4],[]⟩,⟨6,[],[],none,[],[]⟩,⟨7,[],[],none,[],[]⟩,⟨8,[],[],none,[6,7],[]⟩,⟨9,[],[],none,[6,7,8],[]⟩,⟨10,[],[],none,[6,7,8,9],[]⟩,⟨11,[],[],none,[0,1,2,3,4,5,6,7,8,9,10],[]⟩,⟨12,[3],[],none,[0,1,2,3,4,5,6,7,8,9,10,11],[]⟩,⟨13,[3],[3],none,[0,1,2,3,4,5,6,7,8,9,10,11,12],[]⟩]else[]) }
def ZgL(p0:ByteArray)(m:Mem)(R:RT):Prop:=
 ∀(b b_1:Nat),∃(I:IT),(∃(n:Nat),I [int i64 0] [[int u64 0,int u64 0,int u64 0,int u64 0]] [] m n)∧∀(n:Int)(cs:List Value)(m':Mem)(n_1:Nat),Mem.le m m'→I [int i64 n] [cs] [] m' n_1→br
 (decide (n < (↑(ByteArray.size p0):Int))) (Zae n (ByteArray.size p0)∧(64:Int)≠(0:Int)∧Zae (IntKind.wrap u8 (Int.tdiv (ZnK p0 (Int.toNat n)) (64:Int))) 4∧Eng.ZtS cs (0+Int.toNat (IntKind.wrap
 u8 (Int.tdiv (ZnK p0 (Int.toNat n)) (64:Int)))*1) fun(v:Value)=>Zae n (ByteArray.size p0)∧(64:Int)≠(0:Int)∧(0:Int)≤Int.tmod (ZnK p0 (Int.toNat n)) (64:Int)∧chk (Zby u64 v&&decide
 (u64=u64)) (Zae (IntKind.wrap u8 (Int.tdiv (ZnK p0 (Int.toNat n)) (64:Int))) 4∧chk (Nat.ble (0+Int.toNat (IntKind.wrap u8 (Int.tdiv (ZnK p0 (Int.toNat n)) (64:Int)))*1+1) (List.length cs)) ([some
 (Box.mk b_1 [] 38 4 false true),some (Box.mk b [int u8 0,int u64 0,int u64 0,int u64 0,int u64 0,int i64 0,int i64 0,slice none 0 0] 41 8 false true)]=[some (Box.mk b_1 [] 38 4 false true),some (Box.mk b [int
 u8 0,int u64 0,int u64 0,int u64 0,int u64 0,int i64 0,int i64 0,slice none 0 0] 41 8 false true)]∧∃(n':Nat),n' < n_1∧I [int i64 (IntKind.wrap i64 (n+(1:Int)))] [Zan cs (0+Int.toNat (IntKind.wrap
 u8 (Int.tdiv (ZnK p0 (Int.toNat n)) (64:Int)))*1) [int u64 (IntKind.wrap u64 (↑(BitVec.toNat (BitVec.ofInt 64 (RowKit.intOf v)|||BitVec.ofInt 64 (IntKind.wrap u64 ((1:Int)*(2:Int) ^ min (Int.toNat
 (Int.tmod (ZnK p0 (Int.toNat n)) (64:Int))) 64)))):Int))]] [] m' n'))) (chk (Nat.beq (List.length cs) 4&&true) (chk (Nat.beq (List.length (List.append cs (List.drop (1+List.length cs) [int u8 2,int u64 0,int
 u64 0,int u64 0,int u64 0,int i64 0,int i64 0,slice none 0 0]))) (nat_lit 7)&&Zb3 (List.append cs (List.drop (1+List.length cs) [int u8 2,int u64 0,int u64 0,int u64 0,int u64 0,int i64 0,int i64 0,
 slice none 0 0]))) (∃(m'':Mem),Mem.le m m''∧Mem.le m'' m'∧R (agg (Array.mk (Zan [int u8 2,int u64 0,int u64 0,int u64 0,int u64 0,int i64 0,int i64 0,slice none 0 0] 1 cs))) m'' [])))
theorem ZjX(p0:ByteArray)(m:Mem)(R:RT)(h:ZgL p0 m R):CX Try.prog 63 #[.string p0] m [] R:=
 Zaf (E:=ZlX) Zar mix Try.func63 [.v (.string p0)] [] (by kernel_rfl) (Eq.mp (by kernel_rfl) h)
noncomputable def ZlY:Env:={ EB with
 loops:=(fun i=>bif Nat.beq i 3 then⟨[(7,.slice),(14,.int .i64)],[],[(30,8)],false⟩ else⟨[],[],[],false⟩)
 joins:=(fun i=>bif Nat.beq i 8 then some [(31,.bool)]else none)
 tokOf:=(fun i=>bif Nat.beq i 21 then 30 else bif Nat.beq i 30 then 30 else 0)
 frzNew:=[4,5] }
def ZgM(p0 bI aU aV aW aR aS aT:Int)(aO:Option Addr)(aP aQ:Nat)(bK bL bM bN bO bP bQ:Int)(cE:Option Addr)(cF cG:Nat)(m:Mem)(R:RT):Prop:=
 ∀(b:Nat)(m':Mem),Mem.le m m'→Mem.reads m' b 0 [int u8 bI,int u64 aU,int u64 aV,int u64 aW,int u64 aR,int i64 aS,int i64 aT,slice aO aP aQ]→∀(ac:Nat)(ai:Mem),Mem.le m' ai→
 Mem.reads ai ac 0 [int u8 bK,int u64 bL,int u64 bM,int u64 bN,int u64 bO,int i64 bP,int i64 bQ,slice cE cF cG]→∀(ad ab:Nat),Mem.free ai ab→∃(I:IT),(∃(n:Nat),I [slice none 0
 0,int i64 0] [] [slice none 0 0] (Mem.add ai ab [int u8 bI,int u64 aU,int u64 aV,int u64 aW,int u64 aR,int i64 aS,int i64 aT,slice aO aP aQ,int u8 bK,int u64 bL,int u64 bM,int
 u64 bN,int u64 bO,int i64 bP,int i64 bQ,slice cE cF cG]) n)∧∀(a:Option Addr)(n c:Nat)(aa:Int)(ae:Option Addr)(af ag:Nat)(m':Mem)(ak:Nat),Mem.le (Mem.add ai ab [int u8 bI,
 int u64 aU,int u64 aV,int u64 aW,int u64 aR,int i64 aS,int i64 aT,slice aO aP aQ,int u8 bK,int u64 bL,int u64 bM,int u64 bN,int u64 bO,int i64 bP,int i64 bQ,slice cE
 cF cG]) m'→I [slice a n c,int i64 aa] [] [slice ae af ag] m' ak→br (decide (aa < (↑(2:Nat):Int))) (Zae aa 2∧chk (Nat.ble (Int.toNat aa*8) (1+1+1+1+1+1+1+1)) (∀(al:Nat),chk
 (Nat.beq (List.length (List.take 8 (List.drop (Int.toNat aa*8) [int u8 bI,int u64 aU,int u64 aV,int u64 aW,int u64 aR,int i64 aS,int i64 aT,slice aO aP aQ,int u8 bK,int u64 bL,int
 u64 bM,int u64 bN,int u64 bO,int i64 bP,int i64 bQ,slice cE cF cG]))) 8&&Zb3 (List.take 8 (List.drop (Int.toNat aa*8) [int u8 bI,int u64 aU,int u64 aV,int u64 aW,int u64 aR,
 int i64 aS,int i64 aT,slice aO aP aQ,int u8 bK,int u64 bL,int u64 bM,int u64 bN,int u64 bO,int i64 bP,int i64 bQ,slice cE cF cG]))) (Eng.ZtS (List.take 8 (List.drop
 (Int.toNat aa*8) [int u8 bI,int u64 aU,int u64 aV,int u64 aW,int u64 aR,int i64 aS,int i64 aT,slice aO aP aQ,int u8 bK,int u64 bL,int u64 bM,int u64 bN,int u64 bO,int i64
 bP,int i64 bQ,slice cE cF cG])) 0 fun(v:Value)=>chk (Zby u8 v&&decide (u8=u8)) (br (RowKit.intOf v == p0) (Eng.ZtS (List.take 8 (List.drop (Int.toNat aa*8) [int u8 bI,int u64 aU,int
 u64 aV,int u64 aW,int u64 aR,int i64 aS,int i64 aT,slice aO aP aQ,int u8 bK,int u64 bL,int u64 bM,int u64 bN,int u64 bO,int i64 bP,int i64 bQ,slice cE cF cG])) 7
 fun(v:Value)=>chk (Zft v&&true) ((Tok.mk (slice ae af ag) 8=Tok.mk (slice a n c) 8∨slice a n c=slice none 0 0∨c < n+slN v)∧∃(xs:List Value),∃(ys:List Value),List.length xs=n*8∧
 List.length ys=slN v*8∧rowRd m' a xs∧rowRd m' (slA v) ys∧(∀(u:Value),u∈ys→Value.oneCell' u=true)∧(n+slN v)*80≤140737488355328∧n+slN v≤9223372036854775807∧∀(a':Option Addr) (c':
 Nat) (ah:Mem),Mem.le m' ah→rowRd ah a' (List.append xs ys)→[some (Box.mk ab [int u8 bI,int u64 aU,int u64 aV,int u64 aW,int u64 aR,int i64 aS,int i64 aT,slice aO aP aQ,int u8 bK,
 int u64 bL,int u64 bM,int u64 bN,int u64 bO,int i64 bP,int i64 bQ,slice cE cF cG] 41 16 true true),some (Box.mk ad [int u8 0,int u64 0,int u64 0,int u64 0,int u64 0,int i64 0,int i64 0,
 slice none 0 0] 41 8 false true),some (Box.mk ac [int u8 bK,int u64 bL,int u64 bM,int u64 bN,int u64 bO,int i64 bP,int i64 bQ,slice cE cF cG] 41 8 true true),some (Box.mk b [int u8 bI,
 int u64 aU,int u64 aV,int u64 aW,int u64 aR,int i64 aS,int i64 aT,slice aO aP aQ] 41 8 true true)]=[some (Box.mk ab [int u8 bI,int u64 aU,int u64 aV,int u64 aW,int u64 aR,int
 i64 aS,int i64 aT,slice aO aP aQ,int u8 bK,int u64 bL,int u64 bM,int u64 bN,int u64 bO,int i64 bP,int i64 bQ,slice cE cF cG] 41 16 true true),some (Box.mk ad [int u8 0,int
 u64 0,int u64 0,int u64 0,int u64 0,int i64 0,int i64 0,slice none 0 0] 41 8 false true),some (Box.mk ac [int u8 bK,int u64 bL,int u64 bM,int u64 bN,int u64 bO,int i64 bP,int i64 bQ,slice
 cE cF cG] 41 8 true true),some (Box.mk b [int u8 bI,int u64 aU,int u64 aV,int u64 aW,int u64 aR,int i64 aS,int i64 aT,slice aO aP aQ] 41 8 true true)]∧∃(n':Nat),n' < ak∧I
 [slice a' (n+slN v) c',int i64 (IntKind.wrap i64 (aa+(1:Int)))] [] [slice a' (n+slN v) c'] ah n')) (∃(am:Bool),br (p0 == (3:Int)) (Eng.ZtS (List.take 8 (List.drop (Int.toNat aa*8) [int u8 bI,int u64
 aU,int u64 aV,int u64 aW,int u64 aR,int i64 aS,int i64 aT,slice aO aP aQ,int u8 bK,int u64 bL,int u64 bM,int u64 bN,int u64 bO,int i64 bP,int i64 bQ,slice cE cF
 cG])) 0 fun(v:Value)=>chk (Zby u8 v&&decide (u8=u8)) ([some (Box.mk al (List.take 8 (List.drop (Int.toNat aa*8) [int u8 bI,int u64 aU,int u64 aV,int u64 aW,int u64 aR,int i64 aS,int i64
 aT,slice aO aP aQ,int u8 bK,int u64 bL,int u64 bM,int u64 bN,int u64 bO,int i64 bP,int i64 bQ,slice cE cF cG])) 41 8 false true),some (Box.mk ab [int u8 bI,int u64 aU,
 int u64 aV,int u64 aW,int u64 aR,int i64 aS,int i64 aT,slice aO aP aQ,int u8 bK,int u64 bL,int u64 bM,int u64 bN,int u64 bO,int i64 bP,int i64 bQ,slice cE cF cG] 41
 16 true true),some (Box.mk ad [int u8 0,int u64 0,int u64 0,int u64 0,int u64 0,int i64 0,int i64 0,slice none 0 0] 41 8 false true),some (Box.mk ac [int u8 bK,int u64 bL,int u64 bM,int u64 bN,int
 u64 bO,int i64 bP,int i64 bQ,slice cE cF cG] 41 8 true true),some (Box.mk b [int u8 bI,int u64 aU,int u64 aV,int u64 aW,int u64 aR,int i64 aS,int i64 aT,slice aO aP aQ]
 41 8 true true)]=[some (Box.mk al (List.take 8 (List.drop (Int.toNat aa*8) [int u8 bI,int u64 aU,int u64 aV,int u64 aW,int u64 aR,int i64 aS,int i64 aT,slice aO aP aQ,int u8 bK,int
 u64 bL,int u64 bM,int u64 bN,int u64 bO,int i64 bP,int i64 bQ,slice cE cF cG])) 41 8 false true),some (Box.mk ab [int u8 bI,int u64 aU,int u64 aV,int u64 aW,int u64 aR,int i64
 aS,int i64 aT,slice aO aP aQ,int u8 bK,int u64 bL,int u64 bM,int u64 bN,int u64 bO,int i64 bP,int i64 bQ,slice cE cF cG] 41 16 true true),some (Box.mk ad [int u8 0,int u64
 0,int u64 0,int u64 0,int u64 0,int i64 0,int i64 0,slice none 0 0] 41 8 false true),some (Box.mk ac [int u8 bK,int u64 bL,int u64 bM,int u64 bN,int u64 bO,int i64 bP,int i64 bQ,slice cE
 cF cG] 41 8 true true),some (Box.mk b [int u8 bI,int u64 aU,int u64 aV,int u64 aW,int u64 aR,int i64 aS,int i64 aT,slice aO aP aQ] 41 8 true true)]∧[some (Tok.mk (slice ae af ag)
 8)]=[some (Tok.mk (slice ae af ag) 8)]∧[Value.bool (RowKit.intOf v == (1:Int))]=[Value.bool am])) ([some (Box.mk al (List.take 8 (List.drop (Int.toNat aa*8) [int u8 bI,int u64 aU,int u64 aV,int u64
 aW,int u64 aR,int i64 aS,int i64 aT,slice aO aP aQ,int u8 bK,int u64 bL,int u64 bM,int u64 bN,int u64 bO,int i64 bP,int i64 bQ,slice cE cF cG])) 41 8 false true),some
 (Box.mk ab [int u8 bI,int u64 aU,int u64 aV,int u64 aW,int u64 aR,int i64 aS,int i64 aT,slice aO aP aQ,int u8 bK,int u64 bL,int u64 bM,int u64 bN,int u64 bO,int i64 bP,
 int i64 bQ,slice cE cF cG] 41 16 true true),some (Box.mk ad [int u8 0,int u64 0,int u64 0,int u64 0,int u64 0,int i64 0,int i64 0,slice none 0 0] 41 8 false true),some (Box.mk ac [int u8 bK,int
 u64 bL,int u64 bM,int u64 bN,int u64 bO,int i64 bP,int i64 bQ,slice cE cF cG] 41 8 true true),some (Box.mk b [int u8 bI,int u64 aU,int u64 aV,int u64 aW,int u64 aR,int i64
 aS,int i64 aT,slice aO aP aQ] 41 8 true true)]=[some (Box.mk al (List.take 8 (List.drop (Int.toNat aa*8) [int u8 bI,int u64 aU,int u64 aV,int u64 aW,int u64 aR,int i64 aS,int i64
 aT,slice aO aP aQ,int u8 bK,int u64 bL,int u64 bM,int u64 bN,int u64 bO,int i64 bP,int i64 bQ,slice cE cF cG])) 41 8 false true),some (Box.mk ab [int u8 bI,int u64 aU,
 int u64 aV,int u64 aW,int u64 aR,int i64 aS,int i64 aT,slice aO aP aQ,int u8 bK,int u64 bL,int u64 bM,int u64 bN,int u64 bO,int i64 bP,int i64 bQ,slice cE cF cG] 41
 16 true true),some (Box.mk ad [int u8 0,int u64 0,int u64 0,int u64 0,int u64 0,int i64 0,int i64 0,slice none 0 0] 41 8 false true),some (Box.mk ac [int u8 bK,int u64 bL,int u64 bM,int u64 bN,int
 u64 bO,int i64 bP,int i64 bQ,slice cE cF cG] 41 8 true true),some (Box.mk b [int u8 bI,int u64 aU,int u64 aV,int u64 aW,int u64 aR,int i64 aS,int i64 aT,slice aO aP aQ]
 41 8 true true)]∧[some (Tok.mk (slice ae af ag) 8)]=[some (Tok.mk (slice ae af ag) 8)]∧[Value.bool false]=[Value.bool am])∧br am ([some (Box.mk ab [int u8 bI,int u64 aU,int u64 aV,int u64 aW,int
 u64 aR,int i64 aS,int i64 aT,slice aO aP aQ,int u8 bK,int u64 bL,int u64 bM,int u64 bN,int u64 bO,int i64 bP,int i64 bQ,slice cE cF cG] 41 16 true true),some (Box.mk ad
 [int u8 0,int u64 0,int u64 0,int u64 0,int u64 0,int i64 0,int i64 0,slice none 0 0] 41 8 false true),some (Box.mk ac [int u8 bK,int u64 bL,int u64 bM,int u64 bN,int u64 bO,int i64 bP,int i64
 bQ,slice cE cF cG] 41 8 true true),some (Box.mk b [int u8 bI,int u64 aU,int u64 aV,int u64 aW,int u64 aR,int i64 aS,int i64 aT,slice aO aP aQ] 41 8 true true)]=[some (Box.mk
 ab [int u8 bI,int u64 aU,int u64 aV,int u64 aW,int u64 aR,int i64 aS,int i64 aT,slice aO aP aQ,int u8 bK,int u64 bL,int u64 bM,int u64 bN,int u64 bO,int i64 bP,int i64
 bQ,slice cE cF cG] 41 16 true true),some (Box.mk ad [int u8 0,int u64 0,int u64 0,int u64 0,int u64 0,int i64 0,int i64 0,slice none 0 0] 41 8 false true),some (Box.mk ac [int u8 bK,int u64 bL,
 int u64 bM,int u64 bN,int u64 bO,int i64 bP,int i64 bQ,slice cE cF cG] 41 8 true true),some (Box.mk b [int u8 bI,int u64 aU,int u64 aV,int u64 aW,int u64 aR,int i64 aS,int i64
 aT,slice aO aP aQ] 41 8 true true)]∧∃(n':Nat),n' < ak∧I [slice a n c,int i64 (IntKind.wrap i64 (aa+(1:Int)))] [] [slice ae af ag] m' n') (chk (Nat.beq (List.length (List.take 8 (List.drop
 (Int.toNat aa*8) [int u8 bI,int u64 aU,int u64 aV,int u64 aW,int u64 aR,int i64 aS,int i64 aT,slice aO aP aQ,int u8 bK,int u64 bL,int u64 bM,int u64 bN,int u64 bO,int i64
 bP,int i64 bQ,slice cE cF cG]))) 8&&true) (∀(aj:Nat),Mem.free m' aj→(Tok.mk (slice ae af ag) 8=Tok.mk (slice a n c) 8∨slice a n c=slice none 0 0∨c < n+1)∧∃(xs:List Value),∃(ys:
 List Value),List.length xs=n*8∧List.length ys=1*8∧rowRd (Mem.add m' aj (List.append (List.take 8 (List.drop (Int.toNat aa*8) [int u8 bI,int u64 aU,int u64 aV,int u64 aW,int u64 aR,int i64
 aS,int i64 aT,slice aO aP aQ,int u8 bK,int u64 bL,int u64 bM,int u64 bN,int u64 bO,int i64 bP,int i64 bQ,slice cE cF cG])) [])) a xs∧rowRd (Mem.add m' aj (List.append
 (List.take 8 (List.drop (Int.toNat aa*8) [int u8 bI,int u64 aU,int u64 aV,int u64 aW,int u64 aR,int i64 aS,int i64 aT,slice aO aP aQ,int u8 bK,int u64 bL,int u64 bM,int u64
 bN,int u64 bO,int i64 bP,int i64 bQ,slice cE cF cG])) [])) (some (Addr.mk aj 0 none)) ys∧(∀(u:Value),u∈ys→Value.oneCell' u=true)∧(n+1)*80≤140737488355328∧n+1 ≤
 9223372036854775807∧∀(a':Option Addr)(c':Nat)(ah:Mem),Mem.le (Mem.add m' aj (List.append (List.take 8 (List.drop (Int.toNat aa*8) [int u8 bI,int u64 aU,int u64 aV,int u64 aW,int u64 aR,int
 i64 aS,int i64 aT,slice aO aP aQ,int u8 bK,int u64 bL,int u64 bM,int u64 bN,int u64 bO,int i64 bP,int i64 bQ,slice cE cF cG])) [])) ah→rowRd ah a' (List.append xs ys)→
 [some (Box.mk ab [int u8 bI,int u64 aU,int u64 aV,int u64 aW,int u64 aR,int i64 aS,int i64 aT,slice aO aP aQ,int u8 bK,int u64 bL,int u64 bM,int u64 bN,int u64 bO,int i64
 bP,int i64 bQ,slice cE cF cG] 41 16 true true),some (Box.mk ad [int u8 0,int u64 0,int u64 0,int u64 0,int u64 0,int i64 0,int i64 0,slice none 0 0] 41 8 false true),some (Box.mk ac [int u8 bK,
 int u64 bL,int u64 bM,int u64 bN,int u64 bO,int i64 bP,int i64 bQ,slice cE cF cG] 41 8 true true),some (Box.mk b [int u8 bI,int u64 aU,int u64 aV,int u64 aW,int u64 aR,int i64
 aS,int i64 aT,slice aO aP aQ] 41 8 true true)]=[some (Box.mk ab [int u8 bI,int u64 aU,int u64 aV,int u64 aW,int u64 aR,int i64 aS,int i64 aT,slice aO aP aQ,int u8 bK,
 int u64 bL,int u64 bM,int u64 bN,int u64 bO,int i64 bP,int i64 bQ,slice cE cF cG] 41 16 true true),some (Box.mk ad [int u8 0,int u64 0,int u64 0,int u64 0,int u64 0,int i64 0,int i64 0,
 slice none 0 0] 41 8 false true),some (Box.mk ac [int u8 bK,int u64 bL,int u64 bM,int u64 bN,int u64 bO,int i64 bP,int i64 bQ,slice cE cF cG] 41 8 true true),some (Box.mk b [int u8 bI,
 int u64 aU,int u64 aV,int u64 aW,int u64 aR,int i64 aS,int i64 aT,slice aO aP aQ] 41 8 true true)]∧∃(n':Nat),n' < ak∧I [slice a' (n+1) c',int i64 (IntKind.wrap i64 (aa+(1:
 Int)))] [] [slice a' (n+1) c'] ah n'))))))) (br ((↑n:Int) == (0:Int)) (∃(m'':Mem),Mem.le m m''∧Mem.le m'' m'∧R (agg (Array.mk [int u8 1,int u64 0,int u64 0,int u64 0,int u64 0,int i64 0,int i64 0,
 slice none 0 0])) m'' []) (br ((↑n:Int) == (1:Int)) (∃(b:Nat),∃(o:Nat),a=some (Addr.mk b o none)∧Zae (0:Int) n∧∃(v:Value),∃(an:Value),∃(ao:Value),∃(ap:Value),∃(aq:Value),∃(ar
 : Value),∃(au:Value),∃(av:Value),Mem.reads m' b (o+0) [v,an,ao,ap,aq,ar,au,av]∧chk (Value.oneCell' v&&(Value.oneCell' an&&(Value.oneCell' ao&&(Value.oneCell' ap&&(Value.oneCell' aq &&
 (Value.oneCell' ar&&(Value.oneCell' au&&(Value.oneCell' av&&true)))))))) (∃(m'':Mem),Mem.le m m''∧Mem.le m'' m'∧R (agg (Array.mk [v,an,ao,ap,aq,ar,au,av])) m'' [])) (∃(m'':Mem),Mem.le m m''∧
 Mem.le m'' m'∧R (agg (Array.mk [int u8 p0,int u64 0,int u64 0,int u64 0,int u64 0,int i64 0,int i64 0,slice a n c])) m'' [])))
theorem ZjY(p0 bI aU aV aW aR aS aT:Int)(aO:Option Addr)(aP aQ:Nat)(bK bL bM bN bO bP bQ:Int)(cE:Option Addr)(cF cG:Nat)(m:Mem)(R:RT)(h:ZgM p0 bI aU aV aW aR aS aT aO aP aQ bK bL bM bN bO bP bQ cE cF cG m R):CX Try.prog 65 #[.int .u8 p0,.agg #[.int .u8 bI,.int .u64 aU,.int .u64 aV,.int .u64 aW,.int .u64 aR,.int .i64 aS,.int .i64 aT,.slice aO aP aQ],.agg #[.int .u8 bK,.int .u64 bL,.int .u64 bM,.int .u64 bN,.int .u64 bO,.int .i64 bP,.int .i64 bQ,.slice cE cF cG]] m [] R:=
 Zaf (E:=ZlY) Zar mix Try.func65 [.v (.int .u8 p0),.v (.agg #[.int .u8 bI,.int .u64 aU,.int .u64 aV,.int .u64 aW,.int .u64 aR,.int .i64 aS,.int .i64 aT,.slice aO aP aQ]),.v (.agg #[.int .u8 bK,.int .u64 bL,.int .u64 bM,.int .u64 bN,.int .u64 bO,.int .i64 bP,.int .i64 bQ,.slice cE cF cG])] [] (by kernel_rfl) (Eq.mp (by kernel_rfl) h)
end Go.Proofs.Ytplacemlpkhmfaa

