/- Part of the proof: conditions and contracts of functions of this program. No condition of its own. -/
import Derived.Test.YtplacemlpkhmfaaPEnv
import Derived.Test.YtplacemlpkhmfaaMc
set_option linter.unusedVariables false
namespace Go.Proofs.Ytplacemlpkhmfaa
open Go Go.Eng Go.Proofs Go.RowKit
open Go.Value (int slice agg)
open Go.IntKind (u8 u64 i64)
set_option maxRecDepth 100000
noncomputable def Zn6:Env:={ EB with
 loops:=(fun i=>bif Nat.beq i 3 then⟨[(12,.int .i64)],[],[],false⟩ else⟨[],[],[],false⟩)
 dr:=(fun i=>bif Nat.beq i 5 then[⟨0,[1],[],none,[],[]⟩,⟨1,[1],[],none,[0],[]⟩,⟨2,[],[],none,[],[]⟩,⟨3,[4],[],none,[],[]⟩,⟨4,[],[],none,[3],[]⟩,⟨5,[],[],none,[0,1,2,3,4],[]⟩]else[])
 thaw:=true
 stAt:=(fun i=>bif Nat.beq i 22 then some 7 else none)
 last:=(fun i=>bif Nat.beq i 5 then true else false)
 tokC:=(fun i=>bif Nat.beq i 7 then some (7,8)else none) }
def ZhR(aF aG aH aI aA aE aJ:Int)(aC:Option Addr)(aB aD:Nat)(m:Mem)(R:RT):Prop:=
 ∀(b ak:Nat),∃(R_1:RT),CXT Try.prog 118 (Array.mk [slice aC aB aD]) m 8 R_1∧ZaJ Shape.slice R_1∧∀(a:Option Addr)(n c:Nat)(m':Mem),Mem.le m m'→R_1 (slice a n c) m' []→∃(I:IT),(∃(n
 : Nat),I [int i64 0] [] [] m' n)∧∀(aa:Int)(m':Mem)(al:Nat),True→I [int i64 aa] [] [] m' al→br (decide (aa < (↑n:Int))) (∃(am:Nat),∃(o:Nat),a=some (Addr.mk am o none)∧Zaf aa n∧∃(v:
 Value),∃(ab:Value),∃(ac:Value),∃(ad:Value),∃(ae:Value),∃(af:Value),∃(ag:Value),∃(ah:Value),Mem.reads m' am (o+Int.toNat aa*8) [v,ab,ac,ad,ae,af,ag,ah]∧∀(az:Nat),chk
 (Value.oneCell' v&&(Value.oneCell' ab&&(Value.oneCell' ac&&(Value.oneCell' ad&&(Value.oneCell' ae&&(Value.oneCell' af&&(Value.oneCell' ag&&(Value.oneCell' ah&&true)))))))) (∃(f:Fx),∃(R:RT),R=f
 4 [agg (Array.mk [v,ab,ac,ad,ae,af,ag,ah])] m'∧CX Try.prog 85 (Array.mk [agg (Array.mk [v,ab,ac,ad,ae,af,ag,ah])]) m' [] R∧ZaJ (shT) R∧∀(an ao ap aq ar au av:Int)(aw:Option Addr)(ax ay:Nat)
 (ai:Mem),Mem.le m' ai→R (agg (Array.mk [int u8 an,int u64 ao,int u64 ap,int u64 aq,int u64 ar,int i64 au,int i64 av,slice aw ax ay])) ai []→∃(aj:Nat),∃(o:Nat),a=some (Addr.mk aj o none)∧Zaf
 aa n∧∀(M:Mem),Mem.le m' M→Mem.le ai M→slice a n c=slice (some (Addr.mk aj 0 none)) n c∧o+Int.toNat aa*8+8≤n*8∧[some (Box.mk ak [int u8 0,int u64 0,int u64 0,int u64 0,int u64 0,int i64 0,
 int i64 0,slice none 0 0] 41 8 false true),some (Box.mk b [int u8 aF,int u64 aG,int u64 aH,int u64 aI,int u64 aA,int i64 aE,int i64 aJ,slice a n c] 41 8 false true)]=[some (Box.mk ak [int u8 0,
 int u64 0,int u64 0,int u64 0,int u64 0,int i64 0,int i64 0,slice none 0 0] 41 8 false true),some (Box.mk b [int u8 aF,int u64 aG,int u64 aH,int u64 aI,int u64 aA,int i64 aE,int i64 aJ,slice
 a n c] 41 8 false true)]∧[some (Tok.mk (slice a n c) 8)]=[some (Tok.mk (slice a n c) 8)]∧∃(n':Nat),n' < al∧I [int i64 (IntKind.wrap i64 (aa+(1:Int)))] [] [] (Mem.upd M aj (o+Int.toNat aa*8) [int u8
 an,int u64 ao,int u64 ap,int u64 aq,int u64 ar,int i64 au,int i64 av,slice aw ax ay]) n')) (∃(m'':Mem),Mem.le m m''∧Mem.le m'' m'∧R (agg (Array.mk [int u8 aF,int u64 aG,int u64 aH,int u64 aI,
 int u64 aA,int i64 aE,int i64 aJ,slice a n c])) m'' [])
theorem Zma(aF aG aH aI aA aE aJ:Int)(aC:Option Addr)(aB aD:Nat)(m:Mem)(R:RT)(h:ZhR aF aG aH aI aA aE aJ aC aB aD m R):CX Try.prog 85 #[.agg #[.int .u8 aF,.int .u64 aG,.int .u64 aH,.int .u64 aI,.int .u64 aA,.int .i64 aE,.int .i64 aJ,.slice aC aB aD]] m [] R:=
 Zal (E:=Zn6) ZaC mix Try.func85 [.v (.agg #[.int .u8 aF,.int .u64 aG,.int .u64 aH,.int .u64 aI,.int .u64 aA,.int .i64 aE,.int .i64 aJ,.slice aC aB aD])] [] (by kernel_rfl) (Eq.mp (by kernel_rfl) h)
noncomputable def ZbY:Env:={ EB with
 tokOf:=(fun i=>bif Nat.beq i 2 then 7 else bif Nat.beq i 7 then 7 else 0)
 tokC:=(fun i=>bif Nat.beq i 5 then some (7,8)else none)
 thaw:=true }
def Za8(p0a:Option Addr)(p0n p0c:Nat)(m:Mem)(R:RT):Prop:=
 br (Option.isNone p0a) (slice none 0 0=slice none 0 0∧R (slice none 0 0) m []) (((0:Int)=(0:Int)∧(0:Int)≤(0:Int)∧(0:Int)*(↑(80:Nat):Int)≤(281474976710656:Int)∧(0:Int) ≤
 (9223372036854775807:Int))∧∀(b:Nat),Mem.free m b→(Tok.mk (slice (some (Addr.mk b 0 none)) 0 (Int.toNat (0:Int))) 8=Tok.mk (slice (some (Addr.mk b 0 none)) 0 (Int.toNat (0:Int))) 8∨slice (some (Addr.mk
 b 0 none)) 0 (Int.toNat (0:Int))=slice none 0 0∨Int.toNat (0:Int) < 0+p0n)∧∃(xs:List Value),∃(ys:List Value),List.length xs=0*8∧List.length ys=p0n*8∧rowRd m (some (Addr.mk b 0 none)) xs∧
 rowRd m p0a ys∧(∀(u:Value),u∈ys→Value.oneCell' u=true)∧(0+p0n)*80≤140737488355328∧0+p0n≤9223372036854775807∧∀(a':Option Addr)(c':Nat)(m':Mem),Mem.le m m'→rowRd m' a' (List.append
 xs ys)→TokFact m (some (Addr.mk b 0 none)) a' (0+p0n) c'→some (Tok.mk (slice a' (0+p0n) c') 8)=some (Tok.mk (slice a' (0+p0n) c') 8)∧R (slice a' (0+p0n) c') m' [])
theorem ZbM(p0a:Option Addr)(p0n p0c:Nat)(m:Mem)(R:RT)(h:Za8 p0a p0n p0c m R):CXT Try.prog 118 #[.slice p0a p0n p0c] m 8 R:=
 Zii (E:=ZbY) ZaC mix Try.func118 [.v (.slice p0a p0n p0c)] (by kernel_rfl) (Eq.mp (by kernel_rfl) h)
end Go.Proofs.Ytplacemlpkhmfaa

