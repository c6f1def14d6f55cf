/- Part of the proof: conditions and contracts of functions of this program. No condition of its own. -/
import Derived.Test.YtplacemlpkhmfaaPEnv
set_option linter.unusedVariables false
namespace Go.Proofs.Ytplacemlpkhmfaa
open Go Go.Eng Go.Proofs Go.RowKit
open Go.Value (int slice agg)
open Go.IntKind (u8 u64 i64)
set_option maxRecDepth 100000
noncomputable def Zgo:Env:={ EB with
 loops:=(fun i=>bif Nat.beq i 14 then⟨[(16,.slice),(96,.int .i64)],[],[(114,1)],false⟩ else⟨[],[],[],false⟩)
 dr:=(fun i=>bif Nat.beq i 10 then[⟨0,[],[],none,[],[]⟩,⟨1,[],[],none,[],[]⟩,⟨2,[],[],none,[0,1],[]⟩,⟨3,[],[],none,[],[]⟩,⟨4,[],[],none,[0,1,2,3],[]⟩,⟨5,[],[],none,[],[]⟩,⟨6,[],[],none,[0,1,2,3,4,5],[]⟩,⟨7,[],[],none,[],[]⟩,⟨8,[],[],none,[0,1,2,3,4,5,6,7],[]⟩,⟨9,[],[],none,[0,1,2,3,4,5,6,7,8],[]⟩,⟨10,[],[],none,[0,1,2,3,4,5,6,7,8,9],[]⟩,⟨11,[6],[],none,[0,1,2,3,4,5,6,7,8,9,10],[]⟩,⟨12,[],[],none,[0,1,2,3,4,5,6,7,8,9,10,11],[]⟩,⟨13,[],[],none,[0,1,2,3,4,5,6,7,8,9,10,11,12],[]⟩,⟨14,[],[],none,[0,1,2,3,4,5,6,7,8,9,10,11,12,13],[]⟩,⟨15,[],[],none,[0,1,2,3,4,5,6,7,8,9,10,11,12,13,14],[]⟩,⟨16,[],[],none,[0,1,2,3,4,5,6,7,8,9,10,11,12,13,14,15],[]⟩,⟨17,[],[],none,[0,1,2,3,4,5,6,7,8,9,10,11,12,13,14,15],[]⟩,⟨18,[],[],none,[0,1,2,3,4,5,6,7,8,9,10,11,12,13,14,15,16,17],[]⟩,⟨19,[],[],none,[0,1,2,3,4,5,6,7,8,9,10,11,12,13,14,15,16,17,18],[]⟩,⟨20,[],[],none,[0,1,2,3,4,5,6,7,8,9,10,11,12,13,14,15,16,17,18,19],[]⟩,⟨21,[],[],none,[0,1,2,3,4,5,6,7,8,9,10,11,12,13,14,15,16,17,18,19,20],[]⟩,⟨22,[],[],none,[0,1,2,3,4,5,6,7,8,9,10,11,12,13,14,15,16,17,18,19,20,21],[]⟩,⟨23,[6],[],none,[0,1,2,3,4,5,6,7,8,9,10,11,12,13,14,15,16,17,18,19,20],[]⟩,⟨24,[6],[],none,[0,1,2,3,4,5,6,7,8,9,10,11,12,13,14,15,16,17,18,19,20,23],[12]⟩,⟨25,[],[],none,[0,1,2,3,4,5,6,7,8,9,10,11,12,13,14,15,16,17,18,19,20,23,24],[]⟩,⟨26,[],[],none,[0,1,2,3,4,5,6,7,8,9,10,11,12,13,14,15,16,17,18,19,20,21,22,23,24,25],[]⟩,⟨27,[],[],none,[0,1,2,3,4,5,6,7,8,9,10,11,12,13,14,15,16,17,18,19,20,21,22,23,24,25,26],[]⟩,⟨28,[],[],none,[0,1,2,3,4,5,6,7,8,9,10,11,12,13,14,15,16,17,18,19,20,21,22,23,24,25,26,27],[]⟩,⟨29,[6],[],none,[0,1,2,3,4,5,6,7,8,9,10,11,12,13,14,15,16,17,18,19,20,21,22,23,24,25,26,27,28],[]⟩,⟨30,[6],[],none,[0,1,2,3,4,5,6,7,8,9,10,11,12,13,14,15,16,17,18,19,20,21,22,23,24,25,26,27,28,29],[12]⟩,⟨31,[],[],none,[0,1,2,3,4,5,6,7,8,9,10,11,12,13,14,15,16,17,18,19,20,21,22,23,24,25,26,27,28,29,30],[]⟩,⟨32,[5],[],none,[0,1,2,3,4,5,6,7,8,9,10,11,12,13,14,15,16,17,18,19,20,21,22,23,24,25,26,27,28],[12]⟩,⟨33,[],[],none,[0,1,2,3,4,5,6,7,8,9,10,11,12,13,14,15,16,17,18,19,20,21,22,23,24,25,26,27,28,32],[12]⟩,⟨34,[],[],none,[0,1,2,3,4,5,6,7,8,9,10,11,12,13,14,15,16,17,18,19,20,21,22,23,24,25,26,27,28,29,30,31,32,33],[]⟩,⟨35,[],[],none,[0,1,2,3,4,5,6,7,8,9,10,11,12,13,14,15,16,17,18,19,20,21,22,23,24,25,26,27,28,29,30,31,32,33,34],[]⟩]else[])
 tokOf:=(fun i=>bif Nat.beq i 114 then 114 else 0)
 gb:=true }
def Zc4(p0a:Option Addr)(p0n p0c:Nat)(p1a:Option Addr)(p1n p1c:Nat)(m:Mem)(R:RT):Prop:=
 ∃(R_1:RT),True∧CX Try.prog 12 (Array.mk []) m [] R_1∧Zaz Shape.bool R_1∧∀(b:Bool)(m':Mem),Mem.le m m'→R_1 (Value.bool b) m' []→br (!b) (∃(m'':Mem),Mem.le m m''∧Mem.le m'' m'∧R (Value.bool
 false) m'' []) (∃(R_2:RT),True∧CX Try.prog 15 (Array.mk [slice p0a p0n p0c]) m' [] R_2∧Zaz (shT) R_2∧∀(n ae af ag ah ai aj:Int)(a:Option Addr)(ak c:Nat)(a3:Mem),Mem.le m' a3→R_2 (agg (Array.mk
 [int u8 n,int u64 ae,int u64 af,int u64 ag,int u64 ah,int i64 ai,int i64 aj,slice a ak c])) a3 []→∀(b:Nat),(((0:Int)≤if(30:Int) < (↑p1n:Int)then(30:Int)else(↑p1n:Int))∧(if(30:Int) <
 (↑p1n:Int)then(30:Int)else(↑p1n:Int))≤(↑p1c:Int))∧∃(R_3:RT),True∧CX Try.prog 14 (Array.mk [agg (Array.mk [int u8 n,int u64 ae,int u64 af,int u64 ag,int u64 ah,int i64 ai,int i64 aj,slice a
 ak c])]) a3 [] R_3∧Zaz (Shape.tup [Shape.agg [Shape.slice,Shape.slice,Shape.slice,Shape.slice,Shape.bool],Shape.int i64]) R_3∧∀(al:Option Addr)(aa am:Nat)(an:Option Addr)(ao ap:Nat) (aq:Option
 Addr) (ar au:Nat) (av:Option Addr) (aw ax:Nat) (ay:Bool) (bc:Int) (m':Mem),Mem.le a3 m'→R_3 (Value.tuple (Array.mk [agg (Array.mk [slice al aa am,slice an ao ap,slice aq ar au,slice av aw ax,
 Value.bool ay]),int i64 bc])) m' []→∀(a4:Nat),∃(R_4:RT),True∧CX Try.prog 18 (Array.mk [agg (Array.mk [slice al aa am,slice an ao ap,slice aq ar au,slice av aw ax,Value.bool ay]),slice (ZaJ p1a 0 p1c
 1) (Int.toNat (if(30:Int) < (↑p1n:Int)then(30:Int)else(↑p1n:Int)) - 0) (p1c - 0)]) m' [] R_4∧Zaz (Shape.tup [Shape.bool,Shape.int i64]) R_4∧∀(bd:Bool)(be:Int)(a5:Mem),Mem.le m' a5→R_4
 (Value.tuple (Array.mk [Value.bool bd,int i64 be])) a5 []→∃(R_5:RT),True∧CX Try.prog 36 (Array.mk [agg (Array.mk [int u8 n,int u64 ae,int u64 af,int u64 ag,int u64 ah,int i64 ai,int i64 aj,slice a ak
 c]),slice (ZaJ p1a 0 p1c 1) (Int.toNat (if(30:Int) < (↑p1n:Int)then(30:Int)else(↑p1n:Int)) - 0) (p1c - 0)]) a5 [] R_5∧Zaz (Shape.tup [Shape.bool,Shape.int i64]) R_5∧∀(bf:Bool)(bg:Int) (m':
 Mem),Mem.le a5 m'→R_5 (Value.tuple (Array.mk [Value.bool bf,int i64 bg])) m' []→∃(R_6:RT),True∧CX Try.prog 30 (Array.mk [agg (Array.mk [slice al aa am,slice an ao ap,slice aq ar au,slice av aw ax,
 Value.bool ay]),slice (ZaJ p1a 0 p1c 1) (Int.toNat (if(30:Int) < (↑p1n:Int)then(30:Int)else(↑p1n:Int)) - 0) (p1c - 0)]) m' [] R_6∧Zaz (Shape.tup [Shape.slice,Shape.int i64]) R_6∧∀(bh:Option
 Addr) (bi bj:Nat) (bk:Int) (a6:Mem),Mem.le m' a6→R_6 (Value.tuple (Array.mk [slice bh bi bj,int i64 bk])) a6 []→∃(R_7:RT),True∧CX Try.prog 20 (Array.mk [agg (Array.mk [slice al aa am,slice an ao ap,
 slice aq ar au,slice av aw ax,Value.bool ay])]) a6 [] R_7∧Zaz (Shape.tup [Shape.slice,Shape.int i64]) R_7∧∀(bs:Option Addr)(bl bt:Nat)(bm:Int)(m':Mem),Mem.le a6 m'→R_7 (Value.tuple (Array.mk
 [slice bs bl bt,int i64 bm])) m' []→∃(f:Fx),br (!IntKind.wrap i64 (IntKind.wrap i64 (IntKind.wrap i64 (IntKind.wrap i64 (bc+be)+bg)+bk)+bm) == (0:Int)) (∀(M:Mem),Mem.le m' M→Mem.le m' M→Mem.le
 m' M→∃(m'':Mem),Mem.le m m''∧Mem.le m'' M∧R (Value.bool false) m'' []) (∃(R_8:RT),R_8=f 12 [agg (Array.mk [slice al aa am,slice an ao ap,slice aq ar au,slice av aw ax,Value.bool ay])] m'∧CX
 Try.prog 21 (Array.mk [agg (Array.mk [slice al aa am,slice an ao ap,slice aq ar au,slice av aw ax,Value.bool ay])]) m' [] R_8∧Zaz Shape.bool R_8∧∀(bn:Bool)(ab:Mem),Mem.le m' ab→R_8 (Value.bool bn) ab
 []→br (!bn) (∀(M:Mem),Mem.le m' M→Mem.le ab M→Mem.le ab M→∃(m'':Mem),Mem.le m m''∧Mem.le m'' M∧R (Value.bool false) m'' []) (br (!bd == bf) (∀(M:Mem),Mem.le m' M→Mem.le ab M→Mem.le ab M→∃
 (m'':Mem),Mem.le m m''∧Mem.le m'' M∧R (Value.bool false) m'' []) (br (!(↑bl:Int) == (↑aa:Int)) (∀(M:Mem),Mem.le m' M→Mem.le ab M→Mem.le ab M→∃(m'':Mem),Mem.le m m''∧Mem.le m'' M∧R
 (Value.bool false) m'' []) (∃(R_9:RT),R_9=f 33 [agg (Array.mk [int u8 n,int u64 ae,int u64 af,int u64 ag,int u64 ah,int i64 ai,int i64 aj,slice a ak c])] ab∧CX Try.prog 37 (Array.mk [agg (Array.mk [int u8
 n,int u64 ae,int u64 af,int u64 ag,int u64 ah,int i64 ai,int i64 aj,slice a ak c])]) ab [] R_9∧Zaz (Shape.int i64) R_9∧∀(bo:Int)(a7:Mem),Mem.le ab a7→R_9 (int i64 bo) a7 []→∀(M:Mem),Mem.le m'
 M→Mem.le ab M→Mem.le a7 M→br (!(↑aa:Int) == bo) (∃(m'':Mem),Mem.le m m''∧Mem.le m'' M∧R (Value.bool false) m'' []) (∃(I:IT),(∃(n:Nat),I [slice none 0 0,int i64 0] [] [slice none 0 0] M n)∧∀
 (a0:Option Addr) (ad a1:Nat) (az:Int) (a8:Option Addr) (a9 ba:Nat) (m':Mem) (bb:Nat),Mem.le M m'→I [slice a0 ad a1,int i64 az] [] [slice a8 a9 ba] m' bb→br (decide (az < IntKind.wrap i64
 ((↑(Int.toNat (if(30:Int) < (↑p1n:Int)then(30:Int)else(↑p1n:Int)) - 0):Int)+(1:Int)))) (∃(R_10:RT),True∧CX Try.prog 38 (Array.mk [agg (Array.mk [int u8 n,int u64 ae,int u64 af,int u64 ag,int
 u64 ah,int i64 ai,int i64 aj,slice a ak c]),slice (ZaJ p1a 0 p1c 1) (Int.toNat (if(30:Int) < (↑p1n:Int)then(30:Int)else(↑p1n:Int)) - 0) (p1c - 0),int i64 az]) m' [] R_10∧Zaz (Shape.tup
 [Shape.slice,Shape.int i64]) R_10∧∀(bu:Option Addr)(bp bv:Nat)(bq:Int)(ac:Mem),Mem.le m' ac→R_10 (Value.tuple (Array.mk [slice bu bp bv,int i64 bq])) ac []→br (!bq == (0:Int)) (∃(m'':Mem),
 Mem.le m m''∧Mem.le m'' ac∧R (Value.bool false) m'' []) (br (decide ((↑bp:Int) > (0:Int))) (∀(a2:Nat),Mem.free ac a2→(Tok.mk (slice a8 a9 ba) 1=Tok.mk (slice a0 ad a1) 1∨slice a0 ad a1=slice none 0 0
 ∨ a1 < ad+1)∧∃(xs:List Value),∃(ys:List Value),List.length xs=ad*1∧List.length ys=1*1∧rowRd (Mem.add ac a2 [int i64 az]) a0 xs∧rowRd (Mem.add ac a2 [int i64 az]) (some (Addr.mk a2 0 none)) ys∧
 (∀(u:Value),u∈ys→Value.oneCell' u=true)∧(ad+1)*8≤140737488355328∧ad+1≤9223372036854775807∧∀(a':Option Addr)(c':Nat)(m':Mem),Mem.le (Mem.add ac a2 [int i64 az]) m'→rowRd m' a'
 (List.append xs ys)→[some (Box.mk a4 [slice al aa am,slice an ao ap,slice aq ar au,slice av aw ax,Value.bool ay] 26 5 false true),some (Box.mk b [int u8 n,int u64 ae,int u64 af,int u64 ag,int u64 ah,int i64
 ai,int i64 aj,slice a ak c] 41 8 false true)]=[some (Box.mk a4 [slice al aa am,slice an ao ap,slice aq ar au,slice av aw ax,Value.bool ay] 26 5 false true),some (Box.mk b [int u8 n,int u64 ae,int u64 af,int
 u64 ag,int u64 ah,int i64 ai,int i64 aj,slice a ak c] 41 8 false true)]∧∃(n':Nat),n' < bb∧I [slice a' (ad+1) c',int i64 (IntKind.wrap i64 (az+(1:Int)))] [] [slice a' (ad+1) c'] m' n') ([some (Box.mk
 a4 [slice al aa am,slice an ao ap,slice aq ar au,slice av aw ax,Value.bool ay] 26 5 false true),some (Box.mk b [int u8 n,int u64 ae,int u64 af,int u64 ag,int u64 ah,int i64 ai,int i64 aj,slice a ak c] 41 8
 false true)]=[some (Box.mk a4 [slice al aa am,slice an ao ap,slice aq ar au,slice av aw ax,Value.bool ay] 26 5 false true),some (Box.mk b [int u8 n,int u64 ae,int u64 af,int u64 ag,int u64 ah,int i64 ai,int
 i64 aj,slice a ak c] 41 8 false true)]∧∃(n':Nat),n' < bb∧I [slice a0 ad a1,int i64 (IntKind.wrap i64 (az+(1:Int)))] [] [slice a8 a9 ba] ac n'))) (∃(R_10:RT),True∧CX Try.prog 23 (Array.mk [slice bh bi
 bj,slice a0 ad a1]) m' [] R_10∧Zaz Shape.bool R_10∧∀(b:Bool)(ac:Mem),Mem.le m' ac→R_10 (Value.bool b) ac []→∃(m'':Mem),Mem.le m m''∧Mem.le m'' ac∧R (Value.bool b) m'' [])))))))
theorem ZfU(p0a:Option Addr)(p0n p0c:Nat)(p1a:Option Addr)(p1n p1c:Nat)(m:Mem)(R:RT)(h:Zc4 p0a p0n p0c p1a p1n p1c m R):CX Try.prog 8 #[.slice p0a p0n p0c,.slice p1a p1n p1c] m [] R:=
 Zaf (E:=Zgo) Zar mix Try.func8 [.v (.slice p0a p0n p0c),.v (.slice p1a p1n p1c)] [] (by kernel_rfl) (Eq.mp (by kernel_rfl) h)
end Go.Proofs.Ytplacemlpkhmfaa

