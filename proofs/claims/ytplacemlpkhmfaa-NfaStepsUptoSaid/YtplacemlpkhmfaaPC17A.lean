/- Part of the proof: conditions and contracts of functions of this program. No condition of its own. -/
import Derived.Test.YtplacemlpkhmfaaPEnv
import Derived.Test.YtplacemlpkhmfaaMc
import Derived.Test.YtplacemlpkhmfaaMr
set_option linter.unusedVariables false
namespace Go.Proofs.Ytplacemlpkhmfaa
open Go Go.Eng Go.Proofs Go.RowKit
open Go.Value (int slice agg)
open Go.IntKind (u8 u64 i64)
set_option maxRecDepth 100000
noncomputable def ZsG:Env:={ EB with
 loops:=(fun i=>bif Nat.beq i 9 then⟨[(53,.int .i64)],[6],[(61,1)],false⟩ else⟨[],[],[],false⟩)
 joins:=(fun i=>bif Nat.beq i 1 then some [(16,.bool)]else bif Nat.beq i 3 then some [(30,.bool)]else none)
 dr:=(fun i=>bif Nat.beq i 7 then[⟨0,[33],[],none,[],[]⟩,⟨1,[33],[],none,[0],[]⟩,⟨2,[33],[],none,[0,1],[]⟩,⟨3,[33],[],none,[0,1,2],[]⟩,⟨4,[],[],none,[],[]⟩,⟨5,[],[],none,[4],[]⟩,⟨6,[],[],none,[],[]⟩,⟨7,[],[],none,[4,5,6],[5]⟩,⟨8,[],[],none,[],[]⟩,⟨9,[],[],none,[8],[]⟩,⟨10,[],[],none,[0,1,2,3,4,5,6,7,8,9],[]⟩,⟨11,[6],[6],none,[],[]⟩,⟨12,[6],[6],none,[0,1,2,3,4,5,6,7,8,9,10,11],[]⟩]else bif Nat.beq i 11 then[⟨0,[6],[],none,[],[]⟩,⟨1,[6],[],none,[0],[]⟩,⟨2,[],[],none,[],[]⟩,⟨3,[60],[60],none,[2],[2]⟩,⟨4,[60],[],some 61,[0,1,2,3],[3]⟩,⟨5,[6],[],none,[0,1,2,3,4],[]⟩,⟨6,[6],[6],none,[0,1,2,3,4,5],[]⟩]else[])
 tokOf:=(fun i=>bif Nat.beq i 61 then 61 else 0)
 frzNew:=[1]
 ptrAt:=(fun i=>bif Nat.beq i 7 then[5]else bif Nat.beq i 11 then[8]else[])
 frzAt:=(fun i=>bif Nat.beq i 1000007 then[5]else bif Nat.beq i 1000011 then[8]else[])
 thaw:=true
 lentC:=(fun i=>bif Nat.beq i 36 then some [(900,4),(901,7)]else none) }
def ZnC(aR aS aT aU aA aQ aV:Int)(aO:Option Addr)(aN aP:Nat)(m:Mem)(R:RT):Prop:=
 ∀(b:Nat)(m':Mem),Mem.le m m'→Mem.reads m' b 0 [int u8 aR,int u64 aS,int u64 aT,int u64 aU,int u64 aA,int i64 aQ,int i64 aV,slice aO aN aP]→Mem.free m b→(∀(b' o:Nat) (u:
 Value),m' b' o=some u→m b' o=some u∨b'=b)→∀(ab:Nat),∃(bk:Bool),br (aR == (0:Int)) (∃(R:RT),True∧CX Try.prog 58 (Array.mk [agg (Array.mk [int u8 aR,int u64 aS,int u64 aT,int u64
 aU,int u64 aA,int i64 aQ,int i64 aV,slice aO aN aP]),agg (Array.mk [int u8 0,int u64 0,int u64 0,int u64 0,int u64 0,int i64 0,int i64 0,slice none 0 0])]) m' [] R∧ZaF Shape.bool R∧∀
 (ag:Bool) (ac:Mem),Mem.le m' ac→R (Value.bool ag) ac []→[some (Box.mk ab [slice none 0 0,slice none 0 0,slice none 0 0,slice none 0 0,Value.bool false] 26 5 false true),some (Box.mk b [int u8 aR,int u64
 aS,int u64 aT,int u64 aU,int u64 aA,int i64 aQ,int i64 aV,slice aO aN aP] 41 8 true true)]=[some (Box.mk ab [slice none 0 0,slice none 0 0,slice none 0 0,slice none 0 0,Value.bool false]
 26 5 false true),some (Box.mk b [int u8 aR,int u64 aS,int u64 aT,int u64 aU,int u64 aA,int i64 aQ,int i64 aV,slice aO aN aP] 41 8 true true)]∧[Value.bool ag]=[Value.bool bk]) ([some
 (Box.mk ab [slice none 0 0,slice none 0 0,slice none 0 0,slice none 0 0,Value.bool false] 26 5 false true),some (Box.mk b [int u8 aR,int u64 aS,int u64 aT,int u64 aU,int u64 aA,int i64 aQ,int i64
 aV,slice aO aN aP] 41 8 true true)]=[some (Box.mk ab [slice none 0 0,slice none 0 0,slice none 0 0,slice none 0 0,Value.bool false] 26 5 false true),some (Box.mk b [int u8 aR,int u64 aS,int u64
 aT,int u64 aU,int u64 aA,int i64 aQ,int i64 aV,slice aO aN aP] 41 8 true true)]∧[Value.bool false]=[Value.bool bk])∧br bk (∃(m'':Mem),Mem.le m m''∧Mem.le m'' m'∧R (Value.tuple
 (Array.mk [agg (Array.mk [slice none 0 0,slice none 0 0,slice none 0 0,slice none 0 0,Value.bool false]),int i64 0])) m'' []) (∃(ag:Bool),(∃(R:RT),True∧CX Try.prog 59 (Array.mk [agg (Array.mk [int u8
 aR,int u64 aS,int u64 aT,int u64 aU,int u64 aA,int i64 aQ,int i64 aV,slice aO aN aP])]) m' [] R∧ZaF Shape.bool R∧∀(ah:Bool)(ac:Mem),Mem.le m' ac→R (Value.bool ah) ac []→br
 (!ah) ([some (Box.mk ab [slice none 0 0,slice none 0 0,slice none 0 0,slice none 0 0,Value.bool false] 26 5 false true),some (Box.mk b [int u8 aR,int u64 aS,int u64 aT,int u64 aU,int u64 aA,int i64
 aQ,int i64 aV,slice aO aN aP] 41 8 true true)]=[some (Box.mk ab [slice none 0 0,slice none 0 0,slice none 0 0,slice none 0 0,Value.bool false] 26 5 false true),some (Box.mk b [int u8 aR,int u64
 aS,int u64 aT,int u64 aU,int u64 aA,int i64 aQ,int i64 aV,slice aO aN aP] 41 8 true true)]∧[Value.bool true]=[Value.bool ag]) (∃(R:RT),True∧CX Try.prog 60 (Array.mk [agg (Array.mk
 [int u8 aR,int u64 aS,int u64 aT,int u64 aU,int u64 aA,int i64 aQ,int i64 aV,slice aO aN aP])]) ac [] R∧ZaF (Shape.int i64) R∧∀(n:Int)(m':Mem),Mem.le ac m'→R (int i64 n) m' []
 → br (decide (n > (120:Int))) ([some (Box.mk ab [slice none 0 0,slice none 0 0,slice none 0 0,slice none 0 0,Value.bool false] 26 5 false true),some (Box.mk b [int u8 aR,int u64 aS,int u64 aT,int u64
 aU,int u64 aA,int i64 aQ,int i64 aV,slice aO aN aP] 41 8 true true)]=[some (Box.mk ab [slice none 0 0,slice none 0 0,slice none 0 0,slice none 0 0,Value.bool false] 26 5 false true),some
 (Box.mk b [int u8 aR,int u64 aS,int u64 aT,int u64 aU,int u64 aA,int i64 aQ,int i64 aV,slice aO aN aP] 41 8 true true)]∧[Value.bool true]=[Value.bool ag]) (∃(R:RT),True∧CX
 Try.prog 37 (Array.mk [agg (Array.mk [int u8 aR,int u64 aS,int u64 aT,int u64 aU,int u64 aA,int i64 aQ,int i64 aV,slice aO aN aP])]) m' [] R∧ZaF (Shape.int i64) R∧∀(n:Int) (af:
 Mem),Mem.le m' af→R (int i64 n) af []→[some (Box.mk ab [slice none 0 0,slice none 0 0,slice none 0 0,slice none 0 0,Value.bool false] 26 5 false true),some (Box.mk b [int u8 aR,int u64 aS,int u64 aT,
 int u64 aU,int u64 aA,int i64 aQ,int i64 aV,slice aO aN aP] 41 8 true true)]=[some (Box.mk ab [slice none 0 0,slice none 0 0,slice none 0 0,slice none 0 0,Value.bool false] 26 5 false true),
 some (Box.mk b [int u8 aR,int u64 aS,int u64 aT,int u64 aU,int u64 aA,int i64 aQ,int i64 aV,slice aO aN aP] 41 8 true true)]∧[Value.bool (decide (n > (400:Int)))]=[Value.bool ag])))∧
 br ag (∃(m'':Mem),Mem.le m m''∧Mem.le m'' m'∧R (Value.tuple (Array.mk [agg (Array.mk [slice none 0 0,slice none 0 0,slice none 0 0,slice none 0 0,Value.bool false]),int i64 170])) m'' []) (∀(ah:Nat),∃
 (Y:Nat→Prop),∃(R_1:Value→Mem→List (List Value)→List Value→Prop),CXY Try.prog 61 (Array.mk [Value.pointer (some (Addr.mk ah 0 none)),agg (Array.mk [int u8 aR,int u64 aS,int u64 aT,int u64 aU,
 int u64 aA,int i64 aQ,int i64 aV,slice aO aN aP])]) m' Y [Box.mk ah [slice none 0 0,slice none 0 0] 98 2 false true] [Tok.mk (slice none 0 0) 4,Tok.mk (slice none 0 0) 7] R_1∧(∀(t:Tok),t ∈
 [Tok.mk (slice none 0 0) 4,Tok.mk (slice none 0 0) 7]→∀(b:Nat),Tok.blk t=some b→Y b)∧(∀(ad:Nat),Y ad→(∃(t:Tok),t∈[Tok.mk (slice none 0 0) 4,Tok.mk (slice none 0 0) 7]∧Tok.blk t=some ad)∨
 Mem.free m ad∧(∃(o:Nat),∃(v:Value),m' ad o=some v)∧b≠ad∧True)∧(∀(v:Value)(m':Mem) (css:List (List Value)) (tvs:List Value),R_1 v m' css tvs→Shape.fits (Shape.agg [Shape.int u64,
 Shape.int u64,Shape.int u64,Shape.int u64,Shape.int u64,Shape.int u64,Shape.int u64,Shape.int u64,Shape.int u64,Shape.int u64,Shape.int u64,Shape.int u64,Shape.int u64,Shape.int u64,Shape.bool]) v=true)∧
 ∀(n ak al am an ao ap aq ar au av aw ax ay:Int)(ad:Bool)(ac:Mem),Mem.le (Mem.off m' Y) ac→(∀(b o:Nat)(u:Value),ac b o=some u→m' b o=some u∨Y b∨Mem.free m' b)→∀(cs:List Value) (a:
 Option Addr) (c d:Nat) (bl:Option Addr) (bm bn:Nat),R_1 (agg (Array.mk [int u64 n,int u64 ak,int u64 al,int u64 am,int u64 an,int u64 ao,int u64 ap,int u64 aq,int u64 ar,int u64 au,int u64 av,int u64
 aw,int u64 ax,int u64 ay,Value.bool ad])) ac [cs] [slice a c d,slice bl bm bn]→∀(ae:Nat)(m':Mem),Mem.le ac m'→Mem.reads m' ae 0 [int u64 n,int u64 ak,int u64 al,int u64 am,int u64 an,int u64 ao,int
 u64 ap,int u64 aq,int u64 ar,int u64 au,int u64 av,int u64 aw,int u64 ax,int u64 ay,Value.bool ad]→∃(f:Fx),Eng.Zrv cs 0 fun(v:Value)=>∃(R_2:RT),R_2=f 5 [ptr ae 0] m'∧CX Try.prog 62 (Array.mk
 [ptr ae 0]) m' [] R_2∧ZaF Shape.slice R_2∧∀(az:Option Addr)(a0 a1:Nat)(af:Mem),Mem.le m' af→R_2 (slice az a0 a1) af []→∃(R_3:RT),R_3=f 7 [ptr ae 7] af∧CX Try.prog 62 (Array.mk [ptr ae 7]) af
 [] R_3∧ZaF Shape.slice R_3∧∀(a6:Option Addr)(a7 a8:Nat)(bo:Mem),Mem.le af bo→R_3 (slice a6 a7 a8) bo []→∃(a9:Value),m' ae 14=some a9∧chk (Nat.beq (List.length (Array.toList (Value.cells v))) 1
 && true) (chk (Nat.ble 3 (List.length (Zan [slice none 0 0,slice none 0 0,slice none 0 0,slice none 0 0,Value.bool false] 0 (Array.toList (Value.cells v))))) (chk (Nat.ble 4 (List.length (Zan (Zan [slice
 none 0 0,slice none 0 0,slice none 0 0,slice none 0 0,Value.bool false] 0 (Array.toList (Value.cells v))) 2 [slice az a0 a1]))) (chk (Nat.beq (List.length (Array.toList (Value.cells a9))) 1&&Nat.ble 5 (List.length
 (Zan (Zan (Zan [slice none 0 0,slice none 0 0,slice none 0 0,slice none 0 0,Value.bool false] 0 (Array.toList (Value.cells v))) 2 [slice az a0 a1]) 3 [slice a6 a7 a8]))) (∀(bj:Nat),chk (Nat.beq
 (List.length (Zan (Zan (Zan (Zan [slice none 0 0,slice none 0 0,slice none 0 0,slice none 0 0,Value.bool false] 0 (Array.toList (Value.cells v))) 2 [slice az a0 a1]) 3 [slice a6 a7 a8]) 4 (Array.toList
 (Value.cells a9)))) 5&&Zcq (Zan (Zan (Zan (Zan [slice none 0 0,slice none 0 0,slice none 0 0,slice none 0 0,Value.bool false] 0 (Array.toList (Value.cells v))) 2 [slice az a0 a1]) 3 [slice a6 a7 a8])
 4 (Array.toList (Value.cells a9)))) (∀(M:Mem),Mem.le m' M→Mem.le af M→Mem.le bo M→some (Box.mk ae [int u64 n,int u64 ak,int u64 al,int u64 am,int u64 an,int u64 ao,int u64 ap,int u64 aq,int u64 ar,int
 u64 au,int u64 av,int u64 aw,int u64 ax,int u64 ay,Value.bool ad] 102 15 true true)=some (Box.mk ae [int u64 n,int u64 ak,int u64 al,int u64 am,int u64 an,int u64 ao,int u64 ap,int u64 aq,int u64 ar,int
 u64 au,int u64 av,int u64 aw,int u64 ax,int u64 ay,Value.bool ad] 102 15 true true)∧Eng.Zrv cs 1 fun(ba:Value)=>chk (Zdm ba) (∃(I:IT),(∃(n:Nat),I [int i64 0] [Zan (Zan (Zan (Zan [slice
 none 0 0,slice none 0 0,slice none 0 0,slice none 0 0,Value.bool false] 0 (Array.toList (Value.cells v))) 2 [slice az a0 a1]) 3 [slice a6 a7 a8]) 4 (Array.toList (Value.cells a9))] [slice none 0 0] M n)∧∀(bb:
 Int) (ai:List Value) (bq:Option Addr) (bs bt:Nat) (m':Mem) (bu:Nat),True→I [int i64 bb] [ai] [slice bq bs bt] m' bu→br (decide (bb < (↑(slN ba):Int))) (chk (Zdm ba) (∃(bv:Nat),∃(o:Nat),slA ba =
 some (Addr.mk bv o none)∧Zag bb (slN ba)∧∃(v:Value),∃(bc:Value),∃(bd:Value),∃(be:Value),∃(bf:Value),∃(bg:Value),∃(bh:Value),Mem.reads m' bv (o+Int.toNat bb*7) [v,bc,bd,be,bf,
 bg,bh]∧∀(bi:Nat),chk (Value.oneCell' v&&(Value.oneCell' bc&&(Value.oneCell' bd&&(Value.oneCell' be&&(Value.oneCell' bf&&(Value.oneCell' bg&&(Value.oneCell' bh&&true))))))) (∀(a2:Mem),Mem.le m'
 a2→Mem.reads a2 bi 0 [v,bc,bd,be,bf,bg,bh]→∃(f:Fx),Eng.Zrv ai 1 fun(aa:Value)=>∃(R:RT),R=f 2 [Value.pointer (some (Addr.mk bi 0 none))] a2∧CX Try.prog 62 (Array.mk [Value.pointer (some
 (Addr.mk bi 0 none))]) a2 [] R∧ZaF Shape.slice R∧∀(a3:Option Addr)(a4 a5:Nat)(m':Mem),Mem.le a2 m'→R (slice a3 a4 a5) m' []→∀(aj:Nat),Mem.free m' aj→chk (Zdm aa&&true) ((Tok.mk (slice bq bs
 bt) 1=Tok.mk aa 1∨aa=slice none 0 0∨slC aa < slN aa+1)∧∃(xs:List Value),∃(ys:List Value),List.length xs=slN aa*1∧List.length ys=1*1∧rowRd (Mem.add m' aj [slice a3 a4 a5]) (slA aa) xs∧
 rowRd (Mem.add m' aj [slice a3 a4 a5]) (some (Addr.mk aj 0 none)) ys∧(∀(u:Value),u∈ys→Value.oneCell' u=true)∧(slN aa+1)*24≤140737488355328∧slN aa+1≤9223372036854775807∧∀(a':Option Addr)
 (c':Nat) (bp:Mem),Mem.le (Mem.add m' aj [slice a3 a4 a5]) bp→rowRd bp a' (List.append xs ys)→TokFact (Mem.add m' aj [slice a3 a4 a5]) (slA aa) a' (slN aa+1) c'→chk (Nat.ble 2 (List.length ai)) (∀(M:Mem),
 Mem.le a2 M→Mem.le m' M→Mem.le (Mem.add m' aj [slice a3 a4 a5]) M→Mem.le bp M→some (Box.mk bi [v,bc,bd,be,bf,bg,bh] 100 7 true true)=some (Box.mk bi [v,bc,bd,be,bf,bg,bh] 100 7 true true)∧[some
 (Box.mk bj [] 26 5 false true),some (Box.mk bj [] 26 5 false true),some (Box.mk ae [int u64 n,int u64 ak,int u64 al,int u64 am,int u64 an,int u64 ao,int u64 ap,int u64 aq,int u64 ar,int u64 au,int u64 av,
 int u64 aw,int u64 ax,int u64 ay,Value.bool ad] 102 15 true true),some (Box.mk ah cs 98 2 false true),some (Box.mk ab [slice none 0 0,slice none 0 0,slice none 0 0,slice none 0 0,Value.bool false] 26 5 false
 true),some (Box.mk b [int u8 aR,int u64 aS,int u64 aT,int u64 aU,int u64 aA,int i64 aQ,int i64 aV,slice aO aN aP] 41 8 true true)]=[some (Box.mk bj [] 26 5 false true),some (Box.mk bj
 [] 26 5 false true),some (Box.mk ae [int u64 n,int u64 ak,int u64 al,int u64 am,int u64 an,int u64 ao,int u64 ap,int u64 aq,int u64 ar,int u64 au,int u64 av,int u64 aw,int u64 ax,int u64 ay,Value.bool ad]
 102 15 true true),some (Box.mk ah cs 98 2 false true),some (Box.mk ab [slice none 0 0,slice none 0 0,slice none 0 0,slice none 0 0,Value.bool false] 26 5 false true),some (Box.mk b [int u8 aR,int u64 aS,int
 u64 aT,int u64 aU,int u64 aA,int i64 aQ,int i64 aV,slice aO aN aP] 41 8 true true)]∧[some (Tok.mk (slice a c d) 4),some (Tok.mk (slice bl bm bn) 7)]=[some (Tok.mk (slice a c d) 4),some
 (Tok.mk (slice bl bm bn) 7)]∧∃(n':Nat),n' < bu∧I [int i64 (IntKind.wrap i64 (bb+(1:Int)))] [Zan ai 1 [slice a' (slN aa+1) c']] [slice a' (slN aa+1) c'] M n'))))) (chk (Nat.beq (List.length ai) 5 &&
 Zcq ai) (∃(m'':Mem),Mem.le m m''∧Mem.le m'' m'∧R (Value.tuple (Array.mk [agg (Array.mk ai),int i64 0])) m'' []))))))))))
theorem Zq6(aR aS aT aU aA aQ aV:Int)(aO:Option Addr)(aN aP:Nat)(m:Mem)(R:RT)(h:ZnC aR aS aT aU aA aQ aV aO aN aP m R):CX Try.prog 14 #[.agg #[.int .u8 aR,.int .u64 aS,.int .u64 aT,.int .u64 aU,.int .u64 aA,.int .i64 aQ,.int .i64 aV,.slice aO aN aP]] m [] R:=
 Zal (E:=ZsG) Zaz mix Try.func14 [.v (.agg #[.int .u8 aR,.int .u64 aS,.int .u64 aT,.int .u64 aU,.int .u64 aA,.int .i64 aQ,.int .i64 aV,.slice aO aN aP])] [] (by kernel_rfl) (Eq.mp (by kernel_rfl) h)
noncomputable def ZlO:Env:={ EB with
 loops:=(fun i=>bif Nat.beq i 3 then⟨[(7,.int .i64),(14,.int .i64)],[],[],false⟩ else⟨[],[],[],false⟩)
 joins:=(fun i=>bif Nat.beq i 5 then some [(25,.bool)]else none) }
def Zgp(p0a:Option Addr)(p0n p0c:Nat)(p1 p2:Int)(m:Mem)(R:RT):Prop:=
 ∃(I:IT),(∃(n:Nat),I [int i64 (IntKind.wrap i64 (p1 - (1:Int))),int i64 0] [] [] m n)∧∀(n n_1:Int)(m':Mem)(n_2:Nat),Mem.le m m'→I [int i64 n,int i64 n_1] [] [] m' n_2→br (decide (n_1 < (↑p0n:
 Int))) (∃(b:Nat),∃(o:Nat),p0a=some (Addr.mk b o none)∧Zag n_1 p0n∧∃(v:Value),m' b (o+Int.toNat n_1*1)=some v∧∃(b:Bool),chk (Zbv i64 v&&decide (i64=i64)) (br (decide (RowKit.intOf
 v≤n)) ([Value.bool true]=[Value.bool b]) (chk (Zbv i64 v&&decide (i64=i64)) ([Value.bool (decide (RowKit.intOf v > p2))]=[Value.bool b])))∧br b (∃(m'':Mem),Mem.le m m''∧Mem.le m'' m'∧R (Value.bool
 false) m'' []) (chk (Shape.fits (Shape.int i64) v) (∃(n':Nat),n' < n_2∧I [v,int i64 (IntKind.wrap i64 (n_1+(1:Int)))] [] [] m' n'))) (∃(m'':Mem),Mem.le m m''∧Mem.le m'' m'∧R (Value.bool true) m'' [])
theorem Zj6(p0a:Option Addr)(p0n p0c:Nat)(p1 p2:Int)(m:Mem)(R:RT)(h:Zgp p0a p0n p0c p1 p2 m R):CX Try.prog 70 #[.slice p0a p0n p0c,.int .i64 p1,.int .i64 p2] m [] R:=
 Zal (E:=ZlO) Zaz mix Try.func70 [.v (.slice p0a p0n p0c),.v (.int .i64 p1),.v (.int .i64 p2)] [] (by kernel_rfl) (Eq.mp (by kernel_rfl) h)
noncomputable def ZnD:Env:={ EB with
 loops:=(fun i=>bif Nat.beq i 5 then⟨[(37,.int .i64)],[],[],false⟩ else⟨[],[],[],false⟩)
 joins:=(fun i=>bif Nat.beq i 2 then some [(33,.bool)]else bif Nat.beq i 7 then some [(55,.bool)]else none)
 frzNew:=[1] }
def Zhq(aJ:Option Addr)(aB aL:Nat)(aK:Option Addr)(aC aM:Nat)(aH:Option Addr)(aD aI:Nat)(aF:Option Addr)(aE aG:Nat)(aA:Bool)(m:Mem)(R:RT):Prop:=
 ∀(b:Nat)(m':Mem),Mem.le m m'→Mem.reads m' b 0 [slice aJ aB aL,slice aK aC aM,slice aH aD aI,slice aF aE aG,Value.bool aA]→∃(ac:Bool),br (decide ((↑aB:Int) >
 (400:Int))) ([some (Box.mk b [slice aJ aB aL,slice aK aC aM,slice aH aD aI,slice aF aE aG,Value.bool aA] 26 5 true true)]=[some (Box.mk b [slice aJ aB aL,slice
 aK aC aM,slice aH aD aI,slice aF aE aG,Value.bool aA] 26 5 true true)]∧[Value.bool true]=[Value.bool ac]) (br (!(↑aC:Int) == (↑aB:Int)) ([some (Box.mk b [slice aJ aB
 aL,slice aK aC aM,slice aH aD aI,slice aF aE aG,Value.bool aA] 26 5 true true)]=[some (Box.mk b [slice aJ aB aL,slice aK aC aM,slice aH aD aI,slice
 aF aE aG,Value.bool aA] 26 5 true true)]∧[Value.bool true]=[Value.bool ac]) (∃(R:RT),True∧CX Try.prog 70 (Array.mk [slice aH aD aI,int i64 0,int i64 (IntKind.wrap i64 ((↑aB:Int) -
 (1:Int)))]) m' [] R∧ZaF Shape.bool R∧∀(ad:Bool)(aa:Mem),Mem.le m' aa→R (Value.bool ad) aa []→br (!ad) ([some (Box.mk b [slice aJ aB aL,slice aK aC aM,slice aH aD aI,slice
 aF aE aG,Value.bool aA] 26 5 true true)]=[some (Box.mk b [slice aJ aB aL,slice aK aC aM,slice aH aD aI,slice aF aE aG,Value.bool aA] 26 5 true true)]∧[Value.bool
 true]=[Value.bool ac]) (∃(R:RT),True∧CX Try.prog 70 (Array.mk [slice aF aE aG,int i64 0,int i64 (IntKind.wrap i64 ((↑aB:Int) - (1:Int)))]) aa [] R∧ZaF Shape.bool R∧∀(ab:Bool) (m':
 Mem),Mem.le aa m'→R (Value.bool ab) m' []→[some (Box.mk b [slice aJ aB aL,slice aK aC aM,slice aH aD aI,slice aF aE aG,Value.bool aA] 26 5 true true)]=[some (Box.mk b
 [slice aJ aB aL,slice aK aC aM,slice aH aD aI,slice aF aE aG,Value.bool aA] 26 5 true true)]∧[Value.bool !ab]=[Value.bool ac])))∧br ac (∃(m'':Mem),Mem.le m m''∧
 Mem.le m'' m'∧R (Value.bool false) m'' []) (∃(I:IT),(∃(n:Nat),I [int i64 0] [] [] m' n)∧∀(n:Int)(aa:Mem)(ae:Nat),Mem.le m' aa→I [int i64 n] [] [] aa ae→br (decide (n < (↑aC:Int))) (∃(ad:
 Nat),∃(o:Nat),aK=some (Addr.mk ad o none)∧Zag n aC∧∃(v:Value),aa ad (o+Int.toNat n*1)=some v∧∃(ab:Bool),(∃(R:RT),True∧CX Try.prog 70 (Array.mk [v,int i64 0,int i64
 (IntKind.wrap i64 ((↑aB:Int) - (1:Int)))]) aa [] R∧ZaF Shape.bool R∧∀(af:Bool)(m':Mem),Mem.le aa m'→R (Value.bool af) m' []→br (!af) ([some (Box.mk b [slice aJ aB aL,slice aK aC
 aM,slice aH aD aI,slice aF aE aG,Value.bool aA] 26 5 true true)]=[some (Box.mk b [slice aJ aB aL,slice aK aC aM,slice aH aD aI,slice aF aE aG,
 Value.bool aA] 26 5 true true)]∧[Value.bool true]=[Value.bool ab]) (∃(ag:Nat),∃(o:Nat),aJ=some (Addr.mk ag o none)∧Zag n aB∧∃(v:Value),∃(ah:Value),∃(ai:Value),∃(aj:Value),
 Mem.reads m' ag (o+Int.toNat n*4) [v,ah,ai,aj]∧∃(ak:Bool),EqIs Try.prog 38 (agg (Array.mk [v,ah,ai,aj])) (agg (Array.mk [int u64 0,int u64 0,int u64 0,int u64 0])) ak∧[some (Box.mk b [slice aJ
 aB aL,slice aK aC aM,slice aH aD aI,slice aF aE aG,Value.bool aA] 26 5 true true)]=[some (Box.mk b [slice aJ aB aL,slice aK aC aM,slice aH aD aI,
 slice aF aE aG,Value.bool aA] 26 5 true true)]∧[Value.bool ak]=[Value.bool ab]))∧br ab (∃(m'':Mem),Mem.le m m''∧Mem.le m'' aa∧R (Value.bool false) m'' []) ([some (Box.mk b [slice aJ aB
 aL,slice aK aC aM,slice aH aD aI,slice aF aE aG,Value.bool aA] 26 5 true true)]=[some (Box.mk b [slice aJ aB aL,slice aK aC aM,slice aH aD aI,slice
 aF aE aG,Value.bool aA] 26 5 true true)]∧∃(n':Nat),n' < ae∧I [int i64 (IntKind.wrap i64 (n+(1:Int)))] [] [] aa n')) (∃(m'':Mem),Mem.le m m''∧Mem.le m'' aa∧R (Value.bool true) m'' []))
theorem ZlP(aJ:Option Addr)(aB aL:Nat)(aK:Option Addr)(aC aM:Nat)(aH:Option Addr)(aD aI:Nat)(aF:Option Addr)(aE aG:Nat)(aA:Bool)(m:Mem)(R:RT)(h:Zhq aJ aB aL aK aC aM aH aD aI aF aE aG aA m R):CX Try.prog 21 #[.agg #[.slice aJ aB aL,.slice aK aC aM,.slice aH aD aI,.slice aF aE aG,.bool aA]] m [] R:=
 Zal (E:=ZnD) Zaz mix Try.func21 [.v (.agg #[.slice aJ aB aL,.slice aK aC aM,.slice aH aD aI,.slice aF aE aG,.bool aA])] [] (by kernel_rfl) (Eq.mp (by kernel_rfl) h)
noncomputable def ZbD:Env:={ EB with
 loops:=(fun i=>bif Nat.beq i 4 then⟨[(13,.int .i64)],[],[],false⟩ else⟨[],[],[],false⟩)
 dr:=(fun i=>bif Nat.beq i 6 then[⟨0,[],[],none,[],[]⟩,⟨1,[],[],none,[],[]⟩,⟨2,[],[],none,[0,1],[]⟩,⟨3,[],[],none,[0,1,2],[]⟩,⟨4,[],[],none,[],[]⟩,⟨5,[],[],none,[],[]⟩,⟨6,[],[],none,[4,5],[]⟩,⟨7,[],[],none,[4,5,6],[]⟩,⟨8,[],[],none,[0,1,2,3,4,5,6,7],[]⟩]else[]) }
def ZaV(p0a:Option Addr)(p0n p0c:Nat)(p1a:Option Addr)(p1n p1c:Nat)(m:Mem)(R:RT):Prop:=
 br (!(↑p0n:Int) == (↑p1n:Int)) (∃(m'':Mem),Mem.le m m''∧Mem.le m'' m∧R (Value.bool false) m'' []) (∃(I:IT),(∃(n:Nat),I [int i64 0] [] [] m n)∧∀(n:Int)(m':Mem)(n_1:Nat),Mem.le m m'→I
 [int i64 n] [] [] m' n_1→br (decide (n < (↑p0n:Int))) (∃(b:Nat),∃(o:Nat),p0a=some (Addr.mk b o none)∧Zag n p0n∧∃(v:Value),∃(v_1:Value),∃(v_2:Value),∃(v_3:Value),Mem.reads m' b (o +
 Int.toNat n*4) [v,v_1,v_2,v_3]∧∃(b:Nat),∃(o:Nat),p1a=some (Addr.mk b o none)∧Zag n p1n∧∃(v_4:Value),∃(v_5:Value),∃(v_6:Value),∃(v_7:Value),Mem.reads m' b (o+Int.toNat n*4)
 [v_4,v_5,v_6,v_7]∧∃(b:Bool),EqIs Try.prog 38 (agg (Array.mk [v,v_1,v_2,v_3])) (agg (Array.mk [v_4,v_5,v_6,v_7])) b∧br (!b) (∃(m'':Mem),Mem.le m m''∧Mem.le m'' m'∧R (Value.bool false) m'' []) (∃
 (n':Nat),n' < n_1∧I [int i64 (IntKind.wrap i64 (n+(1:Int)))] [] [] m' n')) (∃(m'':Mem),Mem.le m m''∧Mem.le m'' m'∧R (Value.bool true) m'' []))
theorem ZbA(p0a:Option Addr)(p0n p0c:Nat)(p1a:Option Addr)(p1n p1c:Nat)(m:Mem)(R:RT)(h:ZaV p0a p0n p0c p1a p1n p1c m R):CX Try.prog 71 #[.slice p0a p0n p0c,.slice p1a p1n p1c] m [] R:=
 Zal (E:=ZbD) Zaz mix Try.func71 [.v (.slice p0a p0n p0c),.v (.slice p1a p1n p1c)] [] (by kernel_rfl) (Eq.mp (by kernel_rfl) h)
noncomputable def Zbt:Env:={ EB with
 loops:=(fun i=>bif Nat.beq i 4 then⟨[(17,.int .i64)],[],[],false⟩ else⟨[],[],[],false⟩) }
def ZaR(p0a:Option Addr)(p0n p0c:Nat)(p1a:Option Addr)(p1n p1c p2g:Nat)(p2fi p2ca:List Value)(m:Mem)(R:RT):Prop:=
 br (!(↑p0n:Int) == (↑p1n:Int)) (∃(m'':Mem),Mem.le m m''∧Mem.le m'' m∧R (Value.bool false) m'' []) (∃(I:IT),(∃(n:Nat),I [int i64 0] [] [] m n)∧∀(n:Int)(m':Mem)(n_1:Nat),Mem.le m m'→I
 [int i64 n] [] [] m' n_1→br (decide (n < (↑p0n:Int))) (∃(b:Nat),∃(o:Nat),p0a=some (Addr.mk b o none)∧Zag n p0n∧∃(v:Value),m' b (o+Int.toNat n*1)=some v∧∃(b:Nat),∃(o:Nat),p1a =
 some (Addr.mk b o none)∧Zag n p1n∧∃(v_1:Value),m' b (o+Int.toNat n*1)=some v_1∧∃(R_1:RT),True∧CX Try.prog p2g (Array.mk (List.append (List.append p2fi [v,v_1]) p2ca)) m' [] R_1∧ZaF
 Shape.bool R_1∧∀(b:Bool)(m'_1:Mem),Mem.le m' m'_1→R_1 (Value.bool b) m'_1 []→br (!b) (∃(m'':Mem),Mem.le m m''∧Mem.le m'' m'_1∧R (Value.bool false) m'' []) (∃(n':Nat),n' < n_1∧I [int i64
 (IntKind.wrap i64 (n+(1:Int)))] [] [] m'_1 n')) (∃(m'':Mem),Mem.le m m''∧Mem.le m'' m'∧R (Value.bool true) m'' []))
theorem Zbk(p0a:Option Addr)(p0n p0c:Nat)(p1a:Option Addr)(p1n p1c p2g:Nat)(p2fi p2ca:List Value)(m:Mem)(R:RT)(h:ZaR p0a p0n p0c p1a p1n p1c p2g p2fi p2ca m R):CX Try.prog 72 #[.slice p0a p0n p0c,.slice p1a p1n p1c,.func (.func p2g) p2fi.toArray p2ca.toArray] m [] R:=
 Zal (E:=Zbt) Zaz mix Try.func72 [.v (.slice p0a p0n p0c),.v (.slice p1a p1n p1c),.v (.func (.func p2g) p2fi.toArray p2ca.toArray)] [] (by kernel_rfl) (Eq.mp (by kernel_rfl) h)
noncomputable def ZoW:Env:={ EB with
 joins:=(fun i=>bif Nat.beq i 1 then some [(4,.bool)]else none)
 frzNew:=[2,3] }
def Zjh(aJ:Option Addr)(aB aL:Nat)(aK:Option Addr)(aC aM:Nat)(aH:Option Addr)(aD aI:Nat)(aF:Option Addr)(aE aG:Nat)(aA:Bool)(bJ:Option Addr)(bK bL:Nat)(bM:Option Addr)(bN bO:Nat)(bP:Option Addr)(bQ bR:Nat)(bS:Option Addr)(bT bU:Nat)(aW:Bool)(m:Mem)(R:RT):Prop:=
 ∀(b:Nat)(m':Mem),Mem.le m m'→Mem.reads m' b 0 [slice aJ aB aL,slice aK aC aM,slice aH aD aI,slice aF aE aG,Value.bool aA]→∀(aa:Nat)(ac:Mem),Mem.le m' ac→
 Mem.reads ac aa 0 [slice bJ bK bL,slice bM bN bO,slice bP bQ bR,slice bS bT bU,Value.bool aW]→∃(ab:Bool),(∃(R:RT),True∧CX Try.prog 71 (Array.mk [slice aJ aB
 aL,slice bJ bK bL]) ac [] R∧ZaF Shape.bool R∧∀(ae:Bool)(m':Mem),Mem.le ac m'→R (Value.bool ae) m' []→br ae (∃(R:RT),True∧CX Try.prog 72 (Array.mk [slice aK aC aM,slice bM
 bN bO,Value.func (Fn.func 23) (Array.mk []) (Array.mk [])]) m' [] R∧ZaF Shape.bool R∧∀(af:Bool)(ad:Mem),Mem.le m' ad→R (Value.bool af) ad []→br af (∃(R:RT),True∧CX Try.prog 23 (Array.mk
 [slice aH aD aI,slice bP bQ bR]) ad [] R∧ZaF Shape.bool R∧∀(ag:Bool)(m':Mem),Mem.le ad m'→R (Value.bool ag) m' []→br ag (∃(R:RT),True∧CX Try.prog 23 (Array.mk [slice aF aE
 aG,slice bS bT bU]) m' [] R∧ZaF Shape.bool R∧∀(ah:Bool)(ai:Mem),Mem.le m' ai→R (Value.bool ah) ai []→br ah ([some (Box.mk aa [slice bJ bK bL,slice bM bN bO,slice bP
 bQ bR,slice bS bT bU,Value.bool aW] 26 5 true true),some (Box.mk b [slice aJ aB aL,slice aK aC aM,slice aH aD aI,slice aF aE aG,Value.bool aA] 26 5 true
 true)]=[some (Box.mk aa [slice bJ bK bL,slice bM bN bO,slice bP bQ bR,slice bS bT bU,Value.bool aW] 26 5 true true),some (Box.mk b [slice aJ aB aL,slice aK aC
 aM,slice aH aD aI,slice aF aE aG,Value.bool aA] 26 5 true true)]∧[Value.bool (aA == aW)]=[Value.bool ab]) ([some (Box.mk aa [slice bJ bK bL,slice bM bN bO,slice
 bP bQ bR,slice bS bT bU,Value.bool aW] 26 5 true true),some (Box.mk b [slice aJ aB aL,slice aK aC aM,slice aH aD aI,slice aF aE aG,Value.bool aA] 26 5
 true true)]=[some (Box.mk aa [slice bJ bK bL,slice bM bN bO,slice bP bQ bR,slice bS bT bU,Value.bool aW] 26 5 true true),some (Box.mk b [slice aJ aB aL,slice aK
 aC aM,slice aH aD aI,slice aF aE aG,Value.bool aA] 26 5 true true)]∧[Value.bool false]=[Value.bool ab])) ([some (Box.mk aa [slice bJ bK bL,slice bM bN bO,slice bP
 bQ bR,slice bS bT bU,Value.bool aW] 26 5 true true),some (Box.mk b [slice aJ aB aL,slice aK aC aM,slice aH aD aI,slice aF aE aG,Value.bool aA] 26 5 true
 true)]=[some (Box.mk aa [slice bJ bK bL,slice bM bN bO,slice bP bQ bR,slice bS bT bU,Value.bool aW] 26 5 true true),some (Box.mk b [slice aJ aB aL,slice aK aC
 aM,slice aH aD aI,slice aF aE aG,Value.bool aA] 26 5 true true)]∧[Value.bool false]=[Value.bool ab])) ([some (Box.mk aa [slice bJ bK bL,slice bM bN bO,slice bP bQ
 bR,slice bS bT bU,Value.bool aW] 26 5 true true),some (Box.mk b [slice aJ aB aL,slice aK aC aM,slice aH aD aI,slice aF aE aG,Value.bool aA] 26 5 true true)] =
 [some (Box.mk aa [slice bJ bK bL,slice bM bN bO,slice bP bQ bR,slice bS bT bU,Value.bool aW] 26 5 true true),some (Box.mk b [slice aJ aB aL,slice aK aC aM,
 slice aH aD aI,slice aF aE aG,Value.bool aA] 26 5 true true)]∧[Value.bool false]=[Value.bool ab])) ([some (Box.mk aa [slice bJ bK bL,slice bM bN bO,slice bP bQ bR,
 slice bS bT bU,Value.bool aW] 26 5 true true),some (Box.mk b [slice aJ aB aL,slice aK aC aM,slice aH aD aI,slice aF aE aG,Value.bool aA] 26 5 true true)]=[some
 (Box.mk aa [slice bJ bK bL,slice bM bN bO,slice bP bQ bR,slice bS bT bU,Value.bool aW] 26 5 true true),some (Box.mk b [slice aJ aB aL,slice aK aC aM,slice
 aH aD aI,slice aF aE aG,Value.bool aA] 26 5 true true)]∧[Value.bool false]=[Value.bool ab]))∧∃(m'':Mem),Mem.le m m''∧Mem.le m'' ac∧R (Value.bool ab) m'' []
theorem ZnE(aJ:Option Addr)(aB aL:Nat)(aK:Option Addr)(aC aM:Nat)(aH:Option Addr)(aD aI:Nat)(aF:Option Addr)(aE aG:Nat)(aA:Bool)(bJ:Option Addr)(bK bL:Nat)(bM:Option Addr)(bN bO:Nat)(bP:Option Addr)(bQ bR:Nat)(bS:Option Addr)(bT bU:Nat)(aW:Bool)(m:Mem)(R:RT)(h:Zjh aJ aB aL aK aC aM aH aD aI aF aE aG aA bJ bK bL bM bN bO bP bQ bR bS bT bU aW m R):CX Try.prog 22 #[.agg #[.slice aJ aB aL,.slice aK aC aM,.slice aH aD aI,.slice aF aE aG,.bool aA],.agg #[.slice bJ bK bL,.slice bM bN bO,.slice bP bQ bR,.slice bS bT bU,.bool aW]] m [] R:=
 Zal (E:=ZoW) Zaz mix Try.func22 [.v (.agg #[.slice aJ aB aL,.slice aK aC aM,.slice aH aD aI,.slice aF aE aG,.bool aA]),.v (.agg #[.slice bJ bK bL,.slice bM bN bO,.slice bP bQ bR,.slice bS bT bU,.bool aW])] [] (by kernel_rfl) (Eq.mp (by kernel_rfl) h)
noncomputable def ZbE:Env:={ EB with
 tokOf:=(fun i=>bif Nat.beq i 2 then 7 else bif Nat.beq i 7 then 7 else 0)
 tokC:=(fun i=>bif Nat.beq i 5 then some (7,4)else none)
 thaw:=true }
def ZaW(p0a:Option Addr)(p0n p0c:Nat)(m:Mem)(R:RT):Prop:=
 br (Option.isNone p0a) (slice none 0 0=slice none 0 0∧R (slice none 0 0) m []) (((0:Int)=(0:Int)∧(0:Int)≤(0:Int)∧(0:Int)*(↑(32:Nat):Int)≤(281474976710656:Int)∧(0:Int) ≤
 (9223372036854775807:Int))∧∀(b:Nat),Mem.free m b→(Tok.mk (slice (some (Addr.mk b 0 none)) 0 (Int.toNat (0:Int))) 4=Tok.mk (slice (some (Addr.mk b 0 none)) 0 (Int.toNat (0:Int))) 4∨slice (some (Addr.mk
 b 0 none)) 0 (Int.toNat (0:Int))=slice none 0 0∨Int.toNat (0:Int) < 0+p0n)∧∃(xs:List Value),∃(ys:List Value),List.length xs=0*4∧List.length ys=p0n*4∧rowRd m (some (Addr.mk b 0 none)) xs∧
 rowRd m p0a ys∧(∀(u:Value),u∈ys→Value.oneCell' u=true)∧(0+p0n)*32≤140737488355328∧0+p0n≤9223372036854775807∧∀(a':Option Addr)(c':Nat)(m':Mem),Mem.le m m'→rowRd m' a' (List.append
 xs ys)→TokFact m (some (Addr.mk b 0 none)) a' (0+p0n) c'→some (Tok.mk (slice a' (0+p0n) c') 4)=some (Tok.mk (slice a' (0+p0n) c') 4)∧R (slice a' (0+p0n) c') m' [])
theorem Zbu(p0a:Option Addr)(p0n p0c:Nat)(m:Mem)(R:RT)(h:ZaW p0a p0n p0c m R):CXT Try.prog 77 #[.slice p0a p0n p0c] m 4 R:=
 ZhW (E:=ZbE) Zaz mix Try.func77 [.v (.slice p0a p0n p0c)] (by kernel_rfl) (Eq.mp (by kernel_rfl) h)
noncomputable def Zc6:Env:={ EB with
 tokOf:=(fun i=>bif Nat.beq i 2 then 7 else bif Nat.beq i 7 then 7 else 0)
 tokC:=(fun i=>bif Nat.beq i 5 then some (7,1)else none)
 thaw:=true }
def ZbP(p0a:Option Addr)(p0n p0c:Nat)(m:Mem)(R:RT):Prop:=
 br (Option.isNone p0a) (slice none 0 0=slice none 0 0∧R (slice none 0 0) m []) (((0:Int)=(0:Int)∧(0:Int)≤(0:Int)∧(0:Int)*(↑(8:Nat):Int)≤(281474976710656:Int)∧(0:Int) ≤
 (9223372036854775807:Int))∧∀(b:Nat),Mem.free m b→(Tok.mk (slice (some (Addr.mk b 0 none)) 0 (Int.toNat (0:Int))) 1=Tok.mk (slice (some (Addr.mk b 0 none)) 0 (Int.toNat (0:Int))) 1∨slice (some (Addr.mk
 b 0 none)) 0 (Int.toNat (0:Int))=slice none 0 0∨Int.toNat (0:Int) < 0+p0n)∧∃(xs:List Value),∃(ys:List Value),List.length xs=0*1∧List.length ys=p0n*1∧rowRd m (some (Addr.mk b 0 none)) xs∧
 rowRd m p0a ys∧(∀(u:Value),u∈ys→Value.oneCell' u=true)∧(0+p0n)*8≤140737488355328∧0+p0n≤9223372036854775807∧∀(a':Option Addr)(c':Nat)(m':Mem),Mem.le m m'→rowRd m' a' (List.append
 xs ys)→TokFact m (some (Addr.mk b 0 none)) a' (0+p0n) c'→some (Tok.mk (slice a' (0+p0n) c') 1)=some (Tok.mk (slice a' (0+p0n) c') 1)∧R (slice a' (0+p0n) c') m' [])
theorem ZcN(p0a:Option Addr)(p0n p0c:Nat)(m:Mem)(R:RT)(h:ZbP p0a p0n p0c m R):CXT Try.prog 44 #[.slice p0a p0n p0c] m 1 R:=
 ZhW (E:=Zc6) Zaz mix Try.func44 [.v (.slice p0a p0n p0c)] (by kernel_rfl) (Eq.mp (by kernel_rfl) h)
noncomputable def ZoX:Env:={ EB with
 loops:=(fun i=>bif Nat.beq i 3 then⟨[(21,.int .i64)],[3],[(30,1)],false⟩ else⟨[],[],[],false⟩)
 dr:=(fun i=>bif Nat.beq i 1 then[⟨0,[1],[],none,[],[]⟩,⟨1,[1],[],none,[0],[]⟩,⟨2,[],[],none,[0,1],[]⟩,⟨3,[1],[],none,[],[]⟩,⟨4,[1],[],none,[3],[]⟩,⟨5,[],[],none,[0,1,2,3,4],[2]⟩,⟨6,[1],[],none,[],[]⟩,⟨7,[1],[],none,[6],[]⟩,⟨8,[],[],none,[0,1,2,3,4,5,6,7],[5]⟩,⟨9,[1],[],none,[],[]⟩,⟨10,[1],[],none,[9],[]⟩,⟨11,[],[],none,[0,1,2,3,4,5,6,7,8,9,10],[]⟩,⟨12,[3],[3],none,[],[]⟩,⟨13,[3],[3],none,[0,1,2,3,4,5,6,7,8,9,10,11,12],[]⟩]else bif Nat.beq i 5 then[⟨0,[3],[],none,[],[]⟩,⟨1,[3],[],none,[0],[]⟩,⟨2,[],[],none,[],[]⟩,⟨3,[],[],none,[2],[]⟩,⟨4,[29],[29],none,[2,3],[3]⟩,⟨5,[29],[],some 30,[0,1,2,3,4],[4]⟩,⟨6,[3],[],none,[0,1,2,3,4,5],[]⟩,⟨7,[3],[3],none,[0,1,2,3,4,5,6],[]⟩]else[])
 tokOf:=(fun i=>bif Nat.beq i 30 then 30 else 0)
 frzNew:=[1]
 thaw:=true }
def Zji(aJ:Option Addr)(aB aL:Nat)(aK:Option Addr)(aC aM:Nat)(aH:Option Addr)(aD aI:Nat)(aF:Option Addr)(aE aG:Nat)(aA:Bool)(m:Mem)(R:RT):Prop:=
 ∀(b:Nat)(m':Mem),Mem.le m m'→Mem.reads m' b 0 [slice aJ aB aL,slice aK aC aM,slice aH aD aI,slice aF aE aG,Value.bool aA]→Mem.free m b→(∀(b' o:Nat)(u:Value),
 m' b' o=some u→m b' o=some u∨b'=b)→∀(am:Nat),∃(f:Fx),∃(R_1:RT),R_1=f 2 [slice aJ aB aL] m'∧CX Try.prog 77 (Array.mk [slice aJ aB aL]) m' [] R_1∧ZaF Shape.slice R_1∧∀(a
 : Option Addr) (n c:Nat) (ad:Mem),Mem.le m' ad→R_1 (slice a n c) ad []→∃(R_2:RT),R_2=f 5 [slice aH aD aI] ad∧CX Try.prog 44 (Array.mk [slice aH aD aI]) ad [] R_2∧ZaF Shape.slice R_2
 ∧ ∀(an:Option Addr)(ao ap:Nat)(ae:Mem),Mem.le ad ae→R_2 (slice an ao ap) ae []→∃(R_3:RT),R_3=f 8 [slice aF aE aG] ae∧CX Try.prog 44 (Array.mk [slice aF aE aG]) ae [] R_3∧ZaF
 Shape.slice R_3∧∀(aq:Option Addr)(ar au:Nat)(ak:Mem),Mem.le ae ak→R_3 (slice aq ar au) ak []→∀(ai:Nat)(M:Mem),Mem.le m' M→Mem.le ad M→Mem.le ae M→Mem.le ak M→∃(I:IT),(∃(aj:Nat),I
 [int i64 0] [[slice a n c,slice none 0 0,slice an ao ap,slice aq ar au,Value.bool aA]] [slice none 0 0] M aj)∧∀(n:Int)(cs:List Value)(a:Option Addr)(aj c:Nat)(m':Mem)(av:Nat),True→I [int i64
 n] [cs] [slice a aj c] m' av→br (decide (n < (↑aC:Int))) (∃(aw:Nat),∃(o:Nat),aK=some (Addr.mk aw o none)∧Zag n aC∧∃(v:Value),m' aw (o+Int.toNat n*1)=some v∧∃(f:Fx),Eng.Zrv
 cs 1 fun(aa:Value)=>∃(R:RT),R=f 3 [v] m'∧CX Try.prog 44 (Array.mk [v]) m' [] R∧ZaF Shape.slice R∧∀(af:Option Addr)(ag ah:Nat)(ab:Mem),Mem.le m' ab→R (slice af ag ah) ab []→∀(ac:Nat),
 Mem.free ab ac→chk (Zdm aa&&true) ((Tok.mk (slice a aj c) 1=Tok.mk aa 1∨aa=slice none 0 0∨slC aa < slN aa+1)∧∃(xs:List Value),∃(ys:List Value),List.length xs=slN aa*1∧List.length ys=1 *
 1∧rowRd (Mem.add ab ac [slice af ag ah]) (slA aa) xs∧rowRd (Mem.add ab ac [slice af ag ah]) (some (Addr.mk ac 0 none)) ys∧(∀(u:Value),u∈ys→Value.oneCell' u=true)∧(slN aa+1)*24≤140737488355328∧
 slN aa+1≤9223372036854775807∧∀(a':Option Addr)(c':Nat)(al:Mem),Mem.le (Mem.add ab ac [slice af ag ah]) al→rowRd al a' (List.append xs ys)→TokFact (Mem.add ab ac [slice af ag ah]) (slA aa) a' (slN aa
 + 1) c'→chk (Nat.ble 2 (List.length cs)) (∀(M:Mem),Mem.le m' M→Mem.le ab M→Mem.le (Mem.add ab ac [slice af ag ah]) M→Mem.le al M→[some (Box.mk ai [] 26 5 false true),some (Box.mk ai [] 26 5 false true),
 some (Box.mk am [slice none 0 0,slice none 0 0,slice none 0 0,slice none 0 0,Value.bool false] 26 5 false true),some (Box.mk b [slice aJ aB aL,slice aK aC aM,slice aH aD aI,slice aF
 aE aG,Value.bool aA] 26 5 true true)]=[some (Box.mk ai [] 26 5 false true),some (Box.mk ai [] 26 5 false true),some (Box.mk am [slice none 0 0,slice none 0 0,slice none 0 0,slice none 0 0,Value.bool
 false] 26 5 false true),some (Box.mk b [slice aJ aB aL,slice aK aC aM,slice aH aD aI,slice aF aE aG,Value.bool aA] 26 5 true true)]∧∃(n':Nat),n' < av∧I [int i64
 (IntKind.wrap i64 (n+(1:Int)))] [Zan cs 1 [slice a' (slN aa+1) c']] [slice a' (slN aa+1) c'] M n'))) (chk (Nat.beq (List.length cs) 5&&Zcq cs) (∃(m'':Mem),Mem.le m m''∧Mem.le m'' m'∧R (agg
 (Array.mk cs)) m'' []))
theorem ZnF(aJ:Option Addr)(aB aL:Nat)(aK:Option Addr)(aC aM:Nat)(aH:Option Addr)(aD aI:Nat)(aF:Option Addr)(aE aG:Nat)(aA:Bool)(m:Mem)(R:RT)(h:Zji aJ aB aL aK aC aM aH aD aI aF aE aG aA m R):CX Try.prog 26 #[.agg #[.slice aJ aB aL,.slice aK aC aM,.slice aH aD aI,.slice aF aE aG,.bool aA]] m [] R:=
 Zal (E:=ZoX) Zaz mix Try.func26 [.v (.agg #[.slice aJ aB aL,.slice aK aC aM,.slice aH aD aI,.slice aF aE aG,.bool aA])] [] (by kernel_rfl) (Eq.mp (by kernel_rfl) h)
noncomputable def ZoY:Env:={ EB with
 loops:=(fun i=>bif Nat.beq i 7 then⟨[(29,.int .i64)],[],[],false⟩ else bif Nat.beq i 10 then⟨[(36,.int .i64)],[],[],false⟩ else⟨[],[],[],false⟩)
 dr:=(fun i=>bif Nat.beq i 12 then[⟨0,[4],[],none,[],[]⟩,⟨1,[4],[],none,[0],[]⟩,⟨2,[],[],none,[],[]⟩,⟨3,[4],[],none,[],[]⟩,⟨4,[4],[],none,[3],[]⟩,⟨5,[],[],none,[],[]⟩,⟨6,[],[],none,[3,4,5],[]⟩,⟨7,[],[],none,[3,4,5,6],[]⟩,⟨8,[],[],none,[],[]⟩,⟨9,[49],[49],none,[8],[]⟩,⟨10,[49],[],some 990,[3,4,5,6,7,8,9],[9]⟩]else[])
 tokOf:=(fun i=>bif Nat.beq i 50 then 990 else 0)
 frzNew:=[1]
 mkM:=(fun i=>bif Nat.beq i 24 then true else false)
 acq:=(fun i=>bif Nat.beq i 12 then some (990,1)else none)
 thaw:=true
 stAt:=(fun i=>bif Nat.beq i 51 then some 999 else none)
 last:=(fun i=>bif Nat.beq i 12 then true else false)
 lastK:=(fun i=>bif Nat.beq i 12 then 2 else 1) }
def Zjj(aJ:Option Addr)(aB aL:Nat)(aK:Option Addr)(aC aM:Nat)(aH:Option Addr)(aD aI:Nat)(aF:Option Addr)(aE aG:Nat)(aA:Bool)(m:Mem)(R:RT):Prop:=
 ∀(b:Nat)(m':Mem),Mem.le m m'→Mem.reads m' b 0 [slice aJ aB aL,slice aK aC aM,slice aH aD aI,slice aF aE aG,Value.bool aA]→Mem.free m b→(∀(b' o:Nat)(u:Value),
 m' b' o=some u→m b' o=some u∨b'=b)→∀(ar:Nat),∃(R_1:RT),True∧CX Try.prog 21 (Array.mk [agg (Array.mk [slice aJ aB aL,slice aK aC aM,slice aH aD aI,slice aF aE
 aG,Value.bool aA])]) m' [] R_1∧ZaF Shape.bool R_1∧∀(ay:Bool)(ao:Mem),Mem.le m' ao→R_1 (Value.bool ay) ao []→br (!ay) (∃(m'':Mem),Mem.le m m''∧Mem.le m'' ao∧R (Value.tuple (Array.mk [agg
 (Array.mk [slice none 0 0,slice none 0 0,slice none 0 0,slice none 0 0,Value.bool false]),int i64 171])) m'' []) (∃(R_2:RT),True∧CX Try.prog 26 (Array.mk [agg (Array.mk [slice aJ aB aL,slice aK
 aC aM,slice aH aD aI,slice aF aE aG,Value.bool aA])]) ao [] R_2∧ZaF (Shape.agg [Shape.slice,Shape.slice,Shape.slice,Shape.slice,Shape.bool]) R_2∧∀(a:Option Addr)(n c:Nat) (a3
 : Option Addr) (a4 a5:Nat) (ag:Option Addr) (ah ai:Nat) (aj:Option Addr) (ak al:Nat) (am:Bool) (m':Mem),Mem.le ao m'→R_2 (agg (Array.mk [slice a n c,slice a3 a4 a5,slice ag ah ai,slice aj ak al,
 Value.bool am])) m' []→∀(au:Nat),((0:Int)≤(↑aC:Int)∧(↑aC:Int)≤(↑aC:Int)∧(↑aC:Int)*(↑(24:Nat):Int)≤(281474976710656:Int)∧(↑aC:Int)≤(9223372036854775807:Int))∧∀
 (ae:Nat),Mem.free m' ae→∃(I:IT),(∃(n:Nat),I [int i64 0] [] [] (Mem.add m' ae (List.flatten (List.replicate (Int.toNat (↑aC:Int)) [slice none 0 0]))) n)∧∀(ad:Int)(m':Mem)(az:Nat),True→I
 [int i64 ad] [] [] m' az→br (decide (ad < (↑aC:Int))) (∃(a0:Nat),∃(o:Nat),aK=some (Addr.mk a0 o none)∧Zag ad aC∧∃(v:Value),m' a0 (o+Int.toNat ad*1)=some v∧chk (Zdm v) (∃(av:
 IT),(∃(n:Nat),av [int i64 0] [] [] m' n)∧∀(ap:Int)(m':Mem)(a1:Nat),True→av [int i64 ap] [] [] m' a1→br (decide (ap < (↑(slN v):Int))) (chk (Zdm v) (∃(a2:Nat),∃(o:Nat),slA v=some
 (Addr.mk a2 o none)∧Zag ap (slN v)∧∃(v:Value),m' a2 (o+Int.toNat ap*1)=some v∧∃(ab:Option Addr),∃(ac:Nat),∃(aw:Nat),ZvD m' m 1 ab ac aw∧(∀(aq:Nat),Tok.blk (Tok.mk (slice ab ac aw)
 1)=some aq→b≠aq∧True)∧chk (ZaT v) (∃(aq:Nat),∃(o:Nat),some (Addr.mk ae 0 none)=some (Addr.mk aq o none)∧Zag (RowKit.intOf v) (Int.toNat (↑aC:Int))∧∃(aa:Value),Mem.cutA m' ab (ac
 * 1) aq (o+Int.toNat (RowKit.intOf v)*1)=some aa∧∀(af:Nat),Mem.free (Mem.cutA m' ab (ac*1)) af→chk (Zdm aa&&true) ((Tok.mk (slice ab ac aw) 1=Tok.mk aa 1∨aa=slice none 0 0∨slC aa < slN aa+1)
 ∧ ∃(xs:List Value),∃(ys:List Value),List.length xs=slN aa*1∧List.length ys=1*1∧rowRd (Mem.add (Mem.cutA m' ab (ac*1)) af [int i64 ad]) (slA aa) xs∧rowRd (Mem.add (Mem.cutA m' ab (ac*1)) af [int
 i64 ad]) (some (Addr.mk af 0 none)) ys∧(∀(u:Value),u∈ys→Value.oneCell' u=true)∧(slN aa+1)*8≤140737488355328∧slN aa+1≤9223372036854775807∧∀(a':Option Addr)(c':Nat)(ax:Mem),Mem.le
 (Mem.add (Mem.cutA m' ab (ac*1)) af [int i64 ad]) ax→rowRd ax a' (List.append xs ys)→TokFact (Mem.add (Mem.cutA m' ab (ac*1)) af [int i64 ad]) (slA aa) a' (slN aa+1) c'→∀(M:Mem),Mem.le (Mem.cutA m' ab
 (ac*1)) M→Mem.le (Mem.add (Mem.cutA m' ab (ac*1)) af [int i64 ad]) M→Mem.le ax M→chk (ZaT v) (∃(an:Nat),∃(o:Nat),some (Addr.mk ae 0 none)=some (Addr.mk an o none)∧Zag (RowKit.intOf v)
 (Int.toNat (↑aC:Int))∧(∃(vs:List Value),List.length vs=1∧Mem.reads M an (o+Int.toNat (RowKit.intOf v)*1) vs)∧Mem.free m an∧true=true∧af≠an∧b≠an∧∀(zs:List Value),List.length zs =
 (c' - (slN aa+1))*1→[some (Box.mk au [slice a n c,slice (some (Addr.mk ae 0 none)) (Int.toNat (↑aC:Int)) (Int.toNat (↑aC:Int)),slice aj ak al,slice ag ah ai,Value.bool am] 26 5 false true),some
 (Box.mk ar [slice none 0 0,slice none 0 0,slice none 0 0,slice none 0 0,Value.bool false] 26 5 false true),some (Box.mk b [slice aJ aB aL,slice aK aC aM,slice aH aD aI,slice aF
 aE aG,Value.bool aA] 26 5 true true)]=[some (Box.mk au [slice a n c,slice (some (Addr.mk ae 0 none)) (Int.toNat (↑aC:Int)) (Int.toNat (↑aC:Int)),slice aj ak al,slice ag ah ai,Value.bool am] 26 5
 false true),some (Box.mk ar [slice none 0 0,slice none 0 0,slice none 0 0,slice none 0 0,Value.bool false] 26 5 false true),some (Box.mk b [slice aJ aB aL,slice aK aC aM,slice aH aD
 aI,slice aF aE aG,Value.bool aA] 26 5 true true)]∧∃(n':Nat),n' < a1∧av [int i64 (IntKind.wrap i64 (ap+(1:Int)))] [] [] (Mem.addA (Mem.upd M an (o+Int.toNat (RowKit.intOf v)*1) [slice a'
 (slN aa+1) c']) a' ((slN aa+1)*1) zs) n'))))) ([some (Box.mk au [slice a n c,slice (some (Addr.mk ae 0 none)) (Int.toNat (↑aC:Int)) (Int.toNat (↑aC:Int)),slice aj ak al,slice ag ah ai,Value.bool am]
 26 5 false true),some (Box.mk ar [slice none 0 0,slice none 0 0,slice none 0 0,slice none 0 0,Value.bool false] 26 5 false true),some (Box.mk b [slice aJ aB aL,slice aK aC aM,slice aH aD
 aI,slice aF aE aG,Value.bool aA] 26 5 true true)]=[some (Box.mk au [slice a n c,slice (some (Addr.mk ae 0 none)) (Int.toNat (↑aC:Int)) (Int.toNat (↑aC:Int)),slice aj ak al,slice ag ah ai,
 Value.bool am] 26 5 false true),some (Box.mk ar [slice none 0 0,slice none 0 0,slice none 0 0,slice none 0 0,Value.bool false] 26 5 false true),some (Box.mk b [slice aJ aB aL,slice aK aC aM,
 slice aH aD aI,slice aF aE aG,Value.bool aA] 26 5 true true)]∧∃(n':Nat),n' < az∧I [int i64 (IntKind.wrap i64 (ad+(1:Int)))] [] [] m' n'))) (∃(m'':Mem),Mem.le m m''∧Mem.le m'' m'∧
 R (Value.tuple (Array.mk [agg (Array.mk [slice a n c,slice (some (Addr.mk ae 0 none)) (Int.toNat (↑aC:Int)) (Int.toNat (↑aC:Int)),slice aj ak al,slice ag ah ai,Value.bool am]),int i64 0])) m'' []))
theorem ZnG(aJ:Option Addr)(aB aL:Nat)(aK:Option Addr)(aC aM:Nat)(aH:Option Addr)(aD aI:Nat)(aF:Option Addr)(aE aG:Nat)(aA:Bool)(m:Mem)(R:RT)(h:Zjj aJ aB aL aK aC aM aH aD aI aF aE aG aA m R):CX Try.prog 16 #[.agg #[.slice aJ aB aL,.slice aK aC aM,.slice aH aD aI,.slice aF aE aG,.bool aA]] m [] R:=
 Zal (E:=ZoY) Zaz mix Try.func16 [.v (.agg #[.slice aJ aB aL,.slice aK aC aM,.slice aH aD aI,.slice aF aE aG,.bool aA])] [] (by kernel_rfl) (Eq.mp (by kernel_rfl) h)
end Go.Proofs.Ytplacemlpkhmfaa
set_option linter.unusedVariables false
namespace Go.Proofs.Ytplacemlpkhmfaa
open Go Go.Eng Go.Proofs Go.RowKit
open Go.Value (int slice agg)
open Go.IntKind (u8 u64 i64)
set_option maxRecDepth 100000
noncomputable def Ziq:Env:={ EB with
 dr:=(fun i=>bif Nat.beq i 0 then[⟨0,[100000],[],none,[],[]⟩,⟨1,[],[],none,[],[]⟩,⟨2,[],[],none,[1],[]⟩,⟨3,[100000],[],none,[0],[]⟩,⟨4,[100000],[],none,[0,1,2,3],[]⟩,⟨5,[100000],[],none,[0,1,2,3,4],[]⟩,⟨6,[],[],none,[],[]⟩,⟨7,[],[],none,[6],[]⟩,⟨8,[],[],none,[6,7],[]⟩,⟨9,[],[],none,[0,1,2,3,4,5,6,7,8],[]⟩,⟨10,[100000],[],none,[0],[]⟩,⟨11,[100000],[],none,[0,1,2,3,4,5,6,7,8,9,10],[]⟩,⟨12,[100000],[100000],none,[0,1,2,3,4,5,6,7,8,9,10,11],[]⟩]else[]) }
def Zew(p0b p0o p0T p0cap:Nat)(p0cs:List Value)(p1:Int)(m:Mem)(R:RT):Prop:=
 (64:Int)≠(0:Int)∧Zag (IntKind.wrap i64 (Int.tdiv p1 (64:Int))) 7∧Eng.Zrv p0cs (p0o+Int.toNat (IntKind.wrap i64 (Int.tdiv p1 (64:Int)))*1) fun(v:Value)=>(64:Int)≠(0:Int)∧(0:Int) ≤
 Int.tmod p1 (64:Int)∧chk (Zbv u64 v&&decide (u64=u64)) (Zag (IntKind.wrap i64 (Int.tdiv p1 (64:Int))) 7∧bif Nat.beq p0cap 1&&Nat.beq (p0o+Int.toNat (IntKind.wrap i64 (Int.tdiv p1 (64:Int)))*1)
 0 then Box.mk p0b p0cs p0T p0cap false true=Box.mk p0b p0cs p0T p0cap false true∧∃(m'':Mem),Mem.le m m''∧Mem.le m'' m∧R (Value.tuple (Array.mk [])) m'' [[int u64 (IntKind.wrap u64 (↑(BitVec.toNat
 (BitVec.ofInt 64 (RowKit.intOf v)|||BitVec.ofInt 64 (IntKind.wrap u64 ((1:Int)*(2:Int) ^ min (Int.toNat (Int.tmod p1 (64:Int))) 64)))):Int))]]else chk (Nat.ble (p0o+Int.toNat (IntKind.wrap i64 (Int.tdiv
 p1 (64:Int)))*1+1) (List.length p0cs)) (Box.mk p0b p0cs p0T p0cap false true=Box.mk p0b p0cs p0T p0cap false true∧∃(m'':Mem),Mem.le m m''∧Mem.le m'' m∧R (Value.tuple (Array.mk [])) m'' [Zan p0cs
 (p0o+Int.toNat (IntKind.wrap i64 (Int.tdiv p1 (64:Int)))*1) [int u64 (IntKind.wrap u64 (↑(BitVec.toNat (BitVec.ofInt 64 (RowKit.intOf v)|||BitVec.ofInt 64 (IntKind.wrap u64 ((1:Int)*(2:Int) ^ min
 (Int.toNat (Int.tmod p1 (64:Int))) 64)))):Int))]]))
theorem Zhr(p0b p0o p0T p0cap:Nat)(p0cs:List Value)(p1:Int)(m:Mem)(R:RT)(h:Zew p0b p0o p0T p0cap p0cs p1 m R):CX Try.prog 116 #[.pointer (some ⟨p0b,p0o,none⟩),.int .i64 p1] m [⟨p0b,p0cs,p0T,p0cap,false,true⟩] R:=
 Zal (E:=Ziq) Zaz mix Try.func116 [.loc 100000 p0o,.v (.int .i64 p1)] [⟨p0b,p0cs,p0T,p0cap,false,true⟩] (by kernel_rfl) (Eq.mp (by kernel_rfl) h)
noncomputable def Zir:Env:=EB
def Zex(p0b p0o:Nat)(p1:Int)(m:Mem)(R:RT):Prop:=
 (64:Int)≠(0:Int)∧Zag (IntKind.wrap i64 (Int.tdiv p1 (64:Int))) 7∧∃(v:Value),m p0b (p0o+Int.toNat (IntKind.wrap i64 (Int.tdiv p1 (64:Int)))*1)=some v∧(64:Int)≠(0:Int)∧chk (Zbv u64
 v&&true) ((0:Int)≤Int.tmod p1 (64:Int)∧∃(m'':Mem),Mem.le m m''∧Mem.le m'' m∧R (Value.bool (IntKind.wrap u64 (↑(BitVec.toNat (BitVec.ofInt 64 (Int.fdiv (RowKit.intOf v) ((2:Int) ^ min (Int.toNat
 (Int.tmod p1 (64:Int))) 64))&&&BitVec.ofInt 64 (1:Int))):Int) == (1:Int))) m'' [])
theorem Zhs(p0b p0o:Nat)(p1:Int)(m:Mem)(R:RT)(h:Zex p0b p0o p1 m R):CX Try.prog 115 #[.pointer (some ⟨p0b,p0o,none⟩),.int .i64 p1] m [] R:=
 Zal (E:=Zir) Zaz mix Try.func115 [.v (.pointer (some ⟨p0b,p0o,none⟩)),.v (.int .i64 p1)] [] (by kernel_rfl) (Eq.mp (by kernel_rfl) h)
noncomputable def Zj7:Env:={ EB with
 loops:=(fun i=>bif Nat.beq i 2 then⟨[(5,.int .i64)],[100000],[],false⟩ else⟨[],[],[],false⟩)
 dr:=(fun i=>bif Nat.beq i 4 then[⟨0,[100000],[],none,[],[]⟩,⟨1,[],[],none,[],[]⟩,⟨2,[100000],[],none,[0],[]⟩,⟨3,[100000],[],none,[0,1,2],[]⟩,⟨4,[100000],[],none,[0,1,2,3],[]⟩,⟨5,[],[],none,[],[]⟩,⟨6,[3],[],none,[5],[]⟩,⟨7,[3],[],none,[5,6],[]⟩,⟨8,[],[],none,[0,1,2,3,4,5,6,7],[]⟩,⟨9,[100000],[],none,[0],[]⟩,⟨10,[100000],[],none,[0,1,2,3,4,5,6,7,8,9],[]⟩,⟨11,[100000],[100000],none,[0,1,2,3,4,5,6,7,8,9,10],[]⟩]else[])
 frzNew:=[3] }
def Zfi(p0b p0o p0T p0cap:Nat)(p0cs:List Value)(bX bG bH bI aW aZ bD:Int)(m:Mem)(R:RT):Prop:=
 ∀(b:Nat)(m':Mem),Mem.le m m'→Mem.reads m' b 0 [int u64 bX,int u64 bG,int u64 bH,int u64 bI,int u64 aW,int u64 aZ,int u64 bD]→∃(I:IT),(∃(n:Nat),I [int i64 0] [p0cs] [] m' n)∧∀(n
 : Int) (cs:List Value) (m'_1:Mem) (n_1:Nat),Mem.le m' m'_1→I [int i64 n] [cs] [] m'_1 n_1→br (decide (n < (7:Int))) (Zag n 7∧Eng.Zrv cs (p0o+Int.toNat n*1) fun(v:Value)=>Zag n 7∧
 Eng.Zrv [int u64 bX,int u64 bG,int u64 bH,int u64 bI,int u64 aW,int u64 aZ,int u64 bD] (0+Int.toNat n*1) fun(v_1:Value)=>chk (Zbv u64 v&&Zbv u64 v_1) (Zag n 7∧bif Nat.beq p0cap
 1&&Nat.beq (p0o+Int.toNat n*1) 0 then[some (Box.mk b [int u64 bX,int u64 bG,int u64 bH,int u64 bI,int u64 aW,int u64 aZ,int u64 bD] 100 7 true true),some (Box.mk p0b [] p0T p0cap false true)]
 = [some (Box.mk b [int u64 bX,int u64 bG,int u64 bH,int u64 bI,int u64 aW,int u64 aZ,int u64 bD] 100 7 true true),some (Box.mk p0b [] p0T p0cap false true)]∧∃(n':Nat),n' < n_1∧I [int i64
 (IntKind.wrap i64 (n+(1:Int)))] [[int u64 (IntKind.wrap u64 (↑(BitVec.toNat (BitVec.ofInt 64 (RowKit.intOf v)|||BitVec.ofInt 64 (RowKit.intOf v_1))):Int))]] [] m'_1 n' else chk (Nat.ble (p0o+Int.toNat n*1 +
 1) (List.length cs)) ([some (Box.mk b [int u64 bX,int u64 bG,int u64 bH,int u64 bI,int u64 aW,int u64 aZ,int u64 bD] 100 7 true true),some (Box.mk p0b [] p0T p0cap false true)]=[some (Box.mk b
 [int u64 bX,int u64 bG,int u64 bH,int u64 bI,int u64 aW,int u64 aZ,int u64 bD] 100 7 true true),some (Box.mk p0b [] p0T p0cap false true)]∧∃(n':Nat),n' < n_1∧I [int i64 (IntKind.wrap i64 (n
 + (1:Int)))] [Zan cs (p0o+Int.toNat n*1) [int u64 (IntKind.wrap u64 (↑(BitVec.toNat (BitVec.ofInt 64 (RowKit.intOf v)|||BitVec.ofInt 64 (RowKit.intOf v_1))):Int))]] [] m'_1 n'))) (Box.mk p0b p0cs p0T p0cap
 false true=Box.mk p0b p0cs p0T p0cap false true∧∃(m'':Mem),Mem.le m m''∧Mem.le m'' m'_1∧R (Value.tuple (Array.mk [])) m'' [cs])
theorem Zis(p0b p0o p0T p0cap:Nat)(p0cs:List Value)(bX bG bH bI aW aZ bD:Int)(m:Mem)(R:RT)(h:Zfi p0b p0o p0T p0cap p0cs bX bG bH bI aW aZ bD m R):CX Try.prog 141 #[.pointer (some ⟨p0b,p0o,none⟩),.agg #[.int .u64 bX,.int .u64 bG,.int .u64 bH,.int .u64 bI,.int .u64 aW,.int .u64 aZ,.int .u64 bD]] m [⟨p0b,p0cs,p0T,p0cap,false,true⟩] R:=
 Zal (E:=Zj7) Zaz mix Try.func141 [.loc 100000 p0o,.v (.agg #[.int .u64 bX,.int .u64 bG,.int .u64 bH,.int .u64 bI,.int .u64 aW,.int .u64 aZ,.int .u64 bD])] [⟨p0b,p0cs,p0T,p0cap,false,true⟩] (by kernel_rfl) (Eq.mp (by kernel_rfl) h)
noncomputable def Zht:Env:={ EB with
 loops:=(fun i=>bif Nat.beq i 2 then⟨[(5,.int .i64)],[],[],false⟩ else⟨[],[],[],false⟩)
 dr:=(fun i=>bif Nat.beq i 4 then[⟨0,[],[],none,[],[]⟩,⟨1,[],[],none,[],[]⟩,⟨2,[],[],none,[0],[]⟩,⟨3,[],[],none,[0,1,2],[]⟩,⟨4,[],[],none,[0,1,2,3],[]⟩,⟨5,[],[],none,[],[]⟩,⟨6,[3],[],none,[5],[]⟩,⟨7,[3],[],none,[5,6],[]⟩,⟨8,[],[],none,[0,1,2,3,4,5,6,7],[]⟩,⟨9,[],[],none,[0],[]⟩,⟨10,[],[],none,[0,1,2,3,4,5,6,7,8,9],[]⟩]else[])
 frzNew:=[3]
 thaw:=true
 stAt:=(fun i=>bif Nat.beq i 18 then some 999 else none)
 last:=(fun i=>bif Nat.beq i 4 then true else false)
 lastK:=(fun i=>bif Nat.beq i 4 then 1 else 1) }
def ZdI(p0b p0o:Nat)(bX bG bH bI aW aZ bD:Int)(t0a:Option Addr)(t0n t0c:Nat)(m:Mem)(Y:Nat→Prop)(R:RTY):Prop:=
 ∀(b:Nat)(m':Mem),Mem.le m m'→Mem.reads m' b 0 [int u64 bX,int u64 bG,int u64 bH,int u64 bI,int u64 aW,int u64 aZ,int u64 bD]→Mem.free m b→(∀(b' o:Nat)(u:Value),m' b' o=some u→
 m b' o=some u∨b'=b)→∃(I:IT),(∃(n:Nat),I [int i64 0] [] [] m' n)∧∀(n:Int)(m':Mem)(n_1:Nat),True→I [int i64 n] [] [] m' n_1→br (decide (n < (7:Int))) (Zag n 7∧∃(v:Value),m' p0b
 (p0o+Int.toNat n*1)=some v∧Zag n 7∧Eng.Zrv [int u64 bX,int u64 bG,int u64 bH,int u64 bI,int u64 aW,int u64 aZ,int u64 bD] (0+Int.toNat n*1) fun(v_1:Value)=>chk (Zbv u64 v &&
 Zbv u64 v_1) (Zag n 7∧(∃(vs:List Value),List.length vs=1∧Mem.reads m' p0b (p0o+Int.toNat n*1) vs)∧Mem.free (Mem.off m Y) p0b∧true=true∧b≠p0b∧[some (Box.mk b [int u64 bX,int u64 bG,
 int u64 bH,int u64 bI,int u64 aW,int u64 aZ,int u64 bD] 100 7 true true)]=[some (Box.mk b [int u64 bX,int u64 bG,int u64 bH,int u64 bI,int u64 aW,int u64 aZ,int u64 bD] 100 7 true
 true)]∧[some (Tok.mk (slice t0a t0n t0c) 7)]=[some (Tok.mk (slice t0a t0n t0c) 7)]∧∃(n':Nat),n' < n_1∧I [int i64 (IntKind.wrap i64 (n+(1:Int)))] [] [] (Mem.upd m' p0b (p0o+Int.toNat n*1) [int u64
 (IntKind.wrap u64 (↑(BitVec.toNat (BitVec.ofInt 64 (RowKit.intOf v)|||BitVec.ofInt 64 (RowKit.intOf v_1))):Int))]) n')) (R (Value.tuple (Array.mk [])) m' [] [slice t0a t0n t0c])
theorem ZfM(p0b p0o:Nat)(bX bG bH bI aW aZ bD:Int)(t0a:Option Addr)(t0n t0c:Nat)(m:Mem)(Y:Nat→Prop)(R:RTY)(h:ZdI p0b p0o bX bG bH bI aW aZ bD t0a t0n t0c m Y R):CXY Try.prog 141 #[.pointer (some ⟨p0b,p0o,none⟩),.agg #[.int .u64 bX,.int .u64 bG,.int .u64 bH,.int .u64 bI,.int .u64 aW,.int .u64 aZ,.int .u64 bD]] m Y [] [⟨.slice t0a t0n t0c,7⟩] R:=
 ZaL (E:=Zht) Zaz mix Try.func141 [.v (.pointer (some ⟨p0b,p0o,none⟩)),.v (.agg #[.int .u64 bX,.int .u64 bG,.int .u64 bH,.int .u64 bI,.int .u64 aW,.int .u64 aZ,.int .u64 bD])] [] [900] [⟨.slice t0a t0n t0c,7⟩] (by decide) (by kernel_rfl) (Eq.mp (by kernel_rfl) h)
noncomputable def Zgy:Env:={ EB with
 loops:=(fun i=>bif Nat.beq i 1 then⟨[(4,.int .i64)],[],[],true⟩ else⟨[],[],[],false⟩) }
def Zdg(p0g:Nat)(p0fi p0ca:List Value)(c0b c0o:Nat)(m:Mem)(xs:List (List Value)):Prop:=
 ∀(l:Nat),∃(I:IT),(∃(n:Nat),I [int i64 0,int i64 0] [] [] m n)∧∀(y n:Int)(m':Mem)(n_1:Nat),Mem.le m m'→I [int i64 y,int i64 n] [] [] m' n_1→br (decide (n < (448:Int))) (∃(v:Value),m'
 c0b c0o=some v∧∃(R:RT),True∧CX Try.prog 115 (Array.mk [v,int i64 n]) m' [] R∧ZaF Shape.bool R∧∀(b:Bool)(m'_1:Mem),Mem.le m' m'_1→R (Value.bool b) m'_1 []→br b ((l=l∧(0:Int)≤y∧
 List.get?Internal xs (Int.toNat y)=some [int i64 n])∧(∃(n':Nat),n' < n_1∧I [int i64 (y+(1:Int)),int i64 (IntKind.wrap i64 (n+(1:Int)))] [] [] m'_1 n')∧((-1:Int)=(↑(List.length xs):Int)∨(-1:
 Int)=(-1:Int))) (∃(n':Nat),n' < n_1∧I [int i64 y,int i64 (IntKind.wrap i64 (n+(1:Int)))] [] [] m'_1 n')) (y=(↑(List.length xs):Int)∨y=(-1:Int))
theorem ZfN(p0g:Nat)(p0fi p0ca:List Value)(c0b c0o:Nat)(m:Mem)(xs:List (List Value))(h:Zdg p0g p0fi p0ca c0b c0o m xs):IX Try.prog 145 [] [.pointer (some ⟨c0b,c0o,none⟩)] m xs:=
 Zm6 (E:=Zgy) Zaz mix Try.func145 [] [.pointer (some ⟨c0b,c0o,none⟩)] xs (by kernel_rfl) (Eq.mp (by kernel_rfl) h)
noncomputable def Zit:Env:={ EB with
 frzNew:=[1] }
def Zey(p0b p0o:Nat)(m:Mem)(R:RT):Prop:=
 ∀(b:Nat)(m':Mem),Mem.le m m'→Mem.reads m' b 0 [Value.pointer (some (Addr.mk p0b p0o none))]→∃(m'':Mem),Mem.le m m''∧Mem.le m'' m'∧R (Value.func (Fn.func 145) (Array.mk []) (Array.mk [Value.pointer
 (some (Addr.mk b 0 none))])) m'' []
theorem Zhu(p0b p0o:Nat)(m:Mem)(R:RT)(h:Zey p0b p0o m R):CX Try.prog 111 #[.pointer (some ⟨p0b,p0o,none⟩)] m [] R:=
 Zal (E:=Zit) Zaz mix Try.func111 [.v (.pointer (some ⟨p0b,p0o,none⟩))] [] (by kernel_rfl) (Eq.mp (by kernel_rfl) h)
noncomputable def Zca:Env:={ EB with
 loops:=(fun i=>bif Nat.beq i 3 then⟨[(7,.int .i64)],[2],[(11,1)],false⟩ else⟨[],[],[],false⟩)
 tokOf:=(fun i=>bif Nat.beq i 4 then 11 else bif Nat.beq i 11 then 11 else 0) }
def Zbl(p0a:Option Addr)(p0n p0c p1g:Nat)(p1fi p1ca:List Value)(m:Mem)(R:RT):Prop:=
 ∀(b:Nat),∃(xs:List (List Value)),IX Try.prog p1g p1fi p1ca m xs∧(∀(x:List Value),x∈xs→Shape.fitsL [Shape.int i64] x=true)∧∃(I:IT),I [] [[slice p0a p0n p0c]] [slice none 0 0] m 0∧(∀(n:Int)
 (cs:List Value) (a:Option Addr) (n_1 c:Nat) (m':Mem) (n_2:Nat),Mem.le m m'→List.get?Internal xs n_2=some [int i64 n]→I [] [cs] [slice a n_1 c] m' n_2→Eng.Zrv cs 0 fun(v:Value)=>∀(b_1:Nat),
 Mem.free m' b_1→chk (Zdm v&&true) ((Tok.mk (slice a n_1 c) 1=Tok.mk v 1∨v=slice none 0 0∨slC v < slN v+1)∧∃(xs:List Value),∃(ys:List Value),List.length xs=slN v*1∧List.length ys=1*1∧
 rowRd (Mem.add m' b_1 [int i64 n]) (slA v) xs∧rowRd (Mem.add m' b_1 [int i64 n]) (some (Addr.mk b_1 0 none)) ys∧(∀(u:Value),u∈ys→Value.oneCell' u=true)∧(slN v+1)*8≤140737488355328∧slN v+1 ≤
 9223372036854775807∧∀(a':Option Addr)(c':Nat)(m'_1:Mem),Mem.le (Mem.add m' b_1 [int i64 n]) m'_1→rowRd m'_1 a' (List.append xs ys)→[some (Box.mk b [] 24 1 false true)]=[some (Box.mk b [] 24 1 false
 true)]∧I [] [[slice a' (slN v+1) c']] [slice a' (slN v+1) c'] m'_1 (n_2+1)))∧∀(cs:List Value)(a:Option Addr)(n c:Nat)(m':Mem),Mem.le m m'→I [] [cs] [slice a n c] m' (List.length xs)→Eng.Zrv
 cs 0 fun(v:Value)=>some (Tok.mk (slice a n c) 1)=some (Tok.mk v 1)∧R v m' []
theorem ZbY(p0a:Option Addr)(p0n p0c p1g:Nat)(p1fi p1ca:List Value)(m:Mem)(R:RT)(h:Zbl p0a p0n p0c p1g p1fi p1ca m R):CXT Try.prog 144 #[.slice p0a p0n p0c,.func (.func p1g) p1fi.toArray p1ca.toArray] m 1 R:=
 ZhW (E:=Zca) Zaz mix Try.func144 [.v (.slice p0a p0n p0c),.v (.func (.func p1g) p1fi.toArray p1ca.toArray)] (by kernel_rfl) (Eq.mp (by kernel_rfl) h)
noncomputable def ZdN:Env:=EB
def Zb3(p0g:Nat)(p0fi p0ca:List Value)(m:Mem)(R:RT):Prop:=
 ∃(R_1:RT),True∧CX Try.prog 144 (Array.mk [slice none 0 0,Value.func (Fn.func p0g) (Array.mk p0fi) (Array.mk p0ca)]) m [] R_1∧ZaF Shape.slice R_1∧∀(a:Option Addr)(n c:Nat)(m':Mem),Mem.le m m'→R_1
 (slice a n c) m' []→∃(m'':Mem),Mem.le m m''∧Mem.le m'' m'∧R (slice a n c) m'' []
theorem Zdy(p0g:Nat)(p0fi p0ca:List Value)(m:Mem)(R:RT)(h:Zb3 p0g p0fi p0ca m R):CX Try.prog 110 #[.func (.func p0g) p0fi.toArray p0ca.toArray] m [] R:=
 Zal (E:=ZdN) Zaz mix Try.func110 [.v (.func (.func p0g) p0fi.toArray p0ca.toArray)] [] (by kernel_rfl) (Eq.mp (by kernel_rfl) h)
noncomputable def Zhv:Env:=EB
def ZdJ(p0b p0o:Nat)(m:Mem)(R:RT):Prop:=
 ∃(R_1:RT),True∧CX Try.prog 111 (Array.mk [Value.pointer (some (Addr.mk p0b p0o none))]) m [] R_1∧ZaF Shape.fn R_1∧∀(g:Nat)(fi ca:List Value)(m':Mem),Mem.le m m'→R_1 (Value.func (Fn.func g)
 (Array.mk fi) (Array.mk ca)) m' []→∃(R_2:RT),True∧CX Try.prog 110 (Array.mk [Value.func (Fn.func g) (Array.mk fi) (Array.mk ca)]) m' [] R_2∧ZaF Shape.slice R_2∧∀(a:Option Addr)(n c:Nat)(m'_1:Mem),
 Mem.le m' m'_1→R_2 (slice a n c) m'_1 []→∃(m'':Mem),Mem.le m m''∧Mem.le m'' m'_1∧R (slice a n c) m'' []
theorem Zgz(p0b p0o:Nat)(m:Mem)(R:RT)(h:ZdJ p0b p0o m R):CX Try.prog 62 #[.pointer (some ⟨p0b,p0o,none⟩)] m [] R:=
 Zal (E:=Zhv) Zaz mix Try.func62 [.v (.pointer (some ⟨p0b,p0o,none⟩))] [] (by kernel_rfl) (Eq.mp (by kernel_rfl) h)
noncomputable def Zq7:Env:={ EB with
 loops:=(fun i=>bif Nat.beq i 3 then⟨[(8,.int .i64)],[3],[],false⟩ else⟨[],[],[],false⟩) }
def Zk8(p0a:Option Addr)(p0n p0c:Nat)(m:Mem)(R:RT):Prop:=
 ∀(b b_1:Nat),∃(I:IT),(∃(n:Nat),I [int i64 0] [[int u64 0,int u64 0,int u64 0,int u64 0,int u64 0,int u64 0,int u64 0]] [] m n)∧∀(n:Int)(cs:List Value)(m':Mem)(n_1:Nat),Mem.le m m'→I
 [int i64 n] [cs] [] m' n_1→br (decide (n < (↑p0n:Int))) (∃(b_2:Nat),∃(o:Nat),p0a=some (Addr.mk b_2 o none)∧Zag n p0n∧∃(v:Value),m' b_2 (o+Int.toNat n*1)=some v∧∃(R:RT),True∧CX
 Try.prog 116 (Array.mk [Value.pointer (some (Addr.mk b_1 0 none)),v]) m' [Box.mk b_1 cs 100 7 false true] R∧ZaF (Shape.tup []) R∧∀(m'_1:Mem),Mem.le m' m'_1→∀(cs:List Value),R (Value.tuple (Array.mk []))
 m'_1 [cs]→[some (Box.mk b_1 [] 100 7 false true),some (Box.mk b [int u64 0,int u64 0,int u64 0,int u64 0,int u64 0,int u64 0,int u64 0] 100 7 false true)]=[some (Box.mk b_1 [] 100 7 false true),some (Box.mk
 b [int u64 0,int u64 0,int u64 0,int u64 0,int u64 0,int u64 0,int u64 0] 100 7 false true)]∧∃(n':Nat),n' < n_1∧I [int i64 (IntKind.wrap i64 (n+(1:Int)))] [cs] [] m'_1 n') (chk (Nat.beq (List.length
 cs) 7&&Zcq cs) (∃(m'':Mem),Mem.le m m''∧Mem.le m'' m'∧R (agg (Array.mk cs)) m'' []))
theorem ZoZ(p0a:Option Addr)(p0n p0c:Nat)(m:Mem)(R:RT)(h:Zk8 p0a p0n p0c m R):CX Try.prog 112 #[.slice p0a p0n p0c] m [] R:=
 Zal (E:=Zq7) Zaz mix Try.func112 [.v (.slice p0a p0n p0c)] [] (by kernel_rfl) (Eq.mp (by kernel_rfl) h)
end Go.Proofs.Ytplacemlpkhmfaa
set_option linter.unusedVariables false
set_option linter.unusedSimpArgs false
namespace Go.Proofs.Ytplacemlpkhmfaa
open Go Go.Eng Go.Rx Go.Proofs Go.RowKit
set_option maxRecDepth 100000
theorem Zvp(i:Nat):Int.tdiv (i:Int) 64=((i / 64:Nat):Int):=rfl
theorem ZtV(i:Nat):Int.tmod (i:Int) 64=((i % 64:Nat):Int):=rfl
theorem ZrU(f i:Nat)(h:i < 448)(b o:Nat)(m:Mem)(hb:m.reads b o (bwL f)):CX Try.prog 115 #[.pointer (some ⟨b,o,none⟩),.int .i64 i] m [] (Ret (.bool (f.testBit i))):=by
 apply Zhs
 unfold Zex
 have hq:IntKind.i64.wrap (Int.tdiv (i:Int) 64)=((i / 64:Nat):Int):=by rw[Zvp];exact Zau (by omega) (by omega)
 simp only[hq,Int.toNat_natCast,Nat.mul_one]
 have ic:(wdN f (i / 64)).testBit (i % 64)=f.testBit i:=by
  rw[ZpB,show 64*(i / 64)+i % 64=i by omega];simp;omega
 refine⟨by omega,⟨by omega,by omega⟩,_,hb (i / 64) _ (ZkX (by omega)),by omega,Zaa rfl ⟨by rw[ZtV];omega,Zad (Mem.le_refl _) ?_⟩⟩
 rw[ZtV,Int.toNat_natCast,Nat.min_eq_left (by omega)]
 show Value.bool (IntKind.u64.wrap _ == 1)=_
 simp only[intOf]
 rw[ZpC _ _ (Zna _ _),ic]
theorem ZsH{i:Nat}:IntKind.u64.wrap (1*2 ^ min (Int.toNat (Int.tmod (i:Int) 64)) 64)=((2 ^ (i % 64):Nat):Int):=by
 rw[ZtV,Int.toNat_natCast,Nat.min_eq_left (by omega),Int.one_mul]
 have:=Zs1 (2 ^ (i % 64)) (by
  have:2 ^ (i % 64) < 2 ^ 64:=Nat.pow_lt_pow_right (by omega) (by omega)
  exact this)
 rw[←this];push_cast;rfl
theorem Zk9(f i:Nat)(h:i < 448)(b T cap:Nat)(A B:List Value)(m:Mem)(fS:1 < cap):CX Try.prog 116 #[.pointer (some ⟨b,A.length,none⟩),.int .i64 i] m [⟨b,A++bwL f++B,T,cap,false,true⟩]
  (fun v _ css=>v=.tuple #[]∧css=[A++bwL (f|||2 ^ i)++B]):=by
 apply Zhr
 unfold Zew
 have hq:IntKind.i64.wrap (Int.tdiv (i:Int) 64)=((i / 64:Nat):Int):=by rw[Zvp];exact Zau (by omega) (by omega)
 simp only[hq,ZsH,Int.toNat_natCast,Nat.mul_one]
 have hc:Nat.beq cap 1=false:=Zap (by omega)
 simp only[hc,Bool.false_and,cond_false]
 have bV:2 ^ (i % 64) < 18446744073709551616:=by
  have:2 ^ (i % 64) < 2 ^ 64:=Nat.pow_lt_pow_right (by omega) (by omega)
  exact this
 refine⟨by omega,⟨by omega,by omega⟩,Zat (Znd (ZkX (by omega))) ⟨by omega,by rw[ZtV];omega,Zaa rfl ⟨⟨by omega,by omega⟩,Zaa (by rw[Nat.ble_eq];simp[Znc];omega) ⟨by trivial,m,Mem.le_refl _,Mem.le_refl _,by trivial,?_⟩⟩⟩⟩
 simp only[intOf]
 rw[Zl7 _ _ (Zna _ _) bV,ZhY (by rw[Znc];omega),ZuU (by omega) (by omega),show 64*(i / 64)+i % 64=i by omega]
theorem ZnH(f g:Nat)(b T cap:Nat)(A B:List Value)(m:Mem)(fS:1 < cap):CX Try.prog 141 #[.pointer (some ⟨b,A.length,none⟩),bwV g] m [⟨b,A++bwL f++B,T,cap,false,true⟩]
  (fun v _ css=>v=.tuple #[]∧css=[A++bwL (f|||g)++B]):=by
 apply Zis
 unfold Zfi
 intro b1 m1 bE _
 have hc:Nat.beq cap 1=false:=Zap (by omega)
 refine⟨fun xs css _ m' q=>∃k:Nat,k≤7∧xs=[.int .i64 k]∧css=[A++orB f g k++B]∧q=7 - k,⟨7,0,by omega,rfl,rfl,rfl⟩,?_⟩
 rintro n cs m2 q bZ ⟨k,hk,hn,cG,hq⟩
 obtain rfl:n=k:=by simpa using hn
 obtain rfl:cs=A++orB f g k++B:=by simpa using cG
 refine Zab (fun bV=>?_) (fun cM=>?_)
 ·have bF:k < 7:=by have:=of_decide_eq_true bV;omega
  have h1:=ZrP (f:=f) (g:=g) (k:=k) bF
  rw[if_neg (by omega)]at h1
  have h2:=ZkX (f:=g) bF
  simp only[Int.toNat_natCast,Nat.zero_add,Nat.mul_one,hc,Bool.false_and,cond_false]
  refine⟨⟨by omega,by omega⟩,Zat (Znd h1) ⟨⟨by omega,by omega⟩,Zat h2 (Zaa rfl ⟨⟨by omega,by omega⟩,Zaa (by rw[Nat.ble_eq];simp[Znb];omega) ⟨by trivial,7 - (k+1),by omega,k+1,by omega,?_,?_,rfl⟩⟩)⟩⟩
  ·rw[Zau (by omega) (by omega)];rfl
  ·simp only[intOf]
   rw[Zl7 _ _ (Zna _ _) (Zna _ _),ZhY (by rw[Znb];omega),ZpI bF]
 ·have:k=7:=by have:=of_decide_eq_false cM;omega
  subst this
  exact⟨rfl,m,Mem.le_refl _,Mem.le_trans bE bZ,rfl,rfl⟩
theorem ZpQ(f:Nat)(b o c:Nat)(m:Mem)(hb:m.reads b o (bwL f))(hc:m.reads c 0 [.pointer (some ⟨b,o,none⟩)]):IX Try.prog 145 [] [.pointer (some ⟨c,0,none⟩)] m ((Zcf f).map fun i=>[.int .i64 (i:Nat)]):=by
 apply ZfN 0 [] [] c 0
 unfold Zdg
 intro l
 refine⟨fun xs _ _ m' q=>∃k:Nat,k≤448∧xs=[.int .i64 (((List.range k).filter fun i=>f.testBit i).length:Nat),.int .i64 k]∧m.le m'∧q=448 - k,⟨448,0,by omega,rfl,Mem.le_refl _,rfl⟩,?_⟩
 rintro y n m1 q bE ⟨k,hk,ja,_,hq⟩
 simp only[List.cons.injEq,Value.int.injEq,true_and,and_true]at ja
 obtain⟨rfl,rfl⟩:=ja
 have eL:((List.range (k+1)).filter fun i=>f.testBit i).length=((List.range k).filter fun i=>f.testBit i).length+(if f.testBit k then 1 else 0):=by
  rw[List.range_succ,List.filter_append,List.length_append];simp[List.filter_cons];split <;> simp
 refine Zab (fun bV=>?_) (fun cM=>?_)
 ·have bF:k < 448:=by have:=of_decide_eq_true bV;omega
  refine⟨_,bE _ _ _ (hc 0 _ rfl),Zah (ZrU f k (by omega) b o m1 (hb.mono bE)) fun m2 bZ=>Zab (fun h=>?_) (fun h=>?_)⟩
  ·refine⟨⟨rfl,by omega,?_⟩,⟨448 - (k+1),by omega,k+1,by omega,?_,Mem.le_trans bE bZ,rfl⟩,.inr rfl⟩
   ·rw[Int.toNat_natCast]
    show((Zcf f).map fun i=>[Value.int .i64 (i:Nat)])[((List.range k).filter fun i=>f.testBit i).length]?=_
    rw[List.getElem?_map,Zsv f k bF h];rfl
   ·rw[eL,if_pos h,Zau (by omega) (by omega)];rfl
  ·refine⟨448 - (k+1),by omega,k+1,by omega,?_,Mem.le_trans bE bZ,rfl⟩
   rw[eL,if_neg (by simp[h]),Zau (by omega) (by omega)];rfl
 ·have:k=448:=by have:=of_decide_eq_false cM;omega
  subst this
  left
  simp[Zcf]
theorem ZrV(b o:Nat)(m:Mem):CX Try.prog 111 #[.pointer (some ⟨b,o,none⟩)] m [] (fun v m' _=>∃c,v=.func (.func 145) #[] #[.pointer (some ⟨c,0,none⟩)]∧m'.reads c 0 [.pointer (some ⟨b,o,none⟩)]):=by
 apply Zhu
 unfold Zey
 intro c m1 bE hc
 exact⟨m1,bE,Mem.le_refl _,c,rfl,hc⟩
def ZbW(l:List Nat):List Value:=l.map fun i=>.int .i64 (i:Nat)
theorem Zhw(l:List Nat):(ZbW l).length=l.length:=by simp[ZbW]
def SlN(l:List Nat)(v:Value)(m':Mem):Prop:=∃a c,v=.slice a l.length c∧rowRd m' a (ZbW l)∧(l=[]→a=none)
theorem Zo0(l:List Nat)(g:Nat)(ca:List Value)(m:Mem)(hl:l.length≤1000)(rC:IX Try.prog g [] ca m (l.map fun i=>[.int .i64 (i:Nat)])):CXT Try.prog 144 #[.slice none 0 0,.func (.func g) #[] ca.toArray] m 1 (fun v m' _=>SlN l v m'):=by
 apply ZbY none 0 0 g [] ca
 unfold Zbl
 intro b
 refine⟨l.map fun i=>[.int .i64 (i:Nat)],rC,fun x hx=>?_,fun xs css tvs m' q=>∃(a:Option Addr)(c:Nat),q≤l.length∧css=[[.slice a q c]]∧tvs=[.slice a q c]∧m.le m'∧rowRd m' a (ZbW (l.take q))∧(q=0→a=none),⟨none,0,Nat.zero_le _,rfl,rfl,Mem.le_refl _,.inl rfl,fun _=>rfl⟩,?_,?_⟩
 ·obtain⟨i,_,rfl⟩:=List.mem_map.1 hx
  rfl
 ·rintro n cs a n1 c m1 q bE hq ⟨a',c',rD,cG,dA,_,cN,fN⟩
  obtain rfl:cs=[.slice a' q c']:=by simpa using cG
  obtain⟨rfl,rfl,rfl⟩:a=a'∧n1=q∧c=c':=by simpa using dA
  have hq':l[n1]?.map (fun i=>[Value.int .i64 (i:Nat)])=some [.int .i64 n]:=by rw[←List.getElem?_map];exact hq
  cases pS:l[n1]? with
  | none=>rw[pS]at hq';cases hq'
  | some i=>
   rw[pS]at hq'
   obtain rfl:(i:Int)=n:=by simpa using hq'
   have bV:=(List.getElem?_eq_some_iff.1 pS).1
   refine Zat (v:=.slice a n1 c) rfl fun b1 eI=>Zaa rfl ⟨.inl rfl,ZbW (l.take n1),[.int .i64 (i:Nat)],?_,rfl,cN.mono (Mem.le_add eI _),.inr ⟨b1,0,rfl,fun j v hv=>by rw[Mem.add_same];simpa using hv⟩,by simp[Value.oneCell'],?_,?_,fun a2 c2 m2 bZ gw=>⟨rfl,a2,c2,bV,?_,?_,Mem.le_trans bE (Mem.le_trans (Mem.le_add eI _) bZ),?_,fun h=>by omega⟩⟩
   ·simp only[Zhw,List.length_take,slN];omega
   ·show(n1+1)*8≤_;omega
   ·show n1+1≤_;omega
   ·rfl
   ·rfl
   ·have e:ZbW (l.take (n1+1))=ZbW (l.take n1)++[.int .i64 (i:Nat)]:=by
     rw[List.take_add_one,pS];simp[ZbW]
    rw[e];exact gw
 ·rintro cs a n1 c m1 bE ⟨a',c',rD,cG,dA,_,cN,fN⟩
  obtain rfl:cs=[.slice a' (l.map fun i=>[Value.int .i64 (i:Nat)]).length c']:=by simpa using cG
  obtain⟨rfl,rfl,rfl⟩:a=a'∧n1=(l.map fun i=>[Value.int .i64 (i:Nat)]).length∧c=c':=by simpa using dA
  refine Zat (v:=.slice a (l.map fun i=>[Value.int .i64 (i:Nat)]).length c) rfl ⟨rfl,a,c,by simp,by simpa using cN,fun h=>fN (by simp[h])⟩
def NewS(m:Mem)(v:Value):Prop:=∀b o,slA v=some ⟨b,o,none⟩→m.free b
theorem Zme{m m':Mem}{esz:Nat}{v:Value}(h:Ztz m m' esz v):NewS m v:=fun b' o' e'=>by
 rcases h with e|⟨b,o,n,c2,e,io,hf,hq⟩
 ·rw[e]at e';simp[slA]at e'
 ·rw[e]at e';simp[slA]at e';exact e'.1 ▸ hf
theorem NewS.less{m m0:Mem}{v:Value}(h:NewS m v)(k:m0.le m):NewS m0 v:=fun b o e x=>by
 cases he:m0 b x with
 | none=>rfl
 | some u=>have:=k _ _ _ he;rw[h b o e x]at this;cases this
theorem SlN.mono{l:List Nat}{v:Value}{m m':Mem}(h:SlN l v m)(k:m.le m'):SlN l v m':=by
 obtain⟨a,c,e,h1,h2⟩:=h
 exact⟨a,c,e,h1.mono k,h2⟩
theorem ZnI(l:List Nat)(g:Nat)(ca:List Value)(m:Mem)(hl:l.length≤1000)(rC:IX Try.prog g [] ca m (l.map fun i=>[.int .i64 (i:Nat)])):CX Try.prog 110 #[.func (.func g) #[] ca.toArray] m [] (fun v m' _=>SlN l v m'∧NewS m v):=by
 apply Zdy g [] ca
 unfold Zb3
 refine Zas ((Zo0 l g ca m hl rC).room.mono (R':=fun v m' _=>SlN l v m'∧NewS m v) fun v m' css cP ⟨m1,h0,h1,hS,hr⟩=>⟨hS.mono h1,Zme hr⟩) (fun v m' _ h=>by obtain⟨⟨a,c,rfl,_⟩,_⟩:=h;rfl) fun a n c m1 bE h=>⟨m1,bE,Mem.le_refl _,h⟩
theorem ZnJ(f:Nat)(b o:Nat)(m:Mem)(hb:m.reads b o (bwL f)):CX Try.prog 62 #[.pointer (some ⟨b,o,none⟩)] m [] (fun v m' _=>SlN (Zcf f) v m'∧NewS m v):=by
 apply Zgz
 unfold ZdJ
 refine Zas (ZrV b o m) (fun v m' _ h=>by obtain⟨c,rfl,_⟩:=h;rfl) fun g fi ca m1 bE h=>?_
 obtain⟨c,hv,hc⟩:=h
 simp only[Value.func.injEq,Fn.func.injEq,Array.mk.injEq]at hv
 obtain⟨rfl,rfl,rfl⟩:=hv
 exact Zas (ZnI (Zcf f) _ _ m1 (Nat.le_trans (Zne f) (by omega)) (ZpQ f b o c m1 (hb.mono bE) hc)) (fun v m' _ h=>by obtain⟨⟨a,c,rfl,_⟩,_⟩:=h;rfl) fun a n c m2 bZ h=>⟨m2,Mem.le_trans bE bZ,Mem.le_refl _,h.1,h.2.less bE⟩
theorem ZsI(f:Nat)(b o:Nat)(m:Mem)(hb:m.reads b o (bwL f)):CX Try.prog 62 #[.pointer (some ⟨b,o,none⟩)] m [] (fun v m' _=>SlN (Zcf f) v m'):=(ZnJ f b o m hb).mono fun _ _ _ _ h=>h.1
end Go.Proofs.Ytplacemlpkhmfaa
