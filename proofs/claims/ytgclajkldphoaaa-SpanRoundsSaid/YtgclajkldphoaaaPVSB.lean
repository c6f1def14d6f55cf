/- Part of the proof: conditions and contracts of functions of this program. No condition of its own. -/
import Derived.Test.YtgclajkldphoaaaPEnv
import Derived.Test.YtgclajkldphoaaaMc
set_option linter.unusedVariables false
namespace Go.Proofs.Ytgclajkldphoaaa
open Go Go.Eng Go.Proofs Go.RowKit
open Go.Value (int slice agg bool string tuple func)
open Go.IntKind (u8 u64 i64)
set_option maxRecDepth 100000
noncomputable def ZfT:Env:={ EB with
 loops:=(λi=>bif Nat.beq i 31 then⟨[(224,.int .i64)],[],[],false⟩ else⟨[],[],[],false⟩)
 joins:=(λi=>bif Nat.beq i 6 then some [(45,.bool)]else bif Nat.beq i 9 then some [(59,.bool)]else bif Nat.beq i 13 then some [(82,.bool)]else bif Nat.beq i 17 then some [(8,.bool)]else bif Nat.beq i 18 then some [(132,.bool)]else bif Nat.beq i 25 then some [(200,.bool)]else bif Nat.beq i 28 then some [(221,.bool)]else none)
 dr:=(λi=>bif Nat.beq i 21 then[⟨0,[],[],none,[],[]⟩,⟨1,[],[],none,[0],[]⟩,⟨2,[],[],none,[0,1],[]⟩,⟨3,[],[],none,[0,1,2],[]⟩,⟨4,[],[],none,[0,1,2,3],[]⟩,⟨5,[],[],none,[0,1,2,3,4],[]⟩,⟨6,[],[],none,[0,1,2,3,4,5],[]⟩,⟨7,[],[],none,[0,1,2,3],[]⟩,⟨8,[],[],none,[0,1,2,3,4,5,6,7],[]⟩,⟨9,[],[],none,[0,1,2,3,4,5,6,7,8],[]⟩,⟨10,[],[],none,[0,1,2,3,4,5,6,7,8,9],[]⟩]else bif Nat.beq i 22 then[⟨0,[],[],none,[],[]⟩,⟨1,[],[],none,[0],[]⟩,⟨2,[],[],none,[0,1],[]⟩,⟨3,[],[],none,[0,1,2],[]⟩,⟨4,[],[],none,[],[]⟩,⟨5,[],[],none,[4],[]⟩,⟨6,[],[],none,[0,1,2,3,4,5],[]⟩,⟨7,[],[],none,[0,1,2,3,4,5,6],[]⟩,⟨8,[],[],none,[0,1,2,3,4,5,6,7],[]⟩,⟨9,[],[],none,[0,1,2,3,4,5,6,7,8],[]⟩,⟨10,[],[],none,[0,1,2,3,4,5,6,7,8,9],[]⟩,⟨11,[],[],none,[0,1,2,3,4,5,6,7,8,9,10],[]⟩,⟨12,[],[],none,rg 0 12,[]⟩,⟨13,[],[],none,rg 0 13,[]⟩,⟨14,[],[],none,rg 0 14,[]⟩,⟨15,[],[],none,rg 0 15,[]⟩,⟨16,[],[],none,rg 0 16,[]⟩,⟨17,[],[],none,rg 0 17,[]⟩,⟨18,[],[],none,rg 0 18,[]⟩,⟨19,[],[],none,rg 0 15,[]⟩,⟨20,[],[],none,rg 0 15++[19],[]⟩,⟨21,[],[],none,rg 0 21,[]⟩,⟨22,[],[],none,rg 0 22,[]⟩,⟨23,[],[],none,rg 0 23,[]⟩,⟨24,[],[],none,rg 0 24,[]⟩,⟨25,[],[],none,rg 0 24,[]⟩,⟨26,[],[],none,rg 0 26,[]⟩,⟨27,[],[],none,rg 0 27,[]⟩,⟨28,[],[],none,rg 0 28,[]⟩,⟨29,[],[],none,rg 0 29,[]⟩,⟨30,[],[],none,rg 0 30,[]⟩,⟨31,[],[],none,rg 0 31,[]⟩,⟨32,[],[],none,rg 0 28,[]⟩,⟨33,[],[],none,rg 0 28++[32],[]⟩,⟨34,[],[],none,rg 0 28++[32,33],[]⟩,⟨35,[],[],none,rg 0 28++[32,33,34],[]⟩,⟨36,[],[],none,rg 0 36,[]⟩,⟨37,[],[],none,rg 0 37,[]⟩,⟨38,[],[],none,rg 0 38,[]⟩]else bif Nat.beq i 24 then[⟨0,[9],[],none,[],[]⟩,⟨1,[],[],none,[],[]⟩,⟨2,[],[],none,[],[]⟩,⟨3,[],[],none,[2],[]⟩,⟨4,[],[],none,[2,3],[]⟩,⟨5,[],[],none,[2,3,4],[]⟩,⟨6,[],[],none,[1,2,3,4,5],[]⟩,⟨7,[],[],none,[0,1,2,3,4,5,6],[]⟩,⟨8,[],[],none,[0,1,2,3,4,5,6,7],[]⟩,⟨9,[],[],none,[0,1,2,3,4,5,6,7,8],[]⟩,⟨10,[],[],none,[0,1,2,3,4,5,6,7,8],[]⟩,⟨11,[],[],none,[0,1,2,3,4,5,6,7,8,9],[]⟩,⟨12,[],[],none,rg 0 12,[]⟩]else bif Nat.beq i 27 then[⟨0,[9],[],none,[],[]⟩,⟨1,[],[],none,[0],[]⟩,⟨2,[],[],none,[],[]⟩,⟨3,[],[],none,[],[]⟩,⟨4,[],[],none,[3],[]⟩,⟨5,[],[],none,[3,4],[]⟩,⟨6,[],[],none,[3,4,5],[]⟩,⟨7,[],[],none,[2,3,4,5,6],[]⟩,⟨8,[],[],none,[0,1,2,3,4,5,6,7],[1]⟩,⟨9,[],[],none,[0,1,2,3,4,5,6,7,8],[]⟩,⟨10,[],[],none,[0,1,2,3,4,5,6,7,8,9],[]⟩,⟨11,[],[],none,[0,1,2,3,4,5,6,7,8,9],[]⟩,⟨12,[],[],none,[0,1,2,3,4,5,6,7,8,9,10],[]⟩,⟨13,[],[],none,rg 0 13,[]⟩]else bif Nat.beq i 33 then[⟨0,[23],[],none,[],[]⟩,⟨1,[],[],none,[],[]⟩,⟨2,[],[],none,[0,1],[]⟩,⟨3,[],[],none,[0,1,2],[]⟩,⟨4,[],[],none,[0,1,2,3],[]⟩,⟨5,[],[],none,[0,1,2,3],[]⟩,⟨6,[],[],none,[0,1,2,3,4,5],[]⟩,⟨7,[],[],none,[0,1,2,3,4,5,6],[]⟩,⟨8,[],[],none,[0,1,2,3,4,5,6,7],[1]⟩,⟨9,[23],[],none,[0,1,2,3],[]⟩,⟨10,[23],[],none,[0,1,2,3,9],[1]⟩,⟨11,[],[],none,[0,1,2,3],[]⟩,⟨12,[],[],none,[0,1,2,3,11],[]⟩,⟨13,[],[],none,[0,1,2,3,11,12],[]⟩,⟨14,[],[],none,[0,1,2,3,11,12,13],[1]⟩,⟨15,[],[],none,[0,1,2,3,9,10,11,12,13,14],[]⟩,⟨16,[],[],none,rg 0 16,[]⟩,⟨17,[],[],none,rg 0 17,[]⟩,⟨18,[],[],none,rg 0 18,[]⟩,⟨19,[],[],none,rg 0 18,[]⟩,⟨20,[],[],none,rg 0 20,[]⟩,⟨21,[],[],none,rg 0 21,[]⟩,⟨22,[],[],none,rg 0 22,[1]⟩,⟨23,[23],[],none,rg 0 18,[]⟩,⟨24,[23],[],none,rg 0 18++[23],[1]⟩,⟨25,[],[],none,rg 0 18,[]⟩,⟨26,[],[],none,rg 0 18++[25],[]⟩,⟨27,[],[],none,rg 0 18++[25,26],[]⟩,⟨28,[],[],none,rg 0 18++[25,26,27],[1]⟩,⟨29,[],[],none,rg 0 18++rg 23 6,[]⟩,⟨30,[],[],none,rg 0 30,[]⟩,⟨31,[],[],none,rg 0 31,[]⟩,⟨32,[],[],none,rg 0 32,[]⟩]else[])
 gb:=true
 cuts:=λi=>bif Nat.beq i 8 then some ⟨[(11,.int .i64)],[],[],false⟩ else bif Nat.beq i 11 then some ⟨[],[],[],false⟩ else bif Nat.beq i 15 then some ⟨[],[],[],false⟩ else bif Nat.beq i 20 then some ⟨[],[],[],false⟩ else bif Nat.beq i 24 then some ⟨[],[],[],false⟩ else bif Nat.beq i 27 then some ⟨[],[],[],false⟩ else bif Nat.beq i 30 then some ⟨[],[],[],false⟩ else none }
abbrev Zb3:Int->Int->Int->Int->Int->Int->Int->Option Addr->Nat->Nat->Nat->Option Box:=λ(n aa ab ac ad ae af:Int)(a:Option Addr)(ag c b:Nat)=>some (Box.mk b [int u8 n,int u64
 aa,int u64 ab,int u64 ac,int u64 ad,int i64 ae,int i64 af,slice a ag c] 29 8 false true)
abbrev Zbt:Int->Int->Int->Int->Int->Int->Int->Option Addr->Nat->Nat->Nat->List (Option Box):=λ(n aa ab ac ad ae af:Int)(a:Option Addr)(ag c b:Nat)=>[Zb3 n aa
 ab ac ad ae af a ag c b]
abbrev Zad:Int->Int->Int->Int->Int->Int->Int->Option Addr->Nat->Nat->Nat->Int->Int->Int->Int->Int->Int->Int->Option Addr->Nat->Nat->Nat->List (Option Box):=λ(n aa ab ac ad ae
 af:Int) (a:Option Addr) (ag c b:Nat) (a7 bc bd be bf bg bh:Int) (ct:Option Addr) (bi bj ar:Nat)=>[Zb3 a7 bc bd be bf bg bh ct bi bj ar,Zb3 n aa ab ac ad ae af a ag c b]
def Zc5(p0a:Option Addr)(p0n p0c:Nat)(p1a:Option Addr)(p1n p1c:Nat)(p2 p3:Int)(m:Mem)(R:RT):Prop:=
 ∃(R_1:RT),True/\CX Try.prog 8 (Array.mk []) m [] R_1/\Zaz Shape.bool R_1/\∀(b:Bool)(m':Mem),Mem.le m m'->R_1 (bool b) m' []->br (!b) (∃(m'':Mem),Mem.le m m''/\Mem.le m'' m'/\R (bool false) m'' [])
 (∃(R_2:RT),True/\CX Try.prog 9 (Array.mk [slice p0a p0n p0c]) m' [] R_2/\Zaz (shT) R_2/\∀(n aa ab ac ad ae af:Int)(a:Option Addr)(ag c:Nat)(a9:Mem),Mem.le m' a9->R_2 (agg (Array.mk [int u8 n,int
 u64 aa,int u64 ab,int u64 ac,int u64 ad,int i64 ae,int i64 af,slice a ag c])) a9 []->∀(b:Nat),(((0:Int)<=if(12:Int) < (↑p1n:Int)then(12:Int)else(↑p1n:Int))/\(if(12:Int) < (↑p1n:Int)then
 (12:Int)else(↑p1n:Int))<=(↑p1c:Int))/\(4:Int)≠(0:Int)/\(5:Int)≠(0:Int)/\∃(J:JT),(∃(ar:Bool),br (IntKind.wrap i64 (Int.tmod p3 (5:Int)) == (0:Int)) (Zax (Zbt n aa ab
 ac ad ae af a ag c b)/\[bool true]=[bool ar]) (Zax (Zbt n aa ab ac ad ae af a ag c b)/\[bool (decide (IntKind.wrap i64 (Int.tmod p3 (5:Int)) < IntKind.wrap i64 (Int.tmod p2 (4:Int))))]=[bool
 ar])/\br ar (Zax (Zbt n aa ab ac ad ae af a ag c b)/\J [int i64 (-1:Int)] [] [] a9) (Zax (Zbt n aa ab ac ad ae af a ag c b)/\J [int i64 (IntKind.wrap i64 (Int.tmod p3 (5:
 Int)))] [] [] a9))/\∀(a7:Int)(m':Mem),Mem.le a9 m'->J [int i64 a7] [] [] m'->∃(R_3:RT),True/\CX Try.prog 18 (Array.mk [agg (Array.mk [int u8 n,int u64 aa,int u64 ab,int u64 ac,int u64 ad,int i64 ae,
 int i64 af,slice a ag c])]) m' [] R_3/\Zaz (shT) R_3/\∀(bc bd be bf bg bh bi:Int)(cf:Option Addr)(cg bj:Nat)(bk:Mem),Mem.le m' bk->R_3 (agg (Array.mk [int u8 bc,int u64 bd,int u64 be,int u64 bf,int
 u64 bg,int i64 bh,int i64 bi,slice cf cg bj])) bk []->∃(R_4:RT),True/\CX Try.prog 28 (Array.mk [agg (Array.mk [int u8 bc,int u64 bd,int u64 be,int u64 bf,int u64 bg,int i64 bh,int i64 bi,slice cf cg
 bj]),int i64 (IntKind.wrap i64 (Int.tmod p2 (4:Int))),int i64 a7]) bk [] R_4/\Zaz (shT) R_4/\∀(ah ai aj ak al am an:Int)(ao:Option Addr)(ap aq:Nat)(m':Mem),Mem.le bk m'->R_4 (agg (Array.mk [int u8
 ah,int u64 ai,int u64 aj,int u64 ak,int u64 al,int i64 am,int i64 an,slice ao ap aq])) m' []->∀(ar:Nat),∃(J:JT),(∃(av:Bool),br (!ah == (5:Int)) (Zax (Zad n aa ab ac ad ae af a ag
 c b ah ai aj ak al am an ao ap aq ar)/\[bool true]=[bool av]) (∃(R:RT),True/\CX Try.prog 19 (Array.mk [agg (Array.mk [bool false,bool false,int u8 ah,int u64 ai,int u64 aj,int u64 ak,int u64 al,int i64
 am,int i64 an,slice ao ap aq])]) m' [] R/\Zaz (Shape.int i64) R/\∀(a0:Int)(a6:Mem),Mem.le m' a6->R (int i64 a0) a6 []->Zax (Zad n aa ab ac ad ae af a ag c b ah ai aj ak al am an ao ap aq
 ar)/\[bool !a0 == (0:Int)]=[bool av])/\br av (∃(m'':Mem),Mem.le m m''/\Mem.le m'' m'/\R (bool true) m'' []) (Zax (Zad n aa ab ac ad ae af a ag c b ah ai aj ak al am an ao ap aq ar)/\J []
 [] [] m'))/\∀(a6:Mem),Mem.le m' a6->J [] [] [] a6->∃(R_5:RT),True/\CX Try.prog 17 (Array.mk [agg (Array.mk [int u8 ah,int u64 ai,int u64 aj,int u64 ak,int u64 al,int i64 am,int i64 an,slice ao ap
 aq]),slice (ZaW p1a 0 p1c 1) (Int.toNat (if(12:Int) < (↑p1n:Int)then(12:Int)else(↑p1n:Int)) - 0) (p1c - 0)]) a6 [] R_5/\Zaz (Shape.tup [Shape.int i64,Shape.int i64]) R_5/\∀(a0 ba:Int)(m':Mem),
 Mem.le a6 m'->R_5 (tuple (Array.mk [int i64 a0,int i64 ba])) m' []->∃(R_6:RT),True/\CX Try.prog 15 (Array.mk [agg (Array.mk [int u8 ah,int u64 ai,int u64 aj,int u64 ak,int u64 al,int i64 am,int i64 an,
 slice ao ap aq]),slice (ZaW p1a 0 p1c 1) (Int.toNat (if(12:Int) < (↑p1n:Int)then(12:Int)else(↑p1n:Int)) - 0) (p1c - 0)]) m' [] R_6/\Zaz (Shape.tup [Shape.slice,Shape.int i64]) R_6/\∀(ay:Option
 Addr) (aw cr:Nat) (ch:Int) (bb:Mem),Mem.le m' bb->R_6 (tuple (Array.mk [slice ay aw cr,int i64 ch])) bb []->∃(J:JT),(∃(av:Bool),br (!ba == ch) (Zax (Zad n aa ab ac ad ae af a ag c b
 ah ai aj ak al am an ao ap aq ar)/\[bool true]=[bool av]) (br (!ba == (0:Int)) (Zax (Zad n aa ab ac ad ae af a ag c b ah ai aj ak al am an ao ap aq ar)/\[bool !ba == (141:Int)]=[bool av])
 (Zax (Zad n aa ab ac ad ae af a ag c b ah ai aj ak al am an ao ap aq ar)/\[bool false]=[bool av]))/\br av (∃(m'':Mem),Mem.le m m''/\Mem.le m'' bb/\R (bool false) m'' []) (Zax
 (Zad n aa ab ac ad ae af a ag c b ah ai aj ak al am an ao ap aq ar)/\J [] [] [] bb))/\∀(m':Mem),Mem.le bb m'->J [] [] [] m'->br (!ba == (0:Int)) (∃(R_7:RT),True/\CX Try.prog 29 (Array.mk
 [agg (Array.mk [int u8 ah,int u64 ai,int u64 aj,int u64 ak,int u64 al,int i64 am,int i64 an,slice ao ap aq]),slice (ZaW p1a 0 p1c 1) (Int.toNat (if(12:Int) < (↑p1n:Int)then(12:Int)else(↑p1n:Int))
 - 0) (p1c - 0)]) m' [] R_7/\Zaz (Shape.tup [Shape.bool,Shape.int i64]) R_7/\∀(av:Bool)(ax:Int)(au:Mem),Mem.le m' au->R_7 (tuple (Array.mk [bool av,int i64 ax])) au []->∃(a1:Bool),br (ax == (0:
 Int)) (br (!av) (br (a0 == (0:Int)) (Zax (Zad n aa ab ac ad ae af a ag c b ah ai aj ak al am an ao ap aq ar)/\[bool ((↑aw:Int) == (0:Int))]=[bool a1]) (Zax (Zad n aa ab ac
 ad ae af a ag c b ah ai aj ak al am an ao ap aq ar)/\[bool false]=[bool a1])) (Zax (Zad n aa ab ac ad ae af a ag c b ah ai aj ak al am an ao ap aq ar)/\[bool false]=[bool a1])) (Zax
 (Zad n aa ab ac ad ae af a ag c b ah ai aj ak al am an ao ap aq ar)/\[bool false]=[bool a1])/\∃(m'':Mem),Mem.le m m''/\Mem.le m'' au/\R (bool a1) m'' []) (∃(J:JT),(∃(av:Bool),br (decide
 (a0 < IntKind.wrap i64 (Int.tmod p2 (4:Int)))) (Zax (Zad n aa ab ac ad ae af a ag c b ah ai aj ak al am an ao ap aq ar)/\[bool true]=[bool av]) (br (!a7 == (-1:Int)) (br (decide (a0 > a7))
 (Zax (Zad n aa ab ac ad ae af a ag c b ah ai aj ak al am an ao ap aq ar)/\[bool true]=[bool av]) (br (decide (a0 > IntKind.wrap i64 (IntKind.wrap i64 (Int.tmod p2 (4:Int))+(↑(Int.toNat (if(12
 : Int) < (↑p1n:Int)then(12:Int)else(↑p1n:Int)) - 0):Int)))) (Zax (Zad n aa ab ac ad ae af a ag c b ah ai aj ak al am an ao ap aq ar)/\[bool true]=[bool av]) (∃(R:RT),True/\CX
 Try.prog 20 (Array.mk [agg (Array.mk [int u8 ah,int u64 ai,int u64 aj,int u64 ak,int u64 al,int i64 am,int i64 an,slice ao ap aq])]) m' [] R/\Zaz (Shape.int i64) R/\∀(ax:Int)(au:Mem),Mem.le m' au->R
 (int i64 ax) au []->Zax (Zad n aa ab ac ad ae af a ag c b ah ai aj ak al am an ao ap aq ar)/\[bool !(↑aw:Int) == ax]=[bool av]))) (br (decide (a0 > IntKind.wrap i64 (IntKind.wrap i64 (Int.tmod
 p2 (4:Int))+(↑(Int.toNat (if(12:Int) < (↑p1n:Int)then(12:Int)else(↑p1n:Int)) - 0):Int)))) (Zax (Zad n aa ab ac ad ae af a ag c b ah ai aj ak al am an ao ap aq ar)/\[bool true] =
 [bool av]) (∃(R:RT),True/\CX Try.prog 20 (Array.mk [agg (Array.mk [int u8 ah,int u64 ai,int u64 aj,int u64 ak,int u64 al,int i64 am,int i64 an,slice ao ap aq])]) m' [] R/\Zaz (Shape.int i64) R/\∀(ax:
 Int) (au:Mem),Mem.le m' au->R (int i64 ax) au []->Zax (Zad n aa ab ac ad ae af a ag c b ah ai aj ak al am an ao ap aq ar)/\[bool !(↑aw:Int) == ax]=[bool av])))/\br av (∃(m'':Mem),Mem.le
 m m''/\Mem.le m'' m'/\R (bool false) m'' []) (Zax (Zad n aa ab ac ad ae af a ag c b ah ai aj ak al am an ao ap aq ar)/\J [] [] [] m'))/\∀(au:Mem),Mem.le m' au->J [] [] [] au->br (a0 == (0:
 Int)) (∃(f:Fx),br ((↑(Int.toNat (if(12:Int) < (↑p1n:Int)then(12:Int)else(↑p1n:Int)) - 0):Int) == (0:Int)) (∃(b:Nat),∃(o:Nat),ay=some (Addr.mk b o none)/\Zag (0:Int) aw/\∃(v:
 Value),∃(az:Value),Mem.reads au b (o+0) [v,az]/\∃(R_7:RT),R_7=f 7 [] au/\CX Try.prog 21 (Array.mk []) au [] R_7/\Zaz (Shape.agg [Shape.int i64,Shape.int i64]) R_7/\∀(n ax:Int)(m':Mem),Mem.le
 au m'->R_7 (agg (Array.mk [int i64 n,int i64 ax])) m' []->∃(b:Bool),EqIs Try.prog 56 (agg (Array.mk [v,az])) (agg (Array.mk [int i64 n,int i64 ax])) b/\∀(M:Mem),Mem.le au M->Mem.le m' M->∃(m'':Mem),
 Mem.le m m''/\Mem.le m'' M/\R (bool b) m'' []) (∀(M:Mem),Mem.le au M->Mem.le au M->∃(m'':Mem),Mem.le m m''/\Mem.le m'' M/\R (bool false) m'' [])) (∃(J:JT),(∃(av:Nat),∃(o:Nat),ay=some (Addr.mk
 av o none)/\Zag (0:Int) aw/\∃(v:Value),au av (o+0+1)=some v/\chk (ZaO i64 v&&decide (i64=i64)) (br (!RowKit.intOf v == (↑(Int.toNat (if(12:Int) < (↑p1n:Int)then(12:Int)else(↑p1n:
 Int)) - 0):Int)) (∃(m'':Mem),Mem.le m m''/\Mem.le m'' au/\R (bool false) m'' []) (∃(a1:Nat),∃(o:Nat),ay=some (Addr.mk a1 o none)/\Zag (0:Int) aw/\∃(v:Value),au a1 (o+0+0)=some v/\chk
 (ZaO i64 v&&decide (i64=i64)) (br (decide (RowKit.intOf v < (0:Int))) (∃(m'':Mem),Mem.le m m''/\Mem.le m'' au/\R (bool false) m'' []) (∃(a4:Nat),∃(o:Nat),ay=some (Addr.mk a4 o none)/\Zag (0
 : Int) aw/\∃(v:Value),au a4 (o+0+0)=some v/\chk (ZaO i64 v&&decide (i64=i64)) (br (decide (RowKit.intOf v > (↑(Int.toNat (if(12:Int) < (↑p1n:Int)then(12:Int)else(↑p1n:Int)) - 0):Int)))
 (∃(m'':Mem),Mem.le m m''/\Mem.le m'' au/\R (bool false) m'' []) (br (decide (a0 > IntKind.wrap i64 (Int.tmod p2 (4:Int)))) (∃(a5:Nat),∃(o:Nat),ay=some (Addr.mk a5 o none)/\Zag (0:Int) aw/\∃(v
 : Value),au a5 (o+0+0)=some v/\∃(bm:Nat),∃(o:Nat),ay=some (Addr.mk bm o none)/\Zag (0:Int) aw/\∃(az:Value),au bm (o+0+1)=some az/\chk (ZaO i64 v&&ZaO i64 az) (br (RowKit.intOf
 v == RowKit.intOf az) (∃(m'':Mem),Mem.le m m''/\Mem.le m'' au/\R (bool false) m'' []) (Zax (Zad n aa ab ac ad ae af a ag c b ah ai aj ak al am an ao ap aq ar)/\J [] [] [] au))) (Zax
 (Zad n aa ab ac ad ae af a ag c b ah ai aj ak al am an ao ap aq ar)/\J [] [] [] au))))))))/\∀(m':Mem),Mem.le au m'->J [] [] [] m'->∃(f:Fx),∃(av:Nat),∃(o:Nat),ay=some (Addr.mk av o
 none)/\Zag (0:Int) aw/\∃(v:Value),m' av (o+0+0)=some v/\chk (Zbn v) (((0:Int)<=RowKit.intOf v/\RowKit.intOf v<=(↑(Int.toNat (if(12:Int) < (↑p1n:Int)then(12:Int)else(↑p1n:Int)) -
 0):Int))/\∃(R_7:RT),R_7=f 7 [agg (Array.mk [int u8 n,int u64 aa,int u64 ab,int u64 ac,int u64 ad,int i64 ae,int i64 af,slice a ag c]),slice (ZaW (ZaW p1a 0 p1c 1) (Int.toNat (RowKit.intOf v)) (p1c
 - 0) 1) (Int.toNat (if(12:Int) < (↑p1n:Int)then(12:Int)else(↑p1n:Int)) - 0 - Int.toNat (RowKit.intOf v)) (p1c - 0 - Int.toNat (RowKit.intOf v))] m'/\CX Try.prog 29 (Array.mk [agg (Array.mk [int u8 n,int
 u64 aa,int u64 ab,int u64 ac,int u64 ad,int i64 ae,int i64 af,slice a ag c]),slice (ZaW (ZaW p1a 0 p1c 1) (Int.toNat (RowKit.intOf v)) (p1c - 0) 1) (Int.toNat (if(12:Int) < (↑p1n:Int)then(12:Int)
 else(↑p1n:Int)) - 0 - Int.toNat (RowKit.intOf v)) (p1c - 0 - Int.toNat (RowKit.intOf v))]) m' [] R_7/\Zaz (Shape.tup [Shape.bool,Shape.int i64]) R_7/\∀(a1:Bool)(ax:Int)(bn:Mem),Mem.le m' bn->R_7 (tuple
 (Array.mk [bool a1,int i64 ax])) bn []->∀(M:Mem),Mem.le m' M->Mem.le bn M->∃(J:JT),(∃(a4:Bool),br (!ax == (0:Int)) (Zax (Zad n aa ab ac ad ae af a ag c b ah ai aj ak al am an ao ap
 aq ar)/\[bool true]=[bool a4]) (Zax (Zad n aa ab ac ad ae af a ag c b ah ai aj ak al am an ao ap aq ar)/\[bool !a1]=[bool a4])/\br a4 (∃(m'':Mem),Mem.le m m''/\Mem.le m'' M/\R (bool
 false) m'' []) (Zax (Zad n aa ab ac ad ae af a ag c b ah ai aj ak al am an ao ap aq ar)/\J [] [] [] M))/\∀(m':Mem),Mem.le M m'->J [] [] [] m'->∃(f:Fx),∃(R_8:RT),R_8=f 1 [agg
 (Array.mk [int u8 n,int u64 aa,int u64 ab,int u64 ac,int u64 ad,int i64 ae,int i64 af,slice a ag c])] m'/\CX Try.prog 18 (Array.mk [agg (Array.mk [int u8 n,int u64 aa,int u64 ab,int u64 ac,int u64 ad,int
 i64 ae,int i64 af,slice a ag c])]) m' [] R_8/\Zaz (shT) R_8/\∀(bo bp bq bs bt bu bv:Int)(bw:Option Addr)(bx bz:Nat)(a8:Mem),Mem.le m' a8->R_8 (agg (Array.mk [int u8 bo,int u64 bp,int u64 bq,int u64
 bs,int u64 bt,int i64 bu,int i64 bv,slice bw bx bz])) a8 []->∃(a4:Nat),∃(o:Nat),ay=some (Addr.mk a4 o none)/\Zag (0:Int) aw/\∃(v:Value),m' a4 (o+0+0)=some v/\chk (Zbn v) (((0:
 Int)<=RowKit.intOf v/\RowKit.intOf v<=(↑(Int.toNat (if(12:Int) < (↑p1n:Int)then(12:Int)else(↑p1n:Int)) - 0):Int))/\∃(R_9:RT),R_9=f 8 [agg (Array.mk [int u8 bo,int u64 bp,int u64 bq,int u64
 bs,int u64 bt,int i64 bu,int i64 bv,slice bw bx bz]),slice (ZaW (ZaW p1a 0 p1c 1) (Int.toNat (RowKit.intOf v)) (p1c - 0) 1) (Int.toNat (if(12:Int) < (↑p1n:Int)then(12:Int)else(↑p1n:Int)) - 0 -
 Int.toNat (RowKit.intOf v)) (p1c - 0 - Int.toNat (RowKit.intOf v))] a8/\CX Try.prog 15 (Array.mk [agg (Array.mk [int u8 bo,int u64 bp,int u64 bq,int u64 bs,int u64 bt,int i64 bu,int i64 bv,slice bw bx bz]),
 slice (ZaW (ZaW p1a 0 p1c 1) (Int.toNat (RowKit.intOf v)) (p1c - 0) 1) (Int.toNat (if(12:Int) < (↑p1n:Int)then(12:Int)else(↑p1n:Int)) - 0 - Int.toNat (RowKit.intOf v)) (p1c - 0 - Int.toNat
 (RowKit.intOf v))]) a8 [] R_9/\Zaz (Shape.tup [Shape.slice,Shape.int i64]) R_9/\∀(ci:Option Addr)(bl cs:Nat)(cj:Int)(ca:Mem),Mem.le a8 ca->R_9 (tuple (Array.mk [slice ci bl cs,int i64 cj])) ca []->∀
 (M:Mem),Mem.le m' M->Mem.le a8 M->Mem.le ca M->∃(J:JT),(∃(a5:Bool),br (!cj == (0:Int)) (Zax (Zad n aa ab ac ad ae af a ag c b ah ai aj ak al am an ao ap aq ar)/\[bool true]=[bool
 a5]) (Zax (Zad n aa ab ac ad ae af a ag c b ah ai aj ak al am an ao ap aq ar)/\[bool !(↑bl:Int) == (↑aw:Int)]=[bool a5])/\br a5 (∃(m'':Mem),Mem.le m m''/\Mem.le m'' M/\R (bool false) m''
 []) (Zax (Zad n aa ab ac ad ae af a ag c b ah ai aj ak al am an ao ap aq ar)/\J [] [] [] M))/\∀(m':Mem),Mem.le M m'->J [] [] [] m'->∃(I:IT),(∃(n:Nat),I [int i64 0] [] [] m' n)/\∀(a2
 : Int) (a3:Mem) (cb:Nat),Mem.le m' a3->I [int i64 a2] [] [] a3 cb->br (decide (a2 < (↑bl:Int))) (∃(a5:Nat),∃(o:Nat),ci=some (Addr.mk a5 o none)/\Zag a2 bl/\∃(v:Value),∃(az:Value),
 Mem.reads a3 a5 (o+Int.toNat a2*2) [v,az]/\∀(bm:Nat),chk (Value.oneCell' v&&(Value.oneCell' az&&true)) (∃(f:Fx),∃(R_10:RT),R_10=f 1 [] a3/\CX Try.prog 21 (Array.mk []) a3 [] R_10/\Zaz
 (Shape.agg [Shape.int i64,Shape.int i64]) R_10/\∀(ck cl:Int)(m':Mem),Mem.le a3 m'->R_10 (agg (Array.mk [int i64 ck,int i64 cl])) m' []->∃(cm:Bool),EqIs Try.prog 56 (agg (Array.mk [v,az])) (agg (Array.mk
 [int i64 ck,int i64 cl])) cm/\br (!cm) (∃(cn:Nat),∃(o:Nat),ay=some (Addr.mk cn o none)/\Zag a2 aw/\∃(cc:Value),m' cn (o+Int.toNat a2*2+0)=some cc/\∃(co:Nat),∃(o:Nat),ay=some
 (Addr.mk co o none)/\Zag (0:Int) aw/\∃(cd:Value),m' co (o+0+0)=some cd/\chk (ZaO i64 v&&ZaO i64 cd) (chk (ZaO i64 cc&&decide (i64=i64)) (br (!RowKit.intOf cc == IntKind.wrap i64
 (RowKit.intOf v+RowKit.intOf cd)) (∀(M:Mem),Mem.le a3 M->Mem.le m' M->∃(m'':Mem),Mem.le m m''/\Mem.le m'' M/\R (bool false) m'' []) (∃(cp:Nat),∃(o:Nat),ay=some (Addr.mk cp o none)/\Zag a2 aw
 /\ ∃(v:Value),m' cp (o+Int.toNat a2*2+1)=some v/\∃(cq:Nat),∃(o:Nat),ay=some (Addr.mk cq o none)/\Zag (0:Int) aw/\∃(ce:Value),m' cq (o+0+0)=some ce/\chk (ZaO i64 az&&ZaO i64
 ce) (chk (ZaO i64 v&&decide (i64=i64)) (∀(M:Mem),Mem.le a3 M->Mem.le m' M->br (!RowKit.intOf v == IntKind.wrap i64 (RowKit.intOf az+RowKit.intOf ce)) (∃(m'':Mem),Mem.le m m''/\Mem.le m'' M/\R (bool
 false) m'' []) (Zax (Zad n aa ab ac ad ae af a ag c b ah ai aj ak al am an ao ap aq ar)/\∃(n':Nat),n' < cb/\I [int i64 (IntKind.wrap i64 (a2+(1:Int)))] [] [] M n'))))))) (∀(M:Mem),Mem.le
 a3 M->Mem.le m' M->Zax (Zad n aa ab ac ad ae af a ag c b ah ai aj ak al am an ao ap aq ar)/\∃(n':Nat),n' < cb/\I [int i64 (IntKind.wrap i64 (a2+(1:Int)))] [] [] M n'))) (∃(m'':Mem),
 Mem.le m m''/\Mem.le m'' a3/\R (bool true) m'' []))))))
theorem Zfs(p0a:Option Addr)(p0n p0c:Nat)(p1a:Option Addr)(p1n p1c:Nat)(p2 p3:Int)(m:Mem)(R:RT)(h:Zc5 p0a p0n p0c p1a p1n p1c p2 p3 m R):CX Try.prog 6 #[.slice p0a p0n p0c,.slice p1a p1n p1c,.int .u8 p2,.int .u8 p3] m [] R:=
 Zaj (E:=ZfT) ZaA mix Try.func6 [.v (.slice p0a p0n p0c),.v (.slice p1a p1n p1c),.v (.int .u8 p2),.v (.int .u8 p3)] [] (by kernel_rfl) (Eq.mp (by kernel_rfl) h)
end Go.Proofs.Ytgclajkldphoaaa
set_option linter.unusedVariables false
namespace Go.Proofs.Ytgclajkldphoaaa
open Go Go.Eng Go.Proofs Go.RowKit
open Go.Value (int slice agg bool string tuple func)
open Go.IntKind (u8 u64 i64)
set_option maxRecDepth 100000
end Go.Proofs.Ytgclajkldphoaaa
set_option linter.unusedVariables false
namespace Go.Proofs.Ytgclajkldphoaaa
open Go Go.Eng Go.Proofs Go.RowKit
open Go.Value (int slice agg bool string tuple func)
open Go.IntKind (u8 u64 i64)
set_option maxRecDepth 100000
noncomputable def ZeN:Env:={ EB with
 loops:=(λi=>bif Nat.beq i 7 then⟨[(46,.int .i64)],[14,100000],[(59,1),(900,2)],false⟩ else⟨[],[],[],false⟩)
 dr:=(λi=>bif Nat.beq i 1 then[⟨0,[3],[],none,[],[]⟩,⟨1,[],[],none,[],[]⟩,⟨2,[],[],none,[1],[]⟩,⟨3,[],[],none,[1,2],[]⟩,⟨4,[100000],[],none,[1,2,3],[]⟩,⟨5,[],[],none,[0,1,2,3,4],[]⟩,⟨6,[14],[14],none,[0,1,2,3,4,5],[]⟩,⟨7,[14],[],none,[0,1,2,3,4,5,6],[]⟩]else bif Nat.beq i 5 then[⟨0,[],[],none,[],[]⟩,⟨1,[],[],none,[],[]⟩,⟨2,[],[],none,[1],[]⟩,⟨3,[],[],none,[1,2],[]⟩,⟨4,[100000],[],none,[1,2,3],[]⟩,⟨5,[],[],none,[],[]⟩,⟨6,[39],[39],none,[5],[5]⟩,⟨7,[39],[],some 900,[1,2,3,4,5,6],[6]⟩,⟨8,[],[],none,[0,1,2,3,4,5,6,7],[]⟩,⟨9,[],[],none,[0,1,2,3,4,5,6,7,8],[]⟩,⟨10,[100000],[100000],none,[0,1,2,3,4,5,6,7,8,9],[]⟩]else[])
 tokOf:=(λi=>bif Nat.beq i 40 then 900 else bif Nat.beq i 59 then 59 else 0)
 borrow:=(λi=>bif Nat.beq i 57 then[100000]else[])
 hint:=(λi=>bif Nat.beq i 11 then some 100000 else bif Nat.beq i 17 then some 100000 else bif Nat.beq i 21 then some 100000 else bif Nat.beq i 28 then some 100000 else bif Nat.beq i 36 then some 100000 else bif Nat.beq i 42 then some 100000 else none)
 frzNew:=[3]
 last:=(λi=>bif Nat.beq i 9 then true else false)
 mix:=(λi=>bif Nat.beq i 9 then some ([0,1,2,3,4,5,6],[7,8,9,10,11,12])else none)
 frz:=[14]
 thaw:=true
 kF:=true
 cuts:=λi=>bif Nat.beq i 6 then some ⟨[],[14,100000],[(900,2)],false⟩ else none
 lentC:=(λi=>bif Nat.beq i 57 then some [(900,2)]else none) }
def ZcC(aU aO aP aQ aR aS aT:Int)(aM:Option Addr)(aL aN:Nat)(f0 f3:Value)(f1:Int)(fb:Nat)(t0a:Option Addr)(t0n t0c:Nat)(m:Mem)(Y:Nat->Prop)(R:RTY):Prop:=
 ∀(b:Nat)(m':Mem),Mem.le m m'->Mem.reads m' b 0 [int u8 aU,int u64 aO,int u64 aP,int u64 aQ,int u64 aR,int i64 aS,int i64 aT,slice aM aL aN]->Mem.free m b->(∀(b' o:Nat) (u:
 Value),m' b' o=some u->m b' o=some u\/b'=b)->Mem.k m b=none->fb=fb/\∀(ae:Nat),fb=fb/\fb=fb/\1+1<=1+1+1+1/\∃(J:JT),br (aU == (6:Int)) (fb=fb/\∃(f:Fx),fb=fb/\∃(R:
 RT),R=f 5 [] m'/\CX Try.prog 21 (Array.mk []) m' [] R/\Zaz (Shape.agg [Shape.int i64,Shape.int i64]) R/\∀(n ad:Int)(aa:Mem),Mem.le m' aa->R (agg (Array.mk [int i64 n,int i64 ad])) aa []->∀(af:Nat),
 Mem.free aa af->(Tok.mk (slice t0a t0n t0c) 2=Tok.mk (slice t0a t0n t0c) 2\/slice t0a t0n t0c=slice none 0 0\/t0c < t0n+1)/\∃(xs:List Value),∃(ys:List Value),List.length xs=t0n*2/\List.length ys =
 1*2/\rowRd (Mem.add aa af [int i64 n,int i64 ad]) t0a xs/\rowRd (Mem.add aa af [int i64 n,int i64 ad]) (some (Addr.mk af 0 none)) ys/\(∀(u:Value),u∈ys->Value.oneCell' u=true)/\(t0n+1)*16 <=
 140737488355328/\t0n+1<=9223372036854775807/\∀(a':Option Addr)(c':Nat)(al:Mem),Mem.le (Mem.add aa af [int i64 n,int i64 ad]) al->rowRd al a' (List.append xs ys)->TokFact (Mem.add aa af [int i64 n,int
 i64 ad]) t0a a' (t0n+1) c'->fb=fb/\2+1<=1+1+1+1/\∀(M:Mem),Mem.le m' M->Mem.le aa M->Mem.le (Mem.add aa af [int i64 n,int i64 ad]) M->Mem.le al M->[some (Box.mk ae [] 130 11 false true),some
 (Box.mk b [int u8 aU,int u64 aO,int u64 aP,int u64 aQ,int u64 aR,int i64 aS,int i64 aT,slice aM aL aN] 29 8 true true),some (Box.mk fb [] 92 4 false true)]=[some (Box.mk ae [] 130 11
 false true),some (Box.mk b [int u8 aU,int u64 aO,int u64 aP,int u64 aQ,int u64 aR,int i64 aS,int i64 aT,slice aM aL aN] 29 8 true true),some (Box.mk fb [] 92 4 false true)]/\([none]:
 List (Option Tok))=[none]/\J [] [[int u8 aU,int u64 aO,int u64 aP,int u64 aQ,int u64 aR,int i64 aS,int i64 aT,slice aM aL aN,int i64 f1,int i64 (↑t0n:Int),slice none 0 0],[f0,int
 i64 (IntKind.wrap i64 (f1+(1:Int))),slice a' (t0n+1) c',f3]] [slice a' (t0n+1) c'] M) ([some (Box.mk ae [] 130 11 false true),some (Box.mk b [int u8 aU,int u64 aO,int u64 aP,int u64 aQ,int u64
 aR,int i64 aS,int i64 aT,slice aM aL aN] 29 8 true true),some (Box.mk fb [] 92 4 false true)]=[some (Box.mk ae [] 130 11 false true),some (Box.mk b [int u8 aU,int u64 aO,int u64 aP,int u64
 aQ,int u64 aR,int i64 aS,int i64 aT,slice aM aL aN] 29 8 true true),some (Box.mk fb [] 92 4 false true)]/\([none]:List (Option Tok))=[none]/\J [] [[int u8 aU,int u64 aO,int u64 aP,
 int u64 aQ,int u64 aR,int i64 aS,int i64 aT,slice aM aL aN,int i64 f1,int i64 0,slice none 0 0],[f0,int i64 (IntKind.wrap i64 (f1+(1:Int))),slice t0a t0n t0c,f3]] [slice t0a t0n t0c] m')
 /\ ∀(cs aw:List Value)(a:Option Addr)(n c:Nat)(m':Mem),True->J [] [cs,aw] [slice a n c] m'->∃(I:IT),(∃(ad:Nat),I [int i64 0] [cs,aw] [slice none 0 0,slice a n c] m' ad)/\∀(n:Int) (cs am:
 List Value) (a:Option Addr) (ad c:Nat) (ah:Option Addr) (ai aj:Nat) (m':Mem) (ax:Nat),True->I [int i64 n] [cs,am] [slice a ad c,slice ah ai aj] m' ax->br (decide (n < (↑aL:Int))) (∃(af:Nat),∃
 (o:Nat),aM=some (Addr.mk af o none)/\Zag n aL/\∃(v:Value),∃(an:Value),∃(ao:Value),∃(ap:Value),∃(aq:Value),∃(ar:Value),∃(au:Value),∃(av:Value),Mem.reads m' af (o +
 Int.toNat n*8) [v,an,ao,ap,aq,ar,au,av]/\∀(a1:Nat),chk (Value.oneCell' v&&(Value.oneCell' an&&(Value.oneCell' ao&&(Value.oneCell' ap&&(Value.oneCell' aq&&(Value.oneCell' ar&&(Value.oneCell' au
 && (Value.oneCell' av&&true)))))))) (Eng.Zs2 cs 10 λ(ac:Value)=>∃(ak:Nat->Prop),∃(R:Value->Mem->List (List Value)->List Value->Prop),CXY Try.prog 69 (Array.mk [Value.pointer (some (Addr.mk fb 0
 none)),agg (Array.mk [v,an,ao,ap,aq,ar,au,av])]) m' ak [Box.mk fb am 92 4 false true] [Tok.mk (slice ah ai aj) 2] R/\(∀(t:Tok),t∈[Tok.mk (slice ah ai aj) 2]->∀(b:Nat),Tok.blk t=some b->ak b)/\(∀
 (ab:Nat),ak ab->(∃(t:Tok),t∈[Tok.mk (slice ah ai aj) 2]/\Tok.blk t=some ab)\/(Mem.free (Mem.off m Y) ab/\Mem.k (Mem.off m Y) ab=none)/\((∃(o:Nat),∃(v:Value),m' ab o=some v)\/∃(e:List
 (Value×Value)),Mem.k m' ab=some e)/\b≠ab/\Tok.blk (Tok.mk (slice a ad c) 1)≠some ab/\True)/\(∀(v:Value)(m':Mem) (css:List (List Value)) (tvs:List Value),R v m' css tvs->Shape.fits Shape.ptr v =
 true)/\∀(ab o:Nat)(aa:Mem),Mem.le (Mem.off m' ak) aa->(NewM m' aa λ(b:Nat)=>ak b\/Mem.free m' b)->∀(ay:List Value)(az:Option Addr)(a0 d:Nat),R (Value.pointer (some (Addr.mk ab o none))) aa
 [ay] [slice az a0 d]->∀(ag:Nat),Mem.free aa ag->chk (Zeq ac&&true) ((Tok.mk (slice a ad c) 1=Tok.mk ac 1\/ac=slice none 0 0\/slC ac < slN ac+1)/\∃(xs:List Value),∃(ys:List Value),List.length xs
 = slN ac*1/\List.length ys=1*1/\rowRd (Mem.add aa ag [Value.pointer (some (Addr.mk ab o none))]) (slA ac) xs/\rowRd (Mem.add aa ag [Value.pointer (some (Addr.mk ab o none))]) (some (Addr.mk ag 0 none)) ys/\(∀
 (u:Value),u∈ys->Value.oneCell' u=true)/\(slN ac+1)*8<=140737488355328/\slN ac+1<=9223372036854775807/\∀(a':Option Addr)(c':Nat)(m':Mem),Mem.le (Mem.add aa ag [Value.pointer (some (Addr.mk ab
 o none))]) m'->rowRd m' a' (List.append xs ys)->TokFact (Mem.add aa ag [Value.pointer (some (Addr.mk ab o none))]) (slA ac) a' (slN ac+1) c'->chk (Nat.ble 11 (List.length cs)) ([some (Box.mk ae [] 130 11 false
 true),some (Box.mk b [int u8 aU,int u64 aO,int u64 aP,int u64 aQ,int u64 aR,int i64 aS,int i64 aT,slice aM aL aN] 29 8 true true),some (Box.mk fb [] 92 4 false true)]=[some (Box.mk ae
 [] 130 11 false true),some (Box.mk b [int u8 aU,int u64 aO,int u64 aP,int u64 aQ,int u64 aR,int i64 aS,int i64 aT,slice aM aL aN] 29 8 true true),some (Box.mk fb [] 92 4 false true)]/\
 ([none,none]:List (Option Tok))=[none,none]/\∃(n':Nat),n' < ax/\I [int i64 (IntKind.wrap i64 (n+(1:Int)))] [ZaI cs 10 [slice a' (slN ac+1) c'],ay] [slice a' (slN ac+1) c',slice az a0 d] m'
 n')))) (Box.mk fb [f0,int i64 f1,slice t0a t0n t0c,f3] 92 4 false true=Box.mk fb [f0,int i64 f1,slice t0a t0n t0c,f3] 92 4 false true/\(Mem.free m' ae->Mem.k m' ae=none->R (Value.pointer (some (Addr.mk ae 0
 none))) (Mem.add m' ae cs) [am] [slice ah ai aj]))
theorem ZdG(aU aO aP aQ aR aS aT:Int)(aM:Option Addr)(aL aN:Nat)(f0 f3:Value)(f1:Int)(fb:Nat)(t0a:Option Addr)(t0n t0c:Nat)(m:Mem)(Y:Nat->Prop)(R:RTY)(h:ZcC aU aO aP aQ aR aS aT aM aL aN f0 f3 f1 fb t0a t0n t0c m Y R):CXY Try.prog 69 #[.pointer (some ⟨fb,0,none⟩),.agg #[.int .u8 aU,.int .u64 aO,.int .u64 aP,.int .u64 aQ,.int .u64 aR,.int .i64 aS,.int .i64 aT,.slice aM aL aN]] m Y [⟨fb,[f0,.int .i64 f1,.slice t0a t0n t0c,f3],92,4,false,true⟩] [⟨.slice t0a t0n t0c,2⟩] R:=
 Zcc (E:=ZeN) ZaA mix Try.func69 [.v (.pointer (some ⟨fb,0,none⟩)),.v (.agg #[.int .u8 aU,.int .u64 aO,.int .u64 aP,.int .u64 aQ,.int .u64 aR,.int .i64 aS,.int .i64 aT,.slice aM aL aN])] [⟨fb,[f0,.int .i64 f1,.slice t0a t0n t0c,f3],92,4,false,true⟩] [900] [⟨.slice t0a t0n t0c,2⟩] (by decide) (by kernel_rfl) (Eq.mp (by kernel_rfl) h)
noncomputable def ZoX:Env:={ EB with
 frzNew:=[2]
 frz:=[20]
 thaw:=true
 kF:=true
 lentC:=(λi=>bif Nat.beq i 24 then some [(900,2)]else none) }
def Zib(aG aD aI aJ aK aE aH:Int)(aB:Option Addr)(aA aC:Nat)(p1a:Option Addr)(p1n p1c:Nat)(m:Mem)(R:RT):Prop:=
 ∀(b:Nat)(m':Mem),Mem.le m m'->Mem.reads m' b 0 [int u8 aG,int u64 aD,int u64 aI,int u64 aJ,int u64 aK,int i64 aE,int i64 aH,slice aB aA aC]->Mem.free m b->(∀(b' o:Nat) (u:
 Value),m' b' o=some u->m b' o=some u\/b'=b)->Mem.k m b=none->∃(R_1:RT),True/\CX Try.prog 19 (Array.mk [agg (Array.mk [bool false,bool false,int u8 aG,int u64 aD,int u64 aI,int u64 aJ,int
 u64 aK,int i64 aE,int i64 aH,slice aB aA aC])]) m' [] R_1/\Zaz (Shape.int i64) R_1/\∀(n:Int)(m'_1:Mem),Mem.le m' m'_1->R_1 (int i64 n) m'_1 []->br (!n == (0:Int)) (∃(m'':Mem),Mem.le m
 m''/\Mem.le m'' m'_1/\R (tuple (Array.mk [Value.pointer none,Value.pointer none,int i64 140])) m'' []) (br (decide ((↑p1n:Int) > (512:Int))) (∃(m'':Mem),Mem.le m m''/\Mem.le m'' m'_1/\R (tuple (Array.mk
 [Value.pointer none,Value.pointer none,int i64 3])) m'' []) (∀(b_1:Nat),Mem.free m'_1 b_1->Mem.k m'_1 b_1=none->∀(b_2:Nat),∃(Y:Nat->Prop),∃(R_2:Value->Mem->List (List Value)->List Value->Prop),
 CXY Try.prog 69 (Array.mk [Value.pointer (some (Addr.mk b_2 0 none)),agg (Array.mk [int u8 aG,int u64 aD,int u64 aI,int u64 aJ,int u64 aK,int i64 aE,int i64 aH,slice aB aA aC])]) (Mem.updK
 m'_1 b_1 []) Y [Box.mk b_2 [slice p1a p1n p1c,int i64 0,slice none 0 0,Value.map (some b_1)] 92 4 false true] [Tok.mk (slice none 0 0) 2] R_2/\(∀(t:Tok),t∈[Tok.mk (slice none 0 0) 2]->∀(b:Nat),Tok.blk t =
 some b->Y b)/\(∀(b_3:Nat),Y b_3->(∃(t:Tok),t∈[Tok.mk (slice none 0 0) 2]/\Tok.blk t=some b_3)\/(Mem.free m b_3/\Mem.k m b_3=none)/\((∃(o:Nat),∃(v:Value),(Mem.updK m'_1 b_1 []) b_3 o=some
 v)\/∃(e:List (Value×Value)),Mem.k (Mem.updK m'_1 b_1 []) b_3=some e)/\b≠b_3/\True)/\(∀(v:Value)(m':Mem) (css:List (List Value)) (tvs:List Value),R_2 v m' css tvs->Shape.fits Shape.ptr v=true)
 /\ ∀(b o:Nat)(m':Mem),Mem.le (Mem.off (Mem.updK m'_1 b_1 []) Y) m'->(NewM (Mem.updK m'_1 b_1 []) m' λ(b:Nat)=>Y b\/Mem.free (Mem.updK m'_1 b_1 []) b)->∀(cs:List Value)(a:Option Addr)(c d:Nat),
 R_2 (Value.pointer (some (Addr.mk b o none))) m' [cs] [slice a c d]->Mem.free m' b_2->Mem.k m' b_2=none->∃(m'':Mem),Mem.le m m''/\Mem.le m'' (Mem.add m' b_2 cs)/\R (tuple (Array.mk [Value.pointer (some
 (Addr.mk b_2 0 none)),Value.pointer (some (Addr.mk b o none)),int i64 0])) m'' []))
theorem ZmE(aG aD aI aJ aK aE aH:Int)(aB:Option Addr)(aA aC:Nat)(p1a:Option Addr)(p1n p1c:Nat)(m:Mem)(R:RT)(h:Zib aG aD aI aJ aK aE aH aB aA aC p1a p1n p1c m R):CX Try.prog 42 #[.agg #[.int .u8 aG,.int .u64 aD,.int .u64 aI,.int .u64 aJ,.int .u64 aK,.int .i64 aE,.int .i64 aH,.slice aB aA aC],.slice p1a p1n p1c] m [] R:=
 Zaj (E:=ZoX) ZaA mix Try.func42 [.v (.agg #[.int .u8 aG,.int .u64 aD,.int .u64 aI,.int .u64 aJ,.int .u64 aK,.int .i64 aE,.int .i64 aH,.slice aB aA aC]),.v (.slice p1a p1n p1c)] [] (by kernel_rfl) (Eq.mp (by kernel_rfl) h)
noncomputable def ZmF:Env:={ EB with
 joins:=(λi=>bif Nat.beq i 4 then some [(22,.bool)]else none)
 frzNew:=[3]
 thaw:=true
 lentC:=(λi=>bif Nat.beq i 34 then some []else none) }
def Zhh(aG aD aI aJ aK aE aH:Int)(aB:Option Addr)(aA aC:Nat)(p1a:Option Addr)(p1n p1c:Nat)(p2:Int)(m:Mem)(R:RT):Prop:=
 ∀(b:Nat)(m':Mem),Mem.le m m'->Mem.reads m' b 0 [int u8 aG,int u64 aD,int u64 aI,int u64 aJ,int u64 aK,int i64 aE,int i64 aH,slice aB aA aC]->Mem.free m b->(∀(b' o:Nat) (u:
 Value),m' b' o=some u->m b' o=some u\/b'=b)->∃(R_1:RT),True/\CX Try.prog 42 (Array.mk [agg (Array.mk [int u8 aG,int u64 aD,int u64 aI,int u64 aJ,int u64 aK,int i64 aE,int i64 aH,slice
 aB aA aC]),slice p1a p1n p1c]) m' [] R_1/\Zaz (Shape.tup [Shape.any,Shape.any,Shape.int i64]) R_1/\∀(v v_1:Value)(n:Int)(m'_1:Mem),Mem.le m' m'_1->R_1 (tuple (Array.mk [v,v_1,int i64 n]))
 m'_1 []->br (!n == (0:Int)) (∃(m'':Mem),Mem.le m m''/\Mem.le m'' m'_1/\R (tuple (Array.mk [slice none 0 0,int i64 n])) m'' []) (∃(b_1:Bool),br (decide (p2 < (0:Int))) ([some (Box.mk b [int u8 aG,int
 u64 aD,int u64 aI,int u64 aJ,int u64 aK,int i64 aE,int i64 aH,slice aB aA aC] 29 8 true true)]=[some (Box.mk b [int u8 aG,int u64 aD,int u64 aI,int u64 aJ,int u64 aK,int i64
 aE,int i64 aH,slice aB aA aC] 29 8 true true)]/\[bool true]=[bool b_1]) ([some (Box.mk b [int u8 aG,int u64 aD,int u64 aI,int u64 aJ,int u64 aK,int i64 aE,int i64 aH,slice aB
 aA aC] 29 8 true true)]=[some (Box.mk b [int u8 aG,int u64 aD,int u64 aI,int u64 aJ,int u64 aK,int i64 aE,int i64 aH,slice aB aA aC] 29 8 true true)]/\[bool (decide (p2 > (↑p1n:
 Int)))]=[bool b_1])/\br b_1 (∃(m'':Mem),Mem.le m m''/\Mem.le m'' m'_1/\R (tuple (Array.mk [slice none 0 0,int i64 2])) m'' []) (∃(Y:Nat->Prop),∃(R_2:Value->Mem->List (List Value)->List Value->
 Prop),CXY Try.prog 44 (Array.mk [v,v_1,int i64 0,int i64 p2]) m'_1 Y [] [] R_2/\(∀(t:Tok),t∈[]->∀(b:Nat),Tok.blk t=some b->Y b)/\(∀(b_2:Nat),Y b_2->(∃(t:Tok),t∈[]/\Tok.blk t=some b_2)\/
 (Mem.free m b_2/\Mem.k m b_2=none)/\((∃(o:Nat),∃(v:Value),m'_1 b_2 o=some v)\/∃(e:List (Value×Value)),Mem.k m'_1 b_2=some e)/\b≠b_2/\True)/\(∀(v:Value)(m':Mem) (css:List (List Value))
 (tvs:List Value),R_2 v m' css tvs->Shape.fits Shape.slice v=true)/\∀(a:Option Addr)(n c:Nat)(m':Mem),Mem.le (Mem.off m'_1 Y) m'->(NewM m'_1 m' λ(b:Nat)=>Y b\/Mem.free m'_1 b)->R_2 (slice a n
 c) m' [] []->∃(R_3:RT),True/\CX Try.prog 43 (Array.mk [slice a n c]) m' [] R_3/\Zaz Shape.slice R_3/\∀(a:Option Addr)(n c:Nat)(m'_2:Mem),Mem.le m' m'_2->R_3 (slice a n c) m'_2 []->∃(m'':Mem),
 Mem.le m m''/\Mem.le m'' m'_2/\R (tuple (Array.mk [slice a n c,int i64 0])) m'' []))
theorem ZkR(aG aD aI aJ aK aE aH:Int)(aB:Option Addr)(aA aC:Nat)(p1a:Option Addr)(p1n p1c:Nat)(p2:Int)(m:Mem)(R:RT)(h:Zhh aG aD aI aJ aK aE aH aB aA aC p1a p1n p1c p2 m R):CX Try.prog 14 #[.agg #[.int .u8 aG,.int .u64 aD,.int .u64 aI,.int .u64 aJ,.int .u64 aK,.int .i64 aE,.int .i64 aH,.slice aB aA aC],.slice p1a p1n p1c,.int .i64 p2] m [] R:=
 Zaj (E:=ZmF) ZaA mix Try.func14 [.v (.agg #[.int .u8 aG,.int .u64 aD,.int .u64 aI,.int .u64 aJ,.int .u64 aK,.int .i64 aE,.int .i64 aH,.slice aB aA aC]),.v (.slice p1a p1n p1c),.v (.int .i64 p2)] [] (by kernel_rfl) (Eq.mp (by kernel_rfl) h)
noncomputable def ZmG:Env:={ EB with
 frzNew:=[2]
 thaw:=true
 lentC:=(λi=>bif Nat.beq i 21 then some []else bif Nat.beq i 30 then some []else none) }
def Zhi(aG aD aI aJ aK aE aH:Int)(aB:Option Addr)(aA aC:Nat)(p1a:Option Addr)(p1n p1c:Nat)(m:Mem)(R:RT):Prop:=
 ∀(b:Nat)(m':Mem),Mem.le m m'->Mem.reads m' b 0 [int u8 aG,int u64 aD,int u64 aI,int u64 aJ,int u64 aK,int i64 aE,int i64 aH,slice aB aA aC]->Mem.free m b->(∀(b' o:Nat) (u:
 Value),m' b' o=some u->m b' o=some u\/b'=b)->∃(R_1:RT),True/\CX Try.prog 42 (Array.mk [agg (Array.mk [int u8 aG,int u64 aD,int u64 aI,int u64 aJ,int u64 aK,int i64 aE,int i64 aH,slice
 aB aA aC]),slice p1a p1n p1c]) m' [] R_1/\Zaz (Shape.tup [Shape.any,Shape.any,Shape.int i64]) R_1/\∀(v v_1:Value)(n:Int)(m'_1:Mem),Mem.le m' m'_1->R_1 (tuple (Array.mk [v,v_1,int i64 n]))
 m'_1 []->br (!n == (0:Int)) (∃(m'':Mem),Mem.le m m''/\Mem.le m'' m'_1/\R (tuple (Array.mk [slice none 0 0,int i64 n])) m'' []) (∃(Y:Nat->Prop),∃(R_2:Value->Mem->List (List Value)->List Value->
 Prop),CXY Try.prog 44 (Array.mk [v,v_1,int i64 0,int i64 0]) m'_1 Y [] [] R_2/\(∀(t:Tok),t∈[]->∀(b:Nat),Tok.blk t=some b->Y b)/\(∀(b_1:Nat),Y b_1->(∃(t:Tok),t∈[]/\Tok.blk t=some b_1)\/
 (Mem.free m b_1/\Mem.k m b_1=none)/\((∃(o:Nat),∃(v:Value),m'_1 b_1 o=some v)\/∃(e:List (Value×Value)),Mem.k m'_1 b_1=some e)/\b≠b_1/\True)/\(∀(v:Value)(m':Mem) (css:List (List Value))
 (tvs:List Value),R_2 v m' css tvs->Shape.fits Shape.slice v=true)/\∀(a:Option Addr)(n c:Nat)(m':Mem),Mem.le (Mem.off m'_1 Y) m'->(NewM m'_1 m' λ(b:Nat)=>Y b\/Mem.free m'_1 b)->R_2 (slice a n
 c) m' [] []->∃(R_3:RT),True/\CX Try.prog 45 (Array.mk [slice a n c,int i64 (↑p1n:Int)]) m' [] R_3/\Zaz Shape.bool R_3/\∀(b_1:Bool)(m'_2:Mem),Mem.le m' m'_2->R_3 (bool b_1) m'_2 []->br (!b_1) (∃(m''
 : Mem),Mem.le m m''/\Mem.le m'' m'_2/\R (tuple (Array.mk [slice none 0 0,int i64 141])) m'' []) (∃(Y:Nat->Prop),∃(R_4:Value->Mem->List (List Value)->List Value->Prop),CXY Try.prog 46 (Array.mk [v,v_1,
 int i64 0,int i64 (↑p1n:Int)]) m'_2 Y [] [] R_4/\(∀(t:Tok),t∈[]->∀(b:Nat),Tok.blk t=some b->Y b)/\(∀(b_2:Nat),Y b_2->(∃(t:Tok),t∈[]/\Tok.blk t=some b_2)\/(Mem.free m b_2/\Mem.k m b_2 =
 none)/\((∃(o:Nat),∃(v:Value),m'_2 b_2 o=some v)\/∃(e:List (Value×Value)),Mem.k m'_2 b_2=some e)/\b≠b_2/\True)/\(∀(v:Value)(m':Mem) (css:List (List Value)) (tvs:List Value),R_4 v m'
 css tvs->Shape.fits (Shape.int i64) v=true)/\∀(n:Int)(m':Mem),Mem.le (Mem.off m'_2 Y) m'->(NewM m'_2 m' λ(b:Nat)=>Y b\/Mem.free m'_2 b)->R_4 (int i64 n) m' [] []->chk (Zct v) (chk (Zct v) (∃
 (v_2:Value),m' (ZjU v) (ZjV v+2)=some v_2/\∃(m'':Mem),Mem.le m m''/\Mem.le m'' m'/\R (tuple (Array.mk [v_2,int i64 0])) m'' []))))
theorem ZkS(aG aD aI aJ aK aE aH:Int)(aB:Option Addr)(aA aC:Nat)(p1a:Option Addr)(p1n p1c:Nat)(m:Mem)(R:RT)(h:Zhi aG aD aI aJ aK aE aH aB aA aC p1a p1n p1c m R):CX Try.prog 15 #[.agg #[.int .u8 aG,.int .u64 aD,.int .u64 aI,.int .u64 aJ,.int .u64 aK,.int .i64 aE,.int .i64 aH,.slice aB aA aC],.slice p1a p1n p1c] m [] R:=
 Zaj (E:=ZmG) ZaA mix Try.func15 [.v (.agg #[.int .u8 aG,.int .u64 aD,.int .u64 aI,.int .u64 aJ,.int .u64 aK,.int .i64 aE,.int .i64 aH,.slice aB aA aC]),.v (.slice p1a p1n p1c)] [] (by kernel_rfl) (Eq.mp (by kernel_rfl) h)
noncomputable def ZkT:Env:={ EB with
 frzNew:=[2]
 thaw:=true
 lentC:=(λi=>bif Nat.beq i 27 then some []else bif Nat.beq i 36 then some []else none) }
def Zgb(aG aD aI aJ aK aE aH:Int)(aB:Option Addr)(aA aC:Nat)(p1a:Option Addr)(p1n p1c:Nat)(m:Mem)(R:RT):Prop:=
 ∀(b:Nat)(m':Mem),Mem.le m m'->Mem.reads m' b 0 [int u8 aG,int u64 aD,int u64 aI,int u64 aJ,int u64 aK,int i64 aE,int i64 aH,slice aB aA aC]->Mem.free m b->(∀(b' o:Nat) (u:
 Value),m' b' o=some u->m b' o=some u\/b'=b)->∃(R_1:RT),True/\CX Try.prog 42 (Array.mk [agg (Array.mk [int u8 aG,int u64 aD,int u64 aI,int u64 aJ,int u64 aK,int i64 aE,int i64 aH,slice
 aB aA aC]),slice p1a p1n p1c]) m' [] R_1/\Zaz (Shape.tup [Shape.any,Shape.any,Shape.int i64]) R_1/\∀(v v_1:Value)(n:Int)(m'_1:Mem),Mem.le m' m'_1->R_1 (tuple (Array.mk [v,v_1,int i64 n]))
 m'_1 []->br (!n == (0:Int)) (∃(m'':Mem),Mem.le m m''/\Mem.le m'' m'_1/\R (tuple (Array.mk [int i64 0,int i64 n])) m'' []) (br (!aG == (5:Int)) (∃(m'':Mem),Mem.le m m''/\Mem.le m'' m'_1/\R (tuple
 (Array.mk [int i64 0,int i64 2])) m'' []) (∃(Y:Nat->Prop),∃(R_2:Value->Mem->List (List Value)->List Value->Prop),CXY Try.prog 44 (Array.mk [v,v_1,int i64 0,int i64 0]) m'_1 Y [] [] R_2/\(∀(t:Tok),t
 ∈ []->∀(b:Nat),Tok.blk t=some b->Y b)/\(∀(b_1:Nat),Y b_1->(∃(t:Tok),t∈[]/\Tok.blk t=some b_1)\/(Mem.free m b_1/\Mem.k m b_1=none)/\((∃(o:Nat),∃(v:Value),m'_1 b_1 o=some v)\/∃(e:
 List (Value×Value)),Mem.k m'_1 b_1=some e)/\b≠b_1/\True)/\(∀(v:Value)(m':Mem) (css:List (List Value)) (tvs:List Value),R_2 v m' css tvs->Shape.fits Shape.slice v=true)/\∀(a:Option Addr) (n c
 : Nat) (m':Mem),Mem.le (Mem.off m'_1 Y) m'->(NewM m'_1 m' λ(b:Nat)=>Y b\/Mem.free m'_1 b)->R_2 (slice a n c) m' [] []->∃(R_3:RT),True/\CX Try.prog 45 (Array.mk [slice a n c,int i64 (↑p1n:Int)]) m'
 [] R_3/\Zaz Shape.bool R_3/\∀(b_1:Bool)(m'_2:Mem),Mem.le m' m'_2->R_3 (bool b_1) m'_2 []->br (!b_1) (∃(m'':Mem),Mem.le m m''/\Mem.le m'' m'_2/\R (tuple (Array.mk [int i64 0,int i64 141])) m'' []) (∃
 (Y:Nat->Prop),∃(R_4:Value->Mem->List (List Value)->List Value->Prop),CXY Try.prog 46 (Array.mk [v,v_1,int i64 0,int i64 (↑p1n:Int)]) m'_2 Y [] [] R_4/\(∀(t:Tok),t∈[]->∀(b:Nat),Tok.blk t =
 some b->Y b)/\(∀(b_2:Nat),Y b_2->(∃(t:Tok),t∈[]/\Tok.blk t=some b_2)\/(Mem.free m b_2/\Mem.k m b_2=none)/\((∃(o:Nat),∃(v:Value),m'_2 b_2 o=some v)\/∃(e:List (Value×Value)),Mem.k
 m'_2 b_2=some e)/\b≠b_2/\True)/\(∀(v:Value)(m':Mem) (css:List (List Value)) (tvs:List Value),R_4 v m' css tvs->Shape.fits (Shape.int i64) v=true)/\∀(n:Int)(m':Mem),Mem.le (Mem.off m'_2 Y) m'
 -> (NewM m'_2 m' λ(b:Nat)=>Y b\/Mem.free m'_2 b)->R_4 (int i64 n) m' [] []->∃(m'':Mem),Mem.le m m''/\Mem.le m'' m'/\R (tuple (Array.mk [int i64 n,int i64 0])) m'' [])))
theorem Zi9(aG aD aI aJ aK aE aH:Int)(aB:Option Addr)(aA aC:Nat)(p1a:Option Addr)(p1n p1c:Nat)(m:Mem)(R:RT)(h:Zgb aG aD aI aJ aK aE aH aB aA aC p1a p1n p1c m R):CX Try.prog 17 #[.agg #[.int .u8 aG,.int .u64 aD,.int .u64 aI,.int .u64 aJ,.int .u64 aK,.int .i64 aE,.int .i64 aH,.slice aB aA aC],.slice p1a p1n p1c] m [] R:=
 Zaj (E:=ZkT) ZaA mix Try.func17 [.v (.agg #[.int .u8 aG,.int .u64 aD,.int .u64 aI,.int .u64 aJ,.int .u64 aK,.int .i64 aE,.int .i64 aH,.slice aB aA aC]),.v (.slice p1a p1n p1c)] [] (by kernel_rfl) (Eq.mp (by kernel_rfl) h)
noncomputable def Zic:Env:={ EB with
 loops:=(λi=>bif Nat.beq i 6 then⟨[(8,.slice),(25,.int .i64)],[],[(40,1)],false⟩ else⟨[],[],[],false⟩)
 tokOf:=(λi=>bif Nat.beq i 40 then 40 else 0)
 frzNew:=[2] }
def Zey(aG aD aI aJ aK aE aH:Int)(aB:Option Addr)(aA aC:Nat)(p1a:Option Addr)(p1n p1c:Nat)(m:Mem)(R:RT):Prop:=
 ∀(b:Nat)(m':Mem),Mem.le m m'->Mem.reads m' b 0 [int u8 aG,int u64 aD,int u64 aI,int u64 aJ,int u64 aK,int i64 aE,int i64 aH,slice aB aA aC]->∃(R_1:RT),True/\CX Try.prog 15
 (Array.mk [agg (Array.mk [int u8 aG,int u64 aD,int u64 aI,int u64 aJ,int u64 aK,int i64 aE,int i64 aH,slice aB aA aC]),slice p1a p1n p1c]) m' [] R_1/\Zaz (Shape.tup [Shape.slice,
 Shape.int i64]) R_1/\∀(a:Option Addr)(n c:Nat)(ai:Int)(ac:Mem),Mem.le m' ac->R_1 (tuple (Array.mk [slice a n c,int i64 ai])) ac []->br (!ai == (0:Int)) (∃(m'':Mem),Mem.le m m''/\Mem.le m'' ac/\R
 (tuple (Array.mk [slice none 0 0,int i64 ai])) m'' []) (∃(bs:ByteArray),ByteArray.size bs=p1n/\rowRd ac p1a (ZaG bs)/\∀(ad:Nat),Mem.free ac ad->∃(I:IT),(∃(n:Nat),I [slice (some (Addr.mk ad 0
 none)) 1 1,int i64 0] [] [slice none 0 0] (Mem.add ac ad [string bs]) n)/\∀(ae:Option Addr)(ab c:Nat)(af:Int)(ak:Option Addr)(al am:Nat)(m':Mem)(an:Nat),Mem.le (Mem.add ac ad [string bs]) m'->I
 [slice ae ab c,int i64 af] [] [slice ak al am] m' an->br (decide (af < (↑n:Int))) (∃(ao:Nat),∃(o:Nat),a=some (Addr.mk ao o none)/\Zag af n/\∃(v:Value),∃(aa:Value),Mem.reads m' ao (o +
 Int.toNat af*2) [v,aa]/\∀(ap:Nat),chk (Value.oneCell' v&&(Value.oneCell' aa&&true)) (chk (ZaO i64 v&&decide (i64=i64)) (chk (ZaO i64 aa&&decide (i64=i64)) ((((0:Int)<=if(0:Int) >
 RowKit.intOf aa then(0:Int)else RowKit.intOf aa)/\(if(0:Int) > RowKit.intOf aa then(0:Int)else RowKit.intOf aa)<=(↑p1c:Int))/\(((0:Int)<=if(0:Int) > RowKit.intOf v then(0:Int)else RowKit.intOf
 v)/\(if(0:Int) > RowKit.intOf v then(0:Int)else RowKit.intOf v)<=(↑(Int.toNat (if(0:Int) > RowKit.intOf aa then(0:Int)else RowKit.intOf aa)):Int))/\∃(ag:ByteArray),ByteArray.size ag=Int.toNat
 (if(0:Int) > RowKit.intOf aa then(0:Int)else RowKit.intOf aa) - Int.toNat (if(0:Int) > RowKit.intOf v then(0:Int)else RowKit.intOf v)/\rowRd m' (ZaW p1a (Int.toNat (if(0:Int) > RowKit.intOf v then
 (0:Int)else RowKit.intOf v)) p1c 1) (ZaG ag)/\∀(ah:Nat),Mem.free m' ah->(Tok.mk (slice ak al am) 1=Tok.mk (slice ae ab c) 1\/slice ae ab c=slice none 0 0\/c < ab+1)/\∃(xs:List Value),∃(ys:
 List Value),List.length xs=ab*1/\List.length ys=1*1/\rowRd (Mem.add m' ah [string ag]) ae xs/\rowRd (Mem.add m' ah [string ag]) (some (Addr.mk ah 0 none)) ys/\(∀(u:Value),u∈ys->Value.oneCell' u =
 true)/\(ab+1)*16<=140737488355328/\ab+1<=9223372036854775807/\∀(a':Option Addr)(c':Nat)(aj:Mem),Mem.le (Mem.add m' ah [string ag]) aj->rowRd aj a' (List.append xs ys)->[some (Box.mk ad [string bs]
 9 1 true true),some (Box.mk b [int u8 aG,int u64 aD,int u64 aI,int u64 aJ,int u64 aK,int i64 aE,int i64 aH,slice aB aA aC] 29 8 true true)]=[some (Box.mk ad [string bs] 9 1 true true),
 some (Box.mk b [int u8 aG,int u64 aD,int u64 aI,int u64 aJ,int u64 aK,int i64 aE,int i64 aH,slice aB aA aC] 29 8 true true)]/\∃(n':Nat),n' < an/\I [slice a' (ab+1) c',int i64
 (IntKind.wrap i64 (af+(1:Int)))] [] [slice a' (ab+1) c'] aj n')))) (∃(m'':Mem),Mem.le m m''/\Mem.le m'' m'/\R (tuple (Array.mk [slice ae ab c,int i64 0])) m'' []))
theorem Zhv(aG aD aI aJ aK aE aH:Int)(aB:Option Addr)(aA aC:Nat)(p1a:Option Addr)(p1n p1c:Nat)(m:Mem)(R:RT)(h:Zey aG aD aI aJ aK aE aH aB aA aC p1a p1n p1c m R):CX Try.prog 16 #[.agg #[.int .u8 aG,.int .u64 aD,.int .u64 aI,.int .u64 aJ,.int .u64 aK,.int .i64 aE,.int .i64 aH,.slice aB aA aC],.slice p1a p1n p1c] m [] R:=
 Zaj (E:=Zic) ZaA mix Try.func16 [.v (.agg #[.int .u8 aG,.int .u64 aD,.int .u64 aI,.int .u64 aJ,.int .u64 aK,.int .i64 aE,.int .i64 aH,.slice aB aA aC]),.v (.slice p1a p1n p1c)] [] (by kernel_rfl) (Eq.mp (by kernel_rfl) h)
end Go.Proofs.Ytgclajkldphoaaa
set_option linter.unusedVariables false
namespace Go.Proofs.Ytgclajkldphoaaa
open Go Go.Eng Go.Proofs Go.RowKit
open Go.Value (int slice agg bool string tuple func)
open Go.IntKind (u8 u64 i64)
set_option maxRecDepth 100000
noncomputable def Zel:Env:={ EB with
 last:=(λi=>bif Nat.beq i 1 then true else false)
 mix:=(λi=>bif Nat.beq i 1 then some ([0,1,2,3,5],[4,6,7])else none)
 thaw:=true
 lentC:=(λi=>bif Nat.beq i 11 then some []else none) }
def Zck(p0:Int)(c0b c0o c1b c1o c2b c2o c3b c3o:Nat)(m:Mem)(Y:Nat->Prop)(R:RTY):Prop:=
 ∃(v:Value),(Mem.off m Y) c0b c0o=some v/\∃(v_1:Value),(Mem.off m Y) c1b c1o=some v_1/\∃(v_2:Value),(Mem.off m Y) c2b c2o=some v_2/\∃(v_3:Value),(Mem.off m Y) c3b c3o=some v_3/\∃(Y_1:Nat->
 Prop),∃(R_1:Value->Mem->List (List Value)->List Value->Prop),CXY Try.prog 44 (Array.mk [v,v_1,v_2,int i64 p0]) m Y_1 [] [] R_1/\(∀(t:Tok),t∈[]->∀(b:Nat),Tok.blk t=some b->Y_1 b)/\(∀(b:
 Nat),Y_1 b->(∃(t:Tok),t∈[]/\Tok.blk t=some b)\/(Mem.free (Mem.off m Y) b/\Mem.k (Mem.off m Y) b=none)/\((∃(o:Nat),∃(v:Value),m b o=some v)\/∃(e:List (Value×Value)),Mem.k m b=some e)/\
 True)/\(∀(v:Value)(m':Mem) (css:List (List Value)) (tvs:List Value),R_1 v m' css tvs->Shape.fits Shape.slice v=true)/\∀(a:Option Addr)(n c:Nat)(m':Mem),Mem.le (Mem.off m Y_1) m'->(NewM m m'
 λ(b:Nat)=>Y_1 b\/Mem.free m b)->R_1 (slice a n c) m' [] []->∃(R_2:RT),True/\CX Try.prog 45 (Array.mk [slice a n c,v_3]) m' [] R_2/\Zaz Shape.bool R_2/\∀(b:Bool)(m'_1:Mem),Mem.le m' m'_1->R_2
 (bool b) m'_1 []->R (bool b) m'_1 [] []
theorem Zdv(p0:Int)(c0b c0o c1b c1o c2b c2o c3b c3o:Nat)(m:Mem)(Y:Nat->Prop)(R:RTY)(h:Zck p0 c0b c0o c1b c1o c2b c2o c3b c3o m Y R):CXY Try.prog 94 #[.int .i64 p0,.pointer (some ⟨c0b,c0o,none⟩),.pointer (some ⟨c1b,c1o,none⟩),.pointer (some ⟨c2b,c2o,none⟩),.pointer (some ⟨c3b,c3o,none⟩)] m Y [] [] R:=
 Zcc (E:=Zel) ZaA mix Try.func94 [.v (.int .i64 p0),.v (.pointer (some ⟨c0b,c0o,none⟩)),.v (.pointer (some ⟨c1b,c1o,none⟩)),.v (.pointer (some ⟨c2b,c2o,none⟩)),.v (.pointer (some ⟨c3b,c3o,none⟩))] [] [] [] (by decide) (by kernel_rfl) (Eq.mp (by kernel_rfl) h)
noncomputable def Zcp:Env:={ EB with
 loops:=(λi=>bif Nat.beq i 2 then⟨[(8,.int .i64)],[],[],false⟩ else⟨[],[],[],false⟩)
 thaw:=true
 lentC:=(λi=>bif Nat.beq i 16 then some []else none) }
def Zbh(p0a:Option Addr)(p0n p0c p1g:Nat)(p1fi p1ca:List Value)(m:Mem)(Y:Nat->Prop)(R:RTY):Prop:=
 ∃(I:IT),(∃(n:Nat),I [int i64 0] [] [] m n)/\∀(n:Int)(m':Mem)(n_1:Nat),True->I [int i64 n] [] [] m' n_1->br (decide (n < (↑p0n:Int))) (∃(b:Nat),∃(o:Nat),p0a=some (Addr.mk b o none)/\
 Zag n p0n/\∃(v:Value),m' b (o+Int.toNat n*1)=some v/\∃(Y_1:Nat->Prop),∃(R_1:Value->Mem->List (List Value)->List Value->Prop),CXY Try.prog p1g (Array.mk (List.append (List.append p1fi [v])
 p1ca)) m' Y_1 [] [] R_1/\(∀(t:Tok),t∈[]->∀(b:Nat),Tok.blk t=some b->Y_1 b)/\(∀(b:Nat),Y_1 b->(∃(t:Tok),t∈[]/\Tok.blk t=some b)\/(Mem.free (Mem.off m Y) b/\Mem.k (Mem.off m Y) b=none)/\
 ((∃(o:Nat),∃(v:Value),m' b o=some v)\/∃(e:List (Value×Value)),Mem.k m' b=some e)/\True)/\(∀(v:Value)(m':Mem) (css:List (List Value)) (tvs:List Value),R_1 v m' css tvs->Shape.fits
 Shape.bool v=true)/\∀(b:Bool)(m'_1:Mem),Mem.le (Mem.off m' Y_1) m'_1->(NewM m' m'_1 λ(b:Nat)=>Y_1 b\/Mem.free m' b)->R_1 (bool b) m'_1 [] []->br b (R (int i64 n) m'_1 [] []) (∃(n':Nat),n' < n_1
 /\ I [int i64 (IntKind.wrap i64 (n+(1:Int)))] [] [] m'_1 n')) (R (int i64 (-1:Int)) m' [] [])
theorem ZbW(p0a:Option Addr)(p0n p0c p1g:Nat)(p1fi p1ca:List Value)(m:Mem)(Y:Nat->Prop)(R:RTY)(h:Zbh p0a p0n p0c p1g p1fi p1ca m Y R):CXY Try.prog 93 #[.slice p0a p0n p0c,.func (.func p1g) p1fi.toArray p1ca.toArray] m Y [] [] R:=
 Zcc (E:=Zcp) ZaA mix Try.func93 [.v (.slice p0a p0n p0c),.v (.func (.func p1g) p1fi.toArray p1ca.toArray)] [] [] [] (by decide) (by kernel_rfl) (Eq.mp (by kernel_rfl) h)
noncomputable def Zft:Env:={ EB with
 frzNew:=[5,7,8,9]
 thaw:=true
 kF:=true
 lentC:=(λi=>bif Nat.beq i 14 then some []else none) }
def ZcP(p0b p0o:Nat)(p1a:Option Addr)(p1n p1c p2b p2o:Nat)(p3 p4:Int)(m:Mem)(Y:Nat->Prop)(R:RTY):Prop:=
 ∀(b:Nat)(m':Mem),Mem.le m m'->Mem.reads m' b 0 [Value.pointer (some (Addr.mk p0b p0o none))]->Mem.free m b->(∀(b' o:Nat)(u:Value),m' b' o=some u->m b' o=some u\/b'=b)->Mem.k m b=none->∀(b_1
 : Nat) (m'_1:Mem),Mem.le m' m'_1->Mem.reads m'_1 b_1 0 [Value.pointer (some (Addr.mk p2b p2o none))]->Mem.free m' b_1->(∀(b' o:Nat)(u:Value),m'_1 b' o=some u->m' b' o=some u\/b'=b_1)->Mem.k m' b_1
 = none->∀(b_2:Nat)(m':Mem),Mem.le m'_1 m'->Mem.reads m' b_2 0 [int i64 p3]->Mem.free m'_1 b_2->(∀(b' o:Nat)(u:Value),m' b' o=some u->m'_1 b' o=some u\/b'=b_2)->Mem.k m'_1 b_2=none->∀(b_3:
 Nat) (m'_2:Mem),Mem.le m' m'_2->Mem.reads m'_2 b_3 0 [int i64 p4]->Mem.free m' b_3->(∀(b' o:Nat)(u:Value),m'_2 b' o=some u->m' b' o=some u\/b'=b_3)->Mem.k m' b_3=none->∃(Y_1:Nat->Prop),∃
 (R_1:Value->Mem->List (List Value)->List Value->Prop),CXY Try.prog 93 (Array.mk [slice p1a p1n p1c,func (Fn.func 94) (Array.mk []) (Array.mk [Value.pointer (some (Addr.mk b 0 none)),Value.pointer (some (Addr.mk
 b_1 0 none)),Value.pointer (some (Addr.mk b_2 0 none)),Value.pointer (some (Addr.mk b_3 0 none))])]) m'_2 Y_1 [] [] R_1/\(∀(t:Tok),t∈[]->∀(b:Nat),Tok.blk t=some b->Y_1 b)/\(∀(b_4:Nat),Y_1 b_4->(∃
 (t:Tok),t∈[]/\Tok.blk t=some b_4)\/(Mem.free (Mem.off m Y) b_4/\Mem.k (Mem.off m Y) b_4=none)/\((∃(o:Nat),∃(v:Value),m'_2 b_4 o=some v)\/∃(e:List (Value×Value)),Mem.k m'_2 b_4=some e)/\
 b_3≠b_4/\b_2≠b_4/\b_1≠b_4/\b≠b_4/\True)/\(∀(v:Value)(m':Mem) (css:List (List Value)) (tvs:List Value),R_1 v m' css tvs->Shape.fits (Shape.int i64) v=true)/\∀(n:Int)(m':Mem),Mem.le
 (Mem.off m'_2 Y_1) m'->(NewM m'_2 m' λ(b:Nat)=>Y_1 b\/Mem.free m'_2 b)->R_1 (int i64 n) m' [] []->br (decide (n < (0:Int))) (R (int i64 (-1:Int)) m' [] []) (∃(b:Nat),∃(o:Nat),p1a=some (Addr.mk b
 o none)/\Zag n p1n/\∃(v:Value),m' b (o+Int.toNat n*1)=some v/\R v m' [] [])
theorem Zem(p0b p0o:Nat)(p1a:Option Addr)(p1n p1c p2b p2o:Nat)(p3 p4:Int)(m:Mem)(Y:Nat->Prop)(R:RTY)(h:ZcP p0b p0o p1a p1n p1c p2b p2o p3 p4 m Y R):CXY Try.prog 74 #[.pointer (some ⟨p0b,p0o,none⟩),.slice p1a p1n p1c,.pointer (some ⟨p2b,p2o,none⟩),.int .i64 p3,.int .i64 p4] m Y [] [] R:=
 Zcc (E:=Zft) ZaA mix Try.func74 [.v (.pointer (some ⟨p0b,p0o,none⟩)),.v (.slice p1a p1n p1c),.v (.pointer (some ⟨p2b,p2o,none⟩)),.v (.int .i64 p3),.v (.int .i64 p4)] [] [] [] (by decide) (by kernel_rfl) (Eq.mp (by kernel_rfl) h)
noncomputable def ZfU:Env:={ EB with
 loops:=(λi=>bif Nat.beq i 7 then⟨[(55,.int .i64)],[],[],false⟩ else bif Nat.beq i 14 then⟨[(2,.int .i64),(78,.int .i64)],[],[],false⟩ else bif Nat.beq i 22 then⟨[(2,.int .i64),(14,.int .i64),(15,.int .i64)],[],[],false⟩ else⟨[],[],[],false⟩)
 dr:=(λi=>bif Nat.beq i 3 then[⟨0,[],[],none,[],[]⟩,⟨1,[],[],none,[0],[]⟩,⟨2,[],[],none,[0,1],[]⟩,⟨3,[],[],none,[0,1,2],[]⟩,⟨4,[],[],none,[],[]⟩,⟨5,[],[],none,[4],[]⟩,⟨6,[],[],none,[4,5],[]⟩,⟨7,[],[],none,[4,5,6],[]⟩,⟨8,[],[],none,[],[]⟩,⟨9,[],[],none,[],[]⟩,⟨10,[],[],none,[8,9],[]⟩,⟨11,[],[],none,[0,1,2,3,4,5,6,7,8,9,10],[]⟩]else[])
 thaw:=true
 stAt:=(λi=>bif Nat.beq i 37 then some 999 else none)
 last:=(λi=>bif Nat.beq i 3 then true else false)
 lastK:=(λi=>bif Nat.beq i 3 then 1 else 1)
 lentC:=(λi=>bif Nat.beq i 47 then some []else bif Nat.beq i 62 then some []else bif Nat.beq i 69 then some []else bif Nat.beq i 87 then some []else bif Nat.beq i 92 then some []else bif Nat.beq i 97 then some []else bif Nat.beq i 113 then some []else bif Nat.beq i 117 then some []else bif Nat.beq i 130 then some []else none) }
def Zc6(p0b p0o p1b p1o:Nat)(p2 p3:Int)(m:Mem)(Y:Nat->Prop)(R:RTY):Prop:=
 ∃(v:Value),m p1b (p1o+0+0)=some v/\chk (ZaO u8 v&&decide (u8=u8)) (br (RowKit.intOf v == (6:Int)) (∃(v:Value),m p0b (p0o+2)=some v/\∃(af:Value),m p1b (p1o+9)=some af/\chk (Zbn
 af) (chk (Zeq v) (∃(b:Nat),∃(o:Nat),slA v=some (Addr.mk b o none)/\Zag (RowKit.intOf af) (slN v)/\(∃(vs:List Value),List.length vs=2/\Mem.reads m b (o+Int.toNat (RowKit.intOf af)*2) vs)/\
 Mem.free (Mem.off m Y) b/\true=true/\∃(v:Value),(Mem.upd m b (o+Int.toNat (RowKit.intOf af)*2) [int i64 p2,int i64 p3]) p1b (p1o+10)=some v/\chk (Zeq v) (∃(am:Nat),∃(an:Nat),slA v=some
 (Addr.mk am an none)/\Zag (0:Int) (slN v)/\∃(v:Value),(Mem.upd m b (o+Int.toNat (RowKit.intOf af)*2) [int i64 p2,int i64 p3]) am (an+0)=some v/\∃(ab:Nat->Prop),∃(R_1:Value->Mem->List
 (List Value)->List Value->Prop),CXY Try.prog 46 (Array.mk [Value.pointer (some (Addr.mk p0b p0o none)),v,int i64 p2,int i64 p3]) (Mem.upd m b (o+Int.toNat (RowKit.intOf af)*2) [int i64 p2,int i64 p3]) ab []
 [] R_1/\(∀(t:Tok),t∈[]->∀(b:Nat),Tok.blk t=some b->ab b)/\(∀(ah:Nat),ab ah->(∃(t:Tok),t∈[]/\Tok.blk t=some ah)\/(Mem.free (Mem.off m Y) ah/\Mem.k (Mem.off m Y) ah=none)/\((∃(ap:
 Nat),∃(v:Value),(Mem.upd m b (o+Int.toNat (RowKit.intOf af)*2) [int i64 p2,int i64 p3]) ah ap=some v)\/∃(e:List (Value×Value)),Mem.k (Mem.upd m b (o+Int.toNat (RowKit.intOf af)*2) [int i64 p2,int
 i64 p3]) ah=some e)/\True)/\(∀(v:Value)(m':Mem) (css:List (List Value)) (tvs:List Value),R_1 v m' css tvs->Shape.fits (Shape.int i64) v=true)/\∀(n:Int)(m':Mem),Mem.le (Mem.off (Mem.upd m b (o +
 Int.toNat (RowKit.intOf af)*2) [int i64 p2,int i64 p3]) ab) m'->(NewM (Mem.upd m b (o+Int.toNat (RowKit.intOf af)*2) [int i64 p2,int i64 p3]) m' λ(ah:Nat)=>ab ah\/Mem.free (Mem.upd m b (o+Int.toNat
 (RowKit.intOf af)*2) [int i64 p2,int i64 p3]) ah)->R_1 (int i64 n) m' [] []->R (int i64 0) m' [] [])))) (chk (ZaO u8 v&&decide (u8=u8)) (br (RowKit.intOf v == (4:Int)) (∃(v:Value),m p1b (p1o+10) =
 some v/\chk (Zeq v) (∃(I:IT),(∃(n:Nat),I [int i64 0] [] [] m n)/\∀(n:Int)(m':Mem)(ae:Nat),True->I [int i64 n] [] [] m' ae->br (decide (n < (↑(slN v):Int))) (chk (Zeq v) (∃(b:Nat),∃(o:
 Nat),slA v=some (Addr.mk b o none)/\Zag n (slN v)/\∃(v:Value),m' b (o+Int.toNat n*1)=some v/\∃(ab:Nat->Prop),∃(R_1:Value->Mem->List (List Value)->List Value->Prop),CXY Try.prog 44
 (Array.mk [Value.pointer (some (Addr.mk p0b p0o none)),v,int i64 0,int i64 p2]) m' ab [] [] R_1/\(∀(t:Tok),t∈[]->∀(b:Nat),Tok.blk t=some b->ab b)/\(∀(b:Nat),ab b->(∃(t:Tok),t∈[]/\Tok.blk t
 = some b)\/(Mem.free (Mem.off m Y) b/\Mem.k (Mem.off m Y) b=none)/\((∃(o:Nat),∃(v:Value),m' b o=some v)\/∃(e:List (Value×Value)),Mem.k m' b=some e)/\True)/\(∀(v:Value)(m':Mem) (css:List
 (List Value)) (tvs:List Value),R_1 v m' css tvs->Shape.fits Shape.slice v=true)/\∀(a:Option Addr)(ai c:Nat)(aa:Mem),Mem.le (Mem.off m' ab) aa->(NewM m' aa λ(b:Nat)=>ab b\/Mem.free m' b)->R_1
 (slice a ai c) aa [] []->∃(R_2:RT),True/\CX Try.prog 45 (Array.mk [slice a ai c,int i64 p3]) aa [] R_2/\Zaz Shape.bool R_2/\∀(b:Bool)(m':Mem),Mem.le aa m'->R_2 (bool b) m' []->br b (∃(ad:Nat->
 Prop),∃(R_3:Value->Mem->List (List Value)->List Value->Prop),CXY Try.prog 46 (Array.mk [Value.pointer (some (Addr.mk p0b p0o none)),v,int i64 p2,int i64 p3]) m' ad [] [] R_3/\(∀(t:Tok),t∈[]->∀(b:
 Nat),Tok.blk t=some b->ad b)/\(∀(b:Nat),ad b->(∃(t:Tok),t∈[]/\Tok.blk t=some b)\/(Mem.free (Mem.off m Y) b/\Mem.k (Mem.off m Y) b=none)/\((∃(o:Nat),∃(v:Value),m' b o=some v)\/∃(e:
 List (Value×Value)),Mem.k m' b=some e)/\True)/\(∀(v:Value)(m':Mem) (css:List (List Value)) (tvs:List Value),R_3 v m' css tvs->Shape.fits (Shape.int i64) v=true)/\∀(n:Int)(ac:Mem),Mem.le
 (Mem.off m' ad) ac->(NewM m' ac λ(b:Nat)=>ad b\/Mem.free m' b)->R_3 (int i64 n) ac [] []->R (int i64 0) ac [] []) (∃(n':Nat),n' < ae/\I [int i64 (IntKind.wrap i64 (n+(1:Int)))] [] [] m' n'))) (R (int
 i64 0) m' [] []))) (chk (ZaO u8 v&&decide (u8=u8)) (br (RowKit.intOf v == (3:Int)) (∃(v:Value),m p1b (p1o+10)=some v/\chk (Zeq v) (∃(I:IT),(∃(n:Nat),I [int i64 p2,int i64 0] [] [] m n)/\∀(n
 ae:Int) (m':Mem) (ai:Nat),True->I [int i64 n,int i64 ae] [] [] m' ai->br (decide (ae < (↑(slN v):Int))) (chk (Zeq v) (∃(b:Nat),∃(o:Nat),slA v=some (Addr.mk b o none)/\Zag ae (slN v)/\∃(v:
 Value),m' b (o+Int.toNat ae*1)=some v/\∃(ab:Nat->Prop),∃(R:Value->Mem->List (List Value)->List Value->Prop),CXY Try.prog 44 (Array.mk [Value.pointer (some (Addr.mk p0b p0o none)),v,int i64 0,int
 i64 n]) m' ab [] [] R/\(∀(t:Tok),t∈[]->∀(b:Nat),Tok.blk t=some b->ab b)/\(∀(b:Nat),ab b->(∃(t:Tok),t∈[]/\Tok.blk t=some b)\/(Mem.free (Mem.off m Y) b/\Mem.k (Mem.off m Y) b=none)/\((∃
 (o:Nat),∃(v:Value),m' b o=some v)\/∃(e:List (Value×Value)),Mem.k m' b=some e)/\True)/\(∀(v:Value)(m':Mem) (css:List (List Value)) (tvs:List Value),R v m' css tvs->Shape.fits Shape.slice v
 = true)/\∀(a:Option Addr)(ak c:Nat)(aa:Mem),Mem.le (Mem.off m' ab) aa->(NewM m' aa λ(b:Nat)=>ab b\/Mem.free m' b)->R (slice a ak c) aa [] []->∃(ad:Nat->Prop),∃(R:Value->Mem->List (List
 Value)->List Value->Prop),CXY Try.prog 74 (Array.mk [Value.pointer (some (Addr.mk p0b p0o none)),slice a ak c,Value.pointer (some (Addr.mk p1b p1o none)),int i64 (IntKind.wrap i64 (ae+(1:Int))),int i64 p3])
 aa ad [] [] R/\(∀(t:Tok),t∈[]->∀(b:Nat),Tok.blk t=some b->ad b)/\(∀(b:Nat),ad b->(∃(t:Tok),t∈[]/\Tok.blk t=some b)\/(Mem.free (Mem.off m Y) b/\Mem.k (Mem.off m Y) b=none)/\((∃(o:
 Nat),∃(v:Value),aa b o=some v)\/∃(e:List (Value×Value)),Mem.k aa b=some e)/\True)/\(∀(v:Value)(m':Mem) (css:List (List Value)) (tvs:List Value),R v m' css tvs->Shape.fits (Shape.int i64) v
 = true)/\∀(aj:Int)(m':Mem),Mem.le (Mem.off aa ad) m'->(NewM aa m' λ(b:Nat)=>ad b\/Mem.free aa b)->R (int i64 aj) m' [] []->∃(ag:Nat->Prop),∃(R:Value->Mem->List (List Value)->List Value->
 Prop),CXY Try.prog 46 (Array.mk [Value.pointer (some (Addr.mk p0b p0o none)),v,int i64 n,int i64 aj]) m' ag [] [] R/\(∀(t:Tok),t∈[]->∀(b:Nat),Tok.blk t=some b->ag b)/\(∀(b:Nat),ag b->(∃(t:
 Tok),t∈[]/\Tok.blk t=some b)\/(Mem.free (Mem.off m Y) b/\Mem.k (Mem.off m Y) b=none)/\((∃(o:Nat),∃(v:Value),m' b o=some v)\/∃(e:List (Value×Value)),Mem.k m' b=some e)/\True)/\(∀(v:
 Value) (m':Mem) (css:List (List Value)) (tvs:List Value),R v m' css tvs->Shape.fits (Shape.int i64) v=true)/\∀(n:Int)(ac:Mem),Mem.le (Mem.off m' ag) ac->(NewM m' ac λ(b:Nat)=>ag b\/Mem.free m'
 b)->R (int i64 n) ac [] []->∃(n':Nat),n' < ai/\I [int i64 aj,int i64 (IntKind.wrap i64 (ae+(1:Int)))] [] [] ac n')) (R (int i64 0) m' [] []))) (chk (ZaO u8 v&&decide (u8=u8)) (br (RowKit.intOf v == (5
 : Int)) (∃(I:IT),(∃(n:Nat),I [int i64 p2,int i64 0,int i64 0] [] [] m n)/\∀(n ae ai:Int)(m':Mem)(ak:Nat),True->I [int i64 n,int i64 ae,int i64 ai] [] [] m' ak->∃(R_1:RT),True/\CX Try.prog
 75 (Array.mk [Value.pointer (some (Addr.mk p1b p1o none)),int i64 ae]) m' [] R_1/\Zaz (Shape.tup [Shape.int i64,Shape.bool]) R_1/\∀(aj:Int)(b:Bool)(aa:Mem),Mem.le m' aa->R_1 (tuple (Array.mk [int i64 aj,
 bool b])) aa []->∃(ab:Nat->Prop),∃(R_2:Value->Mem->List (List Value)->List Value->Prop),CXY Try.prog 76 (Array.mk [Value.pointer (some (Addr.mk p0b p0o none)),Value.pointer (some (Addr.mk p1b p1o none)),
 int i64 ae,int i64 n]) aa ab [] [] R_2/\(∀(t:Tok),t∈[]->∀(b:Nat),Tok.blk t=some b->ab b)/\(∀(b:Nat),ab b->(∃(t:Tok),t∈[]/\Tok.blk t=some b)\/(Mem.free (Mem.off m Y) b/\Mem.k (Mem.off m
 Y) b=none)/\((∃(o:Nat),∃(v:Value),aa b o=some v)\/∃(e:List (Value×Value)),Mem.k aa b=some e)/\True)/\(∀(v:Value)(m':Mem) (css:List (List Value)) (tvs:List Value),R_2 v m' css tvs->
 Shape.fits Shape.slice v=true)/\∀(a:Option Addr)(ao c:Nat)(m':Mem),Mem.le (Mem.off aa ab) m'->(NewM aa m' λ(b:Nat)=>ab b\/Mem.free aa b)->R_2 (slice a ao c) m' [] []->∃(ad:Nat->Prop),∃(R_3
 : Value->Mem->List (List Value)->List Value->Prop),CXY Try.prog 74 (Array.mk [Value.pointer (some (Addr.mk p0b p0o none)),slice a ao c,Value.pointer (some (Addr.mk p1b p1o none)),int i64 aj,int i64 p3]) m' ad
 [] [] R_3/\(∀(t:Tok),t∈[]->∀(b:Nat),Tok.blk t=some b->ad b)/\(∀(b:Nat),ad b->(∃(t:Tok),t∈[]/\Tok.blk t=some b)\/(Mem.free (Mem.off m Y) b/\Mem.k (Mem.off m Y) b=none)/\((∃(o:Nat),∃
 (v:Value),m' b o=some v)\/∃(e:List (Value×Value)),Mem.k m' b=some e)/\True)/\(∀(v:Value)(m':Mem) (css:List (List Value)) (tvs:List Value),R_3 v m' css tvs->Shape.fits (Shape.int i64) v =
 true)/\∀(al:Int)(ac:Mem),Mem.le (Mem.off m' ad) ac->(NewM m' ac λ(b:Nat)=>ad b\/Mem.free m' b)->R_3 (int i64 al) ac [] []->br (decide (al < (0:Int))) (R (int i64 ai) ac [] []) (∃(v:Value),ac p1b
 (p1o+10)=some v/\chk (Zeq v) (∃(b:Nat),∃(o:Nat),slA v=some (Addr.mk b o none)/\Zag (0:Int) (slN v)/\∃(v:Value),ac b (o+0)=some v/\∃(ag:Nat->Prop),∃(R:Value->Mem->List (List
 Value)->List Value->Prop),CXY Try.prog 46 (Array.mk [Value.pointer (some (Addr.mk p0b p0o none)),v,int i64 n,int i64 al]) ac ag [] [] R/\(∀(t:Tok),t∈[]->∀(b:Nat),Tok.blk t=some b->ag b)/\(∀(b:
 Nat),ag b->(∃(t:Tok),t∈[]/\Tok.blk t=some b)\/(Mem.free (Mem.off m Y) b/\Mem.k (Mem.off m Y) b=none)/\((∃(o:Nat),∃(v:Value),ac b o=some v)\/∃(e:List (Value×Value)),Mem.k ac b=some e)/\
 True)/\(∀(v:Value)(m':Mem) (css:List (List Value)) (tvs:List Value),R v m' css tvs->Shape.fits (Shape.int i64) v=true)/\∀(n:Int)(m':Mem),Mem.le (Mem.off ac ag) m'->(NewM ac m' λ(b:Nat)=>ag
 b\/Mem.free ac b)->R (int i64 n) m' [] []->∃(n':Nat),n' < ak/\I [int i64 al,int i64 aj,int i64 (IntKind.wrap i64 (ai+(1:Int)))] [] [] m' n'))) (R (int i64 0) m [] []))))))))
theorem ZeO(p0b p0o p1b p1o:Nat)(p2 p3:Int)(m:Mem)(Y:Nat->Prop)(R:RTY)(h:Zc6 p0b p0o p1b p1o p2 p3 m Y R):CXY Try.prog 46 #[.pointer (some ⟨p0b,p0o,none⟩),.pointer (some ⟨p1b,p1o,none⟩),.int .i64 p2,.int .i64 p3] m Y [] [] R:=
 Zcc (E:=ZfU) ZaA mix Try.func46 [.v (.pointer (some ⟨p0b,p0o,none⟩)),.v (.pointer (some ⟨p1b,p1o,none⟩)),.v (.int .i64 p2),.v (.int .i64 p3)] [] [] [] (by decide) (by kernel_rfl) (Eq.mp (by kernel_rfl) h)
end Go.Proofs.Ytgclajkldphoaaa
