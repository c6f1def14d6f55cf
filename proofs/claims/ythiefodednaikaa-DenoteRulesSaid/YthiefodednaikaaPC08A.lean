/- Part of the proof: conditions and contracts of functions of this program. No condition of its own. -/
import Derived.Test.YthiefodednaikaaPEnv
import Derived.Test.YthiefodednaikaaPC13Q
import Derived.Test.YthiefodednaikaaMc
import Derived.Test.YthiefodednaikaaMr
set_option linter.unusedVariables false
namespace Go.Proofs.Ythiefodednaikaa
open Go Go.Eng Go.Proofs Go.RowKit
open Go.Value (int slice agg)
open Go.IntKind (u8 u64 i64)
set_option maxRecDepth 100000
noncomputable def Zod:Env:={ EB with
 loops:=(fun i=>bif Nat.beq i 3 then⟨[(5,.int .i64),(11,.int .i64)],[],[],false⟩ else⟨[],[],[],false⟩)
 frzNew:=[2] }
def ZhD(aF aB aH aI aJ aE aG:Int)(aC:Option Addr)(aA aD:Nat)(p1:Int)(m:Mem)(R:RT):Prop:=
 ∀(b:Nat)(m':Mem),Mem.le m m'→Mem.reads m' b 0 [int u8 aF,int u64 aB,int u64 aH,int u64 aI,int u64 aJ,int i64 aE,int i64 aG,slice aC aA aD]→∃(I:IT),(∃(n:Nat),I [int i64 1,
 int i64 0] [] [] m' n)∧∀(n n_1:Int)(m'_1:Mem)(n_2:Nat),Mem.le m' m'_1→I [int i64 n,int i64 n_1] [] [] m'_1 n_2→br (decide (n_1 < (↑aA:Int))) (∃(b_1:Nat),∃(o:Nat),aC=some (Addr.mk b_1 o
 none)∧Zaf n_1 aA∧∃(v:Value),∃(v_1:Value),∃(v_2:Value),∃(v_3:Value),∃(v_4:Value),∃(v_5:Value),∃(v_6:Value),∃(v_7:Value),Mem.reads m'_1 b_1 (o+Int.toNat n_1*8) [v,v_1,v_2,
 v_3,v_4,v_5,v_6,v_7]∧∀(b_2:Nat),chk (Value.oneCell' v&&(Value.oneCell' v_1&&(Value.oneCell' v_2&&(Value.oneCell' v_3&&(Value.oneCell' v_4&&(Value.oneCell' v_5&&(Value.oneCell' v_6 &&
 (Value.oneCell' v_7&&true)))))))) (br (decide (n > p1)) (∃(m'':Mem),Mem.le m m''∧Mem.le m'' m'_1∧R (int i64 n) m'' []) (∃(R:RT),True∧CX Try.prog 21 (Array.mk [agg (Array.mk [v,v_1,v_2,v_3,v_4,v_5,
 v_6,v_7]),int i64 (IntKind.wrap i64 (p1 - n))]) m'_1 [] R∧Zax (Shape.int i64) R∧∀(n_3:Int)(m':Mem),Mem.le m'_1 m'→R (int i64 n_3) m' []→[some (Box.mk b [int u8 aF,int u64 aB,int u64 aH,int u64
 aI,int u64 aJ,int i64 aE,int i64 aG,slice aC aA aD] 29 8 true true)]=[some (Box.mk b [int u8 aF,int u64 aB,int u64 aH,int u64 aI,int u64 aJ,int i64 aE,int i64 aG,slice aC
 aA aD] 29 8 true true)]∧∃(n':Nat),n' < n_2∧I [int i64 (IntKind.wrap i64 (n+n_3)),int i64 (IntKind.wrap i64 (n_1+(1:Int)))] [] [] m' n'))) (∃(m'':Mem),Mem.le m m''∧Mem.le m'' m'_1∧R (int i64
 n) m'' [])
theorem Zme(aF aB aH aI aJ aE aG:Int)(aC:Option Addr)(aA aD:Nat)(p1:Int)(m:Mem)(R:RT)(h:ZhD aF aB aH aI aJ aE aG aC aA aD p1 m R):CX Try.prog 21 #[.agg #[.int .u8 aF,.int .u64 aB,.int .u64 aH,.int .u64 aI,.int .u64 aJ,.int .i64 aE,.int .i64 aG,.slice aC aA aD],.int .i64 p1] m [] R:=
 Zad (E:=Zod) ZaA mix Try.func21 [.v (.agg #[.int .u8 aF,.int .u64 aB,.int .u64 aH,.int .u64 aI,.int .u64 aJ,.int .i64 aE,.int .i64 aG,.slice aC aA aD]),.v (.int .i64 p1)] [] (by kernel_rfl) (Eq.mp (by kernel_rfl) h)
noncomputable def ZiN:Env:={ EB with
 loops:=(fun i=>bif Nat.beq i 3 then⟨[(20,.int .i64)],[3],[(29,260)],false⟩ else⟨[],[],[],false⟩)
 dr:=(fun i=>bif Nat.beq i 1 then[⟨0,[1],[],none,[],[]⟩,⟨1,[1],[],none,[0],[]⟩,⟨2,[],[],none,[0,1],[]⟩,⟨3,[1],[],none,[],[]⟩,⟨4,[1],[],none,[3],[]⟩,⟨5,[],[],none,[3,4],[]⟩,⟨6,[1],[],none,[],[]⟩,⟨7,[1],[],none,[6],[]⟩,⟨8,[1],[],none,[],[]⟩,⟨9,[1],[],none,[8],[]⟩,⟨10,[],[],none,[0,1,2,3,4,5,6,7,8,9],[]⟩,⟨11,[3],[3],none,[],[]⟩,⟨12,[3],[3],none,[0,1,2,3,4,5,6,7,8,9,10,11],[]⟩]else bif Nat.beq i 5 then[⟨0,[3],[],none,[],[]⟩,⟨1,[3],[],none,[0],[]⟩,⟨2,[5],[],none,[],[]⟩,⟨3,[],[],none,[2],[]⟩,⟨4,[28],[28],none,[2,3],[3]⟩,⟨5,[28],[],some 29,[0,1,2,3,4],[4]⟩,⟨6,[3],[],none,[0,1,2,3,4,5],[]⟩,⟨7,[3],[3],none,[0,1,2,3,4,5,6],[]⟩]else[])
 tokOf:=(fun i=>bif Nat.beq i 29 then 29 else 0)
 frzNew:=[1] }
abbrev Zas(aF:Int):List Value:=[int i64 (IntKind.wrap i64 aF),int i64 0,int i64 0,int i64 0,int i64 0,int i64 0,int i64 0,int i64 0,int i64 0,int i64 0,int i64 0,int i64 0,int i64 0,
 int i64 0,int i64 0,int i64 0,int i64 0,int i64 0,int i64 0,int i64 0,int i64 0,int i64 0,int i64 0,int i64 0,int i64 0,int i64 0,int i64 0,int i64 0,int i64 0,int i64 0,int i64 0,int i64 0,int i64 0,
 int i64 0,int i64 0,int i64 0,int i64 0,int i64 0,int i64 0,int i64 0,int i64 0,int i64 0,int i64 0,int i64 0,int i64 0,int i64 0,int i64 0,int i64 0,int i64 0,int i64 0,int i64 0,int i64 0,int i64 0,
 int i64 0,int i64 0,int i64 0,int i64 0,int i64 0,int i64 0,int i64 0,int i64 0,int i64 0,int i64 0,int i64 0,int i64 0,int i64 0,int i64 0,int i64 0,int i64 0,int i64 0,int i64 0,int i64 0,int i64 0,
 int i64 0,int i64 0,int i64 0,int i64 0,int i64 0,int i64 0,int i64 0,int i64 0,int i64 0,int i64 0,int i64 0,int i64 0,int i64 0,int i64 0,int i64 0,int i64 0,int i64 0,int i64 0,int i64 0,int i64 0,
 int i64 0,int i64 0,int i64 0,int i64 0,int i64 0,int i64 0,int i64 0,int i64 0,int i64 0,int i64 0,int i64 0,int i64 0,int i64 0,int i64 0,int i64 0,int i64 0,int i64 0,int i64 0,int i64 0,int i64 0,
 int i64 0,int i64 0,int i64 0,int i64 0,int i64 0,int i64 0,int i64 0,int i64 0,int i64 0,int i64 0,int i64 0,int i64 0,int i64 0,int i64 0,int i64 0,int i64 0,int i64 0,int i64 0,int i64 0,int i64 0,
 int i64 0,int i64 0,int i64 0,int i64 0,int i64 0,int i64 0,int i64 0,int i64 0,int i64 0,int i64 0,int i64 0,int i64 0,int i64 0,int i64 0,int i64 0,int i64 0,int i64 0,int i64 0,int i64 0,int i64 0,
 int i64 0,int i64 0,int i64 0,int i64 0,int i64 0,int i64 0,int i64 0,int i64 0,int i64 0,int i64 0,int i64 0,int i64 0,int i64 0,int i64 0,int i64 0,int i64 0,int i64 0,int i64 0,int i64 0,int i64 0,
 int i64 0,int i64 0,int i64 0,int i64 0,int i64 0,int i64 0,int i64 0,int i64 0,int i64 0,int i64 0,int i64 0,int i64 0,int i64 0,int i64 0,int i64 0,int i64 0,int i64 0,int i64 0,int i64 0,int i64 0,
 int i64 0,int i64 0,int i64 0,int i64 0,int i64 0,int i64 0,int i64 0,int i64 0,int i64 0,int i64 0,int i64 0,int i64 0,int i64 0,int i64 0,int i64 0,int i64 0,int i64 0,int i64 0,int i64 0,int i64 0,
 int i64 0,int i64 0,int i64 0,int i64 0,int i64 0,int i64 0,int i64 0,int i64 0,int i64 0,int i64 0,int i64 0,int i64 0,int i64 0,int i64 0,int i64 0,int i64 0,int i64 0,int i64 0,int i64 0,int i64 0,
 int i64 0,int i64 0,int i64 0,int i64 0,int i64 0,int i64 0,int i64 0,int i64 0,int i64 0,int i64 0,int i64 0,int i64 0,int i64 0,int i64 0,int i64 0,int i64 0,int i64 0,int i64 0,int i64 0,int i64 0,
 int i64 0,int i64 0,int i64 0,int i64 0,int i64 0,int i64 0,slice none 0 0]
abbrev ZhE:List Value:=[int i64 0,int i64 0,int i64 0,int i64 0,int i64 0,int i64 0,int i64 0,int i64 0,int i64 0,int i64 0,int i64 0,int i64 0,int i64 0,int i64 0,int i64 0,int i64 0,int
 i64 0,int i64 0,int i64 0,int i64 0,int i64 0,int i64 0,int i64 0,int i64 0,int i64 0,int i64 0,int i64 0,int i64 0,int i64 0,int i64 0,int i64 0,int i64 0,int i64 0,int i64 0,int i64 0,int i64 0,int
 i64 0,int i64 0,int i64 0,int i64 0,int i64 0,int i64 0,int i64 0,int i64 0,int i64 0,int i64 0,int i64 0,int i64 0,int i64 0,int i64 0,int i64 0,int i64 0,int i64 0,int i64 0,int i64 0,int i64 0,int
 i64 0,int i64 0,int i64 0,int i64 0,int i64 0,int i64 0,int i64 0,int i64 0,int i64 0,int i64 0,int i64 0,int i64 0,int i64 0,int i64 0,int i64 0,int i64 0,int i64 0,int i64 0,int i64 0,int i64 0,int
 i64 0,int i64 0,int i64 0,int i64 0,int i64 0,int i64 0,int i64 0,int i64 0,int i64 0,int i64 0,int i64 0,int i64 0,int i64 0,int i64 0,int i64 0,int i64 0,int i64 0,int i64 0,int i64 0,int i64 0,int
 i64 0,int i64 0,int i64 0,int i64 0,int i64 0,int i64 0,int i64 0,int i64 0,int i64 0,int i64 0,int i64 0,int i64 0,int i64 0,int i64 0,int i64 0,int i64 0,int i64 0,int i64 0,int i64 0,int i64 0,int
 i64 0,int i64 0,int i64 0,int i64 0,int i64 0,int i64 0,int i64 0,int i64 0,int i64 0,int i64 0,int i64 0,int i64 0,int i64 0,int i64 0,int i64 0,int i64 0,int i64 0,int i64 0,int i64 0,int i64 0,int
 i64 0,int i64 0,int i64 0,int i64 0,int i64 0,int i64 0,int i64 0,int i64 0,int i64 0,int i64 0,int i64 0,int i64 0,int i64 0,int i64 0,int i64 0,int i64 0,int i64 0,int i64 0,int i64 0,int i64 0,int
 i64 0,int i64 0,int i64 0,int i64 0,int i64 0,int i64 0,int i64 0,int i64 0,int i64 0,int i64 0,int i64 0,int i64 0,int i64 0,int i64 0,int i64 0,int i64 0,int i64 0,int i64 0,int i64 0,int i64 0,int
 i64 0,int i64 0,int i64 0,int i64 0,int i64 0,int i64 0,int i64 0,int i64 0,int i64 0,int i64 0,int i64 0,int i64 0,int i64 0,int i64 0,int i64 0,int i64 0,int i64 0,int i64 0,int i64 0,int i64 0,int
 i64 0,int i64 0,int i64 0,int i64 0,int i64 0,int i64 0,int i64 0,int i64 0,int i64 0,int i64 0,int i64 0,int i64 0,int i64 0,int i64 0,int i64 0,int i64 0,int i64 0,int i64 0,int i64 0,int i64 0,int
 i64 0,int i64 0,int i64 0,int i64 0,int i64 0,int i64 0,int i64 0,int i64 0,int i64 0,int i64 0,int i64 0,int i64 0,int i64 0,int i64 0,int i64 0,int i64 0,int i64 0,int i64 0,int i64 0,int i64 0,int
 i64 0,int i64 0,int i64 0,int i64 0,int i64 0,int i64 0,int i64 0,int i64 0,int i64 0,int i64 0,int i64 0,int i64 0,int i64 0,int i64 0,int i64 0,int i64 0,int i64 0,int i64 0,int i64 0,int i64 0,int
 i64 0,int i64 0,int i64 0,slice none 0 0]
abbrev ZhF:Nat→Option Box:=fun(b:Nat)=>some (Box.mk b ZhE 109 260 false true)
abbrev ZhG:Int→Int→Int→Int→Int→Int→Int→Option Addr→Nat→Nat→Nat→Option Box:=fun(aF aB aH aI aJ aE aG:Int)(aC:Option Addr)(aA aD b:Nat)=>some (Box.mk
 b [int u8 aF,int u64 aB,int u64 aH,int u64 aI,int u64 aJ,int i64 aE,int i64 aG,slice aC aA aD] 29 8 true true)
abbrev ZhH:Int→Int→Int→Int→Int→Int→Int→Option Addr→Nat→Nat→Nat→Nat→Nat→List (Option Box):=fun(aF aB aH aI aJ aE aG:Int)(aC:Option Addr) (aA aD b am
 ae:Nat)=>[some (Box.mk ae [] 109 260 false true),some (Box.mk ae [] 109 260 false true),ZhF am,ZhG aF aB aH aI aJ aE aG aC aA aD b]
def ZeC(aF aB aH aI aJ aE aG:Int)(aC:Option Addr)(aA aD:Nat)(m:Mem)(R:RT):Prop:=
 ∀(b:Nat)(m':Mem),Mem.le m m'→Mem.reads m' b 0 [int u8 aF,int u64 aB,int u64 aH,int u64 aI,int u64 aJ,int i64 aE,int i64 aG,slice aC aA aD]→∀(am:Nat),∃(f:Fx),∃(R_1:RT),
 R_1=f 5 [agg (Array.mk [int u64 aB,int u64 aH,int u64 aI,int u64 aJ])] m'∧CX Try.prog 88 (Array.mk [agg (Array.mk [int u64 aB,int u64 aH,int u64 aI,int u64 aJ])]) m' [] R_1∧Zax Shape.cells
 R_1∧∀(cs:List Value)(an:Mem),Mem.le m' an→R_1 (agg (Array.mk cs)) an []→chk (Nat.beq (List.length cs) 256&&true) (chk (Nat.ble (nat_lit 257) (List.length (List.append cs (List.drop (1+List.length cs)
 (Zas aF))))) (chk (Nat.ble (nat_lit 258) (List.length (List.append (List.append (List.take (nat_lit 256) (List.append cs (List.drop (1+List.length cs) (Zas aF)))) [int i64 aE]) (List.drop
 (nat_lit 257) (List.append cs (List.drop (1+List.length cs) (Zas aF))))))) (∀(ae:Nat),chk (Nat.beq (List.length (List.append (List.append (List.take (nat_lit 257) (List.append (List.append (List.take
 (nat_lit 256) (List.append cs (List.drop (1+List.length cs) (Zas aF)))) [int i64 aE]) (List.drop (nat_lit 257) (List.append cs (List.drop (1+List.length cs) (Zas aF)))))) [int i64
 aG]) (List.drop (nat_lit 258) (List.append (List.append (List.take (nat_lit 256) (List.append cs (List.drop (1+List.length cs) (Zas aF)))) [int i64 aE]) (List.drop (nat_lit 257) (List.append cs
 (List.drop (1+List.length cs) (Zas aF)))))))) (nat_lit 259)&&Zcb (List.append (List.append (List.take (nat_lit 257) (List.append (List.append (List.take (nat_lit 256) (List.append cs (List.drop (1 +
 List.length cs) (Zas aF)))) [int i64 aE]) (List.drop (nat_lit 257) (List.append cs (List.drop (1+List.length cs) (Zas aF)))))) [int i64 aG]) (List.drop (nat_lit 258) (List.append
 (List.append (List.take (nat_lit 256) (List.append cs (List.drop (1+List.length cs) (Zas aF)))) [int i64 aE]) (List.drop (nat_lit 257) (List.append cs (List.drop (1+List.length cs) (Zas
 aF)))))))) (∀(M:Mem),Mem.le m' M→Mem.le an M→∃(I:IT),(∃(n:Nat),I [int i64 0] [Zaj (Zaj (Zaj (Zas aF) 1 cs) 257 [int i64 aE]) 258 [int i64 aG]] [slice none 0 0] M n)∧∀(n:
 Int) (cs:List Value) (a:Option Addr) (ap c:Nat) (m':Mem) (aq:Nat),Mem.le M m'→I [int i64 n] [cs] [slice a ap c] m' aq→br (decide (n < (↑aA:Int))) (∃(ar:Nat),∃(o:Nat),aC=some (Addr.mk ar
 o none)∧Zaf n aA∧∃(v:Value),∃(af:Value),∃(ag:Value),∃(ah:Value),∃(ai:Value),∃(aj:Value),∃(ak:Value),∃(al:Value),Mem.reads m' ar (o+Int.toNat n*8) [v,af,ag,ah,ai,aj,
 ak,al]∧∀(au:Nat),chk (Value.oneCell' v&&(Value.oneCell' af&&(Value.oneCell' ag&&(Value.oneCell' ah&&(Value.oneCell' ai&&(Value.oneCell' aj&&(Value.oneCell' ak&&(Value.oneCell' al&&true)))))))) (∃
 (f:Fx),Eng.ZrO cs 259 fun(aa:Value)=>∃(R:RT),R=f 3 [agg (Array.mk [v,af,ag,ah,ai,aj,ak,al])] m'∧CX Try.prog 63 (Array.mk [agg (Array.mk [v,af,ag,ah,ai,aj,ak,al])]) m' [] R∧Zax
 Shape.cells R∧∀(ac:List Value)(ab:Mem),Mem.le m' ab→R (agg (Array.mk ac)) ab []→chk (Nat.beq (List.length ac) 260&&true) (∀(ad:Nat),Mem.free ab ad→chk (ZbS aa&&true) ((Tok.mk (slice a ap c) 260 =
 Tok.mk aa 260∨aa=slice none 0 0∨slC aa < slN aa+1)∧∃(xs:List Value),∃(ys:List Value),List.length xs=slN aa*260∧List.length ys=1*260∧rowRd (Mem.add ab ad (List.append ac [])) (slA aa) xs∧
 rowRd (Mem.add ab ad (List.append ac [])) (some (Addr.mk ad 0 none)) ys∧(∀(u:Value),u∈ys→Value.oneCell' u=true)∧(slN aa+1)*2096≤140737488355328∧slN aa+1≤9223372036854775807∧∀(a':Option
 Addr) (c':Nat) (ao:Mem),Mem.le (Mem.add ab ad (List.append ac [])) ao→rowRd ao a' (List.append xs ys)→chk (Nat.ble 260 (List.length cs)) (∀(M:Mem),Mem.le m' M→Mem.le ab M→Mem.le (Mem.add ab ad
 (List.append ac [])) M→Mem.le ao M→Za0 (ZhH aF aB aH aI aJ aE aG aC aA aD b am ae)∧∃(n':Nat),n' < aq∧I [int i64 (IntKind.wrap i64 (n+(1:Int)))] [Zaj cs 259 [slice
 a' (slN aa+1) c']] [slice a' (slN aa+1) c'] M n'))))) (chk (Nat.beq (List.length cs) 260&&Zcb cs) (∃(m'':Mem),Mem.le m m''∧Mem.le m'' m'∧R (agg (Array.mk cs)) m'' []))))))
theorem ZhI(aF aB aH aI aJ aE aG:Int)(aC:Option Addr)(aA aD:Nat)(m:Mem)(R:RT)(h:ZeC aF aB aH aI aJ aE aG aC aA aD m R):CX Try.prog 63 #[.agg #[.int .u8 aF,.int .u64 aB,.int .u64 aH,.int .u64 aI,.int .u64 aJ,.int .i64 aE,.int .i64 aG,.slice aC aA aD]] m [] R:=
 Zad (E:=ZiN) ZaA mix Try.func63 [.v (.agg #[.int .u8 aF,.int .u64 aB,.int .u64 aH,.int .u64 aI,.int .u64 aJ,.int .i64 aE,.int .i64 aG,.slice aC aA aD])] [] (by kernel_rfl) (Eq.mp (by kernel_rfl) h)
noncomputable def Zkz:Env:={ EB with
 loops:=(fun i=>bif Nat.beq i 3 then⟨[(5,.int .i64),(6,.int .i64)],[],[],false⟩ else⟨[],[],[],false⟩)
 joins:=(fun i=>bif Nat.beq i 3 then some [(16,.bool)]else none)
 frzNew:=[2] }
def Zfr(p0:List Value)(p1:Int)(m:Mem)(R:RT):Prop:=
 chk (Nat.beq (List.length p0) 260) (∀(b:Nat)(m':Mem),Mem.le m m'→Mem.reads m' b 0 p0→∃(I:IT),(∃(n:Nat),I [int i64 1,int i64 0] [] [] m' n)∧∀(n n_1:Int)(m'_1:Mem)(n_2:Nat),Mem.le m' m'_1→
 I [int i64 n,int i64 n_1] [] [] m'_1 n_2→∃(b_1:Bool),(Eng.ZrO p0 259 fun(v:Value)=>chk (ZbS v) (br (decide (n_1 < (↑(slN v):Int))) ([some (Box.mk b p0 109 260 true true)]=[some (Box.mk b p0 109 260
 true true)]∧[Value.bool (decide (n≤p1))]=[Value.bool b_1]) ([some (Box.mk b p0 109 260 true true)]=[some (Box.mk b p0 109 260 true true)]∧[Value.bool false]=[Value.bool b_1])))∧br b_1 (Eng.ZrO p0 259 fun
 (v:Value)=>chk (ZbS v) (∃(b_2:Nat),∃(o:Nat),slA v=some (Addr.mk b_2 o none)∧Zaf n_1 (slN v)∧∃(vs:List Value),List.length vs=260∧Mem.reads m'_1 b_2 (o+Int.toNat n_1*260) vs∧∃(R:
 RT),True∧CX Try.prog 122 (Array.mk [agg (Array.mk vs),int i64 (IntKind.wrap i64 (p1 - n))]) m'_1 [] R∧Zax (Shape.int i64) R∧∀(n_3:Int)(m':Mem),Mem.le m'_1 m'→R (int i64 n_3) m' []→[some (Box.mk b p0
 109 260 true true)]=[some (Box.mk b p0 109 260 true true)]∧∃(n':Nat),n' < n_2∧I [int i64 (IntKind.wrap i64 (n+n_3)),int i64 (IntKind.wrap i64 (n_1+(1:Int)))] [] [] m' n')) (∃(m'':Mem),Mem.le m m''∧
 Mem.le m'' m'_1∧R (int i64 n) m'' []))
theorem ZiO(p0:List Value)(p1:Int)(m:Mem)(R:RT)(h:Zfr p0 p1 m R):CX Try.prog 122 #[.agg p0.toArray,.int .i64 p1] m [] R:=
 Zad (E:=Zkz) ZaA mix Try.func122 [.v (.agg p0.toArray),.v (.int .i64 p1)] [] (by kernel_rfl) (Eq.mp (by kernel_rfl) h)
noncomputable def ZkA:Env:={ EB with
 frzNew:=[1] }
def Zfs(p0:List Value)(m:Mem)(R:RT):Prop:=
 chk (Nat.beq (List.length p0) 260) (∀(b:Nat)(m':Mem),Mem.le m m'→Mem.reads m' b 0 p0→∃(R_1:RT),True∧CX Try.prog 122 (Array.mk [agg (Array.mk p0),int i64 10000]) m' [] R_1∧Zax (Shape.int i64) R_1∧∀
 (n:Int) (m'_1:Mem),Mem.le m' m'_1→R_1 (int i64 n) m'_1 []→∃(m'':Mem),Mem.le m m''∧Mem.le m'' m'_1∧R (Value.bool (decide (n < (10001:Int)))) m'' [])
theorem ZiP(p0:List Value)(m:Mem)(R:RT)(h:Zfs p0 m R):CX Try.prog 120 #[.agg p0.toArray] m [] R:=
 Zad (E:=ZkA) ZaA mix Try.func120 [.v (.agg p0.toArray)] [] (by kernel_rfl) (Eq.mp (by kernel_rfl) h)
noncomputable def Zmf:Env:={ EB with
 frzNew:=[1] }
def Zgw(p0:List Value)(m:Mem)(R:RT):Prop:=
 chk (Nat.beq (List.length p0) 260) (∀(b:Nat)(m':Mem),Mem.le m m'→Mem.reads m' b 0 p0→∃(R_1:RT),True∧CX Try.prog 122 (Array.mk [agg (Array.mk p0),int i64 10000]) m' [] R_1∧Zax (Shape.int i64) R_1∧∀
 (n:Int) (m'_1:Mem),Mem.le m' m'_1→R_1 (int i64 n) m'_1 []→∃(m'':Mem),Mem.le m m''∧Mem.le m'' m'_1∧R (int i64 n) m'' [])
theorem ZkB(p0:List Value)(m:Mem)(R:RT)(h:Zgw p0 m R):CX Try.prog 108 #[.agg p0.toArray] m [] R:=
 Zad (E:=Zmf) ZaA mix Try.func108 [.v (.agg p0.toArray)] [] (by kernel_rfl) (Eq.mp (by kernel_rfl) h)
noncomputable def ZiQ:Env:={ EB with
 joins:=(fun i=>bif Nat.beq i 1 then some [(10,.bool)]else bif Nat.beq i 5 then some [(4,.bool)]else none) }
def ZeD(p0 p1:Int)(m:Mem)(R:RT):Prop:=
 ∃(b:Bool),br (decide (p0 < (0:Int))) ([Value.bool true]=[Value.bool b]) ([Value.bool (decide (p0 > (16:Int)))]=[Value.bool b])∧br b (∃(m'':Mem),Mem.le m m''∧Mem.le m'' m∧R (Value.bool false) m''
 []) (br (p1 == (-1:Int)) (∃(m'':Mem),Mem.le m m''∧Mem.le m'' m∧R (Value.bool true) m'' []) (∃(b:Bool),br (decide (p1 > (0:Int))) (br (decide (p1 < (17:Int))) (br (decide (p0≤p1)) (br (p0 == (1:
 Int)) ([Value.bool !p1 == (1:Int)]=[Value.bool b]) ([Value.bool true]=[Value.bool b])) ([Value.bool false]=[Value.bool b])) ([Value.bool false]=[Value.bool b])) ([Value.bool false]=[Value.bool b])∧∃(m'':
 Mem),Mem.le m m''∧Mem.le m'' m∧R (Value.bool b) m'' []))
theorem ZhJ(p0 p1:Int)(m:Mem)(R:RT)(h:ZeD p0 p1 m R):CX Try.prog 127 #[.int .i64 p0,.int .i64 p1] m [] R:=
 Zad (E:=ZiQ) ZaA mix Try.func127 [.v (.int .i64 p0),.v (.int .i64 p1)] [] (by kernel_rfl) (Eq.mp (by kernel_rfl) h)
noncomputable def ZkC:Env:={ EB with
 loops:=(fun i=>bif Nat.beq i 10 then⟨[(5,.int .i64)],[],[],false⟩ else⟨[],[],[],false⟩)
 joins:=(fun i=>bif Nat.beq i 4 then some [(51,.bool)]else bif Nat.beq i 7 then some [(84,.bool)]else bif Nat.beq i 13 then some [(133,.bool)]else none)
 dr:=(fun i=>bif Nat.beq i 2 then[⟨0,[1],[],none,[],[]⟩,⟨1,[1],[],none,[0],[]⟩,⟨2,[],[],none,[0,1],[]⟩,⟨3,[],[],none,[0,1,2],[]⟩,⟨4,[1],[],none,[0,1,2,3],[]⟩,⟨5,[1],[],none,[0,1,2,3,4],[]⟩,⟨6,[],[],none,[0,1,2,3,4,5],[]⟩,⟨7,[],[],none,[0,1,2,3,4,5,6],[]⟩,⟨8,[],[],none,[0,1,2,3,4,5,6,7],[]⟩,⟨9,[1],[],none,[0,1,2,3,4,5,6,7,8],[]⟩,⟨10,[1],[],none,[0,1,2,3,4,5,6,7,8,9],[]⟩,⟨11,[],[],none,[0,1,2,3,4,5,6,7,8,9,10],[]⟩,⟨12,[1],[],none,[0,1,2,3,4,5,6,7,8],[]⟩,⟨13,[1],[],none,[0,1,2,3,4,5,6,7,8,12],[]⟩,⟨14,[3],[],none,[0,1,2,3,4,5,6,7,8],[]⟩,⟨15,[],[],none,[0,1,2,3,4,5,6,7,8,12,13,14],[]⟩,⟨16,[],[],none,[0,1,2,3,4,5,6,7,8,9,10,11,12,13,14,15],[]⟩,⟨17,[],[],none,[0,1,2,3,4,5,6,7,8,9,10,11,12,13,14,15,16],[]⟩]else[])
 frzNew:=[1]
 gb:=true }
def Zft(p0:List Value)(m:Mem)(R:RT):Prop:=
 chk (Nat.beq (List.length p0) 260) (∀(b:Nat)(m':Mem),Mem.le m m'→Mem.reads m' b 0 p0→∀(aa:Nat),Eng.ZrO p0 0 fun(v:Value)=>chk (Zal i64 v&&decide (i64=i64)) (br (decide (RowKit.intOf v < (1:
 Int))) (∃(m'':Mem),Mem.le m m''∧Mem.le m'' m'∧R (Value.bool false) m'' []) (Eng.ZrO p0 0 fun(v:Value)=>chk (Zal i64 v&&decide (i64=i64)) (br (decide (RowKit.intOf v > (6:Int))) (∃(m'':Mem),
 Mem.le m m''∧Mem.le m'' m'∧R (Value.bool false) m'' []) (Eng.ZrO p0 0 fun(v:Value)=>chk (Zal i64 v&&decide (i64=i64)) (chk (Nat.ble 257 (List.length p0)) (∃(al:Bool),EqIs Try.prog 106 (agg (Array.mk
 (List.take 256 (List.drop 1 p0)))) (agg (Array.mk (List.replicate 256 (int i64 0)))) al∧br (!(RowKit.intOf v == (2:Int)) == !al) (∃(m'':Mem),Mem.le m m''∧Mem.le m'' m'∧R (Value.bool false) m'' []) (∃(aj:
 Bool),(Eng.ZrO p0 0 fun(v:Value)=>chk (Zal i64 v&&decide (i64=i64)) (br (RowKit.intOf v == (5:Int)) (Eng.ZrO p0 257 fun(v:Value)=>Eng.ZrO p0 258 fun(ak:Value)=>∃(R:RT),True∧CX Try.prog
 127 (Array.mk [v,ak]) m' [] R∧Zax Shape.bool R∧∀(af:Bool)(ab:Mem),Mem.le m' ab→R (Value.bool af) ab []→br (!af) ([some (Box.mk aa (List.replicate 256 (int i64 0)) 106 256 false true),some (Box.mk b p0
 109 260 true true)]=[some (Box.mk aa (List.replicate 256 (int i64 0)) 106 256 false true),some (Box.mk b p0 109 260 true true)]∧[Value.bool true]=[Value.bool aj]) (Eng.ZrO p0 0 fun(v:Value)=>chk (Zal i64
 v&&decide (i64=i64)) (br (!RowKit.intOf v == (5:Int)) (Eng.ZrO p0 257 fun(v:Value)=>chk (Zal i64 v&&decide (i64=i64)) (br (!RowKit.intOf v == (0:Int)) ([some (Box.mk aa (List.replicate 256 (int i64
 0)) 106 256 false true),some (Box.mk b p0 109 260 true true)]=[some (Box.mk aa (List.replicate 256 (int i64 0)) 106 256 false true),some (Box.mk b p0 109 260 true true)]∧[Value.bool true]=[Value.bool aj])
 (Eng.ZrO p0 258 fun(v:Value)=>chk (Zal i64 v&&decide (i64=i64)) ([some (Box.mk aa (List.replicate 256 (int i64 0)) 106 256 false true),some (Box.mk b p0 109 260 true true)]=[some (Box.mk aa
 (List.replicate 256 (int i64 0)) 106 256 false true),some (Box.mk b p0 109 260 true true)]∧[Value.bool !RowKit.intOf v == (0:Int)]=[Value.bool aj])))) ([some (Box.mk aa (List.replicate 256 (int i64 0)) 106 256
 false true),some (Box.mk b p0 109 260 true true)]=[some (Box.mk aa (List.replicate 256 (int i64 0)) 106 256 false true),some (Box.mk b p0 109 260 true true)]∧[Value.bool false]=[Value.bool aj])))) (Eng.ZrO p0 0
 fun(v:Value)=>chk (Zal i64 v&&decide (i64=i64)) (br (!RowKit.intOf v == (5:Int)) (Eng.ZrO p0 257 fun(v:Value)=>chk (Zal i64 v&&decide (i64=i64)) (br (!RowKit.intOf v == (0:Int)) ([some (Box.mk
 aa (List.replicate 256 (int i64 0)) 106 256 false true),some (Box.mk b p0 109 260 true true)]=[some (Box.mk aa (List.replicate 256 (int i64 0)) 106 256 false true),some (Box.mk b p0 109 260 true true)]∧[Value.bool
 true]=[Value.bool aj]) (Eng.ZrO p0 258 fun(v:Value)=>chk (Zal i64 v&&decide (i64=i64)) ([some (Box.mk aa (List.replicate 256 (int i64 0)) 106 256 false true),some (Box.mk b p0 109 260 true true)]=[some
 (Box.mk aa (List.replicate 256 (int i64 0)) 106 256 false true),some (Box.mk b p0 109 260 true true)]∧[Value.bool !RowKit.intOf v == (0:Int)]=[Value.bool aj])))) ([some (Box.mk aa (List.replicate 256 (int i64 0))
 106 256 false true),some (Box.mk b p0 109 260 true true)]=[some (Box.mk aa (List.replicate 256 (int i64 0)) 106 256 false true),some (Box.mk b p0 109 260 true true)]∧[Value.bool false]=[Value.bool aj])))))∧br
 aj (∃(m'':Mem),Mem.le m m''∧Mem.le m'' m'∧R (Value.bool false) m'' []) (Eng.ZrO p0 259 fun(v:Value)=>chk (ZbS v) (∃(af:Bool),(Eng.ZrO p0 0 fun(ak:Value)=>chk (Zal i64 ak&&decide (i64=i64))
 (br (decide (RowKit.intOf ak < (3:Int))) (br (decide ((↑(slN v):Int) > (0:Int))) ([some (Box.mk aa (List.replicate 256 (int i64 0)) 106 256 false true),some (Box.mk b p0 109 260 true true)]=[some (Box.mk aa
 (List.replicate 256 (int i64 0)) 106 256 false true),some (Box.mk b p0 109 260 true true)]∧[Value.bool true]=[Value.bool af]) (Eng.ZrO p0 0 fun(ah:Value)=>chk (Zal i64 ah&&decide (i64=i64)) (br (decide
 (RowKit.intOf ah > (2:Int))) (Eng.ZrO p0 0 fun(ac:Value)=>chk (Zal i64 ac&&decide (i64=i64)) (br (decide (RowKit.intOf ac < (5:Int))) (br (decide ((↑(slN v):Int) < (2:Int))) ([some (Box.mk aa
 (List.replicate 256 (int i64 0)) 106 256 false true),some (Box.mk b p0 109 260 true true)]=[some (Box.mk aa (List.replicate 256 (int i64 0)) 106 256 false true),some (Box.mk b p0 109 260 true true)]∧[Value.bool
 true]=[Value.bool af]) (Eng.ZrO p0 0 fun(ai:Value)=>chk (Zal i64 ai&&decide (i64=i64)) (br (decide (RowKit.intOf ai > (4:Int))) ([some (Box.mk aa (List.replicate 256 (int i64 0)) 106 256 false true),
 some (Box.mk b p0 109 260 true true)]=[some (Box.mk aa (List.replicate 256 (int i64 0)) 106 256 false true),some (Box.mk b p0 109 260 true true)]∧[Value.bool !(↑(slN v):Int) == (1:Int)]=[Value.bool af])
 ([some (Box.mk aa (List.replicate 256 (int i64 0)) 106 256 false true),some (Box.mk b p0 109 260 true true)]=[some (Box.mk aa (List.replicate 256 (int i64 0)) 106 256 false true),some (Box.mk b p0 109 260 true
 true)]∧[Value.bool false]=[Value.bool af])))) (Eng.ZrO p0 0 fun(ai:Value)=>chk (Zal i64 ai&&decide (i64=i64)) (br (decide (RowKit.intOf ai > (4:Int))) ([some (Box.mk aa (List.replicate 256 (int i64 0))
 106 256 false true),some (Box.mk b p0 109 260 true true)]=[some (Box.mk aa (List.replicate 256 (int i64 0)) 106 256 false true),some (Box.mk b p0 109 260 true true)]∧[Value.bool !(↑(slN v):Int) == (1:Int)] =
 [Value.bool af]) ([some (Box.mk aa (List.replicate 256 (int i64 0)) 106 256 false true),some (Box.mk b p0 109 260 true true)]=[some (Box.mk aa (List.replicate 256 (int i64 0)) 106 256 false true),some (Box.mk b p0
 109 260 true true)]∧[Value.bool false]=[Value.bool af]))))) (Eng.ZrO p0 0 fun(ac:Value)=>chk (Zal i64 ac&&decide (i64=i64)) (br (decide (RowKit.intOf ac > (4:Int))) ([some (Box.mk aa (List.replicate
 256 (int i64 0)) 106 256 false true),some (Box.mk b p0 109 260 true true)]=[some (Box.mk aa (List.replicate 256 (int i64 0)) 106 256 false true),some (Box.mk b p0 109 260 true true)]∧[Value.bool !(↑(slN v):Int)
 == (1:Int)]=[Value.bool af]) ([some (Box.mk aa (List.replicate 256 (int i64 0)) 106 256 false true),some (Box.mk b p0 109 260 true true)]=[some (Box.mk aa (List.replicate 256 (int i64 0)) 106 256 false true),
 some (Box.mk b p0 109 260 true true)]∧[Value.bool false]=[Value.bool af])))))) (Eng.ZrO p0 0 fun(ah:Value)=>chk (Zal i64 ah&&decide (i64=i64)) (br (decide (RowKit.intOf ah > (2:Int))) (Eng.ZrO p0 0
 fun(ac:Value)=>chk (Zal i64 ac&&decide (i64=i64)) (br (decide (RowKit.intOf ac < (5:Int))) (br (decide ((↑(slN v):Int) < (2:Int))) ([some (Box.mk aa (List.replicate 256 (int i64 0)) 106 256 false true),
 some (Box.mk b p0 109 260 true true)]=[some (Box.mk aa (List.replicate 256 (int i64 0)) 106 256 false true),some (Box.mk b p0 109 260 true true)]∧[Value.bool true]=[Value.bool af]) (Eng.ZrO p0 0 fun(ai:Value)
 => chk (Zal i64 ai&&decide (i64=i64)) (br (decide (RowKit.intOf ai > (4:Int))) ([some (Box.mk aa (List.replicate 256 (int i64 0)) 106 256 false true),some (Box.mk b p0 109 260 true true)]=[some (Box.mk aa
 (List.replicate 256 (int i64 0)) 106 256 false true),some (Box.mk b p0 109 260 true true)]∧[Value.bool !(↑(slN v):Int) == (1:Int)]=[Value.bool af]) ([some (Box.mk aa (List.replicate 256 (int i64 0)) 106 256
 false true),some (Box.mk b p0 109 260 true true)]=[some (Box.mk aa (List.replicate 256 (int i64 0)) 106 256 false true),some (Box.mk b p0 109 260 true true)]∧[Value.bool false]=[Value.bool af])))) (Eng.ZrO p0 0
 fun(ai:Value)=>chk (Zal i64 ai&&decide (i64=i64)) (br (decide (RowKit.intOf ai > (4:Int))) ([some (Box.mk aa (List.replicate 256 (int i64 0)) 106 256 false true),some (Box.mk b p0 109 260 true true)] =
 [some (Box.mk aa (List.replicate 256 (int i64 0)) 106 256 false true),some (Box.mk b p0 109 260 true true)]∧[Value.bool !(↑(slN v):Int) == (1:Int)]=[Value.bool af]) ([some (Box.mk aa (List.replicate 256 (int
 i64 0)) 106 256 false true),some (Box.mk b p0 109 260 true true)]=[some (Box.mk aa (List.replicate 256 (int i64 0)) 106 256 false true),some (Box.mk b p0 109 260 true true)]∧[Value.bool false]=[Value.bool
 af]))))) (Eng.ZrO p0 0 fun(ac:Value)=>chk (Zal i64 ac&&decide (i64=i64)) (br (decide (RowKit.intOf ac > (4:Int))) ([some (Box.mk aa (List.replicate 256 (int i64 0)) 106 256 false true),some (Box.mk b p0
 109 260 true true)]=[some (Box.mk aa (List.replicate 256 (int i64 0)) 106 256 false true),some (Box.mk b p0 109 260 true true)]∧[Value.bool !(↑(slN v):Int) == (1:Int)]=[Value.bool af]) ([some (Box.mk aa
 (List.replicate 256 (int i64 0)) 106 256 false true),some (Box.mk b p0 109 260 true true)]=[some (Box.mk aa (List.replicate 256 (int i64 0)) 106 256 false true),some (Box.mk b p0 109 260 true true)]∧[Value.bool
 false]=[Value.bool af])))))))∧br af (∃(m'':Mem),Mem.le m m''∧Mem.le m'' m'∧R (Value.bool false) m'' []) (∃(I:IT),(∃(n:Nat),I [int i64 0] [] [] m' n)∧∀(n:Int)(ab:Mem)(am:Nat),Mem.le m' ab
 → I [int i64 n] [] [] ab am→br (decide (n < (↑(slN v):Int))) (Eng.ZrO p0 259 fun(v:Value)=>chk (ZbS v) (∃(an:Nat),∃(o:Nat),slA v=some (Addr.mk an o none)∧Zaf n (slN v)∧∃(v:Value),ab an
 (o+Int.toNat n*260+0)=some v∧∃(ag:Bool),(Eng.ZrO p0 0 fun(ak:Value)=>chk (Zal i64 ak&&decide (i64=i64)) (br (RowKit.intOf ak == (3:Int)) (chk (Zal i64 v&&decide (i64=i64)) (br
 (RowKit.intOf v == (1:Int)) ([some (Box.mk aa (List.replicate 256 (int i64 0)) 106 256 false true),some (Box.mk b p0 109 260 true true)]=[some (Box.mk aa (List.replicate 256 (int i64 0)) 106 256 false true),some
 (Box.mk b p0 109 260 true true)]∧[Value.bool true]=[Value.bool ag]) (chk (Zal i64 v&&decide (i64=i64)) (br (RowKit.intOf v == (3:Int)) ([some (Box.mk aa (List.replicate 256 (int i64 0)) 106 256 false true),
 some (Box.mk b p0 109 260 true true)]=[some (Box.mk aa (List.replicate 256 (int i64 0)) 106 256 false true),some (Box.mk b p0 109 260 true true)]∧[Value.bool true]=[Value.bool ag]) (Eng.ZrO p0 0 fun(ah:Value)
 => chk (Zal i64 ah&&decide (i64=i64)) (br (RowKit.intOf ah == (4:Int)) (chk (Zal i64 v&&decide (i64=i64)) (br (RowKit.intOf v == (4:Int)) ([some (Box.mk aa (List.replicate 256 (int i64 0)) 106 256 false
 true),some (Box.mk b p0 109 260 true true)]=[some (Box.mk aa (List.replicate 256 (int i64 0)) 106 256 false true),some (Box.mk b p0 109 260 true true)]∧[Value.bool true]=[Value.bool ag]) (Eng.ZrO p0 0 fun(ac:
 Value)=>chk (Zal i64 ac&&decide (i64=i64)) (br (RowKit.intOf ac == (5:Int)) (chk (Zal i64 v&&decide (i64=i64)) (br (RowKit.intOf v == (1:Int)) ([some (Box.mk aa (List.replicate 256 (int i64 0)) 106 256
 false true),some (Box.mk b p0 109 260 true true)]=[some (Box.mk aa (List.replicate 256 (int i64 0)) 106 256 false true),some (Box.mk b p0 109 260 true true)]∧[Value.bool true]=[Value.bool ag]) (Eng.ZrO p0 259
 fun(v:Value)=>chk (ZbS v) (∃(ad:Nat),∃(o:Nat),slA v=some (Addr.mk ad o none)∧Zaf n (slN v)∧∃(vs:List Value),List.length vs=260∧Mem.reads ab ad (o+Int.toNat n*260) vs∧∃(R:RT),
 True∧CX Try.prog 121 (Array.mk [agg (Array.mk vs)]) ab [] R∧Zax Shape.bool R∧∀(ae:Bool)(m':Mem),Mem.le ab m'→R (Value.bool ae) m' []→[some (Box.mk aa (List.replicate 256 (int i64 0)) 106 256 false
 true),some (Box.mk b p0 109 260 true true)]=[some (Box.mk aa (List.replicate 256 (int i64 0)) 106 256 false true),some (Box.mk b p0 109 260 true true)]∧[Value.bool !ae]=[Value.bool ag])))) (Eng.ZrO p0 259 fun
 (v:Value)=>chk (ZbS v) (∃(ad:Nat),∃(o:Nat),slA v=some (Addr.mk ad o none)∧Zaf n (slN v)∧∃(vs:List Value),List.length vs=260∧Mem.reads ab ad (o+Int.toNat n*260) vs∧∃(R:RT),True∧
 CX Try.prog 121 (Array.mk [agg (Array.mk vs)]) ab [] R∧Zax Shape.bool R∧∀(ae:Bool)(m':Mem),Mem.le ab m'→R (Value.bool ae) m' []→[some (Box.mk aa (List.replicate 256 (int i64 0)) 106 256 false true),some
 (Box.mk b p0 109 260 true true)]=[some (Box.mk aa (List.replicate 256 (int i64 0)) 106 256 false true),some (Box.mk b p0 109 260 true true)]∧[Value.bool !ae]=[Value.bool ag])))))) (Eng.ZrO p0 0 fun(ac:Value)
 => chk (Zal i64 ac&&decide (i64=i64)) (br (RowKit.intOf ac == (5:Int)) (chk (Zal i64 v&&decide (i64=i64)) (br (RowKit.intOf v == (1:Int)) ([some (Box.mk aa (List.replicate 256 (int i64 0)) 106 256 false
 true),some (Box.mk b p0 109 260 true true)]=[some (Box.mk aa (List.replicate 256 (int i64 0)) 106 256 false true),some (Box.mk b p0 109 260 true true)]∧[Value.bool true]=[Value.bool ag]) (Eng.ZrO p0 259 fun(v
 : Value)=>chk (ZbS v) (∃(ad:Nat),∃(o:Nat),slA v=some (Addr.mk ad o none)∧Zaf n (slN v)∧∃(vs:List Value),List.length vs=260∧Mem.reads ab ad (o+Int.toNat n*260) vs∧∃(R:RT),True∧CX
 Try.prog 121 (Array.mk [agg (Array.mk vs)]) ab [] R∧Zax Shape.bool R∧∀(ae:Bool)(m':Mem),Mem.le ab m'→R (Value.bool ae) m' []→[some (Box.mk aa (List.replicate 256 (int i64 0)) 106 256 false true),some
 (Box.mk b p0 109 260 true true)]=[some (Box.mk aa (List.replicate 256 (int i64 0)) 106 256 false true),some (Box.mk b p0 109 260 true true)]∧[Value.bool !ae]=[Value.bool ag])))) (Eng.ZrO p0 259 fun(v:Value)
 => chk (ZbS v) (∃(ad:Nat),∃(o:Nat),slA v=some (Addr.mk ad o none)∧Zaf n (slN v)∧∃(vs:List Value),List.length vs=260∧Mem.reads ab ad (o+Int.toNat n*260) vs∧∃(R:RT),True∧CX Try.prog
 121 (Array.mk [agg (Array.mk vs)]) ab [] R∧Zax Shape.bool R∧∀(ae:Bool)(m':Mem),Mem.le ab m'→R (Value.bool ae) m' []→[some (Box.mk aa (List.replicate 256 (int i64 0)) 106 256 false true),some (Box.mk b
 p0 109 260 true true)]=[some (Box.mk aa (List.replicate 256 (int i64 0)) 106 256 false true),some (Box.mk b p0 109 260 true true)]∧[Value.bool !ae]=[Value.bool ag])))))))))) (Eng.ZrO p0 0 fun(ah:Value)=>chk
 (Zal i64 ah&&decide (i64=i64)) (br (RowKit.intOf ah == (4:Int)) (chk (Zal i64 v&&decide (i64=i64)) (br (RowKit.intOf v == (4:Int)) ([some (Box.mk aa (List.replicate 256 (int i64 0)) 106 256 false true),
 some (Box.mk b p0 109 260 true true)]=[some (Box.mk aa (List.replicate 256 (int i64 0)) 106 256 false true),some (Box.mk b p0 109 260 true true)]∧[Value.bool true]=[Value.bool ag]) (Eng.ZrO p0 0 fun(ac:Value)
 => chk (Zal i64 ac&&decide (i64=i64)) (br (RowKit.intOf ac == (5:Int)) (chk (Zal i64 v&&decide (i64=i64)) (br (RowKit.intOf v == (1:Int)) ([some (Box.mk aa (List.replicate 256 (int i64 0)) 106 256 false
 true),some (Box.mk b p0 109 260 true true)]=[some (Box.mk aa (List.replicate 256 (int i64 0)) 106 256 false true),some (Box.mk b p0 109 260 true true)]∧[Value.bool true]=[Value.bool ag]) (Eng.ZrO p0 259 fun(v
 : Value)=>chk (ZbS v) (∃(ad:Nat),∃(o:Nat),slA v=some (Addr.mk ad o none)∧Zaf n (slN v)∧∃(vs:List Value),List.length vs=260∧Mem.reads ab ad (o+Int.toNat n*260) vs∧∃(R:RT),True∧CX
 Try.prog 121 (Array.mk [agg (Array.mk vs)]) ab [] R∧Zax Shape.bool R∧∀(ae:Bool)(m':Mem),Mem.le ab m'→R (Value.bool ae) m' []→[some (Box.mk aa (List.replicate 256 (int i64 0)) 106 256 false true),some
 (Box.mk b p0 109 260 true true)]=[some (Box.mk aa (List.replicate 256 (int i64 0)) 106 256 false true),some (Box.mk b p0 109 260 true true)]∧[Value.bool !ae]=[Value.bool ag])))) (Eng.ZrO p0 259 fun(v:Value)
 => chk (ZbS v) (∃(ad:Nat),∃(o:Nat),slA v=some (Addr.mk ad o none)∧Zaf n (slN v)∧∃(vs:List Value),List.length vs=260∧Mem.reads ab ad (o+Int.toNat n*260) vs∧∃(R:RT),True∧CX Try.prog
 121 (Array.mk [agg (Array.mk vs)]) ab [] R∧Zax Shape.bool R∧∀(ae:Bool)(m':Mem),Mem.le ab m'→R (Value.bool ae) m' []→[some (Box.mk aa (List.replicate 256 (int i64 0)) 106 256 false true),some (Box.mk b
 p0 109 260 true true)]=[some (Box.mk aa (List.replicate 256 (int i64 0)) 106 256 false true),some (Box.mk b p0 109 260 true true)]∧[Value.bool !ae]=[Value.bool ag])))))) (Eng.ZrO p0 0 fun(ac:Value)=>chk
 (Zal i64 ac&&decide (i64=i64)) (br (RowKit.intOf ac == (5:Int)) (chk (Zal i64 v&&decide (i64=i64)) (br (RowKit.intOf v == (1:Int)) ([some (Box.mk aa (List.replicate 256 (int i64 0)) 106 256 false true),
 some (Box.mk b p0 109 260 true true)]=[some (Box.mk aa (List.replicate 256 (int i64 0)) 106 256 false true),some (Box.mk b p0 109 260 true true)]∧[Value.bool true]=[Value.bool ag]) (Eng.ZrO p0 259 fun(v:
 Value)=>chk (ZbS v) (∃(ad:Nat),∃(o:Nat),slA v=some (Addr.mk ad o none)∧Zaf n (slN v)∧∃(vs:List Value),List.length vs=260∧Mem.reads ab ad (o+Int.toNat n*260) vs∧∃(R:RT),True∧CX
 Try.prog 121 (Array.mk [agg (Array.mk vs)]) ab [] R∧Zax Shape.bool R∧∀(ae:Bool)(m':Mem),Mem.le ab m'→R (Value.bool ae) m' []→[some (Box.mk aa (List.replicate 256 (int i64 0)) 106 256 false true),some
 (Box.mk b p0 109 260 true true)]=[some (Box.mk aa (List.replicate 256 (int i64 0)) 106 256 false true),some (Box.mk b p0 109 260 true true)]∧[Value.bool !ae]=[Value.bool ag])))) (Eng.ZrO p0 259 fun(v:Value)
 => chk (ZbS v) (∃(ad:Nat),∃(o:Nat),slA v=some (Addr.mk ad o none)∧Zaf n (slN v)∧∃(vs:List Value),List.length vs=260∧Mem.reads ab ad (o+Int.toNat n*260) vs∧∃(R:RT),True∧CX Try.prog
 121 (Array.mk [agg (Array.mk vs)]) ab [] R∧Zax Shape.bool R∧∀(ae:Bool)(m':Mem),Mem.le ab m'→R (Value.bool ae) m' []→[some (Box.mk aa (List.replicate 256 (int i64 0)) 106 256 false true),some (Box.mk b
 p0 109 260 true true)]=[some (Box.mk aa (List.replicate 256 (int i64 0)) 106 256 false true),some (Box.mk b p0 109 260 true true)]∧[Value.bool !ae]=[Value.bool ag]))))))))∧br ag (∃(m'':Mem),Mem.le m m''∧
 Mem.le m'' ab∧R (Value.bool false) m'' []) ([some (Box.mk aa (List.replicate 256 (int i64 0)) 106 256 false true),some (Box.mk b p0 109 260 true true)]=[some (Box.mk aa (List.replicate 256 (int i64 0)) 106 256
 false true),some (Box.mk b p0 109 260 true true)]∧∃(n':Nat),n' < am∧I [int i64 (IntKind.wrap i64 (n+(1:Int)))] [] [] ab n'))) (∃(m'':Mem),Mem.le m m''∧Mem.le m'' ab∧R (Value.bool true) m''
 []))))))))))))
theorem ZiR(p0:List Value)(m:Mem)(R:RT)(h:Zft p0 m R):CX Try.prog 121 #[.agg p0.toArray] m [] R:=
 Zad (E:=ZkC) ZaA mix Try.func121 [.v (.agg p0.toArray)] [] (by kernel_rfl) (Eq.mp (by kernel_rfl) h)
noncomputable def ZkD:Env:={ EB with
 joins:=(fun i=>bif Nat.beq i 1 then some [(2,.bool)]else none)
 frzNew:=[1] }
def Zfu(p0:List Value)(m:Mem)(R:RT):Prop:=
 chk (Nat.beq (List.length p0) 260) (∀(b:Nat)(m':Mem),Mem.le m m'→Mem.reads m' b 0 p0→∃(b_1:Bool),(∃(R:RT),True∧CX Try.prog 120 (Array.mk [agg (Array.mk p0)]) m' [] R∧Zax Shape.bool R∧∀(b_2:
 Bool) (m'_1:Mem),Mem.le m' m'_1→R (Value.bool b_2) m'_1 []→br b_2 (∃(R:RT),True∧CX Try.prog 121 (Array.mk [agg (Array.mk p0)]) m'_1 [] R∧Zax Shape.bool R∧∀(b_3:Bool)(m':Mem),Mem.le m'_1 m'→R
 (Value.bool b_3) m' []→[some (Box.mk b p0 109 260 true true)]=[some (Box.mk b p0 109 260 true true)]∧[Value.bool b_3]=[Value.bool b_1]) ([some (Box.mk b p0 109 260 true true)]=[some (Box.mk b p0 109 260 true
 true)]∧[Value.bool false]=[Value.bool b_1]))∧∃(m'':Mem),Mem.le m m''∧Mem.le m'' m'∧R (Value.bool b_1) m'' [])
theorem ZiS(p0:List Value)(m:Mem)(R:RT)(h:Zfu p0 m R):CX Try.prog 107 #[.agg p0.toArray] m [] R:=
 Zad (E:=ZkD) ZaA mix Try.func107 [.v (.agg p0.toArray)] [] (by kernel_rfl) (Eq.mp (by kernel_rfl) h)
noncomputable def Zmg:Env:={ EB with
 loops:=(fun i=>bif Nat.beq i 4 then⟨[(5,.int .i64)],[],[],false⟩ else⟨[],[],[],false⟩)
 joins:=(fun i=>bif Nat.beq i 1 then some [(40,.bool)]else none)
 dr:=(fun i=>bif Nat.beq i 6 then[⟨0,[2],[],none,[],[]⟩,⟨1,[2],[],none,[0],[]⟩,⟨2,[],[],none,[],[]⟩,⟨3,[],[],none,[0,1,2],[]⟩,⟨4,[],[],none,[0,1,2,3],[]⟩,⟨5,[3],[],none,[],[]⟩,⟨6,[3],[],none,[5],[]⟩,⟨7,[],[],none,[],[]⟩,⟨8,[],[],none,[5,6,7],[]⟩,⟨9,[],[],none,[5,6,7,8],[]⟩,⟨10,[],[],none,[0,1,2,3,4,5,6,7,8,9],[]⟩,⟨11,[],[],none,[0,1,2,3,4,5,6,7,8,9,10],[]⟩]else[])
 frzNew:=[2,3]
 gb:=true }
def Zgx(p0 p1:List Value)(m:Mem)(R:RT):Prop:=
 chk (Nat.beq (List.length p0) 260) (∀(b:Nat)(m':Mem),Mem.le m m'→Mem.reads m' b 0 p0→chk (Nat.beq (List.length p1) 260) (∀(aa:Nat)(ac:Mem),Mem.le m' ac→Mem.reads ac aa 0 p1→∃(ab:Bool),(Eng.ZrO
 p0 0 fun(v:Value)=>Eng.ZrO p1 0 fun(ag:Value)=>chk (Zal i64 v&&Zal i64 ag) (br (!RowKit.intOf v == RowKit.intOf ag) ([some (Box.mk aa p1 109 260 true true),some (Box.mk b p0 109 260 true true)]=[some
 (Box.mk aa p1 109 260 true true),some (Box.mk b p0 109 260 true true)]∧[Value.bool true]=[Value.bool ab]) (chk (Nat.ble 257 (List.length p0)) (chk (Nat.ble 257 (List.length p1)) (∃(ad:Bool),EqIs Try.prog 106
 (agg (Array.mk (List.take 256 (List.drop 1 p0)))) (agg (Array.mk (List.take 256 (List.drop 1 p1)))) ad∧br (!ad) ([some (Box.mk aa p1 109 260 true true),some (Box.mk b p0 109 260 true true)]=[some (Box.mk aa p1 109
 260 true true),some (Box.mk b p0 109 260 true true)]∧[Value.bool true]=[Value.bool ab]) (Eng.ZrO p0 257 fun(v:Value)=>Eng.ZrO p1 257 fun(ah:Value)=>chk (Zal i64 v&&Zal i64 ah) (br (!RowKit.intOf v
 == RowKit.intOf ah) ([some (Box.mk aa p1 109 260 true true),some (Box.mk b p0 109 260 true true)]=[some (Box.mk aa p1 109 260 true true),some (Box.mk b p0 109 260 true true)]∧[Value.bool true]=[Value.bool ab])
 (Eng.ZrO p0 258 fun(v:Value)=>Eng.ZrO p1 258 fun(ai:Value)=>chk (Zal i64 v&&Zal i64 ai) (br (!RowKit.intOf v == RowKit.intOf ai) ([some (Box.mk aa p1 109 260 true true),some (Box.mk b p0 109 260 true
 true)]=[some (Box.mk aa p1 109 260 true true),some (Box.mk b p0 109 260 true true)]∧[Value.bool true]=[Value.bool ab]) (Eng.ZrO p0 259 fun(v:Value)=>chk (ZbS v) (Eng.ZrO p1 259 fun(aj:Value)=>chk
 (ZbS aj) ([some (Box.mk aa p1 109 260 true true),some (Box.mk b p0 109 260 true true)]=[some (Box.mk aa p1 109 260 true true),some (Box.mk b p0 109 260 true true)]∧[Value.bool !(↑(slN v):Int) == (↑(slN aj):
 Int)]=[Value.bool ab]))))))))))))∧br ab (∃(m'':Mem),Mem.le m m''∧Mem.le m'' ac∧R (Value.bool false) m'' []) (∃(I:IT),(∃(n:Nat),I [int i64 0] [] [] ac n)∧∀(n:Int)(m':Mem)(ak:Nat),Mem.le ac
 m'→I [int i64 n] [] [] m' ak→Eng.ZrO p0 259 fun(v:Value)=>chk (ZbS v) (br (decide (n < (↑(slN v):Int))) (∃(f:Fx),Eng.ZrO p0 259 fun(v:Value)=>chk (ZbS v) (∃(ad:Nat),∃(o:Nat),slA v=some
 (Addr.mk ad o none)∧Zaf n (slN v)∧∃(vs:List Value),List.length vs=260∧Mem.reads m' ad (o+Int.toNat n*260) vs∧Eng.ZrO p1 259 fun(v:Value)=>chk (ZbS v) (∃(al:Nat),∃(o:Nat),slA v=some
 (Addr.mk al o none)∧Zaf n (slN v)∧∃(ae:List Value),List.length ae=260∧Mem.reads m' al (o+Int.toNat n*260) ae∧∃(R_1:RT),R_1=f 10 [agg (Array.mk vs),agg (Array.mk ae)] m'∧CX Try.prog 89
 (Array.mk [agg (Array.mk vs),agg (Array.mk ae)]) m' [] R_1∧Zax Shape.bool R_1∧∀(am:Bool)(af:Mem),Mem.le m' af→R_1 (Value.bool am) af []→∀(M:Mem),Mem.le m' M→Mem.le af M→br (!am) (∃(m'':Mem),
 Mem.le m m''∧Mem.le m'' M∧R (Value.bool false) m'' []) ([some (Box.mk aa p1 109 260 true true),some (Box.mk b p0 109 260 true true)]=[some (Box.mk aa p1 109 260 true true),some (Box.mk b p0 109 260 true true)]∧
 ∃(n':Nat),n' < ak∧I [int i64 (IntKind.wrap i64 (n+(1:Int)))] [] [] M n')))) (∃(m'':Mem),Mem.le m m''∧Mem.le m'' m'∧R (Value.bool true) m'' [])))))
theorem ZkE(p0 p1:List Value)(m:Mem)(R:RT)(h:Zgx p0 p1 m R):CX Try.prog 89 #[.agg p0.toArray,.agg p1.toArray] m [] R:=
 Zad (E:=Zmg) ZaA mix Try.func89 [.v (.agg p0.toArray),.v (.agg p1.toArray)] [] (by kernel_rfl) (Eq.mp (by kernel_rfl) h)
noncomputable def ZfS:Env:={ EB with
 loops:=(fun i=>bif Nat.beq i 5 then⟨[(3,.int .i64),(4,.int .i64)],[],[],false⟩ else⟨[],[],[],false⟩)
 frzNew:=[1]
 gb:=true }
def ZcK(p0:List Value)(m:Mem)(R:RT):Prop:=
 chk (Nat.beq (List.length p0) 260) (∀(b:Nat)(m':Mem),Mem.le m m'→Mem.reads m' b 0 p0→Eng.ZrO p0 0 fun(v:Value)=>chk (Zal i64 v&&decide (i64=i64)) (br (RowKit.intOf v == (2:Int)) (∃(I:IT),(∃
 (n:Nat),I [int i64 1,int i64 0] [] [] m' n)∧∀(n ab:Int)(aa:Mem)(ac:Nat),Mem.le m' aa→I [int i64 n,int i64 ab] [] [] aa ac→Eng.ZrO p0 259 fun(v:Value)=>chk (ZbS v) (br (decide (ab < (↑(slN v)
 : Int))) (Eng.ZrO p0 259 fun(v:Value)=>chk (ZbS v) (∃(ad:Nat),∃(o:Nat),slA v=some (Addr.mk ad o none)∧Zaf ab (slN v)∧∃(vs:List Value),List.length vs=260∧Mem.reads aa ad (o+Int.toNat ab
 * 260) vs∧∃(R:RT),True∧CX Try.prog 123 (Array.mk [agg (Array.mk vs)]) aa [] R∧Zax (Shape.int i64) R∧∀(ae:Int)(m':Mem),Mem.le aa m'→R (int i64 ae) m' []→[some (Box.mk b p0 109 260 true true)] =
 [some (Box.mk b p0 109 260 true true)]∧∃(n':Nat),n' < ac∧I [int i64 (IntKind.wrap i64 (n+ae)),int i64 (IntKind.wrap i64 (ab+(1:Int)))] [] [] m' n')) (Eng.ZrO p0 0 fun(v:Value)=>chk (Zal i64 v &&
 decide (i64=i64)) (br (RowKit.intOf v == (5:Int)) (Eng.ZrO p0 258 fun(v:Value)=>Eng.ZrO p0 258 fun(af:Value)=>chk (Zal i64 af&&decide (i64=i64)) (br (RowKit.intOf af == (-1:Int)) (Eng.ZrO p0 257
 fun(v:Value)=>chk (Zal i64 v) (br (decide ((1:Int) < RowKit.intOf v)) (Eng.ZrO p0 257 fun(v:Value)=>chk (Zal i64 v&&decide (i64=i64)) (br (decide (RowKit.intOf v < (0:Int))) (br (decide
 (IntKind.wrap i64 (n*(0:Int)) > (10001:Int))) (∃(m'':Mem),Mem.le m m''∧Mem.le m'' aa∧R (int i64 10001) m'' []) (∃(m'':Mem),Mem.le m m''∧Mem.le m'' aa∧R (int i64 (IntKind.wrap i64 (n*(0:Int))))
 m'' [])) (chk (Zal i64 v&&decide (i64=i64)) (br (decide (RowKit.intOf v > (10001:Int))) (br (decide (IntKind.wrap i64 (n*(10001:Int)) > (10001:Int))) (∃(m'':Mem),Mem.le m m''∧Mem.le m'' aa∧R (int
 i64 10001) m'' []) (∃(m'':Mem),Mem.le m m''∧Mem.le m'' aa∧R (int i64 (IntKind.wrap i64 (n*(10001:Int)))) m'' [])) (chk (Zal i64 v) (br (decide (IntKind.wrap i64 (n*RowKit.intOf v) > (10001:Int))) (∃
 (m'':Mem),Mem.le m m''∧Mem.le m'' aa∧R (int i64 10001) m'' []) (∃(m'':Mem),Mem.le m m''∧Mem.le m'' aa∧R (int i64 (IntKind.wrap i64 (n*RowKit.intOf v))) m'' []))))))) (br (decide (IntKind.wrap i64 (n *
 (1:Int)) > (10001:Int))) (∃(m'':Mem),Mem.le m m''∧Mem.le m'' aa∧R (int i64 10001) m'' []) (∃(m'':Mem),Mem.le m m''∧Mem.le m'' aa∧R (int i64 (IntKind.wrap i64 (n*(1:Int)))) m'' [])))) (Eng.ZrO p0
 257 fun(ag:Value)=>chk (Zal i64 v&&Zal i64 ag) (br (decide (RowKit.intOf v < RowKit.intOf ag)) (Eng.ZrO p0 257 fun(v:Value)=>chk (Zal i64 v&&decide (i64=i64)) (br (decide (RowKit.intOf v < (0:
 Int))) (br (decide (IntKind.wrap i64 (n*(0:Int)) > (10001:Int))) (∃(m'':Mem),Mem.le m m''∧Mem.le m'' aa∧R (int i64 10001) m'' []) (∃(m'':Mem),Mem.le m m''∧Mem.le m'' aa∧R (int i64 (IntKind.wrap i64
 (n*(0:Int)))) m'' [])) (chk (Zal i64 v&&decide (i64=i64)) (br (decide (RowKit.intOf v > (10001:Int))) (br (decide (IntKind.wrap i64 (n*(10001:Int)) > (10001:Int))) (∃(m'':Mem),Mem.le m m''∧Mem.le
 m'' aa∧R (int i64 10001) m'' []) (∃(m'':Mem),Mem.le m m''∧Mem.le m'' aa∧R (int i64 (IntKind.wrap i64 (n*(10001:Int)))) m'' [])) (chk (Zal i64 v) (br (decide (IntKind.wrap i64 (n*RowKit.intOf v) >
 (10001:Int))) (∃(m'':Mem),Mem.le m m''∧Mem.le m'' aa∧R (int i64 10001) m'' []) (∃(m'':Mem),Mem.le m m''∧Mem.le m'' aa∧R (int i64 (IntKind.wrap i64 (n*RowKit.intOf v))) m'' []))))))) (chk (Zal i64 v
 && decide (i64=i64)) (br (decide (RowKit.intOf v < (0:Int))) (br (decide (IntKind.wrap i64 (n*(0:Int)) > (10001:Int))) (∃(m'':Mem),Mem.le m m''∧Mem.le m'' aa∧R (int i64 10001) m'' []) (∃(m'':Mem),
 Mem.le m m''∧Mem.le m'' aa∧R (int i64 (IntKind.wrap i64 (n*(0:Int)))) m'' [])) (chk (Zal i64 v&&decide (i64=i64)) (br (decide (RowKit.intOf v > (10001:Int))) (br (decide (IntKind.wrap i64 (n*(10001:
 Int)) > (10001:Int))) (∃(m'':Mem),Mem.le m m''∧Mem.le m'' aa∧R (int i64 10001) m'' []) (∃(m'':Mem),Mem.le m m''∧Mem.le m'' aa∧R (int i64 (IntKind.wrap i64 (n*(10001:Int)))) m'' [])) (chk (Zal i64
 v) (br (decide (IntKind.wrap i64 (n*RowKit.intOf v) > (10001:Int))) (∃(m'':Mem),Mem.le m m''∧Mem.le m'' aa∧R (int i64 10001) m'' []) (∃(m'':Mem),Mem.le m m''∧Mem.le m'' aa∧R (int i64 (IntKind.wrap
 i64 (n*RowKit.intOf v))) m'' []))))))))))) (br (decide (n > (10001:Int))) (∃(m'':Mem),Mem.le m m''∧Mem.le m'' aa∧R (int i64 10001) m'' []) (∃(m'':Mem),Mem.le m m''∧Mem.le m'' aa∧R (int i64 n) m''
 [])))))) (∃(I:IT),(∃(n:Nat),I [int i64 0,int i64 0] [] [] m' n)∧∀(n ab:Int)(aa:Mem)(ac:Nat),Mem.le m' aa→I [int i64 n,int i64 ab] [] [] aa ac→Eng.ZrO p0 259 fun(v:Value)=>chk (ZbS v) (br
 (decide (ab < (↑(slN v):Int))) (Eng.ZrO p0 259 fun(v:Value)=>chk (ZbS v) (∃(ad:Nat),∃(o:Nat),slA v=some (Addr.mk ad o none)∧Zaf ab (slN v)∧∃(vs:List Value),List.length vs=260∧Mem.reads
 aa ad (o+Int.toNat ab*260) vs∧∃(R:RT),True∧CX Try.prog 123 (Array.mk [agg (Array.mk vs)]) aa [] R∧Zax (Shape.int i64) R∧∀(ae:Int)(m':Mem),Mem.le aa m'→R (int i64 ae) m' []→[some (Box.mk b p0
 109 260 true true)]=[some (Box.mk b p0 109 260 true true)]∧∃(n':Nat),n' < ac∧I [int i64 (IntKind.wrap i64 (n+ae)),int i64 (IntKind.wrap i64 (ab+(1:Int)))] [] [] m' n')) (Eng.ZrO p0 0 fun(v:Value)=>
 chk (Zal i64 v&&decide (i64=i64)) (br (RowKit.intOf v == (5:Int)) (Eng.ZrO p0 258 fun(v:Value)=>Eng.ZrO p0 258 fun(af:Value)=>chk (Zal i64 af&&decide (i64=i64)) (br (RowKit.intOf af == (-1:
 Int)) (Eng.ZrO p0 257 fun(v:Value)=>chk (Zal i64 v) (br (decide ((1:Int) < RowKit.intOf v)) (Eng.ZrO p0 257 fun(v:Value)=>chk (Zal i64 v&&decide (i64=i64)) (br (decide (RowKit.intOf v < (0:Int)))
 (br (decide (IntKind.wrap i64 (n*(0:Int)) > (10001:Int))) (∃(m'':Mem),Mem.le m m''∧Mem.le m'' aa∧R (int i64 10001) m'' []) (∃(m'':Mem),Mem.le m m''∧Mem.le m'' aa∧R (int i64 (IntKind.wrap i64 (n *
 (0:Int)))) m'' [])) (chk (Zal i64 v&&decide (i64=i64)) (br (decide (RowKit.intOf v > (10001:Int))) (br (decide (IntKind.wrap i64 (n*(10001:Int)) > (10001:Int))) (∃(m'':Mem),Mem.le m m''∧Mem.le m''
 aa∧R (int i64 10001) m'' []) (∃(m'':Mem),Mem.le m m''∧Mem.le m'' aa∧R (int i64 (IntKind.wrap i64 (n*(10001:Int)))) m'' [])) (chk (Zal i64 v) (br (decide (IntKind.wrap i64 (n*RowKit.intOf v) > (10001:
 Int))) (∃(m'':Mem),Mem.le m m''∧Mem.le m'' aa∧R (int i64 10001) m'' []) (∃(m'':Mem),Mem.le m m''∧Mem.le m'' aa∧R (int i64 (IntKind.wrap i64 (n*RowKit.intOf v))) m'' []))))))) (br (decide (IntKind.wrap
 i64 (n*(1:Int)) > (10001:Int))) (∃(m'':Mem),Mem.le m m''∧Mem.le m'' aa∧R (int i64 10001) m'' []) (∃(m'':Mem),Mem.le m m''∧Mem.le m'' aa∧R (int i64 (IntKind.wrap i64 (n*(1:Int)))) m'' []))))
 (Eng.ZrO p0 257 fun(ag:Value)=>chk (Zal i64 v&&Zal i64 ag) (br (decide (RowKit.intOf v < RowKit.intOf ag)) (Eng.ZrO p0 257 fun(v:Value)=>chk (Zal i64 v&&decide (i64=i64)) (br (decide
 (RowKit.intOf v < (0:Int))) (br (decide (IntKind.wrap i64 (n*(0:Int)) > (10001:Int))) (∃(m'':Mem),Mem.le m m''∧Mem.le m'' aa∧R (int i64 10001) m'' []) (∃(m'':Mem),Mem.le m m''∧Mem.le m'' aa∧R
 (int i64 (IntKind.wrap i64 (n*(0:Int)))) m'' [])) (chk (Zal i64 v&&decide (i64=i64)) (br (decide (RowKit.intOf v > (10001:Int))) (br (decide (IntKind.wrap i64 (n*(10001:Int)) > (10001:Int))) (∃(m'':
 Mem),Mem.le m m''∧Mem.le m'' aa∧R (int i64 10001) m'' []) (∃(m'':Mem),Mem.le m m''∧Mem.le m'' aa∧R (int i64 (IntKind.wrap i64 (n*(10001:Int)))) m'' [])) (chk (Zal i64 v) (br (decide (IntKind.wrap i64
 (n*RowKit.intOf v) > (10001:Int))) (∃(m'':Mem),Mem.le m m''∧Mem.le m'' aa∧R (int i64 10001) m'' []) (∃(m'':Mem),Mem.le m m''∧Mem.le m'' aa∧R (int i64 (IntKind.wrap i64 (n*RowKit.intOf v))) m''
 []))))))) (chk (Zal i64 v&&decide (i64=i64)) (br (decide (RowKit.intOf v < (0:Int))) (br (decide (IntKind.wrap i64 (n*(0:Int)) > (10001:Int))) (∃(m'':Mem),Mem.le m m''∧Mem.le m'' aa∧R (int i64
 10001) m'' []) (∃(m'':Mem),Mem.le m m''∧Mem.le m'' aa∧R (int i64 (IntKind.wrap i64 (n*(0:Int)))) m'' [])) (chk (Zal i64 v&&decide (i64=i64)) (br (decide (RowKit.intOf v > (10001:Int))) (br (decide
 (IntKind.wrap i64 (n*(10001:Int)) > (10001:Int))) (∃(m'':Mem),Mem.le m m''∧Mem.le m'' aa∧R (int i64 10001) m'' []) (∃(m'':Mem),Mem.le m m''∧Mem.le m'' aa∧R (int i64 (IntKind.wrap i64 (n*(10001:
 Int)))) m'' [])) (chk (Zal i64 v) (br (decide (IntKind.wrap i64 (n*RowKit.intOf v) > (10001:Int))) (∃(m'':Mem),Mem.le m m''∧Mem.le m'' aa∧R (int i64 10001) m'' []) (∃(m'':Mem),Mem.le m m''∧Mem.le m''
 aa∧R (int i64 (IntKind.wrap i64 (n*RowKit.intOf v))) m'' []))))))))))) (br (decide (n > (10001:Int))) (∃(m'':Mem),Mem.le m m''∧Mem.le m'' aa∧R (int i64 10001) m'' []) (∃(m'':Mem),Mem.le m m''∧Mem.le
 m'' aa∧R (int i64 n) m'' []))))))))
theorem ZeY(p0:List Value)(m:Mem)(R:RT)(h:ZcK p0 m R):CX Try.prog 123 #[.agg p0.toArray] m [] R:=
 Zad (E:=ZfS) ZaA mix Try.func123 [.v (.agg p0.toArray)] [] (by kernel_rfl) (Eq.mp (by kernel_rfl) h)
noncomputable def ZfT:Env:={ EB with
 frzNew:=[1] }
def ZcL(p0:List Value)(m:Mem)(R:RT):Prop:=
 chk (Nat.beq (List.length p0) 260) (∀(b:Nat)(m':Mem),Mem.le m m'→Mem.reads m' b 0 p0→∃(R_1:RT),True∧CX Try.prog 120 (Array.mk [agg (Array.mk p0)]) m' [] R_1∧Zax Shape.bool R_1∧∀(b:Bool) (m'_1:
 Mem),Mem.le m' m'_1→R_1 (Value.bool b) m'_1 []→br (!b) (∃(m'':Mem),Mem.le m m''∧Mem.le m'' m'_1∧R (int i64 10001) m'' []) (∃(R_2:RT),True∧CX Try.prog 123 (Array.mk [agg (Array.mk p0)]) m'_1 [] R_2∧
 Zax (Shape.int i64) R_2∧∀(n:Int)(m':Mem),Mem.le m'_1 m'→R_2 (int i64 n) m' []→∃(m'':Mem),Mem.le m m''∧Mem.le m'' m'∧R (int i64 n) m'' []))
theorem ZeZ(p0:List Value)(m:Mem)(R:RT)(h:ZcL p0 m R):CX Try.prog 109 #[.agg p0.toArray] m [] R:=
 Zad (E:=ZfT) ZaA mix Try.func109 [.v (.agg p0.toArray)] [] (by kernel_rfl) (Eq.mp (by kernel_rfl) h)
noncomputable def ZiT:Env:={ EB with
 loops:=(fun i=>bif Nat.beq i 5 then⟨[(3,.int .i64),(4,.int .i64)],[],[],false⟩ else⟨[],[],[],false⟩)
 frzNew:=[1] }
def ZeE(p0:List Value)(m:Mem)(R:RT):Prop:=
 chk (Nat.beq (List.length p0) 260) (∀(b:Nat)(m':Mem),Mem.le m m'→Mem.reads m' b 0 p0→Eng.ZrO p0 0 fun(v:Value)=>chk (Zal i64 v&&decide (i64=i64)) (br (RowKit.intOf v == (6:Int)) (∃(I:IT),(∃
 (n:Nat),I [int i64 1,int i64 0] [] [] m' n)∧∀(n n_1:Int)(m'_1:Mem)(n_2:Nat),Mem.le m' m'_1→I [int i64 n,int i64 n_1] [] [] m'_1 n_2→Eng.ZrO p0 259 fun(v:Value)=>chk (ZbS v) (br (decide (n_1 <
 (↑(slN v):Int))) (Eng.ZrO p0 259 fun(v:Value)=>chk (ZbS v) (∃(b_1:Nat),∃(o:Nat),slA v=some (Addr.mk b_1 o none)∧Zaf n_1 (slN v)∧∃(vs:List Value),List.length vs=260∧Mem.reads m'_1 b_1
 (o+Int.toNat n_1*260) vs∧∃(R:RT),True∧CX Try.prog 124 (Array.mk [agg (Array.mk vs)]) m'_1 [] R∧Zax (Shape.int i64) R∧∀(n_3:Int)(m':Mem),Mem.le m'_1 m'→R (int i64 n_3) m' []→[some (Box.mk b p0
 109 260 true true)]=[some (Box.mk b p0 109 260 true true)]∧∃(n':Nat),n' < n_2∧I [int i64 (IntKind.wrap i64 (n+n_3)),int i64 (IntKind.wrap i64 (n_1+(1:Int)))] [] [] m' n')) (∃(m'':Mem),Mem.le m m''∧
 Mem.le m'' m'_1∧R (int i64 n) m'' []))) (∃(I:IT),(∃(n:Nat),I [int i64 0,int i64 0] [] [] m' n)∧∀(n n_1:Int)(m'_1:Mem)(n_2:Nat),Mem.le m' m'_1→I [int i64 n,int i64 n_1] [] [] m'_1 n_2→Eng.ZrO
 p0 259 fun(v:Value)=>chk (ZbS v) (br (decide (n_1 < (↑(slN v):Int))) (Eng.ZrO p0 259 fun(v:Value)=>chk (ZbS v) (∃(b_1:Nat),∃(o:Nat),slA v=some (Addr.mk b_1 o none)∧Zaf n_1 (slN v)∧∃(vs
 : List Value),List.length vs=260∧Mem.reads m'_1 b_1 (o+Int.toNat n_1*260) vs∧∃(R:RT),True∧CX Try.prog 124 (Array.mk [agg (Array.mk vs)]) m'_1 [] R∧Zax (Shape.int i64) R∧∀(n_3:Int)(m':Mem),
 Mem.le m'_1 m'→R (int i64 n_3) m' []→[some (Box.mk b p0 109 260 true true)]=[some (Box.mk b p0 109 260 true true)]∧∃(n':Nat),n' < n_2∧I [int i64 (IntKind.wrap i64 (n+n_3)),int i64 (IntKind.wrap i64 (n_1
 + (1:Int)))] [] [] m' n')) (∃(m'':Mem),Mem.le m m''∧Mem.le m'' m'_1∧R (int i64 n) m'' [])))))
theorem ZhK(p0:List Value)(m:Mem)(R:RT)(h:ZeE p0 m R):CX Try.prog 124 #[.agg p0.toArray] m [] R:=
 Zad (E:=ZiT) ZaA mix Try.func124 [.v (.agg p0.toArray)] [] (by kernel_rfl) (Eq.mp (by kernel_rfl) h)
noncomputable def ZiU:Env:={ EB with
 frzNew:=[1] }
def ZeF(p0:List Value)(m:Mem)(R:RT):Prop:=
 chk (Nat.beq (List.length p0) 260) (∀(b:Nat)(m':Mem),Mem.le m m'→Mem.reads m' b 0 p0→∃(R_1:RT),True∧CX Try.prog 120 (Array.mk [agg (Array.mk p0)]) m' [] R_1∧Zax Shape.bool R_1∧∀(b:Bool) (m'_1:
 Mem),Mem.le m' m'_1→R_1 (Value.bool b) m'_1 []→br (!b) (∃(m'':Mem),Mem.le m m''∧Mem.le m'' m'_1∧R (int i64 10001) m'' []) (∃(R_2:RT),True∧CX Try.prog 124 (Array.mk [agg (Array.mk p0)]) m'_1 [] R_2∧
 Zax (Shape.int i64) R_2∧∀(n:Int)(m':Mem),Mem.le m'_1 m'→R_2 (int i64 n) m' []→∃(m'':Mem),Mem.le m m''∧Mem.le m'' m'∧R (int i64 n) m'' []))
theorem ZhL(p0:List Value)(m:Mem)(R:RT)(h:ZeF p0 m R):CX Try.prog 110 #[.agg p0.toArray] m [] R:=
 Zad (E:=ZiU) ZaA mix Try.func110 [.v (.agg p0.toArray)] [] (by kernel_rfl) (Eq.mp (by kernel_rfl) h)
noncomputable def ZkF:Env:={ EB with
 frzNew:=[1] }
def Zfv(p0:List Value)(m:Mem)(R:RT):Prop:=
 chk (Nat.beq (List.length p0) 260) (∀(b:Nat)(m':Mem),Mem.le m m'→Mem.reads m' b 0 p0→∃(R_1:RT),True∧CX Try.prog 107 (Array.mk [agg (Array.mk p0)]) m' [] R_1∧Zax Shape.bool R_1∧∀(b:Bool) (m'_1:
 Mem),Mem.le m' m'_1→R_1 (Value.bool b) m'_1 []→br (!b) (∃(m'':Mem),Mem.le m m''∧Mem.le m'' m'_1∧R (int i64 80) m'' []) (∃(R_2:RT),True∧CX Try.prog 108 (Array.mk [agg (Array.mk p0)]) m'_1 [] R_2∧Zax
 (Shape.int i64) R_2∧∀(n:Int)(m':Mem),Mem.le m'_1 m'→R_2 (int i64 n) m' []→br (decide (n > (120:Int))) (∃(m'':Mem),Mem.le m m''∧Mem.le m'' m'∧R (int i64 81) m'' []) (∃(R_3:RT),True∧CX
 Try.prog 109 (Array.mk [agg (Array.mk p0)]) m' [] R_3∧Zax (Shape.int i64) R_3∧∀(n:Int)(m'_2:Mem),Mem.le m' m'_2→R_3 (int i64 n) m'_2 []→br (decide (n > (400:Int))) (∃(m'':Mem),Mem.le m m''∧Mem.le
 m'' m'_2∧R (int i64 82) m'' []) (∃(R_4:RT),True∧CX Try.prog 110 (Array.mk [agg (Array.mk p0)]) m'_2 [] R_4∧Zax (Shape.int i64) R_4∧∀(n:Int)(m':Mem),Mem.le m'_2 m'→R_4 (int i64 n) m' []→br (decide
 (n > (9:Int))) (∃(m'':Mem),Mem.le m m''∧Mem.le m'' m'∧R (int i64 83) m'' []) (∃(m'':Mem),Mem.le m m''∧Mem.le m'' m'∧R (int i64 0) m'' [])))))
theorem ZiV(p0:List Value)(m:Mem)(R:RT)(h:Zfv p0 m R):CX Try.prog 85 #[.agg p0.toArray] m [] R:=
 Zad (E:=ZkF) ZaA mix Try.func85 [.v (.agg p0.toArray)] [] (by kernel_rfl) (Eq.mp (by kernel_rfl) h)
end Go.Proofs.Ythiefodednaikaa
set_option linter.unusedVariables false
namespace Go.Proofs.Ythiefodednaikaa
open Go Go.Eng Go.Proofs Go.RowKit
open Go.Value (int slice agg)
open Go.IntKind (u8 u64 i64)
set_option maxRecDepth 100000
noncomputable def ZkG:Env:={ EB with
 loops:=(fun i=>bif Nat.beq i 3 then⟨[(4,.int .i64)],[3],[],false⟩ else bif Nat.beq i 7 then⟨[(5,.int .u64),(6,.int .i64)],[],[],false⟩ else⟨[],[],[],false⟩)
 frzNew:=[1] }
def Zfw(aF aB aH aI:Int)(m:Mem)(R:RT):Prop:=
 ∀(b:Nat)(m':Mem),Mem.le m m'→Mem.reads m' b 0 [int u64 aF,int u64 aB,int u64 aH,int u64 aI]→∀(b_1 b_2:Nat),∃(I:IT),(∃(n:Nat),I [int i64 0] [List.replicate 256 (int i64 0)] [] m' n)∧∀
 (n:Int) (cs:List Value) (m'_1:Mem) (n_1:Nat),Mem.le m' m'_1→I [int i64 n] [cs] [] m'_1 n_1→br (decide (n < (256:Int))) ((64:Int)≠(0:Int)∧Zaf (IntKind.wrap i64 (Int.tdiv n (64:Int))) 4∧
 Eng.ZrO [int u64 aF,int u64 aB,int u64 aH,int u64 aI] (0+Int.toNat (IntKind.wrap i64 (Int.tdiv n (64:Int)))*1) fun(v:Value)=>∃(I_1:IT),chk (Shape.fits (Shape.int u64) v) (∃(n:Nat),I_1 [v,
 int i64 0] [] [] m'_1 n)∧∀(n_2 n_3:Int)(m':Mem)(n_4:Nat),Mem.le m'_1 m'→I_1 [int u64 n_2,int i64 n_3] [] [] m' n_4→(64:Int)≠(0:Int)∧br (decide (n_3 < Int.tmod n (64:Int))) ((2:Int)≠(0:
 Int)∧[some (Box.mk b_2 cs 106 256 false true),some (Box.mk b_1 (List.replicate 256 (int i64 0)) 106 256 false true),some (Box.mk b [int u64 aF,int u64 aB,int u64 aH,int u64 aI] 25 4 true true)]=[some
 (Box.mk b_2 cs 106 256 false true),some (Box.mk b_1 (List.replicate 256 (int i64 0)) 106 256 false true),some (Box.mk b [int u64 aF,int u64 aB,int u64 aH,int u64 aI] 25 4 true true)]∧∃(n':Nat),n' <
 n_4∧I_1 [int u64 (IntKind.wrap u64 (Int.tdiv n_2 (2:Int))),int i64 (IntKind.wrap i64 (n_3+(1:Int)))] [] [] m' n') ((2:Int)≠(0:Int)∧Zaf n 256∧chk (Nat.ble (0+Int.toNat n*1+1) (List.length
 cs)) ([some (Box.mk b_2 [] 106 256 false true),some (Box.mk b_1 (List.replicate 256 (int i64 0)) 106 256 false true),some (Box.mk b [int u64 aF,int u64 aB,int u64 aH,int u64 aI] 25 4 true true)]=[some
 (Box.mk b_2 [] 106 256 false true),some (Box.mk b_1 (List.replicate 256 (int i64 0)) 106 256 false true),some (Box.mk b [int u64 aF,int u64 aB,int u64 aH,int u64 aI] 25 4 true true)]∧∃(n':Nat),n' <
 n_1∧I [int i64 (IntKind.wrap i64 (n+(1:Int)))] [Zaj cs (0+Int.toNat n*1) [int i64 (IntKind.wrap i64 (Int.tmod n_2 (2:Int)))]] [] m' n'))) (chk (Nat.beq (List.length cs) 256&&Zcb cs) (∃(m'':Mem),
 Mem.le m m''∧Mem.le m'' m'_1∧R (agg (Array.mk cs)) m'' []))
theorem ZiW(aF aB aH aI:Int)(m:Mem)(R:RT)(h:Zfw aF aB aH aI m R):CX Try.prog 88 #[.agg #[.int .u64 aF,.int .u64 aB,.int .u64 aH,.int .u64 aI]] m [] R:=
 Zad (E:=ZkG) ZaA mix Try.func88 [.v (.agg #[.int .u64 aF,.int .u64 aB,.int .u64 aH,.int .u64 aI])] [] (by kernel_rfl) (Eq.mp (by kernel_rfl) h)
end Go.Proofs.Ythiefodednaikaa
set_option linter.unusedVariables false
set_option linter.unusedSimpArgs false
namespace Go.Proofs.Ythiefodednaikaa
open Go Go.Eng Go.Rx Go.Proofs Go.RowKit
set_option maxRecDepth 100000
theorem Zbg{α:Type}{l:List α}{k:Nat}(h:k < l.length):∃x,l[k]?=some x:=⟨l[k],by simp[h]⟩
theorem Zjm{α:Type}{l:List α}{k:Nat}{x:α}(h:l[k]?=some x):l.drop k=x::l.drop (k+1):=by
 obtain⟨hk,he⟩:=List.getElem?_eq_some_iff.1 h
 rw[List.drop_eq_getElem_cons hk,he]
theorem Zsw{m:Mem}{b:Nat}{v:Value}:rowRd (m.add b [v]) (some ⟨b,0,none⟩) [v]:=.inr ⟨b,0,rfl,fun j u hj=>by rw[Nat.zero_add,Mem.add_same];exact hj⟩
def NewS(m:Mem)(v:Value):Prop:=∀b o,slA v=some ⟨b,o,none⟩→m.free b
theorem NewS.less{m m0:Mem}{v:Value}(h:NewS m v)(k:m0.le m):NewS m0 v:=fun b o e x=>by
 cases he:m0 b x with
 | none=>rfl
 | some u=>have:=k _ _ _ he;rw[h b o e x]at this;cases this
theorem Zsx{P:Program}{w:World}{n:Nat}{f:Nat→(Option Bool×Unit)→Sem (ForInStep (Option Bool×Unit))}{p:Nat→Bool}(hf:∀i,i < n→(f i (none,())).run P w=.ok (if p i then .yield (none,())else .done (some false,())) w):
  ∀k i,i+k≤n→(forIn (List.range' i k) (none,()) f).run P w=.ok (if(List.range' i k).all p then(none,())else(some false,())) w
 | 0,i,h=>by simp
 | k+1,i,h=>by
  rw[List.range'_succ,List.forIn_cons,Sem.run_bind,hf i (by omega),Result.andThen_ok,List.all_cons]
  cases p i with
  | false=>simp
  | true=>
   have:=Zsx hf k (i+1) (by omega)
   rw[Bool.true_and]
   exact this
theorem ZvZ(xs ys:List Int)(hx:xs.length=256)(hy:ys.length=256):EqIs Try.prog 106 (.agg (Zgj xs).toArray) (.agg (Zgj ys).toArray) (decide (xs=ys)):=by
 refine⟨fun w=>?_,fun op ox oy w=>Zdi (by kernel_rfl) op ox oy _ _ w⟩
 have u3:=Try.underlying3
 have a3:=Try.isAgg3
 have z3:=Try.sizeOf3
 rw[Op.equal,Op.maxDepth,show(10000:Nat)=9999+1 from rfl,Op.equalIn]
 simp only[Sem.run_bind,run_underlying Try.underlying106,Result.andThen_ok]
 simp only[Std.Legacy.Range.forIn_eq_forIn_range',Std.Legacy.Range.size,Nat.sub_zero,Nat.add_sub_cancel,Nat.div_one]
 rw[z3,Result.andThen_ok,Zsx (n:=256) (p:=fun i=>decide (xs[i]?=ys[i]?)) (fun i hi=>?_) 256 0 (by omega),Result.andThen_ok]
 ·by_cases h:xs=ys
  ·subst h;simp
  ·have:(List.range' 0 256).all (fun i=>decide (xs[i]?=ys[i]?))=false:=by
    rw[Bool.eq_false_iff]
    intro hh
    apply h
    refine List.ext_getElem? fun i=>?_
    by_cases hi:i < 256
    ·have:=List.all_eq_true.1 hh i (by simp[List.mem_range',hi])
     simpa using this
    ·rw[List.getElem?_eq_none_iff.2 (by omega),List.getElem?_eq_none_iff.2 (by omega)]
   rw[this];simp[h]
 ·obtain⟨x,qr⟩:∃x,xs[i]?=some x:=⟨_,List.getElem?_eq_getElem (by omega)⟩
  obtain⟨y,qs⟩:∃y,ys[i]?=some y:=⟨_,List.getElem?_eq_getElem (by omega)⟩
  have gx:(Zgj xs).toArray[i]?=some (.int .i64 x):=by simp[Zgj,qr]
  have gy:(Zgj ys).toArray[i]?=some (.int .i64 y):=by simp[Zgj,qs]
  rw[Nat.mul_one]
  simp only[part,Sem.run_bind,a3,Result.andThen_ok,gx,gy]
  have he:(Op.equalIn 9999 3 (.int .i64 x) (.int .i64 y)).run Try.prog w=.ok (x == y) w:=by
   rw[show(9999:Nat)=9998+1 from rfl,Op.equalIn]
   simp[Sem.run_bind,run_underlying u3]
  rw[if_neg (by decide),if_neg (by decide)]
  simp only[Sem.run_pure,Result.andThen_ok,he,qr,qs]
  by_cases qt:x=y
  ·subst qt;simp
  ·simp[qt]
theorem ZfU(q:QS):ZaP q=Zgj ((List.range 256).map (Zsh q)):=by simp[ZaP,Zgj]
theorem Zxw{q r:QS}(hq:QOk q)(hr:QOk r):EqIs Try.prog 106 (.agg (ZaP q).toArray) (.agg (ZaP r).toArray) (decide (q=r)):=by
 have h:=ZvZ ((List.range 256).map (Zsh q)) ((List.range 256).map (Zsh r)) (by simp) (by simp)
 rw[←ZfU,←ZfU]at h
 have e:decide ((List.range 256).map (Zsh q)=(List.range 256).map (Zsh r))=decide (q=r):=by
  rw[decide_eq_decide]
  constructor
  ·intro e;exact ZoU hq hr (by rw[ZfU,ZfU,e])
  ·rintro rfl;rfl
 rw[e]at h;exact h
theorem ZxD{q:QS}{j:Nat}(hj:j < 4):([.int .u64 q.1,.int .u64 q.2.1,.int .u64 q.2.2.1,.int .u64 q.2.2.2]:List Value)[j]?=some (.int .u64 (Zhd q j)):=by
 have:j=0∨j=1∨j=2∨j=3:=by omega
 rcases this with rfl|rfl|rfl|rfl <;> rfl
def Zmo(q:QS)(k:Nat):List Value:=(List.range 256).map fun c=>.int .i64 (if c < k then Zsh q c else 0)
theorem ZeG(q:QS)(k:Nat):(Zmo q k).length=256:=by simp[Zmo]
theorem Zpd(q:QS){k:Nat}(h:k < 256):Zaj (Zmo q k) k [.int .i64 (Zsh q k)]=Zmo q (k+1):=by
 rw[ZoT (by rw[ZeG];exact h)]
 refine List.ext_getElem? fun j=>?_
 by_cases hj:j < 256
 ·by_cases e:j=k
  ·subst e
   rw[List.getElem?_set_self (by rw[ZeG];exact h)]
   simp[Zmo,h]
  ·rw[List.getElem?_set_ne (fun x=>e x.symm)]
   simp only[Zmo,List.getElem?_map,List.getElem?_range hj,Option.map_some]
   have:(j < k+1)↔j < k:=by omega
   simp only[this]
 ·rw[List.getElem?_eq_none_iff.2 (by rw[List.length_set,ZeG];omega),List.getElem?_eq_none_iff.2 (by rw[ZeG];omega)]
theorem Zpe(q:QS):List.replicate 256 (Value.int .i64 0)=Zmo q 0:=by
 refine(List.eq_replicate_iff.2 ⟨ZeG q 0,fun u hu=>?_⟩).symm
 obtain⟨c,_,rfl⟩:=List.mem_map.1 hu
 rw[if_neg (Nat.not_lt_zero c)]
theorem ZrF(q:QS):Zmo q 256=ZaP q:=by
 unfold Zmo ZaP
 refine List.map_congr_left fun c hc=>?_
 rw[if_pos (List.mem_range.1 hc)]
theorem Ztt{w:Int}(h0:0≤w)(i:Nat):Int.tmod ((w.toNat / 2 ^ i:Nat):Int) 2=if w.toNat.testBit i then 1 else 0:=by
 rw[show Int.tmod ((w.toNat / 2 ^ i:Nat):Int) 2=((w.toNat / 2 ^ i % 2:Nat):Int) from rfl,ZuB]
 split <;> rfl
theorem Zoe(q:QS):Zcb (ZaP q)=true:=by
 have:∀l:List Value,(∀u∈l,u.oneCell'=true)→Zcb l=true:=by
  intro l
  induction l with
  | nil=>intro _;rfl
  | cons u l ih=>intro h;simp only[Zcb,h u (by simp),Bool.true_and];exact ih fun x hx=>h x (by simp[hx])
 exact this _ (Zh7 q)
theorem Ztu(q:QS)(hq:QOk q)(m:Mem):CX Try.prog 88 #[.agg #[.int .u64 q.1,.int .u64 q.2.1,.int .u64 q.2.2.1,.int .u64 q.2.2.2]] m [] (Ret (.agg (ZaP q).toArray)):=by
 apply ZiW
 unfold Zfw
 intro b m1 aW _ b1 b2
 refine⟨fun xs css _ m' n=>∃k:Nat,k≤256∧xs=[.int .i64 k]∧css=[Zmo q k]∧m.le m'∧n=256 - k,⟨_,0,by omega,rfl,by rw[Zpe q],aW,rfl⟩,?_⟩
 rintro z cs m2 n _ ⟨k,hk,hz,cR,aY,hn⟩
 obtain rfl:z=k:=by simpa using hz
 obtain rfl:cs=Zmo q k:=by simpa using cR
 subst hn
 have e64:Int.tdiv (k:Int) 64=((k / 64:Nat):Int):=rfl
 have em:Int.tmod (k:Int) 64=((k % 64:Nat):Int):=rfl
 refine Zab (fun bA=>?_) (fun cN=>?_)
 ·have hk':k < 256:=by have:=of_decide_eq_true bA;omega
  have hw:=Zmw hq (k / 64)
  rw[e64,em,Zap (by omega) (by omega),Int.toNat_natCast,Int.toNat_natCast,Nat.mul_one,Nat.mul_one,Nat.zero_add,Nat.zero_add]
  refine⟨by decide,⟨by omega,by omega⟩,Zag (ZxD (q:=q) (by omega)) ?_⟩
  refine⟨fun xs _ _ m' n=>∃i:Nat,i≤k % 64∧xs=[.int .u64 (((Zhd q (k / 64)).toNat / 2 ^ i:Nat):Int),.int .i64 i]∧m2.le m'∧n=k % 64 - i,Zaa rfl ⟨_,0,by omega,?_,Mem.le_refl _,rfl⟩,?_⟩
  ·rw[Nat.pow_zero,Nat.div_one,Int.toNat_of_nonneg hw.1];rfl
  rintro x z m3 n2 bR ⟨i,hi,hx,_,hn⟩
  simp only[List.cons.injEq,Value.int.injEq,true_and,and_true]at hx
  obtain⟨rfl,rfl⟩:=hx
  subst hn
  refine⟨by decide,Zab (fun h1=>?_) (fun h1=>?_)⟩
  ·have h1':i < k % 64:=by have:=of_decide_eq_true h1;omega
   refine⟨by decide,by trivial,_,by omega,i+1,h1',?_,bR,rfl⟩
   have e2:Int.tdiv (((Zhd q (k / 64)).toNat / 2 ^ i:Nat):Int) 2=(((Zhd q (k / 64)).toNat / 2 ^ (i+1):Nat):Int):=by
    rw[Nat.pow_succ,←Nat.div_div_eq_div_mul];rfl
   have hb:(Zhd q (k / 64)).toNat / 2 ^ (i+1) < 18446744073709551616:=Nat.lt_of_le_of_lt (Nat.div_le_self _ _) (by omega)
   rw[e2,ZtP _ hb,Zap (by omega) (by omega)];rfl
  ·have:i=k % 64:=by have:=of_decide_eq_false h1;omega
   subst this
   have kS:IntKind.i64.wrap (Int.tmod (((Zhd q (k / 64)).toNat / 2 ^ (k % 64):Nat):Int) 2)=Zsh q k:=by
    rw[Ztt hw.1,Zsh,ZnK]
    split <;> rfl
   refine⟨by decide,⟨by omega,by omega⟩,Zaa (by rw[ZeG,Nat.ble_eq];omega) ⟨by trivial,_,by omega,k+1,hk',by rw[Zap (by omega) (by omega)];rfl,?_,Mem.le_trans aY bR,rfl⟩⟩
   rw[kS,Zpd q hk']
 ·have:k=256:=by have:=of_decide_eq_false cN;omega
  subst this
  rw[ZrF]
  exact Zaa (by rw[Zau,Zoe];rfl) (Zac aY rfl)
end Go.Proofs.Ythiefodednaikaa
set_option linter.unusedVariables false
set_option linter.unusedSimpArgs false
namespace Go.Proofs.Ythiefodednaikaa
open Go Go.Eng Go.Rx Go.Proofs Go.RowKit
set_option maxRecDepth 100000
theorem Zv0:∀(t:T)(most:Int)(m:Mem),RepW m t→0≤most→most≤1000000→CX Try.prog 21 #[t.v,.int .i64 most] m [] (Ret (.int .i64 (Zrh t most))):=by
 intro t
 induction hn:SizeOf.sizeOf t using Nat.strongRecOn generalizing t with
 | ind n ih=>
 intro most m hr h0 h1
 obtain⟨bQ,cC,_⟩:=Zmy.1 hr
 apply Zme
 unfold ZhD
 intro b m1 aW _
 refine⟨fun xs _ _ m' q=>∃k:Nat,k≤t.subs.length∧xs=[.int .i64 (Zl0 t most k),.int .i64 k]∧m.le m'∧q=t.subs.length - k,⟨_,0,Nat.zero_le _,by rw[ZnM t h0];rfl,aW,rfl⟩,?_⟩
 rintro s z m2 q _ ⟨k,hk,hx,aY,hq⟩
 simp only[List.cons.injEq,Value.int.injEq,true_and,and_true]at hx
 obtain⟨rfl,rfl⟩:=hx
 subst hq
 have hb:=Zsl t h0 k
 refine Zab (fun bA=>?_) (fun cN=>?_)
 ·have aX:k < t.subs.length:=by have:=of_decide_eq_true bA;omega
  obtain⟨x,hx⟩:=Zbg aX
  rcases cC with hs|⟨bb,o,ha,dR⟩
  ·rw[hs]at aX;simp at aX
  have hg:=dR.get hx
  refine⟨bb,o,ha,⟨by omega,by omega⟩,_,_,_,_,_,_,_,_,(by rw[Int.toNat_natCast];exact fun j v hv=>aY _ _ _ (hg.1 j v hv)),fun b2=>Zaa rfl (Zab (fun h2=>?_) (fun h2=>?_))⟩
  ·have:=of_decide_eq_true h2
   refine Zac aY ?_
   rw[ZnP this]
  ·have h2':Zl0 t most k≤most:=by have:=of_decide_eq_false h2;omega
   rw[Zap (by omega) (by omega)]
   have eO:=Zeh (List.mem_of_getElem? hx)
   refine Zat (ih _ (by omega) x rfl (most - Zl0 t most k) m2 (hg.2.mono aY x) (by omega) (by omega)) fun m3 bR=>?_
   have jo:=Zsk x (most:=most - Zl0 t most k) (by omega)
   exact⟨by trivial,_,by omega,k+1,aX,by rw[ZnO hx h2',Zap (by omega) (by omega),Zap (by omega) (by omega)];rfl,Mem.le_trans aY bR,rfl⟩
 ·have:k=t.subs.length:=by have:=of_decide_eq_false cN;omega
  subst this
  refine Zac aY ?_
  rw[Zp6]
theorem ZaT{k:Int}{q:QS}{mn mx:Int}{a:Option Addr}{n c:Nat}{K:Value→Prop}(h:K (.slice a n c)):Eng.ZrO (rcs k q mn mx a n c) 259 K:=Zag (ZvP k q mn mx a n c) h
theorem ZaS{k:Int}{q:QS}{mn mx:Int}{a:Option Addr}{n c:Nat}{K:Value→Prop}(h:K (.int .i64 k)):Eng.ZrO (rcs k q mn mx a n c) 0 K:=Zag (Zmx k q mn mx a n c) h
theorem ZeH{k:Int}{q:QS}{mn mx:Int}{a:Option Addr}{n c:Nat}{K:Value→Prop}(h:K (.int .i64 mn)):Eng.ZrO (rcs k q mn mx a n c) 257 K:=Zag (ZvN k q mn mx a n c) h
theorem ZhM{k:Int}{q:QS}{mn mx:Int}{a:Option Addr}{n c:Nat}{K:Value→Prop}(h:K (.int .i64 mx)):Eng.ZrO (rcs k q mn mx a n c) 258 K:=Zag (ZvO k q mn mx a n c) h
theorem ZhN{k:Int}{q:QS}{mn mx:Int}{a:Option Addr}{n c:Nat}{K:Prop}(h:K):chk (Nat.beq (rcs k q mn mx a n c).length 260) K:=Zaa (by rw[Zhe];rfl) h
theorem Zqf:∀(t:T)(cs:List Value)(most:Int)(m:Mem),RefT m t cs→0≤most→most≤1000000→CX Try.prog 122 #[.agg cs.toArray,.int .i64 most] m [] (Ret (.int .i64 (Zrh t most))):=by
 intro t
 induction hn:SizeOf.sizeOf t using Nat.strongRecOn generalizing t with
 | ind n ih=>
 intro cs most m hr h0 h1
 obtain⟨_,bQ,a,c,css,rfl,cJ,dR⟩:=ZbO.1 hr
 apply ZiO
 unfold Zfr
 refine ZhN fun b m1 aW _=>?_
 refine⟨fun xs _ _ m' q=>∃k:Nat,k≤t.subs.length∧xs=[.int .i64 (Zl0 t most k),.int .i64 k]∧m.le m'∧q=t.subs.length - k,⟨_,0,Nat.zero_le _,by rw[ZnM t h0];rfl,aW,rfl⟩,?_⟩
 rintro s z m2 q _ ⟨k,hk,hx,aY,hq⟩
 simp only[List.cons.injEq,Value.int.injEq,true_and,and_true]at hx
 obtain⟨rfl,rfl⟩:=hx
 subst hq
 have hb:=Zsl t h0 k
 refine⟨decide (k < t.subs.length)&&decide (Zl0 t most k≤most),ZaT (Zaa rfl (Zab (fun bA=>⟨by trivial,?_⟩) (fun cN=>⟨by trivial,?_⟩))),Zab (fun h2=>?_) (fun h2=>?_)⟩
 ·have aX:k < t.subs.length:=by have:=of_decide_eq_true bA;simp only[slN]at this;omega
  simp[aX]
 ·have aX:¬k < t.subs.length:=by have:=of_decide_eq_false cN;simp only[slN]at this;omega
  simp[aX]
 ·simp only[Bool.and_eq_true,decide_eq_true_eq]at h2
  obtain⟨aX,h2'⟩:=h2
  obtain⟨x,hx⟩:=Zbg aX
  obtain⟨bb,o,cs2,ha,cH,eV⟩:=Zhf cJ dR hx
  refine ZaT (Zaa rfl ⟨bb,o,ha,⟨by omega,by simp only[slN];omega⟩,cs2,eV.len,(by rw[Int.toNat_natCast];exact cH.mono aY),?_⟩)
  rw[Zap (by omega) (by omega)]
  have eO:=Zeh (List.mem_of_getElem? hx)
  refine Zat (ih _ (by omega) x rfl cs2 (most - Zl0 t most k) m2 (eV.mono aY) (by omega) (by omega)) fun m3 bR=>?_
  have jo:=Zsk x (most:=most - Zl0 t most k) (by omega)
  exact⟨by trivial,_,by omega,k+1,aX,by rw[ZnO hx h2',Zap (by omega) (by omega),Zap (by omega) (by omega)];rfl,Mem.le_trans aY bR,rfl⟩
 ·refine Zac aY ?_
  simp only[Bool.and_eq_false_iff,decide_eq_false_iff_not]at h2
  rcases h2 with h2|h2
  ·have:k=t.subs.length:=by omega
   subst this
   rw[Zp6]
  ·rw[ZnP (by omega)]
theorem ZkH(t:T)(cs:List Value)(m:Mem)(hr:RefT m t cs):CX Try.prog 120 #[.agg cs.toArray] m [] (Ret (.bool t.light)):=by
 have hl:=hr.len
 apply ZiP
 unfold Zfs
 refine Zaa (by rw[hl];rfl) fun b m1 aW _=>?_
 refine Zat (Zqf t cs 10000 m1 (hr.mono aW) (by omega) (by omega)) fun m2 aY=>Zac (Mem.le_trans aW aY) ?_
 rw[ZoW]
theorem Ztv(t:T)(cs:List Value)(m:Mem)(hr:RefT m t cs):CX Try.prog 108 #[.agg cs.toArray] m [] (Ret (.int .i64 t.size)):=by
 have hl:=hr.len
 apply ZkB
 unfold Zgw
 refine Zaa (by rw[hl];rfl) fun b m1 aW _=>?_
 refine Zat (Zqf t cs 10000 m1 (hr.mono aW) (by omega) (by omega)) fun m2 aY=>Zac (Mem.le_trans aW aY) ?_
 rw[Zri]
end Go.Proofs.Ythiefodednaikaa
