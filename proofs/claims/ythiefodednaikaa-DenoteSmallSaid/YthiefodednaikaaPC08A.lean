/- Part of the proof: conditions and contracts of functions of this program. No condition of its own. -/
import Derived.Test.YthiefodednaikaaPEnv
import Derived.Test.YthiefodednaikaaPC13Q
import Derived.Test.YthiefodednaikaaMc
import Derived.Test.YthiefodednaikaaMr
set_option linter.unusedVariables false
set_option linter.unusedSimpArgs false
set_option linter.unusedSectionVars false
namespace Go.Proofs.Ythiefodednaikaa
open Go Go.Eng Go.Proofs Go.RowKit
open Go.Value (int slice agg bool string tuple func)
open Go.IntKind (u8 u64 i64)
set_option maxRecDepth 100000
noncomputable def Zj8:Env:={ EB with
 loops:=(λi=>bif Nat.beq i 3 then⟨[(20,.int .i64)],[3],[(29,260)],false⟩ else⟨[],[],[],false⟩)
 dr:=(λi=>bif Nat.beq i 1 then[⟨0,[1],[],none,[],[]⟩,⟨1,[1],[],none,[0],[]⟩,⟨2,[],[],none,[0,1],[]⟩,⟨3,[1],[],none,[],[]⟩,⟨4,[1],[],none,[3],[]⟩,⟨5,[],[],none,[3,4],[]⟩,⟨6,[1],[],none,[],[]⟩,⟨7,[1],[],none,[6],[]⟩,⟨8,[1],[],none,[],[]⟩,⟨9,[1],[],none,[8],[]⟩,⟨10,[],[],none,[0,1,2,3,4,5,6,7,8,9],[]⟩,⟨11,[3],[3],none,[],[]⟩,⟨12,[3],[3],none,rg 0 12,[]⟩]else bif Nat.beq i 5 then[⟨0,[3],[],none,[],[]⟩,⟨1,[3],[],none,[0],[]⟩,⟨2,[5],[],none,[],[]⟩,⟨3,[],[],none,[2],[]⟩,⟨4,[28],[28],none,[2,3],[3]⟩,⟨5,[28],[],some 29,[0,1,2,3,4],[4]⟩,⟨6,[3],[],none,[0,1,2,3,4,5],[]⟩,⟨7,[3],[3],none,[0,1,2,3,4,5,6],[]⟩]else[])
 tokOf:=(λi=>bif Nat.beq i 29 then 29 else 0)
 frzNew:=[1]
 capF:=true }
abbrev Zay(aF:Int):List Value:=[int i64 (IntKind.wrap i64 aF),int i64 0,int i64 0,int i64 0,int i64 0,int i64 0,int i64 0,int i64 0,int i64 0,int i64 0,int i64 0,int i64 0,int i64 0,
 int i64 0,int i64 0,int i64 0,int i64 0,int i64 0,int i64 0,int i64 0,int i64 0,int i64 0,int i64 0,int i64 0,int i64 0,int i64 0,int i64 0,int i64 0,int i64 0,int i64 0,int i64 0,int i64 0,int i64 0,
 int i64 0,int i64 0,int i64 0,int i64 0,int i64 0,int i64 0,int i64 0,int i64 0,int i64 0,int i64 0,int i64 0,int i64 0,int i64 0,int i64 0,int i64 0,int i64 0,int i64 0,int i64 0,int i64 0,int i64 0,
 int i64 0,int i64 0,int i64 0,int i64 0,int i64 0,int i64 0,int i64 0,int i64 0,int i64 0,int i64 0,int i64 0,int i64 0,int i64 0,int i64 0,int i64 0,int i64 0,int i64 0,int i64 0,int i64 0,int i64 0,
 int i64 0,int i64 0,int i64 0,int i64 0,int i64 0,int i64 0,int i64 0,int i64 0,int i64 0,int i64 0,int i64 0,int i64 0,int i64 0,int i64 0,int i64 0,int i64 0,int i64 0,int i64 0,int i64 0,int i64 0,
 int i64 0,int i64 0,int i64 0,int i64 0,int i64 0,int i64 0,int i64 0,int i64 0,int i64 0,int i64 0,int i64 0,int i64 0,int i64 0,int i64 0,int i64 0,int i64 0,int i64 0,int i64 0,int i64 0,int i64 0,
 int i64 0,int i64 0,int i64 0,int i64 0,int i64 0,int i64 0,int i64 0,int i64 0,int i64 0,int i64 0,int i64 0,int i64 0,int i64 0,int i64 0,int i64 0,int i64 0,int i64 0,int i64 0,int i64 0,int i64 0,
 int i64 0,int i64 0,int i64 0,int i64 0,int i64 0,int i64 0,int i64 0,int i64 0,int i64 0,int i64 0,int i64 0,int i64 0,int i64 0,int i64 0,int i64 0,int i64 0,int i64 0,int i64 0,int i64 0,int i64 0,
 int i64 0,int i64 0,int i64 0,int i64 0,int i64 0,int i64 0,int i64 0,int i64 0,int i64 0,int i64 0,int i64 0,int i64 0,int i64 0,int i64 0,int i64 0,int i64 0,int i64 0,int i64 0,int i64 0,int i64 0,
 int i64 0,int i64 0,int i64 0,int i64 0,int i64 0,int i64 0,int i64 0,int i64 0,int i64 0,int i64 0,int i64 0,int i64 0,int i64 0,int i64 0,int i64 0,int i64 0,int i64 0,int i64 0,int i64 0,int i64 0,
 int i64 0,int i64 0,int i64 0,int i64 0,int i64 0,int i64 0,int i64 0,int i64 0,int i64 0,int i64 0,int i64 0,int i64 0,int i64 0,int i64 0,int i64 0,int i64 0,int i64 0,int i64 0,int i64 0,int i64 0,
 int i64 0,int i64 0,int i64 0,int i64 0,int i64 0,int i64 0,int i64 0,int i64 0,int i64 0,int i64 0,int i64 0,int i64 0,int i64 0,int i64 0,int i64 0,int i64 0,int i64 0,int i64 0,int i64 0,int i64 0,
 int i64 0,int i64 0,int i64 0,int i64 0,int i64 0,int i64 0,int i64 0,int i64 0,int i64 0,int i64 0,int i64 0,int i64 0,int i64 0,int i64 0,int i64 0,int i64 0,int i64 0,int i64 0,int i64 0,int i64 0,
 int i64 0,int i64 0,int i64 0,int i64 0,int i64 0,int i64 0,slice none 0 0]
abbrev ZiX:List Value:=[int i64 0,int i64 0,int i64 0,int i64 0,int i64 0,int i64 0,int i64 0,int i64 0,int i64 0,int i64 0,int i64 0,int i64 0,int i64 0,int i64 0,int i64 0,int i64 0,int
 i64 0,int i64 0,int i64 0,int i64 0,int i64 0,int i64 0,int i64 0,int i64 0,int i64 0,int i64 0,int i64 0,int i64 0,int i64 0,int i64 0,int i64 0,int i64 0,int i64 0,int i64 0,int i64 0,int i64 0,int
 i64 0,int i64 0,int i64 0,int i64 0,int i64 0,int i64 0,int i64 0,int i64 0,int i64 0,int i64 0,int i64 0,int i64 0,int i64 0,int i64 0,int i64 0,int i64 0,int i64 0,int i64 0,int i64 0,int i64 0,int
 i64 0,int i64 0,int i64 0,int i64 0,int i64 0,int i64 0,int i64 0,int i64 0,int i64 0,int i64 0,int i64 0,int i64 0,int i64 0,int i64 0,int i64 0,int i64 0,int i64 0,int i64 0,int i64 0,int i64 0,int
 i64 0,int i64 0,int i64 0,int i64 0,int i64 0,int i64 0,int i64 0,int i64 0,int i64 0,int i64 0,int i64 0,int i64 0,int i64 0,int i64 0,int i64 0,int i64 0,int i64 0,int i64 0,int i64 0,int i64 0,int
 i64 0,int i64 0,int i64 0,int i64 0,int i64 0,int i64 0,int i64 0,int i64 0,int i64 0,int i64 0,int i64 0,int i64 0,int i64 0,int i64 0,int i64 0,int i64 0,int i64 0,int i64 0,int i64 0,int i64 0,int
 i64 0,int i64 0,int i64 0,int i64 0,int i64 0,int i64 0,int i64 0,int i64 0,int i64 0,int i64 0,int i64 0,int i64 0,int i64 0,int i64 0,int i64 0,int i64 0,int i64 0,int i64 0,int i64 0,int i64 0,int
 i64 0,int i64 0,int i64 0,int i64 0,int i64 0,int i64 0,int i64 0,int i64 0,int i64 0,int i64 0,int i64 0,int i64 0,int i64 0,int i64 0,int i64 0,int i64 0,int i64 0,int i64 0,int i64 0,int i64 0,int
 i64 0,int i64 0,int i64 0,int i64 0,int i64 0,int i64 0,int i64 0,int i64 0,int i64 0,int i64 0,int i64 0,int i64 0,int i64 0,int i64 0,int i64 0,int i64 0,int i64 0,int i64 0,int i64 0,int i64 0,int
 i64 0,int i64 0,int i64 0,int i64 0,int i64 0,int i64 0,int i64 0,int i64 0,int i64 0,int i64 0,int i64 0,int i64 0,int i64 0,int i64 0,int i64 0,int i64 0,int i64 0,int i64 0,int i64 0,int i64 0,int
 i64 0,int i64 0,int i64 0,int i64 0,int i64 0,int i64 0,int i64 0,int i64 0,int i64 0,int i64 0,int i64 0,int i64 0,int i64 0,int i64 0,int i64 0,int i64 0,int i64 0,int i64 0,int i64 0,int i64 0,int
 i64 0,int i64 0,int i64 0,int i64 0,int i64 0,int i64 0,int i64 0,int i64 0,int i64 0,int i64 0,int i64 0,int i64 0,int i64 0,int i64 0,int i64 0,int i64 0,int i64 0,int i64 0,int i64 0,int i64 0,int
 i64 0,int i64 0,int i64 0,int i64 0,int i64 0,int i64 0,int i64 0,int i64 0,int i64 0,int i64 0,int i64 0,int i64 0,int i64 0,int i64 0,int i64 0,int i64 0,int i64 0,int i64 0,int i64 0,int i64 0,int
 i64 0,int i64 0,int i64 0,slice none 0 0]
abbrev ZiY:Nat->Option Box:=λ(b:Nat)=>some (Box.mk b ZiX 109 260 false true)
abbrev ZiZ:Int->Int->Int->Int->Int->Int->Int->Option Addr->Nat->Nat->Nat->Option Box:=λ(aF aC aH aI aJ aE aG:Int)(aB:Option Addr)(aA aD b:Nat)=>some (Box.mk
 b [int u8 aF,int u64 aC,int u64 aH,int u64 aI,int u64 aJ,int i64 aE,int i64 aG,slice aB aA aD] 29 8 true true)
abbrev Zi0:Int->Int->Int->Int->Int->Int->Int->Option Addr->Nat->Nat->Nat->Nat->Nat->List (Option Box):=λ(aF aC aH aI aJ aE aG:Int)(aB:Option Addr) (aA aD b am
 ae:Nat)=>[some (Box.mk ae [] 109 260 false true),some (Box.mk ae [] 109 260 false true),ZiY am,ZiZ aF aC aH aI aJ aE aG aB aA aD b]
def ZfB(aF aC aH aI aJ aE aG:Int)(aB:Option Addr)(aA aD:Nat)(m:Mem)(R:RT):Prop:=
 ∀(b:Nat)(m':Mem),Mem.le m m'->Mem.reads m' b 0 [int u8 aF,int u64 aC,int u64 aH,int u64 aI,int u64 aJ,int i64 aE,int i64 aG,slice aB aA aD]->∀(am:Nat),∃(f:Fx),∃(R_1:RT),
 R_1=f 5 [agg (Array.mk [int u64 aC,int u64 aH,int u64 aI,int u64 aJ])] m'/\CX Try.prog 88 (Array.mk [agg (Array.mk [int u64 aC,int u64 aH,int u64 aI,int u64 aJ])]) m' [] R_1/\Zaq Shape.cells
 R_1/\∀(cs:List Value)(an:Mem),Mem.le m' an->R_1 (agg (Array.mk cs)) an []->chk (Nat.beq (List.length cs) 256&&true) (chk (Nat.ble (nat_lit 257) (List.length (List.append cs (List.drop (1+List.length cs)
 (Zay aF))))) (chk (Nat.ble (nat_lit 258) (List.length (List.append (List.append (List.take (nat_lit 256) (List.append cs (List.drop (1+List.length cs) (Zay aF)))) [int i64 aE]) (List.drop
 (nat_lit 257) (List.append cs (List.drop (1+List.length cs) (Zay aF))))))) (∀(ae:Nat),chk (Nat.beq (List.length (List.append (List.append (List.take (nat_lit 257) (List.append (List.append (List.take
 (nat_lit 256) (List.append cs (List.drop (1+List.length cs) (Zay aF)))) [int i64 aE]) (List.drop (nat_lit 257) (List.append cs (List.drop (1+List.length cs) (Zay aF)))))) [int i64
 aG]) (List.drop (nat_lit 258) (List.append (List.append (List.take (nat_lit 256) (List.append cs (List.drop (1+List.length cs) (Zay aF)))) [int i64 aE]) (List.drop (nat_lit 257) (List.append cs
 (List.drop (1+List.length cs) (Zay aF)))))))) (nat_lit 259)&&Zcp (List.append (List.append (List.take (nat_lit 257) (List.append (List.append (List.take (nat_lit 256) (List.append cs (List.drop (1 +
 List.length cs) (Zay aF)))) [int i64 aE]) (List.drop (nat_lit 257) (List.append cs (List.drop (1+List.length cs) (Zay aF)))))) [int i64 aG]) (List.drop (nat_lit 258) (List.append
 (List.append (List.take (nat_lit 256) (List.append cs (List.drop (1+List.length cs) (Zay aF)))) [int i64 aE]) (List.drop (nat_lit 257) (List.append cs (List.drop (1+List.length cs) (Zay
 aF)))))))) (∀(M:Mem),Mem.le m' M->Mem.le an M->∃(I:IT),(∃(n:Nat),I [int i64 0] [Zam (Zam (Zam (Zay aF) 1 cs) 257 [int i64 aE]) 258 [int i64 aG]] [slice none 0 0] M n)/\∀(n:
 Int) (cs:List Value) (a:Option Addr) (ap c:Nat) (m':Mem) (aq:Nat),Mem.le M m'->I [int i64 n] [cs] [slice a ap c] m' aq->br (decide (n < (↑aA:Int))) (∃(ar:Nat),∃(o:Nat),aB=some (Addr.mk ar
 o none)/\Zaf n aA/\∃(v:Value),∃(af:Value),∃(ag:Value),∃(ah:Value),∃(ai:Value),∃(aj:Value),∃(ak:Value),∃(al:Value),Mem.reads m' ar (o+Int.toNat n*8) [v,af,ag,ah,ai,aj,
 ak,al]/\∀(au:Nat),chk (Value.oneCell' v&&(Value.oneCell' af&&(Value.oneCell' ag&&(Value.oneCell' ah&&(Value.oneCell' ai&&(Value.oneCell' aj&&(Value.oneCell' ak&&(Value.oneCell' al&&true)))))))) (∃
 (f:Fx),Eng.Zty cs 259 λ(aa:Value)=>∃(R:RT),R=f 3 [agg (Array.mk [v,af,ag,ah,ai,aj,ak,al])] m'/\CX Try.prog 63 (Array.mk [agg (Array.mk [v,af,ag,ah,ai,aj,ak,al])]) m' [] R/\Zaq
 Shape.cells R/\∀(ac:List Value)(ab:Mem),Mem.le m' ab->R (agg (Array.mk ac)) ab []->chk (Nat.beq (List.length ac) 260&&true) (∀(ad:Nat),Mem.free ab ad->chk (Zcf aa&&true) ((Tok.mk (slice a ap c) 260 =
 Tok.mk aa 260\/aa=slice none 0 0\/slC aa < slN aa+1)/\∃(xs:List Value),∃(ys:List Value),List.length xs=slN aa*260/\List.length ys=1*260/\rowRd (Mem.add ab ad (List.append ac [])) (slA aa) xs/\
 rowRd (Mem.add ab ad (List.append ac [])) (some (Addr.mk ad 0 none)) ys/\(∀(u:Value),u∈ys->Value.oneCell' u=true)/\(slN aa+1)*2096<=140737488355328/\slN aa+1<=9223372036854775807/\∀(a':Option
 Addr) (c':Nat) (ao:Mem),Mem.le (Mem.add ab ad (List.append ac [])) ao->rowRd ao a' (List.append xs ys)->slN aa+1<=c'->chk (Nat.ble 260 (List.length cs)) (∀(M:Mem),Mem.le m' M->Mem.le ab M->Mem.le
 (Mem.add ab ad (List.append ac [])) M->Mem.le ao M->ZaM (Zi0 aF aC aH aI aJ aE aG aB aA aD b am ae)/\∃(n':Nat),n' < aq/\I [int i64 (IntKind.wrap i64 (n+(1:Int)))]
 [Zam cs 259 [slice a' (slN aa+1) c']] [slice a' (slN aa+1) c'] M n'))))) (chk (Nat.beq (List.length cs) 260&&Zcp cs) (∃(m'':Mem),Mem.le m m''/\Mem.le m'' m'/\R (agg (Array.mk cs)) m'' []))))))
theorem Zi1(aF aC aH aI aJ aE aG:Int)(aB:Option Addr)(aA aD:Nat)(m:Mem)(R:RT)(h:ZfB aF aC aH aI aJ aE aG aB aA aD m R):CX Try.prog 63 #[.agg #[.int .u8 aF,.int .u64 aC,.int .u64 aH,.int .u64 aI,.int .u64 aJ,.int .i64 aE,.int .i64 aG,.slice aB aA aD]] m [] R:=
 Zae (E:=Zj8) Zax mix Try.func63 [.v (.agg #[.int .u8 aF,.int .u64 aC,.int .u64 aH,.int .u64 aI,.int .u64 aJ,.int .i64 aE,.int .i64 aG,.slice aB aA aD])] [] (by kernel_rfl) (Eq.mp (by kernel_rfl) h)
noncomputable def ZlT:Env:={ EB with
 loops:=(λi=>bif Nat.beq i 3 then⟨[(5,.int .i64),(6,.int .i64)],[],[],false⟩ else⟨[],[],[],false⟩)
 joins:=(λi=>bif Nat.beq i 3 then some [(16,.bool)]else none)
 frzNew:=[2] }
def ZgA(p0:List Value)(p1:Int)(m:Mem)(R:RT):Prop:=
 chk (Nat.beq (List.length p0) 260) (∀(b:Nat)(m':Mem),Mem.le m m'->Mem.reads m' b 0 p0->∃(I:IT),(∃(n:Nat),I [int i64 1,int i64 0] [] [] m' n)/\∀(n n_1:Int)(m'_1:Mem)(n_2:Nat),Mem.le m' m'_1->
 I [int i64 n,int i64 n_1] [] [] m'_1 n_2->∃(b_1:Bool),(Eng.Zty p0 259 λ(v:Value)=>chk (Zcf v) (br (decide (n_1 < (↑(slN v):Int))) ([some (Box.mk b p0 109 260 true true)]=[some (Box.mk b p0 109 260
 true true)]/\[bool (decide (n<=p1))]=[bool b_1]) ([some (Box.mk b p0 109 260 true true)]=[some (Box.mk b p0 109 260 true true)]/\[bool false]=[bool b_1])))/\br b_1 (Eng.Zty p0 259 λ(v:Value)=>chk (Zcf
 v) (∃(b_2:Nat),∃(o:Nat),slA v=some (Addr.mk b_2 o none)/\Zaf n_1 (slN v)/\∃(vs:List Value),List.length vs=260/\Mem.reads m'_1 b_2 (o+Int.toNat n_1*260) vs/\∃(R:RT),True/\CX Try.prog 122
 (Array.mk [agg (Array.mk vs),int i64 (IntKind.wrap i64 (p1 - n))]) m'_1 [] R/\Zaq (Shape.int i64) R/\∀(n_3:Int)(m':Mem),Mem.le m'_1 m'->R (int i64 n_3) m' []->[some (Box.mk b p0 109 260 true true)]=[some
 (Box.mk b p0 109 260 true true)]/\∃(n':Nat),n' < n_2/\I [int i64 (IntKind.wrap i64 (n+n_3)),int i64 (IntKind.wrap i64 (n_1+(1:Int)))] [] [] m' n')) (∃(m'':Mem),Mem.le m m''/\Mem.le m'' m'_1/\R (int
 i64 n) m'' []))
theorem Zj9(p0:List Value)(p1:Int)(m:Mem)(R:RT)(h:ZgA p0 p1 m R):CX Try.prog 122 #[.agg p0.toArray,.int .i64 p1] m [] R:=
 Zae (E:=ZlT) Zax mix Try.func122 [.v (.agg p0.toArray),.v (.int .i64 p1)] [] (by kernel_rfl) (Eq.mp (by kernel_rfl) h)
noncomputable def ZlU:Env:={ EB with
 frzNew:=[1] }
def ZgB(p0:List Value)(m:Mem)(R:RT):Prop:=
 chk (Nat.beq (List.length p0) 260) (∀(b:Nat)(m':Mem),Mem.le m m'->Mem.reads m' b 0 p0->∃(R_1:RT),True/\CX Try.prog 122 (Array.mk [agg (Array.mk p0),int i64 10000]) m' [] R_1/\Zaq (Shape.int i64) R_1/\∀
 (n:Int) (m'_1:Mem),Mem.le m' m'_1->R_1 (int i64 n) m'_1 []->∃(m'':Mem),Mem.le m m''/\Mem.le m'' m'_1/\R (bool (decide (n < (10001:Int)))) m'' [])
theorem Zka(p0:List Value)(m:Mem)(R:RT)(h:ZgB p0 m R):CX Try.prog 120 #[.agg p0.toArray] m [] R:=
 Zae (E:=ZlU) Zax mix Try.func120 [.v (.agg p0.toArray)] [] (by kernel_rfl) (Eq.mp (by kernel_rfl) h)
noncomputable def ZnL:Env:={ EB with
 frzNew:=[1] }
def ZhE(p0:List Value)(m:Mem)(R:RT):Prop:=
 chk (Nat.beq (List.length p0) 260) (∀(b:Nat)(m':Mem),Mem.le m m'->Mem.reads m' b 0 p0->∃(R_1:RT),True/\CX Try.prog 122 (Array.mk [agg (Array.mk p0),int i64 10000]) m' [] R_1/\Zaq (Shape.int i64) R_1/\∀
 (n:Int) (m'_1:Mem),Mem.le m' m'_1->R_1 (int i64 n) m'_1 []->∃(m'':Mem),Mem.le m m''/\Mem.le m'' m'_1/\R (int i64 n) m'' [])
theorem ZlV(p0:List Value)(m:Mem)(R:RT)(h:ZhE p0 m R):CX Try.prog 108 #[.agg p0.toArray] m [] R:=
 Zae (E:=ZnL) Zax mix Try.func108 [.v (.agg p0.toArray)] [] (by kernel_rfl) (Eq.mp (by kernel_rfl) h)
noncomputable def Zkb:Env:={ EB with
 joins:=(λi=>bif Nat.beq i 1 then some [(10,.bool)]else bif Nat.beq i 5 then some [(4,.bool)]else none) }
def ZfC(p0 p1:Int)(m:Mem)(R:RT):Prop:=
 ∃(b:Bool),br (decide (p0 < (0:Int))) ([bool true]=[bool b]) ([bool (decide (p0 > (16:Int)))]=[bool b])/\br b (∃(m'':Mem),Mem.le m m''/\Mem.le m'' m/\R (bool false) m'' []) (br (p1 == (-1:Int)) (∃
 (m'':Mem),Mem.le m m''/\Mem.le m'' m/\R (bool true) m'' []) (∃(b:Bool),br (decide (p1 > (0:Int))) (br (decide (p1 < (17:Int))) (br (decide (p0<=p1)) (br (p0 == (1:Int)) ([bool !p1 == (1:Int)]=[bool
 b]) ([bool true]=[bool b])) ([bool false]=[bool b])) ([bool false]=[bool b])) ([bool false]=[bool b])/\∃(m'':Mem),Mem.le m m''/\Mem.le m'' m/\R (bool b) m'' []))
theorem Zi2(p0 p1:Int)(m:Mem)(R:RT)(h:ZfC p0 p1 m R):CX Try.prog 127 #[.int .i64 p0,.int .i64 p1] m [] R:=
 Zae (E:=Zkb) Zax mix Try.func127 [.v (.int .i64 p0),.v (.int .i64 p1)] [] (by kernel_rfl) (Eq.mp (by kernel_rfl) h)
noncomputable def ZlW:Env:={ EB with
 loops:=(λi=>bif Nat.beq i 10 then⟨[(5,.int .i64)],[],[],false⟩ else⟨[],[],[],false⟩)
 joins:=(λi=>bif Nat.beq i 4 then some [(51,.bool)]else bif Nat.beq i 7 then some [(84,.bool)]else bif Nat.beq i 13 then some [(133,.bool)]else none)
 dr:=(λi=>bif Nat.beq i 2 then[⟨0,[1],[],none,[],[]⟩,⟨1,[1],[],none,[0],[]⟩,⟨2,[],[],none,[0,1],[]⟩,⟨3,[],[],none,[0,1,2],[]⟩,⟨4,[1],[],none,[0,1,2,3],[]⟩,⟨5,[1],[],none,[0,1,2,3,4],[]⟩,⟨6,[],[],none,[0,1,2,3,4,5],[]⟩,⟨7,[],[],none,[0,1,2,3,4,5,6],[]⟩,⟨8,[],[],none,[0,1,2,3,4,5,6,7],[]⟩,⟨9,[1],[],none,[0,1,2,3,4,5,6,7,8],[]⟩,⟨10,[1],[],none,[0,1,2,3,4,5,6,7,8,9],[]⟩,⟨11,[],[],none,[0,1,2,3,4,5,6,7,8,9,10],[]⟩,⟨12,[1],[],none,[0,1,2,3,4,5,6,7,8],[]⟩,⟨13,[1],[],none,[0,1,2,3,4,5,6,7,8,12],[]⟩,⟨14,[3],[],none,[0,1,2,3,4,5,6,7,8],[]⟩,⟨15,[],[],none,rg 0 9++[12,13,14],[]⟩,⟨16,[],[],none,rg 0 16,[]⟩,⟨17,[],[],none,rg 0 17,[]⟩]else[])
 frzNew:=[1]
 gb:=true }
def ZgC(p0:List Value)(m:Mem)(R:RT):Prop:=
 chk (Nat.beq (List.length p0) 260) (∀(b:Nat)(m':Mem),Mem.le m m'->Mem.reads m' b 0 p0->∀(aa:Nat),Eng.Zty p0 0 λ(v:Value)=>chk (Zar i64 v&&decide (i64=i64)) (br (decide (RowKit.intOf v < (1:
 Int))) (∃(m'':Mem),Mem.le m m''/\Mem.le m'' m'/\R (bool false) m'' []) (Eng.Zty p0 0 λ(v:Value)=>chk (Zar i64 v&&decide (i64=i64)) (br (decide (RowKit.intOf v > (6:Int))) (∃(m'':Mem),Mem.le m
 m''/\Mem.le m'' m'/\R (bool false) m'' []) (Eng.Zty p0 0 λ(v:Value)=>chk (Zar i64 v&&decide (i64=i64)) (chk (Nat.ble 257 (List.length p0)) (∃(al:Bool),EqIs Try.prog 106 (agg (Array.mk (List.take 256
 (List.drop 1 p0)))) (agg (Array.mk (List.replicate 256 (int i64 0)))) al/\br (!(RowKit.intOf v == (2:Int)) == !al) (∃(m'':Mem),Mem.le m m''/\Mem.le m'' m'/\R (bool false) m'' []) (∃(aj:Bool),(Eng.Zty p0 0
 λ(v:Value)=>chk (Zar i64 v&&decide (i64=i64)) (br (RowKit.intOf v == (5:Int)) (Eng.Zty p0 257 λ(v:Value)=>Eng.Zty p0 258 λ(ak:Value)=>∃(R:RT),True/\CX Try.prog 127 (Array.mk [v,ak])
 m' [] R/\Zaq Shape.bool R/\∀(af:Bool)(ab:Mem),Mem.le m' ab->R (bool af) ab []->br (!af) ([some (Box.mk aa (List.replicate 256 (int i64 0)) 106 256 false true),some (Box.mk b p0 109 260 true true)]=[some
 (Box.mk aa (List.replicate 256 (int i64 0)) 106 256 false true),some (Box.mk b p0 109 260 true true)]/\[bool true]=[bool aj]) (Eng.Zty p0 0 λ(v:Value)=>chk (Zar i64 v&&decide (i64=i64)) (br
 (!RowKit.intOf v == (5:Int)) (Eng.Zty p0 257 λ(v:Value)=>chk (Zar i64 v&&decide (i64=i64)) (br (!RowKit.intOf v == (0:Int)) ([some (Box.mk aa (List.replicate 256 (int i64 0)) 106 256 false true),some
 (Box.mk b p0 109 260 true true)]=[some (Box.mk aa (List.replicate 256 (int i64 0)) 106 256 false true),some (Box.mk b p0 109 260 true true)]/\[bool true]=[bool aj]) (Eng.Zty p0 258 λ(v:Value)=>chk (Zar
 i64 v&&decide (i64=i64)) ([some (Box.mk aa (List.replicate 256 (int i64 0)) 106 256 false true),some (Box.mk b p0 109 260 true true)]=[some (Box.mk aa (List.replicate 256 (int i64 0)) 106 256 false true),some
 (Box.mk b p0 109 260 true true)]/\[bool !RowKit.intOf v == (0:Int)]=[bool aj])))) ([some (Box.mk aa (List.replicate 256 (int i64 0)) 106 256 false true),some (Box.mk b p0 109 260 true true)]=[some (Box.mk aa
 (List.replicate 256 (int i64 0)) 106 256 false true),some (Box.mk b p0 109 260 true true)]/\[bool false]=[bool aj])))) (Eng.Zty p0 0 λ(v:Value)=>chk (Zar i64 v&&decide (i64=i64)) (br (!RowKit.intOf v
 == (5:Int)) (Eng.Zty p0 257 λ(v:Value)=>chk (Zar i64 v&&decide (i64=i64)) (br (!RowKit.intOf v == (0:Int)) ([some (Box.mk aa (List.replicate 256 (int i64 0)) 106 256 false true),some (Box.mk b p0 109
 260 true true)]=[some (Box.mk aa (List.replicate 256 (int i64 0)) 106 256 false true),some (Box.mk b p0 109 260 true true)]/\[bool true]=[bool aj]) (Eng.Zty p0 258 λ(v:Value)=>chk (Zar i64 v&&decide
 (i64=i64)) ([some (Box.mk aa (List.replicate 256 (int i64 0)) 106 256 false true),some (Box.mk b p0 109 260 true true)]=[some (Box.mk aa (List.replicate 256 (int i64 0)) 106 256 false true),some (Box.mk b p0 109
 260 true true)]/\[bool !RowKit.intOf v == (0:Int)]=[bool aj])))) ([some (Box.mk aa (List.replicate 256 (int i64 0)) 106 256 false true),some (Box.mk b p0 109 260 true true)]=[some (Box.mk aa (List.replicate 256
 (int i64 0)) 106 256 false true),some (Box.mk b p0 109 260 true true)]/\[bool false]=[bool aj])))))/\br aj (∃(m'':Mem),Mem.le m m''/\Mem.le m'' m'/\R (bool false) m'' []) (Eng.Zty p0 259 λ(v:Value)=>
 chk (Zcf v) (∃(af:Bool),(Eng.Zty p0 0 λ(ak:Value)=>chk (Zar i64 ak&&decide (i64=i64)) (br (decide (RowKit.intOf ak < (3:Int))) (br (decide ((↑(slN v):Int) > (0:Int))) ([some (Box.mk aa
 (List.replicate 256 (int i64 0)) 106 256 false true),some (Box.mk b p0 109 260 true true)]=[some (Box.mk aa (List.replicate 256 (int i64 0)) 106 256 false true),some (Box.mk b p0 109 260 true true)]/\[bool true] =
 [bool af]) (Eng.Zty p0 0 λ(ah:Value)=>chk (Zar i64 ah&&decide (i64=i64)) (br (decide (RowKit.intOf ah > (2:Int))) (Eng.Zty p0 0 λ(ac:Value)=>chk (Zar i64 ac&&decide (i64=i64)) (br (decide
 (RowKit.intOf ac < (5:Int))) (br (decide ((↑(slN v):Int) < (2:Int))) ([some (Box.mk aa (List.replicate 256 (int i64 0)) 106 256 false true),some (Box.mk b p0 109 260 true true)]=[some (Box.mk aa (List.replicate
 256 (int i64 0)) 106 256 false true),some (Box.mk b p0 109 260 true true)]/\[bool true]=[bool af]) (Eng.Zty p0 0 λ(ai:Value)=>chk (Zar i64 ai&&decide (i64=i64)) (br (decide (RowKit.intOf ai > (4:
 Int))) ([some (Box.mk aa (List.replicate 256 (int i64 0)) 106 256 false true),some (Box.mk b p0 109 260 true true)]=[some (Box.mk aa (List.replicate 256 (int i64 0)) 106 256 false true),some (Box.mk b p0 109 260
 true true)]/\[bool !(↑(slN v):Int) == (1:Int)]=[bool af]) ([some (Box.mk aa (List.replicate 256 (int i64 0)) 106 256 false true),some (Box.mk b p0 109 260 true true)]=[some (Box.mk aa (List.replicate 256 (int
 i64 0)) 106 256 false true),some (Box.mk b p0 109 260 true true)]/\[bool false]=[bool af])))) (Eng.Zty p0 0 λ(ai:Value)=>chk (Zar i64 ai&&decide (i64=i64)) (br (decide (RowKit.intOf ai > (4:Int)))
 ([some (Box.mk aa (List.replicate 256 (int i64 0)) 106 256 false true),some (Box.mk b p0 109 260 true true)]=[some (Box.mk aa (List.replicate 256 (int i64 0)) 106 256 false true),some (Box.mk b p0 109 260 true
 true)]/\[bool !(↑(slN v):Int) == (1:Int)]=[bool af]) ([some (Box.mk aa (List.replicate 256 (int i64 0)) 106 256 false true),some (Box.mk b p0 109 260 true true)]=[some (Box.mk aa (List.replicate 256 (int i64
 0)) 106 256 false true),some (Box.mk b p0 109 260 true true)]/\[bool false]=[bool af]))))) (Eng.Zty p0 0 λ(ac:Value)=>chk (Zar i64 ac&&decide (i64=i64)) (br (decide (RowKit.intOf ac > (4:Int)))
 ([some (Box.mk aa (List.replicate 256 (int i64 0)) 106 256 false true),some (Box.mk b p0 109 260 true true)]=[some (Box.mk aa (List.replicate 256 (int i64 0)) 106 256 false true),some (Box.mk b p0 109 260 true
 true)]/\[bool !(↑(slN v):Int) == (1:Int)]=[bool af]) ([some (Box.mk aa (List.replicate 256 (int i64 0)) 106 256 false true),some (Box.mk b p0 109 260 true true)]=[some (Box.mk aa (List.replicate 256 (int i64
 0)) 106 256 false true),some (Box.mk b p0 109 260 true true)]/\[bool false]=[bool af])))))) (Eng.Zty p0 0 λ(ah:Value)=>chk (Zar i64 ah&&decide (i64=i64)) (br (decide (RowKit.intOf ah > (2:Int)))
 (Eng.Zty p0 0 λ(ac:Value)=>chk (Zar i64 ac&&decide (i64=i64)) (br (decide (RowKit.intOf ac < (5:Int))) (br (decide ((↑(slN v):Int) < (2:Int))) ([some (Box.mk aa (List.replicate 256 (int i64 0)) 106
 256 false true),some (Box.mk b p0 109 260 true true)]=[some (Box.mk aa (List.replicate 256 (int i64 0)) 106 256 false true),some (Box.mk b p0 109 260 true true)]/\[bool true]=[bool af]) (Eng.Zty p0 0 λ(ai:
 Value)=>chk (Zar i64 ai&&decide (i64=i64)) (br (decide (RowKit.intOf ai > (4:Int))) ([some (Box.mk aa (List.replicate 256 (int i64 0)) 106 256 false true),some (Box.mk b p0 109 260 true true)]=[some (Box.mk
 aa (List.replicate 256 (int i64 0)) 106 256 false true),some (Box.mk b p0 109 260 true true)]/\[bool !(↑(slN v):Int) == (1:Int)]=[bool af]) ([some (Box.mk aa (List.replicate 256 (int i64 0)) 106 256 false true),
 some (Box.mk b p0 109 260 true true)]=[some (Box.mk aa (List.replicate 256 (int i64 0)) 106 256 false true),some (Box.mk b p0 109 260 true true)]/\[bool false]=[bool af])))) (Eng.Zty p0 0 λ(ai:Value)=>chk
 (Zar i64 ai&&decide (i64=i64)) (br (decide (RowKit.intOf ai > (4:Int))) ([some (Box.mk aa (List.replicate 256 (int i64 0)) 106 256 false true),some (Box.mk b p0 109 260 true true)]=[some (Box.mk aa
 (List.replicate 256 (int i64 0)) 106 256 false true),some (Box.mk b p0 109 260 true true)]/\[bool !(↑(slN v):Int) == (1:Int)]=[bool af]) ([some (Box.mk aa (List.replicate 256 (int i64 0)) 106 256 false true),
 some (Box.mk b p0 109 260 true true)]=[some (Box.mk aa (List.replicate 256 (int i64 0)) 106 256 false true),some (Box.mk b p0 109 260 true true)]/\[bool false]=[bool af]))))) (Eng.Zty p0 0 λ(ac:Value)=>chk
 (Zar i64 ac&&decide (i64=i64)) (br (decide (RowKit.intOf ac > (4:Int))) ([some (Box.mk aa (List.replicate 256 (int i64 0)) 106 256 false true),some (Box.mk b p0 109 260 true true)]=[some (Box.mk aa
 (List.replicate 256 (int i64 0)) 106 256 false true),some (Box.mk b p0 109 260 true true)]/\[bool !(↑(slN v):Int) == (1:Int)]=[bool af]) ([some (Box.mk aa (List.replicate 256 (int i64 0)) 106 256 false true),
 some (Box.mk b p0 109 260 true true)]=[some (Box.mk aa (List.replicate 256 (int i64 0)) 106 256 false true),some (Box.mk b p0 109 260 true true)]/\[bool false]=[bool af])))))))/\br af (∃(m'':Mem),Mem.le m m''
 /\ Mem.le m'' m'/\R (bool false) m'' []) (∃(I:IT),(∃(n:Nat),I [int i64 0] [] [] m' n)/\∀(n:Int)(ab:Mem)(am:Nat),Mem.le m' ab->I [int i64 n] [] [] ab am->br (decide (n < (↑(slN v):Int))) (Eng.Zty
 p0 259 λ(v:Value)=>chk (Zcf v) (∃(an:Nat),∃(o:Nat),slA v=some (Addr.mk an o none)/\Zaf n (slN v)/\∃(v:Value),ab an (o+Int.toNat n*260+0)=some v/\∃(ag:Bool),(Eng.Zty p0 0 λ(ak
 : Value)=>chk (Zar i64 ak&&decide (i64=i64)) (br (RowKit.intOf ak == (3:Int)) (chk (Zar i64 v&&decide (i64=i64)) (br (RowKit.intOf v == (1:Int)) ([some (Box.mk aa (List.replicate 256 (int i64 0)) 106
 256 false true),some (Box.mk b p0 109 260 true true)]=[some (Box.mk aa (List.replicate 256 (int i64 0)) 106 256 false true),some (Box.mk b p0 109 260 true true)]/\[bool true]=[bool ag]) (chk (Zar i64 v &&
 decide (i64=i64)) (br (RowKit.intOf v == (3:Int)) ([some (Box.mk aa (List.replicate 256 (int i64 0)) 106 256 false true),some (Box.mk b p0 109 260 true true)]=[some (Box.mk aa (List.replicate 256 (int i64 0)) 106
 256 false true),some (Box.mk b p0 109 260 true true)]/\[bool true]=[bool ag]) (Eng.Zty p0 0 λ(ah:Value)=>chk (Zar i64 ah&&decide (i64=i64)) (br (RowKit.intOf ah == (4:Int)) (chk (Zar i64 v &&
 decide (i64=i64)) (br (RowKit.intOf v == (4:Int)) ([some (Box.mk aa (List.replicate 256 (int i64 0)) 106 256 false true),some (Box.mk b p0 109 260 true true)]=[some (Box.mk aa (List.replicate 256 (int i64 0)) 106
 256 false true),some (Box.mk b p0 109 260 true true)]/\[bool true]=[bool ag]) (Eng.Zty p0 0 λ(ac:Value)=>chk (Zar i64 ac&&decide (i64=i64)) (br (RowKit.intOf ac == (5:Int)) (chk (Zar i64 v &&
 decide (i64=i64)) (br (RowKit.intOf v == (1:Int)) ([some (Box.mk aa (List.replicate 256 (int i64 0)) 106 256 false true),some (Box.mk b p0 109 260 true true)]=[some (Box.mk aa (List.replicate 256 (int i64 0)) 106
 256 false true),some (Box.mk b p0 109 260 true true)]/\[bool true]=[bool ag]) (Eng.Zty p0 259 λ(v:Value)=>chk (Zcf v) (∃(ad:Nat),∃(o:Nat),slA v=some (Addr.mk ad o none)/\Zaf n (slN v)/\∃(vs
 : List Value),List.length vs=260/\Mem.reads ab ad (o+Int.toNat n*260) vs/\∃(R:RT),True/\CX Try.prog 121 (Array.mk [agg (Array.mk vs)]) ab [] R/\Zaq Shape.bool R/\∀(ae:Bool)(m':Mem),Mem.le ab m'->
 R (bool ae) m' []->[some (Box.mk aa (List.replicate 256 (int i64 0)) 106 256 false true),some (Box.mk b p0 109 260 true true)]=[some (Box.mk aa (List.replicate 256 (int i64 0)) 106 256 false true),some (Box.mk b p0
 109 260 true true)]/\[bool !ae]=[bool ag])))) (Eng.Zty p0 259 λ(v:Value)=>chk (Zcf v) (∃(ad:Nat),∃(o:Nat),slA v=some (Addr.mk ad o none)/\Zaf n (slN v)/\∃(vs:List Value),List.length vs =
 260/\Mem.reads ab ad (o+Int.toNat n*260) vs/\∃(R:RT),True/\CX Try.prog 121 (Array.mk [agg (Array.mk vs)]) ab [] R/\Zaq Shape.bool R/\∀(ae:Bool)(m':Mem),Mem.le ab m'->R (bool ae) m' []->[some
 (Box.mk aa (List.replicate 256 (int i64 0)) 106 256 false true),some (Box.mk b p0 109 260 true true)]=[some (Box.mk aa (List.replicate 256 (int i64 0)) 106 256 false true),some (Box.mk b p0 109 260 true true)]/\
 [bool !ae]=[bool ag])))))) (Eng.Zty p0 0 λ(ac:Value)=>chk (Zar i64 ac&&decide (i64=i64)) (br (RowKit.intOf ac == (5:Int)) (chk (Zar i64 v&&decide (i64=i64)) (br (RowKit.intOf v == (1:Int))
 ([some (Box.mk aa (List.replicate 256 (int i64 0)) 106 256 false true),some (Box.mk b p0 109 260 true true)]=[some (Box.mk aa (List.replicate 256 (int i64 0)) 106 256 false true),some (Box.mk b p0 109 260 true
 true)]/\[bool true]=[bool ag]) (Eng.Zty p0 259 λ(v:Value)=>chk (Zcf v) (∃(ad:Nat),∃(o:Nat),slA v=some (Addr.mk ad o none)/\Zaf n (slN v)/\∃(vs:List Value),List.length vs=260/\Mem.reads
 ab ad (o+Int.toNat n*260) vs/\∃(R:RT),True/\CX Try.prog 121 (Array.mk [agg (Array.mk vs)]) ab [] R/\Zaq Shape.bool R/\∀(ae:Bool)(m':Mem),Mem.le ab m'->R (bool ae) m' []->[some (Box.mk aa
 (List.replicate 256 (int i64 0)) 106 256 false true),some (Box.mk b p0 109 260 true true)]=[some (Box.mk aa (List.replicate 256 (int i64 0)) 106 256 false true),some (Box.mk b p0 109 260 true true)]/\[bool !ae] =
 [bool ag])))) (Eng.Zty p0 259 λ(v:Value)=>chk (Zcf v) (∃(ad:Nat),∃(o:Nat),slA v=some (Addr.mk ad o none)/\Zaf n (slN v)/\∃(vs:List Value),List.length vs=260/\Mem.reads ab ad (o +
 Int.toNat n*260) vs/\∃(R:RT),True/\CX Try.prog 121 (Array.mk [agg (Array.mk vs)]) ab [] R/\Zaq Shape.bool R/\∀(ae:Bool)(m':Mem),Mem.le ab m'->R (bool ae) m' []->[some (Box.mk aa (List.replicate 256
 (int i64 0)) 106 256 false true),some (Box.mk b p0 109 260 true true)]=[some (Box.mk aa (List.replicate 256 (int i64 0)) 106 256 false true),some (Box.mk b p0 109 260 true true)]/\[bool !ae]=[bool ag]))))))))))
 (Eng.Zty p0 0 λ(ah:Value)=>chk (Zar i64 ah&&decide (i64=i64)) (br (RowKit.intOf ah == (4:Int)) (chk (Zar i64 v&&decide (i64=i64)) (br (RowKit.intOf v == (4:Int)) ([some (Box.mk aa (List.replicate
 256 (int i64 0)) 106 256 false true),some (Box.mk b p0 109 260 true true)]=[some (Box.mk aa (List.replicate 256 (int i64 0)) 106 256 false true),some (Box.mk b p0 109 260 true true)]/\[bool true]=[bool ag])
 (Eng.Zty p0 0 λ(ac:Value)=>chk (Zar i64 ac&&decide (i64=i64)) (br (RowKit.intOf ac == (5:Int)) (chk (Zar i64 v&&decide (i64=i64)) (br (RowKit.intOf v == (1:Int)) ([some (Box.mk aa (List.replicate
 256 (int i64 0)) 106 256 false true),some (Box.mk b p0 109 260 true true)]=[some (Box.mk aa (List.replicate 256 (int i64 0)) 106 256 false true),some (Box.mk b p0 109 260 true true)]/\[bool true]=[bool ag])
 (Eng.Zty p0 259 λ(v:Value)=>chk (Zcf v) (∃(ad:Nat),∃(o:Nat),slA v=some (Addr.mk ad o none)/\Zaf n (slN v)/\∃(vs:List Value),List.length vs=260/\Mem.reads ab ad (o+Int.toNat n*260) vs
 /\ ∃(R:RT),True/\CX Try.prog 121 (Array.mk [agg (Array.mk vs)]) ab [] R/\Zaq Shape.bool R/\∀(ae:Bool)(m':Mem),Mem.le ab m'->R (bool ae) m' []->[some (Box.mk aa (List.replicate 256 (int i64 0)) 106 256
 false true),some (Box.mk b p0 109 260 true true)]=[some (Box.mk aa (List.replicate 256 (int i64 0)) 106 256 false true),some (Box.mk b p0 109 260 true true)]/\[bool !ae]=[bool ag])))) (Eng.Zty p0 259 λ(v:
 Value)=>chk (Zcf v) (∃(ad:Nat),∃(o:Nat),slA v=some (Addr.mk ad o none)/\Zaf n (slN v)/\∃(vs:List Value),List.length vs=260/\Mem.reads ab ad (o+Int.toNat n*260) vs/\∃(R:RT),True/\CX
 Try.prog 121 (Array.mk [agg (Array.mk vs)]) ab [] R/\Zaq Shape.bool R/\∀(ae:Bool)(m':Mem),Mem.le ab m'->R (bool ae) m' []->[some (Box.mk aa (List.replicate 256 (int i64 0)) 106 256 false true),some (Box.mk
 b p0 109 260 true true)]=[some (Box.mk aa (List.replicate 256 (int i64 0)) 106 256 false true),some (Box.mk b p0 109 260 true true)]/\[bool !ae]=[bool ag])))))) (Eng.Zty p0 0 λ(ac:Value)=>chk (Zar i64 ac
 && decide (i64=i64)) (br (RowKit.intOf ac == (5:Int)) (chk (Zar i64 v&&decide (i64=i64)) (br (RowKit.intOf v == (1:Int)) ([some (Box.mk aa (List.replicate 256 (int i64 0)) 106 256 false true),some (Box.mk b
 p0 109 260 true true)]=[some (Box.mk aa (List.replicate 256 (int i64 0)) 106 256 false true),some (Box.mk b p0 109 260 true true)]/\[bool true]=[bool ag]) (Eng.Zty p0 259 λ(v:Value)=>chk (Zcf v) (∃(ad:
 Nat),∃(o:Nat),slA v=some (Addr.mk ad o none)/\Zaf n (slN v)/\∃(vs:List Value),List.length vs=260/\Mem.reads ab ad (o+Int.toNat n*260) vs/\∃(R:RT),True/\CX Try.prog 121 (Array.mk [agg
 (Array.mk vs)]) ab [] R/\Zaq Shape.bool R/\∀(ae:Bool)(m':Mem),Mem.le ab m'->R (bool ae) m' []->[some (Box.mk aa (List.replicate 256 (int i64 0)) 106 256 false true),some (Box.mk b p0 109 260 true true)] =
 [some (Box.mk aa (List.replicate 256 (int i64 0)) 106 256 false true),some (Box.mk b p0 109 260 true true)]/\[bool !ae]=[bool ag])))) (Eng.Zty p0 259 λ(v:Value)=>chk (Zcf v) (∃(ad:Nat),∃(o:Nat),slA
 v=some (Addr.mk ad o none)/\Zaf n (slN v)/\∃(vs:List Value),List.length vs=260/\Mem.reads ab ad (o+Int.toNat n*260) vs/\∃(R:RT),True/\CX Try.prog 121 (Array.mk [agg (Array.mk vs)]) ab [] R/\
 Zaq Shape.bool R/\∀(ae:Bool)(m':Mem),Mem.le ab m'->R (bool ae) m' []->[some (Box.mk aa (List.replicate 256 (int i64 0)) 106 256 false true),some (Box.mk b p0 109 260 true true)]=[some (Box.mk aa
 (List.replicate 256 (int i64 0)) 106 256 false true),some (Box.mk b p0 109 260 true true)]/\[bool !ae]=[bool ag]))))))))/\br ag (∃(m'':Mem),Mem.le m m''/\Mem.le m'' ab/\R (bool false) m'' []) ([some (Box.mk
 aa (List.replicate 256 (int i64 0)) 106 256 false true),some (Box.mk b p0 109 260 true true)]=[some (Box.mk aa (List.replicate 256 (int i64 0)) 106 256 false true),some (Box.mk b p0 109 260 true true)]/\∃(n':
 Nat),n' < am/\I [int i64 (IntKind.wrap i64 (n+(1:Int)))] [] [] ab n'))) (∃(m'':Mem),Mem.le m m''/\Mem.le m'' ab/\R (bool true) m'' []))))))))))))
theorem Zkc(p0:List Value)(m:Mem)(R:RT)(h:ZgC p0 m R):CX Try.prog 121 #[.agg p0.toArray] m [] R:=
 Zae (E:=ZlW) Zax mix Try.func121 [.v (.agg p0.toArray)] [] (by kernel_rfl) (Eq.mp (by kernel_rfl) h)
noncomputable def ZlX:Env:={ EB with
 joins:=(λi=>bif Nat.beq i 1 then some [(2,.bool)]else none)
 frzNew:=[1] }
def ZgD(p0:List Value)(m:Mem)(R:RT):Prop:=
 chk (Nat.beq (List.length p0) 260) (∀(b:Nat)(m':Mem),Mem.le m m'->Mem.reads m' b 0 p0->∃(b_1:Bool),(∃(R:RT),True/\CX Try.prog 120 (Array.mk [agg (Array.mk p0)]) m' [] R/\Zaq Shape.bool R/\∀(b_2:
 Bool) (m'_1:Mem),Mem.le m' m'_1->R (bool b_2) m'_1 []->br b_2 (∃(R:RT),True/\CX Try.prog 121 (Array.mk [agg (Array.mk p0)]) m'_1 [] R/\Zaq Shape.bool R/\∀(b_3:Bool)(m':Mem),Mem.le m'_1 m'->R (bool
 b_3) m' []->[some (Box.mk b p0 109 260 true true)]=[some (Box.mk b p0 109 260 true true)]/\[bool b_3]=[bool b_1]) ([some (Box.mk b p0 109 260 true true)]=[some (Box.mk b p0 109 260 true true)]/\[bool false] =
 [bool b_1]))/\∃(m'':Mem),Mem.le m m''/\Mem.le m'' m'/\R (bool b_1) m'' [])
theorem Zkd(p0:List Value)(m:Mem)(R:RT)(h:ZgD p0 m R):CX Try.prog 107 #[.agg p0.toArray] m [] R:=
 Zae (E:=ZlX) Zax mix Try.func107 [.v (.agg p0.toArray)] [] (by kernel_rfl) (Eq.mp (by kernel_rfl) h)
noncomputable def ZnM:Env:={ EB with
 loops:=(λi=>bif Nat.beq i 4 then⟨[(5,.int .i64)],[],[],false⟩ else⟨[],[],[],false⟩)
 joins:=(λi=>bif Nat.beq i 1 then some [(40,.bool)]else none)
 dr:=(λi=>bif Nat.beq i 6 then[⟨0,[2],[],none,[],[]⟩,⟨1,[2],[],none,[0],[]⟩,⟨2,[],[],none,[],[]⟩,⟨3,[],[],none,[0,1,2],[]⟩,⟨4,[],[],none,[0,1,2,3],[]⟩,⟨5,[3],[],none,[],[]⟩,⟨6,[3],[],none,[5],[]⟩,⟨7,[],[],none,[],[]⟩,⟨8,[],[],none,[5,6,7],[]⟩,⟨9,[],[],none,[5,6,7,8],[]⟩,⟨10,[],[],none,[0,1,2,3,4,5,6,7,8,9],[]⟩,⟨11,[],[],none,[0,1,2,3,4,5,6,7,8,9,10],[]⟩]else[])
 frzNew:=[2,3]
 gb:=true }
def ZhF(p0 p1:List Value)(m:Mem)(R:RT):Prop:=
 chk (Nat.beq (List.length p0) 260) (∀(b:Nat)(m':Mem),Mem.le m m'->Mem.reads m' b 0 p0->chk (Nat.beq (List.length p1) 260) (∀(aa:Nat)(ac:Mem),Mem.le m' ac->Mem.reads ac aa 0 p1->∃(ab:Bool),(Eng.Zty
 p0 0 λ(v:Value)=>Eng.Zty p1 0 λ(ag:Value)=>chk (Zar i64 v&&Zar i64 ag) (br (!RowKit.intOf v == RowKit.intOf ag) ([some (Box.mk aa p1 109 260 true true),some (Box.mk b p0 109 260 true true)]=[some
 (Box.mk aa p1 109 260 true true),some (Box.mk b p0 109 260 true true)]/\[bool true]=[bool ab]) (chk (Nat.ble 257 (List.length p0)) (chk (Nat.ble 257 (List.length p1)) (∃(ad:Bool),EqIs Try.prog 106 (agg (Array.mk
 (List.take 256 (List.drop 1 p0)))) (agg (Array.mk (List.take 256 (List.drop 1 p1)))) ad/\br (!ad) ([some (Box.mk aa p1 109 260 true true),some (Box.mk b p0 109 260 true true)]=[some (Box.mk aa p1 109 260 true true),
 some (Box.mk b p0 109 260 true true)]/\[bool true]=[bool ab]) (Eng.Zty p0 257 λ(v:Value)=>Eng.Zty p1 257 λ(ah:Value)=>chk (Zar i64 v&&Zar i64 ah) (br (!RowKit.intOf v == RowKit.intOf ah) ([some
 (Box.mk aa p1 109 260 true true),some (Box.mk b p0 109 260 true true)]=[some (Box.mk aa p1 109 260 true true),some (Box.mk b p0 109 260 true true)]/\[bool true]=[bool ab]) (Eng.Zty p0 258 λ(v:Value)=>
 Eng.Zty p1 258 λ(ai:Value)=>chk (Zar i64 v&&Zar i64 ai) (br (!RowKit.intOf v == RowKit.intOf ai) ([some (Box.mk aa p1 109 260 true true),some (Box.mk b p0 109 260 true true)]=[some (Box.mk aa p1 109 260
 true true),some (Box.mk b p0 109 260 true true)]/\[bool true]=[bool ab]) (Eng.Zty p0 259 λ(v:Value)=>chk (Zcf v) (Eng.Zty p1 259 λ(aj:Value)=>chk (Zcf aj) ([some (Box.mk aa p1 109 260 true true),
 some (Box.mk b p0 109 260 true true)]=[some (Box.mk aa p1 109 260 true true),some (Box.mk b p0 109 260 true true)]/\[bool !(↑(slN v):Int) == (↑(slN aj):Int)]=[bool ab]))))))))))))/\br ab (∃(m'':Mem),
 Mem.le m m''/\Mem.le m'' ac/\R (bool false) m'' []) (∃(I:IT),(∃(n:Nat),I [int i64 0] [] [] ac n)/\∀(n:Int)(m':Mem)(ak:Nat),Mem.le ac m'->I [int i64 n] [] [] m' ak->Eng.Zty p0 259 λ(v:Value)
 => chk (Zcf v) (br (decide (n < (↑(slN v):Int))) (∃(f:Fx),Eng.Zty p0 259 λ(v:Value)=>chk (Zcf v) (∃(ad:Nat),∃(o:Nat),slA v=some (Addr.mk ad o none)/\Zaf n (slN v)/\∃(vs:List Value),
 List.length vs=260/\Mem.reads m' ad (o+Int.toNat n*260) vs/\Eng.Zty p1 259 λ(v:Value)=>chk (Zcf v) (∃(al:Nat),∃(o:Nat),slA v=some (Addr.mk al o none)/\Zaf n (slN v)/\∃(ae:List Value),
 List.length ae=260/\Mem.reads m' al (o+Int.toNat n*260) ae/\∃(R_1:RT),R_1=f 10 [agg (Array.mk vs),agg (Array.mk ae)] m'/\CX Try.prog 89 (Array.mk [agg (Array.mk vs),agg (Array.mk ae)]) m' [] R_1/\Zaq
 Shape.bool R_1/\∀(am:Bool)(af:Mem),Mem.le m' af->R_1 (bool am) af []->∀(M:Mem),Mem.le m' M->Mem.le af M->br (!am) (∃(m'':Mem),Mem.le m m''/\Mem.le m'' M/\R (bool false) m'' []) ([some (Box.mk aa p1
 109 260 true true),some (Box.mk b p0 109 260 true true)]=[some (Box.mk aa p1 109 260 true true),some (Box.mk b p0 109 260 true true)]/\∃(n':Nat),n' < ak/\I [int i64 (IntKind.wrap i64 (n+(1:Int)))] [] [] M
 n')))) (∃(m'':Mem),Mem.le m m''/\Mem.le m'' m'/\R (bool true) m'' [])))))
theorem ZlY(p0 p1:List Value)(m:Mem)(R:RT)(h:ZhF p0 p1 m R):CX Try.prog 89 #[.agg p0.toArray,.agg p1.toArray] m [] R:=
 Zae (E:=ZnM) Zax mix Try.func89 [.v (.agg p0.toArray),.v (.agg p1.toArray)] [] (by kernel_rfl) (Eq.mp (by kernel_rfl) h)
noncomputable def ZgY:Env:={ EB with
 loops:=(λi=>bif Nat.beq i 5 then⟨[(3,.int .i64),(4,.int .i64)],[],[],false⟩ else⟨[],[],[],false⟩)
 frzNew:=[1]
 gb:=true }
def Zdr(p0:List Value)(m:Mem)(R:RT):Prop:=
 chk (Nat.beq (List.length p0) 260) (∀(b:Nat)(m':Mem),Mem.le m m'->Mem.reads m' b 0 p0->Eng.Zty p0 0 λ(v:Value)=>chk (Zar i64 v&&decide (i64=i64)) (br (RowKit.intOf v == (2:Int)) (∃(I:IT),(∃
 (n:Nat),I [int i64 1,int i64 0] [] [] m' n)/\∀(n ab:Int)(aa:Mem)(ac:Nat),Mem.le m' aa->I [int i64 n,int i64 ab] [] [] aa ac->Eng.Zty p0 259 λ(v:Value)=>chk (Zcf v) (br (decide (ab < (↑(slN v)
 : Int))) (Eng.Zty p0 259 λ(v:Value)=>chk (Zcf v) (∃(ad:Nat),∃(o:Nat),slA v=some (Addr.mk ad o none)/\Zaf ab (slN v)/\∃(vs:List Value),List.length vs=260/\Mem.reads aa ad (o+Int.toNat ab
 * 260) vs/\∃(R:RT),True/\CX Try.prog 123 (Array.mk [agg (Array.mk vs)]) aa [] R/\Zaq (Shape.int i64) R/\∀(ae:Int)(m':Mem),Mem.le aa m'->R (int i64 ae) m' []->[some (Box.mk b p0 109 260 true true)] =
 [some (Box.mk b p0 109 260 true true)]/\∃(n':Nat),n' < ac/\I [int i64 (IntKind.wrap i64 (n+ae)),int i64 (IntKind.wrap i64 (ab+(1:Int)))] [] [] m' n')) (Eng.Zty p0 0 λ(v:Value)=>chk (Zar i64 v &&
 decide (i64=i64)) (br (RowKit.intOf v == (5:Int)) (Eng.Zty p0 258 λ(v:Value)=>Eng.Zty p0 258 λ(af:Value)=>chk (Zar i64 af&&decide (i64=i64)) (br (RowKit.intOf af == (-1:Int)) (Eng.Zty p0 257
 λ(v:Value)=>chk (Zar i64 v) (br (decide ((1:Int) < RowKit.intOf v)) (Eng.Zty p0 257 λ(v:Value)=>chk (Zar i64 v&&decide (i64=i64)) (br (decide (RowKit.intOf v < (0:Int))) (br (decide
 (IntKind.wrap i64 (n*(0:Int)) > (10001:Int))) (∃(m'':Mem),Mem.le m m''/\Mem.le m'' aa/\R (int i64 10001) m'' []) (∃(m'':Mem),Mem.le m m''/\Mem.le m'' aa/\R (int i64 (IntKind.wrap i64 (n*(0:Int))))
 m'' [])) (chk (Zar i64 v&&decide (i64=i64)) (br (decide (RowKit.intOf v > (10001:Int))) (br (decide (IntKind.wrap i64 (n*(10001:Int)) > (10001:Int))) (∃(m'':Mem),Mem.le m m''/\Mem.le m'' aa/\R (int
 i64 10001) m'' []) (∃(m'':Mem),Mem.le m m''/\Mem.le m'' aa/\R (int i64 (IntKind.wrap i64 (n*(10001:Int)))) m'' [])) (chk (Zar i64 v) (br (decide (IntKind.wrap i64 (n*RowKit.intOf v) > (10001:Int))) (∃
 (m'':Mem),Mem.le m m''/\Mem.le m'' aa/\R (int i64 10001) m'' []) (∃(m'':Mem),Mem.le m m''/\Mem.le m'' aa/\R (int i64 (IntKind.wrap i64 (n*RowKit.intOf v))) m'' []))))))) (br (decide (IntKind.wrap i64 (n *
 (1:Int)) > (10001:Int))) (∃(m'':Mem),Mem.le m m''/\Mem.le m'' aa/\R (int i64 10001) m'' []) (∃(m'':Mem),Mem.le m m''/\Mem.le m'' aa/\R (int i64 (IntKind.wrap i64 (n*(1:Int)))) m'' [])))) (Eng.Zty p0
 257 λ(ag:Value)=>chk (Zar i64 v&&Zar i64 ag) (br (decide (RowKit.intOf v < RowKit.intOf ag)) (Eng.Zty p0 257 λ(v:Value)=>chk (Zar i64 v&&decide (i64=i64)) (br (decide (RowKit.intOf v < (0:
 Int))) (br (decide (IntKind.wrap i64 (n*(0:Int)) > (10001:Int))) (∃(m'':Mem),Mem.le m m''/\Mem.le m'' aa/\R (int i64 10001) m'' []) (∃(m'':Mem),Mem.le m m''/\Mem.le m'' aa/\R (int i64 (IntKind.wrap i64
 (n*(0:Int)))) m'' [])) (chk (Zar i64 v&&decide (i64=i64)) (br (decide (RowKit.intOf v > (10001:Int))) (br (decide (IntKind.wrap i64 (n*(10001:Int)) > (10001:Int))) (∃(m'':Mem),Mem.le m m''/\Mem.le
 m'' aa/\R (int i64 10001) m'' []) (∃(m'':Mem),Mem.le m m''/\Mem.le m'' aa/\R (int i64 (IntKind.wrap i64 (n*(10001:Int)))) m'' [])) (chk (Zar i64 v) (br (decide (IntKind.wrap i64 (n*RowKit.intOf v) >
 (10001:Int))) (∃(m'':Mem),Mem.le m m''/\Mem.le m'' aa/\R (int i64 10001) m'' []) (∃(m'':Mem),Mem.le m m''/\Mem.le m'' aa/\R (int i64 (IntKind.wrap i64 (n*RowKit.intOf v))) m'' []))))))) (chk (Zar i64 v
 && decide (i64=i64)) (br (decide (RowKit.intOf v < (0:Int))) (br (decide (IntKind.wrap i64 (n*(0:Int)) > (10001:Int))) (∃(m'':Mem),Mem.le m m''/\Mem.le m'' aa/\R (int i64 10001) m'' []) (∃(m'':Mem),
 Mem.le m m''/\Mem.le m'' aa/\R (int i64 (IntKind.wrap i64 (n*(0:Int)))) m'' [])) (chk (Zar i64 v&&decide (i64=i64)) (br (decide (RowKit.intOf v > (10001:Int))) (br (decide (IntKind.wrap i64 (n*(10001:
 Int)) > (10001:Int))) (∃(m'':Mem),Mem.le m m''/\Mem.le m'' aa/\R (int i64 10001) m'' []) (∃(m'':Mem),Mem.le m m''/\Mem.le m'' aa/\R (int i64 (IntKind.wrap i64 (n*(10001:Int)))) m'' [])) (chk (Zar i64
 v) (br (decide (IntKind.wrap i64 (n*RowKit.intOf v) > (10001:Int))) (∃(m'':Mem),Mem.le m m''/\Mem.le m'' aa/\R (int i64 10001) m'' []) (∃(m'':Mem),Mem.le m m''/\Mem.le m'' aa/\R (int i64 (IntKind.wrap
 i64 (n*RowKit.intOf v))) m'' []))))))))))) (br (decide (n > (10001:Int))) (∃(m'':Mem),Mem.le m m''/\Mem.le m'' aa/\R (int i64 10001) m'' []) (∃(m'':Mem),Mem.le m m''/\Mem.le m'' aa/\R (int i64 n) m''
 [])))))) (∃(I:IT),(∃(n:Nat),I [int i64 0,int i64 0] [] [] m' n)/\∀(n ab:Int)(aa:Mem)(ac:Nat),Mem.le m' aa->I [int i64 n,int i64 ab] [] [] aa ac->Eng.Zty p0 259 λ(v:Value)=>chk (Zcf v) (br
 (decide (ab < (↑(slN v):Int))) (Eng.Zty p0 259 λ(v:Value)=>chk (Zcf v) (∃(ad:Nat),∃(o:Nat),slA v=some (Addr.mk ad o none)/\Zaf ab (slN v)/\∃(vs:List Value),List.length vs=260/\Mem.reads
 aa ad (o+Int.toNat ab*260) vs/\∃(R:RT),True/\CX Try.prog 123 (Array.mk [agg (Array.mk vs)]) aa [] R/\Zaq (Shape.int i64) R/\∀(ae:Int)(m':Mem),Mem.le aa m'->R (int i64 ae) m' []->[some (Box.mk b p0
 109 260 true true)]=[some (Box.mk b p0 109 260 true true)]/\∃(n':Nat),n' < ac/\I [int i64 (IntKind.wrap i64 (n+ae)),int i64 (IntKind.wrap i64 (ab+(1:Int)))] [] [] m' n')) (Eng.Zty p0 0 λ(v:Value)=>
 chk (Zar i64 v&&decide (i64=i64)) (br (RowKit.intOf v == (5:Int)) (Eng.Zty p0 258 λ(v:Value)=>Eng.Zty p0 258 λ(af:Value)=>chk (Zar i64 af&&decide (i64=i64)) (br (RowKit.intOf af == (-1:
 Int)) (Eng.Zty p0 257 λ(v:Value)=>chk (Zar i64 v) (br (decide ((1:Int) < RowKit.intOf v)) (Eng.Zty p0 257 λ(v:Value)=>chk (Zar i64 v&&decide (i64=i64)) (br (decide (RowKit.intOf v < (0:Int)))
 (br (decide (IntKind.wrap i64 (n*(0:Int)) > (10001:Int))) (∃(m'':Mem),Mem.le m m''/\Mem.le m'' aa/\R (int i64 10001) m'' []) (∃(m'':Mem),Mem.le m m''/\Mem.le m'' aa/\R (int i64 (IntKind.wrap i64 (n *
 (0:Int)))) m'' [])) (chk (Zar i64 v&&decide (i64=i64)) (br (decide (RowKit.intOf v > (10001:Int))) (br (decide (IntKind.wrap i64 (n*(10001:Int)) > (10001:Int))) (∃(m'':Mem),Mem.le m m''/\Mem.le m''
 aa/\R (int i64 10001) m'' []) (∃(m'':Mem),Mem.le m m''/\Mem.le m'' aa/\R (int i64 (IntKind.wrap i64 (n*(10001:Int)))) m'' [])) (chk (Zar i64 v) (br (decide (IntKind.wrap i64 (n*RowKit.intOf v) > (10001:
 Int))) (∃(m'':Mem),Mem.le m m''/\Mem.le m'' aa/\R (int i64 10001) m'' []) (∃(m'':Mem),Mem.le m m''/\Mem.le m'' aa/\R (int i64 (IntKind.wrap i64 (n*RowKit.intOf v))) m'' []))))))) (br (decide (IntKind.wrap
 i64 (n*(1:Int)) > (10001:Int))) (∃(m'':Mem),Mem.le m m''/\Mem.le m'' aa/\R (int i64 10001) m'' []) (∃(m'':Mem),Mem.le m m''/\Mem.le m'' aa/\R (int i64 (IntKind.wrap i64 (n*(1:Int)))) m'' []))))
 (Eng.Zty p0 257 λ(ag:Value)=>chk (Zar i64 v&&Zar i64 ag) (br (decide (RowKit.intOf v < RowKit.intOf ag)) (Eng.Zty p0 257 λ(v:Value)=>chk (Zar i64 v&&decide (i64=i64)) (br (decide
 (RowKit.intOf v < (0:Int))) (br (decide (IntKind.wrap i64 (n*(0:Int)) > (10001:Int))) (∃(m'':Mem),Mem.le m m''/\Mem.le m'' aa/\R (int i64 10001) m'' []) (∃(m'':Mem),Mem.le m m''/\Mem.le m'' aa/\R
 (int i64 (IntKind.wrap i64 (n*(0:Int)))) m'' [])) (chk (Zar i64 v&&decide (i64=i64)) (br (decide (RowKit.intOf v > (10001:Int))) (br (decide (IntKind.wrap i64 (n*(10001:Int)) > (10001:Int))) (∃(m'':
 Mem),Mem.le m m''/\Mem.le m'' aa/\R (int i64 10001) m'' []) (∃(m'':Mem),Mem.le m m''/\Mem.le m'' aa/\R (int i64 (IntKind.wrap i64 (n*(10001:Int)))) m'' [])) (chk (Zar i64 v) (br (decide (IntKind.wrap i64
 (n*RowKit.intOf v) > (10001:Int))) (∃(m'':Mem),Mem.le m m''/\Mem.le m'' aa/\R (int i64 10001) m'' []) (∃(m'':Mem),Mem.le m m''/\Mem.le m'' aa/\R (int i64 (IntKind.wrap i64 (n*RowKit.intOf v))) m''
 []))))))) (chk (Zar i64 v&&decide (i64=i64)) (br (decide (RowKit.intOf v < (0:Int))) (br (decide (IntKind.wrap i64 (n*(0:Int)) > (10001:Int))) (∃(m'':Mem),Mem.le m m''/\Mem.le m'' aa/\R (int i64
 10001) m'' []) (∃(m'':Mem),Mem.le m m''/\Mem.le m'' aa/\R (int i64 (IntKind.wrap i64 (n*(0:Int)))) m'' [])) (chk (Zar i64 v&&decide (i64=i64)) (br (decide (RowKit.intOf v > (10001:Int))) (br (decide
 (IntKind.wrap i64 (n*(10001:Int)) > (10001:Int))) (∃(m'':Mem),Mem.le m m''/\Mem.le m'' aa/\R (int i64 10001) m'' []) (∃(m'':Mem),Mem.le m m''/\Mem.le m'' aa/\R (int i64 (IntKind.wrap i64 (n*(10001:
 Int)))) m'' [])) (chk (Zar i64 v) (br (decide (IntKind.wrap i64 (n*RowKit.intOf v) > (10001:Int))) (∃(m'':Mem),Mem.le m m''/\Mem.le m'' aa/\R (int i64 10001) m'' []) (∃(m'':Mem),Mem.le m m''/\Mem.le m''
 aa/\R (int i64 (IntKind.wrap i64 (n*RowKit.intOf v))) m'' []))))))))))) (br (decide (n > (10001:Int))) (∃(m'':Mem),Mem.le m m''/\Mem.le m'' aa/\R (int i64 10001) m'' []) (∃(m'':Mem),Mem.le m m''/\Mem.le
 m'' aa/\R (int i64 n) m'' []))))))))
theorem Zf4(p0:List Value)(m:Mem)(R:RT)(h:Zdr p0 m R):CX Try.prog 123 #[.agg p0.toArray] m [] R:=
 Zae (E:=ZgY) Zax mix Try.func123 [.v (.agg p0.toArray)] [] (by kernel_rfl) (Eq.mp (by kernel_rfl) h)
noncomputable def ZgZ:Env:={ EB with
 frzNew:=[1] }
def Zds(p0:List Value)(m:Mem)(R:RT):Prop:=
 chk (Nat.beq (List.length p0) 260) (∀(b:Nat)(m':Mem),Mem.le m m'->Mem.reads m' b 0 p0->∃(R_1:RT),True/\CX Try.prog 120 (Array.mk [agg (Array.mk p0)]) m' [] R_1/\Zaq Shape.bool R_1/\∀(b:Bool) (m'_1:
 Mem),Mem.le m' m'_1->R_1 (bool b) m'_1 []->br (!b) (∃(m'':Mem),Mem.le m m''/\Mem.le m'' m'_1/\R (int i64 10001) m'' []) (∃(R_2:RT),True/\CX Try.prog 123 (Array.mk [agg (Array.mk p0)]) m'_1 [] R_2/\Zaq
 (Shape.int i64) R_2/\∀(n:Int)(m':Mem),Mem.le m'_1 m'->R_2 (int i64 n) m' []->∃(m'':Mem),Mem.le m m''/\Mem.le m'' m'/\R (int i64 n) m'' []))
theorem Zf5(p0:List Value)(m:Mem)(R:RT)(h:Zds p0 m R):CX Try.prog 109 #[.agg p0.toArray] m [] R:=
 Zae (E:=ZgZ) Zax mix Try.func109 [.v (.agg p0.toArray)] [] (by kernel_rfl) (Eq.mp (by kernel_rfl) h)
noncomputable def Zke:Env:={ EB with
 loops:=(λi=>bif Nat.beq i 5 then⟨[(3,.int .i64),(4,.int .i64)],[],[],false⟩ else⟨[],[],[],false⟩)
 frzNew:=[1] }
def ZfD(p0:List Value)(m:Mem)(R:RT):Prop:=
 chk (Nat.beq (List.length p0) 260) (∀(b:Nat)(m':Mem),Mem.le m m'->Mem.reads m' b 0 p0->Eng.Zty p0 0 λ(v:Value)=>chk (Zar i64 v&&decide (i64=i64)) (br (RowKit.intOf v == (6:Int)) (∃(I:IT),(∃
 (n:Nat),I [int i64 1,int i64 0] [] [] m' n)/\∀(n n_1:Int)(m'_1:Mem)(n_2:Nat),Mem.le m' m'_1->I [int i64 n,int i64 n_1] [] [] m'_1 n_2->Eng.Zty p0 259 λ(v:Value)=>chk (Zcf v) (br (decide (n_1 <
 (↑(slN v):Int))) (Eng.Zty p0 259 λ(v:Value)=>chk (Zcf v) (∃(b_1:Nat),∃(o:Nat),slA v=some (Addr.mk b_1 o none)/\Zaf n_1 (slN v)/\∃(vs:List Value),List.length vs=260/\Mem.reads m'_1 b_1
 (o+Int.toNat n_1*260) vs/\∃(R:RT),True/\CX Try.prog 124 (Array.mk [agg (Array.mk vs)]) m'_1 [] R/\Zaq (Shape.int i64) R/\∀(n_3:Int)(m':Mem),Mem.le m'_1 m'->R (int i64 n_3) m' []->[some (Box.mk b p0
 109 260 true true)]=[some (Box.mk b p0 109 260 true true)]/\∃(n':Nat),n' < n_2/\I [int i64 (IntKind.wrap i64 (n+n_3)),int i64 (IntKind.wrap i64 (n_1+(1:Int)))] [] [] m' n')) (∃(m'':Mem),Mem.le m m''/\
 Mem.le m'' m'_1/\R (int i64 n) m'' []))) (∃(I:IT),(∃(n:Nat),I [int i64 0,int i64 0] [] [] m' n)/\∀(n n_1:Int)(m'_1:Mem)(n_2:Nat),Mem.le m' m'_1->I [int i64 n,int i64 n_1] [] [] m'_1 n_2->Eng.Zty
 p0 259 λ(v:Value)=>chk (Zcf v) (br (decide (n_1 < (↑(slN v):Int))) (Eng.Zty p0 259 λ(v:Value)=>chk (Zcf v) (∃(b_1:Nat),∃(o:Nat),slA v=some (Addr.mk b_1 o none)/\Zaf n_1 (slN v)/\∃(vs
 : List Value),List.length vs=260/\Mem.reads m'_1 b_1 (o+Int.toNat n_1*260) vs/\∃(R:RT),True/\CX Try.prog 124 (Array.mk [agg (Array.mk vs)]) m'_1 [] R/\Zaq (Shape.int i64) R/\∀(n_3:Int)(m':Mem),
 Mem.le m'_1 m'->R (int i64 n_3) m' []->[some (Box.mk b p0 109 260 true true)]=[some (Box.mk b p0 109 260 true true)]/\∃(n':Nat),n' < n_2/\I [int i64 (IntKind.wrap i64 (n+n_3)),int i64 (IntKind.wrap i64 (n_1
 + (1:Int)))] [] [] m' n')) (∃(m'':Mem),Mem.le m m''/\Mem.le m'' m'_1/\R (int i64 n) m'' [])))))
theorem Zi3(p0:List Value)(m:Mem)(R:RT)(h:ZfD p0 m R):CX Try.prog 124 #[.agg p0.toArray] m [] R:=
 Zae (E:=Zke) Zax mix Try.func124 [.v (.agg p0.toArray)] [] (by kernel_rfl) (Eq.mp (by kernel_rfl) h)
noncomputable def Zkf:Env:={ EB with
 frzNew:=[1] }
def ZfE(p0:List Value)(m:Mem)(R:RT):Prop:=
 chk (Nat.beq (List.length p0) 260) (∀(b:Nat)(m':Mem),Mem.le m m'->Mem.reads m' b 0 p0->∃(R_1:RT),True/\CX Try.prog 120 (Array.mk [agg (Array.mk p0)]) m' [] R_1/\Zaq Shape.bool R_1/\∀(b:Bool) (m'_1:
 Mem),Mem.le m' m'_1->R_1 (bool b) m'_1 []->br (!b) (∃(m'':Mem),Mem.le m m''/\Mem.le m'' m'_1/\R (int i64 10001) m'' []) (∃(R_2:RT),True/\CX Try.prog 124 (Array.mk [agg (Array.mk p0)]) m'_1 [] R_2/\Zaq
 (Shape.int i64) R_2/\∀(n:Int)(m':Mem),Mem.le m'_1 m'->R_2 (int i64 n) m' []->∃(m'':Mem),Mem.le m m''/\Mem.le m'' m'/\R (int i64 n) m'' []))
theorem Zi4(p0:List Value)(m:Mem)(R:RT)(h:ZfE p0 m R):CX Try.prog 110 #[.agg p0.toArray] m [] R:=
 Zae (E:=Zkf) Zax mix Try.func110 [.v (.agg p0.toArray)] [] (by kernel_rfl) (Eq.mp (by kernel_rfl) h)
noncomputable def ZlZ:Env:={ EB with
 frzNew:=[1] }
def ZgE(p0:List Value)(m:Mem)(R:RT):Prop:=
 chk (Nat.beq (List.length p0) 260) (∀(b:Nat)(m':Mem),Mem.le m m'->Mem.reads m' b 0 p0->∃(R_1:RT),True/\CX Try.prog 107 (Array.mk [agg (Array.mk p0)]) m' [] R_1/\Zaq Shape.bool R_1/\∀(b:Bool) (m'_1:
 Mem),Mem.le m' m'_1->R_1 (bool b) m'_1 []->br (!b) (∃(m'':Mem),Mem.le m m''/\Mem.le m'' m'_1/\R (int i64 80) m'' []) (∃(R_2:RT),True/\CX Try.prog 108 (Array.mk [agg (Array.mk p0)]) m'_1 [] R_2/\Zaq
 (Shape.int i64) R_2/\∀(n:Int)(m':Mem),Mem.le m'_1 m'->R_2 (int i64 n) m' []->br (decide (n > (120:Int))) (∃(m'':Mem),Mem.le m m''/\Mem.le m'' m'/\R (int i64 81) m'' []) (∃(R_3:RT),True/\CX
 Try.prog 109 (Array.mk [agg (Array.mk p0)]) m' [] R_3/\Zaq (Shape.int i64) R_3/\∀(n:Int)(m'_2:Mem),Mem.le m' m'_2->R_3 (int i64 n) m'_2 []->br (decide (n > (400:Int))) (∃(m'':Mem),Mem.le m m''/\Mem.le
 m'' m'_2/\R (int i64 82) m'' []) (∃(R_4:RT),True/\CX Try.prog 110 (Array.mk [agg (Array.mk p0)]) m'_2 [] R_4/\Zaq (Shape.int i64) R_4/\∀(n:Int)(m':Mem),Mem.le m'_2 m'->R_4 (int i64 n) m' []->br (decide
 (n > (9:Int))) (∃(m'':Mem),Mem.le m m''/\Mem.le m'' m'/\R (int i64 83) m'' []) (∃(m'':Mem),Mem.le m m''/\Mem.le m'' m'/\R (int i64 0) m'' [])))))
theorem Zkg(p0:List Value)(m:Mem)(R:RT)(h:ZgE p0 m R):CX Try.prog 85 #[.agg p0.toArray] m [] R:=
 Zae (E:=ZlZ) Zax mix Try.func85 [.v (.agg p0.toArray)] [] (by kernel_rfl) (Eq.mp (by kernel_rfl) h)
noncomputable def Zl0:Env:={ EB with
 loops:=(λi=>bif Nat.beq i 3 then⟨[(4,.int .i64)],[3],[],false⟩ else bif Nat.beq i 7 then⟨[(5,.int .u64),(6,.int .i64)],[],[],false⟩ else⟨[],[],[],false⟩)
 frzNew:=[1] }
def ZgF(aF aC aH aI:Int)(m:Mem)(R:RT):Prop:=
 ∀(b:Nat)(m':Mem),Mem.le m m'->Mem.reads m' b 0 [int u64 aF,int u64 aC,int u64 aH,int u64 aI]->∀(b_1 b_2:Nat),∃(I:IT),(∃(n:Nat),I [int i64 0] [List.replicate 256 (int i64 0)] [] m' n)/\∀
 (n:Int) (cs:List Value) (m'_1:Mem) (n_1:Nat),Mem.le m' m'_1->I [int i64 n] [cs] [] m'_1 n_1->br (decide (n < (256:Int))) ((64:Int)≠(0:Int)/\Zaf (IntKind.wrap i64 (Int.tdiv n (64:Int))) 4/\
 Eng.Zty [int u64 aF,int u64 aC,int u64 aH,int u64 aI] (0+Int.toNat (IntKind.wrap i64 (Int.tdiv n (64:Int)))*1) λ(v:Value)=>∃(I_1:IT),chk (Shape.fits (Shape.int u64) v) (∃(n:Nat),I_1 [v,
 int i64 0] [] [] m'_1 n)/\∀(n_2 n_3:Int)(m':Mem)(n_4:Nat),Mem.le m'_1 m'->I_1 [int u64 n_2,int i64 n_3] [] [] m' n_4->(64:Int)≠(0:Int)/\br (decide (n_3 < Int.tmod n (64:Int))) ((2:Int)≠(0:
 Int)/\[some (Box.mk b_2 cs 106 256 false true),some (Box.mk b_1 (List.replicate 256 (int i64 0)) 106 256 false true),some (Box.mk b [int u64 aF,int u64 aC,int u64 aH,int u64 aI] 25 4 true true)]=[some
 (Box.mk b_2 cs 106 256 false true),some (Box.mk b_1 (List.replicate 256 (int i64 0)) 106 256 false true),some (Box.mk b [int u64 aF,int u64 aC,int u64 aH,int u64 aI] 25 4 true true)]/\∃(n':Nat),n' <
 n_4/\I_1 [int u64 (IntKind.wrap u64 (Int.tdiv n_2 (2:Int))),int i64 (IntKind.wrap i64 (n_3+(1:Int)))] [] [] m' n') ((2:Int)≠(0:Int)/\Zaf n 256/\chk (Nat.ble (0+Int.toNat n*1+1) (List.length
 cs)) ([some (Box.mk b_2 [] 106 256 false true),some (Box.mk b_1 (List.replicate 256 (int i64 0)) 106 256 false true),some (Box.mk b [int u64 aF,int u64 aC,int u64 aH,int u64 aI] 25 4 true true)]=[some
 (Box.mk b_2 [] 106 256 false true),some (Box.mk b_1 (List.replicate 256 (int i64 0)) 106 256 false true),some (Box.mk b [int u64 aF,int u64 aC,int u64 aH,int u64 aI] 25 4 true true)]/\∃(n':Nat),n' <
 n_1/\I [int i64 (IntKind.wrap i64 (n+(1:Int)))] [Zam cs (0+Int.toNat n*1) [int i64 (IntKind.wrap i64 (Int.tmod n_2 (2:Int)))]] [] m' n'))) (chk (Nat.beq (List.length cs) 256&&Zcp cs) (∃(m'':Mem),
 Mem.le m m''/\Mem.le m'' m'_1/\R (agg (Array.mk cs)) m'' []))
theorem Zkh(aF aC aH aI:Int)(m:Mem)(R:RT)(h:ZgF aF aC aH aI m R):CX Try.prog 88 #[.agg #[.int .u64 aF,.int .u64 aC,.int .u64 aH,.int .u64 aI]] m [] R:=
 Zae (E:=Zl0) Zax mix Try.func88 [.v (.agg #[.int .u64 aF,.int .u64 aC,.int .u64 aH,.int .u64 aI])] [] (by kernel_rfl) (Eq.mp (by kernel_rfl) h)
end Go.Proofs.Ythiefodednaikaa
namespace Go.Proofs.Ythiefodednaikaa
open Go Go.Eng Go.Rx Go.Proofs Go.RowKit
set_option maxRecDepth 100000
theorem Zbx{α:Type}{l:List α}{k:Nat}(h:k < l.length):∃x,l[k]?=some x:=⟨l[k],by simp[h]⟩
theorem ZkH{α:Type}{l:List α}{k:Nat}{x:α}(h:l[k]?=some x):l.drop k=x::l.drop (k+1):=by
 obtain⟨hk,he⟩:=List.getElem?_eq_some_iff.1 h
 rw[List.drop_eq_getElem_cons hk,he]
theorem ZpK{m:Mem}{b:Nat}{v:Value}:rowRd (m.add b [v]) (some ⟨b,0,none⟩) [v]:=.inr ⟨b,0,rfl,λj u hj=>by rw[Nat.zero_add,Mem.add_same];exact hj⟩
def NewS(m:Mem)(v:Value):Prop:=∀b o,slA v=some ⟨b,o,none⟩->m.free b
theorem NewS.less{m m0:Mem}{v:Value}(h:NewS m v)(k:m0.le m):NewS m0 v:=λb o e x=>by
 cases he:m0 b x with
 | none=>rfl
 | some u=>have:=k _ _ _ he;rw[h b o e x]at this;cases this
theorem Zud{P:Program}{w:World}{n:Nat}{f:Nat->(Option Bool×Unit)->Sem (ForInStep (Option Bool×Unit))}{p:Nat->Bool}(hf:∀i,i < n->(f i (none,())).run P w=.ok (if p i then .yield (none,())else .done (some false,())) w):
  ∀k i,i+k<=n->(forIn (List.range' i k) (none,()) f).run P w=.ok (if(List.range' i k).all p then(none,())else(some false,())) w
 | 0,i,h=>by simp
 | k+1,i,h=>by
  rw[List.range'_succ,List.forIn_cons,Sem.run_bind,hf i (by omega),Result.andThen_ok,List.all_cons]
  cases p i with
  | false=>simp
  | true=>
   have:=Zud hf k (i+1) (by omega)
   rw[Bool.true_and]
   exact this
theorem ZxL(xs ys:List Int)(hx:xs.length=256)(hy:ys.length=256):EqIs Try.prog 106 (.agg (Zhr xs).toArray) (.agg (Zhr ys).toArray) (decide (xs=ys)):=by
 refine⟨λw=>?_,λop ox oy w=>Zd8 (by kernel_rfl) op ox oy _ _ w⟩
 have u3:=Try.underlying3
 have a3:=Try.isAgg3
 have z3:=Try.sizeOf3
 rw[Op.equal,Op.maxDepth,show(10000:Nat)=9999+1 from rfl,Op.equalIn]
 simp only[Sem.run_bind,run_underlying Try.underlying106,Result.andThen_ok]
 simp only[Std.Legacy.Range.forIn_eq_forIn_range',Std.Legacy.Range.size,Nat.sub_zero,Nat.add_sub_cancel,Nat.div_one]
 rw[z3,Result.andThen_ok,Zud (n:=256) (p:=λi=>decide (xs[i]?=ys[i]?)) (λi hi=>?_) 256 0 (by omega),Result.andThen_ok]
 ·by_cases h:xs=ys
  ·subst h;simp
  ·have:(List.range' 0 256).all (λi=>decide (xs[i]?=ys[i]?))=false:=by
    rw[Bool.eq_false_iff]
    intro hh
    apply h
    refine List.ext_getElem? λi=>?_
    by_cases hi:i < 256
    ·have:=List.all_eq_true.1 hh i (by simp[List.mem_range',hi])
     simpa using this
    ·rw[List.getElem?_eq_none_iff.2 (by omega),List.getElem?_eq_none_iff.2 (by omega)]
   rw[this];simp[h]
 ·obtain⟨x,sK⟩:∃x,xs[i]?=some x:=⟨_,List.getElem?_eq_getElem (by omega)⟩
  obtain⟨y,sL⟩:∃y,ys[i]?=some y:=⟨_,List.getElem?_eq_getElem (by omega)⟩
  have gx:(Zhr xs).toArray[i]?=some (.int .i64 x):=by simp[Zhr,sK]
  have gy:(Zhr ys).toArray[i]?=some (.int .i64 y):=by simp[Zhr,sL]
  rw[Nat.mul_one]
  simp only[part,Sem.run_bind,a3,Result.andThen_ok,gx,gy]
  have he:(Op.equalIn 9999 3 (.int .i64 x) (.int .i64 y)).run Try.prog w=.ok (x == y) w:=by
   rw[show(9999:Nat)=9998+1 from rfl,Op.equalIn]
   simp[Sem.run_bind,run_underlying u3]
  rw[if_neg (by decide),if_neg (by decide)]
  simp only[Sem.run_pure,Result.andThen_ok,he,sK,sL]
  by_cases pa:x=y
  ·subst pa;simp
  ·simp[pa]
theorem Zg0(q:QS):ZaY q=Zhr ((List.range 256).map (ZtZ q)):=by simp[ZaY,Zhr]
theorem Zzl{q r:QS}(hq:QOk q)(hr:QOk r):EqIs Try.prog 106 (.agg (ZaY q).toArray) (.agg (ZaY r).toArray) (decide (q=r)):=by
 have h:=ZxL ((List.range 256).map (ZtZ q)) ((List.range 256).map (ZtZ r)) (by simp) (by simp)
 rw[<-Zg0,<-Zg0]at h
 have e:decide ((List.range 256).map (ZtZ q)=(List.range 256).map (ZtZ r))=decide (q=r):=by
  rw[decide_eq_decide]
  constructor
  ·intro e;exact Zqy hq hr (by rw[Zg0,Zg0,e])
  ·rintro rfl;rfl
 rw[e]at h;exact h
theorem Zzr{q:QS}{j:Nat}(hj:j < 4):([.int .u64 q.1,.int .u64 q.2.1,.int .u64 q.2.2.1,.int .u64 q.2.2.2]:List Value)[j]?=some (.int .u64 (Zix q j)):=by
 have:j=0\/j=1\/j=2\/j=3:=by omega
 rcases this with rfl|rfl|rfl|rfl <;> rfl
def ZnW(q:QS)(k:Nat):List Value:=(List.range 256).map λc=>.int .i64 (if c < k then ZtZ q c else 0)
theorem ZfF(q:QS)(k:Nat):(ZnW q k).length=256:=by simp[ZnW]
theorem ZqO(q:QS){k:Nat}(h:k < 256):Zam (ZnW q k) k [.int .i64 (ZtZ q k)]=ZnW q (k+1):=by
 rw[Zqx (by rw[ZfF];exact h)]
 refine List.ext_getElem? λj=>?_
 by_cases hj:j < 256
 ·by_cases e:j=k
  ·subst e
   rw[List.getElem?_set_self (by rw[ZfF];exact h)]
   simp[ZnW,h]
  ·rw[List.getElem?_set_ne (λx=>e x.symm)]
   simp only[ZnW,List.getElem?_map,List.getElem?_range hj,Option.map_some]
   have:(j < k+1)↔j < k:=by omega
   simp only[this]
 ·rw[List.getElem?_eq_none_iff.2 (by rw[List.length_set,ZfF];omega),List.getElem?_eq_none_iff.2 (by rw[ZfF];omega)]
theorem ZqP(q:QS):List.replicate 256 (Value.int .i64 0)=ZnW q 0:=by
 refine(List.eq_replicate_iff.2 ⟨ZfF q 0,λu hu=>?_⟩).symm
 obtain⟨c,_,rfl⟩:=List.mem_map.1 hu
 rw[if_neg (Nat.not_lt_zero c)]
theorem Ztk(q:QS):ZnW q 256=ZaY q:=by
 unfold ZnW ZaY
 refine List.map_congr_left λc hc=>?_
 rw[if_pos (List.mem_range.1 hc)]
theorem Zvi{w:Int}(h0:0<=w)(i:Nat):Int.tmod ((w.toNat / 2 ^ i:Nat):Int) 2=if w.toNat.testBit i then 1 else 0:=by
 rw[show Int.tmod ((w.toNat / 2 ^ i:Nat):Int) 2=((w.toNat / 2 ^ i % 2:Nat):Int) from rfl,Zwt]
 split <;> rfl
theorem ZpL(q:QS):Zcp (ZaY q)=true:=by
 have:∀l:List Value,(∀u∈l,u.oneCell'=true)->Zcp l=true:=by
  intro l
  induction l with
  | nil=>intro _;rfl
  | cons u l ih=>intro h;simp only[Zcp,h u (by simp),Bool.true_and];exact ih λx hx=>h x (by simp[hx])
 exact this _ (Zjv q)
theorem Zvj(q:QS)(hq:QOk q)(m:Mem):CX Try.prog 88 #[.agg #[.int .u64 q.1,.int .u64 q.2.1,.int .u64 q.2.2.1,.int .u64 q.2.2.2]] m [] (Ret (.agg (ZaY q).toArray)):=by
 apply Zkh
 unfold ZgF
 intro b m1 aW _ b1 b2
 refine⟨λxs css _ m' n=>∃k:Nat,k<=256/\xs=[.int .i64 k]/\css=[ZnW q k]/\m.le m'/\n=256 - k,⟨_,0,by omega,rfl,by rw[ZqP q],aW,rfl⟩,?_⟩
 rintro z cs m2 n _ ⟨k,hk,hz,cV,aY,hn⟩
 obtain rfl:z=k:=by simpa using hz
 obtain rfl:cs=ZnW q k:=by simpa using cV
 subst hn
 have e64:Int.tdiv (k:Int) 64=((k / 64:Nat):Int):=rfl
 have em:Int.tmod (k:Int) 64=((k % 64:Nat):Int):=rfl
 refine Zab (λbB=>?_) (λcK=>?_)
 ·have hk':k < 256:=by have:=of_decide_eq_true bB;omega
  have hw:=Zn5 hq (k / 64)
  rw[e64,em,Zao (by omega) (by omega),Int.toNat_natCast,Int.toNat_natCast,Nat.mul_one,Nat.mul_one,Nat.zero_add,Nat.zero_add]
  refine⟨by decide,⟨by omega,by omega⟩,Zah (Zzr (q:=q) (by omega)) ?_⟩
  refine⟨λxs _ _ m' n=>∃i:Nat,i<=k % 64/\xs=[.int .u64 (((Zix q (k / 64)).toNat / 2 ^ i:Nat):Int),.int .i64 i]/\m2.le m'/\n=k % 64 - i,Zaa rfl ⟨_,0,by omega,?_,Mem.le_refl _,rfl⟩,?_⟩
  ·rw[Nat.pow_zero,Nat.div_one,Int.toNat_of_nonneg hw.1];rfl
  rintro x z m3 n2 bN ⟨i,hi,hx,_,hn⟩
  simp only[List.cons.injEq,Value.int.injEq,true_and,and_true]at hx
  obtain⟨rfl,rfl⟩:=hx
  subst hn
  refine⟨by decide,Zab (λh1=>?_) (λh1=>?_)⟩
  ·have h1':i < k % 64:=by have:=of_decide_eq_true h1;omega
   refine⟨by decide,by trivial,_,by omega,i+1,h1',?_,bN,rfl⟩
   have e2:Int.tdiv (((Zix q (k / 64)).toNat / 2 ^ i:Nat):Int) 2=(((Zix q (k / 64)).toNat / 2 ^ (i+1):Nat):Int):=by
    rw[Nat.pow_succ,<-Nat.div_div_eq_div_mul];rfl
   have hb:(Zix q (k / 64)).toNat / 2 ^ (i+1) < 18446744073709551616:=Nat.lt_of_le_of_lt (Nat.div_le_self _ _) (by omega)
   rw[e2,ZvG _ hb,Zao (by omega) (by omega)];rfl
  ·have:i=k % 64:=by have:=of_decide_eq_false h1;omega
   subst this
   have lL:IntKind.i64.wrap (Int.tmod (((Zix q (k / 64)).toNat / 2 ^ (k % 64):Nat):Int) 2)=ZtZ q k:=by
    rw[Zvi hw.1,ZtZ,Zpn]
    split <;> rfl
   refine⟨by decide,⟨by omega,by omega⟩,Zaa (by rw[ZfF,Nat.ble_eq];omega) ⟨by trivial,_,by omega,k+1,hk',by rw[Zao (by omega) (by omega)];rfl,?_,mLt aY bN,rfl⟩⟩
   rw[lL,ZqO q hk']
 ·have:k=256:=by have:=of_decide_eq_false cK;omega
  subst this
  rw[Ztk]
  exact Zaa (by rw[ZaB,ZpL];rfl) (Zac aY rfl)
theorem Za3{k:Int}{q:QS}{mn mx:Int}{a:Option Addr}{n c:Nat}{K:Value->Prop}(h:K (.slice a n c)):Eng.Zty (rcs k q mn mx a n c) 259 K:=Zah (ZxE k q mn mx a n c) h
theorem Za0{k:Int}{q:QS}{mn mx:Int}{a:Option Addr}{n c:Nat}{K:Value->Prop}(h:K (.int .i64 k)):Eng.Zty (rcs k q mn mx a n c) 0 K:=Zah (Zn6 k q mn mx a n c) h
theorem ZfG{k:Int}{q:QS}{mn mx:Int}{a:Option Addr}{n c:Nat}{K:Value->Prop}(h:K (.int .i64 mn)):Eng.Zty (rcs k q mn mx a n c) 257 K:=Zah (ZxC k q mn mx a n c) h
theorem Zi5{k:Int}{q:QS}{mn mx:Int}{a:Option Addr}{n c:Nat}{K:Value->Prop}(h:K (.int .i64 mx)):Eng.Zty (rcs k q mn mx a n c) 258 K:=Zah (ZxD k q mn mx a n c) h
theorem ZhG{k:Int}{q:QS}{mn mx:Int}{a:Option Addr}{n c:Nat}{K:Prop}(h:K):chk (Nat.beq (rcs k q mn mx a n c).length 260) K:=Zaa (by rw[Ziy];rfl) h
theorem ZrT:∀(t:T)(cs:List Value)(most:Int)(m:Mem),RefT m t cs->0<=most->most<=1000000->CX Try.prog 122 #[.agg cs.toArray,.int .i64 most] m [] (Ret (.int .i64 (Zt2 t most))):=by
 intro t
 induction hn:SizeOf.sizeOf t using Nat.strongRecOn generalizing t with
 | ind n ih=>
 intro cs most m hr h0 h1
 obtain⟨_,bS,a,c,css,rfl,bU,dV,_⟩:=Zb5.1 hr
 apply Zj9
 unfold ZgA
 refine ZhG λb m1 aW _=>?_
 refine⟨λxs _ _ m' q=>∃k:Nat,k<=t.subs.length/\xs=[.int .i64 (ZpT t most k),.int .i64 k]/\m.le m'/\q=t.subs.length - k,⟨_,0,Nat.zero_le _,by rw[ZsX t h0];rfl,aW,rfl⟩,?_⟩
 rintro s z m2 q _ ⟨k,hk,hx,aY,hq⟩
 simp only[List.cons.injEq,Value.int.injEq,true_and,and_true]at hx
 obtain⟨rfl,rfl⟩:=hx
 subst hq
 have hb:=Zwy t h0 k
 refine⟨decide (k < t.subs.length)&&decide (ZpT t most k<=most),Za3 (Zaa rfl (Zab (λbB=>⟨by trivial,?_⟩) (λcK=>⟨by trivial,?_⟩))),Zab (λh2=>?_) (λh2=>?_)⟩
 ·have aX:k < t.subs.length:=by have:=of_decide_eq_true bB;simp only[slN]at this;omega
  simp[aX]
 ·have aX:¬k < t.subs.length:=by have:=of_decide_eq_false cK;simp only[slN]at this;omega
  simp[aX]
 ·simp only[Bool.and_eq_true,decide_eq_true_eq]at h2
  obtain⟨aX,h2'⟩:=h2
  obtain⟨x,hx⟩:=Zbx aX
  obtain⟨bb,o,cs2,ha,cJ,fH⟩:=Ziz bU dV hx
  refine Za3 (Zaa rfl ⟨bb,o,ha,⟨by omega,by simp only[slN];omega⟩,cs2,fH.len,(by rw[Int.toNat_natCast];exact cJ.mono aY),?_⟩)
  rw[Zao (by omega) (by omega)]
  have eU:=ZfU (List.mem_of_getElem? hx)
  refine ZaC (ih _ (by omega) x rfl cs2 (most - ZpT t most k) m2 (fH.mono aY) (by omega) (by omega)) λm3 bN=>?_
  have kq:=Zwx x (most:=most - ZpT t most k) (by omega)
  exact⟨by trivial,_,by omega,k+1,aX,by rw[ZsY hx h2',Zao (by omega) (by omega),Zao (by omega) (by omega)];rfl,mLt aY bN,rfl⟩
 ·refine Zac aY ?_
  simp only[Bool.and_eq_false_iff,decide_eq_false_iff_not]at h2
  rcases h2 with h2|h2
  ·have:k=t.subs.length:=by omega
   subst this
   rw[ZuT]
  ·rw[ZsZ (by omega)]
theorem Zl1(t:T)(cs:List Value)(m:Mem)(hr:RefT m t cs):CX Try.prog 120 #[.agg cs.toArray] m [] (Ret (.bool t.light)):=by
 have hl:=hr.len
 apply Zka
 unfold ZgB
 refine Zaa (by rw[hl];rfl) λb m1 aW _=>?_
 refine ZaC (ZrT t cs 10000 m1 (hr.mono aW) (by omega) (by omega)) λm2 aY=>Zac (mLt aW aY) ?_
 rw[ZqA]
theorem Zvk(t:T)(cs:List Value)(m:Mem)(hr:RefT m t cs):CX Try.prog 108 #[.agg cs.toArray] m [] (Ret (.int .i64 t.size)):=by
 have hl:=hr.len
 apply ZlV
 unfold ZhE
 refine Zaa (by rw[hl];rfl) λb m1 aW _=>?_
 refine ZaC (ZrT t cs 10000 m1 (hr.mono aW) (by omega) (by omega)) λm2 aY=>Zac (mLt aW aY) ?_
 rw[Zs0]
end Go.Proofs.Ythiefodednaikaa