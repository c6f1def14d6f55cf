/- Part of the proof: conditions and contracts of functions of this program. No condition of its own. -/
import Derived.Test.YtfgfahnakepegaaPEnv
import Derived.Test.YtfgfahnakepegaaPC13X
import Derived.Test.YtfgfahnakepegaaMc
import Derived.Test.YtfgfahnakepegaaMr
set_option linter.unusedVariables false
namespace Go.Proofs.Ytfgfahnakepegaa
open Go Go.Eng Go.Proofs Go.RowKit
open Go.Value (int slice agg bool string tuple func)
open Go.IntKind (u8 u64 i64)
set_option maxRecDepth 100000
noncomputable def ZqG:Env:={ EB with
 loops:=(λi=>bif Nat.beq i 3 then⟨[(5,.int .i64),(11,.int .i64)],[],[],false⟩ else⟨[],[],[],false⟩)
 frzNew:=[2] }
def ZiL(aD aE aF aG aJ aH aI:Int)(aB:Option Addr)(aA aC:Nat)(p1:Int)(m:Mem)(R:RT):Prop:=
 ∀(b:Nat)(m':Mem),Mem.le m m'->Mem.reads m' b 0 [int u8 aD,int u64 aE,int u64 aF,int u64 aG,int u64 aJ,int i64 aH,int i64 aI,slice aB aA aC]->∃(I:IT),(∃(n:Nat),I [int i64 1,
 int i64 0] [] [] m' n)/\∀(n n_1:Int)(m'_1:Mem)(n_2:Nat),Mem.le m' m'_1->I [int i64 n,int i64 n_1] [] [] m'_1 n_2->br (decide (n_1 < (↑aA:Int))) (∃(b_1:Nat),∃(o:Nat),aB=some (Addr.mk b_1 o
 none)/\Zad n_1 aA/\∃(v:Value),∃(v_1:Value),∃(v_2:Value),∃(v_3:Value),∃(v_4:Value),∃(v_5:Value),∃(v_6:Value),∃(v_7:Value),Mem.reads m'_1 b_1 (o+Int.toNat n_1*8) [v,v_1,v_2,
 v_3,v_4,v_5,v_6,v_7]/\∀(b_2:Nat),chk (Value.oneCell' v&&(Value.oneCell' v_1&&(Value.oneCell' v_2&&(Value.oneCell' v_3&&(Value.oneCell' v_4&&(Value.oneCell' v_5&&(Value.oneCell' v_6 &&
 (Value.oneCell' v_7&&true)))))))) (br (decide (n > p1)) (∃(m'':Mem),Mem.le m m''/\Mem.le m'' m'_1/\R (int i64 n) m'' []) (∃(R:RT),True/\CX Try.prog 37 (Array.mk [agg (Array.mk [v,v_1,v_2,v_3,v_4,v_5,
 v_6,v_7]),int i64 (IntKind.wrap i64 (p1 - n))]) m'_1 [] R/\Zau (Shape.int i64) R/\∀(n_3:Int)(m':Mem),Mem.le m'_1 m'->R (int i64 n_3) m' []->[some (Box.mk b [int u8 aD,int u64 aE,int u64 aF,int u64
 aG,int u64 aJ,int i64 aH,int i64 aI,slice aB aA aC] 27 8 true true)]=[some (Box.mk b [int u8 aD,int u64 aE,int u64 aF,int u64 aG,int u64 aJ,int i64 aH,int i64 aI,slice aB
 aA aC] 27 8 true true)]/\∃(n':Nat),n' < n_2/\I [int i64 (IntKind.wrap i64 (n+n_3)),int i64 (IntKind.wrap i64 (n_1+(1:Int)))] [] [] m' n'))) (∃(m'':Mem),Mem.le m m''/\Mem.le m'' m'_1/\R (int i64
 n) m'' [])
theorem Zos(aD aE aF aG aJ aH aI:Int)(aB:Option Addr)(aA aC:Nat)(p1:Int)(m:Mem)(R:RT)(h:ZiL aD aE aF aG aJ aH aI aB aA aC p1 m R):CX Try.prog 37 #[.agg #[.int .u8 aD,.int .u64 aE,.int .u64 aF,.int .u64 aG,.int .u64 aJ,.int .i64 aH,.int .i64 aI,.slice aB aA aC],.int .i64 p1] m [] R:=
 Zaf (E:=ZqG) ZaH mix Try.func37 [.v (.agg #[.int .u8 aD,.int .u64 aE,.int .u64 aF,.int .u64 aG,.int .u64 aJ,.int .i64 aH,.int .i64 aI,.slice aB aA aC]),.v (.int .i64 p1)] [] (by kernel_rfl) (Eq.mp (by kernel_rfl) h)
noncomputable def Zj3:Env:={ EB with
 loops:=(λi=>bif Nat.beq i 3 then⟨[(20,.int .i64)],[3],[(29,260)],false⟩ else⟨[],[],[],false⟩)
 dr:=(λi=>bif Nat.beq i 1 then[⟨0,[1],[],none,[],[]⟩,⟨1,[1],[],none,[0],[]⟩,⟨2,[],[],none,[0,1],[]⟩,⟨3,[1],[],none,[],[]⟩,⟨4,[1],[],none,[3],[]⟩,⟨5,[],[],none,[3,4],[]⟩,⟨6,[1],[],none,[],[]⟩,⟨7,[1],[],none,[6],[]⟩,⟨8,[1],[],none,[],[]⟩,⟨9,[1],[],none,[8],[]⟩,⟨10,[],[],none,[0,1,2,3,4,5,6,7,8,9],[]⟩,⟨11,[3],[3],none,[],[]⟩,⟨12,[3],[3],none,rg 0 12,[]⟩]else bif Nat.beq i 5 then[⟨0,[3],[],none,[],[]⟩,⟨1,[3],[],none,[0],[]⟩,⟨2,[5],[],none,[],[]⟩,⟨3,[],[],none,[2],[]⟩,⟨4,[28],[28],none,[2,3],[3]⟩,⟨5,[28],[],some 29,[0,1,2,3,4],[4]⟩,⟨6,[3],[],none,[0,1,2,3,4,5],[]⟩,⟨7,[3],[3],none,[0,1,2,3,4,5,6],[]⟩]else[])
 tokOf:=(λi=>bif Nat.beq i 29 then 29 else 0)
 frzNew:=[1]
 capF:=true }
abbrev Zay(aD:Int):List Value:=[int i64 (IntKind.wrap i64 aD),int i64 0,int i64 0,int i64 0,int i64 0,int i64 0,int i64 0,int i64 0,int i64 0,int i64 0,int i64 0,int i64 0,int i64 0,
 int i64 0,int i64 0,int i64 0,int i64 0,int i64 0,int i64 0,int i64 0,int i64 0,int i64 0,int i64 0,int i64 0,int i64 0,int i64 0,int i64 0,int i64 0,int i64 0,int i64 0,int i64 0,int i64 0,int i64 0,
 int i64 0,int i64 0,int i64 0,int i64 0,int i64 0,int i64 0,int i64 0,int i64 0,int i64 0,int i64 0,int i64 0,int i64 0,int i64 0,int i64 0,int i64 0,int i64 0,int i64 0,int i64 0,int i64 0,int i64 0,
 int i64 0,int i64 0,int i64 0,int i64 0,int i64 0,int i64 0,int i64 0,int i64 0,int i64 0,int i64 0,int i64 0,int i64 0,int i64 0,int i64 0,int i64 0,int i64 0,int i64 0,int i64 0,int i64 0,int i64 0,
 int i64 0,int i64 0,int i64 0,int i64 0,int i64 0,int i64 0,int i64 0,int i64 0,int i64 0,int i64 0,int i64 0,int i64 0,int i64 0,int i64 0,int i64 0,int i64 0,int i64 0,int i64 0,int i64 0,int i64 0,
 int i64 0,int i64 0,int i64 0,int i64 0,int i64 0,int i64 0,int i64 0,int i64 0,int i64 0,int i64 0,int i64 0,int i64 0,int i64 0,int i64 0,int i64 0,int i64 0,int i64 0,int i64 0,int i64 0,int i64 0,
 int i64 0,int i64 0,int i64 0,int i64 0,int i64 0,int i64 0,int i64 0,int i64 0,int i64 0,int i64 0,int i64 0,int i64 0,int i64 0,int i64 0,int i64 0,int i64 0,int i64 0,int i64 0,int i64 0,int i64 0,
 int i64 0,int i64 0,int i64 0,int i64 0,int i64 0,int i64 0,int i64 0,int i64 0,int i64 0,int i64 0,int i64 0,int i64 0,int i64 0,int i64 0,int i64 0,int i64 0,int i64 0,int i64 0,int i64 0,int i64 0,
 int i64 0,int i64 0,int i64 0,int i64 0,int i64 0,int i64 0,int i64 0,int i64 0,int i64 0,int i64 0,int i64 0,int i64 0,int i64 0,int i64 0,int i64 0,int i64 0,int i64 0,int i64 0,int i64 0,int i64 0,
 int i64 0,int i64 0,int i64 0,int i64 0,int i64 0,int i64 0,int i64 0,int i64 0,int i64 0,int i64 0,int i64 0,int i64 0,int i64 0,int i64 0,int i64 0,int i64 0,int i64 0,int i64 0,int i64 0,int i64 0,
 int i64 0,int i64 0,int i64 0,int i64 0,int i64 0,int i64 0,int i64 0,int i64 0,int i64 0,int i64 0,int i64 0,int i64 0,int i64 0,int i64 0,int i64 0,int i64 0,int i64 0,int i64 0,int i64 0,int i64 0,
 int i64 0,int i64 0,int i64 0,int i64 0,int i64 0,int i64 0,int i64 0,int i64 0,int i64 0,int i64 0,int i64 0,int i64 0,int i64 0,int i64 0,int i64 0,int i64 0,int i64 0,int i64 0,int i64 0,int i64 0,
 int i64 0,int i64 0,int i64 0,int i64 0,int i64 0,int i64 0,int i64 0,int i64 0,int i64 0,int i64 0,int i64 0,int i64 0,int i64 0,int i64 0,int i64 0,int i64 0,int i64 0,int i64 0,int i64 0,int i64 0,
 int i64 0,int i64 0,int i64 0,int i64 0,int i64 0,int i64 0,slice none 0 0]
abbrev ZiM:List Value:=[int i64 0,int i64 0,int i64 0,int i64 0,int i64 0,int i64 0,int i64 0,int i64 0,int i64 0,int i64 0,int i64 0,int i64 0,int i64 0,int i64 0,int i64 0,int i64 0,int
 i64 0,int i64 0,int i64 0,int i64 0,int i64 0,int i64 0,int i64 0,int i64 0,int i64 0,int i64 0,int i64 0,int i64 0,int i64 0,int i64 0,int i64 0,int i64 0,int i64 0,int i64 0,int i64 0,int i64 0,int
 i64 0,int i64 0,int i64 0,int i64 0,int i64 0,int i64 0,int i64 0,int i64 0,int i64 0,int i64 0,int i64 0,int i64 0,int i64 0,int i64 0,int i64 0,int i64 0,int i64 0,int i64 0,int i64 0,int i64 0,int
 i64 0,int i64 0,int i64 0,int i64 0,int i64 0,int i64 0,int i64 0,int i64 0,int i64 0,int i64 0,int i64 0,int i64 0,int i64 0,int i64 0,int i64 0,int i64 0,int i64 0,int i64 0,int i64 0,int i64 0,int
 i64 0,int i64 0,int i64 0,int i64 0,int i64 0,int i64 0,int i64 0,int i64 0,int i64 0,int i64 0,int i64 0,int i64 0,int i64 0,int i64 0,int i64 0,int i64 0,int i64 0,int i64 0,int i64 0,int i64 0,int
 i64 0,int i64 0,int i64 0,int i64 0,int i64 0,int i64 0,int i64 0,int i64 0,int i64 0,int i64 0,int i64 0,int i64 0,int i64 0,int i64 0,int i64 0,int i64 0,int i64 0,int i64 0,int i64 0,int i64 0,int
 i64 0,int i64 0,int i64 0,int i64 0,int i64 0,int i64 0,int i64 0,int i64 0,int i64 0,int i64 0,int i64 0,int i64 0,int i64 0,int i64 0,int i64 0,int i64 0,int i64 0,int i64 0,int i64 0,int i64 0,int
 i64 0,int i64 0,int i64 0,int i64 0,int i64 0,int i64 0,int i64 0,int i64 0,int i64 0,int i64 0,int i64 0,int i64 0,int i64 0,int i64 0,int i64 0,int i64 0,int i64 0,int i64 0,int i64 0,int i64 0,int
 i64 0,int i64 0,int i64 0,int i64 0,int i64 0,int i64 0,int i64 0,int i64 0,int i64 0,int i64 0,int i64 0,int i64 0,int i64 0,int i64 0,int i64 0,int i64 0,int i64 0,int i64 0,int i64 0,int i64 0,int
 i64 0,int i64 0,int i64 0,int i64 0,int i64 0,int i64 0,int i64 0,int i64 0,int i64 0,int i64 0,int i64 0,int i64 0,int i64 0,int i64 0,int i64 0,int i64 0,int i64 0,int i64 0,int i64 0,int i64 0,int
 i64 0,int i64 0,int i64 0,int i64 0,int i64 0,int i64 0,int i64 0,int i64 0,int i64 0,int i64 0,int i64 0,int i64 0,int i64 0,int i64 0,int i64 0,int i64 0,int i64 0,int i64 0,int i64 0,int i64 0,int
 i64 0,int i64 0,int i64 0,int i64 0,int i64 0,int i64 0,int i64 0,int i64 0,int i64 0,int i64 0,int i64 0,int i64 0,int i64 0,int i64 0,int i64 0,int i64 0,int i64 0,int i64 0,int i64 0,int i64 0,int
 i64 0,int i64 0,int i64 0,int i64 0,int i64 0,int i64 0,int i64 0,int i64 0,int i64 0,int i64 0,int i64 0,int i64 0,int i64 0,int i64 0,int i64 0,int i64 0,int i64 0,int i64 0,int i64 0,int i64 0,int
 i64 0,int i64 0,int i64 0,slice none 0 0]
abbrev ZiN:Nat->Option Box:=λ(b:Nat)=>some (Box.mk b ZiM 70 260 false true)
abbrev ZiO:Int->Int->Int->Int->Int->Int->Int->Option Addr->Nat->Nat->Nat->Option Box:=λ(aD aE aF aG aJ aH aI:Int)(aB:Option Addr)(aA aC b:Nat)=>some (Box.mk
 b [int u8 aD,int u64 aE,int u64 aF,int u64 aG,int u64 aJ,int i64 aH,int i64 aI,slice aB aA aC] 27 8 true true)
abbrev ZiP:Int->Int->Int->Int->Int->Int->Int->Option Addr->Nat->Nat->Nat->Nat->Nat->List (Option Box):=λ(aD aE aF aG aJ aH aI:Int)(aB:Option Addr) (aA aC b am
 ae:Nat)=>[some (Box.mk ae [] 70 260 false true),some (Box.mk ae [] 70 260 false true),ZiN am,ZiO aD aE aF aG aJ aH aI aB aA aC b]
def Zfc(aD aE aF aG aJ aH aI:Int)(aB:Option Addr)(aA aC:Nat)(m:Mem)(R:RT):Prop:=
 ∀(b:Nat)(m':Mem),Mem.le m m'->Mem.reads m' b 0 [int u8 aD,int u64 aE,int u64 aF,int u64 aG,int u64 aJ,int i64 aH,int i64 aI,slice aB aA aC]->∀(am:Nat),∃(f:Fx),∃(R_1:RT),
 R_1=f 5 [agg (Array.mk [int u64 aE,int u64 aF,int u64 aG,int u64 aJ])] m'/\CX Try.prog 65 (Array.mk [agg (Array.mk [int u64 aE,int u64 aF,int u64 aG,int u64 aJ])]) m' [] R_1/\Zau Shape.cells
 R_1/\∀(cs:List Value)(an:Mem),Mem.le m' an->R_1 (agg (Array.mk cs)) an []->chk (Nat.beq (List.length cs) 256&&true) (chk (Nat.ble (nat_lit 257) (List.length (List.append cs (List.drop (1+List.length cs)
 (Zay aD))))) (chk (Nat.ble (nat_lit 258) (List.length (List.append (List.append (List.take (nat_lit 256) (List.append cs (List.drop (1+List.length cs) (Zay aD)))) [int i64 aH]) (List.drop
 (nat_lit 257) (List.append cs (List.drop (1+List.length cs) (Zay aD))))))) (∀(ae:Nat),chk (Nat.beq (List.length (List.append (List.append (List.take (nat_lit 257) (List.append (List.append (List.take
 (nat_lit 256) (List.append cs (List.drop (1+List.length cs) (Zay aD)))) [int i64 aH]) (List.drop (nat_lit 257) (List.append cs (List.drop (1+List.length cs) (Zay aD)))))) [int i64
 aI]) (List.drop (nat_lit 258) (List.append (List.append (List.take (nat_lit 256) (List.append cs (List.drop (1+List.length cs) (Zay aD)))) [int i64 aH]) (List.drop (nat_lit 257) (List.append cs
 (List.drop (1+List.length cs) (Zay aD)))))))) (nat_lit 259)&&ZbA (List.append (List.append (List.take (nat_lit 257) (List.append (List.append (List.take (nat_lit 256) (List.append cs (List.drop (1 +
 List.length cs) (Zay aD)))) [int i64 aH]) (List.drop (nat_lit 257) (List.append cs (List.drop (1+List.length cs) (Zay aD)))))) [int i64 aI]) (List.drop (nat_lit 258) (List.append
 (List.append (List.take (nat_lit 256) (List.append cs (List.drop (1+List.length cs) (Zay aD)))) [int i64 aH]) (List.drop (nat_lit 257) (List.append cs (List.drop (1+List.length cs) (Zay
 aD)))))))) (∀(M:Mem),Mem.le m' M->Mem.le an M->∃(I:IT),(∃(n:Nat),I [int i64 0] [Zav (Zav (Zav (Zay aD) 1 cs) 257 [int i64 aH]) 258 [int i64 aI]] [slice none 0 0] M n)/\∀(n:
 Int) (cs:List Value) (a:Option Addr) (ap c:Nat) (m':Mem) (aq:Nat),Mem.le M m'->I [int i64 n] [cs] [slice a ap c] m' aq->br (decide (n < (↑aA:Int))) (∃(ar:Nat),∃(o:Nat),aB=some (Addr.mk ar
 o none)/\Zad n aA/\∃(v:Value),∃(af:Value),∃(ag:Value),∃(ah:Value),∃(ai:Value),∃(aj:Value),∃(ak:Value),∃(al:Value),Mem.reads m' ar (o+Int.toNat n*8) [v,af,ag,ah,ai,aj,
 ak,al]/\∀(au:Nat),chk (Value.oneCell' v&&(Value.oneCell' af&&(Value.oneCell' ag&&(Value.oneCell' ah&&(Value.oneCell' ai&&(Value.oneCell' aj&&(Value.oneCell' ak&&(Value.oneCell' al&&true)))))))) (∃
 (f:Fx),Eng.Zvl cs 259 λ(aa:Value)=>∃(R:RT),R=f 3 [agg (Array.mk [v,af,ag,ah,ai,aj,ak,al])] m'/\CX Try.prog 39 (Array.mk [agg (Array.mk [v,af,ag,ah,ai,aj,ak,al])]) m' [] R/\Zau
 Shape.cells R/\∀(ac:List Value)(ab:Mem),Mem.le m' ab->R (agg (Array.mk ac)) ab []->chk (Nat.beq (List.length ac) 260&&true) (∀(ad:Nat),Mem.free ab ad->chk (Zcn aa&&true) ((Tok.mk (slice a ap c) 260 =
 Tok.mk aa 260\/aa=slice none 0 0\/slC aa < slN aa+1)/\∃(xs:List Value),∃(ys:List Value),List.length xs=slN aa*260/\List.length ys=1*260/\rowRd (Mem.add ab ad (List.append ac [])) (slA aa) xs/\
 rowRd (Mem.add ab ad (List.append ac [])) (some (Addr.mk ad 0 none)) ys/\(∀(u:Value),u∈ys->Value.oneCell' u=true)/\(slN aa+1)*2096<=140737488355328/\slN aa+1<=9223372036854775807/\∀(a':Option
 Addr) (c':Nat) (ao:Mem),Mem.le (Mem.add ab ad (List.append ac [])) ao->rowRd ao a' (List.append xs ys)->slN aa+1<=c'->chk (Nat.ble 260 (List.length cs)) (∀(M:Mem),Mem.le m' M->Mem.le ab M->Mem.le
 (Mem.add ab ad (List.append ac [])) M->Mem.le ao M->Zaz (ZiP aD aE aF aG aJ aH aI aB aA aC b am ae)/\∃(n':Nat),n' < aq/\I [int i64 (IntKind.wrap i64 (n+(1:Int)))]
 [Zav cs 259 [slice a' (slN aa+1) c']] [slice a' (slN aa+1) c'] M n'))))) (chk (Nat.beq (List.length cs) 260&&ZbA cs) (∃(m'':Mem),Mem.le m m''/\Mem.le m'' m'/\R (agg (Array.mk cs)) m'' []))))))
theorem ZiQ(aD aE aF aG aJ aH aI:Int)(aB:Option Addr)(aA aC:Nat)(m:Mem)(R:RT)(h:Zfc aD aE aF aG aJ aH aI aB aA aC m R):CX Try.prog 39 #[.agg #[.int .u8 aD,.int .u64 aE,.int .u64 aF,.int .u64 aG,.int .u64 aJ,.int .i64 aH,.int .i64 aI,.slice aB aA aC]] m [] R:=
 Zaf (E:=Zj3) ZaH mix Try.func39 [.v (.agg #[.int .u8 aD,.int .u64 aE,.int .u64 aF,.int .u64 aG,.int .u64 aJ,.int .i64 aH,.int .i64 aI,.slice aB aA aC])] [] (by kernel_rfl) (Eq.mp (by kernel_rfl) h)
noncomputable def Zmc:Env:={ EB with
 loops:=(λi=>bif Nat.beq i 3 then⟨[(5,.int .i64),(6,.int .i64)],[],[],false⟩ else⟨[],[],[],false⟩)
 joins:=(λi=>bif Nat.beq i 3 then some [(16,.bool)]else none)
 frzNew:=[2] }
def ZfR(p0:List Value)(p1:Int)(m:Mem)(R:RT):Prop:=
 chk (Nat.beq (List.length p0) 260) (∀(b:Nat)(m':Mem),Mem.le m m'->Mem.reads m' b 0 p0->∃(I:IT),(∃(n:Nat),I [int i64 1,int i64 0] [] [] m' n)/\∀(n n_1:Int)(m'_1:Mem)(n_2:Nat),Mem.le m' m'_1->
 I [int i64 n,int i64 n_1] [] [] m'_1 n_2->∃(b_1:Bool),(Eng.Zvl p0 259 λ(v:Value)=>chk (Zcn v) (br (decide (n_1 < (↑(slN v):Int))) ([some (Box.mk b p0 70 260 true true)]=[some (Box.mk b p0 70 260 true
 true)]/\[bool (decide (n<=p1))]=[bool b_1]) ([some (Box.mk b p0 70 260 true true)]=[some (Box.mk b p0 70 260 true true)]/\[bool false]=[bool b_1])))/\br b_1 (Eng.Zvl p0 259 λ(v:Value)=>chk (Zcn v) (∃
 (b_2:Nat),∃(o:Nat),slA v=some (Addr.mk b_2 o none)/\Zad n_1 (slN v)/\∃(vs:List Value),List.length vs=260/\Mem.reads m'_1 b_2 (o+Int.toNat n_1*260) vs/\∃(R:RT),True/\CX Try.prog 84
 (Array.mk [agg (Array.mk vs),int i64 (IntKind.wrap i64 (p1 - n))]) m'_1 [] R/\Zau (Shape.int i64) R/\∀(n_3:Int)(m':Mem),Mem.le m'_1 m'->R (int i64 n_3) m' []->[some (Box.mk b p0 70 260 true true)]=[some
 (Box.mk b p0 70 260 true true)]/\∃(n':Nat),n' < n_2/\I [int i64 (IntKind.wrap i64 (n+n_3)),int i64 (IntKind.wrap i64 (n_1+(1:Int)))] [] [] m' n')) (∃(m'':Mem),Mem.le m m''/\Mem.le m'' m'_1/\R (int i64
 n) m'' []))
theorem Zj4(p0:List Value)(p1:Int)(m:Mem)(R:RT)(h:ZfR p0 p1 m R):CX Try.prog 84 #[.agg p0.toArray,.int .i64 p1] m [] R:=
 Zaf (E:=Zmc) ZaH mix Try.func84 [.v (.agg p0.toArray),.v (.int .i64 p1)] [] (by kernel_rfl) (Eq.mp (by kernel_rfl) h)
noncomputable def Zmd:Env:={ EB with
 frzNew:=[1] }
def ZfS(p0:List Value)(m:Mem)(R:RT):Prop:=
 chk (Nat.beq (List.length p0) 260) (∀(b:Nat)(m':Mem),Mem.le m m'->Mem.reads m' b 0 p0->∃(R_1:RT),True/\CX Try.prog 84 (Array.mk [agg (Array.mk p0),int i64 10000]) m' [] R_1/\Zau (Shape.int i64) R_1/\∀
 (n:Int) (m'_1:Mem),Mem.le m' m'_1->R_1 (int i64 n) m'_1 []->∃(m'':Mem),Mem.le m m''/\Mem.le m'' m'_1/\R (bool (decide (n < (10001:Int)))) m'' [])
theorem Zj5(p0:List Value)(m:Mem)(R:RT)(h:ZfS p0 m R):CX Try.prog 105 #[.agg p0.toArray] m [] R:=
 Zaf (E:=Zmd) ZaH mix Try.func105 [.v (.agg p0.toArray)] [] (by kernel_rfl) (Eq.mp (by kernel_rfl) h)
noncomputable def Zot:Env:={ EB with
 frzNew:=[1] }
def Zhf(p0:List Value)(m:Mem)(R:RT):Prop:=
 chk (Nat.beq (List.length p0) 260) (∀(b:Nat)(m':Mem),Mem.le m m'->Mem.reads m' b 0 p0->∃(R_1:RT),True/\CX Try.prog 84 (Array.mk [agg (Array.mk p0),int i64 10000]) m' [] R_1/\Zau (Shape.int i64) R_1/\∀
 (n:Int) (m'_1:Mem),Mem.le m' m'_1->R_1 (int i64 n) m'_1 []->∃(m'':Mem),Mem.le m m''/\Mem.le m'' m'_1/\R (int i64 n) m'' [])
theorem Zme(p0:List Value)(m:Mem)(R:RT)(h:Zhf p0 m R):CX Try.prog 44 #[.agg p0.toArray] m [] R:=
 Zaf (E:=Zot) ZaH mix Try.func44 [.v (.agg p0.toArray)] [] (by kernel_rfl) (Eq.mp (by kernel_rfl) h)
noncomputable def Zj6:Env:={ EB with
 joins:=(λi=>bif Nat.beq i 1 then some [(10,.bool)]else bif Nat.beq i 5 then some [(4,.bool)]else none) }
def Zfd(p0 p1:Int)(m:Mem)(R:RT):Prop:=
 ∃(b:Bool),br (decide (p0 < (0:Int))) ([bool true]=[bool b]) ([bool (decide (p0 > (16:Int)))]=[bool b])/\br b (∃(m'':Mem),Mem.le m m''/\Mem.le m'' m/\R (bool false) m'' []) (br (p1 == (-1:Int)) (∃
 (m'':Mem),Mem.le m m''/\Mem.le m'' m/\R (bool true) m'' []) (∃(b:Bool),br (decide (p1 > (0:Int))) (br (decide (p1 < (17:Int))) (br (decide (p0<=p1)) (br (p0 == (1:Int)) ([bool !p1 == (1:Int)]=[bool
 b]) ([bool true]=[bool b])) ([bool false]=[bool b])) ([bool false]=[bool b])) ([bool false]=[bool b])/\∃(m'':Mem),Mem.le m m''/\Mem.le m'' m/\R (bool b) m'' []))
theorem ZiR(p0 p1:Int)(m:Mem)(R:RT)(h:Zfd p0 p1 m R):CX Try.prog 117 #[.int .i64 p0,.int .i64 p1] m [] R:=
 Zaf (E:=Zj6) ZaH mix Try.func117 [.v (.int .i64 p0),.v (.int .i64 p1)] [] (by kernel_rfl) (Eq.mp (by kernel_rfl) h)
noncomputable def Zmf:Env:={ EB with
 loops:=(λi=>bif Nat.beq i 10 then⟨[(5,.int .i64)],[],[],false⟩ else⟨[],[],[],false⟩)
 joins:=(λi=>bif Nat.beq i 4 then some [(51,.bool)]else bif Nat.beq i 7 then some [(84,.bool)]else bif Nat.beq i 13 then some [(133,.bool)]else none)
 dr:=(λi=>bif Nat.beq i 2 then[⟨0,[1],[],none,[],[]⟩,⟨1,[1],[],none,[0],[]⟩,⟨2,[],[],none,[0,1],[]⟩,⟨3,[],[],none,[0,1,2],[]⟩,⟨4,[1],[],none,[0,1,2,3],[]⟩,⟨5,[1],[],none,[0,1,2,3,4],[]⟩,⟨6,[],[],none,[0,1,2,3,4,5],[]⟩,⟨7,[],[],none,[0,1,2,3,4,5,6],[]⟩,⟨8,[],[],none,[0,1,2,3,4,5,6,7],[]⟩,⟨9,[1],[],none,[0,1,2,3,4,5,6,7,8],[]⟩,⟨10,[1],[],none,[0,1,2,3,4,5,6,7,8,9],[]⟩,⟨11,[],[],none,[0,1,2,3,4,5,6,7,8,9,10],[]⟩,⟨12,[1],[],none,[0,1,2,3,4,5,6,7,8],[]⟩,⟨13,[1],[],none,[0,1,2,3,4,5,6,7,8,12],[]⟩,⟨14,[3],[],none,[0,1,2,3,4,5,6,7,8],[]⟩,⟨15,[],[],none,rg 0 9++[12,13,14],[]⟩,⟨16,[],[],none,rg 0 16,[]⟩,⟨17,[],[],none,rg 0 17,[]⟩]else[])
 frzNew:=[1]
 gb:=true }
def ZfT(p0:List Value)(m:Mem)(R:RT):Prop:=
 chk (Nat.beq (List.length p0) 260) (∀(b:Nat)(m':Mem),Mem.le m m'->Mem.reads m' b 0 p0->∀(aa:Nat),Eng.Zvl p0 0 λ(v:Value)=>chk (ZaG i64 v&&decide (i64=i64)) (br (decide (RowKit.intOf v < (1:
 Int))) (∃(m'':Mem),Mem.le m m''/\Mem.le m'' m'/\R (bool false) m'' []) (Eng.Zvl p0 0 λ(v:Value)=>chk (ZaG i64 v&&decide (i64=i64)) (br (decide (RowKit.intOf v > (6:Int))) (∃(m'':Mem),Mem.le m
 m''/\Mem.le m'' m'/\R (bool false) m'' []) (Eng.Zvl p0 0 λ(v:Value)=>chk (ZaG i64 v&&decide (i64=i64)) (chk (Nat.ble 257 (List.length p0)) (∃(al:Bool),EqIs Try.prog 67 (agg (Array.mk (List.take 256
 (List.drop 1 p0)))) (agg (Array.mk (List.replicate 256 (int i64 0)))) al/\br (!(RowKit.intOf v == (2:Int)) == !al) (∃(m'':Mem),Mem.le m m''/\Mem.le m'' m'/\R (bool false) m'' []) (∃(aj:Bool),(Eng.Zvl p0 0
 λ(v:Value)=>chk (ZaG i64 v&&decide (i64=i64)) (br (RowKit.intOf v == (5:Int)) (Eng.Zvl p0 257 λ(v:Value)=>Eng.Zvl p0 258 λ(ak:Value)=>∃(R:RT),True/\CX Try.prog 117 (Array.mk [v,ak])
 m' [] R/\Zau Shape.bool R/\∀(af:Bool)(ab:Mem),Mem.le m' ab->R (bool af) ab []->br (!af) ([some (Box.mk aa (List.replicate 256 (int i64 0)) 67 256 false true),some (Box.mk b p0 70 260 true true)]=[some
 (Box.mk aa (List.replicate 256 (int i64 0)) 67 256 false true),some (Box.mk b p0 70 260 true true)]/\[bool true]=[bool aj]) (Eng.Zvl p0 0 λ(v:Value)=>chk (ZaG i64 v&&decide (i64=i64)) (br
 (!RowKit.intOf v == (5:Int)) (Eng.Zvl p0 257 λ(v:Value)=>chk (ZaG i64 v&&decide (i64=i64)) (br (!RowKit.intOf v == (0:Int)) ([some (Box.mk aa (List.replicate 256 (int i64 0)) 67 256 false true),some
 (Box.mk b p0 70 260 true true)]=[some (Box.mk aa (List.replicate 256 (int i64 0)) 67 256 false true),some (Box.mk b p0 70 260 true true)]/\[bool true]=[bool aj]) (Eng.Zvl p0 258 λ(v:Value)=>chk (ZaG i64
 v&&decide (i64=i64)) ([some (Box.mk aa (List.replicate 256 (int i64 0)) 67 256 false true),some (Box.mk b p0 70 260 true true)]=[some (Box.mk aa (List.replicate 256 (int i64 0)) 67 256 false true),some (Box.mk b
 p0 70 260 true true)]/\[bool !RowKit.intOf v == (0:Int)]=[bool aj])))) ([some (Box.mk aa (List.replicate 256 (int i64 0)) 67 256 false true),some (Box.mk b p0 70 260 true true)]=[some (Box.mk aa (List.replicate
 256 (int i64 0)) 67 256 false true),some (Box.mk b p0 70 260 true true)]/\[bool false]=[bool aj])))) (Eng.Zvl p0 0 λ(v:Value)=>chk (ZaG i64 v&&decide (i64=i64)) (br (!RowKit.intOf v == (5:Int))
 (Eng.Zvl p0 257 λ(v:Value)=>chk (ZaG i64 v&&decide (i64=i64)) (br (!RowKit.intOf v == (0:Int)) ([some (Box.mk aa (List.replicate 256 (int i64 0)) 67 256 false true),some (Box.mk b p0 70 260 true true)]
 = [some (Box.mk aa (List.replicate 256 (int i64 0)) 67 256 false true),some (Box.mk b p0 70 260 true true)]/\[bool true]=[bool aj]) (Eng.Zvl p0 258 λ(v:Value)=>chk (ZaG i64 v&&decide (i64=i64)) ([some
 (Box.mk aa (List.replicate 256 (int i64 0)) 67 256 false true),some (Box.mk b p0 70 260 true true)]=[some (Box.mk aa (List.replicate 256 (int i64 0)) 67 256 false true),some (Box.mk b p0 70 260 true true)]/\[bool
 !RowKit.intOf v == (0:Int)]=[bool aj])))) ([some (Box.mk aa (List.replicate 256 (int i64 0)) 67 256 false true),some (Box.mk b p0 70 260 true true)]=[some (Box.mk aa (List.replicate 256 (int i64 0)) 67 256 false
 true),some (Box.mk b p0 70 260 true true)]/\[bool false]=[bool aj])))))/\br aj (∃(m'':Mem),Mem.le m m''/\Mem.le m'' m'/\R (bool false) m'' []) (Eng.Zvl p0 259 λ(v:Value)=>chk (Zcn v) (∃(af:Bool),
 (Eng.Zvl p0 0 λ(ak:Value)=>chk (ZaG i64 ak&&decide (i64=i64)) (br (decide (RowKit.intOf ak < (3:Int))) (br (decide ((↑(slN v):Int) > (0:Int))) ([some (Box.mk aa (List.replicate 256 (int i64 0)) 67
 256 false true),some (Box.mk b p0 70 260 true true)]=[some (Box.mk aa (List.replicate 256 (int i64 0)) 67 256 false true),some (Box.mk b p0 70 260 true true)]/\[bool true]=[bool af]) (Eng.Zvl p0 0 λ(ah:
 Value)=>chk (ZaG i64 ah&&decide (i64=i64)) (br (decide (RowKit.intOf ah > (2:Int))) (Eng.Zvl p0 0 λ(ac:Value)=>chk (ZaG i64 ac&&decide (i64=i64)) (br (decide (RowKit.intOf ac < (5:Int))) (br
 (decide ((↑(slN v):Int) < (2:Int))) ([some (Box.mk aa (List.replicate 256 (int i64 0)) 67 256 false true),some (Box.mk b p0 70 260 true true)]=[some (Box.mk aa (List.replicate 256 (int i64 0)) 67 256 false true),
 some (Box.mk b p0 70 260 true true)]/\[bool true]=[bool af]) (Eng.Zvl p0 0 λ(ai:Value)=>chk (ZaG i64 ai&&decide (i64=i64)) (br (decide (RowKit.intOf ai > (4:Int))) ([some (Box.mk aa (List.replicate
 256 (int i64 0)) 67 256 false true),some (Box.mk b p0 70 260 true true)]=[some (Box.mk aa (List.replicate 256 (int i64 0)) 67 256 false true),some (Box.mk b p0 70 260 true true)]/\[bool !(↑(slN v):Int) == (1:
 Int)]=[bool af]) ([some (Box.mk aa (List.replicate 256 (int i64 0)) 67 256 false true),some (Box.mk b p0 70 260 true true)]=[some (Box.mk aa (List.replicate 256 (int i64 0)) 67 256 false true),some (Box.mk b p0 70
 260 true true)]/\[bool false]=[bool af])))) (Eng.Zvl p0 0 λ(ai:Value)=>chk (ZaG i64 ai&&decide (i64=i64)) (br (decide (RowKit.intOf ai > (4:Int))) ([some (Box.mk aa (List.replicate 256 (int i64 0)) 67
 256 false true),some (Box.mk b p0 70 260 true true)]=[some (Box.mk aa (List.replicate 256 (int i64 0)) 67 256 false true),some (Box.mk b p0 70 260 true true)]/\[bool !(↑(slN v):Int) == (1:Int)]=[bool af])
 ([some (Box.mk aa (List.replicate 256 (int i64 0)) 67 256 false true),some (Box.mk b p0 70 260 true true)]=[some (Box.mk aa (List.replicate 256 (int i64 0)) 67 256 false true),some (Box.mk b p0 70 260 true true)]/\
 [bool false]=[bool af]))))) (Eng.Zvl p0 0 λ(ac:Value)=>chk (ZaG i64 ac&&decide (i64=i64)) (br (decide (RowKit.intOf ac > (4:Int))) ([some (Box.mk aa (List.replicate 256 (int i64 0)) 67 256 false true),
 some (Box.mk b p0 70 260 true true)]=[some (Box.mk aa (List.replicate 256 (int i64 0)) 67 256 false true),some (Box.mk b p0 70 260 true true)]/\[bool !(↑(slN v):Int) == (1:Int)]=[bool af]) ([some (Box.mk aa
 (List.replicate 256 (int i64 0)) 67 256 false true),some (Box.mk b p0 70 260 true true)]=[some (Box.mk aa (List.replicate 256 (int i64 0)) 67 256 false true),some (Box.mk b p0 70 260 true true)]/\[bool false] =
 [bool af])))))) (Eng.Zvl p0 0 λ(ah:Value)=>chk (ZaG i64 ah&&decide (i64=i64)) (br (decide (RowKit.intOf ah > (2:Int))) (Eng.Zvl p0 0 λ(ac:Value)=>chk (ZaG i64 ac&&decide (i64=i64)) (br
 (decide (RowKit.intOf ac < (5:Int))) (br (decide ((↑(slN v):Int) < (2:Int))) ([some (Box.mk aa (List.replicate 256 (int i64 0)) 67 256 false true),some (Box.mk b p0 70 260 true true)]=[some (Box.mk aa
 (List.replicate 256 (int i64 0)) 67 256 false true),some (Box.mk b p0 70 260 true true)]/\[bool true]=[bool af]) (Eng.Zvl p0 0 λ(ai:Value)=>chk (ZaG i64 ai&&decide (i64=i64)) (br (decide (RowKit.intOf
 ai > (4:Int))) ([some (Box.mk aa (List.replicate 256 (int i64 0)) 67 256 false true),some (Box.mk b p0 70 260 true true)]=[some (Box.mk aa (List.replicate 256 (int i64 0)) 67 256 false true),some (Box.mk b p0 70
 260 true true)]/\[bool !(↑(slN v):Int) == (1:Int)]=[bool af]) ([some (Box.mk aa (List.replicate 256 (int i64 0)) 67 256 false true),some (Box.mk b p0 70 260 true true)]=[some (Box.mk aa (List.replicate 256
 (int i64 0)) 67 256 false true),some (Box.mk b p0 70 260 true true)]/\[bool false]=[bool af])))) (Eng.Zvl p0 0 λ(ai:Value)=>chk (ZaG i64 ai&&decide (i64=i64)) (br (decide (RowKit.intOf ai > (4:Int)))
 ([some (Box.mk aa (List.replicate 256 (int i64 0)) 67 256 false true),some (Box.mk b p0 70 260 true true)]=[some (Box.mk aa (List.replicate 256 (int i64 0)) 67 256 false true),some (Box.mk b p0 70 260 true true)]/\
 [bool !(↑(slN v):Int) == (1:Int)]=[bool af]) ([some (Box.mk aa (List.replicate 256 (int i64 0)) 67 256 false true),some (Box.mk b p0 70 260 true true)]=[some (Box.mk aa (List.replicate 256 (int i64 0)) 67 256
 false true),some (Box.mk b p0 70 260 true true)]/\[bool false]=[bool af]))))) (Eng.Zvl p0 0 λ(ac:Value)=>chk (ZaG i64 ac&&decide (i64=i64)) (br (decide (RowKit.intOf ac > (4:Int))) ([some (Box.mk aa
 (List.replicate 256 (int i64 0)) 67 256 false true),some (Box.mk b p0 70 260 true true)]=[some (Box.mk aa (List.replicate 256 (int i64 0)) 67 256 false true),some (Box.mk b p0 70 260 true true)]/\[bool !(↑(slN v):
 Int) == (1:Int)]=[bool af]) ([some (Box.mk aa (List.replicate 256 (int i64 0)) 67 256 false true),some (Box.mk b p0 70 260 true true)]=[some (Box.mk aa (List.replicate 256 (int i64 0)) 67 256 false true),some
 (Box.mk b p0 70 260 true true)]/\[bool false]=[bool af])))))))/\br af (∃(m'':Mem),Mem.le m m''/\Mem.le m'' m'/\R (bool false) m'' []) (∃(I:IT),(∃(n:Nat),I [int i64 0] [] [] m' n)/\∀(n:Int) (ab:
 Mem) (am:Nat),Mem.le m' ab->I [int i64 n] [] [] ab am->br (decide (n < (↑(slN v):Int))) (Eng.Zvl p0 259 λ(v:Value)=>chk (Zcn v) (∃(an:Nat),∃(o:Nat),slA v=some (Addr.mk an o none)/\Zad n
 (slN v)/\∃(v:Value),ab an (o+Int.toNat n*260+0)=some v/\∃(ag:Bool),(Eng.Zvl p0 0 λ(ak:Value)=>chk (ZaG i64 ak&&decide (i64=i64)) (br (RowKit.intOf ak == (3:Int)) (chk (ZaG i64 v &&
 decide (i64=i64)) (br (RowKit.intOf v == (1:Int)) ([some (Box.mk aa (List.replicate 256 (int i64 0)) 67 256 false true),some (Box.mk b p0 70 260 true true)]=[some (Box.mk aa (List.replicate 256 (int i64 0)) 67
 256 false true),some (Box.mk b p0 70 260 true true)]/\[bool true]=[bool ag]) (chk (ZaG i64 v&&decide (i64=i64)) (br (RowKit.intOf v == (3:Int)) ([some (Box.mk aa (List.replicate 256 (int i64 0)) 67 256 false
 true),some (Box.mk b p0 70 260 true true)]=[some (Box.mk aa (List.replicate 256 (int i64 0)) 67 256 false true),some (Box.mk b p0 70 260 true true)]/\[bool true]=[bool ag]) (Eng.Zvl p0 0 λ(ah:Value)=>chk
 (ZaG i64 ah&&decide (i64=i64)) (br (RowKit.intOf ah == (4:Int)) (chk (ZaG i64 v&&decide (i64=i64)) (br (RowKit.intOf v == (4:Int)) ([some (Box.mk aa (List.replicate 256 (int i64 0)) 67 256 false true),
 some (Box.mk b p0 70 260 true true)]=[some (Box.mk aa (List.replicate 256 (int i64 0)) 67 256 false true),some (Box.mk b p0 70 260 true true)]/\[bool true]=[bool ag]) (Eng.Zvl p0 0 λ(ac:Value)=>chk (ZaG
 i64 ac&&decide (i64=i64)) (br (RowKit.intOf ac == (5:Int)) (chk (ZaG i64 v&&decide (i64=i64)) (br (RowKit.intOf v == (1:Int)) ([some (Box.mk aa (List.replicate 256 (int i64 0)) 67 256 false true),some
 (Box.mk b p0 70 260 true true)]=[some (Box.mk aa (List.replicate 256 (int i64 0)) 67 256 false true),some (Box.mk b p0 70 260 true true)]/\[bool true]=[bool ag]) (Eng.Zvl p0 259 λ(v:Value)=>chk (Zcn v) (∃
 (ad:Nat),∃(o:Nat),slA v=some (Addr.mk ad o none)/\Zad n (slN v)/\∃(vs:List Value),List.length vs=260/\Mem.reads ab ad (o+Int.toNat n*260) vs/\∃(R:RT),True/\CX Try.prog 106 (Array.mk [agg
 (Array.mk vs)]) ab [] R/\Zau Shape.bool R/\∀(ae:Bool)(m':Mem),Mem.le ab m'->R (bool ae) m' []->[some (Box.mk aa (List.replicate 256 (int i64 0)) 67 256 false true),some (Box.mk b p0 70 260 true true)] =
 [some (Box.mk aa (List.replicate 256 (int i64 0)) 67 256 false true),some (Box.mk b p0 70 260 true true)]/\[bool !ae]=[bool ag])))) (Eng.Zvl p0 259 λ(v:Value)=>chk (Zcn v) (∃(ad:Nat),∃(o:Nat),slA v
 = some (Addr.mk ad o none)/\Zad n (slN v)/\∃(vs:List Value),List.length vs=260/\Mem.reads ab ad (o+Int.toNat n*260) vs/\∃(R:RT),True/\CX Try.prog 106 (Array.mk [agg (Array.mk vs)]) ab [] R/\Zau
 Shape.bool R/\∀(ae:Bool)(m':Mem),Mem.le ab m'->R (bool ae) m' []->[some (Box.mk aa (List.replicate 256 (int i64 0)) 67 256 false true),some (Box.mk b p0 70 260 true true)]=[some (Box.mk aa (List.replicate
 256 (int i64 0)) 67 256 false true),some (Box.mk b p0 70 260 true true)]/\[bool !ae]=[bool ag])))))) (Eng.Zvl p0 0 λ(ac:Value)=>chk (ZaG i64 ac&&decide (i64=i64)) (br (RowKit.intOf ac == (5:Int))
 (chk (ZaG i64 v&&decide (i64=i64)) (br (RowKit.intOf v == (1:Int)) ([some (Box.mk aa (List.replicate 256 (int i64 0)) 67 256 false true),some (Box.mk b p0 70 260 true true)]=[some (Box.mk aa (List.replicate
 256 (int i64 0)) 67 256 false true),some (Box.mk b p0 70 260 true true)]/\[bool true]=[bool ag]) (Eng.Zvl p0 259 λ(v:Value)=>chk (Zcn v) (∃(ad:Nat),∃(o:Nat),slA v=some (Addr.mk ad o none)/\
 Zad n (slN v)/\∃(vs:List Value),List.length vs=260/\Mem.reads ab ad (o+Int.toNat n*260) vs/\∃(R:RT),True/\CX Try.prog 106 (Array.mk [agg (Array.mk vs)]) ab [] R/\Zau Shape.bool R/\∀(ae:Bool)
 (m':Mem),Mem.le ab m'->R (bool ae) m' []->[some (Box.mk aa (List.replicate 256 (int i64 0)) 67 256 false true),some (Box.mk b p0 70 260 true true)]=[some (Box.mk aa (List.replicate 256 (int i64 0)) 67 256 false
 true),some (Box.mk b p0 70 260 true true)]/\[bool !ae]=[bool ag])))) (Eng.Zvl p0 259 λ(v:Value)=>chk (Zcn v) (∃(ad:Nat),∃(o:Nat),slA v=some (Addr.mk ad o none)/\Zad n (slN v)/\∃(vs:List
 Value),List.length vs=260/\Mem.reads ab ad (o+Int.toNat n*260) vs/\∃(R:RT),True/\CX Try.prog 106 (Array.mk [agg (Array.mk vs)]) ab [] R/\Zau Shape.bool R/\∀(ae:Bool)(m':Mem),Mem.le ab m'->R
 (bool ae) m' []->[some (Box.mk aa (List.replicate 256 (int i64 0)) 67 256 false true),some (Box.mk b p0 70 260 true true)]=[some (Box.mk aa (List.replicate 256 (int i64 0)) 67 256 false true),some (Box.mk b p0 70
 260 true true)]/\[bool !ae]=[bool ag])))))))))) (Eng.Zvl p0 0 λ(ah:Value)=>chk (ZaG i64 ah&&decide (i64=i64)) (br (RowKit.intOf ah == (4:Int)) (chk (ZaG i64 v&&decide (i64=i64)) (br
 (RowKit.intOf v == (4:Int)) ([some (Box.mk aa (List.replicate 256 (int i64 0)) 67 256 false true),some (Box.mk b p0 70 260 true true)]=[some (Box.mk aa (List.replicate 256 (int i64 0)) 67 256 false true),some
 (Box.mk b p0 70 260 true true)]/\[bool true]=[bool ag]) (Eng.Zvl p0 0 λ(ac:Value)=>chk (ZaG i64 ac&&decide (i64=i64)) (br (RowKit.intOf ac == (5:Int)) (chk (ZaG i64 v&&decide (i64=i64)) (br
 (RowKit.intOf v == (1:Int)) ([some (Box.mk aa (List.replicate 256 (int i64 0)) 67 256 false true),some (Box.mk b p0 70 260 true true)]=[some (Box.mk aa (List.replicate 256 (int i64 0)) 67 256 false true),some
 (Box.mk b p0 70 260 true true)]/\[bool true]=[bool ag]) (Eng.Zvl p0 259 λ(v:Value)=>chk (Zcn v) (∃(ad:Nat),∃(o:Nat),slA v=some (Addr.mk ad o none)/\Zad n (slN v)/\∃(vs:List Value),
 List.length vs=260/\Mem.reads ab ad (o+Int.toNat n*260) vs/\∃(R:RT),True/\CX Try.prog 106 (Array.mk [agg (Array.mk vs)]) ab [] R/\Zau Shape.bool R/\∀(ae:Bool)(m':Mem),Mem.le ab m'->R (bool ae) m'
 []->[some (Box.mk aa (List.replicate 256 (int i64 0)) 67 256 false true),some (Box.mk b p0 70 260 true true)]=[some (Box.mk aa (List.replicate 256 (int i64 0)) 67 256 false true),some (Box.mk b p0 70 260 true
 true)]/\[bool !ae]=[bool ag])))) (Eng.Zvl p0 259 λ(v:Value)=>chk (Zcn v) (∃(ad:Nat),∃(o:Nat),slA v=some (Addr.mk ad o none)/\Zad n (slN v)/\∃(vs:List Value),List.length vs=260/\
 Mem.reads ab ad (o+Int.toNat n*260) vs/\∃(R:RT),True/\CX Try.prog 106 (Array.mk [agg (Array.mk vs)]) ab [] R/\Zau Shape.bool R/\∀(ae:Bool)(m':Mem),Mem.le ab m'->R (bool ae) m' []->[some (Box.mk aa
 (List.replicate 256 (int i64 0)) 67 256 false true),some (Box.mk b p0 70 260 true true)]=[some (Box.mk aa (List.replicate 256 (int i64 0)) 67 256 false true),some (Box.mk b p0 70 260 true true)]/\[bool !ae]=[bool
 ag])))))) (Eng.Zvl p0 0 λ(ac:Value)=>chk (ZaG i64 ac&&decide (i64=i64)) (br (RowKit.intOf ac == (5:Int)) (chk (ZaG i64 v&&decide (i64=i64)) (br (RowKit.intOf v == (1:Int)) ([some (Box.mk aa
 (List.replicate 256 (int i64 0)) 67 256 false true),some (Box.mk b p0 70 260 true true)]=[some (Box.mk aa (List.replicate 256 (int i64 0)) 67 256 false true),some (Box.mk b p0 70 260 true true)]/\[bool true] =
 [bool ag]) (Eng.Zvl p0 259 λ(v:Value)=>chk (Zcn v) (∃(ad:Nat),∃(o:Nat),slA v=some (Addr.mk ad o none)/\Zad n (slN v)/\∃(vs:List Value),List.length vs=260/\Mem.reads ab ad (o+Int.toNat n
 * 260) vs/\∃(R:RT),True/\CX Try.prog 106 (Array.mk [agg (Array.mk vs)]) ab [] R/\Zau Shape.bool R/\∀(ae:Bool)(m':Mem),Mem.le ab m'->R (bool ae) m' []->[some (Box.mk aa (List.replicate 256 (int i64 0))
 67 256 false true),some (Box.mk b p0 70 260 true true)]=[some (Box.mk aa (List.replicate 256 (int i64 0)) 67 256 false true),some (Box.mk b p0 70 260 true true)]/\[bool !ae]=[bool ag])))) (Eng.Zvl p0 259 λ(v
 : Value)=>chk (Zcn v) (∃(ad:Nat),∃(o:Nat),slA v=some (Addr.mk ad o none)/\Zad n (slN v)/\∃(vs:List Value),List.length vs=260/\Mem.reads ab ad (o+Int.toNat n*260) vs/\∃(R:RT),True/\CX
 Try.prog 106 (Array.mk [agg (Array.mk vs)]) ab [] R/\Zau Shape.bool R/\∀(ae:Bool)(m':Mem),Mem.le ab m'->R (bool ae) m' []->[some (Box.mk aa (List.replicate 256 (int i64 0)) 67 256 false true),some (Box.mk b
 p0 70 260 true true)]=[some (Box.mk aa (List.replicate 256 (int i64 0)) 67 256 false true),some (Box.mk b p0 70 260 true true)]/\[bool !ae]=[bool ag]))))))))/\br ag (∃(m'':Mem),Mem.le m m''/\Mem.le m'' ab/\
 R (bool false) m'' []) ([some (Box.mk aa (List.replicate 256 (int i64 0)) 67 256 false true),some (Box.mk b p0 70 260 true true)]=[some (Box.mk aa (List.replicate 256 (int i64 0)) 67 256 false true),some (Box.mk b
 p0 70 260 true true)]/\∃(n':Nat),n' < am/\I [int i64 (IntKind.wrap i64 (n+(1:Int)))] [] [] ab n'))) (∃(m'':Mem),Mem.le m m''/\Mem.le m'' ab/\R (bool true) m'' []))))))))))))
theorem Zj7(p0:List Value)(m:Mem)(R:RT)(h:ZfT p0 m R):CX Try.prog 106 #[.agg p0.toArray] m [] R:=
 Zaf (E:=Zmf) ZaH mix Try.func106 [.v (.agg p0.toArray)] [] (by kernel_rfl) (Eq.mp (by kernel_rfl) h)
noncomputable def Zmg:Env:={ EB with
 joins:=(λi=>bif Nat.beq i 1 then some [(2,.bool)]else none)
 frzNew:=[1] }
def ZfU(p0:List Value)(m:Mem)(R:RT):Prop:=
 chk (Nat.beq (List.length p0) 260) (∀(b:Nat)(m':Mem),Mem.le m m'->Mem.reads m' b 0 p0->∃(b_1:Bool),(∃(R:RT),True/\CX Try.prog 105 (Array.mk [agg (Array.mk p0)]) m' [] R/\Zau Shape.bool R/\∀(b_2:
 Bool) (m'_1:Mem),Mem.le m' m'_1->R (bool b_2) m'_1 []->br b_2 (∃(R:RT),True/\CX Try.prog 106 (Array.mk [agg (Array.mk p0)]) m'_1 [] R/\Zau Shape.bool R/\∀(b_3:Bool)(m':Mem),Mem.le m'_1 m'->R (bool
 b_3) m' []->[some (Box.mk b p0 70 260 true true)]=[some (Box.mk b p0 70 260 true true)]/\[bool b_3]=[bool b_1]) ([some (Box.mk b p0 70 260 true true)]=[some (Box.mk b p0 70 260 true true)]/\[bool false]=[bool
 b_1]))/\∃(m'':Mem),Mem.le m m''/\Mem.le m'' m'/\R (bool b_1) m'' [])
theorem Zj8(p0:List Value)(m:Mem)(R:RT)(h:ZfU p0 m R):CX Try.prog 79 #[.agg p0.toArray] m [] R:=
 Zaf (E:=Zmg) ZaH mix Try.func79 [.v (.agg p0.toArray)] [] (by kernel_rfl) (Eq.mp (by kernel_rfl) h)
noncomputable def Zou:Env:={ EB with
 loops:=(λi=>bif Nat.beq i 4 then⟨[(5,.int .i64)],[],[],false⟩ else⟨[],[],[],false⟩)
 joins:=(λi=>bif Nat.beq i 1 then some [(40,.bool)]else none)
 dr:=(λi=>bif Nat.beq i 6 then[⟨0,[2],[],none,[],[]⟩,⟨1,[2],[],none,[0],[]⟩,⟨2,[],[],none,[],[]⟩,⟨3,[],[],none,[0,1,2],[]⟩,⟨4,[],[],none,[0,1,2,3],[]⟩,⟨5,[3],[],none,[],[]⟩,⟨6,[3],[],none,[5],[]⟩,⟨7,[],[],none,[],[]⟩,⟨8,[],[],none,[5,6,7],[]⟩,⟨9,[],[],none,[5,6,7,8],[]⟩,⟨10,[],[],none,[0,1,2,3,4,5,6,7,8,9],[]⟩,⟨11,[],[],none,[0,1,2,3,4,5,6,7,8,9,10],[]⟩]else[])
 frzNew:=[2,3]
 gb:=true }
def Zhg(p0 p1:List Value)(m:Mem)(R:RT):Prop:=
 chk (Nat.beq (List.length p0) 260) (∀(b:Nat)(m':Mem),Mem.le m m'->Mem.reads m' b 0 p0->chk (Nat.beq (List.length p1) 260) (∀(aa:Nat)(ac:Mem),Mem.le m' ac->Mem.reads ac aa 0 p1->∃(ab:Bool),(Eng.Zvl
 p0 0 λ(v:Value)=>Eng.Zvl p1 0 λ(ag:Value)=>chk (ZaG i64 v&&ZaG i64 ag) (br (!RowKit.intOf v == RowKit.intOf ag) ([some (Box.mk aa p1 70 260 true true),some (Box.mk b p0 70 260 true true)]=[some
 (Box.mk aa p1 70 260 true true),some (Box.mk b p0 70 260 true true)]/\[bool true]=[bool ab]) (chk (Nat.ble 257 (List.length p0)) (chk (Nat.ble 257 (List.length p1)) (∃(ad:Bool),EqIs Try.prog 67 (agg (Array.mk
 (List.take 256 (List.drop 1 p0)))) (agg (Array.mk (List.take 256 (List.drop 1 p1)))) ad/\br (!ad) ([some (Box.mk aa p1 70 260 true true),some (Box.mk b p0 70 260 true true)]=[some (Box.mk aa p1 70 260 true true),
 some (Box.mk b p0 70 260 true true)]/\[bool true]=[bool ab]) (Eng.Zvl p0 257 λ(v:Value)=>Eng.Zvl p1 257 λ(ah:Value)=>chk (ZaG i64 v&&ZaG i64 ah) (br (!RowKit.intOf v == RowKit.intOf ah) ([some
 (Box.mk aa p1 70 260 true true),some (Box.mk b p0 70 260 true true)]=[some (Box.mk aa p1 70 260 true true),some (Box.mk b p0 70 260 true true)]/\[bool true]=[bool ab]) (Eng.Zvl p0 258 λ(v:Value)=>Eng.Zvl
 p1 258 λ(ai:Value)=>chk (ZaG i64 v&&ZaG i64 ai) (br (!RowKit.intOf v == RowKit.intOf ai) ([some (Box.mk aa p1 70 260 true true),some (Box.mk b p0 70 260 true true)]=[some (Box.mk aa p1 70 260 true true),
 some (Box.mk b p0 70 260 true true)]/\[bool true]=[bool ab]) (Eng.Zvl p0 259 λ(v:Value)=>chk (Zcn v) (Eng.Zvl p1 259 λ(aj:Value)=>chk (Zcn aj) ([some (Box.mk aa p1 70 260 true true),some (Box.mk b
 p0 70 260 true true)]=[some (Box.mk aa p1 70 260 true true),some (Box.mk b p0 70 260 true true)]/\[bool !(↑(slN v):Int) == (↑(slN aj):Int)]=[bool ab]))))))))))))/\br ab (∃(m'':Mem),Mem.le m m''/\Mem.le
 m'' ac/\R (bool false) m'' []) (∃(I:IT),(∃(n:Nat),I [int i64 0] [] [] ac n)/\∀(n:Int)(m':Mem)(ak:Nat),Mem.le ac m'->I [int i64 n] [] [] m' ak->Eng.Zvl p0 259 λ(v:Value)=>chk (Zcn v) (br
 (decide (n < (↑(slN v):Int))) (∃(f:Fx),Eng.Zvl p0 259 λ(v:Value)=>chk (Zcn v) (∃(ad:Nat),∃(o:Nat),slA v=some (Addr.mk ad o none)/\Zad n (slN v)/\∃(vs:List Value),List.length vs=260/\
 Mem.reads m' ad (o+Int.toNat n*260) vs/\Eng.Zvl p1 259 λ(v:Value)=>chk (Zcn v) (∃(al:Nat),∃(o:Nat),slA v=some (Addr.mk al o none)/\Zad n (slN v)/\∃(ae:List Value),List.length ae=260/\
 Mem.reads m' al (o+Int.toNat n*260) ae/\∃(R_1:RT),R_1=f 10 [agg (Array.mk vs),agg (Array.mk ae)] m'/\CX Try.prog 83 (Array.mk [agg (Array.mk vs),agg (Array.mk ae)]) m' [] R_1/\Zau Shape.bool R_1/\∀(am
 : Bool) (af:Mem),Mem.le m' af->R_1 (bool am) af []->∀(M:Mem),Mem.le m' M->Mem.le af M->br (!am) (∃(m'':Mem),Mem.le m m''/\Mem.le m'' M/\R (bool false) m'' []) ([some (Box.mk aa p1 70 260 true true),
 some (Box.mk b p0 70 260 true true)]=[some (Box.mk aa p1 70 260 true true),some (Box.mk b p0 70 260 true true)]/\∃(n':Nat),n' < ak/\I [int i64 (IntKind.wrap i64 (n+(1:Int)))] [] [] M n')))) (∃(m'':Mem),
 Mem.le m m''/\Mem.le m'' m'/\R (bool true) m'' [])))))
theorem Zmh(p0 p1:List Value)(m:Mem)(R:RT)(h:Zhg p0 p1 m R):CX Try.prog 83 #[.agg p0.toArray,.agg p1.toArray] m [] R:=
 Zaf (E:=Zou) ZaH mix Try.func83 [.v (.agg p0.toArray),.v (.agg p1.toArray)] [] (by kernel_rfl) (Eq.mp (by kernel_rfl) h)
end Go.Proofs.Ytfgfahnakepegaa
set_option linter.unusedVariables false
namespace Go.Proofs.Ytfgfahnakepegaa
open Go Go.Eng Go.Proofs Go.RowKit
open Go.Value (int slice agg bool string tuple func)
open Go.IntKind (u8 u64 i64)
set_option maxRecDepth 100000
noncomputable def Zmi:Env:={ EB with
 loops:=(λi=>bif Nat.beq i 3 then⟨[(4,.int .i64)],[3],[],false⟩ else bif Nat.beq i 7 then⟨[(5,.int .u64),(6,.int .i64)],[],[],false⟩ else⟨[],[],[],false⟩)
 frzNew:=[1] }
def ZfV(aD aE aF aG:Int)(m:Mem)(R:RT):Prop:=
 ∀(b:Nat)(m':Mem),Mem.le m m'->Mem.reads m' b 0 [int u64 aD,int u64 aE,int u64 aF,int u64 aG]->∀(b_1 b_2:Nat),∃(I:IT),(∃(n:Nat),I [int i64 0] [List.replicate 256 (int i64 0)] [] m' n)/\∀
 (n:Int) (cs:List Value) (m'_1:Mem) (n_1:Nat),Mem.le m' m'_1->I [int i64 n] [cs] [] m'_1 n_1->br (decide (n < (256:Int))) ((64:Int)≠(0:Int)/\Zad (IntKind.wrap i64 (Int.tdiv n (64:Int))) 4/\
 Eng.Zvl [int u64 aD,int u64 aE,int u64 aF,int u64 aG] (0+Int.toNat (IntKind.wrap i64 (Int.tdiv n (64:Int)))*1) λ(v:Value)=>∃(I_1:IT),chk (Shape.fits (Shape.int u64) v) (∃(n:Nat),I_1 [v,
 int i64 0] [] [] m'_1 n)/\∀(n_2 n_3:Int)(m':Mem)(n_4:Nat),Mem.le m'_1 m'->I_1 [int u64 n_2,int i64 n_3] [] [] m' n_4->(64:Int)≠(0:Int)/\br (decide (n_3 < Int.tmod n (64:Int))) ((2:Int)≠(0:
 Int)/\[some (Box.mk b_2 cs 67 256 false true),some (Box.mk b_1 (List.replicate 256 (int i64 0)) 67 256 false true),some (Box.mk b [int u64 aD,int u64 aE,int u64 aF,int u64 aG] 23 4 true true)]=[some
 (Box.mk b_2 cs 67 256 false true),some (Box.mk b_1 (List.replicate 256 (int i64 0)) 67 256 false true),some (Box.mk b [int u64 aD,int u64 aE,int u64 aF,int u64 aG] 23 4 true true)]/\∃(n':Nat),n' < n_4
 /\ I_1 [int u64 (IntKind.wrap u64 (Int.tdiv n_2 (2:Int))),int i64 (IntKind.wrap i64 (n_3+(1:Int)))] [] [] m' n') ((2:Int)≠(0:Int)/\Zad n 256/\chk (Nat.ble (0+Int.toNat n*1+1) (List.length cs))
 ([some (Box.mk b_2 [] 67 256 false true),some (Box.mk b_1 (List.replicate 256 (int i64 0)) 67 256 false true),some (Box.mk b [int u64 aD,int u64 aE,int u64 aF,int u64 aG] 23 4 true true)]=[some (Box.mk
 b_2 [] 67 256 false true),some (Box.mk b_1 (List.replicate 256 (int i64 0)) 67 256 false true),some (Box.mk b [int u64 aD,int u64 aE,int u64 aF,int u64 aG] 23 4 true true)]/\∃(n':Nat),n' < n_1/\I [int
 i64 (IntKind.wrap i64 (n+(1:Int)))] [Zav cs (0+Int.toNat n*1) [int i64 (IntKind.wrap i64 (Int.tmod n_2 (2:Int)))]] [] m' n'))) (chk (Nat.beq (List.length cs) 256&&ZbA cs) (∃(m'':Mem),Mem.le m m''/\
 Mem.le m'' m'_1/\R (agg (Array.mk cs)) m'' []))
theorem Zj9(aD aE aF aG:Int)(m:Mem)(R:RT)(h:ZfV aD aE aF aG m R):CX Try.prog 65 #[.agg #[.int .u64 aD,.int .u64 aE,.int .u64 aF,.int .u64 aG]] m [] R:=
 Zaf (E:=Zmi) ZaH mix Try.func65 [.v (.agg #[.int .u64 aD,.int .u64 aE,.int .u64 aF,.int .u64 aG])] [] (by kernel_rfl) (Eq.mp (by kernel_rfl) h)
end Go.Proofs.Ytfgfahnakepegaa
set_option linter.unusedVariables false
set_option linter.unusedSimpArgs false
namespace Go.Proofs.Ytfgfahnakepegaa
open Go Go.Eng Go.Rx Go.Proofs Go.RowKit
set_option maxRecDepth 100000
theorem ZaY{α:Type}{l:List α}{k:Nat}(h:k < l.length):∃x,l[k]?=some x:=⟨l[k],by simp[h]⟩
def NewS(m:Mem)(v:Value):Prop:=∀b o,slA v=some ⟨b,o,none⟩->m.free b
theorem NewS.less{m m0:Mem}{v:Value}(h:NewS m v)(k:m0.le m):NewS m0 v:=λb o e x=>by
 cases he:m0 b x with
 | none=>rfl
 | some u=>have:=k _ _ _ he;rw[h b o e x]at this;cases this
theorem ZvU{P:Program}{w:World}{n:Nat}{f:Nat->(Option Bool×Unit)->Sem (ForInStep (Option Bool×Unit))}{p:Nat->Bool}(hf:∀i,i < n->(f i (none,())).run P w=.ok (if p i then .yield (none,())else .done (some false,())) w):
  ∀k i,i+k<=n->(forIn (List.range' i k) (none,()) f).run P w=.ok (if(List.range' i k).all p then(none,())else(some false,())) w
 | 0,i,h=>by simp
 | k+1,i,h=>by
  rw[List.range'_succ,List.forIn_cons,Sem.run_bind,hf i (by omega),Result.andThen_ok,List.all_cons]
  cases p i with
  | false=>simp
  | true=>
   have:=ZvU hf k (i+1) (by omega)
   rw[Bool.true_and]
   exact this
theorem ZzU(xs ys:List Int)(hx:xs.length=256)(hy:ys.length=256):EqIs Try.prog 67 (.agg (Zg5 xs).toArray) (.agg (Zg5 ys).toArray) (decide (xs=ys)):=by
 refine⟨λw=>?_,λop ox oy w=>Zei (by kernel_rfl) op ox oy _ _ w⟩
 have u3:=Try.underlying3
 have a3:=Try.isAgg3
 have z3:=Try.sizeOf3
 rw[Op.equal,Op.maxDepth,show(10000:Nat)=9999+1 from rfl,Op.equalIn]
 simp only[Sem.run_bind,run_underlying Try.underlying67,Result.andThen_ok]
 simp only[Std.Legacy.Range.forIn_eq_forIn_range',Std.Legacy.Range.size,Nat.sub_zero,Nat.add_sub_cancel,Nat.div_one]
 rw[z3,Result.andThen_ok,ZvU (n:=256) (p:=λi=>decide (xs[i]?=ys[i]?)) (λi hi=>?_) 256 0 (by omega),Result.andThen_ok]
 ·by_cases h:xs=ys
  ·subst h;simp
  ·have:(List.range' 0 256).all (λi=>decide (xs[i]?=ys[i]?))=false:=by
    rw[Bool.eq_false_iff]
    intro hh
    apply h
    refine List.ext_getElem? λi=>?_
    by_cases hi:i < 256
    ·have:=List.all_eq_true.1 hh i (by simp[List.mem_range',hi])
     simpa using this
    ·rw[List.getElem?_eq_none_iff.2 (by omega),List.getElem?_eq_none_iff.2 (by omega)]
   rw[this];simp[h]
 ·obtain⟨x,xb⟩:∃x,xs[i]?=some x:=⟨_,List.getElem?_eq_getElem (by omega)⟩
  obtain⟨y,xd⟩:∃y,ys[i]?=some y:=⟨_,List.getElem?_eq_getElem (by omega)⟩
  have gx:(Zg5 xs).toArray[i]?=some (.int .i64 x):=by simp[Zg5,xb]
  have gy:(Zg5 ys).toArray[i]?=some (.int .i64 y):=by simp[Zg5,xd]
  rw[Nat.mul_one]
  simp only[part,Sem.run_bind,a3,Result.andThen_ok,gx,gy]
  have he:(Op.equalIn 9999 3 (.int .i64 x) (.int .i64 y)).run Try.prog w=.ok (x == y) w:=by
   rw[show(9999:Nat)=9998+1 from rfl,Op.equalIn]
   simp[Sem.run_bind,run_underlying u3]
  rw[if_neg (by decide),if_neg (by decide)]
  simp only[Sem.run_pure,Result.andThen_ok,he,xb,xd]
  by_cases xe:x=y
  ·subst xe;simp
  ·simp[xe]
theorem Zgz(q:QS):ZaI q=Zg5 ((List.range 256).map (Zq7 q)):=by simp[ZaI,Zg5]
theorem ZBo{q r:QS}(hq:QOk q)(hr:QOk r):EqIs Try.prog 67 (.agg (ZaI q).toArray) (.agg (ZaI r).toArray) (decide (q=r)):=by
 have h:=ZzU ((List.range 256).map (Zq7 q)) ((List.range 256).map (Zq7 r)) (by simp) (by simp)
 rw[<-Zgz,<-Zgz]at h
 have e:decide ((List.range 256).map (Zq7 q)=(List.range 256).map (Zq7 r))=decide (q=r):=by
  rw[decide_eq_decide]
  constructor
  ·intro e;exact ZrM hq hr (by rw[Zgz,Zgz,e])
  ·rintro rfl;rfl
 rw[e]at h;exact h
theorem ZCc{q:QS}{j:Nat}(hj:j < 4):([.int .u64 q.1,.int .u64 q.2.1,.int .u64 q.2.2.1,.int .u64 q.2.2.2]:List Value)[j]?=some (.int .u64 (Zfj q j)):=by
 have:j=0\/j=1\/j=2\/j=3:=by omega
 rcases this with rfl|rfl|rfl|rfl <;> rfl
def ZoR(q:QS)(k:Nat):List Value:=(List.range 256).map λc=>.int .i64 (if c < k then Zq7 q c else 0)
theorem Zfe(q:QS)(k:Nat):(ZoR q k).length=256:=by simp[ZoR]
theorem Zsj(q:QS){k:Nat}(h:k < 256):Zav (ZoR q k) k [.int .i64 (Zq7 q k)]=ZoR q (k+1):=by
 rw[ZrL (by rw[Zfe];exact h)]
 refine List.ext_getElem? λj=>?_
 by_cases hj:j < 256
 ·by_cases e:j=k
  ·subst e
   rw[List.getElem?_set_self (by rw[Zfe];exact h)]
   simp[ZoR,h]
  ·rw[List.getElem?_set_ne (λx=>e x.symm)]
   simp only[ZoR,List.getElem?_map,List.getElem?_range hj,Option.map_some]
   have:(j < k+1)↔j < k:=by omega
   simp only[this]
 ·rw[List.getElem?_eq_none_iff.2 (by rw[List.length_set,Zfe];omega),List.getElem?_eq_none_iff.2 (by rw[Zfe];omega)]
theorem Zsk(q:QS):List.replicate 256 (Value.int .i64 0)=ZoR q 0:=by
 refine(List.eq_replicate_iff.2 ⟨Zfe q 0,λu hu=>?_⟩).symm
 obtain⟨c,_,rfl⟩:=List.mem_map.1 hu
 rw[if_neg (Nat.not_lt_zero c)]
theorem Zu9(q:QS):ZoR q 256=ZaI q:=by
 unfold ZoR ZaI
 refine List.map_congr_left λc hc=>?_
 rw[if_pos (List.mem_range.1 hc)]
theorem ZwV{w:Int}(h0:0<=w)(i:Nat):Int.tmod ((w.toNat / 2 ^ i:Nat):Int) 2=if w.toNat.testBit i then 1 else 0:=by
 rw[show Int.tmod ((w.toNat / 2 ^ i:Nat):Int) 2=((w.toNat / 2 ^ i % 2:Nat):Int) from rfl,Zye]
 split <;> rfl
theorem ZqH(q:QS):ZbA (ZaI q)=true:=by
 have:∀l:List Value,(∀u∈l,u.oneCell'=true)->ZbA l=true:=by
  intro l
  induction l with
  | nil=>intro _;rfl
  | cons u l ih=>intro h;simp only[ZbA,h u (by simp),Bool.true_and];exact ih λx hx=>h x (by simp[hx])
 exact this _ (Zgt q)
theorem ZwW(q:QS)(hq:QOk q)(m:Mem):CX Try.prog 65 #[.agg #[.int .u64 q.1,.int .u64 q.2.1,.int .u64 q.2.2.1,.int .u64 q.2.2.2]] m [] (Ret (.agg (ZaI q).toArray)):=by
 apply Zj9
 unfold ZfV
 intro b m1 aO _ b1 b2
 refine⟨λxs css _ m' n=>∃k:Nat,k<=256/\xs=[.int .i64 k]/\css=[ZoR q k]/\m.le m'/\n=256 - k,⟨_,0,by omega,rfl,by rw[Zsk q],aO,rfl⟩,?_⟩
 rintro z cs m2 n _ ⟨k,hk,hz,cI,aP,hn⟩
 obtain rfl:z=k:=by simpa using hz
 obtain rfl:cs=ZoR q k:=by simpa using cI
 subst hn
 have e64:Int.tdiv (k:Int) 64=((k / 64:Nat):Int):=rfl
 have em:Int.tmod (k:Int) 64=((k % 64:Nat):Int):=rfl
 refine Zab (λaS=>?_) (λbR=>?_)
 ·have hk':k < 256:=by have:=of_decide_eq_true aS;omega
  have hw:=Zfr hq (k / 64)
  rw[e64,em,ZaA (by omega) (by omega),Int.toNat_natCast,Int.toNat_natCast,Nat.mul_one,Nat.mul_one,Nat.zero_add,Nat.zero_add]
  refine⟨by decide,⟨by omega,by omega⟩,Zas (ZCc (q:=q) (by omega)) ?_⟩
  refine⟨λxs _ _ m' n=>∃i:Nat,i<=k % 64/\xs=[.int .u64 (((Zfj q (k / 64)).toNat / 2 ^ i:Nat):Int),.int .i64 i]/\m2.le m'/\n=k % 64 - i,Zaa rfl ⟨_,0,by omega,?_,Mem.le_refl _,rfl⟩,?_⟩
  ·rw[Nat.pow_zero,Nat.div_one,Int.toNat_of_nonneg hw.1];rfl
  rintro x z m3 n2 aX ⟨i,hi,hx,_,hn⟩
  simp only[List.cons.injEq,Value.int.injEq,true_and,and_true]at hx
  obtain⟨rfl,rfl⟩:=hx
  subst hn
  refine⟨by decide,Zab (λh1=>?_) (λh1=>?_)⟩
  ·have h1':i < k % 64:=by have:=of_decide_eq_true h1;omega
   refine⟨by decide,by trivial,_,by omega,i+1,h1',?_,aX,rfl⟩
   have e2:Int.tdiv (((Zfj q (k / 64)).toNat / 2 ^ i:Nat):Int) 2=(((Zfj q (k / 64)).toNat / 2 ^ (i+1):Nat):Int):=by
    rw[Nat.pow_succ,<-Nat.div_div_eq_div_mul];rfl
   have hb:(Zfj q (k / 64)).toNat / 2 ^ (i+1) < 18446744073709551616:=Nat.lt_of_le_of_lt (Nat.div_le_self _ _) (by omega)
   rw[e2,ZAi _ hb,ZaA (by omega) (by omega)];rfl
  ·have:i=k % 64:=by have:=of_decide_eq_false h1;omega
   subst this
   have pP:IntKind.i64.wrap (Int.tmod (((Zfj q (k / 64)).toNat / 2 ^ (k % 64):Nat):Int) 2)=Zq7 q k:=by
    rw[ZwV hw.1,Zq7,Znr]
    split <;> rfl
   refine⟨by decide,⟨by omega,by omega⟩,Zaa (by rw[Zfe,Nat.ble_eq];omega) ⟨by trivial,_,by omega,k+1,hk',by rw[ZaA (by omega) (by omega)];rfl,?_,mLt aP aX,rfl⟩⟩
   rw[pP,Zsj q hk']
 ·have:k=256:=by have:=of_decide_eq_false bR;omega
  subst this
  rw[Zu9]
  exact Zaa (by rw[Zam,ZqH];rfl) (Zaj aP rfl)
end Go.Proofs.Ytfgfahnakepegaa
set_option linter.unusedVariables false
set_option linter.unusedSimpArgs false
namespace Go.Proofs.Ytfgfahnakepegaa
open Go Go.Eng Go.Rx Go.Proofs Go.RowKit
set_option maxRecDepth 100000
theorem ZyK:∀(t:T)(most:Int)(m:Mem),RepW m t->0<=most->most<=1000000->CX Try.prog 37 #[t.v,.int .i64 most] m [] (Ret (.int .i64 (Ztk t most))):=by
 intro t
 induction hn:SizeOf.sizeOf t using Nat.strongRecOn generalizing t with
 | ind n ih=>
 intro most m hr h0 h1
 obtain⟨aU,bJ,_⟩:=ZlQ.1 hr
 apply Zos
 unfold ZiL
 intro b m1 aO _
 refine⟨λxs _ _ m' q=>∃k:Nat,k<=t.subs.length/\xs=[.int .i64 (Zob t most k),.int .i64 k]/\m.le m'/\q=t.subs.length - k,⟨_,0,Nat.zero_le _,by rw[Zqi t h0];rfl,aO,rfl⟩,?_⟩
 rintro s z m2 q _ ⟨k,hk,hx,aP,hq⟩
 simp only[List.cons.injEq,Value.int.injEq,true_and,and_true]at hx
 obtain⟨rfl,rfl⟩:=hx
 subst hq
 have hb:=ZvK t h0 k
 refine Zab (λaS=>?_) (λbR=>?_)
 ·have aQ:k < t.subs.length:=by have:=of_decide_eq_true aS;omega
  obtain⟨x,hx⟩:=ZaY aQ
  rcases bJ with hs|⟨bb,o,ha,bP⟩
  ·rw[hs]at aQ;simp at aQ
  have hg:=bP.get hx
  refine⟨bb,o,ha,⟨by omega,by omega⟩,_,_,_,_,_,_,_,_,(by rw[Int.toNat_natCast];exact λj v hv=>aP _ _ _ (hg.1 j v hv)),λb2=>Zaa rfl (Zab (λh2=>?_) (λh2=>?_))⟩
  ·have:=of_decide_eq_true h2
   refine Zaj aP ?_
   rw[Zqk this]
  ·have h2':Zob t most k<=most:=by have:=of_decide_eq_false h2;omega
   rw[ZaA (by omega) (by omega)]
   have eK:=Zdk (List.mem_of_getElem? hx)
   refine Zc4 (ih _ (by omega) x rfl (most - Zob t most k) m2 (hg.2.mono aP x) (by omega) (by omega)) λm3 aX=>?_
   have qr:=ZvJ x (most:=most - Zob t most k) (by omega)
   exact⟨by trivial,_,by omega,k+1,aQ,by rw[Zqj hx h2',ZaA (by omega) (by omega),ZaA (by omega) (by omega)];rfl,mLt aP aX,rfl⟩
 ·have:k=t.subs.length:=by have:=of_decide_eq_false bR;omega
  subst this
  refine Zaj aP ?_
  rw[Ztl]
theorem Zbq{k:Int}{q:QS}{mn mx:Int}{a:Option Addr}{n c:Nat}{K:Value->Prop}(h:K (.slice a n c)):Eng.Zvl (rcs k q mn mx a n c) 259 K:=Zas (Zqg k q mn mx a n c) h
theorem Zba{k:Int}{q:QS}{mn mx:Int}{a:Option Addr}{n c:Nat}{K:Value->Prop}(h:K (.int .i64 k)):Eng.Zvl (rcs k q mn mx a n c) 0 K:=Zas (Zo7 k q mn mx a n c) h
theorem ZqI{k:Int}{q:QS}{mn mx:Int}{a:Option Addr}{n c:Nat}{K:Value->Prop}(h:K (.int .i64 mn)):Eng.Zvl (rcs k q mn mx a n c) 257 K:=Zas (Zwy k q mn mx a n c) h
theorem ZqJ{k:Int}{q:QS}{mn mx:Int}{a:Option Addr}{n c:Nat}{K:Value->Prop}(h:K (.int .i64 mx)):Eng.Zvl (rcs k q mn mx a n c) 258 K:=Zas (Zwz k q mn mx a n c) h
theorem ZiS{k:Int}{q:QS}{mn mx:Int}{a:Option Addr}{n c:Nat}{K:Prop}(h:K):chk (Nat.beq (rcs k q mn mx a n c).length 260) K:=Zaa (by rw[Ze8];rfl) h
theorem Ztz:∀(t:T)(cs:List Value)(most:Int)(m:Mem),RefT m t cs->0<=most->most<=1000000->CX Try.prog 84 #[.agg cs.toArray,.int .i64 most] m [] (Ret (.int .i64 (Ztk t most))):=by
 intro t
 induction hn:SizeOf.sizeOf t using Nat.strongRecOn generalizing t with
 | ind n ih=>
 intro cs most m hr h0 h1
 obtain⟨_,aU,a,c,css,rfl,aR,bP,_⟩:=ZaX.1 hr
 apply Zj4
 unfold ZfR
 refine ZiS λb m1 aO _=>?_
 refine⟨λxs _ _ m' q=>∃k:Nat,k<=t.subs.length/\xs=[.int .i64 (Zob t most k),.int .i64 k]/\m.le m'/\q=t.subs.length - k,⟨_,0,Nat.zero_le _,by rw[Zqi t h0];rfl,aO,rfl⟩,?_⟩
 rintro s z m2 q _ ⟨k,hk,hx,aP,hq⟩
 simp only[List.cons.injEq,Value.int.injEq,true_and,and_true]at hx
 obtain⟨rfl,rfl⟩:=hx
 subst hq
 have hb:=ZvK t h0 k
 refine⟨decide (k < t.subs.length)&&decide (Zob t most k<=most),Zbq (Zaa rfl (Zab (λaS=>⟨by trivial,?_⟩) (λbR=>⟨by trivial,?_⟩))),Zab (λh2=>?_) (λh2=>?_)⟩
 ·have aQ:k < t.subs.length:=by have:=of_decide_eq_true aS;simp only[slN]at this;omega
  simp[aQ]
 ·have aQ:¬k < t.subs.length:=by have:=of_decide_eq_false bR;simp only[slN]at this;omega
  simp[aQ]
 ·simp only[Bool.and_eq_true,decide_eq_true_eq]at h2
  obtain⟨aQ,h2'⟩:=h2
  obtain⟨x,hx⟩:=ZaY aQ
  obtain⟨bb,o,cs2,ha,bC,bW⟩:=Zb1 aR bP hx
  refine Zbq (Zaa rfl ⟨bb,o,ha,⟨by omega,by simp only[slN];omega⟩,cs2,bW.len,(by rw[Int.toNat_natCast];exact bC.mono aP),?_⟩)
  rw[ZaA (by omega) (by omega)]
  have eK:=Zdk (List.mem_of_getElem? hx)
  refine Zc4 (ih _ (by omega) x rfl cs2 (most - Zob t most k) m2 (bW.mono aP) (by omega) (by omega)) λm3 aX=>?_
  have qr:=ZvJ x (most:=most - Zob t most k) (by omega)
  exact⟨by trivial,_,by omega,k+1,aQ,by rw[Zqj hx h2',ZaA (by omega) (by omega),ZaA (by omega) (by omega)];rfl,mLt aP aX,rfl⟩
 ·refine Zaj aP ?_
  simp only[Bool.and_eq_false_iff,decide_eq_false_iff_not]at h2
  rcases h2 with h2|h2
  ·have:k=t.subs.length:=by omega
   subst this
   rw[Ztl]
  ·rw[Zqk (by omega)]
theorem Zva(t:T)(cs:List Value)(m:Mem)(hr:RefT m t cs):CX Try.prog 105 #[.agg cs.toArray] m [] (Ret (.bool t.light)):=by
 have hl:=hr.len
 apply Zj5
 unfold ZfS
 refine Zaa (by rw[hl];rfl) λb m1 aO _=>?_
 refine Zc4 (Ztz t cs 10000 m1 (hr.mono aO) (by omega) (by omega)) λm2 aP=>Zaj (mLt aO aP) ?_
 rw[ZrO]
theorem Zo9(t:T)(cs:List Value)(m:Mem)(hr:RefT m t cs):CX Try.prog 44 #[.agg cs.toArray] m [] (Ret (.int .i64 t.size)):=by
 have hl:=hr.len
 apply Zme
 unfold Zhf
 refine Zaa (by rw[hl];rfl) λb m1 aO _=>?_
 refine Zc4 (Ztz t cs 10000 m1 (hr.mono aO) (by omega) (by omega)) λm2 aP=>Zaj (mLt aO aP) ?_
 rw[ZuA]
end Go.Proofs.Ytfgfahnakepegaa
set_option linter.unusedVariables false
set_option linter.unusedSimpArgs false
namespace Go.Proofs.Ytfgfahnakepegaa
open Go Go.Eng Go.Rx Go.Proofs Go.RowKit
set_option maxRecDepth 100000
theorem ZvV(k:Int)(q:QS):List.drop (1+(ZaI q).length) (Zay k)=[.int .i64 0,.int .i64 0,.slice none 0 0]:=by rw[Zam];rfl
theorem ZzV(k:Int)(q:QS):Zav (Zay k) 1 (ZaI q)=rcs (IntKind.i64.wrap k) q 0 0 none 0 0:=by
 unfold Zav
 rw[ZvV];rfl
theorem ZA8(k:Int)(q:QS)(mn mx x:Int)(a:Option Addr)(n c:Nat):Zav (rcs k q mn mx a n c) 257 [.int .i64 x]=rcs k q x mx a n c:=by
 have e:rcs k q mn mx a n c=(.int .i64 k::ZaI q)++[.int .i64 mn,.int .i64 mx,.slice a n c]:=rfl
 have hl:(Value.int .i64 k::ZaI q).length=257:=by simp[Zam]
 unfold Zav
 rw[e,List.take_left' hl,List.drop_append,hl,List.drop_eq_nil_of_le (by rw[hl];simp)]
 simp[rcs]
theorem ZA9(k:Int)(q:QS)(mn mx x:Int)(a:Option Addr)(n c:Nat):Zav (rcs k q mn mx a n c) 258 [.int .i64 x]=rcs k q mn x a n c:=by
 have e:rcs k q mn mx a n c=(Value.int .i64 k::ZaI q++[Value.int .i64 mn])++[Value.int .i64 mx,Value.slice a n c]:=by simp[rcs]
 have hl:(Value.int .i64 k::ZaI q++[Value.int .i64 mn]).length=258:=by simp[Zam]
 unfold Zav
 rw[e,List.take_left' hl,List.drop_append,hl,List.drop_eq_nil_of_le (by rw[hl];simp)]
 simp[rcs]
theorem ZBa(k:Int)(q:QS)(mn mx:Int)(a:Option Addr)(n c:Nat)(a':Option Addr)(n' c':Nat):Zav (rcs k q mn mx a n c) 259 [.slice a' n' c']=rcs k q mn mx a' n' c':=by
 have e:rcs k q mn mx a n c=(Value.int .i64 k::ZaI q++[Value.int .i64 mn,Value.int .i64 mx])++[Value.slice a n c]:=by simp[rcs]
 have hl:(Value.int .i64 k::ZaI q++[Value.int .i64 mn,Value.int .i64 mx]).length=259:=by simp[Zam]
 unfold Zav
 rw[e,List.take_left' hl,List.drop_eq_nil_of_le (by rw[List.length_append,hl];simp)]
 simp[rcs]
theorem ZtA{l:List Value}(h:∀u∈l,u.oneCell'=true):ZbA l=true:=by
 induction l with
 | nil=>rfl
 | cons u l ih=>simp only[ZbA,h u (by simp),Bool.true_and];exact ih λx hx=>h x (by simp[hx])
theorem ZBb(q:QS)(x y z:Value):List.take 256 (List.append (ZaI q) [x,y,z])=ZaI q:=List.take_left' (Zam q)
theorem ZBc(q:QS)(x y z:Value):List.drop 257 (List.append (ZaI q) [x,y,z])=[y,z]:=by
 show List.drop 257 (ZaI q++[x,y,z])=_
 rw[List.drop_append,Zam,List.drop_eq_nil_of_le (by rw[Zam];omega)];rfl
theorem ZBd(q:QS)(x:Value)(l:List Value):List.append (List.append (ZaI q) [x]) l=ZaI q++(x::l):=by
 show(ZaI q++[x])++l=_
 simp
theorem ZBe(q:QS)(x y z:Value):List.take 257 (ZaI q++[x,y,z])=ZaI q++[x]:=by
 rw[List.take_append,Zam,List.take_of_length_le (by rw[Zam];omega)];rfl
theorem ZBf(q:QS)(x y z:Value):List.drop 258 (ZaI q++[x,y,z])=[z]:=by
 rw[List.drop_append,Zam,List.drop_eq_nil_of_le (by rw[Zam];omega)];rfl
set_option maxHeartbeats 1600000 in
theorem Zmj:∀(t:T)(m:Mem),Rep m t->t.nodes.length<=1000000->CX Try.prog 39 #[t.v] m [] (λv m' _=>∃cs,v=.agg cs.toArray/\RefT m' t cs):=by
 intro t
 induction hn:SizeOf.sizeOf t using Nat.strongRecOn generalizing t with
 | ind n ih=>
 intro m hr bA
 have dX:=Zp1 t
 obtain⟨aU,bJ⟩:=ZgZ hr
 have aZ:=Zwl hr
 have hq:=Zti aZ
 apply ZiQ
 unfold Zfc
 intro b m1 aO _ b1
 refine⟨λ_ _ _=>Ret (.agg (ZaI t.q).toArray),_,rfl,ZwW t.q hq m1,λv _ _ h=>by rw[h];rfl,?_⟩
 intro cs m2 aP hv
 have hv:Value.agg (Array.mk cs)=.agg (ZaI t.q).toArray:=hv
 simp only[Value.agg.injEq,Array.mk.injEq]at hv
 subst hv
 have vo:IntKind.i64.wrap t.k=t.k:=ZaA (by have:=aZ.k.1;omega) (by have:=aZ.k.2;omega)
 generalize hd:List.drop _ (Zay t.k)=d
 obtain rfl:d=[.int .i64 0,.int .i64 0,.slice none 0 0]:=by rw[<-hd];exact ZvV t.k t.q
 clear hd
 generalize he:List.append (List.append (List.take 256 (List.append (ZaI t.q) _)) _) _=e
 obtain rfl:e=ZaI t.q++[.int .i64 t.mn,.int .i64 0,.slice none 0 0]:=by
  rw[<-he]
  exact(congr (congrArg (λu w=>List.append (List.append u [Value.int .i64 t.mn]) w) (ZBb _ _ _ _)) (ZBc _ _ _ _)).trans (ZBd _ _ _)
 clear he
 generalize hf:List.append (List.append (List.take 257 _) _) _=f
 obtain rfl:f=((ZaI t.q++[.int .i64 t.mn])++[.int .i64 t.mx])++[.slice none 0 0]:=by
  rw[<-hf]
  exact congr (congrArg (λu w=>List.append (List.append u [Value.int .i64 t.mx]) w) (ZBe _ _ _ _)) (ZBf _ _ _ _)
 clear hf
 refine Zaa (by rw[Zam];rfl) (Zaa (by simp[Zam]) (Zaa (by simp[Zam]) λb2=>Zaa ?_ ?_))
 ·rw[Bool.and_eq_true]
  refine⟨by simp[Zam],ZtA λu hu=>?_⟩
  simp only[List.append_assoc,List.mem_append,List.mem_cons,List.not_mem_nil,or_false]at hu
  rcases hu with hu|hu
  ·exact Zgt _ u hu
  ·rcases hu with rfl|rfl|rfl <;> rfl
 intro M dS eC
 have nV:=mLt aO dS
 refine⟨λxs css tvs m' q=>∃(k:Nat)(a:Option Addr)(c:Nat) (R:List (List Value)),k<=t.subs.length/\xs=[.int .i64 k]/\css=[rcs t.k t.q t.mn t.mx a k c]/\tvs=[.slice a k c]/\m.le m'/\rowRd m' a R.flatten/\RefAt m' (t.subs.take k) R/\k<=c/\q=t.subs.length - k,
  ⟨_,0,none,0,[],Nat.zero_le _,rfl,?_,rfl,nV,.inl rfl,by simp only[List.take_zero,RefAt],Nat.le_refl _,rfl⟩,?_⟩
 ·rw[ZzV,ZA8,ZA9,vo]
 rintro z cs a n1 c m3 q _ ⟨k,a',c',R,hk,hz,cI,cF,aX,aR,bP,me,qw⟩
 obtain rfl:z=k:=by simpa using hz
 obtain rfl:cs=rcs t.k t.q t.mn t.mx a' k c':=by simpa using cI
 simp only[List.cons.injEq,Value.slice.injEq,and_true]at cF
 obtain⟨rfl,rfl,rfl⟩:=cF
 subst qw
 refine Zab (λaS=>?_) (λbR=>?_)
 ·have aQ:n1 < t.subs.length:=by have:=of_decide_eq_true aS;omega
  obtain⟨x,hx⟩:=ZaY aQ
  rcases bJ with hs|⟨bb,o,ha,vt⟩
  ·rw[hs]at aQ;simp at aQ
  have hg:=vt.get hx
  have bB:=Zus (List.mem_of_getElem? hx)
  have eK:=Zdk (List.mem_of_getElem? hx)
  refine⟨bb,o,ha,⟨by omega,by omega⟩,.int .u8 x.k,.int .u64 x.s0,.int .u64 x.s1,.int .u64 x.s2,.int .u64 x.s3,.int .i64 x.mn,.int .i64 x.mx,.slice x.a x.subs.length x.c,(by rw[Int.toNat_natCast];exact λj v hv=>aX _ _ _ (hg.1 j v hv)),λb4=>Zaa rfl ⟨λ_ _ _=>(λv m' _=>∃cs:List Value,v=.agg cs.toArray/\RefT m' x cs),Zbq ⟨_,rfl,ih _ (by omega) x rfl m3 (hg.2.mono aX x) (by omega),λv _ _ ⟨_,h,_⟩=>by rw[h];rfl,?_⟩⟩⟩
  intro cs1 m4 bK hR
  obtain⟨cs2,xf,bW⟩:∃cs,Value.agg (Array.mk cs1)=.agg cs.toArray/\RefT m4 x cs:=hR
  simp only[Value.agg.injEq,Array.mk.injEq]at xf
  subst xf
  have sx:=bW.len
  refine Zaa (by rw[sx];rfl) λb5 zj=>Zaa rfl ?_
  have vu:=Mem.le_add zj (List.append cs1 [])
  have dH:rowRd (m4.add b5 (List.append cs1 [])) (some ⟨b5,0,none⟩) cs1:=.inr ⟨b5,0,rfl,λj u hj=>by rw[Nat.zero_add,Mem.add_same];show(cs1++[])[j]?=_;rw[List.append_nil];exact hj⟩
  have fJ:=ZbU bP.all
  have iC:=bP.len
  rw[List.length_take,Nat.min_eq_left (by omega)]at iC
  refine⟨.inl rfl,R.flatten,cs1,by rw[fJ,iC];rfl,by rw[sx],(aR.mono bK).mono vu,dH,bW.one,by simp only[slN];omega,by simp only[slN];omega,λa7 c7 m7 dA eW lM=>Zaa (by rw[Ze8];rfl) λM2 tn qK vv zk=>⟨by trivial,t.subs.length - (n1+1),by omega,n1+1,a7,c7,R++[cs1],by omega,?_,?_,rfl,mLt aX tn,?_,?_,by simpa[slN]using lM,rfl⟩⟩
  ·rw[ZaA (by omega) (by omega)];rfl
  ·simp only[slN]
   rw[ZBa]
  ·rw[List.flatten_append,List.flatten_singleton];exact eW.mono zk
  ·have e:t.subs.take (n1+1)=t.subs.take n1++[x]:=by rw[List.take_add_one,hx];rfl
   rw[e]
   exact(bP.mono tn).snoc (bW.mono qK)
 ·have:n1=t.subs.length:=by have:=of_decide_eq_false bR;omega
  subst this
  rw[List.take_length]at bP
  refine Zaa (by rw[Ze8,ZtA (Zqh _ _ _ _ _ _ _)];rfl) ⟨m3,aX,Mem.le_refl _,_,rfl,ZaX.2 ⟨aZ,by omega,a,c,R,rfl,aR,bP,me⟩⟩
theorem ZnJ(mn mx:Int)(m:Mem):CX Try.prog 117 #[.int .i64 mn,.int .i64 mx] m [] (Ret (.bool (Zcc mn mx))):=by
 apply ZiR
 unfold Zfd
 rw[<-ZA0]
 have n1:∀{p:Prop} [Decidable p],decide p=false->¬p:=λh=>of_decide_eq_false h
 refine⟨!decide (0<=mn/\mn<=16),Zab (λh=>?_) (λh=>?_),Zab (λh=>Zaj (Mem.le_refl _) ?_) (λh=>?_)⟩
 ·have:=of_decide_eq_true h
  rw[decide_eq_false (p:=0<=mn/\mn<=16) (by omega)];rfl
 ·have:=n1 h
  have e:decide (mn > 16)=!decide (0<=mn/\mn<=16):=by rw[Bool.eq_iff_iff];simp;omega
  rw[e]
 ·have:decide (0<=mn/\mn<=16)=false:=by rw[<-Bool.not_not (decide _),h];rfl
  rw[this];rfl
 ·have:decide (0<=mn/\mn<=16)=true:=by rw[<-Bool.not_not (decide _),h];rfl
  rw[this]
  refine Zab (λh2=>Zaj (Mem.le_refl _) (by rw[h2];rfl)) (λh2=>⟨decide (0 < mx)&&(decide (mx < 17)&&(decide (mn<=mx)&&!(mn == 1&&mx == 1))),?_,Zaj (Mem.le_refl _) (by rw[h2];rfl)⟩)
  refine Zab (λa=>Zab (λb=>Zab (λc=>Zab (λd=>?_) (λd=>?_)) (λc=>?_)) (λb=>?_)) (λa=>?_)
  all_goals simp_all
  all_goals omega
end Go.Proofs.Ytfgfahnakepegaa
set_option linter.unusedVariables false
set_option linter.unusedSimpArgs false
namespace Go.Proofs.Ytfgfahnakepegaa
open Go Go.Eng Go.Rx Go.Proofs Go.RowKit
set_option maxRecDepth 100000
theorem ZtB:List.replicate 256 (Value.int .i64 0)=ZaI (0,0,0,0):=by
 refine(List.eq_replicate_iff.2 ⟨Zam _,λu hu=>?_⟩).symm
 unfold ZaI at hu
 obtain⟨c,_,rfl⟩:=List.mem_map.1 hu
 have:Zxo (0,0,0,0) c=false:=by rw[Znr];unfold Zfj;split <;> simp
 unfold Zq7
 rw[this];rfl
theorem ZzW(t:T):decide (t.q=(0,0,0,0))=t.setZ:=by
 unfold T.q T.setZ
 rw[Bool.eq_iff_iff]
 simp[Prod.ext_iff,and_assoc]
theorem ZyL{t:T}(hq:QOk t.q)(mn mx:Int)(a:Option Addr)(n c:Nat):EqIs Try.prog 67 (.agg (List.take 256 (List.drop 1 (rcs t.k t.q mn mx a n c))).toArray) (.agg (List.replicate 256 (Value.int .i64 0)).toArray) t.setZ:=by
 rw[ZkU,ZtB,<-ZzW]
 exact ZBo hq (by unfold QOk;exact⟨⟨by decide,by decide⟩,⟨by decide,by decide⟩,⟨by decide,by decide⟩,⟨by decide,by decide⟩⟩)
theorem ZwX{m:Mem}{b o:Nat}{cs:List Value}(h:m.reads b o cs){v:Value}(hv:cs[0]?=some v):m b (o+0)=some v:=h 0 v hv
theorem ZbF{p:Prop} [Decidable p]{A B:Prop}(ht:p->A)(hf:¬p->B):br (decide p) A B:=Zab (λh=>ht (of_decide_eq_true h)) (λh=>hf (of_decide_eq_false h))
set_option maxHeartbeats 4000000 in
theorem Zvb:∀(t:T)(cs:List Value)(m:Mem),RefT m t cs->CX Try.prog 106 #[.agg cs.toArray] m [] (Ret (.bool t.good)):=by
 intro t
 induction hn:SizeOf.sizeOf t using Nat.strongRecOn generalizing t with
 | ind n ih=>
 intro cs m hr
 obtain⟨aZ,aU,a,c,css,rfl,aR,bP,_⟩:=ZaX.1 hr
 have jF:=ZwA t
 apply Zj7
 unfold ZfT
 refine ZiS λb m1 aO _ b1=>Zba (Zaa rfl (Zab (λh1=>Zaj aO ?_) (λh1=>Zba (Zaa rfl (Zab (λh2=>Zaj aO ?_) (λh2=>Zba (Zaa rfl (Zaa (by rw[Ze8];rfl) ⟨t.setZ,ZyL (Zti aZ) _ _ _ _ _,Zab (λh3=>Zaj aO ?_) (λh3=>⟨!(if t.k=5 then Zcc t.mn t.mx else t.mn == 0&&t.mx == 0),?_,Zab (λh4=>Zaj aO ?_) (λh4=>Zbq (Zaa rfl ⟨!(if t.k < 3 then t.subs.length == 0 else if t.k < 5 then decide (2<=t.subs.length)else t.subs.length == 1),?_,Zab (λh5=>Zaj aO ?_) (λh5=>?_)⟩))⟩)⟩))))))))
 ·have:t.k < 1:=of_decide_eq_true h1
  rw[jF,Zyg,decide_eq_false (p:=1<=t.k) (by omega)];simp
 ·have:t.k > 6:=of_decide_eq_true h2
  rw[jF,Zyg,decide_eq_false (p:=t.k<=6) (by omega)];simp
 ·have h3':(!(t.k == 2) == !t.setZ)=true:=h3
  have:((t.k == 2) == !t.setZ)=false:=by
   revert h3'
   cases t.k == 2 <;> cases t.setZ <;> decide
  rw[jF,Zyg,this];simp
 ·refine Zba (Zaa rfl (Zab (λh=>ZqI (ZqJ ?_)) (λh=>?_)))
  ·have h':t.k=5:=eq_of_beq h
   rw[if_pos h']
   refine Zak (ZnJ t.mn t.mx m1) λm2 aP=>Zab (λhb=>⟨by trivial,by rw[hb]⟩) (λhb=>Zba (Zaa rfl (Zab (λhk=>?_) (λhk=>⟨by trivial,?_⟩))))
   ·exact absurd h' (by simpa[intOf]using hk)
   ·have:Zcc t.mn t.mx=true:=by rw[<-Bool.not_not (Zcc _ _),hb];rfl
    rw[this];rfl
  ·have h':¬t.k=5:=λe=>by rw[show(intOf (.int .i64 t.k) == 5)=(t.k == 5) from rfl,e]at h;cases h
   rw[if_neg h']
   refine Zba (Zaa rfl (Zab (λhk=>ZqI (Zaa rfl (Zab (λhm=>⟨by trivial,?_⟩) (λhm=>ZqJ (Zaa rfl ⟨by trivial,?_⟩))))) (λhk=>?_)))
   ·have:(!t.mn == 0)=true:=hm
    cases hx:t.mn == 0 <;> simp_all
   ·have:(!t.mn == 0)=false:=hm
    show[Value.bool (!t.mx == 0)]=_
    cases hx:t.mn == 0 <;> simp_all
   ·have:(!t.k == 5)=false:=hk
    simp at this;exact absurd this h'
 ·rw[jF,Zyg]
  have:(if t.k=5 then Zcc t.mn t.mx else t.mn == 0&&t.mx == 0)=false:=by rw[<-Bool.not_not (ite _ _ _),h4];rfl
  rw[ZA0,this];simp
 ·obtain⟨K,hK⟩:∃K,K=t.k:=⟨_,rfl⟩
  obtain⟨N,hN⟩:∃N,N=t.subs.length:=⟨_,rfl⟩
  rw[<-hK,<-hN]
  refine Zba (Zaa rfl (ZbF (λg1=>ZbF (λg2=>?_) (λg2=>?_)) (λg1=>?_)))
  ·(refine⟨by trivial,?_⟩;simp only[intOf,slN,decide_eq_true_eq,decide_eq_false_iff_not,gt_iff_lt,Int.not_lt]at *;(repeat' split) <;> first|omega|(simp;done)|(simp;omega)|(simp only[List.cons.injEq,Value.bool.injEq,and_true];rw[Bool.eq_iff_iff];simp;omega))
  all_goals refine Zba (Zaa rfl (ZbF (λg3=>Zba (Zaa rfl (ZbF (λg4=>ZbF (λg5=>?_) (λg5=>Zba (Zaa rfl (ZbF (λg6=>?_) (λg6=>?_))))) (λg4=>Zba (Zaa rfl (ZbF (λg6=>?_) (λg6=>?_))))))) (λg3=>Zba (Zaa rfl (ZbF (λg6=>?_) (λg6=>?_))))))
  all_goals (refine⟨by trivial,?_⟩;simp only[intOf,slN,decide_eq_true_eq,decide_eq_false_iff_not,gt_iff_lt,Int.not_lt]at *;(repeat' split) <;> first|omega|(simp;done)|(simp;omega)|(simp only[List.cons.injEq,Value.bool.injEq,and_true];rw[Bool.eq_iff_iff];simp;omega))
 ·rw[jF,Zyg]
  have:(if t.k < 3 then t.subs.length == 0 else if t.k < 5 then decide (2<=t.subs.length)else t.subs.length == 1)=false:=by rw[<-Bool.not_not (ite _ _ _),h5];rfl
  rw[this];simp
 ·have hN:Zyg t=true:=by
   have e1:decide (1<=t.k)=true:=by have:=of_decide_eq_false h1;exact decide_eq_true (by simp only[intOf]at this;omega)
   have e2:decide (t.k<=6)=true:=by have:=of_decide_eq_false h2;exact decide_eq_true (by simp only[intOf]at this;omega)
   have e3:((t.k == 2) == !t.setZ)=true:=by
    have h3':(!(t.k == 2) == !t.setZ)=false:=h3
    revert h3'
    cases t.k == 2 <;> cases t.setZ <;> decide
   have e4:(if t.k=5 then Zcc t.mn t.mx else t.mn == 0&&t.mx == 0)=true:=by rw[<-Bool.not_not (ite _ _ _),h4];rfl
   have e5:(if t.k < 3 then t.subs.length == 0 else if t.k < 5 then decide (2<=t.subs.length)else t.subs.length == 1)=true:=by rw[<-Bool.not_not (ite _ _ _),h5];rfl
   rw[Zyg,ZA0,e1,e2,e3,e4,e5];rfl
  rw[hN,Bool.true_and]at jF
  refine⟨λxs _ _ m' q=>∃k:Nat,k<=t.subs.length/\xs=[.int .i64 k]/\m.le m'/\((t.subs.take k).all λx=>ZlS t.k x&&x.good)=true/\q=t.subs.length - k,⟨_,0,Nat.zero_le _,rfl,aO,rfl,rfl⟩,?_⟩
  rintro z m2 q _ ⟨k,hk,hx,aP,aV,hq⟩
  obtain rfl:z=k:=by simpa using hx
  subst hq
  refine Zab (λaS=>?_) (λbR=>?_)
  ·have aQ:k < t.subs.length:=by have:=of_decide_eq_true aS;simp only[slN]at this;omega
   obtain⟨x,hx⟩:=ZaY aQ
   obtain⟨bb,o,cs2,ha,bC,bW⟩:=Zb1 aR bP hx
   have eK:=Zdk (List.mem_of_getElem? hx)
   have mT:m2.reads bb (o+k*260) cs2:=bC.mono aP
   obtain⟨_,_,a2,c2,css2,rJ,_,_,_⟩:=ZaX.1 bW
   have h0:cs2[0]?=some (.int .i64 x.k):=by rw[rJ];exact Zo7 _ _ _ _ _ _ _
   have dB:Zad k (slN (.slice a t.subs.length c)):=⟨by omega,by simp only[slN];omega⟩
   have cQ:∀{K:Prop},K->K:=λh=>h
   have go:∀(P:Prop),(∀(m':Mem),m2.le m'->P)->True:=λ_ _=>trivial
   refine Zbq (Zaa rfl ⟨bb,o,ha,dB,.int .i64 x.k,ZwX (by rw[Int.toNat_natCast];exact mT) h0,!(ZlS t.k x&&x.good),?_,Zab (λhb=>Zaj aP ?_) (λhb=>⟨by trivial,_,by omega,k+1,aQ,by rw[ZaA (by omega) (by omega)];rfl,aP,?_,rfl⟩)⟩)
   ·repeat' (first|refine Zba (Zaa rfl (Zab (λ_=>?_) (λ_=>?_)))|refine Zaa rfl (Zab (λ_=>?_) (λ_=>?_))|(refine And.intro rfl ?_;simp_all [intOf,ZlS];done))
    all_goals refine Zbq (Zaa rfl ⟨bb,o,ha,dB,cs2,bW.len,(by rw[Int.toNat_natCast];exact mT),Zak (ih _ (by omega) x rfl cs2 m2 (bW.mono aP)) λm3 aX=>?_⟩)
    all_goals (refine And.intro rfl ?_;simp_all [intOf,ZlS];done)
   ·have hb':(ZlS t.k x&&x.good)=false:=by rw[<-Bool.not_not (ZlS _ _&&_),hb];rfl
    rw[jF]
    have:(t.subs.all λx=>ZlS t.k x&&x.good)=false:=by
     rw[Bool.eq_false_iff]
     intro hh
     rw[List.all_eq_true.1 hh x (List.mem_of_getElem? hx)]at hb';cases hb'
    rw[this]
   ·have hb':(ZlS t.k x&&x.good)=true:=by rw[<-Bool.not_not (ZlS _ _&&_),hb];rfl
    rw[List.take_add_one,hx,Option.toList_some,List.all_append,aV]
    simpa using hb'
  ·have:k=t.subs.length:=by have:=of_decide_eq_false bR;simp only[slN]at this;omega
   subst this
   rw[List.take_length]at aV
   exact Zaj aP (by rw[jF,aV])
end Go.Proofs.Ytfgfahnakepegaa
set_option linter.unusedVariables false
set_option linter.unusedSimpArgs false
namespace Go.Proofs.Ytfgfahnakepegaa
open Go Go.Eng Go.Rx Go.Proofs Go.RowKit
set_option maxRecDepth 100000
theorem ZdE{x y:Int}{A B:Prop}(ht:x=y->A)(hf:¬x=y->B):br (x == y) A B:=Zab (λh=>ht (eq_of_beq h)) (λh=>hf λe=>by rw[e]at h;simp at h)
theorem ZgA(t:T)(cs:List Value)(m:Mem)(hr:RefT m t cs):CX Try.prog 79 #[.agg cs.toArray] m [] (Ret (.bool t.clean)):=by
 have hl:=hr.len
 apply Zj8
 unfold ZfU
 refine Zaa (by rw[hl];rfl) λb m1 aO _=>⟨t.clean,?_,Zaj aO rfl⟩
 refine Zak (Zva t cs m1 (hr.mono aO)) λm2 aP=>Zab (λh=>?_) (λh=>⟨by trivial,by unfold T.clean;rw[h];rfl⟩)
 exact Zak (Zvb t cs m2 ((hr.mono aO).mono aP)) λm3 aX=>⟨by trivial,by unfold T.clean;rw[h];rfl⟩
end Go.Proofs.Ytfgfahnakepegaa
set_option linter.unusedVariables false
set_option linter.unusedSimpArgs false
namespace Go.Proofs.Ytfgfahnakepegaa
open Go Go.Eng Go.Rx Go.Proofs Go.RowKit
set_option maxRecDepth 100000
end Go.Proofs.Ytfgfahnakepegaa
set_option linter.unusedVariables false
set_option linter.unusedSimpArgs false
namespace Go.Proofs.Ytfgfahnakepegaa
open Go Go.Eng Go.Rx Go.Proofs Go.RowKit
set_option maxRecDepth 100000
end Go.Proofs.Ytfgfahnakepegaa
set_option linter.unusedVariables false
set_option linter.unusedSimpArgs false
namespace Go.Proofs.Ytfgfahnakepegaa
open Go Go.Eng Go.Rx Go.Proofs Go.RowKit
set_option maxRecDepth 100000
end Go.Proofs.Ytfgfahnakepegaa
