/- Part of the proof: conditions and contracts of functions of this program. No condition of its own. -/
import Derived.Test.YtfgfahnakepegaaGreatPEnv
import Derived.Test.YtfgfahnakepegaaGreatPC13P
import Derived.Test.YtfgfahnakepegaaGreatMc
import Derived.Test.YtfgfahnakepegaaGreatMr
import Derived.Test.YtfgfahnakepegaaGreatPVRT
set_option linter.unusedVariables false
set_option linter.unusedSimpArgs false
set_option linter.unusedSectionVars false
noncomputable section
namespace Go.Proofs.YtfgfahnakepegaaGreat
open Go Go.Eng Go.Proofs Go.RowKit
open Go.Value (int slice agg bool string tuple func)
open Go.IntKind (u8 u64 i64)
set_option maxRecDepth 100000
def Zp4:Env:={ EB with
 loops:=swI nLa [(3,⟨[(5,.int .i64),(11,.int .i64)],[],[],false⟩)]
 frzNew:=[2] }
theorem ZnR(aD aE aF aG aJ aH aI:Int)(aB:Option Addr)(aA aC:Nat)(p1:Int)(m:Mem)(R:RT)(h:
 lV [int u8 aD,int u64 aE,int u64 aF,int u64 aG,int u64 aJ,int i64 aH,int i64 aI,slice aB aA aC] λxL=>fzM m xL λb m'=>∃I,inI I [int i64 1,int i64 0] [] [] m'/\∀n n_1 m'_1 (n_2:Nat),lX
 (int i64 n) λyL=>m'.le m'_1->I [yL,int i64 n_1] [] [] m'_1 n_2->br (decide (n_1 < (↑aA:Int))) (atA aB λb_1 o=>Zaf n_1 aA/\∃v v_1 v_2 v_3 v_4 v_5 v_6 v_7:Value,lV [v,v_1,v_2,v_3,v_4,v_5,v_6,
 v_7] λxL_1=>m'_1.reads b_1 (o+Int.toNat n_1*8) xL_1/\∀(b_2:Nat),chk (v.oneCell'&&(v_1.oneCell'&&(v_2.oneCell'&&(v_3.oneCell'&&(v_4.oneCell'&&(v_5.oneCell'&&(v_6.oneCell'&&(v_7.oneCell'&&true))))))))
 (br (decide (n > p1)) (rtM m m'_1 R yL) (kI pG 77 [agg (.mk xL_1),int i64 (i64.wrap (p1 - n))] m'_1 λn_3 m'=>Zab [some (Box.mk b xL 27 8 true true)]/\nxI n_2 I [int i64 (i64.wrap (n+n_3)),int i64 (i64.wrap (n_1+1))]
 [] [] m'))) (rtM m m'_1 R yL)):CX Tryz.prog 77 #[.agg #[.int .u8 aD,.int .u64 aE,.int .u64 aF,.int .u64 aG,.int .u64 aJ,.int .i64 aH,.int .i64 aI,.slice aB aA aC],.int .i64 p1] m [] R:=
 Zad (E:=Zp4) Zay mix Tryz.func77 [.v (.agg #[.int .u8 aD,.int .u64 aE,.int .u64 aF,.int .u64 aG,.int .u64 aJ,.int .i64 aH,.int .i64 aI,.slice aB aA aC]),.v (.int .i64 p1)] [] (by kernel_rfl) (Eq.mp (by kernel_rfl) h)
def ZjC:Env:={ EB with
 loops:=swI nLa [(3,⟨[(20,.int .i64)],[3],[(29,260)],false⟩)]
 dr:=swI [] [(1,[⟨0,[1],[],none,[],[]⟩,⟨1,[1],[],none,[0],[]⟩,dO 2 [0,1],⟨3,[1],[],none,[],[]⟩,⟨4,[1],[],none,[3],[]⟩,dO 5 [3,4],⟨6,[1],[],none,[],[]⟩,⟨7,[1],[],none,[6],[]⟩,⟨8,[1],[],none,[],[]⟩,⟨9,[1],[],none,[8],[]⟩,dO 10 [0,1,2,3,4,5,6,7,8,9],⟨11,[3],[3],none,[],[]⟩,⟨12,[3],[3],none,rg 0 12,[]⟩]),(5,[⟨0,[3],[],none,[],[]⟩,⟨1,[3],[],none,[0],[]⟩,⟨2,[5],[],none,[],[]⟩,dO 3 [2],⟨4,[28],[28],none,[2,3],[3]⟩,⟨5,[28],[],some 29,[0,1,2,3,4],[4]⟩,⟨6,[3],[],none,[0,1,2,3,4,5],[]⟩,⟨7,[3],[3],none,[0,1,2,3,4,5,6],[]⟩])]
 tokOf:=swI 0 [(29,29)]
 frzNew:=[1]
 capF:=true }
abbrev Zaz(aD:Int):List Value:=[int i64 (i64.wrap aD),int i64 0,int i64 0,int i64 0,int i64 0,int i64 0,int i64 0,int i64 0,int i64 0,int i64 0,int i64 0,int i64 0,int i64 0,
 int i64 0,int i64 0,int i64 0,int i64 0,int i64 0,int i64 0,int i64 0,int i64 0,int i64 0,int i64 0,int i64 0,int i64 0,int i64 0,int i64 0,int i64 0,int i64 0,int i64 0,int i64 0,int i64 0,int i64 0,
 int i64 0,int i64 0,int i64 0,int i64 0,int i64 0,int i64 0,int i64 0,int i64 0,int i64 0,int i64 0,int i64 0,int i64 0,int i64 0,int i64 0,int i64 0,int i64 0,int i64 0,int i64 0,int i64 0,int i64 0,
 int i64 0,int i64 0,int i64 0,int i64 0,int i64 0,int i64 0,int i64 0,int i64 0,int i64 0,int i64 0,int i64 0,int i64 0,int i64 0,int i64 0,int i64 0,int i64 0,int i64 0,int i64 0,int i64 0,int i64 0,
 int i64 0,int i64 0,int i64 0,int i64 0,int i64 0,int i64 0,int i64 0,int i64 0,int i64 0,int i64 0,int i64 0,int i64 0,int i64 0,int i64 0,int i64 0,int i64 0,int i64 0,int i64 0,int i64 0,int i64 0,
 int i64 0,int i64 0,int i64 0,int i64 0,int i64 0,int i64 0,int i64 0,int i64 0,int i64 0,int i64 0,int i64 0,int i64 0,int i64 0,int i64 0,int i64 0,int i64 0,int i64 0,int i64 0,int i64 0,int i64 0,
 int i64 0,int i64 0,int i64 0,int i64 0,int i64 0,int i64 0,int i64 0,int i64 0,int i64 0,int i64 0,int i64 0,int i64 0,int i64 0,int i64 0,int i64 0,int i64 0,int i64 0,int i64 0,int i64 0,int i64 0,
 int i64 0,int i64 0,int i64 0,int i64 0,int i64 0,int i64 0,int i64 0,int i64 0,int i64 0,int i64 0,int i64 0,int i64 0,int i64 0,int i64 0,int i64 0,int i64 0,int i64 0,int i64 0,int i64 0,int i64 0,
 int i64 0,int i64 0,int i64 0,int i64 0,int i64 0,int i64 0,int i64 0,int i64 0,int i64 0,int i64 0,int i64 0,int i64 0,int i64 0,int i64 0,int i64 0,int i64 0,int i64 0,int i64 0,int i64 0,int i64 0,
 int i64 0,int i64 0,int i64 0,int i64 0,int i64 0,int i64 0,int i64 0,int i64 0,int i64 0,int i64 0,int i64 0,int i64 0,int i64 0,int i64 0,int i64 0,int i64 0,int i64 0,int i64 0,int i64 0,int i64 0,
 int i64 0,int i64 0,int i64 0,int i64 0,int i64 0,int i64 0,int i64 0,int i64 0,int i64 0,int i64 0,int i64 0,int i64 0,int i64 0,int i64 0,int i64 0,int i64 0,int i64 0,int i64 0,int i64 0,int i64 0,
 int i64 0,int i64 0,int i64 0,int i64 0,int i64 0,int i64 0,int i64 0,int i64 0,int i64 0,int i64 0,int i64 0,int i64 0,int i64 0,int i64 0,int i64 0,int i64 0,int i64 0,int i64 0,int i64 0,int i64 0,
 int i64 0,int i64 0,int i64 0,int i64 0,int i64 0,int i64 0,int i64 0,int i64 0,int i64 0,int i64 0,int i64 0,int i64 0,int i64 0,int i64 0,int i64 0,int i64 0,int i64 0,int i64 0,int i64 0,int i64 0,
 int i64 0,int i64 0,int i64 0,int i64 0,int i64 0,int i64 0,slice none 0 0]
abbrev Zh9:List Value:=[int i64 0,int i64 0,int i64 0,int i64 0,int i64 0,int i64 0,int i64 0,int i64 0,int i64 0,int i64 0,int i64 0,int i64 0,int i64 0,int i64 0,int i64 0,int i64 0,int
 i64 0,int i64 0,int i64 0,int i64 0,int i64 0,int i64 0,int i64 0,int i64 0,int i64 0,int i64 0,int i64 0,int i64 0,int i64 0,int i64 0,int i64 0,int i64 0,int i64 0,int i64 0,int i64 0,int i64 0,int
 i64 0,int i64 0,int i64 0,int i64 0,int i64 0,int i64 0,int i64 0,int i64 0,int i64 0,int i64 0,int i64 0,int i64 0,int i64 0,int i64 0,int i64 0,int i64 0,int i64 0,int i64 0,int i64 0,int i64 0,int
 i64 0,int i64 0,int i64 0,int i64 0,int i64 0,int i64 0,int i64 0,int i64 0,int i64 0,int i64 0,int i64 0,int i64 0,int i64 0,int i64 0,int i64 0,int i64 0,int i64 0,int i64 0,int i64 0,int i64 0,int
 i64 0,int i64 0,int i64 0,int i64 0,int i64 0,int i64 0,int i64 0,int i64 0,int i64 0,int i64 0,int i64 0,int i64 0,int i64 0,int i64 0,int i64 0,int i64 0,int i64 0,int i64 0,int i64 0,int i64 0,int
 i64 0,int i64 0,int i64 0,int i64 0,int i64 0,int i64 0,int i64 0,int i64 0,int i64 0,int i64 0,int i64 0,int i64 0,int i64 0,int i64 0,int i64 0,int i64 0,int i64 0,int i64 0,int i64 0,int i64 0,int
 i64 0,int i64 0,int i64 0,int i64 0,int i64 0,int i64 0,int i64 0,int i64 0,int i64 0,int i64 0,int i64 0,int i64 0,int i64 0,int i64 0,int i64 0,int i64 0,int i64 0,int i64 0,int i64 0,int i64 0,int
 i64 0,int i64 0,int i64 0,int i64 0,int i64 0,int i64 0,int i64 0,int i64 0,int i64 0,int i64 0,int i64 0,int i64 0,int i64 0,int i64 0,int i64 0,int i64 0,int i64 0,int i64 0,int i64 0,int i64 0,int
 i64 0,int i64 0,int i64 0,int i64 0,int i64 0,int i64 0,int i64 0,int i64 0,int i64 0,int i64 0,int i64 0,int i64 0,int i64 0,int i64 0,int i64 0,int i64 0,int i64 0,int i64 0,int i64 0,int i64 0,int
 i64 0,int i64 0,int i64 0,int i64 0,int i64 0,int i64 0,int i64 0,int i64 0,int i64 0,int i64 0,int i64 0,int i64 0,int i64 0,int i64 0,int i64 0,int i64 0,int i64 0,int i64 0,int i64 0,int i64 0,int
 i64 0,int i64 0,int i64 0,int i64 0,int i64 0,int i64 0,int i64 0,int i64 0,int i64 0,int i64 0,int i64 0,int i64 0,int i64 0,int i64 0,int i64 0,int i64 0,int i64 0,int i64 0,int i64 0,int i64 0,int
 i64 0,int i64 0,int i64 0,int i64 0,int i64 0,int i64 0,int i64 0,int i64 0,int i64 0,int i64 0,int i64 0,int i64 0,int i64 0,int i64 0,int i64 0,int i64 0,int i64 0,int i64 0,int i64 0,int i64 0,int
 i64 0,int i64 0,int i64 0,int i64 0,int i64 0,int i64 0,int i64 0,int i64 0,int i64 0,int i64 0,int i64 0,int i64 0,int i64 0,int i64 0,int i64 0,int i64 0,int i64 0,int i64 0,int i64 0,int i64 0,int
 i64 0,int i64 0,int i64 0,slice none 0 0]
abbrev Zia:Nat->Option Box:=λb=>some (Box.mk b Zh9 67 260 false true)
abbrev Zib:Int->Int->Int->Int->Int->Int->Int->Option Addr->Nat->Nat->Nat->Option Box:=λaD aE aF aG aJ aH aI aB aA aC b=>some (Box.mk b [int u8 aD,int u64 aE,
 int u64 aF,int u64 aG,int u64 aJ,int i64 aH,int i64 aI,slice aB aA aC] 27 8 true true)
abbrev Zic:Int->Int->Int->Int->Int->Int->Int->Option Addr->Nat->Nat->Nat->Nat->Nat->List (Option Box):=λaD aE aF aG aJ aH aI aB aA aC b am ae=>[some (Box.mk ae []
 67 260 false true),some (Box.mk ae [] 67 260 false true),Zia am,Zib aD aE aF aG aJ aH aI aB aA aC b]
theorem Zid(aD aE aF aG aJ aH aI:Int)(aB:Option Addr)(aA aC:Nat)(m:Mem)(R:RT)(h:
 ∀(b:Nat) m',m.le m'->m'.reads b 0 [int u8 aD,int u64 aE,int u64 aF,int u64 aG,int u64 aJ,int i64 aH,int i64 aI,slice aB aA aC]->∀(am:Nat),∃(f:Fx),∃R_1,R_1=f 5 [agg (.mk [int u64
 aE,int u64 aF,int u64 aG,int u64 aJ])] m'/\CX pG 47 (.mk [agg (.mk [int u64 aE,int u64 aF,int u64 aG,int u64 aJ])]) m' [] R_1/\ZbT .cells R_1/\∀(cs:List Value) an,m'.le an->R_1 (agg (.mk cs)) an []->
 chk (Nat.beq (cs.length) 256&&true) (chk (Nat.ble (nat_lit 257) (List.length (List.append cs (List.drop (1+cs.length) (Zaz aD))))) (chk (Nat.ble (nat_lit 258) (List.length (List.append (List.append (List.take
 (nat_lit 256) (List.append cs (List.drop (1+cs.length) (Zaz aD)))) [int i64 aH]) (List.drop (nat_lit 257) (List.append cs (List.drop (1+cs.length) (Zaz aD))))))) (∀(ae:Nat),chk (Nat.beq
 (List.length (List.append (List.append (List.take (nat_lit 257) (List.append (List.append (List.take (nat_lit 256) (List.append cs (List.drop (1+cs.length) (Zaz aD)))) [int i64 aH]) (List.drop (nat_lit 257)
 (List.append cs (List.drop (1+cs.length) (Zaz aD)))))) [int i64 aI]) (List.drop (nat_lit 258) (List.append (List.append (List.take (nat_lit 256) (List.append cs (List.drop (1+cs.length) (Zaz
 aD)))) [int i64 aH]) (List.drop (nat_lit 257) (List.append cs (List.drop (1+cs.length) (Zaz aD)))))))) (nat_lit 259)&&Zbi (List.append (List.append (List.take (nat_lit 257) (List.append (List.append
 (List.take (nat_lit 256) (List.append cs (List.drop (1+cs.length) (Zaz aD)))) [int i64 aH]) (List.drop (nat_lit 257) (List.append cs (List.drop (1+cs.length) (Zaz aD)))))) [int i64 aI])
 (List.drop (nat_lit 258) (List.append (List.append (List.take (nat_lit 256) (List.append cs (List.drop (1+cs.length) (Zaz aD)))) [int i64 aH]) (List.drop (nat_lit 257) (List.append cs (List.drop (1+cs.length)
 (Zaz aD)))))))) (∀M,m'.le M->an.le M->∃(I:IT),(∃(n:Nat),I [int i64 0] [Zau (Zau (Zau (Zaz aD) 1 cs) 257 [int i64 aH]) 258 [int i64 aI]] [slice none 0 0] M n)/\∀n (cs:List
 Value) a ap c m' (aq:Nat),M.le m'->I [int i64 n] [cs] [slice a ap c] m' aq->br (decide (n < (↑aA:Int))) (∃(ar:Nat),∃(o:Nat),aB=some (Addr.mk ar o none)/\Zaf n aA/\∃v af ag ah ai aj ak al:Value,
 m'.reads ar (o+Int.toNat n*8) [v,af,ag,ah,ai,aj,ak,al]/\∀(au:Nat),chk (v.oneCell'&&(af.oneCell'&&(ag.oneCell'&&(ah.oneCell'&&(ai.oneCell'&&(aj.oneCell'&&(ak.oneCell'&&(al.oneCell'&&true)))))))) (∃
 (f:Fx),Eng.ZuZ cs 259 λaa=>∃R,R=f 3 [agg (.mk [v,af,ag,ah,ai,aj,ak,al])] m'/\CX pG 34 (.mk [agg (.mk [v,af,ag,ah,ai,aj,ak,al])]) m' [] R/\ZbT .cells R/\∀(ac:List Value) ab,m'.le ab->R (agg (.mk
 ac)) ab []->chk (Nat.beq (ac.length) 260&&true) (∀ad,ab.free ad->chk (Zck aa&&true) ((Tok.mk (slice a ap c) 260=Tok.mk aa 260\/aa=slice none 0 0\/slC aa < slN aa+1)/\∃(xs:List Value),∃(ys:List Value),
 xs.length=slN aa*260/\ys.length=1*260/\rowRd (ab.add ad (List.append ac [])) (slA aa) xs/\rowRd (ab.add ad (List.append ac [])) (some (Addr.mk ad 0 none)) ys/\(∀(u:Value),u∈ys->u.oneCell'=true)/\(slN aa+1)
 * 2096<=140737488355328/\slN aa+1<=9223372036854775807/\∀(a':Option Addr)(c':Nat)(ao:Mem),Mem.le (ab.add ad (List.append ac [])) ao->rowRd ao a' (List.append xs ys)->slN aa+1<=c'->chk (Nat.ble 260
 (cs.length)) (∀M,m'.le M->ab.le M->Mem.le (ab.add ad (List.append ac [])) M->ao.le M->Zab (Zic aD aE aF aG aJ aH aI aB aA aC b am ae)/\∃(n':Nat),n' < aq/\I [int i64 (i64.wrap (n +
 1))] [Zau cs 259 [slice a' (slN aa+1) c']] [slice a' (slN aa+1) c'] M n'))))) (chk (Nat.beq (cs.length) 260&&Zbi cs) (∃m'',m.le m''/\m''.le m'/\R (agg (.mk cs)) m'' []))))))):CX Tryz.prog 34 #[.agg #[.int .u8 aD,.int .u64 aE,.int .u64 aF,.int .u64 aG,.int .u64 aJ,.int .i64 aH,.int .i64 aI,.slice aB aA aC]] m [] R:=
 Zad (E:=ZjC) Zay mix Tryz.func34 [.v (.agg #[.int .u8 aD,.int .u64 aE,.int .u64 aF,.int .u64 aG,.int .u64 aJ,.int .i64 aH,.int .i64 aI,.slice aB aA aC])] [] (by kernel_rfl) (Eq.mp (by kernel_rfl) h)
def ZlF:Env:={ EB with
 loops:=swI nLa [(3,⟨[(5,.int .i64),(6,.int .i64)],[],[],false⟩)]
 joins:=swI none [(3,some [(16,.bool)])]
 frzNew:=[2] }
theorem ZjD(p0:List Value)(p1:Int)(m:Mem)(R:RT)(h:
 chk (Nat.beq (p0.length) 260) (fzM m p0 λb m'=>∃I,lE [some (Box.mk b p0 67 260 true true)] λxL=>inI I [int i64 1,int i64 0] [] [] m'/\∀n n_1 m'_1 (n_2:Nat),m'.le m'_1->I [int i64 n,int i64 n_1] [] [] m'_1 n_2->
 ∃(b:Bool),(Eng.ZuZ p0 259 λv=>chk (Zck v) (br (decide (n_1 < (↑(slN v):Int))) (Zab xL/\[bool (decide (n<=p1))]=[bool b]) (Zab xL/\[bool false]=[bool b])))/\br b (Eng.ZuZ p0 259 λv=>chk (Zck v)
 (atA (slA v) λb o=>Zaf n_1 (slN v)/\∃(vs:List Value),vs.length=260/\m'_1.reads b (o+Int.toNat n_1*260) vs/\kI pG 83 [agg (.mk vs),int i64 (i64.wrap (p1 - n))] m'_1 λn_3 m'=>Zab xL/\nxI n_2 I [int
 i64 (i64.wrap (n+n_3)),int i64 (i64.wrap (n_1+1))] [] [] m')) (rtM m m'_1 R (int i64 n)))):CX Tryz.prog 83 #[.agg p0.toArray,.int .i64 p1] m [] R:=
 Zad (E:=ZlF) Zay mix Tryz.func83 [.v (.agg p0.toArray),.v (.int .i64 p1)] [] (by kernel_rfl) (Eq.mp (by kernel_rfl) h)
def ZlG:Env:={ EB with
 frzNew:=[1] }
theorem ZjE(p0:List Value)(m:Mem)(R:RT)(h:
 chk (Nat.beq (p0.length) 260) (fzM m p0 λb m'=>kI pG 83 [agg (.mk p0),int i64 10000] m' λn m'=>rtM m m' R (bool (decide (n < 10001))))):CX Tryz.prog 104 #[.agg p0.toArray] m [] R:=
 Zad (E:=ZlG) Zay mix Tryz.func104 [.v (.agg p0.toArray)] [] (by kernel_rfl) (Eq.mp (by kernel_rfl) h)
def ZnS:Env:={ EB with
 frzNew:=[1] }
theorem ZlH(p0:List Value)(m:Mem)(R:RT)(h:
 chk (Nat.beq (p0.length) 260) (fzM m p0 λb m'=>kI pG 83 [agg (.mk p0),int i64 10000] m' λn m'=>rtM m m' R (int i64 n))):CX Tryz.prog 51 #[.agg p0.toArray] m [] R:=
 Zad (E:=ZnS) Zay mix Tryz.func51 [.v (.agg p0.toArray)] [] (by kernel_rfl) (Eq.mp (by kernel_rfl) h)
def ZjF:Env:={ EB with
 joins:=swI none [(1,some [(10,.bool)]),(5,some [(4,.bool)])] }
theorem Zie(p0 p1:Int)(m:Mem)(R:RT)(h:
 ∃(b:Bool),br (decide (p0 < 0)) ([bool true]=[bool b]) ([bool (decide (p0 > 16))]=[bool b])/\br b (rtM m m R (bool false)) (br (p1 == (-1)) (rtM m m R (bool true)) (∃(b:Bool),lV [bool b] λxL=>br (decide (p1 > 0))
 (br (decide (p1 < 17)) (br (decide (p0<=p1)) (br (p0 == 1) ([bool !p1 == 1]=xL) ([bool true]=xL)) ([bool false]=xL)) ([bool false]=xL)) ([bool false]=xL)/\rtM m m R (bool b)))):CX Tryz.prog 120 #[.int .i64 p0,.int .i64 p1] m [] R:=
 Zad (E:=ZjF) Zay mix Tryz.func120 [.v (.int .i64 p0),.v (.int .i64 p1)] [] (by kernel_rfl) (Eq.mp (by kernel_rfl) h)
def ZlI:Env:={ EB with
 loops:=swI nLa [(10,⟨[(5,.int .i64)],[],[],false⟩)]
 joins:=swI none [(4,some [(51,.bool)]),(7,some [(84,.bool)]),(13,some [(133,.bool)])]
 dr:=swI [] [(2,[⟨0,[1],[],none,[],[]⟩,⟨1,[1],[],none,[0],[]⟩,dO 2 [0,1],dO 3 [0,1,2],⟨4,[1],[],none,[0,1,2,3],[]⟩,⟨5,[1],[],none,[0,1,2,3,4],[]⟩,dO 6 [0,1,2,3,4,5],dO 7 [0,1,2,3,4,5,6],dO 8 [0,1,2,3,4,5,6,7],⟨9,[1],[],none,[0,1,2,3,4,5,6,7,8],[]⟩,⟨10,[1],[],none,[0,1,2,3,4,5,6,7,8,9],[]⟩,dO 11 [0,1,2,3,4,5,6,7,8,9,10],⟨12,[1],[],none,[0,1,2,3,4,5,6,7,8],[]⟩,⟨13,[1],[],none,[0,1,2,3,4,5,6,7,8,12],[]⟩,⟨14,[3],[],none,[0,1,2,3,4,5,6,7,8],[]⟩,dO 15 (rg 0 9++[12,13,14]),dO 16 (rg 0 16),dO 17 (rg 0 17)])]
 frzNew:=[1]
 gb:=true }
theorem ZjG(p0:List Value)(m:Mem)(R:RT)(h:
 chk (Nat.beq (p0.length) 260) (fzM m p0 λb m'=>∀ak,lE [some (Box.mk ak (List.replicate 256 (int i64 0)) 64 256 false true),some (Box.mk b p0 67 260 true true)] λxL=>Eng.ZuZ p0 0 λv=>chk (ZaE i64 v&&decide
 (i64=i64)) (br (decide (RowKit.intOf v < 1)) (rtM m m' R (bool false)) (Eng.ZuZ p0 0 λv=>chk (ZaE i64 v&&decide (i64=i64)) (br (decide (RowKit.intOf v > 6)) (rtM m m' R (bool false)) (Eng.ZuZ p0 0 λv=>chk
 (ZaE i64 v&&decide (i64=i64)) (chk (Nat.ble 257 (p0.length)) (∃(b:Bool),EqIs pG 64 (agg (.mk (List.take 256 (List.drop 1 p0)))) (agg (.mk (List.replicate 256 (int i64 0)))) b/\br (!(RowKit.intOf v == 2) == !b) (rtM m m'
 R (bool false)) (∃(b:Bool),lV [bool b] λaf=>(Eng.ZuZ p0 0 λv=>chk (ZaE i64 v&&decide (i64=i64)) (br (RowKit.intOf v == 5) (Eng.ZuZ p0 257 λv=>Eng.ZuZ p0 258 λai=>kB pG 120 [v,ai] m' λb m'=>br
 (!b) (Zab xL/\[bool true]=af) (Eng.ZuZ p0 0 λv=>chk (ZaE i64 v&&decide (i64=i64)) (br (!RowKit.intOf v == 5) (Eng.ZuZ p0 257 λv=>chk (ZaE i64 v&&decide (i64=i64)) (br (!RowKit.intOf v == 0) (Zab xL
 /\ [bool true]=af) (Eng.ZuZ p0 258 λv=>chk (ZaE i64 v&&decide (i64=i64)) (Zab xL/\[bool !RowKit.intOf v == 0]=af)))) (Zab xL/\[bool false]=af)))) (Eng.ZuZ p0 0 λv=>chk (ZaE i64 v&&decide (i64 =
 i64)) (br (!RowKit.intOf v == 5) (Eng.ZuZ p0 257 λv=>chk (ZaE i64 v&&decide (i64=i64)) (br (!RowKit.intOf v == 0) (Zab xL/\[bool true]=af) (Eng.ZuZ p0 258 λv=>chk (ZaE i64 v&&decide (i64=i64)) (Zab
 xL/\[bool !RowKit.intOf v == 0]=af)))) (Zab xL/\[bool false]=af)))))/\br b (rtM m m' R (bool false)) (Eng.ZuZ p0 259 λv=>lE (↑(slN v):Int) λyL=>lV [bool !yL == 1] λag=>chk (Zck v) (∃(b:Bool),lV
 [bool b] λac=>(Eng.ZuZ p0 0 λv=>chk (ZaE i64 v&&decide (i64=i64)) (br (decide (RowKit.intOf v < 3)) (br (decide (yL > 0)) (Zab xL/\[bool true]=ac) (Eng.ZuZ p0 0 λv=>chk (ZaE i64 v&&decide (i64 =
 i64)) (br (decide (RowKit.intOf v > 2)) (Eng.ZuZ p0 0 λv=>chk (ZaE i64 v&&decide (i64=i64)) (br (decide (RowKit.intOf v < 5)) (br (decide (yL < 2)) (Zab xL/\[bool true]=ac) (Eng.ZuZ p0 0 λv=>chk (ZaE i64
 v&&decide (i64=i64)) (br (decide (RowKit.intOf v > 4)) (Zab xL/\ag=ac) (Zab xL/\[bool false]=ac)))) (Eng.ZuZ p0 0 λv=>chk (ZaE i64 v&&decide (i64=i64)) (br (decide (RowKit.intOf v > 4)) (Zab xL/\ag
 = ac) (Zab xL/\[bool false]=ac))))) (Eng.ZuZ p0 0 λv=>chk (ZaE i64 v&&decide (i64=i64)) (br (decide (RowKit.intOf v > 4)) (Zab xL/\ag=ac) (Zab xL/\[bool false]=ac)))))) (Eng.ZuZ p0 0 λv=>chk
 (ZaE i64 v&&decide (i64=i64)) (br (decide (RowKit.intOf v > 2)) (Eng.ZuZ p0 0 λv=>chk (ZaE i64 v&&decide (i64=i64)) (br (decide (RowKit.intOf v < 5)) (br (decide (yL < 2)) (Zab xL/\[bool true]=ac) (Eng.ZuZ
 p0 0 λv=>chk (ZaE i64 v&&decide (i64=i64)) (br (decide (RowKit.intOf v > 4)) (Zab xL/\ag=ac) (Zab xL/\[bool false]=ac)))) (Eng.ZuZ p0 0 λv=>chk (ZaE i64 v&&decide (i64=i64)) (br (decide
 (RowKit.intOf v > 4)) (Zab xL/\ag=ac) (Zab xL/\[bool false]=ac))))) (Eng.ZuZ p0 0 λv=>chk (ZaE i64 v&&decide (i64=i64)) (br (decide (RowKit.intOf v > 4)) (Zab xL/\ag=ac) (Zab xL/\[bool false] =
 ac)))))))/\br b (rtM m m' R (bool false)) (∃I,inI I [int i64 0] [] [] m'/\∀(n:Int) aa (aj:Nat),lE (Int.toNat n*260) λad=>m'.le aa->I [int i64 n] [] [] aa aj->br (decide (n < yL)) (Eng.ZuZ p0 259 λv=>chk
 (Zck v) (atA (slA v) λb o=>Zaf n (slN v)/\∃(v:Value),lE (RowKit.intOf v == 1) λyL=>lE (ZaE i64 v&&decide (i64=i64)) λae=>aa b (o+ad+0)=some v/\∃(b:Bool),lV [bool b] λab=>(Eng.ZuZ p0
 0 λai=>chk (ZaE i64 ai&&decide (i64=i64)) (br (RowKit.intOf ai == 3) (chk ae (br yL (Zab xL/\[bool true]=ab) (chk ae (br (RowKit.intOf v == 3) (Zab xL/\[bool true]=ab) (Eng.ZuZ p0 0 λah=>chk (ZaE i64
 ah&&decide (i64=i64)) (br (RowKit.intOf ah == 4) (chk ae (br (RowKit.intOf v == 4) (Zab xL/\[bool true]=ab) (Eng.ZuZ p0 0 λv=>chk (ZaE i64 v&&decide (i64=i64)) (br (RowKit.intOf v == 5) (chk ae (br yL (Zab
 xL/\[bool true]=ab) (Eng.ZuZ p0 259 λv=>chk (Zck v) (atA (slA v) λb o=>Zaf n (slN v)/\∃(vs:List Value),vs.length=260/\aa.reads b (o+ad) vs/\kB pG 105 [agg (.mk vs)] aa λb m'=>Zab xL/\[bool
 !b]=ab)))) (Eng.ZuZ p0 259 λv=>chk (Zck v) (atA (slA v) λb o=>Zaf n (slN v)/\∃(vs:List Value),vs.length=260/\aa.reads b (o+ad) vs/\kB pG 105 [agg (.mk vs)] aa λb m'=>Zab xL/\[bool !b] =
 ab)))))) (Eng.ZuZ p0 0 λv=>chk (ZaE i64 v&&decide (i64=i64)) (br (RowKit.intOf v == 5) (chk ae (br yL (Zab xL/\[bool true]=ab) (Eng.ZuZ p0 259 λv=>chk (Zck v) (atA (slA v) λb o=>Zaf n (slN v)/\∃
 (vs:List Value),vs.length=260/\aa.reads b (o+ad) vs/\kB pG 105 [agg (.mk vs)] aa λb m'=>Zab xL/\[bool !b]=ab)))) (Eng.ZuZ p0 259 λv=>chk (Zck v) (atA (slA v) λb o=>Zaf n (slN v)/\∃(vs:List
 Value),vs.length=260/\aa.reads b (o+ad) vs/\kB pG 105 [agg (.mk vs)] aa λb m'=>Zab xL/\[bool !b]=ab)))))))))) (Eng.ZuZ p0 0 λah=>chk (ZaE i64 ah&&decide (i64=i64)) (br (RowKit.intOf ah == 4) (chk ae
 (br (RowKit.intOf v == 4) (Zab xL/\[bool true]=ab) (Eng.ZuZ p0 0 λv=>chk (ZaE i64 v&&decide (i64=i64)) (br (RowKit.intOf v == 5) (chk ae (br yL (Zab xL/\[bool true]=ab) (Eng.ZuZ p0 259 λv=>chk (Zck
 v) (atA (slA v) λb o=>Zaf n (slN v)/\∃(vs:List Value),vs.length=260/\aa.reads b (o+ad) vs/\kB pG 105 [agg (.mk vs)] aa λb m'=>Zab xL/\[bool !b]=ab)))) (Eng.ZuZ p0 259 λv=>chk (Zck v) (atA (slA
 v) λb o=>Zaf n (slN v)/\∃(vs:List Value),vs.length=260/\aa.reads b (o+ad) vs/\kB pG 105 [agg (.mk vs)] aa λb m'=>Zab xL/\[bool !b]=ab)))))) (Eng.ZuZ p0 0 λv=>chk (ZaE i64 v&&decide (i64 =
 i64)) (br (RowKit.intOf v == 5) (chk ae (br yL (Zab xL/\[bool true]=ab) (Eng.ZuZ p0 259 λv=>chk (Zck v) (atA (slA v) λb o=>Zaf n (slN v)/\∃(vs:List Value),vs.length=260/\aa.reads b (o+ad) vs/\kB pG
 105 [agg (.mk vs)] aa λb m'=>Zab xL/\[bool !b]=ab)))) (Eng.ZuZ p0 259 λv=>chk (Zck v) (atA (slA v) λb o=>Zaf n (slN v)/\∃(vs:List Value),vs.length=260/\aa.reads b (o+ad) vs/\kB pG 105 [agg
 (.mk vs)] aa λb m'=>Zab xL/\[bool !b]=ab))))))))/\br b (rtM m aa R (bool false)) (Zab xL/\nxI aj I [int i64 (i64.wrap (n+1))] [] [] aa))) (rtM m aa R (bool true)))))))))))))):CX Tryz.prog 105 #[.agg p0.toArray] m [] R:=
 Zad (E:=ZlI) Zay mix Tryz.func105 [.v (.agg p0.toArray)] [] (by kernel_rfl) (Eq.mp (by kernel_rfl) h)
def ZlJ:Env:={ EB with
 joins:=swI none [(1,some [(2,.bool)])]
 frzNew:=[1] }
theorem ZjH(p0:List Value)(m:Mem)(R:RT)(h:
 chk (Nat.beq (p0.length) 260) (fzM m p0 λb m'=>∃(b_1:Bool),lE [some (Box.mk b p0 67 260 true true)] λxL=>(kB pG 104 [agg (.mk p0)] m' λb m'=>br b (kB pG 105 [agg (.mk p0)] m' λb m'=>Zab xL/\[bool b] =
 [bool b_1]) (Zab xL/\[bool false]=[bool b_1]))/\rtM m m' R (bool b_1))):CX Tryz.prog 75 #[.agg p0.toArray] m [] R:=
 Zad (E:=ZlJ) Zay mix Tryz.func75 [.v (.agg p0.toArray)] [] (by kernel_rfl) (Eq.mp (by kernel_rfl) h)
def ZnT:Env:={ EB with
 loops:=swI nLa [(4,⟨[(5,.int .i64)],[],[],false⟩)]
 joins:=swI none [(1,some [(40,.bool)])]
 dr:=swI [] [(6,[⟨0,[2],[],none,[],[]⟩,⟨1,[2],[],none,[0],[]⟩,dO 2 [],dO 3 [0,1,2],dO 4 [0,1,2,3],⟨5,[3],[],none,[],[]⟩,⟨6,[3],[],none,[5],[]⟩,dO 7 [],dO 8 [5,6,7],dO 9 [5,6,7,8],dO 10 [0,1,2,3,4,5,6,7,8,9],dO 11 [0,1,2,3,4,5,6,7,8,9,10]])]
 frzNew:=[2,3]
 gb:=true }
theorem ZlK(p0 p1:List Value)(m:Mem)(R:RT)(h:
 chk (Nat.beq (p0.length) 260) (fzM m p0 λb m'=>lE [some (Box.mk b p0 67 260 true true)] λxL=>chk (Nat.beq (p1.length) 260) (fzM m' p1 λb m'=>∃(b_1:Bool),lV [bool b_1] λxL_1=>lE (some (Box.mk b p1 67 260
 true true)::xL) λxL=>(Eng.ZuZ p0 0 λv=>Eng.ZuZ p1 0 λv_1=>chk (ZaE i64 v&&ZaE i64 v_1) (br (!RowKit.intOf v == RowKit.intOf v_1) (Zab xL/\[bool true]=xL_1) (chk (Nat.ble 257 (p0.length)) (chk
 (Nat.ble 257 (p1.length)) (∃(b:Bool),EqIs pG 64 (agg (.mk (List.take 256 (List.drop 1 p0)))) (agg (.mk (List.take 256 (List.drop 1 p1)))) b/\br (!b) (Zab xL/\[bool true]=xL_1) (Eng.ZuZ p0 257 λv=>Eng.ZuZ p1 257
 λv_2=>chk (ZaE i64 v&&ZaE i64 v_2) (br (!RowKit.intOf v == RowKit.intOf v_2) (Zab xL/\[bool true]=xL_1) (Eng.ZuZ p0 258 λv=>Eng.ZuZ p1 258 λv_3=>chk (ZaE i64 v&&ZaE i64 v_3) (br (!RowKit.intOf v
 == RowKit.intOf v_3) (Zab xL/\[bool true]=xL_1) (Eng.ZuZ p0 259 λv=>chk (Zck v) (Eng.ZuZ p1 259 λv_4=>chk (Zck v_4) (Zab xL/\[bool !(↑(slN v):Int) == (↑(slN v_4):Int)]=xL_1))))))))))))/\br b_1 (rtM m
 m' R (bool false)) (∃I,inI I [int i64 0] [] [] m'/\∀n m'_1 (n_1:Nat),m'.le m'_1->I [int i64 n] [] [] m'_1 n_1->Eng.ZuZ p0 259 λv=>chk (Zck v) (br (decide (n < (↑(slN v):Int))) (∃(f:Fx),Eng.ZuZ p0 259 λv
 => chk (Zck v) (atA (slA v) λb o=>Zaf n (slN v)/\∃(vs:List Value),vs.length=260/\m'_1.reads b (o+Int.toNat n*260) vs/\Eng.ZuZ p1 259 λv=>chk (Zck v) (atA (slA v) λb o=>Zaf n (slN v)/\∃(vs_1
 : List Value),vs_1.length=260/\m'_1.reads b (o+Int.toNat n*260) vs_1/\dB f 10 pG 78 [agg (.mk vs),agg (.mk vs_1)] m'_1 λb m'=>∀M,m'_1.le M->m'.le M->br (!b) (rtM m M R (bool false)) (Zab xL/\nxI n_1 I [int
 i64 (i64.wrap (n+1))] [] [] M)))) (rtM m m'_1 R (bool true))))))):CX Tryz.prog 78 #[.agg p0.toArray,.agg p1.toArray] m [] R:=
 Zad (E:=ZnT) Zay mix Tryz.func78 [.v (.agg p0.toArray),.v (.agg p1.toArray)] [] (by kernel_rfl) (Eq.mp (by kernel_rfl) h)
def ZlL:Env:={ EB with
 loops:=swI nLa [(3,⟨[(4,.int .i64)],[3],[],false⟩),(7,⟨[(5,.int .u64),(6,.int .i64)],[],[],false⟩)]
 frzNew:=[1] }
theorem ZjI(aD aE aF aG:Int)(m:Mem)(R:RT)(h:
 lV [int u64 aD,int u64 aE,int u64 aF,int u64 aG] λxL=>fzM m xL λb m'=>∀b_1 b_2,∃I,lE [some (Box.mk b_1 (List.replicate 256 (int i64 0)) 64 256 false true),some (Box.mk b xL 23 4 true true)] λxL_1=>
 inI I [int i64 0] [List.replicate 256 (int i64 0)] [] m'/\∀(n:Int)(cs:List Value) m'_1 (n_1:Nat),lE (i64.wrap (Int.tdiv n (64:Int))) λyL=>lE (0+Int.toNat n*1) λyL_1=>m'.le m'_1->I [int i64 n] [cs] []
 m'_1 n_1->br (decide (n < 256)) ((64:Int)≠0/\Zaf yL 4/\Eng.ZuZ xL (0+Int.toNat yL*1) λv=>∃I_1,chk (Shape.fits (.int u64) v) (inI I_1 [v,int i64 0] [] [] m'_1)/\∀n_2 n_3 m' (n_4:Nat),m'_1.le m'->I_1
 [int u64 n_2,int i64 n_3] [] [] m' n_4->(64:Int)≠0/\br (decide (n_3 < Int.tmod n (64:Int))) ((2:Int)≠0/\Zab (some (Box.mk b_2 cs 64 256 false true)::xL_1)/\nxI n_4 I_1 [int u64 (u64.wrap (Int.tdiv n_2 (2:
 Int))),int i64 (i64.wrap (n_3+1))] [] [] m') ((2:Int)≠0/\Zaf n 256/\chk (Nat.ble (yL_1+1) (cs.length)) (Zab (some (Box.mk b_2 [] 64 256 false true)::xL_1)/\nxI n_1 I [int i64 (i64.wrap (n+1))] [Zau cs
 yL_1 [int i64 (i64.wrap (Int.tmod n_2 (2:Int)))]] [] m'))) (chk (Nat.beq (cs.length) 256&&Zbi cs) (rtM m m'_1 R (agg (.mk cs))))):CX Tryz.prog 47 #[.agg #[.int .u64 aD,.int .u64 aE,.int .u64 aF,.int .u64 aG]] m [] R:=
 Zad (E:=ZlL) Zay mix Tryz.func47 [.v (.agg #[.int .u64 aD,.int .u64 aE,.int .u64 aF,.int .u64 aG])] [] (by kernel_rfl) (Eq.mp (by kernel_rfl) h)
end Go.Proofs.YtfgfahnakepegaaGreat
namespace Go.Proofs.YtfgfahnakepegaaGreat
open Go Go.Eng Go.Rx Go.Proofs Go.RowKit
set_option maxRecDepth 100000
theorem ZaQ{α:Type}{l:List α}{k:Nat}(h:k < l.length):∃x,l[k]?=some x:=⟨l[k],by simp[h]⟩
def NewS(m:Mem)(v:Value):Prop:=∀b o,slA v=some ⟨b,o,none⟩->m.free b
theorem NewS.less{m m0:Mem}{v:Value}(h:NewS m v)(k:m0.le m):NewS m0 v:=λb o e x=>by
 cases he:m0 b x with
 | none=>rfl
 | some u=>have:=k _ _ _ he;rw[h b o e x]at this;cases this
theorem Zvy{P:Program}{w:World}{n:Nat}{f:Nat->(Option Bool×Unit)->Sem (ForInStep (Option Bool×Unit))}{p:Nat->Bool}(hf:∀i,i < n->(f i (none,())).run P w=.ok (if p i then .yield (none,())else .done (some false,())) w):
  ∀k i,i+k<=n->(forIn (List.range' i k) (none,()) f).run P w=.ok (if(List.range' i k).all p then(none,())else(some false,())) w
 | 0,i,h=>by simp
 | k+1,i,h=>by
  rw[List.range'_succ,List.forIn_cons,Sem.run_bind,hf i (by omega),Result.andThen_ok,List.all_cons]
  cases p i with
  | false=>simp
  | true=>
   have:=Zvy hf k (i+1) (by omega)
   rw[Bool.true_and]
   exact this
theorem Zzt(xs ys:List Int)(hx:xs.length=256)(hy:ys.length=256):EqIs Tryz.prog 64 (.agg (ZgJ xs).toArray) (.agg (ZgJ ys).toArray) (decide (xs=ys)):=by
 refine⟨λw=>?_,λop ox oy w=>Zef (by kernel_rfl) op ox oy _ _ w⟩
 have u3:=Tryz.underlying3
 have a3:=Tryz.isAgg3
 have z3:=Tryz.sizeOf3
 rw[Op.equal,Op.maxDepth,show(10000:Nat)=9999+1 from rfl,Op.equalIn]
 simp only[Sem.run_bind,run_underlying Tryz.underlying64,Result.andThen_ok]
 simp only[Std.Legacy.Range.forIn_eq_forIn_range',Std.Legacy.Range.size,Nat.sub_zero,Nat.add_sub_cancel,Nat.div_one]
 rw[z3,Result.andThen_ok,Zvy (n:=256) (p:=λi=>decide (xs[i]?=ys[i]?)) (λi hi=>?_) 256 0 (by omega),Result.andThen_ok]
 ·by_cases h:xs=ys
  ·subst h;simp
  ·have:(List.range' 0 256).all (λi=>decide (xs[i]?=ys[i]?))=false:=by
    rw[Bool.eq_false_iff]
    intro hh
    apply h
    refine List.ext_getElem? λi=>?_
    by_cases hi:i < 256
    ·have:=List.all_eq_true.1 hh i (by simp[List.mem_range',hi])
     simpa using this
    ·rw[List.getElem?_eq_none_iff.2 (by omega),List.getElem?_eq_none_iff.2 (by omega)]
   rw[this];simp[h]
 ·obtain⟨x,zU⟩:∃x,xs[i]?=some x:=⟨_,zA3 (by omega)⟩
  obtain⟨y,zV⟩:∃y,ys[i]?=some y:=⟨_,zA3 (by omega)⟩
  have gx:(ZgJ xs).toArray[i]?=some (.int .i64 x):=by simp[ZgJ,zU]
  have gy:(ZgJ ys).toArray[i]?=some (.int .i64 y):=by simp[ZgJ,zV]
  rw[Nat.mul_one]
  simp only[part,Sem.run_bind,a3,Result.andThen_ok,gx,gy]
  have he:(Op.equalIn 9999 3 (.int .i64 x) (.int .i64 y)).run Tryz.prog w=.ok (x == y) w:=by
   rw[show(9999:Nat)=9998+1 from rfl,Op.equalIn]
   simp[Sem.run_bind,run_underlying u3]
  rw[if_neg (by decide),if_neg (by decide)]
  simp only[Sem.run_pure,Result.andThen_ok,he,zU,zV]
  by_cases zW:x=y
  ·subst zW;simp
  ·simp[zW]
theorem Zf6(q:QS):ZaB q=ZgJ ((List.range 256).map (Zqw q)):=by simp[ZaB,ZgJ]
theorem ZAN{q r:QS}(hq:QOk q)(hr:QOk r):EqIs Tryz.prog 64 (.agg (ZaB q).toArray) (.agg (ZaB r).toArray) (decide (q=r)):=by
 have h:=Zzt ((List.range 256).map (Zqw q)) ((List.range 256).map (Zqw r)) (by simp) (by simp)
 rw[<-Zf6,<-Zf6]at h
 have e:decide ((List.range 256).map (Zqw q)=(List.range 256).map (Zqw r))=decide (q=r):=by
  rw[decide_eq_decide]
  constructor
  ·intro e;exact Zrc hq hr (by rw[Zf6,Zf6,e])
  ·rintro rfl;rfl
 rw[e]at h;exact h
theorem ZBW{q:QS}{j:Nat}(hj:j < 4):([.int .u64 q.1,.int .u64 q.2.1,.int .u64 q.2.2.1,.int .u64 q.2.2.2]:List Value)[j]?=some (.int .u64 (Ze3 q j)):=by
 have:j=0\/j=1\/j=2\/j=3:=by omega
 rcases this with rfl|rfl|rfl|rfl <;> rfl
def Zoh(q:QS)(k:Nat):List Value:=(List.range 256).map λc=>.int .i64 (if c < k then Zqw q c else 0)
theorem Ze0(q:QS)(k:Nat):(Zoh q k).length=256:=by simp[Zoh]
theorem ZrJ(q:QS){k:Nat}(h:k < 256):Zau (Zoh q k) k [.int .i64 (Zqw q k)]=Zoh q (k+1):=by
 rw[Zrb (by rw[Ze0];exact h)]
 refine List.ext_getElem? λj=>?_
 by_cases hj:j < 256
 ·by_cases e:j=k
  ·subst e
   rw[List.getElem?_set_self (by rw[Ze0];exact h)]
   simp[Zoh,h]
  ·rw[List.getElem?_set_ne (λx=>e x.symm)]
   simp only[Zoh,List.getElem?_map,List.getElem?_range hj,Option.map_some]
   have:(j < k+1)↔j < k:=by omega
   simp only[this]
 ·rw[List.getElem?_eq_none_iff.2 (by rw[List.length_set,Ze0];omega),List.getElem?_eq_none_iff.2 (by rw[Ze0];omega)]
theorem ZrK(q:QS):List.replicate 256 (Value.int .i64 0)=Zoh q 0:=by
 refine(List.eq_replicate_iff.2 ⟨Ze0 q 0,λu hu=>?_⟩).symm
 obtain⟨c,_,rfl⟩:=List.mem_map.1 hu
 rw[if_neg (Nat.not_lt_zero c)]
theorem ZuI(q:QS):Zoh q 256=ZaB q:=by
 unfold Zoh ZaB
 refine List.map_congr_left λc hc=>?_
 rw[if_pos (List.mem_range.1 hc)]
theorem ZwB{w:Int}(h0:0<=w)(i:Nat):Int.tmod ((w.toNat / 2 ^ i:Nat):Int) 2=if w.toNat.testBit i then 1 else 0:=by
 rw[show Int.tmod ((w.toNat / 2 ^ i:Nat):Int) 2=((w.toNat / 2 ^ i % 2:Nat):Int) from rfl,ZxU]
 split <;> rfl
theorem Zku(q:QS):Zbi (ZaB q)=true:=by
 have:∀l:List Value,(∀u∈l,u.oneCell'=true)->Zbi l=true:=by
  intro l
  induction l with
  | nil=>intro _;rfl
  | cons u l ih=>intro h;simp only[Zbi,h u (by simp),Bool.true_and];exact ih λx hx=>h x (by simp[hx])
 exact this _ (ZfY q)
theorem Zs3(q:QS)(hq:QOk q)(m:Mem):CX Tryz.prog 47 #[.agg #[.int .u64 q.1,.int .u64 q.2.1,.int .u64 q.2.2.1,.int .u64 q.2.2.2]] m [] (Ret (.agg (ZaB q).toArray)):=by
 apply ZjI
 intro b m1 aK _ b1 b2
 refine⟨λxs css _ m' n=>∃k:Nat,k<=256/\xs=[.int .i64 k]/\css=[Zoh q k]/\m.le m'/\n=256 - k,⟨_,0,by omega,rfl,by rw[ZrK q],aK,rfl⟩,?_⟩
 rintro z cs m2 n _ ⟨k,hk,hz,cE,aO,hn⟩
 obtain rfl:z=k:=by simpa using hz
 obtain rfl:cs=Zoh q k:=by simpa using cE
 subst hn
 have e64:Int.tdiv (k:Int) 64=((k / 64:Nat):Int):=rfl
 have em:Int.tmod (k:Int) 64=((k % 64:Nat):Int):=rfl
 refine Zac (λaS=>?_) (λbI=>?_)
 ·have hk':k < 256:=by have:=zA6 aS;omega
  have hw:=Zfc hq (k / 64)
  rw[e64,em,Zas (by omega) (by omega),zA8,zA8,Nat.mul_one,Nat.mul_one,Nat.zero_add,Nat.zero_add]
  refine⟨by decide,⟨by omega,by omega⟩,Zap (ZBW (q:=q) (by omega)) ?_⟩
  refine⟨λxs _ _ m' n=>∃i:Nat,i<=k % 64/\xs=[.int .u64 (((Ze3 q (k / 64)).toNat / 2 ^ i:Nat):Int),.int .i64 i]/\m2.le m'/\n=k % 64 - i,Zaa rfl ⟨_,0,by omega,?_,Mem.le_refl _,rfl⟩,?_⟩
  ·rw[Nat.pow_zero,Nat.div_one,Int.toNat_of_nonneg hw.1];rfl
  rintro x z m3 n2 aX ⟨i,hi,hx,_,hn⟩
  simp only[List.cons.injEq,Value.int.injEq,true_and,and_true]at hx
  obtain⟨rfl,rfl⟩:=hx
  subst hn
  refine⟨by decide,Zac (λh1=>?_) (λh1=>?_)⟩
  ·have h1':i < k % 64:=by have:=zA6 h1;omega
   refine⟨by decide,by trivial,_,by omega,i+1,h1',?_,aX,rfl⟩
   have e2:Int.tdiv (((Ze3 q (k / 64)).toNat / 2 ^ i:Nat):Int) 2=(((Ze3 q (k / 64)).toNat / 2 ^ (i+1):Nat):Int):=by
    rw[Nat.pow_succ,<-Nat.div_div_eq_div_mul];rfl
   have hb:(Ze3 q (k / 64)).toNat / 2 ^ (i+1) < 18446744073709551616:=Nat.lt_of_le_of_lt (Nat.div_le_self _ _) (by omega)
   rw[e2,ZzW _ hb,Zas (by omega) (by omega)];rfl
  ·have:i=k % 64:=by have:=of_decide_eq_false h1;omega
   subst this
   have rR:IntKind.i64.wrap (Int.tmod (((Ze3 q (k / 64)).toNat / 2 ^ (k % 64):Nat):Int) 2)=Zqw q k:=by
    rw[ZwB hw.1,Zqw,ZmV]
    split <;> rfl
   refine⟨by decide,⟨by omega,by omega⟩,Zaa (by rw[Ze0,Nat.ble_eq];omega) ⟨by trivial,_,by omega,k+1,hk',by rw[Zas (by omega) (by omega)];rfl,?_,mLt aO aX,rfl⟩⟩
   rw[rR,ZrJ q hk']
 ·have:k=256:=by have:=of_decide_eq_false bI;omega
  subst this
  rw[ZuI]
  exact Zaa (by rw[Zal,Zku];rfl) (Zah aO rfl)
theorem Zzu:∀(t:T)(most:Int)(m:Mem),RepW m t->0<=most->most<=1000000->CX Tryz.prog 77 #[t.v,.int .i64 most] m [] (Ret (.int .i64 (Ztq t most))):=by
 intro t
 induction hn:SizeOf.sizeOf t using Nat.strongRecOn generalizing t with
 | ind n ih=>
 intro most m hr h0 h1
 obtain⟨aU,bH,_⟩:=ZsL.1 hr
 apply ZnR
 intro b m1 aK _
 refine⟨λxs _ _ m' q=>∃k:Nat,k<=t.subs.length/\xs=[.int .i64 (Znz t most k),.int .i64 k]/\m.le m'/\q=t.subs.length - k,⟨_,0,Nat.zero_le _,by rw[ZpG t h0];rfl,aK,rfl⟩,?_⟩
 rintro s z m2 q _ ⟨k,hk,hx,aO,hq⟩
 simp only[List.cons.injEq,Value.int.injEq,true_and,and_true]at hx
 obtain⟨rfl,rfl⟩:=hx
 subst hq
 have hb:=Zvp t h0 k
 refine Zac (λaS=>?_) (λbI=>?_)
 ·have aN:k < t.subs.length:=by have:=zA6 aS;omega
  obtain⟨x,hx⟩:=ZaQ aN
  rcases bH with hs|⟨bb,o,ha,bO⟩
  ·rw[hs]at aN;simp at aN
  have hg:=bO.get hx
  refine⟨bb,o,ha,⟨by omega,by omega⟩,_,_,_,_,_,_,_,_,(by rw[zA8];exact λj v hv=>aO _ _ _ (hg.1 j v hv)),λb2=>Zaa rfl (Zac (λh2=>?_) (λh2=>?_))⟩
  ·have:=zA6 h2
   refine Zah aO ?_
   rw[ZpI this]
  ·have h2':Znz t most k<=most:=by have:=of_decide_eq_false h2;omega
   rw[Zas (by omega) (by omega)]
   have eN:=Zdi (zA2 hx)
   refine Zdx (ih _ (by omega) x rfl (most - Znz t most k) m2 (hg.2.mono aO x) (by omega) (by omega)) λm3 aX=>?_
   have sN:=Zvo x (most:=most - Znz t most k) (by omega)
   exact⟨by trivial,_,by omega,k+1,aN,by rw[ZpH hx h2',Zas (by omega) (by omega),Zas (by omega) (by omega)];rfl,mLt aO aX,rfl⟩
 ·have:k=t.subs.length:=by have:=of_decide_eq_false bI;omega
  subst this
  refine Zah aO ?_
  rw[ZsM]
theorem Zbt{k:Int}{q:QS}{mn mx:Int}{a:Option Addr}{n c:Nat}{K:Value->Prop}(h:K (.slice a n c)):Eng.ZuZ (rcs k q mn mx a n c) 259 K:=Zap (ZpD k q mn mx a n c) h
theorem Zbc{k:Int}{q:QS}{mn mx:Int}{a:Option Addr}{n c:Nat}{K:Value->Prop}(h:K (.int .i64 k)):Eng.ZuZ (rcs k q mn mx a n c) 0 K:=Zap (Zow k q mn mx a n c) h
theorem Zp5{k:Int}{q:QS}{mn mx:Int}{a:Option Addr}{n c:Nat}{K:Value->Prop}(h:K (.int .i64 mn)):Eng.ZuZ (rcs k q mn mx a n c) 257 K:=Zap (Zwd k q mn mx a n c) h
theorem Zp6{k:Int}{q:QS}{mn mx:Int}{a:Option Addr}{n c:Nat}{K:Value->Prop}(h:K (.int .i64 mx)):Eng.ZuZ (rcs k q mn mx a n c) 258 K:=Zap (Zwe k q mn mx a n c) h
theorem Zif{k:Int}{q:QS}{mn mx:Int}{a:Option Addr}{n c:Nat}{K:Prop}(h:K):chk (Nat.beq (rcs k q mn mx a n c).length 260) K:=Zaa (by rw[ZeW];rfl) h
theorem Zs4:∀(t:T)(cs:List Value)(most:Int)(m:Mem),RefT m t cs->0<=most->most<=1000000->CX Tryz.prog 83 #[.agg cs.toArray,.int .i64 most] m [] (Ret (.int .i64 (Ztq t most))):=by
 intro t
 induction hn:SizeOf.sizeOf t using Nat.strongRecOn generalizing t with
 | ind n ih=>
 intro cs most m hr h0 h1
 obtain⟨_,aU,a,c,css,rfl,aP,bO,_⟩:=ZaX.1 hr
 apply ZjD
 refine Zif λb m1 aK _=>?_
 refine⟨λxs _ _ m' q=>∃k:Nat,k<=t.subs.length/\xs=[.int .i64 (Znz t most k),.int .i64 k]/\m.le m'/\q=t.subs.length - k,⟨_,0,Nat.zero_le _,by rw[ZpG t h0];rfl,aK,rfl⟩,?_⟩
 rintro s z m2 q _ ⟨k,hk,hx,aO,hq⟩
 simp only[List.cons.injEq,Value.int.injEq,true_and,and_true]at hx
 obtain⟨rfl,rfl⟩:=hx
 subst hq
 have hb:=Zvp t h0 k
 refine⟨decide (k < t.subs.length)&&decide (Znz t most k<=most),Zbt (Zaa rfl (Zac (λaS=>⟨by trivial,?_⟩) (λbI=>⟨by trivial,?_⟩))),Zac (λh2=>?_) (λh2=>?_)⟩
 ·have aN:k < t.subs.length:=by have:=zA6 aS;simp only[slN]at this;omega
  simp[aN]
 ·have aN:¬k < t.subs.length:=by have:=of_decide_eq_false bI;simp only[slN]at this;omega
  simp[aN]
 ·simp only[zA7,decide_eq_true_eq]at h2
  obtain⟨aN,h2'⟩:=h2
  obtain⟨x,hx⟩:=ZaQ aN
  obtain⟨bb,o,cs2,ha,bA,bS⟩:=ZbZ aP bO hx
  refine Zbt (Zaa rfl ⟨bb,o,ha,⟨by omega,by simp only[slN];omega⟩,cs2,bS.len,(by rw[zA8];exact bA.mono aO),?_⟩)
  rw[Zas (by omega) (by omega)]
  have eN:=Zdi (zA2 hx)
  refine Zdx (ih _ (by omega) x rfl cs2 (most - Znz t most k) m2 (bS.mono aO) (by omega) (by omega)) λm3 aX=>?_
  have sN:=Zvo x (most:=most - Znz t most k) (by omega)
  exact⟨by trivial,_,by omega,k+1,aN,by rw[ZpH hx h2',Zas (by omega) (by omega),Zas (by omega) (by omega)];rfl,mLt aO aX,rfl⟩
 ·refine Zah aO ?_
  simp only[Bool.and_eq_false_iff,decide_eq_false_iff_not]at h2
  rcases h2 with h2|h2
  ·have:k=t.subs.length:=by omega
   subst this
   rw[ZsM]
  ·rw[ZpI (by omega)]
theorem ZuJ(t:T)(cs:List Value)(m:Mem)(hr:RefT m t cs):CX Tryz.prog 104 #[.agg cs.toArray] m [] (Ret (.bool t.light)):=by
 have hl:=hr.len
 apply ZjE
 refine Zaa (by rw[hl];rfl) λb m1 aK _=>?_
 refine Zdx (Zs4 t cs 10000 m1 (hr.mono aK) (by omega) (by omega)) λm2 aO=>Zah (mLt aK aO) ?_
 rw[Zre]
theorem Zi3(t:T)(cs:List Value)(m:Mem)(hr:RefT m t cs):CX Tryz.prog 51 #[.agg cs.toArray] m [] (Ret (.int .i64 t.size)):=by
 have hl:=hr.len
 apply ZlH
 refine Zaa (by rw[hl];rfl) λb m1 aK _=>?_
 refine Zdx (Zs4 t cs 10000 m1 (hr.mono aK) (by omega) (by omega)) λm2 aO=>Zah (mLt aK aO) ?_
 rw[Zub]
theorem Zvz(k:Int)(q:QS):List.drop (1+(ZaB q).length) (Zaz k)=[.int .i64 0,.int .i64 0,.slice none 0 0]:=by rw[Zal];rfl
theorem Zzv(k:Int)(q:QS):Zau (Zaz k) 1 (ZaB q)=rcs (IntKind.i64.wrap k) q 0 0 none 0 0:=by
 unfold Zau
 rw[Zvz];rfl
theorem ZAO(k:Int)(q:QS)(mn mx x:Int)(a:Option Addr)(n c:Nat):Zau (rcs k q mn mx a n c) 257 [.int .i64 x]=rcs k q x mx a n c:=by
 have e:rcs k q mn mx a n c=(.int .i64 k::ZaB q)++[.int .i64 mn,.int .i64 mx,.slice a n c]:=rfl
 have hl:(Value.int .i64 k::ZaB q).length=257:=by simp[Zal]
 unfold Zau
 rw[e,List.take_left' hl,List.drop_append,hl,List.drop_eq_nil_of_le (by rw[hl];simp)]
 simp[rcs]
theorem ZAP(k:Int)(q:QS)(mn mx x:Int)(a:Option Addr)(n c:Nat):Zau (rcs k q mn mx a n c) 258 [.int .i64 x]=rcs k q mn x a n c:=by
 have e:rcs k q mn mx a n c=(Value.int .i64 k::ZaB q++[Value.int .i64 mn])++[Value.int .i64 mx,Value.slice a n c]:=by simp[rcs]
 have hl:(Value.int .i64 k::ZaB q++[Value.int .i64 mn]).length=258:=by simp[Zal]
 unfold Zau
 rw[e,List.take_left' hl,List.drop_append,hl,List.drop_eq_nil_of_le (by rw[hl];simp)]
 simp[rcs]
theorem ZAQ(k:Int)(q:QS)(mn mx:Int)(a:Option Addr)(n c:Nat)(a':Option Addr)(n' c':Nat):Zau (rcs k q mn mx a n c) 259 [.slice a' n' c']=rcs k q mn mx a' n' c':=by
 have e:rcs k q mn mx a n c=(Value.int .i64 k::ZaB q++[Value.int .i64 mn,Value.int .i64 mx])++[Value.slice a n c]:=by simp[rcs]
 have hl:(Value.int .i64 k::ZaB q++[Value.int .i64 mn,Value.int .i64 mx]).length=259:=by simp[Zal]
 unfold Zau
 rw[e,List.take_left' hl,List.drop_eq_nil_of_le (by rw[zA1,hl];simp)]
 simp[rcs]
theorem Zs5{l:List Value}(h:∀u∈l,u.oneCell'=true):Zbi l=true:=by
 induction l with
 | nil=>rfl
 | cons u l ih=>simp only[Zbi,h u (by simp),Bool.true_and];exact ih λx hx=>h x (by simp[hx])
theorem ZAR(q:QS)(x y z:Value):List.take 256 (List.append (ZaB q) [x,y,z])=ZaB q:=List.take_left' (Zal q)
theorem ZAS(q:QS)(x y z:Value):List.drop 257 (List.append (ZaB q) [x,y,z])=[y,z]:=by
 show List.drop 257 (ZaB q++[x,y,z])=_
 rw[List.drop_append,Zal,List.drop_eq_nil_of_le (by rw[Zal];omega)];rfl
theorem ZAT(q:QS)(x:Value)(l:List Value):List.append (List.append (ZaB q) [x]) l=ZaB q++(x::l):=by
 show(ZaB q++[x])++l=_
 simp
theorem ZAU(q:QS)(x y z:Value):List.take 257 (ZaB q++[x,y,z])=ZaB q++[x]:=by
 rw[List.take_append,Zal,List.take_of_length_le (by rw[Zal];omega)];rfl
theorem ZAV(q:QS)(x y z:Value):List.drop 258 (ZaB q++[x,y,z])=[z]:=by
 rw[List.drop_append,Zal,List.drop_eq_nil_of_le (by rw[Zal];omega)];rfl
set_option maxHeartbeats 1600000 in
theorem Zig:∀(t:T)(m:Mem),Rep m t->t.nodes.length<=1000000->CX Tryz.prog 34 #[t.v] m [] (λv m' _=>∃cs,v=.agg cs.toArray/\RefT m' t cs):=by
 intro t
 induction hn:SizeOf.sizeOf t using Nat.strongRecOn generalizing t with
 | ind n ih=>
 intro m hr bE
 have eA:=Zpp t
 obtain⟨aU,bH⟩:=Zgz hr
 have bD:=Zv0 hr
 have hq:=ZsK bD
 apply Zid
 intro b m1 aK _ b1
 refine⟨λ_ _ _=>Ret (.agg (ZaB t.q).toArray),_,rfl,Zs3 t.q hq m1,λv _ _ h=>by rw[h];rfl,?_⟩
 intro cs m2 aO hv
 have hv:Value.agg (Array.mk cs)=.agg (ZaB t.q).toArray:=hv
 simp only[Value.agg.injEq,Array.mk.injEq]at hv
 subst hv
 have xS:IntKind.i64.wrap t.k=t.k:=Zas (by have:=bD.k.1;omega) (by have:=bD.k.2;omega)
 generalize hd:List.drop _ (Zaz t.k)=d
 obtain rfl:d=[.int .i64 0,.int .i64 0,.slice none 0 0]:=by rw[<-hd];exact Zvz t.k t.q
 clear hd
 generalize he:List.append (List.append (List.take 256 (List.append (ZaB t.q) _)) _) _=e
 obtain rfl:e=ZaB t.q++[.int .i64 t.mn,.int .i64 0,.slice none 0 0]:=by
  rw[<-he]
  exact(congr (congrArg (λu w=>List.append (List.append u [Value.int .i64 t.mn]) w) (ZAR _ _ _ _)) (ZAS _ _ _ _)).trans (ZAT _ _ _)
 clear he
 generalize hf:List.append (List.append (List.take 257 _) _) _=f
 obtain rfl:f=((ZaB t.q++[.int .i64 t.mn])++[.int .i64 t.mx])++[.slice none 0 0]:=by
  rw[<-hf]
  exact congr (congrArg (λu w=>List.append (List.append u [Value.int .i64 t.mx]) w) (ZAU _ _ _ _)) (ZAV _ _ _ _)
 clear hf
 refine Zaa (by rw[Zal];rfl) (Zaa (by simp[Zal]) (Zaa (by simp[Zal]) λb2=>Zaa ?_ ?_))
 ·rw[zA7]
  refine⟨by simp[Zal],Zs5 λu hu=>?_⟩
  simp only[List.append_assoc,List.mem_append,List.mem_cons,List.not_mem_nil,or_false]at hu
  rcases hu with hu|hu
  ·exact ZfY _ u hu
  ·rcases hu with rfl|rfl|rfl <;> rfl
 intro M cM cS
 have jT:=mLt aK cM
 refine⟨λxs css tvs m' q=>∃(k:Nat)(a:Option Addr)(c:Nat) (R:List (List Value)),k<=t.subs.length/\xs=[.int .i64 k]/\css=[rcs t.k t.q t.mn t.mx a k c]/\tvs=[.slice a k c]/\m.le m'/\rowRd m' a R.flatten/\RefAt m' (t.subs.take k) R/\k<=c/\q=t.subs.length - k,
  ⟨_,0,none,0,[],Nat.zero_le _,rfl,?_,rfl,jT,.inl rfl,by simp only[List.take_zero,RefAt],Nat.le_refl _,rfl⟩,?_⟩
 ·rw[Zzv,ZAO,ZAP,xS]
 rintro z cs a n1 c m3 q _ ⟨k,a',c',R,hk,hz,cE,bY,aX,aP,bO,nK,sS⟩
 obtain rfl:z=k:=by simpa using hz
 obtain rfl:cs=rcs t.k t.q t.mn t.mx a' k c':=by simpa using cE
 simp only[List.cons.injEq,Value.slice.injEq,and_true]at bY
 obtain⟨rfl,rfl,rfl⟩:=bY
 subst sS
 refine Zac (λaS=>?_) (λbI=>?_)
 ·have aN:n1 < t.subs.length:=by have:=zA6 aS;omega
  obtain⟨x,hx⟩:=ZaQ aN
  rcases bH with hs|⟨bb,o,ha,xX⟩
  ·rw[hs]at aN;simp at aN
  have hg:=xX.get hx
  have aZ:=Zt3 (zA2 hx)
  have eN:=Zdi (zA2 hx)
  refine⟨bb,o,ha,⟨by omega,by omega⟩,.int .u8 x.k,.int .u64 x.s0,.int .u64 x.s1,.int .u64 x.s2,.int .u64 x.s3,.int .i64 x.mn,.int .i64 x.mx,.slice x.a x.subs.length x.c,(by rw[zA8];exact λj v hv=>aX _ _ _ (hg.1 j v hv)),λb4=>Zaa rfl ⟨λ_ _ _=>(λv m' _=>∃cs:List Value,v=.agg cs.toArray/\RefT m' x cs),Zbt ⟨_,rfl,ih _ (by omega) x rfl m3 (hg.2.mono aX x) (by omega),λv _ _ ⟨_,h,_⟩=>by rw[h];rfl,?_⟩⟩⟩
  intro cs1 m4 bB hR
  obtain⟨cs2,zX,bS⟩:∃cs,Value.agg (Array.mk cs1)=.agg cs.toArray/\RefT m4 x cs:=hR
  simp only[Value.agg.injEq,Array.mk.injEq]at zX
  subst zX
  have uP:=bS.len
  refine Zaa (by rw[uP];rfl) λb5 BR=>Zaa rfl ?_
  have xY:=Mem.le_add BR (List.append cs1 [])
  have dJ:rowRd (m4.add b5 (List.append cs1 [])) (some ⟨b5,0,none⟩) cs1:=.inr ⟨b5,0,rfl,λj u hj=>by rw[Nat.zero_add,Mem.add_same];show(cs1++[])[j]?=_;rw[List.append_nil];exact hj⟩
  have fY:=ZbO bO.all
  have iP:=bO.len
  rw[List.length_take,Nat.min_eq_left (by omega)]at iP
  refine⟨.inl rfl,R.flatten,cs1,by rw[fY,iP];rfl,by rw[uP],(aP.mono bB).mono xY,dJ,bS.one,by simp only[slN];omega,by simp only[slN];omega,λa7 c7 m7 cB eP mS=>Zaa (by rw[ZeW];rfl) λM2 vT tf xZ x7=>⟨by trivial,t.subs.length - (n1+1),by omega,n1+1,a7,c7,R++[cs1],by omega,?_,?_,rfl,mLt aX vT,?_,?_,by simpa[slN]using mS,rfl⟩⟩
  ·rw[Zas (by omega) (by omega)];rfl
  ·simp only[slN]
   rw[ZAQ]
  ·rw[List.flatten_append,List.flatten_singleton];exact eP.mono x7
  ·have e:t.subs.take (n1+1)=t.subs.take n1++[x]:=by rw[List.take_add_one,hx];rfl
   rw[e]
   exact(bO.mono vT).snoc (bS.mono tf)
 ·have:n1=t.subs.length:=by have:=of_decide_eq_false bI;omega
  subst this
  rw[List.take_length]at bO
  refine Zaa (by rw[ZeW,Zs5 (ZpE _ _ _ _ _ _ _)];rfl) ⟨m3,aX,Mem.le_refl _,_,rfl,ZaX.2 ⟨bD,by omega,a,c,R,rfl,aP,bO,nK⟩⟩
theorem Zm6(mn mx:Int)(m:Mem):CX Tryz.prog 120 #[.int .i64 mn,.int .i64 mx] m [] (Ret (.bool (Zb7 mn mx))):=by
 apply Zie
 rw[<-ZAF]
 have n1:∀{p:Prop} [Decidable p],decide p=false->¬p:=λh=>of_decide_eq_false h
 refine⟨!decide (0<=mn/\mn<=16),Zac (λh=>?_) (λh=>?_),Zac (λh=>Zah (Mem.le_refl _) ?_) (λh=>?_)⟩
 ·have:=zA6 h
  rw[decide_eq_false (p:=0<=mn/\mn<=16) (by omega)];rfl
 ·have:=n1 h
  have e:decide (mn > 16)=!decide (0<=mn/\mn<=16):=by rw[Bool.eq_iff_iff];simp;omega
  rw[e]
 ·have:decide (0<=mn/\mn<=16)=false:=by rw[<-Bool.not_not (decide _),h];rfl
  rw[this];rfl
 ·have:decide (0<=mn/\mn<=16)=true:=by rw[<-Bool.not_not (decide _),h];rfl
  rw[this]
  refine Zac (λh2=>Zah (Mem.le_refl _) (by rw[h2];rfl)) (λh2=>⟨decide (0 < mx)&&(decide (mx < 17)&&(decide (mn<=mx)&&!(mn == 1&&mx == 1))),?_,Zah (Mem.le_refl _) (by rw[h2];rfl)⟩)
  refine Zac (λa=>Zac (λb=>Zac (λc=>Zac (λd=>?_) (λd=>?_)) (λc=>?_)) (λb=>?_)) (λa=>?_)
  all_goals simp_all
  all_goals omega
theorem Zs6:List.replicate 256 (Value.int .i64 0)=ZaB (0,0,0,0):=by
 refine(List.eq_replicate_iff.2 ⟨Zal _,λu hu=>?_⟩).symm
 unfold ZaB at hu
 obtain⟨c,_,rfl⟩:=List.mem_map.1 hu
 have:Zw4 (0,0,0,0) c=false:=by rw[ZmV];unfold Ze3;split <;> simp
 unfold Zqw
 rw[this];rfl
theorem Zzw(t:T):decide (t.q=(0,0,0,0))=t.setZ:=by
 unfold T.q T.setZ
 rw[Bool.eq_iff_iff]
 simp[Prod.ext_iff,and_assoc]
theorem Zyo{t:T}(hq:QOk t.q)(mn mx:Int)(a:Option Addr)(n c:Nat):EqIs Tryz.prog 64 (.agg (List.take 256 (List.drop 1 (rcs t.k t.q mn mx a n c))).toArray) (.agg (List.replicate 256 (Value.int .i64 0)).toArray) t.setZ:=by
 rw[Zkr,Zs6,<-Zzw]
 exact ZAN hq (by unfold QOk;exact⟨⟨by decide,by decide⟩,⟨by decide,by decide⟩,⟨by decide,by decide⟩,⟨by decide,by decide⟩⟩)
theorem ZwC{m:Mem}{b o:Nat}{cs:List Value}(h:m.reads b o cs){v:Value}(hv:cs[0]?=some v):m b (o+0)=some v:=h 0 v hv
theorem Za4{p:Prop} [Decidable p]{A B:Prop}(ht:p->A)(hf:¬p->B):br (decide p) A B:=Zac (λh=>ht (zA6 h)) (λh=>hf (of_decide_eq_false h))
set_option maxHeartbeats 4000000 in
theorem ZuK:∀(t:T)(cs:List Value)(m:Mem),RefT m t cs->CX Tryz.prog 105 #[.agg cs.toArray] m [] (Ret (.bool t.good)):=by
 intro t
 induction hn:SizeOf.sizeOf t using Nat.strongRecOn generalizing t with
 | ind n ih=>
 intro cs m hr
 obtain⟨bD,aU,a,c,css,rfl,aP,bO,_⟩:=ZaX.1 hr
 have kG:=Zwf t
 apply ZjG
 refine Zif λb m1 aK _ b1=>Zbc (Zaa rfl (Zac (λh1=>Zah aK ?_) (λh1=>Zbc (Zaa rfl (Zac (λh2=>Zah aK ?_) (λh2=>Zbc (Zaa rfl (Zaa (by rw[ZeW];rfl) ⟨t.setZ,Zyo (ZsK bD) _ _ _ _ _,Zac (λh3=>Zah aK ?_) (λh3=>⟨!(if t.k=5 then Zb7 t.mn t.mx else t.mn == 0&&t.mx == 0),?_,Zac (λh4=>Zah aK ?_) (λh4=>Zbt (Zaa rfl ⟨!(if t.k < 3 then t.subs.length == 0 else if t.k < 5 then decide (2<=t.subs.length)else t.subs.length == 1),?_,Zac (λh5=>Zah aK ?_) (λh5=>?_)⟩))⟩)⟩))))))))
 ·have:t.k < 1:=zA6 h1
  rw[kG,ZxW,decide_eq_false (p:=1<=t.k) (by omega)];simp
 ·have:t.k > 6:=zA6 h2
  rw[kG,ZxW,decide_eq_false (p:=t.k<=6) (by omega)];simp
 ·have h3':(!(t.k == 2) == !t.setZ)=true:=h3
  have:((t.k == 2) == !t.setZ)=false:=by
   revert h3'
   cases t.k == 2 <;> cases t.setZ <;> decide
  rw[kG,ZxW,this];simp
 ·refine Zbc (Zaa rfl (Zac (λh=>Zp5 (Zp6 ?_)) (λh=>?_)))
  ·have h':t.k=5:=eq_of_beq h
   rw[if_pos h']
   refine Zai (Zm6 t.mn t.mx m1) λm2 aO=>Zac (λhb=>⟨by trivial,by rw[hb]⟩) (λhb=>Zbc (Zaa rfl (Zac (λhk=>?_) (λhk=>⟨by trivial,?_⟩))))
   ·exact absurd h' (by simpa[intOf]using hk)
   ·have:Zb7 t.mn t.mx=true:=by rw[<-Bool.not_not (Zb7 _ _),hb];rfl
    rw[this];rfl
  ·have h':¬t.k=5:=λe=>by rw[show(intOf (.int .i64 t.k) == 5)=(t.k == 5) from rfl,e]at h;cases h
   rw[if_neg h']
   refine Zbc (Zaa rfl (Zac (λhk=>Zp5 (Zaa rfl (Zac (λhm=>⟨by trivial,?_⟩) (λhm=>Zp6 (Zaa rfl ⟨by trivial,?_⟩))))) (λhk=>?_)))
   ·have:(!t.mn == 0)=true:=hm
    cases hx:t.mn == 0 <;> simp_all
   ·have:(!t.mn == 0)=false:=hm
    show[Value.bool (!t.mx == 0)]=_
    cases hx:t.mn == 0 <;> simp_all
   ·have:(!t.k == 5)=false:=hk
    simp at this;exact absurd this h'
 ·rw[kG,ZxW]
  have:(if t.k=5 then Zb7 t.mn t.mx else t.mn == 0&&t.mx == 0)=false:=by rw[<-Bool.not_not (ite _ _ _),h4];rfl
  rw[ZAF,this];simp
 ·obtain⟨K,hK⟩:∃K,K=t.k:=⟨_,rfl⟩
  obtain⟨N,hN⟩:∃N,N=t.subs.length:=⟨_,rfl⟩
  rw[<-hK,<-hN]
  refine Zbc (Zaa rfl (Za4 (λg1=>Za4 (λg2=>?_) (λg2=>?_)) (λg1=>?_)))
  ·(refine⟨by trivial,?_⟩;simp only[intOf,slN,decide_eq_true_eq,decide_eq_false_iff_not,gt_iff_lt,Int.not_lt]at *;(repeat' split) <;> first|omega|(simp;done)|(simp;omega)|(simp only[List.cons.injEq,Value.bool.injEq,and_true];rw[Bool.eq_iff_iff];simp;omega))
  all_goals refine Zbc (Zaa rfl (Za4 (λg3=>Zbc (Zaa rfl (Za4 (λg4=>Za4 (λg5=>?_) (λg5=>Zbc (Zaa rfl (Za4 (λg6=>?_) (λg6=>?_))))) (λg4=>Zbc (Zaa rfl (Za4 (λg6=>?_) (λg6=>?_))))))) (λg3=>Zbc (Zaa rfl (Za4 (λg6=>?_) (λg6=>?_))))))
  all_goals (refine⟨by trivial,?_⟩;simp only[intOf,slN,decide_eq_true_eq,decide_eq_false_iff_not,gt_iff_lt,Int.not_lt]at *;(repeat' split) <;> first|omega|(simp;done)|(simp;omega)|(simp only[List.cons.injEq,Value.bool.injEq,and_true];rw[Bool.eq_iff_iff];simp;omega))
 ·rw[kG,ZxW]
  have:(if t.k < 3 then t.subs.length == 0 else if t.k < 5 then decide (2<=t.subs.length)else t.subs.length == 1)=false:=by rw[<-Bool.not_not (ite _ _ _),h5];rfl
  rw[this];simp
 ·have hN:ZxW t=true:=by
   have e1:decide (1<=t.k)=true:=by have:=of_decide_eq_false h1;exact decide_eq_true (by simp only[intOf]at this;omega)
   have e2:decide (t.k<=6)=true:=by have:=of_decide_eq_false h2;exact decide_eq_true (by simp only[intOf]at this;omega)
   have e3:((t.k == 2) == !t.setZ)=true:=by
    have h3':(!(t.k == 2) == !t.setZ)=false:=h3
    revert h3'
    cases t.k == 2 <;> cases t.setZ <;> decide
   have e4:(if t.k=5 then Zb7 t.mn t.mx else t.mn == 0&&t.mx == 0)=true:=by rw[<-Bool.not_not (ite _ _ _),h4];rfl
   have e5:(if t.k < 3 then t.subs.length == 0 else if t.k < 5 then decide (2<=t.subs.length)else t.subs.length == 1)=true:=by rw[<-Bool.not_not (ite _ _ _),h5];rfl
   rw[ZxW,ZAF,e1,e2,e3,e4,e5];rfl
  rw[hN,Bool.true_and]at kG
  refine⟨λxs _ _ m' q=>∃k:Nat,k<=t.subs.length/\xs=[.int .i64 k]/\m.le m'/\((t.subs.take k).all λx=>Zlg t.k x&&x.good)=true/\q=t.subs.length - k,⟨_,0,Nat.zero_le _,rfl,aK,rfl,rfl⟩,?_⟩
  rintro z m2 q _ ⟨k,hk,hx,aO,aV,hq⟩
  obtain rfl:z=k:=by simpa using hx
  subst hq
  refine Zac (λaS=>?_) (λbI=>?_)
  ·have aN:k < t.subs.length:=by have:=zA6 aS;simp only[slN]at this;omega
   obtain⟨x,hx⟩:=ZaQ aN
   obtain⟨bb,o,cs2,ha,bA,bS⟩:=ZbZ aP bO hx
   have eN:=Zdi (zA2 hx)
   have kT:m2.reads bb (o+k*260) cs2:=bA.mono aO
   obtain⟨_,_,a2,c2,css2,s4,_,_,_⟩:=ZaX.1 bS
   have h0:cs2[0]?=some (.int .i64 x.k):=by rw[s4];exact Zow _ _ _ _ _ _ _
   have cU:Zaf k (slN (.slice a t.subs.length c)):=⟨by omega,by simp only[slN];omega⟩
   have cQ:∀{K:Prop},K->K:=λh=>h
   have go:∀(P:Prop),(∀(m':Mem),m2.le m'->P)->True:=λ_ _=>trivial
   refine Zbt (Zaa rfl ⟨bb,o,ha,cU,.int .i64 x.k,ZwC (by rw[zA8];exact kT) h0,!(Zlg t.k x&&x.good),?_,Zac (λhb=>Zah aO ?_) (λhb=>⟨by trivial,_,by omega,k+1,aN,by rw[Zas (by omega) (by omega)];rfl,aO,?_,rfl⟩)⟩)
   ·repeat' (first|refine Zbc (Zaa rfl (Zac (λ_=>?_) (λ_=>?_)))|refine Zaa rfl (Zac (λ_=>?_) (λ_=>?_))|(refine And.intro rfl ?_;simp_all [intOf,Zlg];done))
    all_goals refine Zbt (Zaa rfl ⟨bb,o,ha,cU,cs2,bS.len,(by rw[zA8];exact kT),Zai (ih _ (by omega) x rfl cs2 m2 (bS.mono aO)) λm3 aX=>?_⟩)
    all_goals (refine And.intro rfl ?_;simp_all [intOf,Zlg];done)
   ·have hb':(Zlg t.k x&&x.good)=false:=by rw[<-Bool.not_not (Zlg _ _&&_),hb];rfl
    rw[kG]
    have:(t.subs.all λx=>Zlg t.k x&&x.good)=false:=by
     rw[Bool.eq_false_iff]
     intro hh
     rw[List.all_eq_true.1 hh x (zA2 hx)]at hb';cases hb'
    rw[this]
   ·have hb':(Zlg t.k x&&x.good)=true:=by rw[<-Bool.not_not (Zlg _ _&&_),hb];rfl
    rw[List.take_add_one,hx,Option.toList_some,List.all_append,aV]
    simpa using hb'
  ·have:k=t.subs.length:=by have:=of_decide_eq_false bI;simp only[slN]at this;omega
   subst this
   rw[List.take_length]at aV
   exact Zah aO (by rw[kG,aV])
theorem Zdl{x y:Int}{A B:Prop}(ht:x=y->A)(hf:¬x=y->B):br (x == y) A B:=Zac (λh=>ht (eq_of_beq h)) (λh=>hf λe=>by rw[e]at h;simp at h)
theorem Zf7(t:T)(cs:List Value)(m:Mem)(hr:RefT m t cs):CX Tryz.prog 75 #[.agg cs.toArray] m [] (Ret (.bool t.clean)):=by
 have hl:=hr.len
 apply ZjH
 refine Zaa (by rw[hl];rfl) λb m1 aK _=>⟨t.clean,?_,Zah aK rfl⟩
 refine Zai (ZuJ t cs m1 (hr.mono aK)) λm2 aO=>Zac (λh=>?_) (λh=>⟨by trivial,by unfold T.clean;rw[h];rfl⟩)
 exact Zai (ZuK t cs m2 ((hr.mono aK).mono aO)) λm3 aX=>⟨by trivial,by unfold T.clean;rw[h];rfl⟩
theorem ZBB(t u:T):decide (t.q=u.q)=(t.s0 == u.s0&&t.s1 == u.s1&&t.s2 == u.s2&&t.s3 == u.s3):=by
 unfold T.q
 rw[Bool.eq_iff_iff]
 simp[Prod.ext_iff,and_assoc]
theorem ZwD(t u:T):t.same u=(t.k == u.k&&(decide (t.q=u.q)&&(t.mn == u.mn&&(t.mx == u.mx&&ZdN t.subs u.subs)))):=by rw[Zvh,ZBB]
def Zs7(t u:T):Bool:=t.k == u.k&&(decide (t.q=u.q)&&(t.mn == u.mn&&(t.mx == u.mx&&t.subs.length == u.subs.length)))
theorem ZwE{t u:T}(h:Zs7 t u=false):t.same u=false:=by
 rw[ZwD]
 unfold Zs7 at h
 cases h1:t.k == u.k <;> rw[h1]at h <;> simp only[Bool.false_and,Bool.true_and]at h ⊢
 cases h2:decide (t.q=u.q) <;> rw[h2]at h <;> simp only[Bool.false_and,Bool.true_and]at h ⊢
 cases h3:t.mn == u.mn <;> rw[h3]at h <;> simp only[Bool.false_and,Bool.true_and]at h ⊢
 cases h4:t.mx == u.mx <;> rw[h4]at h <;> simp only[Bool.false_and,Bool.true_and]at h ⊢
 exact Zk3 (by simpa using h)
theorem ZuL{t u:T}(h:Zs7 t u=true):t.subs.length=u.subs.length/\t.same u=ZdN t.subs u.subs:=by
 rw[ZwD]
 unfold Zs7 at h
 simp only[zA7]at h
 obtain⟨h1,h2,h3,h4,h5⟩:=h
 rw[h1,h2,h3,h4]
 exact⟨by simpa using h5,by simp⟩
set_option maxHeartbeats 2000000 in
theorem Zs8:∀(t u:T)(cs ds:List Value)(m:Mem),RefT m t cs->RefT m u ds->CX Tryz.prog 78 #[.agg cs.toArray,.agg ds.toArray] m [] (Ret (.bool (t.same u))):=by
 intro t
 induction hn:SizeOf.sizeOf t using Nat.strongRecOn generalizing t with
 | ind n ih=>
 intro u cs ds m hr hu
 obtain⟨bD,aU,a,c,css,rfl,aP,bO,_⟩:=ZaX.1 hr
 obtain⟨x8,kH,a',c',dss,rfl,mT,qW,_⟩:=ZaX.1 hu
 apply ZlK
 refine Zif λb m1 aK _=>Zif λb2 m2 aO _=>?_
 have bR:=mLt aK aO
 refine⟨!Zs7 t u,?_,Zac (λh=>Zah bR ?_) (λh=>?_)⟩
 ·unfold Zs7
  refine Zbc (Zbc (Zaa rfl (Zac (λh1=>⟨by trivial,?_⟩) (λh1=>Zaa (by rw[ZeW];rfl) (Zaa (by rw[ZeW];rfl) ⟨decide (t.q=u.q),by rw[Zkr,Zkr];exact ZAN (ZsK bD) (ZsK x8),Zac (λh2=>⟨by trivial,?_⟩) (λh2=>Zp5 (Zp5 (Zaa rfl (Zac (λh3=>⟨by trivial,?_⟩) (λh3=>Zp6 (Zp6 (Zaa rfl (Zac (λh4=>⟨by trivial,?_⟩) (λh4=>Zbt (Zaa rfl (Zbt (Zaa rfl ⟨by trivial,?_⟩))))))))))))⟩)))))
  ·have h1':(!t.k == u.k)=true:=h1
   have:(t.k == u.k)=false:=by rw[<-Bool.not_not (_ == _),h1'];rfl
   rw[this];rfl
  all_goals
   have e1:(t.k == u.k)=true:=by rw[<-Bool.not_not (t.k == u.k),show(!t.k == u.k)=false from h1];rfl
   rw[e1,Bool.true_and]
  ·have:decide (t.q=u.q)=false:=by rw[<-Bool.not_not (decide _),h2];rfl
   rw[this];rfl
  all_goals
   have e2:decide (t.q=u.q)=true:=by rw[<-Bool.not_not (decide _),h2];rfl
   rw[e2,Bool.true_and]
  ·have:(t.mn == u.mn)=false:=by rw[<-Bool.not_not (_ == _),show(!t.mn == u.mn)=true from h3];rfl
   rw[this];rfl
  all_goals
   have e3:(t.mn == u.mn)=true:=by rw[<-Bool.not_not (_ == _),show(!t.mn == u.mn)=false from h3];rfl
   rw[e3,Bool.true_and]
  ·have:(t.mx == u.mx)=false:=by rw[<-Bool.not_not (_ == _),show(!t.mx == u.mx)=true from h4];rfl
   rw[this];rfl
  ·have e4:(t.mx == u.mx)=true:=by rw[<-Bool.not_not (_ == _),show(!t.mx == u.mx)=false from h4];rfl
   rw[e4,Bool.true_and]
   have e5:((t.subs.length:Int) == (u.subs.length:Int))=(t.subs.length == u.subs.length):=by rw[Bool.eq_iff_iff];simp;omega
   show[Value.bool (!((t.subs.length:Int) == (u.subs.length:Int)))]=_
   rw[e5]
 ·rw[ZwE (by rw[<-Bool.not_not (Zs7 t u),h];rfl)]
 ·obtain⟨fS,gN⟩:=ZuL (t:=t) (u:=u) (by rw[<-Bool.not_not (Zs7 t u),h];rfl)
  refine⟨λxs _ _ m' q=>∃k:Nat,k<=t.subs.length/\xs=[.int .i64 k]/\m.le m'/\ZdN (t.subs.take k) (u.subs.take k)=true/\q=t.subs.length - k,⟨_,0,Nat.zero_le _,rfl,bR,by simp[ZdN],rfl⟩,?_⟩
  rintro z m3 q _ ⟨k,hk,hz,aX,aV,hq⟩
  obtain rfl:z=k:=by simpa using hz
  subst hq
  refine Zbt (Zaa rfl (Za4 (λaS=>?_) (λbI=>?_)))
  ·have aN:k < t.subs.length:=by simp only[slN]at aS;omega
   obtain⟨x,hx⟩:=ZaQ aN
   obtain⟨y,hy⟩:=ZaQ (l:=u.subs) (k:=k) (by omega)
   obtain⟨bb,o,cs2,ha,bA,bS⟩:=ZbZ aP bO hx
   obtain⟨bb',o',ds2,ha',iT,jV⟩:=ZbZ mT qW hy
   have eN:=Zdi (zA2 hx)
   refine⟨λ_ _ _=>Ret (.bool (x.same y)),Zbt (Zaa rfl ⟨bb,o,ha,⟨by omega,by simp only[slN];omega⟩,cs2,bS.len,(by rw[zA8];exact bA.mono aX),Zbt (Zaa rfl ⟨bb',o',ha',⟨by omega,by simp only[slN];omega⟩,ds2,jV.len,(by rw[zA8];exact iT.mono aX),_,rfl,ih _ (by omega) x rfl y cs2 ds2 m3 (bS.mono aX) (jV.mono aX),λv _ _ e=>by rw[e];rfl,?_⟩)⟩)⟩
   intro b5 m4 bB hR M cM cS
   obtain rfl:b5=x.same y:=by
    have hR:Value.bool b5=.bool (x.same y):=hR
    simpa using hR
   refine Zac (λhf=>Zah (mLt aX cM) ?_) (λhf=>⟨by trivial,_,by omega,k+1,aN,by rw[Zas (by omega) (by omega)];rfl,mLt aX cM,ZiO hx hy aV (by rw[<-Bool.not_not (x.same y),hf];rfl) trivial,rfl⟩)
   rw[gN,Zom hx hy (by rw[<-Bool.not_not (x.same y),hf];rfl)]
  ·have:k=t.subs.length:=by simp only[slN]at bI;omega
   subst this
   rw[List.take_length,fS,List.take_length]at aV
   exact Zah aX (by rw[gN,aV])
theorem ZuM(m:Mem):RefT m T0 (rcs 0 (0,0,0,0) 0 0 none 0 0):=ZaX.2 ⟨⟨⟨by decide,by decide⟩,⟨by decide,by decide⟩,⟨by decide,by decide⟩,⟨by decide,by decide⟩,⟨by decide,by decide⟩,⟨by decide,by decide⟩,⟨by decide,by decide⟩⟩,by decide,none,0,[],rfl,.inl rfl,by simp only[T0,T.subs,RefAt],Nat.le_refl _⟩
end Go.Proofs.YtfgfahnakepegaaGreat
end
