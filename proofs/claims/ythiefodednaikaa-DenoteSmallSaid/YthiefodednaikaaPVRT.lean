/- Part of the proof: conditions and contracts of functions of this program. No condition of its own. -/
import Derived.Test.YthiefodednaikaaPEnv
import Derived.Test.YthiefodednaikaaMc
set_option linter.unusedVariables false
set_option linter.unusedSimpArgs false
set_option linter.unusedSectionVars false
namespace Go.Proofs.Ythiefodednaikaa
open Go Go.Eng Go.Proofs Go.RowKit
open Go.Value (int slice agg bool string tuple func)
open Go.IntKind (u8 u64 i64)
set_option maxRecDepth 100000
noncomputable def ZiV:Env:={ EB with
 loops:=(λi=>bif Nat.beq i 8 then⟨[(29,.int .i64)],[11],[(33,1)],false⟩ else⟨[],[],[],false⟩)
 dr:=(λi=>bif Nat.beq i 5 then[⟨0,[],[],none,[],[]⟩,⟨1,[],[],none,[],[]⟩,⟨2,[],[],none,[0,1],[]⟩,⟨3,[4],[],none,[],[]⟩,⟨4,[],[],none,[],[]⟩,⟨5,[],[],none,[4],[]⟩,⟨6,[],[],none,[0,1,2,3,4,5],[5]⟩,⟨7,[12],[12],none,[],[]⟩,⟨8,[12],[12],none,[0,1,2,3,4,5,6,7],[]⟩]else[])
 tokOf:=(λi=>bif Nat.beq i 33 then 33 else 0)
 frzNew:=[4]
 frzAt:=(λi=>bif Nat.beq i 28 then[12]else[])
 thaw:=true }
def ZeA(aF aC aH aI aJ aE aG:Int)(aB:Option Addr)(aA aD:Nat)(p1a:Option Addr)(p1n p1c:Nat)(p2:Int)(p3:Bool)(m:Mem)(R:RT):Prop:=
 ∀(b:Nat)(m':Mem),Mem.le m m'->Mem.reads m' b 0 [int u8 aF,int u64 aC,int u64 aH,int u64 aI,int u64 aJ,int i64 aE,int i64 aG,slice aB aA aD]->Mem.free m b->(∀(b' o:Nat) (u:
 Value),m' b' o=some u->m b' o=some u\/b'=b)->∃(R_1:RT),True/\CX Try.prog 52 (Array.mk [agg (Array.mk [int u8 aF,int u64 aC,int u64 aH,int u64 aI,int u64 aJ,int i64 aE,int i64 aG,slice
 aB aA aD]),slice p1a p1n p1c,int i64 p2]) m' [] R_1/\Zaq (Shape.int i64) R_1/\∀(n:Int)(aa:Mem),Mem.le m' aa->R_1 (int i64 n) aa []->br (!n == (0:Int)) (∃(m'':Mem),Mem.le m m''/\Mem.le m''
 aa/\R (tuple (Array.mk [slice none 0 0,int i64 n])) m'' []) (∀(a0:Nat),∃(f:Fx),∃(R_2:RT),R_2=f 5 [int i64 p2] aa/\CX Try.prog 54 (Array.mk [int i64 p2]) aa [] R_2/\Zaq (Shape.agg [Shape.int u64,
 Shape.int u64,Shape.int u64,Shape.int u64,Shape.int u64,Shape.int u64,Shape.int u64,Shape.int u64,Shape.int u64]) R_2/\∀(n ao ap aq ar au av aw ax:Int)(m':Mem),Mem.le aa m'->R_2 (agg (Array.mk [int u64
 n,int u64 ao,int u64 ap,int u64 aq,int u64 ar,int u64 au,int u64 av,int u64 aw,int u64 ax])) m' []->∃(R_3:RT),R_3=f 6 [agg (Array.mk [slice p1a p1n p1c,bool p3]),agg (Array.mk [int u8 aF,int u64
 aC,int u64 aH,int u64 aI,int u64 aJ,int i64 aE,int i64 aG,slice aB aA aD]),agg (Array.mk [int u64 n,int u64 ao,int u64 ap,int u64 aq,int u64 ar,int u64 au,int u64 av,int u64 aw,int
 u64 ax])] m'/\CX Try.prog 53 (Array.mk [agg (Array.mk [slice p1a p1n p1c,bool p3]),agg (Array.mk [int u8 aF,int u64 aC,int u64 aH,int u64 aI,int u64 aJ,int i64 aE,int i64 aG,slice aB aA
 aD]),agg (Array.mk [int u64 n,int u64 ao,int u64 ap,int u64 aq,int u64 ar,int u64 au,int u64 av,int u64 aw,int u64 ax])]) m' [] R_3/\Zaq (Shape.agg [Shape.int u64,Shape.int u64,Shape.int u64,Shape.int
 u64,Shape.int u64,Shape.int u64,Shape.int u64,Shape.int u64,Shape.int u64]) R_3/\∀(n ab ac ad ae af ag ah ai:Int)(ay:Mem),Mem.le m' ay->R_3 (agg (Array.mk [int u64 n,int u64 ab,int u64 ac,int u64 ad,
 int u64 ae,int u64 af,int u64 ag,int u64 ah,int u64 ai])) ay []->∀(aj:Nat)(M:Mem),Mem.le aa M->Mem.le m' M->Mem.le ay M->∀(m':Mem),Mem.le M m'->Mem.reads m' aj 0 [int u64 n,int u64 ab,int u64 ac,
 int u64 ad,int u64 ae,int u64 af,int u64 ag,int u64 ah,int u64 ai]->∃(R_4:RT),True/\CX Try.prog 82 (Array.mk [Value.pointer (some (Addr.mk aj 0 none))]) m' [] R_4/\Zaq Shape.fn R_4/\∀(g:Nat) (fi ca:
 List Value) (am:Mem),Mem.le m' am->R_4 (func (Fn.func g) (Array.mk fi) (Array.mk ca)) am []->∃(mi:Mem),Mem.le mi am/\∃(xs:List (List Value)),IX Try.prog g fi ca mi xs/\(∀(x:List Value),x∈xs->
 Shape.fitsL [Shape.int i64] x=true)/\∃(I:IT),I [] [[slice none 0 0]] [slice none 0 0] am 0/\(∀(al:Int)(cs:List Value)(a:Option Addr)(a1 c:Nat)(m':Mem)(az:Nat),Mem.le mi m'->List.get?Internal
 xs az=some [int i64 al]->I [] [cs] [slice a a1 c] m' az->Eng.Zty cs 0 λ(v:Value)=>∀(ak:Nat),Mem.free m' ak->chk (Zcf v&&true) ((Tok.mk (slice a a1 c) 1=Tok.mk v 1\/v=slice none 0 0\/slC v < slN
 v+1)/\∃(xs:List Value),∃(ys:List Value),List.length xs=slN v*1/\List.length ys=1*1/\rowRd (Mem.add m' ak [int i64 al]) (slA v) xs/\rowRd (Mem.add m' ak [int i64 al]) (some (Addr.mk ak 0 none)) ys/\
 (∀(u:Value),u∈ys->Value.oneCell' u=true)/\(slN v+1)*8<=140737488355328/\slN v+1<=9223372036854775807/\∀(a':Option Addr)(c':Nat)(an:Mem),Mem.le (Mem.add m' ak [int i64 al]) an->rowRd an a'
 (List.append xs ys)->TokFact (Mem.add m' ak [int i64 al]) (slA v) a' (slN v+1) c'->Mem.le mi an/\[some (Box.mk aj [int u64 n,int u64 ab,int u64 ac,int u64 ad,int u64 ae,int u64 af,int u64 ag,int u64 ah,int
 u64 ai] 95 9 true true),some (Box.mk aj [int u64 n,int u64 ab,int u64 ac,int u64 ad,int u64 ae,int u64 af,int u64 ag,int u64 ah,int u64 ai] 95 9 true true),some (Box.mk a0 [] 38 1 false true),some (Box.mk b
 [int u8 aF,int u64 aC,int u64 aH,int u64 aI,int u64 aJ,int i64 aE,int i64 aG,slice aB aA aD] 29 8 true true)]=[some (Box.mk aj [int u64 n,int u64 ab,int u64 ac,int u64 ad,int u64 ae,
 int u64 af,int u64 ag,int u64 ah,int u64 ai] 95 9 true true),some (Box.mk aj [int u64 n,int u64 ab,int u64 ac,int u64 ad,int u64 ae,int u64 af,int u64 ag,int u64 ah,int u64 ai] 95 9 true true),some (Box.mk
 a0 [] 38 1 false true),some (Box.mk b [int u8 aF,int u64 aC,int u64 aH,int u64 aI,int u64 aJ,int i64 aE,int i64 aG,slice aB aA aD] 29 8 true true)]/\I [] [[slice a' (slN v+1) c']]
 [slice a' (slN v+1) c'] an (az+1)))/\∀(cs:List Value)(a:Option Addr)(n c:Nat)(m':Mem),Mem.le mi m'->I [] [cs] [slice a n c] m' (List.length xs)->Eng.Zty cs 0 λ(v:Value)=>∃(m'':Mem),Mem.le
 m m''/\Mem.le m'' m'/\R (tuple (Array.mk [v,int i64 0])) m'' [])
theorem ZhS(aF aC aH aI aJ aE aG:Int)(aB:Option Addr)(aA aD:Nat)(p1a:Option Addr)(p1n p1c:Nat)(p2:Int)(p3:Bool)(m:Mem)(R:RT)(h:ZeA aF aC aH aI aJ aE aG aB aA aD p1a p1n p1c p2 p3 m R):CX Try.prog 47 #[.agg #[.int .u8 aF,.int .u64 aC,.int .u64 aH,.int .u64 aI,.int .u64 aJ,.int .i64 aE,.int .i64 aG,.slice aB aA aD],.slice p1a p1n p1c,.int .i64 p2,.bool p3] m [] R:=
 Zae (E:=ZiV) Zax mix Try.func47 [.v (.agg #[.int .u8 aF,.int .u64 aC,.int .u64 aH,.int .u64 aI,.int .u64 aJ,.int .i64 aE,.int .i64 aG,.slice aB aA aD]),.v (.slice p1a p1n p1c),.v (.int .i64 p2),.v (.bool p3)] [] (by kernel_rfl) (Eq.mp (by kernel_rfl) h)
noncomputable def ZlN:Env:={ EB with
 loops:=(λi=>bif Nat.beq i 4 then⟨[(30,.int .i64)],[],[],false⟩ else bif Nat.beq i 17 then⟨[(122,.int .i64)],[],[],false⟩ else bif Nat.beq i 22 then⟨[(131,.int .i64)],[],[],false⟩ else⟨[],[],[],false⟩)
 joins:=(λi=>bif Nat.beq i 8 then some [(70,.bool)]else bif Nat.beq i 10 then some [(87,.bool)]else bif Nat.beq i 12 then some [(99,.bool)]else bif Nat.beq i 14 then some [(119,.bool)]else none)
 dr:=(λi=>bif Nat.beq i 2 then[⟨0,[7],[],none,[],[]⟩,⟨1,[],[],none,[],[]⟩,⟨2,[],[],none,[],[]⟩,⟨3,[],[],none,[0,1,2],[]⟩,⟨4,[7],[],none,[],[]⟩,⟨5,[],[],none,[],[]⟩,⟨6,[],[],none,[0,1,2,3,4,5],[3]⟩,⟨7,[],[],none,[0,1,2,3,4,5,6],[]⟩,⟨8,[],[],none,[0,1,2,3,4,5,6,7],[]⟩]else[])
 frzNew:=[3]
 thaw:=true
 stAt:=(λi=>bif Nat.beq i 127 then some 999 else bif Nat.beq i 136 then some 999 else none)
 gb:=true }
def Zgv(aF aC aH aI aJ aE aG:Int)(aB:Option Addr)(aA aD:Nat)(p1a:Option Addr)(p1n p1c:Nat)(p2:Int)(m:Mem)(R:RT):Prop:=
 ∀(b:Nat)(m':Mem),Mem.le m m'->Mem.reads m' b 0 [int u8 aF,int u64 aC,int u64 aH,int u64 aI,int u64 aJ,int i64 aE,int i64 aG,slice aB aA aD]->Mem.free m b->(∀(b' o:Nat) (u:
 Value),m' b' o=some u->m b' o=some u\/b'=b)->∃(R_1:RT),True/\CX Try.prog 63 (Array.mk [agg (Array.mk [int u8 aF,int u64 aC,int u64 aH,int u64 aI,int u64 aJ,int i64 aE,int i64 aG,slice
 aB aA aD])]) m' [] R_1/\Zaq Shape.cells R_1/\∀(cs:List Value)(al:Mem),Mem.le m' al->R_1 (agg (Array.mk cs)) al []->∃(R_2:RT),True/\CX Try.prog 57 (Array.mk [slice p1a p1n p1c]) al [] R_2/\Zaq
 Shape.slice R_2/\∀(a:Option Addr)(n c:Nat)(m':Mem),Mem.le al m'->R_2 (slice a n c) m' []->∀(aa:Nat),chk (Nat.beq (List.length cs) 260&&Zcp cs) (∃(f:Fx),∃(R_3:RT),R_3=f 3 [agg (Array.mk
 cs),slice p1a p1n p1c,int i64 p2] m'/\CX Try.prog 64 (Array.mk [agg (Array.mk cs),slice p1a p1n p1c,int i64 p2]) m' [] R_3/\Zaq (Shape.int i64) R_3/\∀(ag:Int)(ah:Mem),Mem.le m' ah->R_3 (int i64 ag) ah []
 -> ∃(R_4:RT),R_4=f 6 [agg (Array.mk cs),slice p1a p1n p1c,int i64 0] ah/\CX Try.prog 64 (Array.mk [agg (Array.mk cs),slice p1a p1n p1c,int i64 0]) ah [] R_4/\Zaq (Shape.int i64) R_4/\∀(am:Int) (ao:
 Mem),Mem.le ah ao->R_4 (int i64 am) ao []->∀(M:Mem),Mem.le m' M->Mem.le ah M->Mem.le ao M->∃(I:IT),(∃(n:Nat),I [int i64 0] [] [] M n)/\∀(ap:Int)(m':Mem)(ay:Nat),True->I [int i64 ap] [] []
 m' ay->br (decide (ap < (2:Int))) (∃(R_5:RT),True/\CX Try.prog 19 (Array.mk [agg (Array.mk [int u8 aF,int u64 aC,int u64 aH,int u64 aI,int u64 aJ,int i64 aE,int i64 aG,slice aB aA
 aD]),slice a n c]) m' [] R_5/\Zaq (Shape.tup [Shape.bool,Shape.int i64]) R_5/\∀(aq:Bool)(az:Int)(an:Mem),Mem.le m' an->R_5 (tuple (Array.mk [bool aq,int i64 az])) an []->∃(R_6:RT),True/\CX
 Try.prog 14 (Array.mk [agg (Array.mk [int u8 aF,int u64 aC,int u64 aH,int u64 aI,int u64 aJ,int i64 aE,int i64 aG,slice aB aA aD]),slice a n c,int i64 p2]) an [] R_6/\Zaq (Shape.tup
 [Shape.slice,Shape.int i64]) R_6/\∀(ar:Option Addr)(ai a0:Nat)(a1:Int)(m':Mem),Mem.le an m'->R_6 (tuple (Array.mk [slice ar ai a0,int i64 a1])) m' []->∃(R_7:RT),True/\CX Try.prog 15 (Array.mk [agg
 (Array.mk [int u8 aF,int u64 aC,int u64 aH,int u64 aI,int u64 aJ,int i64 aE,int i64 aG,slice aB aA aD]),slice a n c,int i64 p2]) m' [] R_7/\Zaq (Shape.tup [Shape.slice,Shape.int i64])
 R_7/\∀(au:Option Addr)(aj a2:Nat)(a3:Int)(ac:Mem),Mem.le m' ac->R_7 (tuple (Array.mk [slice au aj a2,int i64 a3])) ac []->∃(ak:Bool),br (!az == am) ([some (Box.mk aa cs 109 260 false true),some
 (Box.mk b [int u8 aF,int u64 aC,int u64 aH,int u64 aI,int u64 aJ,int i64 aE,int i64 aG,slice aB aA aD] 29 8 true true)]=[some (Box.mk aa cs 109 260 false true),some (Box.mk b [int u8
 aF,int u64 aC,int u64 aH,int u64 aI,int u64 aJ,int i64 aE,int i64 aG,slice aB aA aD] 29 8 true true)]/\[bool true]=[bool ak]) (br (!a1 == ag) ([some (Box.mk aa cs 109 260 false true),
 some (Box.mk b [int u8 aF,int u64 aC,int u64 aH,int u64 aI,int u64 aJ,int i64 aE,int i64 aG,slice aB aA aD] 29 8 true true)]=[some (Box.mk aa cs 109 260 false true),some (Box.mk b [int
 u8 aF,int u64 aC,int u64 aH,int u64 aI,int u64 aJ,int i64 aE,int i64 aG,slice aB aA aD] 29 8 true true)]/\[bool true]=[bool ak]) (br (!a3 == ag) ([some (Box.mk aa cs 109 260 false true),
 some (Box.mk b [int u8 aF,int u64 aC,int u64 aH,int u64 aI,int u64 aJ,int i64 aE,int i64 aG,slice aB aA aD] 29 8 true true)]=[some (Box.mk aa cs 109 260 false true),some (Box.mk b [int
 u8 aF,int u64 aC,int u64 aH,int u64 aI,int u64 aJ,int i64 aE,int i64 aG,slice aB aA aD] 29 8 true true)]/\[bool true]=[bool ak]) (∃(R:RT),True/\CX Try.prog 62 (Array.mk [slice a n
 c,slice p1a p1n p1c]) ac [] R/\Zaq Shape.bool R/\∀(ad:Bool)(m':Mem),Mem.le ac m'->R (bool ad) m' []->[some (Box.mk aa cs 109 260 false true),some (Box.mk b [int u8 aF,int u64 aC,int u64 aH,int u64
 aI,int u64 aJ,int i64 aE,int i64 aG,slice aB aA aD] 29 8 true true)]=[some (Box.mk aa cs 109 260 false true),some (Box.mk b [int u8 aF,int u64 aC,int u64 aH,int u64 aI,int u64 aJ,
 int i64 aE,int i64 aG,slice aB aA aD] 29 8 true true)]/\[bool !ad]=[bool ak])))/\br ak (∃(m'':Mem),Mem.le m m''/\Mem.le m'' ac/\R (bool false) m'' []) (∃(ad:Bool),br (!am == (0:Int)) (br
 aq ([some (Box.mk aa cs 109 260 false true),some (Box.mk b [int u8 aF,int u64 aC,int u64 aH,int u64 aI,int u64 aJ,int i64 aE,int i64 aG,slice aB aA aD] 29 8 true true)]=[some (Box.mk aa
 cs 109 260 false true),some (Box.mk b [int u8 aF,int u64 aC,int u64 aH,int u64 aI,int u64 aJ,int i64 aE,int i64 aG,slice aB aA aD] 29 8 true true)]/\[bool true]=[bool ad]) (br (!ag ==
 (0:Int)) ([some (Box.mk aa cs 109 260 false true),some (Box.mk b [int u8 aF,int u64 aC,int u64 aH,int u64 aI,int u64 aJ,int i64 aE,int i64 aG,slice aB aA aD] 29 8 true true)]=[some
 (Box.mk aa cs 109 260 false true),some (Box.mk b [int u8 aF,int u64 aC,int u64 aH,int u64 aI,int u64 aJ,int i64 aE,int i64 aG,slice aB aA aD] 29 8 true true)]/\[bool !IntKind.wrap i64
 ((↑ai:Int)+(↑aj:Int)) == (0:Int)]=[bool ad]) ([some (Box.mk aa cs 109 260 false true),some (Box.mk b [int u8 aF,int u64 aC,int u64 aH,int u64 aI,int u64 aJ,int i64 aE,int i64 aG,slice
 aB aA aD] 29 8 true true)]=[some (Box.mk aa cs 109 260 false true),some (Box.mk b [int u8 aF,int u64 aC,int u64 aH,int u64 aI,int u64 aJ,int i64 aE,int i64 aG,slice aB aA aD] 29
 8 true true)]/\[bool false]=[bool ad]))) (br (!ag == (0:Int)) ([some (Box.mk aa cs 109 260 false true),some (Box.mk b [int u8 aF,int u64 aC,int u64 aH,int u64 aI,int u64 aJ,int i64 aE,int i64
 aG,slice aB aA aD] 29 8 true true)]=[some (Box.mk aa cs 109 260 false true),some (Box.mk b [int u8 aF,int u64 aC,int u64 aH,int u64 aI,int u64 aJ,int i64 aE,int i64 aG,slice aB
 aA aD] 29 8 true true)]/\[bool !IntKind.wrap i64 ((↑ai:Int)+(↑aj:Int)) == (0:Int)]=[bool ad]) ([some (Box.mk aa cs 109 260 false true),some (Box.mk b [int u8 aF,int u64 aC,int u64 aH,int u64
 aI,int u64 aJ,int i64 aE,int i64 aG,slice aB aA aD] 29 8 true true)]=[some (Box.mk aa cs 109 260 false true),some (Box.mk b [int u8 aF,int u64 aC,int u64 aH,int u64 aI,int u64 aJ,
 int i64 aE,int i64 aG,slice aB aA aD] 29 8 true true)]/\[bool false]=[bool ad]))/\br ad (∃(m'':Mem),Mem.le m m''/\Mem.le m'' ac/\R (bool false) m'' []) (∃(av:Bool),br (am == (0:Int)) (∃(R
 : RT),True/\CX Try.prog 65 (Array.mk [agg (Array.mk cs),slice p1a p1n p1c,int i64 0]) ac [] R/\Zaq Shape.slice R/\∀(a:Option Addr)(n c:Nat)(m':Mem),Mem.le ac m'->R (slice a n c) m' []->∃(R:RT),
 True/\CX Try.prog 29 (Array.mk [slice a n c,int i64 (↑p1n:Int)]) m' [] R/\Zaq Shape.bool R/\∀(ae:Bool)(af:Mem),Mem.le m' af->R (bool ae) af []->[some (Box.mk aa cs 109 260 false true),some (Box.mk b
 [int u8 aF,int u64 aC,int u64 aH,int u64 aI,int u64 aJ,int i64 aE,int i64 aG,slice aB aA aD] 29 8 true true)]=[some (Box.mk aa cs 109 260 false true),some (Box.mk b [int u8 aF,int u64
 aC,int u64 aH,int u64 aI,int u64 aJ,int i64 aE,int i64 aG,slice aB aA aD] 29 8 true true)]/\[bool !aq == ae]=[bool av]) ([some (Box.mk aa cs 109 260 false true),some (Box.mk b [int u8
 aF,int u64 aC,int u64 aH,int u64 aI,int u64 aJ,int i64 aE,int i64 aG,slice aB aA aD] 29 8 true true)]=[some (Box.mk aa cs 109 260 false true),some (Box.mk b [int u8 aF,int u64 aC,
 int u64 aH,int u64 aI,int u64 aJ,int i64 aE,int i64 aG,slice aB aA aD] 29 8 true true)]/\[bool false]=[bool av])/\br av (∃(m'':Mem),Mem.le m m''/\Mem.le m'' ac/\R (bool false) m'' [])
 (∃(ae:Bool),br (ag == (0:Int)) (∃(R:RT),True/\CX Try.prog 65 (Array.mk [agg (Array.mk cs),slice p1a p1n p1c,int i64 p2]) ac [] R/\Zaq Shape.slice R/\∀(a:Option Addr)(n c:Nat)(m':Mem),Mem.le ac
 m'->R (slice a n c) m' []->∃(R:RT),True/\CX Try.prog 28 (Array.mk [slice ar ai a0,slice a n c]) m' [] R/\Zaq Shape.bool R/\∀(ab:Bool)(af:Mem),Mem.le m' af->R (bool ab) af []->br (!ab) ([some (Box.mk
 aa cs 109 260 false true),some (Box.mk b [int u8 aF,int u64 aC,int u64 aH,int u64 aI,int u64 aJ,int i64 aE,int i64 aG,slice aB aA aD] 29 8 true true)]=[some (Box.mk aa cs 109 260 false
 true),some (Box.mk b [int u8 aF,int u64 aC,int u64 aH,int u64 aI,int u64 aJ,int i64 aE,int i64 aG,slice aB aA aD] 29 8 true true)]/\[bool true]=[bool ae]) (∃(R:RT),True/\CX
 Try.prog 66 (Array.mk [agg (Array.mk cs),slice p1a p1n p1c,int i64 p2]) af [] R/\Zaq Shape.slice R/\∀(a:Option Addr)(n c:Nat)(m':Mem),Mem.le af m'->R (slice a n c) m' []->∃(R:RT),True/\CX Try.prog
 28 (Array.mk [slice au aj a2,slice a n c]) m' [] R/\Zaq Shape.bool R/\∀(a4:Bool)(a5:Mem),Mem.le m' a5->R (bool a4) a5 []->[some (Box.mk aa cs 109 260 false true),some (Box.mk b [int u8 aF,int u64 aC,
 int u64 aH,int u64 aI,int u64 aJ,int i64 aE,int i64 aG,slice aB aA aD] 29 8 true true)]=[some (Box.mk aa cs 109 260 false true),some (Box.mk b [int u8 aF,int u64 aC,int u64 aH,int u64
 aI,int u64 aJ,int i64 aE,int i64 aG,slice aB aA aD] 29 8 true true)]/\[bool !a4]=[bool ae])) ([some (Box.mk aa cs 109 260 false true),some (Box.mk b [int u8 aF,int u64 aC,int u64 aH,int
 u64 aI,int u64 aJ,int i64 aE,int i64 aG,slice aB aA aD] 29 8 true true)]=[some (Box.mk aa cs 109 260 false true),some (Box.mk b [int u8 aF,int u64 aC,int u64 aH,int u64 aI,int u64
 aJ,int i64 aE,int i64 aG,slice aB aA aD] 29 8 true true)]/\[bool false]=[bool ae])/\br ae (∃(m'':Mem),Mem.le m m''/\Mem.le m'' ac/\R (bool false) m'' []) (∃(aw:IT),(∃(n:Nat),aw [int
 i64 0] [] [] ac n)/\∀(n:Int)(m':Mem)(a6:Nat),True->aw [int i64 n] [] [] m' a6->br (decide (n < (↑ai:Int))) (∃(ab:Nat),∃(o:Nat),ar=some (Addr.mk ab o none)/\Zaf n ai/\(∃(vs:List Value),
 List.length vs=1/\Mem.reads m' ab (o+Int.toNat n*1) vs)/\Mem.free m ab/\true=true/\b≠ab/\[some (Box.mk aa cs 109 260 false true),some (Box.mk b [int u8 aF,int u64 aC,int u64 aH,int u64 aI,int
 u64 aJ,int i64 aE,int i64 aG,slice aB aA aD] 29 8 true true)]=[some (Box.mk aa cs 109 260 false true),some (Box.mk b [int u8 aF,int u64 aC,int u64 aH,int u64 aI,int u64 aJ,int i64
 aE,int i64 aG,slice aB aA aD] 29 8 true true)]/\∃(n':Nat),n' < a6/\aw [int i64 (IntKind.wrap i64 (n+(1:Int)))] [] [] (Mem.upd m' ab (o+Int.toNat n*1) [int i64 (-7:Int)]) n') (∃(ax:IT),
 (∃(n:Nat),ax [int i64 0] [] [] m' n)/\∀(n:Int)(m':Mem)(a7:Nat),True->ax [int i64 n] [] [] m' a7->br (decide (n < (↑aj:Int))) (∃(ab:Nat),∃(o:Nat),au=some (Addr.mk ab o none)/\Zaf n aj/\
 (∃(vs:List Value),List.length vs=1/\Mem.reads m' ab (o+Int.toNat n*1) vs)/\Mem.free m ab/\true=true/\b≠ab/\[some (Box.mk aa cs 109 260 false true),some (Box.mk b [int u8 aF,int u64 aC,int u64
 aH,int u64 aI,int u64 aJ,int i64 aE,int i64 aG,slice aB aA aD] 29 8 true true)]=[some (Box.mk aa cs 109 260 false true),some (Box.mk b [int u8 aF,int u64 aC,int u64 aH,int u64 aI,
 int u64 aJ,int i64 aE,int i64 aG,slice aB aA aD] 29 8 true true)]/\∃(n':Nat),n' < a7/\ax [int i64 (IntKind.wrap i64 (n+(1:Int)))] [] [] (Mem.upd m' ab (o+Int.toNat n*1) [int i64 (-7:
 Int)]) n') ([some (Box.mk aa cs 109 260 false true),some (Box.mk b [int u8 aF,int u64 aC,int u64 aH,int u64 aI,int u64 aJ,int i64 aE,int i64 aG,slice aB aA aD] 29 8 true true)]=[some
 (Box.mk aa cs 109 260 false true),some (Box.mk b [int u8 aF,int u64 aC,int u64 aH,int u64 aI,int u64 aJ,int i64 aE,int i64 aG,slice aB aA aD] 29 8 true true)]/\∃(n':Nat),n' < ay/\I
 [int i64 (IntKind.wrap i64 (ap+(1:Int)))] [] [] m' n'))))))) (∃(m'':Mem),Mem.le m m''/\Mem.le m'' m'/\R (bool true) m'' []))
theorem Zj2(aF aC aH aI aJ aE aG:Int)(aB:Option Addr)(aA aD:Nat)(p1a:Option Addr)(p1n p1c:Nat)(p2:Int)(m:Mem)(R:RT)(h:Zgv aF aC aH aI aJ aE aG aB aA aD p1a p1n p1c p2 m R):CX Try.prog 23 #[.agg #[.int .u8 aF,.int .u64 aC,.int .u64 aH,.int .u64 aI,.int .u64 aJ,.int .i64 aE,.int .i64 aG,.slice aB aA aD],.slice p1a p1n p1c,.int .i64 p2] m [] R:=
 Zae (E:=ZlN) Zax mix Try.func23 [.v (.agg #[.int .u8 aF,.int .u64 aC,.int .u64 aH,.int .u64 aI,.int .u64 aJ,.int .i64 aE,.int .i64 aG,.slice aB aA aD]),.v (.slice p1a p1n p1c),.v (.int .i64 p2)] [] (by kernel_rfl) (Eq.mp (by kernel_rfl) h)
noncomputable def ZlO:Env:={ EB with
 loops:=(λi=>bif Nat.beq i 3 then⟨[(5,.slice),(6,.int .i64)],[],[(22,1)],false⟩ else⟨[],[],[],false⟩)
 tokOf:=(λi=>bif Nat.beq i 22 then 22 else 0)
 mkM:=(λi=>bif Nat.beq i 14 then true else false)
 thaw:=true
 stAt:=(λi=>bif Nat.beq i 18 then some 999 else none) }
def Zgw(p0 p1:Int)(m:Mem)(R:RT):Prop:=
 ∃(I:IT),(∃(n:Nat),I [slice none 0 0,int i64 0] [] [slice none 0 0] m n)/\∀(a:Option Addr)(n c:Nat)(n_1:Int)(a_1:Option Addr)(n_2 c_1:Nat)(m':Mem)(n_3:Nat),True->I [slice a n c,int i64
 n_1] [] [slice a_1 n_2 c_1] m' n_3->br (decide (n_1 < p0)) (((0:Int)<=p0/\p0<=p0/\p0*(↑(8:Nat):Int)<=(281474976710656:Int)/\p0<=(9223372036854775807:Int))/\∀(b:Nat),Mem.free m' b->∃(b_1:
 Nat),∃(o:Nat),some (Addr.mk b 0 none)=some (Addr.mk b_1 o none)/\Zaf n_1 (Int.toNat p0)/\(∃(vs:List Value),List.length vs=1/\Mem.reads (Mem.add m' b (List.flatten (List.replicate (Int.toNat p0) [int
 i64 0]))) b_1 (o+Int.toNat n_1*1) vs)/\Mem.free m b_1/\true=true/\∀(b_2:Nat),Mem.free (Mem.upd (Mem.add m' b (List.flatten (List.replicate (Int.toNat p0) [int i64 0]))) b_1 (o+Int.toNat n_1*1) [int i64
 p1]) b_2->(Tok.mk (slice a_1 n_2 c_1) 1=Tok.mk (slice a n c) 1\/slice a n c=slice none 0 0\/c < n+1)/\∃(xs:List Value),∃(ys:List Value),List.length xs=n*1/\List.length ys=1*1/\rowRd (Mem.add
 (Mem.upd (Mem.add m' b (List.flatten (List.replicate (Int.toNat p0) [int i64 0]))) b_1 (o+Int.toNat n_1*1) [int i64 p1]) b_2 [slice (some (Addr.mk b 0 none)) (Int.toNat p0) (Int.toNat p0)]) a xs/\rowRd (Mem.add
 (Mem.upd (Mem.add m' b (List.flatten (List.replicate (Int.toNat p0) [int i64 0]))) b_1 (o+Int.toNat n_1*1) [int i64 p1]) b_2 [slice (some (Addr.mk b 0 none)) (Int.toNat p0) (Int.toNat p0)]) (some (Addr.mk b_2 0
 none)) ys/\(∀(u:Value),u∈ys->Value.oneCell' u=true)/\(n+1)*24<=140737488355328/\n+1<=9223372036854775807/\∀(a':Option Addr)(c':Nat)(m'_1:Mem),Mem.le (Mem.add (Mem.upd (Mem.add m' b
 (List.flatten (List.replicate (Int.toNat p0) [int i64 0]))) b_1 (o+Int.toNat n_1*1) [int i64 p1]) b_2 [slice (some (Addr.mk b 0 none)) (Int.toNat p0) (Int.toNat p0)]) m'_1->rowRd m'_1 a' (List.append xs ys)->
 TokFact (Mem.add (Mem.upd (Mem.add m' b (List.flatten (List.replicate (Int.toNat p0) [int i64 0]))) b_1 (o+Int.toNat n_1*1) [int i64 p1]) b_2 [slice (some (Addr.mk b 0 none)) (Int.toNat p0) (Int.toNat p0)]) a a' (n
 + 1) c'->∃(n':Nat),n' < n_3/\I [slice a' (n+1) c',int i64 (IntKind.wrap i64 (n_1+(1:Int)))] [] [slice a' (n+1) c'] m'_1 n') (∃(m'':Mem),Mem.le m m''/\Mem.le m'' m'/\R (slice a n c) m'' [])
theorem Zj3(p0 p1:Int)(m:Mem)(R:RT)(h:Zgw p0 p1 m R):CX Try.prog 111 #[.int .i64 p0,.int .i64 p1] m [] R:=
 Zae (E:=ZlO) Zax mix Try.func111 [.v (.int .i64 p0),.v (.int .i64 p1)] [] (by kernel_rfl) (Eq.mp (by kernel_rfl) h)
noncomputable def ZlP:Env:={ EB with
 loops:=(λi=>bif Nat.beq i 3 then⟨[(6,.int .i64)],[],[],false⟩ else bif Nat.beq i 6 then⟨[(7,.int .i64)],[],[],false⟩ else bif Nat.beq i 9 then⟨[(8,.int .i64)],[],[],false⟩ else⟨[],[],[],false⟩)
 joins:=(λi=>bif Nat.beq i 9 then some [(39,.bool)]else none)
 thaw:=true
 stAt:=(λi=>bif Nat.beq i 55 then some 999 else none) }
def Zgx(p0a:Option Addr)(p0n p0c:Nat)(p1a:Option Addr)(p1n p1c:Nat)(m:Mem)(R:RT):Prop:=
 ∃(R_1:RT),True/\CX Try.prog 111 (Array.mk [int i64 (↑p0n:Int),int i64 0]) m [] R_1/\Zaq Shape.slice R_1/\∀(a:Option Addr)(n c:Nat)(m':Mem),Mem.le m m'->R_1 (slice a n c) m' []->∃(I:IT),(∃(n:
 Nat),I [int i64 0] [] [] m' n)/\∀(n_1:Int)(m':Mem)(n_2:Nat),True->I [int i64 n_1] [] [] m' n_2->br (decide (n_1 < (↑p0n:Int))) (∃(I_1:IT),(∃(n:Nat),I_1 [int i64 n_1] [] [] m' n)/\∀(n_3:Int)
 (m':Mem) (n_4:Nat),True->I_1 [int i64 n_3] [] [] m' n_4->br (decide (n_3 < (↑p0n:Int))) (∃(I:IT),(∃(n:Nat),I [int i64 n_3] [] [] m' n)/\∀(n_5:Int)(m':Mem)(n_6:Nat),True->I [int i64 n_5] []
 [] m' n_6->∃(b:Bool),(∃(b_1:Nat),∃(o:Nat),p0a=some (Addr.mk b_1 o none)/\Zaf n_1 p0n/\∃(v:Value),m' b_1 (o+Int.toNat n_1*1)=some v/\chk (Zcf v) (∃(b_2:Nat),∃(o:Nat),slA v=some
 (Addr.mk b_2 o none)/\Zaf n_3 (slN v)/\∃(v:Value),m' b_2 (o+Int.toNat n_3*1)=some v/\chk (Zar i64 v&&decide (i64=i64)) (br (RowKit.intOf v == (1:Int)) ([bool (decide (n_5 < (↑p0n:Int)))] =
 [bool b]) ([bool false]=[bool b]))))/\br b (∃(b:Nat),∃(o:Nat),p1a=some (Addr.mk b o none)/\Zaf n_3 p1n/\∃(v:Value),m' b (o+Int.toNat n_3*1)=some v/\chk (Zcf v) (∃(b:Nat),∃(o:Nat),
 slA v=some (Addr.mk b o none)/\Zaf n_5 (slN v)/\∃(v:Value),m' b (o+Int.toNat n_5*1)=some v/\chk (Zar i64 v&&decide (i64=i64)) (br (RowKit.intOf v == (1:Int)) (∃(b:Nat),∃(o:Nat),a =
 some (Addr.mk b o none)/\Zaf n_1 n/\∃(v:Value),m' b (o+Int.toNat n_1*1)=some v/\chk (Zcf v) (∃(b:Nat),∃(o:Nat),slA v=some (Addr.mk b o none)/\Zaf n_5 (slN v)/\(∃(vs:List Value),
 List.length vs=1/\Mem.reads m' b (o+Int.toNat n_5*1) vs)/\Mem.free m b/\true=true/\∃(n':Nat),n' < n_6/\I [int i64 (IntKind.wrap i64 (n_5+(1:Int)))] [] [] (Mem.upd m' b (o+Int.toNat n_5*1) [int
 i64 1]) n')) (∃(n':Nat),n' < n_6/\I [int i64 (IntKind.wrap i64 (n_5+(1:Int)))] [] [] m' n')))) (∃(n':Nat),n' < n_4/\I_1 [int i64 (IntKind.wrap i64 (n_3+(1:Int)))] [] [] m' n')) (∃(n':Nat),n' < n_2
 /\ I [int i64 (IntKind.wrap i64 (n_1+(1:Int)))] [] [] m' n')) (∃(m'':Mem),Mem.le m m''/\Mem.le m'' m'/\R (slice a n c) m'' [])
theorem Zj4(p0a:Option Addr)(p0n p0c:Nat)(p1a:Option Addr)(p1n p1c:Nat)(m:Mem)(R:RT)(h:Zgx p0a p0n p0c p1a p1n p1c m R):CX Try.prog 112 #[.slice p0a p0n p0c,.slice p1a p1n p1c] m [] R:=
 Zae (E:=ZlP) Zax mix Try.func112 [.v (.slice p0a p0n p0c),.v (.slice p1a p1n p1c)] [] (by kernel_rfl) (Eq.mp (by kernel_rfl) h)
noncomputable def ZnJ:Env:={ EB with
 loops:=(λi=>bif Nat.beq i 1 then⟨[(4,.int .i64)],[],[],false⟩ else bif Nat.beq i 4 then⟨[(5,.int .i64)],[],[],false⟩ else⟨[],[],[],false⟩)
 thaw:=true
 stAt:=(λi=>bif Nat.beq i 31 then some 999 else none) }
def ZhC(p0a:Option Addr)(p0n p0c:Nat)(p1a:Option Addr)(p1n p1c:Nat)(m:Mem)(Y:Nat->Prop)(R:RTY):Prop:=
 ∃(I:IT),(∃(n:Nat),I [int i64 0] [] [] m n)/\∀(n:Int)(m':Mem)(n_1:Nat),True->I [int i64 n] [] [] m' n_1->br (decide (n < (↑p0n:Int))) (∃(I_1:IT),(∃(n:Nat),I_1 [int i64 0] [] [] m' n)/\∀
 (n_2:Int) (m':Mem) (n_3:Nat),True->I_1 [int i64 n_2] [] [] m' n_3->br (decide (n_2 < (↑p0n:Int))) (∃(b:Nat),∃(o:Nat),p1a=some (Addr.mk b o none)/\Zaf n p1n/\∃(v:Value),m' b (o+Int.toNat
 n*1)=some v/\chk (Zcf v) (∃(b:Nat),∃(o:Nat),slA v=some (Addr.mk b o none)/\Zaf n_2 (slN v)/\∃(v:Value),m' b (o+Int.toNat n_2*1)=some v/\chk (Zar i64 v&&decide (i64=i64)) (br
 (RowKit.intOf v == (1:Int)) (∃(b:Nat),∃(o:Nat),p0a=some (Addr.mk b o none)/\Zaf n p0n/\∃(v:Value),m' b (o+Int.toNat n*1)=some v/\chk (Zcf v) (∃(b:Nat),∃(o:Nat),slA v=some (Addr.mk
 b o none)/\Zaf n_2 (slN v)/\(∃(vs:List Value),List.length vs=1/\Mem.reads m' b (o+Int.toNat n_2*1) vs)/\Mem.free (Mem.off m Y) b/\true=true/\∃(n':Nat),n' < n_3/\I_1 [int i64 (IntKind.wrap i64
 (n_2+(1:Int)))] [] [] (Mem.upd m' b (o+Int.toNat n_2*1) [int i64 1]) n')) (∃(n':Nat),n' < n_3/\I_1 [int i64 (IntKind.wrap i64 (n_2+(1:Int)))] [] [] m' n')))) (∃(n':Nat),n' < n_1/\I [int i64
 (IntKind.wrap i64 (n+(1:Int)))] [] [] m' n')) (R (tuple (Array.mk [])) m' [] [])
theorem Zj5(p0a:Option Addr)(p0n p0c:Nat)(p1a:Option Addr)(p1n p1c:Nat)(m:Mem)(Y:Nat->Prop)(R:RTY)(h:ZhC p0a p0n p0c p1a p1n p1c m Y R):CXY Try.prog 113 #[.slice p0a p0n p0c,.slice p1a p1n p1c] m Y [] [] R:=
 Zqp (E:=ZnJ) Zax mix Try.func113 [.v (.slice p0a p0n p0c),.v (.slice p1a p1n p1c)] [] [] [] (by decide) (by kernel_rfl) (Eq.mp (by kernel_rfl) h)
noncomputable def ZlQ:Env:={ EB with
 loops:=(λi=>bif Nat.beq i 8 then⟨[(7,.int .i64)],[],[],false⟩ else bif Nat.beq i 14 then⟨[(6,.slice),(8,.int .i64)],[],[],false⟩ else bif Nat.beq i 19 then⟨[(9,.int .i64)],[],[],false⟩ else bif Nat.beq i 29 then⟨[(12,.slice),(13,.int .i64)],[],[],false⟩ else⟨[],[],[],false⟩)
 dr:=(λi=>bif Nat.beq i 10 then[⟨0,[],[],none,[],[]⟩,⟨1,[],[],none,[],[]⟩,⟨2,[],[],none,[0,1],[]⟩,⟨3,[],[],none,[0,1,2],[]⟩,⟨4,[],[],none,[],[]⟩,⟨5,[],[],none,[4],[]⟩,⟨6,[],[],none,[],[]⟩,⟨7,[],[],none,[],[]⟩,⟨8,[],[],none,[6,7],[]⟩,⟨9,[],[],none,[6,7,8],[]⟩,⟨10,[2],[],none,[],[]⟩,⟨11,[2],[],none,[6,7,8,9,10],[]⟩,⟨12,[2],[],none,[6,7,8,9,10,11],[]⟩]else[])
 frzNew:=[2]
 thaw:=true
 stAt:=(λi=>bif Nat.beq i 46 then some 999 else none)
 last:=(λi=>bif Nat.beq i 10 then true else false)
 lastK:=(λi=>bif Nat.beq i 10 then 2 else 1)
 lentC:=(λi=>bif Nat.beq i 84 then some []else bif Nat.beq i 114 then some []else none) }
def Zd0(p0:List Value)(p1a:Option Addr)(p1n p1c:Nat)(m:Mem)(R:RT):Prop:=
 chk (Nat.beq (List.length p0) 260) (∀(b:Nat)(m':Mem),Mem.le m m'->Mem.reads m' b 0 p0->Mem.free m b->(∀(b' o:Nat)(u:Value),m' b' o=some u->m b' o=some u\/b'=b)->∃(R_1:RT),True/\CX Try.prog
 111 (Array.mk [int i64 (IntKind.wrap i64 ((↑p1n:Int)+(1:Int))),int i64 0]) m' [] R_1/\Zaq Shape.slice R_1/\∀(a:Option Addr)(n c:Nat)(ae:Mem),Mem.le m' ae->R_1 (slice a n c) ae []->Eng.Zty p0 0 fun
 (v:Value)=>chk (Zar i64 v&&decide (i64=i64)) (br (RowKit.intOf v == (1:Int)) (∃(R_2:RT),True/\CX Try.prog 111 (Array.mk [int i64 (IntKind.wrap i64 ((↑p1n:Int)+(1:Int))),int i64 1]) ae [] R_2/\
 Zaq Shape.slice R_2/\∀(a:Option Addr)(n c:Nat)(m':Mem),Mem.le ae m'->R_2 (slice a n c) m' []->∃(m'':Mem),Mem.le m m''/\Mem.le m'' m'/\R (slice a n c) m'' []) (chk (Zar i64 v&&decide (i64=i64))
 (br (RowKit.intOf v == (2:Int)) (∃(I:IT),(∃(n:Nat),I [int i64 0] [] [] ae n)/\∀(aa:Int)(m':Mem)(ag:Nat),True->I [int i64 aa] [] [] m' ag->br (decide (aa < (↑p1n:Int))) (∃(ah:Nat),∃(o:
 Nat),a=some (Addr.mk ah o none)/\Zaf aa n/\∃(v:Value),m' ah (o+Int.toNat aa*1)=some v/\∃(ab:Nat),∃(o:Nat),p1a=some (Addr.mk ab o none)/\Zaf aa p1n/\∃(aj:Value),m' ab (o +
 Int.toNat aa*1)=some aj/\chk (Zcm aj) (Zaf (RowKit.intOf aj) 256/\Eng.Zty p0 (1+Int.toNat (RowKit.intOf aj)*1) λ(au:Value)=>chk (Zcf v) (∃(ap:Nat),∃(o:Nat),slA v=some (Addr.mk ap o
 none)/\Zaf (IntKind.wrap i64 (aa+(1:Int))) (slN v)/\chk (Nat.beq (List.length (Array.toList (Value.cells au))) 1&&Zcp (Array.toList (Value.cells au))) ((∃(vs:List Value),List.length vs=1/\Mem.reads
 m' ap (o+Int.toNat (IntKind.wrap i64 (aa+(1:Int)))*1) vs)/\Mem.free m ap/\true=true/\b≠ap/\[some (Box.mk b p0 109 260 true true)]=[some (Box.mk b p0 109 260 true true)]/\∃(n':Nat),n' < ag/\I [int
 i64 (IntKind.wrap i64 (aa+(1:Int)))] [] [] (Mem.upd m' ap (o+Int.toNat (IntKind.wrap i64 (aa+(1:Int)))*1) (Array.toList (Value.cells au))) n')))) (∃(m'':Mem),Mem.le m m''/\Mem.le m'' m'/\R (slice a n
 c) m'' [])) (chk (Zar i64 v&&decide (i64=i64)) (br (RowKit.intOf v == (3:Int)) (∃(R_2:RT),True/\CX Try.prog 111 (Array.mk [int i64 (IntKind.wrap i64 ((↑p1n:Int)+(1:Int))),int i64 1]) ae [] R_2/\Zaq
 Shape.slice R_2/\∀(a:Option Addr)(n c:Nat)(m':Mem),Mem.le ae m'->R_2 (slice a n c) m' []->∃(I:IT),(∃(aa:Nat),I [slice a n c,int i64 0] [] [] m' aa)/\∀(a:Option Addr)(n c:Nat)(aa:Int) (m'
 : Mem) (ag:Nat),True->I [slice a n c,int i64 aa] [] [] m' ag->Eng.Zty p0 259 λ(v:Value)=>chk (Zcf v) (br (decide (aa < (↑(slN v):Int))) (Eng.Zty p0 259 λ(v:Value)=>chk (Zcf v) (∃(ah:Nat),∃
 (o:Nat),slA v=some (Addr.mk ah o none)/\Zaf aa (slN v)/\∃(vs:List Value),List.length vs=260/\Mem.reads m' ah (o+Int.toNat aa*260) vs/\∃(R:RT),True/\CX Try.prog 87 (Array.mk [agg (Array.mk
 vs),slice p1a p1n p1c]) m' [] R/\Zaq Shape.slice R/\∀(av:Option Addr)(af ai:Nat)(ac:Mem),Mem.le m' ac->R (slice av af ai) ac []->∃(R:RT),True/\CX Try.prog 112 (Array.mk [slice a n c,slice av af
 ai]) ac [] R/\Zaq Shape.slice R/\∀(a:Option Addr)(n c:Nat)(m':Mem),Mem.le ac m'->R (slice a n c) m' []->[some (Box.mk b p0 109 260 true true)]=[some (Box.mk b p0 109 260 true true)]/\∃(n':Nat),n' <
 ag/\I [slice a n c,int i64 (IntKind.wrap i64 (aa+(1:Int)))] [] [] m' n')) (∃(m'':Mem),Mem.le m m''/\Mem.le m'' m'/\R (slice a n c) m'' []))) (chk (Zar i64 v&&decide (i64=i64)) (br (RowKit.intOf v == (4
 : Int)) (∃(I:IT),(∃(n:Nat),I [int i64 0] [] [] ae n)/\∀(aa:Int)(m':Mem)(ag:Nat),True->I [int i64 aa] [] [] m' ag->Eng.Zty p0 259 λ(v:Value)=>chk (Zcf v) (br (decide (aa < (↑(slN v):Int)))
 (Eng.Zty p0 259 λ(v:Value)=>chk (Zcf v) (∃(ah:Nat),∃(o:Nat),slA v=some (Addr.mk ah o none)/\Zaf aa (slN v)/\∃(vs:List Value),List.length vs=260/\Mem.reads m' ah (o+Int.toNat aa*260)
 vs/\∃(R:RT),True/\CX Try.prog 87 (Array.mk [agg (Array.mk vs),slice p1a p1n p1c]) m' [] R/\Zaq Shape.slice R/\∀(aw:Option Addr)(af ai:Nat)(ac:Mem),Mem.le m' ac->R (slice aw af ai) ac []->∃(Y:Nat
 -> Prop),∃(R:Value->Mem->List (List Value)->List Value->Prop),CXY Try.prog 113 (Array.mk [slice a n c,slice aw af ai]) ac Y [] [] R/\(∀(t:Tok),t∈[]->∀(b:Nat),Tok.blk t=some b->Y b)/\(∀(ab:
 Nat),Y ab->(∃(t:Tok),t∈[]/\Tok.blk t=some ab)\/Mem.free m ab/\(∃(o:Nat),∃(v:Value),ac ab o=some v)/\b≠ab/\True)/\(∀(v:Value)(m':Mem) (css:List (List Value)) (tvs:List Value),R v m'
 css tvs->Shape.fits (Shape.tup []) v=true)/\∀(m':Mem),Mem.le (Mem.off ac Y) m'->(∀(b o:Nat)(u:Value),m' b o=some u->ac b o=some u\/Y b\/Mem.free ac b)->R (tuple (Array.mk [])) m' [] []->[some
 (Box.mk b p0 109 260 true true)]=[some (Box.mk b p0 109 260 true true)]/\∃(n':Nat),n' < ag/\I [int i64 (IntKind.wrap i64 (aa+(1:Int)))] [] [] m' n')) (∃(m'':Mem),Mem.le m m''/\Mem.le m'' m'/\R (slice a
 n c) m'' []))) (chk (Zar i64 v&&decide (i64=i64)) (br (RowKit.intOf v == (5:Int)) (Eng.Zty p0 258 λ(v:Value)=>chk (Zar i64 v&&decide (i64=i64)) (br (decide (RowKit.intOf v < (0:Int))) (Eng.Zty
 p0 257 λ(v:Value)=>chk (Zar i64 v&&decide (i64=i64)) (Eng.Zty p0 259 λ(aj:Value)=>chk (Zcf aj) (∃(ah:Nat),∃(o:Nat),slA aj=some (Addr.mk ah o none)/\Zaf (0:Int) (slN aj)/\∃(vs:
 List Value),List.length vs=260/\Mem.reads ae ah (o+0) vs/\∃(R_2:RT),True/\CX Try.prog 87 (Array.mk [agg (Array.mk vs),slice p1a p1n p1c]) ae [] R_2/\Zaq Shape.slice R_2/\∀(an:Option Addr) (aa ai:
 Nat) (m':Mem),Mem.le ae m'->R_2 (slice an aa ai) m' []->∃(R_3:RT),True/\CX Try.prog 111 (Array.mk [int i64 (IntKind.wrap i64 ((↑p1n:Int)+(1:Int))),int i64 1]) m' [] R_3/\Zaq Shape.slice R_3/\∀(aq:
 Option Addr) (ag ar:Nat) (ac:Mem),Mem.le m' ac->R_3 (slice aq ag ar) ac []->∃(I:IT),(∃(n:Nat),I [slice aq ag ar,int i64 0] [] [] ac n)/\∀(al:Option Addr)(af am:Nat)(ak:Int)(m':Mem) (ao:
 Nat),True->I [slice al af am,int i64 ak] [] [] m' ao->br (decide (ak<=IntKind.wrap i64 (RowKit.intOf v+IntKind.wrap i64 ((↑p1n:Int)+(1:Int))))) (Eng.Zty p0 257 λ(v:Value)=>chk (Zar i64 v) (br
 (decide (ak ≥ RowKit.intOf v)) (∃(Y:Nat->Prop),∃(R:Value->Mem->List (List Value)->List Value->Prop),CXY Try.prog 113 (Array.mk [slice a n c,slice al af am]) m' Y [] [] R/\(∀(t:Tok),t∈[]->∀(b:
 Nat),Tok.blk t=some b->Y b)/\(∀(ab:Nat),Y ab->(∃(t:Tok),t∈[]/\Tok.blk t=some ab)\/Mem.free m ab/\(∃(o:Nat),∃(v:Value),m' ab o=some v)/\b≠ab/\True)/\(∀(v:Value)(m':Mem) (css:
 List (List Value)) (tvs:List Value),R v m' css tvs->Shape.fits (Shape.tup []) v=true)/\∀(ad:Mem),Mem.le (Mem.off m' Y) ad->(∀(b o:Nat)(u:Value),ad b o=some u->m' b o=some u\/Y b\/Mem.free m' b)
 -> R (tuple (Array.mk [])) ad [] []->∃(R:RT),True/\CX Try.prog 112 (Array.mk [slice al af am,slice an aa ai]) ad [] R/\Zaq Shape.slice R/\∀(a:Option Addr)(n c:Nat)(m':Mem),Mem.le ad m'->R (slice a n
 c) m' []->[some (Box.mk b p0 109 260 true true)]=[some (Box.mk b p0 109 260 true true)]/\∃(n':Nat),n' < ao/\I [slice a n c,int i64 (IntKind.wrap i64 (ak+(1:Int)))] [] [] m' n') (∃(R:RT),True/\CX
 Try.prog 112 (Array.mk [slice al af am,slice an aa ai]) m' [] R/\Zaq Shape.slice R/\∀(a:Option Addr)(n c:Nat)(ad:Mem),Mem.le m' ad->R (slice a n c) ad []->[some (Box.mk b p0 109 260 true true)]=[some
 (Box.mk b p0 109 260 true true)]/\∃(n':Nat),n' < ao/\I [slice a n c,int i64 (IntKind.wrap i64 (ak+(1:Int)))] [] [] ad n'))) (∃(m'':Mem),Mem.le m m''/\Mem.le m'' m'/\R (slice a n c) m'' [])))) (Eng.Zty
 p0 259 λ(aj:Value)=>chk (Zcf aj) (∃(ah:Nat),∃(o:Nat),slA aj=some (Addr.mk ah o none)/\Zaf (0:Int) (slN aj)/\∃(vs:List Value),List.length vs=260/\Mem.reads ae ah (o+0) vs/\∃(R_2:
 RT),True/\CX Try.prog 87 (Array.mk [agg (Array.mk vs),slice p1a p1n p1c]) ae [] R_2/\Zaq Shape.slice R_2/\∀(an:Option Addr)(aa ai:Nat)(m':Mem),Mem.le ae m'->R_2 (slice an aa ai) m' []->∃(R_3:RT),
 True/\CX Try.prog 111 (Array.mk [int i64 (IntKind.wrap i64 ((↑p1n:Int)+(1:Int))),int i64 1]) m' [] R_3/\Zaq Shape.slice R_3/\∀(aq:Option Addr)(ag ar:Nat)(ac:Mem),Mem.le m' ac->R_3 (slice aq ag ar)
 ac []->∃(I:IT),(∃(n:Nat),I [slice aq ag ar,int i64 0] [] [] ac n)/\∀(al:Option Addr)(af am:Nat)(ak:Int)(m':Mem)(ao:Nat),True->I [slice al af am,int i64 ak] [] [] m' ao->chk (Zar i64 v)
 (br (decide (ak<=RowKit.intOf v)) (Eng.Zty p0 257 λ(v:Value)=>chk (Zar i64 v) (br (decide (ak ≥ RowKit.intOf v)) (∃(Y:Nat->Prop),∃(R:Value->Mem->List (List Value)->List Value->Prop),CXY Try.prog
 113 (Array.mk [slice a n c,slice al af am]) m' Y [] [] R/\(∀(t:Tok),t∈[]->∀(b:Nat),Tok.blk t=some b->Y b)/\(∀(ab:Nat),Y ab->(∃(t:Tok),t∈[]/\Tok.blk t=some ab)\/Mem.free m ab/\(∃(o:
 Nat),∃(v:Value),m' ab o=some v)/\b≠ab/\True)/\(∀(v:Value)(m':Mem) (css:List (List Value)) (tvs:List Value),R v m' css tvs->Shape.fits (Shape.tup []) v=true)/\∀(ad:Mem),Mem.le (Mem.off m'
 Y) ad->(∀(b o:Nat)(u:Value),ad b o=some u->m' b o=some u\/Y b\/Mem.free m' b)->R (tuple (Array.mk [])) ad [] []->∃(R:RT),True/\CX Try.prog 112 (Array.mk [slice al af am,slice an aa ai]) ad [] R/\
 Zaq Shape.slice R/\∀(a:Option Addr)(n c:Nat)(m':Mem),Mem.le ad m'->R (slice a n c) m' []->[some (Box.mk b p0 109 260 true true)]=[some (Box.mk b p0 109 260 true true)]/\∃(n':Nat),n' < ao/\I [slice
 a n c,int i64 (IntKind.wrap i64 (ak+(1:Int)))] [] [] m' n') (∃(R:RT),True/\CX Try.prog 112 (Array.mk [slice al af am,slice an aa ai]) m' [] R/\Zaq Shape.slice R/\∀(a:Option Addr)(n c:Nat)(ad:Mem),
 Mem.le m' ad->R (slice a n c) ad []->[some (Box.mk b p0 109 260 true true)]=[some (Box.mk b p0 109 260 true true)]/\∃(n':Nat),n' < ao/\I [slice a n c,int i64 (IntKind.wrap i64 (ak+(1:Int)))] [] [] ad
 n'))) (∃(m'':Mem),Mem.le m m''/\Mem.le m'' m'/\R (slice a n c) m'' [])))))) (chk (Zar i64 v&&decide (i64=i64)) (br (RowKit.intOf v == (6:Int)) (Eng.Zty p0 259 λ(v:Value)=>chk (Zcf v) (∃(b:Nat),
 ∃(o:Nat),slA v=some (Addr.mk b o none)/\Zaf (0:Int) (slN v)/\∃(vs:List Value),List.length vs=260/\Mem.reads ae b (o+0) vs/\∃(R_2:RT),True/\CX Try.prog 87 (Array.mk [agg (Array.mk vs),slice
 p1a p1n p1c]) ae [] R_2/\Zaq Shape.slice R_2/\∀(a:Option Addr)(n c:Nat)(m':Mem),Mem.le ae m'->R_2 (slice a n c) m' []->∃(m'':Mem),Mem.le m m''/\Mem.le m'' m'/\R (slice a n c) m'' [])) (∃(m'':
 Mem),Mem.le m m''/\Mem.le m'' ae/\R (slice a n c) m'' [])))))))))))))
theorem Zgy(p0:List Value)(p1a:Option Addr)(p1n p1c:Nat)(m:Mem)(R:RT)(h:Zd0 p0 p1a p1n p1c m R):CX Try.prog 87 #[.agg p0.toArray,.slice p1a p1n p1c] m [] R:=
 Zae (E:=ZlQ) Zax mix Try.func87 [.v (.agg p0.toArray),.v (.slice p1a p1n p1c)] [] (by kernel_rfl) (Eq.mp (by kernel_rfl) h)
noncomputable def ZlR:Env:={ EB with
 joins:=(λi=>bif Nat.beq i 1 then some [(15,.bool)]else bif Nat.beq i 5 then some [(26,.bool)]else none)
 frzNew:=[3] }
def Zgz(p0:List Value)(p1a:Option Addr)(p1n p1c:Nat)(p2:Int)(m:Mem)(R:RT):Prop:=
 chk (Nat.beq (List.length p0) 260) (∀(b:Nat)(m':Mem),Mem.le m m'->Mem.reads m' b 0 p0->∃(ac:Bool),(∃(R:RT),True/\CX Try.prog 89 (Array.mk [agg (Array.mk p0),agg (Array.mk [int i64 0,int i64 0,int
 i64 0,int i64 0,int i64 0,int i64 0,int i64 0,int i64 0,int i64 0,int i64 0,int i64 0,int i64 0,int i64 0,int i64 0,int i64 0,int i64 0,int i64 0,int i64 0,int i64 0,int i64 0,int i64 0,int i64 0,int
 i64 0,int i64 0,int i64 0,int i64 0,int i64 0,int i64 0,int i64 0,int i64 0,int i64 0,int i64 0,int i64 0,int i64 0,int i64 0,int i64 0,int i64 0,int i64 0,int i64 0,int i64 0,int i64 0,int i64 0,int
 i64 0,int i64 0,int i64 0,int i64 0,int i64 0,int i64 0,int i64 0,int i64 0,int i64 0,int i64 0,int i64 0,int i64 0,int i64 0,int i64 0,int i64 0,int i64 0,int i64 0,int i64 0,int i64 0,int i64 0,int
 i64 0,int i64 0,int i64 0,int i64 0,int i64 0,int i64 0,int i64 0,int i64 0,int i64 0,int i64 0,int i64 0,int i64 0,int i64 0,int i64 0,int i64 0,int i64 0,int i64 0,int i64 0,int i64 0,int i64 0,int
 i64 0,int i64 0,int i64 0,int i64 0,int i64 0,int i64 0,int i64 0,int i64 0,int i64 0,int i64 0,int i64 0,int i64 0,int i64 0,int i64 0,int i64 0,int i64 0,int i64 0,int i64 0,int i64 0,int i64 0,int
 i64 0,int i64 0,int i64 0,int i64 0,int i64 0,int i64 0,int i64 0,int i64 0,int i64 0,int i64 0,int i64 0,int i64 0,int i64 0,int i64 0,int i64 0,int i64 0,int i64 0,int i64 0,int i64 0,int i64 0,int
 i64 0,int i64 0,int i64 0,int i64 0,int i64 0,int i64 0,int i64 0,int i64 0,int i64 0,int i64 0,int i64 0,int i64 0,int i64 0,int i64 0,int i64 0,int i64 0,int i64 0,int i64 0,int i64 0,int i64 0,int
 i64 0,int i64 0,int i64 0,int i64 0,int i64 0,int i64 0,int i64 0,int i64 0,int i64 0,int i64 0,int i64 0,int i64 0,int i64 0,int i64 0,int i64 0,int i64 0,int i64 0,int i64 0,int i64 0,int i64 0,int
 i64 0,int i64 0,int i64 0,int i64 0,int i64 0,int i64 0,int i64 0,int i64 0,int i64 0,int i64 0,int i64 0,int i64 0,int i64 0,int i64 0,int i64 0,int i64 0,int i64 0,int i64 0,int i64 0,int i64 0,int
 i64 0,int i64 0,int i64 0,int i64 0,int i64 0,int i64 0,int i64 0,int i64 0,int i64 0,int i64 0,int i64 0,int i64 0,int i64 0,int i64 0,int i64 0,int i64 0,int i64 0,int i64 0,int i64 0,int i64 0,int
 i64 0,int i64 0,int i64 0,int i64 0,int i64 0,int i64 0,int i64 0,int i64 0,int i64 0,int i64 0,int i64 0,int i64 0,int i64 0,int i64 0,int i64 0,int i64 0,int i64 0,int i64 0,int i64 0,int i64 0,int
 i64 0,int i64 0,int i64 0,int i64 0,int i64 0,int i64 0,int i64 0,int i64 0,int i64 0,int i64 0,int i64 0,int i64 0,int i64 0,int i64 0,int i64 0,int i64 0,int i64 0,int i64 0,int i64 0,int i64 0,int
 i64 0,int i64 0,int i64 0,int i64 0,int i64 0,int i64 0,int i64 0,int i64 0,int i64 0,int i64 0,int i64 0,int i64 0,int i64 0,int i64 0,int i64 0,int i64 0,int i64 0,slice none 0 0])]) m' [] R/\Zaq
 Shape.bool R/\∀(aa:Bool)(ab:Mem),Mem.le m' ab->R (bool aa) ab []->br (!aa) (∃(R:RT),True/\CX Try.prog 85 (Array.mk [agg (Array.mk p0)]) ab [] R/\Zaq (Shape.int i64) R/\∀(n:Int)(m':Mem),Mem.le ab
 m'->R (int i64 n) m' []->[some (Box.mk b p0 109 260 true true)]=[some (Box.mk b p0 109 260 true true)]/\[bool !n == (0:Int)]=[bool ac]) ([some (Box.mk b p0 109 260 true true)]=[some (Box.mk b p0 109 260 true
 true)]/\[bool false]=[bool ac]))/\br ac (∃(m'':Mem),Mem.le m m''/\Mem.le m'' m'/\R (int i64 130) m'' []) (br (decide ((↑p1n:Int) > (512:Int))) (∃(m'':Mem),Mem.le m m''/\Mem.le m'' m'/\R (int i64 3)
 m'' []) (∃(aa:Bool),br (decide (p2 < (0:Int))) ([some (Box.mk b p0 109 260 true true)]=[some (Box.mk b p0 109 260 true true)]/\[bool true]=[bool aa]) ([some (Box.mk b p0 109 260 true true)]=[some (Box.mk b
 p0 109 260 true true)]/\[bool (decide (p2 > (↑p1n:Int)))]=[bool aa])/\br aa (∃(m'':Mem),Mem.le m m''/\Mem.le m'' m'/\R (int i64 2) m'' []) (∃(m'':Mem),Mem.le m m''/\Mem.le m'' m'/\R (int i64 0) m''
 []))))
theorem Zj6(p0:List Value)(p1a:Option Addr)(p1n p1c:Nat)(p2:Int)(m:Mem)(R:RT)(h:Zgz p0 p1a p1n p1c p2 m R):CX Try.prog 64 #[.agg p0.toArray,.slice p1a p1n p1c,.int .i64 p2] m [] R:=
 Zae (E:=ZlR) Zax mix Try.func64 [.v (.agg p0.toArray),.v (.slice p1a p1n p1c),.v (.int .i64 p2)] [] (by kernel_rfl) (Eq.mp (by kernel_rfl) h)
noncomputable def ZnK:Env:={ EB with
 loops:=(λi=>bif Nat.beq i 4 then⟨[(7,.slice),(9,.int .i64)],[],[(30,1)],false⟩ else⟨[],[],[],false⟩)
 tokOf:=(λi=>bif Nat.beq i 30 then 30 else 0)
 frzNew:=[3] }
def ZhD(p0:List Value)(p1a:Option Addr)(p1n p1c:Nat)(p2:Int)(m:Mem)(R:RT):Prop:=
 chk (Nat.beq (List.length p0) 260) (∀(b:Nat)(m':Mem),Mem.le m m'->Mem.reads m' b 0 p0->∃(R_1:RT),True/\CX Try.prog 87 (Array.mk [agg (Array.mk p0),slice p1a p1n p1c]) m' [] R_1/\Zaq Shape.slice R_1/\∀
 (a:Option Addr) (n c:Nat) (m'_1:Mem),Mem.le m' m'_1->R_1 (slice a n c) m'_1 []->∃(I:IT),(∃(n:Nat),I [slice none 0 0,int i64 0] [] [slice none 0 0] m'_1 n)/\∀(a_3:Option Addr)(n_1 c:Nat) (n_2:
 Int) (a_4:Option Addr) (n_3 c_1:Nat) (m':Mem) (n_4:Nat),Mem.le m'_1 m'->I [slice a_3 n_1 c,int i64 n_2] [] [slice a_4 n_3 c_1] m' n_4->br (decide (n_2 < (↑n:Int))) (∃(b_1:Nat),∃(o:Nat),a=some
 (Addr.mk b_1 o none)/\Zaf p2 n/\∃(v:Value),m' b_1 (o+Int.toNat p2*1)=some v/\chk (Zcf v) (∃(b_2:Nat),∃(o:Nat),slA v=some (Addr.mk b_2 o none)/\Zaf n_2 (slN v)/\∃(v:Value),m' b_2 (o
 + Int.toNat n_2*1)=some v/\chk (Zar i64 v&&decide (i64=i64)) (br (RowKit.intOf v == (1:Int)) (∀(b_3:Nat),Mem.free m' b_3->(Tok.mk (slice a_4 n_3 c_1) 1=Tok.mk (slice a_3 n_1 c) 1\/slice a_3 n_1 c =
 slice none 0 0\/c < n_1+1)/\∃(xs:List Value),∃(ys:List Value),List.length xs=n_1*1/\List.length ys=1*1/\rowRd (Mem.add m' b_3 [int i64 n_2]) a_3 xs/\rowRd (Mem.add m' b_3 [int i64 n_2]) (some
 (Addr.mk b_3 0 none)) ys/\(∀(u:Value),u∈ys->Value.oneCell' u=true)/\(n_1+1)*8<=140737488355328/\n_1+1<=9223372036854775807/\∀(a':Option Addr)(c':Nat)(m'_2:Mem),Mem.le (Mem.add m' b_3 [int
 i64 n_2]) m'_2->rowRd m'_2 a' (List.append xs ys)->[some (Box.mk b p0 109 260 true true)]=[some (Box.mk b p0 109 260 true true)]/\∃(n':Nat),n' < n_4/\I [slice a' (n_1+1) c',int i64 (IntKind.wrap i64 (n_2 +
 (1:Int)))] [] [slice a' (n_1+1) c'] m'_2 n') ([some (Box.mk b p0 109 260 true true)]=[some (Box.mk b p0 109 260 true true)]/\∃(n':Nat),n' < n_4/\I [slice a_3 n_1 c,int i64 (IntKind.wrap i64 (n_2+(1:
 Int)))] [] [slice a_4 n_3 c_1] m' n')))) (∃(m'':Mem),Mem.le m m''/\Mem.le m'' m'/\R (slice a_3 n_1 c) m'' []))
theorem ZlS(p0:List Value)(p1a:Option Addr)(p1n p1c:Nat)(p2:Int)(m:Mem)(R:RT)(h:ZhD p0 p1a p1n p1c p2 m R):CX Try.prog 65 #[.agg p0.toArray,.slice p1a p1n p1c,.int .i64 p2] m [] R:=
 Zae (E:=ZnK) Zax mix Try.func65 [.v (.agg p0.toArray),.v (.slice p1a p1n p1c),.v (.int .i64 p2)] [] (by kernel_rfl) (Eq.mp (by kernel_rfl) h)
noncomputable def Zj7:Env:={ EB with
 loops:=(λi=>bif Nat.beq i 4 then⟨[(7,.slice),(9,.int .i64)],[],[(30,1)],false⟩ else⟨[],[],[],false⟩)
 tokOf:=(λi=>bif Nat.beq i 30 then 30 else 0)
 frzNew:=[3] }
def ZfA(p0:List Value)(p1a:Option Addr)(p1n p1c:Nat)(p2:Int)(m:Mem)(R:RT):Prop:=
 chk (Nat.beq (List.length p0) 260) (∀(b:Nat)(m':Mem),Mem.le m m'->Mem.reads m' b 0 p0->∃(R_1:RT),True/\CX Try.prog 87 (Array.mk [agg (Array.mk p0),slice p1a p1n p1c]) m' [] R_1/\Zaq Shape.slice R_1/\∀
 (a:Option Addr) (n c:Nat) (m'_1:Mem),Mem.le m' m'_1->R_1 (slice a n c) m'_1 []->∃(I:IT),(∃(n:Nat),I [slice none 0 0,int i64 0] [] [slice none 0 0] m'_1 n)/\∀(a_3:Option Addr)(n_1 c:Nat) (n_2:
 Int) (a_4:Option Addr) (n_3 c_1:Nat) (m':Mem) (n_4:Nat),Mem.le m'_1 m'->I [slice a_3 n_1 c,int i64 n_2] [] [slice a_4 n_3 c_1] m' n_4->br (decide (n_2 < (↑n:Int))) (∃(b_1:Nat),∃(o:Nat),a=some
 (Addr.mk b_1 o none)/\Zaf n_2 n/\∃(v:Value),m' b_1 (o+Int.toNat n_2*1)=some v/\chk (Zcf v) (∃(b_2:Nat),∃(o:Nat),slA v=some (Addr.mk b_2 o none)/\Zaf p2 (slN v)/\∃(v:Value),m' b_2 (o
 + Int.toNat p2*1)=some v/\chk (Zar i64 v&&decide (i64=i64)) (br (RowKit.intOf v == (1:Int)) (∀(b_3:Nat),Mem.free m' b_3->(Tok.mk (slice a_4 n_3 c_1) 1=Tok.mk (slice a_3 n_1 c) 1\/slice a_3 n_1 c =
 slice none 0 0\/c < n_1+1)/\∃(xs:List Value),∃(ys:List Value),List.length xs=n_1*1/\List.length ys=1*1/\rowRd (Mem.add m' b_3 [int i64 n_2]) a_3 xs/\rowRd (Mem.add m' b_3 [int i64 n_2]) (some
 (Addr.mk b_3 0 none)) ys/\(∀(u:Value),u∈ys->Value.oneCell' u=true)/\(n_1+1)*8<=140737488355328/\n_1+1<=9223372036854775807/\∀(a':Option Addr)(c':Nat)(m'_2:Mem),Mem.le (Mem.add m' b_3 [int
 i64 n_2]) m'_2->rowRd m'_2 a' (List.append xs ys)->[some (Box.mk b p0 109 260 true true)]=[some (Box.mk b p0 109 260 true true)]/\∃(n':Nat),n' < n_4/\I [slice a' (n_1+1) c',int i64 (IntKind.wrap i64 (n_2 +
 (1:Int)))] [] [slice a' (n_1+1) c'] m'_2 n') ([some (Box.mk b p0 109 260 true true)]=[some (Box.mk b p0 109 260 true true)]/\∃(n':Nat),n' < n_4/\I [slice a_3 n_1 c,int i64 (IntKind.wrap i64 (n_2+(1:
 Int)))] [] [slice a_4 n_3 c_1] m' n')))) (∃(m'':Mem),Mem.le m m''/\Mem.le m'' m'/\R (slice a_3 n_1 c) m'' []))
theorem ZiW(p0:List Value)(p1a:Option Addr)(p1n p1c:Nat)(p2:Int)(m:Mem)(R:RT)(h:ZfA p0 p1a p1n p1c p2 m R):CX Try.prog 66 #[.agg p0.toArray,.slice p1a p1n p1c,.int .i64 p2] m [] R:=
 Zae (E:=Zj7) Zax mix Try.func66 [.v (.agg p0.toArray),.v (.slice p1a p1n p1c),.v (.int .i64 p2)] [] (by kernel_rfl) (Eq.mp (by kernel_rfl) h)
end Go.Proofs.Ythiefodednaikaa