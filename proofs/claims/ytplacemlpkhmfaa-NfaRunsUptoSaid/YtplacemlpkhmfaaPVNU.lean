/- Part of the proof: conditions and contracts of functions of this program. No condition of its own. -/
import Derived.Test.YtplacemlpkhmfaaPEnv
import Derived.Test.YtplacemlpkhmfaaMc
set_option linter.unusedVariables false
namespace Go.Proofs.Ytplacemlpkhmfaa
open Go Go.Eng Go.Proofs Go.RowKit
open Go.Value (int slice agg)
open Go.IntKind (u8 u64 i64)
set_option maxRecDepth 100000
noncomputable def Zoq:Env:={ EB with
 loops:=(fun i=>bif Nat.beq i 7 then⟨[(6,.slice),(7,.int .i64)],[],[],false⟩ else⟨[],[],[],false⟩)
 dr:=(fun i=>bif Nat.beq i 9 then[⟨0,[2],[],none,[],[]⟩,⟨1,[],[],none,[],[]⟩,⟨2,[],[],none,[],[]⟩,⟨3,[],[],none,[],[]⟩,⟨4,[],[],none,[2,3],[]⟩,⟨5,[],[],none,[2,3,4],[]⟩,⟨6,[],[],none,[0,1,2,3,4,5],[]⟩,⟨7,[],[],none,[0,1,2,3,4,5,6],[]⟩]else[])
 frzNew:=[2] }
def ZhO(aL:Option Addr)(aA aM:Nat)(aK:Option Addr)(aB aN:Nat)(aG:Option Addr)(aD aJ:Nat)(aH:Option Addr)(aE aI:Nat)(aC:Bool)(p1a:Option Addr)(p1n p1c:Nat)(m:Mem)(R:RT):Prop:=
 ∀(b:Nat)(m':Mem),Mem.le m m'→Mem.reads m' b 0 [slice aL aA aM,slice aK aB aN,slice aG aD aJ,slice aH aE aI,Value.bool aC]→∃(R_1:RT),True∧CX Try.prog 45
 (Array.mk [agg (Array.mk [slice aL aA aM,slice aK aB aN,slice aG aD aJ,slice aH aE aI,Value.bool aC])]) m' [] R_1∧ZaA Shape.bool R_1∧∀(b_1:Bool)(m'_1:Mem),Mem.le m'
 m'_1→R_1 (Value.bool b_1) m'_1 []→br (!b_1) (∃(m'':Mem),Mem.le m m''∧Mem.le m'' m'_1∧R (Value.tuple (Array.mk [slice none 0 0,int i64 171])) m'' []) (br (decide ((↑p1n:Int) > (4096:Int))) (∃(m'':
 Mem),Mem.le m m''∧Mem.le m'' m'_1∧R (Value.tuple (Array.mk [slice none 0 0,int i64 3])) m'' []) (∀(b_2:Nat),Mem.free m'_1 b_2→∃(I:IT),(∃(n:Nat),I [slice (some (Addr.mk b_2 0 none)) 1 1,int i64 0] []
 [] (Mem.add m'_1 b_2 [int i64 (-1:Int)]) n)∧∀(a:Option Addr)(n c:Nat)(n_1:Int)(m':Mem)(n_2:Nat),Mem.le (Mem.add m'_1 b_2 [int i64 (-1:Int)]) m'→I [slice a n c,int i64 n_1] [] [] m' n_2→br
 (decide (n_1 < (↑p1n:Int))) (∃(f:Fx),∃(b_3:Nat),∃(o:Nat),p1a=some (Addr.mk b_3 o none)∧Zac n_1 p1n∧∃(v:Value),m' b_3 (o+Int.toNat n_1*1)=some v∧∃(R:RT),R=f 6 [agg (Array.mk
 [slice aL aA aM,slice aK aB aN,slice aG aD aJ,slice aH aE aI,Value.bool aC]),slice a n c,v] m'∧CX Try.prog 48 (Array.mk [agg (Array.mk [slice aL aA aM,slice aK
 aB aN,slice aG aD aJ,slice aH aE aI,Value.bool aC]),slice a n c,v]) m' [] R∧ZaA Shape.slice R∧∀(a:Option Addr)(n c:Nat)(m'_2:Mem),Mem.le m' m'_2→R (slice a n c) m'_2 []→
 ∀(M:Mem),Mem.le m' M→Mem.le m'_2 M→[some (Box.mk b_2 [int i64 (-1:Int)] 3 1 true true),some (Box.mk b [slice aL aA aM,slice aK aB aN,slice aG aD aJ,slice aH aE aI,
 Value.bool aC] 79 5 true true)]=[some (Box.mk b_2 [int i64 (-1:Int)] 3 1 true true),some (Box.mk b [slice aL aA aM,slice aK aB aN,slice aG aD aJ,slice aH aE aI,Value.bool
 aC] 79 5 true true)]∧∃(n':Nat),n' < n_2∧I [slice a n c,int i64 (IntKind.wrap i64 (n_1+(1:Int)))] [] [] M n') (∃(m'':Mem),Mem.le m m''∧Mem.le m'' m'∧R (Value.tuple (Array.mk [slice a n c,int i64
 0])) m'' [])))
theorem Zmq(aL:Option Addr)(aA aM:Nat)(aK:Option Addr)(aB aN:Nat)(aG:Option Addr)(aD aJ:Nat)(aH:Option Addr)(aE aI:Nat)(aC:Bool)(p1a:Option Addr)(p1n p1c:Nat)(m:Mem)(R:RT)(h:ZhO aL aA aM aK aB aN aG aD aJ aH aE aI aC p1a p1n p1c m R):CX Try.prog 53 #[.agg #[.slice aL aA aM,.slice aK aB aN,.slice aG aD aJ,.slice aH aE aI,.bool aC],.slice p1a p1n p1c] m [] R:=
 Zaj (E:=Zoq) Zaw mix Try.func53 [.v (.agg #[.slice aL aA aM,.slice aK aB aN,.slice aG aD aJ,.slice aH aE aI,.bool aC]),.v (.slice p1a p1n p1c)] [] (by kernel_rfl) (Eq.mp (by kernel_rfl) h)
noncomputable def ZiY:Env:={ EB with
 loops:=(fun i=>bif Nat.beq i 6 then⟨[(9,.int .i64)],[24],[],false⟩ else bif Nat.beq i 10 then⟨[(10,.slice),(11,.int .i64)],[24],[],false⟩ else⟨[],[],[],false⟩)
 dr:=(fun i=>bif Nat.beq i 15 then[⟨0,[2],[],none,[],[]⟩,⟨1,[],[],none,[],[]⟩,⟨2,[],[],none,[],[]⟩,⟨3,[],[],none,[],[]⟩,⟨4,[],[],none,[2,3],[]⟩,⟨5,[],[],none,[2,3,4],[]⟩,⟨6,[],[],none,[0,1,2,3,4,5],[]⟩,⟨7,[],[],none,[0,1,2,3,4,5,6],[]⟩]else[])
 frzNew:=[2]
 frzAt:=(fun i=>bif Nat.beq i 57 then[24]else[]) }
def ZeP(aL:Option Addr)(aA aM:Nat)(aK:Option Addr)(aB aN:Nat)(aG:Option Addr)(aD aJ:Nat)(aH:Option Addr)(aE aI:Nat)(aC:Bool)(p1a:Option Addr)(p1n p1c:Nat)(m:Mem)(R:RT):Prop:=
 ∀(b:Nat)(m':Mem),Mem.le m m'→Mem.reads m' b 0 [slice aL aA aM,slice aK aB aN,slice aG aD aJ,slice aH aE aI,Value.bool aC]→∃(R_1:RT),True∧CX Try.prog 53
 (Array.mk [agg (Array.mk [slice aL aA aM,slice aK aB aN,slice aG aD aJ,slice aH aE aI,Value.bool aC]),slice p1a p1n p1c]) m' [] R_1∧ZaA (Shape.tup [Shape.slice,Shape.int
 i64]) R_1∧∀(a:Option Addr)(n c:Nat)(ak:Int)(aj:Mem),Mem.le m' aj→R_1 (Value.tuple (Array.mk [slice a n c,int i64 ak])) aj []→br (!ak == (0:Int)) (∃(m'':Mem),Mem.le m m''∧Mem.le m'' aj∧R
 (Value.tuple (Array.mk [slice none 0 0,int i64 ak])) m'' []) (((0:Int)≤IntKind.wrap i64 ((↑p1n:Int)+(1:Int))∧IntKind.wrap i64 ((↑p1n:Int)+(1:Int))≤IntKind.wrap i64 ((↑p1n:Int)+(1:Int))∧
 IntKind.wrap i64 ((↑p1n:Int)+(1:Int))*(↑(8:Nat):Int)≤(281474976710656:Int)∧IntKind.wrap i64 ((↑p1n:Int)+(1:Int))≤(9223372036854775807:Int))∧∀(ab:Nat),∃(I:IT),(∃(n:Nat),I [int
 i64 0] [List.flatten (List.replicate (Int.toNat (IntKind.wrap i64 ((↑p1n:Int)+(1:Int)))) [int i64 0])] [] aj n)∧∀(n:Int)(cs:List Value)(m':Mem)(al:Nat),Mem.le aj m'→I [int i64 n] [cs] [] m' al→
 br (decide (n≤(↑p1n:Int))) (∀(ac:Nat),Mem.free m' ac→∃(ag:IT),(∃(ad:Nat),ag [slice (some (Addr.mk ac 0 none)) 1 1,int i64 n] [cs] [] (Mem.add m' ac [int i64 (-1:Int)]) ad)∧∀(a:Option Addr) (ad
 c:Nat) (aa:Int) (cs:List Value) (af:Mem) (ai:Nat),Mem.le (Mem.add m' ac [int i64 (-1:Int)]) af→ag [slice a ad c,int i64 aa] [cs] [] af ai→br (decide (aa≤(↑p1n:Int))) (∃(R:RT),True∧CX Try.prog
 49 (Array.mk [agg (Array.mk [slice aL aA aM,slice aK aB aN,slice aG aD aJ,slice aH aE aI,Value.bool aC]),slice a ad c]) af [] R∧ZaA Shape.bool R∧∀(am:Bool)(m':Mem),
 Mem.le af m'→R (Value.bool am) m' []→br am (Zac aa (Int.toNat (IntKind.wrap i64 ((↑p1n:Int)+(1:Int))))∧bif Nat.beq (Int.toNat (IntKind.wrap i64 ((↑p1n:Int)+(1:Int)))*1) 1&&Nat.beq (Int.toNat aa
 * 1) 0 then br (decide (aa < (↑p1n:Int))) (∃(f:Fx),∃(ah:Nat),∃(o:Nat),p1a=some (Addr.mk ah o none)∧Zac aa p1n∧∃(v:Value),m' ah (o+Int.toNat aa*1)=some v∧∃(R:RT),R=f 6 [agg
 (Array.mk [slice aL aA aM,slice aK aB aN,slice aG aD aJ,slice aH aE aI,Value.bool aC]),slice a ad c,v] m'∧CX Try.prog 48 (Array.mk [agg (Array.mk [slice aL aA aM,
 slice aK aB aN,slice aG aD aJ,slice aH aE aI,Value.bool aC]),slice a ad c,v]) m' [] R∧ZaA Shape.slice R∧∀(a:Option Addr)(n c:Nat)(ae:Mem),Mem.le m' ae→R (slice a n c)
 ae []→∀(M:Mem),Mem.le m' M→Mem.le ae M→[some (Box.mk ac [int i64 (-1:Int)] 3 1 true true),some (Box.mk ab [] 3 (Int.toNat (IntKind.wrap i64 ((↑p1n:Int)+(1:Int)))*1) false true),some (Box.mk b
 [slice aL aA aM,slice aK aB aN,slice aG aD aJ,slice aH aE aI,Value.bool aC] 79 5 true true)]=[some (Box.mk ac [int i64 (-1:Int)] 3 1 true true),some (Box.mk ab [] 3
 (Int.toNat (IntKind.wrap i64 ((↑p1n:Int)+(1:Int)))*1) false true),some (Box.mk b [slice aL aA aM,slice aK aB aN,slice aG aD aJ,slice aH aE aI,Value.bool aC] 79 5 true
 true)]∧∃(n':Nat),n' < ai∧ag [slice a n c,int i64 (IntKind.wrap i64 (aa+(1:Int)))] [[int i64 1]] [] M n') ([some (Box.mk ac [int i64 (-1:Int)] 3 1 true true),some (Box.mk ab [] 3 (Int.toNat (IntKind.wrap
 i64 ((↑p1n:Int)+(1:Int)))*1) false true),some (Box.mk b [slice aL aA aM,slice aK aB aN,slice aG aD aJ,slice aH aE aI,Value.bool aC] 79 5 true true)]=[some (Box.mk ac
 [int i64 (-1:Int)] 3 1 true true),some (Box.mk ab [] 3 (Int.toNat (IntKind.wrap i64 ((↑p1n:Int)+(1:Int)))*1) false true),some (Box.mk b [slice aL aA aM,slice aK aB aN,slice aG aD
 aJ,slice aH aE aI,Value.bool aC] 79 5 true true)]∧∃(n':Nat),n' < ai∧ag [slice a ad c,int i64 (IntKind.wrap i64 (aa+(1:Int)))] [[int i64 1]] [] m' n')else chk (Nat.ble (Int.toNat aa*1+1)
 (List.length cs)) (br (decide (aa < (↑p1n:Int))) (∃(f:Fx),∃(ah:Nat),∃(o:Nat),p1a=some (Addr.mk ah o none)∧Zac aa p1n∧∃(v:Value),m' ah (o+Int.toNat aa*1)=some v∧∃(R:RT),R=f 6
 [agg (Array.mk [slice aL aA aM,slice aK aB aN,slice aG aD aJ,slice aH aE aI,Value.bool aC]),slice a ad c,v] m'∧CX Try.prog 48 (Array.mk [agg (Array.mk [slice aL aA
 aM,slice aK aB aN,slice aG aD aJ,slice aH aE aI,Value.bool aC]),slice a ad c,v]) m' [] R∧ZaA Shape.slice R∧∀(a:Option Addr)(n c:Nat)(ae:Mem),Mem.le m' ae→R (slice a
 n c) ae []→∀(M:Mem),Mem.le m' M→Mem.le ae M→[some (Box.mk ac [int i64 (-1:Int)] 3 1 true true),some (Box.mk ab [] 3 (Int.toNat (IntKind.wrap i64 ((↑p1n:Int)+(1:Int)))*1) false true),some (Box.mk b
 [slice aL aA aM,slice aK aB aN,slice aG aD aJ,slice aH aE aI,Value.bool aC] 79 5 true true)]=[some (Box.mk ac [int i64 (-1:Int)] 3 1 true true),some (Box.mk ab [] 3
 (Int.toNat (IntKind.wrap i64 ((↑p1n:Int)+(1:Int)))*1) false true),some (Box.mk b [slice aL aA aM,slice aK aB aN,slice aG aD aJ,slice aH aE aI,Value.bool aC] 79 5 true
 true)]∧∃(n':Nat),n' < ai∧ag [slice a n c,int i64 (IntKind.wrap i64 (aa+(1:Int)))] [Zan cs (Int.toNat aa*1) [int i64 1]] [] M n') ([some (Box.mk ac [int i64 (-1:Int)] 3 1 true true),some (Box.mk ab
 [] 3 (Int.toNat (IntKind.wrap i64 ((↑p1n:Int)+(1:Int)))*1) false true),some (Box.mk b [slice aL aA aM,slice aK aB aN,slice aG aD aJ,slice aH aE aI,Value.bool aC] 79 5
 true true)]=[some (Box.mk ac [int i64 (-1:Int)] 3 1 true true),some (Box.mk ab [] 3 (Int.toNat (IntKind.wrap i64 ((↑p1n:Int)+(1:Int)))*1) false true),some (Box.mk b [slice aL aA aM,slice aK
 aB aN,slice aG aD aJ,slice aH aE aI,Value.bool aC] 79 5 true true)]∧∃(n':Nat),n' < ai∧ag [slice a ad c,int i64 (IntKind.wrap i64 (aa+(1:Int)))] [Zan cs (Int.toNat aa*1)
 [int i64 1]] [] m' n'))) (br (decide (aa < (↑p1n:Int))) (∃(f:Fx),∃(ah:Nat),∃(o:Nat),p1a=some (Addr.mk ah o none)∧Zac aa p1n∧∃(v:Value),m' ah (o+Int.toNat aa*1)=some v∧∃(R:RT),R =
 f 6 [agg (Array.mk [slice aL aA aM,slice aK aB aN,slice aG aD aJ,slice aH aE aI,Value.bool aC]),slice a ad c,v] m'∧CX Try.prog 48 (Array.mk [agg (Array.mk [slice aL aA
 aM,slice aK aB aN,slice aG aD aJ,slice aH aE aI,Value.bool aC]),slice a ad c,v]) m' [] R∧ZaA Shape.slice R∧∀(a:Option Addr)(n c:Nat)(ae:Mem),Mem.le m' ae→R (slice a
 n c) ae []→∀(M:Mem),Mem.le m' M→Mem.le ae M→[some (Box.mk ac [int i64 (-1:Int)] 3 1 true true),some (Box.mk ab [] 3 (Int.toNat (IntKind.wrap i64 ((↑p1n:Int)+(1:Int)))*1) false true),some (Box.mk b
 [slice aL aA aM,slice aK aB aN,slice aG aD aJ,slice aH aE aI,Value.bool aC] 79 5 true true)]=[some (Box.mk ac [int i64 (-1:Int)] 3 1 true true),some (Box.mk ab [] 3
 (Int.toNat (IntKind.wrap i64 ((↑p1n:Int)+(1:Int)))*1) false true),some (Box.mk b [slice aL aA aM,slice aK aB aN,slice aG aD aJ,slice aH aE aI,Value.bool aC] 79 5 true
 true)]∧∃(n':Nat),n' < ai∧ag [slice a n c,int i64 (IntKind.wrap i64 (aa+(1:Int)))] [cs] [] M n') ([some (Box.mk ac [int i64 (-1:Int)] 3 1 true true),some (Box.mk ab [] 3 (Int.toNat (IntKind.wrap i64
 ((↑p1n:Int)+(1:Int)))*1) false true),some (Box.mk b [slice aL aA aM,slice aK aB aN,slice aG aD aJ,slice aH aE aI,Value.bool aC] 79 5 true true)]=[some (Box.mk ac [int
 i64 (-1:Int)] 3 1 true true),some (Box.mk ab [] 3 (Int.toNat (IntKind.wrap i64 ((↑p1n:Int)+(1:Int)))*1) false true),some (Box.mk b [slice aL aA aM,slice aK aB aN,slice aG aD aJ,
 slice aH aE aI,Value.bool aC] 79 5 true true)]∧∃(n':Nat),n' < ai∧ag [slice a ad c,int i64 (IntKind.wrap i64 (aa+(1:Int)))] [cs] [] m' n'))) ([some (Box.mk ab [] 3 (Int.toNat (IntKind.wrap i64
 ((↑p1n:Int)+(1:Int)))*1) false true),some (Box.mk b [slice aL aA aM,slice aK aB aN,slice aG aD aJ,slice aH aE aI,Value.bool aC] 79 5 true true)]=[some (Box.mk ab [] 3
 (Int.toNat (IntKind.wrap i64 ((↑p1n:Int)+(1:Int)))*1) false true),some (Box.mk b [slice aL aA aM,slice aK aB aN,slice aG aD aJ,slice aH aE aI,Value.bool aC] 79 5 true
 true)]∧∃(n':Nat),n' < al∧I [int i64 (IntKind.wrap i64 (n+(1:Int)))] [cs] [] af n')) (∀(af:Mem),Mem.le m' af→Mem.reads af ab 0 cs→∃(R_2:RT),True∧CX Try.prog 103 (Array.mk [slice (some (Addr.mk
 ab 0 none)) (Int.toNat (IntKind.wrap i64 ((↑p1n:Int)+(1:Int)))) (Int.toNat (IntKind.wrap i64 ((↑p1n:Int)+(1:Int))))]) af [] R_2∧ZaA Shape.slice R_2∧∀(a:Option Addr)(n c:Nat)(m':Mem),Mem.le af
 m'→R_2 (slice a n c) m' []→∃(m'':Mem),Mem.le m m''∧Mem.le m'' m'∧R (Value.tuple (Array.mk [slice a n c,int i64 0])) m'' []))
theorem ZhP(aL:Option Addr)(aA aM:Nat)(aK:Option Addr)(aB aN:Nat)(aG:Option Addr)(aD aJ:Nat)(aH:Option Addr)(aE aI:Nat)(aC:Bool)(p1a:Option Addr)(p1n p1c:Nat)(m:Mem)(R:RT)(h:ZeP aL aA aM aK aB aN aG aD aJ aH aE aI aC p1a p1n p1c m R):CX Try.prog 54 #[.agg #[.slice aL aA aM,.slice aK aB aN,.slice aG aD aJ,.slice aH aE aI,.bool aC],.slice p1a p1n p1c] m [] R:=
 Zaj (E:=ZiY) Zaw mix Try.func54 [.v (.agg #[.slice aL aA aM,.slice aK aB aN,.slice aG aD aJ,.slice aH aE aI,.bool aC]),.v (.slice p1a p1n p1c)] [] (by kernel_rfl) (Eq.mp (by kernel_rfl) h)
noncomputable def Zmr:Env:={ EB with
 loops:=(fun i=>bif Nat.beq i 3 then⟨[(4,.int .i64)],[3],[(45,1)],false⟩ else bif Nat.beq i 7 then⟨[(5,.slice),(6,.int .i64)],[],[(40,1)],false⟩ else⟨[],[],[],false⟩)
 tokOf:=(fun i=>bif Nat.beq i 40 then 40 else bif Nat.beq i 45 then 45 else 0)
 frzNew:=[1] }
def ZgJ(aL:Option Addr)(aA aM:Nat)(aK:Option Addr)(aB aN:Nat)(aG:Option Addr)(aD aJ:Nat)(aH:Option Addr)(aE aI:Nat)(aC:Bool)(m:Mem)(R:RT):Prop:=
 ∀(b:Nat)(m':Mem),Mem.le m m'→Mem.reads m' b 0 [slice aL aA aM,slice aK aB aN,slice aG aD aJ,slice aH aE aI,Value.bool aC]→∀(ag ah:Nat),∃(I:IT),(∃(n:Nat),I
 [int i64 0] [[slice aL aA aM,slice none 0 0,slice aH aE aI,slice aG aD aJ,Value.bool aC]] [slice none 0 0] m' n)∧∀(n:Int)(cs:List Value)(a:Option Addr)(ai c:Nat)(aj:Mem)
 (aq:Nat),Mem.le m' aj→I [int i64 n] [cs] [slice a ai c] aj aq→br (decide (n < (↑aA:Int))) (∃(al:IT),(∃(n:Nat),al [slice none 0 0,int i64 0] [] [slice none 0 0] aj n)∧∀(ad:Option Addr) (aa ae:
 Nat) (ac:Int) (am:Option Addr) (an ao:Nat) (m':Mem) (ap:Nat),Mem.le aj m'→al [slice ad aa ae,int i64 ac] [] [slice am an ao] m' ap→br (decide (ac < (↑aA:Int))) (∃(af:Nat),∃(o:Nat),aK =
 some (Addr.mk af o none)∧Zac ac aB∧∃(v:Value),m' af (o+Int.toNat ac*1)=some v∧∃(R:RT),True∧CX Try.prog 104 (Array.mk [v,int i64 n]) m' [] R∧ZaA Shape.bool R∧∀(ar:Bool)(ab:Mem),
 Mem.le m' ab→R (Value.bool ar) ab []→br ar (∀(ak:Nat),Mem.free ab ak→(Tok.mk (slice am an ao) 1=Tok.mk (slice ad aa ae) 1∨slice ad aa ae=slice none 0 0∨ae < aa+1)∧∃(xs:List Value),∃(ys:List
 Value),List.length xs=aa*1∧List.length ys=1*1∧rowRd (Mem.add ab ak [int i64 ac]) ad xs∧rowRd (Mem.add ab ak [int i64 ac]) (some (Addr.mk ak 0 none)) ys∧(∀(u:Value),u∈ys→Value.oneCell' u=true)
 ∧ (aa+1)*8≤140737488355328∧aa+1≤9223372036854775807∧∀(a':Option Addr)(c':Nat)(m':Mem),Mem.le (Mem.add ab ak [int i64 ac]) m'→rowRd m' a' (List.append xs ys)→[some (Box.mk ah cs 79 5 false
 true),some (Box.mk ag [slice none 0 0,slice none 0 0,slice none 0 0,slice none 0 0,Value.bool false] 79 5 false true),some (Box.mk b [slice aL aA aM,slice aK aB aN,slice aG aD aJ,
 slice aH aE aI,Value.bool aC] 79 5 true true)]=[some (Box.mk ah cs 79 5 false true),some (Box.mk ag [slice none 0 0,slice none 0 0,slice none 0 0,slice none 0 0,Value.bool false] 79 5 false true),
 some (Box.mk b [slice aL aA aM,slice aK aB aN,slice aG aD aJ,slice aH aE aI,Value.bool aC] 79 5 true true)]∧[some (Tok.mk (slice a ai c) 1)]=[some (Tok.mk (slice a ai c) 1)]
 ∧ ∃(n':Nat),n' < ap∧al [slice a' (aa+1) c',int i64 (IntKind.wrap i64 (ac+(1:Int)))] [] [slice a' (aa+1) c'] m' n') ([some (Box.mk ah cs 79 5 false true),some (Box.mk ag [slice none 0 0,slice none 0 0,
 slice none 0 0,slice none 0 0,Value.bool false] 79 5 false true),some (Box.mk b [slice aL aA aM,slice aK aB aN,slice aG aD aJ,slice aH aE aI,Value.bool aC] 79 5 true true)] =
 [some (Box.mk ah cs 79 5 false true),some (Box.mk ag [slice none 0 0,slice none 0 0,slice none 0 0,slice none 0 0,Value.bool false] 79 5 false true),some (Box.mk b [slice aL aA aM,slice aK aB
 aN,slice aG aD aJ,slice aH aE aI,Value.bool aC] 79 5 true true)]∧[some (Tok.mk (slice a ai c) 1)]=[some (Tok.mk (slice a ai c) 1)]∧∃(n':Nat),n' < ap∧al [slice ad aa ae,int i64
 (IntKind.wrap i64 (ac+(1:Int)))] [] [slice am an ao] ab n')) (Eng.ZsM cs 1 fun(v:Value)=>∀(af:Nat),Mem.free m' af→chk (Zc8 v&&true) ((Tok.mk (slice a ai c) 1=Tok.mk v 1∨v=slice none 0 0∨slC v
 < slN v+1)∧∃(xs:List Value),∃(ys:List Value),List.length xs=slN v*1∧List.length ys=1*1∧rowRd (Mem.add m' af [slice ad aa ae]) (slA v) xs∧rowRd (Mem.add m' af [slice ad aa ae]) (some (Addr.mk af
 0 none)) ys∧(∀(u:Value),u∈ys→Value.oneCell' u=true)∧(slN v+1)*24≤140737488355328∧slN v+1≤9223372036854775807∧∀(a':Option Addr)(c':Nat)(ab:Mem),Mem.le (Mem.add m' af [slice ad aa
 ae]) ab→rowRd ab a' (List.append xs ys)→chk (Nat.ble 2 (List.length cs)) ([some (Box.mk ah [] 79 5 false true),some (Box.mk ag [slice none 0 0,slice none 0 0,slice none 0 0,slice none 0 0,Value.bool false] 79 5
 false true),some (Box.mk b [slice aL aA aM,slice aK aB aN,slice aG aD aJ,slice aH aE aI,Value.bool aC] 79 5 true true)]=[some (Box.mk ah [] 79 5 false true),some (Box.mk ag
 [slice none 0 0,slice none 0 0,slice none 0 0,slice none 0 0,Value.bool false] 79 5 false true),some (Box.mk b [slice aL aA aM,slice aK aB aN,slice aG aD aJ,slice aH aE aI,
 Value.bool aC] 79 5 true true)]∧∃(n':Nat),n' < aq∧I [int i64 (IntKind.wrap i64 (n+(1:Int)))] [Zan cs 1 [slice a' (slN v+1) c']] [slice a' (slN v+1) c'] ab n')))) (chk (Nat.beq (List.length cs) 5 &&
 Zcu cs) (∃(m'':Mem),Mem.le m m''∧Mem.le m'' aj∧R (agg (Array.mk cs)) m'' []))
theorem ZkJ(aL:Option Addr)(aA aM:Nat)(aK:Option Addr)(aB aN:Nat)(aG:Option Addr)(aD aJ:Nat)(aH:Option Addr)(aE aI:Nat)(aC:Bool)(m:Mem)(R:RT)(h:ZgJ aL aA aM aK aB aN aG aD aJ aH aE aI aC m R):CX Try.prog 55 #[.agg #[.slice aL aA aM,.slice aK aB aN,.slice aG aD aJ,.slice aH aE aI,.bool aC]] m [] R:=
 Zaj (E:=Zmr) Zaw mix Try.func55 [.v (.agg #[.slice aL aA aM,.slice aK aB aN,.slice aG aD aJ,.slice aH aE aI,.bool aC])] [] (by kernel_rfl) (Eq.mp (by kernel_rfl) h)
noncomputable def ZkK:Env:={ EB with
 loops:=(fun i=>bif Nat.beq i 3 then⟨[(4,.int .i64)],[],[],false⟩ else bif Nat.beq i 7 then⟨[(5,.bool)],[],[],false⟩ else bif Nat.beq i 10 then⟨[(5,.bool),(6,.int .i64)],[],[],false⟩ else bif Nat.beq i 13 then⟨[(5,.bool),(7,.int .i64)],[],[],false⟩ else⟨[],[],[],false⟩)
 joins:=(fun i=>bif Nat.beq i 13 then some [(47,.bool)]else none)
 frzNew:=[1]
 mkM:=(fun i=>bif Nat.beq i 11 then true else false)
 thaw:=true
 stAt:=(fun i=>bif Nat.beq i 25 then some 999 else bif Nat.beq i 71 then some 999 else none)
 gb:=true }
def ZfD(aL:Option Addr)(aA aM:Nat)(aK:Option Addr)(aB aN:Nat)(aG:Option Addr)(aD aJ:Nat)(aH:Option Addr)(aE aI:Nat)(aC:Bool)(m:Mem)(R:RT):Prop:=
 ∀(b:Nat)(m':Mem),Mem.le m m'→Mem.reads m' b 0 [slice aL aA aM,slice aK aB aN,slice aG aD aJ,slice aH aE aI,Value.bool aC]→Mem.free m b→(∀(b' o:Nat)(u:Value),
 m' b' o=some u→m b' o=some u∨b'=b)→((0:Int)≤(↑aA:Int)∧(↑aA:Int)≤(↑aA:Int)∧(↑aA:Int)*(↑(8:Nat):Int)≤(281474976710656:Int)∧(↑aA:Int)≤(9223372036854775807:
 Int))∧∀(ac:Nat),Mem.free m' ac→∃(I:IT),(∃(n:Nat),I [int i64 0] [] [] (Mem.add m' ac (List.flatten (List.replicate (Int.toNat (↑aA:Int)) [int i64 0]))) n)∧∀(n:Int)(m':Mem)(am:Nat),True→
 I [int i64 n] [] [] m' am→br (decide (n < (↑aD:Int))) (∃(ad:Nat),∃(o:Nat),aG=some (Addr.mk ad o none)∧Zac n aD∧∃(v:Value),m' ad (o+Int.toNat n*1)=some v∧chk (ZaK v) (∃(ab
 : Nat),∃(o:Nat),some (Addr.mk ac 0 none)=some (Addr.mk ab o none)∧Zac (RowKit.intOf v) (Int.toNat (↑aA:Int))∧(∃(vs:List Value),List.length vs=1∧Mem.reads m' ab (o+Int.toNat (RowKit.intOf v)
 * 1) vs)∧Mem.free m ab∧true=true∧b≠ab∧[some (Box.mk b [slice aL aA aM,slice aK aB aN,slice aG aD aJ,slice aH aE aI,Value.bool aC] 79 5 true true)]=[some (Box.mk b
 [slice aL aA aM,slice aK aB aN,slice aG aD aJ,slice aH aE aI,Value.bool aC] 79 5 true true)]∧∃(n':Nat),n' < am∧I [int i64 (IntKind.wrap i64 (n+(1:Int)))] [] []
 (Mem.upd m' ab (o+Int.toNat (RowKit.intOf v)*1) [int i64 1]) n')) (∃(I:IT),(∃(n:Nat),I [Value.bool true] [] [] m' n)∧∀(ad:Bool)(m':Mem)(n:Nat),True→I [Value.bool ad] [] [] m' n→br ad (∃(ah:
 IT),(∃(n:Nat),ah [Value.bool false,int i64 0] [] [] m' n)∧∀(ab:Bool)(aa:Int)(m':Mem)(an:Nat),True→ah [Value.bool ab,int i64 aa] [] [] m' an→br (decide (aa < (↑(Int.toNat (↑aA:Int)):
 Int))) (∃(I:IT),(∃(n:Nat),I [Value.bool ab,int i64 0] [] [] m' n)∧∀(ai:Bool)(n:Int)(m':Mem)(aj:Nat),True→I [Value.bool ai,int i64 n] [] [] m' aj→∃(ak:Bool),(∃(ae:Nat),∃(o:Nat),
 some (Addr.mk ac 0 none)=some (Addr.mk ae o none)∧Zac aa (Int.toNat (↑aA:Int))∧∃(v:Value),m' ae (o+Int.toNat aa*1)=some v∧chk (ZaY i64 v&&decide (i64=i64)) (br (RowKit.intOf v == (1:
 Int)) (∃(af:Nat),∃(o:Nat),aK=some (Addr.mk af o none)∧Zac aa aB∧∃(v:Value),m' af (o+Int.toNat aa*1)=some v∧chk (Zc8 v) ([some (Box.mk b [slice aL aA aM,slice aK aB
 aN,slice aG aD aJ,slice aH aE aI,Value.bool aC] 79 5 true true)]=[some (Box.mk b [slice aL aA aM,slice aK aB aN,slice aG aD aJ,slice aH aE aI,
 Value.bool aC] 79 5 true true)]∧[Value.bool (decide (n < (↑(slN v):Int)))]=[Value.bool ak])) ([some (Box.mk b [slice aL aA aM,slice aK aB aN,slice aG aD aJ,slice aH aE aI,
 Value.bool aC] 79 5 true true)]=[some (Box.mk b [slice aL aA aM,slice aK aB aN,slice aG aD aJ,slice aH aE aI,Value.bool aC] 79 5 true true)]∧[Value.bool false] =
 [Value.bool ak])))∧br ak (∃(ae:Nat),∃(o:Nat),aK=some (Addr.mk ae o none)∧Zac aa aB∧∃(v:Value),m' ae (o+Int.toNat aa*1)=some v∧chk (Zc8 v) (∃(af:Nat),∃(o:Nat),slA v=some
 (Addr.mk af o none)∧Zac n (slN v)∧∃(v:Value),m' af (o+Int.toNat n*1)=some v∧chk (ZaK v) (∃(ao:Nat),∃(o:Nat),some (Addr.mk ac 0 none)=some (Addr.mk ao o none)∧Zac (RowKit.intOf v)
 (Int.toNat (↑aA:Int))∧∃(al:Value),m' ao (o+Int.toNat (RowKit.intOf v)*1)=some al∧chk (ZaY i64 al&&decide (i64=i64)) (br (RowKit.intOf al == (0:Int)) (∃(ap:Nat),∃(o:Nat),aK=some
 (Addr.mk ap o none)∧Zac aa aB∧∃(v:Value),m' ap (o+Int.toNat aa*1)=some v∧chk (Zc8 v) (∃(aq:Nat),∃(o:Nat),slA v=some (Addr.mk aq o none)∧Zac n (slN v)∧∃(v:Value),m' aq (o +
 Int.toNat n*1)=some v∧chk (ZaK v) (∃(ag:Nat),∃(o:Nat),some (Addr.mk ac 0 none)=some (Addr.mk ag o none)∧Zac (RowKit.intOf v) (Int.toNat (↑aA:Int))∧(∃(vs:List Value),List.length vs =
 1∧Mem.reads m' ag (o+Int.toNat (RowKit.intOf v)*1) vs)∧Mem.free m ag∧true=true∧b≠ag∧[some (Box.mk b [slice aL aA aM,slice aK aB aN,slice aG aD aJ,slice aH aE aI,
 Value.bool aC] 79 5 true true)]=[some (Box.mk b [slice aL aA aM,slice aK aB aN,slice aG aD aJ,slice aH aE aI,Value.bool aC] 79 5 true true)]∧∃(n':Nat),n' < aj∧I
 [Value.bool true,int i64 (IntKind.wrap i64 (n+(1:Int)))] [] [] (Mem.upd m' ag (o+Int.toNat (RowKit.intOf v)*1) [int i64 1]) n'))) ([some (Box.mk b [slice aL aA aM,slice aK aB aN,slice aG
 aD aJ,slice aH aE aI,Value.bool aC] 79 5 true true)]=[some (Box.mk b [slice aL aA aM,slice aK aB aN,slice aG aD aJ,slice aH aE aI,Value.bool aC] 79 5 true
 true)]∧∃(n':Nat),n' < aj∧I [Value.bool ai,int i64 (IntKind.wrap i64 (n+(1:Int)))] [] [] m' n'))))) ([some (Box.mk b [slice aL aA aM,slice aK aB aN,slice aG aD aJ,slice aH
 aE aI,Value.bool aC] 79 5 true true)]=[some (Box.mk b [slice aL aA aM,slice aK aB aN,slice aG aD aJ,slice aH aE aI,Value.bool aC] 79 5 true true)]∧∃(n':Nat),n'
 < an∧ah [Value.bool ai,int i64 (IntKind.wrap i64 (aa+(1:Int)))] [] [] m' n')) ([some (Box.mk b [slice aL aA aM,slice aK aB aN,slice aG aD aJ,slice aH aE aI,Value.bool aC]
 79 5 true true)]=[some (Box.mk b [slice aL aA aM,slice aK aB aN,slice aG aD aJ,slice aH aE aI,Value.bool aC] 79 5 true true)]∧∃(n':Nat),n' < n∧I [Value.bool ab] [] []
 m' n')) (∃(m'':Mem),Mem.le m m''∧Mem.le m'' m'∧R (slice (some (Addr.mk ac 0 none)) (Int.toNat (↑aA:Int)) (Int.toNat (↑aA:Int))) m'' []))
theorem ZiZ(aL:Option Addr)(aA aM:Nat)(aK:Option Addr)(aB aN:Nat)(aG:Option Addr)(aD aJ:Nat)(aH:Option Addr)(aE aI:Nat)(aC:Bool)(m:Mem)(R:RT)(h:ZfD aL aA aM aK aB aN aG aD aJ aH aE aI aC m R):CX Try.prog 105 #[.agg #[.slice aL aA aM,.slice aK aB aN,.slice aG aD aJ,.slice aH aE aI,.bool aC]] m [] R:=
 Zaj (E:=ZkK) Zaw mix Try.func105 [.v (.agg #[.slice aL aA aM,.slice aK aB aN,.slice aG aD aJ,.slice aH aE aI,.bool aC])] [] (by kernel_rfl) (Eq.mp (by kernel_rfl) h)
noncomputable def Zms:Env:={ EB with
 loops:=(fun i=>bif Nat.beq i 3 then⟨[(5,.int .i64)],[],[],false⟩ else⟨[],[],[],false⟩)
 dr:=(fun i=>bif Nat.beq i 1 then[⟨0,[1],[],none,[],[]⟩,⟨1,[],[],none,[0],[]⟩,⟨2,[1],[],none,[],[]⟩,⟨3,[],[],none,[0,1,2],[1]⟩,⟨4,[],[],none,[0,1,2,3],[3]⟩,⟨5,[],[],none,[0,1,2,3,4],[]⟩,⟨6,[],[],none,[0,1,2,3,4,5],[]⟩]else bif Nat.beq i 5 then[⟨0,[],[],none,[],[]⟩,⟨1,[],[],none,[],[]⟩,⟨2,[],[],none,[],[]⟩,⟨3,[],[],none,[],[]⟩,⟨4,[],[],none,[2,3],[]⟩,⟨5,[],[],none,[2,3,4],[]⟩,⟨6,[],[],none,[],[]⟩,⟨7,[],[],none,[],[]⟩,⟨8,[],[],none,[6,7],[]⟩,⟨9,[],[],none,[6,7,8],[]⟩,⟨10,[],[],none,[2,3,4,5,6,7,8,9],[]⟩]else[])
 frzNew:=[1]
 thaw:=true
 stAt:=(fun i=>bif Nat.beq i 28 then some 999 else none)
 last:=(fun i=>bif Nat.beq i 5 then true else false)
 lastK:=(fun i=>bif Nat.beq i 5 then 2 else 1) }
def ZgK(aL:Option Addr)(aA aM:Nat)(aK:Option Addr)(aB aN:Nat)(aG:Option Addr)(aD aJ:Nat)(aH:Option Addr)(aE aI:Nat)(aC:Bool)(m:Mem)(R:RT):Prop:=
 ∀(b:Nat)(m':Mem),Mem.le m m'→Mem.reads m' b 0 [slice aL aA aM,slice aK aB aN,slice aG aD aJ,slice aH aE aI,Value.bool aC]→Mem.free m b→(∀(b' o:Nat)(u:Value),
 m' b' o=some u→m b' o=some u∨b'=b)→∃(f:Fx),∃(R_1:RT),R_1=f 1 [agg (Array.mk [slice aL aA aM,slice aK aB aN,slice aG aD aJ,slice aH aE aI,Value.bool aC])]
 m'∧CX Try.prog 105 (Array.mk [agg (Array.mk [slice aL aA aM,slice aK aB aN,slice aG aD aJ,slice aH aE aI,Value.bool aC])]) m' [] R_1∧ZaA Shape.slice R_1∧∀(a:Option
 Addr) (n c:Nat) (ab:Mem),Mem.le m' ab→R_1 (slice a n c) ab []→∃(R_2:RT),R_2=f 3 [agg (Array.mk [slice aL aA aM,slice aK aB aN,slice aG aD aJ,slice aH aE aI,
 Value.bool aC])] ab∧CX Try.prog 55 (Array.mk [agg (Array.mk [slice aL aA aM,slice aK aB aN,slice aG aD aJ,slice aH aE aI,Value.bool aC])]) ab [] R_2∧ZaA (Shape.agg
 [Shape.slice,Shape.slice,Shape.slice,Shape.slice,Shape.bool]) R_2∧∀(ae:Option Addr)(af ag:Nat)(ah:Option Addr)(ai aj:Nat)(ak:Option Addr)(al am:Nat)(an:Option Addr)(ao ap:Nat)(aq:Bool)
 (ac:Mem),Mem.le ab ac→R_2 (agg (Array.mk [slice ae af ag,slice ah ai aj,slice ak al am,slice an ao ap,Value.bool aq])) ac []→∃(R_3:RT),R_3=f 4 [agg (Array.mk [slice ae af ag,slice ah ai aj,slice ak al
 am,slice an ao ap,Value.bool aq])] ac∧CX Try.prog 105 (Array.mk [agg (Array.mk [slice ae af ag,slice ah ai aj,slice ak al am,slice an ao ap,Value.bool aq])]) ac [] R_3∧ZaA Shape.slice R_3∧∀(aw:Option
 Addr) (ax a1:Nat) (ar:Mem),Mem.le ac ar→R_3 (slice aw ax a1) ar []→∀(M:Mem),Mem.le m' M→Mem.le ab M→Mem.le ac M→Mem.le ar M→∃(I:IT),(∃(n:Nat),I [int i64 0] [] [] M n)∧∀(aa:Int) (m':
 Mem) (ay:Nat),True→I [int i64 aa] [] [] m' ay→br (decide (aa < (↑n:Int))) (∃(az:Nat),∃(o:Nat),a=some (Addr.mk az o none)∧Zac aa n∧∃(v:Value),m' az (o+Int.toNat aa*1)=some v∧∃(a0:
 Nat),∃(o:Nat),aw=some (Addr.mk a0 o none)∧Zac aa ax∧∃(au:Value),m' a0 (o+Int.toNat aa*1)=some au∧chk (ZaY i64 v&&ZaY i64 au) (∃(ad:Nat),∃(o:Nat),a=some (Addr.mk ad o none)∧
 Zac aa n∧(∃(vs:List Value),List.length vs=1∧Mem.reads m' ad (o+Int.toNat aa*1) vs)∧Mem.free m ad∧true=true∧b≠ad∧[some (Box.mk b [slice aL aA aM,slice aK aB aN,slice
 aG aD aJ,slice aH aE aI,Value.bool aC] 79 5 true true)]=[some (Box.mk b [slice aL aA aM,slice aK aB aN,slice aG aD aJ,slice aH aE aI,Value.bool aC] 79 5
 true true)]∧∃(n':Nat),n' < ay∧I [int i64 (IntKind.wrap i64 (aa+(1:Int)))] [] [] (Mem.upd m' ad (o+Int.toNat aa*1) [int i64 (IntKind.wrap i64 (RowKit.intOf v*RowKit.intOf au))]) n')) (∃(R_4:RT),True
 ∧ CX Try.prog 103 (Array.mk [slice a n c]) m' [] R_4∧ZaA Shape.slice R_4∧∀(a:Option Addr)(n c:Nat)(av:Mem),Mem.le m' av→R_4 (slice a n c) av []→∃(m'':Mem),Mem.le m m''∧Mem.le m'' av∧R (slice a
 n c) m'' [])
theorem ZkL(aL:Option Addr)(aA aM:Nat)(aK:Option Addr)(aB aN:Nat)(aG:Option Addr)(aD aJ:Nat)(aH:Option Addr)(aE aI:Nat)(aC:Bool)(m:Mem)(R:RT)(h:ZgK aL aA aM aK aB aN aG aD aJ aH aE aI aC m R):CX Try.prog 56 #[.agg #[.slice aL aA aM,.slice aK aB aN,.slice aG aD aJ,.slice aH aE aI,.bool aC]] m [] R:=
 Zaj (E:=Zms) Zaw mix Try.func56 [.v (.agg #[.slice aL aA aM,.slice aK aB aN,.slice aG aD aJ,.slice aH aE aI,.bool aC])] [] (by kernel_rfl) (Eq.mp (by kernel_rfl) h)
noncomputable def Zc3:Env:={ EB with
 loops:=(fun i=>bif Nat.beq i 4 then⟨[(13,.int .i64)],[],[],false⟩ else⟨[],[],[],false⟩)
 dr:=(fun i=>bif Nat.beq i 6 then[⟨0,[],[],none,[],[]⟩,⟨1,[],[],none,[],[]⟩,⟨2,[],[],none,[0,1],[]⟩,⟨3,[],[],none,[0,1,2],[]⟩,⟨4,[],[],none,[],[]⟩,⟨5,[],[],none,[],[]⟩,⟨6,[],[],none,[4,5],[]⟩,⟨7,[],[],none,[4,5,6],[]⟩,⟨8,[],[],none,[0,1,2,3,4,5,6,7],[]⟩]else[]) }
def ZbH(p0a:Option Addr)(p0n p0c:Nat)(p1a:Option Addr)(p1n p1c:Nat)(m:Mem)(R:RT):Prop:=
 br (!(↑p0n:Int) == (↑p1n:Int)) (∃(m'':Mem),Mem.le m m''∧Mem.le m'' m∧R (Value.bool false) m'' []) (∃(I:IT),(∃(n:Nat),I [int i64 0] [] [] m n)∧∀(n:Int)(m':Mem)(n_1:Nat),Mem.le m m'→I
 [int i64 n] [] [] m' n_1→br (decide (n < (↑p0n:Int))) (∃(b:Nat),∃(o:Nat),p0a=some (Addr.mk b o none)∧Zac n p0n∧∃(v:Value),m' b (o+Int.toNat n*1)=some v∧∃(b:Nat),∃(o:Nat),p1a =
 some (Addr.mk b o none)∧Zac n p1n∧∃(v_1:Value),m' b (o+Int.toNat n*1)=some v_1∧chk (ZaY u8 v&&ZaY u8 v_1) (br (!RowKit.intOf v == RowKit.intOf v_1) (∃(m'':Mem),Mem.le m m''∧Mem.le m'' m'
 ∧ R (Value.bool false) m'' []) (∃(n':Nat),n' < n_1∧I [int i64 (IntKind.wrap i64 (n+(1:Int)))] [] [] m' n'))) (∃(m'':Mem),Mem.le m m''∧Mem.le m'' m'∧R (Value.bool true) m'' []))
theorem ZcD(p0a:Option Addr)(p0n p0c:Nat)(p1a:Option Addr)(p1n p1c:Nat)(m:Mem)(R:RT)(h:ZbH p0a p0n p0c p1a p1n p1c m R):CX Try.prog 57 #[.slice p0a p0n p0c,.slice p1a p1n p1c] m [] R:=
 Zaj (E:=Zc3) Zaw mix Try.func57 [.v (.slice p0a p0n p0c),.v (.slice p1a p1n p1c)] [] (by kernel_rfl) (Eq.mp (by kernel_rfl) h)
noncomputable def Zmt:Env:={ EB with
 loops:=(fun i=>bif Nat.beq i 9 then⟨[(71,.int .i64)],[],[],false⟩ else⟨[],[],[],false⟩)
 joins:=(fun i=>bif Nat.beq i 15 then some [(4,.bool)]else none)
 dr:=(fun i=>bif Nat.beq i 1 then[⟨0,[2],[],none,[],[]⟩,⟨1,[],[],none,[0],[]⟩,⟨2,[2],[],none,[],[]⟩,⟨3,[],[],none,[0,1,2],[1]⟩,⟨4,[],[],none,[],[]⟩,⟨5,[],[],none,[0,1,2,3,4],[3]⟩,⟨6,[5],[5],none,[],[]⟩,⟨7,[6],[6],none,[],[]⟩,⟨8,[5],[5],none,[0,1,2,3,4,5,6,7],[]⟩,⟨9,[6],[6],none,[0,1,2,3,4,5,6,7,8],[]⟩,⟨10,[],[],none,[0,1,2,3,4,5,6,7,8,9],[]⟩]else bif Nat.beq i 17 then[⟨0,[],[],none,[],[]⟩,⟨1,[],[],none,[],[]⟩,⟨2,[],[],none,[0,1],[]⟩,⟨3,[],[],none,[0,1,2],[]⟩,⟨4,[],[],none,[0,1,2,3],[]⟩,⟨5,[],[],none,[0,1,2,3,4],[]⟩,⟨6,[5],[],none,[0,1,2,3,4],[2]⟩,⟨7,[],[],none,[0,1,2,3,4],[]⟩,⟨8,[],[],none,[0,1,2,3,4,6,7],[2]⟩,⟨9,[],[],none,[0,1,2,3,4,5,6,7,8],[]⟩,⟨10,[],[],none,[0,1,2,3,4,5,6,7,8,9],[]⟩,⟨11,[],[],none,[0,1,2,3,4,5,6,7,8,9,10],[]⟩,⟨12,[],[],none,[0,1,2,3,4,5,6,7,8,9,10,11],[]⟩,⟨13,[],[],none,[0,1,2,3,4,5,6,7,8,9,10,11],[]⟩,⟨14,[],[],none,[0,1,2,3,4,5,6,7,8,9,10,11,12,13],[8]⟩,⟨15,[],[],none,[0,1,2,3,4,5,6,7,8,9,10,11,12,13,14],[]⟩,⟨16,[],[],none,[0,1,2,3,4,5,6,7,8,9,10,11,12,13,14,15],[]⟩,⟨17,[],[],none,[0,1,2,3,4,5,6,7,8,9,10,11,12,13,14,15,16],[]⟩,⟨18,[14],[],none,[0,1,2,3,4,5,6,7,8,9,10,11,12,13,14,15,16,17],[14]⟩,⟨19,[5],[],none,[0,1,2,3,4,5,6,7,8,9,10,11,12,13,14,15,16,17],[14]⟩,⟨20,[],[],none,[0,1,2,3,4,5,6,7,8,9,10,11,12,13,14,15,16,17,19],[14]⟩,⟨21,[],[],none,[0,1,2,3,4,5,6,7,8,9,10,11,12,13,14,15,16,17,18,19,20],[20]⟩,⟨22,[],[],none,[0,1,2,3,4,5,6,7,8,9,10,11,12,13,14,15,16,17,18,19,20,21],[]⟩,⟨23,[],[],none,[0,1,2,3,4,5,6,7,8,9,10,11,12,13,14,15,16,17,18,19,20,21,22],[]⟩,⟨24,[],[],none,[0,1,2,3,4,5,6,7,8,9,10,11,12,13,14,15,16,17,18,19,20,21,22,23],[]⟩,⟨25,[],[],none,[0,1,2,3,4,5,6,7,8,9,10,11,12,13,14,15,16,17,18,19,20,21,22,23,24],[]⟩,⟨26,[5],[],none,[0,1,2,3,4,5,6,7,8,9,10,11,12,13,14,15,16,17,18,19,20,21,22,23,24],[21]⟩,⟨27,[],[],none,[0,1,2,3,4,5,6,7,8,9,10,11,12,13,14,15,16,17,18,19,20,21,22,23,24,26],[21]⟩,⟨28,[],[],none,[0,1,2,3,4,5,6,7,8,9,10,11,12,13,14,15,16,17,18,19,20,21,22,23,24,25,26,27],[27]⟩,⟨29,[],[],none,[0,1,2,3,4,5,6,7,8,9,10,11,12,13,14,15,16,17,18,19,20,21,22,23,24,25,26,27,28],[]⟩,⟨30,[],[],none,[0,1,2,3,4,5,6,7,8,9,10,11,12,13,14,15,16,17,18,19,20,21,22,23,24,25,26,27,28,29],[]⟩,⟨31,[],[],none,[0,1,2,3,4,5,6,7,8,9,10,11,12,13,14,15,16,17,18,19,20,21,22,23,24,25,26,27,28,29,30],[]⟩,⟨32,[],[],none,[0,1,2,3,4,5,6,7,8,9,10,11,12,13,14,15,16,17,18,19,20,21,22,23,24,25,26,27,28,29,30,31],[]⟩,⟨33,[],[],none,[0,1,2,3,4,5,6,7,8,9,10,11,12,13,14,15,16,17,18,19,20,21,22,23,24,25,26,27,28,29,30,31],[]⟩,⟨34,[],[],none,[0,1,2,3,4,5,6,7,8,9,10,11,12,13,14,15,16,17,18,19,20,21,22,23,24,25,26,27,28,29,30,31,32,33],[28]⟩,⟨35,[],[],none,[0,1,2,3,4,5,6,7,8,9,10,11,12,13,14,15,16,17,18,19,20,21,22,23,24,25,26,27,28,29,30,31,32,33,34],[]⟩,⟨36,[],[],none,[0,1,2,3,4,5,6,7,8,9,10,11,12,13,14,15,16,17,18,19,20,21,22,23,24,25,26,27,28,29,30,31,32,33,34,35],[]⟩]else[])
 frzNew:=[2]
 gb:=true
 thaw:=true
 lentC:=(fun i=>bif Nat.beq i 143 then some []else none) }
def ZgL(aL:Option Addr)(aA aM:Nat)(aK:Option Addr)(aB aN:Nat)(aG:Option Addr)(aD aJ:Nat)(aH:Option Addr)(aE aI:Nat)(aC:Bool)(p1a:Option Addr)(p1n p1c:Nat)(m:Mem)(R:RT):Prop:=
 ∀(b:Nat)(m':Mem),Mem.le m m'→Mem.reads m' b 0 [slice aL aA aM,slice aK aB aN,slice aG aD aJ,slice aH aE aI,Value.bool aC]→Mem.free m b→(∀(b' o:Nat)(u:Value),
 m' b' o=some u→m b' o=some u∨b'=b)→∃(f:Fx),∃(R_1:RT),R_1=f 1 [agg (Array.mk [slice aL aA aM,slice aK aB aN,slice aG aD aJ,slice aH aE aI,Value.bool aC])]
 m'∧CX Try.prog 43 (Array.mk [agg (Array.mk [slice aL aA aM,slice aK aB aN,slice aG aD aJ,slice aH aE aI,Value.bool aC])]) m' [] R_1∧ZaA (Shape.agg [Shape.slice,
 Shape.slice,Shape.slice,Shape.slice,Shape.bool]) R_1∧∀(a:Option Addr)(n c:Nat)(aa:Option Addr)(ab ac:Nat)(ad:Option Addr)(ae af:Nat)(ag:Option Addr)(ah ai:Nat)(aj:Bool)(bu:Mem),Mem.le
 m' bu→R_1 (agg (Array.mk [slice a n c,slice aa ab ac,slice ad ae af,slice ag ah ai,Value.bool aj])) bu []→∃(R_2:RT),R_2=f 3 [agg (Array.mk [slice aL aA aM,slice aK aB aN,slice aG
 aD aJ,slice aH aE aI,Value.bool aC])] bu∧CX Try.prog 26 (Array.mk [agg (Array.mk [slice aL aA aM,slice aK aB aN,slice aG aD aJ,slice aH aE aI,Value.bool
 aC])]) bu [] R_2∧ZaA (Shape.agg [Shape.slice,Shape.slice,Shape.slice,Shape.slice,Shape.bool]) R_2∧∀(ak:Option Addr)(al am:Nat)(an:Option Addr)(ao ap:Nat)(aq:Option Addr)(ar au:Nat) (av:
 Option Addr) (aw ax:Nat) (ay:Bool) (bv:Mem),Mem.le bu bv→R_2 (agg (Array.mk [slice ak al am,slice an ao ap,slice aq ar au,slice av aw ax,Value.bool ay])) bv []→∃(R_3:RT),R_3=f 5 [slice p1a p1n p1c]
 bv∧CX Try.prog 17 (Array.mk [slice p1a p1n p1c]) bv [] R_3∧ZaA Shape.slice R_3∧∀(bw:Option Addr)(bx bz:Nat)(cm:Mem),Mem.le bv cm→R_3 (slice bw bx bz) cm []→∀(az a0:Nat)(M:Mem),Mem.le m' M→
 Mem.le bu M→Mem.le bv M→Mem.le cm M→∃(R_4:RT),True∧CX Try.prog 29 (Array.mk [agg (Array.mk [slice ak al am,slice an ao ap,slice aq ar au,slice av aw ax,Value.bool ay]),slice bw bx bz]) M [] R_4∧ZaA
 (Shape.tup [Shape.slice,Shape.int i64]) R_4∧∀(cn:Option Addr)(cg co:Nat)(bh:Int)(m':Mem),Mem.le M m'→R_4 (Value.tuple (Array.mk [slice cn cg co,int i64 bh])) m' []→∃(R_5:RT),True∧CX Try.prog
 18 (Array.mk [agg (Array.mk [slice ak al am,slice an ao ap,slice aq ar au,slice av aw ax,Value.bool ay]),slice bw bx bz]) m' [] R_5∧ZaA (Shape.tup [Shape.bool,Shape.int i64]) R_5∧∀(cp:Bool)(bi:Int) (ch
 : Mem),Mem.le m' ch→R_5 (Value.tuple (Array.mk [Value.bool cp,int i64 bi])) ch []→∃(R_6:RT),True∧CX Try.prog 30 (Array.mk [agg (Array.mk [slice ak al am,slice an ao ap,slice aq ar au,slice av aw ax,
 Value.bool ay]),slice bw bx bz]) ch [] R_6∧ZaA (Shape.tup [Shape.slice,Shape.int i64]) R_6∧∀(cq:Option Addr)(ci cr:Nat)(bj:Int)(m':Mem),Mem.le ch m'→R_6 (Value.tuple (Array.mk [slice cq ci cr,int
 i64 bj])) m' []→∃(R_7:RT),True∧CX Try.prog 16 (Array.mk [agg (Array.mk [slice ak al am,slice an ao ap,slice aq ar au,slice av aw ax,Value.bool ay])]) m' [] R_7∧ZaA (Shape.tup [Shape.agg [Shape.slice,
 Shape.slice,Shape.slice,Shape.slice,Shape.bool],Shape.int i64]) R_7∧∀(a4:Option Addr)(a5 a6:Nat)(a7:Option Addr)(a8 a9:Nat)(ba:Option Addr)(bb bc:Nat)(bd:Option Addr)(be bf:Nat)(bg:Bool)
 (bk:Int) (cj:Mem),Mem.le m' cj→R_7 (Value.tuple (Array.mk [agg (Array.mk [slice a4 a5 a6,slice a7 a8 a9,slice ba bb bc,slice bd be bf,Value.bool bg]),int i64 bk])) cj []→∀(bo:Nat),∃(R_8:RT),True∧
 CX Try.prog 20 (Array.mk [agg (Array.mk [slice ak al am,slice an ao ap,slice aq ar au,slice av aw ax,Value.bool ay])]) cj [] R_8∧ZaA (Shape.tup [Shape.slice,Shape.int i64]) R_8∧∀(cs:Option Addr) (ck ct:
 Nat) (bl:Int) (m':Mem),Mem.le cj m'→R_8 (Value.tuple (Array.mk [slice cs ck ct,int i64 bl])) m' []→∃(R_9:RT),True∧CX Try.prog 53 (Array.mk [agg (Array.mk [slice a n c,slice aa ab ac,slice ad ae af,
 slice ag ah ai,Value.bool aj]),slice p1a p1n p1c]) m' [] R_9∧ZaA (Shape.tup [Shape.slice,Shape.int i64]) R_9∧∀(cb:Option Addr)(cc cd:Nat)(cu:Int)(cl:Mem),Mem.le m' cl→R_9 (Value.tuple (Array.mk
 [slice cb cc cd,int i64 cu])) cl []→∀(bm:Nat),Mem.free cl bm→∃(I:IT),(∃(n:Nat),I [int i64 0] [] [] (Mem.add cl bm [int i64 bh,int i64 bi,int i64 bj,int i64 bk,int i64 bl]) n)∧∀(ce:Int) (m':
 Mem) (dr:Nat),True→I [int i64 ce] [] [] m' dr→br (decide (ce < (↑(5:Nat):Int))) (Zac ce 5∧Eng.ZsM [int i64 bh,int i64 bi,int i64 bj,int i64 bk,int i64 bl] (Int.toNat ce*1) fun(v:Value)=>chk
 (ZaY i64 v&&decide (i64=i64)) (br (!RowKit.intOf v == cu) (∃(m'':Mem),Mem.le m m''∧Mem.le m'' m'∧R (Value.bool false) m'' []) ([some (Box.mk bm [int i64 bh,int i64 bi,int i64 bj,int i64 bk,int i64 bl]
 33 5 true true),some (Box.mk bo [slice a4 a5 a6,slice a7 a8 a9,slice ba bb bc,slice bd be bf,Value.bool bg] 26 5 false true),some (Box.mk az [slice a n c,slice aa ab ac,slice ad ae af,slice ag ah ai,Value.bool
 aj] 79 5 false true),some (Box.mk a0 [slice ak al am,slice an ao ap,slice aq ar au,slice av aw ax,Value.bool ay] 26 5 false true),some (Box.mk az [slice a n c,slice aa ab ac,slice ad ae af,slice ag ah ai,
 Value.bool aj] 79 5 false true),some (Box.mk a0 [slice ak al am,slice an ao ap,slice aq ar au,slice av aw ax,Value.bool ay] 26 5 false true),some (Box.mk b [slice aL aA aM,slice aK aB aN,slice
 aG aD aJ,slice aH aE aI,Value.bool aC] 26 5 true true)]=[some (Box.mk bm [int i64 bh,int i64 bi,int i64 bj,int i64 bk,int i64 bl] 33 5 true true),some (Box.mk bo [slice a4 a5 a6,slice a7 a8
 a9,slice ba bb bc,slice bd be bf,Value.bool bg] 26 5 false true),some (Box.mk az [slice a n c,slice aa ab ac,slice ad ae af,slice ag ah ai,Value.bool aj] 79 5 false true),some (Box.mk a0 [slice ak al am,slice
 an ao ap,slice aq ar au,slice av aw ax,Value.bool ay] 26 5 false true),some (Box.mk az [slice a n c,slice aa ab ac,slice ad ae af,slice ag ah ai,Value.bool aj] 79 5 false true),some (Box.mk a0 [slice ak al am,
 slice an ao ap,slice aq ar au,slice av aw ax,Value.bool ay] 26 5 false true),some (Box.mk b [slice aL aA aM,slice aK aB aN,slice aG aD aJ,slice aH aE aI,Value.bool aC] 26 5
 true true)]∧∃(n':Nat),n' < dr∧I [int i64 (IntKind.wrap i64 (ce+(1:Int)))] [] [] m' n'))) (br (!cu == (0:Int)) (∃(bs:Bool),br (IntKind.wrap i64 (IntKind.wrap i64 ((↑cg:Int)+(↑ci:Int))+(↑ck:
 Int)) == (0:Int)) (br (!cp) (∃(R:RT),True∧CX Try.prog 46 (Array.mk [agg (Array.mk [slice a4 a5 a6,slice a7 a8 a9,slice ba bb bc,slice bd be bf,Value.bool bg]),agg (Array.mk [slice none 0 0,slice none 0 0,
 slice none 0 0,slice none 0 0,Value.bool false])]) m' [] R∧ZaA Shape.bool R∧∀(cf:Bool)(a2:Mem),Mem.le m' a2→R (Value.bool cf) a2 []→[some (Box.mk bm [int i64 bh,int i64 bi,int i64 bj,int i64 bk,int
 i64 bl] 33 5 true true),some (Box.mk bo [slice a4 a5 a6,slice a7 a8 a9,slice ba bb bc,slice bd be bf,Value.bool bg] 26 5 false true),some (Box.mk az [slice a n c,slice aa ab ac,slice ad ae af,slice ag ah ai,
 Value.bool aj] 79 5 false true),some (Box.mk a0 [slice ak al am,slice an ao ap,slice aq ar au,slice av aw ax,Value.bool ay] 26 5 false true),some (Box.mk az [slice a n c,slice aa ab ac,slice ad ae af,slice ag
 ah ai,Value.bool aj] 79 5 false true),some (Box.mk a0 [slice ak al am,slice an ao ap,slice aq ar au,slice av aw ax,Value.bool ay] 26 5 false true),some (Box.mk b [slice aL aA aM,slice aK aB aN,
 slice aG aD aJ,slice aH aE aI,Value.bool aC] 26 5 true true)]=[some (Box.mk bm [int i64 bh,int i64 bi,int i64 bj,int i64 bk,int i64 bl] 33 5 true true),some (Box.mk bo [slice a4 a5 a6,slice
 a7 a8 a9,slice ba bb bc,slice bd be bf,Value.bool bg] 26 5 false true),some (Box.mk az [slice a n c,slice aa ab ac,slice ad ae af,slice ag ah ai,Value.bool aj] 79 5 false true),some (Box.mk a0 [slice ak al am,
 slice an ao ap,slice aq ar au,slice av aw ax,Value.bool ay] 26 5 false true),some (Box.mk az [slice a n c,slice aa ab ac,slice ad ae af,slice ag ah ai,Value.bool aj] 79 5 false true),some (Box.mk a0 [slice ak
 al am,slice an ao ap,slice aq ar au,slice av aw ax,Value.bool ay] 26 5 false true),some (Box.mk b [slice aL aA aM,slice aK aB aN,slice aG aD aJ,slice aH aE aI,Value.bool
 aC] 26 5 true true)]∧[Value.bool cf]=[Value.bool bs]) ([some (Box.mk bm [int i64 bh,int i64 bi,int i64 bj,int i64 bk,int i64 bl] 33 5 true true),some (Box.mk bo [slice a4 a5 a6,slice a7 a8 a9,slice ba bb
 bc,slice bd be bf,Value.bool bg] 26 5 false true),some (Box.mk az [slice a n c,slice aa ab ac,slice ad ae af,slice ag ah ai,Value.bool aj] 79 5 false true),some (Box.mk a0 [slice ak al am,slice an ao ap,slice
 aq ar au,slice av aw ax,Value.bool ay] 26 5 false true),some (Box.mk az [slice a n c,slice aa ab ac,slice ad ae af,slice ag ah ai,Value.bool aj] 79 5 false true),some (Box.mk a0 [slice ak al am,slice an ao ap,
 slice aq ar au,slice av aw ax,Value.bool ay] 26 5 false true),some (Box.mk b [slice aL aA aM,slice aK aB aN,slice aG aD aJ,slice aH aE aI,Value.bool aC] 26 5 true true)] =
 [some (Box.mk bm [int i64 bh,int i64 bi,int i64 bj,int i64 bk,int i64 bl] 33 5 true true),some (Box.mk bo [slice a4 a5 a6,slice a7 a8 a9,slice ba bb bc,slice bd be bf,Value.bool bg] 26 5 false true),some
 (Box.mk az [slice a n c,slice aa ab ac,slice ad ae af,slice ag ah ai,Value.bool aj] 79 5 false true),some (Box.mk a0 [slice ak al am,slice an ao ap,slice aq ar au,slice av aw ax,Value.bool ay] 26 5 false true),
 some (Box.mk az [slice a n c,slice aa ab ac,slice ad ae af,slice ag ah ai,Value.bool aj] 79 5 false true),some (Box.mk a0 [slice ak al am,slice an ao ap,slice aq ar au,slice av aw ax,Value.bool ay] 26 5 false
 true),some (Box.mk b [slice aL aA aM,slice aK aB aN,slice aG aD aJ,slice aH aE aI,Value.bool aC] 26 5 true true)]∧[Value.bool false]=[Value.bool bs])) ([some (Box.mk bm
 [int i64 bh,int i64 bi,int i64 bj,int i64 bk,int i64 bl] 33 5 true true),some (Box.mk bo [slice a4 a5 a6,slice a7 a8 a9,slice ba bb bc,slice bd be bf,Value.bool bg] 26 5 false true),some (Box.mk az [slice a n
 c,slice aa ab ac,slice ad ae af,slice ag ah ai,Value.bool aj] 79 5 false true),some (Box.mk a0 [slice ak al am,slice an ao ap,slice aq ar au,slice av aw ax,Value.bool ay] 26 5 false true),some (Box.mk az
 [slice a n c,slice aa ab ac,slice ad ae af,slice ag ah ai,Value.bool aj] 79 5 false true),some (Box.mk a0 [slice ak al am,slice an ao ap,slice aq ar au,slice av aw ax,Value.bool ay] 26 5 false true),some
 (Box.mk b [slice aL aA aM,slice aK aB aN,slice aG aD aJ,slice aH aE aI,Value.bool aC] 26 5 true true)]=[some (Box.mk bm [int i64 bh,int i64 bi,int i64 bj,int i64 bk,int
 i64 bl] 33 5 true true),some (Box.mk bo [slice a4 a5 a6,slice a7 a8 a9,slice ba bb bc,slice bd be bf,Value.bool bg] 26 5 false true),some (Box.mk az [slice a n c,slice aa ab ac,slice ad ae af,slice ag ah ai,
 Value.bool aj] 79 5 false true),some (Box.mk a0 [slice ak al am,slice an ao ap,slice aq ar au,slice av aw ax,Value.bool ay] 26 5 false true),some (Box.mk az [slice a n c,slice aa ab ac,slice ad ae af,slice ag
 ah ai,Value.bool aj] 79 5 false true),some (Box.mk a0 [slice ak al am,slice an ao ap,slice aq ar au,slice av aw ax,Value.bool ay] 26 5 false true),some (Box.mk b [slice aL aA aM,slice aK aB aN,
 slice aG aD aJ,slice aH aE aI,Value.bool aC] 26 5 true true)]∧[Value.bool false]=[Value.bool bs])∧∃(m'':Mem),Mem.le m m''∧Mem.le m'' m'∧R (Value.bool bs) m'' []) (∃(R_10:RT),True
 ∧ CX Try.prog 54 (Array.mk [agg (Array.mk [slice a n c,slice aa ab ac,slice ad ae af,slice ag ah ai,Value.bool aj]),slice p1a p1n p1c]) m' [] R_10∧ZaA (Shape.tup [Shape.slice,Shape.int i64]) R_10∧∀(cv:
 Option Addr) (cw cx:Nat) (dw:Int) (a2:Mem),Mem.le m' a2→R_10 (Value.tuple (Array.mk [slice cv cw cx,int i64 dw])) a2 []→∃(f:Fx),∃(R_11:RT),R_11=f 2 [slice cn cg co,slice cb cc cd] a2∧CX Try.prog
 23 (Array.mk [slice cn cg co,slice cb cc cd]) a2 [] R_11∧ZaA Shape.bool R_11∧∀(bs:Bool)(m':Mem),Mem.le a2 m'→R_11 (Value.bool bs) m' []→br (!bs) (∀(M:Mem),Mem.le a2 M→Mem.le m' M→Mem.le m' M→
 Mem.le m' M→Mem.le m' M→Mem.le m' M→Mem.le m' M→Mem.le m' M→Mem.le m' M→∃(m'':Mem),Mem.le m m''∧Mem.le m'' M∧R (Value.bool false) m'' []) (∃(R_12:RT),R_12=f 8 [agg (Array.mk [slice a n c,slice
 aa ab ac,slice ad ae af,slice ag ah ai,Value.bool aj]),slice cb cc cd] m'∧CX Try.prog 49 (Array.mk [agg (Array.mk [slice a n c,slice aa ab ac,slice ad ae af,slice ag ah ai,Value.bool aj]),slice cb cc cd]) m'
 [] R_12∧ZaA Shape.bool R_12∧∀(cf:Bool)(a1:Mem),Mem.le m' a1→R_12 (Value.bool cf) a1 []→br (!cp == cf) (∀(M:Mem),Mem.le a2 M→Mem.le m' M→Mem.le a1 M→Mem.le a1 M→Mem.le a1 M→Mem.le a1 M→
 Mem.le a1 M→Mem.le a1 M→Mem.le a1 M→∃(m'':Mem),Mem.le m m''∧Mem.le m'' M∧R (Value.bool false) m'' []) (∃(R_13:RT),R_13=f 14 [slice cq ci cr,slice cv cw cx] a1∧CX Try.prog 23 (Array.mk [slice cq ci
 cr,slice cv cw cx]) a1 [] R_13∧ZaA Shape.bool R_13∧∀(ds:Bool)(a3:Mem),Mem.le a1 a3→R_13 (Value.bool ds) a3 []→br (!ds) (∀(M:Mem),Mem.le a2 M→Mem.le m' M→Mem.le a1 M→Mem.le a3 M→Mem.le a3 M→
 Mem.le a3 M→Mem.le a3 M→Mem.le a3 M→Mem.le a3 M→∃(m'':Mem),Mem.le m m''∧Mem.le m'' M∧R (Value.bool false) m'' []) (∃(R_14:RT),R_14=f 20 [agg (Array.mk [slice a n c,slice aa ab ac,slice ad ae af,
 slice ag ah ai,Value.bool aj])] a3∧CX Try.prog 55 (Array.mk [agg (Array.mk [slice a n c,slice aa ab ac,slice ad ae af,slice ag ah ai,Value.bool aj])]) a3 [] R_14∧ZaA (Shape.agg [Shape.slice,Shape.slice,
 Shape.slice,Shape.slice,Shape.bool]) R_14∧∀(cy:Option Addr)(cz da:Nat)(db:Option Addr)(dc dd:Nat)(de:Option Addr)(df dg:Nat)(dh:Option Addr)(di dj:Nat)(dk:Bool)(bp:Mem),Mem.le a3 bp→
 R_14 (agg (Array.mk [slice cy cz da,slice db dc dd,slice de df dg,slice dh di dj,Value.bool dk])) bp []→∃(R_15:RT),R_15=f 21 [agg (Array.mk [slice a4 a5 a6,slice a7 a8 a9,slice ba bb bc,slice bd be bf,
 Value.bool bg]),agg (Array.mk [slice cy cz da,slice db dc dd,slice de df dg,slice dh di dj,Value.bool dk])] bp∧CX Try.prog 46 (Array.mk [agg (Array.mk [slice a4 a5 a6,slice a7 a8 a9,slice ba bb bc,slice bd be
 bf,Value.bool bg]),agg (Array.mk [slice cy cz da,slice db dc dd,slice de df dg,slice dh di dj,Value.bool dk])]) bp [] R_15∧ZaA Shape.bool R_15∧∀(dt:Bool)(bn:Mem),Mem.le bp bn→R_15 (Value.bool dt) bn
 []→br (!dt) (∀(M:Mem),Mem.le a2 M→Mem.le m' M→Mem.le a1 M→Mem.le a3 M→Mem.le bp M→Mem.le bn M→Mem.le bn M→Mem.le bn M→Mem.le bn M→∃(m'':Mem),Mem.le m m''∧Mem.le m'' M∧R (Value.bool false)
 m'' []) (∃(R_16:RT),R_16=f 27 [agg (Array.mk [slice a n c,slice aa ab ac,slice ad ae af,slice ag ah ai,Value.bool aj])] bn∧CX Try.prog 56 (Array.mk [agg (Array.mk [slice a n c,slice aa ab ac,slice ad ae
 af,slice ag ah ai,Value.bool aj])]) bn [] R_16∧ZaA Shape.slice R_16∧∀(dl:Option Addr)(dm dn:Nat)(bt:Mem),Mem.le bn bt→R_16 (slice dl dm dn) bt []→∃(R_17:RT),R_17=f 28 [slice cs ck ct,slice dl
 dm dn] bt∧CX Try.prog 23 (Array.mk [slice cs ck ct,slice dl dm dn]) bt [] R_17∧ZaA Shape.bool R_17∧∀(du:Bool)(bq:Mem),Mem.le bt bq→R_17 (Value.bool du) bq []→br (!du) (∀(M:Mem),Mem.le a2 M→
 Mem.le m' M→Mem.le a1 M→Mem.le a3 M→Mem.le bp M→Mem.le bn M→Mem.le bt M→Mem.le bq M→Mem.le bq M→∃(m'':Mem),Mem.le m m''∧Mem.le m'' M∧R (Value.bool false) m'' []) (∃(R_18:RT),R_18=f 34
 [slice bw bx bz,slice p1a p1n p1c] bq∧CX Try.prog 57 (Array.mk [slice bw bx bz,slice p1a p1n p1c]) bq [] R_18∧ZaA Shape.bool R_18∧∀(dv:Bool)(dp:Mem),Mem.le bq dp→R_18 (Value.bool dv) dp []→∀(M:
 Mem),Mem.le a2 M→Mem.le m' M→Mem.le a1 M→Mem.le a3 M→Mem.le bp M→Mem.le bn M→Mem.le bt M→Mem.le bq M→Mem.le dp M→br (!dv) (∃(m'':Mem),Mem.le m m''∧Mem.le m'' M∧R (Value.bool false) m'' []) (∃
 (Y:Nat→Prop),∃(R_19:Value→Mem→List (List Value)→List Value→Prop),CXY Try.prog 50 (Array.mk [agg (Array.mk [slice a4 a5 a6,slice a7 a8 a9,slice ba bb bc,slice bd be bf,Value.bool bg])]) M Y [] []
 R_19∧(∀(t:Tok),t∈[]→∀(b:Nat),Tok.blk t=some b→Y b)∧(∀(ca:Nat),Y ca→(∃(t:Tok),t∈[]∧Tok.blk t=some ca)∨Mem.free m ca∧(∃(o:Nat),∃(v:Value),M ca o=some v)∧bm≠ca∧b≠ca
 ∧ True)∧(∀(v:Value)(m':Mem) (css:List (List Value)) (tvs:List Value),R_19 v m' css tvs→Shape.fits (Shape.tup []) v=true)∧∀(m':Mem),Mem.le (Mem.off M Y) m'→(∀(b o:Nat)(u:Value),m' b o =
 some u→M b o=some u∨Y b∨Mem.free M b)→R_19 (Value.tuple (Array.mk [])) m' [] []→∃(R_20:RT),True∧CX Try.prog 46 (Array.mk [agg (Array.mk [slice ak al am,slice an ao ap,slice aq ar au,slice av aw ax,
 Value.bool ay]),agg (Array.mk [slice a n c,slice aa ab ac,slice ad ae af,slice ag ah ai,Value.bool aj])]) m' [] R_20∧ZaA Shape.bool R_20∧∀(b:Bool)(dq:Mem),Mem.le m' dq→R_20 (Value.bool b) dq []→∃
 (m'':Mem),Mem.le m m''∧Mem.le m'' dq∧R (Value.bool b) m'' []))))))))
theorem ZkM(aL:Option Addr)(aA aM:Nat)(aK:Option Addr)(aB aN:Nat)(aG:Option Addr)(aD aJ:Nat)(aH:Option Addr)(aE aI:Nat)(aC:Bool)(p1a:Option Addr)(p1n p1c:Nat)(m:Mem)(R:RT)(h:ZgL aL aA aM aK aB aN aG aD aJ aH aE aI aC p1a p1n p1c m R):CX Try.prog 13 #[.agg #[.slice aL aA aM,.slice aK aB aN,.slice aG aD aJ,.slice aH aE aI,.bool aC],.slice p1a p1n p1c] m [] R:=
 Zaj (E:=Zmt) Zaw mix Try.func13 [.v (.agg #[.slice aL aA aM,.slice aK aB aN,.slice aG aD aJ,.slice aH aE aI,.bool aC]),.v (.slice p1a p1n p1c)] [] (by kernel_rfl) (Eq.mp (by kernel_rfl) h)
noncomputable def ZhQ:Env:={ EB with
 joins:=(fun i=>bif Nat.beq i 1 then some [(4,.bool)]else none)
 frzNew:=[2] }
def Zd0(aL:Option Addr)(aA aM:Nat)(aK:Option Addr)(aB aN:Nat)(aG:Option Addr)(aD aJ:Nat)(aH:Option Addr)(aE aI:Nat)(aC:Bool)(p1a:Option Addr)(p1n p1c:Nat)(m:Mem)(R:RT):Prop:=
 ∀(b:Nat)(m':Mem),Mem.le m m'→Mem.reads m' b 0 [slice aL aA aM,slice aK aB aN,slice aG aD aJ,slice aH aE aI,Value.bool aC]→∃(b_1:Bool),(∃(R:RT),True∧CX
 Try.prog 10 (Array.mk [agg (Array.mk [slice aL aA aM,slice aK aB aN,slice aG aD aJ,slice aH aE aI,Value.bool aC]),int i64 60,int i64 1000]) m' [] R∧ZaA Shape.bool R∧∀
 (b_2:Bool) (m'_1:Mem),Mem.le m' m'_1→R (Value.bool b_2) m'_1 []→br (!b_2) (∃(R:RT),True∧CX Try.prog 12 (Array.mk []) m'_1 [] R∧ZaA Shape.bool R∧∀(b_3:Bool)(m':Mem),Mem.le m'_1 m'→R
 (Value.bool b_3) m' []→[some (Box.mk b [slice aL aA aM,slice aK aB aN,slice aG aD aJ,slice aH aE aI,Value.bool aC] 26 5 true true)]=[some (Box.mk b [slice aL aA aM,
 slice aK aB aN,slice aG aD aJ,slice aH aE aI,Value.bool aC] 26 5 true true)]∧[Value.bool b_3]=[Value.bool b_1]) (br (decide ((↑p1n:Int) > (60:Int))) (∃(R:RT),True∧CX
 Try.prog 12 (Array.mk []) m'_1 [] R∧ZaA Shape.bool R∧∀(b_3:Bool)(m':Mem),Mem.le m'_1 m'→R (Value.bool b_3) m' []→[some (Box.mk b [slice aL aA aM,slice aK aB aN,slice aG aD
 aJ,slice aH aE aI,Value.bool aC] 26 5 true true)]=[some (Box.mk b [slice aL aA aM,slice aK aB aN,slice aG aD aJ,slice aH aE aI,Value.bool aC] 26 5 true true)]
 ∧ [Value.bool b_3]=[Value.bool b_1]) (∃(R:RT),True∧CX Try.prog 13 (Array.mk [agg (Array.mk [slice aL aA aM,slice aK aB aN,slice aG aD aJ,slice aH aE aI,Value.bool aC]),
 slice p1a p1n p1c]) m'_1 [] R∧ZaA Shape.bool R∧∀(b_3:Bool)(m':Mem),Mem.le m'_1 m'→R (Value.bool b_3) m' []→br b_3 (∃(R:RT),True∧CX Try.prog 12 (Array.mk []) m' [] R∧ZaA Shape.bool R∧∀(b_4:
 Bool) (m'_2:Mem),Mem.le m' m'_2→R (Value.bool b_4) m'_2 []→[some (Box.mk b [slice aL aA aM,slice aK aB aN,slice aG aD aJ,slice aH aE aI,Value.bool aC] 26 5 true true)] =
 [some (Box.mk b [slice aL aA aM,slice aK aB aN,slice aG aD aJ,slice aH aE aI,Value.bool aC] 26 5 true true)]∧[Value.bool b_4]=[Value.bool b_1]) ([some (Box.mk b [slice aL
 aA aM,slice aK aB aN,slice aG aD aJ,slice aH aE aI,Value.bool aC] 26 5 true true)]=[some (Box.mk b [slice aL aA aM,slice aK aB aN,slice aG aD aJ,
 slice aH aE aI,Value.bool aC] 26 5 true true)]∧[Value.bool false]=[Value.bool b_1]))))∧∃(m'':Mem),Mem.le m m''∧Mem.le m'' m'∧R (Value.bool b_1) m'' []
theorem ZgZ(aL:Option Addr)(aA aM:Nat)(aK:Option Addr)(aB aN:Nat)(aG:Option Addr)(aD aJ:Nat)(aH:Option Addr)(aE aI:Nat)(aC:Bool)(p1a:Option Addr)(p1n p1c:Nat)(m:Mem)(R:RT)(h:Zd0 aL aA aM aK aB aN aG aD aJ aH aE aI aC p1a p1n p1c m R):CX Try.prog 4 #[.agg #[.slice aL aA aM,.slice aK aB aN,.slice aG aD aJ,.slice aH aE aI,.bool aC],.slice p1a p1n p1c] m [] R:=
 Zaj (E:=ZhQ) Zaw mix Try.func4 [.v (.agg #[.slice aL aA aM,.slice aK aB aN,.slice aG aD aJ,.slice aH aE aI,.bool aC]),.v (.slice p1a p1n p1c)] [] (by kernel_rfl) (Eq.mp (by kernel_rfl) h)
end Go.Proofs.Ytplacemlpkhmfaa
