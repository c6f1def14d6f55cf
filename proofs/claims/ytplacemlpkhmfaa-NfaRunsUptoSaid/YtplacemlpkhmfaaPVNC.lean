/- Part of the proof: conditions and contracts of functions of this program. No condition of its own. -/
import Derived.Test.YtplacemlpkhmfaaPEnv
import Derived.Test.YtplacemlpkhmfaaMc
set_option linter.unusedVariables false
namespace Go.Proofs.Ytplacemlpkhmfaa
open Go Go.Eng Go.Proofs Go.RowKit
open Go.Value (int slice agg)
open Go.IntKind (u8 u64 i64)
set_option maxRecDepth 100000
noncomputable def ZkN:Env:={ EB with
 loops:=(fun i=>bif Nat.beq i 3 then⟨[(4,.int .i64)],[3],[],false⟩ else bif Nat.beq i 7 then⟨[(5,.int .u64),(6,.int .i64)],[],[],false⟩ else⟨[],[],[],false⟩)
 frzNew:=[1] }
def ZfE(aS aT aU aV:Int)(m:Mem)(R:RT):Prop:=
 ∀(b:Nat)(m':Mem),Mem.le m m'→Mem.reads m' b 0 [int u64 aS,int u64 aT,int u64 aU,int u64 aV]→∀(b_1 b_2:Nat),∃(I:IT),(∃(n:Nat),I [int i64 0] [List.replicate 256 (int i64 0)] [] m' n)∧∀
 (n:Int) (cs:List Value) (m'_1:Mem) (n_1:Nat),Mem.le m' m'_1→I [int i64 n] [cs] [] m'_1 n_1→br (decide (n < (256:Int))) ((64:Int)≠(0:Int)∧Zac (IntKind.wrap i64 (Int.tdiv n (64:Int))) 4∧
 Eng.ZsM [int u64 aS,int u64 aT,int u64 aU,int u64 aV] (0+Int.toNat (IntKind.wrap i64 (Int.tdiv n (64:Int)))*1) fun(v:Value)=>∃(I_1:IT),chk (Shape.fits (Shape.int u64) v) (∃(n:Nat),I_1 [v,
 int i64 0] [] [] m'_1 n)∧∀(n_2 n_3:Int)(m':Mem)(n_4:Nat),Mem.le m'_1 m'→I_1 [int u64 n_2,int i64 n_3] [] [] m' n_4→(64:Int)≠(0:Int)∧br (decide (n_3 < Int.tmod n (64:Int))) ((2:Int)≠(0:
 Int)∧[some (Box.mk b_2 cs 141 256 false true),some (Box.mk b_1 (List.replicate 256 (int i64 0)) 141 256 false true),some (Box.mk b [int u64 aS,int u64 aT,int u64 aU,int u64 aV] 37 4 true true)]=[some
 (Box.mk b_2 cs 141 256 false true),some (Box.mk b_1 (List.replicate 256 (int i64 0)) 141 256 false true),some (Box.mk b [int u64 aS,int u64 aT,int u64 aU,int u64 aV] 37 4 true true)]∧∃(n':Nat),n' <
 n_4∧I_1 [int u64 (IntKind.wrap u64 (Int.tdiv n_2 (2:Int))),int i64 (IntKind.wrap i64 (n_3+(1:Int)))] [] [] m' n') ((2:Int)≠(0:Int)∧Zac n 256∧chk (Nat.ble (0+Int.toNat n*1+1) (List.length
 cs)) ([some (Box.mk b_2 [] 141 256 false true),some (Box.mk b_1 (List.replicate 256 (int i64 0)) 141 256 false true),some (Box.mk b [int u64 aS,int u64 aT,int u64 aU,int u64 aV] 37 4 true true)]=[some
 (Box.mk b_2 [] 141 256 false true),some (Box.mk b_1 (List.replicate 256 (int i64 0)) 141 256 false true),some (Box.mk b [int u64 aS,int u64 aT,int u64 aU,int u64 aV] 37 4 true true)]∧∃(n':Nat),n' <
 n_1∧I [int i64 (IntKind.wrap i64 (n+(1:Int)))] [Zan cs (0+Int.toNat n*1) [int i64 (IntKind.wrap i64 (Int.tmod n_2 (2:Int)))]] [] m' n'))) (chk (Nat.beq (List.length cs) 256&&Zcu cs) (∃(m'':Mem),
 Mem.le m m''∧Mem.le m'' m'_1∧R (agg (Array.mk cs)) m'' []))
theorem Zi0(aS aT aU aV:Int)(m:Mem)(R:RT)(h:ZfE aS aT aU aV m R):CX Try.prog 99 #[.agg #[.int .u64 aS,.int .u64 aT,.int .u64 aU,.int .u64 aV]] m [] R:=
 Zaj (E:=ZkN) Zaw mix Try.func99 [.v (.agg #[.int .u64 aS,.int .u64 aT,.int .u64 aU,.int .u64 aV])] [] (by kernel_rfl) (Eq.mp (by kernel_rfl) h)
noncomputable def Zmu:Env:={ EB with
 loops:=(fun i=>bif Nat.beq i 3 then⟨[(3,.int .i64),(4,.int .i64)],[],[],false⟩ else⟨[],[],[],false⟩)
 frzNew:=[1] }
def ZgM(p0:List Value)(m:Mem)(R:RT):Prop:=
 chk (Nat.beq (List.length p0) 256) (∀(b:Nat)(m':Mem),Mem.le m m'→Mem.reads m' b 0 p0→∃(I:IT),(∃(n:Nat),I [int i64 0,int i64 0] [] [] m' n)∧∀(n n_1:Int)(m'_1:Mem)(n_2:Nat),Mem.le m' m'_1→
 I [int i64 n,int i64 n_1] [] [] m'_1 n_2→br (decide (n_1 < (256:Int))) (Zac n_1 256∧Eng.ZsM p0 (0+Int.toNat n_1*1) fun(v:Value)=>chk (ZaY i64 v) ([some (Box.mk b p0 141 256 true true)]=[some
 (Box.mk b p0 141 256 true true)]∧∃(n':Nat),n' < n_2∧I [int i64 (IntKind.wrap i64 (n+RowKit.intOf v)),int i64 (IntKind.wrap i64 (n_1+(1:Int)))] [] [] m'_1 n')) (∃(m'':Mem),Mem.le m m''∧Mem.le m''
 m'_1∧R (int i64 n) m'' []))
theorem ZkO(p0:List Value)(m:Mem)(R:RT)(h:ZgM p0 m R):CX Try.prog 101 #[.agg p0.toArray] m [] R:=
 Zaj (E:=Zmu) Zaw mix Try.func101 [.v (.agg p0.toArray)] [] (by kernel_rfl) (Eq.mp (by kernel_rfl) h)
noncomputable def Zbw:Env:={ EB with
 loops:=(fun i=>bif Nat.beq i 4 then⟨[(13,.int .i64)],[],[],false⟩ else⟨[],[],[],false⟩)
 dr:=(fun i=>bif Nat.beq i 6 then[⟨0,[],[],none,[],[]⟩,⟨1,[],[],none,[],[]⟩,⟨2,[],[],none,[0,1],[]⟩,⟨3,[],[],none,[0,1,2],[]⟩,⟨4,[],[],none,[],[]⟩,⟨5,[],[],none,[],[]⟩,⟨6,[],[],none,[4,5],[]⟩,⟨7,[],[],none,[4,5,6],[]⟩,⟨8,[],[],none,[0,1,2,3,4,5,6,7],[]⟩]else[]) }
def ZaP(p0a:Option Addr)(p0n p0c:Nat)(p1a:Option Addr)(p1n p1c:Nat)(m:Mem)(R:RT):Prop:=
 br (!(↑p0n:Int) == (↑p1n:Int)) (∃(m'':Mem),Mem.le m m''∧Mem.le m'' m∧R (Value.bool false) m'' []) (∃(I:IT),(∃(n:Nat),I [int i64 0] [] [] m n)∧∀(n:Int)(m':Mem)(n_1:Nat),Mem.le m m'→I
 [int i64 n] [] [] m' n_1→br (decide (n < (↑p0n:Int))) (∃(b:Nat),∃(o:Nat),p0a=some (Addr.mk b o none)∧Zac n p0n∧∃(vs:List Value),List.length vs=256∧Mem.reads m' b (o+Int.toNat n*256) vs
 ∧ ∃(b:Nat),∃(o:Nat),p1a=some (Addr.mk b o none)∧Zac n p1n∧∃(vs_1:List Value),List.length vs_1=256∧Mem.reads m' b (o+Int.toNat n*256) vs_1∧∃(b:Bool),EqIs Try.prog 141 (agg (Array.mk
 vs)) (agg (Array.mk vs_1)) b∧br (!b) (∃(m'':Mem),Mem.le m m''∧Mem.le m'' m'∧R (Value.bool false) m'' []) (∃(n':Nat),n' < n_1∧I [int i64 (IntKind.wrap i64 (n+(1:Int)))] [] [] m' n')) (∃(m'':Mem),
 Mem.le m m''∧Mem.le m'' m'∧R (Value.bool true) m'' []))
theorem Zbp(p0a:Option Addr)(p0n p0c:Nat)(p1a:Option Addr)(p1n p1c:Nat)(m:Mem)(R:RT)(h:ZaP p0a p0n p0c p1a p1n p1c m R):CX Try.prog 102 #[.slice p0a p0n p0c,.slice p1a p1n p1c] m [] R:=
 Zaj (E:=Zbw) Zaw mix Try.func102 [.v (.slice p0a p0n p0c),.v (.slice p1a p1n p1c)] [] (by kernel_rfl) (Eq.mp (by kernel_rfl) h)
noncomputable def Zi1:Env:={ EB with
 loops:=(fun i=>bif Nat.beq i 2 then⟨[(7,.int .i64)],[],[],false⟩ else⟨[],[],[],false⟩)
 dr:=(fun i=>bif Nat.beq i 4 then[⟨0,[],[],none,[],[]⟩,⟨1,[],[],none,[],[]⟩,⟨2,[],[],none,[0,1],[]⟩,⟨3,[],[],none,[0,1,2],[]⟩,⟨4,[],[],none,[],[]⟩,⟨5,[],[],none,[0,1,2,3,4],[]⟩,⟨6,[],[],none,[0,1,2,3,4,5],[]⟩,⟨7,[],[],none,[0,1,2,3,4,5,6],[]⟩,⟨8,[],[],none,[0,1,2,3,4,5,6],[]⟩,⟨9,[],[],none,[0,1,2,3,4,5,6,7,8],[]⟩,⟨10,[],[],none,[0,1,2,3,4,5,6,7,8,9],[]⟩,⟨11,[],[],none,[0,1,2,3,4,5,6],[]⟩,⟨12,[],[],none,[0,1,2,3,4,5,6,7,8,9,10,11],[]⟩,⟨13,[],[],none,[0,1,2,3,4,5,6,7,8,9,10,11,12],[]⟩,⟨14,[],[],none,[0,1,2,3,4,5,6,7,8,9,10,11,12,13],[]⟩,⟨15,[],[],none,[0,1,2,3,4,5,6,7,8,9,10,11,12,13,14],[]⟩,⟨16,[],[],none,[0,1,2,3,4,5,6,7,8,9,10,11,12,13,14,15],[]⟩,⟨17,[],[],none,[0,1,2,3,4,5,6,7,8,9,10,11,12,13,14,15,16],[]⟩,⟨18,[],[],none,[0,1,2,3,4,5,6,7,8,9,10,11,12,13,14,15,16,17],[]⟩,⟨19,[],[],none,[0,1,2,3,4,5,6,7,8,9,10,11,12,13,14,15,16,17],[]⟩,⟨20,[],[],none,[0,1,2,3,4,5,6,7,8,9,10,11,12,13,14,15,16,17,18,19],[]⟩,⟨21,[],[],none,[0,1,2,3,4,5,6,7,8,9,10,11,12,13,14,15,16,17,18,19,20],[]⟩,⟨22,[],[],none,[0,1,2,3,4,5,6,7,8,9,10,11,12,13,14,15,16,17],[]⟩,⟨23,[],[],none,[0,1,2,3,4,5,6,7,8,9,10,11,12,13,14,15,16,17],[]⟩,⟨24,[],[],none,[0,1,2,3,4,5,6,7,8,9,10,11,12,13,14,15,16,17,23],[]⟩,⟨25,[],[],none,[0,1,2,3,4,5,6,7,8,9,10,11,12,13,14,15,16,17,22,23,24],[]⟩,⟨26,[],[],none,[0,1,2,3,4,5,6,7,8,9,10,11,12,13,14,15,16,17,22,23,24,25],[]⟩,⟨27,[],[],none,[0,1,2,3,4,5,6,7,8,9,10,11,12,13,14,15,16,17,18,19,20,21,22,23,24,25,26],[]⟩,⟨28,[],[],none,[0,1,2,3,4,5,6,7,8,9,10,11,12,13,14,15,16,17,18,19,20,21,22,23,24,25,26,27],[]⟩,⟨29,[],[],none,[0,1,2,3,4,5,6,7,8,9,10,11,12,13,14,15,16,17,18,19,20,21,22,23,24,25,26,27,28],[]⟩]else[])
 gb:=true }
def ZeQ(p0a:Option Addr)(p0n p0c:Nat)(p1 p2:Int)(m:Mem)(R:RT):Prop:=
 ∃(I:IT),(∃(n:Nat),I [int i64 0] [] [] m n)∧∀(n:Int)(m':Mem)(n_1:Nat),Mem.le m m'→I [int i64 n] [] [] m' n_1→br (decide (n < (↑p0n:Int))) (∃(b:Nat),∃(o:Nat),p0a=some (Addr.mk b o none)
 ∧ Zac n p0n∧∃(v:Value),m' b (o+Int.toNat n*1)=some v∧chk (ZaY i64 v&&decide (i64=i64)) (br (decide (RowKit.intOf v < p1)) (∃(m'':Mem),Mem.le m m''∧Mem.le m'' m'∧R (Value.bool false) m''
 []) (∃(b:Nat),∃(o:Nat),p0a=some (Addr.mk b o none)∧Zac n p0n∧∃(v:Value),m' b (o+Int.toNat n*1)=some v∧chk (ZaY i64 v&&decide (i64=i64)) (br (decide (RowKit.intOf v ≥ p2)) (∃(m'':
 Mem),Mem.le m m''∧Mem.le m'' m'∧R (Value.bool false) m'' []) (br (decide (n > (0:Int))) (∃(b:Nat),∃(o:Nat),p0a=some (Addr.mk b o none)∧Zac n p0n∧∃(v:Value),m' b (o+Int.toNat n*1)=some
 v∧∃(b:Nat),∃(o:Nat),p0a=some (Addr.mk b o none)∧Zac (IntKind.wrap i64 (n - (1:Int))) p0n∧∃(v_1:Value),m' b (o+Int.toNat (IntKind.wrap i64 (n - (1:Int)))*1)=some v_1∧chk (ZaY i64 v
 && ZaY i64 v_1) (br (decide (RowKit.intOf v≤RowKit.intOf v_1)) (∃(m'':Mem),Mem.le m m''∧Mem.le m'' m'∧R (Value.bool false) m'' []) (∃(n':Nat),n' < n_1∧I [int i64 (IntKind.wrap i64 (n+(1:Int)))] []
 [] m' n'))) (∃(n':Nat),n' < n_1∧I [int i64 (IntKind.wrap i64 (n+(1:Int)))] [] [] m' n')))))) (∃(m'':Mem),Mem.le m m''∧Mem.le m'' m'∧R (Value.bool true) m'' [])
theorem ZhR(p0a:Option Addr)(p0n p0c:Nat)(p1 p2:Int)(m:Mem)(R:RT)(h:ZeQ p0a p0n p0c p1 p2 m R):CX Try.prog 100 #[.slice p0a p0n p0c,.int .i64 p1,.int .i64 p2] m [] R:=
 Zaj (E:=Zi1) Zaw mix Try.func100 [.v (.slice p0a p0n p0c),.v (.int .i64 p1),.v (.int .i64 p2)] [] (by kernel_rfl) (Eq.mp (by kernel_rfl) h)
noncomputable def Zor:Env:={ EB with
 loops:=(fun i=>bif Nat.beq i 2 then⟨[(5,.int .i64)],[],[],false⟩ else⟨[],[],[],false⟩) }
def ZhS(p0a:Option Addr)(p0n p0c:Nat)(p1:Int)(m:Mem)(R:RT):Prop:=
 ∃(I:IT),(∃(n:Nat),I [int i64 0] [] [] m n)∧∀(n:Int)(m':Mem)(n_1:Nat),Mem.le m m'→I [int i64 n] [] [] m' n_1→br (decide (n < (↑p0n:Int))) (∃(b:Nat),∃(o:Nat),p0a=some (Addr.mk b o none)
 ∧ Zac n p0n∧∃(v:Value),m' b (o+Int.toNat n*1)=some v∧chk (ZaY i64 v&&decide (i64=i64)) (br (RowKit.intOf v == p1) (∃(m'':Mem),Mem.le m m''∧Mem.le m'' m'∧R (Value.bool true) m'' []) (∃(n'
 : Nat),n' < n_1∧I [int i64 (IntKind.wrap i64 (n+(1:Int)))] [] [] m' n'))) (∃(m'':Mem),Mem.le m m''∧Mem.le m'' m'∧R (Value.bool false) m'' [])
theorem Zmv(p0a:Option Addr)(p0n p0c:Nat)(p1:Int)(m:Mem)(R:RT)(h:ZhS p0a p0n p0c p1 m R):CX Try.prog 104 #[.slice p0a p0n p0c,.int .i64 p1] m [] R:=
 Zaj (E:=Zor) Zaw mix Try.func104 [.v (.slice p0a p0n p0c),.v (.int .i64 p1)] [] (by kernel_rfl) (Eq.mp (by kernel_rfl) h)
noncomputable def Zmw:Env:={ EB with
 loops:=(fun i=>bif Nat.beq i 3 then⟨[(3,.slice),(4,.int .i64)],[],[(19,1)],false⟩ else⟨[],[],[],false⟩)
 tokOf:=(fun i=>bif Nat.beq i 19 then 19 else 0) }
def ZgN(p0a:Option Addr)(p0n p0c:Nat)(m:Mem)(R:RT):Prop:=
 ∃(I:IT),(∃(n:Nat),I [slice none 0 0,int i64 0] [] [slice none 0 0] m n)∧∀(a:Option Addr)(n c:Nat)(n_1:Int)(a_1:Option Addr)(n_2 c_1:Nat)(m':Mem)(n_3:Nat),Mem.le m m'→I [slice a n c,
 int i64 n_1] [] [slice a_1 n_2 c_1] m' n_3→br (decide (n_1 < (↑p0n:Int))) (∃(b:Nat),∃(o:Nat),p0a=some (Addr.mk b o none)∧Zac n_1 p0n∧∃(v:Value),m' b (o+Int.toNat n_1*1)=some v∧chk
 (ZaY i64 v&&decide (i64=i64)) (br (RowKit.intOf v == (1:Int)) (∀(b:Nat),Mem.free m' b→(Tok.mk (slice a_1 n_2 c_1) 1=Tok.mk (slice a n c) 1∨slice a n c=slice none 0 0∨c < n+1)∧∃(xs:List
 Value),∃(ys:List Value),List.length xs=n*1∧List.length ys=1*1∧rowRd (Mem.add m' b [int i64 n_1]) a xs∧rowRd (Mem.add m' b [int i64 n_1]) (some (Addr.mk b 0 none)) ys∧(∀(u:Value),u∈ys→
 Value.oneCell' u=true)∧(n+1)*8≤140737488355328∧n+1≤9223372036854775807∧∀(a':Option Addr)(c':Nat)(m'_1:Mem),Mem.le (Mem.add m' b [int i64 n_1]) m'_1→rowRd m'_1 a' (List.append xs ys)→∃(n'
 : Nat),n' < n_3∧I [slice a' (n+1) c',int i64 (IntKind.wrap i64 (n_1+(1:Int)))] [] [slice a' (n+1) c'] m'_1 n') (∃(n':Nat),n' < n_3∧I [slice a n c,int i64 (IntKind.wrap i64 (n_1+(1:Int)))] []
 [slice a_1 n_2 c_1] m' n'))) (∃(m'':Mem),Mem.le m m''∧Mem.le m'' m'∧R (slice a n c) m'' [])
theorem ZkP(p0a:Option Addr)(p0n p0c:Nat)(m:Mem)(R:RT)(h:ZgN p0a p0n p0c m R):CX Try.prog 103 #[.slice p0a p0n p0c] m [] R:=
 Zaj (E:=Zmw) Zaw mix Try.func103 [.v (.slice p0a p0n p0c)] [] (by kernel_rfl) (Eq.mp (by kernel_rfl) h)
noncomputable def ZkQ:Env:={ EB with
 loops:=(fun i=>bif Nat.beq i 5 then⟨[(4,.int .i64)],[],[],false⟩ else⟨[],[],[],false⟩)
 joins:=(fun i=>bif Nat.beq i 2 then some [(30,.bool)]else bif Nat.beq i 7 then some [(52,.bool)]else none)
 frzNew:=[1] }
def ZfF(aL:Option Addr)(aA aM:Nat)(aK:Option Addr)(aB aN:Nat)(aG:Option Addr)(aD aJ:Nat)(aH:Option Addr)(aE aI:Nat)(aC:Bool)(m:Mem)(R:RT):Prop:=
 ∀(b:Nat)(m':Mem),Mem.le m m'→Mem.reads m' b 0 [slice aL aA aM,slice aK aB aN,slice aG aD aJ,slice aH aE aI,Value.bool aC]→∃(ac:Bool),br (decide ((↑aA:Int) >
 (400:Int))) ([some (Box.mk b [slice aL aA aM,slice aK aB aN,slice aG aD aJ,slice aH aE aI,Value.bool aC] 79 5 true true)]=[some (Box.mk b [slice aL aA aM,slice
 aK aB aN,slice aG aD aJ,slice aH aE aI,Value.bool aC] 79 5 true true)]∧[Value.bool true]=[Value.bool ac]) (br (!(↑aB:Int) == (↑aA:Int)) ([some (Box.mk b [slice aL aA
 aM,slice aK aB aN,slice aG aD aJ,slice aH aE aI,Value.bool aC] 79 5 true true)]=[some (Box.mk b [slice aL aA aM,slice aK aB aN,slice aG aD aJ,slice
 aH aE aI,Value.bool aC] 79 5 true true)]∧[Value.bool true]=[Value.bool ac]) (∃(R:RT),True∧CX Try.prog 100 (Array.mk [slice aG aD aJ,int i64 0,int i64 (↑aA:Int)]) m' [] R∧ZaA
 Shape.bool R∧∀(ab:Bool)(aa:Mem),Mem.le m' aa→R (Value.bool ab) aa []→br (!ab) ([some (Box.mk b [slice aL aA aM,slice aK aB aN,slice aG aD aJ,slice aH aE aI,Value.bool
 aC] 79 5 true true)]=[some (Box.mk b [slice aL aA aM,slice aK aB aN,slice aG aD aJ,slice aH aE aI,Value.bool aC] 79 5 true true)]∧[Value.bool true]=[Value.bool ac]) (∃
 (R:RT),True∧CX Try.prog 100 (Array.mk [slice aH aE aI,int i64 0,int i64 (↑aA:Int)]) aa [] R∧ZaA Shape.bool R∧∀(ad:Bool)(m':Mem),Mem.le aa m'→R (Value.bool ad) m' []→[some (Box.mk b
 [slice aL aA aM,slice aK aB aN,slice aG aD aJ,slice aH aE aI,Value.bool aC] 79 5 true true)]=[some (Box.mk b [slice aL aA aM,slice aK aB aN,slice aG
 aD aJ,slice aH aE aI,Value.bool aC] 79 5 true true)]∧[Value.bool !ad]=[Value.bool ac])))∧br ac (∃(m'':Mem),Mem.le m m''∧Mem.le m'' m'∧R (Value.bool false) m'' []) (∃(I:IT),(∃(n:
 Nat),I [int i64 0] [] [] m' n)∧∀(n:Int)(aa:Mem)(ae:Nat),Mem.le m' aa→I [int i64 n] [] [] aa ae→br (decide (n < (↑aA:Int))) (∃(ab:Bool),(∃(ad:Nat),∃(o:Nat),aL=some (Addr.mk ad o
 none)∧Zac n aA∧∃(vs:List Value),List.length vs=256∧Mem.reads aa ad (o+Int.toNat n*256) vs∧∃(R:RT),True∧CX Try.prog 101 (Array.mk [agg (Array.mk vs)]) aa [] R∧ZaA (Shape.int i64) R∧∀
 (af:Int) (m':Mem),Mem.le aa m'→R (int i64 af) m' []→br (af == (0:Int)) ([some (Box.mk b [slice aL aA aM,slice aK aB aN,slice aG aD aJ,slice aH aE aI,Value.bool aC] 79
 5 true true)]=[some (Box.mk b [slice aL aA aM,slice aK aB aN,slice aG aD aJ,slice aH aE aI,Value.bool aC] 79 5 true true)]∧[Value.bool true]=[Value.bool ab]) (∃(ag:
 Nat),∃(o:Nat),aK=some (Addr.mk ag o none)∧Zac n aB∧∃(v:Value),m' ag (o+Int.toNat n*1)=some v∧∃(R:RT),True∧CX Try.prog 100 (Array.mk [v,int i64 0,int i64 (↑aA:Int)]) m' [] R
 ∧ ZaA Shape.bool R∧∀(ah:Bool)(ai:Mem),Mem.le m' ai→R (Value.bool ah) ai []→[some (Box.mk b [slice aL aA aM,slice aK aB aN,slice aG aD aJ,slice aH aE aI,Value.bool
 aC] 79 5 true true)]=[some (Box.mk b [slice aL aA aM,slice aK aB aN,slice aG aD aJ,slice aH aE aI,Value.bool aC] 79 5 true true)]∧[Value.bool !ah]=[Value.bool ab]))∧br
 ab (∃(m'':Mem),Mem.le m m''∧Mem.le m'' aa∧R (Value.bool false) m'' []) ([some (Box.mk b [slice aL aA aM,slice aK aB aN,slice aG aD aJ,slice aH aE aI,Value.bool aC] 79 5
 true true)]=[some (Box.mk b [slice aL aA aM,slice aK aB aN,slice aG aD aJ,slice aH aE aI,Value.bool aC] 79 5 true true)]∧∃(n':Nat),n' < ae∧I [int i64 (IntKind.wrap i64
 (n+(1:Int)))] [] [] aa n')) (∃(m'':Mem),Mem.le m m''∧Mem.le m'' aa∧R (Value.bool true) m'' []))
theorem Zi2(aL:Option Addr)(aA aM:Nat)(aK:Option Addr)(aB aN:Nat)(aG:Option Addr)(aD aJ:Nat)(aH:Option Addr)(aE aI:Nat)(aC:Bool)(m:Mem)(R:RT)(h:ZfF aL aA aM aK aB aN aG aD aJ aH aE aI aC m R):CX Try.prog 45 #[.agg #[.slice aL aA aM,.slice aK aB aN,.slice aG aD aJ,.slice aH aE aI,.bool aC]] m [] R:=
 Zaj (E:=ZkQ) Zaw mix Try.func45 [.v (.agg #[.slice aL aA aM,.slice aK aB aN,.slice aG aD aJ,.slice aH aE aI,.bool aC])] [] (by kernel_rfl) (Eq.mp (by kernel_rfl) h)
noncomputable def Zmx:Env:={ EB with
 loops:=(fun i=>bif Nat.beq i 3 then⟨[(8,.int .i64)],[14],[],false⟩ else bif Nat.beq i 9 then⟨[(10,.int .i64)],[14],[],false⟩ else⟨[],[],[],false⟩)
 dr:=(fun i=>bif Nat.beq i 7 then[⟨0,[3],[],none,[],[]⟩,⟨1,[3],[],none,[0],[]⟩,⟨2,[],[],none,[],[]⟩,⟨3,[],[],none,[],[]⟩,⟨4,[],[],none,[2,3],[]⟩,⟨5,[],[],none,[2,3,4],[]⟩,⟨6,[],[],none,[0,1,2,3,4,5],[]⟩,⟨7,[],[],none,[0,1,2,3,4,5,6],[]⟩,⟨8,[],[],none,[0,1,2,3,4,5,6,7],[]⟩]else bif Nat.beq i 11 then[⟨0,[3],[],none,[],[]⟩,⟨1,[3],[],none,[0],[]⟩,⟨2,[],[],none,[],[]⟩,⟨3,[],[],none,[],[]⟩,⟨4,[],[],none,[2,3],[]⟩,⟨5,[],[],none,[2,3,4],[]⟩,⟨6,[],[],none,[],[]⟩,⟨7,[],[],none,[0,1,2,3,4,5],[]⟩,⟨8,[],[],none,[0,1,2,3,4,5,6,7],[]⟩,⟨9,[],[],none,[0,1,2,3,4,5,6,7,8],[]⟩,⟨10,[],[],none,[0,1,2,3,4,5,6,7,8,9],[]⟩]else[])
 frzNew:=[3]
 frzAt:=(fun i=>bif Nat.beq i 60 then[14]else[]) }
def ZgO(aL:Option Addr)(aA aM:Nat)(aK:Option Addr)(aB aN:Nat)(aG:Option Addr)(aD aJ:Nat)(aH:Option Addr)(aE aI:Nat)(aC:Bool)(p1a:Option Addr)(p1n p1c:Nat)(p2:Int)(m:Mem)(R:RT):Prop:=
 ∀(b:Nat)(m':Mem),Mem.le m m'→Mem.reads m' b 0 [slice aL aA aM,slice aK aB aN,slice aG aD aJ,slice aH aE aI,Value.bool aC]→((0:Int)≤(↑aA:Int)∧(↑aA:Int)
 ≤ (↑aA:Int)∧(↑aA:Int)*(↑(8:Nat):Int)≤(281474976710656:Int)∧(↑aA:Int)≤(9223372036854775807:Int))∧∀(ab:Nat),∃(I:IT),(∃(n:Nat),I [int i64 0] [List.flatten (List.replicate
 (Int.toNat (↑aA:Int)) [int i64 0])] [] m' n)∧∀(n:Int)(cs:List Value)(ae:Mem)(aj:Nat),Mem.le m' ae→I [int i64 n] [cs] [] ae aj→br (decide (n < (↑p1n:Int))) (∃(am:Nat),∃(o:Nat),p1a=some
 (Addr.mk am o none)∧Zac n p1n∧∃(v:Value),ae am (o+Int.toNat n*1)=some v∧chk (ZaY i64 v&&decide (i64=i64)) (br (decide (RowKit.intOf v ≥ (0:Int))) (∃(ag:Nat),∃(o:Nat),p1a=some
 (Addr.mk ag o none)∧Zac n p1n∧∃(v:Value),ae ag (o+Int.toNat n*1)=some v∧chk (ZaK v) (∃(ah:Nat),∃(o:Nat),aK=some (Addr.mk ah o none)∧Zac (RowKit.intOf v) aB∧∃(ac:
 Value),ae ah (o+Int.toNat (RowKit.intOf v)*1)=some ac∧∃(ad:IT),(∃(n:Nat),ad [int i64 0] [cs] [] ae n)∧∀(aa:Int)(cs:List Value)(m':Mem)(af:Nat),Mem.le ae m'→ad [int i64 aa] [cs] [] m' af
 → chk (Zc8 ac) (br (decide (aa < (↑(slN ac):Int))) (chk (Zc8 ac) (∃(ai:Nat),∃(o:Nat),slA ac=some (Addr.mk ai o none)∧Zac aa (slN ac)∧∃(v:Value),m' ai (o+Int.toNat aa*1)=some v∧chk
 (ZaK v) (∃(an:Nat),∃(o:Nat),aL=some (Addr.mk an o none)∧Zac (RowKit.intOf v) aA∧Zac p2 256∧∃(ak:Value),m' an (o+Int.toNat (RowKit.intOf v)*256+Int.toNat p2*1)=some ak∧
 chk (ZaY i64 ak&&decide (i64=i64)) (br (RowKit.intOf ak == (1:Int)) (chk (Zc8 ac) (∃(ao:Nat),∃(o:Nat),slA ac=some (Addr.mk ao o none)∧Zac aa (slN ac)∧∃(v:Value),m' ao (o+Int.toNat aa *
 1)=some v∧chk (ZaK v) (Zac (RowKit.intOf v) (Int.toNat (↑aA:Int))∧bif Nat.beq (Int.toNat (↑aA:Int)*1) 1&&Nat.beq (Int.toNat (RowKit.intOf v)*1) 0 then[some (Box.mk ab [] 3 (Int.toNat
 (↑aA:Int)*1) false true),some (Box.mk b [slice aL aA aM,slice aK aB aN,slice aG aD aJ,slice aH aE aI,Value.bool aC] 79 5 true true)]=[some (Box.mk ab [] 3 (Int.toNat
 (↑aA:Int)*1) false true),some (Box.mk b [slice aL aA aM,slice aK aB aN,slice aG aD aJ,slice aH aE aI,Value.bool aC] 79 5 true true)]∧∃(n':Nat),n' < af∧ad [int
 i64 (IntKind.wrap i64 (aa+(1:Int)))] [[int i64 1]] [] m' n' else chk (Nat.ble (Int.toNat (RowKit.intOf v)*1+1) (List.length cs)) ([some (Box.mk ab [] 3 (Int.toNat (↑aA:Int)*1) false true),some (Box.mk b
 [slice aL aA aM,slice aK aB aN,slice aG aD aJ,slice aH aE aI,Value.bool aC] 79 5 true true)]=[some (Box.mk ab [] 3 (Int.toNat (↑aA:Int)*1) false true),some (Box.mk b
 [slice aL aA aM,slice aK aB aN,slice aG aD aJ,slice aH aE aI,Value.bool aC] 79 5 true true)]∧∃(n':Nat),n' < af∧ad [int i64 (IntKind.wrap i64 (aa+(1:Int)))] [Zan
 cs (Int.toNat (RowKit.intOf v)*1) [int i64 1]] [] m' n')))) ([some (Box.mk ab [] 3 (Int.toNat (↑aA:Int)*1) false true),some (Box.mk b [slice aL aA aM,slice aK aB aN,slice aG aD aJ,
 slice aH aE aI,Value.bool aC] 79 5 true true)]=[some (Box.mk ab [] 3 (Int.toNat (↑aA:Int)*1) false true),some (Box.mk b [slice aL aA aM,slice aK aB aN,slice aG aD aJ,
 slice aH aE aI,Value.bool aC] 79 5 true true)]∧∃(n':Nat),n' < af∧ad [int i64 (IntKind.wrap i64 (aa+(1:Int)))] [cs] [] m' n'))))) ([some (Box.mk ab [] 3 (Int.toNat (↑aA:Int)*1) false true),
 some (Box.mk b [slice aL aA aM,slice aK aB aN,slice aG aD aJ,slice aH aE aI,Value.bool aC] 79 5 true true)]=[some (Box.mk ab [] 3 (Int.toNat (↑aA:Int)*1) false true),
 some (Box.mk b [slice aL aA aM,slice aK aB aN,slice aG aD aJ,slice aH aE aI,Value.bool aC] 79 5 true true)]∧∃(n':Nat),n' < aj∧I [int i64 (IntKind.wrap i64 (n+(1:
 Int)))] [cs] [] m' n')))) (∃(ad:IT),(∃(n:Nat),ad [int i64 0] [cs] [] ae n)∧∀(aa:Int)(cs:List Value)(m':Mem)(af:Nat),Mem.le ae m'→ad [int i64 aa] [cs] [] m' af→br (decide (aa < (↑aD:Int)))
 (∃(ag:Nat),∃(o:Nat),aG=some (Addr.mk ag o none)∧Zac aa aD∧∃(v:Value),m' ag (o+Int.toNat aa*1)=some v∧chk (ZaK v) (∃(ah:Nat),∃(o:Nat),aL=some (Addr.mk ah o none)∧
 Zac (RowKit.intOf v) aA∧Zac p2 256∧∃(ac:Value),m' ah (o+Int.toNat (RowKit.intOf v)*256+Int.toNat p2*1)=some ac∧chk (ZaY i64 ac&&decide (i64=i64)) (br (RowKit.intOf ac == (1:Int))
 (∃(ai:Nat),∃(o:Nat),aG=some (Addr.mk ai o none)∧Zac aa aD∧∃(v:Value),m' ai (o+Int.toNat aa*1)=some v∧chk (ZaK v) (Zac (RowKit.intOf v) (Int.toNat (↑aA:Int))∧bif
 Nat.beq (Int.toNat (↑aA:Int)*1) 1&&Nat.beq (Int.toNat (RowKit.intOf v)*1) 0 then[some (Box.mk ab [] 3 (Int.toNat (↑aA:Int)*1) false true),some (Box.mk b [slice aL aA aM,slice aK aB
 aN,slice aG aD aJ,slice aH aE aI,Value.bool aC] 79 5 true true)]=[some (Box.mk ab [] 3 (Int.toNat (↑aA:Int)*1) false true),some (Box.mk b [slice aL aA aM,slice aK aB
 aN,slice aG aD aJ,slice aH aE aI,Value.bool aC] 79 5 true true)]∧∃(n':Nat),n' < af∧ad [int i64 (IntKind.wrap i64 (aa+(1:Int)))] [[int i64 1]] [] m' n' else chk (Nat.ble (Int.toNat
 (RowKit.intOf v)*1+1) (List.length cs)) ([some (Box.mk ab [] 3 (Int.toNat (↑aA:Int)*1) false true),some (Box.mk b [slice aL aA aM,slice aK aB aN,slice aG aD aJ,slice aH aE
 aI,Value.bool aC] 79 5 true true)]=[some (Box.mk ab [] 3 (Int.toNat (↑aA:Int)*1) false true),some (Box.mk b [slice aL aA aM,slice aK aB aN,slice aG aD aJ,slice aH aE
 aI,Value.bool aC] 79 5 true true)]∧∃(n':Nat),n' < af∧ad [int i64 (IntKind.wrap i64 (aa+(1:Int)))] [Zan cs (Int.toNat (RowKit.intOf v)*1) [int i64 1]] [] m' n'))) ([some (Box.mk ab [] 3 (Int.toNat
 (↑aA:Int)*1) false true),some (Box.mk b [slice aL aA aM,slice aK aB aN,slice aG aD aJ,slice aH aE aI,Value.bool aC] 79 5 true true)]=[some (Box.mk ab [] 3 (Int.toNat
 (↑aA:Int)*1) false true),some (Box.mk b [slice aL aA aM,slice aK aB aN,slice aG aD aJ,slice aH aE aI,Value.bool aC] 79 5 true true)]∧∃(n':Nat),n' < af∧ad [int
 i64 (IntKind.wrap i64 (aa+(1:Int)))] [cs] [] m' n')))) ([some (Box.mk ab [] 3 (Int.toNat (↑aA:Int)*1) false true),some (Box.mk b [slice aL aA aM,slice aK aB aN,slice aG aD aJ,
 slice aH aE aI,Value.bool aC] 79 5 true true)]=[some (Box.mk ab [] 3 (Int.toNat (↑aA:Int)*1) false true),some (Box.mk b [slice aL aA aM,slice aK aB aN,slice aG aD aJ,
 slice aH aE aI,Value.bool aC] 79 5 true true)]∧∃(n':Nat),n' < aj∧I [int i64 (IntKind.wrap i64 (n+(1:Int)))] [cs] [] m' n')))) (∀(m':Mem),Mem.le ae m'→Mem.reads m' ab 0 cs→∃(R_1:RT),
 True∧CX Try.prog 103 (Array.mk [slice (some (Addr.mk ab 0 none)) (Int.toNat (↑aA:Int)) (Int.toNat (↑aA:Int))]) m' [] R_1∧ZaA Shape.slice R_1∧∀(a:Option Addr)(n c:Nat)(al:Mem),Mem.le m' al→
 R_1 (slice a n c) al []→∃(m'':Mem),Mem.le m m''∧Mem.le m'' al∧R (slice a n c) m'' [])
theorem ZkR(aL:Option Addr)(aA aM:Nat)(aK:Option Addr)(aB aN:Nat)(aG:Option Addr)(aD aJ:Nat)(aH:Option Addr)(aE aI:Nat)(aC:Bool)(p1a:Option Addr)(p1n p1c:Nat)(p2:Int)(m:Mem)(R:RT)(h:ZgO aL aA aM aK aB aN aG aD aJ aH aE aI aC p1a p1n p1c p2 m R):CX Try.prog 48 #[.agg #[.slice aL aA aM,.slice aK aB aN,.slice aG aD aJ,.slice aH aE aI,.bool aC],.slice p1a p1n p1c,.int .u8 p2] m [] R:=
 Zaj (E:=Zmx) Zaw mix Try.func48 [.v (.agg #[.slice aL aA aM,.slice aK aB aN,.slice aG aD aJ,.slice aH aE aI,.bool aC]),.v (.slice p1a p1n p1c),.v (.int .u8 p2)] [] (by kernel_rfl) (Eq.mp (by kernel_rfl) h)
noncomputable def ZhT:Env:={ EB with
 loops:=(fun i=>bif Nat.beq i 2 then⟨[(5,.int .i64)],[],[],false⟩ else⟨[],[],[],false⟩)
 dr:=(fun i=>bif Nat.beq i 4 then[⟨0,[],[],none,[],[]⟩,⟨1,[],[],none,[],[]⟩,⟨2,[],[],none,[0,1],[]⟩,⟨3,[],[],none,[0,1,2],[]⟩,⟨4,[],[],none,[0,1,2,3],[]⟩,⟨5,[],[],none,[0,1,2,3,4],[]⟩,⟨6,[2],[],none,[0,1,2,3,4,5],[]⟩,⟨7,[2],[],none,[0,1,2,3,4,5,6],[]⟩,⟨8,[],[],none,[0,1,2,3,4,5,6,7],[]⟩,⟨9,[],[],none,[0,1,2,3,4,5,6,7,8],[]⟩,⟨10,[],[],none,[0,1,2,3,4,5,6,7,8,9],[]⟩,⟨11,[],[],none,[0,1,2,3,4,5,6,7,8,9],[]⟩,⟨12,[],[],none,[0,1,2,3,4,5,6,7,8,9,10,11],[]⟩,⟨13,[],[],none,[0,1,2,3,4,5,6,7,8,9,10,11,12],[]⟩,⟨14,[],[],none,[0,1,2,3,4,5,6,7,8,9,10,11,12,13],[]⟩,⟨15,[],[],none,[0,1,2,3,4,5,6,7,8,9,10,11,12,13,14],[]⟩,⟨16,[2],[],none,[0,1,2,3,4,5,6,7,8,9,10,11,12,13,14,15],[]⟩,⟨17,[2],[],none,[0,1,2,3,4,5,6,7,8,9,10,11,12,13,14,15,16],[]⟩,⟨18,[],[],none,[0,1,2,3,4,5,6,7,8,9,10,11,12,13,14,15],[]⟩,⟨19,[],[],none,[0,1,2,3,4,5,6,7,8,9,10,11,12,13,14,15],[]⟩,⟨20,[],[],none,[0,1,2,3,4,5,6,7,8,9,10,11,12,13,14,15,18,19],[]⟩,⟨21,[],[],none,[0,1,2,3,4,5,6,7,8,9,10,11,12,13,14,15,18,19,20],[]⟩,⟨22,[],[],none,[0,1,2,3,4,5,6,7,8,9,10,11,12,13,14,15,16,17,18,19,20,21],[]⟩,⟨23,[],[],none,[0,1,2,3,4,5,6,7,8,9,10,11,12,13,14,15,16,17,18,19,20,21,22],[]⟩,⟨24,[],[],none,[0,1,2,3,4,5,6,7,8,9,10,11,12,13,14,15,16,17,18,19,20,21,22,23],[]⟩]else[])
 frzNew:=[2]
 gb:=true }
def Zd1(aL:Option Addr)(aA aM:Nat)(aK:Option Addr)(aB aN:Nat)(aG:Option Addr)(aD aJ:Nat)(aH:Option Addr)(aE aI:Nat)(aC:Bool)(p1a:Option Addr)(p1n p1c:Nat)(m:Mem)(R:RT):Prop:=
 ∀(b:Nat)(m':Mem),Mem.le m m'→Mem.reads m' b 0 [slice aL aA aM,slice aK aB aN,slice aG aD aJ,slice aH aE aI,Value.bool aC]→∃(I:IT),(∃(n:Nat),I [int i64 0] []
 [] m' n)∧∀(n:Int)(aa:Mem)(ab:Nat),Mem.le m' aa→I [int i64 n] [] [] aa ab→br (decide (n < (↑p1n:Int))) (∃(f:Fx),∃(af:Nat),∃(o:Nat),p1a=some (Addr.mk af o none)∧Zac n p1n∧∃(v:
 Value),aa af (o+Int.toNat n*1)=some v∧chk (ZaY i64 v&&decide (i64=i64)) (br (decide (RowKit.intOf v < (0:Int))) (br aC (∀(M:Mem),Mem.le aa M→Mem.le aa M→∃(m'':Mem),Mem.le m m''∧Mem.le
 m'' M∧R (Value.bool true) m'' []) (∃(ac:Nat),∃(o:Nat),p1a=some (Addr.mk ac o none)∧Zac n p1n∧∃(v:Value),aa ac (o+Int.toNat n*1)=some v∧chk (ZaY i64 v&&decide (i64=i64)) (br (decide
 (RowKit.intOf v ≥ (0:Int))) (∃(ad:Nat),∃(o:Nat),p1a=some (Addr.mk ad o none)∧Zac n p1n∧∃(v:Value),aa ad (o+Int.toNat n*1)=some v∧∃(R_1:RT),R_1=f 22 [slice aH aE aI,v] aa∧
 CX Try.prog 104 (Array.mk [slice aH aE aI,v]) aa [] R_1∧ZaA Shape.bool R_1∧∀(ae:Bool)(m':Mem),Mem.le aa m'→R_1 (Value.bool ae) m' []→∀(M:Mem),Mem.le aa M→Mem.le m' M→br ae (∃(m'':
 Mem),Mem.le m m''∧Mem.le m'' M∧R (Value.bool true) m'' []) ([some (Box.mk b [slice aL aA aM,slice aK aB aN,slice aG aD aJ,slice aH aE aI,Value.bool aC] 79 5 true true)] =
 [some (Box.mk b [slice aL aA aM,slice aK aB aN,slice aG aD aJ,slice aH aE aI,Value.bool aC] 79 5 true true)]∧∃(n':Nat),n' < ab∧I [int i64 (IntKind.wrap i64 (n+(1:
 Int)))] [] [] M n')) (∀(M:Mem),Mem.le aa M→Mem.le aa M→[some (Box.mk b [slice aL aA aM,slice aK aB aN,slice aG aD aJ,slice aH aE aI,Value.bool aC] 79 5 true true)] =
 [some (Box.mk b [slice aL aA aM,slice aK aB aN,slice aG aD aJ,slice aH aE aI,Value.bool aC] 79 5 true true)]∧∃(n':Nat),n' < ab∧I [int i64 (IntKind.wrap i64 (n+(1:
 Int)))] [] [] M n')))) (∃(ac:Nat),∃(o:Nat),p1a=some (Addr.mk ac o none)∧Zac n p1n∧∃(v:Value),aa ac (o+Int.toNat n*1)=some v∧chk (ZaY i64 v&&decide (i64=i64)) (br (decide (RowKit.intOf
 v ≥ (0:Int))) (∃(ad:Nat),∃(o:Nat),p1a=some (Addr.mk ad o none)∧Zac n p1n∧∃(v:Value),aa ad (o+Int.toNat n*1)=some v∧∃(R_1:RT),R_1=f 22 [slice aH aE aI,v] aa∧CX Try.prog
 104 (Array.mk [slice aH aE aI,v]) aa [] R_1∧ZaA Shape.bool R_1∧∀(ae:Bool)(m':Mem),Mem.le aa m'→R_1 (Value.bool ae) m' []→∀(M:Mem),Mem.le aa M→Mem.le m' M→br ae (∃(m'':Mem),Mem.le m
 m''∧Mem.le m'' M∧R (Value.bool true) m'' []) ([some (Box.mk b [slice aL aA aM,slice aK aB aN,slice aG aD aJ,slice aH aE aI,Value.bool aC] 79 5 true true)]=[some (Box.mk b
 [slice aL aA aM,slice aK aB aN,slice aG aD aJ,slice aH aE aI,Value.bool aC] 79 5 true true)]∧∃(n':Nat),n' < ab∧I [int i64 (IntKind.wrap i64 (n+(1:Int)))] [] [] M
 n')) (∀(M:Mem),Mem.le aa M→Mem.le aa M→[some (Box.mk b [slice aL aA aM,slice aK aB aN,slice aG aD aJ,slice aH aE aI,Value.bool aC] 79 5 true true)]=[some (Box.mk b
 [slice aL aA aM,slice aK aB aN,slice aG aD aJ,slice aH aE aI,Value.bool aC] 79 5 true true)]∧∃(n':Nat),n' < ab∧I [int i64 (IntKind.wrap i64 (n+(1:Int)))] [] [] M
 n'))))) (∃(m'':Mem),Mem.le m m''∧Mem.le m'' aa∧R (Value.bool false) m'' [])
theorem Zg0(aL:Option Addr)(aA aM:Nat)(aK:Option Addr)(aB aN:Nat)(aG:Option Addr)(aD aJ:Nat)(aH:Option Addr)(aE aI:Nat)(aC:Bool)(p1a:Option Addr)(p1n p1c:Nat)(m:Mem)(R:RT)(h:Zd1 aL aA aM aK aB aN aG aD aJ aH aE aI aC p1a p1n p1c m R):CX Try.prog 49 #[.agg #[.slice aL aA aM,.slice aK aB aN,.slice aG aD aJ,.slice aH aE aI,.bool aC],.slice p1a p1n p1c] m [] R:=
 Zaj (E:=ZhT) Zaw mix Try.func49 [.v (.agg #[.slice aL aA aM,.slice aK aB aN,.slice aG aD aJ,.slice aH aE aI,.bool aC]),.v (.slice p1a p1n p1c)] [] (by kernel_rfl) (Eq.mp (by kernel_rfl) h)
end Go.Proofs.Ytplacemlpkhmfaa
set_option linter.unusedVariables false
namespace Go.Proofs.Ytplacemlpkhmfaa
open Go Go.Eng Go.Proofs Go.RowKit
open Go.Value (int slice agg)
open Go.IntKind (u8 u64 i64)
set_option maxRecDepth 100000
noncomputable def Zt1:Env:={ EB with
 loops:=(fun i=>bif Nat.beq i 9 then⟨[(53,.int .i64)],[6],[(61,1)],false⟩ else⟨[],[],[],false⟩)
 joins:=(fun i=>bif Nat.beq i 1 then some [(16,.bool)]else bif Nat.beq i 3 then some [(30,.bool)]else none)
 dr:=(fun i=>bif Nat.beq i 7 then[⟨0,[33],[],none,[],[]⟩,⟨1,[33],[],none,[0],[]⟩,⟨2,[33],[],none,[0,1],[]⟩,⟨3,[33],[],none,[0,1,2],[]⟩,⟨4,[],[],none,[],[]⟩,⟨5,[],[],none,[4],[]⟩,⟨6,[],[],none,[],[]⟩,⟨7,[],[],none,[4,5,6],[5]⟩,⟨8,[],[],none,[],[]⟩,⟨9,[],[],none,[8],[]⟩,⟨10,[],[],none,[0,1,2,3,4,5,6,7,8,9],[]⟩,⟨11,[6],[6],none,[],[]⟩,⟨12,[6],[6],none,[0,1,2,3,4,5,6,7,8,9,10,11],[]⟩]else bif Nat.beq i 11 then[⟨0,[6],[],none,[],[]⟩,⟨1,[6],[],none,[0],[]⟩,⟨2,[],[],none,[],[]⟩,⟨3,[60],[60],none,[2],[2]⟩,⟨4,[60],[],some 61,[0,1,2,3],[3]⟩,⟨5,[6],[],none,[0,1,2,3,4],[]⟩,⟨6,[6],[6],none,[0,1,2,3,4,5],[]⟩]else[])
 tokOf:=(fun i=>bif Nat.beq i 61 then 61 else 0)
 frzNew:=[1]
 ptrAt:=(fun i=>bif Nat.beq i 7 then[5]else bif Nat.beq i 11 then[8]else[])
 frzAt:=(fun i=>bif Nat.beq i 1000007 then[5]else bif Nat.beq i 1000011 then[8]else[])
 thaw:=true
 lentC:=(fun i=>bif Nat.beq i 36 then some [(900,4),(901,7)]else none) }
def Zos(aS aT aU aV aC aR aW:Int)(aP:Option Addr)(aO aQ:Nat)(m:Mem)(R:RT):Prop:=
 ∀(b:Nat)(m':Mem),Mem.le m m'→Mem.reads m' b 0 [int u8 aS,int u64 aT,int u64 aU,int u64 aV,int u64 aC,int i64 aR,int i64 aW,slice aP aO aQ]→Mem.free m b→(∀(b' o:Nat) (u:
 Value),m' b' o=some u→m b' o=some u∨b'=b)→∀(ab:Nat),∃(bk:Bool),br (aS == (0:Int)) (∃(R:RT),True∧CX Try.prog 58 (Array.mk [agg (Array.mk [int u8 aS,int u64 aT,int u64 aU,int u64
 aV,int u64 aC,int i64 aR,int i64 aW,slice aP aO aQ]),agg (Array.mk [int u8 0,int u64 0,int u64 0,int u64 0,int u64 0,int i64 0,int i64 0,slice none 0 0])]) m' [] R∧ZaA Shape.bool R∧∀
 (ag:Bool) (ac:Mem),Mem.le m' ac→R (Value.bool ag) ac []→[some (Box.mk ab [slice none 0 0,slice none 0 0,slice none 0 0,slice none 0 0,Value.bool false] 26 5 false true),some (Box.mk b [int u8 aS,int u64
 aT,int u64 aU,int u64 aV,int u64 aC,int i64 aR,int i64 aW,slice aP aO aQ] 41 8 true true)]=[some (Box.mk ab [slice none 0 0,slice none 0 0,slice none 0 0,slice none 0 0,Value.bool false]
 26 5 false true),some (Box.mk b [int u8 aS,int u64 aT,int u64 aU,int u64 aV,int u64 aC,int i64 aR,int i64 aW,slice aP aO aQ] 41 8 true true)]∧[Value.bool ag]=[Value.bool bk]) ([some
 (Box.mk ab [slice none 0 0,slice none 0 0,slice none 0 0,slice none 0 0,Value.bool false] 26 5 false true),some (Box.mk b [int u8 aS,int u64 aT,int u64 aU,int u64 aV,int u64 aC,int i64 aR,int i64
 aW,slice aP aO aQ] 41 8 true true)]=[some (Box.mk ab [slice none 0 0,slice none 0 0,slice none 0 0,slice none 0 0,Value.bool false] 26 5 false true),some (Box.mk b [int u8 aS,int u64 aT,int u64
 aU,int u64 aV,int u64 aC,int i64 aR,int i64 aW,slice aP aO aQ] 41 8 true true)]∧[Value.bool false]=[Value.bool bk])∧br bk (∃(m'':Mem),Mem.le m m''∧Mem.le m'' m'∧R (Value.tuple
 (Array.mk [agg (Array.mk [slice none 0 0,slice none 0 0,slice none 0 0,slice none 0 0,Value.bool false]),int i64 0])) m'' []) (∃(ag:Bool),(∃(R:RT),True∧CX Try.prog 59 (Array.mk [agg (Array.mk [int u8
 aS,int u64 aT,int u64 aU,int u64 aV,int u64 aC,int i64 aR,int i64 aW,slice aP aO aQ])]) m' [] R∧ZaA Shape.bool R∧∀(ah:Bool)(ac:Mem),Mem.le m' ac→R (Value.bool ah) ac []→br
 (!ah) ([some (Box.mk ab [slice none 0 0,slice none 0 0,slice none 0 0,slice none 0 0,Value.bool false] 26 5 false true),some (Box.mk b [int u8 aS,int u64 aT,int u64 aU,int u64 aV,int u64 aC,int i64
 aR,int i64 aW,slice aP aO aQ] 41 8 true true)]=[some (Box.mk ab [slice none 0 0,slice none 0 0,slice none 0 0,slice none 0 0,Value.bool false] 26 5 false true),some (Box.mk b [int u8 aS,int u64
 aT,int u64 aU,int u64 aV,int u64 aC,int i64 aR,int i64 aW,slice aP aO aQ] 41 8 true true)]∧[Value.bool true]=[Value.bool ag]) (∃(R:RT),True∧CX Try.prog 60 (Array.mk [agg (Array.mk
 [int u8 aS,int u64 aT,int u64 aU,int u64 aV,int u64 aC,int i64 aR,int i64 aW,slice aP aO aQ])]) ac [] R∧ZaA (Shape.int i64) R∧∀(n:Int)(m':Mem),Mem.le ac m'→R (int i64 n) m' []
 → br (decide (n > (120:Int))) ([some (Box.mk ab [slice none 0 0,slice none 0 0,slice none 0 0,slice none 0 0,Value.bool false] 26 5 false true),some (Box.mk b [int u8 aS,int u64 aT,int u64 aU,int u64
 aV,int u64 aC,int i64 aR,int i64 aW,slice aP aO aQ] 41 8 true true)]=[some (Box.mk ab [slice none 0 0,slice none 0 0,slice none 0 0,slice none 0 0,Value.bool false] 26 5 false true),some
 (Box.mk b [int u8 aS,int u64 aT,int u64 aU,int u64 aV,int u64 aC,int i64 aR,int i64 aW,slice aP aO aQ] 41 8 true true)]∧[Value.bool true]=[Value.bool ag]) (∃(R:RT),True∧CX
 Try.prog 37 (Array.mk [agg (Array.mk [int u8 aS,int u64 aT,int u64 aU,int u64 aV,int u64 aC,int i64 aR,int i64 aW,slice aP aO aQ])]) m' [] R∧ZaA (Shape.int i64) R∧∀(n:Int) (af:
 Mem),Mem.le m' af→R (int i64 n) af []→[some (Box.mk ab [slice none 0 0,slice none 0 0,slice none 0 0,slice none 0 0,Value.bool false] 26 5 false true),some (Box.mk b [int u8 aS,int u64 aT,int u64 aU,
 int u64 aV,int u64 aC,int i64 aR,int i64 aW,slice aP aO aQ] 41 8 true true)]=[some (Box.mk ab [slice none 0 0,slice none 0 0,slice none 0 0,slice none 0 0,Value.bool false] 26 5 false true),
 some (Box.mk b [int u8 aS,int u64 aT,int u64 aU,int u64 aV,int u64 aC,int i64 aR,int i64 aW,slice aP aO aQ] 41 8 true true)]∧[Value.bool (decide (n > (400:Int)))]=[Value.bool ag])))∧
 br ag (∃(m'':Mem),Mem.le m m''∧Mem.le m'' m'∧R (Value.tuple (Array.mk [agg (Array.mk [slice none 0 0,slice none 0 0,slice none 0 0,slice none 0 0,Value.bool false]),int i64 170])) m'' []) (∀(ah:Nat),∃
 (Y:Nat→Prop),∃(R_1:Value→Mem→List (List Value)→List Value→Prop),CXY Try.prog 61 (Array.mk [Value.pointer (some (Addr.mk ah 0 none)),agg (Array.mk [int u8 aS,int u64 aT,int u64 aU,int u64 aV,
 int u64 aC,int i64 aR,int i64 aW,slice aP aO aQ])]) m' Y [Box.mk ah [slice none 0 0,slice none 0 0] 98 2 false true] [Tok.mk (slice none 0 0) 4,Tok.mk (slice none 0 0) 7] R_1∧(∀(t:Tok),t ∈
 [Tok.mk (slice none 0 0) 4,Tok.mk (slice none 0 0) 7]→∀(b:Nat),Tok.blk t=some b→Y b)∧(∀(ad:Nat),Y ad→(∃(t:Tok),t∈[Tok.mk (slice none 0 0) 4,Tok.mk (slice none 0 0) 7]∧Tok.blk t=some ad)∨
 Mem.free m ad∧(∃(o:Nat),∃(v:Value),m' ad o=some v)∧b≠ad∧True)∧(∀(v:Value)(m':Mem) (css:List (List Value)) (tvs:List Value),R_1 v m' css tvs→Shape.fits (Shape.agg [Shape.int u64,
 Shape.int u64,Shape.int u64,Shape.int u64,Shape.int u64,Shape.int u64,Shape.int u64,Shape.int u64,Shape.int u64,Shape.int u64,Shape.int u64,Shape.int u64,Shape.int u64,Shape.int u64,Shape.bool]) v=true)∧
 ∀(n ak al am an ao ap aq ar au av aw ax ay:Int)(ad:Bool)(ac:Mem),Mem.le (Mem.off m' Y) ac→(∀(b o:Nat)(u:Value),ac b o=some u→m' b o=some u∨Y b∨Mem.free m' b)→∀(cs:List Value) (a:
 Option Addr) (c d:Nat) (bl:Option Addr) (bm bn:Nat),R_1 (agg (Array.mk [int u64 n,int u64 ak,int u64 al,int u64 am,int u64 an,int u64 ao,int u64 ap,int u64 aq,int u64 ar,int u64 au,int u64 av,int u64
 aw,int u64 ax,int u64 ay,Value.bool ad])) ac [cs] [slice a c d,slice bl bm bn]→∀(ae:Nat)(m':Mem),Mem.le ac m'→Mem.reads m' ae 0 [int u64 n,int u64 ak,int u64 al,int u64 am,int u64 an,int u64 ao,int
 u64 ap,int u64 aq,int u64 ar,int u64 au,int u64 av,int u64 aw,int u64 ax,int u64 ay,Value.bool ad]→∃(f:Fx),Eng.ZsM cs 0 fun(v:Value)=>∃(R_2:RT),R_2=f 5 [ptr ae 0] m'∧CX Try.prog 62 (Array.mk
 [ptr ae 0]) m' [] R_2∧ZaA Shape.slice R_2∧∀(az:Option Addr)(a0 a1:Nat)(af:Mem),Mem.le m' af→R_2 (slice az a0 a1) af []→∃(R_3:RT),R_3=f 7 [ptr ae 7] af∧CX Try.prog 62 (Array.mk [ptr ae 7]) af
 [] R_3∧ZaA Shape.slice R_3∧∀(a6:Option Addr)(a7 a8:Nat)(bo:Mem),Mem.le af bo→R_3 (slice a6 a7 a8) bo []→∃(a9:Value),m' ae 14=some a9∧chk (Nat.beq (List.length (Array.toList (Value.cells v))) 1
 && true) (chk (Nat.ble 3 (List.length (Zan [slice none 0 0,slice none 0 0,slice none 0 0,slice none 0 0,Value.bool false] 0 (Array.toList (Value.cells v))))) (chk (Nat.ble 4 (List.length (Zan (Zan [slice
 none 0 0,slice none 0 0,slice none 0 0,slice none 0 0,Value.bool false] 0 (Array.toList (Value.cells v))) 2 [slice az a0 a1]))) (chk (Nat.beq (List.length (Array.toList (Value.cells a9))) 1&&Nat.ble 5 (List.length
 (Zan (Zan (Zan [slice none 0 0,slice none 0 0,slice none 0 0,slice none 0 0,Value.bool false] 0 (Array.toList (Value.cells v))) 2 [slice az a0 a1]) 3 [slice a6 a7 a8]))) (∀(bj:Nat),chk (Nat.beq
 (List.length (Zan (Zan (Zan (Zan [slice none 0 0,slice none 0 0,slice none 0 0,slice none 0 0,Value.bool false] 0 (Array.toList (Value.cells v))) 2 [slice az a0 a1]) 3 [slice a6 a7 a8]) 4 (Array.toList
 (Value.cells a9)))) 5&&Zcu (Zan (Zan (Zan (Zan [slice none 0 0,slice none 0 0,slice none 0 0,slice none 0 0,Value.bool false] 0 (Array.toList (Value.cells v))) 2 [slice az a0 a1]) 3 [slice a6 a7 a8])
 4 (Array.toList (Value.cells a9)))) (∀(M:Mem),Mem.le m' M→Mem.le af M→Mem.le bo M→some (Box.mk ae [int u64 n,int u64 ak,int u64 al,int u64 am,int u64 an,int u64 ao,int u64 ap,int u64 aq,int u64 ar,int
 u64 au,int u64 av,int u64 aw,int u64 ax,int u64 ay,Value.bool ad] 102 15 true true)=some (Box.mk ae [int u64 n,int u64 ak,int u64 al,int u64 am,int u64 an,int u64 ao,int u64 ap,int u64 aq,int u64 ar,int
 u64 au,int u64 av,int u64 aw,int u64 ax,int u64 ay,Value.bool ad] 102 15 true true)∧Eng.ZsM cs 1 fun(ba:Value)=>chk (Zc8 ba) (∃(I:IT),(∃(n:Nat),I [int i64 0] [Zan (Zan (Zan (Zan [slice
 none 0 0,slice none 0 0,slice none 0 0,slice none 0 0,Value.bool false] 0 (Array.toList (Value.cells v))) 2 [slice az a0 a1]) 3 [slice a6 a7 a8]) 4 (Array.toList (Value.cells a9))] [slice none 0 0] M n)∧∀(bb:
 Int) (ai:List Value) (bq:Option Addr) (bs bt:Nat) (m':Mem) (bu:Nat),True→I [int i64 bb] [ai] [slice bq bs bt] m' bu→br (decide (bb < (↑(slN ba):Int))) (chk (Zc8 ba) (∃(bv:Nat),∃(o:Nat),slA ba =
 some (Addr.mk bv o none)∧Zac bb (slN ba)∧∃(v:Value),∃(bc:Value),∃(bd:Value),∃(be:Value),∃(bf:Value),∃(bg:Value),∃(bh:Value),Mem.reads m' bv (o+Int.toNat bb*7) [v,bc,bd,be,bf,
 bg,bh]∧∀(bi:Nat),chk (Value.oneCell' v&&(Value.oneCell' bc&&(Value.oneCell' bd&&(Value.oneCell' be&&(Value.oneCell' bf&&(Value.oneCell' bg&&(Value.oneCell' bh&&true))))))) (∀(a2:Mem),Mem.le m'
 a2→Mem.reads a2 bi 0 [v,bc,bd,be,bf,bg,bh]→∃(f:Fx),Eng.ZsM ai 1 fun(aa:Value)=>∃(R:RT),R=f 2 [Value.pointer (some (Addr.mk bi 0 none))] a2∧CX Try.prog 62 (Array.mk [Value.pointer (some
 (Addr.mk bi 0 none))]) a2 [] R∧ZaA Shape.slice R∧∀(a3:Option Addr)(a4 a5:Nat)(m':Mem),Mem.le a2 m'→R (slice a3 a4 a5) m' []→∀(aj:Nat),Mem.free m' aj→chk (Zc8 aa&&true) ((Tok.mk (slice bq bs
 bt) 1=Tok.mk aa 1∨aa=slice none 0 0∨slC aa < slN aa+1)∧∃(xs:List Value),∃(ys:List Value),List.length xs=slN aa*1∧List.length ys=1*1∧rowRd (Mem.add m' aj [slice a3 a4 a5]) (slA aa) xs∧
 rowRd (Mem.add m' aj [slice a3 a4 a5]) (some (Addr.mk aj 0 none)) ys∧(∀(u:Value),u∈ys→Value.oneCell' u=true)∧(slN aa+1)*24≤140737488355328∧slN aa+1≤9223372036854775807∧∀(a':Option Addr)
 (c':Nat) (bp:Mem),Mem.le (Mem.add m' aj [slice a3 a4 a5]) bp→rowRd bp a' (List.append xs ys)→TokFact (Mem.add m' aj [slice a3 a4 a5]) (slA aa) a' (slN aa+1) c'→chk (Nat.ble 2 (List.length ai)) (∀(M:Mem),
 Mem.le a2 M→Mem.le m' M→Mem.le (Mem.add m' aj [slice a3 a4 a5]) M→Mem.le bp M→some (Box.mk bi [v,bc,bd,be,bf,bg,bh] 100 7 true true)=some (Box.mk bi [v,bc,bd,be,bf,bg,bh] 100 7 true true)∧[some
 (Box.mk bj [] 26 5 false true),some (Box.mk bj [] 26 5 false true),some (Box.mk ae [int u64 n,int u64 ak,int u64 al,int u64 am,int u64 an,int u64 ao,int u64 ap,int u64 aq,int u64 ar,int u64 au,int u64 av,
 int u64 aw,int u64 ax,int u64 ay,Value.bool ad] 102 15 true true),some (Box.mk ah cs 98 2 false true),some (Box.mk ab [slice none 0 0,slice none 0 0,slice none 0 0,slice none 0 0,Value.bool false] 26 5 false
 true),some (Box.mk b [int u8 aS,int u64 aT,int u64 aU,int u64 aV,int u64 aC,int i64 aR,int i64 aW,slice aP aO aQ] 41 8 true true)]=[some (Box.mk bj [] 26 5 false true),some (Box.mk bj
 [] 26 5 false true),some (Box.mk ae [int u64 n,int u64 ak,int u64 al,int u64 am,int u64 an,int u64 ao,int u64 ap,int u64 aq,int u64 ar,int u64 au,int u64 av,int u64 aw,int u64 ax,int u64 ay,Value.bool ad]
 102 15 true true),some (Box.mk ah cs 98 2 false true),some (Box.mk ab [slice none 0 0,slice none 0 0,slice none 0 0,slice none 0 0,Value.bool false] 26 5 false true),some (Box.mk b [int u8 aS,int u64 aT,int
 u64 aU,int u64 aV,int u64 aC,int i64 aR,int i64 aW,slice aP aO aQ] 41 8 true true)]∧[some (Tok.mk (slice a c d) 4),some (Tok.mk (slice bl bm bn) 7)]=[some (Tok.mk (slice a c d) 4),some
 (Tok.mk (slice bl bm bn) 7)]∧∃(n':Nat),n' < bu∧I [int i64 (IntKind.wrap i64 (bb+(1:Int)))] [Zan ai 1 [slice a' (slN aa+1) c']] [slice a' (slN aa+1) c'] M n'))))) (chk (Nat.beq (List.length ai) 5 &&
 Zcu ai) (∃(m'':Mem),Mem.le m m''∧Mem.le m'' m'∧R (Value.tuple (Array.mk [agg (Array.mk ai),int i64 0])) m'' []))))))))))
theorem Zsd(aS aT aU aV aC aR aW:Int)(aP:Option Addr)(aO aQ:Nat)(m:Mem)(R:RT)(h:Zos aS aT aU aV aC aR aW aP aO aQ m R):CX Try.prog 14 #[.agg #[.int .u8 aS,.int .u64 aT,.int .u64 aU,.int .u64 aV,.int .u64 aC,.int .i64 aR,.int .i64 aW,.slice aP aO aQ]] m [] R:=
 Zaj (E:=Zt1) Zaw mix Try.func14 [.v (.agg #[.int .u8 aS,.int .u64 aT,.int .u64 aU,.int .u64 aV,.int .u64 aC,.int .i64 aR,.int .i64 aW,.slice aP aO aQ])] [] (by kernel_rfl) (Eq.mp (by kernel_rfl) h)
noncomputable def Zmy:Env:={ EB with
 loops:=(fun i=>bif Nat.beq i 3 then⟨[(7,.int .i64),(14,.int .i64)],[],[],false⟩ else⟨[],[],[],false⟩)
 joins:=(fun i=>bif Nat.beq i 5 then some [(25,.bool)]else none) }
def ZgP(p0a:Option Addr)(p0n p0c:Nat)(p1 p2:Int)(m:Mem)(R:RT):Prop:=
 ∃(I:IT),(∃(n:Nat),I [int i64 (IntKind.wrap i64 (p1 - (1:Int))),int i64 0] [] [] m n)∧∀(n n_1:Int)(m':Mem)(n_2:Nat),Mem.le m m'→I [int i64 n,int i64 n_1] [] [] m' n_2→br (decide (n_1 < (↑p0n:
 Int))) (∃(b:Nat),∃(o:Nat),p0a=some (Addr.mk b o none)∧Zac n_1 p0n∧∃(v:Value),m' b (o+Int.toNat n_1*1)=some v∧∃(b:Bool),chk (ZaY i64 v&&decide (i64=i64)) (br (decide (RowKit.intOf
 v≤n)) ([Value.bool true]=[Value.bool b]) (chk (ZaY i64 v&&decide (i64=i64)) ([Value.bool (decide (RowKit.intOf v > p2))]=[Value.bool b])))∧br b (∃(m'':Mem),Mem.le m m''∧Mem.le m'' m'∧R (Value.bool
 false) m'' []) (chk (Shape.fits (Shape.int i64) v) (∃(n':Nat),n' < n_2∧I [v,int i64 (IntKind.wrap i64 (n_1+(1:Int)))] [] [] m' n'))) (∃(m'':Mem),Mem.le m m''∧Mem.le m'' m'∧R (Value.bool true) m'' [])
theorem ZkS(p0a:Option Addr)(p0n p0c:Nat)(p1 p2:Int)(m:Mem)(R:RT)(h:ZgP p0a p0n p0c p1 p2 m R):CX Try.prog 70 #[.slice p0a p0n p0c,.int .i64 p1,.int .i64 p2] m [] R:=
 Zaj (E:=Zmy) Zaw mix Try.func70 [.v (.slice p0a p0n p0c),.v (.int .i64 p1),.v (.int .i64 p2)] [] (by kernel_rfl) (Eq.mp (by kernel_rfl) h)
noncomputable def Zot:Env:={ EB with
 loops:=(fun i=>bif Nat.beq i 5 then⟨[(37,.int .i64)],[],[],false⟩ else⟨[],[],[],false⟩)
 joins:=(fun i=>bif Nat.beq i 2 then some [(33,.bool)]else bif Nat.beq i 7 then some [(55,.bool)]else none)
 frzNew:=[1] }
def ZhU(aL:Option Addr)(aA aM:Nat)(aK:Option Addr)(aB aN:Nat)(aG:Option Addr)(aD aJ:Nat)(aH:Option Addr)(aE aI:Nat)(aC:Bool)(m:Mem)(R:RT):Prop:=
 ∀(b:Nat)(m':Mem),Mem.le m m'→Mem.reads m' b 0 [slice aL aA aM,slice aK aB aN,slice aG aD aJ,slice aH aE aI,Value.bool aC]→∃(ac:Bool),br (decide ((↑aA:Int) >
 (400:Int))) ([some (Box.mk b [slice aL aA aM,slice aK aB aN,slice aG aD aJ,slice aH aE aI,Value.bool aC] 26 5 true true)]=[some (Box.mk b [slice aL aA aM,slice
 aK aB aN,slice aG aD aJ,slice aH aE aI,Value.bool aC] 26 5 true true)]∧[Value.bool true]=[Value.bool ac]) (br (!(↑aB:Int) == (↑aA:Int)) ([some (Box.mk b [slice aL aA
 aM,slice aK aB aN,slice aG aD aJ,slice aH aE aI,Value.bool aC] 26 5 true true)]=[some (Box.mk b [slice aL aA aM,slice aK aB aN,slice aG aD aJ,slice
 aH aE aI,Value.bool aC] 26 5 true true)]∧[Value.bool true]=[Value.bool ac]) (∃(R:RT),True∧CX Try.prog 70 (Array.mk [slice aG aD aJ,int i64 0,int i64 (IntKind.wrap i64 ((↑aA:Int) -
 (1:Int)))]) m' [] R∧ZaA Shape.bool R∧∀(ad:Bool)(aa:Mem),Mem.le m' aa→R (Value.bool ad) aa []→br (!ad) ([some (Box.mk b [slice aL aA aM,slice aK aB aN,slice aG aD aJ,slice
 aH aE aI,Value.bool aC] 26 5 true true)]=[some (Box.mk b [slice aL aA aM,slice aK aB aN,slice aG aD aJ,slice aH aE aI,Value.bool aC] 26 5 true true)]∧[Value.bool
 true]=[Value.bool ac]) (∃(R:RT),True∧CX Try.prog 70 (Array.mk [slice aH aE aI,int i64 0,int i64 (IntKind.wrap i64 ((↑aA:Int) - (1:Int)))]) aa [] R∧ZaA Shape.bool R∧∀(ab:Bool) (m':
 Mem),Mem.le aa m'→R (Value.bool ab) m' []→[some (Box.mk b [slice aL aA aM,slice aK aB aN,slice aG aD aJ,slice aH aE aI,Value.bool aC] 26 5 true true)]=[some (Box.mk b
 [slice aL aA aM,slice aK aB aN,slice aG aD aJ,slice aH aE aI,Value.bool aC] 26 5 true true)]∧[Value.bool !ab]=[Value.bool ac])))∧br ac (∃(m'':Mem),Mem.le m m''∧
 Mem.le m'' m'∧R (Value.bool false) m'' []) (∃(I:IT),(∃(n:Nat),I [int i64 0] [] [] m' n)∧∀(n:Int)(aa:Mem)(ae:Nat),Mem.le m' aa→I [int i64 n] [] [] aa ae→br (decide (n < (↑aB:Int))) (∃(ad:
 Nat),∃(o:Nat),aK=some (Addr.mk ad o none)∧Zac n aB∧∃(v:Value),aa ad (o+Int.toNat n*1)=some v∧∃(ab:Bool),(∃(R:RT),True∧CX Try.prog 70 (Array.mk [v,int i64 0,int i64
 (IntKind.wrap i64 ((↑aA:Int) - (1:Int)))]) aa [] R∧ZaA Shape.bool R∧∀(af:Bool)(m':Mem),Mem.le aa m'→R (Value.bool af) m' []→br (!af) ([some (Box.mk b [slice aL aA aM,slice aK aB
 aN,slice aG aD aJ,slice aH aE aI,Value.bool aC] 26 5 true true)]=[some (Box.mk b [slice aL aA aM,slice aK aB aN,slice aG aD aJ,slice aH aE aI,
 Value.bool aC] 26 5 true true)]∧[Value.bool true]=[Value.bool ab]) (∃(ag:Nat),∃(o:Nat),aL=some (Addr.mk ag o none)∧Zac n aA∧∃(v:Value),∃(ah:Value),∃(ai:Value),∃(aj:Value),
 Mem.reads m' ag (o+Int.toNat n*4) [v,ah,ai,aj]∧∃(ak:Bool),EqIs Try.prog 38 (agg (Array.mk [v,ah,ai,aj])) (agg (Array.mk [int u64 0,int u64 0,int u64 0,int u64 0])) ak∧[some (Box.mk b [slice aL
 aA aM,slice aK aB aN,slice aG aD aJ,slice aH aE aI,Value.bool aC] 26 5 true true)]=[some (Box.mk b [slice aL aA aM,slice aK aB aN,slice aG aD aJ,
 slice aH aE aI,Value.bool aC] 26 5 true true)]∧[Value.bool ak]=[Value.bool ab]))∧br ab (∃(m'':Mem),Mem.le m m''∧Mem.le m'' aa∧R (Value.bool false) m'' []) ([some (Box.mk b [slice aL aA
 aM,slice aK aB aN,slice aG aD aJ,slice aH aE aI,Value.bool aC] 26 5 true true)]=[some (Box.mk b [slice aL aA aM,slice aK aB aN,slice aG aD aJ,slice
 aH aE aI,Value.bool aC] 26 5 true true)]∧∃(n':Nat),n' < ae∧I [int i64 (IntKind.wrap i64 (n+(1:Int)))] [] [] aa n')) (∃(m'':Mem),Mem.le m m''∧Mem.le m'' aa∧R (Value.bool true) m'' []))
theorem Zmz(aL:Option Addr)(aA aM:Nat)(aK:Option Addr)(aB aN:Nat)(aG:Option Addr)(aD aJ:Nat)(aH:Option Addr)(aE aI:Nat)(aC:Bool)(m:Mem)(R:RT)(h:ZhU aL aA aM aK aB aN aG aD aJ aH aE aI aC m R):CX Try.prog 21 #[.agg #[.slice aL aA aM,.slice aK aB aN,.slice aG aD aJ,.slice aH aE aI,.bool aC]] m [] R:=
 Zaj (E:=Zot) Zaw mix Try.func21 [.v (.agg #[.slice aL aA aM,.slice aK aB aN,.slice aG aD aJ,.slice aH aE aI,.bool aC])] [] (by kernel_rfl) (Eq.mp (by kernel_rfl) h)
noncomputable def ZbJ:Env:={ EB with
 loops:=(fun i=>bif Nat.beq i 4 then⟨[(13,.int .i64)],[],[],false⟩ else⟨[],[],[],false⟩)
 dr:=(fun i=>bif Nat.beq i 6 then[⟨0,[],[],none,[],[]⟩,⟨1,[],[],none,[],[]⟩,⟨2,[],[],none,[0,1],[]⟩,⟨3,[],[],none,[0,1,2],[]⟩,⟨4,[],[],none,[],[]⟩,⟨5,[],[],none,[],[]⟩,⟨6,[],[],none,[4,5],[]⟩,⟨7,[],[],none,[4,5,6],[]⟩,⟨8,[],[],none,[0,1,2,3,4,5,6,7],[]⟩]else[]) }
def ZaV(p0a:Option Addr)(p0n p0c:Nat)(p1a:Option Addr)(p1n p1c:Nat)(m:Mem)(R:RT):Prop:=
 br (!(↑p0n:Int) == (↑p1n:Int)) (∃(m'':Mem),Mem.le m m''∧Mem.le m'' m∧R (Value.bool false) m'' []) (∃(I:IT),(∃(n:Nat),I [int i64 0] [] [] m n)∧∀(n:Int)(m':Mem)(n_1:Nat),Mem.le m m'→I
 [int i64 n] [] [] m' n_1→br (decide (n < (↑p0n:Int))) (∃(b:Nat),∃(o:Nat),p0a=some (Addr.mk b o none)∧Zac n p0n∧∃(v:Value),∃(v_1:Value),∃(v_2:Value),∃(v_3:Value),Mem.reads m' b (o +
 Int.toNat n*4) [v,v_1,v_2,v_3]∧∃(b:Nat),∃(o:Nat),p1a=some (Addr.mk b o none)∧Zac n p1n∧∃(v_4:Value),∃(v_5:Value),∃(v_6:Value),∃(v_7:Value),Mem.reads m' b (o+Int.toNat n*4)
 [v_4,v_5,v_6,v_7]∧∃(b:Bool),EqIs Try.prog 38 (agg (Array.mk [v,v_1,v_2,v_3])) (agg (Array.mk [v_4,v_5,v_6,v_7])) b∧br (!b) (∃(m'':Mem),Mem.le m m''∧Mem.le m'' m'∧R (Value.bool false) m'' []) (∃
 (n':Nat),n' < n_1∧I [int i64 (IntKind.wrap i64 (n+(1:Int)))] [] [] m' n')) (∃(m'':Mem),Mem.le m m''∧Mem.le m'' m'∧R (Value.bool true) m'' []))
theorem ZbE(p0a:Option Addr)(p0n p0c:Nat)(p1a:Option Addr)(p1n p1c:Nat)(m:Mem)(R:RT)(h:ZaV p0a p0n p0c p1a p1n p1c m R):CX Try.prog 71 #[.slice p0a p0n p0c,.slice p1a p1n p1c] m [] R:=
 Zaj (E:=ZbJ) Zaw mix Try.func71 [.v (.slice p0a p0n p0c),.v (.slice p1a p1n p1c)] [] (by kernel_rfl) (Eq.mp (by kernel_rfl) h)
noncomputable def Zbx:Env:={ EB with
 loops:=(fun i=>bif Nat.beq i 4 then⟨[(17,.int .i64)],[],[],false⟩ else⟨[],[],[],false⟩) }
def ZaQ(p0a:Option Addr)(p0n p0c:Nat)(p1a:Option Addr)(p1n p1c p2g:Nat)(p2fi p2ca:List Value)(m:Mem)(R:RT):Prop:=
 br (!(↑p0n:Int) == (↑p1n:Int)) (∃(m'':Mem),Mem.le m m''∧Mem.le m'' m∧R (Value.bool false) m'' []) (∃(I:IT),(∃(n:Nat),I [int i64 0] [] [] m n)∧∀(n:Int)(m':Mem)(n_1:Nat),Mem.le m m'→I
 [int i64 n] [] [] m' n_1→br (decide (n < (↑p0n:Int))) (∃(b:Nat),∃(o:Nat),p0a=some (Addr.mk b o none)∧Zac n p0n∧∃(v:Value),m' b (o+Int.toNat n*1)=some v∧∃(b:Nat),∃(o:Nat),p1a =
 some (Addr.mk b o none)∧Zac n p1n∧∃(v_1:Value),m' b (o+Int.toNat n*1)=some v_1∧∃(R_1:RT),True∧CX Try.prog p2g (Array.mk (List.append (List.append p2fi [v,v_1]) p2ca)) m' [] R_1∧ZaA
 Shape.bool R_1∧∀(b:Bool)(m'_1:Mem),Mem.le m' m'_1→R_1 (Value.bool b) m'_1 []→br (!b) (∃(m'':Mem),Mem.le m m''∧Mem.le m'' m'_1∧R (Value.bool false) m'' []) (∃(n':Nat),n' < n_1∧I [int i64
 (IntKind.wrap i64 (n+(1:Int)))] [] [] m'_1 n')) (∃(m'':Mem),Mem.le m m''∧Mem.le m'' m'∧R (Value.bool true) m'' []))
theorem Zbq(p0a:Option Addr)(p0n p0c:Nat)(p1a:Option Addr)(p1n p1c p2g:Nat)(p2fi p2ca:List Value)(m:Mem)(R:RT)(h:ZaQ p0a p0n p0c p1a p1n p1c p2g p2fi p2ca m R):CX Try.prog 72 #[.slice p0a p0n p0c,.slice p1a p1n p1c,.func (.func p2g) p2fi.toArray p2ca.toArray] m [] R:=
 Zaj (E:=Zbx) Zaw mix Try.func72 [.v (.slice p0a p0n p0c),.v (.slice p1a p1n p1c),.v (.func (.func p2g) p2fi.toArray p2ca.toArray)] [] (by kernel_rfl) (Eq.mp (by kernel_rfl) h)
noncomputable def ZpL:Env:={ EB with
 joins:=(fun i=>bif Nat.beq i 1 then some [(4,.bool)]else none)
 frzNew:=[2,3] }
def ZjN(aL:Option Addr)(aA aM:Nat)(aK:Option Addr)(aB aN:Nat)(aG:Option Addr)(aD aJ:Nat)(aH:Option Addr)(aE aI:Nat)(aC:Bool)(bX:Option Addr)(bY bZ:Nat)(cA:Option Addr)(cB cC:Nat)(cD:Option Addr)(cE cF:Nat)(cG:Option Addr)(cH cI:Nat)(aX:Bool)(m:Mem)(R:RT):Prop:=
 ∀(b:Nat)(m':Mem),Mem.le m m'→Mem.reads m' b 0 [slice aL aA aM,slice aK aB aN,slice aG aD aJ,slice aH aE aI,Value.bool aC]→∀(aa:Nat)(ac:Mem),Mem.le m' ac→
 Mem.reads ac aa 0 [slice bX bY bZ,slice cA cB cC,slice cD cE cF,slice cG cH cI,Value.bool aX]→∃(ab:Bool),(∃(R:RT),True∧CX Try.prog 71 (Array.mk [slice aL aA
 aM,slice bX bY bZ]) ac [] R∧ZaA Shape.bool R∧∀(ae:Bool)(m':Mem),Mem.le ac m'→R (Value.bool ae) m' []→br ae (∃(R:RT),True∧CX Try.prog 72 (Array.mk [slice aK aB aN,slice cA
 cB cC,Value.func (Fn.func 23) (Array.mk []) (Array.mk [])]) m' [] R∧ZaA Shape.bool R∧∀(af:Bool)(ad:Mem),Mem.le m' ad→R (Value.bool af) ad []→br af (∃(R:RT),True∧CX Try.prog 23 (Array.mk
 [slice aG aD aJ,slice cD cE cF]) ad [] R∧ZaA Shape.bool R∧∀(ag:Bool)(m':Mem),Mem.le ad m'→R (Value.bool ag) m' []→br ag (∃(R:RT),True∧CX Try.prog 23 (Array.mk [slice aH aE
 aI,slice cG cH cI]) m' [] R∧ZaA Shape.bool R∧∀(ah:Bool)(ai:Mem),Mem.le m' ai→R (Value.bool ah) ai []→br ah ([some (Box.mk aa [slice bX bY bZ,slice cA cB cC,slice cD
 cE cF,slice cG cH cI,Value.bool aX] 26 5 true true),some (Box.mk b [slice aL aA aM,slice aK aB aN,slice aG aD aJ,slice aH aE aI,Value.bool aC] 26 5 true
 true)]=[some (Box.mk aa [slice bX bY bZ,slice cA cB cC,slice cD cE cF,slice cG cH cI,Value.bool aX] 26 5 true true),some (Box.mk b [slice aL aA aM,slice aK aB
 aN,slice aG aD aJ,slice aH aE aI,Value.bool aC] 26 5 true true)]∧[Value.bool (aC == aX)]=[Value.bool ab]) ([some (Box.mk aa [slice bX bY bZ,slice cA cB cC,slice
 cD cE cF,slice cG cH cI,Value.bool aX] 26 5 true true),some (Box.mk b [slice aL aA aM,slice aK aB aN,slice aG aD aJ,slice aH aE aI,Value.bool aC] 26 5
 true true)]=[some (Box.mk aa [slice bX bY bZ,slice cA cB cC,slice cD cE cF,slice cG cH cI,Value.bool aX] 26 5 true true),some (Box.mk b [slice aL aA aM,slice aK
 aB aN,slice aG aD aJ,slice aH aE aI,Value.bool aC] 26 5 true true)]∧[Value.bool false]=[Value.bool ab])) ([some (Box.mk aa [slice bX bY bZ,slice cA cB cC,slice cD
 cE cF,slice cG cH cI,Value.bool aX] 26 5 true true),some (Box.mk b [slice aL aA aM,slice aK aB aN,slice aG aD aJ,slice aH aE aI,Value.bool aC] 26 5 true
 true)]=[some (Box.mk aa [slice bX bY bZ,slice cA cB cC,slice cD cE cF,slice cG cH cI,Value.bool aX] 26 5 true true),some (Box.mk b [slice aL aA aM,slice aK aB
 aN,slice aG aD aJ,slice aH aE aI,Value.bool aC] 26 5 true true)]∧[Value.bool false]=[Value.bool ab])) ([some (Box.mk aa [slice bX bY bZ,slice cA cB cC,slice cD cE
 cF,slice cG cH cI,Value.bool aX] 26 5 true true),some (Box.mk b [slice aL aA aM,slice aK aB aN,slice aG aD aJ,slice aH aE aI,Value.bool aC] 26 5 true true)] =
 [some (Box.mk aa [slice bX bY bZ,slice cA cB cC,slice cD cE cF,slice cG cH cI,Value.bool aX] 26 5 true true),some (Box.mk b [slice aL aA aM,slice aK aB aN,
 slice aG aD aJ,slice aH aE aI,Value.bool aC] 26 5 true true)]∧[Value.bool false]=[Value.bool ab])) ([some (Box.mk aa [slice bX bY bZ,slice cA cB cC,slice cD cE cF,
 slice cG cH cI,Value.bool aX] 26 5 true true),some (Box.mk b [slice aL aA aM,slice aK aB aN,slice aG aD aJ,slice aH aE aI,Value.bool aC] 26 5 true true)]=[some
 (Box.mk aa [slice bX bY bZ,slice cA cB cC,slice cD cE cF,slice cG cH cI,Value.bool aX] 26 5 true true),some (Box.mk b [slice aL aA aM,slice aK aB aN,slice
 aG aD aJ,slice aH aE aI,Value.bool aC] 26 5 true true)]∧[Value.bool false]=[Value.bool ab]))∧∃(m'':Mem),Mem.le m m''∧Mem.le m'' ac∧R (Value.bool ab) m'' []
theorem Zou(aL:Option Addr)(aA aM:Nat)(aK:Option Addr)(aB aN:Nat)(aG:Option Addr)(aD aJ:Nat)(aH:Option Addr)(aE aI:Nat)(aC:Bool)(bX:Option Addr)(bY bZ:Nat)(cA:Option Addr)(cB cC:Nat)(cD:Option Addr)(cE cF:Nat)(cG:Option Addr)(cH cI:Nat)(aX:Bool)(m:Mem)(R:RT)(h:ZjN aL aA aM aK aB aN aG aD aJ aH aE aI aC bX bY bZ cA cB cC cD cE cF cG cH cI aX m R):CX Try.prog 22 #[.agg #[.slice aL aA aM,.slice aK aB aN,.slice aG aD aJ,.slice aH aE aI,.bool aC],.agg #[.slice bX bY bZ,.slice cA cB cC,.slice cD cE cF,.slice cG cH cI,.bool aX]] m [] R:=
 Zaj (E:=ZpL) Zaw mix Try.func22 [.v (.agg #[.slice aL aA aM,.slice aK aB aN,.slice aG aD aJ,.slice aH aE aI,.bool aC]),.v (.agg #[.slice bX bY bZ,.slice cA cB cC,.slice cD cE cF,.slice cG cH cI,.bool aX])] [] (by kernel_rfl) (Eq.mp (by kernel_rfl) h)
noncomputable def ZbK:Env:={ EB with
 tokOf:=(fun i=>bif Nat.beq i 2 then 7 else bif Nat.beq i 7 then 7 else 0)
 tokC:=(fun i=>bif Nat.beq i 5 then some (7,4)else none)
 thaw:=true }
def ZaW(p0a:Option Addr)(p0n p0c:Nat)(m:Mem)(R:RT):Prop:=
 br (Option.isNone p0a) (slice none 0 0=slice none 0 0∧R (slice none 0 0) m []) (((0:Int)=(0:Int)∧(0:Int)≤(0:Int)∧(0:Int)*(↑(32:Nat):Int)≤(281474976710656:Int)∧(0:Int) ≤
 (9223372036854775807:Int))∧∀(b:Nat),Mem.free m b→(Tok.mk (slice (some (Addr.mk b 0 none)) 0 (Int.toNat (0:Int))) 4=Tok.mk (slice (some (Addr.mk b 0 none)) 0 (Int.toNat (0:Int))) 4∨slice (some (Addr.mk
 b 0 none)) 0 (Int.toNat (0:Int))=slice none 0 0∨Int.toNat (0:Int) < 0+p0n)∧∃(xs:List Value),∃(ys:List Value),List.length xs=0*4∧List.length ys=p0n*4∧rowRd m (some (Addr.mk b 0 none)) xs∧
 rowRd m p0a ys∧(∀(u:Value),u∈ys→Value.oneCell' u=true)∧(0+p0n)*32≤140737488355328∧0+p0n≤9223372036854775807∧∀(a':Option Addr)(c':Nat)(m':Mem),Mem.le m m'→rowRd m' a' (List.append
 xs ys)→TokFact m (some (Addr.mk b 0 none)) a' (0+p0n) c'→some (Tok.mk (slice a' (0+p0n) c') 4)=some (Tok.mk (slice a' (0+p0n) c') 4)∧R (slice a' (0+p0n) c') m' [])
theorem Zby(p0a:Option Addr)(p0n p0c:Nat)(m:Mem)(R:RT)(h:ZaW p0a p0n p0c m R):CXT Try.prog 77 #[.slice p0a p0n p0c] m 4 R:=
 ZfX (E:=ZbK) Zaw mix Try.func77 [.v (.slice p0a p0n p0c)] (by kernel_rfl) (Eq.mp (by kernel_rfl) h)
noncomputable def Zdo:Env:={ EB with
 tokOf:=(fun i=>bif Nat.beq i 2 then 7 else bif Nat.beq i 7 then 7 else 0)
 tokC:=(fun i=>bif Nat.beq i 5 then some (7,1)else none)
 thaw:=true }
def Zbg(p0a:Option Addr)(p0n p0c:Nat)(m:Mem)(R:RT):Prop:=
 br (Option.isNone p0a) (slice none 0 0=slice none 0 0∧R (slice none 0 0) m []) (((0:Int)=(0:Int)∧(0:Int)≤(0:Int)∧(0:Int)*(↑(8:Nat):Int)≤(281474976710656:Int)∧(0:Int) ≤
 (9223372036854775807:Int))∧∀(b:Nat),Mem.free m b→(Tok.mk (slice (some (Addr.mk b 0 none)) 0 (Int.toNat (0:Int))) 1=Tok.mk (slice (some (Addr.mk b 0 none)) 0 (Int.toNat (0:Int))) 1∨slice (some (Addr.mk
 b 0 none)) 0 (Int.toNat (0:Int))=slice none 0 0∨Int.toNat (0:Int) < 0+p0n)∧∃(xs:List Value),∃(ys:List Value),List.length xs=0*1∧List.length ys=p0n*1∧rowRd m (some (Addr.mk b 0 none)) xs∧
 rowRd m p0a ys∧(∀(u:Value),u∈ys→Value.oneCell' u=true)∧(0+p0n)*8≤140737488355328∧0+p0n≤9223372036854775807∧∀(a':Option Addr)(c':Nat)(m':Mem),Mem.le m m'→rowRd m' a' (List.append
 xs ys)→TokFact m (some (Addr.mk b 0 none)) a' (0+p0n) c'→some (Tok.mk (slice a' (0+p0n) c') 1)=some (Tok.mk (slice a' (0+p0n) c') 1)∧R (slice a' (0+p0n) c') m' [])
theorem ZbT(p0a:Option Addr)(p0n p0c:Nat)(m:Mem)(R:RT)(h:Zbg p0a p0n p0c m R):CXT Try.prog 44 #[.slice p0a p0n p0c] m 1 R:=
 ZfX (E:=Zdo) Zaw mix Try.func44 [.v (.slice p0a p0n p0c)] (by kernel_rfl) (Eq.mp (by kernel_rfl) h)
noncomputable def ZpM:Env:={ EB with
 loops:=(fun i=>bif Nat.beq i 3 then⟨[(21,.int .i64)],[3],[(30,1)],false⟩ else⟨[],[],[],false⟩)
 dr:=(fun i=>bif Nat.beq i 1 then[⟨0,[1],[],none,[],[]⟩,⟨1,[1],[],none,[0],[]⟩,⟨2,[],[],none,[0,1],[]⟩,⟨3,[1],[],none,[],[]⟩,⟨4,[1],[],none,[3],[]⟩,⟨5,[],[],none,[0,1,2,3,4],[2]⟩,⟨6,[1],[],none,[],[]⟩,⟨7,[1],[],none,[6],[]⟩,⟨8,[],[],none,[0,1,2,3,4,5,6,7],[5]⟩,⟨9,[1],[],none,[],[]⟩,⟨10,[1],[],none,[9],[]⟩,⟨11,[],[],none,[0,1,2,3,4,5,6,7,8,9,10],[]⟩,⟨12,[3],[3],none,[],[]⟩,⟨13,[3],[3],none,[0,1,2,3,4,5,6,7,8,9,10,11,12],[]⟩]else bif Nat.beq i 5 then[⟨0,[3],[],none,[],[]⟩,⟨1,[3],[],none,[0],[]⟩,⟨2,[],[],none,[],[]⟩,⟨3,[],[],none,[2],[]⟩,⟨4,[29],[29],none,[2,3],[3]⟩,⟨5,[29],[],some 30,[0,1,2,3,4],[4]⟩,⟨6,[3],[],none,[0,1,2,3,4,5],[]⟩,⟨7,[3],[3],none,[0,1,2,3,4,5,6],[]⟩]else[])
 tokOf:=(fun i=>bif Nat.beq i 30 then 30 else 0)
 frzNew:=[1]
 thaw:=true }
def ZjO(aL:Option Addr)(aA aM:Nat)(aK:Option Addr)(aB aN:Nat)(aG:Option Addr)(aD aJ:Nat)(aH:Option Addr)(aE aI:Nat)(aC:Bool)(m:Mem)(R:RT):Prop:=
 ∀(b:Nat)(m':Mem),Mem.le m m'→Mem.reads m' b 0 [slice aL aA aM,slice aK aB aN,slice aG aD aJ,slice aH aE aI,Value.bool aC]→Mem.free m b→(∀(b' o:Nat)(u:Value),
 m' b' o=some u→m b' o=some u∨b'=b)→∀(am:Nat),∃(f:Fx),∃(R_1:RT),R_1=f 2 [slice aL aA aM] m'∧CX Try.prog 77 (Array.mk [slice aL aA aM]) m' [] R_1∧ZaA Shape.slice R_1∧∀(a
 : Option Addr) (n c:Nat) (ad:Mem),Mem.le m' ad→R_1 (slice a n c) ad []→∃(R_2:RT),R_2=f 5 [slice aG aD aJ] ad∧CX Try.prog 44 (Array.mk [slice aG aD aJ]) ad [] R_2∧ZaA Shape.slice R_2
 ∧ ∀(an:Option Addr)(ao ap:Nat)(ae:Mem),Mem.le ad ae→R_2 (slice an ao ap) ae []→∃(R_3:RT),R_3=f 8 [slice aH aE aI] ae∧CX Try.prog 44 (Array.mk [slice aH aE aI]) ae [] R_3∧ZaA
 Shape.slice R_3∧∀(aq:Option Addr)(ar au:Nat)(ak:Mem),Mem.le ae ak→R_3 (slice aq ar au) ak []→∀(ai:Nat)(M:Mem),Mem.le m' M→Mem.le ad M→Mem.le ae M→Mem.le ak M→∃(I:IT),(∃(aj:Nat),I
 [int i64 0] [[slice a n c,slice none 0 0,slice an ao ap,slice aq ar au,Value.bool aC]] [slice none 0 0] M aj)∧∀(n:Int)(cs:List Value)(a:Option Addr)(aj c:Nat)(m':Mem)(av:Nat),True→I [int i64
 n] [cs] [slice a aj c] m' av→br (decide (n < (↑aB:Int))) (∃(aw:Nat),∃(o:Nat),aK=some (Addr.mk aw o none)∧Zac n aB∧∃(v:Value),m' aw (o+Int.toNat n*1)=some v∧∃(f:Fx),Eng.ZsM
 cs 1 fun(aa:Value)=>∃(R:RT),R=f 3 [v] m'∧CX Try.prog 44 (Array.mk [v]) m' [] R∧ZaA Shape.slice R∧∀(af:Option Addr)(ag ah:Nat)(ab:Mem),Mem.le m' ab→R (slice af ag ah) ab []→∀(ac:Nat),
 Mem.free ab ac→chk (Zc8 aa&&true) ((Tok.mk (slice a aj c) 1=Tok.mk aa 1∨aa=slice none 0 0∨slC aa < slN aa+1)∧∃(xs:List Value),∃(ys:List Value),List.length xs=slN aa*1∧List.length ys=1 *
 1∧rowRd (Mem.add ab ac [slice af ag ah]) (slA aa) xs∧rowRd (Mem.add ab ac [slice af ag ah]) (some (Addr.mk ac 0 none)) ys∧(∀(u:Value),u∈ys→Value.oneCell' u=true)∧(slN aa+1)*24≤140737488355328∧
 slN aa+1≤9223372036854775807∧∀(a':Option Addr)(c':Nat)(al:Mem),Mem.le (Mem.add ab ac [slice af ag ah]) al→rowRd al a' (List.append xs ys)→TokFact (Mem.add ab ac [slice af ag ah]) (slA aa) a' (slN aa
 + 1) c'→chk (Nat.ble 2 (List.length cs)) (∀(M:Mem),Mem.le m' M→Mem.le ab M→Mem.le (Mem.add ab ac [slice af ag ah]) M→Mem.le al M→[some (Box.mk ai [] 26 5 false true),some (Box.mk ai [] 26 5 false true),
 some (Box.mk am [slice none 0 0,slice none 0 0,slice none 0 0,slice none 0 0,Value.bool false] 26 5 false true),some (Box.mk b [slice aL aA aM,slice aK aB aN,slice aG aD aJ,slice aH
 aE aI,Value.bool aC] 26 5 true true)]=[some (Box.mk ai [] 26 5 false true),some (Box.mk ai [] 26 5 false true),some (Box.mk am [slice none 0 0,slice none 0 0,slice none 0 0,slice none 0 0,Value.bool
 false] 26 5 false true),some (Box.mk b [slice aL aA aM,slice aK aB aN,slice aG aD aJ,slice aH aE aI,Value.bool aC] 26 5 true true)]∧∃(n':Nat),n' < av∧I [int i64
 (IntKind.wrap i64 (n+(1:Int)))] [Zan cs 1 [slice a' (slN aa+1) c']] [slice a' (slN aa+1) c'] M n'))) (chk (Nat.beq (List.length cs) 5&&Zcu cs) (∃(m'':Mem),Mem.le m m''∧Mem.le m'' m'∧R (agg
 (Array.mk cs)) m'' []))
theorem Zov(aL:Option Addr)(aA aM:Nat)(aK:Option Addr)(aB aN:Nat)(aG:Option Addr)(aD aJ:Nat)(aH:Option Addr)(aE aI:Nat)(aC:Bool)(m:Mem)(R:RT)(h:ZjO aL aA aM aK aB aN aG aD aJ aH aE aI aC m R):CX Try.prog 26 #[.agg #[.slice aL aA aM,.slice aK aB aN,.slice aG aD aJ,.slice aH aE aI,.bool aC]] m [] R:=
 Zaj (E:=ZpM) Zaw mix Try.func26 [.v (.agg #[.slice aL aA aM,.slice aK aB aN,.slice aG aD aJ,.slice aH aE aI,.bool aC])] [] (by kernel_rfl) (Eq.mp (by kernel_rfl) h)
noncomputable def ZpN:Env:={ EB with
 loops:=(fun i=>bif Nat.beq i 7 then⟨[(29,.int .i64)],[],[],false⟩ else bif Nat.beq i 10 then⟨[(36,.int .i64)],[],[],false⟩ else⟨[],[],[],false⟩)
 dr:=(fun i=>bif Nat.beq i 12 then[⟨0,[4],[],none,[],[]⟩,⟨1,[4],[],none,[0],[]⟩,⟨2,[],[],none,[],[]⟩,⟨3,[4],[],none,[],[]⟩,⟨4,[4],[],none,[3],[]⟩,⟨5,[],[],none,[],[]⟩,⟨6,[],[],none,[3,4,5],[]⟩,⟨7,[],[],none,[3,4,5,6],[]⟩,⟨8,[],[],none,[],[]⟩,⟨9,[49],[49],none,[8],[]⟩,⟨10,[49],[],some 990,[3,4,5,6,7,8,9],[9]⟩]else[])
 tokOf:=(fun i=>bif Nat.beq i 50 then 990 else 0)
 frzNew:=[1]
 mkM:=(fun i=>bif Nat.beq i 24 then true else false)
 acq:=(fun i=>bif Nat.beq i 12 then some (990,1)else none)
 thaw:=true
 stAt:=(fun i=>bif Nat.beq i 51 then some 999 else none)
 last:=(fun i=>bif Nat.beq i 12 then true else false)
 lastK:=(fun i=>bif Nat.beq i 12 then 2 else 1) }
def ZgQ(aL:Option Addr)(aA aM:Nat)(aK:Option Addr)(aB aN:Nat)(aG:Option Addr)(aD aJ:Nat)(aH:Option Addr)(aE aI:Nat)(aC:Bool)(m:Mem)(R:RT):Prop:=
 ∀(b:Nat)(m':Mem),Mem.le m m'→Mem.reads m' b 0 [slice aL aA aM,slice aK aB aN,slice aG aD aJ,slice aH aE aI,Value.bool aC]→Mem.free m b→(∀(b' o:Nat)(u:Value),
 m' b' o=some u→m b' o=some u∨b'=b)→∀(ar:Nat),∃(R_1:RT),True∧CX Try.prog 21 (Array.mk [agg (Array.mk [slice aL aA aM,slice aK aB aN,slice aG aD aJ,slice aH aE
 aI,Value.bool aC])]) m' [] R_1∧ZaA Shape.bool R_1∧∀(ay:Bool)(ao:Mem),Mem.le m' ao→R_1 (Value.bool ay) ao []→br (!ay) (∃(m'':Mem),Mem.le m m''∧Mem.le m'' ao∧R (Value.tuple (Array.mk [agg
 (Array.mk [slice none 0 0,slice none 0 0,slice none 0 0,slice none 0 0,Value.bool false]),int i64 171])) m'' []) (∃(R_2:RT),True∧CX Try.prog 26 (Array.mk [agg (Array.mk [slice aL aA aM,slice aK
 aB aN,slice aG aD aJ,slice aH aE aI,Value.bool aC])]) ao [] R_2∧ZaA (Shape.agg [Shape.slice,Shape.slice,Shape.slice,Shape.slice,Shape.bool]) R_2∧∀(a:Option Addr)(n c:Nat) (a3
 : Option Addr) (a4 a5:Nat) (ag:Option Addr) (ah ai:Nat) (aj:Option Addr) (ak al:Nat) (am:Bool) (m':Mem),Mem.le ao m'→R_2 (agg (Array.mk [slice a n c,slice a3 a4 a5,slice ag ah ai,slice aj ak al,
 Value.bool am])) m' []→∀(au:Nat),((0:Int)≤(↑aB:Int)∧(↑aB:Int)≤(↑aB:Int)∧(↑aB:Int)*(↑(24:Nat):Int)≤(281474976710656:Int)∧(↑aB:Int)≤(9223372036854775807:Int))∧∀
 (ae:Nat),Mem.free m' ae→∃(I:IT),(∃(n:Nat),I [int i64 0] [] [] (Mem.add m' ae (List.flatten (List.replicate (Int.toNat (↑aB:Int)) [slice none 0 0]))) n)∧∀(ad:Int)(m':Mem)(az:Nat),True→I
 [int i64 ad] [] [] m' az→br (decide (ad < (↑aB:Int))) (∃(a0:Nat),∃(o:Nat),aK=some (Addr.mk a0 o none)∧Zac ad aB∧∃(v:Value),m' a0 (o+Int.toNat ad*1)=some v∧chk (Zc8 v) (∃(av:
 IT),(∃(n:Nat),av [int i64 0] [] [] m' n)∧∀(ap:Int)(m':Mem)(a1:Nat),True→av [int i64 ap] [] [] m' a1→br (decide (ap < (↑(slN v):Int))) (chk (Zc8 v) (∃(a2:Nat),∃(o:Nat),slA v=some
 (Addr.mk a2 o none)∧Zac ap (slN v)∧∃(v:Value),m' a2 (o+Int.toNat ap*1)=some v∧∃(ab:Option Addr),∃(ac:Nat),∃(aw:Nat),Zxi m' m 1 ab ac aw∧(∀(aq:Nat),Tok.blk (Tok.mk (slice ab ac aw)
 1)=some aq→b≠aq∧True)∧chk (ZaK v) (∃(aq:Nat),∃(o:Nat),some (Addr.mk ae 0 none)=some (Addr.mk aq o none)∧Zac (RowKit.intOf v) (Int.toNat (↑aB:Int))∧∃(aa:Value),Mem.cutA m' ab (ac
 * 1) aq (o+Int.toNat (RowKit.intOf v)*1)=some aa∧∀(af:Nat),Mem.free (Mem.cutA m' ab (ac*1)) af→chk (Zc8 aa&&true) ((Tok.mk (slice ab ac aw) 1=Tok.mk aa 1∨aa=slice none 0 0∨slC aa < slN aa+1)
 ∧ ∃(xs:List Value),∃(ys:List Value),List.length xs=slN aa*1∧List.length ys=1*1∧rowRd (Mem.add (Mem.cutA m' ab (ac*1)) af [int i64 ad]) (slA aa) xs∧rowRd (Mem.add (Mem.cutA m' ab (ac*1)) af [int
 i64 ad]) (some (Addr.mk af 0 none)) ys∧(∀(u:Value),u∈ys→Value.oneCell' u=true)∧(slN aa+1)*8≤140737488355328∧slN aa+1≤9223372036854775807∧∀(a':Option Addr)(c':Nat)(ax:Mem),Mem.le
 (Mem.add (Mem.cutA m' ab (ac*1)) af [int i64 ad]) ax→rowRd ax a' (List.append xs ys)→TokFact (Mem.add (Mem.cutA m' ab (ac*1)) af [int i64 ad]) (slA aa) a' (slN aa+1) c'→∀(M:Mem),Mem.le (Mem.cutA m' ab
 (ac*1)) M→Mem.le (Mem.add (Mem.cutA m' ab (ac*1)) af [int i64 ad]) M→Mem.le ax M→chk (ZaK v) (∃(an:Nat),∃(o:Nat),some (Addr.mk ae 0 none)=some (Addr.mk an o none)∧Zac (RowKit.intOf v)
 (Int.toNat (↑aB:Int))∧(∃(vs:List Value),List.length vs=1∧Mem.reads M an (o+Int.toNat (RowKit.intOf v)*1) vs)∧Mem.free m an∧true=true∧af≠an∧b≠an∧∀(zs:List Value),List.length zs =
 (c' - (slN aa+1))*1→[some (Box.mk au [slice a n c,slice (some (Addr.mk ae 0 none)) (Int.toNat (↑aB:Int)) (Int.toNat (↑aB:Int)),slice aj ak al,slice ag ah ai,Value.bool am] 26 5 false true),some
 (Box.mk ar [slice none 0 0,slice none 0 0,slice none 0 0,slice none 0 0,Value.bool false] 26 5 false true),some (Box.mk b [slice aL aA aM,slice aK aB aN,slice aG aD aJ,slice aH
 aE aI,Value.bool aC] 26 5 true true)]=[some (Box.mk au [slice a n c,slice (some (Addr.mk ae 0 none)) (Int.toNat (↑aB:Int)) (Int.toNat (↑aB:Int)),slice aj ak al,slice ag ah ai,Value.bool am] 26 5
 false true),some (Box.mk ar [slice none 0 0,slice none 0 0,slice none 0 0,slice none 0 0,Value.bool false] 26 5 false true),some (Box.mk b [slice aL aA aM,slice aK aB aN,slice aG aD
 aJ,slice aH aE aI,Value.bool aC] 26 5 true true)]∧∃(n':Nat),n' < a1∧av [int i64 (IntKind.wrap i64 (ap+(1:Int)))] [] [] (Mem.addA (Mem.upd M an (o+Int.toNat (RowKit.intOf v)*1) [slice a'
 (slN aa+1) c']) a' ((slN aa+1)*1) zs) n'))))) ([some (Box.mk au [slice a n c,slice (some (Addr.mk ae 0 none)) (Int.toNat (↑aB:Int)) (Int.toNat (↑aB:Int)),slice aj ak al,slice ag ah ai,Value.bool am]
 26 5 false true),some (Box.mk ar [slice none 0 0,slice none 0 0,slice none 0 0,slice none 0 0,Value.bool false] 26 5 false true),some (Box.mk b [slice aL aA aM,slice aK aB aN,slice aG aD
 aJ,slice aH aE aI,Value.bool aC] 26 5 true true)]=[some (Box.mk au [slice a n c,slice (some (Addr.mk ae 0 none)) (Int.toNat (↑aB:Int)) (Int.toNat (↑aB:Int)),slice aj ak al,slice ag ah ai,
 Value.bool am] 26 5 false true),some (Box.mk ar [slice none 0 0,slice none 0 0,slice none 0 0,slice none 0 0,Value.bool false] 26 5 false true),some (Box.mk b [slice aL aA aM,slice aK aB aN,
 slice aG aD aJ,slice aH aE aI,Value.bool aC] 26 5 true true)]∧∃(n':Nat),n' < az∧I [int i64 (IntKind.wrap i64 (ad+(1:Int)))] [] [] m' n'))) (∃(m'':Mem),Mem.le m m''∧Mem.le m'' m'∧
 R (Value.tuple (Array.mk [agg (Array.mk [slice a n c,slice (some (Addr.mk ae 0 none)) (Int.toNat (↑aB:Int)) (Int.toNat (↑aB:Int)),slice aj ak al,slice ag ah ai,Value.bool am]),int i64 0])) m'' []))
theorem ZjP(aL:Option Addr)(aA aM:Nat)(aK:Option Addr)(aB aN:Nat)(aG:Option Addr)(aD aJ:Nat)(aH:Option Addr)(aE aI:Nat)(aC:Bool)(m:Mem)(R:RT)(h:ZgQ aL aA aM aK aB aN aG aD aJ aH aE aI aC m R):CX Try.prog 16 #[.agg #[.slice aL aA aM,.slice aK aB aN,.slice aG aD aJ,.slice aH aE aI,.bool aC]] m [] R:=
 Zaj (E:=ZpN) Zaw mix Try.func16 [.v (.agg #[.slice aL aA aM,.slice aK aB aN,.slice aG aD aJ,.slice aH aE aI,.bool aC])] [] (by kernel_rfl) (Eq.mp (by kernel_rfl) h)
end Go.Proofs.Ytplacemlpkhmfaa
