/- Part of the proof: conditions and contracts of functions of this program. No condition of its own. -/
import Derived.Test.YthiefodednaikaaPEnv
import Derived.Test.YthiefodednaikaaMc
set_option linter.unusedVariables false
namespace Go.Proofs.Ythiefodednaikaa
open Go Go.Eng Go.Proofs Go.RowKit
open Go.Value (int slice agg)
open Go.IntKind (u8 u64 i64)
set_option maxRecDepth 100000
noncomputable def Zkv:Env:={ EB with
 loops:=(fun i=>bif Nat.beq i 3 then⟨[(5,.slice),(6,.int .i64)],[],[(22,1)],false⟩ else⟨[],[],[],false⟩)
 tokOf:=(fun i=>bif Nat.beq i 22 then 22 else 0)
 mkM:=(fun i=>bif Nat.beq i 14 then true else false)
 thaw:=true
 stAt:=(fun i=>bif Nat.beq i 18 then some 999 else none) }
def Zfn(p0 p1:Int)(m:Mem)(R:RT):Prop:=
 ∃(I:IT),(∃(n:Nat),I [slice none 0 0,int i64 0] [] [slice none 0 0] m n)∧∀(a:Option Addr)(n c:Nat)(n_1:Int)(a_1:Option Addr)(n_2 c_1:Nat)(m':Mem)(n_3:Nat),True→I [slice a n c,int i64
 n_1] [] [slice a_1 n_2 c_1] m' n_3→br (decide (n_1 < p0)) (((0:Int)≤p0∧p0≤p0∧p0*(↑(8:Nat):Int)≤(281474976710656:Int)∧p0≤(9223372036854775807:Int))∧∀(b:Nat),Mem.free m' b→∃(b_1:
 Nat),∃(o:Nat),some (Addr.mk b 0 none)=some (Addr.mk b_1 o none)∧Zaf n_1 (Int.toNat p0)∧(∃(vs:List Value),List.length vs=1∧Mem.reads (Mem.add m' b (List.flatten (List.replicate (Int.toNat p0) [int
 i64 0]))) b_1 (o+Int.toNat n_1*1) vs)∧Mem.free m b_1∧true=true∧∀(b_2:Nat),Mem.free (Mem.upd (Mem.add m' b (List.flatten (List.replicate (Int.toNat p0) [int i64 0]))) b_1 (o+Int.toNat n_1*1) [int i64
 p1]) b_2→(Tok.mk (slice a_1 n_2 c_1) 1=Tok.mk (slice a n c) 1∨slice a n c=slice none 0 0∨c < n+1)∧∃(xs:List Value),∃(ys:List Value),List.length xs=n*1∧List.length ys=1*1∧rowRd (Mem.add
 (Mem.upd (Mem.add m' b (List.flatten (List.replicate (Int.toNat p0) [int i64 0]))) b_1 (o+Int.toNat n_1*1) [int i64 p1]) b_2 [slice (some (Addr.mk b 0 none)) (Int.toNat p0) (Int.toNat p0)]) a xs∧rowRd (Mem.add
 (Mem.upd (Mem.add m' b (List.flatten (List.replicate (Int.toNat p0) [int i64 0]))) b_1 (o+Int.toNat n_1*1) [int i64 p1]) b_2 [slice (some (Addr.mk b 0 none)) (Int.toNat p0) (Int.toNat p0)]) (some (Addr.mk b_2 0
 none)) ys∧(∀(u:Value),u∈ys→Value.oneCell' u=true)∧(n+1)*24≤140737488355328∧n+1≤9223372036854775807∧∀(a':Option Addr)(c':Nat)(m'_1:Mem),Mem.le (Mem.add (Mem.upd (Mem.add m' b
 (List.flatten (List.replicate (Int.toNat p0) [int i64 0]))) b_1 (o+Int.toNat n_1*1) [int i64 p1]) b_2 [slice (some (Addr.mk b 0 none)) (Int.toNat p0) (Int.toNat p0)]) m'_1→rowRd m'_1 a' (List.append xs ys)→
 TokFact (Mem.add (Mem.upd (Mem.add m' b (List.flatten (List.replicate (Int.toNat p0) [int i64 0]))) b_1 (o+Int.toNat n_1*1) [int i64 p1]) b_2 [slice (some (Addr.mk b 0 none)) (Int.toNat p0) (Int.toNat p0)]) a a' (n
 + 1) c'→∃(n':Nat),n' < n_3∧I [slice a' (n+1) c',int i64 (IntKind.wrap i64 (n_1+(1:Int)))] [] [slice a' (n+1) c'] m'_1 n') (∃(m'':Mem),Mem.le m m''∧Mem.le m'' m'∧R (slice a n c) m'' [])
theorem ZiI(p0 p1:Int)(m:Mem)(R:RT)(h:Zfn p0 p1 m R):CX Try.prog 111 #[.int .i64 p0,.int .i64 p1] m [] R:=
 Zad (E:=Zkv) ZaA mix Try.func111 [.v (.int .i64 p0),.v (.int .i64 p1)] [] (by kernel_rfl) (Eq.mp (by kernel_rfl) h)
noncomputable def Zkw:Env:={ EB with
 loops:=(fun i=>bif Nat.beq i 3 then⟨[(6,.int .i64)],[],[],false⟩ else bif Nat.beq i 6 then⟨[(7,.int .i64)],[],[],false⟩ else bif Nat.beq i 9 then⟨[(8,.int .i64)],[],[],false⟩ else⟨[],[],[],false⟩)
 joins:=(fun i=>bif Nat.beq i 9 then some [(39,.bool)]else none)
 thaw:=true
 stAt:=(fun i=>bif Nat.beq i 55 then some 999 else none) }
def Zfo(p0a:Option Addr)(p0n p0c:Nat)(p1a:Option Addr)(p1n p1c:Nat)(m:Mem)(R:RT):Prop:=
 ∃(R_1:RT),True∧CX Try.prog 111 (Array.mk [int i64 (↑p0n:Int),int i64 0]) m [] R_1∧Zax Shape.slice R_1∧∀(a:Option Addr)(n c:Nat)(m':Mem),Mem.le m m'→R_1 (slice a n c) m' []→∃(I:IT),(∃(n:
 Nat),I [int i64 0] [] [] m' n)∧∀(n_1:Int)(m':Mem)(n_2:Nat),True→I [int i64 n_1] [] [] m' n_2→br (decide (n_1 < (↑p0n:Int))) (∃(I_1:IT),(∃(n:Nat),I_1 [int i64 n_1] [] [] m' n)∧∀(n_3:Int)
 (m':Mem) (n_4:Nat),True→I_1 [int i64 n_3] [] [] m' n_4→br (decide (n_3 < (↑p0n:Int))) (∃(I:IT),(∃(n:Nat),I [int i64 n_3] [] [] m' n)∧∀(n_5:Int)(m':Mem)(n_6:Nat),True→I [int i64 n_5] []
 [] m' n_6→∃(b:Bool),(∃(b_1:Nat),∃(o:Nat),p0a=some (Addr.mk b_1 o none)∧Zaf n_1 p0n∧∃(v:Value),m' b_1 (o+Int.toNat n_1*1)=some v∧chk (ZbS v) (∃(b_2:Nat),∃(o:Nat),slA v=some
 (Addr.mk b_2 o none)∧Zaf n_3 (slN v)∧∃(v:Value),m' b_2 (o+Int.toNat n_3*1)=some v∧chk (Zal i64 v&&decide (i64=i64)) (br (RowKit.intOf v == (1:Int)) ([Value.bool (decide (n_5 < (↑p0n:Int)))]
 = [Value.bool b]) ([Value.bool false]=[Value.bool b]))))∧br b (∃(b:Nat),∃(o:Nat),p1a=some (Addr.mk b o none)∧Zaf n_3 p1n∧∃(v:Value),m' b (o+Int.toNat n_3*1)=some v∧chk (ZbS v) (∃(b:
 Nat),∃(o:Nat),slA v=some (Addr.mk b o none)∧Zaf n_5 (slN v)∧∃(v:Value),m' b (o+Int.toNat n_5*1)=some v∧chk (Zal i64 v&&decide (i64=i64)) (br (RowKit.intOf v == (1:Int)) (∃(b:Nat),∃
 (o:Nat),a=some (Addr.mk b o none)∧Zaf n_1 n∧∃(v:Value),m' b (o+Int.toNat n_1*1)=some v∧chk (ZbS v) (∃(b:Nat),∃(o:Nat),slA v=some (Addr.mk b o none)∧Zaf n_5 (slN v)∧(∃(vs:
 List Value),List.length vs=1∧Mem.reads m' b (o+Int.toNat n_5*1) vs)∧Mem.free m b∧true=true∧∃(n':Nat),n' < n_6∧I [int i64 (IntKind.wrap i64 (n_5+(1:Int)))] [] [] (Mem.upd m' b (o+Int.toNat
 n_5*1) [int i64 1]) n')) (∃(n':Nat),n' < n_6∧I [int i64 (IntKind.wrap i64 (n_5+(1:Int)))] [] [] m' n')))) (∃(n':Nat),n' < n_4∧I_1 [int i64 (IntKind.wrap i64 (n_3+(1:Int)))] [] [] m' n')) (∃(n':
 Nat),n' < n_2∧I [int i64 (IntKind.wrap i64 (n_1+(1:Int)))] [] [] m' n')) (∃(m'':Mem),Mem.le m m''∧Mem.le m'' m'∧R (slice a n c) m'' [])
theorem ZiJ(p0a:Option Addr)(p0n p0c:Nat)(p1a:Option Addr)(p1n p1c:Nat)(m:Mem)(R:RT)(h:Zfo p0a p0n p0c p1a p1n p1c m R):CX Try.prog 112 #[.slice p0a p0n p0c,.slice p1a p1n p1c] m [] R:=
 Zad (E:=Zkw) ZaA mix Try.func112 [.v (.slice p0a p0n p0c),.v (.slice p1a p1n p1c)] [] (by kernel_rfl) (Eq.mp (by kernel_rfl) h)
noncomputable def Zmd:Env:={ EB with
 loops:=(fun i=>bif Nat.beq i 1 then⟨[(4,.int .i64)],[],[],false⟩ else bif Nat.beq i 4 then⟨[(5,.int .i64)],[],[],false⟩ else⟨[],[],[],false⟩)
 thaw:=true
 stAt:=(fun i=>bif Nat.beq i 31 then some 999 else none) }
def Zgv(p0a:Option Addr)(p0n p0c:Nat)(p1a:Option Addr)(p1n p1c:Nat)(m:Mem)(Y:Nat→Prop)(R:RTY):Prop:=
 ∃(I:IT),(∃(n:Nat),I [int i64 0] [] [] m n)∧∀(n:Int)(m':Mem)(n_1:Nat),True→I [int i64 n] [] [] m' n_1→br (decide (n < (↑p0n:Int))) (∃(I_1:IT),(∃(n:Nat),I_1 [int i64 0] [] [] m' n)∧∀
 (n_2:Int) (m':Mem) (n_3:Nat),True→I_1 [int i64 n_2] [] [] m' n_3→br (decide (n_2 < (↑p0n:Int))) (∃(b:Nat),∃(o:Nat),p1a=some (Addr.mk b o none)∧Zaf n p1n∧∃(v:Value),m' b (o+Int.toNat
 n*1)=some v∧chk (ZbS v) (∃(b:Nat),∃(o:Nat),slA v=some (Addr.mk b o none)∧Zaf n_2 (slN v)∧∃(v:Value),m' b (o+Int.toNat n_2*1)=some v∧chk (Zal i64 v&&decide (i64=i64)) (br
 (RowKit.intOf v == (1:Int)) (∃(b:Nat),∃(o:Nat),p0a=some (Addr.mk b o none)∧Zaf n p0n∧∃(v:Value),m' b (o+Int.toNat n*1)=some v∧chk (ZbS v) (∃(b:Nat),∃(o:Nat),slA v=some (Addr.mk
 b o none)∧Zaf n_2 (slN v)∧(∃(vs:List Value),List.length vs=1∧Mem.reads m' b (o+Int.toNat n_2*1) vs)∧Mem.free (Mem.off m Y) b∧true=true∧∃(n':Nat),n' < n_3∧I_1 [int i64 (IntKind.wrap i64
 (n_2+(1:Int)))] [] [] (Mem.upd m' b (o+Int.toNat n_2*1) [int i64 1]) n')) (∃(n':Nat),n' < n_3∧I_1 [int i64 (IntKind.wrap i64 (n_2+(1:Int)))] [] [] m' n')))) (∃(n':Nat),n' < n_1∧I [int i64
 (IntKind.wrap i64 (n+(1:Int)))] [] [] m' n')) (R (Value.tuple (Array.mk [])) m' [] [])
theorem ZiK(p0a:Option Addr)(p0n p0c:Nat)(p1a:Option Addr)(p1n p1c:Nat)(m:Mem)(Y:Nat→Prop)(R:RTY)(h:Zgv p0a p0n p0c p1a p1n p1c m Y R):CXY Try.prog 113 #[.slice p0a p0n p0c,.slice p1a p1n p1c] m Y [] [] R:=
 ZoL (E:=Zmd) ZaA mix Try.func113 [.v (.slice p0a p0n p0c),.v (.slice p1a p1n p1c)] [] [] [] (by decide) (by kernel_rfl) (Eq.mp (by kernel_rfl) h)
noncomputable def Zkx:Env:={ EB with
 loops:=(fun i=>bif Nat.beq i 8 then⟨[(7,.int .i64)],[],[],false⟩ else bif Nat.beq i 14 then⟨[(6,.slice),(8,.int .i64)],[],[],false⟩ else bif Nat.beq i 19 then⟨[(9,.int .i64)],[],[],false⟩ else bif Nat.beq i 29 then⟨[(12,.slice),(13,.int .i64)],[],[],false⟩ else⟨[],[],[],false⟩)
 dr:=(fun i=>bif Nat.beq i 10 then[⟨0,[],[],none,[],[]⟩,⟨1,[],[],none,[],[]⟩,⟨2,[],[],none,[0,1],[]⟩,⟨3,[],[],none,[0,1,2],[]⟩,⟨4,[],[],none,[],[]⟩,⟨5,[],[],none,[4],[]⟩,⟨6,[],[],none,[],[]⟩,⟨7,[],[],none,[],[]⟩,⟨8,[],[],none,[6,7],[]⟩,⟨9,[],[],none,[6,7,8],[]⟩,⟨10,[2],[],none,[],[]⟩,⟨11,[2],[],none,[6,7,8,9,10],[]⟩,⟨12,[2],[],none,[6,7,8,9,10,11],[]⟩]else[])
 frzNew:=[2]
 thaw:=true
 stAt:=(fun i=>bif Nat.beq i 46 then some 999 else none)
 last:=(fun i=>bif Nat.beq i 10 then true else false)
 lastK:=(fun i=>bif Nat.beq i 10 then 2 else 1)
 lentC:=(fun i=>bif Nat.beq i 84 then some []else bif Nat.beq i 114 then some []else none) }
def Zfp(p0:List Value)(p1a:Option Addr)(p1n p1c:Nat)(m:Mem)(R:RT):Prop:=
 chk (Nat.beq (List.length p0) 260) (∀(b:Nat)(m':Mem),Mem.le m m'→Mem.reads m' b 0 p0→Mem.free m b→(∀(b' o:Nat)(u:Value),m' b' o=some u→m b' o=some u∨b'=b)→∃(R_1:RT),True∧CX Try.prog
 111 (Array.mk [int i64 (IntKind.wrap i64 ((↑p1n:Int)+(1:Int))),int i64 0]) m' [] R_1∧Zax Shape.slice R_1∧∀(a:Option Addr)(n c:Nat)(ae:Mem),Mem.le m' ae→R_1 (slice a n c) ae []→Eng.ZrO p0 0 fun
 (v:Value)=>chk (Zal i64 v&&decide (i64=i64)) (br (RowKit.intOf v == (1:Int)) (∃(R_2:RT),True∧CX Try.prog 111 (Array.mk [int i64 (IntKind.wrap i64 ((↑p1n:Int)+(1:Int))),int i64 1]) ae [] R_2∧
 Zax Shape.slice R_2∧∀(a:Option Addr)(n c:Nat)(m':Mem),Mem.le ae m'→R_2 (slice a n c) m' []→∃(m'':Mem),Mem.le m m''∧Mem.le m'' m'∧R (slice a n c) m'' []) (chk (Zal i64 v&&decide (i64=i64))
 (br (RowKit.intOf v == (2:Int)) (∃(I:IT),(∃(n:Nat),I [int i64 0] [] [] ae n)∧∀(aa:Int)(m':Mem)(ag:Nat),True→I [int i64 aa] [] [] m' ag→br (decide (aa < (↑p1n:Int))) (∃(ah:Nat),∃(o:
 Nat),a=some (Addr.mk ah o none)∧Zaf aa n∧∃(v:Value),m' ah (o+Int.toNat aa*1)=some v∧∃(ab:Nat),∃(o:Nat),p1a=some (Addr.mk ab o none)∧Zaf aa p1n∧∃(aj:Value),m' ab (o +
 Int.toNat aa*1)=some aj∧chk (ZbN aj) (Zaf (RowKit.intOf aj) 256∧Eng.ZrO p0 (1+Int.toNat (RowKit.intOf aj)*1) fun(au:Value)=>chk (ZbS v) (∃(ap:Nat),∃(o:Nat),slA v=some (Addr.mk ap o
 none)∧Zaf (IntKind.wrap i64 (aa+(1:Int))) (slN v)∧chk (Nat.beq (List.length (Array.toList (Value.cells au))) 1&&Zcb (Array.toList (Value.cells au))) ((∃(vs:List Value),List.length vs=1∧Mem.reads
 m' ap (o+Int.toNat (IntKind.wrap i64 (aa+(1:Int)))*1) vs)∧Mem.free m ap∧true=true∧b≠ap∧[some (Box.mk b p0 109 260 true true)]=[some (Box.mk b p0 109 260 true true)]∧∃(n':Nat),n' < ag∧I [int
 i64 (IntKind.wrap i64 (aa+(1:Int)))] [] [] (Mem.upd m' ap (o+Int.toNat (IntKind.wrap i64 (aa+(1:Int)))*1) (Array.toList (Value.cells au))) n')))) (∃(m'':Mem),Mem.le m m''∧Mem.le m'' m'∧R (slice a n
 c) m'' [])) (chk (Zal i64 v&&decide (i64=i64)) (br (RowKit.intOf v == (3:Int)) (∃(R_2:RT),True∧CX Try.prog 111 (Array.mk [int i64 (IntKind.wrap i64 ((↑p1n:Int)+(1:Int))),int i64 1]) ae [] R_2∧Zax
 Shape.slice R_2∧∀(a:Option Addr)(n c:Nat)(m':Mem),Mem.le ae m'→R_2 (slice a n c) m' []→∃(I:IT),(∃(aa:Nat),I [slice a n c,int i64 0] [] [] m' aa)∧∀(a:Option Addr)(n c:Nat)(aa:Int) (m'
 : Mem) (ag:Nat),True→I [slice a n c,int i64 aa] [] [] m' ag→Eng.ZrO p0 259 fun(v:Value)=>chk (ZbS v) (br (decide (aa < (↑(slN v):Int))) (Eng.ZrO p0 259 fun(v:Value)=>chk (ZbS v) (∃(ah:Nat),∃
 (o:Nat),slA v=some (Addr.mk ah o none)∧Zaf aa (slN v)∧∃(vs:List Value),List.length vs=260∧Mem.reads m' ah (o+Int.toNat aa*260) vs∧∃(R:RT),True∧CX Try.prog 87 (Array.mk [agg (Array.mk
 vs),slice p1a p1n p1c]) m' [] R∧Zax Shape.slice R∧∀(av:Option Addr)(af ai:Nat)(ac:Mem),Mem.le m' ac→R (slice av af ai) ac []→∃(R:RT),True∧CX Try.prog 112 (Array.mk [slice a n c,slice av af
 ai]) ac [] R∧Zax Shape.slice R∧∀(a:Option Addr)(n c:Nat)(m':Mem),Mem.le ac m'→R (slice a n c) m' []→[some (Box.mk b p0 109 260 true true)]=[some (Box.mk b p0 109 260 true true)]∧∃(n':Nat),n' <
 ag∧I [slice a n c,int i64 (IntKind.wrap i64 (aa+(1:Int)))] [] [] m' n')) (∃(m'':Mem),Mem.le m m''∧Mem.le m'' m'∧R (slice a n c) m'' []))) (chk (Zal i64 v&&decide (i64=i64)) (br (RowKit.intOf v == (4
 : Int)) (∃(I:IT),(∃(n:Nat),I [int i64 0] [] [] ae n)∧∀(aa:Int)(m':Mem)(ag:Nat),True→I [int i64 aa] [] [] m' ag→Eng.ZrO p0 259 fun(v:Value)=>chk (ZbS v) (br (decide (aa < (↑(slN v):Int)))
 (Eng.ZrO p0 259 fun(v:Value)=>chk (ZbS v) (∃(ah:Nat),∃(o:Nat),slA v=some (Addr.mk ah o none)∧Zaf aa (slN v)∧∃(vs:List Value),List.length vs=260∧Mem.reads m' ah (o+Int.toNat aa*260)
 vs∧∃(R:RT),True∧CX Try.prog 87 (Array.mk [agg (Array.mk vs),slice p1a p1n p1c]) m' [] R∧Zax Shape.slice R∧∀(aw:Option Addr)(af ai:Nat)(ac:Mem),Mem.le m' ac→R (slice aw af ai) ac []→∃(Y:Nat
 → Prop),∃(R:Value→Mem→List (List Value)→List Value→Prop),CXY Try.prog 113 (Array.mk [slice a n c,slice aw af ai]) ac Y [] [] R∧(∀(t:Tok),t∈[]→∀(b:Nat),Tok.blk t=some b→Y b)∧(∀(ab:
 Nat),Y ab→(∃(t:Tok),t∈[]∧Tok.blk t=some ab)∨Mem.free m ab∧(∃(o:Nat),∃(v:Value),ac ab o=some v)∧b≠ab∧True)∧(∀(v:Value)(m':Mem) (css:List (List Value)) (tvs:List Value),R v m'
 css tvs→Shape.fits (Shape.tup []) v=true)∧∀(m':Mem),Mem.le (Mem.off ac Y) m'→(∀(b o:Nat)(u:Value),m' b o=some u→ac b o=some u∨Y b∨Mem.free ac b)→R (Value.tuple (Array.mk [])) m' [] []→
 [some (Box.mk b p0 109 260 true true)]=[some (Box.mk b p0 109 260 true true)]∧∃(n':Nat),n' < ag∧I [int i64 (IntKind.wrap i64 (aa+(1:Int)))] [] [] m' n')) (∃(m'':Mem),Mem.le m m''∧Mem.le m'' m'∧R
 (slice a n c) m'' []))) (chk (Zal i64 v&&decide (i64=i64)) (br (RowKit.intOf v == (5:Int)) (Eng.ZrO p0 258 fun(v:Value)=>chk (Zal i64 v&&decide (i64=i64)) (br (decide (RowKit.intOf v < (0:Int)))
 (Eng.ZrO p0 257 fun(v:Value)=>chk (Zal i64 v&&decide (i64=i64)) (Eng.ZrO p0 259 fun(aj:Value)=>chk (ZbS aj) (∃(ah:Nat),∃(o:Nat),slA aj=some (Addr.mk ah o none)∧Zaf (0:Int) (slN aj)∧
 ∃(vs:List Value),List.length vs=260∧Mem.reads ae ah (o+0) vs∧∃(R_2:RT),True∧CX Try.prog 87 (Array.mk [agg (Array.mk vs),slice p1a p1n p1c]) ae [] R_2∧Zax Shape.slice R_2∧∀(an:Option Addr) (aa
 ai:Nat) (m':Mem),Mem.le ae m'→R_2 (slice an aa ai) m' []→∃(R_3:RT),True∧CX Try.prog 111 (Array.mk [int i64 (IntKind.wrap i64 ((↑p1n:Int)+(1:Int))),int i64 1]) m' [] R_3∧Zax Shape.slice R_3∧∀
 (aq:Option Addr) (ag ar:Nat) (ac:Mem),Mem.le m' ac→R_3 (slice aq ag ar) ac []→∃(I:IT),(∃(n:Nat),I [slice aq ag ar,int i64 0] [] [] ac n)∧∀(al:Option Addr)(af am:Nat)(ak:Int)(m':Mem) (ao
 : Nat),True→I [slice al af am,int i64 ak] [] [] m' ao→br (decide (ak≤IntKind.wrap i64 (RowKit.intOf v+IntKind.wrap i64 ((↑p1n:Int)+(1:Int))))) (Eng.ZrO p0 257 fun(v:Value)=>chk (Zal i64 v) (br
 (decide (ak ≥ RowKit.intOf v)) (∃(Y:Nat→Prop),∃(R:Value→Mem→List (List Value)→List Value→Prop),CXY Try.prog 113 (Array.mk [slice a n c,slice al af am]) m' Y [] [] R∧(∀(t:Tok),t∈[]→∀(b:
 Nat),Tok.blk t=some b→Y b)∧(∀(ab:Nat),Y ab→(∃(t:Tok),t∈[]∧Tok.blk t=some ab)∨Mem.free m ab∧(∃(o:Nat),∃(v:Value),m' ab o=some v)∧b≠ab∧True)∧(∀(v:Value)(m':Mem) (css:
 List (List Value)) (tvs:List Value),R v m' css tvs→Shape.fits (Shape.tup []) v=true)∧∀(ad:Mem),Mem.le (Mem.off m' Y) ad→(∀(b o:Nat)(u:Value),ad b o=some u→m' b o=some u∨Y b∨Mem.free m' b)
 → R (Value.tuple (Array.mk [])) ad [] []→∃(R:RT),True∧CX Try.prog 112 (Array.mk [slice al af am,slice an aa ai]) ad [] R∧Zax Shape.slice R∧∀(a:Option Addr)(n c:Nat)(m':Mem),Mem.le ad m'→R
 (slice a n c) m' []→[some (Box.mk b p0 109 260 true true)]=[some (Box.mk b p0 109 260 true true)]∧∃(n':Nat),n' < ao∧I [slice a n c,int i64 (IntKind.wrap i64 (ak+(1:Int)))] [] [] m' n') (∃(R:RT),True
 ∧ CX Try.prog 112 (Array.mk [slice al af am,slice an aa ai]) m' [] R∧Zax Shape.slice R∧∀(a:Option Addr)(n c:Nat)(ad:Mem),Mem.le m' ad→R (slice a n c) ad []→[some (Box.mk b p0 109 260 true true)] =
 [some (Box.mk b p0 109 260 true true)]∧∃(n':Nat),n' < ao∧I [slice a n c,int i64 (IntKind.wrap i64 (ak+(1:Int)))] [] [] ad n'))) (∃(m'':Mem),Mem.le m m''∧Mem.le m'' m'∧R (slice a n c) m'' []))))
 (Eng.ZrO p0 259 fun(aj:Value)=>chk (ZbS aj) (∃(ah:Nat),∃(o:Nat),slA aj=some (Addr.mk ah o none)∧Zaf (0:Int) (slN aj)∧∃(vs:List Value),List.length vs=260∧Mem.reads ae ah (o+0) vs∧∃
 (R_2:RT),True∧CX Try.prog 87 (Array.mk [agg (Array.mk vs),slice p1a p1n p1c]) ae [] R_2∧Zax Shape.slice R_2∧∀(an:Option Addr)(aa ai:Nat)(m':Mem),Mem.le ae m'→R_2 (slice an aa ai) m' []→∃(R_3:
 RT),True∧CX Try.prog 111 (Array.mk [int i64 (IntKind.wrap i64 ((↑p1n:Int)+(1:Int))),int i64 1]) m' [] R_3∧Zax Shape.slice R_3∧∀(aq:Option Addr)(ag ar:Nat)(ac:Mem),Mem.le m' ac→R_3 (slice aq ag
 ar) ac []→∃(I:IT),(∃(n:Nat),I [slice aq ag ar,int i64 0] [] [] ac n)∧∀(al:Option Addr)(af am:Nat)(ak:Int)(m':Mem)(ao:Nat),True→I [slice al af am,int i64 ak] [] [] m' ao→chk (Zal i64
 v) (br (decide (ak≤RowKit.intOf v)) (Eng.ZrO p0 257 fun(v:Value)=>chk (Zal i64 v) (br (decide (ak ≥ RowKit.intOf v)) (∃(Y:Nat→Prop),∃(R:Value→Mem→List (List Value)→List Value→Prop),CXY
 Try.prog 113 (Array.mk [slice a n c,slice al af am]) m' Y [] [] R∧(∀(t:Tok),t∈[]→∀(b:Nat),Tok.blk t=some b→Y b)∧(∀(ab:Nat),Y ab→(∃(t:Tok),t∈[]∧Tok.blk t=some ab)∨Mem.free m ab∧(∃
 (o:Nat),∃(v:Value),m' ab o=some v)∧b≠ab∧True)∧(∀(v:Value)(m':Mem) (css:List (List Value)) (tvs:List Value),R v m' css tvs→Shape.fits (Shape.tup []) v=true)∧∀(ad:Mem),Mem.le (Mem.off
 m' Y) ad→(∀(b o:Nat)(u:Value),ad b o=some u→m' b o=some u∨Y b∨Mem.free m' b)→R (Value.tuple (Array.mk [])) ad [] []→∃(R:RT),True∧CX Try.prog 112 (Array.mk [slice al af am,slice an aa ai])
 ad [] R∧Zax Shape.slice R∧∀(a:Option Addr)(n c:Nat)(m':Mem),Mem.le ad m'→R (slice a n c) m' []→[some (Box.mk b p0 109 260 true true)]=[some (Box.mk b p0 109 260 true true)]∧∃(n':Nat),n' < ao∧
 I [slice a n c,int i64 (IntKind.wrap i64 (ak+(1:Int)))] [] [] m' n') (∃(R:RT),True∧CX Try.prog 112 (Array.mk [slice al af am,slice an aa ai]) m' [] R∧Zax Shape.slice R∧∀(a:Option Addr)(n c:Nat)
 (ad:Mem),Mem.le m' ad→R (slice a n c) ad []→[some (Box.mk b p0 109 260 true true)]=[some (Box.mk b p0 109 260 true true)]∧∃(n':Nat),n' < ao∧I [slice a n c,int i64 (IntKind.wrap i64 (ak+(1:Int)))]
 [] [] ad n'))) (∃(m'':Mem),Mem.le m m''∧Mem.le m'' m'∧R (slice a n c) m'' [])))))) (chk (Zal i64 v&&decide (i64=i64)) (br (RowKit.intOf v == (6:Int)) (Eng.ZrO p0 259 fun(v:Value)=>chk (ZbS v) (∃
 (b:Nat),∃(o:Nat),slA v=some (Addr.mk b o none)∧Zaf (0:Int) (slN v)∧∃(vs:List Value),List.length vs=260∧Mem.reads ae b (o+0) vs∧∃(R_2:RT),True∧CX Try.prog 87 (Array.mk [agg (Array.mk
 vs),slice p1a p1n p1c]) ae [] R_2∧Zax Shape.slice R_2∧∀(a:Option Addr)(n c:Nat)(m':Mem),Mem.le ae m'→R_2 (slice a n c) m' []→∃(m'':Mem),Mem.le m m''∧Mem.le m'' m'∧R (slice a n c) m'' [])) (∃
 (m'':Mem),Mem.le m m''∧Mem.le m'' ae∧R (slice a n c) m'' [])))))))))))))
theorem ZiL(p0:List Value)(p1a:Option Addr)(p1n p1c:Nat)(m:Mem)(R:RT)(h:Zfp p0 p1a p1n p1c m R):CX Try.prog 87 #[.agg p0.toArray,.slice p1a p1n p1c] m [] R:=
 Zad (E:=Zkx) ZaA mix Try.func87 [.v (.agg p0.toArray),.v (.slice p1a p1n p1c)] [] (by kernel_rfl) (Eq.mp (by kernel_rfl) h)
noncomputable def Zky:Env:={ EB with
 joins:=(fun i=>bif Nat.beq i 1 then some [(15,.bool)]else bif Nat.beq i 5 then some [(26,.bool)]else none)
 frzNew:=[3] }
def Zfq(p0:List Value)(p1a:Option Addr)(p1n p1c:Nat)(p2:Int)(m:Mem)(R:RT):Prop:=
 chk (Nat.beq (List.length p0) 260) (∀(b:Nat)(m':Mem),Mem.le m m'→Mem.reads m' b 0 p0→∃(ac:Bool),(∃(R:RT),True∧CX Try.prog 89 (Array.mk [agg (Array.mk p0),agg (Array.mk [int i64 0,int i64 0,int
 i64 0,int i64 0,int i64 0,int i64 0,int i64 0,int i64 0,int i64 0,int i64 0,int i64 0,int i64 0,int i64 0,int i64 0,int i64 0,int i64 0,int i64 0,int i64 0,int i64 0,int i64 0,int i64 0,int i64 0,int
 i64 0,int i64 0,int i64 0,int i64 0,int i64 0,int i64 0,int i64 0,int i64 0,int i64 0,int i64 0,int i64 0,int i64 0,int i64 0,int i64 0,int i64 0,int i64 0,int i64 0,int i64 0,int i64 0,int i64 0,int
 i64 0,int i64 0,int i64 0,int i64 0,int i64 0,int i64 0,int i64 0,int i64 0,int i64 0,int i64 0,int i64 0,int i64 0,int i64 0,int i64 0,int i64 0,int i64 0,int i64 0,int i64 0,int i64 0,int i64 0,int
 i64 0,int i64 0,int i64 0,int i64 0,int i64 0,int i64 0,int i64 0,int i64 0,int i64 0,int i64 0,int i64 0,int i64 0,int i64 0,int i64 0,int i64 0,int i64 0,int i64 0,int i64 0,int i64 0,int i64 0,int
 i64 0,int i64 0,int i64 0,int i64 0,int i64 0,int i64 0,int i64 0,int i64 0,int i64 0,int i64 0,int i64 0,int i64 0,int i64 0,int i64 0,int i64 0,int i64 0,int i64 0,int i64 0,int i64 0,int i64 0,int
 i64 0,int i64 0,int i64 0,int i64 0,int i64 0,int i64 0,int i64 0,int i64 0,int i64 0,int i64 0,int i64 0,int i64 0,int i64 0,int i64 0,int i64 0,int i64 0,int i64 0,int i64 0,int i64 0,int i64 0,int
 i64 0,int i64 0,int i64 0,int i64 0,int i64 0,int i64 0,int i64 0,int i64 0,int i64 0,int i64 0,int i64 0,int i64 0,int i64 0,int i64 0,int i64 0,int i64 0,int i64 0,int i64 0,int i64 0,int i64 0,int
 i64 0,int i64 0,int i64 0,int i64 0,int i64 0,int i64 0,int i64 0,int i64 0,int i64 0,int i64 0,int i64 0,int i64 0,int i64 0,int i64 0,int i64 0,int i64 0,int i64 0,int i64 0,int i64 0,int i64 0,int
 i64 0,int i64 0,int i64 0,int i64 0,int i64 0,int i64 0,int i64 0,int i64 0,int i64 0,int i64 0,int i64 0,int i64 0,int i64 0,int i64 0,int i64 0,int i64 0,int i64 0,int i64 0,int i64 0,int i64 0,int
 i64 0,int i64 0,int i64 0,int i64 0,int i64 0,int i64 0,int i64 0,int i64 0,int i64 0,int i64 0,int i64 0,int i64 0,int i64 0,int i64 0,int i64 0,int i64 0,int i64 0,int i64 0,int i64 0,int i64 0,int
 i64 0,int i64 0,int i64 0,int i64 0,int i64 0,int i64 0,int i64 0,int i64 0,int i64 0,int i64 0,int i64 0,int i64 0,int i64 0,int i64 0,int i64 0,int i64 0,int i64 0,int i64 0,int i64 0,int i64 0,int
 i64 0,int i64 0,int i64 0,int i64 0,int i64 0,int i64 0,int i64 0,int i64 0,int i64 0,int i64 0,int i64 0,int i64 0,int i64 0,int i64 0,int i64 0,int i64 0,int i64 0,int i64 0,int i64 0,int i64 0,int
 i64 0,int i64 0,int i64 0,int i64 0,int i64 0,int i64 0,int i64 0,int i64 0,int i64 0,int i64 0,int i64 0,int i64 0,int i64 0,int i64 0,int i64 0,int i64 0,int i64 0,slice none 0 0])]) m' [] R∧Zax
 Shape.bool R∧∀(aa:Bool)(ab:Mem),Mem.le m' ab→R (Value.bool aa) ab []→br (!aa) (∃(R:RT),True∧CX Try.prog 85 (Array.mk [agg (Array.mk p0)]) ab [] R∧Zax (Shape.int i64) R∧∀(n:Int)(m':Mem),
 Mem.le ab m'→R (int i64 n) m' []→[some (Box.mk b p0 109 260 true true)]=[some (Box.mk b p0 109 260 true true)]∧[Value.bool !n == (0:Int)]=[Value.bool ac]) ([some (Box.mk b p0 109 260 true true)]=[some
 (Box.mk b p0 109 260 true true)]∧[Value.bool false]=[Value.bool ac]))∧br ac (∃(m'':Mem),Mem.le m m''∧Mem.le m'' m'∧R (int i64 130) m'' []) (br (decide ((↑p1n:Int) > (512:Int))) (∃(m'':Mem),Mem.le m
 m''∧Mem.le m'' m'∧R (int i64 3) m'' []) (∃(aa:Bool),br (decide (p2 < (0:Int))) ([some (Box.mk b p0 109 260 true true)]=[some (Box.mk b p0 109 260 true true)]∧[Value.bool true]=[Value.bool aa]) ([some
 (Box.mk b p0 109 260 true true)]=[some (Box.mk b p0 109 260 true true)]∧[Value.bool (decide (p2 > (↑p1n:Int)))]=[Value.bool aa])∧br aa (∃(m'':Mem),Mem.le m m''∧Mem.le m'' m'∧R (int i64 2) m'' []) (∃
 (m'':Mem),Mem.le m m''∧Mem.le m'' m'∧R (int i64 0) m'' []))))
theorem ZiM(p0:List Value)(p1a:Option Addr)(p1n p1c:Nat)(p2:Int)(m:Mem)(R:RT)(h:Zfq p0 p1a p1n p1c p2 m R):CX Try.prog 64 #[.agg p0.toArray,.slice p1a p1n p1c,.int .i64 p2] m [] R:=
 Zad (E:=Zky) ZaA mix Try.func64 [.v (.agg p0.toArray),.v (.slice p1a p1n p1c),.v (.int .i64 p2)] [] (by kernel_rfl) (Eq.mp (by kernel_rfl) h)
end Go.Proofs.Ythiefodednaikaa
