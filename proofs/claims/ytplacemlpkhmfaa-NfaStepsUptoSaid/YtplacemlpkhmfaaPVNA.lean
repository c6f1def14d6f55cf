/- Part of the proof: conditions and contracts of functions of this program. No condition of its own. -/
import Derived.Test.YtplacemlpkhmfaaPEnv
import Derived.Test.YtplacemlpkhmfaaMc
set_option linter.unusedVariables false
namespace Go.Proofs.Ytplacemlpkhmfaa
open Go Go.Eng Go.Proofs Go.RowKit
open Go.Value (int slice agg)
open Go.IntKind (u8 u64 i64)
set_option maxRecDepth 100000
noncomputable def Zix:Env:={ EB with
 dr:=(fun i=>bif Nat.beq i 0 then[⟨0,[100000],[],none,[],[]⟩,⟨1,[],[],none,[],[]⟩,⟨2,[],[],none,[1],[]⟩,⟨3,[100000],[],none,[0],[]⟩,⟨4,[100000],[],none,[0,1,2,3],[]⟩,⟨5,[100000],[],none,[0,1,2,3,4],[]⟩,⟨6,[],[],none,[],[]⟩,⟨7,[],[],none,[6],[]⟩,⟨8,[],[],none,[6,7],[]⟩,⟨9,[],[],none,[0,1,2,3,4,5,6,7,8],[]⟩,⟨10,[100000],[],none,[0],[]⟩,⟨11,[100000],[],none,[0,1,2,3,4,5,6,7,8,9,10],[]⟩,⟨12,[100000],[100000],none,[0,1,2,3,4,5,6,7,8,9,10,11],[]⟩]else[]) }
def Zew(p0b p0o p0T p0cap:Nat)(p0cs:List Value)(p1:Int)(m:Mem)(R:RT):Prop:=
 (64:Int)≠(0:Int)∧Zag (IntKind.wrap i64 (Int.tdiv p1 (64:Int))) 7∧Eng.ZrB p0cs (p0o+Int.toNat (IntKind.wrap i64 (Int.tdiv p1 (64:Int)))*1) fun(v:Value)=>(64:Int)≠(0:Int)∧(0:Int) ≤
 Int.tmod p1 (64:Int)∧chk (Zbv u64 v&&decide (u64=u64)) (Zag (IntKind.wrap i64 (Int.tdiv p1 (64:Int))) 7∧bif Nat.beq p0cap 1&&Nat.beq (p0o+Int.toNat (IntKind.wrap i64 (Int.tdiv p1 (64:Int)))*1)
 0 then Box.mk p0b p0cs p0T p0cap false true=Box.mk p0b p0cs p0T p0cap false true∧∃(m'':Mem),Mem.le m m''∧Mem.le m'' m∧R (Value.tuple (Array.mk [])) m'' [[int u64 (IntKind.wrap u64 (↑(BitVec.toNat
 (BitVec.ofInt 64 (RowKit.intOf v)|||BitVec.ofInt 64 (IntKind.wrap u64 ((1:Int)*(2:Int) ^ min (Int.toNat (Int.tmod p1 (64:Int))) 64)))):Int))]]else chk (Nat.ble (p0o+Int.toNat (IntKind.wrap i64 (Int.tdiv
 p1 (64:Int)))*1+1) (List.length p0cs)) (Box.mk p0b p0cs p0T p0cap false true=Box.mk p0b p0cs p0T p0cap false true∧∃(m'':Mem),Mem.le m m''∧Mem.le m'' m∧R (Value.tuple (Array.mk [])) m'' [Zan p0cs
 (p0o+Int.toNat (IntKind.wrap i64 (Int.tdiv p1 (64:Int)))*1) [int u64 (IntKind.wrap u64 (↑(BitVec.toNat (BitVec.ofInt 64 (RowKit.intOf v)|||BitVec.ofInt 64 (IntKind.wrap u64 ((1:Int)*(2:Int) ^ min
 (Int.toNat (Int.tmod p1 (64:Int))) 64)))):Int))]]))
theorem Zhv(p0b p0o p0T p0cap:Nat)(p0cs:List Value)(p1:Int)(m:Mem)(R:RT)(h:Zew p0b p0o p0T p0cap p0cs p1 m R):CX Try.prog 116 #[.pointer (some ⟨p0b,p0o,none⟩),.int .i64 p1] m [⟨p0b,p0cs,p0T,p0cap,false,true⟩] R:=
 Zal (E:=Zix) Zaz mix Try.func116 [.loc 100000 p0o,.v (.int .i64 p1)] [⟨p0b,p0cs,p0T,p0cap,false,true⟩] (by kernel_rfl) (Eq.mp (by kernel_rfl) h)
noncomputable def Ziy:Env:=EB
def Zex(p0b p0o:Nat)(p1:Int)(m:Mem)(R:RT):Prop:=
 (64:Int)≠(0:Int)∧Zag (IntKind.wrap i64 (Int.tdiv p1 (64:Int))) 7∧∃(v:Value),m p0b (p0o+Int.toNat (IntKind.wrap i64 (Int.tdiv p1 (64:Int)))*1)=some v∧(64:Int)≠(0:Int)∧chk (Zbv u64
 v&&true) ((0:Int)≤Int.tmod p1 (64:Int)∧∃(m'':Mem),Mem.le m m''∧Mem.le m'' m∧R (Value.bool (IntKind.wrap u64 (↑(BitVec.toNat (BitVec.ofInt 64 (Int.fdiv (RowKit.intOf v) ((2:Int) ^ min (Int.toNat
 (Int.tmod p1 (64:Int))) 64))&&&BitVec.ofInt 64 (1:Int))):Int) == (1:Int))) m'' [])
theorem Zhw(p0b p0o:Nat)(p1:Int)(m:Mem)(R:RT)(h:Zex p0b p0o p1 m R):CX Try.prog 115 #[.pointer (some ⟨p0b,p0o,none⟩),.int .i64 p1] m [] R:=
 Zal (E:=Ziy) Zaz mix Try.func115 [.v (.pointer (some ⟨p0b,p0o,none⟩)),.v (.int .i64 p1)] [] (by kernel_rfl) (Eq.mp (by kernel_rfl) h)
noncomputable def Zke:Env:={ EB with
 loops:=(fun i=>bif Nat.beq i 2 then⟨[(5,.int .i64)],[100000],[],false⟩ else⟨[],[],[],false⟩)
 dr:=(fun i=>bif Nat.beq i 4 then[⟨0,[100000],[],none,[],[]⟩,⟨1,[],[],none,[],[]⟩,⟨2,[100000],[],none,[0],[]⟩,⟨3,[100000],[],none,[0,1,2],[]⟩,⟨4,[100000],[],none,[0,1,2,3],[]⟩,⟨5,[],[],none,[],[]⟩,⟨6,[3],[],none,[5],[]⟩,⟨7,[3],[],none,[5,6],[]⟩,⟨8,[],[],none,[0,1,2,3,4,5,6,7],[]⟩,⟨9,[100000],[],none,[0],[]⟩,⟨10,[100000],[],none,[0,1,2,3,4,5,6,7,8,9],[]⟩,⟨11,[100000],[100000],none,[0,1,2,3,4,5,6,7,8,9,10],[]⟩]else[])
 frzNew:=[3] }
def Zfj(p0b p0o p0T p0cap:Nat)(p0cs:List Value)(bX bG bH bI aW aZ bE:Int)(m:Mem)(R:RT):Prop:=
 ∀(b:Nat)(m':Mem),Mem.le m m'→Mem.reads m' b 0 [int u64 bX,int u64 bG,int u64 bH,int u64 bI,int u64 aW,int u64 aZ,int u64 bE]→∃(I:IT),(∃(n:Nat),I [int i64 0] [p0cs] [] m' n)∧∀(n
 : Int) (cs:List Value) (m'_1:Mem) (n_1:Nat),Mem.le m' m'_1→I [int i64 n] [cs] [] m'_1 n_1→br (decide (n < (7:Int))) (Zag n 7∧Eng.ZrB cs (p0o+Int.toNat n*1) fun(v:Value)=>Zag n 7∧
 Eng.ZrB [int u64 bX,int u64 bG,int u64 bH,int u64 bI,int u64 aW,int u64 aZ,int u64 bE] (0+Int.toNat n*1) fun(v_1:Value)=>chk (Zbv u64 v&&Zbv u64 v_1) (Zag n 7∧bif Nat.beq p0cap
 1&&Nat.beq (p0o+Int.toNat n*1) 0 then[some (Box.mk b [int u64 bX,int u64 bG,int u64 bH,int u64 bI,int u64 aW,int u64 aZ,int u64 bE] 100 7 true true),some (Box.mk p0b [] p0T p0cap false true)]
 = [some (Box.mk b [int u64 bX,int u64 bG,int u64 bH,int u64 bI,int u64 aW,int u64 aZ,int u64 bE] 100 7 true true),some (Box.mk p0b [] p0T p0cap false true)]∧∃(n':Nat),n' < n_1∧I [int i64
 (IntKind.wrap i64 (n+(1:Int)))] [[int u64 (IntKind.wrap u64 (↑(BitVec.toNat (BitVec.ofInt 64 (RowKit.intOf v)|||BitVec.ofInt 64 (RowKit.intOf v_1))):Int))]] [] m'_1 n' else chk (Nat.ble (p0o+Int.toNat n*1 +
 1) (List.length cs)) ([some (Box.mk b [int u64 bX,int u64 bG,int u64 bH,int u64 bI,int u64 aW,int u64 aZ,int u64 bE] 100 7 true true),some (Box.mk p0b [] p0T p0cap false true)]=[some (Box.mk b
 [int u64 bX,int u64 bG,int u64 bH,int u64 bI,int u64 aW,int u64 aZ,int u64 bE] 100 7 true true),some (Box.mk p0b [] p0T p0cap false true)]∧∃(n':Nat),n' < n_1∧I [int i64 (IntKind.wrap i64 (n
 + (1:Int)))] [Zan cs (p0o+Int.toNat n*1) [int u64 (IntKind.wrap u64 (↑(BitVec.toNat (BitVec.ofInt 64 (RowKit.intOf v)|||BitVec.ofInt 64 (RowKit.intOf v_1))):Int))]] [] m'_1 n'))) (Box.mk p0b p0cs p0T p0cap
 false true=Box.mk p0b p0cs p0T p0cap false true∧∃(m'':Mem),Mem.le m m''∧Mem.le m'' m'_1∧R (Value.tuple (Array.mk [])) m'' [cs])
theorem Ziz(p0b p0o p0T p0cap:Nat)(p0cs:List Value)(bX bG bH bI aW aZ bE:Int)(m:Mem)(R:RT)(h:Zfj p0b p0o p0T p0cap p0cs bX bG bH bI aW aZ bE m R):CX Try.prog 141 #[.pointer (some ⟨p0b,p0o,none⟩),.agg #[.int .u64 bX,.int .u64 bG,.int .u64 bH,.int .u64 bI,.int .u64 aW,.int .u64 aZ,.int .u64 bE]] m [⟨p0b,p0cs,p0T,p0cap,false,true⟩] R:=
 Zal (E:=Zke) Zaz mix Try.func141 [.loc 100000 p0o,.v (.agg #[.int .u64 bX,.int .u64 bG,.int .u64 bH,.int .u64 bI,.int .u64 aW,.int .u64 aZ,.int .u64 bE])] [⟨p0b,p0cs,p0T,p0cap,false,true⟩] (by kernel_rfl) (Eq.mp (by kernel_rfl) h)
noncomputable def Zhx:Env:={ EB with
 loops:=(fun i=>bif Nat.beq i 2 then⟨[(5,.int .i64)],[],[],false⟩ else⟨[],[],[],false⟩)
 dr:=(fun i=>bif Nat.beq i 4 then[⟨0,[],[],none,[],[]⟩,⟨1,[],[],none,[],[]⟩,⟨2,[],[],none,[0],[]⟩,⟨3,[],[],none,[0,1,2],[]⟩,⟨4,[],[],none,[0,1,2,3],[]⟩,⟨5,[],[],none,[],[]⟩,⟨6,[3],[],none,[5],[]⟩,⟨7,[3],[],none,[5,6],[]⟩,⟨8,[],[],none,[0,1,2,3,4,5,6,7],[]⟩,⟨9,[],[],none,[0],[]⟩,⟨10,[],[],none,[0,1,2,3,4,5,6,7,8,9],[]⟩]else[])
 frzNew:=[3]
 thaw:=true
 stAt:=(fun i=>bif Nat.beq i 18 then some 999 else none)
 last:=(fun i=>bif Nat.beq i 4 then true else false)
 lastK:=(fun i=>bif Nat.beq i 4 then 1 else 1) }
def ZdJ(p0b p0o:Nat)(bX bG bH bI aW aZ bE:Int)(t0a:Option Addr)(t0n t0c:Nat)(m:Mem)(Y:Nat→Prop)(R:RTY):Prop:=
 ∀(b:Nat)(m':Mem),Mem.le m m'→Mem.reads m' b 0 [int u64 bX,int u64 bG,int u64 bH,int u64 bI,int u64 aW,int u64 aZ,int u64 bE]→Mem.free m b→(∀(b' o:Nat)(u:Value),m' b' o=some u→
 m b' o=some u∨b'=b)→∃(I:IT),(∃(n:Nat),I [int i64 0] [] [] m' n)∧∀(n:Int)(m':Mem)(n_1:Nat),True→I [int i64 n] [] [] m' n_1→br (decide (n < (7:Int))) (Zag n 7∧∃(v:Value),m' p0b
 (p0o+Int.toNat n*1)=some v∧Zag n 7∧Eng.ZrB [int u64 bX,int u64 bG,int u64 bH,int u64 bI,int u64 aW,int u64 aZ,int u64 bE] (0+Int.toNat n*1) fun(v_1:Value)=>chk (Zbv u64 v &&
 Zbv u64 v_1) (Zag n 7∧(∃(vs:List Value),List.length vs=1∧Mem.reads m' p0b (p0o+Int.toNat n*1) vs)∧Mem.free (Mem.off m Y) p0b∧true=true∧b≠p0b∧[some (Box.mk b [int u64 bX,int u64 bG,
 int u64 bH,int u64 bI,int u64 aW,int u64 aZ,int u64 bE] 100 7 true true)]=[some (Box.mk b [int u64 bX,int u64 bG,int u64 bH,int u64 bI,int u64 aW,int u64 aZ,int u64 bE] 100 7 true
 true)]∧[some (Tok.mk (slice t0a t0n t0c) 7)]=[some (Tok.mk (slice t0a t0n t0c) 7)]∧∃(n':Nat),n' < n_1∧I [int i64 (IntKind.wrap i64 (n+(1:Int)))] [] [] (Mem.upd m' p0b (p0o+Int.toNat n*1) [int u64
 (IntKind.wrap u64 (↑(BitVec.toNat (BitVec.ofInt 64 (RowKit.intOf v)|||BitVec.ofInt 64 (RowKit.intOf v_1))):Int))]) n')) (R (Value.tuple (Array.mk [])) m' [] [slice t0a t0n t0c])
theorem ZfP(p0b p0o:Nat)(bX bG bH bI aW aZ bE:Int)(t0a:Option Addr)(t0n t0c:Nat)(m:Mem)(Y:Nat→Prop)(R:RTY)(h:ZdJ p0b p0o bX bG bH bI aW aZ bE t0a t0n t0c m Y R):CXY Try.prog 141 #[.pointer (some ⟨p0b,p0o,none⟩),.agg #[.int .u64 bX,.int .u64 bG,.int .u64 bH,.int .u64 bI,.int .u64 aW,.int .u64 aZ,.int .u64 bE]] m Y [] [⟨.slice t0a t0n t0c,7⟩] R:=
 ZaL (E:=Zhx) Zaz mix Try.func141 [.v (.pointer (some ⟨p0b,p0o,none⟩)),.v (.agg #[.int .u64 bX,.int .u64 bG,.int .u64 bH,.int .u64 bI,.int .u64 aW,.int .u64 aZ,.int .u64 bE])] [] [900] [⟨.slice t0a t0n t0c,7⟩] (by decide) (by kernel_rfl) (Eq.mp (by kernel_rfl) h)
noncomputable def ZgC:Env:={ EB with
 loops:=(fun i=>bif Nat.beq i 1 then⟨[(4,.int .i64)],[],[],true⟩ else⟨[],[],[],false⟩) }
def Zdg(p0g:Nat)(p0fi p0ca:List Value)(c0b c0o:Nat)(m:Mem)(xs:List (List Value)):Prop:=
 ∀(l:Nat),∃(I:IT),(∃(n:Nat),I [int i64 0,int i64 0] [] [] m n)∧∀(y n:Int)(m':Mem)(n_1:Nat),Mem.le m m'→I [int i64 y,int i64 n] [] [] m' n_1→br (decide (n < (448:Int))) (∃(v:Value),m'
 c0b c0o=some v∧∃(R:RT),True∧CX Try.prog 115 (Array.mk [v,int i64 n]) m' [] R∧ZaF Shape.bool R∧∀(b:Bool)(m'_1:Mem),Mem.le m' m'_1→R (Value.bool b) m'_1 []→br b ((l=l∧(0:Int)≤y∧
 List.get?Internal xs (Int.toNat y)=some [int i64 n])∧(∃(n':Nat),n' < n_1∧I [int i64 (y+(1:Int)),int i64 (IntKind.wrap i64 (n+(1:Int)))] [] [] m'_1 n')∧((-1:Int)=(↑(List.length xs):Int)∨(-1:
 Int)=(-1:Int))) (∃(n':Nat),n' < n_1∧I [int i64 y,int i64 (IntKind.wrap i64 (n+(1:Int)))] [] [] m'_1 n')) (y=(↑(List.length xs):Int)∨y=(-1:Int))
theorem ZfQ(p0g:Nat)(p0fi p0ca:List Value)(c0b c0o:Nat)(m:Mem)(xs:List (List Value))(h:Zdg p0g p0fi p0ca c0b c0o m xs):IX Try.prog 145 [] [.pointer (some ⟨c0b,c0o,none⟩)] m xs:=
 Znb (E:=ZgC) Zaz mix Try.func145 [] [.pointer (some ⟨c0b,c0o,none⟩)] xs (by kernel_rfl) (Eq.mp (by kernel_rfl) h)
noncomputable def ZiA:Env:={ EB with
 frzNew:=[1] }
def Zey(p0b p0o:Nat)(m:Mem)(R:RT):Prop:=
 ∀(b:Nat)(m':Mem),Mem.le m m'→Mem.reads m' b 0 [Value.pointer (some (Addr.mk p0b p0o none))]→∃(m'':Mem),Mem.le m m''∧Mem.le m'' m'∧R (Value.func (Fn.func 145) (Array.mk []) (Array.mk [Value.pointer
 (some (Addr.mk b 0 none))])) m'' []
theorem Zhy(p0b p0o:Nat)(m:Mem)(R:RT)(h:Zey p0b p0o m R):CX Try.prog 111 #[.pointer (some ⟨p0b,p0o,none⟩)] m [] R:=
 Zal (E:=ZiA) Zaz mix Try.func111 [.v (.pointer (some ⟨p0b,p0o,none⟩))] [] (by kernel_rfl) (Eq.mp (by kernel_rfl) h)
noncomputable def Zca:Env:={ EB with
 loops:=(fun i=>bif Nat.beq i 3 then⟨[(7,.int .i64)],[2],[(11,1)],false⟩ else⟨[],[],[],false⟩)
 tokOf:=(fun i=>bif Nat.beq i 4 then 11 else bif Nat.beq i 11 then 11 else 0) }
def Zbl(p0a:Option Addr)(p0n p0c p1g:Nat)(p1fi p1ca:List Value)(m:Mem)(R:RT):Prop:=
 ∀(b:Nat),∃(xs:List (List Value)),IX Try.prog p1g p1fi p1ca m xs∧(∀(x:List Value),x∈xs→Shape.fitsL [Shape.int i64] x=true)∧∃(I:IT),I [] [[slice p0a p0n p0c]] [slice none 0 0] m 0∧(∀(n:Int)
 (cs:List Value) (a:Option Addr) (n_1 c:Nat) (m':Mem) (n_2:Nat),Mem.le m m'→List.get?Internal xs n_2=some [int i64 n]→I [] [cs] [slice a n_1 c] m' n_2→Eng.ZrB cs 0 fun(v:Value)=>∀(b_1:Nat),
 Mem.free m' b_1→chk (Zdm v&&true) ((Tok.mk (slice a n_1 c) 1=Tok.mk v 1∨v=slice none 0 0∨slC v < slN v+1)∧∃(xs:List Value),∃(ys:List Value),List.length xs=slN v*1∧List.length ys=1*1∧
 rowRd (Mem.add m' b_1 [int i64 n]) (slA v) xs∧rowRd (Mem.add m' b_1 [int i64 n]) (some (Addr.mk b_1 0 none)) ys∧(∀(u:Value),u∈ys→Value.oneCell' u=true)∧(slN v+1)*8≤140737488355328∧slN v+1 ≤
 9223372036854775807∧∀(a':Option Addr)(c':Nat)(m'_1:Mem),Mem.le (Mem.add m' b_1 [int i64 n]) m'_1→rowRd m'_1 a' (List.append xs ys)→[some (Box.mk b [] 24 1 false true)]=[some (Box.mk b [] 24 1 false
 true)]∧I [] [[slice a' (slN v+1) c']] [slice a' (slN v+1) c'] m'_1 (n_2+1)))∧∀(cs:List Value)(a:Option Addr)(n c:Nat)(m':Mem),Mem.le m m'→I [] [cs] [slice a n c] m' (List.length xs)→Eng.ZrB
 cs 0 fun(v:Value)=>some (Tok.mk (slice a n c) 1)=some (Tok.mk v 1)∧R v m' []
theorem ZbY(p0a:Option Addr)(p0n p0c p1g:Nat)(p1fi p1ca:List Value)(m:Mem)(R:RT)(h:Zbl p0a p0n p0c p1g p1fi p1ca m R):CXT Try.prog 144 #[.slice p0a p0n p0c,.func (.func p1g) p1fi.toArray p1ca.toArray] m 1 R:=
 Zh0 (E:=Zca) Zaz mix Try.func144 [.v (.slice p0a p0n p0c),.v (.func (.func p1g) p1fi.toArray p1ca.toArray)] (by kernel_rfl) (Eq.mp (by kernel_rfl) h)
noncomputable def ZdO:Env:=EB
def Zb3(p0g:Nat)(p0fi p0ca:List Value)(m:Mem)(R:RT):Prop:=
 ∃(R_1:RT),True∧CX Try.prog 144 (Array.mk [slice none 0 0,Value.func (Fn.func p0g) (Array.mk p0fi) (Array.mk p0ca)]) m [] R_1∧ZaF Shape.slice R_1∧∀(a:Option Addr)(n c:Nat)(m':Mem),Mem.le m m'→R_1
 (slice a n c) m' []→∃(m'':Mem),Mem.le m m''∧Mem.le m'' m'∧R (slice a n c) m'' []
theorem Zdz(p0g:Nat)(p0fi p0ca:List Value)(m:Mem)(R:RT)(h:Zb3 p0g p0fi p0ca m R):CX Try.prog 110 #[.func (.func p0g) p0fi.toArray p0ca.toArray] m [] R:=
 Zal (E:=ZdO) Zaz mix Try.func110 [.v (.func (.func p0g) p0fi.toArray p0ca.toArray)] [] (by kernel_rfl) (Eq.mp (by kernel_rfl) h)
noncomputable def Zhz:Env:=EB
def ZdK(p0b p0o:Nat)(m:Mem)(R:RT):Prop:=
 ∃(R_1:RT),True∧CX Try.prog 111 (Array.mk [Value.pointer (some (Addr.mk p0b p0o none))]) m [] R_1∧ZaF Shape.fn R_1∧∀(g:Nat)(fi ca:List Value)(m':Mem),Mem.le m m'→R_1 (Value.func (Fn.func g)
 (Array.mk fi) (Array.mk ca)) m' []→∃(R_2:RT),True∧CX Try.prog 110 (Array.mk [Value.func (Fn.func g) (Array.mk fi) (Array.mk ca)]) m' [] R_2∧ZaF Shape.slice R_2∧∀(a:Option Addr)(n c:Nat)(m'_1:Mem),
 Mem.le m' m'_1→R_2 (slice a n c) m'_1 []→∃(m'':Mem),Mem.le m m''∧Mem.le m'' m'_1∧R (slice a n c) m'' []
theorem ZgD(p0b p0o:Nat)(m:Mem)(R:RT)(h:ZdK p0b p0o m R):CX Try.prog 62 #[.pointer (some ⟨p0b,p0o,none⟩)] m [] R:=
 Zal (E:=Zhz) Zaz mix Try.func62 [.v (.pointer (some ⟨p0b,p0o,none⟩))] [] (by kernel_rfl) (Eq.mp (by kernel_rfl) h)
noncomputable def Zre:Env:={ EB with
 loops:=(fun i=>bif Nat.beq i 3 then⟨[(8,.int .i64)],[3],[],false⟩ else⟨[],[],[],false⟩) }
def Zlf(p0a:Option Addr)(p0n p0c:Nat)(m:Mem)(R:RT):Prop:=
 ∀(b b_1:Nat),∃(I:IT),(∃(n:Nat),I [int i64 0] [[int u64 0,int u64 0,int u64 0,int u64 0,int u64 0,int u64 0,int u64 0]] [] m n)∧∀(n:Int)(cs:List Value)(m':Mem)(n_1:Nat),Mem.le m m'→I
 [int i64 n] [cs] [] m' n_1→br (decide (n < (↑p0n:Int))) (∃(b_2:Nat),∃(o:Nat),p0a=some (Addr.mk b_2 o none)∧Zag n p0n∧∃(v:Value),m' b_2 (o+Int.toNat n*1)=some v∧∃(R:RT),True∧CX
 Try.prog 116 (Array.mk [Value.pointer (some (Addr.mk b_1 0 none)),v]) m' [Box.mk b_1 cs 100 7 false true] R∧ZaF (Shape.tup []) R∧∀(m'_1:Mem),Mem.le m' m'_1→∀(cs:List Value),R (Value.tuple (Array.mk []))
 m'_1 [cs]→[some (Box.mk b_1 [] 100 7 false true),some (Box.mk b [int u64 0,int u64 0,int u64 0,int u64 0,int u64 0,int u64 0,int u64 0] 100 7 false true)]=[some (Box.mk b_1 [] 100 7 false true),some (Box.mk
 b [int u64 0,int u64 0,int u64 0,int u64 0,int u64 0,int u64 0,int u64 0] 100 7 false true)]∧∃(n':Nat),n' < n_1∧I [int i64 (IntKind.wrap i64 (n+(1:Int)))] [cs] [] m'_1 n') (chk (Nat.beq (List.length
 cs) 7&&Zcq cs) (∃(m'':Mem),Mem.le m m''∧Mem.le m'' m'∧R (agg (Array.mk cs)) m'' []))
theorem Zo3(p0a:Option Addr)(p0n p0c:Nat)(m:Mem)(R:RT)(h:Zlf p0a p0n p0c m R):CX Try.prog 112 #[.slice p0a p0n p0c] m [] R:=
 Zal (E:=Zre) Zaz mix Try.func112 [.v (.slice p0a p0n p0c)] [] (by kernel_rfl) (Eq.mp (by kernel_rfl) h)
end Go.Proofs.Ytplacemlpkhmfaa

