/- Part of the proof: conditions and contracts of functions of this program. No condition of its own. -/
import Derived.Test.YtplacemlpkhmfaaPEnv
import Derived.Test.YtplacemlpkhmfaaMc
import Derived.Test.YtplacemlpkhmfaaMr
import Derived.Laws.StructEq
import Derived.Laws.Tables
import Derived.Laws.Cover2
import Derived.Test.YtplacemlpkhmfaaPVNC
set_option linter.unusedVariables false
namespace Go.Proofs.Ytplacemlpkhmfaa
open Go Go.Eng Go.Proofs Go.RowKit
open Go.Value (int slice agg)
open Go.IntKind (u8 u64 i64)
set_option maxRecDepth 100000
noncomputable def Zi3:Env:={ EB with
 dr:=(fun i=>bif Nat.beq i 0 then[⟨0,[100000],[],none,[],[]⟩,⟨1,[],[],none,[],[]⟩,⟨2,[],[],none,[1],[]⟩,⟨3,[100000],[],none,[0],[]⟩,⟨4,[100000],[],none,[0,1,2,3],[]⟩,⟨5,[100000],[],none,[0,1,2,3,4],[]⟩,⟨6,[],[],none,[],[]⟩,⟨7,[],[],none,[6],[]⟩,⟨8,[],[],none,[6,7],[]⟩,⟨9,[],[],none,[0,1,2,3,4,5,6,7,8],[]⟩,⟨10,[100000],[],none,[0],[]⟩,⟨11,[100000],[],none,[0,1,2,3,4,5,6,7,8,9,10],[]⟩,⟨12,[100000],[100000],none,[0,1,2,3,4,5,6,7,8,9,10,11],[]⟩]else[]) }
def ZeR(p0b p0o p0T p0cap:Nat)(p0cs:List Value)(p1:Int)(m:Mem)(R:RT):Prop:=
 (64:Int)≠(0:Int)∧Zac (IntKind.wrap i64 (Int.tdiv p1 (64:Int))) 7∧Eng.ZsM p0cs (p0o+Int.toNat (IntKind.wrap i64 (Int.tdiv p1 (64:Int)))*1) fun(v:Value)=>(64:Int)≠(0:Int)∧(0:Int) ≤
 Int.tmod p1 (64:Int)∧chk (ZaY u64 v&&decide (u64=u64)) (Zac (IntKind.wrap i64 (Int.tdiv p1 (64:Int))) 7∧bif Nat.beq p0cap 1&&Nat.beq (p0o+Int.toNat (IntKind.wrap i64 (Int.tdiv p1 (64:Int)))*1)
 0 then Box.mk p0b p0cs p0T p0cap false true=Box.mk p0b p0cs p0T p0cap false true∧∃(m'':Mem),Mem.le m m''∧Mem.le m'' m∧R (Value.tuple (Array.mk [])) m'' [[int u64 (IntKind.wrap u64 (↑(BitVec.toNat
 (BitVec.ofInt 64 (RowKit.intOf v)|||BitVec.ofInt 64 (IntKind.wrap u64 ((1:Int)*(2:Int) ^ min (Int.toNat (Int.tmod p1 (64:Int))) 64)))):Int))]]else chk (Nat.ble (p0o+Int.toNat (IntKind.wrap i64 (Int.tdiv
 p1 (64:Int)))*1+1) (List.length p0cs)) (Box.mk p0b p0cs p0T p0cap false true=Box.mk p0b p0cs p0T p0cap false true∧∃(m'':Mem),Mem.le m m''∧Mem.le m'' m∧R (Value.tuple (Array.mk [])) m'' [Zan p0cs
 (p0o+Int.toNat (IntKind.wrap i64 (Int.tdiv p1 (64:Int)))*1) [int u64 (IntKind.wrap u64 (↑(BitVec.toNat (BitVec.ofInt 64 (RowKit.intOf v)|||BitVec.ofInt 64 (IntKind.wrap u64 ((1:Int)*(2:Int) ^ min
 (Int.toNat (Int.tmod p1 (64:Int))) 64)))):Int))]]))
theorem ZhV(p0b p0o p0T p0cap:Nat)(p0cs:List Value)(p1:Int)(m:Mem)(R:RT)(h:ZeR p0b p0o p0T p0cap p0cs p1 m R):CX Try.prog 116 #[.pointer (some ⟨p0b,p0o,none⟩),.int .i64 p1] m [⟨p0b,p0cs,p0T,p0cap,false,true⟩] R:=
 Zaj (E:=Zi3) Zaw mix Try.func116 [.loc 100000 p0o,.v (.int .i64 p1)] [⟨p0b,p0cs,p0T,p0cap,false,true⟩] (by kernel_rfl) (Eq.mp (by kernel_rfl) h)
noncomputable def Zi4:Env:=EB
def ZeS(p0b p0o:Nat)(p1:Int)(m:Mem)(R:RT):Prop:=
 (64:Int)≠(0:Int)∧Zac (IntKind.wrap i64 (Int.tdiv p1 (64:Int))) 7∧∃(v:Value),m p0b (p0o+Int.toNat (IntKind.wrap i64 (Int.tdiv p1 (64:Int)))*1)=some v∧(64:Int)≠(0:Int)∧chk (ZaY u64
 v&&true) ((0:Int)≤Int.tmod p1 (64:Int)∧∃(m'':Mem),Mem.le m m''∧Mem.le m'' m∧R (Value.bool (IntKind.wrap u64 (↑(BitVec.toNat (BitVec.ofInt 64 (Int.fdiv (RowKit.intOf v) ((2:Int) ^ min (Int.toNat
 (Int.tmod p1 (64:Int))) 64))&&&BitVec.ofInt 64 (1:Int))):Int) == (1:Int))) m'' [])
theorem ZhW(p0b p0o:Nat)(p1:Int)(m:Mem)(R:RT)(h:ZeS p0b p0o p1 m R):CX Try.prog 115 #[.pointer (some ⟨p0b,p0o,none⟩),.int .i64 p1] m [] R:=
 Zaj (E:=Zi4) Zaw mix Try.func115 [.v (.pointer (some ⟨p0b,p0o,none⟩)),.v (.int .i64 p1)] [] (by kernel_rfl) (Eq.mp (by kernel_rfl) h)
noncomputable def Zg1:Env:=EB
def Zdz(p0b p0o p0T p0cap:Nat)(p0cs:List Value)(p1:Int)(m:Mem)(R:RT):Prop:=
 (64:Int)≠(0:Int)∧Zac (IntKind.wrap i64 (Int.tdiv p1 (64:Int))) 7∧Eng.ZsM p0cs (p0o+Int.toNat (IntKind.wrap i64 (Int.tdiv p1 (64:Int)))*1) fun(v:Value)=>(64:Int)≠(0:Int)∧chk (ZaY u64
 v&&true) ((0:Int)≤Int.tmod p1 (64:Int)∧Box.mk p0b p0cs p0T p0cap false true=Box.mk p0b p0cs p0T p0cap false true∧∃(m'':Mem),Mem.le m m''∧Mem.le m'' m∧R (Value.bool (IntKind.wrap u64 (↑(BitVec.toNat
 (BitVec.ofInt 64 (Int.fdiv (RowKit.intOf v) ((2:Int) ^ min (Int.toNat (Int.tmod p1 (64:Int))) 64))&&&BitVec.ofInt 64 (1:Int))):Int) == (1:Int))) m'' [p0cs])
theorem Zga(p0b p0o p0T p0cap:Nat)(p0cs:List Value)(p1:Int)(m:Mem)(R:RT)(h:Zdz p0b p0o p0T p0cap p0cs p1 m R):CX Try.prog 115 #[.pointer (some ⟨p0b,p0o,none⟩),.int .i64 p1] m [⟨p0b,p0cs,p0T,p0cap,false,true⟩] R:=
 Zaj (E:=Zg1) Zaw mix Try.func115 [.loc 100000 p0o,.v (.int .i64 p1)] [⟨p0b,p0cs,p0T,p0cap,false,true⟩] (by kernel_rfl) (Eq.mp (by kernel_rfl) h)
noncomputable def ZkT:Env:={ EB with
 loops:=(fun i=>bif Nat.beq i 2 then⟨[(5,.int .i64)],[100000],[],false⟩ else⟨[],[],[],false⟩)
 dr:=(fun i=>bif Nat.beq i 4 then[⟨0,[100000],[],none,[],[]⟩,⟨1,[],[],none,[],[]⟩,⟨2,[100000],[],none,[0],[]⟩,⟨3,[100000],[],none,[0,1,2],[]⟩,⟨4,[100000],[],none,[0,1,2,3],[]⟩,⟨5,[],[],none,[],[]⟩,⟨6,[3],[],none,[5],[]⟩,⟨7,[3],[],none,[5,6],[]⟩,⟨8,[],[],none,[0,1,2,3,4,5,6,7],[]⟩,⟨9,[100000],[],none,[0],[]⟩,⟨10,[100000],[],none,[0,1,2,3,4,5,6,7,8,9],[]⟩,⟨11,[100000],[100000],none,[0,1,2,3,4,5,6,7,8,9,10],[]⟩]else[])
 frzNew:=[3] }
def ZfG(p0b p0o p0T p0cap:Nat)(p0cs:List Value)(bM bH bI bJ aX bE bG:Int)(m:Mem)(R:RT):Prop:=
 ∀(b:Nat)(m':Mem),Mem.le m m'→Mem.reads m' b 0 [int u64 bM,int u64 bH,int u64 bI,int u64 bJ,int u64 aX,int u64 bE,int u64 bG]→∃(I:IT),(∃(n:Nat),I [int i64 0] [p0cs] [] m' n)∧∀(n
 : Int) (cs:List Value) (m'_1:Mem) (n_1:Nat),Mem.le m' m'_1→I [int i64 n] [cs] [] m'_1 n_1→br (decide (n < (7:Int))) (Zac n 7∧Eng.ZsM cs (p0o+Int.toNat n*1) fun(v:Value)=>Zac n 7∧
 Eng.ZsM [int u64 bM,int u64 bH,int u64 bI,int u64 bJ,int u64 aX,int u64 bE,int u64 bG] (0+Int.toNat n*1) fun(v_1:Value)=>chk (ZaY u64 v&&ZaY u64 v_1) (Zac n 7∧bif Nat.beq p0cap
 1&&Nat.beq (p0o+Int.toNat n*1) 0 then[some (Box.mk b [int u64 bM,int u64 bH,int u64 bI,int u64 bJ,int u64 aX,int u64 bE,int u64 bG] 100 7 true true),some (Box.mk p0b [] p0T p0cap false true)]
 = [some (Box.mk b [int u64 bM,int u64 bH,int u64 bI,int u64 bJ,int u64 aX,int u64 bE,int u64 bG] 100 7 true true),some (Box.mk p0b [] p0T p0cap false true)]∧∃(n':Nat),n' < n_1∧I [int i64
 (IntKind.wrap i64 (n+(1:Int)))] [[int u64 (IntKind.wrap u64 (↑(BitVec.toNat (BitVec.ofInt 64 (RowKit.intOf v)|||BitVec.ofInt 64 (RowKit.intOf v_1))):Int))]] [] m'_1 n' else chk (Nat.ble (p0o+Int.toNat n*1 +
 1) (List.length cs)) ([some (Box.mk b [int u64 bM,int u64 bH,int u64 bI,int u64 bJ,int u64 aX,int u64 bE,int u64 bG] 100 7 true true),some (Box.mk p0b [] p0T p0cap false true)]=[some (Box.mk b
 [int u64 bM,int u64 bH,int u64 bI,int u64 bJ,int u64 aX,int u64 bE,int u64 bG] 100 7 true true),some (Box.mk p0b [] p0T p0cap false true)]∧∃(n':Nat),n' < n_1∧I [int i64 (IntKind.wrap i64 (n
 + (1:Int)))] [Zan cs (p0o+Int.toNat n*1) [int u64 (IntKind.wrap u64 (↑(BitVec.toNat (BitVec.ofInt 64 (RowKit.intOf v)|||BitVec.ofInt 64 (RowKit.intOf v_1))):Int))]] [] m'_1 n'))) (Box.mk p0b p0cs p0T p0cap
 false true=Box.mk p0b p0cs p0T p0cap false true∧∃(m'':Mem),Mem.le m m''∧Mem.le m'' m'_1∧R (Value.tuple (Array.mk [])) m'' [cs])
theorem Zi5(p0b p0o p0T p0cap:Nat)(p0cs:List Value)(bM bH bI bJ aX bE bG:Int)(m:Mem)(R:RT)(h:ZfG p0b p0o p0T p0cap p0cs bM bH bI bJ aX bE bG m R):CX Try.prog 141 #[.pointer (some ⟨p0b,p0o,none⟩),.agg #[.int .u64 bM,.int .u64 bH,.int .u64 bI,.int .u64 bJ,.int .u64 aX,.int .u64 bE,.int .u64 bG]] m [⟨p0b,p0cs,p0T,p0cap,false,true⟩] R:=
 Zaj (E:=ZkT) Zaw mix Try.func141 [.loc 100000 p0o,.v (.agg #[.int .u64 bM,.int .u64 bH,.int .u64 bI,.int .u64 bJ,.int .u64 aX,.int .u64 bE,.int .u64 bG])] [⟨p0b,p0cs,p0T,p0cap,false,true⟩] (by kernel_rfl) (Eq.mp (by kernel_rfl) h)
noncomputable def ZhX:Env:={ EB with
 loops:=(fun i=>bif Nat.beq i 2 then⟨[(5,.int .i64)],[],[],false⟩ else⟨[],[],[],false⟩)
 dr:=(fun i=>bif Nat.beq i 4 then[⟨0,[],[],none,[],[]⟩,⟨1,[],[],none,[],[]⟩,⟨2,[],[],none,[0],[]⟩,⟨3,[],[],none,[0,1,2],[]⟩,⟨4,[],[],none,[0,1,2,3],[]⟩,⟨5,[],[],none,[],[]⟩,⟨6,[3],[],none,[5],[]⟩,⟨7,[3],[],none,[5,6],[]⟩,⟨8,[],[],none,[0,1,2,3,4,5,6,7],[]⟩,⟨9,[],[],none,[0],[]⟩,⟨10,[],[],none,[0,1,2,3,4,5,6,7,8,9],[]⟩]else[])
 frzNew:=[3]
 thaw:=true
 stAt:=(fun i=>bif Nat.beq i 18 then some 999 else none)
 last:=(fun i=>bif Nat.beq i 4 then true else false)
 lastK:=(fun i=>bif Nat.beq i 4 then 1 else 1) }
def Zd2(p0b p0o:Nat)(bM bH bI bJ aX bE bG:Int)(t0a:Option Addr)(t0n t0c:Nat)(m:Mem)(Y:Nat→Prop)(R:RTY):Prop:=
 ∀(b:Nat)(m':Mem),Mem.le m m'→Mem.reads m' b 0 [int u64 bM,int u64 bH,int u64 bI,int u64 bJ,int u64 aX,int u64 bE,int u64 bG]→Mem.free m b→(∀(b' o:Nat)(u:Value),m' b' o=some u→
 m b' o=some u∨b'=b)→∃(I:IT),(∃(n:Nat),I [int i64 0] [] [] m' n)∧∀(n:Int)(m':Mem)(n_1:Nat),True→I [int i64 n] [] [] m' n_1→br (decide (n < (7:Int))) (Zac n 7∧∃(v:Value),m' p0b
 (p0o+Int.toNat n*1)=some v∧Zac n 7∧Eng.ZsM [int u64 bM,int u64 bH,int u64 bI,int u64 bJ,int u64 aX,int u64 bE,int u64 bG] (0+Int.toNat n*1) fun(v_1:Value)=>chk (ZaY u64 v &&
 ZaY u64 v_1) (Zac n 7∧(∃(vs:List Value),List.length vs=1∧Mem.reads m' p0b (p0o+Int.toNat n*1) vs)∧Mem.free (Mem.off m Y) p0b∧true=true∧b≠p0b∧[some (Box.mk b [int u64 bM,int u64 bH,
 int u64 bI,int u64 bJ,int u64 aX,int u64 bE,int u64 bG] 100 7 true true)]=[some (Box.mk b [int u64 bM,int u64 bH,int u64 bI,int u64 bJ,int u64 aX,int u64 bE,int u64 bG] 100 7 true
 true)]∧[some (Tok.mk (slice t0a t0n t0c) 7)]=[some (Tok.mk (slice t0a t0n t0c) 7)]∧∃(n':Nat),n' < n_1∧I [int i64 (IntKind.wrap i64 (n+(1:Int)))] [] [] (Mem.upd m' p0b (p0o+Int.toNat n*1) [int u64
 (IntKind.wrap u64 (↑(BitVec.toNat (BitVec.ofInt 64 (RowKit.intOf v)|||BitVec.ofInt 64 (RowKit.intOf v_1))):Int))]) n')) (R (Value.tuple (Array.mk [])) m' [] [slice t0a t0n t0c])
theorem Zgb(p0b p0o:Nat)(bM bH bI bJ aX bE bG:Int)(t0a:Option Addr)(t0n t0c:Nat)(m:Mem)(Y:Nat→Prop)(R:RTY)(h:Zd2 p0b p0o bM bH bI bJ aX bE bG t0a t0n t0c m Y R):CXY Try.prog 141 #[.pointer (some ⟨p0b,p0o,none⟩),.agg #[.int .u64 bM,.int .u64 bH,.int .u64 bI,.int .u64 bJ,.int .u64 aX,.int .u64 bE,.int .u64 bG]] m Y [] [⟨.slice t0a t0n t0c,7⟩] R:=
 ZaL (E:=ZhX) Zaw mix Try.func141 [.v (.pointer (some ⟨p0b,p0o,none⟩)),.v (.agg #[.int .u64 bM,.int .u64 bH,.int .u64 bI,.int .u64 bJ,.int .u64 aX,.int .u64 bE,.int .u64 bG])] [] [900] [⟨.slice t0a t0n t0c,7⟩] (by decide) (by kernel_rfl) (Eq.mp (by kernel_rfl) h)
noncomputable def Zg2:Env:={ EB with
 loops:=(fun i=>bif Nat.beq i 1 then⟨[(4,.int .i64)],[],[],true⟩ else⟨[],[],[],false⟩) }
def ZdA(p0g:Nat)(p0fi p0ca:List Value)(c0b c0o:Nat)(m:Mem)(xs:List (List Value)):Prop:=
 ∀(l:Nat),∃(I:IT),(∃(n:Nat),I [int i64 0,int i64 0] [] [] m n)∧∀(y n:Int)(m':Mem)(n_1:Nat),Mem.le m m'→I [int i64 y,int i64 n] [] [] m' n_1→br (decide (n < (448:Int))) (∃(v:Value),m'
 c0b c0o=some v∧∃(R:RT),True∧CX Try.prog 115 (Array.mk [v,int i64 n]) m' [] R∧ZaA Shape.bool R∧∀(b:Bool)(m'_1:Mem),Mem.le m' m'_1→R (Value.bool b) m'_1 []→br b ((l=l∧(0:Int)≤y∧
 List.get?Internal xs (Int.toNat y)=some [int i64 n])∧(∃(n':Nat),n' < n_1∧I [int i64 (y+(1:Int)),int i64 (IntKind.wrap i64 (n+(1:Int)))] [] [] m'_1 n')∧((-1:Int)=(↑(List.length xs):Int)∨(-1:
 Int)=(-1:Int))) (∃(n':Nat),n' < n_1∧I [int i64 y,int i64 (IntKind.wrap i64 (n+(1:Int)))] [] [] m'_1 n')) (y=(↑(List.length xs):Int)∨y=(-1:Int))
theorem Zgc(p0g:Nat)(p0fi p0ca:List Value)(c0b c0o:Nat)(m:Mem)(xs:List (List Value))(h:ZdA p0g p0fi p0ca c0b c0o m xs):IX Try.prog 145 [] [.pointer (some ⟨c0b,c0o,none⟩)] m xs:=
 ZnZ (E:=Zg2) Zaw mix Try.func145 [] [.pointer (some ⟨c0b,c0o,none⟩)] xs (by kernel_rfl) (Eq.mp (by kernel_rfl) h)
noncomputable def Zi6:Env:={ EB with
 frzNew:=[1] }
def ZeT(p0b p0o:Nat)(m:Mem)(R:RT):Prop:=
 ∀(b:Nat)(m':Mem),Mem.le m m'→Mem.reads m' b 0 [Value.pointer (some (Addr.mk p0b p0o none))]→∃(m'':Mem),Mem.le m m''∧Mem.le m'' m'∧R (Value.func (Fn.func 145) (Array.mk []) (Array.mk [Value.pointer
 (some (Addr.mk b 0 none))])) m'' []
theorem ZhY(p0b p0o:Nat)(m:Mem)(R:RT)(h:ZeT p0b p0o m R):CX Try.prog 111 #[.pointer (some ⟨p0b,p0o,none⟩)] m [] R:=
 Zaj (E:=Zi6) Zaw mix Try.func111 [.v (.pointer (some ⟨p0b,p0o,none⟩))] [] (by kernel_rfl) (Eq.mp (by kernel_rfl) h)
noncomputable def Zcr:Env:={ EB with
 loops:=(fun i=>bif Nat.beq i 3 then⟨[(7,.int .i64)],[2],[(11,1)],false⟩ else⟨[],[],[],false⟩)
 tokOf:=(fun i=>bif Nat.beq i 4 then 11 else bif Nat.beq i 11 then 11 else 0) }
def Zbr(p0a:Option Addr)(p0n p0c p1g:Nat)(p1fi p1ca:List Value)(m:Mem)(R:RT):Prop:=
 ∀(b:Nat),∃(xs:List (List Value)),IX Try.prog p1g p1fi p1ca m xs∧(∀(x:List Value),x∈xs→Shape.fitsL [Shape.int i64] x=true)∧∃(I:IT),I [] [[slice p0a p0n p0c]] [slice none 0 0] m 0∧(∀(n:Int)
 (cs:List Value) (a:Option Addr) (n_1 c:Nat) (m':Mem) (n_2:Nat),Mem.le m m'→List.get?Internal xs n_2=some [int i64 n]→I [] [cs] [slice a n_1 c] m' n_2→Eng.ZsM cs 0 fun(v:Value)=>∀(b_1:Nat),
 Mem.free m' b_1→chk (Zc8 v&&true) ((Tok.mk (slice a n_1 c) 1=Tok.mk v 1∨v=slice none 0 0∨slC v < slN v+1)∧∃(xs:List Value),∃(ys:List Value),List.length xs=slN v*1∧List.length ys=1*1∧
 rowRd (Mem.add m' b_1 [int i64 n]) (slA v) xs∧rowRd (Mem.add m' b_1 [int i64 n]) (some (Addr.mk b_1 0 none)) ys∧(∀(u:Value),u∈ys→Value.oneCell' u=true)∧(slN v+1)*8≤140737488355328∧slN v+1 ≤
 9223372036854775807∧∀(a':Option Addr)(c':Nat)(m'_1:Mem),Mem.le (Mem.add m' b_1 [int i64 n]) m'_1→rowRd m'_1 a' (List.append xs ys)→[some (Box.mk b [] 24 1 false true)]=[some (Box.mk b [] 24 1 false
 true)]∧I [] [[slice a' (slN v+1) c']] [slice a' (slN v+1) c'] m'_1 (n_2+1)))∧∀(cs:List Value)(a:Option Addr)(n c:Nat)(m':Mem),Mem.le m m'→I [] [cs] [slice a n c] m' (List.length xs)→Eng.ZsM
 cs 0 fun(v:Value)=>some (Tok.mk (slice a n c) 1)=some (Tok.mk v 1)∧R v m' []
theorem Zb9(p0a:Option Addr)(p0n p0c p1g:Nat)(p1fi p1ca:List Value)(m:Mem)(R:RT)(h:Zbr p0a p0n p0c p1g p1fi p1ca m R):CXT Try.prog 144 #[.slice p0a p0n p0c,.func (.func p1g) p1fi.toArray p1ca.toArray] m 1 R:=
 ZfX (E:=Zcr) Zaw mix Try.func144 [.v (.slice p0a p0n p0c),.v (.func (.func p1g) p1fi.toArray p1ca.toArray)] (by kernel_rfl) (Eq.mp (by kernel_rfl) h)
noncomputable def Zd7:Env:=EB
def Zci(p0g:Nat)(p0fi p0ca:List Value)(m:Mem)(R:RT):Prop:=
 ∃(R_1:RT),True∧CX Try.prog 144 (Array.mk [slice none 0 0,Value.func (Fn.func p0g) (Array.mk p0fi) (Array.mk p0ca)]) m [] R_1∧ZaA Shape.slice R_1∧∀(a:Option Addr)(n c:Nat)(m':Mem),Mem.le m m'→R_1
 (slice a n c) m' []→∃(m'':Mem),Mem.le m m''∧Mem.le m'' m'∧R (slice a n c) m'' []
theorem ZdR(p0g:Nat)(p0fi p0ca:List Value)(m:Mem)(R:RT)(h:Zci p0g p0fi p0ca m R):CX Try.prog 110 #[.func (.func p0g) p0fi.toArray p0ca.toArray] m [] R:=
 Zaj (E:=Zd7) Zaw mix Try.func110 [.v (.func (.func p0g) p0fi.toArray p0ca.toArray)] [] (by kernel_rfl) (Eq.mp (by kernel_rfl) h)
noncomputable def ZhZ:Env:=EB
def Zd3(p0b p0o:Nat)(m:Mem)(R:RT):Prop:=
 ∃(R_1:RT),True∧CX Try.prog 111 (Array.mk [Value.pointer (some (Addr.mk p0b p0o none))]) m [] R_1∧ZaA Shape.fn R_1∧∀(g:Nat)(fi ca:List Value)(m':Mem),Mem.le m m'→R_1 (Value.func (Fn.func g)
 (Array.mk fi) (Array.mk ca)) m' []→∃(R_2:RT),True∧CX Try.prog 110 (Array.mk [Value.func (Fn.func g) (Array.mk fi) (Array.mk ca)]) m' [] R_2∧ZaA Shape.slice R_2∧∀(a:Option Addr)(n c:Nat)(m'_1:Mem),
 Mem.le m' m'_1→R_2 (slice a n c) m'_1 []→∃(m'':Mem),Mem.le m m''∧Mem.le m'' m'_1∧R (slice a n c) m'' []
theorem Zg3(p0b p0o:Nat)(m:Mem)(R:RT)(h:Zd3 p0b p0o m R):CX Try.prog 62 #[.pointer (some ⟨p0b,p0o,none⟩)] m [] R:=
 Zaj (E:=ZhZ) Zaw mix Try.func62 [.v (.pointer (some ⟨p0b,p0o,none⟩))] [] (by kernel_rfl) (Eq.mp (by kernel_rfl) h)
noncomputable def Zse:Env:={ EB with
 loops:=(fun i=>bif Nat.beq i 3 then⟨[(8,.int .i64)],[3],[],false⟩ else⟨[],[],[],false⟩) }
def ZlR(p0a:Option Addr)(p0n p0c:Nat)(m:Mem)(R:RT):Prop:=
 ∀(b b_1:Nat),∃(I:IT),(∃(n:Nat),I [int i64 0] [[int u64 0,int u64 0,int u64 0,int u64 0,int u64 0,int u64 0,int u64 0]] [] m n)∧∀(n:Int)(cs:List Value)(m':Mem)(n_1:Nat),Mem.le m m'→I
 [int i64 n] [cs] [] m' n_1→br (decide (n < (↑p0n:Int))) (∃(b_2:Nat),∃(o:Nat),p0a=some (Addr.mk b_2 o none)∧Zac n p0n∧∃(v:Value),m' b_2 (o+Int.toNat n*1)=some v∧∃(R:RT),True∧CX
 Try.prog 116 (Array.mk [Value.pointer (some (Addr.mk b_1 0 none)),v]) m' [Box.mk b_1 cs 100 7 false true] R∧ZaA (Shape.tup []) R∧∀(m'_1:Mem),Mem.le m' m'_1→∀(cs:List Value),R (Value.tuple (Array.mk []))
 m'_1 [cs]→[some (Box.mk b_1 [] 100 7 false true),some (Box.mk b [int u64 0,int u64 0,int u64 0,int u64 0,int u64 0,int u64 0,int u64 0] 100 7 false true)]=[some (Box.mk b_1 [] 100 7 false true),some (Box.mk
 b [int u64 0,int u64 0,int u64 0,int u64 0,int u64 0,int u64 0,int u64 0] 100 7 false true)]∧∃(n':Nat),n' < n_1∧I [int i64 (IntKind.wrap i64 (n+(1:Int)))] [cs] [] m'_1 n') (chk (Nat.beq (List.length
 cs) 7&&Zcu cs) (∃(m'':Mem),Mem.le m m''∧Mem.le m'' m'∧R (agg (Array.mk cs)) m'' []))
theorem ZpO(p0a:Option Addr)(p0n p0c:Nat)(m:Mem)(R:RT)(h:ZlR p0a p0n p0c m R):CX Try.prog 112 #[.slice p0a p0n p0c] m [] R:=
 Zaj (E:=Zse) Zaw mix Try.func112 [.v (.slice p0a p0n p0c)] [] (by kernel_rfl) (Eq.mp (by kernel_rfl) h)
end Go.Proofs.Ytplacemlpkhmfaa
set_option linter.unusedVariables false
set_option linter.unusedSimpArgs false
namespace Go.Proofs.Ytplacemlpkhmfaa
open Go Go.Eng Go.Rx Go.Proofs Go.RowKit
set_option maxRecDepth 100000
theorem Zw1(i:Nat):Int.tdiv (i:Int) 64=((i / 64:Nat):Int):=rfl
theorem Zvl(i:Nat):Int.tmod (i:Int) 64=((i % 64:Nat):Int):=rfl
theorem Ztb(f i:Nat)(h:i < 448)(b o:Nat)(m:Mem)(hb:m.reads b o (bwL f)):CX Try.prog 115 #[.pointer (some ⟨b,o,none⟩),.int .i64 i] m [] (Ret (.bool (f.testBit i))):=by
 apply ZhW
 unfold ZeS
 have hq:IntKind.i64.wrap (Int.tdiv (i:Int) 64)=((i / 64:Nat):Int):=by rw[Zw1];exact Zat (by omega) (by omega)
 simp only[hq,Int.toNat_natCast,Nat.mul_one]
 have gG:(wdN f (i / 64)).testBit (i % 64)=f.testBit i:=by
  rw[ZlG,show 64*(i / 64)+i % 64=i by omega];simp;omega
 refine⟨by omega,⟨by omega,by omega⟩,_,hb (i / 64) _ (ZhD (by omega)),by omega,Zaa rfl ⟨by rw[Zvl];omega,Zag (Mem.le_refl _) ?_⟩⟩
 rw[Zvl,Int.toNat_natCast,Nat.min_eq_left (by omega)]
 show Value.bool (IntKind.u64.wrap _ == 1)=_
 simp only[intOf]
 rw[ZmY _ _ (ZiW _ _),gG]
theorem Zt2{i:Nat}:IntKind.u64.wrap (1*2 ^ min (Int.toNat (Int.tmod (i:Int) 64)) 64)=((2 ^ (i % 64):Nat):Int):=by
 rw[Zvl,Int.toNat_natCast,Nat.min_eq_left (by omega),Int.one_mul]
 have:=Zs2 (2 ^ (i % 64)) (by
  have:2 ^ (i % 64) < 2 ^ 64:=Nat.pow_lt_pow_right (by omega) (by omega)
  exact this)
 rw[←this];push_cast;rfl
theorem ZjQ(f i:Nat)(h:i < 448)(b T cap:Nat)(A B:List Value)(m:Mem)(ge:1 < cap):CX Try.prog 116 #[.pointer (some ⟨b,A.length,none⟩),.int .i64 i] m [⟨b,A++bwL f++B,T,cap,false,true⟩]
  (fun v _ css=>v=.tuple #[]∧css=[A++bwL (f|||2 ^ i)++B]):=by
 apply ZhV
 unfold ZeR
 have hq:IntKind.i64.wrap (Int.tdiv (i:Int) 64)=((i / 64:Nat):Int):=by rw[Zw1];exact Zat (by omega) (by omega)
 simp only[hq,Zt2,Int.toNat_natCast,Nat.mul_one]
 have hc:Nat.beq cap 1=false:=Zar (by omega)
 simp only[hc,Bool.false_and,cond_false]
 have bK:2 ^ (i % 64) < 18446744073709551616:=by
  have:2 ^ (i % 64) < 2 ^ 64:=Nat.pow_lt_pow_right (by omega) (by omega)
  exact this
 refine⟨by omega,⟨by omega,by omega⟩,Zas (Zn2 (ZhD (by omega))) ⟨by omega,by rw[Zvl];omega,Zaa rfl ⟨⟨by omega,by omega⟩,Zaa (by rw[Nat.ble_eq];simp[Zn1];omega) ⟨by trivial,m,Mem.le_refl _,Mem.le_refl _,by trivial,?_⟩⟩⟩⟩
 simp only[intOf]
 rw[ZmX _ _ (ZiW _ _) bK,Ziv (by rw[Zn1];omega),Zwr (by omega) (by omega),show 64*(i / 64)+i % 64=i by omega]
theorem Zow(f g:Nat)(b T cap:Nat)(A B:List Value)(m:Mem)(ge:1 < cap):CX Try.prog 141 #[.pointer (some ⟨b,A.length,none⟩),bwV g] m [⟨b,A++bwL f++B,T,cap,false,true⟩]
  (fun v _ css=>v=.tuple #[]∧css=[A++bwL (f|||g)++B]):=by
 apply Zi5
 unfold ZfG
 intro b1 m1 aZ _
 have hc:Nat.beq cap 1=false:=Zar (by omega)
 refine⟨fun xs css _ m' q=>∃k:Nat,k≤7∧xs=[.int .i64 k]∧css=[A++orB f g k++B]∧q=7 - k,⟨7,0,by omega,rfl,rfl,rfl⟩,?_⟩
 rintro n cs m2 q bO ⟨k,hk,hn,bT,hq⟩
 obtain rfl:n=k:=by simpa using hn
 obtain rfl:cs=A++orB f g k++B:=by simpa using bT
 refine Zab (fun bK=>?_) (fun cL=>?_)
 ·have aY:k < 7:=by have:=of_decide_eq_true bK;omega
  have h1:=Zs3 (f:=f) (g:=g) (k:=k) aY
  rw[if_neg (by omega)]at h1
  have h2:=ZhD (f:=g) aY
  simp only[Int.toNat_natCast,Nat.zero_add,Nat.mul_one,hc,Bool.false_and,cond_false]
  refine⟨⟨by omega,by omega⟩,Zas (Zn2 h1) ⟨⟨by omega,by omega⟩,Zas h2 (Zaa rfl ⟨⟨by omega,by omega⟩,Zaa (by rw[Nat.ble_eq];simp[Zn0];omega) ⟨by trivial,7 - (k+1),by omega,k+1,by omega,?_,?_,rfl⟩⟩)⟩⟩
  ·rw[Zat (by omega) (by omega)];rfl
  ·simp only[intOf]
   rw[ZmX _ _ (ZiW _ _) (ZiW _ _),Ziv (by rw[Zn0];omega),ZqF aY]
 ·have:k=7:=by have:=of_decide_eq_false cL;omega
  subst this
  exact⟨rfl,m,Mem.le_refl _,Mem.le_trans aZ bO,rfl,rfl⟩
theorem ZqZ(f:Nat)(b o c:Nat)(m:Mem)(hb:m.reads b o (bwL f))(hc:m.reads c 0 [.pointer (some ⟨b,o,none⟩)]):IX Try.prog 145 [] [.pointer (some ⟨c,0,none⟩)] m ((Zcp f).map fun i=>[.int .i64 (i:Nat)]):=by
 apply Zgc 0 [] [] c 0
 unfold ZdA
 intro l
 refine⟨fun xs _ _ m' q=>∃k:Nat,k≤448∧xs=[.int .i64 (((List.range k).filter fun i=>f.testBit i).length:Nat),.int .i64 k]∧m.le m'∧q=448 - k,⟨448,0,by omega,rfl,Mem.le_refl _,rfl⟩,?_⟩
 rintro y n m1 q aZ ⟨k,hk,ib,_,hq⟩
 simp only[List.cons.injEq,Value.int.injEq,true_and,and_true]at ib
 obtain⟨rfl,rfl⟩:=ib
 have eV:((List.range (k+1)).filter fun i=>f.testBit i).length=((List.range k).filter fun i=>f.testBit i).length+(if f.testBit k then 1 else 0):=by
  rw[List.range_succ,List.filter_append,List.length_append];simp[List.filter_cons];split <;> simp
 refine Zab (fun bK=>?_) (fun cL=>?_)
 ·have aY:k < 448:=by have:=of_decide_eq_true bK;omega
  refine⟨_,aZ _ _ _ (hc 0 _ rfl),Zah (Ztb f k (by omega) b o m1 (hb.mono aZ)) fun m2 bO=>Zab (fun h=>?_) (fun h=>?_)⟩
  ·refine⟨⟨rfl,by omega,?_⟩,⟨448 - (k+1),by omega,k+1,by omega,?_,Mem.le_trans aZ bO,rfl⟩,.inr rfl⟩
   ·rw[Int.toNat_natCast]
    show((Zcp f).map fun i=>[Value.int .i64 (i:Nat)])[((List.range k).filter fun i=>f.testBit i).length]?=_
    rw[List.getElem?_map,ZtO f k aY h];rfl
   ·rw[eV,if_pos h,Zat (by omega) (by omega)];rfl
  ·refine⟨448 - (k+1),by omega,k+1,by omega,?_,Mem.le_trans aZ bO,rfl⟩
   rw[eV,if_neg (by simp[h]),Zat (by omega) (by omega)];rfl
 ·have:k=448:=by have:=of_decide_eq_false cL;omega
  subst this
  left
  simp[Zcp]
theorem Ztc(b o:Nat)(m:Mem):CX Try.prog 111 #[.pointer (some ⟨b,o,none⟩)] m [] (fun v m' _=>∃c,v=.func (.func 145) #[] #[.pointer (some ⟨c,0,none⟩)]∧m'.reads c 0 [.pointer (some ⟨b,o,none⟩)]):=by
 apply ZhY
 unfold ZeT
 intro c m1 aZ hc
 exact⟨m1,aZ,Mem.le_refl _,c,rfl,hc⟩
def ZaT(l:List Nat):List Value:=l.map fun i=>.int .i64 (i:Nat)
theorem Zcj(l:List Nat):(ZaT l).length=l.length:=by simp[ZaT]
def SlN(l:List Nat)(v:Value)(m':Mem):Prop:=∃a c,v=.slice a l.length c∧rowRd m' a (ZaT l)∧(l=[]→a=none)
theorem ZpP(l:List Nat)(g:Nat)(ca:List Value)(m:Mem)(hl:l.length≤1000)(sA:IX Try.prog g [] ca m (l.map fun i=>[.int .i64 (i:Nat)])):CXT Try.prog 144 #[.slice none 0 0,.func (.func g) #[] ca.toArray] m 1 (fun v m' _=>SlN l v m'):=by
 apply Zb9 none 0 0 g [] ca
 unfold Zbr
 intro b
 refine⟨l.map fun i=>[.int .i64 (i:Nat)],sA,fun x hx=>?_,fun xs css tvs m' q=>∃(a:Option Addr)(c:Nat),q≤l.length∧css=[[.slice a q c]]∧tvs=[.slice a q c]∧m.le m'∧rowRd m' a (ZaT (l.take q))∧(q=0→a=none),⟨none,0,Nat.zero_le _,rfl,rfl,Mem.le_refl _,.inl rfl,fun _=>rfl⟩,?_,?_⟩
 ·obtain⟨i,_,rfl⟩:=List.mem_map.1 hx
  rfl
 ·rintro n cs a n1 c m1 q aZ hq ⟨a',c',sB,bT,dC,_,cO,fV⟩
  obtain rfl:cs=[.slice a' q c']:=by simpa using bT
  obtain⟨rfl,rfl,rfl⟩:a=a'∧n1=q∧c=c':=by simpa using dC
  have hq':l[n1]?.map (fun i=>[Value.int .i64 (i:Nat)])=some [.int .i64 n]:=by rw[←List.getElem?_map];exact hq
  cases qK:l[n1]? with
  | none=>rw[qK]at hq';cases hq'
  | some i=>
   rw[qK]at hq'
   obtain rfl:(i:Int)=n:=by simpa using hq'
   have bK:=(List.getElem?_eq_some_iff.1 qK).1
   refine Zas (v:=.slice a n1 c) rfl fun b1 eL=>Zaa rfl ⟨.inl rfl,ZaT (l.take n1),[.int .i64 (i:Nat)],?_,rfl,cO.mono (Mem.le_add eL _),.inr ⟨b1,0,rfl,fun j v hv=>by rw[Mem.add_same];simpa using hv⟩,by simp[Value.oneCell'],?_,?_,fun a2 c2 m2 bO gJ=>⟨rfl,a2,c2,bK,?_,?_,Mem.le_trans aZ (Mem.le_trans (Mem.le_add eL _) bO),?_,fun h=>by omega⟩⟩
   ·simp only[Zcj,List.length_take,slN];omega
   ·show(n1+1)*8≤_;omega
   ·show n1+1≤_;omega
   ·rfl
   ·rfl
   ·have e:ZaT (l.take (n1+1))=ZaT (l.take n1)++[.int .i64 (i:Nat)]:=by
     rw[List.take_add_one,qK];simp[ZaT]
    rw[e];exact gJ
 ·rintro cs a n1 c m1 aZ ⟨a',c',sB,bT,dC,_,cO,fV⟩
  obtain rfl:cs=[.slice a' (l.map fun i=>[Value.int .i64 (i:Nat)]).length c']:=by simpa using bT
  obtain⟨rfl,rfl,rfl⟩:a=a'∧n1=(l.map fun i=>[Value.int .i64 (i:Nat)]).length∧c=c':=by simpa using dC
  refine Zas (v:=.slice a (l.map fun i=>[Value.int .i64 (i:Nat)]).length c) rfl ⟨rfl,a,c,by simp,by simpa using cO,fun h=>fV (by simp[h])⟩
def NewS(m:Mem)(v:Value):Prop:=∀b o,slA v=some ⟨b,o,none⟩→m.free b
theorem Zm6{m m':Mem}{esz:Nat}{v:Value}(h:Zu6 m m' esz v):NewS m v:=fun b' o' e'=>by
 rcases h with e|⟨b,o,n,c2,e,ic,hf,hq⟩
 ·rw[e]at e';simp[slA]at e'
 ·rw[e]at e';simp[slA]at e';exact e'.1 ▸ hf
theorem NewS.less{m m0:Mem}{v:Value}(h:NewS m v)(k:m0.le m):NewS m0 v:=fun b o e x=>by
 cases he:m0 b x with
 | none=>rfl
 | some u=>have:=k _ _ _ he;rw[h b o e x]at this;cases this
theorem SlN.mono{l:List Nat}{v:Value}{m m':Mem}(h:SlN l v m)(k:m.le m'):SlN l v m':=by
 obtain⟨a,c,e,h1,h2⟩:=h
 exact⟨a,c,e,h1.mono k,h2⟩
theorem Zox(l:List Nat)(g:Nat)(ca:List Value)(m:Mem)(hl:l.length≤1000)(sA:IX Try.prog g [] ca m (l.map fun i=>[.int .i64 (i:Nat)])):CX Try.prog 110 #[.func (.func g) #[] ca.toArray] m [] (fun v m' _=>SlN l v m'∧NewS m v):=by
 apply ZdR g [] ca
 unfold Zci
 refine Zaq ((ZpP l g ca m hl sA).room.mono (R':=fun v m' _=>SlN l v m'∧NewS m v) fun v m' css cP ⟨m1,h0,h1,hS,hr⟩=>⟨hS.mono h1,Zm6 hr⟩) (fun v m' _ h=>by obtain⟨⟨a,c,rfl,_⟩,_⟩:=h;rfl) fun a n c m1 aZ h=>⟨m1,aZ,Mem.le_refl _,h⟩
theorem Zoy(f:Nat)(b o:Nat)(m:Mem)(hb:m.reads b o (bwL f)):CX Try.prog 62 #[.pointer (some ⟨b,o,none⟩)] m [] (fun v m' _=>SlN (Zcp f) v m'∧NewS m v):=by
 apply Zg3
 unfold Zd3
 refine Zaq (Ztc b o m) (fun v m' _ h=>by obtain⟨c,rfl,_⟩:=h;rfl) fun g fi ca m1 aZ h=>?_
 obtain⟨c,hv,hc⟩:=h
 simp only[Value.func.injEq,Fn.func.injEq,Array.mk.injEq]at hv
 obtain⟨rfl,rfl,rfl⟩:=hv
 exact Zaq (Zox (Zcp f) _ _ m1 (Nat.le_trans (Zn3 f) (by omega)) (ZqZ f b o c m1 (hb.mono aZ) hc)) (fun v m' _ h=>by obtain⟨⟨a,c,rfl,_⟩,_⟩:=h;rfl) fun a n c m2 bO h=>⟨m2,Mem.le_trans aZ bO,Mem.le_refl _,h.1,h.2.less aZ⟩
theorem Zt3(f:Nat)(b o:Nat)(m:Mem)(hb:m.reads b o (bwL f)):CX Try.prog 62 #[.pointer (some ⟨b,o,none⟩)] m [] (fun v m' _=>SlN (Zcp f) v m'):=(Zoy f b o m hb).mono fun _ _ _ _ h=>h.1
end Go.Proofs.Ytplacemlpkhmfaa
set_option linter.unusedVariables false
namespace Go.Proofs.Ytplacemlpkhmfaa
open Go Go.Eng Go.Proofs Go.RowKit
open Go.Value (int slice agg)
open Go.IntKind (u8 u64 i64)
set_option maxRecDepth 100000
noncomputable def ZpQ:Env:={ EB with
 frzNew:=[2] }
def ZjR(aS aT aU aV p1:Int)(m:Mem)(R:RT):Prop:=
 ∀(b:Nat)(m':Mem),Mem.le m m'→Mem.reads m' b 0 [int u64 aS,int u64 aT,int u64 aU,int u64 aV]→(0:Int)≤(6:Int)∧Zac (Int.fdiv p1 ((2:Int) ^ 6)) 4∧Eng.ZsM [int u64 aS,int u64 aT,
 int u64 aU,int u64 aV] (0+Int.toNat (Int.fdiv p1 ((2:Int) ^ 6))*1) fun(v:Value)=>chk (ZaY u64 v&&true) ((0:Int)≤IntKind.wrap u8 (↑(BitVec.toNat (BitVec.ofInt 8 p1&&&BitVec.ofInt 8 (63:Int)))
 : Int)∧∃(m'':Mem),Mem.le m m''∧Mem.le m'' m'∧R (Value.bool (IntKind.wrap u64 (↑(BitVec.toNat (BitVec.ofInt 64 (Int.fdiv (RowKit.intOf v) ((2:Int) ^ min (Int.toNat (IntKind.wrap u8 (↑(BitVec.toNat
 (BitVec.ofInt 8 p1&&&BitVec.ofInt 8 (63:Int))):Int))) 64))&&&BitVec.ofInt 64 (1:Int))):Int) == (1:Int))) m'' [])
theorem Zoz(aS aT aU aV p1:Int)(m:Mem)(R:RT)(h:ZjR aS aT aU aV p1 m R):CX Try.prog 117 #[.agg #[.int .u64 aS,.int .u64 aT,.int .u64 aU,.int .u64 aV],.int .u8 p1] m [] R:=
 Zaj (E:=ZpQ) Zaw mix Try.func117 [.v (.agg #[.int .u64 aS,.int .u64 aT,.int .u64 aU,.int .u64 aV]),.v (.int .u8 p1)] [] (by kernel_rfl) (Eq.mp (by kernel_rfl) h)
noncomputable def Zdp:Env:={ EB with
 loops:=(fun i=>bif Nat.beq i 4 then⟨[(13,.int .i64)],[],[],false⟩ else⟨[],[],[],false⟩)
 dr:=(fun i=>bif Nat.beq i 6 then[⟨0,[],[],none,[],[]⟩,⟨1,[],[],none,[],[]⟩,⟨2,[],[],none,[0,1],[]⟩,⟨3,[],[],none,[0,1,2],[]⟩,⟨4,[],[],none,[],[]⟩,⟨5,[],[],none,[],[]⟩,⟨6,[],[],none,[4,5],[]⟩,⟨7,[],[],none,[4,5,6],[]⟩,⟨8,[],[],none,[0,1,2,3,4,5,6,7],[]⟩]else[]) }
def Zb1(p0a:Option Addr)(p0n p0c:Nat)(p1a:Option Addr)(p1n p1c:Nat)(m:Mem)(R:RT):Prop:=
 br (!(↑p0n:Int) == (↑p1n:Int)) (∃(m'':Mem),Mem.le m m''∧Mem.le m'' m∧R (Value.bool false) m'' []) (∃(I:IT),(∃(n:Nat),I [int i64 0] [] [] m n)∧∀(n:Int)(m':Mem)(n_1:Nat),Mem.le m m'→I
 [int i64 n] [] [] m' n_1→br (decide (n < (↑p0n:Int))) (∃(b:Nat),∃(o:Nat),p0a=some (Addr.mk b o none)∧Zac n p0n∧∃(v:Value),m' b (o+Int.toNat n*1)=some v∧∃(b:Nat),∃(o:Nat),p1a =
 some (Addr.mk b o none)∧Zac n p1n∧∃(v_1:Value),m' b (o+Int.toNat n*1)=some v_1∧chk (ZaY i64 v&&ZaY i64 v_1) (br (!RowKit.intOf v == RowKit.intOf v_1) (∃(m'':Mem),Mem.le m m''∧Mem.le m''
 m'∧R (Value.bool false) m'' []) (∃(n':Nat),n' < n_1∧I [int i64 (IntKind.wrap i64 (n+(1:Int)))] [] [] m' n'))) (∃(m'':Mem),Mem.le m m''∧Mem.le m'' m'∧R (Value.bool true) m'' []))
theorem Zdk(p0a:Option Addr)(p0n p0c:Nat)(p1a:Option Addr)(p1n p1c:Nat)(m:Mem)(R:RT)(h:Zb1 p0a p0n p0c p1a p1n p1c m R):CX Try.prog 23 #[.slice p0a p0n p0c,.slice p1a p1n p1c] m [] R:=
 Zaj (E:=Zdp) Zaw mix Try.func23 [.v (.slice p0a p0n p0c),.v (.slice p1a p1n p1c)] [] (by kernel_rfl) (Eq.mp (by kernel_rfl) h)
end Go.Proofs.Ytplacemlpkhmfaa
set_option linter.unusedVariables false
set_option linter.unusedSimpArgs false
namespace Go.Proofs.Ytplacemlpkhmfaa
open Go Go.Eng Go.Proofs Go.RowKit
theorem Zh0{P:Program}{T:TypeId}(hg:P.eqGuardType P.depth T=false)(op:BinOp)(ox oy:Operand)(xs ys:Array Value)(w:World):(eqGuard op T ox oy (.agg xs) (.agg ys)).run P w=.ok () w:=by
 unfold eqGuard
 have h1:(P.eqGuardType P.depth T)=true→False:=fun h=>by rw[hg]at h;cases h
 split
 ·simp[go_sem];exact fun h=>(h1 h).elim
 ·simp[go_sem];exact fun h=>(h1 h).elim
 ·simp
theorem ZpR(a b c d a' b' c' d':Int):EqIs Try.prog 38 (.agg #[.int .u64 a,.int .u64 b,.int .u64 c,.int .u64 d]) (.agg #[.int .u64 a',.int .u64 b',.int .u64 c',.int .u64 d']) (a == a'&&b == b'&&c == c'&&d == d'):=by
 refine⟨fun w=>?_,fun op ox oy w=>Zh0 (by kernel_rfl) op ox oy _ _ w⟩
 have u3:=Try.underlying36
 have a3:=Try.isAgg36
 have z3:=Try.sizeOf36
 rw[Op.equal,Op.maxDepth,show(10000:Nat)=9999+1 from rfl,Op.equalIn]
 simp only[Sem.run_bind,run_underlying Try.underlying38,Result.andThen_ok]
 simp only[Std.Legacy.Range.forIn_eq_forIn_range',Std.Legacy.Range.size,Nat.sub_zero,Nat.add_sub_cancel,Nat.div_one,List.range'_succ,List.range'_zero,List.forIn_cons,List.forIn_nil]
 go_simp
 by_cases h1:a=a' <;> by_cases h2:b=b' <;> by_cases h3:c=c' <;> by_cases h4:d=d' <;> simp[h1,h2,h3,h4]
end Go.Proofs.Ytplacemlpkhmfaa
set_option linter.unusedVariables false
set_option linter.unusedSimpArgs false
namespace Go.Proofs.Ytplacemlpkhmfaa
open Go Go.Eng Go.Rx Go.Proofs Go.RowKit
set_option maxRecDepth 100000
theorem Zak{α:Type}{l:List α}{k:Nat}(h:k < l.length):∃x,l[k]?=some x:=⟨l[k],by simp[h]⟩
theorem Zcw{α:Type}{l:List α}{k:Nat}{x:α}(h:l[k]?=some x):l.drop k=x::l.drop (k+1):=by
 obtain⟨hk,he⟩:=List.getElem?_eq_some_iff.1 h
 rw[List.drop_eq_getElem_cons hk,he]
theorem Zh1(l:List Int)(lo hi:Int)(a:Option Addr)(c:Nat)(m:Mem)(h:rowRd m a (Zap l))(hl:l.length≤1000000)(ur : -10≤lo∧lo≤10):CX Try.prog 70 #[.slice a l.length c,.int .i64 lo,.int .i64 hi] m [] (Ret (.bool (ZbG l (lo - 1) hi))):=by
 apply ZkS
 unfold ZgP
 refine⟨fun xs _ _ m' q=>∃(k:Nat)(z:Int),k≤l.length∧xs=[.int .i64 z,.int .i64 k]∧ZbG (l.drop k) z hi=ZbG l (lo - 1) hi∧m.le m'∧q=l.length - k,⟨_,0,lo - 1,Nat.zero_le _,by rw[Zat (by omega) (by omega)];rfl,rfl,Mem.le_refl _,rfl⟩,?_⟩
 rintro z' k' m1 q aZ ⟨k,z,hk,hx,he,_,hq⟩
 simp only[List.cons.injEq,Value.int.injEq,true_and,and_true]at hx
 obtain⟨rfl,rfl⟩:=hx
 subst hq
 refine Zab (fun bK=>?_) (fun cL=>?_)
 ·have aY:k < l.length:=by have:=of_decide_eq_true bK;omega
  obtain⟨x,hx⟩:=Zak aY
  obtain⟨b,o,gn,cO⟩:=Za5 (h.mono aZ) hx
  rw[Zcw hx,ZbG]at he
  refine⟨b,o,gn,⟨by omega,by omega⟩,_,(by rw[Int.toNat_natCast];exact cO),!(decide (z' < x)&&decide (x≤hi)),Zaa rfl (Zab (fun h1=>?_) (fun h1=>Zaa rfl ?_)),Zab (fun h2=>Zag aZ ?_) (fun h2=>Zaa rfl ⟨_,by omega,k+1,x,aY,by rw[Zat (by omega) (by omega)];rfl,?_,aZ,rfl⟩)⟩
  ·have:¬z' < x:=by have:=of_decide_eq_true h1;simp only[intOf]at this;omega
   simp[this]
  ·have h1':z' < x:=by have:=of_decide_eq_false h1;simp only[intOf]at this;omega
   simp only[h1',decide_true,Bool.true_and,intOf]
   refine congrArg (fun z=>[Value.bool z]) ?_
   rw[Bool.eq_iff_iff];simp
  ·simp only[Bool.not_eq_true']at h2
   rw[←he]
   show Value.bool false=_
   congr 1
   rw[←Bool.and_assoc,h2,Bool.false_and]
  ·simp only[Bool.not_eq_false']at h2
   rw[←he,←Bool.and_assoc,h2,Bool.true_and]
 ·have:k=l.length:=by have:=of_decide_eq_false cL;omega
  subst this
  rw[List.drop_length,ZbG]at he
  refine Zag aZ ?_
  rw[←he]
theorem Zq0{α:Type}{l:List α}{p:α→Bool}{k:Nat}{x:α}(h:l[k]?=some x):(l.drop k).all p=(p x&&(l.drop (k+1)).all p):=by
 rw[Zcw h,List.all_cons]
theorem Ziz{st:Bool}(A:Nf)(v:Value)(m:Mem)(h:NfR st A v m):CX Try.prog 21 #[v] m [] (Ret (.bool A.right)):=by
 obtain⟨s,f,x,y,rfl,⟨sa,sc,rfl,hs,dK,iq⟩,⟨fa,fc,vs,rfl,hf,eR,f8,eF⟩,⟨xa,xc,rfl,hx,dU,fX⟩,⟨ya,yc,rfl,hy,dG,gj⟩⟩:=h
 apply Zmz
 unfold ZhU
 intro b m1 aZ _
 have hw:IntKind.i64.wrap ((A.sets.length:Int) - 1)=A.top:=Zat (by omega) (by omega)
 simp only[hw]
 refine⟨!(decide (A.sets.length≤400)&&(decide (A.fol.length=A.sets.length)&&(ZbG A.first (-1) A.top&&ZbG A.last (-1) A.top))),?_,?_⟩
 ·refine Zab (fun h1=>⟨by trivial,?_⟩) (fun h1=>Zab (fun h2=>⟨by trivial,?_⟩) (fun h2=>?_))
  ·have:¬A.sets.length≤400:=by have:=of_decide_eq_true h1;omega
   simp[this]
  ·have:¬A.fol.length=A.sets.length:=by
    simp only[Bool.not_eq_true',beq_eq_false_iff_ne,ne_eq]at h2;omega
   simp[this]
  ·have h1':A.sets.length≤400:=by have:=of_decide_eq_false h1;omega
   have h2':A.fol.length=A.sets.length:=by
    simp only[Bool.not_eq_false',beq_iff_eq]at h2;omega
   refine Zah (Zh1 A.first 0 A.top xa xc m1 (hx.mono aZ) dU ⟨by omega,by omega⟩) fun m2 bO=>Zab (fun h3=>⟨by trivial,?_⟩) (fun h3=>?_)
   ·have:ZbG A.first (-1) A.top=false:=by simpa using h3
    simp[this]
   ·have h3':ZbG A.first (-1) A.top=true:=by simpa using h3
    refine Zah (Zh1 A.last 0 A.top ya yc m2 ((hy.mono aZ).mono bO) dG ⟨by omega,by omega⟩) fun m3 bR=>⟨by trivial,?_⟩
    simp[h1',h2',h3']
 ·refine Zab (fun h1=>Zag aZ ?_) (fun h1=>?_)
  ·simp only[Bool.not_eq_true']at h1
   show Value.bool false=.bool A.right
   congr 1
   unfold Nf.right
   revert h1
   cases decide (A.sets.length≤400) <;> cases decide (A.fol.length=A.sets.length) <;> cases ZbG A.first (-1) A.top <;> cases ZbG A.last (-1) A.top <;> simp
  ·simp only[Bool.not_eq_false',Bool.and_eq_true,decide_eq_true_eq]at h1
   obtain⟨sC,py,sD,sE⟩:=h1
   have hA:A.right=(A.fol.zip A.sets).all fun p=>ZbG p.1 (-1) A.top&&!(p.2 == zQ):=by
    unfold Nf.right;simp[sC,py,sD,sE]
   have ie:(A.fol.zip A.sets).length=A.fol.length:=by simp[py]
   refine⟨fun xs _ _ m' q=>∃k:Nat,k≤A.fol.length∧xs=[.int .i64 k]∧((A.fol.zip A.sets).drop k).all (fun p=>ZbG p.1 (-1) A.top&&!(p.2 == zQ))=A.right∧m.le m'∧q=A.fol.length - k,⟨_,0,Nat.zero_le _,rfl,by rw[hA];rfl,aZ,rfl⟩,?_⟩
   rintro z m2 q bO ⟨k,hk,hz,he,_,hq⟩
   obtain rfl:z=k:=by simpa using hz
   subst hq
   have gv:=Mem.le_trans aZ bO
   refine Zab (fun bK=>?_) (fun cL=>?_)
   ·have aY:k < A.fol.length:=by have:=of_decide_eq_true bK;omega
    obtain⟨l,hl⟩:=Zak aY
    obtain⟨q4,lp⟩:=Zak (l:=A.sets) (k:=k) (by omega)
    obtain⟨u,hu⟩:=Zak (l:=vs) (k:=k) (by omega)
    obtain⟨la,lc,rfl,oE,eA,uH⟩:=(eF k u l hu hl).mono gv
    obtain⟨fb,fo,eU,dH⟩:=Za6 (hf.mono gv) hu
    have nb:(A.fol.zip A.sets)[k]?=some (l,q4):=List.getElem?_zip_eq_some.2 ⟨hl,lp⟩
    rw[Zq0 nb]at he
    refine⟨fb,fo,eU,⟨by omega,by omega⟩,_,(by rw[Int.toNat_natCast];exact dH),!(ZbG l (-1) A.top&&!(q4 == zQ)),?_,Zab (fun h2=>Zag gv ?_) (fun h2=>⟨by trivial,_,by omega,k+1,aY,by rw[Zat (by omega) (by omega)];rfl,?_,gv,rfl⟩)⟩
    ·refine Zah (Zh1 l 0 A.top la lc m2 oE eA ⟨by omega,by omega⟩) fun m3 bR=>Zab (fun h3=>⟨by trivial,?_⟩) (fun h3=>?_)
     ·have:ZbG l (-1) A.top=false:=by simpa using h3
      simp[this]
     ·have h3':ZbG l (-1) A.top=true:=by simpa using h3
      obtain⟨sb,so,iP,eI⟩:=ZgF (hs.mono gv) lp
      refine⟨sb,so,iP,⟨by omega,by omega⟩,_,_,_,_,(by rw[Int.toNat_natCast];exact eI.mono bR),_,ZpR _ _ _ _ _ _ _ _,by trivial,?_⟩
      simp only[h3',Bool.true_and,Bool.not_not]
      refine congrArg (fun z=>[Value.bool z]) ?_
      obtain⟨q0,q1,q2,q3⟩:=q4
      show _=((q0,q1,q2,q3) == ((0,0,0,0):QS))
      rw[Bool.eq_iff_iff]
      simp[and_assoc]
    ·simp only[Bool.not_eq_true']at h2
     rw[←he,h2];rfl
    ·simp only[Bool.not_eq_false']at h2
     rw[←he,h2,Bool.true_and]
   ·have:k=A.fol.length:=by have:=of_decide_eq_false cL;omega
    subst this
    refine Zag gv ?_
    rw[←he,←ie,List.drop_length];rfl
theorem ZoA{α:Type}{l r:List α}{k:Nat}{x y:α}(hx:l[k]?=some x)(hy:r[k]?=some y):l.drop k=r.drop k↔(x=y∧l.drop (k+1)=r.drop (k+1)):=by
 rw[Zcw hx,Zcw hy,List.cons.injEq]
theorem ZkU(l r:List Int)(a b:Option Addr)(c d:Nat)(m:Mem)(hl:rowRd m a (Zap l))(hr:rowRd m b (Zap r))(hn:l.length≤1000000):CX Try.prog 23 #[.slice a l.length c,.slice b r.length d] m [] (Ret (.bool (decide (l=r)))):=by
 apply Zdk
 unfold Zb1
 refine Zab (fun h=>Zag (Mem.le_refl _) ?_) (fun h=>?_)
 ·have:¬l=r:=fun e=>by subst e;simp at h
  simp[Ret,this]
 have bN:l.length=r.length:=by
  simp only[Bool.not_eq_false',beq_iff_eq]at h;omega
 refine⟨fun xs css _ m' q=>∃k:Nat,k≤l.length∧xs=[.int .i64 k]∧(l.drop k=r.drop k↔l=r)∧m.le m'∧q=l.length - k,⟨_,0,by omega,rfl,Iff.rfl,Mem.le_refl _,rfl⟩,?_⟩
 rintro z m1 q aZ ⟨k,hk,hz,he,_,hq⟩
 obtain rfl:z=k:=by simpa using hz
 subst hq
 refine Zab (fun bK=>?_) (fun cL=>?_)
 ·have aY:k < l.length:=by have:=of_decide_eq_true bK;omega
  obtain⟨x,hx⟩:=Zak aY
  obtain⟨y,hy⟩:=Zak (l:=r) (k:=k) (by omega)
  obtain⟨b1,o1,h1,h1'⟩:=Za5 (hl.mono aZ) hx
  obtain⟨b2,o2,h2,h2'⟩:=Za5 (hr.mono aZ) hy
  rw[ZoA hx hy]at he
  refine⟨b1,o1,h1,⟨by omega,by omega⟩,_,(by rw[Int.toNat_natCast];exact h1'),b2,o2,h2,⟨by omega,by omega⟩,_,(by rw[Int.toNat_natCast];exact h2'),Zaa rfl (Zab (fun h3=>Zag aZ ?_) (fun h3=>⟨_,by omega,k+1,aY,by rw[Zat (by omega) (by omega)];rfl,?_,aZ,rfl⟩))⟩
  ·have:¬x=y:=by simpa[intOf]using h3
   simp only[Ret];congr 1
   rw[eq_comm,decide_eq_false_iff_not,←he];exact fun h=>this h.1
  ·have:x=y:=by simpa[intOf]using h3
   rw[←he];simp[this]
 ·have:k=l.length:=by have:=of_decide_eq_false cL;omega
  subst this
  refine Zag aZ ?_
  simp only[Ret];congr 1
  rw[eq_comm,decide_eq_true_eq,←he,List.drop_length,bN,List.drop_length]
theorem Zww(l r:List QS)(a b:Option Addr)(c d:Nat)(m:Mem)(hl:rowRd m a (ZbC l))(hr:rowRd m b (ZbC r))(hn:l.length≤1000000):CX Try.prog 71 #[.slice a l.length c,.slice b r.length d] m [] (Ret (.bool (decide (l=r)))):=by
 apply ZbE
 unfold ZaV
 refine Zab (fun h=>Zag (Mem.le_refl _) ?_) (fun h=>?_)
 ·have:¬l=r:=fun e=>by subst e;simp at h
  simp[Ret,this]
 have bN:l.length=r.length:=by
  simp only[Bool.not_eq_false',beq_iff_eq]at h;omega
 refine⟨fun xs css _ m' q=>∃k:Nat,k≤l.length∧xs=[.int .i64 k]∧(l.drop k=r.drop k↔l=r)∧m.le m'∧q=l.length - k,⟨_,0,by omega,rfl,Iff.rfl,Mem.le_refl _,rfl⟩,?_⟩
 rintro z m1 q aZ ⟨k,hk,hz,he,_,hq⟩
 obtain rfl:z=k:=by simpa using hz
 subst hq
 refine Zab (fun bK=>?_) (fun cL=>?_)
 ·have aY:k < l.length:=by have:=of_decide_eq_true bK;omega
  obtain⟨x,hx⟩:=Zak aY
  obtain⟨y,hy⟩:=Zak (l:=r) (k:=k) (by omega)
  obtain⟨b1,o1,h1,h1'⟩:=ZgF (hl.mono aZ) hx
  obtain⟨b2,o2,h2,h2'⟩:=ZgF (hr.mono aZ) hy
  rw[ZoA hx hy]at he
  refine⟨b1,o1,h1,⟨by omega,by omega⟩,_,_,_,_,(by rw[Int.toNat_natCast];exact h1'),b2,o2,h2,⟨by omega,by omega⟩,_,_,_,_,(by rw[Int.toNat_natCast];exact h2'),_,ZpR _ _ _ _ _ _ _ _,Zab (fun h3=>Zag aZ ?_) (fun h3=>⟨_,by omega,k+1,aY,by rw[Zat (by omega) (by omega)];rfl,?_,aZ,rfl⟩)⟩
  ·have:¬x=y:=fun e=>by subst e;simp at h3
   simp only[Ret];congr 1
   rw[eq_comm,decide_eq_false_iff_not,←he];exact fun h=>this h.1
  ·have:x=y:=by
    obtain⟨x0,x1,x2,x3⟩:=x
    obtain⟨y0,y1,y2,y3⟩:=y
    simp at h3 ⊢
    exact⟨h3.1.1.1,h3.1.1.2,h3.1.2,h3.2⟩
   rw[←he];simp[this]
 ·have:k=l.length:=by have:=of_decide_eq_false cL;omega
  subst this
  refine Zag aZ ?_
  simp only[Ret];congr 1
  rw[eq_comm,decide_eq_true_eq,←he,List.drop_length,bN,List.drop_length]
theorem Zvm{st st':Bool}(l r:List (List Int))(v w:Value)(m:Mem)(hl:FolR st l v m)(hr:FolR st' r w m):CX Try.prog 72 #[v,w,.func (.func 23) #[] #[]] m [] (Ret (.bool (decide (l=r)))):=by
 obtain⟨a,c,vs,rfl,h1,h2,h3,h4⟩:=hl
 obtain⟨b,d,ws,rfl,k1,k2,k3,k4⟩:=hr
 apply Zbq a l.length c b r.length d _ [] []
 unfold ZaQ
 refine Zab (fun h=>Zag (Mem.le_refl _) ?_) (fun h=>?_)
 ·have:¬l=r:=fun e=>by subst e;simp at h
  simp[Ret,this]
 have bN:l.length=r.length:=by
  simp only[Bool.not_eq_false',beq_iff_eq]at h;omega
 refine⟨fun xs css _ m' q=>∃k:Nat,k≤l.length∧xs=[.int .i64 k]∧(l.drop k=r.drop k↔l=r)∧m.le m'∧q=l.length - k,⟨_,0,by omega,rfl,Iff.rfl,Mem.le_refl _,rfl⟩,?_⟩
 rintro z m1 q aZ ⟨k,hk,hz,he,_,hq⟩
 obtain rfl:z=k:=by simpa using hz
 subst hq
 refine Zab (fun bK=>?_) (fun cL=>?_)
 ·have aY:k < l.length:=by have:=of_decide_eq_true bK;omega
  obtain⟨x,hx⟩:=Zak aY
  obtain⟨y,hy⟩:=Zak (l:=r) (k:=k) (by omega)
  obtain⟨vx,qz⟩:=Zak (l:=vs) (k:=k) (by omega)
  obtain⟨wy,uI⟩:=Zak (l:=ws) (k:=k) (by omega)
  obtain⟨xa,xc,rfl,iV,dU,fX⟩:=(h4 k vx x qz hx).mono aZ
  obtain⟨ya,yc,rfl,li,dG,gj⟩:=(k4 k wy y uI hy).mono aZ
  obtain⟨b1,o1,e1,e1'⟩:=Za6 (h1.mono aZ) qz
  obtain⟨b2,o2,e2,e2'⟩:=Za6 (k1.mono aZ) uI
  rw[ZoA hx hy]at he
  refine⟨b1,o1,e1,⟨by omega,by omega⟩,_,(by rw[Int.toNat_natCast];exact e1'),b2,o2,e2,⟨by omega,by omega⟩,_,(by rw[Int.toNat_natCast];exact e2'),?_⟩
  refine Zah (ZkU x y xa ya xc yc m1 iV li dU) fun m2 bO=>Zab (fun h3=>Zag (Mem.le_trans aZ bO) ?_) (fun h3=>⟨_,by omega,k+1,aY,by rw[Zat (by omega) (by omega)];rfl,?_,Mem.le_trans aZ bO,rfl⟩)
  ·have:¬x=y:=by simpa using h3
   simp only[Ret];congr 1
   rw[eq_comm,decide_eq_false_iff_not,←he];exact fun h=>this h.1
  ·have:x=y:=by simpa using h3
   rw[←he];simp[this]
 ·have:k=l.length:=by have:=of_decide_eq_false cL;omega
  subst this
  refine Zag aZ ?_
  simp only[Ret];congr 1
  rw[eq_comm,decide_eq_true_eq,←he,List.drop_length,bN,List.drop_length]
theorem Zm7{st st':Bool}(A B:Nf)(v w:Value)(m:Mem)(h:NfR st A v m)(k:NfR st' B w m):CX Try.prog 22 #[v,w] m [] (Ret (.bool (decide (A=B)))):=by
 obtain⟨s,f,x,y,rfl,⟨sa,sc,rfl,hs,dK,iq⟩,hf,⟨xa,xc,rfl,hx,dU,fX⟩,⟨ya,yc,rfl,hy,dG,gj⟩⟩:=h
 obtain⟨s',f',x',y',rfl,⟨sa',sc',rfl,hs',sF,wu⟩,hf',⟨xa',xc',rfl,hx',sG,sH⟩,⟨ya',yc',rfl,hy',sI,sJ⟩⟩:=k
 obtain⟨fa,fc,vs,rfl,k8⟩:=id hf
 obtain⟨fa',fc',vs',rfl,sK⟩:=id hf'
 apply Zou
 unfold ZjN
 intro b m1 aZ _ b1 m2 bO _
 have dD:=Mem.le_trans aZ bO
 obtain⟨As,Af,A1,A2,Ae⟩:=A
 obtain⟨Bs,Bf,B1,B2,Be⟩:=B
 refine⟨decide ((⟨As,Af,A1,A2,Ae⟩:Nf)=⟨Bs,Bf,B1,B2,Be⟩),?_,Zag dD rfl⟩
 refine Zah (Zww As Bs _ _ _ _ m2 (hs.mono dD) (hs'.mono dD) dK) fun m3 bR=>?_
 have gH:=Mem.le_trans dD bR
 refine Zab (fun e1=>?_) (fun e1=>⟨by trivial,by simp[show ¬As=Bs by simpa using e1]⟩)
 refine Zah (Zvm Af Bf _ _ m3 (hf.mono gH) (hf'.mono gH)) fun m4 cT=>?_
 have jm:=Mem.le_trans gH cT
 refine Zab (fun e2=>?_) (fun e2=>⟨by trivial,by simp[show ¬Af=Bf by simpa using e2]⟩)
 refine Zah (ZkU A1 B1 _ _ _ _ m4 (hx.mono jm) (hx'.mono jm) dU) fun m5 cV=>?_
 have jG:=Mem.le_trans jm cV
 refine Zab (fun e3=>?_) (fun e3=>⟨by trivial,by simp[show ¬A1=B1 by simpa using e3]⟩)
 refine Zah (ZkU A2 B2 _ _ _ _ m5 (hy.mono jG) (hy'.mono jG) dG) fun m6 eJ=>?_
 refine Zab (fun e4=>⟨by trivial,?_⟩) (fun e4=>⟨by trivial,by simp[show ¬A2=B2 by simpa using e4]⟩)
 refine congrArg (fun z=>[Value.bool z]) ?_
 rw[Bool.eq_iff_iff]
 simp[of_decide_eq_true e1,of_decide_eq_true e2,of_decide_eq_true e3,of_decide_eq_true e4]
theorem ZiA{m:Mem}{a:Option Addr}{xs:List Value}(h:rowRd m a xs)(ha:a.isNone=true):xs=[]:=by
 rcases h with h|⟨b,o,h1,_⟩
 ·exact h
 ·rw[h1]at ha;simp at ha
def At0(v:Value):Prop:=∀b o,slA v=some ⟨b,o,none⟩→o=0
theorem Zq1{m:Mem}{b:Nat}{a':Option Addr}{n c:Nat}{v:Value}(h:TokFact m (some ⟨b,0,none⟩) a' n c)(hv:slA v=a'):At0 v:=fun b' o e=>by
 rcases h.2 with h|⟨b2,o2,h1,h2⟩
 ·rw[hv,h]at e;cases e
 ·rw[hv]at e
  rcases h2 with h2|h2
  ·rw[←h2]at e;cases e;rfl
  ·rw[h1]at e;cases e;exact h2.1
theorem Ztd:At0 (.slice none 0 0):=fun b o e=>by simp[slA]at e
theorem ZlS{st:Bool}(l:List Int)(v:Value)(m:Mem)(h:SlI st l v m):CXT Try.prog 44 #[v] m 1 (fun v m' _=>SlI st l v m'∧At0 v):=by
 obtain⟨a,c,rfl,h1,h2,mB⟩:=h
 apply ZbT
 unfold Zbg
 refine Zab (fun hn=>?_) (fun hn=>⟨⟨rfl,Int.le_refl _,by decide,by decide⟩,fun b hb=>⟨.inl rfl,[],Zap l,rfl,by rw[ZbS];omega,.inl rfl,h1,fun u hu=>?_,by omega,by omega,fun a' c' m' hm' hr eU=>⟨rfl,⟨a',c',by rw[Nat.zero_add],hr,h2,fun e1 e2=>?_⟩,Zq1 eU rfl⟩⟩⟩)
 ·have:=ZiA h1 hn
  obtain rfl:l=[]:=by simpa[Zap]using this
  exact⟨rfl,⟨none,0,rfl,.inl rfl,by simp,fun _ _=>rfl⟩,Ztd⟩
 ·obtain⟨i,_,rfl⟩:=List.mem_map.1 hu
  rfl
 ·rw[mB e1 e2]at hn;simp at hn
theorem ZkV{st:Bool}(l:List Int)(v:Value)(m:Mem)(h:SlI st l v m):CX Try.prog 44 #[v] m [] (fun v m' _=>SlI st l v m'):=(ZlS l v m h).toCX.mono fun _ _ _ _ h=>h.1
theorem ZpS{st:Bool}(l:List QS)(v:Value)(m:Mem)(h:SlQ st l v m):CXT Try.prog 77 #[v] m 4 (fun v m' _=>SlQ st l v m'∧At0 v):=by
 obtain⟨a,c,rfl,h1,h2,mB⟩:=h
 apply Zby
 unfold ZaW
 refine Zab (fun hn=>?_) (fun hn=>⟨⟨rfl,Int.le_refl _,by decide,by decide⟩,fun b hb=>⟨.inl rfl,[],ZbC l,rfl,by rw[ZeL],.inl rfl,h1,fun u hu=>?_,by omega,by omega,fun a' c' m' hm' hr eU=>⟨rfl,⟨a',c',by rw[Nat.zero_add],hr,h2,fun e1 e2=>?_⟩,Zq1 eU rfl⟩⟩⟩)
 ·have:=congrArg List.length (ZiA h1 hn)
  rw[ZeL]at this
  obtain rfl:l=[]:=List.eq_nil_of_length_eq_zero (by simp at this;omega)
  exact⟨rfl,⟨none,0,rfl,.inl rfl,by simp,fun _ _=>rfl⟩,Ztd⟩
 ·obtain⟨q,_,hq⟩:=List.mem_flatMap.1 hu
  simp only[List.mem_cons,List.not_mem_nil,or_false]at hq
  rcases hq with rfl|rfl|rfl|rfl <;> rfl
 ·rw[mB e1 e2]at hn;simp at hn
def FreshI(m:Mem)(l:List Int)(v:Value)(m':Mem):Prop:=SlI true l v m'∧∃a c,v=.slice a l.length c∧((a=none∧c=0)∨∃b,a=some ⟨b,0,none⟩∧l.length≤c∧m.free b∧∀q,l.length≤q→q < c→∃u,m' b q=some u)
theorem FreshI.free{m m':Mem}{l:List Int}{v:Value}(h:FreshI m l v m'):∀b o,slA v=some ⟨b,o,none⟩→m.free b:=fun b o e=>by
 obtain⟨_,a,c,rfl,⟨rfl,_⟩|⟨b',rfl,_,hf,_⟩⟩:=h
 ·simp[slA]at e
 ·simp[slA]at e;exact e.1 ▸ hf
theorem Za7{st:Bool}{l:List Int}:∀(v:Value)(m':Mem) (css:List (List Value)),SlI st l v m'→Shape.fits .slice v=true:=by
 rintro v m' css ⟨a,c,rfl,_⟩;rfl
theorem Zt4{st:Bool}{l:List QS}:∀(v:Value)(m':Mem) (css:List (List Value)),SlQ st l v m'→Shape.fits .slice v=true:=by
 rintro v m' css ⟨a,c,rfl,_⟩;rfl
def FolG(m:Mem)(a:Option Addr)(fol:List (List Int)):Prop:=∃vs,rowRd m a vs∧vs.length=fol.length∧∀(i:Nat)(v:Value)(l:List Int),vs[i]?=some v→fol[i]?=some l→SlI true l v m
theorem FolG.mono{m m':Mem}{a:Option Addr}{fol:List (List Int)}(h:FolG m a fol)(k:m.le m'):FolG m' a fol:=by
 obtain⟨vs,h1,h2,h3⟩:=h
 exact⟨vs,h1.mono k,h2,fun i v l hv hl=>(h3 i v l hv hl).mono k⟩
theorem ZdB{m:Mem}{b:Nat}{v:Value}:rowRd (m.add b [v]) (some ⟨b,0,none⟩) [v]:=.inr ⟨b,0,rfl,fun j u hj=>by rw[Nat.zero_add,Mem.add_same];exact hj⟩
theorem Zsf{m m2 M:Mem}{a':Option Addr}{fol:List (List Int)}{l:List Int}{w:Value}{vs:List Value}(h2:vs.length=fol.length)(h3:∀(i:Nat)(v:Value)(l:List Int),vs[i]?=some v→fol[i]?=some l→SlI true l v m)(hm:m.le M)(hr:rowRd m2 a' (vs++[w]))(bO:m2.le M)(hw:SlI true l w M):FolG M a' (fol++[l]):=by
 refine⟨vs++[w],hr.mono bO,by simp[h2],fun i v l' hv hl'=>?_⟩
 rw[List.getElem?_append]at hv hl'
 split at hv
 ·rw[if_pos (by omega)]at hl'
  exact(h3 i v l' hv hl').mono hm
 ·rw[if_neg (by omega)]at hl'
  have e1:=List.getElem?_eq_some_iff.1 hv
  have e2:=List.getElem?_eq_some_iff.1 hl'
  obtain⟨_,e1⟩:=e1
  obtain⟨_,e2⟩:=e2
  rw[List.getElem_singleton]at e1 e2
  subst e1 e2;exact hw
theorem ZkW{m:Mem}{a:Option Addr}{xs:List Value}(h:rowRd m a xs)(hx:xs≠[]){b o:Nat}(ha:a=some ⟨b,o,none⟩):¬m.free b:=by
 rcases h with h|⟨b',o',h1,h2⟩
 ·exact absurd h hx
 ·rw[h1]at ha;cases ha
  intro hf
  match xs,hx with
  | x::xs,_=>
   have:=h2 0 x rfl
   rw[hf]at this;cases this
theorem ZlT{m m':Mem}(h:m.le m'){b:Nat}(hf:m'.free b):m.free b:=fun o=>by
 cases he:m b o with
 | none=>rfl
 | some v=>have:=h _ _ _ he;rw[hf o]at this;cases this
structure CopyR (A:Nf)(m:Mem)(sa:Option Addr)(sc:Nat)(fa:Option Addr)(fc:Nat)(xa:Option Addr)(xc:Nat)(ya:Option Addr)(yc:Nat)(vs:List Value)(m':Mem):Prop where
 le:m.le m'
 sets:SlQ true A.sets (.slice sa A.sets.length sc) m'
 row:rowRd m' fa vs
 len:vs.length=A.fol.length
 fl:A.fol.length≤1000000
 fol:∀(i:Nat)(v:Value)(l:List Int),vs[i]?=some v→A.fol[i]?=some l→SlI true l v m'∧(∀b o,slA v=some ⟨b,o,none⟩→m.free b∧(∀o',fa≠some ⟨b,o',none⟩)∧(∀o',sa≠some ⟨b,o',none⟩)∧(∀o',xa≠some ⟨b,o',none⟩)∧∀o',ya≠some ⟨b,o',none⟩)
 first:FreshI m A.first (.slice xa A.first.length xc) m'
 last:FreshI m A.last (.slice ya A.last.length yc) m'
 nf:A.fol=[]→fa=none
 fs:∀b o,sa=some ⟨b,o,none⟩→m.free b
 ff:∀b o,fa=some ⟨b,o,none⟩→m.free b
 sf:∀b o o',sa=some ⟨b,o,none⟩→fa≠some ⟨b,o',none⟩
 sx:∀b o o',sa=some ⟨b,o,none⟩→xa≠some ⟨b,o',none⟩
 sy:∀b o o',sa=some ⟨b,o,none⟩→ya≠some ⟨b,o',none⟩
 fx:∀b o o',fa=some ⟨b,o,none⟩→xa≠some ⟨b,o',none⟩
 fy:∀b o o',fa=some ⟨b,o,none⟩→ya≠some ⟨b,o',none⟩
 xy:∀b o o',xa=some ⟨b,o,none⟩→ya≠some ⟨b,o',none⟩
def CopyV(A:Nf)(m:Mem)(v:Value)(m':Mem):Prop:=∃sa sc fa fc xa xc ya yc vs,v=.agg #[.slice sa A.sets.length sc,.slice fa A.fol.length fc,.slice xa A.first.length xc,.slice ya A.last.length yc,.bool A.empty]∧CopyR A m sa sc fa fc xa xc ya yc vs m'
theorem CopyV.nf{A:Nf}{m m':Mem}{v:Value}(h:CopyV A m v m'):NfR true A v m':=by
 obtain⟨sa,sc,fa,fc,xa,xc,ya,yc,vs,rfl,h⟩:=h
 exact⟨_,_,_,_,rfl,h.sets,⟨fa,fc,vs,rfl,h.row,h.len,h.fl,fun i v l hv hl=>(h.fol i v l hv hl).1⟩,h.first.1,h.last.1⟩
theorem FreshI.mono{m m' M:Mem}{l:List Int}{v:Value}(h:FreshI m l v m')(k:m'.le M):FreshI m l v M:=by
 obtain⟨h1,a,c,e,h2⟩:=h
 exact⟨h1.mono k,a,c,e,h2.imp id fun⟨b,g1,g2,g3,g4⟩=>⟨b,g1,g2,g3,fun q q1 q2=>(g4 q q1 q2).imp fun u hu=>k _ _ _ hu⟩⟩
theorem FreshI.less{m m0 m':Mem}{l:List Int}{v:Value}(h:FreshI m l v m')(k:m0.le m):FreshI m0 l v m':=by
 obtain⟨h1,a,c,e,h2⟩:=h
 exact⟨h1,a,c,e,h2.imp id fun⟨b,g1,g2,g3,g4⟩=>⟨b,g1,g2,ZlT k g3,g4⟩⟩
end Go.Proofs.Ytplacemlpkhmfaa
