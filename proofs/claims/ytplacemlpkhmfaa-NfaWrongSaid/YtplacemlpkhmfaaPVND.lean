/- Part of the proof: conditions and contracts of functions of this program. No condition of its own. -/
import Derived.Test.YtplacemlpkhmfaaPEnv
import Derived.Test.YtplacemlpkhmfaaMc
set_option linter.unusedVariables false
namespace Go.Proofs.Ytplacemlpkhmfaa
open Go Go.Eng Go.Proofs Go.RowKit
open Go.Value (int slice agg)
open Go.IntKind (u8 u64 i64)
set_option maxRecDepth 100000
noncomputable def ZhS:Env:={ EB with
 joins:=(fun i=>bif Nat.beq i 1 then some [(4,.bool)]else none) }
def Zee(p0:Int)(c0b c0o c1b c1o:Nat)(m:Mem)(R:RT):Prop:=
 ∃(b:Bool),br (p0 == (-1:Int)) (∃(v:Value),m c0b (c0o+4)=some v∧bif Zai v then bif Zai v then bif Zai v then bif Zai v then bif Zai v then bif Zai v then bif Zai v then bif
 Zai v then chk (Zad v) (br (Zac v) ([Value.bool true]=[Value.bool b]) False)else chk (Zad v) (br (Zac v) (chk (Zad v) (br (Zac v) ([Value.bool true]=[Value.bool b]) False)) False)else chk
 (Zad v) (br (Zac v) ([Value.bool true]=[Value.bool b]) False)else chk (Zad v) (br (Zac v) (bif Zai v then bif Zai v then chk (Zad v) (br (Zac v) ([Value.bool true]=[Value.bool b]) False)
 else chk (Zad v) (br (Zac v) (chk (Zad v) (br (Zac v) ([Value.bool true]=[Value.bool b]) False)) False)else chk (Zad v) (br (Zac v) ([Value.bool true]=[Value.bool b]) False)) (bif Zai v then
 bif Zai v then chk (Zad v) (br (Zac v) ([Value.bool true]=[Value.bool b]) False)else chk (Zad v) (br (Zac v) (chk (Zad v) (br (Zac v) ([Value.bool true]=[Value.bool b]) False)) False)else chk
 (Zad v) (br (Zac v) ([Value.bool true]=[Value.bool b]) False)))else chk (Zad v) (br (Zac v) ([Value.bool true]=[Value.bool b]) False)else chk (Zad v) (br (Zac v) (bif Zai v then bif Zai v
 then bif Zai v then bif Zai v then chk (Zad v) (br (Zac v) ([Value.bool true]=[Value.bool b]) False)else chk (Zad v) (br (Zac v) (chk (Zad v) (br (Zac v) ([Value.bool true]=[Value.bool b])
 False)) False)else chk (Zad v) (br (Zac v) ([Value.bool true]=[Value.bool b]) False)else chk (Zad v) (br (Zac v) (bif Zai v then bif Zai v then chk (Zad v) (br (Zac v) ([Value.bool true] =
 [Value.bool b]) False)else chk (Zad v) (br (Zac v) (chk (Zad v) (br (Zac v) ([Value.bool true]=[Value.bool b]) False)) False)else chk (Zad v) (br (Zac v) ([Value.bool true]=[Value.bool b])
 False)) (bif Zai v then bif Zai v then chk (Zad v) (br (Zac v) ([Value.bool true]=[Value.bool b]) False)else chk (Zad v) (br (Zac v) (chk (Zad v) (br (Zac v) ([Value.bool true]=[Value.bool
 b]) False)) False)else chk (Zad v) (br (Zac v) ([Value.bool true]=[Value.bool b]) False)))else chk (Zad v) (br (Zac v) ([Value.bool true]=[Value.bool b]) False)) False)else chk (Zad v) (br (Zac
 v) ([Value.bool true]=[Value.bool b]) False)else chk (Zad v) (br (Zac v) (bif Zai v then bif Zai v then bif Zai v then bif Zai v then bif Zai v then bif Zai v then chk (Zad v) (br
 (Zac v) ([Value.bool true]=[Value.bool b]) False)else chk (Zad v) (br (Zac v) (chk (Zad v) (br (Zac v) ([Value.bool true]=[Value.bool b]) False)) False)else chk (Zad v) (br (Zac v)
 ([Value.bool true]=[Value.bool b]) False)else chk (Zad v) (br (Zac v) (bif Zai v then bif Zai v then chk (Zad v) (br (Zac v) ([Value.bool true]=[Value.bool b]) False)else chk (Zad v) (br
 (Zac v) (chk (Zad v) (br (Zac v) ([Value.bool true]=[Value.bool b]) False)) False)else chk (Zad v) (br (Zac v) ([Value.bool true]=[Value.bool b]) False)) (bif Zai v then bif Zai v then chk
 (Zad v) (br (Zac v) ([Value.bool true]=[Value.bool b]) False)else chk (Zad v) (br (Zac v) (chk (Zad v) (br (Zac v) ([Value.bool true]=[Value.bool b]) False)) False)else chk (Zad v) (br (Zac
 v) ([Value.bool true]=[Value.bool b]) False)))else chk (Zad v) (br (Zac v) ([Value.bool true]=[Value.bool b]) False)else chk (Zad v) (br (Zac v) (bif Zai v then bif Zai v then bif Zai v
 then bif Zai v then chk (Zad v) (br (Zac v) ([Value.bool true]=[Value.bool b]) False)else chk (Zad v) (br (Zac v) (chk (Zad v) (br (Zac v) ([Value.bool true]=[Value.bool b]) False)) False)
 else chk (Zad v) (br (Zac v) ([Value.bool true]=[Value.bool b]) False)else chk (Zad v) (br (Zac v) (bif Zai v then bif Zai v then chk (Zad v) (br (Zac v) ([Value.bool true]=[Value.bool b])
 False)else chk (Zad v) (br (Zac v) (chk (Zad v) (br (Zac v) ([Value.bool true]=[Value.bool b]) False)) False)else chk (Zad v) (br (Zac v) ([Value.bool true]=[Value.bool b]) False)) (bif Zai v
 then bif Zai v then chk (Zad v) (br (Zac v) ([Value.bool true]=[Value.bool b]) False)else chk (Zad v) (br (Zac v) (chk (Zad v) (br (Zac v) ([Value.bool true]=[Value.bool b]) False)) False)
 else chk (Zad v) (br (Zac v) ([Value.bool true]=[Value.bool b]) False)))else chk (Zad v) (br (Zac v) ([Value.bool true]=[Value.bool b]) False)) False)else chk (Zad v) (br (Zac v) ([Value.bool
 true]=[Value.bool b]) False)) (bif Zai v then bif Zai v then bif Zai v then bif Zai v then bif Zai v then bif Zai v then chk (Zad v) (br (Zac v) ([Value.bool true]=[Value.bool b])
 False)else chk (Zad v) (br (Zac v) (chk (Zad v) (br (Zac v) ([Value.bool true]=[Value.bool b]) False)) False)else chk (Zad v) (br (Zac v) ([Value.bool true]=[Value.bool b]) False)else chk
 (Zad v) (br (Zac v) (bif Zai v then bif Zai v then chk (Zad v) (br (Zac v) ([Value.bool true]=[Value.bool b]) False)else chk (Zad v) (br (Zac v) (chk (Zad v) (br (Zac v) ([Value.bool
 true]=[Value.bool b]) False)) False)else chk (Zad v) (br (Zac v) ([Value.bool true]=[Value.bool b]) False)) (bif Zai v then bif Zai v then chk (Zad v) (br (Zac v) ([Value.bool true] =
 [Value.bool b]) False)else chk (Zad v) (br (Zac v) (chk (Zad v) (br (Zac v) ([Value.bool true]=[Value.bool b]) False)) False)else chk (Zad v) (br (Zac v) ([Value.bool true]=[Value.bool b])
 False)))else chk (Zad v) (br (Zac v) ([Value.bool true]=[Value.bool b]) False)else chk (Zad v) (br (Zac v) (bif Zai v then bif Zai v then bif Zai v then bif Zai v then chk (Zad v) (br
 (Zac v) ([Value.bool true]=[Value.bool b]) False)else chk (Zad v) (br (Zac v) (chk (Zad v) (br (Zac v) ([Value.bool true]=[Value.bool b]) False)) False)else chk (Zad v) (br (Zac v)
 ([Value.bool true]=[Value.bool b]) False)else chk (Zad v) (br (Zac v) (bif Zai v then bif Zai v then chk (Zad v) (br (Zac v) ([Value.bool true]=[Value.bool b]) False)else chk (Zad v) (br
 (Zac v) (chk (Zad v) (br (Zac v) ([Value.bool true]=[Value.bool b]) False)) False)else chk (Zad v) (br (Zac v) ([Value.bool true]=[Value.bool b]) False)) (bif Zai v then bif Zai v then chk
 (Zad v) (br (Zac v) ([Value.bool true]=[Value.bool b]) False)else chk (Zad v) (br (Zac v) (chk (Zad v) (br (Zac v) ([Value.bool true]=[Value.bool b]) False)) False)else chk (Zad v) (br (Zac
 v) ([Value.bool true]=[Value.bool b]) False)))else chk (Zad v) (br (Zac v) ([Value.bool true]=[Value.bool b]) False)) (bif Zai v then bif Zai v then bif Zai v then bif Zai v then chk (Zad
 v) (br (Zac v) ([Value.bool true]=[Value.bool b]) False)else chk (Zad v) (br (Zac v) (chk (Zad v) (br (Zac v) ([Value.bool true]=[Value.bool b]) False)) False)else chk (Zad v) (br (Zac v)
 ([Value.bool true]=[Value.bool b]) False)else chk (Zad v) (br (Zac v) (bif Zai v then bif Zai v then chk (Zad v) (br (Zac v) ([Value.bool true]=[Value.bool b]) False)else chk (Zad v) (br
 (Zac v) (chk (Zad v) (br (Zac v) ([Value.bool true]=[Value.bool b]) False)) False)else chk (Zad v) (br (Zac v) ([Value.bool true]=[Value.bool b]) False)) (br (!p0 == (-1:Int)) (∃(R:RT),True∧
 CX Try.prog 115 (Array.mk [Value.pointer (some (Addr.mk c1b c1o none)),int i64 p0]) m [] R∧ZaJ Shape.bool R∧∀(aa:Bool)(m':Mem),Mem.le m m'→R (Value.bool aa) m' []→bif Zai v then bif Zai v then
 chk (Zad v) (br (Zac v) ([Value.bool true]=[Value.bool b]) False)else chk (Zad v) (br (Zac v) (chk (Zad v) (br (Zac v) ([Value.bool true]=[Value.bool b]) False)) (chk (Zad v) (br (Zac v)
 ([Value.bool true]=[Value.bool b]) ([Value.bool aa]=[Value.bool b]))))else chk (Zad v) (br (Zac v) ([Value.bool true]=[Value.bool b]) ([Value.bool aa]=[Value.bool b]))) (bif Zai v then bif Zai v
 then chk (Zad v) (br (Zac v) ([Value.bool true]=[Value.bool b]) False)else chk (Zad v) (br (Zac v) (chk (Zad v) (br (Zac v) ([Value.bool true]=[Value.bool b]) False)) (chk (Zad v) (br (Zac
 v) ([Value.bool true]=[Value.bool b]) ([Value.bool false]=[Value.bool b]))))else chk (Zad v) (br (Zac v) ([Value.bool true]=[Value.bool b]) ([Value.bool false]=[Value.bool b])))))else chk (Zad v) (br
 (Zac v) ([Value.bool true]=[Value.bool b]) (br (!p0 == (-1:Int)) (∃(R:RT),True∧CX Try.prog 115 (Array.mk [Value.pointer (some (Addr.mk c1b c1o none)),int i64 p0]) m [] R∧ZaJ Shape.bool R∧∀(aa:Bool)
 (m':Mem),Mem.le m m'→R (Value.bool aa) m' []→[Value.bool aa]=[Value.bool b]) ([Value.bool false]=[Value.bool b])))))else chk (Zad v) (br (Zac v) ([Value.bool true]=[Value.bool b]) (br (!p0 == (-1:
 Int)) (∃(R:RT),True∧CX Try.prog 115 (Array.mk [Value.pointer (some (Addr.mk c1b c1o none)),int i64 p0]) m [] R∧ZaJ Shape.bool R∧∀(aa:Bool)(m':Mem),Mem.le m m'→R (Value.bool aa) m' []→[Value.bool
 aa]=[Value.bool b]) ([Value.bool false]=[Value.bool b])))))else chk (Zad v) (br (Zac v) ([Value.bool true]=[Value.bool b]) (br (!p0 == (-1:Int)) (∃(R:RT),True∧CX Try.prog 115 (Array.mk
 [Value.pointer (some (Addr.mk c1b c1o none)),int i64 p0]) m [] R∧ZaJ Shape.bool R∧∀(aa:Bool)(m':Mem),Mem.le m m'→R (Value.bool aa) m' []→[Value.bool aa]=[Value.bool b]) ([Value.bool false] =
 [Value.bool b])))) (br (!p0 == (-1:Int)) (∃(R:RT),True∧CX Try.prog 115 (Array.mk [Value.pointer (some (Addr.mk c1b c1o none)),int i64 p0]) m [] R∧ZaJ Shape.bool R∧∀(aa:Bool)(m':Mem),Mem.le m m'→R
 (Value.bool aa) m' []→[Value.bool aa]=[Value.bool b]) ([Value.bool false]=[Value.bool b]))∧∃(m'':Mem),Mem.le m m''∧Mem.le m'' m∧R (Value.bool b) m'' []
theorem Zg1(p0:Int)(c0b c0o c1b c1o:Nat)(m:Mem)(R:RT)(h:Zee p0 c0b c0o c1b c1o m R):CX Try.prog 114 #[.int .i64 p0,.pointer (some ⟨c0b,c0o,none⟩),.pointer (some ⟨c1b,c1o,none⟩)] m [] R:=
 Zal (E:=ZhS) ZaC mix Try.func114 [.v (.int .i64 p0),.v (.pointer (some ⟨c0b,c0o,none⟩)),.v (.pointer (some ⟨c1b,c1o,none⟩))] [] (by kernel_rfl) (Eq.mp (by kernel_rfl) h)
noncomputable def Zcv:Env:={ EB with
 loops:=(fun i=>bif Nat.beq i 2 then⟨[(8,.int .i64)],[],[],false⟩ else⟨[],[],[],false⟩) }
def Zbv(p0a:Option Addr)(p0n p0c p1g:Nat)(p1fi p1ca:List Value)(m:Mem)(R:RT):Prop:=
 ∃(I:IT),(∃(n:Nat),I [int i64 0] [] [] m n)∧∀(n:Int)(m':Mem)(n_1:Nat),Mem.le m m'→I [int i64 n] [] [] m' n_1→br (decide (n < (↑p0n:Int))) (∃(b:Nat),∃(o:Nat),p0a=some (Addr.mk b o none)
 ∧ Zaf n p0n∧∃(v:Value),m' b (o+Int.toNat n*1)=some v∧∃(R_1:RT),True∧CX Try.prog p1g (Array.mk (List.append (List.append p1fi [v]) p1ca)) m' [] R_1∧ZaJ Shape.bool R_1∧∀(b:Bool) (m'_1:
 Mem),Mem.le m' m'_1→R_1 (Value.bool b) m'_1 []→br b (∃(m'':Mem),Mem.le m m''∧Mem.le m'' m'_1∧R (int i64 n) m'' []) (∃(n':Nat),n' < n_1∧I [int i64 (IntKind.wrap i64 (n+(1:Int)))] [] [] m'_1 n')) (∃
 (m'':Mem),Mem.le m m''∧Mem.le m'' m'∧R (int i64 (-1:Int)) m'' [])
theorem Zci(p0a:Option Addr)(p0n p0c p1g:Nat)(p1fi p1ca:List Value)(m:Mem)(R:RT)(h:Zbv p0a p0n p0c p1g p1fi p1ca m R):CX Try.prog 146 #[.slice p0a p0n p0c,.func (.func p1g) p1fi.toArray p1ca.toArray] m [] R:=
 Zal (E:=Zcv) ZaC mix Try.func146 [.v (.slice p0a p0n p0c),.v (.func (.func p1g) p1fi.toArray p1ca.toArray)] [] (by kernel_rfl) (Eq.mp (by kernel_rfl) h)
noncomputable def Zca:Env:=EB
def Zbb(p0a:Option Addr)(p0n p0c p1g:Nat)(p1fi p1ca:List Value)(m:Mem)(R:RT):Prop:=
 ∃(R_1:RT),True∧CX Try.prog 146 (Array.mk [slice p0a p0n p0c,Value.func (Fn.func p1g) (Array.mk p1fi) (Array.mk p1ca)]) m [] R_1∧ZaJ (Shape.int i64) R_1∧∀(n:Int)(m':Mem),Mem.le m m'→R_1 (int i64 n)
 m' []→∃(m'':Mem),Mem.le m m''∧Mem.le m'' m'∧R (Value.bool (decide (n ≥ (0:Int)))) m'' []
theorem ZbZ(p0a:Option Addr)(p0n p0c p1g:Nat)(p1fi p1ca:List Value)(m:Mem)(R:RT)(h:Zbb p0a p0n p0c p1g p1fi p1ca m R):CX Try.prog 113 #[.slice p0a p0n p0c,.func (.func p1g) p1fi.toArray p1ca.toArray] m [] R:=
 Zal (E:=Zca) ZaC mix Try.func113 [.v (.slice p0a p0n p0c),.v (.func (.func p1g) p1fi.toArray p1ca.toArray)] [] (by kernel_rfl) (Eq.mp (by kernel_rfl) h)
noncomputable def Zky:Env:={ EB with
 frzNew:=[2]
 frzAt:=(fun i=>bif Nat.beq i 11 then[5]else[]) }
def ZfX(aM:Option Addr)(aL aU:Nat)(aO:Option Addr)(aK aV:Nat)(aP:Option Addr)(aN aT:Nat)(aQ:Option Addr)(aR aS:Nat)(aA:Bool)(p1a:Option Addr)(p1n p1c:Nat)(m:Mem)(R:RT):Prop:=
 ∀(b:Nat)(m':Mem),Mem.le m m'→Mem.reads m' b 0 [slice aM aL aU,slice aO aK aV,slice aP aN aT,slice aQ aR aS,Value.bool aA]→∃(R_1:RT),True∧CX Try.prog 112
 (Array.mk [slice aQ aR aS]) m' [] R_1∧ZaJ (Shape.agg [Shape.int u64,Shape.int u64,Shape.int u64,Shape.int u64,Shape.int u64,Shape.int u64,Shape.int u64]) R_1∧∀(n n_1 n_2 n_3 n_4 n_5 n_6:Int) (m'_1
 : Mem),Mem.le m' m'_1→R_1 (agg (Array.mk [int u64 n,int u64 n_1,int u64 n_2,int u64 n_3,int u64 n_4,int u64 n_5,int u64 n_6])) m'_1 []→∀(b_1:Nat)(m':Mem),Mem.le m'_1 m'→Mem.reads m' b_1 0 [int u64 n,
 int u64 n_1,int u64 n_2,int u64 n_3,int u64 n_4,int u64 n_5,int u64 n_6]→∃(R_2:RT),True∧CX Try.prog 113 (Array.mk [slice p1a p1n p1c,Value.func (Fn.func 114) (Array.mk []) (Array.mk [Value.pointer (some
 (Addr.mk b 0 none)),Value.pointer (some (Addr.mk b_1 0 none))])]) m' [] R_2∧ZaJ Shape.bool R_2∧∀(b:Bool)(m'_2:Mem),Mem.le m' m'_2→R_2 (Value.bool b) m'_2 []→∃(m'':Mem),Mem.le m m''∧Mem.le m'' m'_2
 ∧ R (Value.bool b) m'' []
theorem ZiM(aM:Option Addr)(aL aU:Nat)(aO:Option Addr)(aK aV:Nat)(aP:Option Addr)(aN aT:Nat)(aQ:Option Addr)(aR aS:Nat)(aA:Bool)(p1a:Option Addr)(p1n p1c:Nat)(m:Mem)(R:RT)(h:ZfX aM aL aU aO aK aV aP aN aT aQ aR aS aA p1a p1n p1c m R):CX Try.prog 68 #[.agg #[.slice aM aL aU,.slice aO aK aV,.slice aP aN aT,.slice aQ aR aS,.bool aA],.slice p1a p1n p1c] m [] R:=
 Zal (E:=Zky) ZaC mix Try.func68 [.v (.agg #[.slice aM aL aU,.slice aO aK aV,.slice aP aN aT,.slice aQ aR aS,.bool aA]),.v (.slice p1a p1n p1c)] [] (by kernel_rfl) (Eq.mp (by kernel_rfl) h)
noncomputable def Zn8:Env:={ EB with
 frzNew:=[2] }
def ZfA(aM:Option Addr)(aL aU:Nat)(aO:Option Addr)(aK aV:Nat)(aP:Option Addr)(aN aT:Nat)(aQ:Option Addr)(aR aS:Nat)(aA:Bool)(p1a:Option Addr)(p1n p1c:Nat)(m:Mem)(R:RT):Prop:=
 ∀(b:Nat)(m':Mem),Mem.le m m'→Mem.reads m' b 0 [slice aM aL aU,slice aO aK aV,slice aP aN aT,slice aQ aR aS,Value.bool aA]→∃(R_1:RT),True∧CX Try.prog 21
 (Array.mk [agg (Array.mk [slice aM aL aU,slice aO aK aV,slice aP aN aT,slice aQ aR aS,Value.bool aA])]) m' [] R_1∧ZaJ Shape.bool R_1∧∀(b:Bool)(m'_1:Mem),Mem.le m'
 m'_1→R_1 (Value.bool b) m'_1 []→br (!b) (∃(m'':Mem),Mem.le m m''∧Mem.le m'' m'_1∧R (int i64 171) m'' []) (∃(R_2:RT),True∧CX Try.prog 70 (Array.mk [slice p1a p1n p1c,int i64 (-1:Int),int i64
 (IntKind.wrap i64 ((↑aL:Int) - (1:Int)))]) m'_1 [] R_2∧ZaJ Shape.bool R_2∧∀(b:Bool)(m':Mem),Mem.le m'_1 m'→R_2 (Value.bool b) m' []→br (!b) (∃(m'':Mem),Mem.le m m''∧Mem.le m'' m'∧R (int
 i64 172) m'' []) (∃(m'':Mem),Mem.le m m''∧Mem.le m'' m'∧R (int i64 0) m'' []))
theorem ZhT(aM:Option Addr)(aL aU:Nat)(aO:Option Addr)(aK aV:Nat)(aP:Option Addr)(aN aT:Nat)(aQ:Option Addr)(aR aS:Nat)(aA:Bool)(p1a:Option Addr)(p1n p1c:Nat)(m:Mem)(R:RT)(h:ZfA aM aL aU aO aK aV aP aN aT aQ aR aS aA p1a p1n p1c m R):CX Try.prog 78 #[.agg #[.slice aM aL aU,.slice aO aK aV,.slice aP aN aT,.slice aQ aR aS,.bool aA],.slice p1a p1n p1c] m [] R:=
 Zal (E:=Zn8) ZaC mix Try.func78 [.v (.agg #[.slice aM aL aU,.slice aO aK aV,.slice aP aN aT,.slice aQ aR aS,.bool aA]),.v (.slice p1a p1n p1c)] [] (by kernel_rfl) (Eq.mp (by kernel_rfl) h)
noncomputable def Zpp:Env:={ EB with
 loops:=(fun i=>bif Nat.beq i 3 then⟨[(15,.int .i64)],[7],[],false⟩ else bif Nat.beq i 9 then⟨[(30,.int .i64)],[7],[],false⟩ else⟨[],[],[],false⟩)
 frzNew:=[3]
 frzAt:=(fun i=>bif Nat.beq i 45 then[7]else[]) }
def ZjA(aM:Option Addr)(aL aU:Nat)(aO:Option Addr)(aK aV:Nat)(aP:Option Addr)(aN aT:Nat)(aQ:Option Addr)(aR aS:Nat)(aA:Bool)(p1a:Option Addr)(p1n p1c:Nat)(p2:Int)(m:Mem)(R:RT):Prop:=
 ∀(b:Nat)(m':Mem),Mem.le m m'→Mem.reads m' b 0 [slice aM aL aU,slice aO aK aV,slice aP aN aT,slice aQ aR aS,Value.bool aA]→∀(aa:Nat),∃(I:IT),(∃(n:Nat),I
 [int i64 0] [[int u64 0,int u64 0,int u64 0,int u64 0,int u64 0,int u64 0,int u64 0]] [] m' n)∧∀(n:Int)(cs:List Value)(ad:Mem)(an:Nat),Mem.le m' ad→I [int i64 n] [cs] [] ad an→br (decide (n <
 (↑p1n:Int))) (∃(ao:Nat),∃(o:Nat),p1a=some (Addr.mk ao o none)∧Zaf n p1n∧∃(v:Value),ad ao (o+Int.toNat n*1)=some v∧chk (Zbn i64 v&&decide (i64=i64)) (br (!RowKit.intOf v == (-1:
 Int)) (chk (ZbA v) (∃(ah:Nat),∃(o:Nat),aO=some (Addr.mk ah o none)∧Zaf (RowKit.intOf v) aK∧∃(ae:Value),ad ah (o+Int.toNat (RowKit.intOf v)*1)=some ae∧chk (Zfq ae) (∃(af:IT),
 (∃(n:Nat),af [int i64 0] [cs] [] ad n)∧∀(ac:Int)(cs:List Value)(m':Mem)(ag:Nat),Mem.le ad m'→af [int i64 ac] [cs] [] m' ag→br (decide (ac < (↑(slN ae):Int))) (chk (Zfq ae) (∃(ai:Nat),∃(o:
 Nat),slA ae=some (Addr.mk ai o none)∧Zaf ac (slN ae)∧∃(v:Value),m' ai (o+Int.toNat ac*1)=some v∧chk (ZbA v) (∃(aj:Nat),∃(o:Nat),aM=some (Addr.mk aj o none)∧Zaf
 (RowKit.intOf v) aL∧∃(ak:Value),∃(al:Value),∃(am:Value),∃(ap:Value),Mem.reads m' aj (o+Int.toNat (RowKit.intOf v)*4) [ak,al,am,ap]∧∃(R:RT),True∧CX Try.prog 117 (Array.mk [agg
 (Array.mk [ak,al,am,ap]),int u8 p2]) m' [] R∧ZaJ Shape.bool R∧∀(aq:Bool)(ab:Mem),Mem.le m' ab→R (Value.bool aq) ab []→br aq (∃(R:RT),True∧CX Try.prog 116 (Array.mk [Value.pointer (some (Addr.mk
 aa 0 none)),v]) ab [Box.mk aa cs 100 7 false true] R∧ZaJ (Shape.tup []) R∧∀(m':Mem),Mem.le ab m'→∀(cs:List Value),R (Value.tuple (Array.mk [])) m' [cs]→[some (Box.mk aa [] 100 7 false true),some
 (Box.mk b [slice aM aL aU,slice aO aK aV,slice aP aN aT,slice aQ aR aS,Value.bool aA] 26 5 true true)]=[some (Box.mk aa [] 100 7 false true),some (Box.mk b [slice aM aL
 aU,slice aO aK aV,slice aP aN aT,slice aQ aR aS,Value.bool aA] 26 5 true true)]∧∃(n':Nat),n' < ag∧af [int i64 (IntKind.wrap i64 (ac+(1:Int)))] [cs] [] m' n') ([some
 (Box.mk aa [] 100 7 false true),some (Box.mk b [slice aM aL aU,slice aO aK aV,slice aP aN aT,slice aQ aR aS,Value.bool aA] 26 5 true true)]=[some (Box.mk aa [] 100 7 false
 true),some (Box.mk b [slice aM aL aU,slice aO aK aV,slice aP aN aT,slice aQ aR aS,Value.bool aA] 26 5 true true)]∧∃(n':Nat),n' < ag∧af [int i64 (IntKind.wrap i64 (ac +
 (1:Int)))] [cs] [] ab n')))) ([some (Box.mk aa [] 100 7 false true),some (Box.mk b [slice aM aL aU,slice aO aK aV,slice aP aN aT,slice aQ aR aS,Value.bool aA] 26 5 true
 true)]=[some (Box.mk aa [] 100 7 false true),some (Box.mk b [slice aM aL aU,slice aO aK aV,slice aP aN aT,slice aQ aR aS,Value.bool aA] 26 5 true true)]∧∃(n':Nat),n' <
 an∧I [int i64 (IntKind.wrap i64 (n+(1:Int)))] [cs] [] m' n')))) (∃(af:IT),(∃(n:Nat),af [int i64 0] [cs] [] ad n)∧∀(ac:Int)(cs:List Value)(m':Mem)(ag:Nat),Mem.le ad m'→af [int i64 ac] [cs]
 [] m' ag→br (decide (ac < (↑aN:Int))) (∃(ah:Nat),∃(o:Nat),aP=some (Addr.mk ah o none)∧Zaf ac aN∧∃(v:Value),m' ah (o+Int.toNat ac*1)=some v∧chk (ZbA v) (∃(ai:Nat),∃(o
 : Nat),aM=some (Addr.mk ai o none)∧Zaf (RowKit.intOf v) aL∧∃(ae:Value),∃(ak:Value),∃(al:Value),∃(am:Value),Mem.reads m' ai (o+Int.toNat (RowKit.intOf v)*4) [ae,ak,al,am]∧∃(R:
 RT),True∧CX Try.prog 117 (Array.mk [agg (Array.mk [ae,ak,al,am]),int u8 p2]) m' [] R∧ZaJ Shape.bool R∧∀(aj:Bool)(ab:Mem),Mem.le m' ab→R (Value.bool aj) ab []→br aj (∃(R:RT),True∧CX Try.prog
 116 (Array.mk [Value.pointer (some (Addr.mk aa 0 none)),v]) ab [Box.mk aa cs 100 7 false true] R∧ZaJ (Shape.tup []) R∧∀(m':Mem),Mem.le ab m'→∀(cs:List Value),R (Value.tuple (Array.mk [])) m' [cs]→[some
 (Box.mk aa [] 100 7 false true),some (Box.mk b [slice aM aL aU,slice aO aK aV,slice aP aN aT,slice aQ aR aS,Value.bool aA] 26 5 true true)]=[some (Box.mk aa [] 100 7 false
 true),some (Box.mk b [slice aM aL aU,slice aO aK aV,slice aP aN aT,slice aQ aR aS,Value.bool aA] 26 5 true true)]∧∃(n':Nat),n' < ag∧af [int i64 (IntKind.wrap i64 (ac +
 (1:Int)))] [cs] [] m' n') ([some (Box.mk aa [] 100 7 false true),some (Box.mk b [slice aM aL aU,slice aO aK aV,slice aP aN aT,slice aQ aR aS,Value.bool aA] 26 5 true true)] =
 [some (Box.mk aa [] 100 7 false true),some (Box.mk b [slice aM aL aU,slice aO aK aV,slice aP aN aT,slice aQ aR aS,Value.bool aA] 26 5 true true)]∧∃(n':Nat),n' < ag∧af
 [int i64 (IntKind.wrap i64 (ac+(1:Int)))] [cs] [] ab n'))) ([some (Box.mk aa [] 100 7 false true),some (Box.mk b [slice aM aL aU,slice aO aK aV,slice aP aN aT,slice aQ aR aS,
 Value.bool aA] 26 5 true true)]=[some (Box.mk aa [] 100 7 false true),some (Box.mk b [slice aM aL aU,slice aO aK aV,slice aP aN aT,slice aQ aR aS,Value.bool aA] 26 5 true
 true)]∧∃(n':Nat),n' < an∧I [int i64 (IntKind.wrap i64 (n+(1:Int)))] [cs] [] m' n')))) (∀(m':Mem),Mem.le ad m'→Mem.reads m' aa 0 cs→∃(R_1:RT),True∧CX Try.prog 62 (Array.mk [Value.pointer (some
 (Addr.mk aa 0 none))]) m' [] R_1∧ZaJ Shape.slice R_1∧∀(a:Option Addr)(n c:Nat)(ab:Mem),Mem.le m' ab→R_1 (slice a n c) ab []→∃(m'':Mem),Mem.le m m''∧Mem.le m'' ab∧R (slice a n c) m'' [])
theorem Zn9(aM:Option Addr)(aL aU:Nat)(aO:Option Addr)(aK aV:Nat)(aP:Option Addr)(aN aT:Nat)(aQ:Option Addr)(aR aS:Nat)(aA:Bool)(p1a:Option Addr)(p1n p1c:Nat)(p2:Int)(m:Mem)(R:RT)(h:ZjA aM aL aU aO aK aV aP aN aT aQ aR aS aA p1a p1n p1c p2 m R):CX Try.prog 79 #[.agg #[.slice aM aL aU,.slice aO aK aV,.slice aP aN aT,.slice aQ aR aS,.bool aA],.slice p1a p1n p1c,.int .u8 p2] m [] R:=
 Zal (E:=Zpp) ZaC mix Try.func79 [.v (.agg #[.slice aM aL aU,.slice aO aK aV,.slice aP aN aT,.slice aQ aR aS,.bool aA]),.v (.slice p1a p1n p1c),.v (.int .u8 p2)] [] (by kernel_rfl) (Eq.mp (by kernel_rfl) h)
noncomputable def Zpq:Env:={ EB with
 frzNew:=[3] }
def ZgP(aM:Option Addr)(aL aU:Nat)(aO:Option Addr)(aK aV:Nat)(aP:Option Addr)(aN aT:Nat)(aQ:Option Addr)(aR aS:Nat)(aA:Bool)(p1a:Option Addr)(p1n p1c:Nat)(p2:Int)(m:Mem)(R:RT):Prop:=
 ∀(b:Nat)(m':Mem),Mem.le m m'→Mem.reads m' b 0 [slice aM aL aU,slice aO aK aV,slice aP aN aT,slice aQ aR aS,Value.bool aA]→∃(R_1:RT),True∧CX Try.prog 78
 (Array.mk [agg (Array.mk [slice aM aL aU,slice aO aK aV,slice aP aN aT,slice aQ aR aS,Value.bool aA]),slice p1a p1n p1c]) m' [] R_1∧ZaJ (Shape.int i64) R_1∧∀(n:Int)
 (m'_1:Mem),Mem.le m' m'_1→R_1 (int i64 n) m'_1 []→br (!n == (0:Int)) (∃(m'':Mem),Mem.le m m''∧Mem.le m'' m'_1∧R (Value.tuple (Array.mk [slice none 0 0,int i64 n])) m'' []) (∃(R_2:RT),True∧CX
 Try.prog 79 (Array.mk [agg (Array.mk [slice aM aL aU,slice aO aK aV,slice aP aN aT,slice aQ aR aS,Value.bool aA]),slice p1a p1n p1c,int u8 p2]) m'_1 [] R_2∧ZaJ Shape.slice
 R_2∧∀(a:Option Addr)(n c:Nat)(m':Mem),Mem.le m'_1 m'→R_2 (slice a n c) m' []→∃(m'':Mem),Mem.le m m''∧Mem.le m'' m'∧R (Value.tuple (Array.mk [slice a n c,int i64 0])) m'' [])
theorem ZjB(aM:Option Addr)(aL aU:Nat)(aO:Option Addr)(aK aV:Nat)(aP:Option Addr)(aN aT:Nat)(aQ:Option Addr)(aR aS:Nat)(aA:Bool)(p1a:Option Addr)(p1n p1c:Nat)(p2:Int)(m:Mem)(R:RT)(h:ZgP aM aL aU aO aK aV aP aN aT aQ aR aS aA p1a p1n p1c p2 m R):CX Try.prog 27 #[.agg #[.slice aM aL aU,.slice aO aK aV,.slice aP aN aT,.slice aQ aR aS,.bool aA],.slice p1a p1n p1c,.int .u8 p2] m [] R:=
 Zal (E:=Zpq) ZaC mix Try.func27 [.v (.agg #[.slice aM aL aU,.slice aO aK aV,.slice aP aN aT,.slice aQ aR aS,.bool aA]),.v (.slice p1a p1n p1c),.v (.int .u8 p2)] [] (by kernel_rfl) (Eq.mp (by kernel_rfl) h)
noncomputable def ZrJ:Env:={ EB with
 loops:=(fun i=>bif Nat.beq i 8 then⟨[(9,.slice),(26,.int .i64)],[100000],[(38,1),(900,1)],false⟩ else⟨[],[],[],false⟩)
 tokOf:=(fun i=>bif Nat.beq i 38 then 38 else 0)
 borrow:=(fun i=>bif Nat.beq i 23 then[100000]else bif Nat.beq i 43 then[100000]else[])
 frzNew:=[4]
 thaw:=true
 tails:=true
 lentC:=(fun i=>bif Nat.beq i 23 then some [(900,1)]else bif Nat.beq i 43 then some [(900,1)]else none) }
def Zin(aM:Option Addr)(aL aU:Nat)(aO:Option Addr)(aK aV:Nat)(aP:Option Addr)(aN aT:Nat)(aQ:Option Addr)(aR aS:Nat)(aA:Bool)(p1a:Option Addr)(p1n p1c:Nat)(p2:Bool)(p3g:Nat)(p3fi p3ca:List Value)(ca:Option Addr)(cn cc cb:Nat)(t0a:Option Addr)(t0n t0c:Nat)(m:Mem)(Y:Nat→Prop)(R:RTY):Prop:=
 ∀(b:Nat)(m':Mem),Mem.le m m'→Mem.reads m' b 0 [slice aM aL aU,slice aO aK aV,slice aP aN aT,slice aQ aR aS,Value.bool aA]→Mem.free m b→(∀(b' o:Nat)(u:Value),
 m' b' o=some u→m b' o=some u∨b'=b)→∃(R_1:RT),True∧CX Try.prog 21 (Array.mk [agg (Array.mk [slice aM aL aU,slice aO aK aV,slice aP aN aT,slice aQ aR aS,Value.bool
 aA])]) m' [] R_1∧ZaJ Shape.bool R_1∧∀(ar:Bool)(ai:Mem),Mem.le m' ai→R_1 (Value.bool ar) ai []→br (!ar) (Box.mk cb [slice ca cn cc] 24 1 false true=Box.mk cb [slice ca cn cc] 24 1 false true∧R (int
 i64 171) ai [[slice ca cn cc]] [slice t0a t0n t0c]) (br (decide ((↑p1n:Int) > (4096:Int))) (Box.mk cb [slice ca cn cc] 24 1 false true=Box.mk cb [slice ca cn cc] 24 1 false true∧R (int i64 3) ai [[slice ca cn
 cc]] [slice t0a t0n t0c]) (∀(ac:Nat),Mem.free ai ac→∃(ao:Nat→Prop),∃(R_2:Value→Mem→List (List Value)→List Value→Prop),CXY Try.prog p3g (Array.mk (List.append (List.append p3fi [int i64 0,slice
 (some (Addr.mk ac 0 none)) 1 1]) p3ca)) (Mem.add ai ac [int i64 (-1:Int)]) ao [Box.mk cb [slice ca cn cc] 24 1 false true] [Tok.mk (slice t0a t0n t0c) 1] R_2∧(∀(t:Tok),t∈[Tok.mk (slice t0a t0n t0c) 1]→∀(b:
 Nat),Tok.blk t=some b→ao b)∧(∀(ak:Nat),ao ak→(∃(t:Tok),t∈[Tok.mk (slice t0a t0n t0c) 1]∧Tok.blk t=some ak)∨Mem.free (Mem.off m Y) ak∧(∃(o:Nat),∃(v:Value),Mem.add ai ac [int i64 (-1:
 Int)] ak o=some v)∧ac≠ak∧b≠ak∧True)∧(∀(v:Value)(m':Mem) (css:List (List Value)) (tvs:List Value),R_2 v m' css tvs→Shape.fits (Shape.tup []) v=true)∧∀(m':Mem),Mem.le (Mem.off (Mem.add
 ai ac [int i64 (-1:Int)]) ao) m'→(∀(b o:Nat)(u:Value),m' b o=some u→Mem.add ai ac [int i64 (-1:Int)] b o=some u∨ao b∨Mem.free (Mem.add ai ac [int i64 (-1:Int)]) b)→∀(cs:List Value) (a:
 Option Addr) (c d:Nat),R_2 (Value.tuple (Array.mk [])) m' [cs] [slice a c d]→∃(I:IT),(∃(n:Nat),I [slice (some (Addr.mk ac 0 none)) 1 1,int i64 0] [cs] [slice none 0 0,slice a c d] m' n)∧∀(a:Option
 Addr) (n c:Nat) (aj:Int) (cs:List Value) (al:Option Addr) (am an:Nat) (af:Option Addr) (ag ah:Nat) (m':Mem) (ap:Nat),True→I [slice a n c,int i64 aj] [cs] [slice al am an,slice af ag ah] m' ap→br
 (decide (aj < (↑p1n:Int))) (∃(ak:Nat),∃(o:Nat),p1a=some (Addr.mk ak o none)∧Zaf aj p1n∧∃(v:Value),m' ak (o+Int.toNat aj*1)=some v∧∃(R:RT),True∧CX Try.prog 79 (Array.mk [agg
 (Array.mk [slice aM aL aU,slice aO aK aV,slice aP aN aT,slice aQ aR aS,Value.bool aA]),slice a n c,v]) m' [] R∧ZaJ Shape.slice R∧∀(a:Option Addr)(n c:Nat) (ad:
 Mem),Mem.le m' ad→R (slice a n c) ad []→br p2 (∀(aa:Nat),Mem.free ad aa→br (Nat.beq n 0) (∃(ae:Nat→Prop),∃(R:Value→Mem→List (List Value)→List Value→Prop),CXY Try.prog p3g (Array.mk
 (List.append (List.append p3fi [int i64 (IntKind.wrap i64 (aj+(1:Int))),slice (some (Addr.mk aa 0 none)) 1 1]) p3ca)) (Mem.add ad aa [int i64 (-1:Int)]) ae [Box.mk cb cs 24 1 false true] [Tok.mk (slice af ag ah)
 1] R∧(∀(t:Tok),t∈[Tok.mk (slice af ag ah) 1]→∀(b:Nat),Tok.blk t=some b→ae b)∧(∀(ab:Nat),ae ab→(∃(t:Tok),t∈[Tok.mk (slice af ag ah) 1]∧Tok.blk t=some ab)∨Mem.free (Mem.off m Y) ab∧
 (∃(o:Nat),∃(v:Value),Mem.add ad aa [int i64 (-1:Int)] ab o=some v)∧aa≠ab∧ac≠ab∧b≠ab∧Tok.blk (Tok.mk (slice al am an) 1)≠some ab∧Tok.blk (Tok.mk (slice al am an) 1)≠some ab∧True)∧(∀(v
 : Value) (m':Mem) (css:List (List Value)) (tvs:List Value),R v m' css tvs→Shape.fits (Shape.tup []) v=true)∧∀(m':Mem),Mem.le (Mem.off (Mem.add ad aa [int i64 (-1:Int)]) ae) m'→(∀(b o:Nat) (u:
 Value),m' b o=some u→Mem.add ad aa [int i64 (-1:Int)] b o=some u∨ae b∨Mem.free (Mem.add ad aa [int i64 (-1:Int)]) b)→∀(cs:List Value)(a:Option Addr)(c d:Nat),R (Value.tuple (Array.mk [])) m'
 [cs] [slice a c d]→[some (Box.mk ac [int i64 (-1:Int)] 3 1 true true),some (Box.mk b [slice aM aL aU,slice aO aK aV,slice aP aN aT,slice aQ aR aS,Value.bool aA] 26 5 true
 true),some (Box.mk cb [] 24 1 false true)]=[some (Box.mk ac [int i64 (-1:Int)] 3 1 true true),some (Box.mk b [slice aM aL aU,slice aO aK aV,slice aP aN aT,slice aQ aR aS,
 Value.bool aA] 26 5 true true),some (Box.mk cb [] 24 1 false true)]∧([none,none]:List (Option Tok))=[none,none]∧∃(n':Nat),n' < ap∧I [slice (some (Addr.mk aa 0 none)) 1 1,int i64 (IntKind.wrap i64 (aj
 + (1:Int)))] [cs] [slice al am an,slice a c d] m' n') (((∃(a:Option Addr),∃(n:Nat),∃(c:Nat),∃(k:Nat),Tok.mk (slice al am an) 1=Tok.mk (slice a n c) 1∧k≤n∧slice (some (Addr.mk aa 0 none)) 1 1 =
 slice (ZbS a k c 1) (n - k) (c - k))∨slice (some (Addr.mk aa 0 none)) 1 1=slice none 0 0∨1 < 1+n)∧∃(xs:List Value),∃(ys:List Value),List.length xs=1*1∧List.length ys=n*1∧rowRd (Mem.add
 ad aa [int i64 (-1:Int)]) (some (Addr.mk aa 0 none)) xs∧rowRd (Mem.add ad aa [int i64 (-1:Int)]) a ys∧(∀(u:Value),u∈ys→Value.oneCell' u=true)∧(1+n)*8≤140737488355328∧1+n ≤
 9223372036854775807∧∀(a':Option Addr)(c':Nat)(m':Mem),Mem.le (Mem.add ad aa [int i64 (-1:Int)]) m'→rowRd m' a' (List.append xs ys)→TokFact (Mem.add ad aa [int i64 (-1:Int)]) (some (Addr.mk aa 0
 none)) a' (1+n) c'→∃(ae:Nat→Prop),∃(R:Value→Mem→List (List Value)→List Value→Prop),CXY Try.prog p3g (Array.mk (List.append (List.append p3fi [int i64 (IntKind.wrap i64 (aj+(1:Int))),slice a'
 (1+n) c']) p3ca)) m' ae [Box.mk cb cs 24 1 false true] [Tok.mk (slice af ag ah) 1] R∧(∀(t:Tok),t∈[Tok.mk (slice af ag ah) 1]→∀(b:Nat),Tok.blk t=some b→ae b)∧(∀(ab:Nat),ae ab→(∃(t:Tok),t ∈
 [Tok.mk (slice af ag ah) 1]∧Tok.blk t=some ab)∨Mem.free (Mem.off m Y) ab∧(∃(o:Nat),∃(v:Value),m' ab o=some v)∧aa≠ab∧ac≠ab∧b≠ab∧Tok.blk (Tok.mk (slice a' (1+n) c') 1)≠some ab∧Tok.blk
 (Tok.mk (slice a' (1+n) c') 1)≠some ab∧True)∧(∀(v:Value)(m':Mem) (css:List (List Value)) (tvs:List Value),R v m' css tvs→Shape.fits (Shape.tup []) v=true)∧∀(aq:Mem),Mem.le (Mem.off m' ae) aq
 → (∀(b o:Nat)(u:Value),aq b o=some u→m' b o=some u∨ae b∨Mem.free m' b)→∀(cs:List Value)(a:Option Addr)(c d:Nat),R (Value.tuple (Array.mk [])) aq [cs] [slice a c d]→[some (Box.mk ac [int
 i64 (-1:Int)] 3 1 true true),some (Box.mk b [slice aM aL aU,slice aO aK aV,slice aP aN aT,slice aQ aR aS,Value.bool aA] 26 5 true true),some (Box.mk cb [] 24 1 false true)]
 = [some (Box.mk ac [int i64 (-1:Int)] 3 1 true true),some (Box.mk b [slice aM aL aU,slice aO aK aV,slice aP aN aT,slice aQ aR aS,Value.bool aA] 26 5 true true),some (Box.mk
 cb [] 24 1 false true)]∧([none,none]:List (Option Tok))=[none,none]∧∃(n':Nat),n' < ap∧I [slice a' (1+n) c',int i64 (IntKind.wrap i64 (aj+(1:Int)))] [cs] [slice a' (1+n) c',slice a c d] aq n'))
 (∃(ae:Nat→Prop),∃(R:Value→Mem→List (List Value)→List Value→Prop),CXY Try.prog p3g (Array.mk (List.append (List.append p3fi [int i64 (IntKind.wrap i64 (aj+(1:Int))),slice a n c]) p3ca)) ad ae
 [Box.mk cb cs 24 1 false true] [Tok.mk (slice af ag ah) 1] R∧(∀(t:Tok),t∈[Tok.mk (slice af ag ah) 1]→∀(b:Nat),Tok.blk t=some b→ae b)∧(∀(aa:Nat),ae aa→(∃(t:Tok),t∈[Tok.mk (slice af ag ah)
 1]∧Tok.blk t=some aa)∨Mem.free (Mem.off m Y) aa∧(∃(o:Nat),∃(v:Value),ad aa o=some v)∧ac≠aa∧b≠aa∧Tok.blk (Tok.mk (slice al am an) 1)≠some aa∧True)∧(∀(v:Value)(m':Mem) (css:List
 (List Value)) (tvs:List Value),R v m' css tvs→Shape.fits (Shape.tup []) v=true)∧∀(m':Mem),Mem.le (Mem.off ad ae) m'→(∀(b o:Nat)(u:Value),m' b o=some u→ad b o=some u∨ae b∨Mem.free ad b)→
 ∀(cs:List Value)(au:Option Addr)(av d:Nat),R (Value.tuple (Array.mk [])) m' [cs] [slice au av d]→[some (Box.mk ac [int i64 (-1:Int)] 3 1 true true),some (Box.mk b [slice aM aL aU,slice aO
 aK aV,slice aP aN aT,slice aQ aR aS,Value.bool aA] 26 5 true true),some (Box.mk cb [] 24 1 false true)]=[some (Box.mk ac [int i64 (-1:Int)] 3 1 true true),some (Box.mk b [slice aM
 aL aU,slice aO aK aV,slice aP aN aT,slice aQ aR aS,Value.bool aA] 26 5 true true),some (Box.mk cb [] 24 1 false true)]∧([none,none]:List (Option Tok))=[none,none]∧∃(n'
 : Nat),n' < ap∧I [slice a n c,int i64 (IntKind.wrap i64 (aj+(1:Int)))] [cs] [slice al am an,slice au av d] m' n')) (Box.mk cb [slice ca cn cc] 24 1 false true=Box.mk cb [slice ca cn cc] 24 1 false true∧R
 (int i64 0) m' [cs] [slice af ag ah])))
theorem ZjC(aM:Option Addr)(aL aU:Nat)(aO:Option Addr)(aK aV:Nat)(aP:Option Addr)(aN aT:Nat)(aQ:Option Addr)(aR aS:Nat)(aA:Bool)(p1a:Option Addr)(p1n p1c:Nat)(p2:Bool)(p3g:Nat)(p3fi p3ca:List Value)(ca:Option Addr)(cn cc cb:Nat)(t0a:Option Addr)(t0n t0c:Nat)(m:Mem)(Y:Nat→Prop)(R:RTY)(h:Zin aM aL aU aO aK aV aP aN aT aQ aR aS aA p1a p1n p1c p2 p3g p3fi p3ca ca cn cc cb t0a t0n t0c m Y R):CXY Try.prog 80 #[.agg #[.slice aM aL aU,.slice aO aK aV,.slice aP aN aT,.slice aQ aR aS,.bool aA],.slice p1a p1n p1c,.bool p2,.func (.func p3g) p3fi.toArray p3ca.toArray] m Y [⟨cb,[.slice ca cn cc],24,1,false,true⟩] [⟨.slice t0a t0n t0c,1⟩] R:=
 ZaV (E:=ZrJ) ZaC mix Try.func80 [.v (.agg #[.slice aM aL aU,.slice aO aK aV,.slice aP aN aT,.slice aQ aR aS,.bool aA]),.v (.slice p1a p1n p1c),.v (.bool p2),.v (.func (.func p3g) p3fi.toArray p3ca.toArray)] [⟨cb,[.slice ca cn cc],24,1,false,true⟩] [900] [⟨.slice t0a t0n t0c,1⟩] (by decide) (by kernel_rfl) (Eq.mp (by kernel_rfl) h)
noncomputable def Zoa:Env:={ EB with
 thaw:=true }
def ZhU(p0:Int)(p1a:Option Addr)(p1n p1c c0b:Nat)(c0_0a:Option Addr)(c0_0n c0_0c:Nat)(t0a:Option Addr)(t0n t0c:Nat)(m:Mem)(Y:Nat→Prop)(R:RTY):Prop:=
 Box.mk c0b [slice c0_0a c0_0n c0_0c] 24 1 false true=Box.mk c0b [slice c0_0a c0_0n c0_0c] 24 1 false true∧R (Value.tuple (Array.mk [])) m [[slice p1a p1n p1c]] [slice t0a t0n t0c]
theorem Zkz(p0:Int)(p1a:Option Addr)(p1n p1c c0b:Nat)(c0_0a:Option Addr)(c0_0n c0_0c:Nat)(t0a:Option Addr)(t0n t0c:Nat)(m:Mem)(Y:Nat→Prop)(R:RTY)(h:ZhU p0 p1a p1n p1c c0b c0_0a c0_0n c0_0c t0a t0n t0c m Y R):CXY Try.prog 81 #[.int .i64 p0,.slice p1a p1n p1c,.pointer (some ⟨c0b,0,none⟩)] m Y [⟨c0b,[.slice c0_0a c0_0n c0_0c],24,1,false,true⟩] [⟨.slice t0a t0n t0c,1⟩] R:=
 ZaV (E:=Zoa) ZaC mix Try.func81 [.v (.int .i64 p0),.v (.slice p1a p1n p1c),.loc 100000 0] [⟨c0b,[.slice c0_0a c0_0n c0_0c],24,1,false,true⟩] [900] [⟨.slice t0a t0n t0c,1⟩] (by decide) (by kernel_rfl) (Eq.mp (by kernel_rfl) h)
noncomputable def ZrK:Env:={ EB with
 borrow:=(fun i=>bif Nat.beq i 11 then[6]else[])
 frzNew:=[2]
 thaw:=true
 lentC:=(fun i=>bif Nat.beq i 11 then some [(900,1)]else none) }
def Zio(aM:Option Addr)(aL aU:Nat)(aO:Option Addr)(aK aV:Nat)(aP:Option Addr)(aN aT:Nat)(aQ:Option Addr)(aR aS:Nat)(aA:Bool)(p1a:Option Addr)(p1n p1c:Nat)(m:Mem)(R:RT):Prop:=
 ∀(b:Nat)(m':Mem),Mem.le m m'→Mem.reads m' b 0 [slice aM aL aU,slice aO aK aV,slice aP aN aT,slice aQ aR aS,Value.bool aA]→Mem.free m b→(∀(b' o:Nat)(u:Value),
 m' b' o=some u→m b' o=some u∨b'=b)→∀(b_1:Nat),∃(Y:Nat→Prop),∃(R_1:Value→Mem→List (List Value)→List Value→Prop),CXY Try.prog 80 (Array.mk [agg (Array.mk [slice aM aL aU,slice
 aO aK aV,slice aP aN aT,slice aQ aR aS,Value.bool aA]),slice p1a p1n p1c,Value.bool false,Value.func (Fn.func 81) (Array.mk []) (Array.mk [Value.pointer (some (Addr.mk b_1 0 none))])])
 m' Y [Box.mk b_1 [slice none 0 0] 24 1 false true] [Tok.mk (slice none 0 0) 1] R_1∧(∀(t:Tok),t∈[Tok.mk (slice none 0 0) 1]→∀(b:Nat),Tok.blk t=some b→Y b)∧(∀(b_2:Nat),Y b_2→(∃(t:Tok),t ∈
 [Tok.mk (slice none 0 0) 1]∧Tok.blk t=some b_2)∨Mem.free m b_2∧(∃(o:Nat),∃(v:Value),m' b_2 o=some v)∧b≠b_2∧True)∧(∀(v:Value)(m':Mem) (css:List (List Value)) (tvs:List Value),R_1 v m'
 css tvs→Shape.fits (Shape.int i64) v=true)∧∀(n:Int)(m'_1:Mem),Mem.le (Mem.off m' Y) m'_1→(∀(b o:Nat)(u:Value),m'_1 b o=some u→m' b o=some u∨Y b∨Mem.free m' b)→∀(cs:List Value) (a:
 Option Addr) (c d:Nat),R_1 (int i64 n) m'_1 [cs] [slice a c d]→Eng.Zr2 cs 0 fun(v:Value)=>∃(m'':Mem),Mem.le m m''∧Mem.le m'' m'_1∧R (Value.tuple (Array.mk [v,int i64 n])) m'' []
theorem Zlx(aM:Option Addr)(aL aU:Nat)(aO:Option Addr)(aK aV:Nat)(aP:Option Addr)(aN aT:Nat)(aQ:Option Addr)(aR aS:Nat)(aA:Bool)(p1a:Option Addr)(p1n p1c:Nat)(m:Mem)(R:RT)(h:Zio aM aL aU aO aK aV aP aN aT aQ aR aS aA p1a p1n p1c m R):CX Try.prog 29 #[.agg #[.slice aM aL aU,.slice aO aK aV,.slice aP aN aT,.slice aQ aR aS,.bool aA],.slice p1a p1n p1c] m [] R:=
 Zal (E:=ZrK) ZaC mix Try.func29 [.v (.agg #[.slice aM aL aU,.slice aO aK aV,.slice aP aN aT,.slice aQ aR aS,.bool aA]),.v (.slice p1a p1n p1c)] [] (by kernel_rfl) (Eq.mp (by kernel_rfl) h)
noncomputable def ZiN:Env:={ EB with
 tokOf:=(fun i=>bif Nat.beq i 12 then 900 else 0)
 thaw:=true }
def Ze9(p0:Int)(p1a:Option Addr)(p1n p1c c0b c0o c1b:Nat)(c1_0a:Option Addr)(c1_0n c1_0c:Nat)(t0a:Option Addr)(t0n t0c:Nat)(m:Mem)(Y:Nat→Prop)(R:RTY):Prop:=
 ∃(v:Value),∃(v_1:Value),∃(v_2:Value),∃(v_3:Value),∃(v_4:Value),Mem.reads m c0b c0o [v,v_1,v_2,v_3,v_4]∧∃(R_1:RT),True∧CX Try.prog 68 (Array.mk [agg (Array.mk [v,v_1,v_2,v_3,v_4]),
 slice p1a p1n p1c]) m [] R_1∧ZaJ Shape.bool R_1∧∀(b:Bool)(m':Mem),Mem.le m m'→R_1 (Value.bool b) m' []→br b (∀(b:Nat),Mem.free m' b→(Tok.mk (slice t0a t0n t0c) 1=Tok.mk (slice c1_0a c1_0n c1_0c)
 1∨slice c1_0a c1_0n c1_0c=slice none 0 0∨c1_0c < c1_0n+1)∧∃(xs:List Value),∃(ys:List Value),List.length xs=c1_0n*1∧List.length ys=1*1∧rowRd (Mem.add m' b [int i64 p0]) c1_0a xs∧rowRd
 (Mem.add m' b [int i64 p0]) (some (Addr.mk b 0 none)) ys∧(∀(u:Value),u∈ys→Value.oneCell' u=true)∧(c1_0n+1)*8≤140737488355328∧c1_0n+1≤9223372036854775807∧∀(a':Option Addr)(c':Nat) (m'_1
 : Mem),Mem.le (Mem.add m' b [int i64 p0]) m'_1→rowRd m'_1 a' (List.append xs ys)→TokFact (Mem.add m' b [int i64 p0]) c1_0a a' (c1_0n+1) c'→Box.mk c1b [slice c1_0a c1_0n c1_0c] 24 1 false true=Box.mk c1b
 [slice c1_0a c1_0n c1_0c] 24 1 false true∧R (Value.tuple (Array.mk [])) m'_1 [[slice a' (c1_0n+1) c']] [slice a' (c1_0n+1) c']) (Box.mk c1b [slice c1_0a c1_0n c1_0c] 24 1 false true=Box.mk c1b [slice c1_0a c1_0n
 c1_0c] 24 1 false true∧R (Value.tuple (Array.mk [])) m' [[slice c1_0a c1_0n c1_0c]] [slice t0a t0n t0c])
theorem Zg2(p0:Int)(p1a:Option Addr)(p1n p1c c0b c0o c1b:Nat)(c1_0a:Option Addr)(c1_0n c1_0c:Nat)(t0a:Option Addr)(t0n t0c:Nat)(m:Mem)(Y:Nat→Prop)(R:RTY)(h:Ze9 p0 p1a p1n p1c c0b c0o c1b c1_0a c1_0n c1_0c t0a t0n t0c m Y R):CXY Try.prog 82 #[.int .i64 p0,.slice p1a p1n p1c,.pointer (some ⟨c0b,c0o,none⟩),.pointer (some ⟨c1b,0,none⟩)] m Y [⟨c1b,[.slice c1_0a c1_0n c1_0c],24,1,false,true⟩] [⟨.slice t0a t0n t0c,1⟩] R:=
 ZaV (E:=ZiN) ZaC mix Try.func82 [.v (.int .i64 p0),.v (.slice p1a p1n p1c),.v (.pointer (some ⟨c0b,c0o,none⟩)),.loc 100000 0] [⟨c1b,[.slice c1_0a c1_0n c1_0c],24,1,false,true⟩] [900] [⟨.slice t0a t0n t0c,1⟩] (by decide) (by kernel_rfl) (Eq.mp (by kernel_rfl) h)
noncomputable def Zmc:Env:={ EB with
 borrow:=(fun i=>bif Nat.beq i 11 then[6]else[])
 frzNew:=[2]
 thaw:=true
 lentC:=(fun i=>bif Nat.beq i 11 then some [(900,1)]else none) }
def ZeD(aM:Option Addr)(aL aU:Nat)(aO:Option Addr)(aK aV:Nat)(aP:Option Addr)(aN aT:Nat)(aQ:Option Addr)(aR aS:Nat)(aA:Bool)(p1a:Option Addr)(p1n p1c:Nat)(m:Mem)(R:RT):Prop:=
 ∀(b:Nat)(m':Mem),Mem.le m m'→Mem.reads m' b 0 [slice aM aL aU,slice aO aK aV,slice aP aN aT,slice aQ aR aS,Value.bool aA]→Mem.free m b→(∀(b' o:Nat)(u:Value),
 m' b' o=some u→m b' o=some u∨b'=b)→∀(b_1:Nat),∃(Y:Nat→Prop),∃(R_1:Value→Mem→List (List Value)→List Value→Prop),CXY Try.prog 80 (Array.mk [agg (Array.mk [slice aM aL aU,slice
 aO aK aV,slice aP aN aT,slice aQ aR aS,Value.bool aA]),slice p1a p1n p1c,Value.bool true,Value.func (Fn.func 82) (Array.mk []) (Array.mk [Value.pointer (some (Addr.mk b 0 none)),
 Value.pointer (some (Addr.mk b_1 0 none))])]) m' Y [Box.mk b_1 [slice none 0 0] 24 1 false true] [Tok.mk (slice none 0 0) 1] R_1∧(∀(t:Tok),t∈[Tok.mk (slice none 0 0) 1]→∀(b:Nat),Tok.blk t=some b→Y b)∧
 (∀(b_2:Nat),Y b_2→(∃(t:Tok),t∈[Tok.mk (slice none 0 0) 1]∧Tok.blk t=some b_2)∨Mem.free m b_2∧(∃(o:Nat),∃(v:Value),m' b_2 o=some v)∧b≠b_2∧True)∧(∀(v:Value)(m':Mem) (css:List
 (List Value)) (tvs:List Value),R_1 v m' css tvs→Shape.fits (Shape.int i64) v=true)∧∀(n:Int)(m'_1:Mem),Mem.le (Mem.off m' Y) m'_1→(∀(b o:Nat)(u:Value),m'_1 b o=some u→m' b o=some u∨Y b∨
 Mem.free m' b)→∀(cs:List Value)(a:Option Addr)(c d:Nat),R_1 (int i64 n) m'_1 [cs] [slice a c d]→Eng.Zr2 cs 0 fun(v:Value)=>∃(m'':Mem),Mem.le m m''∧Mem.le m'' m'_1∧R (Value.tuple (Array.mk [v,
 int i64 n])) m'' []
theorem ZgQ(aM:Option Addr)(aL aU:Nat)(aO:Option Addr)(aK aV:Nat)(aP:Option Addr)(aN aT:Nat)(aQ:Option Addr)(aR aS:Nat)(aA:Bool)(p1a:Option Addr)(p1n p1c:Nat)(m:Mem)(R:RT)(h:ZeD aM aL aU aO aK aV aP aN aT aQ aR aS aA p1a p1n p1c m R):CX Try.prog 30 #[.agg #[.slice aM aL aU,.slice aO aK aV,.slice aP aN aT,.slice aQ aR aS,.bool aA],.slice p1a p1n p1c] m [] R:=
 Zal (E:=Zmc) ZaC mix Try.func30 [.v (.agg #[.slice aM aL aU,.slice aO aK aV,.slice aP aN aT,.slice aQ aR aS,.bool aA]),.v (.slice p1a p1n p1c)] [] (by kernel_rfl) (Eq.mp (by kernel_rfl) h)
noncomputable def ZkA:Env:={ EB with
 joins:=(fun i=>bif Nat.beq i 2 then some [(4,.bool),(5,.int .i64)]else none)
 frzNew:=[2] }
def ZdR(aM:Option Addr)(aL aU:Nat)(aO:Option Addr)(aK aV:Nat)(aP:Option Addr)(aN aT:Nat)(aQ:Option Addr)(aR aS:Nat)(aA:Bool)(p1a:Option Addr)(p1n p1c:Nat)(m:Mem)(R:RT):Prop:=
 ∀(b:Nat)(m':Mem),Mem.le m m'→Mem.reads m' b 0 [slice aM aL aU,slice aO aK aV,slice aP aN aT,slice aQ aR aS,Value.bool aA]→∃(R_1:RT),True∧CX Try.prog 29
 (Array.mk [agg (Array.mk [slice aM aL aU,slice aO aK aV,slice aP aN aT,slice aQ aR aS,Value.bool aA]),slice p1a p1n p1c]) m' [] R_1∧ZaJ (Shape.tup [Shape.slice,Shape.int
 i64]) R_1∧∀(a:Option Addr)(n c:Nat)(n_1:Int)(m'_1:Mem),Mem.le m' m'_1→R_1 (Value.tuple (Array.mk [slice a n c,int i64 n_1])) m'_1 []→∃(b_1:Bool),∃(n_2:Int),br (n_1 == (0:Int)) (∃(R:RT),
 True∧CX Try.prog 68 (Array.mk [agg (Array.mk [slice aM aL aU,slice aO aK aV,slice aP aN aT,slice aQ aR aS,Value.bool aA]),slice a n c]) m'_1 [] R∧ZaJ Shape.bool R∧∀(b_2
 : Bool) (m':Mem),Mem.le m'_1 m'→R (Value.bool b_2) m' []→[some (Box.mk b [slice aM aL aU,slice aO aK aV,slice aP aN aT,slice aQ aR aS,Value.bool aA] 26 5 true true)] =
 [some (Box.mk b [slice aM aL aU,slice aO aK aV,slice aP aN aT,slice aQ aR aS,Value.bool aA] 26 5 true true)]∧[Value.bool b_2,int i64 n_1]=[Value.bool b_1,int i64 n_2])
 ([some (Box.mk b [slice aM aL aU,slice aO aK aV,slice aP aN aT,slice aQ aR aS,Value.bool aA] 26 5 true true)]=[some (Box.mk b [slice aM aL aU,slice aO aK
 aV,slice aP aN aT,slice aQ aR aS,Value.bool aA] 26 5 true true)]∧[Value.bool false,int i64 n_1]=[Value.bool b_1,int i64 n_2])∧∃(m'':Mem),Mem.le m m''∧Mem.le m'' m'_1∧R
 (Value.tuple (Array.mk [Value.bool b_1,int i64 n_2])) m'' []
theorem ZfY(aM:Option Addr)(aL aU:Nat)(aO:Option Addr)(aK aV:Nat)(aP:Option Addr)(aN aT:Nat)(aQ:Option Addr)(aR aS:Nat)(aA:Bool)(p1a:Option Addr)(p1n p1c:Nat)(m:Mem)(R:RT)(h:ZdR aM aL aU aO aK aV aP aN aT aQ aR aS aA p1a p1n p1c m R):CX Try.prog 18 #[.agg #[.slice aM aL aU,.slice aO aK aV,.slice aP aN aT,.slice aQ aR aS,.bool aA],.slice p1a p1n p1c] m [] R:=
 Zal (E:=ZkA) ZaC mix Try.func18 [.v (.agg #[.slice aM aL aU,.slice aO aK aV,.slice aP aN aT,.slice aQ aR aS,.bool aA]),.v (.slice p1a p1n p1c)] [] (by kernel_rfl) (Eq.mp (by kernel_rfl) h)
noncomputable def Zpr:Env:={ EB with
 loops:=(fun i=>bif Nat.beq i 6 then⟨[(21,.int .i64)],[6],[],false⟩ else⟨[],[],[],false⟩)
 dr:=(fun i=>bif Nat.beq i 4 then[⟨0,[1],[],none,[],[]⟩,⟨1,[],[],none,[0],[]⟩,⟨2,[4],[],none,[],[]⟩,⟨3,[],[],none,[0,1,2],[1]⟩,⟨4,[6],[6],none,[],[]⟩,⟨5,[7],[7],none,[],[]⟩,⟨6,[6],[6],none,[0,1,2,3,4,5],[]⟩,⟨7,[7],[7],none,[0,1,2,3,4,5,6],[]⟩]else bif Nat.beq i 8 then[⟨0,[],[],none,[],[]⟩,⟨1,[6],[],none,[0],[]⟩,⟨2,[6],[],none,[0,1],[]⟩,⟨3,[],[],none,[],[]⟩,⟨4,[7],[],none,[3],[]⟩,⟨5,[7],[],none,[3,4],[]⟩,⟨6,[],[],none,[0,1,2,3,4,5],[]⟩,⟨7,[6],[],none,[0,1,2,3,4,5,6],[]⟩,⟨8,[6],[6],none,[0,1,2,3,4,5,6,7],[]⟩]else[])
 frzNew:=[1]
 frzAt:=(fun i=>bif Nat.beq i 33 then[6]else[]) }
def ZjD(aM:Option Addr)(aL aU:Nat)(aO:Option Addr)(aK aV:Nat)(aP:Option Addr)(aN aT:Nat)(aQ:Option Addr)(aR aS:Nat)(aA:Bool)(m:Mem)(R:RT):Prop:=
 ∀(b:Nat)(m':Mem),Mem.le m m'→Mem.reads m' b 0 [slice aM aL aU,slice aO aK aV,slice aP aN aT,slice aQ aR aS,Value.bool aA]→∃(R_1:RT),True∧CX Try.prog 16
 (Array.mk [agg (Array.mk [slice aM aL aU,slice aO aK aV,slice aP aN aT,slice aQ aR aS,Value.bool aA])]) m' [] R_1∧ZaJ (Shape.tup [Shape.agg [Shape.slice,Shape.slice,
 Shape.slice,Shape.slice,Shape.bool],Shape.int i64]) R_1∧∀(a:Option Addr)(n c:Nat)(ak:Option Addr)(al am:Nat)(an:Option Addr)(ao ap:Nat)(aq:Option Addr)(ar au:Nat)(av:Bool)(ay:Int) (ab
 : Mem),Mem.le m' ab→R_1 (Value.tuple (Array.mk [agg (Array.mk [slice a n c,slice ak al am,slice an ao ap,slice aq ar au,Value.bool av]),int i64 ay])) ab []→∀(a0:Nat),br (!ay == (0:Int)) (∃(m'':Mem),
 Mem.le m m''∧Mem.le m'' ab∧R (Value.tuple (Array.mk [slice none 0 0,int i64 ay])) m'' []) (∃(f:Fx),∃(R_2:RT),R_2=f 1 [agg (Array.mk [slice aM aL aU,slice aO aK aV,slice aP aN
 aT,slice aQ aR aS,Value.bool aA])] ab∧CX Try.prog 69 (Array.mk [agg (Array.mk [slice aM aL aU,slice aO aK aV,slice aP aN aT,slice aQ aR aS,Value.bool aA])]) ab
 [] R_2∧ZaJ (Shape.agg [Shape.int u64,Shape.int u64,Shape.int u64,Shape.int u64,Shape.int u64,Shape.int u64,Shape.int u64]) R_2∧∀(a1 a2 a3 a4 a5 a6 a7:Int)(m':Mem),Mem.le ab m'→R_2 (agg (Array.mk [int
 u64 a1,int u64 a2,int u64 a3,int u64 a4,int u64 a5,int u64 a6,int u64 a7])) m' []→∃(R_3:RT),R_3=f 3 [agg (Array.mk [slice a n c,slice ak al am,slice an ao ap,slice aq ar au,Value.bool av])] m'∧CX
 Try.prog 69 (Array.mk [agg (Array.mk [slice a n c,slice ak al am,slice an ao ap,slice aq ar au,Value.bool av])]) m' [] R_3∧ZaJ (Shape.agg [Shape.int u64,Shape.int u64,Shape.int u64,Shape.int u64,Shape.int
 u64,Shape.int u64,Shape.int u64]) R_3∧∀(ac ad ae af ag ah ai:Int)(az:Mem),Mem.le m' az→R_3 (agg (Array.mk [int u64 ac,int u64 ad,int u64 ae,int u64 af,int u64 ag,int u64 ah,int u64 ai])) az []→∀(aj
 aw:Nat) (M:Mem),Mem.le ab M→Mem.le m' M→Mem.le az M→∃(I:IT),(∃(n:Nat),I [int i64 0] [[int u64 a1,int u64 a2,int u64 a3,int u64 a4,int u64 a5,int u64 a6,int u64 a7]] [] M n)∧∀(aa:Int) (cs:
 List Value) (m':Mem) (a8:Nat),Mem.le M m'→I [int i64 aa] [cs] [] m' a8→br (decide (aa < (7:Int))) (Zaf aa 7∧Eng.Zr2 cs (0+Int.toNat aa*1) fun(v:Value)=>Zaf aa 7∧Eng.Zr2 [int u64 ac,int
 u64 ad,int u64 ae,int u64 af,int u64 ag,int u64 ah,int u64 ai] (0+Int.toNat aa*1) fun(a9:Value)=>chk (Zbn u64 v&&Zbn u64 a9) (Zaf aa 7∧chk (Nat.ble (0+Int.toNat aa*1+1) (List.length cs))
 ([some (Box.mk aj [] 100 7 false true),some (Box.mk aw [int u64 ac,int u64 ad,int u64 ae,int u64 af,int u64 ag,int u64 ah,int u64 ai] 100 7 false true),some (Box.mk aj [] 100 7 false true),some (Box.mk aw [int
 u64 ac,int u64 ad,int u64 ae,int u64 af,int u64 ag,int u64 ah,int u64 ai] 100 7 false true),some (Box.mk a0 [slice a n c,slice ak al am,slice an ao ap,slice aq ar au,Value.bool av] 26 5 false true),some
 (Box.mk b [slice aM aL aU,slice aO aK aV,slice aP aN aT,slice aQ aR aS,Value.bool aA] 26 5 true true)]=[some (Box.mk aj [] 100 7 false true),some (Box.mk aw [int u64 ac,int
 u64 ad,int u64 ae,int u64 af,int u64 ag,int u64 ah,int u64 ai] 100 7 false true),some (Box.mk aj [] 100 7 false true),some (Box.mk aw [int u64 ac,int u64 ad,int u64 ae,int u64 af,int u64 ag,int u64 ah,int
 u64 ai] 100 7 false true),some (Box.mk a0 [slice a n c,slice ak al am,slice an ao ap,slice aq ar au,Value.bool av] 26 5 false true),some (Box.mk b [slice aM aL aU,slice aO aK aV,slice aP
 aN aT,slice aQ aR aS,Value.bool aA] 26 5 true true)]∧∃(n':Nat),n' < a8∧I [int i64 (IntKind.wrap i64 (aa+(1:Int)))] [Zan cs (0+Int.toNat aa*1) [int u64 (IntKind.wrap u64
 (↑(BitVec.toNat (BitVec.ofInt 64 (RowKit.intOf v)&&&BitVec.ofInt 64 (RowKit.intOf a9))):Int))]] [] m' n'))) (∀(ax:Mem),Mem.le m' ax→Mem.reads ax aj 0 cs→∃(R_4:RT),True∧CX Try.prog 62 (Array.mk
 [Value.pointer (some (Addr.mk aj 0 none))]) ax [] R_4∧ZaJ Shape.slice R_4∧∀(a:Option Addr)(n c:Nat)(m':Mem),Mem.le ax m'→R_4 (slice a n c) m' []→∃(m'':Mem),Mem.le m m''∧Mem.le m'' m'∧R
 (Value.tuple (Array.mk [slice a n c,int i64 0])) m'' []))
theorem Zob(aM:Option Addr)(aL aU:Nat)(aO:Option Addr)(aK aV:Nat)(aP:Option Addr)(aN aT:Nat)(aQ:Option Addr)(aR aS:Nat)(aA:Bool)(m:Mem)(R:RT)(h:ZjD aM aL aU aO aK aV aP aN aT aQ aR aS aA m R):CX Try.prog 20 #[.agg #[.slice aM aL aU,.slice aO aK aV,.slice aP aN aT,.slice aQ aR aS,.bool aA]] m [] R:=
 Zal (E:=Zpr) ZaC mix Try.func20 [.v (.agg #[.slice aM aL aU,.slice aO aK aV,.slice aP aN aT,.slice aQ aR aS,.bool aA])] [] (by kernel_rfl) (Eq.mp (by kernel_rfl) h)
end Go.Proofs.Ytplacemlpkhmfaa

