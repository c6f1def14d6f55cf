/- Part of the proof: conditions and contracts of functions of this program. No condition of its own. -/
import Derived.Test.YtfgfahnakepegaaGreatPEnv
import Derived.Test.YtfgfahnakepegaaGreatPC08E
import Derived.Test.YtfgfahnakepegaaGreatMr
set_option linter.unusedVariables false
set_option linter.unusedSimpArgs false
set_option linter.unusedSectionVars false
noncomputable section
namespace Go.Proofs.YtfgfahnakepegaaGreat
open Go Go.Eng Go.Proofs Go.RowKit
open Go.Value (int slice agg bool string tuple func)
open Go.IntKind (u8 u64 i64)
set_option maxRecDepth 100000
def ZnU:Env:={ EB with
 frzNew:=[1] }
abbrev ZgP:List Value:=[int i64 0,int i64 0,int i64 0,int i64 0,int i64 0,int i64 0,int i64 0,int i64 0,int i64 0,int i64 0,int i64 0,int i64 0,int i64 0,int i64 0,int i64 0,int i64 0,int
 i64 0,int i64 0,int i64 0,int i64 0,int i64 0,int i64 0,int i64 0,int i64 0,int i64 0,int i64 0,int i64 0,int i64 0,int i64 0,int i64 0,int i64 0,int i64 0,int i64 0,int i64 0,int i64 0,int i64 0,int
 i64 0,int i64 0,int i64 0,int i64 0,int i64 0,int i64 0,int i64 0,int i64 0,int i64 0,int i64 0,int i64 0,int i64 0,int i64 0,int i64 0,int i64 0,int i64 0,int i64 0,int i64 0,int i64 0,int i64 0,int
 i64 0,int i64 0,int i64 0,int i64 0,int i64 0,int i64 0,int i64 0,int i64 0,int i64 0,int i64 0,int i64 0,int i64 0,int i64 0,int i64 0,int i64 0,int i64 0,int i64 0,int i64 0,int i64 0,int i64 0,int
 i64 0,int i64 0,int i64 0,int i64 0,int i64 0,int i64 0,int i64 0,int i64 0,int i64 0,int i64 0,int i64 0,int i64 0,int i64 0,int i64 0,int i64 0,int i64 0,int i64 0,int i64 0,int i64 0,int i64 0,int
 i64 0,int i64 0,int i64 0,int i64 0,int i64 0,int i64 0,int i64 0,int i64 0,int i64 0,int i64 0,int i64 0,int i64 0,int i64 0,int i64 0,int i64 0,int i64 0,int i64 0,int i64 0,int i64 0,int i64 0,int
 i64 0,int i64 0,int i64 0,int i64 0,int i64 0,int i64 0,int i64 0,int i64 0,int i64 0,int i64 0,int i64 0,int i64 0,int i64 0,int i64 0,int i64 0,int i64 0,int i64 0,int i64 0,int i64 0,int i64 0,int
 i64 0,int i64 0,int i64 0,int i64 0,int i64 0,int i64 0,int i64 0,int i64 0,int i64 0,int i64 0,int i64 0,int i64 0,int i64 0,int i64 0,int i64 0,int i64 0,int i64 0,int i64 0,int i64 0,int i64 0,int
 i64 0,int i64 0,int i64 0,int i64 0,int i64 0,int i64 0,int i64 0,int i64 0,int i64 0,int i64 0,int i64 0,int i64 0,int i64 0,int i64 0,int i64 0,int i64 0,int i64 0,int i64 0,int i64 0,int i64 0,int
 i64 0,int i64 0,int i64 0,int i64 0,int i64 0,int i64 0,int i64 0,int i64 0,int i64 0,int i64 0,int i64 0,int i64 0,int i64 0,int i64 0,int i64 0,int i64 0,int i64 0,int i64 0,int i64 0,int i64 0,int
 i64 0,int i64 0,int i64 0,int i64 0,int i64 0,int i64 0,int i64 0,int i64 0,int i64 0,int i64 0,int i64 0,int i64 0,int i64 0,int i64 0,int i64 0,int i64 0,int i64 0,int i64 0,int i64 0,int i64 0,int
 i64 0,int i64 0,int i64 0,int i64 0,int i64 0,int i64 0,int i64 0,int i64 0,int i64 0,int i64 0,int i64 0,int i64 0,int i64 0,int i64 0,int i64 0,int i64 0,int i64 0,int i64 0,int i64 0,int i64 0,int
 i64 0,int i64 0,int i64 0,int i64 0,int i64 0,int i64 0,int i64 0,int i64 0,int i64 0,int i64 0,int i64 0,int i64 0,int i64 0,int i64 0,int i64 0,int i64 0,int i64 0,int i64 0,int i64 0,int i64 0,int
 i64 0,int i64 0,int i64 0,slice none 0 0]
theorem ZlM(p0:List Value)(m:Mem)(R:RT)(h:
 chk (Nat.beq (p0.length) 260) (∀(b:Nat) m',m.le m'->m'.reads b 0 p0->∀(b:Nat),∃R_1,True/\CX pG 75 (.mk [agg (.mk p0)]) m' [] R_1/\ZbT .bool R_1/\∀(b:Bool) m'_1,m'.le m'_1->R_1 (bool b) m'_1 []->br b (chk
 (Nat.beq (p0.length) 260&&Zbi p0) (∃m'',m.le m''/\m''.le m'_1/\R (agg (.mk p0)) m'' [])) (∃m'',m.le m''/\m''.le m'_1/\R (agg (.mk ZgP)) m'' []))):CX Tryz.prog 143 #[.agg p0.toArray] m [] R:=
 Zad (E:=ZnU) Zay mix Tryz.func143 [.v (.agg p0.toArray)] [] (by kernel_rfl) (Eq.mp (by kernel_rfl) h)
def ZnV:Env:={ EB with
 frzNew:=[1] }
abbrev ZgQ:List Value:=[int i64 0,int i64 0,int i64 0,int i64 0,int i64 0,int i64 0,int i64 0,int i64 0,int i64 0,int i64 0,int i64 0,int i64 0,int i64 0,int i64 0,int i64 0,int i64 0,int
 i64 0,int i64 0,int i64 0,int i64 0,int i64 0,int i64 0,int i64 0,int i64 0,int i64 0,int i64 0,int i64 0,int i64 0,int i64 0,int i64 0,int i64 0,int i64 0,int i64 0,int i64 0,int i64 0,int i64 0,int
 i64 0,int i64 0,int i64 0,int i64 0,int i64 0,int i64 0,int i64 0,int i64 0,int i64 0,int i64 0,int i64 0,int i64 0,int i64 0,int i64 0,int i64 0,int i64 0,int i64 0,int i64 0,int i64 0,int i64 0,int
 i64 0,int i64 0,int i64 0,int i64 0,int i64 0,int i64 0,int i64 0,int i64 0,int i64 0,int i64 0,int i64 0,int i64 0,int i64 0,int i64 0,int i64 0,int i64 0,int i64 0,int i64 0,int i64 0,int i64 0,int
 i64 0,int i64 0,int i64 0,int i64 0,int i64 0,int i64 0,int i64 0,int i64 0,int i64 0,int i64 0,int i64 0,int i64 0,int i64 0,int i64 0,int i64 0,int i64 0,int i64 0,int i64 0,int i64 0,int i64 0,int
 i64 0,int i64 0,int i64 0,int i64 0,int i64 0,int i64 0,int i64 0,int i64 0,int i64 0,int i64 0,int i64 0,int i64 0,int i64 0,int i64 0,int i64 0,int i64 0,int i64 0,int i64 0,int i64 0,int i64 0,int
 i64 0,int i64 0,int i64 0,int i64 0,int i64 0,int i64 0,int i64 0,int i64 0,int i64 0,int i64 0,int i64 0,int i64 0,int i64 0,int i64 0,int i64 0,int i64 0,int i64 0,int i64 0,int i64 0,int i64 0,int
 i64 0,int i64 0,int i64 0,int i64 0,int i64 0,int i64 0,int i64 0,int i64 0,int i64 0,int i64 0,int i64 0,int i64 0,int i64 0,int i64 0,int i64 0,int i64 0,int i64 0,int i64 0,int i64 0,int i64 0,int
 i64 0,int i64 0,int i64 0,int i64 0,int i64 0,int i64 0,int i64 0,int i64 0,int i64 0,int i64 0,int i64 0,int i64 0,int i64 0,int i64 0,int i64 0,int i64 0,int i64 0,int i64 0,int i64 0,int i64 0,int
 i64 0,int i64 0,int i64 0,int i64 0,int i64 0,int i64 0,int i64 0,int i64 0,int i64 0,int i64 0,int i64 0,int i64 0,int i64 0,int i64 0,int i64 0,int i64 0,int i64 0,int i64 0,int i64 0,int i64 0,int
 i64 0,int i64 0,int i64 0,int i64 0,int i64 0,int i64 0,int i64 0,int i64 0,int i64 0,int i64 0,int i64 0,int i64 0,int i64 0,int i64 0,int i64 0,int i64 0,int i64 0,int i64 0,int i64 0,int i64 0,int
 i64 0,int i64 0,int i64 0,int i64 0,int i64 0,int i64 0,int i64 0,int i64 0,int i64 0,int i64 0,int i64 0,int i64 0,int i64 0,int i64 0,int i64 0,int i64 0,int i64 0,int i64 0,int i64 0,int i64 0,int
 i64 0,int i64 0,int i64 0,int i64 0,int i64 0,int i64 0,int i64 0,int i64 0,int i64 0,int i64 0,int i64 0,int i64 0,int i64 0,int i64 0,int i64 0,int i64 0,int i64 0,int i64 0,int i64 0,int i64 0,int
 i64 0,int i64 0,int i64 0,slice none 0 0]
theorem ZlN(p0:List Value)(m:Mem)(R:RT)(h:
 chk (Nat.beq (p0.length) 260) (∀(b:Nat) m',m.le m'->m'.reads b 0 p0->∃R_1,True/\CX pG 78 (.mk [agg (.mk p0),agg (.mk ZgQ)]) m' [] R_1/\ZbT .bool R_1/\∀(b:Bool) m'_1,m'.le m'_1->R_1 (bool b) m'_1 []->∃
 m'',m.le m''/\m''.le m'_1/\R (bool b) m'' [])):CX Tryz.prog 144 #[.agg p0.toArray] m [] R:=
 Zad (E:=ZnV) Zay mix Tryz.func144 [.v (.agg p0.toArray)] [] (by kernel_rfl) (Eq.mp (by kernel_rfl) h)
def Zp7:Env:={ EB with
 loops:=swI nLa [(3,⟨[(3,.slice),(4,.int .i64)],[2],[(30,260)],false⟩)]
 tokOf:=swI 0 [(30,30),(43,30)]
 capF:=true }
abbrev Zih:List Value:=[int i64 0,int i64 0,int i64 0,int i64 0,int i64 0,int i64 0,int i64 0,int i64 0,int i64 0,int i64 0,int i64 0,int i64 0,int i64 0,int i64 0,int i64 0,int i64 0,int
 i64 0,int i64 0,int i64 0,int i64 0,int i64 0,int i64 0,int i64 0,int i64 0,int i64 0,int i64 0,int i64 0,int i64 0,int i64 0,int i64 0,int i64 0,int i64 0,int i64 0,int i64 0,int i64 0,int i64 0,int
 i64 0,int i64 0,int i64 0,int i64 0,int i64 0,int i64 0,int i64 0,int i64 0,int i64 0,int i64 0,int i64 0,int i64 0,int i64 0,int i64 0,int i64 0,int i64 0,int i64 0,int i64 0,int i64 0,int i64 0,int
 i64 0,int i64 0,int i64 0,int i64 0,int i64 0,int i64 0,int i64 0,int i64 0,int i64 0,int i64 0,int i64 0,int i64 0,int i64 0,int i64 0,int i64 0,int i64 0,int i64 0,int i64 0,int i64 0,int i64 0,int
 i64 0,int i64 0,int i64 0,int i64 0,int i64 0,int i64 0,int i64 0,int i64 0,int i64 0,int i64 0,int i64 0,int i64 0,int i64 0,int i64 0,int i64 0,int i64 0,int i64 0,int i64 0,int i64 0,int i64 0,int
 i64 0,int i64 0,int i64 0,int i64 0,int i64 0,int i64 0,int i64 0,int i64 0,int i64 0,int i64 0,int i64 0,int i64 0,int i64 0,int i64 0,int i64 0,int i64 0,int i64 0,int i64 0,int i64 0,int i64 0,int
 i64 0,int i64 0,int i64 0,int i64 0,int i64 0,int i64 0,int i64 0,int i64 0,int i64 0,int i64 0,int i64 0,int i64 0,int i64 0,int i64 0,int i64 0,int i64 0,int i64 0,int i64 0,int i64 0,int i64 0,int
 i64 0,int i64 0,int i64 0,int i64 0,int i64 0,int i64 0,int i64 0,int i64 0,int i64 0,int i64 0,int i64 0,int i64 0,int i64 0,int i64 0,int i64 0,int i64 0,int i64 0,int i64 0,int i64 0,int i64 0,int
 i64 0,int i64 0,int i64 0,int i64 0,int i64 0,int i64 0,int i64 0,int i64 0,int i64 0,int i64 0,int i64 0,int i64 0,int i64 0,int i64 0,int i64 0,int i64 0,int i64 0,int i64 0,int i64 0,int i64 0,int
 i64 0,int i64 0,int i64 0,int i64 0,int i64 0,int i64 0,int i64 0,int i64 0,int i64 0,int i64 0,int i64 0,int i64 0,int i64 0,int i64 0,int i64 0,int i64 0,int i64 0,int i64 0,int i64 0,int i64 0,int
 i64 0,int i64 0,int i64 0,int i64 0,int i64 0,int i64 0,int i64 0,int i64 0,int i64 0,int i64 0,int i64 0,int i64 0,int i64 0,int i64 0,int i64 0,int i64 0,int i64 0,int i64 0,int i64 0,int i64 0,int
 i64 0,int i64 0,int i64 0,int i64 0,int i64 0,int i64 0,int i64 0,int i64 0,int i64 0,int i64 0,int i64 0,int i64 0,int i64 0,int i64 0,int i64 0,int i64 0,int i64 0,int i64 0,int i64 0,int i64 0,int
 i64 0,int i64 0,int i64 0,int i64 0,int i64 0,int i64 0,int i64 0,int i64 0,int i64 0,int i64 0,int i64 0,int i64 0,int i64 0,int i64 0,int i64 0,int i64 0,int i64 0,int i64 0,int i64 0,int i64 0,int
 i64 0,int i64 0,int i64 0,slice none 0 0]
abbrev Zfg:Nat->List (Option Box):=λb=>[some (Box.mk b [] 67 260 false true)]
abbrev Zii:List Value:=[int i64 1,int i64 0,int i64 0,int i64 0,int i64 0,int i64 0,int i64 0,int i64 0,int i64 0,int i64 0,int i64 0,int i64 0,int i64 0,int i64 0,int i64 0,int i64 0,int
 i64 0,int i64 0,int i64 0,int i64 0,int i64 0,int i64 0,int i64 0,int i64 0,int i64 0,int i64 0,int i64 0,int i64 0,int i64 0,int i64 0,int i64 0,int i64 0,int i64 0,int i64 0,int i64 0,int i64 0,int
 i64 0,int i64 0,int i64 0,int i64 0,int i64 0,int i64 0,int i64 0,int i64 0,int i64 0,int i64 0,int i64 0,int i64 0,int i64 0,int i64 0,int i64 0,int i64 0,int i64 0,int i64 0,int i64 0,int i64 0,int
 i64 0,int i64 0,int i64 0,int i64 0,int i64 0,int i64 0,int i64 0,int i64 0,int i64 0,int i64 0,int i64 0,int i64 0,int i64 0,int i64 0,int i64 0,int i64 0,int i64 0,int i64 0,int i64 0,int i64 0,int
 i64 0,int i64 0,int i64 0,int i64 0,int i64 0,int i64 0,int i64 0,int i64 0,int i64 0,int i64 0,int i64 0,int i64 0,int i64 0,int i64 0,int i64 0,int i64 0,int i64 0,int i64 0,int i64 0,int i64 0,int
 i64 0,int i64 0,int i64 0,int i64 0,int i64 0,int i64 0,int i64 0,int i64 0,int i64 0,int i64 0,int i64 0,int i64 0,int i64 0,int i64 0,int i64 0,int i64 0,int i64 0,int i64 0,int i64 0,int i64 0,int
 i64 0,int i64 0,int i64 0,int i64 0,int i64 0,int i64 0,int i64 0,int i64 0,int i64 0,int i64 0,int i64 0,int i64 0,int i64 0,int i64 0,int i64 0,int i64 0,int i64 0,int i64 0,int i64 0,int i64 0,int
 i64 0,int i64 0,int i64 0,int i64 0,int i64 0,int i64 0,int i64 0,int i64 0,int i64 0,int i64 0,int i64 0,int i64 0,int i64 0,int i64 0,int i64 0,int i64 0,int i64 0,int i64 0,int i64 0,int i64 0,int
 i64 0,int i64 0,int i64 0,int i64 0,int i64 0,int i64 0,int i64 0,int i64 0,int i64 0,int i64 0,int i64 0,int i64 0,int i64 0,int i64 0,int i64 0,int i64 0,int i64 0,int i64 0,int i64 0,int i64 0,int
 i64 0,int i64 0,int i64 0,int i64 0,int i64 0,int i64 0,int i64 0,int i64 0,int i64 0,int i64 0,int i64 0,int i64 0,int i64 0,int i64 0,int i64 0,int i64 0,int i64 0,int i64 0,int i64 0,int i64 0,int
 i64 0,int i64 0,int i64 0,int i64 0,int i64 0,int i64 0,int i64 0,int i64 0,int i64 0,int i64 0,int i64 0,int i64 0,int i64 0,int i64 0,int i64 0,int i64 0,int i64 0,int i64 0,int i64 0,int i64 0,int
 i64 0,int i64 0,int i64 0,int i64 0,int i64 0,int i64 0,int i64 0,int i64 0,int i64 0,int i64 0,int i64 0,int i64 0,int i64 0,int i64 0,int i64 0,int i64 0,int i64 0,int i64 0,int i64 0,int i64 0,int
 i64 0,int i64 0,int i64 0,int i64 0,int i64 0,int i64 0,int i64 0,int i64 0,int i64 0,int i64 0,int i64 0,int i64 0,int i64 0,int i64 0,int i64 0,int i64 0,int i64 0,int i64 0,int i64 0,int i64 0,int
 i64 0,int i64 0,int i64 0,slice none 0 0]
abbrev Zij(a:Option Addr)(n c:Nat):List Value:=[int i64 3,int i64 0,int i64 0,int i64 0,int i64 0,int i64 0,int i64 0,int i64 0,int i64 0,int i64 0,int i64 0,int i64 0,int i64 0,int i64
 0,int i64 0,int i64 0,int i64 0,int i64 0,int i64 0,int i64 0,int i64 0,int i64 0,int i64 0,int i64 0,int i64 0,int i64 0,int i64 0,int i64 0,int i64 0,int i64 0,int i64 0,int i64 0,int i64 0,int i64
 0,int i64 0,int i64 0,int i64 0,int i64 0,int i64 0,int i64 0,int i64 0,int i64 0,int i64 0,int i64 0,int i64 0,int i64 0,int i64 0,int i64 0,int i64 0,int i64 0,int i64 0,int i64 0,int i64 0,int i64
 0,int i64 0,int i64 0,int i64 0,int i64 0,int i64 0,int i64 0,int i64 0,int i64 0,int i64 0,int i64 0,int i64 0,int i64 0,int i64 0,int i64 0,int i64 0,int i64 0,int i64 0,int i64 0,int i64 0,int i64
 0,int i64 0,int i64 0,int i64 0,int i64 0,int i64 0,int i64 0,int i64 0,int i64 0,int i64 0,int i64 0,int i64 0,int i64 0,int i64 0,int i64 0,int i64 0,int i64 0,int i64 0,int i64 0,int i64 0,int i64
 0,int i64 0,int i64 0,int i64 0,int i64 0,int i64 0,int i64 0,int i64 0,int i64 0,int i64 0,int i64 0,int i64 0,int i64 0,int i64 0,int i64 0,int i64 0,int i64 0,int i64 0,int i64 0,int i64 0,int i64
 0,int i64 0,int i64 0,int i64 0,int i64 0,int i64 0,int i64 0,int i64 0,int i64 0,int i64 0,int i64 0,int i64 0,int i64 0,int i64 0,int i64 0,int i64 0,int i64 0,int i64 0,int i64 0,int i64 0,int i64
 0,int i64 0,int i64 0,int i64 0,int i64 0,int i64 0,int i64 0,int i64 0,int i64 0,int i64 0,int i64 0,int i64 0,int i64 0,int i64 0,int i64 0,int i64 0,int i64 0,int i64 0,int i64 0,int i64 0,int i64
 0,int i64 0,int i64 0,int i64 0,int i64 0,int i64 0,int i64 0,int i64 0,int i64 0,int i64 0,int i64 0,int i64 0,int i64 0,int i64 0,int i64 0,int i64 0,int i64 0,int i64 0,int i64 0,int i64 0,int i64
 0,int i64 0,int i64 0,int i64 0,int i64 0,int i64 0,int i64 0,int i64 0,int i64 0,int i64 0,int i64 0,int i64 0,int i64 0,int i64 0,int i64 0,int i64 0,int i64 0,int i64 0,int i64 0,int i64 0,int i64
 0,int i64 0,int i64 0,int i64 0,int i64 0,int i64 0,int i64 0,int i64 0,int i64 0,int i64 0,int i64 0,int i64 0,int i64 0,int i64 0,int i64 0,int i64 0,int i64 0,int i64 0,int i64 0,int i64 0,int i64
 0,int i64 0,int i64 0,int i64 0,int i64 0,int i64 0,int i64 0,int i64 0,int i64 0,int i64 0,int i64 0,int i64 0,int i64 0,int i64 0,int i64 0,int i64 0,int i64 0,int i64 0,int i64 0,int i64 0,int i64
 0,int i64 0,int i64 0,int i64 0,int i64 0,int i64 0,int i64 0,int i64 0,int i64 0,int i64 0,int i64 0,int i64 0,int i64 0,int i64 0,int i64 0,int i64 0,int i64 0,int i64 0,int i64 0,int i64 0,int i64
 0,int i64 0,int i64 0,int i64 0,int i64 0,int i64 0,slice a n c]
theorem ZnW(p0a:Option Addr)(p0n p0c:Nat)(m:Mem)(R:RT)(h:
 ∀(b:Nat),∃(I:IT),(∃(n:Nat),I [slice none 0 0,int i64 0] [Zih] [slice none 0 0] m n)/\∀a n c ab (cs:List Value) ae af ag m' (ah:Nat),m.le m'->I [slice a n c,int i64 ab] [cs] [slice ae af ag] m' ah->
 br (decide (ab < (↑p0n:Int))) (∃(ai:Nat),∃(o:Nat),p0a=some (Addr.mk ai o none)/\Zaf ab p0n/\∃(vs:List Value),vs.length=260/\m'.reads ai (o+Int.toNat ab*260) vs/\∃R_1,True/\CX pG 75 (.mk [agg (.mk
 vs)]) m' [] R_1/\ZbT .bool R_1/\∀(aj:Bool) aa,m'.le aa->R_1 (bool aj) aa []->br (!aj) (∃m'',m.le m''/\m''.le aa/\R (agg (.mk Zih)) m'' []) (∃(ak:Nat),∃(o:Nat),p0a=some (Addr.mk ak o none)/\Zaf
 ab p0n/\∃(v:Value),aa ak (o+Int.toNat ab*260+0)=some v/\chk (ZaE i64 v&&decide (i64=i64)) (br (RowKit.intOf v == 3) (∃(ac:Nat),∃(o:Nat),p0a=some (Addr.mk ac o none)/\Zaf ab p0n/\∃(v:Value),
 aa ac (o+Int.toNat ab*260+259)=some v/\chk (Zck v&&true) ((Tok.mk (slice ae af ag) 260=Tok.mk (slice a n c) 260\/slice a n c=slice none 0 0\/c < n+slN v)/\∃(xs:List Value),∃(ys:List Value),xs.length =
 n*260/\ys.length=slN v*260/\rowRd aa a xs/\rowRd aa (slA v) ys/\(∀(u:Value),u∈ys->u.oneCell'=true)/\(n+slN v)*2096<=140737488355328/\n+slN v<=9223372036854775807/\∀(a':Option Addr)(c':Nat) m',
 aa.le m'->rowRd m' a' (List.append xs ys)->n+slN v<=c'->Zab (Zfg b)/\∃(n':Nat),n' < ah/\I [slice a' (n+slN v) c',int i64 (i64.wrap (ab+1))] [cs] [slice a' (n+slN v) c'] m' n')) (∃(ac:Nat),∃(o:
 Nat),p0a=some (Addr.mk ac o none)/\Zaf ab p0n/\∃(v:Value),aa ac (o+Int.toNat ab*260+0)=some v/\chk (ZaE i64 v&&decide (i64=i64)) (br (!RowKit.intOf v == 1) (∃(al:Nat),∃(o:Nat),p0a=some
 (Addr.mk al o none)/\Zaf ab p0n/\∃(vs:List Value),vs.length=260/\aa.reads al (o+Int.toNat ab*260) vs/\chk (Nat.beq (vs.length) 260&&true) (∀ad,aa.free ad->(Tok.mk (slice ae af ag) 260=Tok.mk (slice a n c)
 260\/slice a n c=slice none 0 0\/c < n+1)/\∃(xs:List Value),∃(ys:List Value),xs.length=n*260/\ys.length=1*260/\rowRd (aa.add ad (List.append vs [])) a xs/\rowRd (aa.add ad (List.append vs [])) (some
 (Addr.mk ad 0 none)) ys/\(∀(u:Value),u∈ys->u.oneCell'=true)/\(n+1)*2096<=140737488355328/\n+1<=9223372036854775807/\∀(a':Option Addr)(c':Nat)(m':Mem),Mem.le (aa.add ad (List.append vs [])) m'->rowRd
 m' a' (List.append xs ys)->n+1<=c'->Zab (Zfg b)/\∃(n':Nat),n' < ah/\I [slice a' (n+1) c',int i64 (i64.wrap (ab+1))] [cs] [slice a' (n+1) c'] m' n')) (Zab (Zfg b)/\∃(n':Nat),n' < ah/\
 I [slice a n c,int i64 (i64.wrap (ab+1))] [cs] [slice ae af ag] aa n')))))) (br ((↑n:Int) == 0) (∃m'',m.le m''/\m''.le m'/\R (agg (.mk Zii)) m'' []) (br ((↑n:Int) == 1) (∃(b:Nat),∃(o:Nat),a=some
 (Addr.mk b o none)/\Zaf (0:Int) n/\∃(vs:List Value),vs.length=260/\m'.reads b (o+0) vs/\chk (Nat.beq (vs.length) 260&&Zbi vs) (∃m'',m.le m''/\m''.le m'/\R (agg (.mk vs)) m'' [])) (∃R_1,True/\CX pG 143
 (.mk [agg (.mk (Zij a n c))]) m' [] R_1/\ZbT .cells R_1/\∀(cs:List Value) aa,m'.le aa->R_1 (agg (.mk cs)) aa []->chk (Nat.beq (cs.length) 260&&Zbi cs) (∃m'',m.le m''/\m''.le aa/\R (agg (.mk cs)) m''
 []))))):CX Tryz.prog 121 #[.slice p0a p0n p0c] m [] R:=
 Zad (E:=Zp7) Zay mix Tryz.func121 [.v (.slice p0a p0n p0c)] [] (by kernel_rfl) (Eq.mp (by kernel_rfl) h)
def ZrL:Env:={ EB with
 loops:=swI nLa [(3,⟨[(3,.slice),(4,.int .i64)],[2],[(35,260)],false⟩)]
 tokOf:=swI 0 [(35,35),(42,35)]
 capF:=true }
abbrev ZgR:List Value:=[int i64 0,int i64 0,int i64 0,int i64 0,int i64 0,int i64 0,int i64 0,int i64 0,int i64 0,int i64 0,int i64 0,int i64 0,int i64 0,int i64 0,int i64 0,int i64 0,int i64
 0,int i64 0,int i64 0,int i64 0,int i64 0,int i64 0,int i64 0,int i64 0,int i64 0,int i64 0,int i64 0,int i64 0,int i64 0,int i64 0,int i64 0,int i64 0,int i64 0,int i64 0,int i64 0,int i64 0,int i64
 0,int i64 0,int i64 0,int i64 0,int i64 0,int i64 0,int i64 0,int i64 0,int i64 0,int i64 0,int i64 0,int i64 0,int i64 0,int i64 0,int i64 0,int i64 0,int i64 0,int i64 0,int i64 0,int i64 0,int i64
 0,int i64 0,int i64 0,int i64 0,int i64 0,int i64 0,int i64 0,int i64 0,int i64 0,int i64 0,int i64 0,int i64 0,int i64 0,int i64 0,int i64 0,int i64 0,int i64 0,int i64 0,int i64 0,int i64 0,int i64
 0,int i64 0,int i64 0,int i64 0,int i64 0,int i64 0,int i64 0,int i64 0,int i64 0,int i64 0,int i64 0,int i64 0,int i64 0,int i64 0,int i64 0,int i64 0,int i64 0,int i64 0,int i64 0,int i64 0,int i64
 0,int i64 0,int i64 0,int i64 0,int i64 0,int i64 0,int i64 0,int i64 0,int i64 0,int i64 0,int i64 0,int i64 0,int i64 0,int i64 0,int i64 0,int i64 0,int i64 0,int i64 0,int i64 0,int i64 0,int i64
 0,int i64 0,int i64 0,int i64 0,int i64 0,int i64 0,int i64 0,int i64 0,int i64 0,int i64 0,int i64 0,int i64 0,int i64 0,int i64 0,int i64 0,int i64 0,int i64 0,int i64 0,int i64 0,int i64 0,int i64
 0,int i64 0,int i64 0,int i64 0,int i64 0,int i64 0,int i64 0,int i64 0,int i64 0,int i64 0,int i64 0,int i64 0,int i64 0,int i64 0,int i64 0,int i64 0,int i64 0,int i64 0,int i64 0,int i64 0,int i64
 0,int i64 0,int i64 0,int i64 0,int i64 0,int i64 0,int i64 0,int i64 0,int i64 0,int i64 0,int i64 0,int i64 0,int i64 0,int i64 0,int i64 0,int i64 0,int i64 0,int i64 0,int i64 0,int i64 0,int i64
 0,int i64 0,int i64 0,int i64 0,int i64 0,int i64 0,int i64 0,int i64 0,int i64 0,int i64 0,int i64 0,int i64 0,int i64 0,int i64 0,int i64 0,int i64 0,int i64 0,int i64 0,int i64 0,int i64 0,int i64
 0,int i64 0,int i64 0,int i64 0,int i64 0,int i64 0,int i64 0,int i64 0,int i64 0,int i64 0,int i64 0,int i64 0,int i64 0,int i64 0,int i64 0,int i64 0,int i64 0,int i64 0,int i64 0,int i64 0,int i64
 0,int i64 0,int i64 0,int i64 0,int i64 0,int i64 0,int i64 0,int i64 0,int i64 0,int i64 0,int i64 0,int i64 0,int i64 0,int i64 0,int i64 0,int i64 0,int i64 0,int i64 0,int i64 0,int i64 0,int i64
 0,int i64 0,int i64 0,int i64 0,int i64 0,int i64 0,int i64 0,int i64 0,int i64 0,int i64 0,int i64 0,int i64 0,int i64 0,int i64 0,int i64 0,int i64 0,int i64 0,int i64 0,int i64 0,int i64 0,int i64
 0,int i64 0,int i64 0,slice none 0 0]
abbrev ZgS:Nat->List (Option Box):=λb=>[some (Box.mk b [] 67 260 false true)]
abbrev Zkv(a:Option Addr)(n c:Nat):List Value:=[int i64 4,int i64 0,int i64 0,int i64 0,int i64 0,int i64 0,int i64 0,int i64 0,int i64 0,int i64 0,int i64 0,int i64 0,int i64 0,int i64 0,
 int i64 0,int i64 0,int i64 0,int i64 0,int i64 0,int i64 0,int i64 0,int i64 0,int i64 0,int i64 0,int i64 0,int i64 0,int i64 0,int i64 0,int i64 0,int i64 0,int i64 0,int i64 0,int i64 0,int i64 0,
 int i64 0,int i64 0,int i64 0,int i64 0,int i64 0,int i64 0,int i64 0,int i64 0,int i64 0,int i64 0,int i64 0,int i64 0,int i64 0,int i64 0,int i64 0,int i64 0,int i64 0,int i64 0,int i64 0,int i64 0,
 int i64 0,int i64 0,int i64 0,int i64 0,int i64 0,int i64 0,int i64 0,int i64 0,int i64 0,int i64 0,int i64 0,int i64 0,int i64 0,int i64 0,int i64 0,int i64 0,int i64 0,int i64 0,int i64 0,int i64 0,
 int i64 0,int i64 0,int i64 0,int i64 0,int i64 0,int i64 0,int i64 0,int i64 0,int i64 0,int i64 0,int i64 0,int i64 0,int i64 0,int i64 0,int i64 0,int i64 0,int i64 0,int i64 0,int i64 0,int i64 0,
 int i64 0,int i64 0,int i64 0,int i64 0,int i64 0,int i64 0,int i64 0,int i64 0,int i64 0,int i64 0,int i64 0,int i64 0,int i64 0,int i64 0,int i64 0,int i64 0,int i64 0,int i64 0,int i64 0,int i64 0,
 int i64 0,int i64 0,int i64 0,int i64 0,int i64 0,int i64 0,int i64 0,int i64 0,int i64 0,int i64 0,int i64 0,int i64 0,int i64 0,int i64 0,int i64 0,int i64 0,int i64 0,int i64 0,int i64 0,int i64 0,
 int i64 0,int i64 0,int i64 0,int i64 0,int i64 0,int i64 0,int i64 0,int i64 0,int i64 0,int i64 0,int i64 0,int i64 0,int i64 0,int i64 0,int i64 0,int i64 0,int i64 0,int i64 0,int i64 0,int i64 0,
 int i64 0,int i64 0,int i64 0,int i64 0,int i64 0,int i64 0,int i64 0,int i64 0,int i64 0,int i64 0,int i64 0,int i64 0,int i64 0,int i64 0,int i64 0,int i64 0,int i64 0,int i64 0,int i64 0,int i64 0,
 int i64 0,int i64 0,int i64 0,int i64 0,int i64 0,int i64 0,int i64 0,int i64 0,int i64 0,int i64 0,int i64 0,int i64 0,int i64 0,int i64 0,int i64 0,int i64 0,int i64 0,int i64 0,int i64 0,int i64 0,
 int i64 0,int i64 0,int i64 0,int i64 0,int i64 0,int i64 0,int i64 0,int i64 0,int i64 0,int i64 0,int i64 0,int i64 0,int i64 0,int i64 0,int i64 0,int i64 0,int i64 0,int i64 0,int i64 0,int i64 0,
 int i64 0,int i64 0,int i64 0,int i64 0,int i64 0,int i64 0,int i64 0,int i64 0,int i64 0,int i64 0,int i64 0,int i64 0,int i64 0,int i64 0,int i64 0,int i64 0,int i64 0,int i64 0,int i64 0,int i64 0,
 int i64 0,int i64 0,int i64 0,int i64 0,int i64 0,int i64 0,int i64 0,int i64 0,int i64 0,int i64 0,int i64 0,int i64 0,int i64 0,int i64 0,int i64 0,int i64 0,int i64 0,int i64 0,int i64 0,int i64 0,
 int i64 0,int i64 0,int i64 0,int i64 0,int i64 0,slice a n c]
theorem Zp8(p0a:Option Addr)(p0n p0c:Nat)(m:Mem)(R:RT)(h:
 ∀(b:Nat),∃(I:IT),(∃(n:Nat),I [slice none 0 0,int i64 0] [ZgR] [slice none 0 0] m n)/\∀a n c aa (cs:List Value) af ag ah m' (ai:Nat),m.le m'->I [slice a n c,int i64 aa] [cs] [slice af ag ah] m' ai->br
 (decide (aa < (↑p0n:Int))) (∃(aj:Nat),∃(o:Nat),p0a=some (Addr.mk aj o none)/\Zaf aa p0n/\∃(vs:List Value),vs.length=260/\m'.reads aj (o+Int.toNat aa*260) vs/\∃R_1,True/\CX pG 144 (.mk [agg (.mk
 vs)]) m' [] R_1/\ZbT .bool R_1/\∀(ak:Bool) ab,m'.le ab->R_1 (bool ak) ab []->br ak (Zab (ZgS b)/\∃(n':Nat),n' < ai/\I [slice a n c,int i64 (i64.wrap (aa+1))] [cs] [slice af ag ah] ab n') (∃(al:Nat),
 ∃(o:Nat),p0a=some (Addr.mk al o none)/\Zaf aa p0n/\∃(vs:List Value),vs.length=260/\ab.reads al (o+Int.toNat aa*260) vs/\∃R_2,True/\CX pG 75 (.mk [agg (.mk vs)]) ab [] R_2/\ZbT .bool R_2/\∀(am:Bool)
 m',ab.le m'->R_2 (bool am) m' []->br (!am) (∃m'',m.le m''/\m''.le m'/\R (agg (.mk ZgR)) m'' []) (∃(an:Nat),∃(o:Nat),p0a=some (Addr.mk an o none)/\Zaf aa p0n/\∃(v:Value),m' an (o+Int.toNat aa *
 260+0)=some v/\chk (ZaE i64 v&&decide (i64=i64)) (br (RowKit.intOf v == 4) (∃(ad:Nat),∃(o:Nat),p0a=some (Addr.mk ad o none)/\Zaf aa p0n/\∃(v:Value),m' ad (o+Int.toNat aa*260+259)=some v/\chk
 (Zck v&&true) ((Tok.mk (slice af ag ah) 260=Tok.mk (slice a n c) 260\/slice a n c=slice none 0 0\/c < n+slN v)/\∃(xs:List Value),∃(ys:List Value),xs.length=n*260/\ys.length=slN v*260/\rowRd m' a xs/\
 rowRd m' (slA v) ys/\(∀(u:Value),u∈ys->u.oneCell'=true)/\(n+slN v)*2096<=140737488355328/\n+slN v<=9223372036854775807/\∀(a':Option Addr)(c':Nat) ac,m'.le ac->rowRd ac a' (List.append xs ys)->n+slN
 v<=c'->Zab (ZgS b)/\∃(n':Nat),n' < ai/\I [slice a' (n+slN v) c',int i64 (i64.wrap (aa+1))] [cs] [slice a' (n+slN v) c'] ac n')) (∃(ad:Nat),∃(o:Nat),p0a=some (Addr.mk ad o none)/\Zaf aa p0n
 /\ ∃(vs:List Value),vs.length=260/\m'.reads ad (o+Int.toNat aa*260) vs/\chk (Nat.beq (vs.length) 260&&true) (∀ae,m'.free ae->(Tok.mk (slice af ag ah) 260=Tok.mk (slice a n c) 260\/slice a n c=slice none 0 0\/
 c < n+1)/\∃(xs:List Value),∃(ys:List Value),xs.length=n*260/\ys.length=1*260/\rowRd (m'.add ae (List.append vs [])) a xs/\rowRd (m'.add ae (List.append vs [])) (some (Addr.mk ae 0 none)) ys/\(∀(u:Value),
 u∈ys->u.oneCell'=true)/\(n+1)*2096<=140737488355328/\n+1<=9223372036854775807/\∀(a':Option Addr)(c':Nat)(ac:Mem),Mem.le (m'.add ae (List.append vs [])) ac->rowRd ac a' (List.append xs ys)->n+1<=c'->
 Zab (ZgS b)/\∃(n':Nat),n' < ai/\I [slice a' (n+1) c',int i64 (i64.wrap (aa+1))] [cs] [slice a' (n+1) c'] ac n')))))) (br ((↑n:Int) == 0) (∃m'',m.le m''/\m''.le m'/\R (agg (.mk ZgR)) m'' [])
 (br ((↑n:Int) == 1) (∃(b:Nat),∃(o:Nat),a=some (Addr.mk b o none)/\Zaf (0:Int) n/\∃(vs:List Value),vs.length=260/\m'.reads b (o+0) vs/\chk (Nat.beq (vs.length) 260&&Zbi vs) (∃m'',m.le m''/\
 m''.le m'/\R (agg (.mk vs)) m'' [])) (∃R_1,True/\CX pG 143 (.mk [agg (.mk (Zkv a n c))]) m' [] R_1/\ZbT .cells R_1/\∀(cs:List Value) ab,m'.le ab->R_1 (agg (.mk cs)) ab []->chk (Nat.beq (cs.length) 260&&Zbi
 cs) (∃m'',m.le m''/\m''.le ab/\R (agg (.mk cs)) m'' []))))):CX Tryz.prog 122 #[.slice p0a p0n p0c] m [] R:=
 Zad (E:=ZrL) Zay mix Tryz.func122 [.v (.slice p0a p0n p0c)] [] (by kernel_rfl) (Eq.mp (by kernel_rfl) h)
def ZlO:Env:={ EB with
 joins:=swI none [(2,some [(16,.bool)]),(4,some [(23,.bool)]),(6,some [(37,.bool)]),(12,some [(54,.bool)])]
 frzNew:=[3] }
abbrev ZcX:List Value:=[int i64 0,int i64 0,int i64 0,int i64 0,int i64 0,int i64 0,int i64 0,int i64 0,int i64 0,int i64 0,int i64 0,int i64 0,int i64 0,int i64 0,int i64 0,int i64 0,int
 i64 0,int i64 0,int i64 0,int i64 0,int i64 0,int i64 0,int i64 0,int i64 0,int i64 0,int i64 0,int i64 0,int i64 0,int i64 0,int i64 0,int i64 0,int i64 0,int i64 0,int i64 0,int i64 0,int i64 0,int
 i64 0,int i64 0,int i64 0,int i64 0,int i64 0,int i64 0,int i64 0,int i64 0,int i64 0,int i64 0,int i64 0,int i64 0,int i64 0,int i64 0,int i64 0,int i64 0,int i64 0,int i64 0,int i64 0,int i64 0,int
 i64 0,int i64 0,int i64 0,int i64 0,int i64 0,int i64 0,int i64 0,int i64 0,int i64 0,int i64 0,int i64 0,int i64 0,int i64 0,int i64 0,int i64 0,int i64 0,int i64 0,int i64 0,int i64 0,int i64 0,int
 i64 0,int i64 0,int i64 0,int i64 0,int i64 0,int i64 0,int i64 0,int i64 0,int i64 0,int i64 0,int i64 0,int i64 0,int i64 0,int i64 0,int i64 0,int i64 0,int i64 0,int i64 0,int i64 0,int i64 0,int
 i64 0,int i64 0,int i64 0,int i64 0,int i64 0,int i64 0,int i64 0,int i64 0,int i64 0,int i64 0,int i64 0,int i64 0,int i64 0,int i64 0,int i64 0,int i64 0,int i64 0,int i64 0,int i64 0,int i64 0,int
 i64 0,int i64 0,int i64 0,int i64 0,int i64 0,int i64 0,int i64 0,int i64 0,int i64 0,int i64 0,int i64 0,int i64 0,int i64 0,int i64 0,int i64 0,int i64 0,int i64 0,int i64 0,int i64 0,int i64 0,int
 i64 0,int i64 0,int i64 0,int i64 0,int i64 0,int i64 0,int i64 0,int i64 0,int i64 0,int i64 0,int i64 0,int i64 0,int i64 0,int i64 0,int i64 0,int i64 0,int i64 0,int i64 0,int i64 0,int i64 0,int
 i64 0,int i64 0,int i64 0,int i64 0,int i64 0,int i64 0,int i64 0,int i64 0,int i64 0,int i64 0,int i64 0,int i64 0,int i64 0,int i64 0,int i64 0,int i64 0,int i64 0,int i64 0,int i64 0,int i64 0,int
 i64 0,int i64 0,int i64 0,int i64 0,int i64 0,int i64 0,int i64 0,int i64 0,int i64 0,int i64 0,int i64 0,int i64 0,int i64 0,int i64 0,int i64 0,int i64 0,int i64 0,int i64 0,int i64 0,int i64 0,int
 i64 0,int i64 0,int i64 0,int i64 0,int i64 0,int i64 0,int i64 0,int i64 0,int i64 0,int i64 0,int i64 0,int i64 0,int i64 0,int i64 0,int i64 0,int i64 0,int i64 0,int i64 0,int i64 0,int i64 0,int
 i64 0,int i64 0,int i64 0,int i64 0,int i64 0,int i64 0,int i64 0,int i64 0,int i64 0,int i64 0,int i64 0,int i64 0,int i64 0,int i64 0,int i64 0,int i64 0,int i64 0,int i64 0,int i64 0,int i64 0,int
 i64 0,int i64 0,int i64 0,int i64 0,int i64 0,int i64 0,int i64 0,int i64 0,int i64 0,int i64 0,int i64 0,int i64 0,int i64 0,int i64 0,int i64 0,int i64 0,int i64 0,int i64 0,int i64 0,int i64 0,int
 i64 0,int i64 0,int i64 0,slice none 0 0]
abbrev ZjJ:Nat->Option Box:=λb=>some (Box.mk b ZcX 67 260 false true)
abbrev ZjK:List Value->Nat->Option Box:=λp0 b=>some (Box.mk b p0 67 260 true true)
abbrev Za8:List Value->Nat->Nat->List (Option Box):=λp0 b b_1=>[ZjJ b_1,ZjK p0 b]
abbrev Zft:List Value:=[int i64 1,int i64 0,int i64 0,int i64 0,int i64 0,int i64 0,int i64 0,int i64 0,int i64 0,int i64 0,int i64 0,int i64 0,int i64 0,int i64 0,int i64 0,int i64 0,int
 i64 0,int i64 0,int i64 0,int i64 0,int i64 0,int i64 0,int i64 0,int i64 0,int i64 0,int i64 0,int i64 0,int i64 0,int i64 0,int i64 0,int i64 0,int i64 0,int i64 0,int i64 0,int i64 0,int i64 0,int
 i64 0,int i64 0,int i64 0,int i64 0,int i64 0,int i64 0,int i64 0,int i64 0,int i64 0,int i64 0,int i64 0,int i64 0,int i64 0,int i64 0,int i64 0,int i64 0,int i64 0,int i64 0,int i64 0,int i64 0,int
 i64 0,int i64 0,int i64 0,int i64 0,int i64 0,int i64 0,int i64 0,int i64 0,int i64 0,int i64 0,int i64 0,int i64 0,int i64 0,int i64 0,int i64 0,int i64 0,int i64 0,int i64 0,int i64 0,int i64 0,int
 i64 0,int i64 0,int i64 0,int i64 0,int i64 0,int i64 0,int i64 0,int i64 0,int i64 0,int i64 0,int i64 0,int i64 0,int i64 0,int i64 0,int i64 0,int i64 0,int i64 0,int i64 0,int i64 0,int i64 0,int
 i64 0,int i64 0,int i64 0,int i64 0,int i64 0,int i64 0,int i64 0,int i64 0,int i64 0,int i64 0,int i64 0,int i64 0,int i64 0,int i64 0,int i64 0,int i64 0,int i64 0,int i64 0,int i64 0,int i64 0,int
 i64 0,int i64 0,int i64 0,int i64 0,int i64 0,int i64 0,int i64 0,int i64 0,int i64 0,int i64 0,int i64 0,int i64 0,int i64 0,int i64 0,int i64 0,int i64 0,int i64 0,int i64 0,int i64 0,int i64 0,int
 i64 0,int i64 0,int i64 0,int i64 0,int i64 0,int i64 0,int i64 0,int i64 0,int i64 0,int i64 0,int i64 0,int i64 0,int i64 0,int i64 0,int i64 0,int i64 0,int i64 0,int i64 0,int i64 0,int i64 0,int
 i64 0,int i64 0,int i64 0,int i64 0,int i64 0,int i64 0,int i64 0,int i64 0,int i64 0,int i64 0,int i64 0,int i64 0,int i64 0,int i64 0,int i64 0,int i64 0,int i64 0,int i64 0,int i64 0,int i64 0,int
 i64 0,int i64 0,int i64 0,int i64 0,int i64 0,int i64 0,int i64 0,int i64 0,int i64 0,int i64 0,int i64 0,int i64 0,int i64 0,int i64 0,int i64 0,int i64 0,int i64 0,int i64 0,int i64 0,int i64 0,int
 i64 0,int i64 0,int i64 0,int i64 0,int i64 0,int i64 0,int i64 0,int i64 0,int i64 0,int i64 0,int i64 0,int i64 0,int i64 0,int i64 0,int i64 0,int i64 0,int i64 0,int i64 0,int i64 0,int i64 0,int
 i64 0,int i64 0,int i64 0,int i64 0,int i64 0,int i64 0,int i64 0,int i64 0,int i64 0,int i64 0,int i64 0,int i64 0,int i64 0,int i64 0,int i64 0,int i64 0,int i64 0,int i64 0,int i64 0,int i64 0,int
 i64 0,int i64 0,int i64 0,int i64 0,int i64 0,int i64 0,int i64 0,int i64 0,int i64 0,int i64 0,int i64 0,int i64 0,int i64 0,int i64 0,int i64 0,int i64 0,int i64 0,int i64 0,int i64 0,int i64 0,int
 i64 0,int i64 0,int i64 0,slice none 0 0]
abbrev Zfu(p1 p2:Int)(b:Nat):List Value:=[int i64 5,int i64 0,int i64 0,int i64 0,int i64 0,int i64 0,int i64 0,int i64 0,int i64 0,int i64 0,int i64 0,int i64 0,int i64 0,int i64 0,
 int i64 0,int i64 0,int i64 0,int i64 0,int i64 0,int i64 0,int i64 0,int i64 0,int i64 0,int i64 0,int i64 0,int i64 0,int i64 0,int i64 0,int i64 0,int i64 0,int i64 0,int i64 0,int i64 0,int i64 0,
 int i64 0,int i64 0,int i64 0,int i64 0,int i64 0,int i64 0,int i64 0,int i64 0,int i64 0,int i64 0,int i64 0,int i64 0,int i64 0,int i64 0,int i64 0,int i64 0,int i64 0,int i64 0,int i64 0,int i64 0,
 int i64 0,int i64 0,int i64 0,int i64 0,int i64 0,int i64 0,int i64 0,int i64 0,int i64 0,int i64 0,int i64 0,int i64 0,int i64 0,int i64 0,int i64 0,int i64 0,int i64 0,int i64 0,int i64 0,int i64 0,
 int i64 0,int i64 0,int i64 0,int i64 0,int i64 0,int i64 0,int i64 0,int i64 0,int i64 0,int i64 0,int i64 0,int i64 0,int i64 0,int i64 0,int i64 0,int i64 0,int i64 0,int i64 0,int i64 0,int i64 0,
 int i64 0,int i64 0,int i64 0,int i64 0,int i64 0,int i64 0,int i64 0,int i64 0,int i64 0,int i64 0,int i64 0,int i64 0,int i64 0,int i64 0,int i64 0,int i64 0,int i64 0,int i64 0,int i64 0,int i64 0,
 int i64 0,int i64 0,int i64 0,int i64 0,int i64 0,int i64 0,int i64 0,int i64 0,int i64 0,int i64 0,int i64 0,int i64 0,int i64 0,int i64 0,int i64 0,int i64 0,int i64 0,int i64 0,int i64 0,int i64 0,
 int i64 0,int i64 0,int i64 0,int i64 0,int i64 0,int i64 0,int i64 0,int i64 0,int i64 0,int i64 0,int i64 0,int i64 0,int i64 0,int i64 0,int i64 0,int i64 0,int i64 0,int i64 0,int i64 0,int i64 0,
 int i64 0,int i64 0,int i64 0,int i64 0,int i64 0,int i64 0,int i64 0,int i64 0,int i64 0,int i64 0,int i64 0,int i64 0,int i64 0,int i64 0,int i64 0,int i64 0,int i64 0,int i64 0,int i64 0,int i64 0,
 int i64 0,int i64 0,int i64 0,int i64 0,int i64 0,int i64 0,int i64 0,int i64 0,int i64 0,int i64 0,int i64 0,int i64 0,int i64 0,int i64 0,int i64 0,int i64 0,int i64 0,int i64 0,int i64 0,int i64 0,
 int i64 0,int i64 0,int i64 0,int i64 0,int i64 0,int i64 0,int i64 0,int i64 0,int i64 0,int i64 0,int i64 0,int i64 0,int i64 0,int i64 0,int i64 0,int i64 0,int i64 0,int i64 0,int i64 0,int i64 0,
 int i64 0,int i64 0,int i64 0,int i64 0,int i64 0,int i64 0,int i64 0,int i64 0,int i64 0,int i64 0,int i64 0,int i64 0,int i64 0,int i64 0,int i64 0,int i64 0,int i64 0,int i64 0,int i64 0,int i64 0,
 int i64 0,int i64 0,int i64 0,int i64 0,int i64 0,int i64 0,int i64 0,int i64 0,int i64 0,int i64 0,int i64 0,int i64 0,int i64 0,int i64 0,int i64 0,int i64 0,int i64 0,int i64 0,int i64 0,int i64 0,
 int i64 0,int i64 0,int i64 0,int i64 p1,int i64 p2,slice (some (Addr.mk b 0 none)) 1 1]
theorem ZjL(p0:List Value)(p1 p2:Int)(m:Mem)(R:RT)(h:
 chk (Nat.beq (p0.length) 260) (∀(b:Nat) m',m.le m'->m'.reads b 0 p0->∀(b_1:Nat),∃R_1,True/\CX pG 144 (.mk [agg (.mk p0)]) m' [] R_1/\ZbT .bool R_1/\∀(b_2:Bool) m'_1,m'.le m'_1->R_1 (bool b_2) m'_1 []->∃(b_3
 : Bool),br (!b_2) (∃R,True/\CX pG 75 (.mk [agg (.mk p0)]) m'_1 [] R/\ZbT .bool R/\∀(b_4:Bool) m',m'_1.le m'->R (bool b_4) m' []->Zab (Za8 p0 b b_1)/\[bool !b_4]=[bool b_3]) (Zab (Za8 p0
 b b_1)/\[bool false]=[bool b_3])/\br b_3 (∃m'',m.le m''/\m''.le m'_1/\R (agg (.mk ZcX)) m'' []) (∃(b_4:Bool),br (p1 == 0) (Zab (Za8 p0 b b_1)/\[bool (p2 == 0)]=[bool b_4]) (Zab
 (Za8 p0 b b_1)/\[bool false]=[bool b_4])/\br b_4 (∃m'',m.le m''/\m''.le m'_1/\R (agg (.mk Zft)) m'' []) (∃(b_5:Bool),br (p1 == 1) (br (!p2 == 1) (∃R,True/\CX pG 120 (.mk [int i64 p1,int i64
 p2]) m'_1 [] R/\ZbT .bool R/\∀(b_6:Bool) m',m'_1.le m'->R (bool b_6) m' []->Zab (Za8 p0 b b_1)/\[bool !b_6]=[bool b_5]) (Zab (Za8 p0 b b_1)/\[bool false]=[bool b_5])) (∃R,True/\CX pG
 120 (.mk [int i64 p1,int i64 p2]) m'_1 [] R/\ZbT .bool R/\∀(b_6:Bool) m',m'_1.le m'->R (bool b_6) m' []->Zab (Za8 p0 b b_1)/\[bool !b_6]=[bool b_5])/\br b_5 (∃m'',m.le m''/\m''.le m'_1/\R (agg (.mk
 ZcX)) m'' []) (br b_2 (br (p1 == 0) (∃m'',m.le m''/\m''.le m'_1/\R (agg (.mk Zft)) m'' []) (∃m'',m.le m''/\m''.le m'_1/\R (agg (.mk ZcX)) m'' [])) (∃(b_6:Bool),(Eng.ZuZ p0 0 λv=>
 chk (ZaE i64 v&&decide (i64=i64)) (br (RowKit.intOf v == 1) (Zab (Za8 p0 b b_1)/\[bool true]=[bool b_6]) (br (p1 == 1) (Zab (Za8 p0 b b_1)/\[bool (p2 == 1)]=[bool b_6]) (Zab
 (Za8 p0 b b_1)/\[bool false]=[bool b_6]))))/\br b_6 (chk (Nat.beq (p0.length) 260&&Zbi p0) (∃m'',m.le m''/\m''.le m'_1/\R (agg (.mk p0)) m'' [])) (chk (Nat.beq (p0.length) 260&&true) (∀b,m'_1.free b->∃
 R_2,True/\CX pG 143 (.mk [agg (.mk (Zfu p1 p2 b))]) (m'_1.add b (List.append p0 [])) [] R_2/\ZbT .cells R_2/\∀(cs:List Value)(m':Mem),Mem.le (m'_1.add b (List.append p0 [])) m'->R_2 (agg (.mk cs)) m' []->
 chk (Nat.beq (cs.length) 260&&Zbi cs) (∃m'',m.le m''/\m''.le m'/\R (agg (.mk cs)) m'' []))))))))):CX Tryz.prog 123 #[.agg p0.toArray,.int .i64 p1,.int .i64 p2] m [] R:=
 Zad (E:=ZlO) Zay mix Tryz.func123 [.v (.agg p0.toArray),.v (.int .i64 p1),.v (.int .i64 p2)] [] (by kernel_rfl) (Eq.mp (by kernel_rfl) h)
def Zik:Env:={ EB with
 frzNew:=[1] }
abbrev Zen(b:Nat):List Value:=[int i64 6,int i64 0,int i64 0,int i64 0,int i64 0,int i64 0,int i64 0,int i64 0,int i64 0,int i64 0,int i64 0,int i64 0,int i64 0,int i64 0,int i64 0,int
 i64 0,int i64 0,int i64 0,int i64 0,int i64 0,int i64 0,int i64 0,int i64 0,int i64 0,int i64 0,int i64 0,int i64 0,int i64 0,int i64 0,int i64 0,int i64 0,int i64 0,int i64 0,int i64 0,int i64 0,int
 i64 0,int i64 0,int i64 0,int i64 0,int i64 0,int i64 0,int i64 0,int i64 0,int i64 0,int i64 0,int i64 0,int i64 0,int i64 0,int i64 0,int i64 0,int i64 0,int i64 0,int i64 0,int i64 0,int i64 0,int
 i64 0,int i64 0,int i64 0,int i64 0,int i64 0,int i64 0,int i64 0,int i64 0,int i64 0,int i64 0,int i64 0,int i64 0,int i64 0,int i64 0,int i64 0,int i64 0,int i64 0,int i64 0,int i64 0,int i64 0,int
 i64 0,int i64 0,int i64 0,int i64 0,int i64 0,int i64 0,int i64 0,int i64 0,int i64 0,int i64 0,int i64 0,int i64 0,int i64 0,int i64 0,int i64 0,int i64 0,int i64 0,int i64 0,int i64 0,int i64 0,int
 i64 0,int i64 0,int i64 0,int i64 0,int i64 0,int i64 0,int i64 0,int i64 0,int i64 0,int i64 0,int i64 0,int i64 0,int i64 0,int i64 0,int i64 0,int i64 0,int i64 0,int i64 0,int i64 0,int i64 0,int
 i64 0,int i64 0,int i64 0,int i64 0,int i64 0,int i64 0,int i64 0,int i64 0,int i64 0,int i64 0,int i64 0,int i64 0,int i64 0,int i64 0,int i64 0,int i64 0,int i64 0,int i64 0,int i64 0,int i64 0,int
 i64 0,int i64 0,int i64 0,int i64 0,int i64 0,int i64 0,int i64 0,int i64 0,int i64 0,int i64 0,int i64 0,int i64 0,int i64 0,int i64 0,int i64 0,int i64 0,int i64 0,int i64 0,int i64 0,int i64 0,int
 i64 0,int i64 0,int i64 0,int i64 0,int i64 0,int i64 0,int i64 0,int i64 0,int i64 0,int i64 0,int i64 0,int i64 0,int i64 0,int i64 0,int i64 0,int i64 0,int i64 0,int i64 0,int i64 0,int i64 0,int
 i64 0,int i64 0,int i64 0,int i64 0,int i64 0,int i64 0,int i64 0,int i64 0,int i64 0,int i64 0,int i64 0,int i64 0,int i64 0,int i64 0,int i64 0,int i64 0,int i64 0,int i64 0,int i64 0,int i64 0,int
 i64 0,int i64 0,int i64 0,int i64 0,int i64 0,int i64 0,int i64 0,int i64 0,int i64 0,int i64 0,int i64 0,int i64 0,int i64 0,int i64 0,int i64 0,int i64 0,int i64 0,int i64 0,int i64 0,int i64 0,int
 i64 0,int i64 0,int i64 0,int i64 0,int i64 0,int i64 0,int i64 0,int i64 0,int i64 0,int i64 0,int i64 0,int i64 0,int i64 0,int i64 0,int i64 0,int i64 0,int i64 0,int i64 0,int i64 0,int i64 0,int
 i64 0,int i64 0,int i64 0,int i64 0,int i64 0,int i64 0,int i64 0,int i64 0,int i64 0,int i64 0,int i64 0,int i64 0,int i64 0,int i64 0,int i64 0,int i64 0,int i64 0,int i64 0,int i64 0,int i64 0,int
 i64 0,int i64 0,int i64 0,int i64 0,slice (some (Addr.mk b 0 none)) 1 1]
theorem Zhg(p0:List Value)(m:Mem)(R:RT)(h:
 chk (Nat.beq (p0.length) 260) (∀(b:Nat) m',m.le m'->m'.reads b 0 p0->∀(b:Nat),chk (Nat.beq (p0.length) 260&&true) (∀b,m'.free b->∃R_1,True/\CX pG 143 (.mk [agg (.mk (Zen b))]) (m'.add b (List.append
 p0 [])) [] R_1/\ZbT .cells R_1/\∀(cs:List Value)(m'_1:Mem),Mem.le (m'.add b (List.append p0 [])) m'_1->R_1 (agg (.mk cs)) m'_1 []->chk (Nat.beq (cs.length) 260&&Zbi cs) (∃m'',m.le m''/\m''.le m'_1/\R (agg (.mk
 cs)) m'' [])))):CX Tryz.prog 124 #[.agg p0.toArray] m [] R:=
 Zad (E:=Zik) Zay mix Tryz.func124 [.v (.agg p0.toArray)] [] (by kernel_rfl) (Eq.mp (by kernel_rfl) h)
end Go.Proofs.YtfgfahnakepegaaGreat
namespace Go.Proofs.YtfgfahnakepegaaGreat
open Go Go.Eng Go.Rx Go.Proofs Go.RowKit
set_option maxRecDepth 100000
def ZrM(E:T):Value->Mem->List (List Value)->Prop:=λv m' _=>∃cs,v=.agg cs.toArray/\RefT m' E cs
theorem Za5{E:T}:∀(v:Value)(m':Mem) (css:List (List Value)),ZrM E v m' css->Shape.fits .cells v=true:=λv _ _ ⟨_,h,_⟩=>by rw[h];rfl
theorem Ze4{E:T}{m:Mem}{K:List Value->Mem->Prop}(k:∀(cs:List Value)(m':Mem),m.le m'->RefT m' E cs->K cs m'):∀(cs:List Value)(m':Mem),m.le m'->ZrM E (.agg (Array.mk cs)) m' []->K cs m':=by
 rintro cs m' hm ⟨ds,e,h⟩
 simp only[Value.agg.injEq,Array.mk.injEq]at e
 subst e
 exact k _ m' hm h
theorem Zil(k mn mx:Int)(a:Option Addr)(n c:Nat):(Value.int .i64 k::(List.replicate 256 (.int .i64 0)++[.int .i64 mn,.int .i64 mx,.slice a n c]))=rcs k (0,0,0,0) mn mx a n c:=by rw[Zs6];rfl
theorem ZvA{k mn mx:Int}(hk:0<=k/\k < 256)(h1 : -9223372036854775808<=mn/\mn<=9223372036854775807)(h2 : -9223372036854775808<=mx/\mx<=9223372036854775807):OkN k 0 0 0 0 mn mx:=⟨hk,⟨by decide,by decide⟩,⟨by decide,by decide⟩,⟨by decide,by decide⟩,⟨by decide,by decide⟩,h1,h2⟩
theorem Zp9{m:Mem}{k mn mx:Int}{l:List T}{a:Option Addr}{c:Nat}{css:List (List Value)}(hk:0<=k/\k < 256)(h1 : -9223372036854775808<=mn/\mn<=9223372036854775807)(h2 : -9223372036854775808<=mx/\mx<=9223372036854775807)(hl:l.length<=1000000)(hr:rowRd m a css.flatten)(bO:RefAt m l css)(hc:l.length<=c):RefT m (Zba k mn mx none 0 l) (rcs k (0,0,0,0) mn mx a l.length c):=
 ZaX.2 ⟨ZvA hk h1 h2,hl,a,c,css,rfl,hr,bO,hc⟩
theorem Zyp(m:Mem):RefT m T1 (rcs 1 (0,0,0,0) 0 0 none 0 0):=ZaX.2 ⟨ZvA ⟨by decide,by decide⟩ ⟨by decide,by decide⟩ ⟨by decide,by decide⟩,by decide,none,0,[],rfl,.inl rfl,by simp[T1,T.subs,RefAt],Nat.le_refl _⟩
theorem Zyq:ZgP=rcs 0 (0,0,0,0) 0 0 none 0 0:=Zil 0 0 0 none 0 0
theorem Zyr:ZgQ=rcs 0 (0,0,0,0) 0 0 none 0 0:=Zil 0 0 0 none 0 0
theorem Zzx:Zii=rcs 1 (0,0,0,0) 0 0 none 0 0:=Zil 1 0 0 none 0 0
theorem Zzy(a:Option Addr)(n c:Nat):Zij a n c=rcs 3 (0,0,0,0) 0 0 a n c:=Zil 3 0 0 a n c
theorem ZAW(a:Option Addr)(n c:Nat):Zkv a n c=rcs 4 (0,0,0,0) 0 0 a n c:=Zil 4 0 0 a n c
theorem ZwF(mn mx:Int)(b:Nat):Zfu mn mx b=rcs 5 (0,0,0,0) mn mx (some ⟨b,0,none⟩) 1 1:=Zil 5 mn mx (some ⟨b,0,none⟩) 1 1
theorem ZrN(b:Nat):Zen b=rcs 6 (0,0,0,0) 0 0 (some ⟨b,0,none⟩) 1 1:=Zil 6 0 0 (some ⟨b,0,none⟩) 1 1
theorem Zys(t:T)(cs:List Value)(m:Mem)(hr:RefT m t cs):CX Tryz.prog 143 #[.agg cs.toArray] m [] (ZrM (if t.clean then t else T0)):=by
 apply ZlM
 refine hr.chk λb m1 aK _ b1=>Zai (Zf7 t cs m1 (hr.mono aK)) λm2 aO=>Zac (λh=>hr.chk1 (Zah (mLt aK aO) ?_)) (λh=>Zah (mLt aK aO) ?_)
 ·rw[h,if_pos rfl];exact⟨cs,rfl,hr⟩
 ·rw[h,Zyq];exact⟨_,rfl,ZuM _⟩
theorem Zeg(t:T)(cs:List Value)(m:Mem)(hr:RefT m t cs)(hg:t.good=true)(hs:t.nodes.length<=10000):CX Tryz.prog 143 #[.agg cs.toArray] m [] (ZrM t):=by
 have:=Zys t cs m hr
 rw[ZaO hg hs,if_pos rfl]at this
 exact this
theorem ZvB(t:T)(cs:List Value)(m:Mem)(hr:RefT m t cs):CX Tryz.prog 144 #[.agg cs.toArray] m [] (Ret (.bool (t.same T0))):=by
 apply ZlN
 rw[Zyr]
 exact hr.chk λb m1 aK _=>Zai (Zs8 t T0 cs _ m1 (hr.mono aK) (ZuM _)) λm2 aO=>Zah (mLt aK aO) rfl
theorem Zqa{t:T}(h:t.good=true):t.same T0=false:=by
 have hk:=Zny h
 rw[ZwD]
 have:(t.k == T0.k)=false:=by simpa[T0,T.k]using hk
 rw[this];rfl
theorem Zm7{k w:Int}{L:List T}{i:Nat}{x:T}(h:L[i]?=some x):ZaV k w (L.take (i+1))=ZaV k w (L.take i)++ZbH k w x:=by
 rw[List.take_add_one,h]
 show ZaV k w (L.take i++[x])=_
 rw[ZhP]
 simp[ZaV]
theorem ZcY{k w:Int}(L:List T)(i:Nat):(ZaV k w (L.take i)).length<=szL L:=by
 have h1:=Zeu (k:=k) (w:=w) (L.take i)
 have h2:=Zbo (ZaV k w (L.take i))
 have h3:=Zcu L i
 omega
theorem Zc9{m:Mem}{b:Nat}{cs:List Value}:rowRd (m.add b (List.append cs [])) (some ⟨b,0,none⟩) cs:=.inr ⟨b,0,rfl,λj u hj=>by rw[Nat.zero_add,Mem.add_same];show(cs++[])[j]?=_;rw[List.append_nil];exact hj⟩
theorem ZlP{m:Mem}{a:Option Addr}{css dss:List (List Value)}(h:rowRd m a (List.append css.flatten dss.flatten)):rowRd m a (css++dss).flatten:=by
 rw[List.flatten_append];exact h
theorem ZdB{m:Mem}{a:Option Addr}{css:List (List Value)}{cs:List Value}(h:rowRd m a (List.append css.flatten cs)):rowRd m a (css++[cs]).flatten:=by
 rw[List.flatten_append,List.flatten_singleton];exact h
theorem Zfh{m:Mem}{b o:Nat}{cs:List Value}(h:m.reads b o cs){j:Nat}{v:Value}(hv:cs[j]?=some v):m b (o+j)=some v:=h j v hv
theorem Zkw{k w:Int}(hk:k=3/\w=1\/k=4/\w=0){L:List T}(h:∀x∈L,x.good=true):(ZcB k none 0 (ZaV k w L)).good=true/\(ZcB k none 0 (ZaV k w L)).nodes.length<=1+szL L:=by
 rcases hk with⟨rfl,rfl⟩|⟨rfl,rfl⟩
 ·have:=ZfP h
  have h1:=this.good
  have h2:=this.sz
  unfold Zje at h1 h2
  rw[ZbY]at h1
  rw[ZdF]at h2
  exact⟨h1,h2⟩
 ·have:=Zea h
  have h1:=this.good
  have h2:=this.sz
  unfold Zd9 at h1 h2
  rw[ZbY]at h1
  rw[ZdF]at h2
  exact⟨h1,h2⟩
set_option maxHeartbeats 1600000 in
theorem Zs9(L:List T)(css:List (List Value))(a:Option Addr)(c:Nat)(m:Mem)(hr:rowRd m a css.flatten)(bO:RefAt m L css)(hg:∀x∈L,x.good=true)(hs:szL L<=9000):CX Tryz.prog 121 #[.slice a L.length c] m [] (ZrM (Zje L)):=by
 apply ZnW
 have aU:=Zbo L
 intro b
 refine⟨λxs _ tvs m' q=>∃(i:Nat)(a1:Option Addr)(c1:Nat) (R:List (List Value)),i<=L.length/\xs=[.slice a1 (ZaV 3 1 (L.take i)).length c1,.int .i64 i]/\tvs=[.slice a1 (ZaV 3 1 (L.take i)).length c1]/\rowRd m' a1 R.flatten/\RefAt m' (ZaV 3 1 (L.take i)) R/\(ZaV 3 1 (L.take i)).length<=c1/\q=L.length - i,⟨_,0,none,0,[],Nat.zero_le _,rfl,rfl,.inl rfl,by simp[ZaV,RefAt],Nat.le_refl _,rfl⟩,?_⟩
 rintro a1 n1 c1 z cs a2 n2 c2 m1 q aK ⟨i,a',c',R,hi,aZ,bY,aP,hR,bL,hq⟩
 simp only[List.cons.injEq,Value.slice.injEq,Value.int.injEq,true_and,and_true]at aZ bY
 obtain⟨⟨rfl,rfl,rfl⟩,rfl⟩:=aZ
 obtain⟨rfl,rfl,rfl⟩:=bY
 subst hq
 refine Za4 (λaS=>?_) (λbI=>?_)
 ·have aN:i < L.length:=by omega
  obtain⟨x,hx⟩:=ZaQ aN
  have cL:=zA2 hx
  obtain⟨b0,o0,cs2,rfl,bA,bS⟩:=ZbZ hr bO hx
  have iG:=hg x cL
  have aZ:=Zbq cL
  have cU:Zaf (i:Int) L.length:=⟨by omega,by omega⟩
  have jA:=hR.len
  have fY:=ZbO hR.all
  have cK:=Zm7 (k:=3) (w:=1) hx
  have lT:=ZcY (k:=3) (w:=1) L i
  have tO:=ZcY (k:=3) (w:=1) L (i+1)
  have hw:IntKind.i64.wrap ((i:Int)+1)=((i+1:Nat):Int):=by rw[Zas (by omega) (by omega)];rfl
  simp only[hw,zA8]
  refine⟨b0,o0,rfl,cU,cs2,bS.len,bA.mono aK,Zai (Zf7 x cs2 m1 (bS.mono aK)) λm2 aO=>?_⟩
  rw[ZaO iG (by omega)]
  have bR:=mLt aK aO
  have kO:=Zfh (bA.mono bR) bS.at0
  refine ZaM rfl ⟨b0,o0,rfl,cU,_,kO,Zaa rfl (Zdl (λhk=>?_) (λhk=>⟨b0,o0,rfl,cU,_,kO,Zaa rfl (Zac (λiE=>?_) (λiE=>?_))⟩))⟩
  ·have hk:x.k=3:=hk
   have iD:ZbH 3 1 x=x.subs:=by unfold ZbH;rw[if_pos hk]
   rw[iD]at cK
   obtain⟨_,_,xa,xc,ds,rfl,nC,iA,_⟩:=ZaX.1 bS
   have qU:=iA.len
   have x9:=ZbO iA.all
   have bX:=congrArg List.length cK
   rw[zA1]at bX
   refine⟨b0,o0,rfl,cU,_,Zfh (bA.mono bR) (ZpD _ _ _ _ _ _ _),Zaa rfl ⟨.inl trivial,R.flatten,ds.flatten,by rw[fY,jA],by rw[x9,qU];rfl,aP.mono aO,nC.mono bR,Zfd iA,by simp only[slN];omega,by simp only[slN];omega,λa7 c7 m7 cB eP mS=>⟨by trivial,L.length - (i+1),by omega,i+1,a7,c7,R++ds,by omega,?_,?_,ZlP eP,?_,by rw[bX];exact mS,rfl⟩⟩⟩
   ·rw[bX];rfl
   ·rw[bX];rfl
   ·rw[cK]
    exact(hR.mono (mLt aO cB)).append (iA.mono (mLt bR cB))
  ·have rS:¬x.k=1:=by simpa[intOf]using iE
   have eV:¬x.k=3:=hk
   have iD:ZbH 3 1 x=[x]:=by unfold ZbH;rw[if_neg eV,if_neg rS]
   rw[iD]at cK
   have bX:=congrArg List.length cK
   rw[zA1]at bX
   simp only[List.length_cons,List.length_nil]at bX
   refine⟨b0,o0,rfl,cU,cs2,bS.len,bA.mono bR,bS.chk2 λb6 gP=>⟨.inl trivial,R.flatten,cs2,by rw[fY,jA],by rw[bS.len],(aP.mono aO).mono (Mem.le_add gP _),Zc9,bS.one,by omega,by omega,λa7 c7 m7 cB eP mS=>⟨by trivial,L.length - (i+1),by omega,i+1,a7,c7,R++[cs2],by omega,?_,?_,ZdB eP,?_,by rw[bX];exact mS,rfl⟩⟩⟩
   ·rw[bX]
   ·rw[bX]
   ·rw[cK]
    have h7:=mLt (Mem.le_add gP _) cB
    exact(hR.mono (mLt aO h7)).append (RefAt.one (bS.mono (mLt bR h7)))
  ·have rS:x.k=1:=by simpa[intOf]using iE
   have eV:¬x.k=3:=hk
   have iD:ZbH 3 1 x=[]:=by unfold ZbH;rw[if_neg eV,if_pos rS]
   rw[iD,List.append_nil]at cK
   exact⟨by trivial,L.length - (i+1),by omega,i+1,_,_,R,by omega,by rw[cK],by rw[cK],aP.mono aO,by rw[cK];exact hR.mono aO,by rw[cK];exact bL,rfl⟩
 ·have:i=L.length:=by omega
  subst this
  rw[List.take_length]at hR bL ⊢
  have hj:=Zkw (w:=1) (.inl ⟨rfl,rfl⟩) hg
  have pL:=Zeu (k:=3) (w:=1) L
  have fY:=Zbo (ZaV 3 1 L)
  have he:Zje L=(ZcB 3 none 0 (ZaV 3 1 L)).er:=rfl
  generalize ZaV 3 1 L=F at *
  match F,hR,bL with
  | [],hR,_=>
   refine ZeJ rfl (Zah aK ?_)
   rw[Zzx,he]
   exact⟨_,rfl,Zyp _⟩
  | [x],hR,_=>
   refine ZaM rfl (ZeJ rfl ?_)
   obtain⟨b0,o0,cs2,rfl,bA,bS⟩:=ZbZ aP hR (i:=0) (t:=x) rfl
   refine⟨b0,o0,rfl,⟨by omega,by simp⟩,cs2,bS.len,by simpa using bA,bS.chk1 ⟨m1,aK,Mem.le_refl _,cs2,rfl,?_⟩⟩
   rw[he]
   exact bS.of_er (by show x.er=x.er.er;rw[ZdQ])
  | x::y::F,hR,bL=>
   refine ZaM (by simp;omega) (ZaM (by simp;omega) ?_)
   rw[Zzy]
   have h1:=Zp9 (k:=3) (mn:=0) (mx:=0) (c:=c2) ⟨by decide,by decide⟩ ⟨by decide,by decide⟩ ⟨by decide,by decide⟩ (by omega) aP hR bL
   refine Zae (Zeg _ _ m1 h1 hj.1 (by have:=hj.2;show(ZcB 3 none 0 (x::y::F)).nodes.length<=_;omega)) Za5 (Ze4 λcs3 m3 aX h3=>h3.chk1 ⟨m3,mLt aK aX,Mem.le_refl _,cs3,rfl,?_⟩)
   rw[he]
   exact(Zfr _ _).2 h3
set_option maxHeartbeats 1600000 in
theorem Zyt(L:List T)(css:List (List Value))(a:Option Addr)(c:Nat)(m:Mem)(hr:rowRd m a css.flatten)(bO:RefAt m L css)(hg:∀x∈L,x.good=true)(hs:szL L<=9000)(bN:L≠[]):CX Tryz.prog 122 #[.slice a L.length c] m [] (ZrM (Zd9 L)):=by
 apply Zp8
 have aU:=Zbo L
 intro b
 refine⟨λxs _ tvs m' q=>∃(i:Nat)(a1:Option Addr)(c1:Nat) (R:List (List Value)),i<=L.length/\xs=[.slice a1 (ZaV 4 0 (L.take i)).length c1,.int .i64 i]/\tvs=[.slice a1 (ZaV 4 0 (L.take i)).length c1]/\rowRd m' a1 R.flatten/\RefAt m' (ZaV 4 0 (L.take i)) R/\(ZaV 4 0 (L.take i)).length<=c1/\q=L.length - i,⟨_,0,none,0,[],Nat.zero_le _,rfl,rfl,.inl rfl,by simp[ZaV,RefAt],Nat.le_refl _,rfl⟩,?_⟩
 rintro a1 n1 c1 z cs a2 n2 c2 m1 q aK ⟨i,a',c',R,hi,aZ,bY,aP,hR,bL,hq⟩
 simp only[List.cons.injEq,Value.slice.injEq,Value.int.injEq,true_and,and_true]at aZ bY
 obtain⟨⟨rfl,rfl,rfl⟩,rfl⟩:=aZ
 obtain⟨rfl,rfl,rfl⟩:=bY
 subst hq
 refine Za4 (λaS=>?_) (λbI=>?_)
 ·have aN:i < L.length:=by omega
  obtain⟨x,hx⟩:=ZaQ aN
  have cL:=zA2 hx
  obtain⟨b0,o0,cs2,rfl,bA,bS⟩:=ZbZ hr bO hx
  have iG:=hg x cL
  have aZ:=Zbq cL
  have cU:Zaf (i:Int) L.length:=⟨by omega,by omega⟩
  have jA:=hR.len
  have fY:=ZbO hR.all
  have cK:=Zm7 (k:=4) (w:=0) hx
  have lT:=ZcY (k:=4) (w:=0) L i
  have tO:=ZcY (k:=4) (w:=0) L (i+1)
  have hw:IntKind.i64.wrap ((i:Int)+1)=((i+1:Nat):Int):=by rw[Zas (by omega) (by omega)];rfl
  simp only[hw,zA8]
  refine⟨b0,o0,rfl,cU,cs2,bS.len,bA.mono aK,Zai (ZvB x cs2 m1 (bS.mono aK)) λm2 aO=>?_⟩
  rw[Zqa iG]
  have bR:=mLt aK aO
  refine ZaM rfl ⟨b0,o0,rfl,cU,cs2,bS.len,bA.mono bR,Zai (Zf7 x cs2 m2 (bS.mono bR)) λm3 aX=>?_⟩
  rw[ZaO iG (by omega)]
  have pM:=mLt aO aX
  have bQ:=mLt bR aX
  have kO:=Zfh (bA.mono bQ) bS.at0
  refine ZaM rfl ⟨b0,o0,rfl,cU,_,kO,Zaa rfl (Zdl (λhk=>?_) (λhk=>?_))⟩
  ·have hk:x.k=4:=hk
   have iD:ZbH 4 0 x=x.subs:=by unfold ZbH;rw[if_pos hk]
   rw[iD]at cK
   obtain⟨_,_,xa,xc,ds,rfl,nC,iA,_⟩:=ZaX.1 bS
   have qU:=iA.len
   have x9:=ZbO iA.all
   have bX:=congrArg List.length cK
   rw[zA1]at bX
   refine⟨b0,o0,rfl,cU,_,Zfh (bA.mono bQ) (ZpD _ _ _ _ _ _ _),Zaa rfl ⟨.inl trivial,R.flatten,ds.flatten,by rw[fY,jA],by rw[x9,qU];rfl,aP.mono pM,nC.mono bQ,Zfd iA,by simp only[slN];omega,by simp only[slN];omega,λa7 c7 m7 cB eP mS=>⟨by trivial,L.length - (i+1),by omega,i+1,a7,c7,R++ds,by omega,?_,?_,ZlP eP,?_,by rw[bX];exact mS,rfl⟩⟩⟩
   ·rw[bX];rfl
   ·rw[bX];rfl
   ·rw[cK]
    exact(hR.mono (mLt pM cB)).append (iA.mono (mLt bQ cB))
  ·have sR:¬x.k=4:=hk
   have iD:ZbH 4 0 x=[x]:=by unfold ZbH;rw[if_neg sR,if_neg (Zny iG)]
   rw[iD]at cK
   have bX:=congrArg List.length cK
   rw[zA1]at bX
   simp only[List.length_cons,List.length_nil]at bX
   refine⟨b0,o0,rfl,cU,cs2,bS.len,bA.mono bQ,bS.chk2 λb6 gP=>⟨.inl trivial,R.flatten,cs2,by rw[fY,jA],by rw[bS.len],(aP.mono pM).mono (Mem.le_add gP _),Zc9,bS.one,by omega,by omega,λa7 c7 m7 cB eP mS=>⟨by trivial,L.length - (i+1),by omega,i+1,a7,c7,R++[cs2],by omega,?_,?_,ZdB eP,?_,by rw[bX];exact mS,rfl⟩⟩⟩
   ·rw[bX]
   ·rw[bX]
   ·rw[cK]
    have h7:=mLt (Mem.le_add gP _) cB
    exact(hR.mono (mLt pM h7)).append (RefAt.one (bS.mono (mLt bQ h7)))
 ·have:i=L.length:=by omega
  subst this
  rw[List.take_length]at hR bL ⊢
  have hj:=Zkw (w:=0) (.inr ⟨rfl,rfl⟩) hg
  have pL:=Zeu (k:=4) (w:=0) L
  have fY:=Zbo (ZaV 4 0 L)
  have he:Zd9 L=(ZcB 4 none 0 (ZaV 4 0 L)).er:=rfl
  have gY:ZaV 4 0 L≠[]:=by
   match L,bN with
   | x::l,_=>
    rw[Zcr]
    have:=Zop (hg x (by simp))
    simp[this]
  generalize ZaV 4 0 L=F at *
  match F,hR,bL with
  | [],hR,_=>exact absurd rfl gY
  | [x],hR,_=>
   refine ZaM rfl (ZeJ rfl ?_)
   obtain⟨b0,o0,cs2,rfl,bA,bS⟩:=ZbZ aP hR (i:=0) (t:=x) rfl
   refine⟨b0,o0,rfl,⟨by omega,by simp⟩,cs2,bS.len,by simpa using bA,bS.chk1 ⟨m1,aK,Mem.le_refl _,cs2,rfl,?_⟩⟩
   rw[he]
   exact bS.of_er (by show x.er=x.er.er;rw[ZdQ])
  | x::y::F,hR,bL=>
   refine ZaM (by simp;omega) (ZaM (by simp;omega) ?_)
   rw[ZAW]
   have h1:=Zp9 (k:=4) (mn:=0) (mx:=0) (c:=c2) ⟨by decide,by decide⟩ ⟨by decide,by decide⟩ ⟨by decide,by decide⟩ (by omega) aP hR bL
   refine Zae (Zeg _ _ m1 h1 hj.1 (by have:=hj.2;show(ZcB 4 none 0 (x::y::F)).nodes.length<=_;omega)) Za5 (Ze4 λcs3 m3 aX h3=>h3.chk1 ⟨m3,mLt aK aX,Mem.le_refl _,cs3,rfl,?_⟩)
   rw[he]
   exact(Zfr _ _).2 h3
theorem Zqb(t:T)(cs:List Value)(m:Mem)(hr:RefT m t cs)(hg:t.good=true)(hs:t.nodes.length<=9000):CX Tryz.prog 124 #[.agg cs.toArray] m [] (ZrM (Zba 6 0 0 none 0 [t])):=by
 apply Zhg
 refine hr.chk λb m1 aK _ b1=>hr.chk2 λb2 jG=>?_
 have bC:=mLt aK (Mem.le_add jG (List.append cs []))
 rw[ZrN]
 have h1:=Zp9 (k:=6) (mn:=0) (mx:=0) (l:=[t]) (css:=[cs]) (a:=some ⟨b2,0,none⟩) (c:=1) ⟨by decide,by decide⟩ ⟨by decide,by decide⟩ ⟨by decide,by decide⟩ (by simp) (by rw[List.flatten_singleton];exact Zc9) (RefAt.one (hr.mono bC)) (Nat.le_refl _)
 refine Zae (Zeg _ _ _ h1 (Zot hg) (by rw[Zb9];show 1+szL [t]<=_;rw[Zci];omega)) Za5 (Ze4 λcs3 m3 aX h3=>h3.chk1 ⟨m3,mLt bC aX,Mem.le_refl _,cs3,rfl,h3⟩)
theorem ZuN(t:T)(cs:List Value)(mn mx:Int)(m:Mem)(hr:RefT m t cs)(hg:t.good=true)(hs:t.nodes.length<=9000)(hb:Zb7 mn mx=true)(hk:t.k≠1):CX Tryz.prog 123 #[.agg cs.toArray,.int .i64 mn,.int .i64 mx] m [] (ZrM (Zba 5 mn mx none 0 [t])):=by
 apply ZjL
 have dC:(0<=mn/\mn<=16/\-1<=mx/\mx<=16)/\¬(mn=1/\mx=1)/\mx≠0:=by
  unfold Zb7 at hb
  simp only[zA7,Bool.not_eq_true',Bool.or_eq_false_iff,Bool.or_eq_true,decide_eq_false_iff_not,decide_eq_true_eq,beq_iff_eq,Bool.and_eq_false_iff,beq_eq_false_iff_ne]at hb
  omega
 refine hr.chk λb m1 aK _ b1=>Zai (ZvB t cs m1 (hr.mono aK)) λm2 aO=>?_
 rw[Zqa hg]
 have bR:=mLt aK aO
 have s7:=Zm6 mn mx m2
 rw[hb]at s7
 refine⟨false,ZeJ rfl (Zai (Zf7 t cs m2 (hr.mono bR)) λm3 aX=>⟨by trivial,by rw[ZaO hg (by omega)];rfl⟩),ZaM rfl ⟨false,Zdl (λh=>⟨by trivial,?_⟩) (λh=>⟨by trivial,rfl⟩),ZaM rfl ⟨false,Zdl (λh=>Zac (λh2=>Zai s7 λm3 aX=>⟨by trivial,rfl⟩) (λh2=>⟨by trivial,rfl⟩)) (λh=>Zai s7 λm3 aX=>⟨by trivial,rfl⟩),ZaM rfl (ZaM rfl ⟨false,?_,ZaM rfl (hr.chk2 λb5 oN=>?_)⟩)⟩⟩⟩
 ·have:(mx == 0)=false:=by simpa using dC.2.2
  rw[this]
 ·refine Zap hr.at0 (Zaa rfl (Zdl (λh=>absurd h hk) (λh=>Zdl (λh2=>⟨by trivial,?_⟩) (λh2=>⟨by trivial,rfl⟩))))
  have:(mx == 1)=false:=by
   have:=dC.2.1
   simpa[h2]using this
  rw[this]
 ·have bC:=mLt bR (Mem.le_add oN (List.append cs []))
  rw[ZwF]
  have h1:=Zp9 (k:=5) (mn:=mn) (mx:=mx) (l:=[t]) (css:=[cs]) (a:=some ⟨b5,0,none⟩) (c:=1) ⟨by decide,by decide⟩ (by omega) (by omega) (by simp) (by rw[List.flatten_singleton];exact Zc9) (RefAt.one (hr.mono bC)) (Nat.le_refl _)
  exact Zae (Zeg _ _ _ h1 (Zpv hb hk hg) (by rw[Zb9];show 1+szL [t]<=_;rw[Zci];omega)) Za5 (Ze4 λcs3 m3 aX h3=>h3.chk1 ⟨m3,mLt bC aX,Mem.le_refl _,cs3,rfl,h3⟩)
end Go.Proofs.YtfgfahnakepegaaGreat
end
