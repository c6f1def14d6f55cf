/- Part of the proof: conditions and contracts of functions of this program. No condition of its own. -/
import Derived.Test.YtplacemlpkhmfaaPEnv
set_option linter.unusedVariables false
namespace Go.Proofs.Ytplacemlpkhmfaa
open Go Go.Eng Go.Proofs Go.RowKit
open Go.Value (int slice agg)
open Go.IntKind (u8 u64 i64)
set_option maxRecDepth 100000
noncomputable def ZeN:Env:={ EB with
 dr:=(fun i=>bif Nat.beq i 1 then[⟨0,[3],[],none,[],[]⟩,⟨1,[],[],none,[0],[]⟩,⟨2,[4],[],none,[],[]⟩,⟨3,[4],[],none,[2],[]⟩,⟨4,[],[],none,[0,1,2,3],[]⟩,⟨5,[4],[],none,[],[]⟩,⟨6,[5],[],none,[],[]⟩,⟨7,[],[],none,[0,1,2,3,4,5,6],[1]⟩,⟨8,[6],[6],none,[0,1,2,3,4,5,6,7],[]⟩]else[])
 frzNew:=[3,4,5] }
def ZbF(aI:Option Addr)(aH aJ:Nat)(aE:Bool)(aU aV aW aR aS aT:Int)(aO:Option Addr)(aP aQ:Nat)(bK bL bM bN bO bP bQ bU bV:Int)(m:Mem)(R:RT):Prop:=
 ∀(b:Nat)(m':Mem),Mem.le m m'→Mem.reads m' b 0 [slice aI aH aJ,Value.bool aE]→∀(b:Nat)(ab:Mem),Mem.le m' ab→Mem.reads ab b 0 [int u8 0,int u64 aU,int u64 aV,int u64 aW,int u64
 aR,int i64 aS,int i64 aT,slice aO aP aQ]→∀(b:Nat)(m':Mem),Mem.le ab m'→Mem.reads m' b 0 [int u64 bK,int u64 bL,int u64 bM,int u64 bN,int u64 bO,int u64 bP,int u64 bQ,int
 u64 bU,int u64 bV]→∀(b:Nat),∃(f:Fx),∃(R_1:RT),R_1=f 1 [agg (Array.mk [slice aI aH aJ,Value.bool aE])] m'∧CX Try.prog 119 (Array.mk [agg (Array.mk [slice aI aH aJ,Value.bool
 aE])]) m' [] R_1∧Zaz (Shape.agg [Shape.fn,Shape.fn,Shape.fn,Shape.fn,Shape.fn,Shape.fn,Shape.fn]) R_1∧∀(g:Nat)(fi ca:List Value)(al:Nat)(am an:List Value)(ao:Nat)(ap aq:List Value) (ar:
 Nat) (au av:List Value) (aw:Nat) (ax ay:List Value) (az:Nat) (a0 a1:List Value) (a2:Nat) (a3 a4:List Value) (aa:Mem),Mem.le m' aa→R_1 (agg (Array.mk [Value.func (Fn.func g) (Array.mk fi) (Array.mk
 ca),Value.func (Fn.func al) (Array.mk am) (Array.mk an),Value.func (Fn.func ao) (Array.mk ap) (Array.mk aq),Value.func (Fn.func ar) (Array.mk au) (Array.mk av),Value.func (Fn.func aw) (Array.mk ax) (Array.mk ay),
 Value.func (Fn.func az) (Array.mk a0) (Array.mk a1),Value.func (Fn.func a2) (Array.mk a3) (Array.mk a4)])) aa []→Zae (0:Int) 7∧∃(R_2:RT),R_2=f 7 (List.append (List.append fi [agg (Array.mk [int u8 0,
 int u64 aU,int u64 aV,int u64 aW,int u64 aR,int i64 aS,int i64 aT,slice aO aP aQ]),agg (Array.mk [int u64 bK,int u64 bL,int u64 bM,int u64 bN,int u64 bO,int u64 bP,int u64
 bQ,int u64 bU,int u64 bV])]) ca) aa∧CX Try.prog g (Array.mk (List.append (List.append fi [agg (Array.mk [int u8 0,int u64 aU,int u64 aV,int u64 aW,int u64 aR,int i64 aS,int i64 aT,slice
 aO aP aQ]),agg (Array.mk [int u64 bK,int u64 bL,int u64 bM,int u64 bN,int u64 bO,int u64 bP,int u64 bQ,int u64 bU,int u64 bV])]) ca)) aa [] R_2∧Zaz (Shape.agg [Shape.int u64,
 Shape.int u64,Shape.int u64,Shape.int u64,Shape.int u64,Shape.int u64,Shape.int u64,Shape.int u64,Shape.int u64]) R_2∧∀(n ad ae af ag ah ai aj ak:Int)(ac:Mem),Mem.le aa ac→R_2 (agg (Array.mk [int u64
 n,int u64 ad,int u64 ae,int u64 af,int u64 ag,int u64 ah,int u64 ai,int u64 aj,int u64 ak])) ac []→∀(M:Mem),Mem.le m' M→Mem.le aa M→Mem.le ac M→∃(m'':Mem),Mem.le m m''∧Mem.le m'' M∧R (agg
 (Array.mk [int u64 n,int u64 ad,int u64 ae,int u64 af,int u64 ag,int u64 ah,int u64 ai,int u64 aj,int u64 ak])) m'' []
theorem Zei(aI:Option Addr)(aH aJ:Nat)(aE:Bool)(aU aV aW aR aS aT:Int)(aO:Option Addr)(aP aQ:Nat)(bK bL bM bN bO bP bQ bU bV:Int)(m:Mem)(R:RT)(h:ZbF aI aH aJ aE aU aV aW aR aS aT aO aP aQ bK bL bM bN bO bP bQ bU bV m R):CX Try.prog 89 #[.agg #[.slice aI aH aJ,.bool aE],.agg #[.int .u8 0,.int .u64 aU,.int .u64 aV,.int .u64 aW,.int .u64 aR,.int .i64 aS,.int .i64 aT,.slice aO aP aQ],.agg #[.int .u64 bK,.int .u64 bL,.int .u64 bM,.int .u64 bN,.int .u64 bO,.int .u64 bP,.int .u64 bQ,.int .u64 bU,.int .u64 bV]] m [] R:=
 Zaf (E:=ZeN) Zar mix Try.func89 [.v (.agg #[.slice aI aH aJ,.bool aE]),.v (.agg #[.int .u8 0,.int .u64 aU,.int .u64 aV,.int .u64 aW,.int .u64 aR,.int .i64 aS,.int .i64 aT,.slice aO aP aQ]),.v (.agg #[.int .u64 bK,.int .u64 bL,.int .u64 bM,.int .u64 bN,.int .u64 bO,.int .u64 bP,.int .u64 bQ,.int .u64 bU,.int .u64 bV])] [] (by kernel_rfl) (Eq.mp (by kernel_rfl) h)
noncomputable def ZeO:Env:={ EB with
 dr:=(fun i=>bif Nat.beq i 1 then[⟨0,[3],[],none,[],[]⟩,⟨1,[],[],none,[0],[]⟩,⟨2,[4],[],none,[],[]⟩,⟨3,[4],[],none,[2],[]⟩,⟨4,[],[],none,[0,1,2,3],[]⟩,⟨5,[4],[],none,[],[]⟩,⟨6,[5],[],none,[],[]⟩,⟨7,[],[],none,[0,1,2,3,4,5,6],[1]⟩,⟨8,[6],[6],none,[0,1,2,3,4,5,6,7],[]⟩]else[])
 frzNew:=[3,4,5] }
def ZbG(aI:Option Addr)(aH aJ:Nat)(aE:Bool)(aU aV aW aR aS aT:Int)(aO:Option Addr)(aP aQ:Nat)(bK bL bM bN bO bP bQ bU bV:Int)(m:Mem)(R:RT):Prop:=
 ∀(b:Nat)(m':Mem),Mem.le m m'→Mem.reads m' b 0 [slice aI aH aJ,Value.bool aE]→∀(b:Nat)(ab:Mem),Mem.le m' ab→Mem.reads ab b 0 [int u8 1,int u64 aU,int u64 aV,int u64 aW,int u64
 aR,int i64 aS,int i64 aT,slice aO aP aQ]→∀(b:Nat)(m':Mem),Mem.le ab m'→Mem.reads m' b 0 [int u64 bK,int u64 bL,int u64 bM,int u64 bN,int u64 bO,int u64 bP,int u64 bQ,int
 u64 bU,int u64 bV]→∀(b:Nat),∃(f:Fx),∃(R_1:RT),R_1=f 1 [agg (Array.mk [slice aI aH aJ,Value.bool aE])] m'∧CX Try.prog 119 (Array.mk [agg (Array.mk [slice aI aH aJ,Value.bool
 aE])]) m' [] R_1∧Zaz (Shape.agg [Shape.fn,Shape.fn,Shape.fn,Shape.fn,Shape.fn,Shape.fn,Shape.fn]) R_1∧∀(g:Nat)(fi ca:List Value)(af:Nat)(ac ad:List Value)(ao:Nat)(ap aq:List Value) (ar:
 Nat) (au av:List Value) (aw:Nat) (ax ay:List Value) (az:Nat) (a0 a1:List Value) (a2:Nat) (a3 a4:List Value) (aa:Mem),Mem.le m' aa→R_1 (agg (Array.mk [Value.func (Fn.func g) (Array.mk fi) (Array.mk
 ca),Value.func (Fn.func af) (Array.mk ac) (Array.mk ad),Value.func (Fn.func ao) (Array.mk ap) (Array.mk aq),Value.func (Fn.func ar) (Array.mk au) (Array.mk av),Value.func (Fn.func aw) (Array.mk ax) (Array.mk ay),
 Value.func (Fn.func az) (Array.mk a0) (Array.mk a1),Value.func (Fn.func a2) (Array.mk a3) (Array.mk a4)])) aa []→Zae (1:Int) 7∧∃(R_2:RT),R_2=f 7 (List.append (List.append ac [agg (Array.mk [int u8 1,
 int u64 aU,int u64 aV,int u64 aW,int u64 aR,int i64 aS,int i64 aT,slice aO aP aQ]),agg (Array.mk [int u64 bK,int u64 bL,int u64 bM,int u64 bN,int u64 bO,int u64 bP,int u64
 bQ,int u64 bU,int u64 bV])]) ad) aa∧CX Try.prog af (Array.mk (List.append (List.append ac [agg (Array.mk [int u8 1,int u64 aU,int u64 aV,int u64 aW,int u64 aR,int i64 aS,int i64 aT,slice
 aO aP aQ]),agg (Array.mk [int u64 bK,int u64 bL,int u64 bM,int u64 bN,int u64 bO,int u64 bP,int u64 bQ,int u64 bU,int u64 bV])]) ad)) aa [] R_2∧Zaz (Shape.agg [Shape.int u64,
 Shape.int u64,Shape.int u64,Shape.int u64,Shape.int u64,Shape.int u64,Shape.int u64,Shape.int u64,Shape.int u64]) R_2∧∀(n ag ah ai aj ak al am an:Int)(ae:Mem),Mem.le aa ae→R_2 (agg (Array.mk [int u64
 n,int u64 ag,int u64 ah,int u64 ai,int u64 aj,int u64 ak,int u64 al,int u64 am,int u64 an])) ae []→∀(M:Mem),Mem.le m' M→Mem.le aa M→Mem.le ae M→∃(m'':Mem),Mem.le m m''∧Mem.le m'' M∧R (agg
 (Array.mk [int u64 n,int u64 ag,int u64 ah,int u64 ai,int u64 aj,int u64 ak,int u64 al,int u64 am,int u64 an])) m'' []
theorem Zej(aI:Option Addr)(aH aJ:Nat)(aE:Bool)(aU aV aW aR aS aT:Int)(aO:Option Addr)(aP aQ:Nat)(bK bL bM bN bO bP bQ bU bV:Int)(m:Mem)(R:RT)(h:ZbG aI aH aJ aE aU aV aW aR aS aT aO aP aQ bK bL bM bN bO bP bQ bU bV m R):CX Try.prog 89 #[.agg #[.slice aI aH aJ,.bool aE],.agg #[.int .u8 1,.int .u64 aU,.int .u64 aV,.int .u64 aW,.int .u64 aR,.int .i64 aS,.int .i64 aT,.slice aO aP aQ],.agg #[.int .u64 bK,.int .u64 bL,.int .u64 bM,.int .u64 bN,.int .u64 bO,.int .u64 bP,.int .u64 bQ,.int .u64 bU,.int .u64 bV]] m [] R:=
 Zaf (E:=ZeO) Zar mix Try.func89 [.v (.agg #[.slice aI aH aJ,.bool aE]),.v (.agg #[.int .u8 1,.int .u64 aU,.int .u64 aV,.int .u64 aW,.int .u64 aR,.int .i64 aS,.int .i64 aT,.slice aO aP aQ]),.v (.agg #[.int .u64 bK,.int .u64 bL,.int .u64 bM,.int .u64 bN,.int .u64 bO,.int .u64 bP,.int .u64 bQ,.int .u64 bU,.int .u64 bV])] [] (by kernel_rfl) (Eq.mp (by kernel_rfl) h)
noncomputable def ZeP:Env:={ EB with
 dr:=(fun i=>bif Nat.beq i 1 then[⟨0,[3],[],none,[],[]⟩,⟨1,[],[],none,[0],[]⟩,⟨2,[4],[],none,[],[]⟩,⟨3,[4],[],none,[2],[]⟩,⟨4,[],[],none,[0,1,2,3],[]⟩,⟨5,[4],[],none,[],[]⟩,⟨6,[5],[],none,[],[]⟩,⟨7,[],[],none,[0,1,2,3,4,5,6],[1]⟩,⟨8,[6],[6],none,[0,1,2,3,4,5,6,7],[]⟩]else[])
 frzNew:=[3,4,5] }
def ZbH(aI:Option Addr)(aH aJ:Nat)(aE:Bool)(aU aV aW aR aS aT:Int)(aO:Option Addr)(aP aQ:Nat)(bK bL bM bN bO bP bQ bU bV:Int)(m:Mem)(R:RT):Prop:=
 ∀(b:Nat)(m':Mem),Mem.le m m'→Mem.reads m' b 0 [slice aI aH aJ,Value.bool aE]→∀(b:Nat)(ab:Mem),Mem.le m' ab→Mem.reads ab b 0 [int u8 2,int u64 aU,int u64 aV,int u64 aW,int u64
 aR,int i64 aS,int i64 aT,slice aO aP aQ]→∀(b:Nat)(m':Mem),Mem.le ab m'→Mem.reads m' b 0 [int u64 bK,int u64 bL,int u64 bM,int u64 bN,int u64 bO,int u64 bP,int u64 bQ,int
 u64 bU,int u64 bV]→∀(b:Nat),∃(f:Fx),∃(R_1:RT),R_1=f 1 [agg (Array.mk [slice aI aH aJ,Value.bool aE])] m'∧CX Try.prog 119 (Array.mk [agg (Array.mk [slice aI aH aJ,Value.bool
 aE])]) m' [] R_1∧Zaz (Shape.agg [Shape.fn,Shape.fn,Shape.fn,Shape.fn,Shape.fn,Shape.fn,Shape.fn]) R_1∧∀(g:Nat)(fi ca:List Value)(ao:Nat)(ap aq:List Value)(af:Nat)(ac ad:List Value) (ar:
 Nat) (au av:List Value) (aw:Nat) (ax ay:List Value) (az:Nat) (a0 a1:List Value) (a2:Nat) (a3 a4:List Value) (aa:Mem),Mem.le m' aa→R_1 (agg (Array.mk [Value.func (Fn.func g) (Array.mk fi) (Array.mk
 ca),Value.func (Fn.func ao) (Array.mk ap) (Array.mk aq),Value.func (Fn.func af) (Array.mk ac) (Array.mk ad),Value.func (Fn.func ar) (Array.mk au) (Array.mk av),Value.func (Fn.func aw) (Array.mk ax) (Array.mk ay),
 Value.func (Fn.func az) (Array.mk a0) (Array.mk a1),Value.func (Fn.func a2) (Array.mk a3) (Array.mk a4)])) aa []→Zae (2:Int) 7∧∃(R_2:RT),R_2=f 7 (List.append (List.append ac [agg (Array.mk [int u8 2,
 int u64 aU,int u64 aV,int u64 aW,int u64 aR,int i64 aS,int i64 aT,slice aO aP aQ]),agg (Array.mk [int u64 bK,int u64 bL,int u64 bM,int u64 bN,int u64 bO,int u64 bP,int u64
 bQ,int u64 bU,int u64 bV])]) ad) aa∧CX Try.prog af (Array.mk (List.append (List.append ac [agg (Array.mk [int u8 2,int u64 aU,int u64 aV,int u64 aW,int u64 aR,int i64 aS,int i64 aT,slice
 aO aP aQ]),agg (Array.mk [int u64 bK,int u64 bL,int u64 bM,int u64 bN,int u64 bO,int u64 bP,int u64 bQ,int u64 bU,int u64 bV])]) ad)) aa [] R_2∧Zaz (Shape.agg [Shape.int u64,
 Shape.int u64,Shape.int u64,Shape.int u64,Shape.int u64,Shape.int u64,Shape.int u64,Shape.int u64,Shape.int u64]) R_2∧∀(n ag ah ai aj ak al am an:Int)(ae:Mem),Mem.le aa ae→R_2 (agg (Array.mk [int u64
 n,int u64 ag,int u64 ah,int u64 ai,int u64 aj,int u64 ak,int u64 al,int u64 am,int u64 an])) ae []→∀(M:Mem),Mem.le m' M→Mem.le aa M→Mem.le ae M→∃(m'':Mem),Mem.le m m''∧Mem.le m'' M∧R (agg
 (Array.mk [int u64 n,int u64 ag,int u64 ah,int u64 ai,int u64 aj,int u64 ak,int u64 al,int u64 am,int u64 an])) m'' []
theorem Zek(aI:Option Addr)(aH aJ:Nat)(aE:Bool)(aU aV aW aR aS aT:Int)(aO:Option Addr)(aP aQ:Nat)(bK bL bM bN bO bP bQ bU bV:Int)(m:Mem)(R:RT)(h:ZbH aI aH aJ aE aU aV aW aR aS aT aO aP aQ bK bL bM bN bO bP bQ bU bV m R):CX Try.prog 89 #[.agg #[.slice aI aH aJ,.bool aE],.agg #[.int .u8 2,.int .u64 aU,.int .u64 aV,.int .u64 aW,.int .u64 aR,.int .i64 aS,.int .i64 aT,.slice aO aP aQ],.agg #[.int .u64 bK,.int .u64 bL,.int .u64 bM,.int .u64 bN,.int .u64 bO,.int .u64 bP,.int .u64 bQ,.int .u64 bU,.int .u64 bV]] m [] R:=
 Zaf (E:=ZeP) Zar mix Try.func89 [.v (.agg #[.slice aI aH aJ,.bool aE]),.v (.agg #[.int .u8 2,.int .u64 aU,.int .u64 aV,.int .u64 aW,.int .u64 aR,.int .i64 aS,.int .i64 aT,.slice aO aP aQ]),.v (.agg #[.int .u64 bK,.int .u64 bL,.int .u64 bM,.int .u64 bN,.int .u64 bO,.int .u64 bP,.int .u64 bQ,.int .u64 bU,.int .u64 bV])] [] (by kernel_rfl) (Eq.mp (by kernel_rfl) h)
noncomputable def ZeQ:Env:={ EB with
 dr:=(fun i=>bif Nat.beq i 1 then[⟨0,[3],[],none,[],[]⟩,⟨1,[],[],none,[0],[]⟩,⟨2,[4],[],none,[],[]⟩,⟨3,[4],[],none,[2],[]⟩,⟨4,[],[],none,[0,1,2,3],[]⟩,⟨5,[4],[],none,[],[]⟩,⟨6,[5],[],none,[],[]⟩,⟨7,[],[],none,[0,1,2,3,4,5,6],[1]⟩,⟨8,[6],[6],none,[0,1,2,3,4,5,6,7],[]⟩]else[])
 frzNew:=[3,4,5] }
def ZbI(aI:Option Addr)(aH aJ:Nat)(aE:Bool)(aU aV aW aR aS aT:Int)(aO:Option Addr)(aP aQ:Nat)(bK bL bM bN bO bP bQ bU bV:Int)(m:Mem)(R:RT):Prop:=
 ∀(b:Nat)(m':Mem),Mem.le m m'→Mem.reads m' b 0 [slice aI aH aJ,Value.bool aE]→∀(b:Nat)(ab:Mem),Mem.le m' ab→Mem.reads ab b 0 [int u8 3,int u64 aU,int u64 aV,int u64 aW,int u64
 aR,int i64 aS,int i64 aT,slice aO aP aQ]→∀(b:Nat)(m':Mem),Mem.le ab m'→Mem.reads m' b 0 [int u64 bK,int u64 bL,int u64 bM,int u64 bN,int u64 bO,int u64 bP,int u64 bQ,int
 u64 bU,int u64 bV]→∀(b:Nat),∃(f:Fx),∃(R_1:RT),R_1=f 1 [agg (Array.mk [slice aI aH aJ,Value.bool aE])] m'∧CX Try.prog 119 (Array.mk [agg (Array.mk [slice aI aH aJ,Value.bool
 aE])]) m' [] R_1∧Zaz (Shape.agg [Shape.fn,Shape.fn,Shape.fn,Shape.fn,Shape.fn,Shape.fn,Shape.fn]) R_1∧∀(g:Nat)(fi ca:List Value)(ao:Nat)(ap aq:List Value)(ar:Nat)(au av:List Value) (af:
 Nat) (ac ad:List Value) (aw:Nat) (ax ay:List Value) (az:Nat) (a0 a1:List Value) (a2:Nat) (a3 a4:List Value) (aa:Mem),Mem.le m' aa→R_1 (agg (Array.mk [Value.func (Fn.func g) (Array.mk fi) (Array.mk
 ca),Value.func (Fn.func ao) (Array.mk ap) (Array.mk aq),Value.func (Fn.func ar) (Array.mk au) (Array.mk av),Value.func (Fn.func af) (Array.mk ac) (Array.mk ad),Value.func (Fn.func aw) (Array.mk ax) (Array.mk ay),
 Value.func (Fn.func az) (Array.mk a0) (Array.mk a1),Value.func (Fn.func a2) (Array.mk a3) (Array.mk a4)])) aa []→Zae (3:Int) 7∧∃(R_2:RT),R_2=f 7 (List.append (List.append ac [agg (Array.mk [int u8 3,
 int u64 aU,int u64 aV,int u64 aW,int u64 aR,int i64 aS,int i64 aT,slice aO aP aQ]),agg (Array.mk [int u64 bK,int u64 bL,int u64 bM,int u64 bN,int u64 bO,int u64 bP,int u64
 bQ,int u64 bU,int u64 bV])]) ad) aa∧CX Try.prog af (Array.mk (List.append (List.append ac [agg (Array.mk [int u8 3,int u64 aU,int u64 aV,int u64 aW,int u64 aR,int i64 aS,int i64 aT,slice
 aO aP aQ]),agg (Array.mk [int u64 bK,int u64 bL,int u64 bM,int u64 bN,int u64 bO,int u64 bP,int u64 bQ,int u64 bU,int u64 bV])]) ad)) aa [] R_2∧Zaz (Shape.agg [Shape.int u64,
 Shape.int u64,Shape.int u64,Shape.int u64,Shape.int u64,Shape.int u64,Shape.int u64,Shape.int u64,Shape.int u64]) R_2∧∀(n ag ah ai aj ak al am an:Int)(ae:Mem),Mem.le aa ae→R_2 (agg (Array.mk [int u64
 n,int u64 ag,int u64 ah,int u64 ai,int u64 aj,int u64 ak,int u64 al,int u64 am,int u64 an])) ae []→∀(M:Mem),Mem.le m' M→Mem.le aa M→Mem.le ae M→∃(m'':Mem),Mem.le m m''∧Mem.le m'' M∧R (agg
 (Array.mk [int u64 n,int u64 ag,int u64 ah,int u64 ai,int u64 aj,int u64 ak,int u64 al,int u64 am,int u64 an])) m'' []
theorem Zel(aI:Option Addr)(aH aJ:Nat)(aE:Bool)(aU aV aW aR aS aT:Int)(aO:Option Addr)(aP aQ:Nat)(bK bL bM bN bO bP bQ bU bV:Int)(m:Mem)(R:RT)(h:ZbI aI aH aJ aE aU aV aW aR aS aT aO aP aQ bK bL bM bN bO bP bQ bU bV m R):CX Try.prog 89 #[.agg #[.slice aI aH aJ,.bool aE],.agg #[.int .u8 3,.int .u64 aU,.int .u64 aV,.int .u64 aW,.int .u64 aR,.int .i64 aS,.int .i64 aT,.slice aO aP aQ],.agg #[.int .u64 bK,.int .u64 bL,.int .u64 bM,.int .u64 bN,.int .u64 bO,.int .u64 bP,.int .u64 bQ,.int .u64 bU,.int .u64 bV]] m [] R:=
 Zaf (E:=ZeQ) Zar mix Try.func89 [.v (.agg #[.slice aI aH aJ,.bool aE]),.v (.agg #[.int .u8 3,.int .u64 aU,.int .u64 aV,.int .u64 aW,.int .u64 aR,.int .i64 aS,.int .i64 aT,.slice aO aP aQ]),.v (.agg #[.int .u64 bK,.int .u64 bL,.int .u64 bM,.int .u64 bN,.int .u64 bO,.int .u64 bP,.int .u64 bQ,.int .u64 bU,.int .u64 bV])] [] (by kernel_rfl) (Eq.mp (by kernel_rfl) h)
noncomputable def ZeR:Env:={ EB with
 dr:=(fun i=>bif Nat.beq i 1 then[⟨0,[3],[],none,[],[]⟩,⟨1,[],[],none,[0],[]⟩,⟨2,[4],[],none,[],[]⟩,⟨3,[4],[],none,[2],[]⟩,⟨4,[],[],none,[0,1,2,3],[]⟩,⟨5,[4],[],none,[],[]⟩,⟨6,[5],[],none,[],[]⟩,⟨7,[],[],none,[0,1,2,3,4,5,6],[1]⟩,⟨8,[6],[6],none,[0,1,2,3,4,5,6,7],[]⟩]else[])
 frzNew:=[3,4,5] }
def ZbJ(aI:Option Addr)(aH aJ:Nat)(aE:Bool)(aU aV aW aR aS aT:Int)(aO:Option Addr)(aP aQ:Nat)(bK bL bM bN bO bP bQ bU bV:Int)(m:Mem)(R:RT):Prop:=
 ∀(b:Nat)(m':Mem),Mem.le m m'→Mem.reads m' b 0 [slice aI aH aJ,Value.bool aE]→∀(b:Nat)(ab:Mem),Mem.le m' ab→Mem.reads ab b 0 [int u8 4,int u64 aU,int u64 aV,int u64 aW,int u64
 aR,int i64 aS,int i64 aT,slice aO aP aQ]→∀(b:Nat)(m':Mem),Mem.le ab m'→Mem.reads m' b 0 [int u64 bK,int u64 bL,int u64 bM,int u64 bN,int u64 bO,int u64 bP,int u64 bQ,int
 u64 bU,int u64 bV]→∀(b:Nat),∃(f:Fx),∃(R_1:RT),R_1=f 1 [agg (Array.mk [slice aI aH aJ,Value.bool aE])] m'∧CX Try.prog 119 (Array.mk [agg (Array.mk [slice aI aH aJ,Value.bool
 aE])]) m' [] R_1∧Zaz (Shape.agg [Shape.fn,Shape.fn,Shape.fn,Shape.fn,Shape.fn,Shape.fn,Shape.fn]) R_1∧∀(g:Nat)(fi ca:List Value)(ao:Nat)(ap aq:List Value)(ar:Nat)(au av:List Value) (aw:
 Nat) (ax ay:List Value) (af:Nat) (ac ad:List Value) (az:Nat) (a0 a1:List Value) (a2:Nat) (a3 a4:List Value) (aa:Mem),Mem.le m' aa→R_1 (agg (Array.mk [Value.func (Fn.func g) (Array.mk fi) (Array.mk
 ca),Value.func (Fn.func ao) (Array.mk ap) (Array.mk aq),Value.func (Fn.func ar) (Array.mk au) (Array.mk av),Value.func (Fn.func aw) (Array.mk ax) (Array.mk ay),Value.func (Fn.func af) (Array.mk ac) (Array.mk ad),
 Value.func (Fn.func az) (Array.mk a0) (Array.mk a1),Value.func (Fn.func a2) (Array.mk a3) (Array.mk a4)])) aa []→Zae (4:Int) 7∧∃(R_2:RT),R_2=f 7 (List.append (List.append ac [agg (Array.mk [int u8 4,
 int u64 aU,int u64 aV,int u64 aW,int u64 aR,int i64 aS,int i64 aT,slice aO aP aQ]),agg (Array.mk [int u64 bK,int u64 bL,int u64 bM,int u64 bN,int u64 bO,int u64 bP,int u64
 bQ,int u64 bU,int u64 bV])]) ad) aa∧CX Try.prog af (Array.mk (List.append (List.append ac [agg (Array.mk [int u8 4,int u64 aU,int u64 aV,int u64 aW,int u64 aR,int i64 aS,int i64 aT,slice
 aO aP aQ]),agg (Array.mk [int u64 bK,int u64 bL,int u64 bM,int u64 bN,int u64 bO,int u64 bP,int u64 bQ,int u64 bU,int u64 bV])]) ad)) aa [] R_2∧Zaz (Shape.agg [Shape.int u64,
 Shape.int u64,Shape.int u64,Shape.int u64,Shape.int u64,Shape.int u64,Shape.int u64,Shape.int u64,Shape.int u64]) R_2∧∀(n ag ah ai aj ak al am an:Int)(ae:Mem),Mem.le aa ae→R_2 (agg (Array.mk [int u64
 n,int u64 ag,int u64 ah,int u64 ai,int u64 aj,int u64 ak,int u64 al,int u64 am,int u64 an])) ae []→∀(M:Mem),Mem.le m' M→Mem.le aa M→Mem.le ae M→∃(m'':Mem),Mem.le m m''∧Mem.le m'' M∧R (agg
 (Array.mk [int u64 n,int u64 ag,int u64 ah,int u64 ai,int u64 aj,int u64 ak,int u64 al,int u64 am,int u64 an])) m'' []
theorem Zem(aI:Option Addr)(aH aJ:Nat)(aE:Bool)(aU aV aW aR aS aT:Int)(aO:Option Addr)(aP aQ:Nat)(bK bL bM bN bO bP bQ bU bV:Int)(m:Mem)(R:RT)(h:ZbJ aI aH aJ aE aU aV aW aR aS aT aO aP aQ bK bL bM bN bO bP bQ bU bV m R):CX Try.prog 89 #[.agg #[.slice aI aH aJ,.bool aE],.agg #[.int .u8 4,.int .u64 aU,.int .u64 aV,.int .u64 aW,.int .u64 aR,.int .i64 aS,.int .i64 aT,.slice aO aP aQ],.agg #[.int .u64 bK,.int .u64 bL,.int .u64 bM,.int .u64 bN,.int .u64 bO,.int .u64 bP,.int .u64 bQ,.int .u64 bU,.int .u64 bV]] m [] R:=
 Zaf (E:=ZeR) Zar mix Try.func89 [.v (.agg #[.slice aI aH aJ,.bool aE]),.v (.agg #[.int .u8 4,.int .u64 aU,.int .u64 aV,.int .u64 aW,.int .u64 aR,.int .i64 aS,.int .i64 aT,.slice aO aP aQ]),.v (.agg #[.int .u64 bK,.int .u64 bL,.int .u64 bM,.int .u64 bN,.int .u64 bO,.int .u64 bP,.int .u64 bQ,.int .u64 bU,.int .u64 bV])] [] (by kernel_rfl) (Eq.mp (by kernel_rfl) h)
noncomputable def ZeS:Env:={ EB with
 dr:=(fun i=>bif Nat.beq i 1 then[⟨0,[3],[],none,[],[]⟩,⟨1,[],[],none,[0],[]⟩,⟨2,[4],[],none,[],[]⟩,⟨3,[4],[],none,[2],[]⟩,⟨4,[],[],none,[0,1,2,3],[]⟩,⟨5,[4],[],none,[],[]⟩,⟨6,[5],[],none,[],[]⟩,⟨7,[],[],none,[0,1,2,3,4,5,6],[1]⟩,⟨8,[6],[6],none,[0,1,2,3,4,5,6,7],[]⟩]else[])
 frzNew:=[3,4,5] }
def ZbK(aI:Option Addr)(aH aJ:Nat)(aE:Bool)(aU aV aW aR aS aT:Int)(aO:Option Addr)(aP aQ:Nat)(bK bL bM bN bO bP bQ bU bV:Int)(m:Mem)(R:RT):Prop:=
 ∀(b:Nat)(m':Mem),Mem.le m m'→Mem.reads m' b 0 [slice aI aH aJ,Value.bool aE]→∀(b:Nat)(ab:Mem),Mem.le m' ab→Mem.reads ab b 0 [int u8 5,int u64 aU,int u64 aV,int u64 aW,int u64
 aR,int i64 aS,int i64 aT,slice aO aP aQ]→∀(b:Nat)(m':Mem),Mem.le ab m'→Mem.reads m' b 0 [int u64 bK,int u64 bL,int u64 bM,int u64 bN,int u64 bO,int u64 bP,int u64 bQ,int
 u64 bU,int u64 bV]→∀(b:Nat),∃(f:Fx),∃(R_1:RT),R_1=f 1 [agg (Array.mk [slice aI aH aJ,Value.bool aE])] m'∧CX Try.prog 119 (Array.mk [agg (Array.mk [slice aI aH aJ,Value.bool
 aE])]) m' [] R_1∧Zaz (Shape.agg [Shape.fn,Shape.fn,Shape.fn,Shape.fn,Shape.fn,Shape.fn,Shape.fn]) R_1∧∀(g:Nat)(fi ca:List Value)(ao:Nat)(ap aq:List Value)(ar:Nat)(au av:List Value) (aw:
 Nat) (ax ay:List Value) (az:Nat) (a0 a1:List Value) (af:Nat) (ac ad:List Value) (a2:Nat) (a3 a4:List Value) (aa:Mem),Mem.le m' aa→R_1 (agg (Array.mk [Value.func (Fn.func g) (Array.mk fi) (Array.mk
 ca),Value.func (Fn.func ao) (Array.mk ap) (Array.mk aq),Value.func (Fn.func ar) (Array.mk au) (Array.mk av),Value.func (Fn.func aw) (Array.mk ax) (Array.mk ay),Value.func (Fn.func az) (Array.mk a0) (Array.mk a1),
 Value.func (Fn.func af) (Array.mk ac) (Array.mk ad),Value.func (Fn.func a2) (Array.mk a3) (Array.mk a4)])) aa []→Zae (5:Int) 7∧∃(R_2:RT),R_2=f 7 (List.append (List.append ac [agg (Array.mk [int u8 5,
 int u64 aU,int u64 aV,int u64 aW,int u64 aR,int i64 aS,int i64 aT,slice aO aP aQ]),agg (Array.mk [int u64 bK,int u64 bL,int u64 bM,int u64 bN,int u64 bO,int u64 bP,int u64
 bQ,int u64 bU,int u64 bV])]) ad) aa∧CX Try.prog af (Array.mk (List.append (List.append ac [agg (Array.mk [int u8 5,int u64 aU,int u64 aV,int u64 aW,int u64 aR,int i64 aS,int i64 aT,slice
 aO aP aQ]),agg (Array.mk [int u64 bK,int u64 bL,int u64 bM,int u64 bN,int u64 bO,int u64 bP,int u64 bQ,int u64 bU,int u64 bV])]) ad)) aa [] R_2∧Zaz (Shape.agg [Shape.int u64,
 Shape.int u64,Shape.int u64,Shape.int u64,Shape.int u64,Shape.int u64,Shape.int u64,Shape.int u64,Shape.int u64]) R_2∧∀(n ag ah ai aj ak al am an:Int)(ae:Mem),Mem.le aa ae→R_2 (agg (Array.mk [int u64
 n,int u64 ag,int u64 ah,int u64 ai,int u64 aj,int u64 ak,int u64 al,int u64 am,int u64 an])) ae []→∀(M:Mem),Mem.le m' M→Mem.le aa M→Mem.le ae M→∃(m'':Mem),Mem.le m m''∧Mem.le m'' M∧R (agg
 (Array.mk [int u64 n,int u64 ag,int u64 ah,int u64 ai,int u64 aj,int u64 ak,int u64 al,int u64 am,int u64 an])) m'' []
theorem Zen(aI:Option Addr)(aH aJ:Nat)(aE:Bool)(aU aV aW aR aS aT:Int)(aO:Option Addr)(aP aQ:Nat)(bK bL bM bN bO bP bQ bU bV:Int)(m:Mem)(R:RT)(h:ZbK aI aH aJ aE aU aV aW aR aS aT aO aP aQ bK bL bM bN bO bP bQ bU bV m R):CX Try.prog 89 #[.agg #[.slice aI aH aJ,.bool aE],.agg #[.int .u8 5,.int .u64 aU,.int .u64 aV,.int .u64 aW,.int .u64 aR,.int .i64 aS,.int .i64 aT,.slice aO aP aQ],.agg #[.int .u64 bK,.int .u64 bL,.int .u64 bM,.int .u64 bN,.int .u64 bO,.int .u64 bP,.int .u64 bQ,.int .u64 bU,.int .u64 bV]] m [] R:=
 Zaf (E:=ZeS) Zar mix Try.func89 [.v (.agg #[.slice aI aH aJ,.bool aE]),.v (.agg #[.int .u8 5,.int .u64 aU,.int .u64 aV,.int .u64 aW,.int .u64 aR,.int .i64 aS,.int .i64 aT,.slice aO aP aQ]),.v (.agg #[.int .u64 bK,.int .u64 bL,.int .u64 bM,.int .u64 bN,.int .u64 bO,.int .u64 bP,.int .u64 bQ,.int .u64 bU,.int .u64 bV])] [] (by kernel_rfl) (Eq.mp (by kernel_rfl) h)
noncomputable def ZeT:Env:={ EB with
 dr:=(fun i=>bif Nat.beq i 1 then[⟨0,[3],[],none,[],[]⟩,⟨1,[],[],none,[0],[]⟩,⟨2,[4],[],none,[],[]⟩,⟨3,[4],[],none,[2],[]⟩,⟨4,[],[],none,[0,1,2,3],[]⟩,⟨5,[4],[],none,[],[]⟩,⟨6,[5],[],none,[],[]⟩,⟨7,[],[],none,[0,1,2,3,4,5,6],[1]⟩,⟨8,[6],[6],none,[0,1,2,3,4,5,6,7],[]⟩]else[])
 frzNew:=[3,4,5] }
def ZbL(aI:Option Addr)(aH aJ:Nat)(aE:Bool)(aU aV aW aR aS aT:Int)(aO:Option Addr)(aP aQ:Nat)(bK bL bM bN bO bP bQ bU bV:Int)(m:Mem)(R:RT):Prop:=
 ∀(b:Nat)(m':Mem),Mem.le m m'→Mem.reads m' b 0 [slice aI aH aJ,Value.bool aE]→∀(b:Nat)(ab:Mem),Mem.le m' ab→Mem.reads ab b 0 [int u8 6,int u64 aU,int u64 aV,int u64 aW,int u64
 aR,int i64 aS,int i64 aT,slice aO aP aQ]→∀(b:Nat)(m':Mem),Mem.le ab m'→Mem.reads m' b 0 [int u64 bK,int u64 bL,int u64 bM,int u64 bN,int u64 bO,int u64 bP,int u64 bQ,int
 u64 bU,int u64 bV]→∀(b:Nat),∃(f:Fx),∃(R_1:RT),R_1=f 1 [agg (Array.mk [slice aI aH aJ,Value.bool aE])] m'∧CX Try.prog 119 (Array.mk [agg (Array.mk [slice aI aH aJ,Value.bool
 aE])]) m' [] R_1∧Zaz (Shape.agg [Shape.fn,Shape.fn,Shape.fn,Shape.fn,Shape.fn,Shape.fn,Shape.fn]) R_1∧∀(g:Nat)(fi ca:List Value)(ao:Nat)(ap aq:List Value)(ar:Nat)(au av:List Value) (aw:
 Nat) (ax ay:List Value) (az:Nat) (a0 a1:List Value) (a2:Nat) (a3 a4:List Value) (af:Nat) (ac ad:List Value) (aa:Mem),Mem.le m' aa→R_1 (agg (Array.mk [Value.func (Fn.func g) (Array.mk fi) (Array.mk
 ca),Value.func (Fn.func ao) (Array.mk ap) (Array.mk aq),Value.func (Fn.func ar) (Array.mk au) (Array.mk av),Value.func (Fn.func aw) (Array.mk ax) (Array.mk ay),Value.func (Fn.func az) (Array.mk a0) (Array.mk a1),
 Value.func (Fn.func a2) (Array.mk a3) (Array.mk a4),Value.func (Fn.func af) (Array.mk ac) (Array.mk ad)])) aa []→Zae (6:Int) 7∧∃(R_2:RT),R_2=f 7 (List.append (List.append ac [agg (Array.mk [int u8 6,
 int u64 aU,int u64 aV,int u64 aW,int u64 aR,int i64 aS,int i64 aT,slice aO aP aQ]),agg (Array.mk [int u64 bK,int u64 bL,int u64 bM,int u64 bN,int u64 bO,int u64 bP,int u64
 bQ,int u64 bU,int u64 bV])]) ad) aa∧CX Try.prog af (Array.mk (List.append (List.append ac [agg (Array.mk [int u8 6,int u64 aU,int u64 aV,int u64 aW,int u64 aR,int i64 aS,int i64 aT,slice
 aO aP aQ]),agg (Array.mk [int u64 bK,int u64 bL,int u64 bM,int u64 bN,int u64 bO,int u64 bP,int u64 bQ,int u64 bU,int u64 bV])]) ad)) aa [] R_2∧Zaz (Shape.agg [Shape.int u64,
 Shape.int u64,Shape.int u64,Shape.int u64,Shape.int u64,Shape.int u64,Shape.int u64,Shape.int u64,Shape.int u64]) R_2∧∀(n ag ah ai aj ak al am an:Int)(ae:Mem),Mem.le aa ae→R_2 (agg (Array.mk [int u64
 n,int u64 ag,int u64 ah,int u64 ai,int u64 aj,int u64 ak,int u64 al,int u64 am,int u64 an])) ae []→∀(M:Mem),Mem.le m' M→Mem.le aa M→Mem.le ae M→∃(m'':Mem),Mem.le m m''∧Mem.le m'' M∧R (agg
 (Array.mk [int u64 n,int u64 ag,int u64 ah,int u64 ai,int u64 aj,int u64 ak,int u64 al,int u64 am,int u64 an])) m'' []
theorem Zeo(aI:Option Addr)(aH aJ:Nat)(aE:Bool)(aU aV aW aR aS aT:Int)(aO:Option Addr)(aP aQ:Nat)(bK bL bM bN bO bP bQ bU bV:Int)(m:Mem)(R:RT)(h:ZbL aI aH aJ aE aU aV aW aR aS aT aO aP aQ bK bL bM bN bO bP bQ bU bV m R):CX Try.prog 89 #[.agg #[.slice aI aH aJ,.bool aE],.agg #[.int .u8 6,.int .u64 aU,.int .u64 aV,.int .u64 aW,.int .u64 aR,.int .i64 aS,.int .i64 aT,.slice aO aP aQ],.agg #[.int .u64 bK,.int .u64 bL,.int .u64 bM,.int .u64 bN,.int .u64 bO,.int .u64 bP,.int .u64 bQ,.int .u64 bU,.int .u64 bV]] m [] R:=
 Zaf (E:=ZeT) Zar mix Try.func89 [.v (.agg #[.slice aI aH aJ,.bool aE]),.v (.agg #[.int .u8 6,.int .u64 aU,.int .u64 aV,.int .u64 aW,.int .u64 aR,.int .i64 aS,.int .i64 aT,.slice aO aP aQ]),.v (.agg #[.int .u64 bK,.int .u64 bL,.int .u64 bM,.int .u64 bN,.int .u64 bO,.int .u64 bP,.int .u64 bQ,.int .u64 bU,.int .u64 bV])] [] (by kernel_rfl) (Eq.mp (by kernel_rfl) h)
end Go.Proofs.Ytplacemlpkhmfaa

