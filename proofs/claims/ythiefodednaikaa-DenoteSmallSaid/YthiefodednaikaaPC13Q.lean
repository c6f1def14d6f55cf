/- Part of the proof: conditions and contracts of functions of this program. No condition of its own. -/
import Derived.Test.YthiefodednaikaaPEnv
import Derived.Test.YthiefodednaikaaMr
import Derived.Test.YthiefodednaikaaMc
import Derived.Laws.StructEq
import Derived.Laws.Tables
import Derived.Laws.Cover2
set_option linter.unusedVariables false
set_option linter.unusedSimpArgs false
set_option linter.unusedSectionVars false
namespace Go.Proofs.Ythiefodednaikaa
open Go Go.Eng Go.Proofs Go.RowKit
open Go.Value (int slice agg bool string tuple func)
open Go.IntKind (u8 u64 i64)
set_option maxRecDepth 100000
noncomputable def ZqE:Env:={ EB with
 frzNew:=[1] }
def ZkN(aF aC aH aI aJ aE aG:Int)(aB:Option Addr)(aA aD:Nat)(m:Mem)(R:RT):Prop:=
 ∀(b:Nat)(m':Mem),Mem.le m m'->Mem.reads m' b 0 [int u8 aF,int u64 aC,int u64 aH,int u64 aI,int u64 aJ,int i64 aE,int i64 aG,slice aB aA aD]->∃(m'':Mem),Mem.le m m''/\Mem.le
 m'' m'/\R (func (Fn.func 115) (Array.mk []) (Array.mk [Value.pointer (some (Addr.mk b 0 none))])) m'' []
theorem Zpw(aF aC aH aI aJ aE aG:Int)(aB:Option Addr)(aA aD:Nat)(m:Mem)(R:RT)(h:ZkN aF aC aH aI aJ aE aG aB aA aD m R):CX Try.prog 93 #[.agg #[.int .u8 aF,.int .u64 aC,.int .u64 aH,.int .u64 aI,.int .u64 aJ,.int .i64 aE,.int .i64 aG,.slice aB aA aD]] m [] R:=
 Zae (E:=ZqE) Zax mix Try.func93 [.v (.agg #[.int .u8 aF,.int .u64 aC,.int .u64 aH,.int .u64 aI,.int .u64 aJ,.int .i64 aE,.int .i64 aG,.slice aB aA aD])] [] (by kernel_rfl) (Eq.mp (by kernel_rfl) h)
noncomputable def ZnB:Env:={ EB with
 loops:=(λi=>bif Nat.beq i 3 then⟨[(13,.int .i64)],[],[],true⟩ else bif Nat.beq i 7 then⟨[(19,.agg [.int .u8,.int .u64,.int .u64,.int .u64,.int .u64,.int .i64,.int .i64,.slice])],[],[],true⟩ else⟨[],[],[],false⟩)
 frzNew:=[2] }
def Zhy(p0g:Nat)(p0fi p0ca:List Value)(c0b c0o:Nat)(m:Mem)(xs:List (List Value)):Prop:=
 ∀(l b:Nat)(m':Mem),Mem.le m m'->Mem.reads m' b 0 [func (Fn.yield l) (Array.mk []) (Array.mk [])]->∃(v:Value),∃(an:Value),∃(ao:Value),∃(ap:Value),∃(aq:Value),∃(ar:Value),∃(au:Value),∃
 (av:Value),Mem.reads m' c0b c0o [v,an,ao,ap,aq,ar,au,av]/\(l=l/\(0:Int)<=(0:Int)/\List.get?Internal xs (Int.toNat (0:Int))=some [agg (Array.mk [v,an,ao,ap,aq,ar,au,av])])/\(∃(v:Value),
 m' c0b (c0o+7)=some v/\chk (Zcf v) (∃(I:IT),(∃(n:Nat),I [int i64 ((0:Int)+(1:Int)),int i64 0] [] [] m' n)/\∀(y n:Int)(ai:Mem)(aw:Nat),Mem.le m' ai->I [int i64 y,int i64 n] [] [] ai aw->
 br (decide (n < (↑(slN v):Int))) (chk (Zcf v) (∃(ax:Nat),∃(o:Nat),slA v=some (Addr.mk ax o none)/\Zaf n (slN v)/\∃(v:Value),∃(aa:Value),∃(ab:Value),∃(ac:Value),∃(ad:Value),∃(ae:
 Value),∃(af:Value),∃(ag:Value),Mem.reads ai ax (o+Int.toNat n*8) [v,aa,ab,ac,ad,ae,af,ag]/\∀(aj:Nat),chk (Value.oneCell' v&&(Value.oneCell' aa&&(Value.oneCell' ab&&(Value.oneCell' ac &&
 (Value.oneCell' ad&&(Value.oneCell' ae&&(Value.oneCell' af&&(Value.oneCell' ag&&true)))))))) (∃(R:RT),True/\CX Try.prog 93 (Array.mk [agg (Array.mk [v,aa,ab,ac,ad,ae,af,ag])]) ai [] R/\Zaq Shape.fn
 R/\∀(g:Nat)(fi ca:List Value)(m':Mem),Mem.le ai m'->R (func (Fn.func g) (Array.mk fi) (Array.mk ca)) m' []->∃(ak:List (List Value)),IX Try.prog g fi ca m' ak/\(∀(x:List Value),x∈ak->Shape.fitsL
 [shT] x=true)/\∃(al:IT),al [int i64 y] [] [] m' 0/\(∀(y n ay az a0 a1 a2 a3:Int)(a:Option Addr)(a4 c:Nat)(ah:Mem)(am:Nat),Mem.le m' ah->List.get?Internal ak am=some [agg (Array.mk [int u8 n,
 int u64 ay,int u64 az,int u64 a0,int u64 a1,int i64 a2,int i64 a3,slice a a4 c])]->al [int i64 y] [] [] ah am->∀(a5:Nat),(l=l/\(0:Int)<=y/\List.get?Internal xs (Int.toNat y)=some [agg (Array.mk [int
 u8 n,int u64 ay,int u64 az,int u64 a0,int u64 a1,int i64 a2,int i64 a3,slice a a4 c])])/\([some (Box.mk aj [v,aa,ab,ac,ad,ae,af,ag] 29 8 false true),some (Box.mk b [func (Fn.yield l) (Array.mk [])
 (Array.mk [])] 127 1 true true)]=[some (Box.mk aj [v,aa,ab,ac,ad,ae,af,ag] 29 8 false true),some (Box.mk b [func (Fn.yield l) (Array.mk []) (Array.mk [])] 127 1 true true)]/\al [int i64 (y+(1:Int))] [] []
 ah (am+1))/\[some (Box.mk aj [v,aa,ab,ac,ad,ae,af,ag] 29 8 false true),some (Box.mk b [func (Fn.yield l) (Array.mk []) (Array.mk [])] 127 1 true true)]=[some (Box.mk aj [v,aa,ab,ac,ad,ae,af,ag] 29 8
 false true),some (Box.mk b [func (Fn.yield l) (Array.mk []) (Array.mk [])] 127 1 true true)]/\((-1:Int)=(↑(List.length xs):Int)\/(-1:Int)=(-1:Int)))/\∀(y:Int)(ah:Mem),Mem.le m' ah->al [int i64 y]
 [] [] ah (List.length ak)->[some (Box.mk b [func (Fn.yield l) (Array.mk []) (Array.mk [])] 127 1 true true)]=[some (Box.mk b [func (Fn.yield l) (Array.mk []) (Array.mk [])] 127 1 true true)]/\∃(n':Nat),n' < aw/\
 I [int i64 y,int i64 (IntKind.wrap i64 (n+(1:Int)))] [] [] ah n'))) (y=(↑(List.length xs):Int)\/y=(-1:Int))))/\((-1:Int)=(↑(List.length xs):Int)\/(-1:Int)=(-1:Int))
theorem ZlC(p0g:Nat)(p0fi p0ca:List Value)(c0b c0o:Nat)(m:Mem)(xs:List (List Value))(h:Zhy p0g p0fi p0ca c0b c0o m xs):IX Try.prog 115 [] [.pointer (some ⟨c0b,c0o,none⟩)] m xs:=
 Zo3 (E:=ZnB) Zax mix Try.func115 [] [.pointer (some ⟨c0b,c0o,none⟩)] xs (by kernel_rfl) (Eq.mp (by kernel_rfl) h)
noncomputable def ZqF:Env:={ EB with
 loops:=(λi=>bif Nat.beq i 3 then⟨[(6,.agg [.int .u8,.int .u64,.int .u64,.int .u64,.int .u64,.int .i64,.int .i64,.slice])],[3],[],false⟩ else⟨[],[],[],false⟩)
 frzNew:=[1] }
def ZkO(aF aC aH aI aJ aE aG:Int)(aB:Option Addr)(aA aD:Nat)(m:Mem)(R:RT):Prop:=
 ∀(b:Nat)(m':Mem),Mem.le m m'->Mem.reads m' b 0 [int u8 aF,int u64 aC,int u64 aH,int u64 aI,int u64 aJ,int i64 aE,int i64 aG,slice aB aA aD]->∀(b_1:Nat),∃(R_1:RT),True/\CX
 Try.prog 93 (Array.mk [agg (Array.mk [int u8 aF,int u64 aC,int u64 aH,int u64 aI,int u64 aJ,int i64 aE,int i64 aG,slice aB aA aD])]) m' [] R_1/\Zaq Shape.fn R_1/\∀(g:Nat) (fi ca:
 List Value) (m'_1:Mem),Mem.le m' m'_1->R_1 (func (Fn.func g) (Array.mk fi) (Array.mk ca)) m'_1 []->∃(xs:List (List Value)),IX Try.prog g fi ca m'_1 xs/\(∀(x:List Value),x∈xs->Shape.fitsL [shT] x=true)
 /\ ∃(I:IT),I [] [[int i64 0]] [] m'_1 0/\(∀(n n_1 n_2 n_3 n_4 n_5 n_6:Int)(a:Option Addr)(n_7 c:Nat)(cs:List Value)(m':Mem)(n_8:Nat),Mem.le m'_1 m'->List.get?Internal xs n_8=some [agg (Array.mk
 [int u8 n,int u64 n_1,int u64 n_2,int u64 n_3,int u64 n_4,int i64 n_5,int i64 n_6,slice a n_7 c])]->I [] [cs] [] m' n_8->Eng.Zty cs 0 λ(v:Value)=>chk (Zar i64 v&&decide (i64=i64)) (br (decide
 (IntKind.wrap i64 (RowKit.intOf v+(1:Int)) > (10000:Int))) ([some (Box.mk b_1 [] 3 1 false true),some (Box.mk b [int u8 aF,int u64 aC,int u64 aH,int u64 aI,int u64 aJ,int i64 aE,int i64 aG,
 slice aB aA aD] 29 8 true true)]=[some (Box.mk b_1 [] 3 1 false true),some (Box.mk b [int u8 aF,int u64 aC,int u64 aH,int u64 aI,int u64 aJ,int i64 aE,int i64 aG,slice aB aA aD]
 29 8 true true)]/\∃(m'':Mem),Mem.le m m''/\Mem.le m'' m'/\R (bool (decide (IntKind.wrap i64 (RowKit.intOf v+(1:Int))<=(10000:Int)))) m'' []) ([some (Box.mk b_1 [] 3 1 false true),some (Box.mk b [int u8
 aF,int u64 aC,int u64 aH,int u64 aI,int u64 aJ,int i64 aE,int i64 aG,slice aB aA aD] 29 8 true true)]=[some (Box.mk b_1 [] 3 1 false true),some (Box.mk b [int u8 aF,int u64 aC,int
 u64 aH,int u64 aI,int u64 aJ,int i64 aE,int i64 aG,slice aB aA aD] 29 8 true true)]/\I [] [[int i64 (IntKind.wrap i64 (RowKit.intOf v+(1:Int)))]] [] m' (n_8+1))))/\∀(cs:List Value) (m'
 : Mem),Mem.le m'_1 m'->I [] [cs] [] m' (List.length xs)->Eng.Zty cs 0 λ(v:Value)=>chk (Zar i64 v&&decide (i64=i64)) (∃(m'':Mem),Mem.le m m''/\Mem.le m'' m'/\R (bool (decide (RowKit.intOf v <=
 (10000:Int)))) m'' [])
theorem Zpx(aF aC aH aI aJ aE aG:Int)(aB:Option Addr)(aA aD:Nat)(m:Mem)(R:RT)(h:ZkO aF aC aH aI aJ aE aG aB aA aD m R):CX Try.prog 92 #[.agg #[.int .u8 aF,.int .u64 aC,.int .u64 aH,.int .u64 aI,.int .u64 aJ,.int .i64 aE,.int .i64 aG,.slice aB aA aD]] m [] R:=
 Zae (E:=ZqF) Zax mix Try.func92 [.v (.agg #[.int .u8 aF,.int .u64 aC,.int .u64 aH,.int .u64 aI,.int .u64 aJ,.int .i64 aE,.int .i64 aG,.slice aB aA aD])] [] (by kernel_rfl) (Eq.mp (by kernel_rfl) h)
noncomputable def Zpy:Env:={ EB with
 joins:=(λi=>bif Nat.beq i 1 then some [(18,.bool)]else bif Nat.beq i 3 then some [(4,.bool)]else none) }
def ZiF(p0 p1:Int)(m:Mem)(R:RT):Prop:=
 ∃(b:Bool),br (decide (p0 < (0:Int))) ([bool true]=[bool b]) (br (decide (p0 > (16:Int))) ([bool true]=[bool b]) (br (p0 == (1:Int)) ([bool (p1 == (1:Int))]=[bool b]) ([bool false]=[bool b])))/\br b
 (∃(m'':Mem),Mem.le m m''/\Mem.le m'' m/\R (bool false) m'' []) (∃(b:Bool),br (p1 == (-1:Int)) ([bool true]=[bool b]) (br (decide (p1 ≥ (1:Int))) (br (decide (p1<=(16:Int))) ([bool (decide (p1 ≥ p0))]
 = [bool b]) ([bool false]=[bool b])) ([bool false]=[bool b]))/\∃(m'':Mem),Mem.le m m''/\Mem.le m'' m/\R (bool b) m'' [])
theorem ZnC(p0 p1:Int)(m:Mem)(R:RT)(h:ZiF p0 p1 m R):CX Try.prog 75 #[.int .i64 p0,.int .i64 p1] m [] R:=
 Zae (E:=Zpy) Zax mix Try.func75 [.v (.int .i64 p0),.v (.int .i64 p1)] [] (by kernel_rfl) (Eq.mp (by kernel_rfl) h)
noncomputable def ZqG:Env:={ EB with
 frzNew:=[2] }
def ZkP(aF aC aH aI aJ aE aG:Int)(aB:Option Addr)(aA aD c0b c0o:Nat)(m:Mem)(R:RT):Prop:=
 ∀(b:Nat)(m':Mem),Mem.le m m'->Mem.reads m' b 0 [int u8 aF,int u64 aC,int u64 aH,int u64 aI,int u64 aJ,int i64 aE,int i64 aG,slice aB aA aD]->∃(v:Value),m' c0b c0o=some v/\
 chk (Zar u8 v) (∃(m'':Mem),Mem.le m m''/\Mem.le m'' m'/\R (bool (aF == RowKit.intOf v)) m'' [])
theorem Zpz(aF aC aH aI aJ aE aG:Int)(aB:Option Addr)(aA aD c0b c0o:Nat)(m:Mem)(R:RT)(h:ZkP aF aC aH aI aJ aE aG aB aA aD c0b c0o m R):CX Try.prog 126 #[.agg #[.int .u8 aF,.int .u64 aC,.int .u64 aH,.int .u64 aI,.int .u64 aJ,.int .i64 aE,.int .i64 aG,.slice aB aA aD],.pointer (some ⟨c0b,c0o,none⟩)] m [] R:=
 Zae (E:=ZqG) Zax mix Try.func126 [.v (.agg #[.int .u8 aF,.int .u64 aC,.int .u64 aH,.int .u64 aI,.int .u64 aJ,.int .i64 aE,.int .i64 aG,.slice aB aA aD]),.v (.pointer (some ⟨c0b,c0o,none⟩))] [] (by kernel_rfl) (Eq.mp (by kernel_rfl) h)
noncomputable def Zby:Env:={ EB with
 loops:=(λi=>bif Nat.beq i 2 then⟨[(8,.int .i64)],[],[],false⟩ else⟨[],[],[],false⟩) }
def Za2(p0a:Option Addr)(p0n p0c p1g:Nat)(p1fi p1ca:List Value)(m:Mem)(R:RT):Prop:=
 ∃(I:IT),(∃(n:Nat),I [int i64 0] [] [] m n)/\∀(n:Int)(m':Mem)(n_1:Nat),Mem.le m m'->I [int i64 n] [] [] m' n_1->br (decide (n < (↑p0n:Int))) (∃(b:Nat),∃(o:Nat),p0a=some (Addr.mk b o none)
 /\ Zaf n p0n/\∃(v:Value),∃(v_1:Value),∃(v_2:Value),∃(v_3:Value),∃(v_4:Value),∃(v_5:Value),∃(v_6:Value),∃(v_7:Value),Mem.reads m' b (o+Int.toNat n*8) [v,v_1,v_2,v_3,v_4,v_5,
 v_6,v_7]/\∃(R_1:RT),True/\CX Try.prog p1g (Array.mk (List.append (List.append p1fi [agg (Array.mk [v,v_1,v_2,v_3,v_4,v_5,v_6,v_7])]) p1ca)) m' [] R_1/\Zaq Shape.bool R_1/\∀(b:Bool)(m'_1:Mem),
 Mem.le m' m'_1->R_1 (bool b) m'_1 []->br b (∃(m'':Mem),Mem.le m m''/\Mem.le m'' m'_1/\R (int i64 n) m'' []) (∃(n':Nat),n' < n_1/\I [int i64 (IntKind.wrap i64 (n+(1:Int)))] [] [] m'_1 n')) (∃(m'':
 Mem),Mem.le m m''/\Mem.le m'' m'/\R (int i64 (-1:Int)) m'' [])
theorem Zbu(p0a:Option Addr)(p0n p0c p1g:Nat)(p1fi p1ca:List Value)(m:Mem)(R:RT)(h:Za2 p0a p0n p0c p1g p1fi p1ca m R):CX Try.prog 128 #[.slice p0a p0n p0c,.func (.func p1g) p1fi.toArray p1ca.toArray] m [] R:=
 Zae (E:=Zby) Zax mix Try.func128 [.v (.slice p0a p0n p0c),.v (.func (.func p1g) p1fi.toArray p1ca.toArray)] [] (by kernel_rfl) (Eq.mp (by kernel_rfl) h)
noncomputable def Zbm:Env:=EB
def ZaV(p0a:Option Addr)(p0n p0c p1g:Nat)(p1fi p1ca:List Value)(m:Mem)(R:RT):Prop:=
 ∃(R_1:RT),True/\CX Try.prog 128 (Array.mk [slice p0a p0n p0c,func (Fn.func p1g) (Array.mk p1fi) (Array.mk p1ca)]) m [] R_1/\Zaq (Shape.int i64) R_1/\∀(n:Int)(m':Mem),Mem.le m m'->R_1 (int i64 n) m' []->
 ∃(m'':Mem),Mem.le m m''/\Mem.le m'' m'/\R (bool (decide (n ≥ (0:Int)))) m'' []
theorem Zbj(p0a:Option Addr)(p0n p0c p1g:Nat)(p1fi p1ca:List Value)(m:Mem)(R:RT)(h:ZaV p0a p0n p0c p1g p1fi p1ca m R):CX Try.prog 125 #[.slice p0a p0n p0c,.func (.func p1g) p1fi.toArray p1ca.toArray] m [] R:=
 Zae (E:=Zbm) Zax mix Try.func125 [.v (.slice p0a p0n p0c),.v (.func (.func p1g) p1fi.toArray p1ca.toArray)] [] (by kernel_rfl) (Eq.mp (by kernel_rfl) h)
noncomputable def Zu1:Env:={ EB with
 frzNew:=[2,3] }
def ZpA(aF aC aH aI aJ aE aG:Int)(aB:Option Addr)(aA aD:Nat)(p1:Int)(m:Mem)(R:RT):Prop:=
 ∀(b:Nat)(m':Mem),Mem.le m m'->Mem.reads m' b 0 [int u8 aF,int u64 aC,int u64 aH,int u64 aI,int u64 aJ,int i64 aE,int i64 aG,slice aB aA aD]->∀(b:Nat)(m'_1:Mem),Mem.le m'
 m'_1->Mem.reads m'_1 b 0 [int u8 p1]->∃(R_1:RT),True/\CX Try.prog 125 (Array.mk [slice aB aA aD,func (Fn.func 126) (Array.mk []) (Array.mk [Value.pointer (some (Addr.mk b 0 none))])]) m'_1 [] R_1/\Zaq
 Shape.bool R_1/\∀(b:Bool)(m':Mem),Mem.le m'_1 m'->R_1 (bool b) m' []->∃(m'':Mem),Mem.le m m''/\Mem.le m'' m'/\R (bool b) m'' []
theorem Zs9(aF aC aH aI aJ aE aG:Int)(aB:Option Addr)(aA aD:Nat)(p1:Int)(m:Mem)(R:RT)(h:ZpA aF aC aH aI aJ aE aG aB aA aD p1 m R):CX Try.prog 116 #[.agg #[.int .u8 aF,.int .u64 aC,.int .u64 aH,.int .u64 aI,.int .u64 aJ,.int .i64 aE,.int .i64 aG,.slice aB aA aD],.int .u8 p1] m [] R:=
 Zae (E:=Zu1) Zax mix Try.func116 [.v (.agg #[.int .u8 aF,.int .u64 aC,.int .u64 aH,.int .u64 aI,.int .u64 aJ,.int .i64 aE,.int .i64 aG,.slice aB aA aD]),.v (.int .u8 p1)] [] (by kernel_rfl) (Eq.mp (by kernel_rfl) h)
noncomputable def ZqH:Env:={ EB with
 joins:=(λi=>bif Nat.beq i 1 then some [(37,.bool)]else bif Nat.beq i 9 then some [(2,.bool)]else bif Nat.beq i 11 then some [(2,.bool)]else bif Nat.beq i 13 then some [(2,.bool)]else bif Nat.beq i 14 then some [(2,.bool)]else none)
 frzNew:=[1] }
def ZkQ(aF aC aH aI aJ aE aG:Int)(aB:Option Addr)(aA aD:Nat)(m:Mem)(R:RT):Prop:=
 ∀(b:Nat)(m':Mem),Mem.le m m'->Mem.reads m' b 0 [int u8 aF,int u64 aC,int u64 aH,int u64 aI,int u64 aJ,int i64 aE,int i64 aG,slice aB aA aD]->∃(ab:Bool),br (!aF == (2:Int))
 (∃(aa:Bool),EqIs Try.prog 26 (agg (Array.mk [int u64 aC,int u64 aH,int u64 aI,int u64 aJ])) (agg (Array.mk [int u64 0,int u64 0,int u64 0,int u64 0])) aa/\br (!aa) ([some (Box.mk b [int u8 aF,int
 u64 aC,int u64 aH,int u64 aI,int u64 aJ,int i64 aE,int i64 aG,slice aB aA aD] 29 8 true true)]=[some (Box.mk b [int u8 aF,int u64 aC,int u64 aH,int u64 aI,int u64 aJ,int i64
 aE,int i64 aG,slice aB aA aD] 29 8 true true)]/\[bool true]=[bool ab]) (br (!aF == (5:Int)) (br (!aE == (0:Int)) ([some (Box.mk b [int u8 aF,int u64 aC,int u64 aH,int u64 aI,int u64
 aJ,int i64 aE,int i64 aG,slice aB aA aD] 29 8 true true)]=[some (Box.mk b [int u8 aF,int u64 aC,int u64 aH,int u64 aI,int u64 aJ,int i64 aE,int i64 aG,slice aB aA aD] 29
 8 true true)]/\[bool true]=[bool ab]) (br (!aG == (0:Int)) ([some (Box.mk b [int u8 aF,int u64 aC,int u64 aH,int u64 aI,int u64 aJ,int i64 aE,int i64 aG,slice aB aA aD] 29 8 true
 true)]=[some (Box.mk b [int u8 aF,int u64 aC,int u64 aH,int u64 aI,int u64 aJ,int i64 aE,int i64 aG,slice aB aA aD] 29 8 true true)]/\[bool true]=[bool ab]) (br (decide (aF < (3:
 Int))) ([some (Box.mk b [int u8 aF,int u64 aC,int u64 aH,int u64 aI,int u64 aJ,int i64 aE,int i64 aG,slice aB aA aD] 29 8 true true)]=[some (Box.mk b [int u8 aF,int u64 aC,int u64
 aH,int u64 aI,int u64 aJ,int i64 aE,int i64 aG,slice aB aA aD] 29 8 true true)]/\[bool (decide ((↑aA:Int) > (0:Int)))]=[bool ab]) ([some (Box.mk b [int u8 aF,int u64 aC,int u64
 aH,int u64 aI,int u64 aJ,int i64 aE,int i64 aG,slice aB aA aD] 29 8 true true)]=[some (Box.mk b [int u8 aF,int u64 aC,int u64 aH,int u64 aI,int u64 aJ,int i64 aE,int i64 aG,
 slice aB aA aD] 29 8 true true)]/\[bool false]=[bool ab])))) (br (decide (aF < (3:Int))) ([some (Box.mk b [int u8 aF,int u64 aC,int u64 aH,int u64 aI,int u64 aJ,int i64 aE,int i64 aG,
 slice aB aA aD] 29 8 true true)]=[some (Box.mk b [int u8 aF,int u64 aC,int u64 aH,int u64 aI,int u64 aJ,int i64 aE,int i64 aG,slice aB aA aD] 29 8 true true)]/\[bool (decide
 ((↑aA:Int) > (0:Int)))]=[bool ab]) ([some (Box.mk b [int u8 aF,int u64 aC,int u64 aH,int u64 aI,int u64 aJ,int i64 aE,int i64 aG,slice aB aA aD] 29 8 true true)]=[some (Box.mk b
 [int u8 aF,int u64 aC,int u64 aH,int u64 aI,int u64 aJ,int i64 aE,int i64 aG,slice aB aA aD] 29 8 true true)]/\[bool false]=[bool ab])))) (br (!aF == (5:Int)) (br (!aE == (0:
 Int)) ([some (Box.mk b [int u8 aF,int u64 aC,int u64 aH,int u64 aI,int u64 aJ,int i64 aE,int i64 aG,slice aB aA aD] 29 8 true true)]=[some (Box.mk b [int u8 aF,int u64 aC,int u64
 aH,int u64 aI,int u64 aJ,int i64 aE,int i64 aG,slice aB aA aD] 29 8 true true)]/\[bool true]=[bool ab]) (br (!aG == (0:Int)) ([some (Box.mk b [int u8 aF,int u64 aC,int u64 aH,int
 u64 aI,int u64 aJ,int i64 aE,int i64 aG,slice aB aA aD] 29 8 true true)]=[some (Box.mk b [int u8 aF,int u64 aC,int u64 aH,int u64 aI,int u64 aJ,int i64 aE,int i64 aG,slice
 aB aA aD] 29 8 true true)]/\[bool true]=[bool ab]) (br (decide (aF < (3:Int))) ([some (Box.mk b [int u8 aF,int u64 aC,int u64 aH,int u64 aI,int u64 aJ,int i64 aE,int i64 aG,slice
 aB aA aD] 29 8 true true)]=[some (Box.mk b [int u8 aF,int u64 aC,int u64 aH,int u64 aI,int u64 aJ,int i64 aE,int i64 aG,slice aB aA aD] 29 8 true true)]/\[bool (decide ((↑aA
 : Int) > (0:Int)))]=[bool ab]) ([some (Box.mk b [int u8 aF,int u64 aC,int u64 aH,int u64 aI,int u64 aJ,int i64 aE,int i64 aG,slice aB aA aD] 29 8 true true)]=[some (Box.mk b [int u8
 aF,int u64 aC,int u64 aH,int u64 aI,int u64 aJ,int i64 aE,int i64 aG,slice aB aA aD] 29 8 true true)]/\[bool false]=[bool ab])))) (br (decide (aF < (3:Int))) ([some (Box.mk b [int u8
 aF,int u64 aC,int u64 aH,int u64 aI,int u64 aJ,int i64 aE,int i64 aG,slice aB aA aD] 29 8 true true)]=[some (Box.mk b [int u8 aF,int u64 aC,int u64 aH,int u64 aI,int u64 aJ,
 int i64 aE,int i64 aG,slice aB aA aD] 29 8 true true)]/\[bool (decide ((↑aA:Int) > (0:Int)))]=[bool ab]) ([some (Box.mk b [int u8 aF,int u64 aC,int u64 aH,int u64 aI,int u64 aJ,
 int i64 aE,int i64 aG,slice aB aA aD] 29 8 true true)]=[some (Box.mk b [int u8 aF,int u64 aC,int u64 aH,int u64 aI,int u64 aJ,int i64 aE,int i64 aG,slice aB aA aD] 29 8
 true true)]/\[bool false]=[bool ab])))/\br ab (∃(m'':Mem),Mem.le m m''/\Mem.le m'' m'/\R (bool false) m'' []) (br (aF == (1:Int)) (∃(m'':Mem),Mem.le m m''/\Mem.le m'' m'/\R (bool true) m'' []) (br
 (aF == (2:Int)) (∃(b:Bool),EqIs Try.prog 26 (agg (Array.mk [int u64 aC,int u64 aH,int u64 aI,int u64 aJ])) (agg (Array.mk [int u64 0,int u64 0,int u64 0,int u64 0])) b/\∃(m'':Mem),Mem.le m m''
 /\ Mem.le m'' m'/\R (bool !b) m'' []) (br (aF == (3:Int)) (∃(aa:Bool),br (decide ((↑aA:Int) > (1:Int))) (∃(R:RT),True/\CX Try.prog 116 (Array.mk [agg (Array.mk [int u8 aF,int u64 aC,int u64
 aH,int u64 aI,int u64 aJ,int i64 aE,int i64 aG,slice aB aA aD]),int u8 1]) m' [] R/\Zaq Shape.bool R/\∀(ad:Bool)(ac:Mem),Mem.le m' ac->R (bool ad) ac []->br (!ad) (∃(R:RT),True/\
 CX Try.prog 116 (Array.mk [agg (Array.mk [int u8 aF,int u64 aC,int u64 aH,int u64 aI,int u64 aJ,int i64 aE,int i64 aG,slice aB aA aD]),int u8 3]) ac [] R/\Zaq Shape.bool R/\∀(ae:
 Bool) (m':Mem),Mem.le ac m'->R (bool ae) m' []->[some (Box.mk b [int u8 aF,int u64 aC,int u64 aH,int u64 aI,int u64 aJ,int i64 aE,int i64 aG,slice aB aA aD] 29 8 true true)]=[some
 (Box.mk b [int u8 aF,int u64 aC,int u64 aH,int u64 aI,int u64 aJ,int i64 aE,int i64 aG,slice aB aA aD] 29 8 true true)]/\[bool !ae]=[bool aa]) ([some (Box.mk b [int u8 aF,int u64
 aC,int u64 aH,int u64 aI,int u64 aJ,int i64 aE,int i64 aG,slice aB aA aD] 29 8 true true)]=[some (Box.mk b [int u8 aF,int u64 aC,int u64 aH,int u64 aI,int u64 aJ,int i64 aE,
 int i64 aG,slice aB aA aD] 29 8 true true)]/\[bool false]=[bool aa])) ([some (Box.mk b [int u8 aF,int u64 aC,int u64 aH,int u64 aI,int u64 aJ,int i64 aE,int i64 aG,slice aB aA
 aD] 29 8 true true)]=[some (Box.mk b [int u8 aF,int u64 aC,int u64 aH,int u64 aI,int u64 aJ,int i64 aE,int i64 aG,slice aB aA aD] 29 8 true true)]/\[bool false]=[bool aa])/\∃(m''
 : Mem),Mem.le m m''/\Mem.le m'' m'/\R (bool aa) m'' []) (br (aF == (4:Int)) (∃(aa:Bool),br (decide ((↑aA:Int) > (1:Int))) (∃(R:RT),True/\CX Try.prog 116 (Array.mk [agg (Array.mk [int u8 aF,int
 u64 aC,int u64 aH,int u64 aI,int u64 aJ,int i64 aE,int i64 aG,slice aB aA aD]),int u8 4]) m' [] R/\Zaq Shape.bool R/\∀(ad:Bool)(ac:Mem),Mem.le m' ac->R (bool ad) ac []->[some
 (Box.mk b [int u8 aF,int u64 aC,int u64 aH,int u64 aI,int u64 aJ,int i64 aE,int i64 aG,slice aB aA aD] 29 8 true true)]=[some (Box.mk b [int u8 aF,int u64 aC,int u64 aH,int u64
 aI,int u64 aJ,int i64 aE,int i64 aG,slice aB aA aD] 29 8 true true)]/\[bool !ad]=[bool aa]) ([some (Box.mk b [int u8 aF,int u64 aC,int u64 aH,int u64 aI,int u64 aJ,int i64 aE,
 int i64 aG,slice aB aA aD] 29 8 true true)]=[some (Box.mk b [int u8 aF,int u64 aC,int u64 aH,int u64 aI,int u64 aJ,int i64 aE,int i64 aG,slice aB aA aD] 29 8 true true)]/\
 [bool false]=[bool aa])/\∃(m'':Mem),Mem.le m m''/\Mem.le m'' m'/\R (bool aa) m'' []) (br (aF == (5:Int)) (∃(aa:Bool),br ((↑aA:Int) == (1:Int)) (∃(R:RT),True/\CX Try.prog 75 (Array.mk [int
 i64 aE,int i64 aG]) m' [] R/\Zaq Shape.bool R/\∀(ad:Bool)(ac:Mem),Mem.le m' ac->R (bool ad) ac []->br ad (∃(R:RT),True/\CX Try.prog 116 (Array.mk [agg (Array.mk [int u8 aF,int u64 aC,int u64
 aH,int u64 aI,int u64 aJ,int i64 aE,int i64 aG,slice aB aA aD]),int u8 1]) ac [] R/\Zaq Shape.bool R/\∀(ae:Bool)(m':Mem),Mem.le ac m'->R (bool ae) m' []->[some (Box.mk b [int u8
 aF,int u64 aC,int u64 aH,int u64 aI,int u64 aJ,int i64 aE,int i64 aG,slice aB aA aD] 29 8 true true)]=[some (Box.mk b [int u8 aF,int u64 aC,int u64 aH,int u64 aI,int u64 aJ,
 int i64 aE,int i64 aG,slice aB aA aD] 29 8 true true)]/\[bool !ae]=[bool aa]) ([some (Box.mk b [int u8 aF,int u64 aC,int u64 aH,int u64 aI,int u64 aJ,int i64 aE,int i64 aG,slice
 aB aA aD] 29 8 true true)]=[some (Box.mk b [int u8 aF,int u64 aC,int u64 aH,int u64 aI,int u64 aJ,int i64 aE,int i64 aG,slice aB aA aD] 29 8 true true)]/\[bool false]=[bool
 aa])) ([some (Box.mk b [int u8 aF,int u64 aC,int u64 aH,int u64 aI,int u64 aJ,int i64 aE,int i64 aG,slice aB aA aD] 29 8 true true)]=[some (Box.mk b [int u8 aF,int u64 aC,int u64
 aH,int u64 aI,int u64 aJ,int i64 aE,int i64 aG,slice aB aA aD] 29 8 true true)]/\[bool false]=[bool aa])/\∃(m'':Mem),Mem.le m m''/\Mem.le m'' m'/\R (bool aa) m'' []) (∃(aa:Bool),br
 (aF == (6:Int)) ([some (Box.mk b [int u8 aF,int u64 aC,int u64 aH,int u64 aI,int u64 aJ,int i64 aE,int i64 aG,slice aB aA aD] 29 8 true true)]=[some (Box.mk b [int u8 aF,int u64
 aC,int u64 aH,int u64 aI,int u64 aJ,int i64 aE,int i64 aG,slice aB aA aD] 29 8 true true)]/\[bool ((↑aA:Int) == (1:Int))]=[bool aa]) ([some (Box.mk b [int u8 aF,int u64 aC,int
 u64 aH,int u64 aI,int u64 aJ,int i64 aE,int i64 aG,slice aB aA aD] 29 8 true true)]=[some (Box.mk b [int u8 aF,int u64 aC,int u64 aH,int u64 aI,int u64 aJ,int i64 aE,int i64
 aG,slice aB aA aD] 29 8 true true)]/\[bool false]=[bool aa])/\∃(m'':Mem),Mem.le m m''/\Mem.le m'' m'/\R (bool aa) m'' []))))))
theorem ZpB(aF aC aH aI aJ aE aG:Int)(aB:Option Addr)(aA aD:Nat)(m:Mem)(R:RT)(h:ZkQ aF aC aH aI aJ aE aG aB aA aD m R):CX Try.prog 94 #[.agg #[.int .u8 aF,.int .u64 aC,.int .u64 aH,.int .u64 aI,.int .u64 aJ,.int .i64 aE,.int .i64 aG,.slice aB aA aD]] m [] R:=
 Zae (E:=ZqH) Zax mix Try.func94 [.v (.agg #[.int .u8 aF,.int .u64 aC,.int .u64 aH,.int .u64 aI,.int .u64 aJ,.int .i64 aE,.int .i64 aG,.slice aB aA aD])] [] (by kernel_rfl) (Eq.mp (by kernel_rfl) h)
noncomputable def ZqI:Env:={ EB with
 loops:=(λi=>bif Nat.beq i 5 then⟨[(9,.agg [.int .u8,.int .u64,.int .u64,.int .u64,.int .u64,.int .i64,.int .i64,.slice])],[2],[],false⟩ else⟨[],[],[],false⟩)
 frzNew:=[1] }
def ZkR(aF aC aH aI aJ aE aG:Int)(aB:Option Addr)(aA aD:Nat)(m:Mem)(R:RT):Prop:=
 ∀(b:Nat)(m':Mem),Mem.le m m'->Mem.reads m' b 0 [int u8 aF,int u64 aC,int u64 aH,int u64 aI,int u64 aJ,int i64 aE,int i64 aG,slice aB aA aD]->∀(ac:Nat),∃(R_1:RT),True/\CX
 Try.prog 92 (Array.mk [agg (Array.mk [int u8 aF,int u64 aC,int u64 aH,int u64 aI,int u64 aJ,int i64 aE,int i64 aG,slice aB aA aD])]) m' [] R_1/\Zaq Shape.bool R_1/\∀(ae:Bool) (ab:
 Mem),Mem.le m' ab->R_1 (bool ae) ab []->br (!ae) (∃(m'':Mem),Mem.le m m''/\Mem.le m'' ab/\R (bool false) m'' []) (∃(R_2:RT),True/\CX Try.prog 93 (Array.mk [agg (Array.mk [int u8 aF,int u64 aC,int u64
 aH,int u64 aI,int u64 aJ,int i64 aE,int i64 aG,slice aB aA aD])]) ab [] R_2/\Zaq Shape.fn R_2/\∀(g:Nat)(fi ca:List Value)(m':Mem),Mem.le ab m'->R_2 (func (Fn.func g) (Array.mk fi)
 (Array.mk ca)) m' []->∃(xs:List (List Value)),IX Try.prog g fi ca m' xs/\(∀(x:List Value),x∈xs->Shape.fitsL [shT] x=true)/\∃(I:IT),I [] [[bool false]] [] m' 0/\(∀(n af ag ah ai aj ak:Int) (a:
 Option Addr) (al c:Nat) (cs:List Value) (aa:Mem) (ad:Nat),Mem.le m' aa->List.get?Internal xs ad=some [agg (Array.mk [int u8 n,int u64 af,int u64 ag,int u64 ah,int u64 ai,int i64 aj,int i64 ak,slice a
 al c])]->I [] [cs] [] aa ad->∀(an:Nat),∃(R_3:RT),True/\CX Try.prog 94 (Array.mk [agg (Array.mk [int u8 n,int u64 af,int u64 ag,int u64 ah,int u64 ai,int i64 aj,int i64 ak,slice a al c])]) aa [] R_3/\
 Zaq Shape.bool R_3/\∀(am:Bool)(m':Mem),Mem.le aa m'->R_3 (bool am) m' []->br (!am) ([some (Box.mk ac [] 4 1 false true),some (Box.mk b [int u8 aF,int u64 aC,int u64 aH,int u64 aI,int u64 aJ,
 int i64 aE,int i64 aG,slice aB aA aD] 29 8 true true)]=[some (Box.mk ac [] 4 1 false true),some (Box.mk b [int u8 aF,int u64 aC,int u64 aH,int u64 aI,int u64 aJ,int i64 aE,int i64
 aG,slice aB aA aD] 29 8 true true)]/\∃(m'':Mem),Mem.le m m''/\Mem.le m'' m'/\R (bool false) m'' []) ([some (Box.mk ac [] 4 1 false true),some (Box.mk b [int u8 aF,int u64 aC,int u64 aH,int
 u64 aI,int u64 aJ,int i64 aE,int i64 aG,slice aB aA aD] 29 8 true true)]=[some (Box.mk ac [] 4 1 false true),some (Box.mk b [int u8 aF,int u64 aC,int u64 aH,int u64 aI,int u64 aJ,
 int i64 aE,int i64 aG,slice aB aA aD] 29 8 true true)]/\I [] [cs] [] m' (ad+1)))/\∀(cs:List Value)(aa:Mem),Mem.le m' aa->I [] [cs] [] aa (List.length xs)->∃(m'':Mem),Mem.le m m''/\Mem.le
 m'' aa/\R (bool true) m'' [])
theorem ZpC(aF aC aH aI aJ aE aG:Int)(aB:Option Addr)(aA aD:Nat)(m:Mem)(R:RT)(h:ZkR aF aC aH aI aJ aE aG aB aA aD m R):CX Try.prog 74 #[.agg #[.int .u8 aF,.int .u64 aC,.int .u64 aH,.int .u64 aI,.int .u64 aJ,.int .i64 aE,.int .i64 aG,.slice aB aA aD]] m [] R:=
 Zae (E:=ZqI) Zax mix Try.func74 [.v (.agg #[.int .u8 aF,.int .u64 aC,.int .u64 aH,.int .u64 aI,.int .u64 aJ,.int .i64 aE,.int .i64 aG,.slice aB aA aD])] [] (by kernel_rfl) (Eq.mp (by kernel_rfl) h)
noncomputable def Zta:Env:={ EB with
 loops:=(λi=>bif Nat.beq i 5 then⟨[(9,.agg [.int .u8,.int .u64,.int .u64,.int .u64,.int .u64,.int .i64,.int .i64,.slice])],[3],[],false⟩ else⟨[],[],[],false⟩)
 frzNew:=[1] }
def ZmR(aF aC aH aI aJ aE aG:Int)(aB:Option Addr)(aA aD:Nat)(m:Mem)(R:RT):Prop:=
 ∀(b:Nat)(m':Mem),Mem.le m m'->Mem.reads m' b 0 [int u8 aF,int u64 aC,int u64 aH,int u64 aI,int u64 aJ,int i64 aE,int i64 aG,slice aB aA aD]->∃(R_1:RT),True/\CX Try.prog 92
 (Array.mk [agg (Array.mk [int u8 aF,int u64 aC,int u64 aH,int u64 aI,int u64 aJ,int i64 aE,int i64 aG,slice aB aA aD])]) m' [] R_1/\Zaq Shape.bool R_1/\∀(b_1:Bool)(m'_1:Mem),
 Mem.le m' m'_1->R_1 (bool b_1) m'_1 []->br (!b_1) (∃(m'':Mem),Mem.le m m''/\Mem.le m'' m'_1/\R (int i64 10001) m'' []) (∀(b_2:Nat),∃(R_2:RT),True/\CX Try.prog 93 (Array.mk [agg (Array.mk [int u8 aF,
 int u64 aC,int u64 aH,int u64 aI,int u64 aJ,int i64 aE,int i64 aG,slice aB aA aD])]) m'_1 [] R_2/\Zaq Shape.fn R_2/\∀(g:Nat)(fi ca:List Value)(m':Mem),Mem.le m'_1 m'->R_2 (func
 (Fn.func g) (Array.mk fi) (Array.mk ca)) m' []->∃(xs:List (List Value)),IX Try.prog g fi ca m' xs/\(∀(x:List Value),x∈xs->Shape.fitsL [shT] x=true)/\∃(I:IT),I [] [[int i64 0]] [] m' 0/\(∀(n n_1 n_2
 n_3 n_4 n_5 n_6:Int) (a:Option Addr) (n_7 c:Nat) (cs:List Value) (m'_2:Mem) (n_8:Nat),Mem.le m' m'_2->List.get?Internal xs n_8=some [agg (Array.mk [int u8 n,int u64 n_1,int u64 n_2,int u64 n_3,int
 u64 n_4,int i64 n_5,int i64 n_6,slice a n_7 c])]->I [] [cs] [] m'_2 n_8->Eng.Zty cs 0 λ(v:Value)=>chk (Zar i64 v&&decide (i64=i64)) ([some (Box.mk b_2 [] 3 1 false true),some (Box.mk b [int u8 aF,
 int u64 aC,int u64 aH,int u64 aI,int u64 aJ,int i64 aE,int i64 aG,slice aB aA aD] 29 8 true true)]=[some (Box.mk b_2 [] 3 1 false true),some (Box.mk b [int u8 aF,int u64 aC,int u64
 aH,int u64 aI,int u64 aJ,int i64 aE,int i64 aG,slice aB aA aD] 29 8 true true)]/\I [] [[int i64 (IntKind.wrap i64 (RowKit.intOf v+(1:Int)))]] [] m'_2 (n_8+1)))/\∀(cs:List Value) (m'_2
 : Mem),Mem.le m' m'_2->I [] [cs] [] m'_2 (List.length xs)->Eng.Zty cs 0 λ(v:Value)=>∃(m'':Mem),Mem.le m m''/\Mem.le m'' m'_2/\R v m'' [])
theorem ZqJ(aF aC aH aI aJ aE aG:Int)(aB:Option Addr)(aA aD:Nat)(m:Mem)(R:RT)(h:ZmR aF aC aH aI aJ aE aG aB aA aD m R):CX Try.prog 78 #[.agg #[.int .u8 aF,.int .u64 aC,.int .u64 aH,.int .u64 aI,.int .u64 aJ,.int .i64 aE,.int .i64 aG,.slice aB aA aD]] m [] R:=
 Zae (E:=Zta) Zax mix Try.func78 [.v (.agg #[.int .u8 aF,.int .u64 aC,.int .u64 aH,.int .u64 aI,.int .u64 aJ,.int .i64 aE,.int .i64 aG,.slice aB aA aD])] [] (by kernel_rfl) (Eq.mp (by kernel_rfl) h)
noncomputable def ZjL:Env:={ EB with
 loops:=(λi=>bif Nat.beq i 5 then⟨[(3,.int .i64),(14,.int .i64)],[],[],false⟩ else⟨[],[],[],false⟩)
 frzNew:=[1] }
def Zfl(aF aC aH aI aJ aE aG:Int)(aB:Option Addr)(aA aD:Nat)(m:Mem)(R:RT):Prop:=
 ∀(b:Nat)(m':Mem),Mem.le m m'->Mem.reads m' b 0 [int u8 aF,int u64 aC,int u64 aH,int u64 aI,int u64 aJ,int i64 aE,int i64 aG,slice aB aA aD]->br (aF == (2:Int)) (∃(I:IT),(∃
 (n:Nat),I [int i64 1,int i64 0] [] [] m' n)/\∀(n ab:Int)(aa:Mem)(aj:Nat),Mem.le m' aa->I [int i64 n,int i64 ab] [] [] aa aj->br (decide (ab < (↑aA:Int))) (∃(ak:Nat),∃(o:Nat),aB=some
 (Addr.mk ak o none)/\Zaf ab aA/\∃(v:Value),∃(ac:Value),∃(ad:Value),∃(ae:Value),∃(af:Value),∃(ag:Value),∃(ah:Value),∃(ai:Value),Mem.reads aa ak (o+Int.toNat ab*8) [v,ac,ad,
 ae,af,ag,ah,ai]/\∀(am:Nat),chk (Value.oneCell' v&&(Value.oneCell' ac&&(Value.oneCell' ad&&(Value.oneCell' ae&&(Value.oneCell' af&&(Value.oneCell' ag&&(Value.oneCell' ah&&(Value.oneCell' ai &&
 true)))))))) (∃(R:RT),True/\CX Try.prog 95 (Array.mk [agg (Array.mk [v,ac,ad,ae,af,ag,ah,ai])]) aa [] R/\Zaq (Shape.int i64) R/\∀(al:Int)(m':Mem),Mem.le aa m'->R (int i64 al) m' []->[some (Box.mk
 b [int u8 aF,int u64 aC,int u64 aH,int u64 aI,int u64 aJ,int i64 aE,int i64 aG,slice aB aA aD] 29 8 true true)]=[some (Box.mk b [int u8 aF,int u64 aC,int u64 aH,int u64 aI,int
 u64 aJ,int i64 aE,int i64 aG,slice aB aA aD] 29 8 true true)]/\∃(n':Nat),n' < aj/\I [int i64 (IntKind.wrap i64 (n+al)),int i64 (IntKind.wrap i64 (ab+(1:Int)))] [] [] m' n')) (br (aF ==
 (5:Int)) (br (aG == (-1:Int)) (∃(m'':Mem),Mem.le m m''/\Mem.le m'' aa/\R (int i64 (if(10001:Int) < IntKind.wrap i64 (n*if(10001:Int) < if(1:Int) > if(0:Int) > aE then(0:Int)else aE then
 (1:Int)else if(0:Int) > aE then(0:Int)else aE then(10001:Int)else if(1:Int) > if(0:Int) > aE then(0:Int)else aE then(1:Int)else if(0:Int) > aE then(0:Int)else aE)then
 (10001:Int)else IntKind.wrap i64 (n*if(10001:Int) < if(1:Int) > if(0:Int) > aE then(0:Int)else aE then(1:Int)else if(0:Int) > aE then(0:Int)else aE then(10001:Int)else if(1:
 Int) > if(0:Int) > aE then(0:Int)else aE then(1:Int)else if(0:Int) > aE then(0:Int)else aE))) m'' []) (∃(m'':Mem),Mem.le m m''/\Mem.le m'' aa/\R (int i64 (if(10001:Int) < IntKind.wrap
 i64 (n*if(10001:Int) < if aG > if(0:Int) > aE then(0:Int)else aE then aG else if(0:Int) > aE then(0:Int)else aE then(10001:Int)else if aG > if(0:Int) > aE then(0:Int)else
 aE then aG else if(0:Int) > aE then(0:Int)else aE)then(10001:Int)else IntKind.wrap i64 (n*if(10001:Int) < if aG > if(0:Int) > aE then(0:Int)else aE then aG else if(0:Int) >
 aE then(0:Int)else aE then(10001:Int)else if aG > if(0:Int) > aE then(0:Int)else aE then aG else if(0:Int) > aE then(0:Int)else aE))) m'' [])) (∃(m'':Mem),Mem.le m m''/\Mem.le
 m'' aa/\R (int i64 (if(10001:Int) < n then(10001:Int)else n)) m'' []))) (∃(I:IT),(∃(n:Nat),I [int i64 0,int i64 0] [] [] m' n)/\∀(n ab:Int)(aa:Mem)(aj:Nat),Mem.le m' aa->I [int i64 n,int
 i64 ab] [] [] aa aj->br (decide (ab < (↑aA:Int))) (∃(ak:Nat),∃(o:Nat),aB=some (Addr.mk ak o none)/\Zaf ab aA/\∃(v:Value),∃(ac:Value),∃(ad:Value),∃(ae:Value),∃(af:Value),∃
 (ag:Value),∃(ah:Value),∃(ai:Value),Mem.reads aa ak (o+Int.toNat ab*8) [v,ac,ad,ae,af,ag,ah,ai]/\∀(am:Nat),chk (Value.oneCell' v&&(Value.oneCell' ac&&(Value.oneCell' ad&&(Value.oneCell'
 ae&&(Value.oneCell' af&&(Value.oneCell' ag&&(Value.oneCell' ah&&(Value.oneCell' ai&&true)))))))) (∃(R:RT),True/\CX Try.prog 95 (Array.mk [agg (Array.mk [v,ac,ad,ae,af,ag,ah,ai])]) aa [] R/\Zaq
 (Shape.int i64) R/\∀(al:Int)(m':Mem),Mem.le aa m'->R (int i64 al) m' []->[some (Box.mk b [int u8 aF,int u64 aC,int u64 aH,int u64 aI,int u64 aJ,int i64 aE,int i64 aG,slice aB aA
 aD] 29 8 true true)]=[some (Box.mk b [int u8 aF,int u64 aC,int u64 aH,int u64 aI,int u64 aJ,int i64 aE,int i64 aG,slice aB aA aD] 29 8 true true)]/\∃(n':Nat),n' < aj/\I [int i64
 (IntKind.wrap i64 (n+al)),int i64 (IntKind.wrap i64 (ab+(1:Int)))] [] [] m' n')) (br (aF == (5:Int)) (br (aG == (-1:Int)) (∃(m'':Mem),Mem.le m m''/\Mem.le m'' aa/\R (int i64 (if(10001:Int) <
 IntKind.wrap i64 (n*if(10001:Int) < if(1:Int) > if(0:Int) > aE then(0:Int)else aE then(1:Int)else if(0:Int) > aE then(0:Int)else aE then(10001:Int)else if(1:Int) > if(0:Int) >
 aE then(0:Int)else aE then(1:Int)else if(0:Int) > aE then(0:Int)else aE)then(10001:Int)else IntKind.wrap i64 (n*if(10001:Int) < if(1:Int) > if(0:Int) > aE then(0:Int)else
 aE then(1:Int)else if(0:Int) > aE then(0:Int)else aE then(10001:Int)else if(1:Int) > if(0:Int) > aE then(0:Int)else aE then(1:Int)else if(0:Int) > aE then(0:Int)else
 aE))) m'' []) (∃(m'':Mem),Mem.le m m''/\Mem.le m'' aa/\R (int i64 (if(10001:Int) < IntKind.wrap i64 (n*if(10001:Int) < if aG > if(0:Int) > aE then(0:Int)else aE then aG else if(0:Int) >
 aE then(0:Int)else aE then(10001:Int)else if aG > if(0:Int) > aE then(0:Int)else aE then aG else if(0:Int) > aE then(0:Int)else aE)then(10001:Int)else IntKind.wrap i64 (n*if
 (10001:Int) < if aG > if(0:Int) > aE then(0:Int)else aE then aG else if(0:Int) > aE then(0:Int)else aE then(10001:Int)else if aG > if(0:Int) > aE then(0:Int)else aE then aG
 else if(0:Int) > aE then(0:Int)else aE))) m'' [])) (∃(m'':Mem),Mem.le m m''/\Mem.le m'' aa/\R (int i64 (if(10001:Int) < n then(10001:Int)else n)) m'' [])))
theorem ZiG(aF aC aH aI aJ aE aG:Int)(aB:Option Addr)(aA aD:Nat)(m:Mem)(R:RT)(h:Zfl aF aC aH aI aJ aE aG aB aA aD m R):CX Try.prog 95 #[.agg #[.int .u8 aF,.int .u64 aC,.int .u64 aH,.int .u64 aI,.int .u64 aJ,.int .i64 aE,.int .i64 aG,.slice aB aA aD]] m [] R:=
 Zae (E:=ZjL) Zax mix Try.func95 [.v (.agg #[.int .u8 aF,.int .u64 aC,.int .u64 aH,.int .u64 aI,.int .u64 aJ,.int .i64 aE,.int .i64 aG,.slice aB aA aD])] [] (by kernel_rfl) (Eq.mp (by kernel_rfl) h)
noncomputable def ZjM:Env:={ EB with
 frzNew:=[1] }
def Zfm(aF aC aH aI aJ aE aG:Int)(aB:Option Addr)(aA aD:Nat)(m:Mem)(R:RT):Prop:=
 ∀(b:Nat)(m':Mem),Mem.le m m'->Mem.reads m' b 0 [int u8 aF,int u64 aC,int u64 aH,int u64 aI,int u64 aJ,int i64 aE,int i64 aG,slice aB aA aD]->∃(R_1:RT),True/\CX Try.prog 92
 (Array.mk [agg (Array.mk [int u8 aF,int u64 aC,int u64 aH,int u64 aI,int u64 aJ,int i64 aE,int i64 aG,slice aB aA aD])]) m' [] R_1/\Zaq Shape.bool R_1/\∀(b:Bool)(m'_1:Mem),Mem.le
 m' m'_1->R_1 (bool b) m'_1 []->br (!b) (∃(m'':Mem),Mem.le m m''/\Mem.le m'' m'_1/\R (int i64 10001) m'' []) (∃(R_2:RT),True/\CX Try.prog 95 (Array.mk [agg (Array.mk [int u8 aF,int u64 aC,int u64 aH,
 int u64 aI,int u64 aJ,int i64 aE,int i64 aG,slice aB aA aD])]) m'_1 [] R_2/\Zaq (Shape.int i64) R_2/\∀(n:Int)(m':Mem),Mem.le m'_1 m'->R_2 (int i64 n) m' []->∃(m'':Mem),Mem.le m m''/\
 Mem.le m'' m'/\R (int i64 n) m'' [])
theorem ZiH(aF aC aH aI aJ aE aG:Int)(aB:Option Addr)(aA aD:Nat)(m:Mem)(R:RT)(h:Zfm aF aC aH aI aJ aE aG aB aA aD m R):CX Try.prog 79 #[.agg #[.int .u8 aF,.int .u64 aC,.int .u64 aH,.int .u64 aI,.int .u64 aJ,.int .i64 aE,.int .i64 aG,.slice aB aA aD]] m [] R:=
 Zae (E:=ZjM) Zax mix Try.func79 [.v (.agg #[.int .u8 aF,.int .u64 aC,.int .u64 aH,.int .u64 aI,.int .u64 aJ,.int .i64 aE,.int .i64 aG,.slice aB aA aD])] [] (by kernel_rfl) (Eq.mp (by kernel_rfl) h)
noncomputable def ZpD:Env:={ EB with
 loops:=(λi=>bif Nat.beq i 6 then⟨[(10,.agg [.int .u8,.int .u64,.int .u64,.int .u64,.int .u64,.int .i64,.int .i64,.slice])],[3],[],false⟩ else⟨[],[],[],false⟩)
 frzNew:=[1] }
def ZiI(aF aC aH aI aJ aE aG:Int)(aB:Option Addr)(aA aD:Nat)(m:Mem)(R:RT):Prop:=
 ∀(b:Nat)(m':Mem),Mem.le m m'->Mem.reads m' b 0 [int u8 aF,int u64 aC,int u64 aH,int u64 aI,int u64 aJ,int i64 aE,int i64 aG,slice aB aA aD]->∃(R_1:RT),True/\CX Try.prog 92
 (Array.mk [agg (Array.mk [int u8 aF,int u64 aC,int u64 aH,int u64 aI,int u64 aJ,int i64 aE,int i64 aG,slice aB aA aD])]) m' [] R_1/\Zaq Shape.bool R_1/\∀(ae:Bool)(ab:Mem),Mem.le
 m' ab->R_1 (bool ae) ab []->br (!ae) (∃(m'':Mem),Mem.le m m''/\Mem.le m'' ab/\R (int i64 10001) m'' []) (∀(ac:Nat),∃(R_2:RT),True/\CX Try.prog 93 (Array.mk [agg (Array.mk [int u8 aF,int u64 aC,int
 u64 aH,int u64 aI,int u64 aJ,int i64 aE,int i64 aG,slice aB aA aD])]) ab [] R_2/\Zaq Shape.fn R_2/\∀(g:Nat)(fi ca:List Value)(m':Mem),Mem.le ab m'->R_2 (func (Fn.func g) (Array.mk
 fi) (Array.mk ca)) m' []->∃(xs:List (List Value)),IX Try.prog g fi ca m' xs/\(∀(x:List Value),x∈xs->Shape.fitsL [shT] x=true)/\∃(I:IT),I [] [[int i64 0]] [] m' 0/\(∀(n af ag ah ai aj ak:Int) (a:
 Option Addr) (al c:Nat) (cs:List Value) (aa:Mem) (ad:Nat),Mem.le m' aa->List.get?Internal xs ad=some [agg (Array.mk [int u8 n,int u64 af,int u64 ag,int u64 ah,int u64 ai,int i64 aj,int i64 ak,slice a
 al c])]->I [] [cs] [] aa ad->∀(am:Nat),br (n == (6:Int)) (Eng.Zty cs 0 λ(v:Value)=>chk (Zar i64 v&&decide (i64=i64)) ([some (Box.mk ac [] 3 1 false true),some (Box.mk b [int u8 aF,int u64 aC,
 int u64 aH,int u64 aI,int u64 aJ,int i64 aE,int i64 aG,slice aB aA aD] 29 8 true true)]=[some (Box.mk ac [] 3 1 false true),some (Box.mk b [int u8 aF,int u64 aC,int u64 aH,int u64
 aI,int u64 aJ,int i64 aE,int i64 aG,slice aB aA aD] 29 8 true true)]/\I [] [[int i64 (IntKind.wrap i64 (RowKit.intOf v+(1:Int)))]] [] aa (ad+1))) ([some (Box.mk ac [] 3 1 false true),some
 (Box.mk b [int u8 aF,int u64 aC,int u64 aH,int u64 aI,int u64 aJ,int i64 aE,int i64 aG,slice aB aA aD] 29 8 true true)]=[some (Box.mk ac [] 3 1 false true),some (Box.mk b [int u8 aF,
 int u64 aC,int u64 aH,int u64 aI,int u64 aJ,int i64 aE,int i64 aG,slice aB aA aD] 29 8 true true)]/\I [] [cs] [] aa (ad+1)))/\∀(cs:List Value)(aa:Mem),Mem.le m' aa->I [] [cs] [] aa
 (List.length xs)->Eng.Zty cs 0 λ(v:Value)=>∃(m'':Mem),Mem.le m m''/\Mem.le m'' aa/\R v m'' [])
theorem ZnD(aF aC aH aI aJ aE aG:Int)(aB:Option Addr)(aA aD:Nat)(m:Mem)(R:RT)(h:ZiI aF aC aH aI aJ aE aG aB aA aD m R):CX Try.prog 80 #[.agg #[.int .u8 aF,.int .u64 aC,.int .u64 aH,.int .u64 aI,.int .u64 aJ,.int .i64 aE,.int .i64 aG,.slice aB aA aD]] m [] R:=
 Zae (E:=ZpD) Zax mix Try.func80 [.v (.agg #[.int .u8 aF,.int .u64 aC,.int .u64 aH,.int .u64 aI,.int .u64 aJ,.int .i64 aE,.int .i64 aG,.slice aB aA aD])] [] (by kernel_rfl) (Eq.mp (by kernel_rfl) h)
noncomputable def ZqK:Env:={ EB with
 frzNew:=[1] }
def ZkS(aF aC:Bool)(aH aI aJ aE aG bX bY:Int)(bO:Option Addr)(bP bQ:Nat)(m:Mem)(R:RT):Prop:=
 ∀(b:Nat)(m':Mem),Mem.le m m'->Mem.reads m' b 0 [bool aF,bool aC,int u8 aH,int u64 aI,int u64 aJ,int u64 aE,int u64 aG,int i64 bX,int i64 bY,slice bO bP bQ]->∃(R_1:RT),
 True/\CX Try.prog 74 (Array.mk [agg (Array.mk [int u8 aH,int u64 aI,int u64 aJ,int u64 aE,int u64 aG,int i64 bX,int i64 bY,slice bO bP bQ])]) m' [] R_1/\Zaq Shape.bool R_1/\∀(b:Bool)
 (m'_1:Mem),Mem.le m' m'_1->R_1 (bool b) m'_1 []->br (!b) (∃(m'':Mem),Mem.le m m''/\Mem.le m'' m'_1/\R (int i64 80) m'' []) (∃(R_2:RT),True/\CX Try.prog 78 (Array.mk [agg (Array.mk [int u8 aH,int u64
 aI,int u64 aJ,int u64 aE,int u64 aG,int i64 bX,int i64 bY,slice bO bP bQ])]) m'_1 [] R_2/\Zaq (Shape.int i64) R_2/\∀(n:Int)(m':Mem),Mem.le m'_1 m'->R_2 (int i64 n) m' []->br
 (decide (n > (120:Int))) (∃(m'':Mem),Mem.le m m''/\Mem.le m'' m'/\R (int i64 81) m'' []) (∃(R_3:RT),True/\CX Try.prog 79 (Array.mk [agg (Array.mk [int u8 aH,int u64 aI,int u64 aJ,int u64 aE,int
 u64 aG,int i64 bX,int i64 bY,slice bO bP bQ])]) m' [] R_3/\Zaq (Shape.int i64) R_3/\∀(n:Int)(m'_2:Mem),Mem.le m' m'_2->R_3 (int i64 n) m'_2 []->br (decide (n > (400:Int))) (∃(m'':Mem),
 Mem.le m m''/\Mem.le m'' m'_2/\R (int i64 82) m'' []) (∃(R_4:RT),True/\CX Try.prog 80 (Array.mk [agg (Array.mk [int u8 aH,int u64 aI,int u64 aJ,int u64 aE,int u64 aG,int i64 bX,int i64 bY,
 slice bO bP bQ])]) m'_2 [] R_4/\Zaq (Shape.int i64) R_4/\∀(n:Int)(m':Mem),Mem.le m'_2 m'->R_4 (int i64 n) m' []->br (decide (n > (9:Int))) (∃(m'':Mem),Mem.le m m''/\Mem.le m'' m'/\R (int i64
 83) m'' []) (∃(m'':Mem),Mem.le m m''/\Mem.le m'' m'/\R (int i64 0) m'' []))))
theorem ZpE(aF aC:Bool)(aH aI aJ aE aG bX bY:Int)(bO:Option Addr)(bP bQ:Nat)(m:Mem)(R:RT)(h:ZkS aF aC aH aI aJ aE aG bX bY bO bP bQ m R):CX Try.prog 34 #[.agg #[.bool aF,.bool aC,.int .u8 aH,.int .u64 aI,.int .u64 aJ,.int .u64 aE,.int .u64 aG,.int .i64 bX,.int .i64 bY,.slice bO bP bQ]] m [] R:=
 Zae (E:=ZqK) Zax mix Try.func34 [.v (.agg #[.bool aF,.bool aC,.int .u8 aH,.int .u64 aI,.int .u64 aJ,.int .u64 aE,.int .u64 aG,.int .i64 bX,.int .i64 bY,.slice bO bP bQ])] [] (by kernel_rfl) (Eq.mp (by kernel_rfl) h)
noncomputable def ZaT:Env:={ EB with
 loops:=(λi=>bif Nat.beq i 4 then⟨[(17,.int .i64)],[],[],false⟩ else⟨[],[],[],false⟩) }
def ZaE(p0a:Option Addr)(p0n p0c:Nat)(p1a:Option Addr)(p1n p1c p2g:Nat)(p2fi p2ca:List Value)(m:Mem)(R:RT):Prop:=
 br (!(↑p0n:Int) == (↑p1n:Int)) (∃(m'':Mem),Mem.le m m''/\Mem.le m'' m/\R (bool false) m'' []) (∃(I:IT),(∃(n:Nat),I [int i64 0] [] [] m n)/\∀(n:Int)(m':Mem)(n_1:Nat),Mem.le m m'->I [int i64
 n] [] [] m' n_1->br (decide (n < (↑p0n:Int))) (∃(b:Nat),∃(o:Nat),p0a=some (Addr.mk b o none)/\Zaf n p0n/\∃(v:Value),∃(v_1:Value),∃(v_2:Value),∃(v_3:Value),∃(v_4:Value),∃(v_5:
 Value),∃(v_6:Value),∃(v_7:Value),Mem.reads m' b (o+Int.toNat n*8) [v,v_1,v_2,v_3,v_4,v_5,v_6,v_7]/\∀(b:Nat),chk (Value.oneCell' v&&(Value.oneCell' v_1&&(Value.oneCell' v_2&&(Value.oneCell'
 v_3&&(Value.oneCell' v_4&&(Value.oneCell' v_5&&(Value.oneCell' v_6&&(Value.oneCell' v_7&&true)))))))) (∃(b:Nat),∃(o:Nat),p1a=some (Addr.mk b o none)/\Zaf n p1n/\∃(v_8:Value),∃(v_9:
 Value),∃(v_10:Value),∃(v_11:Value),∃(v_12:Value),∃(v_13:Value),∃(v_14:Value),∃(v_15:Value),Mem.reads m' b (o+Int.toNat n*8) [v_8,v_9,v_10,v_11,v_12,v_13,v_14,v_15]/\∀(b:Nat),chk
 (Value.oneCell' v_8&&(Value.oneCell' v_9&&(Value.oneCell' v_10&&(Value.oneCell' v_11&&(Value.oneCell' v_12&&(Value.oneCell' v_13&&(Value.oneCell' v_14&&(Value.oneCell' v_15&&true)))))))) (∃(R_1:RT),
 True/\CX Try.prog p2g (Array.mk (List.append (List.append p2fi [agg (Array.mk [v,v_1,v_2,v_3,v_4,v_5,v_6,v_7]),agg (Array.mk [v_8,v_9,v_10,v_11,v_12,v_13,v_14,v_15])]) p2ca)) m' [] R_1/\Zaq Shape.bool
 R_1/\∀(b:Bool)(m'_1:Mem),Mem.le m' m'_1->R_1 (bool b) m'_1 []->br (!b) (∃(m'':Mem),Mem.le m m''/\Mem.le m'' m'_1/\R (bool false) m'' []) (∃(n':Nat),n' < n_1/\I [int i64 (IntKind.wrap i64 (n+(1:
 Int)))] [] [] m'_1 n')))) (∃(m'':Mem),Mem.le m m''/\Mem.le m'' m'/\R (bool true) m'' []))
theorem ZaQ(p0a:Option Addr)(p0n p0c:Nat)(p1a:Option Addr)(p1n p1c p2g:Nat)(p2fi p2ca:List Value)(m:Mem)(R:RT)(h:ZaE p0a p0n p0c p1a p1n p1c p2g p2fi p2ca m R):CX Try.prog 114 #[.slice p0a p0n p0c,.slice p1a p1n p1c,.func (.func p2g) p2fi.toArray p2ca.toArray] m [] R:=
 Zae (E:=ZaT) Zax mix Try.func114 [.v (.slice p0a p0n p0c),.v (.slice p1a p1n p1c),.v (.func (.func p2g) p2fi.toArray p2ca.toArray)] [] (by kernel_rfl) (Eq.mp (by kernel_rfl) h)
noncomputable def Ztb:Env:={ EB with
 joins:=(λi=>bif Nat.beq i 1 then some [(4,.bool)]else none)
 frzNew:=[2,3] }
def ZmS(aF aC aH aI aJ aE aG:Int)(aB:Option Addr)(aA aD:Nat)(aZ aN aO aP aQ aR aS:Int)(aK:Option Addr)(aL aM:Nat)(m:Mem)(R:RT):Prop:=
 ∀(b:Nat)(m':Mem),Mem.le m m'->Mem.reads m' b 0 [int u8 aF,int u64 aC,int u64 aH,int u64 aI,int u64 aJ,int i64 aE,int i64 aG,slice aB aA aD]->∀(aa:Nat)(ac:Mem),Mem.le m' ac->
 Mem.reads ac aa 0 [int u8 aZ,int u64 aN,int u64 aO,int u64 aP,int u64 aQ,int i64 aR,int i64 aS,slice aK aL aM]->∃(ab:Bool),br (aF == aZ) (∃(ad:Bool),EqIs Try.prog 26 (agg
 (Array.mk [int u64 aC,int u64 aH,int u64 aI,int u64 aJ])) (agg (Array.mk [int u64 aN,int u64 aO,int u64 aP,int u64 aQ])) ad/\br ad (br (aE == aR) (br (aG == aS) (∃(R:RT),True/\CX
 Try.prog 114 (Array.mk [slice aB aA aD,slice aK aL aM,func (Fn.func 91) (Array.mk []) (Array.mk [])]) ac [] R/\Zaq Shape.bool R/\∀(ae:Bool)(m':Mem),Mem.le ac m'->R (bool ae) m' []->[some
 (Box.mk aa [int u8 aZ,int u64 aN,int u64 aO,int u64 aP,int u64 aQ,int i64 aR,int i64 aS,slice aK aL aM] 29 8 true true),some (Box.mk b [int u8 aF,int u64 aC,int u64 aH,int u64
 aI,int u64 aJ,int i64 aE,int i64 aG,slice aB aA aD] 29 8 true true)]=[some (Box.mk aa [int u8 aZ,int u64 aN,int u64 aO,int u64 aP,int u64 aQ,int i64 aR,int i64 aS,slice aK
 aL aM] 29 8 true true),some (Box.mk b [int u8 aF,int u64 aC,int u64 aH,int u64 aI,int u64 aJ,int i64 aE,int i64 aG,slice aB aA aD] 29 8 true true)]/\[bool ae]=[bool ab]) ([some
 (Box.mk aa [int u8 aZ,int u64 aN,int u64 aO,int u64 aP,int u64 aQ,int i64 aR,int i64 aS,slice aK aL aM] 29 8 true true),some (Box.mk b [int u8 aF,int u64 aC,int u64 aH,int u64
 aI,int u64 aJ,int i64 aE,int i64 aG,slice aB aA aD] 29 8 true true)]=[some (Box.mk aa [int u8 aZ,int u64 aN,int u64 aO,int u64 aP,int u64 aQ,int i64 aR,int i64 aS,slice aK
 aL aM] 29 8 true true),some (Box.mk b [int u8 aF,int u64 aC,int u64 aH,int u64 aI,int u64 aJ,int i64 aE,int i64 aG,slice aB aA aD] 29 8 true true)]/\[bool false]=[bool ab]))
 ([some (Box.mk aa [int u8 aZ,int u64 aN,int u64 aO,int u64 aP,int u64 aQ,int i64 aR,int i64 aS,slice aK aL aM] 29 8 true true),some (Box.mk b [int u8 aF,int u64 aC,int u64 aH,int
 u64 aI,int u64 aJ,int i64 aE,int i64 aG,slice aB aA aD] 29 8 true true)]=[some (Box.mk aa [int u8 aZ,int u64 aN,int u64 aO,int u64 aP,int u64 aQ,int i64 aR,int i64 aS,slice
 aK aL aM] 29 8 true true),some (Box.mk b [int u8 aF,int u64 aC,int u64 aH,int u64 aI,int u64 aJ,int i64 aE,int i64 aG,slice aB aA aD] 29 8 true true)]/\[bool false]=[bool ab]))
 ([some (Box.mk aa [int u8 aZ,int u64 aN,int u64 aO,int u64 aP,int u64 aQ,int i64 aR,int i64 aS,slice aK aL aM] 29 8 true true),some (Box.mk b [int u8 aF,int u64 aC,int u64 aH,int
 u64 aI,int u64 aJ,int i64 aE,int i64 aG,slice aB aA aD] 29 8 true true)]=[some (Box.mk aa [int u8 aZ,int u64 aN,int u64 aO,int u64 aP,int u64 aQ,int i64 aR,int i64 aS,slice
 aK aL aM] 29 8 true true),some (Box.mk b [int u8 aF,int u64 aC,int u64 aH,int u64 aI,int u64 aJ,int i64 aE,int i64 aG,slice aB aA aD] 29 8 true true)]/\[bool false]=[bool ab]))
 ([some (Box.mk aa [int u8 aZ,int u64 aN,int u64 aO,int u64 aP,int u64 aQ,int i64 aR,int i64 aS,slice aK aL aM] 29 8 true true),some (Box.mk b [int u8 aF,int u64 aC,int u64 aH,int
 u64 aI,int u64 aJ,int i64 aE,int i64 aG,slice aB aA aD] 29 8 true true)]=[some (Box.mk aa [int u8 aZ,int u64 aN,int u64 aO,int u64 aP,int u64 aQ,int i64 aR,int i64 aS,slice
 aK aL aM] 29 8 true true),some (Box.mk b [int u8 aF,int u64 aC,int u64 aH,int u64 aI,int u64 aJ,int i64 aE,int i64 aG,slice aB aA aD] 29 8 true true)]/\[bool false]=[bool ab])
 /\ ∃(m'':Mem),Mem.le m m''/\Mem.le m'' ac/\R (bool ab) m'' []
theorem ZqL(aF aC aH aI aJ aE aG:Int)(aB:Option Addr)(aA aD:Nat)(aZ aN aO aP aQ aR aS:Int)(aK:Option Addr)(aL aM:Nat)(m:Mem)(R:RT)(h:ZmS aF aC aH aI aJ aE aG aB aA aD aZ aN aO aP aQ aR aS aK aL aM m R):CX Try.prog 91 #[.agg #[.int .u8 aF,.int .u64 aC,.int .u64 aH,.int .u64 aI,.int .u64 aJ,.int .i64 aE,.int .i64 aG,.slice aB aA aD],.agg #[.int .u8 aZ,.int .u64 aN,.int .u64 aO,.int .u64 aP,.int .u64 aQ,.int .i64 aR,.int .i64 aS,.slice aK aL aM]] m [] R:=
 Zae (E:=Ztb) Zax mix Try.func91 [.v (.agg #[.int .u8 aF,.int .u64 aC,.int .u64 aH,.int .u64 aI,.int .u64 aJ,.int .i64 aE,.int .i64 aG,.slice aB aA aD]),.v (.agg #[.int .u8 aZ,.int .u64 aN,.int .u64 aO,.int .u64 aP,.int .u64 aQ,.int .i64 aR,.int .i64 aS,.slice aK aL aM])] [] (by kernel_rfl) (Eq.mp (by kernel_rfl) h)
noncomputable def Ztc:Env:={ EB with
 joins:=(λi=>bif Nat.beq i 1 then some [(4,.bool)]else none)
 frzNew:=[2,3] }
def ZmT(aF aC aH aI aJ aE aG:Int)(aB:Option Addr)(aA aD:Nat)(aZ aN aO aP aQ aR aS:Int)(aK:Option Addr)(aL aM:Nat)(m:Mem)(R:RT):Prop:=
 ∀(b:Nat)(m':Mem),Mem.le m m'->Mem.reads m' b 0 [int u8 aF,int u64 aC,int u64 aH,int u64 aI,int u64 aJ,int i64 aE,int i64 aG,slice aB aA aD]->∀(aa:Nat)(ab:Mem),Mem.le m' ab->
 Mem.reads ab aa 0 [int u8 aZ,int u64 aN,int u64 aO,int u64 aP,int u64 aQ,int i64 aR,int i64 aS,slice aK aL aM]->∃(ac:Bool),(∃(R:RT),True/\CX Try.prog 92 (Array.mk [agg (Array.mk
 [int u8 aF,int u64 aC,int u64 aH,int u64 aI,int u64 aJ,int i64 aE,int i64 aG,slice aB aA aD])]) ab [] R/\Zaq Shape.bool R/\∀(ae:Bool)(m':Mem),Mem.le ab m'->R (bool ae) m' []->br
 ae (∃(R:RT),True/\CX Try.prog 92 (Array.mk [agg (Array.mk [int u8 aZ,int u64 aN,int u64 aO,int u64 aP,int u64 aQ,int i64 aR,int i64 aS,slice aK aL aM])]) m' [] R/\Zaq Shape.bool R/\
 ∀(af:Bool)(ad:Mem),Mem.le m' ad->R (bool af) ad []->br af (∃(R:RT),True/\CX Try.prog 91 (Array.mk [agg (Array.mk [int u8 aF,int u64 aC,int u64 aH,int u64 aI,int u64 aJ,int i64 aE,int i64
 aG,slice aB aA aD]),agg (Array.mk [int u8 aZ,int u64 aN,int u64 aO,int u64 aP,int u64 aQ,int i64 aR,int i64 aS,slice aK aL aM])]) ad [] R/\Zaq Shape.bool R/\∀(ag:Bool)
 (m':Mem),Mem.le ad m'->R (bool ag) m' []->[some (Box.mk aa [int u8 aZ,int u64 aN,int u64 aO,int u64 aP,int u64 aQ,int i64 aR,int i64 aS,slice aK aL aM] 29 8 true true),some (Box.mk b
 [int u8 aF,int u64 aC,int u64 aH,int u64 aI,int u64 aJ,int i64 aE,int i64 aG,slice aB aA aD] 29 8 true true)]=[some (Box.mk aa [int u8 aZ,int u64 aN,int u64 aO,int u64 aP,int
 u64 aQ,int i64 aR,int i64 aS,slice aK aL aM] 29 8 true true),some (Box.mk b [int u8 aF,int u64 aC,int u64 aH,int u64 aI,int u64 aJ,int i64 aE,int i64 aG,slice aB aA aD]
 29 8 true true)]/\[bool ag]=[bool ac]) ([some (Box.mk aa [int u8 aZ,int u64 aN,int u64 aO,int u64 aP,int u64 aQ,int i64 aR,int i64 aS,slice aK aL aM] 29 8 true true),some (Box.mk b [int
 u8 aF,int u64 aC,int u64 aH,int u64 aI,int u64 aJ,int i64 aE,int i64 aG,slice aB aA aD] 29 8 true true)]=[some (Box.mk aa [int u8 aZ,int u64 aN,int u64 aO,int u64 aP,int u64
 aQ,int i64 aR,int i64 aS,slice aK aL aM] 29 8 true true),some (Box.mk b [int u8 aF,int u64 aC,int u64 aH,int u64 aI,int u64 aJ,int i64 aE,int i64 aG,slice aB aA aD] 29 8
 true true)]/\[bool false]=[bool ac])) ([some (Box.mk aa [int u8 aZ,int u64 aN,int u64 aO,int u64 aP,int u64 aQ,int i64 aR,int i64 aS,slice aK aL aM] 29 8 true true),some (Box.mk b [int
 u8 aF,int u64 aC,int u64 aH,int u64 aI,int u64 aJ,int i64 aE,int i64 aG,slice aB aA aD] 29 8 true true)]=[some (Box.mk aa [int u8 aZ,int u64 aN,int u64 aO,int u64 aP,int u64
 aQ,int i64 aR,int i64 aS,slice aK aL aM] 29 8 true true),some (Box.mk b [int u8 aF,int u64 aC,int u64 aH,int u64 aI,int u64 aJ,int i64 aE,int i64 aG,slice aB aA aD] 29 8
 true true)]/\[bool false]=[bool ac]))/\∃(m'':Mem),Mem.le m m''/\Mem.le m'' ab/\R (bool ac) m'' []
theorem ZqM(aF aC aH aI aJ aE aG:Int)(aB:Option Addr)(aA aD:Nat)(aZ aN aO aP aQ aR aS:Int)(aK:Option Addr)(aL aM:Nat)(m:Mem)(R:RT)(h:ZmT aF aC aH aI aJ aE aG aB aA aD aZ aN aO aP aQ aR aS aK aL aM m R):CX Try.prog 83 #[.agg #[.int .u8 aF,.int .u64 aC,.int .u64 aH,.int .u64 aI,.int .u64 aJ,.int .i64 aE,.int .i64 aG,.slice aB aA aD],.agg #[.int .u8 aZ,.int .u64 aN,.int .u64 aO,.int .u64 aP,.int .u64 aQ,.int .i64 aR,.int .i64 aS,.slice aK aL aM]] m [] R:=
 Zae (E:=Ztc) Zax mix Try.func83 [.v (.agg #[.int .u8 aF,.int .u64 aC,.int .u64 aH,.int .u64 aI,.int .u64 aJ,.int .i64 aE,.int .i64 aG,.slice aB aA aD]),.v (.agg #[.int .u8 aZ,.int .u64 aN,.int .u64 aO,.int .u64 aP,.int .u64 aQ,.int .i64 aR,.int .i64 aS,.slice aK aL aM])] [] (by kernel_rfl) (Eq.mp (by kernel_rfl) h)
end Go.Proofs.Ythiefodednaikaa
namespace Go.Proofs.Ythiefodednaikaa
open Go Go.Eng Go.Rx Go.Proofs Go.RowKit
set_option maxRecDepth 100000
theorem Zjx(t:T)(m:Mem):CX Try.prog 93 #[t.v] m [] (λv m' _=>∃b,v=.func (.func 115) #[] #[.pointer (some ⟨b,0,none⟩)]/\m'.reads b 0 t.cs):=by
 apply Zpw
 unfold ZkN
 intro b m' hm hb
 exact⟨m',hm,Mem.le_refl _,b,rfl,hb⟩
theorem ZgT(t:T)(m:Mem)(c0b:Nat)(cJ:m.reads c0b 0 t.cs)(fT:Rep m t):IX Try.prog 115 [] [.pointer (some ⟨c0b,0,none⟩)] m (t.nodes.map λx=>[x.v]):=by
 apply ZlC 0 [] [] c0b 0
 unfold Zhy
 intro l b m' hm hb
 have j4:=cJ.mono hm
 refine⟨_,_,_,_,_,_,_,_,j4,⟨rfl,by omega,?_⟩,?_,.inr rfl⟩
 ·rw[Zbi];rfl
 refine⟨t.sl,j4 7 _ rfl,Zaa rfl ?_⟩
 refine⟨λxs _ _ m'' q=>∃i:Nat,i<=t.subs.length/\xs=[.int .i64 ((1+(Zaz (t.subs.take i)).length:Nat):Int),.int .i64 i]/\m'.le m''/\q=t.subs.length - i,⟨t.subs.length,0,by omega,?_,Mem.le_refl _,by omega⟩,?_⟩
 ·simp[Zaz]
 rintro y n m2 q aY ⟨i,hi,gF,jh,hq⟩
 simp only[List.cons.injEq,Value.int.injEq,true_and,and_true]at gF
 obtain⟨rfl,rfl⟩:=gF
 have bS:slN t.sl=t.subs.length:=rfl
 rw[bS]
 refine Zab (λbB=>?_) (λcK=>?_)
 ·have aX:i < t.subs.length:=by simpa using bB
  obtain⟨x,hx⟩:∃x,t.subs[i]?=some x:=⟨_,List.getElem?_eq_getElem aX⟩
  have cD:x∈t.subs:=List.mem_of_getElem? hx
  have bW:=ZfU cD
  obtain⟨uz,h0|⟨b1,o1,ha,dV⟩⟩:=Zev fT
  ·rw[h0]at aX;simp at aX
  obtain⟨ik,fU⟩:=(dV.mono ((mLt hm jh))).get hx
  refine Zaa rfl ⟨b1,o1,ha,⟨by omega,by omega⟩,_,_,_,_,_,_,_,_,ik,λb2=>Zaa rfl ?_⟩
  refine⟨_,trivial,Zjx x m2,λv m' css h=>?_,?_⟩
  ·obtain⟨b3,rfl,_⟩:=h;rfl
  rintro g fi ca m3 bN ⟨b3,hv,eN⟩
  obtain⟨rfl,rfl,rfl⟩:=Zjr hv
  refine⟨_,ZgT x m3 b3 eN (fU.mono bN),λy hy=>?_,?_⟩
  ·obtain⟨z,_,rfl⟩:=List.mem_map.1 hy;exact Zqq z
  refine⟨λxs _ _ m'' q=>q<=x.nodes.length/\xs=[.int .i64 ((1+(Zaz (t.subs.take i)).length+q:Nat):Int)]/\m3.le m'',⟨Nat.zero_le _,rfl,Mem.le_refl _⟩,?_,?_⟩
  ·rintro y n0 n1 n2 n3 n4 n5 n6 a n7 c m4 q cE hq ⟨iL,hy,_⟩ b4
   simp only[List.cons.injEq,Value.int.injEq,true_and,and_true]at hy
   subst hy
   have hq':(List.map (λz:T=>[z.v]) x.nodes)[(q:Nat)]?=some [Value.agg #[.int .u8 n0,.int .u64 n1,.int .u64 n2,.int .u64 n3,.int .u64 n4,.int .i64 n5,.int .i64 n6,.slice a n7 c]]:=hq
   rw[List.getElem?_map]at hq'
   obtain⟨z,hz,nI⟩:=Option.map_eq_some_iff.1 hq'
   have wd:q < x.nodes.length:=(List.getElem?_eq_some_iff.1 hz).1
   refine⟨⟨rfl,by omega,?_⟩,⟨rfl,by omega,?_,cE⟩,rfl,.inr rfl⟩
   ·rw[Int.toNat_natCast]
    show(t.nodes.map λx=>[x.v])[1+(Zaz (t.subs.take i)).length+q]?=_
    rw[List.getElem?_map,ZuD hx hz,<-nI];rfl
   ·congr 2
  ·rintro y m4 cE ⟨iL,hy,_⟩
   simp only[List.cons.injEq,Value.int.injEq,true_and,and_true]at hy
   subst hy
   refine⟨rfl,t.subs.length - (i+1),by omega,i+1,by omega,?_,mLt jh (mLt bN cE),rfl⟩
   rw[Zao (by omega) (by omega),Zhp hx,List.length_append]
   simp[T.v,Nat.add_assoc]
 ·have hi':i=t.subs.length:=by
   have:¬((i:Int) < (t.subs.length:Int)):=by simpa using cK
   omega
  subst hi'
  left
  rw[List.take_length,Zbi]
  simp
  omega
termination_by SizeOf.sizeOf t
decreasing_by exact bW
theorem Ztd(least most:Int)(m:Mem):CX Try.prog 75 #[.int .i64 least,.int .i64 most] m [] (Ret (.bool (Zd7 least most))):=by
 apply ZnC
 unfold ZiF
 refine⟨decide (least < 0)||decide (least > 16)||(least == 1&&most == 1),?_,Zab (λh=>Zac (Mem.le_refl _) ?_) (λh=>⟨most == -1||(decide (most ≥ 1)&&decide (most<=16)&&decide (most ≥ least)),?_,Zac (Mem.le_refl _) ?_⟩)⟩
 ·simp only[ZsF];(repeat' split) <;> simp_all <;> omega
 ·simp[Ret,Zd7,h]
 ·simp only[ZsF];(repeat' split) <;> simp_all <;> omega
 ·simp[Ret,Zd7,h]
theorem ZnE(l:List T)(a:Option Addr)(c:Nat)(g:Nat)(ca:List Value)(p:T->Bool)(m:Mem)(hl:l.length<=1000000000000000)(hr:l=[]\/∃b o,a=some ⟨b,o,none⟩/\RepAt m b o l)
  (hp:∀x∈l,∀m',m.le m'->Rep m' x->CX Try.prog g (x.v::ca).toArray m' [] (Ret (.bool (p x)))):
  CX Try.prog 128 #[.slice a l.length c,.func (.func g) #[] ca.toArray] m [] (Ret (.int .i64 (if l.any p then(l.findIdx p:Nat)else(-1:Int)))):=by
 apply Zbu a l.length c g [] ca
 unfold Za2
 refine⟨λxs _ _ m'' q=>∃i:Nat,i<=l.length/\xs=[.int .i64 i]/\(∀x∈l.take i,p x=false)/\m.le m''/\q=l.length - i,⟨l.length,0,by omega,rfl,by simp,Mem.le_refl _,by omega⟩,?_⟩
 rintro n m' q hm ⟨i,hi,hn,fK,cL,hq⟩
 obtain rfl:n=i:=by simpa using hn
 refine Zab (λbB=>?_) (λcK=>?_)
 ·have aX:i < l.length:=by simpa using bB
  obtain⟨x,hx⟩:∃x,l[i]?=some x:=⟨_,List.getElem?_eq_getElem aX⟩
  have cD:x∈l:=List.mem_of_getElem? hx
  rcases hr with h0|⟨b1,o1,ha,dV⟩
  ·rw[h0]at aX;simp at aX
  obtain⟨ik,fU⟩:=(dV.mono hm).get hx
  refine⟨b1,o1,ha,⟨by omega,by omega⟩,_,_,_,_,_,_,_,_,ik,Zan (hp x cD m' hm fU) λm1 aW=>Zab (λkL=>?_) (λkL=>?_)⟩
  ·refine Zac (mLt hm aW) ?_
   have lJ:l.any p=true:=List.any_eq_true.2 ⟨x,cD,kL⟩
   have nJ:l.findIdx p=i:=by
    rw[List.findIdx_eq aX]
    refine⟨by rw[(List.getElem?_eq_some_iff.1 hx).2];exact kL,λj hj=>?_⟩
    exact fK _ (List.mem_of_getElem? (i:=j) (by rw[List.getElem?_take_of_lt hj];exact List.getElem?_eq_getElem (by omega)))
   simp[Ret,lJ,nJ]
  ·refine⟨l.length - (i+1),by omega,i+1,by omega,by rw[Zao (by omega) (by omega)];rfl,?_,mLt hm aW,rfl⟩
   intro y hy
   rw[List.take_add_one,hx]at hy
   rcases List.mem_append.1 hy with hy|hy
   ·exact fK y hy
   ·simp at hy;rw[hy];exact kL
 ·have hi':i=l.length:=by
   have:¬((i:Int) < (l.length:Int)):=by simpa using cK
   omega
  subst hi'
  refine Zac hm ?_
  have lJ:l.any p=false:=by
   rw[List.any_eq_false]
   rw[List.take_length]at fK
   exact λx hx=>by simp[fK x hx]
  simp[Ret,lJ]
theorem ZiJ(l:List T)(a:Option Addr)(c:Nat)(g:Nat)(ca:List Value)(p:T->Bool)(m:Mem)(hl:l.length<=1000000000000000)(hr:l=[]\/∃b o,a=some ⟨b,o,none⟩/\RepAt m b o l)
  (hp:∀x∈l,∀m',m.le m'->Rep m' x->CX Try.prog g (x.v::ca).toArray m' [] (Ret (.bool (p x)))):
  CX Try.prog 125 #[.slice a l.length c,.func (.func g) #[] ca.toArray] m [] (Ret (.bool (l.any p))):=by
 apply Zbj a l.length c g [] ca
 unfold ZaV
 refine ZaC (ZnE l a c g ca p m hl hr hp) λm' hm=>Zac hm ?_
 cases h:l.any p <;> simp[Ret]
theorem ZwH(t:T)(k:Int)(b:Nat)(m:Mem)(hb:m.reads b 0 [.int .u8 k]):CX Try.prog 126 #[t.v,.pointer (some ⟨b,0,none⟩)] m [] (Ret (.bool (t.k == k))):=by
 apply Zpz (c0b:=b) (c0o:=0)
 unfold ZkP
 intro b' m' hm _
 exact⟨_,hm _ _ _ (hb 0 _ rfl),Zaa rfl (Zac hm rfl)⟩
theorem Zte(t:T)(k:Int)(m:Mem)(hr:Rep m t):CX Try.prog 116 #[t.v,.int .u8 k] m [] (Ret (.bool (t.has k))):=by
 apply Zs9
 unfold ZpA
 intro b m1 aW _ b2 m2 aY dS
 have hr':=Zev (hr.mono (mLt aW aY))
 exact Zan (ZiJ t.subs t.a t.c _ [.pointer (some ⟨b2,0,none⟩)] (λx=>x.k == k) m2 hr'.1 hr'.2 λx _ m' hm' _=>ZwH x k b2 m' (dS.mono hm')) λm3 bN=>Zac (mLt aW (mLt aY bN)) rfl
theorem Zhz(t:T)(m:Mem)(hr:Rep m t):CX Try.prog 92 #[t.v] m [] (Ret (.bool t.light)):=by
 apply Zpx
 unfold ZkO
 intro b m1 aW _ b2
 refine Zal (Zjx t m1) (λv m' css h=>by obtain⟨_,rfl,_⟩:=h;rfl) ?_
 rintro g fi ca m2 aY ⟨b3,hv,eN⟩
 obtain⟨rfl,rfl,rfl⟩:=Zjr hv
 have cL:=mLt aW aY
 refine⟨_,ZgT t m2 b3 eN (hr.mono cL),λy hy=>?_,λ_ css _ m' q=>css=[[.int .i64 q]]/\q<=10000/\q<=t.nodes.length,⟨rfl,by omega,by omega⟩,?_,?_⟩
 ·obtain⟨z,_,rfl⟩:=List.mem_map.1 hy;exact Zqq z
 ·rintro n0 n1 n2 n3 n4 n5 n6 a n7 c cs m3 q bN hq ⟨cV,iL,_⟩
  obtain rfl:cs=[.int .i64 q]:=by simpa using cV
  have bB:q < t.nodes.length:=by
   have:=(List.getElem?_eq_some_iff.1 (show(List.map (λz:T=>[z.v]) t.nodes)[(q:Nat)]?=some _ from hq)).1
   simpa using this
  refine Zah rfl (Zaa rfl ?_)
  have hw:IntKind.i64.wrap (intOf (Value.int .i64 (q:Int))+1)=(q:Int)+1:=Zao (n:=(q:Int)+1) (by omega) (by omega)
  simp only[hw]
  refine Zab (λh=>⟨by trivial,Zac (mLt cL bN) ?_⟩) (λh=>⟨by trivial,?_,?_,by omega⟩)
  ·have:((q:Int)+1 > 10000):=by simpa using h
   simp[Ret,T.light];omega
  ·simp
  ·have:¬((q:Int)+1 > 10000):=by simpa using h
   omega
 ·rintro cs m3 bN ⟨cV,iL,_⟩
  obtain rfl:cs=[.int .i64 t.nodes.length]:=by simpa using cV
  refine Zah rfl (Zaa rfl (Zac (mLt cL bN) ?_))
  show Value.bool (decide ((t.nodes.length:Int)<=10000))=Value.bool t.light
  congr 1
  rw[T.light,decide_eq_decide];omega
end Go.Proofs.Ythiefodednaikaa
namespace Go.Proofs.Ythiefodednaikaa
open Go Go.Eng Go.Proofs Go.RowKit
theorem Zd8{P:Program}{T:TypeId}(hg:P.eqGuardType P.depth T=false)(op:BinOp)(ox oy:Operand)(xs ys:Array Value)(w:World):(eqGuard op T ox oy (.agg xs) (.agg ys)).run P w=.ok () w:=by
 unfold eqGuard
 have h1:(P.eqGuardType P.depth T)=true->False:=λh=>by rw[hg]at h;cases h
 split
 ·simp[go_sem];exact λh=>(h1 h).elim
 ·simp[go_sem];exact λh=>(h1 h).elim
 ·simp
theorem Zu2(a b c d a' b' c' d':Int):EqIs Try.prog 26 (.agg #[.int .u64 a,.int .u64 b,.int .u64 c,.int .u64 d]) (.agg #[.int .u64 a',.int .u64 b',.int .u64 c',.int .u64 d']) (a == a'&&b == b'&&c == c'&&d == d'):=by
 refine⟨λw=>?_,λop ox oy w=>Zd8 (by kernel_rfl) op ox oy _ _ w⟩
 have u3:=Try.underlying24
 have a3:=Try.isAgg24
 have z3:=Try.sizeOf24
 rw[Op.equal,Op.maxDepth,show(10000:Nat)=9999+1 from rfl,Op.equalIn]
 simp only[Sem.run_bind,run_underlying Try.underlying26,Result.andThen_ok]
 simp only[Std.Legacy.Range.forIn_eq_forIn_range',Std.Legacy.Range.size,Nat.sub_zero,Nat.add_sub_cancel,Nat.div_one,List.range'_succ,List.range'_zero,List.forIn_cons,List.forIn_nil]
 go_simp
 by_cases h1:a=a' <;> by_cases h2:b=b' <;> by_cases h3:c=c' <;> by_cases h4:d=d' <;> simp[h1,h2,h3,h4]
end Go.Proofs.Ythiefodednaikaa