/- Part of the proof: functions of the program. No condition. -/
import Derived.Test.YtojlhhphofhaoaaGreatDoorPEnv
import Derived.Test.YtojlhhphofhaoaaGreatDoorMr
import Derived.Test.YtojlhhphofhaoaaGreatDoorMc
import Derived.Laws.StructEq
import Derived.Laws.Tables
import Derived.Laws.Cover2
set_option linter.unusedVariables false
set_option linter.unusedSimpArgs false
set_option linter.unusedSectionVars false
namespace Go.Proofs.YtojlhhphofhaoaaGreatDoor
open Go Go.Eng Go.Proofs Go.RowKit
open Go.Value (int slice agg bool string tuple func)
open Go.IntKind (u8 u64 i64)
set_option maxRecDepth 100000
noncomputable def Zqm:Env:={ EB with
 frzNew:=[1] }
theorem ZoQ(aA aB aC aD aR aM aQ:Int)(aO:Option Addr)(aN aP:Nat)(m:Mem)(R:RT)(h:
 ∀(b:Nat)(m':Mem),m.le m'->m'.reads b 0 [int u8 aA,int u64 aB,int u64 aC,int u64 aD,int u64 aR,int i64 aM,int i64 aQ,slice aO aN aP]->∃(m'':Mem),m.le m''/\m''.le m'/\R (func (Fn.func 122) (Array.mk []) (Array.mk [Value.pointer (some (Addr.mk b 0 none))])) m'' []):CX Tryz.prog 94 #[.agg #[.int .u8 aA,.int .u64 aB,.int .u64 aC,.int .u64 aD,.int .u64 aR,.int .i64 aM,.int .i64 aQ,.slice aO aN aP]] m [] R:=
 Zad (E:=Zqm) Zak mix Tryz.func94 [.v (.agg #[.int .u8 aA,.int .u64 aB,.int .u64 aC,.int .u64 aD,.int .u64 aR,.int .i64 aM,.int .i64 aQ,.slice aO aN aP])] [] (by kernel_rfl) (Eq.mp (by kernel_rfl) h)
noncomputable def ZmV:Env:={ EB with
 loops:=(λi=>bif Nat.beq i 3 then⟨[(13,.int .i64)],[],[],true⟩ else bif Nat.beq i 7 then⟨[(19,.agg [.int .u8,.int .u64,.int .u64,.int .u64,.int .u64,.int .i64,.int .i64,.slice])],[],[],true⟩ else⟨[],[],[],false⟩)
 frzNew:=[2] }
theorem ZkF(p0g:Nat)(p0fi p0ca:List Value)(c0b c0o:Nat)(m:Mem)(xs:List (List Value))(h:
 ∀(l b:Nat)(m':Mem),m.le m'->m'.reads b 0 [func (Fn.yield l) (Array.mk []) (Array.mk [])]->∃v an ao ap aq ar au av:Value,m'.reads c0b c0o [v,an,ao,ap,aq,ar,au,av]/\(l=l/\(0:Int)<=(0:Int)/\List.get?Internal xs (Int.toNat (0:Int))=some [agg (Array.mk [v,an,ao,ap,aq,ar,au,av])])/\(∃(v:Value),
 m' c0b (c0o+7)=some v/\chk (Zbi v) (∃(I:IT),(∃(n:Nat),I [int i64 ((0:Int)+(1:Int)),int i64 0] [] [] m' n)/\∀(y n:Int)(ai:Mem)(aw:Nat),m'.le ai->I [int i64 y,int i64 n] [] [] ai aw->
 br (decide (n < (↑(slN v):Int))) (chk (Zbi v) (∃(ax:Nat),∃(o:Nat),slA v=some (Addr.mk ax o none)/\Zaf n (slN v)/\∃v aa ab ac ad ae af ag:Value,ai.reads ax (o+Int.toNat n*8) [v,aa,ab,ac,ad,ae,af,ag]/\∀(aj:Nat),chk (v.oneCell'&&(aa.oneCell'&&(ab.oneCell'&&(ac.oneCell' &&
 (ad.oneCell'&&(ae.oneCell'&&(af.oneCell'&&(ag.oneCell'&&true)))))))) (∃(R:RT),True/\CX Tryz.prog 94 (Array.mk [agg (Array.mk [v,aa,ab,ac,ad,ae,af,ag])]) ai [] R/\Zap
 Shape.fn R/\∀(g:Nat)(fi ca:List Value)(m':Mem),ai.le m'->R (func (Fn.func g) (Array.mk fi) (Array.mk ca)) m' []->∃(ak:List (List Value)),IX Tryz.prog g fi ca m' ak/\(∀(x:List Value),x∈ak->
 Shape.fitsL [shT] x=true)/\∃(al:IT),al [int i64 y] [] [] m' 0/\(∀(y n ay az a0 a1 a2 a3:Int)(a:Option Addr)(a4 c:Nat)(ah:Mem)(am:Nat),m'.le ah->List.get?Internal ak am=some [agg (Array.mk
 [int u8 n,int u64 ay,int u64 az,int u64 a0,int u64 a1,int i64 a2,int i64 a3,slice a a4 c])]->al [int i64 y] [] [] ah am->∀(a5:Nat),(l=l/\(0:Int)<=y/\List.get?Internal xs (Int.toNat y)=some [agg
 (Array.mk [int u8 n,int u64 ay,int u64 az,int u64 a0,int u64 a1,int i64 a2,int i64 a3,slice a a4 c])])/\([some (Box.mk aj [v,aa,ab,ac,ad,ae,af,ag] 52 8 false true),some (Box.mk b [func (Fn.yield l)
 (Array.mk []) (Array.mk [])] 150 1 true true)]=[some (Box.mk aj [v,aa,ab,ac,ad,ae,af,ag] 52 8 false true),some (Box.mk b [func (Fn.yield l) (Array.mk []) (Array.mk [])] 150 1 true true)]/\al [int i64 (y+(1
 : Int))] [] [] ah (am+1))/\[some (Box.mk aj [v,aa,ab,ac,ad,ae,af,ag] 52 8 false true),some (Box.mk b [func (Fn.yield l) (Array.mk []) (Array.mk [])] 150 1 true true)]=[some (Box.mk aj [v,aa,ab,ac,ad,
 ae,af,ag] 52 8 false true),some (Box.mk b [func (Fn.yield l) (Array.mk []) (Array.mk [])] 150 1 true true)]/\((-1:Int)=(↑(xs.length):Int)\/(-1:Int)=(-1:Int)))/\∀(y:Int)(ah:Mem),m'.le ah
 -> al [int i64 y] [] [] ah (ak.length)->[some (Box.mk b [func (Fn.yield l) (Array.mk []) (Array.mk [])] 150 1 true true)]=[some (Box.mk b [func (Fn.yield l) (Array.mk []) (Array.mk [])] 150 1 true true)]/\∃(n'
 : Nat),n' < aw/\I [int i64 y,int i64 (i64.wrap (n+(1:Int)))] [] [] ah n'))) (y=(↑(xs.length):Int)\/y=(-1:Int))))/\((-1:Int)=(↑(xs.length):Int)\/(-1:Int)=(-1:Int))):IX Tryz.prog 122 [] [.pointer (some ⟨c0b,c0o,none⟩)] m xs:=
 ZgW (E:=ZmV) Zak mix Tryz.func122 [] [.pointer (some ⟨c0b,c0o,none⟩)] xs (by kernel_rfl) (Eq.mp (by kernel_rfl) h)
noncomputable def Zqn:Env:={ EB with
 loops:=(λi=>bif Nat.beq i 3 then⟨[(6,.agg [.int .u8,.int .u64,.int .u64,.int .u64,.int .u64,.int .i64,.int .i64,.slice])],[3],[],false⟩ else⟨[],[],[],false⟩)
 frzNew:=[1] }
theorem ZoR(aA aB aC aD aR aM aQ:Int)(aO:Option Addr)(aN aP:Nat)(m:Mem)(R:RT)(h:
 ∀(b:Nat)(m':Mem),m.le m'->m'.reads b 0 [int u8 aA,int u64 aB,int u64 aC,int u64 aD,int u64 aR,int i64 aM,int i64 aQ,slice aO aN aP]->∀(b_1:Nat),∃(R_1:RT),True/\CX
 Tryz.prog 94 (Array.mk [agg (Array.mk [int u8 aA,int u64 aB,int u64 aC,int u64 aD,int u64 aR,int i64 aM,int i64 aQ,slice aO aN aP])]) m' [] R_1/\Zap Shape.fn R_1/\∀(g:Nat) (fi ca:
 List Value) (m'_1:Mem),m'.le m'_1->R_1 (func (Fn.func g) (Array.mk fi) (Array.mk ca)) m'_1 []->∃(xs:List (List Value)),IX Tryz.prog g fi ca m'_1 xs/\(∀(x:List Value),x∈xs->Shape.fitsL [shT] x =
 true)/\∃(I:IT),I [] [[int i64 0]] [] m'_1 0/\(∀(n n_1 n_2 n_3 n_4 n_5 n_6:Int)(a:Option Addr)(n_7 c:Nat)(cs:List Value)(m':Mem)(n_8:Nat),m'_1.le m'->List.get?Internal xs n_8=some [agg
 (Array.mk [int u8 n,int u64 n_1,int u64 n_2,int u64 n_3,int u64 n_4,int i64 n_5,int i64 n_6,slice a n_7 c])]->I [] [cs] [] m' n_8->Eng.Ztt cs 0 λ(v:Value)=>chk (ZaP i64 v&&decide (i64=i64)) (br
 (decide (i64.wrap (intOf v+(1:Int)) > (10000:Int))) ([some (Box.mk b_1 [] 3 1 false true),some (Box.mk b [int u8 aA,int u64 aB,int u64 aC,int u64 aD,int u64 aR,int i64 aM,int i64
 aQ,slice aO aN aP] 52 8 true true)]=[some (Box.mk b_1 [] 3 1 false true),some (Box.mk b [int u8 aA,int u64 aB,int u64 aC,int u64 aD,int u64 aR,int i64 aM,int i64 aQ,slice aO aN
 aP] 52 8 true true)]/\∃(m'':Mem),m.le m''/\m''.le m'/\R (bool (decide (i64.wrap (intOf v+(1:Int))<=(10000:Int)))) m'' []) ([some (Box.mk b_1 [] 3 1 false true),some (Box.mk b
 [int u8 aA,int u64 aB,int u64 aC,int u64 aD,int u64 aR,int i64 aM,int i64 aQ,slice aO aN aP] 52 8 true true)]=[some (Box.mk b_1 [] 3 1 false true),some (Box.mk b [int u8 aA,int u64
 aB,int u64 aC,int u64 aD,int u64 aR,int i64 aM,int i64 aQ,slice aO aN aP] 52 8 true true)]/\I [] [[int i64 (i64.wrap (intOf v+(1:Int)))]] [] m' (n_8+1))))/\∀(cs:List
 Value) (m':Mem),m'_1.le m'->I [] [cs] [] m' (xs.length)->Eng.Ztt cs 0 λ(v:Value)=>chk (ZaP i64 v&&decide (i64=i64)) (∃(m'':Mem),m.le m''/\m''.le m'/\R (bool (decide
 (intOf v<=(10000:Int)))) m'' [])):CX Tryz.prog 69 #[.agg #[.int .u8 aA,.int .u64 aB,.int .u64 aC,.int .u64 aD,.int .u64 aR,.int .i64 aM,.int .i64 aQ,.slice aO aN aP]] m [] R:=
 Zad (E:=Zqn) Zak mix Tryz.func69 [.v (.agg #[.int .u8 aA,.int .u64 aB,.int .u64 aC,.int .u64 aD,.int .u64 aR,.int .i64 aM,.int .i64 aQ,.slice aO aN aP])] [] (by kernel_rfl) (Eq.mp (by kernel_rfl) h)
noncomputable def ZoS:Env:={ EB with
 joins:=(λi=>bif Nat.beq i 1 then some [(18,.bool)]else bif Nat.beq i 3 then some [(4,.bool)]else none) }
theorem ZmW(p0 p1:Int)(m:Mem)(R:RT)(h:
 ∃(b:Bool),br (decide (p0 < (0:Int))) ([bool true]=[bool b]) (br (decide (p0 > (16:Int))) ([bool true]=[bool b]) (br (p0 == (1:Int)) ([bool (p1 == (1:Int))]=[bool b]) ([bool false]=[bool b])))/\br b
 (∃(m'':Mem),m.le m''/\m''.le m/\R (bool false) m'' []) (∃(b:Bool),br (p1 == (-1:Int)) ([bool true]=[bool b]) (br (decide (p1 ≥ (1:Int))) (br (decide (p1<=(16:Int))) ([bool (decide (p1 ≥ p0))]
 = [bool b]) ([bool false]=[bool b])) ([bool false]=[bool b]))/\∃(m'':Mem),m.le m''/\m''.le m/\R (bool b) m'' [])):CX Tryz.prog 207 #[.int .i64 p0,.int .i64 p1] m [] R:=
 Zad (E:=ZoS) Zak mix Tryz.func207 [.v (.int .i64 p0),.v (.int .i64 p1)] [] (by kernel_rfl) (Eq.mp (by kernel_rfl) h)
noncomputable def Zqo:Env:={ EB with
 frzNew:=[2] }
theorem ZoT(aA aB aC aD aR aM aQ:Int)(aO:Option Addr)(aN aP c0b c0o:Nat)(m:Mem)(R:RT)(h:
 ∀(b:Nat)(m':Mem),m.le m'->m'.reads b 0 [int u8 aA,int u64 aB,int u64 aC,int u64 aD,int u64 aR,int i64 aM,int i64 aQ,slice aO aN aP]->∃(v:Value),m' c0b c0o=some v/\
 chk (ZaP u8 v) (∃(m'':Mem),m.le m''/\m''.le m'/\R (bool (aA == intOf v)) m'' [])):CX Tryz.prog 212 #[.agg #[.int .u8 aA,.int .u64 aB,.int .u64 aC,.int .u64 aD,.int .u64 aR,.int .i64 aM,.int .i64 aQ,.slice aO aN aP],.pointer (some ⟨c0b,c0o,none⟩)] m [] R:=
 Zad (E:=Zqo) Zak mix Tryz.func212 [.v (.agg #[.int .u8 aA,.int .u64 aB,.int .u64 aC,.int .u64 aD,.int .u64 aR,.int .i64 aM,.int .i64 aQ,.slice aO aN aP]),.v (.pointer (some ⟨c0b,c0o,none⟩))] [] (by kernel_rfl) (Eq.mp (by kernel_rfl) h)
noncomputable def Zbv:Env:={ EB with
 loops:=(λi=>bif Nat.beq i 2 then⟨[(8,.int .i64)],[],[],false⟩ else⟨[],[],[],false⟩) }
theorem Zbs(p0a:Option Addr)(p0n p0c p1g:Nat)(p1fi p1ca:List Value)(m:Mem)(R:RT)(h:
 ∃(I:IT),(∃(n:Nat),I [int i64 0] [] [] m n)/\∀(n:Int)(m':Mem)(n_1:Nat),m.le m'->I [int i64 n] [] [] m' n_1->br (decide (n < (↑p0n:Int))) (∃(b:Nat),∃(o:Nat),p0a=some (Addr.mk b o none)
 /\ Zaf n p0n/\∃v v_1 v_2 v_3 v_4 v_5 v_6 v_7:Value,m'.reads b (o+Int.toNat n*8) [v,v_1,v_2,v_3,v_4,v_5,
 v_6,v_7]/\∃(R_1:RT),True/\CX Tryz.prog p1g (Array.mk (List.append (List.append p1fi [agg (Array.mk [v,v_1,v_2,v_3,v_4,v_5,v_6,v_7])]) p1ca)) m' [] R_1/\Zap Shape.bool R_1/\∀(b:Bool)(m'_1:Mem),
 m'.le m'_1->R_1 (bool b) m'_1 []->br b (∃(m'':Mem),m.le m''/\m''.le m'_1/\R (int i64 n) m'' []) (∃(n':Nat),n' < n_1/\I [int i64 (i64.wrap (n+(1:Int)))] [] [] m'_1 n')) (∃(m'':
 Mem),m.le m''/\m''.le m'/\R (int i64 (-1:Int)) m'' [])):CX Tryz.prog 217 #[.slice p0a p0n p0c,.func (.func p1g) p1fi.toArray p1ca.toArray] m [] R:=
 Zad (E:=Zbv) Zak mix Tryz.func217 [.v (.slice p0a p0n p0c),.v (.func (.func p1g) p1fi.toArray p1ca.toArray)] [] (by kernel_rfl) (Eq.mp (by kernel_rfl) h)
noncomputable def Zbg:Env:=EB
theorem Za9(p0a:Option Addr)(p0n p0c p1g:Nat)(p1fi p1ca:List Value)(m:Mem)(R:RT)(h:
 ∃(R_1:RT),True/\CX Tryz.prog 217 (Array.mk [slice p0a p0n p0c,func (Fn.func p1g) (Array.mk p1fi) (Array.mk p1ca)]) m [] R_1/\Zap (Shape.int i64) R_1/\∀(n:Int)(m':Mem),m.le m'->R_1 (int i64 n) m' []
 -> ∃(m'':Mem),m.le m''/\m''.le m'/\R (bool (decide (n ≥ (0:Int)))) m'' []):CX Tryz.prog 211 #[.slice p0a p0n p0c,.func (.func p1g) p1fi.toArray p1ca.toArray] m [] R:=
 Zad (E:=Zbg) Zak mix Tryz.func211 [.v (.slice p0a p0n p0c),.v (.func (.func p1g) p1fi.toArray p1ca.toArray)] [] (by kernel_rfl) (Eq.mp (by kernel_rfl) h)
noncomputable def ZuH:Env:={ EB with
 frzNew:=[2,3] }
theorem ZsL(aA aB aC aD aR aM aQ:Int)(aO:Option Addr)(aN aP:Nat)(p1:Int)(m:Mem)(R:RT)(h:
 ∀(b:Nat)(m':Mem),m.le m'->m'.reads b 0 [int u8 aA,int u64 aB,int u64 aC,int u64 aD,int u64 aR,int i64 aM,int i64 aQ,slice aO aN aP]->∀(b:Nat)(m'_1:Mem),m'.le m'_1->m'_1.reads b 0 [int u8 p1]->∃(R_1:RT),True/\CX Tryz.prog 211 (Array.mk [slice aO aN aP,func (Fn.func 212) (Array.mk []) (Array.mk [Value.pointer (some (Addr.mk b 0 none))])]) m'_1 [] R_1/\
 Zap Shape.bool R_1/\∀(b:Bool)(m':Mem),m'_1.le m'->R_1 (bool b) m' []->∃(m'':Mem),m.le m''/\m''.le m'/\R (bool b) m'' []):CX Tryz.prog 206 #[.agg #[.int .u8 aA,.int .u64 aB,.int .u64 aC,.int .u64 aD,.int .u64 aR,.int .i64 aM,.int .i64 aQ,.slice aO aN aP],.int .u8 p1] m [] R:=
 Zad (E:=ZuH) Zak mix Tryz.func206 [.v (.agg #[.int .u8 aA,.int .u64 aB,.int .u64 aC,.int .u64 aD,.int .u64 aR,.int .i64 aM,.int .i64 aQ,.slice aO aN aP]),.v (.int .u8 p1)] [] (by kernel_rfl) (Eq.mp (by kernel_rfl) h)
noncomputable def Zqp:Env:={ EB with
 joins:=(λi=>bif Nat.beq i 1 then some [(37,.bool)]else bif Nat.beq i 9 then some [(2,.bool)]else bif Nat.beq i 11 then some [(2,.bool)]else bif Nat.beq i 13 then some [(2,.bool)]else bif Nat.beq i 14 then some [(2,.bool)]else none)
 frzNew:=[1] }
theorem ZoU(aA aB aC aD aR aM aQ:Int)(aO:Option Addr)(aN aP:Nat)(m:Mem)(R:RT)(h:
 ∀(b:Nat)(m':Mem),m.le m'->m'.reads b 0 [int u8 aA,int u64 aB,int u64 aC,int u64 aD,int u64 aR,int i64 aM,int i64 aQ,slice aO aN aP]->∃(ab:Bool),br (!aA == (2:Int))
 (∃(aa:Bool),EqIs Tryz.prog 49 (agg (Array.mk [int u64 aB,int u64 aC,int u64 aD,int u64 aR])) (agg (Array.mk [int u64 0,int u64 0,int u64 0,int u64 0])) aa/\br (!aa) ([some (Box.mk b [int u8 aA,int
 u64 aB,int u64 aC,int u64 aD,int u64 aR,int i64 aM,int i64 aQ,slice aO aN aP] 52 8 true true)]=[some (Box.mk b [int u8 aA,int u64 aB,int u64 aC,int u64 aD,int u64 aR,int i64
 aM,int i64 aQ,slice aO aN aP] 52 8 true true)]/\[bool true]=[bool ab]) (br (!aA == (5:Int)) (br (!aM == (0:Int)) ([some (Box.mk b [int u8 aA,int u64 aB,int u64 aC,int u64 aD,int u64
 aR,int i64 aM,int i64 aQ,slice aO aN aP] 52 8 true true)]=[some (Box.mk b [int u8 aA,int u64 aB,int u64 aC,int u64 aD,int u64 aR,int i64 aM,int i64 aQ,slice aO aN aP] 52
 8 true true)]/\[bool true]=[bool ab]) (br (!aQ == (0:Int)) ([some (Box.mk b [int u8 aA,int u64 aB,int u64 aC,int u64 aD,int u64 aR,int i64 aM,int i64 aQ,slice aO aN aP] 52 8 true
 true)]=[some (Box.mk b [int u8 aA,int u64 aB,int u64 aC,int u64 aD,int u64 aR,int i64 aM,int i64 aQ,slice aO aN aP] 52 8 true true)]/\[bool true]=[bool ab]) (br (decide (aA < (3:
 Int))) ([some (Box.mk b [int u8 aA,int u64 aB,int u64 aC,int u64 aD,int u64 aR,int i64 aM,int i64 aQ,slice aO aN aP] 52 8 true true)]=[some (Box.mk b [int u8 aA,int u64 aB,int u64
 aC,int u64 aD,int u64 aR,int i64 aM,int i64 aQ,slice aO aN aP] 52 8 true true)]/\[bool (decide ((↑aN:Int) > (0:Int)))]=[bool ab]) ([some (Box.mk b [int u8 aA,int u64 aB,int u64
 aC,int u64 aD,int u64 aR,int i64 aM,int i64 aQ,slice aO aN aP] 52 8 true true)]=[some (Box.mk b [int u8 aA,int u64 aB,int u64 aC,int u64 aD,int u64 aR,int i64 aM,int i64 aQ,
 slice aO aN aP] 52 8 true true)]/\[bool false]=[bool ab])))) (br (decide (aA < (3:Int))) ([some (Box.mk b [int u8 aA,int u64 aB,int u64 aC,int u64 aD,int u64 aR,int i64 aM,int i64 aQ,
 slice aO aN aP] 52 8 true true)]=[some (Box.mk b [int u8 aA,int u64 aB,int u64 aC,int u64 aD,int u64 aR,int i64 aM,int i64 aQ,slice aO aN aP] 52 8 true true)]/\[bool (decide
 ((↑aN:Int) > (0:Int)))]=[bool ab]) ([some (Box.mk b [int u8 aA,int u64 aB,int u64 aC,int u64 aD,int u64 aR,int i64 aM,int i64 aQ,slice aO aN aP] 52 8 true true)]=[some (Box.mk b
 [int u8 aA,int u64 aB,int u64 aC,int u64 aD,int u64 aR,int i64 aM,int i64 aQ,slice aO aN aP] 52 8 true true)]/\[bool false]=[bool ab])))) (br (!aA == (5:Int)) (br (!aM == (0:
 Int)) ([some (Box.mk b [int u8 aA,int u64 aB,int u64 aC,int u64 aD,int u64 aR,int i64 aM,int i64 aQ,slice aO aN aP] 52 8 true true)]=[some (Box.mk b [int u8 aA,int u64 aB,int u64
 aC,int u64 aD,int u64 aR,int i64 aM,int i64 aQ,slice aO aN aP] 52 8 true true)]/\[bool true]=[bool ab]) (br (!aQ == (0:Int)) ([some (Box.mk b [int u8 aA,int u64 aB,int u64 aC,int
 u64 aD,int u64 aR,int i64 aM,int i64 aQ,slice aO aN aP] 52 8 true true)]=[some (Box.mk b [int u8 aA,int u64 aB,int u64 aC,int u64 aD,int u64 aR,int i64 aM,int i64 aQ,slice
 aO aN aP] 52 8 true true)]/\[bool true]=[bool ab]) (br (decide (aA < (3:Int))) ([some (Box.mk b [int u8 aA,int u64 aB,int u64 aC,int u64 aD,int u64 aR,int i64 aM,int i64 aQ,slice
 aO aN aP] 52 8 true true)]=[some (Box.mk b [int u8 aA,int u64 aB,int u64 aC,int u64 aD,int u64 aR,int i64 aM,int i64 aQ,slice aO aN aP] 52 8 true true)]/\[bool (decide ((↑aN
 : Int) > (0:Int)))]=[bool ab]) ([some (Box.mk b [int u8 aA,int u64 aB,int u64 aC,int u64 aD,int u64 aR,int i64 aM,int i64 aQ,slice aO aN aP] 52 8 true true)]=[some (Box.mk b [int u8
 aA,int u64 aB,int u64 aC,int u64 aD,int u64 aR,int i64 aM,int i64 aQ,slice aO aN aP] 52 8 true true)]/\[bool false]=[bool ab])))) (br (decide (aA < (3:Int))) ([some (Box.mk b [int u8
 aA,int u64 aB,int u64 aC,int u64 aD,int u64 aR,int i64 aM,int i64 aQ,slice aO aN aP] 52 8 true true)]=[some (Box.mk b [int u8 aA,int u64 aB,int u64 aC,int u64 aD,int u64 aR,
 int i64 aM,int i64 aQ,slice aO aN aP] 52 8 true true)]/\[bool (decide ((↑aN:Int) > (0:Int)))]=[bool ab]) ([some (Box.mk b [int u8 aA,int u64 aB,int u64 aC,int u64 aD,int u64 aR,
 int i64 aM,int i64 aQ,slice aO aN aP] 52 8 true true)]=[some (Box.mk b [int u8 aA,int u64 aB,int u64 aC,int u64 aD,int u64 aR,int i64 aM,int i64 aQ,slice aO aN aP] 52 8
 true true)]/\[bool false]=[bool ab])))/\br ab (∃(m'':Mem),m.le m''/\m''.le m'/\R (bool false) m'' []) (br (aA == (1:Int)) (∃(m'':Mem),m.le m''/\m''.le m'/\R (bool true) m'' []) (br
 (aA == (2:Int)) (∃(b:Bool),EqIs Tryz.prog 49 (agg (Array.mk [int u64 aB,int u64 aC,int u64 aD,int u64 aR])) (agg (Array.mk [int u64 0,int u64 0,int u64 0,int u64 0])) b/\∃(m'':Mem),m.le m''/\m''.le m'/\R (bool !b) m'' []) (br (aA == (3:Int)) (∃(aa:Bool),br (decide ((↑aN:Int) > (1:Int))) (∃(R:RT),True/\CX Tryz.prog 206 (Array.mk [agg (Array.mk [int u8 aA,int u64 aB,int
 u64 aC,int u64 aD,int u64 aR,int i64 aM,int i64 aQ,slice aO aN aP]),int u8 1]) m' [] R/\Zap Shape.bool R/\∀(ad:Bool)(ac:Mem),m'.le ac->R (bool ad) ac []->br (!ad) (∃(R:RT),
 True/\CX Tryz.prog 206 (Array.mk [agg (Array.mk [int u8 aA,int u64 aB,int u64 aC,int u64 aD,int u64 aR,int i64 aM,int i64 aQ,slice aO aN aP]),int u8 3]) ac [] R/\Zap Shape.bool R/\∀
 (ae:Bool) (m':Mem),ac.le m'->R (bool ae) m' []->[some (Box.mk b [int u8 aA,int u64 aB,int u64 aC,int u64 aD,int u64 aR,int i64 aM,int i64 aQ,slice aO aN aP] 52 8 true true)] =
 [some (Box.mk b [int u8 aA,int u64 aB,int u64 aC,int u64 aD,int u64 aR,int i64 aM,int i64 aQ,slice aO aN aP] 52 8 true true)]/\[bool !ae]=[bool aa]) ([some (Box.mk b [int u8 aA,int
 u64 aB,int u64 aC,int u64 aD,int u64 aR,int i64 aM,int i64 aQ,slice aO aN aP] 52 8 true true)]=[some (Box.mk b [int u8 aA,int u64 aB,int u64 aC,int u64 aD,int u64 aR,int i64
 aM,int i64 aQ,slice aO aN aP] 52 8 true true)]/\[bool false]=[bool aa])) ([some (Box.mk b [int u8 aA,int u64 aB,int u64 aC,int u64 aD,int u64 aR,int i64 aM,int i64 aQ,slice aO
 aN aP] 52 8 true true)]=[some (Box.mk b [int u8 aA,int u64 aB,int u64 aC,int u64 aD,int u64 aR,int i64 aM,int i64 aQ,slice aO aN aP] 52 8 true true)]/\[bool false]=[bool aa])/\∃
 (m'':Mem),m.le m''/\m''.le m'/\R (bool aa) m'' []) (br (aA == (4:Int)) (∃(aa:Bool),br (decide ((↑aN:Int) > (1:Int))) (∃(R:RT),True/\CX Tryz.prog 206 (Array.mk [agg (Array.mk [int u8
 aA,int u64 aB,int u64 aC,int u64 aD,int u64 aR,int i64 aM,int i64 aQ,slice aO aN aP]),int u8 4]) m' [] R/\Zap Shape.bool R/\∀(ad:Bool)(ac:Mem),m'.le ac->R (bool ad) ac []->
 [some (Box.mk b [int u8 aA,int u64 aB,int u64 aC,int u64 aD,int u64 aR,int i64 aM,int i64 aQ,slice aO aN aP] 52 8 true true)]=[some (Box.mk b [int u8 aA,int u64 aB,int u64 aC,int
 u64 aD,int u64 aR,int i64 aM,int i64 aQ,slice aO aN aP] 52 8 true true)]/\[bool !ad]=[bool aa]) ([some (Box.mk b [int u8 aA,int u64 aB,int u64 aC,int u64 aD,int u64 aR,int i64
 aM,int i64 aQ,slice aO aN aP] 52 8 true true)]=[some (Box.mk b [int u8 aA,int u64 aB,int u64 aC,int u64 aD,int u64 aR,int i64 aM,int i64 aQ,slice aO aN aP] 52 8 true true)]
 /\ [bool false]=[bool aa])/\∃(m'':Mem),m.le m''/\m''.le m'/\R (bool aa) m'' []) (br (aA == (5:Int)) (∃(aa:Bool),br ((↑aN:Int) == (1:Int)) (∃(R:RT),True/\CX Tryz.prog 207 (Array.mk
 [int i64 aM,int i64 aQ]) m' [] R/\Zap Shape.bool R/\∀(ad:Bool)(ac:Mem),m'.le ac->R (bool ad) ac []->br ad (∃(R:RT),True/\CX Tryz.prog 206 (Array.mk [agg (Array.mk [int u8 aA,int u64 aB,
 int u64 aC,int u64 aD,int u64 aR,int i64 aM,int i64 aQ,slice aO aN aP]),int u8 1]) ac [] R/\Zap Shape.bool R/\∀(ae:Bool)(m':Mem),ac.le m'->R (bool ae) m' []->[some (Box.mk b [int
 u8 aA,int u64 aB,int u64 aC,int u64 aD,int u64 aR,int i64 aM,int i64 aQ,slice aO aN aP] 52 8 true true)]=[some (Box.mk b [int u8 aA,int u64 aB,int u64 aC,int u64 aD,int u64
 aR,int i64 aM,int i64 aQ,slice aO aN aP] 52 8 true true)]/\[bool !ae]=[bool aa]) ([some (Box.mk b [int u8 aA,int u64 aB,int u64 aC,int u64 aD,int u64 aR,int i64 aM,int i64 aQ,
 slice aO aN aP] 52 8 true true)]=[some (Box.mk b [int u8 aA,int u64 aB,int u64 aC,int u64 aD,int u64 aR,int i64 aM,int i64 aQ,slice aO aN aP] 52 8 true true)]/\[bool false] =
 [bool aa])) ([some (Box.mk b [int u8 aA,int u64 aB,int u64 aC,int u64 aD,int u64 aR,int i64 aM,int i64 aQ,slice aO aN aP] 52 8 true true)]=[some (Box.mk b [int u8 aA,int u64 aB,int
 u64 aC,int u64 aD,int u64 aR,int i64 aM,int i64 aQ,slice aO aN aP] 52 8 true true)]/\[bool false]=[bool aa])/\∃(m'':Mem),m.le m''/\m''.le m'/\R (bool aa) m'' []) (∃(aa:Bool),
 br (aA == (6:Int)) ([some (Box.mk b [int u8 aA,int u64 aB,int u64 aC,int u64 aD,int u64 aR,int i64 aM,int i64 aQ,slice aO aN aP] 52 8 true true)]=[some (Box.mk b [int u8 aA,int u64
 aB,int u64 aC,int u64 aD,int u64 aR,int i64 aM,int i64 aQ,slice aO aN aP] 52 8 true true)]/\[bool ((↑aN:Int) == (1:Int))]=[bool aa]) ([some (Box.mk b [int u8 aA,int u64 aB,int
 u64 aC,int u64 aD,int u64 aR,int i64 aM,int i64 aQ,slice aO aN aP] 52 8 true true)]=[some (Box.mk b [int u8 aA,int u64 aB,int u64 aC,int u64 aD,int u64 aR,int i64 aM,int i64
 aQ,slice aO aN aP] 52 8 true true)]/\[bool false]=[bool aa])/\∃(m'':Mem),m.le m''/\m''.le m'/\R (bool aa) m'' []))))))):CX Tryz.prog 198 #[.agg #[.int .u8 aA,.int .u64 aB,.int .u64 aC,.int .u64 aD,.int .u64 aR,.int .i64 aM,.int .i64 aQ,.slice aO aN aP]] m [] R:=
 Zad (E:=Zqp) Zak mix Tryz.func198 [.v (.agg #[.int .u8 aA,.int .u64 aB,.int .u64 aC,.int .u64 aD,.int .u64 aR,.int .i64 aM,.int .i64 aQ,.slice aO aN aP])] [] (by kernel_rfl) (Eq.mp (by kernel_rfl) h)
noncomputable def Zqq:Env:={ EB with
 loops:=(λi=>bif Nat.beq i 5 then⟨[(9,.agg [.int .u8,.int .u64,.int .u64,.int .u64,.int .u64,.int .i64,.int .i64,.slice])],[2],[],false⟩ else⟨[],[],[],false⟩)
 frzNew:=[1] }
theorem ZoV(aA aB aC aD aR aM aQ:Int)(aO:Option Addr)(aN aP:Nat)(m:Mem)(R:RT)(h:
 ∀(b:Nat)(m':Mem),m.le m'->m'.reads b 0 [int u8 aA,int u64 aB,int u64 aC,int u64 aD,int u64 aR,int i64 aM,int i64 aQ,slice aO aN aP]->∀(ac:Nat),∃(R_1:RT),True/\CX
 Tryz.prog 69 (Array.mk [agg (Array.mk [int u8 aA,int u64 aB,int u64 aC,int u64 aD,int u64 aR,int i64 aM,int i64 aQ,slice aO aN aP])]) m' [] R_1/\Zap Shape.bool R_1/\∀(ae:Bool) (ab:
 Mem),m'.le ab->R_1 (bool ae) ab []->br (!ae) (∃(m'':Mem),m.le m''/\m''.le ab/\R (bool false) m'' []) (∃(R_2:RT),True/\CX Tryz.prog 94 (Array.mk [agg (Array.mk [int u8 aA,int u64 aB,int
 u64 aC,int u64 aD,int u64 aR,int i64 aM,int i64 aQ,slice aO aN aP])]) ab [] R_2/\Zap Shape.fn R_2/\∀(g:Nat)(fi ca:List Value)(m':Mem),ab.le m'->R_2 (func (Fn.func g) (Array.mk
 fi) (Array.mk ca)) m' []->∃(xs:List (List Value)),IX Tryz.prog g fi ca m' xs/\(∀(x:List Value),x∈xs->Shape.fitsL [shT] x=true)/\∃(I:IT),I [] [[bool false]] [] m' 0/\(∀(n af ag ah ai aj ak:Int) (a
 : Option Addr) (al c:Nat) (cs:List Value) (aa:Mem) (ad:Nat),m'.le aa->List.get?Internal xs ad=some [agg (Array.mk [int u8 n,int u64 af,int u64 ag,int u64 ah,int u64 ai,int i64 aj,int i64 ak,slice
 a al c])]->I [] [cs] [] aa ad->∀(an:Nat),∃(R_3:RT),True/\CX Tryz.prog 198 (Array.mk [agg (Array.mk [int u8 n,int u64 af,int u64 ag,int u64 ah,int u64 ai,int i64 aj,int i64 ak,slice a al c])]) aa [] R_3
 /\ Zap Shape.bool R_3/\∀(am:Bool)(m':Mem),aa.le m'->R_3 (bool am) m' []->br (!am) ([some (Box.mk ac [] 4 1 false true),some (Box.mk b [int u8 aA,int u64 aB,int u64 aC,int u64 aD,int u64 aR,
 int i64 aM,int i64 aQ,slice aO aN aP] 52 8 true true)]=[some (Box.mk ac [] 4 1 false true),some (Box.mk b [int u8 aA,int u64 aB,int u64 aC,int u64 aD,int u64 aR,int i64 aM,int i64
 aQ,slice aO aN aP] 52 8 true true)]/\∃(m'':Mem),m.le m''/\m''.le m'/\R (bool false) m'' []) ([some (Box.mk ac [] 4 1 false true),some (Box.mk b [int u8 aA,int u64 aB,int u64 aC,int
 u64 aD,int u64 aR,int i64 aM,int i64 aQ,slice aO aN aP] 52 8 true true)]=[some (Box.mk ac [] 4 1 false true),some (Box.mk b [int u8 aA,int u64 aB,int u64 aC,int u64 aD,int u64 aR,
 int i64 aM,int i64 aQ,slice aO aN aP] 52 8 true true)]/\I [] [cs] [] m' (ad+1)))/\∀(cs:List Value)(aa:Mem),m'.le aa->I [] [cs] [] aa (xs.length)->∃(m'':Mem),m.le m''/\m''.le aa/\R (bool true) m'' [])):CX Tryz.prog 180 #[.agg #[.int .u8 aA,.int .u64 aB,.int .u64 aC,.int .u64 aD,.int .u64 aR,.int .i64 aM,.int .i64 aQ,.slice aO aN aP]] m [] R:=
 Zad (E:=Zqq) Zak mix Tryz.func180 [.v (.agg #[.int .u8 aA,.int .u64 aB,.int .u64 aC,.int .u64 aD,.int .u64 aR,.int .i64 aM,.int .i64 aQ,.slice aO aN aP])] [] (by kernel_rfl) (Eq.mp (by kernel_rfl) h)
noncomputable def ZsM:Env:={ EB with
 loops:=(λi=>bif Nat.beq i 5 then⟨[(9,.agg [.int .u8,.int .u64,.int .u64,.int .u64,.int .u64,.int .i64,.int .i64,.slice])],[3],[],false⟩ else⟨[],[],[],false⟩)
 frzNew:=[1] }
theorem Zqr(aA aB aC aD aR aM aQ:Int)(aO:Option Addr)(aN aP:Nat)(m:Mem)(R:RT)(h:
 ∀(b:Nat)(m':Mem),m.le m'->m'.reads b 0 [int u8 aA,int u64 aB,int u64 aC,int u64 aD,int u64 aR,int i64 aM,int i64 aQ,slice aO aN aP]->∃(R_1:RT),True/\CX Tryz.prog 69
 (Array.mk [agg (Array.mk [int u8 aA,int u64 aB,int u64 aC,int u64 aD,int u64 aR,int i64 aM,int i64 aQ,slice aO aN aP])]) m' [] R_1/\Zap Shape.bool R_1/\∀(b_1:Bool)(m'_1:Mem),
 m'.le m'_1->R_1 (bool b_1) m'_1 []->br (!b_1) (∃(m'':Mem),m.le m''/\m''.le m'_1/\R (int i64 10001) m'' []) (∀(b_2:Nat),∃(R_2:RT),True/\CX Tryz.prog 94 (Array.mk [agg (Array.mk [int u8 aA,
 int u64 aB,int u64 aC,int u64 aD,int u64 aR,int i64 aM,int i64 aQ,slice aO aN aP])]) m'_1 [] R_2/\Zap Shape.fn R_2/\∀(g:Nat)(fi ca:List Value)(m':Mem),m'_1.le m'->R_2 (func
 (Fn.func g) (Array.mk fi) (Array.mk ca)) m' []->∃(xs:List (List Value)),IX Tryz.prog g fi ca m' xs/\(∀(x:List Value),x∈xs->Shape.fitsL [shT] x=true)/\∃(I:IT),I [] [[int i64 0]] [] m' 0/\(∀(n n_1
 n_2 n_3 n_4 n_5 n_6:Int) (a:Option Addr) (n_7 c:Nat) (cs:List Value) (m'_2:Mem) (n_8:Nat),m'.le m'_2->List.get?Internal xs n_8=some [agg (Array.mk [int u8 n,int u64 n_1,int u64 n_2,int u64 n_3,
 int u64 n_4,int i64 n_5,int i64 n_6,slice a n_7 c])]->I [] [cs] [] m'_2 n_8->Eng.Ztt cs 0 λ(v:Value)=>chk (ZaP i64 v&&decide (i64=i64)) ([some (Box.mk b_2 [] 3 1 false true),some (Box.mk b [int u8
 aA,int u64 aB,int u64 aC,int u64 aD,int u64 aR,int i64 aM,int i64 aQ,slice aO aN aP] 52 8 true true)]=[some (Box.mk b_2 [] 3 1 false true),some (Box.mk b [int u8 aA,int u64 aB,int
 u64 aC,int u64 aD,int u64 aR,int i64 aM,int i64 aQ,slice aO aN aP] 52 8 true true)]/\I [] [[int i64 (i64.wrap (intOf v+(1:Int)))]] [] m'_2 (n_8+1)))/\∀(cs:List Value)
 (m'_2:Mem),m'.le m'_2->I [] [cs] [] m'_2 (xs.length)->Eng.Ztt cs 0 λ(v:Value)=>∃(m'':Mem),m.le m''/\m''.le m'_2/\R v m'' [])):CX Tryz.prog 60 #[.agg #[.int .u8 aA,.int .u64 aB,.int .u64 aC,.int .u64 aD,.int .u64 aR,.int .i64 aM,.int .i64 aQ,.slice aO aN aP]] m [] R:=
 Zad (E:=ZsM) Zak mix Tryz.func60 [.v (.agg #[.int .u8 aA,.int .u64 aB,.int .u64 aC,.int .u64 aD,.int .u64 aR,.int .i64 aM,.int .i64 aQ,.slice aO aN aP])] [] (by kernel_rfl) (Eq.mp (by kernel_rfl) h)
noncomputable def ZiN:Env:={ EB with
 loops:=(λi=>bif Nat.beq i 5 then⟨[(3,.int .i64),(14,.int .i64)],[],[],false⟩ else⟨[],[],[],false⟩)
 frzNew:=[1] }
theorem Zhp(aA aB aC aD aR aM aQ:Int)(aO:Option Addr)(aN aP:Nat)(m:Mem)(R:RT)(h:
 ∀(b:Nat)(m':Mem),m.le m'->m'.reads b 0 [int u8 aA,int u64 aB,int u64 aC,int u64 aD,int u64 aR,int i64 aM,int i64 aQ,slice aO aN aP]->br (aA == (2:Int)) (∃(I:IT),(∃
 (n:Nat),I [int i64 1,int i64 0] [] [] m' n)/\∀(n ab:Int)(aa:Mem)(aj:Nat),m'.le aa->I [int i64 n,int i64 ab] [] [] aa aj->br (decide (ab < (↑aN:Int))) (∃(ak:Nat),∃(o:Nat),aO=some
 (Addr.mk ak o none)/\Zaf ab aN/\∃v ac ad ae af ag ah ai:Value,aa.reads ak (o+Int.toNat ab*8) [v,ac,ad,
 ae,af,ag,ah,ai]/\∀(am:Nat),chk (v.oneCell'&&(ac.oneCell'&&(ad.oneCell'&&(ae.oneCell'&&(af.oneCell'&&(ag.oneCell'&&(ah.oneCell'&&(ai.oneCell' &&
 true)))))))) (∃(R:RT),True/\CX Tryz.prog 199 (Array.mk [agg (Array.mk [v,ac,ad,ae,af,ag,ah,ai])]) aa [] R/\Zap (Shape.int i64) R/\∀(al:Int)(m':Mem),aa.le m'->R (int i64 al) m' []->[some
 (Box.mk b [int u8 aA,int u64 aB,int u64 aC,int u64 aD,int u64 aR,int i64 aM,int i64 aQ,slice aO aN aP] 52 8 true true)]=[some (Box.mk b [int u8 aA,int u64 aB,int u64 aC,int u64
 aD,int u64 aR,int i64 aM,int i64 aQ,slice aO aN aP] 52 8 true true)]/\∃(n':Nat),n' < aj/\I [int i64 (i64.wrap (n+al)),int i64 (i64.wrap (ab+(1:Int)))] [] [] m' n')) (br
 (aA == (5:Int)) (br (aQ == (-1:Int)) (∃(m'':Mem),m.le m''/\m''.le aa/\R (int i64 (if(10001:Int) < i64.wrap (n*if(10001:Int) < if(1:Int) > if(0:Int) > aM then(0:Int)else
 aM then(1:Int)else if(0:Int) > aM then(0:Int)else aM then(10001:Int)else if(1:Int) > if(0:Int) > aM then(0:Int)else aM then(1:Int)else if(0:Int) > aM then(0:Int)else aM)
 then(10001:Int)else i64.wrap (n*if(10001:Int) < if(1:Int) > if(0:Int) > aM then(0:Int)else aM then(1:Int)else if(0:Int) > aM then(0:Int)else aM then(10001:Int)else if(1
 : Int) > if(0:Int) > aM then(0:Int)else aM then(1:Int)else if(0:Int) > aM then(0:Int)else aM))) m'' []) (∃(m'':Mem),m.le m''/\m''.le aa/\R (int i64 (if(10001:Int) <
 i64.wrap (n*if(10001:Int) < if aQ > if(0:Int) > aM then(0:Int)else aM then aQ else if(0:Int) > aM then(0:Int)else aM then(10001:Int)else if aQ > if(0:Int) > aM then(0:
 Int)else aM then aQ else if(0:Int) > aM then(0:Int)else aM)then(10001:Int)else i64.wrap (n*if(10001:Int) < if aQ > if(0:Int) > aM then(0:Int)else aM then aQ else if(0:
 Int) > aM then(0:Int)else aM then(10001:Int)else if aQ > if(0:Int) > aM then(0:Int)else aM then aQ else if(0:Int) > aM then(0:Int)else aM))) m'' [])) (∃(m'':Mem),m.le m''/\
 m''.le aa/\R (int i64 (if(10001:Int) < n then(10001:Int)else n)) m'' []))) (∃(I:IT),(∃(n:Nat),I [int i64 0,int i64 0] [] [] m' n)/\∀(n ab:Int)(aa:Mem)(aj:Nat),m'.le aa->I [int i64 n,
 int i64 ab] [] [] aa aj->br (decide (ab < (↑aN:Int))) (∃(ak:Nat),∃(o:Nat),aO=some (Addr.mk ak o none)/\Zaf ab aN/\∃v ac ad ae af ag ah ai:Value,aa.reads ak (o+Int.toNat ab*8) [v,ac,ad,ae,af,ag,ah,ai]/\∀(am:Nat),chk (v.oneCell'&&(ac.oneCell'&&(ad.oneCell' &&
 (ae.oneCell'&&(af.oneCell'&&(ag.oneCell'&&(ah.oneCell'&&(ai.oneCell'&&true)))))))) (∃(R:RT),True/\CX Tryz.prog 199 (Array.mk [agg (Array.mk [v,ac,ad,ae,af,ag,ah,ai])])
 aa [] R/\Zap (Shape.int i64) R/\∀(al:Int)(m':Mem),aa.le m'->R (int i64 al) m' []->[some (Box.mk b [int u8 aA,int u64 aB,int u64 aC,int u64 aD,int u64 aR,int i64 aM,int i64 aQ,slice
 aO aN aP] 52 8 true true)]=[some (Box.mk b [int u8 aA,int u64 aB,int u64 aC,int u64 aD,int u64 aR,int i64 aM,int i64 aQ,slice aO aN aP] 52 8 true true)]/\∃(n':Nat),n' < aj/\
 I [int i64 (i64.wrap (n+al)),int i64 (i64.wrap (ab+(1:Int)))] [] [] m' n')) (br (aA == (5:Int)) (br (aQ == (-1:Int)) (∃(m'':Mem),m.le m''/\m''.le aa/\R (int i64 (if(10001:
 Int) < i64.wrap (n*if(10001:Int) < if(1:Int) > if(0:Int) > aM then(0:Int)else aM then(1:Int)else if(0:Int) > aM then(0:Int)else aM then(10001:Int)else if(1:Int) > if(0:
 Int) > aM then(0:Int)else aM then(1:Int)else if(0:Int) > aM then(0:Int)else aM)then(10001:Int)else i64.wrap (n*if(10001:Int) < if(1:Int) > if(0:Int) > aM then(0:Int)
 else aM then(1:Int)else if(0:Int) > aM then(0:Int)else aM then(10001:Int)else if(1:Int) > if(0:Int) > aM then(0:Int)else aM then(1:Int)else if(0:Int) > aM then(0:Int)else
 aM))) m'' []) (∃(m'':Mem),m.le m''/\m''.le aa/\R (int i64 (if(10001:Int) < i64.wrap (n*if(10001:Int) < if aQ > if(0:Int) > aM then(0:Int)else aM then aQ else if(0:Int) >
 aM then(0:Int)else aM then(10001:Int)else if aQ > if(0:Int) > aM then(0:Int)else aM then aQ else if(0:Int) > aM then(0:Int)else aM)then(10001:Int)else i64.wrap (n*if
 (10001:Int) < if aQ > if(0:Int) > aM then(0:Int)else aM then aQ else if(0:Int) > aM then(0:Int)else aM then(10001:Int)else if aQ > if(0:Int) > aM then(0:Int)else aM then aQ
 else if(0:Int) > aM then(0:Int)else aM))) m'' [])) (∃(m'':Mem),m.le m''/\m''.le aa/\R (int i64 (if(10001:Int) < n then(10001:Int)else n)) m'' [])))):CX Tryz.prog 199 #[.agg #[.int .u8 aA,.int .u64 aB,.int .u64 aC,.int .u64 aD,.int .u64 aR,.int .i64 aM,.int .i64 aQ,.slice aO aN aP]] m [] R:=
 Zad (E:=ZiN) Zak mix Tryz.func199 [.v (.agg #[.int .u8 aA,.int .u64 aB,.int .u64 aC,.int .u64 aD,.int .u64 aR,.int .i64 aM,.int .i64 aQ,.slice aO aN aP])] [] (by kernel_rfl) (Eq.mp (by kernel_rfl) h)
noncomputable def ZiO:Env:={ EB with
 frzNew:=[1] }
theorem Zhq(aA aB aC aD aR aM aQ:Int)(aO:Option Addr)(aN aP:Nat)(m:Mem)(R:RT)(h:
 ∀(b:Nat)(m':Mem),m.le m'->m'.reads b 0 [int u8 aA,int u64 aB,int u64 aC,int u64 aD,int u64 aR,int i64 aM,int i64 aQ,slice aO aN aP]->∃(R_1:RT),True/\CX Tryz.prog 69
 (Array.mk [agg (Array.mk [int u8 aA,int u64 aB,int u64 aC,int u64 aD,int u64 aR,int i64 aM,int i64 aQ,slice aO aN aP])]) m' [] R_1/\Zap Shape.bool R_1/\∀(b:Bool)(m'_1:Mem),m'.le m'_1->R_1 (bool b) m'_1 []->br (!b) (∃(m'':Mem),m.le m''/\m''.le m'_1/\R (int i64 10001) m'' []) (∃(R_2:RT),True/\CX Tryz.prog 199 (Array.mk [agg (Array.mk [int u8 aA,int u64 aB,int u64
 aC,int u64 aD,int u64 aR,int i64 aM,int i64 aQ,slice aO aN aP])]) m'_1 [] R_2/\Zap (Shape.int i64) R_2/\∀(n:Int)(m':Mem),m'_1.le m'->R_2 (int i64 n) m' []->∃(m'':Mem),m.le m''/\m''.le m'/\R (int i64 n) m'' [])):CX Tryz.prog 181 #[.agg #[.int .u8 aA,.int .u64 aB,.int .u64 aC,.int .u64 aD,.int .u64 aR,.int .i64 aM,.int .i64 aQ,.slice aO aN aP]] m [] R:=
 Zad (E:=ZiO) Zak mix Tryz.func181 [.v (.agg #[.int .u8 aA,.int .u64 aB,.int .u64 aC,.int .u64 aD,.int .u64 aR,.int .i64 aM,.int .i64 aQ,.slice aO aN aP])] [] (by kernel_rfl) (Eq.mp (by kernel_rfl) h)
noncomputable def ZoW:Env:={ EB with
 loops:=(λi=>bif Nat.beq i 6 then⟨[(10,.agg [.int .u8,.int .u64,.int .u64,.int .u64,.int .u64,.int .i64,.int .i64,.slice])],[3],[],false⟩ else⟨[],[],[],false⟩)
 frzNew:=[1] }
theorem ZmX(aA aB aC aD aR aM aQ:Int)(aO:Option Addr)(aN aP:Nat)(m:Mem)(R:RT)(h:
 ∀(b:Nat)(m':Mem),m.le m'->m'.reads b 0 [int u8 aA,int u64 aB,int u64 aC,int u64 aD,int u64 aR,int i64 aM,int i64 aQ,slice aO aN aP]->∃(R_1:RT),True/\CX Tryz.prog 69
 (Array.mk [agg (Array.mk [int u8 aA,int u64 aB,int u64 aC,int u64 aD,int u64 aR,int i64 aM,int i64 aQ,slice aO aN aP])]) m' [] R_1/\Zap Shape.bool R_1/\∀(ae:Bool)(ab:Mem),m'.le ab->R_1 (bool ae) ab []->br (!ae) (∃(m'':Mem),m.le m''/\m''.le ab/\R (int i64 10001) m'' []) (∀(ac:Nat),∃(R_2:RT),True/\CX Tryz.prog 94 (Array.mk [agg (Array.mk [int u8 aA,int u64 aB,
 int u64 aC,int u64 aD,int u64 aR,int i64 aM,int i64 aQ,slice aO aN aP])]) ab [] R_2/\Zap Shape.fn R_2/\∀(g:Nat)(fi ca:List Value)(m':Mem),ab.le m'->R_2 (func (Fn.func g)
 (Array.mk fi) (Array.mk ca)) m' []->∃(xs:List (List Value)),IX Tryz.prog g fi ca m' xs/\(∀(x:List Value),x∈xs->Shape.fitsL [shT] x=true)/\∃(I:IT),I [] [[int i64 0]] [] m' 0/\(∀(n af ag ah ai aj ak
 : Int) (a:Option Addr) (al c:Nat) (cs:List Value) (aa:Mem) (ad:Nat),m'.le aa->List.get?Internal xs ad=some [agg (Array.mk [int u8 n,int u64 af,int u64 ag,int u64 ah,int u64 ai,int i64 aj,int i64
 ak,slice a al c])]->I [] [cs] [] aa ad->∀(am:Nat),br (n == (6:Int)) (Eng.Ztt cs 0 λ(v:Value)=>chk (ZaP i64 v&&decide (i64=i64)) ([some (Box.mk ac [] 3 1 false true),some (Box.mk b [int u8 aA,
 int u64 aB,int u64 aC,int u64 aD,int u64 aR,int i64 aM,int i64 aQ,slice aO aN aP] 52 8 true true)]=[some (Box.mk ac [] 3 1 false true),some (Box.mk b [int u8 aA,int u64 aB,int u64
 aC,int u64 aD,int u64 aR,int i64 aM,int i64 aQ,slice aO aN aP] 52 8 true true)]/\I [] [[int i64 (i64.wrap (intOf v+(1:Int)))]] [] aa (ad+1))) ([some (Box.mk ac [] 3 1 false
 true),some (Box.mk b [int u8 aA,int u64 aB,int u64 aC,int u64 aD,int u64 aR,int i64 aM,int i64 aQ,slice aO aN aP] 52 8 true true)]=[some (Box.mk ac [] 3 1 false true),some (Box.mk b
 [int u8 aA,int u64 aB,int u64 aC,int u64 aD,int u64 aR,int i64 aM,int i64 aQ,slice aO aN aP] 52 8 true true)]/\I [] [cs] [] aa (ad+1)))/\∀(cs:List Value)(aa:Mem),m'.le aa->I
 [] [cs] [] aa (xs.length)->Eng.Ztt cs 0 λ(v:Value)=>∃(m'':Mem),m.le m''/\m''.le aa/\R v m'' [])):CX Tryz.prog 182 #[.agg #[.int .u8 aA,.int .u64 aB,.int .u64 aC,.int .u64 aD,.int .u64 aR,.int .i64 aM,.int .i64 aQ,.slice aO aN aP]] m [] R:=
 Zad (E:=ZoW) Zak mix Tryz.func182 [.v (.agg #[.int .u8 aA,.int .u64 aB,.int .u64 aC,.int .u64 aD,.int .u64 aR,.int .i64 aM,.int .i64 aQ,.slice aO aN aP])] [] (by kernel_rfl) (Eq.mp (by kernel_rfl) h)
noncomputable def Zqs:Env:={ EB with
 frzNew:=[1] }
theorem ZoX(aA aB:Bool)(aC aD aR aM aQ cK cL:Int)(gL:Option Addr)(gM gN:Nat)(m:Mem)(R:RT)(h:
 ∀(b:Nat)(m':Mem),m.le m'->m'.reads b 0 [bool aA,bool aB,int u8 aC,int u64 aD,int u64 aR,int u64 aM,int u64 aQ,int i64 cK,int i64 cL,slice gL gM gN]->∃(R_1:RT),
 True/\CX Tryz.prog 180 (Array.mk [agg (Array.mk [int u8 aC,int u64 aD,int u64 aR,int u64 aM,int u64 aQ,int i64 cK,int i64 cL,slice gL gM gN])]) m' [] R_1/\Zap Shape.bool R_1/\∀(b:
 Bool) (m'_1:Mem),m'.le m'_1->R_1 (bool b) m'_1 []->br (!b) (∃(m'':Mem),m.le m''/\m''.le m'_1/\R (int i64 80) m'' []) (∃(R_2:RT),True/\CX Tryz.prog 60 (Array.mk [agg (Array.mk [int u8 aC,
 int u64 aD,int u64 aR,int u64 aM,int u64 aQ,int i64 cK,int i64 cL,slice gL gM gN])]) m'_1 [] R_2/\Zap (Shape.int i64) R_2/\∀(n:Int)(m':Mem),m'_1.le m'->R_2 (int i64 n) m' []->
 br (decide (n > (120:Int))) (∃(m'':Mem),m.le m''/\m''.le m'/\R (int i64 81) m'' []) (∃(R_3:RT),True/\CX Tryz.prog 181 (Array.mk [agg (Array.mk [int u8 aC,int u64 aD,int u64 aR,int u64 aM,
 int u64 aQ,int i64 cK,int i64 cL,slice gL gM gN])]) m' [] R_3/\Zap (Shape.int i64) R_3/\∀(n:Int)(m'_2:Mem),m'.le m'_2->R_3 (int i64 n) m'_2 []->br (decide (n > (400:Int))) (∃(m'':
 Mem),m.le m''/\m''.le m'_2/\R (int i64 82) m'' []) (∃(R_4:RT),True/\CX Tryz.prog 182 (Array.mk [agg (Array.mk [int u8 aC,int u64 aD,int u64 aR,int u64 aM,int u64 aQ,int i64 cK,int i64
 cL,slice gL gM gN])]) m'_2 [] R_4/\Zap (Shape.int i64) R_4/\∀(n:Int)(m':Mem),m'_2.le m'->R_4 (int i64 n) m' []->br (decide (n > (9:Int))) (∃(m'':Mem),m.le m''/\m''.le m'/\R
 (int i64 83) m'' []) (∃(m'':Mem),m.le m''/\m''.le m'/\R (int i64 0) m'' []))))):CX Tryz.prog 159 #[.agg #[.bool aA,.bool aB,.int .u8 aC,.int .u64 aD,.int .u64 aR,.int .u64 aM,.int .u64 aQ,.int .i64 cK,.int .i64 cL,.slice gL gM gN]] m [] R:=
 Zad (E:=Zqs) Zak mix Tryz.func159 [.v (.agg #[.bool aA,.bool aB,.int .u8 aC,.int .u64 aD,.int .u64 aR,.int .u64 aM,.int .u64 aQ,.int .i64 cK,.int .i64 cL,.slice gL gM gN])] [] (by kernel_rfl) (Eq.mp (by kernel_rfl) h)
noncomputable def ZaK:Env:={ EB with
 loops:=(λi=>bif Nat.beq i 4 then⟨[(17,.int .i64)],[],[],false⟩ else⟨[],[],[],false⟩) }
theorem ZaH(p0a:Option Addr)(p0n p0c:Nat)(p1a:Option Addr)(p1n p1c p2g:Nat)(p2fi p2ca:List Value)(m:Mem)(R:RT)(h:
 br (!(↑p0n:Int) == (↑p1n:Int)) (∃(m'':Mem),m.le m''/\m''.le m/\R (bool false) m'' []) (∃(I:IT),(∃(n:Nat),I [int i64 0] [] [] m n)/\∀(n:Int)(m':Mem)(n_1:Nat),m.le m'->I [int i64
 n] [] [] m' n_1->br (decide (n < (↑p0n:Int))) (∃(b:Nat),∃(o:Nat),p0a=some (Addr.mk b o none)/\Zaf n p0n/\∃v v_1 v_2 v_3 v_4 v_5 v_6 v_7:Value,m'.reads b (o+Int.toNat n*8) [v,v_1,v_2,v_3,v_4,v_5,v_6,v_7]/\∀(b:Nat),chk (v.oneCell'&&(v_1.oneCell'&&(v_2.oneCell'&&(v_3.oneCell'&&(v_4.oneCell'&&(v_5.oneCell'&&(v_6.oneCell'&&(v_7.oneCell'&&true)))))))) (∃(b:Nat),∃(o:Nat),p1a=some (Addr.mk b o none)/\Zaf n p1n/\∃v_8 v_9 v_10 v_11 v_12 v_13 v_14 v_15:Value,m'.reads b (o+Int.toNat n*8) [v_8,v_9,v_10,v_11,v_12,v_13,v_14,v_15]/\∀(b:Nat),chk
 (v_8.oneCell'&&(v_9.oneCell'&&(v_10.oneCell'&&(v_11.oneCell'&&(v_12.oneCell'&&(v_13.oneCell'&&(v_14.oneCell'&&(v_15.oneCell'&&true)))))))) (∃(R_1:RT),
 True/\CX Tryz.prog p2g (Array.mk (List.append (List.append p2fi [agg (Array.mk [v,v_1,v_2,v_3,v_4,v_5,v_6,v_7]),agg (Array.mk [v_8,v_9,v_10,v_11,v_12,v_13,v_14,v_15])]) p2ca)) m' [] R_1/\Zap Shape.bool
 R_1/\∀(b:Bool)(m'_1:Mem),m'.le m'_1->R_1 (bool b) m'_1 []->br (!b) (∃(m'':Mem),m.le m''/\m''.le m'_1/\R (bool false) m'' []) (∃(n':Nat),n' < n_1/\I [int i64 (i64.wrap (n+(1:
 Int)))] [] [] m'_1 n')))) (∃(m'':Mem),m.le m''/\m''.le m'/\R (bool true) m'' []))):CX Tryz.prog 133 #[.slice p0a p0n p0c,.slice p1a p1n p1c,.func (.func p2g) p2fi.toArray p2ca.toArray] m [] R:=
 Zad (E:=ZaK) Zak mix Tryz.func133 [.v (.slice p0a p0n p0c),.v (.slice p1a p1n p1c),.v (.func (.func p2g) p2fi.toArray p2ca.toArray)] [] (by kernel_rfl) (Eq.mp (by kernel_rfl) h)
noncomputable def ZsN:Env:={ EB with
 joins:=(λi=>bif Nat.beq i 1 then some [(4,.bool)]else none)
 frzNew:=[2,3] }
theorem Zqt(aA aB aC aD aR aM aQ:Int)(aO:Option Addr)(aN aP:Nat)(aW aX aY aZ bZ cA cB:Int)(bM:Option Addr)(bN bO:Nat)(m:Mem)(R:RT)(h:
 ∀(b:Nat)(m':Mem),m.le m'->m'.reads b 0 [int u8 aA,int u64 aB,int u64 aC,int u64 aD,int u64 aR,int i64 aM,int i64 aQ,slice aO aN aP]->∀(aa:Nat)(ac:Mem),m'.le ac->
 ac.reads aa 0 [int u8 aW,int u64 aX,int u64 aY,int u64 aZ,int u64 bZ,int i64 cA,int i64 cB,slice bM bN bO]->∃(ab:Bool),br (aA == aW) (∃(ad:Bool),EqIs Tryz.prog 49 (agg
 (Array.mk [int u64 aB,int u64 aC,int u64 aD,int u64 aR])) (agg (Array.mk [int u64 aX,int u64 aY,int u64 aZ,int u64 bZ])) ad/\br ad (br (aM == cA) (br (aQ == cB) (∃(R:RT),True/\CX
 Tryz.prog 133 (Array.mk [slice aO aN aP,slice bM bN bO,func (Fn.func 111) (Array.mk []) (Array.mk [])]) ac [] R/\Zap Shape.bool R/\∀(ae:Bool)(m':Mem),ac.le m'->R (bool ae) m' []->
 [some (Box.mk aa [int u8 aW,int u64 aX,int u64 aY,int u64 aZ,int u64 bZ,int i64 cA,int i64 cB,slice bM bN bO] 52 8 true true),some (Box.mk b [int u8 aA,int u64 aB,int u64 aC,int
 u64 aD,int u64 aR,int i64 aM,int i64 aQ,slice aO aN aP] 52 8 true true)]=[some (Box.mk aa [int u8 aW,int u64 aX,int u64 aY,int u64 aZ,int u64 bZ,int i64 cA,int i64 cB,slice
 bM bN bO] 52 8 true true),some (Box.mk b [int u8 aA,int u64 aB,int u64 aC,int u64 aD,int u64 aR,int i64 aM,int i64 aQ,slice aO aN aP] 52 8 true true)]/\[bool ae]=[bool ab])
 ([some (Box.mk aa [int u8 aW,int u64 aX,int u64 aY,int u64 aZ,int u64 bZ,int i64 cA,int i64 cB,slice bM bN bO] 52 8 true true),some (Box.mk b [int u8 aA,int u64 aB,int u64 aC,int
 u64 aD,int u64 aR,int i64 aM,int i64 aQ,slice aO aN aP] 52 8 true true)]=[some (Box.mk aa [int u8 aW,int u64 aX,int u64 aY,int u64 aZ,int u64 bZ,int i64 cA,int i64 cB,slice
 bM bN bO] 52 8 true true),some (Box.mk b [int u8 aA,int u64 aB,int u64 aC,int u64 aD,int u64 aR,int i64 aM,int i64 aQ,slice aO aN aP] 52 8 true true)]/\[bool false]=[bool ab]))
 ([some (Box.mk aa [int u8 aW,int u64 aX,int u64 aY,int u64 aZ,int u64 bZ,int i64 cA,int i64 cB,slice bM bN bO] 52 8 true true),some (Box.mk b [int u8 aA,int u64 aB,int u64 aC,int
 u64 aD,int u64 aR,int i64 aM,int i64 aQ,slice aO aN aP] 52 8 true true)]=[some (Box.mk aa [int u8 aW,int u64 aX,int u64 aY,int u64 aZ,int u64 bZ,int i64 cA,int i64 cB,slice
 bM bN bO] 52 8 true true),some (Box.mk b [int u8 aA,int u64 aB,int u64 aC,int u64 aD,int u64 aR,int i64 aM,int i64 aQ,slice aO aN aP] 52 8 true true)]/\[bool false]=[bool ab]))
 ([some (Box.mk aa [int u8 aW,int u64 aX,int u64 aY,int u64 aZ,int u64 bZ,int i64 cA,int i64 cB,slice bM bN bO] 52 8 true true),some (Box.mk b [int u8 aA,int u64 aB,int u64 aC,int
 u64 aD,int u64 aR,int i64 aM,int i64 aQ,slice aO aN aP] 52 8 true true)]=[some (Box.mk aa [int u8 aW,int u64 aX,int u64 aY,int u64 aZ,int u64 bZ,int i64 cA,int i64 cB,slice
 bM bN bO] 52 8 true true),some (Box.mk b [int u8 aA,int u64 aB,int u64 aC,int u64 aD,int u64 aR,int i64 aM,int i64 aQ,slice aO aN aP] 52 8 true true)]/\[bool false]=[bool ab]))
 ([some (Box.mk aa [int u8 aW,int u64 aX,int u64 aY,int u64 aZ,int u64 bZ,int i64 cA,int i64 cB,slice bM bN bO] 52 8 true true),some (Box.mk b [int u8 aA,int u64 aB,int u64 aC,int
 u64 aD,int u64 aR,int i64 aM,int i64 aQ,slice aO aN aP] 52 8 true true)]=[some (Box.mk aa [int u8 aW,int u64 aX,int u64 aY,int u64 aZ,int u64 bZ,int i64 cA,int i64 cB,slice
 bM bN bO] 52 8 true true),some (Box.mk b [int u8 aA,int u64 aB,int u64 aC,int u64 aD,int u64 aR,int i64 aM,int i64 aQ,slice aO aN aP] 52 8 true true)]/\[bool false]=[bool ab])
 /\ ∃(m'':Mem),m.le m''/\m''.le ac/\R (bool ab) m'' []):CX Tryz.prog 111 #[.agg #[.int .u8 aA,.int .u64 aB,.int .u64 aC,.int .u64 aD,.int .u64 aR,.int .i64 aM,.int .i64 aQ,.slice aO aN aP],.agg #[.int .u8 aW,.int .u64 aX,.int .u64 aY,.int .u64 aZ,.int .u64 bZ,.int .i64 cA,.int .i64 cB,.slice bM bN bO]] m [] R:=
 Zad (E:=ZsN) Zak mix Tryz.func111 [.v (.agg #[.int .u8 aA,.int .u64 aB,.int .u64 aC,.int .u64 aD,.int .u64 aR,.int .i64 aM,.int .i64 aQ,.slice aO aN aP]),.v (.agg #[.int .u8 aW,.int .u64 aX,.int .u64 aY,.int .u64 aZ,.int .u64 bZ,.int .i64 cA,.int .i64 cB,.slice bM bN bO])] [] (by kernel_rfl) (Eq.mp (by kernel_rfl) h)
noncomputable def ZsO:Env:={ EB with
 joins:=(λi=>bif Nat.beq i 1 then some [(4,.bool)]else none)
 frzNew:=[2,3] }
theorem Zqu(aA aB aC aD aR aM aQ:Int)(aO:Option Addr)(aN aP:Nat)(aW aX aY aZ bZ cA cB:Int)(bM:Option Addr)(bN bO:Nat)(m:Mem)(R:RT)(h:
 ∀(b:Nat)(m':Mem),m.le m'->m'.reads b 0 [int u8 aA,int u64 aB,int u64 aC,int u64 aD,int u64 aR,int i64 aM,int i64 aQ,slice aO aN aP]->∀(aa:Nat)(ab:Mem),m'.le ab->
 ab.reads aa 0 [int u8 aW,int u64 aX,int u64 aY,int u64 aZ,int u64 bZ,int i64 cA,int i64 cB,slice bM bN bO]->∃(ac:Bool),(∃(R:RT),True/\CX Tryz.prog 69 (Array.mk [agg (Array.mk
 [int u8 aA,int u64 aB,int u64 aC,int u64 aD,int u64 aR,int i64 aM,int i64 aQ,slice aO aN aP])]) ab [] R/\Zap Shape.bool R/\∀(ae:Bool)(m':Mem),ab.le m'->R (bool ae) m' []->br
 ae (∃(R:RT),True/\CX Tryz.prog 69 (Array.mk [agg (Array.mk [int u8 aW,int u64 aX,int u64 aY,int u64 aZ,int u64 bZ,int i64 cA,int i64 cB,slice bM bN bO])]) m' [] R/\Zap Shape.bool R/\
 ∀(af:Bool)(ad:Mem),m'.le ad->R (bool af) ad []->br af (∃(R:RT),True/\CX Tryz.prog 111 (Array.mk [agg (Array.mk [int u8 aA,int u64 aB,int u64 aC,int u64 aD,int u64 aR,int i64 aM,int
 i64 aQ,slice aO aN aP]),agg (Array.mk [int u8 aW,int u64 aX,int u64 aY,int u64 aZ,int u64 bZ,int i64 cA,int i64 cB,slice bM bN bO])]) ad [] R/\Zap Shape.bool R/\∀(ag:
 Bool) (m':Mem),ad.le m'->R (bool ag) m' []->[some (Box.mk aa [int u8 aW,int u64 aX,int u64 aY,int u64 aZ,int u64 bZ,int i64 cA,int i64 cB,slice bM bN bO] 52 8 true true),some
 (Box.mk b [int u8 aA,int u64 aB,int u64 aC,int u64 aD,int u64 aR,int i64 aM,int i64 aQ,slice aO aN aP] 52 8 true true)]=[some (Box.mk aa [int u8 aW,int u64 aX,int u64 aY,int u64
 aZ,int u64 bZ,int i64 cA,int i64 cB,slice bM bN bO] 52 8 true true),some (Box.mk b [int u8 aA,int u64 aB,int u64 aC,int u64 aD,int u64 aR,int i64 aM,int i64 aQ,slice aO
 aN aP] 52 8 true true)]/\[bool ag]=[bool ac]) ([some (Box.mk aa [int u8 aW,int u64 aX,int u64 aY,int u64 aZ,int u64 bZ,int i64 cA,int i64 cB,slice bM bN bO] 52 8 true true),some
 (Box.mk b [int u8 aA,int u64 aB,int u64 aC,int u64 aD,int u64 aR,int i64 aM,int i64 aQ,slice aO aN aP] 52 8 true true)]=[some (Box.mk aa [int u8 aW,int u64 aX,int u64 aY,int u64
 aZ,int u64 bZ,int i64 cA,int i64 cB,slice bM bN bO] 52 8 true true),some (Box.mk b [int u8 aA,int u64 aB,int u64 aC,int u64 aD,int u64 aR,int i64 aM,int i64 aQ,slice aO
 aN aP] 52 8 true true)]/\[bool false]=[bool ac])) ([some (Box.mk aa [int u8 aW,int u64 aX,int u64 aY,int u64 aZ,int u64 bZ,int i64 cA,int i64 cB,slice bM bN bO] 52 8 true true),
 some (Box.mk b [int u8 aA,int u64 aB,int u64 aC,int u64 aD,int u64 aR,int i64 aM,int i64 aQ,slice aO aN aP] 52 8 true true)]=[some (Box.mk aa [int u8 aW,int u64 aX,int u64 aY,int
 u64 aZ,int u64 bZ,int i64 cA,int i64 cB,slice bM bN bO] 52 8 true true),some (Box.mk b [int u8 aA,int u64 aB,int u64 aC,int u64 aD,int u64 aR,int i64 aM,int i64 aQ,slice aO
 aN aP] 52 8 true true)]/\[bool false]=[bool ac]))/\∃(m'':Mem),m.le m''/\m''.le ab/\R (bool ac) m'' []):CX Tryz.prog 80 #[.agg #[.int .u8 aA,.int .u64 aB,.int .u64 aC,.int .u64 aD,.int .u64 aR,.int .i64 aM,.int .i64 aQ,.slice aO aN aP],.agg #[.int .u8 aW,.int .u64 aX,.int .u64 aY,.int .u64 aZ,.int .u64 bZ,.int .i64 cA,.int .i64 cB,.slice bM bN bO]] m [] R:=
 Zad (E:=ZsO) Zak mix Tryz.func80 [.v (.agg #[.int .u8 aA,.int .u64 aB,.int .u64 aC,.int .u64 aD,.int .u64 aR,.int .i64 aM,.int .i64 aQ,.slice aO aN aP]),.v (.agg #[.int .u8 aW,.int .u64 aX,.int .u64 aY,.int .u64 aZ,.int .u64 bZ,.int .i64 cA,.int .i64 cB,.slice bM bN bO])] [] (by kernel_rfl) (Eq.mp (by kernel_rfl) h)
end Go.Proofs.YtojlhhphofhaoaaGreatDoor
namespace Go.Proofs.YtojlhhphofhaoaaGreatDoor
open Go Go.Eng Go.Rx Go.Proofs Go.RowKit
set_option maxRecDepth 100000
theorem Zh1(t:T)(m:Mem):CX Tryz.prog 94 #[t.v] m [] (λv m' _=>∃b,v=.func (.func 122) #[] #[.pointer (some ⟨b,0,none⟩)]/\m'.reads b 0 t.cs):=by
 apply ZoQ
 intro b m' hm hb
 exact⟨m',hm,Mem.le_refl _,b,rfl,hb⟩
theorem Zfr(t:T)(m:Mem)(c0b:Nat)(eA:m.reads c0b 0 t.cs)(mQ:Rep m t):IX Tryz.prog 122 [] [.pointer (some ⟨c0b,0,none⟩)] m (t.nodes.map λx=>[x.v]):=by
 apply ZkF 0 [] [] c0b 0
 intro l b m' hm hb
 have ku:=eA.mono hm
 refine⟨_,_,_,_,_,_,_,_,ku,⟨rfl,by omega,?_⟩,?_,.inr rfl⟩
 ·rw[Zdp];rfl
 refine⟨t.sl,ku 7 _ rfl,Zaa rfl ?_⟩
 refine⟨λxs _ _ m'' q=>∃i:Nat,i<=t.subs.length/\xs=[.int .i64 ((1+(ZaJ (t.subs.take i)).length:Nat):Int),.int .i64 i]/\m'.le m''/\q=t.subs.length - i,⟨t.subs.length,0,by omega,?_,Mem.le_refl _,by omega⟩,?_⟩
 ·simp[ZaJ]
 rintro y n m2 q bA ⟨i,hi,eZ,iN,hq⟩
 simp only[List.cons.injEq,Value.int.injEq,true_and,and_true]at eZ
 obtain⟨rfl,rfl⟩:=eZ
 have bT:slN t.sl=t.subs.length:=rfl
 rw[bT]
 refine Zab (λbB=>?_) (λdB=>?_)
 ·have bQ:i < t.subs.length:=by simpa using bB
  obtain⟨x,hx⟩:∃x,t.subs[i]?=some x:=⟨_,List.getElem?_eq_getElem bQ⟩
  have cP:x∈t.subs:=List.mem_of_getElem? hx
  have cE:=Zst cP
  obtain⟨oW,h0|⟨b1,o1,ha,f9⟩⟩:=Zjn mQ
  ·rw[h0]at bQ;simp at bQ
  obtain⟨dZ,eU⟩:=(f9.mono ((mLt hm iN))).get hx
  refine Zaa rfl ⟨b1,o1,ha,⟨by omega,by omega⟩,_,_,_,_,_,_,_,_,dZ,λb2=>Zaa rfl ?_⟩
  refine⟨_,trivial,Zh1 x m2,λv m' css h=>?_,?_⟩
  ·obtain⟨b3,rfl,_⟩:=h;rfl
  rintro g fi ca m3 bR ⟨b3,hv,fB⟩
  obtain⟨rfl,rfl,rfl⟩:=Zcp hv
  refine⟨_,Zfr x m3 b3 fB (eU.mono bR),λy hy=>?_,?_⟩
  ·obtain⟨z,_,rfl⟩:=List.mem_map.1 hy;exact Zqb z
  refine⟨λxs _ _ m'' q=>q<=x.nodes.length/\xs=[.int .i64 ((1+(ZaJ (t.subs.take i)).length+q:Nat):Int)]/\m3.le m'',⟨Nat.zero_le _,rfl,Mem.le_refl _⟩,?_,?_⟩
  ·rintro y n0 n1 n2 n3 n4 n5 n6 a n7 c m4 q cO hq ⟨gD,hy,_⟩ b4
   simp only[List.cons.injEq,Value.int.injEq,true_and,and_true]at hy
   subst hy
   have hq':(List.map (λz:T=>[z.v]) x.nodes)[(q:Nat)]?=some [Value.agg #[.int .u8 n0,.int .u64 n1,.int .u64 n2,.int .u64 n3,.int .u64 n4,.int .i64 n5,.int .i64 n6,.slice a n7 c]]:=hq
   rw[List.getElem?_map]at hq'
   obtain⟨z,hz,iZ⟩:=Option.map_eq_some_iff.1 hq'
   have tu:q < x.nodes.length:=(List.getElem?_eq_some_iff.1 hz).1
   refine⟨⟨rfl,by omega,?_⟩,⟨rfl,by omega,?_,cO⟩,rfl,.inr rfl⟩
   ·rw[Int.toNat_natCast]
    show(t.nodes.map λx=>[x.v])[1+(ZaJ (t.subs.take i)).length+q]?=_
    rw[List.getElem?_map,ZuA hx hz,<-iZ];rfl
   ·congr 2
  ·rintro y m4 cO ⟨gD,hy,_⟩
   simp only[List.cons.injEq,Value.int.injEq,true_and,and_true]at hy
   subst hy
   refine⟨rfl,t.subs.length - (i+1),by omega,i+1,by omega,?_,mLt iN (mLt bR cO),rfl⟩
   rw[Zal (by omega) (by omega),Zok hx,List.length_append]
   simp[T.v,Nat.add_assoc]
 ·have hi':i=t.subs.length:=by
   have:¬((i:Int) < (t.subs.length:Int)):=by simpa using dB
   omega
  subst hi'
  left
  rw[List.take_length,Zdp]
  simp
  omega
termination_by SizeOf.sizeOf t
decreasing_by exact cE
theorem ZsP(least most:Int)(m:Mem):CX Tryz.prog 207 #[.int .i64 least,.int .i64 most] m [] (Ret (.bool (Zj6 least most))):=by
 apply ZmW
 refine⟨decide (least < 0)||decide (least > 16)||(least == 1&&most == 1),?_,Zab (λh=>Zac (Mem.le_refl _) ?_) (λh=>⟨most == -1||(decide (most ≥ 1)&&decide (most<=16)&&decide (most ≥ least)),?_,Zac (Mem.le_refl _) ?_⟩)⟩
 ·simp only[Zsr];(repeat' split) <;> simp_all <;> omega
 ·simp[Ret,Zj6,h]
 ·simp only[Zsr];(repeat' split) <;> simp_all <;> omega
 ·simp[Ret,Zj6,h]
theorem ZmY(l:List T)(a:Option Addr)(c:Nat)(g:Nat)(ca:List Value)(p:T->Bool)(m:Mem)(hl:l.length<=1000000000000000)(hr:l=[]\/∃b o,a=some ⟨b,o,none⟩/\RepAt m b o l)
  (hp:∀x∈l,∀m',m.le m'->Rep m' x->CX Tryz.prog g (x.v::ca).toArray m' [] (Ret (.bool (p x)))):
  CX Tryz.prog 217 #[.slice a l.length c,.func (.func g) #[] ca.toArray] m [] (Ret (.int .i64 (if l.any p then(l.findIdx p:Nat)else(-1:Int)))):=by
 apply Zbs a l.length c g [] ca
 refine⟨λxs _ _ m'' q=>∃i:Nat,i<=l.length/\xs=[.int .i64 i]/\(∀x∈l.take i,p x=false)/\m.le m''/\q=l.length - i,⟨l.length,0,by omega,rfl,by simp,Mem.le_refl _,by omega⟩,?_⟩
 rintro n m' q hm ⟨i,hi,hn,fT,cJ,hq⟩
 obtain rfl:n=i:=by simpa using hn
 refine Zab (λbB=>?_) (λdB=>?_)
 ·have bQ:i < l.length:=by simpa using bB
  obtain⟨x,hx⟩:∃x,l[i]?=some x:=⟨_,List.getElem?_eq_getElem bQ⟩
  have cP:x∈l:=List.mem_of_getElem? hx
  rcases hr with h0|⟨b1,o1,ha,f9⟩
  ·rw[h0]at bQ;simp at bQ
  obtain⟨dZ,eU⟩:=(f9.mono hm).get hx
  refine⟨b1,o1,ha,⟨by omega,by omega⟩,_,_,_,_,_,_,_,_,dZ,Zag (hp x cP m' hm eU) λm1 aV=>Zab (λfR=>?_) (λfR=>?_)⟩
  ·refine Zac (mLt hm aV) ?_
   have fq:l.any p=true:=List.any_eq_true.2 ⟨x,cP,fR⟩
   have f4:l.findIdx p=i:=by
    rw[List.findIdx_eq bQ]
    refine⟨by rw[(List.getElem?_eq_some_iff.1 hx).2];exact fR,λj hj=>?_⟩
    exact fT _ (List.mem_of_getElem? (i:=j) (by rw[List.getElem?_take_of_lt hj];exact List.getElem?_eq_getElem (by omega)))
   simp[Ret,fq,f4]
  ·refine⟨l.length - (i+1),by omega,i+1,by omega,by rw[Zal (by omega) (by omega)];rfl,?_,mLt hm aV,rfl⟩
   intro y hy
   rw[List.take_add_one,hx]at hy
   rcases List.mem_append.1 hy with hy|hy
   ·exact fT y hy
   ·simp at hy;rw[hy];exact fR
 ·have hi':i=l.length:=by
   have:¬((i:Int) < (l.length:Int)):=by simpa using dB
   omega
  subst hi'
  refine Zac hm ?_
  have fq:l.any p=false:=by
   rw[List.any_eq_false]
   rw[List.take_length]at fT
   exact λx hx=>by simp[fT x hx]
  simp[Ret,fq]
theorem Zhr(l:List T)(a:Option Addr)(c:Nat)(g:Nat)(ca:List Value)(p:T->Bool)(m:Mem)(hl:l.length<=1000000000000000)(hr:l=[]\/∃b o,a=some ⟨b,o,none⟩/\RepAt m b o l)
  (hp:∀x∈l,∀m',m.le m'->Rep m' x->CX Tryz.prog g (x.v::ca).toArray m' [] (Ret (.bool (p x)))):
  CX Tryz.prog 211 #[.slice a l.length c,.func (.func g) #[] ca.toArray] m [] (Ret (.bool (l.any p))):=by
 apply Za9 a l.length c g [] ca
 refine Zax (ZmY l a c g ca p m hl hr hp) λm' hm=>Zac hm ?_
 cases h:l.any p <;> simp[Ret]
theorem Zws(t:T)(k:Int)(b:Nat)(m:Mem)(hb:m.reads b 0 [.int .u8 k]):CX Tryz.prog 212 #[t.v,.pointer (some ⟨b,0,none⟩)] m [] (Ret (.bool (t.k == k))):=by
 apply ZoT (c0b:=b) (c0o:=0)
 intro b' m' hm _
 exact⟨_,hm _ _ _ (hb 0 _ rfl),Zaa rfl (Zac hm rfl)⟩
theorem ZsQ(t:T)(k:Int)(m:Mem)(hr:Rep m t):CX Tryz.prog 206 #[t.v,.int .u8 k] m [] (Ret (.bool (t.has k))):=by
 apply ZsL
 intro b m1 aV _ b2 m2 bA fD
 have hr':=Zjn (hr.mono (mLt aV bA))
 exact Zag (Zhr t.subs t.a t.c _ [.pointer (some ⟨b2,0,none⟩)] (λx=>x.k == k) m2 hr'.1 hr'.2 λx _ m' hm' _=>Zws x k b2 m' (fD.mono hm')) λm3 bR=>Zac (mLt aV (mLt bA bR)) rfl
theorem ZeQ(t:T)(m:Mem)(hr:Rep m t):CX Tryz.prog 69 #[t.v] m [] (Ret (.bool t.light)):=by
 apply ZoR
 intro b m1 aV _ b2
 refine Zai (Zh1 t m1) (λv m' css h=>by obtain⟨_,rfl,_⟩:=h;rfl) ?_
 rintro g fi ca m2 bA ⟨b3,hv,fB⟩
 obtain⟨rfl,rfl,rfl⟩:=Zcp hv
 have cJ:=mLt aV bA
 refine⟨_,Zfr t m2 b3 fB (hr.mono cJ),λy hy=>?_,λ_ css _ m' q=>css=[[.int .i64 q]]/\q<=10000/\q<=t.nodes.length,⟨rfl,by omega,by omega⟩,?_,?_⟩
 ·obtain⟨z,_,rfl⟩:=List.mem_map.1 hy;exact Zqb z
 ·rintro n0 n1 n2 n3 n4 n5 n6 a n7 c cs m3 q bR hq ⟨dM,gD,_⟩
  obtain rfl:cs=[.int .i64 q]:=by simpa using dM
  have bB:q < t.nodes.length:=by
   have:=(List.getElem?_eq_some_iff.1 (show(List.map (λz:T=>[z.v]) t.nodes)[(q:Nat)]?=some _ from hq)).1
   simpa using this
  refine Zao rfl (Zaa rfl ?_)
  have hw:IntKind.i64.wrap (intOf (Value.int .i64 (q:Int))+1)=(q:Int)+1:=Zal (n:=(q:Int)+1) (by omega) (by omega)
  simp only[hw]
  refine Zab (λh=>⟨by trivial,Zac (mLt cJ bR) ?_⟩) (λh=>⟨by trivial,?_,?_,by omega⟩)
  ·have:((q:Int)+1 > 10000):=by simpa using h
   simp[Ret,T.light];omega
  ·simp
  ·have:¬((q:Int)+1 > 10000):=by simpa using h
   omega
 ·rintro cs m3 bR ⟨dM,gD,_⟩
  obtain rfl:cs=[.int .i64 t.nodes.length]:=by simpa using dM
  refine Zao rfl (Zaa rfl (Zac (mLt cJ bR) ?_))
  show Value.bool (decide ((t.nodes.length:Int)<=10000))=Value.bool t.light
  congr 1
  rw[T.light,decide_eq_decide];omega
end Go.Proofs.YtojlhhphofhaoaaGreatDoor
namespace Go.Proofs.YtojlhhphofhaoaaGreatDoor
open Go Go.Eng Go.Proofs Go.RowKit
theorem Zhs{P:Program}{T:TypeId}(hg:P.eqGuardType P.depth T=false)(op:BinOp)(ox oy:Operand)(xs ys:Array Value)(w:World):(eqGuard op T ox oy (.agg xs) (.agg ys)).run P w=.ok () w:=by
 unfold eqGuard
 have h1:(P.eqGuardType P.depth T)=true->False:=λh=>by rw[hg]at h;cases h
 split
 ·simp[go_sem];exact λh=>(h1 h).elim
 ·simp[go_sem];exact λh=>(h1 h).elim
 ·simp
theorem ZuI(a b c d a' b' c' d':Int):EqIs Tryz.prog 49 (.agg #[.int .u64 a,.int .u64 b,.int .u64 c,.int .u64 d]) (.agg #[.int .u64 a',.int .u64 b',.int .u64 c',.int .u64 d']) (a == a'&&b == b'&&c == c'&&d == d'):=by
 refine⟨λw=>?_,λop ox oy w=>Zhs (by kernel_rfl) op ox oy _ _ w⟩
 have u3:=Tryz.underlying47
 have a3:=Tryz.isAgg47
 have z3:=Tryz.sizeOf47
 rw[Op.equal,Op.maxDepth,show(10000:Nat)=9999+1 from rfl,Op.equalIn]
 simp only[Sem.run_bind,run_underlying Tryz.underlying49,Result.andThen_ok]
 simp only[Std.Legacy.Range.forIn_eq_forIn_range',Std.Legacy.Range.size,Nat.sub_zero,Nat.add_sub_cancel,Nat.div_one,List.range'_succ,List.range'_zero,List.forIn_cons,List.forIn_nil]
 go_simp
 by_cases h1:a=a' <;> by_cases h2:b=b' <;> by_cases h3:c=c' <;> by_cases h4:d=d' <;> simp[h1,h2,h3,h4]
end Go.Proofs.YtojlhhphofhaoaaGreatDoor