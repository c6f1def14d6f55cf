/- Part of the proof: functions of the program. No condition. -/
import Derived.Test.YtojlhhphofhaoaaGreatDoorPEnv
import Derived.Test.YtojlhhphofhaoaaGreatDoorMr
import Derived.Test.YtojlhhphofhaoaaGreatDoorMc
import Derived.Laws.StructEq
import Derived.Laws.Tables
import Derived.Laws.Cover2
set_option linter.unusedVariables false
set_option linter.unusedSimpArgs false
set_option linter.unusedSectionVars false
namespace Go.Proofs.YtojlhhphofhaoaaGreatDoor
open Go Go.Eng Go.Proofs Go.RowKit
open Go.Value (int slice agg bool string tuple func)
open Go.IntKind (u8 u64 i64)
set_option maxRecDepth 100000
noncomputable def Zqy:Env:={ EB with
 frzNew:=[1] }
theorem ZoX(aA aB aC aD aR aM aQ:Int)(aO:Option Addr)(aN aP:Nat)(m:Mem)(R:RT)(h:
 ∀(b:Nat)(m':Mem),Mem.le m m'->Mem.reads m' b 0 [int u8 aA,int u64 aB,int u64 aC,int u64 aD,int u64 aR,int i64 aM,int i64 aQ,slice aO aN aP]->∃(m'':Mem),Mem.le m m''/\Mem.le
 m'' m'/\R (func (Fn.func 122) (Array.mk []) (Array.mk [Value.pointer (some (Addr.mk b 0 none))])) m'' []):CX Tryz.prog 94 #[.agg #[.int .u8 aA,.int .u64 aB,.int .u64 aC,.int .u64 aD,.int .u64 aR,.int .i64 aM,.int .i64 aQ,.slice aO aN aP]] m [] R:=
 Zad (E:=Zqy) Zak mix Tryz.func94 [.v (.agg #[.int .u8 aA,.int .u64 aB,.int .u64 aC,.int .u64 aD,.int .u64 aR,.int .i64 aM,.int .i64 aQ,.slice aO aN aP])] [] (by kernel_rfl) (Eq.mp (by kernel_rfl) h)
noncomputable def Zm2:Env:={ EB with
 loops:=(λi=>bif Nat.beq i 3 then⟨[(13,.int .i64)],[],[],true⟩ else bif Nat.beq i 7 then⟨[(19,.agg [.int .u8,.int .u64,.int .u64,.int .u64,.int .u64,.int .i64,.int .i64,.slice])],[],[],true⟩ else⟨[],[],[],false⟩)
 frzNew:=[2] }
theorem ZkQ(p0g:Nat)(p0fi p0ca:List Value)(c0b c0o:Nat)(m:Mem)(xs:List (List Value))(h:
 ∀(l b:Nat)(m':Mem),Mem.le m m'->Mem.reads m' b 0 [func (Fn.yield l) (Array.mk []) (Array.mk [])]->∃(v:Value),∃(an:Value),∃(ao:Value),∃(ap:Value),∃(aq:Value),∃(ar:Value),∃(au:Value),∃
 (av:Value),Mem.reads m' c0b c0o [v,an,ao,ap,aq,ar,au,av]/\(l=l/\(0:Int)<=(0:Int)/\List.get?Internal xs (Int.toNat (0:Int))=some [agg (Array.mk [v,an,ao,ap,aq,ar,au,av])])/\(∃(v:Value),
 m' c0b (c0o+7)=some v/\chk (Zbl v) (∃(I:IT),(∃(n:Nat),I [int i64 ((0:Int)+(1:Int)),int i64 0] [] [] m' n)/\∀(y n:Int)(ai:Mem)(aw:Nat),Mem.le m' ai->I [int i64 y,int i64 n] [] [] ai aw->
 br (decide (n < (↑(slN v):Int))) (chk (Zbl v) (∃(ax:Nat),∃(o:Nat),slA v=some (Addr.mk ax o none)/\Zaf n (slN v)/\∃(v:Value),∃(aa:Value),∃(ab:Value),∃(ac:Value),∃(ad:Value),∃(ae:
 Value),∃(af:Value),∃(ag:Value),Mem.reads ai ax (o+Int.toNat n*8) [v,aa,ab,ac,ad,ae,af,ag]/\∀(aj:Nat),chk (Value.oneCell' v&&(Value.oneCell' aa&&(Value.oneCell' ab&&(Value.oneCell' ac &&
 (Value.oneCell' ad&&(Value.oneCell' ae&&(Value.oneCell' af&&(Value.oneCell' ag&&true)))))))) (∃(R:RT),True/\CX Tryz.prog 94 (Array.mk [agg (Array.mk [v,aa,ab,ac,ad,ae,af,ag])]) ai [] R/\Zap
 Shape.fn R/\∀(g:Nat)(fi ca:List Value)(m':Mem),Mem.le ai m'->R (func (Fn.func g) (Array.mk fi) (Array.mk ca)) m' []->∃(ak:List (List Value)),IX Tryz.prog g fi ca m' ak/\(∀(x:List Value),x∈ak->
 Shape.fitsL [shT] x=true)/\∃(al:IT),al [int i64 y] [] [] m' 0/\(∀(y n ay az a0 a1 a2 a3:Int)(a:Option Addr)(a4 c:Nat)(ah:Mem)(am:Nat),Mem.le m' ah->List.get?Internal ak am=some [agg (Array.mk
 [int u8 n,int u64 ay,int u64 az,int u64 a0,int u64 a1,int i64 a2,int i64 a3,slice a a4 c])]->al [int i64 y] [] [] ah am->∀(a5:Nat),(l=l/\(0:Int)<=y/\List.get?Internal xs (Int.toNat y)=some [agg
 (Array.mk [int u8 n,int u64 ay,int u64 az,int u64 a0,int u64 a1,int i64 a2,int i64 a3,slice a a4 c])])/\([some (Box.mk aj [v,aa,ab,ac,ad,ae,af,ag] 52 8 false true),some (Box.mk b [func (Fn.yield l)
 (Array.mk []) (Array.mk [])] 150 1 true true)]=[some (Box.mk aj [v,aa,ab,ac,ad,ae,af,ag] 52 8 false true),some (Box.mk b [func (Fn.yield l) (Array.mk []) (Array.mk [])] 150 1 true true)]/\al [int i64 (y+(1
 : Int))] [] [] ah (am+1))/\[some (Box.mk aj [v,aa,ab,ac,ad,ae,af,ag] 52 8 false true),some (Box.mk b [func (Fn.yield l) (Array.mk []) (Array.mk [])] 150 1 true true)]=[some (Box.mk aj [v,aa,ab,ac,ad,
 ae,af,ag] 52 8 false true),some (Box.mk b [func (Fn.yield l) (Array.mk []) (Array.mk [])] 150 1 true true)]/\((-1:Int)=(↑(List.length xs):Int)\/(-1:Int)=(-1:Int)))/\∀(y:Int)(ah:Mem),Mem.le m' ah
 -> al [int i64 y] [] [] ah (List.length ak)->[some (Box.mk b [func (Fn.yield l) (Array.mk []) (Array.mk [])] 150 1 true true)]=[some (Box.mk b [func (Fn.yield l) (Array.mk []) (Array.mk [])] 150 1 true true)]/\∃(n'
 : Nat),n' < aw/\I [int i64 y,int i64 (IntKind.wrap i64 (n+(1:Int)))] [] [] ah n'))) (y=(↑(List.length xs):Int)\/y=(-1:Int))))/\((-1:Int)=(↑(List.length xs):Int)\/(-1:Int)=(-1:Int))):IX Tryz.prog 122 [] [.pointer (some ⟨c0b,c0o,none⟩)] m xs:=
 Zg7 (E:=Zm2) Zak mix Tryz.func122 [] [.pointer (some ⟨c0b,c0o,none⟩)] xs (by kernel_rfl) (Eq.mp (by kernel_rfl) h)
noncomputable def Zqz:Env:={ EB with
 loops:=(λi=>bif Nat.beq i 3 then⟨[(6,.agg [.int .u8,.int .u64,.int .u64,.int .u64,.int .u64,.int .i64,.int .i64,.slice])],[3],[],false⟩ else⟨[],[],[],false⟩)
 frzNew:=[1] }
theorem ZoY(aA aB aC aD aR aM aQ:Int)(aO:Option Addr)(aN aP:Nat)(m:Mem)(R:RT)(h:
 ∀(b:Nat)(m':Mem),Mem.le m m'->Mem.reads m' b 0 [int u8 aA,int u64 aB,int u64 aC,int u64 aD,int u64 aR,int i64 aM,int i64 aQ,slice aO aN aP]->∀(b_1:Nat),∃(R_1:RT),True/\CX
 Tryz.prog 94 (Array.mk [agg (Array.mk [int u8 aA,int u64 aB,int u64 aC,int u64 aD,int u64 aR,int i64 aM,int i64 aQ,slice aO aN aP])]) m' [] R_1/\Zap Shape.fn R_1/\∀(g:Nat) (fi ca:
 List Value) (m'_1:Mem),Mem.le m' m'_1->R_1 (func (Fn.func g) (Array.mk fi) (Array.mk ca)) m'_1 []->∃(xs:List (List Value)),IX Tryz.prog g fi ca m'_1 xs/\(∀(x:List Value),x∈xs->Shape.fitsL [shT] x =
 true)/\∃(I:IT),I [] [[int i64 0]] [] m'_1 0/\(∀(n n_1 n_2 n_3 n_4 n_5 n_6:Int)(a:Option Addr)(n_7 c:Nat)(cs:List Value)(m':Mem)(n_8:Nat),Mem.le m'_1 m'->List.get?Internal xs n_8=some [agg
 (Array.mk [int u8 n,int u64 n_1,int u64 n_2,int u64 n_3,int u64 n_4,int i64 n_5,int i64 n_6,slice a n_7 c])]->I [] [cs] [] m' n_8->Eng.Ztz cs 0 λ(v:Value)=>chk (ZaS i64 v&&decide (i64=i64)) (br
 (decide (IntKind.wrap i64 (RowKit.intOf v+(1:Int)) > (10000:Int))) ([some (Box.mk b_1 [] 3 1 false true),some (Box.mk b [int u8 aA,int u64 aB,int u64 aC,int u64 aD,int u64 aR,int i64 aM,int i64
 aQ,slice aO aN aP] 52 8 true true)]=[some (Box.mk b_1 [] 3 1 false true),some (Box.mk b [int u8 aA,int u64 aB,int u64 aC,int u64 aD,int u64 aR,int i64 aM,int i64 aQ,slice aO aN
 aP] 52 8 true true)]/\∃(m'':Mem),Mem.le m m''/\Mem.le m'' m'/\R (bool (decide (IntKind.wrap i64 (RowKit.intOf v+(1:Int))<=(10000:Int)))) m'' []) ([some (Box.mk b_1 [] 3 1 false true),some (Box.mk b
 [int u8 aA,int u64 aB,int u64 aC,int u64 aD,int u64 aR,int i64 aM,int i64 aQ,slice aO aN aP] 52 8 true true)]=[some (Box.mk b_1 [] 3 1 false true),some (Box.mk b [int u8 aA,int u64
 aB,int u64 aC,int u64 aD,int u64 aR,int i64 aM,int i64 aQ,slice aO aN aP] 52 8 true true)]/\I [] [[int i64 (IntKind.wrap i64 (RowKit.intOf v+(1:Int)))]] [] m' (n_8+1))))/\∀(cs:List
 Value) (m':Mem),Mem.le m'_1 m'->I [] [cs] [] m' (List.length xs)->Eng.Ztz cs 0 λ(v:Value)=>chk (ZaS i64 v&&decide (i64=i64)) (∃(m'':Mem),Mem.le m m''/\Mem.le m'' m'/\R (bool (decide
 (RowKit.intOf v<=(10000:Int)))) m'' [])):CX Tryz.prog 69 #[.agg #[.int .u8 aA,.int .u64 aB,.int .u64 aC,.int .u64 aD,.int .u64 aR,.int .i64 aM,.int .i64 aQ,.slice aO aN aP]] m [] R:=
 Zad (E:=Zqz) Zak mix Tryz.func69 [.v (.agg #[.int .u8 aA,.int .u64 aB,.int .u64 aC,.int .u64 aD,.int .u64 aR,.int .i64 aM,.int .i64 aQ,.slice aO aN aP])] [] (by kernel_rfl) (Eq.mp (by kernel_rfl) h)
noncomputable def ZoZ:Env:={ EB with
 joins:=(λi=>bif Nat.beq i 1 then some [(18,.bool)]else bif Nat.beq i 3 then some [(4,.bool)]else none) }
theorem Zm3(p0 p1:Int)(m:Mem)(R:RT)(h:
 ∃(b:Bool),br (decide (p0 < (0:Int))) ([bool true]=[bool b]) (br (decide (p0 > (16:Int))) ([bool true]=[bool b]) (br (p0 == (1:Int)) ([bool (p1 == (1:Int))]=[bool b]) ([bool false]=[bool b])))/\br b
 (∃(m'':Mem),Mem.le m m''/\Mem.le m'' m/\R (bool false) m'' []) (∃(b:Bool),br (p1 == (-1:Int)) ([bool true]=[bool b]) (br (decide (p1 ≥ (1:Int))) (br (decide (p1<=(16:Int))) ([bool (decide (p1 ≥ p0))]
 = [bool b]) ([bool false]=[bool b])) ([bool false]=[bool b]))/\∃(m'':Mem),Mem.le m m''/\Mem.le m'' m/\R (bool b) m'' [])):CX Tryz.prog 207 #[.int .i64 p0,.int .i64 p1] m [] R:=
 Zad (E:=ZoZ) Zak mix Tryz.func207 [.v (.int .i64 p0),.v (.int .i64 p1)] [] (by kernel_rfl) (Eq.mp (by kernel_rfl) h)
noncomputable def ZqA:Env:={ EB with
 frzNew:=[2] }
theorem Zo0(aA aB aC aD aR aM aQ:Int)(aO:Option Addr)(aN aP c0b c0o:Nat)(m:Mem)(R:RT)(h:
 ∀(b:Nat)(m':Mem),Mem.le m m'->Mem.reads m' b 0 [int u8 aA,int u64 aB,int u64 aC,int u64 aD,int u64 aR,int i64 aM,int i64 aQ,slice aO aN aP]->∃(v:Value),m' c0b c0o=some v/\
 chk (ZaS u8 v) (∃(m'':Mem),Mem.le m m''/\Mem.le m'' m'/\R (bool (aA == RowKit.intOf v)) m'' [])):CX Tryz.prog 212 #[.agg #[.int .u8 aA,.int .u64 aB,.int .u64 aC,.int .u64 aD,.int .u64 aR,.int .i64 aM,.int .i64 aQ,.slice aO aN aP],.pointer (some ⟨c0b,c0o,none⟩)] m [] R:=
 Zad (E:=ZqA) Zak mix Tryz.func212 [.v (.agg #[.int .u8 aA,.int .u64 aB,.int .u64 aC,.int .u64 aD,.int .u64 aR,.int .i64 aM,.int .i64 aQ,.slice aO aN aP]),.v (.pointer (some ⟨c0b,c0o,none⟩))] [] (by kernel_rfl) (Eq.mp (by kernel_rfl) h)
noncomputable def Zbw:Env:={ EB with
 loops:=(λi=>bif Nat.beq i 2 then⟨[(8,.int .i64)],[],[],false⟩ else⟨[],[],[],false⟩) }
theorem Zbt(p0a:Option Addr)(p0n p0c p1g:Nat)(p1fi p1ca:List Value)(m:Mem)(R:RT)(h:
 ∃(I:IT),(∃(n:Nat),I [int i64 0] [] [] m n)/\∀(n:Int)(m':Mem)(n_1:Nat),Mem.le m m'->I [int i64 n] [] [] m' n_1->br (decide (n < (↑p0n:Int))) (∃(b:Nat),∃(o:Nat),p0a=some (Addr.mk b o none)
 /\ Zaf n p0n/\∃(v:Value),∃(v_1:Value),∃(v_2:Value),∃(v_3:Value),∃(v_4:Value),∃(v_5:Value),∃(v_6:Value),∃(v_7:Value),Mem.reads m' b (o+Int.toNat n*8) [v,v_1,v_2,v_3,v_4,v_5,
 v_6,v_7]/\∃(R_1:RT),True/\CX Tryz.prog p1g (Array.mk (List.append (List.append p1fi [agg (Array.mk [v,v_1,v_2,v_3,v_4,v_5,v_6,v_7])]) p1ca)) m' [] R_1/\Zap Shape.bool R_1/\∀(b:Bool)(m'_1:Mem),
 Mem.le m' m'_1->R_1 (bool b) m'_1 []->br b (∃(m'':Mem),Mem.le m m''/\Mem.le m'' m'_1/\R (int i64 n) m'' []) (∃(n':Nat),n' < n_1/\I [int i64 (IntKind.wrap i64 (n+(1:Int)))] [] [] m'_1 n')) (∃(m'':
 Mem),Mem.le m m''/\Mem.le m'' m'/\R (int i64 (-1:Int)) m'' [])):CX Tryz.prog 217 #[.slice p0a p0n p0c,.func (.func p1g) p1fi.toArray p1ca.toArray] m [] R:=
 Zad (E:=Zbw) Zak mix Tryz.func217 [.v (.slice p0a p0n p0c),.v (.func (.func p1g) p1fi.toArray p1ca.toArray)] [] (by kernel_rfl) (Eq.mp (by kernel_rfl) h)
noncomputable def Zbh:Env:=EB
theorem Zba(p0a:Option Addr)(p0n p0c p1g:Nat)(p1fi p1ca:List Value)(m:Mem)(R:RT)(h:
 ∃(R_1:RT),True/\CX Tryz.prog 217 (Array.mk [slice p0a p0n p0c,func (Fn.func p1g) (Array.mk p1fi) (Array.mk p1ca)]) m [] R_1/\Zap (Shape.int i64) R_1/\∀(n:Int)(m':Mem),Mem.le m m'->R_1 (int i64 n) m' []
 -> ∃(m'':Mem),Mem.le m m''/\Mem.le m'' m'/\R (bool (decide (n ≥ (0:Int)))) m'' []):CX Tryz.prog 211 #[.slice p0a p0n p0c,.func (.func p1g) p1fi.toArray p1ca.toArray] m [] R:=
 Zad (E:=Zbh) Zak mix Tryz.func211 [.v (.slice p0a p0n p0c),.v (.func (.func p1g) p1fi.toArray p1ca.toArray)] [] (by kernel_rfl) (Eq.mp (by kernel_rfl) h)
noncomputable def ZuO:Env:={ EB with
 frzNew:=[2,3] }
theorem ZsU(aA aB aC aD aR aM aQ:Int)(aO:Option Addr)(aN aP:Nat)(p1:Int)(m:Mem)(R:RT)(h:
 ∀(b:Nat)(m':Mem),Mem.le m m'->Mem.reads m' b 0 [int u8 aA,int u64 aB,int u64 aC,int u64 aD,int u64 aR,int i64 aM,int i64 aQ,slice aO aN aP]->∀(b:Nat)(m'_1:Mem),Mem.le m'
 m'_1->Mem.reads m'_1 b 0 [int u8 p1]->∃(R_1:RT),True/\CX Tryz.prog 211 (Array.mk [slice aO aN aP,func (Fn.func 212) (Array.mk []) (Array.mk [Value.pointer (some (Addr.mk b 0 none))])]) m'_1 [] R_1/\
 Zap Shape.bool R_1/\∀(b:Bool)(m':Mem),Mem.le m'_1 m'->R_1 (bool b) m' []->∃(m'':Mem),Mem.le m m''/\Mem.le m'' m'/\R (bool b) m'' []):CX Tryz.prog 206 #[.agg #[.int .u8 aA,.int .u64 aB,.int .u64 aC,.int .u64 aD,.int .u64 aR,.int .i64 aM,.int .i64 aQ,.slice aO aN aP],.int .u8 p1] m [] R:=
 Zad (E:=ZuO) Zak mix Tryz.func206 [.v (.agg #[.int .u8 aA,.int .u64 aB,.int .u64 aC,.int .u64 aD,.int .u64 aR,.int .i64 aM,.int .i64 aQ,.slice aO aN aP]),.v (.int .u8 p1)] [] (by kernel_rfl) (Eq.mp (by kernel_rfl) h)
noncomputable def ZqB:Env:={ EB with
 joins:=(λi=>bif Nat.beq i 1 then some [(37,.bool)]else bif Nat.beq i 9 then some [(2,.bool)]else bif Nat.beq i 11 then some [(2,.bool)]else bif Nat.beq i 13 then some [(2,.bool)]else bif Nat.beq i 14 then some [(2,.bool)]else none)
 frzNew:=[1] }
theorem Zo1(aA aB aC aD aR aM aQ:Int)(aO:Option Addr)(aN aP:Nat)(m:Mem)(R:RT)(h:
 ∀(b:Nat)(m':Mem),Mem.le m m'->Mem.reads m' b 0 [int u8 aA,int u64 aB,int u64 aC,int u64 aD,int u64 aR,int i64 aM,int i64 aQ,slice aO aN aP]->∃(ab:Bool),br (!aA == (2:Int))
 (∃(aa:Bool),EqIs Tryz.prog 49 (agg (Array.mk [int u64 aB,int u64 aC,int u64 aD,int u64 aR])) (agg (Array.mk [int u64 0,int u64 0,int u64 0,int u64 0])) aa/\br (!aa) ([some (Box.mk b [int u8 aA,int
 u64 aB,int u64 aC,int u64 aD,int u64 aR,int i64 aM,int i64 aQ,slice aO aN aP] 52 8 true true)]=[some (Box.mk b [int u8 aA,int u64 aB,int u64 aC,int u64 aD,int u64 aR,int i64
 aM,int i64 aQ,slice aO aN aP] 52 8 true true)]/\[bool true]=[bool ab]) (br (!aA == (5:Int)) (br (!aM == (0:Int)) ([some (Box.mk b [int u8 aA,int u64 aB,int u64 aC,int u64 aD,int u64
 aR,int i64 aM,int i64 aQ,slice aO aN aP] 52 8 true true)]=[some (Box.mk b [int u8 aA,int u64 aB,int u64 aC,int u64 aD,int u64 aR,int i64 aM,int i64 aQ,slice aO aN aP] 52
 8 true true)]/\[bool true]=[bool ab]) (br (!aQ == (0:Int)) ([some (Box.mk b [int u8 aA,int u64 aB,int u64 aC,int u64 aD,int u64 aR,int i64 aM,int i64 aQ,slice aO aN aP] 52 8 true
 true)]=[some (Box.mk b [int u8 aA,int u64 aB,int u64 aC,int u64 aD,int u64 aR,int i64 aM,int i64 aQ,slice aO aN aP] 52 8 true true)]/\[bool true]=[bool ab]) (br (decide (aA < (3:
 Int))) ([some (Box.mk b [int u8 aA,int u64 aB,int u64 aC,int u64 aD,int u64 aR,int i64 aM,int i64 aQ,slice aO aN aP] 52 8 true true)]=[some (Box.mk b [int u8 aA,int u64 aB,int u64
 aC,int u64 aD,int u64 aR,int i64 aM,int i64 aQ,slice aO aN aP] 52 8 true true)]/\[bool (decide ((↑aN:Int) > (0:Int)))]=[bool ab]) ([some (Box.mk b [int u8 aA,int u64 aB,int u64
 aC,int u64 aD,int u64 aR,int i64 aM,int i64 aQ,slice aO aN aP] 52 8 true true)]=[some (Box.mk b [int u8 aA,int u64 aB,int u64 aC,int u64 aD,int u64 aR,int i64 aM,int i64 aQ,
 slice aO aN aP] 52 8 true true)]/\[bool false]=[bool ab])))) (br (decide (aA < (3:Int))) ([some (Box.mk b [int u8 aA,int u64 aB,int u64 aC,int u64 aD,int u64 aR,int i64 aM,int i64 aQ,
 slice aO aN aP] 52 8 true true)]=[some (Box.mk b [int u8 aA,int u64 aB,int u64 aC,int u64 aD,int u64 aR,int i64 aM,int i64 aQ,slice aO aN aP] 52 8 true true)]/\[bool (decide
 ((↑aN:Int) > (0:Int)))]=[bool ab]) ([some (Box.mk b [int u8 aA,int u64 aB,int u64 aC,int u64 aD,int u64 aR,int i64 aM,int i64 aQ,slice aO aN aP] 52 8 true true)]=[some (Box.mk b
 [int u8 aA,int u64 aB,int u64 aC,int u64 aD,int u64 aR,int i64 aM,int i64 aQ,slice aO aN aP] 52 8 true true)]/\[bool false]=[bool ab])))) (br (!aA == (5:Int)) (br (!aM == (0:
 Int)) ([some (Box.mk b [int u8 aA,int u64 aB,int u64 aC,int u64 aD,int u64 aR,int i64 aM,int i64 aQ,slice aO aN aP] 52 8 true true)]=[some (Box.mk b [int u8 aA,int u64 aB,int u64
 aC,int u64 aD,int u64 aR,int i64 aM,int i64 aQ,slice aO aN aP] 52 8 true true)]/\[bool true]=[bool ab]) (br (!aQ == (0:Int)) ([some (Box.mk b [int u8 aA,int u64 aB,int u64 aC,int
 u64 aD,int u64 aR,int i64 aM,int i64 aQ,slice aO aN aP] 52 8 true true)]=[some (Box.mk b [int u8 aA,int u64 aB,int u64 aC,int u64 aD,int u64 aR,int i64 aM,int i64 aQ,slice
 aO aN aP] 52 8 true true)]/\[bool true]=[bool ab]) (br (decide (aA < (3:Int))) ([some (Box.mk b [int u8 aA,int u64 aB,int u64 aC,int u64 aD,int u64 aR,int i64 aM,int i64 aQ,slice
 aO aN aP] 52 8 true true)]=[some (Box.mk b [int u8 aA,int u64 aB,int u64 aC,int u64 aD,int u64 aR,int i64 aM,int i64 aQ,slice aO aN aP] 52 8 true true)]/\[bool (decide ((↑aN
 : Int) > (0:Int)))]=[bool ab]) ([some (Box.mk b [int u8 aA,int u64 aB,int u64 aC,int u64 aD,int u64 aR,int i64 aM,int i64 aQ,slice aO aN aP] 52 8 true true)]=[some (Box.mk b [int u8
 aA,int u64 aB,int u64 aC,int u64 aD,int u64 aR,int i64 aM,int i64 aQ,slice aO aN aP] 52 8 true true)]/\[bool false]=[bool ab])))) (br (decide (aA < (3:Int))) ([some (Box.mk b [int u8
 aA,int u64 aB,int u64 aC,int u64 aD,int u64 aR,int i64 aM,int i64 aQ,slice aO aN aP] 52 8 true true)]=[some (Box.mk b [int u8 aA,int u64 aB,int u64 aC,int u64 aD,int u64 aR,
 int i64 aM,int i64 aQ,slice aO aN aP] 52 8 true true)]/\[bool (decide ((↑aN:Int) > (0:Int)))]=[bool ab]) ([some (Box.mk b [int u8 aA,int u64 aB,int u64 aC,int u64 aD,int u64 aR,
 int i64 aM,int i64 aQ,slice aO aN aP] 52 8 true true)]=[some (Box.mk b [int u8 aA,int u64 aB,int u64 aC,int u64 aD,int u64 aR,int i64 aM,int i64 aQ,slice aO aN aP] 52 8
 true true)]/\[bool false]=[bool ab])))/\br ab (∃(m'':Mem),Mem.le m m''/\Mem.le m'' m'/\R (bool false) m'' []) (br (aA == (1:Int)) (∃(m'':Mem),Mem.le m m''/\Mem.le m'' m'/\R (bool true) m'' []) (br
 (aA == (2:Int)) (∃(b:Bool),EqIs Tryz.prog 49 (agg (Array.mk [int u64 aB,int u64 aC,int u64 aD,int u64 aR])) (agg (Array.mk [int u64 0,int u64 0,int u64 0,int u64 0])) b/\∃(m'':Mem),Mem.le m
 m''/\Mem.le m'' m'/\R (bool !b) m'' []) (br (aA == (3:Int)) (∃(aa:Bool),br (decide ((↑aN:Int) > (1:Int))) (∃(R:RT),True/\CX Tryz.prog 206 (Array.mk [agg (Array.mk [int u8 aA,int u64 aB,int
 u64 aC,int u64 aD,int u64 aR,int i64 aM,int i64 aQ,slice aO aN aP]),int u8 1]) m' [] R/\Zap Shape.bool R/\∀(ad:Bool)(ac:Mem),Mem.le m' ac->R (bool ad) ac []->br (!ad) (∃(R:RT),
 True/\CX Tryz.prog 206 (Array.mk [agg (Array.mk [int u8 aA,int u64 aB,int u64 aC,int u64 aD,int u64 aR,int i64 aM,int i64 aQ,slice aO aN aP]),int u8 3]) ac [] R/\Zap Shape.bool R/\∀
 (ae:Bool) (m':Mem),Mem.le ac m'->R (bool ae) m' []->[some (Box.mk b [int u8 aA,int u64 aB,int u64 aC,int u64 aD,int u64 aR,int i64 aM,int i64 aQ,slice aO aN aP] 52 8 true true)] =
 [some (Box.mk b [int u8 aA,int u64 aB,int u64 aC,int u64 aD,int u64 aR,int i64 aM,int i64 aQ,slice aO aN aP] 52 8 true true)]/\[bool !ae]=[bool aa]) ([some (Box.mk b [int u8 aA,int
 u64 aB,int u64 aC,int u64 aD,int u64 aR,int i64 aM,int i64 aQ,slice aO aN aP] 52 8 true true)]=[some (Box.mk b [int u8 aA,int u64 aB,int u64 aC,int u64 aD,int u64 aR,int i64
 aM,int i64 aQ,slice aO aN aP] 52 8 true true)]/\[bool false]=[bool aa])) ([some (Box.mk b [int u8 aA,int u64 aB,int u64 aC,int u64 aD,int u64 aR,int i64 aM,int i64 aQ,slice aO
 aN aP] 52 8 true true)]=[some (Box.mk b [int u8 aA,int u64 aB,int u64 aC,int u64 aD,int u64 aR,int i64 aM,int i64 aQ,slice aO aN aP] 52 8 true true)]/\[bool false]=[bool aa])/\∃
 (m'':Mem),Mem.le m m''/\Mem.le m'' m'/\R (bool aa) m'' []) (br (aA == (4:Int)) (∃(aa:Bool),br (decide ((↑aN:Int) > (1:Int))) (∃(R:RT),True/\CX Tryz.prog 206 (Array.mk [agg (Array.mk [int u8
 aA,int u64 aB,int u64 aC,int u64 aD,int u64 aR,int i64 aM,int i64 aQ,slice aO aN aP]),int u8 4]) m' [] R/\Zap Shape.bool R/\∀(ad:Bool)(ac:Mem),Mem.le m' ac->R (bool ad) ac []->
 [some (Box.mk b [int u8 aA,int u64 aB,int u64 aC,int u64 aD,int u64 aR,int i64 aM,int i64 aQ,slice aO aN aP] 52 8 true true)]=[some (Box.mk b [int u8 aA,int u64 aB,int u64 aC,int
 u64 aD,int u64 aR,int i64 aM,int i64 aQ,slice aO aN aP] 52 8 true true)]/\[bool !ad]=[bool aa]) ([some (Box.mk b [int u8 aA,int u64 aB,int u64 aC,int u64 aD,int u64 aR,int i64
 aM,int i64 aQ,slice aO aN aP] 52 8 true true)]=[some (Box.mk b [int u8 aA,int u64 aB,int u64 aC,int u64 aD,int u64 aR,int i64 aM,int i64 aQ,slice aO aN aP] 52 8 true true)]
 /\ [bool false]=[bool aa])/\∃(m'':Mem),Mem.le m m''/\Mem.le m'' m'/\R (bool aa) m'' []) (br (aA == (5:Int)) (∃(aa:Bool),br ((↑aN:Int) == (1:Int)) (∃(R:RT),True/\CX Tryz.prog 207 (Array.mk
 [int i64 aM,int i64 aQ]) m' [] R/\Zap Shape.bool R/\∀(ad:Bool)(ac:Mem),Mem.le m' ac->R (bool ad) ac []->br ad (∃(R:RT),True/\CX Tryz.prog 206 (Array.mk [agg (Array.mk [int u8 aA,int u64 aB,
 int u64 aC,int u64 aD,int u64 aR,int i64 aM,int i64 aQ,slice aO aN aP]),int u8 1]) ac [] R/\Zap Shape.bool R/\∀(ae:Bool)(m':Mem),Mem.le ac m'->R (bool ae) m' []->[some (Box.mk b [int
 u8 aA,int u64 aB,int u64 aC,int u64 aD,int u64 aR,int i64 aM,int i64 aQ,slice aO aN aP] 52 8 true true)]=[some (Box.mk b [int u8 aA,int u64 aB,int u64 aC,int u64 aD,int u64
 aR,int i64 aM,int i64 aQ,slice aO aN aP] 52 8 true true)]/\[bool !ae]=[bool aa]) ([some (Box.mk b [int u8 aA,int u64 aB,int u64 aC,int u64 aD,int u64 aR,int i64 aM,int i64 aQ,
 slice aO aN aP] 52 8 true true)]=[some (Box.mk b [int u8 aA,int u64 aB,int u64 aC,int u64 aD,int u64 aR,int i64 aM,int i64 aQ,slice aO aN aP] 52 8 true true)]/\[bool false] =
 [bool aa])) ([some (Box.mk b [int u8 aA,int u64 aB,int u64 aC,int u64 aD,int u64 aR,int i64 aM,int i64 aQ,slice aO aN aP] 52 8 true true)]=[some (Box.mk b [int u8 aA,int u64 aB,int
 u64 aC,int u64 aD,int u64 aR,int i64 aM,int i64 aQ,slice aO aN aP] 52 8 true true)]/\[bool false]=[bool aa])/\∃(m'':Mem),Mem.le m m''/\Mem.le m'' m'/\R (bool aa) m'' []) (∃(aa:Bool),
 br (aA == (6:Int)) ([some (Box.mk b [int u8 aA,int u64 aB,int u64 aC,int u64 aD,int u64 aR,int i64 aM,int i64 aQ,slice aO aN aP] 52 8 true true)]=[some (Box.mk b [int u8 aA,int u64
 aB,int u64 aC,int u64 aD,int u64 aR,int i64 aM,int i64 aQ,slice aO aN aP] 52 8 true true)]/\[bool ((↑aN:Int) == (1:Int))]=[bool aa]) ([some (Box.mk b [int u8 aA,int u64 aB,int
 u64 aC,int u64 aD,int u64 aR,int i64 aM,int i64 aQ,slice aO aN aP] 52 8 true true)]=[some (Box.mk b [int u8 aA,int u64 aB,int u64 aC,int u64 aD,int u64 aR,int i64 aM,int i64
 aQ,slice aO aN aP] 52 8 true true)]/\[bool false]=[bool aa])/\∃(m'':Mem),Mem.le m m''/\Mem.le m'' m'/\R (bool aa) m'' []))))))):CX Tryz.prog 198 #[.agg #[.int .u8 aA,.int .u64 aB,.int .u64 aC,.int .u64 aD,.int .u64 aR,.int .i64 aM,.int .i64 aQ,.slice aO aN aP]] m [] R:=
 Zad (E:=ZqB) Zak mix Tryz.func198 [.v (.agg #[.int .u8 aA,.int .u64 aB,.int .u64 aC,.int .u64 aD,.int .u64 aR,.int .i64 aM,.int .i64 aQ,.slice aO aN aP])] [] (by kernel_rfl) (Eq.mp (by kernel_rfl) h)
noncomputable def ZqC:Env:={ EB with
 loops:=(λi=>bif Nat.beq i 5 then⟨[(9,.agg [.int .u8,.int .u64,.int .u64,.int .u64,.int .u64,.int .i64,.int .i64,.slice])],[2],[],false⟩ else⟨[],[],[],false⟩)
 frzNew:=[1] }
theorem Zo2(aA aB aC aD aR aM aQ:Int)(aO:Option Addr)(aN aP:Nat)(m:Mem)(R:RT)(h:
 ∀(b:Nat)(m':Mem),Mem.le m m'->Mem.reads m' b 0 [int u8 aA,int u64 aB,int u64 aC,int u64 aD,int u64 aR,int i64 aM,int i64 aQ,slice aO aN aP]->∀(ac:Nat),∃(R_1:RT),True/\CX
 Tryz.prog 69 (Array.mk [agg (Array.mk [int u8 aA,int u64 aB,int u64 aC,int u64 aD,int u64 aR,int i64 aM,int i64 aQ,slice aO aN aP])]) m' [] R_1/\Zap Shape.bool R_1/\∀(ae:Bool) (ab:
 Mem),Mem.le m' ab->R_1 (bool ae) ab []->br (!ae) (∃(m'':Mem),Mem.le m m''/\Mem.le m'' ab/\R (bool false) m'' []) (∃(R_2:RT),True/\CX Tryz.prog 94 (Array.mk [agg (Array.mk [int u8 aA,int u64 aB,int
 u64 aC,int u64 aD,int u64 aR,int i64 aM,int i64 aQ,slice aO aN aP])]) ab [] R_2/\Zap Shape.fn R_2/\∀(g:Nat)(fi ca:List Value)(m':Mem),Mem.le ab m'->R_2 (func (Fn.func g) (Array.mk
 fi) (Array.mk ca)) m' []->∃(xs:List (List Value)),IX Tryz.prog g fi ca m' xs/\(∀(x:List Value),x∈xs->Shape.fitsL [shT] x=true)/\∃(I:IT),I [] [[bool false]] [] m' 0/\(∀(n af ag ah ai aj ak:Int) (a
 : Option Addr) (al c:Nat) (cs:List Value) (aa:Mem) (ad:Nat),Mem.le m' aa->List.get?Internal xs ad=some [agg (Array.mk [int u8 n,int u64 af,int u64 ag,int u64 ah,int u64 ai,int i64 aj,int i64 ak,slice
 a al c])]->I [] [cs] [] aa ad->∀(an:Nat),∃(R_3:RT),True/\CX Tryz.prog 198 (Array.mk [agg (Array.mk [int u8 n,int u64 af,int u64 ag,int u64 ah,int u64 ai,int i64 aj,int i64 ak,slice a al c])]) aa [] R_3
 /\ Zap Shape.bool R_3/\∀(am:Bool)(m':Mem),Mem.le aa m'->R_3 (bool am) m' []->br (!am) ([some (Box.mk ac [] 4 1 false true),some (Box.mk b [int u8 aA,int u64 aB,int u64 aC,int u64 aD,int u64 aR,
 int i64 aM,int i64 aQ,slice aO aN aP] 52 8 true true)]=[some (Box.mk ac [] 4 1 false true),some (Box.mk b [int u8 aA,int u64 aB,int u64 aC,int u64 aD,int u64 aR,int i64 aM,int i64
 aQ,slice aO aN aP] 52 8 true true)]/\∃(m'':Mem),Mem.le m m''/\Mem.le m'' m'/\R (bool false) m'' []) ([some (Box.mk ac [] 4 1 false true),some (Box.mk b [int u8 aA,int u64 aB,int u64 aC,int
 u64 aD,int u64 aR,int i64 aM,int i64 aQ,slice aO aN aP] 52 8 true true)]=[some (Box.mk ac [] 4 1 false true),some (Box.mk b [int u8 aA,int u64 aB,int u64 aC,int u64 aD,int u64 aR,
 int i64 aM,int i64 aQ,slice aO aN aP] 52 8 true true)]/\I [] [cs] [] m' (ad+1)))/\∀(cs:List Value)(aa:Mem),Mem.le m' aa->I [] [cs] [] aa (List.length xs)->∃(m'':Mem),Mem.le m m''/\Mem.le
 m'' aa/\R (bool true) m'' [])):CX Tryz.prog 180 #[.agg #[.int .u8 aA,.int .u64 aB,.int .u64 aC,.int .u64 aD,.int .u64 aR,.int .i64 aM,.int .i64 aQ,.slice aO aN aP]] m [] R:=
 Zad (E:=ZqC) Zak mix Tryz.func180 [.v (.agg #[.int .u8 aA,.int .u64 aB,.int .u64 aC,.int .u64 aD,.int .u64 aR,.int .i64 aM,.int .i64 aQ,.slice aO aN aP])] [] (by kernel_rfl) (Eq.mp (by kernel_rfl) h)
noncomputable def ZsV:Env:={ EB with
 loops:=(λi=>bif Nat.beq i 5 then⟨[(9,.agg [.int .u8,.int .u64,.int .u64,.int .u64,.int .u64,.int .i64,.int .i64,.slice])],[3],[],false⟩ else⟨[],[],[],false⟩)
 frzNew:=[1] }
theorem ZqD(aA aB aC aD aR aM aQ:Int)(aO:Option Addr)(aN aP:Nat)(m:Mem)(R:RT)(h:
 ∀(b:Nat)(m':Mem),Mem.le m m'->Mem.reads m' b 0 [int u8 aA,int u64 aB,int u64 aC,int u64 aD,int u64 aR,int i64 aM,int i64 aQ,slice aO aN aP]->∃(R_1:RT),True/\CX Tryz.prog 69
 (Array.mk [agg (Array.mk [int u8 aA,int u64 aB,int u64 aC,int u64 aD,int u64 aR,int i64 aM,int i64 aQ,slice aO aN aP])]) m' [] R_1/\Zap Shape.bool R_1/\∀(b_1:Bool)(m'_1:Mem),
 Mem.le m' m'_1->R_1 (bool b_1) m'_1 []->br (!b_1) (∃(m'':Mem),Mem.le m m''/\Mem.le m'' m'_1/\R (int i64 10001) m'' []) (∀(b_2:Nat),∃(R_2:RT),True/\CX Tryz.prog 94 (Array.mk [agg (Array.mk [int u8 aA,
 int u64 aB,int u64 aC,int u64 aD,int u64 aR,int i64 aM,int i64 aQ,slice aO aN aP])]) m'_1 [] R_2/\Zap Shape.fn R_2/\∀(g:Nat)(fi ca:List Value)(m':Mem),Mem.le m'_1 m'->R_2 (func
 (Fn.func g) (Array.mk fi) (Array.mk ca)) m' []->∃(xs:List (List Value)),IX Tryz.prog g fi ca m' xs/\(∀(x:List Value),x∈xs->Shape.fitsL [shT] x=true)/\∃(I:IT),I [] [[int i64 0]] [] m' 0/\(∀(n n_1
 n_2 n_3 n_4 n_5 n_6:Int) (a:Option Addr) (n_7 c:Nat) (cs:List Value) (m'_2:Mem) (n_8:Nat),Mem.le m' m'_2->List.get?Internal xs n_8=some [agg (Array.mk [int u8 n,int u64 n_1,int u64 n_2,int u64 n_3,
 int u64 n_4,int i64 n_5,int i64 n_6,slice a n_7 c])]->I [] [cs] [] m'_2 n_8->Eng.Ztz cs 0 λ(v:Value)=>chk (ZaS i64 v&&decide (i64=i64)) ([some (Box.mk b_2 [] 3 1 false true),some (Box.mk b [int u8
 aA,int u64 aB,int u64 aC,int u64 aD,int u64 aR,int i64 aM,int i64 aQ,slice aO aN aP] 52 8 true true)]=[some (Box.mk b_2 [] 3 1 false true),some (Box.mk b [int u8 aA,int u64 aB,int
 u64 aC,int u64 aD,int u64 aR,int i64 aM,int i64 aQ,slice aO aN aP] 52 8 true true)]/\I [] [[int i64 (IntKind.wrap i64 (RowKit.intOf v+(1:Int)))]] [] m'_2 (n_8+1)))/\∀(cs:List Value)
 (m'_2:Mem),Mem.le m' m'_2->I [] [cs] [] m'_2 (List.length xs)->Eng.Ztz cs 0 λ(v:Value)=>∃(m'':Mem),Mem.le m m''/\Mem.le m'' m'_2/\R v m'' [])):CX Tryz.prog 60 #[.agg #[.int .u8 aA,.int .u64 aB,.int .u64 aC,.int .u64 aD,.int .u64 aR,.int .i64 aM,.int .i64 aQ,.slice aO aN aP]] m [] R:=
 Zad (E:=ZsV) Zak mix Tryz.func60 [.v (.agg #[.int .u8 aA,.int .u64 aB,.int .u64 aC,.int .u64 aD,.int .u64 aR,.int .i64 aM,.int .i64 aQ,.slice aO aN aP])] [] (by kernel_rfl) (Eq.mp (by kernel_rfl) h)
noncomputable def ZiU:Env:={ EB with
 loops:=(λi=>bif Nat.beq i 5 then⟨[(3,.int .i64),(14,.int .i64)],[],[],false⟩ else⟨[],[],[],false⟩)
 frzNew:=[1] }
theorem Zhy(aA aB aC aD aR aM aQ:Int)(aO:Option Addr)(aN aP:Nat)(m:Mem)(R:RT)(h:
 ∀(b:Nat)(m':Mem),Mem.le m m'->Mem.reads m' b 0 [int u8 aA,int u64 aB,int u64 aC,int u64 aD,int u64 aR,int i64 aM,int i64 aQ,slice aO aN aP]->br (aA == (2:Int)) (∃(I:IT),(∃
 (n:Nat),I [int i64 1,int i64 0] [] [] m' n)/\∀(n ab:Int)(aa:Mem)(aj:Nat),Mem.le m' aa->I [int i64 n,int i64 ab] [] [] aa aj->br (decide (ab < (↑aN:Int))) (∃(ak:Nat),∃(o:Nat),aO=some
 (Addr.mk ak o none)/\Zaf ab aN/\∃(v:Value),∃(ac:Value),∃(ad:Value),∃(ae:Value),∃(af:Value),∃(ag:Value),∃(ah:Value),∃(ai:Value),Mem.reads aa ak (o+Int.toNat ab*8) [v,ac,ad,
 ae,af,ag,ah,ai]/\∀(am:Nat),chk (Value.oneCell' v&&(Value.oneCell' ac&&(Value.oneCell' ad&&(Value.oneCell' ae&&(Value.oneCell' af&&(Value.oneCell' ag&&(Value.oneCell' ah&&(Value.oneCell' ai &&
 true)))))))) (∃(R:RT),True/\CX Tryz.prog 199 (Array.mk [agg (Array.mk [v,ac,ad,ae,af,ag,ah,ai])]) aa [] R/\Zap (Shape.int i64) R/\∀(al:Int)(m':Mem),Mem.le aa m'->R (int i64 al) m' []->[some
 (Box.mk b [int u8 aA,int u64 aB,int u64 aC,int u64 aD,int u64 aR,int i64 aM,int i64 aQ,slice aO aN aP] 52 8 true true)]=[some (Box.mk b [int u8 aA,int u64 aB,int u64 aC,int u64
 aD,int u64 aR,int i64 aM,int i64 aQ,slice aO aN aP] 52 8 true true)]/\∃(n':Nat),n' < aj/\I [int i64 (IntKind.wrap i64 (n+al)),int i64 (IntKind.wrap i64 (ab+(1:Int)))] [] [] m' n')) (br
 (aA == (5:Int)) (br (aQ == (-1:Int)) (∃(m'':Mem),Mem.le m m''/\Mem.le m'' aa/\R (int i64 (if(10001:Int) < IntKind.wrap i64 (n*if(10001:Int) < if(1:Int) > if(0:Int) > aM then(0:Int)else
 aM then(1:Int)else if(0:Int) > aM then(0:Int)else aM then(10001:Int)else if(1:Int) > if(0:Int) > aM then(0:Int)else aM then(1:Int)else if(0:Int) > aM then(0:Int)else aM)
 then(10001:Int)else IntKind.wrap i64 (n*if(10001:Int) < if(1:Int) > if(0:Int) > aM then(0:Int)else aM then(1:Int)else if(0:Int) > aM then(0:Int)else aM then(10001:Int)else if(1
 : Int) > if(0:Int) > aM then(0:Int)else aM then(1:Int)else if(0:Int) > aM then(0:Int)else aM))) m'' []) (∃(m'':Mem),Mem.le m m''/\Mem.le m'' aa/\R (int i64 (if(10001:Int) <
 IntKind.wrap i64 (n*if(10001:Int) < if aQ > if(0:Int) > aM then(0:Int)else aM then aQ else if(0:Int) > aM then(0:Int)else aM then(10001:Int)else if aQ > if(0:Int) > aM then(0:
 Int)else aM then aQ else if(0:Int) > aM then(0:Int)else aM)then(10001:Int)else IntKind.wrap i64 (n*if(10001:Int) < if aQ > if(0:Int) > aM then(0:Int)else aM then aQ else if(0:
 Int) > aM then(0:Int)else aM then(10001:Int)else if aQ > if(0:Int) > aM then(0:Int)else aM then aQ else if(0:Int) > aM then(0:Int)else aM))) m'' [])) (∃(m'':Mem),Mem.le m m''/\
 Mem.le m'' aa/\R (int i64 (if(10001:Int) < n then(10001:Int)else n)) m'' []))) (∃(I:IT),(∃(n:Nat),I [int i64 0,int i64 0] [] [] m' n)/\∀(n ab:Int)(aa:Mem)(aj:Nat),Mem.le m' aa->I [int i64 n,
 int i64 ab] [] [] aa aj->br (decide (ab < (↑aN:Int))) (∃(ak:Nat),∃(o:Nat),aO=some (Addr.mk ak o none)/\Zaf ab aN/\∃(v:Value),∃(ac:Value),∃(ad:Value),∃(ae:Value),∃(af:
 Value),∃(ag:Value),∃(ah:Value),∃(ai:Value),Mem.reads aa ak (o+Int.toNat ab*8) [v,ac,ad,ae,af,ag,ah,ai]/\∀(am:Nat),chk (Value.oneCell' v&&(Value.oneCell' ac&&(Value.oneCell' ad &&
 (Value.oneCell' ae&&(Value.oneCell' af&&(Value.oneCell' ag&&(Value.oneCell' ah&&(Value.oneCell' ai&&true)))))))) (∃(R:RT),True/\CX Tryz.prog 199 (Array.mk [agg (Array.mk [v,ac,ad,ae,af,ag,ah,ai])])
 aa [] R/\Zap (Shape.int i64) R/\∀(al:Int)(m':Mem),Mem.le aa m'->R (int i64 al) m' []->[some (Box.mk b [int u8 aA,int u64 aB,int u64 aC,int u64 aD,int u64 aR,int i64 aM,int i64 aQ,slice
 aO aN aP] 52 8 true true)]=[some (Box.mk b [int u8 aA,int u64 aB,int u64 aC,int u64 aD,int u64 aR,int i64 aM,int i64 aQ,slice aO aN aP] 52 8 true true)]/\∃(n':Nat),n' < aj/\
 I [int i64 (IntKind.wrap i64 (n+al)),int i64 (IntKind.wrap i64 (ab+(1:Int)))] [] [] m' n')) (br (aA == (5:Int)) (br (aQ == (-1:Int)) (∃(m'':Mem),Mem.le m m''/\Mem.le m'' aa/\R (int i64 (if(10001:
 Int) < IntKind.wrap i64 (n*if(10001:Int) < if(1:Int) > if(0:Int) > aM then(0:Int)else aM then(1:Int)else if(0:Int) > aM then(0:Int)else aM then(10001:Int)else if(1:Int) > if(0:
 Int) > aM then(0:Int)else aM then(1:Int)else if(0:Int) > aM then(0:Int)else aM)then(10001:Int)else IntKind.wrap i64 (n*if(10001:Int) < if(1:Int) > if(0:Int) > aM then(0:Int)
 else aM then(1:Int)else if(0:Int) > aM then(0:Int)else aM then(10001:Int)else if(1:Int) > if(0:Int) > aM then(0:Int)else aM then(1:Int)else if(0:Int) > aM then(0:Int)else
 aM))) m'' []) (∃(m'':Mem),Mem.le m m''/\Mem.le m'' aa/\R (int i64 (if(10001:Int) < IntKind.wrap i64 (n*if(10001:Int) < if aQ > if(0:Int) > aM then(0:Int)else aM then aQ else if(0:Int) >
 aM then(0:Int)else aM then(10001:Int)else if aQ > if(0:Int) > aM then(0:Int)else aM then aQ else if(0:Int) > aM then(0:Int)else aM)then(10001:Int)else IntKind.wrap i64 (n*if
 (10001:Int) < if aQ > if(0:Int) > aM then(0:Int)else aM then aQ else if(0:Int) > aM then(0:Int)else aM then(10001:Int)else if aQ > if(0:Int) > aM then(0:Int)else aM then aQ
 else if(0:Int) > aM then(0:Int)else aM))) m'' [])) (∃(m'':Mem),Mem.le m m''/\Mem.le m'' aa/\R (int i64 (if(10001:Int) < n then(10001:Int)else n)) m'' [])))):CX Tryz.prog 199 #[.agg #[.int .u8 aA,.int .u64 aB,.int .u64 aC,.int .u64 aD,.int .u64 aR,.int .i64 aM,.int .i64 aQ,.slice aO aN aP]] m [] R:=
 Zad (E:=ZiU) Zak mix Tryz.func199 [.v (.agg #[.int .u8 aA,.int .u64 aB,.int .u64 aC,.int .u64 aD,.int .u64 aR,.int .i64 aM,.int .i64 aQ,.slice aO aN aP])] [] (by kernel_rfl) (Eq.mp (by kernel_rfl) h)
noncomputable def ZiV:Env:={ EB with
 frzNew:=[1] }
theorem Zhz(aA aB aC aD aR aM aQ:Int)(aO:Option Addr)(aN aP:Nat)(m:Mem)(R:RT)(h:
 ∀(b:Nat)(m':Mem),Mem.le m m'->Mem.reads m' b 0 [int u8 aA,int u64 aB,int u64 aC,int u64 aD,int u64 aR,int i64 aM,int i64 aQ,slice aO aN aP]->∃(R_1:RT),True/\CX Tryz.prog 69
 (Array.mk [agg (Array.mk [int u8 aA,int u64 aB,int u64 aC,int u64 aD,int u64 aR,int i64 aM,int i64 aQ,slice aO aN aP])]) m' [] R_1/\Zap Shape.bool R_1/\∀(b:Bool)(m'_1:Mem),Mem.le
 m' m'_1->R_1 (bool b) m'_1 []->br (!b) (∃(m'':Mem),Mem.le m m''/\Mem.le m'' m'_1/\R (int i64 10001) m'' []) (∃(R_2:RT),True/\CX Tryz.prog 199 (Array.mk [agg (Array.mk [int u8 aA,int u64 aB,int u64
 aC,int u64 aD,int u64 aR,int i64 aM,int i64 aQ,slice aO aN aP])]) m'_1 [] R_2/\Zap (Shape.int i64) R_2/\∀(n:Int)(m':Mem),Mem.le m'_1 m'->R_2 (int i64 n) m' []->∃(m'':Mem),Mem.le m
 m''/\Mem.le m'' m'/\R (int i64 n) m'' [])):CX Tryz.prog 181 #[.agg #[.int .u8 aA,.int .u64 aB,.int .u64 aC,.int .u64 aD,.int .u64 aR,.int .i64 aM,.int .i64 aQ,.slice aO aN aP]] m [] R:=
 Zad (E:=ZiV) Zak mix Tryz.func181 [.v (.agg #[.int .u8 aA,.int .u64 aB,.int .u64 aC,.int .u64 aD,.int .u64 aR,.int .i64 aM,.int .i64 aQ,.slice aO aN aP])] [] (by kernel_rfl) (Eq.mp (by kernel_rfl) h)
noncomputable def Zo3:Env:={ EB with
 loops:=(λi=>bif Nat.beq i 6 then⟨[(10,.agg [.int .u8,.int .u64,.int .u64,.int .u64,.int .u64,.int .i64,.int .i64,.slice])],[3],[],false⟩ else⟨[],[],[],false⟩)
 frzNew:=[1] }
theorem Zm4(aA aB aC aD aR aM aQ:Int)(aO:Option Addr)(aN aP:Nat)(m:Mem)(R:RT)(h:
 ∀(b:Nat)(m':Mem),Mem.le m m'->Mem.reads m' b 0 [int u8 aA,int u64 aB,int u64 aC,int u64 aD,int u64 aR,int i64 aM,int i64 aQ,slice aO aN aP]->∃(R_1:RT),True/\CX Tryz.prog 69
 (Array.mk [agg (Array.mk [int u8 aA,int u64 aB,int u64 aC,int u64 aD,int u64 aR,int i64 aM,int i64 aQ,slice aO aN aP])]) m' [] R_1/\Zap Shape.bool R_1/\∀(ae:Bool)(ab:Mem),Mem.le
 m' ab->R_1 (bool ae) ab []->br (!ae) (∃(m'':Mem),Mem.le m m''/\Mem.le m'' ab/\R (int i64 10001) m'' []) (∀(ac:Nat),∃(R_2:RT),True/\CX Tryz.prog 94 (Array.mk [agg (Array.mk [int u8 aA,int u64 aB,
 int u64 aC,int u64 aD,int u64 aR,int i64 aM,int i64 aQ,slice aO aN aP])]) ab [] R_2/\Zap Shape.fn R_2/\∀(g:Nat)(fi ca:List Value)(m':Mem),Mem.le ab m'->R_2 (func (Fn.func g)
 (Array.mk fi) (Array.mk ca)) m' []->∃(xs:List (List Value)),IX Tryz.prog g fi ca m' xs/\(∀(x:List Value),x∈xs->Shape.fitsL [shT] x=true)/\∃(I:IT),I [] [[int i64 0]] [] m' 0/\(∀(n af ag ah ai aj ak
 : Int) (a:Option Addr) (al c:Nat) (cs:List Value) (aa:Mem) (ad:Nat),Mem.le m' aa->List.get?Internal xs ad=some [agg (Array.mk [int u8 n,int u64 af,int u64 ag,int u64 ah,int u64 ai,int i64 aj,int i64
 ak,slice a al c])]->I [] [cs] [] aa ad->∀(am:Nat),br (n == (6:Int)) (Eng.Ztz cs 0 λ(v:Value)=>chk (ZaS i64 v&&decide (i64=i64)) ([some (Box.mk ac [] 3 1 false true),some (Box.mk b [int u8 aA,
 int u64 aB,int u64 aC,int u64 aD,int u64 aR,int i64 aM,int i64 aQ,slice aO aN aP] 52 8 true true)]=[some (Box.mk ac [] 3 1 false true),some (Box.mk b [int u8 aA,int u64 aB,int u64
 aC,int u64 aD,int u64 aR,int i64 aM,int i64 aQ,slice aO aN aP] 52 8 true true)]/\I [] [[int i64 (IntKind.wrap i64 (RowKit.intOf v+(1:Int)))]] [] aa (ad+1))) ([some (Box.mk ac [] 3 1 false
 true),some (Box.mk b [int u8 aA,int u64 aB,int u64 aC,int u64 aD,int u64 aR,int i64 aM,int i64 aQ,slice aO aN aP] 52 8 true true)]=[some (Box.mk ac [] 3 1 false true),some (Box.mk b
 [int u8 aA,int u64 aB,int u64 aC,int u64 aD,int u64 aR,int i64 aM,int i64 aQ,slice aO aN aP] 52 8 true true)]/\I [] [cs] [] aa (ad+1)))/\∀(cs:List Value)(aa:Mem),Mem.le m' aa->I
 [] [cs] [] aa (List.length xs)->Eng.Ztz cs 0 λ(v:Value)=>∃(m'':Mem),Mem.le m m''/\Mem.le m'' aa/\R v m'' [])):CX Tryz.prog 182 #[.agg #[.int .u8 aA,.int .u64 aB,.int .u64 aC,.int .u64 aD,.int .u64 aR,.int .i64 aM,.int .i64 aQ,.slice aO aN aP]] m [] R:=
 Zad (E:=Zo3) Zak mix Tryz.func182 [.v (.agg #[.int .u8 aA,.int .u64 aB,.int .u64 aC,.int .u64 aD,.int .u64 aR,.int .i64 aM,.int .i64 aQ,.slice aO aN aP])] [] (by kernel_rfl) (Eq.mp (by kernel_rfl) h)
noncomputable def ZqE:Env:={ EB with
 frzNew:=[1] }
theorem Zo4(aA aB:Bool)(aC aD aR aM aQ cK cL:Int)(gK:Option Addr)(gL gM:Nat)(m:Mem)(R:RT)(h:
 ∀(b:Nat)(m':Mem),Mem.le m m'->Mem.reads m' b 0 [bool aA,bool aB,int u8 aC,int u64 aD,int u64 aR,int u64 aM,int u64 aQ,int i64 cK,int i64 cL,slice gK gL gM]->∃(R_1:RT),
 True/\CX Tryz.prog 180 (Array.mk [agg (Array.mk [int u8 aC,int u64 aD,int u64 aR,int u64 aM,int u64 aQ,int i64 cK,int i64 cL,slice gK gL gM])]) m' [] R_1/\Zap Shape.bool R_1/\∀(b:
 Bool) (m'_1:Mem),Mem.le m' m'_1->R_1 (bool b) m'_1 []->br (!b) (∃(m'':Mem),Mem.le m m''/\Mem.le m'' m'_1/\R (int i64 80) m'' []) (∃(R_2:RT),True/\CX Tryz.prog 60 (Array.mk [agg (Array.mk [int u8 aC,
 int u64 aD,int u64 aR,int u64 aM,int u64 aQ,int i64 cK,int i64 cL,slice gK gL gM])]) m'_1 [] R_2/\Zap (Shape.int i64) R_2/\∀(n:Int)(m':Mem),Mem.le m'_1 m'->R_2 (int i64 n) m' []->
 br (decide (n > (120:Int))) (∃(m'':Mem),Mem.le m m''/\Mem.le m'' m'/\R (int i64 81) m'' []) (∃(R_3:RT),True/\CX Tryz.prog 181 (Array.mk [agg (Array.mk [int u8 aC,int u64 aD,int u64 aR,int u64 aM,
 int u64 aQ,int i64 cK,int i64 cL,slice gK gL gM])]) m' [] R_3/\Zap (Shape.int i64) R_3/\∀(n:Int)(m'_2:Mem),Mem.le m' m'_2->R_3 (int i64 n) m'_2 []->br (decide (n > (400:Int))) (∃(m'':
 Mem),Mem.le m m''/\Mem.le m'' m'_2/\R (int i64 82) m'' []) (∃(R_4:RT),True/\CX Tryz.prog 182 (Array.mk [agg (Array.mk [int u8 aC,int u64 aD,int u64 aR,int u64 aM,int u64 aQ,int i64 cK,int i64
 cL,slice gK gL gM])]) m'_2 [] R_4/\Zap (Shape.int i64) R_4/\∀(n:Int)(m':Mem),Mem.le m'_2 m'->R_4 (int i64 n) m' []->br (decide (n > (9:Int))) (∃(m'':Mem),Mem.le m m''/\Mem.le m'' m'/\R
 (int i64 83) m'' []) (∃(m'':Mem),Mem.le m m''/\Mem.le m'' m'/\R (int i64 0) m'' []))))):CX Tryz.prog 159 #[.agg #[.bool aA,.bool aB,.int .u8 aC,.int .u64 aD,.int .u64 aR,.int .u64 aM,.int .u64 aQ,.int .i64 cK,.int .i64 cL,.slice gK gL gM]] m [] R:=
 Zad (E:=ZqE) Zak mix Tryz.func159 [.v (.agg #[.bool aA,.bool aB,.int .u8 aC,.int .u64 aD,.int .u64 aR,.int .u64 aM,.int .u64 aQ,.int .i64 cK,.int .i64 cL,.slice gK gL gM])] [] (by kernel_rfl) (Eq.mp (by kernel_rfl) h)
noncomputable def ZaJ:Env:={ EB with
 loops:=(λi=>bif Nat.beq i 4 then⟨[(17,.int .i64)],[],[],false⟩ else⟨[],[],[],false⟩) }
theorem ZaG(p0a:Option Addr)(p0n p0c:Nat)(p1a:Option Addr)(p1n p1c p2g:Nat)(p2fi p2ca:List Value)(m:Mem)(R:RT)(h:
 br (!(↑p0n:Int) == (↑p1n:Int)) (∃(m'':Mem),Mem.le m m''/\Mem.le m'' m/\R (bool false) m'' []) (∃(I:IT),(∃(n:Nat),I [int i64 0] [] [] m n)/\∀(n:Int)(m':Mem)(n_1:Nat),Mem.le m m'->I [int i64
 n] [] [] m' n_1->br (decide (n < (↑p0n:Int))) (∃(b:Nat),∃(o:Nat),p0a=some (Addr.mk b o none)/\Zaf n p0n/\∃(v:Value),∃(v_1:Value),∃(v_2:Value),∃(v_3:Value),∃(v_4:Value),∃(v_5:
 Value),∃(v_6:Value),∃(v_7:Value),Mem.reads m' b (o+Int.toNat n*8) [v,v_1,v_2,v_3,v_4,v_5,v_6,v_7]/\∀(b:Nat),chk (Value.oneCell' v&&(Value.oneCell' v_1&&(Value.oneCell' v_2&&(Value.oneCell'
 v_3&&(Value.oneCell' v_4&&(Value.oneCell' v_5&&(Value.oneCell' v_6&&(Value.oneCell' v_7&&true)))))))) (∃(b:Nat),∃(o:Nat),p1a=some (Addr.mk b o none)/\Zaf n p1n/\∃(v_8:Value),∃(v_9:
 Value),∃(v_10:Value),∃(v_11:Value),∃(v_12:Value),∃(v_13:Value),∃(v_14:Value),∃(v_15:Value),Mem.reads m' b (o+Int.toNat n*8) [v_8,v_9,v_10,v_11,v_12,v_13,v_14,v_15]/\∀(b:Nat),chk
 (Value.oneCell' v_8&&(Value.oneCell' v_9&&(Value.oneCell' v_10&&(Value.oneCell' v_11&&(Value.oneCell' v_12&&(Value.oneCell' v_13&&(Value.oneCell' v_14&&(Value.oneCell' v_15&&true)))))))) (∃(R_1:RT),
 True/\CX Tryz.prog p2g (Array.mk (List.append (List.append p2fi [agg (Array.mk [v,v_1,v_2,v_3,v_4,v_5,v_6,v_7]),agg (Array.mk [v_8,v_9,v_10,v_11,v_12,v_13,v_14,v_15])]) p2ca)) m' [] R_1/\Zap Shape.bool
 R_1/\∀(b:Bool)(m'_1:Mem),Mem.le m' m'_1->R_1 (bool b) m'_1 []->br (!b) (∃(m'':Mem),Mem.le m m''/\Mem.le m'' m'_1/\R (bool false) m'' []) (∃(n':Nat),n' < n_1/\I [int i64 (IntKind.wrap i64 (n+(1:
 Int)))] [] [] m'_1 n')))) (∃(m'':Mem),Mem.le m m''/\Mem.le m'' m'/\R (bool true) m'' []))):CX Tryz.prog 133 #[.slice p0a p0n p0c,.slice p1a p1n p1c,.func (.func p2g) p2fi.toArray p2ca.toArray] m [] R:=
 Zad (E:=ZaJ) Zak mix Tryz.func133 [.v (.slice p0a p0n p0c),.v (.slice p1a p1n p1c),.v (.func (.func p2g) p2fi.toArray p2ca.toArray)] [] (by kernel_rfl) (Eq.mp (by kernel_rfl) h)
noncomputable def ZsW:Env:={ EB with
 joins:=(λi=>bif Nat.beq i 1 then some [(4,.bool)]else none)
 frzNew:=[2,3] }
theorem ZqF(aA aB aC aD aR aM aQ:Int)(aO:Option Addr)(aN aP:Nat)(aW aX aY aZ bZ cA cB:Int)(bM:Option Addr)(bN bO:Nat)(m:Mem)(R:RT)(h:
 ∀(b:Nat)(m':Mem),Mem.le m m'->Mem.reads m' b 0 [int u8 aA,int u64 aB,int u64 aC,int u64 aD,int u64 aR,int i64 aM,int i64 aQ,slice aO aN aP]->∀(aa:Nat)(ac:Mem),Mem.le m' ac->
 Mem.reads ac aa 0 [int u8 aW,int u64 aX,int u64 aY,int u64 aZ,int u64 bZ,int i64 cA,int i64 cB,slice bM bN bO]->∃(ab:Bool),br (aA == aW) (∃(ad:Bool),EqIs Tryz.prog 49 (agg
 (Array.mk [int u64 aB,int u64 aC,int u64 aD,int u64 aR])) (agg (Array.mk [int u64 aX,int u64 aY,int u64 aZ,int u64 bZ])) ad/\br ad (br (aM == cA) (br (aQ == cB) (∃(R:RT),True/\CX
 Tryz.prog 133 (Array.mk [slice aO aN aP,slice bM bN bO,func (Fn.func 111) (Array.mk []) (Array.mk [])]) ac [] R/\Zap Shape.bool R/\∀(ae:Bool)(m':Mem),Mem.le ac m'->R (bool ae) m' []->
 [some (Box.mk aa [int u8 aW,int u64 aX,int u64 aY,int u64 aZ,int u64 bZ,int i64 cA,int i64 cB,slice bM bN bO] 52 8 true true),some (Box.mk b [int u8 aA,int u64 aB,int u64 aC,int
 u64 aD,int u64 aR,int i64 aM,int i64 aQ,slice aO aN aP] 52 8 true true)]=[some (Box.mk aa [int u8 aW,int u64 aX,int u64 aY,int u64 aZ,int u64 bZ,int i64 cA,int i64 cB,slice
 bM bN bO] 52 8 true true),some (Box.mk b [int u8 aA,int u64 aB,int u64 aC,int u64 aD,int u64 aR,int i64 aM,int i64 aQ,slice aO aN aP] 52 8 true true)]/\[bool ae]=[bool ab])
 ([some (Box.mk aa [int u8 aW,int u64 aX,int u64 aY,int u64 aZ,int u64 bZ,int i64 cA,int i64 cB,slice bM bN bO] 52 8 true true),some (Box.mk b [int u8 aA,int u64 aB,int u64 aC,int
 u64 aD,int u64 aR,int i64 aM,int i64 aQ,slice aO aN aP] 52 8 true true)]=[some (Box.mk aa [int u8 aW,int u64 aX,int u64 aY,int u64 aZ,int u64 bZ,int i64 cA,int i64 cB,slice
 bM bN bO] 52 8 true true),some (Box.mk b [int u8 aA,int u64 aB,int u64 aC,int u64 aD,int u64 aR,int i64 aM,int i64 aQ,slice aO aN aP] 52 8 true true)]/\[bool false]=[bool ab]))
 ([some (Box.mk aa [int u8 aW,int u64 aX,int u64 aY,int u64 aZ,int u64 bZ,int i64 cA,int i64 cB,slice bM bN bO] 52 8 true true),some (Box.mk b [int u8 aA,int u64 aB,int u64 aC,int
 u64 aD,int u64 aR,int i64 aM,int i64 aQ,slice aO aN aP] 52 8 true true)]=[some (Box.mk aa [int u8 aW,int u64 aX,int u64 aY,int u64 aZ,int u64 bZ,int i64 cA,int i64 cB,slice
 bM bN bO] 52 8 true true),some (Box.mk b [int u8 aA,int u64 aB,int u64 aC,int u64 aD,int u64 aR,int i64 aM,int i64 aQ,slice aO aN aP] 52 8 true true)]/\[bool false]=[bool ab]))
 ([some (Box.mk aa [int u8 aW,int u64 aX,int u64 aY,int u64 aZ,int u64 bZ,int i64 cA,int i64 cB,slice bM bN bO] 52 8 true true),some (Box.mk b [int u8 aA,int u64 aB,int u64 aC,int
 u64 aD,int u64 aR,int i64 aM,int i64 aQ,slice aO aN aP] 52 8 true true)]=[some (Box.mk aa [int u8 aW,int u64 aX,int u64 aY,int u64 aZ,int u64 bZ,int i64 cA,int i64 cB,slice
 bM bN bO] 52 8 true true),some (Box.mk b [int u8 aA,int u64 aB,int u64 aC,int u64 aD,int u64 aR,int i64 aM,int i64 aQ,slice aO aN aP] 52 8 true true)]/\[bool false]=[bool ab]))
 ([some (Box.mk aa [int u8 aW,int u64 aX,int u64 aY,int u64 aZ,int u64 bZ,int i64 cA,int i64 cB,slice bM bN bO] 52 8 true true),some (Box.mk b [int u8 aA,int u64 aB,int u64 aC,int
 u64 aD,int u64 aR,int i64 aM,int i64 aQ,slice aO aN aP] 52 8 true true)]=[some (Box.mk aa [int u8 aW,int u64 aX,int u64 aY,int u64 aZ,int u64 bZ,int i64 cA,int i64 cB,slice
 bM bN bO] 52 8 true true),some (Box.mk b [int u8 aA,int u64 aB,int u64 aC,int u64 aD,int u64 aR,int i64 aM,int i64 aQ,slice aO aN aP] 52 8 true true)]/\[bool false]=[bool ab])
 /\ ∃(m'':Mem),Mem.le m m''/\Mem.le m'' ac/\R (bool ab) m'' []):CX Tryz.prog 111 #[.agg #[.int .u8 aA,.int .u64 aB,.int .u64 aC,.int .u64 aD,.int .u64 aR,.int .i64 aM,.int .i64 aQ,.slice aO aN aP],.agg #[.int .u8 aW,.int .u64 aX,.int .u64 aY,.int .u64 aZ,.int .u64 bZ,.int .i64 cA,.int .i64 cB,.slice bM bN bO]] m [] R:=
 Zad (E:=ZsW) Zak mix Tryz.func111 [.v (.agg #[.int .u8 aA,.int .u64 aB,.int .u64 aC,.int .u64 aD,.int .u64 aR,.int .i64 aM,.int .i64 aQ,.slice aO aN aP]),.v (.agg #[.int .u8 aW,.int .u64 aX,.int .u64 aY,.int .u64 aZ,.int .u64 bZ,.int .i64 cA,.int .i64 cB,.slice bM bN bO])] [] (by kernel_rfl) (Eq.mp (by kernel_rfl) h)
noncomputable def ZsX:Env:={ EB with
 joins:=(λi=>bif Nat.beq i 1 then some [(4,.bool)]else none)
 frzNew:=[2,3] }
theorem ZqG(aA aB aC aD aR aM aQ:Int)(aO:Option Addr)(aN aP:Nat)(aW aX aY aZ bZ cA cB:Int)(bM:Option Addr)(bN bO:Nat)(m:Mem)(R:RT)(h:
 ∀(b:Nat)(m':Mem),Mem.le m m'->Mem.reads m' b 0 [int u8 aA,int u64 aB,int u64 aC,int u64 aD,int u64 aR,int i64 aM,int i64 aQ,slice aO aN aP]->∀(aa:Nat)(ab:Mem),Mem.le m' ab->
 Mem.reads ab aa 0 [int u8 aW,int u64 aX,int u64 aY,int u64 aZ,int u64 bZ,int i64 cA,int i64 cB,slice bM bN bO]->∃(ac:Bool),(∃(R:RT),True/\CX Tryz.prog 69 (Array.mk [agg (Array.mk
 [int u8 aA,int u64 aB,int u64 aC,int u64 aD,int u64 aR,int i64 aM,int i64 aQ,slice aO aN aP])]) ab [] R/\Zap Shape.bool R/\∀(ae:Bool)(m':Mem),Mem.le ab m'->R (bool ae) m' []->br
 ae (∃(R:RT),True/\CX Tryz.prog 69 (Array.mk [agg (Array.mk [int u8 aW,int u64 aX,int u64 aY,int u64 aZ,int u64 bZ,int i64 cA,int i64 cB,slice bM bN bO])]) m' [] R/\Zap Shape.bool R/\
 ∀(af:Bool)(ad:Mem),Mem.le m' ad->R (bool af) ad []->br af (∃(R:RT),True/\CX Tryz.prog 111 (Array.mk [agg (Array.mk [int u8 aA,int u64 aB,int u64 aC,int u64 aD,int u64 aR,int i64 aM,int
 i64 aQ,slice aO aN aP]),agg (Array.mk [int u8 aW,int u64 aX,int u64 aY,int u64 aZ,int u64 bZ,int i64 cA,int i64 cB,slice bM bN bO])]) ad [] R/\Zap Shape.bool R/\∀(ag:
 Bool) (m':Mem),Mem.le ad m'->R (bool ag) m' []->[some (Box.mk aa [int u8 aW,int u64 aX,int u64 aY,int u64 aZ,int u64 bZ,int i64 cA,int i64 cB,slice bM bN bO] 52 8 true true),some
 (Box.mk b [int u8 aA,int u64 aB,int u64 aC,int u64 aD,int u64 aR,int i64 aM,int i64 aQ,slice aO aN aP] 52 8 true true)]=[some (Box.mk aa [int u8 aW,int u64 aX,int u64 aY,int u64
 aZ,int u64 bZ,int i64 cA,int i64 cB,slice bM bN bO] 52 8 true true),some (Box.mk b [int u8 aA,int u64 aB,int u64 aC,int u64 aD,int u64 aR,int i64 aM,int i64 aQ,slice aO
 aN aP] 52 8 true true)]/\[bool ag]=[bool ac]) ([some (Box.mk aa [int u8 aW,int u64 aX,int u64 aY,int u64 aZ,int u64 bZ,int i64 cA,int i64 cB,slice bM bN bO] 52 8 true true),some
 (Box.mk b [int u8 aA,int u64 aB,int u64 aC,int u64 aD,int u64 aR,int i64 aM,int i64 aQ,slice aO aN aP] 52 8 true true)]=[some (Box.mk aa [int u8 aW,int u64 aX,int u64 aY,int u64
 aZ,int u64 bZ,int i64 cA,int i64 cB,slice bM bN bO] 52 8 true true),some (Box.mk b [int u8 aA,int u64 aB,int u64 aC,int u64 aD,int u64 aR,int i64 aM,int i64 aQ,slice aO
 aN aP] 52 8 true true)]/\[bool false]=[bool ac])) ([some (Box.mk aa [int u8 aW,int u64 aX,int u64 aY,int u64 aZ,int u64 bZ,int i64 cA,int i64 cB,slice bM bN bO] 52 8 true true),
 some (Box.mk b [int u8 aA,int u64 aB,int u64 aC,int u64 aD,int u64 aR,int i64 aM,int i64 aQ,slice aO aN aP] 52 8 true true)]=[some (Box.mk aa [int u8 aW,int u64 aX,int u64 aY,int
 u64 aZ,int u64 bZ,int i64 cA,int i64 cB,slice bM bN bO] 52 8 true true),some (Box.mk b [int u8 aA,int u64 aB,int u64 aC,int u64 aD,int u64 aR,int i64 aM,int i64 aQ,slice aO
 aN aP] 52 8 true true)]/\[bool false]=[bool ac]))/\∃(m'':Mem),Mem.le m m''/\Mem.le m'' ab/\R (bool ac) m'' []):CX Tryz.prog 80 #[.agg #[.int .u8 aA,.int .u64 aB,.int .u64 aC,.int .u64 aD,.int .u64 aR,.int .i64 aM,.int .i64 aQ,.slice aO aN aP],.agg #[.int .u8 aW,.int .u64 aX,.int .u64 aY,.int .u64 aZ,.int .u64 bZ,.int .i64 cA,.int .i64 cB,.slice bM bN bO]] m [] R:=
 Zad (E:=ZsX) Zak mix Tryz.func80 [.v (.agg #[.int .u8 aA,.int .u64 aB,.int .u64 aC,.int .u64 aD,.int .u64 aR,.int .i64 aM,.int .i64 aQ,.slice aO aN aP]),.v (.agg #[.int .u8 aW,.int .u64 aX,.int .u64 aY,.int .u64 aZ,.int .u64 bZ,.int .i64 cA,.int .i64 cB,.slice bM bN bO])] [] (by kernel_rfl) (Eq.mp (by kernel_rfl) h)
end Go.Proofs.YtojlhhphofhaoaaGreatDoor
namespace Go.Proofs.YtojlhhphofhaoaaGreatDoor
open Go Go.Eng Go.Rx Go.Proofs Go.RowKit
set_option maxRecDepth 100000
theorem Zh7(t:T)(m:Mem):CX Tryz.prog 94 #[t.v] m [] (λv m' _=>∃b,v=.func (.func 122) #[] #[.pointer (some ⟨b,0,none⟩)]/\m'.reads b 0 t.cs):=by
 apply ZoX
 intro b m' hm hb
 exact⟨m',hm,Mem.le_refl _,b,rfl,hb⟩
theorem Zfz(t:T)(m:Mem)(c0b:Nat)(dY:m.reads c0b 0 t.cs)(mO:Rep m t):IX Tryz.prog 122 [] [.pointer (some ⟨c0b,0,none⟩)] m (t.nodes.map λx=>[x.v]):=by
 apply ZkQ 0 [] [] c0b 0
 intro l b m' hm hb
 have kA:=dY.mono hm
 refine⟨_,_,_,_,_,_,_,_,kA,⟨rfl,by omega,?_⟩,?_,.inr rfl⟩
 ·rw[Zdu];rfl
 refine⟨t.sl,kA 7 _ rfl,Zaa rfl ?_⟩
 refine⟨λxs _ _ m'' q=>∃i:Nat,i<=t.subs.length/\xs=[.int .i64 ((1+(ZaI (t.subs.take i)).length:Nat):Int),.int .i64 i]/\m'.le m''/\q=t.subs.length - i,⟨t.subs.length,0,by omega,?_,Mem.le_refl _,by omega⟩,?_⟩
 ·simp[ZaI]
 rintro y n m2 q bA ⟨i,hi,fB,iM,hq⟩
 simp only[List.cons.injEq,Value.int.injEq,true_and,and_true]at fB
 obtain⟨rfl,rfl⟩:=fB
 have bT:slN t.sl=t.subs.length:=rfl
 rw[bT]
 refine Zab (λbB=>?_) (λdF=>?_)
 ·have bQ:i < t.subs.length:=by simpa using bB
  obtain⟨x,hx⟩:∃x,t.subs[i]?=some x:=⟨_,List.getElem?_eq_getElem bQ⟩
  have cP:x∈t.subs:=List.mem_of_getElem? hx
  have cE:=ZsB cP
  obtain⟨o8,h0|⟨b1,o1,ha,f7⟩⟩:=Zjw mO
  ·rw[h0]at bQ;simp at bQ
  obtain⟨eA,eU⟩:=(f7.mono ((mLt hm iM))).get hx
  refine Zaa rfl ⟨b1,o1,ha,⟨by omega,by omega⟩,_,_,_,_,_,_,_,_,eA,λb2=>Zaa rfl ?_⟩
  refine⟨_,trivial,Zh7 x m2,λv m' css h=>?_,?_⟩
  ·obtain⟨b3,rfl,_⟩:=h;rfl
  rintro g fi ca m3 bS ⟨b3,hv,fA⟩
  obtain⟨rfl,rfl,rfl⟩:=Zcp hv
  refine⟨_,Zfz x m3 b3 fA (eU.mono bS),λy hy=>?_,?_⟩
  ·obtain⟨z,_,rfl⟩:=List.mem_map.1 hy;exact Zqn z
  refine⟨λxs _ _ m'' q=>q<=x.nodes.length/\xs=[.int .i64 ((1+(ZaI (t.subs.take i)).length+q:Nat):Int)]/\m3.le m'',⟨Nat.zero_le _,rfl,Mem.le_refl _⟩,?_,?_⟩
  ·rintro y n0 n1 n2 n3 n4 n5 n6 a n7 c m4 q cR hq ⟨gC,hy,_⟩ b4
   simp only[List.cons.injEq,Value.int.injEq,true_and,and_true]at hy
   subst hy
   have hq':(List.map (λz:T=>[z.v]) x.nodes)[(q:Nat)]?=some [Value.agg #[.int .u8 n0,.int .u64 n1,.int .u64 n2,.int .u64 n3,.int .u64 n4,.int .i64 n5,.int .i64 n6,.slice a n7 c]]:=hq
   rw[List.getElem?_map]at hq'
   obtain⟨z,hz,iX⟩:=Option.map_eq_some_iff.1 hq'
   have tf:q < x.nodes.length:=(List.getElem?_eq_some_iff.1 hz).1
   refine⟨⟨rfl,by omega,?_⟩,⟨rfl,by omega,?_,cR⟩,rfl,.inr rfl⟩
   ·rw[Int.toNat_natCast]
    show(t.nodes.map λx=>[x.v])[1+(ZaI (t.subs.take i)).length+q]?=_
    rw[List.getElem?_map,ZuF hx hz,<-iX];rfl
   ·congr 2
  ·rintro y m4 cR ⟨gC,hy,_⟩
   simp only[List.cons.injEq,Value.int.injEq,true_and,and_true]at hy
   subst hy
   refine⟨rfl,t.subs.length - (i+1),by omega,i+1,by omega,?_,mLt iM (mLt bS cR),rfl⟩
   rw[Zal (by omega) (by omega),Zot hx,List.length_append]
   simp[T.v,Nat.add_assoc]
 ·have hi':i=t.subs.length:=by
   have:¬((i:Int) < (t.subs.length:Int)):=by simpa using dF
   omega
  subst hi'
  left
  rw[List.take_length,Zdu]
  simp
  omega
termination_by SizeOf.sizeOf t
decreasing_by exact cE
theorem ZsY(least most:Int)(m:Mem):CX Tryz.prog 207 #[.int .i64 least,.int .i64 most] m [] (Ret (.bool (Zkg least most))):=by
 apply Zm3
 refine⟨decide (least < 0)||decide (least > 16)||(least == 1&&most == 1),?_,Zab (λh=>Zac (Mem.le_refl _) ?_) (λh=>⟨most == -1||(decide (most ≥ 1)&&decide (most<=16)&&decide (most ≥ least)),?_,Zac (Mem.le_refl _) ?_⟩)⟩
 ·simp only[Zsz];(repeat' split) <;> simp_all <;> omega
 ·simp[Ret,Zkg,h]
 ·simp only[Zsz];(repeat' split) <;> simp_all <;> omega
 ·simp[Ret,Zkg,h]
theorem Zm5(l:List T)(a:Option Addr)(c:Nat)(g:Nat)(ca:List Value)(p:T->Bool)(m:Mem)(hl:l.length<=1000000000000000)(hr:l=[]\/∃b o,a=some ⟨b,o,none⟩/\RepAt m b o l)
  (hp:∀x∈l,∀m',m.le m'->Rep m' x->CX Tryz.prog g (x.v::ca).toArray m' [] (Ret (.bool (p x)))):
  CX Tryz.prog 217 #[.slice a l.length c,.func (.func g) #[] ca.toArray] m [] (Ret (.int .i64 (if l.any p then(l.findIdx p:Nat)else(-1:Int)))):=by
 apply Zbt a l.length c g [] ca
 refine⟨λxs _ _ m'' q=>∃i:Nat,i<=l.length/\xs=[.int .i64 i]/\(∀x∈l.take i,p x=false)/\m.le m''/\q=l.length - i,⟨l.length,0,by omega,rfl,by simp,Mem.le_refl _,by omega⟩,?_⟩
 rintro n m' q hm ⟨i,hi,hn,fS,cJ,hq⟩
 obtain rfl:n=i:=by simpa using hn
 refine Zab (λbB=>?_) (λdF=>?_)
 ·have bQ:i < l.length:=by simpa using bB
  obtain⟨x,hx⟩:∃x,l[i]?=some x:=⟨_,List.getElem?_eq_getElem bQ⟩
  have cP:x∈l:=List.mem_of_getElem? hx
  rcases hr with h0|⟨b1,o1,ha,f7⟩
  ·rw[h0]at bQ;simp at bQ
  obtain⟨eA,eU⟩:=(f7.mono hm).get hx
  refine⟨b1,o1,ha,⟨by omega,by omega⟩,_,_,_,_,_,_,_,_,eA,Zag (hp x cP m' hm eU) λm1 aV=>Zab (λfQ=>?_) (λfQ=>?_)⟩
  ·refine Zac (mLt hm aV) ?_
   have fu:l.any p=true:=List.any_eq_true.2 ⟨x,cP,fQ⟩
   have fZ:l.findIdx p=i:=by
    rw[List.findIdx_eq bQ]
    refine⟨by rw[(List.getElem?_eq_some_iff.1 hx).2];exact fQ,λj hj=>?_⟩
    exact fS _ (List.mem_of_getElem? (i:=j) (by rw[List.getElem?_take_of_lt hj];exact List.getElem?_eq_getElem (by omega)))
   simp[Ret,fu,fZ]
  ·refine⟨l.length - (i+1),by omega,i+1,by omega,by rw[Zal (by omega) (by omega)];rfl,?_,mLt hm aV,rfl⟩
   intro y hy
   rw[List.take_add_one,hx]at hy
   rcases List.mem_append.1 hy with hy|hy
   ·exact fS y hy
   ·simp at hy;rw[hy];exact fQ
 ·have hi':i=l.length:=by
   have:¬((i:Int) < (l.length:Int)):=by simpa using dF
   omega
  subst hi'
  refine Zac hm ?_
  have fu:l.any p=false:=by
   rw[List.any_eq_false]
   rw[List.take_length]at fS
   exact λx hx=>by simp[fS x hx]
  simp[Ret,fu]
theorem ZhA(l:List T)(a:Option Addr)(c:Nat)(g:Nat)(ca:List Value)(p:T->Bool)(m:Mem)(hl:l.length<=1000000000000000)(hr:l=[]\/∃b o,a=some ⟨b,o,none⟩/\RepAt m b o l)
  (hp:∀x∈l,∀m',m.le m'->Rep m' x->CX Tryz.prog g (x.v::ca).toArray m' [] (Ret (.bool (p x)))):
  CX Tryz.prog 211 #[.slice a l.length c,.func (.func g) #[] ca.toArray] m [] (Ret (.bool (l.any p))):=by
 apply Zba a l.length c g [] ca
 refine Zav (Zm5 l a c g ca p m hl hr hp) λm' hm=>Zac hm ?_
 cases h:l.any p <;> simp[Ret]
theorem ZwA(t:T)(k:Int)(b:Nat)(m:Mem)(hb:m.reads b 0 [.int .u8 k]):CX Tryz.prog 212 #[t.v,.pointer (some ⟨b,0,none⟩)] m [] (Ret (.bool (t.k == k))):=by
 apply Zo0 (c0b:=b) (c0o:=0)
 intro b' m' hm _
 exact⟨_,hm _ _ _ (hb 0 _ rfl),Zaa rfl (Zac hm rfl)⟩
theorem ZsZ(t:T)(k:Int)(m:Mem)(hr:Rep m t):CX Tryz.prog 206 #[t.v,.int .u8 k] m [] (Ret (.bool (t.has k))):=by
 apply ZsU
 intro b m1 aV _ b2 m2 bA fD
 have hr':=Zjw (hr.mono (mLt aV bA))
 exact Zag (ZhA t.subs t.a t.c _ [.pointer (some ⟨b2,0,none⟩)] (λx=>x.k == k) m2 hr'.1 hr'.2 λx _ m' hm' _=>ZwA x k b2 m' (fD.mono hm')) λm3 bS=>Zac (mLt aV (mLt bA bS)) rfl
theorem ZeY(t:T)(m:Mem)(hr:Rep m t):CX Tryz.prog 69 #[t.v] m [] (Ret (.bool t.light)):=by
 apply ZoY
 intro b m1 aV _ b2
 refine Zaj (Zh7 t m1) (λv m' css h=>by obtain⟨_,rfl,_⟩:=h;rfl) ?_
 rintro g fi ca m2 bA ⟨b3,hv,fA⟩
 obtain⟨rfl,rfl,rfl⟩:=Zcp hv
 have cJ:=mLt aV bA
 refine⟨_,Zfz t m2 b3 fA (hr.mono cJ),λy hy=>?_,λ_ css _ m' q=>css=[[.int .i64 q]]/\q<=10000/\q<=t.nodes.length,⟨rfl,by omega,by omega⟩,?_,?_⟩
 ·obtain⟨z,_,rfl⟩:=List.mem_map.1 hy;exact Zqn z
 ·rintro n0 n1 n2 n3 n4 n5 n6 a n7 c cs m3 q bS hq ⟨dJ,gC,_⟩
  obtain rfl:cs=[.int .i64 q]:=by simpa using dJ
  have bB:q < t.nodes.length:=by
   have:=(List.getElem?_eq_some_iff.1 (show(List.map (λz:T=>[z.v]) t.nodes)[(q:Nat)]?=some _ from hq)).1
   simpa using this
  refine Zao rfl (Zaa rfl ?_)
  have hw:IntKind.i64.wrap (intOf (Value.int .i64 (q:Int))+1)=(q:Int)+1:=Zal (n:=(q:Int)+1) (by omega) (by omega)
  simp only[hw]
  refine Zab (λh=>⟨by trivial,Zac (mLt cJ bS) ?_⟩) (λh=>⟨by trivial,?_,?_,by omega⟩)
  ·have:((q:Int)+1 > 10000):=by simpa using h
   simp[Ret,T.light];omega
  ·simp
  ·have:¬((q:Int)+1 > 10000):=by simpa using h
   omega
 ·rintro cs m3 bS ⟨dJ,gC,_⟩
  obtain rfl:cs=[.int .i64 t.nodes.length]:=by simpa using dJ
  refine Zao rfl (Zaa rfl (Zac (mLt cJ bS) ?_))
  show Value.bool (decide ((t.nodes.length:Int)<=10000))=Value.bool t.light
  congr 1
  rw[T.light,decide_eq_decide];omega
end Go.Proofs.YtojlhhphofhaoaaGreatDoor
namespace Go.Proofs.YtojlhhphofhaoaaGreatDoor
open Go Go.Eng Go.Proofs Go.RowKit
theorem ZhB{P:Program}{T:TypeId}(hg:P.eqGuardType P.depth T=false)(op:BinOp)(ox oy:Operand)(xs ys:Array Value)(w:World):(eqGuard op T ox oy (.agg xs) (.agg ys)).run P w=.ok () w:=by
 unfold eqGuard
 have h1:(P.eqGuardType P.depth T)=true->False:=λh=>by rw[hg]at h;cases h
 split
 ·simp[go_sem];exact λh=>(h1 h).elim
 ·simp[go_sem];exact λh=>(h1 h).elim
 ·simp
theorem ZuP(a b c d a' b' c' d':Int):EqIs Tryz.prog 49 (.agg #[.int .u64 a,.int .u64 b,.int .u64 c,.int .u64 d]) (.agg #[.int .u64 a',.int .u64 b',.int .u64 c',.int .u64 d']) (a == a'&&b == b'&&c == c'&&d == d'):=by
 refine⟨λw=>?_,λop ox oy w=>ZhB (by kernel_rfl) op ox oy _ _ w⟩
 have u3:=Tryz.underlying47
 have a3:=Tryz.isAgg47
 have z3:=Tryz.sizeOf47
 rw[Op.equal,Op.maxDepth,show(10000:Nat)=9999+1 from rfl,Op.equalIn]
 simp only[Sem.run_bind,run_underlying Tryz.underlying49,Result.andThen_ok]
 simp only[Std.Legacy.Range.forIn_eq_forIn_range',Std.Legacy.Range.size,Nat.sub_zero,Nat.add_sub_cancel,Nat.div_one,List.range'_succ,List.range'_zero,List.forIn_cons,List.forIn_nil]
 go_simp
 by_cases h1:a=a' <;> by_cases h2:b=b' <;> by_cases h3:c=c' <;> by_cases h4:d=d' <;> simp[h1,h2,h3,h4]
end Go.Proofs.YtojlhhphofhaoaaGreatDoor