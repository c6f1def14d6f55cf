/- Part of the proof: conditions and contracts of functions of this program. No condition of its own. -/
import Derived.Test.YtgclajkldphoaaaPEnv
import Derived.Test.YtgclajkldphoaaaMr
import Derived.Test.YtgclajkldphoaaaMc
import Derived.Laws.StructEq
import Derived.Laws.Tables
import Derived.Laws.Cover2
set_option linter.unusedVariables false
namespace Go.Proofs.Ytgclajkldphoaaa
open Go Go.Eng Go.Proofs Go.RowKit
open Go.Value (int slice agg bool string tuple func)
open Go.IntKind (u8 u64 i64)
set_option maxRecDepth 100000
noncomputable def Zn7:Env:={ EB with
 frzNew:=[1] }
def Zin(aE aJ aH aI aK aD aG:Int)(aB:Option Addr)(aA aC:Nat)(m:Mem)(R:RT):Prop:=
 ∀(b:Nat)(m':Mem),Mem.le m m'->Mem.reads m' b 0 [int u8 aE,int u64 aJ,int u64 aH,int u64 aI,int u64 aK,int i64 aD,int i64 aG,slice aB aA aC]->∃(m'':Mem),Mem.le m m''/\Mem.le
 m'' m'/\R (func (Fn.func 79) (Array.mk []) (Array.mk [Value.pointer (some (Addr.mk b 0 none))])) m'' []
theorem ZmJ(aE aJ aH aI aK aD aG:Int)(aB:Option Addr)(aA aC:Nat)(m:Mem)(R:RT)(h:Zin aE aJ aH aI aK aD aG aB aA aC m R):CX Try.prog 52 #[.agg #[.int .u8 aE,.int .u64 aJ,.int .u64 aH,.int .u64 aI,.int .u64 aK,.int .i64 aD,.int .i64 aG,.slice aB aA aC]] m [] R:=
 Zak (E:=Zn7) ZaR mix Try.func52 [.v (.agg #[.int .u8 aE,.int .u64 aJ,.int .u64 aH,.int .u64 aI,.int .u64 aK,.int .i64 aD,.int .i64 aG,.slice aB aA aC])] [] (by kernel_rfl) (Eq.mp (by kernel_rfl) h)
noncomputable def ZkZ:Env:={ EB with
 loops:=(λi=>bif Nat.beq i 3 then⟨[(13,.int .i64)],[],[],true⟩ else bif Nat.beq i 7 then⟨[(19,.agg [.int .u8,.int .u64,.int .u64,.int .u64,.int .u64,.int .i64,.int .i64,.slice])],[],[],true⟩ else⟨[],[],[],false⟩)
 frzNew:=[2] }
def Zf5(p0g:Nat)(p0fi p0ca:List Value)(c0b c0o:Nat)(m:Mem)(xs:List (List Value)):Prop:=
 ∀(l b:Nat)(m':Mem),Mem.le m m'->Mem.reads m' b 0 [func (Fn.yield l) (Array.mk []) (Array.mk [])]->∃(v:Value),∃(an:Value),∃(ao:Value),∃(ap:Value),∃(aq:Value),∃(ar:Value),∃(au:Value),∃
 (av:Value),Mem.reads m' c0b c0o [v,an,ao,ap,aq,ar,au,av]/\(l=l/\(0:Int)<=(0:Int)/\List.get?Internal xs (Int.toNat (0:Int))=some [agg (Array.mk [v,an,ao,ap,aq,ar,au,av])])/\(∃(v:Value),
 m' c0b (c0o+7)=some v/\chk (ZdI v) (∃(I:IT),(∃(n:Nat),I [int i64 ((0:Int)+(1:Int)),int i64 0] [] [] m' n)/\∀(y n:Int)(ai:Mem)(aw:Nat),Mem.le m' ai->I [int i64 y,int i64 n] [] [] ai aw->
 br (decide (n < (↑(slN v):Int))) (chk (ZdI v) (∃(ax:Nat),∃(o:Nat),slA v=some (Addr.mk ax o none)/\Zag n (slN v)/\∃(v:Value),∃(aa:Value),∃(ab:Value),∃(ac:Value),∃(ad:Value),∃(ae:
 Value),∃(af:Value),∃(ag:Value),Mem.reads ai ax (o+Int.toNat n*8) [v,aa,ab,ac,ad,ae,af,ag]/\∀(aj:Nat),chk (Value.oneCell' v&&(Value.oneCell' aa&&(Value.oneCell' ab&&(Value.oneCell' ac &&
 (Value.oneCell' ad&&(Value.oneCell' ae&&(Value.oneCell' af&&(Value.oneCell' ag&&true)))))))) (∃(R:RT),True/\CX Try.prog 52 (Array.mk [agg (Array.mk [v,aa,ab,ac,ad,ae,af,ag])]) ai [] R/\ZaQ Shape.fn
 R/\∀(g:Nat)(fi ca:List Value)(m':Mem),Mem.le ai m'->R (func (Fn.func g) (Array.mk fi) (Array.mk ca)) m' []->∃(ak:List (List Value)),IX Try.prog g fi ca m' ak/\(∀(x:List Value),x∈ak->Shape.fitsL
 [shT] x=true)/\∃(al:IT),al [int i64 y] [] [] m' 0/\(∀(y n ay az a0 a1 a2 a3:Int)(a:Option Addr)(a4 c:Nat)(ah:Mem)(am:Nat),Mem.le m' ah->List.get?Internal ak am=some [agg (Array.mk [int u8 n,
 int u64 ay,int u64 az,int u64 a0,int u64 a1,int i64 a2,int i64 a3,slice a a4 c])]->al [int i64 y] [] [] ah am->∀(a5:Nat),(l=l/\(0:Int)<=y/\List.get?Internal xs (Int.toNat y)=some [agg (Array.mk [int
 u8 n,int u64 ay,int u64 az,int u64 a0,int u64 a1,int i64 a2,int i64 a3,slice a a4 c])])/\([some (Box.mk aj [v,aa,ab,ac,ad,ae,af,ag] 29 8 false true),some (Box.mk b [func (Fn.yield l) (Array.mk [])
 (Array.mk [])] 93 1 true true)]=[some (Box.mk aj [v,aa,ab,ac,ad,ae,af,ag] 29 8 false true),some (Box.mk b [func (Fn.yield l) (Array.mk []) (Array.mk [])] 93 1 true true)]/\al [int i64 (y+(1:Int))] [] []
 ah (am+1))/\[some (Box.mk aj [v,aa,ab,ac,ad,ae,af,ag] 29 8 false true),some (Box.mk b [func (Fn.yield l) (Array.mk []) (Array.mk [])] 93 1 true true)]=[some (Box.mk aj [v,aa,ab,ac,ad,ae,af,ag] 29 8
 false true),some (Box.mk b [func (Fn.yield l) (Array.mk []) (Array.mk [])] 93 1 true true)]/\((-1:Int)=(↑(List.length xs):Int)\/(-1:Int)=(-1:Int)))/\∀(y:Int)(ah:Mem),Mem.le m' ah->al [int i64 y]
 [] [] ah (List.length ak)->[some (Box.mk b [func (Fn.yield l) (Array.mk []) (Array.mk [])] 93 1 true true)]=[some (Box.mk b [func (Fn.yield l) (Array.mk []) (Array.mk [])] 93 1 true true)]/\∃(n':Nat),n' < aw/\I
 [int i64 y,int i64 (IntKind.wrap i64 (n+(1:Int)))] [] [] ah n'))) (y=(↑(List.length xs):Int)\/y=(-1:Int))))/\((-1:Int)=(↑(List.length xs):Int)\/(-1:Int)=(-1:Int))
theorem Zjp(p0g:Nat)(p0fi p0ca:List Value)(c0b c0o:Nat)(m:Mem)(xs:List (List Value))(h:Zf5 p0g p0fi p0ca c0b c0o m xs):IX Try.prog 79 [] [.pointer (some ⟨c0b,c0o,none⟩)] m xs:=
 ZpS (E:=ZkZ) ZaR mix Try.func79 [] [.pointer (some ⟨c0b,c0o,none⟩)] xs (by kernel_rfl) (Eq.mp (by kernel_rfl) h)
noncomputable def Zn8:Env:={ EB with
 loops:=(λi=>bif Nat.beq i 3 then⟨[(6,.agg [.int .u8,.int .u64,.int .u64,.int .u64,.int .u64,.int .i64,.int .i64,.slice])],[3],[],false⟩ else⟨[],[],[],false⟩)
 frzNew:=[1] }
def Zio(aE aJ aH aI aK aD aG:Int)(aB:Option Addr)(aA aC:Nat)(m:Mem)(R:RT):Prop:=
 ∀(b:Nat)(m':Mem),Mem.le m m'->Mem.reads m' b 0 [int u8 aE,int u64 aJ,int u64 aH,int u64 aI,int u64 aK,int i64 aD,int i64 aG,slice aB aA aC]->∀(b_1:Nat),∃(R_1:RT),True/\CX
 Try.prog 52 (Array.mk [agg (Array.mk [int u8 aE,int u64 aJ,int u64 aH,int u64 aI,int u64 aK,int i64 aD,int i64 aG,slice aB aA aC])]) m' [] R_1/\ZaQ Shape.fn R_1/\∀(g:Nat) (fi ca:
 List Value) (m'_1:Mem),Mem.le m' m'_1->R_1 (func (Fn.func g) (Array.mk fi) (Array.mk ca)) m'_1 []->∃(xs:List (List Value)),IX Try.prog g fi ca m'_1 xs/\(∀(x:List Value),x∈xs->Shape.fitsL [shT] x=true)
 /\ ∃(I:IT),I [] [[int i64 0]] [] m'_1 0/\(∀(n n_1 n_2 n_3 n_4 n_5 n_6:Int)(a:Option Addr)(n_7 c:Nat)(cs:List Value)(m':Mem)(n_8:Nat),Mem.le m'_1 m'->List.get?Internal xs n_8=some [agg (Array.mk
 [int u8 n,int u64 n_1,int u64 n_2,int u64 n_3,int u64 n_4,int i64 n_5,int i64 n_6,slice a n_7 c])]->I [] [cs] [] m' n_8->Eng.Zqm cs 0 λ(v:Value)=>chk (ZaS i64 v&&decide (i64=i64)) (br (decide
 (IntKind.wrap i64 (RowKit.intOf v+(1:Int)) > (10000:Int))) ([some (Box.mk b_1 [] 3 1 false true),some (Box.mk b [int u8 aE,int u64 aJ,int u64 aH,int u64 aI,int u64 aK,int i64 aD,int i64 aG,
 slice aB aA aC] 29 8 true true)]=[some (Box.mk b_1 [] 3 1 false true),some (Box.mk b [int u8 aE,int u64 aJ,int u64 aH,int u64 aI,int u64 aK,int i64 aD,int i64 aG,slice aB aA aC]
 29 8 true true)]/\∃(m'':Mem),Mem.le m m''/\Mem.le m'' m'/\R (bool (decide (IntKind.wrap i64 (RowKit.intOf v+(1:Int))<=(10000:Int)))) m'' []) ([some (Box.mk b_1 [] 3 1 false true),some (Box.mk b [int u8
 aE,int u64 aJ,int u64 aH,int u64 aI,int u64 aK,int i64 aD,int i64 aG,slice aB aA aC] 29 8 true true)]=[some (Box.mk b_1 [] 3 1 false true),some (Box.mk b [int u8 aE,int u64 aJ,int
 u64 aH,int u64 aI,int u64 aK,int i64 aD,int i64 aG,slice aB aA aC] 29 8 true true)]/\I [] [[int i64 (IntKind.wrap i64 (RowKit.intOf v+(1:Int)))]] [] m' (n_8+1))))/\∀(cs:List Value) (m'
 : Mem),Mem.le m'_1 m'->I [] [cs] [] m' (List.length xs)->Eng.Zqm cs 0 λ(v:Value)=>chk (ZaS i64 v&&decide (i64=i64)) (∃(m'':Mem),Mem.le m m''/\Mem.le m'' m'/\R (bool (decide (RowKit.intOf v <=
 (10000:Int)))) m'' [])
theorem ZmK(aE aJ aH aI aK aD aG:Int)(aB:Option Addr)(aA aC:Nat)(m:Mem)(R:RT)(h:Zio aE aJ aH aI aK aD aG aB aA aC m R):CX Try.prog 51 #[.agg #[.int .u8 aE,.int .u64 aJ,.int .u64 aH,.int .u64 aI,.int .u64 aK,.int .i64 aD,.int .i64 aG,.slice aB aA aC]] m [] R:=
 Zak (E:=Zn8) ZaR mix Try.func51 [.v (.agg #[.int .u8 aE,.int .u64 aJ,.int .u64 aH,.int .u64 aI,.int .u64 aK,.int .i64 aD,.int .i64 aG,.slice aB aA aC])] [] (by kernel_rfl) (Eq.mp (by kernel_rfl) h)
noncomputable def ZmL:Env:={ EB with
 joins:=(λi=>bif Nat.beq i 1 then some [(18,.bool)]else bif Nat.beq i 3 then some [(4,.bool)]else none) }
def ZgP(p0 p1:Int)(m:Mem)(R:RT):Prop:=
 ∃(b:Bool),br (decide (p0 < (0:Int))) ([bool true]=[bool b]) (br (decide (p0 > (16:Int))) ([bool true]=[bool b]) (br (p0 == (1:Int)) ([bool (p1 == (1:Int))]=[bool b]) ([bool false]=[bool b])))/\br b
 (∃(m'':Mem),Mem.le m m''/\Mem.le m'' m/\R (bool false) m'' []) (∃(b:Bool),br (p1 == (-1:Int)) ([bool true]=[bool b]) (br (decide (p1 ≥ (1:Int))) (br (decide (p1<=(16:Int))) ([bool (decide (p1 ≥ p0))]
 = [bool b]) ([bool false]=[bool b])) ([bool false]=[bool b]))/\∃(m'':Mem),Mem.le m m''/\Mem.le m'' m/\R (bool b) m'' [])
theorem Zk0(p0 p1:Int)(m:Mem)(R:RT)(h:ZgP p0 p1 m R):CX Try.prog 61 #[.int .i64 p0,.int .i64 p1] m [] R:=
 Zak (E:=ZmL) ZaR mix Try.func61 [.v (.int .i64 p0),.v (.int .i64 p1)] [] (by kernel_rfl) (Eq.mp (by kernel_rfl) h)
noncomputable def Zn9:Env:={ EB with
 frzNew:=[2] }
def Zip(aE aJ aH aI aK aD aG:Int)(aB:Option Addr)(aA aC c0b c0o:Nat)(m:Mem)(R:RT):Prop:=
 ∀(b:Nat)(m':Mem),Mem.le m m'->Mem.reads m' b 0 [int u8 aE,int u64 aJ,int u64 aH,int u64 aI,int u64 aK,int i64 aD,int i64 aG,slice aB aA aC]->∃(v:Value),m' c0b c0o=some v/\
 chk (ZaS u8 v) (∃(m'':Mem),Mem.le m m''/\Mem.le m'' m'/\R (bool (aE == RowKit.intOf v)) m'' [])
theorem ZmM(aE aJ aH aI aK aD aG:Int)(aB:Option Addr)(aA aC c0b c0o:Nat)(m:Mem)(R:RT)(h:Zip aE aJ aH aI aK aD aG aB aA aC c0b c0o m R):CX Try.prog 110 #[.agg #[.int .u8 aE,.int .u64 aJ,.int .u64 aH,.int .u64 aI,.int .u64 aK,.int .i64 aD,.int .i64 aG,.slice aB aA aC],.pointer (some ⟨c0b,c0o,none⟩)] m [] R:=
 Zak (E:=Zn9) ZaR mix Try.func110 [.v (.agg #[.int .u8 aE,.int .u64 aJ,.int .u64 aH,.int .u64 aI,.int .u64 aK,.int .i64 aD,.int .i64 aG,.slice aB aA aC]),.v (.pointer (some ⟨c0b,c0o,none⟩))] [] (by kernel_rfl) (Eq.mp (by kernel_rfl) h)
noncomputable def Zbp:Env:={ EB with
 loops:=(λi=>bif Nat.beq i 2 then⟨[(8,.int .i64)],[],[],false⟩ else⟨[],[],[],false⟩) }
def ZaO(p0a:Option Addr)(p0n p0c p1g:Nat)(p1fi p1ca:List Value)(m:Mem)(R:RT):Prop:=
 ∃(I:IT),(∃(n:Nat),I [int i64 0] [] [] m n)/\∀(n:Int)(m':Mem)(n_1:Nat),Mem.le m m'->I [int i64 n] [] [] m' n_1->br (decide (n < (↑p0n:Int))) (∃(b:Nat),∃(o:Nat),p0a=some (Addr.mk b o none)
 /\ Zag n p0n/\∃(v:Value),∃(v_1:Value),∃(v_2:Value),∃(v_3:Value),∃(v_4:Value),∃(v_5:Value),∃(v_6:Value),∃(v_7:Value),Mem.reads m' b (o+Int.toNat n*8) [v,v_1,v_2,v_3,v_4,v_5,
 v_6,v_7]/\∃(R_1:RT),True/\CX Try.prog p1g (Array.mk (List.append (List.append p1fi [agg (Array.mk [v,v_1,v_2,v_3,v_4,v_5,v_6,v_7])]) p1ca)) m' [] R_1/\ZaQ Shape.bool R_1/\∀(b:Bool)(m'_1:Mem),
 Mem.le m' m'_1->R_1 (bool b) m'_1 []->br b (∃(m'':Mem),Mem.le m m''/\Mem.le m'' m'_1/\R (int i64 n) m'' []) (∃(n':Nat),n' < n_1/\I [int i64 (IntKind.wrap i64 (n+(1:Int)))] [] [] m'_1 n')) (∃(m'':
 Mem),Mem.le m m''/\Mem.le m'' m'/\R (int i64 (-1:Int)) m'' [])
theorem Zbm(p0a:Option Addr)(p0n p0c p1g:Nat)(p1fi p1ca:List Value)(m:Mem)(R:RT)(h:ZaO p0a p0n p0c p1g p1fi p1ca m R):CX Try.prog 118 #[.slice p0a p0n p0c,.func (.func p1g) p1fi.toArray p1ca.toArray] m [] R:=
 Zak (E:=Zbp) ZaR mix Try.func118 [.v (.slice p0a p0n p0c),.v (.func (.func p1g) p1fi.toArray p1ca.toArray)] [] (by kernel_rfl) (Eq.mp (by kernel_rfl) h)
noncomputable def Zbh:Env:=EB
def ZaH(p0a:Option Addr)(p0n p0c p1g:Nat)(p1fi p1ca:List Value)(m:Mem)(R:RT):Prop:=
 ∃(R_1:RT),True/\CX Try.prog 118 (Array.mk [slice p0a p0n p0c,func (Fn.func p1g) (Array.mk p1fi) (Array.mk p1ca)]) m [] R_1/\ZaQ (Shape.int i64) R_1/\∀(n:Int)(m':Mem),Mem.le m m'->R_1 (int i64 n) m' []->
 ∃(m'':Mem),Mem.le m m''/\Mem.le m'' m'/\R (bool (decide (n ≥ (0:Int)))) m'' []
theorem Za8(p0a:Option Addr)(p0n p0c p1g:Nat)(p1fi p1ca:List Value)(m:Mem)(R:RT)(h:ZaH p0a p0n p0c p1g p1fi p1ca m R):CX Try.prog 109 #[.slice p0a p0n p0c,.func (.func p1g) p1fi.toArray p1ca.toArray] m [] R:=
 Zak (E:=Zbh) ZaR mix Try.func109 [.v (.slice p0a p0n p0c),.v (.func (.func p1g) p1fi.toArray p1ca.toArray)] [] (by kernel_rfl) (Eq.mp (by kernel_rfl) h)
noncomputable def ZrL:Env:={ EB with
 frzNew:=[2,3] }
def ZmN(aE aJ aH aI aK aD aG:Int)(aB:Option Addr)(aA aC:Nat)(p1:Int)(m:Mem)(R:RT):Prop:=
 ∀(b:Nat)(m':Mem),Mem.le m m'->Mem.reads m' b 0 [int u8 aE,int u64 aJ,int u64 aH,int u64 aI,int u64 aK,int i64 aD,int i64 aG,slice aB aA aC]->∀(b:Nat)(m'_1:Mem),Mem.le m'
 m'_1->Mem.reads m'_1 b 0 [int u8 p1]->∃(R_1:RT),True/\CX Try.prog 109 (Array.mk [slice aB aA aC,func (Fn.func 110) (Array.mk []) (Array.mk [Value.pointer (some (Addr.mk b 0 none))])]) m'_1 [] R_1/\ZaQ
 Shape.bool R_1/\∀(b:Bool)(m':Mem),Mem.le m'_1 m'->R_1 (bool b) m' []->∃(m'':Mem),Mem.le m m''/\Mem.le m'' m'/\R (bool b) m'' []
theorem Zp6(aE aJ aH aI aK aD aG:Int)(aB:Option Addr)(aA aC:Nat)(p1:Int)(m:Mem)(R:RT)(h:ZmN aE aJ aH aI aK aD aG aB aA aC p1 m R):CX Try.prog 95 #[.agg #[.int .u8 aE,.int .u64 aJ,.int .u64 aH,.int .u64 aI,.int .u64 aK,.int .i64 aD,.int .i64 aG,.slice aB aA aC],.int .u8 p1] m [] R:=
 Zak (E:=ZrL) ZaR mix Try.func95 [.v (.agg #[.int .u8 aE,.int .u64 aJ,.int .u64 aH,.int .u64 aI,.int .u64 aK,.int .i64 aD,.int .i64 aG,.slice aB aA aC]),.v (.int .u8 p1)] [] (by kernel_rfl) (Eq.mp (by kernel_rfl) h)
noncomputable def Zoa:Env:={ EB with
 joins:=(λi=>bif Nat.beq i 1 then some [(37,.bool)]else bif Nat.beq i 9 then some [(2,.bool)]else bif Nat.beq i 11 then some [(2,.bool)]else bif Nat.beq i 13 then some [(2,.bool)]else bif Nat.beq i 14 then some [(2,.bool)]else none)
 frzNew:=[1] }
def Ziq(aE aJ aH aI aK aD aG:Int)(aB:Option Addr)(aA aC:Nat)(m:Mem)(R:RT):Prop:=
 ∀(b:Nat)(m':Mem),Mem.le m m'->Mem.reads m' b 0 [int u8 aE,int u64 aJ,int u64 aH,int u64 aI,int u64 aK,int i64 aD,int i64 aG,slice aB aA aC]->∃(ab:Bool),br (!aE == (2:Int))
 (∃(aa:Bool),EqIs Try.prog 26 (agg (Array.mk [int u64 aJ,int u64 aH,int u64 aI,int u64 aK])) (agg (Array.mk [int u64 0,int u64 0,int u64 0,int u64 0])) aa/\br (!aa) ([some (Box.mk b [int u8 aE,int
 u64 aJ,int u64 aH,int u64 aI,int u64 aK,int i64 aD,int i64 aG,slice aB aA aC] 29 8 true true)]=[some (Box.mk b [int u8 aE,int u64 aJ,int u64 aH,int u64 aI,int u64 aK,int i64
 aD,int i64 aG,slice aB aA aC] 29 8 true true)]/\[bool true]=[bool ab]) (br (!aE == (5:Int)) (br (!aD == (0:Int)) ([some (Box.mk b [int u8 aE,int u64 aJ,int u64 aH,int u64 aI,int u64
 aK,int i64 aD,int i64 aG,slice aB aA aC] 29 8 true true)]=[some (Box.mk b [int u8 aE,int u64 aJ,int u64 aH,int u64 aI,int u64 aK,int i64 aD,int i64 aG,slice aB aA aC] 29
 8 true true)]/\[bool true]=[bool ab]) (br (!aG == (0:Int)) ([some (Box.mk b [int u8 aE,int u64 aJ,int u64 aH,int u64 aI,int u64 aK,int i64 aD,int i64 aG,slice aB aA aC] 29 8 true
 true)]=[some (Box.mk b [int u8 aE,int u64 aJ,int u64 aH,int u64 aI,int u64 aK,int i64 aD,int i64 aG,slice aB aA aC] 29 8 true true)]/\[bool true]=[bool ab]) (br (decide (aE < (3:
 Int))) ([some (Box.mk b [int u8 aE,int u64 aJ,int u64 aH,int u64 aI,int u64 aK,int i64 aD,int i64 aG,slice aB aA aC] 29 8 true true)]=[some (Box.mk b [int u8 aE,int u64 aJ,int u64
 aH,int u64 aI,int u64 aK,int i64 aD,int i64 aG,slice aB aA aC] 29 8 true true)]/\[bool (decide ((↑aA:Int) > (0:Int)))]=[bool ab]) ([some (Box.mk b [int u8 aE,int u64 aJ,int u64
 aH,int u64 aI,int u64 aK,int i64 aD,int i64 aG,slice aB aA aC] 29 8 true true)]=[some (Box.mk b [int u8 aE,int u64 aJ,int u64 aH,int u64 aI,int u64 aK,int i64 aD,int i64 aG,
 slice aB aA aC] 29 8 true true)]/\[bool false]=[bool ab])))) (br (decide (aE < (3:Int))) ([some (Box.mk b [int u8 aE,int u64 aJ,int u64 aH,int u64 aI,int u64 aK,int i64 aD,int i64 aG,
 slice aB aA aC] 29 8 true true)]=[some (Box.mk b [int u8 aE,int u64 aJ,int u64 aH,int u64 aI,int u64 aK,int i64 aD,int i64 aG,slice aB aA aC] 29 8 true true)]/\[bool (decide
 ((↑aA:Int) > (0:Int)))]=[bool ab]) ([some (Box.mk b [int u8 aE,int u64 aJ,int u64 aH,int u64 aI,int u64 aK,int i64 aD,int i64 aG,slice aB aA aC] 29 8 true true)]=[some (Box.mk b
 [int u8 aE,int u64 aJ,int u64 aH,int u64 aI,int u64 aK,int i64 aD,int i64 aG,slice aB aA aC] 29 8 true true)]/\[bool false]=[bool ab])))) (br (!aE == (5:Int)) (br (!aD == (0:
 Int)) ([some (Box.mk b [int u8 aE,int u64 aJ,int u64 aH,int u64 aI,int u64 aK,int i64 aD,int i64 aG,slice aB aA aC] 29 8 true true)]=[some (Box.mk b [int u8 aE,int u64 aJ,int u64
 aH,int u64 aI,int u64 aK,int i64 aD,int i64 aG,slice aB aA aC] 29 8 true true)]/\[bool true]=[bool ab]) (br (!aG == (0:Int)) ([some (Box.mk b [int u8 aE,int u64 aJ,int u64 aH,int
 u64 aI,int u64 aK,int i64 aD,int i64 aG,slice aB aA aC] 29 8 true true)]=[some (Box.mk b [int u8 aE,int u64 aJ,int u64 aH,int u64 aI,int u64 aK,int i64 aD,int i64 aG,slice
 aB aA aC] 29 8 true true)]/\[bool true]=[bool ab]) (br (decide (aE < (3:Int))) ([some (Box.mk b [int u8 aE,int u64 aJ,int u64 aH,int u64 aI,int u64 aK,int i64 aD,int i64 aG,slice
 aB aA aC] 29 8 true true)]=[some (Box.mk b [int u8 aE,int u64 aJ,int u64 aH,int u64 aI,int u64 aK,int i64 aD,int i64 aG,slice aB aA aC] 29 8 true true)]/\[bool (decide ((↑aA
 : Int) > (0:Int)))]=[bool ab]) ([some (Box.mk b [int u8 aE,int u64 aJ,int u64 aH,int u64 aI,int u64 aK,int i64 aD,int i64 aG,slice aB aA aC] 29 8 true true)]=[some (Box.mk b [int u8
 aE,int u64 aJ,int u64 aH,int u64 aI,int u64 aK,int i64 aD,int i64 aG,slice aB aA aC] 29 8 true true)]/\[bool false]=[bool ab])))) (br (decide (aE < (3:Int))) ([some (Box.mk b [int u8
 aE,int u64 aJ,int u64 aH,int u64 aI,int u64 aK,int i64 aD,int i64 aG,slice aB aA aC] 29 8 true true)]=[some (Box.mk b [int u8 aE,int u64 aJ,int u64 aH,int u64 aI,int u64 aK,
 int i64 aD,int i64 aG,slice aB aA aC] 29 8 true true)]/\[bool (decide ((↑aA:Int) > (0:Int)))]=[bool ab]) ([some (Box.mk b [int u8 aE,int u64 aJ,int u64 aH,int u64 aI,int u64 aK,
 int i64 aD,int i64 aG,slice aB aA aC] 29 8 true true)]=[some (Box.mk b [int u8 aE,int u64 aJ,int u64 aH,int u64 aI,int u64 aK,int i64 aD,int i64 aG,slice aB aA aC] 29 8
 true true)]/\[bool false]=[bool ab])))/\br ab (∃(m'':Mem),Mem.le m m''/\Mem.le m'' m'/\R (bool false) m'' []) (br (aE == (1:Int)) (∃(m'':Mem),Mem.le m m''/\Mem.le m'' m'/\R (bool true) m'' []) (br
 (aE == (2:Int)) (∃(b:Bool),EqIs Try.prog 26 (agg (Array.mk [int u64 aJ,int u64 aH,int u64 aI,int u64 aK])) (agg (Array.mk [int u64 0,int u64 0,int u64 0,int u64 0])) b/\∃(m'':Mem),Mem.le m m''
 /\ Mem.le m'' m'/\R (bool !b) m'' []) (br (aE == (3:Int)) (∃(aa:Bool),br (decide ((↑aA:Int) > (1:Int))) (∃(R:RT),True/\CX Try.prog 95 (Array.mk [agg (Array.mk [int u8 aE,int u64 aJ,int u64
 aH,int u64 aI,int u64 aK,int i64 aD,int i64 aG,slice aB aA aC]),int u8 1]) m' [] R/\ZaQ Shape.bool R/\∀(ad:Bool)(ac:Mem),Mem.le m' ac->R (bool ad) ac []->br (!ad) (∃(R:RT),True/\
 CX Try.prog 95 (Array.mk [agg (Array.mk [int u8 aE,int u64 aJ,int u64 aH,int u64 aI,int u64 aK,int i64 aD,int i64 aG,slice aB aA aC]),int u8 3]) ac [] R/\ZaQ Shape.bool R/\∀(ae:Bool)
 (m':Mem),Mem.le ac m'->R (bool ae) m' []->[some (Box.mk b [int u8 aE,int u64 aJ,int u64 aH,int u64 aI,int u64 aK,int i64 aD,int i64 aG,slice aB aA aC] 29 8 true true)]=[some (Box.mk
 b [int u8 aE,int u64 aJ,int u64 aH,int u64 aI,int u64 aK,int i64 aD,int i64 aG,slice aB aA aC] 29 8 true true)]/\[bool !ae]=[bool aa]) ([some (Box.mk b [int u8 aE,int u64 aJ,int
 u64 aH,int u64 aI,int u64 aK,int i64 aD,int i64 aG,slice aB aA aC] 29 8 true true)]=[some (Box.mk b [int u8 aE,int u64 aJ,int u64 aH,int u64 aI,int u64 aK,int i64 aD,int i64
 aG,slice aB aA aC] 29 8 true true)]/\[bool false]=[bool aa])) ([some (Box.mk b [int u8 aE,int u64 aJ,int u64 aH,int u64 aI,int u64 aK,int i64 aD,int i64 aG,slice aB aA aC] 29
 8 true true)]=[some (Box.mk b [int u8 aE,int u64 aJ,int u64 aH,int u64 aI,int u64 aK,int i64 aD,int i64 aG,slice aB aA aC] 29 8 true true)]/\[bool false]=[bool aa])/\∃(m'':Mem),
 Mem.le m m''/\Mem.le m'' m'/\R (bool aa) m'' []) (br (aE == (4:Int)) (∃(aa:Bool),br (decide ((↑aA:Int) > (1:Int))) (∃(R:RT),True/\CX Try.prog 95 (Array.mk [agg (Array.mk [int u8 aE,int u64 aJ,
 int u64 aH,int u64 aI,int u64 aK,int i64 aD,int i64 aG,slice aB aA aC]),int u8 4]) m' [] R/\ZaQ Shape.bool R/\∀(ad:Bool)(ac:Mem),Mem.le m' ac->R (bool ad) ac []->[some (Box.mk b [int
 u8 aE,int u64 aJ,int u64 aH,int u64 aI,int u64 aK,int i64 aD,int i64 aG,slice aB aA aC] 29 8 true true)]=[some (Box.mk b [int u8 aE,int u64 aJ,int u64 aH,int u64 aI,int u64
 aK,int i64 aD,int i64 aG,slice aB aA aC] 29 8 true true)]/\[bool !ad]=[bool aa]) ([some (Box.mk b [int u8 aE,int u64 aJ,int u64 aH,int u64 aI,int u64 aK,int i64 aD,int i64 aG,
 slice aB aA aC] 29 8 true true)]=[some (Box.mk b [int u8 aE,int u64 aJ,int u64 aH,int u64 aI,int u64 aK,int i64 aD,int i64 aG,slice aB aA aC] 29 8 true true)]/\[bool false] =
 [bool aa])/\∃(m'':Mem),Mem.le m m''/\Mem.le m'' m'/\R (bool aa) m'' []) (br (aE == (5:Int)) (∃(aa:Bool),br ((↑aA:Int) == (1:Int)) (∃(R:RT),True/\CX Try.prog 61 (Array.mk [int i64 aD,int i64
 aG]) m' [] R/\ZaQ Shape.bool R/\∀(ad:Bool)(ac:Mem),Mem.le m' ac->R (bool ad) ac []->br ad (∃(R:RT),True/\CX Try.prog 95 (Array.mk [agg (Array.mk [int u8 aE,int u64 aJ,int u64 aH,int u64 aI,
 int u64 aK,int i64 aD,int i64 aG,slice aB aA aC]),int u8 1]) ac [] R/\ZaQ Shape.bool R/\∀(ae:Bool)(m':Mem),Mem.le ac m'->R (bool ae) m' []->[some (Box.mk b [int u8 aE,int u64 aJ,int
 u64 aH,int u64 aI,int u64 aK,int i64 aD,int i64 aG,slice aB aA aC] 29 8 true true)]=[some (Box.mk b [int u8 aE,int u64 aJ,int u64 aH,int u64 aI,int u64 aK,int i64 aD,int i64
 aG,slice aB aA aC] 29 8 true true)]/\[bool !ae]=[bool aa]) ([some (Box.mk b [int u8 aE,int u64 aJ,int u64 aH,int u64 aI,int u64 aK,int i64 aD,int i64 aG,slice aB aA aC] 29 8
 true true)]=[some (Box.mk b [int u8 aE,int u64 aJ,int u64 aH,int u64 aI,int u64 aK,int i64 aD,int i64 aG,slice aB aA aC] 29 8 true true)]/\[bool false]=[bool aa])) ([some (Box.mk b
 [int u8 aE,int u64 aJ,int u64 aH,int u64 aI,int u64 aK,int i64 aD,int i64 aG,slice aB aA aC] 29 8 true true)]=[some (Box.mk b [int u8 aE,int u64 aJ,int u64 aH,int u64 aI,int
 u64 aK,int i64 aD,int i64 aG,slice aB aA aC] 29 8 true true)]/\[bool false]=[bool aa])/\∃(m'':Mem),Mem.le m m''/\Mem.le m'' m'/\R (bool aa) m'' []) (∃(aa:Bool),br (aE == (6:Int))
 ([some (Box.mk b [int u8 aE,int u64 aJ,int u64 aH,int u64 aI,int u64 aK,int i64 aD,int i64 aG,slice aB aA aC] 29 8 true true)]=[some (Box.mk b [int u8 aE,int u64 aJ,int u64 aH,
 int u64 aI,int u64 aK,int i64 aD,int i64 aG,slice aB aA aC] 29 8 true true)]/\[bool ((↑aA:Int) == (1:Int))]=[bool aa]) ([some (Box.mk b [int u8 aE,int u64 aJ,int u64 aH,int u64
 aI,int u64 aK,int i64 aD,int i64 aG,slice aB aA aC] 29 8 true true)]=[some (Box.mk b [int u8 aE,int u64 aJ,int u64 aH,int u64 aI,int u64 aK,int i64 aD,int i64 aG,slice aB
 aA aC] 29 8 true true)]/\[bool false]=[bool aa])/\∃(m'':Mem),Mem.le m m''/\Mem.le m'' m'/\R (bool aa) m'' []))))))
theorem ZmO(aE aJ aH aI aK aD aG:Int)(aB:Option Addr)(aA aC:Nat)(m:Mem)(R:RT)(h:Ziq aE aJ aH aI aK aD aG aB aA aC m R):CX Try.prog 77 #[.agg #[.int .u8 aE,.int .u64 aJ,.int .u64 aH,.int .u64 aI,.int .u64 aK,.int .i64 aD,.int .i64 aG,.slice aB aA aC]] m [] R:=
 Zak (E:=Zoa) ZaR mix Try.func77 [.v (.agg #[.int .u8 aE,.int .u64 aJ,.int .u64 aH,.int .u64 aI,.int .u64 aK,.int .i64 aD,.int .i64 aG,.slice aB aA aC])] [] (by kernel_rfl) (Eq.mp (by kernel_rfl) h)
noncomputable def Zob:Env:={ EB with
 loops:=(λi=>bif Nat.beq i 5 then⟨[(9,.agg [.int .u8,.int .u64,.int .u64,.int .u64,.int .u64,.int .i64,.int .i64,.slice])],[2],[],false⟩ else⟨[],[],[],false⟩)
 frzNew:=[1] }
def Zir(aE aJ aH aI aK aD aG:Int)(aB:Option Addr)(aA aC:Nat)(m:Mem)(R:RT):Prop:=
 ∀(b:Nat)(m':Mem),Mem.le m m'->Mem.reads m' b 0 [int u8 aE,int u64 aJ,int u64 aH,int u64 aI,int u64 aK,int i64 aD,int i64 aG,slice aB aA aC]->∀(ac:Nat),∃(R_1:RT),True/\CX
 Try.prog 51 (Array.mk [agg (Array.mk [int u8 aE,int u64 aJ,int u64 aH,int u64 aI,int u64 aK,int i64 aD,int i64 aG,slice aB aA aC])]) m' [] R_1/\ZaQ Shape.bool R_1/\∀(ae:Bool) (ab:
 Mem),Mem.le m' ab->R_1 (bool ae) ab []->br (!ae) (∃(m'':Mem),Mem.le m m''/\Mem.le m'' ab/\R (bool false) m'' []) (∃(R_2:RT),True/\CX Try.prog 52 (Array.mk [agg (Array.mk [int u8 aE,int u64 aJ,int u64
 aH,int u64 aI,int u64 aK,int i64 aD,int i64 aG,slice aB aA aC])]) ab [] R_2/\ZaQ Shape.fn R_2/\∀(g:Nat)(fi ca:List Value)(m':Mem),Mem.le ab m'->R_2 (func (Fn.func g) (Array.mk fi)
 (Array.mk ca)) m' []->∃(xs:List (List Value)),IX Try.prog g fi ca m' xs/\(∀(x:List Value),x∈xs->Shape.fitsL [shT] x=true)/\∃(I:IT),I [] [[bool false]] [] m' 0/\(∀(n af ag ah ai aj ak:Int) (a:
 Option Addr) (al c:Nat) (cs:List Value) (aa:Mem) (ad:Nat),Mem.le m' aa->List.get?Internal xs ad=some [agg (Array.mk [int u8 n,int u64 af,int u64 ag,int u64 ah,int u64 ai,int i64 aj,int i64 ak,slice a
 al c])]->I [] [cs] [] aa ad->∀(an:Nat),∃(R_3:RT),True/\CX Try.prog 77 (Array.mk [agg (Array.mk [int u8 n,int u64 af,int u64 ag,int u64 ah,int u64 ai,int i64 aj,int i64 ak,slice a al c])]) aa [] R_3/\
 ZaQ Shape.bool R_3/\∀(am:Bool)(m':Mem),Mem.le aa m'->R_3 (bool am) m' []->br (!am) ([some (Box.mk ac [] 4 1 false true),some (Box.mk b [int u8 aE,int u64 aJ,int u64 aH,int u64 aI,int u64 aK,
 int i64 aD,int i64 aG,slice aB aA aC] 29 8 true true)]=[some (Box.mk ac [] 4 1 false true),some (Box.mk b [int u8 aE,int u64 aJ,int u64 aH,int u64 aI,int u64 aK,int i64 aD,int i64
 aG,slice aB aA aC] 29 8 true true)]/\∃(m'':Mem),Mem.le m m''/\Mem.le m'' m'/\R (bool false) m'' []) ([some (Box.mk ac [] 4 1 false true),some (Box.mk b [int u8 aE,int u64 aJ,int u64 aH,int
 u64 aI,int u64 aK,int i64 aD,int i64 aG,slice aB aA aC] 29 8 true true)]=[some (Box.mk ac [] 4 1 false true),some (Box.mk b [int u8 aE,int u64 aJ,int u64 aH,int u64 aI,int u64 aK,
 int i64 aD,int i64 aG,slice aB aA aC] 29 8 true true)]/\I [] [cs] [] m' (ad+1)))/\∀(cs:List Value)(aa:Mem),Mem.le m' aa->I [] [cs] [] aa (List.length xs)->∃(m'':Mem),Mem.le m m''/\Mem.le
 m'' aa/\R (bool true) m'' [])
theorem ZmP(aE aJ aH aI aK aD aG:Int)(aB:Option Addr)(aA aC:Nat)(m:Mem)(R:RT)(h:Zir aE aJ aH aI aK aD aG aB aA aC m R):CX Try.prog 48 #[.agg #[.int .u8 aE,.int .u64 aJ,.int .u64 aH,.int .u64 aI,.int .u64 aK,.int .i64 aD,.int .i64 aG,.slice aB aA aC]] m [] R:=
 Zak (E:=Zob) ZaR mix Try.func48 [.v (.agg #[.int .u8 aE,.int .u64 aJ,.int .u64 aH,.int .u64 aI,.int .u64 aK,.int .i64 aD,.int .i64 aG,.slice aB aA aC])] [] (by kernel_rfl) (Eq.mp (by kernel_rfl) h)
noncomputable def Zp7:Env:={ EB with
 loops:=(λi=>bif Nat.beq i 5 then⟨[(9,.agg [.int .u8,.int .u64,.int .u64,.int .u64,.int .u64,.int .i64,.int .i64,.slice])],[3],[],false⟩ else⟨[],[],[],false⟩)
 frzNew:=[1] }
def Zkp(aE aJ aH aI aK aD aG:Int)(aB:Option Addr)(aA aC:Nat)(m:Mem)(R:RT):Prop:=
 ∀(b:Nat)(m':Mem),Mem.le m m'->Mem.reads m' b 0 [int u8 aE,int u64 aJ,int u64 aH,int u64 aI,int u64 aK,int i64 aD,int i64 aG,slice aB aA aC]->∃(R_1:RT),True/\CX Try.prog 51
 (Array.mk [agg (Array.mk [int u8 aE,int u64 aJ,int u64 aH,int u64 aI,int u64 aK,int i64 aD,int i64 aG,slice aB aA aC])]) m' [] R_1/\ZaQ Shape.bool R_1/\∀(b_1:Bool)(m'_1:Mem),
 Mem.le m' m'_1->R_1 (bool b_1) m'_1 []->br (!b_1) (∃(m'':Mem),Mem.le m m''/\Mem.le m'' m'_1/\R (int i64 10001) m'' []) (∀(b_2:Nat),∃(R_2:RT),True/\CX Try.prog 52 (Array.mk [agg (Array.mk [int u8 aE,
 int u64 aJ,int u64 aH,int u64 aI,int u64 aK,int i64 aD,int i64 aG,slice aB aA aC])]) m'_1 [] R_2/\ZaQ Shape.fn R_2/\∀(g:Nat)(fi ca:List Value)(m':Mem),Mem.le m'_1 m'->R_2 (func
 (Fn.func g) (Array.mk fi) (Array.mk ca)) m' []->∃(xs:List (List Value)),IX Try.prog g fi ca m' xs/\(∀(x:List Value),x∈xs->Shape.fitsL [shT] x=true)/\∃(I:IT),I [] [[int i64 0]] [] m' 0/\(∀(n n_1 n_2
 n_3 n_4 n_5 n_6:Int) (a:Option Addr) (n_7 c:Nat) (cs:List Value) (m'_2:Mem) (n_8:Nat),Mem.le m' m'_2->List.get?Internal xs n_8=some [agg (Array.mk [int u8 n,int u64 n_1,int u64 n_2,int u64 n_3,int
 u64 n_4,int i64 n_5,int i64 n_6,slice a n_7 c])]->I [] [cs] [] m'_2 n_8->Eng.Zqm cs 0 λ(v:Value)=>chk (ZaS i64 v&&decide (i64=i64)) ([some (Box.mk b_2 [] 3 1 false true),some (Box.mk b [int u8 aE,
 int u64 aJ,int u64 aH,int u64 aI,int u64 aK,int i64 aD,int i64 aG,slice aB aA aC] 29 8 true true)]=[some (Box.mk b_2 [] 3 1 false true),some (Box.mk b [int u8 aE,int u64 aJ,int u64
 aH,int u64 aI,int u64 aK,int i64 aD,int i64 aG,slice aB aA aC] 29 8 true true)]/\I [] [[int i64 (IntKind.wrap i64 (RowKit.intOf v+(1:Int)))]] [] m'_2 (n_8+1)))/\∀(cs:List Value) (m'_2
 : Mem),Mem.le m' m'_2->I [] [cs] [] m'_2 (List.length xs)->Eng.Zqm cs 0 λ(v:Value)=>∃(m'':Mem),Mem.le m m''/\Mem.le m'' m'_2/\R v m'' [])
theorem Zoc(aE aJ aH aI aK aD aG:Int)(aB:Option Addr)(aA aC:Nat)(m:Mem)(R:RT)(h:Zkp aE aJ aH aI aK aD aG aB aA aC m R):CX Try.prog 49 #[.agg #[.int .u8 aE,.int .u64 aJ,.int .u64 aH,.int .u64 aI,.int .u64 aK,.int .i64 aD,.int .i64 aG,.slice aB aA aC]] m [] R:=
 Zak (E:=Zp7) ZaR mix Try.func49 [.v (.agg #[.int .u8 aE,.int .u64 aJ,.int .u64 aH,.int .u64 aI,.int .u64 aK,.int .i64 aD,.int .i64 aG,.slice aB aA aC])] [] (by kernel_rfl) (Eq.mp (by kernel_rfl) h)
noncomputable def ZhR:Env:={ EB with
 loops:=(λi=>bif Nat.beq i 5 then⟨[(3,.int .i64),(14,.int .i64)],[],[],false⟩ else⟨[],[],[],false⟩)
 frzNew:=[1] }
def Zeq(aE aJ aH aI aK aD aG:Int)(aB:Option Addr)(aA aC:Nat)(m:Mem)(R:RT):Prop:=
 ∀(b:Nat)(m':Mem),Mem.le m m'->Mem.reads m' b 0 [int u8 aE,int u64 aJ,int u64 aH,int u64 aI,int u64 aK,int i64 aD,int i64 aG,slice aB aA aC]->br (aE == (2:Int)) (∃(I:IT),(∃
 (n:Nat),I [int i64 1,int i64 0] [] [] m' n)/\∀(n ab:Int)(aa:Mem)(aj:Nat),Mem.le m' aa->I [int i64 n,int i64 ab] [] [] aa aj->br (decide (ab < (↑aA:Int))) (∃(ak:Nat),∃(o:Nat),aB=some
 (Addr.mk ak o none)/\Zag ab aA/\∃(v:Value),∃(ac:Value),∃(ad:Value),∃(ae:Value),∃(af:Value),∃(ag:Value),∃(ah:Value),∃(ai:Value),Mem.reads aa ak (o+Int.toNat ab*8) [v,ac,ad,
 ae,af,ag,ah,ai]/\∀(am:Nat),chk (Value.oneCell' v&&(Value.oneCell' ac&&(Value.oneCell' ad&&(Value.oneCell' ae&&(Value.oneCell' af&&(Value.oneCell' ag&&(Value.oneCell' ah&&(Value.oneCell' ai &&
 true)))))))) (∃(R:RT),True/\CX Try.prog 78 (Array.mk [agg (Array.mk [v,ac,ad,ae,af,ag,ah,ai])]) aa [] R/\ZaQ (Shape.int i64) R/\∀(al:Int)(m':Mem),Mem.le aa m'->R (int i64 al) m' []->[some (Box.mk
 b [int u8 aE,int u64 aJ,int u64 aH,int u64 aI,int u64 aK,int i64 aD,int i64 aG,slice aB aA aC] 29 8 true true)]=[some (Box.mk b [int u8 aE,int u64 aJ,int u64 aH,int u64 aI,int
 u64 aK,int i64 aD,int i64 aG,slice aB aA aC] 29 8 true true)]/\∃(n':Nat),n' < aj/\I [int i64 (IntKind.wrap i64 (n+al)),int i64 (IntKind.wrap i64 (ab+(1:Int)))] [] [] m' n')) (br (aE ==
 (5:Int)) (br (aG == (-1:Int)) (∃(m'':Mem),Mem.le m m''/\Mem.le m'' aa/\R (int i64 (if(10001:Int) < IntKind.wrap i64 (n*if(10001:Int) < if(1:Int) > if(0:Int) > aD then(0:Int)else aD then
 (1:Int)else if(0:Int) > aD then(0:Int)else aD then(10001:Int)else if(1:Int) > if(0:Int) > aD then(0:Int)else aD then(1:Int)else if(0:Int) > aD then(0:Int)else aD)then
 (10001:Int)else IntKind.wrap i64 (n*if(10001:Int) < if(1:Int) > if(0:Int) > aD then(0:Int)else aD then(1:Int)else if(0:Int) > aD then(0:Int)else aD then(10001:Int)else if(1:
 Int) > if(0:Int) > aD then(0:Int)else aD then(1:Int)else if(0:Int) > aD then(0:Int)else aD))) m'' []) (∃(m'':Mem),Mem.le m m''/\Mem.le m'' aa/\R (int i64 (if(10001:Int) < IntKind.wrap
 i64 (n*if(10001:Int) < if aG > if(0:Int) > aD then(0:Int)else aD then aG else if(0:Int) > aD then(0:Int)else aD then(10001:Int)else if aG > if(0:Int) > aD then(0:Int)else
 aD then aG else if(0:Int) > aD then(0:Int)else aD)then(10001:Int)else IntKind.wrap i64 (n*if(10001:Int) < if aG > if(0:Int) > aD then(0:Int)else aD then aG else if(0:Int) >
 aD then(0:Int)else aD then(10001:Int)else if aG > if(0:Int) > aD then(0:Int)else aD then aG else if(0:Int) > aD then(0:Int)else aD))) m'' [])) (∃(m'':Mem),Mem.le m m''/\Mem.le
 m'' aa/\R (int i64 (if(10001:Int) < n then(10001:Int)else n)) m'' []))) (∃(I:IT),(∃(n:Nat),I [int i64 0,int i64 0] [] [] m' n)/\∀(n ab:Int)(aa:Mem)(aj:Nat),Mem.le m' aa->I [int i64 n,int
 i64 ab] [] [] aa aj->br (decide (ab < (↑aA:Int))) (∃(ak:Nat),∃(o:Nat),aB=some (Addr.mk ak o none)/\Zag ab aA/\∃(v:Value),∃(ac:Value),∃(ad:Value),∃(ae:Value),∃(af:Value),∃
 (ag:Value),∃(ah:Value),∃(ai:Value),Mem.reads aa ak (o+Int.toNat ab*8) [v,ac,ad,ae,af,ag,ah,ai]/\∀(am:Nat),chk (Value.oneCell' v&&(Value.oneCell' ac&&(Value.oneCell' ad&&(Value.oneCell'
 ae&&(Value.oneCell' af&&(Value.oneCell' ag&&(Value.oneCell' ah&&(Value.oneCell' ai&&true)))))))) (∃(R:RT),True/\CX Try.prog 78 (Array.mk [agg (Array.mk [v,ac,ad,ae,af,ag,ah,ai])]) aa [] R/\ZaQ
 (Shape.int i64) R/\∀(al:Int)(m':Mem),Mem.le aa m'->R (int i64 al) m' []->[some (Box.mk b [int u8 aE,int u64 aJ,int u64 aH,int u64 aI,int u64 aK,int i64 aD,int i64 aG,slice aB aA
 aC] 29 8 true true)]=[some (Box.mk b [int u8 aE,int u64 aJ,int u64 aH,int u64 aI,int u64 aK,int i64 aD,int i64 aG,slice aB aA aC] 29 8 true true)]/\∃(n':Nat),n' < aj/\I [int i64
 (IntKind.wrap i64 (n+al)),int i64 (IntKind.wrap i64 (ab+(1:Int)))] [] [] m' n')) (br (aE == (5:Int)) (br (aG == (-1:Int)) (∃(m'':Mem),Mem.le m m''/\Mem.le m'' aa/\R (int i64 (if(10001:Int) <
 IntKind.wrap i64 (n*if(10001:Int) < if(1:Int) > if(0:Int) > aD then(0:Int)else aD then(1:Int)else if(0:Int) > aD then(0:Int)else aD then(10001:Int)else if(1:Int) > if(0:Int) >
 aD then(0:Int)else aD then(1:Int)else if(0:Int) > aD then(0:Int)else aD)then(10001:Int)else IntKind.wrap i64 (n*if(10001:Int) < if(1:Int) > if(0:Int) > aD then(0:Int)else
 aD then(1:Int)else if(0:Int) > aD then(0:Int)else aD then(10001:Int)else if(1:Int) > if(0:Int) > aD then(0:Int)else aD then(1:Int)else if(0:Int) > aD then(0:Int)else
 aD))) m'' []) (∃(m'':Mem),Mem.le m m''/\Mem.le m'' aa/\R (int i64 (if(10001:Int) < IntKind.wrap i64 (n*if(10001:Int) < if aG > if(0:Int) > aD then(0:Int)else aD then aG else if(0:Int) >
 aD then(0:Int)else aD then(10001:Int)else if aG > if(0:Int) > aD then(0:Int)else aD then aG else if(0:Int) > aD then(0:Int)else aD)then(10001:Int)else IntKind.wrap i64 (n*if
 (10001:Int) < if aG > if(0:Int) > aD then(0:Int)else aD then aG else if(0:Int) > aD then(0:Int)else aD then(10001:Int)else if aG > if(0:Int) > aD then(0:Int)else aD then aG
 else if(0:Int) > aD then(0:Int)else aD))) m'' [])) (∃(m'':Mem),Mem.le m m''/\Mem.le m'' aa/\R (int i64 (if(10001:Int) < n then(10001:Int)else n)) m'' [])))
theorem ZgQ(aE aJ aH aI aK aD aG:Int)(aB:Option Addr)(aA aC:Nat)(m:Mem)(R:RT)(h:Zeq aE aJ aH aI aK aD aG aB aA aC m R):CX Try.prog 78 #[.agg #[.int .u8 aE,.int .u64 aJ,.int .u64 aH,.int .u64 aI,.int .u64 aK,.int .i64 aD,.int .i64 aG,.slice aB aA aC]] m [] R:=
 Zak (E:=ZhR) ZaR mix Try.func78 [.v (.agg #[.int .u8 aE,.int .u64 aJ,.int .u64 aH,.int .u64 aI,.int .u64 aK,.int .i64 aD,.int .i64 aG,.slice aB aA aC])] [] (by kernel_rfl) (Eq.mp (by kernel_rfl) h)
noncomputable def ZhS:Env:={ EB with
 frzNew:=[1] }
def Zer(aE aJ aH aI aK aD aG:Int)(aB:Option Addr)(aA aC:Nat)(m:Mem)(R:RT):Prop:=
 ∀(b:Nat)(m':Mem),Mem.le m m'->Mem.reads m' b 0 [int u8 aE,int u64 aJ,int u64 aH,int u64 aI,int u64 aK,int i64 aD,int i64 aG,slice aB aA aC]->∃(R_1:RT),True/\CX Try.prog 51
 (Array.mk [agg (Array.mk [int u8 aE,int u64 aJ,int u64 aH,int u64 aI,int u64 aK,int i64 aD,int i64 aG,slice aB aA aC])]) m' [] R_1/\ZaQ Shape.bool R_1/\∀(b:Bool)(m'_1:Mem),Mem.le
 m' m'_1->R_1 (bool b) m'_1 []->br (!b) (∃(m'':Mem),Mem.le m m''/\Mem.le m'' m'_1/\R (int i64 10001) m'' []) (∃(R_2:RT),True/\CX Try.prog 78 (Array.mk [agg (Array.mk [int u8 aE,int u64 aJ,int u64 aH,
 int u64 aI,int u64 aK,int i64 aD,int i64 aG,slice aB aA aC])]) m'_1 [] R_2/\ZaQ (Shape.int i64) R_2/\∀(n:Int)(m':Mem),Mem.le m'_1 m'->R_2 (int i64 n) m' []->∃(m'':Mem),Mem.le m m''/\
 Mem.le m'' m'/\R (int i64 n) m'' [])
theorem ZgR(aE aJ aH aI aK aD aG:Int)(aB:Option Addr)(aA aC:Nat)(m:Mem)(R:RT)(h:Zer aE aJ aH aI aK aD aG aB aA aC m R):CX Try.prog 50 #[.agg #[.int .u8 aE,.int .u64 aJ,.int .u64 aH,.int .u64 aI,.int .u64 aK,.int .i64 aD,.int .i64 aG,.slice aB aA aC]] m [] R:=
 Zak (E:=ZhS) ZaR mix Try.func50 [.v (.agg #[.int .u8 aE,.int .u64 aJ,.int .u64 aH,.int .u64 aI,.int .u64 aK,.int .i64 aD,.int .i64 aG,.slice aB aA aC])] [] (by kernel_rfl) (Eq.mp (by kernel_rfl) h)
noncomputable def ZmQ:Env:={ EB with
 loops:=(λi=>bif Nat.beq i 6 then⟨[(10,.agg [.int .u8,.int .u64,.int .u64,.int .u64,.int .u64,.int .i64,.int .i64,.slice])],[3],[],false⟩ else⟨[],[],[],false⟩)
 frzNew:=[1] }
def ZgS(aE aJ aH aI aK aD aG:Int)(aB:Option Addr)(aA aC:Nat)(m:Mem)(R:RT):Prop:=
 ∀(b:Nat)(m':Mem),Mem.le m m'->Mem.reads m' b 0 [int u8 aE,int u64 aJ,int u64 aH,int u64 aI,int u64 aK,int i64 aD,int i64 aG,slice aB aA aC]->∃(R_1:RT),True/\CX Try.prog 51
 (Array.mk [agg (Array.mk [int u8 aE,int u64 aJ,int u64 aH,int u64 aI,int u64 aK,int i64 aD,int i64 aG,slice aB aA aC])]) m' [] R_1/\ZaQ Shape.bool R_1/\∀(ae:Bool)(ab:Mem),Mem.le
 m' ab->R_1 (bool ae) ab []->br (!ae) (∃(m'':Mem),Mem.le m m''/\Mem.le m'' ab/\R (int i64 10001) m'' []) (∀(ac:Nat),∃(R_2:RT),True/\CX Try.prog 52 (Array.mk [agg (Array.mk [int u8 aE,int u64 aJ,int
 u64 aH,int u64 aI,int u64 aK,int i64 aD,int i64 aG,slice aB aA aC])]) ab [] R_2/\ZaQ Shape.fn R_2/\∀(g:Nat)(fi ca:List Value)(m':Mem),Mem.le ab m'->R_2 (func (Fn.func g) (Array.mk
 fi) (Array.mk ca)) m' []->∃(xs:List (List Value)),IX Try.prog g fi ca m' xs/\(∀(x:List Value),x∈xs->Shape.fitsL [shT] x=true)/\∃(I:IT),I [] [[int i64 0]] [] m' 0/\(∀(n af ag ah ai aj ak:Int) (a:
 Option Addr) (al c:Nat) (cs:List Value) (aa:Mem) (ad:Nat),Mem.le m' aa->List.get?Internal xs ad=some [agg (Array.mk [int u8 n,int u64 af,int u64 ag,int u64 ah,int u64 ai,int i64 aj,int i64 ak,slice a
 al c])]->I [] [cs] [] aa ad->∀(am:Nat),br (n == (6:Int)) (Eng.Zqm cs 0 λ(v:Value)=>chk (ZaS i64 v&&decide (i64=i64)) ([some (Box.mk ac [] 3 1 false true),some (Box.mk b [int u8 aE,int u64 aJ,
 int u64 aH,int u64 aI,int u64 aK,int i64 aD,int i64 aG,slice aB aA aC] 29 8 true true)]=[some (Box.mk ac [] 3 1 false true),some (Box.mk b [int u8 aE,int u64 aJ,int u64 aH,int u64
 aI,int u64 aK,int i64 aD,int i64 aG,slice aB aA aC] 29 8 true true)]/\I [] [[int i64 (IntKind.wrap i64 (RowKit.intOf v+(1:Int)))]] [] aa (ad+1))) ([some (Box.mk ac [] 3 1 false true),some
 (Box.mk b [int u8 aE,int u64 aJ,int u64 aH,int u64 aI,int u64 aK,int i64 aD,int i64 aG,slice aB aA aC] 29 8 true true)]=[some (Box.mk ac [] 3 1 false true),some (Box.mk b [int u8 aE,
 int u64 aJ,int u64 aH,int u64 aI,int u64 aK,int i64 aD,int i64 aG,slice aB aA aC] 29 8 true true)]/\I [] [cs] [] aa (ad+1)))/\∀(cs:List Value)(aa:Mem),Mem.le m' aa->I [] [cs] [] aa
 (List.length xs)->Eng.Zqm cs 0 λ(v:Value)=>∃(m'':Mem),Mem.le m m''/\Mem.le m'' aa/\R v m'' [])
theorem Zk1(aE aJ aH aI aK aD aG:Int)(aB:Option Addr)(aA aC:Nat)(m:Mem)(R:RT)(h:ZgS aE aJ aH aI aK aD aG aB aA aC m R):CX Try.prog 20 #[.agg #[.int .u8 aE,.int .u64 aJ,.int .u64 aH,.int .u64 aI,.int .u64 aK,.int .i64 aD,.int .i64 aG,.slice aB aA aC]] m [] R:=
 Zak (E:=ZmQ) ZaR mix Try.func20 [.v (.agg #[.int .u8 aE,.int .u64 aJ,.int .u64 aH,.int .u64 aI,.int .u64 aK,.int .i64 aD,.int .i64 aG,.slice aB aA aC])] [] (by kernel_rfl) (Eq.mp (by kernel_rfl) h)
noncomputable def Zod:Env:={ EB with
 frzNew:=[1] }
def Zis(aE aJ:Bool)(aH aI aK aD aG gM gN:Int)(eF:Option Addr)(eG eH:Nat)(m:Mem)(R:RT):Prop:=
 ∀(b:Nat)(m':Mem),Mem.le m m'->Mem.reads m' b 0 [bool aE,bool aJ,int u8 aH,int u64 aI,int u64 aK,int u64 aD,int u64 aG,int i64 gM,int i64 gN,slice eF eG eH]->∃(R_1:RT),
 True/\CX Try.prog 48 (Array.mk [agg (Array.mk [int u8 aH,int u64 aI,int u64 aK,int u64 aD,int u64 aG,int i64 gM,int i64 gN,slice eF eG eH])]) m' [] R_1/\ZaQ Shape.bool R_1/\∀(b:Bool)
 (m'_1:Mem),Mem.le m' m'_1->R_1 (bool b) m'_1 []->br (!b) (∃(m'':Mem),Mem.le m m''/\Mem.le m'' m'_1/\R (int i64 80) m'' []) (∃(R_2:RT),True/\CX Try.prog 49 (Array.mk [agg (Array.mk [int u8 aH,int u64
 aI,int u64 aK,int u64 aD,int u64 aG,int i64 gM,int i64 gN,slice eF eG eH])]) m'_1 [] R_2/\ZaQ (Shape.int i64) R_2/\∀(n:Int)(m':Mem),Mem.le m'_1 m'->R_2 (int i64 n) m' []->br
 (decide (n > (120:Int))) (∃(m'':Mem),Mem.le m m''/\Mem.le m'' m'/\R (int i64 81) m'' []) (∃(R_3:RT),True/\CX Try.prog 50 (Array.mk [agg (Array.mk [int u8 aH,int u64 aI,int u64 aK,int u64 aD,int
 u64 aG,int i64 gM,int i64 gN,slice eF eG eH])]) m' [] R_3/\ZaQ (Shape.int i64) R_3/\∀(n:Int)(m'_2:Mem),Mem.le m' m'_2->R_3 (int i64 n) m'_2 []->br (decide (n > (400:Int))) (∃(m'':Mem),
 Mem.le m m''/\Mem.le m'' m'_2/\R (int i64 82) m'' []) (∃(R_4:RT),True/\CX Try.prog 20 (Array.mk [agg (Array.mk [int u8 aH,int u64 aI,int u64 aK,int u64 aD,int u64 aG,int i64 gM,int i64 gN,
 slice eF eG eH])]) m'_2 [] R_4/\ZaQ (Shape.int i64) R_4/\∀(n:Int)(m':Mem),Mem.le m'_2 m'->R_4 (int i64 n) m' []->br (decide (n > (9:Int))) (∃(m'':Mem),Mem.le m m''/\Mem.le m'' m'/\R (int i64
 83) m'' []) (∃(m'':Mem),Mem.le m m''/\Mem.le m'' m'/\R (int i64 0) m'' []))))
theorem ZmR(aE aJ:Bool)(aH aI aK aD aG gM gN:Int)(eF:Option Addr)(eG eH:Nat)(m:Mem)(R:RT)(h:Zis aE aJ aH aI aK aD aG gM gN eF eG eH m R):CX Try.prog 19 #[.agg #[.bool aE,.bool aJ,.int .u8 aH,.int .u64 aI,.int .u64 aK,.int .u64 aD,.int .u64 aG,.int .i64 gM,.int .i64 gN,.slice eF eG eH]] m [] R:=
 Zak (E:=Zod) ZaR mix Try.func19 [.v (.agg #[.bool aE,.bool aJ,.int .u8 aH,.int .u64 aI,.int .u64 aK,.int .u64 aD,.int .u64 aG,.int .i64 gM,.int .i64 gN,.slice eF eG eH])] [] (by kernel_rfl) (Eq.mp (by kernel_rfl) h)
end Go.Proofs.Ytgclajkldphoaaa
set_option linter.unusedVariables false
set_option linter.unusedSimpArgs false
namespace Go.Proofs.Ytgclajkldphoaaa
open Go Go.Eng Go.Rx Go.Proofs Go.RowKit
set_option maxRecDepth 100000
theorem Zhx(t:T)(m:Mem):CX Try.prog 52 #[t.v] m [] (λv m' _=>∃b,v=.func (.func 79) #[] #[.pointer (some ⟨b,0,none⟩)]/\m'.reads b 0 t.cs):=by
 apply ZmJ
 unfold Zin
 intro b m' hm hb
 exact⟨m',hm,Mem.le_refl _,b,rfl,hb⟩
theorem Zfu(t:T)(m:Mem)(c0b:Nat)(cO:m.reads c0b 0 t.cs)(cS:Rep m t):IX Try.prog 79 [] [.pointer (some ⟨c0b,0,none⟩)] m (t.nodes.map λx=>[x.v]):=by
 apply Zjp 0 [] [] c0b 0
 unfold Zf5
 intro l b m' hm hb
 have rU:=cO.mono hm
 refine⟨_,_,_,_,_,_,_,_,rU,⟨rfl,by omega,?_⟩,?_,.inr rfl⟩
 ·rw[Zbv];rfl
 refine⟨t.sl,rU 7 _ rfl,Zaa rfl ?_⟩
 refine⟨λxs _ _ m'' q=>∃i:Nat,i<=t.subs.length/\xs=[.int .i64 ((1+(Zaj (t.subs.take i)).length:Nat):Int),.int .i64 i]/\m'.le m''/\q=t.subs.length - i,⟨t.subs.length,0,by omega,?_,Mem.le_refl _,by omega⟩,?_⟩
 ·simp[Zaj]
 rintro y n m2 q bC ⟨i,hi,cH,lK,hq⟩
 simp only[List.cons.injEq,Value.int.injEq,true_and,and_true]at cH
 obtain⟨rfl,rfl⟩:=cH
 have aX:slN t.sl=t.subs.length:=rfl
 rw[aX]
 refine Zab (λaN=>?_) (λcP=>?_)
 ·have aT:i < t.subs.length:=by simpa using aN
  obtain⟨x,hx⟩:∃x,t.subs[i]?=some x:=⟨_,List.getElem?_eq_getElem aT⟩
  have bQ:x∈t.subs:=List.mem_of_getElem? hx
  have bK:=Zru bQ
  obtain⟨xR,h0|⟨b1,o1,ha,hO⟩⟩:=ZgH cS
  ·rw[h0]at aT;simp at aT
  obtain⟨eJ,iL⟩:=(hO.mono ((mLt hm lK))).get hx
  refine Zaa rfl ⟨b1,o1,ha,⟨by omega,by omega⟩,_,_,_,_,_,_,_,_,eJ,λb2=>Zaa rfl ?_⟩
  refine⟨_,trivial,Zhx x m2,λv m' css h=>?_,?_⟩
  ·obtain⟨b3,rfl,_⟩:=h;rfl
  rintro g fi ca m3 cJ ⟨b3,hv,jC⟩
  obtain⟨rfl,rfl,rfl⟩:=Zht hv
  refine⟨_,Zfu x m3 b3 jC (iL.mono cJ),λy hy=>?_,?_⟩
  ·obtain⟨z,_,rfl⟩:=List.mem_map.1 hy;exact Zn2 z
  refine⟨λxs _ _ m'' q=>q<=x.nodes.length/\xs=[.int .i64 ((1+(Zaj (t.subs.take i)).length+q:Nat):Int)]/\m3.le m'',⟨Nat.zero_le _,rfl,Mem.le_refl _⟩,?_,?_⟩
  ·rintro y n0 n1 n2 n3 n4 n5 n6 a n7 c m4 q cI hq ⟨fZ,hy,_⟩ b4
   simp only[List.cons.injEq,Value.int.injEq,true_and,and_true]at hy
   subst hy
   have hq':(List.map (λz:T=>[z.v]) x.nodes)[(q:Nat)]?=some [Value.agg #[.int .u8 n0,.int .u64 n1,.int .u64 n2,.int .u64 n3,.int .u64 n4,.int .i64 n5,.int .i64 n6,.slice a n7 c]]:=hq
   rw[List.getElem?_map]at hq'
   obtain⟨z,hz,rV⟩:=Option.map_eq_some_iff.1 hq'
   have Ao:q < x.nodes.length:=(List.getElem?_eq_some_iff.1 hz).1
   refine⟨⟨rfl,by omega,?_⟩,⟨rfl,by omega,?_,cI⟩,rfl,.inr rfl⟩
   ·rw[Int.toNat_natCast]
    show(t.nodes.map λx=>[x.v])[1+(Zaj (t.subs.take i)).length+q]?=_
    rw[List.getElem?_map,Zrt hx hz,<-rV];rfl
   ·congr 2
  ·rintro y m4 cI ⟨fZ,hy,_⟩
   simp only[List.cons.injEq,Value.int.injEq,true_and,and_true]at hy
   subst hy
   refine⟨rfl,t.subs.length - (i+1),by omega,i+1,by omega,?_,mLt lK (mLt cJ cI),rfl⟩
   rw[Zbl (by omega) (by omega),ZfY hx,List.length_append]
   simp[T.v,Nat.add_assoc]
 ·have hi':i=t.subs.length:=by
   have:¬((i:Int) < (t.subs.length:Int)):=by simpa using cP
   omega
  subst hi'
  left
  rw[List.take_length,Zbv]
  simp
  omega
termination_by SizeOf.sizeOf t
decreasing_by exact bK
theorem Zp8(least most:Int)(m:Mem):CX Try.prog 61 #[.int .i64 least,.int .i64 most] m [] (Ret (.bool (ZgI least most))):=by
 apply Zk0
 unfold ZgP
 refine⟨decide (least < 0)||decide (least > 16)||(least == 1&&most == 1),?_,Zab (λh=>Zai (Mem.le_refl _) ?_) (λh=>⟨most == -1||(decide (most ≥ 1)&&decide (most<=16)&&decide (most ≥ least)),?_,Zai (Mem.le_refl _) ?_⟩)⟩
 ·simp only[ZpT];(repeat' split) <;> simp_all <;> omega
 ·simp[Ret,ZgI,h]
 ·simp only[ZpT];(repeat' split) <;> simp_all <;> omega
 ·simp[Ret,ZgI,h]
theorem Zk2(l:List T)(a:Option Addr)(c:Nat)(g:Nat)(ca:List Value)(p:T->Bool)(m:Mem)(hl:l.length<=1000000000000000)(hr:l=[]\/∃b o,a=some ⟨b,o,none⟩/\RepAt m b o l)
  (hp:∀x∈l,∀m',m.le m'->Rep m' x->CX Try.prog g (x.v::ca).toArray m' [] (Ret (.bool (p x)))):
  CX Try.prog 118 #[.slice a l.length c,.func (.func g) #[] ca.toArray] m [] (Ret (.int .i64 (if l.any p then(l.findIdx p:Nat)else(-1:Int)))):=by
 apply Zbm a l.length c g [] ca
 unfold ZaO
 refine⟨λxs _ _ m'' q=>∃i:Nat,i<=l.length/\xs=[.int .i64 i]/\(∀x∈l.take i,p x=false)/\m.le m''/\q=l.length - i,⟨l.length,0,by omega,rfl,by simp,Mem.le_refl _,by omega⟩,?_⟩
 rintro n m' q hm ⟨i,hi,hn,gW,bO,hq⟩
 obtain rfl:n=i:=by simpa using hn
 refine Zab (λaN=>?_) (λcP=>?_)
 ·have aT:i < l.length:=by simpa using aN
  obtain⟨x,hx⟩:∃x,l[i]?=some x:=⟨_,List.getElem?_eq_getElem aT⟩
  have bQ:x∈l:=List.mem_of_getElem? hx
  rcases hr with h0|⟨b1,o1,ha,hO⟩
  ·rw[h0]at aT;simp at aT
  obtain⟨eJ,iL⟩:=(hO.mono hm).get hx
  refine⟨b1,o1,ha,⟨by omega,by omega⟩,_,_,_,_,_,_,_,_,eJ,Za5 (hp x bQ m' hm iL) λm1 aU=>Zab (λtj=>?_) (λtj=>?_)⟩
  ·refine Zai (mLt hm aU) ?_
   have qr:l.any p=true:=List.any_eq_true.2 ⟨x,bQ,tj⟩
   have iM:l.findIdx p=i:=by
    rw[List.findIdx_eq aT]
    refine⟨by rw[(List.getElem?_eq_some_iff.1 hx).2];exact tj,λj hj=>?_⟩
    exact gW _ (List.mem_of_getElem? (i:=j) (by rw[List.getElem?_take_of_lt hj];exact List.getElem?_eq_getElem (by omega)))
   simp[Ret,qr,iM]
  ·refine⟨l.length - (i+1),by omega,i+1,by omega,by rw[Zbl (by omega) (by omega)];rfl,?_,mLt hm aU,rfl⟩
   intro y hy
   rw[List.take_add_one,hx]at hy
   rcases List.mem_append.1 hy with hy|hy
   ·exact gW y hy
   ·simp at hy;rw[hy];exact tj
 ·have hi':i=l.length:=by
   have:¬((i:Int) < (l.length:Int)):=by simpa using cP
   omega
  subst hi'
  refine Zai hm ?_
  have qr:l.any p=false:=by
   rw[List.any_eq_false]
   rw[List.take_length]at gW
   exact λx hx=>by simp[gW x hx]
  simp[Ret,qr]
theorem ZgT(l:List T)(a:Option Addr)(c:Nat)(g:Nat)(ca:List Value)(p:T->Bool)(m:Mem)(hl:l.length<=1000000000000000)(hr:l=[]\/∃b o,a=some ⟨b,o,none⟩/\RepAt m b o l)
  (hp:∀x∈l,∀m',m.le m'->Rep m' x->CX Try.prog g (x.v::ca).toArray m' [] (Ret (.bool (p x)))):
  CX Try.prog 109 #[.slice a l.length c,.func (.func g) #[] ca.toArray] m [] (Ret (.bool (l.any p))):=by
 apply Za8 a l.length c g [] ca
 unfold ZaH
 refine ZfW (Zk2 l a c g ca p m hl hr hp) λm' hm=>Zai hm ?_
 cases h:l.any p <;> simp[Ret]
theorem Ztl(t:T)(k:Int)(b:Nat)(m:Mem)(hb:m.reads b 0 [.int .u8 k]):CX Try.prog 110 #[t.v,.pointer (some ⟨b,0,none⟩)] m [] (Ret (.bool (t.k == k))):=by
 apply ZmM (c0b:=b) (c0o:=0)
 unfold Zip
 intro b' m' hm _
 exact⟨_,hm _ _ _ (hb 0 _ rfl),Zaa rfl (Zai hm rfl)⟩
theorem Zp9(t:T)(k:Int)(m:Mem)(hr:Rep m t):CX Try.prog 95 #[t.v,.int .u8 k] m [] (Ret (.bool (t.has k))):=by
 apply Zp6
 unfold ZmN
 intro b m1 aU _ b2 m2 bC dW
 have hr':=ZgH (hr.mono (mLt aU bC))
 exact Za5 (ZgT t.subs t.a t.c _ [.pointer (some ⟨b2,0,none⟩)] (λx=>x.k == k) m2 hr'.1 hr'.2 λx _ m' hm' _=>Ztl x k b2 m' (dW.mono hm')) λm3 cJ=>Zai (mLt aU (mLt bC cJ)) rfl
theorem Zjq(t:T)(m:Mem)(hr:Rep m t):CX Try.prog 51 #[t.v] m [] (Ret (.bool t.light)):=by
 apply ZmK
 unfold Zio
 intro b m1 aU _ b2
 refine Za7 (Zhx t m1) (λv m' css h=>by obtain⟨_,rfl,_⟩:=h;rfl) ?_
 rintro g fi ca m2 bC ⟨b3,hv,jC⟩
 obtain⟨rfl,rfl,rfl⟩:=Zht hv
 have bO:=mLt aU bC
 refine⟨_,Zfu t m2 b3 jC (hr.mono bO),λy hy=>?_,λ_ css _ m' q=>css=[[.int .i64 q]]/\q<=10000/\q<=t.nodes.length,⟨rfl,by omega,by omega⟩,?_,?_⟩
 ·obtain⟨z,_,rfl⟩:=List.mem_map.1 hy;exact Zn2 z
 ·rintro n0 n1 n2 n3 n4 n5 n6 a n7 c cs m3 q cJ hq ⟨cR,fZ,_⟩
  obtain rfl:cs=[.int .i64 q]:=by simpa using cR
  have aN:q < t.nodes.length:=by
   have:=(List.getElem?_eq_some_iff.1 (show(List.map (λz:T=>[z.v]) t.nodes)[(q:Nat)]?=some _ from hq)).1
   simpa using this
  refine Zao rfl (Zaa rfl ?_)
  have hw:IntKind.i64.wrap (intOf (Value.int .i64 (q:Int))+1)=(q:Int)+1:=Zbl (n:=(q:Int)+1) (by omega) (by omega)
  simp only[hw]
  refine Zab (λh=>⟨by trivial,Zai (mLt bO cJ) ?_⟩) (λh=>⟨by trivial,?_,?_,by omega⟩)
  ·have:((q:Int)+1 > 10000):=by simpa using h
   simp[Ret,T.light];omega
  ·simp
  ·have:¬((q:Int)+1 > 10000):=by simpa using h
   omega
 ·rintro cs m3 cJ ⟨cR,fZ,_⟩
  obtain rfl:cs=[.int .i64 t.nodes.length]:=by simpa using cR
  refine Zao rfl (Zaa rfl (Zai (mLt bO cJ) ?_))
  show Value.bool (decide ((t.nodes.length:Int)<=10000))=Value.bool t.light
  congr 1
  rw[T.light,decide_eq_decide];omega
end Go.Proofs.Ytgclajkldphoaaa
set_option linter.unusedVariables false
set_option linter.unusedSimpArgs false
namespace Go.Proofs.Ytgclajkldphoaaa
open Go Go.Eng Go.Proofs Go.RowKit
theorem ZeS{P:Program}{T:TypeId}(hg:P.eqGuardType P.depth T=false)(op:BinOp)(ox oy:Operand)(xs ys:Array Value)(w:World):(eqGuard op T ox oy (.agg xs) (.agg ys)).run P w=.ok () w:=by
 unfold eqGuard
 have h1:(P.eqGuardType P.depth T)=true->False:=λh=>by rw[hg]at h;cases h
 split
 ·simp[go_sem];exact λh=>(h1 h).elim
 ·simp[go_sem];exact λh=>(h1 h).elim
 ·simp
theorem Ztm(a b c d a' b' c' d':Int):EqIs Try.prog 26 (.agg #[.int .u64 a,.int .u64 b,.int .u64 c,.int .u64 d]) (.agg #[.int .u64 a',.int .u64 b',.int .u64 c',.int .u64 d']) (a == a'&&b == b'&&c == c'&&d == d'):=by
 refine⟨λw=>?_,λop ox oy w=>ZeS (by kernel_rfl) op ox oy _ _ w⟩
 have u3:=Try.underlying24
 have a3:=Try.isAgg24
 have z3:=Try.sizeOf24
 rw[Op.equal,Op.maxDepth,show(10000:Nat)=9999+1 from rfl,Op.equalIn]
 simp only[Sem.run_bind,run_underlying Try.underlying26,Result.andThen_ok]
 simp only[Std.Legacy.Range.forIn_eq_forIn_range',Std.Legacy.Range.size,Nat.sub_zero,Nat.add_sub_cancel,Nat.div_one,List.range'_succ,List.range'_zero,List.forIn_cons,List.forIn_nil]
 go_simp
 by_cases h1:a=a' <;> by_cases h2:b=b' <;> by_cases h3:c=c' <;> by_cases h4:d=d' <;> simp[h1,h2,h3,h4]
end Go.Proofs.Ytgclajkldphoaaa
set_option linter.unusedVariables false
set_option linter.unusedSimpArgs false
namespace Go.Proofs.Ytgclajkldphoaaa
open Go Go.Eng Go.Rx Go.Proofs Go.RowKit
set_option maxRecDepth 100000
theorem ZrM(t:T)(m:Mem)(hr:Rep m t):CX Try.prog 77 #[t.v] m [] (Ret (.bool t.right)):=by
 apply ZmO
 unfold Ziq
 intro b m1 aU _
 have cU:=hr.mono aU
 refine⟨t.k != 2&&!t.setZ||(t.k != 5&&(t.mn != 0||t.mx != 0)||(decide (t.k < 3)&&decide (0 < t.subs.length))),?_,Zab (λh=>Zai aU ?_) (λh=>?_)⟩
 ·refine Zab (λh1=>?_) (λh1=>?_)
  ·refine⟨t.setZ,Ztm _ _ _ _ _ _ _ _,?_⟩
   simp only[ZpT]
   (repeat' split) <;> simp_all <;> omega
  ·simp only[ZpT]
   (repeat' split) <;> simp_all <;> omega
 ·simp[Ret,T.right,h]
 ·refine Zab (λh1=>Zai aU ?_) (λh1=>Zab (λh2=>⟨t.setZ,Ztm _ _ _ _ _ _ _ _,Zai aU ?_⟩) (λh2=>Zab (λh3=>?_) (λh3=>Zab (λh4=>?_) (λh4=>Zab (λh5=>?_) (λh5=>?_)))))
  ·have:t.k=1:=by simpa using h1
   show Value.bool _=Value.bool t.right;rw[T.right,h];simp[this]
  ·have:t.k=2:=by simpa using h2
   show Value.bool _=Value.bool t.right;rw[T.right,h];simp[this]
  ·have:t.k=3:=by simpa using h3
   refine⟨decide (1 < t.subs.length)&&(!t.has 1&&!t.has 3),Zab (λh4=>?_) (λh4=>?_),Zai aU ?_⟩
   ·refine Za5 (Zp9 t 1 m1 cU) λm2 bC=>Zab (λh5=>?_) (λh5=>?_)
    ·refine Za5 (Zp9 t 3 m2 (cU.mono bC)) λm3 cJ=>⟨rfl,ZaI ?_⟩
     simp_all <;> (intros;omega)
    ·refine⟨rfl,ZaI ?_⟩
     simp_all <;> (intros;omega)
   ·refine⟨rfl,ZaI ?_⟩
    simp_all <;> (intros;omega)
   ·show Value.bool _=Value.bool t.right;rw[T.right,h];simp[this]
  ·have:t.k=4:=by simpa using h4
   refine⟨decide (1 < t.subs.length)&&!t.has 4,Zab (λh4=>?_) (λh4=>?_),Zai aU ?_⟩
   ·refine Za5 (Zp9 t 4 m1 cU) λm2 bC=>⟨rfl,ZaI ?_⟩
    simp_all <;> (intros;omega)
   ·refine⟨rfl,ZaI ?_⟩
    simp_all <;> (intros;omega)
   ·show Value.bool _=Value.bool t.right;rw[T.right,h];simp[this]
  ·have:t.k=5:=by simpa using h5
   refine⟨t.subs.length == 1&&(ZgI t.mn t.mx&&!t.has 1),Zab (λh4=>?_) (λh4=>?_),Zai aU ?_⟩
   ·refine Za5 (Zp8 t.mn t.mx m1) λm2 bC=>Zab (λh5=>?_) (λh5=>?_)
    ·refine Za5 (Zp9 t 1 m2 (cU.mono bC)) λm3 cJ=>⟨rfl,ZaI ?_⟩
     have h4':((t.subs.length:Int) == 1)=true:=h4
     have:t.subs.length=1:=by have:=of_decide_eq_true h4';omega
     simp_all <;> (intros;omega)
    ·refine⟨rfl,ZaI ?_⟩
     simp_all <;> (intros;omega)
   ·refine⟨rfl,ZaI ?_⟩
    have h4':((t.subs.length:Int) == 1)=false:=h4
    have:¬t.subs.length=1:=by have:=of_decide_eq_false h4';omega
    simp_all <;> (intros;omega)
   ·show Value.bool _=Value.bool t.right;rw[T.right,h];simp[this]
  ·refine⟨t.k == 6&&t.subs.length == 1,Zab (λh4=>⟨rfl,ZaI ?_⟩) (λh4=>⟨rfl,ZaI ?_⟩),Zai aU ?_⟩
   ·have:(t.k == 6)=true:=h4
    rw[this,Bool.true_and]
    show(decide ((t.subs.length:Int)=1))=decide (t.subs.length=1)
    rw[decide_eq_decide];omega
   ·have:(t.k == 6)=false:=h4
    simp[this]
   ·show Value.bool _=Value.bool t.right;rw[T.right,h]
    have e1:¬t.k=1:=by simpa using h1
    have e2:¬t.k=2:=by simpa using h2
    have e3:¬t.k=3:=by simpa using h3
    have e4:¬t.k=4:=by simpa using h4
    have e5:¬t.k=5:=by simpa using h5
    simp[e1,e2,e3,e4,e5]
theorem Zo3(t:T)(m:Mem)(hr:Rep m t):CX Try.prog 48 #[t.v] m [] (Ret (.bool t.clean)):=by
 apply ZmP
 unfold Zir
 intro b m1 aU _ b2
 refine Za5 (Zjq t m1 (hr.mono aU)) λm2 bC=>Zab (λh=>Zai (mLt aU bC) ?_) (λh=>?_)
 ·have:t.light=false:=by simpa using h
  simp[Ret,T.clean,this]
 have hl:t.light=true:=by simpa using h
 refine Za7 (Zhx t m2) (λv m' css h=>by obtain⟨_,rfl,_⟩:=h;rfl) ?_
 rintro g fi ca m3 cJ ⟨b3,hv,jC⟩
 obtain⟨rfl,rfl,rfl⟩:=Zht hv
 have bO:=mLt aU (mLt bC cJ)
 refine⟨_,Zfu t m3 b3 jC (hr.mono bO),λy hy=>?_,λ_ css _ m' q=>m3.le m'/\∀x∈t.nodes.take q,x.right=true,⟨Mem.le_refl _,by simp⟩,?_,?_⟩
 ·obtain⟨z,_,rfl⟩:=List.mem_map.1 hy;exact Zn2 z
 ·rintro n0 n1 n2 n3 n4 n5 n6 a n7 c cs m4 q cI hq ⟨_,fZ⟩ b4
  have hq':(List.map (λz:T=>[z.v]) t.nodes)[(q:Nat)]?=some [Value.agg #[.int .u8 n0,.int .u64 n1,.int .u64 n2,.int .u64 n3,.int .u64 n4,.int .i64 n5,.int .i64 n6,.slice a n7 c]]:=hq
  rw[List.getElem?_map]at hq'
  obtain⟨z,hz,rV⟩:=Option.map_eq_some_iff.1 hq'
  have uP:z.v=Value.agg #[.int .u8 n0,.int .u64 n1,.int .u64 n2,.int .u64 n3,.int .u64 n4,.int .i64 n5,.int .i64 n6,.slice a n7 c]:=by simpa using rV
  have xS:Rep m4 z:=(ZpV (hr.mono bO) (List.mem_of_getElem? hz)).mono cI
  have hU:=ZrM z m4 xS
  rw[uP]at hU
  refine Za5 hU λm5 eT=>Zab (λh=>⟨rfl,Zai (mLt bO (mLt cI eT)) ?_⟩) (λh=>⟨rfl,mLt cI eT,λx hx=>?_⟩)
  ·have uk:z.right=false:=by simpa using h
   have:t.nodes.all T.right=false:=by
    rw[List.all_eq_false];exact⟨z,List.mem_of_getElem? hz,by simp[uk]⟩
   simp[Ret,T.clean,this]
  ·rw[List.take_add_one,hz]at hx
   rcases List.mem_append.1 hx with hx|hx
   ·exact fZ x hx
   ·simp at hx;rw[hx];simpa using h
 ·rintro cs m4 cI ⟨_,fZ⟩
  refine Zai (mLt bO cI) ?_
  rw[List.length_map,List.take_length]at fZ
  have:t.nodes.all T.right=true:=List.all_eq_true.2 fZ
  simp[Ret,T.clean,this,hl]
theorem Ztn(t:T)(m:Mem)(hr:Rep m t):CX Try.prog 49 #[t.v] m [] (Ret (.int .i64 t.size)):=by
 apply Zoc
 unfold Zkp
 intro b m1 aU _
 refine Za5 (Zjq t m1 (hr.mono aU)) λm2 bC=>Zab (λh=>Zai (mLt aU bC) ?_) (λh=>?_)
 ·have:t.light=false:=by simpa using h
  simp[Ret,T.size,this]
 have hl:t.light=true:=by simpa using h
 have uQ:t.nodes.length<=10000:=of_decide_eq_true hl
 intro b2
 refine Za7 (Zhx t m2) (λv m' css h=>by obtain⟨_,rfl,_⟩:=h;rfl) ?_
 rintro g fi ca m3 cJ ⟨b3,hv,jC⟩
 obtain⟨rfl,rfl,rfl⟩:=Zht hv
 have bO:=mLt aU (mLt bC cJ)
 refine⟨_,Zfu t m3 b3 jC (hr.mono bO),λy hy=>?_,λ_ css _ m' q=>css=[[.int .i64 q]]/\q<=t.nodes.length,⟨rfl,by omega⟩,?_,?_⟩
 ·obtain⟨z,_,rfl⟩:=List.mem_map.1 hy;exact Zn2 z
 ·rintro n0 n1 n2 n3 n4 n5 n6 a n7 c cs m4 q cI hq ⟨cR,_⟩
  obtain rfl:cs=[.int .i64 q]:=by simpa using cR
  have aN:q < t.nodes.length:=by
   have:=(List.getElem?_eq_some_iff.1 (show(List.map (λz:T=>[z.v]) t.nodes)[(q:Nat)]?=some _ from hq)).1
   simpa using this
  have hw:IntKind.i64.wrap (intOf (Value.int .i64 (q:Int))+1)=(q:Int)+1:=Zbl (n:=(q:Int)+1) (by omega) (by omega)
  refine Zao rfl (Zaa rfl ?_)
  simp only[hw]
  exact⟨by trivial,by simp,by omega⟩
 ·rintro cs m4 cI ⟨cR,fZ⟩
  obtain rfl:cs=[.int .i64 t.nodes.length]:=by simpa using cR
  refine Zao rfl (Zai (mLt bO cI) ?_)
  simp[Ret,T.size,hl]
theorem Zqa(t:T)(m:Mem)(hr:Rep m t):CX Try.prog 20 #[t.v] m [] (Ret (.int .i64 t.groups)):=by
 apply Zk1
 unfold ZgS
 intro b m1 aU _
 refine Za5 (Zjq t m1 (hr.mono aU)) λm2 bC=>Zab (λh=>Zai (mLt aU bC) ?_) (λh=>?_)
 ·have:t.light=false:=by simpa using h
  simp[Ret,T.groups,this]
 have hl:t.light=true:=by simpa using h
 have uQ:t.nodes.length<=10000:=of_decide_eq_true hl
 intro b2
 refine Za7 (Zhx t m2) (λv m' css h=>by obtain⟨_,rfl,_⟩:=h;rfl) ?_
 rintro g fi ca m3 cJ ⟨b3,hv,jC⟩
 obtain⟨rfl,rfl,rfl⟩:=Zht hv
 have bO:=mLt aU (mLt bC cJ)
 have dT:∀q,(t.nodes.take q).countP (λx=>x.k == 6)<=10000:=λq=>by
  have h1:=List.countP_le_length (p:=λx:T=>x.k == 6) (l:=t.nodes.take q)
  have h2:(t.nodes.take q).length<=t.nodes.length:=List.length_take_le' _ _
  omega
 refine⟨_,Zfu t m3 b3 jC (hr.mono bO),λy hy=>?_,λ_ css _ m' q=>css=[[.int .i64 ((t.nodes.take q).countP λx=>x.k == 6:Nat)]]/\q<=t.nodes.length,⟨rfl,by omega⟩,?_,?_⟩
 ·obtain⟨z,_,rfl⟩:=List.mem_map.1 hy;exact Zn2 z
 ·rintro n0 n1 n2 n3 n4 n5 n6 a n7 c cs m4 q cI hq ⟨cR,_⟩ b4
  obtain rfl:cs=_:=by simpa using cR
  have hq':(List.map (λz:T=>[z.v]) t.nodes)[(q:Nat)]?=some [Value.agg #[.int .u8 n0,.int .u64 n1,.int .u64 n2,.int .u64 n3,.int .u64 n4,.int .i64 n5,.int .i64 n6,.slice a n7 c]]:=hq
  rw[List.getElem?_map]at hq'
  obtain⟨z,hz,rV⟩:=Option.map_eq_some_iff.1 hq'
  have hk:z.k=n0:=by
   have:z.v=Value.agg #[.int .u8 n0,.int .u64 n1,.int .u64 n2,.int .u64 n3,.int .u64 n4,.int .i64 n5,.int .i64 n6,.slice a n7 c]:=by simpa using rV
   simp[T.v]at this;exact this.1
  have aN:=(List.getElem?_eq_some_iff.1 hz).1
  have eI:(t.nodes.take (q+1)).countP (λx=>x.k == 6)=(t.nodes.take q).countP (λx=>x.k == 6)+(if z.k == 6 then 1 else 0):=by
   rw[List.take_add_one,hz,List.countP_append];simp[List.countP_cons]
  refine Zab (λh=>?_) (λh=>?_)
  ·have hw:IntKind.i64.wrap (intOf (Value.int .i64 ((t.nodes.take q).countP λx=>x.k == 6:Nat))+1)=(((t.nodes.take q).countP λx=>x.k == 6:Nat):Int)+1:=Zbl (n:=(((t.nodes.take q).countP λx=>x.k == 6:Nat):Int)+1) (by have:=dT q;omega) (by have:=dT q;omega)
   refine Zao rfl (Zaa rfl ?_)
   simp only[hw]
   refine⟨by trivial,?_,by omega⟩
   rw[eI,hk]
   have:(n0 == 6)=true:=h
   simp[this]
  ·refine⟨rfl,?_,by omega⟩
   rw[eI,hk]
   have:(n0 == 6)=false:=h
   simp[this]
 ·rintro cs m4 cI ⟨cR,fZ⟩
  obtain rfl:cs=_:=by simpa using cR
  refine Zao rfl (Zai (mLt bO cI) ?_)
  simp[Ret,T.groups,hl]
theorem ZgU(t:T)(m:Mem)(hr:Rep m t)(hl:t.nodes.length<=10000):CX Try.prog 78 #[t.v] m [] (Ret (.int .i64 t.pos)):=by
 apply ZgQ
 unfold Zeq
 intro b m1 aU _
 have iE:=ZqJ t
 have iD:=Zn3 t
 refine Zab (λhk=>?_) (λhk=>?_)
 all_goals
  have hk':(if t.k=2 then(1:Int)else 0)=1/\t.k=2\/(if t.k=2 then(1:Int)else 0)=0/\t.k≠2:=by split <;> simp_all
  refine⟨λxs _ _ m'' q=>∃i:Nat,i<=t.subs.length/\xs=[.int .i64 ((if t.k=2 then 1 else 0)+ZeQ (t.subs.take i)),.int .i64 i]/\m1.le m''/\q=t.subs.length - i,⟨t.subs.length,0,by omega,by simp_all [ZeQ],Mem.le_refl _,by omega⟩,?_⟩
  rintro n n1 m2 q bC ⟨i,hi,cH,_,hq⟩
  have dZ:=ZgJ (t.subs.take i)
  have dW:=ZqI (t.subs.take i)
  have jC:(t.subs.take i).length<=i:=List.length_take_le _ _
  clear hk'
  generalize hc:(if t.k=2 then(1:Int)else 0)=c at *
  have mL:0<=c/\c<=1:=by rw[<-hc];split <;> omega
  simp only[List.cons.injEq,Value.int.injEq,true_and,and_true]at cH
  obtain⟨rfl,rfl⟩:=cH
  refine Zab (λaN=>?_) (λcP=>?_)
  ·have aT:i < t.subs.length:=by simpa using aN
   obtain⟨x,hx⟩:∃x,t.subs[i]?=some x:=⟨_,List.getElem?_eq_getElem aT⟩
   have bQ:x∈t.subs:=List.mem_of_getElem? hx
   have bK:=Zru bQ
   have Ap:=ZpX bQ
   obtain⟨_,h0|⟨b1,o1,ha,hO⟩⟩:=ZgH hr
   ·rw[h0]at aT;simp at aT
   obtain⟨eJ,iL⟩:=(hO.mono ((mLt aU bC))).get hx
   have wW:=ZhM x
   refine⟨b1,o1,ha,⟨by omega,by omega⟩,_,_,_,_,_,_,_,_,eJ,λb2=>Zaa rfl ?_⟩
   refine ZfW (ZgU x m2 iL (by omega)) λm3 cJ=>⟨rfl,t.subs.length - (i+1),by omega,i+1,by omega,?_,mLt bC cJ,rfl⟩
   rw[Zbl (by omega) (by omega),Zbl (by omega) (by omega),ZpW hx,Int.add_assoc]
   rfl
  ·have hi':i=t.subs.length:=by
    have:¬((i:Int) < (t.subs.length:Int)):=by simpa using cP
    omega
   subst hi'
   rw[List.take_length]at dZ dW ⊢
   have hF:=ZqH t.mn t.mx
   have rW:0<=(c+ZeQ t.subs)*Zrv t.mn t.mx/\(c+ZeQ t.subs)*Zrv t.mn t.mx<=100020001*10001:=by
    constructor
    ·exact Int.mul_nonneg (by omega) hF.1
    ·exact Int.mul_le_mul (by omega) hF.2 hF.1 (by omega)
   refine Zab (λh5=>Zab (λhx=>Zai (mLt aU bC) ?_) (λhx=>Zai (mLt aU bC) ?_)) (λh5=>Zai (mLt aU bC) ?_)
   ·have e1:t.k=5:=by simpa using h5
    have e2:t.mx=-1:=by simpa using hx
    have hF':Zrv t.mn t.mx=ZoL (Znj (Znj t.mn 0) 1) 10001:=by simp[Zrv,e2]
    show Value.int .i64 (ZoL (IntKind.i64.wrap ((c+ZeQ t.subs)*ZoL (Znj (Znj t.mn 0) 1) 10001)) 10001)=Value.int .i64 t.pos
    rw[<-hF',Zbl (by omega) (by omega),iD,Zsf,if_pos e1];rfl
   ·have e1:t.k=5:=by simpa using h5
    have e2:¬t.mx=-1:=by simpa using hx
    have hF':Zrv t.mn t.mx=ZoL (Znj (Znj t.mn 0) t.mx) 10001:=by simp[Zrv,e2]
    show Value.int .i64 (ZoL (IntKind.i64.wrap ((c+ZeQ t.subs)*ZoL (Znj (Znj t.mn 0) t.mx) 10001)) 10001)=Value.int .i64 t.pos
    rw[<-hF',Zbl (by omega) (by omega),iD,Zsf,if_pos e1];rfl
   ·have e1:¬t.k=5:=by simpa using h5
    show Value.int .i64 (ZoL (c+ZeQ t.subs) 10001)=Value.int .i64 t.pos
    rw[iD,Zsf,if_neg e1]
termination_by SizeOf.sizeOf t
decreasing_by all_goals exact bK
theorem Zk3(t:T)(m:Mem)(hr:Rep m t):CX Try.prog 50 #[t.v] m [] (Ret (.int .i64 t.positions)):=by
 apply ZgR
 unfold Zer
 intro b m1 aU _
 refine Za5 (Zjq t m1 (hr.mono aU)) λm2 bC=>Zab (λh=>Zai (mLt aU bC) ?_) (λh=>?_)
 ·have:t.light=false:=by simpa using h
  simp[Ret,T.positions,this]
 have hl:t.light=true:=by simpa using h
 refine ZfW (ZgU t m2 (hr.mono (mLt aU bC)) (of_decide_eq_true hl)) λm3 cJ=>Zai (mLt aU (mLt bC cJ)) ?_
 simp[Ret,T.positions,hl]
def Zwq(bg en:Bool)(t:T):Value:=.agg #[.bool bg,.bool en,.int .u8 t.k,.int .u64 t.s0,.int .u64 t.s1,.int .u64 t.s2,.int .u64 t.s3,.int .i64 t.mn,.int .i64 t.mx,.slice t.a t.subs.length t.c]
theorem Zo4(bg en:Bool)(t:T)(m:Mem)(hr:Rep m t):CX Try.prog 19 #[Zwq bg en t] m [] (Ret (.int .i64 t.check)):=by
 apply ZmR
 unfold Zis
 intro b m1 aU _
 refine Za5 (Zo3 t m1 (hr.mono aU)) λm2 bC=>Zab (λh=>Zai (mLt aU bC) ?_) (λh=>?_)
 ·have:t.clean=false:=by simpa using h
  simp[Ret,T.check,this]
 have iN:=mLt aU bC
 have h1:¬t.clean=false:=by simpa using h
 refine ZfW (Ztn t m2 (hr.mono iN)) λm3 cJ=>Zab (λh=>Zai (mLt iN cJ) ?_) (λh=>?_)
 ·have h2:t.size > 120:=by simpa using h
  show Value.int .i64 81=Value.int .i64 t.check
  rw[T.check,if_neg h1,if_pos h2]
 have h2:¬t.size > 120:=by simpa using h
 have qs:=mLt iN cJ
 refine ZfW (Zk3 t m3 (hr.mono qs)) λm4 cI=>Zab (λh=>Zai (mLt qs cI) ?_) (λh=>?_)
 ·have h3:t.positions > 400:=by simpa using h
  show Value.int .i64 82=Value.int .i64 t.check
  rw[T.check,if_neg h1,if_neg h2,if_pos h3]
 have h3:¬t.positions > 400:=by simpa using h
 have qt:=mLt qs cI
 refine ZfW (Zqa t m4 (hr.mono qt)) λm5 eT=>Zab (λh=>Zai (mLt qt eT) ?_) (λh=>Zai (mLt qt eT) ?_)
 ·have h4:t.groups > 9:=by simpa using h
  show Value.int .i64 83=Value.int .i64 t.check
  rw[T.check,if_neg h1,if_neg h2,if_neg h3,if_pos h4]
 ·have h4:¬t.groups > 9:=by simpa using h
  show Value.int .i64 0=Value.int .i64 t.check
  rw[T.check,if_neg h1,if_neg h2,if_neg h3,if_neg h4]
end Go.Proofs.Ytgclajkldphoaaa
set_option linter.unusedVariables false
set_option linter.unusedSimpArgs false
set_option linter.unusedSectionVars false
namespace Go.Proofs.Ytgclajkldphoaaa
open Go Go.Eng Go.Rx Go.Proofs Go.RowKit
theorem ZtO{b:Bool}{p q:Prop}(h:b=true)(k:p):br b p q:=by subst h;exact k
theorem Zsr{b:Bool}{p q:Prop}(h:b=false)(k:q):br b p q:=by subst h;exact k
theorem Zit{α:Type}{l:List α}{k:Nat}(h:k < l.length):∃x,l[k]?=some x:=⟨l[k],List.getElem?_eq_getElem h⟩
theorem Zbn(t:T):Rx.Zcz [t]=t.cs:=by simp[Rx.Zcz]
theorem Zes{m:Mem}{a:Option Addr}{ts:List T}(h:rowRd m a (Rx.Zcz ts)){i:Nat}{t:T}(hi:ts[i]?=some t):∃b o,a=some ⟨b,o,none⟩/\m.reads b (o+i*8) t.cs:=by
 rcases h with h|⟨b,o,ha,h⟩
 ·have hl:(Rx.Zcz ts).length=0:=by rw[h];rfl
  rw[Zap]at hl
  have:=(List.getElem?_eq_some_iff.1 hi).1
  omega
 ·refine⟨b,o,ha,λj v hj=>?_⟩
  rw[Nat.add_assoc]
  refine h (i*8+j) v ?_
  have e:ts=ts.take i++(t::ts.drop (i+1)):=by
   have aN:=(List.getElem?_eq_some_iff.1 hi).1
   have h2:=List.drop_eq_getElem_cons aN
   rw[(List.getElem?_eq_some_iff.1 hi).2]at h2
   rw[<-h2,List.take_append_drop]
  have aN:=(List.getElem?_eq_some_iff.1 hi).1
  have xU:=(List.getElem?_eq_some_iff.1 hj).1
  rw[e,ZaF,List.getElem?_append_right (by rw[Zap,List.length_take,Nat.min_eq_left (by omega)];omega),Zap,List.length_take,Nat.min_eq_left (by omega),show i*8+j - i*8=j by omega]
  have e2:Rx.Zcz (t::ts.drop (i+1))=t.cs++Rx.Zcz (ts.drop (i+1)):=by simp[Rx.Zcz]
  rw[e2,List.getElem?_append_left xU];exact hj
def Znr(mb M0:Mem)(φ:T->Prop):Value->Mem->List (List Value)->Prop:=λv M' css=>∃m0,mb.le m0/\m0.le M'/\(∀b o u,M0 b o=some u->∀o',m0 b o'=mb b o')/\Zi9 φ v m0 css
theorem Ziu{mb M0:Mem}{φ:T->Prop}{m:Mem}{K:TRK}(k:∀(t:T)(m0 m':Mem),m.le m'->mb.le m0->m0.le m'->(∀b o u,M0 b o=some u->∀o',m0 b o'=mb b o')->Rep m0 t->φ t->K t.k t.s0 t.s1 t.s2 t.s3 t.mn t.mx t.a t.subs.length t.c m'):
  ∀(n0 n1 n2 n3 n4 n5 n6:Int)(a:Option Addr)(n c:Nat)(m':Mem),m.le m'->Znr mb M0 φ (.agg #[.int .u8 n0,.int .u64 n1,.int .u64 n2,.int .u64 n3,.int .u64 n4,.int .i64 n5,.int .i64 n6,.slice a n c]) m' []->K n0 n1 n2 n3 n4 n5 n6 a n c m':=by
 rintro n0 n1 n2 n3 n4 n5 n6 a n c m' hm ⟨m0,h1,h2,h3,t,hv,hr,hp⟩
 simp only[T.v,Value.agg.injEq,Array.mk.injEq,List.cons.injEq,Value.int.injEq,Value.slice.injEq,true_and,and_true]at hv
 obtain⟨rfl,rfl,rfl,rfl,rfl,rfl,rfl,rfl,rfl,rfl⟩:=hv
 exact k t m0 m' hm h1 h2 h3 hr hp
theorem Zdu{mb M0:Mem}{φ:T->Prop}:∀(v:Value)(m':Mem) (css:List (List Value)),Znr mb M0 φ v m' css->Shape.fits (.agg [.int .u8,.int .u64,.int .u64,.int .u64,.int .u64,.int .i64,.int .i64,.slice]) v=true:=λv _ _ ⟨_,_,_,_,t,e,_⟩=>by rw[e];rfl
def Apart(mb:Mem)(a:Option Addr):Prop:=a=none\/∃b,a=some ⟨b,0,none⟩/\mb.free b
theorem Apart.tok{mb M:Mem}{a a':Option Addr}{n c:Nat}(h:Apart mb a)(hm:mb.le M)(ht:TokFact M a a' n c):Apart mb a':=by
 rcases ht.2 with h1|⟨b,o,h1,h2⟩
 ·exact .inl h1
 rcases h2 with h2|⟨h3,h2⟩
 ·rw[<-h2];exact h
 ·subst h3
  refine .inr ⟨b,h1,λo=>?_⟩
  cases hb:mb b o with
  | none=>rfl
  | some v=>have:=hm _ _ _ hb;rw[h2.1 o]at this;cases this
theorem Zo5{m:Mem}{a:Option Addr}{ts r:List T}(h:rowRd m a (Rx.Zcz (ts++r))):rowRd m a (Rx.Zcz ts):=by
 rw[ZaF]at h
 rcases h with h|⟨b,o,ha,h⟩
 ·exact .inl (List.append_eq_nil_iff.1 h).1
 ·refine .inr ⟨b,o,ha,λj v hj=>h j v ?_⟩
  rw[List.getElem?_append_left (List.getElem?_eq_some_iff.1 hj).1];exact hj
theorem Zo6{m:Mem}{b:Nat}{ts:List T}{x t:T}(h:rowRd m (some ⟨b,0,none⟩) (Rx.Zcz (ts++[x]))):rowRd (m.upd b (0+ts.length*8) t.cs) (some ⟨b,0,none⟩) (Rx.Zcz (ts++[t])):=by
 refine .inr ⟨b,0,rfl,λj v hj=>?_⟩
 rw[ZaF]at hj
 rcases Nat.lt_or_ge j (ts.length*8)with aN|cP
 ·rw[List.getElem?_append_left (by rw[Zap];exact aN)]at hj
  unfold Mem.upd;try dsimp only
  rw[if_neg (by omega)]
  rcases h with h|⟨b',o',ha,h⟩
  ·have hl:(Rx.Zcz (ts++[x])).length=0:=by rw[h];rfl
   rw[Zap,List.length_append]at hl
   simp at hl
  ·cases ha
   refine h j v ?_
   rw[ZaF,List.getElem?_append_left (by rw[Zap];exact aN)];exact hj
 ·rw[List.getElem?_append_right (by rw[Zap];exact cP),Zap,Zbn]at hj
  have h8:=(List.getElem?_eq_some_iff.1 hj).1
  have h8':t.cs.length=8:=rfl
  unfold Mem.upd;try dsimp only
  rw[if_pos ⟨rfl,by omega,by omega⟩,show 0+j - (0+ts.length*8)=j - ts.length*8 by omega]
  exact hj
theorem Apart.base{mb m:Mem}{a:Option Addr}{ts:List T}(h:Apart mb a)(aM:rowRd m a (Rx.Zcz ts))(hn:ts≠[]):∃b,a=some ⟨b,0,none⟩/\mb.free b/\∃o u,m b o=some u:=by
 obtain⟨t,r,rfl⟩:∃t r,ts=t::r:=by cases ts with
  | nil=>exact absurd rfl hn
  | cons t r=>exact⟨t,r,rfl⟩
 obtain⟨b',o,ha,cO⟩:=Zes aM (i:=0) (t:=t) rfl
 rcases h with h|⟨b,hb,hf⟩
 ·rw[h]at ha;cases ha
 ·rw[hb]at ha;cases ha
  exact⟨b',hb,hf,_,_,cO 0 (.int .u8 t.k) rfl⟩
theorem ZuU{ts:List T}(h:1 < ts.length):∃r x y,ts=r++[x,y]:=by
 have h1:ts.length - 2 < ts.length:=by omega
 refine⟨ts.take (ts.length - 2),ts[ts.length - 2],ts[ts.length - 1],?_⟩
 have e:=(List.take_append_drop (ts.length - 2) ts).symm
 rw[List.drop_eq_getElem_cons h1,List.drop_eq_getElem_cons (by omega),List.drop_eq_nil_of_le (by omega)]at e
 simpa[show ts.length - 2+1=ts.length - 1 by omega]using e
theorem ZuV{ts:List T}(h:0 < ts.length):∃r x,ts=r++[x]:=by
 refine⟨ts.dropLast,ts.getLast (by intro e;subst e;simp at h),?_⟩
 exact(List.dropLast_concat_getLast _).symm
end Go.Proofs.Ytgclajkldphoaaa
set_option linter.unusedVariables false
namespace Go.Proofs.Ytgclajkldphoaaa
open Go Go.Eng Go.Proofs Go.RowKit
open Go.Value (int slice agg bool string tuple func)
open Go.IntKind (u8 u64 i64)
set_option maxRecDepth 100000
end Go.Proofs.Ytgclajkldphoaaa
