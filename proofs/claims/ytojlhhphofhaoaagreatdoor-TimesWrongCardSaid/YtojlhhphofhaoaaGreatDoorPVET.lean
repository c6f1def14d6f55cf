/- Part of the proof: functions of the program. No condition. -/
import Derived.Test.YtojlhhphofhaoaaGreatDoorPEnv
set_option linter.unusedVariables false
set_option linter.unusedSimpArgs false
set_option linter.unusedSectionVars false
namespace Go.Proofs.YtojlhhphofhaoaaGreatDoor
open Go Go.Eng Go.Proofs Go.RowKit
open Go.Value (int slice agg bool string tuple func)
open Go.IntKind (u8 u64 i64)
set_option maxRecDepth 100000
noncomputable def Zdb:Env:={ EB with
 loops:=(λi=>bif Nat.beq i 3 then⟨[(8,.int .i64),(13,.int .i64)],[],[],false⟩ else⟨[],[],[],false⟩)
 dr:=(λi=>bif Nat.beq i 5 then[⟨0,[],[],none,[],[]⟩,⟨1,[10],[],none,[],[]⟩,⟨2,[],[],none,[0,1],[]⟩,⟨3,[],[],none,[0,1,2],[]⟩,⟨4,[],[],none,[0,1,2,3],[]⟩,⟨5,[],[],none,[0,1,2,3,4],[]⟩,⟨6,[],[],none,[0,1,2,3,4,5],[]⟩,⟨7,[],[],none,[0,1,2,3,4,5,6],[]⟩,⟨8,[10],[],none,[0,1,2,3,4,5,6],[2]⟩,⟨9,[],[],none,[0,1,2,3,4,5,6,7,8],[2]⟩,⟨10,[],[],none,[0,1,2,3,4,5,6],[]⟩,⟨11,[],[],none,[0,1,2,3,4,5,6],[]⟩,⟨12,[],[],none,[0,1,2,3,4,5,6],[]⟩,⟨13,[],[],none,[0,1,2,3,4,5,6,11,12],[]⟩,⟨14,[],[],none,[0,1,2,3,4,5,6,11,12,13],[2]⟩,⟨15,[],[],none,rg 0 15,[9]⟩,⟨16,[],[],none,rg 0 16,[]⟩,⟨17,[],[],none,rg 0 17,[]⟩,⟨18,[],[],none,rg 0 18,[]⟩]else[])
 gb:=true }
theorem Zc4(p0a:Option Addr)(p0n p0c p1g:Nat)(p1fi p1ca:List Value)(p2g:Nat)(p2fi p2ca:List Value)(m:Mem)(R:RT)(h:
 ∃(I:IT),(∃(n:Nat),I [int i64 (-1:Int),int i64 0] [] [] m n)/\∀(n ab:Int)(m':Mem)(au:Nat),m.le m'->I [int i64 n,int i64 ab] [] [] m' au->br (decide (ab < (↑p0n:Int))) (∃(b:Nat),∃(o:
 Nat),p0a=some (Addr.mk b o none)/\Zaf ab p0n/\∃v ac ad ae af ag ah ai aj ak al am an ao ap aq:Value,m'.reads b (o+Int.toNat ab*16) [v,ac,ad,ae,af,ag,ah,ai,aj,ak,al,am,an,ao,ap,aq]/\∀(b:Nat),chk
 (v.oneCell'&&(ac.oneCell'&&(ad.oneCell'&&(ae.oneCell'&&(af.oneCell'&&(ag.oneCell'&&(ah.oneCell'&&(ai.oneCell'&&(aj.oneCell'&&(ak.oneCell' &&
 (al.oneCell'&&(am.oneCell'&&(an.oneCell'&&(ao.oneCell'&&(ap.oneCell'&&(aq.oneCell'&&true)))))))))))))))) (∃(f:Fx),∃(R:RT),R=f 2 (List.append (List.append p1fi
 [agg (Array.mk [v,ac,ad,ae,af,ag,ah,ai,aj,ak,al,am,an,ao,ap,aq])]) p1ca) m'/\CX Tryz.prog p1g (Array.mk (List.append (List.append p1fi [agg (Array.mk [v,ac,ad,ae,af,ag,ah,ai,aj,ak,al,am,an,
 ao,ap,aq])]) p1ca)) m' [] R/\Zap Shape.bool R/\∀(b:Bool)(aa:Mem),m'.le aa->R (bool b) aa []->br b (br (decide (n < (0:Int))) (∀(M:Mem),m'.le M->aa.le M->aa.le M->aa.le M->∃
 (n':Nat),n' < au/\I [int i64 ab,int i64 (i64.wrap (ab+(1:Int)))] [] [] M n') (∃(R:RT),R=f 9 (List.append (List.append p2fi [agg (Array.mk [v,ac,ad,ae,af,ag,ah,ai,aj,ak,al,am,an,ao,
 ap,aq])]) p2ca) aa/\CX Tryz.prog p2g (Array.mk (List.append (List.append p2fi [agg (Array.mk [v,ac,ad,ae,af,ag,ah,ai,aj,ak,al,am,an,ao,ap,aq])]) p2ca)) aa [] R/\Zap (Shape.int i64) R/\∀(bb:Int)
 (ar:Mem),aa.le ar->R (int i64 bb) ar []->∃(b:Nat),∃(o:Nat),p0a=some (Addr.mk b o none)/\Zaf n p0n/\∃v av aw ax ay az a0 a1 a2 a3 a4 a5 a6 a7 a8 a9:Value,aa.reads b (o+Int.toNat n*16) [v,av,aw,ax,ay,
 az,a0,a1,a2,a3,a4,a5,a6,a7,a8,a9]/\∃(R:RT),R=f 15 (List.append (List.append p2fi [agg (Array.mk [v,av,aw,ax,ay,az,a0,a1,a2,a3,a4,a5,a6,a7,a8,a9])]) p2ca) ar/\CX Tryz.prog p2g (Array.mk
 (List.append (List.append p2fi [agg (Array.mk [v,av,aw,ax,ay,az,a0,a1,a2,a3,a4,a5,a6,a7,a8,a9])]) p2ca)) ar [] R/\Zap (Shape.int i64) R/\∀(bc:Int)(ba:Mem),ar.le ba->R (int i64 bc) ba []->∀
 (M:Mem),m'.le M->aa.le M->ar.le M->ba.le M->br (decide (bb < bc)) (∃(n':Nat),n' < au/\I [int i64 ab,int i64 (i64.wrap (ab+(1:Int)))] [] [] M n') (∃(n':Nat),n' < au/\I [int
 i64 n,int i64 (i64.wrap (ab+(1:Int)))] [] [] M n'))) (∀(M:Mem),m'.le M->aa.le M->aa.le M->aa.le M->∃(n':Nat),n' < au/\I [int i64 n,int i64 (i64.wrap (ab+(1:Int)))]
 [] [] M n'))) (∃(m'':Mem),m.le m''/\m''.le m'/\R (tuple (Array.mk [int i64 (if(0:Int) > n then(0:Int)else n),bool (decide (n ≥ (0:Int)))])) m'' [])):CX Tryz.prog 83 #[.slice p0a p0n p0c,.func (.func p1g) p1fi.toArray p1ca.toArray,.func (.func p2g) p2fi.toArray p2ca.toArray] m [] R:=
 Zad (E:=Zdb) Zak mix Tryz.func83 [.v (.slice p0a p0n p0c),.v (.func (.func p1g) p1fi.toArray p1ca.toArray),.v (.func (.func p2g) p2fi.toArray p2ca.toArray)] [] (by kernel_rfl) (Eq.mp (by kernel_rfl) h)
noncomputable def Zg2:Env:={ EB with
 frzNew:=[1] }
theorem Zgc(aA:ByteArray)(aH:Option Addr)(aG aI:Nat)(m:Mem)(R:RT)(h:
 ∀(b:Nat)(m':Mem),m.le m'->m'.reads b 0 [string aA,slice aH aG aI]->∃(R_1:RT),True/\CX Tryz.prog 83 (Array.mk [slice aH aG aI,func (Fn.func 84) (Array.mk []) (Array.mk []),
 func (Fn.func 85) (Array.mk []) (Array.mk [])]) m' [] R_1/\Zap (Shape.tup [Shape.int i64,Shape.bool]) R_1/\∀(n:Int)(b:Bool)(m'_1:Mem),m'.le m'_1->R_1 (tuple (Array.mk [int i64 n,bool b])) m'_1 []->∃
 (m'':Mem),m.le m''/\m''.le m'_1/\R (tuple (Array.mk [int i64 n,bool b])) m'' []):CX Tryz.prog 49 #[.agg #[.string aA,.slice aH aG aI]] m [] R:=
 Zad (E:=Zg2) Zak mix Tryz.func49 [.v (.agg #[.string aA,.slice aH aG aI])] [] (by kernel_rfl) (Eq.mp (by kernel_rfl) h)
noncomputable def ZoD:Env:={ EB with
 frzNew:=[1] }
theorem Zmv(aA:ByteArray)(aH:Option Addr)(aG aI:Nat)(m:Mem)(R:RT)(h:
 ∀(b:Nat)(m':Mem),m.le m'->m'.reads b 0 [string aA,slice aH aG aI]->∃(R_1:RT),True/\CX Tryz.prog 83 (Array.mk [slice aH aG aI,func (Fn.func 86) (Array.mk []) (Array.mk []),
 func (Fn.func 87) (Array.mk []) (Array.mk [])]) m' [] R_1/\Zap (Shape.tup [Shape.int i64,Shape.bool]) R_1/\∀(n:Int)(b:Bool)(m'_1:Mem),m'.le m'_1->R_1 (tuple (Array.mk [int i64 n,bool b])) m'_1 []->∃
 (m'':Mem),m.le m''/\m''.le m'_1/\R (tuple (Array.mk [int i64 n,bool b])) m'' []):CX Tryz.prog 50 #[.agg #[.string aA,.slice aH aG aI]] m [] R:=
 Zad (E:=ZoD) Zak mix Tryz.func50 [.v (.agg #[.string aA,.slice aH aG aI])] [] (by kernel_rfl) (Eq.mp (by kernel_rfl) h)
noncomputable def Zfh:Env:={ EB with
 frzNew:=[1] }
theorem ZeK(aA:Int)(aB aC:Bool)(aD aR aM aQ cK cL cT:Int)(bG:Option Addr)(bH bI:Nat)(bW:ByteArray)(bU:Int)(bJ:Option Addr)(bK bL:Nat)(cC:ByteArray)(cD:Int)(m:Mem)(R:RT)(h:
 ∀(b:Nat)(m':Mem),m.le m'->m'.reads b 0 [int u8 aA,bool aB,bool aC,int u8 aD,int u64 aR,int u64 aM,int u64 aQ,int u64 cK,int i64 cL,int i64 cT,slice bG bH bI,
 string bW,int i64 bU,slice bJ bK bL,string cC,int i64 cD]->∃(m'':Mem),m.le m''/\m''.le m'/\R (bool (aA == (4:Int))) m'' []):CX Tryz.prog 84 #[.agg #[.int .u8 aA,.bool aB,.bool aC,.int .u8 aD,.int .u64 aR,.int .u64 aM,.int .u64 aQ,.int .u64 cK,.int .i64 cL,.int .i64 cT,.slice bG bH bI,.string bW,.int .i64 bU,.slice bJ bK bL,.string cC,.int .i64 cD]] m [] R:=
 Zad (E:=Zfh) Zak mix Tryz.func84 [.v (.agg #[.int .u8 aA,.bool aB,.bool aC,.int .u8 aD,.int .u64 aR,.int .u64 aM,.int .u64 aQ,.int .u64 cK,.int .i64 cL,.int .i64 cT,.slice bG bH bI,.string bW,.int .i64 bU,.slice bJ bK bL,.string cC,.int .i64 cD])] [] (by kernel_rfl) (Eq.mp (by kernel_rfl) h)
noncomputable def Zfi:Env:={ EB with
 frzNew:=[1] }
theorem ZeL(aA:Int)(aB aC:Bool)(aD aR aM aQ cK cL cT:Int)(bG:Option Addr)(bH bI:Nat)(bW:ByteArray)(bU:Int)(bJ:Option Addr)(bK bL:Nat)(cC:ByteArray)(cD:Int)(m:Mem)(R:RT)(h:
 ∀(b:Nat)(m':Mem),m.le m'->m'.reads b 0 [int u8 aA,bool aB,bool aC,int u8 aD,int u64 aR,int u64 aM,int u64 aQ,int u64 cK,int i64 cL,int i64 cT,slice bG bH bI,
 string bW,int i64 bU,slice bJ bK bL,string cC,int i64 cD]->∃(m'':Mem),m.le m''/\m''.le m'/\R (int i64 bU) m'' []):CX Tryz.prog 85 #[.agg #[.int .u8 aA,.bool aB,.bool aC,.int .u8 aD,.int .u64 aR,.int .u64 aM,.int .u64 aQ,.int .u64 cK,.int .i64 cL,.int .i64 cT,.slice bG bH bI,.string bW,.int .i64 bU,.slice bJ bK bL,.string cC,.int .i64 cD]] m [] R:=
 Zad (E:=Zfi) Zak mix Tryz.func85 [.v (.agg #[.int .u8 aA,.bool aB,.bool aC,.int .u8 aD,.int .u64 aR,.int .u64 aM,.int .u64 aQ,.int .u64 cK,.int .i64 cL,.int .i64 cT,.slice bG bH bI,.string bW,.int .i64 bU,.slice bJ bK bL,.string cC,.int .i64 cD])] [] (by kernel_rfl) (Eq.mp (by kernel_rfl) h)
noncomputable def Zkf:Env:={ EB with
 frzNew:=[1] }
theorem Zil(aA:Int)(aB aC:Bool)(aD aR aM aQ cK cL cT:Int)(bG:Option Addr)(bH bI:Nat)(bW:ByteArray)(bU:Int)(bJ:Option Addr)(bK bL:Nat)(cC:ByteArray)(cD:Int)(m:Mem)(R:RT)(h:
 ∀(b:Nat)(m':Mem),m.le m'->m'.reads b 0 [int u8 aA,bool aB,bool aC,int u8 aD,int u64 aR,int u64 aM,int u64 aQ,int u64 cK,int i64 cL,int i64 cT,slice bG bH bI,
 string bW,int i64 bU,slice bJ bK bL,string cC,int i64 cD]->∃(m'':Mem),m.le m''/\m''.le m'/\R (bool (aA == (3:Int))) m'' []):CX Tryz.prog 86 #[.agg #[.int .u8 aA,.bool aB,.bool aC,.int .u8 aD,.int .u64 aR,.int .u64 aM,.int .u64 aQ,.int .u64 cK,.int .i64 cL,.int .i64 cT,.slice bG bH bI,.string bW,.int .i64 bU,.slice bJ bK bL,.string cC,.int .i64 cD]] m [] R:=
 Zad (E:=Zkf) Zak mix Tryz.func86 [.v (.agg #[.int .u8 aA,.bool aB,.bool aC,.int .u8 aD,.int .u64 aR,.int .u64 aM,.int .u64 aQ,.int .u64 cK,.int .i64 cL,.int .i64 cT,.slice bG bH bI,.string bW,.int .i64 bU,.slice bJ bK bL,.string cC,.int .i64 cD])] [] (by kernel_rfl) (Eq.mp (by kernel_rfl) h)
noncomputable def Zkg:Env:={ EB with
 frzNew:=[1] }
theorem Zim(aA:Int)(aB aC:Bool)(aD aR aM aQ cK cL cT:Int)(bG:Option Addr)(bH bI:Nat)(bW:ByteArray)(bU:Int)(bJ:Option Addr)(bK bL:Nat)(cC:ByteArray)(cD:Int)(m:Mem)(R:RT)(h:
 ∀(b:Nat)(m':Mem),m.le m'->m'.reads b 0 [int u8 aA,bool aB,bool aC,int u8 aD,int u64 aR,int u64 aM,int u64 aQ,int u64 cK,int i64 cL,int i64 cT,slice bG bH bI,
 string bW,int i64 bU,slice bJ bK bL,string cC,int i64 cD]->∃(m'':Mem),m.le m''/\m''.le m'/\R (int i64 0) m'' []):CX Tryz.prog 87 #[.agg #[.int .u8 aA,.bool aB,.bool aC,.int .u8 aD,.int .u64 aR,.int .u64 aM,.int .u64 aQ,.int .u64 cK,.int .i64 cL,.int .i64 cT,.slice bG bH bI,.string bW,.int .i64 bU,.slice bJ bK bL,.string cC,.int .i64 cD]] m [] R:=
 Zad (E:=Zkg) Zak mix Tryz.func87 [.v (.agg #[.int .u8 aA,.bool aB,.bool aC,.int .u8 aD,.int .u64 aR,.int .u64 aM,.int .u64 aQ,.int .u64 cK,.int .i64 cL,.int .i64 cT,.slice bG bH bI,.string bW,.int .i64 bU,.slice bJ bK bL,.string cC,.int .i64 cD])] [] (by kernel_rfl) (Eq.mp (by kernel_rfl) h)
noncomputable def Zkh:Env:={ EB with
 joins:=(λi=>bif Nat.beq i 3 then some [(9,.bool)]else none)
 frzNew:=[2] }
theorem Zin(aA:Int)(aH:Option Addr)(aG aI:Nat)(aJ:Option Addr)(aE aK:Nat)(p1:Int)(m:Mem)(R:RT)(h:
 ∀(b:Nat)(m':Mem),m.le m'->m'.reads b 0 [int i64 aA,slice aH aG aI,slice aJ aE aK]->∃(R_1:RT),True/\CX Tryz.prog 22 (Array.mk [agg (Array.mk [int i64 aA,slice aH aG
 aI,slice aJ aE aK])]) m' [] R_1/\Zap Shape.bool R_1/\∀(b_1:Bool)(m'_1:Mem),m'.le m'_1->R_1 (bool b_1) m'_1 []->br (!b_1) (∃(m'':Mem),m.le m''/\m''.le m'_1/\R (int i64 400) m''
 []) (∃(b_2:Bool),br (decide (p1 < (0:Int))) ([some (Box.mk b [int i64 aA,slice aH aG aI,slice aJ aE aK] 30 3 true true)]=[some (Box.mk b [int i64 aA,slice aH aG aI,slice aJ
 aE aK] 30 3 true true)]/\[bool true]=[bool b_2]) ([some (Box.mk b [int i64 aA,slice aH aG aI,slice aJ aE aK] 30 3 true true)]=[some (Box.mk b [int i64 aA,slice aH aG aI,
 slice aJ aE aK] 30 3 true true)]/\[bool (decide (p1 ≥ (↑aE:Int)))]=[bool b_2])/\br b_2 (∃(m'':Mem),m.le m''/\m''.le m'_1/\R (int i64 250) m'' []) (∃(m'':Mem),m.le m''/\m''.le m'_1/\R (int i64 0) m'' []))):CX Tryz.prog 48 #[.agg #[.int .i64 aA,.slice aH aG aI,.slice aJ aE aK],.int .i64 p1] m [] R:=
 Zad (E:=Zkh) Zak mix Tryz.func48 [.v (.agg #[.int .i64 aA,.slice aH aG aI,.slice aJ aE aK]),.v (.int .i64 p1)] [] (by kernel_rfl) (Eq.mp (by kernel_rfl) h)
noncomputable def Zg3:Env:={ EB with
 frzNew:=[2] }
theorem Zgd(aA:Int)(aH:Option Addr)(aG aI:Nat)(aJ:Option Addr)(aE aK:Nat)(p1:Int)(m:Mem)(R:RT)(h:
 ∀(b:Nat)(m':Mem),m.le m'->m'.reads b 0 [int i64 aA,slice aH aG aI,slice aJ aE aK]->∃(R_1:RT),True/\CX Tryz.prog 48 (Array.mk [agg (Array.mk [int i64 aA,slice aH aG
 aI,slice aJ aE aK]),int i64 p1]) m' [] R_1/\Zap (Shape.int i64) R_1/\∀(n:Int)(m'_1:Mem),m'.le m'_1->R_1 (int i64 n) m'_1 []->br (!n == (0:Int)) (∃(m'':Mem),m.le m''/\m''.le m'_1/\R (tuple (Array.mk [int i64 0,bool false,int i64 n])) m'' []) (∃(b:Nat),∃(o:Nat),aJ=some (Addr.mk b o none)/\Zaf p1 aE/\∃v v_1:Value,m'_1.reads b (o+Int.toNat p1 *
 2) [v,v_1]/\∃(R_2:RT),True/\CX Tryz.prog 49 (Array.mk [agg (Array.mk [v,v_1])]) m'_1 [] R_2/\Zap (Shape.tup [Shape.int i64,Shape.bool]) R_2/\∀(n:Int)(b:Bool)(m':Mem),m'_1.le m'->R_2 (tuple
 (Array.mk [int i64 n,bool b])) m' []->∃(m'':Mem),m.le m''/\m''.le m'/\R (tuple (Array.mk [int i64 n,bool b,int i64 0])) m'' [])):CX Tryz.prog 18 #[.agg #[.int .i64 aA,.slice aH aG aI,.slice aJ aE aK],.int .i64 p1] m [] R:=
 Zad (E:=Zg3) Zak mix Tryz.func18 [.v (.agg #[.int .i64 aA,.slice aH aG aI,.slice aJ aE aK]),.v (.int .i64 p1)] [] (by kernel_rfl) (Eq.mp (by kernel_rfl) h)
noncomputable def ZoE:Env:={ EB with
 frzNew:=[2] }
theorem Zmw(aA:Int)(aH:Option Addr)(aG aI:Nat)(aJ:Option Addr)(aE aK:Nat)(p1:Int)(m:Mem)(R:RT)(h:
 ∀(b:Nat)(m':Mem),m.le m'->m'.reads b 0 [int i64 aA,slice aH aG aI,slice aJ aE aK]->∃(R_1:RT),True/\CX Tryz.prog 48 (Array.mk [agg (Array.mk [int i64 aA,slice aH aG
 aI,slice aJ aE aK]),int i64 p1]) m' [] R_1/\Zap (Shape.int i64) R_1/\∀(n:Int)(m'_1:Mem),m'.le m'_1->R_1 (int i64 n) m'_1 []->br (!n == (0:Int)) (∃(m'':Mem),m.le m''/\m''.le m'_1/\R (tuple (Array.mk [int i64 0,bool false,int i64 n])) m'' []) (∃(b:Nat),∃(o:Nat),aJ=some (Addr.mk b o none)/\Zaf p1 aE/\∃v v_1:Value,m'_1.reads b (o+Int.toNat p1 *
 2) [v,v_1]/\∃(R_2:RT),True/\CX Tryz.prog 50 (Array.mk [agg (Array.mk [v,v_1])]) m'_1 [] R_2/\Zap (Shape.tup [Shape.int i64,Shape.bool]) R_2/\∀(n:Int)(b:Bool)(m':Mem),m'_1.le m'->R_2 (tuple
 (Array.mk [int i64 n,bool b])) m' []->∃(m'':Mem),m.le m''/\m''.le m'/\R (tuple (Array.mk [int i64 n,bool b,int i64 0])) m'' [])):CX Tryz.prog 19 #[.agg #[.int .i64 aA,.slice aH aG aI,.slice aJ aE aK],.int .i64 p1] m [] R:=
 Zad (E:=ZoE) Zak mix Tryz.func19 [.v (.agg #[.int .i64 aA,.slice aH aG aI,.slice aJ aE aK]),.v (.int .i64 p1)] [] (by kernel_rfl) (Eq.mp (by kernel_rfl) h)
noncomputable def ZoF:Env:={ EB with
 joins:=(λi=>bif Nat.beq i 2 then some [(38,.bool)]else none)
 frzNew:=[3] }
theorem Zmx(aA:Int)(aH:Option Addr)(aG aI:Nat)(aJ:Option Addr)(aE aK:Nat)(p1 p2:Int)(m:Mem)(R:RT)(h:
 ∀(b:Nat)(m':Mem),m.le m'->m'.reads b 0 [int i64 aA,slice aH aG aI,slice aJ aE aK]->∃(R_1:RT),True/\CX Tryz.prog 18 (Array.mk [agg (Array.mk [int i64 aA,slice aH aG
 aI,slice aJ aE aK]),int i64 p1]) m' [] R_1/\Zap (Shape.tup [Shape.int i64,Shape.bool,Shape.int i64]) R_1/\∀(n:Int)(b_1:Bool)(n_1:Int)(m'_1:Mem),m'.le m'_1->R_1 (tuple (Array.mk [int
 i64 n,bool b_1,int i64 n_1])) m'_1 []->∃(b_2:Bool),br (!n_1 == (0:Int)) ([some (Box.mk b [int i64 aA,slice aH aG aI,slice aJ aE aK] 30 3 true true)]=[some (Box.mk b [int i64 aA,slice
 aH aG aI,slice aJ aE aK] 30 3 true true)]/\[bool true]=[bool b_2]) (br (!b_1) ([some (Box.mk b [int i64 aA,slice aH aG aI,slice aJ aE aK] 30 3 true true)]=[some (Box.mk b
 [int i64 aA,slice aH aG aI,slice aJ aE aK] 30 3 true true)]/\[bool true]=[bool b_2]) (∃(b_3:Nat),∃(o:Nat),aJ=some (Addr.mk b_3 o none)/\Zaf p1 aE/\∃(v:Value),m'_1 b_3
 (o+Int.toNat p1*2+1)=some v/\chk (Zbi v) (∃(b_4:Nat),∃(o:Nat),slA v=some (Addr.mk b_4 o none)/\Zaf n (slN v)/\∃(v:Value),m'_1 b_4 (o+Int.toNat n*16+12)=some v/\chk (ZaP i64 v &&
 decide (i64=i64)) ([some (Box.mk b [int i64 aA,slice aH aG aI,slice aJ aE aK] 30 3 true true)]=[some (Box.mk b [int i64 aA,slice aH aG aI,slice aJ aE aK] 30 3 true true)]
 /\ [bool !intOf v == p2]=[bool b_2]))))/\br b_2 (∃(m'':Mem),m.le m''/\m''.le m'_1/\R (tuple (Array.mk [int i64 0,bool false,int i64 n_1])) m'' []) (∃(m'':Mem),m.le m''/\m''.le m'_1
 /\ R (tuple (Array.mk [int i64 n,bool true,int i64 0])) m'' [])):CX Tryz.prog 20 #[.agg #[.int .i64 aA,.slice aH aG aI,.slice aJ aE aK],.int .i64 p1,.int .i64 p2] m [] R:=
 Zad (E:=ZoF) Zak mix Tryz.func20 [.v (.agg #[.int .i64 aA,.slice aH aG aI,.slice aJ aE aK]),.v (.int .i64 p1),.v (.int .i64 p2)] [] (by kernel_rfl) (Eq.mp (by kernel_rfl) h)
noncomputable def Zmy:Env:={ EB with
 frzNew:=[1] }
theorem Zki(aA:Int)(aH:Option Addr)(aG aI:Nat)(aJ:Option Addr)(aE aK:Nat)(m:Mem)(R:RT)(h:
 ∀(b:Nat)(m':Mem),m.le m'->m'.reads b 0 [int i64 aA,slice aH aG aI,slice aJ aE aK]->∃(m'':Mem),m.le m''/\m''.le m'/\R (func (Fn.func 68) (Array.mk []) (Array.mk
 [Value.pointer (some (Addr.mk b 0 none))])) m'' []):CX Tryz.prog 36 #[.agg #[.int .i64 aA,.slice aH aG aI,.slice aJ aE aK]] m [] R:=
 Zad (E:=Zmy) Zak mix Tryz.func36 [.v (.agg #[.int .i64 aA,.slice aH aG aI,.slice aJ aE aK])] [] (by kernel_rfl) (Eq.mp (by kernel_rfl) h)
noncomputable def Zio:Env:={ EB with
 loops:=(λi=>bif Nat.beq i 1 then⟨[(14,.int .i64)],[],[],true⟩ else bif Nat.beq i 6 then⟨[(32,.int .i64)],[],[],true⟩ else⟨[],[],[],false⟩) }
theorem Zg4(p0g:Nat)(p0fi p0ca:List Value)(c0b c0o:Nat)(m:Mem)(xs:List (List Value))(h:
 ∀(l:Nat),∃(v:Value),m c0b (c0o+2)=some v/\chk (Zbi v) (∃(I:IT),(∃(n:Nat),I [int i64 0,int i64 0] [] [] m n)/\∀(y n:Int)(m':Mem)(ai:Nat),m.le m'->I [int i64 y,int i64 n] [] [] m'
 ai->br (decide (n < (↑(slN v):Int))) (chk (Zbi v) (∃(b:Nat),∃(o:Nat),slA v=some (Addr.mk b o none)/\Zaf n (slN v)/\∃v aa:Value,m'.reads b (o+Int.toNat n*2) [v,aa]/\∀(b:
 Nat),chk (v.oneCell'&&(aa.oneCell'&&true)) (∃(R:RT),True/\CX Tryz.prog 49 (Array.mk [agg (Array.mk [v,aa])]) m' [] R/\Zap (Shape.tup [Shape.int i64,Shape.bool]) R/\∀(aj:Int)(a2:Bool) (ag
 : Mem),m'.le ag->R (tuple (Array.mk [int i64 aj,bool a2])) ag []->∃(R:RT),True/\CX Tryz.prog 50 (Array.mk [agg (Array.mk [v,aa])]) ag [] R/\Zap (Shape.tup [Shape.int i64,Shape.bool]) R/\∀(ah:Int)
 (a3:Bool) (m':Mem),ag.le m'->R (tuple (Array.mk [int i64 ah,bool a3])) m' []->chk (Zbi aa) (∃(ad:IT),(∃(n:Nat),ad [int i64 y,int i64 0] [] [] m' n)/\∀(y ab:Int)(ac:Mem)(ae:Nat),m'.le ac->ad [int i64 y,int i64 ab] [] [] ac ae->br (decide (ab < (↑(slN aa):Int))) (chk (Zbi aa) (∃(ak:Nat),∃(o:Nat),slA aa=some (Addr.mk ak o none)/\Zaf ab (slN aa)/\∃af al am an ao ap aq ar au av aw ax ay az a0 a1:Value,ac.reads ak (o+Int.toNat ab*16) [af,al,am,an,ao,ap,aq,ar,au,av,aw,ax,ay,az,a0,a1]/\∀(a4:Nat),chk (af.oneCell'&&(al.oneCell'&&(am.oneCell'&&(an.oneCell'
 && (ao.oneCell'&&(ap.oneCell'&&(aq.oneCell'&&(ar.oneCell'&&(au.oneCell'&&(av.oneCell'&&(aw.oneCell'&&(ax.oneCell'&&(ay.oneCell'&&(az.oneCell'
 && (a0.oneCell'&&(a1.oneCell'&&true)))))))))))))))) (chk (ZaP u8 af&&decide (u8=u8)) (br (intOf af == (4:Int)) (br (!ab == aj) ((l=l/\(0:Int)<=y/\List.get?Internal xs (Int.toNat y)
 = some [agg (Array.mk [int i64 n,int i64 ab])])/\([some (Box.mk b [v,aa] 42 2 false true)]=[some (Box.mk b [v,aa] 42 2 false true)]/\∃(n':Nat),n' < ae/\ad [int i64 (y+(1:Int)),int i64 (i64.wrap
 (ab+(1:Int)))] [] [] ac n')/\((-1:Int)=(↑(xs.length):Int)\/(-1:Int)=(-1:Int))) (chk (ZaP u8 af&&decide (u8=u8)) (br (intOf af == (3:Int)) (br (!ab == ah) ((l=l/\(0:Int)<=y/\
 List.get?Internal xs (Int.toNat y)=some [agg (Array.mk [int i64 n,int i64 ab])])/\([some (Box.mk b [v,aa] 42 2 false true)]=[some (Box.mk b [v,aa] 42 2 false true)]/\∃(n':Nat),n' < ae/\ad [int i64 (y+(1
 : Int)),int i64 (i64.wrap (ab+(1:Int)))] [] [] ac n')/\((-1:Int)=(↑(xs.length):Int)\/(-1:Int)=(-1:Int))) ([some (Box.mk b [v,aa] 42 2 false true)]=[some (Box.mk b [v,aa] 42 2 false
 true)]/\∃(n':Nat),n' < ae/\ad [int i64 y,int i64 (i64.wrap (ab+(1:Int)))] [] [] ac n')) ([some (Box.mk b [v,aa] 42 2 false true)]=[some (Box.mk b [v,aa] 42 2 false true)]/\∃(n':Nat),n' < ae/\
 ad [int i64 y,int i64 (i64.wrap (ab+(1:Int)))] [] [] ac n')))) (chk (ZaP u8 af&&decide (u8=u8)) (br (intOf af == (3:Int)) (br (!ab == ah) ((l=l/\(0:Int)<=y/\List.get?Internal xs
 (Int.toNat y)=some [agg (Array.mk [int i64 n,int i64 ab])])/\([some (Box.mk b [v,aa] 42 2 false true)]=[some (Box.mk b [v,aa] 42 2 false true)]/\∃(n':Nat),n' < ae/\ad [int i64 (y+(1:Int)),int i64
 (i64.wrap (ab+(1:Int)))] [] [] ac n')/\((-1:Int)=(↑(xs.length):Int)\/(-1:Int)=(-1:Int))) ([some (Box.mk b [v,aa] 42 2 false true)]=[some (Box.mk b [v,aa] 42 2 false true)]/\∃(n':
 Nat),n' < ae/\ad [int i64 y,int i64 (i64.wrap (ab+(1:Int)))] [] [] ac n')) ([some (Box.mk b [v,aa] 42 2 false true)]=[some (Box.mk b [v,aa] 42 2 false true)]/\∃(n':Nat),n' < ae/\ad [int i64 y,
 int i64 (i64.wrap (ab+(1:Int)))] [] [] ac n'))))))) (∃(n':Nat),n' < ai/\I [int i64 y,int i64 (i64.wrap (n+(1:Int)))] [] [] ac n'))))) (y=(↑(xs.length):Int)\/y=(-1:Int)))):IX Tryz.prog 68 [] [.pointer (some ⟨c0b,c0o,none⟩)] m xs:=
 ZgW (E:=Zio) Zak mix Tryz.func68 [] [.pointer (some ⟨c0b,c0o,none⟩)] xs (by kernel_rfl) (Eq.mp (by kernel_rfl) h)
noncomputable def Zmz:Env:={ EB with
 loops:=(λi=>bif Nat.beq i 6 then⟨[(11,.agg [.int .i64,.int .i64])],[4],[(15,2)],false⟩ else⟨[],[],[],false⟩)
 tokOf:=(λi=>bif Nat.beq i 15 then 15 else 0)
 frzNew:=[1]
 capF:=true }
theorem Zkj(aA:Int)(aH:Option Addr)(aG aI:Nat)(aJ:Option Addr)(aE aK:Nat)(m:Mem)(R:RT)(h:
 ∀(b:Nat)(m':Mem),m.le m'->m'.reads b 0 [int i64 aA,slice aH aG aI,slice aJ aE aK]->∃(R_1:RT),True/\CX Tryz.prog 22 (Array.mk [agg (Array.mk [int i64 aA,slice aH aG
 aI,slice aJ aE aK])]) m' [] R_1/\Zap Shape.bool R_1/\∀(b_1:Bool)(m'_1:Mem),m'.le m'_1->R_1 (bool b_1) m'_1 []->br (!b_1) (∃(m'':Mem),m.le m''/\m''.le m'_1/\R (tuple (Array.mk
 [slice none 0 0,int i64 400])) m'' []) (∀(b_2:Nat),∃(R_2:RT),True/\CX Tryz.prog 36 (Array.mk [agg (Array.mk [int i64 aA,slice aH aG aI,slice aJ aE aK])]) m'_1 [] R_2/\Zap Shape.fn R_2/\
 ∀(g:Nat)(fi ca:List Value)(m':Mem),m'_1.le m'->R_2 (func (Fn.func g) (Array.mk fi) (Array.mk ca)) m' []->∃(xs:List (List Value)),IX Tryz.prog g fi ca m' xs/\(∀(x:List Value),x∈xs->Shape.fitsL
 [Shape.agg [Shape.int i64,Shape.int i64]] x=true)/\∃(I:IT),I [] [[slice none 0 0]] [slice none 0 0] m' 0/\(∀(n n_1:Int)(cs:List Value)(a:Option Addr)(n_2 c:Nat)(m'_2:Mem)(n_3:Nat),m'.le m'_2->List.get?Internal xs n_3=some [agg (Array.mk [int i64 n,int i64 n_1])]->I [] [cs] [slice a n_2 c] m'_2 n_3->∀(b_3:Nat),Eng.Ztt cs 0 λ(v:Value)=>∀(b_4:Nat),m'_2.free b_4->chk (Zbi v &&
 true) ((Tok.mk (slice a n_2 c) 2=Tok.mk v 2\/v=slice none 0 0\/slC v < slN v+1)/\∃(xs:List Value),∃(ys:List Value),xs.length=slN v*2/\ys.length=1*2/\rowRd (m'_2.add b_4 [int i64
 n,int i64 n_1]) (slA v) xs/\rowRd (m'_2.add b_4 [int i64 n,int i64 n_1]) (some (Addr.mk b_4 0 none)) ys/\(∀(u:Value),u∈ys->u.oneCell'=true)/\(slN v+1)*16<=140737488355328/\slN v+1 <=
 9223372036854775807/\∀(a':Option Addr)(c':Nat)(m':Mem),Mem.le (m'_2.add b_4 [int i64 n,int i64 n_1]) m'->rowRd m' a' (List.append xs ys)->slN v+1<=c'->[some (Box.mk b_2 [] 32 1 false true),some
 (Box.mk b [int i64 aA,slice aH aG aI,slice aJ aE aK] 30 3 true true)]=[some (Box.mk b_2 [] 32 1 false true),some (Box.mk b [int i64 aA,slice aH aG aI,slice aJ aE aK] 30 3
 true true)]/\I [] [[slice a' (slN v+1) c']] [slice a' (slN v+1) c'] m' (n_3+1)))/\∀(cs:List Value)(a:Option Addr)(n c:Nat)(m'_2:Mem),m'.le m'_2->I [] [cs] [slice a n c] m'_2 (xs.length)->
 Eng.Ztt cs 0 λ(v:Value)=>∃(m'':Mem),m.le m''/\m''.le m'_2/\R (tuple (Array.mk [v,int i64 0])) m'' [])):CX Tryz.prog 10 #[.agg #[.int .i64 aA,.slice aH aG aI,.slice aJ aE aK]] m [] R:=
 Zad (E:=Zmz) Zak mix Tryz.func10 [.v (.agg #[.int .i64 aA,.slice aH aG aI,.slice aJ aE aK])] [] (by kernel_rfl) (Eq.mp (by kernel_rfl) h)
noncomputable def Zkk:Env:={ EB with
 loops:=(λi=>bif Nat.beq i 5 then⟨[(6,.slice),(21,.int .i64)],[],[],false⟩ else⟨[],[],[],false⟩)
 frzNew:=[2] }
theorem Zip(aA:Int)(aH:Option Addr)(aG aI:Nat)(aJ:Option Addr)(aE aK:Nat)(p1a:Option Addr)(p1n p1c:Nat)(m:Mem)(R:RT)(h:
 ∀(b:Nat)(m':Mem),m.le m'->m'.reads b 0 [int i64 aA,slice aH aG aI,slice aJ aE aK]->∃(R_1:RT),True/\CX Tryz.prog 10 (Array.mk [agg (Array.mk [int i64 aA,slice aH aG
 aI,slice aJ aE aK])]) m' [] R_1/\Zap (Shape.tup [Shape.slice,Shape.int i64]) R_1/\∀(a:Option Addr)(n c:Nat)(n_1:Int)(m'_1:Mem),m'.le m'_1->R_1 (tuple (Array.mk [slice a n c,int i64
 n_1])) m'_1 []->br (!n_1 == (0:Int)) (∃(m'':Mem),m.le m''/\m''.le m'_1/\R (tuple (Array.mk [bool false,int i64 n_1])) m'' []) (∃(I:IT),(∃(n_2:Nat),I [slice a n c,int i64 0] [] [] m'_1 n_2)/\∀
 (a:Option Addr) (n c:Nat) (n_2:Int) (m':Mem) (n_3:Nat),m'_1.le m'->I [slice a n c,int i64 n_2] [] [] m' n_3->br (decide (n_2 < (↑p1n:Int))) (∃(b_1:Nat),∃(o:Nat),p1a=some (Addr.mk b_1 o
 none)/\Zaf n_2 p1n/\∃v v_1:Value,m'.reads b_1 (o+Int.toNat n_2*2) [v,v_1]/\∀(b_2:Nat),chk (v.oneCell'&&(v_1.oneCell'&&true)) (∃(R_2:RT),True/\CX Tryz.prog 37
 (Array.mk [slice a n c,agg (Array.mk [v,v_1])]) m' [] R_2/\Zap (Shape.int i64) R_2/\∀(n_4:Int)(m'_2:Mem),m'.le m'_2->R_2 (int i64 n_4) m'_2 []->br (decide (n_4 < (0:Int))) (∃(m'':Mem),m.le m''/\m''.le m'_2/\R (tuple (Array.mk [bool false,int i64 0])) m'' []) (((0:Int)<=i64.wrap (n_4+(1:Int))/\i64.wrap (n_4+(1:Int))<=(↑n:Int))/\[some (Box.mk b [int i64 aA,slice
 aH aG aI,slice aJ aE aK] 30 3 true true)]=[some (Box.mk b [int i64 aA,slice aH aG aI,slice aJ aE aK] 30 3 true true)]/\∃(n':Nat),n' < n_3/\I [slice (ZaU a (Int.toNat
 (i64.wrap (n_4+(1:Int)))) c 2) (n - Int.toNat (i64.wrap (n_4+(1:Int)))) (c - Int.toNat (i64.wrap (n_4+(1:Int)))),int i64 (i64.wrap (n_2+(1:Int)))] [] [] m'_2 n'))) (∃
 (m'':Mem),m.le m''/\m''.le m'/\R (tuple (Array.mk [bool true,int i64 0])) m'' []))):CX Tryz.prog 11 #[.agg #[.int .i64 aA,.slice aH aG aI,.slice aJ aE aK],.slice p1a p1n p1c] m [] R:=
 Zad (E:=Zkk) Zak mix Tryz.func11 [.v (.agg #[.int .i64 aA,.slice aH aG aI,.slice aJ aE aK]),.v (.slice p1a p1n p1c)] [] (by kernel_rfl) (Eq.mp (by kernel_rfl) h)
noncomputable def Zg5:Env:={ EB with
 loops:=(λi=>bif Nat.beq i 5 then⟨[(4,.int .i64),(15,.int .i64)],[],[],false⟩ else⟨[],[],[],false⟩)
 frzNew:=[1] }
theorem Zge(aA:Int)(aH:Option Addr)(aG aI:Nat)(aJ:Option Addr)(aE aK:Nat)(m:Mem)(R:RT)(h:
 ∀(b:Nat)(m':Mem),m.le m'->m'.reads b 0 [int i64 aA,slice aH aG aI,slice aJ aE aK]->∃(R_1:RT),True/\CX Tryz.prog 22 (Array.mk [agg (Array.mk [int i64 aA,slice aH aG
 aI,slice aJ aE aK])]) m' [] R_1/\Zap Shape.bool R_1/\∀(b_1:Bool)(m'_1:Mem),m'.le m'_1->R_1 (bool b_1) m'_1 []->br (!b_1) (∃(m'':Mem),m.le m''/\m''.le m'_1/\R (tuple (Array.mk
 [int i64 0,int i64 400])) m'' []) (∃(I:IT),(∃(n:Nat),I [int i64 0,int i64 0] [] [] m'_1 n)/\∀(n n_1:Int)(m':Mem)(n_2:Nat),m'_1.le m'->I [int i64 n,int i64 n_1] [] [] m' n_2->br (decide (n_1 <
 (↑aE:Int))) (∃(b_2:Nat),∃(o:Nat),aJ=some (Addr.mk b_2 o none)/\Zaf n_1 aE/\∃v v_1:Value,m'.reads b_2 (o+Int.toNat n_1*2) [v,v_1]/\∀(b_3:Nat),chk
 (v.oneCell'&&(v_1.oneCell'&&true)) (∃(R:RT),True/\CX Tryz.prog 49 (Array.mk [agg (Array.mk [v,v_1])]) m' [] R/\Zap (Shape.tup [Shape.int i64,Shape.bool]) R/\∀(n_3:Int)(b_4:Bool) (m'_2:
 Mem),m'.le m'_2->R (tuple (Array.mk [int i64 n_3,bool b_4])) m'_2 []->br b_4 (chk (Zbi v_1) (∃(b_5:Nat),∃(o:Nat),slA v_1=some (Addr.mk b_5 o none)/\Zaf n_3 (slN v_1)/\∃(v:Value),m'_2 b_5 (o
 + Int.toNat n_3*16+12)=some v/\chk (ZaP i64 v) ([some (Box.mk b [int i64 aA,slice aH aG aI,slice aJ aE aK] 30 3 true true)]=[some (Box.mk b [int i64 aA,slice aH aG aI,slice
 aJ aE aK] 30 3 true true)]/\∃(n':Nat),n' < n_2/\I [int i64 (if intOf v > n then intOf v else n),int i64 (i64.wrap (n_1+(1:Int)))] [] [] m'_2 n'))) ([some (Box.mk b [int i64
 aA,slice aH aG aI,slice aJ aE aK] 30 3 true true)]=[some (Box.mk b [int i64 aA,slice aH aG aI,slice aJ aE aK] 30 3 true true)]/\∃(n':Nat),n' < n_2/\I [int i64 n,int
 i64 (i64.wrap (n_1+(1:Int)))] [] [] m'_2 n'))) (∃(m'':Mem),m.le m''/\m''.le m'/\R (tuple (Array.mk [int i64 n,int i64 0])) m'' []))):CX Tryz.prog 21 #[.agg #[.int .i64 aA,.slice aH aG aI,.slice aJ aE aK]] m [] R:=
 Zad (E:=Zg5) Zak mix Tryz.func21 [.v (.agg #[.int .i64 aA,.slice aH aG aI,.slice aJ aE aK])] [] (by kernel_rfl) (Eq.mp (by kernel_rfl) h)
noncomputable def ZmA:Env:={ EB with
 loops:=(λi=>bif Nat.beq i 7 then⟨[(23,.int .i64),(24,.agg [.int .i64,.int .i64])],[7],[],false⟩ else⟨[],[],[],false⟩)
 frzNew:=[1] }
theorem Zkl(aA:Int)(aH:Option Addr)(aG aI:Nat)(aJ:Option Addr)(aE aK:Nat)(m:Mem)(R:RT)(h:
 ∀(b:Nat)(m':Mem),m.le m'->m'.reads b 0 [int i64 aA,slice aH aG aI,slice aJ aE aK]->∀(af:Nat),∃(R_1:RT),True/\CX Tryz.prog 10 (Array.mk [agg (Array.mk [int i64 aA,slice
 aH aG aI,slice aJ aE aK])]) m' [] R_1/\Zap (Shape.tup [Shape.slice,Shape.int i64]) R_1/\∀(a:Option Addr)(n c:Nat)(ac:Int)(ab:Mem),m'.le ab->R_1 (tuple (Array.mk [slice a n c,int
 i64 ac])) ab []->br (!ac == (0:Int)) (∃(m'':Mem),m.le m''/\m''.le ab/\R (tuple (Array.mk [agg (Array.mk [int i64 0,slice none 0 0,slice none 0 0]),slice none 0 0,int i64 ac])) m'' []) (∃(R_2:RT),
 True/\CX Tryz.prog 13 (Array.mk [agg (Array.mk [int i64 aA,slice aH aG aI,slice aJ aE aK])]) ab [] R_2/\Zap (Shape.agg [Shape.int i64,Shape.slice,Shape.slice]) R_2/\∀(ag:Int) (ah:Option
 Addr) (ai aj:Nat) (ak:Option Addr) (al am:Nat) (m':Mem),ab.le m'->R_2 (agg (Array.mk [int i64 ag,slice ah ai aj,slice ak al am])) m' []->∀(an:Nat),∃(R_3:RT),True/\CX Tryz.prog 44 (Array.mk
 [slice a n c]) m' [] R_3/\Zap Shape.fn R_3/\∀(g:Nat)(fi ca:List Value)(aa:Mem),m'.le aa->R_3 (func (Fn.func g) (Array.mk fi) (Array.mk ca)) aa []->∃(xs:List (List Value)),IX Tryz.prog g fi ca aa
 xs/\(∀(x:List Value),x∈xs->Shape.fitsL [Shape.int i64,Shape.agg [Shape.int i64,Shape.int i64]] x=true)/\∃(I:IT),I [] [[int i64 ag,slice ah ai aj,slice ak al am]] [] aa 0/\(∀(n ao ap:Int) (cs:
 List Value) (m':Mem) (ad:Nat),aa.le m'->List.get?Internal xs ad=some [int i64 n,agg (Array.mk [int i64 ao,int i64 ap])]->I [] [cs] [] m' ad->∀(ax:Nat),∃(R:RT),True/\CX Tryz.prog 45 (Array.mk
 [agg (Array.mk cs),int i64 ao,int i64 ap]) m' [] R/\Zap (Shape.tup [Shape.agg [Shape.int i64,Shape.slice,Shape.slice],Shape.int i64]) R/\∀(n:Int)(a:Option Addr)(aq c:Nat)(ar:Option Addr) (au av:
 Nat) (aw:Int) (ae:Mem),m'.le ae->R (tuple (Array.mk [agg (Array.mk [int i64 n,slice a aq c,slice ar au av]),int i64 aw])) ae []->[some (Box.mk an [] 30 3 false true),some (Box.mk af [int i64 0,slice none
 0 0,slice none 0 0] 30 3 false true),some (Box.mk b [int i64 aA,slice aH aG aI,slice aJ aE aK] 30 3 true true)]=[some (Box.mk an [] 30 3 false true),some (Box.mk af [int i64 0,slice none 0 0,
 slice none 0 0] 30 3 false true),some (Box.mk b [int i64 aA,slice aH aG aI,slice aJ aE aK] 30 3 true true)]/\I [] [[int i64 n,slice a aq c,slice ar au av]] [] ae (ad+1))/\∀(cs:List Value)
 (m':Mem),aa.le m'->I [] [cs] [] m' (xs.length)->chk (Nat.beq (cs.length) 3&&Zdv cs) (∃(m'':Mem),m.le m''/\m''.le m'/\R (tuple (Array.mk [agg (Array.mk cs),slice a n c,int i64 0]))
 m'' []))):CX Tryz.prog 15 #[.agg #[.int .i64 aA,.slice aH aG aI,.slice aJ aE aK]] m [] R:=
 Zad (E:=ZmA) Zak mix Tryz.func15 [.v (.agg #[.int .i64 aA,.slice aH aG aI,.slice aJ aE aK])] [] (by kernel_rfl) (Eq.mp (by kernel_rfl) h)
noncomputable def Zbm:Env:={ EB with
 loops:=(λi=>bif Nat.beq i 2 then⟨[(8,.int .i64)],[],[],false⟩ else⟨[],[],[],false⟩)
 dr:=(λi=>bif Nat.beq i 4 then[⟨0,[3],[],none,[],[]⟩,⟨1,[],[],none,[],[]⟩,⟨2,[],[],none,[],[]⟩,⟨3,[],[],none,[1,2],[]⟩,⟨4,[],[],none,[1,2,3],[]⟩,⟨5,[],[],none,[0,1,2,3,4],[]⟩]else[])
 frzNew:=[3] }
theorem Zbe(p0a:Option Addr)(p0n p0c:Nat)(aW aX:Int)(m:Mem)(R:RT)(h:
 ∀(b:Nat)(m':Mem),m.le m'->m'.reads b 0 [int i64 aW,int i64 aX]->∃(I:IT),(∃(n:Nat),I [int i64 0] [] [] m' n)/\∀(n:Int)(m'_1:Mem)(n_1:Nat),m'.le m'_1->I [int i64 n] [] [] m'_1
 n_1->br (decide (n < (↑p0n:Int))) (∃(b_1:Nat),∃(o:Nat),p0a=some (Addr.mk b_1 o none)/\Zaf n p0n/\∃v v_1:Value,m'_1.reads b_1 (o+Int.toNat n*2) [v,v_1]/\∃(b_2:Bool),
 EqIs Tryz.prog 37 (agg (Array.mk [int i64 aW,int i64 aX])) (agg (Array.mk [v,v_1])) b_2/\br b_2 (∃(m'':Mem),m.le m''/\m''.le m'_1/\R (int i64 n) m'' []) ([some (Box.mk b [int i64 aW,int i64 aX]
 37 2 true true)]=[some (Box.mk b [int i64 aW,int i64 aX] 37 2 true true)]/\∃(n':Nat),n' < n_1/\I [int i64 (i64.wrap (n+(1:Int)))] [] [] m'_1 n')) (∃(m'':Mem),m.le m''/\m''.le m'_1/\
 R (int i64 (-1:Int)) m'' [])):CX Tryz.prog 37 #[.slice p0a p0n p0c,.agg #[.int .i64 aW,.int .i64 aX]] m [] R:=
 Zad (E:=Zbm) Zak mix Tryz.func37 [.v (.slice p0a p0n p0c),.v (.agg #[.int .i64 aW,.int .i64 aX])] [] (by kernel_rfl) (Eq.mp (by kernel_rfl) h)
end Go.Proofs.YtojlhhphofhaoaaGreatDoor