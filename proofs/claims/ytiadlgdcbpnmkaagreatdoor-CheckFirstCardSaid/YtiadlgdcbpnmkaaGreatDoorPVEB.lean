/- Part of the proof: conditions and contracts of functions of this program. No condition of its own. -/
import Derived.Test.YtiadlgdcbpnmkaaGreatDoorPEnv
set_option linter.unusedVariables false
set_option linter.unusedSimpArgs false
set_option linter.unusedSectionVars false
namespace Go.Proofs.YtiadlgdcbpnmkaaGreatDoor
open Go Go.Eng Go.Proofs Go.RowKit
open Go.Value (int slice agg bool string tuple func)
open Go.IntKind (u8 u64 i64)
set_option maxRecDepth 100000
noncomputable def ZoH:Env:={ EB with
 frzNew:=[1] }
def ZhU(aA:Int)(aC:Value)(aB:ByteArray)(aD:Int)(aS:Option Addr)(aR aT:Nat)(m:Mem)(R:RT):Prop:=
 ∀(b:Nat)(m':Mem),Mem.le m m'->Mem.reads m' b 0 [int u8 aA,aC,string aB,int i64 aD,slice aS aR aT]->∃(R_1:RT),True/\CX Tryz.prog 45 (Array.mk [agg (Array.mk [int u8 aA,aC,string
 aB,int i64 aD,slice aS aR aT])]) m' [] R_1/\Zal Shape.bool R_1/\∀(b:Bool)(m'_1:Mem),Mem.le m' m'_1->R_1 (bool b) m'_1 []->br (!b) (∃(m'':Mem),Mem.le m m''/\Mem.le m'' m'_1/\R (int i64
 20001) m'' []) (∃(R_2:RT),True/\CX Tryz.prog 46 (Array.mk [agg (Array.mk [int u8 aA,aC,string aB,int i64 aD,slice aS aR aT])]) m'_1 [] R_2/\Zal (Shape.int i64) R_2/\∀(n:Int)(m':Mem),
 Mem.le m'_1 m'->R_2 (int i64 n) m' []->∃(m'':Mem),Mem.le m m''/\Mem.le m'' m'/\R (int i64 n) m'' [])
theorem ZmO(aA:Int)(aC:Value)(aB:ByteArray)(aD:Int)(aS:Option Addr)(aR aT:Nat)(m:Mem)(R:RT)(h:ZhU aA aC aB aD aS aR aT m R):CX Tryz.prog 34 #[.agg #[.int .u8 aA,aC,.string aB,.int .i64 aD,.slice aS aR aT]] m [] R:=
 Zad (E:=ZoH) Zaj mix Tryz.func34 [.v (.agg #[.int .u8 aA,aC,.string aB,.int .i64 aD,.slice aS aR aT])] [] (by kernel_rfl) (Eq.mp (by kernel_rfl) h)
noncomputable def ZoI:Env:={ EB with
 loops:=(λi=>bif Nat.beq i 3 then⟨[(3,.int .i64),(22,.int .i64)],[],[],false⟩ else bif Nat.beq i 6 then⟨[(3,.int .i64),(29,.int .i64)],[],[],false⟩ else bif Nat.beq i 12 then⟨[(3,.int .i64),(49,.int .i64)],[],[],false⟩ else bif Nat.beq i 16 then⟨[(3,.int .i64),(66,.int .i64)],[],[],false⟩ else⟨[],[],[],false⟩)
 dr:=(λi=>bif Nat.beq i 14 then[⟨0,[],[],none,[],[]⟩,⟨1,[9],[],none,[],[]⟩,⟨2,[9],[],none,[1],[]⟩,⟨3,[],[],none,[1,2],[]⟩,⟨4,[],[],none,[1,2,3],[]⟩,⟨5,[9],[],none,[],[]⟩,⟨6,[9],[],none,[5],[]⟩,⟨7,[],[],none,[5,6],[]⟩,⟨8,[],[],none,[1,2,3,4,5,6,7],[]⟩,⟨9,[],[],none,[0,1,2,3,4,5,6,7,8],[]⟩,⟨10,[],[],none,[0,1,2,3,4,5,6,7,8,9],[]⟩]else[])
 frzNew:=[1]
 cuts:=(λi=>bif Nat.beq i 11 then some ⟨[(3,.int .i64)],[],[],false⟩ else none) }
def ZhV(aA:Int)(aI:Option Addr)(aE aJ:Nat)(aL:Option Addr)(aH aM:Nat)(m:Mem)(R:RT):Prop:=
 ∀(b:Nat)(m':Mem),Mem.le m m'->Mem.reads m' b 0 [int i64 aA,slice aI aE aJ,slice aL aH aM]->∃(I:IT),(∃(n:Nat),I [int i64 (IntKind.wrap i64 ((↑aE:Int)+(↑aH:Int))),int
 i64 0] [] [] m' n)/\∀(n a6:Int)(a0:Mem)(bk:Nat),Mem.le m' a0->I [int i64 n,int i64 a6] [] [] a0 bk->br (decide (a6 < (↑aH:Int))) (∃(bl:Nat),∃(o:Nat),aL=some (Addr.mk bl o none)/\Zai
 a6 aH/\∃(v:Value),∃(aa:Value),Mem.reads a0 bl (o+Int.toNat a6*2) [v,aa]/\∀(al:Nat),chk (Value.oneCell' v&&(Value.oneCell' aa&&true)) (chk (ZbM aa) (∃(bb:IT),(∃(ax:Nat),bb [int i64 n,
 int i64 0] [] [] a0 ax)/\∀(n ax:Int)(m':Mem)(bm:Nat),Mem.le a0 m'->bb [int i64 n,int i64 ax] [] [] m' bm->br (decide (ax < (↑(slN aa):Int))) (chk (ZbM aa) (∃(bn:Nat),∃(o:Nat),slA aa=some
 (Addr.mk bn o none)/\Zai ax (slN aa)/\∃(am:Value),∃(an:Value),∃(ao:Value),∃(ac:Value),∃(ad:Value),∃(ae:Value),∃(af:Value),∃(ag:Value),∃(ah:Value),∃(ai:Value),∃(aj:Value),
 ∃(ap:Value),∃(aq:Value),∃(ab:Value),∃(ar:Value),∃(au:Value),Mem.reads m' bn (o+Int.toNat ax*16) [am,an,ao,ac,ad,ae,af,ag,ah,ai,aj,ap,aq,ab,ar,au]/\∀(aw:Nat),chk
 (Value.oneCell' am&&(Value.oneCell' an&&(Value.oneCell' ao&&(Value.oneCell' ac&&(Value.oneCell' ad&&(Value.oneCell' ae&&(Value.oneCell' af&&(Value.oneCell' ag&&(Value.oneCell' ah&&(Value.oneCell' ai &&
 (Value.oneCell' aj&&(Value.oneCell' ap&&(Value.oneCell' aq&&(Value.oneCell' ab&&(Value.oneCell' ar&&(Value.oneCell' au&&true)))))))))))))))) (∃(R_1:RT),True/\CX Tryz.prog 32 (Array.mk [agg (Array.mk
 [ac,ad,ae,af,ag,ah,ai,aj])]) m' [] R_1/\Zal (Shape.int i64) R_1/\∀(bc:Int)(a7:Mem),Mem.le m' a7->R_1 (int i64 bc) a7 []->∃(J:JT),(∃(R:RT),True/\CX Tryz.prog 33 (Array.mk [agg (Array.mk [ac,
 ad,ae,af,ag,ah,ai,aj])]) a7 [] R/\Zal Shape.bool R/\∀(a8:Bool)(m':Mem),Mem.le a7 m'->R (bool a8) m' []->br (!a8) ([some (Box.mk aw [am,an,ao,ac,ad,ae,af,ag,ah,ai,aj,ap,aq,ab,ar,au] 67 16
 false true),some (Box.mk al [v,aa] 70 2 false true),some (Box.mk b [int i64 aA,slice aI aE aJ,slice aL aH aM] 27 3 true true)]=[some (Box.mk aw [am,an,ao,ac,ad,ae,af,ag,ah,ai,aj,ap,
 aq,ab,ar,au] 67 16 false true),some (Box.mk al [v,aa] 70 2 false true),some (Box.mk b [int i64 aA,slice aI aE aJ,slice aL aH aM] 27 3 true true)]/\J [int i64 20001] [] [] m') ([some (Box.mk
 aw [am,an,ao,ac,ad,ae,af,ag,ah,ai,aj,ap,aq,ab,ar,au] 67 16 false true),some (Box.mk al [v,aa] 70 2 false true),some (Box.mk b [int i64 aA,slice aI aE aJ,slice aL aH aM] 27 3 true
 true)]=[some (Box.mk aw [am,an,ao,ac,ad,ae,af,ag,ah,ai,aj,ap,aq,ab,ar,au] 67 16 false true),some (Box.mk al [v,aa] 70 2 false true),some (Box.mk b [int i64 aA,slice aI aE aJ,slice aL
 aH aM] 27 3 true true)]/\J [int i64 (IntKind.wrap i64 (n+IntKind.wrap i64 ((1:Int)+if(20000:Int) < bc then(20000:Int)else bc)))] [] [] m'))/\∀(n:Int)(m':Mem),Mem.le a7 m'->J [int i64 n] []
 [] m'->chk (ZbM ab) (∃(I:IT),(∃(ay:Nat),I [int i64 n,int i64 0] [] [] m' ay)/\∀(n ay:Int)(av:Mem)(bo:Nat),Mem.le m' av->I [int i64 n,int i64 ay] [] [] av bo->br (decide (ay < (↑(slN ab):Int)))
 (chk (ZbM ab) (∃(a8:Nat),∃(o:Nat),slA ab=some (Addr.mk a8 o none)/\Zai ay (slN ab)/\∃(a9:Value),∃(ba:Value),∃(ak:Value),∃(a1:Value),∃(a2:Value),∃(a3:Value),∃(a4:Value),∃(a5
 : Value),Mem.reads av a8 (o+Int.toNat ay*8) [a9,ba,ak,a1,a2,a3,a4,a5]/\∀(bp:Nat),chk (Value.oneCell' a9&&(Value.oneCell' ba&&(Value.oneCell' ak&&(Value.oneCell' a1&&(Value.oneCell' a2 &&
 (Value.oneCell' a3&&(Value.oneCell' a4&&(Value.oneCell' a5&&true)))))))) (∃(f:Fx),∃(R_2:RT),R_2=f 3 [agg (Array.mk [a1,a2,a3,a4,a5])] av/\CX Tryz.prog 34 (Array.mk [agg (Array.mk [a1,a2,a3,a4,
 a5])]) av [] R_2/\Zal (Shape.int i64) R_2/\∀(bq:Int)(m':Mem),Mem.le av m'->R_2 (int i64 bq) m' []->chk (ZbM ak) (∀(M:Mem),Mem.le av M->Mem.le m' M->chk (ZbM ak) (∃(bd:IT),(∃(az:Nat),bd [int
 i64 (IntKind.wrap i64 (n+IntKind.wrap i64 (IntKind.wrap i64 ((1:Int)+bq)+(↑(slN ak):Int)))),int i64 0] [] [] M az)/\∀(n az:Int)(m':Mem)(bs:Nat),Mem.le M m'->bd [int i64 n,int i64 az] [] [] m' bs
 -> br (decide (az < (↑(slN ak):Int))) (chk (ZbM ak) (∃(bt:Nat),∃(o:Nat),slA ak=some (Addr.mk bt o none)/\Zai az (slN ak)/\∃(bu:Value),∃(bv:Value),∃(bw:Value),∃(be:Value),∃(bf:Value),
 ∃(bg:Value),∃(bh:Value),∃(bi:Value),Mem.reads m' bt (o+Int.toNat az*8) [bu,bv,bw,be,bf,bg,bh,bi]/\∀(bz:Nat),chk (Value.oneCell' bu&&(Value.oneCell' bv&&(Value.oneCell' bw &&
 (Value.oneCell' be&&(Value.oneCell' bf&&(Value.oneCell' bg&&(Value.oneCell' bh&&(Value.oneCell' bi&&true)))))))) (br (decide (n > (20000:Int))) (∃(m'':Mem),Mem.le m m''/\Mem.le m'' m'/\R (bool (decide
 (n<=(20000:Int)))) m'' []) (∃(R:RT),True/\CX Tryz.prog 34 (Array.mk [agg (Array.mk [be,bf,bg,bh,bi])]) m' [] R/\Zal (Shape.int i64) R/\∀(bx:Int)(bj:Mem),Mem.le m' bj->R (int i64 bx) bj []->[some
 (Box.mk bp [a9,ba,ak,a1,a2,a3,a4,a5] 53 8 false true),some (Box.mk aw [am,an,ao,ac,ad,ae,af,ag,ah,ai,aj,ap,aq,ab,ar,au] 67 16 false true),some (Box.mk al [v,aa] 70 2 false true),some (Box.mk b
 [int i64 aA,slice aI aE aJ,slice aL aH aM] 27 3 true true)]=[some (Box.mk bp [a9,ba,ak,a1,a2,a3,a4,a5] 53 8 false true),some (Box.mk aw [am,an,ao,ac,ad,ae,af,ag,ah,ai,aj,ap,
 aq,ab,ar,au] 67 16 false true),some (Box.mk al [v,aa] 70 2 false true),some (Box.mk b [int i64 aA,slice aI aE aJ,slice aL aH aM] 27 3 true true)]/\∃(n':Nat),n' < bs/\bd [int i64
 (IntKind.wrap i64 (n+bx)),int i64 (IntKind.wrap i64 (az+(1:Int)))] [] [] bj n')))) ([some (Box.mk aw [am,an,ao,ac,ad,ae,af,ag,ah,ai,aj,ap,aq,ab,ar,au] 67 16 false true),some (Box.mk al [v,aa] 70
 2 false true),some (Box.mk b [int i64 aA,slice aI aE aJ,slice aL aH aM] 27 3 true true)]=[some (Box.mk aw [am,an,ao,ac,ad,ae,af,ag,ah,ai,aj,ap,aq,ab,ar,au] 67 16 false true),some
 (Box.mk al [v,aa] 70 2 false true),some (Box.mk b [int i64 aA,slice aI aE aJ,slice aL aH aM] 27 3 true true)]/\∃(n':Nat),n' < bo/\I [int i64 n,int i64 (IntKind.wrap i64 (ay+(1:Int)))]
 [] [] m' n')))))) (br (decide (n > (20000:Int))) (∃(m'':Mem),Mem.le m m''/\Mem.le m'' av/\R (bool (decide (n<=(20000:Int)))) m'' []) ([some (Box.mk al [v,aa] 70 2 false true),some (Box.mk b [int i64 aA,
 slice aI aE aJ,slice aL aH aM] 27 3 true true)]=[some (Box.mk al [v,aa] 70 2 false true),some (Box.mk b [int i64 aA,slice aI aE aJ,slice aL aH aM] 27 3 true true)]/\∃(n':
 Nat),n' < bm/\bb [int i64 n,int i64 (IntKind.wrap i64 (ax+(1:Int)))] [] [] av n')))))) ([some (Box.mk b [int i64 aA,slice aI aE aJ,slice aL aH aM] 27 3 true true)]=[some (Box.mk b [int i64
 aA,slice aI aE aJ,slice aL aH aM] 27 3 true true)]/\∃(n':Nat),n' < bk/\I [int i64 n,int i64 (IntKind.wrap i64 (a6+(1:Int)))] [] [] m' n')))) (∃(m'':Mem),Mem.le m m''/\Mem.le m'' a0
 /\ R (bool (decide (n<=(20000:Int)))) m'' [])
theorem ZmP(aA:Int)(aI:Option Addr)(aE aJ:Nat)(aL:Option Addr)(aH aM:Nat)(m:Mem)(R:RT)(h:ZhV aA aI aE aJ aL aH aM m R):CX Tryz.prog 21 #[.agg #[.int .i64 aA,.slice aI aE aJ,.slice aL aH aM]] m [] R:=
 Zad (E:=ZoI) Zaj mix Tryz.func21 [.v (.agg #[.int .i64 aA,.slice aI aE aJ,.slice aL aH aM])] [] (by kernel_rfl) (Eq.mp (by kernel_rfl) h)
noncomputable def ZmQ:Env:={ EB with
 frzNew:=[2] }
def ZgE(aA:ByteArray)(aI:Option Addr)(aE aJ c0b c0o:Nat)(m:Mem)(R:RT):Prop:=
 ∀(b:Nat)(m':Mem),Mem.le m m'->Mem.reads m' b 0 [string aA,slice aI aE aJ]->∃(v:Value),m' c0b c0o=some v/\chk (Zeh v) (∃(m'':Mem),Mem.le m m''/\Mem.le m'' m'/\R (bool (ByteArray.toList
 aA == ByteArray.toList (Zbx v))) m'' [])
theorem Zk4(aA:ByteArray)(aI:Option Addr)(aE aJ c0b c0o:Nat)(m:Mem)(R:RT)(h:ZgE aA aI aE aJ c0b c0o m R):CX Tryz.prog 91 #[.agg #[.string aA,.slice aI aE aJ],.pointer (some ⟨c0b,c0o,none⟩)] m [] R:=
 Zad (E:=ZmQ) Zaj mix Tryz.func91 [.v (.agg #[.string aA,.slice aI aE aJ]),.v (.pointer (some ⟨c0b,c0o,none⟩))] [] (by kernel_rfl) (Eq.mp (by kernel_rfl) h)
noncomputable def Zbd:Env:={ EB with
 loops:=(λi=>bif Nat.beq i 2 then⟨[(8,.int .i64)],[],[],false⟩ else⟨[],[],[],false⟩) }
def ZaG(p0a:Option Addr)(p0n p0c p1g:Nat)(p1fi p1ca:List Value)(m:Mem)(R:RT):Prop:=
 ∃(I:IT),(∃(n:Nat),I [int i64 0] [] [] m n)/\∀(n:Int)(m':Mem)(n_1:Nat),Mem.le m m'->I [int i64 n] [] [] m' n_1->br (decide (n < (↑p0n:Int))) (∃(b:Nat),∃(o:Nat),p0a=some (Addr.mk b o none)
 /\ Zai n p0n/\∃(v:Value),∃(v_1:Value),Mem.reads m' b (o+Int.toNat n*2) [v,v_1]/\∃(R_1:RT),True/\CX Tryz.prog p1g (Array.mk (List.append (List.append p1fi [agg (Array.mk [v,v_1])]) p1ca)) m' []
 R_1/\Zal Shape.bool R_1/\∀(b:Bool)(m'_1:Mem),Mem.le m' m'_1->R_1 (bool b) m'_1 []->br b (∃(m'':Mem),Mem.le m m''/\Mem.le m'' m'_1/\R (int i64 n) m'' []) (∃(n':Nat),n' < n_1/\I [int i64
 (IntKind.wrap i64 (n+(1:Int)))] [] [] m'_1 n')) (∃(m'':Mem),Mem.le m m''/\Mem.le m'' m'/\R (int i64 (-1:Int)) m'' [])
theorem Za9(p0a:Option Addr)(p0n p0c p1g:Nat)(p1fi p1ca:List Value)(m:Mem)(R:RT)(h:ZaG p0a p0n p0c p1g p1fi p1ca m R):CX Tryz.prog 86 #[.slice p0a p0n p0c,.func (.func p1g) p1fi.toArray p1ca.toArray] m [] R:=
 Zad (E:=Zbd) Zaj mix Tryz.func86 [.v (.slice p0a p0n p0c),.v (.func (.func p1g) p1fi.toArray p1ca.toArray)] [] (by kernel_rfl) (Eq.mp (by kernel_rfl) h)
noncomputable def Za7:Env:=EB
def ZaE(p0a:Option Addr)(p0n p0c p1g:Nat)(p1fi p1ca:List Value)(m:Mem)(R:RT):Prop:=
 ∃(R_1:RT),True/\CX Tryz.prog 86 (Array.mk [slice p0a p0n p0c,func (Fn.func p1g) (Array.mk p1fi) (Array.mk p1ca)]) m [] R_1/\Zal (Shape.int i64) R_1/\∀(n:Int)(m':Mem),Mem.le m m'->R_1 (int i64 n) m' []->
 ∃(m'':Mem),Mem.le m m''/\Mem.le m'' m'/\R (bool (decide (n ≥ (0:Int)))) m'' []
theorem Za2(p0a:Option Addr)(p0n p0c p1g:Nat)(p1fi p1ca:List Value)(m:Mem)(R:RT)(h:ZaE p0a p0n p0c p1g p1fi p1ca m R):CX Tryz.prog 58 #[.slice p0a p0n p0c,.func (.func p1g) p1fi.toArray p1ca.toArray] m [] R:=
 Zad (E:=Za7) Zaj mix Tryz.func58 [.v (.slice p0a p0n p0c),.v (.func (.func p1g) p1fi.toArray p1ca.toArray)] [] (by kernel_rfl) (Eq.mp (by kernel_rfl) h)
noncomputable def Zby:Env:={ EB with
 loops:=(λi=>bif Nat.beq i 2 then⟨[(8,.int .i64)],[],[],false⟩ else⟨[],[],[],false⟩) }
def ZaV(p0a:Option Addr)(p0n p0c p1g:Nat)(p1fi p1ca:List Value)(m:Mem)(R:RT):Prop:=
 ∃(I:IT),(∃(n:Nat),I [int i64 0] [] [] m n)/\∀(n:Int)(m':Mem)(n_1:Nat),Mem.le m m'->I [int i64 n] [] [] m' n_1->br (decide (n < (↑p0n:Int))) (∃(b:Nat),∃(o:Nat),p0a=some (Addr.mk b o none)
 /\ Zai n p0n/\∃(v:Value),∃(v_1:Value),∃(v_2:Value),∃(v_3:Value),Mem.reads m' b (o+Int.toNat n*4) [v,v_1,v_2,v_3]/\∃(R_1:RT),True/\CX Tryz.prog p1g (Array.mk (List.append (List.append
 p1fi [agg (Array.mk [v,v_1,v_2,v_3])]) p1ca)) m' [] R_1/\Zal Shape.bool R_1/\∀(b:Bool)(m'_1:Mem),Mem.le m' m'_1->R_1 (bool b) m'_1 []->br b (∃(m'':Mem),Mem.le m m''/\Mem.le m'' m'_1/\R (int i64 n)
 m'' []) (∃(n':Nat),n' < n_1/\I [int i64 (IntKind.wrap i64 (n+(1:Int)))] [] [] m'_1 n')) (∃(m'':Mem),Mem.le m m''/\Mem.le m'' m'/\R (int i64 (-1:Int)) m'' [])
theorem Zbt(p0a:Option Addr)(p0n p0c p1g:Nat)(p1fi p1ca:List Value)(m:Mem)(R:RT)(h:ZaV p0a p0n p0c p1g p1fi p1ca m R):CX Tryz.prog 85 #[.slice p0a p0n p0c,.func (.func p1g) p1fi.toArray p1ca.toArray] m [] R:=
 Zad (E:=Zby) Zaj mix Tryz.func85 [.v (.slice p0a p0n p0c),.v (.func (.func p1g) p1fi.toArray p1ca.toArray)] [] (by kernel_rfl) (Eq.mp (by kernel_rfl) h)
noncomputable def Zbk:Env:=EB
def ZaL(p0a:Option Addr)(p0n p0c p1g:Nat)(p1fi p1ca:List Value)(m:Mem)(R:RT):Prop:=
 ∃(R_1:RT),True/\CX Tryz.prog 85 (Array.mk [slice p0a p0n p0c,func (Fn.func p1g) (Array.mk p1fi) (Array.mk p1ca)]) m [] R_1/\Zal (Shape.int i64) R_1/\∀(n:Int)(m':Mem),Mem.le m m'->R_1 (int i64 n) m' []->
 ∃(m'':Mem),Mem.le m m''/\Mem.le m'' m'/\R (bool (decide (n ≥ (0:Int)))) m'' []
theorem Zbe(p0a:Option Addr)(p0n p0c p1g:Nat)(p1fi p1ca:List Value)(m:Mem)(R:RT)(h:ZaL p0a p0n p0c p1g p1fi p1ca m R):CX Tryz.prog 52 #[.slice p0a p0n p0c,.func (.func p1g) p1fi.toArray p1ca.toArray] m [] R:=
 Zad (E:=Zbk) Zaj mix Tryz.func52 [.v (.slice p0a p0n p0c),.v (.func (.func p1g) p1fi.toArray p1ca.toArray)] [] (by kernel_rfl) (Eq.mp (by kernel_rfl) h)
noncomputable def Zqe:Env:={ EB with
 joins:=(λi=>bif Nat.beq i 2 then some [(17,.bool)]else none)
 frzNew:=[2,3] }
def Zj5(aA:Int)(aI:Option Addr)(aE aJ:Nat)(aL:Option Addr)(aH aM:Nat)(p1:ByteArray)(m:Mem)(R:RT):Prop:=
 ∀(b:Nat)(m':Mem),Mem.le m m'->Mem.reads m' b 0 [int i64 aA,slice aI aE aJ,slice aL aH aM]->∀(b_1:Nat)(m'_1:Mem),Mem.le m' m'_1->Mem.reads m'_1 b_1 0 [string p1]->∃(R_1:RT),
 True/\CX Tryz.prog 86 (Array.mk [slice aL aH aM,func (Fn.func 91) (Array.mk []) (Array.mk [Value.pointer (some (Addr.mk b_1 0 none))])]) m'_1 [] R_1/\Zal (Shape.int i64) R_1/\∀(n:Int)(m':Mem),Mem.le
 m'_1 m'->R_1 (int i64 n) m' []->∃(b_2:Bool),br (decide (n < (0:Int))) ([some (Box.mk b_1 [string p1] 9 1 true true),some (Box.mk b [int i64 aA,slice aI aE aJ,slice aL aH aM] 27 3 true
 true)]=[some (Box.mk b_1 [string p1] 9 1 true true),some (Box.mk b [int i64 aA,slice aI aE aJ,slice aL aH aM] 27 3 true true)]/\[bool true]=[bool b_2]) (∃(R:RT),True/\CX Tryz.prog 21
 (Array.mk [agg (Array.mk [int i64 aA,slice aI aE aJ,slice aL aH aM])]) m' [] R/\Zal Shape.bool R/\∀(b_3:Bool)(m'_2:Mem),Mem.le m' m'_2->R (bool b_3) m'_2 []->[some (Box.mk b_1 [string
 p1] 9 1 true true),some (Box.mk b [int i64 aA,slice aI aE aJ,slice aL aH aM] 27 3 true true)]=[some (Box.mk b_1 [string p1] 9 1 true true),some (Box.mk b [int i64 aA,slice aI aE aJ,
 slice aL aH aM] 27 3 true true)]/\[bool !b_3]=[bool b_2])/\br b_2 (∃(m'':Mem),Mem.le m m''/\Mem.le m'' m'/\R (tuple (Array.mk [int i64 0,bool false])) m'' []) (∃(m'':Mem),Mem.le m m''/\Mem.le
 m'' m'/\R (tuple (Array.mk [int i64 n,bool true])) m'' [])
theorem ZoJ(aA:Int)(aI:Option Addr)(aE aJ:Nat)(aL:Option Addr)(aH aM:Nat)(p1:ByteArray)(m:Mem)(R:RT)(h:Zj5 aA aI aE aJ aL aH aM p1 m R):CX Tryz.prog 65 #[.agg #[.int .i64 aA,.slice aI aE aJ,.slice aL aH aM],.string p1] m [] R:=
 Zad (E:=Zqe) Zaj mix Tryz.func65 [.v (.agg #[.int .i64 aA,.slice aI aE aJ,.slice aL aH aM]),.v (.string p1)] [] (by kernel_rfl) (Eq.mp (by kernel_rfl) h)
noncomputable def ZmR:Env:={ EB with
 loops:=(λi=>bif Nat.beq i 5 then⟨[(3,.slice),(20,.int .i64)],[],[(27,5)],false⟩ else bif Nat.beq i 10 then⟨[(3,.slice),(32,.int .i64)],[],[(27,5)],false⟩ else bif Nat.beq i 14 then⟨[(3,.slice),(45,.int .i64)],[],[(27,5)],false⟩ else bif Nat.beq i 18 then⟨[(3,.slice),(59,.int .i64)],[],[(27,5)],false⟩ else bif Nat.beq i 22 then⟨[(3,.slice),(74,.int .i64)],[],[(27,5)],false⟩ else⟨[],[],[],false⟩)
 tokOf:=(λi=>bif Nat.beq i 27 then 27 else bif Nat.beq i 41 then 27 else bif Nat.beq i 55 then 27 else bif Nat.beq i 70 then 27 else bif Nat.beq i 84 then 27 else 0)
 frzNew:=[1] }
def ZgF(aA:Int)(aI:Option Addr)(aE aJ:Nat)(aL:Option Addr)(aH aM:Nat)(m:Mem)(R:RT):Prop:=
 ∀(b:Nat)(m':Mem),Mem.le m m'->Mem.reads m' b 0 [int i64 aA,slice aI aE aJ,slice aL aH aM]->∃(R_1:RT),True/\CX Tryz.prog 21 (Array.mk [agg (Array.mk [int i64 aA,slice aI aE
 aJ,slice aL aH aM])]) m' [] R_1/\Zal Shape.bool R_1/\∀(bz:Bool)(ap:Mem),Mem.le m' ap->R_1 (bool bz) ap []->br (!bz) (∃(m'':Mem),Mem.le m m''/\Mem.le m'' ap/\R (slice none 0 0) m'' []) (∀
 (ad:Nat),Mem.free ap ad->∃(I:IT),(∃(n:Nat),I [slice (some (Addr.mk ad 0 none)) 1 1,int i64 0] [] [slice none 0 0] (Mem.add ap ad [int i64 (-1:Int),int i64 (-1:Int),int i64 (-1:Int),int i64 (-1:
 Int),int i64 (-1:Int)]) n)/\∀(a:Option Addr)(n c:Nat)(aq:Int)(bj:Option Addr)(bk bl:Nat)(m':Mem)(ca:Nat),Mem.le (Mem.add ap ad [int i64 (-1:Int),int i64 (-1:Int),int i64 (-1:Int),int
 i64 (-1:Int),int i64 (-1:Int)]) m'->I [slice a n c,int i64 aq] [] [slice bj bk bl] m' ca->br (decide (aq < (↑aE:Int))) (∀(aj:Nat),Mem.free m' aj->(Tok.mk (slice bj bk bl) 5=Tok.mk (slice a n c) 5\/
 slice a n c=slice none 0 0\/c < n+1)/\∃(xs:List Value),∃(ys:List Value),List.length xs=n*5/\List.length ys=1*5/\rowRd (Mem.add m' aj [int i64 aq,int i64 (-1:Int),int i64 (-1:Int),int i64
 (-1:Int),int i64 (-1:Int)]) a xs/\rowRd (Mem.add m' aj [int i64 aq,int i64 (-1:Int),int i64 (-1:Int),int i64 (-1:Int),int i64 (-1:Int)]) (some (Addr.mk aj 0 none)) ys/\(∀(u:Value),u∈ys->
 Value.oneCell' u=true)/\(n+1)*40<=140737488355328/\n+1<=9223372036854775807/\∀(a':Option Addr)(c':Nat)(af:Mem),Mem.le (Mem.add m' aj [int i64 aq,int i64 (-1:Int),int i64 (-1:Int),int i64
 (-1:Int),int i64 (-1:Int)]) af->rowRd af a' (List.append xs ys)->[some (Box.mk ad [int i64 (-1:Int),int i64 (-1:Int),int i64 (-1:Int),int i64 (-1:Int),int i64 (-1:Int)] 34 5 true true),some (Box.mk
 b [int i64 aA,slice aI aE aJ,slice aL aH aM] 27 3 true true)]=[some (Box.mk ad [int i64 (-1:Int),int i64 (-1:Int),int i64 (-1:Int),int i64 (-1:Int),int i64 (-1:Int)] 34 5 true
 true),some (Box.mk b [int i64 aA,slice aI aE aJ,slice aL aH aM] 27 3 true true)]/\∃(n':Nat),n' < ca/\I [slice a' (n+1) c',int i64 (IntKind.wrap i64 (aq+(1:Int)))] [] [slice a' (n+1)
 c'] af n') (∃(I:IT),(∃(aa:Nat),I [slice a n c,int i64 0] [] [slice bj bk bl] m' aa)/\∀(a:Option Addr)(n c:Nat)(aa:Int)(cb:Option Addr)(cc cd:Nat)(af:Mem)(ce:Nat),Mem.le m' af->I [slice a
 n c,int i64 aa] [] [slice cb cc cd] af ce->br (decide (aa < (↑aH:Int))) (∃(aj:Nat),∃(o:Nat),aL=some (Addr.mk aj o none)/\Zai aa aH/\∃(v:Value),∃(ae:Value),Mem.reads af aj (o +
 Int.toNat aa*2) [v,ae]/\∀(ar:Nat),chk (Value.oneCell' v&&(Value.oneCell' ae&&true)) (∀(ag:Nat),Mem.free af ag->(Tok.mk (slice cb cc cd) 5=Tok.mk (slice a n c) 5\/slice a n c=slice none 0 0\/c < n
 + 1)/\∃(xs:List Value),∃(ys:List Value),List.length xs=n*5/\List.length ys=1*5/\rowRd (Mem.add af ag [int i64 (-1:Int),int i64 aa,int i64 (-1:Int),int i64 (-1:Int),int i64 (-1:Int)]) a xs
 /\ rowRd (Mem.add af ag [int i64 (-1:Int),int i64 aa,int i64 (-1:Int),int i64 (-1:Int),int i64 (-1:Int)]) (some (Addr.mk ag 0 none)) ys/\(∀(u:Value),u∈ys->Value.oneCell' u=true)/\(n+1)*40 <=
 140737488355328/\n+1<=9223372036854775807/\∀(a':Option Addr)(c':Nat)(m':Mem),Mem.le (Mem.add af ag [int i64 (-1:Int),int i64 aa,int i64 (-1:Int),int i64 (-1:Int),int i64 (-1:Int)]) m'->rowRd
 m' a' (List.append xs ys)->chk (ZbM ae) (∃(bm:IT),(∃(ab:Nat),bm [slice a' (n+1) c',int i64 0] [] [slice a' (n+1) c'] m' ab)/\∀(a:Option Addr)(n c:Nat)(ab:Int)(bn:Option Addr)(bo bp:Nat)
 (ak:Mem) (cf:Nat),Mem.le m' ak->bm [slice a n c,int i64 ab] [] [slice bn bo bp] ak cf->br (decide (ab < (↑(slN ae):Int))) (chk (ZbM ae) (∃(cg:Nat),∃(o:Nat),slA ae=some (Addr.mk cg o none)/\Zai
 ab (slN ae)/\∃(au:Value),∃(av:Value),∃(aw:Value),∃(ax:Value),∃(ay:Value),∃(az:Value),∃(a0:Value),∃(a1:Value),∃(a2:Value),∃(a3:Value),∃(a4:Value),∃(a5:Value),∃(a6:
 Value),∃(ah:Value),∃(a7:Value),∃(a8:Value),Mem.reads ak cg (o+Int.toNat ab*16) [au,av,aw,ax,ay,az,a0,a1,a2,a3,a4,a5,a6,ah,a7,a8]/\∀(bb:Nat),chk (Value.oneCell' au&&(Value.oneCell'
 av&&(Value.oneCell' aw&&(Value.oneCell' ax&&(Value.oneCell' ay&&(Value.oneCell' az&&(Value.oneCell' a0&&(Value.oneCell' a1&&(Value.oneCell' a2&&(Value.oneCell' a3&&(Value.oneCell' a4&&(Value.oneCell'
 a5&&(Value.oneCell' a6&&(Value.oneCell' ah&&(Value.oneCell' a7&&(Value.oneCell' a8&&true)))))))))))))))) (∀(ai:Nat),Mem.free ak ai->(Tok.mk (slice bn bo bp) 5=Tok.mk (slice a n c) 5\/slice a n c =
 slice none 0 0\/c < n+1)/\∃(xs:List Value),∃(ys:List Value),List.length xs=n*5/\List.length ys=1*5/\rowRd (Mem.add ak ai [int i64 (-1:Int),int i64 aa,int i64 ab,int i64 (-1:Int),int i64 (-1
 : Int)]) a xs/\rowRd (Mem.add ak ai [int i64 (-1:Int),int i64 aa,int i64 ab,int i64 (-1:Int),int i64 (-1:Int)]) (some (Addr.mk ai 0 none)) ys/\(∀(u:Value),u∈ys->Value.oneCell' u=true)/\(n+1)*40
 <= 140737488355328/\n+1<=9223372036854775807/\∀(a':Option Addr)(c':Nat)(m':Mem),Mem.le (Mem.add ak ai [int i64 (-1:Int),int i64 aa,int i64 ab,int i64 (-1:Int),int i64 (-1:Int)]) m'->rowRd m' a'
 (List.append xs ys)->chk (ZbM ah) (∃(I:IT),(∃(ac:Nat),I [slice a' (n+1) c',int i64 0] [] [slice a' (n+1) c'] m' ac)/\∀(a:Option Addr)(n c:Nat)(ac:Int)(bq:Option Addr)(bs bt:Nat)(al:Mem)
 (ch:Nat),Mem.le m' al->I [slice a n c,int i64 ac] [] [slice bq bs bt] al ch->br (decide (ac < (↑(slN ah):Int))) (chk (ZbM ah) (∃(ci:Nat),∃(o:Nat),slA ah=some (Addr.mk ci o none)/\Zai ac (slN ah)
 /\ ∃(bc:Value),∃(bd:Value),∃(a9:Value),∃(be:Value),∃(bf:Value),∃(bg:Value),∃(bh:Value),∃(bi:Value),Mem.reads al ci (o+Int.toNat ac*8) [bc,bd,a9,be,bf,bg,bh,bi]/\∀(cj:Nat),
 chk (Value.oneCell' bc&&(Value.oneCell' bd&&(Value.oneCell' a9&&(Value.oneCell' be&&(Value.oneCell' bf&&(Value.oneCell' bg&&(Value.oneCell' bh&&(Value.oneCell' bi&&true)))))))) (∀(an:Nat),Mem.free al
 an->(Tok.mk (slice bq bs bt) 5=Tok.mk (slice a n c) 5\/slice a n c=slice none 0 0\/c < n+1)/\∃(xs:List Value),∃(ys:List Value),List.length xs=n*5/\List.length ys=1*5/\rowRd (Mem.add al an
 [int i64 (-1:Int),int i64 aa,int i64 ab,int i64 ac,int i64 (-1:Int)]) a xs/\rowRd (Mem.add al an [int i64 (-1:Int),int i64 aa,int i64 ab,int i64 ac,int i64 (-1:Int)]) (some (Addr.mk an 0 none)) ys/\(∀
 (u:Value),u∈ys->Value.oneCell' u=true)/\(n+1)*40<=140737488355328/\n+1<=9223372036854775807/\∀(a':Option Addr)(c':Nat)(m':Mem),Mem.le (Mem.add al an [int i64 (-1:Int),int i64 aa,int i64
 ab,int i64 ac,int i64 (-1:Int)]) m'->rowRd m' a' (List.append xs ys)->chk (ZbM a9) (∃(bu:IT),(∃(am:Nat),bu [slice a' (n+1) c',int i64 0] [] [slice a' (n+1) c'] m' am)/\∀(a:Option Addr) (n c:
 Nat) (am:Int) (bv:Option Addr) (bw bx:Nat) (ao:Mem) (ck:Nat),Mem.le m' ao->bu [slice a n c,int i64 am] [] [slice bv bw bx] ao ck->br (decide (am < (↑(slN a9):Int))) (∀(ba:Nat),Mem.free ao ba->
 (Tok.mk (slice bv bw bx) 5=Tok.mk (slice a n c) 5\/slice a n c=slice none 0 0\/c < n+1)/\∃(xs:List Value),∃(ys:List Value),List.length xs=n*5/\List.length ys=1*5/\rowRd (Mem.add ao ba [int i64
 (-1:Int),int i64 aa,int i64 ab,int i64 ac,int i64 am]) a xs/\rowRd (Mem.add ao ba [int i64 (-1:Int),int i64 aa,int i64 ab,int i64 ac,int i64 am]) (some (Addr.mk ba 0 none)) ys/\(∀(u:Value),u∈ys->
 Value.oneCell' u=true)/\(n+1)*40<=140737488355328/\n+1<=9223372036854775807/\∀(a':Option Addr)(c':Nat)(m':Mem),Mem.le (Mem.add ao ba [int i64 (-1:Int),int i64 aa,int i64 ab,int i64 ac,int
 i64 am]) m'->rowRd m' a' (List.append xs ys)->[some (Box.mk an [int i64 (-1:Int),int i64 aa,int i64 ab,int i64 ac,int i64 (-1:Int)] 34 5 true true),some (Box.mk cj [bc,bd,a9,be,bf,bg,bh,bi] 53 8 false
 true),some (Box.mk ai [int i64 (-1:Int),int i64 aa,int i64 ab,int i64 (-1:Int),int i64 (-1:Int)] 34 5 true true),some (Box.mk bb [au,av,aw,ax,ay,az,a0,a1,a2,a3,a4,a5,a6,ah,a7,a8] 67 16 false
 true),some (Box.mk ag [int i64 (-1:Int),int i64 aa,int i64 (-1:Int),int i64 (-1:Int),int i64 (-1:Int)] 34 5 true true),some (Box.mk ar [v,ae] 70 2 false true),some (Box.mk ad [int i64 (-1:Int),int i64
 (-1:Int),int i64 (-1:Int),int i64 (-1:Int),int i64 (-1:Int)] 34 5 true true),some (Box.mk b [int i64 aA,slice aI aE aJ,slice aL aH aM] 27 3 true true)]=[some (Box.mk an [int i64 (-1:
 Int),int i64 aa,int i64 ab,int i64 ac,int i64 (-1:Int)] 34 5 true true),some (Box.mk cj [bc,bd,a9,be,bf,bg,bh,bi] 53 8 false true),some (Box.mk ai [int i64 (-1:Int),int i64 aa,int i64 ab,int i64 (-1
 : Int),int i64 (-1:Int)] 34 5 true true),some (Box.mk bb [au,av,aw,ax,ay,az,a0,a1,a2,a3,a4,a5,a6,ah,a7,a8] 67 16 false true),some (Box.mk ag [int i64 (-1:Int),int i64 aa,int i64 (-1:Int),int
 i64 (-1:Int),int i64 (-1:Int)] 34 5 true true),some (Box.mk ar [v,ae] 70 2 false true),some (Box.mk ad [int i64 (-1:Int),int i64 (-1:Int),int i64 (-1:Int),int i64 (-1:Int),int i64 (-1:Int)] 34 5
 true true),some (Box.mk b [int i64 aA,slice aI aE aJ,slice aL aH aM] 27 3 true true)]/\([none,none,none,none,none,none,none]:List (Option Tok))=[none,none,none,none,none,none,
 none]/\∃(n':Nat),n' < ck/\bu [slice a' (n+1) c',int i64 (IntKind.wrap i64 (am+(1:Int)))] [] [slice a' (n+1) c'] m' n') ([some (Box.mk ai [int i64 (-1:Int),int i64 aa,int i64 ab,int i64 (-1:Int),
 int i64 (-1:Int)] 34 5 true true),some (Box.mk bb [au,av,aw,ax,ay,az,a0,a1,a2,a3,a4,a5,a6,ah,a7,a8] 67 16 false true),some (Box.mk ag [int i64 (-1:Int),int i64 aa,int i64 (-1:Int),int i64 (-1:
 Int),int i64 (-1:Int)] 34 5 true true),some (Box.mk ar [v,ae] 70 2 false true),some (Box.mk ad [int i64 (-1:Int),int i64 (-1:Int),int i64 (-1:Int),int i64 (-1:Int),int i64 (-1:Int)] 34 5 true true),
 some (Box.mk b [int i64 aA,slice aI aE aJ,slice aL aH aM] 27 3 true true)]=[some (Box.mk ai [int i64 (-1:Int),int i64 aa,int i64 ab,int i64 (-1:Int),int i64 (-1:Int)] 34 5 true true),
 some (Box.mk bb [au,av,aw,ax,ay,az,a0,a1,a2,a3,a4,a5,a6,ah,a7,a8] 67 16 false true),some (Box.mk ag [int i64 (-1:Int),int i64 aa,int i64 (-1:Int),int i64 (-1:Int),int i64 (-1:Int)] 34 5 true
 true),some (Box.mk ar [v,ae] 70 2 false true),some (Box.mk ad [int i64 (-1:Int),int i64 (-1:Int),int i64 (-1:Int),int i64 (-1:Int),int i64 (-1:Int)] 34 5 true true),some (Box.mk b [int i64 aA,slice
 aI aE aJ,slice aL aH aM] 27 3 true true)]/\([none,none,none,none,none]:List (Option Tok))=[none,none,none,none,none]/\∃(n':Nat),n' < ch/\I [slice a n c,int i64 (IntKind.wrap i64
 (ac+(1:Int)))] [] [slice bv bw bx] ao n'))))) ([some (Box.mk ag [int i64 (-1:Int),int i64 aa,int i64 (-1:Int),int i64 (-1:Int),int i64 (-1:Int)] 34 5 true true),some (Box.mk ar [v,ae] 70 2 false true),
 some (Box.mk ad [int i64 (-1:Int),int i64 (-1:Int),int i64 (-1:Int),int i64 (-1:Int),int i64 (-1:Int)] 34 5 true true),some (Box.mk b [int i64 aA,slice aI aE aJ,slice aL aH aM] 27 3
 true true)]=[some (Box.mk ag [int i64 (-1:Int),int i64 aa,int i64 (-1:Int),int i64 (-1:Int),int i64 (-1:Int)] 34 5 true true),some (Box.mk ar [v,ae] 70 2 false true),some (Box.mk ad [int i64 (-1:Int),
 int i64 (-1:Int),int i64 (-1:Int),int i64 (-1:Int),int i64 (-1:Int)] 34 5 true true),some (Box.mk b [int i64 aA,slice aI aE aJ,slice aL aH aM] 27 3 true true)]/\([none,none,none]:
 List (Option Tok))=[none,none,none]/\∃(n':Nat),n' < cf/\bm [slice a n c,int i64 (IntKind.wrap i64 (ab+(1:Int)))] [] [slice bq bs bt] al n'))))) ([some (Box.mk ad [int i64 (-1:Int),int i64 (-1:Int),
 int i64 (-1:Int),int i64 (-1:Int),int i64 (-1:Int)] 34 5 true true),some (Box.mk b [int i64 aA,slice aI aE aJ,slice aL aH aM] 27 3 true true)]=[some (Box.mk ad [int i64 (-1:Int),int
 i64 (-1:Int),int i64 (-1:Int),int i64 (-1:Int),int i64 (-1:Int)] 34 5 true true),some (Box.mk b [int i64 aA,slice aI aE aJ,slice aL aH aM] 27 3 true true)]/\([none]:List (Option
 Tok))=[none]/\∃(n':Nat),n' < ce/\I [slice a n c,int i64 (IntKind.wrap i64 (aa+(1:Int)))] [] [slice bn bo bp] ak n')))) (∃(m'':Mem),Mem.le m m''/\Mem.le m'' af/\R (slice a n c) m'' [])))
theorem Zk5(aA:Int)(aI:Option Addr)(aE aJ:Nat)(aL:Option Addr)(aH aM:Nat)(m:Mem)(R:RT)(h:ZgF aA aI aE aJ aL aH aM m R):CX Tryz.prog 9 #[.agg #[.int .i64 aA,.slice aI aE aJ,.slice aL aH aM]] m [] R:=
 Zad (E:=ZmR) Zaj mix Tryz.func9 [.v (.agg #[.int .i64 aA,.slice aI aE aJ,.slice aL aH aM])] [] (by kernel_rfl) (Eq.mp (by kernel_rfl) h)
noncomputable def ZmS:Env:={ EB with
 joins:=(λi=>bif Nat.beq i 2 then some [(2,.bool)]else bif Nat.beq i 3 then some [(2,.bool)]else none)
 frzNew:=[1]
 exv:=(λi=>bif Nat.beq i 15 then true else false) }
def ZgG(aA:Bool)(aC:ByteArray)(aB:Value)(m:Mem)(R:RT):Prop:=
 ∀(b:Nat)(m':Mem),Mem.le m m'->Mem.reads m' b 0 [bool aA,string aC,aB]->br aA (∃(b_1:Bool),(∃(R:RT),True/\CX Tryz.prog 83 (Array.mk [aB]) m' [] R/\Zal Shape.bool R/\∀(b_2:Bool) (m'_1:
 Mem),Mem.le m' m'_1->R (bool b_2) m'_1 []->br b_2 ([some (Box.mk b [bool aA,string aC,aB] 76 3 true true)]=[some (Box.mk b [bool aA,string aC,aB] 76 3 true true)]/\[bool (ByteArray.toList aC ==
 ByteArray.toList (ByteArray.mk (Array.mk [])))]=[bool b_1]) ([some (Box.mk b [bool aA,string aC,aB] 76 3 true true)]=[some (Box.mk b [bool aA,string aC,aB] 76 3 true true)]/\[bool false]=[bool
 b_1]))/\∃(m'':Mem),Mem.le m m''/\Mem.le m'' m'/\R (bool b_1) m'' []) (∃(b_1:Bool),(∃(v:Value),ZqH Tryz.prog 84 [aB] v/\chk (Za3 u64 v&&decide (u64=u64)) (br (RowKit.intOf v == (0:Int)) ([some
 (Box.mk b [bool aA,string aC,aB] 76 3 true true)]=[some (Box.mk b [bool aA,string aC,aB] 76 3 true true)]/\[bool (decide ((↑(ByteArray.size aC):Int)<=(512:Int)))]=[bool b_1]) ([some (Box.mk b
 [bool aA,string aC,aB] 76 3 true true)]=[some (Box.mk b [bool aA,string aC,aB] 76 3 true true)]/\[bool false]=[bool b_1])))/\∃(m'':Mem),Mem.le m m''/\Mem.le m'' m'/\R (bool b_1) m'' [])
theorem Zk6(aA:Bool)(aC:ByteArray)(aB:Value)(m:Mem)(R:RT)(h:ZgG aA aC aB m R):CX Tryz.prog 51 #[.agg #[.bool aA,.string aC,aB]] m [] R:=
 Zad (E:=ZmS) Zaj mix Tryz.func51 [.v (.agg #[.bool aA,.string aC,aB])] [] (by kernel_rfl) (Eq.mp (by kernel_rfl) h)
noncomputable def Zdi:Env:={ EB with
 joins:=(λi=>bif Nat.beq i 1 then some [(3,.bool)]else none)
 frzNew:=[2] }
def Zb2(aA:Int)(aC:ByteArray)(aB aD:Int)(aQ:Value)(aG:ByteArray)(aP:Int)(aN:Option Addr)(aK aO c0b c0o:Nat)(m:Mem)(R:RT):Prop:=
 ∀(b:Nat)(m':Mem),Mem.le m m'->Mem.reads m' b 0 [int u8 aA,string aC,int i64 aB,int u8 aD,aQ,string aG,int i64 aP,slice aN aK aO]->∃(b_1:Bool),(∃(v:Value),m' c0b (c0o+1) =
 some v/\chk (Zeh v&&true) (br (ByteArray.toList (Zbx v) == ByteArray.toList aC) (∃(v:Value),m' c0b (c0o+2)=some v/\chk (Za3 i64 v&&decide (i64=i64)) (br (RowKit.intOf v == aB) (br (aA == (4:
 Int)) ([some (Box.mk b [int u8 aA,string aC,int i64 aB,int u8 aD,aQ,string aG,int i64 aP,slice aN aK aO] 56 8 true true)]=[some (Box.mk b [int u8 aA,string aC,int i64 aB,int u8
 aD,aQ,string aG,int i64 aP,slice aN aK aO] 56 8 true true)]/\[bool true]=[bool b_1]) (∃(v:Value),∃(v_1:Value),∃(v_2:Value),∃(v_3:Value),∃(v_4:Value),Mem.reads m' c0b (c0o+3)
 [v,v_1,v_2,v_3,v_4]/\∃(R:RT),True/\CX Tryz.prog 93 (Array.mk [agg (Array.mk [v,v_1,v_2,v_3,v_4]),agg (Array.mk [int u8 0,Value.float FloatKind.f64 0,string (ByteArray.mk (Array.mk [])),int i64 0,slice
 none 0 0])]) m' [] R/\Zal Shape.bool R/\∀(b_2:Bool)(m'_1:Mem),Mem.le m' m'_1->R (bool b_2) m'_1 []->[some (Box.mk b [int u8 aA,string aC,int i64 aB,int u8 aD,aQ,string aG,int i64 aP,
 slice aN aK aO] 56 8 true true)]=[some (Box.mk b [int u8 aA,string aC,int i64 aB,int u8 aD,aQ,string aG,int i64 aP,slice aN aK aO] 56 8 true true)]/\[bool b_2]=[bool b_1]))
 ([some (Box.mk b [int u8 aA,string aC,int i64 aB,int u8 aD,aQ,string aG,int i64 aP,slice aN aK aO] 56 8 true true)]=[some (Box.mk b [int u8 aA,string aC,int i64 aB,int u8 aD,
 aQ,string aG,int i64 aP,slice aN aK aO] 56 8 true true)]/\[bool false]=[bool b_1]))) ([some (Box.mk b [int u8 aA,string aC,int i64 aB,int u8 aD,aQ,string aG,int i64 aP,slice
 aN aK aO] 56 8 true true)]=[some (Box.mk b [int u8 aA,string aC,int i64 aB,int u8 aD,aQ,string aG,int i64 aP,slice aN aK aO] 56 8 true true)]/\[bool false]=[bool b_1])))/\∃
 (m'':Mem),Mem.le m m''/\Mem.le m'' m'/\R (bool b_1) m'' []
theorem Zda(aA:Int)(aC:ByteArray)(aB aD:Int)(aQ:Value)(aG:ByteArray)(aP:Int)(aN:Option Addr)(aK aO c0b c0o:Nat)(m:Mem)(R:RT)(h:Zb2 aA aC aB aD aQ aG aP aN aK aO c0b c0o m R):CX Tryz.prog 98 #[.agg #[.int .u8 aA,.string aC,.int .i64 aB,.int .u8 aD,aQ,.string aG,.int .i64 aP,.slice aN aK aO],.pointer (some ⟨c0b,c0o,none⟩)] m [] R:=
 Zad (E:=Zdi) Zaj mix Tryz.func98 [.v (.agg #[.int .u8 aA,.string aC,.int .i64 aB,.int .u8 aD,aQ,.string aG,.int .i64 aP,.slice aN aK aO]),.v (.pointer (some ⟨c0b,c0o,none⟩))] [] (by kernel_rfl) (Eq.mp (by kernel_rfl) h)
noncomputable def Zd5:Env:={ EB with
 joins:=(λi=>bif Nat.beq i 4 then some [(2,.bool)]else bif Nat.beq i 6 then some [(2,.bool)]else bif Nat.beq i 8 then some [(2,.bool)]else bif Nat.beq i 10 then some [(2,.bool)]else none)
 frzNew:=[1] }
def Zcm(aA:Int)(aC:ByteArray)(aB aD:Int)(aQ:Value)(aG:ByteArray)(aP:Int)(aN:Option Addr)(aK aO:Nat)(m:Mem)(R:RT):Prop:=
 ∀(b:Nat)(m':Mem),Mem.le m m'->Mem.reads m' b 0 [int u8 aA,string aC,int i64 aB,int u8 aD,aQ,string aG,int i64 aP,slice aN aK aO]->br (aA == (1:Int)) (∃(aa:Bool),br (decide
 ((↑(ByteArray.size aC):Int) > (0:Int))) (br (decide ((↑(ByteArray.size aC):Int)<=(512:Int))) (∃(R:RT),True/\CX Tryz.prog 98 (Array.mk [agg (Array.mk [int u8 aA,string aC,int i64 0,int u8 0,
 Value.float FloatKind.f64 0,string (ByteArray.mk (Array.mk [])),int i64 0,slice none 0 0]),Value.pointer (some (Addr.mk b 0 none))]) m' [] R/\Zal Shape.bool R/\∀(ac:Bool)(ab:Mem),Mem.le m' ab->R (bool ac)
 ab []->[some (Box.mk b [int u8 aA,string aC,int i64 aB,int u8 aD,aQ,string aG,int i64 aP,slice aN aK aO] 56 8 true true)]=[some (Box.mk b [int u8 aA,string aC,int i64 aB,int u8
 aD,aQ,string aG,int i64 aP,slice aN aK aO] 56 8 true true)]/\[bool ac]=[bool aa]) ([some (Box.mk b [int u8 aA,string aC,int i64 aB,int u8 aD,aQ,string aG,int i64 aP,slice
 aN aK aO] 56 8 true true)]=[some (Box.mk b [int u8 aA,string aC,int i64 aB,int u8 aD,aQ,string aG,int i64 aP,slice aN aK aO] 56 8 true true)]/\[bool false]=[bool aa])) ([some
 (Box.mk b [int u8 aA,string aC,int i64 aB,int u8 aD,aQ,string aG,int i64 aP,slice aN aK aO] 56 8 true true)]=[some (Box.mk b [int u8 aA,string aC,int i64 aB,int u8 aD,aQ,
 string aG,int i64 aP,slice aN aK aO] 56 8 true true)]/\[bool false]=[bool aa])/\∃(m'':Mem),Mem.le m m''/\Mem.le m'' m'/\R (bool aa) m'' []) (br (aA == (2:Int)) (∃(aa:Bool),(∃(R:RT),
 True/\CX Tryz.prog 50 (Array.mk [string aC]) m' [] R/\Zal Shape.bool R/\∀(ac:Bool)(ab:Mem),Mem.le m' ab->R (bool ac) ab []->br ac (∃(R:RT),True/\CX Tryz.prog 98 (Array.mk [agg (Array.mk [int u8 aA,
 string aC,int i64 0,int u8 0,Value.float FloatKind.f64 0,string (ByteArray.mk (Array.mk [])),int i64 0,slice none 0 0]),Value.pointer (some (Addr.mk b 0 none))]) ab [] R/\Zal Shape.bool R/\∀(ad:Bool) (m'
 : Mem),Mem.le ab m'->R (bool ad) m' []->[some (Box.mk b [int u8 aA,string aC,int i64 aB,int u8 aD,aQ,string aG,int i64 aP,slice aN aK aO] 56 8 true true)]=[some (Box.mk b [int u8 aA,
 string aC,int i64 aB,int u8 aD,aQ,string aG,int i64 aP,slice aN aK aO] 56 8 true true)]/\[bool ad]=[bool aa]) ([some (Box.mk b [int u8 aA,string aC,int i64 aB,int u8 aD,aQ,
 string aG,int i64 aP,slice aN aK aO] 56 8 true true)]=[some (Box.mk b [int u8 aA,string aC,int i64 aB,int u8 aD,aQ,string aG,int i64 aP,slice aN aK aO] 56 8 true true)]/\
 [bool false]=[bool aa]))/\∃(m'':Mem),Mem.le m m''/\Mem.le m'' m'/\R (bool aa) m'' []) (br (aA == (3:Int)) (∃(aa:Bool),br (decide (aB ≥ (0:Int))) (br (decide (aB<=(9:Int))) (∃(R:RT),True/\
 CX Tryz.prog 98 (Array.mk [agg (Array.mk [int u8 aA,string (ByteArray.mk (Array.mk [])),int i64 aB,int u8 0,Value.float FloatKind.f64 0,string (ByteArray.mk (Array.mk [])),int i64 0,slice none 0 0]),
 Value.pointer (some (Addr.mk b 0 none))]) m' [] R/\Zal Shape.bool R/\∀(ac:Bool)(ab:Mem),Mem.le m' ab->R (bool ac) ab []->[some (Box.mk b [int u8 aA,string aC,int i64 aB,int u8 aD,aQ,string
 aG,int i64 aP,slice aN aK aO] 56 8 true true)]=[some (Box.mk b [int u8 aA,string aC,int i64 aB,int u8 aD,aQ,string aG,int i64 aP,slice aN aK aO] 56 8 true true)]/\[bool
 ac]=[bool aa]) ([some (Box.mk b [int u8 aA,string aC,int i64 aB,int u8 aD,aQ,string aG,int i64 aP,slice aN aK aO] 56 8 true true)]=[some (Box.mk b [int u8 aA,string aC,int i64
 aB,int u8 aD,aQ,string aG,int i64 aP,slice aN aK aO] 56 8 true true)]/\[bool false]=[bool aa])) ([some (Box.mk b [int u8 aA,string aC,int i64 aB,int u8 aD,aQ,string aG,int
 i64 aP,slice aN aK aO] 56 8 true true)]=[some (Box.mk b [int u8 aA,string aC,int i64 aB,int u8 aD,aQ,string aG,int i64 aP,slice aN aK aO] 56 8 true true)]/\[bool false] =
 [bool aa])/\∃(m'':Mem),Mem.le m m''/\Mem.le m'' m'/\R (bool aa) m'' []) (br (aA == (4:Int)) (∃(aa:Bool),(∃(R:RT),True/\CX Tryz.prog 67 (Array.mk [agg (Array.mk [int u8 aD,aQ,string aG,int
 i64 aP,slice aN aK aO])]) m' [] R/\Zal Shape.bool R/\∀(ac:Bool)(ab:Mem),Mem.le m' ab->R (bool ac) ab []->br ac (∃(R:RT),True/\CX Tryz.prog 98 (Array.mk [agg (Array.mk [int u8 aA,string
 (ByteArray.mk (Array.mk [])),int i64 0,int u8 0,Value.float FloatKind.f64 0,string (ByteArray.mk (Array.mk [])),int i64 0,slice none 0 0]),Value.pointer (some (Addr.mk b 0 none))]) ab [] R/\Zal Shape.bool R/\∀
 (ad:Bool) (m':Mem),Mem.le ab m'->R (bool ad) m' []->[some (Box.mk b [int u8 aA,string aC,int i64 aB,int u8 aD,aQ,string aG,int i64 aP,slice aN aK aO] 56 8 true true)]=[some (Box.mk
 b [int u8 aA,string aC,int i64 aB,int u8 aD,aQ,string aG,int i64 aP,slice aN aK aO] 56 8 true true)]/\[bool ad]=[bool aa]) ([some (Box.mk b [int u8 aA,string aC,int i64 aB,int
 u8 aD,aQ,string aG,int i64 aP,slice aN aK aO] 56 8 true true)]=[some (Box.mk b [int u8 aA,string aC,int i64 aB,int u8 aD,aQ,string aG,int i64 aP,slice aN aK aO] 56 8
 true true)]/\[bool false]=[bool aa]))/\∃(m'':Mem),Mem.le m m''/\Mem.le m'' m'/\R (bool aa) m'' []) (∃(m'':Mem),Mem.le m m''/\Mem.le m'' m'/\R (bool false) m'' []))))
theorem ZdG(aA:Int)(aC:ByteArray)(aB aD:Int)(aQ:Value)(aG:ByteArray)(aP:Int)(aN:Option Addr)(aK aO:Nat)(m:Mem)(R:RT)(h:Zcm aA aC aB aD aQ aG aP aN aK aO m R):CX Tryz.prog 76 #[.agg #[.int .u8 aA,.string aC,.int .i64 aB,.int .u8 aD,aQ,.string aG,.int .i64 aP,.slice aN aK aO]] m [] R:=
 Zad (E:=Zd5) Zaj mix Tryz.func76 [.v (.agg #[.int .u8 aA,.string aC,.int .i64 aB,.int .u8 aD,aQ,.string aG,.int .i64 aP,.slice aN aK aO])] [] (by kernel_rfl) (Eq.mp (by kernel_rfl) h)
noncomputable def Zk7:Env:={ EB with
 loops:=(λi=>bif Nat.beq i 3 then⟨[(3,.int .i64),(8,.int .i64)],[],[],false⟩ else⟨[],[],[],false⟩)
 ldF:=(λi=>bif Nat.beq i 13 then some (.fn)else none) }
def Zfu(p0a:Option Addr)(p0n p0c:Nat)(m:Mem)(R:RT):Prop:=
 ∃(I:IT),(∃(n:Nat),I [int i64 0,int i64 0] [] [] m n)/\∀(n n_1:Int)(m':Mem)(n_2:Nat),Mem.le m m'->I [int i64 n,int i64 n_1] [] [] m' n_2->br (decide (n_1 < (↑p0n:Int))) (∃(b:Nat),∃(o:Nat),
 p0a=some (Addr.mk b o none)/\Zai n_1 p0n/\∃(v:Value),∃(v_1:Value),Mem.reads m' b (o+Int.toNat n_1*2) [v,v_1]/\∀(b:Nat),chk (Value.oneCell' v&&(Value.oneCell' v_1&&true)) (∃(g:Nat),∃(fi
 : List Value),∃(ca:List Value),v_1=func (Fn.func g) (Array.mk fi) (Array.mk ca)/\∃(R_1:RT),True/\CX Tryz.prog g (Array.mk (List.append (List.append fi []) ca)) m' [] R_1/\Zal Shape.bool R_1/\∀(b:Bool)
 (m'_1:Mem),Mem.le m' m'_1->R_1 (bool b) m'_1 []->br b (∃(m'':Mem),Mem.le m m''/\Mem.le m'' m'_1/\R v m'' []) (∃(n':Nat),n' < n_2/\I [int i64 n,int i64 (IntKind.wrap i64 (n_1+(1:Int)))] [] [] m'_1
 n'))) (∃(m'':Mem),Mem.le m m''/\Mem.le m'' m'/\R (int i64 n) m'' [])
theorem Zjh(p0a:Option Addr)(p0n p0c:Nat)(m:Mem)(R:RT)(h:Zfu p0a p0n p0c m R):CX Tryz.prog 48 #[.slice p0a p0n p0c] m [] R:=
 Zad (E:=Zk7) Zaj mix Tryz.func48 [.v (.slice p0a p0n p0c)] [] (by kernel_rfl) (Eq.mp (by kernel_rfl) h)
noncomputable def Zji:Env:={ EB with
 joins:=(λi=>bif Nat.beq i 1 then some [(6,.bool)]else none) }
def Zez(p0 p1 p2:Int)(m:Mem)(R:RT):Prop:=
 ∃(b:Bool),br (decide (p0 ≥ p1)) ([bool (decide (p0<=p2))]=[bool b]) ([bool false]=[bool b])/\∃(m'':Mem),Mem.le m m''/\Mem.le m'' m/\R (bool b) m'' []
theorem ZhW(p0 p1 p2:Int)(m:Mem)(R:RT)(h:Zez p0 p1 p2 m R):CX Tryz.prog 55 #[.int .i64 p0,.int .i64 p1,.int .i64 p2] m [] R:=
 Zad (E:=Zji) Zaj mix Tryz.func55 [.v (.int .i64 p0),.v (.int .i64 p1),.v (.int .i64 p2)] [] (by kernel_rfl) (Eq.mp (by kernel_rfl) h)
noncomputable def Zjj:Env:={ EB with
 frzNew:=[2] }
def ZeA(aA:ByteArray)(aC:Bool)(aB:ByteArray)(aD:Value)(c0b c0o:Nat)(m:Mem)(R:RT):Prop:=
 ∀(b:Nat)(m':Mem),Mem.le m m'->Mem.reads m' b 0 [string aA,bool aC,string aB,aD]->∃(v:Value),m' c0b c0o=some v/\chk (Zeh v) (∃(m'':Mem),Mem.le m m''/\Mem.le m'' m'/\R (bool
 (ByteArray.toList aA == ByteArray.toList (Zbx v))) m'' [])
theorem ZhX(aA:ByteArray)(aC:Bool)(aB:ByteArray)(aD:Value)(c0b c0o:Nat)(m:Mem)(R:RT)(h:ZeA aA aC aB aD c0b c0o m R):CX Tryz.prog 94 #[.agg #[.string aA,.bool aC,.string aB,aD],.pointer (some ⟨c0b,c0o,none⟩)] m [] R:=
 Zad (E:=Zjj) Zaj mix Tryz.func94 [.v (.agg #[.string aA,.bool aC,.string aB,aD]),.v (.pointer (some ⟨c0b,c0o,none⟩))] [] (by kernel_rfl) (Eq.mp (by kernel_rfl) h)
noncomputable def ZmT:Env:={ EB with
 joins:=(λi=>bif Nat.beq i 2 then some [(4,.bool),(5,.bool)]else none)
 frzNew:=[2,3] }
def ZgH(aA:Int)(aI:Option Addr)(aE aJ:Nat)(aL:Option Addr)(aH aM:Nat)(p1:ByteArray)(m:Mem)(R:RT):Prop:=
 ∀(b:Nat)(m':Mem),Mem.le m m'->Mem.reads m' b 0 [int i64 aA,slice aI aE aJ,slice aL aH aM]->∀(b_1:Nat)(m'_1:Mem),Mem.le m' m'_1->Mem.reads m'_1 b_1 0 [string p1]->∃(R_1:RT),
 True/\CX Tryz.prog 85 (Array.mk [slice aI aE aJ,func (Fn.func 94) (Array.mk []) (Array.mk [Value.pointer (some (Addr.mk b_1 0 none))])]) m'_1 [] R_1/\Zal (Shape.int i64) R_1/\∀(n:Int)(m':Mem),Mem.le
 m'_1 m'->R_1 (int i64 n) m' []->∃(b_2:Bool),∃(b_3:Bool),br (decide (n ≥ (0:Int))) (∃(b_4:Nat),∃(o:Nat),aI=some (Addr.mk b_4 o none)/\Zai n aE/\∃(v:Value),m' b_4 (o+Int.toNat n*4
 + 1+0)=some v/\[some (Box.mk b_1 [string p1] 9 1 true true),some (Box.mk b [int i64 aA,slice aI aE aJ,slice aL aH aM] 27 3 true true)]=[some (Box.mk b_1 [string p1] 9 1 true true),some
 (Box.mk b [int i64 aA,slice aI aE aJ,slice aL aH aM] 27 3 true true)]/\chk (Shape.fits Shape.bool v) ([v,bool (decide (n ≥ (0:Int)))]=[bool b_2,bool b_3])) ([some (Box.mk b_1 [string p1] 9 1
 true true),some (Box.mk b [int i64 aA,slice aI aE aJ,slice aL aH aM] 27 3 true true)]=[some (Box.mk b_1 [string p1] 9 1 true true),some (Box.mk b [int i64 aA,slice aI aE aJ,slice
 aL aH aM] 27 3 true true)]/\[bool false,bool (decide (n ≥ (0:Int)))]=[bool b_2,bool b_3])/\∃(m'':Mem),Mem.le m m''/\Mem.le m'' m'/\R (tuple (Array.mk [bool b_2,bool b_3])) m'' []
theorem Zk8(aA:Int)(aI:Option Addr)(aE aJ:Nat)(aL:Option Addr)(aH aM:Nat)(p1:ByteArray)(m:Mem)(R:RT)(h:ZgH aA aI aE aJ aL aH aM p1 m R):CX Tryz.prog 70 #[.agg #[.int .i64 aA,.slice aI aE aJ,.slice aL aH aM],.string p1] m [] R:=
 Zad (E:=ZmT) Zaj mix Tryz.func70 [.v (.agg #[.int .i64 aA,.slice aI aE aJ,.slice aL aH aM]),.v (.string p1)] [] (by kernel_rfl) (Eq.mp (by kernel_rfl) h)
noncomputable def ZfR:Env:=EB
def Zdb(p0:ByteArray)(c0b c0o:Nat)(m:Mem)(R:RT):Prop:=
 ∃(v:Value),∃(v_1:Value),∃(v_2:Value),Mem.reads m c0b c0o [v,v_1,v_2]/\∃(R_1:RT),True/\CX Tryz.prog 70 (Array.mk [agg (Array.mk [v,v_1,v_2]),string p0]) m [] R_1/\Zal (Shape.tup [Shape.bool,
 Shape.bool]) R_1/\∀(b b_1:Bool)(m':Mem),Mem.le m m'->R_1 (tuple (Array.mk [bool b,bool b_1])) m' []->∃(m'':Mem),Mem.le m m''/\Mem.le m'' m'/\R (bool !b) m'' []
theorem Zfa(p0:ByteArray)(c0b c0o:Nat)(m:Mem)(R:RT)(h:Zdb p0 c0b c0o m R):CX Tryz.prog 97 #[.string p0,.pointer (some ⟨c0b,c0o,none⟩)] m [] R:=
 Zad (E:=ZfR) Zaj mix Tryz.func97 [.v (.string p0),.v (.pointer (some ⟨c0b,c0o,none⟩))] [] (by kernel_rfl) (Eq.mp (by kernel_rfl) h)
noncomputable def ZhY:Env:={ EB with
 frzNew:=[2,3] }
def ZdT(aA:Int)(aI:Option Addr)(aE aJ:Nat)(aL:Option Addr)(aH aM:Nat)(aW:Int)(aX:Value)(aV:ByteArray)(aY:Int)(bV:Option Addr)(bU bW:Nat)(m:Mem)(R:RT):Prop:=
 ∀(b:Nat)(m':Mem),Mem.le m m'->Mem.reads m' b 0 [int i64 aA,slice aI aE aJ,slice aL aH aM]->∀(b_1:Nat)(m'_1:Mem),Mem.le m' m'_1->Mem.reads m'_1 b_1 0 [int u8 aW,aX,string
 aV,int i64 aY,slice bV bU bW]->∃(R_1:RT),True/\CX Tryz.prog 96 (Array.mk [agg (Array.mk [int u8 aW,aX,string aV,int i64 aY,slice bV bU bW])]) m'_1 [] R_1/\Zal Shape.slice R_1
 /\ ∀(a:Option Addr)(n c:Nat)(m':Mem),Mem.le m'_1 m'->R_1 (slice a n c) m' []->∃(R_2:RT),True/\CX Tryz.prog 95 (Array.mk [slice a n c,func (Fn.func 97) (Array.mk []) (Array.mk [Value.pointer (some
 (Addr.mk b 0 none))])]) m' [] R_2/\Zal Shape.bool R_2/\∀(b:Bool)(m'_2:Mem),Mem.le m' m'_2->R_2 (bool b) m'_2 []->∃(m'':Mem),Mem.le m m''/\Mem.le m'' m'_2/\R (bool !b) m'' []
theorem Zg2(aA:Int)(aI:Option Addr)(aE aJ:Nat)(aL:Option Addr)(aH aM:Nat)(aW:Int)(aX:Value)(aV:ByteArray)(aY:Int)(bV:Option Addr)(bU bW:Nat)(m:Mem)(R:RT)(h:ZdT aA aI aE aJ aL aH aM aW aX aV aY bV bU bW m R):CX Tryz.prog 71 #[.agg #[.int .i64 aA,.slice aI aE aJ,.slice aL aH aM],.agg #[.int .u8 aW,aX,.string aV,.int .i64 aY,.slice bV bU bW]] m [] R:=
 Zad (E:=ZhY) Zaj mix Tryz.func71 [.v (.agg #[.int .i64 aA,.slice aI aE aJ,.slice aL aH aM]),.v (.agg #[.int .u8 aW,aX,.string aV,.int .i64 aY,.slice bV bU bW])] [] (by kernel_rfl) (Eq.mp (by kernel_rfl) h)
noncomputable def ZmU:Env:={ EB with
 frzNew:=[1] }
def ZgI(aA:Int)(aC:Value)(aB:ByteArray)(aD:Int)(aS:Option Addr)(aR aT:Nat)(m:Mem)(R:RT):Prop:=
 ∀(b:Nat)(m':Mem),Mem.le m m'->Mem.reads m' b 0 [int u8 aA,aC,string aB,int i64 aD,slice aS aR aT]->∃(R_1:RT),True/\CX Tryz.prog 93 (Array.mk [agg (Array.mk [int u8 aA,aC,string
 aB,int i64 aD,slice aS aR aT]),agg (Array.mk [int u8 0,Value.float FloatKind.f64 0,string (ByteArray.mk (Array.mk [])),int i64 0,slice none 0 0])]) m' [] R_1/\Zal Shape.bool R_1/\∀(b:Bool)
 (m'_1:Mem),Mem.le m' m'_1->R_1 (bool b) m'_1 []->∃(m'':Mem),Mem.le m m''/\Mem.le m'' m'_1/\R (bool b) m'' []
theorem Zk9(aA:Int)(aC:Value)(aB:ByteArray)(aD:Int)(aS:Option Addr)(aR aT:Nat)(m:Mem)(R:RT)(h:ZgI aA aC aB aD aS aR aT m R):CX Tryz.prog 68 #[.agg #[.int .u8 aA,aC,.string aB,.int .i64 aD,.slice aS aR aT]] m [] R:=
 Zad (E:=ZmU) Zaj mix Tryz.func68 [.v (.agg #[.int .u8 aA,aC,.string aB,.int .i64 aD,.slice aS aR aT])] [] (by kernel_rfl) (Eq.mp (by kernel_rfl) h)
noncomputable def Zg3:Env:={ EB with
 frzNew:=[1] }
def Zdt(aA:Int)(aC aB:Bool)(aD aQ aG aP bR bS bZ:Int)(aZ:Option Addr)(bA bB:Nat)(bI:ByteArray)(bJ:Int)(bD:Option Addr)(bC bE:Nat)(bM:ByteArray)(bN:Int)(m:Mem)(R:RT):Prop:=
 ∀(b:Nat)(m':Mem),Mem.le m m'->Mem.reads m' b 0 [int u8 aA,bool aC,bool aB,int u8 aD,int u64 aQ,int u64 aG,int u64 aP,int u64 bR,int i64 bS,int i64 bZ,slice aZ bA bB,
 string bI,int i64 bJ,slice bD bC bE,string bM,int i64 bN]->br (aA == (1:Int)) (∃(R_1:RT),True/\CX Tryz.prog 90 (Array.mk [agg (Array.mk [int u8 aD,int u64 aQ,int u64 aG,int
 u64 aP,int u64 bR,int i64 bS,int i64 bZ,slice aZ bA bB])]) m' [] R_1/\Zal (Shape.int i64) R_1/\∀(n:Int)(m'_1:Mem),Mem.le m' m'_1->R_1 (int i64 n) m'_1 []->∃(m'':Mem),Mem.le m m''
 /\ Mem.le m'' m'_1/\R (int i64 n) m'' []) (br (aA == (2:Int)) (∃(m'':Mem),Mem.le m m''/\Mem.le m'' m'/\R (int i64 0) m'' []) (∃(m'':Mem),Mem.le m m''/\Mem.le m'' m'/\R (int i64 (-1:Int)) m'' []))
theorem ZfS(aA:Int)(aC aB:Bool)(aD aQ aG aP bR bS bZ:Int)(aZ:Option Addr)(bA bB:Nat)(bI:ByteArray)(bJ:Int)(bD:Option Addr)(bC bE:Nat)(bM:ByteArray)(bN:Int)(m:Mem)(R:RT)(h:Zdt aA aC aB aD aQ aG aP bR bS bZ aZ bA bB bI bJ bD bC bE bM bN m R):CX Tryz.prog 74 #[.agg #[.int .u8 aA,.bool aC,.bool aB,.int .u8 aD,.int .u64 aQ,.int .u64 aG,.int .u64 aP,.int .u64 bR,.int .i64 bS,.int .i64 bZ,.slice aZ bA bB,.string bI,.int .i64 bJ,.slice bD bC bE,.string bM,.int .i64 bN]] m [] R:=
 Zad (E:=Zg3) Zaj mix Tryz.func74 [.v (.agg #[.int .u8 aA,.bool aC,.bool aB,.int .u8 aD,.int .u64 aQ,.int .u64 aG,.int .u64 aP,.int .u64 bR,.int .i64 bS,.int .i64 bZ,.slice aZ bA bB,.string bI,.int .i64 bJ,.slice bD bC bE,.string bM,.int .i64 bN])] [] (by kernel_rfl) (Eq.mp (by kernel_rfl) h)
noncomputable def Zjk:Env:={ EB with
 joins:=(λi=>bif Nat.beq i 1 then some [(3,.bool)]else bif Nat.beq i 7 then some [(2,.bool)]else bif Nat.beq i 8 then some [(2,.bool)]else bif Nat.beq i 11 then some [(2,.bool)]else none)
 frzNew:=[1] }
def ZeB(aA:Int)(aC aB:Bool)(aD aQ aG aP bR bS bZ:Int)(aZ:Option Addr)(bA bB:Nat)(bI:ByteArray)(bJ:Int)(bD:Option Addr)(bC bE:Nat)(bM:ByteArray)(bN:Int)(m:Mem)(R:RT):Prop:=
 ∀(b:Nat)(m':Mem),Mem.le m m'->Mem.reads m' b 0 [int u8 aA,bool aC,bool aB,int u8 aD,int u64 aQ,int u64 aG,int u64 aP,int u64 bR,int i64 bS,int i64 bZ,slice aZ bA bB,
 string bI,int i64 bJ,slice bD bC bE,string bM,int i64 bN]->∃(ac:Bool),br aC ([some (Box.mk b [int u8 aA,bool aC,bool aB,int u8 aD,int u64 aQ,int u64 aG,int u64 aP,
 int u64 bR,int i64 bS,int i64 bZ,slice aZ bA bB,string bI,int i64 bJ,slice bD bC bE,string bM,int i64 bN] 67 16 true true)]=[some (Box.mk b [int u8 aA,bool aC,
 bool aB,int u8 aD,int u64 aQ,int u64 aG,int u64 aP,int u64 bR,int i64 bS,int i64 bZ,slice aZ bA bB,string bI,int i64 bJ,slice bD bC bE,string bM,int i64
 bN] 67 16 true true)]/\[bool true]=[bool ac]) (br aB ([some (Box.mk b [int u8 aA,bool aC,bool aB,int u8 aD,int u64 aQ,int u64 aG,int u64 aP,int u64 bR,int i64 bS,int i64 bZ,slice
 aZ bA bB,string bI,int i64 bJ,slice bD bC bE,string bM,int i64 bN] 67 16 true true)]=[some (Box.mk b [int u8 aA,bool aC,bool aB,int u8 aD,int u64 aQ,int u64
 aG,int u64 aP,int u64 bR,int i64 bS,int i64 bZ,slice aZ bA bB,string bI,int i64 bJ,slice bD bC bE,string bM,int i64 bN] 67 16 true true)]/\[bool true]=[bool
 ac]) (∃(R:RT),True/\CX Tryz.prog 87 (Array.mk [agg (Array.mk [int u8 aD,int u64 aQ,int u64 aG,int u64 aP,int u64 bR,int i64 bS,int i64 bZ,slice aZ bA bB]),agg (Array.mk [int u8 0,
 int u64 0,int u64 0,int u64 0,int u64 0,int i64 0,int i64 0,slice none 0 0])]) m' [] R/\Zal Shape.bool R/\∀(aa:Bool)(ab:Mem),Mem.le m' ab->R (bool aa) ab []->[some (Box.mk b [int u8 aA,bool aC,
 bool aB,int u8 aD,int u64 aQ,int u64 aG,int u64 aP,int u64 bR,int i64 bS,int i64 bZ,slice aZ bA bB,string bI,int i64 bJ,slice bD bC bE,string bM,int i64
 bN] 67 16 true true)]=[some (Box.mk b [int u8 aA,bool aC,bool aB,int u8 aD,int u64 aQ,int u64 aG,int u64 aP,int u64 bR,int i64 bS,int i64 bZ,slice aZ bA bB,string bI,
 int i64 bJ,slice bD bC bE,string bM,int i64 bN] 67 16 true true)]/\[bool !aa]=[bool ac]))/\br (aA == (2:Int)) (∃(aa:Bool),br (!ac) (br (bJ == (0:Int)) (∃(R:RT),True/\CX
 Tryz.prog 55 (Array.mk [int i64 (↑(ByteArray.size bI):Int),int i64 1,int i64 64]) m' [] R/\Zal Shape.bool R/\∀(ad:Bool)(ab:Mem),Mem.le m' ab->R (bool ad) ab []->[some (Box.mk b [int u8 aA,bool
 aC,bool aB,int u8 aD,int u64 aQ,int u64 aG,int u64 aP,int u64 bR,int i64 bS,int i64 bZ,slice aZ bA bB,string bI,int i64 bJ,slice bD bC bE,string bM,int
 i64 bN] 67 16 true true)]=[some (Box.mk b [int u8 aA,bool aC,bool aB,int u8 aD,int u64 aQ,int u64 aG,int u64 aP,int u64 bR,int i64 bS,int i64 bZ,slice aZ bA bB,string
 bI,int i64 bJ,slice bD bC bE,string bM,int i64 bN] 67 16 true true)]/\[bool ad]=[bool aa]) ([some (Box.mk b [int u8 aA,bool aC,bool aB,int u8 aD,int u64 aQ,int u64 aG,int
 u64 aP,int u64 bR,int i64 bS,int i64 bZ,slice aZ bA bB,string bI,int i64 bJ,slice bD bC bE,string bM,int i64 bN] 67 16 true true)]=[some (Box.mk b [int u8 aA,
 bool aC,bool aB,int u8 aD,int u64 aQ,int u64 aG,int u64 aP,int u64 bR,int i64 bS,int i64 bZ,slice aZ bA bB,string bI,int i64 bJ,slice bD bC bE,string bM,
 int i64 bN] 67 16 true true)]/\[bool false]=[bool aa])) ([some (Box.mk b [int u8 aA,bool aC,bool aB,int u8 aD,int u64 aQ,int u64 aG,int u64 aP,int u64 bR,int i64 bS,int i64 bZ,slice
 aZ bA bB,string bI,int i64 bJ,slice bD bC bE,string bM,int i64 bN] 67 16 true true)]=[some (Box.mk b [int u8 aA,bool aC,bool aB,int u8 aD,int u64 aQ,int u64
 aG,int u64 aP,int u64 bR,int i64 bS,int i64 bZ,slice aZ bA bB,string bI,int i64 bJ,slice bD bC bE,string bM,int i64 bN] 67 16 true true)]/\[bool false]=[bool
 aa])/\∃(m'':Mem),Mem.le m m''/\Mem.le m'' m'/\R (bool aa) m'' []) (br (aA == (4:Int)) (∃(aa:Bool),br (!ac) (br (ByteArray.toList bI == ByteArray.toList (ByteArray.mk (Array.mk []))) (∃(R:RT),True/\
 CX Tryz.prog 55 (Array.mk [int i64 bJ,int i64 1,int i64 1000]) m' [] R/\Zal Shape.bool R/\∀(ad:Bool)(ab:Mem),Mem.le m' ab->R (bool ad) ab []->[some (Box.mk b [int u8 aA,bool aC,bool aB,int u8
 aD,int u64 aQ,int u64 aG,int u64 aP,int u64 bR,int i64 bS,int i64 bZ,slice aZ bA bB,string bI,int i64 bJ,slice bD bC bE,string bM,int i64 bN] 67 16 true
 true)]=[some (Box.mk b [int u8 aA,bool aC,bool aB,int u8 aD,int u64 aQ,int u64 aG,int u64 aP,int u64 bR,int i64 bS,int i64 bZ,slice aZ bA bB,string bI,int i64 bJ,
 slice bD bC bE,string bM,int i64 bN] 67 16 true true)]/\[bool ad]=[bool aa]) ([some (Box.mk b [int u8 aA,bool aC,bool aB,int u8 aD,int u64 aQ,int u64 aG,int u64 aP,int u64
 bR,int i64 bS,int i64 bZ,slice aZ bA bB,string bI,int i64 bJ,slice bD bC bE,string bM,int i64 bN] 67 16 true true)]=[some (Box.mk b [int u8 aA,bool aC,bool aB,
 int u8 aD,int u64 aQ,int u64 aG,int u64 aP,int u64 bR,int i64 bS,int i64 bZ,slice aZ bA bB,string bI,int i64 bJ,slice bD bC bE,string bM,int i64 bN] 67 16
 true true)]/\[bool false]=[bool aa])) ([some (Box.mk b [int u8 aA,bool aC,bool aB,int u8 aD,int u64 aQ,int u64 aG,int u64 aP,int u64 bR,int i64 bS,int i64 bZ,slice aZ bA bB,
 string bI,int i64 bJ,slice bD bC bE,string bM,int i64 bN] 67 16 true true)]=[some (Box.mk b [int u8 aA,bool aC,bool aB,int u8 aD,int u64 aQ,int u64 aG,int u64 aP,int
 u64 bR,int i64 bS,int i64 bZ,slice aZ bA bB,string bI,int i64 bJ,slice bD bC bE,string bM,int i64 bN] 67 16 true true)]/\[bool false]=[bool aa])/\∃(m'':Mem),
 Mem.le m m''/\Mem.le m'' m'/\R (bool aa) m'' []) (br (aA == (3:Int)) (br ac (∃(m'':Mem),Mem.le m m''/\Mem.le m'' m'/\R (bool false) m'' []) (∃(aa:Bool),br (ByteArray.toList bI == ByteArray.toList
 (ByteArray.mk (Array.mk []))) ([some (Box.mk b [int u8 aA,bool aC,bool aB,int u8 aD,int u64 aQ,int u64 aG,int u64 aP,int u64 bR,int i64 bS,int i64 bZ,slice aZ bA bB,string
 bI,int i64 bJ,slice bD bC bE,string bM,int i64 bN] 67 16 true true)]=[some (Box.mk b [int u8 aA,bool aC,bool aB,int u8 aD,int u64 aQ,int u64 aG,int u64 aP,int u64 bR,
 int i64 bS,int i64 bZ,slice aZ bA bB,string bI,int i64 bJ,slice bD bC bE,string bM,int i64 bN] 67 16 true true)]/\[bool (bJ == (0:Int))]=[bool aa]) ([some (Box.mk b
 [int u8 aA,bool aC,bool aB,int u8 aD,int u64 aQ,int u64 aG,int u64 aP,int u64 bR,int i64 bS,int i64 bZ,slice aZ bA bB,string bI,int i64 bJ,slice bD bC bE,
 string bM,int i64 bN] 67 16 true true)]=[some (Box.mk b [int u8 aA,bool aC,bool aB,int u8 aD,int u64 aQ,int u64 aG,int u64 aP,int u64 bR,int i64 bS,int i64 bZ,slice aZ bA
 bB,string bI,int i64 bJ,slice bD bC bE,string bM,int i64 bN] 67 16 true true)]/\[bool false]=[bool aa])/\∃(m'':Mem),Mem.le m m''/\Mem.le m'' m'/\R (bool aa) m'' [])) (br (aA
 == (1:Int)) (∃(aa:Bool),br (ByteArray.toList bI == ByteArray.toList (ByteArray.mk (Array.mk []))) ([some (Box.mk b [int u8 aA,bool aC,bool aB,int u8 aD,int u64 aQ,int u64 aG,int u64 aP,int
 u64 bR,int i64 bS,int i64 bZ,slice aZ bA bB,string bI,int i64 bJ,slice bD bC bE,string bM,int i64 bN] 67 16 true true)]=[some (Box.mk b [int u8 aA,bool aC,bool
 aB,int u8 aD,int u64 aQ,int u64 aG,int u64 aP,int u64 bR,int i64 bS,int i64 bZ,slice aZ bA bB,string bI,int i64 bJ,slice bD bC bE,string bM,int i64 bN] 67
 16 true true)]/\[bool (bJ == (0:Int))]=[bool aa]) ([some (Box.mk b [int u8 aA,bool aC,bool aB,int u8 aD,int u64 aQ,int u64 aG,int u64 aP,int u64 bR,int i64 bS,int i64 bZ,slice
 aZ bA bB,string bI,int i64 bJ,slice bD bC bE,string bM,int i64 bN] 67 16 true true)]=[some (Box.mk b [int u8 aA,bool aC,bool aB,int u8 aD,int u64 aQ,int u64
 aG,int u64 aP,int u64 bR,int i64 bS,int i64 bZ,slice aZ bA bB,string bI,int i64 bJ,slice bD bC bE,string bM,int i64 bN] 67 16 true true)]/\[bool false]=[bool
 aa])/\∃(m'':Mem),Mem.le m m''/\Mem.le m'' m'/\R (bool aa) m'' []) (∃(m'':Mem),Mem.le m m''/\Mem.le m'' m'/\R (bool false) m'' []))))
theorem ZhZ(aA:Int)(aC aB:Bool)(aD aQ aG aP bR bS bZ:Int)(aZ:Option Addr)(bA bB:Nat)(bI:ByteArray)(bJ:Int)(bD:Option Addr)(bC bE:Nat)(bM:ByteArray)(bN:Int)(m:Mem)(R:RT)(h:ZeB aA aC aB aD aQ aG aP bR bS bZ aZ bA bB bI bJ bD bC bE bM bN m R):CX Tryz.prog 61 #[.agg #[.int .u8 aA,.bool aC,.bool aB,.int .u8 aD,.int .u64 aQ,.int .u64 aG,.int .u64 aP,.int .u64 bR,.int .i64 bS,.int .i64 bZ,.slice aZ bA bB,.string bI,.int .i64 bJ,.slice bD bC bE,.string bM,.int .i64 bN]] m [] R:=
 Zad (E:=Zjk) Zaj mix Tryz.func61 [.v (.agg #[.int .u8 aA,.bool aC,.bool aB,.int .u8 aD,.int .u64 aQ,.int .u64 aG,.int .u64 aP,.int .u64 bR,.int .i64 bS,.int .i64 bZ,.slice aZ bA bB,.string bI,.int .i64 bJ,.slice bD bC bE,.string bM,.int .i64 bN])] [] (by kernel_rfl) (Eq.mp (by kernel_rfl) h)
noncomputable def Zh0:Env:=EB
def ZdU(c0b c0o:Nat)(m:Mem)(R:RT):Prop:=
 ∃(v:Value),m c0b (c0o+0)=some v/\∃(R_1:RT),True/\CX Tryz.prog 55 (Array.mk [v,int i64 2,int i64 256]) m [] R_1/\Zal Shape.bool R_1/\∀(b:Bool)(m':Mem),Mem.le m m'->R_1 (bool b) m' []->∃(m'':
 Mem),Mem.le m m''/\Mem.le m'' m'/\R (bool !b) m'' []
theorem Zg4(c0b c0o:Nat)(m:Mem)(R:RT)(h:ZdU c0b c0o m R):CX Tryz.prog 54 #[.pointer (some ⟨c0b,c0o,none⟩)] m [] R:=
 Zad (E:=Zh0) Zaj mix Tryz.func54 [.v (.pointer (some ⟨c0b,c0o,none⟩))] [] (by kernel_rfl) (Eq.mp (by kernel_rfl) h)
noncomputable def Zh1:Env:={ EB with
 joins:=(λi=>bif Nat.beq i 1 then some [(1,.bool)]else none) }
def ZdV(c0b c0o:Nat)(m:Mem)(R:RT):Prop:=
 ∃(b:Bool),(∃(v:Value),m c0b (c0o+2)=some v/\chk (ZbM v) (∃(R:RT),True/\CX Tryz.prog 55 (Array.mk [int i64 (↑(slN v):Int),int i64 1,int i64 24]) m [] R/\Zal Shape.bool R/\∀(b_1:Bool) (m':
 Mem),Mem.le m m'->R (bool b_1) m' []->br (!b_1) ([bool true]=[bool b]) (∃(v:Value),m' c0b (c0o+1)=some v/\chk (ZbM v) ([bool (decide ((↑(slN v):Int) > (12:Int)))]=[bool b]))))/\∃(m'':Mem),
 Mem.le m m''/\Mem.le m'' m/\R (bool b) m'' []
theorem Zg5(c0b c0o:Nat)(m:Mem)(R:RT)(h:ZdV c0b c0o m R):CX Tryz.prog 56 #[.pointer (some ⟨c0b,c0o,none⟩)] m [] R:=
 Zad (E:=Zh1) Zaj mix Tryz.func56 [.v (.pointer (some ⟨c0b,c0o,none⟩))] [] (by kernel_rfl) (Eq.mp (by kernel_rfl) h)
noncomputable def Zla:Env:={ EB with
 frzNew:=[1] }
def Zfv(aA:Int)(aI:Option Addr)(aE aJ:Nat)(aL:Option Addr)(aH aM:Nat)(m:Mem)(R:RT):Prop:=
 ∀(b:Nat)(m':Mem),Mem.le m m'->Mem.reads m' b 0 [int i64 aA,slice aI aE aJ,slice aL aH aM]->∀(b_1:Nat),Mem.free m' b_1->∃(R_1:RT),True/\CX Tryz.prog 48 (Array.mk [slice (some
 (Addr.mk b_1 0 none)) 2 2]) (Mem.add m' b_1 [int i64 300,func (Fn.func 54) (Array.mk []) (Array.mk [Value.pointer (some (Addr.mk b 0 none))]),int i64 302,func (Fn.func 56) (Array.mk []) (Array.mk [Value.pointer (some
 (Addr.mk b 0 none))])]) [] R_1/\Zal (Shape.int i64) R_1/\∀(n:Int)(m'_1:Mem),Mem.le (Mem.add m' b_1 [int i64 300,func (Fn.func 54) (Array.mk []) (Array.mk [Value.pointer (some (Addr.mk b 0 none))]),int i64
 302,func (Fn.func 56) (Array.mk []) (Array.mk [Value.pointer (some (Addr.mk b 0 none))])]) m'_1->R_1 (int i64 n) m'_1 []->∃(m'':Mem),Mem.le m m''/\Mem.le m'' m'_1/\R (int i64 n) m'' []
theorem Zjl(aA:Int)(aI:Option Addr)(aE aJ:Nat)(aL:Option Addr)(aH aM:Nat)(m:Mem)(R:RT)(h:Zfv aA aI aE aJ aL aH aM m R):CX Tryz.prog 39 #[.agg #[.int .i64 aA,.slice aI aE aJ,.slice aL aH aM]] m [] R:=
 Zad (E:=Zla) Zaj mix Tryz.func39 [.v (.agg #[.int .i64 aA,.slice aI aE aJ,.slice aL aH aM])] [] (by kernel_rfl) (Eq.mp (by kernel_rfl) h)
noncomputable def Zd6:Env:={ EB with
 frzNew:=[2] }
def Zcn(aA:ByteArray)(aC:Bool)(aB:ByteArray)(aD:Value)(c0b c0o:Nat)(m:Mem)(R:RT):Prop:=
 ∀(b:Nat)(m':Mem),Mem.le m m'->Mem.reads m' b 0 [string aA,bool aC,string aB,aD]->∃(v:Value),m' c0b (c0o+0)=some v/\chk (Zeh v) (∃(m'':Mem),Mem.le m m''/\Mem.le m'' m'/\R (bool
 (ByteArray.toList aA == ByteArray.toList (Zbx v))) m'' [])
theorem ZdH(aA:ByteArray)(aC:Bool)(aB:ByteArray)(aD:Value)(c0b c0o:Nat)(m:Mem)(R:RT)(h:Zcn aA aC aB aD c0b c0o m R):CX Tryz.prog 53 #[.agg #[.string aA,.bool aC,.string aB,aD],.pointer (some ⟨c0b,c0o,none⟩)] m [] R:=
 Zad (E:=Zd6) Zaj mix Tryz.func53 [.v (.agg #[.string aA,.bool aC,.string aB,aD]),.v (.pointer (some ⟨c0b,c0o,none⟩))] [] (by kernel_rfl) (Eq.mp (by kernel_rfl) h)
noncomputable def Zfb:Env:=EB
def ZcM(c0b c0o c1b c1o c2b c2o:Nat)(m:Mem)(R:RT):Prop:=
 ∃(v:Value),m c0b (c0o+0)=some v/\∃(R_1:RT),True/\CX Tryz.prog 50 (Array.mk [v]) m [] R_1/\Zal Shape.bool R_1/\∀(b:Bool)(m':Mem),Mem.le m m'->R_1 (bool b) m' []->br (!b) (∃(m'':Mem),Mem.le m
 m''/\Mem.le m'' m'/\R (bool true) m'' []) (∃(v:Value),∃(v_1:Value),∃(v_2:Value),Mem.reads m' c0b (c0o+1) [v,v_1,v_2]/\∃(R_2:RT),True/\CX Tryz.prog 51 (Array.mk [agg (Array.mk [v,v_1,v_2])]) m'
 [] R_2/\Zal Shape.bool R_2/\∀(b:Bool)(m'_1:Mem),Mem.le m' m'_1->R_2 (bool b) m'_1 []->br (!b) (∃(m'':Mem),Mem.le m m''/\Mem.le m'' m'_1/\R (bool true) m'' []) (∃(v:Value),m'_1 c1b (c1o+1)=some
 v/\∃(v_3:Value),m'_1 c2b c2o=some v_3/\chk (ZbM v) (chk (ZbN v_3) (((0:Int)<=RowKit.intOf v_3/\RowKit.intOf v_3<=(↑(slC v):Int))/\∃(R_3:RT),True/\CX Tryz.prog 52 (Array.mk [slice (ZdZ (slA
 v) 0 (slC v) 4) (Int.toNat (RowKit.intOf v_3) - 0) (slC v - 0),func (Fn.func 53) (Array.mk []) (Array.mk [Value.pointer (some (Addr.mk c0b c0o none))])]) m'_1 [] R_3/\Zal Shape.bool R_3/\∀(b:Bool)(m':Mem),
 Mem.le m'_1 m'->R_3 (bool b) m' []->∃(m'':Mem),Mem.le m m''/\Mem.le m'' m'/\R (bool b) m'' []))))
theorem ZeC(c0b c0o c1b c1o c2b c2o:Nat)(m:Mem)(R:RT)(h:ZcM c0b c0o c1b c1o c2b c2o m R):CX Tryz.prog 49 #[.pointer (some ⟨c0b,c0o,none⟩),.pointer (some ⟨c1b,c1o,none⟩),.pointer (some ⟨c2b,c2o,none⟩)] m [] R:=
 Zad (E:=Zfb) Zaj mix Tryz.func49 [.v (.pointer (some ⟨c0b,c0o,none⟩)),.v (.pointer (some ⟨c1b,c1o,none⟩)),.v (.pointer (some ⟨c2b,c2o,none⟩))] [] (by kernel_rfl) (Eq.mp (by kernel_rfl) h)
noncomputable def Zg6:Env:={ EB with
 frzNew:=[2,3]
 frzAt:=(λi=>bif Nat.beq i 14 then[5]else[]) }
def Zdu(aA:Int)(aI:Option Addr)(aE aJ:Nat)(aL:Option Addr)(aH aM:Nat)(p1:Int)(m:Mem)(R:RT):Prop:=
 ∀(b:Nat)(m':Mem),Mem.le m m'->Mem.reads m' b 0 [int i64 aA,slice aI aE aJ,slice aL aH aM]->∀(b_1:Nat)(m'_1:Mem),Mem.le m' m'_1->Mem.reads m'_1 b_1 0 [int i64 p1]->∃(b_2:Nat),∃
 (o:Nat),aI=some (Addr.mk b_2 o none)/\Zai p1 aE/\∃(v:Value),∃(v_1:Value),∃(v_2:Value),∃(v_3:Value),Mem.reads m'_1 b_2 (o+Int.toNat p1*4) [v,v_1,v_2,v_3]/\∀(b_3:Nat),chk
 (Value.oneCell' v&&(Value.oneCell' v_1&&(Value.oneCell' v_2&&(Value.oneCell' v_3&&true)))) (∀(b_4:Nat),Mem.free m'_1 b_4->∀(m':Mem),Mem.le (Mem.add m'_1 b_4 [int i64 301,func (Fn.func 49) (Array.mk [])
 (Array.mk [Value.pointer (some (Addr.mk b_3 0 none)),Value.pointer (some (Addr.mk b 0 none)),Value.pointer (some (Addr.mk b_1 0 none))])]) m'->Mem.reads m' b_3 0 [v,v_1,v_2,v_3]->∃(R_1:RT),True/\CX Tryz.prog
 48 (Array.mk [slice (some (Addr.mk b_4 0 none)) 1 1]) m' [] R_1/\Zal (Shape.int i64) R_1/\∀(n:Int)(m'_2:Mem),Mem.le m' m'_2->R_1 (int i64 n) m'_2 []->∃(m'':Mem),Mem.le m m''/\Mem.le m'' m'_2/\R (int
 i64 n) m'' [])
theorem ZfT(aA:Int)(aI:Option Addr)(aE aJ:Nat)(aL:Option Addr)(aH aM:Nat)(p1:Int)(m:Mem)(R:RT)(h:Zdu aA aI aE aJ aL aH aM p1 m R):CX Tryz.prog 38 #[.agg #[.int .i64 aA,.slice aI aE aJ,.slice aL aH aM],.int .i64 p1] m [] R:=
 Zad (E:=Zg6) Zaj mix Tryz.func38 [.v (.agg #[.int .i64 aA,.slice aI aE aJ,.slice aL aH aM]),.v (.int .i64 p1)] [] (by kernel_rfl) (Eq.mp (by kernel_rfl) h)
noncomputable def ZfU:Env:={ EB with
 frzNew:=[2] }
def Zdc(aA:ByteArray)(aI:Option Addr)(aE aJ c0b c0o:Nat)(m:Mem)(R:RT):Prop:=
 ∀(b:Nat)(m':Mem),Mem.le m m'->Mem.reads m' b 0 [string aA,slice aI aE aJ]->∃(v:Value),m' c0b (c0o+0)=some v/\chk (Zeh v) (∃(m'':Mem),Mem.le m m''/\Mem.le m'' m'/\R (bool
 (ByteArray.toList aA == ByteArray.toList (Zbx v))) m'' [])
theorem Zfc(aA:ByteArray)(aI:Option Addr)(aE aJ c0b c0o:Nat)(m:Mem)(R:RT)(h:Zdc aA aI aE aJ c0b c0o m R):CX Tryz.prog 59 #[.agg #[.string aA,.slice aI aE aJ],.pointer (some ⟨c0b,c0o,none⟩)] m [] R:=
 Zad (E:=ZfU) Zaj mix Tryz.func59 [.v (.agg #[.string aA,.slice aI aE aJ]),.v (.pointer (some ⟨c0b,c0o,none⟩))] [] (by kernel_rfl) (Eq.mp (by kernel_rfl) h)
noncomputable def Zh2:Env:=EB
def ZdW(c0b c0o c1b c1o c2b c2o:Nat)(m:Mem)(R:RT):Prop:=
 ∃(v:Value),m c0b (c0o+0)=some v/\∃(R_1:RT),True/\CX Tryz.prog 50 (Array.mk [v]) m [] R_1/\Zal Shape.bool R_1/\∀(b:Bool)(m':Mem),Mem.le m m'->R_1 (bool b) m' []->br (!b) (∃(m'':Mem),Mem.le m
 m''/\Mem.le m'' m'/\R (bool true) m'' []) (∃(v:Value),m' c0b (c0o+1)=some v/\chk (ZbM v) (br (decide ((↑(slN v):Int) > (12:Int))) (∃(m'':Mem),Mem.le m m''/\Mem.le m'' m'/\R (bool true) m'' []) (∃
 (v:Value),m' c1b (c1o+2)=some v/\∃(v_1:Value),m' c2b c2o=some v_1/\chk (ZbM v) (chk (ZbN v_1) (((0:Int)<=RowKit.intOf v_1/\RowKit.intOf v_1<=(↑(slC v):Int))/\∃(R_2:RT),True/\CX
 Tryz.prog 58 (Array.mk [slice (ZdZ (slA v) 0 (slC v) 2) (Int.toNat (RowKit.intOf v_1) - 0) (slC v - 0),func (Fn.func 59) (Array.mk []) (Array.mk [Value.pointer (some (Addr.mk c0b c0o none))])]) m' [] R_2/\Zal
 Shape.bool R_2/\∀(b:Bool)(m'_1:Mem),Mem.le m' m'_1->R_2 (bool b) m'_1 []->∃(m'':Mem),Mem.le m m''/\Mem.le m'' m'_1/\R (bool b) m'' [])))))
theorem Zg7(c0b c0o c1b c1o c2b c2o:Nat)(m:Mem)(R:RT)(h:ZdW c0b c0o c1b c1o c2b c2o m R):CX Tryz.prog 57 #[.pointer (some ⟨c0b,c0o,none⟩),.pointer (some ⟨c1b,c1o,none⟩),.pointer (some ⟨c2b,c2o,none⟩)] m [] R:=
 Zad (E:=Zh2) Zaj mix Tryz.func57 [.v (.pointer (some ⟨c0b,c0o,none⟩)),.v (.pointer (some ⟨c1b,c1o,none⟩)),.v (.pointer (some ⟨c2b,c2o,none⟩))] [] (by kernel_rfl) (Eq.mp (by kernel_rfl) h)
noncomputable def Zlb:Env:={ EB with
 frzNew:=[2,3]
 frzAt:=(λi=>bif Nat.beq i 14 then[5]else[]) }
def Zfw(aA:Int)(aI:Option Addr)(aE aJ:Nat)(aL:Option Addr)(aH aM:Nat)(p1:Int)(m:Mem)(R:RT):Prop:=
 ∀(b:Nat)(m':Mem),Mem.le m m'->Mem.reads m' b 0 [int i64 aA,slice aI aE aJ,slice aL aH aM]->∀(b_1:Nat)(m'_1:Mem),Mem.le m' m'_1->Mem.reads m'_1 b_1 0 [int i64 p1]->∃(b_2:Nat),∃
 (o:Nat),aL=some (Addr.mk b_2 o none)/\Zai p1 aH/\∃(v:Value),∃(v_1:Value),Mem.reads m'_1 b_2 (o+Int.toNat p1*2) [v,v_1]/\∀(b_3:Nat),chk (Value.oneCell' v&&(Value.oneCell' v_1 &&
 true)) (∀(b_4:Nat),Mem.free m'_1 b_4->∀(m':Mem),Mem.le (Mem.add m'_1 b_4 [int i64 303,func (Fn.func 57) (Array.mk []) (Array.mk [Value.pointer (some (Addr.mk b_3 0 none)),Value.pointer (some (Addr.mk b 0
 none)),Value.pointer (some (Addr.mk b_1 0 none))])]) m'->Mem.reads m' b_3 0 [v,v_1]->∃(R_1:RT),True/\CX Tryz.prog 48 (Array.mk [slice (some (Addr.mk b_4 0 none)) 1 1]) m' [] R_1/\Zal (Shape.int i64) R_1/\∀
 (n:Int) (m'_2:Mem),Mem.le m' m'_2->R_1 (int i64 n) m'_2 []->∃(m'':Mem),Mem.le m m''/\Mem.le m'' m'_2/\R (int i64 n) m'' [])
theorem Zjm(aA:Int)(aI:Option Addr)(aE aJ:Nat)(aL:Option Addr)(aH aM:Nat)(p1:Int)(m:Mem)(R:RT)(h:Zfw aA aI aE aJ aL aH aM p1 m R):CX Tryz.prog 40 #[.agg #[.int .i64 aA,.slice aI aE aJ,.slice aL aH aM],.int .i64 p1] m [] R:=
 Zad (E:=Zlb) Zaj mix Tryz.func40 [.v (.agg #[.int .i64 aA,.slice aI aE aJ,.slice aL aH aM]),.v (.int .i64 p1)] [] (by kernel_rfl) (Eq.mp (by kernel_rfl) h)
noncomputable def Zjn:Env:={ EB with
 joins:=(λi=>bif Nat.beq i 1 then some [(1,.bool)]else none) }
def ZeD(c0b c0o:Nat)(m:Mem)(R:RT):Prop:=
 ∃(b:Bool),(∃(v:Value),∃(v_1:Value),∃(v_2:Value),∃(v_3:Value),∃(v_4:Value),∃(v_5:Value),∃(v_6:Value),∃(v_7:Value),∃(v_8:Value),∃(v_9:Value),∃(v_10:Value),∃(v_11:Value),
 ∃(v_12:Value),∃(v_13:Value),∃(v_14:Value),∃(v_15:Value),Mem.reads m c0b c0o [v,v_1,v_2,v_3,v_4,v_5,v_6,v_7,v_8,v_9,v_10,v_11,v_12,v_13,v_14,v_15]/\∃(R:RT),True/\CX Tryz.prog 61
 (Array.mk [agg (Array.mk [v,v_1,v_2,v_3,v_4,v_5,v_6,v_7,v_8,v_9,v_10,v_11,v_12,v_13,v_14,v_15])]) m [] R/\Zal Shape.bool R/\∀(b_1:Bool)(m':Mem),Mem.le m m'->R (bool b_1) m' []->br (!b_1)
 ([bool true]=[bool b]) (∃(v:Value),m' c0b (c0o+13)=some v/\chk (ZbM v) ([bool (decide ((↑(slN v):Int) > (8:Int)))]=[bool b])))/\∃(m'':Mem),Mem.le m m''/\Mem.le m'' m/\R (bool b) m'' []
theorem Zh3(c0b c0o:Nat)(m:Mem)(R:RT)(h:ZeD c0b c0o m R):CX Tryz.prog 60 #[.pointer (some ⟨c0b,c0o,none⟩)] m [] R:=
 Zad (E:=Zjn) Zaj mix Tryz.func60 [.v (.pointer (some ⟨c0b,c0o,none⟩))] [] (by kernel_rfl) (Eq.mp (by kernel_rfl) h)
noncomputable def Zjo:Env:={ EB with
 joins:=(λi=>bif Nat.beq i 1 then some [(2,.bool)]else none) }
def ZeE(c0b c0o c1b c1o:Nat)(m:Mem)(R:RT):Prop:=
 ∃(b:Bool),(∃(v:Value),m c0b (c0o+0)=some v/\chk (Za3 u8 v&&decide (u8=u8)) (br (RowKit.intOf v == (1:Int)) (∃(v:Value),∃(v_1:Value),∃(v_2:Value),∃(v_3:Value),∃(v_4:Value),∃(v_5
 : Value),∃(v_6:Value),∃(v_7:Value),∃(v_8:Value),∃(v_9:Value),Mem.reads m c0b (c0o+1) [v,v_1,v_2,v_3,v_4,v_5,v_6,v_7,v_8,v_9]/\∃(R:RT),True/\CX Tryz.prog 63 (Array.mk [agg (Array.mk [v,
 v_1,v_2,v_3,v_4,v_5,v_6,v_7,v_8,v_9])]) m [] R/\Zal (Shape.int i64) R/\∀(n:Int)(m':Mem),Mem.le m m'->R (int i64 n) m' []->br (!n == (0:Int)) ([bool true]=[bool b]) (∃(v:Value),m' c1b c1o =
 some v/\chk (Za3 i64 v&&decide (i64=i64)) ([bool (decide (RowKit.intOf v > (600:Int)))]=[bool b]))) ([bool false]=[bool b])))/\∃(m'':Mem),Mem.le m m''/\Mem.le m'' m/\R (bool b) m'' []
theorem Zh4(c0b c0o c1b c1o:Nat)(m:Mem)(R:RT)(h:ZeE c0b c0o c1b c1o m R):CX Tryz.prog 62 #[.pointer (some ⟨c0b,c0o,none⟩),.pointer (some ⟨c1b,c1o,none⟩)] m [] R:=
 Zad (E:=Zjo) Zaj mix Tryz.func62 [.v (.pointer (some ⟨c0b,c0o,none⟩)),.v (.pointer (some ⟨c1b,c1o,none⟩))] [] (by kernel_rfl) (Eq.mp (by kernel_rfl) h)
noncomputable def Zjp:Env:={ EB with
 joins:=(λi=>bif Nat.beq i 4 then some [(2,.bool)]else none) }
def ZeF(c0b c0o c1b c1o:Nat)(m:Mem)(R:RT):Prop:=
 ∃(v:Value),∃(v_1:Value),∃(v_2:Value),Mem.reads m c0b c0o [v,v_1,v_2]/\∃(v_3:Value),m c1b (c1o+14)=some v_3/\∃(R_1:RT),True/\CX Tryz.prog 65 (Array.mk [agg (Array.mk [v,v_1,v_2]),v_3]) m
 [] R_1/\Zal (Shape.tup [Shape.int i64,Shape.bool]) R_1/\∀(n:Int)(b:Bool)(m':Mem),Mem.le m m'->R_1 (tuple (Array.mk [int i64 n,bool b])) m' []->∃(v:Value),m' c1b (c1o+14)=some v/\chk (Zeh v &&
 true) (br (ByteArray.toList (Zbx v) == ByteArray.toList (ByteArray.mk (Array.mk []))) (∃(v:Value),m' c1b (c1o+15)=some v/\∃(R_2:RT),True/\CX Tryz.prog 55 (Array.mk [v,int i64 0,int i64 255]) m' [] R_2
 /\ Zal Shape.bool R_2/\∀(b:Bool)(m'_1:Mem),Mem.le m' m'_1->R_2 (bool b) m'_1 []->∃(m'':Mem),Mem.le m m''/\Mem.le m'' m'_1/\R (bool !b) m'' []) (∃(b_1:Bool),br (!b) ([bool true]=[bool b_1]) (∃(v:
 Value),m' c1b (c1o+15)=some v/\chk (Za3 i64 v&&decide (i64=i64)) ([bool !RowKit.intOf v == (0:Int)]=[bool b_1]))/\∃(m'':Mem),Mem.le m m''/\Mem.le m'' m'/\R (bool b_1) m'' []))
theorem Zh5(c0b c0o c1b c1o:Nat)(m:Mem)(R:RT)(h:ZeF c0b c0o c1b c1o m R):CX Tryz.prog 64 #[.pointer (some ⟨c0b,c0o,none⟩),.pointer (some ⟨c1b,c1o,none⟩)] m [] R:=
 Zad (E:=Zjp) Zaj mix Tryz.func64 [.v (.pointer (some ⟨c0b,c0o,none⟩)),.v (.pointer (some ⟨c1b,c1o,none⟩))] [] (by kernel_rfl) (Eq.mp (by kernel_rfl) h)
noncomputable def ZmV:Env:={ EB with
 frzNew:=[3,4,5] }
def ZgJ(aA:Int)(aI:Option Addr)(aE aJ:Nat)(aL:Option Addr)(aH aM:Nat)(aW:Int)(aX aV:Bool)(aY bO cG cH eN eO eP:Int)(cU:Option Addr)(cV cW:Nat)(dJ:ByteArray)(dK:Int)(cX:Option Addr)(cY cZ:Nat)(dL:ByteArray)(dM p2:Int)(m:Mem)(R:RT):Prop:=
 ∀(b:Nat)(m':Mem),Mem.le m m'->Mem.reads m' b 0 [int i64 aA,slice aI aE aJ,slice aL aH aM]->∀(b_1:Nat)(m'_1:Mem),Mem.le m' m'_1->Mem.reads m'_1 b_1 0 [int u8 aW,bool aX,bool
 aV,int u8 aY,int u64 bO,int u64 cG,int u64 cH,int u64 eN,int i64 eO,int i64 eP,slice cU cV cW,string dJ,int i64 dK,slice cX cY cZ,string dL,int i64 dM]->
 ∀(b_2:Nat)(m':Mem),Mem.le m'_1 m'->Mem.reads m' b_2 0 [int i64 p2]->∀(b_3:Nat),Mem.free m' b_3->∃(R_1:RT),True/\CX Tryz.prog 48 (Array.mk [slice (some (Addr.mk b_3 0 none)) 3 3]) (Mem.add m' b_3 [int
 i64 304,func (Fn.func 60) (Array.mk []) (Array.mk [Value.pointer (some (Addr.mk b_1 0 none))]),int i64 305,func (Fn.func 62) (Array.mk []) (Array.mk [Value.pointer (some (Addr.mk b_1 0 none)),Value.pointer (some
 (Addr.mk b_2 0 none))]),int i64 306,func (Fn.func 64) (Array.mk []) (Array.mk [Value.pointer (some (Addr.mk b 0 none)),Value.pointer (some (Addr.mk b_1 0 none))])]) [] R_1/\Zal (Shape.int i64) R_1/\∀(n:Int)
 (m'_2:Mem),Mem.le (Mem.add m' b_3 [int i64 304,func (Fn.func 60) (Array.mk []) (Array.mk [Value.pointer (some (Addr.mk b_1 0 none))]),int i64 305,func (Fn.func 62) (Array.mk []) (Array.mk [Value.pointer (some
 (Addr.mk b_1 0 none)),Value.pointer (some (Addr.mk b_2 0 none))]),int i64 306,func (Fn.func 64) (Array.mk []) (Array.mk [Value.pointer (some (Addr.mk b 0 none)),Value.pointer (some (Addr.mk b_1 0 none))])]) m'_2->
 R_1 (int i64 n) m'_2 []->∃(m'':Mem),Mem.le m m''/\Mem.le m'' m'_2/\R (int i64 n) m'' []
theorem Zlc(aA:Int)(aI:Option Addr)(aE aJ:Nat)(aL:Option Addr)(aH aM:Nat)(aW:Int)(aX aV:Bool)(aY bO cG cH eN eO eP:Int)(cU:Option Addr)(cV cW:Nat)(dJ:ByteArray)(dK:Int)(cX:Option Addr)(cY cZ:Nat)(dL:ByteArray)(dM p2:Int)(m:Mem)(R:RT)(h:ZgJ aA aI aE aJ aL aH aM aW aX aV aY bO cG cH eN eO eP cU cV cW dJ dK cX cY cZ dL dM p2 m R):CX Tryz.prog 41 #[.agg #[.int .i64 aA,.slice aI aE aJ,.slice aL aH aM],.agg #[.int .u8 aW,.bool aX,.bool aV,.int .u8 aY,.int .u64 bO,.int .u64 cG,.int .u64 cH,.int .u64 eN,.int .i64 eO,.int .i64 eP,.slice cU cV cW,.string dJ,.int .i64 dK,.slice cX cY cZ,.string dL,.int .i64 dM],.int .i64 p2] m [] R:=
 Zad (E:=ZmV) Zaj mix Tryz.func41 [.v (.agg #[.int .i64 aA,.slice aI aE aJ,.slice aL aH aM]),.v (.agg #[.int .u8 aW,.bool aX,.bool aV,.int .u8 aY,.int .u64 bO,.int .u64 cG,.int .u64 cH,.int .u64 eN,.int .i64 eO,.int .i64 eP,.slice cU cV cW,.string dJ,.int .i64 dK,.slice cX cY cZ,.string dL,.int .i64 dM]),.v (.int .i64 p2)] [] (by kernel_rfl) (Eq.mp (by kernel_rfl) h)
noncomputable def Zg8:Env:={ EB with
 joins:=(λi=>bif Nat.beq i 1 then some [(2,.bool)]else none)
 gb:=true
 ldF:=(λi=>bif Nat.beq i 19 then some (.bool)else bif Nat.beq i 28 then some (.bool)else bif Nat.beq i 37 then some (.bool)else none) }
def Zdv(c0b c0o c1b c1o:Nat)(m:Mem)(R:RT):Prop:=
 ∃(b:Bool),(∃(v:Value),m c0b (c0o+0)=some v/\chk (Za3 u8 v) (∃(R:RT),True/\CX Tryz.prog 55 (Array.mk [int i64 (IntKind.wrap i64 (RowKit.intOf v)),int i64 1,int i64 3]) m [] R/\Zal Shape.bool R/\∀
 (ao:Bool) (m':Mem),Mem.le m m'->R (bool ao) m' []->br (!ao) ([bool true]=[bool b]) (∃(v:Value),m' c0b (c0o+0)=some v/\chk (Za3 u8 v&&decide (u8=u8)) (br (RowKit.intOf v == (1:Int)) (∃(v:
 Value),m' c0b (c0o+1)=some v/\chk (Zeh v&&true) (br (!ByteArray.toList (Zbx v) == ByteArray.toList (ByteArray.mk (Array.mk []))) ([bool true]=[bool b]) (∃(v:Value),m' c1b c1o=some v/\∃(an:Bool),
 v=bool an/\br an (∃(v:Value),m' c0b (c0o+2)=some v/\chk (ZbM v) (br (decide ((↑(slN v):Int) > (0:Int))) ([bool true]=[bool b]) (∃(v:Value),m' c1b c1o=some v/\∃(ah:Bool),v=bool ah/\br ah
 (∃(v:Value),∃(ab:Value),∃(ac:Value),∃(ad:Value),∃(ae:Value),Mem.reads m' c0b (c0o+3) [v,ab,ac,ad,ae]/\∃(R:RT),True/\CX Tryz.prog 67 (Array.mk [agg (Array.mk [v,ab,ac,ad,ae])]) m' [] R
 /\ Zal Shape.bool R/\∀(af:Bool)(aa:Mem),Mem.le m' aa->R (bool af) aa []->br (!af) ([bool true]=[bool b]) (∃(v:Value),aa c1b c1o=some v/\∃(ag:Bool),v=bool ag/\br (!ag) (∃(v:Value),∃(ai:
 Value),∃(aj:Value),∃(ak:Value),∃(al:Value),Mem.reads aa c0b (c0o+3) [v,ai,aj,ak,al]/\∃(R:RT),True/\CX Tryz.prog 68 (Array.mk [agg (Array.mk [v,ai,aj,ak,al])]) aa [] R/\Zal Shape.bool R/\∀
 (am:Bool) (m':Mem),Mem.le aa m'->R (bool am) m' []->br (!am) ([bool true]=[bool b]) (∃(v:Value),m' c0b (c0o+2)=some v/\chk (ZbM v) ([bool (decide ((↑(slN v):Int) > (16:Int)))]=[bool b]))) (∃(v
 : Value),aa c0b (c0o+2)=some v/\chk (ZbM v) ([bool (decide ((↑(slN v):Int) > (16:Int)))]=[bool b])))) (∃(v:Value),m' c1b c1o=some v/\∃(af:Bool),v=bool af/\br (!af) (∃(v:Value),∃(ab:
 Value),∃(ac:Value),∃(ad:Value),∃(ae:Value),Mem.reads m' c0b (c0o+3) [v,ab,ac,ad,ae]/\∃(R:RT),True/\CX Tryz.prog 68 (Array.mk [agg (Array.mk [v,ab,ac,ad,ae])]) m' [] R/\Zal Shape.bool R/\∀
 (ag:Bool) (aa:Mem),Mem.le m' aa->R (bool ag) aa []->br (!ag) ([bool true]=[bool b]) (∃(v:Value),aa c0b (c0o+2)=some v/\chk (ZbM v) ([bool (decide ((↑(slN v):Int) > (16:Int)))]=[bool b]))) (∃(v
 : Value),m' c0b (c0o+2)=some v/\chk (ZbM v) ([bool (decide ((↑(slN v):Int) > (16:Int)))]=[bool b])))))) (∃(v:Value),m' c1b c1o=some v/\∃(ah:Bool),v=bool ah/\br ah (∃(v:Value),∃(ab:
 Value),∃(ac:Value),∃(ad:Value),∃(ae:Value),Mem.reads m' c0b (c0o+3) [v,ab,ac,ad,ae]/\∃(R:RT),True/\CX Tryz.prog 67 (Array.mk [agg (Array.mk [v,ab,ac,ad,ae])]) m' [] R/\Zal Shape.bool R/\∀
 (af:Bool) (aa:Mem),Mem.le m' aa->R (bool af) aa []->br (!af) ([bool true]=[bool b]) (∃(v:Value),aa c1b c1o=some v/\∃(ag:Bool),v=bool ag/\br (!ag) (∃(v:Value),∃(ai:Value),∃(aj:Value),∃
 (ak:Value),∃(al:Value),Mem.reads aa c0b (c0o+3) [v,ai,aj,ak,al]/\∃(R:RT),True/\CX Tryz.prog 68 (Array.mk [agg (Array.mk [v,ai,aj,ak,al])]) aa [] R/\Zal Shape.bool R/\∀(am:Bool)(m':Mem),
 Mem.le aa m'->R (bool am) m' []->br (!am) ([bool true]=[bool b]) (∃(v:Value),m' c0b (c0o+2)=some v/\chk (ZbM v) ([bool (decide ((↑(slN v):Int) > (16:Int)))]=[bool b]))) (∃(v:Value),aa c0b (c0o +
 2)=some v/\chk (ZbM v) ([bool (decide ((↑(slN v):Int) > (16:Int)))]=[bool b])))) (∃(v:Value),m' c1b c1o=some v/\∃(af:Bool),v=bool af/\br (!af) (∃(v:Value),∃(ab:Value),∃(ac:Value),∃
 (ad:Value),∃(ae:Value),Mem.reads m' c0b (c0o+3) [v,ab,ac,ad,ae]/\∃(R:RT),True/\CX Tryz.prog 68 (Array.mk [agg (Array.mk [v,ab,ac,ad,ae])]) m' [] R/\Zal Shape.bool R/\∀(ag:Bool)(aa:Mem),
 Mem.le m' aa->R (bool ag) aa []->br (!ag) ([bool true]=[bool b]) (∃(v:Value),aa c0b (c0o+2)=some v/\chk (ZbM v) ([bool (decide ((↑(slN v):Int) > (16:Int)))]=[bool b]))) (∃(v:Value),m' c0b (c0o +
 2)=some v/\chk (ZbM v) ([bool (decide ((↑(slN v):Int) > (16:Int)))]=[bool b]))))))) (∃(v:Value),m' c1b c1o=some v/\∃(an:Bool),v=bool an/\br an (∃(v:Value),m' c0b (c0o+2)=some v/\chk
 (ZbM v) (br (decide ((↑(slN v):Int) > (0:Int))) ([bool true]=[bool b]) (∃(v:Value),m' c1b c1o=some v/\∃(ah:Bool),v=bool ah/\br ah (∃(v:Value),∃(ab:Value),∃(ac:Value),∃(ad:Value),∃
 (ae:Value),Mem.reads m' c0b (c0o+3) [v,ab,ac,ad,ae]/\∃(R:RT),True/\CX Tryz.prog 67 (Array.mk [agg (Array.mk [v,ab,ac,ad,ae])]) m' [] R/\Zal Shape.bool R/\∀(af:Bool)(aa:Mem),Mem.le m' aa->R
 (bool af) aa []->br (!af) ([bool true]=[bool b]) (∃(v:Value),aa c1b c1o=some v/\∃(ag:Bool),v=bool ag/\br (!ag) (∃(v:Value),∃(ai:Value),∃(aj:Value),∃(ak:Value),∃(al:Value),Mem.reads
 aa c0b (c0o+3) [v,ai,aj,ak,al]/\∃(R:RT),True/\CX Tryz.prog 68 (Array.mk [agg (Array.mk [v,ai,aj,ak,al])]) aa [] R/\Zal Shape.bool R/\∀(am:Bool)(m':Mem),Mem.le aa m'->R (bool am) m' []->br
 (!am) ([bool true]=[bool b]) (∃(v:Value),m' c0b (c0o+2)=some v/\chk (ZbM v) ([bool (decide ((↑(slN v):Int) > (16:Int)))]=[bool b]))) (∃(v:Value),aa c0b (c0o+2)=some v/\chk (ZbM v) ([bool
 (decide ((↑(slN v):Int) > (16:Int)))]=[bool b])))) (∃(v:Value),m' c1b c1o=some v/\∃(af:Bool),v=bool af/\br (!af) (∃(v:Value),∃(ab:Value),∃(ac:Value),∃(ad:Value),∃(ae:Value),
 Mem.reads m' c0b (c0o+3) [v,ab,ac,ad,ae]/\∃(R:RT),True/\CX Tryz.prog 68 (Array.mk [agg (Array.mk [v,ab,ac,ad,ae])]) m' [] R/\Zal Shape.bool R/\∀(ag:Bool)(aa:Mem),Mem.le m' aa->R (bool ag) aa
 []->br (!ag) ([bool true]=[bool b]) (∃(v:Value),aa c0b (c0o+2)=some v/\chk (ZbM v) ([bool (decide ((↑(slN v):Int) > (16:Int)))]=[bool b]))) (∃(v:Value),m' c0b (c0o+2)=some v/\chk (ZbM v)
 ([bool (decide ((↑(slN v):Int) > (16:Int)))]=[bool b])))))) (∃(v:Value),m' c1b c1o=some v/\∃(ah:Bool),v=bool ah/\br ah (∃(v:Value),∃(ab:Value),∃(ac:Value),∃(ad:Value),∃(ae:Value),
 Mem.reads m' c0b (c0o+3) [v,ab,ac,ad,ae]/\∃(R:RT),True/\CX Tryz.prog 67 (Array.mk [agg (Array.mk [v,ab,ac,ad,ae])]) m' [] R/\Zal Shape.bool R/\∀(af:Bool)(aa:Mem),Mem.le m' aa->R (bool af) aa
 []->br (!af) ([bool true]=[bool b]) (∃(v:Value),aa c1b c1o=some v/\∃(ag:Bool),v=bool ag/\br (!ag) (∃(v:Value),∃(ai:Value),∃(aj:Value),∃(ak:Value),∃(al:Value),Mem.reads aa c0b (c0o +
 3) [v,ai,aj,ak,al]/\∃(R:RT),True/\CX Tryz.prog 68 (Array.mk [agg (Array.mk [v,ai,aj,ak,al])]) aa [] R/\Zal Shape.bool R/\∀(am:Bool)(m':Mem),Mem.le aa m'->R (bool am) m' []->br (!am) ([bool
 true]=[bool b]) (∃(v:Value),m' c0b (c0o+2)=some v/\chk (ZbM v) ([bool (decide ((↑(slN v):Int) > (16:Int)))]=[bool b]))) (∃(v:Value),aa c0b (c0o+2)=some v/\chk (ZbM v) ([bool (decide ((↑(slN
 v):Int) > (16:Int)))]=[bool b])))) (∃(v:Value),m' c1b c1o=some v/\∃(af:Bool),v=bool af/\br (!af) (∃(v:Value),∃(ab:Value),∃(ac:Value),∃(ad:Value),∃(ae:Value),Mem.reads m' c0b (c0o
 + 3) [v,ab,ac,ad,ae]/\∃(R:RT),True/\CX Tryz.prog 68 (Array.mk [agg (Array.mk [v,ab,ac,ad,ae])]) m' [] R/\Zal Shape.bool R/\∀(ag:Bool)(aa:Mem),Mem.le m' aa->R (bool ag) aa []->br (!ag) ([bool
 true]=[bool b]) (∃(v:Value),aa c0b (c0o+2)=some v/\chk (ZbM v) ([bool (decide ((↑(slN v):Int) > (16:Int)))]=[bool b]))) (∃(v:Value),m' c0b (c0o+2)=some v/\chk (ZbM v) ([bool (decide ((↑(slN
 v):Int) > (16:Int)))]=[bool b])))))))))/\∃(m'':Mem),Mem.le m m''/\Mem.le m'' m/\R (bool b) m'' []
theorem ZfV(c0b c0o c1b c1o:Nat)(m:Mem)(R:RT)(h:Zdv c0b c0o c1b c1o m R):CX Tryz.prog 66 #[.pointer (some ⟨c0b,c0o,none⟩),.pointer (some ⟨c1b,c1o,none⟩)] m [] R:=
 Zad (E:=Zg8) Zaj mix Tryz.func66 [.v (.pointer (some ⟨c0b,c0o,none⟩)),.v (.pointer (some ⟨c1b,c1o,none⟩))] [] (by kernel_rfl) (Eq.mp (by kernel_rfl) h)
noncomputable def Zg9:Env:={ EB with
 joins:=(λi=>bif Nat.beq i 2 then some [(3,.bool)]else none)
 gb:=true
 ldF:=(λi=>bif Nat.beq i 21 then some (.bool)else bif Nat.beq i 26 then some (.bool)else none) }
def Zdw(c0b c0o c1b c1o c2b c2o:Nat)(m:Mem)(R:RT):Prop:=
 ∃(v:Value),∃(v_1:Value),∃(v_2:Value),Mem.reads m c0b c0o [v,v_1,v_2]/\∃(v_3:Value),m c1b (c1o+1)=some v_3/\∃(R_1:RT),True/\CX Tryz.prog 70 (Array.mk [agg (Array.mk [v,v_1,v_2]),v_3]) m []
 R_1/\Zal (Shape.tup [Shape.bool,Shape.bool]) R_1/\∀(b b_1:Bool)(m':Mem),Mem.le m m'->R_1 (tuple (Array.mk [bool b,bool b_1])) m' []->∃(b_2:Bool),(∃(v:Value),m' c1b (c1o+0)=some v/\chk (Za3
 u8 v&&decide (u8=u8)) (br (!RowKit.intOf v == (1:Int)) (br (!b_1) ([bool true]=[bool b_2]) (∃(v:Value),m' c2b c2o=some v/\∃(b_3:Bool),v=bool b_3/\br (!b == b_3) ([bool true]=[bool b_2]) (∃(v:
 Value),m' c2b c2o=some v/\∃(b:Bool),v=bool b/\br b (∃(v:Value),∃(v_4:Value),∃(v_5:Value),Mem.reads m' c0b c0o [v,v_4,v_5]/\∃(v_6:Value),∃(v_7:Value),∃(v_8:Value),∃(v_9:Value),∃
 (v_10:Value),Mem.reads m' c1b (c1o+3) [v_6,v_7,v_8,v_9,v_10]/\∃(R:RT),True/\CX Tryz.prog 71 (Array.mk [agg (Array.mk [v,v_4,v_5]),agg (Array.mk [v_6,v_7,v_8,v_9,v_10])]) m' [] R/\Zal Shape.bool R
 /\ ∀(b:Bool)(m'_1:Mem),Mem.le m' m'_1->R (bool b) m'_1 []->[bool !b]=[bool b_2]) ([bool false]=[bool b_2])))) (∃(v:Value),m' c2b c2o=some v/\∃(b:Bool),v=bool b/\br b (∃(v:Value),∃(v_4:
 Value),∃(v_5:Value),Mem.reads m' c0b c0o [v,v_4,v_5]/\∃(v_6:Value),∃(v_7:Value),∃(v_8:Value),∃(v_9:Value),∃(v_10:Value),Mem.reads m' c1b (c1o+3) [v_6,v_7,v_8,v_9,v_10]/\∃(R:RT),
 True/\CX Tryz.prog 71 (Array.mk [agg (Array.mk [v,v_4,v_5]),agg (Array.mk [v_6,v_7,v_8,v_9,v_10])]) m' [] R/\Zal Shape.bool R/\∀(b:Bool)(m'_1:Mem),Mem.le m' m'_1->R (bool b) m'_1 []->[bool !b] =
 [bool b_2]) ([bool false]=[bool b_2]))))/\∃(m'':Mem),Mem.le m m''/\Mem.le m'' m'/\R (bool b_2) m'' []
theorem ZfW(c0b c0o c1b c1o c2b c2o:Nat)(m:Mem)(R:RT)(h:Zdw c0b c0o c1b c1o c2b c2o m R):CX Tryz.prog 69 #[.pointer (some ⟨c0b,c0o,none⟩),.pointer (some ⟨c1b,c1o,none⟩),.pointer (some ⟨c2b,c2o,none⟩)] m [] R:=
 Zad (E:=Zg9) Zaj mix Tryz.func69 [.v (.pointer (some ⟨c0b,c0o,none⟩)),.v (.pointer (some ⟨c1b,c1o,none⟩)),.v (.pointer (some ⟨c2b,c2o,none⟩))] [] (by kernel_rfl) (Eq.mp (by kernel_rfl) h)
noncomputable def Zha:Env:={ EB with
 dr:=(λi=>bif Nat.beq i 1 then[⟨0,[],[],none,[],[]⟩,⟨1,[],[],none,[0],[]⟩,⟨2,[],[],none,[0,1],[]⟩,⟨3,[],[],none,[0,1,2],[]⟩,⟨4,[],[],none,[0,1,2,3],[]⟩,⟨5,[],[],none,[0,1],[]⟩,⟨6,[],[],none,[0,1,2,3,4,5],[4]⟩,⟨7,[],[],none,[0,1,2,3,4,5,6],[]⟩,⟨8,[],[],none,[0,1,2,3,4,5,6,7],[]⟩,⟨9,[],[],none,[0,1,2,3,4,5,6,7,8],[]⟩]else[])
 gb:=true
 ldF:=(λi=>bif Nat.beq i 4 then some (.bool)else none) }
def Zdx(c0b c0o c1b c1o c2b c2o:Nat)(m:Mem)(R:RT):Prop:=
 ∃(f:Fx),∃(v:Value),m c0b c0o=some v/\∃(b:Bool),v=bool b/\br b (∃(v:Value),∃(v_1:Value),∃(v_2:Value),∃(v_3:Value),∃(v_4:Value),Mem.reads m c1b (c1o+3) [v,v_1,v_2,v_3,v_4]/\∃
 (R_1:RT),R_1=f 4 [agg (Array.mk [v,v_1,v_2,v_3,v_4])] m/\CX Tryz.prog 73 (Array.mk [agg (Array.mk [v,v_1,v_2,v_3,v_4])]) m [] R_1/\Zal (Shape.int i64) R_1/\∀(n:Int)(m':Mem),Mem.le m m'->R_1 (int
 i64 n) m' []->∃(v:Value),∃(v_5:Value),∃(v_6:Value),∃(v_7:Value),∃(v_8:Value),∃(v_9:Value),∃(v_10:Value),∃(v_11:Value),∃(v_12:Value),∃(v_13:Value),∃(v_14:Value),∃(v_15:
 Value),∃(v_16:Value),∃(v_17:Value),∃(v_18:Value),∃(v_19:Value),Mem.reads m c2b c2o [v,v_5,v_6,v_7,v_8,v_9,v_10,v_11,v_12,v_13,v_14,v_15,v_16,v_17,v_18,v_19]/\∃(R_2:RT),R_2=f 6 [agg
 (Array.mk [v,v_5,v_6,v_7,v_8,v_9,v_10,v_11,v_12,v_13,v_14,v_15,v_16,v_17,v_18,v_19])] m'/\CX Tryz.prog 74 (Array.mk [agg (Array.mk [v,v_5,v_6,v_7,v_8,v_9,v_10,v_11,v_12,v_13,v_14,v_15,v_16,
 v_17,v_18,v_19])]) m' [] R_2/\Zal (Shape.int i64) R_2/\∀(n_1:Int)(m'_1:Mem),Mem.le m' m'_1->R_2 (int i64 n_1) m'_1 []->∀(M:Mem),Mem.le m M->Mem.le m' M->Mem.le m'_1 M->∃(m'':Mem),Mem.le m m''/\
 Mem.le m'' M/\R (bool (decide (n > n_1))) m'' []) (∀(M:Mem),Mem.le m M->Mem.le m M->Mem.le m M->∃(m'':Mem),Mem.le m m''/\Mem.le m'' M/\R (bool false) m'' [])
theorem ZfX(c0b c0o c1b c1o c2b c2o:Nat)(m:Mem)(R:RT)(h:Zdx c0b c0o c1b c1o c2b c2o m R):CX Tryz.prog 72 #[.pointer (some ⟨c0b,c0o,none⟩),.pointer (some ⟨c1b,c1o,none⟩),.pointer (some ⟨c2b,c2o,none⟩)] m [] R:=
 Zad (E:=Zha) Zaj mix Tryz.func72 [.v (.pointer (some ⟨c0b,c0o,none⟩)),.v (.pointer (some ⟨c1b,c1o,none⟩)),.v (.pointer (some ⟨c2b,c2o,none⟩))] [] (by kernel_rfl) (Eq.mp (by kernel_rfl) h)
noncomputable def Zjq:Env:={ EB with
 frzNew:=[3,4,5]
 frzAt:=(λi=>bif Nat.beq i 18 then[7]else[]) }
def ZeG(aA:Int)(aI:Option Addr)(aE aJ:Nat)(aL:Option Addr)(aH aM:Nat)(aW:Int)(aX aV:Bool)(aY bO cG cH eN eO eP:Int)(cU:Option Addr)(cV cW:Nat)(dJ:ByteArray)(dK:Int)(cX:Option Addr)(cY cZ:Nat)(dL:ByteArray)(dM fM:Int)(eQ:ByteArray)(im:Option Addr)(io ip:Nat)(eW:Int)(fN:Value)(jK:ByteArray)(jL:Int)(iq:Option Addr)(ir iu:Nat)(m:Mem)(R:RT):Prop:=
 ∀(b:Nat)(m':Mem),Mem.le m m'->Mem.reads m' b 0 [int i64 aA,slice aI aE aJ,slice aL aH aM]->∀(b_1:Nat)(m'_1:Mem),Mem.le m' m'_1->Mem.reads m'_1 b_1 0 [int u8 aW,bool aX,bool
 aV,int u8 aY,int u64 bO,int u64 cG,int u64 cH,int u64 eN,int i64 eO,int i64 eP,slice cU cV cW,string dJ,int i64 dK,slice cX cY cZ,string dL,int i64 dM]->
 ∀(b_2:Nat)(m':Mem),Mem.le m'_1 m'->Mem.reads m' b_2 0 [int u8 fM,string eQ,slice im io ip,int u8 eW,fN,string jK,int i64 jL,slice iq ir iu]->∀(b_3 b_4:Nat),Mem.free m'
 b_4->∀(m'_2:Mem),Mem.le (Mem.add m' b_4 [int i64 307,func (Fn.func 66) (Array.mk []) (Array.mk [Value.pointer (some (Addr.mk b_2 0 none)),Value.pointer (some (Addr.mk b_3 0 none))]),int i64 308,func (Fn.func
 69) (Array.mk []) (Array.mk [Value.pointer (some (Addr.mk b 0 none)),Value.pointer (some (Addr.mk b_2 0 none)),Value.pointer (some (Addr.mk b_3 0 none))]),int i64 309,func (Fn.func 72) (Array.mk []) (Array.mk
 [Value.pointer (some (Addr.mk b_3 0 none)),Value.pointer (some (Addr.mk b_2 0 none)),Value.pointer (some (Addr.mk b_1 0 none))])]) m'_2->Mem.reads m'_2 b_3 0 [bool (fM == (3:Int))]->∃(R_1:RT),True/\CX
 Tryz.prog 48 (Array.mk [slice (some (Addr.mk b_4 0 none)) 3 3]) m'_2 [] R_1/\Zal (Shape.int i64) R_1/\∀(n:Int)(m':Mem),Mem.le m'_2 m'->R_1 (int i64 n) m' []->∃(m'':Mem),Mem.le m m''/\Mem.le m'' m'/\R
 (int i64 n) m'' []
theorem Zh6(aA:Int)(aI:Option Addr)(aE aJ:Nat)(aL:Option Addr)(aH aM:Nat)(aW:Int)(aX aV:Bool)(aY bO cG cH eN eO eP:Int)(cU:Option Addr)(cV cW:Nat)(dJ:ByteArray)(dK:Int)(cX:Option Addr)(cY cZ:Nat)(dL:ByteArray)(dM fM:Int)(eQ:ByteArray)(im:Option Addr)(io ip:Nat)(eW:Int)(fN:Value)(jK:ByteArray)(jL:Int)(iq:Option Addr)(ir iu:Nat)(m:Mem)(R:RT)(h:ZeG aA aI aE aJ aL aH aM aW aX aV aY bO cG cH eN eO eP cU cV cW dJ dK cX cY cZ dL dM fM eQ im io ip eW fN jK jL iq ir iu m R):CX Tryz.prog 42 #[.agg #[.int .i64 aA,.slice aI aE aJ,.slice aL aH aM],.agg #[.int .u8 aW,.bool aX,.bool aV,.int .u8 aY,.int .u64 bO,.int .u64 cG,.int .u64 cH,.int .u64 eN,.int .i64 eO,.int .i64 eP,.slice cU cV cW,.string dJ,.int .i64 dK,.slice cX cY cZ,.string dL,.int .i64 dM],.agg #[.int .u8 fM,.string eQ,.slice im io ip,.int .u8 eW,fN,.string jK,.int .i64 jL,.slice iq ir iu]] m [] R:=
 Zad (E:=Zjq) Zaj mix Tryz.func42 [.v (.agg #[.int .i64 aA,.slice aI aE aJ,.slice aL aH aM]),.v (.agg #[.int .u8 aW,.bool aX,.bool aV,.int .u8 aY,.int .u64 bO,.int .u64 cG,.int .u64 cH,.int .u64 eN,.int .i64 eO,.int .i64 eP,.slice cU cV cW,.string dJ,.int .i64 dK,.slice cX cY cZ,.string dL,.int .i64 dM]),.v (.agg #[.int .u8 fM,.string eQ,.slice im io ip,.int .u8 eW,fN,.string jK,.int .i64 jL,.slice iq ir iu])] [] (by kernel_rfl) (Eq.mp (by kernel_rfl) h)
noncomputable def Zjr:Env:={ EB with
 joins:=(λi=>bif Nat.beq i 1 then some [(3,.bool)]else none) }
def ZeH(c0b c0o c1b c1o c2b c2o:Nat)(m:Mem)(R:RT):Prop:=
 ∃(b:Bool),(∃(v:Value),∃(v_1:Value),∃(v_2:Value),∃(v_3:Value),∃(v_4:Value),∃(v_5:Value),∃(v_6:Value),∃(v_7:Value),Mem.reads m c0b c0o [v,v_1,v_2,v_3,v_4,v_5,v_6,v_7]/\∃(R:
 RT),True/\CX Tryz.prog 76 (Array.mk [agg (Array.mk [v,v_1,v_2,v_3,v_4,v_5,v_6,v_7])]) m [] R/\Zal Shape.bool R/\∀(b_1:Bool)(m':Mem),Mem.le m m'->R (bool b_1) m' []->br (!b_1) ([bool true]=[bool
 b]) (∃(v:Value),m' c1b c1o=some v/\chk (Za3 i64 v&&decide (i64=i64)) (br (decide (RowKit.intOf v > (0:Int))) (∃(v:Value),m' c0b (c0o+0)=some v/\chk (Za3 u8 v&&decide (u8=u8)) (br
 (RowKit.intOf v == (1:Int)) (∃(v:Value),m' c2b c2o=some v/\∃(v_8:Value),m' c1b c1o=some v_8/\chk (Za3 i64 v_8&&decide (i64=i64)) (chk (ZbM v) (∃(b_2:Nat),∃(o:Nat),slA v=some (Addr.mk b_2
 o none)/\Zai (IntKind.wrap i64 (RowKit.intOf v_8 - (1:Int))) (slN v)/\∃(v:Value),m' b_2 (o+Int.toNat (IntKind.wrap i64 (RowKit.intOf v_8 - (1:Int)))*8+0)=some v/\chk (Za3 u8 v&&decide (u8 =
 u8)) ([bool (RowKit.intOf v == (1:Int))]=[bool b])))) ([bool false]=[bool b]))) ([bool false]=[bool b]))))/\∃(m'':Mem),Mem.le m m''/\Mem.le m'' m/\R (bool b) m'' []
theorem Zh7(c0b c0o c1b c1o c2b c2o:Nat)(m:Mem)(R:RT)(h:ZeH c0b c0o c1b c1o c2b c2o m R):CX Tryz.prog 75 #[.pointer (some ⟨c0b,c0o,none⟩),.pointer (some ⟨c1b,c1o,none⟩),.pointer (some ⟨c2b,c2o,none⟩)] m [] R:=
 Zad (E:=Zjr) Zaj mix Tryz.func75 [.v (.pointer (some ⟨c0b,c0o,none⟩)),.v (.pointer (some ⟨c1b,c1o,none⟩)),.v (.pointer (some ⟨c2b,c2o,none⟩))] [] (by kernel_rfl) (Eq.mp (by kernel_rfl) h)
noncomputable def Zjs:Env:={ EB with
 joins:=(λi=>bif Nat.beq i 2 then some [(2,.bool)]else none) }
def ZeI(c0b c0o c1b c1o:Nat)(m:Mem)(R:RT):Prop:=
 ∃(v:Value),∃(v_1:Value),∃(v_2:Value),Mem.reads m c0b c0o [v,v_1,v_2]/\∃(v_3:Value),m c1b (c1o+1)=some v_3/\∃(R_1:RT),True/\CX Tryz.prog 70 (Array.mk [agg (Array.mk [v,v_1,v_2]),v_3]) m []
 R_1/\Zal (Shape.tup [Shape.bool,Shape.bool]) R_1/\∀(b b_1:Bool)(m':Mem),Mem.le m m'->R_1 (tuple (Array.mk [bool b,bool b_1])) m' []->∃(b:Bool),(∃(v:Value),m' c1b (c1o+0)=some v/\chk (Za3 u8
 v&&decide (u8=u8)) (br (RowKit.intOf v == (2:Int)) (br (!b_1) ([bool true]=[bool b]) (∃(v:Value),m' c1b (c1o+0)=some v/\chk (Za3 u8 v&&decide (u8=u8)) (br (RowKit.intOf v == (4:Int)) (∃(v:
 Value),∃(v_4:Value),∃(v_5:Value),Mem.reads m' c0b c0o [v,v_4,v_5]/\∃(v_6:Value),∃(v_7:Value),∃(v_8:Value),∃(v_9:Value),∃(v_10:Value),Mem.reads m' c1b (c1o+3) [v_6,v_7,v_8,v_9,v_10]
 /\ ∃(R:RT),True/\CX Tryz.prog 71 (Array.mk [agg (Array.mk [v,v_4,v_5]),agg (Array.mk [v_6,v_7,v_8,v_9,v_10])]) m' [] R/\Zal Shape.bool R/\∀(b_2:Bool)(m'_1:Mem),Mem.le m' m'_1->R (bool b_2) m'_1 []
 -> [bool !b_2]=[bool b]) ([bool false]=[bool b])))) (∃(v:Value),m' c1b (c1o+0)=some v/\chk (Za3 u8 v&&decide (u8=u8)) (br (RowKit.intOf v == (4:Int)) (∃(v:Value),∃(v_4:Value),∃(v_5:Value),
 Mem.reads m' c0b c0o [v,v_4,v_5]/\∃(v_6:Value),∃(v_7:Value),∃(v_8:Value),∃(v_9:Value),∃(v_10:Value),Mem.reads m' c1b (c1o+3) [v_6,v_7,v_8,v_9,v_10]/\∃(R:RT),True/\CX Tryz.prog 71
 (Array.mk [agg (Array.mk [v,v_4,v_5]),agg (Array.mk [v_6,v_7,v_8,v_9,v_10])]) m' [] R/\Zal Shape.bool R/\∀(b_2:Bool)(m'_1:Mem),Mem.le m' m'_1->R (bool b_2) m'_1 []->[bool !b_2]=[bool b]) ([bool
 false]=[bool b])))))/\∃(m'':Mem),Mem.le m m''/\Mem.le m'' m'/\R (bool b) m'' []
theorem Zh8(c0b c0o c1b c1o:Nat)(m:Mem)(R:RT)(h:ZeI c0b c0o c1b c1o m R):CX Tryz.prog 77 #[.pointer (some ⟨c0b,c0o,none⟩),.pointer (some ⟨c1b,c1o,none⟩)] m [] R:=
 Zad (E:=Zjs) Zaj mix Tryz.func77 [.v (.pointer (some ⟨c0b,c0o,none⟩)),.v (.pointer (some ⟨c1b,c1o,none⟩))] [] (by kernel_rfl) (Eq.mp (by kernel_rfl) h)
noncomputable def Zjt:Env:={ EB with
 dr:=(λi=>bif Nat.beq i 1 then[⟨0,[],[],none,[],[]⟩,⟨1,[],[],none,[0],[]⟩,⟨2,[],[],none,[0,1],[]⟩,⟨3,[],[],none,[0,1,2],[]⟩,⟨4,[],[],none,[0,1,2,3],[]⟩,⟨5,[],[],none,[0,1,2,3,4],[]⟩,⟨6,[],[],none,[0,1,2,3],[]⟩,⟨7,[],[],none,[0,1,2,3,6],[]⟩,⟨8,[],[],none,[0,1,2,3,4,5,6,7],[]⟩,⟨9,[],[],none,[0,1,2,3,4,5,6,7,8],[]⟩,⟨10,[],[],none,[0,1,2,3,4,5,6,7,8,9],[]⟩,⟨11,[],[],none,[0,1,2,3,4,5,6,7,8,9,10],[]⟩,⟨12,[],[],none,rg 0 12,[7]⟩,⟨13,[],[],none,rg 0 13,[]⟩,⟨14,[],[],none,rg 0 14,[]⟩,⟨15,[],[],none,rg 0 15,[]⟩,⟨16,[],[],none,rg 0 16,[7]⟩,⟨17,[],[],none,rg 0 17,[7]⟩,⟨18,[],[],none,rg 0 15,[7]⟩,⟨19,[],[],none,rg 0 19,[17]⟩,⟨20,[],[],none,rg 0 20,[]⟩,⟨21,[],[],none,rg 0 21,[]⟩,⟨22,[],[],none,rg 0 22,[]⟩,⟨23,[],[],none,rg 0 23,[]⟩]else[])
 gb:=true }
def ZeJ(c0b c0o c1b c1o:Nat)(m:Mem)(R:RT):Prop:=
 ∃(f:Fx),∃(v:Value),m c0b (c0o+0)=some v/\chk (Za3 u8 v&&decide (u8=u8)) (br (RowKit.intOf v == (3:Int)) (∃(v:Value),m c0b (c0o+2)=some v/\∃(ab:Value),∃(ac:Value),∃(ad:Value),∃
 (ae:Value),∃(af:Value),∃(ag:Value),∃(ah:Value),∃(ai:Value),∃(aj:Value),∃(ak:Value),∃(al:Value),∃(am:Value),∃(an:Value),∃(ao:Value),∃(ap:Value),∃(aq:Value),Mem.reads m
 c1b c1o [ab,ac,ad,ae,af,ag,ah,ai,aj,ak,al,am,an,ao,ap,aq]/\∃(R_1:RT),R_1=f 7 [agg (Array.mk [ab,ac,ad,ae,af,ag,ah,ai,aj,ak,al,am,an,ao,ap,aq])] m/\CX Tryz.prog 74 (Array.mk [agg
 (Array.mk [ab,ac,ad,ae,af,ag,ah,ai,aj,ak,al,am,an,ao,ap,aq])]) m [] R_1/\Zal (Shape.int i64) R_1/\∀(n:Int)(m':Mem),Mem.le m m'->R_1 (int i64 n) m' []->chk (Za3 i64 v&&decide (i64=i64))
 (br (decide (RowKit.intOf v > n)) (∀(M:Mem),Mem.le m M->Mem.le m' M->Mem.le m' M->Mem.le m' M->∃(m'':Mem),Mem.le m m''/\Mem.le m'' M/\R (bool true) m'' []) (∃(v:Value),m' c0b (c0o+0)=some v/\chk
 (Za3 u8 v&&decide (u8=u8)) (br (RowKit.intOf v == (4:Int)) (∃(v:Value),∃(ar:Value),∃(au:Value),∃(av:Value),∃(ax:Value),Mem.reads m' c0b (c0o+3) [v,ar,au,av,ax]/\∃(R_2:RT),R_2=f
 17 [agg (Array.mk [v,ar,au,av,ax])] m'/\CX Tryz.prog 73 (Array.mk [agg (Array.mk [v,ar,au,av,ax])]) m' [] R_2/\Zal (Shape.int i64) R_2/\∀(n:Int)(aa:Mem),Mem.le m' aa->R_2 (int i64 n) aa []->∃(v:
 Value),∃(ay:Value),∃(az:Value),∃(a0:Value),∃(a1:Value),∃(a2:Value),∃(a3:Value),∃(a4:Value),∃(a5:Value),∃(a6:Value),∃(a7:Value),∃(a8:Value),∃(a9:Value),∃(ba:Value),∃
 (bb:Value),∃(bc:Value),Mem.reads m' c1b c1o [v,ay,az,a0,a1,a2,a3,a4,a5,a6,a7,a8,a9,ba,bb,bc]/\∃(R_3:RT),R_3=f 19 [agg (Array.mk [v,ay,az,a0,a1,a2,a3,a4,a5,a6,a7,a8,a9,ba,bb,
 bc])] aa/\CX Tryz.prog 74 (Array.mk [agg (Array.mk [v,ay,az,a0,a1,a2,a3,a4,a5,a6,a7,a8,a9,ba,bb,bc])]) aa [] R_3/\Zal (Shape.int i64) R_3/\∀(aw:Int)(bd:Mem),Mem.le aa bd->R_3 (int i64 aw) bd
 []->∀(M:Mem),Mem.le m M->Mem.le m' M->Mem.le aa M->Mem.le bd M->∃(m'':Mem),Mem.le m m''/\Mem.le m'' M/\R (bool (decide (n > aw))) m'' []) (∀(M:Mem),Mem.le m M->Mem.le m' M->Mem.le m' M->Mem.le m' M
 -> ∃(m'':Mem),Mem.le m m''/\Mem.le m'' M/\R (bool false) m'' []))))) (∃(v:Value),m c0b (c0o+0)=some v/\chk (Za3 u8 v&&decide (u8=u8)) (br (RowKit.intOf v == (4:Int)) (∃(v:Value),∃(ab:Value),
 ∃(ac:Value),∃(ad:Value),∃(ae:Value),Mem.reads m c0b (c0o+3) [v,ab,ac,ad,ae]/\∃(R_1:RT),R_1=f 17 [agg (Array.mk [v,ab,ac,ad,ae])] m/\CX Tryz.prog 73 (Array.mk [agg (Array.mk [v,ab,ac,ad,
 ae])]) m [] R_1/\Zal (Shape.int i64) R_1/\∀(n:Int)(m':Mem),Mem.le m m'->R_1 (int i64 n) m' []->∃(v:Value),∃(af:Value),∃(ag:Value),∃(ah:Value),∃(ai:Value),∃(aj:Value),∃(ak:Value),∃
 (al:Value),∃(am:Value),∃(an:Value),∃(ao:Value),∃(ap:Value),∃(aq:Value),∃(ar:Value),∃(au:Value),∃(av:Value),Mem.reads m c1b c1o [v,af,ag,ah,ai,aj,ak,al,am,an,ao,ap,aq,ar,
 au,av]/\∃(R_2:RT),R_2=f 19 [agg (Array.mk [v,af,ag,ah,ai,aj,ak,al,am,an,ao,ap,aq,ar,au,av])] m'/\CX Tryz.prog 74 (Array.mk [agg (Array.mk [v,af,ag,ah,ai,aj,ak,al,am,an,ao,ap,aq,ar,
 au,av])]) m' [] R_2/\Zal (Shape.int i64) R_2/\∀(aw:Int)(aa:Mem),Mem.le m' aa->R_2 (int i64 aw) aa []->∀(M:Mem),Mem.le m M->Mem.le m M->Mem.le m' M->Mem.le aa M->∃(m'':Mem),Mem.le m m''/\Mem.le
 m'' M/\R (bool (decide (n > aw))) m'' []) (∀(M:Mem),Mem.le m M->Mem.le m M->Mem.le m M->Mem.le m M->∃(m'':Mem),Mem.le m m''/\Mem.le m'' M/\R (bool false) m'' []))))
theorem Zh9(c0b c0o c1b c1o:Nat)(m:Mem)(R:RT)(h:ZeJ c0b c0o c1b c1o m R):CX Tryz.prog 78 #[.pointer (some ⟨c0b,c0o,none⟩),.pointer (some ⟨c1b,c1o,none⟩)] m [] R:=
 Zad (E:=Zjt) Zaj mix Tryz.func78 [.v (.pointer (some ⟨c0b,c0o,none⟩)),.v (.pointer (some ⟨c1b,c1o,none⟩))] [] (by kernel_rfl) (Eq.mp (by kernel_rfl) h)
noncomputable def ZmW:Env:={ EB with
 frzNew:=[4,5,6,7]
 frzAt:=(λi=>bif Nat.beq i 21 then[9]else[]) }
def ZgK(aA:Int)(aI:Option Addr)(aE aJ:Nat)(aL:Option Addr)(aH aM:Nat)(aW:Int)(aX aV:Bool)(aY bO cG cH eN eO eP:Int)(cU:Option Addr)(cV cW:Nat)(dJ:ByteArray)(dK:Int)(cX:Option Addr)(cY cZ:Nat)(dL:ByteArray)(dM:Int)(p2a:Option Addr)(p2n p2c:Nat)(p3:Int)(m:Mem)(R:RT):Prop:=
 ∀(b:Nat)(m':Mem),Mem.le m m'->Mem.reads m' b 0 [int i64 aA,slice aI aE aJ,slice aL aH aM]->∀(b_1:Nat)(m'_1:Mem),Mem.le m' m'_1->Mem.reads m'_1 b_1 0 [int u8 aW,bool aX,bool
 aV,int u8 aY,int u64 bO,int u64 cG,int u64 cH,int u64 eN,int i64 eO,int i64 eP,slice cU cV cW,string dJ,int i64 dK,slice cX cY cZ,string dL,int i64 dM]->
 ∀(b_2:Nat)(m':Mem),Mem.le m'_1 m'->Mem.reads m' b_2 0 [slice p2a p2n p2c]->∀(b_3:Nat)(m'_2:Mem),Mem.le m' m'_2->Mem.reads m'_2 b_3 0 [int i64 p3]->∃(b_4:Nat),∃(o:Nat),p2a=some (Addr.mk b_4 o
 none)/\Zai p3 p2n/\∃(v:Value),∃(v_1:Value),∃(v_2:Value),∃(v_3:Value),∃(v_4:Value),∃(v_5:Value),∃(v_6:Value),∃(v_7:Value),Mem.reads m'_2 b_4 (o+Int.toNat p3*8) [v,v_1,v_2,v_3,
 v_4,v_5,v_6,v_7]/\∀(b_5:Nat),chk (Value.oneCell' v&&(Value.oneCell' v_1&&(Value.oneCell' v_2&&(Value.oneCell' v_3&&(Value.oneCell' v_4&&(Value.oneCell' v_5&&(Value.oneCell' v_6&&(Value.oneCell' v_7
 && true)))))))) (∀(b_6:Nat),Mem.free m'_2 b_6->∀(m':Mem),Mem.le (Mem.add m'_2 b_6 [int i64 307,func (Fn.func 75) (Array.mk []) (Array.mk [Value.pointer (some (Addr.mk b_5 0 none)),Value.pointer (some (Addr.mk
 b_3 0 none)),Value.pointer (some (Addr.mk b_2 0 none))]),int i64 308,func (Fn.func 77) (Array.mk []) (Array.mk [Value.pointer (some (Addr.mk b 0 none)),Value.pointer (some (Addr.mk b_5 0 none))]),int i64 309,func
 (Fn.func 78) (Array.mk []) (Array.mk [Value.pointer (some (Addr.mk b_5 0 none)),Value.pointer (some (Addr.mk b_1 0 none))])]) m'->Mem.reads m' b_5 0 [v,v_1,v_2,v_3,v_4,v_5,v_6,v_7]->∃(R_1:RT),True/\CX
 Tryz.prog 48 (Array.mk [slice (some (Addr.mk b_6 0 none)) 3 3]) m' [] R_1/\Zal (Shape.int i64) R_1/\∀(n:Int)(m'_3:Mem),Mem.le m' m'_3->R_1 (int i64 n) m'_3 []->∃(m'':Mem),Mem.le m m''/\Mem.le m'' m'_3/\
 R (int i64 n) m'' [])
theorem Zld(aA:Int)(aI:Option Addr)(aE aJ:Nat)(aL:Option Addr)(aH aM:Nat)(aW:Int)(aX aV:Bool)(aY bO cG cH eN eO eP:Int)(cU:Option Addr)(cV cW:Nat)(dJ:ByteArray)(dK:Int)(cX:Option Addr)(cY cZ:Nat)(dL:ByteArray)(dM:Int)(p2a:Option Addr)(p2n p2c:Nat)(p3:Int)(m:Mem)(R:RT)(h:ZgK aA aI aE aJ aL aH aM aW aX aV aY bO cG cH eN eO eP cU cV cW dJ dK cX cY cZ dL dM p2a p2n p2c p3 m R):CX Tryz.prog 43 #[.agg #[.int .i64 aA,.slice aI aE aJ,.slice aL aH aM],.agg #[.int .u8 aW,.bool aX,.bool aV,.int .u8 aY,.int .u64 bO,.int .u64 cG,.int .u64 cH,.int .u64 eN,.int .i64 eO,.int .i64 eP,.slice cU cV cW,.string dJ,.int .i64 dK,.slice cX cY cZ,.string dL,.int .i64 dM],.slice p2a p2n p2c,.int .i64 p3] m [] R:=
 Zad (E:=ZmW) Zaj mix Tryz.func43 [.v (.agg #[.int .i64 aA,.slice aI aE aJ,.slice aL aH aM]),.v (.agg #[.int .u8 aW,.bool aX,.bool aV,.int .u8 aY,.int .u64 bO,.int .u64 cG,.int .u64 cH,.int .u64 eN,.int .i64 eO,.int .i64 eP,.slice cU cV cW,.string dJ,.int .i64 dK,.slice cX cY cZ,.string dL,.int .i64 dM]),.v (.slice p2a p2n p2c),.v (.int .i64 p3)] [] (by kernel_rfl) (Eq.mp (by kernel_rfl) h)
noncomputable def Zju:Env:={ EB with
 loops:=(λi=>bif Nat.beq i 4 then⟨[(3,.int .i64),(4,.slice),(13,.int .i64)],[],[(41,1)],false⟩ else bif Nat.beq i 8 then⟨[(3,.int .i64),(7,.slice),(20,.int .i64)],[],[(36,1)],false⟩ else⟨[],[],[],false⟩)
 tokOf:=(λi=>bif Nat.beq i 36 then 36 else bif Nat.beq i 41 then 41 else 0)
 frzNew:=[1] }
def ZeK(aA:Int)(aI:Option Addr)(aE aJ:Nat)(aL:Option Addr)(aH aM:Nat)(m:Mem)(R:RT):Prop:=
 ∀(b:Nat)(m':Mem),Mem.le m m'->Mem.reads m' b 0 [int i64 aA,slice aI aE aJ,slice aL aH aM]->∃(I:IT),(∃(n:Nat),I [int i64 0,slice none 0 0,int i64 0] [] [slice none 0 0] m' n)/\∀
 (n:Int) (a:Option Addr) (ae c:Nat) (an:Int) (ai:Option Addr) (aj ak:Nat) (al:Mem) (a6:Nat),Mem.le m' al->I [int i64 n,slice a ae c,int i64 an] [] [slice ai aj ak] al a6->br (decide (an < (↑aH:
 Int))) (∃(a7:Nat),∃(o:Nat),aL=some (Addr.mk a7 o none)/\Zai an aH/\∃(v:Value),∃(ac:Value),Mem.reads al a7 (o+Int.toNat an*2) [v,ac]/\∀(ap:Nat),chk (Value.oneCell' v &&
 (Value.oneCell' ac&&true)) (chk (ZbM ac) (∃(aq:IT),(∃(aa:Nat),aq [int i64 n,slice none 0 0,int i64 0] [] [slice none 0 0] al aa)/\∀(n:Int)(af:Option Addr)(aa ag:Nat)(am:Int)(au:Option Addr)
 (av aw:Nat) (m':Mem) (ax:Nat),Mem.le al m'->aq [int i64 n,slice af aa ag,int i64 am] [] [slice au av aw] m' ax->br (decide (am < (↑(slN ac):Int))) (chk (ZbM ac) (∃(ah:Nat),∃(o:Nat),slA ac=some
 (Addr.mk ah o none)/\Zai am (slN ac)/\∃(ar:Value),∃(a8:Value),∃(a9:Value),∃(ay:Value),∃(az:Value),∃(a0:Value),∃(a1:Value),∃(a2:Value),∃(a3:Value),∃(a4:Value),∃(a5:Value),
 ∃(ba:Value),∃(bb:Value),∃(bc:Value),∃(bd:Value),∃(be:Value),Mem.reads m' ah (o+Int.toNat am*16) [ar,a8,a9,ay,az,a0,a1,a2,a3,a4,a5,ba,bb,bc,bd,be]/\∀(bf:Nat),chk
 (Value.oneCell' ar&&(Value.oneCell' a8&&(Value.oneCell' a9&&(Value.oneCell' ay&&(Value.oneCell' az&&(Value.oneCell' a0&&(Value.oneCell' a1&&(Value.oneCell' a2&&(Value.oneCell' a3&&(Value.oneCell' a4 &&
 (Value.oneCell' a5&&(Value.oneCell' ba&&(Value.oneCell' bb&&(Value.oneCell' bc&&(Value.oneCell' bd&&(Value.oneCell' be&&true)))))))))))))))) (chk (Za3 u8 ar&&decide (u8=u8)) (br (RowKit.intOf ar == (1
 : Int)) (∃(R:RT),True/\CX Tryz.prog 32 (Array.mk [agg (Array.mk [ay,az,a0,a1,a2,a3,a4,a5])]) m' [] R/\Zal (Shape.int i64) R/\∀(ao:Int)(ab:Mem),Mem.le m' ab->R (int i64 ao) ab []->∀(ad:Nat),
 Mem.free ab ad->(Tok.mk (slice au av aw) 1=Tok.mk (slice af aa ag) 1\/slice af aa ag=slice none 0 0\/ag < aa+1)/\∃(xs:List Value),∃(ys:List Value),List.length xs=aa*1/\List.length ys=1*1/\
 rowRd (Mem.add ab ad [int i64 (IntKind.wrap i64 (n+ao))]) af xs/\rowRd (Mem.add ab ad [int i64 (IntKind.wrap i64 (n+ao))]) (some (Addr.mk ad 0 none)) ys/\(∀(u:Value),u∈ys->Value.oneCell' u=true)/\(aa +
 1)*8<=140737488355328/\aa+1<=9223372036854775807/\∀(a':Option Addr)(c':Nat)(m':Mem),Mem.le (Mem.add ab ad [int i64 (IntKind.wrap i64 (n+ao))]) m'->rowRd m' a' (List.append xs ys)->[some (Box.mk ap
 [v,ac] 70 2 false true),some (Box.mk b [int i64 aA,slice aI aE aJ,slice aL aH aM] 27 3 true true)]=[some (Box.mk ap [v,ac] 70 2 false true),some (Box.mk b [int i64 aA,slice aI aE
 aJ,slice aL aH aM] 27 3 true true)]/\[some (Tok.mk (slice ai aj ak) 1)]=[some (Tok.mk (slice ai aj ak) 1)]/\∃(n':Nat),n' < ax/\aq [int i64 (IntKind.wrap i64 (n+ao)),slice a' (aa+1) c',int i64
 (IntKind.wrap i64 (am+(1:Int)))] [] [slice a' (aa+1) c'] m' n') (∀(ad:Nat),Mem.free m' ad->(Tok.mk (slice au av aw) 1=Tok.mk (slice af aa ag) 1\/slice af aa ag=slice none 0 0\/ag < aa+1)/\∃(xs:
 List Value),∃(ys:List Value),List.length xs=aa*1/\List.length ys=1*1/\rowRd (Mem.add m' ad [int i64 n]) af xs/\rowRd (Mem.add m' ad [int i64 n]) (some (Addr.mk ad 0 none)) ys/\(∀(u:Value),u∈ys->
 Value.oneCell' u=true)/\(aa+1)*8<=140737488355328/\aa+1<=9223372036854775807/\∀(a':Option Addr)(c':Nat)(ab:Mem),Mem.le (Mem.add m' ad [int i64 n]) ab->rowRd ab a' (List.append xs ys)->[some
 (Box.mk ap [v,ac] 70 2 false true),some (Box.mk b [int i64 aA,slice aI aE aJ,slice aL aH aM] 27 3 true true)]=[some (Box.mk ap [v,ac] 70 2 false true),some (Box.mk b [int i64 aA,slice
 aI aE aJ,slice aL aH aM] 27 3 true true)]/\[some (Tok.mk (slice ai aj ak) 1)]=[some (Tok.mk (slice ai aj ak) 1)]/\∃(n':Nat),n' < ax/\aq [int i64 n,slice a' (aa+1) c',int i64 (IntKind.wrap
 i64 (am+(1:Int)))] [] [slice a' (aa+1) c'] ab n'))))) (∀(ah:Nat),Mem.free m' ah->(Tok.mk (slice ai aj ak) 1=Tok.mk (slice a ae c) 1\/slice a ae c=slice none 0 0\/c < ae+1)/\∃(xs:List Value),∃(ys
 : List Value),List.length xs=ae*1/\List.length ys=1*1/\rowRd (Mem.add m' ah [slice af aa ag]) a xs/\rowRd (Mem.add m' ah [slice af aa ag]) (some (Addr.mk ah 0 none)) ys/\(∀(u:Value),u∈ys->
 Value.oneCell' u=true)/\(ae+1)*24<=140737488355328/\ae+1<=9223372036854775807/\∀(a':Option Addr)(c':Nat)(ab:Mem),Mem.le (Mem.add m' ah [slice af aa ag]) ab->rowRd ab a' (List.append xs ys)->
 [some (Box.mk b [int i64 aA,slice aI aE aJ,slice aL aH aM] 27 3 true true)]=[some (Box.mk b [int i64 aA,slice aI aE aJ,slice aL aH aM] 27 3 true true)]/\∃(n':Nat),n' <
 a6/\I [int i64 n,slice a' (ae+1) c',int i64 (IntKind.wrap i64 (an+(1:Int)))] [] [slice a' (ae+1) c'] ab n')))) (∃(m'':Mem),Mem.le m m''/\Mem.le m'' al/\R (slice a ae c) m'' [])
theorem Zia(aA:Int)(aI:Option Addr)(aE aJ:Nat)(aL:Option Addr)(aH aM:Nat)(m:Mem)(R:RT)(h:ZeK aA aI aE aJ aL aH aM m R):CX Tryz.prog 28 #[.agg #[.int .i64 aA,.slice aI aE aJ,.slice aL aH aM]] m [] R:=
 Zad (E:=Zju) Zaj mix Tryz.func28 [.v (.agg #[.int .i64 aA,.slice aI aE aJ,.slice aL aH aM])] [] (by kernel_rfl) (Eq.mp (by kernel_rfl) h)
noncomputable def Zqf:Env:={ EB with
 dr:=(λi=>bif Nat.beq i 7 then[⟨0,[3],[],none,[],[]⟩,⟨1,[3],[],none,[0],[]⟩,⟨2,[5],[],none,[],[]⟩,⟨3,[5],[],none,[2],[]⟩,⟨4,[],[],none,[0,1,2,3],[]⟩,⟨5,[],[],none,[0,1,2,3,4],[]⟩,⟨6,[],[],none,[0,1,2,3,4,5],[]⟩,⟨7,[5],[],none,[],[]⟩,⟨8,[5],[],none,[7],[]⟩,⟨9,[],[],none,[0,1,2,3,4,5,6,7,8],[]⟩,⟨10,[],[],none,[0,1,2,3,4,5,6,7,8,9],[]⟩,⟨11,[7],[7],none,[],[]⟩,⟨12,[7],[7],none,rg 0 12,[]⟩]else bif Nat.beq i 9 then[⟨0,[3],[],none,[],[]⟩,⟨1,[7],[],none,[],[]⟩,⟨2,[],[],none,[],[]⟩,⟨3,[5],[],none,[],[]⟩,⟨4,[5],[],none,[3],[]⟩,⟨5,[],[],none,[2,3,4],[]⟩,⟨6,[],[],none,[2,3,4,5],[]⟩,⟨7,[5],[],none,[],[]⟩,⟨8,[5],[],none,[7],[]⟩,⟨9,[],[],none,[2,3,4,5,6,7,8],[]⟩,⟨10,[],[],none,[2,3,4,5,6,7,8,9],[]⟩,⟨11,[],[],none,[0,1,2,3,4,5,6,7,8,9,10],[]⟩,⟨12,[],[],none,rg 0 12,[]⟩]else bif Nat.beq i 11 then[⟨0,[3],[],none,[],[]⟩,⟨1,[7],[],none,[],[]⟩,⟨2,[7],[],none,[],[]⟩,⟨3,[7],[],none,[2],[]⟩,⟨4,[5],[],none,[],[]⟩,⟨5,[5],[],none,[4],[]⟩,⟨6,[],[],none,[2,3,4,5],[]⟩,⟨7,[],[],none,[2,3,4,5,6],[]⟩,⟨8,[],[],none,[0,1,2,3,4,5,6,7],[]⟩,⟨9,[],[],none,[0,1,2,3,4,5,6,7,8],[]⟩]else bif Nat.beq i 12 then[⟨0,[3],[],none,[],[]⟩,⟨1,[7],[],none,[],[]⟩,⟨2,[7],[],none,[],[]⟩,⟨3,[7],[],none,[2],[]⟩,⟨4,[5],[],none,[],[]⟩,⟨5,[5],[],none,[4],[]⟩,⟨6,[],[],none,[2,3,4,5],[]⟩,⟨7,[],[],none,[2,3,4,5,6],[]⟩,⟨8,[],[],none,[2,3,4,5,6,7],[]⟩,⟨9,[5],[],none,[],[]⟩,⟨10,[5],[],none,[9],[]⟩,⟨11,[],[],none,[0,1,2,3,4,5,6,7,8,9,10],[]⟩,⟨12,[],[],none,rg 0 12,[]⟩]else[])
 frzNew:=[3,5] }
def Zj6(aA:Int)(aI:Option Addr)(aE aJ:Nat)(aL:Option Addr)(aH aM:Nat)(p1a:Option Addr)(p1n p1c:Nat)(fM eQ gI eW fN:Int)(m:Mem)(R:RT):Prop:=
 ∀(b:Nat)(m':Mem),Mem.le m m'->Mem.reads m' b 0 [int i64 aA,slice aI aE aJ,slice aL aH aM]->∀(b:Nat)(aa:Mem),Mem.le m' aa->Mem.reads aa b 0 [int i64 fM,int i64 eQ,int i64
 gI,int i64 eW,int i64 fN]->br (decide (fM ≥ (0:Int))) (∃(R_1:RT),True/\CX Tryz.prog 38 (Array.mk [agg (Array.mk [int i64 aA,slice aI aE aJ,slice aL aH aM]),int i64 fM]) aa []
 R_1/\Zal (Shape.int i64) R_1/\∀(n:Int)(m':Mem),Mem.le aa m'->R_1 (int i64 n) m' []->∃(m'':Mem),Mem.le m m''/\Mem.le m'' m'/\R (int i64 n) m'' []) (br (decide (eQ < (0:Int))) (∃(R_1:RT),True/\
 CX Tryz.prog 39 (Array.mk [agg (Array.mk [int i64 aA,slice aI aE aJ,slice aL aH aM])]) aa [] R_1/\Zal (Shape.int i64) R_1/\∀(n:Int)(m':Mem),Mem.le aa m'->R_1 (int i64 n) m' []->∃(m'':
 Mem),Mem.le m m''/\Mem.le m'' m'/\R (int i64 n) m'' []) (br (decide (gI < (0:Int))) (∃(R_1:RT),True/\CX Tryz.prog 40 (Array.mk [agg (Array.mk [int i64 aA,slice aI aE aJ,slice aL aH
 aM]),int i64 eQ]) aa [] R_1/\Zal (Shape.int i64) R_1/\∀(n:Int)(m':Mem),Mem.le aa m'->R_1 (int i64 n) m' []->∃(m'':Mem),Mem.le m m''/\Mem.le m'' m'/\R (int i64 n) m'' []) (∃(b:Nat),∃(o:
 Nat),aL=some (Addr.mk b o none)/\Zai eQ aH/\∃(v:Value),aa b (o+Int.toNat eQ*2+1)=some v/\chk (ZbM v) (∃(b:Nat),∃(o:Nat),slA v=some (Addr.mk b o none)/\Zai gI (slN v)/\∃
 (v:Value),∃(ad:Value),∃(ae:Value),∃(af:Value),∃(ag:Value),∃(ah:Value),∃(ai:Value),∃(aj:Value),∃(ak:Value),∃(al:Value),∃(am:Value),∃(an:Value),∃(ao:Value),∃(ab:
 Value),∃(ap:Value),∃(aq:Value),Mem.reads aa b (o+Int.toNat gI*16) [v,ad,ae,af,ag,ah,ai,aj,ak,al,am,an,ao,ab,ap,aq]/\∀(b:Nat),chk (Value.oneCell' v&&(Value.oneCell' ad &&
 (Value.oneCell' ae&&(Value.oneCell' af&&(Value.oneCell' ag&&(Value.oneCell' ah&&(Value.oneCell' ai&&(Value.oneCell' aj&&(Value.oneCell' ak&&(Value.oneCell' al&&(Value.oneCell' am&&(Value.oneCell' an &&
 (Value.oneCell' ao&&(Value.oneCell' ab&&(Value.oneCell' ap&&(Value.oneCell' aq&&true)))))))))))))))) (br (decide (eW < (0:Int))) (∃(f:Fx),∃(b:Nat),∃(o:Nat),p1a=some (Addr.mk b o none)/\Zai
 eQ p1n/\∃(ac:Value),aa b (o+Int.toNat eQ*1)=some ac/\chk (ZbM ac) (∃(b:Nat),∃(o:Nat),slA ac=some (Addr.mk b o none)/\Zai gI (slN ac)/\∃(ar:Value),aa b (o+Int.toNat gI*1) =
 some ar/\∃(R_1:RT),R_1=f 11 [agg (Array.mk [int i64 aA,slice aI aE aJ,slice aL aH aM]),agg (Array.mk [v,ad,ae,af,ag,ah,ai,aj,ak,al,am,an,ao,ab,ap,aq]),ar] aa/\CX Tryz.prog
 41 (Array.mk [agg (Array.mk [int i64 aA,slice aI aE aJ,slice aL aH aM]),agg (Array.mk [v,ad,ae,af,ag,ah,ai,aj,ak,al,am,an,ao,ab,ap,aq]),ar]) aa [] R_1/\Zal (Shape.int i64) R_1/\
 ∀(n:Int)(m':Mem),Mem.le aa m'->R_1 (int i64 n) m' []->∀(M:Mem),Mem.le aa M->Mem.le m' M->∃(m'':Mem),Mem.le m m''/\Mem.le m'' M/\R (int i64 n) m'' [])) (br (decide (fN < (0:Int))) (∃(f:Fx),
 chk (ZbM ab) (∃(b:Nat),∃(o:Nat),slA ab=some (Addr.mk b o none)/\Zai eW (slN ab)/\∃(ac:Value),∃(ar:Value),∃(au:Value),∃(av:Value),∃(aw:Value),∃(ax:Value),∃(ay:Value),∃(az:
 Value),Mem.reads aa b (o+Int.toNat eW*8) [ac,ar,au,av,aw,ax,ay,az]/\∃(R_1:RT),R_1=f 8 [agg (Array.mk [int i64 aA,slice aI aE aJ,slice aL aH aM]),agg (Array.mk [v,ad,ae,af,
 ag,ah,ai,aj,ak,al,am,an,ao,ab,ap,aq]),agg (Array.mk [ac,ar,au,av,aw,ax,ay,az])] aa/\CX Tryz.prog 42 (Array.mk [agg (Array.mk [int i64 aA,slice aI aE aJ,slice aL aH aM]),agg
 (Array.mk [v,ad,ae,af,ag,ah,ai,aj,ak,al,am,an,ao,ab,ap,aq]),agg (Array.mk [ac,ar,au,av,aw,ax,ay,az])]) aa [] R_1/\Zal (Shape.int i64) R_1/\∀(n:Int)(m':Mem),Mem.le aa m'->R_1 (int i64 n)
 m' []->∀(M:Mem),Mem.le aa M->Mem.le m' M->∃(m'':Mem),Mem.le m m''/\Mem.le m'' M/\R (int i64 n) m'' [])) (∃(f:Fx),chk (ZbM ab) (∃(b:Nat),∃(o:Nat),slA ab=some (Addr.mk b o none)/\Zai eW
 (slN ab)/\∃(ac:Value),aa b (o+Int.toNat eW*8+2)=some ac/\∃(R_1:RT),R_1=f 11 [agg (Array.mk [int i64 aA,slice aI aE aJ,slice aL aH aM]),agg (Array.mk [v,ad,ae,af,ag,ah,
 ai,aj,ak,al,am,an,ao,ab,ap,aq]),ac,int i64 fN] aa/\CX Tryz.prog 43 (Array.mk [agg (Array.mk [int i64 aA,slice aI aE aJ,slice aL aH aM]),agg (Array.mk [v,ad,ae,af,ag,ah,ai,aj,
 ak,al,am,an,ao,ab,ap,aq]),ac,int i64 fN]) aa [] R_1/\Zal (Shape.int i64) R_1/\∀(n:Int)(m':Mem),Mem.le aa m'->R_1 (int i64 n) m' []->∀(M:Mem),Mem.le aa M->Mem.le m' M->∃(m'':Mem),Mem.le m
 m''/\Mem.le m'' M/\R (int i64 n) m'' []))))))))
theorem ZoK(aA:Int)(aI:Option Addr)(aE aJ:Nat)(aL:Option Addr)(aH aM:Nat)(p1a:Option Addr)(p1n p1c:Nat)(fM eQ gI eW fN:Int)(m:Mem)(R:RT)(h:Zj6 aA aI aE aJ aL aH aM p1a p1n p1c fM eQ gI eW fN m R):CX Tryz.prog 27 #[.agg #[.int .i64 aA,.slice aI aE aJ,.slice aL aH aM],.slice p1a p1n p1c,.agg #[.int .i64 fM,.int .i64 eQ,.int .i64 gI,.int .i64 eW,.int .i64 fN]] m [] R:=
 Zad (E:=Zqf) Zaj mix Tryz.func27 [.v (.agg #[.int .i64 aA,.slice aI aE aJ,.slice aL aH aM]),.v (.slice p1a p1n p1c),.v (.agg #[.int .i64 fM,.int .i64 eQ,.int .i64 gI,.int .i64 eW,.int .i64 fN])] [] (by kernel_rfl) (Eq.mp (by kernel_rfl) h)
noncomputable def Zhb:Env:={ EB with
 frzNew:=[1] }
def Zdy(aA:Int)(aI:Option Addr)(aE aJ:Nat)(aL:Option Addr)(aH aM:Nat)(m:Mem)(R:RT):Prop:=
 ∀(b:Nat)(m':Mem),Mem.le m m'->Mem.reads m' b 0 [int i64 aA,slice aI aE aJ,slice aL aH aM]->∃(m'':Mem),Mem.le m m''/\Mem.le m'' m'/\R (func (Fn.func 36) (Array.mk []) (Array.mk
 [Value.pointer (some (Addr.mk b 0 none))])) m'' []
theorem ZfY(aA:Int)(aI:Option Addr)(aE aJ:Nat)(aL:Option Addr)(aH aM:Nat)(m:Mem)(R:RT)(h:Zdy aA aI aE aJ aL aH aM m R):CX Tryz.prog 23 #[.agg #[.int .i64 aA,.slice aI aE aJ,.slice aL aH aM]] m [] R:=
 Zad (E:=Zhb) Zaj mix Tryz.func23 [.v (.agg #[.int .i64 aA,.slice aI aE aJ,.slice aL aH aM])] [] (by kernel_rfl) (Eq.mp (by kernel_rfl) h)
noncomputable def Zfd:Env:={ EB with
 loops:=(λi=>bif Nat.beq i 2 then⟨[(12,.int .i64)],[],[],true⟩ else⟨[],[],[],false⟩) }
def ZcN(p0g:Nat)(p0fi p0ca:List Value)(c0b c0o:Nat)(m:Mem)(xs:List (List Value)):Prop:=
 ∀(l:Nat),∃(v:Value),∃(v_1:Value),∃(v_2:Value),Mem.reads m c0b c0o [v,v_1,v_2]/\∃(R:RT),True/\CX Tryz.prog 28 (Array.mk [agg (Array.mk [v,v_1,v_2])]) m [] R/\Zal Shape.slice R/\∀(a:Option
 Addr) (n c:Nat) (m':Mem),Mem.le m m'->R (slice a n c) m' []->∃(v:Value),∃(v_3:Value),∃(v_4:Value),Mem.reads m' c0b c0o [v,v_3,v_4]/\∃(R:RT),True/\CX Tryz.prog 9 (Array.mk [agg (Array.mk [v,
 v_3,v_4])]) m' [] R/\Zal Shape.slice R/\∀(a_3:Option Addr)(n_1 c_1:Nat)(m'_1:Mem),Mem.le m' m'_1->R (slice a_3 n_1 c_1) m'_1 []->∃(I:IT),(∃(n:Nat),I [int i64 0,int i64 0] [] [] m'_1 n)/\∀(y
 n_2:Int) (m':Mem) (n_3:Nat),Mem.le m'_1 m'->I [int i64 y,int i64 n_2] [] [] m' n_3->br (decide (n_2 < (↑n_1:Int))) (∃(b:Nat),∃(o:Nat),a_3=some (Addr.mk b o none)/\Zai n_2 n_1/\∃(v:Value),
 ∃(v_5:Value),∃(v_6:Value),∃(v_7:Value),∃(v_8:Value),Mem.reads m' b (o+Int.toNat n_2*5) [v,v_5,v_6,v_7,v_8]/\∀(b:Nat),chk (Value.oneCell' v&&(Value.oneCell' v_5&&(Value.oneCell' v_6 &&
 (Value.oneCell' v_7&&(Value.oneCell' v_8&&true))))) (∃(v_9:Value),∃(v_10:Value),∃(v_11:Value),Mem.reads m' c0b c0o [v_9,v_10,v_11]/\∃(R:RT),True/\CX Tryz.prog 27 (Array.mk [agg (Array.mk [v_9,
 v_10,v_11]),slice a n c,agg (Array.mk [v,v_5,v_6,v_7,v_8])]) m' [] R/\Zal (Shape.int i64) R/\∀(n:Int)(m'_2:Mem),Mem.le m' m'_2->R (int i64 n) m'_2 []->br (!n == (0:Int)) ((l=l/\(0:Int)<=y/\
 List.get?Internal xs (Int.toNat y)=some [agg (Array.mk [v,v_5,v_6,v_7,v_8,int i64 n])])/\(∃(n':Nat),n' < n_3/\I [int i64 (y+(1:Int)),int i64 (IntKind.wrap i64 (n_2+(1:Int)))] [] [] m'_2 n')/\((-1
 : Int)=(↑(List.length xs):Int)\/(-1:Int)=(-1:Int))) (∃(n':Nat),n' < n_3/\I [int i64 y,int i64 (IntKind.wrap i64 (n_2+(1:Int)))] [] [] m'_2 n'))) (y=(↑(List.length xs):Int)\/y=(-1:Int))
theorem ZeL(p0g:Nat)(p0fi p0ca:List Value)(c0b c0o:Nat)(m:Mem)(xs:List (List Value))(h:ZcN p0g p0fi p0ca c0b c0o m xs):IX Tryz.prog 36 [] [.pointer (some ⟨c0b,c0o,none⟩)] m xs:=
 ZkS (E:=Zfd) Zaj mix Tryz.func36 [] [.pointer (some ⟨c0b,c0o,none⟩)] xs (by kernel_rfl) (Eq.mp (by kernel_rfl) h)
noncomputable def Zle:Env:={ EB with
 loops:=(λi=>bif Nat.beq i 6 then⟨[(13,.agg [.int .i64,.int .i64,.int .i64,.int .i64,.int .i64,.int .i64])],[2,3],[],false⟩ else⟨[],[],[],false⟩)
 dr:=(λi=>bif Nat.beq i 6 then[⟨0,[5],[],none,[],[]⟩,⟨1,[5],[],none,[0],[]⟩,⟨2,[5],[],none,[],[]⟩,⟨3,[5],[],none,[2],[]⟩,⟨4,[2],[2],none,[0,1],[]⟩,⟨5,[3],[3],none,[0,1,2,3,4],[]⟩]else[])
 frzNew:=[1] }
def Zfx(aA:Int)(aI:Option Addr)(aE aJ:Nat)(aL:Option Addr)(aH aM:Nat)(m:Mem)(R:RT):Prop:=
 ∀(b:Nat)(m':Mem),Mem.le m m'->Mem.reads m' b 0 [int i64 aA,slice aI aE aJ,slice aL aH aM]->∀(b_1 b_2 b_3:Nat),∃(R_1:RT),True/\CX Tryz.prog 21 (Array.mk [agg (Array.mk [int i64
 aA,slice aI aE aJ,slice aL aH aM])]) m' [] R_1/\Zal Shape.bool R_1/\∀(b_4:Bool)(m'_1:Mem),Mem.le m' m'_1->R_1 (bool b_4) m'_1 []->br (!b_4) (∃(m'':Mem),Mem.le m m''/\Mem.le m''
 m'_1/\R (tuple (Array.mk [agg (Array.mk [int i64 (-1:Int),int i64 (-1:Int),int i64 (-1:Int),int i64 (-1:Int),int i64 (-1:Int)]),int i64 5])) m'' []) (∃(R_2:RT),True/\CX Tryz.prog 23 (Array.mk [agg
 (Array.mk [int i64 aA,slice aI aE aJ,slice aL aH aM])]) m'_1 [] R_2/\Zal Shape.fn R_2/\∀(g:Nat)(fi ca:List Value)(m':Mem),Mem.le m'_1 m'->R_2 (func (Fn.func g) (Array.mk fi) (Array.mk
 ca)) m' []->∃(xs:List (List Value)),IX Tryz.prog g fi ca m' xs/\(∀(x:List Value),x∈xs->Shape.fitsL [Shape.agg [Shape.int i64,Shape.int i64,Shape.int i64,Shape.int i64,Shape.int i64,Shape.int i64]] x =
 true)/\∃(I:IT),I [] [[int i64 0,int i64 0,int i64 0,int i64 0,int i64 0],[int i64 0]] [] m' 0/\(∀(n n_1 n_2 n_3 n_4 n_5:Int)(cs cs_1:List Value)(m'_2:Mem)(n_6:Nat),Mem.le m' m'_2->
 List.get?Internal xs n_6=some [agg (Array.mk [int i64 n,int i64 n_1,int i64 n_2,int i64 n_3,int i64 n_4,int i64 n_5])]->I [] [cs,cs_1] [] m'_2 n_6->∀(b_5:Nat),[some (Box.mk b_3 [int i64 (-1:Int),int i64
 (-1:Int),int i64 (-1:Int),int i64 (-1:Int),int i64 (-1:Int)] 34 5 false true),some (Box.mk b_2 [] 35 1 false true),some (Box.mk b_1 [] 34 5 false true),some (Box.mk b [int i64 aA,slice aI aE
 aJ,slice aL aH aM] 27 3 true true)]=[some (Box.mk b_3 [int i64 (-1:Int),int i64 (-1:Int),int i64 (-1:Int),int i64 (-1:Int),int i64 (-1:Int)] 34 5 false true),some (Box.mk b_2 [] 35 1 false
 true),some (Box.mk b_1 [] 34 5 false true),some (Box.mk b [int i64 aA,slice aI aE aJ,slice aL aH aM] 27 3 true true)]/\∃(m'':Mem),Mem.le m m''/\Mem.le m'' m'_2/\R (tuple (Array.mk [agg
 (Array.mk [int i64 n,int i64 n_1,int i64 n_2,int i64 n_3,int i64 n_4]),int i64 n_5])) m'' [])/\∀(cs cs_1:List Value)(m'_2:Mem),Mem.le m' m'_2->I [] [cs,cs_1] [] m'_2 (List.length xs)->∃(m'':Mem),
 Mem.le m m''/\Mem.le m'' m'_2/\R (tuple (Array.mk [agg (Array.mk [int i64 (-1:Int),int i64 (-1:Int),int i64 (-1:Int),int i64 (-1:Int),int i64 (-1:Int)]),int i64 0])) m'' [])
theorem Zjv(aA:Int)(aI:Option Addr)(aE aJ:Nat)(aL:Option Addr)(aH aM:Nat)(m:Mem)(R:RT)(h:Zfx aA aI aE aJ aL aH aM m R):CX Tryz.prog 13 #[.agg #[.int .i64 aA,.slice aI aE aJ,.slice aL aH aM]] m [] R:=
 Zad (E:=Zle) Zaj mix Tryz.func13 [.v (.agg #[.int .i64 aA,.slice aI aE aJ,.slice aL aH aM])] [] (by kernel_rfl) (Eq.mp (by kernel_rfl) h)
noncomputable def Zlf:Env:={ EB with
 frzNew:=[1] }
def Zfy(aA:Int)(aI:Option Addr)(aE aJ:Nat)(aL:Option Addr)(aH aM:Nat)(m:Mem)(R:RT):Prop:=
 ∀(b:Nat)(m':Mem),Mem.le m m'->Mem.reads m' b 0 [int i64 aA,slice aI aE aJ,slice aL aH aM]->∃(R_1:RT),True/\CX Tryz.prog 13 (Array.mk [agg (Array.mk [int i64 aA,slice aI aE
 aJ,slice aL aH aM])]) m' [] R_1/\Zal (Shape.tup [Shape.agg [Shape.int i64,Shape.int i64,Shape.int i64,Shape.int i64,Shape.int i64],Shape.int i64]) R_1/\∀(n n_1 n_2 n_3 n_4 n_5:Int)(m'_1:Mem),
 Mem.le m' m'_1->R_1 (tuple (Array.mk [agg (Array.mk [int i64 n,int i64 n_1,int i64 n_2,int i64 n_3,int i64 n_4]),int i64 n_5])) m'_1 []->∀(b:Nat),∃(m'':Mem),Mem.le m m''/\Mem.le m'' m'_1/\R (bool (n_5
 == (0:Int))) m'' []
theorem Zjw(aA:Int)(aI:Option Addr)(aE aJ:Nat)(aL:Option Addr)(aH aM:Nat)(m:Mem)(R:RT)(h:Zfy aA aI aE aJ aL aH aM m R):CX Tryz.prog 14 #[.agg #[.int .i64 aA,.slice aI aE aJ,.slice aL aH aM]] m [] R:=
 Zad (E:=Zlf) Zaj mix Tryz.func14 [.v (.agg #[.int .i64 aA,.slice aI aE aJ,.slice aL aH aM])] [] (by kernel_rfl) (Eq.mp (by kernel_rfl) h)
noncomputable def ZmX:Env:={ EB with
 joins:=(λi=>bif Nat.beq i 4 then some [(8,.bool)]else none) }
def ZgL(p0:Int)(m:Mem)(R:RT):Prop:=
 ∀(b:Nat),Mem.free m b->br (p0 == (5:Int)) (∃(m'':Mem),Mem.le m m''/\Mem.le m'' (Mem.add m b [string (ByteArray.mk (Array.mk [(98:UInt8),(117:UInt8),(102:UInt8),(102:UInt8),(101:UInt8),(114:
 UInt8)])),string (ByteArray.mk (Array.mk [(118:UInt8),(97:UInt8),(114:UInt8),(105:UInt8),(97:UInt8),(98:UInt8),(108:UInt8),(101:UInt8)])),string (ByteArray.mk (Array.mk [(115:UInt8),(116:
 UInt8),(97:UInt8),(116:UInt8),(101:UInt8),(115:UInt8)])),string (ByteArray.mk (Array.mk [(115:UInt8),(116:UInt8),(97:UInt8),(116:UInt8),(101:UInt8)])),string (ByteArray.mk (Array.mk [(114:
 UInt8),(117:UInt8),(108:UInt8),(101:UInt8)])),string (ByteArray.mk (Array.mk [(114:UInt8),(101:UInt8),(103:UInt8),(101:UInt8),(120:UInt8)])),string (ByteArray.mk (Array.mk [(101:UInt8),(110:
 UInt8),(100:UInt8)])),string (ByteArray.mk (Array.mk [(97:UInt8),(99:UInt8),(116:UInt8),(105:UInt8),(111:UInt8),(110:UInt8)])),string (ByteArray.mk (Array.mk [(110:UInt8),(97:UInt8),(109:
 UInt8),(101:UInt8)])),string (ByteArray.mk (Array.mk [(99:UInt8),(97:UInt8),(112:UInt8),(116:UInt8),(117:UInt8),(114:UInt8),(101:UInt8)]))])/\R (string (ByteArray.mk (Array.mk [(108:UInt8),
 (111:UInt8),(110:UInt8),(103:UInt8)]))) m'' []) (∃(aa:Bool),br (decide (p0 ≥ (300:Int))) ([some (Box.mk b [string (ByteArray.mk (Array.mk [(98:UInt8),(117:UInt8),(102:UInt8),(102:UInt8),(101:
 UInt8),(114:UInt8)])),string (ByteArray.mk (Array.mk [(118:UInt8),(97:UInt8),(114:UInt8),(105:UInt8),(97:UInt8),(98:UInt8),(108:UInt8),(101:UInt8)])),string (ByteArray.mk (Array.mk [(115:
 UInt8),(116:UInt8),(97:UInt8),(116:UInt8),(101:UInt8),(115:UInt8)])),string (ByteArray.mk (Array.mk [(115:UInt8),(116:UInt8),(97:UInt8),(116:UInt8),(101:UInt8)])),string (ByteArray.mk
 (Array.mk [(114:UInt8),(117:UInt8),(108:UInt8),(101:UInt8)])),string (ByteArray.mk (Array.mk [(114:UInt8),(101:UInt8),(103:UInt8),(101:UInt8),(120:UInt8)])),string (ByteArray.mk (Array.mk
 [(101:UInt8),(110:UInt8),(100:UInt8)])),string (ByteArray.mk (Array.mk [(97:UInt8),(99:UInt8),(116:UInt8),(105:UInt8),(111:UInt8),(110:UInt8)])),string (ByteArray.mk (Array.mk [(110:UInt8),
 (97:UInt8),(109:UInt8),(101:UInt8)])),string (ByteArray.mk (Array.mk [(99:UInt8),(97:UInt8),(112:UInt8),(116:UInt8),(117:UInt8),(114:UInt8),(101:UInt8)]))] 9 10 true true)]=[some (Box.mk b
 [string (ByteArray.mk (Array.mk [(98:UInt8),(117:UInt8),(102:UInt8),(102:UInt8),(101:UInt8),(114:UInt8)])),string (ByteArray.mk (Array.mk [(118:UInt8),(97:UInt8),(114:UInt8),(105:UInt8),(97
 : UInt8),(98:UInt8),(108:UInt8),(101:UInt8)])),string (ByteArray.mk (Array.mk [(115:UInt8),(116:UInt8),(97:UInt8),(116:UInt8),(101:UInt8),(115:UInt8)])),string (ByteArray.mk (Array.mk [(115:
 UInt8),(116:UInt8),(97:UInt8),(116:UInt8),(101:UInt8)])),string (ByteArray.mk (Array.mk [(114:UInt8),(117:UInt8),(108:UInt8),(101:UInt8)])),string (ByteArray.mk (Array.mk [(114:UInt8),(101:
 UInt8),(103:UInt8),(101:UInt8),(120:UInt8)])),string (ByteArray.mk (Array.mk [(101:UInt8),(110:UInt8),(100:UInt8)])),string (ByteArray.mk (Array.mk [(97:UInt8),(99:UInt8),(116:UInt8),(105:
 UInt8),(111:UInt8),(110:UInt8)])),string (ByteArray.mk (Array.mk [(110:UInt8),(97:UInt8),(109:UInt8),(101:UInt8)])),string (ByteArray.mk (Array.mk [(99:UInt8),(97:UInt8),(112:UInt8),(116:
 UInt8),(117:UInt8),(114:UInt8),(101:UInt8)]))] 9 10 true true)]/\[bool (decide (p0<=(309:Int)))]=[bool aa]) ([some (Box.mk b [string (ByteArray.mk (Array.mk [(98:UInt8),(117:UInt8),(102:UInt8),
 (102:UInt8),(101:UInt8),(114:UInt8)])),string (ByteArray.mk (Array.mk [(118:UInt8),(97:UInt8),(114:UInt8),(105:UInt8),(97:UInt8),(98:UInt8),(108:UInt8),(101:UInt8)])),string
 (ByteArray.mk (Array.mk [(115:UInt8),(116:UInt8),(97:UInt8),(116:UInt8),(101:UInt8),(115:UInt8)])),string (ByteArray.mk (Array.mk [(115:UInt8),(116:UInt8),(97:UInt8),(116:UInt8),(101:
 UInt8)])),string (ByteArray.mk (Array.mk [(114:UInt8),(117:UInt8),(108:UInt8),(101:UInt8)])),string (ByteArray.mk (Array.mk [(114:UInt8),(101:UInt8),(103:UInt8),(101:UInt8),(120:UInt8)])),
 string (ByteArray.mk (Array.mk [(101:UInt8),(110:UInt8),(100:UInt8)])),string (ByteArray.mk (Array.mk [(97:UInt8),(99:UInt8),(116:UInt8),(105:UInt8),(111:UInt8),(110:UInt8)])),string
 (ByteArray.mk (Array.mk [(110:UInt8),(97:UInt8),(109:UInt8),(101:UInt8)])),string (ByteArray.mk (Array.mk [(99:UInt8),(97:UInt8),(112:UInt8),(116:UInt8),(117:UInt8),(114:UInt8),(101:
 UInt8)]))] 9 10 true true)]=[some (Box.mk b [string (ByteArray.mk (Array.mk [(98:UInt8),(117:UInt8),(102:UInt8),(102:UInt8),(101:UInt8),(114:UInt8)])),string (ByteArray.mk (Array.mk [(118:UInt8),
 (97:UInt8),(114:UInt8),(105:UInt8),(97:UInt8),(98:UInt8),(108:UInt8),(101:UInt8)])),string (ByteArray.mk (Array.mk [(115:UInt8),(116:UInt8),(97:UInt8),(116:UInt8),(101:UInt8),(115:
 UInt8)])),string (ByteArray.mk (Array.mk [(115:UInt8),(116:UInt8),(97:UInt8),(116:UInt8),(101:UInt8)])),string (ByteArray.mk (Array.mk [(114:UInt8),(117:UInt8),(108:UInt8),(101:UInt8)])),
 string (ByteArray.mk (Array.mk [(114:UInt8),(101:UInt8),(103:UInt8),(101:UInt8),(120:UInt8)])),string (ByteArray.mk (Array.mk [(101:UInt8),(110:UInt8),(100:UInt8)])),string (ByteArray.mk
 (Array.mk [(97:UInt8),(99:UInt8),(116:UInt8),(105:UInt8),(111:UInt8),(110:UInt8)])),string (ByteArray.mk (Array.mk [(110:UInt8),(97:UInt8),(109:UInt8),(101:UInt8)])),string (ByteArray.mk
 (Array.mk [(99:UInt8),(97:UInt8),(112:UInt8),(116:UInt8),(117:UInt8),(114:UInt8),(101:UInt8)]))] 9 10 true true)]/\[bool false]=[bool aa])/\br aa (Zai (IntKind.wrap i64 (p0 - (300:Int))) 10
 /\ Eng.ZsZ [string (ByteArray.mk (Array.mk [(98:UInt8),(117:UInt8),(102:UInt8),(102:UInt8),(101:UInt8),(114:UInt8)])),string (ByteArray.mk (Array.mk [(118:UInt8),(97:UInt8),(114:UInt8),(105:
 UInt8),(97:UInt8),(98:UInt8),(108:UInt8),(101:UInt8)])),string (ByteArray.mk (Array.mk [(115:UInt8),(116:UInt8),(97:UInt8),(116:UInt8),(101:UInt8),(115:UInt8)])),string (ByteArray.mk
 (Array.mk [(115:UInt8),(116:UInt8),(97:UInt8),(116:UInt8),(101:UInt8)])),string (ByteArray.mk (Array.mk [(114:UInt8),(117:UInt8),(108:UInt8),(101:UInt8)])),string (ByteArray.mk (Array.mk [(114
 : UInt8),(101:UInt8),(103:UInt8),(101:UInt8),(120:UInt8)])),string (ByteArray.mk (Array.mk [(101:UInt8),(110:UInt8),(100:UInt8)])),string (ByteArray.mk (Array.mk [(97:UInt8),(99:UInt8),(116:
 UInt8),(105:UInt8),(111:UInt8),(110:UInt8)])),string (ByteArray.mk (Array.mk [(110:UInt8),(97:UInt8),(109:UInt8),(101:UInt8)])),string (ByteArray.mk (Array.mk [(99:UInt8),(97:UInt8),(112:
 UInt8),(116:UInt8),(117:UInt8),(114:UInt8),(101:UInt8)]))] (Int.toNat (IntKind.wrap i64 (p0 - (300:Int)))*1) λ(v:Value)=>∃(m'':Mem),Mem.le m m''/\Mem.le m'' (Mem.add m b [string (ByteArray.mk
 (Array.mk [(98:UInt8),(117:UInt8),(102:UInt8),(102:UInt8),(101:UInt8),(114:UInt8)])),string (ByteArray.mk (Array.mk [(118:UInt8),(97:UInt8),(114:UInt8),(105:UInt8),(97:UInt8),(98:
 UInt8),(108:UInt8),(101:UInt8)])),string (ByteArray.mk (Array.mk [(115:UInt8),(116:UInt8),(97:UInt8),(116:UInt8),(101:UInt8),(115:UInt8)])),string (ByteArray.mk (Array.mk [(115:UInt8),(116:
 UInt8),(97:UInt8),(116:UInt8),(101:UInt8)])),string (ByteArray.mk (Array.mk [(114:UInt8),(117:UInt8),(108:UInt8),(101:UInt8)])),string (ByteArray.mk (Array.mk [(114:UInt8),(101:UInt8),(103:
 UInt8),(101:UInt8),(120:UInt8)])),string (ByteArray.mk (Array.mk [(101:UInt8),(110:UInt8),(100:UInt8)])),string (ByteArray.mk (Array.mk [(97:UInt8),(99:UInt8),(116:UInt8),(105:UInt8),(111:
 UInt8),(110:UInt8)])),string (ByteArray.mk (Array.mk [(110:UInt8),(97:UInt8),(109:UInt8),(101:UInt8)])),string (ByteArray.mk (Array.mk [(99:UInt8),(97:UInt8),(112:UInt8),(116:UInt8),(117:
 UInt8),(114:UInt8),(101:UInt8)]))])/\R v m'' []) (∃(m'':Mem),Mem.le m m''/\Mem.le m'' (Mem.add m b [string (ByteArray.mk (Array.mk [(98:UInt8),(117:UInt8),(102:UInt8),(102:UInt8),(101:UInt8),
 (114:UInt8)])),string (ByteArray.mk (Array.mk [(118:UInt8),(97:UInt8),(114:UInt8),(105:UInt8),(97:UInt8),(98:UInt8),(108:UInt8),(101:UInt8)])),string (ByteArray.mk (Array.mk [(115:UInt8),
 (116:UInt8),(97:UInt8),(116:UInt8),(101:UInt8),(115:UInt8)])),string (ByteArray.mk (Array.mk [(115:UInt8),(116:UInt8),(97:UInt8),(116:UInt8),(101:UInt8)])),string (ByteArray.mk (Array.mk
 [(114:UInt8),(117:UInt8),(108:UInt8),(101:UInt8)])),string (ByteArray.mk (Array.mk [(114:UInt8),(101:UInt8),(103:UInt8),(101:UInt8),(120:UInt8)])),string (ByteArray.mk (Array.mk [(101:
 UInt8),(110:UInt8),(100:UInt8)])),string (ByteArray.mk (Array.mk [(97:UInt8),(99:UInt8),(116:UInt8),(105:UInt8),(111:UInt8),(110:UInt8)])),string (ByteArray.mk (Array.mk [(110:UInt8),(97:
 UInt8),(109:UInt8),(101:UInt8)])),string (ByteArray.mk (Array.mk [(99:UInt8),(97:UInt8),(112:UInt8),(116:UInt8),(117:UInt8),(114:UInt8),(101:UInt8)]))])/\R (string (ByteArray.mk (Array.mk
 []))) m'' []))
theorem Zlg(p0:Int)(m:Mem)(R:RT)(h:ZgL p0 m R):CX Tryz.prog 15 #[.int .i64 p0] m [] R:=
 Zad (E:=ZmX) Zaj mix Tryz.func15 [.v (.int .i64 p0)] [] (by kernel_rfl) (Eq.mp (by kernel_rfl) h)
end Go.Proofs.YtiadlgdcbpnmkaaGreatDoor