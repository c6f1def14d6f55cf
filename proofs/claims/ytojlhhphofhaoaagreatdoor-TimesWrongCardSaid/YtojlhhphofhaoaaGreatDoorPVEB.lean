/- Part of the proof: functions of the program. No condition. -/
import Derived.Test.YtojlhhphofhaoaaGreatDoorPEnv
set_option linter.unusedVariables false
set_option linter.unusedSimpArgs false
set_option linter.unusedSectionVars false
namespace Go.Proofs.YtojlhhphofhaoaaGreatDoor
open Go Go.Eng Go.Proofs Go.RowKit
open Go.Value (int slice agg bool string tuple func)
open Go.IntKind (u8 u64 i64)
set_option maxRecDepth 100000
noncomputable def ZoG:Env:={ EB with
 frzNew:=[1] }
theorem ZmB(aA:Int)(aB:Value)(aC:ByteArray)(aD:Int)(aT:Option Addr)(aS aU:Nat)(m:Mem)(R:RT)(h:
 ∀(b:Nat)(m':Mem),m.le m'->m'.reads b 0 [int u8 aA,aB,string aC,int i64 aD,slice aT aS aU]->∃(R_1:RT),True/\CX Tryz.prog 95 (Array.mk [agg (Array.mk [int u8 aA,aB,string
 aC,int i64 aD,slice aT aS aU])]) m' [] R_1/\Zap Shape.bool R_1/\∀(b:Bool)(m'_1:Mem),m'.le m'_1->R_1 (bool b) m'_1 []->br (!b) (∃(m'':Mem),m.le m''/\m''.le m'_1/\R (int i64
 20001) m'' []) (∃(R_2:RT),True/\CX Tryz.prog 107 (Array.mk [agg (Array.mk [int u8 aA,aB,string aC,int i64 aD,slice aT aS aU])]) m'_1 [] R_2/\Zap (Shape.int i64) R_2/\∀(n:Int)(m':Mem),
 m'_1.le m'->R_2 (int i64 n) m' []->∃(m'':Mem),m.le m''/\m''.le m'/\R (int i64 n) m'' [])):CX Tryz.prog 70 #[.agg #[.int .u8 aA,aB,.string aC,.int .i64 aD,.slice aT aS aU]] m [] R:=
 Zad (E:=ZoG) Zak mix Tryz.func70 [.v (.agg #[.int .u8 aA,aB,.string aC,.int .i64 aD,.slice aT aS aU])] [] (by kernel_rfl) (Eq.mp (by kernel_rfl) h)
noncomputable def ZoH:Env:={ EB with
 loops:=(λi=>bif Nat.beq i 3 then⟨[(3,.int .i64),(22,.int .i64)],[],[],false⟩ else bif Nat.beq i 6 then⟨[(3,.int .i64),(29,.int .i64)],[],[],false⟩ else bif Nat.beq i 12 then⟨[(3,.int .i64),(49,.int .i64)],[],[],false⟩ else bif Nat.beq i 16 then⟨[(3,.int .i64),(66,.int .i64)],[],[],false⟩ else⟨[],[],[],false⟩)
 dr:=(λi=>bif Nat.beq i 14 then[⟨0,[],[],none,[],[]⟩,⟨1,[9],[],none,[],[]⟩,⟨2,[9],[],none,[1],[]⟩,⟨3,[],[],none,[1,2],[]⟩,⟨4,[],[],none,[1,2,3],[]⟩,⟨5,[9],[],none,[],[]⟩,⟨6,[9],[],none,[5],[]⟩,⟨7,[],[],none,[5,6],[]⟩,⟨8,[],[],none,[1,2,3,4,5,6,7],[]⟩,⟨9,[],[],none,[0,1,2,3,4,5,6,7,8],[]⟩,⟨10,[],[],none,[0,1,2,3,4,5,6,7,8,9],[]⟩]else[])
 frzNew:=[1]
 cuts:=(λi=>bif Nat.beq i 11 then some ⟨[(3,.int .i64)],[],[],false⟩ else none) }
theorem ZmC(aA:Int)(aH:Option Addr)(aG aI:Nat)(aJ:Option Addr)(aE aK:Nat)(m:Mem)(R:RT)(h:
 ∀(b:Nat)(m':Mem),m.le m'->m'.reads b 0 [int i64 aA,slice aH aG aI,slice aJ aE aK]->∃(I:IT),(∃(n:Nat),I [int i64 (i64.wrap ((↑aG:Int)+(↑aE:Int))),int
 i64 0] [] [] m' n)/\∀(n a6:Int)(a0:Mem)(bk:Nat),m'.le a0->I [int i64 n,int i64 a6] [] [] a0 bk->br (decide (a6 < (↑aE:Int))) (∃(bl:Nat),∃(o:Nat),aJ=some (Addr.mk bl o none)/\Zaf
 a6 aE/\∃v aa:Value,a0.reads bl (o+Int.toNat a6*2) [v,aa]/\∀(al:Nat),chk (v.oneCell'&&(aa.oneCell'&&true)) (chk (Zbi aa) (∃(bb:IT),(∃(ax:Nat),bb [int i64 n,
 int i64 0] [] [] a0 ax)/\∀(n ax:Int)(m':Mem)(bm:Nat),a0.le m'->bb [int i64 n,int i64 ax] [] [] m' bm->br (decide (ax < (↑(slN aa):Int))) (chk (Zbi aa) (∃(bn:Nat),∃(o:Nat),slA aa=some
 (Addr.mk bn o none)/\Zaf ax (slN aa)/\∃am an ao ac ad ae af ag ah ai aj ap aq ab ar au:Value,m'.reads bn (o+Int.toNat ax*16) [am,an,ao,ac,ad,ae,af,ag,ah,ai,aj,ap,aq,ab,ar,au]/\∀(aw:Nat),chk
 (am.oneCell'&&(an.oneCell'&&(ao.oneCell'&&(ac.oneCell'&&(ad.oneCell'&&(ae.oneCell'&&(af.oneCell'&&(ag.oneCell'&&(ah.oneCell'&&(ai.oneCell' &&
 (aj.oneCell'&&(ap.oneCell'&&(aq.oneCell'&&(ab.oneCell'&&(ar.oneCell'&&(au.oneCell'&&true)))))))))))))))) (∃(R_1:RT),True/\CX Tryz.prog 60 (Array.mk [agg (Array.mk
 [ac,ad,ae,af,ag,ah,ai,aj])]) m' [] R_1/\Zap (Shape.int i64) R_1/\∀(bc:Int)(a7:Mem),m'.le a7->R_1 (int i64 bc) a7 []->∃(J:JT),(∃(R:RT),True/\CX Tryz.prog 69 (Array.mk [agg (Array.mk [ac,
 ad,ae,af,ag,ah,ai,aj])]) a7 [] R/\Zap Shape.bool R/\∀(a8:Bool)(m':Mem),a7.le m'->R (bool a8) m' []->br (!a8) ([some (Box.mk aw [am,an,ao,ac,ad,ae,af,ag,ah,ai,aj,ap,aq,ab,ar,au] 57 16
 false true),some (Box.mk al [v,aa] 42 2 false true),some (Box.mk b [int i64 aA,slice aH aG aI,slice aJ aE aK] 30 3 true true)]=[some (Box.mk aw [am,an,ao,ac,ad,ae,af,ag,ah,ai,aj,ap,
 aq,ab,ar,au] 57 16 false true),some (Box.mk al [v,aa] 42 2 false true),some (Box.mk b [int i64 aA,slice aH aG aI,slice aJ aE aK] 30 3 true true)]/\J [int i64 20001] [] [] m') ([some (Box.mk
 aw [am,an,ao,ac,ad,ae,af,ag,ah,ai,aj,ap,aq,ab,ar,au] 57 16 false true),some (Box.mk al [v,aa] 42 2 false true),some (Box.mk b [int i64 aA,slice aH aG aI,slice aJ aE aK] 30 3 true
 true)]=[some (Box.mk aw [am,an,ao,ac,ad,ae,af,ag,ah,ai,aj,ap,aq,ab,ar,au] 57 16 false true),some (Box.mk al [v,aa] 42 2 false true),some (Box.mk b [int i64 aA,slice aH aG aI,slice aJ
 aE aK] 30 3 true true)]/\J [int i64 (i64.wrap (n+i64.wrap ((1:Int)+if(20000:Int) < bc then(20000:Int)else bc)))] [] [] m'))/\∀(n:Int)(m':Mem),a7.le m'->J [int i64 n] []
 [] m'->chk (Zbi ab) (∃(I:IT),(∃(ay:Nat),I [int i64 n,int i64 0] [] [] m' ay)/\∀(n ay:Int)(av:Mem)(bo:Nat),m'.le av->I [int i64 n,int i64 ay] [] [] av bo->br (decide (ay < (↑(slN ab):Int)))
 (chk (Zbi ab) (∃(a8:Nat),∃(o:Nat),slA ab=some (Addr.mk a8 o none)/\Zaf ay (slN ab)/\∃a9 ba ak a1 a2 a3 a4 a5:Value,av.reads a8 (o+Int.toNat ay*8) [a9,ba,ak,a1,a2,a3,a4,a5]/\∀(bp:Nat),chk (a9.oneCell'&&(ba.oneCell'&&(ak.oneCell'&&(a1.oneCell'&&(a2.oneCell' &&
 (a3.oneCell'&&(a4.oneCell'&&(a5.oneCell'&&true)))))))) (∃(f:Fx),∃(R_2:RT),R_2=f 3 [agg (Array.mk [a1,a2,a3,a4,a5])] av/\CX Tryz.prog 70 (Array.mk [agg (Array.mk [a1,a2,a3,a4,
 a5])]) av [] R_2/\Zap (Shape.int i64) R_2/\∀(bq:Int)(m':Mem),av.le m'->R_2 (int i64 bq) m' []->chk (Zbi ak) (∀(M:Mem),av.le M->m'.le M->chk (Zbi ak) (∃(bd:IT),(∃(az:Nat),bd [int
 i64 (i64.wrap (n+i64.wrap (i64.wrap ((1:Int)+bq)+(↑(slN ak):Int)))),int i64 0] [] [] M az)/\∀(n az:Int)(m':Mem)(bs:Nat),M.le m'->bd [int i64 n,int i64 az] [] [] m' bs
 -> br (decide (az < (↑(slN ak):Int))) (chk (Zbi ak) (∃(bt:Nat),∃(o:Nat),slA ak=some (Addr.mk bt o none)/\Zaf az (slN ak)/\∃bu bv bw be bf bg bh bi:Value,m'.reads bt (o+Int.toNat az*8) [bu,bv,bw,be,bf,bg,bh,bi]/\∀(bz:Nat),chk (bu.oneCell'&&(bv.oneCell'&&(bw.oneCell' &&
 (be.oneCell'&&(bf.oneCell'&&(bg.oneCell'&&(bh.oneCell'&&(bi.oneCell'&&true)))))))) (br (decide (n > (20000:Int))) (∃(m'':Mem),m.le m''/\m''.le m'/\R (bool (decide
 (n<=(20000:Int)))) m'' []) (∃(R:RT),True/\CX Tryz.prog 70 (Array.mk [agg (Array.mk [be,bf,bg,bh,bi])]) m' [] R/\Zap (Shape.int i64) R/\∀(bx:Int)(bj:Mem),m'.le bj->R (int i64 bx) bj []->[some
 (Box.mk bp [a9,ba,ak,a1,a2,a3,a4,a5] 141 8 false true),some (Box.mk aw [am,an,ao,ac,ad,ae,af,ag,ah,ai,aj,ap,aq,ab,ar,au] 57 16 false true),some (Box.mk al [v,aa] 42 2 false true),some (Box.mk b
 [int i64 aA,slice aH aG aI,slice aJ aE aK] 30 3 true true)]=[some (Box.mk bp [a9,ba,ak,a1,a2,a3,a4,a5] 141 8 false true),some (Box.mk aw [am,an,ao,ac,ad,ae,af,ag,ah,ai,aj,ap,
 aq,ab,ar,au] 57 16 false true),some (Box.mk al [v,aa] 42 2 false true),some (Box.mk b [int i64 aA,slice aH aG aI,slice aJ aE aK] 30 3 true true)]/\∃(n':Nat),n' < bs/\bd [int i64
 (i64.wrap (n+bx)),int i64 (i64.wrap (az+(1:Int)))] [] [] bj n')))) ([some (Box.mk aw [am,an,ao,ac,ad,ae,af,ag,ah,ai,aj,ap,aq,ab,ar,au] 57 16 false true),some (Box.mk al [v,aa] 42
 2 false true),some (Box.mk b [int i64 aA,slice aH aG aI,slice aJ aE aK] 30 3 true true)]=[some (Box.mk aw [am,an,ao,ac,ad,ae,af,ag,ah,ai,aj,ap,aq,ab,ar,au] 57 16 false true),some
 (Box.mk al [v,aa] 42 2 false true),some (Box.mk b [int i64 aA,slice aH aG aI,slice aJ aE aK] 30 3 true true)]/\∃(n':Nat),n' < bo/\I [int i64 n,int i64 (i64.wrap (ay+(1:Int)))]
 [] [] m' n')))))) (br (decide (n > (20000:Int))) (∃(m'':Mem),m.le m''/\m''.le av/\R (bool (decide (n<=(20000:Int)))) m'' []) ([some (Box.mk al [v,aa] 42 2 false true),some (Box.mk b [int i64 aA,
 slice aH aG aI,slice aJ aE aK] 30 3 true true)]=[some (Box.mk al [v,aa] 42 2 false true),some (Box.mk b [int i64 aA,slice aH aG aI,slice aJ aE aK] 30 3 true true)]/\∃(n':
 Nat),n' < bm/\bb [int i64 n,int i64 (i64.wrap (ax+(1:Int)))] [] [] av n')))))) ([some (Box.mk b [int i64 aA,slice aH aG aI,slice aJ aE aK] 30 3 true true)]=[some (Box.mk b [int i64
 aA,slice aH aG aI,slice aJ aE aK] 30 3 true true)]/\∃(n':Nat),n' < bk/\I [int i64 n,int i64 (i64.wrap (a6+(1:Int)))] [] [] m' n')))) (∃(m'':Mem),m.le m''/\m''.le a0
 /\ R (bool (decide (n<=(20000:Int)))) m'' [])):CX Tryz.prog 38 #[.agg #[.int .i64 aA,.slice aH aG aI,.slice aJ aE aK]] m [] R:=
 Zad (E:=ZoH) Zak mix Tryz.func38 [.v (.agg #[.int .i64 aA,.slice aH aG aI,.slice aJ aE aK])] [] (by kernel_rfl) (Eq.mp (by kernel_rfl) h)
noncomputable def ZmD:Env:={ EB with
 frzNew:=[2] }
theorem Zkm(aA:ByteArray)(aH:Option Addr)(aG aI c0b c0o:Nat)(m:Mem)(R:RT)(h:
 ∀(b:Nat)(m':Mem),m.le m'->m'.reads b 0 [string aA,slice aH aG aI]->∃(v:Value),m' c0b c0o=some v/\chk (Zgw v) (∃(m'':Mem),m.le m''/\m''.le m'/\R (bool (ByteArray.toList
 aA == ByteArray.toList (Zb9 v))) m'' [])):CX Tryz.prog 183 #[.agg #[.string aA,.slice aH aG aI],.pointer (some ⟨c0b,c0o,none⟩)] m [] R:=
 Zad (E:=ZmD) Zak mix Tryz.func183 [.v (.agg #[.string aA,.slice aH aG aI]),.v (.pointer (some ⟨c0b,c0o,none⟩))] [] (by kernel_rfl) (Eq.mp (by kernel_rfl) h)
noncomputable def Za7:Env:={ EB with
 loops:=(λi=>bif Nat.beq i 2 then⟨[(8,.int .i64)],[],[],false⟩ else⟨[],[],[],false⟩) }
theorem Za5(p0a:Option Addr)(p0n p0c p1g:Nat)(p1fi p1ca:List Value)(m:Mem)(R:RT)(h:
 ∃(I:IT),(∃(n:Nat),I [int i64 0] [] [] m n)/\∀(n:Int)(m':Mem)(n_1:Nat),m.le m'->I [int i64 n] [] [] m' n_1->br (decide (n < (↑p0n:Int))) (∃(b:Nat),∃(o:Nat),p0a=some (Addr.mk b o none)
 /\ Zaf n p0n/\∃v v_1:Value,m'.reads b (o+Int.toNat n*2) [v,v_1]/\∃(R_1:RT),True/\CX Tryz.prog p1g (Array.mk (List.append (List.append p1fi [agg (Array.mk [v,v_1])]) p1ca)) m' []
 R_1/\Zap Shape.bool R_1/\∀(b:Bool)(m'_1:Mem),m'.le m'_1->R_1 (bool b) m'_1 []->br b (∃(m'':Mem),m.le m''/\m''.le m'_1/\R (int i64 n) m'' []) (∃(n':Nat),n' < n_1/\I [int i64
 (i64.wrap (n+(1:Int)))] [] [] m'_1 n')) (∃(m'':Mem),m.le m''/\m''.le m'/\R (int i64 (-1:Int)) m'' [])):CX Tryz.prog 179 #[.slice p0a p0n p0c,.func (.func p1g) p1fi.toArray p1ca.toArray] m [] R:=
 Zad (E:=Za7) Zak mix Tryz.func179 [.v (.slice p0a p0n p0c),.v (.func (.func p1g) p1fi.toArray p1ca.toArray)] [] (by kernel_rfl) (Eq.mp (by kernel_rfl) h)
noncomputable def Za2:Env:=EB
theorem ZaZ(p0a:Option Addr)(p0n p0c p1g:Nat)(p1fi p1ca:List Value)(m:Mem)(R:RT)(h:
 ∃(R_1:RT),True/\CX Tryz.prog 179 (Array.mk [slice p0a p0n p0c,func (Fn.func p1g) (Array.mk p1fi) (Array.mk p1ca)]) m [] R_1/\Zap (Shape.int i64) R_1/\∀(n:Int)(m':Mem),m.le m'->R_1 (int i64 n) m' []
 -> ∃(m'':Mem),m.le m''/\m''.le m'/\R (bool (decide (n ≥ (0:Int)))) m'' []):CX Tryz.prog 154 #[.slice p0a p0n p0c,.func (.func p1g) p1fi.toArray p1ca.toArray] m [] R:=
 Zad (E:=Za2) Zak mix Tryz.func154 [.v (.slice p0a p0n p0c),.v (.func (.func p1g) p1fi.toArray p1ca.toArray)] [] (by kernel_rfl) (Eq.mp (by kernel_rfl) h)
noncomputable def Zbu:Env:={ EB with
 loops:=(λi=>bif Nat.beq i 2 then⟨[(8,.int .i64)],[],[],false⟩ else⟨[],[],[],false⟩) }
theorem Zbq(p0a:Option Addr)(p0n p0c p1g:Nat)(p1fi p1ca:List Value)(m:Mem)(R:RT)(h:
 ∃(I:IT),(∃(n:Nat),I [int i64 0] [] [] m n)/\∀(n:Int)(m':Mem)(n_1:Nat),m.le m'->I [int i64 n] [] [] m' n_1->br (decide (n < (↑p0n:Int))) (∃(b:Nat),∃(o:Nat),p0a=some (Addr.mk b o none)
 /\ Zaf n p0n/\∃v v_1 v_2 v_3:Value,m'.reads b (o+Int.toNat n*4) [v,v_1,v_2,v_3]/\∃(R_1:RT),True/\CX Tryz.prog p1g (Array.mk (List.append (List.append
 p1fi [agg (Array.mk [v,v_1,v_2,v_3])]) p1ca)) m' [] R_1/\Zap Shape.bool R_1/\∀(b:Bool)(m'_1:Mem),m'.le m'_1->R_1 (bool b) m'_1 []->br b (∃(m'':Mem),m.le m''/\m''.le m'_1/\R (int i64 n)
 m'' []) (∃(n':Nat),n' < n_1/\I [int i64 (i64.wrap (n+(1:Int)))] [] [] m'_1 n')) (∃(m'':Mem),m.le m''/\m''.le m'/\R (int i64 (-1:Int)) m'' [])):CX Tryz.prog 178 #[.slice p0a p0n p0c,.func (.func p1g) p1fi.toArray p1ca.toArray] m [] R:=
 Zad (E:=Zbu) Zak mix Tryz.func178 [.v (.slice p0a p0n p0c),.v (.func (.func p1g) p1fi.toArray p1ca.toArray)] [] (by kernel_rfl) (Eq.mp (by kernel_rfl) h)
noncomputable def Zbf:Env:=EB
theorem Za8(p0a:Option Addr)(p0n p0c p1g:Nat)(p1fi p1ca:List Value)(m:Mem)(R:RT)(h:
 ∃(R_1:RT),True/\CX Tryz.prog 178 (Array.mk [slice p0a p0n p0c,func (Fn.func p1g) (Array.mk p1fi) (Array.mk p1ca)]) m [] R_1/\Zap (Shape.int i64) R_1/\∀(n:Int)(m':Mem),m.le m'->R_1 (int i64 n) m' []
 -> ∃(m'':Mem),m.le m''/\m''.le m'/\R (bool (decide (n ≥ (0:Int)))) m'' []):CX Tryz.prog 148 #[.slice p0a p0n p0c,.func (.func p1g) p1fi.toArray p1ca.toArray] m [] R:=
 Zad (E:=Zbf) Zak mix Tryz.func148 [.v (.slice p0a p0n p0c),.v (.func (.func p1g) p1fi.toArray p1ca.toArray)] [] (by kernel_rfl) (Eq.mp (by kernel_rfl) h)
noncomputable def Zqk:Env:={ EB with
 joins:=(λi=>bif Nat.beq i 2 then some [(17,.bool)]else none)
 frzNew:=[2,3] }
theorem ZoI(aA:Int)(aH:Option Addr)(aG aI:Nat)(aJ:Option Addr)(aE aK:Nat)(p1:ByteArray)(m:Mem)(R:RT)(h:
 ∀(b:Nat)(m':Mem),m.le m'->m'.reads b 0 [int i64 aA,slice aH aG aI,slice aJ aE aK]->∀(b_1:Nat)(m'_1:Mem),m'.le m'_1->m'_1.reads b_1 0 [string p1]->∃(R_1:RT),
 True/\CX Tryz.prog 179 (Array.mk [slice aJ aE aK,func (Fn.func 183) (Array.mk []) (Array.mk [Value.pointer (some (Addr.mk b_1 0 none))])]) m'_1 [] R_1/\Zap (Shape.int i64) R_1/\∀(n:Int)(m':Mem),
 m'_1.le m'->R_1 (int i64 n) m' []->∃(b_2:Bool),br (decide (n < (0:Int))) ([some (Box.mk b_1 [string p1] 9 1 true true),some (Box.mk b [int i64 aA,slice aH aG aI,slice aJ aE aK] 30 3
 true true)]=[some (Box.mk b_1 [string p1] 9 1 true true),some (Box.mk b [int i64 aA,slice aH aG aI,slice aJ aE aK] 30 3 true true)]/\[bool true]=[bool b_2]) (∃(R:RT),True/\CX Tryz.prog
 38 (Array.mk [agg (Array.mk [int i64 aA,slice aH aG aI,slice aJ aE aK])]) m' [] R/\Zap Shape.bool R/\∀(b_3:Bool)(m'_2:Mem),m'.le m'_2->R (bool b_3) m'_2 []->[some (Box.mk b_1
 [string p1] 9 1 true true),some (Box.mk b [int i64 aA,slice aH aG aI,slice aJ aE aK] 30 3 true true)]=[some (Box.mk b_1 [string p1] 9 1 true true),some (Box.mk b [int i64 aA,slice aH
 aG aI,slice aJ aE aK] 30 3 true true)]/\[bool !b_3]=[bool b_2])/\br b_2 (∃(m'':Mem),m.le m''/\m''.le m'/\R (tuple (Array.mk [int i64 0,bool false])) m'' []) (∃(m'':Mem),m.le m''/\m''.le m'/\R (tuple (Array.mk [int i64 n,bool true])) m'' [])):CX Tryz.prog 161 #[.agg #[.int .i64 aA,.slice aH aG aI,.slice aJ aE aK],.string p1] m [] R:=
 Zad (E:=Zqk) Zak mix Tryz.func161 [.v (.agg #[.int .i64 aA,.slice aH aG aI,.slice aJ aE aK]),.v (.string p1)] [] (by kernel_rfl) (Eq.mp (by kernel_rfl) h)
noncomputable def ZmE:Env:={ EB with
 loops:=(λi=>bif Nat.beq i 5 then⟨[(3,.slice),(20,.int .i64)],[],[(27,5)],false⟩ else bif Nat.beq i 10 then⟨[(3,.slice),(32,.int .i64)],[],[(27,5)],false⟩ else bif Nat.beq i 14 then⟨[(3,.slice),(45,.int .i64)],[],[(27,5)],false⟩ else bif Nat.beq i 18 then⟨[(3,.slice),(59,.int .i64)],[],[(27,5)],false⟩ else bif Nat.beq i 22 then⟨[(3,.slice),(74,.int .i64)],[],[(27,5)],false⟩ else⟨[],[],[],false⟩)
 tokOf:=(λi=>bif Nat.beq i 27 then 27 else bif Nat.beq i 41 then 27 else bif Nat.beq i 55 then 27 else bif Nat.beq i 70 then 27 else bif Nat.beq i 84 then 27 else 0)
 frzNew:=[1] }
theorem Zkn(aA:Int)(aH:Option Addr)(aG aI:Nat)(aJ:Option Addr)(aE aK:Nat)(m:Mem)(R:RT)(h:
 ∀(b:Nat)(m':Mem),m.le m'->m'.reads b 0 [int i64 aA,slice aH aG aI,slice aJ aE aK]->∃(R_1:RT),True/\CX Tryz.prog 38 (Array.mk [agg (Array.mk [int i64 aA,slice aH aG
 aI,slice aJ aE aK])]) m' [] R_1/\Zap Shape.bool R_1/\∀(bz:Bool)(ap:Mem),m'.le ap->R_1 (bool bz) ap []->br (!bz) (∃(m'':Mem),m.le m''/\m''.le ap/\R (slice none 0 0) m'' []) (∀
 (ad:Nat),ap.free ad->∃(I:IT),(∃(n:Nat),I [slice (some (Addr.mk ad 0 none)) 1 1,int i64 0] [] [slice none 0 0] (ap.add ad [int i64 (-1:Int),int i64 (-1:Int),int i64 (-1:Int),int i64 (-1:
 Int),int i64 (-1:Int)]) n)/\∀(a:Option Addr)(n c:Nat)(aq:Int)(bj:Option Addr)(bk bl:Nat)(m':Mem)(ca:Nat),Mem.le (ap.add ad [int i64 (-1:Int),int i64 (-1:Int),int i64 (-1:Int),int
 i64 (-1:Int),int i64 (-1:Int)]) m'->I [slice a n c,int i64 aq] [] [slice bj bk bl] m' ca->br (decide (aq < (↑aG:Int))) (∀(aj:Nat),m'.free aj->(Tok.mk (slice bj bk bl) 5=Tok.mk (slice a n c) 5\/
 slice a n c=slice none 0 0\/c < n+1)/\∃(xs:List Value),∃(ys:List Value),xs.length=n*5/\ys.length=1*5/\rowRd (m'.add aj [int i64 aq,int i64 (-1:Int),int i64 (-1:Int),int i64
 (-1:Int),int i64 (-1:Int)]) a xs/\rowRd (m'.add aj [int i64 aq,int i64 (-1:Int),int i64 (-1:Int),int i64 (-1:Int),int i64 (-1:Int)]) (some (Addr.mk aj 0 none)) ys/\(∀(u:Value),u∈ys->
 u.oneCell'=true)/\(n+1)*40<=140737488355328/\n+1<=9223372036854775807/\∀(a':Option Addr)(c':Nat)(af:Mem),Mem.le (m'.add aj [int i64 aq,int i64 (-1:Int),int i64 (-1:Int),int i64
 (-1:Int),int i64 (-1:Int)]) af->rowRd af a' (List.append xs ys)->[some (Box.mk ad [int i64 (-1:Int),int i64 (-1:Int),int i64 (-1:Int),int i64 (-1:Int),int i64 (-1:Int)] 119 5 true true),some
 (Box.mk b [int i64 aA,slice aH aG aI,slice aJ aE aK] 30 3 true true)]=[some (Box.mk ad [int i64 (-1:Int),int i64 (-1:Int),int i64 (-1:Int),int i64 (-1:Int),int i64 (-1:Int)] 119 5
 true true),some (Box.mk b [int i64 aA,slice aH aG aI,slice aJ aE aK] 30 3 true true)]/\∃(n':Nat),n' < ca/\I [slice a' (n+1) c',int i64 (i64.wrap (aq+(1:Int)))] [] [slice a' (n
 + 1) c'] af n') (∃(I:IT),(∃(aa:Nat),I [slice a n c,int i64 0] [] [slice bj bk bl] m' aa)/\∀(a:Option Addr)(n c:Nat)(aa:Int)(cb:Option Addr)(cc cd:Nat)(af:Mem)(ce:Nat),m'.le af->I
 [slice a n c,int i64 aa] [] [slice cb cc cd] af ce->br (decide (aa < (↑aE:Int))) (∃(aj:Nat),∃(o:Nat),aJ=some (Addr.mk aj o none)/\Zaf aa aE/\∃v ae:Value,af.reads aj (o
 + Int.toNat aa*2) [v,ae]/\∀(ar:Nat),chk (v.oneCell'&&(ae.oneCell'&&true)) (∀(ag:Nat),af.free ag->(Tok.mk (slice cb cc cd) 5=Tok.mk (slice a n c) 5\/slice a n c=slice none 0 0\/c <
 n+1)/\∃(xs:List Value),∃(ys:List Value),xs.length=n*5/\ys.length=1*5/\rowRd (af.add ag [int i64 (-1:Int),int i64 aa,int i64 (-1:Int),int i64 (-1:Int),int i64 (-1:Int)]) a
 xs/\rowRd (af.add ag [int i64 (-1:Int),int i64 aa,int i64 (-1:Int),int i64 (-1:Int),int i64 (-1:Int)]) (some (Addr.mk ag 0 none)) ys/\(∀(u:Value),u∈ys->u.oneCell'=true)/\(n+1)*40 <=
 140737488355328/\n+1<=9223372036854775807/\∀(a':Option Addr)(c':Nat)(m':Mem),Mem.le (af.add ag [int i64 (-1:Int),int i64 aa,int i64 (-1:Int),int i64 (-1:Int),int i64 (-1:Int)]) m'->rowRd
 m' a' (List.append xs ys)->chk (Zbi ae) (∃(bm:IT),(∃(ab:Nat),bm [slice a' (n+1) c',int i64 0] [] [slice a' (n+1) c'] m' ab)/\∀(a:Option Addr)(n c:Nat)(ab:Int)(bn:Option Addr)(bo bp:Nat)
 (ak:Mem) (cf:Nat),m'.le ak->bm [slice a n c,int i64 ab] [] [slice bn bo bp] ak cf->br (decide (ab < (↑(slN ae):Int))) (chk (Zbi ae) (∃(cg:Nat),∃(o:Nat),slA ae=some (Addr.mk cg o none)/\Zaf
 ab (slN ae)/\∃au av aw ax ay az a0 a1 a2 a3 a4 a5 a6 ah a7 a8:Value,ak.reads cg (o+Int.toNat ab*16) [au,av,aw,ax,ay,az,a0,a1,a2,a3,a4,a5,a6,ah,a7,a8]/\∀(bb:Nat),chk (au.oneCell'&&(av.oneCell'&&(aw.oneCell'&&(ax.oneCell'&&(ay.oneCell'&&(az.oneCell'&&(a0.oneCell'&&(a1.oneCell'&&(a2.oneCell'&&(a3.oneCell'&&(a4.oneCell'&&(a5.oneCell'&&(a6.oneCell'&&(ah.oneCell'&&(a7.oneCell'&&(a8.oneCell'&&true)))))))))))))))) (∀(ai:Nat),ak.free ai->(Tok.mk (slice bn bo bp) 5=Tok.mk (slice a n c) 5\/slice a n c =
 slice none 0 0\/c < n+1)/\∃(xs:List Value),∃(ys:List Value),xs.length=n*5/\ys.length=1*5/\rowRd (ak.add ai [int i64 (-1:Int),int i64 aa,int i64 ab,int i64 (-1:Int),int i64 (-1
 : Int)]) a xs/\rowRd (ak.add ai [int i64 (-1:Int),int i64 aa,int i64 ab,int i64 (-1:Int),int i64 (-1:Int)]) (some (Addr.mk ai 0 none)) ys/\(∀(u:Value),u∈ys->u.oneCell'=true)/\(n+1)*40
 <= 140737488355328/\n+1<=9223372036854775807/\∀(a':Option Addr)(c':Nat)(m':Mem),Mem.le (ak.add ai [int i64 (-1:Int),int i64 aa,int i64 ab,int i64 (-1:Int),int i64 (-1:Int)]) m'->rowRd m' a'
 (List.append xs ys)->chk (Zbi ah) (∃(I:IT),(∃(ac:Nat),I [slice a' (n+1) c',int i64 0] [] [slice a' (n+1) c'] m' ac)/\∀(a:Option Addr)(n c:Nat)(ac:Int)(bq:Option Addr)(bs bt:Nat)(al:Mem)
 (ch:Nat),m'.le al->I [slice a n c,int i64 ac] [] [slice bq bs bt] al ch->br (decide (ac < (↑(slN ah):Int))) (chk (Zbi ah) (∃(ci:Nat),∃(o:Nat),slA ah=some (Addr.mk ci o none)/\Zaf ac (slN ah)
 /\ ∃bc bd a9 be bf bg bh bi:Value,al.reads ci (o+Int.toNat ac*8) [bc,bd,a9,be,bf,bg,bh,bi]/\∀(cj:Nat),
 chk (bc.oneCell'&&(bd.oneCell'&&(a9.oneCell'&&(be.oneCell'&&(bf.oneCell'&&(bg.oneCell'&&(bh.oneCell'&&(bi.oneCell'&&true)))))))) (∀(an:Nat),al.free  an->(Tok.mk (slice bq bs bt) 5=Tok.mk (slice a n c) 5\/slice a n c=slice none 0 0\/c < n+1)/\∃(xs:List Value),∃(ys:List Value),xs.length=n*5/\ys.length=1*5/\rowRd (al.add an
 [int i64 (-1:Int),int i64 aa,int i64 ab,int i64 ac,int i64 (-1:Int)]) a xs/\rowRd (al.add an [int i64 (-1:Int),int i64 aa,int i64 ab,int i64 ac,int i64 (-1:Int)]) (some (Addr.mk an 0 none)) ys/\(∀
 (u:Value),u∈ys->u.oneCell'=true)/\(n+1)*40<=140737488355328/\n+1<=9223372036854775807/\∀(a':Option Addr)(c':Nat)(m':Mem),Mem.le (al.add an [int i64 (-1:Int),int i64 aa,int i64
 ab,int i64 ac,int i64 (-1:Int)]) m'->rowRd m' a' (List.append xs ys)->chk (Zbi a9) (∃(bu:IT),(∃(am:Nat),bu [slice a' (n+1) c',int i64 0] [] [slice a' (n+1) c'] m' am)/\∀(a:Option Addr) (n c:
 Nat) (am:Int) (bv:Option Addr) (bw bx:Nat) (ao:Mem) (ck:Nat),m'.le ao->bu [slice a n c,int i64 am] [] [slice bv bw bx] ao ck->br (decide (am < (↑(slN a9):Int))) (∀(ba:Nat),ao.free ba->
 (Tok.mk (slice bv bw bx) 5=Tok.mk (slice a n c) 5\/slice a n c=slice none 0 0\/c < n+1)/\∃(xs:List Value),∃(ys:List Value),xs.length=n*5/\ys.length=1*5/\rowRd (ao.add ba [int i64
 (-1:Int),int i64 aa,int i64 ab,int i64 ac,int i64 am]) a xs/\rowRd (ao.add ba [int i64 (-1:Int),int i64 aa,int i64 ab,int i64 ac,int i64 am]) (some (Addr.mk ba 0 none)) ys/\(∀(u:Value),u∈ys->
 u.oneCell'=true)/\(n+1)*40<=140737488355328/\n+1<=9223372036854775807/\∀(a':Option Addr)(c':Nat)(m':Mem),Mem.le (ao.add ba [int i64 (-1:Int),int i64 aa,int i64 ab,int i64 ac,int
 i64 am]) m'->rowRd m' a' (List.append xs ys)->[some (Box.mk an [int i64 (-1:Int),int i64 aa,int i64 ab,int i64 ac,int i64 (-1:Int)] 119 5 true true),some (Box.mk cj [bc,bd,a9,be,bf,bg,bh,bi] 141 8
 false true),some (Box.mk ai [int i64 (-1:Int),int i64 aa,int i64 ab,int i64 (-1:Int),int i64 (-1:Int)] 119 5 true true),some (Box.mk bb [au,av,aw,ax,ay,az,a0,a1,a2,a3,a4,a5,a6,ah,a7,a8] 57 16
 false true),some (Box.mk ag [int i64 (-1:Int),int i64 aa,int i64 (-1:Int),int i64 (-1:Int),int i64 (-1:Int)] 119 5 true true),some (Box.mk ar [v,ae] 42 2 false true),some (Box.mk ad [int i64 (-1:Int),
 int i64 (-1:Int),int i64 (-1:Int),int i64 (-1:Int),int i64 (-1:Int)] 119 5 true true),some (Box.mk b [int i64 aA,slice aH aG aI,slice aJ aE aK] 30 3 true true)]=[some (Box.mk an [int
 i64 (-1:Int),int i64 aa,int i64 ab,int i64 ac,int i64 (-1:Int)] 119 5 true true),some (Box.mk cj [bc,bd,a9,be,bf,bg,bh,bi] 141 8 false true),some (Box.mk ai [int i64 (-1:Int),int i64 aa,int i64 ab,
 int i64 (-1:Int),int i64 (-1:Int)] 119 5 true true),some (Box.mk bb [au,av,aw,ax,ay,az,a0,a1,a2,a3,a4,a5,a6,ah,a7,a8] 57 16 false true),some (Box.mk ag [int i64 (-1:Int),int i64 aa,int i64 (-1
 : Int),int i64 (-1:Int),int i64 (-1:Int)] 119 5 true true),some (Box.mk ar [v,ae] 42 2 false true),some (Box.mk ad [int i64 (-1:Int),int i64 (-1:Int),int i64 (-1:Int),int i64 (-1:Int),int i64 (-1:
 Int)] 119 5 true true),some (Box.mk b [int i64 aA,slice aH aG aI,slice aJ aE aK] 30 3 true true)]/\([none,none,none,none,none,none,none]:List (Option Tok))=[none,none,none,none,
 none,none,none]/\∃(n':Nat),n' < ck/\bu [slice a' (n+1) c',int i64 (i64.wrap (am+(1:Int)))] [] [slice a' (n+1) c'] m' n') ([some (Box.mk ai [int i64 (-1:Int),int i64 aa,int i64 ab,int i64
 (-1:Int),int i64 (-1:Int)] 119 5 true true),some (Box.mk bb [au,av,aw,ax,ay,az,a0,a1,a2,a3,a4,a5,a6,ah,a7,a8] 57 16 false true),some (Box.mk ag [int i64 (-1:Int),int i64 aa,int i64 (-1:Int),
 int i64 (-1:Int),int i64 (-1:Int)] 119 5 true true),some (Box.mk ar [v,ae] 42 2 false true),some (Box.mk ad [int i64 (-1:Int),int i64 (-1:Int),int i64 (-1:Int),int i64 (-1:Int),int i64 (-1:Int)]
 119 5 true true),some (Box.mk b [int i64 aA,slice aH aG aI,slice aJ aE aK] 30 3 true true)]=[some (Box.mk ai [int i64 (-1:Int),int i64 aa,int i64 ab,int i64 (-1:Int),int i64 (-1:Int)]
 119 5 true true),some (Box.mk bb [au,av,aw,ax,ay,az,a0,a1,a2,a3,a4,a5,a6,ah,a7,a8] 57 16 false true),some (Box.mk ag [int i64 (-1:Int),int i64 aa,int i64 (-1:Int),int i64 (-1:Int),int i64 (-1
 : Int)] 119 5 true true),some (Box.mk ar [v,ae] 42 2 false true),some (Box.mk ad [int i64 (-1:Int),int i64 (-1:Int),int i64 (-1:Int),int i64 (-1:Int),int i64 (-1:Int)] 119 5 true true),some (Box.mk b
 [int i64 aA,slice aH aG aI,slice aJ aE aK] 30 3 true true)]/\([none,none,none,none,none]:List (Option Tok))=[none,none,none,none,none]/\∃(n':Nat),n' < ch/\I [slice a n c,int i64
 (i64.wrap (ac+(1:Int)))] [] [slice bv bw bx] ao n'))))) ([some (Box.mk ag [int i64 (-1:Int),int i64 aa,int i64 (-1:Int),int i64 (-1:Int),int i64 (-1:Int)] 119 5 true true),some (Box.mk ar [v,
 ae] 42 2 false true),some (Box.mk ad [int i64 (-1:Int),int i64 (-1:Int),int i64 (-1:Int),int i64 (-1:Int),int i64 (-1:Int)] 119 5 true true),some (Box.mk b [int i64 aA,slice aH aG aI,slice
 aJ aE aK] 30 3 true true)]=[some (Box.mk ag [int i64 (-1:Int),int i64 aa,int i64 (-1:Int),int i64 (-1:Int),int i64 (-1:Int)] 119 5 true true),some (Box.mk ar [v,ae] 42 2 false true),some
 (Box.mk ad [int i64 (-1:Int),int i64 (-1:Int),int i64 (-1:Int),int i64 (-1:Int),int i64 (-1:Int)] 119 5 true true),some (Box.mk b [int i64 aA,slice aH aG aI,slice aJ aE aK] 30 3 true
 true)]/\([none,none,none]:List (Option Tok))=[none,none,none]/\∃(n':Nat),n' < cf/\bm [slice a n c,int i64 (i64.wrap (ab+(1:Int)))] [] [slice bq bs bt] al n'))))) ([some (Box.mk ad [int i64
 (-1:Int),int i64 (-1:Int),int i64 (-1:Int),int i64 (-1:Int),int i64 (-1:Int)] 119 5 true true),some (Box.mk b [int i64 aA,slice aH aG aI,slice aJ aE aK] 30 3 true true)]=[some
 (Box.mk ad [int i64 (-1:Int),int i64 (-1:Int),int i64 (-1:Int),int i64 (-1:Int),int i64 (-1:Int)] 119 5 true true),some (Box.mk b [int i64 aA,slice aH aG aI,slice aJ aE aK] 30 3 true
 true)]/\([none]:List (Option Tok))=[none]/\∃(n':Nat),n' < ce/\I [slice a n c,int i64 (i64.wrap (aa+(1:Int)))] [] [slice bn bo bp] ak n')))) (∃(m'':Mem),m.le m''/\m''.le af/\R (slice
 a n c) m'' [])))):CX Tryz.prog 118 #[.agg #[.int .i64 aA,.slice aH aG aI,.slice aJ aE aK]] m [] R:=
 Zad (E:=ZmE) Zak mix Tryz.func118 [.v (.agg #[.int .i64 aA,.slice aH aG aI,.slice aJ aE aK])] [] (by kernel_rfl) (Eq.mp (by kernel_rfl) h)
noncomputable def ZmF:Env:={ EB with
 joins:=(λi=>bif Nat.beq i 2 then some [(2,.bool)]else bif Nat.beq i 3 then some [(2,.bool)]else none)
 frzNew:=[1]
 exv:=(λi=>bif Nat.beq i 15 then true else false) }
theorem Zko(aA:Bool)(aB:ByteArray)(aC:Value)(m:Mem)(R:RT)(h:
 ∀(b:Nat)(m':Mem),m.le m'->m'.reads b 0 [bool aA,string aB,aC]->br aA (∃(b_1:Bool),(∃(R:RT),True/\CX Tryz.prog 177 (Array.mk [aC]) m' [] R/\Zap Shape.bool R/\∀(b_2:Bool) (m'_1
 : Mem),m'.le m'_1->R (bool b_2) m'_1 []->br b_2 ([some (Box.mk b [bool aA,string aB,aC] 89 3 true true)]=[some (Box.mk b [bool aA,string aB,aC] 89 3 true true)]/\[bool (ByteArray.toList aB ==
 ByteArray.toList bE0)]=[bool b_1]) ([some (Box.mk b [bool aA,string aB,aC] 89 3 true true)]=[some (Box.mk b [bool aA,string aB,aC] 89 3 true true)]/\[bool false]=[bool
 b_1]))/\∃(m'':Mem),m.le m''/\m''.le m'/\R (bool b_1) m'' []) (∃(b_1:Bool),(∃(v:Value),ZnC Tryz.prog 120 [aC] v/\chk (ZaP u64 v&&decide (u64=u64)) (br (intOf v == (0:Int))
 ([some (Box.mk b [bool aA,string aB,aC] 89 3 true true)]=[some (Box.mk b [bool aA,string aB,aC] 89 3 true true)]/\[bool (decide ((↑(ByteArray.size aB):Int)<=(512:Int)))]=[bool b_1]) ([some
 (Box.mk b [bool aA,string aB,aC] 89 3 true true)]=[some (Box.mk b [bool aA,string aB,aC] 89 3 true true)]/\[bool false]=[bool b_1])))/\∃(m'':Mem),m.le m''/\m''.le m'/\R (bool b_1) m''
 [])):CX Tryz.prog 147 #[.agg #[.bool aA,.string aB,aC]] m [] R:=
 Zad (E:=ZmF) Zak mix Tryz.func147 [.v (.agg #[.bool aA,.string aB,aC])] [] (by kernel_rfl) (Eq.mp (by kernel_rfl) h)
noncomputable def Zdc:Env:={ EB with
 joins:=(λi=>bif Nat.beq i 1 then some [(3,.bool)]else none)
 frzNew:=[2] }
theorem Zc5(aA:Int)(aB:ByteArray)(aC aD:Int)(aR:Value)(aM:ByteArray)(aQ:Int)(aO:Option Addr)(aN aP c0b c0o:Nat)(m:Mem)(R:RT)(h:
 ∀(b:Nat)(m':Mem),m.le m'->m'.reads b 0 [int u8 aA,string aB,int i64 aC,int u8 aD,aR,string aM,int i64 aQ,slice aO aN aP]->∃(b_1:Bool),(∃(v:Value),m' c0b (c0o+1) =
 some v/\chk (Zgw v&&true) (br (ByteArray.toList (Zb9 v) == ByteArray.toList aB) (∃(v:Value),m' c0b (c0o+2)=some v/\chk (ZaP i64 v&&decide (i64=i64)) (br (intOf v == aC) (br (aA == (4:
 Int)) ([some (Box.mk b [int u8 aA,string aB,int i64 aC,int u8 aD,aR,string aM,int i64 aQ,slice aO aN aP] 143 8 true true)]=[some (Box.mk b [int u8 aA,string aB,int i64 aC,int u8
 aD,aR,string aM,int i64 aQ,slice aO aN aP] 143 8 true true)]/\[bool true]=[bool b_1]) (∃v v_1 v_2 v_3 v_4:Value,m'.reads c0b (c0o +
 3) [v,v_1,v_2,v_3,v_4]/\∃(R:RT),True/\CX Tryz.prog 115 (Array.mk [agg (Array.mk [v,v_1,v_2,v_3,v_4]),agg (Array.mk [int u8 0,Value.float .f64 0,string bE0,int i64 0,
 slice none 0 0])]) m' [] R/\Zap Shape.bool R/\∀(b_2:Bool)(m'_1:Mem),m'.le m'_1->R (bool b_2) m'_1 []->[some (Box.mk b [int u8 aA,string aB,int i64 aC,int u8 aD,aR,string aM,int i64
 aQ,slice aO aN aP] 143 8 true true)]=[some (Box.mk b [int u8 aA,string aB,int i64 aC,int u8 aD,aR,string aM,int i64 aQ,slice aO aN aP] 143 8 true true)]/\[bool b_2]=[bool
 b_1])) ([some (Box.mk b [int u8 aA,string aB,int i64 aC,int u8 aD,aR,string aM,int i64 aQ,slice aO aN aP] 143 8 true true)]=[some (Box.mk b [int u8 aA,string aB,int i64 aC,int u8
 aD,aR,string aM,int i64 aQ,slice aO aN aP] 143 8 true true)]/\[bool false]=[bool b_1]))) ([some (Box.mk b [int u8 aA,string aB,int i64 aC,int u8 aD,aR,string aM,int i64 aQ,
 slice aO aN aP] 143 8 true true)]=[some (Box.mk b [int u8 aA,string aB,int i64 aC,int u8 aD,aR,string aM,int i64 aQ,slice aO aN aP] 143 8 true true)]/\[bool false]=[bool
 b_1])))/\∃(m'':Mem),m.le m''/\m''.le m'/\R (bool b_1) m'' []):CX Tryz.prog 189 #[.agg #[.int .u8 aA,.string aB,.int .i64 aC,.int .u8 aD,aR,.string aM,.int .i64 aQ,.slice aO aN aP],.pointer (some ⟨c0b,c0o,none⟩)] m [] R:=
 Zad (E:=Zdc) Zak mix Tryz.func189 [.v (.agg #[.int .u8 aA,.string aB,.int .i64 aC,.int .u8 aD,aR,.string aM,.int .i64 aQ,.slice aO aN aP]),.v (.pointer (some ⟨c0b,c0o,none⟩))] [] (by kernel_rfl) (Eq.mp (by kernel_rfl) h)
noncomputable def ZdQ:Env:={ EB with
 joins:=(λi=>bif Nat.beq i 4 then some [(2,.bool)]else bif Nat.beq i 6 then some [(2,.bool)]else bif Nat.beq i 8 then some [(2,.bool)]else bif Nat.beq i 10 then some [(2,.bool)]else none)
 frzNew:=[1] }
theorem ZdA(aA:Int)(aB:ByteArray)(aC aD:Int)(aR:Value)(aM:ByteArray)(aQ:Int)(aO:Option Addr)(aN aP:Nat)(m:Mem)(R:RT)(h:
 ∀(b:Nat)(m':Mem),m.le m'->m'.reads b 0 [int u8 aA,string aB,int i64 aC,int u8 aD,aR,string aM,int i64 aQ,slice aO aN aP]->br (aA == (1:Int)) (∃(aa:Bool),br (decide
 ((↑(ByteArray.size aB):Int) > (0:Int))) (br (decide ((↑(ByteArray.size aB):Int)<=(512:Int))) (∃(R:RT),True/\CX Tryz.prog 189 (Array.mk [agg (Array.mk [int u8 aA,string aB,int i64 0,int u8 0,
 Value.float .f64 0,string bE0,int i64 0,slice none 0 0]),Value.pointer (some (Addr.mk b 0 none))]) m' [] R/\Zap Shape.bool R/\∀(ac:Bool)(ab:Mem),m'.le ab->R (bool ac)
 ab []->[some (Box.mk b [int u8 aA,string aB,int i64 aC,int u8 aD,aR,string aM,int i64 aQ,slice aO aN aP] 143 8 true true)]=[some (Box.mk b [int u8 aA,string aB,int i64 aC,int u8
 aD,aR,string aM,int i64 aQ,slice aO aN aP] 143 8 true true)]/\[bool ac]=[bool aa]) ([some (Box.mk b [int u8 aA,string aB,int i64 aC,int u8 aD,aR,string aM,int i64 aQ,slice
 aO aN aP] 143 8 true true)]=[some (Box.mk b [int u8 aA,string aB,int i64 aC,int u8 aD,aR,string aM,int i64 aQ,slice aO aN aP] 143 8 true true)]/\[bool false]=[bool aa]))
 ([some (Box.mk b [int u8 aA,string aB,int i64 aC,int u8 aD,aR,string aM,int i64 aQ,slice aO aN aP] 143 8 true true)]=[some (Box.mk b [int u8 aA,string aB,int i64 aC,int u8 aD,
 aR,string aM,int i64 aQ,slice aO aN aP] 143 8 true true)]/\[bool false]=[bool aa])/\∃(m'':Mem),m.le m''/\m''.le m'/\R (bool aa) m'' []) (br (aA == (2:Int)) (∃(aa:Bool),(∃(R:
 RT),True/\CX Tryz.prog 146 (Array.mk [string aB]) m' [] R/\Zap Shape.bool R/\∀(ac:Bool)(ab:Mem),m'.le ab->R (bool ac) ab []->br ac (∃(R:RT),True/\CX Tryz.prog 189 (Array.mk [agg (Array.mk [int
 u8 aA,string aB,int i64 0,int u8 0,Value.float .f64 0,string bE0,int i64 0,slice none 0 0]),Value.pointer (some (Addr.mk b 0 none))]) ab [] R/\Zap Shape.bool R/\∀(ad:
 Bool) (m':Mem),ab.le m'->R (bool ad) m' []->[some (Box.mk b [int u8 aA,string aB,int i64 aC,int u8 aD,aR,string aM,int i64 aQ,slice aO aN aP] 143 8 true true)]=[some (Box.mk b
 [int u8 aA,string aB,int i64 aC,int u8 aD,aR,string aM,int i64 aQ,slice aO aN aP] 143 8 true true)]/\[bool ad]=[bool aa]) ([some (Box.mk b [int u8 aA,string aB,int i64 aC,int u8
 aD,aR,string aM,int i64 aQ,slice aO aN aP] 143 8 true true)]=[some (Box.mk b [int u8 aA,string aB,int i64 aC,int u8 aD,aR,string aM,int i64 aQ,slice aO aN aP] 143 8
 true true)]/\[bool false]=[bool aa]))/\∃(m'':Mem),m.le m''/\m''.le m'/\R (bool aa) m'' []) (br (aA == (3:Int)) (∃(aa:Bool),br (decide (aC ≥ (0:Int))) (br (decide (aC<=(9:Int))) (∃(R:
 RT),True/\CX Tryz.prog 189 (Array.mk [agg (Array.mk [int u8 aA,string bE0,int i64 aC,int u8 0,Value.float .f64 0,string bE0,int i64 0,slice none 0
 0]),Value.pointer (some (Addr.mk b 0 none))]) m' [] R/\Zap Shape.bool R/\∀(ac:Bool)(ab:Mem),m'.le ab->R (bool ac) ab []->[some (Box.mk b [int u8 aA,string aB,int i64 aC,int u8 aD,aR,
 string aM,int i64 aQ,slice aO aN aP] 143 8 true true)]=[some (Box.mk b [int u8 aA,string aB,int i64 aC,int u8 aD,aR,string aM,int i64 aQ,slice aO aN aP] 143 8 true true)]/\
 [bool ac]=[bool aa]) ([some (Box.mk b [int u8 aA,string aB,int i64 aC,int u8 aD,aR,string aM,int i64 aQ,slice aO aN aP] 143 8 true true)]=[some (Box.mk b [int u8 aA,string aB,int
 i64 aC,int u8 aD,aR,string aM,int i64 aQ,slice aO aN aP] 143 8 true true)]/\[bool false]=[bool aa])) ([some (Box.mk b [int u8 aA,string aB,int i64 aC,int u8 aD,aR,string aM,
 int i64 aQ,slice aO aN aP] 143 8 true true)]=[some (Box.mk b [int u8 aA,string aB,int i64 aC,int u8 aD,aR,string aM,int i64 aQ,slice aO aN aP] 143 8 true true)]/\[bool false]
 = [bool aa])/\∃(m'':Mem),m.le m''/\m''.le m'/\R (bool aa) m'' []) (br (aA == (4:Int)) (∃(aa:Bool),(∃(R:RT),True/\CX Tryz.prog 163 (Array.mk [agg (Array.mk [int u8 aD,aR,string aM,int
 i64 aQ,slice aO aN aP])]) m' [] R/\Zap Shape.bool R/\∀(ac:Bool)(ab:Mem),m'.le ab->R (bool ac) ab []->br ac (∃(R:RT),True/\CX Tryz.prog 189 (Array.mk [agg (Array.mk [int u8 aA,string
 bE0,int i64 0,int u8 0,Value.float .f64 0,string bE0,int i64 0,slice none 0 0]),Value.pointer (some (Addr.mk b 0 none))]) ab [] R/\Zap Shape.bool R/\∀
 (ad:Bool) (m':Mem),ab.le m'->R (bool ad) m' []->[some (Box.mk b [int u8 aA,string aB,int i64 aC,int u8 aD,aR,string aM,int i64 aQ,slice aO aN aP] 143 8 true true)]=[some
 (Box.mk b [int u8 aA,string aB,int i64 aC,int u8 aD,aR,string aM,int i64 aQ,slice aO aN aP] 143 8 true true)]/\[bool ad]=[bool aa]) ([some (Box.mk b [int u8 aA,string aB,int i64
 aC,int u8 aD,aR,string aM,int i64 aQ,slice aO aN aP] 143 8 true true)]=[some (Box.mk b [int u8 aA,string aB,int i64 aC,int u8 aD,aR,string aM,int i64 aQ,slice aO aN
 aP] 143 8 true true)]/\[bool false]=[bool aa]))/\∃(m'':Mem),m.le m''/\m''.le m'/\R (bool aa) m'' []) (∃(m'':Mem),m.le m''/\m''.le m'/\R (bool false) m'' []))))):CX Tryz.prog 172 #[.agg #[.int .u8 aA,.string aB,.int .i64 aC,.int .u8 aD,aR,.string aM,.int .i64 aQ,.slice aO aN aP]] m [] R:=
 Zad (E:=ZdQ) Zak mix Tryz.func172 [.v (.agg #[.int .u8 aA,.string aB,.int .i64 aC,.int .u8 aD,aR,.string aM,.int .i64 aQ,.slice aO aN aP])] [] (by kernel_rfl) (Eq.mp (by kernel_rfl) h)
noncomputable def Zkp:Env:={ EB with
 loops:=(λi=>bif Nat.beq i 3 then⟨[(3,.int .i64),(8,.int .i64)],[],[],false⟩ else⟨[],[],[],false⟩)
 ldF:=(λi=>bif Nat.beq i 13 then some (.fn)else none) }
theorem Ziq(p0a:Option Addr)(p0n p0c:Nat)(m:Mem)(R:RT)(h:
 ∃(I:IT),(∃(n:Nat),I [int i64 0,int i64 0] [] [] m n)/\∀(n n_1:Int)(m':Mem)(n_2:Nat),m.le m'->I [int i64 n,int i64 n_1] [] [] m' n_2->br (decide (n_1 < (↑p0n:Int))) (∃(b:Nat),∃(o:Nat),
 p0a=some (Addr.mk b o none)/\Zaf n_1 p0n/\∃v v_1:Value,m'.reads b (o+Int.toNat n_1*2) [v,v_1]/\∀(b:Nat),chk (v.oneCell'&&(v_1.oneCell'&&true)) (∃(g:Nat),∃(fi
 : List Value),∃(ca:List Value),v_1=func (Fn.func g) (Array.mk fi) (Array.mk ca)/\∃(R_1:RT),True/\CX Tryz.prog g (Array.mk (List.append (List.append fi []) ca)) m' [] R_1/\Zap Shape.bool R_1/\∀(b:Bool)
 (m'_1:Mem),m'.le m'_1->R_1 (bool b) m'_1 []->br b (∃(m'':Mem),m.le m''/\m''.le m'_1/\R v m'' []) (∃(n':Nat),n' < n_2/\I [int i64 n,int i64 (i64.wrap (n_1+(1:Int)))] [] [] m'_1
 n'))) (∃(m'':Mem),m.le m''/\m''.le m'/\R (int i64 n) m'' [])):CX Tryz.prog 144 #[.slice p0a p0n p0c] m [] R:=
 Zad (E:=Zkp) Zak mix Tryz.func144 [.v (.slice p0a p0n p0c)] [] (by kernel_rfl) (Eq.mp (by kernel_rfl) h)
noncomputable def Zir:Env:={ EB with
 joins:=(λi=>bif Nat.beq i 1 then some [(6,.bool)]else none) }
theorem Zg6(p0 p1 p2:Int)(m:Mem)(R:RT)(h:
 ∃(b:Bool),br (decide (p0 ≥ p1)) ([bool (decide (p0<=p2))]=[bool b]) ([bool false]=[bool b])/\∃(m'':Mem),m.le m''/\m''.le m/\R (bool b) m'' []):CX Tryz.prog 151 #[.int .i64 p0,.int .i64 p1,.int .i64 p2] m [] R:=
 Zad (E:=Zir) Zak mix Tryz.func151 [.v (.int .i64 p0),.v (.int .i64 p1),.v (.int .i64 p2)] [] (by kernel_rfl) (Eq.mp (by kernel_rfl) h)
noncomputable def Zis:Env:={ EB with
 frzNew:=[2] }
theorem Zg7(aA:ByteArray)(aB:Bool)(aC:ByteArray)(aD:Value)(c0b c0o:Nat)(m:Mem)(R:RT)(h:
 ∀(b:Nat)(m':Mem),m.le m'->m'.reads b 0 [string aA,bool aB,string aC,aD]->∃(v:Value),m' c0b c0o=some v/\chk (Zgw v) (∃(m'':Mem),m.le m''/\m''.le m'/\R (bool
 (ByteArray.toList aA == ByteArray.toList (Zb9 v))) m'' [])):CX Tryz.prog 185 #[.agg #[.string aA,.bool aB,.string aC,aD],.pointer (some ⟨c0b,c0o,none⟩)] m [] R:=
 Zad (E:=Zis) Zak mix Tryz.func185 [.v (.agg #[.string aA,.bool aB,.string aC,aD]),.v (.pointer (some ⟨c0b,c0o,none⟩))] [] (by kernel_rfl) (Eq.mp (by kernel_rfl) h)
noncomputable def ZmG:Env:={ EB with
 joins:=(λi=>bif Nat.beq i 2 then some [(4,.bool),(5,.bool)]else none)
 frzNew:=[2,3] }
theorem Zkq(aA:Int)(aH:Option Addr)(aG aI:Nat)(aJ:Option Addr)(aE aK:Nat)(p1:ByteArray)(m:Mem)(R:RT)(h:
 ∀(b:Nat)(m':Mem),m.le m'->m'.reads b 0 [int i64 aA,slice aH aG aI,slice aJ aE aK]->∀(b_1:Nat)(m'_1:Mem),m'.le m'_1->m'_1.reads b_1 0 [string p1]->∃(R_1:RT),
 True/\CX Tryz.prog 178 (Array.mk [slice aH aG aI,func (Fn.func 185) (Array.mk []) (Array.mk [Value.pointer (some (Addr.mk b_1 0 none))])]) m'_1 [] R_1/\Zap (Shape.int i64) R_1/\∀(n:Int)(m':Mem),
 m'_1.le m'->R_1 (int i64 n) m' []->∃(b_2:Bool),∃(b_3:Bool),br (decide (n ≥ (0:Int))) (∃(b_4:Nat),∃(o:Nat),aH=some (Addr.mk b_4 o none)/\Zaf n aG/\∃(v:Value),m' b_4 (o +
 Int.toNat n*4+1+0)=some v/\[some (Box.mk b_1 [string p1] 9 1 true true),some (Box.mk b [int i64 aA,slice aH aG aI,slice aJ aE aK] 30 3 true true)]=[some (Box.mk b_1 [string p1] 9 1 true
 true),some (Box.mk b [int i64 aA,slice aH aG aI,slice aJ aE aK] 30 3 true true)]/\chk (Shape.fits Shape.bool v) ([v,bool (decide (n ≥ (0:Int)))]=[bool b_2,bool b_3])) ([some (Box.mk b_1
 [string p1] 9 1 true true),some (Box.mk b [int i64 aA,slice aH aG aI,slice aJ aE aK] 30 3 true true)]=[some (Box.mk b_1 [string p1] 9 1 true true),some (Box.mk b [int i64 aA,slice aH
 aG aI,slice aJ aE aK] 30 3 true true)]/\[bool false,bool (decide (n ≥ (0:Int)))]=[bool b_2,bool b_3])/\∃(m'':Mem),m.le m''/\m''.le m'/\R (tuple (Array.mk [bool b_2,bool b_3])) m''
 []):CX Tryz.prog 166 #[.agg #[.int .i64 aA,.slice aH aG aI,.slice aJ aE aK],.string p1] m [] R:=
 Zad (E:=ZmG) Zak mix Tryz.func166 [.v (.agg #[.int .i64 aA,.slice aH aG aI,.slice aJ aE aK]),.v (.string p1)] [] (by kernel_rfl) (Eq.mp (by kernel_rfl) h)
noncomputable def Zfj:Env:=EB
theorem ZeM(p0:ByteArray)(c0b c0o:Nat)(m:Mem)(R:RT)(h:
 ∃v v_1 v_2:Value,m.reads c0b c0o [v,v_1,v_2]/\∃(R_1:RT),True/\CX Tryz.prog 166 (Array.mk [agg (Array.mk [v,v_1,v_2]),string p0]) m [] R_1/\Zap (Shape.tup [Shape.bool,
 Shape.bool]) R_1/\∀(b b_1:Bool)(m':Mem),m.le m'->R_1 (tuple (Array.mk [bool b,bool b_1])) m' []->∃(m'':Mem),m.le m''/\m''.le m'/\R (bool !b) m'' []):CX Tryz.prog 188 #[.string p0,.pointer (some ⟨c0b,c0o,none⟩)] m [] R:=
 Zad (E:=Zfj) Zak mix Tryz.func188 [.v (.string p0),.v (.pointer (some ⟨c0b,c0o,none⟩))] [] (by kernel_rfl) (Eq.mp (by kernel_rfl) h)
noncomputable def Zg8:Env:={ EB with
 frzNew:=[2,3] }
theorem Zgf(aA:Int)(aH:Option Addr)(aG aI:Nat)(aJ:Option Addr)(aE aK:Nat)(aW:Int)(aX:Value)(aY:ByteArray)(aZ:Int)(bD:Option Addr)(bC bE:Nat)(m:Mem)(R:RT)(h:
 ∀(b:Nat)(m':Mem),m.le m'->m'.reads b 0 [int i64 aA,slice aH aG aI,slice aJ aE aK]->∀(b_1:Nat)(m'_1:Mem),m'.le m'_1->m'_1.reads b_1 0 [int u8 aW,aX,string
 aY,int i64 aZ,slice bD bC bE]->∃(R_1:RT),True/\CX Tryz.prog 187 (Array.mk [agg (Array.mk [int u8 aW,aX,string aY,int i64 aZ,slice bD bC bE])]) m'_1 [] R_1/\Zap Shape.slice R_1
 /\ ∀(a:Option Addr)(n c:Nat)(m':Mem),m'_1.le m'->R_1 (slice a n c) m' []->∃(R_2:RT),True/\CX Tryz.prog 186 (Array.mk [slice a n c,func (Fn.func 188) (Array.mk []) (Array.mk [Value.pointer (some
 (Addr.mk b 0 none))])]) m' [] R_2/\Zap Shape.bool R_2/\∀(b:Bool)(m'_2:Mem),m'.le m'_2->R_2 (bool b) m'_2 []->∃(m'':Mem),m.le m''/\m''.le m'_2/\R (bool !b) m'' []):CX Tryz.prog 167 #[.agg #[.int .i64 aA,.slice aH aG aI,.slice aJ aE aK],.agg #[.int .u8 aW,aX,.string aY,.int .i64 aZ,.slice bD bC bE]] m [] R:=
 Zad (E:=Zg8) Zak mix Tryz.func167 [.v (.agg #[.int .i64 aA,.slice aH aG aI,.slice aJ aE aK]),.v (.agg #[.int .u8 aW,aX,.string aY,.int .i64 aZ,.slice bD bC bE])] [] (by kernel_rfl) (Eq.mp (by kernel_rfl) h)
noncomputable def ZmH:Env:={ EB with
 frzNew:=[1] }
theorem Zkr(aA:Int)(aB:Value)(aC:ByteArray)(aD:Int)(aT:Option Addr)(aS aU:Nat)(m:Mem)(R:RT)(h:
 ∀(b:Nat)(m':Mem),m.le m'->m'.reads b 0 [int u8 aA,aB,string aC,int i64 aD,slice aT aS aU]->∃(R_1:RT),True/\CX Tryz.prog 115 (Array.mk [agg (Array.mk [int u8 aA,aB,string
 aC,int i64 aD,slice aT aS aU]),agg (Array.mk [int u8 0,Value.float .f64 0,string bE0,int i64 0,slice none 0 0])]) m' [] R_1/\Zap Shape.bool R_1/\∀(b:Bool)
 (m'_1:Mem),m'.le m'_1->R_1 (bool b) m'_1 []->∃(m'':Mem),m.le m''/\m''.le m'_1/\R (bool b) m'' []):CX Tryz.prog 164 #[.agg #[.int .u8 aA,aB,.string aC,.int .i64 aD,.slice aT aS aU]] m [] R:=
 Zad (E:=ZmH) Zak mix Tryz.func164 [.v (.agg #[.int .u8 aA,aB,.string aC,.int .i64 aD,.slice aT aS aU])] [] (by kernel_rfl) (Eq.mp (by kernel_rfl) h)
noncomputable def Zgg:Env:={ EB with
 frzNew:=[1] }
theorem Zfk(aA:Int)(aB aC:Bool)(aD aR aM aQ cK cL cT:Int)(bG:Option Addr)(bH bI:Nat)(bW:ByteArray)(bU:Int)(bJ:Option Addr)(bK bL:Nat)(cC:ByteArray)(cD:Int)(m:Mem)(R:RT)(h:
 ∀(b:Nat)(m':Mem),m.le m'->m'.reads b 0 [int u8 aA,bool aB,bool aC,int u8 aD,int u64 aR,int u64 aM,int u64 aQ,int u64 cK,int i64 cL,int i64 cT,slice bG bH bI,
 string bW,int i64 bU,slice bJ bK bL,string cC,int i64 cD]->br (aA == (1:Int)) (∃(R_1:RT),True/\CX Tryz.prog 182 (Array.mk [agg (Array.mk [int u8 aD,int u64 aR,int u64 aM,
 int u64 aQ,int u64 cK,int i64 cL,int i64 cT,slice bG bH bI])]) m' [] R_1/\Zap (Shape.int i64) R_1/\∀(n:Int)(m'_1:Mem),m'.le m'_1->R_1 (int i64 n) m'_1 []->∃(m'':Mem),m.le m''/\m''.le m'_1/\R (int i64 n) m'' []) (br (aA == (2:Int)) (∃(m'':Mem),m.le m''/\m''.le m'/\R (int i64 0) m'' []) (∃(m'':Mem),m.le m''/\m''.le m'/\R (int i64 (-1:Int)) m'' []))):CX Tryz.prog 170 #[.agg #[.int .u8 aA,.bool aB,.bool aC,.int .u8 aD,.int .u64 aR,.int .u64 aM,.int .u64 aQ,.int .u64 cK,.int .i64 cL,.int .i64 cT,.slice bG bH bI,.string bW,.int .i64 bU,.slice bJ bK bL,.string cC,.int .i64 cD]] m [] R:=
 Zad (E:=Zgg) Zak mix Tryz.func170 [.v (.agg #[.int .u8 aA,.bool aB,.bool aC,.int .u8 aD,.int .u64 aR,.int .u64 aM,.int .u64 aQ,.int .u64 cK,.int .i64 cL,.int .i64 cT,.slice bG bH bI,.string bW,.int .i64 bU,.slice bJ bK bL,.string cC,.int .i64 cD])] [] (by kernel_rfl) (Eq.mp (by kernel_rfl) h)
noncomputable def Zit:Env:={ EB with
 joins:=(λi=>bif Nat.beq i 1 then some [(3,.bool)]else bif Nat.beq i 7 then some [(2,.bool)]else bif Nat.beq i 8 then some [(2,.bool)]else bif Nat.beq i 11 then some [(2,.bool)]else none)
 frzNew:=[1] }
theorem Zg9(aA:Int)(aB aC:Bool)(aD aR aM aQ cK cL cT:Int)(bG:Option Addr)(bH bI:Nat)(bW:ByteArray)(bU:Int)(bJ:Option Addr)(bK bL:Nat)(cC:ByteArray)(cD:Int)(m:Mem)(R:RT)(h:
 ∀(b:Nat)(m':Mem),m.le m'->m'.reads b 0 [int u8 aA,bool aB,bool aC,int u8 aD,int u64 aR,int u64 aM,int u64 aQ,int u64 cK,int i64 cL,int i64 cT,slice bG bH bI,
 string bW,int i64 bU,slice bJ bK bL,string cC,int i64 cD]->∃(ac:Bool),br aB ([some (Box.mk b [int u8 aA,bool aB,bool aC,int u8 aD,int u64 aR,int u64 aM,int u64 aQ,
 int u64 cK,int i64 cL,int i64 cT,slice bG bH bI,string bW,int i64 bU,slice bJ bK bL,string cC,int i64 cD] 57 16 true true)]=[some (Box.mk b [int u8 aA,bool aB,
 bool aC,int u8 aD,int u64 aR,int u64 aM,int u64 aQ,int u64 cK,int i64 cL,int i64 cT,slice bG bH bI,string bW,int i64 bU,slice bJ bK bL,string cC,int i64
 cD] 57 16 true true)]/\[bool true]=[bool ac]) (br aC ([some (Box.mk b [int u8 aA,bool aB,bool aC,int u8 aD,int u64 aR,int u64 aM,int u64 aQ,int u64 cK,int i64 cL,int i64 cT,slice
 bG bH bI,string bW,int i64 bU,slice bJ bK bL,string cC,int i64 cD] 57 16 true true)]=[some (Box.mk b [int u8 aA,bool aB,bool aC,int u8 aD,int u64 aR,int u64
 aM,int u64 aQ,int u64 cK,int i64 cL,int i64 cT,slice bG bH bI,string bW,int i64 bU,slice bJ bK bL,string cC,int i64 cD] 57 16 true true)]/\[bool true]=[bool
 ac]) (∃(R:RT),True/\CX Tryz.prog 80 (Array.mk [agg (Array.mk [int u8 aD,int u64 aR,int u64 aM,int u64 aQ,int u64 cK,int i64 cL,int i64 cT,slice bG bH bI]),agg (Array.mk [int u8 0,
 int u64 0,int u64 0,int u64 0,int u64 0,int i64 0,int i64 0,slice none 0 0])]) m' [] R/\Zap Shape.bool R/\∀(aa:Bool)(ab:Mem),m'.le ab->R (bool aa) ab []->[some (Box.mk b [int u8 aA,bool aB,
 bool aC,int u8 aD,int u64 aR,int u64 aM,int u64 aQ,int u64 cK,int i64 cL,int i64 cT,slice bG bH bI,string bW,int i64 bU,slice bJ bK bL,string cC,int i64
 cD] 57 16 true true)]=[some (Box.mk b [int u8 aA,bool aB,bool aC,int u8 aD,int u64 aR,int u64 aM,int u64 aQ,int u64 cK,int i64 cL,int i64 cT,slice bG bH bI,string bW,
 int i64 bU,slice bJ bK bL,string cC,int i64 cD] 57 16 true true)]/\[bool !aa]=[bool ac]))/\br (aA == (2:Int)) (∃(aa:Bool),br (!ac) (br (bU == (0:Int)) (∃(R:RT),True/\CX
 Tryz.prog 151 (Array.mk [int i64 (↑(ByteArray.size bW):Int),int i64 1,int i64 64]) m' [] R/\Zap Shape.bool R/\∀(ad:Bool)(ab:Mem),m'.le ab->R (bool ad) ab []->[some (Box.mk b [int u8 aA,bool
 aB,bool aC,int u8 aD,int u64 aR,int u64 aM,int u64 aQ,int u64 cK,int i64 cL,int i64 cT,slice bG bH bI,string bW,int i64 bU,slice bJ bK bL,string cC,int
 i64 cD] 57 16 true true)]=[some (Box.mk b [int u8 aA,bool aB,bool aC,int u8 aD,int u64 aR,int u64 aM,int u64 aQ,int u64 cK,int i64 cL,int i64 cT,slice bG bH bI,string
 bW,int i64 bU,slice bJ bK bL,string cC,int i64 cD] 57 16 true true)]/\[bool ad]=[bool aa]) ([some (Box.mk b [int u8 aA,bool aB,bool aC,int u8 aD,int u64 aR,int u64 aM,int
 u64 aQ,int u64 cK,int i64 cL,int i64 cT,slice bG bH bI,string bW,int i64 bU,slice bJ bK bL,string cC,int i64 cD] 57 16 true true)]=[some (Box.mk b [int u8 aA,
 bool aB,bool aC,int u8 aD,int u64 aR,int u64 aM,int u64 aQ,int u64 cK,int i64 cL,int i64 cT,slice bG bH bI,string bW,int i64 bU,slice bJ bK bL,string cC,
 int i64 cD] 57 16 true true)]/\[bool false]=[bool aa])) ([some (Box.mk b [int u8 aA,bool aB,bool aC,int u8 aD,int u64 aR,int u64 aM,int u64 aQ,int u64 cK,int i64 cL,int i64 cT,slice
 bG bH bI,string bW,int i64 bU,slice bJ bK bL,string cC,int i64 cD] 57 16 true true)]=[some (Box.mk b [int u8 aA,bool aB,bool aC,int u8 aD,int u64 aR,int u64
 aM,int u64 aQ,int u64 cK,int i64 cL,int i64 cT,slice bG bH bI,string bW,int i64 bU,slice bJ bK bL,string cC,int i64 cD] 57 16 true true)]/\[bool false]=[bool
 aa])/\∃(m'':Mem),m.le m''/\m''.le m'/\R (bool aa) m'' []) (br (aA == (4:Int)) (∃(aa:Bool),br (!ac) (br (ByteArray.toList bW == ByteArray.toList bE0) (∃(R:RT),True/\
 CX Tryz.prog 151 (Array.mk [int i64 bU,int i64 1,int i64 1000]) m' [] R/\Zap Shape.bool R/\∀(ad:Bool)(ab:Mem),m'.le ab->R (bool ad) ab []->[some (Box.mk b [int u8 aA,bool aB,bool aC,int u8
 aD,int u64 aR,int u64 aM,int u64 aQ,int u64 cK,int i64 cL,int i64 cT,slice bG bH bI,string bW,int i64 bU,slice bJ bK bL,string cC,int i64 cD] 57 16 true
 true)]=[some (Box.mk b [int u8 aA,bool aB,bool aC,int u8 aD,int u64 aR,int u64 aM,int u64 aQ,int u64 cK,int i64 cL,int i64 cT,slice bG bH bI,string bW,int i64 bU,
 slice bJ bK bL,string cC,int i64 cD] 57 16 true true)]/\[bool ad]=[bool aa]) ([some (Box.mk b [int u8 aA,bool aB,bool aC,int u8 aD,int u64 aR,int u64 aM,int u64 aQ,int u64
 cK,int i64 cL,int i64 cT,slice bG bH bI,string bW,int i64 bU,slice bJ bK bL,string cC,int i64 cD] 57 16 true true)]=[some (Box.mk b [int u8 aA,bool aB,bool aC,
 int u8 aD,int u64 aR,int u64 aM,int u64 aQ,int u64 cK,int i64 cL,int i64 cT,slice bG bH bI,string bW,int i64 bU,slice bJ bK bL,string cC,int i64 cD] 57 16
 true true)]/\[bool false]=[bool aa])) ([some (Box.mk b [int u8 aA,bool aB,bool aC,int u8 aD,int u64 aR,int u64 aM,int u64 aQ,int u64 cK,int i64 cL,int i64 cT,slice bG bH bI,
 string bW,int i64 bU,slice bJ bK bL,string cC,int i64 cD] 57 16 true true)]=[some (Box.mk b [int u8 aA,bool aB,bool aC,int u8 aD,int u64 aR,int u64 aM,int u64 aQ,int
 u64 cK,int i64 cL,int i64 cT,slice bG bH bI,string bW,int i64 bU,slice bJ bK bL,string cC,int i64 cD] 57 16 true true)]/\[bool false]=[bool aa])/\∃(m'':Mem),
 m.le m''/\m''.le m'/\R (bool aa) m'' []) (br (aA == (3:Int)) (br ac (∃(m'':Mem),m.le m''/\m''.le m'/\R (bool false) m'' []) (∃(aa:Bool),br (ByteArray.toList bW == ByteArray.toList
 bE0) ([some (Box.mk b [int u8 aA,bool aB,bool aC,int u8 aD,int u64 aR,int u64 aM,int u64 aQ,int u64 cK,int i64 cL,int i64 cT,slice bG bH bI,string
 bW,int i64 bU,slice bJ bK bL,string cC,int i64 cD] 57 16 true true)]=[some (Box.mk b [int u8 aA,bool aB,bool aC,int u8 aD,int u64 aR,int u64 aM,int u64 aQ,int u64 cK,
 int i64 cL,int i64 cT,slice bG bH bI,string bW,int i64 bU,slice bJ bK bL,string cC,int i64 cD] 57 16 true true)]/\[bool (bU == (0:Int))]=[bool aa]) ([some (Box.mk b
 [int u8 aA,bool aB,bool aC,int u8 aD,int u64 aR,int u64 aM,int u64 aQ,int u64 cK,int i64 cL,int i64 cT,slice bG bH bI,string bW,int i64 bU,slice bJ bK bL,
 string cC,int i64 cD] 57 16 true true)]=[some (Box.mk b [int u8 aA,bool aB,bool aC,int u8 aD,int u64 aR,int u64 aM,int u64 aQ,int u64 cK,int i64 cL,int i64 cT,slice bG bH
 bI,string bW,int i64 bU,slice bJ bK bL,string cC,int i64 cD] 57 16 true true)]/\[bool false]=[bool aa])/\∃(m'':Mem),m.le m''/\m''.le m'/\R (bool aa) m'' [])) (br (aA
 == (1:Int)) (∃(aa:Bool),br (ByteArray.toList bW == ByteArray.toList bE0) ([some (Box.mk b [int u8 aA,bool aB,bool aC,int u8 aD,int u64 aR,int u64 aM,int u64 aQ,int
 u64 cK,int i64 cL,int i64 cT,slice bG bH bI,string bW,int i64 bU,slice bJ bK bL,string cC,int i64 cD] 57 16 true true)]=[some (Box.mk b [int u8 aA,bool aB,bool
 aC,int u8 aD,int u64 aR,int u64 aM,int u64 aQ,int u64 cK,int i64 cL,int i64 cT,slice bG bH bI,string bW,int i64 bU,slice bJ bK bL,string cC,int i64 cD] 57
 16 true true)]/\[bool (bU == (0:Int))]=[bool aa]) ([some (Box.mk b [int u8 aA,bool aB,bool aC,int u8 aD,int u64 aR,int u64 aM,int u64 aQ,int u64 cK,int i64 cL,int i64 cT,slice
 bG bH bI,string bW,int i64 bU,slice bJ bK bL,string cC,int i64 cD] 57 16 true true)]=[some (Box.mk b [int u8 aA,bool aB,bool aC,int u8 aD,int u64 aR,int u64
 aM,int u64 aQ,int u64 cK,int i64 cL,int i64 cT,slice bG bH bI,string bW,int i64 bU,slice bJ bK bL,string cC,int i64 cD] 57 16 true true)]/\[bool false]=[bool
 aa])/\∃(m'':Mem),m.le m''/\m''.le m'/\R (bool aa) m'' []) (∃(m'':Mem),m.le m''/\m''.le m'/\R (bool false) m'' []))))):CX Tryz.prog 157 #[.agg #[.int .u8 aA,.bool aB,.bool aC,.int .u8 aD,.int .u64 aR,.int .u64 aM,.int .u64 aQ,.int .u64 cK,.int .i64 cL,.int .i64 cT,.slice bG bH bI,.string bW,.int .i64 bU,.slice bJ bK bL,.string cC,.int .i64 cD]] m [] R:=
 Zad (E:=Zit) Zak mix Tryz.func157 [.v (.agg #[.int .u8 aA,.bool aB,.bool aC,.int .u8 aD,.int .u64 aR,.int .u64 aM,.int .u64 aQ,.int .u64 cK,.int .i64 cL,.int .i64 cT,.slice bG bH bI,.string bW,.int .i64 bU,.slice bJ bK bL,.string cC,.int .i64 cD])] [] (by kernel_rfl) (Eq.mp (by kernel_rfl) h)
noncomputable def Zha:Env:=EB
theorem Zgh(c0b c0o:Nat)(m:Mem)(R:RT)(h:
 ∃(v:Value),m c0b (c0o+0)=some v/\∃(R_1:RT),True/\CX Tryz.prog 151 (Array.mk [v,int i64 2,int i64 256]) m [] R_1/\Zap Shape.bool R_1/\∀(b:Bool)(m':Mem),m.le m'->R_1 (bool b) m' []->∃(m''
 : Mem),m.le m''/\m''.le m'/\R (bool !b) m'' []):CX Tryz.prog 150 #[.pointer (some ⟨c0b,c0o,none⟩)] m [] R:=
 Zad (E:=Zha) Zak mix Tryz.func150 [.v (.pointer (some ⟨c0b,c0o,none⟩))] [] (by kernel_rfl) (Eq.mp (by kernel_rfl) h)
noncomputable def Zhb:Env:={ EB with
 joins:=(λi=>bif Nat.beq i 1 then some [(1,.bool)]else none) }
theorem Zgi(c0b c0o:Nat)(m:Mem)(R:RT)(h:
 ∃(b:Bool),(∃(v:Value),m c0b (c0o+2)=some v/\chk (Zbi v) (∃(R:RT),True/\CX Tryz.prog 151 (Array.mk [int i64 (↑(slN v):Int),int i64 1,int i64 24]) m [] R/\Zap Shape.bool R/\∀(b_1:Bool) (m':
 Mem),m.le m'->R (bool b_1) m' []->br (!b_1) ([bool true]=[bool b]) (∃(v:Value),m' c0b (c0o+1)=some v/\chk (Zbi v) ([bool (decide ((↑(slN v):Int) > (12:Int)))]=[bool b]))))/\∃(m'':Mem),
 m.le m''/\m''.le m/\R (bool b) m'' []):CX Tryz.prog 152 #[.pointer (some ⟨c0b,c0o,none⟩)] m [] R:=
 Zad (E:=Zhb) Zak mix Tryz.func152 [.v (.pointer (some ⟨c0b,c0o,none⟩))] [] (by kernel_rfl) (Eq.mp (by kernel_rfl) h)
noncomputable def Zks:Env:={ EB with
 frzNew:=[1] }
theorem Ziu(aA:Int)(aH:Option Addr)(aG aI:Nat)(aJ:Option Addr)(aE aK:Nat)(m:Mem)(R:RT)(h:
 ∀(b:Nat)(m':Mem),m.le m'->m'.reads b 0 [int i64 aA,slice aH aG aI,slice aJ aE aK]->∀(b_1:Nat),m'.free b_1->∃(R_1:RT),True/\CX Tryz.prog 144 (Array.mk [slice (some
 (Addr.mk b_1 0 none)) 2 2]) (m'.add b_1 [int i64 300,func (Fn.func 150) (Array.mk []) (Array.mk [Value.pointer (some (Addr.mk b 0 none))]),int i64 302,func (Fn.func 152) (Array.mk []) (Array.mk [Value.pointer
 (some (Addr.mk b 0 none))])]) [] R_1/\Zap (Shape.int i64) R_1/\∀(n:Int)(m'_1:Mem),Mem.le (m'.add b_1 [int i64 300,func (Fn.func 150) (Array.mk []) (Array.mk [Value.pointer (some (Addr.mk b 0 none))]),int
 i64 302,func (Fn.func 152) (Array.mk []) (Array.mk [Value.pointer (some (Addr.mk b 0 none))])]) m'_1->R_1 (int i64 n) m'_1 []->∃(m'':Mem),m.le m''/\m''.le m'_1/\R (int i64 n) m'' []):CX Tryz.prog 137 #[.agg #[.int .i64 aA,.slice aH aG aI,.slice aJ aE aK]] m [] R:=
 Zad (E:=Zks) Zak mix Tryz.func137 [.v (.agg #[.int .i64 aA,.slice aH aG aI,.slice aJ aE aK])] [] (by kernel_rfl) (Eq.mp (by kernel_rfl) h)
noncomputable def ZdR:Env:={ EB with
 frzNew:=[2] }
theorem ZdB(aA:ByteArray)(aB:Bool)(aC:ByteArray)(aD:Value)(c0b c0o:Nat)(m:Mem)(R:RT)(h:
 ∀(b:Nat)(m':Mem),m.le m'->m'.reads b 0 [string aA,bool aB,string aC,aD]->∃(v:Value),m' c0b (c0o+0)=some v/\chk (Zgw v) (∃(m'':Mem),m.le m''/\m''.le m'/\R (bool
 (ByteArray.toList aA == ByteArray.toList (Zb9 v))) m'' [])):CX Tryz.prog 149 #[.agg #[.string aA,.bool aB,.string aC,aD],.pointer (some ⟨c0b,c0o,none⟩)] m [] R:=
 Zad (E:=ZdR) Zak mix Tryz.func149 [.v (.agg #[.string aA,.bool aB,.string aC,aD]),.v (.pointer (some ⟨c0b,c0o,none⟩))] [] (by kernel_rfl) (Eq.mp (by kernel_rfl) h)
noncomputable def ZeN:Env:=EB
theorem Zem(c0b c0o c1b c1o c2b c2o:Nat)(m:Mem)(R:RT)(h:
 ∃(v:Value),m c0b (c0o+0)=some v/\∃(R_1:RT),True/\CX Tryz.prog 146 (Array.mk [v]) m [] R_1/\Zap Shape.bool R_1/\∀(b:Bool)(m':Mem),m.le m'->R_1 (bool b) m' []->br (!b) (∃(m'':Mem),m.le m''/\m''.le m'/\R (bool true) m'' []) (∃v v_1 v_2:Value,m'.reads c0b (c0o+1) [v,v_1,v_2]/\∃(R_2:RT),True/\CX Tryz.prog 147 (Array.mk [agg (Array.mk [v,v_1,v_2])])
 m' [] R_2/\Zap Shape.bool R_2/\∀(b:Bool)(m'_1:Mem),m'.le m'_1->R_2 (bool b) m'_1 []->br (!b) (∃(m'':Mem),m.le m''/\m''.le m'_1/\R (bool true) m'' []) (∃(v:Value),m'_1 c1b (c1o+1) =
 some v/\∃(v_3:Value),m'_1 c2b c2o=some v_3/\chk (Zbi v) (chk (ZbJ v_3) (((0:Int)<=intOf v_3/\intOf v_3<=(↑(slC v):Int))/\∃(R_3:RT),True/\CX Tryz.prog 148 (Array.mk [slice (ZaU
 (slA v) 0 (slC v) 4) (Int.toNat (intOf v_3) - 0) (slC v - 0),func (Fn.func 149) (Array.mk []) (Array.mk [Value.pointer (some (Addr.mk c0b c0o none))])]) m'_1 [] R_3/\Zap Shape.bool R_3/\∀(b:Bool) (m':
 Mem),m'_1.le m'->R_3 (bool b) m' []->∃(m'':Mem),m.le m''/\m''.le m'/\R (bool b) m'' []))))):CX Tryz.prog 145 #[.pointer (some ⟨c0b,c0o,none⟩),.pointer (some ⟨c1b,c1o,none⟩),.pointer (some ⟨c2b,c2o,none⟩)] m [] R:=
 Zad (E:=ZeN) Zak mix Tryz.func145 [.v (.pointer (some ⟨c0b,c0o,none⟩)),.v (.pointer (some ⟨c1b,c1o,none⟩)),.v (.pointer (some ⟨c2b,c2o,none⟩))] [] (by kernel_rfl) (Eq.mp (by kernel_rfl) h)
noncomputable def Zgj:Env:={ EB with
 frzNew:=[2,3]
 frzAt:=(λi=>bif Nat.beq i 14 then[5]else[]) }
theorem Zfl(aA:Int)(aH:Option Addr)(aG aI:Nat)(aJ:Option Addr)(aE aK:Nat)(p1:Int)(m:Mem)(R:RT)(h:
 ∀(b:Nat)(m':Mem),m.le m'->m'.reads b 0 [int i64 aA,slice aH aG aI,slice aJ aE aK]->∀(b_1:Nat)(m'_1:Mem),m'.le m'_1->m'_1.reads b_1 0 [int i64 p1]->∃(b_2:Nat),∃
 (o:Nat),aH=some (Addr.mk b_2 o none)/\Zaf p1 aG/\∃v v_1 v_2 v_3:Value,m'_1.reads b_2 (o+Int.toNat p1*4) [v,v_1,v_2,v_3]/\∀(b_3:Nat),chk
 (v.oneCell'&&(v_1.oneCell'&&(v_2.oneCell'&&(v_3.oneCell'&&true)))) (∀(b_4:Nat),m'_1.free b_4->∀(m':Mem),Mem.le (m'_1.add b_4 [int i64 301,func (Fn.func 145) (Array.mk
 []) (Array.mk [Value.pointer (some (Addr.mk b_3 0 none)),Value.pointer (some (Addr.mk b 0 none)),Value.pointer (some (Addr.mk b_1 0 none))])]) m'->m'.reads b_3 0 [v,v_1,v_2,v_3]->∃(R_1:RT),True/\CX
 Tryz.prog 144 (Array.mk [slice (some (Addr.mk b_4 0 none)) 1 1]) m' [] R_1/\Zap (Shape.int i64) R_1/\∀(n:Int)(m'_2:Mem),m'.le m'_2->R_1 (int i64 n) m'_2 []->∃(m'':Mem),m.le m''/\m''.le m'_2
 /\ R (int i64 n) m'' [])):CX Tryz.prog 136 #[.agg #[.int .i64 aA,.slice aH aG aI,.slice aJ aE aK],.int .i64 p1] m [] R:=
 Zad (E:=Zgj) Zak mix Tryz.func136 [.v (.agg #[.int .i64 aA,.slice aH aG aI,.slice aJ aE aK]),.v (.int .i64 p1)] [] (by kernel_rfl) (Eq.mp (by kernel_rfl) h)
noncomputable def Zfm:Env:={ EB with
 frzNew:=[2] }
theorem ZeO(aA:ByteArray)(aH:Option Addr)(aG aI c0b c0o:Nat)(m:Mem)(R:RT)(h:
 ∀(b:Nat)(m':Mem),m.le m'->m'.reads b 0 [string aA,slice aH aG aI]->∃(v:Value),m' c0b (c0o+0)=some v/\chk (Zgw v) (∃(m'':Mem),m.le m''/\m''.le m'/\R (bool
 (ByteArray.toList aA == ByteArray.toList (Zb9 v))) m'' [])):CX Tryz.prog 155 #[.agg #[.string aA,.slice aH aG aI],.pointer (some ⟨c0b,c0o,none⟩)] m [] R:=
 Zad (E:=Zfm) Zak mix Tryz.func155 [.v (.agg #[.string aA,.slice aH aG aI]),.v (.pointer (some ⟨c0b,c0o,none⟩))] [] (by kernel_rfl) (Eq.mp (by kernel_rfl) h)
noncomputable def Zhc:Env:=EB
theorem Zgk(c0b c0o c1b c1o c2b c2o:Nat)(m:Mem)(R:RT)(h:
 ∃(v:Value),m c0b (c0o+0)=some v/\∃(R_1:RT),True/\CX Tryz.prog 146 (Array.mk [v]) m [] R_1/\Zap Shape.bool R_1/\∀(b:Bool)(m':Mem),m.le m'->R_1 (bool b) m' []->br (!b) (∃(m'':Mem),m.le m''/\m''.le m'/\R (bool true) m'' []) (∃(v:Value),m' c0b (c0o+1)=some v/\chk (Zbi v) (br (decide ((↑(slN v):Int) > (12:Int))) (∃(m'':Mem),m.le m''/\m''.le m'/\R (bool true) m'' []) (∃
 (v:Value),m' c1b (c1o+2)=some v/\∃(v_1:Value),m' c2b c2o=some v_1/\chk (Zbi v) (chk (ZbJ v_1) (((0:Int)<=intOf v_1/\intOf v_1<=(↑(slC v):Int))/\∃(R_2:RT),True/\CX
 Tryz.prog 154 (Array.mk [slice (ZaU (slA v) 0 (slC v) 2) (Int.toNat (intOf v_1) - 0) (slC v - 0),func (Fn.func 155) (Array.mk []) (Array.mk [Value.pointer (some (Addr.mk c0b c0o none))])]) m' [] R_2/\Zap
 Shape.bool R_2/\∀(b:Bool)(m'_1:Mem),m'.le m'_1->R_2 (bool b) m'_1 []->∃(m'':Mem),m.le m''/\m''.le m'_1/\R (bool b) m'' [])))))):CX Tryz.prog 153 #[.pointer (some ⟨c0b,c0o,none⟩),.pointer (some ⟨c1b,c1o,none⟩),.pointer (some ⟨c2b,c2o,none⟩)] m [] R:=
 Zad (E:=Zhc) Zak mix Tryz.func153 [.v (.pointer (some ⟨c0b,c0o,none⟩)),.v (.pointer (some ⟨c1b,c1o,none⟩)),.v (.pointer (some ⟨c2b,c2o,none⟩))] [] (by kernel_rfl) (Eq.mp (by kernel_rfl) h)
noncomputable def Zkt:Env:={ EB with
 frzNew:=[2,3]
 frzAt:=(λi=>bif Nat.beq i 14 then[5]else[]) }
theorem Ziv(aA:Int)(aH:Option Addr)(aG aI:Nat)(aJ:Option Addr)(aE aK:Nat)(p1:Int)(m:Mem)(R:RT)(h:
 ∀(b:Nat)(m':Mem),m.le m'->m'.reads b 0 [int i64 aA,slice aH aG aI,slice aJ aE aK]->∀(b_1:Nat)(m'_1:Mem),m'.le m'_1->m'_1.reads b_1 0 [int i64 p1]->∃(b_2:Nat),∃
 (o:Nat),aJ=some (Addr.mk b_2 o none)/\Zaf p1 aE/\∃v v_1:Value,m'_1.reads b_2 (o+Int.toNat p1*2) [v,v_1]/\∀(b_3:Nat),chk (v.oneCell'&&(v_1.oneCell' &&
 true)) (∀(b_4:Nat),m'_1.free b_4->∀(m':Mem),Mem.le (m'_1.add b_4 [int i64 303,func (Fn.func 153) (Array.mk []) (Array.mk [Value.pointer (some (Addr.mk b_3 0 none)),Value.pointer (some (Addr.mk b 0
 none)),Value.pointer (some (Addr.mk b_1 0 none))])]) m'->m'.reads b_3 0 [v,v_1]->∃(R_1:RT),True/\CX Tryz.prog 144 (Array.mk [slice (some (Addr.mk b_4 0 none)) 1 1]) m' [] R_1/\Zap (Shape.int i64) R_1/\∀
 (n:Int) (m'_2:Mem),m'.le m'_2->R_1 (int i64 n) m'_2 []->∃(m'':Mem),m.le m''/\m''.le m'_2/\R (int i64 n) m'' [])):CX Tryz.prog 138 #[.agg #[.int .i64 aA,.slice aH aG aI,.slice aJ aE aK],.int .i64 p1] m [] R:=
 Zad (E:=Zkt) Zak mix Tryz.func138 [.v (.agg #[.int .i64 aA,.slice aH aG aI,.slice aJ aE aK]),.v (.int .i64 p1)] [] (by kernel_rfl) (Eq.mp (by kernel_rfl) h)
noncomputable def Ziw:Env:={ EB with
 joins:=(λi=>bif Nat.beq i 1 then some [(1,.bool)]else none) }
theorem Zhd(c0b c0o:Nat)(m:Mem)(R:RT)(h:
 ∃(b:Bool),(∃v v_1 v_2 v_3 v_4 v_5 v_6 v_7 v_8 v_9 v_10 v_11 v_12 v_13 v_14 v_15:Value,m.reads c0b c0o [v,v_1,v_2,v_3,v_4,v_5,v_6,v_7,v_8,v_9,v_10,v_11,v_12,v_13,v_14,v_15]/\∃(R:RT),True/\CX Tryz.prog 157
 (Array.mk [agg (Array.mk [v,v_1,v_2,v_3,v_4,v_5,v_6,v_7,v_8,v_9,v_10,v_11,v_12,v_13,v_14,v_15])]) m [] R/\Zap Shape.bool R/\∀(b_1:Bool)(m':Mem),m.le m'->R (bool b_1) m' []->br (!b_1)
 ([bool true]=[bool b]) (∃(v:Value),m' c0b (c0o+13)=some v/\chk (Zbi v) ([bool (decide ((↑(slN v):Int) > (8:Int)))]=[bool b])))/\∃(m'':Mem),m.le m''/\m''.le m/\R (bool b) m'' []):CX Tryz.prog 156 #[.pointer (some ⟨c0b,c0o,none⟩)] m [] R:=
 Zad (E:=Ziw) Zak mix Tryz.func156 [.v (.pointer (some ⟨c0b,c0o,none⟩))] [] (by kernel_rfl) (Eq.mp (by kernel_rfl) h)
noncomputable def Zix:Env:={ EB with
 joins:=(λi=>bif Nat.beq i 1 then some [(2,.bool)]else none) }
theorem Zhe(c0b c0o c1b c1o:Nat)(m:Mem)(R:RT)(h:
 ∃(b:Bool),(∃(v:Value),m c0b (c0o+0)=some v/\chk (ZaP u8 v&&decide (u8=u8)) (br (intOf v == (1:Int)) (∃v v_1 v_2 v_3 v_4 v_5 v_6 v_7 v_8 v_9:Value,m.reads c0b (c0o+1) [v,v_1,v_2,v_3,v_4,v_5,v_6,v_7,v_8,v_9]/\∃(R:RT),True/\CX Tryz.prog 159 (Array.mk [agg (Array.mk [v,
 v_1,v_2,v_3,v_4,v_5,v_6,v_7,v_8,v_9])]) m [] R/\Zap (Shape.int i64) R/\∀(n:Int)(m':Mem),m.le m'->R (int i64 n) m' []->br (!n == (0:Int)) ([bool true]=[bool b]) (∃(v:Value),m' c1b c1o =
 some v/\chk (ZaP i64 v&&decide (i64=i64)) ([bool (decide (intOf v > (600:Int)))]=[bool b]))) ([bool false]=[bool b])))/\∃(m'':Mem),m.le m''/\m''.le m/\R (bool b) m'' []):CX Tryz.prog 158 #[.pointer (some ⟨c0b,c0o,none⟩),.pointer (some ⟨c1b,c1o,none⟩)] m [] R:=
 Zad (E:=Zix) Zak mix Tryz.func158 [.v (.pointer (some ⟨c0b,c0o,none⟩)),.v (.pointer (some ⟨c1b,c1o,none⟩))] [] (by kernel_rfl) (Eq.mp (by kernel_rfl) h)
noncomputable def Ziy:Env:={ EB with
 joins:=(λi=>bif Nat.beq i 4 then some [(2,.bool)]else none) }
theorem Zhf(c0b c0o c1b c1o:Nat)(m:Mem)(R:RT)(h:
 ∃v v_1 v_2:Value,m.reads c0b c0o [v,v_1,v_2]/\∃(v_3:Value),m c1b (c1o+14)=some v_3/\∃(R_1:RT),True/\CX Tryz.prog 161 (Array.mk [agg (Array.mk [v,v_1,v_2]),v_3]) m
 [] R_1/\Zap (Shape.tup [Shape.int i64,Shape.bool]) R_1/\∀(n:Int)(b:Bool)(m':Mem),m.le m'->R_1 (tuple (Array.mk [int i64 n,bool b])) m' []->∃(v:Value),m' c1b (c1o+14)=some v/\chk (Zgw v &&
 true) (br (ByteArray.toList (Zb9 v) == ByteArray.toList bE0) (∃(v:Value),m' c1b (c1o+15)=some v/\∃(R_2:RT),True/\CX Tryz.prog 151 (Array.mk [v,int i64 0,int i64 255]) m' [] R_2
 /\ Zap Shape.bool R_2/\∀(b:Bool)(m'_1:Mem),m'.le m'_1->R_2 (bool b) m'_1 []->∃(m'':Mem),m.le m''/\m''.le m'_1/\R (bool !b) m'' []) (∃(b_1:Bool),br (!b) ([bool true]=[bool b_1]) (∃(v:
 Value),m' c1b (c1o+15)=some v/\chk (ZaP i64 v&&decide (i64=i64)) ([bool !intOf v == (0:Int)]=[bool b_1]))/\∃(m'':Mem),m.le m''/\m''.le m'/\R (bool b_1) m'' []))):CX Tryz.prog 160 #[.pointer (some ⟨c0b,c0o,none⟩),.pointer (some ⟨c1b,c1o,none⟩)] m [] R:=
 Zad (E:=Ziy) Zak mix Tryz.func160 [.v (.pointer (some ⟨c0b,c0o,none⟩)),.v (.pointer (some ⟨c1b,c1o,none⟩))] [] (by kernel_rfl) (Eq.mp (by kernel_rfl) h)
noncomputable def ZmI:Env:={ EB with
 frzNew:=[3,4,5] }
theorem Zku(aA:Int)(aH:Option Addr)(aG aI:Nat)(aJ:Option Addr)(aE aK:Nat)(aW:Int)(aX aY:Bool)(aZ bZ cA cB gI gJ gK:Int)(eM:Option Addr)(eN eP:Nat)(fG:ByteArray)(fH:Int)(eQ:Option Addr)(eR eS:Nat)(fI:ByteArray)(fJ p2:Int)(m:Mem)(R:RT)(h:
 ∀(b:Nat)(m':Mem),m.le m'->m'.reads b 0 [int i64 aA,slice aH aG aI,slice aJ aE aK]->∀(b_1:Nat)(m'_1:Mem),m'.le m'_1->m'_1.reads b_1 0 [int u8 aW,bool aX,bool
 aY,int u8 aZ,int u64 bZ,int u64 cA,int u64 cB,int u64 gI,int i64 gJ,int i64 gK,slice eM eN eP,string fG,int i64 fH,slice eQ eR eS,string fI,int i64 fJ]->
 ∀(b_2:Nat)(m':Mem),m'_1.le m'->m'.reads b_2 0 [int i64 p2]->∀(b_3:Nat),m'.free b_3->∃(R_1:RT),True/\CX Tryz.prog 144 (Array.mk [slice (some (Addr.mk b_3 0 none)) 3 3]) (m'.add b_3 [int
 i64 304,func (Fn.func 156) (Array.mk []) (Array.mk [Value.pointer (some (Addr.mk b_1 0 none))]),int i64 305,func (Fn.func 158) (Array.mk []) (Array.mk [Value.pointer (some (Addr.mk b_1 0 none)),Value.pointer (some
 (Addr.mk b_2 0 none))]),int i64 306,func (Fn.func 160) (Array.mk []) (Array.mk [Value.pointer (some (Addr.mk b 0 none)),Value.pointer (some (Addr.mk b_1 0 none))])]) [] R_1/\Zap (Shape.int i64) R_1/\∀(n:Int)
 (m'_2:Mem),Mem.le (m'.add b_3 [int i64 304,func (Fn.func 156) (Array.mk []) (Array.mk [Value.pointer (some (Addr.mk b_1 0 none))]),int i64 305,func (Fn.func 158) (Array.mk []) (Array.mk [Value.pointer (some
 (Addr.mk b_1 0 none)),Value.pointer (some (Addr.mk b_2 0 none))]),int i64 306,func (Fn.func 160) (Array.mk []) (Array.mk [Value.pointer (some (Addr.mk b 0 none)),Value.pointer (some (Addr.mk b_1 0 none))])]) m'_2->
 R_1 (int i64 n) m'_2 []->∃(m'':Mem),m.le m''/\m''.le m'_2/\R (int i64 n) m'' []):CX Tryz.prog 139 #[.agg #[.int .i64 aA,.slice aH aG aI,.slice aJ aE aK],.agg #[.int .u8 aW,.bool aX,.bool aY,.int .u8 aZ,.int .u64 bZ,.int .u64 cA,.int .u64 cB,.int .u64 gI,.int .i64 gJ,.int .i64 gK,.slice eM eN eP,.string fG,.int .i64 fH,.slice eQ eR eS,.string fI,.int .i64 fJ],.int .i64 p2] m [] R:=
 Zad (E:=ZmI) Zak mix Tryz.func139 [.v (.agg #[.int .i64 aA,.slice aH aG aI,.slice aJ aE aK]),.v (.agg #[.int .u8 aW,.bool aX,.bool aY,.int .u8 aZ,.int .u64 bZ,.int .u64 cA,.int .u64 cB,.int .u64 gI,.int .i64 gJ,.int .i64 gK,.slice eM eN eP,.string fG,.int .i64 fH,.slice eQ eR eS,.string fI,.int .i64 fJ]),.v (.int .i64 p2)] [] (by kernel_rfl) (Eq.mp (by kernel_rfl) h)
noncomputable def Zgl:Env:={ EB with
 joins:=(λi=>bif Nat.beq i 1 then some [(2,.bool)]else none)
 gb:=true
 ldF:=(λi=>bif Nat.beq i 19 then some (.bool)else bif Nat.beq i 28 then some (.bool)else bif Nat.beq i 37 then some (.bool)else none) }
theorem Zfn(c0b c0o c1b c1o:Nat)(m:Mem)(R:RT)(h:
 ∃(b:Bool),(∃(v:Value),m c0b (c0o+0)=some v/\chk (ZaP u8 v) (∃(R:RT),True/\CX Tryz.prog 151 (Array.mk [int i64 (i64.wrap (intOf v)),int i64 1,int i64 3]) m [] R/\Zap Shape.bool R/\
 ∀(ao:Bool)(m':Mem),m.le m'->R (bool ao) m' []->br (!ao) ([bool true]=[bool b]) (∃(v:Value),m' c0b (c0o+0)=some v/\chk (ZaP u8 v&&decide (u8=u8)) (br (intOf v == (1:Int)) (∃(v:
 Value),m' c0b (c0o+1)=some v/\chk (Zgw v&&true) (br (!ByteArray.toList (Zb9 v) == ByteArray.toList bE0) ([bool true]=[bool b]) (∃(v:Value),m' c1b c1o=some v/\∃(an:Bool),
 v=bool an/\br an (∃(v:Value),m' c0b (c0o+2)=some v/\chk (Zbi v) (br (decide ((↑(slN v):Int) > (0:Int))) ([bool true]=[bool b]) (∃(v:Value),m' c1b c1o=some v/\∃(ah:Bool),v=bool ah/\br ah
 (∃v ab ac ad ae:Value,m'.reads c0b (c0o+3) [v,ab,ac,ad,ae]/\∃(R:RT),True/\CX Tryz.prog 163 (Array.mk [agg (Array.mk [v,ab,ac,ad,ae])]) m' []
 R/\Zap Shape.bool R/\∀(af:Bool)(aa:Mem),m'.le aa->R (bool af) aa []->br (!af) ([bool true]=[bool b]) (∃(v:Value),aa c1b c1o=some v/\∃(ag:Bool),v=bool ag/\br (!ag) (∃v ai aj ak al:Value,aa.reads c0b (c0o+3) [v,ai,aj,ak,al]/\∃(R:RT),True/\CX Tryz.prog 164 (Array.mk [agg (Array.mk [v,ai,aj,ak,al])]) aa [] R/\Zap Shape.bool R/\
 ∀(am:Bool)(m':Mem),aa.le m'->R (bool am) m' []->br (!am) ([bool true]=[bool b]) (∃(v:Value),m' c0b (c0o+2)=some v/\chk (Zbi v) ([bool (decide ((↑(slN v):Int) > (16:Int)))]=[bool b]))) (∃
 (v:Value),aa c0b (c0o+2)=some v/\chk (Zbi v) ([bool (decide ((↑(slN v):Int) > (16:Int)))]=[bool b])))) (∃(v:Value),m' c1b c1o=some v/\∃(af:Bool),v=bool af/\br (!af) (∃v ab ac ad ae:Value,m'.reads c0b (c0o+3) [v,ab,ac,ad,ae]/\∃(R:RT),True/\CX Tryz.prog 164 (Array.mk [agg (Array.mk [v,ab,ac,ad,ae])]) m' [] R/\Zap Shape.bool R/\
 ∀(ag:Bool)(aa:Mem),m'.le aa->R (bool ag) aa []->br (!ag) ([bool true]=[bool b]) (∃(v:Value),aa c0b (c0o+2)=some v/\chk (Zbi v) ([bool (decide ((↑(slN v):Int) > (16:Int)))]=[bool b]))) (∃
 (v:Value),m' c0b (c0o+2)=some v/\chk (Zbi v) ([bool (decide ((↑(slN v):Int) > (16:Int)))]=[bool b])))))) (∃(v:Value),m' c1b c1o=some v/\∃(ah:Bool),v=bool ah/\br ah (∃v ab ac ad ae:Value,m'.reads c0b (c0o+3) [v,ab,ac,ad,ae]/\∃(R:RT),True/\CX Tryz.prog 163 (Array.mk [agg (Array.mk [v,ab,ac,ad,ae])]) m' [] R/\Zap Shape.bool R/\
 ∀(af:Bool)(aa:Mem),m'.le aa->R (bool af) aa []->br (!af) ([bool true]=[bool b]) (∃(v:Value),aa c1b c1o=some v/\∃(ag:Bool),v=bool ag/\br (!ag) (∃v ai aj ak al:Value,aa.reads c0b (c0o+3) [v,ai,aj,ak,al]/\∃(R:RT),True/\CX Tryz.prog 164 (Array.mk [agg (Array.mk [v,ai,aj,ak,al])]) aa [] R/\Zap Shape.bool R/\∀(am:Bool) (m':
 Mem),aa.le m'->R (bool am) m' []->br (!am) ([bool true]=[bool b]) (∃(v:Value),m' c0b (c0o+2)=some v/\chk (Zbi v) ([bool (decide ((↑(slN v):Int) > (16:Int)))]=[bool b]))) (∃(v:Value),aa c0b
 (c0o+2)=some v/\chk (Zbi v) ([bool (decide ((↑(slN v):Int) > (16:Int)))]=[bool b])))) (∃(v:Value),m' c1b c1o=some v/\∃(af:Bool),v=bool af/\br (!af) (∃v ab ac ad ae:Value,m'.reads c0b (c0o+3) [v,ab,ac,ad,ae]/\∃(R:RT),True/\CX Tryz.prog 164 (Array.mk [agg (Array.mk [v,ab,ac,ad,ae])]) m' [] R/\Zap Shape.bool R/\∀(ag:Bool)
 (aa:Mem),m'.le aa->R (bool ag) aa []->br (!ag) ([bool true]=[bool b]) (∃(v:Value),aa c0b (c0o+2)=some v/\chk (Zbi v) ([bool (decide ((↑(slN v):Int) > (16:Int)))]=[bool b]))) (∃(v:Value),m'
 c0b (c0o+2)=some v/\chk (Zbi v) ([bool (decide ((↑(slN v):Int) > (16:Int)))]=[bool b]))))))) (∃(v:Value),m' c1b c1o=some v/\∃(an:Bool),v=bool an/\br an (∃(v:Value),m' c0b (c0o+2)=some v
 /\ chk (Zbi v) (br (decide ((↑(slN v):Int) > (0:Int))) ([bool true]=[bool b]) (∃(v:Value),m' c1b c1o=some v/\∃(ah:Bool),v=bool ah/\br ah (∃v ab ac ad ae:Value,m'.reads c0b (c0o+3) [v,ab,ac,ad,ae]/\∃(R:RT),True/\CX Tryz.prog 163 (Array.mk [agg (Array.mk [v,ab,ac,ad,ae])]) m' [] R/\Zap Shape.bool R/\∀(af:Bool)(aa:Mem),m'.le aa->R (bool af) aa []->br (!af) ([bool true]=[bool b]) (∃(v:Value),aa c1b c1o=some v/\∃(ag:Bool),v=bool ag/\br (!ag) (∃v ai aj ak al:Value,aa.reads c0b (c0o+3) [v,ai,aj,ak,al]/\∃(R:RT),True/\CX Tryz.prog 164 (Array.mk [agg (Array.mk [v,ai,aj,ak,al])]) aa [] R/\Zap Shape.bool R/\∀(am:Bool)(m':Mem),aa.le m'->R (bool am) m'
 []->br (!am) ([bool true]=[bool b]) (∃(v:Value),m' c0b (c0o+2)=some v/\chk (Zbi v) ([bool (decide ((↑(slN v):Int) > (16:Int)))]=[bool b]))) (∃(v:Value),aa c0b (c0o+2)=some v/\chk (Zbi v)
 ([bool (decide ((↑(slN v):Int) > (16:Int)))]=[bool b])))) (∃(v:Value),m' c1b c1o=some v/\∃(af:Bool),v=bool af/\br (!af) (∃v ab ac ad ae:Value,m'.reads c0b (c0o+3) [v,ab,ac,ad,ae]/\∃(R:RT),True/\CX Tryz.prog 164 (Array.mk [agg (Array.mk [v,ab,ac,ad,ae])]) m' [] R/\Zap Shape.bool R/\∀(ag:Bool)(aa:Mem),m'.le aa->R (bool ag) aa
 []->br (!ag) ([bool true]=[bool b]) (∃(v:Value),aa c0b (c0o+2)=some v/\chk (Zbi v) ([bool (decide ((↑(slN v):Int) > (16:Int)))]=[bool b]))) (∃(v:Value),m' c0b (c0o+2)=some v/\chk (Zbi v)
 ([bool (decide ((↑(slN v):Int) > (16:Int)))]=[bool b])))))) (∃(v:Value),m' c1b c1o=some v/\∃(ah:Bool),v=bool ah/\br ah (∃v ab ac ad ae:Value,m'.reads c0b (c0o+3) [v,ab,ac,ad,ae]/\∃(R:RT),True/\CX Tryz.prog 163 (Array.mk [agg (Array.mk [v,ab,ac,ad,ae])]) m' [] R/\Zap Shape.bool R/\∀(af:Bool)(aa:Mem),m'.le aa->R (bool af) aa
 []->br (!af) ([bool true]=[bool b]) (∃(v:Value),aa c1b c1o=some v/\∃(ag:Bool),v=bool ag/\br (!ag) (∃v ai aj ak al:Value,aa.reads c0b (c0o +
 3) [v,ai,aj,ak,al]/\∃(R:RT),True/\CX Tryz.prog 164 (Array.mk [agg (Array.mk [v,ai,aj,ak,al])]) aa [] R/\Zap Shape.bool R/\∀(am:Bool)(m':Mem),aa.le m'->R (bool am) m' []->br (!am) ([bool
 true]=[bool b]) (∃(v:Value),m' c0b (c0o+2)=some v/\chk (Zbi v) ([bool (decide ((↑(slN v):Int) > (16:Int)))]=[bool b]))) (∃(v:Value),aa c0b (c0o+2)=some v/\chk (Zbi v) ([bool (decide ((↑(slN
 v):Int) > (16:Int)))]=[bool b])))) (∃(v:Value),m' c1b c1o=some v/\∃(af:Bool),v=bool af/\br (!af) (∃v ab ac ad ae:Value,m'.reads c0b (c0o
 + 3) [v,ab,ac,ad,ae]/\∃(R:RT),True/\CX Tryz.prog 164 (Array.mk [agg (Array.mk [v,ab,ac,ad,ae])]) m' [] R/\Zap Shape.bool R/\∀(ag:Bool)(aa:Mem),m'.le aa->R (bool ag) aa []->br (!ag) ([bool
 true]=[bool b]) (∃(v:Value),aa c0b (c0o+2)=some v/\chk (Zbi v) ([bool (decide ((↑(slN v):Int) > (16:Int)))]=[bool b]))) (∃(v:Value),m' c0b (c0o+2)=some v/\chk (Zbi v) ([bool (decide ((↑(slN
 v):Int) > (16:Int)))]=[bool b])))))))))/\∃(m'':Mem),m.le m''/\m''.le m/\R (bool b) m'' []):CX Tryz.prog 162 #[.pointer (some ⟨c0b,c0o,none⟩),.pointer (some ⟨c1b,c1o,none⟩)] m [] R:=
 Zad (E:=Zgl) Zak mix Tryz.func162 [.v (.pointer (some ⟨c0b,c0o,none⟩)),.v (.pointer (some ⟨c1b,c1o,none⟩))] [] (by kernel_rfl) (Eq.mp (by kernel_rfl) h)
noncomputable def Zgm:Env:={ EB with
 joins:=(λi=>bif Nat.beq i 2 then some [(3,.bool)]else none)
 gb:=true
 ldF:=(λi=>bif Nat.beq i 21 then some (.bool)else bif Nat.beq i 26 then some (.bool)else none) }
theorem Zfo(c0b c0o c1b c1o c2b c2o:Nat)(m:Mem)(R:RT)(h:
 ∃v v_1 v_2:Value,m.reads c0b c0o [v,v_1,v_2]/\∃(v_3:Value),m c1b (c1o+1)=some v_3/\∃(R_1:RT),True/\CX Tryz.prog 166 (Array.mk [agg (Array.mk [v,v_1,v_2]),v_3]) m
 [] R_1/\Zap (Shape.tup [Shape.bool,Shape.bool]) R_1/\∀(b b_1:Bool)(m':Mem),m.le m'->R_1 (tuple (Array.mk [bool b,bool b_1])) m' []->∃(b_2:Bool),(∃(v:Value),m' c1b (c1o+0)=some v/\chk
 (ZaP u8 v&&decide (u8=u8)) (br (!intOf v == (1:Int)) (br (!b_1) ([bool true]=[bool b_2]) (∃(v:Value),m' c2b c2o=some v/\∃(b_3:Bool),v=bool b_3/\br (!b == b_3) ([bool true]=[bool b_2]) (∃
 (v:Value),m' c2b c2o=some v/\∃(b:Bool),v=bool b/\br b (∃v v_4 v_5:Value,m'.reads c0b c0o [v,v_4,v_5]/\∃v_6 v_7 v_8 v_9 v_10:Value,m'.reads c1b (c1o+3) [v_6,v_7,v_8,v_9,v_10]/\∃(R:RT),True/\CX Tryz.prog 167 (Array.mk [agg (Array.mk [v,v_4,v_5]),agg (Array.mk [v_6,v_7,v_8,v_9,v_10])]) m' [] R/\Zap
 Shape.bool R/\∀(b:Bool)(m'_1:Mem),m'.le m'_1->R (bool b) m'_1 []->[bool !b]=[bool b_2]) ([bool false]=[bool b_2])))) (∃(v:Value),m' c2b c2o=some v/\∃(b:Bool),v=bool b/\br b (∃v v_4 v_5:Value,m'.reads c0b c0o [v,v_4,v_5]/\∃v_6 v_7 v_8 v_9 v_10:Value,m'.reads c1b (c1o+3) [v_6,v_7,v_8,v_9,v_10]
 /\ ∃(R:RT),True/\CX Tryz.prog 167 (Array.mk [agg (Array.mk [v,v_4,v_5]),agg (Array.mk [v_6,v_7,v_8,v_9,v_10])]) m' [] R/\Zap Shape.bool R/\∀(b:Bool)(m'_1:Mem),m'.le m'_1->R (bool b) m'_1 []->
 [bool !b]=[bool b_2]) ([bool false]=[bool b_2]))))/\∃(m'':Mem),m.le m''/\m''.le m'/\R (bool b_2) m'' []):CX Tryz.prog 165 #[.pointer (some ⟨c0b,c0o,none⟩),.pointer (some ⟨c1b,c1o,none⟩),.pointer (some ⟨c2b,c2o,none⟩)] m [] R:=
 Zad (E:=Zgm) Zak mix Tryz.func165 [.v (.pointer (some ⟨c0b,c0o,none⟩)),.v (.pointer (some ⟨c1b,c1o,none⟩)),.v (.pointer (some ⟨c2b,c2o,none⟩))] [] (by kernel_rfl) (Eq.mp (by kernel_rfl) h)
noncomputable def Zgn:Env:={ EB with
 dr:=(λi=>bif Nat.beq i 1 then[⟨0,[],[],none,[],[]⟩,⟨1,[],[],none,[0],[]⟩,⟨2,[],[],none,[0,1],[]⟩,⟨3,[],[],none,[0,1,2],[]⟩,⟨4,[],[],none,[0,1,2,3],[]⟩,⟨5,[],[],none,[0,1],[]⟩,⟨6,[],[],none,[0,1,2,3,4,5],[4]⟩,⟨7,[],[],none,[0,1,2,3,4,5,6],[]⟩,⟨8,[],[],none,[0,1,2,3,4,5,6,7],[]⟩,⟨9,[],[],none,[0,1,2,3,4,5,6,7,8],[]⟩]else[])
 gb:=true
 ldF:=(λi=>bif Nat.beq i 4 then some (.bool)else none) }
theorem Zfp(c0b c0o c1b c1o c2b c2o:Nat)(m:Mem)(R:RT)(h:
 ∃(f:Fx),∃(v:Value),m c0b c0o=some v/\∃(b:Bool),v=bool b/\br b (∃v v_1 v_2 v_3 v_4:Value,m.reads c1b (c1o+3) [v,v_1,v_2,v_3,v_4]/\∃
 (R_1:RT),R_1=f 4 [agg (Array.mk [v,v_1,v_2,v_3,v_4])] m/\CX Tryz.prog 169 (Array.mk [agg (Array.mk [v,v_1,v_2,v_3,v_4])]) m [] R_1/\Zap (Shape.int i64) R_1/\∀(n:Int)(m':Mem),m.le m'->R_1
 (int i64 n) m' []->∃v v_5 v_6 v_7 v_8 v_9 v_10 v_11 v_12 v_13 v_14 v_15 v_16 v_17 v_18 v_19:Value,m.reads c2b c2o [v,v_5,v_6,v_7,v_8,v_9,v_10,v_11,v_12,v_13,v_14,v_15,v_16,v_17,v_18,v_19]/\∃(R_2:RT),R_2=f 6 [agg
 (Array.mk [v,v_5,v_6,v_7,v_8,v_9,v_10,v_11,v_12,v_13,v_14,v_15,v_16,v_17,v_18,v_19])] m'/\CX Tryz.prog 170 (Array.mk [agg (Array.mk [v,v_5,v_6,v_7,v_8,v_9,v_10,v_11,v_12,v_13,v_14,v_15,v_16,
 v_17,v_18,v_19])]) m' [] R_2/\Zap (Shape.int i64) R_2/\∀(n_1:Int)(m'_1:Mem),m'.le m'_1->R_2 (int i64 n_1) m'_1 []->∀(M:Mem),m.le M->m'.le M->m'_1.le M->∃(m'':Mem),m.le m''/\
 m''.le M/\R (bool (decide (n > n_1))) m'' []) (∀(M:Mem),m.le M->m.le M->m.le M->∃(m'':Mem),m.le m''/\m''.le M/\R (bool false) m'' [])):CX Tryz.prog 168 #[.pointer (some ⟨c0b,c0o,none⟩),.pointer (some ⟨c1b,c1o,none⟩),.pointer (some ⟨c2b,c2o,none⟩)] m [] R:=
 Zad (E:=Zgn) Zak mix Tryz.func168 [.v (.pointer (some ⟨c0b,c0o,none⟩)),.v (.pointer (some ⟨c1b,c1o,none⟩)),.v (.pointer (some ⟨c2b,c2o,none⟩))] [] (by kernel_rfl) (Eq.mp (by kernel_rfl) h)
noncomputable def Ziz:Env:={ EB with
 frzNew:=[3,4,5]
 frzAt:=(λi=>bif Nat.beq i 18 then[7]else[]) }
theorem Zhg(aA:Int)(aH:Option Addr)(aG aI:Nat)(aJ:Option Addr)(aE aK:Nat)(aW:Int)(aX aY:Bool)(aZ bZ cA cB gI gJ gK:Int)(eM:Option Addr)(eN eP:Nat)(fG:ByteArray)(fH:Int)(eQ:Option Addr)(eR eS:Nat)(fI:ByteArray)(fJ cR:Int)(cM:ByteArray)(kq:Option Addr)(kr kt:Nat)(cN:Int)(cU:Value)(cY:ByteArray)(cZ:Int)(cG:Option Addr)(cH cI:Nat)(m:Mem)(R:RT)(h:
 ∀(b:Nat)(m':Mem),m.le m'->m'.reads b 0 [int i64 aA,slice aH aG aI,slice aJ aE aK]->∀(b_1:Nat)(m'_1:Mem),m'.le m'_1->m'_1.reads b_1 0 [int u8 aW,bool aX,bool
 aY,int u8 aZ,int u64 bZ,int u64 cA,int u64 cB,int u64 gI,int i64 gJ,int i64 gK,slice eM eN eP,string fG,int i64 fH,slice eQ eR eS,string fI,int i64 fJ]->
 ∀(b_2:Nat)(m':Mem),m'_1.le m'->m'.reads b_2 0 [int u8 cR,string cM,slice kq kr kt,int u8 cN,cU,string cY,int i64 cZ,slice cG cH cI]->∀(b_3 b_4:Nat),m'.free  b_4->∀(m'_2:Mem),Mem.le (m'.add b_4 [int i64 307,func (Fn.func 162) (Array.mk []) (Array.mk [Value.pointer (some (Addr.mk b_2 0 none)),Value.pointer (some (Addr.mk b_3 0 none))]),int i64 308,func (Fn.func
 165) (Array.mk []) (Array.mk [Value.pointer (some (Addr.mk b 0 none)),Value.pointer (some (Addr.mk b_2 0 none)),Value.pointer (some (Addr.mk b_3 0 none))]),int i64 309,func (Fn.func 168) (Array.mk []) (Array.mk
 [Value.pointer (some (Addr.mk b_3 0 none)),Value.pointer (some (Addr.mk b_2 0 none)),Value.pointer (some (Addr.mk b_1 0 none))])]) m'_2->m'_2.reads b_3 0 [bool (cR == (3:Int))]->∃(R_1:RT),True/\CX
 Tryz.prog 144 (Array.mk [slice (some (Addr.mk b_4 0 none)) 3 3]) m'_2 [] R_1/\Zap (Shape.int i64) R_1/\∀(n:Int)(m':Mem),m'_2.le m'->R_1 (int i64 n) m' []->∃(m'':Mem),m.le m''/\m''.le m'/\R
 (int i64 n) m'' []):CX Tryz.prog 140 #[.agg #[.int .i64 aA,.slice aH aG aI,.slice aJ aE aK],.agg #[.int .u8 aW,.bool aX,.bool aY,.int .u8 aZ,.int .u64 bZ,.int .u64 cA,.int .u64 cB,.int .u64 gI,.int .i64 gJ,.int .i64 gK,.slice eM eN eP,.string fG,.int .i64 fH,.slice eQ eR eS,.string fI,.int .i64 fJ],.agg #[.int .u8 cR,.string cM,.slice kq kr kt,.int .u8 cN,cU,.string cY,.int .i64 cZ,.slice cG cH cI]] m [] R:=
 Zad (E:=Ziz) Zak mix Tryz.func140 [.v (.agg #[.int .i64 aA,.slice aH aG aI,.slice aJ aE aK]),.v (.agg #[.int .u8 aW,.bool aX,.bool aY,.int .u8 aZ,.int .u64 bZ,.int .u64 cA,.int .u64 cB,.int .u64 gI,.int .i64 gJ,.int .i64 gK,.slice eM eN eP,.string fG,.int .i64 fH,.slice eQ eR eS,.string fI,.int .i64 fJ]),.v (.agg #[.int .u8 cR,.string cM,.slice kq kr kt,.int .u8 cN,cU,.string cY,.int .i64 cZ,.slice cG cH cI])] [] (by kernel_rfl) (Eq.mp (by kernel_rfl) h)
noncomputable def ZiA:Env:={ EB with
 joins:=(λi=>bif Nat.beq i 1 then some [(3,.bool)]else none) }
theorem Zhh(c0b c0o c1b c1o c2b c2o:Nat)(m:Mem)(R:RT)(h:
 ∃(b:Bool),(∃v v_1 v_2 v_3 v_4 v_5 v_6 v_7:Value,m.reads c0b c0o [v,v_1,v_2,v_3,v_4,v_5,v_6,v_7]/\∃(R:
 RT),True/\CX Tryz.prog 172 (Array.mk [agg (Array.mk [v,v_1,v_2,v_3,v_4,v_5,v_6,v_7])]) m [] R/\Zap Shape.bool R/\∀(b_1:Bool)(m':Mem),m.le m'->R (bool b_1) m' []->br (!b_1) ([bool true]=[bool
 b]) (∃(v:Value),m' c1b c1o=some v/\chk (ZaP i64 v&&decide (i64=i64)) (br (decide (intOf v > (0:Int))) (∃(v:Value),m' c0b (c0o+0)=some v/\chk (ZaP u8 v&&decide (u8=u8)) (br
 (intOf v == (1:Int)) (∃(v:Value),m' c2b c2o=some v/\∃(v_8:Value),m' c1b c1o=some v_8/\chk (ZaP i64 v_8&&decide (i64=i64)) (chk (Zbi v) (∃(b_2:Nat),∃(o:Nat),slA v=some (Addr.mk b_2
 o none)/\Zaf (i64.wrap (intOf v_8 - (1:Int))) (slN v)/\∃(v:Value),m' b_2 (o+Int.toNat (i64.wrap (intOf v_8 - (1:Int)))*8+0)=some v/\chk (ZaP u8 v&&decide (u8 =
 u8)) ([bool (intOf v == (1:Int))]=[bool b])))) ([bool false]=[bool b]))) ([bool false]=[bool b]))))/\∃(m'':Mem),m.le m''/\m''.le m/\R (bool b) m'' []):CX Tryz.prog 171 #[.pointer (some ⟨c0b,c0o,none⟩),.pointer (some ⟨c1b,c1o,none⟩),.pointer (some ⟨c2b,c2o,none⟩)] m [] R:=
 Zad (E:=ZiA) Zak mix Tryz.func171 [.v (.pointer (some ⟨c0b,c0o,none⟩)),.v (.pointer (some ⟨c1b,c1o,none⟩)),.v (.pointer (some ⟨c2b,c2o,none⟩))] [] (by kernel_rfl) (Eq.mp (by kernel_rfl) h)
noncomputable def ZiB:Env:={ EB with
 joins:=(λi=>bif Nat.beq i 2 then some [(2,.bool)]else none) }
theorem Zhi(c0b c0o c1b c1o:Nat)(m:Mem)(R:RT)(h:
 ∃v v_1 v_2:Value,m.reads c0b c0o [v,v_1,v_2]/\∃(v_3:Value),m c1b (c1o+1)=some v_3/\∃(R_1:RT),True/\CX Tryz.prog 166 (Array.mk [agg (Array.mk [v,v_1,v_2]),v_3]) m
 [] R_1/\Zap (Shape.tup [Shape.bool,Shape.bool]) R_1/\∀(b b_1:Bool)(m':Mem),m.le m'->R_1 (tuple (Array.mk [bool b,bool b_1])) m' []->∃(b:Bool),(∃(v:Value),m' c1b (c1o+0)=some v/\chk (ZaP
 u8 v&&decide (u8=u8)) (br (intOf v == (2:Int)) (br (!b_1) ([bool true]=[bool b]) (∃(v:Value),m' c1b (c1o+0)=some v/\chk (ZaP u8 v&&decide (u8=u8)) (br (intOf v == (4:Int)) (∃v v_4 v_5:Value,m'.reads c0b c0o [v,v_4,v_5]/\∃v_6 v_7 v_8 v_9 v_10:Value,m'.reads c1b (c1o+3) [v_6,v_7,v_8,v_9,v_10]
 /\ ∃(R:RT),True/\CX Tryz.prog 167 (Array.mk [agg (Array.mk [v,v_4,v_5]),agg (Array.mk [v_6,v_7,v_8,v_9,v_10])]) m' [] R/\Zap Shape.bool R/\∀(b_2:Bool)(m'_1:Mem),m'.le m'_1->R (bool b_2) m'_1 []
 -> [bool !b_2]=[bool b]) ([bool false]=[bool b])))) (∃(v:Value),m' c1b (c1o+0)=some v/\chk (ZaP u8 v&&decide (u8=u8)) (br (intOf v == (4:Int)) (∃v v_4 v_5:Value,m'.reads c0b c0o [v,v_4,v_5]/\∃v_6 v_7 v_8 v_9 v_10:Value,m'.reads c1b (c1o+3) [v_6,v_7,v_8,v_9,v_10]/\∃(R:RT),True/\CX Tryz.prog 167
 (Array.mk [agg (Array.mk [v,v_4,v_5]),agg (Array.mk [v_6,v_7,v_8,v_9,v_10])]) m' [] R/\Zap Shape.bool R/\∀(b_2:Bool)(m'_1:Mem),m'.le m'_1->R (bool b_2) m'_1 []->[bool !b_2]=[bool b]) ([bool
 false]=[bool b])))))/\∃(m'':Mem),m.le m''/\m''.le m'/\R (bool b) m'' []):CX Tryz.prog 173 #[.pointer (some ⟨c0b,c0o,none⟩),.pointer (some ⟨c1b,c1o,none⟩)] m [] R:=
 Zad (E:=ZiB) Zak mix Tryz.func173 [.v (.pointer (some ⟨c0b,c0o,none⟩)),.v (.pointer (some ⟨c1b,c1o,none⟩))] [] (by kernel_rfl) (Eq.mp (by kernel_rfl) h)
noncomputable def ZiC:Env:={ EB with
 dr:=(λi=>bif Nat.beq i 1 then[⟨0,[],[],none,[],[]⟩,⟨1,[],[],none,[0],[]⟩,⟨2,[],[],none,[0,1],[]⟩,⟨3,[],[],none,[0,1,2],[]⟩,⟨4,[],[],none,[0,1,2,3],[]⟩,⟨5,[],[],none,[0,1,2,3,4],[]⟩,⟨6,[],[],none,[0,1,2,3],[]⟩,⟨7,[],[],none,[0,1,2,3,6],[]⟩,⟨8,[],[],none,[0,1,2,3,4,5,6,7],[]⟩,⟨9,[],[],none,[0,1,2,3,4,5,6,7,8],[]⟩,⟨10,[],[],none,[0,1,2,3,4,5,6,7,8,9],[]⟩,⟨11,[],[],none,[0,1,2,3,4,5,6,7,8,9,10],[]⟩,⟨12,[],[],none,rg 0 12,[7]⟩,⟨13,[],[],none,rg 0 13,[]⟩,⟨14,[],[],none,rg 0 14,[]⟩,⟨15,[],[],none,rg 0 15,[]⟩,⟨16,[],[],none,rg 0 16,[7]⟩,⟨17,[],[],none,rg 0 17,[7]⟩,⟨18,[],[],none,rg 0 15,[7]⟩,⟨19,[],[],none,rg 0 19,[17]⟩,⟨20,[],[],none,rg 0 20,[]⟩,⟨21,[],[],none,rg 0 21,[]⟩,⟨22,[],[],none,rg 0 22,[]⟩,⟨23,[],[],none,rg 0 23,[]⟩]else[])
 gb:=true }
theorem Zhj(c0b c0o c1b c1o:Nat)(m:Mem)(R:RT)(h:
 ∃(f:Fx),∃(v:Value),m c0b (c0o+0)=some v/\chk (ZaP u8 v&&decide (u8=u8)) (br (intOf v == (3:Int)) (∃(v:Value),m c0b (c0o+2)=some v/\∃ab ac ad ae af ag ah ai aj ak al am an ao ap aq:Value,m.reads  c1b c1o [ab,ac,ad,ae,af,ag,ah,ai,aj,ak,al,am,an,ao,ap,aq]/\∃(R_1:RT),R_1=f 7 [agg (Array.mk [ab,ac,ad,ae,af,ag,ah,ai,aj,ak,al,am,an,ao,ap,aq])] m/\CX Tryz.prog 170 (Array.mk [agg
 (Array.mk [ab,ac,ad,ae,af,ag,ah,ai,aj,ak,al,am,an,ao,ap,aq])]) m [] R_1/\Zap (Shape.int i64) R_1/\∀(n:Int)(m':Mem),m.le m'->R_1 (int i64 n) m' []->chk (ZaP i64 v&&decide (i64=i64))
 (br (decide (intOf v > n)) (∀(M:Mem),m.le M->m'.le M->m'.le M->m'.le M->∃(m'':Mem),m.le m''/\m''.le M/\R (bool true) m'' []) (∃(v:Value),m' c0b (c0o+0)=some v/\chk
 (ZaP u8 v&&decide (u8=u8)) (br (intOf v == (4:Int)) (∃v ar au av ax:Value,m'.reads c0b (c0o+3) [v,ar,au,av,ax]/\∃(R_2:RT),R_2=f
 17 [agg (Array.mk [v,ar,au,av,ax])] m'/\CX Tryz.prog 169 (Array.mk [agg (Array.mk [v,ar,au,av,ax])]) m' [] R_2/\Zap (Shape.int i64) R_2/\∀(n:Int)(aa:Mem),m'.le aa->R_2 (int i64 n) aa []->∃v ay az a0 a1 a2 a3 a4 a5 a6 a7 a8 a9 ba bb bc:Value,m'.reads c1b c1o [v,ay,az,a0,a1,a2,a3,a4,a5,a6,a7,a8,a9,ba,bb,bc]/\∃(R_3:RT),R_3=f 19 [agg (Array.mk [v,ay,az,a0,a1,a2,a3,a4,a5,a6,a7,a8,a9,ba,bb,
 bc])] aa/\CX Tryz.prog 170 (Array.mk [agg (Array.mk [v,ay,az,a0,a1,a2,a3,a4,a5,a6,a7,a8,a9,ba,bb,bc])]) aa [] R_3/\Zap (Shape.int i64) R_3/\∀(aw:Int)(bd:Mem),aa.le bd->R_3 (int i64 aw) bd
 []->∀(M:Mem),m.le M->m'.le M->aa.le M->bd.le M->∃(m'':Mem),m.le m''/\m''.le M/\R (bool (decide (n > aw))) m'' []) (∀(M:Mem),m.le M->m'.le M->m'.le M->m'.le M
 -> ∃(m'':Mem),m.le m''/\m''.le M/\R (bool false) m'' []))))) (∃(v:Value),m c0b (c0o+0)=some v/\chk (ZaP u8 v&&decide (u8=u8)) (br (intOf v == (4:Int)) (∃v ab ac ad ae:Value,m.reads c0b (c0o+3) [v,ab,ac,ad,ae]/\∃(R_1:RT),R_1=f 17 [agg (Array.mk [v,ab,ac,ad,ae])] m/\CX Tryz.prog 169 (Array.mk [agg (Array.mk [v,ab,ac,ad,
 ae])]) m [] R_1/\Zap (Shape.int i64) R_1/\∀(n:Int)(m':Mem),m.le m'->R_1 (int i64 n) m' []->∃v af ag ah ai aj ak al am an ao ap aq ar au av:Value,m.reads c1b c1o [v,af,ag,ah,ai,aj,ak,al,am,an,ao,ap,aq,ar,
 au,av]/\∃(R_2:RT),R_2=f 19 [agg (Array.mk [v,af,ag,ah,ai,aj,ak,al,am,an,ao,ap,aq,ar,au,av])] m'/\CX Tryz.prog 170 (Array.mk [agg (Array.mk [v,af,ag,ah,ai,aj,ak,al,am,an,ao,ap,aq,ar,
 au,av])]) m' [] R_2/\Zap (Shape.int i64) R_2/\∀(aw:Int)(aa:Mem),m'.le aa->R_2 (int i64 aw) aa []->∀(M:Mem),m.le M->m.le M->m'.le M->aa.le M->∃(m'':Mem),m.le m''/\m''.le M/\R (bool (decide (n > aw))) m'' []) (∀(M:Mem),m.le M->m.le M->m.le M->m.le M->∃(m'':Mem),m.le m''/\m''.le M/\R (bool false) m'' []))))):CX Tryz.prog 174 #[.pointer (some ⟨c0b,c0o,none⟩),.pointer (some ⟨c1b,c1o,none⟩)] m [] R:=
 Zad (E:=ZiC) Zak mix Tryz.func174 [.v (.pointer (some ⟨c0b,c0o,none⟩)),.v (.pointer (some ⟨c1b,c1o,none⟩))] [] (by kernel_rfl) (Eq.mp (by kernel_rfl) h)
noncomputable def ZmJ:Env:={ EB with
 frzNew:=[4,5,6,7]
 frzAt:=(λi=>bif Nat.beq i 21 then[9]else[]) }
theorem Zkv(aA:Int)(aH:Option Addr)(aG aI:Nat)(aJ:Option Addr)(aE aK:Nat)(aW:Int)(aX aY:Bool)(aZ bZ cA cB gI gJ gK:Int)(eM:Option Addr)(eN eP:Nat)(fG:ByteArray)(fH:Int)(eQ:Option Addr)(eR eS:Nat)(fI:ByteArray)(fJ:Int)(p2a:Option Addr)(p2n p2c:Nat)(p3:Int)(m:Mem)(R:RT)(h:
 ∀(b:Nat)(m':Mem),m.le m'->m'.reads b 0 [int i64 aA,slice aH aG aI,slice aJ aE aK]->∀(b_1:Nat)(m'_1:Mem),m'.le m'_1->m'_1.reads b_1 0 [int u8 aW,bool aX,bool
 aY,int u8 aZ,int u64 bZ,int u64 cA,int u64 cB,int u64 gI,int i64 gJ,int i64 gK,slice eM eN eP,string fG,int i64 fH,slice eQ eR eS,string fI,int i64 fJ]->
 ∀(b_2:Nat)(m':Mem),m'_1.le m'->m'.reads b_2 0 [slice p2a p2n p2c]->∀(b_3:Nat)(m'_2:Mem),m'.le m'_2->m'_2.reads b_3 0 [int i64 p3]->∃(b_4:Nat),∃(o:Nat),p2a=some (Addr.mk b_4 o
 none)/\Zaf p3 p2n/\∃v v_1 v_2 v_3 v_4 v_5 v_6 v_7:Value,m'_2.reads b_4 (o+Int.toNat p3*8) [v,v_1,v_2,v_3,
 v_4,v_5,v_6,v_7]/\∀(b_5:Nat),chk (v.oneCell'&&(v_1.oneCell'&&(v_2.oneCell'&&(v_3.oneCell'&&(v_4.oneCell'&&(v_5.oneCell'&&(v_6.oneCell'&&(v_7.oneCell'
 && true)))))))) (∀(b_6:Nat),m'_2.free b_6->∀(m':Mem),Mem.le (m'_2.add b_6 [int i64 307,func (Fn.func 171) (Array.mk []) (Array.mk [Value.pointer (some (Addr.mk b_5 0 none)),Value.pointer (some
 (Addr.mk b_3 0 none)),Value.pointer (some (Addr.mk b_2 0 none))]),int i64 308,func (Fn.func 173) (Array.mk []) (Array.mk [Value.pointer (some (Addr.mk b 0 none)),Value.pointer (some (Addr.mk b_5 0 none))]),int i64
 309,func (Fn.func 174) (Array.mk []) (Array.mk [Value.pointer (some (Addr.mk b_5 0 none)),Value.pointer (some (Addr.mk b_1 0 none))])]) m'->m'.reads b_5 0 [v,v_1,v_2,v_3,v_4,v_5,v_6,v_7]->∃(R_1:RT),
 True/\CX Tryz.prog 144 (Array.mk [slice (some (Addr.mk b_6 0 none)) 3 3]) m' [] R_1/\Zap (Shape.int i64) R_1/\∀(n:Int)(m'_3:Mem),m'.le m'_3->R_1 (int i64 n) m'_3 []->∃(m'':Mem),m.le m''/\m''.le m'_3/\R (int i64 n) m'' [])):CX Tryz.prog 141 #[.agg #[.int .i64 aA,.slice aH aG aI,.slice aJ aE aK],.agg #[.int .u8 aW,.bool aX,.bool aY,.int .u8 aZ,.int .u64 bZ,.int .u64 cA,.int .u64 cB,.int .u64 gI,.int .i64 gJ,.int .i64 gK,.slice eM eN eP,.string fG,.int .i64 fH,.slice eQ eR eS,.string fI,.int .i64 fJ],.slice p2a p2n p2c,.int .i64 p3] m [] R:=
 Zad (E:=ZmJ) Zak mix Tryz.func141 [.v (.agg #[.int .i64 aA,.slice aH aG aI,.slice aJ aE aK]),.v (.agg #[.int .u8 aW,.bool aX,.bool aY,.int .u8 aZ,.int .u64 bZ,.int .u64 cA,.int .u64 cB,.int .u64 gI,.int .i64 gJ,.int .i64 gK,.slice eM eN eP,.string fG,.int .i64 fH,.slice eQ eR eS,.string fI,.int .i64 fJ]),.v (.slice p2a p2n p2c),.v (.int .i64 p3)] [] (by kernel_rfl) (Eq.mp (by kernel_rfl) h)
noncomputable def ZiD:Env:={ EB with
 loops:=(λi=>bif Nat.beq i 4 then⟨[(3,.int .i64),(4,.slice),(13,.int .i64)],[],[(41,1)],false⟩ else bif Nat.beq i 8 then⟨[(3,.int .i64),(7,.slice),(20,.int .i64)],[],[(36,1)],false⟩ else⟨[],[],[],false⟩)
 tokOf:=(λi=>bif Nat.beq i 36 then 36 else bif Nat.beq i 41 then 41 else 0)
 frzNew:=[1] }
theorem Zhk(aA:Int)(aH:Option Addr)(aG aI:Nat)(aJ:Option Addr)(aE aK:Nat)(m:Mem)(R:RT)(h:
 ∀(b:Nat)(m':Mem),m.le m'->m'.reads b 0 [int i64 aA,slice aH aG aI,slice aJ aE aK]->∃(I:IT),(∃(n:Nat),I [int i64 0,slice none 0 0,int i64 0] [] [slice none 0 0] m' n)/\∀
 (n:Int) (a:Option Addr) (ae c:Nat) (an:Int) (ai:Option Addr) (aj ak:Nat) (al:Mem) (a6:Nat),m'.le al->I [int i64 n,slice a ae c,int i64 an] [] [slice ai aj ak] al a6->br (decide (an < (↑aE:
 Int))) (∃(a7:Nat),∃(o:Nat),aJ=some (Addr.mk a7 o none)/\Zaf an aE/\∃v ac:Value,al.reads a7 (o+Int.toNat an*2) [v,ac]/\∀(ap:Nat),chk (v.oneCell' &&
 (ac.oneCell'&&true)) (chk (Zbi ac) (∃(aq:IT),(∃(aa:Nat),aq [int i64 n,slice none 0 0,int i64 0] [] [slice none 0 0] al aa)/\∀(n:Int)(af:Option Addr)(aa ag:Nat)(am:Int)(au:Option Addr)
 (av aw:Nat) (m':Mem) (ax:Nat),al.le m'->aq [int i64 n,slice af aa ag,int i64 am] [] [slice au av aw] m' ax->br (decide (am < (↑(slN ac):Int))) (chk (Zbi ac) (∃(ah:Nat),∃(o:Nat),slA ac=some
 (Addr.mk ah o none)/\Zaf am (slN ac)/\∃ar a8 a9 ay az a0 a1 a2 a3 a4 a5 ba bb bc bd be:Value,m'.reads ah (o+Int.toNat am*16) [ar,a8,a9,ay,az,a0,a1,a2,a3,a4,a5,ba,bb,bc,bd,be]/\∀(bf:Nat),chk
 (ar.oneCell'&&(a8.oneCell'&&(a9.oneCell'&&(ay.oneCell'&&(az.oneCell'&&(a0.oneCell'&&(a1.oneCell'&&(a2.oneCell'&&(a3.oneCell'&&(a4.oneCell' &&
 (a5.oneCell'&&(ba.oneCell'&&(bb.oneCell'&&(bc.oneCell'&&(bd.oneCell'&&(be.oneCell'&&true)))))))))))))))) (chk (ZaP u8 ar&&decide (u8=u8)) (br (intOf ar == (1
 : Int)) (∃(R:RT),True/\CX Tryz.prog 60 (Array.mk [agg (Array.mk [ay,az,a0,a1,a2,a3,a4,a5])]) m' [] R/\Zap (Shape.int i64) R/\∀(ao:Int)(ab:Mem),m'.le ab->R (int i64 ao) ab []->∀(ad:Nat),
 ab.free ad->(Tok.mk (slice au av aw) 1=Tok.mk (slice af aa ag) 1\/slice af aa ag=slice none 0 0\/ag < aa+1)/\∃(xs:List Value),∃(ys:List Value),xs.length=aa*1/\ys.length=1*1/\
 rowRd (ab.add ad [int i64 (i64.wrap (n+ao))]) af xs/\rowRd (ab.add ad [int i64 (i64.wrap (n+ao))]) (some (Addr.mk ad 0 none)) ys/\(∀(u:Value),u∈ys->u.oneCell'=true)/\(aa +
 1)*8<=140737488355328/\aa+1<=9223372036854775807/\∀(a':Option Addr)(c':Nat)(m':Mem),Mem.le (ab.add ad [int i64 (i64.wrap (n+ao))]) m'->rowRd m' a' (List.append xs ys)->[some (Box.mk ap
 [v,ac] 42 2 false true),some (Box.mk b [int i64 aA,slice aH aG aI,slice aJ aE aK] 30 3 true true)]=[some (Box.mk ap [v,ac] 42 2 false true),some (Box.mk b [int i64 aA,slice aH aG
 aI,slice aJ aE aK] 30 3 true true)]/\[some (Tok.mk (slice ai aj ak) 1)]=[some (Tok.mk (slice ai aj ak) 1)]/\∃(n':Nat),n' < ax/\aq [int i64 (i64.wrap (n+ao)),slice a' (aa+1) c',int i64
 (i64.wrap (am+(1:Int)))] [] [slice a' (aa+1) c'] m' n') (∀(ad:Nat),m'.free ad->(Tok.mk (slice au av aw) 1=Tok.mk (slice af aa ag) 1\/slice af aa ag=slice none 0 0\/ag < aa+1)/\∃(xs:
 List Value),∃(ys:List Value),xs.length=aa*1/\ys.length=1*1/\rowRd (m'.add ad [int i64 n]) af xs/\rowRd (m'.add ad [int i64 n]) (some (Addr.mk ad 0 none)) ys/\(∀(u:Value),u∈ys->
 u.oneCell'=true)/\(aa+1)*8<=140737488355328/\aa+1<=9223372036854775807/\∀(a':Option Addr)(c':Nat)(ab:Mem),Mem.le (m'.add ad [int i64 n]) ab->rowRd ab a' (List.append xs ys)->[some
 (Box.mk ap [v,ac] 42 2 false true),some (Box.mk b [int i64 aA,slice aH aG aI,slice aJ aE aK] 30 3 true true)]=[some (Box.mk ap [v,ac] 42 2 false true),some (Box.mk b [int i64 aA,slice
 aH aG aI,slice aJ aE aK] 30 3 true true)]/\[some (Tok.mk (slice ai aj ak) 1)]=[some (Tok.mk (slice ai aj ak) 1)]/\∃(n':Nat),n' < ax/\aq [int i64 n,slice a' (aa+1) c',int i64 (i64.wrap (am+(1:Int)))] [] [slice a' (aa+1) c'] ab n'))))) (∀(ah:Nat),m'.free ah->(Tok.mk (slice ai aj ak) 1=Tok.mk (slice a ae c) 1\/slice a ae c=slice none 0 0\/c < ae+1)/\∃(xs:List Value),∃(ys
 : List Value),xs.length=ae*1/\ys.length=1*1/\rowRd (m'.add ah [slice af aa ag]) a xs/\rowRd (m'.add ah [slice af aa ag]) (some (Addr.mk ah 0 none)) ys/\(∀(u:Value),u∈ys->
 u.oneCell'=true)/\(ae+1)*24<=140737488355328/\ae+1<=9223372036854775807/\∀(a':Option Addr)(c':Nat)(ab:Mem),Mem.le (m'.add ah [slice af aa ag]) ab->rowRd ab a' (List.append xs ys)->
 [some (Box.mk b [int i64 aA,slice aH aG aI,slice aJ aE aK] 30 3 true true)]=[some (Box.mk b [int i64 aA,slice aH aG aI,slice aJ aE aK] 30 3 true true)]/\∃(n':Nat),n' <
 a6/\I [int i64 n,slice a' (ae+1) c',int i64 (i64.wrap (an+(1:Int)))] [] [slice a' (ae+1) c'] ab n')))) (∃(m'':Mem),m.le m''/\m''.le al/\R (slice a ae c) m'' [])):CX Tryz.prog 117 #[.agg #[.int .i64 aA,.slice aH aG aI,.slice aJ aE aK]] m [] R:=
 Zad (E:=ZiD) Zak mix Tryz.func117 [.v (.agg #[.int .i64 aA,.slice aH aG aI,.slice aJ aE aK])] [] (by kernel_rfl) (Eq.mp (by kernel_rfl) h)
noncomputable def Zql:Env:={ EB with
 dr:=(λi=>bif Nat.beq i 7 then[⟨0,[3],[],none,[],[]⟩,⟨1,[3],[],none,[0],[]⟩,⟨2,[5],[],none,[],[]⟩,⟨3,[5],[],none,[2],[]⟩,⟨4,[],[],none,[0,1,2,3],[]⟩,⟨5,[],[],none,[0,1,2,3,4],[]⟩,⟨6,[],[],none,[0,1,2,3,4,5],[]⟩,⟨7,[5],[],none,[],[]⟩,⟨8,[5],[],none,[7],[]⟩,⟨9,[],[],none,[0,1,2,3,4,5,6,7,8],[]⟩,⟨10,[],[],none,[0,1,2,3,4,5,6,7,8,9],[]⟩,⟨11,[7],[7],none,[],[]⟩,⟨12,[7],[7],none,rg 0 12,[]⟩]else bif Nat.beq i 9 then[⟨0,[3],[],none,[],[]⟩,⟨1,[7],[],none,[],[]⟩,⟨2,[],[],none,[],[]⟩,⟨3,[5],[],none,[],[]⟩,⟨4,[5],[],none,[3],[]⟩,⟨5,[],[],none,[2,3,4],[]⟩,⟨6,[],[],none,[2,3,4,5],[]⟩,⟨7,[5],[],none,[],[]⟩,⟨8,[5],[],none,[7],[]⟩,⟨9,[],[],none,[2,3,4,5,6,7,8],[]⟩,⟨10,[],[],none,[2,3,4,5,6,7,8,9],[]⟩,⟨11,[],[],none,[0,1,2,3,4,5,6,7,8,9,10],[]⟩,⟨12,[],[],none,rg 0 12,[]⟩]else bif Nat.beq i 11 then[⟨0,[3],[],none,[],[]⟩,⟨1,[7],[],none,[],[]⟩,⟨2,[7],[],none,[],[]⟩,⟨3,[7],[],none,[2],[]⟩,⟨4,[5],[],none,[],[]⟩,⟨5,[5],[],none,[4],[]⟩,⟨6,[],[],none,[2,3,4,5],[]⟩,⟨7,[],[],none,[2,3,4,5,6],[]⟩,⟨8,[],[],none,[0,1,2,3,4,5,6,7],[]⟩,⟨9,[],[],none,[0,1,2,3,4,5,6,7,8],[]⟩]else bif Nat.beq i 12 then[⟨0,[3],[],none,[],[]⟩,⟨1,[7],[],none,[],[]⟩,⟨2,[7],[],none,[],[]⟩,⟨3,[7],[],none,[2],[]⟩,⟨4,[5],[],none,[],[]⟩,⟨5,[5],[],none,[4],[]⟩,⟨6,[],[],none,[2,3,4,5],[]⟩,⟨7,[],[],none,[2,3,4,5,6],[]⟩,⟨8,[],[],none,[2,3,4,5,6,7],[]⟩,⟨9,[5],[],none,[],[]⟩,⟨10,[5],[],none,[9],[]⟩,⟨11,[],[],none,[0,1,2,3,4,5,6,7,8,9,10],[]⟩,⟨12,[],[],none,rg 0 12,[]⟩]else[])
 frzNew:=[3,5] }
theorem ZoJ(aA:Int)(aH:Option Addr)(aG aI:Nat)(aJ:Option Addr)(aE aK:Nat)(p1a:Option Addr)(p1n p1c:Nat)(cR cM cS cN cU:Int)(m:Mem)(R:RT)(h:
 ∀(b:Nat)(m':Mem),m.le m'->m'.reads b 0 [int i64 aA,slice aH aG aI,slice aJ aE aK]->∀(b:Nat)(aa:Mem),m'.le aa->aa.reads b 0 [int i64 cR,int i64 cM,int i64
 cS,int i64 cN,int i64 cU]->br (decide (cR ≥ (0:Int))) (∃(R_1:RT),True/\CX Tryz.prog 136 (Array.mk [agg (Array.mk [int i64 aA,slice aH aG aI,slice aJ aE aK]),int i64 cR]) aa []
 R_1/\Zap (Shape.int i64) R_1/\∀(n:Int)(m':Mem),aa.le m'->R_1 (int i64 n) m' []->∃(m'':Mem),m.le m''/\m''.le m'/\R (int i64 n) m'' []) (br (decide (cM < (0:Int))) (∃(R_1:RT),True/\
 CX Tryz.prog 137 (Array.mk [agg (Array.mk [int i64 aA,slice aH aG aI,slice aJ aE aK])]) aa [] R_1/\Zap (Shape.int i64) R_1/\∀(n:Int)(m':Mem),aa.le m'->R_1 (int i64 n) m' []->∃(m''
 : Mem),m.le m''/\m''.le m'/\R (int i64 n) m'' []) (br (decide (cS < (0:Int))) (∃(R_1:RT),True/\CX Tryz.prog 138 (Array.mk [agg (Array.mk [int i64 aA,slice aH aG aI,slice aJ aE
 aK]),int i64 cM]) aa [] R_1/\Zap (Shape.int i64) R_1/\∀(n:Int)(m':Mem),aa.le m'->R_1 (int i64 n) m' []->∃(m'':Mem),m.le m''/\m''.le m'/\R (int i64 n) m'' []) (∃(b:Nat),∃(o:
 Nat),aJ=some (Addr.mk b o none)/\Zaf cM aE/\∃(v:Value),aa b (o+Int.toNat cM*2+1)=some v/\chk (Zbi v) (∃(b:Nat),∃(o:Nat),slA v=some (Addr.mk b o none)/\Zaf cS (slN v)/\∃v ad ae af ag ah ai aj ak al am an ao ab ap aq:Value,aa.reads b (o+Int.toNat cS*16) [v,ad,ae,af,ag,ah,ai,aj,ak,al,am,an,ao,ab,ap,aq]/\∀(b:Nat),chk (v.oneCell'&&(ad.oneCell' &&
 (ae.oneCell'&&(af.oneCell'&&(ag.oneCell'&&(ah.oneCell'&&(ai.oneCell'&&(aj.oneCell'&&(ak.oneCell'&&(al.oneCell'&&(am.oneCell'&&(an.oneCell' &&
 (ao.oneCell'&&(ab.oneCell'&&(ap.oneCell'&&(aq.oneCell'&&true)))))))))))))))) (br (decide (cN < (0:Int))) (∃(f:Fx),∃(b:Nat),∃(o:Nat),p1a=some (Addr.mk b o none)/\Zaf
 cM p1n/\∃(ac:Value),aa b (o+Int.toNat cM*1)=some ac/\chk (Zbi ac) (∃(b:Nat),∃(o:Nat),slA ac=some (Addr.mk b o none)/\Zaf cS (slN ac)/\∃(ar:Value),aa b (o+Int.toNat cS*1) =
 some ar/\∃(R_1:RT),R_1=f 11 [agg (Array.mk [int i64 aA,slice aH aG aI,slice aJ aE aK]),agg (Array.mk [v,ad,ae,af,ag,ah,ai,aj,ak,al,am,an,ao,ab,ap,aq]),ar] aa/\CX Tryz.prog
 139 (Array.mk [agg (Array.mk [int i64 aA,slice aH aG aI,slice aJ aE aK]),agg (Array.mk [v,ad,ae,af,ag,ah,ai,aj,ak,al,am,an,ao,ab,ap,aq]),ar]) aa [] R_1/\Zap (Shape.int i64) R_1/\
 ∀(n:Int)(m':Mem),aa.le m'->R_1 (int i64 n) m' []->∀(M:Mem),aa.le M->m'.le M->∃(m'':Mem),m.le m''/\m''.le M/\R (int i64 n) m'' [])) (br (decide (cU < (0:Int))) (∃(f:Fx),
 chk (Zbi ab) (∃(b:Nat),∃(o:Nat),slA ab=some (Addr.mk b o none)/\Zaf cN (slN ab)/\∃ac ar au av aw ax ay az:Value,aa.reads b (o+Int.toNat cN*8) [ac,ar,au,av,aw,ax,ay,az]/\∃(R_1:RT),R_1=f 8 [agg (Array.mk [int i64 aA,slice aH aG aI,slice aJ aE aK]),agg (Array.mk [v,ad,ae,af,
 ag,ah,ai,aj,ak,al,am,an,ao,ab,ap,aq]),agg (Array.mk [ac,ar,au,av,aw,ax,ay,az])] aa/\CX Tryz.prog 140 (Array.mk [agg (Array.mk [int i64 aA,slice aH aG aI,slice aJ aE aK]),agg
 (Array.mk [v,ad,ae,af,ag,ah,ai,aj,ak,al,am,an,ao,ab,ap,aq]),agg (Array.mk [ac,ar,au,av,aw,ax,ay,az])]) aa [] R_1/\Zap (Shape.int i64) R_1/\∀(n:Int)(m':Mem),aa.le m'->R_1 (int i64 n)
 m' []->∀(M:Mem),aa.le M->m'.le M->∃(m'':Mem),m.le m''/\m''.le M/\R (int i64 n) m'' [])) (∃(f:Fx),chk (Zbi ab) (∃(b:Nat),∃(o:Nat),slA ab=some (Addr.mk b o none)/\Zaf cN
 (slN ab)/\∃(ac:Value),aa b (o+Int.toNat cN*8+2)=some ac/\∃(R_1:RT),R_1=f 11 [agg (Array.mk [int i64 aA,slice aH aG aI,slice aJ aE aK]),agg (Array.mk [v,ad,ae,af,ag,ah,
 ai,aj,ak,al,am,an,ao,ab,ap,aq]),ac,int i64 cU] aa/\CX Tryz.prog 141 (Array.mk [agg (Array.mk [int i64 aA,slice aH aG aI,slice aJ aE aK]),agg (Array.mk [v,ad,ae,af,ag,ah,ai,aj,
 ak,al,am,an,ao,ab,ap,aq]),ac,int i64 cU]) aa [] R_1/\Zap (Shape.int i64) R_1/\∀(n:Int)(m':Mem),aa.le m'->R_1 (int i64 n) m' []->∀(M:Mem),aa.le M->m'.le M->∃(m'':Mem),m.le m''/\m''.le M/\R (int i64 n) m'' []))))))))):CX Tryz.prog 119 #[.agg #[.int .i64 aA,.slice aH aG aI,.slice aJ aE aK],.slice p1a p1n p1c,.agg #[.int .i64 cR,.int .i64 cM,.int .i64 cS,.int .i64 cN,.int .i64 cU]] m [] R:=
 Zad (E:=Zql) Zak mix Tryz.func119 [.v (.agg #[.int .i64 aA,.slice aH aG aI,.slice aJ aE aK]),.v (.slice p1a p1n p1c),.v (.agg #[.int .i64 cR,.int .i64 cM,.int .i64 cS,.int .i64 cN,.int .i64 cU])] [] (by kernel_rfl) (Eq.mp (by kernel_rfl) h)
noncomputable def Zgo:Env:={ EB with
 frzNew:=[1] }
theorem Zfq(aA:Int)(aH:Option Addr)(aG aI:Nat)(aJ:Option Addr)(aE aK:Nat)(m:Mem)(R:RT)(h:
 ∀(b:Nat)(m':Mem),m.le m'->m'.reads b 0 [int i64 aA,slice aH aG aI,slice aJ aE aK]->∃(m'':Mem),m.le m''/\m''.le m'/\R (func (Fn.func 116) (Array.mk []) (Array.mk
 [Value.pointer (some (Addr.mk b 0 none))])) m'' []):CX Tryz.prog 88 #[.agg #[.int .i64 aA,.slice aH aG aI,.slice aJ aE aK]] m [] R:=
 Zad (E:=Zgo) Zak mix Tryz.func88 [.v (.agg #[.int .i64 aA,.slice aH aG aI,.slice aJ aE aK])] [] (by kernel_rfl) (Eq.mp (by kernel_rfl) h)
noncomputable def ZeP:Env:={ EB with
 loops:=(λi=>bif Nat.beq i 2 then⟨[(12,.int .i64)],[],[],true⟩ else⟨[],[],[],false⟩) }
theorem Zen(p0g:Nat)(p0fi p0ca:List Value)(c0b c0o:Nat)(m:Mem)(xs:List (List Value))(h:
 ∀(l:Nat),∃v v_1 v_2:Value,m.reads c0b c0o [v,v_1,v_2]/\∃(R:RT),True/\CX Tryz.prog 117 (Array.mk [agg (Array.mk [v,v_1,v_2])]) m [] R/\Zap Shape.slice R/\∀(a:Option
 Addr) (n c:Nat) (m':Mem),m.le m'->R (slice a n c) m' []->∃v v_3 v_4:Value,m'.reads c0b c0o [v,v_3,v_4]/\∃(R:RT),True/\CX Tryz.prog 118 (Array.mk [agg (Array.mk [v,
 v_3,v_4])]) m' [] R/\Zap Shape.slice R/\∀(a_3:Option Addr)(n_1 c_1:Nat)(m'_1:Mem),m'.le m'_1->R (slice a_3 n_1 c_1) m'_1 []->∃(I:IT),(∃(n:Nat),I [int i64 0,int i64 0] [] [] m'_1 n)/\∀(y
 n_2:Int) (m':Mem) (n_3:Nat),m'_1.le m'->I [int i64 y,int i64 n_2] [] [] m' n_3->br (decide (n_2 < (↑n_1:Int))) (∃(b:Nat),∃(o:Nat),a_3=some (Addr.mk b o none)/\Zaf n_2 n_1/\∃v v_5 v_6 v_7 v_8:Value,m'.reads b (o+Int.toNat n_2*5) [v,v_5,v_6,v_7,v_8]/\∀(b:Nat),chk (v.oneCell'&&(v_5.oneCell'&&(v_6.oneCell' &&
 (v_7.oneCell'&&(v_8.oneCell'&&true))))) (∃v_9 v_10 v_11:Value,m'.reads c0b c0o [v_9,v_10,v_11]/\∃(R:RT),True/\CX Tryz.prog 119 (Array.mk [agg (Array.mk [v_9,
 v_10,v_11]),slice a n c,agg (Array.mk [v,v_5,v_6,v_7,v_8])]) m' [] R/\Zap (Shape.int i64) R/\∀(n:Int)(m'_2:Mem),m'.le m'_2->R (int i64 n) m'_2 []->br (!n == (0:Int)) ((l=l/\(0:Int)<=y/\
 List.get?Internal xs (Int.toNat y)=some [agg (Array.mk [v,v_5,v_6,v_7,v_8,int i64 n])])/\(∃(n':Nat),n' < n_3/\I [int i64 (y+(1:Int)),int i64 (i64.wrap (n_2+(1:Int)))] [] [] m'_2 n')/\((-1
 : Int)=(↑(xs.length):Int)\/(-1:Int)=(-1:Int))) (∃(n':Nat),n' < n_3/\I [int i64 y,int i64 (i64.wrap (n_2+(1:Int)))] [] [] m'_2 n'))) (y=(↑(xs.length):Int)\/y=(-1:Int))):IX Tryz.prog 116 [] [.pointer (some ⟨c0b,c0o,none⟩)] m xs:=
 ZgW (E:=ZeP) Zak mix Tryz.func116 [] [.pointer (some ⟨c0b,c0o,none⟩)] xs (by kernel_rfl) (Eq.mp (by kernel_rfl) h)
noncomputable def Zkw:Env:={ EB with
 loops:=(λi=>bif Nat.beq i 6 then⟨[(13,.agg [.int .i64,.int .i64,.int .i64,.int .i64,.int .i64,.int .i64])],[2,3],[],false⟩ else⟨[],[],[],false⟩)
 dr:=(λi=>bif Nat.beq i 6 then[⟨0,[5],[],none,[],[]⟩,⟨1,[5],[],none,[0],[]⟩,⟨2,[5],[],none,[],[]⟩,⟨3,[5],[],none,[2],[]⟩,⟨4,[2],[2],none,[0,1],[]⟩,⟨5,[3],[3],none,[0,1,2,3,4],[]⟩]else[])
 frzNew:=[1] }
theorem ZiE(aA:Int)(aH:Option Addr)(aG aI:Nat)(aJ:Option Addr)(aE aK:Nat)(m:Mem)(R:RT)(h:
 ∀(b:Nat)(m':Mem),m.le m'->m'.reads b 0 [int i64 aA,slice aH aG aI,slice aJ aE aK]->∀(b_1 b_2 b_3:Nat),∃(R_1:RT),True/\CX Tryz.prog 38 (Array.mk [agg (Array.mk [int i64
 aA,slice aH aG aI,slice aJ aE aK])]) m' [] R_1/\Zap Shape.bool R_1/\∀(b_4:Bool)(m'_1:Mem),m'.le m'_1->R_1 (bool b_4) m'_1 []->br (!b_4) (∃(m'':Mem),m.le m''/\m''.le m'_1/\R (tuple (Array.mk [agg (Array.mk [int i64 (-1:Int),int i64 (-1:Int),int i64 (-1:Int),int i64 (-1:Int),int i64 (-1:Int)]),int i64 5])) m'' []) (∃(R_2:RT),True/\CX Tryz.prog 88 (Array.mk [agg
 (Array.mk [int i64 aA,slice aH aG aI,slice aJ aE aK])]) m'_1 [] R_2/\Zap Shape.fn R_2/\∀(g:Nat)(fi ca:List Value)(m':Mem),m'_1.le m'->R_2 (func (Fn.func g) (Array.mk fi) (Array.mk
 ca)) m' []->∃(xs:List (List Value)),IX Tryz.prog g fi ca m' xs/\(∀(x:List Value),x∈xs->Shape.fitsL [Shape.agg [Shape.int i64,Shape.int i64,Shape.int i64,Shape.int i64,Shape.int i64,Shape.int i64]] x =
 true)/\∃(I:IT),I [] [[int i64 0,int i64 0,int i64 0,int i64 0,int i64 0],[int i64 0]] [] m' 0/\(∀(n n_1 n_2 n_3 n_4 n_5:Int)(cs cs_1:List Value)(m'_2:Mem)(n_6:Nat),m'.le m'_2->
 List.get?Internal xs n_6=some [agg (Array.mk [int i64 n,int i64 n_1,int i64 n_2,int i64 n_3,int i64 n_4,int i64 n_5])]->I [] [cs,cs_1] [] m'_2 n_6->∀(b_5:Nat),[some (Box.mk b_3 [int i64 (-1:Int),int i64
 (-1:Int),int i64 (-1:Int),int i64 (-1:Int),int i64 (-1:Int)] 119 5 false true),some (Box.mk b_2 [] 33 1 false true),some (Box.mk b_1 [] 119 5 false true),some (Box.mk b [int i64 aA,slice aH aG
 aI,slice aJ aE aK] 30 3 true true)]=[some (Box.mk b_3 [int i64 (-1:Int),int i64 (-1:Int),int i64 (-1:Int),int i64 (-1:Int),int i64 (-1:Int)] 119 5 false true),some (Box.mk b_2 [] 33 1 false
 true),some (Box.mk b_1 [] 119 5 false true),some (Box.mk b [int i64 aA,slice aH aG aI,slice aJ aE aK] 30 3 true true)]/\∃(m'':Mem),m.le m''/\m''.le m'_2/\R (tuple (Array.mk [agg
 (Array.mk [int i64 n,int i64 n_1,int i64 n_2,int i64 n_3,int i64 n_4]),int i64 n_5])) m'' [])/\∀(cs cs_1:List Value)(m'_2:Mem),m'.le m'_2->I [] [cs,cs_1] [] m'_2 (xs.length)->∃(m'':Mem),
 m.le m''/\m''.le m'_2/\R (tuple (Array.mk [agg (Array.mk [int i64 (-1:Int),int i64 (-1:Int),int i64 (-1:Int),int i64 (-1:Int),int i64 (-1:Int)]),int i64 0])) m'' [])):CX Tryz.prog 51 #[.agg #[.int .i64 aA,.slice aH aG aI,.slice aJ aE aK]] m [] R:=
 Zad (E:=Zkw) Zak mix Tryz.func51 [.v (.agg #[.int .i64 aA,.slice aH aG aI,.slice aJ aE aK])] [] (by kernel_rfl) (Eq.mp (by kernel_rfl) h)
noncomputable def Zkx:Env:={ EB with
 frzNew:=[1] }
theorem ZiF(aA:Int)(aH:Option Addr)(aG aI:Nat)(aJ:Option Addr)(aE aK:Nat)(m:Mem)(R:RT)(h:
 ∀(b:Nat)(m':Mem),m.le m'->m'.reads b 0 [int i64 aA,slice aH aG aI,slice aJ aE aK]->∃(R_1:RT),True/\CX Tryz.prog 51 (Array.mk [agg (Array.mk [int i64 aA,slice aH aG
 aI,slice aJ aE aK])]) m' [] R_1/\Zap (Shape.tup [Shape.agg [Shape.int i64,Shape.int i64,Shape.int i64,Shape.int i64,Shape.int i64],Shape.int i64]) R_1/\∀(n n_1 n_2 n_3 n_4 n_5:Int)(m'_1:Mem),
 m'.le m'_1->R_1 (tuple (Array.mk [agg (Array.mk [int i64 n,int i64 n_1,int i64 n_2,int i64 n_3,int i64 n_4]),int i64 n_5])) m'_1 []->∀(b:Nat),∃(m'':Mem),m.le m''/\m''.le m'_1/\R (bool (n_5
 == (0:Int))) m'' []):CX Tryz.prog 22 #[.agg #[.int .i64 aA,.slice aH aG aI,.slice aJ aE aK]] m [] R:=
 Zad (E:=Zkx) Zak mix Tryz.func22 [.v (.agg #[.int .i64 aA,.slice aH aG aI,.slice aJ aE aK])] [] (by kernel_rfl) (Eq.mp (by kernel_rfl) h)
end Go.Proofs.YtojlhhphofhaoaaGreatDoor