/- Part of the proof: conditions and contracts of functions of this program. No condition of its own. -/
import Derived.Test.YtplacemlpkhmfaaPEnv
set_option linter.unusedVariables false
namespace Go.Proofs.Ytplacemlpkhmfaa
open Go Go.Eng Go.Proofs Go.RowKit
open Go.Value (int slice agg)
open Go.IntKind (u8 u64 i64)
set_option maxRecDepth 100000
noncomputable def Zn4:Env:=EB
def ZhI(p0:Int)(m:Mem)(R:RT):Prop:=
 ∀(b b:Nat),(64:Int)≠(0:Int)∧(64:Int)≠(0:Int)∧(0:Int)≤Int.tmod p0 (64:Int)∧Zag (IntKind.wrap u8 (Int.tdiv p0 (64:Int))) 4∧chk (Nat.ble (0+Int.toNat (IntKind.wrap u8 (Int.tdiv p0 (64
 : Int)))*1) (nat_lit 3)) (chk (Nat.beq (List.length (Zan [int u64 0,int u64 0,int u64 0,int u64 0] (0+Int.toNat (IntKind.wrap u8 (Int.tdiv p0 (64:Int)))*1) [int u64 (IntKind.wrap u64 ((1:Int)*(2:Int)
 ^ min (Int.toNat (Int.tmod p0 (64:Int))) 64))])) 4&&Zcq (Zan [int u64 0,int u64 0,int u64 0,int u64 0] (0+Int.toNat (IntKind.wrap u8 (Int.tdiv p0 (64:Int)))*1) [int u64 (IntKind.wrap u64 ((1:Int) *
 (2:Int) ^ min (Int.toNat (Int.tmod p0 (64:Int))) 64))])) (∃(m'':Mem),Mem.le m m''∧Mem.le m'' m∧R (agg (Array.mk (Zan [int u64 0,int u64 0,int u64 0,int u64 0] (0+Int.toNat (IntKind.wrap u8 (Int.tdiv
 p0 (64:Int)))*1) [int u64 (IntKind.wrap u64 ((1:Int)*(2:Int) ^ min (Int.toNat (Int.tmod p0 (64:Int))) 64))]))) m'' []))
theorem Zl0(p0:Int)(m:Mem)(R:RT)(h:ZhI p0 m R):CX Try.prog 52 #[.int .u8 p0] m [] R:=
 Zal (E:=Zn4) Zaz mix Try.func52 [.v (.int .u8 p0)] [] (by kernel_rfl) (Eq.mp (by kernel_rfl) h)
noncomputable def ZiM:Env:=EB
def ZeO(p0:Int)(m:Mem)(R:RT):Prop:=
 ∀(b:Nat),∃(R_1:RT),True∧CX Try.prog 52 (Array.mk [int u8 p0]) m [] R_1∧ZaF (Shape.agg [Shape.int u64,Shape.int u64,Shape.int u64,Shape.int u64]) R_1∧∀(n n_1 n_2 n_3:Int)(m':Mem),Mem.le m m'→
 R_1 (agg (Array.mk [int u64 n,int u64 n_1,int u64 n_2,int u64 n_3])) m' []→∃(m'':Mem),Mem.le m m''∧Mem.le m'' m'∧R (agg (Array.mk [int u8 2,int u64 n,int u64 n_1,int u64 n_2,int u64 n_3,int i64 0,int
 i64 0,slice none 0 0])) m'' []
theorem ZhJ(p0:Int)(m:Mem)(R:RT)(h:ZeO p0 m R):CX Try.prog 51 #[.int .u8 p0] m [] R:=
 Zal (E:=ZiM) Zaz mix Try.func51 [.v (.int .u8 p0)] [] (by kernel_rfl) (Eq.mp (by kernel_rfl) h)
noncomputable def Zku:Env:={ EB with
 dr:=(fun i=>bif Nat.beq i 2 then[⟨0,[1],[],none,[],[]⟩,⟨1,[],[],none,[],[]⟩,⟨2,[26],[26],none,[0,1],[1]⟩,⟨3,[26],[],none,[0,1,2],[]⟩,⟨4,[28],[28],none,[0,1,2,3],[2]⟩,⟨5,[28],[],none,[0,1,2,3,4],[]⟩,⟨6,[2],[2],none,[],[]⟩,⟨7,[2],[2],none,[0,1,2,3,4,5,6],[]⟩]else[]) }
abbrev Zcn:Int→Int→Int→Int→Int→Int→Int→Option Addr→Nat→Nat→Int→Int→Int→Int→Int→Int→Int→Option Addr→Nat→Nat→List Value:=fun(n ae af ag ah ai aj:Int) (a:Option
 Addr) (ak c:Nat) (ao ap aq ar bd be bf:Int) (fy:Option Addr) (bg bh:Nat)=>[int u8 n,int u64 ae,int u64 af,int u64 ag,int u64 ah,int i64 ai,int i64 aj,slice a ak c,int u8 ao,int u64 ap,int u64 aq,int
 u64 ar,int u64 bd,int i64 be,int i64 bf,slice fy bg bh]
abbrev Zdr:Nat→Int→Int→Int→Int→Int→Int→Int→Option Addr→Nat→Nat→List Value:=fun(b:Nat)(n ae af ag ah ai aj:Int)(a:Option Addr)(ak c:Nat)=>[int u8 3,int u64 0,int u64
 0,int u64 0,int u64 0,int i64 0,int i64 0,slice (some (Addr.mk b 0 none)) 2 2,int u8 n,int u64 ae,int u64 af,int u64 ag,int u64 ah,int i64 ai,int i64 aj,slice a ak c]
abbrev Za0:Int→Int→Int→Int→Int→Int→Int→Int→Int→Int→Int→Int→List Value:=fun(n ae af ag ah ai aj ak ao ap aq ar:Int)=>[int u64 n,int u64 ae,int u64 af,int u64 ag,int u64 ah,
 int u64 ai,int u64 aj,int u64 ak,int u64 ao,int u64 ap,int u64 aq,int u64 ar]
abbrev Zbb:Int→Int→Int→Int→List Value:=fun(n ae af ag:Int)=>[int u64 n,int u64 ae,int u64 af,int u64 ag,int u64 n,int u64 ae,int u64 af,int u64 ag,int u64 n,int u64 ae,int u64 af,
 int u64 ag]
def Zft  (m:Mem)(R:RT):Prop:=
 ∃(R_1:RT),True∧CX Try.prog 51 (Array.mk [int u8 97]) m [] R_1∧ZaF (shT) R_1∧∀(n ae af ag ah ai aj:Int)(a:Option Addr)(ak c:Nat)(m':Mem),Mem.le m m'→R_1 (agg (Array.mk [int u8 n,int u64 ae,int
 u64 af,int u64 ag,int u64 ah,int i64 ai,int i64 aj,slice a ak c])) m' []→∃(R_2:RT),True∧CX Try.prog 51 (Array.mk [int u8 98]) m' [] R_2∧ZaF (shT) R_2∧∀(ao ap aq ar bd be bf:Int)(bu:Option Addr)
 (bg bh:Nat) (bi:Mem),Mem.le m' bi→R_2 (agg (Array.mk [int u8 ao,int u64 ap,int u64 aq,int u64 ar,int u64 bd,int i64 be,int i64 bf,slice bu bg bh])) bi []→∀(b:Nat),Mem.free bi b→∀(fz:Nat),∃(f:
 Fx),∃(R_3:RT),R_3=f 1 [int u8 99] (Mem.add bi b (Zcn n ae af ag ah ai aj a ak c ao ap aq ar bd be bf bu bg bh))∧CX Try.prog 51 (Array.mk [int u8 99]) (Mem.add bi b (Zcn n ae af ag ah ai aj
 a ak c ao ap aq ar bd be bf bu bg bh)) [] R_3∧ZaF (shT) R_3∧∀(bw bx bz ca cb cc cd:Int)(ce:Option Addr)(cf cg:Nat)(m':Mem),Mem.le (Mem.add bi b (Zcn n ae af ag ah ai aj a ak c ao ap aq ar bd
 be bf bu bg bh)) m'→R_3 (agg (Array.mk [int u8 bw,int u64 bx,int u64 bz,int u64 ca,int u64 cb,int i64 cc,int i64 cd,slice ce cf cg])) m' []→∀(bv:Nat),Mem.free m' bv→∀(di:Nat),Mem.free (Mem.add m' bv
 (Zdr b bw bx bz ca cb cc cd ce cf cg)) di→∀(f0:Nat)(M:Mem),Mem.le (Mem.add bi b (Zcn n ae af ag ah ai aj a ak c ao ap aq ar bd be bf bu bg bh)) M→Mem.le m' M→Mem.le (Mem.add m' bv
 (Zdr b bw bx bz ca cb cc cd ce cf cg)) M→Mem.le (Mem.add (Mem.add m' bv (Zdr b bw bx bz ca cb cc cd ce cf cg)) di [int u8 4,int u64 0,int u64 0,int u64 0,int u64 0,int i64 0,int i64 0,
 slice (some (Addr.mk bv 0 none)) 2 2]) M→∃(R_4:RT),True∧CX Try.prog 14 (Array.mk [agg (Array.mk [int u8 5,int u64 0,int u64 0,int u64 0,int u64 0,int i64 0,int i64 (-1:Int),slice (some (Addr.mk di 0
 none)) 1 1])]) M [] R_4∧ZaF (Shape.tup [Shape.agg [Shape.slice,Shape.slice,Shape.slice,Shape.slice,Shape.bool],Shape.int i64]) R_4∧∀(a:Option Addr)(n c:Nat)(ch:Option Addr)(ci cj:Nat) (ck:Option
 Addr) (cl cm:Nat) (cn:Option Addr) (co cp:Nat) (cq:Bool) (ee:Int) (m':Mem),Mem.le M m'→R_4 (Value.tuple (Array.mk [agg (Array.mk [slice a n c,slice ch ci cj,slice ck cl cm,slice cn co cp,Value.bool
 cq]),int i64 ee])) m' []→∀(f1:Nat),∃(R_5:RT),True∧CX Try.prog 52 (Array.mk [int u8 97]) m' [] R_5∧ZaF (Shape.agg [Shape.int u64,Shape.int u64,Shape.int u64,Shape.int u64]) R_5∧∀(au av aw ax:Int)
 (cr:Mem),Mem.le m' cr→R_5 (agg (Array.mk [int u64 au,int u64 av,int u64 aw,int u64 ax])) cr []→∃(R_6:RT),True∧CX Try.prog 52 (Array.mk [int u8 98]) cr [] R_6∧ZaF (Shape.agg [Shape.int u64,Shape.int
 u64,Shape.int u64,Shape.int u64]) R_6∧∀(ay az a0 a1:Int)(m':Mem),Mem.le cr m'→R_6 (agg (Array.mk [int u64 ay,int u64 az,int u64 a0,int u64 a1])) m' []→∃(R_7:RT),True∧CX Try.prog 52 (Array.mk [int
 u8 99]) m' [] R_7∧ZaF (Shape.agg [Shape.int u64,Shape.int u64,Shape.int u64,Shape.int u64]) R_7∧∀(a2 a3 a4 a5:Int)(al:Mem),Mem.le m' al→R_7 (agg (Array.mk [int u64 a2,int u64 a3,int u64 a4,int u64
 a5])) al []→∀(an:Nat),Mem.free al an→∀(a6:Nat),Mem.free (Mem.add al an (Za0 au av aw ax ay az a0 a1 a2 a3 a4 a5)) a6→∀(a9:Nat),Mem.free (Mem.add (Mem.add al an (Za0 au av aw ax ay
 az a0 a1 a2 a3 a4 a5)) a6 [int i64 0,int i64 2]) a9→∀(ba:Nat),Mem.free (Mem.add (Mem.add (Mem.add al an (Za0 au av aw ax ay az a0 a1 a2 a3 a4 a5)) a6 [int i64 0,int i64 2]) a9 [int i64 1,int i64 2])
 ba→∀(bj:Nat),Mem.free (Mem.add (Mem.add (Mem.add (Mem.add al an (Za0 au av aw ax ay az a0 a1 a2 a3 a4 a5)) a6 [int i64 0,int i64 2]) a9 [int i64 1,int i64 2]) ba [int i64 1]) bj→∀(bo:Nat),
 Mem.free (Mem.add (Mem.add (Mem.add (Mem.add (Mem.add al an (Za0 au av aw ax ay az a0 a1 a2 a3 a4 a5)) a6 [int i64 0,int i64 2]) a9 [int i64 1,int i64 2]) ba [int i64 1]) bj [int i64 0,int i64 2]) bo→∀
 (cs:Nat),Mem.free (Mem.add (Mem.add (Mem.add (Mem.add (Mem.add (Mem.add al an (Za0 au av aw ax ay az a0 a1 a2 a3 a4 a5)) a6 [int i64 0,int i64 2]) a9 [int i64 1,int i64 2]) ba [int i64 1]) bj [int i64 0,
 int i64 2]) bo [int i64 0,int i64 2]) cs→∀(f2:Nat),∃(R_8:RT),True∧CX Try.prog 51 (Array.mk [int u8 97]) (Mem.add (Mem.add (Mem.add (Mem.add (Mem.add (Mem.add (Mem.add al an (Za0 au av aw ax ay az
 a0 a1 a2 a3 a4 a5)) a6 [int i64 0,int i64 2]) a9 [int i64 1,int i64 2]) ba [int i64 1]) bj [int i64 0,int i64 2]) bo [int i64 0,int i64 2]) cs [slice (some (Addr.mk ba 0 none)) 1 1,slice (some (Addr.mk bj 0 none))
 2 2,slice (some (Addr.mk bo 0 none)) 2 2]) [] R_8∧ZaF (shT) R_8∧∀(dj dk dl dm dn dp dq:Int)(dr:Option Addr)(ds dt:Nat)(m':Mem),Mem.le (Mem.add (Mem.add (Mem.add (Mem.add (Mem.add (Mem.add (Mem.add al
 an (Za0 au av aw ax ay az a0 a1 a2 a3 a4 a5)) a6 [int i64 0,int i64 2]) a9 [int i64 1,int i64 2]) ba [int i64 1]) bj [int i64 0,int i64 2]) bo [int i64 0,int i64 2]) cs [slice (some (Addr.mk ba 0 none)) 1
 1,slice (some (Addr.mk bj 0 none)) 2 2,slice (some (Addr.mk bo 0 none)) 2 2]) m'→R_8 (agg (Array.mk [int u8 dj,int u64 dk,int u64 dl,int u64 dm,int u64 dn,int i64 dp,int i64 dq,slice dr ds dt])) m' []→∀(ct
 : Nat),Mem.free m' ct→∃(R_9:RT),True∧CX Try.prog 14 (Array.mk [agg (Array.mk [int u8 5,int u64 0,int u64 0,int u64 0,int u64 0,int i64 2,int i64 3,slice (some (Addr.mk ct 0 none)) 1 1])]) (Mem.add m' ct
 [int u8 dj,int u64 dk,int u64 dl,int u64 dm,int u64 dn,int i64 dp,int i64 dq,slice dr ds dt]) [] R_9∧ZaF (Shape.tup [Shape.agg [Shape.slice,Shape.slice,Shape.slice,Shape.slice,Shape.bool],Shape.int i64])
 R_9∧∀(ef:Option Addr)(eg eh:Nat)(ei:Option Addr)(ej ek:Nat)(el:Option Addr)(em en:Nat)(eo:Option Addr)(ep eq:Nat)(er:Bool)(es:Int)(cu:Mem),Mem.le (Mem.add m' ct [int u8 dj,int u64
 dk,int u64 dl,int u64 dm,int u64 dn,int i64 dp,int i64 dq,slice dr ds dt]) cu→R_9 (Value.tuple (Array.mk [agg (Array.mk [slice ef eg eh,slice ei ej ek,slice el em en,slice eo ep eq,Value.bool er]),int i64
 es])) cu []→∀(f3:Nat),∃(R_10:RT),True∧CX Try.prog 51 (Array.mk [int u8 97]) cu [] R_10∧ZaF (shT) R_10∧∀(du dv dw dx dy dz d0:Int)(d1:Option Addr)(d2 d3:Nat)(m':Mem),Mem.le cu m'→R_10 (agg
 (Array.mk [int u8 du,int u64 dv,int u64 dw,int u64 dx,int u64 dy,int i64 dz,int i64 d0,slice d1 d2 d3])) m' []→∀(cv:Nat),Mem.free m' cv→∃(R_11:RT),True∧CX Try.prog 14 (Array.mk [agg (Array.mk [int
 u8 5,int u64 0,int u64 0,int u64 0,int u64 0,int i64 2,int i64 (-1:Int),slice (some (Addr.mk cv 0 none)) 1 1])]) (Mem.add m' cv [int u8 du,int u64 dv,int u64 dw,int u64 dx,int u64 dy,int i64 dz,int i64
 d0,slice d1 d2 d3]) [] R_11∧ZaF (Shape.tup [Shape.agg [Shape.slice,Shape.slice,Shape.slice,Shape.slice,Shape.bool],Shape.int i64]) R_11∧∀(et:Option Addr)(eu ev:Nat)(ew:Option Addr)(ex ey:Nat) (ez
 : Option Addr) (e0 e1:Nat) (e2:Option Addr) (e3 e4:Nat) (e5:Bool) (e6:Int) (cw:Mem),Mem.le (Mem.add m' cv [int u8 du,int u64 dv,int u64 dw,int u64 dx,int u64 dy,int i64 dz,int i64 d0,slice d1 d2 d3])
 cw→R_11 (Value.tuple (Array.mk [agg (Array.mk [slice et eu ev,slice ew ex ey,slice ez e0 e1,slice e2 e3 e4,Value.bool e5]),int i64 e6])) cw []→∀(f4:Nat),∃(R_12:RT),True∧CX Try.prog 52 (Array.mk [int
 u8 97]) cw [] R_12∧ZaF (Shape.agg [Shape.int u64,Shape.int u64,Shape.int u64,Shape.int u64]) R_12∧∀(aa ab ac ad:Int)(m':Mem),Mem.le cw m'→R_12 (agg (Array.mk [int u64 aa,int u64 ab,int u64 ac,int u64
 ad])) m' []→∀(f5:Nat),br (!IntKind.wrap i64 (IntKind.wrap i64 (ee+es)+e6) == (0:Int)) (∃(m'':Mem),Mem.le m m''∧Mem.le m'' m'∧R (Value.bool false) m'' []) (∃(R_13:RT),True∧CX Try.prog 22
 (Array.mk [agg (Array.mk [slice a n c,slice ch ci cj,slice ck cl cm,slice cn co cp,Value.bool cq]),agg (Array.mk [slice (some (Addr.mk an 0 none)) 3 3,slice (some (Addr.mk cs 0 none)) 3 3,slice (some (Addr.mk a6
 0 none)) 2 2,slice (some (Addr.mk a9 0 none)) 2 2,Value.bool true])]) m' [] R_13∧ZaF Shape.bool R_13∧∀(e7:Bool)(am:Mem),Mem.le m' am→R_13 (Value.bool e7) am []→br (!e7) (∃(m'':Mem),Mem.le m m''∧
 Mem.le m'' am∧R (Value.bool false) m'' []) (∀(a7:Nat),Mem.free am a7→∀(bb:Nat),Mem.free (Mem.add am a7 (Zbb aa ab ac ad)) bb→∀(bk:Nat),Mem.free (Mem.add (Mem.add am a7 (Zbb aa ab
 ac ad)) bb [int i64 0]) bk→∀(bl:Nat),Mem.free (Mem.add (Mem.add (Mem.add am a7 (Zbb aa ab ac ad)) bb [int i64 0]) bk [int i64 1,int i64 2]) bl→∀(bp:Nat),Mem.free (Mem.add (Mem.add (Mem.add
 (Mem.add am a7 (Zbb aa ab ac ad)) bb [int i64 0]) bk [int i64 1,int i64 2]) bl [int i64 1]) bp→∀(cx:Nat),Mem.free (Mem.add (Mem.add (Mem.add (Mem.add (Mem.add am a7 (Zbb aa ab ac ad)) bb
 [int i64 0]) bk [int i64 1,int i64 2]) bl [int i64 1]) bp [int i64 2]) cx→∃(R_14:RT),True∧CX Try.prog 22 (Array.mk [agg (Array.mk [slice ef eg eh,slice ei ej ek,slice el em en,slice eo ep eq,Value.bool
 er]),agg (Array.mk [slice (some (Addr.mk a7 0 none)) 3 3,slice (some (Addr.mk cx 0 none)) 3 3,slice (some (Addr.mk bb 0 none)) 1 1,slice (some (Addr.mk bk 0 none)) 2 2,Value.bool false])]) (Mem.add (Mem.add
 (Mem.add (Mem.add (Mem.add (Mem.add am a7 (Zbb aa ab ac ad)) bb [int i64 0]) bk [int i64 1,int i64 2]) bl [int i64 1]) bp [int i64 2]) cx [slice (some (Addr.mk bl 0 none)) 1 1,slice (some (Addr.mk bp 0
 none)) 1 1,slice none 0 0]) [] R_14∧ZaF Shape.bool R_14∧∀(e8:Bool)(m':Mem),Mem.le (Mem.add (Mem.add (Mem.add (Mem.add (Mem.add (Mem.add am a7 (Zbb aa ab ac ad)) bb [int i64 0]) bk [int i64 1,int
 i64 2]) bl [int i64 1]) bp [int i64 2]) cx [slice (some (Addr.mk bl 0 none)) 1 1,slice (some (Addr.mk bp 0 none)) 1 1,slice none 0 0]) m'→R_14 (Value.bool e8) m' []→br (!e8) (∃(m'':Mem),Mem.le m m''∧Mem.le
 m'' m'∧R (Value.bool false) m'' []) (∀(a8:Nat),Mem.free m' a8→∀(bc:Nat),Mem.free (Mem.add m' a8 [int u64 aa,int u64 ab,int u64 ac,int u64 ad,int u64 aa,int u64 ab,int u64 ac,int u64 ad]) bc→∀(bm:
 Nat),Mem.free (Mem.add (Mem.add m' a8 [int u64 aa,int u64 ab,int u64 ac,int u64 ad,int u64 aa,int u64 ab,int u64 ac,int u64 ad]) bc [int i64 0]) bm→∀(bn:Nat),Mem.free (Mem.add (Mem.add (Mem.add m' a8 [int
 u64 aa,int u64 ab,int u64 ac,int u64 ad,int u64 aa,int u64 ab,int u64 ac,int u64 ad]) bc [int i64 0]) bm [int i64 1]) bn→∀(bq:Nat),Mem.free (Mem.add (Mem.add (Mem.add (Mem.add m' a8 [int u64 aa,int u64 ab,
 int u64 ac,int u64 ad,int u64 aa,int u64 ab,int u64 ac,int u64 ad]) bc [int i64 0]) bm [int i64 1]) bn [int i64 1]) bq→∀(cy:Nat),Mem.free (Mem.add (Mem.add (Mem.add (Mem.add (Mem.add m' a8 [int u64 aa,int
 u64 ab,int u64 ac,int u64 ad,int u64 aa,int u64 ab,int u64 ac,int u64 ad]) bc [int i64 0]) bm [int i64 1]) bn [int i64 1]) bq [int i64 1]) cy→∃(R_15:RT),True∧CX Try.prog 22 (Array.mk [agg (Array.mk [slice
 et eu ev,slice ew ex ey,slice ez e0 e1,slice e2 e3 e4,Value.bool e5]),agg (Array.mk [slice (some (Addr.mk a8 0 none)) 2 2,slice (some (Addr.mk cy 0 none)) 2 2,slice (some (Addr.mk bc 0 none)) 1 1,slice (some
 (Addr.mk bm 0 none)) 1 1,Value.bool false])]) (Mem.add (Mem.add (Mem.add (Mem.add (Mem.add (Mem.add m' a8 [int u64 aa,int u64 ab,int u64 ac,int u64 ad,int u64 aa,int u64 ab,int u64 ac,int u64 ad]) bc [int i64
 0]) bm [int i64 1]) bn [int i64 1]) bq [int i64 1]) cy [slice (some (Addr.mk bn 0 none)) 1 1,slice (some (Addr.mk bq 0 none)) 1 1]) [] R_15∧ZaF Shape.bool R_15∧∀(e9:Bool)(bs:Mem),Mem.le (Mem.add (Mem.add
 (Mem.add (Mem.add (Mem.add (Mem.add m' a8 [int u64 aa,int u64 ab,int u64 ac,int u64 ad,int u64 aa,int u64 ab,int u64 ac,int u64 ad]) bc [int i64 0]) bm [int i64 1]) bn [int i64 1]) bq [int i64 1]) cy [slice (some
 (Addr.mk bn 0 none)) 1 1,slice (some (Addr.mk bq 0 none)) 1 1]) bs→R_15 (Value.bool e9) bs []→br (!e9) (∃(m'':Mem),Mem.le m m''∧Mem.le m'' bs∧R (Value.bool false) m'' []) (∀(cz:Nat),Mem.free bs cz→∃
 (R_16:RT),True∧CX Try.prog 27 (Array.mk [agg (Array.mk [slice a n c,slice ch ci cj,slice ck cl cm,slice cn co cp,Value.bool cq]),slice (some (Addr.mk cz 0 none)) 1 1,int u8 97]) (Mem.add bs cz [int i64 (-1:
 Int)]) [] R_16∧ZaF (Shape.tup [Shape.slice,Shape.int i64]) R_16∧∀(fa:Option Addr)(fb fc:Nat)(fd:Int)(m':Mem),Mem.le (Mem.add bs cz [int i64 (-1:Int)]) m'→R_16 (Value.tuple (Array.mk [slice fa fb
 fc,int i64 fd])) m' []→∀(da:Nat),Mem.free m' da→∃(R_17:RT),True∧CX Try.prog 27 (Array.mk [agg (Array.mk [slice a n c,slice ch ci cj,slice ck cl cm,slice cn co cp,Value.bool cq]),slice (some (Addr.mk
 da 0 none)) 1 1,int u8 98]) (Mem.add m' da [int i64 (-1:Int)]) [] R_17∧ZaF (Shape.tup [Shape.slice,Shape.int i64]) R_17∧∀(a:Option Addr)(n c:Nat)(fe:Int)(db:Mem),Mem.le (Mem.add m' da [int i64 (-1
 : Int)]) db→R_17 (Value.tuple (Array.mk [slice a n c,int i64 fe])) db []→∃(R_18:RT),True∧CX Try.prog 14 (Array.mk [agg (Array.mk [int u8 3,int u64 0,int u64 0,int u64 0,int u64 0,int i64 0,int i64 0,
 slice (some (Addr.mk b 0 none)) 2 2])]) db [] R_18∧ZaF (Shape.tup [Shape.agg [Shape.slice,Shape.slice,Shape.slice,Shape.slice,Shape.bool],Shape.int i64]) R_18∧∀(a:Option Addr)(d4 c:Nat) (d5:Option
 Addr) (d6 d7:Nat) (d8:Option Addr) (d9 ea:Nat) (eb:Option Addr) (ec ed:Nat) (b:Bool) (ff:Int) (m':Mem),Mem.le db m'→R_18 (Value.tuple (Array.mk [agg (Array.mk [slice a d4 c,slice d5 d6 d7,slice d8
 d9 ea,slice eb ec ed,Value.bool b]),int i64 ff])) m' []→∀(f6 dc:Nat),Mem.free m' dc→∃(R_19:RT),True∧CX Try.prog 30 (Array.mk [agg (Array.mk [slice a d4 c,slice d5 d6 d7,slice d8 d9 ea,slice eb ec ed,
 Value.bool b]),slice (some (Addr.mk dc 0 none)) 4 4]) (Mem.add m' dc [int u8 97,int u8 98,int u8 97,int u8 98]) [] R_19∧ZaF (Shape.tup [Shape.slice,Shape.int i64]) R_19∧∀(fg:Option Addr)(fh fi:Nat) (fj:
 Int) (dd:Mem),Mem.le (Mem.add m' dc [int u8 97,int u8 98,int u8 97,int u8 98]) dd→R_19 (Value.tuple (Array.mk [slice fg fh fi,int i64 fj])) dd []→∃(R_20:RT),True∧CX Try.prog 16 (Array.mk [agg (Array.mk
 [slice a d4 c,slice d5 d6 d7,slice d8 d9 ea,slice eb ec ed,Value.bool b])]) dd [] R_20∧ZaF (Shape.tup [Shape.agg [Shape.slice,Shape.slice,Shape.slice,Shape.slice,Shape.bool],Shape.int i64]) R_20∧∀(a:
 Option Addr) (fk c:Nat) (fl:Option Addr) (fm fn:Nat) (fo:Option Addr) (fp fq:Nat) (fr:Option Addr) (fs ft:Nat) (b:Bool) (fu:Int) (m':Mem),Mem.le dd m'→R_20 (Value.tuple (Array.mk [agg (Array.mk
 [slice a fk c,slice fl fm fn,slice fo fp fq,slice fr fs ft,Value.bool b]),int i64 fu])) m' []→∀(f7 de:Nat),Mem.free m' de→∃(R_21:RT),True∧CX Try.prog 18 (Array.mk [agg (Array.mk [slice a fk c,slice
 fl fm fn,slice fo fp fq,slice fr fs ft,Value.bool b]),slice (some (Addr.mk de 0 none)) 2 2]) (Mem.add m' de [int u8 98,int u8 97]) [] R_21∧ZaF (Shape.tup [Shape.bool,Shape.int i64]) R_21∧∀(b:Bool) (fv:
 Int) (bt:Mem),Mem.le (Mem.add m' de [int u8 98,int u8 97]) bt→R_21 (Value.tuple (Array.mk [Value.bool b,int i64 fv])) bt []→br (IntKind.wrap i64 (IntKind.wrap i64 (IntKind.wrap i64 (IntKind.wrap i64
 (IntKind.wrap i64 (fd+fe)+ff)+fj)+fu)+fv) == (0:Int)) (∀(df:Nat),Mem.free bt df→∃(R_22:RT),True∧CX Try.prog 23 (Array.mk [slice fa fb fc,slice (some (Addr.mk df 0 none)) 1 1]) (Mem.add bt df
 [int i64 0]) [] R_22∧ZaF Shape.bool R_22∧∀(fw:Bool)(m':Mem),Mem.le (Mem.add bt df [int i64 0]) m'→R_22 (Value.bool fw) m' []→br fw (br ((↑n:Int) == (0:Int)) (∀(dg:Nat),Mem.free m' dg→∃(R_23:
 RT),True∧CX Try.prog 23 (Array.mk [slice fg fh fi,slice (some (Addr.mk dg 0 none)) 2 2]) (Mem.add m' dg [int i64 2,int i64 4]) [] R_23∧ZaF Shape.bool R_23∧∀(fx:Bool)(dh:Mem),Mem.le (Mem.add m' dg [int
 i64 2,int i64 4]) dh→R_23 (Value.bool fx) dh []→br fx (∃(m'':Mem),Mem.le m m''∧Mem.le m'' dh∧R (Value.bool b) m'' []) (∃(m'':Mem),Mem.le m m''∧Mem.le m'' dh∧R (Value.bool false) m'' [])) (∃(m'':
 Mem),Mem.le m m''∧Mem.le m'' m'∧R (Value.bool false) m'' [])) (∃(m'':Mem),Mem.le m m''∧Mem.le m'' m'∧R (Value.bool false) m'' [])) (∃(m'':Mem),Mem.le m m''∧Mem.le m'' bt∧R (Value.bool false) m''
 [])))))
theorem ZiN  (m:Mem)(R:RT)(h:Zft  m R):CX Try.prog 12 #[] m [] R:=
 Zal (E:=Zku) Zaz mix Try.func12 [] [] (by kernel_rfl) (Eq.mp (by kernel_rfl) h)
end Go.Proofs.Ytplacemlpkhmfaa

