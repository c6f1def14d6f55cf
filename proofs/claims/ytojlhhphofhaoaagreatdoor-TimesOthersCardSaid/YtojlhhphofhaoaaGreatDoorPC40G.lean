/- Part of the proof: functions of the program. No condition. -/
import Derived.Test.YtojlhhphofhaoaaGreatDoorPEnv
import Derived.Test.YtojlhhphofhaoaaGreatDoorMc
import Derived.Test.YtojlhhphofhaoaaGreatDoorPC25D
import Derived.Test.YtojlhhphofhaoaaGreatDoorMr
import Derived.Test.YtojlhhphofhaoaaGreatDoorPC25MC
import Derived.Test.YtojlhhphofhaoaaGreatDoorPC40C
import Derived.Test.YtojlhhphofhaoaaGreatDoorPC25I
set_option linter.unusedVariables false
set_option linter.unusedSimpArgs false
set_option linter.unusedSectionVars false
noncomputable section
namespace Go.Proofs.YtojlhhphofhaoaaGreatDoor
open Go Go.Eng Go.Proofs Go.RowKit
open Go.Value (int slice agg bool string tuple func)
open Go.IntKind (u8 u64 i64)
set_option maxRecDepth 100000
def Zq4:Env:={ EB with
 loops:=(λi=>bif Nat.beq i 7 then⟨[(27,.int .i64)],[4,7],[(61,2)],false⟩ else⟨[],[],[],false⟩)
 joins:=(λi=>bif Nat.beq i 10 then some [(48,.bool)]else none)
 dr:=(λi=>bif Nat.beq i 13 then[⟨0,[7],[],none,[],[]⟩,⟨1,[7],[],none,[0],[]⟩,⟨2,[6],[],none,[],[]⟩,⟨3,[6],[],none,[2],[]⟩,⟨4,[],[],none,[],[]⟩,⟨5,[],[],none,[2,3,4],[]⟩,⟨6,[],[],none,[2,3,4,5],[]⟩,⟨7,[60],[60],none,[2,3,4,5,6],[]⟩,⟨8,[60],[],some 61,[0,1,2,3,4,5,6,7],[7]⟩,⟨9,[7],[],none,[0,1,2,3,4,5,6,7,8],[]⟩,⟨10,[7],[7],none,[0,1,2,3,4,5,6,7,8,9],[]⟩]else[])
 tokOf:=(λi=>bif Nat.beq i 61 then 61 else 0)
 frzNew:=[2]
 thaw:=true
 kF:=true }
theorem ZpI(aA:Int)(aH:Option Addr)(aF aI:Nat)(aJ:Option Addr)(aG aK:Nat)(p1a:Option Addr)(p1n p1c:Nat)(m:Mem)(R:RT)(h:
 lV [int i64 aA,slice aH aF aI,slice aJ aG aK] λxL=>fzM m xL λb m'=>lE [some (Box.mk b xL 30 3 true true)] λan=>m.free b->(∀(b' o:Nat)(u:Value),m' b' o=some u->m b' o =
 some u\/b'=b)->Mem.k m b=none->∀(b:Nat),kB Tryz.prog 38 [agg (Array.mk xL)] m' λax m'=>br (!ax) (rtM m m' R (tuple (Array.mk [agg (Array.mk [int i64 0,slice none 0 0,slice none 0 0]),int i64 250])))
 (∃(R_1:RT),True/\CX Tryz.prog 13 (Array.mk [agg (Array.mk xL)]) m' [] R_1/\Za1 (Shape.agg [Shape.int i64,Shape.slice,Shape.slice]) R_1/\∀(n:Int)(a:Option Addr)(ao c:Nat)(ap:Option Addr) (ai ay:
 Nat) (ad:Mem),lV [int i64 n,slice a ao c,slice ap ai ay] λxL=>m'.le ad->R_1 (agg (Array.mk xL)) ad []->∀(az aq ae:Nat),lE (some (Box.mk az xL 30 3 false true)) λyL=>ad.free ae->Mem.k ad ae
 = none->∃(I:IT),inI I [int i64 0] [[int i64 0,slice none 0 0,slice none 0 0],[int i64 n,slice a ao c,slice none 0 0]] [slice none 0 0] (Mem.updK ad ae [])/\∀(n:Int)(cs aa:List Value)(a:Option Addr)
 (a0 c:Nat) (m':Mem) (ar:Nat),lX (slice a a0 c) λaj=>lE [some (Tok.mk aj 2)] λxL=>lE (some (Box.mk aq aa 30 3 false true)::yL::some (Box.mk b cs 30 3 false true)::an) λa1=>True->I [int i64 n]
 [cs,aa] [aj] m' ar->br (decide (n < (↑p1n:Int))) (atA p1a λa2 o=>Zag n p1n/\∃(v:Value),lE (ZaO i64 v&&decide (i64=i64)) λau=>m' a2 (o+Int.toNat n*1)=some v/\∃(av:Nat),∃(es:List
 (Value×Value)),∃(aw:Value),∃(o:Bool),lV (Array.toList (Value.cells aw)) λak=>Value.map (some ae)=Value.map (some av)/\Mem.k m' av=some es/\Zra Tryz.prog 3 v/\LookIs Tryz.prog 3 v es (agg
 (Array.mk [])) aw o/\∀(a3:Nat),lE (some (Box.mk a3 ak 108 0 false true)::a1) λal=>chk (Nat.beq (ak.length) 0&&Zdq ak) (∃(ag:Bool),br o (Zad al/\xL=xL/\[bool true]=[bool ag]) (chk au (br
 (decide (intOf v < (0:Int))) (Zad al/\xL=xL/\[bool true]=[bool ag]) (chk au (Zad al/\xL=xL/\[bool (decide (intOf v ≥ (↑ai:Int)))]=[bool ag]))))/\br ag (rtM m m' R (tuple (Array.mk
 [agg (Array.mk [int i64 0,slice none 0 0,slice none 0 0]),int i64 250]))) (∃(ah:Nat),∃(es:List (Value×Value)),∃(es':List (Value×Value)),lM (Mem.updK m' ah es') λmL=>Value.map (some ae) =
 Value.map (some ah)/\Mem.k m' ah=some es/\Zra Tryz.prog 3 v/\Zil Tryz.prog 3 v (agg (Array.mk [])) es es'/\Mem.k m ah=none/\Eng.Zvs aa 2 λab=>lE (slN ab+1) λac=>chk (ZbZ v) (atA ap λa4
 o=>Zag (intOf v) ai/\∃a5 a6:Value,lV [a5,a6] λxL=>mL.reads a4 (o+Int.toNat (intOf v)*2) xL/\∀(am:Nat),lM (mL.add am xL) λaf=>mL.free am->chk (Zbd
 ab&&true) ((Tok.mk aj 2=Tok.mk ab 2\/ab=slice none 0 0\/slC ab < ac)/\∃(xs:List Value),∃(ys:List Value),xs.length=slN ab*2/\ys.length=1*2/\rowRd af (slA ab) xs/\rowRd af (some
 (Addr.mk am 0 none)) ys/\(∀(u:Value),u∈ys->u.oneCell'=true)/\ac*40<=140737488355328/\ac<=9223372036854775807/\∀(a':Option Addr)(c':Nat)(m':Mem),af.le m'->rowRd m' a' (List.append xs
 ys)->TokFact af (slA ab) a' ac c'->chk (Nat.ble 3 (aa.length)) (∀(M:Mem),mL.le M->af.le M->m'.le M->Zad (some (Box.mk aq [] 30 3 false true)::yL::some (Box.mk b [] 30 3 false true) ::
 an)/\nxI ar I [int i64 (i64.wrap (n+(1:Int)))] [cs,ZaC aa 2 [slice a' ac c']] [slice a' ac c'] M)))))) (chk (Nat.beq (aa.length) 3&&Zdq aa) (rtM m m' R (tuple (Array.mk [agg (Array.mk aa),int
 i64 0])))))):CX Tryz.prog 14 #[.agg #[.int .i64 aA,.slice aH aF aI,.slice aJ aG aK],.slice p1a p1n p1c] m [] R:=
 Zaq (E:=Zq4) Zal mix Tryz.func14 (by kernel_rfl) (Eq.mp (by kernel_rfl) h)
def ZpJ:Env:={ EB with
 loops:=(λi=>bif Nat.beq i 3 then⟨[(12,.int .i64)],[],[],false⟩ else⟨[],[],[],false⟩)
 dr:=(λi=>bif Nat.beq i 5 then[⟨0,[1],[],none,[],[]⟩,⟨1,[1],[],none,[0],[]⟩,⟨2,[],[],none,[],[]⟩,⟨3,[4],[],none,[],[]⟩,⟨4,[],[],none,[3],[]⟩,⟨5,[],[],none,[0,1,2,3,4],[]⟩]else[])
 thaw:=true
 stAt:=(λi=>bif Nat.beq i 22 then some 7 else none)
 last:=(λi=>bif Nat.beq i 5 then true else false)
 tokC:=(λi=>bif Nat.beq i 7 then some (7,8)else none) }
theorem Znc(aA aC aD aE aU aT aS:Int)(aQ:Option Addr)(aP aR:Nat)(m:Mem)(R:RT)(h:
 ∀(b b_1:Nat),∃(R_1:RT),CXT Tryz.prog 131 (Array.mk [slice aQ aP aR]) m 8 R_1/\Za1 Shape.slice R_1/\∀(a:Option Addr)(n c:Nat)(m':Mem),lX (slice a n c) λyL=>lV [int u8 aA,int u64
 aC,int u64 aD,int u64 aE,int u64 aU,int i64 aT,int i64 aS,yL] λxL=>m.le m'->R_1 yL m' []->∃(I:IT),inI I [int i64 0] [] [] m'/\∀(n_1:Int)(m':Mem)(n_2:Nat),lE (Int.toNat n_1 *
 8) λyL_1=>True->I [int i64 n_1] [] [] m' n_2->br (decide (n_1 < (↑n:Int))) (atA a λb_2 o=>Zag n_1 n/\∃v v_1 v_2 v_3 v_4 v_5 v_6 v_7:Value,lV [v,v_1,v_2,v_3,v_4,v_5,v_6,v_7] λxL_1=>m'.reads b_2 (o+yL_1) xL_1/\∀(b_3:Nat),chk (v.oneCell'&&(v_1.oneCell'&&(v_2.oneCell' &&
 (v_3.oneCell'&&(v_4.oneCell'&&(v_5.oneCell'&&(v_6.oneCell'&&(v_7.oneCell'&&true)))))))) (∃(f:Fx),∃(R:RT),R=f 4 [agg (Array.mk xL_1)] m'/\CX Tryz.prog 108 (Array.mk [agg
 (Array.mk xL_1)]) m' [] R/\Za1 (shT) R/\∀(n_3 n_4 n_5 n_6 n_7 n_8 n_9:Int)(a_5:Option Addr)(n_10 c_1:Nat)(m'_1:Mem),lV [int u8 n_3,int u64 n_4,int u64 n_5,int u64 n_6,int u64 n_7,int i64 n_8,int
 i64 n_9,slice a_5 n_10 c_1] λxL_2=>m'.le m'_1->R (agg (Array.mk xL_2)) m'_1 []->atA a λb_4 o=>Zag n_1 n/\∀(M:Mem),m'.le M->m'_1.le M->yL=slice (some (Addr.mk b_4 0 none)) n c/\o +
 yL_1+8<=n*8/\Zad [some (Box.mk b_1 [int u8 0,int u64 0,int u64 0,int u64 0,int u64 0,int i64 0,int i64 0,slice none 0 0] 52 8 false true),some (Box.mk b xL 52 8 false true)]/\[some (Tok.mk yL 8)] =
 [some (Tok.mk yL 8)]/\nxI n_2 I [int i64 (i64.wrap (n_1+(1:Int)))] [] [] (Mem.upd M b_4 (o+yL_1) xL_2))) (rtM m m' R (agg (Array.mk xL)))):CX Tryz.prog 108 #[.agg #[.int .u8 aA,.int .u64 aC,.int .u64 aD,.int .u64 aE,.int .u64 aU,.int .i64 aT,.int .i64 aS,.slice aQ aP aR]] m [] R:=
 Zaq (E:=ZpJ) Zal mix Tryz.func108 (by kernel_rfl) (Eq.mp (by kernel_rfl) h)
def ZbW:Env:={ EB with
 tokOf:=(λi=>bif Nat.beq i 2 then 7 else bif Nat.beq i 7 then 7 else 0)
 tokC:=(λi=>bif Nat.beq i 5 then some (7,8)else none)
 thaw:=true }
theorem ZbJ(p0a:Option Addr)(p0n p0c:Nat)(m:Mem)(R:RT)(h:
 lE (0+p0n) λyL=>br (Option.isNone p0a) (slice none 0 0=slice none 0 0/\R (slice none 0 0) m []) (((0:Int)=(0:Int)/\(0:Int)<=(0:Int)/\(0:Int)*(↑(80:Nat):Int)<=(281474976710656:Int)/\(0
 : Int)<=(9223372036854775807:Int))/\∀(b:Nat),lX (slice (some (Addr.mk b 0 none)) 0 (Int.toNat (0:Int))) λyL_1=>m.free b->Mem.k m b=none->(Tok.mk yL_1 8=Tok.mk yL_1 8\/yL_1=slice none 0 0\/
 Int.toNat (0:Int) < yL)/\∃(xs:List Value),∃(ys:List Value),xs.length=0*8/\ys.length=p0n*8/\rowRd m (some (Addr.mk b 0 none)) xs/\rowRd m p0a ys/\(∀(u:Value),u∈ys->u.oneCell'
 = true)/\yL*80<=140737488355328/\yL<=9223372036854775807/\∀(a':Option Addr)(c':Nat)(m':Mem),lE (some (Tok.mk (slice a' yL c') 8)) λyL_2=>m.le m'->rowRd m' a' (List.append xs ys)->TokFact m
 (some (Addr.mk b 0 none)) a' yL c'->yL_2=yL_2/\R (slice a' yL c') m' [])):CXT Tryz.prog 131 #[.slice p0a p0n p0c] m 8 R:=
 Zh6 (E:=ZbW) Zal mix Tryz.func131 [.v (.slice p0a p0n p0c)] (by kernel_rfl) (Eq.mp (by kernel_rfl) h)
def Zue:Env:={ EB with
 frzNew:=[1] }
theorem Zq5(aA aC aD aE aU aT aS:Int)(aQ:Option Addr)(aP aR:Nat)(m:Mem)(R:RT)(h:
 lV [int u8 aA,int u64 aC,int u64 aD,int u64 aE,int u64 aU,int i64 aT,int i64 aS,slice aQ aP aR] λxL=>fzM m xL λb m'=>∀(b:Nat),kB Tryz.prog 69 [agg (Array.mk xL)] m' λb m'
 => br (!b) (rtM m m' R (agg (Array.mk [int u8 0,int u64 0,int u64 0,int u64 0,int u64 0,int i64 0,int i64 0,slice none 0 0]))) (∃(R_1:RT),True/\CX Tryz.prog 108 (Array.mk [agg (Array.mk xL)]) m' [] R_1/\
 Za1 (shT) R_1/\∀(n n_1 n_2 n_3 n_4 n_5 n_6:Int)(a:Option Addr)(n_7 c:Nat)(m'_1:Mem),lX (agg (Array.mk [int u8 n,int u64 n_1,int u64 n_2,int u64 n_3,int u64 n_4,int i64 n_5,int i64 n_6,slice a n_7
 c])) λyL=>m'.le m'_1->R_1 yL m'_1 []->rtM m m'_1 R yL)):CX Tryz.prog 71 #[.agg #[.int .u8 aA,.int .u64 aC,.int .u64 aD,.int .u64 aE,.int .u64 aU,.int .i64 aT,.int .i64 aS,.slice aQ aP aR]] m [] R:=
 Zaq (E:=Zue) Zal mix Tryz.func71 (by kernel_rfl) (Eq.mp (by kernel_rfl) h)
def Zbu:Env:={ EB with
 tokOf:=(λi=>bif Nat.beq i 2 then 7 else bif Nat.beq i 7 then 7 else 0)
 tokC:=(λi=>bif Nat.beq i 5 then some (7,5)else none)
 thaw:=true }
theorem Zbk(p0a:Option Addr)(p0n p0c:Nat)(m:Mem)(R:RT)(h:
 lE (0+p0n) λyL=>br (Option.isNone p0a) (slice none 0 0=slice none 0 0/\R (slice none 0 0) m []) (((0:Int)=(0:Int)/\(0:Int)<=(0:Int)/\(0:Int)*(↑(64:Nat):Int)<=(281474976710656:Int)/\(0
 : Int)<=(9223372036854775807:Int))/\∀(b:Nat),lX (slice (some (Addr.mk b 0 none)) 0 (Int.toNat (0:Int))) λyL_1=>m.free b->Mem.k m b=none->(Tok.mk yL_1 5=Tok.mk yL_1 5\/yL_1=slice none 0 0\/
 Int.toNat (0:Int) < yL)/\∃(xs:List Value),∃(ys:List Value),xs.length=0*5/\ys.length=p0n*5/\rowRd m (some (Addr.mk b 0 none)) xs/\rowRd m p0a ys/\(∀(u:Value),u∈ys->u.oneCell'
 = true)/\yL*64<=140737488355328/\yL<=9223372036854775807/\∀(a':Option Addr)(c':Nat)(m':Mem),lE (some (Tok.mk (slice a' yL c') 5)) λyL_2=>m.le m'->rowRd m' a' (List.append xs ys)->TokFact m
 (some (Addr.mk b 0 none)) a' yL c'->yL_2=yL_2/\R (slice a' yL c') m' [])):CXT Tryz.prog 132 #[.slice p0a p0n p0c] m 5 R:=
 Zh6 (E:=Zbu) Zal mix Tryz.func132 [.v (.slice p0a p0n p0c)] (by kernel_rfl) (Eq.mp (by kernel_rfl) h)
def Zi5:Env:={ EB with
 loops:=(λi=>bif Nat.beq i 3 then⟨[(14,.int .i64)],[],[],false⟩ else⟨[],[],[],false⟩)
 dr:=(λi=>bif Nat.beq i 5 then[⟨0,[2],[],none,[],[]⟩,⟨1,[2],[],none,[0],[]⟩,⟨2,[],[],none,[],[]⟩,⟨3,[6],[],none,[],[]⟩,⟨4,[],[],none,[],[]⟩,⟨5,[],[],none,[3,4],[]⟩,⟨6,[],[],none,[0,1,2,3,4,5],[]⟩]else[])
 thaw:=true
 stAt:=(λi=>bif Nat.beq i 25 then some 9 else none)
 last:=(λi=>bif Nat.beq i 5 then true else false)
 tokC:=(λi=>bif Nat.beq i 9 then some (9,5)else none) }
theorem ZhQ(aA:Int)(aC:Value)(aD:ByteArray)(aE:Int)(aY:Option Addr)(aV bA p1g:Nat)(p1fi p1ca:List Value)(m:Mem)(R:RT)(h:
 ∀(b b_1:Nat),∃(R_1:RT),lV [func (Fn.func p1g) (Array.mk p1fi) (Array.mk p1ca)] λxL=>CXT Tryz.prog 132 (Array.mk [slice aY aV bA]) m 5 R_1/\Za1 Shape.slice R_1/\∀(a:Option Addr)(n c:Nat)
 (m':Mem),lX (slice a n c) λyL=>lV [int u8 aA,aC,string aD,int i64 aE,yL] λxL_1=>m.le m'->R_1 yL m' []->∃(I:IT),inI I [int i64 0] [] [] m'/\∀(n_1:Int)(m':Mem)(n_2:Nat),lE
 (Int.toNat n_1*5) λyL_1=>True->I [int i64 n_1] [] [] m' n_2->br (decide (n_1 < (↑n:Int))) (atA a λb_2 o=>Zag n_1 n/\∃v v_1 v_2 v_3 v_4:Value,lV [v,v_1,v_2,v_3,v_4] λxL_2=>m'.reads b_2 (o+yL_1) xL_2/\∀(b_3:Nat),chk (v.oneCell'&&(v_1.oneCell'&&(v_2.oneCell'&&(v_3.oneCell'&&(v_4.oneCell'&&true))))) (∃
 (f:Fx),∃(R:RT),R=f 5 (agg (Array.mk xL_2)::xL) m'/\CX Tryz.prog 109 (Array.mk (agg (Array.mk xL_2)::xL)) m' [] R/\Za1 (Shape.agg [Shape.int u8,Shape.any,Shape.str,Shape.int i64,Shape.slice]) R/\∀
 (n_3:Int) (v:Value) (s:ByteArray) (n_4:Int) (a_5:Option Addr) (n_5 c_1:Nat) (m'_1:Mem),lV [int u8 n_3,v,string s,int i64 n_4,slice a_5 n_5 c_1] λxL=>m'.le m'_1->R (agg (Array.mk xL)) m'_1 []
 -> atA a λb_4 o=>Zag n_1 n/\∀(M:Mem),m'.le M->m'_1.le M->chk (v.oneCell'&&true) (yL=slice (some (Addr.mk b_4 0 none)) n c/\o+yL_1+5<=n*5/\Zad [some (Box.mk b_1 [int u8 0,
 Value.float .f64 0,string bE0,int i64 0,slice none 0 0] 133 5 false true),some (Box.mk b xL_1 133 5 false true)]/\[some (Tok.mk yL 5)]=[some (Tok.mk yL 5)]/\nxI n_2 I [int i64
 (i64.wrap (n_1+(1:Int)))] [] [] (Mem.upd M b_4 (o+yL_1) xL)))) (∃(R_2:RT),True/\CX Tryz.prog p1g (Array.mk (List.append (List.append p1fi [agg (Array.mk xL_1)]) p1ca)) m' [] R_2/\Za1 (Shape.agg
 [Shape.int u8,Shape.any,Shape.str,Shape.int i64,Shape.slice]) R_2/\∀(n:Int)(v:Value)(s:ByteArray)(n_3:Int)(a:Option Addr)(n_4 c:Nat)(m'_1:Mem),lX (agg (Array.mk [int u8 n,v,string s,int i64
 n_3,slice a n_4 c])) λyL=>m'.le m'_1->R_2 yL m'_1 []->chk (v.oneCell'&&true) (rtM m m'_1 R yL))):CX Tryz.prog 109 #[.agg #[.int .u8 aA,aC,.string aD,.int .i64 aE,.slice aY aV bA],.func (.func p1g) p1fi.toArray p1ca.toArray] m [] R:=
 Zaq (E:=Zi5) Zal mix Tryz.func109 (by kernel_rfl) (Eq.mp (by kernel_rfl) h)
def Zk8:Env:={ EB with
 frzNew:=[1] }
theorem Zi6(aA:Int)(aC:Value)(aD:ByteArray)(aE:Int)(aY:Option Addr)(aV bA:Nat)(m:Mem)(R:RT)(h:
 lV [int u8 aA,aC,string aD,int i64 aE,slice aY aV bA] λxL=>fzM m xL λb m'=>∀(b:Nat),chk (aC.oneCell'&&true) (rtM m m' R (agg (Array.mk xL)))):CX Tryz.prog 110 #[.agg #[.int .u8 aA,aC,.string aD,.int .i64 aE,.slice aY aV bA]] m [] R:=
 Zaq (E:=Zk8) Zal mix Tryz.func110 (by kernel_rfl) (Eq.mp (by kernel_rfl) h)
def ZpK:Env:={ EB with
 frzNew:=[1] }
theorem Znd(aA:Int)(aC:Value)(aD:ByteArray)(aE:Int)(aY:Option Addr)(aV bA:Nat)(m:Mem)(R:RT)(h:
 lV [int u8 aA,aC,string aD,int i64 aE,slice aY aV bA] λxL=>fzM m xL λb m'=>∀(b:Nat),kB Tryz.prog 95 [agg (Array.mk xL)] m' λb m'=>br (!b) (rtM m m' R (agg (Array.mk [int u8 0,
 Value.float .f64 0,string bE0,int i64 0,slice none 0 0]))) (∃(R_1:RT),True/\CX Tryz.prog 109 (Array.mk [agg (Array.mk xL),func (Fn.func 110) (Array.mk []) (Array.mk [])]) m' []
 R_1/\Za1 (Shape.agg [Shape.int u8,Shape.any,Shape.str,Shape.int i64,Shape.slice]) R_1/\∀(n:Int)(v:Value)(s:ByteArray)(n_1:Int)(a:Option Addr)(n_2 c:Nat)(m'_1:Mem),lX (agg (Array.mk [int u8
 n,v,string s,int i64 n_1,slice a n_2 c])) λyL=>m'.le m'_1->R_1 yL m'_1 []->chk (v.oneCell'&&true) (rtM m m'_1 R yL))):CX Tryz.prog 74 #[.agg #[.int .u8 aA,aC,.string aD,.int .i64 aE,.slice aY aV bA]] m [] R:=
 Zaq (E:=ZpK) Zal mix Tryz.func74 (by kernel_rfl) (Eq.mp (by kernel_rfl) h)
def ZeO:Env:=EB
theorem Zes(aA:Int)(aC:ByteArray)(aD aE:Int)(aU:Value)(aT:ByteArray)(aS:Int)(aQ:Option Addr)(aP aR:Nat)(m:Mem)(R:RT)(h:
 ∀(b b:Nat),∃(R_1:RT),True/\CX Tryz.prog 74 (Array.mk [agg (Array.mk [int u8 aE,aU,string aT,int i64 aS,slice aQ aP aR])]) m [] R_1/\Za1 (Shape.agg [Shape.int u8,Shape.any,Shape.str,
 Shape.int i64,Shape.slice]) R_1/\∀(n:Int)(v:Value)(s:ByteArray)(n_1:Int)(a:Option Addr)(n_2 c:Nat)(m':Mem),lV [int u8 n,v,string s,int i64 n_1,slice a n_2 c] λxL=>m.le m'->R_1 (agg
 (Array.mk xL)) m' []->chk (v.oneCell'&&true) (chk (v.oneCell'&&true) (rtM m m' R (agg (Array.mk (int u8 aA::string aC::int i64 aD::xL)))))):CX Tryz.prog 76 #[.agg #[.int .u8 aA,.string aC,.int .i64 aD,.int .u8 aE,aU,.string aT,.int .i64 aS,.slice aQ aP aR]] m [] R:=
 Zaq (E:=ZeO) Zal mix Tryz.func76 (by kernel_rfl) (Eq.mp (by kernel_rfl) h)
def Zcj:Env:={ EB with
 loops:=(λi=>bif Nat.beq i 3 then⟨[(5,.slice),(10,.int .i64)],[],[(19,8)],false⟩ else⟨[],[],[],false⟩)
 tokOf:=(λi=>bif Nat.beq i 19 then 19 else 0)
 thaw:=true }
theorem Zcc(p0a:Option Addr)(p0n p0c p1g:Nat)(p1fi p1ca:List Value)(m:Mem)(R:RT)(h:
 ∃(I:IT),inI I [slice none 0 0,int i64 0] [] [slice none 0 0] m/\∀(a:Option Addr)(n c:Nat)(n_1:Int)(a_1:Option Addr)(n_2 c_1:Nat)(m':Mem)(n_3:Nat),lX (slice a n c) λyL=>lE (n+1) fun
 yL_1=>True->I [yL,int i64 n_1] [] [slice a_1 n_2 c_1] m' n_3->br (decide (n_1 < (↑p0n:Int))) (atA p0a λb o=>Zag n_1 p0n/\∃v v_1 v_2 v_3 v_4 v_5 v_6 v_7:Value,lV [v,v_1,v_2,v_3,v_4,v_5,v_6,v_7] λxL=>m'.reads b (o+Int.toNat n_1*8) xL/\∀(b:Nat),chk (v.oneCell'&&(v_1.oneCell' &&
 (v_2.oneCell'&&(v_3.oneCell'&&(v_4.oneCell'&&(v_5.oneCell'&&(v_6.oneCell'&&(v_7.oneCell'&&true)))))))) (∃(R:RT),True/\CX Tryz.prog p1g (Array.mk (List.append
 (List.append p1fi [agg (Array.mk xL)]) p1ca)) m' [] R/\Za1 (Shape.agg [Shape.int u8,Shape.str,Shape.int i64,Shape.int u8,Shape.any,Shape.str,Shape.int i64,Shape.slice]) R/\∀(n_4:Int)(s:ByteArray) (n_5
 n_6:Int) (v:Value) (s_1:ByteArray) (n_7:Int) (a_4:Option Addr) (n_8 c_2:Nat) (m'_1:Mem),lV [int u8 n_4,string s,int i64 n_5,int u8 n_6,v,string s_1,int i64 n_7,slice a_4 n_8 c_2] λxL=>m'.le m'_1->R (agg (Array.mk xL)) m'_1 []->∀(b:Nat),lM (m'_1.add b xL) λmL=>m'_1.free b->(Tok.mk (slice a_1 n_2 c_1) 8=Tok.mk yL 8\/yL=slice none 0 0\/c < yL_1)/\∃(xs:List Value),∃(ys:List
 Value),xs.length=n*8/\ys.length=1*8/\rowRd mL a xs/\rowRd mL (some (Addr.mk b 0 none)) ys/\(∀(u:Value),u∈ys->u.oneCell'=true)/\yL_1*96<=140737488355328/\yL_1 <=
 9223372036854775807/\∀(a':Option Addr)(c':Nat)(m':Mem),mL.le m'->rowRd m' a' (List.append xs ys)->TokFact mL a a' yL_1 c'->nxI n_3 I [slice a' yL_1 c',int i64 (i64.wrap (n_1+(1:Int)))] []
 [slice a' yL_1 c'] m')) (rtM m m' R yL)):CX Tryz.prog 75 #[.slice p0a p0n p0c,.func (.func p1g) p1fi.toArray p1ca.toArray] m [] R:=
 Zaq (E:=Zcj) Zal mix Tryz.func75 (by kernel_rfl) (Eq.mp (by kernel_rfl) h)
def ZgA:Env:=EB
theorem ZfF(aA:Int)(aC:ByteArray)(aJ:Option Addr)(aG aK:Nat)(aE:Int)(aU:Value)(aT:ByteArray)(aS:Int)(aQ:Option Addr)(aP aR:Nat)(m:Mem)(R:RT)(h:
 ∀(b b:Nat),∃(R_1:RT),True/\CX Tryz.prog 74 (Array.mk [agg (Array.mk [int u8 aE,aU,string aT,int i64 aS,slice aQ aP aR])]) m [] R_1/\Za1 (Shape.agg [Shape.int u8,Shape.any,Shape.str,
 Shape.int i64,Shape.slice]) R_1/\∀(n:Int)(v:Value)(s:ByteArray)(n_1:Int)(a:Option Addr)(n_2 c:Nat)(m':Mem),lV [int u8 n,v,string s,int i64 n_1,slice a n_2 c] λxL=>m.le m'->R_1 (agg
 (Array.mk xL)) m' []->chk (v.oneCell'&&true) (kS Tryz.prog 75 [slice aJ aG aK,func (Fn.func 76) (Array.mk []) (Array.mk [])] m' λa n c m'=>chk (v.oneCell'&&true) (rtM m m' R (agg
 (Array.mk (int u8 aA::string aC::slice a n c::xL)))))):CX Tryz.prog 73 #[.agg #[.int .u8 aA,.string aC,.slice aJ aG aK,.int .u8 aE,aU,.string aT,.int .i64 aS,.slice aQ aP aR]] m [] R:=
 Zaq (E:=ZgA) Zal mix Tryz.func73 (by kernel_rfl) (Eq.mp (by kernel_rfl) h)
def ZbK:Env:={ EB with
 loops:=(λi=>bif Nat.beq i 3 then⟨[(5,.slice),(10,.int .i64)],[],[(19,8)],false⟩ else⟨[],[],[],false⟩)
 tokOf:=(λi=>bif Nat.beq i 19 then 19 else 0)
 thaw:=true }
theorem ZbE(p0a:Option Addr)(p0n p0c p1g:Nat)(p1fi p1ca:List Value)(m:Mem)(R:RT)(h:
 ∃(I:IT),inI I [slice none 0 0,int i64 0] [] [slice none 0 0] m/\∀(a:Option Addr)(n c:Nat)(n_1:Int)(a_1:Option Addr)(n_2 c_1:Nat)(m':Mem)(n_3:Nat),lX (slice a n c) λyL=>lE (n+1) fun
 yL_1=>True->I [yL,int i64 n_1] [] [slice a_1 n_2 c_1] m' n_3->br (decide (n_1 < (↑p0n:Int))) (atA p0a λb o=>Zag n_1 p0n/\∃v v_1 v_2 v_3 v_4 v_5 v_6 v_7:Value,lV [v,v_1,v_2,v_3,v_4,v_5,v_6,v_7] λxL=>m'.reads b (o+Int.toNat n_1*8) xL/\∀(b:Nat),chk (v.oneCell'&&(v_1.oneCell' &&
 (v_2.oneCell'&&(v_3.oneCell'&&(v_4.oneCell'&&(v_5.oneCell'&&(v_6.oneCell'&&(v_7.oneCell'&&true)))))))) (∃(R:RT),True/\CX Tryz.prog p1g (Array.mk (List.append
 (List.append p1fi [agg (Array.mk xL)]) p1ca)) m' [] R/\Za1 (Shape.agg [Shape.int u8,Shape.str,Shape.slice,Shape.int u8,Shape.any,Shape.str,Shape.int i64,Shape.slice]) R/\∀(n_4:Int)(s:ByteArray) (a_4:
 Option Addr) (n_5 c_2:Nat) (n_6:Int) (v:Value) (s_1:ByteArray) (n_7:Int) (a_5:Option Addr) (n_8 c_3:Nat) (m'_1:Mem),lV [int u8 n_4,string s,slice a_4 n_5 c_2,int u8 n_6,v,string s_1,int i64 n_7,
 slice a_5 n_8 c_3] λxL=>m'.le m'_1->R (agg (Array.mk xL)) m'_1 []->∀(b:Nat),lM (m'_1.add b xL) λmL=>m'_1.free b->(Tok.mk (slice a_1 n_2 c_1) 8=Tok.mk yL 8\/yL=slice none 0 0\/c < yL_1)
 /\ ∃(xs:List Value),∃(ys:List Value),xs.length=n*8/\ys.length=1*8/\rowRd mL a xs/\rowRd mL (some (Addr.mk b 0 none)) ys/\(∀(u:Value),u∈ys->u.oneCell'=true)/\yL_1*112 <=
 140737488355328/\yL_1<=9223372036854775807/\∀(a':Option Addr)(c':Nat)(m':Mem),mL.le m'->rowRd m' a' (List.append xs ys)->TokFact mL a a' yL_1 c'->nxI n_3 I [slice a' yL_1 c',int i64 (i64.wrap (n_1+(1:Int)))] [] [slice a' yL_1 c'] m')) (rtM m m' R yL)):CX Tryz.prog 72 #[.slice p0a p0n p0c,.func (.func p1g) p1fi.toArray p1ca.toArray] m [] R:=
 Zaq (E:=ZbK) Zal mix Tryz.func72 (by kernel_rfl) (Eq.mp (by kernel_rfl) h)
def Zi7:Env:=EB
theorem ZhR(aA:Int)(aC aD:Bool)(aE aU aT aS dA dB dO:Int)(bQ:Option Addr)(bR bT:Nat)(cJ:ByteArray)(bZ:Int)(bV:Option Addr)(bW bX:Nat)(cN:ByteArray)(cO:Int)(m:Mem)(R:RT)(h:
 ∀(b b:Nat),∃(R_1:RT),True/\CX Tryz.prog 71 (Array.mk [agg (Array.mk [int u8 aE,int u64 aU,int u64 aT,int u64 aS,int u64 dA,int i64 dB,int i64 dO,slice bQ bR bT])]) m [] R_1/\
 Za1 (shT) R_1/\∀(n n_1 n_2 n_3 n_4 n_5 n_6:Int)(a:Option Addr)(n_7 c:Nat)(m':Mem),m.le m'->R_1 (agg (Array.mk [int u8 n,int u64 n_1,int u64 n_2,int u64 n_3,int u64 n_4,int i64 n_5,int i64 n_6,
 slice a n_7 c])) m' []->kS Tryz.prog 72 [slice bV bW bX,func (Fn.func 73) (Array.mk []) (Array.mk [])] m' λa_3 n_8 c_1 m'=>rtM m m' R (agg (Array.mk [int u8 aA,bool aC,bool aD,int u8 n,int
 u64 n_1,int u64 n_2,int u64 n_3,int u64 n_4,int i64 n_5,int i64 n_6,slice a n_7 c,string cJ,int i64 bZ,slice a_3 n_8 c_1,string cN,int i64 cO]))):CX Tryz.prog 43 #[.agg #[.int .u8 aA,.bool aC,.bool aD,.int .u8 aE,.int .u64 aU,.int .u64 aT,.int .u64 aS,.int .u64 dA,.int .i64 dB,.int .i64 dO,.slice bQ bR bT,.string cJ,.int .i64 bZ,.slice bV bW bX,.string cN,.int .i64 cO]] m [] R:=
 Zaq (E:=Zi7) Zal mix Tryz.func43 (by kernel_rfl) (Eq.mp (by kernel_rfl) h)
def Zck:Env:={ EB with
 loops:=(λi=>bif Nat.beq i 3 then⟨[(5,.slice),(10,.int .i64)],[],[(19,16)],false⟩ else⟨[],[],[],false⟩)
 tokOf:=(λi=>bif Nat.beq i 19 then 19 else 0)
 thaw:=true }
theorem Zcd(p0a:Option Addr)(p0n p0c p1g:Nat)(p1fi p1ca:List Value)(m:Mem)(R:RT)(h:
 ∃(I:IT),inI I [slice none 0 0,int i64 0] [] [slice none 0 0] m/\∀(a:Option Addr)(n c:Nat)(n_1:Int)(a_1:Option Addr)(n_2 c_1:Nat)(m':Mem)(n_3:Nat),lX (slice a n c) λyL=>lE (n+1) fun
 yL_1=>True->I [yL,int i64 n_1] [] [slice a_1 n_2 c_1] m' n_3->br (decide (n_1 < (↑p0n:Int))) (atA p0a λb o=>Zag n_1 p0n/\∃v v_1 v_2 v_3 v_4 v_5 v_6 v_7 v_8 v_9 v_10 v_11 v_12 v_13 v_14 v_15:Value,lV [v,v_1,v_2,
 v_3,v_4,v_5,v_6,v_7,v_8,v_9,v_10,v_11,v_12,v_13,v_14,v_15] λxL=>m'.reads b (o+Int.toNat n_1*16) xL/\∀(b:Nat),chk (v.oneCell'&&(v_1.oneCell'&&(v_2.oneCell' &&
 (v_3.oneCell'&&(v_4.oneCell'&&(v_5.oneCell'&&(v_6.oneCell'&&(v_7.oneCell'&&(v_8.oneCell'&&(v_9.oneCell'&&(v_10.oneCell'&&(v_11.oneCell' &&
 (v_12.oneCell'&&(v_13.oneCell'&&(v_14.oneCell'&&(v_15.oneCell'&&true)))))))))))))))) (∃(R:RT),True/\CX Tryz.prog p1g (Array.mk (List.append (List.append p1fi [agg (Array.mk xL)])
 p1ca)) m' [] R/\Za1 (Shape.agg [Shape.int u8,Shape.bool,Shape.bool,Shape.int u8,Shape.int u64,Shape.int u64,Shape.int u64,Shape.int u64,Shape.int i64,Shape.int i64,Shape.slice,Shape.str,Shape.int i64,
 Shape.slice,Shape.str,Shape.int i64]) R/\∀(n_4:Int)(b b_1:Bool)(n_5 n_6 n_7 n_8 n_9 n_10 n_11:Int)(a_4:Option Addr)(n_12 c_2:Nat)(s:ByteArray)(n_13:Int)(a_5:Option Addr)(n_14 c_3:Nat) (s_1
 : ByteArray) (n_15:Int) (m'_1:Mem),lV [int u8 n_4,bool b,bool b_1,int u8 n_5,int u64 n_6,int u64 n_7,int u64 n_8,int u64 n_9,int i64 n_10,int i64 n_11,slice a_4 n_12 c_2,string s,int i64 n_13,slice a_5
 n_14 c_3,string s_1,int i64 n_15] λxL=>m'.le m'_1->R (agg (Array.mk xL)) m'_1 []->∀(b:Nat),lM (m'_1.add b xL) λmL=>m'_1.free b->(Tok.mk (slice a_1 n_2 c_1) 16=Tok.mk yL 16\/yL=slice
 none 0 0\/c < yL_1)/\∃(xs:List Value),∃(ys:List Value),xs.length=n*16/\ys.length=1*16/\rowRd mL a xs/\rowRd mL (some (Addr.mk b 0 none)) ys/\(∀(u:Value),u∈ys->u.oneCell' =
 true)/\yL_1*168<=140737488355328/\yL_1<=9223372036854775807/\∀(a':Option Addr)(c':Nat)(m':Mem),mL.le m'->rowRd m' a' (List.append xs ys)->TokFact mL a a' yL_1 c'->nxI n_3 I [slice a' yL_1 c',int
 i64 (i64.wrap (n_1+(1:Int)))] [] [slice a' yL_1 c'] m')) (rtM m m' R yL)):CX Tryz.prog 42 #[.slice p0a p0n p0c,.func (.func p1g) p1fi.toArray p1ca.toArray] m [] R:=
 Zaq (E:=Zck) Zal mix Tryz.func42 (by kernel_rfl) (Eq.mp (by kernel_rfl) h)
def Zne:Env:={ EB with
 dr:=(λi=>bif Nat.beq i 1 then[⟨0,[1],[],none,[],[]⟩,⟨1,[1],[],none,[0],[]⟩,⟨2,[1],[],none,[],[]⟩,⟨3,[1],[],none,[2],[]⟩,⟨4,[],[],none,[2,3],[]⟩,⟨5,[],[],none,[0,1,2,3,4],[]⟩,⟨6,[2],[2],none,[0,1,2,3,4,5],[]⟩]else[])
 frzNew:=[1] }
theorem Zk9(aA:ByteArray)(aH:Option Addr)(aF aI:Nat)(m:Mem)(R:RT)(h:
 lV [slice aH aF aI,func (Fn.func 43) (Array.mk []) (Array.mk [])] λxL=>fzM m [string aA,slice aH aF aI] λb m'=>∀(b:Nat),∃(f:Fx),∃(R_1:RT),R_1=f 4 xL m'/\CX Tryz.prog 42
 (Array.mk xL) m' [] R_1/\Za1 Shape.slice R_1/\∀(a:Option Addr)(n c:Nat)(m'_1:Mem),m'.le m'_1->R_1 (slice a n c) m'_1 []->∀(M:Mem),m'.le M->m'_1.le M->rtM m M R (agg (Array.mk [string
 aA,slice a n c]))):CX Tryz.prog 41 #[.agg #[.string aA,.slice aH aF aI]] m [] R:=
 Zaq (E:=Zne) Zal mix Tryz.func41 (by kernel_rfl) (Eq.mp (by kernel_rfl) h)
def ZbX:Env:={ EB with
 loops:=(λi=>bif Nat.beq i 3 then⟨[(5,.slice),(10,.int .i64)],[],[(19,2)],false⟩ else⟨[],[],[],false⟩)
 tokOf:=(λi=>bif Nat.beq i 19 then 19 else 0)
 thaw:=true }
theorem ZbU(p0a:Option Addr)(p0n p0c p1g:Nat)(p1fi p1ca:List Value)(m:Mem)(R:RT)(h:
 ∃(I:IT),inI I [slice none 0 0,int i64 0] [] [slice none 0 0] m/\∀(a:Option Addr)(n c:Nat)(n_1:Int)(a_1:Option Addr)(n_2 c_1:Nat)(m':Mem)(n_3:Nat),lX (slice a n c) λyL=>lE (n+1) fun
 yL_1=>True->I [yL,int i64 n_1] [] [slice a_1 n_2 c_1] m' n_3->br (decide (n_1 < (↑p0n:Int))) (atA p0a λb o=>Zag n_1 p0n/\∃v v_1:Value,m'.reads b (o+Int.toNat n_1*2) [v,v_1]/\
 ∀(b:Nat),chk (v.oneCell'&&(v_1.oneCell'&&true)) (∃(R:RT),True/\CX Tryz.prog p1g (Array.mk (List.append (List.append p1fi [agg (Array.mk [v,v_1])]) p1ca)) m' [] R/\Za1 (Shape.agg [Shape.str,
 Shape.slice]) R/\∀(s:ByteArray)(a_4:Option Addr)(n_4 c_2:Nat)(m'_1:Mem),lV [string s,slice a_4 n_4 c_2] λxL=>m'.le m'_1->R (agg (Array.mk xL)) m'_1 []->∀(b:Nat),lM (m'_1.add b xL) fun
 mL=>m'_1.free b->(Tok.mk (slice a_1 n_2 c_1) 2=Tok.mk yL 2\/yL=slice none 0 0\/c < yL_1)/\∃(xs:List Value),∃(ys:List Value),xs.length=n*2/\ys.length=1*2/\rowRd mL a xs/\rowRd
 mL (some (Addr.mk b 0 none)) ys/\(∀(u:Value),u∈ys->u.oneCell'=true)/\yL_1*40<=140737488355328/\yL_1<=9223372036854775807/\∀(a':Option Addr)(c':Nat)(m':Mem),mL.le m'->rowRd m' a'
 (List.append xs ys)->TokFact mL a a' yL_1 c'->nxI n_3 I [slice a' yL_1 c',int i64 (i64.wrap (n_1+(1:Int)))] [] [slice a' yL_1 c'] m')) (rtM m m' R yL)):CX Tryz.prog 40 #[.slice p0a p0n p0c,.func (.func p1g) p1fi.toArray p1ca.toArray] m [] R:=
 Zaq (E:=ZbX) Zal mix Tryz.func40 (by kernel_rfl) (Eq.mp (by kernel_rfl) h)
def ZbY:Env:={ EB with
 tokOf:=(λi=>bif Nat.beq i 2 then 7 else bif Nat.beq i 7 then 7 else 0)
 tokC:=(λi=>bif Nat.beq i 5 then some (7,4)else none)
 thaw:=true }
theorem ZbL(p0a:Option Addr)(p0n p0c:Nat)(m:Mem)(R:RT)(h:
 lE (0+p0n) λyL=>br (Option.isNone p0a) (slice none 0 0=slice none 0 0/\R (slice none 0 0) m []) (((0:Int)=(0:Int)/\(0:Int)<=(0:Int)/\(0:Int)*(↑(48:Nat):Int)<=(281474976710656:Int)/\(0
 : Int)<=(9223372036854775807:Int))/\∀(b:Nat),lX (slice (some (Addr.mk b 0 none)) 0 (Int.toNat (0:Int))) λyL_1=>m.free b->Mem.k m b=none->(Tok.mk yL_1 4=Tok.mk yL_1 4\/yL_1=slice none 0 0\/
 Int.toNat (0:Int) < yL)/\∃(xs:List Value),∃(ys:List Value),xs.length=0*4/\ys.length=p0n*4/\rowRd m (some (Addr.mk b 0 none)) xs/\rowRd m p0a ys/\(∀(u:Value),u∈ys->u.oneCell'
 = true)/\yL*48<=140737488355328/\yL<=9223372036854775807/\∀(a':Option Addr)(c':Nat)(m':Mem),lE (some (Tok.mk (slice a' yL c') 4)) λyL_2=>m.le m'->rowRd m' a' (List.append xs ys)->TokFact m
 (some (Addr.mk b 0 none)) a' yL c'->yL_2=yL_2/\R (slice a' yL c') m' [])):CXT Tryz.prog 39 #[.slice p0a p0n p0c] m 4 R:=
 Zh6 (E:=ZbY) Zal mix Tryz.func39 [.v (.slice p0a p0n p0c)] (by kernel_rfl) (Eq.mp (by kernel_rfl) h)
def Zq6:Env:={ EB with
 dr:=(λi=>bif Nat.beq i 3 then[⟨0,[1],[],none,[],[]⟩,⟨1,[1],[],none,[0],[]⟩,⟨2,[1],[],none,[],[]⟩,⟨3,[1],[],none,[2],[]⟩,⟨4,[],[],none,[2,3],[]⟩,⟨5,[1],[],none,[],[]⟩,⟨6,[1],[],none,[5],[]⟩,⟨7,[],[],none,[2,3,4,5,6],[4]⟩,⟨8,[],[],none,[0,1,2,3,4,5,6,7],[]⟩,⟨9,[2],[2],none,[0,1,2,3,4,5,6,7,8],[]⟩]else[])
 frzNew:=[1] }
theorem ZpL(aA:Int)(aH:Option Addr)(aF aI:Nat)(aJ:Option Addr)(aG aK:Nat)(m:Mem)(R:RT)(h:
 lX (slice aH aF aI) λyL=>lV [int i64 aA,yL,slice aJ aG aK] λxL=>lV [slice aJ aG aK,func (Fn.func 41) (Array.mk []) (Array.mk [])] λxL_1=>fzM m xL λb m'=>∀(b:Nat),
 kB Tryz.prog 38 [agg (Array.mk xL)] m' λb m'=>br (!b) (rtM m m' R (agg (Array.mk [int i64 0,slice none 0 0,slice none 0 0]))) (∃(f:Fx),∃(R_1:RT),R_1=f 4 [yL] m'/\CX Tryz.prog 39 (Array.mk [yL]) m' []
 R_1/\Za1 Shape.slice R_1/\∀(a:Option Addr)(n c:Nat)(m'_1:Mem),m'.le m'_1->R_1 (slice a n c) m'_1 []->∃(R_2:RT),R_2=f 7 xL_1 m'_1/\CX Tryz.prog 40 (Array.mk xL_1) m'_1 [] R_2/\Za1 Shape.slice
 R_2/\∀(a_3:Option Addr)(n_1 c_1:Nat)(m'_2:Mem),m'_1.le m'_2->R_2 (slice a_3 n_1 c_1) m'_2 []->∀(M:Mem),m'.le M->m'_1.le M->m'_2.le M->rtM m M R (agg (Array.mk [int i64 aA,slice a n
 c,slice a_3 n_1 c_1])))):CX Tryz.prog 13 #[.agg #[.int .i64 aA,.slice aH aF aI,.slice aJ aG aK]] m [] R:=
 Zaq (E:=Zq6) Zal mix Tryz.func13 (by kernel_rfl) (Eq.mp (by kernel_rfl) h)
end Go.Proofs.YtojlhhphofhaoaaGreatDoor
namespace Go.Proofs.YtojlhhphofhaoaaGreatDoor
open Go Go.Eng Go.Rx Go.Proofs Go.RowKit
set_option maxRecDepth 100000
theorem ZBQ(l:List T):∀u∈Rx.ZcL l,u.oneCell'=true:=by
 intro u hu
 simp only[Rx.ZcL,List.mem_flatten,List.mem_map]at hu
 obtain⟨_,⟨t,_,rfl⟩,h⟩:=hu
 simp only[T.cs,T.sl,List.mem_cons,List.not_mem_nil,or_false]at h
 rcases h with rfl|rfl|rfl|rfl|rfl|rfl|rfl|rfl <;> rfl
theorem Znf(a:Option Addr)(c:Nat)(l:List T)(m:Mem)(h:rowRd m a (Rx.ZcL l))(hl:l.length<=1000000000000):CXT Tryz.prog 131 #[.slice a l.length c] m 8 (λv m' _=>∃a' c',v=.slice a' l.length c'/\rowRd m' a' (Rx.ZcL l)/\l.length<=c'/\(l.length=0\/∃b,a'=some ⟨b,0,none⟩/\m.free b)):=by
 apply ZbJ
 have aZ:=Zar l
 refine Zab (λha=>?_) (λha=>⟨⟨rfl,Int.le_refl _,by decide,by decide⟩,λb hf _=>⟨.inl rfl,[],Rx.ZcL l,rfl,aZ,.inl rfl,h,ZBQ l,by omega,by omega,λa' c' m' hm aM ja=>⟨rfl,?_⟩⟩⟩)
 ·obtain rfl:a=none:=by simpa using ha
  have h0:l=[]:=by
   rcases h with h|⟨_,_,h,_⟩
   ·rw[h]at aZ;exact List.eq_nil_of_length_eq_zero (by simp at aZ;omega)
   ·cases h
  subst h0
  exact⟨rfl,none,0,rfl,.inl rfl,Nat.le_refl _,.inl rfl⟩
 ·simp only[Nat.zero_add]at ja ⊢
  refine⟨a',c',rfl,aM,ja.1,?_⟩
  rcases(ja.old (λ_ _ e=>by cases e;rfl)).2 with h1|⟨b',h1,h2|h2⟩
  ·subst h1
   left
   rcases aM with h3|⟨_,_,h3,_⟩
   ·have h4:(Rx.ZcL l).length=0:=congrArg List.length h3
    omega
   ·cases h3
  ·right;rw[<-h2];exact⟨b,rfl,hf⟩
  ·exact .inr ⟨b',h1,h2⟩
theorem ZwH{m:Mem}{b:Nat}{ts r:List T}{x t:T}(h:rowRd m (some ⟨b,0,none⟩) (Rx.ZcL (ts++x::r))):rowRd (m.upd b (0+ts.length*8) t.cs) (some ⟨b,0,none⟩) (Rx.ZcL (ts++t::r)):=by
 rcases h with h|⟨b',o',ha,h⟩
 ·have hl:(Rx.ZcL (ts++x::r)).length=0:=by rw[h];rfl
  rw[Zar,zA1,List.length_cons]at hl
  omega
 cases ha
 have e:∀y:T,Rx.ZcL (ts++y::r)=Rx.ZcL ts++(y.cs++Rx.ZcL r):=λy=>by simp[Rx.ZcL]
 have h8:∀y:T,y.cs.length=8:=λ_=>rfl
 refine .inr ⟨b,0,rfl,λj v hj=>?_⟩
 rw[e]at hj
 unfold Mem.upd;try dsimp only
 rw[Nat.zero_add,Nat.zero_add,h8]
 rcases Nat.lt_or_ge j (ts.length*8)with aO|bM
 ·rw[if_neg (by omega)]
  rw[zA5 (by rw[Zar];exact aO)]at hj
  have:=h j v (by rw[e,zA5 (by rw[Zar];exact aO)];exact hj)
  rwa [Nat.zero_add]at this
 ·rw[zA4 (by rw[Zar];exact bM),Zar]at hj
  rcases Nat.lt_or_ge j (ts.length*8+8)with aO|eN
  ·rw[if_pos ⟨rfl,bM,aO⟩]
   rw[zA5 (by rw[h8];omega)]at hj
   exact hj
  ·rw[if_neg (by omega)]
   rw[zA4 (by rw[h8];omega),h8]at hj
   have:=h j v (by
    rw[e,zA4 (by rw[Zar];exact bM),Zar,zA4 (by rw[h8];omega),h8];exact hj)
   rwa [Nat.zero_add]at this
theorem ZwI{m m':Mem}(h:m.le m'){b:Nat}(hf:m'.free b):m.free b:=λo=>by
 cases he:m b o with
 | none=>rfl
 | some v=>have:=h _ _ _ he;rw[hf o]at this;cases this
def NewT(m:Mem)(t:T):Prop:=∀x∈t.nodes,x.subs=[]\/∃b,x.a=some ⟨b,0,none⟩/\m.free b
theorem NewT.less{m m':Mem}{t:T}(hn:NewT m' t)(h:m.le m'):NewT m t:=λx hx=>(hn x hx).imp id λ⟨b,e,hf⟩=>⟨b,e,ZwI h hf⟩
theorem Zuf{m:Mem}{k s0 s1 s2 s3 mn mx:Int}{a:Option Addr}{c:Nat}{l:List T}(h:l=[]\/∃b,a=some ⟨b,0,none⟩/\m.free b)(hl:∀x∈l,NewT m x):NewT m (.node k s0 s1 s2 s3 mn mx a c l):=by
 intro x hx
 simp only[T.nodes,List.mem_cons]at hx
 rcases hx with rfl|hx
 ·exact h
 ·have:∀l:List T,(∀x∈l,NewT m x)->∀x∈Zaz l,x.subs=[]\/∃b,x.a=some ⟨b,0,none⟩/\m.free b:=by
   intro l
   induction l with
   | nil=>intro _ x hx;simp[Zaz]at hx
   | cons y l ih=>
    intro h x hx
    simp only[Zaz,List.mem_append]at hx
    rcases hx with hx|hx
    ·exact h y (by simp) x hx
    ·exact ih (λz hz=>h z (by simp[hz])) x hx
  exact this l hl x hx
set_option maxHeartbeats 800000 in
theorem Zl0(t:T)(m:Mem)(hr:Rep m t)(hz:t.nodes.length<=10000):CX Tryz.prog 108 #[t.v] m [] (Zot λt'=>t'.er=t.er/\(t'.caps/\NewT m t')):=by
 have bH:szL t.subs<=10000:=by rw[Zj7]at hz;omega
 have fX:t.subs.length<=10000:=Nat.le_trans (ZoA _) bH
 apply Znc
 intro b b1
 refine⟨_,Znf t.a t.c t.subs m (Zeg hr.subs) (by omega),(λv _ _ ⟨a,c,e,_⟩=>by rw[e];rfl),?_⟩
 rintro a n c m1 aB ⟨a',c',hv,aM,jb,bE⟩
 simp only[Value.slice.injEq]at hv
 obtain⟨rfl,rfl,rfl⟩:=hv
 have bB:∀x∈t.subs,Rep m x:=ZjZ hr.subs
 refine⟨λxs css tvs m' q=>∃(k:Nat)(L:List T)(mb:Mem),k<=t.subs.length/\xs=[.int .i64 k]/\q=t.subs.length - k/\L.length=k/\L.map T.er=(t.subs.take k).map T.er/\m.le mb/\mb.le m'/\(t.subs.length=0\/∃b,a=some ⟨b,0,none⟩/\mb.free b)/\(∀x∈L,Rep mb x/\(x.caps/\NewT m x))/\(t.subs.length=0\/∃b,a=some ⟨b,0,none⟩/\m.free b)/\rowRd m' a (Rx.ZcL (L++t.subs.drop k)),⟨_,0,[],m,by omega,rfl,rfl,rfl,rfl,Mem.le_refl _,aB,bE,by simp,bE,aM⟩,?_⟩
 rintro z m2 q _ ⟨k,L,mb,hk,cZ,hq,jW,mu,fH,jt,fU,lh,cF,dX⟩
 obtain rfl:z=k:=by simpa using cZ
 refine Zab (λaO=>?_) (λbM=>?_)
 ·have aW:k < t.subs.length:=by have:=zA6 aO;omega
  obtain⟨x,hx⟩:=ZaP aW
  have cS:=bB x (zA2 hx)
  have lB:x.nodes.length<=10000:=by
   obtain⟨h1,h2⟩:=zA0 hx
   have:=congrArg List.length (Zdu hx)
   unfold szL at bH
   simp only[zA1]at this
   omega
  have gU:t.subs.drop k=x::t.subs.drop (k+1):=by
   rw[List.drop_eq_getElem_cons aW,(zA0 hx).2]
  rcases fU with fU|⟨bk,rfl,dI⟩
  ·omega
  obtain⟨b0,o0,sE,cC⟩:=ZdG dX (i:=k) (t:=x) (by rw[zA4 (by omega),jW,Nat.sub_self,gU];rfl)
  cases sE
  have hw:IntKind.i64.wrap ((k:Int)+1)=((k+1:Nat):Int):=by rw[Zam (by omega) (by omega)];rfl
  simp only[hw,zA8]
  have gm:CX Tryz.prog 108 #[x.v] m2 [] (ZpY mb m2 λt'=>t'.er=x.er/\(t'.caps/\NewT mb t')):=(Zl0 x mb (Rep.mono fH x cS) lB).frame2 jt
  refine⟨bk,0,rfl,⟨by omega,by omega⟩,_,_,_,_,_,_,_,_,cC,λb3=>Zaa rfl ⟨λ_ _ _=>ZpY mb m2 λt'=>t'.er=x.er/\(t'.caps/\NewT mb t'),ZpY mb m2 λt'=>t'.er=x.er/\(t'.caps/\NewT mb t'),rfl,gm,Zdm,Zjt λt' m0 m3 aX h0 cV dE hr' ht'=>⟨bk,0,rfl,⟨by omega,by omega⟩,λM gD iq=>⟨rfl,by omega,by trivial,by trivial,t.subs.length - (k+1),by omega,k+1,L++[t'],m0,by omega,rfl,rfl,by simp[jW],?_,mLt fH h0,?_,.inr ⟨bk,rfl,?_⟩,?_,cF,?_⟩⟩⟩⟩
  ·rw[List.map_append,mu,Zru hx,List.map_append]
   simp[ht'.1]
  ·refine Mem.le_upd (mLt cV iq) ?_ _ _
   intro o'
   have hc:m2 bk (0+k*8+0)=some (.int .u8 x.k):=cC 0 _ rfl
   rw[dE _ _ _ hc o'];exact dI o'
  ·intro o'
   have hc:m2 bk (0+k*8+0)=some (.int .u8 x.k):=cC 0 _ rfl
   rw[dE _ _ _ hc o'];exact dI o'
  ·intro y hy
   rcases List.mem_append.1 hy with hy|hy
   ·exact⟨Rep.mono h0 y (lh y hy).1,(lh y hy).2⟩
   ·simp at hy;subst hy;exact⟨hr',ht'.2.1,ht'.2.2.less fH⟩
  ·rw[gU]at dX
   have h5:=ZwH (t:=t') (dX.mono gD)
   rw[jW]at h5
   rw[List.append_assoc]
   exact h5
 ·have dJ:k=t.subs.length:=by have:=of_decide_eq_false bM;omega
  subst dJ
  rw[List.drop_length,List.append_nil]at dX
  rw[List.take_length]at mu
  have bY:=Zzv hr
  refine⟨m2,mLt fH jt,Mem.le_refl _,.node t.k t.s0 t.s1 t.s2 t.s3 t.mn t.mx a c L,?_,?_,?_⟩
  ·simp only[T.v,T.k,T.s0,T.s1,T.s2,T.s3,T.mn,T.mx,T.a,T.c,T.subs,jW]
  ·have:=ZuP dX (λx hx=>Rep.mono jt x (lh x hx).1) (by omega)
   exact Zzw this.1 this.2 bY
  ·have:=ZxW (k:=t.k) (s0:=t.s0) (s1:=t.s1) (s2:=t.s2) (s3:=t.s3) (mn:=t.mn) (mx:=t.mx) (a:=a) (a':=t.a) (c:=c) (c':=t.c) mu
   refine⟨this.trans ?_,Zti (by omega) λx hx=>(lh x hx).2.1,Zuf (cF.imp (λh=>List.eq_nil_of_length_eq_zero (by omega)) id) λx hx=>(lh x hx).2.2⟩
   cases t;rfl
termination_by SizeOf.sizeOf t
decreasing_by exact Zqv (zA2 hx)
mutual
theorem ZyE{m m':Mem}:∀(t:T),Rep m' t->NewT m t->Rep (nw m m') t
 | .node k s0 s1 s2 s3 mn mx a c l,hr,hn=>by
  have h0:=hn _ (by rw[Zcy];exact List.mem_cons_self)
  simp only[Rep]at hr ⊢
  refine⟨hr.1,?_,hr.2.2⟩
  rcases hr.2.1 with h|⟨b,o,ha,fK⟩
  ·exact .inl h
  rcases h0 with h|⟨b',hb',hf⟩
  ·exact .inl h
  ·have e:a=some ⟨b',0,none⟩:=hb'
   rw[ha]at e
   simp only[Option.some.injEq,Addr.mk.injEq,and_true]at e
   obtain⟨rfl,rfl⟩:=e
   exact .inr ⟨b,0,ha,Zsg b hf 0 l fK λx hx y hy=>hn y (by
    rw[Zcy]
    refine List.mem_cons_of_mem _ ?_
    obtain⟨i,hi⟩:=List.getElem?_of_mem hx
    rw[show(T.node k s0 s1 s2 s3 mn mx a c l).subs=l from rfl,Zdu hi]
    simp[hy])⟩
theorem Zsg{m m':Mem}(b:Nat)(hf:m.free b):∀(o:Nat)(l:List T),RepAt m' b o l->(∀x∈l,NewT m x)->RepAt (nw m m') b o l
 | _,[],_,_=>by simp only[RepAt]
 | o,t::l,hr,hn=>by
  simp only[RepAt]at hr ⊢
  exact⟨λj v hj=>by rw[Zw7 hf];exact hr.1 j v hj,ZyE t hr.2.1 (hn t (by simp)),Zsg b hf (o+8) l hr.2.2 λx hx=>hn x (by simp[hx])⟩
end
def CpT(m:Mem)(t:T):Value->Mem->List (List Value)->Prop:=λv m' _=>∃t':T,v=t'.v/\t'.er=t.er/\Rep (nw m m') t'
theorem ZwJ{m:Mem}{t:T}:∀(v:Value)(m':Mem) (css:List (List Value)),CpT m t v m' css->Shape.fits (.agg [.int .u8,.int .u64,.int .u64,.int .u64,.int .u64,.int .i64,.int .i64,.slice]) v=true:=λv _ _ ⟨t,e,_⟩=>by rw[e];rfl
theorem ZwK(t:T)(m:Mem)(hr:Rep m t)(hz:t.nodes.length<=10000):CX Tryz.prog 71 #[t.v] m [] (CpT m t):=by
 apply Zq5
 intro b m1 aB _ b1
 have hl:t.light=true:=by unfold T.light;exact decide_eq_true hz
 have h:=ZdO t m1 (hr.mono aB)
 rw[hl]at h
 refine Zah h λm2 aN=>ZdK rfl (Zai (Zl0 t m2 (hr.mono (mLt aB aN)) hz) Zff (Zqy λt' m3 aX hr' ht'=>?_))
 exact⟨m3,mLt aB (mLt aN aX),Mem.le_refl _,t',rfl,ht'.1,ZyE t' hr' (ht'.2.2.less (mLt aB aN))⟩
theorem ZpM(a:Option Addr)(c:Nat)(l:List E)(m:Mem)(h:rowRd m a (l.map E.cs).flatten)(hl:l.length<=1000000000000):CXT Tryz.prog 132 #[.slice a l.length c] m 5 (λv m' _=>∃a' c',v=.slice a' l.length c'/\rowRd m' a' (l.map E.cs).flatten/\l.length<=c'/\(l.length=0\/∃b,a'=some ⟨b,0,none⟩/\m.free b)):=by
 apply Zbk
 have aZ:(l.map E.cs).flatten.length=l.length*5:=Za3 E.len l
 refine Zab (λha=>?_) (λha=>⟨⟨rfl,Int.le_refl _,by decide,by decide⟩,λb hf _=>⟨.inl rfl,[],(l.map E.cs).flatten,rfl,aZ,.inl rfl,h,?_,by omega,by omega,λa' c' m' hm aM ja=>⟨rfl,?_⟩⟩⟩)
 ·obtain rfl:a=none:=by simpa using ha
  have h0:l=[]:=by
   rcases h with h|⟨_,_,h,_⟩
   ·rw[h]at aZ;exact List.eq_nil_of_length_eq_zero (by simp at aZ;omega)
   ·cases h
  subst h0
  exact⟨rfl,none,0,rfl,.inl rfl,Nat.le_refl _,.inl rfl⟩
 ·intro u hu
  simp only[List.mem_flatten,List.mem_map]at hu
  obtain⟨_,⟨e,_,rfl⟩,hu⟩:=hu
  exact E.one e u hu
 ·simp only[Nat.zero_add]at ja ⊢
  refine⟨a',c',rfl,aM,ja.1,?_⟩
  rcases(ja.old (λ_ _ e=>by cases e;rfl)).2 with h1|⟨b',h1,h2|h2⟩
  ·subst h1
   left
   rcases aM with h3|⟨_,_,h3,_⟩
   ·have h4:(l.map E.cs).flatten.length=0:=congrArg List.length h3
    omega
   ·cases h3
  ·right;rw[<-h2];exact⟨b,rfl,hf⟩
  ·exact .inr ⟨b',h1,h2⟩
theorem Zug{m:Mem}{b:Nat}{ts r:List E}{x t:E}(h:rowRd m (some ⟨b,0,none⟩) ((ts++x::r).map E.cs).flatten):rowRd (m.upd b (0+ts.length*5) t.cs) (some ⟨b,0,none⟩) ((ts++t::r).map E.cs).flatten:=by
 have hl:∀l:List E,(l.map E.cs).flatten.length=l.length*5:=Za3 E.len
 rcases h with h|⟨b',o',ha,h⟩
 ·have:=congrArg List.length h
  rw[hl,zA1,List.length_cons]at this
  simp at this
 cases ha
 have e:∀y:E,((ts++y::r).map E.cs).flatten=(ts.map E.cs).flatten++(y.cs++(r.map E.cs).flatten):=λy=>by simp
 refine .inr ⟨b,0,rfl,λj v hj=>?_⟩
 rw[e]at hj
 unfold Mem.upd;try dsimp only
 rw[Nat.zero_add,Nat.zero_add,E.len]
 rcases Nat.lt_or_ge j (ts.length*5)with aO|bM
 ·rw[if_neg (by omega)]
  rw[zA5 (by rw[hl];exact aO)]at hj
  have:=h j v (by rw[e,zA5 (by rw[hl];exact aO)];exact hj)
  rwa [Nat.zero_add]at this
 ·rw[zA4 (by rw[hl];exact bM),hl]at hj
  rcases Nat.lt_or_ge j (ts.length*5+5)with aO|eN
  ·rw[if_pos ⟨rfl,bM,aO⟩]
   rw[zA5 (by rw[E.len];omega)]at hj
   exact hj
  ·rw[if_neg (by omega)]
   rw[zA4 (by rw[E.len];omega),E.len]at hj
   have:=h j v (by
    rw[e,zA4 (by rw[hl];exact bM),hl,zA4 (by rw[E.len];omega),E.len];exact hj)
   rwa [Nat.zero_add]at this
def NewE(m:Mem)(t:E):Prop:=∀x∈t.nodes,x.subs=[]\/∃b,x.a=some ⟨b,0,none⟩/\m.free b
theorem NewE.less{m m':Mem}{t:E}(hn:NewE m' t)(h:m.le m'):NewE m t:=λx hx=>(hn x hx).imp id λ⟨b,e,hf⟩=>⟨b,e,Zc5 h hf⟩
theorem Zjx{y x:E}{l:List E}(hx:x∈l)(hy:y∈x.nodes):y∈Zao l:=by
 obtain⟨i,hi⟩:=List.getElem?_of_mem hx
 rw[Zcz hi];simp[hy]
theorem Zuh{m:Mem}{k:Int}{x:Nat}{s:ByteArray}{g:Int}{a:Option Addr}{c:Nat}{l:List E}(h:l=[]\/∃b,a=some ⟨b,0,none⟩/\m.free b)(hl:∀x∈l,NewE m x):NewE m (.node k x s g a c l):=by
 intro x hx
 simp only[E.nodes,List.mem_cons]at hx
 rcases hx with rfl|hx
 ·exact h
 ·have:∀l:List E,(∀x∈l,NewE m x)->∀x∈Zao l,x.subs=[]\/∃b,x.a=some ⟨b,0,none⟩/\m.free b:=by
   intro l
   induction l with
   | nil=>intro _ x hx;simp[Zao]at hx
   | cons y l ih=>
    intro h x hx
    simp only[Zao,List.mem_append]at hx
    rcases hx with hx|hx
    ·exact h y (by simp) x hx
    ·exact ih (λz hz=>h z (by simp[hz])) x hx
  exact this l hl x hx
mutual
theorem Zvl{m m':Mem}:∀(t:E),RepE m' t->NewE m t->RepE (nw m m') t
 | .node k x s g a c l,hr,hn=>by
  have h0:=hn _ (by rw[Zbz];exact List.mem_cons_self)
  simp only[RepE]at hr ⊢
  refine⟨hr.1,?_,hr.2.2⟩
  rcases hr.2.1 with h|⟨b,o,ha,fK⟩
  ·exact .inl h
  rcases h0 with h|⟨b',hb',hf⟩
  ·exact .inl h
  ·have e:a=some ⟨b',0,none⟩:=hb'
   rw[ha]at e
   simp only[Option.some.injEq,Addr.mk.injEq,and_true]at e
   obtain⟨rfl,rfl⟩:=e
   exact .inr ⟨b,0,ha,ZpN b hf 0 l fK λx hx y hy=>hn y (by
    rw[Zbz]
    exact List.mem_cons_of_mem _ (Zjx hx hy))⟩
theorem ZpN{m m':Mem}(b:Nat)(hf:m.free b):∀(o:Nat)(l:List E),RepEAt m' b o l->(∀x∈l,NewE m x)->RepEAt (nw m m') b o l
 | _,[],_,_=>by simp only[RepEAt]
 | o,t::l,hr,hn=>by
  simp only[RepEAt]at hr ⊢
  exact⟨λj v hj=>by rw[Zw7 hf];exact hr.1 j v hj,Zvl t hr.2.1 (hn t (by simp)),ZpN b hf (o+5) l hr.2.2 λx hx=>hn x (by simp[hx])⟩
end
theorem ZhS{m:Mem}{b:Nat}:∀(L:List E)(o:Nat),RepEAt m b o L->m.reads b o (L.map E.cs).flatten
 | [],o,_=>λj v hj=>by simp at hj
 | z::L,o,h=>λj v hj=>by
  simp only[RepEAt]at h
  rw[List.map_cons,List.flatten_cons]at hj
  rcases Nat.lt_or_ge j 5 with aO|bM
  ·rw[zA5 (by rw[E.len];exact aO)]at hj
   exact h.1 j v hj
  ·rw[zA4 (by rw[E.len];exact bM),E.len]at hj
   have:=ZhS L (o+5) h.2.2 (j - 5) v hj
   rwa [show o+5+(j - 5)=o+j by omega]at this
theorem ZwL(e:E)(m:Mem):CX Tryz.prog 110 #[e.v] m [] (Ret e.v):=by
 apply Zi6
 intro b m1 aB _ b2
 exact Zaa rfl (Zac aB rfl)
set_option maxHeartbeats 800000 in
theorem Zl1(t:E)(m:Mem)(hr:RepE m t)(hz:t.nodes.length<=10000):CX Tryz.prog 109 #[t.v,.func (.func 110) #[] #[]] m [] (ER λt'=>t'.er=t.er/\NewE m t'):=by
 have fX:t.subs.length<=10000:=by
  have:=Zej t.subs
  rw[Zbz,List.length_cons]at hz;omega
 have bB:∀x∈t.subs,RepE m x:=λx hx=>ZlF hr (by rw[Zbz];exact List.mem_cons_of_mem _ (Zjx hx (by rw[Zbz];simp)))
 have pM:rowRd m t.a (t.subs.map E.cs).flatten:=by
  rcases(ZeE hr).2 with h|⟨b,o,ha,fK⟩
  ·rw[h];exact .inl rfl
  ·exact .inr ⟨b,o,ha,ZhS t.subs o fK⟩
 apply ZhQ
 intro b b1
 refine⟨_,ZpM t.a t.c t.subs m pM (by omega),(λv _ _ ⟨a,c,e,_⟩=>by rw[e];rfl),?_⟩
 rintro a n c m1 aB ⟨a',c',hv,aM,jb,bE⟩
 simp only[Value.slice.injEq]at hv
 obtain⟨rfl,rfl,rfl⟩:=hv
 refine⟨λxs css tvs m' q=>∃(k:Nat)(L:List E)(mb:Mem),k<=t.subs.length/\xs=[.int .i64 k]/\q=t.subs.length - k/\L.length=k/\L.map E.er=(t.subs.take k).map E.er/\m.le mb/\mb.le m'/\(t.subs.length=0\/∃b,a=some ⟨b,0,none⟩/\mb.free b)/\(∀x∈L,RepE mb x/\NewE m x)/\(t.subs.length=0\/∃b,a=some ⟨b,0,none⟩/\m.free b)/\rowRd m' a ((L++t.subs.drop k).map E.cs).flatten,⟨_,0,[],m,by omega,rfl,rfl,rfl,rfl,Mem.le_refl _,aB,bE,by simp,bE,aM⟩,?_⟩
 rintro z m2 q _ ⟨k,L,mb,hk,cZ,hq,jW,mu,fH,jt,fU,lh,cF,dX⟩
 obtain rfl:z=k:=by simpa using cZ
 refine Zab (λaO=>?_) (λbM=>?_)
 ·have aW:k < t.subs.length:=by have:=zA6 aO;omega
  obtain⟨x,hx⟩:=ZaP aW
  have cS:=bB x (zA2 hx)
  have lB:x.nodes.length<=10000:=by
   have:=congrArg List.length (Zcz hx)
   rw[Zbz,List.length_cons]at hz
   simp only[zA1]at this
   omega
  have gU:t.subs.drop k=x::t.subs.drop (k+1):=by
   rw[List.drop_eq_getElem_cons aW,(zA0 hx).2]
  rcases fU with fU|⟨bk,rfl,dI⟩
  ·omega
  obtain⟨b0,o0,sE,cC⟩:=Zan E.len dX (k:=k) (t:=x) (by rw[zA4 (by omega),jW,Nat.sub_self,gU];rfl) (by omega)
  cases sE
  have hw:IntKind.i64.wrap ((k:Int)+1)=((k+1:Nat):Int):=by rw[Zam (by omega) (by omega)];rfl
  simp only[hw,zA8]
  have gm:CX Tryz.prog 109 #[x.v,.func (.func 110) #[] #[]] m2 [] (EF mb m2 λt'=>t'.er=x.er/\NewE mb t'):=(Zl1 x mb (RepE.mono fH x cS) lB).frame2 jt
  refine⟨bk,0,rfl,⟨by omega,by omega⟩,_,_,_,_,_,cC,λb3=>Zaa rfl ⟨λ_ _ _=>EF mb m2 λt'=>t'.er=x.er/\NewE mb t',EF mb m2 λt'=>t'.er=x.er/\NewE mb t',rfl,gm,Zsa,ZBw λt' m0 m3 aX h0 cV dE hr' ht'=>⟨bk,0,rfl,⟨by omega,by omega⟩,λM gD iq=>Zaa rfl ⟨rfl,by omega,trivial,trivial,t.subs.length - (k+1),by omega,k+1,L++[t'],m0,by omega,rfl,rfl,by simp[jW],?_,mLt fH h0,?_,.inr ⟨bk,rfl,?_⟩,?_,cF,?_⟩⟩⟩⟩
  ·rw[List.map_append,mu,Zru hx,List.map_append]
   simp[ht'.1]
  ·refine Mem.le_upd (mLt cV iq) ?_ _ _
   intro o'
   have hc:m2 bk (0+k*5+0)=some (.int .u8 x.k):=cC 0 _ rfl
   rw[dE _ _ _ hc o'];exact dI o'
  ·intro o'
   have hc:m2 bk (0+k*5+0)=some (.int .u8 x.k):=cC 0 _ rfl
   rw[dE _ _ _ hc o'];exact dI o'
  ·intro y hy
   rcases List.mem_append.1 hy with hy|hy
   ·exact⟨RepE.mono h0 y (lh y hy).1,(lh y hy).2⟩
   ·simp at hy;subst hy;exact⟨hr',ht'.2.less fH⟩
  ·rw[gU]at dX
   have h5:=Zug (t:=t') (dX.mono gD)
   rw[jW]at h5
   rw[List.append_assoc]
   exact h5
 ·have dJ:k=t.subs.length:=by have:=of_decide_eq_false bM;omega
  subst dJ
  rw[List.drop_length,List.append_nil]at dX
  rw[List.take_length]at mu
  have bY:=Zrx hr
  have hv:Value.agg #[.int .u8 t.k,.float .f64 t.x,.string t.s,.int .i64 t.g,.slice a t.subs.length c]=(E.node t.k t.x t.s t.g a c L).v:=by
   simp only[E.v,E.k,E.x,E.s,E.g,E.a,E.c,E.subs,jW]
  have gm:=ZwL (.node t.k t.x t.s t.g a c L) m2
  rw[<-hv]at gm
  refine⟨_,trivial,gm,(λv _ _ h=>by rw[h];rfl),?_⟩
  intro n5 v5 s5 g5 a5 k5 c5 m3 aX hU
  simp only[Value.agg.injEq,Array.mk.injEq,List.cons.injEq,Value.int.injEq,Value.string.injEq,Value.slice.injEq,true_and,and_true]at hU
  obtain⟨rfl,rfl,rfl,rfl,rfl,rfl,rfl⟩:=hU
  refine Zaa rfl ⟨m3,mLt fH (mLt jt aX),Mem.le_refl _,.node t.k t.x t.s t.g a5 c5 L,hv,?_,?_,?_⟩
  ·exact Zsb (dX.mono aX) (λx hx=>RepE.mono (mLt jt aX) x (lh x hx).1) (by omega) bY
  ·cases t
   simp only[E.er,E.k,E.x,E.s,E.g,E.subs,Znu]at mu ⊢
   rw[mu]
  ·exact Zuh (cF.imp (λh=>List.eq_nil_of_length_eq_zero (by omega)) id) λx hx=>(lh x hx).2
termination_by SizeOf.sizeOf t
decreasing_by exact ZlC (zA2 hx)
theorem Zui{x:List Value}{K:List Value->Prop}(h:∀y,K y):lV x K:=h x
theorem ZwM(cb:Nat)(Q:Pt->Pt->Mem->Prop)(L:List Pt)(a:Option Addr)(d:Nat)(m:Mem)(aM:rowRd m a (L.map Pt.cs).flatten)(hl:L.length<=few)(nD:∀x∈L,∀m2,m.le m2->CX Tryz.prog cb #[.agg x.cs.toArray] m2 [] (λv m3 _=>∃y:Pt,v=.agg y.cs.toArray/\Q x y (nw m2 m3))):
  CX Tryz.prog 75 #[.slice a L.length d,.func (.func cb) #[] #[]] m [] (Ztk Pt.cs Q m L):=by
 have hl:L.length<=100000:=hl
 apply Zcc (p1fi:=[]) (p1ca:=[])
 refine⟨λxs css tvs m' q=>∃(k:Nat)(a':Option Addr)(c':Nat)(L':List Pt)(μ:Nat->Mem),k<=L.length/\q=L.length - k/\xs=[.slice a' L'.length c',.int .i64 k]/\tvs=[.slice a' L'.length c']/\Each Pt.cs Q m m' (L.take k) a' c' L' μ,⟨_,0,none,0,[],_,by omega,rfl,rfl,rfl,Each.nil m⟩,?_⟩
 rintro a1 n1 c1 z a2 n2 c2 m2 q _ ⟨k,a',c',L',μ,hk,hq,cZ,cY,hE⟩
 simp only[List.cons.injEq,Value.slice.injEq,Value.int.injEq,true_and,and_true]at cZ cY
 obtain⟨⟨rfl,rfl,rfl⟩,rfl⟩:=cZ
 obtain⟨rfl,rfl,rfl⟩:=cY
 have jW:L'.length=k:=by rw[hE.len,List.length_take];omega
 refine Zab (λaO=>?_) (λbM=>?_)
 ·have aW:k < L.length:=by have:=zA6 aO;omega
  obtain⟨x,hx⟩:=ZaP aW
  obtain⟨b,o,ha,cC⟩:=Zan Pt.len aM hx (by omega)
  have hw:IntKind.i64.wrap ((k:Int)+1)=((k+1:Nat):Int):=by rw[Zam (by omega) (by omega)];rfl
  refine⟨b,o,ha,⟨by omega,by omega⟩,_,_,_,_,_,_,_,_,cC.mono hE.le,λb3=>Zaa rfl ⟨_,trivial,nD x (zA2 hx) m2 hE.le,(λv _ _ ⟨y,h,_⟩=>by rw[h];rfl),?_⟩⟩
  intros
  refine Zui λys=>?_
  rintro aX ⟨y,hv,hQ⟩ b4 iX
  obtain rfl:ys=y.cs:=by simpa using hv
  have bH:(L'.length+1)*96<=140737488355328:=by omega
  refine Zdb Pt.len Pt.one iX y (hE.row.mono aX) 96 bH (by omega) (.inl rfl) λa5 c5 m5 cP cE bD=>?_
  have cU:=hE.step Pt.len (by omega) hx aX hQ iX cP cE bD
  exact⟨L.length - (k+1),by omega,k+1,a5,c5,L'++[y],_,by omega,rfl,by rw[hw,zA1];rfl,by rw[zA1];rfl,cU⟩
 ·have dJ:k=L.length:=by have:=of_decide_eq_false bM;omega
  rw[dJ,List.take_length]at hE
  exact⟨m2,hE.le,Mem.le_refl _,_,_,L',μ,rfl,hE⟩
theorem ZwN(cb:Nat)(Q:Ac->Ac->Mem->Prop)(L:List Ac)(a:Option Addr)(d:Nat)(m:Mem)(aM:rowRd m a (L.map Ac.cs).flatten)(hl:L.length<=few)(nD:∀x∈L,∀m2,m.le m2->CX Tryz.prog cb #[.agg x.cs.toArray] m2 [] (λv m3 _=>∃y:Ac,v=.agg y.cs.toArray/\Q x y (nw m2 m3))):
  CX Tryz.prog 72 #[.slice a L.length d,.func (.func cb) #[] #[]] m [] (Ztk Ac.cs Q m L):=by
 have hl:L.length<=100000:=hl
 apply ZbE (p1fi:=[]) (p1ca:=[])
 refine⟨λxs css tvs m' q=>∃(k:Nat)(a':Option Addr)(c':Nat)(L':List Ac)(μ:Nat->Mem),k<=L.length/\q=L.length - k/\xs=[.slice a' L'.length c',.int .i64 k]/\tvs=[.slice a' L'.length c']/\Each Ac.cs Q m m' (L.take k) a' c' L' μ,⟨_,0,none,0,[],_,by omega,rfl,rfl,rfl,Each.nil m⟩,?_⟩
 rintro a1 n1 c1 z a2 n2 c2 m2 q _ ⟨k,a',c',L',μ,hk,hq,cZ,cY,hE⟩
 simp only[List.cons.injEq,Value.slice.injEq,Value.int.injEq,true_and,and_true]at cZ cY
 obtain⟨⟨rfl,rfl,rfl⟩,rfl⟩:=cZ
 obtain⟨rfl,rfl,rfl⟩:=cY
 have jW:L'.length=k:=by rw[hE.len,List.length_take];omega
 refine Zab (λaO=>?_) (λbM=>?_)
 ·have aW:k < L.length:=by have:=zA6 aO;omega
  obtain⟨x,hx⟩:=ZaP aW
  obtain⟨b,o,ha,cC⟩:=Zan Ac.len aM hx (by omega)
  have hw:IntKind.i64.wrap ((k:Int)+1)=((k+1:Nat):Int):=by rw[Zam (by omega) (by omega)];rfl
  refine⟨b,o,ha,⟨by omega,by omega⟩,_,_,_,_,_,_,_,_,cC.mono hE.le,λb3=>Zaa rfl ⟨_,trivial,nD x (zA2 hx) m2 hE.le,(λv _ _ ⟨y,h,_⟩=>by rw[h];rfl),?_⟩⟩
  intros
  refine Zui λys=>?_
  rintro aX ⟨y,hv,hQ⟩ b4 iX
  obtain rfl:ys=y.cs:=by simpa using hv
  have bH:(L'.length+1)*112<=140737488355328:=by omega
  refine Zdb Ac.len Ac.one iX y (hE.row.mono aX) 112 bH (by omega) (.inl rfl) λa5 c5 m5 cP cE bD=>?_
  have cU:=hE.step Ac.len (by omega) hx aX hQ iX cP cE bD
  exact⟨L.length - (k+1),by omega,k+1,a5,c5,L'++[y],_,by omega,rfl,by rw[hw,zA1];rfl,by rw[zA1];rfl,cU⟩
 ·have dJ:k=L.length:=by have:=of_decide_eq_false bM;omega
  rw[dJ,List.take_length]at hE
  exact⟨m2,hE.le,Mem.le_refl _,_,_,L',μ,rfl,hE⟩
theorem ZwO(cb:Nat)(Q:Ru->Ru->Mem->Prop)(L:List Ru)(a:Option Addr)(d:Nat)(m:Mem)(aM:rowRd m a (L.map Ru.cs).flatten)(hl:L.length<=few)(nD:∀x∈L,∀m2,m.le m2->CX Tryz.prog cb #[.agg x.cs.toArray] m2 [] (λv m3 _=>∃y:Ru,v=.agg y.cs.toArray/\Q x y (nw m2 m3))):
  CX Tryz.prog 42 #[.slice a L.length d,.func (.func cb) #[] #[]] m [] (Ztk Ru.cs Q m L):=by
 have hl:L.length<=100000:=hl
 apply Zcd (p1fi:=[]) (p1ca:=[])
 refine⟨λxs css tvs m' q=>∃(k:Nat)(a':Option Addr)(c':Nat)(L':List Ru)(μ:Nat->Mem),k<=L.length/\q=L.length - k/\xs=[.slice a' L'.length c',.int .i64 k]/\tvs=[.slice a' L'.length c']/\Each Ru.cs Q m m' (L.take k) a' c' L' μ,⟨_,0,none,0,[],_,by omega,rfl,rfl,rfl,Each.nil m⟩,?_⟩
 rintro a1 n1 c1 z a2 n2 c2 m2 q _ ⟨k,a',c',L',μ,hk,hq,cZ,cY,hE⟩
 simp only[List.cons.injEq,Value.slice.injEq,Value.int.injEq,true_and,and_true]at cZ cY
 obtain⟨⟨rfl,rfl,rfl⟩,rfl⟩:=cZ
 obtain⟨rfl,rfl,rfl⟩:=cY
 have jW:L'.length=k:=by rw[hE.len,List.length_take];omega
 refine Zab (λaO=>?_) (λbM=>?_)
 ·have aW:k < L.length:=by have:=zA6 aO;omega
  obtain⟨x,hx⟩:=ZaP aW
  obtain⟨b,o,ha,cC⟩:=Zan Ru.len aM hx (by omega)
  have hw:IntKind.i64.wrap ((k:Int)+1)=((k+1:Nat):Int):=by rw[Zam (by omega) (by omega)];rfl
  refine⟨b,o,ha,⟨by omega,by omega⟩,_,_,_,_,_,_,_,_,_,_,_,_,_,_,_,_,cC.mono hE.le,λb3=>Zaa rfl ⟨_,trivial,nD x (zA2 hx) m2 hE.le,(λv _ _ ⟨y,h,_⟩=>by rw[h];rfl),?_⟩⟩
  intros
  refine Zui λys=>?_
  rintro aX ⟨y,hv,hQ⟩ b4 iX
  obtain rfl:ys=y.cs:=by simpa using hv
  have bH:(L'.length+1)*168<=140737488355328:=by omega
  refine Zdb Ru.len Ru.one iX y (hE.row.mono aX) 168 bH (by omega) (.inl rfl) λa5 c5 m5 cP cE bD=>?_
  have cU:=hE.step Ru.len (by omega) hx aX hQ iX cP cE bD
  exact⟨L.length - (k+1),by omega,k+1,a5,c5,L'++[y],_,by omega,rfl,by rw[hw,zA1];rfl,by rw[zA1];rfl,cU⟩
 ·have dJ:k=L.length:=by have:=of_decide_eq_false bM;omega
  rw[dJ,List.take_length]at hE
  exact⟨m2,hE.le,Mem.le_refl _,_,_,L',μ,rfl,hE⟩
theorem ZwP(cb:Nat)(Q:Sta->Sta->Mem->Prop)(L:List Sta)(a:Option Addr)(d:Nat)(m:Mem)(aM:rowRd m a (L.map Sta.cs).flatten)(hl:L.length<=few)(nD:∀x∈L,∀m2,m.le m2->CX Tryz.prog cb #[.agg x.cs.toArray] m2 [] (λv m3 _=>∃y:Sta,v=.agg y.cs.toArray/\Q x y (nw m2 m3))):
  CX Tryz.prog 40 #[.slice a L.length d,.func (.func cb) #[] #[]] m [] (Ztk Sta.cs Q m L):=by
 have hl:L.length<=100000:=hl
 apply ZbU (p1fi:=[]) (p1ca:=[])
 refine⟨λxs css tvs m' q=>∃(k:Nat)(a':Option Addr)(c':Nat)(L':List Sta)(μ:Nat->Mem),k<=L.length/\q=L.length - k/\xs=[.slice a' L'.length c',.int .i64 k]/\tvs=[.slice a' L'.length c']/\Each Sta.cs Q m m' (L.take k) a' c' L' μ,⟨_,0,none,0,[],_,by omega,rfl,rfl,rfl,Each.nil m⟩,?_⟩
 rintro a1 n1 c1 z a2 n2 c2 m2 q _ ⟨k,a',c',L',μ,hk,hq,cZ,cY,hE⟩
 simp only[List.cons.injEq,Value.slice.injEq,Value.int.injEq,true_and,and_true]at cZ cY
 obtain⟨⟨rfl,rfl,rfl⟩,rfl⟩:=cZ
 obtain⟨rfl,rfl,rfl⟩:=cY
 have jW:L'.length=k:=by rw[hE.len,List.length_take];omega
 refine Zab (λaO=>?_) (λbM=>?_)
 ·have aW:k < L.length:=by have:=zA6 aO;omega
  obtain⟨x,hx⟩:=ZaP aW
  obtain⟨b,o,ha,cC⟩:=Zan Sta.len aM hx (by omega)
  have hw:IntKind.i64.wrap ((k:Int)+1)=((k+1:Nat):Int):=by rw[Zam (by omega) (by omega)];rfl
  refine⟨b,o,ha,⟨by omega,by omega⟩,_,_,cC.mono hE.le,λb3=>Zaa rfl ⟨_,trivial,nD x (zA2 hx) m2 hE.le,(λv _ _ ⟨y,h,_⟩=>by rw[h];rfl),?_⟩⟩
  intros
  refine Zui λys=>?_
  rintro aX ⟨y,hv,hQ⟩ b4 iX
  obtain rfl:ys=y.cs:=by simpa using hv
  have bH:(L'.length+1)*40<=140737488355328:=by omega
  refine Zdb Sta.len Sta.one iX y (hE.row.mono aX) 40 bH (by omega) (.inl rfl) λa5 c5 m5 cP cE bD=>?_
  have cU:=hE.step Sta.len (by omega) hx aX hQ iX cP cE bD
  exact⟨L.length - (k+1),by omega,k+1,a5,c5,L'++[y],_,by omega,rfl,by rw[hw,zA1];rfl,by rw[zA1];rfl,cU⟩
 ·have dJ:k=L.length:=by have:=of_decide_eq_false bM;omega
  rw[dJ,List.take_length]at hE
  exact⟨m2,hE.le,Mem.le_refl _,_,_,L',μ,rfl,hE⟩
def CpE(m:Mem)(t:E):Value->Mem->List (List Value)->Prop:=λv m' _=>∃t':E,v=t'.v/\t'.er=t.er/\RepE (nw m m') t'
theorem Zsh{m:Mem}{t:E}:∀(v:Value)(m':Mem) (css:List (List Value)),CpE m t v m' css->Shape.fits (.agg [.int .u8,.any,.str,.int .i64,.slice]) v=true:=λv _ _ ⟨t,e,_⟩=>by rw[e];rfl
theorem Zsi(t:E)(m:Mem)(hr:RepE m t)(hl:t.light=true):CX Tryz.prog 74 #[t.v] m [] (CpE m t):=by
 apply Znd
 intro b m1 aB _ b1
 have h:=Zda t m1 (hr.mono' aB)
 rw[hl]at h
 refine Zah h λm2 aN=>ZdK rfl (Zai (Zl1 t m2 (hr.mono' (mLt aB aN)) (zA6 hl)) Zf9 ?_)
 rintro n v s n1 a n2 c m3 aX ⟨t',hv,hr',he,hn⟩
 obtain⟨rfl,rfl,rfl,rfl,rfl,rfl,rfl⟩:=Zq0 hv
 exact Zaa rfl ⟨m3,mLt aB (mLt aN aX),Mem.le_refl _,t',rfl,he,Zvl t' hr' (hn.less (mLt aB aN))⟩
theorem Zz0(p:Pt)(m:Mem)(hr:RepP m p)(hl:p.e.light=true):CX Tryz.prog 76 #[.agg p.cs.toArray] m [] (λv m' _=>∃q:Pt,v=.agg q.cs.toArray/\QP p q (nw m m')):=by
 apply Zes
 intro b b1
 refine Zai (Zsi p.e m hr.e hl) Zsh ?_
 rintro n v s n1 a n2 c m3 aX ⟨t',hv,he,eM⟩
 obtain⟨rfl,rfl,rfl,rfl,rfl,rfl,rfl⟩:=Zq0 hv
 refine Zaa rfl (Zaa rfl ⟨m3,aX,Mem.le_refl _,⟨p.k,p.s,p.g,t'⟩,rfl,?_,hr.k,hr.s,hr.g,eM⟩)
 simp only[Pt.er,he]
theorem Zz1(x:Ac)(m:Mem)(hr:RepA m x)(hl:LtA x):CX Tryz.prog 73 #[.agg x.cs.toArray] m [] (λv m' _=>∃q:Ac,v=.agg q.cs.toArray/\QA x q (nw m m')):=by
 apply ZfF
 intro b b1
 refine Zai (Zsi x.e m hr.e hl.1) Zsh ?_
 rintro n v s n1 a n2 c m1 aB ⟨t',hv,he,eM⟩
 obtain⟨rfl,rfl,rfl,rfl,rfl,rfl,rfl⟩:=Zq0 hv
 refine Zaa rfl ⟨_,trivial,ZwM 76 QP x.parts x.pa x.pc m1 (hr.row.mono aB) hr.n (λp hp m2 aN=>Zz0 p m2 ((hr.all p hp).mono (mLt aB aN)) (hl.2 p hp)),Zha,?_⟩
 rintro a' n' c' m2 aN ⟨a5,c5,L',μ,hv',hE⟩
 simp only[Value.slice.injEq]at hv'
 obtain⟨rfl,rfl,rfl⟩:=hv'
 refine Zaa rfl ⟨m2,mLt aB aN,Mem.le_refl _,⟨x.k,x.s,a',c',L',t'⟩,rfl,?_,Ztm hr hE (Zek aB (Mem.le_refl _)) (eM.mono' (Zek (Mem.le_refl _) aN))⟩
 simp only[Ac.er,he,hE.same λ_ _ _ h=>h.1]
theorem Zz2(x:Ru)(m:Mem)(hr:RepR m x)(hl:LtR x):CX Tryz.prog 43 #[.agg x.cs.toArray] m [] (λv m' _=>∃q:Ru,v=.agg q.cs.toArray/\QR x q (nw m m')):=by
 apply ZhR
 intro b b1
 refine Zai (ZwK x.t m hr.t (zA6 hl.1)) ZwJ ?_
 rintro n0 n1 n2 n3 n4 n5 n6 a n c m1 aB ⟨t',hv,he,eM⟩
 simp only[T.v,Value.agg.injEq,Array.mk.injEq,List.cons.injEq,Value.int.injEq,Value.slice.injEq,true_and,and_true]at hv
 obtain⟨rfl,rfl,rfl,rfl,rfl,rfl,rfl,rfl,rfl,rfl⟩:=hv
 refine⟨_,trivial,ZwN 73 QA x.acts x.aa x.ac m1 (hr.row.mono aB) hr.len (λp hp m2 aN=>Zz1 p m2 ((hr.all p hp).mono (mLt aB aN)) (hl.2 p hp)),Zha,?_⟩
 rintro a' n' c' m2 aN ⟨a5,c5,L',μ,hv',hE⟩
 simp only[Value.slice.injEq]at hv'
 obtain⟨rfl,rfl,rfl⟩:=hv'
 refine⟨m2,mLt aB aN,Mem.le_refl _,⟨x.k,x.bg,x.en,t',x.s,x.n,a',c',L',x.go,x.code⟩,rfl,?_,Ztn hr hE (Zek aB (Mem.le_refl _)) (eM.mono (Zek (Mem.le_refl _) aN))⟩
 simp only[Ru.er,he,hE.same λ_ _ _ h=>h.1]
theorem Zz3(x:Sta)(m0 m:Mem)(h0:m0.le m)(hr:RepS m x)(hl:∀r∈x.rules,LtR r):CX Tryz.prog 41 #[.agg x.cs.toArray] m [] (λv m' _=>∃q:Sta,v=.agg q.cs.toArray/\QS m0 x q (nw m m')):=by
 apply Zk9
 intro b m1 aB _ b1
 refine⟨λ_ _ μ=>Ztk Ru.cs QR μ x.rules,_,rfl,ZwO 43 QR x.rules x.ra x.rc m1 (hr.row.mono aB) hr.len (λp hp m2 aN=>Zz2 p m2 ((hr.all p hp).mono (mLt aB aN)) (hl p hp)),Zha,?_⟩
 rintro a' n' c' m2 aN ⟨a5,c5,L',μ,hv',hE⟩ M _ hM
 simp only[Value.slice.injEq]at hv'
 obtain⟨rfl,rfl,rfl⟩:=hv'
 exact⟨m2,mLt aB aN,hM,⟨x.s,a',c',L'⟩,rfl,(ZxY (mLt h0 aB) (hr.mono aB) hE).mono (Zek aB (Mem.le_refl _))⟩
def Zzj(m:Mem)(l:List Va):Value->Mem->List (List Value)->Prop:=λv m' _=>∃a' c',v=.slice a' l.length c'/\rowRd (nw m m') a' (l.map Va.cs).flatten/\l.length<=c'
theorem ZpO(a:Option Addr)(c:Nat)(l:List Va)(m:Mem)(h:rowRd m a (l.map Va.cs).flatten)(hl:l.length<=few):CXT Tryz.prog 39 #[.slice a l.length c] m 4 (Zzj m l):=by
 have hl:l.length<=100000:=hl
 apply ZbL
 have aZ:(l.map Va.cs).flatten.length=l.length*4:=Za3 Va.len l
 refine Zab (λha=>?_) (λha=>⟨⟨rfl,Int.le_refl _,by decide,by decide⟩,λb hf _=>⟨.inl rfl,[],(l.map Va.cs).flatten,rfl,aZ,.inl rfl,h,?_,by omega,by omega,λa' c' m' hm aM ja=>⟨rfl,?_⟩⟩⟩)
 ·obtain rfl:a=none:=by simpa using ha
  have h0:l=[]:=by
   rcases h with h|⟨_,_,h,_⟩
   ·rw[h]at aZ;exact List.eq_nil_of_length_eq_zero (by simp at aZ;omega)
   ·cases h
  subst h0
  exact⟨rfl,none,0,rfl,.inl rfl,Nat.le_refl _⟩
 ·intro u hu
  simp only[List.mem_flatten,List.mem_map]at hu
  obtain⟨_,⟨e,_,rfl⟩,hu⟩:=hu
  exact Va.one e u hu
 ·simp only[Nat.zero_add]at ja ⊢
  refine⟨a',c',rfl,ZrK aM ?_,ja.1⟩
  rcases(ja.old (λ_ _ e=>by cases e;rfl)).2 with h1|⟨b',h1,h2|h2⟩
  ·exact .inr λb o e=>by rw[h1]at e;cases e
  ·exact .inr λb' o e=>by rw[<-h2]at e;cases e;exact hf
  ·exact .inr λb o e=>by rw[h1]at e;cases e;exact h2
def CpC(m:Mem)(s:Sc):Value->Mem->List (List Value)->Prop:=λv m' _=>∃s':Sc,v=s'.v/\s'.er=s.er/\RepC (nw m m') s'/\(s'.states=[]\/∃b μ,SepC m m' s' b μ)
theorem Zsj{m:Mem}{s:Sc}:∀(v:Value)(m':Mem) (css:List (List Value)),CpC m s v m' css->Shape.fits (.agg [.int .i64,.slice,.slice]) v=true:=λv _ _ ⟨t,e,_⟩=>by rw[e];rfl
theorem Zuj{m:Mem}{l:List Va}:∀(v:Value)(m':Mem) (css:List (List Value)),Zzj m l v m' css->Shape.fits .slice v=true:=λv _ _ ⟨_,_,h,_⟩=>by rw[h];rfl
theorem Zvm(s:Sc)(m:Mem)(hr:RepC m s)(hl:s.light=true):CX Tryz.prog 13 #[s.v] m [] (CpC m s):=by
 apply ZpL
 intro b m1 aB _ b1
 have h:=ZfB s m1 (hr.mono aB)
 rw[hl]at h
 refine Zah h λm2 aN=>ZdK rfl ?_
 have il:=hr.mono (mLt aB aN)
 have dH:=mLt aB aN
 refine⟨λi _ μ=>if i=4 then Zzj μ s.vars else Ztk Sta.cs (QS m) μ s.states,_,rfl,(ZpO s.va s.vc s.vars m2 il.vrow il.vlen).toCX,Zuj,?_⟩
 rintro a n c m3 aX ⟨a',c',hv,aM,cQ⟩
 simp only[Value.slice.injEq]at hv
 obtain⟨rfl,rfl,rfl⟩:=hv
 refine⟨_,rfl,ZwP 41 (QS m) s.states s.sa s.sc m3 (il.row.mono aX) il.len (λx hx m4 bI=>Zz3 x m m4 (mLt dH (mLt aX bI)) ((il.all x hx).mono (mLt aX bI)) (ZzE hl x hx)),Zha,?_⟩
 rintro a4 n4 c4 m4 bI ⟨a5,c5,L',μ,hv',hE⟩ M _ iq jr
 simp only[Value.slice.injEq]at hv'
 obtain⟨rfl,rfl,rfl⟩:=hv'
 have cV:=mLt dH aX
 have l9:(nw m3 m4).le (nw m M):=Zek cV jr
 refine⟨M,mLt dH (mLt aX iq),Mem.le_refl _,⟨s.n,a,c,s.vars,a4,c4,L'⟩,rfl,?_,⟨hr.n,hr.vlen,aM.mono (Zek dH iq),hr.vall,by rw[hE.len];exact hr.len,hE.rows.mono l9,λy hy=>?_,cQ,hE.cap⟩,?_⟩
 ·simp only[Sc.er,hE.same (f:=Sta.er) (g:=Sta.er) λ_ _ _ h=>h.1]
 ·obtain⟨i,x,_,_,hq,hs⟩:=hE.at hy
  exact hq.2.1.mono (mLt hs l9)
 ·rcases hE.blk with⟨h1,_⟩|⟨_,b,hb,hf,hk,hμ⟩
  ·exact .inl (List.eq_nil_of_length_eq_zero (by rw[hE.len,h1];rfl))
  ·refine .inr ⟨b,μ,hb,⟨Zc5 cV hf,Zke cV hk⟩,λi y hy=>?_,λi j qn hj b'=>hE.ap i j qn (by rw[<-hE.len];exact hj) b',nw m2 m3,aM,Zek dH iq,Zc5 (ZrJ _ _) hf,λi hi b'=>?_⟩
   ·have aO:i < s.states.length:=by rw[<-hE.len];exact(zA0 hy).1
    have hq:=hE.q i _ _ (zA3 aO) hy
    exact⟨hq.2.1,hq.2.2,mLt (hE.sub i aO) l9,(hμ i aO).1⟩
   ·by_cases iF:(nw m2 m3).free b'
    ·exact .inl iF
    ·exact .inr (Zc5 (hE.sub i (by rw[<-hE.len];exact hi)) (Ztj λh=>iF (Zc5 (ZrJ _ _) h)))
end Go.Proofs.YtojlhhphofhaoaaGreatDoor
namespace Go.Proofs.YtojlhhphofhaoaaGreatDoor
open Go Go.Eng Go.Proofs Go.RowKit
open Go.Value (int slice agg bool string tuple func)
open Go.IntKind (u8 u64 i64)
set_option maxRecDepth 100000
end Go.Proofs.YtojlhhphofhaoaaGreatDoor
namespace Go.Proofs.YtojlhhphofhaoaaGreatDoor
open Go Go.Eng Go.Rx Go.Proofs Go.RowKit Go.Shelf
set_option maxRecDepth 100000
end Go.Proofs.YtojlhhphofhaoaaGreatDoor
namespace Go.Proofs.YtojlhhphofhaoaaGreatDoor
open Go Go.Eng Go.Rx Go.Proofs Go.RowKit
set_option maxRecDepth 100000
theorem ZyF{s:Sc}{n:Int}{a a1:Option Addr}{p c p1 c1:Nat}(h:Value.agg #[.int .i64 n,.slice a p c,.slice a1 p1 c1]=s.v):n=s.n/\a=s.va/\p=s.vars.length/\c=s.vc/\a1=s.sa/\p1=s.states.length/\c1=s.sc:=by
 simpa[Sc.v,and_assoc]using h
end Go.Proofs.YtojlhhphofhaoaaGreatDoor
end
