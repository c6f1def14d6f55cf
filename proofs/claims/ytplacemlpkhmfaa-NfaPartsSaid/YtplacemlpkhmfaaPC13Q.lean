/- Part of the proof: conditions and contracts of functions of this program. No condition of its own. -/
import Derived.Test.YtplacemlpkhmfaaPEnv
import Derived.Test.YtplacemlpkhmfaaMr
import Derived.Test.YtplacemlpkhmfaaMc
import Derived.Laws.StructEq
import Derived.Laws.Tables
import Derived.Laws.Cover2
set_option linter.unusedVariables false
set_option linter.unusedSimpArgs false
set_option linter.unusedSectionVars false
noncomputable section
namespace Go.Proofs.Ytplacemlpkhmfaa
open Go Go.Eng Go.Proofs Go.RowKit
open Go.Value (int slice agg bool string tuple func)
open Go.IntKind (u8 u64 i64)
set_option maxRecDepth 100000
def Zj9:Env:={ EB with
 loops:=swI nLa [(4,⟨[(3,.slice),(4,.int .i64),(5,.int .i64),(22,.int .i64)],[],[(40,8)],false⟩),(32,⟨[(195,.int .i64)],[13],[],false⟩)]
 joins:=swI none [(12,some [(48,.bool)]),(14,some [(74,.bool)]),(16,some [(100,.bool)]),(19,some [(123,.bool)]),(21,some [(161,.bool)])]
 dr:=swI [] [(13,[dO 0 [],dO 1 [],dO 2 [1],dO 3 [],dO 4 [3],dO 5 [0,1,2,3,4],dO 6 [],dO 7 [],dO 8 [7],dO 9 [6,7,8],dO 10 [6,7,8,9],dO 11 [],dO 12 [],dO 13 [12],dO 14 [11,12,13],dO 15 [11,12,13,14],dO 16 [6,7,8,9,10,11,12,13,14,15],⟨17,[72],[72],none,[6,7,8,9,10,11,12,13,14,15,16],[16]⟩,⟨18,[72],[],some 40,rg 0 18,[17]⟩,dO 19 (rg 0 19)]),(15,[dO 0 [],dO 1 [],dO 2 [1],dO 3 [],dO 4 [3],dO 5 [0,1,2,3,4],dO 6 [],dO 7 [],dO 8 [7],dO 9 [6,7,8],dO 10 [6,7,8,9],dO 11 [],dO 12 [],dO 13 [12],dO 14 [11,12,13],dO 15 [11,12,13,14],dO 16 [6,7,8,9,10,11,12,13,14,15],⟨17,[98],[98],none,[6,7,8,9,10,11,12,13,14,15,16],[16]⟩,⟨18,[98],[],some 40,rg 0 18,[17]⟩,dO 19 (rg 0 19)]),(20,[⟨0,[7],[],none,[],[]⟩,⟨1,[7],[],none,[0],[]⟩,dO 2 [0,1],dO 3 [0,1,2],⟨4,[7],[],none,[],[]⟩,⟨5,[7],[],none,[4],[]⟩,dO 6 [4,5],dO 7 [4,5,6],dO 8 [0,1,2,3],dO 9 [0,1,2,3,4,5,6,7,8]])]
 tokOf:=swI 0 [(40,40),(47,40),(73,40),(99,40)]
 thaw:=true
 stAt:=swI none [(120,some 40),(183,some 40)] }
theorem ZiL(p0a:Option Addr)(p0n p0c:Nat)(m:Mem)(R:RT)(h:
 ∀b,lE (if(25:Int) < (↑p0n:Int)then(25:Int)else(↑p0n:Int)) λyL=>lE [some (Box.mk b [int u8 0,int u64 0,int u64 0,int u64 0,int u64 0,int i64 0,int i64 0,slice none 0 0] 41 8 false true)] λxL=>((0:
 Int)<=yL/\yL<=(↑p0c:Int))/\∃I,inI I [slice none 0 0,int i64 1,int i64 0,int i64 0] [] [slice none 0 0] m/\∀(a:Option Addr)(n:Nat) c bs bo (bl:Int) cd a9 bp (m':Mem) (aw:Nat),lE (↑n:Int) λba=>lV
 [bool (decide (ba > 1))] λbw=>lV [int i64 (i64.wrap (bl+1))] λbx=>lX (slice cd a9 bp) λax=>lE (Tok.mk ax 8) λbm=>lE (i64.wrap (ba - (2:Int))) λay=>lE (Int.toNat ay) λa2=>lX (int i64 bs) λa4=>
 lE (a2 - 0) λbb=>lX (slice (Zbq a 0 a2 8) bb bb) λbq=>lE (n+1) λak=>lE (bb+1) λal=>lX (slice a n c) λaz=>lE (i64.wrap (ba - (1:Int))) λa3=>lE (Int.toNat a3*8) λam=>lV (int i64 bo ::
 bx) λa5=>lE [some bm] λaa=>True->I [az,a4,int i64 bo,int i64 bl] [] [ax] m' aw->br (decide (bl < (↑(Int.toNat yL - 0):Int))) (atA (Zbq p0a 0 p0c 3) λb o=>Zaf bl (Int.toNat yL - 0)/\∃v a7 bc:Value,
 lE (i64.wrap (Int.tmod (RowKit.intOf bc) (4:Int))) λyL=>lE (i64.wrap (Int.tmod (RowKit.intOf a7) (3:Int))) λa8=>lE (if yL > a8 then yL else a8) λbz=>lE (if(-1:Int) > a8 then(-1:Int)else a8) λca=>lE
 (Int.tmod (RowKit.intOf v) (12:Int)) λbf=>lE (i64.wrap (bs*if(1:Int) > bz then(1:Int)else bz)) λcb=>lE (i64.wrap (bs*if(1:Int) > ca then(1:Int)else ca)) λcc=>lV [v,a7,bc] λbn=>m'.reads b
 (o+Int.toNat bl*3) bn/\∀b,lE (some (Box.mk b bn 106 3 false true)::xL) λac=>chk (v.oneCell'&&(a7.oneCell'&&(bc.oneCell'&&true))) (chk (Zbw u8 v&&decide (u8=u8)) ((12:Int)≠0/\br (decide (bf < 4)) (kT
 pG 64 [a7] m' λs m'=>kN pG 63 [string s] m' λab ad ae af ag ah ai a0 a6 ce m'=>∀b,lM (m'.add b [int u8 ab,int u64 ad,int u64 ae,int u64 af,int u64 ag,int i64 ah,int i64 ai,slice a0 a6 ce]) λmL=>m'.free b->
 (bm=Tok.mk az 8\/az=slice none 0 0\/c < ak)/\∃(xs:List Value),∃(ys:List Value),xs.length=n*8/\ys.length=1*8/\rowRd mL a xs/\rowRd mL (some (Addr.mk b 0 none)) ys/\(∀(u:Value),u∈ys->u.oneCell' =
 true)/\ak*80<=140737488355328/\ak<=9223372036854775807/\∀(a':Option Addr)(c':Nat) m',mL.le m'->rowRd m' a' (List.append xs ys)->TokFact mL a a' ak c'->Zac xL/\nxI aw I (slice a' ak c'::a4::a5) [] [slice a'
 ak c'] m') (br (bf == 4) (∀b,lM (m'.add b [int u8 1,int u64 0,int u64 0,int u64 0,int u64 0,int i64 0,int i64 0,slice none 0 0]) λmL=>m'.free b->(bm=Tok.mk az 8\/az=slice none 0 0\/c < ak)/\∃(xs:List
 Value),∃(ys:List Value),xs.length=n*8/\ys.length=1*8/\rowRd mL a xs/\rowRd mL (some (Addr.mk b 0 none)) ys/\(∀(u:Value),u∈ys->u.oneCell'=true)/\ak*80<=140737488355328/\ak<=9223372036854775807/\∀
 (a':Option Addr) (c':Nat) m',mL.le m'->rowRd m' a' (List.append xs ys)->TokFact mL a a' ak c'->Zac xL/\nxI aw I (slice a' ak c'::a4::a5) [] [slice a' ak c'] m') (∃(b:Bool),br (decide (bf < 7)) (Zac ac/\aa =
 aa/\bw=[bool b]) (Zac ac/\aa=aa/\[bool false]=[bool b])/\br b (∃(f:Fx),((0:Int)<=ay/\ay<=(↑c:Int))/\((0:Int)<=ay/\ay<=(↑a2:Int))/\atA a λb o=>Zaf ay n/\∃v an ao ap aq ar au av:Value,
 lV [v,an,ao,ap,aq,ar,au,av] λaj=>m'.reads b (o+a2*8) aj/\atA a λb o=>Zaf a3 n/\∃v bg bh bi bj bk bt bu:Value,lV [v,bg,bh,bi,bj,bk,bt,bu] λa1=>m'.reads b (o+am) a1/\dN f 16 pG 65 [int
 u8 3,agg (.mk aj),agg (.mk a1)] m' λn ab ad ae af ag ah a0 ai c bd=>∀b,lM (bd.add b [int u8 n,int u64 ab,int u64 ad,int u64 ae,int u64 af,int i64 ag,int i64 ah,slice a0 ai c]) λmL=>bd.free b->(bm=Tok.mk bq
 8\/bq=slice none 0 0\/bb < al)/\∃(xs:List Value),∃(ys:List Value),xs.length=bb*8/\ys.length=1*8/\rowRd mL (Zbq a 0 a2 8) xs/\rowRd mL (some (Addr.mk b 0 none)) ys/\(∀(u:Value),u∈ys->u.oneCell' =
 true)/\al*80<=140737488355328/\al<=9223372036854775807/\∀(a':Option Addr)(c':Nat) be,mL.le be->rowRd be a' (List.append xs ys)->TokFact mL (Zbq a 0 a2 8) a' al c'->∀M,m'.le M->bd.le M->mL.le M->be.le M->
 Zac xL/\nxI aw I (slice a' al c'::a4::a5) [] [slice a' al c'] M) (∃(b:Bool),br (decide (bf < 9)) (Zac ac/\aa=aa/\bw=[bool b]) (Zac ac/\aa=aa/\[bool false]=[bool b])/\br b (∃(f:Fx),((0:Int)<=ay
 /\ ay<=(↑c:Int))/\((0:Int)<=ay/\ay<=(↑a2:Int))/\atA a λb o=>Zaf ay n/\∃v an ao ap aq ar au av:Value,lV [v,an,ao,ap,aq,ar,au,av] λaj=>m'.reads b (o+a2*8) aj/\atA a λb o=>Zaf a3 n/\
 ∃v bg bh bi bj bk bt bu:Value,lV [v,bg,bh,bi,bj,bk,bt,bu] λa1=>m'.reads b (o+am) a1/\dN f 16 pG 65 [int u8 4,agg (.mk aj),agg (.mk a1)] m' λn ab ad ae af ag ah a0 ai c bd=>∀b,lM (bd.add b [int u8 n,int
 u64 ab,int u64 ad,int u64 ae,int u64 af,int i64 ag,int i64 ah,slice a0 ai c]) λmL=>bd.free b->(bm=Tok.mk bq 8\/bq=slice none 0 0\/bb < al)/\∃(xs:List Value),∃(ys:List Value),xs.length=bb*8/\
 ys.length=1*8/\rowRd mL (Zbq a 0 a2 8) xs/\rowRd mL (some (Addr.mk b 0 none)) ys/\(∀(u:Value),u∈ys->u.oneCell'=true)/\al*80<=140737488355328/\al<=9223372036854775807/\∀(a':Option Addr)(c':Nat) be,
 mL.le be->rowRd be a' (List.append xs ys)->TokFact mL (Zbq a 0 a2 8) a' al c'->∀M,m'.le M->bd.le M->mL.le M->be.le M->Zac xL/\nxI aw I (slice a' al c'::a4::a5) [] [slice a' al c'] M) (∃(b:Bool),br (bf == 9)
 (br (decide (ba > 0)) (Zac ac/\aa=aa/\[bool (decide (bo < 9))]=[bool b]) (Zac ac/\aa=aa/\[bool false]=[bool b])) (Zac ac/\aa=aa/\[bool false]=[bool b])/\br b (atA a λb o=>Zaf a3 n/\∃v an ao
 ap aq ar au av:Value,lV [v,an,ao,ap,aq,ar,au,av] λaj=>m'.reads b (o+am) aj/\kN pG 66 [agg (.mk aj)] m' λab ad ae af ag ah ai a0 a6 c m'=>atA a λb o=>Zaf a3 n/\ax=slice (some (Addr.mk b 0 none))
 a9 bp/\o+am+8<=a9*8/\Zac xL/\nxI aw I (az::a4::int i64 (i64.wrap (bo+1))::bx) [] [ax] (Mem.upd m' b (o+am) [int u8 ab,int u64 ad,int u64 ae,int u64 af,int u64 ag,int i64 ah,int i64 ai,slice a0 a6 c]))
 (∃(b:Bool),br (decide (bf > 9)) (br (decide (ba > 0)) (atA a λbv o=>Zaf a3 n/\∃(v:Value),m' bv (o+am+0)=some v/\chk (Zbw u8 v&&decide (u8=u8)) (Zac ac/\aa=aa/\[bool !RowKit.intOf v == 1] =
 [bool b])) (Zac ac/\aa=aa/\[bool false]=[bool b])) (Zac ac/\aa=aa/\[bool false]=[bool b])/\br b (chk (Zbw u8 a7&&decide (u8=u8)) ((3:Int)≠0/\chk (Zbw u8 bc&&decide (u8=u8)) ((4:Int)≠0/\∃(b
 : Bool),lV [bool b] λaj=>br (decide (yL < a8)) (Zac ac/\aa=aa/\[bool true]=aj) (br (yL == 0) (Zac ac/\aa=aa/\[bool true]=aj) (br (a8 == 1) (Zac ac/\aa=aa/\[bool (yL == 1)]=aj) (Zac ac/\aa=aa
 /\ [bool false]=aj)))/\br b (br (decide (cc<=16)) (atA a λb o=>Zaf a3 n/\∃v an ao ap aq ar au av:Value,lV [v,an,ao,ap,aq,ar,au,av] λa1=>m'.reads b (o+am) a1/\kN pG 67 [agg (.mk a1),int i64 a8,int
 i64 (-1)] m' λab ad ae af ag ah ai a0 a6 c m'=>atA a λb o=>Zaf a3 n/\ax=slice (some (Addr.mk b 0 none)) a9 bp/\o+am+8<=a9*8/\Zac xL/\nxI aw I (az::int i64 cc::a5) [] [ax] (Mem.upd m' b (o+am)
 [int u8 ab,int u64 ad,int u64 ae,int u64 af,int u64 ag,int i64 ah,int i64 ai,slice a0 a6 c])) (Zac xL/\nxI aw I (az::a4::a5) [] [ax] m')) (br (decide (cb<=16)) (atA a λb o=>Zaf a3 n/\∃v an ao ap aq ar au
 av:Value,lV [v,an,ao,ap,aq,ar,au,av] λa1=>m'.reads b (o+am) a1/\kN pG 67 [agg (.mk a1),int i64 a8,int i64 yL] m' λab ad ae af ag ah ai a0 a6 c m'=>atA a λb o=>Zaf a3 n/\ax=slice (some (Addr.mk
 b 0 none)) a9 bp/\o+am+8<=a9*8/\Zac xL/\nxI aw I (az::int i64 cb::a5) [] [ax] (Mem.upd m' b (o+am) [int u8 ab,int u64 ad,int u64 ae,int u64 af,int u64 ag,int i64 ah,int i64 ai,slice a0 a6 c])) (Zac xL
 /\ nxI aw I (az::a4::a5) [] [ax] m'))))) (Zac xL/\nxI aw I (az::a4::a5) [] [ax] m'))))))))) (br (ba == 0) (kN pG 63 [string (.mk (.mk [97]))] m' λn ab ad ae af ag ah a ai c m'=>rtM m m' R (agg (.mk [int u8 n,int
 u64 ab,int u64 ad,int u64 ae,int u64 af,int i64 ag,int i64 ah,slice a ai c]))) (atA a λb o=>Zaf (0:Int) n/\∃v a7 bc an ao ap aq ar:Value,lV [v,a7,bc,an,ao,ap,aq,ar] λbn=>m'.reads b (o+0) bn/\∀
 b,chk (v.oneCell'&&(a7.oneCell'&&(bc.oneCell'&&(an.oneCell'&&(ao.oneCell'&&(ap.oneCell'&&(aq.oneCell'&&(ar.oneCell'&&true)))))))) (((0:Int)<=1/\(1:Int)<=ba)/\∃I,inI I [int i64 0] [bn] [] m'/\∀ab (cs:
 List Value) (m':Mem) (ad:Nat),True->I [int i64 ab] [cs] [] m' ad->br (decide (ab < (↑(n - Int.toNat (1:Int)):Int))) (atA (Zbq a (Int.toNat (1:Int)) c 8) λbv o=>Zaf ab (n - Int.toNat (1:Int))/\∃v au av
 bg bh bi bj bk:Value,lV [v,au,av,bg,bh,bi,bj,bk] λac=>m'.reads bv (o+Int.toNat ab*8) ac/\∀(cg:Nat),chk (v.oneCell'&&(au.oneCell'&&(av.oneCell'&&(bg.oneCell'&&(bh.oneCell'&&(bi.oneCell' &&
 (bj.oneCell'&&(bk.oneCell'&&true)))))))) (kN pG 65 [int u8 4,agg (.mk cs),agg (.mk ac)] m' λn ae af ag ah ai a6 a cf c m'=>Zac (some (Box.mk b [] 41 8 false true)::xL)/\aa=aa/\nxI ad I [int i64 (i64.wrap (ab +
 1))] [[int u8 n,int u64 ae,int u64 af,int u64 ag,int u64 ah,int i64 ai,int i64 a6,slice a cf c]] [] m')) (chk (Nat.beq (cs.length) 8&&Zcr cs) (rtM m m' R (agg (.mk cs)))))))):CX Try.prog 15 #[.slice p0a p0n p0c] m [] R:=
 Zaj (E:=Zj9) ZaB mix Try.func15 [.v (.slice p0a p0n p0c)] [] (by kernel_rfl) (Eq.mp (by kernel_rfl) h)
def ZiM:Env:={ EB with
 frzNew:=[1] }
theorem Zhi(aI aZ bC bD aA bF aX:Int)(aC:Option Addr)(aB aE:Nat)(m:Mem)(R:RT)(h:
 lV [int u8 aI,int u64 aZ,int u64 bC,int u64 bD,int u64 aA,int i64 bF,int i64 aX,slice aC aB aE] λxL=>fzM m xL λb m'=>∀(b:Nat) b,m'.free b->rtM m (m'.add b xL) R (agg (.mk [int u8 6,int
 u64 0,int u64 0,int u64 0,int u64 0,int i64 0,int i64 0,slice (some (Addr.mk b 0 none)) 1 1]))):CX Try.prog 66 #[.agg #[.int .u8 aI,.int .u64 aZ,.int .u64 bC,.int .u64 bD,.int .u64 aA,.int .i64 bF,.int .i64 aX,.slice aC aB aE]] m [] R:=
 Zaj (E:=ZiM) ZaB mix Try.func66 [.v (.agg #[.int .u8 aI,.int .u64 aZ,.int .u64 bC,.int .u64 bD,.int .u64 aA,.int .i64 bF,.int .i64 aX,.slice aC aB aE])] [] (by kernel_rfl) (Eq.mp (by kernel_rfl) h)
def ZlZ:Env:={ EB with
 frzNew:=[3] }
theorem Zka(aI aZ bC bD aA bF aX:Int)(aC:Option Addr)(aB aE:Nat)(p1 p2:Int)(m:Mem)(R:RT)(h:
 lV [int u8 aI,int u64 aZ,int u64 bC,int u64 bD,int u64 aA,int i64 bF,int i64 aX,slice aC aB aE] λxL=>fzM m xL λb m'=>∀(b:Nat) b,m'.free b->rtM m (m'.add b xL) R (agg (.mk [int u8 5,int
 u64 0,int u64 0,int u64 0,int u64 0,int i64 p1,int i64 p2,slice (some (Addr.mk b 0 none)) 1 1]))):CX Try.prog 67 #[.agg #[.int .u8 aI,.int .u64 aZ,.int .u64 bC,.int .u64 bD,.int .u64 aA,.int .i64 bF,.int .i64 aX,.slice aC aB aE],.int .i64 p1,.int .i64 p2] m [] R:=
 Zaj (E:=ZlZ) ZaB mix Try.func67 [.v (.agg #[.int .u8 aI,.int .u64 aZ,.int .u64 bC,.int .u64 bD,.int .u64 aA,.int .i64 bF,.int .i64 aX,.slice aC aB aE]),.v (.int .i64 p1),.v (.int .i64 p2)] [] (by kernel_rfl) (Eq.mp (by kernel_rfl) h)
def Zgt:Env:=EB
theorem ZfI(p0:Int)(m:Mem)(R:RT)(h:
 ∀b,m.free b->(12:Int)≠0/\Zaf (Int.tmod p0 (12:Int)) 12/\Eng.Zp3 [string (.mk (.mk [97])),string (.mk (.mk [98])),string (.mk (.mk [97,98])),string (.mk (.mk [97])),string (.mk (.mk [98])),string (.mk (.mk
 [99])),string (.mk (.mk [97,98,99])),string (.mk (.mk [98,99])),string (.mk (.mk [10])),string (.mk (.mk [0,255])),string (.mk (.mk [97])),string (.mk (.mk [98]))] (Int.toNat (Int.tmod p0 (12:Int))*1) λv=>rtM m
 (m.add b [string (.mk (.mk [97])),string (.mk (.mk [98])),string (.mk (.mk [97,98])),string (.mk (.mk [97])),string (.mk (.mk [98])),string (.mk (.mk [99])),string (.mk (.mk [97,98,99])),string (.mk (.mk [98,99])),
 string (.mk (.mk [10])),string (.mk (.mk [0,255])),string (.mk (.mk [97])),string (.mk (.mk [98]))]) R v):CX Try.prog 64 #[.int .u8 p0] m [] R:=
 Zaj (E:=Zgt) ZaB mix Try.func64 [.v (.int .u8 p0)] [] (by kernel_rfl) (Eq.mp (by kernel_rfl) h)
def ZiN:Env:={ EB with
 loops:=swI nLa [(3,⟨[(7,.int .i64)],[3],[],false⟩)]
 dr:=swI [] [(5,[dO 0 [],dO 1 [],dO 2 [0,1],dO 3 [0,1,2],⟨4,[3],[],none,[0,1,2,3],[]⟩,⟨5,[3],[],none,[0,1,2,3,4],[]⟩,dO 6 [],dO 7 [],dO 8 [6,7],dO 9 [6,7,8],dO 10 [6,7,8,9],dO 11 [0,1,2,3,4,5,6,7,8,9,10],⟨12,[3],[],none,rg 0 12,[]⟩,⟨13,[3],[3],none,rg 0 13,[]⟩])] }
theorem Zhj(p0:ByteArray)(m:Mem)(R:RT)(h:
 ∀b b_1,∃I,inI I [int i64 0] [[int u64 0,int u64 0,int u64 0,int u64 0]] [] m/\∀(n:Int)(cs:List Value) m' (n_1:Nat),lE (ZrI p0 (Int.toNat n)) λyL=>lE (u8.wrap (Int.tdiv yL (64:Int))) λyL_1=>lE (0 +
 Int.toNat yL_1*1) λyL_2=>lV (List.append cs (List.drop (1+cs.length) [int u8 2,int u64 0,int u64 0,int u64 0,int u64 0,int i64 0,int i64 0,slice none 0 0])) λxL=>m.le m'->I [int i64 n] [cs] [] m' n_1->br
 (decide (n < (↑(ByteArray.size p0):Int))) (Zaf n (ByteArray.size p0)/\(64:Int)≠0/\Zaf yL_1 4/\Eng.Zp3 cs yL_2 λv=>Zaf n (ByteArray.size p0)/\(64:Int)≠0/\(0:Int)<=Int.tmod yL (64:Int)/\chk
 (Zbw u64 v&&decide (u64=u64)) (Zaf yL_1 4/\chk (Nat.ble (yL_2+1) (cs.length)) (Zac [some (Box.mk b_1 [] 38 4 false true),some (Box.mk b [int u8 0,int u64 0,int u64 0,int u64 0,int u64 0,int i64 0,int i64 0,
 slice none 0 0] 41 8 false true)]/\nxI n_1 I [int i64 (i64.wrap (n+1))] [Zaw cs yL_2 [int u64 (u64.wrap (↑(BitVec.toNat (BitVec.ofInt 64 (RowKit.intOf v)|||BitVec.ofInt 64 (u64.wrap ((1:Int)*(2:Int) ^ min (Int.toNat
 (Int.tmod yL (64:Int))) 64)))):Int))]] [] m'))) (chk (Nat.beq (cs.length) 4&&true) (chk (Nat.beq (xL.length) (nat_lit 7)&&Zcr xL) (rtM m m' R (agg (.mk (Zaw [int u8 2,int u64 0,int u64 0,int u64 0,int u64 0,int
 i64 0,int i64 0,slice none 0 0] 1 cs))))))):CX Try.prog 63 #[.string p0] m [] R:=
 Zaj (E:=ZiN) ZaB mix Try.func63 [.v (.string p0)] [] (by kernel_rfl) (Eq.mp (by kernel_rfl) h)
def ZiO:Env:={ EB with
 loops:=swI nLa [(3,⟨[(7,.slice),(14,.int .i64)],[],[(30,8)],false⟩)]
 joins:=swI none [(8,some [(31,.bool)])]
 tokOf:=swI 0 [(21,30),(30,30)]
 frzNew:=[4,5] }
theorem Zhk(p0 bS bK bL bM bI aV bJ:Int)(aL:Option Addr)(aM aN:Nat)(fI fJ fK fL fM fN fO:Int)(jL:Option Addr)(jM jN:Nat)(m:Mem)(R:RT)(h:
 lV [int u8 bS,int u64 bK,int u64 bL,int u64 bM,int u64 bI,int i64 aV,int i64 bJ,slice aL aM aN] λxL=>lV [int u8 fI,int u64 fJ,int u64 fK,int u64 fL,int u64 fM,int i64 fN,int i64
 fO,slice jL jM jN] λaj=>lV (int u8 bS::int u64 bK::int u64 bL::int u64 bM::int u64 bI::int i64 aV::int i64 bJ::slice aL aM aN::aj) λaf=>fzM m xL λb m'=>lE [some
 (Box.mk b xL 41 8 true true)] λxL=>fzM m' aj λb m'=>∀aw ag,lE (some (Box.mk ag af 41 16 true true)::some (Box.mk aw [int u8 0,int u64 0,int u64 0,int u64 0,int u64 0,int i64 0,int i64 0,slice none 0 0] 41 8
 false true)::some (Box.mk b aj 41 8 true true)::xL) λxL=>m'.free ag->∃I,inI I [slice none 0 0,int i64 0] [] [slice none 0 0] (m'.add ag af)/\∀a (n:Nat) c (ad:Int) ax ay az (aa:Mem) (ah:Nat),lX (slice ax ay
 az) λyL=>lE (Tok.mk yL 8) λak=>lE [some ak] λai=>lE (n+1) λae=>lV [int i64 (i64.wrap (ad+1))] λal=>lX (slice a n c) λac=>lV (List.take 8 (List.drop (Int.toNat ad*8) af)) λab=>Mem.le (m'.add
 ag af) aa->I [ac,int i64 ad] [] [yL] aa ah->br (decide (ad < (↑(2:Nat):Int))) (Zaf ad 2/\chk (Nat.ble (Int.toNat ad*8) (1+1+1+1+1+1+1+1)) (∀b,lE (some (Box.mk b ab 41 8 false true)::xL) λam=>
 chk (Nat.beq (ab.length) 8&&Zcr ab) (Eng.Zp3 ab 0 λv=>chk (Zbw u8 v&&decide (u8=u8)) (br (RowKit.intOf v == p0) (Eng.Zp3 ab 7 λv=>lE (n+slN v) λyL=>chk (ZdK v&&true) ((ak=Tok.mk ac 8\/ac=slice
 none 0 0\/c < yL)/\∃(xs:List Value),∃(ys:List Value),xs.length=n*8/\ys.length=slN v*8/\rowRd aa a xs/\rowRd aa (slA v) ys/\(∀(u:Value),u∈ys->u.oneCell'=true)/\yL*80<=140737488355328/\yL <=
 9223372036854775807/\∀(a':Option Addr) c' m',aa.le m'->rowRd m' a' (List.append xs ys)->Zac xL/\nxI ah I (slice a' yL c'::al) [] [slice a' yL c'] m')) (∃(b:Bool),br (p0 == 3) (Eng.Zp3 ab 0 λv=>chk (Zbw u8
 v&&decide (u8=u8)) (Zac am/\ai=ai/\[bool (RowKit.intOf v == 1)]=[bool b])) (Zac am/\ai=ai/\[bool false]=[bool b])/\br b (Zac xL/\nxI ah I (ac::al) [] [yL] aa) (chk (Nat.beq (ab.length) 8&&true) (∀b,
 lM (aa.add b (List.append ab [])) λmL=>aa.free b->(ak=Tok.mk ac 8\/ac=slice none 0 0\/c < ae)/\∃(xs:List Value),∃(ys:List Value),xs.length=n*8/\ys.length=1*8/\rowRd mL a xs/\rowRd mL (some (Addr.mk
 b 0 none)) ys/\(∀(u:Value),u∈ys->u.oneCell'=true)/\ae*80<=140737488355328/\ae<=9223372036854775807/\∀(a':Option Addr) c' m',mL.le m'->rowRd m' a' (List.append xs ys)->Zac xL/\nxI ah I (slice a' ae c' ::
 al) [] [slice a' ae c'] m'))))))) (br ((↑n:Int) == 0) (rtM m aa R (agg (.mk [int u8 1,int u64 0,int u64 0,int u64 0,int u64 0,int i64 0,int i64 0,slice none 0 0]))) (br ((↑n:Int) == 1) (atA a λb o=>Zaf (0:
 Int) n/\∃v an ao ap aq ar au av:Value,lV [v,an,ao,ap,aq,ar,au,av] λxL=>aa.reads b (o+0) xL/\chk (v.oneCell'&&(an.oneCell'&&(ao.oneCell'&&(ap.oneCell'&&(aq.oneCell'&&(ar.oneCell'&&(au.oneCell' &&
 (av.oneCell'&&true)))))))) (rtM m aa R (agg (.mk xL)))) (rtM m aa R (agg (.mk [int u8 p0,int u64 0,int u64 0,int u64 0,int u64 0,int i64 0,int i64 0,ac])))))):CX Try.prog 65 #[.int .u8 p0,.agg #[.int .u8 bS,.int .u64 bK,.int .u64 bL,.int .u64 bM,.int .u64 bI,.int .i64 aV,.int .i64 bJ,.slice aL aM aN],.agg #[.int .u8 fI,.int .u64 fJ,.int .u64 fK,.int .u64 fL,.int .u64 fM,.int .i64 fN,.int .i64 fO,.slice jL jM jN]] m [] R:=
 Zaj (E:=ZiO) ZaB mix Try.func65 [.v (.int .u8 p0),.v (.agg #[.int .u8 bS,.int .u64 bK,.int .u64 bL,.int .u64 bM,.int .u64 bI,.int .i64 aV,.int .i64 bJ,.slice aL aM aN]),.v (.agg #[.int .u8 fI,.int .u64 fJ,.int .u64 fK,.int .u64 fL,.int .u64 fM,.int .i64 fN,.int .i64 fO,.slice jL jM jN])] [] (by kernel_rfl) (Eq.mp (by kernel_rfl) h)
def Znh:Env:={ EB with
 frzNew:=[1] }
theorem Zl0(aI aZ bC bD aA bF aX:Int)(aC:Option Addr)(aB aE:Nat)(m:Mem)(R:RT)(h:
 fzM m [int u8 aI,int u64 aZ,int u64 bC,int u64 bD,int u64 aA,int i64 bF,int i64 aX,slice aC aB aE] λb m'=>rtM m m' R (func (Fn.func 133) (Array.mk []) (Array.mk [Value.pointer (some (Addr.mk b 0
 none))]))):CX Try.prog 107 #[.agg #[.int .u8 aI,.int .u64 aZ,.int .u64 bC,.int .u64 bD,.int .u64 aA,.int .i64 bF,.int .i64 aX,.slice aC aB aE]] m [] R:=
 Zaj (E:=Znh) ZaB mix Try.func107 [.v (.agg #[.int .u8 aI,.int .u64 aZ,.int .u64 bC,.int .u64 bD,.int .u64 aA,.int .i64 bF,.int .i64 aX,.slice aC aB aE])] [] (by kernel_rfl) (Eq.mp (by kernel_rfl) h)
def Zkb:Env:={ EB with
 loops:=swI nLa [(3,⟨[(13,.int .i64)],[],[],true⟩),(7,⟨[(19,.agg [.int .u8,.int .u64,.int .u64,.int .u64,.int .u64,.int .i64,.int .i64,.slice])],[],[],true⟩)]
 frzNew:=[2] }
theorem ZiP(p0g:Nat)(p0fi p0ca:List Value)(c0b c0o:Nat)(m:Mem)(xs:List (List Value))(h:
 ∀(l:Nat),lE (↑(xs.length):Int) λyL=>lV [func (Fn.yield l) (Array.mk []) (Array.mk [])] λxL=>fzM m xL λb m'=>∃v v_1 v_2 v_3 v_4 v_5 v_6 v_7:Value,lV [v,v_1,v_2,v_3,v_4,v_5,v_6,v_7] λxL_1=>lE
 [some (Box.mk b xL 94 1 true true)] λxL=>m'.reads c0b c0o xL_1/\(l=l/\(0:Int)<=0/\List.get?Internal xs (Int.toNat (0:Int))=some [agg (.mk xL_1)])/\(∃(v:Value),m' c0b (c0o+7)=some v/\chk (ZdK v) (∃I,
 inI I [int i64 ((0:Int)+1),int i64 0] [] [] m'/\∀y n m'_1 (n_1:Nat),m'.le m'_1->I [int i64 y,int i64 n] [] [] m'_1 n_1->br (decide (n < (↑(slN v):Int))) (chk (ZdK v) (atA (slA v) λb o=>Zaf n (slN v)/\∃v
 v_8 v_9 v_10 v_11 v_12 v_13 v_14:Value,lV [v,v_8,v_9,v_10,v_11,v_12,v_13,v_14] λxL_2=>m'_1.reads b (o+Int.toNat n*8) xL_2/\∀b,lE (some (Box.mk b xL_2 41 8 false true)::xL) λxL_3=>chk (v.oneCell' &&
 (v_8.oneCell'&&(v_9.oneCell'&&(v_10.oneCell'&&(v_11.oneCell'&&(v_12.oneCell'&&(v_13.oneCell'&&(v_14.oneCell'&&true)))))))) (kF pG 107 [agg (.mk xL_2)] m'_1 λg fi ca m'=>∃(xs_1:List (List Value)),IX pG g fi
 ca m' xs_1/\(∀(x:List Value),x∈xs_1->Shape.fitsL [shT] x=true)/\∃(I_1:IT),I_1 [int i64 y] [] [] m' 0/\(∀y n n_2 n_3 n_4 n_5 n_6 n_7 a n_8 c m'_2 (n_9:Nat),lE (some [agg (.mk [int u8 n,int u64 n_2,int u64 n_3,
 int u64 n_4,int u64 n_5,int i64 n_6,int i64 n_7,slice a n_8 c])]) λyL_1=>m'.le m'_2->List.get?Internal xs_1 n_9=yL_1->I_1 [int i64 y] [] [] m'_2 n_9->∀(b:Nat),(l=l/\(0:Int)<=y/\List.get?Internal xs
 (Int.toNat y)=yL_1)/\(Zac xL_3/\I_1 [int i64 (y+1)] [] [] m'_2 (n_9+1))/\Zac xL_3/\((-1:Int)=yL\/(-1:Int)=(-1:Int)))/\∀y m'_2,m'.le m'_2->I_1 [int i64 y] [] [] m'_2 (xs_1.length)->Zac xL/\nxI
 n_1 I [int i64 y,int i64 (i64.wrap (n+1))] [] [] m'_2))) (y=yL\/y=(-1:Int))))/\((-1:Int)=yL\/(-1:Int)=(-1:Int))):IX Try.prog 133 [] [.pointer (some ⟨c0b,c0o,none⟩)] m xs:=
 Zly (E:=Zkb) ZaB mix Try.func133 [] [.pointer (some ⟨c0b,c0o,none⟩)] xs (by kernel_rfl) (Eq.mp (by kernel_rfl) h)
def Zni:Env:={ EB with
 loops:=swI nLa [(3,⟨[(6,.agg [.int .u8,.int .u64,.int .u64,.int .u64,.int .u64,.int .i64,.int .i64,.slice])],[3],[],false⟩)]
 frzNew:=[1] }
theorem Zl1(aI aZ bC bD aA bF aX:Int)(aC:Option Addr)(aB aE:Nat)(m:Mem)(R:RT)(h:
 lV [int u8 aI,int u64 aZ,int u64 bC,int u64 bD,int u64 aA,int i64 bF,int i64 aX,slice aC aB aE] λxL=>fzM m xL λb m'=>∀b_1,lE [some (Box.mk b_1 [] 3 1 false true),some (Box.mk b xL 41 8
 true true)] λxL_1=>kF pG 107 [agg (.mk xL)] m' λg fi ca m'=>∃(xs:List (List Value)),IX pG g fi ca m' xs/\(∀(x:List Value),x∈xs->Shape.fitsL [shT] x=true)/\∃(I:IT),I [] [[int i64 0]] [] m' 0/\(∀n n_1
 n_2 n_3 n_4 n_5 n_6 a n_7 c (cs:List Value) m'_1 (n_8:Nat),m'.le m'_1->List.get?Internal xs n_8=some [agg (.mk [int u8 n,int u64 n_1,int u64 n_2,int u64 n_3,int u64 n_4,int i64 n_5,int i64 n_6,slice a n_7 c])]->I
 [] [cs] [] m'_1 n_8->Eng.Zp3 cs 0 λv=>lE (i64.wrap (RowKit.intOf v+1)) λyL=>chk (Zbw i64 v&&decide (i64=i64)) (br (decide (yL > 10000)) (Zac xL_1/\rtM m m'_1 R (bool (decide (yL<=10000)))) (Zac xL_1/\I
 [] [[int i64 yL]] [] m'_1 (n_8+1))))/\∀(cs:List Value) m'_1,m'.le m'_1->I [] [cs] [] m'_1 (xs.length)->Eng.Zp3 cs 0 λv=>chk (Zbw i64 v&&decide (i64=i64)) (rtM m m'_1 R (bool (decide (RowKit.intOf v<=10000))))):CX Try.prog 92 #[.agg #[.int .u8 aI,.int .u64 aZ,.int .u64 bC,.int .u64 bD,.int .u64 aA,.int .i64 bF,.int .i64 aX,.slice aC aB aE]] m [] R:=
 Zaj (E:=Zni) ZaB mix Try.func92 [.v (.agg #[.int .u8 aI,.int .u64 aZ,.int .u64 bC,.int .u64 bD,.int .u64 aA,.int .i64 bF,.int .i64 aX,.slice aC aB aE])] [] (by kernel_rfl) (Eq.mp (by kernel_rfl) h)
def Zl2:Env:={ EB with
 joins:=swI none [(1,some [(18,.bool)]),(3,some [(4,.bool)])] }
theorem Zkc(p0 p1:Int)(m:Mem)(R:RT)(h:
 ∃(b:Bool),lV [bool b] λxL=>br (decide (p0 < 0)) ([bool true]=xL) (br (decide (p0 > 16)) ([bool true]=xL) (br (p0 == 1) ([bool (p1 == 1)]=xL) ([bool false]=xL)))/\br b (rtM m m R (bool false)) (∃(b:Bool),lV
 [bool b] λxL=>br (p1 == (-1)) ([bool true]=xL) (br (decide (p1 ≥ 1)) (br (decide (p1<=16)) ([bool (decide (p1 ≥ p0))]=xL) ([bool false]=xL)) ([bool false]=xL))/\rtM m m R (bool b))):CX Try.prog 84 #[.int .i64 p0,.int .i64 p1] m [] R:=
 Zaj (E:=Zl2) ZaB mix Try.func84 [.v (.int .i64 p0),.v (.int .i64 p1)] [] (by kernel_rfl) (Eq.mp (by kernel_rfl) h)
def Znj:Env:={ EB with
 frzNew:=[2] }
theorem Zl3(aI aZ bC bD aA bF aX:Int)(aC:Option Addr)(aB aE c0b c0o:Nat)(m:Mem)(R:RT)(h:
 fzM m [int u8 aI,int u64 aZ,int u64 bC,int u64 bD,int u64 aA,int i64 bF,int i64 aX,slice aC aB aE] λb m'=>∃(v:Value),m' c0b c0o=some v/\chk (Zbw u8 v) (rtM m m' R (bool (aI ==
 RowKit.intOf v)))):CX Try.prog 163 #[.agg #[.int .u8 aI,.int .u64 aZ,.int .u64 bC,.int .u64 bD,.int .u64 aA,.int .i64 bF,.int .i64 aX,.slice aC aB aE],.pointer (some ⟨c0b,c0o,none⟩)] m [] R:=
 Zaj (E:=Znj) ZaB mix Try.func163 [.v (.agg #[.int .u8 aI,.int .u64 aZ,.int .u64 bC,.int .u64 bD,.int .u64 aA,.int .i64 bF,.int .i64 aX,.slice aC aB aE]),.v (.pointer (some ⟨c0b,c0o,none⟩))] [] (by kernel_rfl) (Eq.mp (by kernel_rfl) h)
def Zbc:Env:={ EB with
 loops:=swI nLa [(2,⟨[(8,.int .i64)],[],[],false⟩)] }
theorem Za5(p0a:Option Addr)(p0n p0c p1g:Nat)(p1fi p1ca:List Value)(m:Mem)(R:RT)(h:
 ∃I,inI I [int i64 0] [] [] m/\∀n m' (n_1:Nat),m.le m'->I [int i64 n] [] [] m' n_1->br (decide (n < (↑p0n:Int))) (atA p0a λb o=>Zaf n p0n/\∃v v_1 v_2 v_3 v_4 v_5 v_6 v_7:Value,lV [v,v_1,v_2,v_3,v_4,
 v_5,v_6,v_7] λxL=>m'.reads b (o+Int.toNat n*8) xL/\kB pG p1g (List.append (List.append p1fi [agg (.mk xL)]) p1ca) m' λb m'=>br b (rtM m m' R (int i64 n)) (nxI n_1 I [int i64 (i64.wrap (n+1))] [] [] m')) (rtM m
 m' R (int i64 (-1)))):CX Try.prog 166 #[.slice p0a p0n p0c,.func (.func p1g) p1fi.toArray p1ca.toArray] m [] R:=
 Zaj (E:=Zbc) ZaB mix Try.func166 [.v (.slice p0a p0n p0c),.v (.func (.func p1g) p1fi.toArray p1ca.toArray)] [] (by kernel_rfl) (Eq.mp (by kernel_rfl) h)
def ZaV:Env:=EB
theorem ZaR(p0a:Option Addr)(p0n p0c p1g:Nat)(p1fi p1ca:List Value)(m:Mem)(R:RT)(h:
 kI pG 166 [slice p0a p0n p0c,func (Fn.func p1g) (Array.mk p1fi) (Array.mk p1ca)] m λn m'=>rtM m m' R (bool (decide (n ≥ 0)))):CX Try.prog 162 #[.slice p0a p0n p0c,.func (.func p1g) p1fi.toArray p1ca.toArray] m [] R:=
 Zaj (E:=ZaV) ZaB mix Try.func162 [.v (.slice p0a p0n p0c),.v (.func (.func p1g) p1fi.toArray p1ca.toArray)] [] (by kernel_rfl) (Eq.mp (by kernel_rfl) h)
def Zrs:Env:={ EB with
 frzNew:=[2,3] }
theorem ZpD(aI aZ bC bD aA bF aX:Int)(aC:Option Addr)(aB aE:Nat)(p1:Int)(m:Mem)(R:RT)(h:
 fzM m [int u8 aI,int u64 aZ,int u64 bC,int u64 bD,int u64 aA,int i64 bF,int i64 aX,slice aC aB aE] λb m'=>fzM m' [int u8 p1] λb m'=>kB pG 162 [slice aC aB aE,func (Fn.func 163)
 (Array.mk []) (Array.mk [Value.pointer (some (Addr.mk b 0 none))])] m' λb m'=>rtM m m' R (bool b)):CX Try.prog 134 #[.agg #[.int .u8 aI,.int .u64 aZ,.int .u64 bC,.int .u64 bD,.int .u64 aA,.int .i64 bF,.int .i64 aX,.slice aC aB aE],.int .u8 p1] m [] R:=
 Zaj (E:=Zrs) ZaB mix Try.func134 [.v (.agg #[.int .u8 aI,.int .u64 aZ,.int .u64 bC,.int .u64 bD,.int .u64 aA,.int .i64 bF,.int .i64 aX,.slice aC aB aE]),.v (.int .u8 p1)] [] (by kernel_rfl) (Eq.mp (by kernel_rfl) h)
def Znk:Env:={ EB with
 joins:=swI none [(1,some [(37,.bool)]),(9,some [(2,.bool)]),(11,some [(2,.bool)]),(13,some [(2,.bool)]),(14,some [(2,.bool)])]
 frzNew:=[1] }
theorem Zl4(aI aZ bC bD aA bF aX:Int)(aC:Option Addr)(aB aE:Nat)(m:Mem)(R:RT)(h:
 lE (↑aB:Int) λyL=>lV [int u8 aI,int u64 aZ,int u64 bC,int u64 bD,int u64 aA,int i64 bF,int i64 aX,slice aC aB aE] λxL=>lX (agg (.mk xL)) λyL_1=>lE (decide (aI < 3)) λyL_2=>
 lX (agg (.mk [int u64 aZ,int u64 bC,int u64 bD,int u64 aA])) λyL_3=>lV [bool (decide (yL > 0))] λxL_1=>fzM m xL λb m'=>∃(b_1:Bool),lV [bool b_1] λxL_2=>lE [some (Box.mk b xL 41 8 true true)] fun
 xL=>br (!aI == 2) (∃(b:Bool),EqIs pG 38 yL_3 (agg (.mk [int u64 0,int u64 0,int u64 0,int u64 0])) b/\br (!b) (Zac xL/\[bool true]=xL_2) (br (!aI == 5) (br (!bF == 0) (Zac xL/\[bool true]=xL_2) (br
 (!aX == 0) (Zac xL/\[bool true]=xL_2) (br yL_2 (Zac xL/\xL_1=xL_2) (Zac xL/\[bool false]=xL_2)))) (br yL_2 (Zac xL/\xL_1=xL_2) (Zac xL/\[bool false]=xL_2)))) (br (!aI == 5) (br (!bF == 0)
 (Zac xL/\[bool true]=xL_2) (br (!aX == 0) (Zac xL/\[bool true]=xL_2) (br yL_2 (Zac xL/\xL_1=xL_2) (Zac xL/\[bool false]=xL_2)))) (br yL_2 (Zac xL/\xL_1=xL_2) (Zac xL/\[bool false]=xL_2)))/\br
 b_1 (rtM m m' R (bool false)) (br (aI == 1) (rtM m m' R (bool true)) (br (aI == 2) (∃(b:Bool),EqIs pG 38 yL_3 (agg (.mk [int u64 0,int u64 0,int u64 0,int u64 0])) b/\rtM m m' R (bool !b)) (br (aI == 3) (∃(b:
 Bool),br (decide (yL > 1)) (kB pG 134 [yL_1,int u8 1] m' λb_2 m'=>br (!b_2) (kB pG 134 [yL_1,int u8 3] m' λb_3 m'=>Zac xL/\[bool !b_3]=[bool b]) (Zac xL/\[bool false]=[bool b])) (Zac xL/\[bool false] =
 [bool b])/\rtM m m' R (bool b)) (br (aI == 4) (∃(b:Bool),br (decide (yL > 1)) (kB pG 134 [yL_1,int u8 4] m' λb_2 m'=>Zac xL/\[bool !b_2]=[bool b]) (Zac xL/\[bool false]=[bool b])/\rtM m m' R (bool b)) (br
 (aI == 5) (∃(b:Bool),br (yL == 1) (kB pG 84 [int i64 bF,int i64 aX] m' λb_2 m'=>br b_2 (kB pG 134 [yL_1,int u8 1] m' λb_3 m'=>Zac xL/\[bool !b_3]=[bool b]) (Zac xL/\[bool false]=[bool b])) (Zac
 xL/\[bool false]=[bool b])/\rtM m m' R (bool b)) (∃(b:Bool),br (aI == 6) (Zac xL/\[bool (yL == 1)]=[bool b]) (Zac xL/\[bool false]=[bool b])/\rtM m m' R (bool b)))))))):CX Try.prog 108 #[.agg #[.int .u8 aI,.int .u64 aZ,.int .u64 bC,.int .u64 bD,.int .u64 aA,.int .i64 bF,.int .i64 aX,.slice aC aB aE]] m [] R:=
 Zaj (E:=Znk) ZaB mix Try.func108 [.v (.agg #[.int .u8 aI,.int .u64 aZ,.int .u64 bC,.int .u64 bD,.int .u64 aA,.int .i64 bF,.int .i64 aX,.slice aC aB aE])] [] (by kernel_rfl) (Eq.mp (by kernel_rfl) h)
def Znl:Env:={ EB with
 loops:=swI nLa [(5,⟨[(9,.agg [.int .u8,.int .u64,.int .u64,.int .u64,.int .u64,.int .i64,.int .i64,.slice])],[2],[],false⟩)]
 frzNew:=[1] }
theorem Zl5(aI aZ bC bD aA bF aX:Int)(aC:Option Addr)(aB aE:Nat)(m:Mem)(R:RT)(h:
 lV [int u8 aI,int u64 aZ,int u64 bC,int u64 bD,int u64 aA,int i64 bF,int i64 aX,slice aC aB aE] λxL=>fzM m xL λb m'=>∀b_1,lE [some (Box.mk b_1 [] 4 1 false true),some (Box.mk b xL 41 8
 true true)] λxL_1=>kB pG 92 [agg (.mk xL)] m' λb m'=>br (!b) (rtM m m' R (bool false)) (kF pG 107 [agg (.mk xL)] m' λg fi ca m'=>∃(xs:List (List Value)),IX pG g fi ca m' xs/\(∀(x:List Value),x∈xs->
 Shape.fitsL [shT] x=true)/\∃(I:IT),I [] [[bool false]] [] m' 0/\(∀n n_1 n_2 n_3 n_4 n_5 n_6 a n_7 c (cs:List Value) m'_1 (n_8:Nat),lV [agg (.mk [int u8 n,int u64 n_1,int u64 n_2,int u64 n_3,int u64 n_4,int i64
 n_5,int i64 n_6,slice a n_7 c])] λxL=>m'.le m'_1->List.get?Internal xs n_8=some xL->I [] [cs] [] m'_1 n_8->∀(b:Nat),kB pG 108 xL m'_1 λb m'=>br (!b) (Zac xL_1/\rtM m m' R (bool false)) (Zac xL_1/\I []
 [cs] [] m' (n_8+1)))/\∀(cs:List Value) m'_1,m'.le m'_1->I [] [cs] [] m'_1 (xs.length)->rtM m m'_1 R (bool true))):CX Try.prog 59 #[.agg #[.int .u8 aI,.int .u64 aZ,.int .u64 bC,.int .u64 bD,.int .u64 aA,.int .i64 bF,.int .i64 aX,.slice aC aB aE]] m [] R:=
 Zaj (E:=Znl) ZaB mix Try.func59 [.v (.agg #[.int .u8 aI,.int .u64 aZ,.int .u64 bC,.int .u64 bD,.int .u64 aA,.int .i64 bF,.int .i64 aX,.slice aC aB aE])] [] (by kernel_rfl) (Eq.mp (by kernel_rfl) h)
def ZpE:Env:={ EB with
 loops:=swI nLa [(5,⟨[(9,.agg [.int .u8,.int .u64,.int .u64,.int .u64,.int .u64,.int .i64,.int .i64,.slice])],[3],[],false⟩)]
 frzNew:=[1] }
theorem Znm(aI aZ bC bD aA bF aX:Int)(aC:Option Addr)(aB aE:Nat)(m:Mem)(R:RT)(h:
 lV [int u8 aI,int u64 aZ,int u64 bC,int u64 bD,int u64 aA,int i64 bF,int i64 aX,slice aC aB aE] λxL=>fzM m xL λb m'=>kB pG 92 [agg (.mk xL)] m' λb_1 m'=>br (!b_1) (rtM m m' R (int i64
 10001)) (∀b_2,kF pG 107 [agg (.mk xL)] m' λg fi ca m'=>∃(xs:List (List Value)),IX pG g fi ca m' xs/\(∀(x:List Value),x∈xs->Shape.fitsL [shT] x=true)/\∃(I:IT),I [] [[int i64 0]] [] m' 0/\(∀n n_1 n_2 n_3
 n_4 n_5 n_6 a n_7 c (cs:List Value) m'_1 (n_8:Nat),m'.le m'_1->List.get?Internal xs n_8=some [agg (.mk [int u8 n,int u64 n_1,int u64 n_2,int u64 n_3,int u64 n_4,int i64 n_5,int i64 n_6,slice a n_7 c])]->I [] [cs]
 [] m'_1 n_8->Eng.Zp3 cs 0 λv=>chk (Zbw i64 v&&decide (i64=i64)) (Zac [some (Box.mk b_2 [] 3 1 false true),some (Box.mk b xL 41 8 true true)]/\I [] [[int i64 (i64.wrap (RowKit.intOf v+1))]] [] m'_1 (n_8+1)))/\
 ∀(cs:List Value) m'_1,m'.le m'_1->I [] [cs] [] m'_1 (xs.length)->Eng.Zp3 cs 0 λv=>rtM m m'_1 R v)):CX Try.prog 60 #[.agg #[.int .u8 aI,.int .u64 aZ,.int .u64 bC,.int .u64 bD,.int .u64 aA,.int .i64 bF,.int .i64 aX,.slice aC aB aE]] m [] R:=
 Zaj (E:=ZpE) ZaB mix Try.func60 [.v (.agg #[.int .u8 aI,.int .u64 aZ,.int .u64 bC,.int .u64 bD,.int .u64 aA,.int .i64 bF,.int .i64 aX,.slice aC aB aE])] [] (by kernel_rfl) (Eq.mp (by kernel_rfl) h)
def Zhl:Env:={ EB with
 loops:=swI nLa [(5,⟨[(3,.int .i64),(14,.int .i64)],[],[],false⟩)]
 frzNew:=[1] }
theorem Zgu(aI aZ bC bD aA bF aX:Int)(aC:Option Addr)(aB aE:Nat)(m:Mem)(R:RT)(h:
 lE (if(0:Int) > bF then(0:Int)else bF) λyL=>lE (if aX > yL then aX else yL) λyL_1=>lE (if(1:Int) > yL then(1:Int)else yL) λyL=>lE (if(10001:Int) < yL_1 then(10001:Int)else yL_1) λyL_2
 => lE (if(10001:Int) < yL then(10001:Int)else yL) λyL=>lV [int u8 aI,int u64 aZ,int u64 bC,int u64 bD,int u64 aA,int i64 bF,int i64 aX,slice aC aB aE] λxL=>fzM m xL λb m'=>lE
 [some (Box.mk b xL 41 8 true true)] λxL=>br (aI == 2) (∃I,inI I [int i64 1,int i64 0] [] [] m'/\∀n n_1 m'_1 (n_2:Nat),m'.le m'_1->I [int i64 n,int i64 n_1] [] [] m'_1 n_2->br (decide (n_1 < (↑aB:Int))) (atA
 aC λb o=>Zaf n_1 aB/\∃v v_1 v_2 v_3 v_4 v_5 v_6 v_7:Value,lV [v,v_1,v_2,v_3,v_4,v_5,v_6,v_7] λxL_1=>m'_1.reads b (o+Int.toNat n_1*8) xL_1/\∀(b:Nat),chk (v.oneCell'&&(v_1.oneCell' &&
 (v_2.oneCell'&&(v_3.oneCell'&&(v_4.oneCell'&&(v_5.oneCell'&&(v_6.oneCell'&&(v_7.oneCell'&&true)))))))) (kI pG 93 [agg (.mk xL_1)] m'_1 λn_3 m'=>Zac xL/\nxI n_2 I [int i64 (i64.wrap (n+n_3)),int i64
 (i64.wrap (n_1+1))] [] [] m')) (br (aI == 5) (br (aX == (-1)) (rtM m m'_1 R (int i64 (if(10001:Int) < i64.wrap (n*yL)then(10001:Int)else i64.wrap (n*yL)))) (rtM m m'_1 R (int i64 (if(10001:Int) < i64.wrap (n *
 yL_2)then(10001:Int)else i64.wrap (n*yL_2))))) (rtM m m'_1 R (int i64 (if(10001:Int) < n then(10001:Int)else n))))) (∃I,inI I [int i64 0,int i64 0] [] [] m'/\∀n n_1 m'_1 (n_2:Nat),m'.le m'_1->I [int i64 n,
 int i64 n_1] [] [] m'_1 n_2->br (decide (n_1 < (↑aB:Int))) (atA aC λb o=>Zaf n_1 aB/\∃v v_1 v_2 v_3 v_4 v_5 v_6 v_7:Value,lV [v,v_1,v_2,v_3,v_4,v_5,v_6,v_7] λxL_1=>m'_1.reads b (o+Int.toNat
 n_1*8) xL_1/\∀(b:Nat),chk (v.oneCell'&&(v_1.oneCell'&&(v_2.oneCell'&&(v_3.oneCell'&&(v_4.oneCell'&&(v_5.oneCell'&&(v_6.oneCell'&&(v_7.oneCell'&&true)))))))) (kI pG 93 [agg (.mk xL_1)] m'_1 λn_3 m'=>
 Zac xL/\nxI n_2 I [int i64 (i64.wrap (n+n_3)),int i64 (i64.wrap (n_1+1))] [] [] m')) (br (aI == 5) (br (aX == (-1)) (rtM m m'_1 R (int i64 (if(10001:Int) < i64.wrap (n*yL)then(10001:Int)else i64.wrap (n *
 yL)))) (rtM m m'_1 R (int i64 (if(10001:Int) < i64.wrap (n*yL_2)then(10001:Int)else i64.wrap (n*yL_2))))) (rtM m m'_1 R (int i64 (if(10001:Int) < n then(10001:Int)else n)))))):CX Try.prog 93 #[.agg #[.int .u8 aI,.int .u64 aZ,.int .u64 bC,.int .u64 bD,.int .u64 aA,.int .i64 bF,.int .i64 aX,.slice aC aB aE]] m [] R:=
 Zaj (E:=Zhl) ZaB mix Try.func93 [.v (.agg #[.int .u8 aI,.int .u64 aZ,.int .u64 bC,.int .u64 bD,.int .u64 aA,.int .i64 bF,.int .i64 aX,.slice aC aB aE])] [] (by kernel_rfl) (Eq.mp (by kernel_rfl) h)
def Zhm:Env:={ EB with
 frzNew:=[1] }
theorem Zgv(aI aZ bC bD aA bF aX:Int)(aC:Option Addr)(aB aE:Nat)(m:Mem)(R:RT)(h:
 lV [int u8 aI,int u64 aZ,int u64 bC,int u64 bD,int u64 aA,int i64 bF,int i64 aX,slice aC aB aE] λxL=>fzM m xL λb m'=>kB pG 92 [agg (.mk xL)] m' λb m'=>br (!b) (rtM m m' R (int i64
 10001)) (kI pG 93 [agg (.mk xL)] m' λn m'=>rtM m m' R (int i64 n))):CX Try.prog 37 #[.agg #[.int .u8 aI,.int .u64 aZ,.int .u64 bC,.int .u64 bD,.int .u64 aA,.int .i64 bF,.int .i64 aX,.slice aC aB aE]] m [] R:=
 Zaj (E:=Zhm) ZaB mix Try.func37 [.v (.agg #[.int .u8 aI,.int .u64 aZ,.int .u64 bC,.int .u64 bD,.int .u64 aA,.int .i64 bF,.int .i64 aX,.slice aC aB aE])] [] (by kernel_rfl) (Eq.mp (by kernel_rfl) h)
def ZaF:Env:={ EB with
 loops:=swI nLa [(4,⟨[(17,.int .i64)],[],[],false⟩)] }
theorem ZaD(p0a:Option Addr)(p0n p0c:Nat)(p1a:Option Addr)(p1n p1c p2g:Nat)(p2fi p2ca:List Value)(m:Mem)(R:RT)(h:
 br (!(↑p0n:Int) == (↑p1n:Int)) (rtM m m R (bool false)) (∃I,inI I [int i64 0] [] [] m/\∀n m' (n_1:Nat),m.le m'->I [int i64 n] [] [] m' n_1->br (decide (n < (↑p0n:Int))) (atA p0a λb o=>Zaf n p0n/\∃v v_1
 v_2 v_3 v_4 v_5 v_6 v_7:Value,lV [v,v_1,v_2,v_3,v_4,v_5,v_6,v_7] λxL=>m'.reads b (o+Int.toNat n*8) xL/\∀(b:Nat),chk (v.oneCell'&&(v_1.oneCell'&&(v_2.oneCell'&&(v_3.oneCell'&&(v_4.oneCell' &&
 (v_5.oneCell'&&(v_6.oneCell'&&(v_7.oneCell'&&true)))))))) (atA p1a λb o=>Zaf n p1n/\∃v v_8 v_9 v_10 v_11 v_12 v_13 v_14:Value,lV [v,v_8,v_9,v_10,v_11,v_12,v_13,v_14] λxL_1=>m'.reads b (o+Int.toNat
 n*8) xL_1/\∀(b:Nat),chk (v.oneCell'&&(v_8.oneCell'&&(v_9.oneCell'&&(v_10.oneCell'&&(v_11.oneCell'&&(v_12.oneCell'&&(v_13.oneCell'&&(v_14.oneCell'&&true)))))))) (kB pG p2g (List.append (List.append p2fi [agg
 (.mk xL),agg (.mk xL_1)]) p2ca) m' λb m'=>br (!b) (rtM m m' R (bool false)) (nxI n_1 I [int i64 (i64.wrap (n+1))] [] [] m')))) (rtM m m' R (bool true)))):CX Try.prog 132 #[.slice p0a p0n p0c,.slice p1a p1n p1c,.func (.func p2g) p2fi.toArray p2ca.toArray] m [] R:=
 Zaj (E:=ZaF) ZaB mix Try.func132 [.v (.slice p0a p0n p0c),.v (.slice p1a p1n p1c),.v (.func (.func p2g) p2fi.toArray p2ca.toArray)] [] (by kernel_rfl) (Eq.mp (by kernel_rfl) h)
def ZpF:Env:={ EB with
 joins:=swI none [(1,some [(4,.bool)])]
 frzNew:=[2,3] }
theorem Znn(aI aZ bC bD aA bF aX:Int)(aC:Option Addr)(aB aE:Nat)(bS bK bL bM bI aV bJ:Int)(aL:Option Addr)(aM aN:Nat)(m:Mem)(R:RT)(h:
 lV [int u8 aI,int u64 aZ,int u64 bC,int u64 bD,int u64 aA,int i64 bF,int i64 aX,slice aC aB aE] λxL=>lV [int u8 bS,int u64 bK,int u64 bL,int u64 bM,int u64 bI,int i64 aV,int i64
 bJ,slice aL aM aN] λxL_1=>fzM m xL λb m'=>lE [some (Box.mk b xL 41 8 true true)] λxL=>fzM m' xL_1 λb m'=>∃(b_1:Bool),lV [bool b_1] λxL_2=>lE (some (Box.mk b xL_1 41 8 true true)::xL) fun
 xL=>br (aI == bS) (∃(b:Bool),EqIs pG 38 (agg (.mk [int u64 aZ,int u64 bC,int u64 bD,int u64 aA])) (agg (.mk [int u64 bK,int u64 bL,int u64 bM,int u64 bI])) b/\br b (br (bF == aV) (br (aX ==
 bJ) (kB pG 132 [slice aC aB aE,slice aL aM aN,func (Fn.func 106) (Array.mk []) (Array.mk [])] m' λb m'=>Zac xL/\[bool b]=xL_2) (Zac xL/\[bool false]=xL_2)) (Zac xL/\[bool false]=xL_2))
 (Zac xL/\[bool false]=xL_2)) (Zac xL/\[bool false]=xL_2)/\rtM m m' R (bool b_1)):CX Try.prog 106 #[.agg #[.int .u8 aI,.int .u64 aZ,.int .u64 bC,.int .u64 bD,.int .u64 aA,.int .i64 bF,.int .i64 aX,.slice aC aB aE],.agg #[.int .u8 bS,.int .u64 bK,.int .u64 bL,.int .u64 bM,.int .u64 bI,.int .i64 aV,.int .i64 bJ,.slice aL aM aN]] m [] R:=
 Zaj (E:=ZpF) ZaB mix Try.func106 [.v (.agg #[.int .u8 aI,.int .u64 aZ,.int .u64 bC,.int .u64 bD,.int .u64 aA,.int .i64 bF,.int .i64 aX,.slice aC aB aE]),.v (.agg #[.int .u8 bS,.int .u64 bK,.int .u64 bL,.int .u64 bM,.int .u64 bI,.int .i64 aV,.int .i64 bJ,.slice aL aM aN])] [] (by kernel_rfl) (Eq.mp (by kernel_rfl) h)
def ZpG:Env:={ EB with
 joins:=swI none [(1,some [(4,.bool)])]
 frzNew:=[2,3] }
theorem Zno(aI aZ bC bD aA bF aX:Int)(aC:Option Addr)(aB aE:Nat)(bS bK bL bM bI aV bJ:Int)(aL:Option Addr)(aM aN:Nat)(m:Mem)(R:RT)(h:
 lV [int u8 bS,int u64 bK,int u64 bL,int u64 bM,int u64 bI,int i64 aV,int i64 bJ,slice aL aM aN] λxL=>lV [int u8 aI,int u64 aZ,int u64 bC,int u64 bD,int u64 aA,int i64 bF,int i64
 aX,slice aC aB aE] λxL_1=>fzM m xL_1 λb m'=>lE [some (Box.mk b xL_1 41 8 true true)] λxL_2=>fzM m' xL λb m'=>∃(b_1:Bool),lE (some (Box.mk b xL 41 8 true true)::xL_2) λxL_3=>(kB pG 92 [agg
 (.mk xL_1)] m' λb m'=>br b (kB pG 92 [agg (.mk xL)] m' λb m'=>br b (kB pG 106 [agg (.mk xL_1),agg (.mk xL)] m' λb m'=>Zac xL_3/\[bool b]=[bool b_1]) (Zac xL_3/\[bool false]=[bool b_1])) (Zac xL_3/\
 [bool false]=[bool b_1]))/\rtM m m' R (bool b_1)):CX Try.prog 58 #[.agg #[.int .u8 aI,.int .u64 aZ,.int .u64 bC,.int .u64 bD,.int .u64 aA,.int .i64 bF,.int .i64 aX,.slice aC aB aE],.agg #[.int .u8 bS,.int .u64 bK,.int .u64 bL,.int .u64 bM,.int .u64 bI,.int .i64 aV,.int .i64 bJ,.slice aL aM aN]] m [] R:=
 Zaj (E:=ZpG) ZaB mix Try.func58 [.v (.agg #[.int .u8 aI,.int .u64 aZ,.int .u64 bC,.int .u64 bD,.int .u64 aA,.int .i64 bF,.int .i64 aX,.slice aC aB aE]),.v (.agg #[.int .u8 bS,.int .u64 bK,.int .u64 bL,.int .u64 bM,.int .u64 bI,.int .i64 aV,.int .i64 bJ,.slice aL aM aN])] [] (by kernel_rfl) (Eq.mp (by kernel_rfl) h)
end Go.Proofs.Ytplacemlpkhmfaa
namespace Go.Proofs.Ytplacemlpkhmfaa
open Go Go.Eng Go.Rx Go.Proofs Go.RowKit
set_option maxRecDepth 100000
theorem ZiQ(t:T)(m:Mem):CX Try.prog 107 #[t.v] m [] (λv m' _=>∃b,v=.func (.func 133) #[] #[.pointer (some ⟨b,0,none⟩)]/\m'.reads b 0 t.cs):=by
 apply Zl0
 intro b m' hm hb
 exact⟨m',hm,Mem.le_refl _,b,rfl,hb⟩
theorem Zgw(t:T)(m:Mem)(c0b:Nat)(cM:m.reads c0b 0 t.cs)(mg:Rep m t):IX Try.prog 133 [] [.pointer (some ⟨c0b,0,none⟩)] m (t.nodes.map λx=>[x.v]):=by
 apply ZiP 0 [] [] c0b 0
 intro l b m' hm hb
 have oF:=cM.mono hm
 refine⟨_,_,_,_,_,_,_,_,oF,⟨rfl,by omega,?_⟩,?_,.inr rfl⟩
 ·rw[Zbb];rfl
 refine⟨t.sl,oF 7 _ rfl,Zaa rfl ?_⟩
 refine⟨λxs _ _ m'' q=>∃i:Nat,i<=t.subs.length/\xs=[.int .i64 ((1+(Zap (t.subs.take i)).length:Nat):Int),.int .i64 i]/\m'.le m''/\q=t.subs.length - i,⟨t.subs.length,0,by omega,?_,Mem.le_refl _,by omega⟩,?_⟩
 ·simp[Zap]
 rintro y n m2 q bN ⟨i,hi,eJ,jF,hq⟩
 simp only[List.cons.injEq,Value.int.injEq,true_and,and_true]at eJ
 obtain⟨rfl,rfl⟩:=eJ
 have bG:slN t.sl=t.subs.length:=rfl
 rw[bG]
 refine Zab (λaH=>?_) (λcL=>?_)
 ·have aF:i < t.subs.length:=by simpa using aH
  obtain⟨x,hx⟩:∃x,t.subs[i]?=some x:=⟨_,zA3 aF⟩
  have cD:x∈t.subs:=zA2 hx
  have bU:=Zpj cD
  obtain⟨vN,h0|⟨b1,o1,ha,eP⟩⟩:=ZcQ mg
  ·rw[h0]at aF;simp at aF
  obtain⟨gT,f5⟩:=(eP.mono ((mLt hm jF))).get hx
  refine Zaa rfl ⟨b1,o1,ha,⟨by omega,by omega⟩,_,_,_,_,_,_,_,_,gT,λb2=>Zaa rfl ?_⟩
  refine⟨_,trivial,ZiQ x m2,λv m' css h=>?_,?_⟩
  ·obtain⟨b3,rfl,_⟩:=h;rfl
  rintro g fi ca m3 bW ⟨b3,hv,fH⟩
  obtain⟨rfl,rfl,rfl⟩:=Ziz hv
  refine⟨_,Zgw x m3 b3 fH (f5.mono bW),λy hy=>?_,?_⟩
  ·obtain⟨z,_,rfl⟩:=List.mem_map.1 hy;exact Zpk z
  refine⟨λxs _ _ m'' q=>q<=x.nodes.length/\xs=[.int .i64 ((1+(Zap (t.subs.take i)).length+q:Nat):Int)]/\m3.le m'',⟨Nat.zero_le _,rfl,Mem.le_refl _⟩,?_,?_⟩
  ·rintro y n0 n1 n2 n3 n4 n5 n6 a n7 c m4 q cP hq ⟨iw,hy,_⟩ b4
   simp only[List.cons.injEq,Value.int.injEq,true_and,and_true]at hy
   subst hy
   have hq':(List.map (λz:T=>[z.v]) x.nodes)[(q:Nat)]?=some [Value.agg #[.int .u8 n0,.int .u64 n1,.int .u64 n2,.int .u64 n3,.int .u64 n4,.int .i64 n5,.int .i64 n6,.slice a n7 c]]:=hq
   rw[List.getElem?_map]at hq'
   obtain⟨z,hz,se⟩:=Option.map_eq_some_iff.1 hq'
   have sg:q < x.nodes.length:=(zA0 hz).1
   refine⟨⟨rfl,by omega,?_⟩,⟨rfl,by omega,?_,cP⟩,rfl,.inr rfl⟩
   ·rw[zA8]
    show(t.nodes.map λx=>[x.v])[1+(Zap (t.subs.take i)).length+q]?=_
    rw[List.getElem?_map,Zrg hx hz,<-se];rfl
   ·congr 2
  ·rintro y m4 cP ⟨iw,hy,_⟩
   simp only[List.cons.injEq,Value.int.injEq,true_and,and_true]at hy
   subst hy
   refine⟨rfl,t.subs.length - (i+1),by omega,i+1,by omega,?_,mLt jF (mLt bW cP),rfl⟩
   rw[Zat (by omega) (by omega),Zlz hx,zA1]
   simp[T.v,Nat.add_assoc]
 ·have hi':i=t.subs.length:=by
   have:¬((i:Int) < (t.subs.length:Int)):=by simpa using cL
   omega
  subst hi'
  left
  rw[List.take_length,Zbb]
  simp
  omega
termination_by SizeOf.sizeOf t
decreasing_by exact bU
theorem ZpH(least most:Int)(m:Mem):CX Try.prog 84 #[.int .i64 least,.int .i64 most] m [] (Ret (.bool (Zdi least most))):=by
 apply Zkc
 refine⟨decide (least < 0)||decide (least > 16)||(least == 1&&most == 1),?_,Zab (λh=>Zag (Mem.le_refl _) ?_) (λh=>⟨most == -1||(decide (most ≥ 1)&&decide (most<=16)&&decide (most ≥ least)),?_,Zag (Mem.le_refl _) ?_⟩)⟩
 ·simp only[Zph];(repeat' split) <;> simp_all <;> omega
 ·simp[Ret,Zdi,h]
 ·simp only[Zph];(repeat' split) <;> simp_all <;> omega
 ·simp[Ret,Zdi,h]
theorem Zkd(l:List T)(a:Option Addr)(c:Nat)(g:Nat)(ca:List Value)(p:T->Bool)(m:Mem)(hl:l.length<=1000000000000000)(hr:l=[]\/∃b o,a=some ⟨b,o,none⟩/\RepAt m b o l)
  (hp:∀x∈l,∀m',m.le m'->Rep m' x->CX Try.prog g (x.v::ca).toArray m' [] (Ret (.bool (p x)))):
  CX Try.prog 166 #[.slice a l.length c,.func (.func g) #[] ca.toArray] m [] (Ret (.int .i64 (if l.any p then(l.findIdx p:Nat)else(-1:Int)))):=by
 apply Za5 a l.length c g [] ca
 refine⟨λxs _ _ m'' q=>∃i:Nat,i<=l.length/\xs=[.int .i64 i]/\(∀x∈l.take i,p x=false)/\m.le m''/\q=l.length - i,⟨l.length,0,by omega,rfl,by simp,Mem.le_refl _,by omega⟩,?_⟩
 rintro n m' q hm ⟨i,hi,hn,gX,cA,hq⟩
 obtain rfl:n=i:=by simpa using hn
 refine Zab (λaH=>?_) (λcL=>?_)
 ·have aF:i < l.length:=by simpa using aH
  obtain⟨x,hx⟩:∃x,l[i]?=some x:=⟨_,zA3 aF⟩
  have cD:x∈l:=zA2 hx
  rcases hr with h0|⟨b1,o1,ha,eP⟩
  ·rw[h0]at aF;simp at aF
  obtain⟨gT,f5⟩:=(eP.mono hm).get hx
  refine⟨b1,o1,ha,⟨by omega,by omega⟩,_,_,_,_,_,_,_,_,gT,Zai (hp x cD m' hm f5) λm1 aD=>Zab (λld=>?_) (λld=>?_)⟩
  ·refine Zag (mLt hm aD) ?_
   have mh:l.any p=true:=List.any_eq_true.2 ⟨x,cD,ld⟩
   have oG:l.findIdx p=i:=by
    rw[List.findIdx_eq aF]
    refine⟨by rw[(zA0 hx).2];exact ld,λj hj=>?_⟩
    exact gX _ (List.mem_of_getElem? (i:=j) (by rw[List.getElem?_take_of_lt hj];exact zA3 (by omega)))
   simp[Ret,mh,oG]
  ·refine⟨l.length - (i+1),by omega,i+1,by omega,by rw[Zat (by omega) (by omega)];rfl,?_,mLt hm aD,rfl⟩
   intro y hy
   rw[List.take_add_one,hx]at hy
   rcases List.mem_append.1 hy with hy|hy
   ·exact gX y hy
   ·simp at hy;rw[hy];exact ld
 ·have hi':i=l.length:=by
   have:¬((i:Int) < (l.length:Int)):=by simpa using cL
   omega
  subst hi'
  refine Zag hm ?_
  have mh:l.any p=false:=by
   rw[List.any_eq_false]
   rw[List.take_length]at gX
   exact λx hx=>by simp[gX x hx]
  simp[Ret,mh]
theorem Zgx(l:List T)(a:Option Addr)(c:Nat)(g:Nat)(ca:List Value)(p:T->Bool)(m:Mem)(hl:l.length<=1000000000000000)(hr:l=[]\/∃b o,a=some ⟨b,o,none⟩/\RepAt m b o l)
  (hp:∀x∈l,∀m',m.le m'->Rep m' x->CX Try.prog g (x.v::ca).toArray m' [] (Ret (.bool (p x)))):
  CX Try.prog 162 #[.slice a l.length c,.func (.func g) #[] ca.toArray] m [] (Ret (.bool (l.any p))):=by
 apply ZaR a l.length c g [] ca
 refine Zem (Zkd l a c g ca p m hl hr hp) λm' hm=>Zag hm ?_
 cases h:l.any p <;> simp[Ret]
theorem ZsD(t:T)(k:Int)(b:Nat)(m:Mem)(hb:m.reads b 0 [.int .u8 k]):CX Try.prog 163 #[t.v,.pointer (some ⟨b,0,none⟩)] m [] (Ret (.bool (t.k == k))):=by
 apply Zl3 (c0b:=b) (c0o:=0)
 intro b' m' hm _
 exact⟨_,hm _ _ _ (hb 0 _ rfl),Zaa rfl (Zag hm rfl)⟩
theorem ZpI(t:T)(k:Int)(m:Mem)(hr:Rep m t):CX Try.prog 134 #[t.v,.int .u8 k] m [] (Ret (.bool (t.has k))):=by
 apply ZpD
 intro b m1 aD _ b2 m2 bN gj
 have hr':=ZcQ (hr.mono (mLt aD bN))
 exact Zai (Zgx t.subs t.a t.c _ [.pointer (some ⟨b2,0,none⟩)] (λx=>x.k == k) m2 hr'.1 hr'.2 λx _ m' hm' _=>ZsD x k b2 m' (gj.mono hm')) λm3 bW=>Zag (mLt aD (mLt bN bW)) rfl
theorem Zg2(t:T)(m:Mem)(hr:Rep m t):CX Try.prog 92 #[t.v] m [] (Ret (.bool t.light)):=by
 apply Zl1
 intro b m1 aD _ b2
 refine Zak (ZiQ t m1) (λv m' css h=>by obtain⟨_,rfl,_⟩:=h;rfl) ?_
 rintro g fi ca m2 bN ⟨b3,hv,fH⟩
 obtain⟨rfl,rfl,rfl⟩:=Ziz hv
 have cA:=mLt aD bN
 refine⟨_,Zgw t m2 b3 fH (hr.mono cA),λy hy=>?_,λ_ css _ m' q=>css=[[.int .i64 q]]/\q<=10000/\q<=t.nodes.length,⟨rfl,by omega,by omega⟩,?_,?_⟩
 ·obtain⟨z,_,rfl⟩:=List.mem_map.1 hy;exact Zpk z
 ·rintro n0 n1 n2 n3 n4 n5 n6 a n7 c cs m3 q bW hq ⟨bZ,iw,_⟩
  obtain rfl:cs=[.int .i64 q]:=by simpa using bZ
  have aH:q < t.nodes.length:=by
   have:=(zA0 (show(List.map (λz:T=>[z.v]) t.nodes)[(q:Nat)]?=some _ from hq)).1
   simpa using this
  refine Zal rfl (Zaa rfl ?_)
  have hw:IntKind.i64.wrap (RowKit.intOf (Value.int .i64 (q:Int))+1)=(q:Int)+1:=Zat (n:=(q:Int)+1) (by omega) (by omega)
  simp only[hw]
  refine Zab (λh=>⟨by trivial,Zag (mLt cA bW) ?_⟩) (λh=>⟨by trivial,?_,?_,by omega⟩)
  ·have:((q:Int)+1 > 10000):=by simpa using h
   simp[Ret,T.light];omega
  ·simp
  ·have:¬((q:Int)+1 > 10000):=by simpa using h
   omega
 ·rintro cs m3 bW ⟨bZ,iw,_⟩
  obtain rfl:cs=[.int .i64 t.nodes.length]:=by simpa using bZ
  refine Zal rfl (Zaa rfl (Zag (mLt cA bW) ?_))
  show Value.bool (decide ((t.nodes.length:Int)<=10000))=Value.bool t.light
  congr 1
  rw[T.light,decide_eq_decide];omega
end Go.Proofs.Ytplacemlpkhmfaa
namespace Go.Proofs.Ytplacemlpkhmfaa
open Go Go.Eng Go.Proofs Go.RowKit
theorem Zke{P:Program}{T:TypeId}(hg:P.eqGuardType P.depth T=false)(op:BinOp)(ox oy:Operand)(xs ys:Array Value)(w:World):(eqGuard op T ox oy (.agg xs) (.agg ys)).run P w=.ok () w:=by
 unfold eqGuard
 have h1:(P.eqGuardType P.depth T)=true->False:=λh=>by rw[hg]at h;cases h
 split
 ·simp[go_sem];exact λh=>(h1 h).elim
 ·simp[go_sem];exact λh=>(h1 h).elim
 ·simp
theorem Znp(a b c d a' b' c' d':Int):EqIs Try.prog 38 (.agg #[.int .u64 a,.int .u64 b,.int .u64 c,.int .u64 d]) (.agg #[.int .u64 a',.int .u64 b',.int .u64 c',.int .u64 d']) (a == a'&&b == b'&&c == c'&&d == d'):=by
 refine⟨λw=>?_,λop ox oy w=>Zke (by kernel_rfl) op ox oy _ _ w⟩
 have u3:=Try.underlying36
 have a3:=Try.isAgg36
 have z3:=Try.sizeOf36
 rw[Op.equal,Op.maxDepth,show(10000:Nat)=9999+1 from rfl,Op.equalIn]
 simp only[Sem.run_bind,run_underlying Try.underlying38,Result.andThen_ok]
 simp only[Std.Legacy.Range.forIn_eq_forIn_range',Std.Legacy.Range.size,Nat.sub_zero,Nat.add_sub_cancel,Nat.div_one,List.range'_succ,List.range'_zero,List.forIn_cons,List.forIn_nil]
 go_simp
 by_cases h1:a=a' <;> by_cases h2:b=b' <;> by_cases h3:c=c' <;> by_cases h4:d=d' <;> simp[h1,h2,h3,h4]
end Go.Proofs.Ytplacemlpkhmfaa
end
