/- Part of the proof: functions of the program. No condition. -/
import Derived.Test.YtdopppmkbkkmiaaGreatDoorPEnv
set_option linter.unusedVariables false
set_option linter.unusedSimpArgs false
set_option linter.unusedSectionVars false
noncomputable section
namespace Go.Proofs.YtdopppmkbkkmiaaGreatDoor
open Go Go.Eng Go.Proofs Go.RowKit
open Go.Value (int slice agg bool string tuple func)
open Go.IntKind (u8 u64 i64)
set_option maxRecDepth 100000
def Zql:Env:={ EB with
 frzNew:=[1] }
theorem Znw(aA:Int)(aC:Value)(aE:ByteArray)(aF:Int)(bB:Option Addr)(aZ bE:Nat)(m:Mem)(R:RT)(h:
 lV [int u8 aA,aC,string aE,int i64 aF,slice bB aZ bE] λxL=>fzM m xL λb m'=>kB pG 92 [agg (.mk xL)] m' λb m'=>br (!b) (rtM m m' R (int i64 20001)) (kI pG 93 [agg (.mk xL)] m' λn m'=>rtM m m'
 R (int i64 n))):CX Tryz.prog 63 #[.agg #[.int .u8 aA,aC,.string aE,.int .i64 aF,.slice bB aZ bE]] m [] R:=
 Zad (E:=Zql) Zam mix Tryz.func63 (by kernel_rfl) (Eq.mp (by kernel_rfl) h)
def Zqm:Env:={ EB with
 loops:=swI nLa [(3,⟨[(3,.int .i64),(22,.int .i64)],[],[],false⟩),(6,⟨[(3,.int .i64),(29,.int .i64)],[],[],false⟩),(12,⟨[(3,.int .i64),(49,.int .i64)],[],[],false⟩),(16,⟨[(3,.int .i64),(66,.int .i64)],[],[],false⟩)]
 dr:=swI [] [(14,[dO 0 [],⟨1,[9],[],none,[],[]⟩,⟨2,[9],[],none,[1],[]⟩,dO 3 [1,2],dO 4 [1,2,3],⟨5,[9],[],none,[],[]⟩,⟨6,[9],[],none,[5],[]⟩,dO 7 [5,6],dO 8 [1,2,3,4,5,6,7],dO 9 [0,1,2,3,4,5,6,7,8],dO 10 [0,1,2,3,4,5,6,7,8,9]])]
 frzNew:=[1]
 cuts:=swI none [(11,some ⟨[(3,.int .i64)],[],[],false⟩)] }
theorem Znx(aA:Int)(aM:Option Addr)(aK aN:Nat)(aJ:Option Addr)(aI aO:Nat)(m:Mem)(R:RT)(h:
 lV [int i64 aA,slice aM aK aN,slice aJ aI aO] λxL=>fzM m xL λb m'=>∃I,lE [some (Box.mk b xL 30 3 true true)] λxL=>inI I [int i64 (i64.wrap ((↑aK:Int)+(↑aI:Int))),int i64 0] [] []
 m'/\∀n ae ad (a3:Nat),m'.le ad->I [int i64 n,int i64 ae] [] [] ad a3->br (decide (ae < (↑aI:Int))) (atA aJ λb o=>Zag ae aI/\∃v ab:Value,lV [v,ab] λa4=>ad.reads b (o+Int.toNat ae*2) a4/\∀
 b,lE (some (Box.mk b a4 34 2 false true)::xL) λa5=>chk (v.oneCell'&&(ab.oneCell'&&true)) (chk (Za8 ab) (∃ak,inI ak [int i64 n,int i64 0] [] [] ad/\∀n af m' (a6:Nat),ad.le m'->ak [int i64 n,int i64 af] [] []
 m' a6->br (decide (af < (↑(slN ab):Int))) (chk (Za8 ab) (atA (slA ab) λb o=>Zag af (slN ab)/\∃v a7 a8 al am an ao ap aq ar au a9 ba ac bb bc:Value,lV [agg (.mk [al,am,an,ao,ap,aq,ar,au])] λxL=>lV [v,
 a7,a8,al,am,an,ao,ap,aq,ar,au,a9,ba,ac,bb,bc] λbd=>m'.reads b (o+Int.toNat af*16) bd/\∀b,lE (some (Box.mk b bd 45 16 false true)::a5) λai=>chk (v.oneCell'&&(a7.oneCell'&&(a8.oneCell' &&
 (al.oneCell'&&(am.oneCell'&&(an.oneCell'&&(ao.oneCell'&&(ap.oneCell'&&(aq.oneCell'&&(ar.oneCell'&&(au.oneCell'&&(a9.oneCell'&&(ba.oneCell'&&(ac.oneCell'&&(bb.oneCell'&&(bc.oneCell'&&true))))))))))))))))
 (kI pG 62 xL m' λbe m'=>∃(J:JT),(kB pG 37 xL m' λb m'=>br (!b) (Zae ai/\J [int i64 20001] [] [] m') (Zae ai/\J [int i64 (i64.wrap (n+i64.wrap ((1:Int)+if(20000:Int) < be then(20000:Int)else
 be)))] [] [] m'))/\∀n aj,m'.le aj->J [int i64 n] [] [] aj->chk (Za8 ac) (∃I,inI I [int i64 n,int i64 0] [] [] aj/\∀n ag m' (bf:Nat),aj.le m'->I [int i64 n,int i64 ag] [] [] m' bf->br (decide (ag < (↑(slN ac):
 Int))) (chk (Za8 ac) (atA (slA ac) λb o=>Zag ag (slN ac)/\∃v av aa bg bh bi bj bk:Value,lV [bg,bh,bi,bj,bk] λxL=>m'.reads b (o+Int.toNat ag*8) (v::av::aa::xL)/\∀b,chk (v.oneCell' &&
 (av.oneCell'&&(aa.oneCell'&&(bg.oneCell'&&(bh.oneCell'&&(bi.oneCell'&&(bj.oneCell'&&(bk.oneCell'&&true)))))))) (∃(f:Fx),∃R_1,R_1=f 3 [agg (.mk xL)] m'/\CX pG 63 (.mk [agg (.mk xL)]) m' [] R_1/\Za7 (.int
 i64) R_1/\∀bl aw,m'.le aw->R_1 (int i64 bl) aw []->chk (Za8 aa) (∀M,m'.le M->aw.le M->chk (Za8 aa) (∃ax,inI ax [int i64 (i64.wrap (n+i64.wrap (i64.wrap ((1:Int)+bl)+(↑(slN aa):Int)))),int i64 0] [] [] M/\∀
 n ah m' (bm:Nat),M.le m'->ax [int i64 n,int i64 ah] [] [] m' bm->br (decide (ah < (↑(slN aa):Int))) (chk (Za8 aa) (atA (slA aa) λbq o=>Zag ah (slN aa)/\∃bn bo bp ay az a0 a1 a2:Value,m'.reads bq (o +
 Int.toNat ah*8) [bn,bo,bp,ay,az,a0,a1,a2]/\∀(bt:Nat),chk (bn.oneCell'&&(bo.oneCell'&&(bp.oneCell'&&(ay.oneCell'&&(az.oneCell'&&(a0.oneCell'&&(a1.oneCell'&&(a2.oneCell'&&true)))))))) (br (decide (n >
 20000)) (rtM m m' R (bool (decide (n<=20000)))) (kI pG 63 [agg (.mk [ay,az,a0,a1,a2])] m' λbs m'=>Zae (some (Box.mk b (v::av::aa::xL) 57 8 false true)::ai)/\nxI bm ax [int i64 (i64.wrap (n+bs)),int i64
 (i64.wrap (ah+1))] [] [] m')))) (Zae ai/\nxI bf I [int i64 n,int i64 (i64.wrap (ag+1))] [] [] m')))))) (br (decide (n > 20000)) (rtM m m' R (bool (decide (n<=20000)))) (Zae a5/\nxI a6 ak [int i64 n,int i64 (i64.wrap
 (af+1))] [] [] m')))))) (Zae xL/\nxI a3 I [int i64 n,int i64 (i64.wrap (ae+1))] [] [] m')))) (rtM m ad R (bool (decide (n<=20000))))):CX Tryz.prog 39 #[.agg #[.int .i64 aA,.slice aM aK aN,.slice aJ aI aO]] m [] R:=
 Zad (E:=Zqm) Zam mix Tryz.func39 (by kernel_rfl) (Eq.mp (by kernel_rfl) h)
def Zny:Env:={ EB with
 frzNew:=[2] }
theorem Zk5(aA:ByteArray)(aM:Option Addr)(aK aN c0b c0o:Nat)(m:Mem)(R:RT)(h:
 fzM m [string aA,slice aM aK aN] λb m'=>∃(v:Value),m' c0b c0o=some v/\chk (Zfm v) (rtM m m' R (bool (ByteArray.toList aA == ByteArray.toList (Zcg v))))):CX Tryz.prog 167 #[.agg #[.string aA,.slice aM aK aN],.pointer (some ⟨c0b,c0o,none⟩)] m [] R:=
 Zad (E:=Zny) Zam mix Tryz.func167 (by kernel_rfl) (Eq.mp (by kernel_rfl) h)
def Zbg:Env:={ EB with
 loops:=swI nLa [(2,⟨[(8,.int .i64)],[],[],false⟩)] }
theorem Zbc(p0a:Option Addr)(p0n p0c p1g:Nat)(p1fi p1ca:List Value)(m:Mem)(R:RT)(h:
 ∃I,inI I [int i64 0] [] [] m/\∀n m' (n_1:Nat),m.le m'->I [int i64 n] [] [] m' n_1->br (decide (n < (↑p0n:Int))) (atA p0a λb o=>Zag n p0n/\∃v v_1:Value,m'.reads b (o+Int.toNat n*2) [v,v_1]/\kB pG p1g
 (List.append (List.append p1fi [agg (.mk [v,v_1])]) p1ca) m' λb m'=>br b (rtM m m' R (int i64 n)) (nxI n_1 I [int i64 (i64.wrap (n+1))] [] [] m')) (rtM m m' R (int i64 (-1)))):CX Tryz.prog 163 #[.slice p0a p0n p0c,.func (.func p1g) p1fi.toArray p1ca.toArray] m [] R:=
 Zad (E:=Zbg) Zam mix Tryz.func163 (by kernel_rfl) (Eq.mp (by kernel_rfl) h)
def Za5:Env:=EB
theorem Za2(p0a:Option Addr)(p0n p0c p1g:Nat)(p1fi p1ca:List Value)(m:Mem)(R:RT)(h:
 kI pG 163 [slice p0a p0n p0c,func (Fn.func p1g) (Array.mk p1fi) (Array.mk p1ca)] m λn m'=>rtM m m' R (bool (decide (n ≥ 0)))):CX Tryz.prog 127 #[.slice p0a p0n p0c,.func (.func p1g) p1fi.toArray p1ca.toArray] m [] R:=
 Zad (E:=Za5) Zam mix Tryz.func127 (by kernel_rfl) (Eq.mp (by kernel_rfl) h)
def ZbF:Env:={ EB with
 loops:=swI nLa [(2,⟨[(8,.int .i64)],[],[],false⟩)] }
theorem ZbA(p0a:Option Addr)(p0n p0c p1g:Nat)(p1fi p1ca:List Value)(m:Mem)(R:RT)(h:
 ∃I,inI I [int i64 0] [] [] m/\∀n m' (n_1:Nat),m.le m'->I [int i64 n] [] [] m' n_1->br (decide (n < (↑p0n:Int))) (atA p0a λb o=>Zag n p0n/\∃v v_1 v_2 v_3:Value,m'.reads b (o+Int.toNat n*4) [v,v_1,v_2,
 v_3]/\kB pG p1g (List.append (List.append p1fi [agg (.mk [v,v_1,v_2,v_3])]) p1ca) m' λb m'=>br b (rtM m m' R (int i64 n)) (nxI n_1 I [int i64 (i64.wrap (n+1))] [] [] m')) (rtM m m' R (int i64 (-1)))):CX Tryz.prog 162 #[.slice p0a p0n p0c,.func (.func p1g) p1fi.toArray p1ca.toArray] m [] R:=
 Zad (E:=ZbF) Zam mix Tryz.func162 (by kernel_rfl) (Eq.mp (by kernel_rfl) h)
def Zbn:Env:=EB
theorem Zbh(p0a:Option Addr)(p0n p0c p1g:Nat)(p1fi p1ca:List Value)(m:Mem)(R:RT)(h:
 kI pG 162 [slice p0a p0n p0c,func (Fn.func p1g) (Array.mk p1fi) (Array.mk p1ca)] m λn m'=>rtM m m' R (bool (decide (n ≥ 0)))):CX Tryz.prog 121 #[.slice p0a p0n p0c,.func (.func p1g) p1fi.toArray p1ca.toArray] m [] R:=
 Zad (E:=Zbn) Zam mix Tryz.func121 (by kernel_rfl) (Eq.mp (by kernel_rfl) h)
def ZrX:Env:={ EB with
 joins:=swI none [(2,some [(17,.bool)])]
 frzNew:=[2,3] }
theorem Zqn(aA:Int)(aM:Option Addr)(aK aN:Nat)(aJ:Option Addr)(aI aO:Nat)(p1:ByteArray)(m:Mem)(R:RT)(h:
 lV [int i64 aA,slice aM aK aN,slice aJ aI aO] λxL=>fzM m xL λb m'=>lE [some (Box.mk b xL 30 3 true true)] λxL_1=>fzM m' [string p1] λb m'=>lE (some (Box.mk b [string p1] 9 1 true true) ::
 xL_1) λxL_2=>kI pG 163 [slice aJ aI aO,func (Fn.func 167) (Array.mk []) (Array.mk [Value.pointer (some (Addr.mk b 0 none))])] m' λn m'=>∃(b:Bool),br (decide (n < 0)) (Zae xL_2/\[bool true]=[bool b])
 (kB pG 39 [agg (.mk xL)] m' λb_1 m'=>Zae xL_2/\[bool !b_1]=[bool b])/\br b (rtM m m' R (tuple (.mk [int i64 0,bool false]))) (rtM m m' R (tuple (.mk [int i64 n,bool true])))):CX Tryz.prog 134 #[.agg #[.int .i64 aA,.slice aM aK aN,.slice aJ aI aO],.string p1] m [] R:=
 Zad (E:=ZrX) Zam mix Tryz.func134 (by kernel_rfl) (Eq.mp (by kernel_rfl) h)
def Znz:Env:={ EB with
 loops:=swI nLa [(5,⟨[(3,.slice),(20,.int .i64)],[],[(27,5)],false⟩),(10,⟨[(3,.slice),(32,.int .i64)],[],[(27,5)],false⟩),(14,⟨[(3,.slice),(45,.int .i64)],[],[(27,5)],false⟩),(18,⟨[(3,.slice),(59,.int .i64)],[],[(27,5)],false⟩),(22,⟨[(3,.slice),(74,.int .i64)],[],[(27,5)],false⟩)]
 tokOf:=swI 0 [(27,27),(41,27),(55,27),(70,27),(84,27)]
 frzNew:=[1] }
theorem Zk6(aA:Int)(aM:Option Addr)(aK aN:Nat)(aJ:Option Addr)(aI aO:Nat)(m:Mem)(R:RT)(h:
 lV [int i64 aA,slice aM aK aN,slice aJ aI aO] λxL=>fzM m xL λb m'=>lE [some (Box.mk b xL 30 3 true true)] λcd=>kB pG 39 [agg (.mk xL)] m' λb m'=>br (!b) (rtM m m' R (slice none 0 0)) (∀b,
 lM (m'.add b [int i64 (-1),int i64 (-1),int i64 (-1),int i64 (-1),int i64 (-1)]) λmL=>lE (some (Box.mk b [int i64 (-1),int i64 (-1),int i64 (-1),int i64 (-1),int i64 (-1)] 64 5 true true)::cd) λxL=>m'.free b->
 ∃I,inI I [slice (some (Addr.mk b 0 none)) 1 1,int i64 0] [] [slice none 0 0] mL/\∀a n c ap ce cf cg m' (a4:Nat),lX (slice ce cf cg) λyL=>lX (slice a n c) λaq=>lE (n+1) λaf=>lV [int i64 ap,int i64 (-1),
 int i64 (-1),int i64 (-1),int i64 (-1)] λch=>mL.le m'->I [aq,int i64 ap] [] [yL] m' a4->br (decide (ap < (↑aK:Int))) (∀b,lM (m'.add b ch) λmL=>m'.free b->(Tok.mk yL 5=Tok.mk aq 5\/aq=slice none 0 0\/c
 < af)/\∃(xs:List Value),∃(ys:List Value),xs.length=n*5/\ys.length=1*5/\rowRd mL a xs/\rowRd mL (some (Addr.mk b 0 none)) ys/\(∀(u:Value),u∈ys->u.oneCell'=true)/\af*40<=140737488355328/\af <=
 9223372036854775807/\∀(a':Option Addr) c' m',mL.le m'->rowRd m' a' (List.append xs ys)->Zae xL/\nxI a4 I [slice a' af c',int i64 (i64.wrap (ap+1))] [] [slice a' af c'] m') (∃I,inI I [aq,int i64 0] [] [yL] m'/\∀a
 n c ag a5 a6 a7 ac (a8:Nat),lX (slice a n c) λyL=>lE (n+1) λah=>lX (int i64 ag) λai=>lV [int i64 (-1),ai,int i64 (-1),int i64 (-1),int i64 (-1)] λa9=>m'.le ac->I [yL,ai] [] [slice a5 a6 a7] ac a8->
 br (decide (ag < (↑aI:Int))) (atA aJ λb o=>Zag ag aI/\∃v aa:Value,ac.reads b (o+Int.toNat ag*2) [v,aa]/\∀b,lE (some (Box.mk b [v,aa] 34 2 false true)::xL) λci=>chk (v.oneCell' &&
 (aa.oneCell'&&true)) (∀b,lM (ac.add b a9) λmL=>lE (some (Box.mk b a9 64 5 true true)::ci) λba=>ac.free b->(Tok.mk (slice a5 a6 a7) 5=Tok.mk yL 5\/yL=slice none 0 0\/c < ah)/\∃(xs:List Value),∃(ys:
 List Value),xs.length=n*5/\ys.length=1*5/\rowRd mL a xs/\rowRd mL (some (Addr.mk b 0 none)) ys/\(∀(u:Value),u∈ys->u.oneCell'=true)/\ah*40<=140737488355328/\ah<=9223372036854775807/\∀(a':Option Addr)
 c' m',mL.le m'->rowRd m' a' (List.append xs ys)->chk (Za8 aa) (∃a0,inI a0 [slice a' ah c',int i64 0] [] [slice a' ah c'] m'/\∀a n c aj cj ck cl ad (bb:Nat),lX (slice cj ck cl) λyL=>lX (slice a n c) λar=>lE (n
 + 1) λak=>lX (int i64 aj) λau=>lV [int i64 (-1),ai,au,int i64 (-1),int i64 (-1)] λbc=>m'.le ad->a0 [ar,au] [] [yL] ad bb->br (decide (aj < (↑(slN aa):Int))) (chk (Za8 aa) (atA (slA aa) λb o=>Zag
 aj (slN aa)/\∃v bd be bf bg bh bi bj bk bl bm bn bo ab bp bq:Value,lV [v,bd,be,bf,bg,bh,bi,bj,bk,bl,bm,bn,bo,ab,bp,bq] λxL=>ad.reads b (o+Int.toNat aj*16) xL/\∀b,lE (some (Box.mk b xL 45 16 false
 true)::ba) λxL=>chk (v.oneCell'&&(bd.oneCell'&&(be.oneCell'&&(bf.oneCell'&&(bg.oneCell'&&(bh.oneCell'&&(bi.oneCell'&&(bj.oneCell'&&(bk.oneCell'&&(bl.oneCell'&&(bm.oneCell'&&(bn.oneCell'&&(bo.oneCell'
 && (ab.oneCell'&&(bp.oneCell'&&(bq.oneCell'&&true)))))))))))))))) (∀b,lM (ad.add b bc) λmL=>lE (some (Box.mk b bc 64 5 true true)::xL) λxL=>ad.free b->(Tok.mk yL 5=Tok.mk ar 5\/ar=slice none 0 0\/c < ak)
 /\ ∃(xs:List Value),∃(ys:List Value),xs.length=n*5/\ys.length=1*5/\rowRd mL a xs/\rowRd mL (some (Addr.mk b 0 none)) ys/\(∀(u:Value),u∈ys->u.oneCell'=true)/\ak*40<=140737488355328/\ak <=
 9223372036854775807/\∀(a':Option Addr) c' m',mL.le m'->rowRd m' a' (List.append xs ys)->chk (Za8 ab) (∃I,inI I [slice a' ak c',int i64 0] [] [slice a' ak c'] m'/\∀a n c al cm cn co ae (bs:Nat),lX (slice cm cn co)
 λyL=>lX (slice a n c) λav=>lE (n+1) λam=>lX (int i64 al) λa1=>lV [int i64 (-1),ai,au,a1,int i64 (-1)] λbt=>m'.le ae->I [av,a1] [] [yL] ae bs->br (decide (al < (↑(slN ab):Int))) (chk (Za8 ab)
 (atA (slA ab) λb o=>Zag al (slN ab)/\∃v bu aw bv bw bx bz ca:Value,lV [v,bu,aw,bv,bw,bx,bz,ca] λcb=>ae.reads b (o+Int.toNat al*8) cb/\∀b,chk (v.oneCell'&&(bu.oneCell'&&(aw.oneCell' &&
 (bv.oneCell'&&(bw.oneCell'&&(bx.oneCell'&&(bz.oneCell'&&(ca.oneCell'&&true)))))))) (∀ax,lM (ae.add ax bt) λmL=>ae.free ax->(Tok.mk yL 5=Tok.mk av 5\/av=slice none 0 0\/c < am)/\∃(xs:List Value),∃(ys:
 List Value),xs.length=n*5/\ys.length=1*5/\rowRd mL a xs/\rowRd mL (some (Addr.mk ax 0 none)) ys/\(∀(u:Value),u∈ys->u.oneCell'=true)/\am*40<=140737488355328/\am<=9223372036854775807/\∀(a':Option
 Addr) c' m',mL.le m'->rowRd m' a' (List.append xs ys)->chk (Za8 aw) (∃a2,inI a2 [slice a' am c',int i64 0] [] [slice a' am c'] m'/\∀a n c ay cp cq cr an (cc:Nat),lX (slice cp cq cr) λyL=>lX (slice a n c) λaz=>
 lE (n+1) λao=>lV [int i64 (-1),ai,au,a1,int i64 ay] λcs=>m'.le an->a2 [az,int i64 ay] [] [yL] an cc->br (decide (ay < (↑(slN aw):Int))) (∀a3,lM (an.add a3 cs) λmL=>an.free a3->(Tok.mk yL 5=Tok.mk az
 5\/az=slice none 0 0\/c < ao)/\∃(xs:List Value),∃(ys:List Value),xs.length=n*5/\ys.length=1*5/\rowRd mL a xs/\rowRd mL (some (Addr.mk a3 0 none)) ys/\(∀(u:Value),u∈ys->u.oneCell'=true)/\ao*40 <=
 140737488355328/\ao<=9223372036854775807/\∀(a':Option Addr) c' m',mL.le m'->rowRd m' a' (List.append xs ys)->Zae (some (Box.mk ax bt 64 5 true true)::some (Box.mk b cb 57 8 false true)::xL)/\([none,none,none,
 none,none,none,none]:List (Option Tok))=[none,none,none,none,none,none,none]/\nxI cc a2 [slice a' ao c',int i64 (i64.wrap (ay+1))] [] [slice a' ao c'] m') (Zae xL/\([none,none,none,none,none]:List
 (Option Tok))=[none,none,none,none,none]/\nxI bs I [az,int i64 (i64.wrap (al+1))] [] [yL] an))))) (Zae ba/\([none,none,none]:List (Option Tok))=[none,none,none]/\nxI bb a0 [av,int i64 (i64.wrap (aj+1))]
 [] [yL] ae))))) (Zae xL/\([none]:List (Option Tok))=[none]/\nxI a8 I [ar,int i64 (i64.wrap (ag+1))] [] [yL] ad)))) (rtM m ac R yL)))):CX Tryz.prog 73 #[.agg #[.int .i64 aA,.slice aM aK aN,.slice aJ aI aO]] m [] R:=
 Zad (E:=Znz) Zam mix Tryz.func73 (by kernel_rfl) (Eq.mp (by kernel_rfl) h)
def ZnA:Env:={ EB with
 joins:=swI none [(2,some [(2,.bool)]),(3,some [(2,.bool)])]
 frzNew:=[1]
 exv:=swI false [(15,true)] }
theorem Zk7(aA:Bool)(aC:ByteArray)(aE:Value)(m:Mem)(R:RT)(h:
 lV [bool aA,string aC,aE] λxL=>fzM m xL λb m'=>lE [some (Box.mk b xL 69 3 true true)] λxL=>br aA (∃(b:Bool),(kB pG 160 [aE] m' λb_1 m'=>br b_1 (Zae xL/\[bool (ByteArray.toList aC ==
 ByteArray.toList bE0)]=[bool b]) (Zae xL/\[bool false]=[bool b]))/\rtM m m' R (bool b)) (∃(b:Bool),(∃(v:Value),Zow pG 161 [aE] v/\chk (ZaR u64 v&&decide (u64=u64)) (br (RowKit.intOf v == 0) (Zae xL/\
 [bool (decide ((↑(ByteArray.size aC):Int)<=512))]=[bool b]) (Zae xL/\[bool false]=[bool b])))/\rtM m m' R (bool b))):CX Tryz.prog 120 #[.agg #[.bool aA,.string aC,aE]] m [] R:=
 Zad (E:=ZnA) Zam mix Tryz.func120 (by kernel_rfl) (Eq.mp (by kernel_rfl) h)
def Zdw:Env:={ EB with
 joins:=swI none [(1,some [(3,.bool)])]
 frzNew:=[2] }
theorem Zdp(aA:Int)(aC:ByteArray)(aE aF:Int)(aY:Value)(aW:ByteArray)(aV:Int)(aU:Option Addr)(aR aX c0b c0o:Nat)(m:Mem)(R:RT)(h:
 lV [int u8 aA,string aC,int i64 aE,int u8 aF,aY,string aW,int i64 aV,slice aU aR aX] λxL=>fzM m xL λb m'=>∃(b_1:Bool),lV [bool b_1] λxL_1=>lE [some (Box.mk b xL 54 8 true true)] fun
 xL=>(∃(v:Value),m' c0b (c0o+1)=some v/\chk (Zfm v&&true) (br (ByteArray.toList (Zcg v) == ByteArray.toList aC) (∃(v:Value),m' c0b (c0o+2)=some v/\chk (ZaR i64 v&&decide (i64=i64)) (br
 (RowKit.intOf v == aE) (br (aA == 4) (Zae xL/\[bool true]=xL_1) (∃v v_1 v_2 v_3 v_4:Value,m'.reads c0b (c0o+3) [v,v_1,v_2,v_3,v_4]/\kB pG 169 [agg (.mk [v,v_1,v_2,v_3,v_4]),agg (.mk [int u8 0,Value.float
 .f64 0,string bE0,int i64 0,slice none 0 0])] m' λb m'=>Zae xL/\[bool b]=xL_1)) (Zae xL/\[bool false]=xL_1))) (Zae xL/\[bool false]=xL_1)))/\rtM m m' R (bool b_1)):CX Tryz.prog 173 #[.agg #[.int .u8 aA,.string aC,.int .i64 aE,.int .u8 aF,aY,.string aW,.int .i64 aV,.slice aU aR aX],.pointer (some ⟨c0b,c0o,none⟩)] m [] R:=
 Zad (E:=Zdw) Zam mix Tryz.func173 (by kernel_rfl) (Eq.mp (by kernel_rfl) h)
def Zd2:Env:={ EB with
 joins:=swI none [(4,some [(2,.bool)]),(6,some [(2,.bool)]),(8,some [(2,.bool)]),(10,some [(2,.bool)])]
 frzNew:=[1] }
theorem ZdR(aA:Int)(aC:ByteArray)(aE aF:Int)(aY:Value)(aW:ByteArray)(aV:Int)(aU:Option Addr)(aR aX:Nat)(m:Mem)(R:RT)(h:
 lX (int u8 aA) λyL=>lV [int u8 aF,aY,string aW,int i64 aV,slice aU aR aX] λxL=>lX (agg (.mk [yL,string aC,int i64 0,int u8 0,Value.float .f64 0,string bE0,int i64 0,slice none 0 0])) fun
 yL_1=>lV (yL::string aC::int i64 aE::xL) λxL_1=>fzM m xL_1 λb m'=>lV [Value.pointer (some (Addr.mk b 0 none))] λxL_2=>lE [some (Box.mk b xL_1 54 8 true true)] λxL_3=>br (aA == 1) (∃(b:Bool),br
 (decide ((↑(ByteArray.size aC):Int) > 0)) (br (decide ((↑(ByteArray.size aC):Int)<=512)) (kB pG 173 (yL_1::xL_2) m' λb_1 m'=>Zae xL_3/\[bool b_1]=[bool b]) (Zae xL_3/\[bool false]=[bool b])) (Zae
 xL_3/\[bool false]=[bool b])/\rtM m m' R (bool b)) (br (aA == 2) (∃(b:Bool),(kB pG 119 [string aC] m' λb_1 m'=>br b_1 (kB pG 173 (yL_1::xL_2) m' λb_2 m'=>Zae xL_3/\[bool b_2]=[bool b]) (Zae xL_3/\
 [bool false]=[bool b]))/\rtM m m' R (bool b)) (br (aA == 3) (∃(b:Bool),br (decide (aE ≥ 0)) (br (decide (aE<=9)) (kB pG 173 (agg (.mk [yL,string bE0,int i64 aE,int u8 0,Value.float .f64 0,string bE0,int i64
 0,slice none 0 0])::xL_2) m' λb_1 m'=>Zae xL_3/\[bool b_1]=[bool b]) (Zae xL_3/\[bool false]=[bool b])) (Zae xL_3/\[bool false]=[bool b])/\rtM m m' R (bool b)) (br (aA == 4) (∃(b:Bool),(kB pG 136
 [agg (.mk xL)] m' λb_1 m'=>br b_1 (kB pG 173 (agg (.mk [yL,string bE0,int i64 0,int u8 0,Value.float .f64 0,string bE0,int i64 0,slice none 0 0])::xL_2) m' λb_2 m'=>Zae xL_3/\[bool b_2]=[bool b]) (Zae
 xL_3/\[bool false]=[bool b]))/\rtM m m' R (bool b)) (rtM m m' R (bool false)))))):CX Tryz.prog 144 #[.agg #[.int .u8 aA,.string aC,.int .i64 aE,.int .u8 aF,aY,.string aW,.int .i64 aV,.slice aU aR aX]] m [] R:=
 Zad (E:=Zd2) Zam mix Tryz.func144 (by kernel_rfl) (Eq.mp (by kernel_rfl) h)
def Zk8:Env:={ EB with
 loops:=swI nLa [(3,⟨[(3,.int .i64),(8,.int .i64)],[],[],false⟩)]
 ldF:=swI none [(13,some (.fn))] }
theorem Zi6(p0a:Option Addr)(p0n p0c:Nat)(m:Mem)(R:RT)(h:
 ∃I,inI I [int i64 0,int i64 0] [] [] m/\∀n n_1 m' (n_2:Nat),lX (int i64 n) λyL=>m.le m'->I [yL,int i64 n_1] [] [] m' n_2->br (decide (n_1 < (↑p0n:Int))) (atA p0a λb o=>Zag n_1 p0n/\∃v v_1:Value,
 m'.reads b (o+Int.toNat n_1*2) [v,v_1]/\∀(b:Nat),chk (v.oneCell'&&(v_1.oneCell'&&true)) (∃(g:Nat),∃(fi:List Value),∃(ca:List Value),v_1=func (Fn.func g) (Array.mk fi) (Array.mk ca)/\kB pG g
 (List.append (List.append fi []) ca) m' λb m'=>br b (rtM m m' R v) (nxI n_2 I [yL,int i64 (i64.wrap (n_1+1))] [] [] m'))) (rtM m m' R yL)):CX Tryz.prog 117 #[.slice p0a p0n p0c] m [] R:=
 Zad (E:=Zk8) Zam mix Tryz.func117 (by kernel_rfl) (Eq.mp (by kernel_rfl) h)
def Zi7:Env:={ EB with
 joins:=swI none [(1,some [(6,.bool)])] }
theorem ZhN(p0 p1 p2:Int)(m:Mem)(R:RT)(h:
 ∃(b:Bool),br (decide (p0 ≥ p1)) ([bool (decide (p0<=p2))]=[bool b]) ([bool false]=[bool b])/\rtM m m R (bool b)):CX Tryz.prog 124 #[.int .i64 p0,.int .i64 p1,.int .i64 p2] m [] R:=
 Zad (E:=Zi7) Zam mix Tryz.func124 (by kernel_rfl) (Eq.mp (by kernel_rfl) h)
def Zi8:Env:={ EB with
 frzNew:=[2] }
theorem ZhO(aA:ByteArray)(aC:Bool)(aE:ByteArray)(aF:Value)(c0b c0o:Nat)(m:Mem)(R:RT)(h:
 fzM m [string aA,bool aC,string aE,aF] λb m'=>∃(v:Value),m' c0b c0o=some v/\chk (Zfm v) (rtM m m' R (bool (ByteArray.toList aA == ByteArray.toList (Zcg v))))):CX Tryz.prog 170 #[.agg #[.string aA,.bool aC,.string aE,aF],.pointer (some ⟨c0b,c0o,none⟩)] m [] R:=
 Zad (E:=Zi8) Zam mix Tryz.func170 (by kernel_rfl) (Eq.mp (by kernel_rfl) h)
def ZnB:Env:={ EB with
 joins:=swI none [(2,some [(4,.bool),(5,.bool)])]
 frzNew:=[2,3] }
theorem Zk9(aA:Int)(aM:Option Addr)(aK aN:Nat)(aJ:Option Addr)(aI aO:Nat)(p1:ByteArray)(m:Mem)(R:RT)(h:
 lV [int i64 aA,slice aM aK aN,slice aJ aI aO] λxL=>fzM m xL λb m'=>lE [some (Box.mk b xL 30 3 true true)] λxL=>fzM m' [string p1] λb m'=>lE (some (Box.mk b [string p1] 9 1 true true) ::
 xL) λxL=>kI pG 162 [slice aM aK aN,func (Fn.func 170) (Array.mk []) (Array.mk [Value.pointer (some (Addr.mk b 0 none))])] m' λn m'=>∃(b:Bool),∃(b_1:Bool),lE (decide (n ≥ 0)) λyL=>lV [bool b,bool
 b_1] λxL_1=>br yL (atA aM λb o=>Zag n aK/\∃(v:Value),m' b (o+Int.toNat n*4+1+0)=some v/\Zae xL/\chk (Shape.fits .bool v) ([v,bool yL]=xL_1)) (Zae xL/\[bool false,bool yL]=xL_1)/\
 rtM m m' R (tuple (.mk xL_1))):CX Tryz.prog 139 #[.agg #[.int .i64 aA,.slice aM aK aN,.slice aJ aI aO],.string p1] m [] R:=
 Zad (E:=ZnB) Zam mix Tryz.func139 (by kernel_rfl) (Eq.mp (by kernel_rfl) h)
def ZfN:Env:=EB
theorem Ze4(p0:ByteArray)(c0b c0o:Nat)(m:Mem)(R:RT)(h:
 ∃v v_1 v_2:Value,m.reads c0b c0o [v,v_1,v_2]/\∃R_1,True/\CX pG 139 (.mk [agg (.mk [v,v_1,v_2]),string p0]) m [] R_1/\Za7 (.tup [.bool,.bool]) R_1/\∀(b b_1:Bool) m',m.le m'->R_1 (tuple (.mk [bool b,bool
 b_1])) m' []->rtM m m' R (bool !b)):CX Tryz.prog 172 #[.string p0,.pointer (some ⟨c0b,c0o,none⟩)] m [] R:=
 Zad (E:=ZfN) Zam mix Tryz.func172 (by kernel_rfl) (Eq.mp (by kernel_rfl) h)
def ZhP:Env:={ EB with
 frzNew:=[2,3] }
theorem ZgG(aA:Int)(aM:Option Addr)(aK aN:Nat)(aJ:Option Addr)(aI aO:Nat)(bN:Int)(bR:Value)(bO:ByteArray)(bW:Int)(dA:Option Addr)(cZ dE:Nat)(m:Mem)(R:RT)(h:
 lV [int u8 bN,bR,string bO,int i64 bW,slice dA cZ dE] λxL=>fzM m [int i64 aA,slice aM aK aN,slice aJ aI aO] λb m'=>fzM m' xL λb_1 m'=>kS pG 77 [agg (.mk xL)] m' λa n c
 m'=>kB pG 171 [slice a n c,func (Fn.func 172) (Array.mk []) (Array.mk [Value.pointer (some (Addr.mk b 0 none))])] m' λb m'=>rtM m m' R (bool !b)):CX Tryz.prog 140 #[.agg #[.int .i64 aA,.slice aM aK aN,.slice aJ aI aO],.agg #[.int .u8 bN,bR,.string bO,.int .i64 bW,.slice dA cZ dE]] m [] R:=
 Zad (E:=ZhP) Zam mix Tryz.func140 (by kernel_rfl) (Eq.mp (by kernel_rfl) h)
def ZnC:Env:={ EB with
 frzNew:=[1] }
theorem Zla(aA:Int)(aC:Value)(aE:ByteArray)(aF:Int)(bB:Option Addr)(aZ bE:Nat)(m:Mem)(R:RT)(h:
 lV [int u8 aA,aC,string aE,int i64 aF,slice bB aZ bE] λxL=>fzM m xL λb m'=>kB pG 169 [agg (.mk xL),agg (.mk [int u8 0,Value.float .f64 0,string bE0,int i64 0,slice none 0 0])] m' λb m'=>rtM
 m m' R (bool b)):CX Tryz.prog 137 #[.agg #[.int .u8 aA,aC,.string aE,.int .i64 aF,.slice bB aZ bE]] m [] R:=
 Zad (E:=ZnC) Zam mix Tryz.func137 (by kernel_rfl) (Eq.mp (by kernel_rfl) h)
def ZgH:Env:={ EB with
 frzNew:=[1] }
theorem ZfO(aA:Int)(aC aE:Bool)(aF aY aW aV dK dM dW:Int)(bX:Option Addr)(bY bZ:Nat)(cN:ByteArray)(cK:Int)(cD:Option Addr)(cE cF:Nat)(cW:ByteArray)(cX:Int)(m:Mem)(R:RT)(h:
 fzM m [int u8 aA,bool aC,bool aE,int u8 aF,int u64 aY,int u64 aW,int u64 aV,int u64 dK,int i64 dM,int i64 dW,slice bX bY bZ,string cN,int i64 cK,slice cD cE cF,string
 cW,int i64 cX] λb m'=>br (aA == 1) (kI pG 9 [agg (.mk [int u8 aF,int u64 aY,int u64 aW,int u64 aV,int u64 dK,int i64 dM,int i64 dW,slice bX bY bZ])] m' λn m'=>rtM m m' R (int i64
 n)) (br (aA == 2) (rtM m m' R (int i64 0)) (rtM m m' R (int i64 (-1))))):CX Tryz.prog 8 #[.agg #[.int .u8 aA,.bool aC,.bool aE,.int .u8 aF,.int .u64 aY,.int .u64 aW,.int .u64 aV,.int .u64 dK,.int .i64 dM,.int .i64 dW,.slice bX bY bZ,.string cN,.int .i64 cK,.slice cD cE cF,.string cW,.int .i64 cX]] m [] R:=
 Zad (E:=ZgH) Zam mix Tryz.func8 (by kernel_rfl) (Eq.mp (by kernel_rfl) h)
def Zi9:Env:={ EB with
 joins:=swI none [(1,some [(3,.bool)]),(7,some [(2,.bool)]),(8,some [(2,.bool)]),(11,some [(2,.bool)])]
 frzNew:=[1] }
theorem ZhQ(aA:Int)(aC aE:Bool)(aF aY aW aV dK dM dW:Int)(bX:Option Addr)(bY bZ:Nat)(cN:ByteArray)(cK:Int)(cD:Option Addr)(cE cF:Nat)(cW:ByteArray)(cX:Int)(m:Mem)(R:RT)(h:
 lE (ByteArray.toList cN == ByteArray.toList bE0) λyL=>lV [int u8 aA,bool aC,bool aE,int u8 aF,int u64 aY,int u64 aW,int u64 aV,int u64 dK,int i64 dM,int i64 dW,slice bX bY bZ,
 string cN,int i64 cK,slice cD cE cF,string cW,int i64 cX] λxL=>fzM m xL λb m'=>∃(b_1:Bool),lE [some (Box.mk b xL 45 16 true true)] λxL=>br aC (Zae xL/\[bool true]=[bool b_1])
 (br aE (Zae xL/\[bool true]=[bool b_1]) (kB pG 164 [agg (.mk [int u8 aF,int u64 aY,int u64 aW,int u64 aV,int u64 dK,int i64 dM,int i64 dW,slice bX bY bZ]),agg (.mk [int u8 0,int u64 0,
 int u64 0,int u64 0,int u64 0,int i64 0,int i64 0,slice none 0 0])] m' λb m'=>Zae xL/\[bool !b]=[bool b_1]))/\br (aA == 2) (∃(b:Bool),br (!b_1) (br (cK == 0) (kB pG 124 [int i64 (↑(ByteArray.size cN):
 Int),int i64 1,int i64 64] m' λb_2 m'=>Zae xL/\[bool b_2]=[bool b]) (Zae xL/\[bool false]=[bool b])) (Zae xL/\[bool false]=[bool b])/\rtM m m' R (bool b)) (br (aA == 4) (∃(b:Bool),br (!b_1) (br yL
 (kB pG 124 [int i64 cK,int i64 1,int i64 1000] m' λb_2 m'=>Zae xL/\[bool b_2]=[bool b]) (Zae xL/\[bool false]=[bool b])) (Zae xL/\[bool false]=[bool b])/\rtM m m' R (bool b)) (br (aA == 3) (br b_1
 (rtM m m' R (bool false)) (∃(b:Bool),br yL (Zae xL/\[bool (cK == 0)]=[bool b]) (Zae xL/\[bool false]=[bool b])/\rtM m m' R (bool b))) (br (aA == 1) (∃(b:Bool),br yL (Zae xL/\[bool (cK == 0)] =
 [bool b]) (Zae xL/\[bool false]=[bool b])/\rtM m m' R (bool b)) (rtM m m' R (bool false)))))):CX Tryz.prog 130 #[.agg #[.int .u8 aA,.bool aC,.bool aE,.int .u8 aF,.int .u64 aY,.int .u64 aW,.int .u64 aV,.int .u64 dK,.int .i64 dM,.int .i64 dW,.slice bX bY bZ,.string cN,.int .i64 cK,.slice cD cE cF,.string cW,.int .i64 cX]] m [] R:=
 Zad (E:=Zi9) Zam mix Tryz.func130 (by kernel_rfl) (Eq.mp (by kernel_rfl) h)
def ZhR:Env:=EB
theorem ZgI(c0b c0o:Nat)(m:Mem)(R:RT)(h:
 ∃(v:Value),m c0b (c0o+0)=some v/\kB pG 124 [v,int i64 2,int i64 256] m λb m'=>rtM m m' R (bool !b)):CX Tryz.prog 123 #[.pointer (some ⟨c0b,c0o,none⟩)] m [] R:=
 Zad (E:=ZhR) Zam mix Tryz.func123 (by kernel_rfl) (Eq.mp (by kernel_rfl) h)
def ZhS:Env:={ EB with
 joins:=swI none [(1,some [(1,.bool)])] }
theorem ZgJ(c0b c0o:Nat)(m:Mem)(R:RT)(h:
 ∃(b:Bool),(∃(v:Value),m c0b (c0o+2)=some v/\chk (Za8 v) (kB pG 124 [int i64 (↑(slN v):Int),int i64 1,int i64 24] m λb_1 m'=>br (!b_1) ([bool true]=[bool b]) (∃(v:Value),m' c0b (c0o+1)=some v/\chk
 (Za8 v) ([bool (decide ((↑(slN v):Int) > 12))]=[bool b]))))/\rtM m m R (bool b)):CX Tryz.prog 125 #[.pointer (some ⟨c0b,c0o,none⟩)] m [] R:=
 Zad (E:=ZhS) Zam mix Tryz.func125 (by kernel_rfl) (Eq.mp (by kernel_rfl) h)
def Zlb:Env:={ EB with
 frzNew:=[1] }
theorem Zja(aA:Int)(aM:Option Addr)(aK aN:Nat)(aJ:Option Addr)(aI aO:Nat)(m:Mem)(R:RT)(h:
 fzM m [int i64 aA,slice aM aK aN,slice aJ aI aO] λb m'=>∀b_1,lV [Value.pointer (some (Addr.mk b 0 none))] λxL=>m'.free b_1->kI pG 117 [slice (some (Addr.mk b_1 0 none)) 2 2] (m'.add b_1 [int i64
 300,func (Fn.func 123) (Array.mk []) (Array.mk xL),int i64 302,func (Fn.func 125) (Array.mk []) (Array.mk xL)]) λn m'=>rtM m m' R (int i64 n)):CX Tryz.prog 98 #[.agg #[.int .i64 aA,.slice aM aK aN,.slice aJ aI aO]] m [] R:=
 Zad (E:=Zlb) Zam mix Tryz.func98 (by kernel_rfl) (Eq.mp (by kernel_rfl) h)
def Zd3:Env:={ EB with
 frzNew:=[2] }
theorem ZdS(aA:ByteArray)(aC:Bool)(aE:ByteArray)(aF:Value)(c0b c0o:Nat)(m:Mem)(R:RT)(h:
 fzM m [string aA,bool aC,string aE,aF] λb m'=>∃(v:Value),m' c0b (c0o+0)=some v/\chk (Zfm v) (rtM m m' R (bool (ByteArray.toList aA == ByteArray.toList (Zcg v))))):CX Tryz.prog 122 #[.agg #[.string aA,.bool aC,.string aE,aF],.pointer (some ⟨c0b,c0o,none⟩)] m [] R:=
 Zad (E:=Zd3) Zam mix Tryz.func122 (by kernel_rfl) (Eq.mp (by kernel_rfl) h)
def Ze5:Env:=EB
theorem ZeG(c0b c0o c1b c1o c2b c2o:Nat)(m:Mem)(R:RT)(h:
 ∃(v:Value),m c0b (c0o+0)=some v/\kB pG 119 [v] m λb m'=>br (!b) (rtM m m' R (bool true)) (∃v v_1 v_2:Value,m'.reads c0b (c0o+1) [v,v_1,v_2]/\kB pG 120 [agg (.mk [v,v_1,v_2])] m' λb m'=>br (!b) (rtM m
 m' R (bool true)) (∃(v:Value),m' c1b (c1o+1)=some v/\∃(v_3:Value),m' c2b c2o=some v_3/\chk (Za8 v) (chk (Zcq v_3) (((0:Int)<=RowKit.intOf v_3/\RowKit.intOf v_3<=(↑(slC v):Int))/\kB pG 121 [slice
 (Zbb (slA v) 0 (slC v) 4) (Int.toNat (RowKit.intOf v_3) - 0) (slC v - 0),func (Fn.func 122) (Array.mk []) (Array.mk [Value.pointer (some (Addr.mk c0b c0o none))])] m' λb m'=>rtM m m' R (bool b)))))):CX Tryz.prog 118 #[.pointer (some ⟨c0b,c0o,none⟩),.pointer (some ⟨c1b,c1o,none⟩),.pointer (some ⟨c2b,c2o,none⟩)] m [] R:=
 Zad (E:=Ze5) Zam mix Tryz.func118 (by kernel_rfl) (Eq.mp (by kernel_rfl) h)
def ZgK:Env:={ EB with
 frzNew:=[2,3]
 frzAt:=swI [] [(14,[5])] }
theorem ZfP(aA:Int)(aM:Option Addr)(aK aN:Nat)(aJ:Option Addr)(aI aO:Nat)(p1:Int)(m:Mem)(R:RT)(h:
 fzM m [int i64 aA,slice aM aK aN,slice aJ aI aO] λb m'=>fzM m' [int i64 p1] λb_1 m'=>atA aM λb_2 o=>Zag p1 aK/\∃v v_1 v_2 v_3:Value,m'.reads b_2 (o+Int.toNat p1*4) [v,v_1,
 v_2,v_3]/\∀(b_3:Nat),chk (v.oneCell'&&(v_1.oneCell'&&(v_2.oneCell'&&(v_3.oneCell'&&true)))) (∀b_4,m'.free b_4->∀(m'_1:Mem),Mem.le (m'.add b_4 [int i64 301,func (Fn.func 118) (Array.mk []) (Array.mk
 [Value.pointer (some (Addr.mk b_3 0 none)),Value.pointer (some (Addr.mk b 0 none)),Value.pointer (some (Addr.mk b_1 0 none))])]) m'_1->m'_1.reads b_3 0 [v,v_1,v_2,v_3]->kI pG 117 [slice (some (Addr.mk b_4 0 none)) 1 1] m'_1
 λn m'=>rtM m m' R (int i64 n))):CX Tryz.prog 97 #[.agg #[.int .i64 aA,.slice aM aK aN,.slice aJ aI aO],.int .i64 p1] m [] R:=
 Zad (E:=ZgK) Zam mix Tryz.func97 (by kernel_rfl) (Eq.mp (by kernel_rfl) h)
def ZfQ:Env:={ EB with
 frzNew:=[2] }
theorem Ze6(aA:ByteArray)(aM:Option Addr)(aK aN c0b c0o:Nat)(m:Mem)(R:RT)(h:
 fzM m [string aA,slice aM aK aN] λb m'=>∃(v:Value),m' c0b (c0o+0)=some v/\chk (Zfm v) (rtM m m' R (bool (ByteArray.toList aA == ByteArray.toList (Zcg v))))):CX Tryz.prog 128 #[.agg #[.string aA,.slice aM aK aN],.pointer (some ⟨c0b,c0o,none⟩)] m [] R:=
 Zad (E:=ZfQ) Zam mix Tryz.func128 (by kernel_rfl) (Eq.mp (by kernel_rfl) h)
def ZhT:Env:=EB
theorem ZgL(c0b c0o c1b c1o c2b c2o:Nat)(m:Mem)(R:RT)(h:
 ∃(v:Value),m c0b (c0o+0)=some v/\kB pG 119 [v] m λb m'=>br (!b) (rtM m m' R (bool true)) (∃(v:Value),m' c0b (c0o+1)=some v/\chk (Za8 v) (br (decide ((↑(slN v):Int) > 12)) (rtM m m' R (bool true)) (∃(v:
 Value),m' c1b (c1o+2)=some v/\∃(v_1:Value),m' c2b c2o=some v_1/\chk (Za8 v) (chk (Zcq v_1) (((0:Int)<=RowKit.intOf v_1/\RowKit.intOf v_1<=(↑(slC v):Int))/\kB pG 127 [slice (Zbb (slA v) 0 (slC v) 2)
 (Int.toNat (RowKit.intOf v_1) - 0) (slC v - 0),func (Fn.func 128) (Array.mk []) (Array.mk [Value.pointer (some (Addr.mk c0b c0o none))])] m' λb m'=>rtM m m' R (bool b))))))):CX Tryz.prog 126 #[.pointer (some ⟨c0b,c0o,none⟩),.pointer (some ⟨c1b,c1o,none⟩),.pointer (some ⟨c2b,c2o,none⟩)] m [] R:=
 Zad (E:=ZhT) Zam mix Tryz.func126 (by kernel_rfl) (Eq.mp (by kernel_rfl) h)
def Zlc:Env:={ EB with
 frzNew:=[2,3]
 frzAt:=swI [] [(14,[5])] }
theorem Zjb(aA:Int)(aM:Option Addr)(aK aN:Nat)(aJ:Option Addr)(aI aO:Nat)(p1:Int)(m:Mem)(R:RT)(h:
 fzM m [int i64 aA,slice aM aK aN,slice aJ aI aO] λb m'=>fzM m' [int i64 p1] λb_1 m'=>atA aJ λb_2 o=>Zag p1 aI/\∃v v_1:Value,m'.reads b_2 (o+Int.toNat p1*2) [v,v_1]/\∀(b_3
 : Nat),chk (v.oneCell'&&(v_1.oneCell'&&true)) (∀b_4,m'.free b_4->∀(m'_1:Mem),Mem.le (m'.add b_4 [int i64 303,func (Fn.func 126) (Array.mk []) (Array.mk [Value.pointer (some (Addr.mk b_3 0 none)),Value.pointer (some
 (Addr.mk b 0 none)),Value.pointer (some (Addr.mk b_1 0 none))])]) m'_1->m'_1.reads b_3 0 [v,v_1]->kI pG 117 [slice (some (Addr.mk b_4 0 none)) 1 1] m'_1 λn m'=>rtM m m' R (int i64 n))):CX Tryz.prog 99 #[.agg #[.int .i64 aA,.slice aM aK aN,.slice aJ aI aO],.int .i64 p1] m [] R:=
 Zad (E:=Zlc) Zam mix Tryz.func99 (by kernel_rfl) (Eq.mp (by kernel_rfl) h)
def Zjc:Env:={ EB with
 joins:=swI none [(1,some [(1,.bool)])] }
theorem ZhU(c0b c0o:Nat)(m:Mem)(R:RT)(h:
 ∃(b:Bool),(∃v v_1 v_2 v_3 v_4 v_5 v_6 v_7 v_8 v_9 v_10 v_11 v_12 v_13 v_14 v_15:Value,lV [v,v_1,v_2,v_3,v_4,v_5,v_6,v_7,v_8,v_9,v_10,v_11,v_12,v_13,v_14,v_15] λxL=>m.reads c0b c0o xL/\kB pG 130 [agg
 (.mk xL)] m λb_1 m'=>br (!b_1) ([bool true]=[bool b]) (∃(v:Value),m' c0b (c0o+13)=some v/\chk (Za8 v) ([bool (decide ((↑(slN v):Int) > 8))]=[bool b])))/\rtM m m R (bool b)):CX Tryz.prog 129 #[.pointer (some ⟨c0b,c0o,none⟩)] m [] R:=
 Zad (E:=Zjc) Zam mix Tryz.func129 (by kernel_rfl) (Eq.mp (by kernel_rfl) h)
def Zjd:Env:={ EB with
 joins:=swI none [(1,some [(2,.bool)])] }
theorem ZhV(c0b c0o c1b c1o:Nat)(m:Mem)(R:RT)(h:
 ∃(b:Bool),(∃(v:Value),m c0b (c0o+0)=some v/\chk (ZaR u8 v&&decide (u8=u8)) (br (RowKit.intOf v == 1) (∃v v_1 v_2 v_3 v_4 v_5 v_6 v_7 v_8 v_9:Value,lV [v,v_1,v_2,v_3,v_4,v_5,v_6,v_7,v_8,v_9] λxL
 => m.reads c0b (c0o+1) xL/\kI pG 132 [agg (.mk xL)] m λn m'=>br (!n == 0) ([bool true]=[bool b]) (∃(v:Value),m' c1b c1o=some v/\chk (ZaR i64 v&&decide (i64=i64)) ([bool (decide (RowKit.intOf v > 600))] =
 [bool b]))) ([bool false]=[bool b])))/\rtM m m R (bool b)):CX Tryz.prog 131 #[.pointer (some ⟨c0b,c0o,none⟩),.pointer (some ⟨c1b,c1o,none⟩)] m [] R:=
 Zad (E:=Zjd) Zam mix Tryz.func131 (by kernel_rfl) (Eq.mp (by kernel_rfl) h)
def Zje:Env:={ EB with
 joins:=swI none [(4,some [(2,.bool)])] }
theorem ZhW(c0b c0o c1b c1o:Nat)(m:Mem)(R:RT)(h:
 ∃v v_1 v_2:Value,m.reads c0b c0o [v,v_1,v_2]/\∃(v_3:Value),m c1b (c1o+14)=some v_3/\∃R_1,True/\CX pG 134 (.mk [agg (.mk [v,v_1,v_2]),v_3]) m [] R_1/\Za7 (.tup [.int i64,.bool]) R_1/\∀n (b:Bool) (m':
 Mem),lE (m' c1b (c1o+15)) λyL=>m.le m'->R_1 (tuple (.mk [int i64 n,bool b])) m' []->∃(v:Value),m' c1b (c1o+14)=some v/\chk (Zfm v&&true) (br (ByteArray.toList (Zcg v) == ByteArray.toList bE0) (∃(v:
 Value),yL=some v/\kB pG 124 [v,int i64 0,int i64 255] m' λb m'=>rtM m m' R (bool !b)) (∃(b_1:Bool),br (!b) ([bool true]=[bool b_1]) (∃(v:Value),yL=some v/\chk (ZaR i64 v&&decide (i64=i64)) ([bool
 !RowKit.intOf v == 0]=[bool b_1]))/\rtM m m' R (bool b_1)))):CX Tryz.prog 133 #[.pointer (some ⟨c0b,c0o,none⟩),.pointer (some ⟨c1b,c1o,none⟩)] m [] R:=
 Zad (E:=Zje) Zam mix Tryz.func133 (by kernel_rfl) (Eq.mp (by kernel_rfl) h)
def ZnD:Env:={ EB with
 frzNew:=[3,4,5] }
theorem Zld(aA:Int)(aM:Option Addr)(aK aN:Nat)(aJ:Option Addr)(aI aO:Nat)(bN:Int)(bR bO:Bool)(bW dC dV eO jx jy jz:Int)(fC:Option Addr)(fD fE:Nat)(gT:ByteArray)(gU:Int)(fF:Option Addr)(fG fH:Nat)(gV:ByteArray)(gW p2:Int)(m:Mem)(R:RT)(h:
 fzM m [int i64 aA,slice aM aK aN,slice aJ aI aO] λb m'=>fzM m' [int u8 bN,bool bR,bool bO,int u8 bW,int u64 dC,int u64 dV,int u64 eO,int u64 jx,int i64 jy,int i64 jz,slice
 fC fD fE,string gT,int i64 gU,slice fF fG fH,string gV,int i64 gW] λb_1 m'=>lX (Value.pointer (some (Addr.mk b_1 0 none))) λyL=>fzM m' [int i64 p2] λb_2 m'=>∀b_3,m'.free
 b_3->kI pG 117 [slice (some (Addr.mk b_3 0 none)) 3 3] (m'.add b_3 [int i64 304,func (Fn.func 129) (Array.mk []) (Array.mk [yL]),int i64 305,func (Fn.func 131) (Array.mk []) (Array.mk [yL,Value.pointer (some (Addr.mk b_2 0
 none))]),int i64 306,func (Fn.func 133) (Array.mk []) (Array.mk [Value.pointer (some (Addr.mk b 0 none)),yL])]) λn m'=>rtM m m' R (int i64 n)):CX Tryz.prog 100 #[.agg #[.int .i64 aA,.slice aM aK aN,.slice aJ aI aO],.agg #[.int .u8 bN,.bool bR,.bool bO,.int .u8 bW,.int .u64 dC,.int .u64 dV,.int .u64 eO,.int .u64 jx,.int .i64 jy,.int .i64 jz,.slice fC fD fE,.string gT,.int .i64 gU,.slice fF fG fH,.string gV,.int .i64 gW],.int .i64 p2] m [] R:=
 Zad (E:=ZnD) Zam mix Tryz.func100 (by kernel_rfl) (Eq.mp (by kernel_rfl) h)
def ZgM:Env:={ EB with
 joins:=swI none [(1,some [(2,.bool)])]
 gb:=true
 ldF:=swI none [(19,some (.bool)),(28,some (.bool)),(37,some (.bool))] }
theorem ZfR(c0b c0o c1b c1o:Nat)(m:Mem)(R:RT)(h:
 ∃(b:Bool),lE (c0o+3) λyL=>lE (c0o+2) λae=>lV [bool b] λxL=>(∃(v:Value),m c0b (c0o+0)=some v/\chk (ZaR u8 v) (kB pG 124 [int i64 (i64.wrap (RowKit.intOf v)),int i64 1,int i64 3] m λb m'=>lE
 (m' c0b ae) λak=>lE (m' c1b c1o) λaj=>br (!b) ([bool true]=xL) (∃(v:Value),m' c0b (c0o+0)=some v/\chk (ZaR u8 v&&decide (u8=u8)) (br (RowKit.intOf v == 1) (∃(v:Value),m' c0b (c0o+1)=some v/\chk
 (Zfm v&&true) (br (!ByteArray.toList (Zcg v) == ByteArray.toList bE0) ([bool true]=xL) (∃(v:Value),aj=some v/\∃(b:Bool),v=bool b/\br b (∃(v:Value),ak=some v/\chk (Za8 v) (br (decide ((↑(slN v):Int)
 > 0)) ([bool true]=xL) (∃(v:Value),aj=some v/\∃(b:Bool),v=bool b/\br b (∃v aa ab ac ad:Value,m'.reads c0b yL [v,aa,ab,ac,ad]/\kB pG 136 [agg (.mk [v,aa,ab,ac,ad])] m' λb m'=>br (!b) ([bool true] =
 xL) (∃(v:Value),m' c1b c1o=some v/\∃(b:Bool),v=bool b/\br (!b) (∃v af ag ah ai:Value,m'.reads c0b yL [v,af,ag,ah,ai]/\kB pG 137 [agg (.mk [v,af,ag,ah,ai])] m' λb m'=>br (!b) ([bool true]=xL) (∃(v
 : Value),m' c0b ae=some v/\chk (Za8 v) ([bool (decide ((↑(slN v):Int) > 16))]=xL))) (∃(v:Value),m' c0b ae=some v/\chk (Za8 v) ([bool (decide ((↑(slN v):Int) > 16))]=xL)))) (∃(v:Value),aj=some v/\∃(b:
 Bool),v=bool b/\br (!b) (∃v aa ab ac ad:Value,m'.reads c0b yL [v,aa,ab,ac,ad]/\kB pG 137 [agg (.mk [v,aa,ab,ac,ad])] m' λb m'=>br (!b) ([bool true]=xL) (∃(v:Value),m' c0b ae=some v/\chk (Za8 v)
 ([bool (decide ((↑(slN v):Int) > 16))]=xL))) (∃(v:Value),ak=some v/\chk (Za8 v) ([bool (decide ((↑(slN v):Int) > 16))]=xL)))))) (∃(v:Value),aj=some v/\∃(b:Bool),v=bool b/\br b (∃v aa ab ac ad:
 Value,m'.reads c0b yL [v,aa,ab,ac,ad]/\kB pG 136 [agg (.mk [v,aa,ab,ac,ad])] m' λb m'=>br (!b) ([bool true]=xL) (∃(v:Value),m' c1b c1o=some v/\∃(b:Bool),v=bool b/\br (!b) (∃v af ag ah ai:Value,
 m'.reads c0b yL [v,af,ag,ah,ai]/\kB pG 137 [agg (.mk [v,af,ag,ah,ai])] m' λb m'=>br (!b) ([bool true]=xL) (∃(v:Value),m' c0b ae=some v/\chk (Za8 v) ([bool (decide ((↑(slN v):Int) > 16))]=xL))) (∃(v:
 Value),m' c0b ae=some v/\chk (Za8 v) ([bool (decide ((↑(slN v):Int) > 16))]=xL)))) (∃(v:Value),aj=some v/\∃(b:Bool),v=bool b/\br (!b) (∃v aa ab ac ad:Value,m'.reads c0b yL [v,aa,ab,ac,ad]/\kB pG 137
 [agg (.mk [v,aa,ab,ac,ad])] m' λb m'=>br (!b) ([bool true]=xL) (∃(v:Value),m' c0b ae=some v/\chk (Za8 v) ([bool (decide ((↑(slN v):Int) > 16))]=xL))) (∃(v:Value),ak=some v/\chk (Za8 v) ([bool (decide
 ((↑(slN v):Int) > 16))]=xL))))))) (∃(v:Value),aj=some v/\∃(b:Bool),v=bool b/\br b (∃(v:Value),ak=some v/\chk (Za8 v) (br (decide ((↑(slN v):Int) > 0)) ([bool true]=xL) (∃(v:Value),aj=some v/\∃
 (b:Bool),v=bool b/\br b (∃v aa ab ac ad:Value,m'.reads c0b yL [v,aa,ab,ac,ad]/\kB pG 136 [agg (.mk [v,aa,ab,ac,ad])] m' λb m'=>br (!b) ([bool true]=xL) (∃(v:Value),m' c1b c1o=some v/\∃(b:Bool),
 v=bool b/\br (!b) (∃v af ag ah ai:Value,m'.reads c0b yL [v,af,ag,ah,ai]/\kB pG 137 [agg (.mk [v,af,ag,ah,ai])] m' λb m'=>br (!b) ([bool true]=xL) (∃(v:Value),m' c0b ae=some v/\chk (Za8 v) ([bool
 (decide ((↑(slN v):Int) > 16))]=xL))) (∃(v:Value),m' c0b ae=some v/\chk (Za8 v) ([bool (decide ((↑(slN v):Int) > 16))]=xL)))) (∃(v:Value),aj=some v/\∃(b:Bool),v=bool b/\br (!b) (∃v aa ab ac ad:
 Value,m'.reads c0b yL [v,aa,ab,ac,ad]/\kB pG 137 [agg (.mk [v,aa,ab,ac,ad])] m' λb m'=>br (!b) ([bool true]=xL) (∃(v:Value),m' c0b ae=some v/\chk (Za8 v) ([bool (decide ((↑(slN v):Int) > 16))]=xL))) (∃
 (v:Value),ak=some v/\chk (Za8 v) ([bool (decide ((↑(slN v):Int) > 16))]=xL)))))) (∃(v:Value),aj=some v/\∃(b:Bool),v=bool b/\br b (∃v aa ab ac ad:Value,m'.reads c0b yL [v,aa,ab,ac,ad]/\kB pG 136
 [agg (.mk [v,aa,ab,ac,ad])] m' λb m'=>br (!b) ([bool true]=xL) (∃(v:Value),m' c1b c1o=some v/\∃(b:Bool),v=bool b/\br (!b) (∃v af ag ah ai:Value,m'.reads c0b yL [v,af,ag,ah,ai]/\kB pG 137 [agg (.mk
 [v,af,ag,ah,ai])] m' λb m'=>br (!b) ([bool true]=xL) (∃(v:Value),m' c0b ae=some v/\chk (Za8 v) ([bool (decide ((↑(slN v):Int) > 16))]=xL))) (∃(v:Value),m' c0b ae=some v/\chk (Za8 v) ([bool (decide
 ((↑(slN v):Int) > 16))]=xL)))) (∃(v:Value),aj=some v/\∃(b:Bool),v=bool b/\br (!b) (∃v aa ab ac ad:Value,m'.reads c0b yL [v,aa,ab,ac,ad]/\kB pG 137 [agg (.mk [v,aa,ab,ac,ad])] m' λb m'=>br (!b)
 ([bool true]=xL) (∃(v:Value),m' c0b ae=some v/\chk (Za8 v) ([bool (decide ((↑(slN v):Int) > 16))]=xL))) (∃(v:Value),ak=some v/\chk (Za8 v) ([bool (decide ((↑(slN v):Int) > 16))]=xL)))))))))/\rtM m m R
 (bool b)):CX Tryz.prog 135 #[.pointer (some ⟨c0b,c0o,none⟩),.pointer (some ⟨c1b,c1o,none⟩)] m [] R:=
 Zad (E:=ZgM) Zam mix Tryz.func135 (by kernel_rfl) (Eq.mp (by kernel_rfl) h)
def ZgN:Env:={ EB with
 joins:=swI none [(2,some [(3,.bool)])]
 gb:=true
 ldF:=swI none [(21,some (.bool)),(26,some (.bool))] }
theorem ZfS(c0b c0o c1b c1o c2b c2o:Nat)(m:Mem)(R:RT)(h:
 ∃v v_1 v_2:Value,m.reads c0b c0o [v,v_1,v_2]/\∃(v_3:Value),m c1b (c1o+1)=some v_3/\∃R_1,True/\CX pG 139 (.mk [agg (.mk [v,v_1,v_2]),v_3]) m [] R_1/\Za7 (.tup [.bool,.bool]) R_1/\∀(b b_1:Bool) (m':
 Mem),lE (m' c2b c2o) λyL=>m.le m'->R_1 (tuple (.mk [bool b,bool b_1])) m' []->∃(b_2:Bool),lV [bool b_2] λxL=>(∃(v:Value),m' c1b (c1o+0)=some v/\chk (ZaR u8 v&&decide (u8=u8)) (br (!RowKit.intOf v
 == 1) (br (!b_1) ([bool true]=xL) (∃(v:Value),yL=some v/\∃(b_3:Bool),v=bool b_3/\br (!b == b_3) ([bool true]=xL) (∃(v:Value),yL=some v/\∃(b:Bool),v=bool b/\br b (∃v v_4 v_5:Value,m'.reads c0b
 c0o [v,v_4,v_5]/\∃v_6 v_7 v_8 v_9 v_10:Value,m'.reads c1b (c1o+3) [v_6,v_7,v_8,v_9,v_10]/\kB pG 140 [agg (.mk [v,v_4,v_5]),agg (.mk [v_6,v_7,v_8,v_9,v_10])] m' λb m'=>[bool !b]=xL) ([bool false] =
 xL)))) (∃(v:Value),yL=some v/\∃(b:Bool),v=bool b/\br b (∃v v_4 v_5:Value,m'.reads c0b c0o [v,v_4,v_5]/\∃v_6 v_7 v_8 v_9 v_10:Value,m'.reads c1b (c1o+3) [v_6,v_7,v_8,v_9,v_10]/\kB pG 140 [agg (.mk
 [v,v_4,v_5]),agg (.mk [v_6,v_7,v_8,v_9,v_10])] m' λb m'=>[bool !b]=xL) ([bool false]=xL))))/\rtM m m' R (bool b_2)):CX Tryz.prog 138 #[.pointer (some ⟨c0b,c0o,none⟩),.pointer (some ⟨c1b,c1o,none⟩),.pointer (some ⟨c2b,c2o,none⟩)] m [] R:=
 Zad (E:=ZgN) Zam mix Tryz.func138 (by kernel_rfl) (Eq.mp (by kernel_rfl) h)
def ZgO:Env:={ EB with
 dr:=swI [] [(1,[dO 0 [],dO 1 [0],dO 2 [0,1],dO 3 [0,1,2],dO 4 [0,1,2,3],dO 5 [0,1],⟨6,[],[],none,[0,1,2,3,4,5],[4]⟩,dO 7 [0,1,2,3,4,5,6],dO 8 [0,1,2,3,4,5,6,7],dO 9 [0,1,2,3,4,5,6,7,8]])]
 gb:=true
 ldF:=swI none [(4,some (.bool))] }
theorem ZfT(c0b c0o c1b c1o c2b c2o:Nat)(m:Mem)(R:RT)(h:
 ∃(f:Fx),∃(v:Value),m c0b c0o=some v/\∃(b:Bool),v=bool b/\br b (∃v v_1 v_2 v_3 v_4:Value,lV [v,v_1,v_2,v_3,v_4] λxL=>m.reads c1b (c1o+3) xL/\∃R_1,R_1=f 4 [agg (.mk xL)] m/\CX pG 142 (.mk [agg
 (.mk xL)]) m [] R_1/\Za7 (.int i64) R_1/\∀n m',m.le m'->R_1 (int i64 n) m' []->∃v v_5 v_6 v_7 v_8 v_9 v_10 v_11 v_12 v_13 v_14 v_15 v_16 v_17 v_18 v_19:Value,lV [v,v_5,v_6,v_7,v_8,v_9,v_10,v_11,v_12,v_13,v_14,
 v_15,v_16,v_17,v_18,v_19] λxL=>m.reads c2b c2o xL/\∃R_2,R_2=f 6 [agg (.mk xL)] m'/\CX pG 8 (.mk [agg (.mk xL)]) m' [] R_2/\Za7 (.int i64) R_2/\∀n_1 m'_1,m'.le m'_1->R_2 (int i64 n_1) m'_1 []->∀M,m.le M->
 m'.le M->m'_1.le M->rtM m M R (bool (decide (n > n_1)))) (∀M,m.le M->m.le M->m.le M->rtM m M R (bool false))):CX Tryz.prog 141 #[.pointer (some ⟨c0b,c0o,none⟩),.pointer (some ⟨c1b,c1o,none⟩),.pointer (some ⟨c2b,c2o,none⟩)] m [] R:=
 Zad (E:=ZgO) Zam mix Tryz.func141 (by kernel_rfl) (Eq.mp (by kernel_rfl) h)
def Zjf:Env:={ EB with
 frzNew:=[3,4,5]
 frzAt:=swI [] [(18,[7])] }
theorem ZhX(aA:Int)(aM:Option Addr)(aK aN:Nat)(aJ:Option Addr)(aI aO:Nat)(bN:Int)(bR bO:Bool)(bW dC dV eO jx jy jz:Int)(fC:Option Addr)(fD fE:Nat)(gT:ByteArray)(gU:Int)(fF:Option Addr)(fG fH:Nat)(gV:ByteArray)(gW gG:Int)(eY:ByteArray)(nQ:Option Addr)(nR nS:Nat)(fL:Int)(iW:Value)(lG:ByteArray)(lH:Int)(jp:Option Addr)(jq jr:Nat)(m:Mem)(R:RT)(h:
 fzM m [int i64 aA,slice aM aK aN,slice aJ aI aO] λb m'=>fzM m' [int u8 bN,bool bR,bool bO,int u8 bW,int u64 dC,int u64 dV,int u64 eO,int u64 jx,int i64 jy,int i64 jz,slice
 fC fD fE,string gT,int i64 gU,slice fF fG fH,string gV,int i64 gW] λb_1 m'=>fzM m' [int u8 gG,string eY,slice nQ nR nS,int u8 fL,iW,string lG,int i64 lH,
 slice jp jq jr] λb_2 m'=>∀(b_3:Nat) b_4,lX (Value.pointer (some (Addr.mk b_2 0 none))) λyL=>lX (Value.pointer (some (Addr.mk b_3 0 none))) λyL_1=>lV [yL,yL_1] λxL=>m'.free b_4->∀(m'_1:Mem),
 Mem.le (m'.add b_4 [int i64 307,func (Fn.func 135) (Array.mk []) (Array.mk xL),int i64 308,func (Fn.func 138) (Array.mk []) (Array.mk (Value.pointer (some (Addr.mk b 0 none))::xL)),int i64 309,func (Fn.func 141) (Array.mk
 []) (Array.mk [yL_1,yL,Value.pointer (some (Addr.mk b_1 0 none))])]) m'_1->m'_1.reads b_3 0 [bool (gG == 3)]->kI pG 117 [slice (some (Addr.mk b_4 0 none)) 3 3] m'_1 λn m'=>rtM m m' R (int i64 n)):CX Tryz.prog 101 #[.agg #[.int .i64 aA,.slice aM aK aN,.slice aJ aI aO],.agg #[.int .u8 bN,.bool bR,.bool bO,.int .u8 bW,.int .u64 dC,.int .u64 dV,.int .u64 eO,.int .u64 jx,.int .i64 jy,.int .i64 jz,.slice fC fD fE,.string gT,.int .i64 gU,.slice fF fG fH,.string gV,.int .i64 gW],.agg #[.int .u8 gG,.string eY,.slice nQ nR nS,.int .u8 fL,iW,.string lG,.int .i64 lH,.slice jp jq jr]] m [] R:=
 Zad (E:=Zjf) Zam mix Tryz.func101 (by kernel_rfl) (Eq.mp (by kernel_rfl) h)
def Zjg:Env:={ EB with
 joins:=swI none [(1,some [(3,.bool)])] }
theorem ZhY(c0b c0o c1b c1o c2b c2o:Nat)(m:Mem)(R:RT)(h:
 ∃(b:Bool),lV [bool b] λxL=>(∃v v_1 v_2 v_3 v_4 v_5 v_6 v_7:Value,lV [v,v_1,v_2,v_3,v_4,v_5,v_6,v_7] λxL_1=>m.reads c0b c0o xL_1/\kB pG 144 [agg (.mk xL_1)] m λb m'=>br (!b) ([bool true]=xL) (∃(v:
 Value),m' c1b c1o=some v/\chk (ZaR i64 v&&decide (i64=i64)) (br (decide (RowKit.intOf v > 0)) (∃(v:Value),m' c0b (c0o+0)=some v/\chk (ZaR u8 v&&decide (u8=u8)) (br (RowKit.intOf v == 1) (∃(v:Value),m'
 c2b c2o=some v/\∃(v_8:Value),lE (i64.wrap (RowKit.intOf v_8 - (1:Int))) λyL=>m' c1b c1o=some v_8/\chk (ZaR i64 v_8&&decide (i64=i64)) (chk (Za8 v) (atA (slA v) λb o=>Zag yL (slN v)/\∃(v:Value),
 m' b (o+Int.toNat yL*8+0)=some v/\chk (ZaR u8 v&&decide (u8=u8)) ([bool (RowKit.intOf v == 1)]=xL)))) ([bool false]=xL))) ([bool false]=xL))))/\rtM m m R (bool b)):CX Tryz.prog 143 #[.pointer (some ⟨c0b,c0o,none⟩),.pointer (some ⟨c1b,c1o,none⟩),.pointer (some ⟨c2b,c2o,none⟩)] m [] R:=
 Zad (E:=Zjg) Zam mix Tryz.func143 (by kernel_rfl) (Eq.mp (by kernel_rfl) h)
def Zjh:Env:={ EB with
 joins:=swI none [(2,some [(2,.bool)])] }
theorem ZhZ(c0b c0o c1b c1o:Nat)(m:Mem)(R:RT)(h:
 ∃v v_1 v_2:Value,m.reads c0b c0o [v,v_1,v_2]/\∃(v_3:Value),m c1b (c1o+1)=some v_3/\∃R_1,True/\CX pG 139 (.mk [agg (.mk [v,v_1,v_2]),v_3]) m [] R_1/\Za7 (.tup [.bool,.bool]) R_1/\∀(b b_1:Bool) (m':
 Mem),lE (m' c1b (c1o+0)) λyL=>m.le m'->R_1 (tuple (.mk [bool b,bool b_1])) m' []->∃(b:Bool),lV [bool b] λxL=>(∃(v:Value),yL=some v/\chk (ZaR u8 v&&decide (u8=u8)) (br (RowKit.intOf v == 2) (br
 (!b_1) ([bool true]=xL) (∃(v:Value),yL=some v/\chk (ZaR u8 v&&decide (u8=u8)) (br (RowKit.intOf v == 4) (∃v v_4 v_5:Value,m'.reads c0b c0o [v,v_4,v_5]/\∃v_6 v_7 v_8 v_9 v_10:Value,m'.reads c1b (c1o+3)
 [v_6,v_7,v_8,v_9,v_10]/\kB pG 140 [agg (.mk [v,v_4,v_5]),agg (.mk [v_6,v_7,v_8,v_9,v_10])] m' λb m'=>[bool !b]=xL) ([bool false]=xL)))) (∃(v:Value),yL=some v/\chk (ZaR u8 v&&decide (u8=u8)) (br
 (RowKit.intOf v == 4) (∃v v_4 v_5:Value,m'.reads c0b c0o [v,v_4,v_5]/\∃v_6 v_7 v_8 v_9 v_10:Value,m'.reads c1b (c1o+3) [v_6,v_7,v_8,v_9,v_10]/\kB pG 140 [agg (.mk [v,v_4,v_5]),agg (.mk [v_6,v_7,v_8,v_9,
 v_10])] m' λb m'=>[bool !b]=xL) ([bool false]=xL)))))/\rtM m m' R (bool b)):CX Tryz.prog 145 #[.pointer (some ⟨c0b,c0o,none⟩),.pointer (some ⟨c1b,c1o,none⟩)] m [] R:=
 Zad (E:=Zjh) Zam mix Tryz.func145 (by kernel_rfl) (Eq.mp (by kernel_rfl) h)
def Zji:Env:={ EB with
 dr:=swI [] [(1,[dO 0 [],dO 1 [0],dO 2 [0,1],dO 3 [0,1,2],dO 4 [0,1,2,3],dO 5 [0,1,2,3,4],dO 6 [0,1,2,3],dO 7 [0,1,2,3,6],dO 8 [0,1,2,3,4,5,6,7],dO 9 [0,1,2,3,4,5,6,7,8],dO 10 [0,1,2,3,4,5,6,7,8,9],dO 11 [0,1,2,3,4,5,6,7,8,9,10],⟨12,[],[],none,rg 0 12,[7]⟩,dO 13 (rg 0 13),dO 14 (rg 0 14),dO 15 (rg 0 15),⟨16,[],[],none,rg 0 16,[7]⟩,⟨17,[],[],none,rg 0 17,[7]⟩,⟨18,[],[],none,rg 0 15,[7]⟩,⟨19,[],[],none,rg 0 19,[17]⟩,dO 20 (rg 0 20),dO 21 (rg 0 21),dO 22 (rg 0 22),dO 23 (rg 0 23)])]
 gb:=true }
theorem Zh0(c0b c0o c1b c1o:Nat)(m:Mem)(R:RT)(h:
 ∃(f:Fx),∃(v:Value),lE (m c0b (c0o+0)) λyL=>yL=some v/\chk (ZaR u8 v&&decide (u8=u8)) (br (RowKit.intOf v == 3) (∃(v:Value),m c0b (c0o+2)=some v/\∃ac ad ae af ag ah ai aj ak al am an ao ap aq ar:
 Value,lV [ac,ad,ae,af,ag,ah,ai,aj,ak,al,am,an,ao,ap,aq,ar] λxL=>m.reads c1b c1o xL/\∃R_1,R_1=f 7 [agg (.mk xL)] m/\CX pG 8 (.mk [agg (.mk xL)]) m [] R_1/\Za7 (.int i64) R_1/\∀n m',m.le m'->R_1 (int
 i64 n) m' []->chk (ZaR i64 v&&decide (i64=i64)) (br (decide (RowKit.intOf v > n)) (∀M,m.le M->m'.le M->m'.le M->m'.le M->rtM m M R (bool true)) (∃(v:Value),m' c0b (c0o+0)=some v/\chk (ZaR u8 v&&decide (u8
 = u8)) (br (RowKit.intOf v == 4) (∃v au av aw ay:Value,lV [v,au,av,aw,ay] λxL=>m'.reads c0b (c0o+3) xL/\∃R_2,R_2=f 17 [agg (.mk xL)] m'/\CX pG 142 (.mk [agg (.mk xL)]) m' [] R_2/\Za7 (.int i64) R_2/\∀n aa,
 m'.le aa->R_2 (int i64 n) aa []->∃v az a0 a1 a2 a3 a4 a5 a6 a7 a8 a9 ba bb bc bd:Value,lV [v,az,a0,a1,a2,a3,a4,a5,a6,a7,a8,a9,ba,bb,bc,bd] λxL=>m'.reads c1b c1o xL/\∃R_3,R_3=f 19 [agg (.mk xL)] aa/\
 CX pG 8 (.mk [agg (.mk xL)]) aa [] R_3/\Za7 (.int i64) R_3/\∀ab ax,aa.le ax->R_3 (int i64 ab) ax []->∀M,m.le M->m'.le M->aa.le M->ax.le M->rtM m M R (bool (decide (n > ab)))) (∀M,m.le M->m'.le M->m'.le M->m'.le M
 -> rtM m M R (bool false)))))) (∃(v:Value),yL=some v/\chk (ZaR u8 v&&decide (u8=u8)) (br (RowKit.intOf v == 4) (∃v ac ad ae af:Value,lV [v,ac,ad,ae,af] λxL=>m.reads c0b (c0o+3) xL/\∃R_1,R_1=f 17
 [agg (.mk xL)] m/\CX pG 142 (.mk [agg (.mk xL)]) m [] R_1/\Za7 (.int i64) R_1/\∀n m',m.le m'->R_1 (int i64 n) m' []->∃v ag ah ai aj ak al am an ao ap aq ar au av aw:Value,lV [v,ag,ah,ai,aj,ak,al,am,an,ao,ap,
 aq,ar,au,av,aw] λxL=>m.reads c1b c1o xL/\∃R_2,R_2=f 19 [agg (.mk xL)] m'/\CX pG 8 (.mk [agg (.mk xL)]) m' [] R_2/\Za7 (.int i64) R_2/\∀ab aa,m'.le aa->R_2 (int i64 ab) aa []->∀M,m.le M->m.le M->m'.le M->
 aa.le M->rtM m M R (bool (decide (n > ab)))) (∀M,m.le M->m.le M->m.le M->m.le M->rtM m M R (bool false)))))):CX Tryz.prog 146 #[.pointer (some ⟨c0b,c0o,none⟩),.pointer (some ⟨c1b,c1o,none⟩)] m [] R:=
 Zad (E:=Zji) Zam mix Tryz.func146 (by kernel_rfl) (Eq.mp (by kernel_rfl) h)
def ZnE:Env:={ EB with
 frzNew:=[4,5,6,7]
 frzAt:=swI [] [(21,[9])] }
theorem Zle(aA:Int)(aM:Option Addr)(aK aN:Nat)(aJ:Option Addr)(aI aO:Nat)(bN:Int)(bR bO:Bool)(bW dC dV eO jx jy jz:Int)(fC:Option Addr)(fD fE:Nat)(gT:ByteArray)(gU:Int)(fF:Option Addr)(fG fH:Nat)(gV:ByteArray)(gW:Int)(p2a:Option Addr)(p2n p2c:Nat)(p3:Int)(m:Mem)(R:RT)(h:
 fzM m [int i64 aA,slice aM aK aN,slice aJ aI aO] λb m'=>fzM m' [int u8 bN,bool bR,bool bO,int u8 bW,int u64 dC,int u64 dV,int u64 eO,int u64 jx,int i64 jy,int i64 jz,slice
 fC fD fE,string gT,int i64 gU,slice fF fG fH,string gV,int i64 gW] λb_1 m'=>fzM m' [slice p2a p2n p2c] λb_2 m'=>fzM m' [int i64 p3] λb_3 m'=>atA p2a λb_4 o=>Zag p3
 p2n/\∃v v_1 v_2 v_3 v_4 v_5 v_6 v_7:Value,lV [v,v_1,v_2,v_3,v_4,v_5,v_6,v_7] λxL=>m'.reads b_4 (o+Int.toNat p3*8) xL/\∀(b_5:Nat),lX (Value.pointer (some (Addr.mk b_5 0 none))) λyL=>chk (v.oneCell' &&
 (v_1.oneCell'&&(v_2.oneCell'&&(v_3.oneCell'&&(v_4.oneCell'&&(v_5.oneCell'&&(v_6.oneCell'&&(v_7.oneCell'&&true)))))))) (∀b_6,m'.free b_6->∀(m'_1:Mem),Mem.le (m'.add b_6 [int i64 307,func (Fn.func 143)
 (Array.mk []) (Array.mk [yL,Value.pointer (some (Addr.mk b_3 0 none)),Value.pointer (some (Addr.mk b_2 0 none))]),int i64 308,func (Fn.func 145) (Array.mk []) (Array.mk [Value.pointer (some (Addr.mk b 0 none)),yL]),int i64
 309,func (Fn.func 146) (Array.mk []) (Array.mk [yL,Value.pointer (some (Addr.mk b_1 0 none))])]) m'_1->m'_1.reads b_5 0 xL->kI pG 117 [slice (some (Addr.mk b_6 0 none)) 3 3] m'_1 λn m'=>rtM m m' R (int i64 n))):CX Tryz.prog 102 #[.agg #[.int .i64 aA,.slice aM aK aN,.slice aJ aI aO],.agg #[.int .u8 bN,.bool bR,.bool bO,.int .u8 bW,.int .u64 dC,.int .u64 dV,.int .u64 eO,.int .u64 jx,.int .i64 jy,.int .i64 jz,.slice fC fD fE,.string gT,.int .i64 gU,.slice fF fG fH,.string gV,.int .i64 gW],.slice p2a p2n p2c,.int .i64 p3] m [] R:=
 Zad (E:=ZnE) Zam mix Tryz.func102 (by kernel_rfl) (Eq.mp (by kernel_rfl) h)
def Zjj:Env:={ EB with
 loops:=swI nLa [(4,⟨[(3,.int .i64),(4,.slice),(13,.int .i64)],[],[(41,1)],false⟩),(8,⟨[(3,.int .i64),(7,.slice),(20,.int .i64)],[],[(36,1)],false⟩)]
 tokOf:=swI 0 [(36,36),(41,41)]
 frzNew:=[1] }
theorem Zh1(aA:Int)(aM:Option Addr)(aK aN:Nat)(aJ:Option Addr)(aI aO:Nat)(m:Mem)(R:RT)(h:
 lV [int i64 aA,slice aM aK aN,slice aJ aI aO] λxL=>fzM m xL λb m'=>∃I,lE [some (Box.mk b xL 30 3 true true)] λxL=>inI I [int i64 0,slice none 0 0,int i64 0] [] [slice none 0 0] m'/\∀n a
 am c ae bb bc bd ac (a1:Nat),lX (slice bb bc bd) λyL=>lX (slice a am c) λah=>lE (am+1) λaf=>lE [some (Tok.mk yL 1)] λai=>m'.le ac->I [int i64 n,ah,int i64 ae] [] [yL] ac a1->br (decide (ae < (↑aI:
 Int))) (atA aJ λb o=>Zag ae aI/\∃v ab:Value,ac.reads b (o+Int.toNat ae*2) [v,ab]/\∀b,lE (some (Box.mk b [v,ab] 34 2 false true)::xL) λa2=>chk (v.oneCell'&&(ab.oneCell'&&true)) (chk (Za8 ab)
 (∃aj,inI aj [int i64 n,slice none 0 0,int i64 0] [] [slice none 0 0] ac/\∀n an ak ao (ag:Int) be bf bg m' (ap:Nat),lX (slice be bf bg) λaq=>lV [int i64 (i64.wrap (ag+1))] λa3=>lX (int i64 n) λal=>lX
 (slice an ak ao) λad=>lE (ak+1) λaa=>ac.le m'->aj [al,ad,int i64 ag] [] [aq] m' ap->br (decide (ag < (↑(slN ab):Int))) (chk (Za8 ab) (atA (slA ab) λb o=>Zag ag (slN ab)/\∃v a4 a5 ar au av aw ax ay az
 a0 a6 a7 a8 a9 ba:Value,m'.reads b (o+Int.toNat ag*16) [v,a4,a5,ar,au,av,aw,ax,ay,az,a0,a6,a7,a8,a9,ba]/\∀(b:Nat),chk (v.oneCell'&&(a4.oneCell'&&(a5.oneCell'&&(ar.oneCell'&&(au.oneCell' &&
 (av.oneCell'&&(aw.oneCell'&&(ax.oneCell'&&(ay.oneCell'&&(az.oneCell'&&(a0.oneCell'&&(a6.oneCell'&&(a7.oneCell'&&(a8.oneCell'&&(a9.oneCell'&&(ba.oneCell'&&true)))))))))))))))) (chk (ZaR u8 v&&decide (u8 =
 u8)) (br (RowKit.intOf v == 1) (kI pG 62 [agg (.mk [ar,au,av,aw,ax,ay,az,a0])] m' λbh m'=>∀b,lX (int i64 (i64.wrap (n+bh))) λyL=>lM (m'.add b [yL]) λmL=>m'.free b->(Tok.mk aq 1=Tok.mk ad 1\/ad=slice
 none 0 0\/ao < aa)/\∃(xs:List Value),∃(ys:List Value),xs.length=ak*1/\ys.length=1*1/\rowRd mL an xs/\rowRd mL (some (Addr.mk b 0 none)) ys/\(∀(u:Value),u∈ys->u.oneCell'=true)/\aa*8 <=
 140737488355328/\aa<=9223372036854775807/\∀(a':Option Addr) c' m',mL.le m'->rowRd m' a' (List.append xs ys)->Zae a2/\ai=ai/\nxI ap aj (yL::slice a' aa c'::a3) [] [slice a' aa c'] m') (∀b,lM (m'.add b [al])
 λmL=>m'.free b->(Tok.mk aq 1=Tok.mk ad 1\/ad=slice none 0 0\/ao < aa)/\∃(xs:List Value),∃(ys:List Value),xs.length=ak*1/\ys.length=1*1/\rowRd mL an xs/\rowRd mL (some (Addr.mk b 0 none)) ys/\(∀(u
 : Value),u∈ys->u.oneCell'=true)/\aa*8<=140737488355328/\aa<=9223372036854775807/\∀(a':Option Addr) c' m',mL.le m'->rowRd m' a' (List.append xs ys)->Zae a2/\ai=ai/\nxI ap aj (al::slice a' aa c'::a3) []
 [slice a' aa c'] m'))))) (∀b,lM (m'.add b [ad]) λmL=>m'.free b->(Tok.mk yL 1=Tok.mk ah 1\/ah=slice none 0 0\/c < af)/\∃(xs:List Value),∃(ys:List Value),xs.length=am*1/\ys.length=1*1/\rowRd mL a xs
 /\ rowRd mL (some (Addr.mk b 0 none)) ys/\(∀(u:Value),u∈ys->u.oneCell'=true)/\af*24<=140737488355328/\af<=9223372036854775807/\∀(a':Option Addr) c' m',mL.le m'->rowRd m' a' (List.append xs ys)->Zae xL/\
 nxI a1 I [al,slice a' af c',int i64 (i64.wrap (ae+1))] [] [slice a' af c'] m')))) (rtM m ac R ah)):CX Tryz.prog 72 #[.agg #[.int .i64 aA,.slice aM aK aN,.slice aJ aI aO]] m [] R:=
 Zad (E:=Zjj) Zam mix Tryz.func72 (by kernel_rfl) (Eq.mp (by kernel_rfl) h)
def ZrY:Env:={ EB with
 dr:=swI [] [(7,[⟨0,[3],[],none,[],[]⟩,⟨1,[3],[],none,[0],[]⟩,⟨2,[5],[],none,[],[]⟩,⟨3,[5],[],none,[2],[]⟩,dO 4 [0,1,2,3],dO 5 [0,1,2,3,4],dO 6 [0,1,2,3,4,5],⟨7,[5],[],none,[],[]⟩,⟨8,[5],[],none,[7],[]⟩,dO 9 [0,1,2,3,4,5,6,7,8],dO 10 [0,1,2,3,4,5,6,7,8,9],⟨11,[7],[7],none,[],[]⟩,⟨12,[7],[7],none,rg 0 12,[]⟩]),(9,[⟨0,[3],[],none,[],[]⟩,⟨1,[7],[],none,[],[]⟩,dO 2 [],⟨3,[5],[],none,[],[]⟩,⟨4,[5],[],none,[3],[]⟩,dO 5 [2,3,4],dO 6 [2,3,4,5],⟨7,[5],[],none,[],[]⟩,⟨8,[5],[],none,[7],[]⟩,dO 9 [2,3,4,5,6,7,8],dO 10 [2,3,4,5,6,7,8,9],dO 11 [0,1,2,3,4,5,6,7,8,9,10],dO 12 (rg 0 12)]),(11,[⟨0,[3],[],none,[],[]⟩,⟨1,[7],[],none,[],[]⟩,⟨2,[7],[],none,[],[]⟩,⟨3,[7],[],none,[2],[]⟩,⟨4,[5],[],none,[],[]⟩,⟨5,[5],[],none,[4],[]⟩,dO 6 [2,3,4,5],dO 7 [2,3,4,5,6],dO 8 [0,1,2,3,4,5,6,7],dO 9 [0,1,2,3,4,5,6,7,8]]),(12,[⟨0,[3],[],none,[],[]⟩,⟨1,[7],[],none,[],[]⟩,⟨2,[7],[],none,[],[]⟩,⟨3,[7],[],none,[2],[]⟩,⟨4,[5],[],none,[],[]⟩,⟨5,[5],[],none,[4],[]⟩,dO 6 [2,3,4,5],dO 7 [2,3,4,5,6],dO 8 [2,3,4,5,6,7],⟨9,[5],[],none,[],[]⟩,⟨10,[5],[],none,[9],[]⟩,dO 11 [0,1,2,3,4,5,6,7,8,9,10],dO 12 (rg 0 12)])]
 frzNew:=[3,5] }
theorem Zqo(aA:Int)(aM:Option Addr)(aK aN:Nat)(aJ:Option Addr)(aI aO:Nat)(p1a:Option Addr)(p1n p1c:Nat)(gG eY gO fL iW:Int)(m:Mem)(R:RT)(h:
 lV [int i64 iW] λxL=>lV [int i64 aA,slice aM aK aN,slice aJ aI aO] λad=>lX (agg (.mk ad)) λyL=>fzM m ad λb m'=>fzM m' (int i64 gG::int i64 eY::int i64 gO::int i64 fL::xL)
 λb m'=>br (decide (gG ≥ 0)) (kI pG 97 [yL,int i64 gG] m' λn m'=>rtM m m' R (int i64 n)) (br (decide (eY < 0)) (kI pG 98 [yL] m' λn m'=>rtM m m' R (int i64 n)) (br (decide (gO < 0)) (kI pG 99 [yL,int i64
 eY] m' λn m'=>rtM m m' R (int i64 n)) (atA aJ λb o=>Zag eY aI/\∃(v:Value),m' b (o+Int.toNat eY*2+1)=some v/\chk (Za8 v) (atA (slA v) λb o=>Zag gO (slN v)/\∃v ae af ag ah ai aj
 ak al am an ao ap ab aq ar:Value,lV [v,ae,af,ag,ah,ai,aj,ak,al,am,an,ao,ap,ab,aq,ar] λau=>lX (agg (.mk au)) λac=>m'.reads b (o+Int.toNat gO*16) au/\∀(b:Nat),chk (v.oneCell'&&(ae.oneCell' &&
 (af.oneCell'&&(ag.oneCell'&&(ah.oneCell'&&(ai.oneCell'&&(aj.oneCell'&&(ak.oneCell'&&(al.oneCell'&&(am.oneCell'&&(an.oneCell'&&(ao.oneCell'&&(ap.oneCell'&&(ab.oneCell'&&(aq.oneCell'&&(ar.oneCell' &&
 true)))))))))))))))) (br (decide (fL < 0)) (∃(f:Fx),atA p1a λb o=>Zag eY p1n/\∃(v:Value),m' b (o+Int.toNat eY*1)=some v/\chk (Za8 v) (atA (slA v) λb o=>Zag gO (slN v)/\∃(v:Value),m'
 b (o+Int.toNat gO*1)=some v/\∃R_1,R_1=f 11 [yL,ac,v] m'/\CX pG 100 (.mk [yL,ac,v]) m' [] R_1/\Za7 (.int i64) R_1/\∀n aa,m'.le aa->R_1 (int i64 n) aa []->∀M,m'.le M->aa.le M->rtM m M R (int i64 n))) (br
 (decide (iW < 0)) (∃(f:Fx),chk (Za8 ab) (atA (slA ab) λb o=>Zag fL (slN ab)/\∃v av aw ax ay az a0 a1:Value,lV [v,av,aw,ax,ay,az,a0,a1] λxL=>m'.reads b (o+Int.toNat fL*8) xL/\∃R_1,R_1=f
 8 [yL,ac,agg (.mk xL)] m'/\CX pG 101 (.mk [yL,ac,agg (.mk xL)]) m' [] R_1/\Za7 (.int i64) R_1/\∀n aa,m'.le aa->R_1 (int i64 n) aa []->∀M,m'.le M->aa.le M->rtM m M R (int i64 n))) (∃(f:Fx),chk (Za8 ab) (atA
 (slA ab) λb o=>Zag fL (slN ab)/\∃(v:Value),m' b (o+Int.toNat fL*8+2)=some v/\∃R_1,R_1=f 11 (yL::ac::v::xL) m'/\CX pG 102 (.mk (yL::ac::v::xL)) m' [] R_1/\Za7 (.int i64) R_1/\∀n aa,
 m'.le aa->R_1 (int i64 n) aa []->∀M,m'.le M->aa.le M->rtM m M R (int i64 n)))))))))):CX Tryz.prog 74 #[.agg #[.int .i64 aA,.slice aM aK aN,.slice aJ aI aO],.slice p1a p1n p1c,.agg #[.int .i64 gG,.int .i64 eY,.int .i64 gO,.int .i64 fL,.int .i64 iW]] m [] R:=
 Zad (E:=ZrY) Zam mix Tryz.func74 (by kernel_rfl) (Eq.mp (by kernel_rfl) h)
def ZgP:Env:={ EB with
 frzNew:=[1] }
theorem ZfU(aA:Int)(aM:Option Addr)(aK aN:Nat)(aJ:Option Addr)(aI aO:Nat)(m:Mem)(R:RT)(h:
 fzM m [int i64 aA,slice aM aK aN,slice aJ aI aO] λb m'=>rtM m m' R (func (Fn.func 71) (Array.mk []) (Array.mk [Value.pointer (some (Addr.mk b 0 none))]))):CX Tryz.prog 44 #[.agg #[.int .i64 aA,.slice aM aK aN,.slice aJ aI aO]] m [] R:=
 Zad (E:=ZgP) Zam mix Tryz.func44 (by kernel_rfl) (Eq.mp (by kernel_rfl) h)
def Ze7:Env:={ EB with
 loops:=swI nLa [(2,⟨[(12,.int .i64)],[],[],true⟩)] }
theorem ZeH(p0g:Nat)(p0fi p0ca:List Value)(c0b c0o:Nat)(m:Mem)(xs:List (List Value))(h:
 ∀(l:Nat),∃v v_1 v_2:Value,m.reads c0b c0o [v,v_1,v_2]/\kS pG 72 [agg (.mk [v,v_1,v_2])] m λa n c m'=>∃v v_3 v_4:Value,m'.reads c0b c0o [v,v_3,v_4]/\kS pG 73 [agg (.mk [v,v_3,v_4])] m' λa_1 n_1 c_1 m'
 => ∃I,inI I [int i64 0,int i64 0] [] [] m'/\∀y (n_2:Int) m'_1 (n_3:Nat),lV [int i64 (i64.wrap (n_2+1))] λxL=>m'.le m'_1->I [int i64 y,int i64 n_2] [] [] m'_1 n_3->br (decide (n_2 < (↑n_1:Int))) (atA a_1 λb
 o=>Zag n_2 n_1/\∃v v_5 v_6 v_7 v_8:Value,m'_1.reads b (o+Int.toNat n_2*5) [v,v_5,v_6,v_7,v_8]/\∀(b:Nat),chk (v.oneCell'&&(v_5.oneCell'&&(v_6.oneCell'&&(v_7.oneCell'&&(v_8.oneCell'&&true))))) (∃
 v_9 v_10 v_11:Value,m'_1.reads c0b c0o [v_9,v_10,v_11]/\kI pG 74 [agg (.mk [v_9,v_10,v_11]),slice a n c,agg (.mk [v,v_5,v_6,v_7,v_8])] m'_1 λn m'=>br (!n == 0) ((l=l/\(0:Int)<=y/\List.get?Internal xs
 (Int.toNat y)=some [agg (.mk [v,v_5,v_6,v_7,v_8,int i64 n])])/\nxI n_3 I (int i64 (y+1)::xL) [] [] m'/\((-1:Int)=(↑(xs.length):Int)\/(-1:Int)=(-1:Int))) (nxI n_3 I (int i64 y::xL) [] [] m'))) (y =
 (↑(xs.length):Int)\/y=(-1:Int))):IX Tryz.prog 71 [] [.pointer (some ⟨c0b,c0o,none⟩)] m xs:=
 Zhm (E:=Ze7) Zam mix Tryz.func71 _ _ _ (by kernel_rfl) (Eq.mp (by kernel_rfl) h)
def Zlf:Env:={ EB with
 loops:=swI nLa [(6,⟨[(13,.agg [.int .i64,.int .i64,.int .i64,.int .i64,.int .i64,.int .i64])],[2,3],[],false⟩)]
 dr:=swI [] [(6,[⟨0,[5],[],none,[],[]⟩,⟨1,[5],[],none,[0],[]⟩,⟨2,[5],[],none,[],[]⟩,⟨3,[5],[],none,[2],[]⟩,⟨4,[2],[2],none,[0,1],[]⟩,⟨5,[3],[3],none,[0,1,2,3,4],[]⟩])]
 frzNew:=[1] }
theorem Zjk(aA:Int)(aM:Option Addr)(aK aN:Nat)(aJ:Option Addr)(aI aO:Nat)(m:Mem)(R:RT)(h:
 lV [int i64 aA,slice aM aK aN,slice aJ aI aO] λxL=>fzM m xL λb m'=>∀b_1 b_2 b_3,kB pG 39 [agg (.mk xL)] m' λb_4 m'=>br (!b_4) (rtM m m' R (tuple (.mk [agg (.mk [int i64 (-1),int i64 (-1),
 int i64 (-1),int i64 (-1),int i64 (-1)]),int i64 5]))) (kF pG 44 [agg (.mk xL)] m' λg fi ca m'=>∃(xs:List (List Value)),IX pG g fi ca m' xs/\(∀(x:List Value),x∈xs->Shape.fitsL [.agg [.int i64,.int i64,.int
 i64,.int i64,.int i64,.int i64]] x=true)/\∃(I:IT),I [] [[int i64 0,int i64 0,int i64 0,int i64 0,int i64 0],[int i64 0]] [] m' 0/\(∀n n_1 n_2 n_3 n_4 n_5 (cs cs_1:List Value) m'_1 (n_6:Nat),m'.le m'_1->
 List.get?Internal xs n_6=some [agg (.mk [int i64 n,int i64 n_1,int i64 n_2,int i64 n_3,int i64 n_4,int i64 n_5])]->I [] [cs,cs_1] [] m'_1 n_6->∀(b_5:Nat),Zae [some (Box.mk b_3 [int i64 (-1),int i64 (-1),int i64
 (-1),int i64 (-1),int i64 (-1)] 64 5 false true),some (Box.mk b_2 [] 58 1 false true),some (Box.mk b_1 [] 64 5 false true),some (Box.mk b xL 30 3 true true)]/\rtM m m'_1 R (tuple (.mk [agg (.mk [int i64 n,int i64 n_1,int
 i64 n_2,int i64 n_3,int i64 n_4]),int i64 n_5])))/\∀(cs cs_1:List Value) m'_1,m'.le m'_1->I [] [cs,cs_1] [] m'_1 (xs.length)->rtM m m'_1 R (tuple (.mk [agg (.mk [int i64 (-1),int i64 (-1),int i64 (-1),int i64 (-1),
 int i64 (-1)]),int i64 0])))):CX Tryz.prog 20 #[.agg #[.int .i64 aA,.slice aM aK aN,.slice aJ aI aO]] m [] R:=
 Zad (E:=Zlf) Zam mix Tryz.func20 (by kernel_rfl) (Eq.mp (by kernel_rfl) h)
def Zlg:Env:={ EB with
 frzNew:=[1] }
theorem Zjl(aA:Int)(aM:Option Addr)(aK aN:Nat)(aJ:Option Addr)(aI aO:Nat)(m:Mem)(R:RT)(h:
 lV [int i64 aA,slice aM aK aN,slice aJ aI aO] λxL=>fzM m xL λb m'=>∃R_1,True/\CX pG 20 (.mk [agg (.mk xL)]) m' [] R_1/\Za7 (.tup [.agg [.int i64,.int i64,.int i64,.int i64,.int i64],.int
 i64]) R_1/\∀n n_1 n_2 n_3 n_4 n_5 m'_1,m'.le m'_1->R_1 (tuple (.mk [agg (.mk [int i64 n,int i64 n_1,int i64 n_2,int i64 n_3,int i64 n_4]),int i64 n_5])) m'_1 []->∀(b:Nat),rtM m m'_1 R (bool (n_5 == 0))):CX Tryz.prog 22 #[.agg #[.int .i64 aA,.slice aM aK aN,.slice aJ aI aO]] m [] R:=
 Zad (E:=Zlg) Zam mix Tryz.func22 (by kernel_rfl) (Eq.mp (by kernel_rfl) h)
def ZnF:Env:={ EB with
 joins:=swI none [(4,some [(8,.bool)])] }
theorem Zlh(p0:Int)(m:Mem)(R:RT)(h:
 ∀b,lE (i64.wrap (p0 - (300:Int))) λyL=>lE [some (Box.mk b [string (.mk (.mk [98,117,102,102,101,114])),string (.mk (.mk [118,97,114,105,97,98,108,101])),string (.mk (.mk [115,116,97,116,101,115])),
 string (.mk (.mk [115,116,97,116,101])),string (.mk (.mk [114,117,108,101])),string (.mk (.mk [114,101,103,101,120])),string (.mk (.mk [101,110,100])),string (.mk (.mk [97,99,116,105,111,110])),string (.mk
 (.mk [110,97,109,101])),string (.mk (.mk [99,97,112,116,117,114,101]))] 9 10 true true)] λxL=>lM (m.add b [string (.mk (.mk [98,117,102,102,101,114])),string (.mk (.mk [118,97,114,105,97,98,108,101])),
 string (.mk (.mk [115,116,97,116,101,115])),string (.mk (.mk [115,116,97,116,101])),string (.mk (.mk [114,117,108,101])),string (.mk (.mk [114,101,103,101,120])),string (.mk (.mk [101,110,100])),string (.mk
 (.mk [97,99,116,105,111,110])),string (.mk (.mk [110,97,109,101])),string (.mk (.mk [99,97,112,116,117,114,101]))]) λmL=>m.free b->br (p0 == 5) (rtM m mL R (string (.mk (.mk [108,111,110,103])))) (∃(b:
 Bool),br (decide (p0 ≥ 300)) (Zae xL/\[bool (decide (p0<=309))]=[bool b]) (Zae xL/\[bool false]=[bool b])/\br b (Zag yL 10/\Eng.ZvD [string (.mk (.mk [98,117,102,102,101,114])),string (.mk (.mk [118,97,
 114,105,97,98,108,101])),string (.mk (.mk [115,116,97,116,101,115])),string (.mk (.mk [115,116,97,116,101])),string (.mk (.mk [114,117,108,101])),string (.mk (.mk [114,101,103,101,120])),string (.mk (.mk
 [101,110,100])),string (.mk (.mk [97,99,116,105,111,110])),string (.mk (.mk [110,97,109,101])),string (.mk (.mk [99,97,112,116,117,114,101]))] (Int.toNat yL*1) λv=>rtM m mL R v) (rtM m mL R (string bE0)))):CX Tryz.prog 31 #[.int .i64 p0] m [] R:=
 Zad (E:=ZnF) Zam mix Tryz.func31 (by kernel_rfl) (Eq.mp (by kernel_rfl) h)
end Go.Proofs.YtdopppmkbkkmiaaGreatDoor
end
