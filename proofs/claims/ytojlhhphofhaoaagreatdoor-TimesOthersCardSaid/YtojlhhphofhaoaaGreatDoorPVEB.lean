/- Part of the proof: functions of the program. No condition. -/
import Derived.Test.YtojlhhphofhaoaaGreatDoorPEnv
set_option linter.unusedVariables false
set_option linter.unusedSimpArgs false
set_option linter.unusedSectionVars false
noncomputable section
namespace Go.Proofs.YtojlhhphofhaoaaGreatDoor
open Go Go.Eng Go.Proofs Go.RowKit
open Go.Value (int slice agg bool string tuple func)
open Go.IntKind (u8 u64 i64)
set_option maxRecDepth 100000
def ZoW:Env:={ EB with
 frzNew:=[1] }
theorem Zmz(aA:Int)(aC:Value)(aD:ByteArray)(aE:Int)(aY:Option Addr)(aV bA:Nat)(m:Mem)(R:RT)(h:
 lV [int u8 aA,aC,string aD,int i64 aE,slice aY aV bA] λxL=>fzM m xL λb m'=>kB Tryz.prog 95 [agg (Array.mk xL)] m' λb m'=>br (!b) (rtM m m' R (int i64 20001)) (kI Tryz.prog 107 [agg
 (Array.mk xL)] m' λn m'=>rtM m m' R (int i64 n))):CX Tryz.prog 70 #[.agg #[.int .u8 aA,aC,.string aD,.int .i64 aE,.slice aY aV bA]] m [] R:=
 Zae (E:=ZoW) Zal mix Tryz.func70 [.v (.agg #[.int .u8 aA,aC,.string aD,.int .i64 aE,.slice aY aV bA])] [] (by kernel_rfl) (Eq.mp (by kernel_rfl) h)
def ZoX:Env:={ EB with
 loops:=(λi=>bif Nat.beq i 3 then⟨[(3,.int .i64),(22,.int .i64)],[],[],false⟩ else bif Nat.beq i 6 then⟨[(3,.int .i64),(29,.int .i64)],[],[],false⟩ else bif Nat.beq i 12 then⟨[(3,.int .i64),(49,.int .i64)],[],[],false⟩ else bif Nat.beq i 16 then⟨[(3,.int .i64),(66,.int .i64)],[],[],false⟩ else⟨[],[],[],false⟩)
 dr:=(λi=>bif Nat.beq i 14 then[⟨0,[],[],none,[],[]⟩,⟨1,[9],[],none,[],[]⟩,⟨2,[9],[],none,[1],[]⟩,⟨3,[],[],none,[1,2],[]⟩,⟨4,[],[],none,[1,2,3],[]⟩,⟨5,[9],[],none,[],[]⟩,⟨6,[9],[],none,[5],[]⟩,⟨7,[],[],none,[5,6],[]⟩,⟨8,[],[],none,[1,2,3,4,5,6,7],[]⟩,⟨9,[],[],none,[0,1,2,3,4,5,6,7,8],[]⟩,⟨10,[],[],none,[0,1,2,3,4,5,6,7,8,9],[]⟩]else[])
 frzNew:=[1]
 cuts:=(λi=>bif Nat.beq i 11 then some ⟨[(3,.int .i64)],[],[],false⟩ else none) }
theorem ZmA(aA:Int)(aH:Option Addr)(aF aI:Nat)(aJ:Option Addr)(aG aK:Nat)(m:Mem)(R:RT)(h:
 lV [int i64 aA,slice aH aF aI,slice aJ aG aK] λxL=>fzM m xL λb m'=>∃(I:IT),lE [some (Box.mk b xL 30 3 true true)] λxL=>inI I [int i64 (i64.wrap ((↑aF:Int)+(↑aG
 : Int))),int i64 0] [] [] m'/\∀(n ae:Int)(ad:Mem)(a3:Nat),m'.le ad->I [int i64 n,int i64 ae] [] [] ad a3->br (decide (ae < (↑aG:Int))) (atA aJ λb o=>Zag ae aG/\∃v ab:Value,lV [v,ab] λa4=>ad.reads b (o+Int.toNat ae*2) a4/\∀(b:Nat),lE (some (Box.mk b a4 42 2 false true)::xL) λa5=>chk (v.oneCell'&&(ab.oneCell'&&true)) (chk (Zbd ab) (∃
 (ak:IT),inI ak [int i64 n,int i64 0] [] [] ad/\∀(n af:Int)(m':Mem)(a6:Nat),ad.le m'->ak [int i64 n,int i64 af] [] [] m' a6->br (decide (af < (↑(slN ab):Int))) (chk (Zbd ab) (atA (slA ab) λb o
 => Zag af (slN ab)/\∃v a7 a8 al am an ao ap aq ar au a9 ba ac bb bc:Value,lV [agg (Array.mk [al,am,an,ao,ap,aq,ar,au])] λxL=>lV [v,a7,a8,al,am,an,ao,ap,aq,ar,au,a9,ba,ac,bb,bc] λbd=>m'.reads b (o
 + Int.toNat af*16) bd/\∀(b:Nat),lE (some (Box.mk b bd 57 16 false true)::a5) λai=>chk (v.oneCell'&&(a7.oneCell'&&(a8.oneCell'&&(al.oneCell'&&(am.oneCell' &&
 (an.oneCell'&&(ao.oneCell'&&(ap.oneCell'&&(aq.oneCell'&&(ar.oneCell'&&(au.oneCell'&&(a9.oneCell'&&(ba.oneCell'&&(ac.oneCell'&&(bb.oneCell' &&
 (bc.oneCell'&&true)))))))))))))))) (kI Tryz.prog 60 xL m' λbe m'=>∃(J:JT),(kB Tryz.prog 69 xL m' λb m'=>br (!b) (Zad ai/\J [int i64 20001] [] [] m') (Zad ai/\J [int i64 (i64.wrap (n
 + i64.wrap ((1:Int)+if(20000:Int) < be then(20000:Int)else be)))] [] [] m'))/\∀(n:Int)(aj:Mem),m'.le aj->J [int i64 n] [] [] aj->chk (Zbd ac) (∃(I:IT),inI I [int i64 n,int i64 0]
 [] [] aj/\∀(n ag:Int)(m':Mem)(bf:Nat),aj.le m'->I [int i64 n,int i64 ag] [] [] m' bf->br (decide (ag < (↑(slN ac):Int))) (chk (Zbd ac) (atA (slA ac) λb o=>Zag ag (slN ac)/\∃v av aa bg bh bi bj bk:Value,lV [bg,bh,bi,bj,bk] λxL=>m'.reads b (o+Int.toNat ag*8) (v::av::aa::xL)/\∀(b:Nat),
 chk (v.oneCell'&&(av.oneCell'&&(aa.oneCell'&&(bg.oneCell'&&(bh.oneCell'&&(bi.oneCell'&&(bj.oneCell'&&(bk.oneCell'&&true)))))))) (∃(f:Fx),∃(R_1:RT),
 R_1=f 3 [agg (Array.mk xL)] m'/\CX Tryz.prog 70 (Array.mk [agg (Array.mk xL)]) m' [] R_1/\Za1 (Shape.int i64) R_1/\∀(bl:Int)(aw:Mem),m'.le aw->R_1 (int i64 bl) aw []->chk (Zbd aa) (∀(M:Mem),
 m'.le M->aw.le M->chk (Zbd aa) (∃(ax:IT),inI ax [int i64 (i64.wrap (n+i64.wrap (i64.wrap ((1:Int)+bl)+(↑(slN aa):Int)))),int i64 0] [] [] M/\∀(n ah:Int)(m':Mem)
 (bm:Nat),M.le m'->ax [int i64 n,int i64 ah] [] [] m' bm->br (decide (ah < (↑(slN aa):Int))) (chk (Zbd aa) (atA (slA aa) λbq o=>Zag ah (slN aa)/\∃bn bo bp ay az a0 a1 a2:Value,m'.reads bq (o+Int.toNat ah*8) [bn,bo,bp,ay,az,a0,a1,a2]/\∀(bt:Nat),chk (bn.oneCell'&&(bo.oneCell' &&
 (bp.oneCell'&&(ay.oneCell'&&(az.oneCell'&&(a0.oneCell'&&(a1.oneCell'&&(a2.oneCell'&&true)))))))) (br (decide (n > (20000:Int))) (rtM m m' R (bool (decide (n<=(20000:
 Int))))) (kI Tryz.prog 70 [agg (Array.mk [ay,az,a0,a1,a2])] m' λbs m'=>Zad (some (Box.mk b (v::av::aa::xL) 141 8 false true)::ai)/\nxI bm ax [int i64 (i64.wrap (n+bs)),int i64
 (i64.wrap (ah+(1:Int)))] [] [] m')))) (Zad ai/\nxI bf I [int i64 n,int i64 (i64.wrap (ag+(1:Int)))] [] [] m')))))) (br (decide (n > (20000:Int))) (rtM m m' R (bool (decide (n<=(20000:
 Int))))) (Zad a5/\nxI a6 ak [int i64 n,int i64 (i64.wrap (af+(1:Int)))] [] [] m')))))) (Zad xL/\nxI a3 I [int i64 n,int i64 (i64.wrap (ae+(1:Int)))] [] [] m')))) (rtM m ad R (bool
 (decide (n<=(20000:Int)))))):CX Tryz.prog 38 #[.agg #[.int .i64 aA,.slice aH aF aI,.slice aJ aG aK]] m [] R:=
 Zae (E:=ZoX) Zal mix Tryz.func38 [.v (.agg #[.int .i64 aA,.slice aH aF aI,.slice aJ aG aK])] [] (by kernel_rfl) (Eq.mp (by kernel_rfl) h)
def ZmB:Env:={ EB with
 frzNew:=[2] }
theorem Zkr(aA:ByteArray)(aH:Option Addr)(aF aI c0b c0o:Nat)(m:Mem)(R:RT)(h:
 fzM m [string aA,slice aH aF aI] λb m'=>∃(v:Value),m' c0b c0o=some v/\chk (ZgC v) (rtM m m' R (bool (ByteArray.toList aA == ByteArray.toList (Zcl v))))):CX Tryz.prog 183 #[.agg #[.string aA,.slice aH aF aI],.pointer (some ⟨c0b,c0o,none⟩)] m [] R:=
 Zae (E:=ZmB) Zal mix Tryz.func183 [.v (.agg #[.string aA,.slice aH aF aI]),.v (.pointer (some ⟨c0b,c0o,none⟩))] [] (by kernel_rfl) (Eq.mp (by kernel_rfl) h)
def Za4:Env:={ EB with
 loops:=(λi=>bif Nat.beq i 2 then⟨[(8,.int .i64)],[],[],false⟩ else⟨[],[],[],false⟩) }
theorem Za0(p0a:Option Addr)(p0n p0c p1g:Nat)(p1fi p1ca:List Value)(m:Mem)(R:RT)(h:
 ∃(I:IT),inI I [int i64 0] [] [] m/\∀(n:Int)(m':Mem)(n_1:Nat),m.le m'->I [int i64 n] [] [] m' n_1->br (decide (n < (↑p0n:Int))) (atA p0a λb o=>Zag n p0n/\∃v v_1:Value,m'.reads b (o+Int.toNat n*2) [v,v_1]/\kB Tryz.prog p1g (List.append (List.append p1fi [agg (Array.mk [v,v_1])]) p1ca) m' λb m'=>br b (rtM m m' R (int i64 n)) (nxI n_1 I [int i64 (i64.wrap (n+(1
 : Int)))] [] [] m')) (rtM m m' R (int i64 (-1:Int)))):CX Tryz.prog 179 #[.slice p0a p0n p0c,.func (.func p1g) p1fi.toArray p1ca.toArray] m [] R:=
 Zae (E:=Za4) Zal mix Tryz.func179 [.v (.slice p0a p0n p0c),.v (.func (.func p1g) p1fi.toArray p1ca.toArray)] [] (by kernel_rfl) (Eq.mp (by kernel_rfl) h)
def ZaV:Env:=EB
theorem ZaT(p0a:Option Addr)(p0n p0c p1g:Nat)(p1fi p1ca:List Value)(m:Mem)(R:RT)(h:
 kI Tryz.prog 179 [slice p0a p0n p0c,func (Fn.func p1g) (Array.mk p1fi) (Array.mk p1ca)] m λn m'=>rtM m m' R (bool (decide (n ≥ (0:Int))))):CX Tryz.prog 154 #[.slice p0a p0n p0c,.func (.func p1g) p1fi.toArray p1ca.toArray] m [] R:=
 Zae (E:=ZaV) Zal mix Tryz.func154 [.v (.slice p0a p0n p0c),.v (.func (.func p1g) p1fi.toArray p1ca.toArray)] [] (by kernel_rfl) (Eq.mp (by kernel_rfl) h)
def Zbs:Env:={ EB with
 loops:=(λi=>bif Nat.beq i 2 then⟨[(8,.int .i64)],[],[],false⟩ else⟨[],[],[],false⟩) }
theorem Zbn(p0a:Option Addr)(p0n p0c p1g:Nat)(p1fi p1ca:List Value)(m:Mem)(R:RT)(h:
 ∃(I:IT),inI I [int i64 0] [] [] m/\∀(n:Int)(m':Mem)(n_1:Nat),m.le m'->I [int i64 n] [] [] m' n_1->br (decide (n < (↑p0n:Int))) (atA p0a λb o=>Zag n p0n/\∃v v_1 v_2 v_3:Value,m'.reads b (o+Int.toNat n*4) [v,v_1,v_2,v_3]/\kB Tryz.prog p1g (List.append (List.append p1fi [agg (Array.mk [v,v_1,v_2,v_3])]) p1ca) m' λb m'=>br b (rtM m m' R (int
 i64 n)) (nxI n_1 I [int i64 (i64.wrap (n+(1:Int)))] [] [] m')) (rtM m m' R (int i64 (-1:Int)))):CX Tryz.prog 178 #[.slice p0a p0n p0c,.func (.func p1g) p1fi.toArray p1ca.toArray] m [] R:=
 Zae (E:=Zbs) Zal mix Tryz.func178 [.v (.slice p0a p0n p0c),.v (.func (.func p1g) p1fi.toArray p1ca.toArray)] [] (by kernel_rfl) (Eq.mp (by kernel_rfl) h)
def Zba:Env:=EB
theorem Za5(p0a:Option Addr)(p0n p0c p1g:Nat)(p1fi p1ca:List Value)(m:Mem)(R:RT)(h:
 kI Tryz.prog 178 [slice p0a p0n p0c,func (Fn.func p1g) (Array.mk p1fi) (Array.mk p1ca)] m λn m'=>rtM m m' R (bool (decide (n ≥ (0:Int))))):CX Tryz.prog 148 #[.slice p0a p0n p0c,.func (.func p1g) p1fi.toArray p1ca.toArray] m [] R:=
 Zae (E:=Zba) Zal mix Tryz.func148 [.v (.slice p0a p0n p0c),.v (.func (.func p1g) p1fi.toArray p1ca.toArray)] [] (by kernel_rfl) (Eq.mp (by kernel_rfl) h)
def ZqI:Env:={ EB with
 joins:=(λi=>bif Nat.beq i 2 then some [(17,.bool)]else none)
 frzNew:=[2,3] }
theorem ZoY(aA:Int)(aH:Option Addr)(aF aI:Nat)(aJ:Option Addr)(aG aK:Nat)(p1:ByteArray)(m:Mem)(R:RT)(h:
 lV [int i64 aA,slice aH aF aI,slice aJ aG aK] λxL=>fzM m xL λb m'=>lE [some (Box.mk b xL 30 3 true true)] λxL_1=>fzM m' [string p1] λb m'=>lE (some (Box.mk b [string p1] 9 1
 true true)::xL_1) λxL_2=>kI Tryz.prog 179 [slice aJ aG aK,func (Fn.func 183) (Array.mk []) (Array.mk [Value.pointer (some (Addr.mk b 0 none))])] m' λn m'=>∃(b:Bool),br (decide (n < (0:Int)))
 (Zad xL_2/\[bool true]=[bool b]) (kB Tryz.prog 38 [agg (Array.mk xL)] m' λb_1 m'=>Zad xL_2/\[bool !b_1]=[bool b])/\br b (rtM m m' R (tuple (Array.mk [int i64 0,bool false]))) (rtM m m' R (tuple
 (Array.mk [int i64 n,bool true])))):CX Tryz.prog 161 #[.agg #[.int .i64 aA,.slice aH aF aI,.slice aJ aG aK],.string p1] m [] R:=
 Zae (E:=ZqI) Zal mix Tryz.func161 [.v (.agg #[.int .i64 aA,.slice aH aF aI,.slice aJ aG aK]),.v (.string p1)] [] (by kernel_rfl) (Eq.mp (by kernel_rfl) h)
def ZmC:Env:={ EB with
 loops:=(λi=>bif Nat.beq i 5 then⟨[(3,.slice),(20,.int .i64)],[],[(27,5)],false⟩ else bif Nat.beq i 10 then⟨[(3,.slice),(32,.int .i64)],[],[(27,5)],false⟩ else bif Nat.beq i 14 then⟨[(3,.slice),(45,.int .i64)],[],[(27,5)],false⟩ else bif Nat.beq i 18 then⟨[(3,.slice),(59,.int .i64)],[],[(27,5)],false⟩ else bif Nat.beq i 22 then⟨[(3,.slice),(74,.int .i64)],[],[(27,5)],false⟩ else⟨[],[],[],false⟩)
 tokOf:=(λi=>bif Nat.beq i 27 then 27 else bif Nat.beq i 41 then 27 else bif Nat.beq i 55 then 27 else bif Nat.beq i 70 then 27 else bif Nat.beq i 84 then 27 else 0)
 frzNew:=[1] }
theorem Zks(aA:Int)(aH:Option Addr)(aF aI:Nat)(aJ:Option Addr)(aG aK:Nat)(m:Mem)(R:RT)(h:
 lV [int i64 aA,slice aH aF aI,slice aJ aG aK] λxL=>fzM m xL λb m'=>lE [some (Box.mk b xL 30 3 true true)] λcd=>kB Tryz.prog 38 [agg (Array.mk xL)] m' λb m'=>br (!b) (rtM m m' R
 (slice none 0 0)) (∀(b:Nat),lM (m'.add b [int i64 (-1:Int),int i64 (-1:Int),int i64 (-1:Int),int i64 (-1:Int),int i64 (-1:Int)]) λmL=>lE (some (Box.mk b [int i64 (-1:Int),int i64 (-1:
 Int),int i64 (-1:Int),int i64 (-1:Int),int i64 (-1:Int)] 119 5 true true)::cd) λxL=>m'.free b->∃(I:IT),inI I [slice (some (Addr.mk b 0 none)) 1 1,int i64 0] [] [slice none 0 0] mL/\∀(a:
 Option Addr) (n c:Nat) (ap:Int) (ce:Option Addr) (cf cg:Nat) (m':Mem) (a4:Nat),lX (slice ce cf cg) λyL=>lX (slice a n c) λaq=>lE (n+1) λaf=>lV [int i64 ap,int i64 (-1:Int),int i64 (-1:
 Int),int i64 (-1:Int),int i64 (-1:Int)] λch=>mL.le m'->I [aq,int i64 ap] [] [yL] m' a4->br (decide (ap < (↑aF:Int))) (∀(b:Nat),lM (m'.add b ch) λmL=>m'.free b->(Tok.mk yL 5 =
 Tok.mk aq 5\/aq=slice none 0 0\/c < af)/\∃(xs:List Value),∃(ys:List Value),xs.length=n*5/\ys.length=1*5/\rowRd mL a xs/\rowRd mL (some (Addr.mk b 0 none)) ys/\(∀(u:Value),u∈ys->
 u.oneCell'=true)/\af*40<=140737488355328/\af<=9223372036854775807/\∀(a':Option Addr)(c':Nat)(m':Mem),mL.le m'->rowRd m' a' (List.append xs ys)->Zad xL/\nxI a4 I [slice a' af c',int
 i64 (i64.wrap (ap+(1:Int)))] [] [slice a' af c'] m') (∃(I:IT),inI I [aq,int i64 0] [] [yL] m'/\∀(a:Option Addr)(n c:Nat)(ag:Int)(a5:Option Addr)(a6 a7:Nat)(ac:Mem)(a8:Nat),lX
 (slice a n c) λyL=>lE (n+1) λah=>lX (int i64 ag) λai=>lV [int i64 (-1:Int),ai,int i64 (-1:Int),int i64 (-1:Int),int i64 (-1:Int)] λa9=>m'.le ac->I [yL,ai] [] [slice a5 a6 a7] ac
 a8->br (decide (ag < (↑aG:Int))) (atA aJ λb o=>Zag ag aG/\∃v aa:Value,ac.reads b (o+Int.toNat ag*2) [v,aa]/\∀(b:Nat),lE (some (Box.mk b [v,aa] 42 2 false true) ::
 xL) λci=>chk (v.oneCell'&&(aa.oneCell'&&true)) (∀(b:Nat),lM (ac.add b a9) λmL=>lE (some (Box.mk b a9 119 5 true true)::ci) λba=>ac.free b->(Tok.mk (slice a5 a6 a7) 5 =
 Tok.mk yL 5\/yL=slice none 0 0\/c < ah)/\∃(xs:List Value),∃(ys:List Value),xs.length=n*5/\ys.length=1*5/\rowRd mL a xs/\rowRd mL (some (Addr.mk b 0 none)) ys/\(∀(u:Value),u∈ys->
 u.oneCell'=true)/\ah*40<=140737488355328/\ah<=9223372036854775807/\∀(a':Option Addr)(c':Nat)(m':Mem),mL.le m'->rowRd m' a' (List.append xs ys)->chk (Zbd aa) (∃(a0:IT),inI a0 [slice a'
 ah c',int i64 0] [] [slice a' ah c'] m'/\∀(a:Option Addr)(n c:Nat)(aj:Int)(cj:Option Addr)(ck cl:Nat)(ad:Mem)(bb:Nat),lX (slice cj ck cl) λyL=>lX (slice a n c) λar=>lE (n+1) λak=>
 lX (int i64 aj) λau=>lV [int i64 (-1:Int),ai,au,int i64 (-1:Int),int i64 (-1:Int)] λbc=>m'.le ad->a0 [ar,au] [] [yL] ad bb->br (decide (aj < (↑(slN aa):Int))) (chk (Zbd aa) (atA (slA aa)
 λb o=>Zag aj (slN aa)/\∃v bd be bf bg bh bi bj bk bl bm bn bo ab bp bq:Value,lV [v,bd,be,bf,bg,bh,bi,bj,bk,bl,bm,bn,bo,ab,bp,bq] λxL=>ad.reads b (o+Int.toNat aj*16) xL/\∀(b:Nat),lE (some
 (Box.mk b xL 57 16 false true)::ba) λxL=>chk (v.oneCell'&&(bd.oneCell'&&(be.oneCell'&&(bf.oneCell'&&(bg.oneCell'&&(bh.oneCell'&&(bi.oneCell' &&
 (bj.oneCell'&&(bk.oneCell'&&(bl.oneCell'&&(bm.oneCell'&&(bn.oneCell'&&(bo.oneCell'&&(ab.oneCell'&&(bp.oneCell'&&(bq.oneCell'&&true))))))))))))))))
 (∀(b:Nat),lM (ad.add b bc) λmL=>lE (some (Box.mk b bc 119 5 true true)::xL) λxL=>ad.free b->(Tok.mk yL 5=Tok.mk ar 5\/ar=slice none 0 0\/c < ak)/\∃(xs:List Value),∃(ys:List Value),
 xs.length=n*5/\ys.length=1*5/\rowRd mL a xs/\rowRd mL (some (Addr.mk b 0 none)) ys/\(∀(u:Value),u∈ys->u.oneCell'=true)/\ak*40<=140737488355328/\ak<=9223372036854775807/\∀(a'
 : Option Addr) (c':Nat) (m':Mem),mL.le m'->rowRd m' a' (List.append xs ys)->chk (Zbd ab) (∃(I:IT),inI I [slice a' ak c',int i64 0] [] [slice a' ak c'] m'/\∀(a:Option Addr)(n c:Nat)(al:Int) (cm
 : Option Addr) (cn co:Nat) (ae:Mem) (bs:Nat),lX (slice cm cn co) λyL=>lX (slice a n c) λav=>lE (n+1) λam=>lX (int i64 al) λa1=>lV [int i64 (-1:Int),ai,au,a1,int i64 (-1:Int)] λbt
 => m'.le ae->I [av,a1] [] [yL] ae bs->br (decide (al < (↑(slN ab):Int))) (chk (Zbd ab) (atA (slA ab) λb o=>Zag al (slN ab)/\∃v bu aw bv bw bx bz ca:Value,lV [v,bu,aw,bv,bw,bx,bz,ca] λcb=>ae.reads b (o+Int.toNat al*8) cb/\∀(b:Nat),chk (v.oneCell'&&(bu.oneCell'&&(aw.oneCell'&&(bv.oneCell'&&(bw.oneCell'&&(bx.oneCell'&&(bz.oneCell'&&(ca.oneCell'&&true)))))))) (∀(ax:Nat),lM (ae.add ax bt) λmL=>ae.free ax->(Tok.mk yL 5=Tok.mk av 5
 \/ av=slice none 0 0\/c < am)/\∃(xs:List Value),∃(ys:List Value),xs.length=n*5/\ys.length=1*5/\rowRd mL a xs/\rowRd mL (some (Addr.mk ax 0 none)) ys/\(∀(u:Value),u∈ys->
 u.oneCell'=true)/\am*40<=140737488355328/\am<=9223372036854775807/\∀(a':Option Addr)(c':Nat)(m':Mem),mL.le m'->rowRd m' a' (List.append xs ys)->chk (Zbd aw) (∃(a2:IT),inI a2 [slice a'
 am c',int i64 0] [] [slice a' am c'] m'/\∀(a:Option Addr)(n c:Nat)(ay:Int)(cp:Option Addr)(cq cr:Nat)(an:Mem)(cc:Nat),lX (slice cp cq cr) λyL=>lX (slice a n c) λaz=>lE (n+1) λao=>
 lV [int i64 (-1:Int),ai,au,a1,int i64 ay] λcs=>m'.le an->a2 [az,int i64 ay] [] [yL] an cc->br (decide (ay < (↑(slN aw):Int))) (∀(a3:Nat),lM (an.add a3 cs) λmL=>an.free a3->(Tok.mk
 yL 5=Tok.mk az 5\/az=slice none 0 0\/c < ao)/\∃(xs:List Value),∃(ys:List Value),xs.length=n*5/\ys.length=1*5/\rowRd mL a xs/\rowRd mL (some (Addr.mk a3 0 none)) ys/\(∀(u:Value),u
 ∈ ys->u.oneCell'=true)/\ao*40<=140737488355328/\ao<=9223372036854775807/\∀(a':Option Addr)(c':Nat)(m':Mem),mL.le m'->rowRd m' a' (List.append xs ys)->Zad (some (Box.mk ax bt 119 5 true
 true)::some (Box.mk b cb 141 8 false true)::xL)/\([none,none,none,none,none,none,none]:List (Option Tok))=[none,none,none,none,none,none,none]/\nxI cc a2 [slice a' ao c',int i64 (i64.wrap
 (ay+(1:Int)))] [] [slice a' ao c'] m') (Zad xL/\([none,none,none,none,none]:List (Option Tok))=[none,none,none,none,none]/\nxI bs I [az,int i64 (i64.wrap (al+(1:Int)))] [] [yL] an)))))
 (Zad ba/\([none,none,none]:List (Option Tok))=[none,none,none]/\nxI bb a0 [av,int i64 (i64.wrap (aj+(1:Int)))] [] [yL] ae))))) (Zad xL/\([none]:List (Option Tok))=[none]/\nxI a8 I [ar,
 int i64 (i64.wrap (ag+(1:Int)))] [] [yL] ad)))) (rtM m ac R yL)))):CX Tryz.prog 118 #[.agg #[.int .i64 aA,.slice aH aF aI,.slice aJ aG aK]] m [] R:=
 Zae (E:=ZmC) Zal mix Tryz.func118 [.v (.agg #[.int .i64 aA,.slice aH aF aI,.slice aJ aG aK])] [] (by kernel_rfl) (Eq.mp (by kernel_rfl) h)
def ZmD:Env:={ EB with
 joins:=(λi=>bif Nat.beq i 2 then some [(2,.bool)]else bif Nat.beq i 3 then some [(2,.bool)]else none)
 frzNew:=[1]
 exv:=(λi=>bif Nat.beq i 15 then true else false) }
theorem Zkt(aA:Bool)(aC:ByteArray)(aD:Value)(m:Mem)(R:RT)(h:
 lV [bool aA,string aC,aD] λxL=>fzM m xL λb m'=>lE [some (Box.mk b xL 89 3 true true)] λxL=>br aA (∃(b:Bool),(kB Tryz.prog 177 [aD] m' λb_1 m'=>br b_1 (Zad xL/\[bool
 (ByteArray.toList aC == ByteArray.toList bE0)]=[bool b]) (Zad xL/\[bool false]=[bool b]))/\rtM m m' R (bool b)) (∃(b:Bool),(∃(v:Value),ZnJ Tryz.prog 120 [aD] v/\chk
 (ZaO u64 v&&decide (u64=u64)) (br (intOf v == (0:Int)) (Zad xL/\[bool (decide ((↑(ByteArray.size aC):Int)<=(512:Int)))]=[bool b]) (Zad xL/\[bool false]=[bool b])))/\rtM m m' R (bool
 b))):CX Tryz.prog 147 #[.agg #[.bool aA,.string aC,aD]] m [] R:=
 Zae (E:=ZmD) Zal mix Tryz.func147 [.v (.agg #[.bool aA,.string aC,aD])] [] (by kernel_rfl) (Eq.mp (by kernel_rfl) h)
def Zdd:Env:={ EB with
 joins:=(λi=>bif Nat.beq i 1 then some [(3,.bool)]else none)
 frzNew:=[2] }
theorem Zc7(aA:Int)(aC:ByteArray)(aD aE:Int)(aU:Value)(aT:ByteArray)(aS:Int)(aQ:Option Addr)(aP aR c0b c0o:Nat)(m:Mem)(R:RT)(h:
 lV [int u8 aA,string aC,int i64 aD,int u8 aE,aU,string aT,int i64 aS,slice aQ aP aR] λxL=>fzM m xL λb m'=>∃(b_1:Bool),lV [bool b_1] λxL_1=>lE [some (Box.mk b xL 143 8
 true true)] λxL=>(∃(v:Value),m' c0b (c0o+1)=some v/\chk (ZgC v&&true) (br (ByteArray.toList (Zcl v) == ByteArray.toList aC) (∃(v:Value),m' c0b (c0o+2)=some v/\chk (ZaO i64 v&&decide
 (i64=i64)) (br (intOf v == aD) (br (aA == (4:Int)) (Zad xL/\[bool true]=xL_1) (∃v v_1 v_2 v_3 v_4:Value,m'.reads c0b (c0o+3) [v,v_1,
 v_2,v_3,v_4]/\kB Tryz.prog 115 [agg (Array.mk [v,v_1,v_2,v_3,v_4]),agg (Array.mk [int u8 0,Value.float .f64 0,string bE0,int i64 0,slice none 0 0])] m' λb m'=>Zad xL
 /\ [bool b]=xL_1)) (Zad xL/\[bool false]=xL_1))) (Zad xL/\[bool false]=xL_1)))/\rtM m m' R (bool b_1)):CX Tryz.prog 189 #[.agg #[.int .u8 aA,.string aC,.int .i64 aD,.int .u8 aE,aU,.string aT,.int .i64 aS,.slice aQ aP aR],.pointer (some ⟨c0b,c0o,none⟩)] m [] R:=
 Zae (E:=Zdd) Zal mix Tryz.func189 [.v (.agg #[.int .u8 aA,.string aC,.int .i64 aD,.int .u8 aE,aU,.string aT,.int .i64 aS,.slice aQ aP aR]),.v (.pointer (some ⟨c0b,c0o,none⟩))] [] (by kernel_rfl) (Eq.mp (by kernel_rfl) h)
def ZdI:Env:={ EB with
 joins:=(λi=>bif Nat.beq i 4 then some [(2,.bool)]else bif Nat.beq i 6 then some [(2,.bool)]else bif Nat.beq i 8 then some [(2,.bool)]else bif Nat.beq i 10 then some [(2,.bool)]else none)
 frzNew:=[1] }
theorem Zdx(aA:Int)(aC:ByteArray)(aD aE:Int)(aU:Value)(aT:ByteArray)(aS:Int)(aQ:Option Addr)(aP aR:Nat)(m:Mem)(R:RT)(h:
 lX (int u8 aA) λyL=>lV [int u8 aE,aU,string aT,int i64 aS,slice aQ aP aR] λxL=>lX (agg (Array.mk [yL,string aC,int i64 0,int u8 0,Value.float .f64 0,string bE0,int i64 0,slice none 0 0])) λyL_1=>lV (yL::string aC::int i64 aD::xL) λxL_1=>fzM m xL_1 λb m'=>lV [Value.pointer (some (Addr.mk b 0 none))] λxL_2=>lE [some (Box.mk b xL_1
 143 8 true true)] λxL_3=>br (aA == (1:Int)) (∃(b:Bool),br (decide ((↑(ByteArray.size aC):Int) > (0:Int))) (br (decide ((↑(ByteArray.size aC):Int)<=(512:Int))) (kB Tryz.prog 189 (yL_1::xL_2)
 m' λb_1 m'=>Zad xL_3/\[bool b_1]=[bool b]) (Zad xL_3/\[bool false]=[bool b])) (Zad xL_3/\[bool false]=[bool b])/\rtM m m' R (bool b)) (br (aA == (2:Int)) (∃(b:Bool),(kB Tryz.prog 146
 [string aC] m' λb_1 m'=>br b_1 (kB Tryz.prog 189 (yL_1::xL_2) m' λb_2 m'=>Zad xL_3/\[bool b_2]=[bool b]) (Zad xL_3/\[bool false]=[bool b]))/\rtM m m' R (bool b)) (br (aA == (3:Int)) (∃(b
 : Bool),br (decide (aD ≥ (0:Int))) (br (decide (aD<=(9:Int))) (kB Tryz.prog 189 (agg (Array.mk [yL,string bE0,int i64 aD,int u8 0,Value.float .f64 0,string
 bE0,int i64 0,slice none 0 0])::xL_2) m' λb_1 m'=>Zad xL_3/\[bool b_1]=[bool b]) (Zad xL_3/\[bool false]=[bool b])) (Zad xL_3/\[bool false]=[bool b])/\rtM m m' R
 (bool b)) (br (aA == (4:Int)) (∃(b:Bool),(kB Tryz.prog 163 [agg (Array.mk xL)] m' λb_1 m'=>br b_1 (kB Tryz.prog 189 (agg (Array.mk [yL,string bE0,int i64 0,int u8 0,Value.float
 FloatKind.f64 0,string bE0,int i64 0,slice none 0 0])::xL_2) m' λb_2 m'=>Zad xL_3/\[bool b_2]=[bool b]) (Zad xL_3/\[bool false]=[bool b]))/\rtM m m' R (bool b)) (rtM m m'
 R (bool false)))))):CX Tryz.prog 172 #[.agg #[.int .u8 aA,.string aC,.int .i64 aD,.int .u8 aE,aU,.string aT,.int .i64 aS,.slice aQ aP aR]] m [] R:=
 Zae (E:=ZdI) Zal mix Tryz.func172 [.v (.agg #[.int .u8 aA,.string aC,.int .i64 aD,.int .u8 aE,aU,.string aT,.int .i64 aS,.slice aQ aP aR])] [] (by kernel_rfl) (Eq.mp (by kernel_rfl) h)
def Zku:Env:={ EB with
 loops:=(λi=>bif Nat.beq i 3 then⟨[(3,.int .i64),(8,.int .i64)],[],[],false⟩ else⟨[],[],[],false⟩)
 ldF:=(λi=>bif Nat.beq i 13 then some (.fn)else none) }
theorem Ziu(p0a:Option Addr)(p0n p0c:Nat)(m:Mem)(R:RT)(h:
 ∃(I:IT),inI I [int i64 0,int i64 0] [] [] m/\∀(n n_1:Int)(m':Mem)(n_2:Nat),lX (int i64 n) λyL=>m.le m'->I [yL,int i64 n_1] [] [] m' n_2->br (decide (n_1 < (↑p0n:Int))) (atA p0a λb o=>
 Zag n_1 p0n/\∃v v_1:Value,m'.reads b (o+Int.toNat n_1*2) [v,v_1]/\∀(b:Nat),chk (v.oneCell'&&(v_1.oneCell'&&true)) (∃(g:Nat),∃(fi:List Value),∃(ca:List
 Value),v_1=func (Fn.func g) (Array.mk fi) (Array.mk ca)/\kB Tryz.prog g (List.append (List.append fi []) ca) m' λb m'=>br b (rtM m m' R v) (nxI n_2 I [yL,int i64 (i64.wrap (n_1+(1:Int)))] [] []
 m'))) (rtM m m' R yL)):CX Tryz.prog 144 #[.slice p0a p0n p0c] m [] R:=
 Zae (E:=Zku) Zal mix Tryz.func144 [.v (.slice p0a p0n p0c)] [] (by kernel_rfl) (Eq.mp (by kernel_rfl) h)
def Ziv:Env:={ EB with
 joins:=(λi=>bif Nat.beq i 1 then some [(6,.bool)]else none) }
theorem Zhf(p0 p1 p2:Int)(m:Mem)(R:RT)(h:
 ∃(b:Bool),br (decide (p0 ≥ p1)) ([bool (decide (p0<=p2))]=[bool b]) ([bool false]=[bool b])/\rtM m m R (bool b)):CX Tryz.prog 151 #[.int .i64 p0,.int .i64 p1,.int .i64 p2] m [] R:=
 Zae (E:=Ziv) Zal mix Tryz.func151 [.v (.int .i64 p0),.v (.int .i64 p1),.v (.int .i64 p2)] [] (by kernel_rfl) (Eq.mp (by kernel_rfl) h)
def Ziw:Env:={ EB with
 frzNew:=[2] }
theorem Zhg(aA:ByteArray)(aC:Bool)(aD:ByteArray)(aE:Value)(c0b c0o:Nat)(m:Mem)(R:RT)(h:
 fzM m [string aA,bool aC,string aD,aE] λb m'=>∃(v:Value),m' c0b c0o=some v/\chk (ZgC v) (rtM m m' R (bool (ByteArray.toList aA == ByteArray.toList (Zcl v))))):CX Tryz.prog 185 #[.agg #[.string aA,.bool aC,.string aD,aE],.pointer (some ⟨c0b,c0o,none⟩)] m [] R:=
 Zae (E:=Ziw) Zal mix Tryz.func185 [.v (.agg #[.string aA,.bool aC,.string aD,aE]),.v (.pointer (some ⟨c0b,c0o,none⟩))] [] (by kernel_rfl) (Eq.mp (by kernel_rfl) h)
def ZmE:Env:={ EB with
 joins:=(λi=>bif Nat.beq i 2 then some [(4,.bool),(5,.bool)]else none)
 frzNew:=[2,3] }
theorem Zkv(aA:Int)(aH:Option Addr)(aF aI:Nat)(aJ:Option Addr)(aG aK:Nat)(p1:ByteArray)(m:Mem)(R:RT)(h:
 lV [int i64 aA,slice aH aF aI,slice aJ aG aK] λxL=>fzM m xL λb m'=>lE [some (Box.mk b xL 30 3 true true)] λxL=>fzM m' [string p1] λb m'=>lE (some (Box.mk b [string p1] 9 1 true
 true)::xL) λxL=>kI Tryz.prog 178 [slice aH aF aI,func (Fn.func 185) (Array.mk []) (Array.mk [Value.pointer (some (Addr.mk b 0 none))])] m' λn m'=>∃(b:Bool),∃(b_1:Bool),lE (decide (n ≥ (0:
 Int))) λyL=>lV [bool b,bool b_1] λxL_1=>br yL (atA aH λb o=>Zag n aF/\∃(v:Value),m' b (o+Int.toNat n*4+1+0)=some v/\Zad xL/\chk (Shape.fits Shape.bool v) ([v,bool yL] =
 xL_1)) (Zad xL/\[bool false,bool yL]=xL_1)/\rtM m m' R (tuple (Array.mk xL_1))):CX Tryz.prog 166 #[.agg #[.int .i64 aA,.slice aH aF aI,.slice aJ aG aK],.string p1] m [] R:=
 Zae (E:=ZmE) Zal mix Tryz.func166 [.v (.agg #[.int .i64 aA,.slice aH aF aI,.slice aJ aG aK]),.v (.string p1)] [] (by kernel_rfl) (Eq.mp (by kernel_rfl) h)
def Zfq:Env:=EB
theorem ZeJ(p0:ByteArray)(c0b c0o:Nat)(m:Mem)(R:RT)(h:
 ∃v v_1 v_2:Value,m.reads c0b c0o [v,v_1,v_2]/\∃(R_1:RT),True/\CX Tryz.prog 166 (Array.mk [agg (Array.mk [v,v_1,v_2]),string p0]) m [] R_1/\Za1 (Shape.tup [Shape.bool,
 Shape.bool]) R_1/\∀(b b_1:Bool)(m':Mem),m.le m'->R_1 (tuple (Array.mk [bool b,bool b_1])) m' []->rtM m m' R (bool !b)):CX Tryz.prog 188 #[.string p0,.pointer (some ⟨c0b,c0o,none⟩)] m [] R:=
 Zae (E:=Zfq) Zal mix Tryz.func188 [.v (.string p0),.v (.pointer (some ⟨c0b,c0o,none⟩))] [] (by kernel_rfl) (Eq.mp (by kernel_rfl) h)
def Zhh:Env:={ EB with
 frzNew:=[2,3] }
theorem Zgj(aA:Int)(aH:Option Addr)(aF aI:Nat)(aJ:Option Addr)(aG aK:Nat)(bK:Int)(bL:Value)(bN:ByteArray)(bO:Int)(cD:Option Addr)(cA cH:Nat)(m:Mem)(R:RT)(h:
 lV [int u8 bK,bL,string bN,int i64 bO,slice cD cA cH] λxL=>fzM m [int i64 aA,slice aH aF aI,slice aJ aG aK] λb m'=>fzM m' xL λb_1 m'=>kS Tryz.prog 187 [agg
 (Array.mk xL)] m' λa n c m'=>kB Tryz.prog 186 [slice a n c,func (Fn.func 188) (Array.mk []) (Array.mk [Value.pointer (some (Addr.mk b 0 none))])] m' λb m'=>rtM m m' R (bool !b)):CX Tryz.prog 167 #[.agg #[.int .i64 aA,.slice aH aF aI,.slice aJ aG aK],.agg #[.int .u8 bK,bL,.string bN,.int .i64 bO,.slice cD cA cH]] m [] R:=
 Zae (E:=Zhh) Zal mix Tryz.func167 [.v (.agg #[.int .i64 aA,.slice aH aF aI,.slice aJ aG aK]),.v (.agg #[.int .u8 bK,bL,.string bN,.int .i64 bO,.slice cD cA cH])] [] (by kernel_rfl) (Eq.mp (by kernel_rfl) h)
def ZmF:Env:={ EB with
 frzNew:=[1] }
theorem Zkw(aA:Int)(aC:Value)(aD:ByteArray)(aE:Int)(aY:Option Addr)(aV bA:Nat)(m:Mem)(R:RT)(h:
 lV [int u8 aA,aC,string aD,int i64 aE,slice aY aV bA] λxL=>fzM m xL λb m'=>kB Tryz.prog 115 [agg (Array.mk xL),agg (Array.mk [int u8 0,Value.float .f64 0,string bE0,int i64 0,slice none 0 0])] m' λb m'=>rtM m m' R (bool b)):CX Tryz.prog 164 #[.agg #[.int .u8 aA,aC,.string aD,.int .i64 aE,.slice aY aV bA]] m [] R:=
 Zae (E:=ZmF) Zal mix Tryz.func164 [.v (.agg #[.int .u8 aA,aC,.string aD,.int .i64 aE,.slice aY aV bA])] [] (by kernel_rfl) (Eq.mp (by kernel_rfl) h)
def Zgk:Env:={ EB with
 frzNew:=[1] }
theorem Zfr(aA:Int)(aC aD:Bool)(aE aU aT aS dA dB dO:Int)(bQ:Option Addr)(bR bT:Nat)(cJ:ByteArray)(bZ:Int)(bV:Option Addr)(bW bX:Nat)(cN:ByteArray)(cO:Int)(m:Mem)(R:RT)(h:
 fzM m [int u8 aA,bool aC,bool aD,int u8 aE,int u64 aU,int u64 aT,int u64 aS,int u64 dA,int i64 dB,int i64 dO,slice bQ bR bT,string cJ,int i64 bZ,slice bV bW
 bX,string cN,int i64 cO] λb m'=>br (aA == (1:Int)) (kI Tryz.prog 182 [agg (Array.mk [int u8 aE,int u64 aU,int u64 aT,int u64 aS,int u64 dA,int i64 dB,int i64 dO,slice bQ
 bR bT])] m' λn m'=>rtM m m' R (int i64 n)) (br (aA == (2:Int)) (rtM m m' R (int i64 0)) (rtM m m' R (int i64 (-1:Int))))):CX Tryz.prog 170 #[.agg #[.int .u8 aA,.bool aC,.bool aD,.int .u8 aE,.int .u64 aU,.int .u64 aT,.int .u64 aS,.int .u64 dA,.int .i64 dB,.int .i64 dO,.slice bQ bR bT,.string cJ,.int .i64 bZ,.slice bV bW bX,.string cN,.int .i64 cO]] m [] R:=
 Zae (E:=Zgk) Zal mix Tryz.func170 [.v (.agg #[.int .u8 aA,.bool aC,.bool aD,.int .u8 aE,.int .u64 aU,.int .u64 aT,.int .u64 aS,.int .u64 dA,.int .i64 dB,.int .i64 dO,.slice bQ bR bT,.string cJ,.int .i64 bZ,.slice bV bW bX,.string cN,.int .i64 cO])] [] (by kernel_rfl) (Eq.mp (by kernel_rfl) h)
def Zix:Env:={ EB with
 joins:=(λi=>bif Nat.beq i 1 then some [(3,.bool)]else bif Nat.beq i 7 then some [(2,.bool)]else bif Nat.beq i 8 then some [(2,.bool)]else bif Nat.beq i 11 then some [(2,.bool)]else none)
 frzNew:=[1] }
theorem Zhi(aA:Int)(aC aD:Bool)(aE aU aT aS dA dB dO:Int)(bQ:Option Addr)(bR bT:Nat)(cJ:ByteArray)(bZ:Int)(bV:Option Addr)(bW bX:Nat)(cN:ByteArray)(cO:Int)(m:Mem)(R:RT)(h:
 lE (ByteArray.toList cJ == ByteArray.toList bE0) λyL=>lV [int u8 aA,bool aC,bool aD,int u8 aE,int u64 aU,int u64 aT,int u64 aS,int u64 dA,int i64 dB,int i64
 dO,slice bQ bR bT,string cJ,int i64 bZ,slice bV bW bX,string cN,int i64 cO] λxL=>fzM m xL λb m'=>∃(b_1:Bool),lE [some (Box.mk b xL 57 16 true true)] λxL=>br
 aC (Zad xL/\[bool true]=[bool b_1]) (br aD (Zad xL/\[bool true]=[bool b_1]) (kB Tryz.prog 80 [agg (Array.mk [int u8 aE,int u64 aU,int u64 aT,int u64 aS,int u64 dA,int i64 dB,int i64
 dO,slice bQ bR bT]),agg (Array.mk [int u8 0,int u64 0,int u64 0,int u64 0,int u64 0,int i64 0,int i64 0,slice none 0 0])] m' λb m'=>Zad xL/\[bool !b]=[bool b_1]))/\br (aA == (2:
 Int)) (∃(b:Bool),br (!b_1) (br (bZ == (0:Int)) (kB Tryz.prog 151 [int i64 (↑(ByteArray.size cJ):Int),int i64 1,int i64 64] m' λb_2 m'=>Zad xL/\[bool b_2]=[bool b]) (Zad xL/\[bool false] =
 [bool b])) (Zad xL/\[bool false]=[bool b])/\rtM m m' R (bool b)) (br (aA == (4:Int)) (∃(b:Bool),br (!b_1) (br yL (kB Tryz.prog 151 [int i64 bZ,int i64 1,int i64 1000] m' λb_2 m'=>Zad xL/\
 [bool b_2]=[bool b]) (Zad xL/\[bool false]=[bool b])) (Zad xL/\[bool false]=[bool b])/\rtM m m' R (bool b)) (br (aA == (3:Int)) (br b_1 (rtM m m' R (bool false)) (∃(b:Bool),br yL (Zad xL/\
 [bool (bZ == (0:Int))]=[bool b]) (Zad xL/\[bool false]=[bool b])/\rtM m m' R (bool b))) (br (aA == (1:Int)) (∃(b:Bool),br yL (Zad xL/\[bool (bZ == (0:Int))]=[bool b]) (Zad xL/\[bool
 false]=[bool b])/\rtM m m' R (bool b)) (rtM m m' R (bool false)))))):CX Tryz.prog 157 #[.agg #[.int .u8 aA,.bool aC,.bool aD,.int .u8 aE,.int .u64 aU,.int .u64 aT,.int .u64 aS,.int .u64 dA,.int .i64 dB,.int .i64 dO,.slice bQ bR bT,.string cJ,.int .i64 bZ,.slice bV bW bX,.string cN,.int .i64 cO]] m [] R:=
 Zae (E:=Zix) Zal mix Tryz.func157 [.v (.agg #[.int .u8 aA,.bool aC,.bool aD,.int .u8 aE,.int .u64 aU,.int .u64 aT,.int .u64 aS,.int .u64 dA,.int .i64 dB,.int .i64 dO,.slice bQ bR bT,.string cJ,.int .i64 bZ,.slice bV bW bX,.string cN,.int .i64 cO])] [] (by kernel_rfl) (Eq.mp (by kernel_rfl) h)
def Zhj:Env:=EB
theorem Zgl(c0b c0o:Nat)(m:Mem)(R:RT)(h:
 ∃(v:Value),m c0b (c0o+0)=some v/\kB Tryz.prog 151 [v,int i64 2,int i64 256] m λb m'=>rtM m m' R (bool !b)):CX Tryz.prog 150 #[.pointer (some ⟨c0b,c0o,none⟩)] m [] R:=
 Zae (E:=Zhj) Zal mix Tryz.func150 [.v (.pointer (some ⟨c0b,c0o,none⟩))] [] (by kernel_rfl) (Eq.mp (by kernel_rfl) h)
def Zhk:Env:={ EB with
 joins:=(λi=>bif Nat.beq i 1 then some [(1,.bool)]else none) }
theorem Zgm(c0b c0o:Nat)(m:Mem)(R:RT)(h:
 ∃(b:Bool),(∃(v:Value),m c0b (c0o+2)=some v/\chk (Zbd v) (kB Tryz.prog 151 [int i64 (↑(slN v):Int),int i64 1,int i64 24] m λb_1 m'=>br (!b_1) ([bool true]=[bool b]) (∃(v:Value),m' c0b (c0o +
 1)=some v/\chk (Zbd v) ([bool (decide ((↑(slN v):Int) > (12:Int)))]=[bool b]))))/\rtM m m R (bool b)):CX Tryz.prog 152 #[.pointer (some ⟨c0b,c0o,none⟩)] m [] R:=
 Zae (E:=Zhk) Zal mix Tryz.func152 [.v (.pointer (some ⟨c0b,c0o,none⟩))] [] (by kernel_rfl) (Eq.mp (by kernel_rfl) h)
def Zkx:Env:={ EB with
 frzNew:=[1] }
theorem Ziy(aA:Int)(aH:Option Addr)(aF aI:Nat)(aJ:Option Addr)(aG aK:Nat)(m:Mem)(R:RT)(h:
 fzM m [int i64 aA,slice aH aF aI,slice aJ aG aK] λb m'=>∀(b_1:Nat),lV [Value.pointer (some (Addr.mk b 0 none))] λxL=>m'.free b_1->kI Tryz.prog 144 [slice (some (Addr.mk b_1 0
 none)) 2 2] (m'.add b_1 [int i64 300,func (Fn.func 150) (Array.mk []) (Array.mk xL),int i64 302,func (Fn.func 152) (Array.mk []) (Array.mk xL)]) λn m'=>rtM m m' R (int i64 n)):CX Tryz.prog 137 #[.agg #[.int .i64 aA,.slice aH aF aI,.slice aJ aG aK]] m [] R:=
 Zae (E:=Zkx) Zal mix Tryz.func137 [.v (.agg #[.int .i64 aA,.slice aH aF aI,.slice aJ aG aK])] [] (by kernel_rfl) (Eq.mp (by kernel_rfl) h)
def ZdJ:Env:={ EB with
 frzNew:=[2] }
theorem Zdy(aA:ByteArray)(aC:Bool)(aD:ByteArray)(aE:Value)(c0b c0o:Nat)(m:Mem)(R:RT)(h:
 fzM m [string aA,bool aC,string aD,aE] λb m'=>∃(v:Value),m' c0b (c0o+0)=some v/\chk (ZgC v) (rtM m m' R (bool (ByteArray.toList aA == ByteArray.toList (Zcl v))))):CX Tryz.prog 149 #[.agg #[.string aA,.bool aC,.string aD,aE],.pointer (some ⟨c0b,c0o,none⟩)] m [] R:=
 Zae (E:=ZdJ) Zal mix Tryz.func149 [.v (.agg #[.string aA,.bool aC,.string aD,aE]),.v (.pointer (some ⟨c0b,c0o,none⟩))] [] (by kernel_rfl) (Eq.mp (by kernel_rfl) h)
def ZeK:Env:=EB
theorem Zem(c0b c0o c1b c1o c2b c2o:Nat)(m:Mem)(R:RT)(h:
 ∃(v:Value),m c0b (c0o+0)=some v/\kB Tryz.prog 146 [v] m λb m'=>br (!b) (rtM m m' R (bool true)) (∃v v_1 v_2:Value,m'.reads c0b (c0o+1) [v,v_1,v_2]/\kB Tryz.prog 147
 [agg (Array.mk [v,v_1,v_2])] m' λb m'=>br (!b) (rtM m m' R (bool true)) (∃(v:Value),m' c1b (c1o+1)=some v/\∃(v_3:Value),m' c2b c2o=some v_3/\chk (Zbd v) (chk (ZbZ v_3) (((0:Int) <=
 intOf v_3/\intOf v_3<=(↑(slC v):Int))/\kB Tryz.prog 148 [slice (ZaS (slA v) 0 (slC v) 4) (Int.toNat (intOf v_3) - 0) (slC v - 0),func (Fn.func 149) (Array.mk []) (Array.mk [Value.pointer
 (some (Addr.mk c0b c0o none))])] m' λb m'=>rtM m m' R (bool b)))))):CX Tryz.prog 145 #[.pointer (some ⟨c0b,c0o,none⟩),.pointer (some ⟨c1b,c1o,none⟩),.pointer (some ⟨c2b,c2o,none⟩)] m [] R:=
 Zae (E:=ZeK) Zal mix Tryz.func145 [.v (.pointer (some ⟨c0b,c0o,none⟩)),.v (.pointer (some ⟨c1b,c1o,none⟩)),.v (.pointer (some ⟨c2b,c2o,none⟩))] [] (by kernel_rfl) (Eq.mp (by kernel_rfl) h)
def Zgn:Env:={ EB with
 frzNew:=[2,3]
 frzAt:=(λi=>bif Nat.beq i 14 then[5]else[]) }
theorem Zfs(aA:Int)(aH:Option Addr)(aF aI:Nat)(aJ:Option Addr)(aG aK:Nat)(p1:Int)(m:Mem)(R:RT)(h:
 fzM m [int i64 aA,slice aH aF aI,slice aJ aG aK] λb m'=>fzM m' [int i64 p1] λb_1 m'=>atA aH λb_2 o=>Zag p1 aF/\∃v v_1 v_2 v_3:Value,m'.reads b_2 (o+Int.toNat p1*4) [v,v_1,v_2,v_3]/\∀(b_3:Nat),chk (v.oneCell'&&(v_1.oneCell'&&(v_2.oneCell'&&(v_3.oneCell'&&true)))) (∀(b_4:Nat),m'.free b_4
 -> ∀(m'_1:Mem),Mem.le (m'.add b_4 [int i64 301,func (Fn.func 145) (Array.mk []) (Array.mk [Value.pointer (some (Addr.mk b_3 0 none)),Value.pointer (some (Addr.mk b 0 none)),Value.pointer (some (Addr.mk b_1 0
 none))])]) m'_1->m'_1.reads b_3 0 [v,v_1,v_2,v_3]->kI Tryz.prog 144 [slice (some (Addr.mk b_4 0 none)) 1 1] m'_1 λn m'=>rtM m m' R (int i64 n))):CX Tryz.prog 136 #[.agg #[.int .i64 aA,.slice aH aF aI,.slice aJ aG aK],.int .i64 p1] m [] R:=
 Zae (E:=Zgn) Zal mix Tryz.func136 [.v (.agg #[.int .i64 aA,.slice aH aF aI,.slice aJ aG aK]),.v (.int .i64 p1)] [] (by kernel_rfl) (Eq.mp (by kernel_rfl) h)
def Zft:Env:={ EB with
 frzNew:=[2] }
theorem ZeL(aA:ByteArray)(aH:Option Addr)(aF aI c0b c0o:Nat)(m:Mem)(R:RT)(h:
 fzM m [string aA,slice aH aF aI] λb m'=>∃(v:Value),m' c0b (c0o+0)=some v/\chk (ZgC v) (rtM m m' R (bool (ByteArray.toList aA == ByteArray.toList (Zcl v))))):CX Tryz.prog 155 #[.agg #[.string aA,.slice aH aF aI],.pointer (some ⟨c0b,c0o,none⟩)] m [] R:=
 Zae (E:=Zft) Zal mix Tryz.func155 [.v (.agg #[.string aA,.slice aH aF aI]),.v (.pointer (some ⟨c0b,c0o,none⟩))] [] (by kernel_rfl) (Eq.mp (by kernel_rfl) h)
def Zhl:Env:=EB
theorem Zgo(c0b c0o c1b c1o c2b c2o:Nat)(m:Mem)(R:RT)(h:
 ∃(v:Value),m c0b (c0o+0)=some v/\kB Tryz.prog 146 [v] m λb m'=>br (!b) (rtM m m' R (bool true)) (∃(v:Value),m' c0b (c0o+1)=some v/\chk (Zbd v) (br (decide ((↑(slN v):Int) > (12:Int))) (rtM m
 m' R (bool true)) (∃(v:Value),m' c1b (c1o+2)=some v/\∃(v_1:Value),m' c2b c2o=some v_1/\chk (Zbd v) (chk (ZbZ v_1) (((0:Int)<=intOf v_1/\intOf v_1<=(↑(slC v):Int))/\kB
 Tryz.prog 154 [slice (ZaS (slA v) 0 (slC v) 2) (Int.toNat (intOf v_1) - 0) (slC v - 0),func (Fn.func 155) (Array.mk []) (Array.mk [Value.pointer (some (Addr.mk c0b c0o none))])] m' λb m'=>rtM m m' R
 (bool b))))))):CX Tryz.prog 153 #[.pointer (some ⟨c0b,c0o,none⟩),.pointer (some ⟨c1b,c1o,none⟩),.pointer (some ⟨c2b,c2o,none⟩)] m [] R:=
 Zae (E:=Zhl) Zal mix Tryz.func153 [.v (.pointer (some ⟨c0b,c0o,none⟩)),.v (.pointer (some ⟨c1b,c1o,none⟩)),.v (.pointer (some ⟨c2b,c2o,none⟩))] [] (by kernel_rfl) (Eq.mp (by kernel_rfl) h)
def Zky:Env:={ EB with
 frzNew:=[2,3]
 frzAt:=(λi=>bif Nat.beq i 14 then[5]else[]) }
theorem Ziz(aA:Int)(aH:Option Addr)(aF aI:Nat)(aJ:Option Addr)(aG aK:Nat)(p1:Int)(m:Mem)(R:RT)(h:
 fzM m [int i64 aA,slice aH aF aI,slice aJ aG aK] λb m'=>fzM m' [int i64 p1] λb_1 m'=>atA aJ λb_2 o=>Zag p1 aG/\∃v v_1:Value,m'.reads b_2 (o +
 Int.toNat p1*2) [v,v_1]/\∀(b_3:Nat),chk (v.oneCell'&&(v_1.oneCell'&&true)) (∀(b_4:Nat),m'.free b_4->∀(m'_1:Mem),Mem.le (m'.add b_4 [int i64 303,func (Fn.func 153) (Array.mk [])
 (Array.mk [Value.pointer (some (Addr.mk b_3 0 none)),Value.pointer (some (Addr.mk b 0 none)),Value.pointer (some (Addr.mk b_1 0 none))])]) m'_1->m'_1.reads b_3 0 [v,v_1]->kI Tryz.prog 144 [slice (some (Addr.mk
 b_4 0 none)) 1 1] m'_1 λn m'=>rtM m m' R (int i64 n))):CX Tryz.prog 138 #[.agg #[.int .i64 aA,.slice aH aF aI,.slice aJ aG aK],.int .i64 p1] m [] R:=
 Zae (E:=Zky) Zal mix Tryz.func138 [.v (.agg #[.int .i64 aA,.slice aH aF aI,.slice aJ aG aK]),.v (.int .i64 p1)] [] (by kernel_rfl) (Eq.mp (by kernel_rfl) h)
def ZiA:Env:={ EB with
 joins:=(λi=>bif Nat.beq i 1 then some [(1,.bool)]else none) }
theorem Zhm(c0b c0o:Nat)(m:Mem)(R:RT)(h:
 ∃(b:Bool),(∃v v_1 v_2 v_3 v_4 v_5 v_6 v_7 v_8 v_9 v_10 v_11 v_12 v_13 v_14 v_15:Value,lV [v,v_1,v_2,v_3,v_4,v_5,v_6,v_7,v_8,v_9,v_10,v_11,v_12,v_13,v_14,v_15] λxL=>m.reads c0b c0o xL/\kB Tryz.prog 157 [agg
 (Array.mk xL)] m λb_1 m'=>br (!b_1) ([bool true]=[bool b]) (∃(v:Value),m' c0b (c0o+13)=some v/\chk (Zbd v) ([bool (decide ((↑(slN v):Int) > (8:Int)))]=[bool b])))/\rtM m m R (bool b)):CX Tryz.prog 156 #[.pointer (some ⟨c0b,c0o,none⟩)] m [] R:=
 Zae (E:=ZiA) Zal mix Tryz.func156 [.v (.pointer (some ⟨c0b,c0o,none⟩))] [] (by kernel_rfl) (Eq.mp (by kernel_rfl) h)
def ZiB:Env:={ EB with
 joins:=(λi=>bif Nat.beq i 1 then some [(2,.bool)]else none) }
theorem Zhn(c0b c0o c1b c1o:Nat)(m:Mem)(R:RT)(h:
 ∃(b:Bool),(∃(v:Value),m c0b (c0o+0)=some v/\chk (ZaO u8 v&&decide (u8=u8)) (br (intOf v == (1:Int)) (∃v v_1 v_2 v_3 v_4 v_5 v_6 v_7 v_8 v_9:Value,lV [v,v_1,v_2,v_3,v_4,v_5,v_6,v_7,v_8,v_9] λxL=>m.reads c0b (c0o+1) xL/\kI Tryz.prog 159 [agg (Array.mk xL)] m λn m'
 => br (!n == (0:Int)) ([bool true]=[bool b]) (∃(v:Value),m' c1b c1o=some v/\chk (ZaO i64 v&&decide (i64=i64)) ([bool (decide (intOf v > (600:Int)))]=[bool b]))) ([bool false]=[bool b])))/\
 rtM m m R (bool b)):CX Tryz.prog 158 #[.pointer (some ⟨c0b,c0o,none⟩),.pointer (some ⟨c1b,c1o,none⟩)] m [] R:=
 Zae (E:=ZiB) Zal mix Tryz.func158 [.v (.pointer (some ⟨c0b,c0o,none⟩)),.v (.pointer (some ⟨c1b,c1o,none⟩))] [] (by kernel_rfl) (Eq.mp (by kernel_rfl) h)
def ZiC:Env:={ EB with
 joins:=(λi=>bif Nat.beq i 4 then some [(2,.bool)]else none) }
theorem Zho(c0b c0o c1b c1o:Nat)(m:Mem)(R:RT)(h:
 ∃v v_1 v_2:Value,m.reads c0b c0o [v,v_1,v_2]/\∃(v_3:Value),m c1b (c1o+14)=some v_3/\∃(R_1:RT),True/\CX Tryz.prog 161 (Array.mk [agg (Array.mk [v,v_1,v_2]),v_3]) m
 [] R_1/\Za1 (Shape.tup [Shape.int i64,Shape.bool]) R_1/\∀(n:Int)(b:Bool)(m':Mem),lE (m' c1b (c1o+15)) λyL=>m.le m'->R_1 (tuple (Array.mk [int i64 n,bool b])) m' []->∃(v:Value),m' c1b (c1o
 + 14)=some v/\chk (ZgC v&&true) (br (ByteArray.toList (Zcl v) == ByteArray.toList bE0) (∃(v:Value),yL=some v/\kB Tryz.prog 151 [v,int i64 0,int i64 255] m' λb m'=>rtM m m'
 R (bool !b)) (∃(b_1:Bool),br (!b) ([bool true]=[bool b_1]) (∃(v:Value),yL=some v/\chk (ZaO i64 v&&decide (i64=i64)) ([bool !intOf v == (0:Int)]=[bool b_1]))/\rtM m m' R (bool b_1)))):CX Tryz.prog 160 #[.pointer (some ⟨c0b,c0o,none⟩),.pointer (some ⟨c1b,c1o,none⟩)] m [] R:=
 Zae (E:=ZiC) Zal mix Tryz.func160 [.v (.pointer (some ⟨c0b,c0o,none⟩)),.v (.pointer (some ⟨c1b,c1o,none⟩))] [] (by kernel_rfl) (Eq.mp (by kernel_rfl) h)
def ZmG:Env:={ EB with
 frzNew:=[3,4,5] }
theorem Zkz(aA:Int)(aH:Option Addr)(aF aI:Nat)(aJ:Option Addr)(aG aK:Nat)(bK:Int)(bL bN:Bool)(bO dK dM dN gN gO gP:Int)(dP:Option Addr)(dQ dR:Nat)(fA:ByteArray)(fB:Int)(dS:Option Addr)(dT dU:Nat)(fC:ByteArray)(fD p2:Int)(m:Mem)(R:RT)(h:
 fzM m [int i64 aA,slice aH aF aI,slice aJ aG aK] λb m'=>fzM m' [int u8 bK,bool bL,bool bN,int u8 bO,int u64 dK,int u64 dM,int u64 dN,int u64 gN,int i64 gO,int i64
 gP,slice dP dQ dR,string fA,int i64 fB,slice dS dT dU,string fC,int i64 fD] λb_1 m'=>lX (Value.pointer (some (Addr.mk b_1 0 none))) λyL=>fzM m' [int i64 p2] λb_2
 m'=>∀(b_3:Nat),m'.free b_3->kI Tryz.prog 144 [slice (some (Addr.mk b_3 0 none)) 3 3] (m'.add b_3 [int i64 304,func (Fn.func 156) (Array.mk []) (Array.mk [yL]),int i64 305,func (Fn.func 158) (Array.mk
 []) (Array.mk [yL,Value.pointer (some (Addr.mk b_2 0 none))]),int i64 306,func (Fn.func 160) (Array.mk []) (Array.mk [Value.pointer (some (Addr.mk b 0 none)),yL])]) λn m'=>rtM m m' R (int i64 n)):CX Tryz.prog 139 #[.agg #[.int .i64 aA,.slice aH aF aI,.slice aJ aG aK],.agg #[.int .u8 bK,.bool bL,.bool bN,.int .u8 bO,.int .u64 dK,.int .u64 dM,.int .u64 dN,.int .u64 gN,.int .i64 gO,.int .i64 gP,.slice dP dQ dR,.string fA,.int .i64 fB,.slice dS dT dU,.string fC,.int .i64 fD],.int .i64 p2] m [] R:=
 Zae (E:=ZmG) Zal mix Tryz.func139 [.v (.agg #[.int .i64 aA,.slice aH aF aI,.slice aJ aG aK]),.v (.agg #[.int .u8 bK,.bool bL,.bool bN,.int .u8 bO,.int .u64 dK,.int .u64 dM,.int .u64 dN,.int .u64 gN,.int .i64 gO,.int .i64 gP,.slice dP dQ dR,.string fA,.int .i64 fB,.slice dS dT dU,.string fC,.int .i64 fD]),.v (.int .i64 p2)] [] (by kernel_rfl) (Eq.mp (by kernel_rfl) h)
def Zgp:Env:={ EB with
 joins:=(λi=>bif Nat.beq i 1 then some [(2,.bool)]else none)
 gb:=true
 ldF:=(λi=>bif Nat.beq i 19 then some (.bool)else bif Nat.beq i 28 then some (.bool)else bif Nat.beq i 37 then some (.bool)else none) }
theorem Zfu(c0b c0o c1b c1o:Nat)(m:Mem)(R:RT)(h:
 ∃(b:Bool),lE (c0o+3) λyL=>lE (c0o+2) λae=>lV [bool b] λxL=>(∃(v:Value),m c0b (c0o+0)=some v/\chk (ZaO u8 v) (kB Tryz.prog 151 [int i64 (i64.wrap (intOf v)),int i64 1,
 int i64 3] m λb m'=>lE (m' c0b ae) λak=>lE (m' c1b c1o) λaj=>br (!b) ([bool true]=xL) (∃(v:Value),m' c0b (c0o+0)=some v/\chk (ZaO u8 v&&decide (u8=u8)) (br (intOf v == (1:Int))
 (∃(v:Value),m' c0b (c0o+1)=some v/\chk (ZgC v&&true) (br (!ByteArray.toList (Zcl v) == ByteArray.toList bE0) ([bool true]=xL) (∃(v:Value),aj=some v/\∃(b:Bool),v =
 bool b/\br b (∃(v:Value),ak=some v/\chk (Zbd v) (br (decide ((↑(slN v):Int) > (0:Int))) ([bool true]=xL) (∃(v:Value),aj=some v/\∃(b:Bool),v=bool b/\br b (∃v aa ab ac ad:Value,m'.reads c0b yL [v,aa,ab,ac,ad]/\kB Tryz.prog 163 [agg (Array.mk [v,aa,ab,ac,ad])] m' λb m'=>br (!b) ([bool true]=xL) (∃(v:Value),m' c1b c1o=some v/\∃
 (b:Bool),v=bool b/\br (!b) (∃v af ag ah ai:Value,m'.reads c0b yL [v,af,ag,ah,ai]/\kB Tryz.prog 164 [agg (Array.mk [v,af,ag,ah,ai])] m' λb
 m'=>br (!b) ([bool true]=xL) (∃(v:Value),m' c0b ae=some v/\chk (Zbd v) ([bool (decide ((↑(slN v):Int) > (16:Int)))]=xL))) (∃(v:Value),m' c0b ae=some v/\chk (Zbd v) ([bool (decide ((↑(slN v):
 Int) > (16:Int)))]=xL)))) (∃(v:Value),aj=some v/\∃(b:Bool),v=bool b/\br (!b) (∃v aa ab ac ad:Value,m'.reads c0b yL [v,aa,ab,ac,ad]/\kB
 Tryz.prog 164 [agg (Array.mk [v,aa,ab,ac,ad])] m' λb m'=>br (!b) ([bool true]=xL) (∃(v:Value),m' c0b ae=some v/\chk (Zbd v) ([bool (decide ((↑(slN v):Int) > (16:Int)))]=xL))) (∃(v:Value),ak
 = some v/\chk (Zbd v) ([bool (decide ((↑(slN v):Int) > (16:Int)))]=xL)))))) (∃(v:Value),aj=some v/\∃(b:Bool),v=bool b/\br b (∃v aa ab ac ad:Value,m'.reads c0b yL [v,aa,ab,ac,ad]/\kB Tryz.prog 163 [agg (Array.mk [v,aa,ab,ac,ad])] m' λb m'=>br (!b) ([bool true]=xL) (∃(v:Value),m' c1b c1o=some v/\∃(b:Bool),v=bool b/\br (!b)
 (∃v af ag ah ai:Value,m'.reads c0b yL [v,af,ag,ah,ai]/\kB Tryz.prog 164 [agg (Array.mk [v,af,ag,ah,ai])] m' λb m'=>br (!b) ([bool true]=xL)
 (∃(v:Value),m' c0b ae=some v/\chk (Zbd v) ([bool (decide ((↑(slN v):Int) > (16:Int)))]=xL))) (∃(v:Value),m' c0b ae=some v/\chk (Zbd v) ([bool (decide ((↑(slN v):Int) > (16:Int)))]=xL)))) (∃
 (v:Value),aj=some v/\∃(b:Bool),v=bool b/\br (!b) (∃v aa ab ac ad:Value,m'.reads c0b yL [v,aa,ab,ac,ad]/\kB Tryz.prog 164 [agg (Array.mk [v,
 aa,ab,ac,ad])] m' λb m'=>br (!b) ([bool true]=xL) (∃(v:Value),m' c0b ae=some v/\chk (Zbd v) ([bool (decide ((↑(slN v):Int) > (16:Int)))]=xL))) (∃(v:Value),ak=some v/\chk (Zbd v) ([bool
 (decide ((↑(slN v):Int) > (16:Int)))]=xL))))))) (∃(v:Value),aj=some v/\∃(b:Bool),v=bool b/\br b (∃(v:Value),ak=some v/\chk (Zbd v) (br (decide ((↑(slN v):Int) > (0:Int))) ([bool true] =
 xL) (∃(v:Value),aj=some v/\∃(b:Bool),v=bool b/\br b (∃v aa ab ac ad:Value,m'.reads c0b yL [v,aa,ab,ac,ad]/\kB Tryz.prog 163 [agg (Array.mk
 [v,aa,ab,ac,ad])] m' λb m'=>br (!b) ([bool true]=xL) (∃(v:Value),m' c1b c1o=some v/\∃(b:Bool),v=bool b/\br (!b) (∃v af ag ah ai:Value,m'.reads c0b yL [v,af,ag,ah,ai]/\kB Tryz.prog 164 [agg (Array.mk [v,af,ag,ah,ai])] m' λb m'=>br (!b) ([bool true]=xL) (∃(v:Value),m' c0b ae=some v/\chk (Zbd v) ([bool (decide ((↑(slN v):
 Int) > (16:Int)))]=xL))) (∃(v:Value),m' c0b ae=some v/\chk (Zbd v) ([bool (decide ((↑(slN v):Int) > (16:Int)))]=xL)))) (∃(v:Value),aj=some v/\∃(b:Bool),v=bool b/\br (!b) (∃v aa ab ac ad:Value,m'.reads c0b yL [v,aa,ab,ac,ad]/\kB Tryz.prog 164 [agg (Array.mk [v,aa,ab,ac,ad])] m' λb m'=>br (!b) ([bool true]=xL) (∃(v:Value),m'
 c0b ae=some v/\chk (Zbd v) ([bool (decide ((↑(slN v):Int) > (16:Int)))]=xL))) (∃(v:Value),ak=some v/\chk (Zbd v) ([bool (decide ((↑(slN v):Int) > (16:Int)))]=xL)))))) (∃(v:Value),aj=some v
 /\ ∃(b:Bool),v=bool b/\br b (∃v aa ab ac ad:Value,m'.reads c0b yL [v,aa,ab,ac,ad]/\kB Tryz.prog 163 [agg (Array.mk [v,aa,ab,ac,ad])] m' λb
 m'=>br (!b) ([bool true]=xL) (∃(v:Value),m' c1b c1o=some v/\∃(b:Bool),v=bool b/\br (!b) (∃v af ag ah ai:Value,m'.reads c0b yL [v,af,ag,
 ah,ai]/\kB Tryz.prog 164 [agg (Array.mk [v,af,ag,ah,ai])] m' λb m'=>br (!b) ([bool true]=xL) (∃(v:Value),m' c0b ae=some v/\chk (Zbd v) ([bool (decide ((↑(slN v):Int) > (16:Int)))]=xL))) (∃(v
 : Value),m' c0b ae=some v/\chk (Zbd v) ([bool (decide ((↑(slN v):Int) > (16:Int)))]=xL)))) (∃(v:Value),aj=some v/\∃(b:Bool),v=bool b/\br (!b) (∃v aa ab ac ad:Value,m'.reads c0b yL [v,aa,ab,ac,ad]/\kB Tryz.prog 164 [agg (Array.mk [v,aa,ab,ac,ad])] m' λb m'=>br (!b) ([bool true]=xL) (∃(v:Value),m' c0b ae=some v/\chk (Zbd v)
 ([bool (decide ((↑(slN v):Int) > (16:Int)))]=xL))) (∃(v:Value),ak=some v/\chk (Zbd v) ([bool (decide ((↑(slN v):Int) > (16:Int)))]=xL)))))))))/\rtM m m R (bool b)):CX Tryz.prog 162 #[.pointer (some ⟨c0b,c0o,none⟩),.pointer (some ⟨c1b,c1o,none⟩)] m [] R:=
 Zae (E:=Zgp) Zal mix Tryz.func162 [.v (.pointer (some ⟨c0b,c0o,none⟩)),.v (.pointer (some ⟨c1b,c1o,none⟩))] [] (by kernel_rfl) (Eq.mp (by kernel_rfl) h)
def Zgq:Env:={ EB with
 joins:=(λi=>bif Nat.beq i 2 then some [(3,.bool)]else none)
 gb:=true
 ldF:=(λi=>bif Nat.beq i 21 then some (.bool)else bif Nat.beq i 26 then some (.bool)else none) }
theorem Zfv(c0b c0o c1b c1o c2b c2o:Nat)(m:Mem)(R:RT)(h:
 ∃v v_1 v_2:Value,m.reads c0b c0o [v,v_1,v_2]/\∃(v_3:Value),m c1b (c1o+1)=some v_3/\∃(R_1:RT),True/\CX Tryz.prog 166 (Array.mk [agg (Array.mk [v,v_1,v_2]),v_3]) m
 [] R_1/\Za1 (Shape.tup [Shape.bool,Shape.bool]) R_1/\∀(b b_1:Bool)(m':Mem),lE (m' c2b c2o) λyL=>m.le m'->R_1 (tuple (Array.mk [bool b,bool b_1])) m' []->∃(b_2:Bool),lV [bool b_2] λxL=>(∃
 (v:Value),m' c1b (c1o+0)=some v/\chk (ZaO u8 v&&decide (u8=u8)) (br (!intOf v == (1:Int)) (br (!b_1) ([bool true]=xL) (∃(v:Value),yL=some v/\∃(b_3:Bool),v=bool b_3/\br (!b == b_3)
 ([bool true]=xL) (∃(v:Value),yL=some v/\∃(b:Bool),v=bool b/\br b (∃v v_4 v_5:Value,m'.reads c0b c0o [v,v_4,v_5]/\∃v_6 v_7 v_8 v_9 v_10:Value,m'.reads c1b (c1o+3) [v_6,v_7,v_8,v_9,v_10]/\kB Tryz.prog 167 [agg (Array.mk [v,v_4,v_5]),agg (Array.mk [v_6,v_7,v_8,v_9,v_10])] m' λb m'=>[bool !b]=xL) ([bool
 false]=xL)))) (∃(v:Value),yL=some v/\∃(b:Bool),v=bool b/\br b (∃v v_4 v_5:Value,m'.reads c0b c0o [v,v_4,v_5]/\∃v_6 v_7 v_8 v_9 v_10:Value,m'.reads c1b (c1o+3) [v_6,v_7,v_8,v_9,v_10]/\kB Tryz.prog 167 [agg (Array.mk [v,v_4,v_5]),agg (Array.mk [v_6,v_7,v_8,v_9,v_10])] m' λb m'=>[bool !b]=xL) ([bool
 false]=xL))))/\rtM m m' R (bool b_2)):CX Tryz.prog 165 #[.pointer (some ⟨c0b,c0o,none⟩),.pointer (some ⟨c1b,c1o,none⟩),.pointer (some ⟨c2b,c2o,none⟩)] m [] R:=
 Zae (E:=Zgq) Zal mix Tryz.func165 [.v (.pointer (some ⟨c0b,c0o,none⟩)),.v (.pointer (some ⟨c1b,c1o,none⟩)),.v (.pointer (some ⟨c2b,c2o,none⟩))] [] (by kernel_rfl) (Eq.mp (by kernel_rfl) h)
def Zgr:Env:={ EB with
 dr:=(λi=>bif Nat.beq i 1 then[⟨0,[],[],none,[],[]⟩,⟨1,[],[],none,[0],[]⟩,⟨2,[],[],none,[0,1],[]⟩,⟨3,[],[],none,[0,1,2],[]⟩,⟨4,[],[],none,[0,1,2,3],[]⟩,⟨5,[],[],none,[0,1],[]⟩,⟨6,[],[],none,[0,1,2,3,4,5],[4]⟩,⟨7,[],[],none,[0,1,2,3,4,5,6],[]⟩,⟨8,[],[],none,[0,1,2,3,4,5,6,7],[]⟩,⟨9,[],[],none,[0,1,2,3,4,5,6,7,8],[]⟩]else[])
 gb:=true
 ldF:=(λi=>bif Nat.beq i 4 then some (.bool)else none) }
theorem Zfw(c0b c0o c1b c1o c2b c2o:Nat)(m:Mem)(R:RT)(h:
 ∃(f:Fx),∃(v:Value),m c0b c0o=some v/\∃(b:Bool),v=bool b/\br b (∃v v_1 v_2 v_3 v_4:Value,lV [v,v_1,v_2,v_3,v_4] λxL=>m.reads c1b
 (c1o+3) xL/\∃(R_1:RT),R_1=f 4 [agg (Array.mk xL)] m/\CX Tryz.prog 169 (Array.mk [agg (Array.mk xL)]) m [] R_1/\Za1 (Shape.int i64) R_1/\∀(n:Int)(m':Mem),m.le m'->R_1 (int i64 n) m' []->∃v v_5 v_6 v_7 v_8 v_9 v_10 v_11 v_12 v_13 v_14 v_15 v_16 v_17 v_18 v_19:Value,lV [v,v_5,v_6,v_7,v_8,v_9,v_10,v_11,v_12,v_13,v_14,v_15,v_16,v_17,v_18,v_19] λxL=>m.reads c2b c2o xL/\∃(R_2:RT),R_2=f 6 [agg (Array.mk
 xL)] m'/\CX Tryz.prog 170 (Array.mk [agg (Array.mk xL)]) m' [] R_2/\Za1 (Shape.int i64) R_2/\∀(n_1:Int)(m'_1:Mem),m'.le m'_1->R_2 (int i64 n_1) m'_1 []->∀(M:Mem),m.le M->m'.le M->m'_1.le M->rtM m M R (bool (decide (n > n_1)))) (∀(M:Mem),m.le M->m.le M->m.le M->rtM m M R (bool false))):CX Tryz.prog 168 #[.pointer (some ⟨c0b,c0o,none⟩),.pointer (some ⟨c1b,c1o,none⟩),.pointer (some ⟨c2b,c2o,none⟩)] m [] R:=
 Zae (E:=Zgr) Zal mix Tryz.func168 [.v (.pointer (some ⟨c0b,c0o,none⟩)),.v (.pointer (some ⟨c1b,c1o,none⟩)),.v (.pointer (some ⟨c2b,c2o,none⟩))] [] (by kernel_rfl) (Eq.mp (by kernel_rfl) h)
def ZiD:Env:={ EB with
 frzNew:=[3,4,5]
 frzAt:=(λi=>bif Nat.beq i 18 then[7]else[]) }
theorem Zhp(aA:Int)(aH:Option Addr)(aF aI:Nat)(aJ:Option Addr)(aG aK:Nat)(bK:Int)(bL bN:Bool)(bO dK dM dN gN gO gP:Int)(dP:Option Addr)(dQ dR:Nat)(fA:ByteArray)(fB:Int)(dS:Option Addr)(dT dU:Nat)(fC:ByteArray)(fD eW:Int)(eH:ByteArray)(ku:Option Addr)(kw kx:Nat)(eI:Int)(gB:Value)(jk:ByteArray)(jl:Int)(gQ:Option Addr)(gR gS:Nat)(m:Mem)(R:RT)(h:
 fzM m [int i64 aA,slice aH aF aI,slice aJ aG aK] λb m'=>fzM m' [int u8 bK,bool bL,bool bN,int u8 bO,int u64 dK,int u64 dM,int u64 dN,int u64 gN,int i64 gO,int i64
 gP,slice dP dQ dR,string fA,int i64 fB,slice dS dT dU,string fC,int i64 fD] λb_1 m'=>fzM m' [int u8 eW,string eH,slice ku kw kx,int u8 eI,gB,string
 jk,int i64 jl,slice gQ gR gS] λb_2 m'=>∀(b_3 b_4:Nat),lX (Value.pointer (some (Addr.mk b_2 0 none))) λyL=>lX (Value.pointer (some (Addr.mk b_3 0 none))) λyL_1=>lV [yL,yL_1] λxL=>
 m'.free b_4->∀(m'_1:Mem),Mem.le (m'.add b_4 [int i64 307,func (Fn.func 162) (Array.mk []) (Array.mk xL),int i64 308,func (Fn.func 165) (Array.mk []) (Array.mk (Value.pointer (some (Addr.mk b 0 none)) ::
 xL)),int i64 309,func (Fn.func 168) (Array.mk []) (Array.mk [yL_1,yL,Value.pointer (some (Addr.mk b_1 0 none))])]) m'_1->m'_1.reads b_3 0 [bool (eW == (3:Int))]->kI Tryz.prog 144 [slice (some (Addr.mk b_4
 0 none)) 3 3] m'_1 λn m'=>rtM m m' R (int i64 n)):CX Tryz.prog 140 #[.agg #[.int .i64 aA,.slice aH aF aI,.slice aJ aG aK],.agg #[.int .u8 bK,.bool bL,.bool bN,.int .u8 bO,.int .u64 dK,.int .u64 dM,.int .u64 dN,.int .u64 gN,.int .i64 gO,.int .i64 gP,.slice dP dQ dR,.string fA,.int .i64 fB,.slice dS dT dU,.string fC,.int .i64 fD],.agg #[.int .u8 eW,.string eH,.slice ku kw kx,.int .u8 eI,gB,.string jk,.int .i64 jl,.slice gQ gR gS]] m [] R:=
 Zae (E:=ZiD) Zal mix Tryz.func140 [.v (.agg #[.int .i64 aA,.slice aH aF aI,.slice aJ aG aK]),.v (.agg #[.int .u8 bK,.bool bL,.bool bN,.int .u8 bO,.int .u64 dK,.int .u64 dM,.int .u64 dN,.int .u64 gN,.int .i64 gO,.int .i64 gP,.slice dP dQ dR,.string fA,.int .i64 fB,.slice dS dT dU,.string fC,.int .i64 fD]),.v (.agg #[.int .u8 eW,.string eH,.slice ku kw kx,.int .u8 eI,gB,.string jk,.int .i64 jl,.slice gQ gR gS])] [] (by kernel_rfl) (Eq.mp (by kernel_rfl) h)
def ZiE:Env:={ EB with
 joins:=(λi=>bif Nat.beq i 1 then some [(3,.bool)]else none) }
theorem Zhq(c0b c0o c1b c1o c2b c2o:Nat)(m:Mem)(R:RT)(h:
 ∃(b:Bool),lV [bool b] λxL=>(∃v v_1 v_2 v_3 v_4 v_5 v_6 v_7:Value,lV [v,v_1,v_2,v_3,v_4,v_5,v_6,v_7] fun
 xL_1=>m.reads c0b c0o xL_1/\kB Tryz.prog 172 [agg (Array.mk xL_1)] m λb m'=>br (!b) ([bool true]=xL) (∃(v:Value),m' c1b c1o=some v/\chk (ZaO i64 v&&decide (i64=i64)) (br (decide (intOf
 v > (0:Int))) (∃(v:Value),m' c0b (c0o+0)=some v/\chk (ZaO u8 v&&decide (u8=u8)) (br (intOf v == (1:Int)) (∃(v:Value),m' c2b c2o=some v/\∃(v_8:Value),lE (i64.wrap
 (intOf v_8 - (1:Int))) λyL=>m' c1b c1o=some v_8/\chk (ZaO i64 v_8&&decide (i64=i64)) (chk (Zbd v) (atA (slA v) λb o=>Zag yL (slN v)/\∃(v:Value),m' b (o+Int.toNat yL*8+0) =
 some v/\chk (ZaO u8 v&&decide (u8=u8)) ([bool (intOf v == (1:Int))]=xL)))) ([bool false]=xL))) ([bool false]=xL))))/\rtM m m R (bool b)):CX Tryz.prog 171 #[.pointer (some ⟨c0b,c0o,none⟩),.pointer (some ⟨c1b,c1o,none⟩),.pointer (some ⟨c2b,c2o,none⟩)] m [] R:=
 Zae (E:=ZiE) Zal mix Tryz.func171 [.v (.pointer (some ⟨c0b,c0o,none⟩)),.v (.pointer (some ⟨c1b,c1o,none⟩)),.v (.pointer (some ⟨c2b,c2o,none⟩))] [] (by kernel_rfl) (Eq.mp (by kernel_rfl) h)
def ZiF:Env:={ EB with
 joins:=(λi=>bif Nat.beq i 2 then some [(2,.bool)]else none) }
theorem Zhr(c0b c0o c1b c1o:Nat)(m:Mem)(R:RT)(h:
 ∃v v_1 v_2:Value,m.reads c0b c0o [v,v_1,v_2]/\∃(v_3:Value),m c1b (c1o+1)=some v_3/\∃(R_1:RT),True/\CX Tryz.prog 166 (Array.mk [agg (Array.mk [v,v_1,v_2]),v_3]) m
 [] R_1/\Za1 (Shape.tup [Shape.bool,Shape.bool]) R_1/\∀(b b_1:Bool)(m':Mem),lE (m' c1b (c1o+0)) λyL=>m.le m'->R_1 (tuple (Array.mk [bool b,bool b_1])) m' []->∃(b:Bool),lV [bool b] λxL=>
 (∃(v:Value),yL=some v/\chk (ZaO u8 v&&decide (u8=u8)) (br (intOf v == (2:Int)) (br (!b_1) ([bool true]=xL) (∃(v:Value),yL=some v/\chk (ZaO u8 v&&decide (u8=u8)) (br (intOf v
 == (4:Int)) (∃v v_4 v_5:Value,m'.reads c0b c0o [v,v_4,v_5]/\∃v_6 v_7 v_8 v_9 v_10:Value,m'.reads c1b (c1o+3) [v_6,
 v_7,v_8,v_9,v_10]/\kB Tryz.prog 167 [agg (Array.mk [v,v_4,v_5]),agg (Array.mk [v_6,v_7,v_8,v_9,v_10])] m' λb m'=>[bool !b]=xL) ([bool false]=xL)))) (∃(v:Value),yL=some v/\chk (ZaO u8 v &&
 decide (u8=u8)) (br (intOf v == (4:Int)) (∃v v_4 v_5:Value,m'.reads c0b c0o [v,v_4,v_5]/\∃v_6 v_7 v_8 v_9 v_10:Value,m'.reads c1b (c1o+3) [v_6,v_7,v_8,v_9,v_10]/\kB Tryz.prog 167 [agg (Array.mk [v,v_4,v_5]),agg (Array.mk [v_6,v_7,v_8,v_9,v_10])] m' λb m'=>[bool !b]=xL) ([bool false]=xL)))))/\rtM m
 m' R (bool b)):CX Tryz.prog 173 #[.pointer (some ⟨c0b,c0o,none⟩),.pointer (some ⟨c1b,c1o,none⟩)] m [] R:=
 Zae (E:=ZiF) Zal mix Tryz.func173 [.v (.pointer (some ⟨c0b,c0o,none⟩)),.v (.pointer (some ⟨c1b,c1o,none⟩))] [] (by kernel_rfl) (Eq.mp (by kernel_rfl) h)
def ZiG:Env:={ EB with
 dr:=(λi=>bif Nat.beq i 1 then[⟨0,[],[],none,[],[]⟩,⟨1,[],[],none,[0],[]⟩,⟨2,[],[],none,[0,1],[]⟩,⟨3,[],[],none,[0,1,2],[]⟩,⟨4,[],[],none,[0,1,2,3],[]⟩,⟨5,[],[],none,[0,1,2,3,4],[]⟩,⟨6,[],[],none,[0,1,2,3],[]⟩,⟨7,[],[],none,[0,1,2,3,6],[]⟩,⟨8,[],[],none,[0,1,2,3,4,5,6,7],[]⟩,⟨9,[],[],none,[0,1,2,3,4,5,6,7,8],[]⟩,⟨10,[],[],none,[0,1,2,3,4,5,6,7,8,9],[]⟩,⟨11,[],[],none,[0,1,2,3,4,5,6,7,8,9,10],[]⟩,⟨12,[],[],none,rg 0 12,[7]⟩,⟨13,[],[],none,rg 0 13,[]⟩,⟨14,[],[],none,rg 0 14,[]⟩,⟨15,[],[],none,rg 0 15,[]⟩,⟨16,[],[],none,rg 0 16,[7]⟩,⟨17,[],[],none,rg 0 17,[7]⟩,⟨18,[],[],none,rg 0 15,[7]⟩,⟨19,[],[],none,rg 0 19,[17]⟩,⟨20,[],[],none,rg 0 20,[]⟩,⟨21,[],[],none,rg 0 21,[]⟩,⟨22,[],[],none,rg 0 22,[]⟩,⟨23,[],[],none,rg 0 23,[]⟩]else[])
 gb:=true }
theorem Zhs(c0b c0o c1b c1o:Nat)(m:Mem)(R:RT)(h:
 ∃(f:Fx),∃(v:Value),lE (m c0b (c0o+0)) λyL=>yL=some v/\chk (ZaO u8 v&&decide (u8=u8)) (br (intOf v == (3:Int)) (∃(v:Value),m c0b (c0o+2)=some v/\∃ac ad ae af ag ah ai aj ak al am an ao ap aq ar:Value,lV [ac,ad,ae,af,ag,ah,ai,aj,ak,al,am,an,ao,ap,aq,ar] λxL=>m.reads c1b c1o xL/\∃(R_1:RT),R_1=f 7 [agg (Array.mk xL)] m/\CX Tryz.prog 170 (Array.mk [agg (Array.mk xL)]) m [] R_1/\
 Za1 (Shape.int i64) R_1/\∀(n:Int)(m':Mem),m.le m'->R_1 (int i64 n) m' []->chk (ZaO i64 v&&decide (i64=i64)) (br (decide (intOf v > n)) (∀(M:Mem),m.le M->m'.le M->m'.le M->
 m'.le M->rtM m M R (bool true)) (∃(v:Value),m' c0b (c0o+0)=some v/\chk (ZaO u8 v&&decide (u8=u8)) (br (intOf v == (4:Int)) (∃v au av aw ay:Value,lV [v,au,av,aw,ay] λxL=>m'.reads c0b (c0o+3) xL/\∃(R_2:RT),R_2=f 17 [agg (Array.mk xL)] m'/\CX Tryz.prog 169 (Array.mk [agg (Array.mk xL)]) m' [] R_2/\Za1 (Shape.int i64) R_2/\∀
 (n:Int) (aa:Mem),m'.le aa->R_2 (int i64 n) aa []->∃v az a0 a1 a2 a3 a4 a5 a6 a7 a8 a9 ba bb bc bd:Value,lV [v,az,a0,a1,a2,a3,a4,a5,a6,a7,a8,a9,ba,bb,bc,bd] λxL=>m'.reads c1b c1o xL/\∃(R_3:RT),R_3 =
 f 19 [agg (Array.mk xL)] aa/\CX Tryz.prog 170 (Array.mk [agg (Array.mk xL)]) aa [] R_3/\Za1 (Shape.int i64) R_3/\∀(ab:Int)(ax:Mem),aa.le ax->R_3 (int i64 ab) ax []->∀(M:Mem),m.le M->m'.le M
 -> aa.le M->ax.le M->rtM m M R (bool (decide (n > ab)))) (∀(M:Mem),m.le M->m'.le M->m'.le M->m'.le M->rtM m M R (bool false)))))) (∃(v:Value),yL=some v/\chk (ZaO u8 v&&decide
 (u8=u8)) (br (intOf v == (4:Int)) (∃v ac ad ae af:Value,lV [v,ac,ad,ae,af] λxL=>m.reads c0b (c0o+3) xL/\∃(R_1:RT),R_1=f 17 [agg
 (Array.mk xL)] m/\CX Tryz.prog 169 (Array.mk [agg (Array.mk xL)]) m [] R_1/\Za1 (Shape.int i64) R_1/\∀(n:Int)(m':Mem),m.le m'->R_1 (int i64 n) m' []->∃v ag ah ai aj ak al am an ao ap aq ar au av aw:Value,lV [v,ag,ah,
 ai,aj,ak,al,am,an,ao,ap,aq,ar,au,av,aw] λxL=>m.reads c1b c1o xL/\∃(R_2:RT),R_2=f 19 [agg (Array.mk xL)] m'/\CX Tryz.prog 170 (Array.mk [agg (Array.mk xL)]) m' [] R_2/\Za1 (Shape.int i64)
 R_2/\∀(ab:Int)(aa:Mem),m'.le aa->R_2 (int i64 ab) aa []->∀(M:Mem),m.le M->m.le M->m'.le M->aa.le M->rtM m M R (bool (decide (n > ab)))) (∀(M:Mem),m.le M->m.le M->
 m.le M->m.le M->rtM m M R (bool false)))))):CX Tryz.prog 174 #[.pointer (some ⟨c0b,c0o,none⟩),.pointer (some ⟨c1b,c1o,none⟩)] m [] R:=
 Zae (E:=ZiG) Zal mix Tryz.func174 [.v (.pointer (some ⟨c0b,c0o,none⟩)),.v (.pointer (some ⟨c1b,c1o,none⟩))] [] (by kernel_rfl) (Eq.mp (by kernel_rfl) h)
def ZmH:Env:={ EB with
 frzNew:=[4,5,6,7]
 frzAt:=(λi=>bif Nat.beq i 21 then[9]else[]) }
theorem ZkA(aA:Int)(aH:Option Addr)(aF aI:Nat)(aJ:Option Addr)(aG aK:Nat)(bK:Int)(bL bN:Bool)(bO dK dM dN gN gO gP:Int)(dP:Option Addr)(dQ dR:Nat)(fA:ByteArray)(fB:Int)(dS:Option Addr)(dT dU:Nat)(fC:ByteArray)(fD:Int)(p2a:Option Addr)(p2n p2c:Nat)(p3:Int)(m:Mem)(R:RT)(h:
 fzM m [int i64 aA,slice aH aF aI,slice aJ aG aK] λb m'=>fzM m' [int u8 bK,bool bL,bool bN,int u8 bO,int u64 dK,int u64 dM,int u64 dN,int u64 gN,int i64 gO,int i64
 gP,slice dP dQ dR,string fA,int i64 fB,slice dS dT dU,string fC,int i64 fD] λb_1 m'=>fzM m' [slice p2a p2n p2c] λb_2 m'=>fzM m' [int i64 p3] λb_3 m'=>atA p2a
 λb_4 o=>Zag p3 p2n/\∃v v_1 v_2 v_3 v_4 v_5 v_6 v_7:Value,lV [v,v_1,v_2,v_3,v_4,v_5,v_6,v_7] λxL=>
 m'.reads b_4 (o+Int.toNat p3*8) xL/\∀(b_5:Nat),lX (Value.pointer (some (Addr.mk b_5 0 none))) λyL=>chk (v.oneCell'&&(v_1.oneCell'&&(v_2.oneCell'&&(v_3.oneCell' &&
 (v_4.oneCell'&&(v_5.oneCell'&&(v_6.oneCell'&&(v_7.oneCell'&&true)))))))) (∀(b_6:Nat),m'.free b_6->∀(m'_1:Mem),Mem.le (m'.add b_6 [int i64 307,func (Fn.func 171)
 (Array.mk []) (Array.mk [yL,Value.pointer (some (Addr.mk b_3 0 none)),Value.pointer (some (Addr.mk b_2 0 none))]),int i64 308,func (Fn.func 173) (Array.mk []) (Array.mk [Value.pointer (some (Addr.mk b 0 none)),
 yL]),int i64 309,func (Fn.func 174) (Array.mk []) (Array.mk [yL,Value.pointer (some (Addr.mk b_1 0 none))])]) m'_1->m'_1.reads b_5 0 xL->kI Tryz.prog 144 [slice (some (Addr.mk b_6 0 none)) 3 3] m'_1 λn m'=>
 rtM m m' R (int i64 n))):CX Tryz.prog 141 #[.agg #[.int .i64 aA,.slice aH aF aI,.slice aJ aG aK],.agg #[.int .u8 bK,.bool bL,.bool bN,.int .u8 bO,.int .u64 dK,.int .u64 dM,.int .u64 dN,.int .u64 gN,.int .i64 gO,.int .i64 gP,.slice dP dQ dR,.string fA,.int .i64 fB,.slice dS dT dU,.string fC,.int .i64 fD],.slice p2a p2n p2c,.int .i64 p3] m [] R:=
 Zae (E:=ZmH) Zal mix Tryz.func141 [.v (.agg #[.int .i64 aA,.slice aH aF aI,.slice aJ aG aK]),.v (.agg #[.int .u8 bK,.bool bL,.bool bN,.int .u8 bO,.int .u64 dK,.int .u64 dM,.int .u64 dN,.int .u64 gN,.int .i64 gO,.int .i64 gP,.slice dP dQ dR,.string fA,.int .i64 fB,.slice dS dT dU,.string fC,.int .i64 fD]),.v (.slice p2a p2n p2c),.v (.int .i64 p3)] [] (by kernel_rfl) (Eq.mp (by kernel_rfl) h)
def ZiH:Env:={ EB with
 loops:=(λi=>bif Nat.beq i 4 then⟨[(3,.int .i64),(4,.slice),(13,.int .i64)],[],[(41,1)],false⟩ else bif Nat.beq i 8 then⟨[(3,.int .i64),(7,.slice),(20,.int .i64)],[],[(36,1)],false⟩ else⟨[],[],[],false⟩)
 tokOf:=(λi=>bif Nat.beq i 36 then 36 else bif Nat.beq i 41 then 41 else 0)
 frzNew:=[1] }
theorem Zht(aA:Int)(aH:Option Addr)(aF aI:Nat)(aJ:Option Addr)(aG aK:Nat)(m:Mem)(R:RT)(h:
 lV [int i64 aA,slice aH aF aI,slice aJ aG aK] λxL=>fzM m xL λb m'=>∃(I:IT),lE [some (Box.mk b xL 30 3 true true)] λxL=>inI I [int i64 0,slice none 0 0,int i64 0] [] [slice none
 0 0] m'/\∀(n:Int)(a:Option Addr)(am c:Nat)(ae:Int)(bb:Option Addr)(bc bd:Nat)(ac:Mem)(a1:Nat),lX (slice bb bc bd) λyL=>lX (slice a am c) λah=>lE (am+1) λaf=>lE [some (Tok.mk yL
 1)] λai=>m'.le ac->I [int i64 n,ah,int i64 ae] [] [yL] ac a1->br (decide (ae < (↑aG:Int))) (atA aJ λb o=>Zag ae aG/\∃v ab:Value,ac.reads b (o+Int.toNat ae*2)
 [v,ab]/\∀(b:Nat),lE (some (Box.mk b [v,ab] 42 2 false true)::xL) λa2=>chk (v.oneCell'&&(ab.oneCell'&&true)) (chk (Zbd ab) (∃(aj:IT),inI aj [int i64 n,slice none 0 0,int i64 0] []
 [slice none 0 0] ac/\∀(n:Int)(an:Option Addr)(ak ao:Nat)(ag:Int)(be:Option Addr)(bf bg:Nat)(m':Mem)(ap:Nat),lX (slice be bf bg) λaq=>lV [int i64 (i64.wrap (ag+(1:Int)))] λa3
 => lX (int i64 n) λal=>lX (slice an ak ao) λad=>lE (ak+1) λaa=>ac.le m'->aj [al,ad,int i64 ag] [] [aq] m' ap->br (decide (ag < (↑(slN ab):Int))) (chk (Zbd ab) (atA (slA ab) λb o=>Zag
 ag (slN ab)/\∃v a4 a5 ar au av aw ax ay az a0 a6 a7 a8 a9 ba:Value,m'.reads b (o+Int.toNat ag*16) [v,a4,a5,ar,au,av,aw,ax,ay,az,a0,a6,a7,a8,a9,ba]/\∀(b:Nat),chk (v.oneCell'&&(a4.oneCell'
 && (a5.oneCell'&&(ar.oneCell'&&(au.oneCell'&&(av.oneCell'&&(aw.oneCell'&&(ax.oneCell'&&(ay.oneCell'&&(az.oneCell'&&(a0.oneCell'&&(a6.oneCell'
 && (a7.oneCell'&&(a8.oneCell'&&(a9.oneCell'&&(ba.oneCell'&&true)))))))))))))))) (chk (ZaO u8 v&&decide (u8=u8)) (br (intOf v == (1:Int)) (kI Tryz.prog 60 [agg (Array.mk
 [ar,au,av,aw,ax,ay,az,a0])] m' λbh m'=>∀(b:Nat),lX (int i64 (i64.wrap (n+bh))) λyL=>lM (m'.add b [yL]) λmL=>m'.free b->(Tok.mk aq 1=Tok.mk ad 1\/ad=slice none 0 0\/ao <
 aa)/\∃(xs:List Value),∃(ys:List Value),xs.length=ak*1/\ys.length=1*1/\rowRd mL an xs/\rowRd mL (some (Addr.mk b 0 none)) ys/\(∀(u:Value),u∈ys->u.oneCell'=true)/\aa*8 <=
 140737488355328/\aa<=9223372036854775807/\∀(a':Option Addr)(c':Nat)(m':Mem),mL.le m'->rowRd m' a' (List.append xs ys)->Zad a2/\ai=ai/\nxI ap aj (yL::slice a' aa c'::a3) [] [slice a' aa c']
 m') (∀(b:Nat),lM (m'.add b [al]) λmL=>m'.free b->(Tok.mk aq 1=Tok.mk ad 1\/ad=slice none 0 0\/ao < aa)/\∃(xs:List Value),∃(ys:List Value),xs.length=ak*1/\ys.length=1*1
 /\ rowRd mL an xs/\rowRd mL (some (Addr.mk b 0 none)) ys/\(∀(u:Value),u∈ys->u.oneCell'=true)/\aa*8<=140737488355328/\aa<=9223372036854775807/\∀(a':Option Addr)(c':Nat)(m':Mem),mL.le m'->rowRd m' a' (List.append xs ys)->Zad a2/\ai=ai/\nxI ap aj (al::slice a' aa c'::a3) [] [slice a' aa c'] m'))))) (∀(b:Nat),lM (m'.add b [ad]) λmL=>m'.free b->(Tok.mk yL 1=Tok.mk ah 1\/
 ah=slice none 0 0\/c < af)/\∃(xs:List Value),∃(ys:List Value),xs.length=am*1/\ys.length=1*1/\rowRd mL a xs/\rowRd mL (some (Addr.mk b 0 none)) ys/\(∀(u:Value),u∈ys->
 u.oneCell'=true)/\af*24<=140737488355328/\af<=9223372036854775807/\∀(a':Option Addr)(c':Nat)(m':Mem),mL.le m'->rowRd m' a' (List.append xs ys)->Zad xL/\nxI a1 I [al,slice a' af c',
 int i64 (i64.wrap (ae+(1:Int)))] [] [slice a' af c'] m')))) (rtM m ac R ah)):CX Tryz.prog 117 #[.agg #[.int .i64 aA,.slice aH aF aI,.slice aJ aG aK]] m [] R:=
 Zae (E:=ZiH) Zal mix Tryz.func117 [.v (.agg #[.int .i64 aA,.slice aH aF aI,.slice aJ aG aK])] [] (by kernel_rfl) (Eq.mp (by kernel_rfl) h)
def ZqJ:Env:={ EB with
 dr:=(λi=>bif Nat.beq i 7 then[⟨0,[3],[],none,[],[]⟩,⟨1,[3],[],none,[0],[]⟩,⟨2,[5],[],none,[],[]⟩,⟨3,[5],[],none,[2],[]⟩,⟨4,[],[],none,[0,1,2,3],[]⟩,⟨5,[],[],none,[0,1,2,3,4],[]⟩,⟨6,[],[],none,[0,1,2,3,4,5],[]⟩,⟨7,[5],[],none,[],[]⟩,⟨8,[5],[],none,[7],[]⟩,⟨9,[],[],none,[0,1,2,3,4,5,6,7,8],[]⟩,⟨10,[],[],none,[0,1,2,3,4,5,6,7,8,9],[]⟩,⟨11,[7],[7],none,[],[]⟩,⟨12,[7],[7],none,rg 0 12,[]⟩]else bif Nat.beq i 9 then[⟨0,[3],[],none,[],[]⟩,⟨1,[7],[],none,[],[]⟩,⟨2,[],[],none,[],[]⟩,⟨3,[5],[],none,[],[]⟩,⟨4,[5],[],none,[3],[]⟩,⟨5,[],[],none,[2,3,4],[]⟩,⟨6,[],[],none,[2,3,4,5],[]⟩,⟨7,[5],[],none,[],[]⟩,⟨8,[5],[],none,[7],[]⟩,⟨9,[],[],none,[2,3,4,5,6,7,8],[]⟩,⟨10,[],[],none,[2,3,4,5,6,7,8,9],[]⟩,⟨11,[],[],none,[0,1,2,3,4,5,6,7,8,9,10],[]⟩,⟨12,[],[],none,rg 0 12,[]⟩]else bif Nat.beq i 11 then[⟨0,[3],[],none,[],[]⟩,⟨1,[7],[],none,[],[]⟩,⟨2,[7],[],none,[],[]⟩,⟨3,[7],[],none,[2],[]⟩,⟨4,[5],[],none,[],[]⟩,⟨5,[5],[],none,[4],[]⟩,⟨6,[],[],none,[2,3,4,5],[]⟩,⟨7,[],[],none,[2,3,4,5,6],[]⟩,⟨8,[],[],none,[0,1,2,3,4,5,6,7],[]⟩,⟨9,[],[],none,[0,1,2,3,4,5,6,7,8],[]⟩]else bif Nat.beq i 12 then[⟨0,[3],[],none,[],[]⟩,⟨1,[7],[],none,[],[]⟩,⟨2,[7],[],none,[],[]⟩,⟨3,[7],[],none,[2],[]⟩,⟨4,[5],[],none,[],[]⟩,⟨5,[5],[],none,[4],[]⟩,⟨6,[],[],none,[2,3,4,5],[]⟩,⟨7,[],[],none,[2,3,4,5,6],[]⟩,⟨8,[],[],none,[2,3,4,5,6,7],[]⟩,⟨9,[5],[],none,[],[]⟩,⟨10,[5],[],none,[9],[]⟩,⟨11,[],[],none,[0,1,2,3,4,5,6,7,8,9,10],[]⟩,⟨12,[],[],none,rg 0 12,[]⟩]else[])
 frzNew:=[3,5] }
theorem ZoZ(aA:Int)(aH:Option Addr)(aF aI:Nat)(aJ:Option Addr)(aG aK:Nat)(p1a:Option Addr)(p1n p1c:Nat)(eW eH fJ eI gB:Int)(m:Mem)(R:RT)(h:
 lV [int i64 gB] λxL=>lV [int i64 aA,slice aH aF aI,slice aJ aG aK] λad=>lX (agg (Array.mk ad)) λyL=>fzM m ad λb m'=>fzM m' (int i64 eW::int i64 eH::int i64 fJ::int
 i64 eI::xL) λb m'=>br (decide (eW ≥ (0:Int))) (kI Tryz.prog 136 [yL,int i64 eW] m' λn m'=>rtM m m' R (int i64 n)) (br (decide (eH < (0:Int))) (kI Tryz.prog 137 [yL] m' λn m'=>rtM m m' R
 (int i64 n)) (br (decide (fJ < (0:Int))) (kI Tryz.prog 138 [yL,int i64 eH] m' λn m'=>rtM m m' R (int i64 n)) (atA aJ λb o=>Zag eH aG/\∃(v:Value),m' b (o+Int.toNat eH*2+1)=some
 v/\chk (Zbd v) (atA (slA v) λb o=>Zag fJ (slN v)/\∃v ae af ag ah ai aj ak al am an ao ap ab aq ar:Value,lV [v,ae,af,ag,ah,ai,aj,ak,al,am,an,ao,ap,ab,aq,ar] λau=>lX (agg (Array.mk au)) λac=>
 m'.reads b (o+Int.toNat fJ*16) au/\∀(b:Nat),chk (v.oneCell'&&(ae.oneCell'&&(af.oneCell'&&(ag.oneCell'&&(ah.oneCell'&&(ai.oneCell'&&(aj.oneCell' &&
 (ak.oneCell'&&(al.oneCell'&&(am.oneCell'&&(an.oneCell'&&(ao.oneCell'&&(ap.oneCell'&&(ab.oneCell'&&(aq.oneCell'&&(ar.oneCell'&&true))))))))))))))))
 (br (decide (eI < (0:Int))) (∃(f:Fx),atA p1a λb o=>Zag eH p1n/\∃(v:Value),m' b (o+Int.toNat eH*1)=some v/\chk (Zbd v) (atA (slA v) λb o=>Zag fJ (slN v)/\∃(v:Value),m' b
 (o+Int.toNat fJ*1)=some v/\∃(R_1:RT),R_1=f 11 [yL,ac,v] m'/\CX Tryz.prog 139 (Array.mk [yL,ac,v]) m' [] R_1/\Za1 (Shape.int i64) R_1/\∀(n:Int)(aa:Mem),m'.le aa->R_1 (int i64 n) aa []->
 ∀(M:Mem),m'.le M->aa.le M->rtM m M R (int i64 n))) (br (decide (gB < (0:Int))) (∃(f:Fx),chk (Zbd ab) (atA (slA ab) λb o=>Zag eI (slN ab)/\∃v av aw ax ay az a0 a1:Value,lV [v,av,aw,ax,ay,az,a0,a1] λxL=>m'.reads b (o+Int.toNat eI*8) xL/\∃(R_1:RT),R_1=f 8 [yL,ac,agg (Array.mk
 xL)] m'/\CX Tryz.prog 140 (Array.mk [yL,ac,agg (Array.mk xL)]) m' [] R_1/\Za1 (Shape.int i64) R_1/\∀(n:Int)(aa:Mem),m'.le aa->R_1 (int i64 n) aa []->∀(M:Mem),m'.le M->aa.le M->rtM m M R
 (int i64 n))) (∃(f:Fx),chk (Zbd ab) (atA (slA ab) λb o=>Zag eI (slN ab)/\∃(v:Value),m' b (o+Int.toNat eI*8+2)=some v/\∃(R_1:RT),R_1=f 11 (yL::ac::v::xL) m'/\CX Tryz.prog 141
 (Array.mk (yL::ac::v::xL)) m' [] R_1/\Za1 (Shape.int i64) R_1/\∀(n:Int)(aa:Mem),m'.le aa->R_1 (int i64 n) aa []->∀(M:Mem),m'.le M->aa.le M->rtM m M R (int i64 n)))))))))):CX Tryz.prog 119 #[.agg #[.int .i64 aA,.slice aH aF aI,.slice aJ aG aK],.slice p1a p1n p1c,.agg #[.int .i64 eW,.int .i64 eH,.int .i64 fJ,.int .i64 eI,.int .i64 gB]] m [] R:=
 Zae (E:=ZqJ) Zal mix Tryz.func119 [.v (.agg #[.int .i64 aA,.slice aH aF aI,.slice aJ aG aK]),.v (.slice p1a p1n p1c),.v (.agg #[.int .i64 eW,.int .i64 eH,.int .i64 fJ,.int .i64 eI,.int .i64 gB])] [] (by kernel_rfl) (Eq.mp (by kernel_rfl) h)
def Zgs:Env:={ EB with
 frzNew:=[1] }
theorem Zfx(aA:Int)(aH:Option Addr)(aF aI:Nat)(aJ:Option Addr)(aG aK:Nat)(m:Mem)(R:RT)(h:
 fzM m [int i64 aA,slice aH aF aI,slice aJ aG aK] λb m'=>rtM m m' R (func (Fn.func 116) (Array.mk []) (Array.mk [Value.pointer (some (Addr.mk b 0 none))]))):CX Tryz.prog 88 #[.agg #[.int .i64 aA,.slice aH aF aI,.slice aJ aG aK]] m [] R:=
 Zae (E:=Zgs) Zal mix Tryz.func88 [.v (.agg #[.int .i64 aA,.slice aH aF aI,.slice aJ aG aK])] [] (by kernel_rfl) (Eq.mp (by kernel_rfl) h)
def ZeM:Env:={ EB with
 loops:=(λi=>bif Nat.beq i 2 then⟨[(12,.int .i64)],[],[],true⟩ else⟨[],[],[],false⟩) }
theorem Zen(p0g:Nat)(p0fi p0ca:List Value)(c0b c0o:Nat)(m:Mem)(xs:List (List Value))(h:
 ∀(l:Nat),∃v v_1 v_2:Value,m.reads c0b c0o [v,v_1,v_2]/\kS Tryz.prog 117 [agg (Array.mk [v,v_1,v_2])] m λa n c m'=>∃v v_3 v_4:Value,m'.reads c0b c0o [v,v_3,v_4]/\kS Tryz.prog 118 [agg (Array.mk [v,v_3,v_4])] m' λa_1 n_1 c_1 m'=>∃(I:IT),inI I [int i64 0,int i64 0] [] [] m'/\∀(y n_2:Int)(m'_1:Mem)(n_3:Nat),lV [int i64
 (i64.wrap (n_2+(1:Int)))] λxL=>m'.le m'_1->I [int i64 y,int i64 n_2] [] [] m'_1 n_3->br (decide (n_2 < (↑n_1:Int))) (atA a_1 λb o=>Zag n_2 n_1/\∃v v_5 v_6 v_7 v_8:Value,m'_1.reads b (o+Int.toNat n_2*5) [v,v_5,v_6,v_7,v_8]/\∀(b:Nat),chk (v.oneCell'&&(v_5.oneCell'&&(v_6.oneCell'&&(v_7.oneCell' &&
 (v_8.oneCell'&&true))))) (∃v_9 v_10 v_11:Value,m'_1.reads c0b c0o [v_9,v_10,v_11]/\kI Tryz.prog 119 [agg (Array.mk [v_9,v_10,v_11]),slice a n c,agg (Array.mk [v,v_5,
 v_6,v_7,v_8])] m'_1 λn m'=>br (!n == (0:Int)) ((l=l/\(0:Int)<=y/\List.get?Internal xs (Int.toNat y)=some [agg (Array.mk [v,v_5,v_6,v_7,v_8,int i64 n])])/\nxI n_3 I (int i64 (y+(1:Int))::xL)
 [] [] m'/\((-1:Int)=(↑(xs.length):Int)\/(-1:Int)=(-1:Int))) (nxI n_3 I (int i64 y::xL) [] [] m'))) (y=(↑(xs.length):Int)\/y=(-1:Int))):IX Tryz.prog 116 [] [.pointer (some ⟨c0b,c0o,none⟩)] m xs:=
 Zg5 (E:=ZeM) Zal mix Tryz.func116 [] [.pointer (some ⟨c0b,c0o,none⟩)] xs (by kernel_rfl) (Eq.mp (by kernel_rfl) h)
def ZkB:Env:={ EB with
 loops:=(λi=>bif Nat.beq i 6 then⟨[(13,.agg [.int .i64,.int .i64,.int .i64,.int .i64,.int .i64,.int .i64])],[2,3],[],false⟩ else⟨[],[],[],false⟩)
 dr:=(λi=>bif Nat.beq i 6 then[⟨0,[5],[],none,[],[]⟩,⟨1,[5],[],none,[0],[]⟩,⟨2,[5],[],none,[],[]⟩,⟨3,[5],[],none,[2],[]⟩,⟨4,[2],[2],none,[0,1],[]⟩,⟨5,[3],[3],none,[0,1,2,3,4],[]⟩]else[])
 frzNew:=[1] }
theorem ZiI(aA:Int)(aH:Option Addr)(aF aI:Nat)(aJ:Option Addr)(aG aK:Nat)(m:Mem)(R:RT)(h:
 lV [int i64 aA,slice aH aF aI,slice aJ aG aK] λxL=>fzM m xL λb m'=>∀(b_1 b_2 b_3:Nat),kB Tryz.prog 38 [agg (Array.mk xL)] m' λb_4 m'=>br (!b_4) (rtM m m' R (tuple (Array.mk [agg
 (Array.mk [int i64 (-1:Int),int i64 (-1:Int),int i64 (-1:Int),int i64 (-1:Int),int i64 (-1:Int)]),int i64 5]))) (kF Tryz.prog 88 [agg (Array.mk xL)] m' λg fi ca m'=>∃(xs:List (List Value)),IX
 Tryz.prog g fi ca m' xs/\(∀(x:List Value),x∈xs->Shape.fitsL [Shape.agg [Shape.int i64,Shape.int i64,Shape.int i64,Shape.int i64,Shape.int i64,Shape.int i64]] x=true)/\∃(I:IT),I [] [[int i64 0,int
 i64 0,int i64 0,int i64 0,int i64 0],[int i64 0]] [] m' 0/\(∀(n n_1 n_2 n_3 n_4 n_5:Int)(cs cs_1:List Value)(m'_1:Mem)(n_6:Nat),m'.le m'_1->List.get?Internal xs n_6=some [agg (Array.mk [int i64
 n,int i64 n_1,int i64 n_2,int i64 n_3,int i64 n_4,int i64 n_5])]->I [] [cs,cs_1] [] m'_1 n_6->∀(b_5:Nat),Zad [some (Box.mk b_3 [int i64 (-1:Int),int i64 (-1:Int),int i64 (-1:Int),int i64 (-1:
 Int),int i64 (-1:Int)] 119 5 false true),some (Box.mk b_2 [] 33 1 false true),some (Box.mk b_1 [] 119 5 false true),some (Box.mk b xL 30 3 true true)]/\rtM m m'_1 R (tuple (Array.mk [agg (Array.mk [int i64 n,int
 i64 n_1,int i64 n_2,int i64 n_3,int i64 n_4]),int i64 n_5])))/\∀(cs cs_1:List Value)(m'_1:Mem),m'.le m'_1->I [] [cs,cs_1] [] m'_1 (xs.length)->rtM m m'_1 R (tuple (Array.mk [agg (Array.mk [int
 i64 (-1:Int),int i64 (-1:Int),int i64 (-1:Int),int i64 (-1:Int),int i64 (-1:Int)]),int i64 0])))):CX Tryz.prog 51 #[.agg #[.int .i64 aA,.slice aH aF aI,.slice aJ aG aK]] m [] R:=
 Zae (E:=ZkB) Zal mix Tryz.func51 [.v (.agg #[.int .i64 aA,.slice aH aF aI,.slice aJ aG aK])] [] (by kernel_rfl) (Eq.mp (by kernel_rfl) h)
def ZkC:Env:={ EB with
 frzNew:=[1] }
theorem ZiJ(aA:Int)(aH:Option Addr)(aF aI:Nat)(aJ:Option Addr)(aG aK:Nat)(m:Mem)(R:RT)(h:
 lV [int i64 aA,slice aH aF aI,slice aJ aG aK] λxL=>fzM m xL λb m'=>∃(R_1:RT),True/\CX Tryz.prog 51 (Array.mk [agg (Array.mk xL)]) m' [] R_1/\Za1 (Shape.tup [Shape.agg [Shape.int
 i64,Shape.int i64,Shape.int i64,Shape.int i64,Shape.int i64],Shape.int i64]) R_1/\∀(n n_1 n_2 n_3 n_4 n_5:Int)(m'_1:Mem),m'.le m'_1->R_1 (tuple (Array.mk [agg (Array.mk [int i64 n,int i64 n_1,int i64
 n_2,int i64 n_3,int i64 n_4]),int i64 n_5])) m'_1 []->∀(b:Nat),rtM m m'_1 R (bool (n_5 == (0:Int)))):CX Tryz.prog 22 #[.agg #[.int .i64 aA,.slice aH aF aI,.slice aJ aG aK]] m [] R:=
 Zae (E:=ZkC) Zal mix Tryz.func22 [.v (.agg #[.int .i64 aA,.slice aH aF aI,.slice aJ aG aK])] [] (by kernel_rfl) (Eq.mp (by kernel_rfl) h)
end Go.Proofs.YtojlhhphofhaoaaGreatDoor
end
