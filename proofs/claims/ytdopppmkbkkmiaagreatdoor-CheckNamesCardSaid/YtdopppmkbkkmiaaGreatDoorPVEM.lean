/- Part of the proof: functions of the program. No condition. -/
import Derived.Test.YtdopppmkbkkmiaaGreatDoorPEnv
set_option linter.unusedVariables false
set_option linter.unusedSimpArgs false
set_option linter.unusedSectionVars false
noncomputable section
namespace Go.Proofs.YtdopppmkbkkmiaaGreatDoor
open Go Go.Eng Go.Proofs Go.RowKit
open Go.Value (int slice agg bool string tuple func)
open Go.IntKind (u8 u64 i64)
set_option maxRecDepth 100000
def ZrS:Env:={ EB with
 exv:=swI false [(1,true)] }
theorem Zp2  (m:Mem)(R:RT)(h:
 ∃(v:Value),Zow pG 107 [int u64 9221120237041090561] v/\rtM m m R v):CX Tryz.prog 108 #[] m [] R:=
 Zad (E:=ZrS) Zam mix Tryz.func108 (by kernel_rfl) (Eq.mp (by kernel_rfl) h)
def Zp3:Env:=EB
theorem Zne(p0:Value)(m:Mem)(R:RT)(h:
 ∀(b:Nat),lV (Array.toList (Value.cells p0)) λxL=>lV (List.append xL (List.drop (1+xL.length) [int u8 8,Value.float .f64 0,string bE0,int i64 0,slice none 0 0])) λxL_1=>chk (Nat.beq (xL.length) 1&&true) (chk
 (Nat.beq (xL_1.length) (nat_lit 4)&&Zds xL_1) (rtM m m R (agg (.mk (ZaB [int u8 8,Value.float .f64 0,string bE0,int i64 0,slice none 0 0] 1 xL)))))):CX Tryz.prog 109 #[p0] m [] R:=
 Zad (E:=Zp3) Zam mix Tryz.func109 (by kernel_rfl) (Eq.mp (by kernel_rfl) h)
def Znf:Env:=EB
theorem ZkM(p0:ByteArray)(m:Mem)(R:RT)(h:
 ∀(b:Nat),rtM m m R (agg (.mk [int u8 9,Value.float .f64 0,string p0,int i64 0,slice none 0 0]))):CX Tryz.prog 110 #[.string p0] m [] R:=
 Zad (E:=Znf) Zam mix Tryz.func110 (by kernel_rfl) (Eq.mp (by kernel_rfl) h)
def ZkN:Env:=EB
theorem ZiW  (m:Mem)(R:RT)(h:
 ∀b,m.free b->rtM m (m.add b [string (.mk (.mk [120])),string (.mk (.mk [121])),string (.mk (.mk [122,95,49])),string (.mk (.mk [97,98,99,100,101,102,103,104,105,106,107,108,109,110,111,112]))]) R (slice
 (some (Addr.mk b 0 none)) 4 4)):CX Tryz.prog 111 #[] m [] R:=
 Zad (E:=ZkN) Zam mix Tryz.func111 (by kernel_rfl) (Eq.mp (by kernel_rfl) h)
def Zp4:Env:={ EB with
 frzNew:=[1] }
theorem Zng(aA:Int)(aC:Value)(aE:ByteArray)(aF:Int)(bB:Option Addr)(aZ bE:Nat)(m:Mem)(R:RT)(h:
 lV [int u8 aA,aC,string aE,int i64 aF,slice bB aZ bE] λxL=>fzM m xL λb m'=>∀(b:Nat) b,m'.free b->rtM m (m'.add b xL) R (agg (.mk [int u8 1,Value.float .f64 0,string bE0,int i64 0,slice (some
 (Addr.mk b 0 none)) 1 1]))):CX Tryz.prog 112 #[.agg #[.int .u8 aA,aC,.string aE,.int .i64 aF,.slice bB aZ bE]] m [] R:=
 Zad (E:=Zp4) Zam mix Tryz.func112 (by kernel_rfl) (Eq.mp (by kernel_rfl) h)
def ZrT:Env:={ EB with
 frzNew:=[4,5] }
theorem Zp5(p0 bN:Int)(bR:Value)(bO:ByteArray)(bW:Int)(dA:Option Addr)(cZ dE:Nat)(gG:Int)(eY:Value)(gO:ByteArray)(fL:Int)(nF:Option Addr)(nG nH:Nat)(m:Mem)(R:RT)(h:
 lV [int u8 gG,eY,string gO,int i64 fL,slice nF nG nH] λxL=>fzM m [int u8 bN,bR,string bO,int i64 bW,slice dA cZ dE] λb m'=>fzM m' xL λb m'=>∀(b:Nat) b,m'.free b->rtM m
 (m'.add b (int u8 bN::bR::string bO::int i64 bW::slice dA cZ dE::xL)) R (agg (.mk [int u8 p0,Value.float .f64 0,string bE0,int i64 0,slice (some (Addr.mk b 0 none)) 2 2]))):CX Tryz.prog 113 #[.int .u8 p0,.agg #[.int .u8 bN,bR,.string bO,.int .i64 bW,.slice dA cZ dE],.agg #[.int .u8 gG,eY,.string gO,.int .i64 fL,.slice nF nG nH]] m [] R:=
 Zad (E:=ZrT) Zam mix Tryz.func113 (by kernel_rfl) (Eq.mp (by kernel_rfl) h)
def Znh:Env:={ EB with
 loops:=swI nLa [(3,⟨[(3,.slice),(18,.int .i64)],[],[(49,5)],false⟩),(28,⟨[(137,.int .i64)],[9],[],false⟩)]
 joins:=swI none [(18,some [(74,.bool)]),(21,some [(98,.bool)])]
 dr:=swI [] [(15,[dO 0 [],dO 1 [],⟨2,[5],[],none,[],[]⟩,⟨3,[5],[],none,[2],[]⟩,dO 4 [2,3],dO 5 [1,2,3,4],⟨6,[],[],none,[1,2,3,4,5],[1]⟩,⟨7,[],[],none,[1,2,3,4,5,6],[1]⟩,⟨8,[61],[61],none,[1,2,3,4,5,6,7],[7]⟩,⟨9,[61],[],some 49,[0,1,2,3,4,5,6,7,8],[8]⟩,dO 10 [0,1,2,3,4,5,6,7,8,9]]),(22,[dO 0 [],dO 1 [],dO 2 [1],dO 3 [],dO 4 [3],dO 5 [0,1,2,3,4],dO 6 [],dO 7 [6],dO 8 [],dO 9 [],dO 10 [9],dO 11 [8,9,10],dO 12 [8,9,10,11],dO 13 [],dO 14 [],dO 15 [14],dO 16 [13,14,15],dO 17 [13,14,15,16],dO 18 (rg 6 12),⟨19,[124],[124],none,rg 6 13,[18]⟩,⟨20,[124],[],some 49,rg 0 20,[19]⟩,dO 21 (rg 0 21)])]
 tokOf:=swI 0 [(49,49),(62,49),(73,49),(125,49)]
 exv:=swI false [(40,true)]
 thaw:=true
 stAt:=swI none [(97,some 49)]
 cuts:=swI none [(11,some ⟨[(8,.any)],[],[],false⟩),(13,some ⟨[(8,.any)],[],[],false⟩)]
 ldF:=swI none [(25,some (.int .u8)),(31,some (.int .u8)),(56,some (.int .u8)),(68,some (.int .u8)),(36,some (.int .u64)),(39,some (.int .u64)),(59,some (.str)),(86,some (.int .u8))] }
theorem ZkO(p0a:Option Addr)(p0n p0c:Nat)(m:Mem)(R:RT)(h:
 ∀b,lE (if(60:Int) < (↑p0n:Int)then(60:Int)else(↑p0n:Int)) λyL=>lE [some (Box.mk b [int u8 0,Value.float .f64 0,string bE0,int i64 0,slice none 0 0] 52 5 false true)] λxL=>((0:Int)<=yL/\yL<=(↑p0c:
 Int))/\∃I,inI I [slice none 0 0,int i64 0] [] [slice none 0 0] m/\∀(a:Option Addr)(n:Nat) c (a3:Int) bj ba bd (m':Mem) (ak:Nat),lE (↑n:Int) λav=>lE (i64.wrap (av - (2:Int))) λaw=>lE (Int.toNat aw)
 λax=>lE (ax - 0) λa4=>lX (slice (Zbb a 0 ax 5) a4 a4) λbe=>lX (slice bj ba bd) λay=>lE (Tok.mk ay 5) λa5=>lE (a4+1) λaz=>lE (i64.wrap (av - (1:Int))) λa6=>lE (Int.toNat a6*5) λa7=>
 lX (slice a n c) λag=>lE (n+1) λab=>lV [int i64 (i64.wrap (a3+1))] λar=>lE [some a5] λac=>True->I [ag,int i64 a3] [] [ay] m' ak->br (decide (a3 < (↑(Int.toNat yL - 0):Int))) (atA (Zbb p0a 0 p0c 3)
 λb o=>Zag a3 (Int.toNat yL - 0)/\∃v ai al:Value,lV [v,ai,al] λa8=>m'.reads b (o+Int.toNat a3*3) a8/\∀b,lE (some (Box.mk b a8 183 3 false true)::xL) λam=>chk (v.oneCell'&&(ai.oneCell' &&
 (al.oneCell'&&true))) (∃(ah:Int),lE (Int.tmod ah (12:Int)) λyL=>lX (int u8 (u8.wrap (yL - (4:Int)))) λbk=>v=int u8 ah/\(12:Int)≠0/\br (decide (yL < 2)) (∃ad,ai=int u8 ad/\∃(u:Value),ConvIs pG
 184 49 (int IntKind.i8 (IntKind.wrap IntKind.i8 ad)) u/\∃(v:Value),BinIs pG BinOp.quo 49 u (Value.float .f64 4616189618054758400) v/\∃(J:JT),(∃n,al=int u64 n/\br (!n == 0) (∃n,al=int u64 n/\∃(v:Value),Zow
 pG 107 [int u64 n] v/\Zae am/\ac=ac/\J [v] [] [] m') (Zae am/\ac=ac/\J [v] [] [] m'))/\∀(v:Value)(m':Mem),True->J [v] [] [] m'->∃(J:JT),(∃(b:Bool),BinIs pG BinOp.neq 49 v v (bool b)/\br b (∃R,
 True/\CX pG 108 (.mk []) m' [] R/\(∀(v:Value)(m':Mem) (css:List (List Value)),R v m' css->true=true)/\∀(v:Value) aa,m'.le aa->R v aa []->Zae am/\ac=ac/\J [v] [] [] aa) (Zae am/\ac=ac/\J [v] [] []
 m'))/\∀(v:Value)(m':Mem),True->J [v] [] [] m'->∃R,True/\CX pG 109 (.mk [v]) m' [] R/\Za7 (.agg [.int u8,.any,.str,.int i64,.slice]) R/\∀af (v:Value) s au bl a9 bb aa,lV [int u8 af,v,string s,int i64 au,
 slice bl a9 bb] λae=>m'.le aa->R (agg (.mk ae)) aa []->∀b,lM (aa.add b ae) λmL=>aa.free b->(a5=Tok.mk ag 5\/ag=slice none 0 0\/c < ab)/\∃(xs:List Value),∃(ys:List Value),xs.length=n*5/\ys.length
 = 1*5/\rowRd mL a xs/\rowRd mL (some (Addr.mk b 0 none)) ys/\(∀(u:Value),u∈ys->u.oneCell'=true)/\ab*64<=140737488355328/\ab<=9223372036854775807/\∀(a':Option Addr)(c':Nat) m',mL.le m'->rowRd m' a'
 (List.append xs ys)->TokFact mL a a' ab c'->Zae xL/\nxI ak I (slice a' ab c'::ar) [] [slice a' ab c'] m') (br (decide (yL < 4)) (∃(f:Fx),∃R,R=f 1 [] m'/\CX pG 111 (.mk []) m' [] R/\Za7 .slice R/\∀a0 ad bb aa,
 m'.le aa->R (slice a0 ad bb) aa []->∃af,ai=int u8 af/\(4:Int)≠0/\atA a0 λb o=>Zag (Int.tmod af (4:Int)) ad/\∃(v:Value),aa b (o+Int.toNat (Int.tmod af (4:Int))*1)=some v/\∃s,v=string s/\∃
 R,R=f 7 [string s] aa/\CX pG 110 (.mk [string s]) aa [] R/\Za7 (.agg [.int u8,.any,.str,.int i64,.slice]) R/\∀au (v:Value) s a9 bm bn bo aj,lV [int u8 au,v,string s,int i64 a9,slice bm bn bo] λae=>aa.le aj
 -> R (agg (.mk ae)) aj []->∀b,lM (aj.add b ae) λmL=>aj.free b->(a5=Tok.mk ag 5\/ag=slice none 0 0\/c < ab)/\∃(xs:List Value),∃(ys:List Value),xs.length=n*5/\ys.length=1*5/\rowRd mL a xs/\rowRd mL
 (some (Addr.mk b 0 none)) ys/\(∀(u:Value),u∈ys->u.oneCell'=true)/\ab*64<=140737488355328/\ab<=9223372036854775807/\∀(a':Option Addr)(c':Nat) bc,mL.le bc->rowRd bc a' (List.append xs ys)->TokFact mL a a'
 ab c'->∀M,m'.le M->aa.le M->aj.le M->mL.le M->bc.le M->Zae xL/\nxI ak I (slice a' ab c'::ar) [] [slice a' ab c'] M) (br (yL == 4) (∃(ad:Int),lV [int u8 10,Value.float .f64 0,string bE0,int i64 (i64.wrap
 (Int.tmod ad (10:Int))),slice none 0 0] λae=>ai=int u8 ad/\(10:Int)≠0/\∀b,lM (m'.add b ae) λmL=>m'.free b->(a5=Tok.mk ag 5\/ag=slice none 0 0\/c < ab)/\∃(xs:List Value),∃(ys:List Value),
 xs.length=n*5/\ys.length=1*5/\rowRd mL a xs/\rowRd mL (some (Addr.mk b 0 none)) ys/\(∀(u:Value),u∈ys->u.oneCell'=true)/\ab*64<=140737488355328/\ab<=9223372036854775807/\∀(a':Option Addr)(c':Nat)
 m',mL.le m'->rowRd m' a' (List.append xs ys)->TokFact mL a a' ab c'->Zae xL/\nxI ak I (slice a' ab c'::ar) [] [slice a' ab c'] m') (∃(b:Bool),br (yL == 5) (Zae am/\ac=ac/\[bool (decide (av > 0))]=[bool b])
 (Zae am/\ac=ac/\[bool false]=[bool b])/\br b (atA a λb o=>Zag a6 n/\∃(v:Value),m' b (o+a7+0)=some v/\∃ad,v=int u8 ad/\br (!ad == 8) (atA a λb o=>Zag a6 n/\∃v an ao ap aq:Value,
 m'.reads b (o+a7) [v,an,ao,ap,aq]/\∃R,True/\CX pG 112 (.mk [agg (.mk [v,an,ao,ap,aq])]) m' [] R/\Za7 (.agg [.int u8,.any,.str,.int i64,.slice]) R/\∀af (v:Value) s au a0 a9 c aa,lV [int u8 af,v,string s,
 int i64 au,slice a0 a9 c] λae=>m'.le aa->R (agg (.mk ae)) aa []->atA a λb o=>Zag a6 n/\chk (v.oneCell'&&true) (ay=slice (some (Addr.mk b 0 none)) ba bd/\o+a7+5<=ba*5/\Zae xL/\nxI ak I (ag::ar)
 [] [ay] (Mem.upd aa b (o+a7) ae))) (Zae xL/\nxI ak I (ag::ar) [] [ay] m')) (∃(b:Bool),br (decide (yL > 5)) (Zae am/\ac=ac/\[bool (decide (av > 1))]=[bool b]) (Zae am/\ac=ac/\[bool false]=[bool b])/\
 br b (∃(f:Fx),((0:Int)<=aw/\aw<=(↑c:Int))/\((0:Int)<=aw/\aw<=(↑ax:Int))/\atA a λb o=>Zag aw n/\∃v an ao ap aq:Value,lV [v,an,ao,ap,aq] λae=>m'.reads b (o+ax*5) ae/\atA a λb o=>
 Zag a6 n/\∃v a1 a2 bf bg:Value,lV [bk,agg (.mk ae),agg (.mk [v,a1,a2,bf,bg])] λbh=>m'.reads b (o+a7) [v,a1,a2,bf,bg]/\∃R,R=f 18 bh m'/\CX pG 113 (.mk bh) m' [] R/\Za7 (.agg [.int u8,.any,.str,
 .int i64,.slice]) R/\∀n (v:Value) s ad a0 af c aa,lV [int u8 n,v,string s,int i64 ad,slice a0 af c] λbi=>m'.le aa->R (agg (.mk bi)) aa []->∀b,lM (aa.add b bi) λmL=>aa.free b->(a5=Tok.mk be 5\/be=slice
 none 0 0\/a4 < az)/\∃(xs:List Value),∃(ys:List Value),xs.length=a4*5/\ys.length=1*5/\rowRd mL (Zbb a 0 ax 5) xs/\rowRd mL (some (Addr.mk b 0 none)) ys/\(∀(u:Value),u∈ys->u.oneCell'=true)/\az*64
 <= 140737488355328/\az<=9223372036854775807/\∀(a':Option Addr)(c':Nat) aj,mL.le aj->rowRd aj a' (List.append xs ys)->TokFact mL (Zbb a 0 ax 5) a' az c'->∀M,m'.le M->aa.le M->mL.le M->aj.le M->Zae xL/\nxI
 ak I (slice a' az c'::ar) [] [slice a' az c'] M) (Zae xL/\nxI ak I (ag::ar) [] [ay] m'))))))) (br (av == 0) (∃R_1,True/\CX pG 109 (.mk [Value.float .f64 4607182418800017408]) m' [] R_1/\Za7 (.agg [.int u8,.any,.str,
 .int i64,.slice]) R_1/\∀n (v:Value) s ah a ad c aa,lX (agg (.mk [int u8 n,v,string s,int i64 ah,slice a ad c])) λyL=>m'.le aa->R_1 yL aa []->chk (v.oneCell'&&true) (rtM m aa R yL)) (atA a λb o=>Zag (0:
 Int) n/\∃v ai al an ao:Value,m'.reads b (o+0) [v,ai,al,an,ao]/\∀b,chk (v.oneCell'&&(ai.oneCell'&&(al.oneCell'&&(an.oneCell'&&(ao.oneCell'&&true))))) (((0:Int)<=1/\(1:Int)<=av)/\∃I,inI I [int i64
 0] [[v,ai,al,an,ao]] [] m'/\∀ah (cs:List Value) (m':Mem) (ad:Nat),True->I [int i64 ah] [cs] [] m' ad->br (decide (ah < (↑(n - Int.toNat (1:Int)):Int))) (atA (Zbb a (Int.toNat (1:Int)) c 5) λbp o=>
 Zag ah (n - Int.toNat (1:Int))/\∃v ap aq a1 a2:Value,m'.reads bp (o+Int.toNat ah*5) [v,ap,aq,a1,a2]/\∀(bq:Nat),chk (v.oneCell'&&(ap.oneCell'&&(aq.oneCell'&&(a1.oneCell'&&(a2.oneCell'&&true))))) (∃
 R,True/\CX pG 113 (.mk [int u8 2,agg (.mk cs),agg (.mk [v,ap,aq,a1,a2])]) m' [] R/\Za7 (.agg [.int u8,.any,.str,.int i64,.slice]) R/\∀n (v:Value) s af a au c aa,lV [int u8 n,v,string s,int i64 af,slice a au
 c] λa8=>m'.le aa->R (agg (.mk a8)) aa []->chk (v.oneCell'&&true) (Zae (some (Box.mk b [] 52 5 false true)::xL)/\ac=ac/\nxI ad I [int i64 (i64.wrap (ah+1))] [a8] [] aa))) (chk (Nat.beq (cs.length) 5&&Zds cs)
 (rtM m m' R (agg (.mk cs)))))))):CX Tryz.prog 90 #[.slice p0a p0n p0c] m [] R:=
 Zad (E:=Znh) Zam mix Tryz.func90 (by kernel_rfl) (Eq.mp (by kernel_rfl) h)
def ZkP:Env:={ EB with
 frzNew:=[1] }
theorem ZiX(aA aC aE aF aY aW aV:Int)(aU:Option Addr)(aR aX:Nat)(m:Mem)(R:RT)(h:
 lV [int u8 aA,int u64 aC,int u64 aE,int u64 aF,int u64 aY,int i64 aW,int i64 aV,slice aU aR aX] λxL=>fzM m xL λb m'=>∀(b:Nat) b,m'.free b->rtM m (m'.add b xL) R (agg (.mk [int u8 6,int
 u64 0,int u64 0,int u64 0,int u64 0,int i64 0,int i64 0,slice (some (Addr.mk b 0 none)) 1 1]))):CX Tryz.prog 87 #[.agg #[.int .u8 aA,.int .u64 aC,.int .u64 aE,.int .u64 aF,.int .u64 aY,.int .i64 aW,.int .i64 aV,.slice aU aR aX]] m [] R:=
 Zad (E:=ZkP) Zam mix Tryz.func87 (by kernel_rfl) (Eq.mp (by kernel_rfl) h)
def Zp6:Env:={ EB with
 frzNew:=[3] }
theorem Zni(aA aC aE aF aY aW aV:Int)(aU:Option Addr)(aR aX:Nat)(p1 p2:Int)(m:Mem)(R:RT)(h:
 lV [int u8 aA,int u64 aC,int u64 aE,int u64 aF,int u64 aY,int i64 aW,int i64 aV,slice aU aR aX] λxL=>fzM m xL λb m'=>∀(b:Nat) b,m'.free b->rtM m (m'.add b xL) R (agg (.mk [int u8 5,int
 u64 0,int u64 0,int u64 0,int u64 0,int i64 p1,int i64 p2,slice (some (Addr.mk b 0 none)) 1 1]))):CX Tryz.prog 88 #[.agg #[.int .u8 aA,.int .u64 aC,.int .u64 aE,.int .u64 aF,.int .u64 aY,.int .i64 aW,.int .i64 aV,.slice aU aR aX],.int .i64 p1,.int .i64 p2] m [] R:=
 Zad (E:=Zp6) Zam mix Tryz.func88 (by kernel_rfl) (Eq.mp (by kernel_rfl) h)
def ZhG:Env:=EB
theorem ZgE(p0:Int)(m:Mem)(R:RT)(h:
 ∀b,m.free b->(12:Int)≠0/\Zag (Int.tmod p0 (12:Int)) 12/\Eng.ZvD [string (.mk (.mk [97])),string (.mk (.mk [98])),string (.mk (.mk [97,98])),string (.mk (.mk [97])),string (.mk (.mk [98])),string (.mk (.mk
 [99])),string (.mk (.mk [97,98,99])),string (.mk (.mk [98,99])),string (.mk (.mk [10])),string (.mk (.mk [0,255])),string (.mk (.mk [97])),string (.mk (.mk [98]))] (Int.toNat (Int.tmod p0 (12:Int))*1) λv=>rtM m
 (m.add b [string (.mk (.mk [97])),string (.mk (.mk [98])),string (.mk (.mk [97,98])),string (.mk (.mk [97])),string (.mk (.mk [98])),string (.mk (.mk [99])),string (.mk (.mk [97,98,99])),string (.mk (.mk [98,99])),
 string (.mk (.mk [10])),string (.mk (.mk [0,255])),string (.mk (.mk [97])),string (.mk (.mk [98]))]) R v):CX Tryz.prog 85 #[.int .u8 p0] m [] R:=
 Zad (E:=ZhG) Zam mix Tryz.func85 (by kernel_rfl) (Eq.mp (by kernel_rfl) h)
def ZkQ:Env:={ EB with
 loops:=swI nLa [(3,⟨[(7,.int .i64)],[3],[],false⟩)]
 dr:=swI [] [(5,[dO 0 [],dO 1 [],dO 2 [0,1],dO 3 [0,1,2],⟨4,[3],[],none,[0,1,2,3],[]⟩,⟨5,[3],[],none,[0,1,2,3,4],[]⟩,dO 6 [],dO 7 [],dO 8 [6,7],dO 9 [6,7,8],dO 10 [6,7,8,9],dO 11 [0,1,2,3,4,5,6,7,8,9,10],⟨12,[3],[],none,rg 0 12,[]⟩,⟨13,[3],[3],none,rg 0 13,[]⟩])] }
theorem ZiY(p0:ByteArray)(m:Mem)(R:RT)(h:
 ∀b b_1,∃I,inI I [int i64 0] [[int u64 0,int u64 0,int u64 0,int u64 0]] [] m/\∀(n:Int)(cs:List Value) m' (n_1:Nat),lE (ZgX p0 (Int.toNat n)) λyL=>lE (u8.wrap (Int.tdiv yL (64:Int))) λyL_1=>lE (0 +
 Int.toNat yL_1*1) λyL_2=>lV (List.append cs (List.drop (1+cs.length) [int u8 2,int u64 0,int u64 0,int u64 0,int u64 0,int i64 0,int i64 0,slice none 0 0])) λxL=>m.le m'->I [int i64 n] [cs] [] m' n_1->br
 (decide (n < (↑(ByteArray.size p0):Int))) (Zag n (ByteArray.size p0)/\(64:Int)≠0/\Zag yL_1 4/\Eng.ZvD cs yL_2 λv=>Zag n (ByteArray.size p0)/\(64:Int)≠0/\(0:Int)<=Int.tmod yL (64:Int)/\chk
 (ZaR u64 v&&decide (u64=u64)) (Zag yL_1 4/\chk (Nat.ble (yL_2+1) (cs.length)) (Zae [some (Box.mk b_1 [] 37 4 false true),some (Box.mk b [int u8 0,int u64 0,int u64 0,int u64 0,int u64 0,int i64 0,int i64 0,
 slice none 0 0] 40 8 false true)]/\nxI n_1 I [int i64 (i64.wrap (n+1))] [ZaB cs yL_2 [int u64 (u64.wrap (↑(BitVec.toNat (BitVec.ofInt 64 (RowKit.intOf v)|||BitVec.ofInt 64 (u64.wrap ((1:Int)*(2:Int) ^ min (Int.toNat
 (Int.tmod yL (64:Int))) 64)))):Int))]] [] m'))) (chk (Nat.beq (cs.length) 4&&true) (chk (Nat.beq (xL.length) (nat_lit 7)&&Zds xL) (rtM m m' R (agg (.mk (ZaB [int u8 2,int u64 0,int u64 0,int u64 0,int u64 0,int
 i64 0,int i64 0,slice none 0 0] 1 cs))))))):CX Tryz.prog 84 #[.string p0] m [] R:=
 Zad (E:=ZkQ) Zam mix Tryz.func84 (by kernel_rfl) (Eq.mp (by kernel_rfl) h)
def ZkR:Env:={ EB with
 loops:=swI nLa [(3,⟨[(7,.slice),(14,.int .i64)],[],[(30,8)],false⟩)]
 joins:=swI none [(8,some [(31,.bool)])]
 tokOf:=swI 0 [(21,30),(30,30)]
 frzNew:=[4,5] }
theorem ZiZ(p0 bN bR bO bW dC dV eO:Int)(fQ:Option Addr)(fR fS:Nat)(gG eY gO fL iW lG lH:Int)(jp:Option Addr)(jq jr:Nat)(m:Mem)(R:RT)(h:
 lV [int u8 bN,int u64 bR,int u64 bO,int u64 bW,int u64 dC,int i64 dV,int i64 eO,slice fQ fR fS] λxL=>lV [int u8 gG,int u64 eY,int u64 gO,int u64 fL,int u64 iW,int i64 lG,int i64
 lH,slice jp jq jr] λaj=>lV (int u8 bN::int u64 bR::int u64 bO::int u64 bW::int u64 dC::int i64 dV::int i64 eO::slice fQ fR fS::aj) λaf=>fzM m xL λb m'=>lE [some
 (Box.mk b xL 40 8 true true)] λxL=>fzM m' aj λb m'=>∀aw ag,lE (some (Box.mk ag af 40 16 true true)::some (Box.mk aw [int u8 0,int u64 0,int u64 0,int u64 0,int u64 0,int i64 0,int i64 0,slice none 0 0] 40 8
 false true)::some (Box.mk b aj 40 8 true true)::xL) λxL=>m'.free ag->∃I,inI I [slice none 0 0,int i64 0] [] [slice none 0 0] (m'.add ag af)/\∀a (n:Nat) c (ad:Int) ax ay az (aa:Mem) (ah:Nat),lX (slice ax ay
 az) λyL=>lE (Tok.mk yL 8) λak=>lE [some ak] λai=>lE (n+1) λae=>lV [int i64 (i64.wrap (ad+1))] λal=>lX (slice a n c) λac=>lV (List.take 8 (List.drop (Int.toNat ad*8) af)) λab=>Mem.le (m'.add
 ag af) aa->I [ac,int i64 ad] [] [yL] aa ah->br (decide (ad < (↑(2:Nat):Int))) (Zag ad 2/\chk (Nat.ble (Int.toNat ad*8) (1+1+1+1+1+1+1+1)) (∀b,lE (some (Box.mk b ab 40 8 false true)::xL) λam=>
 chk (Nat.beq (ab.length) 8&&Zds ab) (Eng.ZvD ab 0 λv=>chk (ZaR u8 v&&decide (u8=u8)) (br (RowKit.intOf v == p0) (Eng.ZvD ab 7 λv=>lE (n+slN v) λyL=>chk (Za8 v&&true) ((ak=Tok.mk ac 8\/ac=slice
 none 0 0\/c < yL)/\∃(xs:List Value),∃(ys:List Value),xs.length=n*8/\ys.length=slN v*8/\rowRd aa a xs/\rowRd aa (slA v) ys/\(∀(u:Value),u∈ys->u.oneCell'=true)/\yL*80<=140737488355328/\yL <=
 9223372036854775807/\∀(a':Option Addr) c' m',aa.le m'->rowRd m' a' (List.append xs ys)->Zae xL/\nxI ah I (slice a' yL c'::al) [] [slice a' yL c'] m')) (∃(b:Bool),br (p0 == 3) (Eng.ZvD ab 0 λv=>chk (ZaR u8
 v&&decide (u8=u8)) (Zae am/\ai=ai/\[bool (RowKit.intOf v == 1)]=[bool b])) (Zae am/\ai=ai/\[bool false]=[bool b])/\br b (Zae xL/\nxI ah I (ac::al) [] [yL] aa) (chk (Nat.beq (ab.length) 8&&true) (∀b,
 lM (aa.add b (List.append ab [])) λmL=>aa.free b->(ak=Tok.mk ac 8\/ac=slice none 0 0\/c < ae)/\∃(xs:List Value),∃(ys:List Value),xs.length=n*8/\ys.length=1*8/\rowRd mL a xs/\rowRd mL (some (Addr.mk
 b 0 none)) ys/\(∀(u:Value),u∈ys->u.oneCell'=true)/\ae*80<=140737488355328/\ae<=9223372036854775807/\∀(a':Option Addr) c' m',mL.le m'->rowRd m' a' (List.append xs ys)->Zae xL/\nxI ah I (slice a' ae c' ::
 al) [] [slice a' ae c'] m'))))))) (br ((↑n:Int) == 0) (rtM m aa R (agg (.mk [int u8 1,int u64 0,int u64 0,int u64 0,int u64 0,int i64 0,int i64 0,slice none 0 0]))) (br ((↑n:Int) == 1) (atA a λb o=>Zag (0:
 Int) n/\∃v an ao ap aq ar au av:Value,lV [v,an,ao,ap,aq,ar,au,av] λxL=>aa.reads b (o+0) xL/\chk (v.oneCell'&&(an.oneCell'&&(ao.oneCell'&&(ap.oneCell'&&(aq.oneCell'&&(ar.oneCell'&&(au.oneCell' &&
 (av.oneCell'&&true)))))))) (rtM m aa R (agg (.mk xL)))) (rtM m aa R (agg (.mk [int u8 p0,int u64 0,int u64 0,int u64 0,int u64 0,int i64 0,int i64 0,ac])))))):CX Tryz.prog 86 #[.int .u8 p0,.agg #[.int .u8 bN,.int .u64 bR,.int .u64 bO,.int .u64 bW,.int .u64 dC,.int .i64 dV,.int .i64 eO,.slice fQ fR fS],.agg #[.int .u8 gG,.int .u64 eY,.int .u64 gO,.int .u64 fL,.int .u64 iW,.int .i64 lG,.int .i64 lH,.slice jp jq jr]] m [] R:=
 Zad (E:=ZkR) Zam mix Tryz.func86 (by kernel_rfl) (Eq.mp (by kernel_rfl) h)
def Znj:Env:={ EB with
 loops:=swI nLa [(4,⟨[(3,.slice),(4,.int .i64),(5,.int .i64),(22,.int .i64)],[],[(40,8)],false⟩),(32,⟨[(195,.int .i64)],[13],[],false⟩)]
 joins:=swI none [(12,some [(48,.bool)]),(14,some [(74,.bool)]),(16,some [(100,.bool)]),(19,some [(123,.bool)]),(21,some [(161,.bool)])]
 dr:=swI [] [(13,[dO 0 [],dO 1 [],dO 2 [1],dO 3 [],dO 4 [3],dO 5 [0,1,2,3,4],dO 6 [],dO 7 [],dO 8 [7],dO 9 [6,7,8],dO 10 [6,7,8,9],dO 11 [],dO 12 [],dO 13 [12],dO 14 [11,12,13],dO 15 [11,12,13,14],dO 16 [6,7,8,9,10,11,12,13,14,15],⟨17,[72],[72],none,[6,7,8,9,10,11,12,13,14,15,16],[16]⟩,⟨18,[72],[],some 40,rg 0 18,[17]⟩,dO 19 (rg 0 19)]),(15,[dO 0 [],dO 1 [],dO 2 [1],dO 3 [],dO 4 [3],dO 5 [0,1,2,3,4],dO 6 [],dO 7 [],dO 8 [7],dO 9 [6,7,8],dO 10 [6,7,8,9],dO 11 [],dO 12 [],dO 13 [12],dO 14 [11,12,13],dO 15 [11,12,13,14],dO 16 [6,7,8,9,10,11,12,13,14,15],⟨17,[98],[98],none,[6,7,8,9,10,11,12,13,14,15,16],[16]⟩,⟨18,[98],[],some 40,rg 0 18,[17]⟩,dO 19 (rg 0 19)]),(20,[⟨0,[7],[],none,[],[]⟩,⟨1,[7],[],none,[0],[]⟩,dO 2 [0,1],dO 3 [0,1,2],⟨4,[7],[],none,[],[]⟩,⟨5,[7],[],none,[4],[]⟩,dO 6 [4,5],dO 7 [4,5,6],dO 8 [0,1,2,3],dO 9 [0,1,2,3,4,5,6,7,8]])]
 tokOf:=swI 0 [(40,40),(47,40),(73,40),(99,40)]
 thaw:=true
 stAt:=swI none [(120,some 40),(183,some 40)] }
theorem ZkS(p0a:Option Addr)(p0n p0c:Nat)(m:Mem)(R:RT)(h:
 ∀b,lE (if(25:Int) < (↑p0n:Int)then(25:Int)else(↑p0n:Int)) λyL=>lE [some (Box.mk b [int u8 0,int u64 0,int u64 0,int u64 0,int u64 0,int i64 0,int i64 0,slice none 0 0] 40 8 false true)] λxL=>((0:
 Int)<=yL/\yL<=(↑p0c:Int))/\∃I,inI I [slice none 0 0,int i64 1,int i64 0,int i64 0] [] [slice none 0 0] m/\∀(a:Option Addr)(n:Nat) c bu bq (bm:Int) cf bb bs (m':Mem) (ay:Nat),lE (↑n:Int) λbc=>lV
 [bool (decide (bc > 1))] λbz=>lV [int i64 (i64.wrap (bm+1))] λca=>lX (slice cf bb bs) λaz=>lE (Tok.mk az 8) λbn=>lE (i64.wrap (bc - (2:Int))) λa0=>lE (Int.toNat a0) λa4=>lX (int i64 bu) λa6=>
 lE (a4 - 0) λbd=>lX (slice (Zbb a 0 a4 8) bd bd) λbt=>lE (n+1) λam=>lE (bd+1) λan=>lX (slice a n c) λa1=>lE (i64.wrap (bc - (1:Int))) λa5=>lE (Int.toNat a5*8) λao=>lV (int i64 bq ::
 ca) λa7=>lE [some bn] λab=>True->I [a1,a6,int i64 bq,int i64 bm] [] [az] m' ay->br (decide (bm < (↑(Int.toNat yL - 0):Int))) (atA (Zbb p0a 0 p0c 3) λb o=>Zag bm (Int.toNat yL - 0)/\∃v a9 be:Value,
 lE (i64.wrap (Int.tmod (RowKit.intOf be) (4:Int))) λyL=>lE (i64.wrap (Int.tmod (RowKit.intOf a9) (3:Int))) λba=>lE (if yL > ba then yL else ba) λcb=>lE (if(-1:Int) > ba then(-1:Int)else ba) λcc=>lE
 (Int.tmod (RowKit.intOf v) (12:Int)) λbg=>lE (i64.wrap (bu*if(1:Int) > cb then(1:Int)else cb)) λcd=>lE (i64.wrap (bu*if(1:Int) > cc then(1:Int)else cc)) λce=>lV [v,a9,be] λbo=>m'.reads b
 (o+Int.toNat bm*3) bo/\∀b,lE (some (Box.mk b bo 162 3 false true)::xL) λae=>chk (v.oneCell'&&(a9.oneCell'&&(be.oneCell'&&true))) (chk (ZaR u8 v&&decide (u8=u8)) ((12:Int)≠0/\br (decide (bg < 4)) (kT
 pG 85 [a9] m' λs m'=>∃R,True/\CX pG 84 (.mk [string s]) m' [] R/\Za7 (shT) R/\∀ac af ag ah ai aj ak a2 a8 cg aa,lV [int u8 ac,int u64 af,int u64 ag,int u64 ah,int u64 ai,int i64 aj,int i64 ak,slice a2 a8 cg]
 λad=>m'.le aa->R (agg (.mk ad)) aa []->∀b,lM (aa.add b ad) λmL=>aa.free b->(bn=Tok.mk a1 8\/a1=slice none 0 0\/c < am)/\∃(xs:List Value),∃(ys:List Value),xs.length=n*8/\ys.length=1*8/\rowRd
 mL a xs/\rowRd mL (some (Addr.mk b 0 none)) ys/\(∀(u:Value),u∈ys->u.oneCell'=true)/\am*80<=140737488355328/\am<=9223372036854775807/\∀(a':Option Addr)(c':Nat) m',mL.le m'->rowRd m' a' (List.append xs ys)
 -> TokFact mL a a' am c'->Zae xL/\nxI ay I (slice a' am c'::a6::a7) [] [slice a' am c'] m') (br (bg == 4) (∀b,lM (m'.add b [int u8 1,int u64 0,int u64 0,int u64 0,int u64 0,int i64 0,int i64 0,slice none 0 0]) fun
 mL=>m'.free b->(bn=Tok.mk a1 8\/a1=slice none 0 0\/c < am)/\∃(xs:List Value),∃(ys:List Value),xs.length=n*8/\ys.length=1*8/\rowRd mL a xs/\rowRd mL (some (Addr.mk b 0 none)) ys/\(∀(u:Value),u∈ys
 -> u.oneCell'=true)/\am*80<=140737488355328/\am<=9223372036854775807/\∀(a':Option Addr)(c':Nat) m',mL.le m'->rowRd m' a' (List.append xs ys)->TokFact mL a a' am c'->Zae xL/\nxI ay I (slice a' am c'::a6 ::
 a7) [] [slice a' am c'] m') (∃(b:Bool),br (decide (bg < 7)) (Zae ae/\ab=ab/\bz=[bool b]) (Zae ae/\ab=ab/\[bool false]=[bool b])/\br b (∃(f:Fx),((0:Int)<=a0/\a0<=(↑c:Int))/\((0:Int)<=a0/\a0 <=
 (↑a4:Int))/\atA a λb o=>Zag a0 n/\∃v ap aq ar au av aw ax:Value,lV [v,ap,aq,ar,au,av,aw,ax] λad=>m'.reads b (o+a4*8) ad/\atA a λb o=>Zag a5 n/\∃v bh bi bj bk bl bv bw:Value,lV [v,
 bh,bi,bj,bk,bl,bv,bw] λal=>lV [int u8 3,agg (.mk ad),agg (.mk al)] λa3=>m'.reads b (o+ao) al/\∃R,R=f 16 a3 m'/\CX pG 86 (.mk a3) m' [] R/\Za7 (shT) R/\∀n ac af ag ah ai aj a2 ak c aa,lV [int u8 n,
 int u64 ac,int u64 af,int u64 ag,int u64 ah,int i64 ai,int i64 aj,slice a2 ak c] λbp=>m'.le aa->R (agg (.mk bp)) aa []->∀b,lM (aa.add b bp) λmL=>aa.free b->(bn=Tok.mk bt 8\/bt=slice none 0 0\/bd < an)/\
 ∃(xs:List Value),∃(ys:List Value),xs.length=bd*8/\ys.length=1*8/\rowRd mL (Zbb a 0 a4 8) xs/\rowRd mL (some (Addr.mk b 0 none)) ys/\(∀(u:Value),u∈ys->u.oneCell'=true)/\an*80<=140737488355328/\
 an<=9223372036854775807/\∀(a':Option Addr)(c':Nat) bf,mL.le bf->rowRd bf a' (List.append xs ys)->TokFact mL (Zbb a 0 a4 8) a' an c'->∀M,m'.le M->aa.le M->mL.le M->bf.le M->Zae xL/\nxI ay I (slice a' an c'
 :: a6::a7) [] [slice a' an c'] M) (∃(b:Bool),br (decide (bg < 9)) (Zae ae/\ab=ab/\bz=[bool b]) (Zae ae/\ab=ab/\[bool false]=[bool b])/\br b (∃(f:Fx),((0:Int)<=a0/\a0<=(↑c:Int))/\((0:Int)<=a0
 /\ a0<=(↑a4:Int))/\atA a λb o=>Zag a0 n/\∃v ap aq ar au av aw ax:Value,lV [v,ap,aq,ar,au,av,aw,ax] λad=>m'.reads b (o+a4*8) ad/\atA a λb o=>Zag a5 n/\∃v bh bi bj bk bl bv bw:Value,lV
 [v,bh,bi,bj,bk,bl,bv,bw] λal=>lV [int u8 4,agg (.mk ad),agg (.mk al)] λa3=>m'.reads b (o+ao) al/\∃R,R=f 16 a3 m'/\CX pG 86 (.mk a3) m' [] R/\Za7 (shT) R/\∀n ac af ag ah ai aj a2 ak c aa,lV [int u8
 n,int u64 ac,int u64 af,int u64 ag,int u64 ah,int i64 ai,int i64 aj,slice a2 ak c] λbp=>m'.le aa->R (agg (.mk bp)) aa []->∀b,lM (aa.add b bp) λmL=>aa.free b->(bn=Tok.mk bt 8\/bt=slice none 0 0\/bd < an)
 /\ ∃(xs:List Value),∃(ys:List Value),xs.length=bd*8/\ys.length=1*8/\rowRd mL (Zbb a 0 a4 8) xs/\rowRd mL (some (Addr.mk b 0 none)) ys/\(∀(u:Value),u∈ys->u.oneCell'=true)/\an*80<=140737488355328/\
 an<=9223372036854775807/\∀(a':Option Addr)(c':Nat) bf,mL.le bf->rowRd bf a' (List.append xs ys)->TokFact mL (Zbb a 0 a4 8) a' an c'->∀M,m'.le M->aa.le M->mL.le M->bf.le M->Zae xL/\nxI ay I (slice a' an c'
 :: a6::a7) [] [slice a' an c'] M) (∃(b:Bool),br (bg == 9) (br (decide (bc > 0)) (Zae ae/\ab=ab/\[bool (decide (bq < 9))]=[bool b]) (Zae ae/\ab=ab/\[bool false]=[bool b])) (Zae ae/\ab=ab/\[bool false]
 = [bool b])/\br b (atA a λb o=>Zag a5 n/\∃v ap aq ar au av aw ax:Value,lV [v,ap,aq,ar,au,av,aw,ax] λad=>m'.reads b (o+ao) ad/\∃R,True/\CX pG 87 (.mk [agg (.mk ad)]) m' [] R/\Za7 (shT) R/\∀ac af
 ag ah ai aj ak a2 a8 c aa,lV [int u8 ac,int u64 af,int u64 ag,int u64 ah,int u64 ai,int i64 aj,int i64 ak,slice a2 a8 c] λal=>m'.le aa->R (agg (.mk al)) aa []->atA a λb o=>Zag a5 n/\az=slice (some
 (Addr.mk b 0 none)) bb bs/\o+ao+8<=bb*8/\Zae xL/\nxI ay I (a1::a6::int i64 (i64.wrap (bq+1))::ca) [] [az] (Mem.upd aa b (o+ao) al)) (∃(b:Bool),br (decide (bg > 9)) (br (decide (bc > 0)) (atA a λbx o
 => Zag a5 n/\∃(v:Value),m' bx (o+ao+0)=some v/\chk (ZaR u8 v&&decide (u8=u8)) (Zae ae/\ab=ab/\[bool !RowKit.intOf v == 1]=[bool b])) (Zae ae/\ab=ab/\[bool false]=[bool b])) (Zae ae/\ab =
 ab/\[bool false]=[bool b])/\br b (chk (ZaR u8 a9&&decide (u8=u8)) ((3:Int)≠0/\chk (ZaR u8 be&&decide (u8=u8)) ((4:Int)≠0/\∃(b:Bool),lV [bool b] λad=>br (decide (yL < ba)) (Zae ae/\ab=ab/\
 [bool true]=ad) (br (yL == 0) (Zae ae/\ab=ab/\[bool true]=ad) (br (ba == 1) (Zae ae/\ab=ab/\[bool (yL == 1)]=ad) (Zae ae/\ab=ab/\[bool false]=ad)))/\br b (br (decide (ce<=16)) (atA a λb o=>
 Zag a5 n/\∃v ap aq ar au av aw ax:Value,lV [v,ap,aq,ar,au,av,aw,ax] λal=>m'.reads b (o+ao) al/\∃R,True/\CX pG 88 (.mk [agg (.mk al),int i64 ba,int i64 (-1)]) m' [] R/\Za7 (shT) R/\∀ac af ag ah ai
 aj ak a2 a8 c aa,lV [int u8 ac,int u64 af,int u64 ag,int u64 ah,int u64 ai,int i64 aj,int i64 ak,slice a2 a8 c] λa3=>m'.le aa->R (agg (.mk a3)) aa []->atA a λb o=>Zag a5 n/\az=slice (some (Addr.mk b 0
 none)) bb bs/\o+ao+8<=bb*8/\Zae xL/\nxI ay I (a1::int i64 ce::a7) [] [az] (Mem.upd aa b (o+ao) a3)) (Zae xL/\nxI ay I (a1::a6::a7) [] [az] m')) (br (decide (cd<=16)) (atA a λb o=>Zag a5 n/\∃v
 ap aq ar au av aw ax:Value,lV [v,ap,aq,ar,au,av,aw,ax] λal=>m'.reads b (o+ao) al/\∃R,True/\CX pG 88 (.mk [agg (.mk al),int i64 ba,int i64 yL]) m' [] R/\Za7 (shT) R/\∀ac af ag ah ai aj ak a2 a8 c aa,lV
 [int u8 ac,int u64 af,int u64 ag,int u64 ah,int u64 ai,int i64 aj,int i64 ak,slice a2 a8 c] λa3=>m'.le aa->R (agg (.mk a3)) aa []->atA a λb o=>Zag a5 n/\az=slice (some (Addr.mk b 0 none)) bb bs/\o+ao +
 8<=bb*8/\Zae xL/\nxI ay I (a1::int i64 cd::a7) [] [az] (Mem.upd aa b (o+ao) a3)) (Zae xL/\nxI ay I (a1::a6::a7) [] [az] m'))))) (Zae xL/\nxI ay I (a1::a6::a7) [] [az] m'))))))))) (br (bc == 0) (∃R_1,
 True/\CX pG 84 (.mk [string (.mk (.mk [97]))]) m' [] R_1/\Za7 (shT) R_1/\∀n ac af ag ah ai aj a ak c aa,lX (agg (.mk [int u8 n,int u64 ac,int u64 af,int u64 ag,int u64 ah,int i64 ai,int i64 aj,slice a ak c])) λyL
 => m'.le aa->R_1 yL aa []->rtM m aa R yL) (atA a λb o=>Zag (0:Int) n/\∃v a9 be ap aq ar au av:Value,lV [v,a9,be,ap,aq,ar,au,av] λbo=>m'.reads b (o+0) bo/\∀b,chk (v.oneCell'&&(a9.oneCell' &&
 (be.oneCell'&&(ap.oneCell'&&(aq.oneCell'&&(ar.oneCell'&&(au.oneCell'&&(av.oneCell'&&true)))))))) (((0:Int)<=1/\(1:Int)<=bc)/\∃I,inI I [int i64 0] [bo] [] m'/\∀ac (cs:List Value) (m':Mem) (af:Nat),
 True->I [int i64 ac] [cs] [] m' af->br (decide (ac < (↑(n - Int.toNat (1:Int)):Int))) (atA (Zbb a (Int.toNat (1:Int)) c 8) λbx o=>Zag ac (n - Int.toNat (1:Int))/\∃v aw ax bh bi bj bk bl:Value,lV [v,aw,
 ax,bh,bi,bj,bk,bl] λae=>m'.reads bx (o+Int.toNat ac*8) ae/\∀(ci:Nat),chk (v.oneCell'&&(aw.oneCell'&&(ax.oneCell'&&(bh.oneCell'&&(bi.oneCell'&&(bj.oneCell'&&(bk.oneCell'&&(bl.oneCell' &&
 true)))))))) (∃R,True/\CX pG 86 (.mk [int u8 4,agg (.mk cs),agg (.mk ae)]) m' [] R/\Za7 (shT) R/\∀n ag ah ai aj ak a8 a ch c aa,lV [int u8 n,int u64 ag,int u64 ah,int u64 ai,int u64 aj,int i64 ak,int i64 a8,slice
 a ch c] λad=>m'.le aa->R (agg (.mk ad)) aa []->Zae (some (Box.mk b [] 40 8 false true)::xL)/\ab=ab/\nxI af I [int i64 (i64.wrap (ac+1))] [ad] [] aa)) (chk (Nat.beq (cs.length) 8&&Zds cs) (rtM m m' R (agg (.mk
 cs)))))))):CX Tryz.prog 58 #[.slice p0a p0n p0c] m [] R:=
 Zad (E:=Znj) Zam mix Tryz.func58 (by kernel_rfl) (Eq.mp (by kernel_rfl) h)
end Go.Proofs.YtdopppmkbkkmiaaGreatDoor
end
