/- Part of the proof: functions of the program. No condition. -/
import Derived.Test.YtdopppmkbkkmiaaGreatDoorPEnv
import Derived.Test.YtdopppmkbkkmiaaGreatDoorPVEX
import Derived.Test.YtdopppmkbkkmiaaGreatDoorMr
set_option linter.unusedVariables false
set_option linter.unusedSimpArgs false
set_option linter.unusedSectionVars false
noncomputable section
namespace Go.Proofs.YtdopppmkbkkmiaaGreatDoor
open Go Go.Eng Go.Proofs Go.RowKit
open Go.Value (int slice agg bool string tuple func)
open Go.IntKind (u8 u64 i64)
set_option maxRecDepth 100000
def ZrU:Env:={ EB with
 exv:=swI false [(1,true)] }
theorem Zp8  (m:Mem)(R:RT)(h:
 ∃(v:Value),Zot pG 107 [int u64 9221120237041090561] v/\rtM m m R v):CX Tryz.prog 108 #[] m [] R:=
 Zad (E:=ZrU) Zal mix Tryz.func108 (by kernel_rfl) (Eq.mp (by kernel_rfl) h)
def Zp9:Env:=EB
theorem Znv(p0:Value)(m:Mem)(R:RT)(h:
 ∀(b:Nat),lV (Array.toList (Value.cells p0)) λxL=>lV (List.append xL (List.drop (1+xL.length) [int u8 8,Value.float .f64 0,string bE0,int i64 0,slice none 0 0])) λxL_1=>chk (Nat.beq (xL.length) 1&&true) (chk
 (Nat.beq (xL_1.length) (nat_lit 4)&&Zdq xL_1) (rtM m m R (agg (.mk (ZaF [int u8 8,Value.float .f64 0,string bE0,int i64 0,slice none 0 0] 1 xL)))))):CX Tryz.prog 109 #[p0] m [] R:=
 Zad (E:=Zp9) Zal mix Tryz.func109 (by kernel_rfl) (Eq.mp (by kernel_rfl) h)
def Znw:Env:=EB
theorem Zk1(p0:ByteArray)(m:Mem)(R:RT)(h:
 ∀(b:Nat),rtM m m R (agg (.mk [int u8 9,Value.float .f64 0,string p0,int i64 0,slice none 0 0]))):CX Tryz.prog 110 #[.string p0] m [] R:=
 Zad (E:=Znw) Zal mix Tryz.func110 (by kernel_rfl) (Eq.mp (by kernel_rfl) h)
def Zk2:Env:=EB
theorem Zi3  (m:Mem)(R:RT)(h:
 ∀b,m.free b->rtM m (m.add b [string (.mk (.mk [120])),string (.mk (.mk [121])),string (.mk (.mk [122,95,49])),string (.mk (.mk [97,98,99,100,101,102,103,104,105,106,107,108,109,110,111,112]))]) R (slice
 (some (Addr.mk b 0 none)) 4 4)):CX Tryz.prog 111 #[] m [] R:=
 Zad (E:=Zk2) Zal mix Tryz.func111 (by kernel_rfl) (Eq.mp (by kernel_rfl) h)
def Zqa:Env:={ EB with
 frzNew:=[1] }
theorem Znx(aA:Int)(aE:Value)(aJ:ByteArray)(aK:Int)(bC:Option Addr)(aY bE:Nat)(m:Mem)(R:RT)(h:
 lV [int u8 aA,aE,string aJ,int i64 aK,slice bC aY bE] λxL=>fzM m xL λb m'=>∀(b:Nat) b,m'.free b->rtM m (m'.add b xL) R (agg (.mk [int u8 1,Value.float .f64 0,string bE0,int i64 0,slice (some
 (Addr.mk b 0 none)) 1 1]))):CX Tryz.prog 112 #[.agg #[.int .u8 aA,aE,.string aJ,.int .i64 aK,.slice bC aY bE]] m [] R:=
 Zad (E:=Zqa) Zal mix Tryz.func112 (by kernel_rfl) (Eq.mp (by kernel_rfl) h)
def ZrV:Env:={ EB with
 frzNew:=[4,5] }
theorem Zqb(p0 bU:Int)(bW:Value)(bV:ByteArray)(bX:Int)(cX:Option Addr)(cV dB:Nat)(gG:Int)(fA:Value)(gR:ByteArray)(fL:Int)(nK:Option Addr)(nL nM:Nat)(m:Mem)(R:RT)(h:
 lV [int u8 gG,fA,string gR,int i64 fL,slice nK nL nM] λxL=>fzM m [int u8 bU,bW,string bV,int i64 bX,slice cX cV dB] λb m'=>fzM m' xL λb m'=>∀(b:Nat) b,m'.free b->rtM m
 (m'.add b (int u8 bU::bW::string bV::int i64 bX::slice cX cV dB::xL)) R (agg (.mk [int u8 p0,Value.float .f64 0,string bE0,int i64 0,slice (some (Addr.mk b 0 none)) 2 2]))):CX Tryz.prog 113 #[.int .u8 p0,.agg #[.int .u8 bU,bW,.string bV,.int .i64 bX,.slice cX cV dB],.agg #[.int .u8 gG,fA,.string gR,.int .i64 fL,.slice nK nL nM]] m [] R:=
 Zad (E:=ZrV) Zal mix Tryz.func113 (by kernel_rfl) (Eq.mp (by kernel_rfl) h)
def Zny:Env:={ EB with
 loops:=swI nLa [(3,⟨[(3,.slice),(18,.int .i64)],[],[(49,5)],false⟩),(28,⟨[(137,.int .i64)],[9],[],false⟩)]
 joins:=swI none [(18,some [(74,.bool)]),(21,some [(98,.bool)])]
 dr:=swI [] [(15,[dO 0 [],dO 1 [],⟨2,[5],[],none,[],[]⟩,⟨3,[5],[],none,[2],[]⟩,dO 4 [2,3],dO 5 [1,2,3,4],⟨6,[],[],none,[1,2,3,4,5],[1]⟩,⟨7,[],[],none,[1,2,3,4,5,6],[1]⟩,⟨8,[61],[61],none,[1,2,3,4,5,6,7],[7]⟩,⟨9,[61],[],some 49,[0,1,2,3,4,5,6,7,8],[8]⟩,dO 10 [0,1,2,3,4,5,6,7,8,9]]),(22,[dO 0 [],dO 1 [],dO 2 [1],dO 3 [],dO 4 [3],dO 5 [0,1,2,3,4],dO 6 [],dO 7 [6],dO 8 [],dO 9 [],dO 10 [9],dO 11 [8,9,10],dO 12 [8,9,10,11],dO 13 [],dO 14 [],dO 15 [14],dO 16 [13,14,15],dO 17 [13,14,15,16],dO 18 (rg 6 12),⟨19,[124],[124],none,rg 6 13,[18]⟩,⟨20,[124],[],some 49,rg 0 20,[19]⟩,dO 21 (rg 0 21)])]
 tokOf:=swI 0 [(49,49),(62,49),(73,49),(125,49)]
 exv:=swI false [(40,true)]
 thaw:=true
 stAt:=swI none [(97,some 49)]
 cuts:=swI none [(11,some ⟨[(8,.any)],[],[],false⟩),(13,some ⟨[(8,.any)],[],[],false⟩)]
 ldF:=swI none [(25,some (.int .u8)),(31,some (.int .u8)),(56,some (.int .u8)),(68,some (.int .u8)),(36,some (.int .u64)),(39,some (.int .u64)),(59,some (.str)),(86,some (.int .u8))] }
theorem Zk3(p0a:Option Addr)(p0n p0c:Nat)(m:Mem)(R:RT)(h:
 ∀b,lE (if(60:Int) < (↑p0n:Int)then(60:Int)else(↑p0n:Int)) λyL=>lE [some (Box.mk b [int u8 0,Value.float .f64 0,string bE0,int i64 0,slice none 0 0] 52 5 false true)] λxL=>((0:Int)<=yL/\yL<=(↑p0c:
 Int))/\∃I,inI I [slice none 0 0,int i64 0] [] [slice none 0 0] m/\∀(a:Option Addr)(n:Nat) c (a3:Int) bj ba bd (m':Mem) (ak:Nat),lE (↑n:Int) λav=>lE (i64.wrap (av - (2:Int))) λaw=>lE (Int.toNat aw)
 λax=>lE (ax - 0) λa4=>lX (slice (Za2 a 0 ax 5) a4 a4) λbe=>lX (slice bj ba bd) λay=>lE (Tok.mk ay 5) λa5=>lE (a4+1) λaz=>lE (i64.wrap (av - (1:Int))) λa6=>lE (Int.toNat a6*5) λa7=>
 lX (slice a n c) λag=>lE (n+1) λab=>lV [int i64 (i64.wrap (a3+1))] λar=>lE [some a5] λac=>True->I [ag,int i64 a3] [] [ay] m' ak->br (decide (a3 < (↑(Int.toNat yL - 0):Int))) (atA (Za2 p0a 0 p0c 3)
 λb o=>Zaf a3 (Int.toNat yL - 0)/\∃v ai al:Value,lV [v,ai,al] λa8=>m'.reads b (o+Int.toNat a3*3) a8/\∀b,lE (some (Box.mk b a8 183 3 false true)::xL) λam=>chk (v.oneCell'&&(ai.oneCell' &&
 (al.oneCell'&&true))) (∃(ah:Int),lE (Int.tmod ah (12:Int)) λyL=>lX (int u8 (u8.wrap (yL - (4:Int)))) λbk=>v=int u8 ah/\(12:Int)≠0/\br (decide (yL < 2)) (∃ad,ai=int u8 ad/\∃(u:Value),ConvIs pG
 184 49 (int IntKind.i8 (IntKind.wrap IntKind.i8 ad)) u/\∃(v:Value),BinIs pG BinOp.quo 49 u (Value.float .f64 4616189618054758400) v/\∃(J:JT),(∃n,al=int u64 n/\br (!n == 0) (∃n,al=int u64 n/\∃(v:Value),Zot
 pG 107 [int u64 n] v/\Zae am/\ac=ac/\J [v] [] [] m') (Zae am/\ac=ac/\J [v] [] [] m'))/\∀(v:Value)(m':Mem),True->J [v] [] [] m'->∃(J:JT),(∃(b:Bool),BinIs pG BinOp.neq 49 v v (bool b)/\br b (∃R,
 True/\CX pG 108 (.mk []) m' [] R/\(∀(v:Value)(m':Mem) (css:List (List Value)),R v m' css->true=true)/\∀(v:Value) aa,m'.le aa->R v aa []->Zae am/\ac=ac/\J [v] [] [] aa) (Zae am/\ac=ac/\J [v] [] []
 m'))/\∀(v:Value)(m':Mem),True->J [v] [] [] m'->∃R,True/\CX pG 109 (.mk [v]) m' [] R/\ZaU (.agg [.int u8,.any,.str,.int i64,.slice]) R/\∀af (v:Value) s au bl a9 bb aa,lV [int u8 af,v,string s,int i64 au,
 slice bl a9 bb] λae=>m'.le aa->R (agg (.mk ae)) aa []->∀b,lM (aa.add b ae) λmL=>aa.free b->(a5=Tok.mk ag 5\/ag=slice none 0 0\/c < ab)/\∃(xs:List Value),∃(ys:List Value),xs.length=n*5/\ys.length
 = 1*5/\rowRd mL a xs/\rowRd mL (some (Addr.mk b 0 none)) ys/\(∀(u:Value),u∈ys->u.oneCell'=true)/\ab*64<=140737488355328/\ab<=9223372036854775807/\∀(a':Option Addr)(c':Nat) m',mL.le m'->rowRd m' a'
 (List.append xs ys)->TokFact mL a a' ab c'->Zae xL/\nxI ak I (slice a' ab c'::ar) [] [slice a' ab c'] m') (br (decide (yL < 4)) (∃(f:Fx),∃R,R=f 1 [] m'/\CX pG 111 (.mk []) m' [] R/\ZaU .slice R/\∀a0 ad bb aa,
 m'.le aa->R (slice a0 ad bb) aa []->∃af,ai=int u8 af/\(4:Int)≠0/\atA a0 λb o=>Zaf (Int.tmod af (4:Int)) ad/\∃(v:Value),aa b (o+Int.toNat (Int.tmod af (4:Int))*1)=some v/\∃s,v=string s/\∃
 R,R=f 7 [string s] aa/\CX pG 110 (.mk [string s]) aa [] R/\ZaU (.agg [.int u8,.any,.str,.int i64,.slice]) R/\∀au (v:Value) s a9 bm bn bo aj,lV [int u8 au,v,string s,int i64 a9,slice bm bn bo] λae=>aa.le aj
 -> R (agg (.mk ae)) aj []->∀b,lM (aj.add b ae) λmL=>aj.free b->(a5=Tok.mk ag 5\/ag=slice none 0 0\/c < ab)/\∃(xs:List Value),∃(ys:List Value),xs.length=n*5/\ys.length=1*5/\rowRd mL a xs/\rowRd mL
 (some (Addr.mk b 0 none)) ys/\(∀(u:Value),u∈ys->u.oneCell'=true)/\ab*64<=140737488355328/\ab<=9223372036854775807/\∀(a':Option Addr)(c':Nat) bc,mL.le bc->rowRd bc a' (List.append xs ys)->TokFact mL a a'
 ab c'->∀M,m'.le M->aa.le M->aj.le M->mL.le M->bc.le M->Zae xL/\nxI ak I (slice a' ab c'::ar) [] [slice a' ab c'] M) (br (yL == 4) (∃(ad:Int),lV [int u8 10,Value.float .f64 0,string bE0,int i64 (i64.wrap
 (Int.tmod ad (10:Int))),slice none 0 0] λae=>ai=int u8 ad/\(10:Int)≠0/\∀b,lM (m'.add b ae) λmL=>m'.free b->(a5=Tok.mk ag 5\/ag=slice none 0 0\/c < ab)/\∃(xs:List Value),∃(ys:List Value),
 xs.length=n*5/\ys.length=1*5/\rowRd mL a xs/\rowRd mL (some (Addr.mk b 0 none)) ys/\(∀(u:Value),u∈ys->u.oneCell'=true)/\ab*64<=140737488355328/\ab<=9223372036854775807/\∀(a':Option Addr)(c':Nat)
 m',mL.le m'->rowRd m' a' (List.append xs ys)->TokFact mL a a' ab c'->Zae xL/\nxI ak I (slice a' ab c'::ar) [] [slice a' ab c'] m') (∃(b:Bool),br (yL == 5) (Zae am/\ac=ac/\[bool (decide (av > 0))]=[bool b])
 (Zae am/\ac=ac/\[bool false]=[bool b])/\br b (atA a λb o=>Zaf a6 n/\∃(v:Value),m' b (o+a7+0)=some v/\∃ad,v=int u8 ad/\br (!ad == 8) (atA a λb o=>Zaf a6 n/\∃v an ao ap aq:Value,
 m'.reads b (o+a7) [v,an,ao,ap,aq]/\∃R,True/\CX pG 112 (.mk [agg (.mk [v,an,ao,ap,aq])]) m' [] R/\ZaU (.agg [.int u8,.any,.str,.int i64,.slice]) R/\∀af (v:Value) s au a0 a9 c aa,lV [int u8 af,v,string s,
 int i64 au,slice a0 a9 c] λae=>m'.le aa->R (agg (.mk ae)) aa []->atA a λb o=>Zaf a6 n/\chk (v.oneCell'&&true) (ay=slice (some (Addr.mk b 0 none)) ba bd/\o+a7+5<=ba*5/\Zae xL/\nxI ak I (ag::ar)
 [] [ay] (Mem.upd aa b (o+a7) ae))) (Zae xL/\nxI ak I (ag::ar) [] [ay] m')) (∃(b:Bool),br (decide (yL > 5)) (Zae am/\ac=ac/\[bool (decide (av > 1))]=[bool b]) (Zae am/\ac=ac/\[bool false]=[bool b])/\
 br b (∃(f:Fx),((0:Int)<=aw/\aw<=(↑c:Int))/\((0:Int)<=aw/\aw<=(↑ax:Int))/\atA a λb o=>Zaf aw n/\∃v an ao ap aq:Value,lV [v,an,ao,ap,aq] λae=>m'.reads b (o+ax*5) ae/\atA a λb o=>
 Zaf a6 n/\∃v a1 a2 bf bg:Value,lV [bk,agg (.mk ae),agg (.mk [v,a1,a2,bf,bg])] λbh=>m'.reads b (o+a7) [v,a1,a2,bf,bg]/\∃R,R=f 18 bh m'/\CX pG 113 (.mk bh) m' [] R/\ZaU (.agg [.int u8,.any,.str,
 .int i64,.slice]) R/\∀n (v:Value) s ad a0 af c aa,lV [int u8 n,v,string s,int i64 ad,slice a0 af c] λbi=>m'.le aa->R (agg (.mk bi)) aa []->∀b,lM (aa.add b bi) λmL=>aa.free b->(a5=Tok.mk be 5\/be=slice
 none 0 0\/a4 < az)/\∃(xs:List Value),∃(ys:List Value),xs.length=a4*5/\ys.length=1*5/\rowRd mL (Za2 a 0 ax 5) xs/\rowRd mL (some (Addr.mk b 0 none)) ys/\(∀(u:Value),u∈ys->u.oneCell'=true)/\az*64
 <= 140737488355328/\az<=9223372036854775807/\∀(a':Option Addr)(c':Nat) aj,mL.le aj->rowRd aj a' (List.append xs ys)->TokFact mL (Za2 a 0 ax 5) a' az c'->∀M,m'.le M->aa.le M->mL.le M->aj.le M->Zae xL/\nxI
 ak I (slice a' az c'::ar) [] [slice a' az c'] M) (Zae xL/\nxI ak I (ag::ar) [] [ay] m'))))))) (br (av == 0) (∃R_1,True/\CX pG 109 (.mk [Value.float .f64 4607182418800017408]) m' [] R_1/\ZaU (.agg [.int u8,.any,.str,
 .int i64,.slice]) R_1/\∀n (v:Value) s ah a ad c aa,lX (agg (.mk [int u8 n,v,string s,int i64 ah,slice a ad c])) λyL=>m'.le aa->R_1 yL aa []->chk (v.oneCell'&&true) (rtM m aa R yL)) (atA a λb o=>Zaf (0:
 Int) n/\∃v ai al an ao:Value,m'.reads b (o+0) [v,ai,al,an,ao]/\∀b,chk (v.oneCell'&&(ai.oneCell'&&(al.oneCell'&&(an.oneCell'&&(ao.oneCell'&&true))))) (((0:Int)<=1/\(1:Int)<=av)/\∃I,inI I [int i64
 0] [[v,ai,al,an,ao]] [] m'/\∀ah (cs:List Value) (m':Mem) (ad:Nat),True->I [int i64 ah] [cs] [] m' ad->br (decide (ah < (↑(n - Int.toNat (1:Int)):Int))) (atA (Za2 a (Int.toNat (1:Int)) c 5) λbp o=>
 Zaf ah (n - Int.toNat (1:Int))/\∃v ap aq a1 a2:Value,m'.reads bp (o+Int.toNat ah*5) [v,ap,aq,a1,a2]/\∀(bq:Nat),chk (v.oneCell'&&(ap.oneCell'&&(aq.oneCell'&&(a1.oneCell'&&(a2.oneCell'&&true))))) (∃
 R,True/\CX pG 113 (.mk [int u8 2,agg (.mk cs),agg (.mk [v,ap,aq,a1,a2])]) m' [] R/\ZaU (.agg [.int u8,.any,.str,.int i64,.slice]) R/\∀n (v:Value) s af a au c aa,lV [int u8 n,v,string s,int i64 af,slice a au
 c] λa8=>m'.le aa->R (agg (.mk a8)) aa []->chk (v.oneCell'&&true) (Zae (some (Box.mk b [] 52 5 false true)::xL)/\ac=ac/\nxI ad I [int i64 (i64.wrap (ah+1))] [a8] [] aa))) (chk (Nat.beq (cs.length) 5&&Zdq cs)
 (rtM m m' R (agg (.mk cs)))))))):CX Tryz.prog 90 #[.slice p0a p0n p0c] m [] R:=
 Zad (E:=Zny) Zal mix Tryz.func90 (by kernel_rfl) (Eq.mp (by kernel_rfl) h)
def Zk4:Env:={ EB with
 frzNew:=[1] }
theorem Zi4(aA aE aJ aK bA aX aW:Int)(aU:Option Addr)(aR aV:Nat)(m:Mem)(R:RT)(h:
 lV [int u8 aA,int u64 aE,int u64 aJ,int u64 aK,int u64 bA,int i64 aX,int i64 aW,slice aU aR aV] λxL=>fzM m xL λb m'=>∀(b:Nat) b,m'.free b->rtM m (m'.add b xL) R (agg (.mk [int u8 6,int
 u64 0,int u64 0,int u64 0,int u64 0,int i64 0,int i64 0,slice (some (Addr.mk b 0 none)) 1 1]))):CX Tryz.prog 87 #[.agg #[.int .u8 aA,.int .u64 aE,.int .u64 aJ,.int .u64 aK,.int .u64 bA,.int .i64 aX,.int .i64 aW,.slice aU aR aV]] m [] R:=
 Zad (E:=Zk4) Zal mix Tryz.func87 (by kernel_rfl) (Eq.mp (by kernel_rfl) h)
def Zqc:Env:={ EB with
 frzNew:=[3] }
theorem Znz(aA aE aJ aK bA aX aW:Int)(aU:Option Addr)(aR aV:Nat)(p1 p2:Int)(m:Mem)(R:RT)(h:
 lV [int u8 aA,int u64 aE,int u64 aJ,int u64 aK,int u64 bA,int i64 aX,int i64 aW,slice aU aR aV] λxL=>fzM m xL λb m'=>∀(b:Nat) b,m'.free b->rtM m (m'.add b xL) R (agg (.mk [int u8 5,int
 u64 0,int u64 0,int u64 0,int u64 0,int i64 p1,int i64 p2,slice (some (Addr.mk b 0 none)) 1 1]))):CX Tryz.prog 88 #[.agg #[.int .u8 aA,.int .u64 aE,.int .u64 aJ,.int .u64 aK,.int .u64 bA,.int .i64 aX,.int .i64 aW,.slice aU aR aV],.int .i64 p1,.int .i64 p2] m [] R:=
 Zad (E:=Zqc) Zal mix Tryz.func88 (by kernel_rfl) (Eq.mp (by kernel_rfl) h)
def ZhM:Env:=EB
theorem ZgC(p0:Int)(m:Mem)(R:RT)(h:
 ∀b,m.free b->(12:Int)≠0/\Zaf (Int.tmod p0 (12:Int)) 12/\Eng.ZvQ [string (.mk (.mk [97])),string (.mk (.mk [98])),string (.mk (.mk [97,98])),string (.mk (.mk [97])),string (.mk (.mk [98])),string (.mk (.mk
 [99])),string (.mk (.mk [97,98,99])),string (.mk (.mk [98,99])),string (.mk (.mk [10])),string (.mk (.mk [0,255])),string (.mk (.mk [97])),string (.mk (.mk [98]))] (Int.toNat (Int.tmod p0 (12:Int))*1) λv=>rtM m
 (m.add b [string (.mk (.mk [97])),string (.mk (.mk [98])),string (.mk (.mk [97,98])),string (.mk (.mk [97])),string (.mk (.mk [98])),string (.mk (.mk [99])),string (.mk (.mk [97,98,99])),string (.mk (.mk [98,99])),
 string (.mk (.mk [10])),string (.mk (.mk [0,255])),string (.mk (.mk [97])),string (.mk (.mk [98]))]) R v):CX Tryz.prog 85 #[.int .u8 p0] m [] R:=
 Zad (E:=ZhM) Zal mix Tryz.func85 (by kernel_rfl) (Eq.mp (by kernel_rfl) h)
def Zk5:Env:={ EB with
 loops:=swI nLa [(3,⟨[(7,.int .i64)],[3],[],false⟩)]
 dr:=swI [] [(5,[dO 0 [],dO 1 [],dO 2 [0,1],dO 3 [0,1,2],⟨4,[3],[],none,[0,1,2,3],[]⟩,⟨5,[3],[],none,[0,1,2,3,4],[]⟩,dO 6 [],dO 7 [],dO 8 [6,7],dO 9 [6,7,8],dO 10 [6,7,8,9],dO 11 [0,1,2,3,4,5,6,7,8,9,10],⟨12,[3],[],none,rg 0 12,[]⟩,⟨13,[3],[3],none,rg 0 13,[]⟩])] }
theorem Zi5(p0:ByteArray)(m:Mem)(R:RT)(h:
 ∀b b_1,∃I,inI I [int i64 0] [[int u64 0,int u64 0,int u64 0,int u64 0]] [] m/\∀(n:Int)(cs:List Value) m' (n_1:Nat),lE (ZgW p0 (Int.toNat n)) λyL=>lE (u8.wrap (Int.tdiv yL (64:Int))) λyL_1=>lE (0 +
 Int.toNat yL_1*1) λyL_2=>lV (List.append cs (List.drop (1+cs.length) [int u8 2,int u64 0,int u64 0,int u64 0,int u64 0,int i64 0,int i64 0,slice none 0 0])) λxL=>m.le m'->I [int i64 n] [cs] [] m' n_1->br
 (decide (n < (↑(ByteArray.size p0):Int))) (Zaf n (ByteArray.size p0)/\(64:Int)≠0/\Zaf yL_1 4/\Eng.ZvQ cs yL_2 λv=>Zaf n (ByteArray.size p0)/\(64:Int)≠0/\(0:Int)<=Int.tmod yL (64:Int)/\chk
 (ZaS u64 v&&decide (u64=u64)) (Zaf yL_1 4/\chk (Nat.ble (yL_2+1) (cs.length)) (Zae [some (Box.mk b_1 [] 37 4 false true),some (Box.mk b [int u8 0,int u64 0,int u64 0,int u64 0,int u64 0,int i64 0,int i64 0,
 slice none 0 0] 40 8 false true)]/\nxI n_1 I [int i64 (i64.wrap (n+1))] [ZaF cs yL_2 [int u64 (u64.wrap (↑(BitVec.toNat (BitVec.ofInt 64 (RowKit.intOf v)|||BitVec.ofInt 64 (u64.wrap ((1:Int)*(2:Int) ^ min (Int.toNat
 (Int.tmod yL (64:Int))) 64)))):Int))]] [] m'))) (chk (Nat.beq (cs.length) 4&&true) (chk (Nat.beq (xL.length) (nat_lit 7)&&Zdq xL) (rtM m m' R (agg (.mk (ZaF [int u8 2,int u64 0,int u64 0,int u64 0,int u64 0,int
 i64 0,int i64 0,slice none 0 0] 1 cs))))))):CX Tryz.prog 84 #[.string p0] m [] R:=
 Zad (E:=Zk5) Zal mix Tryz.func84 (by kernel_rfl) (Eq.mp (by kernel_rfl) h)
def Zk6:Env:={ EB with
 loops:=swI nLa [(3,⟨[(7,.slice),(14,.int .i64)],[],[(30,8)],false⟩)]
 joins:=swI none [(8,some [(31,.bool)])]
 tokOf:=swI 0 [(21,30),(30,30)]
 frzNew:=[4,5] }
theorem Zi6(p0 bU bW bV bX dG eK eL:Int)(fQ:Option Addr)(fR fS:Nat)(gG fA gR fL jd lD lF:Int)(jx:Option Addr)(jy jz:Nat)(m:Mem)(R:RT)(h:
 lV [int u8 bU,int u64 bW,int u64 bV,int u64 bX,int u64 dG,int i64 eK,int i64 eL,slice fQ fR fS] λxL=>lV [int u8 gG,int u64 fA,int u64 gR,int u64 fL,int u64 jd,int i64 lD,int i64
 lF,slice jx jy jz] λaj=>lV (int u8 bU::int u64 bW::int u64 bV::int u64 bX::int u64 dG::int i64 eK::int i64 eL::slice fQ fR fS::aj) λaf=>fzM m xL λb m'=>lE [some
 (Box.mk b xL 40 8 true true)] λxL=>fzM m' aj λb m'=>∀aw ag,lE (some (Box.mk ag af 40 16 true true)::some (Box.mk aw [int u8 0,int u64 0,int u64 0,int u64 0,int u64 0,int i64 0,int i64 0,slice none 0 0] 40 8
 false true)::some (Box.mk b aj 40 8 true true)::xL) λxL=>m'.free ag->∃I,inI I [slice none 0 0,int i64 0] [] [slice none 0 0] (m'.add ag af)/\∀a (n:Nat) c (ad:Int) ax ay az (aa:Mem) (ah:Nat),lX (slice ax ay
 az) λyL=>lE (Tok.mk yL 8) λak=>lE [some ak] λai=>lE (n+1) λae=>lV [int i64 (i64.wrap (ad+1))] λal=>lX (slice a n c) λac=>lV (List.take 8 (List.drop (Int.toNat ad*8) af)) λab=>Mem.le (m'.add
 ag af) aa->I [ac,int i64 ad] [] [yL] aa ah->br (decide (ad < (↑(2:Nat):Int))) (Zaf ad 2/\chk (Nat.ble (Int.toNat ad*8) (1+1+1+1+1+1+1+1)) (∀b,lE (some (Box.mk b ab 40 8 false true)::xL) λam=>
 chk (Nat.beq (ab.length) 8&&Zdq ab) (Eng.ZvQ ab 0 λv=>chk (ZaS u8 v&&decide (u8=u8)) (br (RowKit.intOf v == p0) (Eng.ZvQ ab 7 λv=>lE (n+slN v) λyL=>chk (Za5 v&&true) ((ak=Tok.mk ac 8\/ac=slice
 none 0 0\/c < yL)/\∃(xs:List Value),∃(ys:List Value),xs.length=n*8/\ys.length=slN v*8/\rowRd aa a xs/\rowRd aa (slA v) ys/\(∀(u:Value),u∈ys->u.oneCell'=true)/\yL*80<=140737488355328/\yL <=
 9223372036854775807/\∀(a':Option Addr) c' m',aa.le m'->rowRd m' a' (List.append xs ys)->Zae xL/\nxI ah I (slice a' yL c'::al) [] [slice a' yL c'] m')) (∃(b:Bool),br (p0 == 3) (Eng.ZvQ ab 0 λv=>chk (ZaS u8
 v&&decide (u8=u8)) (Zae am/\ai=ai/\[bool (RowKit.intOf v == 1)]=[bool b])) (Zae am/\ai=ai/\[bool false]=[bool b])/\br b (Zae xL/\nxI ah I (ac::al) [] [yL] aa) (chk (Nat.beq (ab.length) 8&&true) (∀b,
 lM (aa.add b (List.append ab [])) λmL=>aa.free b->(ak=Tok.mk ac 8\/ac=slice none 0 0\/c < ae)/\∃(xs:List Value),∃(ys:List Value),xs.length=n*8/\ys.length=1*8/\rowRd mL a xs/\rowRd mL (some (Addr.mk
 b 0 none)) ys/\(∀(u:Value),u∈ys->u.oneCell'=true)/\ae*80<=140737488355328/\ae<=9223372036854775807/\∀(a':Option Addr) c' m',mL.le m'->rowRd m' a' (List.append xs ys)->Zae xL/\nxI ah I (slice a' ae c' ::
 al) [] [slice a' ae c'] m'))))))) (br ((↑n:Int) == 0) (rtM m aa R (agg (.mk [int u8 1,int u64 0,int u64 0,int u64 0,int u64 0,int i64 0,int i64 0,slice none 0 0]))) (br ((↑n:Int) == 1) (atA a λb o=>Zaf (0:
 Int) n/\∃v an ao ap aq ar au av:Value,lV [v,an,ao,ap,aq,ar,au,av] λxL=>aa.reads b (o+0) xL/\chk (v.oneCell'&&(an.oneCell'&&(ao.oneCell'&&(ap.oneCell'&&(aq.oneCell'&&(ar.oneCell'&&(au.oneCell' &&
 (av.oneCell'&&true)))))))) (rtM m aa R (agg (.mk xL)))) (rtM m aa R (agg (.mk [int u8 p0,int u64 0,int u64 0,int u64 0,int u64 0,int i64 0,int i64 0,ac])))))):CX Tryz.prog 86 #[.int .u8 p0,.agg #[.int .u8 bU,.int .u64 bW,.int .u64 bV,.int .u64 bX,.int .u64 dG,.int .i64 eK,.int .i64 eL,.slice fQ fR fS],.agg #[.int .u8 gG,.int .u64 fA,.int .u64 gR,.int .u64 fL,.int .u64 jd,.int .i64 lD,.int .i64 lF,.slice jx jy jz]] m [] R:=
 Zad (E:=Zk6) Zal mix Tryz.func86 (by kernel_rfl) (Eq.mp (by kernel_rfl) h)
def ZnA:Env:={ EB with
 loops:=swI nLa [(4,⟨[(3,.slice),(4,.int .i64),(5,.int .i64),(22,.int .i64)],[],[(40,8)],false⟩),(32,⟨[(195,.int .i64)],[13],[],false⟩)]
 joins:=swI none [(12,some [(48,.bool)]),(14,some [(74,.bool)]),(16,some [(100,.bool)]),(19,some [(123,.bool)]),(21,some [(161,.bool)])]
 dr:=swI [] [(13,[dO 0 [],dO 1 [],dO 2 [1],dO 3 [],dO 4 [3],dO 5 [0,1,2,3,4],dO 6 [],dO 7 [],dO 8 [7],dO 9 [6,7,8],dO 10 [6,7,8,9],dO 11 [],dO 12 [],dO 13 [12],dO 14 [11,12,13],dO 15 [11,12,13,14],dO 16 [6,7,8,9,10,11,12,13,14,15],⟨17,[72],[72],none,[6,7,8,9,10,11,12,13,14,15,16],[16]⟩,⟨18,[72],[],some 40,rg 0 18,[17]⟩,dO 19 (rg 0 19)]),(15,[dO 0 [],dO 1 [],dO 2 [1],dO 3 [],dO 4 [3],dO 5 [0,1,2,3,4],dO 6 [],dO 7 [],dO 8 [7],dO 9 [6,7,8],dO 10 [6,7,8,9],dO 11 [],dO 12 [],dO 13 [12],dO 14 [11,12,13],dO 15 [11,12,13,14],dO 16 [6,7,8,9,10,11,12,13,14,15],⟨17,[98],[98],none,[6,7,8,9,10,11,12,13,14,15,16],[16]⟩,⟨18,[98],[],some 40,rg 0 18,[17]⟩,dO 19 (rg 0 19)]),(20,[⟨0,[7],[],none,[],[]⟩,⟨1,[7],[],none,[0],[]⟩,dO 2 [0,1],dO 3 [0,1,2],⟨4,[7],[],none,[],[]⟩,⟨5,[7],[],none,[4],[]⟩,dO 6 [4,5],dO 7 [4,5,6],dO 8 [0,1,2,3],dO 9 [0,1,2,3,4,5,6,7,8]])]
 tokOf:=swI 0 [(40,40),(47,40),(73,40),(99,40)]
 thaw:=true
 stAt:=swI none [(120,some 40),(183,some 40)] }
theorem Zk7(p0a:Option Addr)(p0n p0c:Nat)(m:Mem)(R:RT)(h:
 ∀b,lE (if(25:Int) < (↑p0n:Int)then(25:Int)else(↑p0n:Int)) λyL=>lE [some (Box.mk b [int u8 0,int u64 0,int u64 0,int u64 0,int u64 0,int i64 0,int i64 0,slice none 0 0] 40 8 false true)] λxL=>((0:
 Int)<=yL/\yL<=(↑p0c:Int))/\∃I,inI I [slice none 0 0,int i64 1,int i64 0,int i64 0] [] [slice none 0 0] m/\∀(a:Option Addr)(n:Nat) c bu bq (bm:Int) cf bb bs (m':Mem) (ay:Nat),lE (↑n:Int) λbc=>lV
 [bool (decide (bc > 1))] λbz=>lV [int i64 (i64.wrap (bm+1))] λca=>lX (slice cf bb bs) λaz=>lE (Tok.mk az 8) λbn=>lE (i64.wrap (bc - (2:Int))) λa0=>lE (Int.toNat a0) λa4=>lX (int i64 bu) λa6=>
 lE (a4 - 0) λbd=>lX (slice (Za2 a 0 a4 8) bd bd) λbt=>lE (n+1) λam=>lE (bd+1) λan=>lX (slice a n c) λa1=>lE (i64.wrap (bc - (1:Int))) λa5=>lE (Int.toNat a5*8) λao=>lV (int i64 bq ::
 ca) λa7=>lE [some bn] λab=>True->I [a1,a6,int i64 bq,int i64 bm] [] [az] m' ay->br (decide (bm < (↑(Int.toNat yL - 0):Int))) (atA (Za2 p0a 0 p0c 3) λb o=>Zaf bm (Int.toNat yL - 0)/\∃v a9 be:Value,
 lE (i64.wrap (Int.tmod (RowKit.intOf be) (4:Int))) λyL=>lE (i64.wrap (Int.tmod (RowKit.intOf a9) (3:Int))) λba=>lE (if yL > ba then yL else ba) λcb=>lE (if(-1:Int) > ba then(-1:Int)else ba) λcc=>lE
 (Int.tmod (RowKit.intOf v) (12:Int)) λbg=>lE (i64.wrap (bu*if(1:Int) > cb then(1:Int)else cb)) λcd=>lE (i64.wrap (bu*if(1:Int) > cc then(1:Int)else cc)) λce=>lV [v,a9,be] λbo=>m'.reads b
 (o+Int.toNat bm*3) bo/\∀b,lE (some (Box.mk b bo 162 3 false true)::xL) λae=>chk (v.oneCell'&&(a9.oneCell'&&(be.oneCell'&&true))) (chk (ZaS u8 v&&decide (u8=u8)) ((12:Int)≠0/\br (decide (bg < 4)) (kT
 pG 85 [a9] m' λs m'=>∃R,True/\CX pG 84 (.mk [string s]) m' [] R/\ZaU (shT) R/\∀ac af ag ah ai aj ak a2 a8 cg aa,lV [int u8 ac,int u64 af,int u64 ag,int u64 ah,int u64 ai,int i64 aj,int i64 ak,slice a2 a8 cg]
 λad=>m'.le aa->R (agg (.mk ad)) aa []->∀b,lM (aa.add b ad) λmL=>aa.free b->(bn=Tok.mk a1 8\/a1=slice none 0 0\/c < am)/\∃(xs:List Value),∃(ys:List Value),xs.length=n*8/\ys.length=1*8/\rowRd
 mL a xs/\rowRd mL (some (Addr.mk b 0 none)) ys/\(∀(u:Value),u∈ys->u.oneCell'=true)/\am*80<=140737488355328/\am<=9223372036854775807/\∀(a':Option Addr)(c':Nat) m',mL.le m'->rowRd m' a' (List.append xs ys)
 -> TokFact mL a a' am c'->Zae xL/\nxI ay I (slice a' am c'::a6::a7) [] [slice a' am c'] m') (br (bg == 4) (∀b,lM (m'.add b [int u8 1,int u64 0,int u64 0,int u64 0,int u64 0,int i64 0,int i64 0,slice none 0 0]) fun
 mL=>m'.free b->(bn=Tok.mk a1 8\/a1=slice none 0 0\/c < am)/\∃(xs:List Value),∃(ys:List Value),xs.length=n*8/\ys.length=1*8/\rowRd mL a xs/\rowRd mL (some (Addr.mk b 0 none)) ys/\(∀(u:Value),u∈ys
 -> u.oneCell'=true)/\am*80<=140737488355328/\am<=9223372036854775807/\∀(a':Option Addr)(c':Nat) m',mL.le m'->rowRd m' a' (List.append xs ys)->TokFact mL a a' am c'->Zae xL/\nxI ay I (slice a' am c'::a6 ::
 a7) [] [slice a' am c'] m') (∃(b:Bool),br (decide (bg < 7)) (Zae ae/\ab=ab/\bz=[bool b]) (Zae ae/\ab=ab/\[bool false]=[bool b])/\br b (∃(f:Fx),((0:Int)<=a0/\a0<=(↑c:Int))/\((0:Int)<=a0/\a0 <=
 (↑a4:Int))/\atA a λb o=>Zaf a0 n/\∃v ap aq ar au av aw ax:Value,lV [v,ap,aq,ar,au,av,aw,ax] λad=>m'.reads b (o+a4*8) ad/\atA a λb o=>Zaf a5 n/\∃v bh bi bj bk bl bv bw:Value,lV [v,
 bh,bi,bj,bk,bl,bv,bw] λal=>lV [int u8 3,agg (.mk ad),agg (.mk al)] λa3=>m'.reads b (o+ao) al/\∃R,R=f 16 a3 m'/\CX pG 86 (.mk a3) m' [] R/\ZaU (shT) R/\∀n ac af ag ah ai aj a2 ak c aa,lV [int u8 n,
 int u64 ac,int u64 af,int u64 ag,int u64 ah,int i64 ai,int i64 aj,slice a2 ak c] λbp=>m'.le aa->R (agg (.mk bp)) aa []->∀b,lM (aa.add b bp) λmL=>aa.free b->(bn=Tok.mk bt 8\/bt=slice none 0 0\/bd < an)/\
 ∃(xs:List Value),∃(ys:List Value),xs.length=bd*8/\ys.length=1*8/\rowRd mL (Za2 a 0 a4 8) xs/\rowRd mL (some (Addr.mk b 0 none)) ys/\(∀(u:Value),u∈ys->u.oneCell'=true)/\an*80<=140737488355328/\
 an<=9223372036854775807/\∀(a':Option Addr)(c':Nat) bf,mL.le bf->rowRd bf a' (List.append xs ys)->TokFact mL (Za2 a 0 a4 8) a' an c'->∀M,m'.le M->aa.le M->mL.le M->bf.le M->Zae xL/\nxI ay I (slice a' an c'
 :: a6::a7) [] [slice a' an c'] M) (∃(b:Bool),br (decide (bg < 9)) (Zae ae/\ab=ab/\bz=[bool b]) (Zae ae/\ab=ab/\[bool false]=[bool b])/\br b (∃(f:Fx),((0:Int)<=a0/\a0<=(↑c:Int))/\((0:Int)<=a0
 /\ a0<=(↑a4:Int))/\atA a λb o=>Zaf a0 n/\∃v ap aq ar au av aw ax:Value,lV [v,ap,aq,ar,au,av,aw,ax] λad=>m'.reads b (o+a4*8) ad/\atA a λb o=>Zaf a5 n/\∃v bh bi bj bk bl bv bw:Value,lV
 [v,bh,bi,bj,bk,bl,bv,bw] λal=>lV [int u8 4,agg (.mk ad),agg (.mk al)] λa3=>m'.reads b (o+ao) al/\∃R,R=f 16 a3 m'/\CX pG 86 (.mk a3) m' [] R/\ZaU (shT) R/\∀n ac af ag ah ai aj a2 ak c aa,lV [int u8
 n,int u64 ac,int u64 af,int u64 ag,int u64 ah,int i64 ai,int i64 aj,slice a2 ak c] λbp=>m'.le aa->R (agg (.mk bp)) aa []->∀b,lM (aa.add b bp) λmL=>aa.free b->(bn=Tok.mk bt 8\/bt=slice none 0 0\/bd < an)
 /\ ∃(xs:List Value),∃(ys:List Value),xs.length=bd*8/\ys.length=1*8/\rowRd mL (Za2 a 0 a4 8) xs/\rowRd mL (some (Addr.mk b 0 none)) ys/\(∀(u:Value),u∈ys->u.oneCell'=true)/\an*80<=140737488355328/\
 an<=9223372036854775807/\∀(a':Option Addr)(c':Nat) bf,mL.le bf->rowRd bf a' (List.append xs ys)->TokFact mL (Za2 a 0 a4 8) a' an c'->∀M,m'.le M->aa.le M->mL.le M->bf.le M->Zae xL/\nxI ay I (slice a' an c'
 :: a6::a7) [] [slice a' an c'] M) (∃(b:Bool),br (bg == 9) (br (decide (bc > 0)) (Zae ae/\ab=ab/\[bool (decide (bq < 9))]=[bool b]) (Zae ae/\ab=ab/\[bool false]=[bool b])) (Zae ae/\ab=ab/\[bool false]
 = [bool b])/\br b (atA a λb o=>Zaf a5 n/\∃v ap aq ar au av aw ax:Value,lV [v,ap,aq,ar,au,av,aw,ax] λad=>m'.reads b (o+ao) ad/\∃R,True/\CX pG 87 (.mk [agg (.mk ad)]) m' [] R/\ZaU (shT) R/\∀ac af
 ag ah ai aj ak a2 a8 c aa,lV [int u8 ac,int u64 af,int u64 ag,int u64 ah,int u64 ai,int i64 aj,int i64 ak,slice a2 a8 c] λal=>m'.le aa->R (agg (.mk al)) aa []->atA a λb o=>Zaf a5 n/\az=slice (some
 (Addr.mk b 0 none)) bb bs/\o+ao+8<=bb*8/\Zae xL/\nxI ay I (a1::a6::int i64 (i64.wrap (bq+1))::ca) [] [az] (Mem.upd aa b (o+ao) al)) (∃(b:Bool),br (decide (bg > 9)) (br (decide (bc > 0)) (atA a λbx o
 => Zaf a5 n/\∃(v:Value),m' bx (o+ao+0)=some v/\chk (ZaS u8 v&&decide (u8=u8)) (Zae ae/\ab=ab/\[bool !RowKit.intOf v == 1]=[bool b])) (Zae ae/\ab=ab/\[bool false]=[bool b])) (Zae ae/\ab =
 ab/\[bool false]=[bool b])/\br b (chk (ZaS u8 a9&&decide (u8=u8)) ((3:Int)≠0/\chk (ZaS u8 be&&decide (u8=u8)) ((4:Int)≠0/\∃(b:Bool),lV [bool b] λad=>br (decide (yL < ba)) (Zae ae/\ab=ab/\
 [bool true]=ad) (br (yL == 0) (Zae ae/\ab=ab/\[bool true]=ad) (br (ba == 1) (Zae ae/\ab=ab/\[bool (yL == 1)]=ad) (Zae ae/\ab=ab/\[bool false]=ad)))/\br b (br (decide (ce<=16)) (atA a λb o=>
 Zaf a5 n/\∃v ap aq ar au av aw ax:Value,lV [v,ap,aq,ar,au,av,aw,ax] λal=>m'.reads b (o+ao) al/\∃R,True/\CX pG 88 (.mk [agg (.mk al),int i64 ba,int i64 (-1)]) m' [] R/\ZaU (shT) R/\∀ac af ag ah ai
 aj ak a2 a8 c aa,lV [int u8 ac,int u64 af,int u64 ag,int u64 ah,int u64 ai,int i64 aj,int i64 ak,slice a2 a8 c] λa3=>m'.le aa->R (agg (.mk a3)) aa []->atA a λb o=>Zaf a5 n/\az=slice (some (Addr.mk b 0
 none)) bb bs/\o+ao+8<=bb*8/\Zae xL/\nxI ay I (a1::int i64 ce::a7) [] [az] (Mem.upd aa b (o+ao) a3)) (Zae xL/\nxI ay I (a1::a6::a7) [] [az] m')) (br (decide (cd<=16)) (atA a λb o=>Zaf a5 n/\∃v
 ap aq ar au av aw ax:Value,lV [v,ap,aq,ar,au,av,aw,ax] λal=>m'.reads b (o+ao) al/\∃R,True/\CX pG 88 (.mk [agg (.mk al),int i64 ba,int i64 yL]) m' [] R/\ZaU (shT) R/\∀ac af ag ah ai aj ak a2 a8 c aa,lV
 [int u8 ac,int u64 af,int u64 ag,int u64 ah,int u64 ai,int i64 aj,int i64 ak,slice a2 a8 c] λa3=>m'.le aa->R (agg (.mk a3)) aa []->atA a λb o=>Zaf a5 n/\az=slice (some (Addr.mk b 0 none)) bb bs/\o+ao +
 8<=bb*8/\Zae xL/\nxI ay I (a1::int i64 cd::a7) [] [az] (Mem.upd aa b (o+ao) a3)) (Zae xL/\nxI ay I (a1::a6::a7) [] [az] m'))))) (Zae xL/\nxI ay I (a1::a6::a7) [] [az] m'))))))))) (br (bc == 0) (∃R_1,
 True/\CX pG 84 (.mk [string (.mk (.mk [97]))]) m' [] R_1/\ZaU (shT) R_1/\∀n ac af ag ah ai aj a ak c aa,lX (agg (.mk [int u8 n,int u64 ac,int u64 af,int u64 ag,int u64 ah,int i64 ai,int i64 aj,slice a ak c])) λyL
 => m'.le aa->R_1 yL aa []->rtM m aa R yL) (atA a λb o=>Zaf (0:Int) n/\∃v a9 be ap aq ar au av:Value,lV [v,a9,be,ap,aq,ar,au,av] λbo=>m'.reads b (o+0) bo/\∀b,chk (v.oneCell'&&(a9.oneCell' &&
 (be.oneCell'&&(ap.oneCell'&&(aq.oneCell'&&(ar.oneCell'&&(au.oneCell'&&(av.oneCell'&&true)))))))) (((0:Int)<=1/\(1:Int)<=bc)/\∃I,inI I [int i64 0] [bo] [] m'/\∀ac (cs:List Value) (m':Mem) (af:Nat),
 True->I [int i64 ac] [cs] [] m' af->br (decide (ac < (↑(n - Int.toNat (1:Int)):Int))) (atA (Za2 a (Int.toNat (1:Int)) c 8) λbx o=>Zaf ac (n - Int.toNat (1:Int))/\∃v aw ax bh bi bj bk bl:Value,lV [v,aw,
 ax,bh,bi,bj,bk,bl] λae=>m'.reads bx (o+Int.toNat ac*8) ae/\∀(ci:Nat),chk (v.oneCell'&&(aw.oneCell'&&(ax.oneCell'&&(bh.oneCell'&&(bi.oneCell'&&(bj.oneCell'&&(bk.oneCell'&&(bl.oneCell' &&
 true)))))))) (∃R,True/\CX pG 86 (.mk [int u8 4,agg (.mk cs),agg (.mk ae)]) m' [] R/\ZaU (shT) R/\∀n ag ah ai aj ak a8 a ch c aa,lV [int u8 n,int u64 ag,int u64 ah,int u64 ai,int u64 aj,int i64 ak,int i64 a8,slice
 a ch c] λad=>m'.le aa->R (agg (.mk ad)) aa []->Zae (some (Box.mk b [] 40 8 false true)::xL)/\ab=ab/\nxI af I [int i64 (i64.wrap (ac+1))] [ad] [] aa)) (chk (Nat.beq (cs.length) 8&&Zdq cs) (rtM m m' R (agg (.mk
 cs)))))))):CX Tryz.prog 58 #[.slice p0a p0n p0c] m [] R:=
 Zad (E:=ZnA) Zal mix Tryz.func58 (by kernel_rfl) (Eq.mp (by kernel_rfl) h)
end Go.Proofs.YtdopppmkbkkmiaaGreatDoor
namespace Go.Proofs.YtdopppmkbkkmiaaGreatDoor
open Go Go.Eng Go.Rx Go.Proofs Go.RowKit
set_option maxRecDepth 100000
theorem ZxN{α:Type}{cs:α->List Value}{m:Mem}{a:Option Addr}{ts r:List α}(h:rowRd m a ((ts++r).map cs).flatten):rowRd m a (ts.map cs).flatten:=by
 rw[List.map_append,List.flatten_append]at h
 rcases h with h|⟨b,o,ha,h⟩
 ·exact .inl (List.append_eq_nil_iff.1 h).1
 ·refine .inr ⟨b,o,ha,λj v hj=>h j v ?_⟩
  rw[zA5 (zA0 hj).1];exact hj
theorem Zk8{α:Type}{cs:α->List Value}{ts:List α}{t:α}:((ts++[t]).map cs).flatten=(ts.map cs).flatten++cs t:=by simp
theorem ZxO{α:Type}{cs:α->List Value}{n:Nat}(hn:∀x,(cs x).length=n){m:Mem}{b:Nat}{ts:List α}{x t:α}(h:rowRd m (some ⟨b,0,none⟩) ((ts++[x]).map cs).flatten)(h0:0 < n):rowRd (m.upd b (0+ts.length*n) (cs t)) (some ⟨b,0,none⟩) ((ts++[t]).map cs).flatten:=by
 have hl:=ZaH hn ts
 refine .inr ⟨b,0,rfl,λj v hj=>?_⟩
 rw[Zk8]at hj h
 rcases Nat.lt_or_ge j (ts.length*n)with aH|bL
 ·rw[zA5 (by omega)]at hj
  unfold Mem.upd;try dsimp only
  rw[if_neg (by omega)]
  rcases h with h|⟨b',o',ha,h⟩
  ·have:=congrArg List.length h
   rw[zA1,hl,hn]at this
   simp at this;omega
  ·cases ha
   refine h j v ?_
   rw[zA5 (by omega)];exact hj
 ·rw[zA4 (by omega),hl]at hj
  have h8:=(zA0 hj).1
  have h9:=hn t
  unfold Mem.upd;try dsimp only
  rw[if_pos ⟨rfl,by omega,by omega⟩,show 0+j - (0+ts.length*n)=j - ts.length*n by omega]
  exact hj
theorem Apart.rbase{α:Type}{cs:α->List Value}{n:Nat}(hn:∀x,(cs x).length=n)(h0:0 < n){mb m:Mem}{a:Option Addr}{ts:List α}(h:Apart mb a)(aC:rowRd m a (ts.map cs).flatten)(dA:ts≠[]):∃b,a=some ⟨b,0,none⟩/\mb.free b/\∃o u,m b o=some u:=by
 obtain⟨t,r,rfl⟩:∃t r,ts=t::r:=by cases ts with
  | nil=>exact absurd rfl dA
  | cons t r=>exact⟨t,r,rfl⟩
 obtain⟨b',o,ha,cC⟩:=Zan hn aC (k:=0) (t:=t) rfl h0
 rcases h with h|⟨b,hb,hf⟩
 ·rw[h]at ha;cases ha
 ·rw[hb]at ha;cases ha
  have:0 < (cs t).length:=by rw[hn];exact h0
  exact⟨b',hb,hf,_,_,cC 0 _ (zA3 this)⟩
theorem ZB4{α:Type}{ts:List α}(h:1 < ts.length):∃r x y,ts=r++[x,y]:=by
 have h1:ts.length - 2 < ts.length:=by omega
 refine⟨ts.take (ts.length - 2),ts[ts.length - 2],ts[ts.length - 1],?_⟩
 have e:=(List.take_append_drop (ts.length - 2) ts).symm
 rw[List.drop_eq_getElem_cons h1,List.drop_eq_getElem_cons (by omega),List.drop_eq_nil_of_le (by omega)]at e
 simpa[show ts.length - 2+1=ts.length - 1 by omega]using e
theorem ZB5{α:Type}{ts:List α}(h:0 < ts.length):∃r x,ts=r++[x]:=by
 refine⟨ts.dropLast,ts.getLast (by intro e;subst e;simp at h),?_⟩
 exact(List.dropLast_concat_getLast _).symm
theorem ZcT{m:Mem}{b:Nat}{cs:List Value}:rowRd (m.add b cs) (some ⟨b,0,none⟩) cs:=.inr ⟨b,0,rfl,λj v hj=>by rw[Nat.zero_add,Mem.add_same];exact hj⟩
theorem ZcU{α:Type}{cs:α->List Value}{n:Nat}(hn:∀x,(cs x).length=n)(h1:∀x,∀u∈cs x,u.oneCell'=true){m3:Mem}{b3:Nat}(hf:m3.free b3){a:Option Addr}{ts:List α}(t:α)(aC:rowRd m3 a (ts.map cs).flatten)(sz:Nat)(bJ:(ts.length+1)*sz<=140737488355328)(hl:ts.length<=1000000){P Q:Prop}(hp:P\/Q){K:Option Addr->Nat->Mem->Prop}
  (k:∀(a':Option Addr)(c':Nat)(m4:Mem),(m3.add b3 (cs t)).le m4->rowRd m4 a' ((ts++[t]).map cs).flatten->TokFact (m3.add b3 (cs t)) a a' (ts.length+1) c'->K a' c' m4):
  (P\/Q)/\∃xs ys:List Value,xs.length=ts.length*n/\ys.length=1*n/\rowRd (m3.add b3 (cs t)) a xs/\rowRd (m3.add b3 (cs t)) (some ⟨b3,0,none⟩) ys/\(∀u:Value,u∈ys->u.oneCell'=true)/\(ts.length+1)*sz<=140737488355328/\ts.length+1<=9223372036854775807/\
   ∀(a':Option Addr)(c':Nat)(m4:Mem),(m3.add b3 (cs t)).le m4->rowRd m4 a' (List.append xs ys)->TokFact (m3.add b3 (cs t)) a a' (ts.length+1) c'->K a' c' m4:=
 ⟨hp,(ts.map cs).flatten,cs t,ZaH hn ts,by rw[hn,Nat.one_mul],aC.mono (Mem.le_add hf _),ZcT,h1 t,bJ,by omega,λa' c' m4 hm hr ht=>k a' c' m4 hm (by rw[Zk8];exact hr) ht⟩
theorem Zgl{α:Type}{cs:α->List Value}{n:Nat}(hn:∀x,(cs x).length=n)(h1:∀x,∀u∈cs x,u.oneCell'=true){m3:Mem}{b3:Nat}(hf:m3.free b3){a:Option Addr}{ts:List α}(t:α)(aC:rowRd m3 a (ts.map cs).flatten)(sz:Nat)(bJ:(ts.length+1)*sz<=140737488355328)(hl:ts.length<=1000000){P Q:Prop}(hp:P\/Q){K:Option Addr->Nat->Mem->Prop}
  (k:∀(a':Option Addr)(c':Nat)(m4:Mem),(m3.add b3 (cs t)).le m4->rowRd m4 a' ((ts++[t]).map cs).flatten->K a' c' m4):
  (P\/Q)/\∃xs ys:List Value,xs.length=ts.length*n/\ys.length=1*n/\rowRd (m3.add b3 (cs t)) a xs/\rowRd (m3.add b3 (cs t)) (some ⟨b3,0,none⟩) ys/\(∀u:Value,u∈ys->u.oneCell'=true)/\(ts.length+1)*sz<=140737488355328/\ts.length+1<=9223372036854775807/\
   ∀(a':Option Addr)(c':Nat)(m4:Mem),(m3.add b3 (cs t)).le m4->rowRd m4 a' (List.append xs ys)->K a' c' m4:=
 ⟨hp,(ts.map cs).flatten,cs t,ZaH hn ts,by rw[hn,Nat.one_mul],aC.mono (Mem.le_add hf _),ZcT,h1 t,bJ,by omega,λa' c' m4 hm hr=>k a' c' m4 hm (by rw[Zk8];exact hr)⟩
def ER(φ:E->Prop):Value->Mem->List (List Value)->Prop:=λv m' _=>∃e:E,v=e.v/\RepE m' e/\φ e
theorem Zgm{φ:E->Prop}:∀(v:Value)(m':Mem) (css:List (List Value)),ER φ v m' css->Shape.fits (.agg [.int .u8,.any,.str,.int .i64,.slice]) v=true:=λv _ _ ⟨e,h,_⟩=>by rw[h];rfl
abbrev EK:=Int->Value->ByteArray->Int->Option Addr->Nat->Nat->Mem->Prop
theorem ZrW{e:E}{n:Int}{v:Value}{s:ByteArray}{g:Int}{a:Option Addr}{k c:Nat}(h:Value.agg #[.int .u8 n,v,.string s,.int .i64 g,.slice a k c]=e.v):n=e.k/\v=.float .f64 e.x/\s=e.s/\g=e.g/\a=e.a/\k=e.subs.length/\c=e.c:=by
 simpa[E.v]using h
theorem ZAZ{φ:E->Prop}{m:Mem}{K:EK}(k:∀(e:E)(m':Mem),m.le m'->RepE m' e->φ e->K e.k (.float .f64 e.x) e.s e.g e.a e.subs.length e.c m'):
  ∀(n:Int)(v:Value)(s:ByteArray)(g:Int)(a:Option Addr)(n1 c:Nat)(m':Mem),m.le m'->ER φ (.agg #[.int .u8 n,v,.string s,.int .i64 g,.slice a n1 c]) m' []->K n v s g a n1 c m':=by
 rintro n v s g a n1 c m' hm ⟨e,hv,hr,hp⟩
 obtain⟨rfl,rfl,rfl,rfl,rfl,rfl,rfl⟩:=ZrW hv
 exact k e m' hm hr hp
def EF(mb M0:Mem)(φ:E->Prop):Value->Mem->List (List Value)->Prop:=λv M' css=>∃m0,mb.le m0/\m0.le M'/\(∀b o u,M0 b o=some u->∀o',m0 b o'=mb b o')/\ER φ v m0 css
theorem Ztq{mb M0:Mem}{φ:E->Prop}:∀(v:Value)(m':Mem) (css:List (List Value)),EF mb M0 φ v m' css->Shape.fits (.agg [.int .u8,.any,.str,.int .i64,.slice]) v=true:=λv _ _ ⟨_,_,_,_,e,h,_⟩=>by rw[h];rfl
theorem ZDW{mb M0:Mem}{φ:E->Prop}{m:Mem}{K:EK}(k:∀(e:E)(m0 m':Mem),m.le m'->mb.le m0->m0.le m'->(∀b o u,M0 b o=some u->∀o',m0 b o'=mb b o')->RepE m0 e->φ e->K e.k (.float .f64 e.x) e.s e.g e.a e.subs.length e.c m'):
  ∀(n:Int)(v:Value)(s:ByteArray)(g:Int)(a:Option Addr)(n1 c:Nat)(m':Mem),m.le m'->EF mb M0 φ (.agg #[.int .u8 n,v,.string s,.int .i64 g,.slice a n1 c]) m' []->K n v s g a n1 c m':=by
 rintro n v s g a n1 c m' hm ⟨m0,h1,h2,h3,e,hv,hr,hp⟩
 obtain⟨rfl,rfl,rfl,rfl,rfl,rfl,rfl⟩:=ZrW hv
 exact k e m0 m' hm h1 h2 h3 hr hp
theorem E.one(e:E):∀u∈e.cs,u.oneCell'=true:=by
 intro u hu
 simp only[E.cs,E.sl,List.mem_cons,List.not_mem_nil,or_false]at hu
 rcases hu with rfl|rfl|rfl|rfl|rfl <;> rfl
theorem E.len(e:E):e.cs.length=5:=rfl
theorem ZeC{m:Mem}{k:Int}{x:Nat}{s:ByteArray}{g:Int}(hk:0<=k/\k < 256)(hs:s.size<=1000000000000000)(hg : -9223372036854775808<=g/\g<=9223372036854775807):RepE m (.node k x s g none 0 []):=by
 simp only[RepE]
 exact⟨by simp,.inl trivial,hk,hs,hg⟩
theorem Zk9:∀s∈Zhn,s.size<=16:=by decide +kernel
theorem ZAi(m:Mem):CX Tryz.prog 108 #[] m [] (Ret (.float .f64 Zzw)):=by
 apply Zp8
 exact⟨_,Ztm Zzw,Zac (Mem.le_refl _) rfl⟩
theorem Zww(x:Nat)(m:Mem):CX Tryz.prog 109 #[.float .f64 x] m [] (ER (λe=>e=ZCB x)):=by
 apply Znv
 intro b
 exact Zaa rfl (Zaa rfl (ZaD (Mem.le_refl _) ⟨ZCB x,rfl,ZeC (by omega) (by rw[Zar];omega) (by omega),rfl⟩))
theorem ZxP(s:ByteArray)(hs:s.size<=1000000000000000)(m:Mem):CX Tryz.prog 110 #[.string s] m [] (ER (λe=>e=ZAX s)):=by
 apply Zk1
 intro b
 exact ZaD (Mem.le_refl _) ⟨ZAX s,rfl,ZeC (by omega) hs (by omega),rfl⟩
def ZA2(l:List ByteArray):Value->Mem->List (List Value)->Prop:=λv m' _=>∃a c,v=.slice a l.length c/\rowRd m' a (ZfG l)
theorem ZdJ{l}:∀(v:Value)(m':Mem) (css:List (List Value)),ZA2 l v m' css->Shape.fits .slice v=true:=λv _ _ ⟨_,_,e,_⟩=>by rw[e];rfl
theorem Zu3(m:Mem):CX Tryz.prog 111 #[] m [] (ZA2 Zhn):=by
 apply Zi3
 intro b hf
 exact ZaD (Mem.le_add hf _) ⟨_,_,rfl,ZcT⟩
theorem ZAj(e:E)(m:Mem)(hr:RepE m e):CX Tryz.prog 112 #[e.v] m [] (ER (λu=>∃a d,u=ZAY a d e)):=by
 apply Znx
 intro b m1 aB hb b2 b3 hf
 have bG:=Mem.le_add hf e.cs
 refine ZaD (mLt aB bG) ⟨ZAY (some ⟨b3,0,none⟩) 1 e,rfl,?_,_,_,rfl⟩
 simp only[ZAY,RepE]
 refine⟨by simp,.inr ⟨b3,0,rfl,?_⟩,by omega,by rw[Zar];omega,by omega⟩
 simp only[RepEAt]
 exact⟨λi v hv=>by rw[Nat.zero_add,Mem.add_same];exact hv,hr.mono' (mLt aB bG),trivial⟩
theorem ZAk(k:Int)(x y:E)(hk:0<=k/\k < 256)(m:Mem)(hx:RepE m x)(hy:RepE m y):CX Tryz.prog 113 #[.int .u8 k,x.v,y.v] m [] (ER (λu=>∃a d,u=opE k a d x y)):=by
 apply Zqb
 intro b m1 aB _ b1 m2 aO _ b2 b3 hf
 have bG:=Mem.le_add hf (x.cs++y.cs)
 have dU:=mLt aB aO
 refine ZaD (mLt dU bG) ⟨opE k (some ⟨b3,0,none⟩) 2 x y,rfl,?_,_,_,rfl⟩
 simp only[opE,RepE]
 refine⟨by simp,.inr ⟨b3,0,rfl,?_⟩,hk,by rw[Zar];omega,by omega⟩
 simp only[RepEAt]
 refine⟨λi v hv=>?_,hx.mono' (mLt dU bG),λi v hv=>?_,hy.mono' (mLt dU bG),trivial⟩
 ·rw[Nat.zero_add]
  exact(Mem.add_same ..).trans (by show(x.cs++y.cs)[i]?=some v;rw[zA5 (zA0 hv).1];exact hv)
 ·rw[show 0+5+i=5+i by omega]
  exact(Mem.add_same ..).trans (by show(x.cs++y.cs)[5+i]?=some v;rw[zA4 (by rw[E.len];omega),E.len,Nat.add_sub_cancel_left];exact hv)
theorem Zwx(T:TypeId){x y r:Nat}(h:FloatKind.f64.format.div x y=some r):BinIs Tryz.prog .quo T (.float .f64 x) (.float .f64 y) (.float .f64 r):=λox oy w=>by
 simp[eqGuard,binOp,Op.floatArith,h]
theorem ZDz(n:Int):ConvIs Tryz.prog 184 49 (.int .i8 n) (.float .f64 (FloatKind.f64.nearest n)):=λw=>by
 simp[convert,Tryz.underlying184,Tryz.underlying49,Conv.intToFloat]
theorem ZB6:∀n:Fin 256,(FloatKind.f64.format.div (FloatKind.f64.nearest (IntKind.i8.wrap (n:Nat))) 4616189618054758400).isSome=true:=by decide +kernel
structure SmE (m:Mem)(a:Option Addr)(l:List (Nat×Nat×Nat)):Prop where
 len:l.length<=9223372036854775807
 byte:∀s∈l,s.1 < 256/\s.2.1 < 256/\s.2.2 < 18446744073709551616
 at':∀i s,l[i]?=some s->∃b o,a=some ⟨b,o,none⟩/\m.reads b (o+i*3) [.int .u8 s.1,.int .u8 s.2.1,.int .u64 s.2.2]
theorem SmE.mono{m m':Mem}{a l}(h:SmE m a l)(hm:m.le m'):SmE m' a l:=
 ⟨h.len,h.byte,λi s hi=>by obtain⟨b,o,h1,h2⟩:=h.at' i s hi;exact⟨b,o,h1,h2.mono hm⟩⟩
theorem Zu4:Zfu Zzw=true:=by decide +kernel
set_option maxHeartbeats 2000000 in
theorem ZxQ(l:List (Nat×Nat×Nat))(a:Option Addr)(c:Nat)(m:Mem)(hl:SmE m a l)(hc:l.length<=c):CX Tryz.prog 90 #[.slice a l.length c] m [] (ER (MkE 9 (2*l.length+1))):=by
 apply Zk3
 have aP:=hl.len
 intro b
 have hN:(if(60:Int) < (l.length:Int)then(60:Int)else(l.length:Int))=((min 60 l.length:Nat):Int):=by split <;> omega
 simp only[hN,zA8,Nat.sub_zero]
 generalize su:min 60 l.length=N
 refine⟨⟨by omega,by omega⟩,λxs css tvs m' q=>∃(i:Nat)(ts:List E)(a:Option Addr)(c:Nat)(mb:Mem),i<=N/\xs=[.slice a ts.length c,.int .i64 i]/\tvs=[.slice a ts.length c]/\ts.length<=c/\m.le mb/\mb.le m'/\Apart mb a/\rowRd m' a (ts.map E.cs).flatten/\(∀t∈ts,RepE mb t)/\PE ts i/\q=N - i,⟨N,0,[],none,0,m,by omega,rfl,rfl,by simp,Mem.le_refl _,Mem.le_refl _,.inl rfl,.inl rfl,by simp,PE.zero,by omega⟩,?_⟩
 rintro a1 n1 c1 z1 a2 n2 c2 m1 q _ ⟨i,ts,a',c',mb,hi,cN,dF,cL,fJ,cZ,dW,aC,aZ,hP,hq⟩
 simp only[List.cons.injEq,Value.slice.injEq,Value.int.injEq,true_and,and_true]at cN dF
 obtain⟨⟨rfl,rfl,rfl⟩,rfl⟩:=cN
 obtain⟨rfl,rfl,rfl⟩:=dF
 have kK:ts.length<=60:=by have:=hP.sz;have:=Zey ts;omega
 refine Zab (λaH=>?_) (λbL=>?_)
 ·have sw:i < N:=by have:=zA6 aH;omega
  obtain⟨s,hs⟩:=ZaM (l:=l) (k:=i) (by omega)
  obtain⟨bs,os,ha,cC⟩:=(hl.mono (mLt fJ cZ)).at' i s hs
  obtain⟨s1,s2,s3⟩:=s
  obtain⟨pq,kL,nB⟩:=hl.byte _ (zA2 hs)
  have hw:IntKind.i64.wrap ((i:Int)+1)=((i+1:Nat):Int):=by rw[Zam (by omega) (by omega)];rfl
  have pt:Int.tmod (s1:Int) 12=((s1 % 12:Nat):Int):=rfl
  simp only[hw,zA8]
  refine⟨bs,os,ha,⟨by omega,by omega⟩,_,_,_,cC,λb2=>Zaa rfl ⟨_,rfl,by omega,?_⟩⟩
  simp only[pt]
  refine Zax (λh1=>?_) (λh1=>Zax (λh2=>?_) (λh2=>Zab (λh3=>?_) (λh3=>?_)))
  ·have hd:=ZB6 ⟨s2,kL⟩
   obtain⟨r,hr⟩:=Option.isSome_iff_exists.1 hd
   have hr:FloatKind.f64.format.div (FloatKind.f64.nearest (IntKind.i8.wrap (s2:Nat))) 4616189618054758400=some r:=hr
   refine⟨_,rfl,_,ZDz _,_,Zwx _ hr,λxs _ _ m'=>(∃x,xs=[.float .f64 x])/\m1.le m',⟨_,rfl,Zab (λ_=>⟨_,rfl,_,Ztm s3,trivial,trivial,⟨_,rfl⟩,Mem.le_refl _⟩) (λ_=>⟨trivial,trivial,⟨_,rfl⟩,Mem.le_refl _⟩)⟩,?_⟩
   rintro v m2 _ ⟨⟨x,hx⟩,aO⟩
   obtain rfl:v=.float .f64 x:=by simpa using hx
   refine⟨λxs _ _ m'=>(∃y,xs=[.float .f64 y]/\Zfu y=true)/\m1.le m',⟨_,ZAg _ x x,Zab (λh=>?_) (λh=>⟨trivial,trivial,⟨x,rfl,?_⟩,aO⟩)⟩,?_⟩
   ·refine⟨_,trivial,ZAi m2,λ_ _ _ _=>trivial,?_⟩
    intro u m3 aQ hu
    exact⟨trivial,trivial,⟨Zzw,by rw[show u=_ from hu],Zu4⟩,mLt aO aQ⟩
   ·unfold Zfu
    rw[show Op.floatEq .f64 x x=true by simpa using h];rfl
   rintro v m3 _ ⟨⟨y,hy,eW⟩,aQ⟩
   obtain rfl:v=.float .f64 y:=by simpa using hy
   refine Zaj (Zww y m3) Zgm (ZAZ λt m4 bN hr ht b3 ir=>?_)
   subst ht
   have jt:=mLt aQ bN
   have fK:=Mem.le_add ir (ZCB y).cs
   refine ZcU E.len E.one ir (ZCB y) (aC.mono jt) 64 (by omega) (by omega) (.inl trivial) λa5 c5 m5 cE bZ bB=>⟨trivial,N - (i+1),by omega,i+1,ts++[ZCB y],a5,c5,mb,by omega,by rw[zA1];rfl,by rw[zA1];rfl,by rw[zA1];exact bB.1,fJ,mLt cZ (mLt jt (mLt fK cE)),dW.tok (mLt cZ (mLt jt fK)) bB,bZ,?_,hP.push (Zwe eW),by omega⟩
   intro z hz
   rcases List.mem_append.1 hz with hz|hz
   ·exact aZ z hz
   ·rw[List.mem_singleton]at hz;subst hz;exact ZeC (by omega) (by rw[Zar];omega) (by omega)
  ·refine⟨λ_ vs _=>match vs with
    | [.string s]=>ER (λe=>e=ZAX s)
    | _=>ZA2 Zhn,_,rfl,Zu3 m1,ZdJ,?_⟩
   rintro a3 n3 c3 m2 aO ⟨a3',c3',hv,fO⟩
   simp only[Value.slice.injEq]at hv
   obtain⟨rfl,rfl,rfl⟩:=hv
   obtain⟨nm,vV⟩:=ZaM (l:=Zhn) (k:=s2 % 4) (Nat.mod_lt _ (by omega))
   have qL:=zA2 vV
   have bJ:nm.size<=1000000000000000:=Nat.le_trans (Zk9 nm qL) (by omega)
   obtain⟨b3,o3,gH,pu⟩:=ZcS fO vV
   have vW:Int.tmod (s2:Int) 4=((s2 % 4:Nat):Int):=rfl
   have h4:s2 % 4 < 4:=Nat.mod_lt _ (by omega)
   refine⟨_,rfl,by omega,b3,o3,gH,by rw[vW];exact⟨by omega,by show((s2 % 4:Nat):Int) < (4:Nat);omega⟩,_,by rw[vW,zA8];exact pu,nm,rfl,_,rfl,ZxP nm bJ m2,Zgm,ZAZ λt m3 aQ hr ht b4 gU=>?_⟩
   subst ht
   have jt:=mLt aO aQ
   have fK:=Mem.le_add gU (ZAX nm).cs
   refine ZcU E.len E.one gU (ZAX nm) (aC.mono jt) 64 (by omega) (by omega) (.inl trivial) λa5 c5 m5 cE bZ bB M _ _ _ _ hM=>⟨trivial,N - (i+1),by omega,i+1,ts++[ZAX nm],a5,c5,mb,by omega,by rw[zA1];rfl,by rw[zA1];rfl,by rw[zA1];exact bB.1,fJ,mLt cZ (mLt jt (mLt fK (mLt cE hM))),dW.tok (mLt cZ (mLt jt fK)) bB,bZ.mono hM,?_,hP.push (Zwg qL),by omega⟩
   intro z hz
   rcases List.mem_append.1 hz with hz|hz
   ·exact aZ z hz
   ·rw[List.mem_singleton]at hz;subst hz;exact ZeC (by omega) bJ (by omega)
  ·refine⟨_,rfl,by omega,λb3 ir=>?_⟩
   have uf:Int.tmod (s2:Int) 10=((s2 % 10:Nat):Int):=rfl
   have il:s2 % 10 < 10:=Nat.mod_lt _ (by omega)
   have xG:IntKind.i64.wrap (Int.tmod (s2:Int) 10)=((s2 % 10:Nat):Int):=by rw[uf,Zam (by omega) (by omega)]
   simp only[xG]
   have fK:=Mem.le_add ir (ZDi ((s2 % 10:Nat):Int)).cs
   refine ZcU E.len E.one ir (ZDi ((s2 % 10:Nat):Int)) aC 64 (by omega) (by omega) (.inl trivial) λa5 c5 m5 cE bZ bB=>⟨trivial,N - (i+1),by omega,i+1,ts++[ZDi ((s2 % 10:Nat):Int)],a5,c5,mb,by omega,by rw[zA1];rfl,by rw[zA1];rfl,by rw[zA1];exact bB.1,fJ,mLt cZ (mLt fK cE),dW.tok (mLt cZ fK) bB,bZ,?_,hP.push (Zzz (by omega) (by omega)),by omega⟩
   intro z hz
   rcases List.mem_append.1 hz with hz|hz
   ·exact aZ z hz
   ·rw[List.mem_singleton]at hz;subst hz;exact ZeC (by omega) (by rw[Zar];omega) (by omega)
  ·refine⟨decide (s1 % 12=5)&&decide (0 < ts.length),Zab (λh=>⟨trivial,trivial,Zag ?_⟩) (λh=>⟨trivial,trivial,Zag ?_⟩),Zab (λhb=>?_) (λhb=>?_)⟩
   ·have:s1 % 12=5:=by have:=h;simp at this;omega
    rw[this,Bool.eq_iff_iff];simp
   ·have:¬s1 % 12=5:=by have:=h;simp at this;omega
    rw[decide_eq_false this];rfl
   ·have gQ:0 < ts.length:=by rw[zA7,decide_eq_true_iff,decide_eq_true_iff]at hb;exact hb.2
    obtain⟨r,x,rfl⟩:=ZB5 gQ
    have gJ:(r++[x]).length=r.length+1:=by simp
    have iY:IntKind.i64.wrap (((r++[x]).length:Int) - 1)=(r.length:Int):=by rw[gJ,Zam (by omega) (by omega)];omega
    obtain⟨bb,jW,iu,o',u',hu'⟩:=dW.rbase E.len (by omega) aC (by simp)
    subst jW
    obtain⟨bx,ox,jX,jm⟩:=Zan E.len aC (k:=r.length) (t:=x) (by simp) (by omega)
    cases jX
    simp only[iY,zA8]
    refine⟨_,_,rfl,⟨by omega,by omega⟩,_,jm 0 _ rfl,_,rfl,Zab (λh8=>?_) (λh8=>⟨trivial,N - (i+1),by omega,i+1,r++[x],_,_,mb,by omega,rfl,rfl,cL,fJ,cZ,dW,aC,aZ,hP.skip,by omega⟩)⟩
    have qM:x.k≠8:=by simpa using h8
    refine⟨_,_,rfl,⟨by omega,by omega⟩,_,_,_,_,_,jm,Zaj ((ZAj x mb (aZ x (by simp))).frame2 cZ) (Ztq (mb:=mb) (M0:=m1)) (ZDW λt m0 m3 aQ h0 jn cA gV ht=>?_)⟩
    obtain⟨at',ct,rfl⟩:=ht
    have fB:m0.free bb:=λo=>by rw[cA bb o' u' hu' o];exact iu o
    refine⟨bb,0,rfl,⟨by omega,by omega⟩,Zaa rfl ⟨rfl,by omega,trivial,N - (i+1),by omega,i+1,r++[ZAY at' ct x],_,_,m0,by omega,?_,?_,by rw[zA1];rw[gJ]at cL;exact cL,mLt fJ h0,Mem.le_upd jn fB _ _,.inr ⟨bb,rfl,fB⟩,ZxO E.len (aC.mono aQ) (by omega),?_,hP.neg qM _ _,by omega⟩⟩
    ·rw[gJ,zA1];rfl
    ·rw[gJ,zA1];rfl
    ·intro z hz
     rcases List.mem_append.1 hz with hz|hz
     ·exact(aZ z (by simp[hz])).mono' h0
     ·rw[List.mem_singleton]at hz;subst hz;exact gV
   ·refine⟨decide (5 < s1 % 12)&&decide (1 < ts.length),Zax (λh=>⟨trivial,trivial,Zag ?_⟩) (λh=>⟨trivial,trivial,Zag ?_⟩),Zab (λeH=>?_) (λeH=>⟨trivial,N - (i+1),by omega,i+1,ts,_,_,mb,by omega,rfl,rfl,cL,fJ,cZ,dW,aC,aZ,hP.skip,by omega⟩)⟩
    ·rw[decide_eq_true (show 5 < s1 % 12 by omega),Bool.true_and,decide_eq_decide];omega
    ·rw[decide_eq_false (show ¬5 < s1 % 12 by omega)];rfl
    obtain⟨h5,xH⟩:5 < s1 % 12/\1 < ts.length:=by rw[zA7,decide_eq_true_iff,decide_eq_true_iff]at eH;exact eH
    have sk:s1 % 12 < 12:=Nat.mod_lt _ (by omega)
    obtain⟨r,x,y,rfl⟩:=ZB4 xH
    have gJ:(r++[x,y]).length=r.length+2:=by simp
    have iI:IntKind.i64.wrap (((r++[x,y]).length:Int) - 2)=(r.length:Int):=by rw[gJ,Zam (by omega) (by omega)];omega
    have iY:IntKind.i64.wrap (((r++[x,y]).length:Int) - 1)=((r.length+1:Nat):Int):=by rw[gJ,Zam (by omega) (by omega)];omega
    have hk:IntKind.u8.wrap (((s1 % 12:Nat):Int) - 4)=((s1 % 12 - 4:Nat):Int):=by
     generalize s1 % 12=k at h5 sk
     have:k=6\/k=7\/k=8\/k=9\/k=10\/k=11:=by omega
     rcases this with rfl|rfl|rfl|rfl|rfl|rfl <;> rfl
    have fZ:2<=((s1 % 12 - 4:Nat):Int)/\((s1 % 12 - 4:Nat):Int)<=7:=by omega
    generalize ((s1 % 12 - 4:Nat):Int)=kk at hk fZ
    simp only[iI,iY,hk,zA8,Nat.sub_zero]
    obtain⟨bb,jW,iu,o',u',hu'⟩:=dW.rbase E.len (by omega) aC (by simp)
    obtain⟨bx,ox,jX,jm⟩:=Zan E.len aC (k:=r.length) (t:=x) (by simp) (by omega)
    obtain⟨by',oy,qN,qO⟩:=Zan E.len aC (k:=r.length+1) (t:=y) (by simp) (by omega)
    refine⟨λ_ _ _=>EF mb m1 (λe=>∃a d,e=opE kk a d x y),⟨by omega,by omega⟩,⟨by omega,by omega⟩,bx,ox,jX,⟨by omega,by omega⟩,_,_,_,_,_,jm,by',oy,qN,⟨by omega,by omega⟩,_,_,_,_,_,qO,_,rfl,(ZAk kk x y (by omega) mb (aZ x (by simp)) (aZ y (by simp))).frame2 cZ,Ztq,ZDW λt m0 m3 aQ h0 jn cA gV ht b6 je=>?_⟩
    obtain⟨at',ct,rfl⟩:=ht
    have iv:=Mem.le_add je (opE kk at' ct x y).cs
    have fB:Apart m0 _:=.inr ⟨bb,jW,λo=>by rw[cA bb o' u' hu' o];exact iu o⟩
    refine ZcU E.len E.one je (opE kk at' ct x y) ((ZxN aC).mono aQ) 64 (by omega) (by omega) (.inr (.inr (by omega))) λa4 c4 m4 bN cW bB M _ ib _ jM=>⟨trivial,N - (i+1),by omega,i+1,r++[opE kk at' ct x y],a4,c4,m0,by omega,?_,?_,by have:=bB.1;rw[zA1];exact this,mLt fJ h0,mLt jn ib,fB.tok (mLt jn iv) bB,cW.mono jM,?_,hP.op fZ _ _,by omega⟩
    ·rw[zA1];rfl
    ·rw[zA1];rfl
    ·intro z hz
     rcases List.mem_append.1 hz with hz|hz
     ·exact(aZ z (by simp[hz])).mono' h0
     ·rw[List.mem_singleton]at hz;subst hz;exact gV
 ·have sw:i=N:=by have:=of_decide_eq_false bL;omega
  have aB:=mLt fJ cZ
  refine Zab (λh0=>?_) (λh0=>?_)
  ·refine Zaj (Zww _ m1) Zgm (ZAZ λt m2 aO hr ht=>Zaa rfl (ZaD (mLt aB aO) ⟨t,rfl,hr,?_⟩))
   rw[ht];exact(Zwe (by decide +kernel)).mono (by omega)
  ·obtain⟨t0,rest,rfl⟩:∃t r,ts=t::r:=by cases ts with
    | nil=>simp at h0
    | cons t r=>exact⟨t,r,rfl⟩
   have hF:=QE.start hP
   obtain⟨bb,jW,iu,o',u',hu'⟩:=dW.rbase E.len (by omega) aC (by simp)
   subst jW
   obtain⟨bx,ox,jX,jm⟩:=Zan E.len aC (k:=0) (t:=t0) rfl (by omega)
   cases jX
   rw[List.length_cons]at kK cL
   refine⟨_,_,rfl,⟨by omega,by simp⟩,_,_,_,_,_,jm,λb2=>Zaa rfl ⟨⟨by omega,by rw[List.length_cons];omega⟩,?_⟩⟩
   refine⟨λxs css tvs m' q=>∃(k:Nat)(t:E),k<=rest.length/\xs=[.int .i64 k]/\css=[t.cs]/\m1.le m'/\RepE m' t/\QE t (rest.drop k) (2*i)/\q=rest.length - k,⟨rest.length,0,t0,by omega,rfl,rfl,Mem.le_refl _,(aZ t0 (by simp)).mono' cZ,hF,by omega⟩,?_⟩
   rintro z cs m2 q2 _ ⟨k,t,hk,hz,cF,aO,gV,mj,ng⟩
   obtain rfl:z=k:=by simpa using hz
   obtain rfl:cs=t.cs:=by simpa using cF
   have lG:((t0::rest).length - Int.toNat 1)=rest.length:=by simp
   simp only[lG]
   refine Zab (λaH=>?_) (λdV=>Zaa rfl (ZaD (mLt aB aO) ⟨t,rfl,gV,?_⟩))
   ·have aS:k < rest.length:=by have:=zA6 aH;omega
    obtain⟨x,hx⟩:=ZaM aS
    obtain⟨b3,o3,gH,jJ⟩:=Zan E.len (aC.mono aO) (k:=k+1) (t:=x) (by simpa using hx) (by omega)
    cases gH
    have ik:IntKind.i64.wrap ((k:Int)+1)=((k+1:Nat):Int):=by rw[Zam (by omega) (by omega)];rfl
    simp only[ik,zA8]
    rw[ZsH hx]at mj
    have jp:Za2 (some (⟨bb,0,none⟩:Addr)) (Int.toNat 1) c2 5=some ⟨bb,0+5,none⟩:=by
     unfold Za2
     have:Nat.beq c2 1=false:=by
      cases hb:Nat.beq c2 1 with
      | false=>rfl
      | true=>have:=Nat.eq_of_beq_eq_true hb;omega
     show(bif Nat.beq c2 1 then _ else some (Addr.add _ (1*5)))=_
     rw[this,Zca];rfl
    refine⟨_,_,jp,⟨by omega,by omega⟩,_,_,_,_,_,by rw[show 0+5+k*5=0+(k+1)*5 by omega];exact jJ,λb4=>Zaa rfl (Zaj (ZAk 2 t x (by omega) m2 gV ((aZ x (by simp[zA2 hx])).mono' (mLt cZ aO))) Zgm (ZAZ λt' m3 aQ hr' ht'=>Zaa rfl ⟨trivial,trivial,rest.length - (k+1),by omega,k+1,t',by omega,rfl,rfl,mLt aO aQ,hr',?_,by omega⟩))⟩
    obtain⟨a3,c3,rfl⟩:=ht'
    exact mj.step _ _
   ·have:k=rest.length:=by have:=of_decide_eq_false dV;omega
    rw[this,List.drop_length]at mj
    exact mj.done.mono (by omega)
end Go.Proofs.YtdopppmkbkkmiaaGreatDoor
end
