/- Part of the proof: functions of the program. No condition. -/
import Derived.Test.YtpjepnkiiojgfaaGreatPEnv
import Derived.Test.YtpjepnkiiojgfaaGreatPVM
import Derived.Test.YtpjepnkiiojgfaaGreatMr
set_option linter.unusedVariables false
set_option linter.unusedSimpArgs false
set_option linter.unusedSectionVars false
noncomputable section
namespace Go.Proofs.YtpjepnkiiojgfaaGreat
open Go Go.Eng Go.Proofs Go.RowKit
open Go.Value (int slice agg bool string tuple func)
open Go.IntKind (u8 u64 i64)
set_option maxRecDepth 100000
def ZpA:Env:={ EB with
 exv:=(λi=>bif Nat.beq i 1 then true else false) }
theorem Zoa  (m:Mem)(R:RT)(h:
 ∃(v:Value),ZpU Tryz.prog 148 [int u64 9221120237041090561] v/\rtM m m R v):CX Tryz.prog 149 #[] m [] R:=
 Zae (E:=ZpA) Zao mix Tryz.func149 (by kernel_rfl) (Eq.mp (by kernel_rfl) h)
def Zob:Env:=EB
theorem ZlA(p0:Value)(m:Mem)(R:RT)(h:
 ∀(b:Nat),lV (Array.toList (Value.cells p0)) λxL=>lV (List.append xL (List.drop (1+xL.length) [int u8 8,Value.float .f64 0,string bE0,int i64 0,slice none 0 0])) fun
 xL_1=>chk (Nat.beq (xL.length) 1&&true) (chk (Nat.beq (xL_1.length) (nat_lit 4)&&Zey xL_1) (rtM m m R (agg (Array.mk (ZaF [int u8 8,Value.float .f64 0,string bE0,
 int i64 0,slice none 0 0] 1 xL)))))):CX Tryz.prog 150 #[p0] m [] R:=
 Zae (E:=Zob) Zao mix Tryz.func150 (by kernel_rfl) (Eq.mp (by kernel_rfl) h)
def ZlB:Env:=EB
theorem Zjx(p0:ByteArray)(m:Mem)(R:RT)(h:
 ∀(b:Nat),rtM m m R (agg (Array.mk [int u8 9,Value.float .f64 0,string p0,int i64 0,slice none 0 0]))):CX Tryz.prog 151 #[.string p0] m [] R:=
 Zae (E:=ZlB) Zao mix Tryz.func151 (by kernel_rfl) (Eq.mp (by kernel_rfl) h)
def Zjy:Env:=EB
theorem ZhT  (m:Mem)(R:RT)(h:
 ∀(b:Nat),m.free b->rtM m (m.add b [string (ByteArray.mk (Array.mk [120])),string (ByteArray.mk (Array.mk [121])),string (ByteArray.mk (Array.mk [122,95,49])),string (ByteArray.mk (Array.mk [97,98,99,100,101,102,103,104,105,106,107,108,
 109,110,111,112]))]) R (slice (some (Addr.mk b 0 none)) 4 4)):CX Tryz.prog 152 #[] m [] R:=
 Zae (E:=Zjy) Zao mix Tryz.func152 (by kernel_rfl) (Eq.mp (by kernel_rfl) h)
def Zoc:Env:={ EB with
 frzNew:=[1] }
theorem ZlC(aA:Int)(aD:Value)(aG:ByteArray)(aF:Int)(aS:Option Addr)(aM aZ:Nat)(m:Mem)(R:RT)(h:
 lV [int u8 aA,aD,string aG,int i64 aF,slice aS aM aZ] λxL=>fzM m xL λb m'=>∀(b b:Nat),m'.free b->rtM m (m'.add b xL) R (agg (Array.mk [int u8 1,Value.float .f64 0,
 string bE0,int i64 0,slice (some (Addr.mk b 0 none)) 1 1]))):CX Tryz.prog 153 #[.agg #[.int .u8 aA,aD,.string aG,.int .i64 aF,.slice aS aM aZ]] m [] R:=
 Zae (E:=Zoc) Zao mix Tryz.func153 (by kernel_rfl) (Eq.mp (by kernel_rfl) h)
def ZpB:Env:={ EB with
 frzNew:=[4,5] }
theorem Zod(p0 bM:Int)(bV:Value)(bX:ByteArray)(cJ:Int)(dM:Option Addr)(dG dP:Nat)(j1:Int)(j2:Value)(j3:ByteArray)(j4:Int)(mf:Option Addr)(mg mh:Nat)(m:Mem)(R:RT)(h:
 lV [int u8 j1,j2,string j3,int i64 j4,slice mf mg mh] λxL=>fzM m [int u8 bM,bV,string bX,int i64 cJ,slice dM dG dP] λb m'=>fzM m' xL λb m'=>∀(b b:Nat),
 m'.free b->rtM m (m'.add b (int u8 bM::bV::string bX::int i64 cJ::slice dM dG dP::xL)) R (agg (Array.mk [int u8 p0,Value.float .f64 0,string bE0,
 int i64 0,slice (some (Addr.mk b 0 none)) 2 2]))):CX Tryz.prog 154 #[.int .u8 p0,.agg #[.int .u8 bM,bV,.string bX,.int .i64 cJ,.slice dM dG dP],.agg #[.int .u8 j1,j2,.string j3,.int .i64 j4,.slice mf mg mh]] m [] R:=
 Zae (E:=ZpB) Zao mix Tryz.func154 (by kernel_rfl) (Eq.mp (by kernel_rfl) h)
def ZlD:Env:={ EB with
 loops:=(λi=>bif Nat.beq i 3 then⟨[(3,.slice),(18,.int .i64)],[],[(49,5)],false⟩ else bif Nat.beq i 28 then⟨[(137,.int .i64)],[9],[],false⟩ else⟨[],[],[],false⟩)
 joins:=(λi=>bif Nat.beq i 18 then some [(74,.bool)]else bif Nat.beq i 21 then some [(98,.bool)]else none)
 dr:=(λi=>bif Nat.beq i 15 then[⟨0,[],[],none,[],[]⟩,⟨1,[],[],none,[],[]⟩,⟨2,[5],[],none,[],[]⟩,⟨3,[5],[],none,[2],[]⟩,⟨4,[],[],none,[2,3],[]⟩,⟨5,[],[],none,[1,2,3,4],[]⟩,⟨6,[],[],none,[1,2,3,4,5],[1]⟩,⟨7,[],[],none,[1,2,3,4,5,6],[1]⟩,⟨8,[61],[61],none,[1,2,3,4,5,6,7],[7]⟩,⟨9,[61],[],some 49,[0,1,2,3,4,5,6,7,8],[8]⟩,⟨10,[],[],none,[0,1,2,3,4,5,6,7,8,9],[]⟩]else bif Nat.beq i 22 then[⟨0,[],[],none,[],[]⟩,⟨1,[],[],none,[],[]⟩,⟨2,[],[],none,[1],[]⟩,⟨3,[],[],none,[],[]⟩,⟨4,[],[],none,[3],[]⟩,⟨5,[],[],none,[0,1,2,3,4],[]⟩,⟨6,[],[],none,[],[]⟩,⟨7,[],[],none,[6],[]⟩,⟨8,[],[],none,[],[]⟩,⟨9,[],[],none,[],[]⟩,⟨10,[],[],none,[9],[]⟩,⟨11,[],[],none,[8,9,10],[]⟩,⟨12,[],[],none,[8,9,10,11],[]⟩,⟨13,[],[],none,[],[]⟩,⟨14,[],[],none,[],[]⟩,⟨15,[],[],none,[14],[]⟩,⟨16,[],[],none,[13,14,15],[]⟩,⟨17,[],[],none,[13,14,15,16],[]⟩,⟨18,[],[],none,rg 6 12,[]⟩,⟨19,[124],[124],none,rg 6 13,[18]⟩,⟨20,[124],[],some 49,rg 0 20,[19]⟩,⟨21,[],[],none,rg 0 21,[]⟩]else[])
 tokOf:=(λi=>bif Nat.beq i 49 then 49 else bif Nat.beq i 62 then 49 else bif Nat.beq i 73 then 49 else bif Nat.beq i 125 then 49 else 0)
 exv:=(λi=>bif Nat.beq i 40 then true else false)
 thaw:=true
 stAt:=(λi=>bif Nat.beq i 97 then some 49 else none)
 cuts:=(λi=>bif Nat.beq i 11 then some ⟨[(8,.any)],[],[],false⟩ else bif Nat.beq i 13 then some ⟨[(8,.any)],[],[],false⟩ else none)
 ldF:=(λi=>bif Nat.beq i 25 then some (.int .u8)else bif Nat.beq i 31 then some (.int .u8)else bif Nat.beq i 56 then some (.int .u8)else bif Nat.beq i 68 then some (.int .u8)else bif Nat.beq i 36 then some (.int .u64)else bif Nat.beq i 39 then some (.int .u64)else bif Nat.beq i 59 then some (.str)else bif Nat.beq i 86 then some (.int .u8)else none) }
theorem Zjz(p0a:Option Addr)(p0n p0c:Nat)(m:Mem)(R:RT)(h:
 ∀(b:Nat),lE (if(60:Int) < (↑p0n:Int)then(60:Int)else(↑p0n:Int)) λyL=>lE [some (Box.mk b [int u8 0,Value.float .f64 0,string bE0,int i64 0,slice none 0 0] 52 5
 false true)] λxL=>((0:Int)<=yL/\yL<=(↑p0c:Int))/\∃(I:IT),inI I [slice none 0 0,int i64 0] [] [slice none 0 0] m/\∀(a:Option Addr)(n c:Nat)(a3:Int)(bj:Option Addr)(ba bd:Nat)(m':Mem)
 (ak:Nat),lE (↑n:Int) λav=>lE (i64.wrap (av - (2:Int))) λaw=>lE (Int.toNat aw) λax=>lE (ax - 0) λa4=>lX (slice (Za6 a 0 ax 5) a4 a4) λbe=>lX (slice bj ba bd) λay=>lE
 (Tok.mk ay 5) λa5=>lE (a4+1) λaz=>lE (i64.wrap (av - (1:Int))) λa6=>lE (Int.toNat a6*5) λa7=>lX (slice a n c) λag=>lE (n+1) λab=>lV [int i64 (i64.wrap (a3+(1:
 Int)))] λar=>lE [some a5] λac=>True->I [ag,int i64 a3] [] [ay] m' ak->br (decide (a3 < (↑(Int.toNat yL - 0):Int))) (atA (Za6 p0a 0 p0c 3) λb o=>Zad a3 (Int.toNat yL - 0)/\∃v ai al:Value,lV [v,ai,al] λa8=>m'.reads b (o+Int.toNat a3*3) a8/\∀(b:Nat),lE (some (Box.mk b a8 217 3 false true)::xL) λam=>chk (v.oneCell'&&(ai.oneCell' &&
 (al.oneCell'&&true))) (∃(ah:Int),lE (Int.tmod ah (12:Int)) λyL=>lX (int u8 (u8.wrap (yL - (4:Int)))) λbk=>v=int u8 ah/\(12:Int)≠(0:Int)/\br (decide (yL < (2:Int))) (∃(ad:
 Int),ai=int u8 ad/\∃(u:Value),ConvIs Tryz.prog 218 49 (int IntKind.i8 (IntKind.wrap IntKind.i8 ad)) u/\∃(v:Value),BinIs Tryz.prog BinOp.quo 49 u (Value.float .f64 4616189618054758400) v/\∃(J:
 JT),(∃(n:Int),al=int u64 n/\br (!n == (0:Int)) (∃(n:Int),al=int u64 n/\∃(v:Value),ZpU Tryz.prog 148 [int u64 n] v/\Zac am/\ac=ac/\J [v] [] [] m') (Zac am/\ac=ac/\J [v] [] [] m'))/\
 ∀(v:Value)(m':Mem),True->J [v] [] [] m'->∃(J:JT),(∃(b:Bool),BinIs Tryz.prog BinOp.neq 49 v v (bool b)/\br b (∃(R:RT),True/\CX Tryz.prog 149 (Array.mk []) m' [] R/\(∀(v:Value)(m':Mem) (css:
 List (List Value)),R v m' css->true=true)/\∀(v:Value)(aa:Mem),m'.le aa->R v aa []->Zac am/\ac=ac/\J [v] [] [] aa) (Zac am/\ac=ac/\J [v] [] [] m'))/\∀(v:Value)(m':Mem),True->J [v]
 [] [] m'->∃(R:RT),True/\CX Tryz.prog 150 (Array.mk [v]) m' [] R/\ZbC (Shape.agg [Shape.int u8,Shape.any,Shape.str,Shape.int i64,Shape.slice]) R/\∀(af:Int)(v:Value)(s:ByteArray)(au:Int) (bl:
 Option Addr) (a9 bb:Nat) (aa:Mem),lV [int u8 af,v,string s,int i64 au,slice bl a9 bb] λae=>m'.le aa->R (agg (Array.mk ae)) aa []->∀(b:Nat),lM (aa.add b ae) λmL=>aa.free b->(a5 =
 Tok.mk ag 5\/ag=slice none 0 0\/c < ab)/\∃(xs:List Value),∃(ys:List Value),xs.length=n*5/\ys.length=1*5/\rowRd mL a xs/\rowRd mL (some (Addr.mk b 0 none)) ys/\(∀(u:Value),u∈ys->
 u.oneCell'=true)/\ab*64<=140737488355328/\ab<=9223372036854775807/\∀(a':Option Addr)(c':Nat)(m':Mem),mL.le m'->rowRd m' a' (List.append xs ys)->TokFact mL a a' ab c'->Zac xL/\nxI ak I
 (slice a' ab c'::ar) [] [slice a' ab c'] m') (br (decide (yL < (4:Int))) (∃(f:Fx),∃(R:RT),R=f 1 [] m'/\CX Tryz.prog 152 (Array.mk []) m' [] R/\ZbC Shape.slice R/\∀(a0:Option Addr)(ad bb:Nat) (aa
 : Mem),m'.le aa->R (slice a0 ad bb) aa []->∃(af:Int),ai=int u8 af/\(4:Int)≠(0:Int)/\atA a0 λb o=>Zad (Int.tmod af (4:Int)) ad/\∃(v:Value),aa b (o+Int.toNat (Int.tmod af (4:Int))
 * 1)=some v/\∃(s:ByteArray),v=string s/\∃(R:RT),R=f 7 [string s] aa/\CX Tryz.prog 151 (Array.mk [string s]) aa [] R/\ZbC (Shape.agg [Shape.int u8,Shape.any,Shape.str,Shape.int i64,Shape.slice]) R
 /\ ∀(au:Int)(v:Value)(s:ByteArray)(a9:Int)(bm:Option Addr)(bn bo:Nat)(aj:Mem),lV [int u8 au,v,string s,int i64 a9,slice bm bn bo] λae=>aa.le aj->R (agg (Array.mk ae)) aj []->∀(b:
 Nat),lM (aj.add b ae) λmL=>aj.free b->(a5=Tok.mk ag 5\/ag=slice none 0 0\/c < ab)/\∃(xs:List Value),∃(ys:List Value),xs.length=n*5/\ys.length=1*5/\rowRd mL a xs/\rowRd
 mL (some (Addr.mk b 0 none)) ys/\(∀(u:Value),u∈ys->u.oneCell'=true)/\ab*64<=140737488355328/\ab<=9223372036854775807/\∀(a':Option Addr)(c':Nat)(bc:Mem),mL.le bc->rowRd bc a'
 (List.append xs ys)->TokFact mL a a' ab c'->∀(M:Mem),m'.le M->aa.le M->aj.le M->mL.le M->bc.le M->Zac xL/\nxI ak I (slice a' ab c'::ar) [] [slice a' ab c'] M) (br (yL == (4:Int))
 (∃(ad:Int),lV [int u8 10,Value.float .f64 0,string bE0,int i64 (i64.wrap (Int.tmod ad (10:Int))),slice none 0 0] λae=>ai=int u8 ad/\(10:Int)≠(0:Int)/\∀
 (b:Nat),lM (m'.add b ae) λmL=>m'.free b->(a5=Tok.mk ag 5\/ag=slice none 0 0\/c < ab)/\∃(xs:List Value),∃(ys:List Value),xs.length=n*5/\ys.length=1*5/\rowRd mL a xs/\
 rowRd mL (some (Addr.mk b 0 none)) ys/\(∀(u:Value),u∈ys->u.oneCell'=true)/\ab*64<=140737488355328/\ab<=9223372036854775807/\∀(a':Option Addr)(c':Nat)(m':Mem),mL.le m'->rowRd m' a'
 (List.append xs ys)->TokFact mL a a' ab c'->Zac xL/\nxI ak I (slice a' ab c'::ar) [] [slice a' ab c'] m') (∃(b:Bool),br (yL == (5:Int)) (Zac am/\ac=ac/\[bool (decide (av > (0:Int)))]=[bool b])
 (Zac am/\ac=ac/\[bool false]=[bool b])/\br b (atA a λb o=>Zad a6 n/\∃(v:Value),m' b (o+a7+0)=some v/\∃(ad:Int),v=int u8 ad/\br (!ad == (8:Int)) (atA a λb o=>Zad a6 n/\∃v an ao ap aq:Value,m'.reads b (o+a7) [v,an,ao,ap,aq]/\∃(R:RT),True/\CX Tryz.prog 153 (Array.mk [agg (Array.mk [v,an,ao,ap,aq])]) m' [] R/\
 ZbC (Shape.agg [Shape.int u8,Shape.any,Shape.str,Shape.int i64,Shape.slice]) R/\∀(af:Int)(v:Value)(s:ByteArray)(au:Int)(a0:Option Addr)(a9 c:Nat)(aa:Mem),lV [int u8 af,v,string s,int i64
 au,slice a0 a9 c] λae=>m'.le aa->R (agg (Array.mk ae)) aa []->atA a λb o=>Zad a6 n/\chk (v.oneCell'&&true) (ay=slice (some (Addr.mk b 0 none)) ba bd/\o+a7+5<=ba*5/\Zac xL/\
 nxI ak I (ag::ar) [] [ay] (Mem.upd aa b (o+a7) ae))) (Zac xL/\nxI ak I (ag::ar) [] [ay] m')) (∃(b:Bool),br (decide (yL > (5:Int))) (Zac am/\ac=ac/\[bool (decide (av > (1:Int)))]=[bool b])
 (Zac am/\ac=ac/\[bool false]=[bool b])/\br b (∃(f:Fx),((0:Int)<=aw/\aw<=(↑c:Int))/\((0:Int)<=aw/\aw<=(↑ax:Int))/\atA a λb o=>Zad aw n/\∃v an ao ap aq:Value,lV [v,an,ao,ap,aq] λae=>m'.reads b (o+ax*5) ae/\atA a λb o=>Zad a6 n/\∃v a1 a2 bf bg:Value,lV
 [bk,agg (Array.mk ae),agg (Array.mk [v,a1,a2,bf,bg])] λbh=>m'.reads b (o+a7) [v,a1,a2,bf,bg]/\∃(R:RT),R=f 18 bh m'/\CX Tryz.prog 154 (Array.mk bh) m' [] R/\ZbC (Shape.agg [Shape.int u8,
 Shape.any,Shape.str,Shape.int i64,Shape.slice]) R/\∀(n:Int)(v:Value)(s:ByteArray)(ad:Int)(a0:Option Addr)(af c:Nat)(aa:Mem),lV [int u8 n,v,string s,int i64 ad,slice a0 af c] λbi=>
 m'.le aa->R (agg (Array.mk bi)) aa []->∀(b:Nat),lM (aa.add b bi) λmL=>aa.free b->(a5=Tok.mk be 5\/be=slice none 0 0\/a4 < az)/\∃(xs:List Value),∃(ys:List Value),xs.length=a4
 * 5/\ys.length=1*5/\rowRd mL (Za6 a 0 ax 5) xs/\rowRd mL (some (Addr.mk b 0 none)) ys/\(∀(u:Value),u∈ys->u.oneCell'=true)/\az*64<=140737488355328/\az<=9223372036854775807/\∀(a':
 Option Addr) (c':Nat) (aj:Mem),mL.le aj->rowRd aj a' (List.append xs ys)->TokFact mL (Za6 a 0 ax 5) a' az c'->∀(M:Mem),m'.le M->aa.le M->mL.le M->aj.le M->Zac xL/\nxI ak I
 (slice a' az c'::ar) [] [slice a' az c'] M) (Zac xL/\nxI ak I (ag::ar) [] [ay] m'))))))) (br (av == (0:Int)) (∃(R_1:RT),True/\CX Tryz.prog 150 (Array.mk [Value.float .f64 4607182418800017408]) m'
 [] R_1/\ZbC (Shape.agg [Shape.int u8,Shape.any,Shape.str,Shape.int i64,Shape.slice]) R_1/\∀(n:Int)(v:Value)(s:ByteArray)(ah:Int)(a:Option Addr)(ad c:Nat)(aa:Mem),lX (agg (Array.mk [int u8 n,
 v,string s,int i64 ah,slice a ad c])) λyL=>m'.le aa->R_1 yL aa []->chk (v.oneCell'&&true) (rtM m aa R yL)) (atA a λb o=>Zad (0:Int) n/\∃v ai al an ao:Value,m'.reads b (o+0) [v,ai,al,an,ao]/\∀(b:Nat),chk (v.oneCell'&&(ai.oneCell'&&(al.oneCell'&&(an.oneCell'&&(ao.oneCell'&&true))))) (((0:
 Int)<=(1:Int)/\(1:Int)<=av)/\∃(I:IT),inI I [int i64 0] [[v,ai,al,an,ao]] [] m'/\∀(ah:Int)(cs:List Value)(m':Mem)(ad:Nat),True->I [int i64 ah] [cs] [] m' ad->br (decide (ah < (↑(n -
 Int.toNat (1:Int)):Int))) (atA (Za6 a (Int.toNat (1:Int)) c 5) λbp o=>Zad ah (n - Int.toNat (1:Int))/\∃v ap aq a1 a2:Value,m'.reads bp
 (o+Int.toNat ah*5) [v,ap,aq,a1,a2]/\∀(bq:Nat),chk (v.oneCell'&&(ap.oneCell'&&(aq.oneCell'&&(a1.oneCell'&&(a2.oneCell'&&true))))) (∃(R:RT),True/\CX Tryz.prog 154
 (Array.mk [int u8 2,agg (Array.mk cs),agg (Array.mk [v,ap,aq,a1,a2])]) m' [] R/\ZbC (Shape.agg [Shape.int u8,Shape.any,Shape.str,Shape.int i64,Shape.slice]) R/\∀(n:Int)(v:Value)(s:ByteArray) (af:
 Int) (a:Option Addr) (au c:Nat) (aa:Mem),lV [int u8 n,v,string s,int i64 af,slice a au c] λa8=>m'.le aa->R (agg (Array.mk a8)) aa []->chk (v.oneCell'&&true) (Zac (some (Box.mk b [] 52 5
 false true)::xL)/\ac=ac/\nxI ad I [int i64 (i64.wrap (ah+(1:Int)))] [a8] [] aa))) (chk (Nat.beq (cs.length) 5&&Zey cs) (rtM m m' R (agg (Array.mk cs)))))))):CX Tryz.prog 128 #[.slice p0a p0n p0c] m [] R:=
 Zae (E:=ZlD) Zao mix Tryz.func128 (by kernel_rfl) (Eq.mp (by kernel_rfl) h)
def ZjA:Env:={ EB with
 frzNew:=[1] }
theorem ZhU(aA aD aG aF bG bH bI:Int)(bF:Option Addr)(bD bJ:Nat)(m:Mem)(R:RT)(h:
 lV [int u8 aA,int u64 aD,int u64 aG,int u64 aF,int u64 bG,int i64 bH,int i64 bI,slice bF bD bJ] λxL=>fzM m xL λb m'=>∀(b b:Nat),m'.free b->rtM m (m'.add b xL) R (agg
 (Array.mk [int u8 6,int u64 0,int u64 0,int u64 0,int u64 0,int i64 0,int i64 0,slice (some (Addr.mk b 0 none)) 1 1]))):CX Tryz.prog 125 #[.agg #[.int .u8 aA,.int .u64 aD,.int .u64 aG,.int .u64 aF,.int .u64 bG,.int .i64 bH,.int .i64 bI,.slice bF bD bJ]] m [] R:=
 Zae (E:=ZjA) Zao mix Tryz.func125 (by kernel_rfl) (Eq.mp (by kernel_rfl) h)
def Zoe:Env:={ EB with
 frzNew:=[3] }
theorem ZlE(aA aD aG aF bG bH bI:Int)(bF:Option Addr)(bD bJ:Nat)(p1 p2:Int)(m:Mem)(R:RT)(h:
 lV [int u8 aA,int u64 aD,int u64 aG,int u64 aF,int u64 bG,int i64 bH,int i64 bI,slice bF bD bJ] λxL=>fzM m xL λb m'=>∀(b b:Nat),m'.free b->rtM m (m'.add b xL) R (agg
 (Array.mk [int u8 5,int u64 0,int u64 0,int u64 0,int u64 0,int i64 p1,int i64 p2,slice (some (Addr.mk b 0 none)) 1 1]))):CX Tryz.prog 126 #[.agg #[.int .u8 aA,.int .u64 aD,.int .u64 aG,.int .u64 aF,.int .u64 bG,.int .i64 bH,.int .i64 bI,.slice bF bD bJ],.int .i64 p1,.int .i64 p2] m [] R:=
 Zae (E:=Zoe) Zao mix Tryz.func126 (by kernel_rfl) (Eq.mp (by kernel_rfl) h)
def ZgW:Env:=EB
theorem Zf2(p0:Int)(m:Mem)(R:RT)(h:
 ∀(b:Nat),m.free b->(12:Int)≠(0:Int)/\Zad (Int.tmod p0 (12:Int)) 12/\Eng.Zth [string (ByteArray.mk (Array.mk [97])),string (ByteArray.mk (Array.mk [98])),string (ByteArray.mk
 (Array.mk [97,98])),string (ByteArray.mk (Array.mk [97])),string (ByteArray.mk (Array.mk [98])),string (ByteArray.mk (Array.mk [99])),string (ByteArray.mk (Array.mk
 [97,98,99])),string (ByteArray.mk (Array.mk [98,99])),string (ByteArray.mk (Array.mk [10])),string (ByteArray.mk (Array.mk [0,255])),string (ByteArray.mk (Array.mk [97])),string (ByteArray.mk (Array.mk [98]))] (Int.toNat (Int.tmod p0 (12:Int))*1) λv=>rtM m (m.add b [string (ByteArray.mk (Array.mk [97])),string (ByteArray.mk (Array.mk [98])),string (ByteArray.mk (Array.mk [97,98])),string (ByteArray.mk (Array.mk [97])),string (ByteArray.mk (Array.mk [98])),string (ByteArray.mk (Array.mk [99])),string (ByteArray.mk (Array.mk [97,98,99])),string (ByteArray.mk (Array.mk [98,99])),string
 (ByteArray.mk (Array.mk [10])),string (ByteArray.mk (Array.mk [0,255])),string (ByteArray.mk (Array.mk [97])),string (ByteArray.mk (Array.mk [98]))]) R v):CX Tryz.prog 123 #[.int .u8 p0] m [] R:=
 Zae (E:=ZgW) Zao mix Tryz.func123 (by kernel_rfl) (Eq.mp (by kernel_rfl) h)
def ZjB:Env:={ EB with
 loops:=(λi=>bif Nat.beq i 3 then⟨[(7,.int .i64)],[3],[],false⟩ else⟨[],[],[],false⟩)
 dr:=(λi=>bif Nat.beq i 5 then[⟨0,[],[],none,[],[]⟩,⟨1,[],[],none,[],[]⟩,⟨2,[],[],none,[0,1],[]⟩,⟨3,[],[],none,[0,1,2],[]⟩,⟨4,[3],[],none,[0,1,2,3],[]⟩,⟨5,[3],[],none,[0,1,2,3,4],[]⟩,⟨6,[],[],none,[],[]⟩,⟨7,[],[],none,[],[]⟩,⟨8,[],[],none,[6,7],[]⟩,⟨9,[],[],none,[6,7,8],[]⟩,⟨10,[],[],none,[6,7,8,9],[]⟩,⟨11,[],[],none,[0,1,2,3,4,5,6,7,8,9,10],[]⟩,⟨12,[3],[],none,rg 0 12,[]⟩,⟨13,[3],[3],none,rg 0 13,[]⟩]else[]) }
theorem ZhV(p0:ByteArray)(m:Mem)(R:RT)(h:
 ∀(b b_1:Nat),∃(I:IT),inI I [int i64 0] [[int u64 0,int u64 0,int u64 0,int u64 0]] [] m/\∀(n:Int)(cs:List Value)(m':Mem)(n_1:Nat),lE (ZvR p0 (Int.toNat n)) λyL=>lE (u8.wrap
 (Int.tdiv yL (64:Int))) λyL_1=>lE (0+Int.toNat yL_1*1) λyL_2=>lV (List.append cs (List.drop (1+cs.length) [int u8 2,int u64 0,int u64 0,int u64 0,int u64 0,int i64 0,int i64 0,slice none 0
 0])) λxL=>m.le m'->I [int i64 n] [cs] [] m' n_1->br (decide (n < (↑(ByteArray.size p0):Int))) (Zad n (ByteArray.size p0)/\(64:Int)≠(0:Int)/\Zad yL_1 4/\Eng.Zth cs yL_2 λv=>Zad n
 (ByteArray.size p0)/\(64:Int)≠(0:Int)/\(0:Int)<=Int.tmod yL (64:Int)/\chk (Za9 u64 v&&decide (u64=u64)) (Zad yL_1 4/\chk (Nat.ble (yL_2+1) (cs.length)) (Zac [some (Box.mk b_1 [] 39 4
 false true),some (Box.mk b [int u8 0,int u64 0,int u64 0,int u64 0,int u64 0,int i64 0,int i64 0,slice none 0 0] 42 8 false true)]/\nxI n_1 I [int i64 (i64.wrap (n+(1:Int)))] [ZaF cs yL_2 [int
 u64 (u64.wrap (↑(BitVec.toNat (BitVec.ofInt 64 (RowKit.intOf v)|||BitVec.ofInt 64 (u64.wrap ((1:Int)*(2:Int) ^ min (Int.toNat (Int.tmod yL (64:Int))) 64)))):Int))]] [] m'))) (chk (Nat.beq
 (cs.length) 4&&true) (chk (Nat.beq (xL.length) (nat_lit 7)&&Zey xL) (rtM m m' R (agg (Array.mk (ZaF [int u8 2,int u64 0,int u64 0,int u64 0,int u64 0,int i64 0,int i64 0,slice none 0 0] 1
 cs))))))):CX Tryz.prog 122 #[.string p0] m [] R:=
 Zae (E:=ZjB) Zao mix Tryz.func122 (by kernel_rfl) (Eq.mp (by kernel_rfl) h)
def ZjC:Env:={ EB with
 loops:=(λi=>bif Nat.beq i 3 then⟨[(7,.slice),(14,.int .i64)],[],[(30,8)],false⟩ else⟨[],[],[],false⟩)
 joins:=(λi=>bif Nat.beq i 8 then some [(31,.bool)]else none)
 tokOf:=(λi=>bif Nat.beq i 21 then 30 else bif Nat.beq i 30 then 30 else 0)
 frzNew:=[4,5] }
theorem ZhW(p0 bM bV bX cJ eA eB eC:Int)(dR:Option Addr)(dS dT:Nat)(j1 j2 j3 j4 pC pD pE:Int)(mj:Option Addr)(ml mo:Nat)(m:Mem)(R:RT)(h:
 lV [int u8 bM,int u64 bV,int u64 bX,int u64 cJ,int u64 eA,int i64 eB,int i64 eC,slice dR dS dT] λxL=>lV [int u8 j1,int u64 j2,int u64 j3,int u64 j4,int u64 pC,int i64
 pD,int i64 pE,slice mj ml mo] λaj=>lV (int u8 bM::int u64 bV::int u64 bX::int u64 cJ::int u64 eA::int i64 eB::int i64 eC::slice dR dS dT::aj) λaf=>fzM m xL
 λb m'=>lE [some (Box.mk b xL 42 8 true true)] λxL=>fzM m' aj λb m'=>∀(aw ag:Nat),lE (some (Box.mk ag af 42 16 true true)::some (Box.mk aw [int u8 0,int u64 0,int u64 0,int u64 0,int u64 0,int
 i64 0,int i64 0,slice none 0 0] 42 8 false true)::some (Box.mk b aj 42 8 true true)::xL) λxL=>m'.free ag->∃(I:IT),inI I [slice none 0 0,int i64 0] [] [slice none 0 0] (m'.add ag af)/\∀(a:
 Option Addr) (n c:Nat) (ad:Int) (ax:Option Addr) (ay az:Nat) (aa:Mem) (ah:Nat),lX (slice ax ay az) λyL=>lE (Tok.mk yL 8) λak=>lE [some ak] λai=>lE (n+1) λae=>lV [int i64 (i64.wrap (ad+(1:Int)))] λal=>lX (slice a n c) λac=>lV (List.take 8 (List.drop (Int.toNat ad*8) af)) λab=>Mem.le (m'.add ag af) aa->I [ac,int i64 ad] [] [yL] aa ah->br (decide (ad < (↑(2:Nat):
 Int))) (Zad ad 2/\chk (Nat.ble (Int.toNat ad*8) (1+1+1+1+1+1+1+1)) (∀(b:Nat),lE (some (Box.mk b ab 42 8 false true)::xL) λam=>chk (Nat.beq (ab.length) 8&&Zey ab) (Eng.Zth ab 0
 λv=>chk (Za9 u8 v&&decide (u8=u8)) (br (RowKit.intOf v == p0) (Eng.Zth ab 7 λv=>lE (n+slN v) λyL=>chk (ZbM v&&true) ((ak=Tok.mk ac 8\/ac=slice none 0 0\/c < yL)/\∃(xs:List Value),∃
 (ys:List Value),xs.length=n*8/\ys.length=slN v*8/\rowRd aa a xs/\rowRd aa (slA v) ys/\(∀(u:Value),u∈ys->u.oneCell'=true)/\yL*80<=140737488355328/\yL<=9223372036854775807/\∀
 (a':Option Addr) (c':Nat) (m':Mem),aa.le m'->rowRd m' a' (List.append xs ys)->Zac xL/\nxI ah I (slice a' yL c'::al) [] [slice a' yL c'] m')) (∃(b:Bool),br (p0 == (3:Int)) (Eng.Zth ab 0 λv=>
 chk (Za9 u8 v&&decide (u8=u8)) (Zac am/\ai=ai/\[bool (RowKit.intOf v == (1:Int))]=[bool b])) (Zac am/\ai=ai/\[bool false]=[bool b])/\br b (Zac xL/\nxI ah I (ac::al) [] [yL] aa) (chk
 (Nat.beq (ab.length) 8&&true) (∀(b:Nat),lM (aa.add b (List.append ab [])) λmL=>aa.free b->(ak=Tok.mk ac 8\/ac=slice none 0 0\/c < ae)/\∃(xs:List Value),∃(ys:List Value),
 xs.length=n*8/\ys.length=1*8/\rowRd mL a xs/\rowRd mL (some (Addr.mk b 0 none)) ys/\(∀(u:Value),u∈ys->u.oneCell'=true)/\ae*80<=140737488355328/\ae<=9223372036854775807/\∀(a'
 : Option Addr) (c':Nat) (m':Mem),mL.le m'->rowRd m' a' (List.append xs ys)->Zac xL/\nxI ah I (slice a' ae c'::al) [] [slice a' ae c'] m'))))))) (br ((↑n:Int) == (0:Int)) (rtM m aa R (agg (Array.mk
 [int u8 1,int u64 0,int u64 0,int u64 0,int u64 0,int i64 0,int i64 0,slice none 0 0]))) (br ((↑n:Int) == (1:Int)) (atA a λb o=>Zad (0:Int) n/\∃v an ao ap aq ar au av:Value,lV [v,an,ao,ap,aq,ar,au,av] λxL=>aa.reads b (o+0) xL/\chk (v.oneCell'&&(an.oneCell'&&(ao.oneCell' &&
 (ap.oneCell'&&(aq.oneCell'&&(ar.oneCell'&&(au.oneCell'&&(av.oneCell'&&true)))))))) (rtM m aa R (agg (Array.mk xL)))) (rtM m aa R (agg (Array.mk [int u8 p0,int u64 0,int u64 0,
 int u64 0,int u64 0,int i64 0,int i64 0,ac])))))):CX Tryz.prog 124 #[.int .u8 p0,.agg #[.int .u8 bM,.int .u64 bV,.int .u64 bX,.int .u64 cJ,.int .u64 eA,.int .i64 eB,.int .i64 eC,.slice dR dS dT],.agg #[.int .u8 j1,.int .u64 j2,.int .u64 j3,.int .u64 j4,.int .u64 pC,.int .i64 pD,.int .i64 pE,.slice mj ml mo]] m [] R:=
 Zae (E:=ZjC) Zao mix Tryz.func124 (by kernel_rfl) (Eq.mp (by kernel_rfl) h)
def ZlF:Env:={ EB with
 loops:=(λi=>bif Nat.beq i 4 then⟨[(3,.slice),(4,.int .i64),(5,.int .i64),(22,.int .i64)],[],[(40,8)],false⟩ else bif Nat.beq i 32 then⟨[(195,.int .i64)],[13],[],false⟩ else⟨[],[],[],false⟩)
 joins:=(λi=>bif Nat.beq i 12 then some [(48,.bool)]else bif Nat.beq i 14 then some [(74,.bool)]else bif Nat.beq i 16 then some [(100,.bool)]else bif Nat.beq i 19 then some [(123,.bool)]else bif Nat.beq i 21 then some [(161,.bool)]else none)
 dr:=(λi=>bif Nat.beq i 13 then[⟨0,[],[],none,[],[]⟩,⟨1,[],[],none,[],[]⟩,⟨2,[],[],none,[1],[]⟩,⟨3,[],[],none,[],[]⟩,⟨4,[],[],none,[3],[]⟩,⟨5,[],[],none,[0,1,2,3,4],[]⟩,⟨6,[],[],none,[],[]⟩,⟨7,[],[],none,[],[]⟩,⟨8,[],[],none,[7],[]⟩,⟨9,[],[],none,[6,7,8],[]⟩,⟨10,[],[],none,[6,7,8,9],[]⟩,⟨11,[],[],none,[],[]⟩,⟨12,[],[],none,[],[]⟩,⟨13,[],[],none,[12],[]⟩,⟨14,[],[],none,[11,12,13],[]⟩,⟨15,[],[],none,[11,12,13,14],[]⟩,⟨16,[],[],none,[6,7,8,9,10,11,12,13,14,15],[]⟩,⟨17,[72],[72],none,[6,7,8,9,10,11,12,13,14,15,16],[16]⟩,⟨18,[72],[],some 40,rg 0 18,[17]⟩,⟨19,[],[],none,rg 0 19,[]⟩]else bif Nat.beq i 15 then[⟨0,[],[],none,[],[]⟩,⟨1,[],[],none,[],[]⟩,⟨2,[],[],none,[1],[]⟩,⟨3,[],[],none,[],[]⟩,⟨4,[],[],none,[3],[]⟩,⟨5,[],[],none,[0,1,2,3,4],[]⟩,⟨6,[],[],none,[],[]⟩,⟨7,[],[],none,[],[]⟩,⟨8,[],[],none,[7],[]⟩,⟨9,[],[],none,[6,7,8],[]⟩,⟨10,[],[],none,[6,7,8,9],[]⟩,⟨11,[],[],none,[],[]⟩,⟨12,[],[],none,[],[]⟩,⟨13,[],[],none,[12],[]⟩,⟨14,[],[],none,[11,12,13],[]⟩,⟨15,[],[],none,[11,12,13,14],[]⟩,⟨16,[],[],none,[6,7,8,9,10,11,12,13,14,15],[]⟩,⟨17,[98],[98],none,[6,7,8,9,10,11,12,13,14,15,16],[16]⟩,⟨18,[98],[],some 40,rg 0 18,[17]⟩,⟨19,[],[],none,rg 0 19,[]⟩]else bif Nat.beq i 20 then[⟨0,[7],[],none,[],[]⟩,⟨1,[7],[],none,[0],[]⟩,⟨2,[],[],none,[0,1],[]⟩,⟨3,[],[],none,[0,1,2],[]⟩,⟨4,[7],[],none,[],[]⟩,⟨5,[7],[],none,[4],[]⟩,⟨6,[],[],none,[4,5],[]⟩,⟨7,[],[],none,[4,5,6],[]⟩,⟨8,[],[],none,[0,1,2,3],[]⟩,⟨9,[],[],none,[0,1,2,3,4,5,6,7,8],[]⟩]else[])
 tokOf:=(λi=>bif Nat.beq i 40 then 40 else bif Nat.beq i 47 then 40 else bif Nat.beq i 73 then 40 else bif Nat.beq i 99 then 40 else 0)
 thaw:=true
 stAt:=(λi=>bif Nat.beq i 120 then some 40 else bif Nat.beq i 183 then some 40 else none) }
theorem ZjD(p0a:Option Addr)(p0n p0c:Nat)(m:Mem)(R:RT)(h:
 ∀(b:Nat),lE (if(25:Int) < (↑p0n:Int)then(25:Int)else(↑p0n:Int)) λyL=>lE [some (Box.mk b [int u8 0,int u64 0,int u64 0,int u64 0,int u64 0,int i64 0,int i64 0,slice none 0 0] 42 8 false
 true)] λxL=>((0:Int)<=yL/\yL<=(↑p0c:Int))/\∃(I:IT),inI I [slice none 0 0,int i64 1,int i64 0,int i64 0] [] [slice none 0 0] m/\∀(a:Option Addr)(n c:Nat)(bu bq bm:Int)(cf:Option Addr) (bb
 bs:Nat) (m':Mem) (ay:Nat),lE (↑n:Int) λbc=>lV [bool (decide (bc > (1:Int)))] λbz=>lV [int i64 (i64.wrap (bm+(1:Int)))] λca=>lX (slice cf bb bs) λaz=>lE (Tok.mk az 8) λbn=>
 lE (i64.wrap (bc - (2:Int))) λa0=>lE (Int.toNat a0) λa4=>lX (int i64 bu) λa6=>lE (a4 - 0) λbd=>lX (slice (Za6 a 0 a4 8) bd bd) λbt=>lE (bd+1) λam=>lE (n+1) λan=>lX
 (slice a n c) λa1=>lE (i64.wrap (bc - (1:Int))) λa5=>lE (Int.toNat a5*8) λao=>lV (int i64 bq::ca) λa7=>lE [some bn] λab=>True->I [a1,a6,int i64 bq,int i64 bm] [] [az] m' ay->
 br (decide (bm < (↑(Int.toNat yL - 0):Int))) (atA (Za6 p0a 0 p0c 3) λb o=>Zad bm (Int.toNat yL - 0)/\∃v a9 be:Value,lE (i64.wrap (Int.tmod (RowKit.intOf be) (4:
 Int))) λyL=>lE (i64.wrap (Int.tmod (RowKit.intOf a9) (3:Int))) λba=>lE (if yL > ba then yL else ba) λcb=>lE (if(-1:Int) > ba then(-1:Int)else ba) λcc=>lE (Int.tmod (RowKit.intOf v)
 (12:Int)) λbg=>lE (i64.wrap (bu*if(1:Int) > cb then(1:Int)else cb)) λcd=>lE (i64.wrap (bu*if(1:Int) > cc then(1:Int)else cc)) λce=>lV [v,a9,be] λbo=>m'.reads  b (o+Int.toNat bm*3) bo/\∀(b:Nat),lE (some (Box.mk b bo 195 3 false true)::xL) λae=>chk (v.oneCell'&&(a9.oneCell'&&(be.oneCell'&&true))) (chk (Za9 u8 v&&decide (u8=u8)) ((12
 : Int)≠(0:Int)/\br (decide (bg < (4:Int))) (kT Tryz.prog 123 [a9] m' λs m'=>∃(R:RT),True/\CX Tryz.prog 122 (Array.mk [string s]) m' [] R/\ZbC (shT) R/\∀(ac af ag ah ai aj ak:Int) (a2:Option
 Addr) (a8 cg:Nat) (aa:Mem),lV [int u8 ac,int u64 af,int u64 ag,int u64 ah,int u64 ai,int i64 aj,int i64 ak,slice a2 a8 cg] λad=>m'.le aa->R (agg (Array.mk ad)) aa []->∀(b:Nat),lM (aa.add b
 ad) λmL=>aa.free b->(bn=Tok.mk a1 8\/a1=slice none 0 0\/c < an)/\∃(xs:List Value),∃(ys:List Value),xs.length=n*8/\ys.length=1*8/\rowRd mL a xs/\rowRd mL (some (Addr.mk b 0
 none)) ys/\(∀(u:Value),u∈ys->u.oneCell'=true)/\an*80<=140737488355328/\an<=9223372036854775807/\∀(a':Option Addr)(c':Nat)(m':Mem),mL.le m'->rowRd m' a' (List.append xs ys)->TokFact
 mL a a' an c'->Zac xL/\nxI ay I (slice a' an c'::a6::a7) [] [slice a' an c'] m') (br (bg == (4:Int)) (∀(b:Nat),lM (m'.add b [int u8 1,int u64 0,int u64 0,int u64 0,int u64 0,int i64 0,int i64 0,
 slice none 0 0]) λmL=>m'.free b->(bn=Tok.mk a1 8\/a1=slice none 0 0\/c < an)/\∃(xs:List Value),∃(ys:List Value),xs.length=n*8/\ys.length=1*8/\rowRd mL a xs/\rowRd mL (some
 (Addr.mk b 0 none)) ys/\(∀(u:Value),u∈ys->u.oneCell'=true)/\an*80<=140737488355328/\an<=9223372036854775807/\∀(a':Option Addr)(c':Nat)(m':Mem),mL.le m'->rowRd m' a' (List.append xs
 ys)->TokFact mL a a' an c'->Zac xL/\nxI ay I (slice a' an c'::a6::a7) [] [slice a' an c'] m') (∃(b:Bool),br (decide (bg < (7:Int))) (Zac ae/\ab=ab/\bz=[bool b]) (Zac ae/\ab=ab/\[bool
 false]=[bool b])/\br b (∃(f:Fx),((0:Int)<=a0/\a0<=(↑c:Int))/\((0:Int)<=a0/\a0<=(↑a4:Int))/\atA a λb o=>Zad a0 n/\∃v ap aq ar au av aw ax:Value,lV [v,ap,aq,ar,au,av,aw,ax] λad=>m'.reads b (o+a4*8) ad/\atA a λb o=>Zad a5 n/\∃v bh bi bj bk bl bv bw:Value,lV [v,bh,bi,bj,bk,bl,bv,bw] λal=>lV [int u8 3,agg (Array.mk ad),agg (Array.mk al)] λa3=>m'.reads b (o+ao) al/\∃(R:
 RT),R=f 16 a3 m'/\CX Tryz.prog 124 (Array.mk a3) m' [] R/\ZbC (shT) R/\∀(n ac af ag ah ai aj:Int)(a2:Option Addr)(ak c:Nat)(aa:Mem),lV [int u8 n,int u64 ac,int u64 af,int u64 ag,int u64 ah,int
 i64 ai,int i64 aj,slice a2 ak c] λbp=>m'.le aa->R (agg (Array.mk bp)) aa []->∀(b:Nat),lM (aa.add b bp) λmL=>aa.free b->(bn=Tok.mk bt 8\/bt=slice none 0 0\/bd < am)/\∃(xs:List
 Value),∃(ys:List Value),xs.length=bd*8/\ys.length=1*8/\rowRd mL (Za6 a 0 a4 8) xs/\rowRd mL (some (Addr.mk b 0 none)) ys/\(∀(u:Value),u∈ys->u.oneCell'=true)/\am*80 <=
 140737488355328/\am<=9223372036854775807/\∀(a':Option Addr)(c':Nat)(bf:Mem),mL.le bf->rowRd bf a' (List.append xs ys)->TokFact mL (Za6 a 0 a4 8) a' am c'->∀(M:Mem),m'.le M->aa.le M->
 mL.le M->bf.le M->Zac xL/\nxI ay I (slice a' am c'::a6::a7) [] [slice a' am c'] M) (∃(b:Bool),br (decide (bg < (9:Int))) (Zac ae/\ab=ab/\bz=[bool b]) (Zac ae/\ab=ab/\[bool false]
 = [bool b])/\br b (∃(f:Fx),((0:Int)<=a0/\a0<=(↑c:Int))/\((0:Int)<=a0/\a0<=(↑a4:Int))/\atA a λb o=>Zad a0 n/\∃v ap aq ar au av aw ax:Value,lV [v,ap,aq,ar,au,av,aw,ax] λad=>m'.reads b (o+a4*8) ad/\atA a λb o=>Zad a5 n/\∃v bh bi bj bk bl bv bw:Value,lV [v,bh,bi,bj,bk,bl,bv,bw] λal=>lV [int u8 4,agg (Array.mk ad),agg (Array.mk al)] λa3=>m'.reads b (o+ao) al/\∃(R:RT),R=f
 16 a3 m'/\CX Tryz.prog 124 (Array.mk a3) m' [] R/\ZbC (shT) R/\∀(n ac af ag ah ai aj:Int)(a2:Option Addr)(ak c:Nat)(aa:Mem),lV [int u8 n,int u64 ac,int u64 af,int u64 ag,int u64 ah,int i64 ai,int
 i64 aj,slice a2 ak c] λbp=>m'.le aa->R (agg (Array.mk bp)) aa []->∀(b:Nat),lM (aa.add b bp) λmL=>aa.free b->(bn=Tok.mk bt 8\/bt=slice none 0 0\/bd < am)/\∃(xs:List Value),∃(ys:
 List Value),xs.length=bd*8/\ys.length=1*8/\rowRd mL (Za6 a 0 a4 8) xs/\rowRd mL (some (Addr.mk b 0 none)) ys/\(∀(u:Value),u∈ys->u.oneCell'=true)/\am*80<=140737488355328/\am
 <= 9223372036854775807/\∀(a':Option Addr)(c':Nat)(bf:Mem),mL.le bf->rowRd bf a' (List.append xs ys)->TokFact mL (Za6 a 0 a4 8) a' am c'->∀(M:Mem),m'.le M->aa.le M->mL.le M->bf.le M->Zac xL/\nxI ay I (slice a' am c'::a6::a7) [] [slice a' am c'] M) (∃(b:Bool),br (bg == (9:Int)) (br (decide (bc > (0:Int))) (Zac ae/\ab=ab/\[bool (decide (bq < (9:Int)))]=[bool b])
 (Zac ae/\ab=ab/\[bool false]=[bool b])) (Zac ae/\ab=ab/\[bool false]=[bool b])/\br b (atA a λb o=>Zad a5 n/\∃v ap aq ar au av aw ax:Value,lV [v,ap,aq,ar,au,av,aw,ax] λad=>m'.reads b (o+ao) ad/\∃(R:RT),True/\CX Tryz.prog 125 (Array.mk [agg (Array.mk ad)]) m' [] R/\ZbC (shT) R/\∀(ac
 af ag ah ai aj ak:Int) (a2:Option Addr) (a8 c:Nat) (aa:Mem),lV [int u8 ac,int u64 af,int u64 ag,int u64 ah,int u64 ai,int i64 aj,int i64 ak,slice a2 a8 c] λal=>m'.le aa->R (agg (Array.mk al))
 aa []->atA a λb o=>Zad a5 n/\az=slice (some (Addr.mk b 0 none)) bb bs/\o+ao+8<=bb*8/\Zac xL/\nxI ay I (a1::a6::int i64 (i64.wrap (bq+(1:Int)))::ca) [] [az] (Mem.upd aa b (o +
 ao) al)) (∃(b:Bool),br (decide (bg > (9:Int))) (br (decide (bc > (0:Int))) (atA a λbx o=>Zad a5 n/\∃(v:Value),m' bx (o+ao+0)=some v/\chk (Za9 u8 v&&decide (u8=u8)) (Zac ae/\ab=ab
 /\ [bool !RowKit.intOf v == (1:Int)]=[bool b])) (Zac ae/\ab=ab/\[bool false]=[bool b])) (Zac ae/\ab=ab/\[bool false]=[bool b])/\br b (chk (Za9 u8 a9&&decide (u8=u8)) ((3:Int)≠(0:Int)/\
 chk (Za9 u8 be&&decide (u8=u8)) ((4:Int)≠(0:Int)/\∃(b:Bool),lV [bool b] λad=>br (decide (yL < ba)) (Zac ae/\ab=ab/\[bool true]=ad) (br (yL == (0:Int)) (Zac ae/\ab=ab/\[bool true]
 = ad) (br (ba == (1:Int)) (Zac ae/\ab=ab/\[bool (yL == (1:Int))]=ad) (Zac ae/\ab=ab/\[bool false]=ad)))/\br b (br (decide (ce<=(16:Int))) (atA a λb o=>Zad a5 n/\∃v ap aq ar au av aw ax:Value,lV [v,ap,aq,ar,au,av,aw,ax] λal=>m'.reads b (o+ao) al/\∃(R:RT),True/\CX Tryz.prog 126
 (Array.mk [agg (Array.mk al),int i64 ba,int i64 (-1:Int)]) m' [] R/\ZbC (shT) R/\∀(ac af ag ah ai aj ak:Int)(a2:Option Addr)(a8 c:Nat)(aa:Mem),lV [int u8 ac,int u64 af,int u64 ag,int u64 ah,int
 u64 ai,int i64 aj,int i64 ak,slice a2 a8 c] λa3=>m'.le aa->R (agg (Array.mk a3)) aa []->atA a λb o=>Zad a5 n/\az=slice (some (Addr.mk b 0 none)) bb bs/\o+ao+8<=bb*8/\Zac xL/\nxI ay
 I (a1::int i64 ce::a7) [] [az] (Mem.upd aa b (o+ao) a3)) (Zac xL/\nxI ay I (a1::a6::a7) [] [az] m')) (br (decide (cd<=(16:Int))) (atA a λb o=>Zad a5 n/\∃v ap aq ar au av aw ax:Value,lV [v,ap,aq,ar,au,av,aw,ax] λal=>m'.reads b (o+ao) al/\∃(R:RT),True/\CX Tryz.prog 126 (Array.mk [agg
 (Array.mk al),int i64 ba,int i64 yL]) m' [] R/\ZbC (shT) R/\∀(ac af ag ah ai aj ak:Int)(a2:Option Addr)(a8 c:Nat)(aa:Mem),lV [int u8 ac,int u64 af,int u64 ag,int u64 ah,int u64 ai,int i64 aj,int
 i64 ak,slice a2 a8 c] λa3=>m'.le aa->R (agg (Array.mk a3)) aa []->atA a λb o=>Zad a5 n/\az=slice (some (Addr.mk b 0 none)) bb bs/\o+ao+8<=bb*8/\Zac xL/\nxI ay I (a1::int i64 cd ::
 a7) [] [az] (Mem.upd aa b (o+ao) a3)) (Zac xL/\nxI ay I (a1::a6::a7) [] [az] m'))))) (Zac xL/\nxI ay I (a1::a6::a7) [] [az] m'))))))))) (br (bc == (0:Int)) (∃(R_1:RT),True/\CX Tryz.prog 122
 (Array.mk [string (ByteArray.mk (Array.mk [97]))]) m' [] R_1/\ZbC (shT) R_1/\∀(n ac af ag ah ai aj:Int)(a:Option Addr)(ak c:Nat)(aa:Mem),lX (agg (Array.mk [int u8 n,int u64 ac,int u64 af,int
 u64 ag,int u64 ah,int i64 ai,int i64 aj,slice a ak c])) λyL=>m'.le aa->R_1 yL aa []->rtM m aa R yL) (atA a λb o=>Zad (0:Int) n/\∃v a9 be ap aq ar au av:Value,lV [v,a9,be,ap,aq,ar,au,av] λbo=>m'.reads b (o+0) bo/\∀(b:Nat),chk (v.oneCell'&&(a9.oneCell'&&(be.oneCell' &&
 (ap.oneCell'&&(aq.oneCell'&&(ar.oneCell'&&(au.oneCell'&&(av.oneCell'&&true)))))))) (((0:Int)<=(1:Int)/\(1:Int)<=bc)/\∃(I:IT),inI I [int i64 0] [bo] [] m'/\∀(ac:
 Int) (cs:List Value) (m':Mem) (af:Nat),True->I [int i64 ac] [cs] [] m' af->br (decide (ac < (↑(n - Int.toNat (1:Int)):Int))) (atA (Za6 a (Int.toNat (1:Int)) c 8) λbx o=>Zad ac (n - Int.toNat
 (1:Int))/\∃v aw ax bh bi bj bk bl:Value,lV [v,aw,ax,bh,bi,bj,bk,bl] λae=>m'.reads bx (o+Int.toNat ac
 * 8) ae/\∀(ci:Nat),chk (v.oneCell'&&(aw.oneCell'&&(ax.oneCell'&&(bh.oneCell'&&(bi.oneCell'&&(bj.oneCell'&&(bk.oneCell'&&(bl.oneCell'&&true)))))))) (∃
 (R:RT),True/\CX Tryz.prog 124 (Array.mk [int u8 4,agg (Array.mk cs),agg (Array.mk ae)]) m' [] R/\ZbC (shT) R/\∀(n ag ah ai aj ak a8:Int)(a:Option Addr)(ch c:Nat)(aa:Mem),lV [int u8 n,int u64 ag,
 int u64 ah,int u64 ai,int u64 aj,int i64 ak,int i64 a8,slice a ch c] λad=>m'.le aa->R (agg (Array.mk ad)) aa []->Zac (some (Box.mk b [] 42 8 false true)::xL)/\ab=ab/\nxI af I [int i64
 (i64.wrap (ac+(1:Int)))] [ad] [] aa)) (chk (Nat.beq (cs.length) 8&&Zey cs) (rtM m m' R (agg (Array.mk cs)))))))):CX Tryz.prog 84 #[.slice p0a p0n p0c] m [] R:=
 Zae (E:=ZlF) Zao mix Tryz.func84 (by kernel_rfl) (Eq.mp (by kernel_rfl) h)
end Go.Proofs.YtpjepnkiiojgfaaGreat
namespace Go.Proofs.YtpjepnkiiojgfaaGreat
open Go Go.Eng Go.Rx Go.Proofs Go.RowKit
set_option maxRecDepth 100000
theorem Zvi{α:Type}{cs:α->List Value}{m:Mem}{a:Option Addr}{ts r:List α}(h:rowRd m a ((ts++r).map cs).flatten):rowRd m a (ts.map cs).flatten:=by
 rw[List.map_append,List.flatten_append]at h
 rcases h with h|⟨b,o,ha,h⟩
 ·exact .inl (List.append_eq_nil_iff.1 h).1
 ·refine .inr ⟨b,o,ha,λj v hj=>h j v ?_⟩
  rw[zA5 (zA0 hj).1];exact hj
theorem ZjE{α:Type}{cs:α->List Value}{ts:List α}{t:α}:((ts++[t]).map cs).flatten=(ts.map cs).flatten++cs t:=by simp
theorem Zvj{α:Type}{cs:α->List Value}{n:Nat}(hn:∀x,(cs x).length=n){m:Mem}{b:Nat}{ts:List α}{x t:α}(h:rowRd m (some ⟨b,0,none⟩) ((ts++[x]).map cs).flatten)(h0:0 < n):rowRd (m.upd b (0+ts.length*n) (cs t)) (some ⟨b,0,none⟩) ((ts++[t]).map cs).flatten:=by
 have hl:=ZaY hn ts
 refine .inr ⟨b,0,rfl,λj v hj=>?_⟩
 rw[ZjE]at hj h
 rcases Nat.lt_or_ge j (ts.length*n)with aC|bL
 ·rw[zA5 (by omega)]at hj
  unfold Mem.upd;try dsimp only
  rw[if_neg (by omega)]
  rcases h with h|⟨b',o',ha,h⟩
  ·have:=congrArg List.length h
   rw[zA1,hl,hn]at this
   simp at this;omega
  ·cases ha
   refine h j v ?_
   rw[zA5 (by omega)];exact hj
 ·rw[zA4 (by omega),hl]at hj
  have h8:=(zA0 hj).1
  have h9:=hn t
  unfold Mem.upd;try dsimp only
  rw[if_pos ⟨rfl,by omega,by omega⟩,show 0+j - (0+ts.length*n)=j - ts.length*n by omega]
  exact hj
theorem Apart.rbase{α:Type}{cs:α->List Value}{n:Nat}(hn:∀x,(cs x).length=n)(h0:0 < n){mb m:Mem}{a:Option Addr}{ts:List α}(h:Apart mb a)(aB:rowRd m a (ts.map cs).flatten)(cM:ts≠[]):∃b,a=some ⟨b,0,none⟩/\mb.free b/\∃o u,m b o=some u:=by
 obtain⟨t,r,rfl⟩:∃t r,ts=t::r:=by cases ts with
  | nil=>exact absurd rfl cM
  | cons t r=>exact⟨t,r,rfl⟩
 obtain⟨b',o,ha,cG⟩:=Zai hn aB (k:=0) (t:=t) rfl h0
 rcases h with h|⟨b,hb,hf⟩
 ·rw[h]at ha;cases ha
 ·rw[hb]at ha;cases ha
  have:0 < (cs t).length:=by rw[hn];exact h0
  exact⟨b',hb,hf,_,_,cG 0 _ (zA3 this)⟩
theorem Zzj{α:Type}{ts:List α}(h:1 < ts.length):∃r x y,ts=r++[x,y]:=by
 have h1:ts.length - 2 < ts.length:=by omega
 refine⟨ts.take (ts.length - 2),ts[ts.length - 2],ts[ts.length - 1],?_⟩
 have e:=(List.take_append_drop (ts.length - 2) ts).symm
 rw[List.drop_eq_getElem_cons h1,List.drop_eq_getElem_cons (by omega),List.drop_eq_nil_of_le (by omega)]at e
 simpa[show ts.length - 2+1=ts.length - 1 by omega]using e
theorem Zzk{α:Type}{ts:List α}(h:0 < ts.length):∃r x,ts=r++[x]:=by
 refine⟨ts.dropLast,ts.getLast (by intro e;subst e;simp at h),?_⟩
 exact(List.dropLast_concat_getLast _).symm
theorem Zbi{m:Mem}{b:Nat}{cs:List Value}:rowRd (m.add b cs) (some ⟨b,0,none⟩) cs:=.inr ⟨b,0,rfl,λj v hj=>by rw[Nat.zero_add,Mem.add_same];exact hj⟩
theorem Zcr{α:Type}{cs:α->List Value}{n:Nat}(hn:∀x,(cs x).length=n)(h1:∀x,∀u∈cs x,u.oneCell'=true){m3:Mem}{b3:Nat}(hf:m3.free b3){a:Option Addr}{ts:List α}(t:α)(aB:rowRd m3 a (ts.map cs).flatten)(sz:Nat)(bE:(ts.length+1)*sz<=140737488355328)(hl:ts.length<=1000000){P Q:Prop}(hp:P\/Q){K:Option Addr->Nat->Mem->Prop}
  (k:∀(a':Option Addr)(c':Nat)(m4:Mem),(m3.add b3 (cs t)).le m4->rowRd m4 a' ((ts++[t]).map cs).flatten->TokFact (m3.add b3 (cs t)) a a' (ts.length+1) c'->K a' c' m4):
  (P\/Q)/\∃xs ys:List Value,xs.length=ts.length*n/\ys.length=1*n/\rowRd (m3.add b3 (cs t)) a xs/\rowRd (m3.add b3 (cs t)) (some ⟨b3,0,none⟩) ys/\(∀u:Value,u∈ys->u.oneCell'=true)/\(ts.length+1)*sz<=140737488355328/\ts.length+1<=9223372036854775807/\
   ∀(a':Option Addr)(c':Nat)(m4:Mem),(m3.add b3 (cs t)).le m4->rowRd m4 a' (List.append xs ys)->TokFact (m3.add b3 (cs t)) a a' (ts.length+1) c'->K a' c' m4:=
 ⟨hp,(ts.map cs).flatten,cs t,ZaY hn ts,by rw[hn,Nat.one_mul],aB.mono (Mem.le_add hf _),Zbi,h1 t,bE,by omega,λa' c' m4 hm hr ht=>k a' c' m4 hm (by rw[ZjE];exact hr) ht⟩
theorem ZgX{α:Type}{cs:α->List Value}{n:Nat}(hn:∀x,(cs x).length=n)(h1:∀x,∀u∈cs x,u.oneCell'=true){m3:Mem}{b3:Nat}(hf:m3.free b3){a:Option Addr}{ts:List α}(t:α)(aB:rowRd m3 a (ts.map cs).flatten)(sz:Nat)(bE:(ts.length+1)*sz<=140737488355328)(hl:ts.length<=1000000){P Q:Prop}(hp:P\/Q){K:Option Addr->Nat->Mem->Prop}
  (k:∀(a':Option Addr)(c':Nat)(m4:Mem),(m3.add b3 (cs t)).le m4->rowRd m4 a' ((ts++[t]).map cs).flatten->K a' c' m4):
  (P\/Q)/\∃xs ys:List Value,xs.length=ts.length*n/\ys.length=1*n/\rowRd (m3.add b3 (cs t)) a xs/\rowRd (m3.add b3 (cs t)) (some ⟨b3,0,none⟩) ys/\(∀u:Value,u∈ys->u.oneCell'=true)/\(ts.length+1)*sz<=140737488355328/\ts.length+1<=9223372036854775807/\
   ∀(a':Option Addr)(c':Nat)(m4:Mem),(m3.add b3 (cs t)).le m4->rowRd m4 a' (List.append xs ys)->K a' c' m4:=
 ⟨hp,(ts.map cs).flatten,cs t,ZaY hn ts,by rw[hn,Nat.one_mul],aB.mono (Mem.le_add hf _),Zbi,h1 t,bE,by omega,λa' c' m4 hm hr=>k a' c' m4 hm (by rw[ZjE];exact hr)⟩
def ER(φ:E->Prop):Value->Mem->List (List Value)->Prop:=λv m' _=>∃e:E,v=e.v/\RepE m' e/\φ e
theorem ZfP{φ:E->Prop}:∀(v:Value)(m':Mem) (css:List (List Value)),ER φ v m' css->Shape.fits (.agg [.int .u8,.any,.str,.int .i64,.slice]) v=true:=λv _ _ ⟨e,h,_⟩=>by rw[h];rfl
abbrev EK:=Int->Value->ByteArray->Int->Option Addr->Nat->Nat->Mem->Prop
theorem ZpC{e:E}{n:Int}{v:Value}{s:ByteArray}{g:Int}{a:Option Addr}{k c:Nat}(h:Value.agg #[.int .u8 n,v,.string s,.int .i64 g,.slice a k c]=e.v):n=e.k/\v=.float .f64 e.x/\s=e.s/\g=e.g/\a=e.a/\k=e.subs.length/\c=e.c:=by
 simpa[E.v]using h
theorem ZyE{φ:E->Prop}{m:Mem}{K:EK}(k:∀(e:E)(m':Mem),m.le m'->RepE m' e->φ e->K e.k (.float .f64 e.x) e.s e.g e.a e.subs.length e.c m'):
  ∀(n:Int)(v:Value)(s:ByteArray)(g:Int)(a:Option Addr)(n1 c:Nat)(m':Mem),m.le m'->ER φ (.agg #[.int .u8 n,v,.string s,.int .i64 g,.slice a n1 c]) m' []->K n v s g a n1 c m':=by
 rintro n v s g a n1 c m' hm ⟨e,hv,hr,hp⟩
 obtain⟨rfl,rfl,rfl,rfl,rfl,rfl,rfl⟩:=ZpC hv
 exact k e m' hm hr hp
def EF(mb M0:Mem)(φ:E->Prop):Value->Mem->List (List Value)->Prop:=λv M' css=>∃m0,mb.le m0/\m0.le M'/\(∀b o u,M0 b o=some u->∀o',m0 b o'=mb b o')/\ER φ v m0 css
theorem Zq5{mb M0:Mem}{φ:E->Prop}:∀(v:Value)(m':Mem) (css:List (List Value)),EF mb M0 φ v m' css->Shape.fits (.agg [.int .u8,.any,.str,.int .i64,.slice]) v=true:=λv _ _ ⟨_,_,_,_,e,h,_⟩=>by rw[h];rfl
theorem ZAT{mb M0:Mem}{φ:E->Prop}{m:Mem}{K:EK}(k:∀(e:E)(m0 m':Mem),m.le m'->mb.le m0->m0.le m'->(∀b o u,M0 b o=some u->∀o',m0 b o'=mb b o')->RepE m0 e->φ e->K e.k (.float .f64 e.x) e.s e.g e.a e.subs.length e.c m'):
  ∀(n:Int)(v:Value)(s:ByteArray)(g:Int)(a:Option Addr)(n1 c:Nat)(m':Mem),m.le m'->EF mb M0 φ (.agg #[.int .u8 n,v,.string s,.int .i64 g,.slice a n1 c]) m' []->K n v s g a n1 c m':=by
 rintro n v s g a n1 c m' hm ⟨m0,h1,h2,h3,e,hv,hr,hp⟩
 obtain⟨rfl,rfl,rfl,rfl,rfl,rfl,rfl⟩:=ZpC hv
 exact k e m0 m' hm h1 h2 h3 hr hp
theorem E.one(e:E):∀u∈e.cs,u.oneCell'=true:=by
 intro u hu
 simp only[E.cs,E.sl,List.mem_cons,List.not_mem_nil,or_false]at hu
 rcases hu with rfl|rfl|rfl|rfl|rfl <;> rfl
theorem E.len(e:E):e.cs.length=5:=rfl
theorem Zd7{m:Mem}{k:Int}{x:Nat}{s:ByteArray}{g:Int}(hk:0<=k/\k < 256)(hs:s.size<=1000000000000000)(hg : -9223372036854775808<=g/\g<=9223372036854775807):RepE m (.node k x s g none 0 []):=by
 simp only[RepE]
 exact⟨by simp,.inl trivial,hk,hs,hg⟩
theorem ZjF:∀s∈Zix,s.size<=16:=by decide +kernel
theorem Zxv(m:Mem):CX Tryz.prog 149 #[] m [] (Ret (.float .f64 Zyz)):=by
 apply Zoa
 exact⟨_,Zq1 Zyz,Zaf (Mem.le_refl _) rfl⟩
theorem Zt5(x:Nat)(m:Mem):CX Tryz.prog 150 #[.float .f64 x] m [] (ER (λe=>e=ZzP x)):=by
 apply ZlA
 intro b
 exact Zaa rfl (Zaa rfl (ZaH (Mem.le_refl _) ⟨ZzP x,rfl,Zd7 (by omega) (by rw[ZaL];omega) (by omega),rfl⟩))
theorem Zvk(s:ByteArray)(hs:s.size<=1000000000000000)(m:Mem):CX Tryz.prog 151 #[.string s] m [] (ER (λe=>e=Zye s)):=by
 apply Zjx
 intro b
 exact ZaH (Mem.le_refl _) ⟨Zye s,rfl,Zd7 (by omega) hs (by omega),rfl⟩
def Zxw(l:List ByteArray):Value->Mem->List (List Value)->Prop:=λv m' _=>∃a c,v=.slice a l.length c/\rowRd m' a (Zb8 l)
theorem ZcT{l}:∀(v:Value)(m':Mem) (css:List (List Value)),Zxw l v m' css->Shape.fits .slice v=true:=λv _ _ ⟨_,_,e,_⟩=>by rw[e];rfl
theorem ZsN(m:Mem):CX Tryz.prog 152 #[] m [] (Zxw Zix):=by
 apply ZhT
 intro b hf
 exact ZaH (Mem.le_add hf _) ⟨_,_,rfl,Zbi⟩
theorem Zxx(e:E)(m:Mem)(hr:RepE m e):CX Tryz.prog 153 #[e.v] m [] (ER (λu=>∃a d,u=Zyf a d e)):=by
 apply ZlC
 intro b m1 aE hb b2 b3 hf
 have bU:=Mem.le_add hf e.cs
 refine ZaH (mLt aE bU) ⟨Zyf (some ⟨b3,0,none⟩) 1 e,rfl,?_,_,_,rfl⟩
 simp only[Zyf,RepE]
 refine⟨by simp,.inr ⟨b3,0,rfl,?_⟩,by omega,by rw[ZaL];omega,by omega⟩
 simp only[RepEAt]
 exact⟨λi v hv=>by rw[Nat.zero_add,Mem.add_same];exact hv,hr.mono' (mLt aE bU),trivial⟩
theorem Zxy(k:Int)(x y:E)(hk:0<=k/\k < 256)(m:Mem)(hx:RepE m x)(hy:RepE m y):CX Tryz.prog 154 #[.int .u8 k,x.v,y.v] m [] (ER (λu=>∃a d,u=opE k a d x y)):=by
 apply Zod
 intro b m1 aE _ b1 m2 aK _ b2 b3 hf
 have bU:=Mem.le_add hf (x.cs++y.cs)
 have cR:=mLt aE aK
 refine ZaH (mLt cR bU) ⟨opE k (some ⟨b3,0,none⟩) 2 x y,rfl,?_,_,_,rfl⟩
 simp only[opE,RepE]
 refine⟨by simp,.inr ⟨b3,0,rfl,?_⟩,hk,by rw[ZaL];omega,by omega⟩
 simp only[RepEAt]
 refine⟨λi v hv=>?_,hx.mono' (mLt cR bU),λi v hv=>?_,hy.mono' (mLt cR bU),trivial⟩
 ·rw[Nat.zero_add]
  exact(Mem.add_same ..).trans (by show(x.cs++y.cs)[i]?=some v;rw[zA5 (zA0 hv).1];exact hv)
 ·rw[show 0+5+i=5+i by omega]
  exact(Mem.add_same ..).trans (by show(x.cs++y.cs)[5+i]?=some v;rw[zA4 (by rw[E.len];omega),E.len,Nat.add_sub_cancel_left];exact hv)
theorem Zt6(T:TypeId){x y r:Nat}(h:FloatKind.f64.format.div x y=some r):BinIs Tryz.prog .quo T (.float .f64 x) (.float .f64 y) (.float .f64 r):=λox oy w=>by
 simp[eqGuard,binOp,Op.floatArith,h]
theorem ZAv(n:Int):ConvIs Tryz.prog 218 49 (.int .i8 n) (.float .f64 (FloatKind.f64.nearest n)):=λw=>by
 simp[convert,Tryz.underlying218,Tryz.underlying49,Conv.intToFloat]
theorem Zzl:∀n:Fin 256,(FloatKind.f64.format.div (FloatKind.f64.nearest (IntKind.i8.wrap (n:Nat))) 4616189618054758400).isSome=true:=by decide +kernel
structure SmE (m:Mem)(a:Option Addr)(l:List (Nat×Nat×Nat)):Prop where
 len:l.length<=9223372036854775807
 byte:∀s∈l,s.1 < 256/\s.2.1 < 256/\s.2.2 < 18446744073709551616
 at':∀i s,l[i]?=some s->∃b o,a=some ⟨b,o,none⟩/\m.reads b (o+i*3) [.int .u8 s.1,.int .u8 s.2.1,.int .u64 s.2.2]
theorem SmE.mono{m m':Mem}{a l}(h:SmE m a l)(hm:m.le m'):SmE m' a l:=
 ⟨h.len,h.byte,λi s hi=>by obtain⟨b,o,h1,h2⟩:=h.at' i s hi;exact⟨b,o,h1,h2.mono hm⟩⟩
theorem ZsO:Zi4 Zyz=true:=by decide +kernel
set_option maxHeartbeats 2000000 in
theorem Zvl(l:List (Nat×Nat×Nat))(a:Option Addr)(c:Nat)(m:Mem)(hl:SmE m a l)(hc:l.length<=c):CX Tryz.prog 128 #[.slice a l.length c] m [] (ER (MkE 9 (2*l.length+1))):=by
 apply Zjz
 have aH:=hl.len
 intro b
 have hN:(if(60:Int) < (l.length:Int)then(60:Int)else(l.length:Int))=((min 60 l.length:Nat):Int):=by split <;> omega
 simp only[hN,zA8,Nat.sub_zero]
 generalize qT:min 60 l.length=N
 refine⟨⟨by omega,by omega⟩,λxs css tvs m' q=>∃(i:Nat)(ts:List E)(a:Option Addr)(c:Nat)(mb:Mem),i<=N/\xs=[.slice a ts.length c,.int .i64 i]/\tvs=[.slice a ts.length c]/\ts.length<=c/\m.le mb/\mb.le m'/\Apart mb a/\rowRd m' a (ts.map E.cs).flatten/\(∀t∈ts,RepE mb t)/\PE ts i/\q=N - i,⟨N,0,[],none,0,m,by omega,rfl,rfl,by simp,Mem.le_refl _,Mem.le_refl _,.inl rfl,.inl rfl,by simp,PE.zero,by omega⟩,?_⟩
 rintro a1 n1 c1 z1 a2 n2 c2 m1 q _ ⟨i,ts,a',c',mb,hi,cK,cH,cS,eS,dD,dY,aB,aO,hP,hq⟩
 simp only[List.cons.injEq,Value.slice.injEq,Value.int.injEq,true_and,and_true]at cK cH
 obtain⟨⟨rfl,rfl,rfl⟩,rfl⟩:=cK
 obtain⟨rfl,rfl,rfl⟩:=cH
 have hO:ts.length<=60:=by have:=hP.sz;have:=Zd2 ts;omega
 refine Zab (λaC=>?_) (λbL=>?_)
 ·have qU:i < N:=by have:=zA6 aC;omega
  obtain⟨s,hs⟩:=Zaq (l:=l) (k:=i) (by omega)
  obtain⟨bs,os,ha,cG⟩:=(hl.mono (mLt eS dD)).at' i s hs
  obtain⟨s1,s2,s3⟩:=s
  obtain⟨pF,js,lZ⟩:=hl.byte _ (zA2 hs)
  have hw:IntKind.i64.wrap ((i:Int)+1)=((i+1:Nat):Int):=by rw[Zak (by omega) (by omega)];rfl
  have nG:Int.tmod (s1:Int) 12=((s1 % 12:Nat):Int):=rfl
  simp only[hw,zA8]
  refine⟨bs,os,ha,⟨by omega,by omega⟩,_,_,_,cG,λb2=>Zaa rfl ⟨_,rfl,by omega,?_⟩⟩
  simp only[nG]
  refine ZaG (λh1=>?_) (λh1=>ZaG (λh2=>?_) (λh2=>Zab (λh3=>?_) (λh3=>?_)))
  ·have hd:=Zzl ⟨s2,js⟩
   obtain⟨r,hr⟩:=Option.isSome_iff_exists.1 hd
   have hr:FloatKind.f64.format.div (FloatKind.f64.nearest (IntKind.i8.wrap (s2:Nat))) 4616189618054758400=some r:=hr
   refine⟨_,rfl,_,ZAv _,_,Zt6 _ hr,λxs _ _ m'=>(∃x,xs=[.float .f64 x])/\m1.le m',⟨_,rfl,Zab (λ_=>⟨_,rfl,_,Zq1 s3,trivial,trivial,⟨_,rfl⟩,Mem.le_refl _⟩) (λ_=>⟨trivial,trivial,⟨_,rfl⟩,Mem.le_refl _⟩)⟩,?_⟩
   rintro v m2 _ ⟨⟨x,hx⟩,aK⟩
   obtain rfl:v=.float .f64 x:=by simpa using hx
   refine⟨λxs _ _ m'=>(∃y,xs=[.float .f64 y]/\Zi4 y=true)/\m1.le m',⟨_,Zxt _ x x,Zab (λh=>?_) (λh=>⟨trivial,trivial,⟨x,rfl,?_⟩,aK⟩)⟩,?_⟩
   ·refine⟨_,trivial,Zxv m2,λ_ _ _ _=>trivial,?_⟩
    intro u m3 aQ hu
    exact⟨trivial,trivial,⟨Zyz,by rw[show u=_ from hu],ZsO⟩,mLt aK aQ⟩
   ·unfold Zi4
    rw[show Op.floatEq .f64 x x=true by simpa using h];rfl
   rintro v m3 _ ⟨⟨y,hy,fE⟩,aQ⟩
   obtain rfl:v=.float .f64 y:=by simpa using hy
   refine Zan (Zt5 y m3) ZfP (ZyE λt m4 bZ hr ht b3 gA=>?_)
   subst ht
   have im:=mLt aQ bZ
   have ew:=Mem.le_add gA (ZzP y).cs
   refine Zcr E.len E.one gA (ZzP y) (aB.mono im) 64 (by omega) (by omega) (.inl trivial) λa5 c5 m5 cO bP aR=>⟨trivial,N - (i+1),by omega,i+1,ts++[ZzP y],a5,c5,mb,by omega,by rw[zA1];rfl,by rw[zA1];rfl,by rw[zA1];exact aR.1,eS,mLt dD (mLt im (mLt ew cO)),dY.tok (mLt dD (mLt im ew)) aR,bP,?_,hP.push (ZtF fE),by omega⟩
   intro z hz
   rcases List.mem_append.1 hz with hz|hz
   ·exact aO z hz
   ·rw[List.mem_singleton]at hz;subst hz;exact Zd7 (by omega) (by rw[ZaL];omega) (by omega)
  ·refine⟨λ_ vs _=>match vs with
    | [.string s]=>ER (λe=>e=Zye s)
    | _=>Zxw Zix,_,rfl,ZsN m1,ZcT,?_⟩
   rintro a3 n3 c3 m2 aK ⟨a3',c3',hv,eX⟩
   simp only[Value.slice.injEq]at hv
   obtain⟨rfl,rfl,rfl⟩:=hv
   obtain⟨nm,uT⟩:=Zaq (l:=Zix) (k:=s2 % 4) (Nat.mod_lt _ (by omega))
   have pG:=zA2 uT
   have bE:nm.size<=1000000000000000:=Nat.le_trans (ZjF nm pG) (by omega)
   obtain⟨b3,o3,fu,j5⟩:=ZcS eX uT
   have uU:Int.tmod (s2:Int) 4=((s2 % 4:Nat):Int):=rfl
   have h4:s2 % 4 < 4:=Nat.mod_lt _ (by omega)
   refine⟨_,rfl,by omega,b3,o3,fu,by rw[uU];exact⟨by omega,by show((s2 % 4:Nat):Int) < (4:Nat);omega⟩,_,by rw[uU,zA8];exact j5,nm,rfl,_,rfl,Zvk nm bE m2,ZfP,ZyE λt m3 aQ hr ht b4 fM=>?_⟩
   subst ht
   have im:=mLt aK aQ
   have ew:=Mem.le_add fM (Zye nm).cs
   refine Zcr E.len E.one fM (Zye nm) (aB.mono im) 64 (by omega) (by omega) (.inl trivial) λa5 c5 m5 cO bP aR M _ _ _ _ hM=>⟨trivial,N - (i+1),by omega,i+1,ts++[Zye nm],a5,c5,mb,by omega,by rw[zA1];rfl,by rw[zA1];rfl,by rw[zA1];exact aR.1,eS,mLt dD (mLt im (mLt ew (mLt cO hM))),dY.tok (mLt dD (mLt im ew)) aR,bP.mono hM,?_,hP.push (ZtI pG),by omega⟩
   intro z hz
   rcases List.mem_append.1 hz with hz|hz
   ·exact aO z hz
   ·rw[List.mem_singleton]at hz;subst hz;exact Zd7 (by omega) bE (by omega)
  ·refine⟨_,rfl,by omega,λb3 gA=>?_⟩
   have sT:Int.tmod (s2:Int) 10=((s2 % 10:Nat):Int):=rfl
   have gP:s2 % 10 < 10:=Nat.mod_lt _ (by omega)
   have wW:IntKind.i64.wrap (Int.tmod (s2:Int) 10)=((s2 % 10:Nat):Int):=by rw[sT,Zak (by omega) (by omega)]
   simp only[wW]
   have ew:=Mem.le_add gA (ZAm ((s2 % 10:Nat):Int)).cs
   refine Zcr E.len E.one gA (ZAm ((s2 % 10:Nat):Int)) aB 64 (by omega) (by omega) (.inl trivial) λa5 c5 m5 cO bP aR=>⟨trivial,N - (i+1),by omega,i+1,ts++[ZAm ((s2 % 10:Nat):Int)],a5,c5,mb,by omega,by rw[zA1];rfl,by rw[zA1];rfl,by rw[zA1];exact aR.1,eS,mLt dD (mLt ew cO),dY.tok (mLt dD ew) aR,bP,?_,hP.push (ZwM (by omega) (by omega)),by omega⟩
   intro z hz
   rcases List.mem_append.1 hz with hz|hz
   ·exact aO z hz
   ·rw[List.mem_singleton]at hz;subst hz;exact Zd7 (by omega) (by rw[ZaL];omega) (by omega)
  ·refine⟨decide (s1 % 12=5)&&decide (0 < ts.length),Zab (λh=>⟨trivial,trivial,Zap ?_⟩) (λh=>⟨trivial,trivial,Zap ?_⟩),Zab (λhb=>?_) (λhb=>?_)⟩
   ·have:s1 % 12=5:=by have:=h;simp at this;omega
    rw[this,Bool.eq_iff_iff];simp
   ·have:¬s1 % 12=5:=by have:=h;simp at this;omega
    rw[decide_eq_false this];rfl
   ·have iD:0 < ts.length:=by rw[zA7,decide_eq_true_iff,decide_eq_true_iff]at hb;exact hb.2
    obtain⟨r,x,rfl⟩:=Zzk iD
    have fB:(r++[x]).length=r.length+1:=by simp
    have gM:IntKind.i64.wrap (((r++[x]).length:Int) - 1)=(r.length:Int):=by rw[fB,Zak (by omega) (by omega)];omega
    obtain⟨bb,iJ,fW,o',u',hu'⟩:=dY.rbase E.len (by omega) aB (by simp)
    subst iJ
    obtain⟨bx,ox,iK,ie⟩:=Zai E.len aB (k:=r.length) (t:=x) (by simp) (by omega)
    cases iK
    simp only[gM,zA8]
    refine⟨_,_,rfl,⟨by omega,by omega⟩,_,ie 0 _ rfl,_,rfl,Zab (λh8=>?_) (λh8=>⟨trivial,N - (i+1),by omega,i+1,r++[x],_,_,mb,by omega,rfl,rfl,cS,eS,dD,dY,aB,aO,hP.skip,by omega⟩)⟩
    have sU:x.k≠8:=by simpa using h8
    refine⟨_,_,rfl,⟨by omega,by omega⟩,_,_,_,_,_,ie,Zan ((Zxx x mb (aO x (by simp))).frame2 dD) (Zq5 (mb:=mb) (M0:=m1)) (ZAT λt m0 m3 aQ h0 gI bK fC ht=>?_)⟩
    obtain⟨at',ct,rfl⟩:=ht
    have eP:m0.free bb:=λo=>by rw[bK bb o' u' hu' o];exact fW o
    refine⟨bb,0,rfl,⟨by omega,by omega⟩,Zaa rfl ⟨rfl,by omega,trivial,N - (i+1),by omega,i+1,r++[Zyf at' ct x],_,_,m0,by omega,?_,?_,by rw[zA1];rw[fB]at cS;exact cS,mLt eS h0,Mem.le_upd gI eP _ _,.inr ⟨bb,rfl,eP⟩,Zvj E.len (aB.mono aQ) (by omega),?_,hP.neg sU _ _,by omega⟩⟩
    ·rw[fB,zA1];rfl
    ·rw[fB,zA1];rfl
    ·intro z hz
     rcases List.mem_append.1 hz with hz|hz
     ·exact(aO z (by simp[hz])).mono' h0
     ·rw[List.mem_singleton]at hz;subst hz;exact fC
   ·refine⟨decide (5 < s1 % 12)&&decide (1 < ts.length),ZaG (λh=>⟨trivial,trivial,Zap ?_⟩) (λh=>⟨trivial,trivial,Zap ?_⟩),Zab (λgk=>?_) (λgk=>⟨trivial,N - (i+1),by omega,i+1,ts,_,_,mb,by omega,rfl,rfl,cS,eS,dD,dY,aB,aO,hP.skip,by omega⟩)⟩
    ·rw[decide_eq_true (show 5 < s1 % 12 by omega),Bool.true_and,decide_eq_decide];omega
    ·rw[decide_eq_false (show ¬5 < s1 % 12 by omega)];rfl
    obtain⟨h5,wX⟩:5 < s1 % 12/\1 < ts.length:=by rw[zA7,decide_eq_true_iff,decide_eq_true_iff]at gk;exact gk
    have qO:s1 % 12 < 12:=Nat.mod_lt _ (by omega)
    obtain⟨r,x,y,rfl⟩:=Zzj wX
    have fB:(r++[x,y]).length=r.length+2:=by simp
    have gv:IntKind.i64.wrap (((r++[x,y]).length:Int) - 2)=(r.length:Int):=by rw[fB,Zak (by omega) (by omega)];omega
    have gM:IntKind.i64.wrap (((r++[x,y]).length:Int) - 1)=((r.length+1:Nat):Int):=by rw[fB,Zak (by omega) (by omega)];omega
    have hk:IntKind.u8.wrap (((s1 % 12:Nat):Int) - 4)=((s1 % 12 - 4:Nat):Int):=by
     generalize s1 % 12=k at h5 qO
     have:k=6\/k=7\/k=8\/k=9\/k=10\/k=11:=by omega
     rcases this with rfl|rfl|rfl|rfl|rfl|rfl <;> rfl
    have fl:2<=((s1 % 12 - 4:Nat):Int)/\((s1 % 12 - 4:Nat):Int)<=7:=by omega
    generalize ((s1 % 12 - 4:Nat):Int)=kk at hk fl
    simp only[gv,gM,hk,zA8,Nat.sub_zero]
    obtain⟨bb,iJ,fW,o',u',hu'⟩:=dY.rbase E.len (by omega) aB (by simp)
    obtain⟨bx,ox,iK,ie⟩:=Zai E.len aB (k:=r.length) (t:=x) (by simp) (by omega)
    obtain⟨by',oy,pH,pI⟩:=Zai E.len aB (k:=r.length+1) (t:=y) (by simp) (by omega)
    refine⟨λ_ _ _=>EF mb m1 (λe=>∃a d,e=opE kk a d x y),⟨by omega,by omega⟩,⟨by omega,by omega⟩,bx,ox,iK,⟨by omega,by omega⟩,_,_,_,_,_,ie,by',oy,pH,⟨by omega,by omega⟩,_,_,_,_,_,pI,_,rfl,(Zxy kk x y (by omega) mb (aO x (by simp)) (aO y (by simp))).frame2 dD,Zq5,ZAT λt m0 m3 aQ h0 gI bK fC ht b6 gR=>?_⟩
    obtain⟨at',ct,rfl⟩:=ht
    have fX:=Mem.le_add gR (opE kk at' ct x y).cs
    have eP:Apart m0 _:=.inr ⟨bb,iJ,λo=>by rw[bK bb o' u' hu' o];exact fW o⟩
    refine Zcr E.len E.one gR (opE kk at' ct x y) ((Zvi aB).mono aQ) 64 (by omega) (by omega) (.inr (.inr (by omega))) λa4 c4 m4 bZ dE aR M _ fy _ gJ=>⟨trivial,N - (i+1),by omega,i+1,r++[opE kk at' ct x y],a4,c4,m0,by omega,?_,?_,by have:=aR.1;rw[zA1];exact this,mLt eS h0,mLt gI fy,eP.tok (mLt gI fX) aR,dE.mono gJ,?_,hP.op fl _ _,by omega⟩
    ·rw[zA1];rfl
    ·rw[zA1];rfl
    ·intro z hz
     rcases List.mem_append.1 hz with hz|hz
     ·exact(aO z (by simp[hz])).mono' h0
     ·rw[List.mem_singleton]at hz;subst hz;exact fC
 ·have qU:i=N:=by have:=of_decide_eq_false bL;omega
  have aE:=mLt eS dD
  refine Zab (λh0=>?_) (λh0=>?_)
  ·refine Zan (Zt5 _ m1) ZfP (ZyE λt m2 aK hr ht=>Zaa rfl (ZaH (mLt aE aK) ⟨t,rfl,hr,?_⟩))
   rw[ht];exact(ZtF (by decide +kernel)).mono (by omega)
  ·obtain⟨t0,rest,rfl⟩:∃t r,ts=t::r:=by cases ts with
    | nil=>simp at h0
    | cons t r=>exact⟨t,r,rfl⟩
   have hF:=QE.start hP
   obtain⟨bb,iJ,fW,o',u',hu'⟩:=dY.rbase E.len (by omega) aB (by simp)
   subst iJ
   obtain⟨bx,ox,iK,ie⟩:=Zai E.len aB (k:=0) (t:=t0) rfl (by omega)
   cases iK
   rw[List.length_cons]at hO cS
   refine⟨_,_,rfl,⟨by omega,by simp⟩,_,_,_,_,_,ie,λb2=>Zaa rfl ⟨⟨by omega,by rw[List.length_cons];omega⟩,?_⟩⟩
   refine⟨λxs css tvs m' q=>∃(k:Nat)(t:E),k<=rest.length/\xs=[.int .i64 k]/\css=[t.cs]/\m1.le m'/\RepE m' t/\QE t (rest.drop k) (2*i)/\q=rest.length - k,⟨rest.length,0,t0,by omega,rfl,rfl,Mem.le_refl _,(aO t0 (by simp)).mono' dD,hF,by omega⟩,?_⟩
   rintro z cs m2 q2 _ ⟨k,t,hk,hz,bN,aK,fC,kP,lP⟩
   obtain rfl:z=k:=by simpa using hz
   obtain rfl:cs=t.cs:=by simpa using bN
   have lq:((t0::rest).length - Int.toNat 1)=rest.length:=by simp
   simp only[lq]
   refine Zab (λaC=>?_) (λdX=>Zaa rfl (ZaH (mLt aE aK) ⟨t,rfl,fC,?_⟩))
   ·have aI:k < rest.length:=by have:=zA6 aC;omega
    obtain⟨x,hx⟩:=Zaq aI
    obtain⟨b3,o3,fu,kM⟩:=Zai E.len (aB.mono aK) (k:=k+1) (t:=x) (by simpa using hx) (by omega)
    cases fu
    have fK:IntKind.i64.wrap ((k:Int)+1)=((k+1:Nat):Int):=by rw[Zak (by omega) (by omega)];rfl
    simp only[fK,zA8]
    rw[Zqe hx]at kP
    have ig:Za6 (some (⟨bb,0,none⟩:Addr)) (Int.toNat 1) c2 5=some ⟨bb,0+5,none⟩:=by
     unfold Za6
     have:Nat.beq c2 1=false:=by
      cases hb:Nat.beq c2 1 with
      | false=>rfl
      | true=>have:=Nat.eq_of_beq_eq_true hb;omega
     show(bif Nat.beq c2 1 then _ else some (Addr.add _ (1*5)))=_
     rw[this,ZbJ];rfl
    refine⟨_,_,ig,⟨by omega,by omega⟩,_,_,_,_,_,by rw[show 0+5+k*5=0+(k+1)*5 by omega];exact kM,λb4=>Zaa rfl (Zan (Zxy 2 t x (by omega) m2 fC ((aO x (by simp[zA2 hx])).mono' (mLt dD aK))) ZfP (ZyE λt' m3 aQ hr' ht'=>Zaa rfl ⟨trivial,trivial,rest.length - (k+1),by omega,k+1,t',by omega,rfl,rfl,mLt aK aQ,hr',?_,by omega⟩))⟩
    obtain⟨a3,c3,rfl⟩:=ht'
    exact kP.step _ _
   ·have:k=rest.length:=by have:=of_decide_eq_false dX;omega
    rw[this,List.drop_length]at kP
    exact kP.done.mono (by omega)
end Go.Proofs.YtpjepnkiiojgfaaGreat
end
