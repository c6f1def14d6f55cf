/- Part of the proof: functions of the program. No condition. -/
import Derived.Test.YtojlhhphofhaoaaGreatDoorPEnv
set_option linter.unusedVariables false
set_option linter.unusedSimpArgs false
set_option linter.unusedSectionVars false
namespace Go.Proofs.YtojlhhphofhaoaaGreatDoor
open Go Go.Eng Go.Proofs Go.RowKit
open Go.Value (int slice agg bool string tuple func)
open Go.IntKind (u8 u64 i64)
set_option maxRecDepth 100000
noncomputable def ZqA:Env:={ EB with
 exv:=(λi=>bif Nat.beq i 1 then true else false) }
theorem Zpd  (m:Mem)(R:RT)(h:
 ∃(v:Value),ZnC Tryz.prog 124 [int u64 9221120237041090561] v/\∃(m'':Mem),m.le m''/\m''.le m/\R v m'' []):CX Tryz.prog 125 #[] m [] R:=
 Zad (E:=ZqA) Zak mix Tryz.func125 [] [] (by kernel_rfl) (Eq.mp (by kernel_rfl) h)
noncomputable def Zpe:Env:=EB
theorem Zm6(p0:Value)(m:Mem)(R:RT)(h:
 ∀(b:Nat),chk (Nat.beq (List.length (Array.toList (Value.cells p0))) 1&&true) (chk (Nat.beq (List.length (List.append (Array.toList (Value.cells p0)) (List.drop (1+List.length (Array.toList (Value.cells p0)))
 [int u8 8,Value.float .f64 0,string bE0,int i64 0,slice none 0 0]))) (nat_lit 4)&&Zdv (List.append (Array.toList (Value.cells p0)) (List.drop (1+List.length (Array.toList
 (Value.cells p0))) [int u8 8,Value.float .f64 0,string bE0,int i64 0,slice none 0 0]))) (∃(m'':Mem),m.le m''/\m''.le m/\R (agg (Array.mk (ZaG [int u8 8,Value.float
 FloatKind.f64 0,string bE0,int i64 0,slice none 0 0] 1 (Array.toList (Value.cells p0))))) m'' []))):CX Tryz.prog 126 #[p0] m [] R:=
 Zad (E:=Zpe) Zak mix Tryz.func126 [.v (p0)] [] (by kernel_rfl) (Eq.mp (by kernel_rfl) h)
noncomputable def Zm7:Env:=EB
theorem ZkV(p0:ByteArray)(m:Mem)(R:RT)(h:
 ∀(b:Nat),∃(m'':Mem),m.le m''/\m''.le m/\R (agg (Array.mk [int u8 9,Value.float .f64 0,string p0,int i64 0,slice none 0 0])) m'' []):CX Tryz.prog 127 #[.string p0] m [] R:=
 Zad (E:=Zm7) Zak mix Tryz.func127 [.v (.string p0)] [] (by kernel_rfl) (Eq.mp (by kernel_rfl) h)
noncomputable def ZkW:Env:=EB
theorem ZiU  (m:Mem)(R:RT)(h:
 ∀(b:Nat),m.free b->∃(m'':Mem),m.le m''/\Mem.le m'' (m.add b [string (ByteArray.mk (Array.mk [120])),string (ByteArray.mk (Array.mk [121])),string (ByteArray.mk (Array.mk [122,95,49])),string (ByteArray.mk (Array.mk [97,98,99,100,101,102,103,104,105,106,
 107,108,109,110,111,112]))])/\R (slice (some (Addr.mk b 0 none)) 4 4) m'' []):CX Tryz.prog 128 #[] m [] R:=
 Zad (E:=ZkW) Zak mix Tryz.func128 [] [] (by kernel_rfl) (Eq.mp (by kernel_rfl) h)
noncomputable def Zpf:Env:={ EB with
 frzNew:=[1] }
theorem Zm8(aA:Int)(aB:Value)(aC:ByteArray)(aD:Int)(aT:Option Addr)(aS aU:Nat)(m:Mem)(R:RT)(h:
 ∀(b:Nat)(m':Mem),m.le m'->m'.reads b 0 [int u8 aA,aB,string aC,int i64 aD,slice aT aS aU]->∀(b b:Nat),m'.free b->∃(m'':Mem),m.le m''/\Mem.le m'' (m'.add b [int
 u8 aA,aB,string aC,int i64 aD,slice aT aS aU])/\R (agg (Array.mk [int u8 1,Value.float .f64 0,string bE0,int i64 0,slice (some (Addr.mk b 0 none)) 1 1])) m''
 []):CX Tryz.prog 129 #[.agg #[.int .u8 aA,aB,.string aC,.int .i64 aD,.slice aT aS aU]] m [] R:=
 Zad (E:=Zpf) Zak mix Tryz.func129 [.v (.agg #[.int .u8 aA,aB,.string aC,.int .i64 aD,.slice aT aS aU])] [] (by kernel_rfl) (Eq.mp (by kernel_rfl) h)
noncomputable def ZqB:Env:={ EB with
 frzNew:=[4,5] }
theorem Zpg(p0 aW:Int)(aX:Value)(aY:ByteArray)(aZ:Int)(bD:Option Addr)(bC bE:Nat)(cR:Int)(cM:Value)(cS:ByteArray)(cN:Int)(jp:Option Addr)(jq jr:Nat)(m:Mem)(R:RT)(h:
 ∀(b:Nat)(m':Mem),m.le m'->m'.reads b 0 [int u8 aW,aX,string aY,int i64 aZ,slice bD bC bE]->∀(b:Nat)(m'_1:Mem),m'.le m'_1->m'_1.reads b 0 [int u8 cR,cM,string
 cS,int i64 cN,slice jp jq jr]->∀(b b:Nat),m'_1.free b->∃(m'':Mem),m.le m''/\Mem.le m'' (m'_1.add b [int u8 aW,aX,string aY,int i64 aZ,slice bD bC bE,int u8
 cR,cM,string cS,int i64 cN,slice jp jq jr])/\R (agg (Array.mk [int u8 p0,Value.float .f64 0,string bE0,int i64 0,slice (some (Addr.mk b 0 none)) 2 2])) m'' []):CX Tryz.prog 130 #[.int .u8 p0,.agg #[.int .u8 aW,aX,.string aY,.int .i64 aZ,.slice bD bC bE],.agg #[.int .u8 cR,cM,.string cS,.int .i64 cN,.slice jp jq jr]] m [] R:=
 Zad (E:=ZqB) Zak mix Tryz.func130 [.v (.int .u8 p0),.v (.agg #[.int .u8 aW,aX,.string aY,.int .i64 aZ,.slice bD bC bE]),.v (.agg #[.int .u8 cR,cM,.string cS,.int .i64 cN,.slice jp jq jr])] [] (by kernel_rfl) (Eq.mp (by kernel_rfl) h)
noncomputable def Zm9:Env:={ EB with
 loops:=(λi=>bif Nat.beq i 3 then⟨[(3,.slice),(18,.int .i64)],[],[(49,5)],false⟩ else bif Nat.beq i 28 then⟨[(137,.int .i64)],[9],[],false⟩ else⟨[],[],[],false⟩)
 joins:=(λi=>bif Nat.beq i 18 then some [(74,.bool)]else bif Nat.beq i 21 then some [(98,.bool)]else none)
 dr:=(λi=>bif Nat.beq i 15 then[⟨0,[],[],none,[],[]⟩,⟨1,[],[],none,[],[]⟩,⟨2,[5],[],none,[],[]⟩,⟨3,[5],[],none,[2],[]⟩,⟨4,[],[],none,[2,3],[]⟩,⟨5,[],[],none,[1,2,3,4],[]⟩,⟨6,[],[],none,[1,2,3,4,5],[1]⟩,⟨7,[],[],none,[1,2,3,4,5,6],[1]⟩,⟨8,[61],[61],none,[1,2,3,4,5,6,7],[7]⟩,⟨9,[61],[],some 49,[0,1,2,3,4,5,6,7,8],[8]⟩,⟨10,[],[],none,[0,1,2,3,4,5,6,7,8,9],[]⟩]else bif Nat.beq i 22 then[⟨0,[],[],none,[],[]⟩,⟨1,[],[],none,[],[]⟩,⟨2,[],[],none,[1],[]⟩,⟨3,[],[],none,[],[]⟩,⟨4,[],[],none,[3],[]⟩,⟨5,[],[],none,[0,1,2,3,4],[]⟩,⟨6,[],[],none,[],[]⟩,⟨7,[],[],none,[6],[]⟩,⟨8,[],[],none,[],[]⟩,⟨9,[],[],none,[],[]⟩,⟨10,[],[],none,[9],[]⟩,⟨11,[],[],none,[8,9,10],[]⟩,⟨12,[],[],none,[8,9,10,11],[]⟩,⟨13,[],[],none,[],[]⟩,⟨14,[],[],none,[],[]⟩,⟨15,[],[],none,[14],[]⟩,⟨16,[],[],none,[13,14,15],[]⟩,⟨17,[],[],none,[13,14,15,16],[]⟩,⟨18,[],[],none,rg 6 12,[]⟩,⟨19,[124],[124],none,rg 6 13,[18]⟩,⟨20,[124],[],some 49,rg 0 20,[19]⟩,⟨21,[],[],none,rg 0 21,[]⟩]else[])
 tokOf:=(λi=>bif Nat.beq i 49 then 49 else bif Nat.beq i 62 then 49 else bif Nat.beq i 73 then 49 else bif Nat.beq i 125 then 49 else 0)
 exv:=(λi=>bif Nat.beq i 40 then true else false)
 thaw:=true
 stAt:=(λi=>bif Nat.beq i 97 then some 49 else none)
 cuts:=(λi=>bif Nat.beq i 11 then some ⟨[(8,.any)],[],[],false⟩ else bif Nat.beq i 13 then some ⟨[(8,.any)],[],[],false⟩ else none)
 ldF:=(λi=>bif Nat.beq i 25 then some (.int .u8)else bif Nat.beq i 31 then some (.int .u8)else bif Nat.beq i 56 then some (.int .u8)else bif Nat.beq i 68 then some (.int .u8)else bif Nat.beq i 36 then some (.int .u64)else bif Nat.beq i 39 then some (.int .u64)else bif Nat.beq i 59 then some (.str)else bif Nat.beq i 86 then some (.int .u8)else none) }
theorem ZkX(p0a:Option Addr)(p0n p0c:Nat)(m:Mem)(R:RT)(h:
 ∀(b:Nat),(((0:Int)<=if(60:Int) < (↑p0n:Int)then(60:Int)else(↑p0n:Int))/\(if(60:Int) < (↑p0n:Int)then(60:Int)else(↑p0n:Int))<=(↑p0c:Int))/\∃(I:IT),(∃(n:Nat),I [slice none 0
 0,int i64 0] [] [slice none 0 0] m n)/\∀(a:Option Addr)(n c:Nat)(av:Int)(ad:Option Addr)(ab ac:Nat)(m':Mem)(ay:Nat),True->I [slice a n c,int i64 av] [] [slice ad ab ac] m' ay->br (decide (av <
 (↑(Int.toNat (if(60:Int) < (↑p0n:Int)then(60:Int)else(↑p0n:Int)) - 0):Int))) (∃(a6:Nat),∃(o:Nat),ZaU p0a 0 p0c 3=some (Addr.mk a6 o none)/\Zaf av (Int.toNat (if(60:Int) < (↑p0n:Int)
 then(60:Int)else(↑p0n:Int)) - 0)/\∃v ag ai:Value,m'.reads a6 (o+Int.toNat av*3) [v,ag,ai]/\∀(ak:Nat),chk (v.oneCell'&&(ag.oneCell'&&(ai.oneCell'&&true))) (∃(am:Int),v=int u8 am/\(12:Int)≠(0:Int)/\br (decide (Int.tmod am (12:Int) < (2:Int))) (∃(ae:Int),ag=int u8 ae/\∃(u:Value),ConvIs Tryz.prog 205 87 (int IntKind.i8 (IntKind.wrap
 IntKind.i8 ae)) u/\∃(ap:Value),BinIs Tryz.prog BinOp.quo 87 u (Value.float .f64 4616189618054758400) ap/\∃(J:JT),(∃(n:Int),ai=int u64 n/\br (!n == (0:Int)) (∃(n:Int),ai=int u64 n/\∃
 (al:Value),ZnC Tryz.prog 124 [int u64 n] al/\[some (Box.mk ak [v,ag,ai] 204 3 false true),some (Box.mk b [int u8 0,Value.float .f64 0,string bE0,int i64 0,slice none 0 0]
 133 5 false true)]=[some (Box.mk ak [v,ag,ai] 204 3 false true),some (Box.mk b [int u8 0,Value.float .f64 0,string bE0,int i64 0,slice none 0 0] 133 5 false true)]/\[some
 (Tok.mk (slice ad ab ac) 5)]=[some (Tok.mk (slice ad ab ac) 5)]/\J [al] [] [] m') ([some (Box.mk ak [v,ag,ai] 204 3 false true),some (Box.mk b [int u8 0,Value.float .f64 0,string bE0,int i64 0,slice none 0 0] 133 5 false true)]=[some (Box.mk ak [v,ag,ai] 204 3 false true),some (Box.mk b [int u8 0,Value.float .f64 0,string bE0,int i64 0,slice none 0
 0] 133 5 false true)]/\[some (Tok.mk (slice ad ab ac) 5)]=[some (Tok.mk (slice ad ab ac) 5)]/\J [ap] [] [] m'))/\∀(al:Value)(m':Mem),True->J [al] [] [] m'->∃(J:JT),(∃(af:Bool),BinIs Tryz.prog
 BinOp.neq 87 al al (bool af)/\br af (∃(R:RT),True/\CX Tryz.prog 125 (Array.mk []) m' [] R/\(∀(v:Value)(m':Mem) (css:List (List Value)),R v m' css->true=true)/\∀(aq:Value)(aa:Mem),m'.le aa
 -> R aq aa []->[some (Box.mk ak [v,ag,ai] 204 3 false true),some (Box.mk b [int u8 0,Value.float .f64 0,string bE0,int i64 0,slice none 0 0] 133 5 false true)]=[some (Box.mk ak
 [v,ag,ai] 204 3 false true),some (Box.mk b [int u8 0,Value.float .f64 0,string bE0,int i64 0,slice none 0 0] 133 5 false true)]/\[some (Tok.mk (slice ad ab ac) 5)]=[some
 (Tok.mk (slice ad ab ac) 5)]/\J [aq] [] [] aa) ([some (Box.mk ak [v,ag,ai] 204 3 false true),some (Box.mk b [int u8 0,Value.float .f64 0,string bE0,int i64 0,slice none 0 0] 133
 5 false true)]=[some (Box.mk ak [v,ag,ai] 204 3 false true),some (Box.mk b [int u8 0,Value.float .f64 0,string bE0,int i64 0,slice none 0 0] 133 5 false true)]/\[some (Tok.mk
 (slice ad ab ac) 5)]=[some (Tok.mk (slice ad ab ac) 5)]/\J [al] [] [] m'))/\∀(v:Value)(m':Mem),True->J [v] [] [] m'->∃(R:RT),True/\CX Tryz.prog 126 (Array.mk [v]) m' [] R/\Zap (Shape.agg [Shape.int
 u8,Shape.any,Shape.str,Shape.int i64,Shape.slice]) R/\∀(aj:Int)(v:Value)(s:ByteArray)(ah:Int)(a7:Option Addr)(an aw:Nat)(aa:Mem),m'.le aa->R (agg (Array.mk [int u8 aj,v,string s,int
 i64 ah,slice a7 an aw])) aa []->∀(af:Nat),aa.free af->(Tok.mk (slice ad ab ac) 5=Tok.mk (slice a n c) 5\/slice a n c=slice none 0 0\/c < n+1)/\∃(xs:List Value),∃(ys:List Value),xs.length
 = n*5/\ys.length=1*5/\rowRd (aa.add af [int u8 aj,v,string s,int i64 ah,slice a7 an aw]) a xs/\rowRd (aa.add af [int u8 aj,v,string s,int i64 ah,slice a7 an aw]) (some (Addr.mk af 0 none))
 ys/\(∀(u:Value),u∈ys->u.oneCell'=true)/\(n+1)*64<=140737488355328/\n+1<=9223372036854775807/\∀(a':Option Addr)(c':Nat)(m':Mem),Mem.le (aa.add af [int u8 aj,v,string s,int i64
 ah,slice a7 an aw]) m'->rowRd m' a' (List.append xs ys)->TokFact (aa.add af [int u8 aj,v,string s,int i64 ah,slice a7 an aw]) a a' (n+1) c'->[some (Box.mk b [int u8 0,Value.float .f64 0,string
 bE0,int i64 0,slice none 0 0] 133 5 false true)]=[some (Box.mk b [int u8 0,Value.float .f64 0,string bE0,int i64 0,slice none 0 0] 133 5 false true)]/\
 ∃(n':Nat),n' < ay/\I [slice a' (n+1) c',int i64 (i64.wrap (av+(1:Int)))] [] [slice a' (n+1) c'] m' n') (br (decide (Int.tmod am (12:Int) < (4:Int))) (∃(f:Fx),∃(R:RT),R=f 1 [] m'/\CX
 Tryz.prog 128 (Array.mk []) m' [] R/\Zap Shape.slice R/\∀(au:Option Addr)(ae aw:Nat)(aa:Mem),m'.le aa->R (slice au ae aw) aa []->∃(aj:Int),ag=int u8 aj/\(4:Int)≠(0:Int)/\∃(af:Nat),∃
 (o:Nat),au=some (Addr.mk af o none)/\Zaf (Int.tmod aj (4:Int)) ae/\∃(v:Value),aa af (o+Int.toNat (Int.tmod aj (4:Int))*1)=some v/\∃(s:ByteArray),v=string s/\∃(R:RT),R=f 7 [string
 s] aa/\CX Tryz.prog 127 (Array.mk [string s]) aa [] R/\Zap (Shape.agg [Shape.int u8,Shape.any,Shape.str,Shape.int i64,Shape.slice]) R/\∀(ah:Int)(v:Value)(s:ByteArray)(an:Int)(a2:Option Addr) (a3
 a4:Nat) (ar:Mem),aa.le ar->R (agg (Array.mk [int u8 ah,v,string s,int i64 an,slice a2 a3 a4])) ar []->∀(ao:Nat),ar.free ao->(Tok.mk (slice ad ab ac) 5=Tok.mk (slice a n c) 5\/slice a n c =
 slice none 0 0\/c < n+1)/\∃(xs:List Value),∃(ys:List Value),xs.length=n*5/\ys.length=1*5/\rowRd (ar.add ao [int u8 ah,v,string s,int i64 an,slice a2 a3 a4]) a xs/\rowRd (ar.add ao [int u8 ah,v,string s,int i64 an,slice a2 a3 a4]) (some (Addr.mk ao 0 none)) ys/\(∀(u:Value),u∈ys->u.oneCell'=true)/\(n+1)*64<=140737488355328/\n+1<=9223372036854775807/\∀(a':
 Option Addr) (c':Nat) (a9:Mem),Mem.le (ar.add ao [int u8 ah,v,string s,int i64 an,slice a2 a3 a4]) a9->rowRd a9 a' (List.append xs ys)->TokFact (ar.add ao [int u8 ah,v,string s,int i64 an,slice a2
 a3 a4]) a a' (n+1) c'->∀(M:Mem),m'.le M->aa.le M->ar.le M->Mem.le (ar.add ao [int u8 ah,v,string s,int i64 an,slice a2 a3 a4]) M->a9.le M->[some (Box.mk b [int u8 0,Value.float
 FloatKind.f64 0,string bE0,int i64 0,slice none 0 0] 133 5 false true)]=[some (Box.mk b [int u8 0,Value.float .f64 0,string bE0,int i64 0,slice none 0
 0] 133 5 false true)]/\∃(n':Nat),n' < ay/\I [slice a' (n+1) c',int i64 (i64.wrap (av+(1:Int)))] [] [slice a' (n+1) c'] M n') (br (Int.tmod am (12:Int) == (4:Int)) (∃(ae:Int),ag=int u8 ae
 /\ (10:Int)≠(0:Int)/\∀(af:Nat),m'.free af->(Tok.mk (slice ad ab ac) 5=Tok.mk (slice a n c) 5\/slice a n c=slice none 0 0\/c < n+1)/\∃(xs:List Value),∃(ys:List Value),xs.length=n *
 5/\ys.length=1*5/\rowRd (m'.add af [int u8 10,Value.float .f64 0,string bE0,int i64 (i64.wrap (Int.tmod ae (10:Int))),slice none 0 0]) a xs/\rowRd (m'.add af [int u8 10,Value.float .f64 0,string bE0,int i64 (i64.wrap (Int.tmod ae (10:Int))),slice none 0 0]) (some (Addr.mk af 0 none)) ys/\(∀(u:Value),u∈ys->
 u.oneCell'=true)/\(n+1)*64<=140737488355328/\n+1<=9223372036854775807/\∀(a':Option Addr)(c':Nat)(aa:Mem),Mem.le (m'.add af [int u8 10,Value.float .f64 0,string bE0,int i64 (i64.wrap (Int.tmod ae (10:Int))),slice none 0 0]) aa->rowRd aa a' (List.append xs ys)->TokFact (m'.add af [int u8 10,Value.float .f64 0,string bE0,int i64 (i64.wrap (Int.tmod ae (10:Int))),slice none 0 0]) a a' (n+1) c'->[some (Box.mk b [int u8 0,Value.float .f64 0,string bE0,int i64 0,slice none 0 0] 133 5
 false true)]=[some (Box.mk b [int u8 0,Value.float .f64 0,string bE0,int i64 0,slice none 0 0] 133 5 false true)]/\∃(n':Nat),n' < ay/\I [slice a' (n+1) c',int i64
 (i64.wrap (av+(1:Int)))] [] [slice a' (n+1) c'] aa n') (∃(af:Bool),br (Int.tmod am (12:Int) == (5:Int)) ([some (Box.mk ak [v,ag,ai] 204 3 false true),some (Box.mk b [int u8 0,Value.float
 FloatKind.f64 0,string bE0,int i64 0,slice none 0 0] 133 5 false true)]=[some (Box.mk ak [v,ag,ai] 204 3 false true),some (Box.mk b [int u8 0,Value.float .f64 0,string
 bE0,int i64 0,slice none 0 0] 133 5 false true)]/\[some (Tok.mk (slice ad ab ac) 5)]=[some (Tok.mk (slice ad ab ac) 5)]/\[bool (decide ((↑n:Int) > (0:Int)))]=[bool af]) ([some
 (Box.mk ak [v,ag,ai] 204 3 false true),some (Box.mk b [int u8 0,Value.float .f64 0,string bE0,int i64 0,slice none 0 0] 133 5 false true)]=[some (Box.mk ak [v,ag,ai] 204 3
 false true),some (Box.mk b [int u8 0,Value.float .f64 0,string bE0,int i64 0,slice none 0 0] 133 5 false true)]/\[some (Tok.mk (slice ad ab ac) 5)]=[some (Tok.mk (slice ad ab
 ac) 5)]/\[bool false]=[bool af])/\br af (∃(ao:Nat),∃(o:Nat),a=some (Addr.mk ao o none)/\Zaf (i64.wrap ((↑n:Int) - (1:Int))) n/\∃(v:Value),m' ao (o+Int.toNat (i64.wrap ((↑n:
 Int) - (1:Int)))*5+0)=some v/\∃(ae:Int),v=int u8 ae/\br (!ae == (8:Int)) (∃(a8:Nat),∃(o:Nat),a=some (Addr.mk a8 o none)/\Zaf (i64.wrap ((↑n:Int) - (1:Int))) n/\∃v ap al aq ax:Value,m'.reads a8 (o+Int.toNat (i64.wrap ((↑n:Int) - (1:Int)))*5) [v,ap,al,aq,ax]/\∃(R:RT),True/\CX Tryz.prog 129 (Array.mk
 [agg (Array.mk [v,ap,al,aq,ax])]) m' [] R/\Zap (Shape.agg [Shape.int u8,Shape.any,Shape.str,Shape.int i64,Shape.slice]) R/\∀(aj:Int)(v:Value)(s:ByteArray)(ah:Int)(au:Option Addr)(an aw:Nat)
 (aa:Mem),m'.le aa->R (agg (Array.mk [int u8 aj,v,string s,int i64 ah,slice au an aw])) aa []->∃(a5:Nat),∃(o:Nat),a=some (Addr.mk a5 o none)/\Zaf (i64.wrap ((↑n:Int) - (1:Int))) n
 /\ chk (v.oneCell'&&true) (slice ad ab ac=slice (some (Addr.mk a5 0 none)) ab ac/\o+Int.toNat (i64.wrap ((↑n:Int) - (1:Int)))*5+5<=ab*5/\[some (Box.mk b [int u8 0,Value.float
 FloatKind.f64 0,string bE0,int i64 0,slice none 0 0] 133 5 false true)]=[some (Box.mk b [int u8 0,Value.float .f64 0,string bE0,int i64 0,slice none 0
 0] 133 5 false true)]/\∃(n':Nat),n' < ay/\I [slice a n c,int i64 (i64.wrap (av+(1:Int)))] [] [slice ad ab ac] (Mem.upd aa a5 (o+Int.toNat (i64.wrap ((↑n:Int) - (1:Int)))*5) [int u8 aj,
 v,string s,int i64 ah,slice au an aw]) n')) ([some (Box.mk b [int u8 0,Value.float .f64 0,string bE0,int i64 0,slice none 0 0] 133 5 false true)]=[some (Box.mk b [int u8 0,
 Value.float .f64 0,string bE0,int i64 0,slice none 0 0] 133 5 false true)]/\∃(n':Nat),n' < ay/\I [slice a n c,int i64 (i64.wrap (av+(1:Int)))] [] [slice ad ab ac]
 m' n')) (∃(ao:Bool),br (decide (Int.tmod am (12:Int) > (5:Int))) ([some (Box.mk ak [v,ag,ai] 204 3 false true),some (Box.mk b [int u8 0,Value.float .f64 0,string bE0,int
 i64 0,slice none 0 0] 133 5 false true)]=[some (Box.mk ak [v,ag,ai] 204 3 false true),some (Box.mk b [int u8 0,Value.float .f64 0,string bE0,int i64 0,slice none 0 0] 133 5
 false true)]/\[some (Tok.mk (slice ad ab ac) 5)]=[some (Tok.mk (slice ad ab ac) 5)]/\[bool (decide ((↑n:Int) > (1:Int)))]=[bool ao]) ([some (Box.mk ak [v,ag,ai] 204 3 false true),some (Box.mk b [int u8 0,
 Value.float .f64 0,string bE0,int i64 0,slice none 0 0] 133 5 false true)]=[some (Box.mk ak [v,ag,ai] 204 3 false true),some (Box.mk b [int u8 0,Value.float .f64 0,
 string bE0,int i64 0,slice none 0 0] 133 5 false true)]/\[some (Tok.mk (slice ad ab ac) 5)]=[some (Tok.mk (slice ad ab ac) 5)]/\[bool false]=[bool ao])/\br ao (∃(f:Fx),((0:Int) <=
 i64.wrap ((↑n:Int) - (2:Int))/\i64.wrap ((↑n:Int) - (2:Int))<=(↑c:Int))/\((0:Int)<=i64.wrap ((↑n:Int) - (2:Int))/\i64.wrap ((↑n:Int) - (2:Int))<=(↑(Int.toNat
 (i64.wrap ((↑n:Int) - (2:Int)))):Int))/\∃(a8:Nat),∃(o:Nat),a=some (Addr.mk a8 o none)/\Zaf (i64.wrap ((↑n:Int) - (2:Int))) n/\∃v ap al aq ax:Value,m'.reads a8 (o+Int.toNat (i64.wrap ((↑n:Int) - (2:Int)))*5) [v,ap,al,aq,ax]/\∃(a5:Nat),∃(o:Nat),a=some (Addr.mk a5 o none)/\Zaf (i64.wrap
 ((↑n:Int) - (1:Int))) n/\∃az a0 ba bb bc:Value,m'.reads a5 (o+Int.toNat (i64.wrap ((↑n:Int) - (1:Int)))*5) [az,a0,ba,bb,bc]/\∃(R:
 RT),R=f 18 [int u8 (u8.wrap (Int.tmod am (12:Int) - (4:Int))),agg (Array.mk [v,ap,al,aq,ax]),agg (Array.mk [az,a0,ba,bb,bc])] m'/\CX Tryz.prog 130 (Array.mk [int u8 (u8.wrap (Int.tmod
 am (12:Int) - (4:Int))),agg (Array.mk [v,ap,al,aq,ax]),agg (Array.mk [az,a0,ba,bb,bc])]) m' [] R/\Zap (Shape.agg [Shape.int u8,Shape.any,Shape.str,Shape.int i64,Shape.slice]) R/\∀(ae:Int) (v:
 Value) (s:ByteArray) (aj:Int) (au:Option Addr) (ah c:Nat) (aa:Mem),m'.le aa->R (agg (Array.mk [int u8 ae,v,string s,int i64 aj,slice au ah c])) aa []->∀(a1:Nat),aa.free a1->(Tok.mk (slice
 ad ab ac) 5=Tok.mk (slice (ZaU a 0 (Int.toNat (i64.wrap ((↑n:Int) - (2:Int)))) 5) (Int.toNat (i64.wrap ((↑n:Int) - (2:Int))) - 0) (Int.toNat (i64.wrap ((↑n:Int) - (2:Int))) - 0))
 5\/slice (ZaU a 0 (Int.toNat (i64.wrap ((↑n:Int) - (2:Int)))) 5) (Int.toNat (i64.wrap ((↑n:Int) - (2:Int))) - 0) (Int.toNat (i64.wrap ((↑n:Int) - (2:Int))) - 0)=slice none 0 0\/
 Int.toNat (i64.wrap ((↑n:Int) - (2:Int))) - 0 < Int.toNat (i64.wrap ((↑n:Int) - (2:Int))) - 0+1)/\∃(xs:List Value),∃(ys:List Value),xs.length=(Int.toNat (i64.wrap ((↑n:
 Int) - (2:Int))) - 0)*5/\ys.length=1*5/\rowRd (aa.add a1 [int u8 ae,v,string s,int i64 aj,slice au ah c]) (ZaU a 0 (Int.toNat (i64.wrap ((↑n:Int) - (2:Int)))) 5) xs/\rowRd (aa.add a1 [int u8 ae,v,string s,int i64 aj,slice au ah c]) (some (Addr.mk a1 0 none)) ys/\(∀(u:Value),u∈ys->u.oneCell'=true)/\(Int.toNat (i64.wrap ((↑n:Int) - (2:Int))) - 0+1)*64 <=
 140737488355328/\Int.toNat (i64.wrap ((↑n:Int) - (2:Int))) - 0+1<=9223372036854775807/\∀(a':Option Addr)(c':Nat)(ar:Mem),Mem.le (aa.add a1 [int u8 ae,v,string s,int i64 aj,slice au ah
 c]) ar->rowRd ar a' (List.append xs ys)->TokFact (aa.add a1 [int u8 ae,v,string s,int i64 aj,slice au ah c]) (ZaU a 0 (Int.toNat (i64.wrap ((↑n:Int) - (2:Int)))) 5) a' (Int.toNat (i64.wrap ((↑n:Int) - (2:Int))) - 0+1) c'->∀(M:Mem),m'.le M->aa.le M->Mem.le (aa.add a1 [int u8 ae,v,string s,int i64 aj,slice au ah c]) M->ar.le M->[some (Box.mk b [int u8 0,Value.float
 FloatKind.f64 0,string bE0,int i64 0,slice none 0 0] 133 5 false true)]=[some (Box.mk b [int u8 0,Value.float .f64 0,string bE0,int i64 0,slice none 0
 0] 133 5 false true)]/\∃(n':Nat),n' < ay/\I [slice a' (Int.toNat (i64.wrap ((↑n:Int) - (2:Int))) - 0+1) c',int i64 (i64.wrap (av+(1:Int)))] [] [slice a' (Int.toNat (i64.wrap ((↑n
 : Int) - (2:Int))) - 0+1) c'] M n') ([some (Box.mk b [int u8 0,Value.float .f64 0,string bE0,int i64 0,slice none 0 0] 133 5 false true)]=[some (Box.mk b [int u8 0,
 Value.float .f64 0,string bE0,int i64 0,slice none 0 0] 133 5 false true)]/\∃(n':Nat),n' < ay/\I [slice a n c,int i64 (i64.wrap (av+(1:Int)))] [] [slice ad ab ac]
 m' n'))))))) (br ((↑n:Int) == (0:Int)) (∃(R_1:RT),True/\CX Tryz.prog 126 (Array.mk [Value.float .f64 4607182418800017408]) m' [] R_1/\Zap (Shape.agg [Shape.int u8,Shape.any,Shape.str,Shape.int
 i64,Shape.slice]) R_1/\∀(n:Int)(v:Value)(s:ByteArray)(am:Int)(a:Option Addr)(ae c:Nat)(aa:Mem),m'.le aa->R_1 (agg (Array.mk [int u8 n,v,string s,int i64 am,slice a ae c])) aa []->chk
 (v.oneCell'&&true) (∃(m'':Mem),m.le m''/\m''.le aa/\R (agg (Array.mk [int u8 n,v,string s,int i64 am,slice a ae c])) m'' [])) (∃(a6:Nat),∃(o:Nat),a=some (Addr.mk a6 o none)/\Zaf
 (0:Int) n/\∃v ag ai ap al:Value,m'.reads a6 (o+0) [v,ag,ai,ap,al]/\∀(ak:Nat),chk (v.oneCell'&&(ag.oneCell'&&(ai.oneCell'
 && (ap.oneCell'&&(al.oneCell'&&true))))) (((0:Int)<=(1:Int)/\(1:Int)<=(↑n:Int))/\∃(I:IT),(∃(n:Nat),I [int i64 0] [[v,ag,ai,ap,al]] [] m' n)/\∀(am:Int)(cs:List Value) (m':
 Mem) (ae:Nat),True->I [int i64 am] [cs] [] m' ae->br (decide (am < (↑(n - Int.toNat (1:Int)):Int))) (∃(af:Nat),∃(o:Nat),ZaU a (Int.toNat (1:Int)) c 5=some (Addr.mk af o none)/\Zaf am (n -
 Int.toNat (1:Int))/\∃v aq ax az a0:Value,m'.reads af (o+Int.toNat am*5) [v,aq,ax,az,a0]/\∀(ao:Nat),chk (v.oneCell'&&(aq.oneCell'&&(ax.oneCell'&&(az.oneCell'&&(a0.oneCell'&&true))))) (∃(R:RT),True/\CX Tryz.prog 130 (Array.mk [int u8 2,agg (Array.mk cs),agg (Array.mk [v,aq,ax,az,a0])]) m' [] R/\Zap
 (Shape.agg [Shape.int u8,Shape.any,Shape.str,Shape.int i64,Shape.slice]) R/\∀(n:Int)(v:Value)(s:ByteArray)(aj:Int)(a:Option Addr)(ah c:Nat)(aa:Mem),m'.le aa->R (agg (Array.mk [int u8 n,
 v,string s,int i64 aj,slice a ah c])) aa []->chk (v.oneCell'&&true) ([some (Box.mk ak [] 133 5 false true),some (Box.mk b [int u8 0,Value.float .f64 0,string bE0,int i64
 0,slice none 0 0] 133 5 false true)]=[some (Box.mk ak [] 133 5 false true),some (Box.mk b [int u8 0,Value.float .f64 0,string bE0,int i64 0,slice none 0 0] 133 5 false true)]/\
 [some (Tok.mk (slice ad ab ac) 5)]=[some (Tok.mk (slice ad ab ac) 5)]/\∃(n':Nat),n' < ae/\I [int i64 (i64.wrap (am+(1:Int)))] [[int u8 n,v,string s,int i64 aj,slice a ah c]] [] aa n'))) (chk
 (Nat.beq (cs.length) 5&&Zdv cs) (∃(m'':Mem),m.le m''/\m''.le m'/\R (agg (Array.mk cs)) m'' [])))))):CX Tryz.prog 105 #[.slice p0a p0n p0c] m [] R:=
 Zad (E:=Zm9) Zak mix Tryz.func105 [.v (.slice p0a p0n p0c)] [] (by kernel_rfl) (Eq.mp (by kernel_rfl) h)
noncomputable def ZkY:Env:={ EB with
 frzNew:=[1] }
theorem ZiV(aA aB aC aD aR aM aQ:Int)(aO:Option Addr)(aN aP:Nat)(m:Mem)(R:RT)(h:
 ∀(b:Nat)(m':Mem),m.le m'->m'.reads b 0 [int u8 aA,int u64 aB,int u64 aC,int u64 aD,int u64 aR,int i64 aM,int i64 aQ,slice aO aN aP]->∀(b b:Nat),m'.free b->∃(m'':
 Mem),m.le m''/\Mem.le m'' (m'.add b [int u8 aA,int u64 aB,int u64 aC,int u64 aD,int u64 aR,int i64 aM,int i64 aQ,slice aO aN aP])/\R (agg (Array.mk [int u8 6,int u64 0,int u64
 0,int u64 0,int u64 0,int i64 0,int i64 0,slice (some (Addr.mk b 0 none)) 1 1])) m'' []):CX Tryz.prog 102 #[.agg #[.int .u8 aA,.int .u64 aB,.int .u64 aC,.int .u64 aD,.int .u64 aR,.int .i64 aM,.int .i64 aQ,.slice aO aN aP]] m [] R:=
 Zad (E:=ZkY) Zak mix Tryz.func102 [.v (.agg #[.int .u8 aA,.int .u64 aB,.int .u64 aC,.int .u64 aD,.int .u64 aR,.int .i64 aM,.int .i64 aQ,.slice aO aN aP])] [] (by kernel_rfl) (Eq.mp (by kernel_rfl) h)
noncomputable def Zph:Env:={ EB with
 frzNew:=[3] }
theorem Zna(aA aB aC aD aR aM aQ:Int)(aO:Option Addr)(aN aP:Nat)(p1 p2:Int)(m:Mem)(R:RT)(h:
 ∀(b:Nat)(m':Mem),m.le m'->m'.reads b 0 [int u8 aA,int u64 aB,int u64 aC,int u64 aD,int u64 aR,int i64 aM,int i64 aQ,slice aO aN aP]->∀(b b:Nat),m'.free b->∃(m'':
 Mem),m.le m''/\Mem.le m'' (m'.add b [int u8 aA,int u64 aB,int u64 aC,int u64 aD,int u64 aR,int i64 aM,int i64 aQ,slice aO aN aP])/\R (agg (Array.mk [int u8 5,int u64 0,int u64
 0,int u64 0,int u64 0,int i64 p1,int i64 p2,slice (some (Addr.mk b 0 none)) 1 1])) m'' []):CX Tryz.prog 103 #[.agg #[.int .u8 aA,.int .u64 aB,.int .u64 aC,.int .u64 aD,.int .u64 aR,.int .i64 aM,.int .i64 aQ,.slice aO aN aP],.int .i64 p1,.int .i64 p2] m [] R:=
 Zad (E:=Zph) Zak mix Tryz.func103 [.v (.agg #[.int .u8 aA,.int .u64 aB,.int .u64 aC,.int .u64 aD,.int .u64 aR,.int .i64 aM,.int .i64 aQ,.slice aO aN aP]),.v (.int .i64 p1),.v (.int .i64 p2)] [] (by kernel_rfl) (Eq.mp (by kernel_rfl) h)
noncomputable def ZhC:Env:=EB
theorem Zgu(p0:Int)(m:Mem)(R:RT)(h:
 ∀(b:Nat),m.free b->(12:Int)≠(0:Int)/\Zaf (Int.tmod p0 (12:Int)) 12/\Eng.Ztt [string (ByteArray.mk (Array.mk [97])),string (ByteArray.mk (Array.mk [98])),string (ByteArray.mk
 (Array.mk [97,98])),string (ByteArray.mk (Array.mk [97])),string (ByteArray.mk (Array.mk [98])),string (ByteArray.mk (Array.mk [99])),string (ByteArray.mk (Array.mk
 [97,98,99])),string (ByteArray.mk (Array.mk [98,99])),string (ByteArray.mk (Array.mk [10])),string (ByteArray.mk (Array.mk [0,255])),string (ByteArray.mk (Array.mk [97])),string (ByteArray.mk (Array.mk [98]))] (Int.toNat (Int.tmod p0 (12:Int))*1) λ(v:Value)=>∃(m'':Mem),m.le m''/\Mem.le m'' (m.add b [string (ByteArray.mk (Array.mk [97])),string (ByteArray.mk (Array.mk [98])),string (ByteArray.mk (Array.mk [97,98])),string (ByteArray.mk (Array.mk [97])),
 string (ByteArray.mk (Array.mk [98])),string (ByteArray.mk (Array.mk [99])),string (ByteArray.mk (Array.mk [97,98,99])),string (ByteArray.mk (Array.mk [98,99])),string (ByteArray.mk (Array.mk [10])),string (ByteArray.mk (Array.mk [0,255])),string (ByteArray.mk (Array.mk [97])),string (ByteArray.mk (Array.mk
 [98]))])/\R v m'' []):CX Tryz.prog 100 #[.int .u8 p0] m [] R:=
 Zad (E:=ZhC) Zak mix Tryz.func100 [.v (.int .u8 p0)] [] (by kernel_rfl) (Eq.mp (by kernel_rfl) h)
noncomputable def ZkZ:Env:={ EB with
 loops:=(λi=>bif Nat.beq i 3 then⟨[(7,.int .i64)],[3],[],false⟩ else⟨[],[],[],false⟩)
 dr:=(λi=>bif Nat.beq i 5 then[⟨0,[],[],none,[],[]⟩,⟨1,[],[],none,[],[]⟩,⟨2,[],[],none,[0,1],[]⟩,⟨3,[],[],none,[0,1,2],[]⟩,⟨4,[3],[],none,[0,1,2,3],[]⟩,⟨5,[3],[],none,[0,1,2,3,4],[]⟩,⟨6,[],[],none,[],[]⟩,⟨7,[],[],none,[],[]⟩,⟨8,[],[],none,[6,7],[]⟩,⟨9,[],[],none,[6,7,8],[]⟩,⟨10,[],[],none,[6,7,8,9],[]⟩,⟨11,[],[],none,[0,1,2,3,4,5,6,7,8,9,10],[]⟩,⟨12,[3],[],none,rg 0 12,[]⟩,⟨13,[3],[3],none,rg 0 13,[]⟩]else[]) }
theorem ZiW(p0:ByteArray)(m:Mem)(R:RT)(h:
 ∀(b b_1:Nat),∃(I:IT),(∃(n:Nat),I [int i64 0] [[int u64 0,int u64 0,int u64 0,int u64 0]] [] m n)/\∀(n:Int)(cs:List Value)(m':Mem)(n_1:Nat),m.le m'->I [int i64 n] [cs] [] m' n_1->br
 (decide (n < (↑(ByteArray.size p0):Int))) (Zaf n (ByteArray.size p0)/\(64:Int)≠(0:Int)/\Zaf (u8.wrap (Int.tdiv (ZcX p0 (Int.toNat n)) (64:Int))) 4/\Eng.Ztt cs (0+Int.toNat (u8.wrap (Int.tdiv (ZcX p0 (Int.toNat n)) (64:Int)))*1) λ(v:Value)=>Zaf n (ByteArray.size p0)/\(64:Int)≠(0:Int)/\(0:Int)<=Int.tmod (ZcX p0 (Int.toNat n)) (64:Int)/\chk (ZaP u64 v&&decide
 (u64=u64)) (Zaf (u8.wrap (Int.tdiv (ZcX p0 (Int.toNat n)) (64:Int))) 4/\chk (Nat.ble (0+Int.toNat (u8.wrap (Int.tdiv (ZcX p0 (Int.toNat n)) (64:Int)))*1+1) (cs.length)) ([some
 (Box.mk b_1 [] 49 4 false true),some (Box.mk b [int u8 0,int u64 0,int u64 0,int u64 0,int u64 0,int i64 0,int i64 0,slice none 0 0] 52 8 false true)]=[some (Box.mk b_1 [] 49 4 false true),some (Box.mk b [int
 u8 0,int u64 0,int u64 0,int u64 0,int u64 0,int i64 0,int i64 0,slice none 0 0] 52 8 false true)]/\∃(n':Nat),n' < n_1/\I [int i64 (i64.wrap (n+(1:Int)))] [ZaG cs (0+Int.toNat (u8.wrap (Int.tdiv (ZcX p0 (Int.toNat n)) (64:Int)))*1) [int u64 (u64.wrap (↑(BitVec.toNat (BitVec.ofInt 64 (intOf v)|||BitVec.ofInt 64 (u64.wrap ((1:Int)*(2:Int) ^ min (Int.toNat
 (Int.tmod (ZcX p0 (Int.toNat n)) (64:Int))) 64)))):Int))]] [] m' n'))) (chk (Nat.beq (cs.length) 4&&true) (chk (Nat.beq (List.length (List.append cs (List.drop (1+cs.length) [int u8 2,int u64 0,int
 u64 0,int u64 0,int u64 0,int i64 0,int i64 0,slice none 0 0]))) (nat_lit 7)&&Zdv (List.append cs (List.drop (1+cs.length) [int u8 2,int u64 0,int u64 0,int u64 0,int u64 0,int i64 0,int i64 0,
 slice none 0 0]))) (∃(m'':Mem),m.le m''/\m''.le m'/\R (agg (Array.mk (ZaG [int u8 2,int u64 0,int u64 0,int u64 0,int u64 0,int i64 0,int i64 0,slice none 0 0] 1 cs))) m'' [])))):CX Tryz.prog 99 #[.string p0] m [] R:=
 Zad (E:=ZkZ) Zak mix Tryz.func99 [.v (.string p0)] [] (by kernel_rfl) (Eq.mp (by kernel_rfl) h)
noncomputable def Zk0:Env:={ EB with
 loops:=(λi=>bif Nat.beq i 3 then⟨[(7,.slice),(14,.int .i64)],[],[(30,8)],false⟩ else⟨[],[],[],false⟩)
 joins:=(λi=>bif Nat.beq i 8 then some [(31,.bool)]else none)
 tokOf:=(λi=>bif Nat.beq i 21 then 30 else bif Nat.beq i 30 then 30 else 0)
 frzNew:=[4,5] }
theorem ZiX(p0 aW aX aY aZ bZ cA cB:Int)(bM:Option Addr)(bN bO:Nat)(cR cM cS cN cU cY cZ:Int)(cG:Option Addr)(cH cI:Nat)(m:Mem)(R:RT)(h:
 ∀(b:Nat)(m':Mem),m.le m'->m'.reads b 0 [int u8 aW,int u64 aX,int u64 aY,int u64 aZ,int u64 bZ,int i64 cA,int i64 cB,slice bM bN bO]->∀(ac:Nat)(ai:Mem),m'.le ai->
 ai.reads ac 0 [int u8 cR,int u64 cM,int u64 cS,int u64 cN,int u64 cU,int i64 cY,int i64 cZ,slice cG cH cI]->∀(ad ab:Nat),ai.free ab->∃(I:IT),(∃(n:Nat),I [slice none 0
 0,int i64 0] [] [slice none 0 0] (ai.add ab [int u8 aW,int u64 aX,int u64 aY,int u64 aZ,int u64 bZ,int i64 cA,int i64 cB,slice bM bN bO,int u8 cR,int u64 cM,int u64 cS,int
 u64 cN,int u64 cU,int i64 cY,int i64 cZ,slice cG cH cI]) n)/\∀(a:Option Addr)(n c:Nat)(aa:Int)(ae:Option Addr)(af ag:Nat)(m':Mem)(ak:Nat),Mem.le (ai.add ab [int u8 aW,
 int u64 aX,int u64 aY,int u64 aZ,int u64 bZ,int i64 cA,int i64 cB,slice bM bN bO,int u8 cR,int u64 cM,int u64 cS,int u64 cN,int u64 cU,int i64 cY,int i64 cZ,slice cG
 cH cI]) m'->I [slice a n c,int i64 aa] [] [slice ae af ag] m' ak->br (decide (aa < (↑(2:Nat):Int))) (Zaf aa 2/\chk (Nat.ble (Int.toNat aa*8) (1+1+1+1+1+1+1+1)) (∀(al:Nat),chk
 (Nat.beq (List.length (List.take 8 (List.drop (Int.toNat aa*8) [int u8 aW,int u64 aX,int u64 aY,int u64 aZ,int u64 bZ,int i64 cA,int i64 cB,slice bM bN bO,int u8 cR,int u64 cM,int
 u64 cS,int u64 cN,int u64 cU,int i64 cY,int i64 cZ,slice cG cH cI]))) 8&&Zdv (List.take 8 (List.drop (Int.toNat aa*8) [int u8 aW,int u64 aX,int u64 aY,int u64 aZ,int u64 bZ,
 int i64 cA,int i64 cB,slice bM bN bO,int u8 cR,int u64 cM,int u64 cS,int u64 cN,int u64 cU,int i64 cY,int i64 cZ,slice cG cH cI]))) (Eng.Ztt (List.take 8 (List.drop
 (Int.toNat aa*8) [int u8 aW,int u64 aX,int u64 aY,int u64 aZ,int u64 bZ,int i64 cA,int i64 cB,slice bM bN bO,int u8 cR,int u64 cM,int u64 cS,int u64 cN,int u64 cU,int i64
 cY,int i64 cZ,slice cG cH cI])) 0 λ(v:Value)=>chk (ZaP u8 v&&decide (u8=u8)) (br (intOf v == p0) (Eng.Ztt (List.take 8 (List.drop (Int.toNat aa*8) [int u8 aW,int u64 aX,int
 u64 aY,int u64 aZ,int u64 bZ,int i64 cA,int i64 cB,slice bM bN bO,int u8 cR,int u64 cM,int u64 cS,int u64 cN,int u64 cU,int i64 cY,int i64 cZ,slice cG cH cI])) 7
 λ(v:Value)=>chk (Zbi v&&true) ((Tok.mk (slice ae af ag) 8=Tok.mk (slice a n c) 8\/slice a n c=slice none 0 0\/c < n+slN v)/\∃(xs:List Value),∃(ys:List Value),xs.length=n*8/\
 ys.length=slN v*8/\rowRd m' a xs/\rowRd m' (slA v) ys/\(∀(u:Value),u∈ys->u.oneCell'=true)/\(n+slN v)*80<=140737488355328/\n+slN v<=9223372036854775807/\∀(a':Option Addr) (c':
 Nat) (ah:Mem),m'.le ah->rowRd ah a' (List.append xs ys)->[some (Box.mk ab [int u8 aW,int u64 aX,int u64 aY,int u64 aZ,int u64 bZ,int i64 cA,int i64 cB,slice bM bN bO,int u8 cR,
 int u64 cM,int u64 cS,int u64 cN,int u64 cU,int i64 cY,int i64 cZ,slice cG cH cI] 52 16 true true),some (Box.mk ad [int u8 0,int u64 0,int u64 0,int u64 0,int u64 0,int i64 0,int i64 0,
 slice none 0 0] 52 8 false true),some (Box.mk ac [int u8 cR,int u64 cM,int u64 cS,int u64 cN,int u64 cU,int i64 cY,int i64 cZ,slice cG cH cI] 52 8 true true),some (Box.mk b [int u8 aW,
 int u64 aX,int u64 aY,int u64 aZ,int u64 bZ,int i64 cA,int i64 cB,slice bM bN bO] 52 8 true true)]=[some (Box.mk ab [int u8 aW,int u64 aX,int u64 aY,int u64 aZ,int u64 bZ,int
 i64 cA,int i64 cB,slice bM bN bO,int u8 cR,int u64 cM,int u64 cS,int u64 cN,int u64 cU,int i64 cY,int i64 cZ,slice cG cH cI] 52 16 true true),some (Box.mk ad [int u8 0,int
 u64 0,int u64 0,int u64 0,int u64 0,int i64 0,int i64 0,slice none 0 0] 52 8 false true),some (Box.mk ac [int u8 cR,int u64 cM,int u64 cS,int u64 cN,int u64 cU,int i64 cY,int i64 cZ,slice
 cG cH cI] 52 8 true true),some (Box.mk b [int u8 aW,int u64 aX,int u64 aY,int u64 aZ,int u64 bZ,int i64 cA,int i64 cB,slice bM bN bO] 52 8 true true)]/\∃(n':Nat),n' < ak/\I
 [slice a' (n+slN v) c',int i64 (i64.wrap (aa+(1:Int)))] [] [slice a' (n+slN v) c'] ah n')) (∃(am:Bool),br (p0 == (3:Int)) (Eng.Ztt (List.take 8 (List.drop (Int.toNat aa*8) [int u8 aW,int u64
 aX,int u64 aY,int u64 aZ,int u64 bZ,int i64 cA,int i64 cB,slice bM bN bO,int u8 cR,int u64 cM,int u64 cS,int u64 cN,int u64 cU,int i64 cY,int i64 cZ,slice cG cH
 cI])) 0 λ(v:Value)=>chk (ZaP u8 v&&decide (u8=u8)) ([some (Box.mk al (List.take 8 (List.drop (Int.toNat aa*8) [int u8 aW,int u64 aX,int u64 aY,int u64 aZ,int u64 bZ,int i64 cA,int i64
 cB,slice bM bN bO,int u8 cR,int u64 cM,int u64 cS,int u64 cN,int u64 cU,int i64 cY,int i64 cZ,slice cG cH cI])) 52 8 false true),some (Box.mk ab [int u8 aW,int u64 aX,
 int u64 aY,int u64 aZ,int u64 bZ,int i64 cA,int i64 cB,slice bM bN bO,int u8 cR,int u64 cM,int u64 cS,int u64 cN,int u64 cU,int i64 cY,int i64 cZ,slice cG cH cI] 52
 16 true true),some (Box.mk ad [int u8 0,int u64 0,int u64 0,int u64 0,int u64 0,int i64 0,int i64 0,slice none 0 0] 52 8 false true),some (Box.mk ac [int u8 cR,int u64 cM,int u64 cS,int u64 cN,int
 u64 cU,int i64 cY,int i64 cZ,slice cG cH cI] 52 8 true true),some (Box.mk b [int u8 aW,int u64 aX,int u64 aY,int u64 aZ,int u64 bZ,int i64 cA,int i64 cB,slice bM bN bO]
 52 8 true true)]=[some (Box.mk al (List.take 8 (List.drop (Int.toNat aa*8) [int u8 aW,int u64 aX,int u64 aY,int u64 aZ,int u64 bZ,int i64 cA,int i64 cB,slice bM bN bO,int u8 cR,int
 u64 cM,int u64 cS,int u64 cN,int u64 cU,int i64 cY,int i64 cZ,slice cG cH cI])) 52 8 false true),some (Box.mk ab [int u8 aW,int u64 aX,int u64 aY,int u64 aZ,int u64 bZ,int i64
 cA,int i64 cB,slice bM bN bO,int u8 cR,int u64 cM,int u64 cS,int u64 cN,int u64 cU,int i64 cY,int i64 cZ,slice cG cH cI] 52 16 true true),some (Box.mk ad [int u8 0,int u64
 0,int u64 0,int u64 0,int u64 0,int i64 0,int i64 0,slice none 0 0] 52 8 false true),some (Box.mk ac [int u8 cR,int u64 cM,int u64 cS,int u64 cN,int u64 cU,int i64 cY,int i64 cZ,slice cG
 cH cI] 52 8 true true),some (Box.mk b [int u8 aW,int u64 aX,int u64 aY,int u64 aZ,int u64 bZ,int i64 cA,int i64 cB,slice bM bN bO] 52 8 true true)]/\[some (Tok.mk (slice ae af ag)
 8)]=[some (Tok.mk (slice ae af ag) 8)]/\[bool (intOf v == (1:Int))]=[bool am])) ([some (Box.mk al (List.take 8 (List.drop (Int.toNat aa*8) [int u8 aW,int u64 aX,int u64 aY,int u64 aZ,int u64
 bZ,int i64 cA,int i64 cB,slice bM bN bO,int u8 cR,int u64 cM,int u64 cS,int u64 cN,int u64 cU,int i64 cY,int i64 cZ,slice cG cH cI])) 52 8 false true),some (Box.mk ab
 [int u8 aW,int u64 aX,int u64 aY,int u64 aZ,int u64 bZ,int i64 cA,int i64 cB,slice bM bN bO,int u8 cR,int u64 cM,int u64 cS,int u64 cN,int u64 cU,int i64 cY,int i64 cZ,
 slice cG cH cI] 52 16 true true),some (Box.mk ad [int u8 0,int u64 0,int u64 0,int u64 0,int u64 0,int i64 0,int i64 0,slice none 0 0] 52 8 false true),some (Box.mk ac [int u8 cR,int u64 cM,int
 u64 cS,int u64 cN,int u64 cU,int i64 cY,int i64 cZ,slice cG cH cI] 52 8 true true),some (Box.mk b [int u8 aW,int u64 aX,int u64 aY,int u64 aZ,int u64 bZ,int i64 cA,int i64
 cB,slice bM bN bO] 52 8 true true)]=[some (Box.mk al (List.take 8 (List.drop (Int.toNat aa*8) [int u8 aW,int u64 aX,int u64 aY,int u64 aZ,int u64 bZ,int i64 cA,int i64 cB,slice bM
 bN bO,int u8 cR,int u64 cM,int u64 cS,int u64 cN,int u64 cU,int i64 cY,int i64 cZ,slice cG cH cI])) 52 8 false true),some (Box.mk ab [int u8 aW,int u64 aX,int u64 aY,int
 u64 aZ,int u64 bZ,int i64 cA,int i64 cB,slice bM bN bO,int u8 cR,int u64 cM,int u64 cS,int u64 cN,int u64 cU,int i64 cY,int i64 cZ,slice cG cH cI] 52 16 true true),
 some (Box.mk ad [int u8 0,int u64 0,int u64 0,int u64 0,int u64 0,int i64 0,int i64 0,slice none 0 0] 52 8 false true),some (Box.mk ac [int u8 cR,int u64 cM,int u64 cS,int u64 cN,int u64 cU,int
 i64 cY,int i64 cZ,slice cG cH cI] 52 8 true true),some (Box.mk b [int u8 aW,int u64 aX,int u64 aY,int u64 aZ,int u64 bZ,int i64 cA,int i64 cB,slice bM bN bO] 52 8 true
 true)]/\[some (Tok.mk (slice ae af ag) 8)]=[some (Tok.mk (slice ae af ag) 8)]/\[bool false]=[bool am])/\br am ([some (Box.mk ab [int u8 aW,int u64 aX,int u64 aY,int u64 aZ,int u64 bZ,int i64 cA,
 int i64 cB,slice bM bN bO,int u8 cR,int u64 cM,int u64 cS,int u64 cN,int u64 cU,int i64 cY,int i64 cZ,slice cG cH cI] 52 16 true true),some (Box.mk ad [int u8 0,int u64 0,
 int u64 0,int u64 0,int u64 0,int i64 0,int i64 0,slice none 0 0] 52 8 false true),some (Box.mk ac [int u8 cR,int u64 cM,int u64 cS,int u64 cN,int u64 cU,int i64 cY,int i64 cZ,slice cG
 cH cI] 52 8 true true),some (Box.mk b [int u8 aW,int u64 aX,int u64 aY,int u64 aZ,int u64 bZ,int i64 cA,int i64 cB,slice bM bN bO] 52 8 true true)]=[some (Box.mk ab [int u8 aW,
 int u64 aX,int u64 aY,int u64 aZ,int u64 bZ,int i64 cA,int i64 cB,slice bM bN bO,int u8 cR,int u64 cM,int u64 cS,int u64 cN,int u64 cU,int i64 cY,int i64 cZ,slice cG
 cH cI] 52 16 true true),some (Box.mk ad [int u8 0,int u64 0,int u64 0,int u64 0,int u64 0,int i64 0,int i64 0,slice none 0 0] 52 8 false true),some (Box.mk ac [int u8 cR,int u64 cM,int u64 cS,int
 u64 cN,int u64 cU,int i64 cY,int i64 cZ,slice cG cH cI] 52 8 true true),some (Box.mk b [int u8 aW,int u64 aX,int u64 aY,int u64 aZ,int u64 bZ,int i64 cA,int i64 cB,slice bM
 bN bO] 52 8 true true)]/\∃(n':Nat),n' < ak/\I [slice a n c,int i64 (i64.wrap (aa+(1:Int)))] [] [slice ae af ag] m' n') (chk (Nat.beq (List.length (List.take 8 (List.drop (Int.toNat aa*8) [int
 u8 aW,int u64 aX,int u64 aY,int u64 aZ,int u64 bZ,int i64 cA,int i64 cB,slice bM bN bO,int u8 cR,int u64 cM,int u64 cS,int u64 cN,int u64 cU,int i64 cY,int i64 cZ,
 slice cG cH cI]))) 8&&true) (∀(aj:Nat),m'.free aj->(Tok.mk (slice ae af ag) 8=Tok.mk (slice a n c) 8\/slice a n c=slice none 0 0\/c < n+1)/\∃(xs:List Value),∃(ys:List Value),
 xs.length=n*8/\ys.length=1*8/\rowRd (m'.add aj (List.append (List.take 8 (List.drop (Int.toNat aa*8) [int u8 aW,int u64 aX,int u64 aY,int u64 aZ,int u64 bZ,int i64 cA,int i64
 cB,slice bM bN bO,int u8 cR,int u64 cM,int u64 cS,int u64 cN,int u64 cU,int i64 cY,int i64 cZ,slice cG cH cI])) [])) a xs/\rowRd (m'.add aj (List.append (List.take 8
 (List.drop (Int.toNat aa*8) [int u8 aW,int u64 aX,int u64 aY,int u64 aZ,int u64 bZ,int i64 cA,int i64 cB,slice bM bN bO,int u8 cR,int u64 cM,int u64 cS,int u64 cN,int u64
 cU,int i64 cY,int i64 cZ,slice cG cH cI])) [])) (some (Addr.mk aj 0 none)) ys/\(∀(u:Value),u∈ys->u.oneCell'=true)/\(n+1)*80<=140737488355328/\n+1<=9223372036854775807/\∀(a'
 : Option Addr) (c':Nat) (ah:Mem),Mem.le (m'.add aj (List.append (List.take 8 (List.drop (Int.toNat aa*8) [int u8 aW,int u64 aX,int u64 aY,int u64 aZ,int u64 bZ,int i64 cA,int i64 cB,slice
 bM bN bO,int u8 cR,int u64 cM,int u64 cS,int u64 cN,int u64 cU,int i64 cY,int i64 cZ,slice cG cH cI])) [])) ah->rowRd ah a' (List.append xs ys)->[some (Box.mk ab [int u8 aW,
 int u64 aX,int u64 aY,int u64 aZ,int u64 bZ,int i64 cA,int i64 cB,slice bM bN bO,int u8 cR,int u64 cM,int u64 cS,int u64 cN,int u64 cU,int i64 cY,int i64 cZ,slice cG
 cH cI] 52 16 true true),some (Box.mk ad [int u8 0,int u64 0,int u64 0,int u64 0,int u64 0,int i64 0,int i64 0,slice none 0 0] 52 8 false true),some (Box.mk ac [int u8 cR,int u64 cM,int u64 cS,int
 u64 cN,int u64 cU,int i64 cY,int i64 cZ,slice cG cH cI] 52 8 true true),some (Box.mk b [int u8 aW,int u64 aX,int u64 aY,int u64 aZ,int u64 bZ,int i64 cA,int i64 cB,slice bM
 bN bO] 52 8 true true)]=[some (Box.mk ab [int u8 aW,int u64 aX,int u64 aY,int u64 aZ,int u64 bZ,int i64 cA,int i64 cB,slice bM bN bO,int u8 cR,int u64 cM,int u64 cS,int
 u64 cN,int u64 cU,int i64 cY,int i64 cZ,slice cG cH cI] 52 16 true true),some (Box.mk ad [int u8 0,int u64 0,int u64 0,int u64 0,int u64 0,int i64 0,int i64 0,slice none 0 0] 52 8 false
 true),some (Box.mk ac [int u8 cR,int u64 cM,int u64 cS,int u64 cN,int u64 cU,int i64 cY,int i64 cZ,slice cG cH cI] 52 8 true true),some (Box.mk b [int u8 aW,int u64 aX,int u64 aY,
 int u64 aZ,int u64 bZ,int i64 cA,int i64 cB,slice bM bN bO] 52 8 true true)]/\∃(n':Nat),n' < ak/\I [slice a' (n+1) c',int i64 (i64.wrap (aa+(1:Int)))] [] [slice a' (n+1) c']
 ah n'))))))) (br ((↑n:Int) == (0:Int)) (∃(m'':Mem),m.le m''/\m''.le m'/\R (agg (Array.mk [int u8 1,int u64 0,int u64 0,int u64 0,int u64 0,int i64 0,int i64 0,slice none 0 0])) m'' []) (br ((↑n
 : Int) == (1:Int)) (∃(b:Nat),∃(o:Nat),a=some (Addr.mk b o none)/\Zaf (0:Int) n/\∃v an ao ap aq ar au av:Value,m'.reads b (o+0) [v,an,ao,ap,aq,ar,au,av]/\chk (v.oneCell'&&(an.oneCell'&&(ao.oneCell'&&(ap.oneCell'&&(aq.oneCell'&&(ar.oneCell'&&(au.oneCell'
 && (av.oneCell'&&true)))))))) (∃(m'':Mem),m.le m''/\m''.le m'/\R (agg (Array.mk [v,an,ao,ap,aq,ar,au,av])) m'' [])) (∃(m'':Mem),m.le m''/\m''.le m'/\R (agg (Array.mk [int u8
 p0,int u64 0,int u64 0,int u64 0,int u64 0,int i64 0,int i64 0,slice a n c])) m'' [])))):CX Tryz.prog 101 #[.int .u8 p0,.agg #[.int .u8 aW,.int .u64 aX,.int .u64 aY,.int .u64 aZ,.int .u64 bZ,.int .i64 cA,.int .i64 cB,.slice bM bN bO],.agg #[.int .u8 cR,.int .u64 cM,.int .u64 cS,.int .u64 cN,.int .u64 cU,.int .i64 cY,.int .i64 cZ,.slice cG cH cI]] m [] R:=
 Zad (E:=Zk0) Zak mix Tryz.func101 [.v (.int .u8 p0),.v (.agg #[.int .u8 aW,.int .u64 aX,.int .u64 aY,.int .u64 aZ,.int .u64 bZ,.int .i64 cA,.int .i64 cB,.slice bM bN bO]),.v (.agg #[.int .u8 cR,.int .u64 cM,.int .u64 cS,.int .u64 cN,.int .u64 cU,.int .i64 cY,.int .i64 cZ,.slice cG cH cI])] [] (by kernel_rfl) (Eq.mp (by kernel_rfl) h)
noncomputable def Znb:Env:={ EB with
 loops:=(λi=>bif Nat.beq i 4 then⟨[(3,.slice),(4,.int .i64),(5,.int .i64),(22,.int .i64)],[],[(40,8)],false⟩ else bif Nat.beq i 32 then⟨[(195,.int .i64)],[13],[],false⟩ else⟨[],[],[],false⟩)
 joins:=(λi=>bif Nat.beq i 12 then some [(48,.bool)]else bif Nat.beq i 14 then some [(74,.bool)]else bif Nat.beq i 16 then some [(100,.bool)]else bif Nat.beq i 19 then some [(123,.bool)]else bif Nat.beq i 21 then some [(161,.bool)]else none)
 dr:=(λi=>bif Nat.beq i 13 then[⟨0,[],[],none,[],[]⟩,⟨1,[],[],none,[],[]⟩,⟨2,[],[],none,[1],[]⟩,⟨3,[],[],none,[],[]⟩,⟨4,[],[],none,[3],[]⟩,⟨5,[],[],none,[0,1,2,3,4],[]⟩,⟨6,[],[],none,[],[]⟩,⟨7,[],[],none,[],[]⟩,⟨8,[],[],none,[7],[]⟩,⟨9,[],[],none,[6,7,8],[]⟩,⟨10,[],[],none,[6,7,8,9],[]⟩,⟨11,[],[],none,[],[]⟩,⟨12,[],[],none,[],[]⟩,⟨13,[],[],none,[12],[]⟩,⟨14,[],[],none,[11,12,13],[]⟩,⟨15,[],[],none,[11,12,13,14],[]⟩,⟨16,[],[],none,[6,7,8,9,10,11,12,13,14,15],[]⟩,⟨17,[72],[72],none,[6,7,8,9,10,11,12,13,14,15,16],[16]⟩,⟨18,[72],[],some 40,rg 0 18,[17]⟩,⟨19,[],[],none,rg 0 19,[]⟩]else bif Nat.beq i 15 then[⟨0,[],[],none,[],[]⟩,⟨1,[],[],none,[],[]⟩,⟨2,[],[],none,[1],[]⟩,⟨3,[],[],none,[],[]⟩,⟨4,[],[],none,[3],[]⟩,⟨5,[],[],none,[0,1,2,3,4],[]⟩,⟨6,[],[],none,[],[]⟩,⟨7,[],[],none,[],[]⟩,⟨8,[],[],none,[7],[]⟩,⟨9,[],[],none,[6,7,8],[]⟩,⟨10,[],[],none,[6,7,8,9],[]⟩,⟨11,[],[],none,[],[]⟩,⟨12,[],[],none,[],[]⟩,⟨13,[],[],none,[12],[]⟩,⟨14,[],[],none,[11,12,13],[]⟩,⟨15,[],[],none,[11,12,13,14],[]⟩,⟨16,[],[],none,[6,7,8,9,10,11,12,13,14,15],[]⟩,⟨17,[98],[98],none,[6,7,8,9,10,11,12,13,14,15,16],[16]⟩,⟨18,[98],[],some 40,rg 0 18,[17]⟩,⟨19,[],[],none,rg 0 19,[]⟩]else bif Nat.beq i 20 then[⟨0,[7],[],none,[],[]⟩,⟨1,[7],[],none,[0],[]⟩,⟨2,[],[],none,[0,1],[]⟩,⟨3,[],[],none,[0,1,2],[]⟩,⟨4,[7],[],none,[],[]⟩,⟨5,[7],[],none,[4],[]⟩,⟨6,[],[],none,[4,5],[]⟩,⟨7,[],[],none,[4,5,6],[]⟩,⟨8,[],[],none,[0,1,2,3],[]⟩,⟨9,[],[],none,[0,1,2,3,4,5,6,7,8],[]⟩]else[])
 tokOf:=(λi=>bif Nat.beq i 40 then 40 else bif Nat.beq i 47 then 40 else bif Nat.beq i 73 then 40 else bif Nat.beq i 99 then 40 else 0)
 thaw:=true
 stAt:=(λi=>bif Nat.beq i 120 then some 40 else bif Nat.beq i 183 then some 40 else none) }
abbrev ZdW:Nat->Option Box:=λ(b:Nat)=>some (Box.mk b [int u8 0,int u64 0,int u64 0,int u64 0,int u64 0,int i64 0,int i64 0,slice none 0 0] 52 8 false true)
abbrev ZaY:Nat->List (Option Box):=λ(b:Nat)=>[ZdW b]
abbrev ZaF:Nat->Value->Value->Value->Nat->List (Option Box):=λ(b:Nat)(v ae ag:Value)(be:Nat)=>[some (Box.mk be [v,ae,ag] 183 3 false true),ZdW b]
abbrev Zk1:Nat->Nat->List (Option Box):=λ(b be:Nat)=>[some (Box.mk be [] 52 8 false true),ZdW b]
theorem Zk2(p0a:Option Addr)(p0n p0c:Nat)(m:Mem)(R:RT)(h:
 ∀(b:Nat),(((0:Int)<=if(25:Int) < (↑p0n:Int)then(25:Int)else(↑p0n:Int))/\(if(25:Int) < (↑p0n:Int)then(25:Int)else(↑p0n:Int))<=(↑p0c:Int))/\∃(I:IT),(∃(n:Nat),I [slice none 0
 0,int i64 1,int i64 0,int i64 0] [] [slice none 0 0] m n)/\∀(a:Option Addr)(n c:Nat)(a4 a5 a2:Int)(ad:Option Addr)(aa ac:Nat)(m':Mem)(a6:Nat),True->I [slice a n c,int i64 a4,int i64 a5,int
 i64 a2] [] [slice ad aa ac] m' a6->br (decide (a2 < (↑(Int.toNat (if(25:Int) < (↑p0n:Int)then(25:Int)else(↑p0n:Int)) - 0):Int))) (∃(be:Nat),∃(o:Nat),ZaU p0a 0 p0c 3=some (Addr.mk be o none)
 /\ Zaf a2 (Int.toNat (if(25:Int) < (↑p0n:Int)then(25:Int)else(↑p0n:Int)) - 0)/\∃v ae ag:Value,m'.reads be (o+Int.toNat a2*3) [v,ae,ag]/\∀(a1:Nat),chk
 (v.oneCell'&&(ae.oneCell'&&(ag.oneCell'&&true))) (chk (ZaP u8 v&&decide (u8=u8)) ((12:Int)≠(0:Int)/\br (decide (Int.tmod (intOf v) (12:Int) < (4:Int))) (∃(R:RT),True/\
 CX Tryz.prog 100 (Array.mk [ae]) m' [] R/\Zap Shape.str R/\∀(s:ByteArray)(ab:Mem),m'.le ab->R (string s) ab []->∃(R:RT),True/\CX Tryz.prog 99 (Array.mk [string s]) ab [] R/\Zap (shT) R/\∀(af ah
 ai aj ak al am:Int) (bk:Option Addr) (an a3:Nat) (m':Mem),ab.le m'->R (agg (Array.mk [int u8 af,int u64 ah,int u64 ai,int u64 aj,int u64 ak,int i64 al,int i64 am,slice bk an a3])) m' []->∀(aq:
 Nat),m'.free aq->(Tok.mk (slice ad aa ac) 8=Tok.mk (slice a n c) 8\/slice a n c=slice none 0 0\/c < n+1)/\∃(xs:List Value),∃(ys:List Value),xs.length=n*8/\ys.length=1*8/\rowRd
 (m'.add aq [int u8 af,int u64 ah,int u64 ai,int u64 aj,int u64 ak,int i64 al,int i64 am,slice bk an a3]) a xs/\rowRd (m'.add aq [int u8 af,int u64 ah,int u64 ai,int u64 aj,int u64 ak,int i64 al,int
 i64 am,slice bk an a3]) (some (Addr.mk aq 0 none)) ys/\(∀(u:Value),u∈ys->u.oneCell'=true)/\(n+1)*80<=140737488355328/\n+1<=9223372036854775807/\∀(a':Option Addr)(c':Nat)(a7:Mem),
 Mem.le (m'.add aq [int u8 af,int u64 ah,int u64 ai,int u64 aj,int u64 ak,int i64 al,int i64 am,slice bk an a3]) a7->rowRd a7 a' (List.append xs ys)->TokFact (m'.add aq [int u8 af,int u64 ah,int u64
 ai,int u64 aj,int u64 ak,int i64 al,int i64 am,slice bk an a3]) a a' (n+1) c'->Zat (ZaY b)/\∃(n':Nat),n' < a6/\I [slice a' (n+1) c',int i64 a4,int i64 a5,int i64 (i64.wrap (a2 +
 (1:Int)))] [] [slice a' (n+1) c'] a7 n') (br (Int.tmod (intOf v) (12:Int) == (4:Int)) (∀(aq:Nat),m'.free aq->(Tok.mk (slice ad aa ac) 8=Tok.mk (slice a n c) 8\/slice a n c=slice none 0 0\/c
 < n+1)/\∃(xs:List Value),∃(ys:List Value),xs.length=n*8/\ys.length=1*8/\rowRd (m'.add aq [int u8 1,int u64 0,int u64 0,int u64 0,int u64 0,int i64 0,int i64 0,slice none 0 0]) a
 xs/\rowRd (m'.add aq [int u8 1,int u64 0,int u64 0,int u64 0,int u64 0,int i64 0,int i64 0,slice none 0 0]) (some (Addr.mk aq 0 none)) ys/\(∀(u:Value),u∈ys->u.oneCell'=true)/\(n+1)*80 <=
 140737488355328/\n+1<=9223372036854775807/\∀(a':Option Addr)(c':Nat)(ab:Mem),Mem.le (m'.add aq [int u8 1,int u64 0,int u64 0,int u64 0,int u64 0,int i64 0,int i64 0,slice none 0 0]) ab->rowRd
 ab a' (List.append xs ys)->TokFact (m'.add aq [int u8 1,int u64 0,int u64 0,int u64 0,int u64 0,int i64 0,int i64 0,slice none 0 0]) a a' (n+1) c'->Zat (ZaY b)/\∃(n':Nat),n' < a6/\I
 [slice a' (n+1) c',int i64 a4,int i64 a5,int i64 (i64.wrap (a2+(1:Int)))] [] [slice a' (n+1) c'] ab n') (∃(aq:Bool),br (decide (Int.tmod (intOf v) (12:Int) < (7:Int))) (Zat
 (ZaF b v ae ag a1)/\[some (Tok.mk (slice ad aa ac) 8)]=[some (Tok.mk (slice ad aa ac) 8)]/\[bool (decide ((↑n:Int) > (1:Int)))]=[bool aq]) (Zat (ZaF b v ae ag a1)/\[some (Tok.mk (slice
 ad aa ac) 8)]=[some (Tok.mk (slice ad aa ac) 8)]/\[bool false]=[bool aq])/\br aq (∃(f:Fx),((0:Int)<=i64.wrap ((↑n:Int) - (2:Int))/\i64.wrap ((↑n:Int) - (2:Int))<=(↑c:Int))/\((0
 : Int)<=i64.wrap ((↑n:Int) - (2:Int))/\i64.wrap ((↑n:Int) - (2:Int))<=(↑(Int.toNat (i64.wrap ((↑n:Int) - (2:Int)))):Int))/\∃(bf:Nat),∃(o:Nat),a=some (Addr.mk bf o
 none)/\Zaf (i64.wrap ((↑n:Int) - (2:Int))) n/\∃v ao ar au av aw ax ay:Value,m'.reads bf (o +
 Int.toNat (i64.wrap ((↑n:Int) - (2:Int)))*8) [v,ao,ar,au,av,aw,ax,ay]/\∃(bd:Nat),∃(o:Nat),a=some (Addr.mk bd o none)/\Zaf (i64.wrap ((↑n:Int) - (1:Int))) n/\∃a8 a9 ba bb bc bg bh bi:Value,m'.reads bd (o+Int.toNat (i64.wrap ((↑n:Int) - (1:Int)))*8) [a8,a9,ba,bb,
 bc,bg,bh,bi]/\∃(R:RT),R=f 16 [int u8 3,agg (Array.mk [v,ao,ar,au,av,aw,ax,ay]),agg (Array.mk [a8,a9,ba,bb,bc,bg,bh,bi])] m'/\CX Tryz.prog 101 (Array.mk [int u8 3,agg (Array.mk [v,ao,ar,au,
 av,aw,ax,ay]),agg (Array.mk [a8,a9,ba,bb,bc,bg,bh,bi])]) m' [] R/\Zap (shT) R/\∀(af ah ai aj ak al am:Int)(ap:Option Addr)(an c:Nat)(ab:Mem),m'.le ab->R (agg (Array.mk [int u8 af,int u64
 ah,int u64 ai,int u64 aj,int u64 ak,int i64 al,int i64 am,slice ap an c])) ab []->∀(a0:Nat),ab.free a0->(Tok.mk (slice ad aa ac) 8=Tok.mk (slice (ZaU a 0 (Int.toNat (i64.wrap ((↑n:Int) -
 (2:Int)))) 8) (Int.toNat (i64.wrap ((↑n:Int) - (2:Int))) - 0) (Int.toNat (i64.wrap ((↑n:Int) - (2:Int))) - 0)) 8\/slice (ZaU a 0 (Int.toNat (i64.wrap ((↑n:Int) - (2:Int)))) 8)
 (Int.toNat (i64.wrap ((↑n:Int) - (2:Int))) - 0) (Int.toNat (i64.wrap ((↑n:Int) - (2:Int))) - 0)=slice none 0 0\/Int.toNat (i64.wrap ((↑n:Int) - (2:Int))) - 0 < Int.toNat
 (i64.wrap ((↑n:Int) - (2:Int))) - 0+1)/\∃(xs:List Value),∃(ys:List Value),xs.length=(Int.toNat (i64.wrap ((↑n:Int) - (2:Int))) - 0)*8/\ys.length=1*8/\rowRd (ab.add a0 [int u8 af,int u64 ah,int u64 ai,int u64 aj,int u64 ak,int i64 al,int i64 am,slice ap an c]) (ZaU a 0 (Int.toNat (i64.wrap ((↑n:Int) - (2:Int)))) 8) xs/\rowRd (ab.add a0 [int u8 af,int
 u64 ah,int u64 ai,int u64 aj,int u64 ak,int i64 al,int i64 am,slice ap an c]) (some (Addr.mk a0 0 none)) ys/\(∀(u:Value),u∈ys->u.oneCell'=true)/\(Int.toNat (i64.wrap ((↑n:Int) - (2:
 Int))) - 0+1)*80<=140737488355328/\Int.toNat (i64.wrap ((↑n:Int) - (2:Int))) - 0+1<=9223372036854775807/\∀(a':Option Addr)(c':Nat)(a7:Mem),Mem.le (ab.add a0 [int u8 af,int u64 ah,
 int u64 ai,int u64 aj,int u64 ak,int i64 al,int i64 am,slice ap an c]) a7->rowRd a7 a' (List.append xs ys)->TokFact (ab.add a0 [int u8 af,int u64 ah,int u64 ai,int u64 aj,int u64 ak,int i64 al,int i64
 am,slice ap an c]) (ZaU a 0 (Int.toNat (i64.wrap ((↑n:Int) - (2:Int)))) 8) a' (Int.toNat (i64.wrap ((↑n:Int) - (2:Int))) - 0+1) c'->∀(M:Mem),m'.le M->ab.le M->Mem.le (ab.add a0 [int u8 af,int u64 ah,int u64 ai,int u64 aj,int u64 ak,int i64 al,int i64 am,slice ap an c]) M->a7.le M->Zat (ZaY b)/\∃(n':Nat),n' < a6/\I [slice a' (Int.toNat (i64.wrap
 ((↑n:Int) - (2:Int))) - 0+1) c',int i64 a4,int i64 a5,int i64 (i64.wrap (a2+(1:Int)))] [] [slice a' (Int.toNat (i64.wrap ((↑n:Int) - (2:Int))) - 0+1) c'] M n') (∃(bf:Bool),br
 (decide (Int.tmod (intOf v) (12:Int) < (9:Int))) (Zat (ZaF b v ae ag a1)/\[some (Tok.mk (slice ad aa ac) 8)]=[some (Tok.mk (slice ad aa ac) 8)]/\[bool (decide ((↑n:Int) > (1:Int)))] =
 [bool bf]) (Zat (ZaF b v ae ag a1)/\[some (Tok.mk (slice ad aa ac) 8)]=[some (Tok.mk (slice ad aa ac) 8)]/\[bool false]=[bool bf])/\br bf (∃(f:Fx),((0:Int)<=i64.wrap ((↑n:Int) - (2:
 Int))/\i64.wrap ((↑n:Int) - (2:Int))<=(↑c:Int))/\((0:Int)<=i64.wrap ((↑n:Int) - (2:Int))/\i64.wrap ((↑n:Int) - (2:Int))<=(↑(Int.toNat (i64.wrap ((↑n:Int) - (2:
 Int)))):Int))/\∃(bd:Nat),∃(o:Nat),a=some (Addr.mk bd o none)/\Zaf (i64.wrap ((↑n:Int) - (2:Int))) n/\∃v ao ar au av aw ax ay:Value,m'.reads bd (o+Int.toNat (i64.wrap ((↑n:Int) - (2:Int)))*8) [v,ao,ar,au,av,aw,ax,ay]/\∃(a0:Nat),∃(o:Nat),a=some (Addr.mk a0 o none)/\Zaf
 (i64.wrap ((↑n:Int) - (1:Int))) n/\∃a8 a9 ba bb bc bg bh bi:Value,m'.reads a0 (o+Int.toNat
 (i64.wrap ((↑n:Int) - (1:Int)))*8) [a8,a9,ba,bb,bc,bg,bh,bi]/\∃(R:RT),R=f 16 [int u8 4,agg (Array.mk [v,ao,ar,au,av,aw,ax,ay]),agg (Array.mk [a8,a9,ba,bb,bc,bg,bh,bi])] m'/\
 CX Tryz.prog 101 (Array.mk [int u8 4,agg (Array.mk [v,ao,ar,au,av,aw,ax,ay]),agg (Array.mk [a8,a9,ba,bb,bc,bg,bh,bi])]) m' [] R/\Zap (shT) R/\∀(af ah ai aj ak al am:Int)(ap:Option Addr) (an c:
 Nat) (ab:Mem),m'.le ab->R (agg (Array.mk [int u8 af,int u64 ah,int u64 ai,int u64 aj,int u64 ak,int i64 al,int i64 am,slice ap an c])) ab []->∀(az:Nat),ab.free az->(Tok.mk (slice ad aa ac) 8 =
 Tok.mk (slice (ZaU a 0 (Int.toNat (i64.wrap ((↑n:Int) - (2:Int)))) 8) (Int.toNat (i64.wrap ((↑n:Int) - (2:Int))) - 0) (Int.toNat (i64.wrap ((↑n:Int) - (2:Int))) - 0)) 8\/slice
 (ZaU a 0 (Int.toNat (i64.wrap ((↑n:Int) - (2:Int)))) 8) (Int.toNat (i64.wrap ((↑n:Int) - (2:Int))) - 0) (Int.toNat (i64.wrap ((↑n:Int) - (2:Int))) - 0)=slice none 0 0\/Int.toNat
 (i64.wrap ((↑n:Int) - (2:Int))) - 0 < Int.toNat (i64.wrap ((↑n:Int) - (2:Int))) - 0+1)/\∃(xs:List Value),∃(ys:List Value),xs.length=(Int.toNat (i64.wrap ((↑n:Int) - (2
 : Int))) - 0)*8/\ys.length=1*8/\rowRd (ab.add az [int u8 af,int u64 ah,int u64 ai,int u64 aj,int u64 ak,int i64 al,int i64 am,slice ap an c]) (ZaU a 0 (Int.toNat (i64.wrap ((↑n:Int)
 - (2:Int)))) 8) xs/\rowRd (ab.add az [int u8 af,int u64 ah,int u64 ai,int u64 aj,int u64 ak,int i64 al,int i64 am,slice ap an c]) (some (Addr.mk az 0 none)) ys/\(∀(u:Value),u∈ys->u.oneCell' =
 true)/\(Int.toNat (i64.wrap ((↑n:Int) - (2:Int))) - 0+1)*80<=140737488355328/\Int.toNat (i64.wrap ((↑n:Int) - (2:Int))) - 0+1<=9223372036854775807/\∀(a':Option Addr)(c':Nat) (a7
 : Mem),Mem.le (ab.add az [int u8 af,int u64 ah,int u64 ai,int u64 aj,int u64 ak,int i64 al,int i64 am,slice ap an c]) a7->rowRd a7 a' (List.append xs ys)->TokFact (ab.add az [int u8 af,int u64 ah,int
 u64 ai,int u64 aj,int u64 ak,int i64 al,int i64 am,slice ap an c]) (ZaU a 0 (Int.toNat (i64.wrap ((↑n:Int) - (2:Int)))) 8) a' (Int.toNat (i64.wrap ((↑n:Int) - (2:Int))) - 0+1) c'->∀(M
 : Mem),m'.le M->ab.le M->Mem.le (ab.add az [int u8 af,int u64 ah,int u64 ai,int u64 aj,int u64 ak,int i64 al,int i64 am,slice ap an c]) M->a7.le M->Zat (ZaY b)/\∃(n':Nat),n'
 < a6/\I [slice a' (Int.toNat (i64.wrap ((↑n:Int) - (2:Int))) - 0+1) c',int i64 a4,int i64 a5,int i64 (i64.wrap (a2+(1:Int)))] [] [slice a' (Int.toNat (i64.wrap ((↑n:Int) - (2:
 Int))) - 0+1) c'] M n') (∃(bd:Bool),br (Int.tmod (intOf v) (12:Int) == (9:Int)) (br (decide ((↑n:Int) > (0:Int))) (Zat (ZaF b v ae ag a1)/\[some (Tok.mk (slice ad aa ac) 8)]=[some
 (Tok.mk (slice ad aa ac) 8)]/\[bool (decide (a5 < (9:Int)))]=[bool bd]) (Zat (ZaF b v ae ag a1)/\[some (Tok.mk (slice ad aa ac) 8)]=[some (Tok.mk (slice ad aa ac) 8)]/\[bool false]=[bool bd]))
 (Zat (ZaF b v ae ag a1)/\[some (Tok.mk (slice ad aa ac) 8)]=[some (Tok.mk (slice ad aa ac) 8)]/\[bool false]=[bool bd])/\br bd (∃(a0:Nat),∃(o:Nat),a=some (Addr.mk a0 o none)/\Zaf
 (i64.wrap ((↑n:Int) - (1:Int))) n/\∃v ao ar au av aw ax ay:Value,m'.reads a0 (o+Int.toNat (i64.wrap ((↑n:Int) - (1:Int)))*8) [v,ao,ar,au,av,aw,ax,ay]/\∃(R:RT),True/\CX Tryz.prog 102 (Array.mk [agg (Array.mk [v,ao,ar,au,av,aw,ax,ay])]) m' [] R/\Zap (shT) R/\∀(af ah ai aj ak al am:
 Int) (ap:Option Addr) (an a3:Nat) (ab:Mem),m'.le ab->R (agg (Array.mk [int u8 af,int u64 ah,int u64 ai,int u64 aj,int u64 ak,int i64 al,int i64 am,slice ap an a3])) ab []->∃(az:Nat),∃(o:Nat),
 a=some (Addr.mk az o none)/\Zaf (i64.wrap ((↑n:Int) - (1:Int))) n/\slice ad aa ac=slice (some (Addr.mk az 0 none)) aa ac/\o+Int.toNat (i64.wrap ((↑n:Int) - (1:Int)))*8+8<=aa*8
 /\ Zat (ZaY b)/\∃(n':Nat),n' < a6/\I [slice a n c,int i64 a4,int i64 (i64.wrap (a5+(1:Int))),int i64 (i64.wrap (a2+(1:Int)))] [] [slice ad aa ac] (Mem.upd ab az (o +
 Int.toNat (i64.wrap ((↑n:Int) - (1:Int)))*8) [int u8 af,int u64 ah,int u64 ai,int u64 aj,int u64 ak,int i64 al,int i64 am,slice ap an a3]) n') (∃(a0:Bool),br (decide (Int.tmod (intOf v)
 (12:Int) > (9:Int))) (br (decide ((↑n:Int) > (0:Int))) (∃(az:Nat),∃(o:Nat),a=some (Addr.mk az o none)/\Zaf (i64.wrap ((↑n:Int) - (1:Int))) n/\∃(ao:Value),m' az (o+Int.toNat
 (i64.wrap ((↑n:Int) - (1:Int)))*8+0)=some ao/\chk (ZaP u8 ao&&decide (u8=u8)) (Zat (ZaF b v ae ag a1)/\[some (Tok.mk (slice ad aa ac) 8)]=[some (Tok.mk (slice ad aa ac) 8)]/\
 [bool !intOf ao == (1:Int)]=[bool a0])) (Zat (ZaF b v ae ag a1)/\[some (Tok.mk (slice ad aa ac) 8)]=[some (Tok.mk (slice ad aa ac) 8)]/\[bool false]=[bool a0])) (Zat (ZaF b v
 ae ag a1)/\[some (Tok.mk (slice ad aa ac) 8)]=[some (Tok.mk (slice ad aa ac) 8)]/\[bool false]=[bool a0])/\br a0 (chk (ZaP u8 ae&&decide (u8=u8)) ((3:Int)≠(0:Int)/\chk (ZaP u8 ag&&decide (u8 =
 u8)) ((4:Int)≠(0:Int)/\∃(az:Bool),br (decide (i64.wrap (Int.tmod (intOf ag) (4:Int)) < i64.wrap (Int.tmod (intOf ae) (3:Int)))) (Zat (ZaF b v ae ag a1)/\[some
 (Tok.mk (slice ad aa ac) 8)]=[some (Tok.mk (slice ad aa ac) 8)]/\[bool true]=[bool az]) (br (i64.wrap (Int.tmod (intOf ag) (4:Int)) == (0:Int)) (Zat (ZaF b v ae ag a1)/\[some
 (Tok.mk (slice ad aa ac) 8)]=[some (Tok.mk (slice ad aa ac) 8)]/\[bool true]=[bool az]) (br (i64.wrap (Int.tmod (intOf ae) (3:Int)) == (1:Int)) (Zat (ZaF b v ae ag a1)/\[some
 (Tok.mk (slice ad aa ac) 8)]=[some (Tok.mk (slice ad aa ac) 8)]/\[bool (i64.wrap (Int.tmod (intOf ag) (4:Int)) == (1:Int))]=[bool az]) (Zat (ZaF b v ae ag a1)/\[some (Tok.mk (slice
 ad aa ac) 8)]=[some (Tok.mk (slice ad aa ac) 8)]/\[bool false]=[bool az])))/\br az (br (decide (i64.wrap (a4*if(1:Int) > if(-1:Int) > i64.wrap (Int.tmod (intOf ae) (3:Int))then
 (-1:Int)else i64.wrap (Int.tmod (intOf ae) (3:Int))then(1:Int)else if(-1:Int) > i64.wrap (Int.tmod (intOf ae) (3:Int))then(-1:Int)else i64.wrap (Int.tmod
 (intOf ae) (3:Int)))<=(16:Int))) (∃(bl:Nat),∃(o:Nat),a=some (Addr.mk bl o none)/\Zaf (i64.wrap ((↑n:Int) - (1:Int))) n/\∃v ao ar au av aw ax ay:Value,m'.reads bl (o+Int.toNat (i64.wrap ((↑n:Int) - (1:Int)))*8) [v,ao,ar,au,av,aw,ax,ay]/\∃(R:RT),True/\CX Tryz.prog
 103 (Array.mk [agg (Array.mk [v,ao,ar,au,av,aw,ax,ay]),int i64 (i64.wrap (Int.tmod (intOf ae) (3:Int))),int i64 (-1:Int)]) m' [] R/\Zap (shT) R/\∀(af ah ai aj ak al am:Int) (ap:Option
 Addr) (an a3:Nat) (ab:Mem),m'.le ab->R (agg (Array.mk [int u8 af,int u64 ah,int u64 ai,int u64 aj,int u64 ak,int i64 al,int i64 am,slice ap an a3])) ab []->∃(bj:Nat),∃(o:Nat),a=some (Addr.mk
 bj o none)/\Zaf (i64.wrap ((↑n:Int) - (1:Int))) n/\slice ad aa ac=slice (some (Addr.mk bj 0 none)) aa ac/\o+Int.toNat (i64.wrap ((↑n:Int) - (1:Int)))*8+8<=aa*8/\Zat
 (ZaY b)/\∃(n':Nat),n' < a6/\I [slice a n c,int i64 (i64.wrap (a4*if(1:Int) > if(-1:Int) > i64.wrap (Int.tmod (intOf ae) (3:Int))then(-1:Int)else i64.wrap
 (Int.tmod (intOf ae) (3:Int))then(1:Int)else if(-1:Int) > i64.wrap (Int.tmod (intOf ae) (3:Int))then(-1:Int)else i64.wrap (Int.tmod (intOf ae) (3:Int)))),int i64
 a5,int i64 (i64.wrap (a2+(1:Int)))] [] [slice ad aa ac] (Mem.upd ab bj (o+Int.toNat (i64.wrap ((↑n:Int) - (1:Int)))*8) [int u8 af,int u64 ah,int u64 ai,int u64 aj,int u64 ak,int i64 al,
 int i64 am,slice ap an a3]) n') (Zat (ZaY b)/\∃(n':Nat),n' < a6/\I [slice a n c,int i64 a4,int i64 a5,int i64 (i64.wrap (a2+(1:Int)))] [] [slice ad aa ac] m' n')) (br (decide
 (i64.wrap (a4*if(1:Int) > if i64.wrap (Int.tmod (intOf ag) (4:Int)) > i64.wrap (Int.tmod (intOf ae) (3:Int))then i64.wrap (Int.tmod (intOf ag) (4:Int))
 else i64.wrap (Int.tmod (intOf ae) (3:Int))then(1:Int)else if i64.wrap (Int.tmod (intOf ag) (4:Int)) > i64.wrap (Int.tmod (intOf ae) (3:Int))then i64.wrap
 (Int.tmod (intOf ag) (4:Int))else i64.wrap (Int.tmod (intOf ae) (3:Int)))<=(16:Int))) (∃(bl:Nat),∃(o:Nat),a=some (Addr.mk bl o none)/\Zaf (i64.wrap ((↑n:Int) - (1:
 Int))) n/\∃v ao ar au av aw ax ay:Value,m'.reads bl (o+Int.toNat (i64.wrap ((↑n:Int) - (1:Int)))*8)
 [v,ao,ar,au,av,aw,ax,ay]/\∃(R:RT),True/\CX Tryz.prog 103 (Array.mk [agg (Array.mk [v,ao,ar,au,av,aw,ax,ay]),int i64 (i64.wrap (Int.tmod (intOf ae) (3:Int))),int i64 (i64.wrap (Int.tmod (intOf ag) (4:Int)))]) m' [] R/\Zap (shT) R/\∀(af ah ai aj ak al am:Int)(ap:Option Addr)(an a3:Nat)(ab:Mem),m'.le ab->R (agg (Array.mk [int u8 af,int u64 ah,int u64 ai,int
 u64 aj,int u64 ak,int i64 al,int i64 am,slice ap an a3])) ab []->∃(bj:Nat),∃(o:Nat),a=some (Addr.mk bj o none)/\Zaf (i64.wrap ((↑n:Int) - (1:Int))) n/\slice ad aa ac=slice (some
 (Addr.mk bj 0 none)) aa ac/\o+Int.toNat (i64.wrap ((↑n:Int) - (1:Int)))*8+8<=aa*8/\Zat (ZaY b)/\∃(n':Nat),n' < a6/\I [slice a n c,int i64 (i64.wrap (a4*if(1:Int) >
 if i64.wrap (Int.tmod (intOf ag) (4:Int)) > i64.wrap (Int.tmod (intOf ae) (3:Int))then i64.wrap (Int.tmod (intOf ag) (4:Int))else i64.wrap (Int.tmod
 (intOf ae) (3:Int))then(1:Int)else if i64.wrap (Int.tmod (intOf ag) (4:Int)) > i64.wrap (Int.tmod (intOf ae) (3:Int))then i64.wrap (Int.tmod (intOf ag) (4
 : Int))else i64.wrap (Int.tmod (intOf ae) (3:Int)))),int i64 a5,int i64 (i64.wrap (a2+(1:Int)))] [] [slice ad aa ac] (Mem.upd ab bj (o+Int.toNat (i64.wrap ((↑n:Int) - (1:
 Int)))*8) [int u8 af,int u64 ah,int u64 ai,int u64 aj,int u64 ak,int i64 al,int i64 am,slice ap an a3]) n') (Zat (ZaY b)/\∃(n':Nat),n' < a6/\I [slice a n c,int i64 a4,int i64 a5,int i64
 (i64.wrap (a2+(1:Int)))] [] [slice ad aa ac] m' n'))))) (Zat (ZaY b)/\∃(n':Nat),n' < a6/\I [slice a n c,int i64 a4,int i64 a5,int i64 (i64.wrap (a2+(1:Int)))] [] [slice ad
 aa ac] m' n'))))))))) (br ((↑n:Int) == (0:Int)) (∃(R_1:RT),True/\CX Tryz.prog 99 (Array.mk [string (ByteArray.mk (Array.mk [97]))]) m' [] R_1/\Zap (shT) R_1/\∀(n af ah ai aj ak al:Int) (a:
 Option Addr) (am c:Nat) (ab:Mem),m'.le ab->R_1 (agg (Array.mk [int u8 n,int u64 af,int u64 ah,int u64 ai,int u64 aj,int i64 ak,int i64 al,slice a am c])) ab []->∃(m'':Mem),m.le m''/\m''.le ab/\R (agg (Array.mk [int u8 n,int u64 af,int u64 ah,int u64 ai,int u64 aj,int i64 ak,int i64 al,slice a am c])) m'' []) (∃(be:Nat),∃(o:Nat),a=some (Addr.mk be o none)/\Zaf (0:Int) n/\∃v ae ag ao ar au av aw:Value,m'.reads be (o+0) [v,ae,ag,ao,ar,au,av,aw]/\∀(a1:Nat),chk (v.oneCell' &&
 (ae.oneCell'&&(ag.oneCell'&&(ao.oneCell'&&(ar.oneCell'&&(au.oneCell'&&(av.oneCell'&&(aw.oneCell'&&true)))))))) (((0:Int)<=(1:Int)/\(1:Int)<=(↑n:Int))/\
 ∃(I:IT),(∃(n:Nat),I [int i64 0] [[v,ae,ag,ao,ar,au,av,aw]] [] m' n)/\∀(af:Int)(cs:List Value)(m':Mem)(ah:Nat),True->I [int i64 af] [cs] [] m' ah->br (decide (af < (↑(n - Int.toNat (1:
 Int)):Int))) (∃(aq:Nat),∃(o:Nat),ZaU a (Int.toNat (1:Int)) c 8=some (Addr.mk aq o none)/\Zaf af (n - Int.toNat (1:Int))/\∃v ax ay a8 a9 ba bb bc:Value,m'.reads aq (o+Int.toNat af*8) [v,ax,ay,a8,a9,ba,bb,bc]/\∀(bf:Nat),chk (v.oneCell'&&(ax.oneCell'&&(ay.oneCell' &&
 (a8.oneCell'&&(a9.oneCell'&&(ba.oneCell'&&(bb.oneCell'&&(bc.oneCell'&&true)))))))) (∃(R:RT),True/\CX Tryz.prog 101 (Array.mk [int u8 4,agg (Array.mk cs),agg (Array.mk [v,
 ax,ay,a8,a9,ba,bb,bc])]) m' [] R/\Zap (shT) R/\∀(n ai aj ak al am an:Int)(a:Option Addr)(bm c:Nat)(ab:Mem),m'.le ab->R (agg (Array.mk [int u8 n,int u64 ai,int u64 aj,int u64 ak,int u64 al,
 int i64 am,int i64 an,slice a bm c])) ab []->Zat (Zk1 b a1)/\[some (Tok.mk (slice ad aa ac) 8)]=[some (Tok.mk (slice ad aa ac) 8)]/\∃(n':Nat),n' < ah/\I [int i64 (i64.wrap (af+(1:
 Int)))] [[int u8 n,int u64 ai,int u64 aj,int u64 ak,int u64 al,int i64 am,int i64 an,slice a bm c]] [] ab n')) (chk (Nat.beq (cs.length) 8&&Zdv cs) (∃(m'':Mem),m.le m''/\m''.le m'/\R (agg
 (Array.mk cs)) m'' [])))))):CX Tryz.prog 65 #[.slice p0a p0n p0c] m [] R:=
 Zad (E:=Znb) Zak mix Tryz.func65 [.v (.slice p0a p0n p0c)] [] (by kernel_rfl) (Eq.mp (by kernel_rfl) h)
end Go.Proofs.YtojlhhphofhaoaaGreatDoor