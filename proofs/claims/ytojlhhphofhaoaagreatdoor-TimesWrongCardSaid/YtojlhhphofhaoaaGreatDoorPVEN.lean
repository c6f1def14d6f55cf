/- Part of the proof: functions of the program. No condition. -/
import Derived.Test.YtojlhhphofhaoaaGreatDoorPEnv
set_option linter.unusedVariables false
set_option linter.unusedSimpArgs false
set_option linter.unusedSectionVars false
namespace Go.Proofs.YtojlhhphofhaoaaGreatDoor
open Go Go.Eng Go.Proofs Go.RowKit
open Go.Value (int slice agg bool string tuple func)
open Go.IntKind (u8 u64 i64)
set_option maxRecDepth 100000
noncomputable def Zhx:Env:=EB
theorem Zgr  (m:Mem)(R:RT)(h:
 ∀(b:Nat),m.free b->∃(m'':Mem),m.le m''/\Mem.le m'' (m.add b [string (ByteArray.mk (Array.mk [120])),string (ByteArray.mk (Array.mk [121])),string (ByteArray.mk (Array.mk [122,95,49])),string (ByteArray.mk (Array.mk [97,98,99,100,101,102,103,104,105,106,
 107,108,109,110,111,112]))])/\R (slice (some (Addr.mk b 0 none)) 4 4) m'' []):CX Tryz.prog 32 #[] m [] R:=
 Zad (E:=Zhx) Zak mix Tryz.func32 [] [] (by kernel_rfl) (Eq.mp (by kernel_rfl) h)
noncomputable def ZkM:Env:=EB
theorem ZiP  (m:Mem)(R:RT)(h:
 ∀(b:Nat),m.free b->∃(m'':Mem),m.le m''/\Mem.le m'' (m.add b [string (ByteArray.mk (Array.mk [115])),string (ByteArray.mk (Array.mk [116]))])/\R (slice (some (Addr.mk b 0
 none)) 2 2) m'' []):CX Tryz.prog 33 #[] m [] R:=
 Zad (E:=ZkM) Zak mix Tryz.func33 [] [] (by kernel_rfl) (Eq.mp (by kernel_rfl) h)
noncomputable def ZkN:Env:=EB
theorem ZiQ  (m:Mem)(R:RT)(h:
 ∀(b:Nat),m.free b->∃(m'':Mem),m.le m''/\Mem.le m'' (m.add b [string (ByteArray.mk (Array.mk [97])),string (ByteArray.mk (Array.mk [98])),string (ByteArray.mk (Array.mk [99])),string (ByteArray.mk (Array.mk [100]))])/\R (slice (some (Addr.mk b 0 none)) 4 4) m'' []):CX Tryz.prog 34 #[] m [] R:=
 Zad (E:=ZkN) Zak mix Tryz.func34 [] [] (by kernel_rfl) (Eq.mp (by kernel_rfl) h)
noncomputable def ZiR:Env:={ EB with
 dr:=(λi=>bif Nat.beq i 3 then[⟨0,[],[],none,[],[]⟩,⟨1,[],[],none,[0],[]⟩,⟨2,[],[],none,[],[]⟩,⟨3,[],[],none,[],[]⟩,⟨4,[],[],none,[3],[]⟩,⟨5,[],[],none,[3,4],[]⟩,⟨6,[],[],none,[2,3,4,5],[]⟩,⟨7,[],[],none,[0,1,2,3,4,5,6],[]⟩,⟨8,[],[],none,[0,1,2,3,4,5,6,7],[]⟩,⟨9,[],[],none,[0,1,2,3,4,5,6,7,8],[]⟩,⟨10,[],[],none,[0,1,2,3,4,5,6,7,8,9],[]⟩]else[])
 ldF:=(λi=>bif Nat.beq i 16 then some (.int .u8)else none) }
theorem Zhy(p0:Int)(c0b c0o:Nat)(m:Mem)(R:RT)(h:
 ∃(v:Value),m c0b (c0o+1)=some v/\chk (Zbi v) (br ((↑(slN v):Int) == (0:Int)) (∃(m'':Mem),m.le m''/\m''.le m/\R (int i64 0) m'' []) (∃(v:Value),m c0b (c0o+1)=some v/\∃(v_1:Value),
 m c0b (c0o+1)=some v_1/\chk (Zbi v_1) ((↑(slN v_1):Int)≠(0:Int)/\chk (Zbi v) (∃(b:Nat),∃(o:Nat),slA v=some (Addr.mk b o none)/\Zaf (Int.tmod p0 (↑(slN v_1):Int)) (slN v)/\∃(v:Value),m
 b (o+Int.toNat (Int.tmod p0 (↑(slN v_1):Int))*1)=some v/\∃(n:Int),v=int u8 n/\∃(m'':Mem),m.le m''/\m''.le m/\R (int i64 (i64.wrap n)) m'' []))))):CX Tryz.prog 31 #[.int .i64 p0,.pointer (some ⟨c0b,c0o,none⟩)] m [] R:=
 Zad (E:=ZiR) Zak mix Tryz.func31 [.v (.int .i64 p0),.v (.pointer (some ⟨c0b,c0o,none⟩))] [] (by kernel_rfl) (Eq.mp (by kernel_rfl) h)
noncomputable def ZiS:Env:={ EB with
 loops:=(λi=>bif Nat.beq i 5 then⟨[(3,.int .i64),(14,.int .i64)],[],[],false⟩ else⟨[],[],[],false⟩)
 frzNew:=[1] }
theorem Zhz(aA aB aC aD aR aM aQ:Int)(aO:Option Addr)(aN aP:Nat)(m:Mem)(R:RT)(h:
 ∀(b:Nat)(m':Mem),m.le m'->m'.reads b 0 [int u8 aA,int u64 aB,int u64 aC,int u64 aD,int u64 aR,int i64 aM,int i64 aQ,slice aO aN aP]->br (aA == (6:Int)) (∃(I:IT),(∃
 (n:Nat),I [int i64 (i64.wrap ((0:Int)+(1:Int))),int i64 0] [] [] m' n)/\∀(n ab:Int)(aa:Mem)(aj:Nat),m'.le aa->I [int i64 n,int i64 ab] [] [] aa aj->br (decide (ab < (↑aN:Int)))
 (∃(ak:Nat),∃(o:Nat),aO=some (Addr.mk ak o none)/\Zaf ab aN/\∃v ac ad ae af ag ah ai:Value,aa.reads ak (o+Int.toNat ab*8) [v,ac,ad,ae,af,ag,ah,ai]/\∀(am:Nat),chk (v.oneCell'&&(ac.oneCell'&&(ad.oneCell'&&(ae.oneCell'&&(af.oneCell'&&(ag.oneCell' &&
 (ah.oneCell'&&(ai.oneCell'&&true)))))))) (∃(R:RT),True/\CX Tryz.prog 66 (Array.mk [agg (Array.mk [v,ac,ad,ae,af,ag,ah,ai])]) aa [] R/\Zap (Shape.int i64) R/\∀(al:Int)(m':Mem),aa.le m'->R (int i64 al) m' []->[some (Box.mk b [int u8 aA,int u64 aB,int u64 aC,int u64 aD,int u64 aR,int i64 aM,int i64 aQ,slice aO aN aP] 52 8 true true)]=[some (Box.mk b [int u8 aA,
 int u64 aB,int u64 aC,int u64 aD,int u64 aR,int i64 aM,int i64 aQ,slice aO aN aP] 52 8 true true)]/\∃(n':Nat),n' < aj/\I [int i64 (i64.wrap (n+al)),int i64 (i64.wrap
 (ab+(1:Int)))] [] [] m' n')) (∃(m'':Mem),m.le m''/\m''.le aa/\R (int i64 n) m'' [])) (∃(I:IT),(∃(n:Nat),I [int i64 0,int i64 0] [] [] m' n)/\∀(n ab:Int)(aa:Mem)(aj:Nat),m'.le aa
 -> I [int i64 n,int i64 ab] [] [] aa aj->br (decide (ab < (↑aN:Int))) (∃(ak:Nat),∃(o:Nat),aO=some (Addr.mk ak o none)/\Zaf ab aN/\∃v ac ad ae af ag ah ai:Value,aa.reads ak (o+Int.toNat ab*8) [v,ac,ad,ae,af,ag,ah,ai]/\∀(am:Nat),chk (v.oneCell'&&(ac.oneCell' &&
 (ad.oneCell'&&(ae.oneCell'&&(af.oneCell'&&(ag.oneCell'&&(ah.oneCell'&&(ai.oneCell'&&true)))))))) (∃(R:RT),True/\CX Tryz.prog 66 (Array.mk [agg (Array.mk [v,ac,ad,
 ae,af,ag,ah,ai])]) aa [] R/\Zap (Shape.int i64) R/\∀(al:Int)(m':Mem),aa.le m'->R (int i64 al) m' []->[some (Box.mk b [int u8 aA,int u64 aB,int u64 aC,int u64 aD,int u64 aR,int i64
 aM,int i64 aQ,slice aO aN aP] 52 8 true true)]=[some (Box.mk b [int u8 aA,int u64 aB,int u64 aC,int u64 aD,int u64 aR,int i64 aM,int i64 aQ,slice aO aN aP] 52 8 true true)]
 /\ ∃(n':Nat),n' < aj/\I [int i64 (i64.wrap (n+al)),int i64 (i64.wrap (ab+(1:Int)))] [] [] m' n')) (∃(m'':Mem),m.le m''/\m''.le aa/\R (int i64 n) m'' []))):CX Tryz.prog 66 #[.agg #[.int .u8 aA,.int .u64 aB,.int .u64 aC,.int .u64 aD,.int .u64 aR,.int .i64 aM,.int .i64 aQ,.slice aO aN aP]] m [] R:=
 Zad (E:=ZiS) Zak mix Tryz.func66 [.v (.agg #[.int .u8 aA,.int .u64 aB,.int .u64 aC,.int .u64 aD,.int .u64 aR,.int .i64 aM,.int .i64 aQ,.slice aO aN aP])] [] (by kernel_rfl) (Eq.mp (by kernel_rfl) h)
noncomputable def ZhA:Env:={ EB with
 loops:=(λi=>bif Nat.beq i 6 then⟨[(23,.int .i64)],[2],[(33,5)],false⟩ else⟨[],[],[],false⟩)
 joins:=(λi=>bif Nat.beq i 1 then some [(16,.bool)]else none)
 dr:=(λi=>bif Nat.beq i 8 then[⟨0,[2],[],none,[],[]⟩,⟨1,[2],[],none,[0],[]⟩,⟨2,[7],[],none,[],[]⟩,⟨3,[],[],none,[],[]⟩,⟨4,[],[],none,[2,3],[]⟩,⟨5,[32],[32],none,[2,3,4],[4]⟩,⟨6,[32],[],some 33,[0,1,2,3,4,5],[5]⟩,⟨7,[2],[],none,[0,1,2,3,4,5,6],[]⟩,⟨8,[2],[2],none,[0,1,2,3,4,5,6,7],[]⟩]else[])
 tokOf:=(λi=>bif Nat.beq i 33 then 33 else 0) }
theorem Zgs(aA:Int)(aB:Value)(aC:ByteArray)(aD:Int)(aT:Option Addr)(aS aU:Nat)(p1:Int)(m:Mem)(R:RT)(h:
 ∀(b ac:Nat),∃(an:Bool),br (aA == (10:Int)) ([some (Box.mk ac [int u8 0,Value.float .f64 0,string bE0,int i64 0,slice none 0 0] 133 5 false true),some (Box.mk b [int u8
 aA,aB,string aC,int i64 aD,slice aT aS aU] 133 5 false true)]=[some (Box.mk ac [int u8 0,Value.float .f64 0,string bE0,int i64 0,slice none 0 0] 133 5 false
 true),some (Box.mk b [int u8 aA,aB,string aC,int i64 aD,slice aT aS aU] 133 5 false true)]/\[bool (decide (aD > p1))]=[bool an]) ([some (Box.mk ac [int u8 0,Value.float .f64 0,
 string bE0,int i64 0,slice none 0 0] 133 5 false true),some (Box.mk b [int u8 aA,aB,string aC,int i64 aD,slice aT aS aU] 133 5 false true)]=[some (Box.mk ac [int u8 0,
 Value.float .f64 0,string bE0,int i64 0,slice none 0 0] 133 5 false true),some (Box.mk b [int u8 aA,aB,string aC,int i64 aD,slice aT aS aU] 133 5 false true)]/\
 [bool false]=[bool an])/\br an (∃(m'':Mem),m.le m''/\m''.le m/\R (agg (Array.mk [int u8 9,Value.float .f64 0,string (ByteArray.mk (Array.mk [121])),int i64 0,slice none 0 0])) m''
 []) (∃(I:IT),(∃(n:Nat),I [int i64 0] [[int u8 aA,aB,string aC,int i64 aD,slice none 0 0]] [slice none 0 0] m n)/\∀(n:Int)(cs:List Value)(a:Option Addr)(ap c:Nat)(m':Mem)(aq:Nat),
 m.le m'->I [int i64 n] [cs] [slice a ap c] m' aq->br (decide (n < (↑aS:Int))) (∃(ar:Nat),∃(o:Nat),aT=some (Addr.mk ar o none)/\Zaf n aS/\∃v aj ak al am:Value,m'.reads ar (o+Int.toNat n*5) [v,aj,ak,al,am]/\∀(au:Nat),chk (v.oneCell'&&(aj.oneCell'&&(ak.oneCell'&&(al.oneCell'&&(am.oneCell' &&
 true))))) (∃(f:Fx),Eng.Ztt cs 4 λ(aa:Value)=>∃(R:RT),R=f 4 [agg (Array.mk [v,aj,ak,al,am]),int i64 p1] m'/\CX Tryz.prog 104 (Array.mk [agg (Array.mk [v,aj,ak,al,am]),int i64 p1]) m' [] R/\
 Zap (Shape.agg [Shape.int u8,Shape.any,Shape.str,Shape.int i64,Shape.slice]) R/\∀(ae:Int)(v:Value)(s:ByteArray)(af:Int)(ag:Option Addr)(ah ai:Nat)(ab:Mem),m'.le ab->R (agg (Array.mk [int
 u8 ae,v,string s,int i64 af,slice ag ah ai])) ab []->∀(ad:Nat),ab.free ad->chk (Zbi aa&&true) ((Tok.mk (slice a ap c) 5=Tok.mk aa 5\/aa=slice none 0 0\/slC aa < slN aa+1)/\∃(xs:List Value),
 ∃(ys:List Value),xs.length=slN aa*5/\ys.length=1*5/\rowRd (ab.add ad [int u8 ae,v,string s,int i64 af,slice ag ah ai]) (slA aa) xs/\rowRd (ab.add ad [int u8 ae,v,string s,int i64
 af,slice ag ah ai]) (some (Addr.mk ad 0 none)) ys/\(∀(u:Value),u∈ys->u.oneCell'=true)/\(slN aa+1)*64<=140737488355328/\slN aa+1<=9223372036854775807/\∀(a':Option Addr)(c':Nat) (ao:
 Mem),Mem.le (ab.add ad [int u8 ae,v,string s,int i64 af,slice ag ah ai]) ao->rowRd ao a' (List.append xs ys)->chk (Nat.ble 5 (cs.length)) (∀(M:Mem),m'.le M->ab.le M->Mem.le (ab.add ad
 [int u8 ae,v,string s,int i64 af,slice ag ah ai]) M->ao.le M->[some (Box.mk ac [int u8 0,Value.float .f64 0,string bE0,int i64 0,slice none 0 0] 133 5 false true),some
 (Box.mk b [] 133 5 false true)]=[some (Box.mk ac [int u8 0,Value.float .f64 0,string bE0,int i64 0,slice none 0 0] 133 5 false true),some (Box.mk b [] 133 5 false true)]/\∃(n'
 : Nat),n' < aq/\I [int i64 (i64.wrap (n+(1:Int)))] [ZaG cs 4 [slice a' (slN aa+1) c']] [slice a' (slN aa+1) c'] M n')))) (chk (Nat.beq (cs.length) 5&&Zdv cs) (∃(m'':Mem),m.le m''/\
 m''.le m'/\R (agg (Array.mk cs)) m'' [])))):CX Tryz.prog 104 #[.agg #[.int .u8 aA,aB,.string aC,.int .i64 aD,.slice aT aS aU],.int .i64 p1] m [] R:=
 Zad (E:=ZhA) Zak mix Tryz.func104 [.v (.agg #[.int .u8 aA,aB,.string aC,.int .i64 aD,.slice aT aS aU]),.v (.int .i64 p1)] [] (by kernel_rfl) (Eq.mp (by kernel_rfl) h)
noncomputable def Zgt:Env:={ EB with
 loops:=(λi=>bif Nat.beq i 3 then⟨[(7,.slice),(18,.int .i64)],[],[(56,8)],false⟩ else⟨[],[],[],false⟩)
 joins:=(λi=>bif Nat.beq i 11 then some [(47,.bool)]else none)
 tokOf:=(λi=>bif Nat.beq i 34 then 56 else bif Nat.beq i 56 then 56 else bif Nat.beq i 68 then 56 else bif Nat.beq i 79 then 56 else bif Nat.beq i 93 then 56 else 0)
 frzNew:=[4]
 cuts:=(λi=>bif Nat.beq i 11 then some ⟨[(35,.bool)],[],[],false⟩ else bif Nat.beq i 15 then some ⟨[(57,.bool)],[],[],false⟩ else bif Nat.beq i 20 then some ⟨[(80,.bool)],[],[],false⟩ else none)
 ldF:=(λi=>bif Nat.beq i 53 then some (.str)else bif Nat.beq i 65 then some (.str)else bif Nat.beq i 76 then some (.str)else bif Nat.beq i 21 then some (.int .u8)else bif Nat.beq i 45 then some (.int .u8)else none) }
theorem Zfu(p0a:Option Addr)(p0n p0c:Nat)(aW:Int)(aX:Value)(aY:ByteArray)(aZ:Int)(bD:Option Addr)(bC bE:Nat)(p2:Int)(m:Mem)(R:RT)(h:
 ∀(b:Nat)(m':Mem),m.le m'->m'.reads b 0 [int u8 aW,aX,string aY,int i64 aZ,slice bD bC bE]->(((0:Int)<=if(5:Int) < (↑p0n:Int)then(5:Int)else(↑p0n:Int))/\(if(5:
 Int) < (↑p0n:Int)then(5:Int)else(↑p0n:Int))<=(↑p0c:Int))/\∃(I:IT),(∃(n:Nat),I [slice none 0 0,int i64 0] [] [slice none 0 0] m' n)/\∀(a:Option Addr)(n c:Nat)(ai:Int)(ab:Option Addr)
 (ac ad:Nat) (ak:Mem) (aj:Nat),m'.le ak->I [slice a n c,int i64 ai] [] [slice ab ac ad] ak aj->br (decide (ai < (↑(Int.toNat (if(5:Int) < (↑p0n:Int)then(5:Int)else(↑p0n:Int)) - 0):Int))) (∃
 (ap:Nat),∃(o:Nat),ZaU p0a 0 p0c 1=some (Addr.mk ap o none)/\Zaf ai (Int.toNat (if(5:Int) < (↑p0n:Int)then(5:Int)else(↑p0n:Int)) - 0)/\∃(v:Value),ak ap (o+Int.toNat ai*1)=some v/\
 ∃(ae:Int),v=int u8 ae/\(8:Int)≠(0:Int)/\(8:Int)≠(0:Int)/\∃(J:JT),br (Int.tmod ae (8:Int) == (0:Int)) ([some (Box.mk b [int u8 aW,aX,string aY,int i64 aZ,slice bD bC bE]
 133 5 true true)]=[some (Box.mk b [int u8 aW,aX,string aY,int i64 aZ,slice bD bC bE] 133 5 true true)]/\[some (Tok.mk (slice ab ac ad) 8)]=[some (Tok.mk (slice ab ac ad) 8)]/\J [bool (Int.tmod
 ae (8:Int) == (0:Int))] [] [] ak) ([some (Box.mk b [int u8 aW,aX,string aY,int i64 aZ,slice bD bC bE] 133 5 true true)]=[some (Box.mk b [int u8 aW,aX,string aY,int i64 aZ,slice
 bD bC bE] 133 5 true true)]/\[some (Tok.mk (slice ab ac ad) 8)]=[some (Tok.mk (slice ab ac ad) 8)]/\J [bool (Int.tmod ae (8:Int) == (1:Int))] [] [] ak)/\∀(aq:Bool)(m':Mem),ak.le m'->J [bool
 aq] [] [] m'->br aq (∃(al:Bool),br (decide (i64.wrap ((↑n:Int) - (1:Int)) < (0:Int))) ([some (Box.mk b [int u8 aW,aX,string aY,int i64 aZ,slice bD bC bE] 133 5 true true)]=[some
 (Box.mk b [int u8 aW,aX,string aY,int i64 aZ,slice bD bC bE] 133 5 true true)]/\[some (Tok.mk (slice ab ac ad) 8)]=[some (Tok.mk (slice ab ac ad) 8)]/\[bool true]=[bool al]) (∃(af:Nat),∃
 (o:Nat),a=some (Addr.mk af o none)/\Zaf (i64.wrap ((↑n:Int) - (1:Int))) n/\∃(v:Value),m' af (o+Int.toNat (i64.wrap ((↑n:Int) - (1:Int)))*8+0)=some v/\∃(n:Int),v=int
 u8 n/\[some (Box.mk b [int u8 aW,aX,string aY,int i64 aZ,slice bD bC bE] 133 5 true true)]=[some (Box.mk b [int u8 aW,aX,string aY,int i64 aZ,slice bD bC bE] 133 5 true
 true)]/\[some (Tok.mk (slice ab ac ad) 8)]=[some (Tok.mk (slice ab ac ad) 8)]/\[bool !n == (1:Int)]=[bool al])/\br al (∀(af:Nat),m'.free af->(5:Int)≠(0:Int)/\Zaf (Int.tmod (i64.wrap
 (Int.tdiv (i64.wrap ae) (8:Int))) (5:Int)) 5/\Eng.Ztt [string (ByteArray.mk (Array.mk [97])),string (ByteArray.mk (Array.mk [45])),string (ByteArray.mk (Array.mk [97,98,32])),string (ByteArray.mk (Array.mk [0,255])),string (ByteArray.mk (Array.mk [49,50]))] (Int.toNat (Int.tmod (i64.wrap (Int.tdiv (i64.wrap
 ae) (8:Int))) (5:Int))*1) λ(v:Value)=>∃(s:ByteArray),v=string s/\∀(aa:Nat),Mem.free (m'.add af [string (ByteArray.mk (Array.mk [97])),string (ByteArray.mk (Array.mk [45])),string (ByteArray.mk (Array.mk [97,98,32])),string (ByteArray.mk (Array.mk [0,255])),string (ByteArray.mk (Array.mk [49,50]))]) aa->
 (Tok.mk (slice ab ac ad) 8=Tok.mk (slice a n c) 8\/slice a n c=slice none 0 0\/c < n+1)/\∃(xs:List Value),∃(ys:List Value),xs.length=n*8/\ys.length=1*8/\rowRd (Mem.add (m'.add af
 [string (ByteArray.mk (Array.mk [97])),string (ByteArray.mk (Array.mk [45])),string (ByteArray.mk (Array.mk [97,98,32])),string (ByteArray.mk (Array.mk [0,255])),string (ByteArray.mk (Array.mk [49,50]))]) aa [int u8 1,string s,int i64 0,int u8 0,Value.float .f64 0,string bE0,int i64 0,slice
 none 0 0]) a xs/\rowRd (Mem.add (m'.add af [string (ByteArray.mk (Array.mk [97])),string (ByteArray.mk (Array.mk [45])),string (ByteArray.mk (Array.mk [97,98,32])),string (ByteArray.mk (Array.mk [0,255])),string (ByteArray.mk (Array.mk [49,50]))]) aa [int u8 1,string s,int i64 0,int u8 0,Value.float .f64 0,string
 bE0,int i64 0,slice none 0 0]) (some (Addr.mk aa 0 none)) ys/\(∀(u:Value),u∈ys->u.oneCell'=true)/\(n+1)*96<=140737488355328/\n+1<=9223372036854775807/\∀(a':Option
 Addr) (c':Nat) (ah:Mem),Mem.le (Mem.add (m'.add af [string (ByteArray.mk (Array.mk [97])),string (ByteArray.mk (Array.mk [45])),string (ByteArray.mk (Array.mk [97,98,
 32])),string (ByteArray.mk (Array.mk [0,255])),string (ByteArray.mk (Array.mk [49,50]))]) aa [int u8 1,string s,int i64 0,int u8 0,Value.float .f64 0,
 string bE0,int i64 0,slice none 0 0]) ah->rowRd ah a' (List.append xs ys)->[some (Box.mk b [int u8 aW,aX,string aY,int i64 aZ,slice bD bC bE] 133 5 true true)]=[some
 (Box.mk b [int u8 aW,aX,string aY,int i64 aZ,slice bD bC bE] 133 5 true true)]/\∃(n':Nat),n' < aj/\I [slice a' (n+1) c',int i64 (i64.wrap (ai+(1:Int)))] [] [slice a' (n+1) c']
 ah n') ([some (Box.mk b [int u8 aW,aX,string aY,int i64 aZ,slice bD bC bE] 133 5 true true)]=[some (Box.mk b [int u8 aW,aX,string aY,int i64 aZ,slice bD bC bE] 133 5 true
 true)]/\∃(n':Nat),n' < aj/\I [slice a n c,int i64 (i64.wrap (ai+(1:Int)))] [] [slice ab ac ad] m' n')) (∃(J:JT),br (Int.tmod ae (8:Int) == (2:Int)) ([some (Box.mk b [int u8 aW,aX,string
 aY,int i64 aZ,slice bD bC bE] 133 5 true true)]=[some (Box.mk b [int u8 aW,aX,string aY,int i64 aZ,slice bD bC bE] 133 5 true true)]/\[some (Tok.mk (slice ab ac ad) 8)]=[some
 (Tok.mk (slice ab ac ad) 8)]/\J [bool (Int.tmod ae (8:Int) == (2:Int))] [] [] m') ([some (Box.mk b [int u8 aW,aX,string aY,int i64 aZ,slice bD bC bE] 133 5 true true)]=[some (Box.mk b [int u8
 aW,aX,string aY,int i64 aZ,slice bD bC bE] 133 5 true true)]/\[some (Tok.mk (slice ab ac ad) 8)]=[some (Tok.mk (slice ab ac ad) 8)]/\J [bool (Int.tmod ae (8:Int) == (3:Int))] [] [] m')/\∀
 (al:Bool) (ah:Mem),m'.le ah->J [bool al] [] [] ah->br al (∃(R:RT),True/\CX Tryz.prog 33 (Array.mk []) ah [] R/\Zap Shape.slice R/\∀(am:Option Addr)(an ao:Nat)(m':Mem),ah.le m'->R (slice
 am an ao) m' []->(2:Int)≠(0:Int)/\∃(af:Nat),∃(o:Nat),am=some (Addr.mk af o none)/\Zaf (Int.tmod (i64.wrap (Int.tdiv (i64.wrap ae) (8:Int))) (2:Int)) an/\∃(v:Value),m' af
 (o+Int.toNat (Int.tmod (i64.wrap (Int.tdiv (i64.wrap ae) (8:Int))) (2:Int))*1)=some v/\∃(s:ByteArray),v=string s/\∀(aa:Nat),m'.free aa->(Tok.mk (slice ab ac ad) 8=Tok.mk
 (slice a n c) 8\/slice a n c=slice none 0 0\/c < n+1)/\∃(xs:List Value),∃(ys:List Value),xs.length=n*8/\ys.length=1*8/\rowRd (m'.add aa [int u8 2,string s,int i64 0,int u8 0,
 Value.float .f64 0,string bE0,int i64 0,slice none 0 0]) a xs/\rowRd (m'.add aa [int u8 2,string s,int i64 0,int u8 0,Value.float .f64 0,string bE0,int i64 0,slice none 0 0]) (some (Addr.mk aa 0 none)) ys/\(∀(u:Value),u∈ys->u.oneCell'=true)/\(n+1)*96<=140737488355328/\n+1<=9223372036854775807/\∀(a':Option Addr) (c':
 Nat) (ag:Mem),Mem.le (m'.add aa [int u8 2,string s,int i64 0,int u8 0,Value.float .f64 0,string bE0,int i64 0,slice none 0 0]) ag->rowRd ag a' (List.append xs ys)->[some
 (Box.mk b [int u8 aW,aX,string aY,int i64 aZ,slice bD bC bE] 133 5 true true)]=[some (Box.mk b [int u8 aW,aX,string aY,int i64 aZ,slice bD bC bE] 133 5 true true)]/\∃(n':
 Nat),n' < aj/\I [slice a' (n+1) c',int i64 (i64.wrap (ai+(1:Int)))] [] [slice a' (n+1) c'] ag n') (br (Int.tmod ae (8:Int) == (4:Int)) (∃(R:RT),True/\CX Tryz.prog 32 (Array.mk []) ah [] R/\
 Zap Shape.slice R/\∀(am:Option Addr)(an ao:Nat)(m':Mem),ah.le m'->R (slice am an ao) m' []->(4:Int)≠(0:Int)/\∃(af:Nat),∃(o:Nat),am=some (Addr.mk af o none)/\Zaf (Int.tmod
 (i64.wrap (Int.tdiv (i64.wrap ae) (8:Int))) (4:Int)) an/\∃(v:Value),m' af (o+Int.toNat (Int.tmod (i64.wrap (Int.tdiv (i64.wrap ae) (8:Int))) (4:Int))*1)=some v/\∃(s:
 ByteArray),v=string s/\∀(aa:Nat),m'.free aa->(Tok.mk (slice ab ac ad) 8=Tok.mk (slice a n c) 8\/slice a n c=slice none 0 0\/c < n+1)/\∃(xs:List Value),∃(ys:List Value),xs.length=n *
 8/\ys.length=1*8/\rowRd (m'.add aa [int u8 2,string s,int i64 0,int u8 0,Value.float .f64 0,string bE0,int i64 0,slice none 0 0]) a xs/\rowRd (m'.add aa [int
 u8 2,string s,int i64 0,int u8 0,Value.float .f64 0,string bE0,int i64 0,slice none 0 0]) (some (Addr.mk aa 0 none)) ys/\(∀(u:Value),u∈ys->u.oneCell'=true)/\(n +
 1)*96<=140737488355328/\n+1<=9223372036854775807/\∀(a':Option Addr)(c':Nat)(ag:Mem),Mem.le (m'.add aa [int u8 2,string s,int i64 0,int u8 0,Value.float .f64 0,string bE0,int i64 0,slice none 0 0]) ag->rowRd ag a' (List.append xs ys)->[some (Box.mk b [int u8 aW,aX,string aY,int i64 aZ,slice bD bC bE] 133 5 true true)]=[some (Box.mk b [int u8
 aW,aX,string aY,int i64 aZ,slice bD bC bE] 133 5 true true)]/\∃(n':Nat),n' < aj/\I [slice a' (n+1) c',int i64 (i64.wrap (ai+(1:Int)))] [] [slice a' (n+1) c'] ag n') (∃(J:
 JT),br (Int.tmod ae (8:Int) == (5:Int)) ([some (Box.mk b [int u8 aW,aX,string aY,int i64 aZ,slice bD bC bE] 133 5 true true)]=[some (Box.mk b [int u8 aW,aX,string aY,int i64 aZ,
 slice bD bC bE] 133 5 true true)]/\[some (Tok.mk (slice ab ac ad) 8)]=[some (Tok.mk (slice ab ac ad) 8)]/\J [bool (Int.tmod ae (8:Int) == (5:Int))] [] [] ah) ([some (Box.mk b [int u8 aW,aX,string
 aY,int i64 aZ,slice bD bC bE] 133 5 true true)]=[some (Box.mk b [int u8 aW,aX,string aY,int i64 aZ,slice bD bC bE] 133 5 true true)]/\[some (Tok.mk (slice ab ac ad) 8)]=[some
 (Tok.mk (slice ab ac ad) 8)]/\J [bool (Int.tmod ae (8:Int) == (6:Int))] [] [] ah)/\∀(af:Bool)(m':Mem),ah.le m'->J [bool af] [] [] m'->br af (br (decide (p2 ≥ (0:Int))) (i64.wrap ((if(9:
 Int) < p2 then(9:Int)else p2)+(1:Int))≠(0:Int)/\∀(aa:Nat),m'.free aa->(Tok.mk (slice ab ac ad) 8=Tok.mk (slice a n c) 8\/slice a n c=slice none 0 0\/c < n+1)/\∃(xs:List Value),∃(ys:
 List Value),xs.length=n*8/\ys.length=1*8/\rowRd (m'.add aa [int u8 3,string bE0,int i64 (Int.tmod (i64.wrap (Int.tdiv (i64.wrap ae) (8:Int)))
 (i64.wrap ((if(9:Int) < p2 then(9:Int)else p2)+(1:Int)))),int u8 0,Value.float .f64 0,string bE0,int i64 0,slice none 0 0]) a xs/\rowRd (m'.add aa [int u8
 3,string bE0,int i64 (Int.tmod (i64.wrap (Int.tdiv (i64.wrap ae) (8:Int))) (i64.wrap ((if(9:Int) < p2 then(9:Int)else p2)+(1:Int)))),int u8 0,Value.float
 FloatKind.f64 0,string bE0,int i64 0,slice none 0 0]) (some (Addr.mk aa 0 none)) ys/\(∀(u:Value),u∈ys->u.oneCell'=true)/\(n+1)*96<=140737488355328/\n+1 <=
 9223372036854775807/\∀(a':Option Addr)(c':Nat)(ag:Mem),Mem.le (m'.add aa [int u8 3,string bE0,int i64 (Int.tmod (i64.wrap (Int.tdiv (i64.wrap ae) (8:Int)))
 (i64.wrap ((if(9:Int) < p2 then(9:Int)else p2)+(1:Int)))),int u8 0,Value.float .f64 0,string bE0,int i64 0,slice none 0 0]) ag->rowRd ag a' (List.append xs ys)
 -> [some (Box.mk b [int u8 aW,aX,string aY,int i64 aZ,slice bD bC bE] 133 5 true true)]=[some (Box.mk b [int u8 aW,aX,string aY,int i64 aZ,slice bD bC bE] 133 5 true true)]/\∃
 (n':Nat),n' < aj/\I [slice a' (n+1) c',int i64 (i64.wrap (ai+(1:Int)))] [] [slice a' (n+1) c'] ag n') ([some (Box.mk b [int u8 aW,aX,string aY,int i64 aZ,slice bD bC bE] 133 5
 true true)]=[some (Box.mk b [int u8 aW,aX,string aY,int i64 aZ,slice bD bC bE] 133 5 true true)]/\∃(n':Nat),n' < aj/\I [slice a n c,int i64 (i64.wrap (ai+(1:Int)))] [] [slice ab
 ac ad] m' n')) (∀(aa:Nat),m'.free aa->(Tok.mk (slice ab ac ad) 8=Tok.mk (slice a n c) 8\/slice a n c=slice none 0 0\/c < n+1)/\∃(xs:List Value),∃(ys:List Value),xs.length=n*8/\
 ys.length=1*8/\rowRd (m'.add aa [int u8 4,string bE0,int i64 0,int u8 aW,aX,string aY,int i64 aZ,slice bD bC bE]) a xs/\rowRd (m'.add aa [int u8 4,
 string bE0,int i64 0,int u8 aW,aX,string aY,int i64 aZ,slice bD bC bE]) (some (Addr.mk aa 0 none)) ys/\(∀(u:Value),u∈ys->u.oneCell'=true)/\(n+1)*96 <=
 140737488355328/\n+1<=9223372036854775807/\∀(a':Option Addr)(c':Nat)(ag:Mem),Mem.le (m'.add aa [int u8 4,string bE0,int i64 0,int u8 aW,aX,string aY,int i64 aZ,
 slice bD bC bE]) ag->rowRd ag a' (List.append xs ys)->[some (Box.mk b [int u8 aW,aX,string aY,int i64 aZ,slice bD bC bE] 133 5 true true)]=[some (Box.mk b [int u8 aW,aX,string
 aY,int i64 aZ,slice bD bC bE] 133 5 true true)]/\∃(n':Nat),n' < aj/\I [slice a' (n+1) c',int i64 (i64.wrap (ai+(1:Int)))] [] [slice a' (n+1) c'] ag n'))))) (∃(m'':Mem),m.le m''/\m''.le ak/\R (slice a n c) m'' [])):CX Tryz.prog 106 #[.slice p0a p0n p0c,.agg #[.int .u8 aW,aX,.string aY,.int .i64 aZ,.slice bD bC bE],.int .i64 p2] m [] R:=
 Zad (E:=Zgt) Zak mix Tryz.func106 [.v (.slice p0a p0n p0c),.v (.agg #[.int .u8 aW,aX,.string aY,.int .i64 aZ,.slice bD bC bE]),.v (.int .i64 p2)] [] (by kernel_rfl) (Eq.mp (by kernel_rfl) h)
noncomputable def ZiT:Env:={ EB with
 dr:=(λi=>bif Nat.beq i 4 then[⟨0,[],[],none,[],[]⟩,⟨1,[2],[],none,[],[]⟩,⟨2,[2],[],none,[1],[]⟩,⟨3,[],[],none,[1,2],[]⟩,⟨4,[],[],none,[0,1,2,3],[]⟩,⟨5,[],[],none,[0,1,2,3,4],[0]⟩,⟨6,[2],[],none,[],[]⟩,⟨7,[2],[],none,[6],[]⟩,⟨8,[5],[],none,[],[]⟩,⟨9,[],[],none,[],[]⟩,⟨10,[],[],none,[0,6,7,8,9],[0]⟩,⟨11,[],[],none,[0,1,2,3,4,5,6,7,8,9,10],[]⟩,⟨12,[4],[4],none,rg 0 12,[]⟩]else bif Nat.beq i 6 then[⟨0,[],[],none,[],[]⟩,⟨1,[2],[],none,[],[]⟩,⟨2,[2],[],none,[1],[]⟩,⟨3,[],[],none,[1,2],[]⟩,⟨4,[],[],none,[0,1,2,3],[]⟩,⟨5,[],[],none,[0,1,2,3,4],[0]⟩,⟨6,[5],[],none,[],[]⟩,⟨7,[],[],none,[0,1,2,3,4,5,6],[]⟩,⟨8,[4],[4],none,[0,1,2,3,4,5,6,7],[]⟩]else[])
 frzNew:=[2]
 ldF:=(λi=>bif Nat.beq i 26 then some (.str)else bif Nat.beq i 40 then some (.str)else none) }
theorem ZhB(aA aB:Int)(aJ:Option Addr)(aE aK:Nat)(jo:Option Addr)(f7 ij:Nat)(p1:Int)(m:Mem)(R:RT)(h:
 ∀(b:Nat)(m':Mem),m.le m'->m'.reads b 0 [int u8 aA,int u8 aB,slice aJ aE aK,slice jo f7 ij]->∀(b:Nat),(((0:Int)<=if(8:Int) < (↑f7:Int)then(8:Int)else(↑f7
 : Int))/\(if(8:Int) < (↑f7:Int)then(8:Int)else(↑f7:Int))<=(↑ij:Int))/\∃(R_1:RT),True/\CX Tryz.prog 105 (Array.mk [slice (ZaU jo 0 ij 3) (Int.toNat (if(8:Int) < (↑f7:Int)
 then(8:Int)else(↑f7:Int)) - 0) (ij - 0)]) m' [] R_1/\Zap (Shape.agg [Shape.int u8,Shape.any,Shape.str,Shape.int i64,Shape.slice]) R_1/\∀(n:Int)(v:Value)(s:ByteArray)(ak:Int) (a:Option
 Addr) (al c:Nat) (ah:Mem),m'.le ah->R_1 (agg (Array.mk [int u8 n,v,string s,int i64 ak,slice a al c])) ah []->∃(R_2:RT),True/\CX Tryz.prog 104 (Array.mk [agg (Array.mk [int u8 n,v,string s,int i64
 ak,slice a al c]),int i64 p1]) ah [] R_2/\Zap (Shape.agg [Shape.int u8,Shape.any,Shape.str,Shape.int i64,Shape.slice]) R_2/\∀(n:Int)(v:Value)(s:ByteArray)(ab:Int)(a:Option Addr)(ac c:Nat) (m'
 : Mem),ah.le m'->R_2 (agg (Array.mk [int u8 n,v,string s,int i64 ab,slice a ac c])) m' []->∀(b:Nat),chk (v.oneCell'&&true) ((4:Int)≠(0:Int)/\br (Int.tmod aA (4:Int) == (2:Int)) (∃(f
 : Fx),∃(R_3:RT),R_3=f 0 [] m'/\CX Tryz.prog 33 (Array.mk []) m' [] R_3/\Zap Shape.slice R_3/\∀(ad:Option Addr)(ae ai:Nat)(aa:Mem),m'.le aa->R_3 (slice ad ae ai) aa []->(2:Int)≠(0:Int)/\
 ∃(b:Nat),∃(o:Nat),ad=some (Addr.mk b o none)/\Zaf (Int.tmod aB (2:Int)) ae/\∃(af:Value),aa b (o+Int.toNat (Int.tmod aB (2:Int))*1)=some af/\∃(ag:ByteArray),af=string ag/\∃(R_4
 : RT),R_4=f 10 [slice aJ aE aK,agg (Array.mk [int u8 n,v,string s,int i64 ab,slice a ac c]),int i64 p1] aa/\CX Tryz.prog 106 (Array.mk [slice aJ aE aK,agg (Array.mk [int u8 n,v,string s,
 int i64 ab,slice a ac c]),int i64 p1]) aa [] R_4/\Zap Shape.slice R_4/\∀(a:Option Addr)(n c:Nat)(aj:Mem),aa.le aj->R_4 (slice a n c) aj []->∀(M:Mem),m'.le M->aa.le M->aj.le M->∃
 (m'':Mem),m.le m''/\m''.le M/\R (agg (Array.mk [int u8 2,string ag,slice a n c,int u8 0,Value.float .f64 0,string bE0,int i64 0,slice none 0 0])) m'' []) (br
 (Int.tmod aA (4:Int) == (3:Int)) (∃(f:Fx),∃(R_3:RT),R_3=f 0 [] m'/\CX Tryz.prog 32 (Array.mk []) m' [] R_3/\Zap Shape.slice R_3/\∀(ad:Option Addr)(ae ai:Nat)(aa:Mem),m'.le aa->R_3
 (slice ad ae ai) aa []->(4:Int)≠(0:Int)/\∃(b:Nat),∃(o:Nat),ad=some (Addr.mk b o none)/\Zaf (Int.tmod aB (4:Int)) ae/\∃(af:Value),aa b (o+Int.toNat (Int.tmod aB (4:Int))*1)=some
 af/\∃(ag:ByteArray),af=string ag/\chk (v.oneCell'&&true) (∀(M:Mem),m'.le M->aa.le M->∃(m'':Mem),m.le m''/\m''.le M/\R (agg (Array.mk [int u8 3,string ag,slice none 0 0,int
 u8 n,v,string s,int i64 ab,slice a ac c])) m'' [])) (∃(R_3:RT),True/\CX Tryz.prog 106 (Array.mk [slice aJ aE aK,agg (Array.mk [int u8 n,v,string s,int i64 ab,slice a ac c]),int i64 p1]) m' [] R_3
 /\ Zap Shape.slice R_3/\∀(a:Option Addr)(n c:Nat)(aa:Mem),m'.le aa->R_3 (slice a n c) aa []->∃(m'':Mem),m.le m''/\m''.le aa/\R (agg (Array.mk [int u8 1,string bE0,slice a n c,int u8 0,Value.float .f64 0,string bE0,int i64 0,slice none 0 0])) m'' [])))):CX Tryz.prog 67 #[.agg #[.int .u8 aA,.int .u8 aB,.slice aJ aE aK,.slice jo f7 ij],.int .i64 p1] m [] R:=
 Zad (E:=ZiT) Zak mix Tryz.func67 [.v (.agg #[.int .u8 aA,.int .u8 aB,.slice aJ aE aK,.slice jo f7 ij]),.v (.int .i64 p1)] [] (by kernel_rfl) (Eq.mp (by kernel_rfl) h)
noncomputable def Zm4:Env:={ EB with
 loops:=(λi=>bif Nat.beq i 18 then⟨[(65,.int .i64)],[5],[(75,8)],false⟩ else⟨[],[],[],false⟩)
 dr:=(λi=>bif Nat.beq i 4 then[⟨0,[2],[],none,[],[]⟩,⟨1,[2],[],none,[0],[]⟩,⟨2,[],[],none,[0,1],[]⟩,⟨3,[],[],none,[0,1,2],[]⟩,⟨4,[],[],none,[0,1,2,3],[]⟩,⟨5,[5],[],none,[],[]⟩,⟨6,[5],[5],none,[5],[]⟩,⟨7,[5],[],none,[0,1,2,3,4,5,6],[]⟩,⟨8,[5],[5],none,[0,1,2,3,4,5,6,7],[]⟩]else bif Nat.beq i 9 then[⟨0,[2],[],none,[],[]⟩,⟨1,[2],[],none,[0],[]⟩,⟨2,[],[],none,[0,1],[]⟩,⟨3,[],[],none,[0,1,2],[]⟩,⟨4,[2],[],none,[],[]⟩,⟨5,[2],[],none,[4],[]⟩,⟨6,[],[],none,[4,5],[]⟩,⟨7,[],[],none,[4,5,6],[]⟩,⟨8,[2],[],none,[],[]⟩,⟨9,[2],[],none,[8],[]⟩,⟨10,[],[],none,[8,9],[]⟩,⟨11,[],[],none,[0,1,2,3,4,5,6,7,8,9,10],[]⟩,⟨12,[5],[],none,rg 0 12,[]⟩,⟨13,[5],[5],none,rg 0 13,[]⟩]else bif Nat.beq i 13 then[⟨0,[46],[46],none,[],[]⟩,⟨1,[2],[],none,[],[]⟩,⟨2,[2],[],none,[1],[]⟩,⟨3,[],[],none,[1,2],[]⟩,⟨4,[46],[],none,[0,1,2,3],[]⟩,⟨5,[46],[],none,[0,1,2,3,4],[0]⟩,⟨6,[5],[],none,[],[]⟩,⟨7,[5],[5],none,[6],[]⟩,⟨8,[5],[],none,[0,1,2,3,4,5,6,7],[]⟩,⟨9,[5],[5],none,[0,1,2,3,4,5,6,7,8],[]⟩]else bif Nat.beq i 20 then[⟨0,[5],[],none,[],[]⟩,⟨1,[5],[],none,[0],[]⟩,⟨2,[8],[],none,[],[]⟩,⟨3,[],[],none,[],[]⟩,⟨4,[],[],none,[2,3],[]⟩,⟨5,[74],[74],none,[2,3,4],[4]⟩,⟨6,[74],[],some 75,[0,1,2,3,4,5],[5]⟩,⟨7,[5],[],none,[0,1,2,3,4,5,6],[]⟩,⟨8,[5],[5],none,[0,1,2,3,4,5,6,7],[]⟩]else bif Nat.beq i 24 then[⟨0,[],[],none,[],[]⟩,⟨1,[],[],none,[],[]⟩,⟨2,[],[],none,[],[]⟩,⟨3,[],[],none,[1,2],[]⟩,⟨4,[],[],none,[0,1,2,3],[]⟩,⟨5,[],[],none,[0,1,2,3,4],[0]⟩,⟨6,[5],[],none,[0,1,2,3,4,5],[]⟩,⟨7,[5],[5],none,[0,1,2,3,4,5,6],[]⟩]else[])
 tokOf:=(λi=>bif Nat.beq i 75 then 75 else 0)
 frzNew:=[2]
 cuts:=(λi=>bif Nat.beq i 8 then some ⟨[(21,.bool)],[],[],false⟩ else bif Nat.beq i 13 then some ⟨[(43,.bool)],[],[],false⟩ else bif Nat.beq i 17 then some ⟨[(6,.int .i64)],[5],[],false⟩ else bif Nat.beq i 26 then some ⟨[],[5],[],false⟩ else none)
 ldF:=(λi=>bif Nat.beq i 12 then some (.int .u8)else bif Nat.beq i 27 then some (.int .u8)else bif Nat.beq i 31 then some (.int .u8)else bif Nat.beq i 48 then some (.int .u8)else bif Nat.beq i 15 then some (.int .u8)else bif Nat.beq i 79 then some (.int .u8)else bif Nat.beq i 51 then some (.str)else bif Nat.beq i 89 then some (.str)else none) }
abbrev ZkO:List Value:=[int u8 0,bool false,bool false,int u8 0,int u64 0,int u64 0,int u64 0,int u64 0,int i64 0,int i64 0,slice none 0 0,string bE0,int i64 0,slice
 none 0 0,string bE0,int i64 0]
abbrev ZdV:Nat->Option Box:=λ(b:Nat)=>some (Box.mk b ZkO 57 16 false true)
abbrev Zf7:Int->Int->Int->Int->Option Addr->Nat->Nat->Option Addr->Nat->Nat->Nat->Option Box:=λ(aA aB aC aD:Int)(aT:Option Addr)(aS aU:Nat)(dQ:Option Addr)
 (cW dK b:Nat)=>some (Box.mk b [int u8 aA,int u8 aB,int u8 aC,int u8 aD,slice aT aS aU,slice dQ cW dK] 96 6 true true)
abbrev Zct:Int->Int->Int->Int->Option Addr->Nat->Nat->Option Addr->Nat->Nat->Nat->Nat->Nat->List (Option Box):=λ(aA aB aC aD:Int)(aT:Option Addr)(aS aU:Nat) (dQ
 : Option Addr) (cW dK b ab ac:Nat)=>[ZdV ac,ZdV ab,Zf7 aA aB aC aD aT aS aU dQ cW dK b]
abbrev ZbC:Int->Int->Int->Int->Option Addr->Nat->Nat->Option Addr->Nat->Nat->Nat->Nat->Nat->List (Option Box):=λ(aA aB aC aD:Int)(aT:Option Addr)(aS aU:Nat) (dQ
 : Option Addr) (cW dK b ab ac:Nat)=>[some (Box.mk ac [] 57 16 false true),ZdV ab,Zf7 aA aB aC aD aT aS aU dQ cW dK b]
abbrev ZkP:Int->Int->Int->Int->Int->Int->Int->Int->Int->Option Addr->Nat->Nat->List Value:=λ(n ak af an ae ag ah ai aq:Int)(a:Option Addr)(ar c:Nat)=>[int u8 1,bool (Int.tmod n (5
 : Int) == (4:Int)),bool (Int.tmod ak (7:Int) == (6:Int)),int u8 af,int u64 an,int u64 ae,int u64 ag,int u64 ah,int i64 ai,int i64 aq,slice a ar c,string bE0,int i64 0,slice
 none 0 0,string bE0,int i64 0]
abbrev ZkQ:ByteArray->List Value:=λ(s:ByteArray)=>[int u8 2,bool false,bool false,int u8 0,int u64 0,int u64 0,int u64 0,int u64 0,int i64 0,int i64 0,slice none 0 0,string s,int i64 0,
 slice none 0 0,string bE0,int i64 0]
abbrev ZkR:List Value:=[int u8 3,bool false,bool false,int u8 0,int u64 0,int u64 0,int u64 0,int u64 0,int i64 0,int i64 0,slice none 0 0,string bE0,int i64 0,slice
 none 0 0,string bE0,int i64 0]
abbrev ZkS:Int->List Value:=λ(n:Int)=>[int u8 4,bool false,bool false,int u8 0,int u64 0,int u64 0,int u64 0,int u64 0,int i64 0,int i64 0,slice none 0 0,string bE0,int i64 (i64.wrap ((1:Int)+i64.wrap (Int.tmod n (8:Int)))),slice none 0 0,string bE0,int i64 0]
theorem ZkT(aA aB aC aD:Int)(aT:Option Addr)(aS aU:Nat)(dQ:Option Addr)(cW dK:Nat)(p1:Int)(m:Mem)(R:RT)(h:
 ∀(b:Nat)(m':Mem),m.le m'->m'.reads b 0 [int u8 aA,int u8 aB,int u8 aC,int u8 aD,slice aT aS aU,slice dQ cW dK]->∀(ab ac:Nat),∃(J:JT),(∃(n:Int),int u8 aA =
 int u8 n/\(8:Int)≠(0:Int)/\∃(ax:JT),br (Int.tmod n (8:Int) == (0:Int)) (Zat (Zct aA aB aC aD aT aS aU dQ cW dK b ab ac)/\ax [bool (Int.tmod n (8:Int) == (0:
 Int))] [] [] m') (br (Int.tmod n (8:Int) == (1:Int)) (Zat (Zct aA aB aC aD aT aS aU dQ cW dK b ab ac)/\ax [bool (Int.tmod n (8:Int) == (1:Int))] [] [] m') (Zat
 (Zct aA aB aC aD aT aS aU dQ cW dK b ab ac)/\ax [bool (Int.tmod n (8:Int) == (2:Int))] [] [] m'))/\∀(am:Bool)(ad:Mem),m'.le ad->ax [bool am] [] [] ad->br am (∃(f:
 Fx),∃(n:Int),int u8 aB=int u8 n/\(5:Int)≠(0:Int)/\∃(ak:Int),int u8 aB=int u8 ak/\(7:Int)≠(0:Int)/\∃(R:RT),R=f 10 [slice aT aS aU] ad/\CX Tryz.prog 65 (Array.mk [slice
 aT aS aU]) ad [] R/\Zap (shT) R/\∀(af an ae ag ah ai aq:Int)(a:Option Addr)(ar c:Nat)(m':Mem),ad.le m'->R (agg (Array.mk [int u8 af,int u64 an,int u64 ae,int u64 ag,int u64 ah,int i64
 ai,int i64 aq,slice a ar c])) m' []->∀(M:Mem),ad.le M->m'.le M->∃(R:RT),True/\CX Tryz.prog 66 (Array.mk [agg (Array.mk [int u8 af,int u64 an,int u64 ae,int u64 ag,int u64 ah,int i64 ai,int
 i64 aq,slice a ar c])]) M [] R/\Zap (Shape.int i64) R/\∀(a4:Int)(m':Mem),M.le m'->R (int i64 a4) m' []->Zat (ZbC aA aB aC aD aT aS aU dQ cW dK b ab ac)/\J [int
 i64 a4] [ZkP n ak af an ae ag ah ai aq a ar c] [] m') (∃(a1:JT),br (Int.tmod n (8:Int) == (3:Int)) (Zat (Zct aA aB aC aD aT aS aU dQ cW dK b ab ac)/\a1 [bool
 (Int.tmod n (8:Int) == (3:Int))] [] [] ad) (Zat (Zct aA aB aC aD aT aS aU dQ cW dK b ab ac)/\a1 [bool (Int.tmod n (8:Int) == (4:Int))] [] [] ad)/\∀(a2:Bool) (m':
 Mem),ad.le m'->a1 [bool a2] [] [] m'->br a2 (∀(al:Nat),m'.free al->∃(n:Int),int u8 aB=int u8 n/\(6:Int)≠(0:Int)/\Zaf (Int.tmod n (6:Int)) 6/\Eng.Ztt [string (ByteArray.mk
 (Array.mk [97])),string (ByteArray.mk (Array.mk [98])),string (ByteArray.mk (Array.mk [97,98])),string (ByteArray.mk (Array.mk [98,97])),string
 (ByteArray.mk (Array.mk [97,97,98])),string (ByteArray.mk (Array.mk [99]))] (Int.toNat (Int.tmod n (6:Int))*1) λ(v:Value)=>∃(s:ByteArray),v=string s/\∀(M:
 Mem),m'.le M->Mem.le (m'.add al [string (ByteArray.mk (Array.mk [97])),string (ByteArray.mk (Array.mk [98])),string (ByteArray.mk (Array.mk [97,98])),string
 (ByteArray.mk (Array.mk [98,97])),string (ByteArray.mk (Array.mk [97,97,98])),string (ByteArray.mk (Array.mk [99]))]) M->Zat (ZbC aA aB
 aC aD aT aS aU dQ cW dK b ab ac)/\J [int i64 0] [ZkQ s] [] M) (br (Int.tmod n (8:Int) == (5:Int)) (Zat (ZbC aA aB aC aD aT aS aU dQ cW dK b ab
 ac)/\J [int i64 (-1:Int)] [ZkR] [] m') (∃(n:Int),int u8 aC=int u8 n/\(8:Int)≠(0:Int)/\Zat (ZbC aA aB aC aD aT aS aU dQ cW dK b ab ac)/\J [int i64 (-1
 : Int)] [ZkS n] [] m'))))/\∀(n:Int)(cs:List Value)(ad:Mem),m'.le ad->J [int i64 n] [cs] [] ad->(((0:Int)<=if(3:Int) < (↑cW:Int)then(3:Int)else(↑cW:Int))/\(if(3:Int) <
 (↑cW:Int)then(3:Int)else(↑cW:Int))<=(↑dK:Int))/\∃(I:IT),(∃(n:Nat),I [int i64 0] [cs] [slice none 0 0] ad n)/\∀(ak:Int)(cs:List Value)(a:Option Addr)(af c:Nat)(m':Mem) (an:
 Nat),ad.le m'->I [int i64 ak] [cs] [slice a af c] m' an->br (decide (ak < (↑(Int.toNat (if(3:Int) < (↑cW:Int)then(3:Int)else(↑cW:Int)) - 0):Int))) (∃(am:Nat),∃(o:Nat),ZaU dQ 0
 dK 4=some (Addr.mk am o none)/\Zaf ak (Int.toNat (if(3:Int) < (↑cW:Int)then(3:Int)else(↑cW:Int)) - 0)/\∃v ay az a0:Value,m'.reads am (o +
 Int.toNat ak*4) [v,ay,az,a0]/\∀(a2:Nat),chk (v.oneCell'&&(ay.oneCell'&&(az.oneCell'&&(a0.oneCell'&&true)))) (∃(f:Fx),Eng.Ztt cs 13 λ(aj:Value)=>∃(R:RT),R=f 4
 [agg (Array.mk [v,ay,az,a0]),int i64 n] m'/\CX Tryz.prog 67 (Array.mk [agg (Array.mk [v,ay,az,a0]),int i64 n]) m' [] R/\Zap (Shape.agg [Shape.int u8,Shape.str,Shape.slice,Shape.int u8,Shape.any,
 Shape.str,Shape.int i64,Shape.slice]) R/\∀(n:Int)(s:ByteArray)(ao:Option Addr)(ae ap:Nat)(ag:Int)(v:Value)(au:ByteArray)(ah:Int)(av:Option Addr)(ai aw:Nat)(aa:Mem),m'.le aa->R
 (agg (Array.mk [int u8 n,string s,slice ao ae ap,int u8 ag,v,string au,int i64 ah,slice av ai aw])) aa []->∀(al:Nat),aa.free al->chk (Zbi aj&&true) ((Tok.mk (slice a af c) 8=Tok.mk aj 8\/aj =
 slice none 0 0\/slC aj < slN aj+1)/\∃(xs:List Value),∃(ys:List Value),xs.length=slN aj*8/\ys.length=1*8/\rowRd (aa.add al [int u8 n,string s,slice ao ae ap,int u8 ag,v,string au,
 int i64 ah,slice av ai aw]) (slA aj) xs/\rowRd (aa.add al [int u8 n,string s,slice ao ae ap,int u8 ag,v,string au,int i64 ah,slice av ai aw]) (some (Addr.mk al 0 none)) ys/\(∀(u:Value),u∈ys->
 u.oneCell'=true)/\(slN aj+1)*112<=140737488355328/\slN aj+1<=9223372036854775807/\∀(a':Option Addr)(c':Nat)(a3:Mem),Mem.le (aa.add al [int u8 n,string s,slice ao ae ap,int u8 ag,v,
 string au,int i64 ah,slice av ai aw]) a3->rowRd a3 a' (List.append xs ys)->chk (Nat.ble 14 (cs.length)) (∀(M:Mem),m'.le M->aa.le M->Mem.le (aa.add al [int u8 n,string s,slice ao ae ap,int
 u8 ag,v,string au,int i64 ah,slice av ai aw]) M->a3.le M->Zat (ZbC aA aB aC aD aT aS aU dQ cW dK b ab ac)/\∃(n':Nat),n' < an/\I [int i64 (i64.wrap (ak+(1
 : Int)))] [ZaG cs 13 [slice a' (slN aj+1) c']] [slice a' (slN aj+1) c'] M n')))) (∃(J:JT),(∃(n:Int),int u8 aD=int u8 n/\(8:Int)≠(0:Int)/\br (decide (i64.wrap (Int.tmod n (8:Int)) <
 (6:Int))) (∃(f:Fx),∃(R:RT),R=f 0 [] m'/\CX Tryz.prog 34 (Array.mk []) m' [] R/\Zap Shape.slice R/\∀(ao:Option Addr)(ae ap:Nat)(aa:Mem),m'.le aa->R (slice ao ae ap) aa []->p1≠(0:Int)/\
 ∃(am:Nat),∃(o:Nat),ao=some (Addr.mk am o none)/\Zaf (Int.tmod (i64.wrap (Int.tmod n (8:Int))) p1) ae/\∃(v:Value),aa am (o+Int.toNat (Int.tmod (i64.wrap (Int.tmod n (8:Int))) p1)
 * 1)=some v/\∃(s:ByteArray),v=string s/\chk (Nat.ble 15 (cs.length)) (∀(M:Mem),m'.le M->aa.le M->Zat (ZbC aA aB aC aD aT aS aU dQ cW dK b ab ac)/\
 [some (Tok.mk (slice a af c) 8)]=[some (Tok.mk (slice a af c) 8)]/\J [] [ZaG cs 14 [string s]] [] M)) ((256:Int)≠(0:Int)/\chk (Nat.ble 16 (cs.length)) (Zat (ZbC aA aB aC aD aT
 aS aU dQ cW dK b ab ac)/\[some (Tok.mk (slice a af c) 8)]=[some (Tok.mk (slice a af c) 8)]/\J [] [ZaG cs 15 [int i64 (Int.tmod (i64.wrap (i64.wrap (Int.tmod n (8:Int))*(41:
 Int))) (256:Int))]] [] m')))/\∀(cs:List Value)(aa:Mem),m'.le aa->J [] [cs] [] aa->chk (Nat.beq (cs.length) 16&&Zdv cs) (∃(m'':Mem),m.le m''/\m''.le aa/\R (agg (Array.mk cs)) m''
 []))):CX Tryz.prog 35 #[.agg #[.int .u8 aA,.int .u8 aB,.int .u8 aC,.int .u8 aD,.slice aT aS aU,.slice dQ cW dK],.int .i64 p1] m [] R:=
 Zad (E:=Zm4) Zak mix Tryz.func35 [.v (.agg #[.int .u8 aA,.int .u8 aB,.int .u8 aC,.int .u8 aD,.slice aT aS aU,.slice dQ cW dK]),.v (.int .i64 p1)] [] (by kernel_rfl) (Eq.mp (by kernel_rfl) h)
noncomputable def Zm5:Env:={ EB with
 loops:=(λi=>bif Nat.beq i 4 then⟨[(24,.int .i64)],[3],[(41,4)],false⟩ else bif Nat.beq i 9 then⟨[(46,.int .i64)],[3],[(41,4)],false⟩ else bif Nat.beq i 15 then⟨[(77,.int .i64)],[3],[(111,2)],false⟩ else bif Nat.beq i 19 then⟨[(93,.int .i64)],[12],[(104,16)],false⟩ else⟨[],[],[],false⟩)
 dr:=(λi=>bif Nat.beq i 6 then[⟨0,[3],[],none,[],[]⟩,⟨1,[3],[],none,[0],[]⟩,⟨2,[],[],none,[],[]⟩,⟨3,[],[],none,[],[]⟩,⟨4,[],[],none,[],[]⟩,⟨5,[],[],none,[3,4],[]⟩,⟨6,[],[],none,[3,4,5],[]⟩,⟨7,[],[],none,[3,4,5,6],[]⟩,⟨8,[],[],none,[3,4,5,6,7],[]⟩,⟨9,[],[],none,[3,4,5,6,7,8],[]⟩,⟨10,[],[],none,[2,3,4,5,6,7,8,9],[]⟩,⟨11,[40],[40],none,[2,3,4,5,6,7,8,9,10],[5]⟩,⟨12,[40],[],some 41,rg 0 12,[11]⟩,⟨13,[3],[],none,rg 0 13,[]⟩,⟨14,[3],[3],none,rg 0 14,[]⟩]else bif Nat.beq i 11 then[⟨0,[3],[],none,[],[]⟩,⟨1,[3],[],none,[0],[]⟩,⟨2,[],[],none,[],[]⟩,⟨3,[54],[54],none,[],[]⟩,⟨4,[],[],none,[],[]⟩,⟨5,[],[],none,[],[]⟩,⟨6,[],[],none,[5],[]⟩,⟨7,[],[],none,[4,5,6],[]⟩,⟨8,[],[],none,[4,5,6,7],[]⟩,⟨9,[54],[],none,[3,4,5,6,7,8],[]⟩,⟨10,[54],[],none,[3,4,5,6,7,8,9],[3,7]⟩,⟨11,[],[],none,[3,4,5,6,7,8,9,10],[]⟩,⟨12,[],[],none,[2,3,4,5,6,7,8,9,10,11],[]⟩,⟨13,[64],[64],none,[2,3,4,5,6,7,8,9,10,11,12],[3,7]⟩,⟨14,[64],[],some 41,rg 0 14,[13]⟩,⟨15,[3],[],none,rg 0 15,[]⟩,⟨16,[3],[3],none,rg 0 16,[]⟩]else bif Nat.beq i 21 then[⟨0,[12],[],none,[],[]⟩,⟨1,[12],[],none,[0],[]⟩,⟨2,[14],[],none,[],[]⟩,⟨3,[],[],none,[],[]⟩,⟨4,[],[],none,[3],[]⟩,⟨5,[],[],none,[2,3,4],[]⟩,⟨6,[103],[103],none,[2,3,4,5],[5]⟩,⟨7,[103],[],some 104,[0,1,2,3,4,5,6],[6]⟩,⟨8,[12],[],none,[0,1,2,3,4,5,6,7],[]⟩,⟨9,[12],[12],none,[0,1,2,3,4,5,6,7,8],[]⟩]else[])
 tokOf:=(λi=>bif Nat.beq i 41 then 41 else bif Nat.beq i 65 then 41 else bif Nat.beq i 104 then 104 else bif Nat.beq i 111 then 111 else 0)
 frzNew:=[1]
 capF:=true
 ldF:=(λi=>bif Nat.beq i 28 then some (.str)else bif Nat.beq i 50 then some (.str)else bif Nat.beq i 61 then some (.str)else bif Nat.beq i 85 then some (.str)else bif Nat.beq i 16 then some (.int .u8)else none) }
theorem ZkU(aA:Int)(aH:Option Addr)(aG aI:Nat)(aJ:Option Addr)(aE aK:Nat)(m:Mem)(R:RT)(h:
 ∀(b:Nat)(m':Mem),m.le m'->m'.reads b 0 [int u8 aA,slice aH aG aI,slice aJ aE aK]->∀(al:Nat),∃(n:Int),int u8 aA=int u8 n/\(11:Int)≠(0:Int)/\∀(am:Nat),∃(R_1
 : RT),True/\CX Tryz.prog 32 (Array.mk []) m' [] R_1/\Zap Shape.slice R_1/\∀(a:Option Addr)(bk c:Nat)(bc:Mem),m'.le bc->R_1 (slice a bk c) bc []->∃(I:IT),(∃(ar:Nat),I [int i64 0] [[int i64
 (i64.wrap ((2:Int)+i64.wrap (Int.tmod n (11:Int)))),slice none 0 0,slice none 0 0]] [slice none 0 0] bc ar)/\∀(n:Int)(cs:List Value)(bl:Option Addr)(ar c:Nat)(m':Mem)(bo:Nat),
 bc.le m'->I [int i64 n] [cs] [slice bl ar c] m' bo->br (decide (n < (↑bk:Int))) (∃(an:Nat),∃(o:Nat),a=some (Addr.mk an o none)/\Zaf n bk/\∃(v:Value),m' an (o+Int.toNat n*1)=some v/\∃
 (s:ByteArray),v=string s/\∃(f:Fx),Eng.Ztt cs 1 λ(v:Value)=>∃(R:RT),R=f 5 [int i64 n,Value.pointer (some (Addr.mk b 0 none))] m'/\CX Tryz.prog 31 (Array.mk [int i64 n,Value.pointer (some
 (Addr.mk b 0 none))]) m' [] R/\Zap (Shape.int i64) R/\∀(ah:Int)(ae:Mem),m'.le ae->R (int i64 ah) ae []->(5:Int)≠(0:Int)/\∃(u:Value),ConvIs Tryz.prog 3 87 (int i64 (Int.tmod ah (5:Int))) u/\
 ∃(aa:Value),BinIs Tryz.prog BinOp.quo 87 u (Value.float .f64 4611686018427387904) aa/\chk (Nat.beq (List.length (Array.toList (Value.cells aa))) 1&&true) (chk (Nat.beq (List.length (List.append
 (Array.toList (Value.cells aa)) (List.drop (2+List.length (Array.toList (Value.cells aa))) [bool true,string bE0,Value.float .f64 0]))) (nat_lit 1)&&true) (chk (Nat.beq
 (List.length (List.append (List.append (Array.toList (Value.cells aa)) (List.drop (2+List.length (Array.toList (Value.cells aa))) [bool true,string bE0,Value.float .f64 0]))
 (List.drop (Nat.add 1 (List.length (List.append (Array.toList (Value.cells aa)) (List.drop (2+List.length (Array.toList (Value.cells aa))) [bool true,string bE0,Value.float .f64
 0])))) [string bE0,Value.float .f64 0]))) (nat_lit 1)&&true) (∀(ad:Nat),ae.free ad->chk (Zbi v&&true) ((Tok.mk (slice bl ar c) 4=Tok.mk v 4\/v=slice none 0 0\/slC v
 < slN v+1)/\∃(xs:List Value),∃(ys:List Value),xs.length=slN v*4/\ys.length=1*4/\rowRd (ae.add ad (string s::bool true::string bE0::List.append
 (List.append (List.append (Array.toList (Value.cells aa)) (List.drop (2+List.length (Array.toList (Value.cells aa))) [bool true,string bE0,Value.float .f64 0])) (List.drop (Nat.add
 1 (List.length (List.append (Array.toList (Value.cells aa)) (List.drop (2+List.length (Array.toList (Value.cells aa))) [bool true,string bE0,Value.float .f64 0])))) [string
 bE0,Value.float .f64 0])) [])) (slA v) xs/\rowRd (ae.add ad (string s::bool true::string bE0::List.append (List.append (List.append (Array.toList
 (Value.cells aa)) (List.drop (2+List.length (Array.toList (Value.cells aa))) [bool true,string bE0,Value.float .f64 0])) (List.drop (Nat.add 1 (List.length (List.append
 (Array.toList (Value.cells aa)) (List.drop (2+List.length (Array.toList (Value.cells aa))) [bool true,string bE0,Value.float .f64 0])))) [string bE0,
 Value.float .f64 0])) [])) (some (Addr.mk ad 0 none)) ys/\(∀(u:Value),u∈ys->u.oneCell'=true)/\(slN v+1)*48<=140737488355328/\slN v+1<=9223372036854775807/\∀(a':Option Addr) (c':
 Nat) (ab:Mem),Mem.le (ae.add ad (string s::bool true::string bE0::List.append (List.append (List.append (Array.toList (Value.cells aa)) (List.drop (2+List.length (Array.toList
 (Value.cells aa))) [bool true,string bE0,Value.float .f64 0])) (List.drop (Nat.add 1 (List.length (List.append (Array.toList (Value.cells aa)) (List.drop (2+List.length
 (Array.toList (Value.cells aa))) [bool true,string bE0,Value.float .f64 0])))) [string bE0,Value.float .f64 0])) [])) ab->rowRd ab a' (List.append
 xs ys)->slN v+1<=c'->chk (Nat.ble 2 (cs.length)) (∀(M:Mem),m'.le M->ae.le M->Mem.le (ae.add ad (string s::bool true::string bE0::List.append (List.append
 (List.append (Array.toList (Value.cells aa)) (List.drop (2+List.length (Array.toList (Value.cells aa))) [bool true,string bE0,Value.float .f64 0])) (List.drop (Nat.add 1
 (List.length (List.append (Array.toList (Value.cells aa)) (List.drop (2+List.length (Array.toList (Value.cells aa))) [bool true,string bE0,Value.float .f64 0])))) [string
 bE0,Value.float .f64 0])) [])) M->ab.le M->[some (Box.mk am [] 30 3 false true),some (Box.mk al [int i64 0,slice none 0 0,slice none 0 0] 30 3 false true),some (Box.mk b [int
 u8 aA,slice aH aG aI,slice aJ aE aK] 25 3 true true)]=[some (Box.mk am [] 30 3 false true),some (Box.mk al [int i64 0,slice none 0 0,slice none 0 0] 30 3 false true),some (Box.mk b [int u8
 aA,slice aH aG aI,slice aJ aE aK] 25 3 true true)]/\∃(n':Nat),n' < bo/\I [int i64 (i64.wrap (n+(1:Int)))] [ZaG cs 1 [slice a' (slN v+1) c']] [slice a' (slN v+1) c'] M
 n')))))) (∃(R_2:RT),True/\CX Tryz.prog 33 (Array.mk []) m' [] R_2/\Zap Shape.slice R_2/\∀(a:Option Addr)(n bz:Nat)(ae:Mem),m'.le ae->R_2 (slice a n bz) ae []->∃(I:IT),(∃(n:Nat),I [int i64
 0] [cs] [slice bl ar c] ae n)/\∀(ah:Int)(cs:List Value)(ai:Option Addr)(aj c:Nat)(m':Mem)(bp:Nat),ae.le m'->I [int i64 ah] [cs] [slice ai aj c] m' bp->br (decide (ah < (↑n:Int))) (∃(an:
 Nat),∃(o:Nat),a=some (Addr.mk an o none)/\Zaf ah n/\∃(v:Value),m' an (o+Int.toNat ah*1)=some v/\∃(s:ByteArray),v=string s/\∃(f:Fx),Eng.Ztt cs 1 λ(v:Value)=>∀(ad:Nat),
 m'.free ad->∃(R:RT),R=f 7 [int i64 (i64.wrap (ah+(4:Int))),Value.pointer (some (Addr.mk b 0 none))] m'/\CX Tryz.prog 31 (Array.mk [int i64 (i64.wrap (ah+(4:Int))),Value.pointer
 (some (Addr.mk b 0 none))]) m' [] R/\Zap (Shape.int i64) R/\∀(n:Int)(ab:Mem),m'.le ab->R (int i64 n) ab []->(5:Int)≠(0:Int)/\Zaf (Int.tmod n (5:Int)) 5/\∀(V:Mem),m'.le V->Mem.le
 (m'.add ad [string bE0,string (ByteArray.mk (Array.mk [97])),string (ByteArray.mk (Array.mk [98,98])),string (ByteArray.mk (Array.mk [49])),
 string (ByteArray.mk (Array.mk [48,46,53]))]) V->ab.le V->Eng.Ztt [string bE0,string (ByteArray.mk (Array.mk [97])),string (ByteArray.mk
 (Array.mk [98,98])),string (ByteArray.mk (Array.mk [49])),string (ByteArray.mk (Array.mk [48,46,53]))] (Int.toNat (Int.tmod n (5:Int))*1) λ(aa:
 Value)=>∃(ag:ByteArray),aa=string ag/\∀(V:Mem),m'.le V->Mem.le (m'.add ad [string bE0,string (ByteArray.mk (Array.mk [97])),string (ByteArray.mk (Array.mk [98,98])),string (ByteArray.mk (Array.mk [49])),string (ByteArray.mk (Array.mk [48,46,53]))]) V->ab.le V->∀(ak:Nat),V.free ak->chk (Zbi v &&
 true) ((Tok.mk (slice ai aj c) 4=Tok.mk v 4\/v=slice none 0 0\/slC v < slN v+1)/\∃(xs:List Value),∃(ys:List Value),xs.length=slN v*4/\ys.length=1*4/\rowRd (V.add ak [string s,
 bool false,string ag,Value.float .f64 0]) (slA v) xs/\rowRd (V.add ak [string s,bool false,string ag,Value.float .f64 0]) (some (Addr.mk ak 0 none)) ys/\(∀(u:Value),u∈ys->
 u.oneCell'=true)/\(slN v+1)*48<=140737488355328/\slN v+1<=9223372036854775807/\∀(a':Option Addr)(c':Nat)(ac:Mem),Mem.le (V.add ak [string s,bool false,string ag,Value.float
 FloatKind.f64 0]) ac->rowRd ac a' (List.append xs ys)->slN v+1<=c'->chk (Nat.ble 2 (cs.length)) (∀(M:Mem),m'.le M->Mem.le (m'.add ad [string bE0,string (ByteArray.mk
 (Array.mk [97])),string (ByteArray.mk (Array.mk [98,98])),string (ByteArray.mk (Array.mk [49])),string (ByteArray.mk (Array.mk [48,46,53]))]) M
 -> ab.le M->Mem.le (V.add ak [string s,bool false,string ag,Value.float .f64 0]) M->ac.le M->[some (Box.mk am [] 30 3 false true),some (Box.mk al [int i64 0,slice none 0 0,slice none 0 0] 30
 3 false true),some (Box.mk b [int u8 aA,slice aH aG aI,slice aJ aE aK] 25 3 true true)]=[some (Box.mk am [] 30 3 false true),some (Box.mk al [int i64 0,slice none 0 0,slice none 0 0] 30 3
 false true),some (Box.mk b [int u8 aA,slice aH aG aI,slice aJ aE aK] 25 3 true true)]/\([none]:List (Option Tok))=[none]/\∃(n':Nat),n' < bp/\I [int i64 (i64.wrap (ah+(1:
 Int)))] [ZaG cs 1 [slice a' (slN v+1) c']] [slice a' (slN v+1) c'] M n'))) ((((0:Int)<=if(4:Int) < (↑aE:Int)then(4:Int)else(↑aE:Int))/\(if(4:Int) < (↑aE:Int)then(4:Int)else
 (↑aE:Int))<=(↑aK:Int))/\∃(I:IT),(∃(n:Nat),I [int i64 0] [cs] [slice none 0 0] m' n)/\∀(n:Int)(cs:List Value)(a:Option Addr)(bd be:Nat)(ab:Mem)(bq:Nat),m'.le ab->I [int i64 n]
 [cs] [slice a bd be] ab bq->br (decide (n < (↑(Int.toNat (if(4:Int) < (↑aE:Int)then(4:Int)else(↑aE:Int)) - 0):Int))) (∃(an:Nat),∃(o:Nat),ZaU aJ 0 aK 1=some (Addr.mk an o none)/\
 Zaf n (Int.toNat (if(4:Int) < (↑aE:Int)then(4:Int)else(↑aE:Int)) - 0)/\∃(v:Value),ab an (o+Int.toNat n*1)=some v/\∃(R:RT),True/\CX Tryz.prog 34 (Array.mk []) ab [] R/\Zap
 Shape.slice R/\∀(bs:Option Addr)(bt ca:Nat)(m':Mem),ab.le m'->R (slice bs bt ca) m' []->∃(ad:Nat),∃(o:Nat),bs=some (Addr.mk ad o none)/\Zaf n bt/\∃(aa:Value),m' ad (o+Int.toNat n *
 1)=some aa/\∃(s:ByteArray),aa=string s/\∀(ak:Nat),chk (Zbi v) (chk (Zbi v) ((((0:Int)<=if(5:Int) < (↑(slN v):Int)then(5:Int)else(↑(slN v):Int))/\(if(5:Int) < (↑(slN v):Int)then(5
 : Int)else(↑(slN v):Int))<=(↑(slC v):Int))/\∃(bm:IT),(∃(n:Nat),bm [int i64 0] [[string s,slice none 0 0]] [slice none 0 0] m' n)/\∀(au:Int)(ao:List Value)(bu:Option Addr)(bv bw:Nat) (ac:
 Mem) (bx:Nat),m'.le ac->bm [int i64 au] [ao] [slice bu bv bw] ac bx->br (decide (au < (↑(Int.toNat (if(5:Int) < (↑(slN v):Int)then(5:Int)else(↑(slN v):Int)) - 0):Int))) (∃(ap:Nat),∃(o:
 Nat),ZaU (slA v) 0 (slC v) 6=some (Addr.mk ap o none)/\Zaf au (Int.toNat (if(5:Int) < (↑(slN v):Int)then(5:Int)else(↑(slN v):Int)) - 0)/\∃v bf bg bh bi bj:Value,ac.reads ap (o+Int.toNat au*6) [v,bf,bg,bh,bi,bj]/\∀(cb:Nat),chk (v.oneCell'&&(bf.oneCell'&&(bg.oneCell'&&(bh.oneCell' &&
 (bi.oneCell'&&(bj.oneCell'&&true)))))) (∃(f:Fx),Eng.Ztt ao 1 λ(af:Value)=>∃(R:RT),R=f 5 [agg (Array.mk [v,bf,bg,bh,bi,bj]),int i64 (↑(Int.toNat (if(4:Int) < (↑aE:Int)then
 (4:Int)else(↑aE:Int)) - 0):Int)] ac/\CX Tryz.prog 35 (Array.mk [agg (Array.mk [v,bf,bg,bh,bi,bj]),int i64 (↑(Int.toNat (if(4:Int) < (↑aE:Int)then(4:Int)else(↑aE:Int)) - 0):Int)])
 ac [] R/\Zap (Shape.agg [Shape.int u8,Shape.bool,Shape.bool,Shape.int u8,Shape.int u64,Shape.int u64,Shape.int u64,Shape.int u64,Shape.int i64,Shape.int i64,Shape.slice,Shape.str,Shape.int i64,
 Shape.slice,Shape.str,Shape.int i64]) R/\∀(n:Int)(av aw:Bool)(ax ay az a0 a1 a2 a3:Int)(a4:Option Addr)(a5 a6:Nat)(s:ByteArray)(a7:Int)(a8:Option Addr)(a9 ba:Nat)(ag:ByteArray) (bb:
 Int) (m':Mem),ac.le m'->R (agg (Array.mk [int u8 n,bool av,bool aw,int u8 ax,int u64 ay,int u64 az,int u64 a0,int u64 a1,int i64 a2,int i64 a3,slice a4 a5 a6,string s,int i64 a7,slice a8 a9 ba,
 string ag,int i64 bb])) m' []->∀(aq:Nat),m'.free aq->chk (Zbi af&&true) ((Tok.mk (slice bu bv bw) 16=Tok.mk af 16\/af=slice none 0 0\/slC af < slN af+1)/\∃(xs:List Value),∃(ys:List Value),
 xs.length=slN af*16/\ys.length=1*16/\rowRd (m'.add aq [int u8 n,bool av,bool aw,int u8 ax,int u64 ay,int u64 az,int u64 a0,int u64 a1,int i64 a2,int i64 a3,slice a4 a5 a6,string s,int
 i64 a7,slice a8 a9 ba,string ag,int i64 bb]) (slA af) xs/\rowRd (m'.add aq [int u8 n,bool av,bool aw,int u8 ax,int u64 ay,int u64 az,int u64 a0,int u64 a1,int i64 a2,int i64 a3,slice a4 a5 a6,string
 s,int i64 a7,slice a8 a9 ba,string ag,int i64 bb]) (some (Addr.mk aq 0 none)) ys/\(∀(u:Value),u∈ys->u.oneCell'=true)/\(slN af+1)*168<=140737488355328/\slN af+1<=9223372036854775807/\∀(a'
 : Option Addr) (c':Nat) (bn:Mem),Mem.le (m'.add aq [int u8 n,bool av,bool aw,int u8 ax,int u64 ay,int u64 az,int u64 a0,int u64 a1,int i64 a2,int i64 a3,slice a4 a5 a6,string s,int i64 a7,slice a8
 a9 ba,string ag,int i64 bb]) bn->rowRd bn a' (List.append xs ys)->slN af+1<=c'->chk (Nat.ble 2 (ao.length)) (∀(M:Mem),ac.le M->m'.le M->Mem.le (m'.add aq [int u8 n,bool av,bool aw,int
 u8 ax,int u64 ay,int u64 az,int u64 a0,int u64 a1,int i64 a2,int i64 a3,slice a4 a5 a6,string s,int i64 a7,slice a8 a9 ba,string ag,int i64 bb]) M->bn.le M->[some (Box.mk ak [] 42 2 false true),some
 (Box.mk am cs 30 3 false true),some (Box.mk al [int i64 0,slice none 0 0,slice none 0 0] 30 3 false true),some (Box.mk b [int u8 aA,slice aH aG aI,slice aJ aE aK] 25 3 true true)]=[some
 (Box.mk ak [] 42 2 false true),some (Box.mk am cs 30 3 false true),some (Box.mk al [int i64 0,slice none 0 0,slice none 0 0] 30 3 false true),some (Box.mk b [int u8 aA,slice aH aG aI,slice aJ aE
 aK] 25 3 true true)]/\[some (Tok.mk (slice a bd be) 2),some (Tok.mk (slice ai aj c) 4),some (Tok.mk (slice ai aj c) 4)]=[some (Tok.mk (slice a bd be) 2),some (Tok.mk (slice ai aj c) 4),some (Tok.mk (slice ai
 aj c) 4)]/\∃(n':Nat),n' < bx/\bm [int i64 (i64.wrap (au+(1:Int)))] [ZaG ao 1 [slice a' (slN af+1) c']] [slice a' (slN af+1) c'] M n')))) (Eng.Ztt cs 2 λ(v:Value)=>chk (Nat.beq
 (ao.length) 2&&true) (∀(ap:Nat),ac.free ap->chk (Zbi v&&true) ((Tok.mk (slice a bd be) 2=Tok.mk v 2\/v=slice none 0 0\/slC v < slN v+1)/\∃(xs:List Value),∃(ys:List Value),xs.length=slN v*2/\ys.length=1*2/\rowRd (ac.add ap (List.append ao [])) (slA v) xs/\rowRd (ac.add ap (List.append ao [])) (some (Addr.mk ap 0 none)) ys/\(∀(u:Value),u∈ys->u.oneCell' =
 true)/\(slN v+1)*40<=140737488355328/\slN v+1<=9223372036854775807/\∀(a':Option Addr)(c':Nat)(m':Mem),Mem.le (ac.add ap (List.append ao [])) m'->rowRd m' a' (List.append xs ys)->slN v+1<=c'
 -> chk (Nat.ble 3 (cs.length)) ([some (Box.mk am [] 30 3 false true),some (Box.mk al [int i64 0,slice none 0 0,slice none 0 0] 30 3 false true),some (Box.mk b [int u8 aA,slice aH aG aI,slice aJ
 aE aK] 25 3 true true)]=[some (Box.mk am [] 30 3 false true),some (Box.mk al [int i64 0,slice none 0 0,slice none 0 0] 30 3 false true),some (Box.mk b [int u8 aA,slice aH aG aI,slice aJ aE
 aK] 25 3 true true)]/\[some (Tok.mk (slice ai aj c) 4),some (Tok.mk (slice ai aj c) 4)]=[some (Tok.mk (slice ai aj c) 4),some (Tok.mk (slice ai aj c) 4)]/\∃(n':Nat),n' < bq/\I [int i64 (i64.wrap (n
 + (1:Int)))] [ZaG cs 2 [slice a' (slN v+1) c']] [slice a' (slN v+1) c'] m' n'))))))) (Eng.Ztt cs 2 λ(v:Value)=>chk (Zbi v) (br ((↑(slN v):Int) == (0:Int)) (∀(b:Nat),ab.free b->chk (Nat.ble
 3 (cs.length)) (chk (Nat.beq (List.length (ZaG cs 2 [slice (some (Addr.mk b 0 none)) 1 1])) 3&&Zdv (ZaG cs 2 [slice (some (Addr.mk b 0 none)) 1 1])) (∃(m'':Mem),m.le m''/\Mem.le m'' (ab.add b
 [string (ByteArray.mk (Array.mk [97])),slice none 0 0])/\R (agg (Array.mk (ZaG cs 2 [slice (some (Addr.mk b 0 none)) 1 1]))) m'' []))) (chk (Nat.beq (cs.length) 3&&Zdv cs) (∃(m'':Mem),m.le m''/\m''.le ab/\R (agg (Array.mk cs)) m'' []))))))):CX Tryz.prog 9 #[.agg #[.int .u8 aA,.slice aH aG aI,.slice aJ aE aK]] m [] R:=
 Zad (E:=Zm5) Zak mix Tryz.func9 [.v (.agg #[.int .u8 aA,.slice aH aG aI,.slice aJ aE aK])] [] (by kernel_rfl) (Eq.mp (by kernel_rfl) h)
end Go.Proofs.YtojlhhphofhaoaaGreatDoor