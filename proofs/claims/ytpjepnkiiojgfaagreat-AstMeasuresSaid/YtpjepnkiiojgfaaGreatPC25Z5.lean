/- Part of the proof: functions of the program. No condition. -/
import Derived.Test.YtpjepnkiiojgfaaGreatPEnv
import Derived.Test.YtpjepnkiiojgfaaGreatMc
import Derived.Test.YtpjepnkiiojgfaaGreatPC25PC
import Derived.Test.YtpjepnkiiojgfaaGreatPC40N
import Derived.Test.YtpjepnkiiojgfaaGreatPC25E
import Derived.Test.YtpjepnkiiojgfaaGreatMr
import Derived.Shelf.SlicesE.Reverse
import Derived.Test.YtpjepnkiiojgfaaGreatRows
import Derived.Deep.Slices
import Derived.Laws.IdiomArrays
import Derived.SizedLaws
import Derived.LaidMore
import Derived.Lay
import Derived.SevenTiedAt
import Derived.OpenShut
import Derived.ProofKit
import Derived.Carry
set_option linter.unusedVariables false
set_option linter.unusedSimpArgs false
set_option linter.unusedSectionVars false
namespace Go.Proofs.YtpjepnkiiojgfaaGreat
open Go Go.Eng Go.Proofs Go.RowKit
open Go.Value (int slice agg bool string tuple func)
open Go.IntKind (u8 u64 i64)
set_option maxRecDepth 100000
noncomputable def Zeb:Env:={ EB with
 loops:=(λi=>bif Nat.beq i 8 then⟨[(89,.int .i64)],[],[],false⟩ else bif Nat.beq i 11 then⟨[(97,.int .i64)],[],[],false⟩ else bif Nat.beq i 22 then⟨[(22,.slice),(179,.int .i64)],[],[(185,1)],false⟩ else⟨[],[],[],false⟩)
 joins:=(λi=>bif Nat.beq i 5 then some [(85,.bool)]else bif Nat.beq i 16 then some [(173,.bool)]else bif Nat.beq i 30 then some [(8,.bool)]else none)
 dr:=(λi=>bif Nat.beq i 3 then[⟨0,[4],[],none,[],[]⟩,⟨1,[],[],none,[0],[]⟩,⟨2,[5],[],none,[],[]⟩,⟨3,[],[],none,[0,1,2],[1]⟩,⟨4,[6],[],none,[],[]⟩,⟨5,[],[],none,[0,1,2,3,4],[3]⟩,⟨6,[9],[9],none,[],[]⟩,⟨7,[10],[10],none,[],[]⟩,⟨8,[11],[11],none,[],[]⟩,⟨9,[9],[9],none,[0,1,2,3,4,5,6,7,8],[]⟩,⟨10,[10],[10],none,[0,1,2,3,4,5,6,7,8,9],[]⟩,⟨11,[11],[11],none,[0,1,2,3,4,5,6,7,8,9,10],[]⟩]else bif Nat.beq i 4 then[⟨0,[9],[],none,[],[]⟩,⟨1,[],[],none,[0],[]⟩,⟨2,[10],[],none,[],[]⟩,⟨3,[],[],none,[0,1,2],[1]⟩,⟨4,[11],[],none,[],[]⟩,⟨5,[],[],none,[0,1,2,3,4],[3]⟩,⟨6,[12],[12],none,[],[]⟩,⟨7,[13],[13],none,[],[]⟩,⟨8,[14],[14],none,[],[]⟩,⟨9,[12],[12],none,[0,1,2,3,4,5,6,7,8],[]⟩,⟨10,[13],[13],none,[0,1,2,3,4,5,6,7,8,9],[]⟩,⟨11,[14],[14],none,[0,1,2,3,4,5,6,7,8,9,10],[]⟩]else bif Nat.beq i 5 then[⟨0,[12],[],none,[],[]⟩,⟨1,[13],[],none,[],[]⟩,⟨2,[],[],none,[0,1],[]⟩,⟨3,[13],[],none,[],[]⟩,⟨4,[12],[],none,[],[]⟩,⟨5,[],[],none,[0,1,2,3,4],[2]⟩,⟨6,[],[],none,[0,1,2,3,4,5],[]⟩,⟨7,[],[],none,[0,1,2,3,4,5,6],[]⟩,⟨8,[],[],none,[0,1,2,3,4,5,6,7],[]⟩,⟨9,[12],[],none,[0,1,2,3,4,5,6,7,8],[5]⟩,⟨10,[13],[],none,[0,1,2,3,4,5,6,7,8],[5]⟩,⟨11,[],[],none,[0,1,2,3,4,5,6,7,8,9,10],[5]⟩,⟨12,[],[],none,rg 0 12,[]⟩,⟨13,[12],[],none,[0,1,2,3,4,5,6,7,8],[5]⟩,⟨14,[13],[],none,[0,1,2,3,4,5,6,7,8],[5]⟩,⟨15,[],[],none,[0,1,2,3,4,5,6,7,8,13,14],[]⟩,⟨16,[],[],none,rg 0 16,[]⟩,⟨17,[],[],none,rg 0 17,[]⟩,⟨18,[],[],none,rg 0 18,[]⟩,⟨19,[12],[],none,rg 0 19,[11]⟩,⟨20,[13],[],none,rg 0 19,[11]⟩,⟨21,[],[],none,rg 0 21,[11]⟩,⟨22,[],[],none,rg 0 22,[]⟩,⟨23,[],[],none,rg 0 23,[]⟩,⟨24,[13],[],none,rg 0 24,[21]⟩,⟨25,[14],[],none,rg 0 24,[21]⟩,⟨26,[],[],none,rg 0 26,[21]⟩,⟨27,[],[],none,rg 0 27,[]⟩,⟨28,[],[],none,rg 0 28,[]⟩,⟨29,[],[],none,rg 0 29,[]⟩,⟨30,[12],[],none,rg 0 30,[26]⟩,⟨31,[14],[],none,rg 0 30,[26]⟩,⟨32,[],[],none,rg 0 32,[26]⟩,⟨33,[],[],none,rg 0 33,[]⟩,⟨34,[],[],none,rg 0 34,[]⟩,⟨35,[],[],none,rg 0 35,[]⟩,⟨36,[],[],none,rg 0 36,[]⟩,⟨37,[],[],none,rg 0 37,[]⟩,⟨38,[12],[],none,rg 0 37,[32]⟩,⟨39,[],[],none,rg 0 39,[32]⟩,⟨40,[],[],none,rg 0 40,[]⟩,⟨41,[],[],none,rg 0 41,[]⟩]else bif Nat.beq i 15 then[⟨0,[9],[],none,[],[]⟩,⟨1,[],[],none,[],[]⟩,⟨2,[],[],none,[],[]⟩,⟨3,[16],[],none,[],[]⟩,⟨4,[16],[],none,[3],[]⟩,⟨5,[],[],none,[],[]⟩,⟨6,[],[],none,[3,4,5],[]⟩,⟨7,[],[],none,[3,4,5,6],[]⟩,⟨8,[],[],none,[0,1,2,3,4,5,6,7],[]⟩,⟨9,[],[],none,[0,1,2,3,4,5,6,7,8],[]⟩,⟨10,[],[],none,[0,1,2,3,4,5,6,7,8,9],[]⟩,⟨11,[],[],none,[0,1,2,3,4,5,6,7,8,9],[]⟩,⟨12,[20],[20],none,[],[]⟩,⟨13,[20],[20],none,rg 0 11++[12],[]⟩,⟨14,[],[],none,rg 0 14,[]⟩]else bif Nat.beq i 16 then[⟨0,[],[],none,[],[]⟩,⟨1,[],[],none,[],[]⟩,⟨2,[],[],none,[0,1],[]⟩,⟨3,[],[],none,[0,1,2],[]⟩,⟨4,[],[],none,[0,1,2,3],[]⟩,⟨5,[18],[],none,[0,1,2,3,4],[]⟩,⟨6,[],[],none,[0,1,2,3,4,5],[]⟩,⟨7,[12],[],none,[0,1,2,3,4],[]⟩,⟨8,[],[],none,[0,1,2,3,4,5,6,7],[6]⟩,⟨9,[],[],none,[0,1,2,3,4,5,6,7,8],[]⟩,⟨10,[],[],none,[0,1,2,3,4,5,6,7,8,9],[]⟩,⟨11,[],[],none,[0,1,2,3,4,5,6,7,8,9,10],[]⟩,⟨12,[20],[],none,rg 0 12,[8]⟩,⟨13,[9],[],none,rg 0 12,[8]⟩,⟨14,[],[],none,rg 0 14,[8]⟩,⟨15,[],[],none,rg 0 15,[]⟩,⟨16,[],[],none,rg 0 16,[]⟩,⟨17,[],[],none,rg 0 17,[]⟩,⟨18,[18],[],none,rg 0 18,[14]⟩,⟨19,[],[],none,rg 0 19,[14]⟩,⟨20,[],[],none,rg 0 20,[]⟩,⟨21,[12],[],none,rg 0 18,[]⟩,⟨22,[12],[],none,rg 0 18++[21],[14]⟩,⟨23,[],[],none,rg 0 18++[21,22],[]⟩,⟨24,[],[],none,rg 0 24,[]⟩,⟨25,[],[],none,rg 0 25,[]⟩,⟨26,[],[],none,rg 0 26,[]⟩,⟨27,[18],[],none,rg 0 27,[]⟩,⟨28,[18],[],none,rg 0 28,[19]⟩,⟨29,[],[],none,rg 0 29,[]⟩,⟨30,[],[],none,rg 0 27,[]⟩,⟨31,[],[],none,rg 0 31,[]⟩,⟨32,[],[],none,rg 0 32,[]⟩,⟨33,[],[],none,rg 0 33,[]⟩,⟨34,[18],[],none,rg 0 34,[]⟩,⟨35,[18],[],none,rg 0 35,[19]⟩,⟨36,[],[],none,rg 0 34,[]⟩,⟨37,[],[],none,rg 0 37,[]⟩,⟨38,[],[],none,rg 0 38,[]⟩,⟨39,[],[],none,rg 0 39,[19]⟩,⟨40,[],[],none,rg 0 40,[]⟩,⟨41,[16],[],none,rg 0 34,[]⟩,⟨42,[16],[],none,rg 0 34++[41],[19]⟩,⟨43,[],[],none,rg 0 34++[41,42],[]⟩,⟨44,[],[],none,rg 0 34++[41,42,43],[]⟩,⟨45,[],[],none,rg 0 45,[]⟩,⟨46,[],[],none,rg 0 46,[]⟩]else bif Nat.beq i 29 then[⟨0,[9],[],none,[],[]⟩,⟨1,[],[],none,[],[]⟩,⟨2,[],[],none,[1],[]⟩,⟨3,[],[],none,[0,1,2],[]⟩,⟨4,[],[],none,[0,1,2,3],[]⟩,⟨5,[],[],none,[0,1,2,3,4],[]⟩,⟨6,[],[],none,[0,1,2,3,4],[]⟩,⟨7,[28],[28],none,[],[]⟩,⟨8,[28],[28],none,[0,1,2,3,4,5,7],[]⟩,⟨9,[],[],none,[0,1,2,3,4,5,6,7,8],[]⟩]else bif Nat.beq i 30 then[⟨0,[],[],none,[],[]⟩,⟨1,[],[],none,[],[]⟩,⟨2,[],[],none,[0,1],[]⟩,⟨3,[],[],none,[],[]⟩,⟨4,[],[],none,[0,1,2,3],[]⟩,⟨5,[],[],none,[0,1,2,3,4],[]⟩,⟨6,[],[],none,[0,1,2,3,4,5],[]⟩,⟨7,[24],[],none,[0,1,2,3,4,5,6],[]⟩,⟨8,[9],[],none,[0,1,2,3,4,5,6],[]⟩,⟨9,[],[],none,[0,1,2,3,4,5,6,7,8],[]⟩,⟨10,[],[],none,[0,1,2,3,4,5,6,7,8,9],[]⟩,⟨11,[],[],none,[0,1,2,3,4,5,6,7,8,9,10],[]⟩,⟨12,[26],[],none,rg 0 12,[9]⟩,⟨13,[],[],none,rg 0 13,[9]⟩,⟨14,[12],[],none,rg 0 12,[9]⟩,⟨15,[],[],none,rg 0 15,[]⟩,⟨16,[],[],none,rg 0 16,[]⟩,⟨17,[],[],none,rg 0 17,[]⟩,⟨18,[28],[],none,rg 0 18,[13]⟩,⟨19,[],[],none,rg 0 19,[13]⟩,⟨20,[12],[],none,rg 0 18,[13]⟩,⟨21,[],[],none,rg 0 21,[19]⟩,⟨22,[],[],none,rg 0 22,[]⟩,⟨23,[],[],none,rg 0 23,[]⟩,⟨24,[],[],none,rg 0 24,[]⟩,⟨25,[28],[],none,rg 0 25,[]⟩,⟨26,[28],[],none,rg 0 26,[21]⟩,⟨27,[],[],none,rg 0 27,[]⟩,⟨28,[],[],none,rg 0 28,[]⟩,⟨29,[],[],none,rg 0 29,[]⟩,⟨30,[],[],none,rg 0 30,[]⟩]else[])
 tokOf:=(λi=>bif Nat.beq i 185 then 185 else 0)
 frzNew:=[4,5,6]
 gb:=true
 thaw:=true
 lentC:=(λi=>bif Nat.beq i 194 then some [(185,1)]else none) }
theorem Zdu(aA:Int)(aW:Option Addr)(aS aX:Nat)(aO:Option Addr)(aJ aT:Nat)(bF:Int)(fc:Option Addr)(fe ff:Nat)(e9:Option Addr)(fa fb:Nat)(iv:Int)(nh:Option Addr)(ni nj:Nat)(nk:Option Addr)(np nq:Nat)(p3:Int)(m:Mem)(R:RT)(h:
 lV [int u8 aA,slice aW aS aX,slice aO aJ aT] λxL=>lV [int u8 iv,slice nh ni nj,slice nk np nq] λbc=>lV [int u8 bF,slice fc fe ff,slice e9 fa
 fb] λbd=>fzM m xL λb m'=>lE [some (Box.mk b xL 25 3 true true)] λdd=>m.free b->(∀(b' o:Nat)(u:Value),m' b' o=some u->m b' o=some u\/b'=b)->fzM m' bd λbe bf=>lE (some (Box.mk
 be bd 25 3 true true)::dd) λde=>m'.free be->(∀(b' o:Nat)(u:Value),bf b' o=some u->m' b' o=some u\/b'=be)->fzM bf bc λbg m'=>lE (some (Box.mk bg bc 25 3 true true)::de) λdf=>
 bf.free bg->(∀(b' o:Nat)(u:Value),m' b' o=some u->bf b' o=some u\/b'=bg)->kB Tryz.prog 9 [] m' λdg m'=>br (!dg) (rtM m m' R (Value.bool false)) (∃(f:Fx),∃(R_1:RT),R_1=f 1 [agg (Array.mk
 xL)] m'/\CX Tryz.prog 10 (Array.mk [agg (Array.mk xL)]) m' [] R_1/\Za3 (Shape.agg [Shape.int i64,Shape.slice,Shape.slice]) R_1/\∀(n:Int)(a:Option Addr)(dh c:Nat)(cn:Option Addr)(bh di:Nat) (ar:
 Mem),lV [int i64 n,slice a dh c,slice cn bh di] λxL=>lX (agg (Array.mk xL)) λyL=>m'.le ar->R_1 yL ar []->∃(R_2:RT),R_2=f 3 [agg (Array.mk bd)] ar/\CX Tryz.prog 10 (Array.mk [agg (Array.mk bd)])
 ar [] R_2/\Za3 (Shape.agg [Shape.int i64,Shape.slice,Shape.slice]) R_2/\∀(n:Int)(a:Option Addr)(dj c:Nat)(dk:Option Addr)(dl dm:Nat)(au:Mem),lV [int i64 n,slice a dj c,slice dk dl dm] λco=>
 lX (agg (Array.mk co)) λbs=>ar.le au->R_2 bs au []->∃(R_3:RT),R_3=f 5 [agg (Array.mk bc)] au/\CX Tryz.prog 10 (Array.mk [agg (Array.mk bc)]) au [] R_3/\Za3 (Shape.agg [Shape.int i64,Shape.slice,
 Shape.slice]) R_3/\∀(n:Int)(a:Option Addr)(dn c:Nat)(dp:Option Addr)(dq dr:Nat)(bt:Mem),lV [int i64 n,slice a dn c,slice dp dq dr] λcp=>lX (agg (Array.mk cp)) λbu=>au.le bt->R_3 bu
 bt []->∀(ds dt du:Nat)(M:Mem),lE (some (Box.mk ds xL 32 3 false true)) λcq=>lE (some (Box.mk du cp 32 3 false true)) λcr=>lE (some (Box.mk dt co 32 3 false true)) λcs=>lE (cq::cs::cr::cq ::
 cs::cr::df) λxL=>m'.le M->ar.le M->au.le M->bt.le M->∃(f:Fx),∃(R_4:RT),R_4=f 1 [yL] M/\CX Tryz.prog 21 (Array.mk [yL]) M [] R_4/\Za3 (Shape.agg [Shape.int i64,Shape.int i64,
 Shape.int i64,Shape.int i64,Shape.int i64,Shape.int i64]) R_4/\∀(n ct dv dw dx dy:Int)(m':Mem),lV [int i64 n,int i64 ct,int i64 dv,int i64 dw,int i64 dx,int i64 dy] λcu=>lX (agg (Array.mk cu)) fun
 ah=>lV [agg (Array.mk [int i64 0,int i64 0,int i64 0,int i64 0,int i64 0,int i64 0]),ah] λav=>M.le m'->R_4 ah m' []->∃(R_5:RT),R_5=f 3 [bs] m'/\CX Tryz.prog 21 (Array.mk [bs]) m' [] R_5/\Za3
 (Shape.agg [Shape.int i64,Shape.int i64,Shape.int i64,Shape.int i64,Shape.int i64,Shape.int i64]) R_5/\∀(n dz d0 d1 d2 d3:Int)(aw:Mem),lV [int i64 n,int i64 dz,int i64 d0,int i64 d1,int i64 d2,int i64
 d3] λcv=>lX (agg (Array.mk cv)) λaq=>lV [ah,aq] λax=>m'.le aw->R_5 aq aw []->∃(R_6:RT),R_6=f 5 [bu] aw/\CX Tryz.prog 21 (Array.mk [bu]) aw [] R_6/\Za3 (Shape.agg [Shape.int i64,Shape.int
 i64,Shape.int i64,Shape.int i64,Shape.int i64,Shape.int i64]) R_6/\∀(n d4 d5 d6 d7 d8:Int)(bv:Mem),lV [int i64 n,int i64 d4,int i64 d5,int i64 d6,int i64 d7,int i64 d8] λcw=>lX (agg (Array.mk cw))
 λa3=>aw.le bv->R_6 a3 bv []->∀(d9 ea eb:Nat)(ag:Mem),lE (some (Box.mk ea cv 75 6 false true)) λcx=>lE (some (Box.mk d9 cu 75 6 false true)) λcy=>lE (some (Box.mk eb cw 75 6 false true)) fun
 cz=>lE (cy::cx::cz::cy::cx::cz::xL) λxL=>M.le ag->m'.le ag->aw.le ag->bv.le ag->∃(da:Bool),lV [Value.bool da] λay=>(∃(f:Fx),∃(R:RT),R=f 2 ax ag/\CX Tryz.prog 39
 (Array.mk ax) ag [] R/\Za3 (Shape.int i64) R/\∀(n:Int)(m':Mem),ag.le m'->R (int i64 n) m' []->∃(R:RT),R=f 5 [aq,ah] m'/\CX Tryz.prog 39 (Array.mk [aq,ah]) m' [] R/\Za3 (Shape.int i64) R/\∀
 (a4:Int) (ad:Mem),m'.le ad->R (int i64 a4) ad []->br (!n == i64.wrap ((0:Int) - a4)) (∀(M:Mem),ag.le M->m'.le M->ad.le M->ad.le M->ad.le M->ad.le M->ad.le M->
 ad.le M->Zac xL/\[Value.bool true]=ay) (∃(R:RT),R=f 11 ax ad/\CX Tryz.prog 39 (Array.mk ax) ad [] R/\Za3 (Shape.int i64) R/\∀(n:Int)(ac:Mem),ad.le ac->R (int i64 n) ac []->∃(b:Bool),EqIs
 Tryz.prog 75 ah aq b/\br (!(n == (0:Int)) == b) (∀(M:Mem),ag.le M->m'.le M->ad.le M->ac.le M->ac.le M->ac.le M->ac.le M->ac.le M->Zac xL/\[Value.bool true]=ay) (∃(R:RT),
 R=f 21 ax ac/\CX Tryz.prog 39 (Array.mk ax) ac [] R/\Za3 (Shape.int i64) R/\∀(n:Int)(ab:Mem),ac.le ab->R (int i64 n) ab []->br (decide (n < (0:Int))) (∃(R:RT),R=f 26 [aq,a3] ab/\CX Tryz.prog
 39 (Array.mk [aq,a3]) ab [] R/\Za3 (Shape.int i64) R/\∀(n:Int)(ae:Mem),ab.le ae->R (int i64 n) ae []->br (decide (n < (0:Int))) (∃(R:RT),R=f 32 [ah,a3] ae/\CX Tryz.prog 39 (Array.mk [ah,a3])
 ae [] R/\Za3 (Shape.int i64) R/\∀(n:Int)(af:Mem),ae.le af->R (int i64 n) af []->br (decide (n ≥ (0:Int))) (∀(M:Mem),ag.le M->m'.le M->ad.le M->ac.le M->ab.le M->ae.le M
 -> af.le M->af.le M->Zac xL/\[Value.bool true]=ay) (∃(R:RT),R=f 39 av af/\CX Tryz.prog 39 (Array.mk av) af [] R/\Za3 (Shape.int i64) R/\∀(n:Int)(bw:Mem),af.le bw->R (int i64 n) bw []->∀
 (M:Mem),ag.le M->m'.le M->ad.le M->ac.le M->ab.le M->ae.le M->af.le M->bw.le M->Zac xL/\[Value.bool (decide (n > (0:Int)))]=ay)) (∃(R:RT),R=f 39 av ae/\CX Tryz.prog 39
 (Array.mk av) ae [] R/\Za3 (Shape.int i64) R/\∀(n:Int)(af:Mem),ae.le af->R (int i64 n) af []->∀(M:Mem),ag.le M->m'.le M->ad.le M->ac.le M->ab.le M->ae.le M->ae.le M
 -> af.le M->Zac xL/\[Value.bool (decide (n > (0:Int)))]=ay)) (∃(R:RT),R=f 39 av ab/\CX Tryz.prog 39 (Array.mk av) ab [] R/\Za3 (Shape.int i64) R/\∀(n:Int)(ae:Mem),ab.le ae->R (int i64 n) ae
 []->∀(M:Mem),ag.le M->m'.le M->ad.le M->ac.le M->ab.le M->ab.le M->ab.le M->ae.le M->Zac xL/\[Value.bool (decide (n > (0:Int)))]=ay))))/\br da (rtM m ag R (Value.bool false)) (∃
 (I:IT),inI I [int i64 0] [] [] ag/\∀(n:Int)(m':Mem)(a4:Nat),lX (int i64 n) λbx=>True->I [bx] [] [] m' a4->br (decide (n < (↑bh:Int))) (atA cn λb o=>Zae n bh/\∃v an:Value,lV [v,an] λa5=>m'.reads b (o+Int.toNat n*2) a5/\∀(b:Nat),lE (some (Box.mk b a5 36 2 false true)::xL) λaz=>chk (v.oneCell'&&(an.oneCell'&&true)) (chk (ZbF an) (∃(bi:
 IT),inI bi [int i64 0] [] [] m'/\∀(al:Int)(m':Mem)(a0:Nat),lX (int i64 al) λam=>lV [int i64 (i64.wrap (al+(1:Int)))] λa6=>True->bi [am] [] [] m' a0->br (decide (al < (↑(slN an):
 Int))) ((4:Int)≠(0:Int)/\(4:Int)≠(0:Int)/\br (!Int.tmod (i64.wrap (n+al)) (4:Int) == i64.wrap (Int.tmod p3 (4:Int))) (Zac az/\nxI a0 bi a6 [] [] m') (∃(R_7:RT),True/\CX
 Tryz.prog 13 (Array.mk [yL,bx,am]) m' [] R_7/\Za3 (Shape.tup [Shape.agg [Shape.int i64,Shape.slice,Shape.slice],Shape.int i64]) R_7/\∀(bj:Int)(a:Option Addr)(bz c:Nat)(a7:Option Addr)(a8 bk:Nat)
 (a9:Int) (ad:Mem),lV [int i64 bj,slice a bz c,slice a7 a8 bk] λxL=>lX (agg (Array.mk xL)) λaj=>m'.le ad->R_7 (tuple (Array.mk [aj,int i64 a9])) ad []->∀(b:Nat),∃(f:Fx),lE (some (Box.mk b
 xL 32 3 false true)::az) λxL=>chk (ZbF an) (atA (slA an) λb o=>Zae al (slN an)/\∃v ec ed ee ef eg eh ei ej ek el em en eo ep eq:Value,lV [v,ec,ed,ee,ef,eg,eh,ei,ej,ek,el,em,en,eo,ep,eq] λai=>lV
 [yL,bx,am,agg (Array.mk ai)] λba=>ad.reads b (o+Int.toNat al*16) ai/\∃(R_8:RT),R_8=f 8 ba ad/\CX Tryz.prog 14 (Array.mk ba) ad [] R_8/\Za3 (Shape.tup [Shape.agg [Shape.int i64,Shape.slice,
 Shape.slice],Shape.int i64]) R_8/\∀(ca:Int)(a:Option Addr)(cb c:Nat)(er:Option Addr)(bl cc:Nat)(bm:Int)(m':Mem),lV [int i64 ca,slice a cb c,slice er bl cc] λbb=>lX (agg (Array.mk bb)) fun
 ap=>ad.le m'->R_8 (tuple (Array.mk [ap,int i64 bm])) m' []->∀(b:Nat)(M:Mem),lE (some (Box.mk b bb 32 3 false true)) λa1=>lE (a1::a1::xL) λxL=>ad.le M->m'.le M->∃(b:Bool),lV
 [Value.bool b] λak=>(∃(f:Fx),br (!i64.wrap (a9+bm) == (0:Int)) (∀(aa:Mem),M.le aa->M.le aa->M.le aa->M.le aa->M.le aa->Zac xL/\[Value.bool true]=ak) (∃(R:RT),R=f 6 [aj]
 M/\CX Tryz.prog 21 (Array.mk [aj]) M [] R/\Za3 (Shape.agg [Shape.int i64,Shape.int i64,Shape.int i64,Shape.int i64,Shape.int i64,Shape.int i64]) R/\∀(bn bo cd ce cf cg:Int)(m':Mem),lX (agg (Array.mk [int
 i64 bn,int i64 bo,int i64 cd,int i64 ce,int i64 cf,int i64 cg])) λa2=>M.le m'->R a2 m' []->∃(R:RT),R=f 8 [a2,ah] m'/\CX Tryz.prog 39 (Array.mk [a2,ah]) m' [] R/\Za3 (Shape.int i64) R/\∀(bp:
 Int) (ac:Mem),m'.le ac->R (int i64 bp) ac []->br (decide (bp ≥ (0:Int))) (∀(aa:Mem),M.le aa->m'.le aa->ac.le aa->ac.le aa->ac.le aa->Zac xL/\[Value.bool true]=ak) (∃(R:RT),R =
 f 14 [ap,yL] ac/\CX Tryz.prog 20 (Array.mk [ap,yL]) ac [] R/\Za3 Shape.bool R/\∀(b:Bool)(ab:Mem),ac.le ab->R (Value.bool b) ab []->br (!b) (∀(aa:Mem),M.le aa->m'.le aa->ac.le aa->ab.le aa->ab.le aa->Zac xL/\[Value.bool true]=ak) (∃(R:RT),R=f 19 [aj] ab/\CX Tryz.prog 21 (Array.mk [aj]) ab [] R/\Za3 (Shape.agg [Shape.int i64,Shape.int i64,Shape.int i64,Shape.int i64,Shape.int i64,
 Shape.int i64]) R/\∀(ch bq ci cj ck es:Int)(ae:Mem),ab.le ae->R (agg (Array.mk [int i64 ch,int i64 bq,int i64 ci,int i64 cj,int i64 ck,int i64 es])) ae []->br (!bq == i64.wrap (ct - (1:
 Int))) (∀(aa:Mem),M.le aa->m'.le aa->ac.le aa->ab.le aa->ae.le aa->Zac xL/\[Value.bool true]=ak) (br (decide ((↑a8:Int)<=n)) (∀(aa:Mem),M.le aa->m'.le aa->ac.le aa->
 ab.le aa->ae.le aa->Zac xL/\[Value.bool true]=ak) (atA a7 λb o=>Zae n a8/\∃(v:Value),ae b (o+Int.toNat n*2+1)=some v/\chk (ZbF v) (chk (ZbF an) (∀(aa:Mem),M.le aa->m'.le aa->ac.le aa->ab.le aa->ae.le aa->Zac xL/\[Value.bool !(↑(slN v):Int) == i64.wrap ((↑(slN an):Int) - (1:Int))]=ak))))))))/\br b (rtM m M R (Value.bool false)) (Zac az/\nxI a0 bi a6 [] []
 M)))) (Zac xL/\nxI a4 I [int i64 (i64.wrap (n+(1:Int)))] [] [] m')))) (∃(I:IT),inI I [slice none 0 0,int i64 0] [] [slice none 0 0] m'/\∀(a:Option Addr)(n c:Nat)(al:Int)(a7:Option Addr)
 (a0 bk:Nat) (m':Mem) (bj:Nat),lV [yL,slice (Za1 a 0 c 1) 1 (c - 0)] λa5=>lE (n+1) λam=>lV [int i64 al] λaz=>lX (slice a n c) λaj=>lE (Eng.Tok.mk (slice a7 a0 bk) 1) λap=>True->I (aj ::
 az) [] [slice a7 a0 bk] m' bj->br (decide (al < (↑bh:Int))) (∀(b:Nat),lM (m'.add b az) λmL=>m'.free b->(ap=Eng.Tok.mk aj 1\/aj=slice none 0 0\/c < am)/\∃(xs:List Value),∃(ys:List Value),
 xs.length=n*1/\ys.length=1*1/\rowRd mL a xs/\rowRd mL (some (Addr.mk b 0 none)) ys/\(∀(u:Value),u∈ys->u.oneCell'=true)/\am*8<=140737488355328/\am<=9223372036854775807/\∀(a':
 Option Addr) (c':Nat) (m':Mem),mL.le m'->rowRd m' a' (List.append xs ys)->TokFact mL a a' am c'->Zac xL/\nxI bj I [slice a' am c',int i64 (i64.wrap (al+(1:Int)))] [] [slice a' am c'] m') (∃
 (R_7:RT),True/\CX Tryz.prog 15 (Array.mk [yL,aj]) m' [] R_7/\Za3 (Shape.tup [Shape.agg [Shape.int i64,Shape.slice,Shape.slice],Shape.int i64]) R_7/\∀(n:Int)(a:Option Addr)(bz cc:Nat) (et:Option
 Addr) (a8 eu:Nat) (a9:Int) (ad:Mem),lV [int i64 n,slice a bz cc,slice et a8 eu] λa6=>lX (agg (Array.mk a6)) λa1=>m'.le ad->R_7 (tuple (Array.mk [a1,int i64 a9])) ad []->∀(ev:Nat),∃(Y:Nat
 -> Prop),∃(R_8:Value->Mem->List (List Value)->List Value->Prop),lE (some (Box.mk ev a6 32 3 false true)::xL) λxL=>CXY Tryz.prog 40 (Array.mk [aj]) ad Y [] [ap] R_8/\(∀(t:Eng.Tok),t∈[ap]->∀(b:Nat),
 Eng.Tok.blk t=some b->Y b)/\(∀(ao:Nat),Y ao->(∃(t:Eng.Tok),t∈[ap]/\Eng.Tok.blk t=some ao)\/(m.free ao/\Mem.k m ao=none)/\((∃(o:Nat),∃(v:Value),ad ao o=some v)\/∃(e:List (Value×Value)),
 Mem.k ad ao=some e)/\bg≠ao/\be≠ao/\b≠ao/\True)/\(∀(v:Value)(m':Mem) (css:List (List Value)) (tvs:List Value),R_8 v m' css tvs->Shape.fits (Shape.tup []) v=true)/\∀(m':Mem),Mem.le (Mem.off
 ad Y) m'->(NewM ad m' λb=>Y b\/ad.free b)->∀(a:Option Addr)(db d:Nat),lE (some (Eng.Tok.mk (slice a db d) 1)) λa2=>lE [a2,a2] λai=>R_8 (tuple (Array.mk [])) m' [] [slice a db d]->∃(R_9:RT),
 True/\CX Tryz.prog 15 (Array.mk [yL,aj]) m' [] R_9/\Za3 (Shape.tup [Shape.agg [Shape.int i64,Shape.slice,Shape.slice],Shape.int i64]) R_9/\∀(n:Int)(a:Option Addr)(ca ew:Nat)(ex:Option Addr) (cb ey:
 Nat) (bl:Int) (ac:Mem),lV [int i64 n,slice a ca ew,slice ex cb ey] λba=>lX (agg (Array.mk ba)) λcl=>m'.le ac->R_9 (tuple (Array.mk [cl,int i64 bl])) ac []->∀(b:Nat),∃(f:Fx),lE (some
 (Box.mk b ba 32 3 false true)::xL) λxL=>((0:Int)<=(1:Int)/\(1:Int)<=(↑c:Int))/\∃(R_10:RT),R_10=f 3 a5 ac/\CX Tryz.prog 15 (Array.mk a5) ac [] R_10/\Za3 (Shape.tup [Shape.agg [Shape.int i64,
 Shape.slice,Shape.slice],Shape.int i64]) R_10/\∀(n:Int)(a:Option Addr)(bm c:Nat)(ez:Option Addr)(bn e0:Nat)(bo:Int)(m':Mem),lV [int i64 n,slice a bm c,slice ez bn e0] λbb=>lX (agg
 (Array.mk bb)) λcm=>ac.le m'->R_10 (tuple (Array.mk [cm,int i64 bo])) m' []->∀(b:Nat)(M:Mem),lE (some (Box.mk b bb 32 3 false true)) λdc=>lE (dc::dc::xL) λxL=>ac.le M->m'.le M->
 ∃(b:Bool),lV [Value.bool b] λak=>(∃(f:Fx),br (i64.wrap (i64.wrap (a9+bl)+bo) == (0:Int)) (∃(R:RT),R=f 9 [a1,yL] M/\CX Tryz.prog 20 (Array.mk [a1,yL]) M [] R/\Za3 Shape.bool R/\∀
 (b:Bool) (m':Mem),M.le m'->R (Value.bool b) m' []->br b (∃(R:RT),R=f 13 [cl] m'/\CX Tryz.prog 21 (Array.mk [cl]) m' [] R/\Za3 (Shape.agg [Shape.int i64,Shape.int i64,Shape.int i64,Shape.int i64,
 Shape.int i64,Shape.int i64]) R/\∀(n cd ce cf cg bp:Int)(ab:Mem),lX (agg (Array.mk [int i64 n,int i64 cd,int i64 ce,int i64 cf,int i64 cg,int i64 bp])) λyL=>m'.le ab->R yL ab []->∃(b:Bool),
 EqIs Tryz.prog 75 yL ah b/\br b (∃(R:RT),R=f 19 [cm] ab/\CX Tryz.prog 21 (Array.mk [cm]) ab [] R/\Za3 (Shape.agg [Shape.int i64,Shape.int i64,Shape.int i64,Shape.int i64,Shape.int i64,Shape.int i64]) R/\
 ∀(n ch bq ci cj ck:Int)(ae:Mem),lX (agg (Array.mk [int i64 n,int i64 ch,int i64 bq,int i64 ci,int i64 cj,int i64 ck])) λyL=>ab.le ae->R yL ae []->∃(R:RT),R=f 21 [yL,ah] ae/\CX Tryz.prog 39
 (Array.mk [yL,ah]) ae [] R/\Za3 (Shape.int i64) R/\∀(n:Int)(af:Mem),ae.le af->R (int i64 n) af []->br (decide (n<=(0:Int))) (∀(aa:Mem),M.le aa->m'.le aa->ab.le aa->ae.le aa->
 af.le aa->Zac xL/\ai=ai/\[Value.bool ((↑bn:Int) == (1:Int))]=ak) (∀(aa:Mem),M.le aa->m'.le aa->ab.le aa->ae.le aa->af.le aa->Zac xL/\ai=ai/\[Value.bool false]=ak)) (∀(aa:
 Mem),M.le aa->m'.le aa->ab.le aa->ab.le aa->ab.le aa->Zac xL/\ai=ai/\[Value.bool false]=ak)) (∀(aa:Mem),M.le aa->m'.le aa->m'.le aa->m'.le aa->m'.le aa->Zac
 xL/\ai=ai/\[Value.bool false]=ak)) (∀(aa:Mem),M.le aa->M.le aa->M.le aa->M.le aa->M.le aa->Zac xL/\ai=ai/\[Value.bool false]=ak))/\rtM m M R (Value.bool b)))))):CX Tryz.prog 8 #[.agg #[.int .u8 aA,.slice aW aS aX,.slice aO aJ aT],.agg #[.int .u8 bF,.slice fc fe ff,.slice e9 fa fb],.agg #[.int .u8 iv,.slice nh ni nj,.slice nk np nq],.int .u8 p3] m [] R:=
 Zad (E:=Zeb) Zao mix Tryz.func8 (by kernel_rfl) (Eq.mp (by kernel_rfl) h)
end Go.Proofs.YtpjepnkiiojgfaaGreat
namespace Go.Proofs.YtpjepnkiiojgfaaGreat
open Go Go.Eng Go.Rx Go.Proofs Go.RowKit Go.Shelf
set_option maxRecDepth 100000
def Zy2:Ren:=⟨fun|35=>40|n=>n,fun|0=>0|3=>3|4=>4|22=>65|23=>3|n=>n,λn=>n⟩
theorem Zt2:SlLaysE.n35 Tryz.prog Zy2:=
 {mixed:=mix,f35:=⟨Tryz.f40.name,by kernel_rfl,by kernel_rfl⟩
  t0:=by kernel_rfl,a0:=Tryz.isAgg0,z0:=Tryz.sizeOf0,v0:=Tryz.zeroValue0
  t3:=Tryz.underlying3,a3:=Tryz.isAgg3,z3:=Tryz.sizeOf3,v3:=Tryz.zeroValue3
  t4:=Tryz.underlying4,a4:=Tryz.isAgg4,z4:=Tryz.sizeOf4,v4:=Tryz.zeroValue4
  t22:=Tryz.underlying65,a22:=Tryz.isAgg65,z22:=Tryz.sizeOf65,v22:=Tryz.zeroValue65
  a23:=Tryz.isAgg3,z23:=Tryz.sizeOf3 }
abbrev Zxv(z:Nat):Value:=.int .i64 z
theorem ZlQ(zs:List Nat)(a:Option Addr)(c:Nat)(m:Mem)(hr:rowRd m a (zs.map Zxv))(hl:zs.length<=100000):
  CXY Tryz.prog 40 #[.slice a zs.length c] m (Yi (.slice a zs.length c)) [] [⟨.slice a zs.length c,1⟩]
   (λv m' css tvs=>v=.tuple #[]/\css=[]/\tvs=[.slice a zs.length c]/\rowRd m' a (zs.reverse.map Zxv)):=
 ZfD Zxv (vf:=λ_=>.tuple #[]) (Go.Eng.Zgf Tryz.func40 (by kernel_rfl) (by kernel_rfl)) hr (List.length_reverse ..) (Nat.le_refl _)
  (λ_ w=>AnyE.slices_Reverse_empty Zt2 a c w)
  (λ_ b o w _ _ hH hb=>(AnyE.slices_Reverse Zt2 Zxv (λ_=>rfl) b o c zs w hH (by omega)).mono λe w' ⟨h1,n,h2⟩=>⟨h1,n,#[],by rw[h2,Zqr]⟩)
def nC(z:Nat):List Value:=[Zxv z]
theorem Zy3(z:Nat):(nC z).length=1:=rfl
theorem Zy4(z:Nat):∀u∈nC z,u.oneCell'=true:=λu hu=>by
 obtain rfl:u=Zxv z:=by simpa[nC]using hu
 rfl
theorem Zrm:∀l:List Nat,(l.map nC).flatten=l.map Zxv
 | []=>rfl
 | z::l=>by
  have:=Zrm l
  simp only[List.map_cons,List.flatten_cons,this];rfl
def mV(s:Sc):Value:=.agg (msV s.states.length (ms1 s) (ms2 s) (ms3 s) (ms4 s) (ms5 s)).toArray
theorem Zev(s:Sc)(m:Mem)(hr:RepC m s)(hl:s.light=true):CX Tryz.prog 21 #[s.v] m [] (Ret (mV s)):=by
 have:=Zmn s m hr
 rwa [ZqV hl]at this
theorem Zg3{s:Sc}:∀(v:Value)(m':Mem) (css:List (List Value)),Ret (mV s) v m' css->Shape.fits (.agg [.int .i64,.int .i64,.int .i64,.int .i64,.int .i64,.int .i64]) v=true:=λv _ _ h=>by rw[show v=_ from h];rfl
theorem ZlR{s:Sc}{a b c d e f:Int}(h:(.agg #[.int .i64 a,.int .i64 b,.int .i64 c,.int .i64 d,.int .i64 e,.int .i64 f]:Value)=mV s):a=s.states.length/\b=ms1 s/\c=ms2 s/\d=ms3 s/\e=ms4 s/\f=ms5 s:=by
 simpa[mV,msV,and_assoc]using h
theorem ZbL(s t:Sc)(z:Int)(hz:ZbM (miL s) (miL t)=z)(m:Mem):CX Tryz.prog 39 #[mV s,mV t] m [] (Ret (.int .i64 z)):=by
 rw[<-hz];exact Zix _ _ _ _ _ _ _ _ _ _ _ _ m
theorem Zcp{z:Int}:∀(v:Value)(m':Mem) (css:List (List Value)),Ret (.int .i64 z) v m' css->Shape.fits (.int .i64) v=true:=λv _ _ h=>by rw[show v=_ from h];rfl
theorem Zdp{z n:Int}(h:Value.int .i64 n=Value.int .i64 z):n=z:=by injection h
theorem ZoC{z:Bool}:∀(v:Value)(m':Mem) (css:List (List Value)),Ret (.bool z) v m' css->Shape.fits .bool v=true:=λv _ _ h=>by rw[show v=_ from h];rfl
theorem Zrn{z n:Bool}(h:Value.bool n=Value.bool z):n=z:=by injection h
theorem Zro{s:Sc}{n:Int}{a a1:Option Addr}{p c p1 c1:Nat}(h:Value.agg #[.int .i64 n,.slice a p c,.slice a1 p1 c1]=s.v):n=s.n/\a=s.va/\p=s.vars.length/\c=s.vc/\a1=s.sa/\p1=s.states.length/\c1=s.sc:=ZpM h
set_option maxHeartbeats 4000000 in
theorem Zh2(x y z:SScr)(w:Int)(m:Mem)(hx:RepSC m x)(hy:RepSC m y)(hz:RepSC m z):CX Tryz.prog 8 #[.agg x.cs.toArray,.agg y.cs.toArray,.agg z.cs.toArray,.int .u8 w] m [] (Ret (.bool true)):=by
 apply Zdu
 intro b1 m1 aE jI _ _ b2 m2 aI iA _ _ b3 m3 aP jD _ _
 have dG:=mLt aE (mLt aI aP)
 refine Zag (ZpO m3) λm4 bU=>Zhy rfl ?_
 have fO:=mLt dG bU
 refine⟨λ_ _ _=>ScR,_,rfl,Zra x m4 (hx.mono fO),Zq8,?_⟩
 rintro n a n1 c a1 n2 c1 m5 cC ⟨s1,hv,eJ,io⟩
 obtain⟨rfl,rfl,rfl,rfl,rfl,rfl,rfl⟩:=Zro hv
 have gn:=mLt fO cC
 refine⟨_,rfl,Zra y m5 (hy.mono gn),Zq8,?_⟩
 rintro n a n1 c a1 n2 c1 m6 eS ⟨s2,hv,eH,jx⟩
 obtain⟨rfl,rfl,rfl,rfl,rfl,rfl,rfl⟩:=Zro hv
 have gi:=mLt gn eS
 refine⟨_,rfl,Zra z m6 (hz.mono gi),Zq8,?_⟩
 rintro n a n1 c a1 n2 c1 m7 fG ⟨s3,hv,jN,pw⟩
 obtain⟨rfl,rfl,rfl,rfl,rfl,rfl,rfl⟩:=Zro hv
 intro b4 b5 b6 M gS yE uE yF
 have iV:=mLt fO gS
 have l1:=io.light
 have l2:=jx.light
 have l3:=pw.light
 have q1:=eJ.mono yE
 have q2:=eH.mono uE
 have q3:=jN.mono yF
 refine⟨λk _ _=>bif Nat.beq k 1 then Ret (mV s1)else bif Nat.beq k 3 then Ret (mV s2)else Ret (mV s3),_,rfl,Zev s1 M q1 l1,Zg3,?_⟩
 rintro e0 e1 e2 e3 e4 e5 m8 fh he
 obtain⟨rfl,rfl,rfl,rfl,rfl,rfl⟩:=ZlR he
 refine⟨_,rfl,Zev s2 m8 (q2.mono fh) l2,Zg3,?_⟩
 rintro e0 e1 e2 e3 e4 e5 m9 iz he
 obtain⟨rfl,rfl,rfl,rfl,rfl,rfl⟩:=ZlR he
 refine⟨_,rfl,Zev s3 m9 (q3.mono (mLt fh iz)) l3,Zg3,?_⟩
 rintro e0 e1 e2 e3 e4 e5 m10 i7 he
 obtain⟨rfl,rfl,rfl,rfl,rfl,rfl⟩:=ZlR he
 intro b7 b8 b9 M1 fP yG yH wq
 have gJ:=mLt iV fP
 have p1:=q1.mono fP
 obtain⟨c12,g12⟩:∃t,ZbM (miL s1) (miL s2)=t:=⟨_,rfl⟩
 obtain⟨c21,g21⟩:∃t,ZbM (miL s2) (miL s1)=t:=⟨_,rfl⟩
 obtain⟨c23,g23⟩:∃t,ZbM (miL s2) (miL s3)=t:=⟨_,rfl⟩
 obtain⟨c13,g13⟩:∃t,ZbM (miL s1) (miL s3)=t:=⟨_,rfl⟩
 obtain⟨c01,g01⟩:∃t,ZbM [0,0,0,0,0,0] (miL s1)=t:=⟨_,rfl⟩
 have k12:=Zji (miL s1) (miL s2)
 rw[g12,g21]at k12
 have r12:=ZqS (miL s1) (miL s2)
 rw[g12]at r12
 have z12:=ZnR (l:=miL s1) (r:=miL s2)
 rw[g12]at z12
 have t13:c12 < 0->c23 < 0->c13 < 0:=by
  rw[<-g12,<-g23,<-g13];exact ZkA rfl rfl
 have n01:c01<=0:=by rw[<-g01];exact ZtN (ZzU l1)
 refine⟨false,?_,Zhy rfl ?_⟩
 ·refine⟨λk _ _=>Ret (.int .i64 (bif Nat.beq k 5 then c21 else bif Nat.beq k 26 then c23 else bif Nat.beq k 32 then c13 else bif Nat.beq k 39 then c01 else c12)),_,rfl,ZbL s1 s2 c12 g12 M1,Zcp,?_⟩
  rintro d1 m11 fQ hd
  obtain rfl:=Zdp hd
  refine⟨_,rfl,ZbL s2 s1 c21 g21 m11,Zcp,?_⟩
  rintro d2 m12 jJ pM
  obtain rfl:=Zdp pM
  refine Zhy ?_ ⟨_,rfl,ZbL s1 s2 d1 g12 m12,Zcp,?_⟩
  ·rw[Zal (by omega) (by omega),show(0:Int) - d2=d1 by omega];simp
  rintro d3 m13 i9 yI
  obtain rfl:=Zdp yI
  refine⟨_,Zxk _ _ _ _ _ _ _ _ _ _ _ _,Zhy ?_ ⟨_,rfl,ZbL s1 s2 d3 g12 m13,Zcp,?_⟩⟩
  ·have e:(d3 == 0)=decide (miL s1=miL s2):=by
    rw[Bool.eq_iff_iff,beq_iff_eq,decide_eq_true_eq];exact z12
   show(!((d3 == 0) == decide (miL s1=miL s2)))=false
   rw[e];simp
  rintro d4 m14 oK yJ
  obtain rfl:=Zdp yJ
  have c0x:∀M:Mem,CX Tryz.prog 39 #[.agg #[.int .i64 0,.int .i64 0,.int .i64 0,.int .i64 0,.int .i64 0,.int .i64 0],mV s1] M [] (Ret (.int .i64 c01)):=λM=>by
   have:=Zix 0 0 0 0 0 0 s1.states.length (ms1 s1) (ms2 s1) (ms3 s1) (ms4 s1) (ms5 s1) M
   rw[show ZbM [0,0,0,0,0,0] [(s1.states.length:Int),ms1 s1,ms2 s1,ms3 s1,ms4 s1,ms5 s1]=c01 from g01]at this
   exact this
  refine ZaA (λhl=>?_) (λhl=>⟨_,rfl,c0x m14,Zcp,?_⟩)
  ·refine⟨_,rfl,ZbL s2 s3 c23 g23 m14,Zcp,?_⟩
   rintro d5 m15 jK uI
   obtain rfl:=Zdp uI
   refine ZaA (λj0=>?_) (λj0=>⟨_,rfl,c0x m15,Zcp,?_⟩)
   ·refine⟨_,rfl,ZbL s1 s3 c13 g13 m15,Zcp,?_⟩
    rintro d6 m16 lU qZ
    obtain rfl:=Zdp qZ
    refine Zhy (decide_eq_false (by have:=t13 hl j0;omega)) ⟨_,rfl,c0x m16,Zcp,?_⟩
    rintro d7 m17 oL oM N _ _ _ _ _ _ _ _
    obtain rfl:=Zdp oM
    exact⟨rfl,by rw[decide_eq_false (by omega)]⟩
   ·rintro d7 m17 oL oM N _ _ _ _ _ _ _ _
    obtain rfl:=Zdp oM
    exact⟨rfl,by rw[decide_eq_false (by omega)]⟩
  ·rintro d7 m17 oL oM N _ _ _ _ _ _ _ _
   obtain rfl:=Zdp oM
   exact⟨rfl,by rw[decide_eq_false (by omega)]⟩
 have eW:=io.len
 refine⟨λxs _ _ mm q=>∃i:Nat,i<=s1.states.length/\xs=[.int .i64 i]/\M1.le mm/\q=s1.states.length - i,⟨_,0,by omega,rfl,Mem.le_refl _,rfl⟩,?_⟩
 rintro u mm q _ ⟨i,hi,hu,pO,rfl⟩
 obtain rfl:u=i:=by simpa using hu
 have js:IntKind.i64.wrap ((i:Int)+1)=((i+1:Nat):Int):=by rw[Zal (by omega) (by omega)];rfl
 refine ZaA (λaC=>?_) (λbJ=>?_)
 ·have aC:(i:Int) < (s1.states.length:Nat):=aC
  obtain⟨t,ht⟩:=Zdz (show i < s1.states.length by omega)
  have gk:=(io.all i t ht).len
  have pm:=p1.mono pO
  obtain⟨b10,o10,uJ,q6⟩:=Zaj Sta.len pm.row ht (by omega)
  refine⟨b10,o10,uJ,⟨by omega,aC⟩,_,_,q6,λb11=>Zaa rfl (Zaa rfl ⟨λxs _ _ mm q=>∃k:Nat,k<=t.rules.length/\xs=[.int .i64 k]/\M1.le mm/\q=t.rules.length - k,⟨_,0,by omega,rfl,pO,rfl⟩,?_⟩)⟩
  rintro u mk q _ ⟨k,oR,hu,rX,rfl⟩
  obtain rfl:u=k:=by simpa using hu
  have i6:IntKind.i64.wrap ((k:Int)+1)=((k+1:Nat):Int):=by rw[Zal (by omega) (by omega)];rfl
  have pk:=p1.mono rX
  refine ZaA (λdX=>?_) (λeE=>?_)
  ·have dX:(k:Int) < (t.rules.length:Nat):=dX
   obtain⟨r,hr⟩:=Zdz (show k < t.rules.length by omega)
   refine⟨by decide,by decide,Zab (λ_=>⟨rfl,_,by omega,k+1,by omega,by rw[i6],rX,rfl⟩) (λ_=>?_)⟩
   obtain⟨dl,d1,d2⟩:=ZwR l1 ht (show k < t.rules.length by omega)
   refine⟨_,trivial,Zt1 s1 i k mk pk l1 ht (by omega),Zox,?_⟩
   rintro n a n1 c a1 n2 c1 n3 m11 fQ ⟨sd,rU,pj,nY⟩
   obtain⟨⟨rfl,rfl,rfl,rfl,rfl,rfl,rfl⟩,rfl⟩:=ZkJ rU
   intro b12
   have p11:=pk.mono fQ
   have q7:=p11.all t (zA2 ht)
   obtain⟨b13,o13,uK,q8⟩:=Zaj Ru.len q7.row hr (by omega)
   have oY:=ZsB ht hr
   refine⟨λ_ _ _=>_,Zaa rfl ⟨b13,o13,uK,⟨by omega,dX⟩,_,_,_,_,_,_,_,_,_,_,_,_,_,_,_,_,q8,_,rfl,Zy1 s1 i k r m11 p11 l1 ht (by omega) (q7.all r (zA2 hr)) (by rw[oY];exact l1),ZpR,?_⟩⟩
   rintro n a n1 c a1 n2 c1 n3 m12 jJ ⟨sp,qD,mu,gG⟩
   obtain⟨⟨rfl,rfl,rfl,rfl,rfl,rfl,rfl⟩,rfl⟩:=ZkJ qD
   rw[oY]at mu
   intro b14 N lg uL
   have pN:=p11.mono lg
   have tg:sd.light=true:=(ZcM pj).trans dl
   have lr:miL sd=miL (Zin s1 i k):=Zya pj dl
   have p8:sd.states.length=s1.states.length:=(Zuy pj).trans d2
   have jO:ms1 sd=ms1 s1 - 1:=by
    have:(miL sd)[1]?=(miL (Zin s1 i k))[1]?:=by rw[lr]
    simp only[miL,List.getElem?_cons_succ,List.getElem?_cons_zero,Option.some.injEq]at this
    rw[this,d1]
   have gC:(Zin s1 i k).states[i]?=some (ZfF t k):=by
    unfold Zin;rw[ht]
    exact List.getElem?_set_self (zA0 ht).1
   obtain⟨td,pE,uM⟩:=Zwx pj gC
   have uN:td.rules.length=t.rules.length - 1:=by
    rw[(ZfG uM).2.2]
    show(t.rules.eraseIdx k).length=_
    rw[List.length_eraseIdx,if_pos (by omega)]
   have eG:=ZuR l1
   refine⟨false,?_,Zhy rfl ⟨rfl,_,by omega,k+1,by omega,by rw[i6],mLt rX (mLt fQ lg),rfl⟩⟩
   refine⟨λk _ _=>bif Nat.beq k 8 then Ret (.int .i64 (-1))else bif Nat.beq k 14 then Ret (.bool true)else Ret (mV sd),Zhy (by decide) ⟨_,rfl,Zev sd N (nY.mono lg) tg,Zg3,?_⟩⟩
   rintro e0 e1 e2 e3 e4 e5 m13 i9 he
   obtain⟨rfl,rfl,rfl,rfl,rfl,rfl⟩:=ZlR he
   refine⟨_,rfl,ZbL sd s1 (-1) (ZuS p8 jO) m13,Zcp,?_⟩
   rintro d5 m14 oK uI
   obtain rfl:=Zdp uI
   have gI:=mLt i9 oK
   have cL:=ZoA sp s1 m14 (gG.mono (mLt uL gI)) (pN.mono gI)
   rw[ZnQ mu ((ZcM mu).trans l1)]at cL
   refine Zhy (by decide) ⟨_,rfl,cL,ZoC,?_⟩
   rintro d6 m15 jK qZ
   obtain rfl:=Zrn qZ
   refine Zhy rfl ⟨_,rfl,Zev sd m15 (nY.mono (mLt lg (mLt gI jK))) tg,Zg3,?_⟩
   rintro e0 e1 e2 e3 e4 e5 m16 lU he
   obtain⟨rfl,rfl,rfl,rfl,rfl,rfl⟩:=ZlR he
   have jH:=mLt gI (mLt jK lU)
   obtain⟨b15,o15,uO,q9⟩:=Zaj Sta.len (nY.mono (mLt lg jH)).row pE (by omega)
   refine Zhy ?_ (Zhy (decide_eq_false (by rw[p8];omega)) ⟨b15,o15,uO,⟨by omega,by rw[p8];omega⟩,_,q9 1 _ rfl,Zaa rfl (Zaa rfl λ_ _ _ _ _ _=>⟨rfl,?_⟩)⟩)
   ·rw[Zal (by omega) (by omega),jO];simp
   ·show[Value.bool (!(((td.rules.length:Nat):Int) == IntKind.i64.wrap (((t.rules.length:Nat):Int) - 1)))]=_
    rw[Zal (by omega) (by omega),uN,show((t.rules.length - 1:Nat):Int)=(t.rules.length:Int) - 1 by omega];simp
  ·have eE:¬(k:Int) < (t.rules.length:Nat):=eE
   exact⟨rfl,_,by omega,i+1,by omega,by rw[js],rX,rfl⟩
 refine⟨λxs _ tvs mn q=>∃(j:Nat)(a:Option Addr)(c:Nat),j<=s1.states.length/\xs=[.slice a (List.range j).length c,.int .i64 j]/\tvs=[.slice a (List.range j).length c]/\M1.le mn/\rowRd mn a ((List.range j).map Zxv)/\(∀b',Yi (.slice a (List.range j).length c) b'->M1.free b'/\M1.k b'=none)/\j<=c/\q=s1.states.length - j,⟨_,0,none,0,by omega,rfl,rfl,pO,.inl rfl,(λb' h=>by simp[Yi,Eng.Tok.blk]at h),Nat.le_refl _,rfl⟩,?_⟩
 rintro a n c u a2 n2 c2 mn q _ ⟨j,a',c',hj,cE,cD,rY,aB,bK,xn,rfl⟩
 simp only[List.cons.injEq,Value.slice.injEq,Value.int.injEq,true_and,and_true]at cE cD
 obtain⟨⟨rfl,rfl,rfl⟩,rfl⟩:=cE
 obtain⟨rfl,rfl,rfl⟩:=cD
 have kJ:IntKind.i64.wrap ((j:Int)+1)=((j+1:Nat):Int):=by rw[Zal (by omega) (by omega)];rfl
 have iS:(List.range j).length=j:=List.length_range
 refine ZaA (λaC=>?_) (λgB=>?_)
 ·have aC:(j:Int) < (s1.states.length:Nat):=aC
  intro b12 kL
  refine Zcc Zy3 Zy4 (ts:=List.range j) kL j (by rw[Zrm];exact aB) 8 (by omega) (by omega) (.inl rfl) λa5 c5 m5 cC bM gT=>?_
  have oC:=mLt (Mem.le_add kL _) cC
  refine⟨rfl,_,?_,j+1,a5,c5,by omega,by rw[kJ,List.range_succ,zA1];rfl,by rw[List.range_succ,zA1];rfl,mLt rY oC,by rw[List.range_succ,<-Zrm];exact bM,λb' hb'=>?_,by have:=gT.1;omega,rfl⟩
  ·omega
  rcases gT.2 with h|⟨bb,oo,ha',h⟩
  ·rw[h]at hb';simp[Yi,Eng.Tok.blk]at hb'
  ·subst ha'
   obtain rfl:bb=b':=by simpa[Yi,Eng.Tok.blk]using hb'
   rcases h with h|⟨_,h2,h3⟩
   ·exact bK _ (by rw[h];simp[Yi,Eng.Tok.blk])
   ·have qz:=mLt rY (Mem.le_add kL (nC j))
    exact⟨Zba qz h2,Zd3 qz h3⟩
 have gB:¬(j:Int) < (s1.states.length:Nat):=gB
 have tI:j=s1.states.length:=by omega
 have pn:=p1.mono rY
 have uP:∃bt ot,a2=some ⟨bt,ot,none⟩:=by
  rcases aB with h|⟨bt,ot,h,_⟩
  ·have:=congrArg List.length h
   simp at this;omega
  ·exact⟨bt,ot,h⟩
 obtain⟨bt,ot,rfl⟩:=uP
 have oS:∀b',Yi (.slice (some ⟨bt,ot,none⟩) (List.range j).length c2) b'->b'=bt:=λb' h=>by
  have:bt=b':=by simpa[Yi,Eng.Tok.blk]using h
  exact this.symm
 have zp:Yi (.slice (some ⟨bt,ot,none⟩) (List.range j).length c2) bt:=by simp[Yi,Eng.Tok.blk]
 have sC:¬mn.free bt:=λhf=>by
  rcases aB with h|⟨b',o',ha',h⟩
  ·have:=congrArg List.length h
   simp at this;omega
  ·cases ha'
   have:=h 0 _ (zA3 (by simp;omega))
   rw[hf]at this;cases this
 refine⟨_,trivial,Zmp s1 (List.range j) (some ⟨bt,ot,none⟩) c2 mn pn l1 aB (by intro i hi;have:=List.mem_range.1 hi;omega) List.nodup_range (by rw[iS];omega),Zhr,?_⟩
 rintro n a n1 c a1 n2 c1 n3 m11 fQ ⟨k1,rb,kn1,kvr1,ks1,krep1⟩
 obtain⟨⟨rfl,rfl,rfl,rfl,rfl,rfl,rfl⟩,rfl⟩:=ZkJ rb
 have ke1:k1.er=s1.er:=ZqW kn1 kvr1 rfl rfl ks1 (by rw[tI];exact ZqX s1)
 intro b13
 refine⟨_,_,ZlQ (List.range j) (some ⟨bt,ot,none⟩) c2 m11 (aB.mono fQ) (by rw[iS];omega),(λt ht bb eB=>by
   obtain rfl:t=_:=by simpa using ht
   exact eB),(λbb eB=>.inl ⟨_,by simp,eB⟩),(λv _ _ _ h=>by rw[h.1];rfl),?_⟩
 rintro m12 jJ _ a6 c6 d6 ⟨_,_,cD,cU⟩
 simp only[List.cons.injEq,Value.slice.injEq,and_true]at cD
 obtain⟨rfl,rfl,rfl⟩:=cD
 have kO:M1.le m12:=mLt (ZfT (mLt rY fQ) bK) jJ
 have uQ:RepC m12 k1:=krep1.mono (mLt (ZfT (Zec mn m11) λb' hb'=>⟨by rw[oS b' hb'];exact Znz sC,rfl⟩) jJ)
 have p12:=p1.mono kO
 have re:(List.range j).reverse.length=(List.range j).length:=List.length_reverse
 have wt:=Zmp s1 (List.range j).reverse (some ⟨bt,ot,none⟩) d6 m12 p12 l1 cU (by intro i hi;have:=List.mem_range.1 (List.mem_reverse.1 hi);omega) ((List.reverse_perm _).nodup_iff.2 List.nodup_range) (by rw[re,iS];omega)
 rw[re]at wt
 refine⟨_,trivial,wt,Zhr,?_⟩
 rintro n a n1 c a1 n2 c1 n3 m13 i9 ⟨k2,rb,kn2,kvr2,ks2,krep2⟩
 obtain⟨⟨rfl,rfl,rfl,rfl,rfl,rfl,rfl⟩,rfl⟩:=ZkJ rb
 have ke2:k2.er=(ZnM s1).er:=ZqW kn2 kvr2 rfl rfl ks2 (by rw[tI];exact ZwS s1)
 intro b14
 have yK:((List.range j).reverse)[0]?=some (j - 1):=by
  rw[List.getElem?_reverse (by rw[iS];omega),iS,List.getElem?_range (by omega)];rfl
 obtain⟨tl,gk⟩:∃tl,s1.states[j - 1]?=some tl:=⟨_,zA3 (by omega)⟩
 have iB:rowRd m13 (Za1 (some ⟨bt,ot,none⟩) 0 d6 1) ([j - 1].map Zxv):=by
  show rowRd m13 (some ⟨bt,ot,none⟩) ([j - 1].map Zxv)
  rcases cU.mono i9 with h|⟨b',o',ha',h⟩
  ·have:=congrArg List.length h
   simp at this;omega
  ·refine .inr ⟨b',o',ha',λq v hq=>h q v ?_⟩
   cases q with
   | zero=>
    rw[List.getElem?_map,yK]
    simpa using hq
   | succ q=>simp at hq
 have p13:=p12.mono i9
 refine⟨λ_ _ _=>Zyd m13 s1 [j - 1],⟨by decide,by omega⟩,_,rfl,Zmp s1 [j - 1] (Za1 (some ⟨bt,ot,none⟩) 0 d6 1) (d6 - 0) m13 p13 l1 iB (by intro i hi;rw[List.mem_singleton]at hi;omega) (by simp) (by simp),Zhr,?_⟩
 rintro n a n1 c a1 n2 c1 n3 m14 oK ⟨k3,rb,kn3,kvr3,ks3,krep3⟩
 obtain⟨⟨rfl,rfl,rfl,rfl,rfl,rfl,rfl⟩,rfl⟩:=ZkJ rb
 have ke3:k3.er=(ZqY s1 tl).er:=ZqW kn3 kvr3 rfl rfl ks3 (ZwU gk)
 intro b15 N lW uR
 obtain⟨tl2,tmi⟩:=ZwT l1
 obtain⟨pb,jj⟩:=ZwV l1 gk
 have kl1:k1.light=true:=(ZcM ke1).trans l1
 have kl2:k2.light=true:=(ZcM ke2).trans tl2
 have kl3:k3.light=true:=(ZcM ke3).trans pb
 have km2:miL k2=miL s1:=(Zya ke2 tl2).trans tmi
 have km3:miL k3=miL (ZqY s1 tl):=Zya ke3 pb
 obtain⟨cz,gz⟩:∃t,ZbM (miL k3) (miL s1)=t:=⟨_,rfl⟩
 have cz0:cz<=0:=by rw[<-gz,km3];exact jj
 have pN:=p13.mono lW
 have uS:RepC N k2:=krep2.mono (mLt (Zec _ _) lW)
 have uT:RepC N k3:=krep3.mono (mLt (Zec _ _) uR)
 have cL:=ZoA k1 s1 N (uQ.mono (mLt i9 lW)) pN
 rw[ZnQ ke1 kl1]at cL
 have lF:k3.states.length=1:=by
  have:=Zuy ke3
  rw[this];rfl
 refine⟨true,⟨λk _ _=>bif Nat.beq k 9 then Ret (.bool true)else bif Nat.beq k 13 then Ret (mV k2)else bif Nat.beq k 19 then Ret (mV k3)else Ret (.int .i64 cz),ZsF (by decide) ⟨_,rfl,cL,ZoC,?_⟩⟩,?_⟩
 ·rintro d6 m15 jK qZ
  obtain rfl:=Zrn qZ
  refine ZsF rfl ⟨_,rfl,Zev k2 m15 (uS.mono jK) kl2,Zg3,?_⟩
  rintro e0 e1 e2 e3 e4 e5 m16 lU he
  obtain⟨rfl,rfl,rfl,rfl,rfl,rfl⟩:=ZlR he
  have jH:=mLt jK lU
  refine⟨_,Zxk _ _ _ _ _ _ _ _ _ _ _ _,ZsF (decide_eq_true (show miL k2=miL s1 from km2)) ⟨_,rfl,Zev k3 m16 (uT.mono jH) kl3,Zg3,?_⟩⟩
  rintro e0 e1 e2 e3 e4 e5 m17 oL he
  obtain⟨rfl,rfl,rfl,rfl,rfl,rfl⟩:=ZlR he
  refine⟨_,rfl,ZbL k3 s1 cz gz m17,Zcp,?_⟩
  rintro d7 m18 yM oM
  obtain rfl:=Zdp oM
  refine ZsF (decide_eq_true cz0) λ_ _ _ _ _ _=>⟨rfl,rfl,?_⟩
  rw[lF];rfl
 ·exact Zaf (mLt (mLt gJ kO) (mLt i9 lW)) rfl
end Go.Proofs.YtpjepnkiiojgfaaGreat
namespace Go.Proofs.YtpjepnkiiojgfaaGreat
open Go Go.Eng Go.Rx Go.Proofs Go.RowKit Go.ChangeShapes Go.WideShapes Go.ChangeAt
set_option maxRecDepth 100000
theorem Zt3{α:Type}{Zgb:α->List Value}{k:Nat}(hk:∀z,(Zgb z).length=k){m:Mem}{b:Nat}:∀{L:List α} {o:Nat},(∀i z,L[i]?=some z->m.reads b (o+i*k) (Zgb z))->m.reads b o (L.map Zgb).flatten
 | [],o,h=>λj v hj=>by simp at hj
 | x::L,o,h=>λj v hj=>by
  rw[List.map_cons,List.flatten_cons]at hj
  by_cases aC:j < k
  ·rw[zA5 (by rw[hk];exact aC)]at hj
   have:=h 0 x rfl j v hj
   rwa [Nat.zero_mul,Nat.add_zero]at this
  ·rw[zA4 (by rw[hk];omega),hk]at hj
   have:=Zt3 hk (L:=L) (o:=o+k) (λi z hz=>by
    have:=h (i+1) z (by simpa using hz)
    rwa [show o+(i+1)*k=o+k+i*k by rw[Nat.succ_mul];omega]at this) (j - k) v hj
   rwa [show o+k+(j - k)=o+j by omega]at this
theorem Zt4{α:Type}{p:Nat->α->Prop}:∀n,(∀i,i < n->∃z,p i z)->∃L:List α,L.length=n/\∀i z,L[i]?=some z->p i z
 | 0,_=>⟨[],rfl,λi z h=>by simp at h⟩
 | n+1,h=>by
  obtain⟨L,hL,hp⟩:=Zt4 n λi hi=>h i (by omega)
  obtain⟨z,hz⟩:=h n (by omega)
  refine⟨L++[z],by rw[zA1,hL];rfl,λi y hy=>?_⟩
  by_cases hi:i < n
  ·rw[zA5 (by omega)]at hy;exact hp i y hy
  ·have aC:=(zA0 hy).1
   rw[zA1,hL]at aC
   have aC:i < n+1:=aC
   obtain rfl:i=n:=by omega
   rw[zA4 (by omega),hL,Nat.sub_self]at hy
   obtain rfl:z=y:=by simpa using hy
   exact hz
theorem ZAa{w:World}{a:Addr}{v:Value}(h:w.cell? (a.add 0)=some v):∃b o,a=⟨b,o,none⟩:=by
 obtain⟨b,o,sp⟩:=a
 cases sp with
 | none=>exact⟨b,o,rfl⟩
 | some s=>
  exfalso
  have e:(Addr.add ⟨b,o,some s⟩ 0)=⟨b,o,some s⟩:=rfl
  rw[e]at h
  unfold World.cell? at h
  split at h
  ·simp at h
  ·cases h
section
variable {H:Type} {enc:TypeId×Value->H} {W:World} {dD:Bool}
theorem Zrp{P:Program}{e:TypeId}:∀{l:List (DataW H)} {d:DataW H},d∈l->∀n∈d.weights P e,n∈DataW.weightsAll P e l
 | x::l,d,hd,n,hn=>by
  simp only[DataW.weightsAll,List.mem_append]
  rcases List.mem_cons.1 hd with rfl|hd
  ·exact .inl hn
  ·exact .inr (Zrp hd n hn)
theorem Zdh{α:Type}{Zgb:α->List Value}{Q:α->Prop}{t e:TypeId}{k:Nat}(ht:Tryz.prog.underlying t=some (.slice e))(hc:Tryz.prog.cellsOf e=k)(hk:∀z,(Zgb z).length=k)(h0:0 < k)(hb:1<=Tryz.prog.bytesOf e){n:Nat}{cs:List Value}{x:DataW H×List MemPlace}
  (h:DataW.trod enc Tryz.prog W 0 (λ_=>true) dD n t cs=some x) (hw:∀w∈x.1.weights Tryz.prog t,w<=reachBytes)
  (ih:∀n',n' < n->∀(cs':List Value)(y:DataW H×List MemPlace),DataW.trod enc Tryz.prog W 0 (λ_=>true) dD n' e cs'=some y->(∀w∈y.1.weights Tryz.prog e,w<=reachBytes)->∃z,cs'=Zgb z/\Q z):
  ∃(L:List α)(a:Option Addr)(cap:Nat),cs=[.slice a L.length cap]/\L.length<=cap/\L.length<=1000000000000000/\rowRd (Zne W) a (L.map Zgb).flatten/\∀z∈L,Q z:=by
 rcases DataW.trod_slice ht h with⟨q4,_⟩|⟨a,len,cap,elems,rest,n',hn',q4,hx,_,hl,hm,vB,qv,_⟩
 ·exact⟨[],none,0,q4,by simp,by simp,.inl rfl,by simp⟩
 rw[hx]at hw
 simp only[DataW.weights,ht,List.length_map]at hw
 have bI:=hw _ (List.mem_cons_self)
 have aH:len<=1000000000000000:=by
  have h2:=reachBytes_lt
  have h3:(elems.length+rest.length)*1<=(elems.length+rest.length)*Tryz.prog.bytesOf e:=Nat.mul_le_mul_left _ hb
  omega
 rw[hc]at qv
 obtain⟨L,hL,hp⟩:=Zt4 (p:=λi z=>(∀j v,(Zgb z)[j]?=some v->W.cell? ((a.add (i*k)).add j)=some v)/\Q z) len (λi hi=>by
  have h1:=qv i hi
  rw[zA3 (by omega)]at h1
  obtain⟨cs',h2,h3⟩:=Option.bind_eq_some_iff.1 h1
  obtain⟨_,ng,yN⟩:=World.cells?_some h2
  obtain⟨z,rfl,hz⟩:=ih n' (by omega) _ _ h3 (λw gY=>hw w (List.mem_cons_of_mem _ (List.mem_append_left _ (Zrp (List.mem_map.2 ⟨_,List.getElem_mem _,rfl⟩) w gY))))
  refine⟨z,λj v hj=>?_,hz⟩
  have aC:=(zA0 hj).1
  rw[yN j (by rw[ng]at aC;exact aC)];exact hj)
 refine⟨L,some a,cap,by rw[q4,hL],by omega,by omega,?_,λz hz=>?_⟩
 ·by_cases zq:len=0
  ·left
   obtain rfl:L=[]:=List.eq_nil_of_length_eq_zero (by omega)
   rfl
  ·right
   obtain⟨z,hz⟩:=Zaq (show 0 < L.length by omega)
   have h1:=(hp 0 z hz).1
   obtain⟨u,hu⟩:=Zaq (show 0 < (Zgb z).length by rw[hk];exact h0)
   have h2:=h1 0 u hu
   rw[Nat.zero_mul]at h2
   have e0:∀b:Addr,(b.add 0).add 0=b.add 0:=λb=>by
    obtain⟨x1,x2,x3⟩:=b
    cases x3 <;> rfl
   rw[e0]at h2
   obtain⟨b,o,rfl⟩:=ZAa h2
   refine⟨b,o,rfl,Zt3 hk λi z hz j v hj=>?_⟩
   have:=(hp i z hz).1 j v hj
   rw[ZbH,ZbH]at this
   exact this
 ·obtain⟨i,hi⟩:=List.getElem?_of_mem hz
  exact(hp i z hi).2
end
theorem wu8{n:Int}(h:(Lit.int .u8 n).wf=true):0<=n/\n < 256:=by
 have:0<=n/\n<=255:=by simpa[Lit.wf,IntKind.min,IntKind.max,IntKind.signed,IntKind.bits]using h
 omega
theorem ZAY{n:Int}(h:(Lit.int .u64 n).wf=true):0<=n/\n < 18446744073709551616:=by
 have:0<=n/\n<=18446744073709551615:=by simpa[Lit.wf,IntKind.min,IntKind.max,IntKind.signed,IntKind.bits]using h
 omega
def s5C(s:Nat×Nat×Nat):List Value:=[.int .u8 s.1,.int .u8 s.2.1,.int .u64 s.2.2]
def s8C(s:Nat×Nat×Nat):List Value:=[.int .u8 s.1,.int .u8 s.2.1,.int .u8 s.2.2]
theorem Zy5{m:Mem}{a:Option Addr}{l:List (Nat×Nat×Nat)}(hl:l.length<=1000000000000000)(h:rowRd m a (l.map s5C).flatten)(hb:∀s∈l,s.1 < 256/\s.2.1 < 256/\s.2.2 < 18446744073709551616):SmE m a l:=⟨by omega,hb,λi s hi=>Zaj (cs:=s5C) (n:=3) (λ_=>rfl) h hi (by omega)⟩
theorem ZAb{m:Mem}{a:Option Addr}{l:List (Nat×Nat×Nat)}(hl:l.length<=1000000000000000)(h:rowRd m a (l.map s8C).flatten)(hb:∀s∈l,s.1 < 256/\s.2.1 < 256/\s.2.2 < 256):Sm m a l:=⟨by omega,hb,λi s hi=>Zaj (cs:=s8C) (n:=3) (λ_=>rfl) h hi (by omega)⟩
section
variable {H:Type} {enc:TypeId×Value->H} {W:World} {dD:Bool}
theorem Zt5(n:Nat)(cs:List Value)(x:DataW H×List MemPlace)(h:DataW.trod enc Tryz.prog W 0 (λ_=>true) dD n 5 cs=some x):∃z:Nat,cs=[.int .u8 z]/\z < 256:=by
 obtain⟨k,q,_,w⟩:=DataW.trod_int Tryz.underlying5 h
 have b:=wu8 w
 obtain⟨z,rfl⟩:∃z:Nat,k=z:=⟨k.toNat,by omega⟩
 exact⟨z,q,by omega⟩
theorem Zzx:Tryz.prog.underlying 217=some (.struct #[⟨ "Kind",5,0,false, "", "",0⟩,⟨ "N",5,1,false, "", "",1⟩,⟨ "Bits",37,2,false, "", "",8⟩]):=by kernel_rfl
theorem Zxw(n:Nat)(cs:List Value)(x:DataW H×List MemPlace)(h:DataW.trod enc Tryz.prog W 0 (λ_=>true) dD n 217 cs=some x)(hw:∀w∈x.1.weights Tryz.prog 217,w<=reachBytes):∃s:Nat×Nat×Nat,cs=s5C s/\s.1 < 256/\s.2.1 < 256/\s.2.2 < 18446744073709551616:=by
 obtain⟨xs,k,hk,eR,aH,cE,hx⟩:=DataW.trod_struct Zzx h
 have hc:Tryz.prog.cellsOf 217=3:=by kernel_rfl
 rw[hc]at aH
 obtain⟨c0,c1,c2,rfl⟩:∃c0 c1 c2,cs=[c0,c1,c2]:=by
  match cs,aH with
  | [c0,c1,c2],_=>exact⟨c0,c1,c2,rfl⟩
 obtain⟨z0,z1,z2,rfl⟩:∃z0 z1 z2,xs=[z0,z1,z2]:=by
  match xs,cE with
  | [z0,z1,z2],_=>exact⟨z0,z1,z2,rfl⟩
 rw[eR]at hw
 simp only[DataW.weights,Zzx]at hw
 have g0:DataW.trod enc Tryz.prog W 0 (λ_=>true) dD k 5 (List.take (Tryz.prog.cellsOf 5) (List.drop 0 [c0,c1,c2]))=some z0:=hx 0 _ rfl
 rw[show Tryz.prog.cellsOf 5=1 by kernel_rfl]at g0
 obtain⟨kk0,q0,_,w0⟩:=DataW.trod_int Tryz.underlying5 g0
 have b0:=wu8 w0
 obtain⟨kk,rfl⟩:∃z:Nat,kk0=z:=⟨kk0.toNat,by omega⟩
 have g1:DataW.trod enc Tryz.prog W 0 (λ_=>true) dD k 5 (List.take (Tryz.prog.cellsOf 5) (List.drop 1 [c0,c1,c2]))=some z1:=hx 1 _ rfl
 rw[show Tryz.prog.cellsOf 5=1 by kernel_rfl]at g1
 obtain⟨nn0,q1,_,w1⟩:=DataW.trod_int Tryz.underlying5 g1
 have b1:=wu8 w1
 obtain⟨nn,rfl⟩:∃z:Nat,nn0=z:=⟨nn0.toNat,by omega⟩
 have g2:DataW.trod enc Tryz.prog W 0 (λ_=>true) dD k 37 (List.take (Tryz.prog.cellsOf 37) (List.drop 2 [c0,c1,c2]))=some z2:=hx 2 _ rfl
 rw[show Tryz.prog.cellsOf 37=1 by kernel_rfl]at g2
 obtain⟨bb0,q2,_,w2⟩:=DataW.trod_int Tryz.underlying37 g2
 have b2:=ZAY w2
 obtain⟨bb,rfl⟩:∃z:Nat,bb0=z:=⟨bb0.toNat,by omega⟩
 simp only[List.drop,List.take,List.cons.injEq,and_true]at q0 q1 q2
 subst q0
 subst q1
 subst q2
 exact⟨(kk,nn,bb),rfl,by show kk < 256;omega,by show nn < 256;omega,by show bb < 18446744073709551616;omega⟩
theorem Zzy:Tryz.prog.underlying 195=some (.struct #[⟨ "Kind",5,0,false, "", "",0⟩,⟨ "N",5,1,false, "", "",1⟩,⟨ "M",5,2,false, "", "",2⟩]):=by kernel_rfl
theorem Zxx(n:Nat)(cs:List Value)(x:DataW H×List MemPlace)(h:DataW.trod enc Tryz.prog W 0 (λ_=>true) dD n 195 cs=some x)(hw:∀w∈x.1.weights Tryz.prog 195,w<=reachBytes):∃s:Nat×Nat×Nat,cs=s8C s/\s.1 < 256/\s.2.1 < 256/\s.2.2 < 256:=by
 obtain⟨xs,k,hk,eR,aH,cE,hx⟩:=DataW.trod_struct Zzy h
 have hc:Tryz.prog.cellsOf 195=3:=by kernel_rfl
 rw[hc]at aH
 obtain⟨c0,c1,c2,rfl⟩:∃c0 c1 c2,cs=[c0,c1,c2]:=by
  match cs,aH with
  | [c0,c1,c2],_=>exact⟨c0,c1,c2,rfl⟩
 obtain⟨z0,z1,z2,rfl⟩:∃z0 z1 z2,xs=[z0,z1,z2]:=by
  match xs,cE with
  | [z0,z1,z2],_=>exact⟨z0,z1,z2,rfl⟩
 rw[eR]at hw
 simp only[DataW.weights,Zzy]at hw
 have g0:DataW.trod enc Tryz.prog W 0 (λ_=>true) dD k 5 (List.take (Tryz.prog.cellsOf 5) (List.drop 0 [c0,c1,c2]))=some z0:=hx 0 _ rfl
 rw[show Tryz.prog.cellsOf 5=1 by kernel_rfl]at g0
 obtain⟨kk0,q0,_,w0⟩:=DataW.trod_int Tryz.underlying5 g0
 have b0:=wu8 w0
 obtain⟨kk,rfl⟩:∃z:Nat,kk0=z:=⟨kk0.toNat,by omega⟩
 have g1:DataW.trod enc Tryz.prog W 0 (λ_=>true) dD k 5 (List.take (Tryz.prog.cellsOf 5) (List.drop 1 [c0,c1,c2]))=some z1:=hx 1 _ rfl
 rw[show Tryz.prog.cellsOf 5=1 by kernel_rfl]at g1
 obtain⟨nn0,q1,_,w1⟩:=DataW.trod_int Tryz.underlying5 g1
 have b1:=wu8 w1
 obtain⟨nn,rfl⟩:∃z:Nat,nn0=z:=⟨nn0.toNat,by omega⟩
 have g2:DataW.trod enc Tryz.prog W 0 (λ_=>true) dD k 5 (List.take (Tryz.prog.cellsOf 5) (List.drop 2 [c0,c1,c2]))=some z2:=hx 2 _ rfl
 rw[show Tryz.prog.cellsOf 5=1 by kernel_rfl]at g2
 obtain⟨bb0,q2,_,w2⟩:=DataW.trod_int Tryz.underlying5 g2
 have b2:=wu8 w2
 obtain⟨bb,rfl⟩:∃z:Nat,bb0=z:=⟨bb0.toNat,by omega⟩
 simp only[List.drop,List.take,List.cons.injEq,and_true]at q0 q1 q2
 subst q0
 subst q1
 subst q2
 exact⟨(kk,nn,bb),rfl,by show kk < 256;omega,by show nn < 256;omega,by show bb < 256;omega⟩
theorem Zt6:Tryz.prog.underlying 158=some (.struct #[⟨ "Kind",5,0,false, "", "",0⟩,⟨ "N",5,1,false, "", "",1⟩,⟨ "Parts",22,2,false, "", "",8⟩,⟨ "Expr",156,3,false, "", "",32⟩]):=by kernel_rfl
theorem ZsZ(n:Nat)(cs:List Value)(x:DataW H×List MemPlace)(h:DataW.trod enc Tryz.prog W 0 (λ_=>true) dD n 158 cs=some x)(hw:∀w∈x.1.weights Tryz.prog 158,w<=reachBytes):∃s:SAct,cs=s.cs/\RepSA (Zne W) s:=by
 obtain⟨xs,k,hk,eR,aH,cE,hx⟩:=DataW.trod_struct Zt6 h
 have hc:Tryz.prog.cellsOf 158=4:=by kernel_rfl
 rw[hc]at aH
 obtain⟨c0,c1,c2,c3,rfl⟩:∃c0 c1 c2 c3,cs=[c0,c1,c2,c3]:=by
  match cs,aH with
  | [c0,c1,c2,c3],_=>exact⟨c0,c1,c2,c3,rfl⟩
 obtain⟨z0,z1,z2,z3,rfl⟩:∃z0 z1 z2 z3,xs=[z0,z1,z2,z3]:=by
  match xs,cE with
  | [z0,z1,z2,z3],_=>exact⟨z0,z1,z2,z3,rfl⟩
 rw[eR]at hw
 simp only[DataW.weights,Zt6]at hw
 have g0:DataW.trod enc Tryz.prog W 0 (λ_=>true) dD k 5 (List.take (Tryz.prog.cellsOf 5) (List.drop 0 [c0,c1,c2,c3]))=some z0:=hx 0 _ rfl
 rw[show Tryz.prog.cellsOf 5=1 by kernel_rfl]at g0
 obtain⟨kk0,q0,_,w0⟩:=DataW.trod_int Tryz.underlying5 g0
 have b0:=wu8 w0
 obtain⟨kk,rfl⟩:∃z:Nat,kk0=z:=⟨kk0.toNat,by omega⟩
 have g1:DataW.trod enc Tryz.prog W 0 (λ_=>true) dD k 5 (List.take (Tryz.prog.cellsOf 5) (List.drop 1 [c0,c1,c2,c3]))=some z1:=hx 1 _ rfl
 rw[show Tryz.prog.cellsOf 5=1 by kernel_rfl]at g1
 obtain⟨nn0,q1,_,w1⟩:=DataW.trod_int Tryz.underlying5 g1
 have b1:=wu8 w1
 obtain⟨nn,rfl⟩:∃z:Nat,nn0=z:=⟨nn0.toNat,by omega⟩
 have g2:DataW.trod enc Tryz.prog W 0 (λ_=>true) dD k 22 (List.take (Tryz.prog.cellsOf 22) (List.drop 2 [c0,c1,c2,c3]))=some z2:=hx 2 _ rfl
 rw[show Tryz.prog.cellsOf 22=1 by kernel_rfl]at g2
 obtain⟨L2,a2,cap2,q2,oN,oO,cU,lh⟩:=Zdh (Zgb:=(λn:Nat=>[Value.int .u8 n])) (Q:=(λn:Nat=>n < 256)) (k:=1) (by kernel_rfl) (by kernel_rfl) (λ_=>rfl) (by decide) (zA6 (by kernel_rfl)) g2 (λw gY=>hw w (DataW.weights_mem_each (j:=2) (t:=22) rfl rfl w gY)) λn' _ cs' y hy li=>Zt5 n' cs' y hy
 have g3:DataW.trod enc Tryz.prog W 0 (λ_=>true) dD k 156 (List.take (Tryz.prog.cellsOf 156) (List.drop 3 [c0,c1,c2,c3]))=some z3:=hx 3 _ rfl
 rw[show Tryz.prog.cellsOf 156=1 by kernel_rfl]at g3
 obtain⟨L3,a3,cap3,q3,uU,uV,iB,rh⟩:=Zdh (Zgb:=s5C) (Q:=(λs:Nat×Nat×Nat=>s.1 < 256/\s.2.1 < 256/\s.2.2 < 18446744073709551616)) (k:=3) (by kernel_rfl) (by kernel_rfl) (λ_=>rfl) (by decide) (zA6 (by kernel_rfl)) g3 (λw gY=>hw w (DataW.weights_mem_each (j:=3) (t:=156) rfl rfl w gY)) λn' _ cs' y hy li=>Zxw n' cs' y hy li
 simp only[List.drop,List.take,List.cons.injEq,and_true]at q0 q1 q2 q3
 subst q0
 subst q1
 subst q2
 subst q3
 exact⟨⟨kk,nn,a2,L2,cap2,a3,L3,cap3⟩,rfl,⟨by show kk < 256;omega,by show nn < 256;omega,⟨lh,cU⟩,oO,oN,Zy5 uV iB rh,uU⟩⟩
theorem Zt7:Tryz.prog.underlying 108=some (.struct #[⟨ "Kind",5,0,false, "", "",0⟩,⟨ "N",5,1,false, "", "",1⟩,⟨ "Ticks",5,2,false, "", "",2⟩,⟨ "Goto",5,3,false, "", "",3⟩,⟨ "Regex",105,4,false, "", "",8⟩,⟨ "Acts",106,5,false, "", "",32⟩]):=by kernel_rfl
theorem Zs0(n:Nat)(cs:List Value)(x:DataW H×List MemPlace)(h:DataW.trod enc Tryz.prog W 0 (λ_=>true) dD n 108 cs=some x)(hw:∀w∈x.1.weights Tryz.prog 108,w<=reachBytes):∃s:SRul,cs=s.cs/\RepSR (Zne W) s:=by
 obtain⟨xs,k,hk,eR,aH,cE,hx⟩:=DataW.trod_struct Zt7 h
 have hc:Tryz.prog.cellsOf 108=6:=by kernel_rfl
 rw[hc]at aH
 obtain⟨c0,c1,c2,c3,c4,c5,rfl⟩:∃c0 c1 c2 c3 c4 c5,cs=[c0,c1,c2,c3,c4,c5]:=by
  match cs,aH with
  | [c0,c1,c2,c3,c4,c5],_=>exact⟨c0,c1,c2,c3,c4,c5,rfl⟩
 obtain⟨z0,z1,z2,z3,z4,z5,rfl⟩:∃z0 z1 z2 z3 z4 z5,xs=[z0,z1,z2,z3,z4,z5]:=by
  match xs,cE with
  | [z0,z1,z2,z3,z4,z5],_=>exact⟨z0,z1,z2,z3,z4,z5,rfl⟩
 rw[eR]at hw
 simp only[DataW.weights,Zt7]at hw
 have g0:DataW.trod enc Tryz.prog W 0 (λ_=>true) dD k 5 (List.take (Tryz.prog.cellsOf 5) (List.drop 0 [c0,c1,c2,c3,c4,c5]))=some z0:=hx 0 _ rfl
 rw[show Tryz.prog.cellsOf 5=1 by kernel_rfl]at g0
 obtain⟨kk0,q0,_,w0⟩:=DataW.trod_int Tryz.underlying5 g0
 have b0:=wu8 w0
 obtain⟨kk,rfl⟩:∃z:Nat,kk0=z:=⟨kk0.toNat,by omega⟩
 have g1:DataW.trod enc Tryz.prog W 0 (λ_=>true) dD k 5 (List.take (Tryz.prog.cellsOf 5) (List.drop 1 [c0,c1,c2,c3,c4,c5]))=some z1:=hx 1 _ rfl
 rw[show Tryz.prog.cellsOf 5=1 by kernel_rfl]at g1
 obtain⟨nn0,q1,_,w1⟩:=DataW.trod_int Tryz.underlying5 g1
 have b1:=wu8 w1
 obtain⟨nn,rfl⟩:∃z:Nat,nn0=z:=⟨nn0.toNat,by omega⟩
 have g2:DataW.trod enc Tryz.prog W 0 (λ_=>true) dD k 5 (List.take (Tryz.prog.cellsOf 5) (List.drop 2 [c0,c1,c2,c3,c4,c5]))=some z2:=hx 2 _ rfl
 rw[show Tryz.prog.cellsOf 5=1 by kernel_rfl]at g2
 obtain⟨tt0,q2,_,w2⟩:=DataW.trod_int Tryz.underlying5 g2
 have b2:=wu8 w2
 obtain⟨tt,rfl⟩:∃z:Nat,tt0=z:=⟨tt0.toNat,by omega⟩
 have g3:DataW.trod enc Tryz.prog W 0 (λ_=>true) dD k 5 (List.take (Tryz.prog.cellsOf 5) (List.drop 3 [c0,c1,c2,c3,c4,c5]))=some z3:=hx 3 _ rfl
 rw[show Tryz.prog.cellsOf 5=1 by kernel_rfl]at g3
 obtain⟨gg0,q3,_,w3⟩:=DataW.trod_int Tryz.underlying5 g3
 have b3:=wu8 w3
 obtain⟨gg,rfl⟩:∃z:Nat,gg0=z:=⟨gg0.toNat,by omega⟩
 have g4:DataW.trod enc Tryz.prog W 0 (λ_=>true) dD k 105 (List.take (Tryz.prog.cellsOf 105) (List.drop 4 [c0,c1,c2,c3,c4,c5]))=some z4:=hx 4 _ rfl
 rw[show Tryz.prog.cellsOf 105=1 by kernel_rfl]at g4
 obtain⟨L4,a4,cap4,q4,uW,uX,cT,ri⟩:=Zdh (Zgb:=s8C) (Q:=(λs:Nat×Nat×Nat=>s.1 < 256/\s.2.1 < 256/\s.2.2 < 256)) (k:=3) (by kernel_rfl) (by kernel_rfl) (λ_=>rfl) (by decide) (zA6 (by kernel_rfl)) g4 (λw gY=>hw w (DataW.weights_mem_each (j:=4) (t:=105) rfl rfl w gY)) λn' _ cs' y hy li=>Zxx n' cs' y hy li
 have g5:DataW.trod enc Tryz.prog W 0 (λ_=>true) dD k 106 (List.take (Tryz.prog.cellsOf 106) (List.drop 5 [c0,c1,c2,c3,c4,c5]))=some z5:=hx 5 _ rfl
 rw[show Tryz.prog.cellsOf 106=1 by kernel_rfl]at g5
 obtain⟨L5,a5,cap5,q5,uY,uZ,bM,rj⟩:=Zdh (Zgb:=SAct.cs) (Q:=RepSA (Zne W)) (k:=4) (by kernel_rfl) (by kernel_rfl) (λ_=>rfl) (by decide) (zA6 (by kernel_rfl)) g5 (λw gY=>hw w (DataW.weights_mem_each (j:=5) (t:=106) rfl rfl w gY)) λn' _ cs' y hy li=>ZsZ n' cs' y hy li
 simp only[List.drop,List.take,List.cons.injEq,and_true]at q0 q1 q2 q3 q4 q5
 subst q0
 subst q1
 subst q2
 subst q3
 subst q4
 subst q5
 exact⟨⟨kk,nn,tt,gg,a4,L4,cap4,a5,L5,cap5⟩,rfl,⟨by show kk < 256;omega,by show nn < 256;omega,by show tt < 256;omega,by show gg < 256;omega,ZAb uX cT ri,uW,uZ,uY,bM,rj⟩⟩
theorem Zs1(n:Nat)(cs:List Value)(x:DataW H×List MemPlace)(h:DataW.trod enc Tryz.prog W 0 (λ_=>true) dD n 104 cs=some x)(hw:∀w∈x.1.weights Tryz.prog 104,w<=reachBytes):∃s:SSta,cs=s.cs/\RepSS (Zne W) s:=by
 obtain⟨L,a,cap,q,yO,rx,aB,cS⟩:=Zdh (Zgb:=SRul.cs) (Q:=RepSR (Zne W)) (k:=6) (by kernel_rfl) (by kernel_rfl) (λ_=>rfl) (by decide) (zA6 (by kernel_rfl)) h hw λn' _ cs' y hy li=>Zs0 n' cs' y hy li
 exact⟨⟨a,L,cap⟩,q,⟨rx,yO,aB,cS⟩⟩
theorem ZkK:Tryz.prog.underlying 25=some (.struct #[⟨ "Buffer",5,0,false, "", "",0⟩,⟨ "Values",22,1,false, "", "",8⟩,⟨ "States",23,2,false, "", "",32⟩]):=by kernel_rfl
theorem ZjU(n:Nat)(cs:List Value)(x:DataW H×List MemPlace)(h:DataW.trod enc Tryz.prog W 0 (λ_=>true) dD n 25 cs=some x)(hw:∀w∈x.1.weights Tryz.prog 25,w<=reachBytes):∃s:SScr,cs=s.cs/\RepSC (Zne W) s:=by
 obtain⟨xs,k,hk,eR,aH,cE,hx⟩:=DataW.trod_struct ZkK h
 have hc:Tryz.prog.cellsOf 25=3:=by kernel_rfl
 rw[hc]at aH
 obtain⟨c0,c1,c2,rfl⟩:∃c0 c1 c2,cs=[c0,c1,c2]:=by
  match cs,aH with
  | [c0,c1,c2],_=>exact⟨c0,c1,c2,rfl⟩
 obtain⟨z0,z1,z2,rfl⟩:∃z0 z1 z2,xs=[z0,z1,z2]:=by
  match xs,cE with
  | [z0,z1,z2],_=>exact⟨z0,z1,z2,rfl⟩
 rw[eR]at hw
 simp only[DataW.weights,ZkK]at hw
 have g0:DataW.trod enc Tryz.prog W 0 (λ_=>true) dD k 5 (List.take (Tryz.prog.cellsOf 5) (List.drop 0 [c0,c1,c2]))=some z0:=hx 0 _ rfl
 rw[show Tryz.prog.cellsOf 5=1 by kernel_rfl]at g0
 obtain⟨kk0,q0,_,w0⟩:=DataW.trod_int Tryz.underlying5 g0
 have b0:=wu8 w0
 obtain⟨kk,rfl⟩:∃z:Nat,kk0=z:=⟨kk0.toNat,by omega⟩
 have g1:DataW.trod enc Tryz.prog W 0 (λ_=>true) dD k 22 (List.take (Tryz.prog.cellsOf 22) (List.drop 1 [c0,c1,c2]))=some z1:=hx 1 _ rfl
 rw[show Tryz.prog.cellsOf 22=1 by kernel_rfl]at g1
 obtain⟨L1,a1,cap1,q1,yP,u0,iD,rk⟩:=Zdh (Zgb:=(λn:Nat=>[Value.int .u8 n])) (Q:=(λn:Nat=>n < 256)) (k:=1) (by kernel_rfl) (by kernel_rfl) (λ_=>rfl) (by decide) (zA6 (by kernel_rfl)) g1 (λw gY=>hw w (DataW.weights_mem_each (j:=1) (t:=22) rfl rfl w gY)) λn' _ cs' y hy li=>Zt5 n' cs' y hy
 have g2:DataW.trod enc Tryz.prog W 0 (λ_=>true) dD k 23 (List.take (Tryz.prog.cellsOf 23) (List.drop 2 [c0,c1,c2]))=some z2:=hx 2 _ rfl
 rw[show Tryz.prog.cellsOf 23=1 by kernel_rfl]at g2
 obtain⟨L2,a2,cap2,q2,oN,oO,cU,lh⟩:=Zdh (Zgb:=SSta.cs) (Q:=RepSS (Zne W)) (k:=1) (by kernel_rfl) (by kernel_rfl) (λ_=>rfl) (by decide) (zA6 (by kernel_rfl)) g2 (λw gY=>hw w (DataW.weights_mem_each (j:=2) (t:=23) rfl rfl w gY)) λn' _ cs' y hy li=>Zs1 n' cs' y hy li
 simp only[List.drop,List.take,List.cons.injEq,and_true]at q0 q1 q2
 subst q0
 subst q1
 subst q2
 exact⟨⟨kk,a1,L1,cap1,a2,L2,cap2⟩,rfl,⟨by show kk < 256;omega,⟨rk,iD⟩,u0,oO,oN,cU,lh⟩⟩
end
theorem Zy6:ownKnob Tryz.prog.godebug=none:=by kernel_rfl
theorem Zxy:laidOutB Tryz.prog=true:=by kernel_rfl
set_option maxHeartbeats 4000000 in
theorem Zfc(H:Type)(enc:TypeId×Value->H)(W:World)(base:Nat)(args:Array Value)(ds gs:List (DataW H))(before:List MemPlace)
  (jb:∀(j:Nat) t v,Tryz.f8.params[j]?=some t->args[j]?=some v->Value.okWide Tryz.prog W .any base t v)
  (hW:DataW.Whole enc Tryz.prog Tryz.f8.params.toList Rows.astMeasuresSpec.vars false W args.toList ds gs before) (bI:(DataW.weightsEach Tryz.prog (Tryz.f8.params.toList++Rows.astMeasuresSpec.plain.varTypes Tryz.prog) (ds++gs)).all (λn=>decide (n<=reachBytes))=true):
  Calls Tryz.prog 8 args W λe W'=>∃v,e=.returned v/\Rows.astMeasuresSpec.post enc Tryz.prog Tryz.f8 false true false false W args v W':=by
 have hW':=hW
 obtain⟨p,q,yQ,hV,rfl,lj,fj⟩:=hW
 have hA:DataW.TrodAll enc Tryz.prog W 0 (λ_=>true) true Tryz.f8.params.toList args.toList ds p:=yQ
 rw[Tryz.params8]at hA jb
 obtain⟨v0,vs0,d0,ds0,p0,q0,a0,rfl,rfl,h0,r0⟩:=trodAll_cons hA
 obtain⟨v1,vs1,d1,ds1,p1,q1,rfl,rfl,rfl,h1,r1⟩:=trodAll_cons r0
 obtain⟨v2,vs2,d2,ds2,p2,q2,rfl,rfl,rfl,h2,r2⟩:=trodAll_cons r1
 obtain⟨v3,vs3,d3,ds3,p3,q3,rfl,rfl,rfl,h3,r3⟩:=trodAll_cons r2
 obtain⟨rfl,rfl,rfl⟩:=trodAll_nil r3
 obtain rfl:args=#[v0,v1,v2,v3]:=by cases args;simp_all
 obtain⟨rfl,rfl⟩:=trodVars_none hV
 obtain⟨f0,g0⟩:=h0
 obtain⟨cs0,rfl,-⟩:=okWide_struct ZkK (jb 0 _ v0 rfl rfl)
 obtain⟨Lc0,rfl⟩:∃L:List Value,cs0=L.toArray:=⟨cs0.toList,by simp⟩
 obtain⟨x,jG,rm⟩:=ZjU f0 _ _ g0 (λw gY=>by
  have:=List.all_eq_true.1 bI w (DataW.weights_mem_each (j:=0) (t:=25) (d:=d0) (by rw[Tryz.params8];rfl) rfl w gY)
  simpa using this)
 replace jG:Lc0=x.cs:=jG
 subst jG
 obtain⟨f1,g1⟩:=h1
 obtain⟨cs1,rfl,-⟩:=okWide_struct ZkK (jb 1 _ v1 rfl rfl)
 obtain⟨Lc1,rfl⟩:∃L:List Value,cs1=L.toArray:=⟨cs1.toList,by simp⟩
 obtain⟨y,oP,lb⟩:=ZjU f1 _ _ g1 (λw gY=>by
  have:=List.all_eq_true.1 bI w (DataW.weights_mem_each (j:=1) (t:=25) (d:=d1) (by rw[Tryz.params8];rfl) rfl w gY)
  simpa using this)
 replace oP:Lc1=y.cs:=oP
 subst oP
 obtain⟨f2,g2⟩:=h2
 obtain⟨cs2,rfl,-⟩:=okWide_struct ZkK (jb 2 _ v2 rfl rfl)
 obtain⟨Lc2,rfl⟩:∃L:List Value,cs2=L.toArray:=⟨cs2.toList,by simp⟩
 obtain⟨z,oQ,ld⟩:=ZjU f2 _ _ g2 (λw gY=>by
  have:=List.all_eq_true.1 bI w (DataW.weights_mem_each (j:=2) (t:=25) (d:=d2) (by rw[Tryz.params8];rfl) rfl w gY)
  simpa using this)
 replace oQ:Lc2=z.cs:=oQ
 subst oQ
 obtain⟨w0,rfl,rfl,rfl,w3⟩:=open_int Tryz.underlying5 (jb 3 _ v3 rfl rfl) h3
 have b3:=wu8 w3
 obtain⟨w,rfl⟩:∃z:Nat,w0=z:=⟨w0.toNat,by omega⟩
 exact Zr4 (tb:=4) Zxy (by rw[Tryz.params8];intro t ht;simp at ht;rcases ht with rfl|rfl <;> exact⟨by kernel_rfl,zA6 (by kernel_rfl)⟩) hW' rfl rfl rfl rfl rfl Tryz.underlying4 (Zh2 x y z w (Zne W) rm lb ld)
theorem Zg4(os:Os)(started:os.Started)(H:Type)(enc:TypeId×Value->H):
  ReturnsInHanded {} Tryz.checked os 8 .any (Rows.astMeasuresSpec.pre6 enc Tryz.prog Tryz.f8 Rows.astMeasuresRow.domain false) (Rows.astMeasuresSpec.post enc Tryz.prog Tryz.f8 false true false false):=by
 refine returnsInHanded_of_change_sized (C:=Tryz.checked) Zy6 started (by kernel_rfl) Tryz.func8
  (ChangeSpec.witness6 (enc:=enc) (C:=Tryz.checked) false ⟨#[],#[.agg #[.int .u8 0,.slice none 0 0,.slice none 0 0],.agg #[.int .u8 0,.slice none 0 0,.slice none 0 0],.agg #[.int .u8 0,.slice none 0 0,.slice none 0 0],.int .u8 0],[]⟩ 8 (by kernel_rfl) (by kernel_rfl) (by kernel_rfl) (by kernel_rfl)) ?_
 intro W base args ds gs before jb hW _ bI _
 exact Zfc H enc W base args ds gs before jb hW bI
theorem measures_holds:Rows.AstMeasuresSaid:=
 OpenClaim.holds_of_wide 8 Tryz.f8 rfl rfl rfl rfl rfl rfl rfl ⟨rfl,rfl,rfl,rfl,rfl⟩ rfl rfl rfl rfl rfl (by kernel_rfl) Tryz.func8 (by kernel_rfl)
  (zA6 (by kernel_rfl)) (by unfold Func.isWrapper;first|(rw[if_pos (by decide +kernel)];kernel_rfl)|(rw[if_neg (by decide +kernel)];exact⟨rfl,rfl⟩))
  (λos started H enc _=>Zg4 os started H enc)
#print axioms measures_holds
end Go.Proofs.YtpjepnkiiojgfaaGreat