/- Part of the proof: conditions and contracts of functions of this program. No condition of its own. -/
import Derived.Test.YtfgfahnakepegaaGreatPEnv
import Derived.Test.YtfgfahnakepegaaGreatPC15TA
import Derived.Test.YtfgfahnakepegaaGreatPVRT
set_option linter.unusedVariables false
set_option linter.unusedSimpArgs false
set_option linter.unusedSectionVars false
noncomputable section
namespace Go.Proofs.YtfgfahnakepegaaGreat
open Go Go.Eng Go.Proofs Go.RowKit
open Go.Value (int slice agg bool string tuple func)
open Go.IntKind (u8 u64 i64)
set_option maxRecDepth 100000
def ZnX:Env:={ EB with
 loops:=swI nLa [(6,⟨[(3,.slice),(4,.int .i64)],[],[(38,256)],false⟩)]
 joins:=swI none [(6,some [(27,.bool)])]
 tokOf:=swI 0 [(38,38)]
 frzNew:=[1] }
abbrev ZlQ:List Value->Nat->Option Box:=λp0 b=>some (Box.mk b p0 67 260 true true)
abbrev Zew:List Value->Nat->List (Option Box):=λp0 b=>[ZlQ p0 b]
theorem ZlR(p0:List Value)(m:Mem)(R:RT)(h:
 chk (Nat.beq (p0.length) 260) (∀(b:Nat) m',m.le m'->m'.reads b 0 p0->Eng.ZuZ p0 0 λv=>chk (ZaE i64 v&&decide (i64=i64)) (br (RowKit.intOf v == 2) (chk (Nat.ble 257 (p0.length)) (chk (Nat.beq (List.length
 (List.take 256 (List.drop 1 p0))) 256&&true) (∀b,m'.free b->∃m'',m.le m''/\Mem.le m'' (m'.add b (List.append (List.take 256 (List.drop 1 p0)) []))/\R (slice (some (Addr.mk b 0 none)) 1 1) m'' []))) (Eng.ZuZ p0 0 λv=>
 chk (ZaE i64 v&&decide (i64=i64)) (br (RowKit.intOf v == 3) (∃(I:IT),(∃(n:Nat),I [slice none 0 0,int i64 0] [] [slice none 0 0] m' n)/\∀a n c n_1 a_1 n_2 c_1 m'_1 (n_3:Nat),m'.le m'_1->I [slice a n c,int i64
 n_1] [] [slice a_1 n_2 c_1] m'_1 n_3->∃(b_1:Bool),(Eng.ZuZ p0 259 λv=>chk (Zck v) (br (decide (n_1 < (↑(slN v):Int))) (Eng.ZuZ p0 259 λv=>chk (Zck v) (∃(b_2:Nat),∃(o:Nat),slA v=some (Addr.mk b_2 o
 none)/\Zaf n_1 (slN v)/\∃(v:Value),m'_1 b_2 (o+Int.toNat n_1*260+0)=some v/\chk (ZaE i64 v&&decide (i64=i64)) (Zab (Zew p0 b)/\[some (Tok.mk (slice a_1 n_2 c_1) 256)]=[some (Tok.mk (slice
 a_1 n_2 c_1) 256)]/\[bool (RowKit.intOf v == 2)]=[bool b_1]))) (Zab (Zew p0 b)/\[some (Tok.mk (slice a_1 n_2 c_1) 256)]=[some (Tok.mk (slice a_1 n_2 c_1) 256)]/\[bool false]=[bool b_1])))/\br b_1 (Eng.ZuZ
 p0 259 λv=>chk (Zck v) (∃(b_2:Nat),∃(o:Nat),slA v=some (Addr.mk b_2 o none)/\Zaf n_1 (slN v)/\∃(vs:List Value),vs.length=256/\m'_1.reads b_2 (o+Int.toNat n_1*260+1) vs/\chk (Nat.beq (vs.length)
 256&&true) (∀b_3,m'_1.free b_3->(Tok.mk (slice a_1 n_2 c_1) 256=Tok.mk (slice a n c) 256\/slice a n c=slice none 0 0\/c < n+1)/\∃(xs:List Value),∃(ys:List Value),xs.length=n*256/\ys.length=1*256/\
 rowRd (m'_1.add b_3 (List.append vs [])) a xs/\rowRd (m'_1.add b_3 (List.append vs [])) (some (Addr.mk b_3 0 none)) ys/\(∀(u:Value),u∈ys->u.oneCell'=true)/\(n+1)*2048<=140737488355328/\n+1<=9223372036854775807
 /\ ∀(a':Option Addr)(c':Nat)(m':Mem),Mem.le (m'_1.add b_3 (List.append vs [])) m'->rowRd m' a' (List.append xs ys)->Zab (Zew p0 b)/\∃(n':Nat),n' < n_3/\I [slice a' (n+1) c',int i64 (i64.wrap (n_1 +
 1))] [] [slice a' (n+1) c'] m' n'))) (∃m'',m.le m''/\m''.le m'_1/\R (slice a n c) m'' [])) (∃m'',m.le m''/\m''.le m'/\R (slice none 0 0) m'' [])))))):CX Tryz.prog 45 #[.agg p0.toArray] m [] R:=
 Zad (E:=ZnX) Zay mix Tryz.func45 [.v (.agg p0.toArray)] [] (by kernel_rfl) (Eq.mp (by kernel_rfl) h)
def ZnY:Env:={ EB with
 frzNew:=[2] }
abbrev ZgT:List Value:=[int i64 1,int i64 0,int i64 0,int i64 0,int i64 0,int i64 0,int i64 0,int i64 0,int i64 0,int i64 0,int i64 0,int i64 0,int i64 0,int i64 0,int i64 0,int i64 0,int
 i64 0,int i64 0,int i64 0,int i64 0,int i64 0,int i64 0,int i64 0,int i64 0,int i64 0,int i64 0,int i64 0,int i64 0,int i64 0,int i64 0,int i64 0,int i64 0,int i64 0,int i64 0,int i64 0,int i64 0,int
 i64 0,int i64 0,int i64 0,int i64 0,int i64 0,int i64 0,int i64 0,int i64 0,int i64 0,int i64 0,int i64 0,int i64 0,int i64 0,int i64 0,int i64 0,int i64 0,int i64 0,int i64 0,int i64 0,int i64 0,int
 i64 0,int i64 0,int i64 0,int i64 0,int i64 0,int i64 0,int i64 0,int i64 0,int i64 0,int i64 0,int i64 0,int i64 0,int i64 0,int i64 0,int i64 0,int i64 0,int i64 0,int i64 0,int i64 0,int i64 0,int
 i64 0,int i64 0,int i64 0,int i64 0,int i64 0,int i64 0,int i64 0,int i64 0,int i64 0,int i64 0,int i64 0,int i64 0,int i64 0,int i64 0,int i64 0,int i64 0,int i64 0,int i64 0,int i64 0,int i64 0,int
 i64 0,int i64 0,int i64 0,int i64 0,int i64 0,int i64 0,int i64 0,int i64 0,int i64 0,int i64 0,int i64 0,int i64 0,int i64 0,int i64 0,int i64 0,int i64 0,int i64 0,int i64 0,int i64 0,int i64 0,int
 i64 0,int i64 0,int i64 0,int i64 0,int i64 0,int i64 0,int i64 0,int i64 0,int i64 0,int i64 0,int i64 0,int i64 0,int i64 0,int i64 0,int i64 0,int i64 0,int i64 0,int i64 0,int i64 0,int i64 0,int
 i64 0,int i64 0,int i64 0,int i64 0,int i64 0,int i64 0,int i64 0,int i64 0,int i64 0,int i64 0,int i64 0,int i64 0,int i64 0,int i64 0,int i64 0,int i64 0,int i64 0,int i64 0,int i64 0,int i64 0,int
 i64 0,int i64 0,int i64 0,int i64 0,int i64 0,int i64 0,int i64 0,int i64 0,int i64 0,int i64 0,int i64 0,int i64 0,int i64 0,int i64 0,int i64 0,int i64 0,int i64 0,int i64 0,int i64 0,int i64 0,int
 i64 0,int i64 0,int i64 0,int i64 0,int i64 0,int i64 0,int i64 0,int i64 0,int i64 0,int i64 0,int i64 0,int i64 0,int i64 0,int i64 0,int i64 0,int i64 0,int i64 0,int i64 0,int i64 0,int i64 0,int
 i64 0,int i64 0,int i64 0,int i64 0,int i64 0,int i64 0,int i64 0,int i64 0,int i64 0,int i64 0,int i64 0,int i64 0,int i64 0,int i64 0,int i64 0,int i64 0,int i64 0,int i64 0,int i64 0,int i64 0,int
 i64 0,int i64 0,int i64 0,int i64 0,int i64 0,int i64 0,int i64 0,int i64 0,int i64 0,int i64 0,int i64 0,int i64 0,int i64 0,int i64 0,int i64 0,int i64 0,int i64 0,int i64 0,int i64 0,int i64 0,int
 i64 0,int i64 0,int i64 0,int i64 0,int i64 0,int i64 0,int i64 0,int i64 0,int i64 0,int i64 0,int i64 0,int i64 0,int i64 0,int i64 0,int i64 0,int i64 0,int i64 0,int i64 0,int i64 0,int i64 0,int
 i64 0,int i64 0,int i64 0,slice none 0 0]
theorem ZlS(p0:List Value)(p1:Int)(m:Mem)(R:RT)(h:
 chk (Nat.beq (p0.length) 260) (∀(b:Nat) m',m.le m'->m'.reads b 0 p0->∀(b:Nat),Eng.ZuZ p0 0 λv=>chk (ZaE i64 v&&decide (i64=i64)) (br (RowKit.intOf v == 2) (∃m'',m.le m''/\m''.le m'/\R (agg (.mk
 ZgT)) m'' []) (Eng.ZuZ p0 259 λv=>chk (Zck v) (((0:Int)<=p1/\p1<=(↑(slN v):Int))/\∃R_1,True/\CX pG 121 (.mk [slice (ZaG (slA v) (Int.toNat p1) (slC v) 260) (slN v - Int.toNat p1) (slC v - Int.toNat
 p1)]) m' [] R_1/\ZbT .cells R_1/\∀(cs:List Value) m'_1,m'.le m'_1->R_1 (agg (.mk cs)) m'_1 []->chk (Nat.beq (cs.length) 260&&Zbi cs) (∃m'',m.le m''/\m''.le m'_1/\R (agg (.mk cs)) m'' [])))))):CX Tryz.prog 125 #[.agg p0.toArray,.int .i64 p1] m [] R:=
 Zad (E:=ZnY) Zay mix Tryz.func125 [.v (.agg p0.toArray),.v (.int .i64 p1)] [] (by kernel_rfl) (Eq.mp (by kernel_rfl) h)
def ZnZ:Env:={ EB with
 loops:=swI nLa [(5,⟨[(3,.slice),(4,.int .i64)],[],[(11,260)],false⟩)]
 tokOf:=swI 0 [(11,11),(26,11)]
 frzNew:=[1] }
abbrev ZlT:List Value->Nat->Option Box:=λp0 b=>some (Box.mk b (List.append p0 []) 67 260 true true)
abbrev ZgU:List Value->Nat->Option Box:=λp0 b=>some (Box.mk b p0 67 260 true true)
abbrev ZlU:List Value->Nat->Nat->List (Option Box):=λp0 b ab=>[ZlT p0 ab,ZgU p0 b]
abbrev ZlV:List Value->Nat->List (Option Box):=λp0 b=>[ZgU p0 b]
theorem ZlW(p0:List Value)(m:Mem)(R:RT)(h:
 chk (Nat.beq (p0.length) 260) (∀(b:Nat) m',m.le m'->m'.reads b 0 p0->Eng.ZuZ p0 0 λv=>chk (ZaE i64 v&&decide (i64=i64)) (br (RowKit.intOf v == 4) (chk (Nat.beq (p0.length) 260&&true) (∀ab,m'.free ab->(slice
 none 0 0=slice none 0 0\/0 < 0+1)/\∃(xs:List Value),∃(ys:List Value),xs.length=0/\ys.length=1*260/\rowRd (m'.add ab (List.append p0 [])) none xs/\rowRd (m'.add ab (List.append p0 [])) (some (Addr.mk ab 0
 none)) ys/\(∀(u:Value),u∈ys->u.oneCell'=true)/\(0+1)*2096<=140737488355328/\0+1<=9223372036854775807/\∀(a':Option Addr) c' (ac:Mem),Mem.le (m'.add ab (List.append p0 [])) ac->rowRd ac a' (List.append xs
 ys)->∃(I:IT),(∃(n:Nat),I [slice a' 1 c',int i64 0] [] [slice a' 1 c'] ac n)/\∀a n c ad af ag ah m' (ai:Nat),ac.le m'->I [slice a n c,int i64 ad] [] [slice af ag ah] m' ai->Eng.ZuZ p0 259 λv=>chk (Zck v)
 (br (decide (ad < (↑(slN v):Int))) (Eng.ZuZ p0 259 λv=>chk (Zck v) (∃(al:Nat),∃(o:Nat),slA v=some (Addr.mk al o none)/\Zaf ad (slN v)/\∃(vs:List Value),vs.length=260/\m'.reads al (o+Int.toNat ad *
 260) vs/\∃R,True/\CX pG 81 (.mk [agg (.mk vs)]) m' [] R/\ZbT .slice R/\∀aj aa ak ae,m'.le ae->R (slice aj aa ak) ae []->(Tok.mk (slice af ag ah) 260=Tok.mk (slice a n c) 260\/slice a n c=slice none 0 0\/c < n +
 aa)/\∃(xs:List Value),∃(ys:List Value),xs.length=n*260/\ys.length=aa*260/\rowRd ae a xs/\rowRd ae aj ys/\(∀(u:Value),u∈ys->u.oneCell'=true)/\(n+aa)*2096<=140737488355328/\n+aa <=
 9223372036854775807/\∀(a':Option Addr)(c':Nat) m',ae.le m'->rowRd m' a' (List.append xs ys)->Zab (ZlU p0 b ab)/\([none]:List (Option Tok))=[none]/\∃(n':Nat),n' < ai/\I [slice a' (n+aa) c',int
 i64 (i64.wrap (ad+1))] [] [slice a' (n+aa) c'] m' n')) (∃m'',m.le m''/\m''.le m'/\R (slice a n c) m'' [])))) (∃(I:IT),(∃(n:Nat),I [slice none 0 0,int i64 0] [] [slice none 0 0] m' n)/\∀a n c ad af ag ah ac (ai:
 Nat),m'.le ac->I [slice a n c,int i64 ad] [] [slice af ag ah] ac ai->Eng.ZuZ p0 259 λv=>chk (Zck v) (br (decide (ad < (↑(slN v):Int))) (Eng.ZuZ p0 259 λv=>chk (Zck v) (∃(ab:Nat),∃(o:Nat),slA v=some
 (Addr.mk ab o none)/\Zaf ad (slN v)/\∃(vs:List Value),vs.length=260/\ac.reads ab (o+Int.toNat ad*260) vs/\∃R,True/\CX pG 81 (.mk [agg (.mk vs)]) ac [] R/\ZbT .slice R/\∀aj aa ak m',ac.le m'->R (slice aj
 aa ak) m' []->(Tok.mk (slice af ag ah) 260=Tok.mk (slice a n c) 260\/slice a n c=slice none 0 0\/c < n+aa)/\∃(xs:List Value),∃(ys:List Value),xs.length=n*260/\ys.length=aa*260/\rowRd m' a xs/\rowRd m'
 aj ys/\(∀(u:Value),u∈ys->u.oneCell'=true)/\(n+aa)*2096<=140737488355328/\n+aa<=9223372036854775807/\∀(a':Option Addr)(c':Nat) ae,m'.le ae->rowRd ae a' (List.append xs ys)->Zab (ZlV p0 b)
 /\ ∃(n':Nat),n' < ai/\I [slice a' (n+aa) c',int i64 (i64.wrap (ad+1))] [] [slice a' (n+aa) c'] ae n')) (∃m'',m.le m''/\m''.le ac/\R (slice a n c) m'' [])))))):CX Tryz.prog 81 #[.agg p0.toArray] m [] R:=
 Zad (E:=ZnZ) Zay mix Tryz.func81 [.v (.agg p0.toArray)] [] (by kernel_rfl) (Eq.mp (by kernel_rfl) h)
def ZjM:Env:={ EB with
 loops:=swI nLa [(2,⟨[(3,.int .i64)],[],[],false⟩),(3,⟨[(4,.int .i64)],[],[],false⟩)]
 dr:=swI [] [(5,[dO 0 [],dO 1 [],dO 2 [0,1],dO 3 [0,1,2],dO 4 [0,1,2,3],dO 5 [0,1,2,3,4],dO 6 [],dO 7 [0,1,2,3,4,5,6],dO 8 [0,1,2,3,4,5,6,7],dO 9 [0,1,2,3,4,5,6,7,8],dO 10 [0,1,2,3,4,5,6,7,8],dO 11 [0,1,2,3,4,5,6,7,8,9,10],⟨12,[],[],none,rg 0 12,[4]⟩,⟨13,[],[],none,rg 0 13,[4]⟩,dO 14 [0,1,2,3,4,5,6,7,8],dO 15 (rg 0 15),⟨16,[],[],none,rg 0 16,[13]⟩,dO 17 [0,1,2,3,4,5,6,7,8],dO 18 [0,1,2,3,4,5,6,7,8,17],⟨19,[],[],none,[0,1,2,3,4,5,6,7,8,17,18],[4]⟩,⟨20,[],[],none,rg 0 14++[17,18,19],[13]⟩,dO 21 [0,1,2,3,4,5,6,7,8],dO 22 (rg 0 14++rg 17 5),⟨23,[],[],none,rg 0 14++rg 17 6,[20]⟩,dO 24 (rg 0 24),dO 25 (rg 0 25)])]
 gb:=true }
theorem Zim(p0a:Option Addr)(p0n p0c:Nat)(m:Mem)(R:RT)(h:
 ∃I,inI I [int i64 0] [] [] m/\∀n m' (n_1:Nat),lX (int i64 n) λyL=>m.le m'->I [yL] [] [] m' n_1->∃I_1,inI I_1 [int i64 0] [] [] m'/\∀n_2 m'_1 (n_3:Nat),m'.le m'_1->I_1 [int i64 n_2] [] [] m'_1 n_3->br (decide
 (n_2 < (↑p0n:Int))) (∃(f:Fx),atA p0a λb o=>Zaf n_2 p0n/\∃(vs:List Value),vs.length=260/\m'_1.reads b (o+Int.toNat n_2*260) vs/\dS f 4 pG 45 [agg (.mk vs)] m'_1 λa n_4 c m'=>br (decide ((↑n_4:Int)
 <= n)) (∀M,m'_1.le M->m'.le M->m'.le M->m'.le M->rtM m M R yL) (atA p0a λb o=>Zaf n_2 p0n/\∃(vs:List Value),vs.length=260/\m'.reads b (o+Int.toNat n_2*260) vs/\dS f 13 pG 45 [agg (.mk vs)] m' λa n_5 c
 m'_2=>atA a λb o=>Zaf n n_5/\∃(vs:List Value),vs.length=256/\m'_2.reads b (o+Int.toNat n*256) vs/\atA p0a λb o=>Zaf (0:Int) p0n/\∃(vs_1:List Value),vs_1.length=260/\m'.reads b (o+0)
 vs_1/\dS f 20 pG 45 [agg (.mk vs_1)] m'_2 λa n_6 c m'_3=>atA a λb o=>Zaf n n_6/\∃(vs_2:List Value),vs_2.length=256/\m'_3.reads b (o+Int.toNat n*256) vs_2/\∃(b:Bool),EqIs pG 64 (agg (.mk vs)) (agg
 (.mk vs_2)) b/\∀M,m'_1.le M->m'.le M->m'_2.le M->m'_3.le M->br (!b) (rtM m M R yL) (nxI n_3 I_1 [int i64 (i64.wrap (n_2+1))] [] [] M))) (nxI n_1 I [int i64 (i64.wrap (n+1))] [] [] m'_1)):CX Tryz.prog 82 #[.slice p0a p0n p0c] m [] R:=
 Zad (E:=ZjM) Zay mix Tryz.func82 [.v (.slice p0a p0n p0c)] [] (by kernel_rfl) (Eq.mp (by kernel_rfl) h)
def Zn0:Env:={ EB with
 loops:=swI nLa [(4,⟨[(3,.slice),(5,.int .i64)],[],[(51,4)],false⟩),(8,⟨[(3,.slice),(7,.int .i64)],[],[(51,4)],false⟩),(11,⟨[(3,.slice),(8,.int .i64)],[],[(51,4)],false⟩)]
 tokOf:=swI 0 [(51,51)]
 frzNew:=[1] }
theorem ZlX(p0:List Value)(m:Mem)(R:RT)(h:
 chk (Nat.beq (p0.length) 260) (fzM m p0 λb m'=>lE [some (Box.mk b p0 67 260 true true)] λxL=>kS pG 81 [agg (.mk p0)] m' λa n c m'=>∃I,inI I [slice none 0 0,int i64 0] [] [slice none 0 0] m'/\∀a_1 n_1 c n_2 a_2
 n_3 c_1 m'_1 (n_4:Nat),lX (slice a_1 n_1 c) λyL=>lX (int i64 n_2) λyL_1=>m'.le m'_1->I [yL,yL_1] [] [slice a_2 n_3 c_1] m'_1 n_4->br (decide (n_2 < (↑n:Int))) (atA a λb o=>Zaf n_2 n/\∃(v:Value),m'_1
 b (o+Int.toNat n_2*260+259)=some v/\∃I_1,inI I_1 [yL,int i64 0] [] [slice a_2 n_3 c_1] m'_1/\∀a n c n_5 a_5 n_6 c_2 m' (n_7:Nat),lX (slice a n c) λyL=>lV [slice a_5 n_6 c_2] λxL_1=>lX (int i64 n_5) fun
 yL_2=>m'_1.le m'->I_1 [yL,yL_2] [] xL_1 m' n_7->chk (Zck v) (br (decide (n_5 < (↑(slN v):Int))) (∃I,inI I [yL,int i64 (i64.wrap (n_5+2))] [] xL_1 m'/\∀a (n:Nat) c n_8 a_6 n_9 c_3 m'_2 (n_10:Nat),lX (int i64
 n_8) λyL=>lV [int i64 (i64.wrap (n_8+1))] λxL_2=>lX (slice a_6 n_9 c_3) λyL_3=>lE (n+1) λyL_4=>lX (slice a n c) λyL_5=>m'.le m'_2->I [yL_5,yL] [] [yL_3] m'_2 n_10->chk (Zck v) (br (decide (n_8 <=
 (↑(slN v):Int))) (chk (Zck v) (((0:Int)<=n_8/\n_8<=(↑(slC v):Int))/\((0:Int)<=n_5/\n_5<=(↑(Int.toNat n_8):Int))/\kI pG 82 [slice (ZaG (slA v) (Int.toNat n_5) (slC v) 260) (Int.toNat n_8 - Int.toNat n_5) (slC
 v - Int.toNat n_5)] m'_2 λn_11 m'=>lV [yL_1,yL_2,yL,int i64 n_11] λxL_3=>br (decide (n_11 > 0)) (∀b,lM (m'.add b xL_3) λmL=>m'.free b->(Tok.mk yL_3 4=Tok.mk yL_5 4\/yL_5=slice none 0 0\/c < yL_4)/\∃(xs
 : List Value),∃(ys:List Value),xs.length=n*4/\ys.length=1*4/\rowRd mL a xs/\rowRd mL (some (Addr.mk b 0 none)) ys/\(∀(u:Value),u∈ys->u.oneCell'=true)/\yL_4*32<=140737488355328/\yL_4 <=
 9223372036854775807/\∀(a':Option Addr) c' m',mL.le m'->rowRd m' a' (List.append xs ys)->Zab xL/\([none,none]:List (Option Tok))=[none,none]/\nxI n_10 I (slice a' yL_4 c'::xL_2) [] [slice a' yL_4 c'] m') (Zab
 xL/\([none,none]:List (Option Tok))=[none,none]/\nxI n_10 I (yL_5::xL_2) [] [yL_3] m'))) (Zab xL/\([none]:List (Option Tok))=[none]/\nxI n_7 I_1 [yL_5,int i64 (i64.wrap (n_5+1))] [] [yL_3] m'_2))) (Zab xL
 /\ nxI n_4 I [yL,int i64 (i64.wrap (n_2+1))] [] xL_1 m'))) (rtM m m'_1 R yL))):CX Tryz.prog 43 #[.agg p0.toArray] m [] R:=
 Zad (E:=Zn0) Zay mix Tryz.func43 [.v (.agg p0.toArray)] [] (by kernel_rfl) (Eq.mp (by kernel_rfl) h)
end Go.Proofs.YtfgfahnakepegaaGreat
namespace Go.Proofs.YtfgfahnakepegaaGreat
open Go Go.Eng Go.Rx Go.Proofs Go.RowKit
set_option maxRecDepth 100000
def ZgV(L:List T):List Value:=(L.map λx=>ZaB x.q).flatten
theorem Zqc(L:List T):(ZgV L).length=L.length*256:=by
 induction L with
 | nil=>rfl
 | cons x L ih=>
  have e:ZgV (x::L)=ZaB x.q++ZgV L:=rfl
  rw[e,zA1,Zal,ih,List.length_cons];omega
theorem ZrO(L:List T)(x:T):ZgV (L++[x])=ZgV L++ZaB x.q:=by simp[ZgV]
theorem Zta:∀{L:List T} {i:Nat} {x:T},L[i]?=some x->∀j v,(ZaB x.q)[j]?=some v->(ZgV L)[i*256+j]?=some v
 | [],i,x,h=>by simp at h
 | y::L,0,x,h=>λj v hv=>by
  simp at h;subst h
  have e:ZgV (y::L)=ZaB y.q++ZgV L:=rfl
  have hj:=(zA0 hv).1
  rw[e,Nat.zero_mul,Nat.zero_add,zA5 hj];exact hv
 | y::L,i+1,x,h=>λj v hv=>by
  have e:ZgV (y::L)=ZaB y.q++ZgV L:=rfl
  rw[e,zA4 (by rw[Zal];omega),Zal,show(i+1)*256+j - 256=i*256+j by omega]
  exact Zta (by simpa using h) j v hv
theorem Zin{m:Mem}{a:Option Addr}{L:List T}(h:rowRd m a (ZgV L)){i:Nat}{x:T}(hx:L[i]?=some x):∃b o,a=some ⟨b,o,none⟩/\m.reads b (o+i*256) (ZaB x.q):=by
 rcases h with h|⟨b,o,e,h⟩
 ·have h1:=Zqc L
  have h2:=(zA0 hx).1
  rw[h]at h1;simp at h1;omega
 ·exact⟨b,o,e,λj v hv=>by have:=h _ v (Zta hx j v hv);rwa [<-Nat.add_assoc]at this⟩
def Zw9(t:T):Value->Mem->List (List Value)->Prop:=λv m' _=>∃a c,v=.slice a (Zao t).length c/\rowRd m' a (ZgV (Zao t))
theorem ZeI{t:T}:∀(v:Value)(m':Mem) (css:List (List Value)),Zw9 t v m' css->Shape.fits .slice v=true:=λv _ _ ⟨_,_,h,_⟩=>by rw[h];rfl
theorem Ztb{m:Mem}{x:T}{cs:List Value}(h:RefT m x cs):∀u∈Zao x,QOk u.q:=by
 obtain⟨bD,_,a,c,css,_,_,bO,_⟩:=ZaX.1 h
 intro u hu
 unfold Zao at hu
 split at hu
 ·simp at hu;subst hu;exact ZsK bD
 ·split at hu
  ·exact ZsK (bO.reps u ((List.takeWhile_sublist _).mem hu)).1
  ·simp at hu
theorem ZrP{l:List T}{i:Nat}(h:∀x∈l.take i,x.k=2)(hx:∀x,l[i]?=some x->x.k≠2):l.takeWhile T.isC=l.take i:=by
 induction l generalizing i with
 | nil=>simp
 | cons y l ih=>
  cases i with
  | zero=>
   have:=hx y rfl
   rw[List.takeWhile_cons_of_neg (by simpa[T.isC]using this)];rfl
  | succ i=>
   have h0:=h y (by simp)
   rw[List.takeWhile_cons_of_pos (by simpa[T.isC]using h0),List.take_succ_cons,ih (i:=i) (λx hx=>h x (by simp[hx])) λx hh=>hx x (by simpa using hh)]
theorem Zi4(t:T)(cs:List Value)(m:Mem)(hr:RefT m t cs):CX Tryz.prog 45 #[.agg cs.toArray] m [] (Zw9 t):=by
 obtain⟨bD,aU,a,c,css,rfl,aP,bO,bL⟩:=ZaX.1 hr
 apply ZlR
 refine Zif λb m1 aK _=>Zbc (Zaa rfl (Zdl (λhk=>?_) (λhk=>Zbc (Zaa rfl (Zdl (λeV=>?_) (λeV=>?_))))))
 ·have hk:t.k=2:=hk
  have e:Zao t=[t]:=by unfold Zao;rw[if_pos hk]
  rw[Zkr]
  refine Zaa (by rw[ZeW];rfl) (Zaa (by rw[Zal];rfl) λb2 jG=>⟨m1.add b2 (List.append (ZaB t.q) []),mLt aK (Mem.le_add jG _),Mem.le_refl _,some ⟨b2,0,none⟩,1,by rw[e];rfl,?_⟩)
  rw[e]
  have:ZgV [t]=ZaB t.q:=by simp[ZgV]
  rw[this]
  exact Zc9
 ·have hk:¬t.k=2:=hk
  have eV:t.k=3:=eV
  have e:Zao t=t.subs.takeWhile T.isC:=by unfold Zao;rw[if_neg hk,if_pos eV]
  refine⟨λxs _ tvs m' q=>∃(i:Nat)(a:Option Addr)(c:Nat),i<=t.subs.length/\xs=[.slice a i c,.int .i64 i]/\tvs=[.slice a i c]/\rowRd m' a (ZgV (t.subs.take i))/\(∀x∈t.subs.take i,x.k=2)/\q=t.subs.length - i,⟨_,0,none,0,Nat.zero_le _,rfl,rfl,.inl rfl,by simp,rfl⟩,?_⟩
  rintro a1 n1 c1 z a2 n2 c2 m2 q aO ⟨i,a',c',hi,aZ,bY,cF,aV,hq⟩
  simp only[List.cons.injEq,Value.slice.injEq,Value.int.injEq,true_and,and_true]at aZ bY
  obtain⟨⟨rfl,rfl,rfl⟩,rfl⟩:=aZ
  obtain⟨rfl,rfl,rfl⟩:=bY
  subst hq
  have bR:=mLt aK aO
  have fin:(∀x,t.subs[n2]?=some x->x.k≠2)->Zw9 t (.slice a2 n2 c2) m2 []:=λh=>by
   have:=ZrP aV h
   refine⟨a2,c2,?_,?_⟩
   ·rw[e,this,List.length_take,Nat.min_eq_left hi]
   ·rw[e,this];exact cF
  rcases Nat.lt_or_ge n2 t.subs.length with aN|bI
  ·obtain⟨x,hx⟩:=ZaQ aN
   obtain⟨b0,o0,cs2,rfl,bA,bS⟩:=ZbZ aP bO hx
   have cU:Zaf (n2:Int) t.subs.length:=⟨by omega,by omega⟩
   have hw:IntKind.i64.wrap ((n2:Int)+1)=((n2+1:Nat):Int):=by rw[Zas (by omega) (by omega)];rfl
   simp only[hw,zA8]
   refine⟨x.k == 2,Zbt (Zaa rfl (Za4 (λ_=>Zbt (Zaa rfl ⟨b0,o0,rfl,cU,_,Zfh (bA.mono bR) bS.at0,Zaa rfl ⟨by trivial,by trivial,rfl⟩⟩)) (λh=>absurd (show(n2:Int) < (t.subs.length:Nat) by omega) h))),Zdl (λdE=>Zbt (Zaa rfl ?_)) (λdE=>?_)⟩
   ·have hq:=ZsK (bO.reps x (zA2 hx)).1
    have e2:t.subs.take (n2+1)=t.subs.take n2++[x]:=by rw[List.take_add_one,hx];rfl
    refine⟨b0,o0,rfl,cU,ZaB x.q,Zal _,λj v hv=>?_,Zaa (by rw[Zal];rfl) λb3 nH=>⟨.inl trivial,ZgV (t.subs.take n2),ZaB x.q,by rw[Zqc,List.length_take,Nat.min_eq_left hi],by rw[Zal],cF.mono (Mem.le_add nH _),Zc9,λu hu=>ZfY _ u hu,by omega,by omega,λa7 c7 m7 cB eP=>⟨by trivial,t.subs.length - (n2+1),by omega,n2+1,a7,c7,by omega,rfl,rfl,?_,?_,rfl⟩⟩⟩
    ·obtain⟨_,_,xa,xc,ds,rfl,_⟩:=ZaX.1 bS
     have hj:=(zA0 hv).1
     rw[Zal]at hj
     have h1:(rcs x.k x.q x.mn x.mx xa x.subs.length xc)[1+j]?=some v:=by
      have:=congrArg (λl=>l[j]?) (Zkr x.k x.q x.mn x.mx xa x.subs.length xc)
      simp only[List.getElem?_take_of_lt hj,List.getElem?_drop]at this
      rw[this];exact hv
     have:=Zfh (bA.mono bR) h1
     rwa [<-Nat.add_assoc]at this
    ·rw[e2,ZrO];exact eP
    ·rw[e2]
     intro y hy
     rcases List.mem_append.1 hy with hy|hy
     ·exact aV y hy
     ·simp at hy;subst hy;exact dE
   ·exact⟨m2,bR,Mem.le_refl _,fin λy hy=>by rw[hx]at hy;cases hy;exact dE⟩
  ·refine⟨false,Zbt (Zaa rfl (Za4 (λh=>absurd (show(n2:Int) < (t.subs.length:Nat) from h) (by omega)) (λh=>⟨by trivial,by trivial,rfl⟩))),ZaM rfl ⟨m2,bR,Mem.le_refl _,fin λy hy=>?_⟩⟩
   rw[List.getElem?_eq_none bI]at hy;cases hy
 ·have hk:¬t.k=2:=hk
  have eV:¬t.k=3:=eV
  refine Zah aK ⟨none,0,?_,?_⟩
  ·unfold Zao;rw[if_neg hk,if_neg eV];rfl
  ·unfold Zao;rw[if_neg hk,if_neg eV];exact .inl rfl
theorem Zqd{m:Mem}{a:Option Addr}{L:List T}{css:List (List Value)}(hr:rowRd m a css.flatten)(bO:RefAt m L css){i n c:Nat}(hi:i<=n)(hn:n<=L.length)(hc:L.length<=c):rowRd m (ZaG a i c 260) ((css.take n).drop i).flatten/\RefAt m (seg L i n) ((css.take n).drop i):=by
 refine⟨?_,(bO.take n).drop i⟩
 have hl:=bO.len
 rcases Nat.lt_or_ge i n with aS|bI
 ·rcases hr with hr|⟨b,o,rfl,hr⟩
  ·have:=ZbO bO.all
   rw[hr]at this;simp at this;omega
  ·have hs:ZaG (some ⟨b,o,none⟩) i c 260=some ⟨b,o+i*260,none⟩:=by
    unfold ZaG
    by_cases h0:i=0
    ·subst h0;simp
    ·rw[Zar h0,Zar (show c≠i by omega)];simp[Addr.add];omega
   rw[hs]
   refine .inr ⟨b,o+i*260,rfl,λj v hv=>?_⟩
   have h1:=congrArg List.flatten (List.take_append_drop i (css.take n))
   rw[List.flatten_append,List.take_take,Nat.min_eq_left hi]at h1
   have h2:=congrArg List.flatten (List.take_append_drop n css)
   rw[List.flatten_append,<-h1]at h2
   have h3:(css.take i).flatten.length=i*260:=by
    rw[ZbO (λcs cE=>bO.all cs (List.mem_of_mem_take cE)),List.length_take,Nat.min_eq_left (by omega)]
   have hj:=(zA0 hv).1
   have:css.flatten[i*260+j]?=some v:=by
    rw[<-h2,zA5 (by rw[zA1,h3];omega),zA4 (by omega),h3,show i*260+j - i*260=j by omega]
    exact hv
   have:=hr _ v this
   rwa [<-Nat.add_assoc]at this
 ·left
  rw[List.drop_eq_nil_of_le (by rw[List.length_take];omega)];rfl
theorem ZwG(t:T)(cs:List Value)(n:Nat)(m:Mem)(hr:RefT m t cs)(hg:t.good=true)(hz:t.nodes.length<=900)(hn:n<=(Zao t).length):CX Tryz.prog 125 #[.agg cs.toArray,.int .i64 n] m [] (ZrM (Zbp n t)):=by
 obtain⟨bD,aU,a,c,css,rfl,aP,bO,bL⟩:=ZaX.1 hr
 apply ZlS
 refine Zif λb m1 aK _ b1=>Zbc (Zaa rfl (Zdl (λhk=>?_) (λhk=>Zbt (Zaa rfl ?_))))
 ·have hk:t.k=2:=hk
  have e:ZgT=rcs 1 (0,0,0,0) 0 0 none 0 0:=Zil 1 0 0 none 0 0
  rw[e]
  refine Zah aK ?_
  unfold Zbp
  rw[if_pos hk]
  exact⟨_,rfl,Zyp _⟩
 ·have dE:¬t.k=2:=hk
  have bC:n<=t.subs.length:=by
   unfold Zao at hn
   rw[if_neg dE]at hn
   split at hn
   ·exact Nat.le_trans hn (List.takeWhile_sublist _).length_le
   ·simp at hn;omega
  have gM:∀x∈t.subs.drop n,x.good=true:=λx hx=>(Zan hg).2 x (List.mem_of_mem_drop hx)
  have bE:szL (t.subs.drop n)<=900:=by
   have:=Zcu t.subs n
   rw[Zb9]at hz
   omega
  have h1:=Zqd (aP.mono aK) (bO.mono aK) (i:=n) (n:=t.subs.length) (c:=c) bC (Nat.le_refl _) bL
  have hl:=bO.len
  have e1:seg t.subs n t.subs.length=t.subs.drop n:=by unfold seg;rw[List.take_length]
  rw[e1]at h1
  have h:=Zs9 (t.subs.drop n) _ _ (c - n) m1 h1.1 h1.2 gM (by omega)
  rw[List.length_drop]at h
  refine⟨⟨by omega,by simp only[slN];omega⟩,?_⟩
  simp only[zA8]
  refine Zae h Za5 (Ze4 λcs2 m2 aO h2=>h2.chk1 ⟨m2,mLt aK aO,Mem.le_refl _,cs2,rfl,?_⟩)
  unfold Zbp
  rw[if_neg dE]
  exact h2
def ZrQ(L:List T):Value->Mem->List (List Value)->Prop:=λv m' _=>∃a c css,v=.slice a L.length c/\rowRd m' a css.flatten/\RefAt m' L css
theorem ZdU{L:List T}:∀(v:Value)(m':Mem) (css:List (List Value)),ZrQ L v m' css->Shape.fits .slice v=true:=λv _ _ ⟨_,_,_,h,_⟩=>by rw[h];rfl
theorem ZlY(l:List T)(i:Nat):(Zax (l.take i)).length<=szL l:=by
 have h1:=ZdA (l.take i)
 have h2:=Zcu l i
 omega
theorem Ztc:∀(t:T)(cs:List Value)(m:Mem),RefT m t cs->t.nodes.length<=100000->CX Tryz.prog 81 #[.agg cs.toArray] m [] (ZrQ t.alts):=by
 intro t
 induction hn:SizeOf.sizeOf t using Nat.strongRecOn generalizing t with
 | ind n ih=>
 intro cs m hr hz
 have rT:=hr
 obtain⟨bD,aU,a,c,css,rfl,aP,bO,bL⟩:=ZaX.1 hr
 have rU:=Zel t
 have BS:=Zb9 t
 apply ZlW
 refine Zif λb m1 aK _=>Zbc (Zaa rfl (Zdl (λhk=>?_) (λhk=>?_)))
 ·have hk:t.k=4:=hk
  rw[if_pos hk]at rU
  refine rT.chk2 λb1 iD=>⟨.inl rfl,[],rcs t.k t.q t.mn t.mx a t.subs.length c,rfl,by rw[ZeW],.inl rfl,Zc9,ZpE _ _ _ _ _ _ _,by decide,by decide,λa' c' m2 aO dQ=>?_⟩
  have qJ:=Mem.le_add iD (List.append (rcs t.k t.q t.mn t.mx a t.subs.length c) [])
  have bR:=mLt aK (mLt qJ aO)
  refine⟨λxs _ tvs m' q=>∃(i:Nat)(a1:Option Addr)(c1:Nat) (R:List (List Value)),i<=t.subs.length/\xs=[.slice a1 (t::Zax (t.subs.take i)).length c1,.int .i64 i]/\tvs=[.slice a1 (t::Zax (t.subs.take i)).length c1]/\rowRd m' a1 R.flatten/\RefAt m' (t::Zax (t.subs.take i)) R/\q=t.subs.length - i,⟨_,0,a',c',[rcs t.k t.q t.mn t.mx a t.subs.length c],Nat.zero_le _,rfl,rfl,by rw[List.flatten_singleton];exact dQ,RefAt.one (rT.mono bR),rfl⟩,?_⟩
  rintro a1 n1 c1 z a2 n2 c2 m3 q aX ⟨i,a5,c5,R,hi,aZ,bY,cF,hR,hq⟩
  simp only[List.cons.injEq,Value.slice.injEq,Value.int.injEq,true_and,and_true]at aZ bY
  obtain⟨⟨rfl,rfl,rfl⟩,rfl⟩:=aZ
  obtain⟨rfl,rfl,rfl⟩:=bY
  subst hq
  have bQ:=mLt bR aX
  refine Zbt (Zaa rfl (Za4 (λaS=>Zbt (Zaa rfl ?_)) (λbI=>?_)))
  ·have aN:i < t.subs.length:=by simp only[slN]at aS;omega
   obtain⟨x,hx⟩:=ZaQ aN
   have cL:=zA2 hx
   obtain⟨b0,o0,cs2,rfl,bA,bS⟩:=ZbZ aP bO hx
   have aZ:=Zbq cL
   have hw:IntKind.i64.wrap ((i:Int)+1)=((i+1:Nat):Int):=by rw[Zas (by omega) (by omega)];rfl
   simp only[hw,zA8]
   refine⟨b0,o0,rfl,⟨by omega,by simp only[slN];omega⟩,cs2,bS.len,bA.mono bQ,Zae (ih _ (by have:=Zdi cL;omega) x rfl cs2 m3 (bS.mono bQ) (by omega)) ZdU ?_⟩
   rintro a6 n6 c6 m4 bB ⟨ax,cx,xss,hv,cO,gB⟩
   simp only[Value.slice.injEq]at hv
   obtain⟨rfl,rfl,rfl⟩:=hv
   have cK:=ZiY hx
   have bX:=congrArg List.length cK
   rw[zA1]at bX
   have gX:=ZlY t.subs (i+1)
   have jA:=hR.len
   have iK:=gB.len
   refine⟨.inl trivial,R.flatten,xss.flatten,by rw[ZbO hR.all,jA],by rw[ZbO gB.all,iK],cF.mono bB,cO,Zfd gB,by rw[List.length_cons];omega,by rw[List.length_cons];omega,λa7 c7 m7 cB eP=>⟨by trivial,by trivial,t.subs.length - (i+1),by omega,i+1,a7,c7,R++xss,by omega,?_,?_,ZlP eP,?_,rfl⟩⟩
   ·rw[List.length_cons,List.length_cons,bX,Nat.add_right_comm]
   ·rw[List.length_cons,List.length_cons,bX,Nat.add_right_comm]
   ·rw[cK,<-List.cons_append]
    exact(hR.mono (mLt bB cB)).append (gB.mono cB)
  ·have:i=t.subs.length:=by simp only[slN]at bI;omega
   subst this
   rw[List.take_length]at hR ⊢
   refine⟨m3,bQ,Mem.le_refl _,a2,c2,R,?_,cF,?_⟩
   ·rw[rU];rfl
   ·rw[rU];exact hR
 ·have hk:¬t.k=4:=hk
  rw[if_neg hk,List.nil_append]at rU
  refine⟨λxs _ tvs m' q=>∃(i:Nat)(a1:Option Addr)(c1:Nat) (R:List (List Value)),i<=t.subs.length/\xs=[.slice a1 (Zax (t.subs.take i)).length c1,.int .i64 i]/\tvs=[.slice a1 (Zax (t.subs.take i)).length c1]/\rowRd m' a1 R.flatten/\RefAt m' (Zax (t.subs.take i)) R/\q=t.subs.length - i,⟨_,0,none,0,[],Nat.zero_le _,rfl,rfl,.inl rfl,by simp[Zax,RefAt],rfl⟩,?_⟩
  rintro a1 n1 c1 z a2 n2 c2 m3 q aX ⟨i,a5,c5,R,hi,aZ,bY,cF,hR,hq⟩
  simp only[List.cons.injEq,Value.slice.injEq,Value.int.injEq,true_and,and_true]at aZ bY
  obtain⟨⟨rfl,rfl,rfl⟩,rfl⟩:=aZ
  obtain⟨rfl,rfl,rfl⟩:=bY
  subst hq
  have bQ:=mLt aK aX
  refine Zbt (Zaa rfl (Za4 (λaS=>Zbt (Zaa rfl ?_)) (λbI=>?_)))
  ·have aN:i < t.subs.length:=by simp only[slN]at aS;omega
   obtain⟨x,hx⟩:=ZaQ aN
   have cL:=zA2 hx
   obtain⟨b0,o0,cs2,rfl,bA,bS⟩:=ZbZ aP bO hx
   have aZ:=Zbq cL
   have hw:IntKind.i64.wrap ((i:Int)+1)=((i+1:Nat):Int):=by rw[Zas (by omega) (by omega)];rfl
   simp only[hw,zA8]
   refine⟨b0,o0,rfl,⟨by omega,by simp only[slN];omega⟩,cs2,bS.len,bA.mono bQ,Zae (ih _ (by have:=Zdi cL;omega) x rfl cs2 m3 (bS.mono bQ) (by omega)) ZdU ?_⟩
   rintro a6 n6 c6 m4 bB ⟨ax,cx,xss,hv,cO,gB⟩
   simp only[Value.slice.injEq]at hv
   obtain⟨rfl,rfl,rfl⟩:=hv
   have cK:=ZiY hx
   have bX:=congrArg List.length cK
   rw[zA1]at bX
   have gX:=ZlY t.subs (i+1)
   have jA:=hR.len
   have iK:=gB.len
   refine⟨.inl trivial,R.flatten,xss.flatten,by rw[ZbO hR.all,jA],by rw[ZbO gB.all,iK],cF.mono bB,cO,Zfd gB,by omega,by omega,λa7 c7 m7 cB eP=>⟨by trivial,t.subs.length - (i+1),by omega,i+1,a7,c7,R++xss,by omega,?_,?_,ZlP eP,?_,rfl⟩⟩
   ·rw[bX]
   ·rw[bX]
   ·rw[cK]
    exact(hR.mono (mLt bB cB)).append (gB.mono cB)
  ·have:i=t.subs.length:=by simp only[slN]at bI;omega
   subst this
   rw[List.take_length]at hR ⊢
   refine⟨m3,bQ,Mem.le_refl _,a2,c2,R,?_,cF,?_⟩
   ·rw[rU]
   ·rw[rU];exact hR
theorem Zqe(u v:T):ZcC u v=decide (u.q=v.q):=by
 rw[ZBB]
 unfold ZcC
 cases u.s0 == v.s0 <;> cases u.s1 == v.s1 <;> cases u.s2 == v.s2 <;> cases u.s3 == v.s3 <;> rfl
theorem ZrR(x:T)(r:List T)(css:List (List Value))(a:Option Addr)(c:Nat)(m:Mem)(hr:rowRd m a css.flatten)(bO:RefAt m (x::r) css)(hl:(x::r).length<=100000):CX Tryz.prog 82 #[.slice a (x::r).length c] m [] (Ret (.int .i64 (Zmn (x::r):Nat))):=by
 apply Zim
 obtain⟨bx,ox,csx,rfl,ya,oO⟩:=ZbZ hr bO (i:=0) (t:=x) rfl
 have xW:(Zao x).length<=1000000:=by
  obtain⟨_,h1,_⟩:=ZaX.1 oO
  unfold Zao
  split
  ·simp
  ·split
   ·exact Nat.le_trans (List.takeWhile_sublist _).length_le h1
   ·simp
 have bC:=ZxZ x r
 refine⟨λxs _ _ m' q=>∃n:Nat,n<=Zmn (x::r)/\xs=[.int .i64 n]/\q=(Zao x).length - n,⟨_,0,Nat.zero_le _,rfl,rfl⟩,?_⟩
 rintro z m1 q aK ⟨n,hn,aZ,hq⟩
 obtain rfl:z=n:=by simpa using aZ
 subst hq
 refine⟨λxs _ _ m' q=>∃i:Nat,i<=(x::r).length/\xs=[.int .i64 i]/\(∀y∈(x::r).take i,ZAH x y n)/\q=(x::r).length - i,⟨_,0,Nat.zero_le _,rfl,by simp,rfl⟩,?_⟩
 rintro z m2 q aO ⟨i,hi,aZ,aV,hq⟩
 obtain rfl:z=i:=by simpa using aZ
 subst hq
 have bR:=mLt aK aO
 refine Za4 (λaS=>?_) (λbI=>?_)
 ·have aN:i < (x::r).length:=by omega
  obtain⟨y,hy⟩:=ZaQ aN
  have vU:=zA2 hy
  obtain⟨b0,o0,csy,e0,bA,jV⟩:=ZbZ hr bO hy
  cases e0
  have cU:Zaf (i:Int) (x::r).length:=⟨by omega,by omega⟩
  have hw:IntKind.i64.wrap ((i:Int)+1)=((i+1:Nat):Int):=by rw[Zas (by omega) (by omega)];rfl
  simp only[hw,zA8]
  have stop:∀M:Mem,m.le M->¬ZAH x y n->∃m'':Mem,m.le m''/\m''.le M/\Ret (.int .i64 (Zmn (x::r):Nat)) (.int .i64 n) m'' []:=λM hM h=>by
   have h1:=Zuh vU h
   have:Zmn (x::r)=n:=by omega
   rw[this]
   exact Zah hM rfl
  refine⟨λk _ _=>bif Nat.beq k 20 then Zw9 x else Zw9 y,bx,ox,rfl,cU,csy,jV.len,bA.mono bR,_,rfl,Zi4 y csy m2 (jV.mono bR),ZeI,?_⟩
  rintro a3 n3 c3 m3 aX ⟨ah,ch,hv,zY⟩
  simp only[Value.slice.injEq]at hv
  obtain⟨rfl,rfl,rfl⟩:=hv
  have bQ:=mLt bR aX
  refine Za4 (λh1=>λM hM _ _ _=>stop M (mLt bR hM) ?_) (λh1=>?_)
  ·rintro⟨u,v,_,hv,_⟩
   have:=(zA0 hv).1
   omega
  have h1':n < (Zao y).length:=by omega
  have iK:n < (Zao x).length:=by
   rcases Nat.eq_zero_or_pos i with h0|h0
   ·subst h0;simp at hy;subst hy;exact h1'
   ·obtain⟨u,v,hu,_⟩:=aV x (by
     obtain⟨i',rfl⟩:∃i',i=i'+1:=⟨i - 1,by omega⟩
     simp)
    exact(zA0 hu).1
  obtain⟨v,hv⟩:=ZaQ h1'
  obtain⟨u,hu⟩:=ZaQ iK
  refine⟨bx,ox,rfl,cU,csy,jV.len,bA.mono bQ,_,rfl,Zi4 y csy m3 (jV.mono bQ),ZeI,?_⟩
  rintro a4 n4 c4 m4 bB ⟨ah4,ch4,zZ,yc⟩
  simp only[Value.slice.injEq]at zZ
  obtain⟨rfl,rfl,rfl⟩:=zZ
  obtain⟨b4,o4,rfl,mG⟩:=Zin yc hv
  have fH:=mLt bQ bB
  refine⟨b4,o4,rfl,⟨by omega,by omega⟩,ZaB v.q,Zal _,mG,bx,ox,rfl,⟨by decide,by simp⟩,csx,oO.len,by simpa using ya.mono bQ,_,rfl,Zi4 x csx m4 (oO.mono fH),ZeI,?_⟩
  rintro a5 n5 c5 m5 cC ⟨ah5,ch5,uA,yd⟩
  simp only[Value.slice.injEq]at uA
  obtain⟨rfl,rfl,rfl⟩:=uA
  obtain⟨b5,o5,rfl,ye⟩:=Zin yd hu
  refine⟨b5,o5,rfl,⟨by omega,by omega⟩,ZaB u.q,Zal _,ye,decide (v.q=u.q),ZAN (Ztb jV v (zA2 hv)) (Ztb oO u (zA2 hu)),λM cM cS dM jH=>Zac (λhb=>?_) (λhb=>?_)⟩
  ·refine stop M (mLt bR cM) ?_
   rintro⟨u',v',hu',hv',hs⟩
   rw[hu]at hu';rw[hv]at hv'
   cases hu';cases hv'
   rw[Zqe]at hs
   have:=zA6 hs
   rw[this]at hb;simp at hb
  ·refine⟨(x::r).length - (i+1),by omega,i+1,aN,rfl,?_,rfl⟩
   have hb':v.q=u.q:=by simpa using hb
   rw[List.take_add_one,hy]
   intro y' hy'
   rcases List.mem_append.1 hy' with hy'|hy'
   ·exact aV y' hy'
   ·simp at hy';subst hy'
    exact⟨u,v,hu,hv,by rw[Zqe];exact decide_eq_true hb'.symm⟩
 ·have:i=(x::r).length:=by omega
  subst this
  rw[List.take_length]at aV
  have h1:=Zug hn aV
  have hw:IntKind.i64.wrap ((n:Int)+1)=((n+1:Nat):Int):=by rw[Zas (by omega) (by omega)];rfl
  rw[hw]
  exact⟨(Zao x).length - (n+1),by omega,n+1,h1,rfl,rfl⟩
end Go.Proofs.YtfgfahnakepegaaGreat
end
