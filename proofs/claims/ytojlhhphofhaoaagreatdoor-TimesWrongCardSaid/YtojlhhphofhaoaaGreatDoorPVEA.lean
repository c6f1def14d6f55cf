/- Part of the proof: functions of the program. No condition. -/
import Derived.Test.YtojlhhphofhaoaaGreatDoorPEnv
import Derived.Test.YtojlhhphofhaoaaGreatDoorMc
set_option linter.unusedVariables false
set_option linter.unusedSimpArgs false
set_option linter.unusedSectionVars false
namespace Go.Proofs.YtojlhhphofhaoaaGreatDoor
open Go Go.Eng Go.Proofs Go.RowKit
open Go.Value (int slice agg bool string tuple func)
open Go.IntKind (u8 u64 i64)
set_option maxRecDepth 100000
noncomputable def ZiG:Env:={ EB with
 loops:=(λi=>bif Nat.beq i 6 then⟨[(0,.slice),(23,.int .i64)],[],[(900,1)],false⟩ else⟨[],[],[],false⟩)
 tokOf:=(λi=>bif Nat.beq i 19 then 900 else 0)
 frzNew:=[3]
 thaw:=true
 lentC:=(λi=>bif Nat.beq i 29 then some [(900,1)]else none) }
theorem Zgp(aW:Int)(aX:Value)(aY:ByteArray)(aZ:Int)(bD:Option Addr)(bC bE:Nat)(t0a:Option Addr)(t0n t0c:Nat)(m:Mem)(Y:Nat->Prop)(R:RTY)(h:
 ∀(b:Nat)(m':Mem),m.le m'->m'.reads b 0 [int u8 aW,aX,string aY,int i64 aZ,slice bD bC bE]->m.free b->(∀(b' o:Nat)(u:Value),m' b' o=some u->m b' o=some u\/b'=b)->
 br (aW == (9:Int)) (∃(R_1:RT),True/\CX Tryz.prog 175 (Array.mk [slice t0a t0n t0c,string aY]) m' [] R_1/\Zap Shape.bool R_1/\∀(b:Bool)(m'_1:Mem),m'.le m'_1->R_1 (bool b) m'_1 []->br b (R
 (slice t0a t0n t0c) m'_1 [] [slice t0a t0n t0c]) (∀(b:Nat),m'_1.free b->(Tok.mk (slice t0a t0n t0c) 1=Tok.mk (slice t0a t0n t0c) 1\/slice t0a t0n t0c=slice none 0 0\/t0c < t0n+1)/\∃(xs:List Value),
 ∃(ys:List Value),xs.length=t0n*1/\ys.length=1*1/\rowRd (m'_1.add b [string aY]) t0a xs/\rowRd (m'_1.add b [string aY]) (some (Addr.mk b 0 none)) ys/\(∀(u:Value),u∈ys->
 u.oneCell'=true)/\(t0n+1)*16<=140737488355328/\t0n+1<=9223372036854775807/\∀(a':Option Addr)(c':Nat)(m':Mem),Mem.le (m'_1.add b [string aY]) m'->rowRd m' a' (List.append xs ys)->
 TokFact (m'_1.add b [string aY]) t0a a' (t0n+1) c'->R (slice a' (t0n+1) c') m' [] [slice a' (t0n+1) c'])) (∃(I:IT),(∃(n:Nat),I [slice t0a t0n t0c,int i64 0] [] [slice t0a t0n t0c] m' n)/\∀(a:
 Option Addr) (n c:Nat) (n_1:Int) (a_1:Option Addr) (n_2 c_1:Nat) (m':Mem) (n_3:Nat),True->I [slice a n c,int i64 n_1] [] [slice a_1 n_2 c_1] m' n_3->br (decide (n_1 < (↑bC:Int))) (∃(b_1:Nat),∃
 (o:Nat),bD=some (Addr.mk b_1 o none)/\Zaf n_1 bC/\∃v v_1 v_2 v_3 v_4:Value,m'.reads b_1 (o+Int.toNat n_1*5) [v,v_1,v_2,v_3,v_4]/\∀
 (b_2:Nat),chk (v.oneCell'&&(v_1.oneCell'&&(v_2.oneCell'&&(v_3.oneCell'&&(v_4.oneCell'&&true))))) (∃(Y_1:Nat->Prop),∃(R:Value->Mem->List (List Value)->List Value->
 Prop),CXY Tryz.prog 201 (Array.mk [slice a n c,agg (Array.mk [v,v_1,v_2,v_3,v_4])]) m' Y_1 [] [Tok.mk (slice a_1 n_2 c_1) 1] R/\(∀(t:Tok),t∈[Tok.mk (slice a_1 n_2 c_1) 1]->∀(b:Nat),Tok.blk t=some b->
 Y_1 b)/\(∀(b_3:Nat),Y_1 b_3->(∃(t:Tok),t∈[Tok.mk (slice a_1 n_2 c_1) 1]/\Tok.blk t=some b_3)\/(Mem.free (Mem.off m Y) b_3/\Mem.k (Mem.off m Y) b_3=none)/\((∃(o:Nat),∃(v:Value),m' b_3 o=some
 v)\/∃(e:List (Value×Value)),Mem.k m' b_3=some e)/\b≠b_3/\True)/\(∀(v:Value)(m':Mem) (css:List (List Value)) (tvs:List Value),R v m' css tvs->Shape.fits Shape.slice v=true)/\∀(a:Option
 Addr) (n c:Nat) (m'_1:Mem),Mem.le (Mem.off m' Y_1) m'_1->(NewM m' m'_1 λ(b:Nat)=>Y_1 b\/m'.free b)->∀(a_6:Option Addr)(c_2 d:Nat),R (slice a n c) m'_1 [] [slice a_6 c_2 d]->[some (Box.mk b
 [int u8 aW,aX,string aY,int i64 aZ,slice bD bC bE] 133 5 true true)]=[some (Box.mk b [int u8 aW,aX,string aY,int i64 aZ,slice bD bC bE] 133 5 true true)]/\([none]:List
 (Option Tok))=[none]/\∃(n':Nat),n' < n_3/\I [slice a n c,int i64 (i64.wrap (n_1+(1:Int)))] [] [slice a_6 c_2 d] m'_1 n')) (R (slice a n c) m' [] [slice a_1 n_2 c_1]))):CXY Tryz.prog 201 #[.slice t0a t0n t0c,.agg #[.int .u8 aW,aX,.string aY,.int .i64 aZ,.slice bD bC bE]] m Y [] [⟨.slice t0a t0n t0c,1⟩] R:=
 Zqa (E:=ZiG) Zak mix Tryz.func201 [.v (.slice t0a t0n t0c),.v (.agg #[.int .u8 aW,aX,.string aY,.int .i64 aZ,.slice bD bC bE])] [] [900] [⟨.slice t0a t0n t0c,1⟩] (by decide) (by kernel_rfl) (Eq.mp (by kernel_rfl) h)
noncomputable def ZmK:Env:={ EB with
 frzNew:=[1] }
theorem Zky(aA:Int)(aB:Value)(aC:ByteArray)(aD:Int)(aT:Option Addr)(aS aU:Nat)(m:Mem)(R:RT)(h:
 ∀(b:Nat)(m':Mem),m.le m'->m'.reads b 0 [int u8 aA,aB,string aC,int i64 aD,slice aT aS aU]->∃(m'':Mem),m.le m''/\m''.le m'/\R (func (Fn.func 123) (Array.mk [])
 (Array.mk [Value.pointer (some (Addr.mk b 0 none))])) m'' []):CX Tryz.prog 96 #[.agg #[.int .u8 aA,aB,.string aC,.int .i64 aD,.slice aT aS aU]] m [] R:=
 Zad (E:=ZmK) Zak mix Tryz.func96 [.v (.agg #[.int .u8 aA,aB,.string aC,.int .i64 aD,.slice aT aS aU])] [] (by kernel_rfl) (Eq.mp (by kernel_rfl) h)
noncomputable def ZiH:Env:={ EB with
 loops:=(λi=>bif Nat.beq i 3 then⟨[(13,.int .i64)],[],[],true⟩ else bif Nat.beq i 7 then⟨[(19,.agg [.int .u8,.any,.str,.int .i64,.slice])],[],[],true⟩ else⟨[],[],[],false⟩)
 frzNew:=[2] }
theorem Zhl(p0g:Nat)(p0fi p0ca:List Value)(c0b c0o:Nat)(m:Mem)(xs:List (List Value))(h:
 ∀(l b:Nat)(m':Mem),m.le m'->m'.reads b 0 [func (Fn.yield l) (Array.mk []) (Array.mk [])]->∃v v_1 v_2 v_3 v_4:Value,m'.reads c0b c0o [v,v_1,
 v_2,v_3,v_4]/\(l=l/\(0:Int)<=(0:Int)/\List.get?Internal xs (Int.toNat (0:Int))=some [agg (Array.mk [v,v_1,v_2,v_3,v_4])])/\(∃(v:Value),m' c0b (c0o+4)=some v/\chk (Zbi v) (∃(I:IT),(∃(n
 : Nat),I [int i64 ((0:Int)+(1:Int)),int i64 0] [] [] m' n)/\∀(y n:Int)(m'_1:Mem)(n_1:Nat),m'.le m'_1->I [int i64 y,int i64 n] [] [] m'_1 n_1->br (decide (n < (↑(slN v):Int))) (chk (Zbi v) (∃
 (b_1:Nat),∃(o:Nat),slA v=some (Addr.mk b_1 o none)/\Zaf n (slN v)/\∃v v_5 v_6 v_7 v_8:Value,m'_1.reads b_1 (o+Int.toNat n*5) [v,v_5,v_6,
 v_7,v_8]/\∀(b_2:Nat),chk (v.oneCell'&&(v_5.oneCell'&&(v_6.oneCell'&&(v_7.oneCell'&&(v_8.oneCell'&&true))))) (∃(R:RT),True/\CX Tryz.prog 96 (Array.mk [agg (Array.mk [v,
 v_5,v_6,v_7,v_8])]) m'_1 [] R/\Zap Shape.fn R/\∀(g:Nat)(fi ca:List Value)(m':Mem),m'_1.le m'->R (func (Fn.func g) (Array.mk fi) (Array.mk ca)) m' []->∃(xs_1:List (List Value)),IX Tryz.prog g fi
 ca m' xs_1/\(∀(x:List Value),x∈xs_1->Shape.fitsL [Shape.agg [Shape.int u8,Shape.any,Shape.str,Shape.int i64,Shape.slice]] x=true)/\∃(I_1:IT),I_1 [int i64 y] [] [] m' 0/\(∀(y n:Int)(v_9:Value)
 (s:ByteArray) (n_2:Int) (a:Option Addr) (n_3 c:Nat) (m'_2:Mem) (n_4:Nat),m'.le m'_2->List.get?Internal xs_1 n_4=some [agg (Array.mk [int u8 n,v_9,string s,int i64 n_2,slice a n_3 c])]->I_1 [int
 i64 y] [] [] m'_2 n_4->∀(b_3:Nat),chk (v_9.oneCell'&&true) ((l=l/\(0:Int)<=y/\List.get?Internal xs (Int.toNat y)=some [agg (Array.mk [int u8 n,v_9,string s,int i64 n_2,slice a n_3 c])])/\
 ([some (Box.mk b_2 [v,v_5,v_6,v_7,v_8] 133 5 false true),some (Box.mk b [func (Fn.yield l) (Array.mk []) (Array.mk [])] 176 1 true true)]=[some (Box.mk b_2 [v,v_5,v_6,v_7,v_8] 133 5 false true),some (Box.mk
 b [func (Fn.yield l) (Array.mk []) (Array.mk [])] 176 1 true true)]/\I_1 [int i64 (y+(1:Int))] [] [] m'_2 (n_4+1))/\[some (Box.mk b_2 [v,v_5,v_6,v_7,v_8] 133 5 false true),some (Box.mk b [func (Fn.yield l)
 (Array.mk []) (Array.mk [])] 176 1 true true)]=[some (Box.mk b_2 [v,v_5,v_6,v_7,v_8] 133 5 false true),some (Box.mk b [func (Fn.yield l) (Array.mk []) (Array.mk [])] 176 1 true true)]/\((-1:Int) =
 (↑(xs.length):Int)\/(-1:Int)=(-1:Int))))/\∀(y:Int)(m'_2:Mem),m'.le m'_2->I_1 [int i64 y] [] [] m'_2 (xs_1.length)->[some (Box.mk b [func (Fn.yield l) (Array.mk []) (Array.mk [])] 176 1
 true true)]=[some (Box.mk b [func (Fn.yield l) (Array.mk []) (Array.mk [])] 176 1 true true)]/\∃(n':Nat),n' < n_1/\I [int i64 y,int i64 (i64.wrap (n+(1:Int)))] [] [] m'_2 n'))) (y=(↑(xs.length):Int)\/y=(-1:Int))))/\((-1:Int)=(↑(xs.length):Int)\/(-1:Int)=(-1:Int))):IX Tryz.prog 123 [] [.pointer (some ⟨c0b,c0o,none⟩)] m xs:=
 ZgW (E:=ZiH) Zak mix Tryz.func123 [] [.pointer (some ⟨c0b,c0o,none⟩)] xs (by kernel_rfl) (Eq.mp (by kernel_rfl) h)
noncomputable def ZmL:Env:={ EB with
 loops:=(λi=>bif Nat.beq i 3 then⟨[(6,.agg [.int .u8,.any,.str,.int .i64,.slice])],[3],[],false⟩ else⟨[],[],[],false⟩)
 frzNew:=[1] }
theorem Zkz(aA:Int)(aB:Value)(aC:ByteArray)(aD:Int)(aT:Option Addr)(aS aU:Nat)(m:Mem)(R:RT)(h:
 ∀(b:Nat)(m':Mem),m.le m'->m'.reads b 0 [int u8 aA,aB,string aC,int i64 aD,slice aT aS aU]->∀(b_1:Nat),∃(R_1:RT),True/\CX Tryz.prog 96 (Array.mk [agg (Array.mk [int u8 aA,
 aB,string aC,int i64 aD,slice aT aS aU])]) m' [] R_1/\Zap Shape.fn R_1/\∀(g:Nat)(fi ca:List Value)(m'_1:Mem),m'.le m'_1->R_1 (func (Fn.func g) (Array.mk fi) (Array.mk ca)) m'_1 []->∃
 (xs:List (List Value)),IX Tryz.prog g fi ca m'_1 xs/\(∀(x:List Value),x∈xs->Shape.fitsL [Shape.agg [Shape.int u8,Shape.any,Shape.str,Shape.int i64,Shape.slice]] x=true)/\∃(I:IT),I [] [[int i64 0]]
 [] m'_1 0/\(∀(n:Int)(v:Value)(s:ByteArray)(n_1:Int)(a:Option Addr)(n_2 c:Nat)(cs:List Value)(m':Mem)(n_3:Nat),m'_1.le m'->List.get?Internal xs n_3=some [agg (Array.mk [int u8 n,v,
 string s,int i64 n_1,slice a n_2 c])]->I [] [cs] [] m' n_3->Eng.Ztt cs 0 λ(v:Value)=>chk (ZaP i64 v&&decide (i64=i64)) (br (decide (i64.wrap (intOf v+(1:Int)) > (10000:Int)))
 ([some (Box.mk b_1 [] 3 1 false true),some (Box.mk b [int u8 aA,aB,string aC,int i64 aD,slice aT aS aU] 133 5 true true)]=[some (Box.mk b_1 [] 3 1 false true),some (Box.mk b [int u8 aA,aB,
 string aC,int i64 aD,slice aT aS aU] 133 5 true true)]/\∃(m'':Mem),m.le m''/\m''.le m'/\R (bool (decide (i64.wrap (intOf v+(1:Int))<=(10000:Int)))) m'' []) ([some
 (Box.mk b_1 [] 3 1 false true),some (Box.mk b [int u8 aA,aB,string aC,int i64 aD,slice aT aS aU] 133 5 true true)]=[some (Box.mk b_1 [] 3 1 false true),some (Box.mk b [int u8 aA,aB,string
 aC,int i64 aD,slice aT aS aU] 133 5 true true)]/\I [] [[int i64 (i64.wrap (intOf v+(1:Int)))]] [] m' (n_3+1))))/\∀(cs:List Value)(m':Mem),m'_1.le m'->I [] [cs] [] m'
 (xs.length)->Eng.Ztt cs 0 λ(v:Value)=>chk (ZaP i64 v&&decide (i64=i64)) (∃(m'':Mem),m.le m''/\m''.le m'/\R (bool (decide (intOf v<=(10000:Int)))) m'' [])):CX Tryz.prog 95 #[.agg #[.int .u8 aA,aB,.string aC,.int .i64 aD,.slice aT aS aU]] m [] R:=
 Zad (E:=ZmL) Zak mix Tryz.func95 [.v (.agg #[.int .u8 aA,aB,.string aC,.int .i64 aD,.slice aT aS aU])] [] (by kernel_rfl) (Eq.mp (by kernel_rfl) h)
noncomputable def ZoK:Env:={ EB with
 loops:=(λi=>bif Nat.beq i 4 then⟨[(8,.agg [.int .u8,.any,.str,.int .i64,.slice])],[3],[],false⟩ else⟨[],[],[],false⟩)
 frzNew:=[1] }
theorem ZmM(aA:Int)(aB:Value)(aC:ByteArray)(aD:Int)(aT:Option Addr)(aS aU:Nat)(m:Mem)(R:RT)(h:
 ∀(b:Nat)(m':Mem),m.le m'->m'.reads b 0 [int u8 aA,aB,string aC,int i64 aD,slice aT aS aU]->∀(b_1:Nat),∃(R_1:RT),True/\CX Tryz.prog 95 (Array.mk [agg (Array.mk [int u8 aA,
 aB,string aC,int i64 aD,slice aT aS aU])]) m' [] R_1/\Zap Shape.bool R_1/\∀(b_2:Bool)(m'_1:Mem),m'.le m'_1->R_1 (bool b_2) m'_1 []->br b_2 (∃(R_2:RT),True/\CX Tryz.prog 96
 (Array.mk [agg (Array.mk [int u8 aA,aB,string aC,int i64 aD,slice aT aS aU])]) m'_1 [] R_2/\Zap Shape.fn R_2/\∀(g:Nat)(fi ca:List Value)(m':Mem),m'_1.le m'->R_2 (func (Fn.func g)
 (Array.mk fi) (Array.mk ca)) m' []->∃(xs:List (List Value)),IX Tryz.prog g fi ca m' xs/\(∀(x:List Value),x∈xs->Shape.fitsL [Shape.agg [Shape.int u8,Shape.any,Shape.str,Shape.int i64,Shape.slice]] x =
 true)/\∃(I:IT),I [] [[int i64 0]] [] m' 0/\(∀(n:Int)(v:Value)(s:ByteArray)(n_1:Int)(a:Option Addr)(n_2 c:Nat)(cs:List Value)(m'_2:Mem)(n_3:Nat),m'.le m'_2->List.get?Internal xs n_3
 = some [agg (Array.mk [int u8 n,v,string s,int i64 n_1,slice a n_2 c])]->I [] [cs] [] m'_2 n_3->Eng.Ztt cs 0 λ(v:Value)=>chk (ZaP i64 v&&decide (i64=i64)) ([some (Box.mk b_1 [] 3 1 false true),some
 (Box.mk b [int u8 aA,aB,string aC,int i64 aD,slice aT aS aU] 133 5 true true)]=[some (Box.mk b_1 [] 3 1 false true),some (Box.mk b [int u8 aA,aB,string aC,int i64 aD,slice aT aS
 aU] 133 5 true true)]/\I [] [[int i64 (i64.wrap (intOf v+(1:Int)))]] [] m'_2 (n_3+1)))/\∀(cs:List Value)(m'_2:Mem),m'.le m'_2->I [] [cs] [] m'_2 (xs.length)->Eng.Ztt cs 0 fun
 (v:Value)=>∃(m'':Mem),m.le m''/\m''.le m'_2/\R v m'' []) (∃(m'':Mem),m.le m''/\m''.le m'_1/\R (int i64 0) m'' [])):CX Tryz.prog 107 #[.agg #[.int .u8 aA,aB,.string aC,.int .i64 aD,.slice aT aS aU]] m [] R:=
 Zad (E:=ZoK) Zak mix Tryz.func107 [.v (.agg #[.int .u8 aA,aB,.string aC,.int .i64 aD,.slice aT aS aU])] [] (by kernel_rfl) (Eq.mp (by kernel_rfl) h)
noncomputable def ZmN:Env:={ EB with
 exv:=(λi=>bif Nat.beq i 1 then true else false) }
theorem ZkA  (m:Mem)(R:RT)(h:
 ∃(v:Value),ZnC Tryz.prog 124 [int u64 9221120237041090561] v/\∃(m'':Mem),m.le m''/\m''.le m/\R v m'' []):CX Tryz.prog 142 #[] m [] R:=
 Zad (E:=ZmN) Zak mix Tryz.func142 [] [] (by kernel_rfl) (Eq.mp (by kernel_rfl) h)
noncomputable def ZiI:Env:=EB
theorem Zhm(p0:Value)(m:Mem)(R:RT)(h:
 ∃(b:Bool),BinIs Tryz.prog BinOp.neq 87 p0 p0 (bool b)/\br b (∃(R_1:RT),True/\CX Tryz.prog 142 (Array.mk []) m [] R_1/\(∀(v:Value)(m':Mem) (css:List (List Value)),R_1 v m' css->true=true)/\∀(v:
 Value) (m':Mem),m.le m'->R_1 v m' []->∃(m'':Mem),m.le m''/\m''.le m'/\R v m'' []) (∃(m'':Mem),m.le m''/\m''.le m/\R p0 m'' [])):CX Tryz.prog 121 #[p0] m [] R:=
 Zad (E:=ZiI) Zak mix Tryz.func121 [.v (p0)] [] (by kernel_rfl) (Eq.mp (by kernel_rfl) h)
noncomputable def ZiJ:Env:={ EB with
 joins:=(λi=>bif Nat.beq i 1 then some [(2,.bool)]else none)
 exv:=(λi=>bif Nat.beq i 8 then true else false) }
theorem Zhn(p0:Value)(m:Mem)(R:RT)(h:
 ∃(b:Bool),(∃(b_1:Bool),BinIs Tryz.prog BinOp.eql 87 p0 p0 (bool b_1)/\br b_1 ([bool true]=[bool b]) (∃(v:Value),ZnC Tryz.prog 120 [p0] v/\chk (ZaP u64 v&&decide (u64=u64)) ([bool (intOf v
 == (9221120237041090561:Int))]=[bool b])))/\∃(m'':Mem),m.le m''/\m''.le m/\R (bool b) m'' []):CX Tryz.prog 177 #[p0] m [] R:=
 Zad (E:=ZiJ) Zak mix Tryz.func177 [.v (p0)] [] (by kernel_rfl) (Eq.mp (by kernel_rfl) h)
noncomputable def ZkB:Env:={ EB with
 exv:=(λi=>bif Nat.beq i 7 then true else bif Nat.beq i 10 then true else false) }
theorem ZiK(p0 p1:Value)(m:Mem)(R:RT)(h:
 ∃(R_1:RT),True/\CX Tryz.prog 121 (Array.mk [p0]) m [] R_1/\(∀(v:Value)(m':Mem) (css:List (List Value)),R_1 v m' css->true=true)/\∀(v:Value)(m':Mem),m.le m'->R_1 v m' []->∃(v_1:Value),
 ZnC Tryz.prog 120 [v] v_1/\∃(R_2:RT),True/\CX Tryz.prog 121 (Array.mk [p1]) m' [] R_2/\(∀(v:Value)(m':Mem) (css:List (List Value)),R_2 v m' css->true=true)/\∀(v:Value)(m'_1:Mem),m'.le m'_1->R_2 v m'_1 []->∃(v_2:Value),ZnC Tryz.prog 120 [v] v_2/\chk (ZaP u64 v_1&&ZaP u64 v_2) (∃(m'':Mem),m.le m''/\m''.le m'_1/\R (bool (intOf v_1 == intOf v_2)) m'' [])):CX Tryz.prog 90 #[p0,p1] m [] R:=
 Zad (E:=ZkB) Zak mix Tryz.func90 [.v (p0),.v (p1)] [] (by kernel_rfl) (Eq.mp (by kernel_rfl) h)
noncomputable def ZbH:Env:={ EB with
 loops:=(λi=>bif Nat.beq i 2 then⟨[(8,.int .i64)],[],[],false⟩ else⟨[],[],[],false⟩) }
theorem ZbB(p0a:Option Addr)(p0n p0c p1g:Nat)(p1fi p1ca:List Value)(m:Mem)(R:RT)(h:
 ∃(I:IT),(∃(n:Nat),I [int i64 0] [] [] m n)/\∀(n:Int)(m':Mem)(n_1:Nat),m.le m'->I [int i64 n] [] [] m' n_1->br (decide (n < (↑p0n:Int))) (∃(b:Nat),∃(o:Nat),p0a=some (Addr.mk b o none)
 /\ Zaf n p0n/\∃(v:Value),m' b (o+Int.toNat n*1)=some v/\∃(R_1:RT),True/\CX Tryz.prog p1g (Array.mk (List.append (List.append p1fi [v]) p1ca)) m' [] R_1/\Zap Shape.bool R_1/\∀(b:Bool) (m'_1:
 Mem),m'.le m'_1->R_1 (bool b) m'_1 []->br b (∃(m'':Mem),m.le m''/\m''.le m'_1/\R (int i64 n) m'' []) (∃(n':Nat),n' < n_1/\I [int i64 (i64.wrap (n+(1:Int)))] [] [] m'_1 n')) (∃(m''
 : Mem),m.le m''/\m''.le m'/\R (int i64 (-1:Int)) m'' [])):CX Tryz.prog 200 #[.slice p0a p0n p0c,.func (.func p1g) p1fi.toArray p1ca.toArray] m [] R:=
 Zad (E:=ZbH) Zak mix Tryz.func200 [.v (.slice p0a p0n p0c),.v (.func (.func p1g) p1fi.toArray p1ca.toArray)] [] (by kernel_rfl) (Eq.mp (by kernel_rfl) h)
noncomputable def Zbr:Env:=EB
theorem Zbn(p0a:Option Addr)(p0n p0c p1g:Nat)(p1fi p1ca:List Value)(m:Mem)(R:RT)(h:
 ∃(R_1:RT),True/\CX Tryz.prog 200 (Array.mk [slice p0a p0n p0c,func (Fn.func p1g) (Array.mk p1fi) (Array.mk p1ca)]) m [] R_1/\Zap (Shape.int i64) R_1/\∀(n:Int)(m':Mem),m.le m'->R_1 (int i64 n) m' []
 -> ∃(m'':Mem),m.le m''/\m''.le m'/\R (bool (decide (n ≥ (0:Int)))) m'' []):CX Tryz.prog 186 #[.slice p0a p0n p0c,.func (.func p1g) p1fi.toArray p1ca.toArray] m [] R:=
 Zad (E:=Zbr) Zak mix Tryz.func186 [.v (.slice p0a p0n p0c),.v (.func (.func p1g) p1fi.toArray p1ca.toArray)] [] (by kernel_rfl) (Eq.mp (by kernel_rfl) h)
noncomputable def Zb7:Env:={ EB with
 loops:=(λi=>bif Nat.beq i 2 then⟨[(8,.int .i64)],[],[],false⟩ else⟨[],[],[],false⟩) }
theorem Zb0(p0a:Option Addr)(p0n p0c:Nat)(p1:ByteArray)(m:Mem)(R:RT)(h:
 ∃(I:IT),(∃(n:Nat),I [int i64 0] [] [] m n)/\∀(n:Int)(m':Mem)(n_1:Nat),m.le m'->I [int i64 n] [] [] m' n_1->br (decide (n < (↑p0n:Int))) (∃(b:Nat),∃(o:Nat),p0a=some (Addr.mk b o none)
 /\ Zaf n p0n/\∃(v:Value),m' b (o+Int.toNat n*1)=some v/\chk (Zgw v) (br (ByteArray.toList p1 == ByteArray.toList (Zb9 v)) (∃(m'':Mem),m.le m''/\m''.le m'/\R (int i64 n) m'' []) (∃(n':
 Nat),n' < n_1/\I [int i64 (i64.wrap (n+(1:Int)))] [] [] m' n'))) (∃(m'':Mem),m.le m''/\m''.le m'/\R (int i64 (-1:Int)) m'' [])):CX Tryz.prog 190 #[.slice p0a p0n p0c,.string p1] m [] R:=
 Zad (E:=Zb7) Zak mix Tryz.func190 [.v (.slice p0a p0n p0c),.v (.string p1)] [] (by kernel_rfl) (Eq.mp (by kernel_rfl) h)
noncomputable def ZbR:Env:=EB
theorem ZbI(p0a:Option Addr)(p0n p0c:Nat)(p1:ByteArray)(m:Mem)(R:RT)(h:
 ∃(R_1:RT),True/\CX Tryz.prog 190 (Array.mk [slice p0a p0n p0c,string p1]) m [] R_1/\Zap (Shape.int i64) R_1/\∀(n:Int)(m':Mem),m.le m'->R_1 (int i64 n) m' []->∃(m'':Mem),m.le m''/\m''.le m'/\R (bool (decide (n ≥ (0:Int)))) m'' []):CX Tryz.prog 175 #[.slice p0a p0n p0c,.string p1] m [] R:=
 Zad (E:=ZbR) Zak mix Tryz.func175 [.v (.slice p0a p0n p0c),.v (.string p1)] [] (by kernel_rfl) (Eq.mp (by kernel_rfl) h)
noncomputable def Zci:Env:=EB
theorem Zb8(p0b p0o:Nat)(p1:Int)(m:Mem)(R:RT)(h:
 Zaf p1 256/\∃(v:Value),m p0b (p0o+Int.toNat p1*1)=some v/\∃(m'':Mem),m.le m''/\m''.le m/\R v m'' []):CX Tryz.prog 202 #[.pointer (some ⟨p0b,p0o,none⟩),.int .u8 p1] m [] R:=
 Zad (E:=Zci) Zak mix Tryz.func202 [.v (.pointer (some ⟨p0b,p0o,none⟩)),.v (.int .u8 p1)] [] (by kernel_rfl) (Eq.mp (by kernel_rfl) h)
noncomputable def Zdd:Env:={ EB with
 loops:=(λi=>bif Nat.beq i 2 then⟨[(4,.int .i64)],[2],[],false⟩ else⟨[],[],[],false⟩) }
theorem Zc6(p0:ByteArray)(m:Mem)(R:RT)(h:
 ∀(b:Nat),∃(I:IT),(∃(n:Nat),I [int i64 0] [List.replicate 256 (bool false)] [] m n)/\∀(n:Int)(cs:List Value)(m':Mem)(n_1:Nat),m.le m'->I [int i64 n] [cs] [] m' n_1->br (decide (n <
 (↑(ByteArray.size p0):Int))) (Zaf n (ByteArray.size p0)/\br (decide (ZcX p0 (Int.toNat n) ≥ (128:Int))) (chk (Nat.beq (cs.length) 256&&Zdv cs) (∃(m'':Mem),m.le m''/\m''.le m'/\R (tuple
 (Array.mk [agg (Array.mk cs),bool false])) m'' [])) (Zaf (ZcX p0 (Int.toNat n)) 256/\chk (Nat.ble (0+Int.toNat (ZcX p0 (Int.toNat n))*1+1) (cs.length)) ([some (Box.mk b [] 246 256 false true)] =
 [some (Box.mk b [] 246 256 false true)]/\∃(n':Nat),n' < n_1/\I [int i64 (i64.wrap (n+(1:Int)))] [ZaG cs (0+Int.toNat (ZcX p0 (Int.toNat n))*1) [bool true]] [] m' n'))) (chk (Nat.beq
 (cs.length) 256&&Zdv cs) (∃(m'':Mem),m.le m''/\m''.le m'/\R (tuple (Array.mk [agg (Array.mk cs),bool true])) m'' []))):CX Tryz.prog 193 #[.string p0] m [] R:=
 Zad (E:=Zdd) Zak mix Tryz.func193 [.v (.string p0)] [] (by kernel_rfl) (Eq.mp (by kernel_rfl) h)
noncomputable def Zc7:Env:={ EB with
 loops:=(λi=>bif Nat.beq i 1 then⟨[(0,.str)],[],[],false⟩ else⟨[],[],[],false⟩) }
theorem ZcU(p0:ByteArray)(p1b p1o:Nat)(m:Mem)(R:RT)(h:
 ∃(I:IT),(∃(n:Nat),I [string p0] [] [] m n)/\∀(s:ByteArray)(m':Mem)(n:Nat),m.le m'->I [string s] [] [] m' n->br (decide ((↑(ByteArray.size s):Int) > (0:Int))) (Zaf (0:Int)
 (ByteArray.size s)/\∃(R_1:RT),True/\CX Tryz.prog 202 (Array.mk [Value.pointer (some (Addr.mk p1b p1o none)),int u8 (ZcX s (Int.toNat (0:Int)))]) m' [] R_1/\Zap Shape.bool R_1/\∀(b:Bool)(m'_1:Mem),
 m'.le m'_1->R_1 (bool b) m'_1 []->br (!b) (∃(m'':Mem),m.le m''/\m''.le m'_1/\R (string s) m'' []) (((0:Int)<=(1:Int)/\(1:Int)<=(↑(ByteArray.size s):Int))/\∃(n':Nat),n' < n/\I [string
 (ByteArray.extract s (Int.toNat (1:Int)) (ByteArray.size s))] [] [] m'_1 n')) (∃(m'':Mem),m.le m''/\m''.le m'/\R (string s) m'' [])):CX Tryz.prog 194 #[.string p0,.pointer (some ⟨p1b,p1o,none⟩)] m [] R:=
 Zad (E:=Zc7) Zak mix Tryz.func194 [.v (.string p0),.v (.pointer (some ⟨p1b,p1o,none⟩))] [] (by kernel_rfl) (Eq.mp (by kernel_rfl) h)
noncomputable def ZcV:Env:={ EB with
 loops:=(λi=>bif Nat.beq i 1 then⟨[(0,.str)],[],[],false⟩ else⟨[],[],[],false⟩) }
theorem Zcz(p0:ByteArray)(p1b p1o:Nat)(m:Mem)(R:RT)(h:
 ∃(I:IT),(∃(n:Nat),I [string p0] [] [] m n)/\∀(s:ByteArray)(m':Mem)(n:Nat),m.le m'->I [string s] [] [] m' n->br (decide ((↑(ByteArray.size s):Int) > (0:Int))) (Zaf (i64.wrap
 ((↑(ByteArray.size s):Int) - (1:Int))) (ByteArray.size s)/\∃(R_1:RT),True/\CX Tryz.prog 202 (Array.mk [Value.pointer (some (Addr.mk p1b p1o none)),int u8 (ZcX s (Int.toNat (i64.wrap
 ((↑(ByteArray.size s):Int) - (1:Int)))))]) m' [] R_1/\Zap Shape.bool R_1/\∀(b:Bool)(m'_1:Mem),m'.le m'_1->R_1 (bool b) m'_1 []->br (!b) (∃(m'':Mem),m.le m''/\m''.le m'_1/\R (string s)
 m'' []) (((0:Int)<=i64.wrap ((↑(ByteArray.size s):Int) - (1:Int))/\i64.wrap ((↑(ByteArray.size s):Int) - (1:Int))<=(↑(ByteArray.size s):Int))/\∃(n':Nat),n' < n/\I [string
 (ByteArray.extract s 0 (Int.toNat (i64.wrap ((↑(ByteArray.size s):Int) - (1:Int)))))] [] [] m'_1 n')) (∃(m'':Mem),m.le m''/\m''.le m'/\R (string s) m'' [])):CX Tryz.prog 195 #[.string p0,.pointer (some ⟨p1b,p1o,none⟩)] m [] R:=
 Zad (E:=ZcV) Zak mix Tryz.func195 [.v (.string p0),.v (.pointer (some ⟨p1b,p1o,none⟩))] [] (by kernel_rfl) (Eq.mp (by kernel_rfl) h)
noncomputable def ZiL:Env:={ EB with
 joins:=(λi=>bif Nat.beq i 1 then some [(12,.bool)]else bif Nat.beq i 3 then some [(21,.bool)]else none)
 dr:=(λi=>bif Nat.beq i 4 then[⟨0,[],[],none,[],[]⟩,⟨1,[],[],none,[],[]⟩,⟨2,[],[],none,[1],[]⟩,⟨3,[],[],none,[0,1,2],[]⟩,⟨4,[],[],none,[],[]⟩,⟨5,[],[],none,[4],[]⟩,⟨6,[],[],none,[0,1,2,3,4,5],[3]⟩,⟨7,[],[],none,[0,1,2,3,4,5,6],[]⟩]else[])
 frzAt:=(λi=>bif Nat.beq i 36 then[5]else[]) }
theorem Zho(p0 p1:ByteArray)(m:Mem)(R:RT)(h:
 ∃(b:Bool),br (ByteArray.toList p0 == ByteArray.toList bE0) ([bool true]=[bool b]) ([bool (ByteArray.toList p1 == ByteArray.toList bE0)]=[bool b])/\br b (∃(m''
 : Mem),m.le m''/\m''.le m/\R (string p0) m'' []) (∃(b:Bool),br ((↑(ByteArray.size p1):Int) == (1:Int)) (Zaf (0:Int) (ByteArray.size p1)/\[bool (decide (ZcX p1 (Int.toNat (0:Int)) < (128:
 Int)))]=[bool b]) ([bool false]=[bool b])/\br b (∃(f:Fx),Zaf (0:Int) (ByteArray.size p1)/\∃(R_1:RT),R_1=f 3 [string p0,int u8 (ZcX p1 (Int.toNat (0:Int)))] m/\CX Tryz.prog 192 (Array.mk
 [string p0,int u8 (ZcX p1 (Int.toNat (0:Int)))]) m [] R_1/\Zap Shape.str R_1/\∀(s:ByteArray)(m':Mem),m.le m'->R_1 (string s) m' []->Zaf (0:Int) (ByteArray.size p1)/\∃(R_2:RT),R_2=f 6
 [string s,int u8 (ZcX p1 (Int.toNat (0:Int)))] m'/\CX Tryz.prog 191 (Array.mk [string s,int u8 (ZcX p1 (Int.toNat (0:Int)))]) m' [] R_2/\Zap Shape.str R_2/\∀(s:ByteArray)(m'_1:Mem),m'.le m'_1->
 R_2 (string s) m'_1 []->∀(M:Mem),m.le M->m'.le M->m'_1.le M->∃(m'':Mem),m.le m''/\m''.le M/\R (string s) m'' []) (∃(R_1:RT),True/\CX Tryz.prog 193 (Array.mk [string p1]) m [] R_1/\
 Zap (Shape.tup [Shape.cells,Shape.bool]) R_1/\∀(cs:List Value)(b:Bool)(m':Mem),m.le m'->R_1 (tuple (Array.mk [agg (Array.mk cs),bool b])) m' []->∀(b_1:Nat),chk (Nat.beq (cs.length) 256 &&
 Zdv cs) (br b (∀(m'_1:Mem),m'.le m'_1->m'_1.reads b_1 0 cs->∃(R_2:RT),True/\CX Tryz.prog 195 (Array.mk [string p0,Value.pointer (some (Addr.mk b_1 0 none))]) m'_1 [] R_2/\Zap Shape.str R_2/\∀(s
 : ByteArray) (m':Mem),m'_1.le m'->R_2 (string s) m' []->∃(R_3:RT),True/\CX Tryz.prog 194 (Array.mk [string s,Value.pointer (some (Addr.mk b_1 0 none))]) m' [] R_3/\Zap Shape.str R_3/\∀(s:ByteArray)
 (m'_2:Mem),m'.le m'_2->R_3 (string s) m'_2 []->∃(m'':Mem),m.le m''/\m''.le m'_2/\R (string s) m'' []) (∃(R_2:RT),True/\CX Tryz.prog 197 (Array.mk [string p0,string p1]) m' [] R_2/\Zap
 Shape.str R_2/\∀(s:ByteArray)(m'_1:Mem),m'.le m'_1->R_2 (string s) m'_1 []->∃(R_3:RT),True/\CX Tryz.prog 196 (Array.mk [string s,string p1]) m'_1 [] R_3/\Zap Shape.str R_3/\∀(s:ByteArray) (m':
 Mem),m'_1.le m'->R_3 (string s) m' []->∃(m'':Mem),m.le m''/\m''.le m'/\R (string s) m'' []))))):CX Tryz.prog 176 #[.string p0,.string p1] m [] R:=
 Zad (E:=ZiL) Zak mix Tryz.func176 [.v (.string p0),.v (.string p1)] [] (by kernel_rfl) (Eq.mp (by kernel_rfl) h)
noncomputable def ZkC:Env:=EB
theorem ZiM(p0:ByteArray)(m:Mem)(R:RT)(h:
 br (ByteArray.toList p0 == ByteArray.toList bE0) (∃(m'':Mem),m.le m''/\m''.le m/\R (bool false) m'' []) (br (decide ((↑(ByteArray.size p0):Int) > (16:Int))) (∃(m'':Mem),
 m.le m''/\m''.le m/\R (bool false) m'' []) (Zaf (0:Int) (ByteArray.size p0)/\br (decide (ZcX p0 (Int.toNat (0:Int)) < (97:Int))) (∃(m'':Mem),m.le m''/\m''.le m/\R (bool false) m''
 []) (Zaf (0:Int) (ByteArray.size p0)/\br (decide (ZcX p0 (Int.toNat (0:Int)) > (122:Int))) (∃(m'':Mem),m.le m''/\m''.le m/\R (bool false) m'' []) (∀(b:Nat),m.free b->∃(R_1:RT),
 True/\CX Tryz.prog 175 (Array.mk [slice (some (Addr.mk b 0 none)) 3 3,string p0]) (m.add b [string (ByteArray.mk (Array.mk [109,105,110])),string (ByteArray.mk (Array.mk [109,97,120])),string (ByteArray.mk (Array.mk [110,117,109]))]) [] R_1/\Zap Shape.bool R_1/\∀(b_1:Bool)(m':Mem),Mem.le (m.add b [string
 (ByteArray.mk (Array.mk [109,105,110])),string (ByteArray.mk (Array.mk [109,97,120])),string (ByteArray.mk (Array.mk [110,117,109]))]) m'->R_1 (bool b_1) m' []->br b_1 (∃(m'':Mem),m.le m''/\m''.le m'/\R (bool false) m'' []) (∃(R_2:RT),True/\CX Tryz.prog 176 (Array.mk [string p0,string (ByteArray.mk (Array.mk [97,98,99,100,101,102,103,104,105,106,107,108,109,110,111,
 112,113,114,115,116,117,118,119,120,121,122,48,49,50,51,52,53,54,55,56,57,95]))]) m' [] R_2/\Zap Shape.str R_2/\∀(s:ByteArray)(m'_1:Mem),m'.le m'_1->R_2 (string s) m'_1 []->∃
 (m'':Mem),m.le m''/\m''.le m'_1/\R (bool (ByteArray.toList s == ByteArray.toList bE0)) m'' [])))))):CX Tryz.prog 146 #[.string p0] m [] R:=
 Zad (E:=ZkC) Zak mix Tryz.func146 [.v (.string p0)] [] (by kernel_rfl) (Eq.mp (by kernel_rfl) h)
noncomputable def ZoL:Env:={ EB with
 joins:=(λi=>bif Nat.beq i 3 then some [(6,.bool)]else none) }
theorem ZmO(p0:Int)(m:Mem)(R:RT)(h:
 br (p0 == (1:Int)) (∃(m'':Mem),m.le m''/\m''.le m/\R (int i64 1) m'' []) (∃(b:Bool),br (decide (p0 ≥ (2:Int))) ([bool (decide (p0<=(7:Int)))]=[bool b]) ([bool false]=[bool b])/\br b (∃(m''
 : Mem),m.le m''/\m''.le m/\R (int i64 2) m'' []) (∃(m'':Mem),m.le m''/\m''.le m/\R (int i64 0) m'' []))):CX Tryz.prog 97 #[.int .u8 p0] m [] R:=
 Zad (E:=ZoL) Zak mix Tryz.func97 [.v (.int .u8 p0)] [] (by kernel_rfl) (Eq.mp (by kernel_rfl) h)
noncomputable def ZmP:Env:={ EB with
 joins:=(λi=>bif Nat.beq i 8 then some [(5,.bool)]else bif Nat.beq i 11 then some [(6,.bool)]else none)
 dr:=(λi=>bif Nat.beq i 1 then[⟨0,[1],[],none,[],[]⟩,⟨1,[1],[],none,[0],[]⟩,⟨2,[],[],none,[0,1],[]⟩,⟨3,[1],[],none,[],[]⟩,⟨4,[1],[],none,[3],[]⟩,⟨5,[],[],none,[3,4],[]⟩,⟨6,[1],[],none,[],[]⟩,⟨7,[1],[],none,[6],[]⟩,⟨8,[],[],none,[6,7],[]⟩,⟨9,[],[],none,[0,1,2,3,4,5],[]⟩,⟨10,[],[],none,[0,1,2,3,4,5,9],[]⟩,⟨11,[],[],none,[0,1,2,3,4,5,6,7,8,9,10],[]⟩]else bif Nat.beq i 12 then[⟨0,[1],[],none,[],[]⟩,⟨1,[1],[],none,[0],[]⟩,⟨2,[],[],none,[0,1],[]⟩,⟨3,[],[],none,[0,1,2],[]⟩,⟨4,[],[],none,[0,1,2,3],[]⟩,⟨5,[],[],none,[0,1,2,3,4],[]⟩,⟨6,[],[],none,[0,1,2,3,4,5],[]⟩,⟨7,[],[],none,[0,1,2,3,4,5,6],[]⟩,⟨8,[],[],none,[0,1,2,3,4,5,6,7],[]⟩,⟨9,[],[],none,[0,1,2,3,4,5,6,7,8],[]⟩,⟨10,[],[],none,[0,1,2,3,4,5,6,7,8,9],[]⟩,⟨11,[],[],none,[0,1,2,3,4,5,6,7,8,9,10],[]⟩,⟨12,[],[],none,rg 0 12,[]⟩,⟨13,[1],[],none,rg 0 13,[]⟩,⟨14,[1],[],none,rg 0 14,[]⟩,⟨15,[],[],none,rg 0 15,[]⟩,⟨16,[1],[],none,rg 0 13,[]⟩,⟨17,[1],[],none,rg 0 13++[16],[]⟩,⟨18,[],[],none,rg 0 13++[16,17],[]⟩,⟨19,[],[],none,rg 0 19,[]⟩,⟨20,[],[],none,rg 0 20,[]⟩,⟨21,[],[],none,rg 0 21,[]⟩,⟨22,[],[],none,rg 0 22,[]⟩,⟨23,[],[],none,rg 0 23,[]⟩,⟨24,[],[],none,rg 0 24,[]⟩,⟨25,[],[],none,rg 0 25,[]⟩]else[])
 frzNew:=[1]
 gb:=true }
theorem ZkD(aA:Int)(aB:Value)(aC:ByteArray)(aD:Int)(aT:Option Addr)(aS aU:Nat)(m:Mem)(R:RT)(h:
 ∀(b:Nat)(m':Mem),m.le m'->m'.reads b 0 [int u8 aA,aB,string aC,int i64 aD,slice aT aS aU]->∃(f:Fx),∃(R_1:RT),R_1=f 5 [aB,Value.float .f64 0] m'/\CX Tryz.prog
 90 (Array.mk [aB,Value.float .f64 0]) m' [] R_1/\Zap Shape.bool R_1/\∀(af:Bool)(ag:Mem),m'.le ag->R_1 (bool af) ag []->∀(M:Mem),m'.le M->ag.le M->br (aA == (8:Int)) (∃(R_2
 : RT),True/\CX Tryz.prog 177 (Array.mk [aB]) M [] R_2/\Zap Shape.bool R_2/\∀(ac:Bool)(m':Mem),M.le m'->R_2 (bool ac) m' []->∃(ab:Bool),br (aA == (1:Int)) (br ((↑aS:Int) == (1:Int)) (∃
 (ae:Nat),∃(o:Nat),aT=some (Addr.mk ae o none)/\Zaf (0:Int) aS/\∃(v:Value),m' ae (o+0+0)=some v/\chk (ZaP u8 v&&decide (u8=u8)) ([some (Box.mk b [int u8 aA,aB,string aC,
 int i64 aD,slice aT aS aU] 133 5 true true)]=[some (Box.mk b [int u8 aA,aB,string aC,int i64 aD,slice aT aS aU] 133 5 true true)]/\[bool (intOf v == (8:Int))]=[bool ab]))
 ([some (Box.mk b [int u8 aA,aB,string aC,int i64 aD,slice aT aS aU] 133 5 true true)]=[some (Box.mk b [int u8 aA,aB,string aC,int i64 aD,slice aT aS aU] 133 5 true true)]/\
 [bool false]=[bool ab])) ([some (Box.mk b [int u8 aA,aB,string aC,int i64 aD,slice aT aS aU] 133 5 true true)]=[some (Box.mk b [int u8 aA,aB,string aC,int i64 aD,slice aT aS
 aU] 133 5 true true)]/\[bool false]=[bool ab])/\∃(f:Fx),br (decide (aA<=(10:Int))) (br (ByteArray.toList aC == ByteArray.toList bE0) (br ac (br (aD == (0:Int)) (∃(R_3:
 RT),R_3=f 18 [int u8 aA] m'/\CX Tryz.prog 97 (Array.mk [int u8 aA]) m' [] R_3/\Zap (Shape.int i64) R_3/\∀(n:Int)(ad:Mem),m'.le ad->R_3 (int i64 n) ad []->br ((↑aS:Int) == n) (∀(M:Mem),
 m'.le M->ad.le M->∃(m'':Mem),m.le m''/\m''.le M/\R (bool !ab) m'' []) (∀(M:Mem),m'.le M->ad.le M->∃(m'':Mem),m.le m''/\m''.le M/\R (bool false) m'' [])) (∀(M:Mem),
 m'.le M->m'.le M->∃(m'':Mem),m.le m''/\m''.le M/\R (bool false) m'' [])) (∀(M:Mem),m'.le M->m'.le M->∃(m'':Mem),m.le m''/\m''.le M/\R (bool false) m'' [])) (∀(M:
 Mem),m'.le M->m'.le M->∃(m'':Mem),m.le m''/\m''.le M/\R (bool false) m'' [])) (∀(M:Mem),m'.le M->m'.le M->∃(m'':Mem),m.le m''/\m''.le M/\R (bool false) m'' [])) (br
 (aA == (9:Int)) (∃(R_2:RT),True/\CX Tryz.prog 146 (Array.mk [string aC]) M [] R_2/\Zap Shape.bool R_2/\∀(ac:Bool)(m':Mem),M.le m'->R_2 (bool ac) m' []->∃(ab:Bool),br (aA == (1:Int))
 (br ((↑aS:Int) == (1:Int)) (∃(ae:Nat),∃(o:Nat),aT=some (Addr.mk ae o none)/\Zaf (0:Int) aS/\∃(v:Value),m' ae (o+0+0)=some v/\chk (ZaP u8 v&&decide (u8=u8)) ([some (Box.mk
 b [int u8 aA,aB,string aC,int i64 aD,slice aT aS aU] 133 5 true true)]=[some (Box.mk b [int u8 aA,aB,string aC,int i64 aD,slice aT aS aU] 133 5 true true)]/\[bool
 (intOf v == (8:Int))]=[bool ab])) ([some (Box.mk b [int u8 aA,aB,string aC,int i64 aD,slice aT aS aU] 133 5 true true)]=[some (Box.mk b [int u8 aA,aB,string aC,int i64 aD,
 slice aT aS aU] 133 5 true true)]/\[bool false]=[bool ab])) ([some (Box.mk b [int u8 aA,aB,string aC,int i64 aD,slice aT aS aU] 133 5 true true)]=[some (Box.mk b [int u8 aA,aB,
 string aC,int i64 aD,slice aT aS aU] 133 5 true true)]/\[bool false]=[bool ab])/\∃(f:Fx),br (decide (aA<=(10:Int))) (br ac (br af (br (aD == (0:Int)) (∃(R_3:RT),R_3=f 18 [int u8
 aA] m'/\CX Tryz.prog 97 (Array.mk [int u8 aA]) m' [] R_3/\Zap (Shape.int i64) R_3/\∀(n:Int)(ad:Mem),m'.le ad->R_3 (int i64 n) ad []->br ((↑aS:Int) == n) (∀(M:Mem),m'.le M->ad.le M
 -> ∃(m'':Mem),m.le m''/\m''.le M/\R (bool !ab) m'' []) (∀(M:Mem),m'.le M->ad.le M->∃(m'':Mem),m.le m''/\m''.le M/\R (bool false) m'' [])) (∀(M:Mem),m'.le M->m'.le M
 -> ∃(m'':Mem),m.le m''/\m''.le M/\R (bool false) m'' [])) (∀(M:Mem),m'.le M->m'.le M->∃(m'':Mem),m.le m''/\m''.le M/\R (bool false) m'' [])) (∀(M:Mem),m'.le M->m'.le M->∃(m'':Mem),m.le m''/\m''.le M/\R (bool false) m'' [])) (∀(M:Mem),m'.le M->m'.le M->∃(m'':Mem),m.le m''/\m''.le M/\R (bool false) m'' [])) (br (aA == (10:Int)) (∃(ac:
 Bool),br (decide (aD ≥ (0:Int))) ([some (Box.mk b [int u8 aA,aB,string aC,int i64 aD,slice aT aS aU] 133 5 true true)]=[some (Box.mk b [int u8 aA,aB,string aC,int i64 aD,slice
 aT aS aU] 133 5 true true)]/\[bool (decide (aD<=(9:Int)))]=[bool ac]) ([some (Box.mk b [int u8 aA,aB,string aC,int i64 aD,slice aT aS aU] 133 5 true true)]=[some (Box.mk b [int u8
 aA,aB,string aC,int i64 aD,slice aT aS aU] 133 5 true true)]/\[bool false]=[bool ac])/\∃(ab:Bool),br (aA == (1:Int)) (br ((↑aS:Int) == (1:Int)) (∃(ae:Nat),∃(o:Nat),aT =
 some (Addr.mk ae o none)/\Zaf (0:Int) aS/\∃(v:Value),M ae (o+0+0)=some v/\chk (ZaP u8 v&&decide (u8=u8)) ([some (Box.mk b [int u8 aA,aB,string aC,int i64 aD,slice aT aS
 aU] 133 5 true true)]=[some (Box.mk b [int u8 aA,aB,string aC,int i64 aD,slice aT aS aU] 133 5 true true)]/\[bool (intOf v == (8:Int))]=[bool ab])) ([some (Box.mk b [int u8 aA,
 aB,string aC,int i64 aD,slice aT aS aU] 133 5 true true)]=[some (Box.mk b [int u8 aA,aB,string aC,int i64 aD,slice aT aS aU] 133 5 true true)]/\[bool false]=[bool ab])) ([some
 (Box.mk b [int u8 aA,aB,string aC,int i64 aD,slice aT aS aU] 133 5 true true)]=[some (Box.mk b [int u8 aA,aB,string aC,int i64 aD,slice aT aS aU] 133 5 true true)]/\[bool
 false]=[bool ab])/\∃(f:Fx),br (decide (aA<=(10:Int))) (br (ByteArray.toList aC == ByteArray.toList bE0) (br af (br ac (∃(R_2:RT),R_2=f 18 [int u8 aA] M/\CX Tryz.prog 97
 (Array.mk [int u8 aA]) M [] R_2/\Zap (Shape.int i64) R_2/\∀(n:Int)(m':Mem),M.le m'->R_2 (int i64 n) m' []->br ((↑aS:Int) == n) (∀(aa:Mem),M.le aa->m'.le aa->∃(m'':Mem),m.le m''/\m''.le aa/\R (bool !ab) m'' []) (∀(aa:Mem),M.le aa->m'.le aa->∃(m'':Mem),m.le m''/\m''.le aa/\R (bool false) m'' [])) (∀(aa:Mem),M.le aa->M.le aa->∃(m'':Mem),
 m.le m''/\m''.le aa/\R (bool false) m'' [])) (∀(aa:Mem),M.le aa->M.le aa->∃(m'':Mem),m.le m''/\m''.le aa/\R (bool false) m'' [])) (∀(aa:Mem),M.le aa->M.le aa->∃(m'':
 Mem),m.le m''/\m''.le aa/\R (bool false) m'' [])) (∀(aa:Mem),M.le aa->M.le aa->∃(m'':Mem),m.le m''/\m''.le aa/\R (bool false) m'' [])) (br (aA == (0:Int)) (∃(m'':Mem),
 m.le m''/\m''.le M/\R (bool false) m'' []) (∃(ac:Bool),br (aA == (1:Int)) (br ((↑aS:Int) == (1:Int)) (∃(ab:Nat),∃(o:Nat),aT=some (Addr.mk ab o none)/\Zaf (0:Int) aS/\∃(v
 : Value),M ab (o+0+0)=some v/\chk (ZaP u8 v&&decide (u8=u8)) ([some (Box.mk b [int u8 aA,aB,string aC,int i64 aD,slice aT aS aU] 133 5 true true)]=[some (Box.mk b [int u8 aA,aB,
 string aC,int i64 aD,slice aT aS aU] 133 5 true true)]/\[bool (intOf v == (8:Int))]=[bool ac])) ([some (Box.mk b [int u8 aA,aB,string aC,int i64 aD,slice aT aS aU] 133 5
 true true)]=[some (Box.mk b [int u8 aA,aB,string aC,int i64 aD,slice aT aS aU] 133 5 true true)]/\[bool false]=[bool ac])) ([some (Box.mk b [int u8 aA,aB,string aC,int i64 aD,slice
 aT aS aU] 133 5 true true)]=[some (Box.mk b [int u8 aA,aB,string aC,int i64 aD,slice aT aS aU] 133 5 true true)]/\[bool false]=[bool ac])/\∃(f:Fx),br (decide (aA<=(10:Int)))
 (br (ByteArray.toList aC == ByteArray.toList bE0) (br af (br (aD == (0:Int)) (∃(R_2:RT),R_2=f 18 [int u8 aA] M/\CX Tryz.prog 97 (Array.mk [int u8 aA]) M [] R_2/\Zap (Shape.int
 i64) R_2/\∀(n:Int)(m':Mem),M.le m'->R_2 (int i64 n) m' []->br ((↑aS:Int) == n) (∀(aa:Mem),M.le aa->m'.le aa->∃(m'':Mem),m.le m''/\m''.le aa/\R (bool !ac) m'' []) (∀(aa:
 Mem),M.le aa->m'.le aa->∃(m'':Mem),m.le m''/\m''.le aa/\R (bool false) m'' [])) (∀(aa:Mem),M.le aa->M.le aa->∃(m'':Mem),m.le m''/\m''.le aa/\R (bool false) m'' []))
 (∀(aa:Mem),M.le aa->M.le aa->∃(m'':Mem),m.le m''/\m''.le aa/\R (bool false) m'' [])) (∀(aa:Mem),M.le aa->M.le aa->∃(m'':Mem),m.le m''/\m''.le aa/\R (bool false)
 m'' [])) (∀(aa:Mem),M.le aa->M.le aa->∃(m'':Mem),m.le m''/\m''.le aa/\R (bool false) m'' [])))))):CX Tryz.prog 184 #[.agg #[.int .u8 aA,aB,.string aC,.int .i64 aD,.slice aT aS aU]] m [] R:=
 Zad (E:=ZmP) Zak mix Tryz.func184 [.v (.agg #[.int .u8 aA,aB,.string aC,.int .i64 aD,.slice aT aS aU])] [] (by kernel_rfl) (Eq.mp (by kernel_rfl) h)
noncomputable def ZmQ:Env:={ EB with
 loops:=(λi=>bif Nat.beq i 5 then⟨[(9,.agg [.int .u8,.any,.str,.int .i64,.slice])],[2],[],false⟩ else⟨[],[],[],false⟩)
 frzNew:=[1] }
theorem ZkE(aA:Int)(aB:Value)(aC:ByteArray)(aD:Int)(aT:Option Addr)(aS aU:Nat)(m:Mem)(R:RT)(h:
 ∀(b:Nat)(m':Mem),m.le m'->m'.reads b 0 [int u8 aA,aB,string aC,int i64 aD,slice aT aS aU]->∀(b_1:Nat),∃(R_1:RT),True/\CX Tryz.prog 95 (Array.mk [agg (Array.mk [int u8 aA,
 aB,string aC,int i64 aD,slice aT aS aU])]) m' [] R_1/\Zap Shape.bool R_1/\∀(b_2:Bool)(m'_1:Mem),m'.le m'_1->R_1 (bool b_2) m'_1 []->br (!b_2) (∃(m'':Mem),m.le m''/\m''.le m'_1/\R (bool false) m'' []) (∃(R_2:RT),True/\CX Tryz.prog 96 (Array.mk [agg (Array.mk [int u8 aA,aB,string aC,int i64 aD,slice aT aS aU])]) m'_1 [] R_2/\Zap Shape.fn R_2/\∀(g:Nat) (fi
 ca:List Value) (m':Mem),m'_1.le m'->R_2 (func (Fn.func g) (Array.mk fi) (Array.mk ca)) m' []->∃(xs:List (List Value)),IX Tryz.prog g fi ca m' xs/\(∀(x:List Value),x∈xs->Shape.fitsL [Shape.agg
 [Shape.int u8,Shape.any,Shape.str,Shape.int i64,Shape.slice]] x=true)/\∃(I:IT),I [] [[bool false]] [] m' 0/\(∀(n:Int)(v:Value)(s:ByteArray)(n_1:Int)(a:Option Addr)(n_2 c:Nat) (cs:List
 Value) (m'_2:Mem) (n_3:Nat),m'.le m'_2->List.get?Internal xs n_3=some [agg (Array.mk [int u8 n,v,string s,int i64 n_1,slice a n_2 c])]->I [] [cs] [] m'_2 n_3->∀(b_3:Nat),chk (v.oneCell' &&
 true) (∃(R_3:RT),True/\CX Tryz.prog 184 (Array.mk [agg (Array.mk [int u8 n,v,string s,int i64 n_1,slice a n_2 c])]) m'_2 [] R_3/\Zap Shape.bool R_3/\∀(b_4:Bool)(m':Mem),m'_2.le m'->R_3 (bool b_4)
 m' []->br (!b_4) ([some (Box.mk b_1 [] 4 1 false true),some (Box.mk b [int u8 aA,aB,string aC,int i64 aD,slice aT aS aU] 133 5 true true)]=[some (Box.mk b_1 [] 4 1 false true),some (Box.mk b
 [int u8 aA,aB,string aC,int i64 aD,slice aT aS aU] 133 5 true true)]/\∃(m'':Mem),m.le m''/\m''.le m'/\R (bool false) m'' []) ([some (Box.mk b_1 [] 4 1 false true),some (Box.mk b [int
 u8 aA,aB,string aC,int i64 aD,slice aT aS aU] 133 5 true true)]=[some (Box.mk b_1 [] 4 1 false true),some (Box.mk b [int u8 aA,aB,string aC,int i64 aD,slice aT aS aU] 133 5
 true true)]/\I [] [cs] [] m' (n_3+1))))/\∀(cs:List Value)(m'_2:Mem),m'.le m'_2->I [] [cs] [] m'_2 (xs.length)->∃(m'':Mem),m.le m''/\m''.le m'_2/\R (bool true) m'' [])):CX Tryz.prog 163 #[.agg #[.int .u8 aA,aB,.string aC,.int .i64 aD,.slice aT aS aU]] m [] R:=
 Zad (E:=ZmQ) Zak mix Tryz.func163 [.v (.agg #[.int .u8 aA,aB,.string aC,.int .i64 aD,.slice aT aS aU])] [] (by kernel_rfl) (Eq.mp (by kernel_rfl) h)
noncomputable def ZaC:Env:={ EB with
 loops:=(λi=>bif Nat.beq i 4 then⟨[(17,.int .i64)],[],[],false⟩ else⟨[],[],[],false⟩) }
theorem ZaA(p0a:Option Addr)(p0n p0c:Nat)(p1a:Option Addr)(p1n p1c p2g:Nat)(p2fi p2ca:List Value)(m:Mem)(R:RT)(h:
 br (!(↑p0n:Int) == (↑p1n:Int)) (∃(m'':Mem),m.le m''/\m''.le m/\R (bool false) m'' []) (∃(I:IT),(∃(n:Nat),I [int i64 0] [] [] m n)/\∀(n:Int)(m':Mem)(n_1:Nat),m.le m'->I [int i64
 n] [] [] m' n_1->br (decide (n < (↑p0n:Int))) (∃(b:Nat),∃(o:Nat),p0a=some (Addr.mk b o none)/\Zaf n p0n/\∃v v_1 v_2 v_3 v_4:Value,m'.reads  b (o+Int.toNat n*5) [v,v_1,v_2,v_3,v_4]/\∀(b:Nat),chk (v.oneCell'&&(v_1.oneCell'&&(v_2.oneCell'&&(v_3.oneCell'&&(v_4.oneCell'&&true))))) (∃(b:Nat),∃(o:Nat),
 p1a=some (Addr.mk b o none)/\Zaf n p1n/\∃v_5 v_6 v_7 v_8 v_9:Value,m'.reads b (o+Int.toNat n*5) [v_5,v_6,v_7,v_8,v_9]/\∀(b:Nat),chk
 (v_5.oneCell'&&(v_6.oneCell'&&(v_7.oneCell'&&(v_8.oneCell'&&(v_9.oneCell'&&true))))) (∃(R_1:RT),True/\CX Tryz.prog p2g (Array.mk (List.append (List.append p2fi [agg (Array.mk
 [v,v_1,v_2,v_3,v_4]),agg (Array.mk [v_5,v_6,v_7,v_8,v_9])]) p2ca)) m' [] R_1/\Zap Shape.bool R_1/\∀(b:Bool)(m'_1:Mem),m'.le m'_1->R_1 (bool b) m'_1 []->br (!b) (∃(m'':Mem),m.le m''/\
 m''.le m'_1/\R (bool false) m'' []) (∃(n':Nat),n' < n_1/\I [int i64 (i64.wrap (n+(1:Int)))] [] [] m'_1 n')))) (∃(m'':Mem),m.le m''/\m''.le m'/\R (bool true) m'' []))):CX Tryz.prog 143 #[.slice p0a p0n p0c,.slice p1a p1n p1c,.func (.func p2g) p2fi.toArray p2ca.toArray] m [] R:=
 Zad (E:=ZaC) Zak mix Tryz.func143 [.v (.slice p0a p0n p0c),.v (.slice p1a p1n p1c),.v (.func (.func p2g) p2fi.toArray p2ca.toArray)] [] (by kernel_rfl) (Eq.mp (by kernel_rfl) h)
noncomputable def ZoM:Env:={ EB with
 joins:=(λi=>bif Nat.beq i 1 then some [(4,.bool)]else none)
 frzNew:=[2,3] }
theorem ZmR(aA:Int)(aB:Value)(aC:ByteArray)(aD:Int)(aT:Option Addr)(aS aU:Nat)(aW:Int)(aX:Value)(aY:ByteArray)(aZ:Int)(bD:Option Addr)(bC bE:Nat)(m:Mem)(R:RT)(h:
 ∀(b:Nat)(m':Mem),m.le m'->m'.reads b 0 [int u8 aA,aB,string aC,int i64 aD,slice aT aS aU]->∀(aa:Nat)(ac:Mem),m'.le ac->ac.reads aa 0 [int u8 aW,aX,string aY,
 int i64 aZ,slice bD bC bE]->∃(ab:Bool),br (aA == aW) (∃(R:RT),True/\CX Tryz.prog 90 (Array.mk [aB,aX]) ac [] R/\Zap Shape.bool R/\∀(ad:Bool)(m':Mem),ac.le m'->R (bool ad) m'
 []->br ad (br (ByteArray.toList aC == ByteArray.toList aY) (br (aD == aZ) (∃(R:RT),True/\CX Tryz.prog 143 (Array.mk [slice aT aS aU,slice bD bC bE,func (Fn.func 135) (Array.mk [])
 (Array.mk [])]) m' [] R/\Zap Shape.bool R/\∀(ae:Bool)(af:Mem),m'.le af->R (bool ae) af []->[some (Box.mk aa [int u8 aW,aX,string aY,int i64 aZ,slice bD bC bE] 133 5 true true),some
 (Box.mk b [int u8 aA,aB,string aC,int i64 aD,slice aT aS aU] 133 5 true true)]=[some (Box.mk aa [int u8 aW,aX,string aY,int i64 aZ,slice bD bC bE] 133 5 true true),some
 (Box.mk b [int u8 aA,aB,string aC,int i64 aD,slice aT aS aU] 133 5 true true)]/\[bool ae]=[bool ab]) ([some (Box.mk aa [int u8 aW,aX,string aY,int i64 aZ,slice bD bC bE] 133
 5 true true),some (Box.mk b [int u8 aA,aB,string aC,int i64 aD,slice aT aS aU] 133 5 true true)]=[some (Box.mk aa [int u8 aW,aX,string aY,int i64 aZ,slice bD bC bE] 133 5
 true true),some (Box.mk b [int u8 aA,aB,string aC,int i64 aD,slice aT aS aU] 133 5 true true)]/\[bool false]=[bool ab])) ([some (Box.mk aa [int u8 aW,aX,string aY,int i64 aZ,slice
 bD bC bE] 133 5 true true),some (Box.mk b [int u8 aA,aB,string aC,int i64 aD,slice aT aS aU] 133 5 true true)]=[some (Box.mk aa [int u8 aW,aX,string aY,int i64 aZ,slice bD
 bC bE] 133 5 true true),some (Box.mk b [int u8 aA,aB,string aC,int i64 aD,slice aT aS aU] 133 5 true true)]/\[bool false]=[bool ab])) ([some (Box.mk aa [int u8 aW,aX,string aY,int
 i64 aZ,slice bD bC bE] 133 5 true true),some (Box.mk b [int u8 aA,aB,string aC,int i64 aD,slice aT aS aU] 133 5 true true)]=[some (Box.mk aa [int u8 aW,aX,string aY,int i64
 aZ,slice bD bC bE] 133 5 true true),some (Box.mk b [int u8 aA,aB,string aC,int i64 aD,slice aT aS aU] 133 5 true true)]/\[bool false]=[bool ab])) ([some (Box.mk aa [int u8 aW,
 aX,string aY,int i64 aZ,slice bD bC bE] 133 5 true true),some (Box.mk b [int u8 aA,aB,string aC,int i64 aD,slice aT aS aU] 133 5 true true)]=[some (Box.mk aa [int u8 aW,aX,
 string aY,int i64 aZ,slice bD bC bE] 133 5 true true),some (Box.mk b [int u8 aA,aB,string aC,int i64 aD,slice aT aS aU] 133 5 true true)]/\[bool false]=[bool ab])/\∃(m'':Mem),
 m.le m''/\m''.le ac/\R (bool ab) m'' []):CX Tryz.prog 135 #[.agg #[.int .u8 aA,aB,.string aC,.int .i64 aD,.slice aT aS aU],.agg #[.int .u8 aW,aX,.string aY,.int .i64 aZ,.slice bD bC bE]] m [] R:=
 Zad (E:=ZoM) Zak mix Tryz.func135 [.v (.agg #[.int .u8 aA,aB,.string aC,.int .i64 aD,.slice aT aS aU]),.v (.agg #[.int .u8 aW,aX,.string aY,.int .i64 aZ,.slice bD bC bE])] [] (by kernel_rfl) (Eq.mp (by kernel_rfl) h)
noncomputable def ZoN:Env:={ EB with
 joins:=(λi=>bif Nat.beq i 1 then some [(4,.bool)]else none)
 frzNew:=[2,3] }
theorem ZmS(aA:Int)(aB:Value)(aC:ByteArray)(aD:Int)(aT:Option Addr)(aS aU:Nat)(aW:Int)(aX:Value)(aY:ByteArray)(aZ:Int)(bD:Option Addr)(bC bE:Nat)(m:Mem)(R:RT)(h:
 ∀(b:Nat)(m':Mem),m.le m'->m'.reads b 0 [int u8 aA,aB,string aC,int i64 aD,slice aT aS aU]->∀(b_1:Nat)(m'_1:Mem),m'.le m'_1->m'_1.reads b_1 0 [int u8 aW,aX,
 string aY,int i64 aZ,slice bD bC bE]->∃(b_2:Bool),(∃(R:RT),True/\CX Tryz.prog 95 (Array.mk [agg (Array.mk [int u8 aA,aB,string aC,int i64 aD,slice aT aS aU])]) m'_1 [] R/\
 Zap Shape.bool R/\∀(b_3:Bool)(m':Mem),m'_1.le m'->R (bool b_3) m' []->br b_3 (∃(R:RT),True/\CX Tryz.prog 95 (Array.mk [agg (Array.mk [int u8 aW,aX,string aY,int i64 aZ,slice bD bC
 bE])]) m' [] R/\Zap Shape.bool R/\∀(b_4:Bool)(m'_2:Mem),m'.le m'_2->R (bool b_4) m'_2 []->br b_4 (∃(R:RT),True/\CX Tryz.prog 135 (Array.mk [agg (Array.mk [int u8 aA,aB,string aC,int i64
 aD,slice aT aS aU]),agg (Array.mk [int u8 aW,aX,string aY,int i64 aZ,slice bD bC bE])]) m'_2 [] R/\Zap Shape.bool R/\∀(b_5:Bool)(m':Mem),m'_2.le m'->R (bool b_5) m' []->
 [some (Box.mk b_1 [int u8 aW,aX,string aY,int i64 aZ,slice bD bC bE] 133 5 true true),some (Box.mk b [int u8 aA,aB,string aC,int i64 aD,slice aT aS aU] 133 5 true true)] =
 [some (Box.mk b_1 [int u8 aW,aX,string aY,int i64 aZ,slice bD bC bE] 133 5 true true),some (Box.mk b [int u8 aA,aB,string aC,int i64 aD,slice aT aS aU] 133 5 true true)]/\
 [bool b_5]=[bool b_2]) ([some (Box.mk b_1 [int u8 aW,aX,string aY,int i64 aZ,slice bD bC bE] 133 5 true true),some (Box.mk b [int u8 aA,aB,string aC,int i64 aD,slice aT aS
 aU] 133 5 true true)]=[some (Box.mk b_1 [int u8 aW,aX,string aY,int i64 aZ,slice bD bC bE] 133 5 true true),some (Box.mk b [int u8 aA,aB,string aC,int i64 aD,slice aT aS
 aU] 133 5 true true)]/\[bool false]=[bool b_2])) ([some (Box.mk b_1 [int u8 aW,aX,string aY,int i64 aZ,slice bD bC bE] 133 5 true true),some (Box.mk b [int u8 aA,aB,string aC,int i64
 aD,slice aT aS aU] 133 5 true true)]=[some (Box.mk b_1 [int u8 aW,aX,string aY,int i64 aZ,slice bD bC bE] 133 5 true true),some (Box.mk b [int u8 aA,aB,string aC,int i64
 aD,slice aT aS aU] 133 5 true true)]/\[bool false]=[bool b_2]))/\∃(m'':Mem),m.le m''/\m''.le m'_1/\R (bool b_2) m'' []):CX Tryz.prog 115 #[.agg #[.int .u8 aA,aB,.string aC,.int .i64 aD,.slice aT aS aU],.agg #[.int .u8 aW,aX,.string aY,.int .i64 aZ,.slice bD bC bE]] m [] R:=
 Zad (E:=ZoN) Zak mix Tryz.func115 [.v (.agg #[.int .u8 aA,aB,.string aC,.int .i64 aD,.slice aT aS aU]),.v (.agg #[.int .u8 aW,aX,.string aY,.int .i64 aZ,.slice bD bC bE])] [] (by kernel_rfl) (Eq.mp (by kernel_rfl) h)
noncomputable def ZoO:Env:={ EB with
 frzNew:=[1] }
theorem ZmT(aA:Int)(aB:Value)(aC:ByteArray)(aD:Int)(aT:Option Addr)(aS aU:Nat)(m:Mem)(R:RT)(h:
 ∀(b:Nat)(m':Mem),m.le m'->m'.reads b 0 [int u8 aA,aB,string aC,int i64 aD,slice aT aS aU]->∃(R_1:RT),True/\CX Tryz.prog 95 (Array.mk [agg (Array.mk [int u8 aA,aB,string
 aC,int i64 aD,slice aT aS aU])]) m' [] R_1/\Zap Shape.bool R_1/\∀(b:Bool)(m'_1:Mem),m'.le m'_1->R_1 (bool b) m'_1 []->br (!b) (∃(m'':Mem),m.le m''/\m''.le m'_1/\R (slice none
 0 0) m'' []) (∃(R_2:RT),True/\CX Tryz.prog 201 (Array.mk [slice none 0 0,agg (Array.mk [int u8 aA,aB,string aC,int i64 aD,slice aT aS aU])]) m'_1 [] R_2/\Zap Shape.slice R_2/\∀(a:Option
 Addr) (n c:Nat) (m':Mem),m'_1.le m'->R_2 (slice a n c) m' []->∃(m'':Mem),m.le m''/\m''.le m'/\R (slice a n c) m'' [])):CX Tryz.prog 187 #[.agg #[.int .u8 aA,aB,.string aC,.int .i64 aD,.slice aT aS aU]] m [] R:=
 Zad (E:=ZoO) Zak mix Tryz.func187 [.v (.agg #[.int .u8 aA,aB,.string aC,.int .i64 aD,.slice aT aS aU])] [] (by kernel_rfl) (Eq.mp (by kernel_rfl) h)
noncomputable def ZoP:Env:={ EB with
 loops:=(λi=>bif Nat.beq i 5 then⟨[(9,.agg [.int .u8,.any,.str,.int .i64,.slice])],[3],[],false⟩ else⟨[],[],[],false⟩)
 frzNew:=[1] }
theorem ZmU(aA:Int)(aB:Value)(aC:ByteArray)(aD:Int)(aT:Option Addr)(aS aU:Nat)(m:Mem)(R:RT)(h:
 ∀(b:Nat)(m':Mem),m.le m'->m'.reads b 0 [int u8 aA,aB,string aC,int i64 aD,slice aT aS aU]->∀(b_1:Nat),∃(R_1:RT),True/\CX Tryz.prog 95 (Array.mk [agg (Array.mk [int u8 aA,
 aB,string aC,int i64 aD,slice aT aS aU])]) m' [] R_1/\Zap Shape.bool R_1/\∀(b_2:Bool)(m'_1:Mem),m'.le m'_1->R_1 (bool b_2) m'_1 []->br b_2 (∃(R_2:RT),True/\CX Tryz.prog 96
 (Array.mk [agg (Array.mk [int u8 aA,aB,string aC,int i64 aD,slice aT aS aU])]) m'_1 [] R_2/\Zap Shape.fn R_2/\∀(g:Nat)(fi ca:List Value)(m':Mem),m'_1.le m'->R_2 (func (Fn.func g)
 (Array.mk fi) (Array.mk ca)) m' []->∃(xs:List (List Value)),IX Tryz.prog g fi ca m' xs/\(∀(x:List Value),x∈xs->Shape.fitsL [Shape.agg [Shape.int u8,Shape.any,Shape.str,Shape.int i64,Shape.slice]] x =
 true)/\∃(I:IT),I [] [[int i64 (-1:Int)]] [] m' 0/\(∀(n:Int)(v:Value)(s:ByteArray)(n_1:Int)(a:Option Addr)(n_2 c:Nat)(cs:List Value)(m'_2:Mem)(n_3:Nat),m'.le m'_2->
 List.get?Internal xs n_3=some [agg (Array.mk [int u8 n,v,string s,int i64 n_1,slice a n_2 c])]->I [] [cs] [] m'_2 n_3->∀(b_3:Nat),chk (v.oneCell'&&true) (br (n == (10:Int)) (Eng.Ztt cs 0 λ(v:
 Value)=>chk (ZaP i64 v&&decide (i64=i64)) ([some (Box.mk b_1 [] 3 1 false true),some (Box.mk b [int u8 aA,aB,string aC,int i64 aD,slice aT aS aU] 133 5 true true)]=[some (Box.mk b_1 [] 3
 1 false true),some (Box.mk b [int u8 aA,aB,string aC,int i64 aD,slice aT aS aU] 133 5 true true)]/\I [] [[int i64 (if n_1 > intOf v then n_1 else intOf v)]] [] m'_2 (n_3+1)))
 ([some (Box.mk b_1 [] 3 1 false true),some (Box.mk b [int u8 aA,aB,string aC,int i64 aD,slice aT aS aU] 133 5 true true)]=[some (Box.mk b_1 [] 3 1 false true),some (Box.mk b [int u8 aA,aB,
 string aC,int i64 aD,slice aT aS aU] 133 5 true true)]/\I [] [cs] [] m'_2 (n_3+1))))/\∀(cs:List Value)(m'_2:Mem),m'.le m'_2->I [] [cs] [] m'_2 (xs.length)->Eng.Ztt cs 0 λ(v:
 Value)=>∃(m'':Mem),m.le m''/\m''.le m'_2/\R v m'' []) (∃(m'':Mem),m.le m''/\m''.le m'_1/\R (int i64 (-1:Int)) m'' [])):CX Tryz.prog 169 #[.agg #[.int .u8 aA,aB,.string aC,.int .i64 aD,.slice aT aS aU]] m [] R:=
 Zad (E:=ZoP) Zak mix Tryz.func169 [.v (.agg #[.int .u8 aA,aB,.string aC,.int .i64 aD,.slice aT aS aU])] [] (by kernel_rfl) (Eq.mp (by kernel_rfl) h)
end Go.Proofs.YtojlhhphofhaoaaGreatDoor