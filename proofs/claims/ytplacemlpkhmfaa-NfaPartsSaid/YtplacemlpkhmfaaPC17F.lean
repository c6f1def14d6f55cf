/- Part of the proof: conditions and contracts of functions of this program. No condition of its own. -/
import Derived.Test.YtplacemlpkhmfaaPEnv
import Derived.Test.YtplacemlpkhmfaaMc
import Derived.Test.YtplacemlpkhmfaaMr
import Derived.Test.YtplacemlpkhmfaaPVNB
set_option linter.unusedVariables false
set_option linter.unusedSimpArgs false
set_option linter.unusedSectionVars false
noncomputable section
namespace Go.Proofs.Ytplacemlpkhmfaa
open Go Go.Eng Go.Proofs Go.RowKit
open Go.Value (int slice agg bool string tuple func)
open Go.IntKind (u8 u64 i64)
set_option maxRecDepth 100000
def Zhq:Env:={ EB with
 dr:=swI [] [(0,[⟨0,[100000],[],none,[],[]⟩,dO 1 [],dO 2 [1],⟨3,[100000],[],none,[0],[]⟩,⟨4,[100000],[],none,[0,1,2,3],[]⟩,⟨5,[100000],[],none,[0,1,2,3,4],[]⟩,dO 6 [],dO 7 [6],dO 8 [6,7],dO 9 [0,1,2,3,4,5,6,7,8],⟨10,[100000],[],none,[0],[]⟩,⟨11,[100000],[],none,[0,1,2,3,4,5,6,7,8,9,10],[]⟩,⟨12,[100000],[100000],none,rg 0 12,[]⟩])] }
theorem ZgA(p0b p0o p0T p0cap:Nat)(p0cs:List Value)(p1:Int)(m:Mem)(R:RT)(h:
 (64:Int)≠0/\Zaf (i64.wrap (Int.tdiv p1 (64:Int))) 7/\Eng.Zp3 p0cs (p0o+Int.toNat (i64.wrap (Int.tdiv p1 (64:Int)))*1) λv=>(64:Int)≠0/\(0:Int)<=Int.tmod p1 (64:Int)/\chk (Zbw u64 v&&decide
 (u64=u64)) (Zaf (i64.wrap (Int.tdiv p1 (64:Int))) 7/\bif Nat.beq p0cap 1&&Nat.beq (p0o+Int.toNat (i64.wrap (Int.tdiv p1 (64:Int)))*1) 0 then Box.mk p0b p0cs p0T p0cap false true=Box.mk p0b p0cs p0T p0cap false
 true/\∃m'',m.le m''/\m''.le m/\R (tuple (.mk [])) m'' [[int u64 (u64.wrap (↑(BitVec.toNat (BitVec.ofInt 64 (RowKit.intOf v)|||BitVec.ofInt 64 (u64.wrap ((1:Int)*(2:Int) ^ min (Int.toNat (Int.tmod p1 (64:Int)))
 64)))):Int))]]else chk (Nat.ble (p0o+Int.toNat (i64.wrap (Int.tdiv p1 (64:Int)))*1+1) (p0cs.length)) (Box.mk p0b p0cs p0T p0cap false true=Box.mk p0b p0cs p0T p0cap false true/\∃m'',m.le m''/\m''.le m/\R (tuple
 (.mk [])) m'' [Zaw p0cs (p0o+Int.toNat (i64.wrap (Int.tdiv p1 (64:Int)))*1) [int u64 (u64.wrap (↑(BitVec.toNat (BitVec.ofInt 64 (RowKit.intOf v)|||BitVec.ofInt 64 (u64.wrap ((1:Int)*(2:Int) ^ min (Int.toNat
 (Int.tmod p1 (64:Int))) 64)))):Int))]]))):CX Try.prog 116 #[.pointer (some ⟨p0b,p0o,none⟩),.int .i64 p1] m [⟨p0b,p0cs,p0T,p0cap,false,true⟩] R:=
 Zaj (E:=Zhq) ZaB mix Try.func116 [.loc 100000 p0o,.v (.int .i64 p1)] [⟨p0b,p0cs,p0T,p0cap,false,true⟩] (by kernel_rfl) (Eq.mp (by kernel_rfl) h)
def Zhr:Env:=EB
theorem ZgB(p0b p0o:Nat)(p1:Int)(m:Mem)(R:RT)(h:
 (64:Int)≠0/\Zaf (i64.wrap (Int.tdiv p1 (64:Int))) 7/\∃(v:Value),m p0b (p0o+Int.toNat (i64.wrap (Int.tdiv p1 (64:Int)))*1)=some v/\(64:Int)≠0/\chk (Zbw u64 v&&true) ((0:Int)<=Int.tmod p1 (64:
 Int)/\∃m'',m.le m''/\m''.le m/\R (bool (u64.wrap (↑(BitVec.toNat (BitVec.ofInt 64 (Int.fdiv (RowKit.intOf v) ((2:Int) ^ min (Int.toNat (Int.tmod p1 (64:Int))) 64))&&&BitVec.ofInt 64 (1:Int))):Int) == 1)) m'' [])):CX Try.prog 115 #[.pointer (some ⟨p0b,p0o,none⟩),.int .i64 p1] m [] R:=
 Zaj (E:=Zhr) ZaB mix Try.func115 [.v (.pointer (some ⟨p0b,p0o,none⟩)),.v (.int .i64 p1)] [] (by kernel_rfl) (Eq.mp (by kernel_rfl) h)
def ZiV:Env:={ EB with
 loops:=swI nLa [(2,⟨[(5,.int .i64)],[100000],[],false⟩)]
 dr:=swI [] [(4,[⟨0,[100000],[],none,[],[]⟩,dO 1 [],⟨2,[100000],[],none,[0],[]⟩,⟨3,[100000],[],none,[0,1,2],[]⟩,⟨4,[100000],[],none,[0,1,2,3],[]⟩,dO 5 [],⟨6,[3],[],none,[5],[]⟩,⟨7,[3],[],none,[5,6],[]⟩,dO 8 [0,1,2,3,4,5,6,7],⟨9,[100000],[],none,[0],[]⟩,⟨10,[100000],[],none,[0,1,2,3,4,5,6,7,8,9],[]⟩,⟨11,[100000],[100000],none,[0,1,2,3,4,5,6,7,8,9,10],[]⟩])]
 frzNew:=[3] }
theorem Zhs(p0b p0o p0T p0cap:Nat)(p0cs:List Value)(bS bK bL bM bI aV bJ:Int)(m:Mem)(R:RT)(h:
 lE (Box.mk p0b p0cs p0T p0cap false true) λyL=>lE [some (Box.mk p0b [] p0T p0cap false true)] λxL=>lV [int u64 bS,int u64 bK,int u64 bL,int u64 bM,int u64 bI,int u64 aV,int u64 bJ] λxL_1=>fzM m
 xL_1 λb m'=>∃I,lE (some (Box.mk b xL_1 100 7 true true)::xL) λxL=>inI I [int i64 0] [p0cs] [] m'/\∀(n:Int)(cs:List Value) m'_1 (n_1:Nat),lV [int i64 (i64.wrap (n+1))] λxL_2=>lE (p0o+Int.toNat n *
 1) λyL_1=>m'.le m'_1->I [int i64 n] [cs] [] m'_1 n_1->br (decide (n < 7)) (Zaf n 7/\Eng.Zp3 cs yL_1 λv=>Zaf n 7/\Eng.Zp3 xL_1 (0+Int.toNat n*1) λv_1=>lV [int u64 (u64.wrap (↑(BitVec.toNat
 (BitVec.ofInt 64 (RowKit.intOf v)|||BitVec.ofInt 64 (RowKit.intOf v_1))):Int))] λxL_3=>chk (Zbw u64 v&&Zbw u64 v_1) (Zaf n 7/\bif Nat.beq p0cap 1&&Nat.beq yL_1 0 then Zac xL/\nxI n_1 I xL_2 [xL_3] [] m'_1
 else chk (Nat.ble (yL_1+1) (cs.length)) (Zac xL/\nxI n_1 I xL_2 [Zaw cs yL_1 xL_3] [] m'_1))) (yL=yL/\∃m'',m.le m''/\m''.le m'_1/\R (tuple (.mk [])) m'' [cs])):CX Try.prog 141 #[.pointer (some ⟨p0b,p0o,none⟩),.agg #[.int .u64 bS,.int .u64 bK,.int .u64 bL,.int .u64 bM,.int .u64 bI,.int .u64 aV,.int .u64 bJ]] m [⟨p0b,p0cs,p0T,p0cap,false,true⟩] R:=
 Zaj (E:=ZiV) ZaB mix Try.func141 [.loc 100000 p0o,.v (.agg #[.int .u64 bS,.int .u64 bK,.int .u64 bL,.int .u64 bM,.int .u64 bI,.int .u64 aV,.int .u64 bJ])] [⟨p0b,p0cs,p0T,p0cap,false,true⟩] (by kernel_rfl) (Eq.mp (by kernel_rfl) h)
def ZgC:Env:={ EB with
 loops:=swI nLa [(2,⟨[(5,.int .i64)],[],[],false⟩)]
 dr:=swI [] [(4,[dO 0 [],dO 1 [],dO 2 [0],dO 3 [0,1,2],dO 4 [0,1,2,3],dO 5 [],⟨6,[3],[],none,[5],[]⟩,⟨7,[3],[],none,[5,6],[]⟩,dO 8 [0,1,2,3,4,5,6,7],dO 9 [0],dO 10 [0,1,2,3,4,5,6,7,8,9]])]
 frzNew:=[3]
 thaw:=true
 stAt:=swI none [(18,some 999)]
 last:=swI false [(4,true)]
 lastK:=swI 1 [(4,1)] }
theorem Ze7(p0b p0o:Nat)(bS bK bL bM bI aV bJ:Int)(t0a:Option Addr)(t0n t0c:Nat)(m:Mem)(Y:Nat->Prop)(R:RTY)(h:
 lE [some (Tok.mk (slice t0a t0n t0c) 7)] λxL=>lV [int u64 bS,int u64 bK,int u64 bL,int u64 bM,int u64 bI,int u64 aV,int u64 bJ] λxL_1=>fzM m xL_1 λb m'=>m.free b->(∀(b' o:Nat)(u:Value),m'
 b' o=some u->m b' o=some u\/b'=b)->∃I,inI I [int i64 0] [] [] m'/\∀(n:Int)(m':Mem)(n_1:Nat),lE (p0o+Int.toNat n*1) λyL=>True->I [int i64 n] [] [] m' n_1->br (decide (n < 7)) (Zaf n 7/\∃(v:
 Value),m' p0b yL=some v/\Zaf n 7/\Eng.Zp3 xL_1 (0+Int.toNat n*1) λv_1=>chk (Zbw u64 v&&Zbw u64 v_1) (Zaf n 7/\(∃(vs:List Value),vs.length=1/\m'.reads p0b yL vs)/\Mem.free (Mem.off m Y) p0b/\
 true=true/\b≠p0b/\Zac [some (Box.mk b xL_1 100 7 true true)]/\xL=xL/\nxI n_1 I [int i64 (i64.wrap (n+1))] [] [] (Mem.upd m' p0b yL [int u64 (u64.wrap (↑(BitVec.toNat (BitVec.ofInt 64 (RowKit.intOf v) |||
 BitVec.ofInt 64 (RowKit.intOf v_1))):Int))]))) (R (tuple (.mk [])) m' [] [slice t0a t0n t0c])):CXY Try.prog 141 #[.pointer (some ⟨p0b,p0o,none⟩),.agg #[.int .u64 bS,.int .u64 bK,.int .u64 bL,.int .u64 bM,.int .u64 bI,.int .u64 aV,.int .u64 bJ]] m Y [] [⟨.slice t0a t0n t0c,7⟩] R:=
 ZaK (E:=ZgC) ZaB mix Try.func141 [.v (.pointer (some ⟨p0b,p0o,none⟩)),.v (.agg #[.int .u64 bS,.int .u64 bK,.int .u64 bL,.int .u64 bM,.int .u64 bI,.int .u64 aV,.int .u64 bJ])] [] [900] [⟨.slice t0a t0n t0c,7⟩] (by decide) (by kernel_rfl) (Eq.mp (by kernel_rfl) h)
def ZfN:Env:={ EB with
 loops:=swI nLa [(1,⟨[(4,.int .i64)],[],[],true⟩)] }
theorem Ze8(p0g:Nat)(p0fi p0ca:List Value)(c0b c0o:Nat)(m:Mem)(xs:List (List Value))(h:
 ∀(l:Nat),∃I,inI I [int i64 0,int i64 0] [] [] m/\∀y n m' (n_1:Nat),lV [int i64 n] λxL=>lV [int i64 (i64.wrap (n+1))] λxL_1=>m.le m'->I (int i64 y::xL) [] [] m' n_1->br (decide (n < 448)) (∃(v:Value),
 m' c0b c0o=some v/\kB pG 115 (v::xL) m' λb m'=>br b ((l=l/\(0:Int)<=y/\List.get?Internal xs (Int.toNat y)=some xL)/\nxI n_1 I (int i64 (y+1)::xL_1) [] [] m'/\((-1:Int)=(↑(xs.length):Int)\/(-1:Int)
 = (-1:Int))) (nxI n_1 I (int i64 y::xL_1) [] [] m')) (y=(↑(xs.length):Int)\/y=(-1:Int))):IX Try.prog 145 [] [.pointer (some ⟨c0b,c0o,none⟩)] m xs:=
 Zly (E:=ZfN) ZaB mix Try.func145 [] [.pointer (some ⟨c0b,c0o,none⟩)] xs (by kernel_rfl) (Eq.mp (by kernel_rfl) h)
def Zht:Env:={ EB with
 frzNew:=[1] }
theorem ZgD(p0b p0o:Nat)(m:Mem)(R:RT)(h:
 fzM m [Value.pointer (some (Addr.mk p0b p0o none))] λb m'=>rtM m m' R (func (Fn.func 145) (Array.mk []) (Array.mk [Value.pointer (some (Addr.mk b 0 none))]))):CX Try.prog 111 #[.pointer (some ⟨p0b,p0o,none⟩)] m [] R:=
 Zaj (E:=Zht) ZaB mix Try.func111 [.v (.pointer (some ⟨p0b,p0o,none⟩))] [] (by kernel_rfl) (Eq.mp (by kernel_rfl) h)
def ZbW:Env:={ EB with
 loops:=swI nLa [(3,⟨[(7,.int .i64)],[2],[(11,1)],false⟩)]
 tokOf:=swI 0 [(4,11),(11,11)] }
theorem ZbK(p0a:Option Addr)(p0n p0c p1g:Nat)(p1fi p1ca:List Value)(m:Mem)(R:RT)(h:
 ∀b,∃(xs:List (List Value)),IX pG p1g p1fi p1ca m xs/\(∀(x:List Value),x∈xs->Shape.fitsL [.int i64] x=true)/\∃(I:IT),I [] [[slice p0a p0n p0c]] [slice none 0 0] m 0/\(∀n (cs:List Value) a n_1 c m' (n_2:
 Nat),lV [int i64 n] λxL=>m.le m'->List.get?Internal xs n_2=some xL->I [] [cs] [slice a n_1 c] m' n_2->Eng.Zp3 cs 0 λv=>∀b_1,lM (m'.add b_1 xL) λmL=>lE (slN v+1) λyL=>m'.free b_1->chk (ZdK v &&
 true) ((Tok.mk (slice a n_1 c) 1=Tok.mk v 1\/v=slice none 0 0\/slC v < yL)/\∃(xs:List Value),∃(ys:List Value),xs.length=slN v*1/\ys.length=1*1/\rowRd mL (slA v) xs/\rowRd mL (some (Addr.mk b_1 0 none)) ys
 /\ (∀(u:Value),u∈ys->u.oneCell'=true)/\yL*8<=140737488355328/\yL<=9223372036854775807/\∀(a':Option Addr) c' m',mL.le m'->rowRd m' a' (List.append xs ys)->Zac [some (Box.mk b [] 24 1 false true)]/\I []
 [[slice a' yL c']] [slice a' yL c'] m' (n_2+1)))/\∀(cs:List Value) a n c m',m.le m'->I [] [cs] [slice a n c] m' (xs.length)->Eng.Zp3 cs 0 λv=>some (Tok.mk (slice a n c) 1)=some (Tok.mk v 1)/\R v m' []):CXT Try.prog 144 #[.slice p0a p0n p0c,.func (.func p1g) p1fi.toArray p1ca.toArray] m 1 R:=
 ZgY (E:=ZbW) ZaB mix Try.func144 [.v (.slice p0a p0n p0c),.v (.func (.func p1g) p1fi.toArray p1ca.toArray)] (by kernel_rfl) (Eq.mp (by kernel_rfl) h)
def Zdr:Env:=EB
theorem Zdb(p0g:Nat)(p0fi p0ca:List Value)(m:Mem)(R:RT)(h:
 kS pG 144 [slice none 0 0,func (Fn.func p0g) (Array.mk p0fi) (Array.mk p0ca)] m λa n c m'=>rtM m m' R (slice a n c)):CX Try.prog 110 #[.func (.func p0g) p0fi.toArray p0ca.toArray] m [] R:=
 Zaj (E:=Zdr) ZaB mix Try.func110 [.v (.func (.func p0g) p0fi.toArray p0ca.toArray)] [] (by kernel_rfl) (Eq.mp (by kernel_rfl) h)
def ZgE:Env:=EB
theorem ZfO(p0b p0o:Nat)(m:Mem)(R:RT)(h:
 kF pG 111 [Value.pointer (some (Addr.mk p0b p0o none))] m λg fi ca m'=>kS pG 110 [func (Fn.func g) (Array.mk fi) (Array.mk ca)] m' λa n c m'=>rtM m m' R (slice a n c)):CX Try.prog 62 #[.pointer (some ⟨p0b,p0o,none⟩)] m [] R:=
 Zaj (E:=ZgE) ZaB mix Try.func62 [.v (.pointer (some ⟨p0b,p0o,none⟩))] [] (by kernel_rfl) (Eq.mp (by kernel_rfl) h)
def ZpN:Env:={ EB with
 loops:=swI nLa [(3,⟨[(8,.int .i64)],[3],[],false⟩)] }
theorem Znw(p0a:Option Addr)(p0n p0c:Nat)(m:Mem)(R:RT)(h:
 ∀b (b_1:Nat),∃I,inI I [int i64 0] [[int u64 0,int u64 0,int u64 0,int u64 0,int u64 0,int u64 0,int u64 0]] [] m/\∀n (cs:List Value) m' (n_1:Nat),m.le m'->I [int i64 n] [cs] [] m' n_1->br (decide (n < (↑p0n:
 Int))) (atA p0a λb_2 o=>Zaf n p0n/\∃(v:Value),m' b_2 (o+Int.toNat n*1)=some v/\∃R,True/\CX pG 116 (.mk [Value.pointer (some (Addr.mk b_1 0 none)),v]) m' [Box.mk b_1 cs 100 7 false true] R/\Zdv (.tup [])
 R/\∀m'_1,m'.le m'_1->∀(cs:List Value),R (tuple (.mk [])) m'_1 [cs]->Zac [some (Box.mk b_1 [] 100 7 false true),some (Box.mk b [int u64 0,int u64 0,int u64 0,int u64 0,int u64 0,int u64 0,int u64 0] 100 7 false
 true)]/\nxI n_1 I [int i64 (i64.wrap (n+1))] [cs] [] m'_1) (chk (Nat.beq (cs.length) 7&&Zcr cs) (rtM m m' R (agg (.mk cs))))):CX Try.prog 112 #[.slice p0a p0n p0c] m [] R:=
 Zaj (E:=ZpN) ZaB mix Try.func112 [.v (.slice p0a p0n p0c)] [] (by kernel_rfl) (Eq.mp (by kernel_rfl) h)
end Go.Proofs.Ytplacemlpkhmfaa
namespace Go.Proofs.Ytplacemlpkhmfaa
open Go Go.Eng Go.Rx Go.Proofs Go.RowKit
set_option maxRecDepth 100000
theorem Zt7(i:Nat):Int.tdiv (i:Int) 64=((i / 64:Nat):Int):=rfl
theorem ZsN(i:Nat):Int.tmod (i:Int) 64=((i % 64:Nat):Int):=rfl
theorem ZqH(f i:Nat)(h:i < 448)(b o:Nat)(m:Mem)(hb:m.reads b o (bwL f)):CX Try.prog 115 #[.pointer (some ⟨b,o,none⟩),.int .i64 i] m [] (Ret (.bool (f.testBit i))):=by
 apply ZgB
 have hq:IntKind.i64.wrap (Int.tdiv (i:Int) 64)=((i / 64:Nat):Int):=by rw[Zt7];exact Zat (by omega) (by omega)
 simp only[hq,zA8,Nat.mul_one]
 have gY:(wdN f (i / 64)).testBit (i % 64)=f.testBit i:=by
  rw[Zob,show 64*(i / 64)+i % 64=i by omega];simp;omega
 refine⟨by omega,⟨by omega,by omega⟩,_,hb (i / 64) _ (Zjz (by omega)),by omega,Zaa rfl ⟨by rw[ZsN];omega,Zag (Mem.le_refl _) ?_⟩⟩
 rw[ZsN,zA8,Nat.min_eq_left (by omega)]
 show Value.bool (IntKind.u64.wrap _ == 1)=_
 simp only[RowKit.intOf]
 rw[Zoc _ _ (ZlD _ _),gY]
theorem Zrx{i:Nat}:IntKind.u64.wrap (1*2 ^ min (Int.toNat (Int.tmod (i:Int) 64)) 64)=((2 ^ (i % 64):Nat):Int):=by
 rw[ZsN,zA8,Nat.min_eq_left (by omega),Int.one_mul]
 have:=ZrS (2 ^ (i % 64)) (by
  have:2 ^ (i % 64) < 2 ^ 64:=Nat.pow_lt_pow_right (by omega) (by omega)
  exact this)
 rw[<-this];push_cast;rfl
theorem ZjI(f i:Nat)(h:i < 448)(b T cap:Nat)(A B:List Value)(m:Mem)(cS:1 < cap):CX Try.prog 116 #[.pointer (some ⟨b,A.length,none⟩),.int .i64 i] m [⟨b,A++bwL f++B,T,cap,false,true⟩]
  (λv _ css=>v=.tuple #[]/\css=[A++bwL (f|||2 ^ i)++B]):=by
 apply ZgA
 have hq:IntKind.i64.wrap (Int.tdiv (i:Int) 64)=((i / 64:Nat):Int):=by rw[Zt7];exact Zat (by omega) (by omega)
 simp only[hq,Zrx,zA8,Nat.mul_one]
 have hc:Nat.beq cap 1=false:=Zam (by omega)
 simp only[hc,Bool.false_and,cond_false]
 have aH:2 ^ (i % 64) < 18446744073709551616:=by
  have:2 ^ (i % 64) < 2 ^ 64:=Nat.pow_lt_pow_right (by omega) (by omega)
  exact this
 refine⟨by omega,⟨by omega,by omega⟩,Zal (ZlJ (Zjz (by omega))) ⟨by omega,by rw[ZsN];omega,Zaa rfl ⟨⟨by omega,by omega⟩,Zaa (by rw[Nat.ble_eq];simp[ZlI];omega) ⟨by trivial,m,Mem.le_refl _,Mem.le_refl _,by trivial,?_⟩⟩⟩⟩
 simp only[RowKit.intOf]
 rw[ZiA _ _ (ZlD _ _) aH,ZgZ (by rw[ZlI];omega),ZtA (by omega) (by omega),show 64*(i / 64)+i % 64=i by omega]
theorem Zmh(f g:Nat)(b T cap:Nat)(A B:List Value)(m:Mem)(cS:1 < cap):CX Try.prog 141 #[.pointer (some ⟨b,A.length,none⟩),bwV g] m [⟨b,A++bwL f++B,T,cap,false,true⟩]
  (λv _ css=>v=.tuple #[]/\css=[A++bwL (f|||g)++B]):=by
 apply Zhs
 intro b1 m1 aD _
 have hc:Nat.beq cap 1=false:=Zam (by omega)
 refine⟨λxs css _ m' q=>∃k:Nat,k<=7/\xs=[.int .i64 k]/\css=[A++orB f g k++B]/\q=7 - k,⟨7,0,by omega,rfl,rfl,rfl⟩,?_⟩
 rintro n cs m2 q bN ⟨k,hk,hn,bZ,hq⟩
 obtain rfl:n=k:=by simpa using hn
 obtain rfl:cs=A++orB f g k++B:=by simpa using bZ
 refine Zab (λaH=>?_) (λcL=>?_)
 ·have aF:k < 7:=by have:=zA6 aH;omega
  have h1:=Zqu (f:=f) (g:=g) (k:=k) aF
  rw[if_neg (by omega)]at h1
  have h2:=Zjz (f:=g) aF
  simp only[zA8,Nat.zero_add,Nat.mul_one,hc,Bool.false_and,cond_false]
  refine⟨⟨by omega,by omega⟩,Zal (ZlJ h1) ⟨⟨by omega,by omega⟩,Zal h2 (Zaa rfl ⟨⟨by omega,by omega⟩,Zaa (by rw[Nat.ble_eq];simp[ZlH];omega) ⟨by trivial,7 - (k+1),by omega,k+1,by omega,?_,?_,rfl⟩⟩)⟩⟩
  ·rw[Zat (by omega) (by omega)];rfl
  ·simp only[RowKit.intOf]
   rw[ZiA _ _ (ZlD _ _) (ZlD _ _),ZgZ (by rw[ZlH];omega),Zoi aF]
 ·have:k=7:=by have:=of_decide_eq_false cL;omega
  subst this
  exact⟨rfl,m,Mem.le_refl _,mLt aD bN,rfl,rfl⟩
theorem Zos(f:Nat)(b o c:Nat)(m:Mem)(hb:m.reads b o (bwL f))(hc:m.reads c 0 [.pointer (some ⟨b,o,none⟩)]):IX Try.prog 145 [] [.pointer (some ⟨c,0,none⟩)] m ((Zb1 f).map λi=>[.int .i64 (i:Nat)]):=by
 apply Ze8 0 [] [] c 0
 intro l
 refine⟨λxs _ _ m' q=>∃k:Nat,k<=448/\xs=[.int .i64 (((List.range k).filter λi=>f.testBit i).length:Nat),.int .i64 k]/\m.le m'/\q=448 - k,⟨448,0,by omega,rfl,Mem.le_refl _,rfl⟩,?_⟩
 rintro y n m1 q aD ⟨k,hk,eJ,_,hq⟩
 simp only[List.cons.injEq,Value.int.injEq,true_and,and_true]at eJ
 obtain⟨rfl,rfl⟩:=eJ
 have dC:((List.range (k+1)).filter λi=>f.testBit i).length=((List.range k).filter λi=>f.testBit i).length+(if f.testBit k then 1 else 0):=by
  rw[List.range_succ,List.filter_append,zA1];simp[List.filter_cons];split <;> simp
 refine Zab (λaH=>?_) (λcL=>?_)
 ·have aF:k < 448:=by have:=zA6 aH;omega
  refine⟨_,aD _ _ _ (hc 0 _ rfl),Zai (ZqH f k (by omega) b o m1 (hb.mono aD)) λm2 bN=>Zab (λh=>?_) (λh=>?_)⟩
  ·refine⟨⟨rfl,by omega,?_⟩,⟨448 - (k+1),by omega,k+1,by omega,?_,mLt aD bN,rfl⟩,.inr rfl⟩
   ·rw[zA8]
    show((Zb1 f).map λi=>[Value.int .i64 (i:Nat)])[((List.range k).filter λi=>f.testBit i).length]?=_
    rw[List.getElem?_map,Zrk f k aF h];rfl
   ·rw[dC,if_pos h,Zat (by omega) (by omega)];rfl
  ·refine⟨448 - (k+1),by omega,k+1,by omega,?_,mLt aD bN,rfl⟩
   rw[dC,if_neg (by simp[h]),Zat (by omega) (by omega)];rfl
 ·have:k=448:=by have:=of_decide_eq_false cL;omega
  subst this
  left
  simp[Zb1]
theorem ZqI(b o:Nat)(m:Mem):CX Try.prog 111 #[.pointer (some ⟨b,o,none⟩)] m [] (λv m' _=>∃c,v=.func (.func 145) #[] #[.pointer (some ⟨c,0,none⟩)]/\m'.reads c 0 [.pointer (some ⟨b,o,none⟩)]):=by
 apply ZgD
 intro c m1 aD hc
 exact⟨m1,aD,Mem.le_refl _,c,rfl,hc⟩
def Zmi(l:List Nat):List Value:=l.map λi=>.int .i64 (i:Nat)
theorem ZpO(l:List Nat):(Zmi l).length=l.length:=by simp[Zmi]
def SlN(l:List Nat)(v:Value)(m':Mem):Prop:=∃a c,v=.slice a l.length c/\rowRd m' a (Zmi l)/\(l=[]->a=none)
theorem Znx(l:List Nat)(g:Nat)(ca:List Value)(m:Mem)(hl:l.length<=1000)(sw:IX Try.prog g [] ca m (l.map λi=>[.int .i64 (i:Nat)])):CXT Try.prog 144 #[.slice none 0 0,.func (.func g) #[] ca.toArray] m 1 (λv m' _=>SlN l v m'):=by
 apply ZbK none 0 0 g [] ca
 intro b
 refine⟨l.map λi=>[.int .i64 (i:Nat)],sw,λx hx=>?_,λxs css tvs m' q=>∃(a:Option Addr)(c:Nat),q<=l.length/\css=[[.slice a q c]]/\tvs=[.slice a q c]/\m.le m'/\rowRd m' a (Zmi (l.take q))/\(q=0->a=none),⟨none,0,Nat.zero_le _,rfl,rfl,Mem.le_refl _,.inl rfl,λ_=>rfl⟩,?_,?_⟩
 ·obtain⟨i,_,rfl⟩:=List.mem_map.1 hx
  rfl
 ·rintro n cs a n1 c m1 q aD hq ⟨a',c',sA,bZ,cO,_,cM,fE⟩
  obtain rfl:cs=[.slice a' q c']:=by simpa using bZ
  obtain⟨rfl,rfl,rfl⟩:a=a'/\n1=q/\c=c':=by simpa using cO
  have hq':l[n1]?.map (λi=>[Value.int .i64 (i:Nat)])=some [.int .i64 n]:=by rw[<-List.getElem?_map];exact hq
  cases qy:l[n1]? with
  | none=>rw[qy]at hq';cases hq'
  | some i=>
   rw[qy]at hq'
   obtain rfl:(i:Int)=n:=by simpa using hq'
   have aH:=(zA0 qy).1
   refine Zal (v:=.slice a n1 c) rfl λb1 dE=>Zaa rfl ⟨.inl rfl,Zmi (l.take n1),[.int .i64 (i:Nat)],?_,rfl,cM.mono (Mem.le_add dE _),.inr ⟨b1,0,rfl,λj v hv=>by rw[Mem.add_same];simpa using hv⟩,by simp[Value.oneCell'],?_,?_,λa2 c2 m2 bN ge=>⟨rfl,a2,c2,aH,?_,?_,mLt aD (mLt (Mem.le_add dE _) bN),?_,λh=>by omega⟩⟩
   ·simp only[ZpO,List.length_take,slN];omega
   ·show(n1+1)*8<=_;omega
   ·show n1+1<=_;omega
   ·rfl
   ·rfl
   ·have e:Zmi (l.take (n1+1))=Zmi (l.take n1)++[.int .i64 (i:Nat)]:=by
     rw[List.take_add_one,qy];simp[Zmi]
    rw[e];exact ge
 ·rintro cs a n1 c m1 aD ⟨a',c',sA,bZ,cO,_,cM,fE⟩
  obtain rfl:cs=[.slice a' (l.map λi=>[Value.int .i64 (i:Nat)]).length c']:=by simpa using bZ
  obtain⟨rfl,rfl,rfl⟩:a=a'/\n1=(l.map λi=>[Value.int .i64 (i:Nat)]).length/\c=c':=by simpa using cO
  refine Zal (v:=.slice a (l.map λi=>[Value.int .i64 (i:Nat)]).length c) rfl ⟨rfl,a,c,by simp,by simpa using cM,λh=>fE (by simp[h])⟩
def NewS(m:Mem)(v:Value):Prop:=∀b o,slA v=some ⟨b,o,none⟩->m.free b
theorem ZkG{m m':Mem}{esz:Nat}{v:Value}(h:Zso m m' esz v):NewS m v:=λb' o' e'=>by
 rcases h with e|⟨b,o,n,c2,e,gi,hf,hq⟩
 ·rw[e]at e';simp[slA]at e'
 ·rw[e]at e';simp[slA]at e';exact e'.1 ▸ hf
theorem NewS.less{m m0:Mem}{v:Value}(h:NewS m v)(k:m0.le m):NewS m0 v:=λb o e x=>by
 cases he:m0 b x with
 | none=>rfl
 | some u=>have:=k _ _ _ he;rw[h b o e x]at this;cases this
theorem SlN.mono{l:List Nat}{v:Value}{m m':Mem}(h:SlN l v m)(k:m.le m'):SlN l v m':=by
 obtain⟨a,c,e,h1,h2⟩:=h
 exact⟨a,c,e,h1.mono k,h2⟩
theorem Zmj(l:List Nat)(g:Nat)(ca:List Value)(m:Mem)(hl:l.length<=1000)(sw:IX Try.prog g [] ca m (l.map λi=>[.int .i64 (i:Nat)])):CX Try.prog 110 #[.func (.func g) #[] ca.toArray] m [] (λv m' _=>SlN l v m'/\NewS m v):=by
 apply Zdb g [] ca
 refine Zak ((Znx l g ca m hl sw).room.mono (R':=λv m' _=>SlN l v m'/\NewS m v) λv m' css cA ⟨m1,h0,h1,hS,hr⟩=>⟨hS.mono h1,ZkG hr⟩) (λv m' _ h=>by obtain⟨⟨a,c,rfl,_⟩,_⟩:=h;rfl) λa n c m1 aD h=>⟨m1,aD,Mem.le_refl _,h⟩
theorem Zmk(f:Nat)(b o:Nat)(m:Mem)(hb:m.reads b o (bwL f)):CX Try.prog 62 #[.pointer (some ⟨b,o,none⟩)] m [] (λv m' _=>SlN (Zb1 f) v m'/\NewS m v):=by
 apply ZfO
 refine Zak (ZqI b o m) (λv m' _ h=>by obtain⟨c,rfl,_⟩:=h;rfl) λg fi ca m1 aD h=>?_
 obtain⟨c,hv,hc⟩:=h
 simp only[Value.func.injEq,Fn.func.injEq,Array.mk.injEq]at hv
 obtain⟨rfl,rfl,rfl⟩:=hv
 exact Zak (Zmj (Zb1 f) _ _ m1 (Nat.le_trans (ZlK f) (by omega)) (Zos f b o c m1 (hb.mono aD) hc)) (λv m' _ h=>by obtain⟨⟨a,c,rfl,_⟩,_⟩:=h;rfl) λa n c m2 bN h=>⟨m2,mLt aD bN,Mem.le_refl _,h.1,h.2.less aD⟩
theorem Zry(f:Nat)(b o:Nat)(m:Mem)(hb:m.reads b o (bwL f)):CX Try.prog 62 #[.pointer (some ⟨b,o,none⟩)] m [] (λv m' _=>SlN (Zb1 f) v m'):=(Zmk f b o m hb).mono λ_ _ _ _ h=>h.1
theorem ZpP{m:Mem}{b o:Nat}{v:Value}{cs:List Value}(h:m.reads b 0 cs)(ho:o < cs.length):(m.upd b o [v]).reads b 0 (Zaw cs o [v]):=by
 intro j u hu
 rw[Nat.zero_add]
 simp only[Zaw,List.length_singleton]at hu
 simp only[Mem.upd,List.length_singleton,true_and]
 by_cases hj:j < o
 ·rw[if_neg (by omega)]
  rw[List.append_assoc,zA5 (by simp;omega),List.getElem?_take,if_pos hj]at hu
  have:=h j u hu
  rwa [Nat.zero_add]at this
 ·by_cases he:j=o
  ·subst he
   rw[if_pos ⟨Nat.le_refl _,by omega⟩]
   rw[List.append_assoc,zA4 (by simp;omega)]at hu
   simp only[List.length_take,Nat.min_eq_left (Nat.le_of_lt ho),Nat.sub_self]at hu ⊢
   simpa using hu
  ·rw[if_neg (by omega)]
   rw[List.append_assoc,zA4 (by simp;omega),List.length_take,Nat.min_eq_left (Nat.le_of_lt ho)]at hu
   rw[zA4 (by simp;omega),List.length_singleton,List.getElem?_drop]at hu
   have:=h _ u hu
   rwa [Nat.zero_add,show o+1+(j - o - 1)=j by omega]at this
theorem ZsO(f g:Nat)(b n c:Nat)(A B:List Value)(m:Mem)(hr:m.reads b 0 (A++bwL f++B)):
  CXY Try.prog 141 #[.pointer (some ⟨b,A.length,none⟩),bwV g] m (λk=>k=b) [] [⟨.slice (some ⟨b,0,none⟩) n c,7⟩]
   (λv m' css tvs=>v=.tuple #[]/\css=[]/\tvs=[.slice (some ⟨b,0,none⟩) n c]/\m'.reads b 0 (A++bwL (f|||g)++B)):=by
 apply Ze7
 intro b1 m1 aD _ kU _
 have dE:b1≠b:=λe=>by
  have h1:=hr A.length _ (by rw[show A.length=A.length+0 from rfl,ZlJ (Zjz (f:=f) (j:=0) (by omega))])
  rw[Nat.zero_add]at h1
  rw[e]at kU
  rw[kU]at h1;cases h1
 refine⟨λxs css tvs m' q=>∃k:Nat,k<=7/\xs=[.int .i64 k]/\m'.reads b 0 (A++orB f g k++B)/\q=7 - k,⟨7,0,by omega,rfl,hr.mono aD,rfl⟩,?_⟩
 rintro x m2 q _ ⟨k,hk,hx,cM,hq⟩
 obtain rfl:x=k:=by simpa using hx
 refine Zab (λaH=>?_) (λcL=>?_)
 ·have aF:k < 7:=by have:=zA6 aH;omega
  have h1:=Zqu (f:=f) (g:=g) (k:=k) aF
  rw[if_neg (by omega)]at h1
  have h2:=Zjz (f:=g) aF
  have h3:=cM _ _ (ZlJ (A:=A) (B:=B) h1)
  rw[Nat.zero_add]at h3
  simp only[zA8,Nat.zero_add,Nat.mul_one]
  refine⟨⟨by omega,by omega⟩,_,h3,⟨by omega,by omega⟩,Zal h2 (Zaa rfl ⟨⟨by omega,by omega⟩,⟨[.int .u64 (wdN f k:Nat)],rfl,λj v hv=>?_⟩,λo=>by simp[Mem.off],by trivial,dE,by trivial,by trivial,7 - (k+1),by omega,k+1,by omega,?_,?_,rfl⟩)⟩
  ·cases j with
   | zero=>simp at hv;subst hv;exact h3
   | succ j=>simp at hv
  ·rw[Zat (by omega) (by omega)];rfl
  ·simp only[RowKit.intOf]
   rw[ZiA _ _ (ZlD _ _) (ZlD _ _)]
   have h4:=ZpP (v:=.int .u64 ((wdN f k|||wdN g k:Nat):Int)) cM (o:=A.length+k) (by simp[ZlH];omega)
   rw[ZgZ (by rw[ZlH];omega),Zoi aF]at h4
   exact h4
 ·have:k=7:=by have:=of_decide_eq_false cL;omega
  subst this
  exact⟨rfl,rfl,rfl,cM⟩
theorem Zec{m:Mem}{v:Value}{k esz:Nat}{cs:List Value}(h:RowOk m v k cs){b:Nat}(hb:(Tok.mk v esz).blk=some b):∃c,v=.slice (some ⟨b,0,none⟩) k c/\m.reads b 0 cs/\k≠0:=by
 rcases h with⟨_,rfl⟩|⟨b',c,rfl,h2,h3⟩
 ·simp[Tok.blk]at hb
 ·simp[Tok.blk]at hb;subst hb;exact⟨c,rfl,h2,h3⟩
theorem ZfC{l:List Nat}(h:l.length≠0):∃n:Nat,(ZcB l)[0]?=some (.int .u64 (n:Int)):=by
 cases l with
 | nil=>simp at h
 | cons f l=>exact⟨wdN f 0,rfl⟩
theorem Zml{m:Mem}{Y:Nat->Prop}{b o:Nat}{cs:List Value}(h:m.reads b o cs)(hb:¬Y b):(m.off Y).reads b o cs:=λj v hv=>by
 rw[Mem.off_at hb];exact h j v hv
theorem Zot(s:Ms)(a b mkb:Nat)(t0a t1a:Option Addr)(t0n t0c t1n t1c:Nat)(m:Mem)(h:MkRow m (.slice t0a t0n t0c) (.slice t1a t1n t1c) s)(bG:s.fol.length<=448)(ha:∀i,a.testBit i=true->i < s.fol.length):
  CXY Try.prog 164 #[.pointer (some ⟨mkb,0,none⟩),bwV a,bwV b] m (Yof (.slice t0a t0n t0c) (.slice t1a t1n t1c)) [⟨mkb,[.slice t0a t0n t0c,.slice t1a t1n t1c],98,2,false,true⟩] [⟨.slice t0a t0n t0c,4⟩,⟨.slice t1a t1n t1c,7⟩]
   (λv m' css tvs=>v=.tuple #[]/\css=[[.slice t0a t0n t0c,.slice t1a t1n t1c]]/\tvs=[.slice t0a t0n t0c,.slice t1a t1n t1c]/\MkRow m' (.slice t0a t0n t0c) (.slice t1a t1n t1c) ⟨s.sets,ZcG s.fol a b⟩):=by
 apply Zeu
 intro b0 m1 aD _ kG _ b1 m2 bN sB kU _ b2 m3 bW _ um _
 have mq:m1.le m3:=mLt bN bW
 have sC:m.le m3:=mLt aD mq
 have blk1:∀{k},(Tok.mk (.slice t1a t1n t1c) 7).blk=some k->∃n:Nat,m k 0=some (.int .u64 (n:Int)):=λ{k} hk=>by
  obtain⟨c,_,h2,h3⟩:=Zec h.row1 hk
  obtain⟨n,hn⟩:=ZfC h3
  exact⟨n,by have:=h2 0 _ hn;simpa using this⟩
 have r7:∀k,Yof (.slice t0a t0n t0c) (.slice t1a t1n t1c) k->∀{m':Mem} {b':Nat},m.le m'->m'.free b'->b'≠k:=λk hk m' b' cA hf e=>by
  subst e
  rcases hk with hk|hk
  ·obtain⟨c,_,h2,h3⟩:=Zec h.row0 hk
   have:∃v,(Zbs s.sets)[0]?=some v:=by
    cases hs:(Zbs s.sets)[0]? with
    | some v=>exact⟨v,rfl⟩
    | none=>
     have:=Ze0 s.sets
     rw[List.getElem?_eq_none_iff]at hs;omega
   obtain⟨v,hv⟩:=this
   have:=cA _ _ _ (h2 0 v hv)
   rw[hf]at this;cases this
  ·obtain⟨n,hn⟩:=blk1 hk
   have:=cA _ _ _ hn
   rw[hf]at this;cases this
 refine Zak (ZqI b1 0 m3) (λv m' _ h=>by obtain⟨c,rfl,_⟩:=h;rfl) λg fi ca m4 cP hg=>?_
 obtain⟨c,hv,hc⟩:=hg
 simp only[Value.func.injEq,Fn.func.injEq,Array.mk.injEq]at hv
 obtain⟨rfl,rfl,rfl⟩:=hv
 have mr:m.le m4:=mLt sC cP
 let Z:Nat->Prop:=λk=>(Tok.mk (.slice t1a t1n t1c) 7).blk=some k
 have v8:¬Z b1:=λhz=>r7 b1 (.inr hz) aD kU rfl
 have wb:¬Z c:=λhz=>by
  obtain⟨n,hn⟩:=blk1 hz
  have h1:=mr _ _ _ hn
  have h2:=hc 0 _ rfl
  rw[Nat.zero_add]at h2
  rw[h1]at h2;cases h2
 have qk:=Zos a b1 0 c (m4.off Z) (Zml ((sB.mono bW).mono cP) v8) (Zml hc wb)
 refine⟨m4.off Z,Mem.off_le m4 Z,_,qk,λx hx=>?_,λxs css tvs m' q=>tvs=[.slice t1a t1n t1c]/\q<=(Zb1 a).length/\(m4.off Z).le m'/\RowOk m' (.slice t0a t0n t0c) s.sets.length (Zbs s.sets)/\RowOk m' (.slice t1a t1n t1c) s.fol.length (ZcB (Ze1 s.fol ((Zb1 a).take q) b)),
  ⟨rfl,Nat.zero_le _,Mem.off_le _ _,h.row0.mono mr,by rw[List.take_zero,Zpv];exact h.row1.mono mr⟩,?_,?_⟩
 ·obtain⟨i,_,rfl⟩:=List.mem_map.1 hx
  rfl
 ·rintro n a' n1 c1 m' q cA hq ⟨cO,r5,_,oK,dD⟩
  obtain⟨rfl,rfl,rfl⟩:a'=t1a/\n1=t1n/\c1=t1c:=by simpa using cO
  have hq':(Zb1 a)[q]?.map (λi=>[Value.int .i64 (i:Nat)])=some [.int .i64 n]:=by rw[<-List.getElem?_map];exact hq
  cases hi:(Zb1 a)[q]? with
  | none=>rw[hi]at hq';cases hq'
  | some i=>
   rw[hi]at hq'
   obtain rfl:(i:Int)=n:=by simpa using hq'
   have r6:=(zA0 hi).1
   have oL:i∈Zb1 a:=zA2 hi
   have jj:=ha i (ZiF.1 oL).2
   have oM:i ∉ (Zb1 a).take q:=λhm=>by
    obtain⟨j,hj⟩:=List.getElem?_of_mem hm
    rw[List.getElem?_take]at hj
    split at hj
    ·have hp:=Zgl a
     have h1:=(zA0 hj)
     have h2:=(zA0 hi)
     have:=List.pairwise_iff_getElem.1 hp j q h1.1 h2.1 (by assumption)
     rw[h1.2,h2.2]at this;omega
    ·cases hj
   obtain⟨x,hx⟩:∃x,s.fol[i]?=some x:=⟨s.fol[i],by simp[jj]⟩
   have jq:=Zpw (b:=b) hx oM
   have aF:=(zA0 jq).1
   have qt:=Zoj jq
   have bV:ZcB (Ze1 s.fol ((Zb1 a).take (q+1)) b)=ZcB ((Ze1 s.fol ((Zb1 a).take q) b).take i)++bwL (x|||b)++ZcB ((Ze1 s.fol ((Zb1 a).take q) b).drop (i+1)):=by
    rw[List.take_add_one,hi]
    show ZcB (Ze1 s.fol ((Zb1 a).take q++[i]) b)=_
    rw[Zm8 hx oM,Zpu aF]
   rcases dD with⟨h0,_⟩|⟨bb,c,hv,cM,hk⟩
   ·omega
   ·simp only[Value.slice.injEq]at hv
    obtain⟨rfl,rfl,rfl⟩:=hv
    have hA:(ZcB ((Ze1 s.fol ((Zb1 a).take q) b).take i)).length=i*7:=by
     rw[Zgn,List.length_take,Nat.min_eq_left (by omega)]
    rw[qt]at cM
    have gJ:=ZsO x b bb s.fol.length c1 (ZcB ((Ze1 s.fol ((Zb1 a).take q) b).take i)) (ZcB ((Ze1 s.fol ((Zb1 a).take q) b).drop (i+1))) m' cM
    rw[hA]at gJ
    simp only[Nat.zero_add,zA8]
    refine⟨λ_ _ _ _ _ _=>True,by trivial,Zal (v:=.slice (some ⟨bb,0,none⟩) s.fol.length c1) rfl (Zaa rfl ⟨bb,0,rfl,⟨by omega,by show(i:Int) < (s.fol.length:Nat);omega⟩,(λk=>k=bb),_,(by rw[Nat.zero_add];exact gJ),?_,?_,?_,?_⟩)⟩
    ·intro t ht k hk
     obtain rfl:=List.mem_singleton.1 ht
     simp[Tok.blk]at hk;exact hk.symm
    ·intro k hk
     refine .inl ⟨_,List.mem_singleton.2 rfl,?_⟩
     rw[hk];rfl
    ·rintro v _ _ _ ⟨rfl,_⟩;rfl
    ·rintro m5 cY xl a5 c5 d5 ⟨_,_,sD,sE⟩
     have keep:∀k o v,k≠bb->m' k o=some v->m5 k o=some v:=λk o v hk hv=>cY k o v (by rw[Mem.off_at (Y:=λk=>k=bb) hk];exact hv)
     have jR:(m4.off Z).le m5:=λk o v hv=>by
      by_cases hk:k=bb
      ·subst hk
       unfold Mem.off at hv
       rw[if_pos (show Z k by rfl)]at hv;cases hv
      ·exact keep k o v hk (cA k o v hv)
     refine⟨jR,by trivial,by trivial,sD,by omega,jR,?_,.inr ⟨bb,c1,rfl,by rw[bV];exact sE,hk⟩⟩
     rcases oK with h0|⟨b6,c6,h6,h7,h8⟩
     ·exact .inl h0
     ·refine .inr ⟨b6,c6,h6,λj v hv=>?_,h8⟩
      refine keep _ _ _ (λe=>?_) (h7 j v hv)
      subst e
      exact h.ne b6 (by rw[h6];rfl) rfl
 ·rintro a' n1 c1 m' cA ⟨cO,_,_,oK,dD⟩
  obtain⟨rfl,rfl,rfl⟩:a'=t1a/\n1=t1n/\c1=t1c:=by simpa using cO
  refine⟨by trivial,rfl,rfl,rfl,oK,?_,h.ne⟩
  have e:Ze1 s.fol ((Zb1 a).take ((Zb1 a).map λi=>[Value.int .i64 (i:Nat)]).length) b=ZcG s.fol a b:=by
   rw[List.length_map,List.take_length]
   exact Zpx λi hi=>by rw[ZiF];exact⟨λh=>h.2,λh=>⟨by omega,h⟩⟩
  rw[e]at dD
  show RowOk m' _ (ZcG s.fol a b).length _
  rw[ZiG];exact dD
def ZpQ(t0 t1:Value)(s:Ms)(v:Value)(w:Value)(m':Mem)(css:List (List Value))(tvs:List Value):Prop:=w=v/\css=[[t0,t1]]/\tvs=[t0,t1]/\MkRow m' t0 t1 s
theorem ZeD(s:Ms)(p q:Pt)(mkb:Nat)(t0a t1a:Option Addr)(t0n t0c t1n t1c:Nat)(m:Mem)(h:MkRow m (.slice t0a t0n t0c) (.slice t1a t1n t1c) s)(bG:s.fol.length<=448)(ha:∀i,p.last.testBit i=true->i < s.fol.length):
  CXY Try.prog 139 #[.pointer (some ⟨mkb,0,none⟩),p.v,q.v] m (Yof (.slice t0a t0n t0c) (.slice t1a t1n t1c)) [⟨mkb,[.slice t0a t0n t0c,.slice t1a t1n t1c],98,2,false,true⟩] [⟨.slice t0a t0n t0c,4⟩,⟨.slice t1a t1n t1c,7⟩]
   (ZpQ (.slice t0a t0n t0c) (.slice t1a t1n t1c) ⟨s.sets,ZcG s.fol p.last q.first⟩ (ZrT p q).v):=by
 apply Zev
 intro b0 m1 aD _ kG _ b1 m2 bN _ kU _ b2
 have h2:=h.mono (mLt aD bN)
 refine⟨_,_,Zot s p.last q.first mkb t0a t1a t0n t0c t1n t1c m2 h2 bG ha,λt ht k hk=>?_,λk hk=>.inl ?_,?_,?_⟩
 ·simp only[List.mem_cons,List.not_mem_nil,or_false]at ht
  rcases ht with rfl|rfl
  ·exact .inl hk
  ·exact .inr hk
 ·rcases hk with hk|hk
  ·exact⟨_,by simp,hk⟩
  ·exact⟨_,by simp,hk⟩
 ·rintro v _ _ _ ⟨rfl,_⟩;rfl
 ·rintro m3 _ _ cs a c d a1 c1 d1 ⟨_,bZ,cO,bQ⟩
  obtain rfl:cs=[.slice t0a t0n t0c,.slice t1a t1n t1c]:=by simpa using bZ
  simp only[List.cons.injEq,Value.slice.injEq,and_true]at cO
  obtain⟨⟨rfl,rfl,rfl⟩,rfl,rfl,rfl⟩:=cO
  obtain⟨pf,pl,pn⟩:=p
  obtain⟨qf,ql,qn⟩:=q
  have fin:∀{r:Pt} {cs:List Value} {m4:Mem},m3.le m4->cs=r.cs->r=ZrT ⟨pf,pl,pn⟩ ⟨qf,ql,qn⟩->ZpQ (.slice a c d) (.slice a1 c1 d1) ⟨s.sets,ZcG s.fol pl qf⟩ (ZrT ⟨pf,pl,pn⟩ ⟨qf,ql,qn⟩).v (.agg cs.toArray) m4 [[.slice a c d,.slice a1 c1 d1]] [.slice a c d,.slice a1 c1 d1]:=λhm hc hr=>⟨by rw[hc,<-hr,Pt.v_cs],rfl,rfl,bQ.mono hm⟩
  cases pn <;> cases qn
  ·intro b
   exact⟨rfl,fin (r:=⟨pf,ql,false⟩) (Mem.le_refl _) rfl rfl⟩
  ·intro b
   refine⟨_,trivial,Zmh ql pl b 102 15 (bwL pf) [Value.bool false] m3 (by omega),λv _ _ h=>by rw[h.1];rfl,λm4 cP cs1 io=>?_⟩
   obtain rfl:cs1=_:=by simpa using io.2
   exact Zaa rfl ⟨rfl,fin (r:=⟨pf,ql|||pl,false⟩) cP rfl rfl⟩
  ·intro b
   refine⟨_,trivial,Zmh pf qf b 102 15 [] (bwL ql++[Value.bool false]) m3 (by omega),λv _ _ h=>by rw[h.1];rfl,λm4 cP cs1 io=>?_⟩
   obtain rfl:cs1=_:=by simpa using io.2
   exact Zaa rfl ⟨rfl,fin (r:=⟨pf|||qf,ql,false⟩) cP rfl rfl⟩
  ·intro b
   refine⟨_,trivial,Zmh pf qf b 102 15 [] (bwL ql++[Value.bool true]) m3 (by omega),λv _ _ h=>by rw[h.1];rfl,λm4 cP cs1 io=>?_⟩
   obtain rfl:cs1=_:=by simpa using io.2
   refine⟨_,trivial,Zmh ql pl b 102 15 (bwL (pf|||qf)) [Value.bool true] m4 (by omega),λv _ _ h=>by rw[h.1];rfl,λm5 cY cs2 jS=>?_⟩
   obtain rfl:cs2=_:=by simpa using jS.2
   exact Zaa rfl ⟨rfl,fin (r:=⟨pf|||qf,ql|||pl,true⟩) (mLt cP cY) rfl rfl⟩
def MkR(t0 t1:Value)(m:Mem)(r:Pt×Ms)(w:Value)(m':Mem)(css:List (List Value))(tvs:List Value):Prop:=
 ∃a n c a1 n1 c1,w=r.1.v/\css=[[.slice a n c,.slice a1 n1 c1]]/\tvs=[.slice a n c,.slice a1 n1 c1]/\MkRow m' (.slice a n c) (.slice a1 n1 c1) r.2/\∀b,Yof (.slice a n c) (.slice a1 n1 c1) b->Yof t0 t1 b\/m.free b
theorem ZiW{m:Mem}{a:Option Addr}{n c k:Nat}{cs:List Value}(h:RowOk m (.slice a n c) k cs)(hc:k=0->cs=[]):n=k/\rowRd m a cs/\(a=none\/∃b,a=some ⟨b,0,none⟩):=by
 rcases h with⟨h1,h2⟩|⟨b,c',h1,h2,h3⟩
 ·simp only[Value.slice.injEq]at h2
  exact⟨by omega,.inl (hc h1),.inl h2.1⟩
 ·simp only[Value.slice.injEq]at h1
  exact⟨h1.2.1,.inr ⟨b,0,h1.1,h2⟩,.inr ⟨b,h1.1⟩⟩
theorem Zou{m m':Mem}(h:m.le m'){b:Nat}(hf:m'.free b):m.free b:=λo=>by
 cases he:m b o with
 | none=>rfl
 | some v=>have:=h _ _ _ he;rw[hf o]at this;cases this
theorem ZqJ{m m2:Mem}{a a':Option Addr}{k c':Nat}{cs ds:List Value}(hd:ds≠[])(ha:a=none\/∃b,a=some ⟨b,0,none⟩)(hr:rowRd m2 a' (cs++ds))(hf:TokFact m a a' (k+1) c'):RowOk m2 (.slice a' (k+1) c') (k+1) (cs++ds)/\∀b esz,(Tok.mk (.slice a' (k+1) c') esz).blk=some b->(∀n0 c0 e0,(Tok.mk (.slice a n0 c0) e0).blk=some b)\/m.free b:=by
 have cE:cs++ds≠[]:=by simp[hd]
 replace hf:=hf.old (λb o e=>by
  rcases ha with h|⟨b',h⟩
  ·rw[h]at e;cases e
  ·rw[h]at e;cases e;rfl)
 rcases hr with h|⟨b,o,h1,h2⟩
 ·exact absurd h cE
 ·rcases hf.2 with h|⟨b',h3,h4⟩
  ·rw[h]at h1;cases h1
  ·rw[h3]at h1
   simp only[Option.some.injEq,Addr.mk.injEq,and_true]at h1
   obtain⟨rfl,rfl⟩:=h1
   refine⟨.inr ⟨b',c',by rw[h3],h2,by omega⟩,λb esz hb=>?_⟩
   subst h3
   simp[Tok.blk]at hb
   subst hb
   rcases h4 with h4|h4
   ·exact .inl λ_ _ _=>by rw[h4];rfl
   ·exact .inr h4
theorem ZsP(t:T)(s:Ms)(c0b mkb:Nat)(t0a t1a:Option Addr)(t0n t0c t1n t1c:Nat)(m:Mem)(h:MkRow m (.slice t0a t0n t0c) (.slice t1a t1n t1c) s)(qv:s.sets.length < 448)(nk:s.fol.length=s.sets.length)(lh:m c0b 0=some (.pointer (some ⟨mkb,0,none⟩))):
  CXY Try.prog 137 #[t.v,.pointer (some ⟨c0b,0,none⟩)] m (Yof (.slice t0a t0n t0c) (.slice t1a t1n t1c)) [⟨mkb,[.slice t0a t0n t0c,.slice t1a t1n t1c],98,2,false,true⟩] [⟨.slice t0a t0n t0c,4⟩,⟨.slice t1a t1n t1c,7⟩]
   (MkR (.slice t0a t0n t0c) (.slice t1a t1n t1c) m (⟨2 ^ s.sets.length,2 ^ s.sets.length,false⟩,⟨s.sets++[(t.s0,t.s1,t.s2,t.s3)],s.fol++[0]⟩)):=by
 apply Zc7
 obtain⟨rfl,oK,kd⟩:=ZiW h.row0 (λe=>by rw[List.eq_nil_of_length_eq_zero e];rfl)
 obtain⟨rfl,dD,iZ⟩:=ZiW h.row1 (λe=>by rw[List.eq_nil_of_length_eq_zero e];rfl)
 intro b0 m1 aD _ kG _ bA bB
 have hp:=aD _ _ _ lh
 refine⟨_,hp,Zaa rfl (Zaa rfl ⟨rfl,Zal (v:=.slice t0a s.sets.length t0c) rfl (Zaa rfl ⟨_,hp,_,hp,_,hp,Zaa rfl (Zaa rfl ⟨rfl,Zal (v:=.slice t0a s.sets.length t0c) rfl ?_⟩)⟩)⟩)⟩
 intro b1 kU
 have jB:=Mem.le_add kU [Value.int .u64 t.s0,.int .u64 t.s1,.int .u64 t.s2,.int .u64 t.s3]
 refine Zaa rfl ⟨.inl rfl,Zbs s.sets,[.int .u64 t.s0,.int .u64 t.s1,.int .u64 t.s2,.int .u64 t.s3],by rw[Ze0];rfl,rfl,(oK.mono aD).mono jB,.inr ⟨b1,0,rfl,λj v hv=>by rw[Mem.add_same];simpa using hv⟩,λu hu=>?_,by show(s.sets.length+1)*32<=_;omega,by show s.sets.length+1<=_;omega,?_⟩
 ·simp only[List.mem_cons,List.not_mem_nil,or_false]at hu
  rcases hu with rfl|rfl|rfl|rfl <;> rfl
 intro a2 c2 m2 bN fQ um
 obtain⟨eY,li⟩:=ZqJ (by simp) kd fQ um
 refine⟨_,hp,Zaa rfl (Zaa rfl ⟨rfl,Zal (v:=.slice t1a s.fol.length t1c) rfl ?_⟩)⟩
 intro b2 lg V un wd we
 refine Zaa rfl ⟨.inl rfl,ZcB s.fol,bwL 0,by rw[Zgn];rfl,rfl,(dD.mono aD).mono un,.inr ⟨b2,0,rfl,λj v hv=>we _ _ _ (by rw[Mem.add_same];rw[ZjA]at hv;simpa using hv)⟩,λu hu=>?_,by show(s.fol.length+1)*56<=_;omega,by show s.fol.length+1<=_;omega,?_⟩
 ·rw[ZjA]at hu
  simp only[List.mem_cons,List.not_mem_nil,or_false]at hu
  rcases hu with rfl|rfl|rfl|rfl|rfl|rfl|rfl <;> rfl
 intro a3 c3 m3 bW jT wg
 obtain⟨eO,lj⟩:=ZqJ (by rw[ZjA];simp) iZ jT wg
 refine Zaa rfl (Zaa rfl ⟨rfl,by show(0+0+1<=1+1);omega,Zaa rfl (Zaa rfl ⟨rfl,by show(0+1+1<=2);omega,?_⟩)⟩)
 intro M eB _ dW _ f6
 refine⟨_,trivial,ZjI 0 s.sets.length qv bB 102 15 [] (bwL 0++[Value.bool false]) M (by omega),λv _ _ h=>by rw[h.1];rfl,λm5 cY cs5 jU=>?_⟩
 obtain rfl:cs5=_:=by simpa using jU.2
 refine⟨_,trivial,ZjI 0 s.sets.length qv bB 102 15 (bwL (2 ^ s.sets.length)) [Value.bool false] m5 (by omega),λv _ _ h=>by rw[h.1];rfl,λm6 gM cs6 sF=>?_⟩
 obtain rfl:cs6=_:=by simpa using sF.2
 have mt:M.le m6:=mLt cY gM
 refine Zaa rfl ⟨rfl,_,_,_,_,_,_,?_,rfl,rfl,⟨?_,?_,?_⟩,?_⟩
 ·rfl
 ·show RowOk m6 _ (s.sets++_).length (Zbs (s.sets++_))
  rw[Zps,zA1]
  exact eY.mono (mLt dW mt)
 ·show RowOk m6 _ (s.fol++_).length (ZcB (s.fol++_))
  rw[Zpt,zA1]
  exact eO.mono (mLt f6 mt)
 ·intro b hb hb'
  rcases lj b 7 hb' with h1|h1
  ·rcases li b 4 hb with h2|h2
   ·exact h.ne b (h2 _ _ _) (h1 _ _ _)
   ·obtain⟨_,_,q1,q2⟩:=Zec h.row1 (h1 _ _ 7)
    obtain⟨n,hn⟩:=ZfC q2
    have:=aD _ _ _ (q1 0 _ hn)
    have:=jB _ _ _ this
    rw[h2]at this;cases this
  ·obtain⟨_,_,q1,q2⟩:=Zec eY hb
   have:=wd _ _ _ (q1 0 _ (zA3 (by simp)))
   rw[h1]at this;cases this
 ·intro b hb
  rcases hb with hb|hb
  ·rcases li b 4 hb with h2|h2
   ·exact .inl (.inl (h2 _ _ _))
   ·exact .inr (Zou (mLt aD jB) h2)
  ·rcases lj b 7 hb with h2|h2
   ·exact .inl (.inr (h2 _ _ _))
   ·exact .inr (Zou (mLt aD un) h2)
theorem Zov{m m':Mem}(Y:Nat->Prop)(h:m.le m'):(m.off Y).le (m'.off Y):=λb o v hv=>by
 unfold Mem.off at hv ⊢
 split at hv
 ·cases hv
 ·rename_i hY;rw[if_neg hY];exact h _ _ _ hv
theorem ZsQ{m:Mem}{Y:Nat->Prop}{b:Nat}(h:m.free b):(m.off Y).free b:=λo=>by
 unfold Mem.off;split
 ·rfl
 ·exact h o
structure MkSt (m:Mem)(v0 v1:Value)(m':Mem)(v0' v1':Value)(s':Ms):Prop where
 row:MkRow m' v0' v1' s'
 base:(m.off (Yof v0 v1)).le (m'.off (Yof v0' v1'))
 new:∀b,Yof v0' v1' b->Yof v0 v1 b\/m.free b
 ok:MsOk s'
theorem MkSt.step{m m' m'':Mem}{v0 v1 v0' v1' v0'' v1'':Value}{s' s'':Ms}(h:MkSt m v0 v1 m' v0' v1' s')(cA:(m'.off (Yof v0' v1')).le m'')(hr:MkRow m'' v0'' v1'' s'')(hn:∀b,Yof v0'' v1'' b->Yof v0' v1' b\/m'.free b)(hs:MsOk s''):MkSt m v0 v1 m'' v0'' v1'' s'':=by
 refine⟨hr,mLt h.base (ZlL cA hn),λb hb=>?_,hs⟩
 rcases hn b hb with h1|h1
 ·exact h.new b h1
 ·by_cases hY:Yof v0 v1 b
  ·exact .inl hY
  ·refine .inr λo=>?_
   have h2:=Zou h.base (b:=b) (ZsQ h1) o
   rwa [Mem.off_at hY]at h2
theorem MkSt.mono{m m' m'':Mem}{v0 v1 v0' v1':Value}{s':Ms}(h:MkSt m v0 v1 m' v0' v1' s')(hm:m'.le m''):MkSt m v0 v1 m'' v0' v1' s':=
 ⟨h.row.mono hm,mLt h.base (Zov _ hm),h.new,h.ok⟩
theorem MkSt.refl{m m':Mem}{v0 v1:Value}{s:Ms}(h:MkRow m v0 v1 s)(hs:MsOk s)(hm:m.le m'):MkSt m v0 v1 m' v0 v1 s:=
 ⟨h.mono hm,Zov _ hm,λb hb=>.inl hb,hs⟩
theorem lentC{P:Program}{g:FuncId}{args:Array Value}{m:Mem}{v0 v1:Value}{xs:List Box}{R0:Value->Mem->List (List Value)->List Value->Prop}{Q:Nat->Prop}{F:Shape}{K:(Nat->Prop)->(Value->Mem->List (List Value)->List Value->Prop)->Prop}(h:CXY P g args m (Yof v0 v1) xs [⟨v0,4⟩,⟨v1,7⟩] R0)(hf:∀v m' css tvs,R0 v m' css tvs->Shape.fits F v=true)(k:K (Yof v0 v1) R0):
  ∃(Y1:Nat->Prop) (R:Value->Mem->List (List Value)->List Value->Prop),CXY P g args m Y1 xs [⟨v0,4⟩,⟨v1,7⟩] R/\(∀t:Tok,t∈[Tok.mk v0 4,Tok.mk v1 7]->∀b,t.blk=some b->Y1 b)/\(∀b,Y1 b->(∃t:Tok,t∈[Tok.mk v0 4,Tok.mk v1 7]/\t.blk=some b)\/Q b)/\(∀v m' css tvs,R v m' css tvs->Shape.fits F v=true)/\K Y1 R:=by
 refine⟨_,_,h,λt ht b hb=>?_,λb hb=>.inl ?_,hf,k⟩
 ·simp only[List.mem_cons,List.not_mem_nil,or_false]at ht
  rcases ht with rfl|rfl
  ·exact .inl hb
  ·exact .inr hb
 ·rcases hb with hb|hb
  ·exact⟨_,by simp,hb⟩
  ·exact⟨_,by simp,hb⟩
abbrev Zt8:=Int->Int->Int->Int->Int->Int->Int->Int->Int->Int->Int->Int->Int->Int->Bool->Mem->List Value->Option Addr->Nat->Nat->Option Addr->Nat->Nat->Prop
theorem ZbU{t0 t1:Value}{m:Mem}{r:Pt×Ms}:∀v m' css tvs,MkR t0 t1 m r v m' css tvs->Shape.fits (.agg [.int .u64,.int .u64,.int .u64,.int .u64,.int .u64,.int .u64,.int .u64,.int .u64,.int .u64,.int .u64,.int .u64,.int .u64,.int .u64,.int .u64,.bool]) v=true:=by
 rintro v m' css tvs ⟨a,n,c,a1,n1,c1,rfl,_⟩;rfl
theorem Zdc{t0 t1:Value}{s:Ms}{p:Pt}:∀v m' css tvs,ZpQ t0 t1 s p.v v m' css tvs->Shape.fits (.agg [.int .u64,.int .u64,.int .u64,.int .u64,.int .u64,.int .u64,.int .u64,.int .u64,.int .u64,.int .u64,.int .u64,.int .u64,.int .u64,.int .u64,.bool]) v=true:=by
 rintro v m' css tvs ⟨rfl,_⟩;rfl
theorem Ze9{m0 mm:Mem}{w0 w1 v0 v1:Value}{s:Ms}{r:Pt×Ms}{K:Zt8}(bV:MkSt m0 w0 w1 mm v0 v1 s)(ge:MsOk r.2)
  (k:∀(m':Mem)(a:Option Addr)(n c:Nat)(a1:Option Addr)(n1 c1:Nat),MkSt m0 w0 w1 m' (.slice a n c) (.slice a1 n1 c1) r.2->K (wdN r.1.first 0:Nat) (wdN r.1.first 1:Nat) (wdN r.1.first 2:Nat) (wdN r.1.first 3:Nat) (wdN r.1.first 4:Nat) (wdN r.1.first 5:Nat) (wdN r.1.first 6:Nat) (wdN r.1.last 0:Nat) (wdN r.1.last 1:Nat) (wdN r.1.last 2:Nat) (wdN r.1.last 3:Nat) (wdN r.1.last 4:Nat) (wdN r.1.last 5:Nat) (wdN r.1.last 6:Nat) r.1.null m' [.slice a n c,.slice a1 n1 c1] a n c a1 n1 c1):
  ∀(n0 n1 n2 n3 n4 n5 n6 n7 n8 n9 n10 n11 n12 n13:Int)(b:Bool)(m':Mem),(mm.off (Yof v0 v1)).le m'->(∀(b o:Nat)(u:Value),m' b o=some u->mm b o=some u\/Yof v0 v1 b\/mm.free b)->∀(cs:List Value)(a:Option Addr)(c d:Nat)(a1:Option Addr)(c1 d1:Nat),
   MkR v0 v1 mm r (.agg #[.int .u64 n0,.int .u64 n1,.int .u64 n2,.int .u64 n3,.int .u64 n4,.int .u64 n5,.int .u64 n6,.int .u64 n7,.int .u64 n8,.int .u64 n9,.int .u64 n10,.int .u64 n11,.int .u64 n12,.int .u64 n13,.bool b]) m' [cs] [.slice a c d,.slice a1 c1 d1]->K n0 n1 n2 n3 n4 n5 n6 n7 n8 n9 n10 n11 n12 n13 b m' cs a c d a1 c1 d1:=by
 rintro n0 n1 n2 n3 n4 n5 n6 n7 n8 n9 n10 n11 n12 n13 b m' cA _ cs a c d a1 c1 d1 ⟨a',n',c',a1',n1',c1',hv,bZ,cO,bQ,cF⟩
 obtain rfl:cs=[.slice a' n' c',.slice a1' n1' c1']:=by simpa using bZ
 simp only[List.cons.injEq,Value.slice.injEq,and_true]at cO
 obtain⟨⟨rfl,rfl,rfl⟩,rfl,rfl,rfl⟩:=cO
 simp only[Pt.v,Value.agg.injEq,Array.mk.injEq,List.cons.injEq,Value.int.injEq,Value.bool.injEq,true_and,and_true]at hv
 obtain⟨rfl,rfl,rfl,rfl,rfl,rfl,rfl,rfl,rfl,rfl,rfl,rfl,rfl,rfl,rfl⟩:=hv
 exact k _ _ _ _ _ _ _ (bV.step cA bQ cF ge)
theorem Zkj{m0 mm:Mem}{w0 w1 v0 v1:Value}{s s2:Ms}{p:Pt}{K:Zt8}(bV:MkSt m0 w0 w1 mm v0 v1 s)(ge:MsOk s2)
  (k:∀(m':Mem)(a:Option Addr)(n c:Nat)(a1:Option Addr)(n1 c1:Nat),MkSt m0 w0 w1 m' (.slice a n c) (.slice a1 n1 c1) s2->K (wdN p.first 0:Nat) (wdN p.first 1:Nat) (wdN p.first 2:Nat) (wdN p.first 3:Nat) (wdN p.first 4:Nat) (wdN p.first 5:Nat) (wdN p.first 6:Nat) (wdN p.last 0:Nat) (wdN p.last 1:Nat) (wdN p.last 2:Nat) (wdN p.last 3:Nat) (wdN p.last 4:Nat) (wdN p.last 5:Nat) (wdN p.last 6:Nat) p.null m' [.slice a n c,.slice a1 n1 c1] a n c a1 n1 c1):
  ∀(n0 n1 n2 n3 n4 n5 n6 n7 n8 n9 n10 n11 n12 n13:Int)(b:Bool)(m':Mem),(mm.off (Yof v0 v1)).le m'->(∀(b o:Nat)(u:Value),m' b o=some u->mm b o=some u\/Yof v0 v1 b\/mm.free b)->∀(cs:List Value)(a:Option Addr)(c d:Nat)(a1:Option Addr)(c1 d1:Nat),
   ZpQ v0 v1 s2 p.v (.agg #[.int .u64 n0,.int .u64 n1,.int .u64 n2,.int .u64 n3,.int .u64 n4,.int .u64 n5,.int .u64 n6,.int .u64 n7,.int .u64 n8,.int .u64 n9,.int .u64 n10,.int .u64 n11,.int .u64 n12,.int .u64 n13,.bool b]) m' [cs] [.slice a c d,.slice a1 c1 d1]->K n0 n1 n2 n3 n4 n5 n6 n7 n8 n9 n10 n11 n12 n13 b m' cs a c d a1 c1 d1:=by
 rintro n0 n1 n2 n3 n4 n5 n6 n7 n8 n9 n10 n11 n12 n13 b m' cA _ cs a c d a1 c1 d1 ⟨hv,bZ,cO,bQ⟩
 simp only[List.cons.injEq,and_true]at cO
 obtain⟨rfl,rfl⟩:=cO
 obtain rfl:cs=[.slice a c d,.slice a1 c1 d1]:=by simpa using bZ
 simp only[Pt.v,Value.agg.injEq,Array.mk.injEq,List.cons.injEq,Value.int.injEq,Value.bool.injEq,true_and,and_true]at hv
 obtain⟨rfl,rfl,rfl,rfl,rfl,rfl,rfl,rfl,rfl,rfl,rfl,rfl,rfl,rfl,rfl⟩:=hv
 exact k _ _ _ _ _ _ _ (bV.step cA bQ (λb hb=>.inl hb) ge)
def MkC(t:T):Prop:=∀(s:Ms)(mkb:Nat)(t0a t1a:Option Addr)(t0n t0c t1n t1c:Nat)(m:Mem),MkRow m (.slice t0a t0n t0c) (.slice t1a t1n t1c) s->MsOk s->Rep (m.off (Yof (.slice t0a t0n t0c) (.slice t1a t1n t1c))) t->(mk t s).2.sets.length<=448->
 CXY Try.prog 61 #[.pointer (some ⟨mkb,0,none⟩),t.v] m (Yof (.slice t0a t0n t0c) (.slice t1a t1n t1c)) [⟨mkb,[.slice t0a t0n t0c,.slice t1a t1n t1c],98,2,false,true⟩] [⟨.slice t0a t0n t0c,4⟩,⟨.slice t1a t1n t1c,7⟩] (MkR (.slice t0a t0n t0c) (.slice t1a t1n t1c) m (mk t s))
theorem MkSt.out{m m':Mem}{v0 v1:Value}{s':Ms}{a:Option Addr}{n c:Nat}{a1:Option Addr}{n1 c1:Nat}{r:Pt×Ms}{w:Value}(h:MkSt m v0 v1 m' (.slice a n c) (.slice a1 n1 c1) s')(hw:w=r.1.v)(hs:s'=r.2):MkR v0 v1 m r w m' [[.slice a n c,.slice a1 n1 c1]] [.slice a n c,.slice a1 n1 c1]:=
 ⟨a,n,c,a1,n1,c1,hw,rfl,rfl,hs ▸ h.row,h.new⟩
theorem ZsR(t:T)(ih:∀x∈t.subs,MkC x)(s:Ms)(c0b mkb:Nat)(t0a t1a:Option Addr)(t0n t0c t1n t1c:Nat)(m:Mem)(h:MkRow m (.slice t0a t0n t0c) (.slice t1a t1n t1c) s)(hs:MsOk s)(hr:Rep (m.off (Yof (.slice t0a t0n t0c) (.slice t1a t1n t1c))) t)(lh:(m.off (Yof (.slice t0a t0n t0c) (.slice t1a t1n t1c))) c0b 0=some (.pointer (some ⟨mkb,0,none⟩)))(hN:(ZeK t.subs ⟨0,0,true⟩ s).2.sets.length<=448):
  CXY Try.prog 138 #[t.v,.pointer (some ⟨c0b,0,none⟩)] m (Yof (.slice t0a t0n t0c) (.slice t1a t1n t1c)) [⟨mkb,[.slice t0a t0n t0c,.slice t1a t1n t1c],98,2,false,true⟩] [⟨.slice t0a t0n t0c,4⟩,⟨.slice t1a t1n t1c,7⟩]
   (MkR (.slice t0a t0n t0c) (.slice t1a t1n t1c) m (ZeK t.subs ⟨0,0,true⟩ s)):=by
 apply Zc8
 intro b0 m1 aD _ kG iZ b1 b2
 have bG:=(ZcQ hr).1
 refine⟨λxs css tvs m' q=>∃(k:Nat)(out:Pt)(s':Ms)(a:Option Addr)(n c:Nat)(a1:Option Addr)(n1 c1:Nat),k<=t.subs.length/\xs=[.int .i64 k]/\css=[out.cs,[.slice a n c,.slice a1 n1 c1]]/\tvs=[.slice a n c,.slice a1 n1 c1]/\q=t.subs.length - k/\MkSt m (.slice t0a t0n t0c) (.slice t1a t1n t1c) m' (.slice a n c) (.slice a1 n1 c1) s'/\PtIn s'.sets.length out/\ZeK (t.subs.drop k) out s'=ZeK t.subs ⟨0,0,true⟩ s,
  ⟨_,0,⟨0,0,true⟩,s,t0a,t0n,t0c,t1a,t1n,t1c,Nat.zero_le _,rfl,rfl,rfl,rfl,MkSt.refl h hs aD,Zbu _ _,rfl⟩,?_⟩
 rintro x cs cs1 a n c a1 n1 c1 m2 q _ ⟨k,out,s',a',n',c',a1',n1',c1',hk,hx,bZ,cO,hq,bV,lk,heq⟩
 obtain rfl:x=k:=by simpa using hx
 simp only[List.cons.injEq,and_true]at bZ
 obtain⟨rfl,rfl⟩:=bZ
 simp only[List.cons.injEq,Value.slice.injEq,and_true]at cO
 obtain⟨⟨rfl,rfl,rfl⟩,rfl,rfl,rfl⟩:=cO
 subst hq
 refine Zab (λaH=>?_) (λcL=>?_)
 ·have aF:k < t.subs.length:=by have:=zA6 aH;omega
  obtain⟨y,hy⟩:∃y,t.subs[k]?=some y:=⟨t.subs[k],by simp[aF]⟩
  rcases(ZcQ hr).2 with he|⟨bt,ot,eP,gA⟩
  ·rw[he]at aF;simp at aF
  obtain⟨cM,ji⟩:=gA.get hy
  have fQ:=(cM.mono bV.base).mono (Mem.off_le m2 _)
  have dC:=Zna hy out s'
  have eA:=ZcX y s' bV.ok
  have oN:=ZdY eA.ok (lk.mono eA.le) eA.pt
  have gf:=ZdZ (t.subs.drop (k+1)) _ _ oN.ok oN.pt
  rw[<-dC,heq]at gf
  have jk:(mk y s').2.sets.length<=448:=Nat.le_trans oN.le (Nat.le_trans gf.le hN)
  refine⟨bt,ot,eP,⟨by omega,by omega⟩,_,_,_,_,_,_,_,_,(by rw[zA8];exact fQ),λb3=>Zaa rfl ⟨_,lh,_,lh,?_⟩⟩
  refine lentC (ih y (zA2 hy) s' mkb _ _ _ _ _ _ m2 bV.row bV.ok (Rep.mono bV.base y ji) jk) ZbU (Ze9 bV eA.ok λm3 a3 n3 c3 a4 n4 c4 cK=>?_)
  refine lentC (ZeD (mk y s').2 out (mk y s').1 mkb _ _ _ _ _ _ m3 cK.row (by rw[eA.ok.len];exact jk) (λi hi=>by rw[eA.ok.len];exact(lk.mono eA.le).2 i hi)) Zdc (Zkj cK oN.ok λm5 a5 n5 c5 a6 n6 c6 eG=>?_)
  refine⟨rfl,rfl,_,?_,k+1,(Zgm out (mk y s').1 (mk y s').2).1,_,_,_,_,_,_,_,aF,?_,rfl,rfl,rfl,eG,oN.pt,?_⟩
  ·omega
  ·rw[Zat (by omega) (by omega)];rfl
  ·exact dC.symm.trans heq
 ·have hk':k=t.subs.length:=by have:=of_decide_eq_false cL;omega
  subst hk'
  rw[List.drop_length,ZeK]at heq
  refine Zaa rfl ⟨rfl,bV.out ?_ ?_⟩
  ·rw[<-heq];rfl
  ·rw[<-heq]
theorem ZsS(t:T)(ih:∀x∈t.subs,MkC x)(s:Ms)(c0b mkb:Nat)(t0a t1a:Option Addr)(t0n t0c t1n t1c:Nat)(m:Mem)(h:MkRow m (.slice t0a t0n t0c) (.slice t1a t1n t1c) s)(hs:MsOk s)(hr:Rep (m.off (Yof (.slice t0a t0n t0c) (.slice t1a t1n t1c))) t)(lh:(m.off (Yof (.slice t0a t0n t0c) (.slice t1a t1n t1c))) c0b 0=some (.pointer (some ⟨mkb,0,none⟩)))(hN:(ZdX t.subs ⟨0,0,false⟩ s).2.sets.length<=448):
  CXY Try.prog 140 #[t.v,.pointer (some ⟨c0b,0,none⟩)] m (Yof (.slice t0a t0n t0c) (.slice t1a t1n t1c)) [⟨mkb,[.slice t0a t0n t0c,.slice t1a t1n t1c],98,2,false,true⟩] [⟨.slice t0a t0n t0c,4⟩,⟨.slice t1a t1n t1c,7⟩]
   (MkR (.slice t0a t0n t0c) (.slice t1a t1n t1c) m (ZdX t.subs ⟨0,0,false⟩ s)):=by
 apply Zc9
 intro b0 m1 aD _ kG iZ b1 b2
 have bG:=(ZcQ hr).1
 refine⟨λxs css tvs m' q=>∃(k:Nat)(out:Pt)(s':Ms)(a:Option Addr)(n c:Nat)(a1:Option Addr)(n1 c1:Nat),k<=t.subs.length/\xs=[.int .i64 k]/\css=[out.cs,[.slice a n c,.slice a1 n1 c1]]/\tvs=[.slice a n c,.slice a1 n1 c1]/\q=t.subs.length - k/\MkSt m (.slice t0a t0n t0c) (.slice t1a t1n t1c) m' (.slice a n c) (.slice a1 n1 c1) s'/\PtIn s'.sets.length out/\ZdX (t.subs.drop k) out s'=ZdX t.subs ⟨0,0,false⟩ s,
  ⟨_,0,⟨0,0,false⟩,s,t0a,t0n,t0c,t1a,t1n,t1c,Nat.zero_le _,rfl,rfl,rfl,rfl,MkSt.refl h hs aD,Zbu _ _,rfl⟩,?_⟩
 rintro x cs cs1 a n c a1 n1 c1 m2 q _ ⟨k,out,s',a',n',c',a1',n1',c1',hk,hx,bZ,cO,hq,bV,lk,heq⟩
 obtain rfl:x=k:=by simpa using hx
 simp only[List.cons.injEq,and_true]at bZ
 obtain⟨rfl,rfl⟩:=bZ
 simp only[List.cons.injEq,Value.slice.injEq,and_true]at cO
 obtain⟨⟨rfl,rfl,rfl⟩,rfl,rfl,rfl⟩:=cO
 subst hq
 refine Zab (λaH=>?_) (λcL=>?_)
 ·have aF:k < t.subs.length:=by have:=zA6 aH;omega
  obtain⟨y,hy⟩:∃y,t.subs[k]?=some y:=⟨t.subs[k],by simp[aF]⟩
  rcases(ZcQ hr).2 with he|⟨bt,ot,eP,gA⟩
  ·rw[he]at aF;simp at aF
  obtain⟨cM,ji⟩:=gA.get hy
  have fQ:=(cM.mono bV.base).mono (Mem.off_le m2 _)
  have dC:=Znb hy out s'
  have eA:=ZcX y s' bV.ok
  have oO:=Zqv (lk.mono eA.le) eA.pt
  have gf:=Zd0 (t.subs.drop (k+1)) _ _ eA.ok oO
  rw[<-dC,heq]at gf
  have jk:(mk y s').2.sets.length<=448:=Nat.le_trans gf.le hN
  refine⟨bt,ot,eP,⟨by omega,by omega⟩,_,_,_,_,_,_,_,_,(by rw[zA8];exact fQ),λb3=>Zaa rfl ⟨_,Mem.off_le _ _ _ _ _ (bV.base _ _ _ lh),?_⟩⟩
  refine lentC (ih y (zA2 hy) s' mkb _ _ _ _ _ _ m2 bV.row bV.ok (Rep.mono bV.base y ji) jk) ZbU (Ze9 bV eA.ok λm3 a3 n3 c3 a4 n4 c4 cK b6=>?_)
  refine⟨_,trivial,Zmh out.first (mk y s').1.first b2 102 15 [] (bwL out.last++[Value.bool out.null]) m3 (by omega),λv _ _ h=>by rw[h.1];rfl,λm4 cP cs1 io=>?_⟩
  obtain rfl:cs1=_:=by simpa using io.2
  refine⟨_,trivial,Zmh out.last (mk y s').1.last b2 102 15 (bwL (out.first|||(mk y s').1.first)) [Value.bool out.null] m4 (by omega),λv _ _ h=>by rw[h.1];rfl,λm5 cY cs2 jS=>?_⟩
  obtain rfl:cs2=_:=by simpa using jS.2
  have eG:=cK.mono (mLt cP cY)
  have fin:∀cs:List Value,cs=(Zug out (mk y s').1).cs->∃n',n' < t.subs.length - k/\(λ(xs:List Value) (css:List (List Value)) (tvs:List Value) (m':Mem) (q:Nat)=>∃(k:Nat)(out:Pt)(s':Ms)(a:Option Addr)(n c:Nat)(a1:Option Addr)(n1 c1:Nat),k<=t.subs.length/\xs=[.int .i64 k]/\css=[out.cs,[.slice a n c,.slice a1 n1 c1]]/\tvs=[.slice a n c,.slice a1 n1 c1]/\q=t.subs.length - k/\MkSt m (.slice t0a t0n t0c) (.slice t1a t1n t1c) m' (.slice a n c) (.slice a1 n1 c1) s'/\PtIn s'.sets.length out/\ZdX (t.subs.drop k) out s'=ZdX t.subs ⟨0,0,false⟩ s) [.int .i64 (IntKind.i64.wrap ((k:Int)+1))] [cs,[.slice a3 n3 c3,.slice a4 n4 c4]] [.slice a3 n3 c3,.slice a4 n4 c4] m5 n':=λcs bZ=>
   ⟨_,by omega,k+1,Zug out (mk y s').1,_,_,_,_,_,_,_,aF,by rw[Zat (by omega) (by omega)];rfl,by rw[bZ],rfl,rfl,eG,oO,dC.symm.trans heq⟩
  obtain⟨of,ol,on⟩:=out
  refine Zal (v:=.bool on) rfl ?_
  generalize xm:(mk y s').1=r1 at fin ⊢
  obtain⟨rf,rl,rn⟩:=r1
  cases on <;> cases rn
  ·exact Zaa rfl (ZaZ rfl (Zaa rfl ⟨rfl,rfl,fin _ rfl⟩))
  ·exact Zaa rfl (ZaZ rfl (Zaa rfl ⟨rfl,rfl,fin _ rfl⟩))
  ·exact Zaa rfl (ZbZ rfl (Zaa rfl ⟨rfl,rfl,fin _ rfl⟩))
  ·exact Zaa rfl (ZbZ rfl (Zaa rfl ⟨rfl,rfl,fin _ rfl⟩))
 ·have hk':k=t.subs.length:=by have:=of_decide_eq_false cL;omega
  subst hk'
  rw[List.drop_length,ZdX]at heq
  refine Zaa rfl ⟨rfl,bV.out ?_ ?_⟩
  ·rw[<-heq];rfl
  ·rw[<-heq]
theorem ZpR(t:T)(ht:t.subs.length=1)(ih:∀x∈t.subs,MkC x)(s:Ms)(c0b mkb:Nat)(t0a t1a:Option Addr)(t0n t0c t1n t1c:Nat)(m:Mem)(h:MkRow m (.slice t0a t0n t0c) (.slice t1a t1n t1c) s)(hs:MsOk s)(hr:Rep (m.off (Yof (.slice t0a t0n t0c) (.slice t1a t1n t1c))) t)(lh:(m.off (Yof (.slice t0a t0n t0c) (.slice t1a t1n t1c))) c0b 0=some (.pointer (some ⟨mkb,0,none⟩)))(hN:(ZiH t.subs s).2.sets.length<=448):
  CXY Try.prog 143 #[t.v,.pointer (some ⟨c0b,0,none⟩)] m (Yof (.slice t0a t0n t0c) (.slice t1a t1n t1c)) [⟨mkb,[.slice t0a t0n t0c,.slice t1a t1n t1c],98,2,false,true⟩] [⟨.slice t0a t0n t0c,4⟩,⟨.slice t1a t1n t1c,7⟩]
   (MkR (.slice t0a t0n t0c) (.slice t1a t1n t1c) m (ZiH t.subs s)):=by
 apply Zda
 intro b0 m1 aD _ kG iZ b1
 have bV:=MkSt.refl h hs aD
 obtain⟨y,hy⟩:∃y,t.subs[0]?=some y:=⟨t.subs[0],by simp[ht]⟩
 have wh:ZiH t.subs s=mk y s:=by
  cases hl:t.subs with
  | nil=>rw[hl]at hy;simp at hy
  | cons z l=>rw[hl]at hy;simp at hy;subst hy;rw[ZiH]
 rw[wh]at hN ⊢
 rcases(ZcQ hr).2 with he|⟨bt,ot,eP,gA⟩
 ·rw[he]at ht;simp at ht
 obtain⟨cM,ji⟩:=gA.get hy
 have fQ:=(cM.mono bV.base).mono (Mem.off_le m1 _)
 have eA:=ZcX y s hs
 refine⟨λ_ _ _ _ _ _=>True,_,aD _ _ _ (Mem.off_le _ _ _ _ _ lh),bt,ot,eP,⟨by omega,by omega⟩,_,_,_,_,_,_,_,_,(by rw[Nat.zero_mul]at fQ;exact fQ),?_⟩
 refine lentC (ih y (zA2 hy) s mkb _ _ _ _ _ _ m1 bV.row bV.ok (Rep.mono bV.base y ji) hN) ZbU (Ze9 bV eA.ok λm3 a3 n3 c3 a4 n4 c4 cK=>?_)
 exact⟨rfl,cK.out rfl rfl⟩
end Go.Proofs.Ytplacemlpkhmfaa
end
