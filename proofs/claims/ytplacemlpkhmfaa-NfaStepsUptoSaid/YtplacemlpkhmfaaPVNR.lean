/- Part of the proof: conditions and contracts of functions of this program. No condition of its own. -/
import Derived.Test.YtplacemlpkhmfaaPC13B
import Derived.Test.YtplacemlpkhmfaaMr
import Derived.Test.YtplacemlpkhmfaaPEnv
import Derived.Test.YtplacemlpkhmfaaMc
import Derived.Test.YtplacemlpkhmfaaRows
set_option linter.unusedVariables false
set_option linter.unusedSimpArgs false
set_option linter.unusedSectionVars false
namespace Go.Proofs.Ytplacemlpkhmfaa
open Go Go.Eng Go.Rx Go.Proofs Go.RowKit
theorem ZvX{b:Bool}{p q:Prop}(h:b=true)(k:p):br b p q:=by subst h;exact k
theorem ZsF{b:Bool}{p q:Prop}(h:b=false)(k:q):br b p q:=by subst h;exact k
theorem ZtS{m:Mem}{a:Option Addr}{ts:List T}(h:rowRd m a (Rx.Zee ts)){i:Nat}{t:T}(hi:ts[i]?=some t):∃b o,a=some ⟨b,o,none⟩∧m.reads b (o+i*8) t.cs:=by
 rcases h with h|⟨b,o,ha,h⟩
 ·have hl:(Rx.Zee ts).length=0:=by rw[h];rfl
  rw[ZhX]at hl
  have:=(List.getElem?_eq_some_iff.1 hi).1
  omega
 ·refine⟨b,o,ha,fun j v hj=>?_⟩
  rw[Nat.add_assoc]
  refine h (i*8+j) v ?_
  have e:ts=ts.take i++(t::ts.drop (i+1)):=by
   have bV:=(List.getElem?_eq_some_iff.1 hi).1
   have h2:=List.drop_eq_getElem_cons bV
   rw[(List.getElem?_eq_some_iff.1 hi).2]at h2
   rw[←h2,List.take_append_drop]
  have bV:=(List.getElem?_eq_some_iff.1 hi).1
  have vj:=(List.getElem?_eq_some_iff.1 hj).1
  rw[e,ZjR,List.getElem?_append_right (by rw[ZhX,List.length_take,Nat.min_eq_left (by omega)];omega),ZhX,List.length_take,Nat.min_eq_left (by omega),show i*8+j - i*8=j by omega]
  have e2:Rx.Zee (t::ts.drop (i+1))=t.cs++Rx.Zee (ts.drop (i+1)):=by simp[Rx.Zee]
  rw[e2,List.getElem?_append_left vj];exact hj
def Apart(mb:Mem)(a:Option Addr):Prop:=a=none∨∃b,a=some ⟨b,0,none⟩∧mb.free b
theorem Apart.tok{mb M:Mem}{a a':Option Addr}{n c:Nat}(h:Apart mb a)(hm:mb.le M)(ht:TokFact M a a' n c):Apart mb a':=by
 rcases ht.2 with h1|⟨b,o,h1,h2⟩
 ·exact .inl h1
 rcases h2 with h2|⟨h3,h2⟩
 ·rw[←h2];exact h
 ·subst h3
  refine .inr ⟨b,h1,fun o=>?_⟩
  cases hb:mb b o with
  | none=>rfl
  | some v=>have:=hm _ _ _ hb;rw[h2 o]at this;cases this
theorem Apart.base{mb m:Mem}{a:Option Addr}{ts:List T}(h:Apart mb a)(cV:rowRd m a (Rx.Zee ts))(hn:ts≠[]):∃b,a=some ⟨b,0,none⟩∧mb.free b∧∃o u,m b o=some u:=by
 obtain⟨t,r,rfl⟩:∃t r,ts=t::r:=by cases ts with
  | nil=>exact absurd rfl hn
  | cons t r=>exact⟨t,r,rfl⟩
 obtain⟨b',o,ha,cN⟩:=ZtS cV (i:=0) (t:=t) rfl
 rcases h with h|⟨b,hb,hf⟩
 ·rw[h]at ha;cases ha
 ·rw[hb]at ha;cases ha
  exact⟨b',hb,hf,_,_,cN 0 (.int .u8 t.k) rfl⟩
end Go.Proofs.Ytplacemlpkhmfaa
set_option linter.unusedVariables false
namespace Go.Proofs.Ytplacemlpkhmfaa
open Go Go.Eng Go.Proofs Go.RowKit
open Go.Value (int slice agg)
open Go.IntKind (u8 u64 i64)
set_option maxRecDepth 100000
end Go.Proofs.Ytplacemlpkhmfaa
set_option linter.unusedVariables false
namespace Go.Proofs.Ytplacemlpkhmfaa
open Go Go.Eng Go.Proofs Go.RowKit
open Go.Value (int slice agg)
open Go.IntKind (u8 u64 i64)
set_option maxRecDepth 100000
noncomputable def ZoV:Env:={ EB with
 frzNew:=[2] }
def Zjg(aR aS aT aU p1:Int)(m:Mem)(R:RT):Prop:=
 ∀(b:Nat)(m':Mem),Mem.le m m'→Mem.reads m' b 0 [int u64 aR,int u64 aS,int u64 aT,int u64 aU]→(0:Int)≤(6:Int)∧Zag (Int.fdiv p1 ((2:Int) ^ 6)) 4∧Eng.Zrv [int u64 aR,int u64 aS,
 int u64 aT,int u64 aU] (0+Int.toNat (Int.fdiv p1 ((2:Int) ^ 6))*1) fun(v:Value)=>chk (Zbv u64 v&&true) ((0:Int)≤IntKind.wrap u8 (↑(BitVec.toNat (BitVec.ofInt 8 p1&&&BitVec.ofInt 8 (63:Int)))
 : Int)∧∃(m'':Mem),Mem.le m m''∧Mem.le m'' m'∧R (Value.bool (IntKind.wrap u64 (↑(BitVec.toNat (BitVec.ofInt 64 (Int.fdiv (RowKit.intOf v) ((2:Int) ^ min (Int.toNat (IntKind.wrap u8 (↑(BitVec.toNat
 (BitVec.ofInt 8 p1&&&BitVec.ofInt 8 (63:Int))):Int))) 64))&&&BitVec.ofInt 64 (1:Int))):Int) == (1:Int))) m'' [])
theorem Znz(aR aS aT aU p1:Int)(m:Mem)(R:RT)(h:Zjg aR aS aT aU p1 m R):CX Try.prog 117 #[.agg #[.int .u64 aR,.int .u64 aS,.int .u64 aT,.int .u64 aU],.int .u8 p1] m [] R:=
 Zal (E:=ZoV) Zaz mix Try.func117 [.v (.agg #[.int .u64 aR,.int .u64 aS,.int .u64 aT,.int .u64 aU]),.v (.int .u8 p1)] [] (by kernel_rfl) (Eq.mp (by kernel_rfl) h)
noncomputable def Zc5:Env:={ EB with
 loops:=(fun i=>bif Nat.beq i 4 then⟨[(13,.int .i64)],[],[],false⟩ else⟨[],[],[],false⟩)
 dr:=(fun i=>bif Nat.beq i 6 then[⟨0,[],[],none,[],[]⟩,⟨1,[],[],none,[],[]⟩,⟨2,[],[],none,[0,1],[]⟩,⟨3,[],[],none,[0,1,2],[]⟩,⟨4,[],[],none,[],[]⟩,⟨5,[],[],none,[],[]⟩,⟨6,[],[],none,[4,5],[]⟩,⟨7,[],[],none,[4,5,6],[]⟩,⟨8,[],[],none,[0,1,2,3,4,5,6,7],[]⟩]else[]) }
def ZbO(p0a:Option Addr)(p0n p0c:Nat)(p1a:Option Addr)(p1n p1c:Nat)(m:Mem)(R:RT):Prop:=
 br (!(↑p0n:Int) == (↑p1n:Int)) (∃(m'':Mem),Mem.le m m''∧Mem.le m'' m∧R (Value.bool false) m'' []) (∃(I:IT),(∃(n:Nat),I [int i64 0] [] [] m n)∧∀(n:Int)(m':Mem)(n_1:Nat),Mem.le m m'→I
 [int i64 n] [] [] m' n_1→br (decide (n < (↑p0n:Int))) (∃(b:Nat),∃(o:Nat),p0a=some (Addr.mk b o none)∧Zag n p0n∧∃(v:Value),m' b (o+Int.toNat n*1)=some v∧∃(b:Nat),∃(o:Nat),p1a =
 some (Addr.mk b o none)∧Zag n p1n∧∃(v_1:Value),m' b (o+Int.toNat n*1)=some v_1∧chk (Zbv i64 v&&Zbv i64 v_1) (br (!RowKit.intOf v == RowKit.intOf v_1) (∃(m'':Mem),Mem.le m m''∧Mem.le m''
 m'∧R (Value.bool false) m'' []) (∃(n':Nat),n' < n_1∧I [int i64 (IntKind.wrap i64 (n+(1:Int)))] [] [] m' n'))) (∃(m'':Mem),Mem.le m m''∧Mem.le m'' m'∧R (Value.bool true) m'' []))
theorem Zc1(p0a:Option Addr)(p0n p0c:Nat)(p1a:Option Addr)(p1n p1c:Nat)(m:Mem)(R:RT)(h:ZbO p0a p0n p0c p1a p1n p1c m R):CX Try.prog 23 #[.slice p0a p0n p0c,.slice p1a p1n p1c] m [] R:=
 Zal (E:=Zc5) Zaz mix Try.func23 [.v (.slice p0a p0n p0c),.v (.slice p1a p1n p1c)] [] (by kernel_rfl) (Eq.mp (by kernel_rfl) h)
end Go.Proofs.Ytplacemlpkhmfaa
set_option linter.unusedVariables false
set_option linter.unusedSimpArgs false
namespace Go.Proofs.Ytplacemlpkhmfaa
open Go Go.Eng Go.Rx Go.Proofs Go.RowKit
set_option maxRecDepth 100000
theorem ZvL(i:Nat):Int.tdiv (i:Int) 64=((i / 64:Nat):Int):=rfl
theorem Zvo(i:Nat):Int.tmod (i:Int) 64=((i % 64:Nat):Int):=rfl
theorem sh6:∀c:Nat,c < 256→IntKind.u8.wrap ((BitVec.ofInt 8 (c:Int)&&&BitVec.ofInt 8 63).toNat:Int)=((c % 64:Nat):Int)∧Int.fdiv (c:Int) (2 ^ 6)=((c / 64:Nat):Int):=by decide
theorem ZtT(t:T)(c:Nat)(hc:c < 256)(m:Mem)(hr:Rep m t):CX Try.prog 117 #[.agg #[.int .u64 t.s0,.int .u64 t.s1,.int .u64 t.s2,.int .u64 t.s3],.int .u8 c] m [] (Ret (.bool (t.hasB c))):=by
 apply Znz
 unfold Zjg
 intro b m1 bE _
 obtain⟨h1,h2⟩:=sh6 c hc
 simp only[h1,h2,Int.toNat_natCast,Nat.zero_add,Nat.mul_one]
 have cI:=ZuQ hr
 have hw:∃w:Int,[Value.int .u64 t.s0,.int .u64 t.s1,.int .u64 t.s2,.int .u64 t.s3][c / 64]?=some (.int .u64 w)∧0≤w∧w < 18446744073709551616∧t.hasB c=w.toNat.testBit (c % 64):=by
  have:c / 64=0∨c / 64=1∨c / 64=2∨c / 64=3:=by omega
  unfold T.hasB
  rcases this with e|e|e|e
  ·exact⟨t.s0,by rw[e];rfl,cI.s0.1,cI.s0.2,by simp[e]⟩
  ·exact⟨t.s1,by rw[e];rfl,cI.s1.1,cI.s1.2,by simp[e]⟩
  ·exact⟨t.s2,by rw[e];rfl,cI.s2.1,cI.s2.2,by simp[e]⟩
  ·exact⟨t.s3,by rw[e];rfl,cI.s3.1,cI.s3.2,by simp[e]⟩
 obtain⟨w,eF,dQ,ko,rB⟩:=hw
 refine⟨by omega,⟨by omega,by omega⟩,Zat eF (Zaa rfl ⟨by omega,Zad bE ?_⟩)⟩
 rw[rB,Nat.min_eq_left (by omega)]
 obtain⟨n,rfl⟩:∃n:Nat,w=n:=⟨w.toNat,by omega⟩
 show Value.bool (IntKind.u64.wrap _ == 1)=_
 simp only[intOf]
 rw[ZpC _ _ (by omega)]
 simp
end Go.Proofs.Ytplacemlpkhmfaa
set_option linter.unusedVariables false
set_option linter.unusedSimpArgs false
namespace Go.Proofs.Ytplacemlpkhmfaa
open Go Go.Eng Go.Proofs Go.RowKit Go.Rx
end Go.Proofs.Ytplacemlpkhmfaa
set_option linter.unusedVariables false
set_option linter.unusedSimpArgs false
set_option linter.unusedSectionVars false
namespace Go.Proofs.Ytplacemlpkhmfaa
open Go Go.Eng Go.Rx Go.Proofs Go.RowKit
set_option maxRecDepth 100000
abbrev txV(a:Option Addr)(s:List Nat)(c:Nat)(back:Bool):Value:=.agg #[.slice a s.length c,.bool back]
def IH(a:Option Addr)(s:List Nat)(c:Nat)(back:Bool)(t:T):Prop:=∀x∈t.subs,∀(f:Nat)(m:Mem),f < ZvW→Rep m x→Byt m a s→CX Try.prog 89 #[txV a s c back,x.v,plV f] m [] (Ret (plV (x.lead s back f)))
section
variable (t:T) (a:Option Addr) (s:List Nat) (c:Nat) (back:Bool) (f:Nat) (m:Mem) (hr:Rep m t) (hb:Byt m a s) (hs:s.length≤512) (ih:IH a s c back t) (hf:f < ZvW)
include hr hb hs ih hf
end
end Go.Proofs.Ytplacemlpkhmfaa
set_option linter.unusedVariables false
set_option linter.unusedSimpArgs false
set_option linter.unusedSectionVars false
namespace Go.Proofs.Ytplacemlpkhmfaa
open Go Go.Eng Go.Rx Go.Proofs Go.RowKit
set_option maxRecDepth 100000
def T.matches(t:T)(s:List Nat):Bool:=t.wrong s.length 0 == 0&&(t.lead s false 1).testBit s.length
end Go.Proofs.Ytplacemlpkhmfaa
set_option linter.unusedVariables false
set_option linter.unusedSimpArgs false
set_option linter.unusedSectionVars false
namespace Go.Proofs.Ytplacemlpkhmfaa
open Go Go.Eng Go.Rx Go.Proofs Go.RowKit
set_option maxRecDepth 100000
theorem Rgs.get{m:Mem}{a l}(h:Rgs m a l){i:Nat}{r:Rg}(hi:l[i]?=some r):(∃b o,a=some ⟨b,o,none⟩∧m.reads b (o+i*10) r.cs)∧Rep m r.t:=by
 refine⟨?_,h.2.2 r (List.mem_of_getElem? hi)⟩
 rcases h.2.1 with h|⟨b,o,h1,h2⟩
 ·subst h;simp at hi
 ·exact⟨b,o,h1,h2 i r hi⟩
end Go.Proofs.Ytplacemlpkhmfaa
set_option linter.unusedVariables false
set_option linter.unusedSimpArgs false
set_option linter.unusedSectionVars false
namespace Go.Proofs.Ytplacemlpkhmfaa
open Go Go.Eng Go.Rx Go.Proofs Go.RowKit
set_option maxRecDepth 100000
theorem ZvM{n:Int}(h1:0≤n)(h2:n < 256):IntKind.u8.wrap n=n:=by
 unfold IntKind.wrap
 simp only[IntKind.bits,IntKind.signed,Bool.false_and,Bool.false_eq_true,if_false]
 have e:(2:Int) ^ 8=256:=by decide
 rw[e];omega
end Go.Proofs.Ytplacemlpkhmfaa
set_option linter.unusedVariables false
set_option linter.unusedSimpArgs false
set_option linter.unusedSectionVars false
namespace Go.Proofs.Ytplacemlpkhmfaa
open Go Go.Eng Go.Rx Go.Proofs Go.RowKit
set_option maxRecDepth 100000
theorem ZrT{m:Mem}{b:Nat}(s:List Nat)(h:∀c∈s,c < 256):Byt (m.add b (s.map fun c:Nat=>Value.int .u8 c)) (some ⟨b,0,none⟩) s:=
 ⟨.inr ⟨b,0,rfl,fun j v hj=>by rw[Nat.zero_add,Mem.add_same];exact hj⟩,h⟩
end Go.Proofs.Ytplacemlpkhmfaa
set_option linter.unusedVariables false
set_option linter.unusedSimpArgs false
set_option linter.unusedSectionVars false
namespace Go.Proofs.Ytplacemlpkhmfaa
open Go Go.Eng Go.Rx Go.Proofs Go.RowKit
set_option maxRecDepth 100000
end Go.Proofs.Ytplacemlpkhmfaa
set_option linter.unusedVariables false
set_option linter.unusedSimpArgs false
set_option linter.unusedSectionVars false
namespace Go.Proofs.Ytplacemlpkhmfaa
open Go Go.Eng Go.Rx Go.Proofs Go.RowKit
set_option maxRecDepth 100000
structure Sm (m:Mem)(a:Option Addr)(l:List (Nat×Nat×Nat)):Prop where
 len:l.length≤9223372036854775807
 byte:∀s∈l,s.1 < 256∧s.2.1 < 256∧s.2.2 < 256
 at':∀i s,l[i]?=some s→∃b o,a=some ⟨b,o,none⟩∧m.reads b (o+i*3) [.int .u8 s.1,.int .u8 s.2.1,.int .u8 s.2.2]
theorem Sm.mono{m m':Mem}{a l}(h:Sm m a l)(hm:m.le m'):Sm m' a l:=
 ⟨h.len,h.byte,fun i s hi=>by obtain⟨b,o,h1,h2⟩:=h.at' i s hi;exact⟨b,o,h1,h2.mono hm⟩⟩
end Go.Proofs.Ytplacemlpkhmfaa
set_option linter.unusedVariables false
set_option linter.unusedSimpArgs false
namespace Go.Proofs.Ytplacemlpkhmfaa
open Go Go.Eng Go.Rx Go.Proofs Go.RowKit Go.ChangeShapes Go.WideShapes Go.ChangeAt
set_option maxRecDepth 100000
theorem ZuV:ownKnob Try.prog.godebug=none:=by kernel_rfl
theorem ZtU:laidOutB Try.prog=true:=by kernel_rfl
theorem ZvN{n:Int}(h:(Lit.int .u8 n).wf=true):0≤n∧n < 256:=by
 have:0≤n∧n≤255:=by simpa[Lit.wf,IntKind.min,IntKind.max,IntKind.signed,IntKind.bits]using h
 omega
theorem ZnA(a:Option Addr)(n c:Nat):(Value.slice a n c).cells.toList=[.slice a n c]:=rfl
end Go.Proofs.Ytplacemlpkhmfaa
set_option linter.unusedVariables false
namespace Go.Proofs.Ytplacemlpkhmfaa
open Go Go.Eng Go.Proofs Go.RowKit
open Go.Value (int slice agg)
open Go.IntKind (u8 u64 i64)
set_option maxRecDepth 100000
noncomputable def Zj0:Env:={ EB with
 loops:=(fun i=>bif Nat.beq i 3 then⟨[(4,.int .i64)],[3],[],false⟩ else bif Nat.beq i 7 then⟨[(5,.int .u64),(6,.int .i64)],[],[],false⟩ else⟨[],[],[],false⟩)
 frzNew:=[1] }
def Zff(aR aS aT aU:Int)(m:Mem)(R:RT):Prop:=
 ∀(b:Nat)(m':Mem),Mem.le m m'→Mem.reads m' b 0 [int u64 aR,int u64 aS,int u64 aT,int u64 aU]→∀(b_1 b_2:Nat),∃(I:IT),(∃(n:Nat),I [int i64 0] [List.replicate 256 (int i64 0)] [] m' n)∧∀
 (n:Int) (cs:List Value) (m'_1:Mem) (n_1:Nat),Mem.le m' m'_1→I [int i64 n] [cs] [] m'_1 n_1→br (decide (n < (256:Int))) ((64:Int)≠(0:Int)∧Zag (IntKind.wrap i64 (Int.tdiv n (64:Int))) 4∧
 Eng.Zrv [int u64 aR,int u64 aS,int u64 aT,int u64 aU] (0+Int.toNat (IntKind.wrap i64 (Int.tdiv n (64:Int)))*1) fun(v:Value)=>∃(I_1:IT),chk (Shape.fits (Shape.int u64) v) (∃(n:Nat),I_1 [v,
 int i64 0] [] [] m'_1 n)∧∀(n_2 n_3:Int)(m':Mem)(n_4:Nat),Mem.le m'_1 m'→I_1 [int u64 n_2,int i64 n_3] [] [] m' n_4→(64:Int)≠(0:Int)∧br (decide (n_3 < Int.tmod n (64:Int))) ((2:Int)≠(0:
 Int)∧[some (Box.mk b_2 cs 141 256 false true),some (Box.mk b_1 (List.replicate 256 (int i64 0)) 141 256 false true),some (Box.mk b [int u64 aR,int u64 aS,int u64 aT,int u64 aU] 37 4 true true)]=[some
 (Box.mk b_2 cs 141 256 false true),some (Box.mk b_1 (List.replicate 256 (int i64 0)) 141 256 false true),some (Box.mk b [int u64 aR,int u64 aS,int u64 aT,int u64 aU] 37 4 true true)]∧∃(n':Nat),n' <
 n_4∧I_1 [int u64 (IntKind.wrap u64 (Int.tdiv n_2 (2:Int))),int i64 (IntKind.wrap i64 (n_3+(1:Int)))] [] [] m' n') ((2:Int)≠(0:Int)∧Zag n 256∧chk (Nat.ble (0+Int.toNat n*1+1) (List.length
 cs)) ([some (Box.mk b_2 [] 141 256 false true),some (Box.mk b_1 (List.replicate 256 (int i64 0)) 141 256 false true),some (Box.mk b [int u64 aR,int u64 aS,int u64 aT,int u64 aU] 37 4 true true)]=[some
 (Box.mk b_2 [] 141 256 false true),some (Box.mk b_1 (List.replicate 256 (int i64 0)) 141 256 false true),some (Box.mk b [int u64 aR,int u64 aS,int u64 aT,int u64 aU] 37 4 true true)]∧∃(n':Nat),n' <
 n_1∧I [int i64 (IntKind.wrap i64 (n+(1:Int)))] [Zan cs (0+Int.toNat n*1) [int i64 (IntKind.wrap i64 (Int.tmod n_2 (2:Int)))]] [] m' n'))) (chk (Nat.beq (List.length cs) 256&&Zcq cs) (∃(m'':Mem),
 Mem.le m m''∧Mem.le m'' m'_1∧R (agg (Array.mk cs)) m'' []))
theorem Zim(aR aS aT aU:Int)(m:Mem)(R:RT)(h:Zff aR aS aT aU m R):CX Try.prog 99 #[.agg #[.int .u64 aR,.int .u64 aS,.int .u64 aT,.int .u64 aU]] m [] R:=
 Zal (E:=Zj0) Zaz mix Try.func99 [.v (.agg #[.int .u64 aR,.int .u64 aS,.int .u64 aT,.int .u64 aU])] [] (by kernel_rfl) (Eq.mp (by kernel_rfl) h)
noncomputable def ZlK:Env:={ EB with
 loops:=(fun i=>bif Nat.beq i 3 then⟨[(3,.int .i64),(4,.int .i64)],[],[],false⟩ else⟨[],[],[],false⟩)
 frzNew:=[1] }
def Zgm(p0:List Value)(m:Mem)(R:RT):Prop:=
 chk (Nat.beq (List.length p0) 256) (∀(b:Nat)(m':Mem),Mem.le m m'→Mem.reads m' b 0 p0→∃(I:IT),(∃(n:Nat),I [int i64 0,int i64 0] [] [] m' n)∧∀(n n_1:Int)(m'_1:Mem)(n_2:Nat),Mem.le m' m'_1→
 I [int i64 n,int i64 n_1] [] [] m'_1 n_2→br (decide (n_1 < (256:Int))) (Zag n_1 256∧Eng.Zrv p0 (0+Int.toNat n_1*1) fun(v:Value)=>chk (Zbv i64 v) ([some (Box.mk b p0 141 256 true true)]=[some
 (Box.mk b p0 141 256 true true)]∧∃(n':Nat),n' < n_2∧I [int i64 (IntKind.wrap i64 (n+RowKit.intOf v)),int i64 (IntKind.wrap i64 (n_1+(1:Int)))] [] [] m'_1 n')) (∃(m'':Mem),Mem.le m m''∧Mem.le m''
 m'_1∧R (int i64 n) m'' []))
theorem Zj1(p0:List Value)(m:Mem)(R:RT)(h:Zgm p0 m R):CX Try.prog 101 #[.agg p0.toArray] m [] R:=
 Zal (E:=ZlK) Zaz mix Try.func101 [.v (.agg p0.toArray)] [] (by kernel_rfl) (Eq.mp (by kernel_rfl) h)
noncomputable def Zbs:Env:={ EB with
 loops:=(fun i=>bif Nat.beq i 4 then⟨[(13,.int .i64)],[],[],false⟩ else⟨[],[],[],false⟩)
 dr:=(fun i=>bif Nat.beq i 6 then[⟨0,[],[],none,[],[]⟩,⟨1,[],[],none,[],[]⟩,⟨2,[],[],none,[0,1],[]⟩,⟨3,[],[],none,[0,1,2],[]⟩,⟨4,[],[],none,[],[]⟩,⟨5,[],[],none,[],[]⟩,⟨6,[],[],none,[4,5],[]⟩,⟨7,[],[],none,[4,5,6],[]⟩,⟨8,[],[],none,[0,1,2,3,4,5,6,7],[]⟩]else[]) }
def ZaQ(p0a:Option Addr)(p0n p0c:Nat)(p1a:Option Addr)(p1n p1c:Nat)(m:Mem)(R:RT):Prop:=
 br (!(↑p0n:Int) == (↑p1n:Int)) (∃(m'':Mem),Mem.le m m''∧Mem.le m'' m∧R (Value.bool false) m'' []) (∃(I:IT),(∃(n:Nat),I [int i64 0] [] [] m n)∧∀(n:Int)(m':Mem)(n_1:Nat),Mem.le m m'→I
 [int i64 n] [] [] m' n_1→br (decide (n < (↑p0n:Int))) (∃(b:Nat),∃(o:Nat),p0a=some (Addr.mk b o none)∧Zag n p0n∧∃(vs:List Value),List.length vs=256∧Mem.reads m' b (o+Int.toNat n*256) vs
 ∧ ∃(b:Nat),∃(o:Nat),p1a=some (Addr.mk b o none)∧Zag n p1n∧∃(vs_1:List Value),List.length vs_1=256∧Mem.reads m' b (o+Int.toNat n*256) vs_1∧∃(b:Bool),EqIs Try.prog 141 (agg (Array.mk
 vs)) (agg (Array.mk vs_1)) b∧br (!b) (∃(m'':Mem),Mem.le m m''∧Mem.le m'' m'∧R (Value.bool false) m'' []) (∃(n':Nat),n' < n_1∧I [int i64 (IntKind.wrap i64 (n+(1:Int)))] [] [] m' n')) (∃(m'':Mem),
 Mem.le m m''∧Mem.le m'' m'∧R (Value.bool true) m'' []))
theorem Zbj(p0a:Option Addr)(p0n p0c:Nat)(p1a:Option Addr)(p1n p1c:Nat)(m:Mem)(R:RT)(h:ZaQ p0a p0n p0c p1a p1n p1c m R):CX Try.prog 102 #[.slice p0a p0n p0c,.slice p1a p1n p1c] m [] R:=
 Zal (E:=Zbs) Zaz mix Try.func102 [.v (.slice p0a p0n p0c),.v (.slice p1a p1n p1c)] [] (by kernel_rfl) (Eq.mp (by kernel_rfl) h)
noncomputable def Zin:Env:={ EB with
 loops:=(fun i=>bif Nat.beq i 2 then⟨[(7,.int .i64)],[],[],false⟩ else⟨[],[],[],false⟩)
 dr:=(fun i=>bif Nat.beq i 4 then[⟨0,[],[],none,[],[]⟩,⟨1,[],[],none,[],[]⟩,⟨2,[],[],none,[0,1],[]⟩,⟨3,[],[],none,[0,1,2],[]⟩,⟨4,[],[],none,[],[]⟩,⟨5,[],[],none,[0,1,2,3,4],[]⟩,⟨6,[],[],none,[0,1,2,3,4,5],[]⟩,⟨7,[],[],none,[0,1,2,3,4,5,6],[]⟩,⟨8,[],[],none,[0,1,2,3,4,5,6],[]⟩,⟨9,[],[],none,[0,1,2,3,4,5,6,7,8],[]⟩,⟨10,[],[],none,[0,1,2,3,4,5,6,7,8,9],[]⟩,⟨11,[],[],none,[0,1,2,3,4,5,6],[]⟩,⟨12,[],[],none,[0,1,2,3,4,5,6,7,8,9,10,11],[]⟩,⟨13,[],[],none,[0,1,2,3,4,5,6,7,8,9,10,11,12],[]⟩,⟨14,[],[],none,[0,1,2,3,4,5,6,7,8,9,10,11,12,13],[]⟩,⟨15,[],[],none,[0,1,2,3,4,5,6,7,8,9,10,11,12,13,14],[]⟩,⟨16,[],[],none,[0,1,2,3,4,5,6,7,8,9,10,11,12,13,14,15],[]⟩,⟨17,[],[],none,[0,1,2,3,4,5,6,7,8,9,10,11,12,13,14,15,16],[]⟩,⟨18,[],[],none,[0,1,2,3,4,5,6,7,8,9,10,11,12,13,14,15,16,17],[]⟩,⟨19,[],[],none,[0,1,2,3,4,5,6,7,8,9,10,11,12,13,14,15,16,17],[]⟩,⟨20,[],[],none,[0,1,2,3,4,5,6,7,8,9,10,11,12,13,14,15,16,17,18,19],[]⟩,⟨21,[],[],none,[0,1,2,3,4,5,6,7,8,9,10,11,12,13,14,15,16,17,18,19,20],[]⟩,⟨22,[],[],none,[0,1,2,3,4,5,6,7,8,9,10,11,12,13,14,15,16,17],[]⟩,⟨23,[],[],none,[0,1,2,3,4,5,6,7,8,9,10,11,12,13,14,15,16,17],[]⟩,⟨24,[],[],none,[0,1,2,3,4,5,6,7,8,9,10,11,12,13,14,15,16,17,23],[]⟩,⟨25,[],[],none,[0,1,2,3,4,5,6,7,8,9,10,11,12,13,14,15,16,17,22,23,24],[]⟩,⟨26,[],[],none,[0,1,2,3,4,5,6,7,8,9,10,11,12,13,14,15,16,17,22,23,24,25],[]⟩,⟨27,[],[],none,[0,1,2,3,4,5,6,7,8,9,10,11,12,13,14,15,16,17,18,19,20,21,22,23,24,25,26],[]⟩,⟨28,[],[],none,[0,1,2,3,4,5,6,7,8,9,10,11,12,13,14,15,16,17,18,19,20,21,22,23,24,25,26,27],[]⟩,⟨29,[],[],none,[0,1,2,3,4,5,6,7,8,9,10,11,12,13,14,15,16,17,18,19,20,21,22,23,24,25,26,27,28],[]⟩]else[])
 gb:=true }
def Zev(p0a:Option Addr)(p0n p0c:Nat)(p1 p2:Int)(m:Mem)(R:RT):Prop:=
 ∃(I:IT),(∃(n:Nat),I [int i64 0] [] [] m n)∧∀(n:Int)(m':Mem)(n_1:Nat),Mem.le m m'→I [int i64 n] [] [] m' n_1→br (decide (n < (↑p0n:Int))) (∃(b:Nat),∃(o:Nat),p0a=some (Addr.mk b o none)
 ∧ Zag n p0n∧∃(v:Value),m' b (o+Int.toNat n*1)=some v∧chk (Zbv i64 v&&decide (i64=i64)) (br (decide (RowKit.intOf v < p1)) (∃(m'':Mem),Mem.le m m''∧Mem.le m'' m'∧R (Value.bool false) m''
 []) (∃(b:Nat),∃(o:Nat),p0a=some (Addr.mk b o none)∧Zag n p0n∧∃(v:Value),m' b (o+Int.toNat n*1)=some v∧chk (Zbv i64 v&&decide (i64=i64)) (br (decide (RowKit.intOf v ≥ p2)) (∃(m'':
 Mem),Mem.le m m''∧Mem.le m'' m'∧R (Value.bool false) m'' []) (br (decide (n > (0:Int))) (∃(b:Nat),∃(o:Nat),p0a=some (Addr.mk b o none)∧Zag n p0n∧∃(v:Value),m' b (o+Int.toNat n*1)=some
 v∧∃(b:Nat),∃(o:Nat),p0a=some (Addr.mk b o none)∧Zag (IntKind.wrap i64 (n - (1:Int))) p0n∧∃(v_1:Value),m' b (o+Int.toNat (IntKind.wrap i64 (n - (1:Int)))*1)=some v_1∧chk (Zbv i64 v
 && Zbv i64 v_1) (br (decide (RowKit.intOf v≤RowKit.intOf v_1)) (∃(m'':Mem),Mem.le m m''∧Mem.le m'' m'∧R (Value.bool false) m'' []) (∃(n':Nat),n' < n_1∧I [int i64 (IntKind.wrap i64 (n+(1:Int)))] []
 [] m' n'))) (∃(n':Nat),n' < n_1∧I [int i64 (IntKind.wrap i64 (n+(1:Int)))] [] [] m' n')))))) (∃(m'':Mem),Mem.le m m''∧Mem.le m'' m'∧R (Value.bool true) m'' [])
theorem Zhn(p0a:Option Addr)(p0n p0c:Nat)(p1 p2:Int)(m:Mem)(R:RT)(h:Zev p0a p0n p0c p1 p2 m R):CX Try.prog 100 #[.slice p0a p0n p0c,.int .i64 p1,.int .i64 p2] m [] R:=
 Zal (E:=Zin) Zaz mix Try.func100 [.v (.slice p0a p0n p0c),.v (.int .i64 p1),.v (.int .i64 p2)] [] (by kernel_rfl) (Eq.mp (by kernel_rfl) h)
noncomputable def ZnB:Env:={ EB with
 loops:=(fun i=>bif Nat.beq i 2 then⟨[(5,.int .i64)],[],[],false⟩ else⟨[],[],[],false⟩) }
def Zho(p0a:Option Addr)(p0n p0c:Nat)(p1:Int)(m:Mem)(R:RT):Prop:=
 ∃(I:IT),(∃(n:Nat),I [int i64 0] [] [] m n)∧∀(n:Int)(m':Mem)(n_1:Nat),Mem.le m m'→I [int i64 n] [] [] m' n_1→br (decide (n < (↑p0n:Int))) (∃(b:Nat),∃(o:Nat),p0a=some (Addr.mk b o none)
 ∧ Zag n p0n∧∃(v:Value),m' b (o+Int.toNat n*1)=some v∧chk (Zbv i64 v&&decide (i64=i64)) (br (RowKit.intOf v == p1) (∃(m'':Mem),Mem.le m m''∧Mem.le m'' m'∧R (Value.bool true) m'' []) (∃(n'
 : Nat),n' < n_1∧I [int i64 (IntKind.wrap i64 (n+(1:Int)))] [] [] m' n'))) (∃(m'':Mem),Mem.le m m''∧Mem.le m'' m'∧R (Value.bool false) m'' [])
theorem ZlL(p0a:Option Addr)(p0n p0c:Nat)(p1:Int)(m:Mem)(R:RT)(h:Zho p0a p0n p0c p1 m R):CX Try.prog 104 #[.slice p0a p0n p0c,.int .i64 p1] m [] R:=
 Zal (E:=ZnB) Zaz mix Try.func104 [.v (.slice p0a p0n p0c),.v (.int .i64 p1)] [] (by kernel_rfl) (Eq.mp (by kernel_rfl) h)
noncomputable def ZlM:Env:={ EB with
 loops:=(fun i=>bif Nat.beq i 3 then⟨[(3,.slice),(4,.int .i64)],[],[(19,1)],false⟩ else⟨[],[],[],false⟩)
 tokOf:=(fun i=>bif Nat.beq i 19 then 19 else 0) }
def Zgn(p0a:Option Addr)(p0n p0c:Nat)(m:Mem)(R:RT):Prop:=
 ∃(I:IT),(∃(n:Nat),I [slice none 0 0,int i64 0] [] [slice none 0 0] m n)∧∀(a:Option Addr)(n c:Nat)(n_1:Int)(a_1:Option Addr)(n_2 c_1:Nat)(m':Mem)(n_3:Nat),Mem.le m m'→I [slice a n c,
 int i64 n_1] [] [slice a_1 n_2 c_1] m' n_3→br (decide (n_1 < (↑p0n:Int))) (∃(b:Nat),∃(o:Nat),p0a=some (Addr.mk b o none)∧Zag n_1 p0n∧∃(v:Value),m' b (o+Int.toNat n_1*1)=some v∧chk
 (Zbv i64 v&&decide (i64=i64)) (br (RowKit.intOf v == (1:Int)) (∀(b:Nat),Mem.free m' b→(Tok.mk (slice a_1 n_2 c_1) 1=Tok.mk (slice a n c) 1∨slice a n c=slice none 0 0∨c < n+1)∧∃(xs:List
 Value),∃(ys:List Value),List.length xs=n*1∧List.length ys=1*1∧rowRd (Mem.add m' b [int i64 n_1]) a xs∧rowRd (Mem.add m' b [int i64 n_1]) (some (Addr.mk b 0 none)) ys∧(∀(u:Value),u∈ys→
 Value.oneCell' u=true)∧(n+1)*8≤140737488355328∧n+1≤9223372036854775807∧∀(a':Option Addr)(c':Nat)(m'_1:Mem),Mem.le (Mem.add m' b [int i64 n_1]) m'_1→rowRd m'_1 a' (List.append xs ys)→∃(n'
 : Nat),n' < n_3∧I [slice a' (n+1) c',int i64 (IntKind.wrap i64 (n_1+(1:Int)))] [] [slice a' (n+1) c'] m'_1 n') (∃(n':Nat),n' < n_3∧I [slice a n c,int i64 (IntKind.wrap i64 (n_1+(1:Int)))] []
 [slice a_1 n_2 c_1] m' n'))) (∃(m'':Mem),Mem.le m m''∧Mem.le m'' m'∧R (slice a n c) m'' [])
theorem Zj2(p0a:Option Addr)(p0n p0c:Nat)(m:Mem)(R:RT)(h:Zgn p0a p0n p0c m R):CX Try.prog 103 #[.slice p0a p0n p0c] m [] R:=
 Zal (E:=ZlM) Zaz mix Try.func103 [.v (.slice p0a p0n p0c)] [] (by kernel_rfl) (Eq.mp (by kernel_rfl) h)
noncomputable def Zj3:Env:={ EB with
 loops:=(fun i=>bif Nat.beq i 5 then⟨[(4,.int .i64)],[],[],false⟩ else⟨[],[],[],false⟩)
 joins:=(fun i=>bif Nat.beq i 2 then some [(30,.bool)]else bif Nat.beq i 7 then some [(52,.bool)]else none)
 frzNew:=[1] }
def Zfg(aJ:Option Addr)(aB aL:Nat)(aK:Option Addr)(aC aM:Nat)(aH:Option Addr)(aD aI:Nat)(aF:Option Addr)(aE aG:Nat)(aA:Bool)(m:Mem)(R:RT):Prop:=
 ∀(b:Nat)(m':Mem),Mem.le m m'→Mem.reads m' b 0 [slice aJ aB aL,slice aK aC aM,slice aH aD aI,slice aF aE aG,Value.bool aA]→∃(ac:Bool),br (decide ((↑aB:Int) >
 (400:Int))) ([some (Box.mk b [slice aJ aB aL,slice aK aC aM,slice aH aD aI,slice aF aE aG,Value.bool aA] 79 5 true true)]=[some (Box.mk b [slice aJ aB aL,slice
 aK aC aM,slice aH aD aI,slice aF aE aG,Value.bool aA] 79 5 true true)]∧[Value.bool true]=[Value.bool ac]) (br (!(↑aC:Int) == (↑aB:Int)) ([some (Box.mk b [slice aJ aB
 aL,slice aK aC aM,slice aH aD aI,slice aF aE aG,Value.bool aA] 79 5 true true)]=[some (Box.mk b [slice aJ aB aL,slice aK aC aM,slice aH aD aI,slice
 aF aE aG,Value.bool aA] 79 5 true true)]∧[Value.bool true]=[Value.bool ac]) (∃(R:RT),True∧CX Try.prog 100 (Array.mk [slice aH aD aI,int i64 0,int i64 (↑aB:Int)]) m' [] R∧ZaF
 Shape.bool R∧∀(ab:Bool)(aa:Mem),Mem.le m' aa→R (Value.bool ab) aa []→br (!ab) ([some (Box.mk b [slice aJ aB aL,slice aK aC aM,slice aH aD aI,slice aF aE aG,Value.bool
 aA] 79 5 true true)]=[some (Box.mk b [slice aJ aB aL,slice aK aC aM,slice aH aD aI,slice aF aE aG,Value.bool aA] 79 5 true true)]∧[Value.bool true]=[Value.bool ac]) (∃
 (R:RT),True∧CX Try.prog 100 (Array.mk [slice aF aE aG,int i64 0,int i64 (↑aB:Int)]) aa [] R∧ZaF Shape.bool R∧∀(ad:Bool)(m':Mem),Mem.le aa m'→R (Value.bool ad) m' []→[some (Box.mk b
 [slice aJ aB aL,slice aK aC aM,slice aH aD aI,slice aF aE aG,Value.bool aA] 79 5 true true)]=[some (Box.mk b [slice aJ aB aL,slice aK aC aM,slice aH
 aD aI,slice aF aE aG,Value.bool aA] 79 5 true true)]∧[Value.bool !ad]=[Value.bool ac])))∧br ac (∃(m'':Mem),Mem.le m m''∧Mem.le m'' m'∧R (Value.bool false) m'' []) (∃(I:IT),(∃(n:
 Nat),I [int i64 0] [] [] m' n)∧∀(n:Int)(aa:Mem)(ae:Nat),Mem.le m' aa→I [int i64 n] [] [] aa ae→br (decide (n < (↑aB:Int))) (∃(ab:Bool),(∃(ad:Nat),∃(o:Nat),aJ=some (Addr.mk ad o
 none)∧Zag n aB∧∃(vs:List Value),List.length vs=256∧Mem.reads aa ad (o+Int.toNat n*256) vs∧∃(R:RT),True∧CX Try.prog 101 (Array.mk [agg (Array.mk vs)]) aa [] R∧ZaF (Shape.int i64) R∧∀
 (af:Int) (m':Mem),Mem.le aa m'→R (int i64 af) m' []→br (af == (0:Int)) ([some (Box.mk b [slice aJ aB aL,slice aK aC aM,slice aH aD aI,slice aF aE aG,Value.bool aA] 79
 5 true true)]=[some (Box.mk b [slice aJ aB aL,slice aK aC aM,slice aH aD aI,slice aF aE aG,Value.bool aA] 79 5 true true)]∧[Value.bool true]=[Value.bool ab]) (∃(ag:
 Nat),∃(o:Nat),aK=some (Addr.mk ag o none)∧Zag n aC∧∃(v:Value),m' ag (o+Int.toNat n*1)=some v∧∃(R:RT),True∧CX Try.prog 100 (Array.mk [v,int i64 0,int i64 (↑aB:Int)]) m' [] R
 ∧ ZaF Shape.bool R∧∀(ah:Bool)(ai:Mem),Mem.le m' ai→R (Value.bool ah) ai []→[some (Box.mk b [slice aJ aB aL,slice aK aC aM,slice aH aD aI,slice aF aE aG,Value.bool
 aA] 79 5 true true)]=[some (Box.mk b [slice aJ aB aL,slice aK aC aM,slice aH aD aI,slice aF aE aG,Value.bool aA] 79 5 true true)]∧[Value.bool !ah]=[Value.bool ab]))∧br
 ab (∃(m'':Mem),Mem.le m m''∧Mem.le m'' aa∧R (Value.bool false) m'' []) ([some (Box.mk b [slice aJ aB aL,slice aK aC aM,slice aH aD aI,slice aF aE aG,Value.bool aA] 79 5
 true true)]=[some (Box.mk b [slice aJ aB aL,slice aK aC aM,slice aH aD aI,slice aF aE aG,Value.bool aA] 79 5 true true)]∧∃(n':Nat),n' < ae∧I [int i64 (IntKind.wrap i64
 (n+(1:Int)))] [] [] aa n')) (∃(m'':Mem),Mem.le m m''∧Mem.le m'' aa∧R (Value.bool true) m'' []))
theorem Zio(aJ:Option Addr)(aB aL:Nat)(aK:Option Addr)(aC aM:Nat)(aH:Option Addr)(aD aI:Nat)(aF:Option Addr)(aE aG:Nat)(aA:Bool)(m:Mem)(R:RT)(h:Zfg aJ aB aL aK aC aM aH aD aI aF aE aG aA m R):CX Try.prog 45 #[.agg #[.slice aJ aB aL,.slice aK aC aM,.slice aH aD aI,.slice aF aE aG,.bool aA]] m [] R:=
 Zal (E:=Zj3) Zaz mix Try.func45 [.v (.agg #[.slice aJ aB aL,.slice aK aC aM,.slice aH aD aI,.slice aF aE aG,.bool aA])] [] (by kernel_rfl) (Eq.mp (by kernel_rfl) h)
noncomputable def Zj4:Env:={ EB with
 frzNew:=[2] }
def Zfh(aJ:Option Addr)(aB aL:Nat)(aK:Option Addr)(aC aM:Nat)(aH:Option Addr)(aD aI:Nat)(aF:Option Addr)(aE aG:Nat)(aA:Bool)(p1a:Option Addr)(p1n p1c:Nat)(m:Mem)(R:RT):Prop:=
 ∀(b:Nat)(m':Mem),Mem.le m m'→Mem.reads m' b 0 [slice aJ aB aL,slice aK aC aM,slice aH aD aI,slice aF aE aG,Value.bool aA]→∃(R_1:RT),True∧CX Try.prog 45
 (Array.mk [agg (Array.mk [slice aJ aB aL,slice aK aC aM,slice aH aD aI,slice aF aE aG,Value.bool aA])]) m' [] R_1∧ZaF Shape.bool R_1∧∀(b:Bool)(m'_1:Mem),Mem.le m'
 m'_1→R_1 (Value.bool b) m'_1 []→br (!b) (∃(m'':Mem),Mem.le m m''∧Mem.le m'' m'_1∧R (int i64 171) m'' []) (∃(R_2:RT),True∧CX Try.prog 100 (Array.mk [slice p1a p1n p1c,int i64 (-1:Int),int i64
 (↑aB:Int)]) m'_1 [] R_2∧ZaF Shape.bool R_2∧∀(b:Bool)(m':Mem),Mem.le m'_1 m'→R_2 (Value.bool b) m' []→br (!b) (∃(m'':Mem),Mem.le m m''∧Mem.le m'' m'∧R (int i64 172) m'' []) (∃(m'':Mem),
 Mem.le m m''∧Mem.le m'' m'∧R (int i64 0) m'' []))
theorem Zip(aJ:Option Addr)(aB aL:Nat)(aK:Option Addr)(aC aM:Nat)(aH:Option Addr)(aD aI:Nat)(aF:Option Addr)(aE aG:Nat)(aA:Bool)(p1a:Option Addr)(p1n p1c:Nat)(m:Mem)(R:RT)(h:Zfh aJ aB aL aK aC aM aH aD aI aF aE aG aA p1a p1n p1c m R):CX Try.prog 47 #[.agg #[.slice aJ aB aL,.slice aK aC aM,.slice aH aD aI,.slice aF aE aG,.bool aA],.slice p1a p1n p1c] m [] R:=
 Zal (E:=Zj4) Zaz mix Try.func47 [.v (.agg #[.slice aJ aB aL,.slice aK aC aM,.slice aH aD aI,.slice aF aE aG,.bool aA]),.v (.slice p1a p1n p1c)] [] (by kernel_rfl) (Eq.mp (by kernel_rfl) h)
noncomputable def ZlN:Env:={ EB with
 loops:=(fun i=>bif Nat.beq i 3 then⟨[(8,.int .i64)],[14],[],false⟩ else bif Nat.beq i 9 then⟨[(10,.int .i64)],[14],[],false⟩ else⟨[],[],[],false⟩)
 dr:=(fun i=>bif Nat.beq i 7 then[⟨0,[3],[],none,[],[]⟩,⟨1,[3],[],none,[0],[]⟩,⟨2,[],[],none,[],[]⟩,⟨3,[],[],none,[],[]⟩,⟨4,[],[],none,[2,3],[]⟩,⟨5,[],[],none,[2,3,4],[]⟩,⟨6,[],[],none,[0,1,2,3,4,5],[]⟩,⟨7,[],[],none,[0,1,2,3,4,5,6],[]⟩,⟨8,[],[],none,[0,1,2,3,4,5,6,7],[]⟩]else bif Nat.beq i 11 then[⟨0,[3],[],none,[],[]⟩,⟨1,[3],[],none,[0],[]⟩,⟨2,[],[],none,[],[]⟩,⟨3,[],[],none,[],[]⟩,⟨4,[],[],none,[2,3],[]⟩,⟨5,[],[],none,[2,3,4],[]⟩,⟨6,[],[],none,[],[]⟩,⟨7,[],[],none,[0,1,2,3,4,5],[]⟩,⟨8,[],[],none,[0,1,2,3,4,5,6,7],[]⟩,⟨9,[],[],none,[0,1,2,3,4,5,6,7,8],[]⟩,⟨10,[],[],none,[0,1,2,3,4,5,6,7,8,9],[]⟩]else[])
 frzNew:=[3]
 frzAt:=(fun i=>bif Nat.beq i 60 then[14]else[]) }
def Zgo(aJ:Option Addr)(aB aL:Nat)(aK:Option Addr)(aC aM:Nat)(aH:Option Addr)(aD aI:Nat)(aF:Option Addr)(aE aG:Nat)(aA:Bool)(p1a:Option Addr)(p1n p1c:Nat)(p2:Int)(m:Mem)(R:RT):Prop:=
 ∀(b:Nat)(m':Mem),Mem.le m m'→Mem.reads m' b 0 [slice aJ aB aL,slice aK aC aM,slice aH aD aI,slice aF aE aG,Value.bool aA]→((0:Int)≤(↑aB:Int)∧(↑aB:Int)
 ≤ (↑aB:Int)∧(↑aB:Int)*(↑(8:Nat):Int)≤(281474976710656:Int)∧(↑aB:Int)≤(9223372036854775807:Int))∧∀(ab:Nat),∃(I:IT),(∃(n:Nat),I [int i64 0] [List.flatten (List.replicate
 (Int.toNat (↑aB:Int)) [int i64 0])] [] m' n)∧∀(n:Int)(cs:List Value)(ae:Mem)(aj:Nat),Mem.le m' ae→I [int i64 n] [cs] [] ae aj→br (decide (n < (↑p1n:Int))) (∃(am:Nat),∃(o:Nat),p1a=some
 (Addr.mk am o none)∧Zag n p1n∧∃(v:Value),ae am (o+Int.toNat n*1)=some v∧chk (Zbv i64 v&&decide (i64=i64)) (br (decide (RowKit.intOf v ≥ (0:Int))) (∃(ag:Nat),∃(o:Nat),p1a=some
 (Addr.mk ag o none)∧Zag n p1n∧∃(v:Value),ae ag (o+Int.toNat n*1)=some v∧chk (ZaT v) (∃(ah:Nat),∃(o:Nat),aK=some (Addr.mk ah o none)∧Zag (RowKit.intOf v) aC∧∃(ac:
 Value),ae ah (o+Int.toNat (RowKit.intOf v)*1)=some ac∧∃(ad:IT),(∃(n:Nat),ad [int i64 0] [cs] [] ae n)∧∀(aa:Int)(cs:List Value)(m':Mem)(af:Nat),Mem.le ae m'→ad [int i64 aa] [cs] [] m' af
 → chk (Zdm ac) (br (decide (aa < (↑(slN ac):Int))) (chk (Zdm ac) (∃(ai:Nat),∃(o:Nat),slA ac=some (Addr.mk ai o none)∧Zag aa (slN ac)∧∃(v:Value),m' ai (o+Int.toNat aa*1)=some v∧chk
 (ZaT v) (∃(an:Nat),∃(o:Nat),aJ=some (Addr.mk an o none)∧Zag (RowKit.intOf v) aB∧Zag p2 256∧∃(ak:Value),m' an (o+Int.toNat (RowKit.intOf v)*256+Int.toNat p2*1)=some ak∧
 chk (Zbv i64 ak&&decide (i64=i64)) (br (RowKit.intOf ak == (1:Int)) (chk (Zdm ac) (∃(ao:Nat),∃(o:Nat),slA ac=some (Addr.mk ao o none)∧Zag aa (slN ac)∧∃(v:Value),m' ao (o+Int.toNat aa *
 1)=some v∧chk (ZaT v) (Zag (RowKit.intOf v) (Int.toNat (↑aB:Int))∧bif Nat.beq (Int.toNat (↑aB:Int)*1) 1&&Nat.beq (Int.toNat (RowKit.intOf v)*1) 0 then[some (Box.mk ab [] 3 (Int.toNat
 (↑aB:Int)*1) false true),some (Box.mk b [slice aJ aB aL,slice aK aC aM,slice aH aD aI,slice aF aE aG,Value.bool aA] 79 5 true true)]=[some (Box.mk ab [] 3 (Int.toNat
 (↑aB:Int)*1) false true),some (Box.mk b [slice aJ aB aL,slice aK aC aM,slice aH aD aI,slice aF aE aG,Value.bool aA] 79 5 true true)]∧∃(n':Nat),n' < af∧ad [int
 i64 (IntKind.wrap i64 (aa+(1:Int)))] [[int i64 1]] [] m' n' else chk (Nat.ble (Int.toNat (RowKit.intOf v)*1+1) (List.length cs)) ([some (Box.mk ab [] 3 (Int.toNat (↑aB:Int)*1) false true),some (Box.mk b
 [slice aJ aB aL,slice aK aC aM,slice aH aD aI,slice aF aE aG,Value.bool aA] 79 5 true true)]=[some (Box.mk ab [] 3 (Int.toNat (↑aB:Int)*1) false true),some (Box.mk b
 [slice aJ aB aL,slice aK aC aM,slice aH aD aI,slice aF aE aG,Value.bool aA] 79 5 true true)]∧∃(n':Nat),n' < af∧ad [int i64 (IntKind.wrap i64 (aa+(1:Int)))] [Zan
 cs (Int.toNat (RowKit.intOf v)*1) [int i64 1]] [] m' n')))) ([some (Box.mk ab [] 3 (Int.toNat (↑aB:Int)*1) false true),some (Box.mk b [slice aJ aB aL,slice aK aC aM,slice aH aD aI,
 slice aF aE aG,Value.bool aA] 79 5 true true)]=[some (Box.mk ab [] 3 (Int.toNat (↑aB:Int)*1) false true),some (Box.mk b [slice aJ aB aL,slice aK aC aM,slice aH aD aI,
 slice aF aE aG,Value.bool aA] 79 5 true true)]∧∃(n':Nat),n' < af∧ad [int i64 (IntKind.wrap i64 (aa+(1:Int)))] [cs] [] m' n'))))) ([some (Box.mk ab [] 3 (Int.toNat (↑aB:Int)*1) false true),
 some (Box.mk b [slice aJ aB aL,slice aK aC aM,slice aH aD aI,slice aF aE aG,Value.bool aA] 79 5 true true)]=[some (Box.mk ab [] 3 (Int.toNat (↑aB:Int)*1) false true),
 some (Box.mk b [slice aJ aB aL,slice aK aC aM,slice aH aD aI,slice aF aE aG,Value.bool aA] 79 5 true true)]∧∃(n':Nat),n' < aj∧I [int i64 (IntKind.wrap i64 (n+(1:
 Int)))] [cs] [] m' n')))) (∃(ad:IT),(∃(n:Nat),ad [int i64 0] [cs] [] ae n)∧∀(aa:Int)(cs:List Value)(m':Mem)(af:Nat),Mem.le ae m'→ad [int i64 aa] [cs] [] m' af→br (decide (aa < (↑aD:Int)))
 (∃(ag:Nat),∃(o:Nat),aH=some (Addr.mk ag o none)∧Zag aa aD∧∃(v:Value),m' ag (o+Int.toNat aa*1)=some v∧chk (ZaT v) (∃(ah:Nat),∃(o:Nat),aJ=some (Addr.mk ah o none)∧
 Zag (RowKit.intOf v) aB∧Zag p2 256∧∃(ac:Value),m' ah (o+Int.toNat (RowKit.intOf v)*256+Int.toNat p2*1)=some ac∧chk (Zbv i64 ac&&decide (i64=i64)) (br (RowKit.intOf ac == (1:Int))
 (∃(ai:Nat),∃(o:Nat),aH=some (Addr.mk ai o none)∧Zag aa aD∧∃(v:Value),m' ai (o+Int.toNat aa*1)=some v∧chk (ZaT v) (Zag (RowKit.intOf v) (Int.toNat (↑aB:Int))∧bif
 Nat.beq (Int.toNat (↑aB:Int)*1) 1&&Nat.beq (Int.toNat (RowKit.intOf v)*1) 0 then[some (Box.mk ab [] 3 (Int.toNat (↑aB:Int)*1) false true),some (Box.mk b [slice aJ aB aL,slice aK aC
 aM,slice aH aD aI,slice aF aE aG,Value.bool aA] 79 5 true true)]=[some (Box.mk ab [] 3 (Int.toNat (↑aB:Int)*1) false true),some (Box.mk b [slice aJ aB aL,slice aK aC
 aM,slice aH aD aI,slice aF aE aG,Value.bool aA] 79 5 true true)]∧∃(n':Nat),n' < af∧ad [int i64 (IntKind.wrap i64 (aa+(1:Int)))] [[int i64 1]] [] m' n' else chk (Nat.ble (Int.toNat
 (RowKit.intOf v)*1+1) (List.length cs)) ([some (Box.mk ab [] 3 (Int.toNat (↑aB:Int)*1) false true),some (Box.mk b [slice aJ aB aL,slice aK aC aM,slice aH aD aI,slice aF aE
 aG,Value.bool aA] 79 5 true true)]=[some (Box.mk ab [] 3 (Int.toNat (↑aB:Int)*1) false true),some (Box.mk b [slice aJ aB aL,slice aK aC aM,slice aH aD aI,slice aF aE
 aG,Value.bool aA] 79 5 true true)]∧∃(n':Nat),n' < af∧ad [int i64 (IntKind.wrap i64 (aa+(1:Int)))] [Zan cs (Int.toNat (RowKit.intOf v)*1) [int i64 1]] [] m' n'))) ([some (Box.mk ab [] 3 (Int.toNat
 (↑aB:Int)*1) false true),some (Box.mk b [slice aJ aB aL,slice aK aC aM,slice aH aD aI,slice aF aE aG,Value.bool aA] 79 5 true true)]=[some (Box.mk ab [] 3 (Int.toNat
 (↑aB:Int)*1) false true),some (Box.mk b [slice aJ aB aL,slice aK aC aM,slice aH aD aI,slice aF aE aG,Value.bool aA] 79 5 true true)]∧∃(n':Nat),n' < af∧ad [int
 i64 (IntKind.wrap i64 (aa+(1:Int)))] [cs] [] m' n')))) ([some (Box.mk ab [] 3 (Int.toNat (↑aB:Int)*1) false true),some (Box.mk b [slice aJ aB aL,slice aK aC aM,slice aH aD aI,
 slice aF aE aG,Value.bool aA] 79 5 true true)]=[some (Box.mk ab [] 3 (Int.toNat (↑aB:Int)*1) false true),some (Box.mk b [slice aJ aB aL,slice aK aC aM,slice aH aD aI,
 slice aF aE aG,Value.bool aA] 79 5 true true)]∧∃(n':Nat),n' < aj∧I [int i64 (IntKind.wrap i64 (n+(1:Int)))] [cs] [] m' n')))) (∀(m':Mem),Mem.le ae m'→Mem.reads m' ab 0 cs→∃(R_1:RT),
 True∧CX Try.prog 103 (Array.mk [slice (some (Addr.mk ab 0 none)) (Int.toNat (↑aB:Int)) (Int.toNat (↑aB:Int))]) m' [] R_1∧ZaF Shape.slice R_1∧∀(a:Option Addr)(n c:Nat)(al:Mem),Mem.le m' al→
 R_1 (slice a n c) al []→∃(m'':Mem),Mem.le m m''∧Mem.le m'' al∧R (slice a n c) m'' [])
theorem Zj5(aJ:Option Addr)(aB aL:Nat)(aK:Option Addr)(aC aM:Nat)(aH:Option Addr)(aD aI:Nat)(aF:Option Addr)(aE aG:Nat)(aA:Bool)(p1a:Option Addr)(p1n p1c:Nat)(p2:Int)(m:Mem)(R:RT)(h:Zgo aJ aB aL aK aC aM aH aD aI aF aE aG aA p1a p1n p1c p2 m R):CX Try.prog 48 #[.agg #[.slice aJ aB aL,.slice aK aC aM,.slice aH aD aI,.slice aF aE aG,.bool aA],.slice p1a p1n p1c,.int .u8 p2] m [] R:=
 Zal (E:=ZlN) Zaz mix Try.func48 [.v (.agg #[.slice aJ aB aL,.slice aK aC aM,.slice aH aD aI,.slice aF aE aG,.bool aA]),.v (.slice p1a p1n p1c),.v (.int .u8 p2)] [] (by kernel_rfl) (Eq.mp (by kernel_rfl) h)
noncomputable def Zhp:Env:={ EB with
 loops:=(fun i=>bif Nat.beq i 2 then⟨[(5,.int .i64)],[],[],false⟩ else⟨[],[],[],false⟩)
 dr:=(fun i=>bif Nat.beq i 4 then[⟨0,[],[],none,[],[]⟩,⟨1,[],[],none,[],[]⟩,⟨2,[],[],none,[0,1],[]⟩,⟨3,[],[],none,[0,1,2],[]⟩,⟨4,[],[],none,[0,1,2,3],[]⟩,⟨5,[],[],none,[0,1,2,3,4],[]⟩,⟨6,[2],[],none,[0,1,2,3,4,5],[]⟩,⟨7,[2],[],none,[0,1,2,3,4,5,6],[]⟩,⟨8,[],[],none,[0,1,2,3,4,5,6,7],[]⟩,⟨9,[],[],none,[0,1,2,3,4,5,6,7,8],[]⟩,⟨10,[],[],none,[0,1,2,3,4,5,6,7,8,9],[]⟩,⟨11,[],[],none,[0,1,2,3,4,5,6,7,8,9],[]⟩,⟨12,[],[],none,[0,1,2,3,4,5,6,7,8,9,10,11],[]⟩,⟨13,[],[],none,[0,1,2,3,4,5,6,7,8,9,10,11,12],[]⟩,⟨14,[],[],none,[0,1,2,3,4,5,6,7,8,9,10,11,12,13],[]⟩,⟨15,[],[],none,[0,1,2,3,4,5,6,7,8,9,10,11,12,13,14],[]⟩,⟨16,[2],[],none,[0,1,2,3,4,5,6,7,8,9,10,11,12,13,14,15],[]⟩,⟨17,[2],[],none,[0,1,2,3,4,5,6,7,8,9,10,11,12,13,14,15,16],[]⟩,⟨18,[],[],none,[0,1,2,3,4,5,6,7,8,9,10,11,12,13,14,15],[]⟩,⟨19,[],[],none,[0,1,2,3,4,5,6,7,8,9,10,11,12,13,14,15],[]⟩,⟨20,[],[],none,[0,1,2,3,4,5,6,7,8,9,10,11,12,13,14,15,18,19],[]⟩,⟨21,[],[],none,[0,1,2,3,4,5,6,7,8,9,10,11,12,13,14,15,18,19,20],[]⟩,⟨22,[],[],none,[0,1,2,3,4,5,6,7,8,9,10,11,12,13,14,15,16,17,18,19,20,21],[]⟩,⟨23,[],[],none,[0,1,2,3,4,5,6,7,8,9,10,11,12,13,14,15,16,17,18,19,20,21,22],[]⟩,⟨24,[],[],none,[0,1,2,3,4,5,6,7,8,9,10,11,12,13,14,15,16,17,18,19,20,21,22,23],[]⟩]else[])
 frzNew:=[2]
 gb:=true }
def ZdH(aJ:Option Addr)(aB aL:Nat)(aK:Option Addr)(aC aM:Nat)(aH:Option Addr)(aD aI:Nat)(aF:Option Addr)(aE aG:Nat)(aA:Bool)(p1a:Option Addr)(p1n p1c:Nat)(m:Mem)(R:RT):Prop:=
 ∀(b:Nat)(m':Mem),Mem.le m m'→Mem.reads m' b 0 [slice aJ aB aL,slice aK aC aM,slice aH aD aI,slice aF aE aG,Value.bool aA]→∃(I:IT),(∃(n:Nat),I [int i64 0] []
 [] m' n)∧∀(n:Int)(aa:Mem)(ab:Nat),Mem.le m' aa→I [int i64 n] [] [] aa ab→br (decide (n < (↑p1n:Int))) (∃(f:Fx),∃(af:Nat),∃(o:Nat),p1a=some (Addr.mk af o none)∧Zag n p1n∧∃(v:
 Value),aa af (o+Int.toNat n*1)=some v∧chk (Zbv i64 v&&decide (i64=i64)) (br (decide (RowKit.intOf v < (0:Int))) (br aA (∀(M:Mem),Mem.le aa M→Mem.le aa M→∃(m'':Mem),Mem.le m m''∧Mem.le
 m'' M∧R (Value.bool true) m'' []) (∃(ac:Nat),∃(o:Nat),p1a=some (Addr.mk ac o none)∧Zag n p1n∧∃(v:Value),aa ac (o+Int.toNat n*1)=some v∧chk (Zbv i64 v&&decide (i64=i64)) (br (decide
 (RowKit.intOf v ≥ (0:Int))) (∃(ad:Nat),∃(o:Nat),p1a=some (Addr.mk ad o none)∧Zag n p1n∧∃(v:Value),aa ad (o+Int.toNat n*1)=some v∧∃(R_1:RT),R_1=f 22 [slice aF aE aG,v] aa∧
 CX Try.prog 104 (Array.mk [slice aF aE aG,v]) aa [] R_1∧ZaF Shape.bool R_1∧∀(ae:Bool)(m':Mem),Mem.le aa m'→R_1 (Value.bool ae) m' []→∀(M:Mem),Mem.le aa M→Mem.le m' M→br ae (∃(m'':
 Mem),Mem.le m m''∧Mem.le m'' M∧R (Value.bool true) m'' []) ([some (Box.mk b [slice aJ aB aL,slice aK aC aM,slice aH aD aI,slice aF aE aG,Value.bool aA] 79 5 true true)] =
 [some (Box.mk b [slice aJ aB aL,slice aK aC aM,slice aH aD aI,slice aF aE aG,Value.bool aA] 79 5 true true)]∧∃(n':Nat),n' < ab∧I [int i64 (IntKind.wrap i64 (n+(1:
 Int)))] [] [] M n')) (∀(M:Mem),Mem.le aa M→Mem.le aa M→[some (Box.mk b [slice aJ aB aL,slice aK aC aM,slice aH aD aI,slice aF aE aG,Value.bool aA] 79 5 true true)] =
 [some (Box.mk b [slice aJ aB aL,slice aK aC aM,slice aH aD aI,slice aF aE aG,Value.bool aA] 79 5 true true)]∧∃(n':Nat),n' < ab∧I [int i64 (IntKind.wrap i64 (n+(1:
 Int)))] [] [] M n')))) (∃(ac:Nat),∃(o:Nat),p1a=some (Addr.mk ac o none)∧Zag n p1n∧∃(v:Value),aa ac (o+Int.toNat n*1)=some v∧chk (Zbv i64 v&&decide (i64=i64)) (br (decide (RowKit.intOf
 v ≥ (0:Int))) (∃(ad:Nat),∃(o:Nat),p1a=some (Addr.mk ad o none)∧Zag n p1n∧∃(v:Value),aa ad (o+Int.toNat n*1)=some v∧∃(R_1:RT),R_1=f 22 [slice aF aE aG,v] aa∧CX Try.prog
 104 (Array.mk [slice aF aE aG,v]) aa [] R_1∧ZaF Shape.bool R_1∧∀(ae:Bool)(m':Mem),Mem.le aa m'→R_1 (Value.bool ae) m' []→∀(M:Mem),Mem.le aa M→Mem.le m' M→br ae (∃(m'':Mem),Mem.le m
 m''∧Mem.le m'' M∧R (Value.bool true) m'' []) ([some (Box.mk b [slice aJ aB aL,slice aK aC aM,slice aH aD aI,slice aF aE aG,Value.bool aA] 79 5 true true)]=[some (Box.mk b
 [slice aJ aB aL,slice aK aC aM,slice aH aD aI,slice aF aE aG,Value.bool aA] 79 5 true true)]∧∃(n':Nat),n' < ab∧I [int i64 (IntKind.wrap i64 (n+(1:Int)))] [] [] M
 n')) (∀(M:Mem),Mem.le aa M→Mem.le aa M→[some (Box.mk b [slice aJ aB aL,slice aK aC aM,slice aH aD aI,slice aF aE aG,Value.bool aA] 79 5 true true)]=[some (Box.mk b
 [slice aJ aB aL,slice aK aC aM,slice aH aD aI,slice aF aE aG,Value.bool aA] 79 5 true true)]∧∃(n':Nat),n' < ab∧I [int i64 (IntKind.wrap i64 (n+(1:Int)))] [] [] M
 n'))))) (∃(m'':Mem),Mem.le m m''∧Mem.le m'' aa∧R (Value.bool false) m'' [])
theorem Zgx(aJ:Option Addr)(aB aL:Nat)(aK:Option Addr)(aC aM:Nat)(aH:Option Addr)(aD aI:Nat)(aF:Option Addr)(aE aG:Nat)(aA:Bool)(p1a:Option Addr)(p1n p1c:Nat)(m:Mem)(R:RT)(h:ZdH aJ aB aL aK aC aM aH aD aI aF aE aG aA p1a p1n p1c m R):CX Try.prog 49 #[.agg #[.slice aJ aB aL,.slice aK aC aM,.slice aH aD aI,.slice aF aE aG,.bool aA],.slice p1a p1n p1c] m [] R:=
 Zal (E:=Zhp) Zaz mix Try.func49 [.v (.agg #[.slice aJ aB aL,.slice aK aC aM,.slice aH aD aI,.slice aF aE aG,.bool aA]),.v (.slice p1a p1n p1c)] [] (by kernel_rfl) (Eq.mp (by kernel_rfl) h)
end Go.Proofs.Ytplacemlpkhmfaa
