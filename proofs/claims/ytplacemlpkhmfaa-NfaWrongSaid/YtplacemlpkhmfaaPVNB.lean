/- Part of the proof: conditions and contracts of functions of this program. No condition of its own. -/
import Derived.Test.YtplacemlpkhmfaaPEnv
import Derived.Test.YtplacemlpkhmfaaMc
set_option linter.unusedVariables false
namespace Go.Proofs.Ytplacemlpkhmfaa
open Go Go.Eng Go.Proofs Go.RowKit
open Go.Value (int slice agg)
open Go.IntKind (u8 u64 i64)
set_option maxRecDepth 100000
noncomputable def Zgj:Env:={ EB with
 frzNew:=[1] }
def Zdp(p0b p0o:Nat)(m:Mem)(R:RT):Prop:=
 ∀(b:Nat)(m':Mem),Mem.le m m'→Mem.reads m' b 0 [Value.pointer (some (Addr.mk p0b p0o none))]→∀(b_1:Nat),∃(m'':Mem),Mem.le m m''∧Mem.le m'' m'∧R (agg (Array.mk [Value.func (Fn.func 135) (Array.mk
 []) (Array.mk []),Value.func (Fn.func 136) (Array.mk []) (Array.mk []),Value.func (Fn.func 137) (Array.mk []) (Array.mk [Value.pointer (some (Addr.mk b 0 none))]),Value.func (Fn.func 138) (Array.mk []) (Array.mk
 [Value.pointer (some (Addr.mk b 0 none))]),Value.func (Fn.func 140) (Array.mk []) (Array.mk [Value.pointer (some (Addr.mk b 0 none))]),Value.func (Fn.func 142) (Array.mk [Value.pointer (some (Addr.mk p0b p0o none))])
 (Array.mk []),Value.func (Fn.func 143) (Array.mk []) (Array.mk [Value.pointer (some (Addr.mk b 0 none))])])) m'' []
set_option maxHeartbeats 4000000 in
theorem ZfB(p0b p0o:Nat)(m:Mem)(R:RT)(h:Zdp p0b p0o m R):CX Try.prog 109 #[.pointer (some ⟨p0b,p0o,none⟩)] m [] R:=
 Zal (E:=Zgj) ZaC mix Try.func109 [.v (.pointer (some ⟨p0b,p0o,none⟩))] [] (by kernel_rfl) (Eq.mp (by kernel_rfl) h)
noncomputable def Zfa:Env:={ EB with
 frzNew:=[1] }
def Zcz(aF aG aH aI aA aE aJ:Int)(aC:Option Addr)(aB aD:Nat)(m:Mem)(R:RT):Prop:=
 ∀(b:Nat)(m':Mem),Mem.le m m'→Mem.reads m' b 0 [int u8 aF,int u64 aG,int u64 aH,int u64 aI,int u64 aA,int i64 aE,int i64 aJ,slice aC aB aD]→∀(b:Nat),∃(m'':Mem),Mem.le m
 m''∧Mem.le m'' m'∧R (agg (Array.mk [int u64 0,int u64 0,int u64 0,int u64 0,int u64 0,int u64 0,int u64 0,int u64 0,int u64 0,int u64 0,int u64 0,int u64 0,int u64 0,int u64 0,Value.bool true])) m'' []
theorem Zel(aF aG aH aI aA aE aJ:Int)(aC:Option Addr)(aB aD:Nat)(m:Mem)(R:RT)(h:Zcz aF aG aH aI aA aE aJ aC aB aD m R):CX Try.prog 136 #[.agg #[.int .u8 aF,.int .u64 aG,.int .u64 aH,.int .u64 aI,.int .u64 aA,.int .i64 aE,.int .i64 aJ,.slice aC aB aD]] m [] R:=
 Zal (E:=Zfa) ZaC mix Try.func136 [.v (.agg #[.int .u8 aF,.int .u64 aG,.int .u64 aH,.int .u64 aI,.int .u64 aA,.int .i64 aE,.int .i64 aJ,.slice aC aB aD])] [] (by kernel_rfl) (Eq.mp (by kernel_rfl) h)
noncomputable def Zfb:Env:={ EB with
 dr:=(fun i=>bif Nat.beq i 3 then[⟨0,[],[],none,[],[]⟩,⟨1,[],[],none,[],[]⟩,⟨2,[],[],none,[],[]⟩,⟨3,[],[],none,[2],[]⟩,⟨4,[],[],none,[2,3],[]⟩,⟨5,[100000],[],none,[2,3,4],[]⟩,⟨6,[2],[],none,[],[]⟩,⟨7,[2],[],none,[6],[]⟩,⟨8,[19],[19],none,[6,7],[]⟩,⟨9,[19],[],some 900,[2,3,4,5,6,7,8],[8]⟩,⟨10,[],[],none,[],[]⟩,⟨11,[],[],none,[10],[]⟩,⟨12,[],[],none,[10,11],[]⟩,⟨13,[100000],[],none,[10,11,12],[]⟩,⟨14,[],[],none,[],[]⟩,⟨15,[26],[26],none,[14],[]⟩,⟨16,[26],[],some 901,[2,3,4,5,6,7,8,9,10,11,12,13,14,15],[9,15]⟩,⟨17,[],[],none,[0,2,3,4,5,6,7,8,9,10,11,12,13,14,15,16],[]⟩,⟨18,[],[],none,[0,2,3,4,5,6,7,8,9,10,11,12,13,14,15,16,17],[]⟩,⟨19,[100000],[100000],none,[0,2,3,4,5,6,7,8,9,10,11,12,13,14,15,16,17,18],[]⟩,⟨20,[],[],none,[0,1,2,3,4,5,6,7,8,9,10,11,12,13,14,15,16,17,18,19],[]⟩,⟨21,[],[],none,[0,1,2,3,4,5,6,7,8,9,10,11,12,13,14,15,16,17,18,19,20],[]⟩,⟨22,[100000],[100000],none,[0,1,2,3,4,5,6,7,8,9,10,11,12,13,14,15,16,17,18,19,20,21],[]⟩]else[])
 tokOf:=(fun i=>bif Nat.beq i 20 then 900 else bif Nat.beq i 27 then 901 else 0)
 hint:=(fun i=>bif Nat.beq i 8 then some 100000 else bif Nat.beq i 15 then some 100000 else bif Nat.beq i 23 then some 100000 else bif Nat.beq i 29 then some 100000 else bif Nat.beq i 31 then some 100000 else none)
 frzNew:=[2]
 thaw:=true }
def ZcA(aF aG aH aI aA aE aJ:Int)(aC:Option Addr)(aB aD c0b c0o mkb:Nat)(t0a:Option Addr)(t0n t0c:Nat)(t1a:Option Addr)(t1n t1c:Nat)(m:Mem)(Y:Nat→Prop)(R:RTY):Prop:=
 ∀(b:Nat)(m':Mem),Mem.le m m'→Mem.reads m' b 0 [int u8 aF,int u64 aG,int u64 aH,int u64 aI,int u64 aA,int i64 aE,int i64 aJ,slice aC aB aD]→Mem.free m b→(∀(b' o:Nat) (u:
 Value),m' b' o=some u→m b' o=some u∨b'=b)→∀(b b:Nat),∃(v:Value),m' c0b c0o=some v∧chk (Zey v) (chk (Zey v) (Zmy v=mkb∧Eng.Zr2 [slice t0a t0n t0c,slice t1a t1n t1c] (ZlD v+0) fun(v
 : Value)=>chk (Zfq v) (∃(ac:Value),m' c0b c0o=some ac∧∃(ae:Value),m' c0b c0o=some ae∧∃(af:Value),m' c0b c0o=some af∧chk (Zey af) (chk (Zey af) (Zmy af=mkb∧Eng.Zr2 [slice t0a t0n t0c,
 slice t1a t1n t1c] (ZlD af+0) fun(aa:Value)=>∀(ad:Nat),Mem.free m' ad→chk (Zfq aa&&true) ((Tok.mk (slice t0a t0n t0c) 4=Tok.mk aa 4∨aa=slice none 0 0∨slC aa < slN aa+1)∧∃(xs:List Value),
 ∃(ys:List Value),List.length xs=slN aa*4∧List.length ys=1*4∧rowRd (Mem.add m' ad [int u64 aG,int u64 aH,int u64 aI,int u64 aA]) (slA aa) xs∧rowRd (Mem.add m' ad [int u64 aG,int u64 aH,
 int u64 aI,int u64 aA]) (some (Addr.mk ad 0 none)) ys∧(∀(u:Value),u∈ys→Value.oneCell' u=true)∧(slN aa+1)*32≤140737488355328∧slN aa+1≤9223372036854775807∧∀(a':Option Addr)(c':Nat)
 (ah:Mem),Mem.le (Mem.add m' ad [int u64 aG,int u64 aH,int u64 aI,int u64 aA]) ah→rowRd ah a' (List.append xs ys)→TokFact (Mem.add m' ad [int u64 aG,int u64 aH,int u64 aI,int u64 aA]) (slA
 aa) a' (slN aa+1) c'→∃(ag:Value),m' c0b c0o=some ag∧chk (Zey ag) (chk (Zey ag) (Zmy ag=mkb∧Eng.Zr2 [slice t0a t0n t0c,slice t1a t1n t1c] (ZlD ag+1) fun(ab:Value)=>∀(ai:Nat),Mem.free m'
 ai→∀(V:Mem),Mem.le m' V→Mem.le ah V→Mem.le (Mem.add m' ai [int u64 0,int u64 0,int u64 0,int u64 0,int u64 0,int u64 0,int u64 0]) V→chk (Zfq ab&&true) ((Tok.mk (slice t1a t1n t1c) 7=Tok.mk ab 7∨
 ab=slice none 0 0∨slC ab < slN ab+1)∧∃(xs:List Value),∃(ys:List Value),List.length xs=slN ab*7∧List.length ys=1*7∧rowRd V (slA ab) xs∧rowRd V (some (Addr.mk ai 0 none)) ys∧(∀(u:Value),
 u∈ys→Value.oneCell' u=true)∧(slN ab+1)*56≤140737488355328∧slN ab+1≤9223372036854775807∧∀(aj:Option Addr)(ak:Nat)(al:Mem),Mem.le V al→rowRd al aj (List.append xs ys)→TokFact V (slA ab)
 aj (slN ab+1) ak→chk (Zey ac) (chk (Zey ac) (Zmy ac=mkb∧ZlD ac+0+1≤1+1∧chk (Zey ae) (chk (Zey ae) (Zmy ae=mkb∧ZlD ae+1+1≤List.length (Zan [slice t0a t0n t0c,slice t1a t1n t1c]
 (ZlD ac+0) [slice a' (slN aa+1) c'])∧∀(M:Mem),Mem.le m' M→Mem.le (Mem.add m' ad [int u64 aG,int u64 aH,int u64 aI,int u64 aA]) M→Mem.le ah M→Mem.le (Mem.add m' ai [int u64 0,int u64 0,int
 u64 0,int u64 0,int u64 0,int u64 0,int u64 0]) M→Mem.le al M→∃(R_1:RT),True∧CX Try.prog 116 (Array.mk [Value.pointer (some (Addr.mk b 0 none)),int i64 (↑(slN v):Int)]) M [Box.mk b [int u64 0,int u64
 0,int u64 0,int u64 0,int u64 0,int u64 0,int u64 0,int u64 0,int u64 0,int u64 0,int u64 0,int u64 0,int u64 0,int u64 0,Value.bool false] 102 15 false true] R_1∧ZaJ (Shape.tup []) R_1∧∀(m':Mem),
 Mem.le M m'→∀(cs:List Value),R_1 (Value.tuple (Array.mk [])) m' [cs]→∃(R_2:RT),True∧CX Try.prog 116 (Array.mk [Value.pointer (some (Addr.mk b 7 none)),int i64 (↑(slN v):Int)]) m' [Box.mk b cs 102 15
 false true] R_2∧ZaJ (Shape.tup []) R_2∧∀(am:Mem),Mem.le m' am→∀(cs:List Value),R_2 (Value.tuple (Array.mk [])) am [cs]→chk (Nat.beq (List.length cs) 15&&Zc8 cs) (Box.mk mkb [slice t0a t0n t0c,slice
 t1a t1n t1c] 98 2 false true=Box.mk mkb [slice t0a t0n t0c,slice t1a t1n t1c] 98 2 false true∧R (agg (Array.mk cs)) am [Zan (Zan [slice t0a t0n t0c,slice t1a t1n t1c] (ZlD ac+0) [slice a' (slN aa+1)
 c']) (ZlD ae+1) [slice aj (slN ab+1) ak]] [slice a' (slN aa+1) c',slice aj (slN ab+1) ak]))))))))))))))
theorem Zd1(aF aG aH aI aA aE aJ:Int)(aC:Option Addr)(aB aD c0b c0o mkb:Nat)(t0a:Option Addr)(t0n t0c:Nat)(t1a:Option Addr)(t1n t1c:Nat)(m:Mem)(Y:Nat→Prop)(R:RTY)(h:ZcA aF aG aH aI aA aE aJ aC aB aD c0b c0o mkb t0a t0n t0c t1a t1n t1c m Y R):CXY Try.prog 137 #[.agg #[.int .u8 aF,.int .u64 aG,.int .u64 aH,.int .u64 aI,.int .u64 aA,.int .i64 aE,.int .i64 aJ,.slice aC aB aD],.pointer (some ⟨c0b,c0o,none⟩)] m Y [⟨mkb,[.slice t0a t0n t0c,.slice t1a t1n t1c],98,2,false,true⟩] [⟨.slice t0a t0n t0c,4⟩,⟨.slice t1a t1n t1c,7⟩] R:=
 ZaV (E:=Zfb) ZaC mix Try.func137 [.v (.agg #[.int .u8 aF,.int .u64 aG,.int .u64 aH,.int .u64 aI,.int .u64 aA,.int .i64 aE,.int .i64 aJ,.slice aC aB aD]),.v (.pointer (some ⟨c0b,c0o,none⟩))] [⟨mkb,[.slice t0a t0n t0c,.slice t1a t1n t1c],98,2,false,true⟩] [900,901] [⟨.slice t0a t0n t0c,4⟩,⟨.slice t1a t1n t1c,7⟩] (by decide) (by kernel_rfl) (Eq.mp (by kernel_rfl) h)
noncomputable def Zg3:Env:={ EB with
 loops:=(fun i=>bif Nat.beq i 3 then⟨[(8,.int .i64)],[],[(901,7)],false⟩ else⟨[],[],[],false⟩)
 dr:=(fun i=>bif Nat.beq i 3 then[⟨0,[3],[],none,[],[]⟩,⟨1,[],[],none,[0],[]⟩,⟨2,[],[],none,[0,1],[]⟩,⟨3,[100000],[],none,[0,1,2],[]⟩,⟨4,[],[],none,[],[]⟩,⟨5,[],[],none,[0,1,2,3,4],[]⟩,⟨6,[5],[],none,[],[]⟩]else[])
 hint:=(fun i=>bif Nat.beq i 11 then some 100000 else none)
 frzNew:=[3,4,5]
 last:=(fun i=>bif Nat.beq i 3 then true else false)
 lastK:=(fun i=>bif Nat.beq i 3 then 1 else 1)
 thaw:=true
 lentC:=(fun i=>bif Nat.beq i 16 then some [(901,7)]else none) }
def ZdG(p0b p0o:Nat)(bI bE bF bG aZ bC bD bU bV bW bX bY bZ cA:Int)(mkb:Nat)(t0a:Option Addr)(t0n t0c:Nat)(t1a:Option Addr)(t1n t1c:Nat)(m:Mem)(Y:Nat→Prop)(R:RTY):Prop:=
 ∀(b:Nat)(m':Mem),Mem.le m m'→Mem.reads m' b 0 [Value.pointer (some (Addr.mk p0b p0o none))]→Mem.free m b→(∀(b' o:Nat)(u:Value),m' b' o=some u→m b' o=some u∨b'=b)→∀(ab:Nat)(ac:Mem),
 Mem.le m' ac→Mem.reads ac ab 0 [int u64 bI,int u64 bE,int u64 bF,int u64 bG,int u64 aZ,int u64 bC,int u64 bD]→Mem.free m' ab→(∀(b' o:Nat)(u:Value),ac b' o=some u→m' b' o=some u∨
 b'=ab)→∀(ad:Nat)(m':Mem),Mem.le ac m'→Mem.reads m' ad 0 [int u64 bU,int u64 bV,int u64 bW,int u64 bX,int u64 bY,int u64 bZ,int u64 cA]→Mem.free ac ad→(∀(b' o:Nat)(u:Value),m'
 b' o=some u→ac b' o=some u∨b'=ad)→∃(R_1:RT),True∧CX Try.prog 111 (Array.mk [Value.pointer (some (Addr.mk ab 0 none))]) m' [] R_1∧ZaJ Shape.fn R_1∧∀(g:Nat)(fi ca:List Value)(ag:Mem),
 Mem.le m' ag→R_1 (Value.func (Fn.func g) (Array.mk fi) (Array.mk ca)) ag []→∃(mi:Mem),Mem.le mi ag∧∃(xs:List (List Value)),IX Try.prog g fi ca mi xs∧(∀(x:List Value),x∈xs→Shape.fitsL [Shape.int
 i64] x=true)∧∃(I:IT),I [] [] [slice t1a t1n t1c] ag 0∧(∀(n:Int)(a:Option Addr)(ah c:Nat)(m':Mem)(ai:Nat),Mem.le mi m'→List.get?Internal xs ai=some [int i64 n]→I [] [] [slice a ah c] m' ai
 → ∃(f:Fx),p0b=mkb∧Eng.Zr2 [slice t0a t0n t0c,slice t1a t1n t1c] (p0o+1) fun(v:Value)=>chk (Zfq v) (∃(aj:Nat),∃(o:Nat),slA v=some (Addr.mk aj o none)∧Zaf n (slN v)∧∃(ae:Nat→Prop),
 ∃(R:Value→Mem→List (List Value)→List Value→Prop),CXY Try.prog 141 (Array.mk [ptr aj (o+Int.toNat n*7),agg (Array.mk [int u64 bU,int u64 bV,int u64 bW,int u64 bX,int u64 bY,int u64 bZ,
 int u64 cA])]) m' ae [] [Tok.mk (slice a ah c) 7] R∧(∀(t:Tok),t∈[Tok.mk (slice a ah c) 7]→∀(b:Nat),Tok.blk t=some b→ae b)∧(∀(aa:Nat),ae aa→(∃(t:Tok),t∈[Tok.mk (slice a ah c) 7]∧
 Tok.blk t=some aa)∨Mem.free (Mem.off m Y) aa∧(∃(o:Nat),∃(v:Value),m' aa o=some v)∧ad≠aa∧ab≠aa∧b≠aa∧Tok.blk (Tok.mk (slice t0a t0n t0c) 4)≠some aa∧True)∧(∀(v:Value)(m':Mem) (css
 : List (List Value)) (tvs:List Value),R v m' css tvs→Shape.fits (Shape.tup []) v=true)∧∀(af:Mem),Mem.le (Mem.off m' ae) af→(∀(b o:Nat)(u:Value),af b o=some u→m' b o=some u∨ae b∨Mem.free
 m' b)→∀(a:Option Addr)(c d:Nat),R (Value.tuple (Array.mk [])) af [] [slice a c d]→Mem.le mi af∧[some (Box.mk ad [int u64 bU,int u64 bV,int u64 bW,int u64 bX,int u64 bY,int u64 bZ,int u64
 cA] 100 7 true true),some (Box.mk ab [int u64 bI,int u64 bE,int u64 bF,int u64 bG,int u64 aZ,int u64 bC,int u64 bD] 100 7 true true),some (Box.mk b [Value.pointer (some (Addr.mk p0b p0o none))]
 95 1 true true),some (Box.mk mkb [slice t0a t0n t0c,slice t1a t1n t1c] 98 2 false true)]=[some (Box.mk ad [int u64 bU,int u64 bV,int u64 bW,int u64 bX,int u64 bY,int u64 bZ,int u64 cA] 100 7 true
 true),some (Box.mk ab [int u64 bI,int u64 bE,int u64 bF,int u64 bG,int u64 aZ,int u64 bC,int u64 bD] 100 7 true true),some (Box.mk b [Value.pointer (some (Addr.mk p0b p0o none))] 95 1 true true),
 some (Box.mk mkb [slice t0a t0n t0c,slice t1a t1n t1c] 98 2 false true)]∧[some (Tok.mk (slice t0a t0n t0c) 4),none]=[some (Tok.mk (slice t0a t0n t0c) 4),none]∧I [] [] [slice a c d] af (ai+1)))∧∀(a:Option
 Addr) (n c:Nat) (m':Mem),Mem.le mi m'→I [] [] [slice a n c] m' (List.length xs)→Box.mk mkb [slice t0a t0n t0c,slice t1a t1n t1c] 98 2 false true=Box.mk mkb [slice t0a t0n t0c,slice t1a t1n t1c] 98 2 false
 true∧R (Value.tuple (Array.mk [])) m' [[slice t0a t0n t0c,slice t1a t1n t1c]] [slice t0a t0n t0c,slice a n c]
theorem ZfC(p0b p0o:Nat)(bI bE bF bG aZ bC bD bU bV bW bX bY bZ cA:Int)(mkb:Nat)(t0a:Option Addr)(t0n t0c:Nat)(t1a:Option Addr)(t1n t1c:Nat)(m:Mem)(Y:Nat→Prop)(R:RTY)(h:ZdG p0b p0o bI bE bF bG aZ bC bD bU bV bW bX bY bZ cA mkb t0a t0n t0c t1a t1n t1c m Y R):CXY Try.prog 164 #[.pointer (some ⟨p0b,p0o,none⟩),.agg #[.int .u64 bI,.int .u64 bE,.int .u64 bF,.int .u64 bG,.int .u64 aZ,.int .u64 bC,.int .u64 bD],.agg #[.int .u64 bU,.int .u64 bV,.int .u64 bW,.int .u64 bX,.int .u64 bY,.int .u64 bZ,.int .u64 cA]] m Y [⟨mkb,[.slice t0a t0n t0c,.slice t1a t1n t1c],98,2,false,true⟩] [⟨.slice t0a t0n t0c,4⟩,⟨.slice t1a t1n t1c,7⟩] R:=
 ZaV (E:=Zg3) ZaC mix Try.func164 [.v (.pointer (some ⟨p0b,p0o,none⟩)),.v (.agg #[.int .u64 bI,.int .u64 bE,.int .u64 bF,.int .u64 bG,.int .u64 aZ,.int .u64 bC,.int .u64 bD]),.v (.agg #[.int .u64 bU,.int .u64 bV,.int .u64 bW,.int .u64 bX,.int .u64 bY,.int .u64 bZ,.int .u64 cA])] [⟨mkb,[.slice t0a t0n t0c,.slice t1a t1n t1c],98,2,false,true⟩] [900,901] [⟨.slice t0a t0n t0c,4⟩,⟨.slice t1a t1n t1c,7⟩] (by decide) (by kernel_rfl) (Eq.mp (by kernel_rfl) h)
noncomputable def Zg4:Env:={ EB with
 borrow:=(fun i=>bif Nat.beq i 13 then[100000]else[])
 frzNew:=[4,5]
 thaw:=true
 lentC:=(fun i=>bif Nat.beq i 13 then some [(900,4),(901,7)]else none) }
def ZdH(p0b p0o:Nat)(bI bE bF bG aZ bC bD gY gZ hH fD fE fF fG:Int)(fY:Bool)(bU bV bW bX bY bZ cA gI gJ gK eT eU eV eW:Int)(eJ:Bool)(mkb:Nat)(t0a:Option Addr)(t0n t0c:Nat)(t1a:Option Addr)(t1n t1c:Nat)(m:Mem)(Y:Nat→Prop)(R:RTY):Prop:=
 ∀(b:Nat)(m':Mem),Mem.le m m'→Mem.reads m' b 0 [int u64 bI,int u64 bE,int u64 bF,int u64 bG,int u64 aZ,int u64 bC,int u64 bD,int u64 gY,int u64 gZ,int u64 hH,int u64 fD,int u64
 fE,int u64 fF,int u64 fG,Value.bool fY]→Mem.free m b→(∀(b' o:Nat)(u:Value),m' b' o=some u→m b' o=some u∨b'=b)→∀(aj:Nat)(ag:Mem),Mem.le m' ag→Mem.reads ag aj 0 [int u64
 bU,int u64 bV,int u64 bW,int u64 bX,int u64 bY,int u64 bZ,int u64 cA,int u64 gI,int u64 gJ,int u64 gK,int u64 eT,int u64 eU,int u64 eV,int u64 eW,Value.bool eJ]→
 Mem.free m' aj→(∀(b' o:Nat)(u:Value),ag b' o=some u→m' b' o=some u∨b'=aj)→∀(ak:Nat),∃(ai:Nat→Prop),∃(R_1:Value→Mem→List (List Value)→List Value→Prop),CXY Try.prog 164 (Array.mk
 [Value.pointer (some (Addr.mk p0b p0o none)),agg (Array.mk [int u64 gY,int u64 gZ,int u64 hH,int u64 fD,int u64 fE,int u64 fF,int u64 fG]),agg (Array.mk [int u64 bU,int u64 bV,int u64
 bW,int u64 bX,int u64 bY,int u64 bZ,int u64 cA])]) ag ai [Box.mk mkb [slice t0a t0n t0c,slice t1a t1n t1c] 98 2 false true] [Tok.mk (slice t0a t0n t0c) 4,Tok.mk (slice t1a t1n t1c) 7] R_1∧(∀(t:Tok),
 t∈[Tok.mk (slice t0a t0n t0c) 4,Tok.mk (slice t1a t1n t1c) 7]→∀(b:Nat),Tok.blk t=some b→ai b)∧(∀(ah:Nat),ai ah→(∃(t:Tok),t∈[Tok.mk (slice t0a t0n t0c) 4,Tok.mk (slice t1a t1n t1c) 7]∧
 Tok.blk t=some ah)∨Mem.free (Mem.off m Y) ah∧(∃(o:Nat),∃(v:Value),ag ah o=some v)∧aj≠ah∧b≠ah∧True)∧(∀(v:Value)(m':Mem) (css:List (List Value)) (tvs:List Value),R_1 v m' css tvs→
 Shape.fits (Shape.tup []) v=true)∧∀(m':Mem),Mem.le (Mem.off ag ai) m'→(∀(b o:Nat)(u:Value),m' b o=some u→ag b o=some u∨ai b∨Mem.free ag b)→∀(cs:List Value)(a:Option Addr)(c d:Nat)
 (ac:Option Addr) (ad ae:Nat),R_1 (Value.tuple (Array.mk [])) m' [cs] [slice a c d,slice ac ad ae]→br fY (∀(b:Nat),br fY (∃(R_2:RT),True∧CX Try.prog 141 (Array.mk [Value.pointer (some (Addr.mk b 0
 none)),agg (Array.mk [int u64 bU,int u64 bV,int u64 bW,int u64 bX,int u64 bY,int u64 bZ,int u64 cA])]) m' [Box.mk b [int u64 bI,int u64 bE,int u64 bF,int u64 bG,int u64 aZ,int u64
 bC,int u64 bD,int u64 gI,int u64 gJ,int u64 gK,int u64 eT,int u64 eU,int u64 eV,int u64 eW,Value.bool eJ] 102 15 false true] R_2∧ZaJ (Shape.tup []) R_2∧∀(ab:Mem),Mem.le m' ab→
 ∀(aa:List Value),R_2 (Value.tuple (Array.mk [])) ab [aa]→br eJ (∃(R_3:RT),True∧CX Try.prog 141 (Array.mk [Value.pointer (some (Addr.mk b 7 none)),agg (Array.mk [int u64 gY,int u64 gZ,int u64 hH,
 int u64 fD,int u64 fE,int u64 fF,int u64 fG])]) ab [Box.mk b aa 102 15 false true] R_3∧ZaJ (Shape.tup []) R_3∧∀(m':Mem),Mem.le ab m'→∀(af:List Value),R_3 (Value.tuple (Array.mk [])) m' [af]
 → chk (Nat.beq (List.length af) 15&&Zc8 af) (Box.mk mkb [slice t0a t0n t0c,slice t1a t1n t1c] 98 2 false true=Box.mk mkb [slice t0a t0n t0c,slice t1a t1n t1c] 98 2 false true∧R (agg (Array.mk af)) m' [cs]
 [slice a c d,slice ac ad ae])) (chk (Nat.beq (List.length aa) 15&&Zc8 aa) (Box.mk mkb [slice t0a t0n t0c,slice t1a t1n t1c] 98 2 false true=Box.mk mkb [slice t0a t0n t0c,slice t1a t1n t1c] 98 2 false true∧R
 (agg (Array.mk aa)) ab [cs] [slice a c d,slice ac ad ae]))) (br eJ (∃(R_2:RT),True∧CX Try.prog 141 (Array.mk [Value.pointer (some (Addr.mk b 7 none)),agg (Array.mk [int u64 gY,int u64 gZ,int u64 hH,
 int u64 fD,int u64 fE,int u64 fF,int u64 fG])]) m' [Box.mk b [int u64 bI,int u64 bE,int u64 bF,int u64 bG,int u64 aZ,int u64 bC,int u64 bD,int u64 gI,int u64 gJ,int u64 gK,
 int u64 eT,int u64 eU,int u64 eV,int u64 eW,Value.bool eJ] 102 15 false true] R_2∧ZaJ (Shape.tup []) R_2∧∀(ab:Mem),Mem.le m' ab→∀(aa:List Value),R_2 (Value.tuple (Array.mk [])) ab [aa]
 → chk (Nat.beq (List.length aa) 15&&Zc8 aa) (Box.mk mkb [slice t0a t0n t0c,slice t1a t1n t1c] 98 2 false true=Box.mk mkb [slice t0a t0n t0c,slice t1a t1n t1c] 98 2 false true∧R (agg (Array.mk aa)) ab [cs]
 [slice a c d,slice ac ad ae])) (Box.mk mkb [slice t0a t0n t0c,slice t1a t1n t1c] 98 2 false true=Box.mk mkb [slice t0a t0n t0c,slice t1a t1n t1c] 98 2 false true∧R (agg (Array.mk [int u64 bI,int u64 bE,int
 u64 bF,int u64 bG,int u64 aZ,int u64 bC,int u64 bD,int u64 gI,int u64 gJ,int u64 gK,int u64 eT,int u64 eU,int u64 eV,int u64 eW,Value.bool eJ])) m' [cs] [slice a c d,slice ac
 ad ae]))) (∀(b:Nat),br fY (∃(R_2:RT),True∧CX Try.prog 141 (Array.mk [Value.pointer (some (Addr.mk b 0 none)),agg (Array.mk [int u64 bU,int u64 bV,int u64 bW,int u64 bX,int u64 bY,int u64
 bZ,int u64 cA])]) m' [Box.mk b [int u64 bI,int u64 bE,int u64 bF,int u64 bG,int u64 aZ,int u64 bC,int u64 bD,int u64 gI,int u64 gJ,int u64 gK,int u64 eT,int u64 eU,int u64
 eV,int u64 eW,Value.bool false] 102 15 false true] R_2∧ZaJ (Shape.tup []) R_2∧∀(ab:Mem),Mem.le m' ab→∀(aa:List Value),R_2 (Value.tuple (Array.mk [])) ab [aa]→br eJ (∃(R_3:RT),True∧CX
 Try.prog 141 (Array.mk [Value.pointer (some (Addr.mk b 7 none)),agg (Array.mk [int u64 gY,int u64 gZ,int u64 hH,int u64 fD,int u64 fE,int u64 fF,int u64 fG])]) ab [Box.mk b aa 102 15 false true]
 R_3∧ZaJ (Shape.tup []) R_3∧∀(m':Mem),Mem.le ab m'→∀(af:List Value),R_3 (Value.tuple (Array.mk [])) m' [af]→chk (Nat.beq (List.length af) 15&&Zc8 af) (Box.mk mkb [slice t0a t0n t0c,slice t1a t1n
 t1c] 98 2 false true=Box.mk mkb [slice t0a t0n t0c,slice t1a t1n t1c] 98 2 false true∧R (agg (Array.mk af)) m' [cs] [slice a c d,slice ac ad ae])) (chk (Nat.beq (List.length aa) 15&&Zc8 aa) (Box.mk mkb [slice
 t0a t0n t0c,slice t1a t1n t1c] 98 2 false true=Box.mk mkb [slice t0a t0n t0c,slice t1a t1n t1c] 98 2 false true∧R (agg (Array.mk aa)) ab [cs] [slice a c d,slice ac ad ae]))) (br eJ (∃(R_2:RT),True∧CX
 Try.prog 141 (Array.mk [Value.pointer (some (Addr.mk b 7 none)),agg (Array.mk [int u64 gY,int u64 gZ,int u64 hH,int u64 fD,int u64 fE,int u64 fF,int u64 fG])]) m' [Box.mk b [int u64 bI,int
 u64 bE,int u64 bF,int u64 bG,int u64 aZ,int u64 bC,int u64 bD,int u64 gI,int u64 gJ,int u64 gK,int u64 eT,int u64 eU,int u64 eV,int u64 eW,Value.bool false] 102 15 false true]
 R_2∧ZaJ (Shape.tup []) R_2∧∀(ab:Mem),Mem.le m' ab→∀(aa:List Value),R_2 (Value.tuple (Array.mk [])) ab [aa]→chk (Nat.beq (List.length aa) 15&&Zc8 aa) (Box.mk mkb [slice t0a t0n t0c,slice t1a t1n
 t1c] 98 2 false true=Box.mk mkb [slice t0a t0n t0c,slice t1a t1n t1c] 98 2 false true∧R (agg (Array.mk aa)) ab [cs] [slice a c d,slice ac ad ae])) (Box.mk mkb [slice t0a t0n t0c,slice t1a t1n t1c] 98 2 false true
 = Box.mk mkb [slice t0a t0n t0c,slice t1a t1n t1c] 98 2 false true∧R (agg (Array.mk [int u64 bI,int u64 bE,int u64 bF,int u64 bG,int u64 aZ,int u64 bC,int u64 bD,int u64 gI,int u64 gJ,int
 u64 gK,int u64 eT,int u64 eU,int u64 eV,int u64 eW,Value.bool false])) m' [cs] [slice a c d,slice ac ad ae])))
theorem ZfD(p0b p0o:Nat)(bI bE bF bG aZ bC bD gY gZ hH fD fE fF fG:Int)(fY:Bool)(bU bV bW bX bY bZ cA gI gJ gK eT eU eV eW:Int)(eJ:Bool)(mkb:Nat)(t0a:Option Addr)(t0n t0c:Nat)(t1a:Option Addr)(t1n t1c:Nat)(m:Mem)(Y:Nat→Prop)(R:RTY)(h:ZdH p0b p0o bI bE bF bG aZ bC bD gY gZ hH fD fE fF fG fY bU bV bW bX bY bZ cA gI gJ gK eT eU eV eW eJ mkb t0a t0n t0c t1a t1n t1c m Y R):CXY Try.prog 139 #[.pointer (some ⟨p0b,p0o,none⟩),.agg #[.int .u64 bI,.int .u64 bE,.int .u64 bF,.int .u64 bG,.int .u64 aZ,.int .u64 bC,.int .u64 bD,.int .u64 gY,.int .u64 gZ,.int .u64 hH,.int .u64 fD,.int .u64 fE,.int .u64 fF,.int .u64 fG,.bool fY],.agg #[.int .u64 bU,.int .u64 bV,.int .u64 bW,.int .u64 bX,.int .u64 bY,.int .u64 bZ,.int .u64 cA,.int .u64 gI,.int .u64 gJ,.int .u64 gK,.int .u64 eT,.int .u64 eU,.int .u64 eV,.int .u64 eW,.bool eJ]] m Y [⟨mkb,[.slice t0a t0n t0c,.slice t1a t1n t1c],98,2,false,true⟩] [⟨.slice t0a t0n t0c,4⟩,⟨.slice t1a t1n t1c,7⟩] R:=
 ZaV (E:=Zg4) ZaC mix Try.func139 [.v (.pointer (some ⟨p0b,p0o,none⟩)),.v (.agg #[.int .u64 bI,.int .u64 bE,.int .u64 bF,.int .u64 bG,.int .u64 aZ,.int .u64 bC,.int .u64 bD,.int .u64 gY,.int .u64 gZ,.int .u64 hH,.int .u64 fD,.int .u64 fE,.int .u64 fF,.int .u64 fG,.bool fY]),.v (.agg #[.int .u64 bU,.int .u64 bV,.int .u64 bW,.int .u64 bX,.int .u64 bY,.int .u64 bZ,.int .u64 cA,.int .u64 gI,.int .u64 gJ,.int .u64 gK,.int .u64 eT,.int .u64 eU,.int .u64 eV,.int .u64 eW,.bool eJ])] [⟨mkb,[.slice t0a t0n t0c,.slice t1a t1n t1c],98,2,false,true⟩] [900,901] [⟨.slice t0a t0n t0c,4⟩,⟨.slice t1a t1n t1c,7⟩] (by decide) (by kernel_rfl) (Eq.mp (by kernel_rfl) h)
noncomputable def ZfE:Env:={ EB with
 dr:=(fun i=>bif Nat.beq i 1 then[⟨0,[],[],none,[],[]⟩,⟨1,[],[],none,[0],[]⟩,⟨2,[3],[],none,[],[]⟩,⟨3,[3],[],none,[2],[]⟩,⟨4,[],[],none,[0,1,2,3],[]⟩,⟨5,[3],[],none,[],[]⟩]else[])
 borrow:=(fun i=>bif Nat.beq i 11 then[100000]else[])
 frzNew:=[3]
 last:=(fun i=>bif Nat.beq i 1 then true else false)
 lastK:=(fun i=>bif Nat.beq i 1 then 2 else 1)
 thaw:=true
 lentC:=(fun i=>bif Nat.beq i 11 then some [(900,4),(901,7)]else none) }
def ZcP(p0b p0o:Nat)(bE bF bG aZ bC bD:Int)(aW:Option Addr)(aX aY mkb:Nat)(t0a:Option Addr)(t0n t0c:Nat)(t1a:Option Addr)(t1n t1c:Nat)(m:Mem)(Y:Nat→Prop)(R:RTY):Prop:=
 ∀(b:Nat)(m':Mem),Mem.le m m'→Mem.reads m' b 0 [int u8 1,int u64 bE,int u64 bF,int u64 bG,int u64 aZ,int i64 bC,int i64 bD,slice aW aX aY]→Mem.free m b→(∀(b' o:Nat) (u:
 Value),m' b' o=some u→m b' o=some u∨b'=b)→∀(bd:Nat),∃(f:Fx),∃(R_1:RT),R_1=f 1 [Value.pointer (some (Addr.mk p0b p0o none))] m'∧CX Try.prog 109 (Array.mk [Value.pointer (some (Addr.mk p0b p0o
 none))]) m' [] R_1∧ZaJ (Shape.agg [Shape.fn,Shape.fn,Shape.fn,Shape.fn,Shape.fn,Shape.fn,Shape.fn]) R_1∧∀(g:Nat)(fi ca:List Value)(ad:Nat)(ae af:List Value)(ay:Nat)(az a0:List Value) (a1:
 Nat) (a2 a3:List Value) (a4:Nat) (a5 a6:List Value) (a7:Nat) (a8 a9:List Value) (ba:Nat) (bb bc:List Value) (ac:Mem),Mem.le m' ac→R_1 (agg (Array.mk [Value.func (Fn.func g) (Array.mk fi) (Array.mk
 ca),Value.func (Fn.func ad) (Array.mk ae) (Array.mk af),Value.func (Fn.func ay) (Array.mk az) (Array.mk a0),Value.func (Fn.func a1) (Array.mk a2) (Array.mk a3),Value.func (Fn.func a4) (Array.mk a5) (Array.mk a6),
 Value.func (Fn.func a7) (Array.mk a8) (Array.mk a9),Value.func (Fn.func ba) (Array.mk bb) (Array.mk bc)])) ac []→Zaf (1:Int) 7∧∀(M:Mem),Mem.le m' M→Mem.le ac M→∃(aa:Nat→Prop),∃(R_2:Value→
 Mem→List (List Value)→List Value→Prop),CXY Try.prog ad (Array.mk (List.append (List.append ae [agg (Array.mk [int u8 1,int u64 bE,int u64 bF,int u64 bG,int u64 aZ,int i64 bC,int i64 bD,slice
 aW aX aY])]) af)) M aa [Box.mk mkb [slice t0a t0n t0c,slice t1a t1n t1c] 98 2 false true] [Tok.mk (slice t0a t0n t0c) 4,Tok.mk (slice t1a t1n t1c) 7] R_2∧(∀(t:Tok),t∈[Tok.mk (slice t0a t0n t0c) 4,
 Tok.mk (slice t1a t1n t1c) 7]→∀(b:Nat),Tok.blk t=some b→aa b)∧(∀(ab:Nat),aa ab→(∃(t:Tok),t∈[Tok.mk (slice t0a t0n t0c) 4,Tok.mk (slice t1a t1n t1c) 7]∧Tok.blk t=some ab)∨Mem.free (Mem.off
 m Y) ab∧(∃(o:Nat),∃(v:Value),M ab o=some v)∧b≠ab∧True)∧(∀(v:Value)(m':Mem) (css:List (List Value)) (tvs:List Value),R_2 v m' css tvs→Shape.fits (Shape.agg [Shape.int u64,Shape.int u64,
 Shape.int u64,Shape.int u64,Shape.int u64,Shape.int u64,Shape.int u64,Shape.int u64,Shape.int u64,Shape.int u64,Shape.int u64,Shape.int u64,Shape.int u64,Shape.int u64,Shape.bool]) v=true)∧∀(n ag ah ai
 aj ak al am an ao ap aq ar au:Int) (b:Bool) (m':Mem),Mem.le (Mem.off M aa) m'→(∀(b o:Nat)(u:Value),m' b o=some u→M b o=some u∨aa b∨Mem.free M b)→∀(cs:List Value)(a:Option Addr) (c d:
 Nat) (av:Option Addr) (aw ax:Nat),R_2 (agg (Array.mk [int u64 n,int u64 ag,int u64 ah,int u64 ai,int u64 aj,int u64 ak,int u64 al,int u64 am,int u64 an,int u64 ao,int u64 ap,int u64 aq,int u64 ar,int
 u64 au,Value.bool b])) m' [cs] [slice a c d,slice av aw ax]→Box.mk mkb [slice t0a t0n t0c,slice t1a t1n t1c] 98 2 false true=Box.mk mkb [slice t0a t0n t0c,slice t1a t1n t1c] 98 2 false true∧R (agg (Array.mk
 [int u64 n,int u64 ag,int u64 ah,int u64 ai,int u64 aj,int u64 ak,int u64 al,int u64 am,int u64 an,int u64 ao,int u64 ap,int u64 aq,int u64 ar,int u64 au,Value.bool b])) m' [cs] [slice a c d,slice av aw
 ax]
theorem Zem(p0b p0o:Nat)(bE bF bG aZ bC bD:Int)(aW:Option Addr)(aX aY mkb:Nat)(t0a:Option Addr)(t0n t0c:Nat)(t1a:Option Addr)(t1n t1c:Nat)(m:Mem)(Y:Nat→Prop)(R:RTY)(h:ZcP p0b p0o bE bF bG aZ bC bD aW aX aY mkb t0a t0n t0c t1a t1n t1c m Y R):CXY Try.prog 61 #[.pointer (some ⟨p0b,p0o,none⟩),.agg #[.int .u8 1,.int .u64 bE,.int .u64 bF,.int .u64 bG,.int .u64 aZ,.int .i64 bC,.int .i64 bD,.slice aW aX aY]] m Y [⟨mkb,[.slice t0a t0n t0c,.slice t1a t1n t1c],98,2,false,true⟩] [⟨.slice t0a t0n t0c,4⟩,⟨.slice t1a t1n t1c,7⟩] R:=
 ZaV (E:=ZfE) ZaC mix Try.func61 [.v (.pointer (some ⟨p0b,p0o,none⟩)),.v (.agg #[.int .u8 1,.int .u64 bE,.int .u64 bF,.int .u64 bG,.int .u64 aZ,.int .i64 bC,.int .i64 bD,.slice aW aX aY])] [⟨mkb,[.slice t0a t0n t0c,.slice t1a t1n t1c],98,2,false,true⟩] [900,901] [⟨.slice t0a t0n t0c,4⟩,⟨.slice t1a t1n t1c,7⟩] (by decide) (by kernel_rfl) (Eq.mp (by kernel_rfl) h)
noncomputable def ZfF:Env:={ EB with
 dr:=(fun i=>bif Nat.beq i 1 then[⟨0,[],[],none,[],[]⟩,⟨1,[],[],none,[0],[]⟩,⟨2,[3],[],none,[],[]⟩,⟨3,[3],[],none,[2],[]⟩,⟨4,[],[],none,[0,1,2,3],[]⟩,⟨5,[3],[],none,[],[]⟩]else[])
 borrow:=(fun i=>bif Nat.beq i 11 then[100000]else[])
 frzNew:=[3]
 last:=(fun i=>bif Nat.beq i 1 then true else false)
 lastK:=(fun i=>bif Nat.beq i 1 then 2 else 1)
 thaw:=true
 lentC:=(fun i=>bif Nat.beq i 11 then some [(900,4),(901,7)]else none) }
def ZcQ(p0b p0o:Nat)(bE bF bG aZ bC bD:Int)(aW:Option Addr)(aX aY mkb:Nat)(t0a:Option Addr)(t0n t0c:Nat)(t1a:Option Addr)(t1n t1c:Nat)(m:Mem)(Y:Nat→Prop)(R:RTY):Prop:=
 ∀(b:Nat)(m':Mem),Mem.le m m'→Mem.reads m' b 0 [int u8 2,int u64 bE,int u64 bF,int u64 bG,int u64 aZ,int i64 bC,int i64 bD,slice aW aX aY]→Mem.free m b→(∀(b' o:Nat) (u:
 Value),m' b' o=some u→m b' o=some u∨b'=b)→∀(bd:Nat),∃(f:Fx),∃(R_1:RT),R_1=f 1 [Value.pointer (some (Addr.mk p0b p0o none))] m'∧CX Try.prog 109 (Array.mk [Value.pointer (some (Addr.mk p0b p0o
 none))]) m' [] R_1∧ZaJ (Shape.agg [Shape.fn,Shape.fn,Shape.fn,Shape.fn,Shape.fn,Shape.fn,Shape.fn]) R_1∧∀(g:Nat)(fi ca:List Value)(ay:Nat)(az a0:List Value)(ad:Nat)(ae af:List Value) (a1:
 Nat) (a2 a3:List Value) (a4:Nat) (a5 a6:List Value) (a7:Nat) (a8 a9:List Value) (ba:Nat) (bb bc:List Value) (ac:Mem),Mem.le m' ac→R_1 (agg (Array.mk [Value.func (Fn.func g) (Array.mk fi) (Array.mk
 ca),Value.func (Fn.func ay) (Array.mk az) (Array.mk a0),Value.func (Fn.func ad) (Array.mk ae) (Array.mk af),Value.func (Fn.func a1) (Array.mk a2) (Array.mk a3),Value.func (Fn.func a4) (Array.mk a5) (Array.mk a6),
 Value.func (Fn.func a7) (Array.mk a8) (Array.mk a9),Value.func (Fn.func ba) (Array.mk bb) (Array.mk bc)])) ac []→Zaf (2:Int) 7∧∀(M:Mem),Mem.le m' M→Mem.le ac M→∃(aa:Nat→Prop),∃(R_2:Value→
 Mem→List (List Value)→List Value→Prop),CXY Try.prog ad (Array.mk (List.append (List.append ae [agg (Array.mk [int u8 2,int u64 bE,int u64 bF,int u64 bG,int u64 aZ,int i64 bC,int i64 bD,slice
 aW aX aY])]) af)) M aa [Box.mk mkb [slice t0a t0n t0c,slice t1a t1n t1c] 98 2 false true] [Tok.mk (slice t0a t0n t0c) 4,Tok.mk (slice t1a t1n t1c) 7] R_2∧(∀(t:Tok),t∈[Tok.mk (slice t0a t0n t0c) 4,
 Tok.mk (slice t1a t1n t1c) 7]→∀(b:Nat),Tok.blk t=some b→aa b)∧(∀(ab:Nat),aa ab→(∃(t:Tok),t∈[Tok.mk (slice t0a t0n t0c) 4,Tok.mk (slice t1a t1n t1c) 7]∧Tok.blk t=some ab)∨Mem.free (Mem.off
 m Y) ab∧(∃(o:Nat),∃(v:Value),M ab o=some v)∧b≠ab∧True)∧(∀(v:Value)(m':Mem) (css:List (List Value)) (tvs:List Value),R_2 v m' css tvs→Shape.fits (Shape.agg [Shape.int u64,Shape.int u64,
 Shape.int u64,Shape.int u64,Shape.int u64,Shape.int u64,Shape.int u64,Shape.int u64,Shape.int u64,Shape.int u64,Shape.int u64,Shape.int u64,Shape.int u64,Shape.int u64,Shape.bool]) v=true)∧∀(n ag ah ai
 aj ak al am an ao ap aq ar au:Int) (b:Bool) (m':Mem),Mem.le (Mem.off M aa) m'→(∀(b o:Nat)(u:Value),m' b o=some u→M b o=some u∨aa b∨Mem.free M b)→∀(cs:List Value)(a:Option Addr) (c d:
 Nat) (av:Option Addr) (aw ax:Nat),R_2 (agg (Array.mk [int u64 n,int u64 ag,int u64 ah,int u64 ai,int u64 aj,int u64 ak,int u64 al,int u64 am,int u64 an,int u64 ao,int u64 ap,int u64 aq,int u64 ar,int
 u64 au,Value.bool b])) m' [cs] [slice a c d,slice av aw ax]→Box.mk mkb [slice t0a t0n t0c,slice t1a t1n t1c] 98 2 false true=Box.mk mkb [slice t0a t0n t0c,slice t1a t1n t1c] 98 2 false true∧R (agg (Array.mk
 [int u64 n,int u64 ag,int u64 ah,int u64 ai,int u64 aj,int u64 ak,int u64 al,int u64 am,int u64 an,int u64 ao,int u64 ap,int u64 aq,int u64 ar,int u64 au,Value.bool b])) m' [cs] [slice a c d,slice av aw
 ax]
theorem Zen(p0b p0o:Nat)(bE bF bG aZ bC bD:Int)(aW:Option Addr)(aX aY mkb:Nat)(t0a:Option Addr)(t0n t0c:Nat)(t1a:Option Addr)(t1n t1c:Nat)(m:Mem)(Y:Nat→Prop)(R:RTY)(h:ZcQ p0b p0o bE bF bG aZ bC bD aW aX aY mkb t0a t0n t0c t1a t1n t1c m Y R):CXY Try.prog 61 #[.pointer (some ⟨p0b,p0o,none⟩),.agg #[.int .u8 2,.int .u64 bE,.int .u64 bF,.int .u64 bG,.int .u64 aZ,.int .i64 bC,.int .i64 bD,.slice aW aX aY]] m Y [⟨mkb,[.slice t0a t0n t0c,.slice t1a t1n t1c],98,2,false,true⟩] [⟨.slice t0a t0n t0c,4⟩,⟨.slice t1a t1n t1c,7⟩] R:=
 ZaV (E:=ZfF) ZaC mix Try.func61 [.v (.pointer (some ⟨p0b,p0o,none⟩)),.v (.agg #[.int .u8 2,.int .u64 bE,.int .u64 bF,.int .u64 bG,.int .u64 aZ,.int .i64 bC,.int .i64 bD,.slice aW aX aY])] [⟨mkb,[.slice t0a t0n t0c,.slice t1a t1n t1c],98,2,false,true⟩] [900,901] [⟨.slice t0a t0n t0c,4⟩,⟨.slice t1a t1n t1c,7⟩] (by decide) (by kernel_rfl) (Eq.mp (by kernel_rfl) h)
noncomputable def ZfG:Env:={ EB with
 dr:=(fun i=>bif Nat.beq i 1 then[⟨0,[],[],none,[],[]⟩,⟨1,[],[],none,[0],[]⟩,⟨2,[3],[],none,[],[]⟩,⟨3,[3],[],none,[2],[]⟩,⟨4,[],[],none,[0,1,2,3],[]⟩,⟨5,[3],[],none,[],[]⟩]else[])
 borrow:=(fun i=>bif Nat.beq i 11 then[100000]else[])
 frzNew:=[3]
 last:=(fun i=>bif Nat.beq i 1 then true else false)
 lastK:=(fun i=>bif Nat.beq i 1 then 2 else 1)
 thaw:=true
 lentC:=(fun i=>bif Nat.beq i 11 then some [(900,4),(901,7)]else none) }
def ZcR(p0b p0o:Nat)(bE bF bG aZ bC bD:Int)(aW:Option Addr)(aX aY mkb:Nat)(t0a:Option Addr)(t0n t0c:Nat)(t1a:Option Addr)(t1n t1c:Nat)(m:Mem)(Y:Nat→Prop)(R:RTY):Prop:=
 ∀(b:Nat)(m':Mem),Mem.le m m'→Mem.reads m' b 0 [int u8 3,int u64 bE,int u64 bF,int u64 bG,int u64 aZ,int i64 bC,int i64 bD,slice aW aX aY]→Mem.free m b→(∀(b' o:Nat) (u:
 Value),m' b' o=some u→m b' o=some u∨b'=b)→∀(bd:Nat),∃(f:Fx),∃(R_1:RT),R_1=f 1 [Value.pointer (some (Addr.mk p0b p0o none))] m'∧CX Try.prog 109 (Array.mk [Value.pointer (some (Addr.mk p0b p0o
 none))]) m' [] R_1∧ZaJ (Shape.agg [Shape.fn,Shape.fn,Shape.fn,Shape.fn,Shape.fn,Shape.fn,Shape.fn]) R_1∧∀(g:Nat)(fi ca:List Value)(ay:Nat)(az a0:List Value)(a1:Nat)(a2 a3:List Value) (ad:
 Nat) (ae af:List Value) (a4:Nat) (a5 a6:List Value) (a7:Nat) (a8 a9:List Value) (ba:Nat) (bb bc:List Value) (ac:Mem),Mem.le m' ac→R_1 (agg (Array.mk [Value.func (Fn.func g) (Array.mk fi) (Array.mk
 ca),Value.func (Fn.func ay) (Array.mk az) (Array.mk a0),Value.func (Fn.func a1) (Array.mk a2) (Array.mk a3),Value.func (Fn.func ad) (Array.mk ae) (Array.mk af),Value.func (Fn.func a4) (Array.mk a5) (Array.mk a6),
 Value.func (Fn.func a7) (Array.mk a8) (Array.mk a9),Value.func (Fn.func ba) (Array.mk bb) (Array.mk bc)])) ac []→Zaf (3:Int) 7∧∀(M:Mem),Mem.le m' M→Mem.le ac M→∃(aa:Nat→Prop),∃(R_2:Value→
 Mem→List (List Value)→List Value→Prop),CXY Try.prog ad (Array.mk (List.append (List.append ae [agg (Array.mk [int u8 3,int u64 bE,int u64 bF,int u64 bG,int u64 aZ,int i64 bC,int i64 bD,slice
 aW aX aY])]) af)) M aa [Box.mk mkb [slice t0a t0n t0c,slice t1a t1n t1c] 98 2 false true] [Tok.mk (slice t0a t0n t0c) 4,Tok.mk (slice t1a t1n t1c) 7] R_2∧(∀(t:Tok),t∈[Tok.mk (slice t0a t0n t0c) 4,
 Tok.mk (slice t1a t1n t1c) 7]→∀(b:Nat),Tok.blk t=some b→aa b)∧(∀(ab:Nat),aa ab→(∃(t:Tok),t∈[Tok.mk (slice t0a t0n t0c) 4,Tok.mk (slice t1a t1n t1c) 7]∧Tok.blk t=some ab)∨Mem.free (Mem.off
 m Y) ab∧(∃(o:Nat),∃(v:Value),M ab o=some v)∧b≠ab∧True)∧(∀(v:Value)(m':Mem) (css:List (List Value)) (tvs:List Value),R_2 v m' css tvs→Shape.fits (Shape.agg [Shape.int u64,Shape.int u64,
 Shape.int u64,Shape.int u64,Shape.int u64,Shape.int u64,Shape.int u64,Shape.int u64,Shape.int u64,Shape.int u64,Shape.int u64,Shape.int u64,Shape.int u64,Shape.int u64,Shape.bool]) v=true)∧∀(n ag ah ai
 aj ak al am an ao ap aq ar au:Int) (b:Bool) (m':Mem),Mem.le (Mem.off M aa) m'→(∀(b o:Nat)(u:Value),m' b o=some u→M b o=some u∨aa b∨Mem.free M b)→∀(cs:List Value)(a:Option Addr) (c d:
 Nat) (av:Option Addr) (aw ax:Nat),R_2 (agg (Array.mk [int u64 n,int u64 ag,int u64 ah,int u64 ai,int u64 aj,int u64 ak,int u64 al,int u64 am,int u64 an,int u64 ao,int u64 ap,int u64 aq,int u64 ar,int
 u64 au,Value.bool b])) m' [cs] [slice a c d,slice av aw ax]→Box.mk mkb [slice t0a t0n t0c,slice t1a t1n t1c] 98 2 false true=Box.mk mkb [slice t0a t0n t0c,slice t1a t1n t1c] 98 2 false true∧R (agg (Array.mk
 [int u64 n,int u64 ag,int u64 ah,int u64 ai,int u64 aj,int u64 ak,int u64 al,int u64 am,int u64 an,int u64 ao,int u64 ap,int u64 aq,int u64 ar,int u64 au,Value.bool b])) m' [cs] [slice a c d,slice av aw
 ax]
theorem Zeo(p0b p0o:Nat)(bE bF bG aZ bC bD:Int)(aW:Option Addr)(aX aY mkb:Nat)(t0a:Option Addr)(t0n t0c:Nat)(t1a:Option Addr)(t1n t1c:Nat)(m:Mem)(Y:Nat→Prop)(R:RTY)(h:ZcR p0b p0o bE bF bG aZ bC bD aW aX aY mkb t0a t0n t0c t1a t1n t1c m Y R):CXY Try.prog 61 #[.pointer (some ⟨p0b,p0o,none⟩),.agg #[.int .u8 3,.int .u64 bE,.int .u64 bF,.int .u64 bG,.int .u64 aZ,.int .i64 bC,.int .i64 bD,.slice aW aX aY]] m Y [⟨mkb,[.slice t0a t0n t0c,.slice t1a t1n t1c],98,2,false,true⟩] [⟨.slice t0a t0n t0c,4⟩,⟨.slice t1a t1n t1c,7⟩] R:=
 ZaV (E:=ZfG) ZaC mix Try.func61 [.v (.pointer (some ⟨p0b,p0o,none⟩)),.v (.agg #[.int .u8 3,.int .u64 bE,.int .u64 bF,.int .u64 bG,.int .u64 aZ,.int .i64 bC,.int .i64 bD,.slice aW aX aY])] [⟨mkb,[.slice t0a t0n t0c,.slice t1a t1n t1c],98,2,false,true⟩] [900,901] [⟨.slice t0a t0n t0c,4⟩,⟨.slice t1a t1n t1c,7⟩] (by decide) (by kernel_rfl) (Eq.mp (by kernel_rfl) h)
noncomputable def ZfH:Env:={ EB with
 dr:=(fun i=>bif Nat.beq i 1 then[⟨0,[],[],none,[],[]⟩,⟨1,[],[],none,[0],[]⟩,⟨2,[3],[],none,[],[]⟩,⟨3,[3],[],none,[2],[]⟩,⟨4,[],[],none,[0,1,2,3],[]⟩,⟨5,[3],[],none,[],[]⟩]else[])
 borrow:=(fun i=>bif Nat.beq i 11 then[100000]else[])
 frzNew:=[3]
 last:=(fun i=>bif Nat.beq i 1 then true else false)
 lastK:=(fun i=>bif Nat.beq i 1 then 2 else 1)
 thaw:=true
 lentC:=(fun i=>bif Nat.beq i 11 then some [(900,4),(901,7)]else none) }
def ZcS(p0b p0o:Nat)(bE bF bG aZ bC bD:Int)(aW:Option Addr)(aX aY mkb:Nat)(t0a:Option Addr)(t0n t0c:Nat)(t1a:Option Addr)(t1n t1c:Nat)(m:Mem)(Y:Nat→Prop)(R:RTY):Prop:=
 ∀(b:Nat)(m':Mem),Mem.le m m'→Mem.reads m' b 0 [int u8 4,int u64 bE,int u64 bF,int u64 bG,int u64 aZ,int i64 bC,int i64 bD,slice aW aX aY]→Mem.free m b→(∀(b' o:Nat) (u:
 Value),m' b' o=some u→m b' o=some u∨b'=b)→∀(bd:Nat),∃(f:Fx),∃(R_1:RT),R_1=f 1 [Value.pointer (some (Addr.mk p0b p0o none))] m'∧CX Try.prog 109 (Array.mk [Value.pointer (some (Addr.mk p0b p0o
 none))]) m' [] R_1∧ZaJ (Shape.agg [Shape.fn,Shape.fn,Shape.fn,Shape.fn,Shape.fn,Shape.fn,Shape.fn]) R_1∧∀(g:Nat)(fi ca:List Value)(ay:Nat)(az a0:List Value)(a1:Nat)(a2 a3:List Value) (a4:
 Nat) (a5 a6:List Value) (ad:Nat) (ae af:List Value) (a7:Nat) (a8 a9:List Value) (ba:Nat) (bb bc:List Value) (ac:Mem),Mem.le m' ac→R_1 (agg (Array.mk [Value.func (Fn.func g) (Array.mk fi) (Array.mk
 ca),Value.func (Fn.func ay) (Array.mk az) (Array.mk a0),Value.func (Fn.func a1) (Array.mk a2) (Array.mk a3),Value.func (Fn.func a4) (Array.mk a5) (Array.mk a6),Value.func (Fn.func ad) (Array.mk ae) (Array.mk af),
 Value.func (Fn.func a7) (Array.mk a8) (Array.mk a9),Value.func (Fn.func ba) (Array.mk bb) (Array.mk bc)])) ac []→Zaf (4:Int) 7∧∀(M:Mem),Mem.le m' M→Mem.le ac M→∃(aa:Nat→Prop),∃(R_2:Value→
 Mem→List (List Value)→List Value→Prop),CXY Try.prog ad (Array.mk (List.append (List.append ae [agg (Array.mk [int u8 4,int u64 bE,int u64 bF,int u64 bG,int u64 aZ,int i64 bC,int i64 bD,slice
 aW aX aY])]) af)) M aa [Box.mk mkb [slice t0a t0n t0c,slice t1a t1n t1c] 98 2 false true] [Tok.mk (slice t0a t0n t0c) 4,Tok.mk (slice t1a t1n t1c) 7] R_2∧(∀(t:Tok),t∈[Tok.mk (slice t0a t0n t0c) 4,
 Tok.mk (slice t1a t1n t1c) 7]→∀(b:Nat),Tok.blk t=some b→aa b)∧(∀(ab:Nat),aa ab→(∃(t:Tok),t∈[Tok.mk (slice t0a t0n t0c) 4,Tok.mk (slice t1a t1n t1c) 7]∧Tok.blk t=some ab)∨Mem.free (Mem.off
 m Y) ab∧(∃(o:Nat),∃(v:Value),M ab o=some v)∧b≠ab∧True)∧(∀(v:Value)(m':Mem) (css:List (List Value)) (tvs:List Value),R_2 v m' css tvs→Shape.fits (Shape.agg [Shape.int u64,Shape.int u64,
 Shape.int u64,Shape.int u64,Shape.int u64,Shape.int u64,Shape.int u64,Shape.int u64,Shape.int u64,Shape.int u64,Shape.int u64,Shape.int u64,Shape.int u64,Shape.int u64,Shape.bool]) v=true)∧∀(n ag ah ai
 aj ak al am an ao ap aq ar au:Int) (b:Bool) (m':Mem),Mem.le (Mem.off M aa) m'→(∀(b o:Nat)(u:Value),m' b o=some u→M b o=some u∨aa b∨Mem.free M b)→∀(cs:List Value)(a:Option Addr) (c d:
 Nat) (av:Option Addr) (aw ax:Nat),R_2 (agg (Array.mk [int u64 n,int u64 ag,int u64 ah,int u64 ai,int u64 aj,int u64 ak,int u64 al,int u64 am,int u64 an,int u64 ao,int u64 ap,int u64 aq,int u64 ar,int
 u64 au,Value.bool b])) m' [cs] [slice a c d,slice av aw ax]→Box.mk mkb [slice t0a t0n t0c,slice t1a t1n t1c] 98 2 false true=Box.mk mkb [slice t0a t0n t0c,slice t1a t1n t1c] 98 2 false true∧R (agg (Array.mk
 [int u64 n,int u64 ag,int u64 ah,int u64 ai,int u64 aj,int u64 ak,int u64 al,int u64 am,int u64 an,int u64 ao,int u64 ap,int u64 aq,int u64 ar,int u64 au,Value.bool b])) m' [cs] [slice a c d,slice av aw
 ax]
theorem Zep(p0b p0o:Nat)(bE bF bG aZ bC bD:Int)(aW:Option Addr)(aX aY mkb:Nat)(t0a:Option Addr)(t0n t0c:Nat)(t1a:Option Addr)(t1n t1c:Nat)(m:Mem)(Y:Nat→Prop)(R:RTY)(h:ZcS p0b p0o bE bF bG aZ bC bD aW aX aY mkb t0a t0n t0c t1a t1n t1c m Y R):CXY Try.prog 61 #[.pointer (some ⟨p0b,p0o,none⟩),.agg #[.int .u8 4,.int .u64 bE,.int .u64 bF,.int .u64 bG,.int .u64 aZ,.int .i64 bC,.int .i64 bD,.slice aW aX aY]] m Y [⟨mkb,[.slice t0a t0n t0c,.slice t1a t1n t1c],98,2,false,true⟩] [⟨.slice t0a t0n t0c,4⟩,⟨.slice t1a t1n t1c,7⟩] R:=
 ZaV (E:=ZfH) ZaC mix Try.func61 [.v (.pointer (some ⟨p0b,p0o,none⟩)),.v (.agg #[.int .u8 4,.int .u64 bE,.int .u64 bF,.int .u64 bG,.int .u64 aZ,.int .i64 bC,.int .i64 bD,.slice aW aX aY])] [⟨mkb,[.slice t0a t0n t0c,.slice t1a t1n t1c],98,2,false,true⟩] [900,901] [⟨.slice t0a t0n t0c,4⟩,⟨.slice t1a t1n t1c,7⟩] (by decide) (by kernel_rfl) (Eq.mp (by kernel_rfl) h)
noncomputable def ZfI:Env:={ EB with
 dr:=(fun i=>bif Nat.beq i 1 then[⟨0,[],[],none,[],[]⟩,⟨1,[],[],none,[0],[]⟩,⟨2,[3],[],none,[],[]⟩,⟨3,[3],[],none,[2],[]⟩,⟨4,[],[],none,[0,1,2,3],[]⟩,⟨5,[3],[],none,[],[]⟩]else[])
 borrow:=(fun i=>bif Nat.beq i 11 then[100000]else[])
 frzNew:=[3]
 last:=(fun i=>bif Nat.beq i 1 then true else false)
 lastK:=(fun i=>bif Nat.beq i 1 then 2 else 1)
 thaw:=true
 lentC:=(fun i=>bif Nat.beq i 11 then some [(900,4),(901,7)]else none) }
def ZcT(p0b p0o:Nat)(bE bF bG aZ bC bD:Int)(aW:Option Addr)(aX aY mkb:Nat)(t0a:Option Addr)(t0n t0c:Nat)(t1a:Option Addr)(t1n t1c:Nat)(m:Mem)(Y:Nat→Prop)(R:RTY):Prop:=
 ∀(b:Nat)(m':Mem),Mem.le m m'→Mem.reads m' b 0 [int u8 5,int u64 bE,int u64 bF,int u64 bG,int u64 aZ,int i64 bC,int i64 bD,slice aW aX aY]→Mem.free m b→(∀(b' o:Nat) (u:
 Value),m' b' o=some u→m b' o=some u∨b'=b)→∀(bd:Nat),∃(f:Fx),∃(R_1:RT),R_1=f 1 [Value.pointer (some (Addr.mk p0b p0o none))] m'∧CX Try.prog 109 (Array.mk [Value.pointer (some (Addr.mk p0b p0o
 none))]) m' [] R_1∧ZaJ (Shape.agg [Shape.fn,Shape.fn,Shape.fn,Shape.fn,Shape.fn,Shape.fn,Shape.fn]) R_1∧∀(g:Nat)(fi ca:List Value)(ay:Nat)(az a0:List Value)(a1:Nat)(a2 a3:List Value) (a4:
 Nat) (a5 a6:List Value) (a7:Nat) (a8 a9:List Value) (ad:Nat) (ae af:List Value) (ba:Nat) (bb bc:List Value) (ac:Mem),Mem.le m' ac→R_1 (agg (Array.mk [Value.func (Fn.func g) (Array.mk fi) (Array.mk
 ca),Value.func (Fn.func ay) (Array.mk az) (Array.mk a0),Value.func (Fn.func a1) (Array.mk a2) (Array.mk a3),Value.func (Fn.func a4) (Array.mk a5) (Array.mk a6),Value.func (Fn.func a7) (Array.mk a8) (Array.mk a9),
 Value.func (Fn.func ad) (Array.mk ae) (Array.mk af),Value.func (Fn.func ba) (Array.mk bb) (Array.mk bc)])) ac []→Zaf (5:Int) 7∧∀(M:Mem),Mem.le m' M→Mem.le ac M→∃(aa:Nat→Prop),∃(R_2:Value→
 Mem→List (List Value)→List Value→Prop),CXY Try.prog ad (Array.mk (List.append (List.append ae [agg (Array.mk [int u8 5,int u64 bE,int u64 bF,int u64 bG,int u64 aZ,int i64 bC,int i64 bD,slice
 aW aX aY])]) af)) M aa [Box.mk mkb [slice t0a t0n t0c,slice t1a t1n t1c] 98 2 false true] [Tok.mk (slice t0a t0n t0c) 4,Tok.mk (slice t1a t1n t1c) 7] R_2∧(∀(t:Tok),t∈[Tok.mk (slice t0a t0n t0c) 4,
 Tok.mk (slice t1a t1n t1c) 7]→∀(b:Nat),Tok.blk t=some b→aa b)∧(∀(ab:Nat),aa ab→(∃(t:Tok),t∈[Tok.mk (slice t0a t0n t0c) 4,Tok.mk (slice t1a t1n t1c) 7]∧Tok.blk t=some ab)∨Mem.free (Mem.off
 m Y) ab∧(∃(o:Nat),∃(v:Value),M ab o=some v)∧b≠ab∧True)∧(∀(v:Value)(m':Mem) (css:List (List Value)) (tvs:List Value),R_2 v m' css tvs→Shape.fits (Shape.agg [Shape.int u64,Shape.int u64,
 Shape.int u64,Shape.int u64,Shape.int u64,Shape.int u64,Shape.int u64,Shape.int u64,Shape.int u64,Shape.int u64,Shape.int u64,Shape.int u64,Shape.int u64,Shape.int u64,Shape.bool]) v=true)∧∀(n ag ah ai
 aj ak al am an ao ap aq ar au:Int) (b:Bool) (m':Mem),Mem.le (Mem.off M aa) m'→(∀(b o:Nat)(u:Value),m' b o=some u→M b o=some u∨aa b∨Mem.free M b)→∀(cs:List Value)(a:Option Addr) (c d:
 Nat) (av:Option Addr) (aw ax:Nat),R_2 (agg (Array.mk [int u64 n,int u64 ag,int u64 ah,int u64 ai,int u64 aj,int u64 ak,int u64 al,int u64 am,int u64 an,int u64 ao,int u64 ap,int u64 aq,int u64 ar,int
 u64 au,Value.bool b])) m' [cs] [slice a c d,slice av aw ax]→Box.mk mkb [slice t0a t0n t0c,slice t1a t1n t1c] 98 2 false true=Box.mk mkb [slice t0a t0n t0c,slice t1a t1n t1c] 98 2 false true∧R (agg (Array.mk
 [int u64 n,int u64 ag,int u64 ah,int u64 ai,int u64 aj,int u64 ak,int u64 al,int u64 am,int u64 an,int u64 ao,int u64 ap,int u64 aq,int u64 ar,int u64 au,Value.bool b])) m' [cs] [slice a c d,slice av aw
 ax]
theorem Zeq(p0b p0o:Nat)(bE bF bG aZ bC bD:Int)(aW:Option Addr)(aX aY mkb:Nat)(t0a:Option Addr)(t0n t0c:Nat)(t1a:Option Addr)(t1n t1c:Nat)(m:Mem)(Y:Nat→Prop)(R:RTY)(h:ZcT p0b p0o bE bF bG aZ bC bD aW aX aY mkb t0a t0n t0c t1a t1n t1c m Y R):CXY Try.prog 61 #[.pointer (some ⟨p0b,p0o,none⟩),.agg #[.int .u8 5,.int .u64 bE,.int .u64 bF,.int .u64 bG,.int .u64 aZ,.int .i64 bC,.int .i64 bD,.slice aW aX aY]] m Y [⟨mkb,[.slice t0a t0n t0c,.slice t1a t1n t1c],98,2,false,true⟩] [⟨.slice t0a t0n t0c,4⟩,⟨.slice t1a t1n t1c,7⟩] R:=
 ZaV (E:=ZfI) ZaC mix Try.func61 [.v (.pointer (some ⟨p0b,p0o,none⟩)),.v (.agg #[.int .u8 5,.int .u64 bE,.int .u64 bF,.int .u64 bG,.int .u64 aZ,.int .i64 bC,.int .i64 bD,.slice aW aX aY])] [⟨mkb,[.slice t0a t0n t0c,.slice t1a t1n t1c],98,2,false,true⟩] [900,901] [⟨.slice t0a t0n t0c,4⟩,⟨.slice t1a t1n t1c,7⟩] (by decide) (by kernel_rfl) (Eq.mp (by kernel_rfl) h)
noncomputable def ZfJ:Env:={ EB with
 dr:=(fun i=>bif Nat.beq i 1 then[⟨0,[],[],none,[],[]⟩,⟨1,[],[],none,[0],[]⟩,⟨2,[3],[],none,[],[]⟩,⟨3,[3],[],none,[2],[]⟩,⟨4,[],[],none,[0,1,2,3],[]⟩,⟨5,[3],[],none,[],[]⟩]else[])
 borrow:=(fun i=>bif Nat.beq i 11 then[100000]else[])
 frzNew:=[3]
 last:=(fun i=>bif Nat.beq i 1 then true else false)
 lastK:=(fun i=>bif Nat.beq i 1 then 2 else 1)
 thaw:=true
 lentC:=(fun i=>bif Nat.beq i 11 then some [(900,4),(901,7)]else none) }
def ZcU(p0b p0o:Nat)(bE bF bG aZ bC bD:Int)(aW:Option Addr)(aX aY mkb:Nat)(t0a:Option Addr)(t0n t0c:Nat)(t1a:Option Addr)(t1n t1c:Nat)(m:Mem)(Y:Nat→Prop)(R:RTY):Prop:=
 ∀(b:Nat)(m':Mem),Mem.le m m'→Mem.reads m' b 0 [int u8 6,int u64 bE,int u64 bF,int u64 bG,int u64 aZ,int i64 bC,int i64 bD,slice aW aX aY]→Mem.free m b→(∀(b' o:Nat) (u:
 Value),m' b' o=some u→m b' o=some u∨b'=b)→∀(bd:Nat),∃(f:Fx),∃(R_1:RT),R_1=f 1 [Value.pointer (some (Addr.mk p0b p0o none))] m'∧CX Try.prog 109 (Array.mk [Value.pointer (some (Addr.mk p0b p0o
 none))]) m' [] R_1∧ZaJ (Shape.agg [Shape.fn,Shape.fn,Shape.fn,Shape.fn,Shape.fn,Shape.fn,Shape.fn]) R_1∧∀(g:Nat)(fi ca:List Value)(ay:Nat)(az a0:List Value)(a1:Nat)(a2 a3:List Value) (a4:
 Nat) (a5 a6:List Value) (a7:Nat) (a8 a9:List Value) (ba:Nat) (bb bc:List Value) (ad:Nat) (ae af:List Value) (ac:Mem),Mem.le m' ac→R_1 (agg (Array.mk [Value.func (Fn.func g) (Array.mk fi) (Array.mk
 ca),Value.func (Fn.func ay) (Array.mk az) (Array.mk a0),Value.func (Fn.func a1) (Array.mk a2) (Array.mk a3),Value.func (Fn.func a4) (Array.mk a5) (Array.mk a6),Value.func (Fn.func a7) (Array.mk a8) (Array.mk a9),
 Value.func (Fn.func ba) (Array.mk bb) (Array.mk bc),Value.func (Fn.func ad) (Array.mk ae) (Array.mk af)])) ac []→Zaf (6:Int) 7∧∀(M:Mem),Mem.le m' M→Mem.le ac M→∃(aa:Nat→Prop),∃(R_2:Value→
 Mem→List (List Value)→List Value→Prop),CXY Try.prog ad (Array.mk (List.append (List.append ae [agg (Array.mk [int u8 6,int u64 bE,int u64 bF,int u64 bG,int u64 aZ,int i64 bC,int i64 bD,slice
 aW aX aY])]) af)) M aa [Box.mk mkb [slice t0a t0n t0c,slice t1a t1n t1c] 98 2 false true] [Tok.mk (slice t0a t0n t0c) 4,Tok.mk (slice t1a t1n t1c) 7] R_2∧(∀(t:Tok),t∈[Tok.mk (slice t0a t0n t0c) 4,
 Tok.mk (slice t1a t1n t1c) 7]→∀(b:Nat),Tok.blk t=some b→aa b)∧(∀(ab:Nat),aa ab→(∃(t:Tok),t∈[Tok.mk (slice t0a t0n t0c) 4,Tok.mk (slice t1a t1n t1c) 7]∧Tok.blk t=some ab)∨Mem.free (Mem.off
 m Y) ab∧(∃(o:Nat),∃(v:Value),M ab o=some v)∧b≠ab∧True)∧(∀(v:Value)(m':Mem) (css:List (List Value)) (tvs:List Value),R_2 v m' css tvs→Shape.fits (Shape.agg [Shape.int u64,Shape.int u64,
 Shape.int u64,Shape.int u64,Shape.int u64,Shape.int u64,Shape.int u64,Shape.int u64,Shape.int u64,Shape.int u64,Shape.int u64,Shape.int u64,Shape.int u64,Shape.int u64,Shape.bool]) v=true)∧∀(n ag ah ai
 aj ak al am an ao ap aq ar au:Int) (b:Bool) (m':Mem),Mem.le (Mem.off M aa) m'→(∀(b o:Nat)(u:Value),m' b o=some u→M b o=some u∨aa b∨Mem.free M b)→∀(cs:List Value)(a:Option Addr) (c d:
 Nat) (av:Option Addr) (aw ax:Nat),R_2 (agg (Array.mk [int u64 n,int u64 ag,int u64 ah,int u64 ai,int u64 aj,int u64 ak,int u64 al,int u64 am,int u64 an,int u64 ao,int u64 ap,int u64 aq,int u64 ar,int
 u64 au,Value.bool b])) m' [cs] [slice a c d,slice av aw ax]→Box.mk mkb [slice t0a t0n t0c,slice t1a t1n t1c] 98 2 false true=Box.mk mkb [slice t0a t0n t0c,slice t1a t1n t1c] 98 2 false true∧R (agg (Array.mk
 [int u64 n,int u64 ag,int u64 ah,int u64 ai,int u64 aj,int u64 ak,int u64 al,int u64 am,int u64 an,int u64 ao,int u64 ap,int u64 aq,int u64 ar,int u64 au,Value.bool b])) m' [cs] [slice a c d,slice av aw
 ax]
theorem Zer(p0b p0o:Nat)(bE bF bG aZ bC bD:Int)(aW:Option Addr)(aX aY mkb:Nat)(t0a:Option Addr)(t0n t0c:Nat)(t1a:Option Addr)(t1n t1c:Nat)(m:Mem)(Y:Nat→Prop)(R:RTY)(h:ZcU p0b p0o bE bF bG aZ bC bD aW aX aY mkb t0a t0n t0c t1a t1n t1c m Y R):CXY Try.prog 61 #[.pointer (some ⟨p0b,p0o,none⟩),.agg #[.int .u8 6,.int .u64 bE,.int .u64 bF,.int .u64 bG,.int .u64 aZ,.int .i64 bC,.int .i64 bD,.slice aW aX aY]] m Y [⟨mkb,[.slice t0a t0n t0c,.slice t1a t1n t1c],98,2,false,true⟩] [⟨.slice t0a t0n t0c,4⟩,⟨.slice t1a t1n t1c,7⟩] R:=
 ZaV (E:=ZfJ) ZaC mix Try.func61 [.v (.pointer (some ⟨p0b,p0o,none⟩)),.v (.agg #[.int .u8 6,.int .u64 bE,.int .u64 bF,.int .u64 bG,.int .u64 aZ,.int .i64 bC,.int .i64 bD,.slice aW aX aY])] [⟨mkb,[.slice t0a t0n t0c,.slice t1a t1n t1c],98,2,false,true⟩] [900,901] [⟨.slice t0a t0n t0c,4⟩,⟨.slice t1a t1n t1c,7⟩] (by decide) (by kernel_rfl) (Eq.mp (by kernel_rfl) h)
noncomputable def Zfc:Env:={ EB with
 loops:=(fun i=>bif Nat.beq i 3 then⟨[(11,.int .i64)],[4,100000],[(900,4),(901,7)],false⟩ else⟨[],[],[],false⟩)
 dr:=(fun i=>bif Nat.beq i 5 then[⟨0,[],[],none,[],[]⟩,⟨1,[4],[],none,[],[]⟩,⟨2,[],[],none,[],[]⟩,⟨3,[6],[],none,[],[]⟩]else[])
 borrow:=(fun i=>bif Nat.beq i 19 then[100000]else bif Nat.beq i 20 then[100000]else[])
 frzNew:=[2]
 last:=(fun i=>bif Nat.beq i 5 then true else false)
 hot:=(fun i=>bif Nat.beq i 5 then true else false)
 lastK:=(fun i=>bif Nat.beq i 5 then 3 else 1)
 thaw:=true
 lentC:=(fun i=>bif Nat.beq i 19 then some [(900,4),(901,7)]else bif Nat.beq i 20 then some [(900,4),(901,7)]else none) }
def ZcB(aF aG aH aI aA aE aJ:Int)(aC:Option Addr)(aB aD c0b c0o mkb:Nat)(t0a:Option Addr)(t0n t0c:Nat)(t1a:Option Addr)(t1n t1c:Nat)(m:Mem)(Y:Nat→Prop)(R:RTY):Prop:=
 ∀(b:Nat)(m':Mem),Mem.le m m'→Mem.reads m' b 0 [int u8 aF,int u64 aG,int u64 aH,int u64 aI,int u64 aA,int i64 aE,int i64 aJ,slice aC aB aD]→Mem.free m b→(∀(b' o:Nat) (u:
 Value),m' b' o=some u→m b' o=some u∨b'=b)→∀(aw ax:Nat),∃(I:IT),(∃(n:Nat),I [int i64 0] [[int u64 0,int u64 0,int u64 0,int u64 0,int u64 0,int u64 0,int u64 0,int u64 0,int u64 0,int
 u64 0,int u64 0,int u64 0,int u64 0,int u64 0,Value.bool true],[slice t0a t0n t0c,slice t1a t1n t1c]] [slice t0a t0n t0c,slice t1a t1n t1c] m' n)∧∀(n:Int)(cs am:List Value)(a:Option Addr)(ad c:Nat)
 (ae:Option Addr) (af ag:Nat) (m':Mem) (ay:Nat),True→I [int i64 n] [cs,am] [slice a ad c,slice ae af ag] m' ay→br (decide (n < (↑aB:Int))) (∃(az:Nat),∃(o:Nat),aC=some (Addr.mk az o none)
 ∧ Zaf n aB∧∃(v:Value),∃(an:Value),∃(ao:Value),∃(ap:Value),∃(aq:Value),∃(ar:Value),∃(au:Value),∃(av:Value),Mem.reads m' az (o+Int.toNat n*8) [v,an,ao,ap,aq,ar,au,av]∧
 ∀(ca:Nat),chk (Value.oneCell' v&&(Value.oneCell' an&&(Value.oneCell' ao&&(Value.oneCell' ap&&(Value.oneCell' aq&&(Value.oneCell' ar&&(Value.oneCell' au&&(Value.oneCell' av&&true)))))))) (∃(a0:
 Value),Mem.off m Y c0b c0o=some a0∧∃(a1:Value),Mem.off m Y c0b c0o=some a1∧∃(ah:Nat→Prop),∃(R:Value→Mem→List (List Value)→List Value→Prop),CXY Try.prog 61 (Array.mk [a1,agg (Array.mk [v,
 an,ao,ap,aq,ar,au,av])]) m' ah [Box.mk mkb am 98 2 false true] [Tok.mk (slice a ad c) 4,Tok.mk (slice ae af ag) 7] R∧(∀(t:Tok),t∈[Tok.mk (slice a ad c) 4,Tok.mk (slice ae af ag) 7]→∀(b:Nat),Tok.blk
 t=some b→ah b)∧(∀(aa:Nat),ah aa→(∃(t:Tok),t∈[Tok.mk (slice a ad c) 4,Tok.mk (slice ae af ag) 7]∧Tok.blk t=some aa)∨Mem.free (Mem.off m Y) aa∧(∃(o:Nat),∃(v:Value),m' aa o=some v)∧b
 ≠ aa∧True)∧(∀(v:Value)(m':Mem) (css:List (List Value)) (tvs:List Value),R v m' css tvs→Shape.fits (Shape.agg [Shape.int u64,Shape.int u64,Shape.int u64,Shape.int u64,Shape.int u64,Shape.int u64,
 Shape.int u64,Shape.int u64,Shape.int u64,Shape.int u64,Shape.int u64,Shape.int u64,Shape.int u64,Shape.int u64,Shape.bool]) v=true)∧∀(a2 a3 a4 a5 a6 a7 a8 a9 ba bb bc bd be bf:Int)(aa:Bool) (ab:
 Mem),Mem.le (Mem.off m' ah) ab→(∀(b o:Nat)(u:Value),ab b o=some u→m' b o=some u∨ah b∨Mem.free m' b)→∀(bg:List Value)(a:Option Addr)(c d:Nat)(aj:Option Addr)(ak al:Nat),R (agg
 (Array.mk [int u64 a2,int u64 a3,int u64 a4,int u64 a5,int u64 a6,int u64 a7,int u64 a8,int u64 a9,int u64 ba,int u64 bb,int u64 bc,int u64 bd,int u64 be,int u64 bf,Value.bool aa])) ab [bg] [slice a c d,
 slice aj ak al]→∃(ai:Nat→Prop),∃(R:Value→Mem→List (List Value)→List Value→Prop),CXY Try.prog 139 (Array.mk [a0,agg (Array.mk cs),agg (Array.mk [int u64 a2,int u64 a3,int u64 a4,int u64 a5,int
 u64 a6,int u64 a7,int u64 a8,int u64 a9,int u64 ba,int u64 bb,int u64 bc,int u64 bd,int u64 be,int u64 bf,Value.bool aa])]) ab ai [Box.mk mkb bg 98 2 false true] [Tok.mk (slice a c d) 4,Tok.mk (slice aj ak
 al) 7] R∧(∀(t:Tok),t∈[Tok.mk (slice a c d) 4,Tok.mk (slice aj ak al) 7]→∀(b:Nat),Tok.blk t=some b→ai b)∧(∀(ac:Nat),ai ac→(∃(t:Tok),t∈[Tok.mk (slice a c d) 4,Tok.mk (slice aj ak al) 7]∧
 Tok.blk t=some ac)∨Mem.free (Mem.off m Y) ac∧(∃(o:Nat),∃(v:Value),ab ac o=some v)∧b≠ac∧True)∧(∀(v:Value)(m':Mem) (css:List (List Value)) (tvs:List Value),R v m' css tvs→Shape.fits
 (Shape.agg [Shape.int u64,Shape.int u64,Shape.int u64,Shape.int u64,Shape.int u64,Shape.int u64,Shape.int u64,Shape.int u64,Shape.int u64,Shape.int u64,Shape.int u64,Shape.int u64,Shape.int u64,Shape.int
 u64,Shape.bool]) v=true)∧∀(bh bi bj bk bl bm bn bo bp bq bs bt bu bv:Int)(ac:Bool)(m':Mem),Mem.le (Mem.off ab ai) m'→(∀(b o:Nat)(u:Value),m' b o=some u→ab b o=some u∨ai b∨Mem.free ab b)
 → ∀(cs:List Value)(a:Option Addr)(c d:Nat)(bw:Option Addr)(bx bz:Nat),R (agg (Array.mk [int u64 bh,int u64 bi,int u64 bj,int u64 bk,int u64 bl,int u64 bm,int u64 bn,int u64 bo,int u64 bp,int u64
 bq,int u64 bs,int u64 bt,int u64 bu,int u64 bv,Value.bool ac])) m' [cs] [slice a c d,slice bw bx bz]→[some (Box.mk ax [] 102 15 false true),some (Box.mk aw [int u64 0,int u64 0,int u64 0,int u64 0,int u64
 0,int u64 0,int u64 0,int u64 0,int u64 0,int u64 0,int u64 0,int u64 0,int u64 0,int u64 0,Value.bool false] 102 15 false true),some (Box.mk b [int u8 aF,int u64 aG,int u64 aH,int u64 aI,int u64
 aA,int i64 aE,int i64 aJ,slice aC aB aD] 41 8 true true),some (Box.mk mkb [] 98 2 false true)]=[some (Box.mk ax [] 102 15 false true),some (Box.mk aw [int u64 0,int u64 0,int u64 0,int u64 0,
 int u64 0,int u64 0,int u64 0,int u64 0,int u64 0,int u64 0,int u64 0,int u64 0,int u64 0,int u64 0,Value.bool false] 102 15 false true),some (Box.mk b [int u8 aF,int u64 aG,int u64 aH,int u64 aI,
 int u64 aA,int i64 aE,int i64 aJ,slice aC aB aD] 41 8 true true),some (Box.mk mkb [] 98 2 false true)]∧([none,none]:List (Option Tok))=[none,none]∧∃(n':Nat),n' < ay∧I [int i64
 (IntKind.wrap i64 (n+(1:Int)))] [[int u64 bh,int u64 bi,int u64 bj,int u64 bk,int u64 bl,int u64 bm,int u64 bn,int u64 bo,int u64 bp,int u64 bq,int u64 bs,int u64 bt,int u64 bu,int u64 bv,Value.bool
 ac],cs] [slice a c d,slice bw bx bz] m' n')) (chk (Nat.beq (List.length cs) 15&&Zc8 cs) (Box.mk mkb [slice t0a t0n t0c,slice t1a t1n t1c] 98 2 false true=Box.mk mkb [slice t0a t0n t0c,slice t1a t1n t1c] 98 2
 false true∧R (agg (Array.mk cs)) m' [am] [slice a ad c,slice ae af ag]))
theorem Zd2(aF aG aH aI aA aE aJ:Int)(aC:Option Addr)(aB aD c0b c0o mkb:Nat)(t0a:Option Addr)(t0n t0c:Nat)(t1a:Option Addr)(t1n t1c:Nat)(m:Mem)(Y:Nat→Prop)(R:RTY)(h:ZcB aF aG aH aI aA aE aJ aC aB aD c0b c0o mkb t0a t0n t0c t1a t1n t1c m Y R):CXY Try.prog 138 #[.agg #[.int .u8 aF,.int .u64 aG,.int .u64 aH,.int .u64 aI,.int .u64 aA,.int .i64 aE,.int .i64 aJ,.slice aC aB aD],.pointer (some ⟨c0b,c0o,none⟩)] m Y [⟨mkb,[.slice t0a t0n t0c,.slice t1a t1n t1c],98,2,false,true⟩] [⟨.slice t0a t0n t0c,4⟩,⟨.slice t1a t1n t1c,7⟩] R:=
 ZaV (E:=Zfc) ZaC mix Try.func138 [.v (.agg #[.int .u8 aF,.int .u64 aG,.int .u64 aH,.int .u64 aI,.int .u64 aA,.int .i64 aE,.int .i64 aJ,.slice aC aB aD]),.v (.pointer (some ⟨c0b,c0o,none⟩))] [⟨mkb,[.slice t0a t0n t0c,.slice t1a t1n t1c],98,2,false,true⟩] [900,901] [⟨.slice t0a t0n t0c,4⟩,⟨.slice t1a t1n t1c,7⟩] (by decide) (by kernel_rfl) (Eq.mp (by kernel_rfl) h)
noncomputable def Zfd:Env:={ EB with
 loops:=(fun i=>bif Nat.beq i 3 then⟨[(11,.int .i64)],[4,100000],[(900,4),(901,7)],false⟩ else⟨[],[],[],false⟩)
 borrow:=(fun i=>bif Nat.beq i 17 then[100000]else[])
 frzNew:=[2]
 thaw:=true
 lentC:=(fun i=>bif Nat.beq i 17 then some [(900,4),(901,7)]else none) }
abbrev ZcC:List Value:=[int u64 0,int u64 0,int u64 0,int u64 0,int u64 0,int u64 0,int u64 0,int u64 0,int u64 0,int u64 0,int u64 0,int u64 0,int u64 0,int u64 0,Value.bool false]
abbrev Zes:List Shape:=[Shape.int u64,Shape.int u64,Shape.int u64,Shape.int u64,Shape.int u64,Shape.int u64,Shape.int u64,Shape.int u64,Shape.int u64,Shape.int u64,Shape.int u64,Shape.int
 u64,Shape.int u64,Shape.int u64,Shape.bool]
abbrev Zet:Int→Int→Int→Int→Int→Int→Int→Int→Int→Int→Int→Int→Int→Int→Bool→List Value:=fun(n aj ak ab ap aq ar au av aw ax ay az a0:Int)(b:Bool)=>[int u64 n,int
 u64 aj,int u64 ak,int u64 ab,int u64 ap,int u64 aq,int u64 ar,int u64 au,int u64 av,int u64 aw,int u64 ax,int u64 ay,int u64 az,int u64 a0,Value.bool b]
abbrev Zeu:Nat→Option Box:=fun(b:Nat)=>some (Box.mk b ZcC 102 15 false true)
abbrev Zev:Int→Int→Int→Int→Int→Int→Int→Option Addr→Nat→Nat→Nat→Option Box:=fun(aF aG aH aI aA aE aJ:Int)(aC:Option Addr)(aB aD b:Nat)=>some
 (Box.mk b [int u8 aF,int u64 aG,int u64 aH,int u64 aI,int u64 aA,int i64 aE,int i64 aJ,slice aC aB aD] 41 8 true true)
abbrev Zao:Int→Int→Int→Int→Int→Int→Int→Option Addr→Nat→Nat→Nat→Nat→Nat→Nat→List (Option Box):=fun(aF aG aH aI aA aE aJ:Int)(aC:Option Addr) (aB
 aD mkb b ac aa:Nat)=>[some (Box.mk aa [] 102 15 false true),Zeu ac,Zev aF aG aH aI aA aE aJ aC aB aD b,some (Box.mk mkb [] 98 2 false true)]
def ZcD(aF aG aH aI aA aE aJ:Int)(aC:Option Addr)(aB aD c0b c0o mkb:Nat)(t0a:Option Addr)(t0n t0c:Nat)(t1a:Option Addr)(t1n t1c:Nat)(m:Mem)(Y:Nat→Prop)(R:RTY):Prop:=
 ∀(b:Nat)(m':Mem),Mem.le m m'→Mem.reads m' b 0 [int u8 aF,int u64 aG,int u64 aH,int u64 aI,int u64 aA,int i64 aE,int i64 aJ,slice aC aB aD]→Mem.free m b→(∀(b' o:Nat) (u:
 Value),m' b' o=some u→m b' o=some u∨b'=b)→∀(ac aa:Nat),∃(I:IT),(∃(n:Nat),I [int i64 0] [ZcC,[slice t0a t0n t0c,slice t1a t1n t1c]] [slice t0a t0n t0c,slice t1a t1n t1c] m' n)
 ∧ ∀(n:Int)(cs a1:List Value)(a:Option Addr)(aj c:Nat)(al:Option Addr)(ak am:Nat)(m':Mem)(ab:Nat),True→I [int i64 n] [cs,a1] [slice a aj c,slice al ak am] m' ab→br (decide (n < (↑aB:
 Int))) (∃(a9:Nat),∃(o:Nat),aC=some (Addr.mk a9 o none)∧Zaf n aB∧∃(v:Value),∃(a2:Value),∃(a3:Value),∃(a4:Value),∃(a5:Value),∃(a6:Value),∃(a7:Value),∃(a8:Value),
 Mem.reads m' a9 (o+Int.toNat n*8) [v,a2,a3,a4,a5,a6,a7,a8]∧∀(bf:Nat),chk (Value.oneCell' v&&(Value.oneCell' a2&&(Value.oneCell' a3&&(Value.oneCell' a4&&(Value.oneCell' a5&&(Value.oneCell' a6
 && (Value.oneCell' a7&&(Value.oneCell' a8&&true)))))))) (∃(ba:Value),m' c0b c0o=some ba∧∃(an:Nat→Prop),∃(R:Value→Mem→List (List Value)→List Value→Prop),CXY Try.prog 61 (Array.mk [ba,agg
 (Array.mk [v,a2,a3,a4,a5,a6,a7,a8])]) m' an [Box.mk mkb a1 98 2 false true] [Tok.mk (slice a aj c) 4,Tok.mk (slice al ak am) 7] R∧(∀(t:Tok),t∈[Tok.mk (slice a aj c) 4,Tok.mk (slice al ak am) 7]→∀(b:
 Nat),Tok.blk t=some b→an b)∧(∀(ai:Nat),an ai→(∃(t:Tok),t∈[Tok.mk (slice a aj c) 4,Tok.mk (slice al ak am) 7]∧Tok.blk t=some ai)∨Mem.free (Mem.off m Y) ai∧(∃(o:Nat),∃(v:Value),m' ai o
 = some v)∧b≠ai∧True)∧(∀(v:Value)(m':Mem) (css:List (List Value)) (tvs:List Value),R v m' css tvs→Shape.fits (Shape.agg Zes) v=true)∧∀(ap aq ar au av aw ax ay az a0 bb bc bd be
 : Int) (ai:Bool) (ao:Mem),Mem.le (Mem.off m' an) ao→(∀(b o:Nat)(u:Value),ao b o=some u→m' b o=some u∨an b∨Mem.free m' b)→∀(ae:List Value)(a:Option Addr)(c d:Nat)(af:Option Addr) (ag
 ah:Nat),R (agg (Array.mk (Zet ap aq ar au av aw ax ay az a0 bb bc bd be ai))) ao [ae] [slice a c d,slice af ag ah]→∀(bg:Nat),∃(R:RT),True∧CX Try.prog 141 (Array.mk [Value.pointer (some
 (Addr.mk aa 0 none)),agg (Array.mk [int u64 ap,int u64 aq,int u64 ar,int u64 au,int u64 av,int u64 aw,int u64 ax])]) ao [Box.mk aa cs 102 15 false true] R∧ZaJ (Shape.tup []) R∧∀(m':Mem),Mem.le ao m'→∀
 (cs:List Value),R (Value.tuple (Array.mk [])) m' [cs]→∃(R:RT),True∧CX Try.prog 141 (Array.mk [Value.pointer (some (Addr.mk aa 7 none)),agg (Array.mk [int u64 ay,int u64 az,int u64 a0,int u64 bb,int u64
 bc,int u64 bd,int u64 be])]) m' [Box.mk aa cs 102 15 false true] R∧ZaJ (Shape.tup []) R∧∀(ad:Mem),Mem.le m' ad→∀(cs:List Value),R (Value.tuple (Array.mk [])) ad [cs]→Eng.Zr2 cs 14 fun(v:Value)=>
 bif Zai v then bif Zai v then bif Zai v then bif Zai v then chk (Zad v) (br (Zac v) (chk (Nat.ble 15 (List.length cs)) (Zas (Zao aF aG aH aI aA aE aJ aC aB
 aD mkb b ac aa)∧([none,none]:List (Option Tok))=[none,none]∧∃(n':Nat),n' < ab∧I [int i64 (IntKind.wrap i64 (n+(1:Int)))] [Zan cs 14 [Value.bool true],ae] [slice a c d,slice af ag ah] ad n'))
 False)else chk (Zad v) (br (Zac v) (chk (Zad v) (br (Zac v) (chk (Nat.ble 15 (List.length cs)) (Zas (Zao aF aG aH aI aA aE aJ aC aB aD mkb b ac aa)∧([none,none]
 : List (Option Tok))=[none,none]∧∃(n':Nat),n' < ab∧I [int i64 (IntKind.wrap i64 (n+(1:Int)))] [Zan cs 14 [Value.bool true],ae] [slice a c d,slice af ag ah] ad n')) False)) False)else chk (Zad v)
 (br (Zac v) (chk (Nat.ble 15 (List.length cs)) (Zas (Zao aF aG aH aI aA aE aJ aC aB aD mkb b ac aa)∧([none,none]:List (Option Tok))=[none,none]∧∃(n':Nat),n' <
 ab∧I [int i64 (IntKind.wrap i64 (n+(1:Int)))] [Zan cs 14 [Value.bool true],ae] [slice a c d,slice af ag ah] ad n')) False)else chk (Zad v) (br (Zac v) (bif Zai v then bif Zai v then chk (Zad
 v) (br (Zac v) (chk (Nat.ble 15 (List.length cs)) (Zas (Zao aF aG aH aI aA aE aJ aC aB aD mkb b ac aa)∧([none,none]:List (Option Tok))=[none,none]∧∃(n':Nat),n'
 < ab∧I [int i64 (IntKind.wrap i64 (n+(1:Int)))] [Zan cs 14 [Value.bool true],ae] [slice a c d,slice af ag ah] ad n')) False)else chk (Zad v) (br (Zac v) (chk (Zad v) (br (Zac v) (chk (Nat.ble 15
 (List.length cs)) (Zas (Zao aF aG aH aI aA aE aJ aC aB aD mkb b ac aa)∧([none,none]:List (Option Tok))=[none,none]∧∃(n':Nat),n' < ab∧I [int i64 (IntKind.wrap
 i64 (n+(1:Int)))] [Zan cs 14 [Value.bool true],ae] [slice a c d,slice af ag ah] ad n')) False)) False)else chk (Zad v) (br (Zac v) (chk (Nat.ble 15 (List.length cs)) (Zas (Zao aF
 aG aH aI aA aE aJ aC aB aD mkb b ac aa)∧([none,none]:List (Option Tok))=[none,none]∧∃(n':Nat),n' < ab∧I [int i64 (IntKind.wrap i64 (n+(1:Int)))] [Zan cs 14 [Value.bool true],
 ae] [slice a c d,slice af ag ah] ad n')) False)) (bif Zai v then bif Zai v then chk (Zad v) (br (Zac v) (chk (Nat.ble 15 (List.length cs)) (Zas (Zao aF aG aH aI aA aE aJ
 aC aB aD mkb b ac aa)∧([none,none]:List (Option Tok))=[none,none]∧∃(n':Nat),n' < ab∧I [int i64 (IntKind.wrap i64 (n+(1:Int)))] [Zan cs 14 [Value.bool true],ae] [slice a c d,slice af ag
 ah] ad n')) False)else chk (Zad v) (br (Zac v) (chk (Zad v) (br (Zac v) (chk (Nat.ble 15 (List.length cs)) (Zas (Zao aF aG aH aI aA aE aJ aC aB aD mkb b ac aa)∧
 ([none,none]:List (Option Tok))=[none,none]∧∃(n':Nat),n' < ab∧I [int i64 (IntKind.wrap i64 (n+(1:Int)))] [Zan cs 14 [Value.bool true],ae] [slice a c d,slice af ag ah] ad n')) False)) (chk (Zad
 v) (br (Zac v) (chk (Nat.ble 15 (List.length cs)) (Zas (Zao aF aG aH aI aA aE aJ aC aB aD mkb b ac aa)∧([none,none]:List (Option Tok))=[none,none]∧∃(n':Nat),n'
 < ab∧I [int i64 (IntKind.wrap i64 (n+(1:Int)))] [Zan cs 14 [Value.bool true],ae] [slice a c d,slice af ag ah] ad n')) (chk (Nat.ble 15 (List.length cs)) (Zas (Zao aF aG aH aI aA
 aE aJ aC aB aD mkb b ac aa)∧([none,none]:List (Option Tok))=[none,none]∧∃(n':Nat),n' < ab∧I [int i64 (IntKind.wrap i64 (n+(1:Int)))] [Zan cs 14 [Value.bool ai],ae] [slice a c d,
 slice af ag ah] ad n')))))else chk (Zad v) (br (Zac v) (chk (Nat.ble 15 (List.length cs)) (Zas (Zao aF aG aH aI aA aE aJ aC aB aD mkb b ac aa)∧([none,none]:List
 (Option Tok))=[none,none]∧∃(n':Nat),n' < ab∧I [int i64 (IntKind.wrap i64 (n+(1:Int)))] [Zan cs 14 [Value.bool true],ae] [slice a c d,slice af ag ah] ad n')) (chk (Nat.ble 15 (List.length cs)) (Zas
 (Zao aF aG aH aI aA aE aJ aC aB aD mkb b ac aa)∧([none,none]:List (Option Tok))=[none,none]∧∃(n':Nat),n' < ab∧I [int i64 (IntKind.wrap i64 (n+(1:Int)))]
 [Zan cs 14 [Value.bool ai],ae] [slice a c d,slice af ag ah] ad n')))))else chk (Zad v) (br (Zac v) (chk (Nat.ble 15 (List.length cs)) (Zas (Zao aF aG aH aI aA aE aJ aC
 aB aD mkb b ac aa)∧([none,none]:List (Option Tok))=[none,none]∧∃(n':Nat),n' < ab∧I [int i64 (IntKind.wrap i64 (n+(1:Int)))] [Zan cs 14 [Value.bool true],ae] [slice a c d,slice af ag ah] ad
 n')) (chk (Nat.ble 15 (List.length cs)) (Zas (Zao aF aG aH aI aA aE aJ aC aB aD mkb b ac aa)∧([none,none]:List (Option Tok))=[none,none]∧∃(n':Nat),n' < ab∧I
 [int i64 (IntKind.wrap i64 (n+(1:Int)))] [Zan cs 14 [Value.bool ai],ae] [slice a c d,slice af ag ah] ad n'))))) (chk (Nat.beq (List.length cs) 15&&Zc8 cs) (Box.mk mkb [slice t0a t0n t0c,slice t1a t1n t1c]
 98 2 false true=Box.mk mkb [slice t0a t0n t0c,slice t1a t1n t1c] 98 2 false true∧R (agg (Array.mk cs)) m' [a1] [slice a aj c,slice al ak am]))
theorem Zd3(aF aG aH aI aA aE aJ:Int)(aC:Option Addr)(aB aD c0b c0o mkb:Nat)(t0a:Option Addr)(t0n t0c:Nat)(t1a:Option Addr)(t1n t1c:Nat)(m:Mem)(Y:Nat→Prop)(R:RTY)(h:ZcD aF aG aH aI aA aE aJ aC aB aD c0b c0o mkb t0a t0n t0c t1a t1n t1c m Y R):CXY Try.prog 140 #[.agg #[.int .u8 aF,.int .u64 aG,.int .u64 aH,.int .u64 aI,.int .u64 aA,.int .i64 aE,.int .i64 aJ,.slice aC aB aD],.pointer (some ⟨c0b,c0o,none⟩)] m Y [⟨mkb,[.slice t0a t0n t0c,.slice t1a t1n t1c],98,2,false,true⟩] [⟨.slice t0a t0n t0c,4⟩,⟨.slice t1a t1n t1c,7⟩] R:=
 ZaV (E:=Zfd) ZaC mix Try.func140 [.v (.agg #[.int .u8 aF,.int .u64 aG,.int .u64 aH,.int .u64 aI,.int .u64 aA,.int .i64 aE,.int .i64 aJ,.slice aC aB aD]),.v (.pointer (some ⟨c0b,c0o,none⟩))] [⟨mkb,[.slice t0a t0n t0c,.slice t1a t1n t1c],98,2,false,true⟩] [900,901] [⟨.slice t0a t0n t0c,4⟩,⟨.slice t1a t1n t1c,7⟩] (by decide) (by kernel_rfl) (Eq.mp (by kernel_rfl) h)
noncomputable def Zfe:Env:={ EB with
 dr:=(fun i=>bif Nat.beq i 1 then[⟨0,[],[],none,[],[]⟩,⟨1,[2],[],none,[],[]⟩,⟨2,[2],[],none,[1],[]⟩,⟨3,[],[],none,[1,2],[]⟩,⟨4,[],[],none,[1,2,3],[]⟩]else[])
 borrow:=(fun i=>bif Nat.beq i 9 then[100000]else[])
 frzNew:=[2]
 last:=(fun i=>bif Nat.beq i 1 then true else false)
 lastK:=(fun i=>bif Nat.beq i 1 then 2 else 1)
 thaw:=true
 lentC:=(fun i=>bif Nat.beq i 9 then some [(900,4),(901,7)]else none) }
def ZcE(aF aG aH aI aA aE aJ:Int)(aC:Option Addr)(aB aD c0b c0o mkb:Nat)(t0a:Option Addr)(t0n t0c:Nat)(t1a:Option Addr)(t1n t1c:Nat)(m:Mem)(Y:Nat→Prop)(R:RTY):Prop:=
 ∀(b:Nat)(m':Mem),Mem.le m m'→Mem.reads m' b 0 [int u8 aF,int u64 aG,int u64 aH,int u64 aI,int u64 aA,int i64 aE,int i64 aJ,slice aC aB aD]→Mem.free m b→(∀(b' o:Nat) (u:
 Value),m' b' o=some u→m b' o=some u∨b'=b)→∀(b_1:Nat),∃(f:Fx),∃(v:Value),m' c0b c0o=some v∧∃(b_2:Nat),∃(o:Nat),aC=some (Addr.mk b_2 o none)∧Zaf (0:Int) aB∧∃(v_1:
 Value),∃(v_2:Value),∃(v_3:Value),∃(v_4:Value),∃(v_5:Value),∃(v_6:Value),∃(v_7:Value),∃(v_8:Value),Mem.reads m' b_2 (o+0) [v_1,v_2,v_3,v_4,v_5,v_6,v_7,v_8]∧∃(Y_1:Nat→Prop),∃
 (R_1:Value→Mem→List (List Value)→List Value→Prop),CXY Try.prog 61 (Array.mk [v,agg (Array.mk [v_1,v_2,v_3,v_4,v_5,v_6,v_7,v_8])]) m' Y_1 [Box.mk mkb [slice t0a t0n t0c,slice t1a t1n t1c] 98 2 false
 true] [Tok.mk (slice t0a t0n t0c) 4,Tok.mk (slice t1a t1n t1c) 7] R_1∧(∀(t:Tok),t∈[Tok.mk (slice t0a t0n t0c) 4,Tok.mk (slice t1a t1n t1c) 7]→∀(b:Nat),Tok.blk t=some b→Y_1 b)∧(∀(b_3:Nat),Y_1
 b_3→(∃(t:Tok),t∈[Tok.mk (slice t0a t0n t0c) 4,Tok.mk (slice t1a t1n t1c) 7]∧Tok.blk t=some b_3)∨Mem.free (Mem.off m Y) b_3∧(∃(o:Nat),∃(v:Value),m' b_3 o=some v)∧b≠b_3∧True)∧(∀(v:
 Value) (m':Mem) (css:List (List Value)) (tvs:List Value),R_1 v m' css tvs→Shape.fits (Shape.agg [Shape.int u64,Shape.int u64,Shape.int u64,Shape.int u64,Shape.int u64,Shape.int u64,Shape.int u64,
 Shape.int u64,Shape.int u64,Shape.int u64,Shape.int u64,Shape.int u64,Shape.int u64,Shape.int u64,Shape.bool]) v=true)∧∀(n n_1 n_2 n_3 n_4 n_5 n_6 n_7 n_8 n_9 n_10 n_11 n_12 n_13:Int)(b:Bool) (m'_1:
 Mem),Mem.le (Mem.off m' Y_1) m'_1→(∀(b o:Nat)(u:Value),m'_1 b o=some u→m' b o=some u∨Y_1 b∨Mem.free m' b)→∀(cs:List Value)(a:Option Addr)(c d:Nat)(a_1:Option Addr)(c_1 d_1:Nat),R_1
 (agg (Array.mk [int u64 n,int u64 n_1,int u64 n_2,int u64 n_3,int u64 n_4,int u64 n_5,int u64 n_6,int u64 n_7,int u64 n_8,int u64 n_9,int u64 n_10,int u64 n_11,int u64 n_12,int u64 n_13,Value.bool b]))
 m'_1 [cs] [slice a c d,slice a_1 c_1 d_1]→Box.mk mkb [slice t0a t0n t0c,slice t1a t1n t1c] 98 2 false true=Box.mk mkb [slice t0a t0n t0c,slice t1a t1n t1c] 98 2 false true∧R (agg (Array.mk [int u64 n,int u64
 n_1,int u64 n_2,int u64 n_3,int u64 n_4,int u64 n_5,int u64 n_6,int u64 n_7,int u64 n_8,int u64 n_9,int u64 n_10,int u64 n_11,int u64 n_12,int u64 n_13,Value.bool b])) m'_1 [cs] [slice a c d,slice a_1 c_1
 d_1]
theorem Zd4(aF aG aH aI aA aE aJ:Int)(aC:Option Addr)(aB aD c0b c0o mkb:Nat)(t0a:Option Addr)(t0n t0c:Nat)(t1a:Option Addr)(t1n t1c:Nat)(m:Mem)(Y:Nat→Prop)(R:RTY)(h:ZcE aF aG aH aI aA aE aJ aC aB aD c0b c0o mkb t0a t0n t0c t1a t1n t1c m Y R):CXY Try.prog 143 #[.agg #[.int .u8 aF,.int .u64 aG,.int .u64 aH,.int .u64 aI,.int .u64 aA,.int .i64 aE,.int .i64 aJ,.slice aC aB aD],.pointer (some ⟨c0b,c0o,none⟩)] m Y [⟨mkb,[.slice t0a t0n t0c,.slice t1a t1n t1c],98,2,false,true⟩] [⟨.slice t0a t0n t0c,4⟩,⟨.slice t1a t1n t1c,7⟩] R:=
 ZaV (E:=Zfe) ZaC mix Try.func143 [.v (.agg #[.int .u8 aF,.int .u64 aG,.int .u64 aH,.int .u64 aI,.int .u64 aA,.int .i64 aE,.int .i64 aJ,.slice aC aB aD]),.v (.pointer (some ⟨c0b,c0o,none⟩))] [⟨mkb,[.slice t0a t0n t0c,.slice t1a t1n t1c],98,2,false,true⟩] [900,901] [⟨.slice t0a t0n t0c,4⟩,⟨.slice t1a t1n t1c,7⟩] (by decide) (by kernel_rfl) (Eq.mp (by kernel_rfl) h)
noncomputable def ZfK:Env:={ EB with
 loops:=(fun i=>bif Nat.beq i 6 then⟨[(18,.int .i64)],[6,100000],[(900,4),(901,7)],false⟩ else⟨[],[],[],false⟩)
 joins:=(fun i=>bif Nat.beq i 9 then some [(35,.bool)]else none)
 borrow:=(fun i=>bif Nat.beq i 26 then[100000]else bif Nat.beq i 41 then[100000]else bif Nat.beq i 54 then[100000]else[])
 frzNew:=[3]
 thaw:=true
 lentC:=(fun i=>bif Nat.beq i 26 then some [(900,4),(901,7)]else bif Nat.beq i 41 then some [(900,4),(901,7)]else bif Nat.beq i 54 then some [(900,4),(901,7)]else none) }
abbrev Zb3:List Value:=[int u64 0,int u64 0,int u64 0,int u64 0,int u64 0,int u64 0,int u64 0,int u64 0,int u64 0,int u64 0,int u64 0,int u64 0,int u64 0,int u64 0,Value.bool true]
abbrev Zaz:List Shape:=[Shape.int u64,Shape.int u64,Shape.int u64,Shape.int u64,Shape.int u64,Shape.int u64,Shape.int u64,Shape.int u64,Shape.int u64,Shape.int u64,Shape.int u64,Shape.int
 u64,Shape.int u64,Shape.int u64,Shape.bool]
abbrev Zak:Int→Int→Int→Int→Int→Int→Int→Int→Int→Int→Int→Int→Int→Int→Bool→List Value:=fun(n bb bc bd ag ah ai aj ak al am an ao ap:Int)(b:Bool)=>[int u64 n,int
 u64 bb,int u64 bc,int u64 bd,int u64 ag,int u64 ah,int u64 ai,int u64 aj,int u64 ak,int u64 al,int u64 am,int u64 an,int u64 ao,int u64 ap,Value.bool b]
abbrev Zff:Int→Int→Int→Int→Int→Int→Int→Int→Int→Int→Int→Int→Int→Int→Bool→Nat→Option Box:=fun(n bb bc bd ag ah ai aj ak al am an ao ap:Int)(b:Bool)(bg:Nat)=>
 some (Box.mk bg (Zak n bb bc bd ag ah ai aj ak al am an ao ap b) 102 15 false true)
abbrev Zfg:Nat→List Value→Option Box:=fun(b:Nat)(cs:List Value)=>some (Box.mk b cs 102 15 false true)
abbrev Zfh:List Value:=[int u64 0,int u64 0,int u64 0,int u64 0,int u64 0,int u64 0,int u64 0,int u64 0,int u64 0,int u64 0,int u64 0,int u64 0,int u64 0,int u64 0,Value.bool false]
abbrev ZcV:Nat→Option Box:=fun(b:Nat)=>some (Box.mk b Zfh 102 15 false true)
abbrev ZcW:Int→Int→Int→Int→Int→Int→Int→Option Addr→Nat→Nat→Nat→Option Box:=fun(bI bE bF bG aZ bC bD:Int)(aW:Option Addr)(aX aY b:Nat)=>some
 (Box.mk b [int u8 bI,int u64 bE,int u64 bF,int u64 bG,int u64 aZ,int i64 bC,int i64 bD,slice aW aX aY] 41 8 true true)
abbrev Zfi:Nat→List Value→Option Box:=fun(mkb:Nat)(cs:List Value)=>some (Box.mk mkb cs 98 2 false true)
abbrev Zbw:Int→Int→Int→Int→Int→Int→Int→Option Addr→Nat→Nat→Nat→Nat→Nat→Nat→List Value→Int→Int→Int→Int→Int→Int→Int→Int→Int→Int→Int→Int→Int→Int→
 Bool→List Value→Nat→List (Option Box):=fun(bI bE bF bG aZ bC bD:Int)(aW:Option Addr)(aX aY mkb b bg bh:Nat)(cs:List Value)(n bb bc bd ag ah ai aj ak al am an ao ap:Int) (bu
 : Bool) (bt:List Value) (av:Nat)=>[Zff n bb bc bd ag ah ai aj ak al am an ao ap bu av,Zfg bh cs,ZcV bg,ZcW bI bE bF bG aZ bC bD
 aW aX aY b,Zfi mkb bt]
abbrev Zbk:Int→Int→Int→Int→Int→Int→Int→Int→Int→Int→Int→Int→Int→Int→List Value:=fun(n bb bc bd ag ah ai aj ak al am an ao ap:Int)=>[int u64 n,int u64 bb,int u64 bc,
 int u64 bd,int u64 ag,int u64 ah,int u64 ai,int u64 aj,int u64 ak,int u64 al,int u64 am,int u64 an,int u64 ao,int u64 ap,Value.bool true]
abbrev ZaG:Int→Int→Int→Int→Int→Int→Int→Option Addr→Nat→Nat→Nat→Nat→Nat→Nat→List (Option Box):=fun(bI bE bF bG aZ bC bD:Int)(aW:Option Addr) (aX
 aY mkb b bg bh:Nat)=>[some (Box.mk bh [] 102 15 false true),ZcV bg,ZcW bI bE bF bG aZ bC bD aW aX aY b,some (Box.mk mkb [] 98 2 false true)]
abbrev Zbl:Int→Int→Int→Int→Int→Int→Int→Int→Int→Int→Int→Int→Int→Int→Int→Int→List Value:=fun(bC n bb bc bd ag ah ai aj ak al am an ao ap be:Int)=>[int u64 bb,
 int u64 bc,int u64 bd,int u64 ag,int u64 ah,int u64 ai,int u64 aj,int u64 ak,int u64 al,int u64 am,int u64 an,int u64 ao,int u64 ap,int u64 be,Value.bool (decide (n ≥ bC))]
def ZcX(p0b p0o:Nat)(bI bE bF bG aZ bC bD:Int)(aW:Option Addr)(aX aY mkb:Nat)(t0a:Option Addr)(t0n t0c:Nat)(t1a:Option Addr)(t1n t1c:Nat)(m:Mem)(Y:Nat→Prop)(R:RTY):Prop:=
 ∀(b:Nat)(m':Mem),Mem.le m m'→Mem.reads m' b 0 [int u8 bI,int u64 bE,int u64 bF,int u64 bG,int u64 aZ,int i64 bC,int i64 bD,slice aW aX aY]→Mem.free m b→(∀(b' o:Nat) (u:
 Value),m' b' o=some u→m b' o=some u∨b'=b)→∀(bg:Nat),br (bD == (-1:Int)) (∀(bh:Nat),∃(I:IT),(∃(n:Nat),I [int i64 0] [Zb3,[slice t0a t0n t0c,slice t1a t1n t1c]] [slice
 t0a t0n t0c,slice t1a t1n t1c] m' n)∧∀(n:Int)(cs bt:List Value)(a:Option Addr)(bb c:Nat)(bm:Option Addr)(bc bn:Nat)(m':Mem)(bd:Nat),True→I [int i64 n] [cs,bt] [slice a bb c,slice bm bc
 bn] m' bd→br (decide (n < if(1:Int) > bC then(1:Int)else bC)) (∃(bu:Nat),∃(o:Nat),aW=some (Addr.mk bu o none)∧Zaf (0:Int) aX∧∃(v:Value),∃(bx:Value),∃(bz:Value),∃(ca:
 Value),∃(cb:Value),∃(cc:Value),∃(cd:Value),∃(ce:Value),Mem.reads m' bu (o+0) [v,bx,bz,ca,cb,cc,cd,ce]∧∃(bo:Nat→Prop),∃(R:Value→Mem→List (List Value)→List Value→Prop),CXY
 Try.prog 61 (Array.mk [Value.pointer (some (Addr.mk p0b p0o none)),agg (Array.mk [v,bx,bz,ca,cb,cc,cd,ce])]) m' bo [Box.mk mkb bt 98 2 false true] [Tok.mk (slice a bb c) 4,Tok.mk (slice bm bc bn) 7] R∧(∀(t:
 Tok),t∈[Tok.mk (slice a bb c) 4,Tok.mk (slice bm bc bn) 7]→∀(b:Nat),Tok.blk t=some b→bo b)∧(∀(av:Nat),bo av→(∃(t:Tok),t∈[Tok.mk (slice a bb c) 4,Tok.mk (slice bm bc bn) 7]∧Tok.blk t=some
 av)∨Mem.free (Mem.off m Y) av∧(∃(o:Nat),∃(v:Value),m' av o=some v)∧b≠av∧True)∧(∀(v:Value)(m':Mem) (css:List (List Value)) (tvs:List Value),R v m' css tvs→Shape.fits (Shape.agg
 Zaz) v=true)∧∀(ag ah ai aj ak al am an ao ap be bi bj bk:Int)(av:Bool)(ae:Mem),Mem.le (Mem.off m' bo) ae→(∀(b o:Nat)(u:Value),ae b o=some u→m' b o=some u∨bo b∨Mem.free m'
 b)→∀(bl:List Value)(a:Option Addr)(c d:Nat)(ab:Option Addr)(ac ad:Nat),R (agg (Array.mk (Zak ag ah ai aj ak al am an ao ap be bi bj bk av))) ae [bl] [slice a c d,slice ab ac ad]→∀
 (cf:Nat),∃(bv:Bool),br (bD == (-1:Int)) (Zas (Zbw bI bE bF bG aZ bC bD aW aX aY mkb b bg bh cs ag ah ai aj ak al am an ao ap be bi bj bk av bl cf)∧[some (Tok.mk
 (slice a c d) 4),some (Tok.mk (slice ab ac ad) 7),some (Tok.mk (slice a c d) 4),some (Tok.mk (slice ab ac ad) 7),some (Tok.mk (slice a c d) 4),some (Tok.mk (slice ab ac ad) 7)]=[some (Tok.mk (slice a c d) 4),
 some (Tok.mk (slice ab ac ad) 7),some (Tok.mk (slice a c d) 4),some (Tok.mk (slice ab ac ad) 7),some (Tok.mk (slice a c d) 4),some (Tok.mk (slice ab ac ad) 7)]∧[Value.bool (n == IntKind.wrap i64 ((if(1:Int) >
 bC then(1:Int)else bC) - (1:Int)))]=[Value.bool bv]) (Zas (Zbw bI bE bF bG aZ bC bD aW aX aY mkb b bg bh cs ag ah ai aj ak al am an ao ap be bi bj bk av bl cf)∧
 [some (Tok.mk (slice a c d) 4),some (Tok.mk (slice ab ac ad) 7),some (Tok.mk (slice a c d) 4),some (Tok.mk (slice ab ac ad) 7),some (Tok.mk (slice a c d) 4),some (Tok.mk (slice ab ac ad) 7)]=[some (Tok.mk (slice
 a c d) 4),some (Tok.mk (slice ab ac ad) 7),some (Tok.mk (slice a c d) 4),some (Tok.mk (slice ab ac ad) 7),some (Tok.mk (slice a c d) 4),some (Tok.mk (slice ab ac ad) 7)]∧[Value.bool false]=[Value.bool bv])∧br
 bv (∃(af:Nat→Prop),∃(R:Value→Mem→List (List Value)→List Value→Prop),CXY Try.prog 164 (Array.mk [Value.pointer (some (Addr.mk p0b p0o none)),agg (Array.mk [int u64 an,int u64 ao,int u64 ap,int u64
 be,int u64 bi,int u64 bj,int u64 bk]),agg (Array.mk [int u64 ag,int u64 ah,int u64 ai,int u64 aj,int u64 ak,int u64 al,int u64 am])]) ae af [Box.mk mkb bl 98 2 false true] [Tok.mk (slice a c d) 4,Tok.mk
 (slice ab ac ad) 7] R∧(∀(t:Tok),t∈[Tok.mk (slice a c d) 4,Tok.mk (slice ab ac ad) 7]→∀(b:Nat),Tok.blk t=some b→af b)∧(∀(aa:Nat),af aa→(∃(t:Tok),t∈[Tok.mk (slice a c d) 4,Tok.mk (slice
 ab ac ad) 7]∧Tok.blk t=some aa)∨Mem.free (Mem.off m Y) aa∧(∃(o:Nat),∃(v:Value),ae aa o=some v)∧b≠aa∧True)∧(∀(v:Value)(m':Mem) (css:List (List Value)) (tvs:List Value),R v m' css tvs
 → Shape.fits (Shape.tup []) v=true)∧∀(m':Mem),Mem.le (Mem.off ae af) m'→(∀(b o:Nat)(u:Value),m' b o=some u→ae b o=some u∨af b∨Mem.free ae b)→∀(bw:List Value)(a:Option Addr)(c d:Nat)
 (aq:Option Addr) (ar au:Nat),R (Value.tuple (Array.mk [])) m' [bw] [slice a c d,slice aq ar au]→br av (∃(aw:Nat→Prop),∃(R:Value→Mem→List (List Value)→List Value→Prop),CXY Try.prog 139 (Array.mk
 [Value.pointer (some (Addr.mk p0b p0o none)),agg (Array.mk cs),agg (Array.mk (Zbk ag ah ai aj ak al am an ao ap be bi bj bk))]) m' aw [Box.mk mkb bw 98 2 false true] [Tok.mk (slice a c d) 4,Tok.mk
 (slice aq ar au) 7] R∧(∀(t:Tok),t∈[Tok.mk (slice a c d) 4,Tok.mk (slice aq ar au) 7]→∀(b:Nat),Tok.blk t=some b→aw b)∧(∀(aa:Nat),aw aa→(∃(t:Tok),t∈[Tok.mk (slice a c d) 4,Tok.mk (slice
 aq ar au) 7]∧Tok.blk t=some aa)∨Mem.free (Mem.off m Y) aa∧(∃(o:Nat),∃(v:Value),m' aa o=some v)∧b≠aa∧True)∧(∀(v:Value)(m':Mem) (css:List (List Value)) (tvs:List Value),R v m' css tvs
 → Shape.fits (Shape.agg Zaz) v=true)∧∀(ax ay az a0 a1 a2 a3 a4 a5 a6 a7 a8 a9 ba:Int)(aa:Bool)(bf:Mem),Mem.le (Mem.off m' aw) bf→(∀(b o:Nat)(u:Value),bf b o=some u→m' b o =
 some u∨aw b∨Mem.free m' b)→∀(cs:List Value)(a:Option Addr)(c d:Nat)(bp:Option Addr)(bq bs:Nat),R (agg (Array.mk (Zak ax ay az a0 a1 a2 a3 a4 a5 a6 a7 a8 a9 ba aa))) bf [cs] [slice a
 c d,slice bp bq bs]→Zas (ZaG bI bE bF bG aZ bC bD aW aX aY mkb b bg bh)∧([none,none]:List (Option Tok))=[none,none]∧∃(n':Nat),n' < bd∧I [int i64
 (IntKind.wrap i64 (n+(1:Int)))] [Zak ax ay az a0 a1 a2 a3 a4 a5 a6 a7 a8 a9 ba aa,cs] [slice a c d,slice bp bq bs] bf n') (∃(aw:Nat→Prop),∃(R:Value→Mem→List (List Value)→List Value→
 Prop),CXY Try.prog 139 (Array.mk [Value.pointer (some (Addr.mk p0b p0o none)),agg (Array.mk cs),agg (Array.mk (Zbl bC n ag ah ai aj ak al am an ao ap be bi bj bk))]) m' aw [Box.mk mkb bw 98 2 false
 true] [Tok.mk (slice a c d) 4,Tok.mk (slice aq ar au) 7] R∧(∀(t:Tok),t∈[Tok.mk (slice a c d) 4,Tok.mk (slice aq ar au) 7]→∀(b:Nat),Tok.blk t=some b→aw b)∧(∀(aa:Nat),aw aa→(∃(t:Tok),t ∈
 [Tok.mk (slice a c d) 4,Tok.mk (slice aq ar au) 7]∧Tok.blk t=some aa)∨Mem.free (Mem.off m Y) aa∧(∃(o:Nat),∃(v:Value),m' aa o=some v)∧b≠aa∧True)∧(∀(v:Value)(m':Mem) (css:List (List
 Value)) (tvs:List Value),R v m' css tvs→Shape.fits (Shape.agg Zaz) v=true)∧∀(ax ay az a0 a1 a2 a3 a4 a5 a6 a7 a8 a9 ba:Int)(aa:Bool)(bf:Mem),Mem.le (Mem.off m' aw) bf→(∀(b o:Nat)
 (u:Value),bf b o=some u→m' b o=some u∨aw b∨Mem.free m' b)→∀(cs:List Value)(a:Option Addr)(c d:Nat)(bp:Option Addr)(bq bs:Nat),R (agg (Array.mk (Zak ax ay az a0 a1 a2 a3 a4
 a5 a6 a7 a8 a9 ba aa))) bf [cs] [slice a c d,slice bp bq bs]→Zas (ZaG bI bE bF bG aZ bC bD aW aX aY mkb b bg bh)∧([none,none]:List (Option Tok))=[none,none]∧∃(n'
 : Nat),n' < bd∧I [int i64 (IntKind.wrap i64 (n+(1:Int)))] [Zak ax ay az a0 a1 a2 a3 a4 a5 a6 a7 a8 a9 ba aa,cs] [slice a c d,slice bp bq bs] bf n')) (br av (∃(af:Nat→Prop),∃(R:Value→
 Mem→List (List Value)→List Value→Prop),CXY Try.prog 139 (Array.mk [Value.pointer (some (Addr.mk p0b p0o none)),agg (Array.mk cs),agg (Array.mk (Zbk ag ah ai aj ak al am an ao ap be bi bj bk))])
 ae af [Box.mk mkb bl 98 2 false true] [Tok.mk (slice a c d) 4,Tok.mk (slice ab ac ad) 7] R∧(∀(t:Tok),t∈[Tok.mk (slice a c d) 4,Tok.mk (slice ab ac ad) 7]→∀(b:Nat),Tok.blk t=some b→af b)∧(∀(aa:
 Nat),af aa→(∃(t:Tok),t∈[Tok.mk (slice a c d) 4,Tok.mk (slice ab ac ad) 7]∧Tok.blk t=some aa)∨Mem.free (Mem.off m Y) aa∧(∃(o:Nat),∃(v:Value),ae aa o=some v)∧b≠aa∧True)∧(∀(v:Value)
 (m':Mem) (css:List (List Value)) (tvs:List Value),R v m' css tvs→Shape.fits (Shape.agg Zaz) v=true)∧∀(ax ay az a0 a1 a2 a3 a4 a5 a6 a7 a8 a9 ba:Int)(aa:Bool)(m':Mem),Mem.le
 (Mem.off ae af) m'→(∀(b o:Nat)(u:Value),m' b o=some u→ae b o=some u∨af b∨Mem.free ae b)→∀(cs:List Value)(a:Option Addr)(c d:Nat)(aq:Option Addr)(ar au:Nat),R (agg (Array.mk
 (Zak ax ay az a0 a1 a2 a3 a4 a5 a6 a7 a8 a9 ba aa))) m' [cs] [slice a c d,slice aq ar au]→Zas (ZaG bI bE bF bG aZ bC bD aW aX aY mkb b bg bh)∧([none,none]
 : List (Option Tok))=[none,none]∧∃(n':Nat),n' < bd∧I [int i64 (IntKind.wrap i64 (n+(1:Int)))] [Zak ax ay az a0 a1 a2 a3 a4 a5 a6 a7 a8 a9 ba aa,cs] [slice a c d,slice aq ar au] m' n') (∃
 (af:Nat→Prop),∃(R:Value→Mem→List (List Value)→List Value→Prop),CXY Try.prog 139 (Array.mk [Value.pointer (some (Addr.mk p0b p0o none)),agg (Array.mk cs),agg (Array.mk (Zbl bC n ag
 ah ai aj ak al am an ao ap be bi bj bk))]) ae af [Box.mk mkb bl 98 2 false true] [Tok.mk (slice a c d) 4,Tok.mk (slice ab ac ad) 7] R∧(∀(t:Tok),t∈[Tok.mk (slice a c d) 4,Tok.mk (slice ab ac ad) 7]→∀(b:
 Nat),Tok.blk t=some b→af b)∧(∀(aa:Nat),af aa→(∃(t:Tok),t∈[Tok.mk (slice a c d) 4,Tok.mk (slice ab ac ad) 7]∧Tok.blk t=some aa)∨Mem.free (Mem.off m Y) aa∧(∃(o:Nat),∃(v:Value),ae aa o =
 some v)∧b≠aa∧True)∧(∀(v:Value)(m':Mem) (css:List (List Value)) (tvs:List Value),R v m' css tvs→Shape.fits (Shape.agg Zaz) v=true)∧∀(ax ay az a0 a1 a2 a3 a4 a5 a6 a7 a8 a9 ba:
 Int) (aa:Bool) (m':Mem),Mem.le (Mem.off ae af) m'→(∀(b o:Nat)(u:Value),m' b o=some u→ae b o=some u∨af b∨Mem.free ae b)→∀(cs:List Value)(a:Option Addr)(c d:Nat)(aq:Option Addr) (ar
 au:Nat),R (agg (Array.mk (Zak ax ay az a0 a1 a2 a3 a4 a5 a6 a7 a8 a9 ba aa))) m' [cs] [slice a c d,slice aq ar au]→Zas (ZaG bI bE bF bG aZ bC bD aW aX aY
 mkb b bg bh)∧([none,none]:List (Option Tok))=[none,none]∧∃(n':Nat),n' < bd∧I [int i64 (IntKind.wrap i64 (n+(1:Int)))] [Zak ax ay az a0 a1 a2 a3 a4 a5 a6 a7 a8 a9 ba aa,cs] [slice a c
 d,slice aq ar au] m' n'))) (chk (Nat.beq (List.length cs) 15&&Zc8 cs) (Box.mk mkb [slice t0a t0n t0c,slice t1a t1n t1c] 98 2 false true=Box.mk mkb [slice t0a t0n t0c,slice t1a t1n t1c] 98 2 false true∧R (agg
 (Array.mk cs)) m' [bt] [slice a bb c,slice bm bc bn]))) (∀(bh:Nat),∃(I:IT),(∃(n:Nat),I [int i64 0] [Zb3,[slice t0a t0n t0c,slice t1a t1n t1c]] [slice t0a t0n t0c,slice t1a t1n t1c] m' n)
 ∧ ∀(n:Int)(cs bt:List Value)(a:Option Addr)(bb c:Nat)(bm:Option Addr)(bc bn:Nat)(m':Mem)(bd:Nat),True→I [int i64 n] [cs,bt] [slice a bb c,slice bm bc bn] m' bd→br (decide (n < bD)) (∃
 (bu:Nat),∃(o:Nat),aW=some (Addr.mk bu o none)∧Zaf (0:Int) aX∧∃(v:Value),∃(bx:Value),∃(bz:Value),∃(ca:Value),∃(cb:Value),∃(cc:Value),∃(cd:Value),∃(ce:Value),
 Mem.reads m' bu (o+0) [v,bx,bz,ca,cb,cc,cd,ce]∧∃(bo:Nat→Prop),∃(R:Value→Mem→List (List Value)→List Value→Prop),CXY Try.prog 61 (Array.mk [Value.pointer (some (Addr.mk p0b p0o none)),agg
 (Array.mk [v,bx,bz,ca,cb,cc,cd,ce])]) m' bo [Box.mk mkb bt 98 2 false true] [Tok.mk (slice a bb c) 4,Tok.mk (slice bm bc bn) 7] R∧(∀(t:Tok),t∈[Tok.mk (slice a bb c) 4,Tok.mk (slice bm bc bn) 7]→∀(b:
 Nat),Tok.blk t=some b→bo b)∧(∀(av:Nat),bo av→(∃(t:Tok),t∈[Tok.mk (slice a bb c) 4,Tok.mk (slice bm bc bn) 7]∧Tok.blk t=some av)∨Mem.free (Mem.off m Y) av∧(∃(o:Nat),∃(v:Value),m' av o
 = some v)∧b≠av∧True)∧(∀(v:Value)(m':Mem) (css:List (List Value)) (tvs:List Value),R v m' css tvs→Shape.fits (Shape.agg Zaz) v=true)∧∀(ag ah ai aj ak al am an ao ap be bi bj bk:
 Int) (av:Bool) (ae:Mem),Mem.le (Mem.off m' bo) ae→(∀(b o:Nat)(u:Value),ae b o=some u→m' b o=some u∨bo b∨Mem.free m' b)→∀(bl:List Value)(a:Option Addr)(c d:Nat)(ab:Option Addr) (ac
 ad:Nat),R (agg (Array.mk (Zak ag ah ai aj ak al am an ao ap be bi bj bk av))) ae [bl] [slice a c d,slice ab ac ad]→∀(cf:Nat),∃(bv:Bool),br (bD == (-1:Int)) (Zas (Zbw
 bI bE bF bG aZ bC bD aW aX aY mkb b bg bh cs ag ah ai aj ak al am an ao ap be bi bj bk av bl cf)∧[some (Tok.mk (slice a c d) 4),some (Tok.mk (slice ab ac ad) 7),some (Tok.mk (slice a c d) 4),
 some (Tok.mk (slice ab ac ad) 7),some (Tok.mk (slice a c d) 4),some (Tok.mk (slice ab ac ad) 7)]=[some (Tok.mk (slice a c d) 4),some (Tok.mk (slice ab ac ad) 7),some (Tok.mk (slice a c d) 4),some (Tok.mk (slice
 ab ac ad) 7),some (Tok.mk (slice a c d) 4),some (Tok.mk (slice ab ac ad) 7)]∧[Value.bool (n == IntKind.wrap i64 (bD - (1:Int)))]=[Value.bool bv]) (Zas (Zbw bI bE bF bG aZ bC bD
 aW aX aY mkb b bg bh cs ag ah ai aj ak al am an ao ap be bi bj bk av bl cf)∧[some (Tok.mk (slice a c d) 4),some (Tok.mk (slice ab ac ad) 7),some (Tok.mk (slice a c d) 4),some (Tok.mk (slice ab ac ad) 7),
 some (Tok.mk (slice a c d) 4),some (Tok.mk (slice ab ac ad) 7)]=[some (Tok.mk (slice a c d) 4),some (Tok.mk (slice ab ac ad) 7),some (Tok.mk (slice a c d) 4),some (Tok.mk (slice ab ac ad) 7),some (Tok.mk (slice a
 c d) 4),some (Tok.mk (slice ab ac ad) 7)]∧[Value.bool false]=[Value.bool bv])∧br bv (∃(af:Nat→Prop),∃(R:Value→Mem→List (List Value)→List Value→Prop),CXY Try.prog 164 (Array.mk [Value.pointer
 (some (Addr.mk p0b p0o none)),agg (Array.mk [int u64 an,int u64 ao,int u64 ap,int u64 be,int u64 bi,int u64 bj,int u64 bk]),agg (Array.mk [int u64 ag,int u64 ah,int u64 ai,int u64 aj,int u64 ak,int u64 al,
 int u64 am])]) ae af [Box.mk mkb bl 98 2 false true] [Tok.mk (slice a c d) 4,Tok.mk (slice ab ac ad) 7] R∧(∀(t:Tok),t∈[Tok.mk (slice a c d) 4,Tok.mk (slice ab ac ad) 7]→∀(b:Nat),Tok.blk t=some b→af
 b)∧(∀(aa:Nat),af aa→(∃(t:Tok),t∈[Tok.mk (slice a c d) 4,Tok.mk (slice ab ac ad) 7]∧Tok.blk t=some aa)∨Mem.free (Mem.off m Y) aa∧(∃(o:Nat),∃(v:Value),ae aa o=some v)∧b≠aa∧True)∧(∀
 (v:Value) (m':Mem) (css:List (List Value)) (tvs:List Value),R v m' css tvs→Shape.fits (Shape.tup []) v=true)∧∀(m':Mem),Mem.le (Mem.off ae af) m'→(∀(b o:Nat)(u:Value),m' b o=some u→ae b o
 = some u∨af b∨Mem.free ae b)→∀(bw:List Value)(a:Option Addr)(c d:Nat)(aq:Option Addr)(ar au:Nat),R (Value.tuple (Array.mk [])) m' [bw] [slice a c d,slice aq ar au]→br av (∃(aw:Nat→Prop),∃
 (R:Value→Mem→List (List Value)→List Value→Prop),CXY Try.prog 139 (Array.mk [Value.pointer (some (Addr.mk p0b p0o none)),agg (Array.mk cs),agg (Array.mk (Zbk ag ah ai aj ak al am an ao ap be
 bi bj bk))]) m' aw [Box.mk mkb bw 98 2 false true] [Tok.mk (slice a c d) 4,Tok.mk (slice aq ar au) 7] R∧(∀(t:Tok),t∈[Tok.mk (slice a c d) 4,Tok.mk (slice aq ar au) 7]→∀(b:Nat),Tok.blk t=some b→aw b)
 ∧ (∀(aa:Nat),aw aa→(∃(t:Tok),t∈[Tok.mk (slice a c d) 4,Tok.mk (slice aq ar au) 7]∧Tok.blk t=some aa)∨Mem.free (Mem.off m Y) aa∧(∃(o:Nat),∃(v:Value),m' aa o=some v)∧b≠aa∧True)∧(∀(v
 : Value) (m':Mem) (css:List (List Value)) (tvs:List Value),R v m' css tvs→Shape.fits (Shape.agg Zaz) v=true)∧∀(ax ay az a0 a1 a2 a3 a4 a5 a6 a7 a8 a9 ba:Int)(aa:Bool)(bf:Mem),
 Mem.le (Mem.off m' aw) bf→(∀(b o:Nat)(u:Value),bf b o=some u→m' b o=some u∨aw b∨Mem.free m' b)→∀(cs:List Value)(a:Option Addr)(c d:Nat)(bp:Option Addr)(bq bs:Nat),R (agg (Array.mk
 (Zak ax ay az a0 a1 a2 a3 a4 a5 a6 a7 a8 a9 ba aa))) bf [cs] [slice a c d,slice bp bq bs]→Zas (ZaG bI bE bF bG aZ bC bD aW aX aY mkb b bg bh)∧([none,none]
 : List (Option Tok))=[none,none]∧∃(n':Nat),n' < bd∧I [int i64 (IntKind.wrap i64 (n+(1:Int)))] [Zak ax ay az a0 a1 a2 a3 a4 a5 a6 a7 a8 a9 ba aa,cs] [slice a c d,slice bp bq bs] bf n') (∃
 (aw:Nat→Prop),∃(R:Value→Mem→List (List Value)→List Value→Prop),CXY Try.prog 139 (Array.mk [Value.pointer (some (Addr.mk p0b p0o none)),agg (Array.mk cs),agg (Array.mk (Zbl bC n ag
 ah ai aj ak al am an ao ap be bi bj bk))]) m' aw [Box.mk mkb bw 98 2 false true] [Tok.mk (slice a c d) 4,Tok.mk (slice aq ar au) 7] R∧(∀(t:Tok),t∈[Tok.mk (slice a c d) 4,Tok.mk (slice aq ar au) 7]→∀(b:
 Nat),Tok.blk t=some b→aw b)∧(∀(aa:Nat),aw aa→(∃(t:Tok),t∈[Tok.mk (slice a c d) 4,Tok.mk (slice aq ar au) 7]∧Tok.blk t=some aa)∨Mem.free (Mem.off m Y) aa∧(∃(o:Nat),∃(v:Value),m' aa o =
 some v)∧b≠aa∧True)∧(∀(v:Value)(m':Mem) (css:List (List Value)) (tvs:List Value),R v m' css tvs→Shape.fits (Shape.agg Zaz) v=true)∧∀(ax ay az a0 a1 a2 a3 a4 a5 a6 a7 a8 a9 ba:
 Int) (aa:Bool) (bf:Mem),Mem.le (Mem.off m' aw) bf→(∀(b o:Nat)(u:Value),bf b o=some u→m' b o=some u∨aw b∨Mem.free m' b)→∀(cs:List Value)(a:Option Addr)(c d:Nat)(bp:Option Addr) (bq
 bs:Nat),R (agg (Array.mk (Zak ax ay az a0 a1 a2 a3 a4 a5 a6 a7 a8 a9 ba aa))) bf [cs] [slice a c d,slice bp bq bs]→Zas (ZaG bI bE bF bG aZ bC bD aW aX aY
 mkb b bg bh)∧([none,none]:List (Option Tok))=[none,none]∧∃(n':Nat),n' < bd∧I [int i64 (IntKind.wrap i64 (n+(1:Int)))] [Zak ax ay az a0 a1 a2 a3 a4 a5 a6 a7 a8 a9 ba aa,cs] [slice a c
 d,slice bp bq bs] bf n')) (br av (∃(af:Nat→Prop),∃(R:Value→Mem→List (List Value)→List Value→Prop),CXY Try.prog 139 (Array.mk [Value.pointer (some (Addr.mk p0b p0o none)),agg (Array.mk cs),agg
 (Array.mk (Zbk ag ah ai aj ak al am an ao ap be bi bj bk))]) ae af [Box.mk mkb bl 98 2 false true] [Tok.mk (slice a c d) 4,Tok.mk (slice ab ac ad) 7] R∧(∀(t:Tok),t∈[Tok.mk (slice a c d) 4,
 Tok.mk (slice ab ac ad) 7]→∀(b:Nat),Tok.blk t=some b→af b)∧(∀(aa:Nat),af aa→(∃(t:Tok),t∈[Tok.mk (slice a c d) 4,Tok.mk (slice ab ac ad) 7]∧Tok.blk t=some aa)∨Mem.free (Mem.off m Y) aa∧(∃
 (o:Nat),∃(v:Value),ae aa o=some v)∧b≠aa∧True)∧(∀(v:Value)(m':Mem) (css:List (List Value)) (tvs:List Value),R v m' css tvs→Shape.fits (Shape.agg Zaz) v=true)∧∀(ax ay az
 a0 a1 a2 a3 a4 a5 a6 a7 a8 a9 ba:Int) (aa:Bool) (m':Mem),Mem.le (Mem.off ae af) m'→(∀(b o:Nat)(u:Value),m' b o=some u→ae b o=some u∨af b∨Mem.free ae b)→∀(cs:List Value)(a:Option Addr)
 (c d:Nat) (aq:Option Addr) (ar au:Nat),R (agg (Array.mk (Zak ax ay az a0 a1 a2 a3 a4 a5 a6 a7 a8 a9 ba aa))) m' [cs] [slice a c d,slice aq ar au]→Zas (ZaG bI bE bF
 bG aZ bC bD aW aX aY mkb b bg bh)∧([none,none]:List (Option Tok))=[none,none]∧∃(n':Nat),n' < bd∧I [int i64 (IntKind.wrap i64 (n+(1:Int)))] [Zak ax ay az a0 a1 a2 a3
 a4 a5 a6 a7 a8 a9 ba aa,cs] [slice a c d,slice aq ar au] m' n') (∃(af:Nat→Prop),∃(R:Value→Mem→List (List Value)→List Value→Prop),CXY Try.prog 139 (Array.mk [Value.pointer (some (Addr.mk p0b p0o
 none)),agg (Array.mk cs),agg (Array.mk (Zbl bC n ag ah ai aj ak al am an ao ap be bi bj bk))]) ae af [Box.mk mkb bl 98 2 false true] [Tok.mk (slice a c d) 4,Tok.mk (slice ab ac ad) 7] R∧(∀(t:
 Tok),t∈[Tok.mk (slice a c d) 4,Tok.mk (slice ab ac ad) 7]→∀(b:Nat),Tok.blk t=some b→af b)∧(∀(aa:Nat),af aa→(∃(t:Tok),t∈[Tok.mk (slice a c d) 4,Tok.mk (slice ab ac ad) 7]∧Tok.blk t=some
 aa)∨Mem.free (Mem.off m Y) aa∧(∃(o:Nat),∃(v:Value),ae aa o=some v)∧b≠aa∧True)∧(∀(v:Value)(m':Mem) (css:List (List Value)) (tvs:List Value),R v m' css tvs→Shape.fits (Shape.agg
 Zaz) v=true)∧∀(ax ay az a0 a1 a2 a3 a4 a5 a6 a7 a8 a9 ba:Int)(aa:Bool)(m':Mem),Mem.le (Mem.off ae af) m'→(∀(b o:Nat)(u:Value),m' b o=some u→ae b o=some u∨af b∨Mem.free ae
 b)→∀(cs:List Value)(a:Option Addr)(c d:Nat)(aq:Option Addr)(ar au:Nat),R (agg (Array.mk (Zak ax ay az a0 a1 a2 a3 a4 a5 a6 a7 a8 a9 ba aa))) m' [cs] [slice a c d,slice aq ar au]→
 Zas (ZaG bI bE bF bG aZ bC bD aW aX aY mkb b bg bh)∧([none,none]:List (Option Tok))=[none,none]∧∃(n':Nat),n' < bd∧I [int i64 (IntKind.wrap i64 (n+(1:Int)))]
 [Zak ax ay az a0 a1 a2 a3 a4 a5 a6 a7 a8 a9 ba aa,cs] [slice a c d,slice aq ar au] m' n'))) (chk (Nat.beq (List.length cs) 15&&Zc8 cs) (Box.mk mkb [slice t0a t0n t0c,slice t1a t1n t1c] 98 2 false
 true=Box.mk mkb [slice t0a t0n t0c,slice t1a t1n t1c] 98 2 false true∧R (agg (Array.mk cs)) m' [bt] [slice a bb c,slice bm bc bn])))
theorem Zew(p0b p0o:Nat)(bI bE bF bG aZ bC bD:Int)(aW:Option Addr)(aX aY mkb:Nat)(t0a:Option Addr)(t0n t0c:Nat)(t1a:Option Addr)(t1n t1c:Nat)(m:Mem)(Y:Nat→Prop)(R:RTY)(h:ZcX p0b p0o bI bE bF bG aZ bC bD aW aX aY mkb t0a t0n t0c t1a t1n t1c m Y R):CXY Try.prog 142 #[.pointer (some ⟨p0b,p0o,none⟩),.agg #[.int .u8 bI,.int .u64 bE,.int .u64 bF,.int .u64 bG,.int .u64 aZ,.int .i64 bC,.int .i64 bD,.slice aW aX aY]] m Y [⟨mkb,[.slice t0a t0n t0c,.slice t1a t1n t1c],98,2,false,true⟩] [⟨.slice t0a t0n t0c,4⟩,⟨.slice t1a t1n t1c,7⟩] R:=
 ZaV (E:=ZfK) ZaC mix Try.func142 [.v (.pointer (some ⟨p0b,p0o,none⟩)),.v (.agg #[.int .u8 bI,.int .u64 bE,.int .u64 bF,.int .u64 bG,.int .u64 aZ,.int .i64 bC,.int .i64 bD,.slice aW aX aY])] [⟨mkb,[.slice t0a t0n t0c,.slice t1a t1n t1c],98,2,false,true⟩] [900,901] [⟨.slice t0a t0n t0c,4⟩,⟨.slice t1a t1n t1c,7⟩] (by decide) (by kernel_rfl) (Eq.mp (by kernel_rfl) h)
end Go.Proofs.Ytplacemlpkhmfaa

