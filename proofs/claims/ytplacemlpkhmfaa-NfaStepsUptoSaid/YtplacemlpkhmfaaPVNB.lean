/- Part of the proof: conditions and contracts of functions of this program. No condition of its own. -/
import Derived.Test.YtplacemlpkhmfaaPEnv
import Derived.Test.YtplacemlpkhmfaaMc
set_option linter.unusedVariables false
namespace Go.Proofs.Ytplacemlpkhmfaa
open Go Go.Eng Go.Proofs Go.RowKit
open Go.Value (int slice agg)
open Go.IntKind (u8 u64 i64)
set_option maxRecDepth 100000
noncomputable def ZfP:Env:={ EB with
 frzNew:=[1] }
def Zc2(p0b p0o:Nat)(m:Mem)(R:RT):Prop:=
 ∀(b:Nat)(m':Mem),Mem.le m m'→Mem.reads m' b 0 [Value.pointer (some (Addr.mk p0b p0o none))]→∀(b_1:Nat),∃(m'':Mem),Mem.le m m''∧Mem.le m'' m'∧R (agg (Array.mk [Value.func (Fn.func 135) (Array.mk
 []) (Array.mk []),Value.func (Fn.func 136) (Array.mk []) (Array.mk []),Value.func (Fn.func 137) (Array.mk []) (Array.mk [Value.pointer (some (Addr.mk b 0 none))]),Value.func (Fn.func 138) (Array.mk []) (Array.mk
 [Value.pointer (some (Addr.mk b 0 none))]),Value.func (Fn.func 140) (Array.mk []) (Array.mk [Value.pointer (some (Addr.mk b 0 none))]),Value.func (Fn.func 142) (Array.mk [Value.pointer (some (Addr.mk p0b p0o none))])
 (Array.mk []),Value.func (Fn.func 143) (Array.mk []) (Array.mk [Value.pointer (some (Addr.mk b 0 none))])])) m'' []
set_option maxHeartbeats 4000000 in
theorem ZeY(p0b p0o:Nat)(m:Mem)(R:RT)(h:Zc2 p0b p0o m R):CX Try.prog 109 #[.pointer (some ⟨p0b,p0o,none⟩)] m [] R:=
 Zal (E:=ZfP) Zaz mix Try.func109 [.v (.pointer (some ⟨p0b,p0o,none⟩))] [] (by kernel_rfl) (Eq.mp (by kernel_rfl) h)
noncomputable def ZeB:Env:={ EB with
 frzNew:=[1] }
def Zcg(aR aS aT aU aA aQ aV:Int)(aO:Option Addr)(aN aP:Nat)(m:Mem)(R:RT):Prop:=
 ∀(b:Nat)(m':Mem),Mem.le m m'→Mem.reads m' b 0 [int u8 aR,int u64 aS,int u64 aT,int u64 aU,int u64 aA,int i64 aQ,int i64 aV,slice aO aN aP]→∀(b:Nat),∃(m'':Mem),Mem.le m
 m''∧Mem.le m'' m'∧R (agg (Array.mk [int u64 0,int u64 0,int u64 0,int u64 0,int u64 0,int u64 0,int u64 0,int u64 0,int u64 0,int u64 0,int u64 0,int u64 0,int u64 0,int u64 0,Value.bool true])) m'' []
theorem ZdO(aR aS aT aU aA aQ aV:Int)(aO:Option Addr)(aN aP:Nat)(m:Mem)(R:RT)(h:Zcg aR aS aT aU aA aQ aV aO aN aP m R):CX Try.prog 136 #[.agg #[.int .u8 aR,.int .u64 aS,.int .u64 aT,.int .u64 aU,.int .u64 aA,.int .i64 aQ,.int .i64 aV,.slice aO aN aP]] m [] R:=
 Zal (E:=ZeB) Zaz mix Try.func136 [.v (.agg #[.int .u8 aR,.int .u64 aS,.int .u64 aT,.int .u64 aU,.int .u64 aA,.int .i64 aQ,.int .i64 aV,.slice aO aN aP])] [] (by kernel_rfl) (Eq.mp (by kernel_rfl) h)
noncomputable def ZeC:Env:={ EB with
 dr:=(fun i=>bif Nat.beq i 3 then[⟨0,[],[],none,[],[]⟩,⟨1,[],[],none,[],[]⟩,⟨2,[],[],none,[],[]⟩,⟨3,[],[],none,[2],[]⟩,⟨4,[],[],none,[2,3],[]⟩,⟨5,[100000],[],none,[2,3,4],[]⟩,⟨6,[2],[],none,[],[]⟩,⟨7,[2],[],none,[6],[]⟩,⟨8,[19],[19],none,[6,7],[]⟩,⟨9,[19],[],some 900,[2,3,4,5,6,7,8],[8]⟩,⟨10,[],[],none,[],[]⟩,⟨11,[],[],none,[10],[]⟩,⟨12,[],[],none,[10,11],[]⟩,⟨13,[100000],[],none,[10,11,12],[]⟩,⟨14,[],[],none,[],[]⟩,⟨15,[26],[26],none,[14],[]⟩,⟨16,[26],[],some 901,[2,3,4,5,6,7,8,9,10,11,12,13,14,15],[9,15]⟩,⟨17,[],[],none,[0,2,3,4,5,6,7,8,9,10,11,12,13,14,15,16],[]⟩,⟨18,[],[],none,[0,2,3,4,5,6,7,8,9,10,11,12,13,14,15,16,17],[]⟩,⟨19,[100000],[100000],none,[0,2,3,4,5,6,7,8,9,10,11,12,13,14,15,16,17,18],[]⟩,⟨20,[],[],none,[0,1,2,3,4,5,6,7,8,9,10,11,12,13,14,15,16,17,18,19],[]⟩,⟨21,[],[],none,[0,1,2,3,4,5,6,7,8,9,10,11,12,13,14,15,16,17,18,19,20],[]⟩,⟨22,[100000],[100000],none,[0,1,2,3,4,5,6,7,8,9,10,11,12,13,14,15,16,17,18,19,20,21],[]⟩]else[])
 tokOf:=(fun i=>bif Nat.beq i 20 then 900 else bif Nat.beq i 27 then 901 else 0)
 hint:=(fun i=>bif Nat.beq i 8 then some 100000 else bif Nat.beq i 15 then some 100000 else bif Nat.beq i 23 then some 100000 else bif Nat.beq i 29 then some 100000 else bif Nat.beq i 31 then some 100000 else none)
 frzNew:=[2]
 thaw:=true }
def Zch(aR aS aT aU aA aQ aV:Int)(aO:Option Addr)(aN aP c0b c0o mkb:Nat)(t0a:Option Addr)(t0n t0c:Nat)(t1a:Option Addr)(t1n t1c:Nat)(m:Mem)(Y:Nat→Prop)(R:RTY):Prop:=
 ∀(b:Nat)(m':Mem),Mem.le m m'→Mem.reads m' b 0 [int u8 aR,int u64 aS,int u64 aT,int u64 aU,int u64 aA,int i64 aQ,int i64 aV,slice aO aN aP]→Mem.free m b→(∀(b' o:Nat) (u:
 Value),m' b' o=some u→m b' o=some u∨b'=b)→∀(b b:Nat),∃(v:Value),m' c0b c0o=some v∧chk (Zd0 v) (chk (Zd0 v) (Zmj v=mkb∧Eng.Zrv [slice t0a t0n t0c,slice t1a t1n t1c] (Zlh v+0) fun(v
 : Value)=>chk (Zdm v) (∃(ac:Value),m' c0b c0o=some ac∧∃(ae:Value),m' c0b c0o=some ae∧∃(af:Value),m' c0b c0o=some af∧chk (Zd0 af) (chk (Zd0 af) (Zmj af=mkb∧Eng.Zrv [slice t0a t0n t0c,
 slice t1a t1n t1c] (Zlh af+0) fun(aa:Value)=>∀(ad:Nat),Mem.free m' ad→chk (Zdm aa&&true) ((Tok.mk (slice t0a t0n t0c) 4=Tok.mk aa 4∨aa=slice none 0 0∨slC aa < slN aa+1)∧∃(xs:List Value),
 ∃(ys:List Value),List.length xs=slN aa*4∧List.length ys=1*4∧rowRd (Mem.add m' ad [int u64 aS,int u64 aT,int u64 aU,int u64 aA]) (slA aa) xs∧rowRd (Mem.add m' ad [int u64 aS,int u64 aT,
 int u64 aU,int u64 aA]) (some (Addr.mk ad 0 none)) ys∧(∀(u:Value),u∈ys→Value.oneCell' u=true)∧(slN aa+1)*32≤140737488355328∧slN aa+1≤9223372036854775807∧∀(a':Option Addr)(c':Nat)
 (ah:Mem),Mem.le (Mem.add m' ad [int u64 aS,int u64 aT,int u64 aU,int u64 aA]) ah→rowRd ah a' (List.append xs ys)→TokFact (Mem.add m' ad [int u64 aS,int u64 aT,int u64 aU,int u64 aA]) (slA
 aa) a' (slN aa+1) c'→∃(ag:Value),m' c0b c0o=some ag∧chk (Zd0 ag) (chk (Zd0 ag) (Zmj ag=mkb∧Eng.Zrv [slice t0a t0n t0c,slice t1a t1n t1c] (Zlh ag+1) fun(ab:Value)=>∀(ai:Nat),Mem.free m'
 ai→∀(V:Mem),Mem.le m' V→Mem.le ah V→Mem.le (Mem.add m' ai [int u64 0,int u64 0,int u64 0,int u64 0,int u64 0,int u64 0,int u64 0]) V→chk (Zdm ab&&true) ((Tok.mk (slice t1a t1n t1c) 7=Tok.mk ab 7∨
 ab=slice none 0 0∨slC ab < slN ab+1)∧∃(xs:List Value),∃(ys:List Value),List.length xs=slN ab*7∧List.length ys=1*7∧rowRd V (slA ab) xs∧rowRd V (some (Addr.mk ai 0 none)) ys∧(∀(u:Value),
 u∈ys→Value.oneCell' u=true)∧(slN ab+1)*56≤140737488355328∧slN ab+1≤9223372036854775807∧∀(aj:Option Addr)(ak:Nat)(al:Mem),Mem.le V al→rowRd al aj (List.append xs ys)→TokFact V (slA ab)
 aj (slN ab+1) ak→chk (Zd0 ac) (chk (Zd0 ac) (Zmj ac=mkb∧Zlh ac+0+1≤1+1∧chk (Zd0 ae) (chk (Zd0 ae) (Zmj ae=mkb∧Zlh ae+1+1≤List.length (Zan [slice t0a t0n t0c,slice t1a t1n t1c]
 (Zlh ac+0) [slice a' (slN aa+1) c'])∧∀(M:Mem),Mem.le m' M→Mem.le (Mem.add m' ad [int u64 aS,int u64 aT,int u64 aU,int u64 aA]) M→Mem.le ah M→Mem.le (Mem.add m' ai [int u64 0,int u64 0,int
 u64 0,int u64 0,int u64 0,int u64 0,int u64 0]) M→Mem.le al M→∃(R_1:RT),True∧CX Try.prog 116 (Array.mk [Value.pointer (some (Addr.mk b 0 none)),int i64 (↑(slN v):Int)]) M [Box.mk b [int u64 0,int u64
 0,int u64 0,int u64 0,int u64 0,int u64 0,int u64 0,int u64 0,int u64 0,int u64 0,int u64 0,int u64 0,int u64 0,int u64 0,Value.bool false] 102 15 false true] R_1∧ZaF (Shape.tup []) R_1∧∀(m':Mem),
 Mem.le M m'→∀(cs:List Value),R_1 (Value.tuple (Array.mk [])) m' [cs]→∃(R_2:RT),True∧CX Try.prog 116 (Array.mk [Value.pointer (some (Addr.mk b 7 none)),int i64 (↑(slN v):Int)]) m' [Box.mk b cs 102 15
 false true] R_2∧ZaF (Shape.tup []) R_2∧∀(am:Mem),Mem.le m' am→∀(cs:List Value),R_2 (Value.tuple (Array.mk [])) am [cs]→chk (Nat.beq (List.length cs) 15&&Zcq cs) (Box.mk mkb [slice t0a t0n t0c,slice
 t1a t1n t1c] 98 2 false true=Box.mk mkb [slice t0a t0n t0c,slice t1a t1n t1c] 98 2 false true∧R (agg (Array.mk cs)) am [Zan (Zan [slice t0a t0n t0c,slice t1a t1n t1c] (Zlh ac+0) [slice a' (slN aa+1)
 c']) (Zlh ae+1) [slice aj (slN ab+1) ak]] [slice a' (slN aa+1) c',slice aj (slN ab+1) ak]))))))))))))))
theorem Zdz(aR aS aT aU aA aQ aV:Int)(aO:Option Addr)(aN aP c0b c0o mkb:Nat)(t0a:Option Addr)(t0n t0c:Nat)(t1a:Option Addr)(t1n t1c:Nat)(m:Mem)(Y:Nat→Prop)(R:RTY)(h:Zch aR aS aT aU aA aQ aV aO aN aP c0b c0o mkb t0a t0n t0c t1a t1n t1c m Y R):CXY Try.prog 137 #[.agg #[.int .u8 aR,.int .u64 aS,.int .u64 aT,.int .u64 aU,.int .u64 aA,.int .i64 aQ,.int .i64 aV,.slice aO aN aP],.pointer (some ⟨c0b,c0o,none⟩)] m Y [⟨mkb,[.slice t0a t0n t0c,.slice t1a t1n t1c],98,2,false,true⟩] [⟨.slice t0a t0n t0c,4⟩,⟨.slice t1a t1n t1c,7⟩] R:=
 ZaL (E:=ZeC) Zaz mix Try.func137 [.v (.agg #[.int .u8 aR,.int .u64 aS,.int .u64 aT,.int .u64 aU,.int .u64 aA,.int .i64 aQ,.int .i64 aV,.slice aO aN aP]),.v (.pointer (some ⟨c0b,c0o,none⟩))] [⟨mkb,[.slice t0a t0n t0c,.slice t1a t1n t1c],98,2,false,true⟩] [900,901] [⟨.slice t0a t0n t0c,4⟩,⟨.slice t1a t1n t1c,7⟩] (by decide) (by kernel_rfl) (Eq.mp (by kernel_rfl) h)
noncomputable def ZgC:Env:={ EB with
 loops:=(fun i=>bif Nat.beq i 3 then⟨[(8,.int .i64)],[],[(901,7)],false⟩ else⟨[],[],[],false⟩)
 dr:=(fun i=>bif Nat.beq i 3 then[⟨0,[3],[],none,[],[]⟩,⟨1,[],[],none,[0],[]⟩,⟨2,[],[],none,[0,1],[]⟩,⟨3,[100000],[],none,[0,1,2],[]⟩,⟨4,[],[],none,[],[]⟩,⟨5,[],[],none,[0,1,2,3,4],[]⟩,⟨6,[5],[],none,[],[]⟩]else[])
 hint:=(fun i=>bif Nat.beq i 11 then some 100000 else none)
 frzNew:=[3,4,5]
 last:=(fun i=>bif Nat.beq i 3 then true else false)
 lastK:=(fun i=>bif Nat.beq i 3 then 1 else 1)
 thaw:=true
 lentC:=(fun i=>bif Nat.beq i 16 then some [(901,7)]else none) }
def Zdh(p0b p0o:Nat)(bX bG bH bI aW aZ bD eM eO eP eQ eR eT eU:Int)(mkb:Nat)(t0a:Option Addr)(t0n t0c:Nat)(t1a:Option Addr)(t1n t1c:Nat)(m:Mem)(Y:Nat→Prop)(R:RTY):Prop:=
 ∀(b:Nat)(m':Mem),Mem.le m m'→Mem.reads m' b 0 [Value.pointer (some (Addr.mk p0b p0o none))]→Mem.free m b→(∀(b' o:Nat)(u:Value),m' b' o=some u→m b' o=some u∨b'=b)→∀(ab:Nat)(ac:Mem),
 Mem.le m' ac→Mem.reads ac ab 0 [int u64 bX,int u64 bG,int u64 bH,int u64 bI,int u64 aW,int u64 aZ,int u64 bD]→Mem.free m' ab→(∀(b' o:Nat)(u:Value),ac b' o=some u→m' b' o=some u∨
 b'=ab)→∀(ad:Nat)(m':Mem),Mem.le ac m'→Mem.reads m' ad 0 [int u64 eM,int u64 eO,int u64 eP,int u64 eQ,int u64 eR,int u64 eT,int u64 eU]→Mem.free ac ad→(∀(b' o:Nat)(u:Value),m'
 b' o=some u→ac b' o=some u∨b'=ad)→∃(R_1:RT),True∧CX Try.prog 111 (Array.mk [Value.pointer (some (Addr.mk ab 0 none))]) m' [] R_1∧ZaF Shape.fn R_1∧∀(g:Nat)(fi ca:List Value)(ag:Mem),
 Mem.le m' ag→R_1 (Value.func (Fn.func g) (Array.mk fi) (Array.mk ca)) ag []→∃(mi:Mem),Mem.le mi ag∧∃(xs:List (List Value)),IX Try.prog g fi ca mi xs∧(∀(x:List Value),x∈xs→Shape.fitsL [Shape.int
 i64] x=true)∧∃(I:IT),I [] [] [slice t1a t1n t1c] ag 0∧(∀(n:Int)(a:Option Addr)(ah c:Nat)(m':Mem)(ai:Nat),Mem.le mi m'→List.get?Internal xs ai=some [int i64 n]→I [] [] [slice a ah c] m' ai
 → ∃(f:Fx),p0b=mkb∧Eng.Zrv [slice t0a t0n t0c,slice t1a t1n t1c] (p0o+1) fun(v:Value)=>chk (Zdm v) (∃(aj:Nat),∃(o:Nat),slA v=some (Addr.mk aj o none)∧Zag n (slN v)∧∃(ae:Nat→Prop),
 ∃(R:Value→Mem→List (List Value)→List Value→Prop),CXY Try.prog 141 (Array.mk [ptr aj (o+Int.toNat n*7),agg (Array.mk [int u64 eM,int u64 eO,int u64 eP,int u64 eQ,int u64 eR,int u64 eT,
 int u64 eU])]) m' ae [] [Tok.mk (slice a ah c) 7] R∧(∀(t:Tok),t∈[Tok.mk (slice a ah c) 7]→∀(b:Nat),Tok.blk t=some b→ae b)∧(∀(aa:Nat),ae aa→(∃(t:Tok),t∈[Tok.mk (slice a ah c) 7]∧
 Tok.blk t=some aa)∨Mem.free (Mem.off m Y) aa∧(∃(o:Nat),∃(v:Value),m' aa o=some v)∧ad≠aa∧ab≠aa∧b≠aa∧Tok.blk (Tok.mk (slice t0a t0n t0c) 4)≠some aa∧True)∧(∀(v:Value)(m':Mem) (css
 : List (List Value)) (tvs:List Value),R v m' css tvs→Shape.fits (Shape.tup []) v=true)∧∀(af:Mem),Mem.le (Mem.off m' ae) af→(∀(b o:Nat)(u:Value),af b o=some u→m' b o=some u∨ae b∨Mem.free
 m' b)→∀(a:Option Addr)(c d:Nat),R (Value.tuple (Array.mk [])) af [] [slice a c d]→Mem.le mi af∧[some (Box.mk ad [int u64 eM,int u64 eO,int u64 eP,int u64 eQ,int u64 eR,int u64 eT,int u64
 eU] 100 7 true true),some (Box.mk ab [int u64 bX,int u64 bG,int u64 bH,int u64 bI,int u64 aW,int u64 aZ,int u64 bD] 100 7 true true),some (Box.mk b [Value.pointer (some (Addr.mk p0b p0o none))]
 95 1 true true),some (Box.mk mkb [slice t0a t0n t0c,slice t1a t1n t1c] 98 2 false true)]=[some (Box.mk ad [int u64 eM,int u64 eO,int u64 eP,int u64 eQ,int u64 eR,int u64 eT,int u64 eU] 100 7 true
 true),some (Box.mk ab [int u64 bX,int u64 bG,int u64 bH,int u64 bI,int u64 aW,int u64 aZ,int u64 bD] 100 7 true true),some (Box.mk b [Value.pointer (some (Addr.mk p0b p0o none))] 95 1 true true),
 some (Box.mk mkb [slice t0a t0n t0c,slice t1a t1n t1c] 98 2 false true)]∧[some (Tok.mk (slice t0a t0n t0c) 4),none]=[some (Tok.mk (slice t0a t0n t0c) 4),none]∧I [] [] [slice a c d] af (ai+1)))∧∀(a:Option
 Addr) (n c:Nat) (m':Mem),Mem.le mi m'→I [] [] [slice a n c] m' (List.length xs)→Box.mk mkb [slice t0a t0n t0c,slice t1a t1n t1c] 98 2 false true=Box.mk mkb [slice t0a t0n t0c,slice t1a t1n t1c] 98 2 false
 true∧R (Value.tuple (Array.mk [])) m' [[slice t0a t0n t0c,slice t1a t1n t1c]] [slice t0a t0n t0c,slice a n c]
theorem ZeZ(p0b p0o:Nat)(bX bG bH bI aW aZ bD eM eO eP eQ eR eT eU:Int)(mkb:Nat)(t0a:Option Addr)(t0n t0c:Nat)(t1a:Option Addr)(t1n t1c:Nat)(m:Mem)(Y:Nat→Prop)(R:RTY)(h:Zdh p0b p0o bX bG bH bI aW aZ bD eM eO eP eQ eR eT eU mkb t0a t0n t0c t1a t1n t1c m Y R):CXY Try.prog 164 #[.pointer (some ⟨p0b,p0o,none⟩),.agg #[.int .u64 bX,.int .u64 bG,.int .u64 bH,.int .u64 bI,.int .u64 aW,.int .u64 aZ,.int .u64 bD],.agg #[.int .u64 eM,.int .u64 eO,.int .u64 eP,.int .u64 eQ,.int .u64 eR,.int .u64 eT,.int .u64 eU]] m Y [⟨mkb,[.slice t0a t0n t0c,.slice t1a t1n t1c],98,2,false,true⟩] [⟨.slice t0a t0n t0c,4⟩,⟨.slice t1a t1n t1c,7⟩] R:=
 ZaL (E:=ZgC) Zaz mix Try.func164 [.v (.pointer (some ⟨p0b,p0o,none⟩)),.v (.agg #[.int .u64 bX,.int .u64 bG,.int .u64 bH,.int .u64 bI,.int .u64 aW,.int .u64 aZ,.int .u64 bD]),.v (.agg #[.int .u64 eM,.int .u64 eO,.int .u64 eP,.int .u64 eQ,.int .u64 eR,.int .u64 eT,.int .u64 eU])] [⟨mkb,[.slice t0a t0n t0c,.slice t1a t1n t1c],98,2,false,true⟩] [900,901] [⟨.slice t0a t0n t0c,4⟩,⟨.slice t1a t1n t1c,7⟩] (by decide) (by kernel_rfl) (Eq.mp (by kernel_rfl) h)
noncomputable def ZgD:Env:={ EB with
 borrow:=(fun i=>bif Nat.beq i 13 then[100000]else[])
 frzNew:=[4,5]
 thaw:=true
 lentC:=(fun i=>bif Nat.beq i 13 then some [(900,4),(901,7)]else none) }
def Zdi(p0b p0o:Nat)(bX bG bH bI aW aZ bD ie ig ii fJ fK fL fM:Int)(gk:Bool)(eM eO eP eQ eR eT eU gL gM gN eV eW eZ fC:Int)(dW:Bool)(mkb:Nat)(t0a:Option Addr)(t0n t0c:Nat)(t1a:Option Addr)(t1n t1c:Nat)(m:Mem)(Y:Nat→Prop)(R:RTY):Prop:=
 ∀(b:Nat)(m':Mem),Mem.le m m'→Mem.reads m' b 0 [int u64 bX,int u64 bG,int u64 bH,int u64 bI,int u64 aW,int u64 aZ,int u64 bD,int u64 ie,int u64 ig,int u64 ii,int u64 fJ,int u64
 fK,int u64 fL,int u64 fM,Value.bool gk]→Mem.free m b→(∀(b' o:Nat)(u:Value),m' b' o=some u→m b' o=some u∨b'=b)→∀(aj:Nat)(ag:Mem),Mem.le m' ag→Mem.reads ag aj 0 [int u64
 eM,int u64 eO,int u64 eP,int u64 eQ,int u64 eR,int u64 eT,int u64 eU,int u64 gL,int u64 gM,int u64 gN,int u64 eV,int u64 eW,int u64 eZ,int u64 fC,Value.bool dW]→
 Mem.free m' aj→(∀(b' o:Nat)(u:Value),ag b' o=some u→m' b' o=some u∨b'=aj)→∀(ak:Nat),∃(ai:Nat→Prop),∃(R_1:Value→Mem→List (List Value)→List Value→Prop),CXY Try.prog 164 (Array.mk
 [Value.pointer (some (Addr.mk p0b p0o none)),agg (Array.mk [int u64 ie,int u64 ig,int u64 ii,int u64 fJ,int u64 fK,int u64 fL,int u64 fM]),agg (Array.mk [int u64 eM,int u64 eO,int u64
 eP,int u64 eQ,int u64 eR,int u64 eT,int u64 eU])]) ag ai [Box.mk mkb [slice t0a t0n t0c,slice t1a t1n t1c] 98 2 false true] [Tok.mk (slice t0a t0n t0c) 4,Tok.mk (slice t1a t1n t1c) 7] R_1∧(∀(t:Tok),
 t∈[Tok.mk (slice t0a t0n t0c) 4,Tok.mk (slice t1a t1n t1c) 7]→∀(b:Nat),Tok.blk t=some b→ai b)∧(∀(ah:Nat),ai ah→(∃(t:Tok),t∈[Tok.mk (slice t0a t0n t0c) 4,Tok.mk (slice t1a t1n t1c) 7]∧
 Tok.blk t=some ah)∨Mem.free (Mem.off m Y) ah∧(∃(o:Nat),∃(v:Value),ag ah o=some v)∧aj≠ah∧b≠ah∧True)∧(∀(v:Value)(m':Mem) (css:List (List Value)) (tvs:List Value),R_1 v m' css tvs→
 Shape.fits (Shape.tup []) v=true)∧∀(m':Mem),Mem.le (Mem.off ag ai) m'→(∀(b o:Nat)(u:Value),m' b o=some u→ag b o=some u∨ai b∨Mem.free ag b)→∀(cs:List Value)(a:Option Addr)(c d:Nat)
 (ac:Option Addr) (ad ae:Nat),R_1 (Value.tuple (Array.mk [])) m' [cs] [slice a c d,slice ac ad ae]→br gk (∀(b:Nat),br gk (∃(R_2:RT),True∧CX Try.prog 141 (Array.mk [Value.pointer (some (Addr.mk b 0
 none)),agg (Array.mk [int u64 eM,int u64 eO,int u64 eP,int u64 eQ,int u64 eR,int u64 eT,int u64 eU])]) m' [Box.mk b [int u64 bX,int u64 bG,int u64 bH,int u64 bI,int u64 aW,int u64
 aZ,int u64 bD,int u64 gL,int u64 gM,int u64 gN,int u64 eV,int u64 eW,int u64 eZ,int u64 fC,Value.bool dW] 102 15 false true] R_2∧ZaF (Shape.tup []) R_2∧∀(ab:Mem),Mem.le m' ab→
 ∀(aa:List Value),R_2 (Value.tuple (Array.mk [])) ab [aa]→br dW (∃(R_3:RT),True∧CX Try.prog 141 (Array.mk [Value.pointer (some (Addr.mk b 7 none)),agg (Array.mk [int u64 ie,int u64 ig,int u64 ii,
 int u64 fJ,int u64 fK,int u64 fL,int u64 fM])]) ab [Box.mk b aa 102 15 false true] R_3∧ZaF (Shape.tup []) R_3∧∀(m':Mem),Mem.le ab m'→∀(af:List Value),R_3 (Value.tuple (Array.mk [])) m' [af]
 → chk (Nat.beq (List.length af) 15&&Zcq af) (Box.mk mkb [slice t0a t0n t0c,slice t1a t1n t1c] 98 2 false true=Box.mk mkb [slice t0a t0n t0c,slice t1a t1n t1c] 98 2 false true∧R (agg (Array.mk af)) m' [cs]
 [slice a c d,slice ac ad ae])) (chk (Nat.beq (List.length aa) 15&&Zcq aa) (Box.mk mkb [slice t0a t0n t0c,slice t1a t1n t1c] 98 2 false true=Box.mk mkb [slice t0a t0n t0c,slice t1a t1n t1c] 98 2 false true∧R
 (agg (Array.mk aa)) ab [cs] [slice a c d,slice ac ad ae]))) (br dW (∃(R_2:RT),True∧CX Try.prog 141 (Array.mk [Value.pointer (some (Addr.mk b 7 none)),agg (Array.mk [int u64 ie,int u64 ig,int u64 ii,
 int u64 fJ,int u64 fK,int u64 fL,int u64 fM])]) m' [Box.mk b [int u64 bX,int u64 bG,int u64 bH,int u64 bI,int u64 aW,int u64 aZ,int u64 bD,int u64 gL,int u64 gM,int u64 gN,
 int u64 eV,int u64 eW,int u64 eZ,int u64 fC,Value.bool dW] 102 15 false true] R_2∧ZaF (Shape.tup []) R_2∧∀(ab:Mem),Mem.le m' ab→∀(aa:List Value),R_2 (Value.tuple (Array.mk [])) ab [aa]
 → chk (Nat.beq (List.length aa) 15&&Zcq aa) (Box.mk mkb [slice t0a t0n t0c,slice t1a t1n t1c] 98 2 false true=Box.mk mkb [slice t0a t0n t0c,slice t1a t1n t1c] 98 2 false true∧R (agg (Array.mk aa)) ab [cs]
 [slice a c d,slice ac ad ae])) (Box.mk mkb [slice t0a t0n t0c,slice t1a t1n t1c] 98 2 false true=Box.mk mkb [slice t0a t0n t0c,slice t1a t1n t1c] 98 2 false true∧R (agg (Array.mk [int u64 bX,int u64 bG,int
 u64 bH,int u64 bI,int u64 aW,int u64 aZ,int u64 bD,int u64 gL,int u64 gM,int u64 gN,int u64 eV,int u64 eW,int u64 eZ,int u64 fC,Value.bool dW])) m' [cs] [slice a c d,slice ac
 ad ae]))) (∀(b:Nat),br gk (∃(R_2:RT),True∧CX Try.prog 141 (Array.mk [Value.pointer (some (Addr.mk b 0 none)),agg (Array.mk [int u64 eM,int u64 eO,int u64 eP,int u64 eQ,int u64 eR,int u64
 eT,int u64 eU])]) m' [Box.mk b [int u64 bX,int u64 bG,int u64 bH,int u64 bI,int u64 aW,int u64 aZ,int u64 bD,int u64 gL,int u64 gM,int u64 gN,int u64 eV,int u64 eW,int u64
 eZ,int u64 fC,Value.bool false] 102 15 false true] R_2∧ZaF (Shape.tup []) R_2∧∀(ab:Mem),Mem.le m' ab→∀(aa:List Value),R_2 (Value.tuple (Array.mk [])) ab [aa]→br dW (∃(R_3:RT),True∧CX
 Try.prog 141 (Array.mk [Value.pointer (some (Addr.mk b 7 none)),agg (Array.mk [int u64 ie,int u64 ig,int u64 ii,int u64 fJ,int u64 fK,int u64 fL,int u64 fM])]) ab [Box.mk b aa 102 15 false true]
 R_3∧ZaF (Shape.tup []) R_3∧∀(m':Mem),Mem.le ab m'→∀(af:List Value),R_3 (Value.tuple (Array.mk [])) m' [af]→chk (Nat.beq (List.length af) 15&&Zcq af) (Box.mk mkb [slice t0a t0n t0c,slice t1a t1n
 t1c] 98 2 false true=Box.mk mkb [slice t0a t0n t0c,slice t1a t1n t1c] 98 2 false true∧R (agg (Array.mk af)) m' [cs] [slice a c d,slice ac ad ae])) (chk (Nat.beq (List.length aa) 15&&Zcq aa) (Box.mk mkb [slice
 t0a t0n t0c,slice t1a t1n t1c] 98 2 false true=Box.mk mkb [slice t0a t0n t0c,slice t1a t1n t1c] 98 2 false true∧R (agg (Array.mk aa)) ab [cs] [slice a c d,slice ac ad ae]))) (br dW (∃(R_2:RT),True∧CX
 Try.prog 141 (Array.mk [Value.pointer (some (Addr.mk b 7 none)),agg (Array.mk [int u64 ie,int u64 ig,int u64 ii,int u64 fJ,int u64 fK,int u64 fL,int u64 fM])]) m' [Box.mk b [int u64 bX,int
 u64 bG,int u64 bH,int u64 bI,int u64 aW,int u64 aZ,int u64 bD,int u64 gL,int u64 gM,int u64 gN,int u64 eV,int u64 eW,int u64 eZ,int u64 fC,Value.bool false] 102 15 false true]
 R_2∧ZaF (Shape.tup []) R_2∧∀(ab:Mem),Mem.le m' ab→∀(aa:List Value),R_2 (Value.tuple (Array.mk [])) ab [aa]→chk (Nat.beq (List.length aa) 15&&Zcq aa) (Box.mk mkb [slice t0a t0n t0c,slice t1a t1n
 t1c] 98 2 false true=Box.mk mkb [slice t0a t0n t0c,slice t1a t1n t1c] 98 2 false true∧R (agg (Array.mk aa)) ab [cs] [slice a c d,slice ac ad ae])) (Box.mk mkb [slice t0a t0n t0c,slice t1a t1n t1c] 98 2 false true
 = Box.mk mkb [slice t0a t0n t0c,slice t1a t1n t1c] 98 2 false true∧R (agg (Array.mk [int u64 bX,int u64 bG,int u64 bH,int u64 bI,int u64 aW,int u64 aZ,int u64 bD,int u64 gL,int u64 gM,int
 u64 gN,int u64 eV,int u64 eW,int u64 eZ,int u64 fC,Value.bool false])) m' [cs] [slice a c d,slice ac ad ae])))
theorem Ze0(p0b p0o:Nat)(bX bG bH bI aW aZ bD ie ig ii fJ fK fL fM:Int)(gk:Bool)(eM eO eP eQ eR eT eU gL gM gN eV eW eZ fC:Int)(dW:Bool)(mkb:Nat)(t0a:Option Addr)(t0n t0c:Nat)(t1a:Option Addr)(t1n t1c:Nat)(m:Mem)(Y:Nat→Prop)(R:RTY)(h:Zdi p0b p0o bX bG bH bI aW aZ bD ie ig ii fJ fK fL fM gk eM eO eP eQ eR eT eU gL gM gN eV eW eZ fC dW mkb t0a t0n t0c t1a t1n t1c m Y R):CXY Try.prog 139 #[.pointer (some ⟨p0b,p0o,none⟩),.agg #[.int .u64 bX,.int .u64 bG,.int .u64 bH,.int .u64 bI,.int .u64 aW,.int .u64 aZ,.int .u64 bD,.int .u64 ie,.int .u64 ig,.int .u64 ii,.int .u64 fJ,.int .u64 fK,.int .u64 fL,.int .u64 fM,.bool gk],.agg #[.int .u64 eM,.int .u64 eO,.int .u64 eP,.int .u64 eQ,.int .u64 eR,.int .u64 eT,.int .u64 eU,.int .u64 gL,.int .u64 gM,.int .u64 gN,.int .u64 eV,.int .u64 eW,.int .u64 eZ,.int .u64 fC,.bool dW]] m Y [⟨mkb,[.slice t0a t0n t0c,.slice t1a t1n t1c],98,2,false,true⟩] [⟨.slice t0a t0n t0c,4⟩,⟨.slice t1a t1n t1c,7⟩] R:=
 ZaL (E:=ZgD) Zaz mix Try.func139 [.v (.pointer (some ⟨p0b,p0o,none⟩)),.v (.agg #[.int .u64 bX,.int .u64 bG,.int .u64 bH,.int .u64 bI,.int .u64 aW,.int .u64 aZ,.int .u64 bD,.int .u64 ie,.int .u64 ig,.int .u64 ii,.int .u64 fJ,.int .u64 fK,.int .u64 fL,.int .u64 fM,.bool gk]),.v (.agg #[.int .u64 eM,.int .u64 eO,.int .u64 eP,.int .u64 eQ,.int .u64 eR,.int .u64 eT,.int .u64 eU,.int .u64 gL,.int .u64 gM,.int .u64 gN,.int .u64 eV,.int .u64 eW,.int .u64 eZ,.int .u64 fC,.bool dW])] [⟨mkb,[.slice t0a t0n t0c,.slice t1a t1n t1c],98,2,false,true⟩] [900,901] [⟨.slice t0a t0n t0c,4⟩,⟨.slice t1a t1n t1c,7⟩] (by decide) (by kernel_rfl) (Eq.mp (by kernel_rfl) h)
noncomputable def Ze1:Env:={ EB with
 dr:=(fun i=>bif Nat.beq i 1 then[⟨0,[],[],none,[],[]⟩,⟨1,[],[],none,[0],[]⟩,⟨2,[3],[],none,[],[]⟩,⟨3,[3],[],none,[2],[]⟩,⟨4,[],[],none,[0,1,2,3],[]⟩,⟨5,[3],[],none,[],[]⟩]else[])
 borrow:=(fun i=>bif Nat.beq i 11 then[100000]else[])
 frzNew:=[3]
 last:=(fun i=>bif Nat.beq i 1 then true else false)
 lastK:=(fun i=>bif Nat.beq i 1 then 2 else 1)
 thaw:=true
 lentC:=(fun i=>bif Nat.beq i 11 then some [(900,4),(901,7)]else none) }
def Zcw(p0b p0o:Nat)(bG bH bI aW aZ bD:Int)(aX:Option Addr)(aY bC mkb:Nat)(t0a:Option Addr)(t0n t0c:Nat)(t1a:Option Addr)(t1n t1c:Nat)(m:Mem)(Y:Nat→Prop)(R:RTY):Prop:=
 ∀(b:Nat)(m':Mem),Mem.le m m'→Mem.reads m' b 0 [int u8 1,int u64 bG,int u64 bH,int u64 bI,int u64 aW,int i64 aZ,int i64 bD,slice aX aY bC]→Mem.free m b→(∀(b' o:Nat) (u:
 Value),m' b' o=some u→m b' o=some u∨b'=b)→∀(bd:Nat),∃(f:Fx),∃(R_1:RT),R_1=f 1 [Value.pointer (some (Addr.mk p0b p0o none))] m'∧CX Try.prog 109 (Array.mk [Value.pointer (some (Addr.mk p0b p0o
 none))]) m' [] R_1∧ZaF (Shape.agg [Shape.fn,Shape.fn,Shape.fn,Shape.fn,Shape.fn,Shape.fn,Shape.fn]) R_1∧∀(g:Nat)(fi ca:List Value)(ad:Nat)(ae af:List Value)(ay:Nat)(az a0:List Value) (a1:
 Nat) (a2 a3:List Value) (a4:Nat) (a5 a6:List Value) (a7:Nat) (a8 a9:List Value) (ba:Nat) (bb bc:List Value) (ac:Mem),Mem.le m' ac→R_1 (agg (Array.mk [Value.func (Fn.func g) (Array.mk fi) (Array.mk
 ca),Value.func (Fn.func ad) (Array.mk ae) (Array.mk af),Value.func (Fn.func ay) (Array.mk az) (Array.mk a0),Value.func (Fn.func a1) (Array.mk a2) (Array.mk a3),Value.func (Fn.func a4) (Array.mk a5) (Array.mk a6),
 Value.func (Fn.func a7) (Array.mk a8) (Array.mk a9),Value.func (Fn.func ba) (Array.mk bb) (Array.mk bc)])) ac []→Zag (1:Int) 7∧∀(M:Mem),Mem.le m' M→Mem.le ac M→∃(aa:Nat→Prop),∃(R_2:Value→
 Mem→List (List Value)→List Value→Prop),CXY Try.prog ad (Array.mk (List.append (List.append ae [agg (Array.mk [int u8 1,int u64 bG,int u64 bH,int u64 bI,int u64 aW,int i64 aZ,int i64 bD,slice
 aX aY bC])]) af)) M aa [Box.mk mkb [slice t0a t0n t0c,slice t1a t1n t1c] 98 2 false true] [Tok.mk (slice t0a t0n t0c) 4,Tok.mk (slice t1a t1n t1c) 7] R_2∧(∀(t:Tok),t∈[Tok.mk (slice t0a t0n t0c) 4,
 Tok.mk (slice t1a t1n t1c) 7]→∀(b:Nat),Tok.blk t=some b→aa b)∧(∀(ab:Nat),aa ab→(∃(t:Tok),t∈[Tok.mk (slice t0a t0n t0c) 4,Tok.mk (slice t1a t1n t1c) 7]∧Tok.blk t=some ab)∨Mem.free (Mem.off
 m Y) ab∧(∃(o:Nat),∃(v:Value),M ab o=some v)∧b≠ab∧True)∧(∀(v:Value)(m':Mem) (css:List (List Value)) (tvs:List Value),R_2 v m' css tvs→Shape.fits (Shape.agg [Shape.int u64,Shape.int u64,
 Shape.int u64,Shape.int u64,Shape.int u64,Shape.int u64,Shape.int u64,Shape.int u64,Shape.int u64,Shape.int u64,Shape.int u64,Shape.int u64,Shape.int u64,Shape.int u64,Shape.bool]) v=true)∧∀(n ag ah ai
 aj ak al am an ao ap aq ar au:Int) (b:Bool) (m':Mem),Mem.le (Mem.off M aa) m'→(∀(b o:Nat)(u:Value),m' b o=some u→M b o=some u∨aa b∨Mem.free M b)→∀(cs:List Value)(a:Option Addr) (c d:
 Nat) (av:Option Addr) (aw ax:Nat),R_2 (agg (Array.mk [int u64 n,int u64 ag,int u64 ah,int u64 ai,int u64 aj,int u64 ak,int u64 al,int u64 am,int u64 an,int u64 ao,int u64 ap,int u64 aq,int u64 ar,int
 u64 au,Value.bool b])) m' [cs] [slice a c d,slice av aw ax]→Box.mk mkb [slice t0a t0n t0c,slice t1a t1n t1c] 98 2 false true=Box.mk mkb [slice t0a t0n t0c,slice t1a t1n t1c] 98 2 false true∧R (agg (Array.mk
 [int u64 n,int u64 ag,int u64 ah,int u64 ai,int u64 aj,int u64 ak,int u64 al,int u64 am,int u64 an,int u64 ao,int u64 ap,int u64 aq,int u64 ar,int u64 au,Value.bool b])) m' [cs] [slice a c d,slice av aw
 ax]
theorem ZdP(p0b p0o:Nat)(bG bH bI aW aZ bD:Int)(aX:Option Addr)(aY bC mkb:Nat)(t0a:Option Addr)(t0n t0c:Nat)(t1a:Option Addr)(t1n t1c:Nat)(m:Mem)(Y:Nat→Prop)(R:RTY)(h:Zcw p0b p0o bG bH bI aW aZ bD aX aY bC mkb t0a t0n t0c t1a t1n t1c m Y R):CXY Try.prog 61 #[.pointer (some ⟨p0b,p0o,none⟩),.agg #[.int .u8 1,.int .u64 bG,.int .u64 bH,.int .u64 bI,.int .u64 aW,.int .i64 aZ,.int .i64 bD,.slice aX aY bC]] m Y [⟨mkb,[.slice t0a t0n t0c,.slice t1a t1n t1c],98,2,false,true⟩] [⟨.slice t0a t0n t0c,4⟩,⟨.slice t1a t1n t1c,7⟩] R:=
 ZaL (E:=Ze1) Zaz mix Try.func61 [.v (.pointer (some ⟨p0b,p0o,none⟩)),.v (.agg #[.int .u8 1,.int .u64 bG,.int .u64 bH,.int .u64 bI,.int .u64 aW,.int .i64 aZ,.int .i64 bD,.slice aX aY bC])] [⟨mkb,[.slice t0a t0n t0c,.slice t1a t1n t1c],98,2,false,true⟩] [900,901] [⟨.slice t0a t0n t0c,4⟩,⟨.slice t1a t1n t1c,7⟩] (by decide) (by kernel_rfl) (Eq.mp (by kernel_rfl) h)
noncomputable def Ze2:Env:={ EB with
 dr:=(fun i=>bif Nat.beq i 1 then[⟨0,[],[],none,[],[]⟩,⟨1,[],[],none,[0],[]⟩,⟨2,[3],[],none,[],[]⟩,⟨3,[3],[],none,[2],[]⟩,⟨4,[],[],none,[0,1,2,3],[]⟩,⟨5,[3],[],none,[],[]⟩]else[])
 borrow:=(fun i=>bif Nat.beq i 11 then[100000]else[])
 frzNew:=[3]
 last:=(fun i=>bif Nat.beq i 1 then true else false)
 lastK:=(fun i=>bif Nat.beq i 1 then 2 else 1)
 thaw:=true
 lentC:=(fun i=>bif Nat.beq i 11 then some [(900,4),(901,7)]else none) }
def Zcx(p0b p0o:Nat)(bG bH bI aW aZ bD:Int)(aX:Option Addr)(aY bC mkb:Nat)(t0a:Option Addr)(t0n t0c:Nat)(t1a:Option Addr)(t1n t1c:Nat)(m:Mem)(Y:Nat→Prop)(R:RTY):Prop:=
 ∀(b:Nat)(m':Mem),Mem.le m m'→Mem.reads m' b 0 [int u8 2,int u64 bG,int u64 bH,int u64 bI,int u64 aW,int i64 aZ,int i64 bD,slice aX aY bC]→Mem.free m b→(∀(b' o:Nat) (u:
 Value),m' b' o=some u→m b' o=some u∨b'=b)→∀(bd:Nat),∃(f:Fx),∃(R_1:RT),R_1=f 1 [Value.pointer (some (Addr.mk p0b p0o none))] m'∧CX Try.prog 109 (Array.mk [Value.pointer (some (Addr.mk p0b p0o
 none))]) m' [] R_1∧ZaF (Shape.agg [Shape.fn,Shape.fn,Shape.fn,Shape.fn,Shape.fn,Shape.fn,Shape.fn]) R_1∧∀(g:Nat)(fi ca:List Value)(ay:Nat)(az a0:List Value)(ad:Nat)(ae af:List Value) (a1:
 Nat) (a2 a3:List Value) (a4:Nat) (a5 a6:List Value) (a7:Nat) (a8 a9:List Value) (ba:Nat) (bb bc:List Value) (ac:Mem),Mem.le m' ac→R_1 (agg (Array.mk [Value.func (Fn.func g) (Array.mk fi) (Array.mk
 ca),Value.func (Fn.func ay) (Array.mk az) (Array.mk a0),Value.func (Fn.func ad) (Array.mk ae) (Array.mk af),Value.func (Fn.func a1) (Array.mk a2) (Array.mk a3),Value.func (Fn.func a4) (Array.mk a5) (Array.mk a6),
 Value.func (Fn.func a7) (Array.mk a8) (Array.mk a9),Value.func (Fn.func ba) (Array.mk bb) (Array.mk bc)])) ac []→Zag (2:Int) 7∧∀(M:Mem),Mem.le m' M→Mem.le ac M→∃(aa:Nat→Prop),∃(R_2:Value→
 Mem→List (List Value)→List Value→Prop),CXY Try.prog ad (Array.mk (List.append (List.append ae [agg (Array.mk [int u8 2,int u64 bG,int u64 bH,int u64 bI,int u64 aW,int i64 aZ,int i64 bD,slice
 aX aY bC])]) af)) M aa [Box.mk mkb [slice t0a t0n t0c,slice t1a t1n t1c] 98 2 false true] [Tok.mk (slice t0a t0n t0c) 4,Tok.mk (slice t1a t1n t1c) 7] R_2∧(∀(t:Tok),t∈[Tok.mk (slice t0a t0n t0c) 4,
 Tok.mk (slice t1a t1n t1c) 7]→∀(b:Nat),Tok.blk t=some b→aa b)∧(∀(ab:Nat),aa ab→(∃(t:Tok),t∈[Tok.mk (slice t0a t0n t0c) 4,Tok.mk (slice t1a t1n t1c) 7]∧Tok.blk t=some ab)∨Mem.free (Mem.off
 m Y) ab∧(∃(o:Nat),∃(v:Value),M ab o=some v)∧b≠ab∧True)∧(∀(v:Value)(m':Mem) (css:List (List Value)) (tvs:List Value),R_2 v m' css tvs→Shape.fits (Shape.agg [Shape.int u64,Shape.int u64,
 Shape.int u64,Shape.int u64,Shape.int u64,Shape.int u64,Shape.int u64,Shape.int u64,Shape.int u64,Shape.int u64,Shape.int u64,Shape.int u64,Shape.int u64,Shape.int u64,Shape.bool]) v=true)∧∀(n ag ah ai
 aj ak al am an ao ap aq ar au:Int) (b:Bool) (m':Mem),Mem.le (Mem.off M aa) m'→(∀(b o:Nat)(u:Value),m' b o=some u→M b o=some u∨aa b∨Mem.free M b)→∀(cs:List Value)(a:Option Addr) (c d:
 Nat) (av:Option Addr) (aw ax:Nat),R_2 (agg (Array.mk [int u64 n,int u64 ag,int u64 ah,int u64 ai,int u64 aj,int u64 ak,int u64 al,int u64 am,int u64 an,int u64 ao,int u64 ap,int u64 aq,int u64 ar,int
 u64 au,Value.bool b])) m' [cs] [slice a c d,slice av aw ax]→Box.mk mkb [slice t0a t0n t0c,slice t1a t1n t1c] 98 2 false true=Box.mk mkb [slice t0a t0n t0c,slice t1a t1n t1c] 98 2 false true∧R (agg (Array.mk
 [int u64 n,int u64 ag,int u64 ah,int u64 ai,int u64 aj,int u64 ak,int u64 al,int u64 am,int u64 an,int u64 ao,int u64 ap,int u64 aq,int u64 ar,int u64 au,Value.bool b])) m' [cs] [slice a c d,slice av aw
 ax]
theorem ZdQ(p0b p0o:Nat)(bG bH bI aW aZ bD:Int)(aX:Option Addr)(aY bC mkb:Nat)(t0a:Option Addr)(t0n t0c:Nat)(t1a:Option Addr)(t1n t1c:Nat)(m:Mem)(Y:Nat→Prop)(R:RTY)(h:Zcx p0b p0o bG bH bI aW aZ bD aX aY bC mkb t0a t0n t0c t1a t1n t1c m Y R):CXY Try.prog 61 #[.pointer (some ⟨p0b,p0o,none⟩),.agg #[.int .u8 2,.int .u64 bG,.int .u64 bH,.int .u64 bI,.int .u64 aW,.int .i64 aZ,.int .i64 bD,.slice aX aY bC]] m Y [⟨mkb,[.slice t0a t0n t0c,.slice t1a t1n t1c],98,2,false,true⟩] [⟨.slice t0a t0n t0c,4⟩,⟨.slice t1a t1n t1c,7⟩] R:=
 ZaL (E:=Ze2) Zaz mix Try.func61 [.v (.pointer (some ⟨p0b,p0o,none⟩)),.v (.agg #[.int .u8 2,.int .u64 bG,.int .u64 bH,.int .u64 bI,.int .u64 aW,.int .i64 aZ,.int .i64 bD,.slice aX aY bC])] [⟨mkb,[.slice t0a t0n t0c,.slice t1a t1n t1c],98,2,false,true⟩] [900,901] [⟨.slice t0a t0n t0c,4⟩,⟨.slice t1a t1n t1c,7⟩] (by decide) (by kernel_rfl) (Eq.mp (by kernel_rfl) h)
noncomputable def Ze3:Env:={ EB with
 dr:=(fun i=>bif Nat.beq i 1 then[⟨0,[],[],none,[],[]⟩,⟨1,[],[],none,[0],[]⟩,⟨2,[3],[],none,[],[]⟩,⟨3,[3],[],none,[2],[]⟩,⟨4,[],[],none,[0,1,2,3],[]⟩,⟨5,[3],[],none,[],[]⟩]else[])
 borrow:=(fun i=>bif Nat.beq i 11 then[100000]else[])
 frzNew:=[3]
 last:=(fun i=>bif Nat.beq i 1 then true else false)
 lastK:=(fun i=>bif Nat.beq i 1 then 2 else 1)
 thaw:=true
 lentC:=(fun i=>bif Nat.beq i 11 then some [(900,4),(901,7)]else none) }
def Zcy(p0b p0o:Nat)(bG bH bI aW aZ bD:Int)(aX:Option Addr)(aY bC mkb:Nat)(t0a:Option Addr)(t0n t0c:Nat)(t1a:Option Addr)(t1n t1c:Nat)(m:Mem)(Y:Nat→Prop)(R:RTY):Prop:=
 ∀(b:Nat)(m':Mem),Mem.le m m'→Mem.reads m' b 0 [int u8 3,int u64 bG,int u64 bH,int u64 bI,int u64 aW,int i64 aZ,int i64 bD,slice aX aY bC]→Mem.free m b→(∀(b' o:Nat) (u:
 Value),m' b' o=some u→m b' o=some u∨b'=b)→∀(bd:Nat),∃(f:Fx),∃(R_1:RT),R_1=f 1 [Value.pointer (some (Addr.mk p0b p0o none))] m'∧CX Try.prog 109 (Array.mk [Value.pointer (some (Addr.mk p0b p0o
 none))]) m' [] R_1∧ZaF (Shape.agg [Shape.fn,Shape.fn,Shape.fn,Shape.fn,Shape.fn,Shape.fn,Shape.fn]) R_1∧∀(g:Nat)(fi ca:List Value)(ay:Nat)(az a0:List Value)(a1:Nat)(a2 a3:List Value) (ad:
 Nat) (ae af:List Value) (a4:Nat) (a5 a6:List Value) (a7:Nat) (a8 a9:List Value) (ba:Nat) (bb bc:List Value) (ac:Mem),Mem.le m' ac→R_1 (agg (Array.mk [Value.func (Fn.func g) (Array.mk fi) (Array.mk
 ca),Value.func (Fn.func ay) (Array.mk az) (Array.mk a0),Value.func (Fn.func a1) (Array.mk a2) (Array.mk a3),Value.func (Fn.func ad) (Array.mk ae) (Array.mk af),Value.func (Fn.func a4) (Array.mk a5) (Array.mk a6),
 Value.func (Fn.func a7) (Array.mk a8) (Array.mk a9),Value.func (Fn.func ba) (Array.mk bb) (Array.mk bc)])) ac []→Zag (3:Int) 7∧∀(M:Mem),Mem.le m' M→Mem.le ac M→∃(aa:Nat→Prop),∃(R_2:Value→
 Mem→List (List Value)→List Value→Prop),CXY Try.prog ad (Array.mk (List.append (List.append ae [agg (Array.mk [int u8 3,int u64 bG,int u64 bH,int u64 bI,int u64 aW,int i64 aZ,int i64 bD,slice
 aX aY bC])]) af)) M aa [Box.mk mkb [slice t0a t0n t0c,slice t1a t1n t1c] 98 2 false true] [Tok.mk (slice t0a t0n t0c) 4,Tok.mk (slice t1a t1n t1c) 7] R_2∧(∀(t:Tok),t∈[Tok.mk (slice t0a t0n t0c) 4,
 Tok.mk (slice t1a t1n t1c) 7]→∀(b:Nat),Tok.blk t=some b→aa b)∧(∀(ab:Nat),aa ab→(∃(t:Tok),t∈[Tok.mk (slice t0a t0n t0c) 4,Tok.mk (slice t1a t1n t1c) 7]∧Tok.blk t=some ab)∨Mem.free (Mem.off
 m Y) ab∧(∃(o:Nat),∃(v:Value),M ab o=some v)∧b≠ab∧True)∧(∀(v:Value)(m':Mem) (css:List (List Value)) (tvs:List Value),R_2 v m' css tvs→Shape.fits (Shape.agg [Shape.int u64,Shape.int u64,
 Shape.int u64,Shape.int u64,Shape.int u64,Shape.int u64,Shape.int u64,Shape.int u64,Shape.int u64,Shape.int u64,Shape.int u64,Shape.int u64,Shape.int u64,Shape.int u64,Shape.bool]) v=true)∧∀(n ag ah ai
 aj ak al am an ao ap aq ar au:Int) (b:Bool) (m':Mem),Mem.le (Mem.off M aa) m'→(∀(b o:Nat)(u:Value),m' b o=some u→M b o=some u∨aa b∨Mem.free M b)→∀(cs:List Value)(a:Option Addr) (c d:
 Nat) (av:Option Addr) (aw ax:Nat),R_2 (agg (Array.mk [int u64 n,int u64 ag,int u64 ah,int u64 ai,int u64 aj,int u64 ak,int u64 al,int u64 am,int u64 an,int u64 ao,int u64 ap,int u64 aq,int u64 ar,int
 u64 au,Value.bool b])) m' [cs] [slice a c d,slice av aw ax]→Box.mk mkb [slice t0a t0n t0c,slice t1a t1n t1c] 98 2 false true=Box.mk mkb [slice t0a t0n t0c,slice t1a t1n t1c] 98 2 false true∧R (agg (Array.mk
 [int u64 n,int u64 ag,int u64 ah,int u64 ai,int u64 aj,int u64 ak,int u64 al,int u64 am,int u64 an,int u64 ao,int u64 ap,int u64 aq,int u64 ar,int u64 au,Value.bool b])) m' [cs] [slice a c d,slice av aw
 ax]
theorem ZdR(p0b p0o:Nat)(bG bH bI aW aZ bD:Int)(aX:Option Addr)(aY bC mkb:Nat)(t0a:Option Addr)(t0n t0c:Nat)(t1a:Option Addr)(t1n t1c:Nat)(m:Mem)(Y:Nat→Prop)(R:RTY)(h:Zcy p0b p0o bG bH bI aW aZ bD aX aY bC mkb t0a t0n t0c t1a t1n t1c m Y R):CXY Try.prog 61 #[.pointer (some ⟨p0b,p0o,none⟩),.agg #[.int .u8 3,.int .u64 bG,.int .u64 bH,.int .u64 bI,.int .u64 aW,.int .i64 aZ,.int .i64 bD,.slice aX aY bC]] m Y [⟨mkb,[.slice t0a t0n t0c,.slice t1a t1n t1c],98,2,false,true⟩] [⟨.slice t0a t0n t0c,4⟩,⟨.slice t1a t1n t1c,7⟩] R:=
 ZaL (E:=Ze3) Zaz mix Try.func61 [.v (.pointer (some ⟨p0b,p0o,none⟩)),.v (.agg #[.int .u8 3,.int .u64 bG,.int .u64 bH,.int .u64 bI,.int .u64 aW,.int .i64 aZ,.int .i64 bD,.slice aX aY bC])] [⟨mkb,[.slice t0a t0n t0c,.slice t1a t1n t1c],98,2,false,true⟩] [900,901] [⟨.slice t0a t0n t0c,4⟩,⟨.slice t1a t1n t1c,7⟩] (by decide) (by kernel_rfl) (Eq.mp (by kernel_rfl) h)
noncomputable def Ze4:Env:={ EB with
 dr:=(fun i=>bif Nat.beq i 1 then[⟨0,[],[],none,[],[]⟩,⟨1,[],[],none,[0],[]⟩,⟨2,[3],[],none,[],[]⟩,⟨3,[3],[],none,[2],[]⟩,⟨4,[],[],none,[0,1,2,3],[]⟩,⟨5,[3],[],none,[],[]⟩]else[])
 borrow:=(fun i=>bif Nat.beq i 11 then[100000]else[])
 frzNew:=[3]
 last:=(fun i=>bif Nat.beq i 1 then true else false)
 lastK:=(fun i=>bif Nat.beq i 1 then 2 else 1)
 thaw:=true
 lentC:=(fun i=>bif Nat.beq i 11 then some [(900,4),(901,7)]else none) }
def Zcz(p0b p0o:Nat)(bG bH bI aW aZ bD:Int)(aX:Option Addr)(aY bC mkb:Nat)(t0a:Option Addr)(t0n t0c:Nat)(t1a:Option Addr)(t1n t1c:Nat)(m:Mem)(Y:Nat→Prop)(R:RTY):Prop:=
 ∀(b:Nat)(m':Mem),Mem.le m m'→Mem.reads m' b 0 [int u8 4,int u64 bG,int u64 bH,int u64 bI,int u64 aW,int i64 aZ,int i64 bD,slice aX aY bC]→Mem.free m b→(∀(b' o:Nat) (u:
 Value),m' b' o=some u→m b' o=some u∨b'=b)→∀(bd:Nat),∃(f:Fx),∃(R_1:RT),R_1=f 1 [Value.pointer (some (Addr.mk p0b p0o none))] m'∧CX Try.prog 109 (Array.mk [Value.pointer (some (Addr.mk p0b p0o
 none))]) m' [] R_1∧ZaF (Shape.agg [Shape.fn,Shape.fn,Shape.fn,Shape.fn,Shape.fn,Shape.fn,Shape.fn]) R_1∧∀(g:Nat)(fi ca:List Value)(ay:Nat)(az a0:List Value)(a1:Nat)(a2 a3:List Value) (a4:
 Nat) (a5 a6:List Value) (ad:Nat) (ae af:List Value) (a7:Nat) (a8 a9:List Value) (ba:Nat) (bb bc:List Value) (ac:Mem),Mem.le m' ac→R_1 (agg (Array.mk [Value.func (Fn.func g) (Array.mk fi) (Array.mk
 ca),Value.func (Fn.func ay) (Array.mk az) (Array.mk a0),Value.func (Fn.func a1) (Array.mk a2) (Array.mk a3),Value.func (Fn.func a4) (Array.mk a5) (Array.mk a6),Value.func (Fn.func ad) (Array.mk ae) (Array.mk af),
 Value.func (Fn.func a7) (Array.mk a8) (Array.mk a9),Value.func (Fn.func ba) (Array.mk bb) (Array.mk bc)])) ac []→Zag (4:Int) 7∧∀(M:Mem),Mem.le m' M→Mem.le ac M→∃(aa:Nat→Prop),∃(R_2:Value→
 Mem→List (List Value)→List Value→Prop),CXY Try.prog ad (Array.mk (List.append (List.append ae [agg (Array.mk [int u8 4,int u64 bG,int u64 bH,int u64 bI,int u64 aW,int i64 aZ,int i64 bD,slice
 aX aY bC])]) af)) M aa [Box.mk mkb [slice t0a t0n t0c,slice t1a t1n t1c] 98 2 false true] [Tok.mk (slice t0a t0n t0c) 4,Tok.mk (slice t1a t1n t1c) 7] R_2∧(∀(t:Tok),t∈[Tok.mk (slice t0a t0n t0c) 4,
 Tok.mk (slice t1a t1n t1c) 7]→∀(b:Nat),Tok.blk t=some b→aa b)∧(∀(ab:Nat),aa ab→(∃(t:Tok),t∈[Tok.mk (slice t0a t0n t0c) 4,Tok.mk (slice t1a t1n t1c) 7]∧Tok.blk t=some ab)∨Mem.free (Mem.off
 m Y) ab∧(∃(o:Nat),∃(v:Value),M ab o=some v)∧b≠ab∧True)∧(∀(v:Value)(m':Mem) (css:List (List Value)) (tvs:List Value),R_2 v m' css tvs→Shape.fits (Shape.agg [Shape.int u64,Shape.int u64,
 Shape.int u64,Shape.int u64,Shape.int u64,Shape.int u64,Shape.int u64,Shape.int u64,Shape.int u64,Shape.int u64,Shape.int u64,Shape.int u64,Shape.int u64,Shape.int u64,Shape.bool]) v=true)∧∀(n ag ah ai
 aj ak al am an ao ap aq ar au:Int) (b:Bool) (m':Mem),Mem.le (Mem.off M aa) m'→(∀(b o:Nat)(u:Value),m' b o=some u→M b o=some u∨aa b∨Mem.free M b)→∀(cs:List Value)(a:Option Addr) (c d:
 Nat) (av:Option Addr) (aw ax:Nat),R_2 (agg (Array.mk [int u64 n,int u64 ag,int u64 ah,int u64 ai,int u64 aj,int u64 ak,int u64 al,int u64 am,int u64 an,int u64 ao,int u64 ap,int u64 aq,int u64 ar,int
 u64 au,Value.bool b])) m' [cs] [slice a c d,slice av aw ax]→Box.mk mkb [slice t0a t0n t0c,slice t1a t1n t1c] 98 2 false true=Box.mk mkb [slice t0a t0n t0c,slice t1a t1n t1c] 98 2 false true∧R (agg (Array.mk
 [int u64 n,int u64 ag,int u64 ah,int u64 ai,int u64 aj,int u64 ak,int u64 al,int u64 am,int u64 an,int u64 ao,int u64 ap,int u64 aq,int u64 ar,int u64 au,Value.bool b])) m' [cs] [slice a c d,slice av aw
 ax]
theorem ZdS(p0b p0o:Nat)(bG bH bI aW aZ bD:Int)(aX:Option Addr)(aY bC mkb:Nat)(t0a:Option Addr)(t0n t0c:Nat)(t1a:Option Addr)(t1n t1c:Nat)(m:Mem)(Y:Nat→Prop)(R:RTY)(h:Zcz p0b p0o bG bH bI aW aZ bD aX aY bC mkb t0a t0n t0c t1a t1n t1c m Y R):CXY Try.prog 61 #[.pointer (some ⟨p0b,p0o,none⟩),.agg #[.int .u8 4,.int .u64 bG,.int .u64 bH,.int .u64 bI,.int .u64 aW,.int .i64 aZ,.int .i64 bD,.slice aX aY bC]] m Y [⟨mkb,[.slice t0a t0n t0c,.slice t1a t1n t1c],98,2,false,true⟩] [⟨.slice t0a t0n t0c,4⟩,⟨.slice t1a t1n t1c,7⟩] R:=
 ZaL (E:=Ze4) Zaz mix Try.func61 [.v (.pointer (some ⟨p0b,p0o,none⟩)),.v (.agg #[.int .u8 4,.int .u64 bG,.int .u64 bH,.int .u64 bI,.int .u64 aW,.int .i64 aZ,.int .i64 bD,.slice aX aY bC])] [⟨mkb,[.slice t0a t0n t0c,.slice t1a t1n t1c],98,2,false,true⟩] [900,901] [⟨.slice t0a t0n t0c,4⟩,⟨.slice t1a t1n t1c,7⟩] (by decide) (by kernel_rfl) (Eq.mp (by kernel_rfl) h)
noncomputable def Ze5:Env:={ EB with
 dr:=(fun i=>bif Nat.beq i 1 then[⟨0,[],[],none,[],[]⟩,⟨1,[],[],none,[0],[]⟩,⟨2,[3],[],none,[],[]⟩,⟨3,[3],[],none,[2],[]⟩,⟨4,[],[],none,[0,1,2,3],[]⟩,⟨5,[3],[],none,[],[]⟩]else[])
 borrow:=(fun i=>bif Nat.beq i 11 then[100000]else[])
 frzNew:=[3]
 last:=(fun i=>bif Nat.beq i 1 then true else false)
 lastK:=(fun i=>bif Nat.beq i 1 then 2 else 1)
 thaw:=true
 lentC:=(fun i=>bif Nat.beq i 11 then some [(900,4),(901,7)]else none) }
def ZcA(p0b p0o:Nat)(bG bH bI aW aZ bD:Int)(aX:Option Addr)(aY bC mkb:Nat)(t0a:Option Addr)(t0n t0c:Nat)(t1a:Option Addr)(t1n t1c:Nat)(m:Mem)(Y:Nat→Prop)(R:RTY):Prop:=
 ∀(b:Nat)(m':Mem),Mem.le m m'→Mem.reads m' b 0 [int u8 5,int u64 bG,int u64 bH,int u64 bI,int u64 aW,int i64 aZ,int i64 bD,slice aX aY bC]→Mem.free m b→(∀(b' o:Nat) (u:
 Value),m' b' o=some u→m b' o=some u∨b'=b)→∀(bd:Nat),∃(f:Fx),∃(R_1:RT),R_1=f 1 [Value.pointer (some (Addr.mk p0b p0o none))] m'∧CX Try.prog 109 (Array.mk [Value.pointer (some (Addr.mk p0b p0o
 none))]) m' [] R_1∧ZaF (Shape.agg [Shape.fn,Shape.fn,Shape.fn,Shape.fn,Shape.fn,Shape.fn,Shape.fn]) R_1∧∀(g:Nat)(fi ca:List Value)(ay:Nat)(az a0:List Value)(a1:Nat)(a2 a3:List Value) (a4:
 Nat) (a5 a6:List Value) (a7:Nat) (a8 a9:List Value) (ad:Nat) (ae af:List Value) (ba:Nat) (bb bc:List Value) (ac:Mem),Mem.le m' ac→R_1 (agg (Array.mk [Value.func (Fn.func g) (Array.mk fi) (Array.mk
 ca),Value.func (Fn.func ay) (Array.mk az) (Array.mk a0),Value.func (Fn.func a1) (Array.mk a2) (Array.mk a3),Value.func (Fn.func a4) (Array.mk a5) (Array.mk a6),Value.func (Fn.func a7) (Array.mk a8) (Array.mk a9),
 Value.func (Fn.func ad) (Array.mk ae) (Array.mk af),Value.func (Fn.func ba) (Array.mk bb) (Array.mk bc)])) ac []→Zag (5:Int) 7∧∀(M:Mem),Mem.le m' M→Mem.le ac M→∃(aa:Nat→Prop),∃(R_2:Value→
 Mem→List (List Value)→List Value→Prop),CXY Try.prog ad (Array.mk (List.append (List.append ae [agg (Array.mk [int u8 5,int u64 bG,int u64 bH,int u64 bI,int u64 aW,int i64 aZ,int i64 bD,slice
 aX aY bC])]) af)) M aa [Box.mk mkb [slice t0a t0n t0c,slice t1a t1n t1c] 98 2 false true] [Tok.mk (slice t0a t0n t0c) 4,Tok.mk (slice t1a t1n t1c) 7] R_2∧(∀(t:Tok),t∈[Tok.mk (slice t0a t0n t0c) 4,
 Tok.mk (slice t1a t1n t1c) 7]→∀(b:Nat),Tok.blk t=some b→aa b)∧(∀(ab:Nat),aa ab→(∃(t:Tok),t∈[Tok.mk (slice t0a t0n t0c) 4,Tok.mk (slice t1a t1n t1c) 7]∧Tok.blk t=some ab)∨Mem.free (Mem.off
 m Y) ab∧(∃(o:Nat),∃(v:Value),M ab o=some v)∧b≠ab∧True)∧(∀(v:Value)(m':Mem) (css:List (List Value)) (tvs:List Value),R_2 v m' css tvs→Shape.fits (Shape.agg [Shape.int u64,Shape.int u64,
 Shape.int u64,Shape.int u64,Shape.int u64,Shape.int u64,Shape.int u64,Shape.int u64,Shape.int u64,Shape.int u64,Shape.int u64,Shape.int u64,Shape.int u64,Shape.int u64,Shape.bool]) v=true)∧∀(n ag ah ai
 aj ak al am an ao ap aq ar au:Int) (b:Bool) (m':Mem),Mem.le (Mem.off M aa) m'→(∀(b o:Nat)(u:Value),m' b o=some u→M b o=some u∨aa b∨Mem.free M b)→∀(cs:List Value)(a:Option Addr) (c d:
 Nat) (av:Option Addr) (aw ax:Nat),R_2 (agg (Array.mk [int u64 n,int u64 ag,int u64 ah,int u64 ai,int u64 aj,int u64 ak,int u64 al,int u64 am,int u64 an,int u64 ao,int u64 ap,int u64 aq,int u64 ar,int
 u64 au,Value.bool b])) m' [cs] [slice a c d,slice av aw ax]→Box.mk mkb [slice t0a t0n t0c,slice t1a t1n t1c] 98 2 false true=Box.mk mkb [slice t0a t0n t0c,slice t1a t1n t1c] 98 2 false true∧R (agg (Array.mk
 [int u64 n,int u64 ag,int u64 ah,int u64 ai,int u64 aj,int u64 ak,int u64 al,int u64 am,int u64 an,int u64 ao,int u64 ap,int u64 aq,int u64 ar,int u64 au,Value.bool b])) m' [cs] [slice a c d,slice av aw
 ax]
theorem ZdT(p0b p0o:Nat)(bG bH bI aW aZ bD:Int)(aX:Option Addr)(aY bC mkb:Nat)(t0a:Option Addr)(t0n t0c:Nat)(t1a:Option Addr)(t1n t1c:Nat)(m:Mem)(Y:Nat→Prop)(R:RTY)(h:ZcA p0b p0o bG bH bI aW aZ bD aX aY bC mkb t0a t0n t0c t1a t1n t1c m Y R):CXY Try.prog 61 #[.pointer (some ⟨p0b,p0o,none⟩),.agg #[.int .u8 5,.int .u64 bG,.int .u64 bH,.int .u64 bI,.int .u64 aW,.int .i64 aZ,.int .i64 bD,.slice aX aY bC]] m Y [⟨mkb,[.slice t0a t0n t0c,.slice t1a t1n t1c],98,2,false,true⟩] [⟨.slice t0a t0n t0c,4⟩,⟨.slice t1a t1n t1c,7⟩] R:=
 ZaL (E:=Ze5) Zaz mix Try.func61 [.v (.pointer (some ⟨p0b,p0o,none⟩)),.v (.agg #[.int .u8 5,.int .u64 bG,.int .u64 bH,.int .u64 bI,.int .u64 aW,.int .i64 aZ,.int .i64 bD,.slice aX aY bC])] [⟨mkb,[.slice t0a t0n t0c,.slice t1a t1n t1c],98,2,false,true⟩] [900,901] [⟨.slice t0a t0n t0c,4⟩,⟨.slice t1a t1n t1c,7⟩] (by decide) (by kernel_rfl) (Eq.mp (by kernel_rfl) h)
noncomputable def Ze6:Env:={ EB with
 dr:=(fun i=>bif Nat.beq i 1 then[⟨0,[],[],none,[],[]⟩,⟨1,[],[],none,[0],[]⟩,⟨2,[3],[],none,[],[]⟩,⟨3,[3],[],none,[2],[]⟩,⟨4,[],[],none,[0,1,2,3],[]⟩,⟨5,[3],[],none,[],[]⟩]else[])
 borrow:=(fun i=>bif Nat.beq i 11 then[100000]else[])
 frzNew:=[3]
 last:=(fun i=>bif Nat.beq i 1 then true else false)
 lastK:=(fun i=>bif Nat.beq i 1 then 2 else 1)
 thaw:=true
 lentC:=(fun i=>bif Nat.beq i 11 then some [(900,4),(901,7)]else none) }
def ZcB(p0b p0o:Nat)(bG bH bI aW aZ bD:Int)(aX:Option Addr)(aY bC mkb:Nat)(t0a:Option Addr)(t0n t0c:Nat)(t1a:Option Addr)(t1n t1c:Nat)(m:Mem)(Y:Nat→Prop)(R:RTY):Prop:=
 ∀(b:Nat)(m':Mem),Mem.le m m'→Mem.reads m' b 0 [int u8 6,int u64 bG,int u64 bH,int u64 bI,int u64 aW,int i64 aZ,int i64 bD,slice aX aY bC]→Mem.free m b→(∀(b' o:Nat) (u:
 Value),m' b' o=some u→m b' o=some u∨b'=b)→∀(bd:Nat),∃(f:Fx),∃(R_1:RT),R_1=f 1 [Value.pointer (some (Addr.mk p0b p0o none))] m'∧CX Try.prog 109 (Array.mk [Value.pointer (some (Addr.mk p0b p0o
 none))]) m' [] R_1∧ZaF (Shape.agg [Shape.fn,Shape.fn,Shape.fn,Shape.fn,Shape.fn,Shape.fn,Shape.fn]) R_1∧∀(g:Nat)(fi ca:List Value)(ay:Nat)(az a0:List Value)(a1:Nat)(a2 a3:List Value) (a4:
 Nat) (a5 a6:List Value) (a7:Nat) (a8 a9:List Value) (ba:Nat) (bb bc:List Value) (ad:Nat) (ae af:List Value) (ac:Mem),Mem.le m' ac→R_1 (agg (Array.mk [Value.func (Fn.func g) (Array.mk fi) (Array.mk
 ca),Value.func (Fn.func ay) (Array.mk az) (Array.mk a0),Value.func (Fn.func a1) (Array.mk a2) (Array.mk a3),Value.func (Fn.func a4) (Array.mk a5) (Array.mk a6),Value.func (Fn.func a7) (Array.mk a8) (Array.mk a9),
 Value.func (Fn.func ba) (Array.mk bb) (Array.mk bc),Value.func (Fn.func ad) (Array.mk ae) (Array.mk af)])) ac []→Zag (6:Int) 7∧∀(M:Mem),Mem.le m' M→Mem.le ac M→∃(aa:Nat→Prop),∃(R_2:Value→
 Mem→List (List Value)→List Value→Prop),CXY Try.prog ad (Array.mk (List.append (List.append ae [agg (Array.mk [int u8 6,int u64 bG,int u64 bH,int u64 bI,int u64 aW,int i64 aZ,int i64 bD,slice
 aX aY bC])]) af)) M aa [Box.mk mkb [slice t0a t0n t0c,slice t1a t1n t1c] 98 2 false true] [Tok.mk (slice t0a t0n t0c) 4,Tok.mk (slice t1a t1n t1c) 7] R_2∧(∀(t:Tok),t∈[Tok.mk (slice t0a t0n t0c) 4,
 Tok.mk (slice t1a t1n t1c) 7]→∀(b:Nat),Tok.blk t=some b→aa b)∧(∀(ab:Nat),aa ab→(∃(t:Tok),t∈[Tok.mk (slice t0a t0n t0c) 4,Tok.mk (slice t1a t1n t1c) 7]∧Tok.blk t=some ab)∨Mem.free (Mem.off
 m Y) ab∧(∃(o:Nat),∃(v:Value),M ab o=some v)∧b≠ab∧True)∧(∀(v:Value)(m':Mem) (css:List (List Value)) (tvs:List Value),R_2 v m' css tvs→Shape.fits (Shape.agg [Shape.int u64,Shape.int u64,
 Shape.int u64,Shape.int u64,Shape.int u64,Shape.int u64,Shape.int u64,Shape.int u64,Shape.int u64,Shape.int u64,Shape.int u64,Shape.int u64,Shape.int u64,Shape.int u64,Shape.bool]) v=true)∧∀(n ag ah ai
 aj ak al am an ao ap aq ar au:Int) (b:Bool) (m':Mem),Mem.le (Mem.off M aa) m'→(∀(b o:Nat)(u:Value),m' b o=some u→M b o=some u∨aa b∨Mem.free M b)→∀(cs:List Value)(a:Option Addr) (c d:
 Nat) (av:Option Addr) (aw ax:Nat),R_2 (agg (Array.mk [int u64 n,int u64 ag,int u64 ah,int u64 ai,int u64 aj,int u64 ak,int u64 al,int u64 am,int u64 an,int u64 ao,int u64 ap,int u64 aq,int u64 ar,int
 u64 au,Value.bool b])) m' [cs] [slice a c d,slice av aw ax]→Box.mk mkb [slice t0a t0n t0c,slice t1a t1n t1c] 98 2 false true=Box.mk mkb [slice t0a t0n t0c,slice t1a t1n t1c] 98 2 false true∧R (agg (Array.mk
 [int u64 n,int u64 ag,int u64 ah,int u64 ai,int u64 aj,int u64 ak,int u64 al,int u64 am,int u64 an,int u64 ao,int u64 ap,int u64 aq,int u64 ar,int u64 au,Value.bool b])) m' [cs] [slice a c d,slice av aw
 ax]
theorem ZdU(p0b p0o:Nat)(bG bH bI aW aZ bD:Int)(aX:Option Addr)(aY bC mkb:Nat)(t0a:Option Addr)(t0n t0c:Nat)(t1a:Option Addr)(t1n t1c:Nat)(m:Mem)(Y:Nat→Prop)(R:RTY)(h:ZcB p0b p0o bG bH bI aW aZ bD aX aY bC mkb t0a t0n t0c t1a t1n t1c m Y R):CXY Try.prog 61 #[.pointer (some ⟨p0b,p0o,none⟩),.agg #[.int .u8 6,.int .u64 bG,.int .u64 bH,.int .u64 bI,.int .u64 aW,.int .i64 aZ,.int .i64 bD,.slice aX aY bC]] m Y [⟨mkb,[.slice t0a t0n t0c,.slice t1a t1n t1c],98,2,false,true⟩] [⟨.slice t0a t0n t0c,4⟩,⟨.slice t1a t1n t1c,7⟩] R:=
 ZaL (E:=Ze6) Zaz mix Try.func61 [.v (.pointer (some ⟨p0b,p0o,none⟩)),.v (.agg #[.int .u8 6,.int .u64 bG,.int .u64 bH,.int .u64 bI,.int .u64 aW,.int .i64 aZ,.int .i64 bD,.slice aX aY bC])] [⟨mkb,[.slice t0a t0n t0c,.slice t1a t1n t1c],98,2,false,true⟩] [900,901] [⟨.slice t0a t0n t0c,4⟩,⟨.slice t1a t1n t1c,7⟩] (by decide) (by kernel_rfl) (Eq.mp (by kernel_rfl) h)
noncomputable def ZeD:Env:={ EB with
 loops:=(fun i=>bif Nat.beq i 3 then⟨[(11,.int .i64)],[4,100000],[(900,4),(901,7)],false⟩ else⟨[],[],[],false⟩)
 dr:=(fun i=>bif Nat.beq i 5 then[⟨0,[],[],none,[],[]⟩,⟨1,[4],[],none,[],[]⟩,⟨2,[],[],none,[],[]⟩,⟨3,[6],[],none,[],[]⟩]else[])
 borrow:=(fun i=>bif Nat.beq i 19 then[100000]else bif Nat.beq i 20 then[100000]else[])
 frzNew:=[2]
 last:=(fun i=>bif Nat.beq i 5 then true else false)
 hot:=(fun i=>bif Nat.beq i 5 then true else false)
 lastK:=(fun i=>bif Nat.beq i 5 then 3 else 1)
 thaw:=true
 lentC:=(fun i=>bif Nat.beq i 19 then some [(900,4),(901,7)]else bif Nat.beq i 20 then some [(900,4),(901,7)]else none) }
def Zci(aR aS aT aU aA aQ aV:Int)(aO:Option Addr)(aN aP c0b c0o mkb:Nat)(t0a:Option Addr)(t0n t0c:Nat)(t1a:Option Addr)(t1n t1c:Nat)(m:Mem)(Y:Nat→Prop)(R:RTY):Prop:=
 ∀(b:Nat)(m':Mem),Mem.le m m'→Mem.reads m' b 0 [int u8 aR,int u64 aS,int u64 aT,int u64 aU,int u64 aA,int i64 aQ,int i64 aV,slice aO aN aP]→Mem.free m b→(∀(b' o:Nat) (u:
 Value),m' b' o=some u→m b' o=some u∨b'=b)→∀(aw ax:Nat),∃(I:IT),(∃(n:Nat),I [int i64 0] [[int u64 0,int u64 0,int u64 0,int u64 0,int u64 0,int u64 0,int u64 0,int u64 0,int u64 0,int
 u64 0,int u64 0,int u64 0,int u64 0,int u64 0,Value.bool true],[slice t0a t0n t0c,slice t1a t1n t1c]] [slice t0a t0n t0c,slice t1a t1n t1c] m' n)∧∀(n:Int)(cs am:List Value)(a:Option Addr)(ad c:Nat)
 (ae:Option Addr) (af ag:Nat) (m':Mem) (ay:Nat),True→I [int i64 n] [cs,am] [slice a ad c,slice ae af ag] m' ay→br (decide (n < (↑aN:Int))) (∃(az:Nat),∃(o:Nat),aO=some (Addr.mk az o none)
 ∧ Zag n aN∧∃(v:Value),∃(an:Value),∃(ao:Value),∃(ap:Value),∃(aq:Value),∃(ar:Value),∃(au:Value),∃(av:Value),Mem.reads m' az (o+Int.toNat n*8) [v,an,ao,ap,aq,ar,au,av]∧
 ∀(ca:Nat),chk (Value.oneCell' v&&(Value.oneCell' an&&(Value.oneCell' ao&&(Value.oneCell' ap&&(Value.oneCell' aq&&(Value.oneCell' ar&&(Value.oneCell' au&&(Value.oneCell' av&&true)))))))) (∃(a0:
 Value),Mem.off m Y c0b c0o=some a0∧∃(a1:Value),Mem.off m Y c0b c0o=some a1∧∃(ah:Nat→Prop),∃(R:Value→Mem→List (List Value)→List Value→Prop),CXY Try.prog 61 (Array.mk [a1,agg (Array.mk [v,
 an,ao,ap,aq,ar,au,av])]) m' ah [Box.mk mkb am 98 2 false true] [Tok.mk (slice a ad c) 4,Tok.mk (slice ae af ag) 7] R∧(∀(t:Tok),t∈[Tok.mk (slice a ad c) 4,Tok.mk (slice ae af ag) 7]→∀(b:Nat),Tok.blk
 t=some b→ah b)∧(∀(aa:Nat),ah aa→(∃(t:Tok),t∈[Tok.mk (slice a ad c) 4,Tok.mk (slice ae af ag) 7]∧Tok.blk t=some aa)∨Mem.free (Mem.off m Y) aa∧(∃(o:Nat),∃(v:Value),m' aa o=some v)∧b
 ≠ aa∧True)∧(∀(v:Value)(m':Mem) (css:List (List Value)) (tvs:List Value),R v m' css tvs→Shape.fits (Shape.agg [Shape.int u64,Shape.int u64,Shape.int u64,Shape.int u64,Shape.int u64,Shape.int u64,
 Shape.int u64,Shape.int u64,Shape.int u64,Shape.int u64,Shape.int u64,Shape.int u64,Shape.int u64,Shape.int u64,Shape.bool]) v=true)∧∀(a2 a3 a4 a5 a6 a7 a8 a9 ba bb bc bd be bf:Int)(aa:Bool) (ab:
 Mem),Mem.le (Mem.off m' ah) ab→(∀(b o:Nat)(u:Value),ab b o=some u→m' b o=some u∨ah b∨Mem.free m' b)→∀(bg:List Value)(a:Option Addr)(c d:Nat)(aj:Option Addr)(ak al:Nat),R (agg
 (Array.mk [int u64 a2,int u64 a3,int u64 a4,int u64 a5,int u64 a6,int u64 a7,int u64 a8,int u64 a9,int u64 ba,int u64 bb,int u64 bc,int u64 bd,int u64 be,int u64 bf,Value.bool aa])) ab [bg] [slice a c d,
 slice aj ak al]→∃(ai:Nat→Prop),∃(R:Value→Mem→List (List Value)→List Value→Prop),CXY Try.prog 139 (Array.mk [a0,agg (Array.mk cs),agg (Array.mk [int u64 a2,int u64 a3,int u64 a4,int u64 a5,int
 u64 a6,int u64 a7,int u64 a8,int u64 a9,int u64 ba,int u64 bb,int u64 bc,int u64 bd,int u64 be,int u64 bf,Value.bool aa])]) ab ai [Box.mk mkb bg 98 2 false true] [Tok.mk (slice a c d) 4,Tok.mk (slice aj ak
 al) 7] R∧(∀(t:Tok),t∈[Tok.mk (slice a c d) 4,Tok.mk (slice aj ak al) 7]→∀(b:Nat),Tok.blk t=some b→ai b)∧(∀(ac:Nat),ai ac→(∃(t:Tok),t∈[Tok.mk (slice a c d) 4,Tok.mk (slice aj ak al) 7]∧
 Tok.blk t=some ac)∨Mem.free (Mem.off m Y) ac∧(∃(o:Nat),∃(v:Value),ab ac o=some v)∧b≠ac∧True)∧(∀(v:Value)(m':Mem) (css:List (List Value)) (tvs:List Value),R v m' css tvs→Shape.fits
 (Shape.agg [Shape.int u64,Shape.int u64,Shape.int u64,Shape.int u64,Shape.int u64,Shape.int u64,Shape.int u64,Shape.int u64,Shape.int u64,Shape.int u64,Shape.int u64,Shape.int u64,Shape.int u64,Shape.int
 u64,Shape.bool]) v=true)∧∀(bh bi bj bk bl bm bn bo bp bq bs bt bu bv:Int)(ac:Bool)(m':Mem),Mem.le (Mem.off ab ai) m'→(∀(b o:Nat)(u:Value),m' b o=some u→ab b o=some u∨ai b∨Mem.free ab b)
 → ∀(cs:List Value)(a:Option Addr)(c d:Nat)(bw:Option Addr)(bx bz:Nat),R (agg (Array.mk [int u64 bh,int u64 bi,int u64 bj,int u64 bk,int u64 bl,int u64 bm,int u64 bn,int u64 bo,int u64 bp,int u64
 bq,int u64 bs,int u64 bt,int u64 bu,int u64 bv,Value.bool ac])) m' [cs] [slice a c d,slice bw bx bz]→[some (Box.mk ax [] 102 15 false true),some (Box.mk aw [int u64 0,int u64 0,int u64 0,int u64 0,int u64
 0,int u64 0,int u64 0,int u64 0,int u64 0,int u64 0,int u64 0,int u64 0,int u64 0,int u64 0,Value.bool false] 102 15 false true),some (Box.mk b [int u8 aR,int u64 aS,int u64 aT,int u64 aU,int u64
 aA,int i64 aQ,int i64 aV,slice aO aN aP] 41 8 true true),some (Box.mk mkb [] 98 2 false true)]=[some (Box.mk ax [] 102 15 false true),some (Box.mk aw [int u64 0,int u64 0,int u64 0,int u64 0,
 int u64 0,int u64 0,int u64 0,int u64 0,int u64 0,int u64 0,int u64 0,int u64 0,int u64 0,int u64 0,Value.bool false] 102 15 false true),some (Box.mk b [int u8 aR,int u64 aS,int u64 aT,int u64 aU,
 int u64 aA,int i64 aQ,int i64 aV,slice aO aN aP] 41 8 true true),some (Box.mk mkb [] 98 2 false true)]∧([none,none]:List (Option Tok))=[none,none]∧∃(n':Nat),n' < ay∧I [int i64
 (IntKind.wrap i64 (n+(1:Int)))] [[int u64 bh,int u64 bi,int u64 bj,int u64 bk,int u64 bl,int u64 bm,int u64 bn,int u64 bo,int u64 bp,int u64 bq,int u64 bs,int u64 bt,int u64 bu,int u64 bv,Value.bool
 ac],cs] [slice a c d,slice bw bx bz] m' n')) (chk (Nat.beq (List.length cs) 15&&Zcq cs) (Box.mk mkb [slice t0a t0n t0c,slice t1a t1n t1c] 98 2 false true=Box.mk mkb [slice t0a t0n t0c,slice t1a t1n t1c] 98 2
 false true∧R (agg (Array.mk cs)) m' [am] [slice a ad c,slice ae af ag]))
theorem ZdA(aR aS aT aU aA aQ aV:Int)(aO:Option Addr)(aN aP c0b c0o mkb:Nat)(t0a:Option Addr)(t0n t0c:Nat)(t1a:Option Addr)(t1n t1c:Nat)(m:Mem)(Y:Nat→Prop)(R:RTY)(h:Zci aR aS aT aU aA aQ aV aO aN aP c0b c0o mkb t0a t0n t0c t1a t1n t1c m Y R):CXY Try.prog 138 #[.agg #[.int .u8 aR,.int .u64 aS,.int .u64 aT,.int .u64 aU,.int .u64 aA,.int .i64 aQ,.int .i64 aV,.slice aO aN aP],.pointer (some ⟨c0b,c0o,none⟩)] m Y [⟨mkb,[.slice t0a t0n t0c,.slice t1a t1n t1c],98,2,false,true⟩] [⟨.slice t0a t0n t0c,4⟩,⟨.slice t1a t1n t1c,7⟩] R:=
 ZaL (E:=ZeD) Zaz mix Try.func138 [.v (.agg #[.int .u8 aR,.int .u64 aS,.int .u64 aT,.int .u64 aU,.int .u64 aA,.int .i64 aQ,.int .i64 aV,.slice aO aN aP]),.v (.pointer (some ⟨c0b,c0o,none⟩))] [⟨mkb,[.slice t0a t0n t0c,.slice t1a t1n t1c],98,2,false,true⟩] [900,901] [⟨.slice t0a t0n t0c,4⟩,⟨.slice t1a t1n t1c,7⟩] (by decide) (by kernel_rfl) (Eq.mp (by kernel_rfl) h)
noncomputable def ZeE:Env:={ EB with
 loops:=(fun i=>bif Nat.beq i 3 then⟨[(11,.int .i64)],[4,100000],[(900,4),(901,7)],false⟩ else⟨[],[],[],false⟩)
 borrow:=(fun i=>bif Nat.beq i 17 then[100000]else[])
 frzNew:=[2]
 thaw:=true
 lentC:=(fun i=>bif Nat.beq i 17 then some [(900,4),(901,7)]else none) }
abbrev Zcj:List Value:=[int u64 0,int u64 0,int u64 0,int u64 0,int u64 0,int u64 0,int u64 0,int u64 0,int u64 0,int u64 0,int u64 0,int u64 0,int u64 0,int u64 0,Value.bool false]
abbrev ZdV:List Shape:=[Shape.int u64,Shape.int u64,Shape.int u64,Shape.int u64,Shape.int u64,Shape.int u64,Shape.int u64,Shape.int u64,Shape.int u64,Shape.int u64,Shape.int u64,Shape.int
 u64,Shape.int u64,Shape.int u64,Shape.bool]
abbrev ZdW:Int→Int→Int→Int→Int→Int→Int→Int→Int→Int→Int→Int→Int→Int→Bool→List Value:=fun(n aj ak ab ap aq ar au av aw ax ay az a0:Int)(b:Bool)=>[int u64 n,int
 u64 aj,int u64 ak,int u64 ab,int u64 ap,int u64 aq,int u64 ar,int u64 au,int u64 av,int u64 aw,int u64 ax,int u64 ay,int u64 az,int u64 a0,Value.bool b]
abbrev ZdX:Nat→Option Box:=fun(b:Nat)=>some (Box.mk b Zcj 102 15 false true)
abbrev ZdY:Int→Int→Int→Int→Int→Int→Int→Option Addr→Nat→Nat→Nat→Option Box:=fun(aR aS aT aU aA aQ aV:Int)(aO:Option Addr)(aN aP b:Nat)=>some
 (Box.mk b [int u8 aR,int u64 aS,int u64 aT,int u64 aU,int u64 aA,int i64 aQ,int i64 aV,slice aO aN aP] 41 8 true true)
abbrev Zao:Int→Int→Int→Int→Int→Int→Int→Option Addr→Nat→Nat→Nat→Nat→Nat→Nat→List (Option Box):=fun(aR aS aT aU aA aQ aV:Int)(aO:Option Addr) (aN
 aP mkb b ac aa:Nat)=>[some (Box.mk aa [] 102 15 false true),ZdX ac,ZdY aR aS aT aU aA aQ aV aO aN aP b,some (Box.mk mkb [] 98 2 false true)]
def Zck(aR aS aT aU aA aQ aV:Int)(aO:Option Addr)(aN aP c0b c0o mkb:Nat)(t0a:Option Addr)(t0n t0c:Nat)(t1a:Option Addr)(t1n t1c:Nat)(m:Mem)(Y:Nat→Prop)(R:RTY):Prop:=
 ∀(b:Nat)(m':Mem),Mem.le m m'→Mem.reads m' b 0 [int u8 aR,int u64 aS,int u64 aT,int u64 aU,int u64 aA,int i64 aQ,int i64 aV,slice aO aN aP]→Mem.free m b→(∀(b' o:Nat) (u:
 Value),m' b' o=some u→m b' o=some u∨b'=b)→∀(ac aa:Nat),∃(I:IT),(∃(n:Nat),I [int i64 0] [Zcj,[slice t0a t0n t0c,slice t1a t1n t1c]] [slice t0a t0n t0c,slice t1a t1n t1c] m' n)
 ∧ ∀(n:Int)(cs a1:List Value)(a:Option Addr)(aj c:Nat)(al:Option Addr)(ak am:Nat)(m':Mem)(ab:Nat),True→I [int i64 n] [cs,a1] [slice a aj c,slice al ak am] m' ab→br (decide (n < (↑aN:
 Int))) (∃(a9:Nat),∃(o:Nat),aO=some (Addr.mk a9 o none)∧Zag n aN∧∃(v:Value),∃(a2:Value),∃(a3:Value),∃(a4:Value),∃(a5:Value),∃(a6:Value),∃(a7:Value),∃(a8:Value),
 Mem.reads m' a9 (o+Int.toNat n*8) [v,a2,a3,a4,a5,a6,a7,a8]∧∀(bf:Nat),chk (Value.oneCell' v&&(Value.oneCell' a2&&(Value.oneCell' a3&&(Value.oneCell' a4&&(Value.oneCell' a5&&(Value.oneCell' a6
 && (Value.oneCell' a7&&(Value.oneCell' a8&&true)))))))) (∃(ba:Value),m' c0b c0o=some ba∧∃(an:Nat→Prop),∃(R:Value→Mem→List (List Value)→List Value→Prop),CXY Try.prog 61 (Array.mk [ba,agg
 (Array.mk [v,a2,a3,a4,a5,a6,a7,a8])]) m' an [Box.mk mkb a1 98 2 false true] [Tok.mk (slice a aj c) 4,Tok.mk (slice al ak am) 7] R∧(∀(t:Tok),t∈[Tok.mk (slice a aj c) 4,Tok.mk (slice al ak am) 7]→∀(b:
 Nat),Tok.blk t=some b→an b)∧(∀(ai:Nat),an ai→(∃(t:Tok),t∈[Tok.mk (slice a aj c) 4,Tok.mk (slice al ak am) 7]∧Tok.blk t=some ai)∨Mem.free (Mem.off m Y) ai∧(∃(o:Nat),∃(v:Value),m' ai o
 = some v)∧b≠ai∧True)∧(∀(v:Value)(m':Mem) (css:List (List Value)) (tvs:List Value),R v m' css tvs→Shape.fits (Shape.agg ZdV) v=true)∧∀(ap aq ar au av aw ax ay az a0 bb bc bd be
 : Int) (ai:Bool) (ao:Mem),Mem.le (Mem.off m' an) ao→(∀(b o:Nat)(u:Value),ao b o=some u→m' b o=some u∨an b∨Mem.free m' b)→∀(ae:List Value)(a:Option Addr)(c d:Nat)(af:Option Addr) (ag
 ah:Nat),R (agg (Array.mk (ZdW ap aq ar au av aw ax ay az a0 bb bc bd be ai))) ao [ae] [slice a c d,slice af ag ah]→∀(bg:Nat),∃(R:RT),True∧CX Try.prog 141 (Array.mk [Value.pointer (some
 (Addr.mk aa 0 none)),agg (Array.mk [int u64 ap,int u64 aq,int u64 ar,int u64 au,int u64 av,int u64 aw,int u64 ax])]) ao [Box.mk aa cs 102 15 false true] R∧ZaF (Shape.tup []) R∧∀(m':Mem),Mem.le ao m'→∀
 (cs:List Value),R (Value.tuple (Array.mk [])) m' [cs]→∃(R:RT),True∧CX Try.prog 141 (Array.mk [Value.pointer (some (Addr.mk aa 7 none)),agg (Array.mk [int u64 ay,int u64 az,int u64 a0,int u64 bb,int u64
 bc,int u64 bd,int u64 be])]) m' [Box.mk aa cs 102 15 false true] R∧ZaF (Shape.tup []) R∧∀(ad:Mem),Mem.le m' ad→∀(cs:List Value),R (Value.tuple (Array.mk [])) ad [cs]→Eng.Zrv cs 14 fun(v:Value)=>
 bif Zaj v then bif Zaj v then bif Zaj v then bif Zaj v then chk (Zae v) (br (Zac v) (chk (Nat.ble 15 (List.length cs)) (ZaS (Zao aR aS aT aU aA aQ aV aO aN
 aP mkb b ac aa)∧([none,none]:List (Option Tok))=[none,none]∧∃(n':Nat),n' < ab∧I [int i64 (IntKind.wrap i64 (n+(1:Int)))] [Zan cs 14 [Value.bool true],ae] [slice a c d,slice af ag ah] ad n'))
 False)else chk (Zae v) (br (Zac v) (chk (Zae v) (br (Zac v) (chk (Nat.ble 15 (List.length cs)) (ZaS (Zao aR aS aT aU aA aQ aV aO aN aP mkb b ac aa)∧([none,none]
 : List (Option Tok))=[none,none]∧∃(n':Nat),n' < ab∧I [int i64 (IntKind.wrap i64 (n+(1:Int)))] [Zan cs 14 [Value.bool true],ae] [slice a c d,slice af ag ah] ad n')) False)) False)else chk (Zae v)
 (br (Zac v) (chk (Nat.ble 15 (List.length cs)) (ZaS (Zao aR aS aT aU aA aQ aV aO aN aP mkb b ac aa)∧([none,none]:List (Option Tok))=[none,none]∧∃(n':Nat),n' <
 ab∧I [int i64 (IntKind.wrap i64 (n+(1:Int)))] [Zan cs 14 [Value.bool true],ae] [slice a c d,slice af ag ah] ad n')) False)else chk (Zae v) (br (Zac v) (bif Zaj v then bif Zaj v then chk (Zae
 v) (br (Zac v) (chk (Nat.ble 15 (List.length cs)) (ZaS (Zao aR aS aT aU aA aQ aV aO aN aP mkb b ac aa)∧([none,none]:List (Option Tok))=[none,none]∧∃(n':Nat),n'
 < ab∧I [int i64 (IntKind.wrap i64 (n+(1:Int)))] [Zan cs 14 [Value.bool true],ae] [slice a c d,slice af ag ah] ad n')) False)else chk (Zae v) (br (Zac v) (chk (Zae v) (br (Zac v) (chk (Nat.ble 15
 (List.length cs)) (ZaS (Zao aR aS aT aU aA aQ aV aO aN aP mkb b ac aa)∧([none,none]:List (Option Tok))=[none,none]∧∃(n':Nat),n' < ab∧I [int i64 (IntKind.wrap
 i64 (n+(1:Int)))] [Zan cs 14 [Value.bool true],ae] [slice a c d,slice af ag ah] ad n')) False)) False)else chk (Zae v) (br (Zac v) (chk (Nat.ble 15 (List.length cs)) (ZaS (Zao aR
 aS aT aU aA aQ aV aO aN aP mkb b ac aa)∧([none,none]:List (Option Tok))=[none,none]∧∃(n':Nat),n' < ab∧I [int i64 (IntKind.wrap i64 (n+(1:Int)))] [Zan cs 14 [Value.bool true],
 ae] [slice a c d,slice af ag ah] ad n')) False)) (bif Zaj v then bif Zaj v then chk (Zae v) (br (Zac v) (chk (Nat.ble 15 (List.length cs)) (ZaS (Zao aR aS aT aU aA aQ aV
 aO aN aP mkb b ac aa)∧([none,none]:List (Option Tok))=[none,none]∧∃(n':Nat),n' < ab∧I [int i64 (IntKind.wrap i64 (n+(1:Int)))] [Zan cs 14 [Value.bool true],ae] [slice a c d,slice af ag
 ah] ad n')) False)else chk (Zae v) (br (Zac v) (chk (Zae v) (br (Zac v) (chk (Nat.ble 15 (List.length cs)) (ZaS (Zao aR aS aT aU aA aQ aV aO aN aP mkb b ac aa)∧
 ([none,none]:List (Option Tok))=[none,none]∧∃(n':Nat),n' < ab∧I [int i64 (IntKind.wrap i64 (n+(1:Int)))] [Zan cs 14 [Value.bool true],ae] [slice a c d,slice af ag ah] ad n')) False)) (chk (Zae
 v) (br (Zac v) (chk (Nat.ble 15 (List.length cs)) (ZaS (Zao aR aS aT aU aA aQ aV aO aN aP mkb b ac aa)∧([none,none]:List (Option Tok))=[none,none]∧∃(n':Nat),n'
 < ab∧I [int i64 (IntKind.wrap i64 (n+(1:Int)))] [Zan cs 14 [Value.bool true],ae] [slice a c d,slice af ag ah] ad n')) (chk (Nat.ble 15 (List.length cs)) (ZaS (Zao aR aS aT aU aA
 aQ aV aO aN aP mkb b ac aa)∧([none,none]:List (Option Tok))=[none,none]∧∃(n':Nat),n' < ab∧I [int i64 (IntKind.wrap i64 (n+(1:Int)))] [Zan cs 14 [Value.bool ai],ae] [slice a c d,
 slice af ag ah] ad n')))))else chk (Zae v) (br (Zac v) (chk (Nat.ble 15 (List.length cs)) (ZaS (Zao aR aS aT aU aA aQ aV aO aN aP mkb b ac aa)∧([none,none]:List
 (Option Tok))=[none,none]∧∃(n':Nat),n' < ab∧I [int i64 (IntKind.wrap i64 (n+(1:Int)))] [Zan cs 14 [Value.bool true],ae] [slice a c d,slice af ag ah] ad n')) (chk (Nat.ble 15 (List.length cs)) (ZaS
 (Zao aR aS aT aU aA aQ aV aO aN aP mkb b ac aa)∧([none,none]:List (Option Tok))=[none,none]∧∃(n':Nat),n' < ab∧I [int i64 (IntKind.wrap i64 (n+(1:Int)))]
 [Zan cs 14 [Value.bool ai],ae] [slice a c d,slice af ag ah] ad n')))))else chk (Zae v) (br (Zac v) (chk (Nat.ble 15 (List.length cs)) (ZaS (Zao aR aS aT aU aA aQ aV aO
 aN aP mkb b ac aa)∧([none,none]:List (Option Tok))=[none,none]∧∃(n':Nat),n' < ab∧I [int i64 (IntKind.wrap i64 (n+(1:Int)))] [Zan cs 14 [Value.bool true],ae] [slice a c d,slice af ag ah] ad
 n')) (chk (Nat.ble 15 (List.length cs)) (ZaS (Zao aR aS aT aU aA aQ aV aO aN aP mkb b ac aa)∧([none,none]:List (Option Tok))=[none,none]∧∃(n':Nat),n' < ab∧I
 [int i64 (IntKind.wrap i64 (n+(1:Int)))] [Zan cs 14 [Value.bool ai],ae] [slice a c d,slice af ag ah] ad n'))))) (chk (Nat.beq (List.length cs) 15&&Zcq cs) (Box.mk mkb [slice t0a t0n t0c,slice t1a t1n t1c]
 98 2 false true=Box.mk mkb [slice t0a t0n t0c,slice t1a t1n t1c] 98 2 false true∧R (agg (Array.mk cs)) m' [a1] [slice a aj c,slice al ak am]))
theorem ZdB(aR aS aT aU aA aQ aV:Int)(aO:Option Addr)(aN aP c0b c0o mkb:Nat)(t0a:Option Addr)(t0n t0c:Nat)(t1a:Option Addr)(t1n t1c:Nat)(m:Mem)(Y:Nat→Prop)(R:RTY)(h:Zck aR aS aT aU aA aQ aV aO aN aP c0b c0o mkb t0a t0n t0c t1a t1n t1c m Y R):CXY Try.prog 140 #[.agg #[.int .u8 aR,.int .u64 aS,.int .u64 aT,.int .u64 aU,.int .u64 aA,.int .i64 aQ,.int .i64 aV,.slice aO aN aP],.pointer (some ⟨c0b,c0o,none⟩)] m Y [⟨mkb,[.slice t0a t0n t0c,.slice t1a t1n t1c],98,2,false,true⟩] [⟨.slice t0a t0n t0c,4⟩,⟨.slice t1a t1n t1c,7⟩] R:=
 ZaL (E:=ZeE) Zaz mix Try.func140 [.v (.agg #[.int .u8 aR,.int .u64 aS,.int .u64 aT,.int .u64 aU,.int .u64 aA,.int .i64 aQ,.int .i64 aV,.slice aO aN aP]),.v (.pointer (some ⟨c0b,c0o,none⟩))] [⟨mkb,[.slice t0a t0n t0c,.slice t1a t1n t1c],98,2,false,true⟩] [900,901] [⟨.slice t0a t0n t0c,4⟩,⟨.slice t1a t1n t1c,7⟩] (by decide) (by kernel_rfl) (Eq.mp (by kernel_rfl) h)
noncomputable def ZeF:Env:={ EB with
 dr:=(fun i=>bif Nat.beq i 1 then[⟨0,[],[],none,[],[]⟩,⟨1,[2],[],none,[],[]⟩,⟨2,[2],[],none,[1],[]⟩,⟨3,[],[],none,[1,2],[]⟩,⟨4,[],[],none,[1,2,3],[]⟩]else[])
 borrow:=(fun i=>bif Nat.beq i 9 then[100000]else[])
 frzNew:=[2]
 last:=(fun i=>bif Nat.beq i 1 then true else false)
 lastK:=(fun i=>bif Nat.beq i 1 then 2 else 1)
 thaw:=true
 lentC:=(fun i=>bif Nat.beq i 9 then some [(900,4),(901,7)]else none) }
def Zcl(aR aS aT aU aA aQ aV:Int)(aO:Option Addr)(aN aP c0b c0o mkb:Nat)(t0a:Option Addr)(t0n t0c:Nat)(t1a:Option Addr)(t1n t1c:Nat)(m:Mem)(Y:Nat→Prop)(R:RTY):Prop:=
 ∀(b:Nat)(m':Mem),Mem.le m m'→Mem.reads m' b 0 [int u8 aR,int u64 aS,int u64 aT,int u64 aU,int u64 aA,int i64 aQ,int i64 aV,slice aO aN aP]→Mem.free m b→(∀(b' o:Nat) (u:
 Value),m' b' o=some u→m b' o=some u∨b'=b)→∀(b_1:Nat),∃(f:Fx),∃(v:Value),m' c0b c0o=some v∧∃(b_2:Nat),∃(o:Nat),aO=some (Addr.mk b_2 o none)∧Zag (0:Int) aN∧∃(v_1:
 Value),∃(v_2:Value),∃(v_3:Value),∃(v_4:Value),∃(v_5:Value),∃(v_6:Value),∃(v_7:Value),∃(v_8:Value),Mem.reads m' b_2 (o+0) [v_1,v_2,v_3,v_4,v_5,v_6,v_7,v_8]∧∃(Y_1:Nat→Prop),∃
 (R_1:Value→Mem→List (List Value)→List Value→Prop),CXY Try.prog 61 (Array.mk [v,agg (Array.mk [v_1,v_2,v_3,v_4,v_5,v_6,v_7,v_8])]) m' Y_1 [Box.mk mkb [slice t0a t0n t0c,slice t1a t1n t1c] 98 2 false
 true] [Tok.mk (slice t0a t0n t0c) 4,Tok.mk (slice t1a t1n t1c) 7] R_1∧(∀(t:Tok),t∈[Tok.mk (slice t0a t0n t0c) 4,Tok.mk (slice t1a t1n t1c) 7]→∀(b:Nat),Tok.blk t=some b→Y_1 b)∧(∀(b_3:Nat),Y_1
 b_3→(∃(t:Tok),t∈[Tok.mk (slice t0a t0n t0c) 4,Tok.mk (slice t1a t1n t1c) 7]∧Tok.blk t=some b_3)∨Mem.free (Mem.off m Y) b_3∧(∃(o:Nat),∃(v:Value),m' b_3 o=some v)∧b≠b_3∧True)∧(∀(v:
 Value) (m':Mem) (css:List (List Value)) (tvs:List Value),R_1 v m' css tvs→Shape.fits (Shape.agg [Shape.int u64,Shape.int u64,Shape.int u64,Shape.int u64,Shape.int u64,Shape.int u64,Shape.int u64,
 Shape.int u64,Shape.int u64,Shape.int u64,Shape.int u64,Shape.int u64,Shape.int u64,Shape.int u64,Shape.bool]) v=true)∧∀(n n_1 n_2 n_3 n_4 n_5 n_6 n_7 n_8 n_9 n_10 n_11 n_12 n_13:Int)(b:Bool) (m'_1:
 Mem),Mem.le (Mem.off m' Y_1) m'_1→(∀(b o:Nat)(u:Value),m'_1 b o=some u→m' b o=some u∨Y_1 b∨Mem.free m' b)→∀(cs:List Value)(a:Option Addr)(c d:Nat)(a_1:Option Addr)(c_1 d_1:Nat),R_1
 (agg (Array.mk [int u64 n,int u64 n_1,int u64 n_2,int u64 n_3,int u64 n_4,int u64 n_5,int u64 n_6,int u64 n_7,int u64 n_8,int u64 n_9,int u64 n_10,int u64 n_11,int u64 n_12,int u64 n_13,Value.bool b]))
 m'_1 [cs] [slice a c d,slice a_1 c_1 d_1]→Box.mk mkb [slice t0a t0n t0c,slice t1a t1n t1c] 98 2 false true=Box.mk mkb [slice t0a t0n t0c,slice t1a t1n t1c] 98 2 false true∧R (agg (Array.mk [int u64 n,int u64
 n_1,int u64 n_2,int u64 n_3,int u64 n_4,int u64 n_5,int u64 n_6,int u64 n_7,int u64 n_8,int u64 n_9,int u64 n_10,int u64 n_11,int u64 n_12,int u64 n_13,Value.bool b])) m'_1 [cs] [slice a c d,slice a_1 c_1
 d_1]
theorem ZdC(aR aS aT aU aA aQ aV:Int)(aO:Option Addr)(aN aP c0b c0o mkb:Nat)(t0a:Option Addr)(t0n t0c:Nat)(t1a:Option Addr)(t1n t1c:Nat)(m:Mem)(Y:Nat→Prop)(R:RTY)(h:Zcl aR aS aT aU aA aQ aV aO aN aP c0b c0o mkb t0a t0n t0c t1a t1n t1c m Y R):CXY Try.prog 143 #[.agg #[.int .u8 aR,.int .u64 aS,.int .u64 aT,.int .u64 aU,.int .u64 aA,.int .i64 aQ,.int .i64 aV,.slice aO aN aP],.pointer (some ⟨c0b,c0o,none⟩)] m Y [⟨mkb,[.slice t0a t0n t0c,.slice t1a t1n t1c],98,2,false,true⟩] [⟨.slice t0a t0n t0c,4⟩,⟨.slice t1a t1n t1c,7⟩] R:=
 ZaL (E:=ZeF) Zaz mix Try.func143 [.v (.agg #[.int .u8 aR,.int .u64 aS,.int .u64 aT,.int .u64 aU,.int .u64 aA,.int .i64 aQ,.int .i64 aV,.slice aO aN aP]),.v (.pointer (some ⟨c0b,c0o,none⟩))] [⟨mkb,[.slice t0a t0n t0c,.slice t1a t1n t1c],98,2,false,true⟩] [900,901] [⟨.slice t0a t0n t0c,4⟩,⟨.slice t1a t1n t1c,7⟩] (by decide) (by kernel_rfl) (Eq.mp (by kernel_rfl) h)
noncomputable def Ze7:Env:={ EB with
 loops:=(fun i=>bif Nat.beq i 6 then⟨[(18,.int .i64)],[6,100000],[(900,4),(901,7)],false⟩ else⟨[],[],[],false⟩)
 joins:=(fun i=>bif Nat.beq i 9 then some [(35,.bool)]else none)
 borrow:=(fun i=>bif Nat.beq i 26 then[100000]else bif Nat.beq i 41 then[100000]else bif Nat.beq i 54 then[100000]else[])
 frzNew:=[3]
 thaw:=true
 lentC:=(fun i=>bif Nat.beq i 26 then some [(900,4),(901,7)]else bif Nat.beq i 41 then some [(900,4),(901,7)]else bif Nat.beq i 54 then some [(900,4),(901,7)]else none) }
abbrev ZbQ:List Value:=[int u64 0,int u64 0,int u64 0,int u64 0,int u64 0,int u64 0,int u64 0,int u64 0,int u64 0,int u64 0,int u64 0,int u64 0,int u64 0,int u64 0,Value.bool true]
abbrev Zax:List Shape:=[Shape.int u64,Shape.int u64,Shape.int u64,Shape.int u64,Shape.int u64,Shape.int u64,Shape.int u64,Shape.int u64,Shape.int u64,Shape.int u64,Shape.int u64,Shape.int
 u64,Shape.int u64,Shape.int u64,Shape.bool]
abbrev Zak:Int→Int→Int→Int→Int→Int→Int→Int→Int→Int→Int→Int→Int→Int→Bool→List Value:=fun(n bb bc bd ag ah ai aj ak al am an ao ap:Int)(b:Bool)=>[int u64 n,int
 u64 bb,int u64 bc,int u64 bd,int u64 ag,int u64 ah,int u64 ai,int u64 aj,int u64 ak,int u64 al,int u64 am,int u64 an,int u64 ao,int u64 ap,Value.bool b]
abbrev ZeG:Int→Int→Int→Int→Int→Int→Int→Int→Int→Int→Int→Int→Int→Int→Bool→Nat→Option Box:=fun(n bb bc bd ag ah ai aj ak al am an ao ap:Int)(b:Bool)(bg:Nat)=>
 some (Box.mk bg (Zak n bb bc bd ag ah ai aj ak al am an ao ap b) 102 15 false true)
abbrev ZeH:Nat→List Value→Option Box:=fun(b:Nat)(cs:List Value)=>some (Box.mk b cs 102 15 false true)
abbrev ZeI:List Value:=[int u64 0,int u64 0,int u64 0,int u64 0,int u64 0,int u64 0,int u64 0,int u64 0,int u64 0,int u64 0,int u64 0,int u64 0,int u64 0,int u64 0,Value.bool false]
abbrev ZcC:Nat→Option Box:=fun(b:Nat)=>some (Box.mk b ZeI 102 15 false true)
abbrev ZcD:Int→Int→Int→Int→Int→Int→Int→Option Addr→Nat→Nat→Nat→Option Box:=fun(bX bG bH bI aW aZ bD:Int)(aX:Option Addr)(aY bC b:Nat)=>some
 (Box.mk b [int u8 bX,int u64 bG,int u64 bH,int u64 bI,int u64 aW,int i64 aZ,int i64 bD,slice aX aY bC] 41 8 true true)
abbrev ZeJ:Nat→List Value→Option Box:=fun(mkb:Nat)(cs:List Value)=>some (Box.mk mkb cs 98 2 false true)
abbrev Zbn:Int→Int→Int→Int→Int→Int→Int→Option Addr→Nat→Nat→Nat→Nat→Nat→Nat→List Value→Int→Int→Int→Int→Int→Int→Int→Int→Int→Int→Int→Int→Int→Int→
 Bool→List Value→Nat→List (Option Box):=fun(bX bG bH bI aW aZ bD:Int)(aX:Option Addr)(aY bC mkb b bg bh:Nat)(cs:List Value)(n bb bc bd ag ah ai aj ak al am an ao ap:Int) (bu
 : Bool) (bt:List Value) (av:Nat)=>[ZeG n bb bc bd ag ah ai aj ak al am an ao ap bu av,ZeH bh cs,ZcC bg,ZcD bX bG bH bI aW aZ bD
 aX aY bC b,ZeJ mkb bt]
abbrev Za7:Int→Int→Int→Int→Int→Int→Int→Int→Int→Int→Int→Int→Int→Int→List Value:=fun(n bb bc bd ag ah ai aj ak al am an ao ap:Int)=>[int u64 n,int u64 bb,int u64 bc,
 int u64 bd,int u64 ag,int u64 ah,int u64 ai,int u64 aj,int u64 ak,int u64 al,int u64 am,int u64 an,int u64 ao,int u64 ap,Value.bool true]
abbrev ZaB:Int→Int→Int→Int→Int→Int→Int→Option Addr→Nat→Nat→Nat→Nat→Nat→Nat→List (Option Box):=fun(bX bG bH bI aW aZ bD:Int)(aX:Option Addr) (aY
 bC mkb b bg bh:Nat)=>[some (Box.mk bh [] 102 15 false true),ZcC bg,ZcD bX bG bH bI aW aZ bD aX aY bC b,some (Box.mk mkb [] 98 2 false true)]
abbrev Za8:Int→Int→Int→Int→Int→Int→Int→Int→Int→Int→Int→Int→Int→Int→Int→Int→List Value:=fun(aZ n bb bc bd ag ah ai aj ak al am an ao ap be:Int)=>[int u64 bb,
 int u64 bc,int u64 bd,int u64 ag,int u64 ah,int u64 ai,int u64 aj,int u64 ak,int u64 al,int u64 am,int u64 an,int u64 ao,int u64 ap,int u64 be,Value.bool (decide (n ≥ aZ))]
def ZcE(p0b p0o:Nat)(bX bG bH bI aW aZ bD:Int)(aX:Option Addr)(aY bC mkb:Nat)(t0a:Option Addr)(t0n t0c:Nat)(t1a:Option Addr)(t1n t1c:Nat)(m:Mem)(Y:Nat→Prop)(R:RTY):Prop:=
 ∀(b:Nat)(m':Mem),Mem.le m m'→Mem.reads m' b 0 [int u8 bX,int u64 bG,int u64 bH,int u64 bI,int u64 aW,int i64 aZ,int i64 bD,slice aX aY bC]→Mem.free m b→(∀(b' o:Nat) (u:
 Value),m' b' o=some u→m b' o=some u∨b'=b)→∀(bg:Nat),br (bD == (-1:Int)) (∀(bh:Nat),∃(I:IT),(∃(n:Nat),I [int i64 0] [ZbQ,[slice t0a t0n t0c,slice t1a t1n t1c]] [slice
 t0a t0n t0c,slice t1a t1n t1c] m' n)∧∀(n:Int)(cs bt:List Value)(a:Option Addr)(bb c:Nat)(bm:Option Addr)(bc bn:Nat)(m':Mem)(bd:Nat),True→I [int i64 n] [cs,bt] [slice a bb c,slice bm bc
 bn] m' bd→br (decide (n < if(1:Int) > aZ then(1:Int)else aZ)) (∃(bu:Nat),∃(o:Nat),aX=some (Addr.mk bu o none)∧Zag (0:Int) aY∧∃(v:Value),∃(bx:Value),∃(bz:Value),∃(ca:
 Value),∃(cb:Value),∃(cc:Value),∃(cd:Value),∃(ce:Value),Mem.reads m' bu (o+0) [v,bx,bz,ca,cb,cc,cd,ce]∧∃(bo:Nat→Prop),∃(R:Value→Mem→List (List Value)→List Value→Prop),CXY
 Try.prog 61 (Array.mk [Value.pointer (some (Addr.mk p0b p0o none)),agg (Array.mk [v,bx,bz,ca,cb,cc,cd,ce])]) m' bo [Box.mk mkb bt 98 2 false true] [Tok.mk (slice a bb c) 4,Tok.mk (slice bm bc bn) 7] R∧(∀(t:
 Tok),t∈[Tok.mk (slice a bb c) 4,Tok.mk (slice bm bc bn) 7]→∀(b:Nat),Tok.blk t=some b→bo b)∧(∀(av:Nat),bo av→(∃(t:Tok),t∈[Tok.mk (slice a bb c) 4,Tok.mk (slice bm bc bn) 7]∧Tok.blk t=some
 av)∨Mem.free (Mem.off m Y) av∧(∃(o:Nat),∃(v:Value),m' av o=some v)∧b≠av∧True)∧(∀(v:Value)(m':Mem) (css:List (List Value)) (tvs:List Value),R v m' css tvs→Shape.fits (Shape.agg
 Zax) v=true)∧∀(ag ah ai aj ak al am an ao ap be bi bj bk:Int)(av:Bool)(ae:Mem),Mem.le (Mem.off m' bo) ae→(∀(b o:Nat)(u:Value),ae b o=some u→m' b o=some u∨bo b∨Mem.free m'
 b)→∀(bl:List Value)(a:Option Addr)(c d:Nat)(ab:Option Addr)(ac ad:Nat),R (agg (Array.mk (Zak ag ah ai aj ak al am an ao ap be bi bj bk av))) ae [bl] [slice a c d,slice ab ac ad]→∀
 (cf:Nat),∃(bv:Bool),br (bD == (-1:Int)) (ZaS (Zbn bX bG bH bI aW aZ bD aX aY bC mkb b bg bh cs ag ah ai aj ak al am an ao ap be bi bj bk av bl cf)∧[some (Tok.mk
 (slice a c d) 4),some (Tok.mk (slice ab ac ad) 7),some (Tok.mk (slice a c d) 4),some (Tok.mk (slice ab ac ad) 7),some (Tok.mk (slice a c d) 4),some (Tok.mk (slice ab ac ad) 7)]=[some (Tok.mk (slice a c d) 4),
 some (Tok.mk (slice ab ac ad) 7),some (Tok.mk (slice a c d) 4),some (Tok.mk (slice ab ac ad) 7),some (Tok.mk (slice a c d) 4),some (Tok.mk (slice ab ac ad) 7)]∧[Value.bool (n == IntKind.wrap i64 ((if(1:Int) >
 aZ then(1:Int)else aZ) - (1:Int)))]=[Value.bool bv]) (ZaS (Zbn bX bG bH bI aW aZ bD aX aY bC mkb b bg bh cs ag ah ai aj ak al am an ao ap be bi bj bk av bl cf)∧
 [some (Tok.mk (slice a c d) 4),some (Tok.mk (slice ab ac ad) 7),some (Tok.mk (slice a c d) 4),some (Tok.mk (slice ab ac ad) 7),some (Tok.mk (slice a c d) 4),some (Tok.mk (slice ab ac ad) 7)]=[some (Tok.mk (slice
 a c d) 4),some (Tok.mk (slice ab ac ad) 7),some (Tok.mk (slice a c d) 4),some (Tok.mk (slice ab ac ad) 7),some (Tok.mk (slice a c d) 4),some (Tok.mk (slice ab ac ad) 7)]∧[Value.bool false]=[Value.bool bv])∧br
 bv (∃(af:Nat→Prop),∃(R:Value→Mem→List (List Value)→List Value→Prop),CXY Try.prog 164 (Array.mk [Value.pointer (some (Addr.mk p0b p0o none)),agg (Array.mk [int u64 an,int u64 ao,int u64 ap,int u64
 be,int u64 bi,int u64 bj,int u64 bk]),agg (Array.mk [int u64 ag,int u64 ah,int u64 ai,int u64 aj,int u64 ak,int u64 al,int u64 am])]) ae af [Box.mk mkb bl 98 2 false true] [Tok.mk (slice a c d) 4,Tok.mk
 (slice ab ac ad) 7] R∧(∀(t:Tok),t∈[Tok.mk (slice a c d) 4,Tok.mk (slice ab ac ad) 7]→∀(b:Nat),Tok.blk t=some b→af b)∧(∀(aa:Nat),af aa→(∃(t:Tok),t∈[Tok.mk (slice a c d) 4,Tok.mk (slice
 ab ac ad) 7]∧Tok.blk t=some aa)∨Mem.free (Mem.off m Y) aa∧(∃(o:Nat),∃(v:Value),ae aa o=some v)∧b≠aa∧True)∧(∀(v:Value)(m':Mem) (css:List (List Value)) (tvs:List Value),R v m' css tvs
 → Shape.fits (Shape.tup []) v=true)∧∀(m':Mem),Mem.le (Mem.off ae af) m'→(∀(b o:Nat)(u:Value),m' b o=some u→ae b o=some u∨af b∨Mem.free ae b)→∀(bw:List Value)(a:Option Addr)(c d:Nat)
 (aq:Option Addr) (ar au:Nat),R (Value.tuple (Array.mk [])) m' [bw] [slice a c d,slice aq ar au]→br av (∃(aw:Nat→Prop),∃(R:Value→Mem→List (List Value)→List Value→Prop),CXY Try.prog 139 (Array.mk
 [Value.pointer (some (Addr.mk p0b p0o none)),agg (Array.mk cs),agg (Array.mk (Za7 ag ah ai aj ak al am an ao ap be bi bj bk))]) m' aw [Box.mk mkb bw 98 2 false true] [Tok.mk (slice a c d) 4,Tok.mk
 (slice aq ar au) 7] R∧(∀(t:Tok),t∈[Tok.mk (slice a c d) 4,Tok.mk (slice aq ar au) 7]→∀(b:Nat),Tok.blk t=some b→aw b)∧(∀(aa:Nat),aw aa→(∃(t:Tok),t∈[Tok.mk (slice a c d) 4,Tok.mk (slice
 aq ar au) 7]∧Tok.blk t=some aa)∨Mem.free (Mem.off m Y) aa∧(∃(o:Nat),∃(v:Value),m' aa o=some v)∧b≠aa∧True)∧(∀(v:Value)(m':Mem) (css:List (List Value)) (tvs:List Value),R v m' css tvs
 → Shape.fits (Shape.agg Zax) v=true)∧∀(ax ay az a0 a1 a2 a3 a4 a5 a6 a7 a8 a9 ba:Int)(aa:Bool)(bf:Mem),Mem.le (Mem.off m' aw) bf→(∀(b o:Nat)(u:Value),bf b o=some u→m' b o =
 some u∨aw b∨Mem.free m' b)→∀(cs:List Value)(a:Option Addr)(c d:Nat)(bp:Option Addr)(bq bs:Nat),R (agg (Array.mk (Zak ax ay az a0 a1 a2 a3 a4 a5 a6 a7 a8 a9 ba aa))) bf [cs] [slice a
 c d,slice bp bq bs]→ZaS (ZaB bX bG bH bI aW aZ bD aX aY bC mkb b bg bh)∧([none,none]:List (Option Tok))=[none,none]∧∃(n':Nat),n' < bd∧I [int i64
 (IntKind.wrap i64 (n+(1:Int)))] [Zak ax ay az a0 a1 a2 a3 a4 a5 a6 a7 a8 a9 ba aa,cs] [slice a c d,slice bp bq bs] bf n') (∃(aw:Nat→Prop),∃(R:Value→Mem→List (List Value)→List Value→
 Prop),CXY Try.prog 139 (Array.mk [Value.pointer (some (Addr.mk p0b p0o none)),agg (Array.mk cs),agg (Array.mk (Za8 aZ n ag ah ai aj ak al am an ao ap be bi bj bk))]) m' aw [Box.mk mkb bw 98 2 false
 true] [Tok.mk (slice a c d) 4,Tok.mk (slice aq ar au) 7] R∧(∀(t:Tok),t∈[Tok.mk (slice a c d) 4,Tok.mk (slice aq ar au) 7]→∀(b:Nat),Tok.blk t=some b→aw b)∧(∀(aa:Nat),aw aa→(∃(t:Tok),t ∈
 [Tok.mk (slice a c d) 4,Tok.mk (slice aq ar au) 7]∧Tok.blk t=some aa)∨Mem.free (Mem.off m Y) aa∧(∃(o:Nat),∃(v:Value),m' aa o=some v)∧b≠aa∧True)∧(∀(v:Value)(m':Mem) (css:List (List
 Value)) (tvs:List Value),R v m' css tvs→Shape.fits (Shape.agg Zax) v=true)∧∀(ax ay az a0 a1 a2 a3 a4 a5 a6 a7 a8 a9 ba:Int)(aa:Bool)(bf:Mem),Mem.le (Mem.off m' aw) bf→(∀(b o:Nat)
 (u:Value),bf b o=some u→m' b o=some u∨aw b∨Mem.free m' b)→∀(cs:List Value)(a:Option Addr)(c d:Nat)(bp:Option Addr)(bq bs:Nat),R (agg (Array.mk (Zak ax ay az a0 a1 a2 a3 a4
 a5 a6 a7 a8 a9 ba aa))) bf [cs] [slice a c d,slice bp bq bs]→ZaS (ZaB bX bG bH bI aW aZ bD aX aY bC mkb b bg bh)∧([none,none]:List (Option Tok))=[none,none]∧∃(n'
 : Nat),n' < bd∧I [int i64 (IntKind.wrap i64 (n+(1:Int)))] [Zak ax ay az a0 a1 a2 a3 a4 a5 a6 a7 a8 a9 ba aa,cs] [slice a c d,slice bp bq bs] bf n')) (br av (∃(af:Nat→Prop),∃(R:Value→
 Mem→List (List Value)→List Value→Prop),CXY Try.prog 139 (Array.mk [Value.pointer (some (Addr.mk p0b p0o none)),agg (Array.mk cs),agg (Array.mk (Za7 ag ah ai aj ak al am an ao ap be bi bj bk))])
 ae af [Box.mk mkb bl 98 2 false true] [Tok.mk (slice a c d) 4,Tok.mk (slice ab ac ad) 7] R∧(∀(t:Tok),t∈[Tok.mk (slice a c d) 4,Tok.mk (slice ab ac ad) 7]→∀(b:Nat),Tok.blk t=some b→af b)∧(∀(aa:
 Nat),af aa→(∃(t:Tok),t∈[Tok.mk (slice a c d) 4,Tok.mk (slice ab ac ad) 7]∧Tok.blk t=some aa)∨Mem.free (Mem.off m Y) aa∧(∃(o:Nat),∃(v:Value),ae aa o=some v)∧b≠aa∧True)∧(∀(v:Value)
 (m':Mem) (css:List (List Value)) (tvs:List Value),R v m' css tvs→Shape.fits (Shape.agg Zax) v=true)∧∀(ax ay az a0 a1 a2 a3 a4 a5 a6 a7 a8 a9 ba:Int)(aa:Bool)(m':Mem),Mem.le
 (Mem.off ae af) m'→(∀(b o:Nat)(u:Value),m' b o=some u→ae b o=some u∨af b∨Mem.free ae b)→∀(cs:List Value)(a:Option Addr)(c d:Nat)(aq:Option Addr)(ar au:Nat),R (agg (Array.mk
 (Zak ax ay az a0 a1 a2 a3 a4 a5 a6 a7 a8 a9 ba aa))) m' [cs] [slice a c d,slice aq ar au]→ZaS (ZaB bX bG bH bI aW aZ bD aX aY bC mkb b bg bh)∧([none,none]
 : List (Option Tok))=[none,none]∧∃(n':Nat),n' < bd∧I [int i64 (IntKind.wrap i64 (n+(1:Int)))] [Zak ax ay az a0 a1 a2 a3 a4 a5 a6 a7 a8 a9 ba aa,cs] [slice a c d,slice aq ar au] m' n') (∃
 (af:Nat→Prop),∃(R:Value→Mem→List (List Value)→List Value→Prop),CXY Try.prog 139 (Array.mk [Value.pointer (some (Addr.mk p0b p0o none)),agg (Array.mk cs),agg (Array.mk (Za8 aZ n ag
 ah ai aj ak al am an ao ap be bi bj bk))]) ae af [Box.mk mkb bl 98 2 false true] [Tok.mk (slice a c d) 4,Tok.mk (slice ab ac ad) 7] R∧(∀(t:Tok),t∈[Tok.mk (slice a c d) 4,Tok.mk (slice ab ac ad) 7]→∀(b:
 Nat),Tok.blk t=some b→af b)∧(∀(aa:Nat),af aa→(∃(t:Tok),t∈[Tok.mk (slice a c d) 4,Tok.mk (slice ab ac ad) 7]∧Tok.blk t=some aa)∨Mem.free (Mem.off m Y) aa∧(∃(o:Nat),∃(v:Value),ae aa o =
 some v)∧b≠aa∧True)∧(∀(v:Value)(m':Mem) (css:List (List Value)) (tvs:List Value),R v m' css tvs→Shape.fits (Shape.agg Zax) v=true)∧∀(ax ay az a0 a1 a2 a3 a4 a5 a6 a7 a8 a9 ba:
 Int) (aa:Bool) (m':Mem),Mem.le (Mem.off ae af) m'→(∀(b o:Nat)(u:Value),m' b o=some u→ae b o=some u∨af b∨Mem.free ae b)→∀(cs:List Value)(a:Option Addr)(c d:Nat)(aq:Option Addr) (ar
 au:Nat),R (agg (Array.mk (Zak ax ay az a0 a1 a2 a3 a4 a5 a6 a7 a8 a9 ba aa))) m' [cs] [slice a c d,slice aq ar au]→ZaS (ZaB bX bG bH bI aW aZ bD aX aY bC
 mkb b bg bh)∧([none,none]:List (Option Tok))=[none,none]∧∃(n':Nat),n' < bd∧I [int i64 (IntKind.wrap i64 (n+(1:Int)))] [Zak ax ay az a0 a1 a2 a3 a4 a5 a6 a7 a8 a9 ba aa,cs] [slice a c
 d,slice aq ar au] m' n'))) (chk (Nat.beq (List.length cs) 15&&Zcq cs) (Box.mk mkb [slice t0a t0n t0c,slice t1a t1n t1c] 98 2 false true=Box.mk mkb [slice t0a t0n t0c,slice t1a t1n t1c] 98 2 false true∧R (agg
 (Array.mk cs)) m' [bt] [slice a bb c,slice bm bc bn]))) (∀(bh:Nat),∃(I:IT),(∃(n:Nat),I [int i64 0] [ZbQ,[slice t0a t0n t0c,slice t1a t1n t1c]] [slice t0a t0n t0c,slice t1a t1n t1c] m' n)
 ∧ ∀(n:Int)(cs bt:List Value)(a:Option Addr)(bb c:Nat)(bm:Option Addr)(bc bn:Nat)(m':Mem)(bd:Nat),True→I [int i64 n] [cs,bt] [slice a bb c,slice bm bc bn] m' bd→br (decide (n < bD)) (∃
 (bu:Nat),∃(o:Nat),aX=some (Addr.mk bu o none)∧Zag (0:Int) aY∧∃(v:Value),∃(bx:Value),∃(bz:Value),∃(ca:Value),∃(cb:Value),∃(cc:Value),∃(cd:Value),∃(ce:Value),
 Mem.reads m' bu (o+0) [v,bx,bz,ca,cb,cc,cd,ce]∧∃(bo:Nat→Prop),∃(R:Value→Mem→List (List Value)→List Value→Prop),CXY Try.prog 61 (Array.mk [Value.pointer (some (Addr.mk p0b p0o none)),agg
 (Array.mk [v,bx,bz,ca,cb,cc,cd,ce])]) m' bo [Box.mk mkb bt 98 2 false true] [Tok.mk (slice a bb c) 4,Tok.mk (slice bm bc bn) 7] R∧(∀(t:Tok),t∈[Tok.mk (slice a bb c) 4,Tok.mk (slice bm bc bn) 7]→∀(b:
 Nat),Tok.blk t=some b→bo b)∧(∀(av:Nat),bo av→(∃(t:Tok),t∈[Tok.mk (slice a bb c) 4,Tok.mk (slice bm bc bn) 7]∧Tok.blk t=some av)∨Mem.free (Mem.off m Y) av∧(∃(o:Nat),∃(v:Value),m' av o
 = some v)∧b≠av∧True)∧(∀(v:Value)(m':Mem) (css:List (List Value)) (tvs:List Value),R v m' css tvs→Shape.fits (Shape.agg Zax) v=true)∧∀(ag ah ai aj ak al am an ao ap be bi bj bk:
 Int) (av:Bool) (ae:Mem),Mem.le (Mem.off m' bo) ae→(∀(b o:Nat)(u:Value),ae b o=some u→m' b o=some u∨bo b∨Mem.free m' b)→∀(bl:List Value)(a:Option Addr)(c d:Nat)(ab:Option Addr) (ac
 ad:Nat),R (agg (Array.mk (Zak ag ah ai aj ak al am an ao ap be bi bj bk av))) ae [bl] [slice a c d,slice ab ac ad]→∀(cf:Nat),∃(bv:Bool),br (bD == (-1:Int)) (ZaS (Zbn
 bX bG bH bI aW aZ bD aX aY bC mkb b bg bh cs ag ah ai aj ak al am an ao ap be bi bj bk av bl cf)∧[some (Tok.mk (slice a c d) 4),some (Tok.mk (slice ab ac ad) 7),some (Tok.mk (slice a c d) 4),
 some (Tok.mk (slice ab ac ad) 7),some (Tok.mk (slice a c d) 4),some (Tok.mk (slice ab ac ad) 7)]=[some (Tok.mk (slice a c d) 4),some (Tok.mk (slice ab ac ad) 7),some (Tok.mk (slice a c d) 4),some (Tok.mk (slice
 ab ac ad) 7),some (Tok.mk (slice a c d) 4),some (Tok.mk (slice ab ac ad) 7)]∧[Value.bool (n == IntKind.wrap i64 (bD - (1:Int)))]=[Value.bool bv]) (ZaS (Zbn bX bG bH bI aW aZ bD
 aX aY bC mkb b bg bh cs ag ah ai aj ak al am an ao ap be bi bj bk av bl cf)∧[some (Tok.mk (slice a c d) 4),some (Tok.mk (slice ab ac ad) 7),some (Tok.mk (slice a c d) 4),some (Tok.mk (slice ab ac ad) 7),
 some (Tok.mk (slice a c d) 4),some (Tok.mk (slice ab ac ad) 7)]=[some (Tok.mk (slice a c d) 4),some (Tok.mk (slice ab ac ad) 7),some (Tok.mk (slice a c d) 4),some (Tok.mk (slice ab ac ad) 7),some (Tok.mk (slice a
 c d) 4),some (Tok.mk (slice ab ac ad) 7)]∧[Value.bool false]=[Value.bool bv])∧br bv (∃(af:Nat→Prop),∃(R:Value→Mem→List (List Value)→List Value→Prop),CXY Try.prog 164 (Array.mk [Value.pointer
 (some (Addr.mk p0b p0o none)),agg (Array.mk [int u64 an,int u64 ao,int u64 ap,int u64 be,int u64 bi,int u64 bj,int u64 bk]),agg (Array.mk [int u64 ag,int u64 ah,int u64 ai,int u64 aj,int u64 ak,int u64 al,
 int u64 am])]) ae af [Box.mk mkb bl 98 2 false true] [Tok.mk (slice a c d) 4,Tok.mk (slice ab ac ad) 7] R∧(∀(t:Tok),t∈[Tok.mk (slice a c d) 4,Tok.mk (slice ab ac ad) 7]→∀(b:Nat),Tok.blk t=some b→af
 b)∧(∀(aa:Nat),af aa→(∃(t:Tok),t∈[Tok.mk (slice a c d) 4,Tok.mk (slice ab ac ad) 7]∧Tok.blk t=some aa)∨Mem.free (Mem.off m Y) aa∧(∃(o:Nat),∃(v:Value),ae aa o=some v)∧b≠aa∧True)∧(∀
 (v:Value) (m':Mem) (css:List (List Value)) (tvs:List Value),R v m' css tvs→Shape.fits (Shape.tup []) v=true)∧∀(m':Mem),Mem.le (Mem.off ae af) m'→(∀(b o:Nat)(u:Value),m' b o=some u→ae b o
 = some u∨af b∨Mem.free ae b)→∀(bw:List Value)(a:Option Addr)(c d:Nat)(aq:Option Addr)(ar au:Nat),R (Value.tuple (Array.mk [])) m' [bw] [slice a c d,slice aq ar au]→br av (∃(aw:Nat→Prop),∃
 (R:Value→Mem→List (List Value)→List Value→Prop),CXY Try.prog 139 (Array.mk [Value.pointer (some (Addr.mk p0b p0o none)),agg (Array.mk cs),agg (Array.mk (Za7 ag ah ai aj ak al am an ao ap be
 bi bj bk))]) m' aw [Box.mk mkb bw 98 2 false true] [Tok.mk (slice a c d) 4,Tok.mk (slice aq ar au) 7] R∧(∀(t:Tok),t∈[Tok.mk (slice a c d) 4,Tok.mk (slice aq ar au) 7]→∀(b:Nat),Tok.blk t=some b→aw b)
 ∧ (∀(aa:Nat),aw aa→(∃(t:Tok),t∈[Tok.mk (slice a c d) 4,Tok.mk (slice aq ar au) 7]∧Tok.blk t=some aa)∨Mem.free (Mem.off m Y) aa∧(∃(o:Nat),∃(v:Value),m' aa o=some v)∧b≠aa∧True)∧(∀(v
 : Value) (m':Mem) (css:List (List Value)) (tvs:List Value),R v m' css tvs→Shape.fits (Shape.agg Zax) v=true)∧∀(ax ay az a0 a1 a2 a3 a4 a5 a6 a7 a8 a9 ba:Int)(aa:Bool)(bf:Mem),
 Mem.le (Mem.off m' aw) bf→(∀(b o:Nat)(u:Value),bf b o=some u→m' b o=some u∨aw b∨Mem.free m' b)→∀(cs:List Value)(a:Option Addr)(c d:Nat)(bp:Option Addr)(bq bs:Nat),R (agg (Array.mk
 (Zak ax ay az a0 a1 a2 a3 a4 a5 a6 a7 a8 a9 ba aa))) bf [cs] [slice a c d,slice bp bq bs]→ZaS (ZaB bX bG bH bI aW aZ bD aX aY bC mkb b bg bh)∧([none,none]
 : List (Option Tok))=[none,none]∧∃(n':Nat),n' < bd∧I [int i64 (IntKind.wrap i64 (n+(1:Int)))] [Zak ax ay az a0 a1 a2 a3 a4 a5 a6 a7 a8 a9 ba aa,cs] [slice a c d,slice bp bq bs] bf n') (∃
 (aw:Nat→Prop),∃(R:Value→Mem→List (List Value)→List Value→Prop),CXY Try.prog 139 (Array.mk [Value.pointer (some (Addr.mk p0b p0o none)),agg (Array.mk cs),agg (Array.mk (Za8 aZ n ag
 ah ai aj ak al am an ao ap be bi bj bk))]) m' aw [Box.mk mkb bw 98 2 false true] [Tok.mk (slice a c d) 4,Tok.mk (slice aq ar au) 7] R∧(∀(t:Tok),t∈[Tok.mk (slice a c d) 4,Tok.mk (slice aq ar au) 7]→∀(b:
 Nat),Tok.blk t=some b→aw b)∧(∀(aa:Nat),aw aa→(∃(t:Tok),t∈[Tok.mk (slice a c d) 4,Tok.mk (slice aq ar au) 7]∧Tok.blk t=some aa)∨Mem.free (Mem.off m Y) aa∧(∃(o:Nat),∃(v:Value),m' aa o =
 some v)∧b≠aa∧True)∧(∀(v:Value)(m':Mem) (css:List (List Value)) (tvs:List Value),R v m' css tvs→Shape.fits (Shape.agg Zax) v=true)∧∀(ax ay az a0 a1 a2 a3 a4 a5 a6 a7 a8 a9 ba:
 Int) (aa:Bool) (bf:Mem),Mem.le (Mem.off m' aw) bf→(∀(b o:Nat)(u:Value),bf b o=some u→m' b o=some u∨aw b∨Mem.free m' b)→∀(cs:List Value)(a:Option Addr)(c d:Nat)(bp:Option Addr) (bq
 bs:Nat),R (agg (Array.mk (Zak ax ay az a0 a1 a2 a3 a4 a5 a6 a7 a8 a9 ba aa))) bf [cs] [slice a c d,slice bp bq bs]→ZaS (ZaB bX bG bH bI aW aZ bD aX aY bC
 mkb b bg bh)∧([none,none]:List (Option Tok))=[none,none]∧∃(n':Nat),n' < bd∧I [int i64 (IntKind.wrap i64 (n+(1:Int)))] [Zak ax ay az a0 a1 a2 a3 a4 a5 a6 a7 a8 a9 ba aa,cs] [slice a c
 d,slice bp bq bs] bf n')) (br av (∃(af:Nat→Prop),∃(R:Value→Mem→List (List Value)→List Value→Prop),CXY Try.prog 139 (Array.mk [Value.pointer (some (Addr.mk p0b p0o none)),agg (Array.mk cs),agg
 (Array.mk (Za7 ag ah ai aj ak al am an ao ap be bi bj bk))]) ae af [Box.mk mkb bl 98 2 false true] [Tok.mk (slice a c d) 4,Tok.mk (slice ab ac ad) 7] R∧(∀(t:Tok),t∈[Tok.mk (slice a c d) 4,
 Tok.mk (slice ab ac ad) 7]→∀(b:Nat),Tok.blk t=some b→af b)∧(∀(aa:Nat),af aa→(∃(t:Tok),t∈[Tok.mk (slice a c d) 4,Tok.mk (slice ab ac ad) 7]∧Tok.blk t=some aa)∨Mem.free (Mem.off m Y) aa∧(∃
 (o:Nat),∃(v:Value),ae aa o=some v)∧b≠aa∧True)∧(∀(v:Value)(m':Mem) (css:List (List Value)) (tvs:List Value),R v m' css tvs→Shape.fits (Shape.agg Zax) v=true)∧∀(ax ay az
 a0 a1 a2 a3 a4 a5 a6 a7 a8 a9 ba:Int) (aa:Bool) (m':Mem),Mem.le (Mem.off ae af) m'→(∀(b o:Nat)(u:Value),m' b o=some u→ae b o=some u∨af b∨Mem.free ae b)→∀(cs:List Value)(a:Option Addr)
 (c d:Nat) (aq:Option Addr) (ar au:Nat),R (agg (Array.mk (Zak ax ay az a0 a1 a2 a3 a4 a5 a6 a7 a8 a9 ba aa))) m' [cs] [slice a c d,slice aq ar au]→ZaS (ZaB bX bG bH
 bI aW aZ bD aX aY bC mkb b bg bh)∧([none,none]:List (Option Tok))=[none,none]∧∃(n':Nat),n' < bd∧I [int i64 (IntKind.wrap i64 (n+(1:Int)))] [Zak ax ay az a0 a1 a2 a3
 a4 a5 a6 a7 a8 a9 ba aa,cs] [slice a c d,slice aq ar au] m' n') (∃(af:Nat→Prop),∃(R:Value→Mem→List (List Value)→List Value→Prop),CXY Try.prog 139 (Array.mk [Value.pointer (some (Addr.mk p0b p0o
 none)),agg (Array.mk cs),agg (Array.mk (Za8 aZ n ag ah ai aj ak al am an ao ap be bi bj bk))]) ae af [Box.mk mkb bl 98 2 false true] [Tok.mk (slice a c d) 4,Tok.mk (slice ab ac ad) 7] R∧(∀(t:
 Tok),t∈[Tok.mk (slice a c d) 4,Tok.mk (slice ab ac ad) 7]→∀(b:Nat),Tok.blk t=some b→af b)∧(∀(aa:Nat),af aa→(∃(t:Tok),t∈[Tok.mk (slice a c d) 4,Tok.mk (slice ab ac ad) 7]∧Tok.blk t=some
 aa)∨Mem.free (Mem.off m Y) aa∧(∃(o:Nat),∃(v:Value),ae aa o=some v)∧b≠aa∧True)∧(∀(v:Value)(m':Mem) (css:List (List Value)) (tvs:List Value),R v m' css tvs→Shape.fits (Shape.agg
 Zax) v=true)∧∀(ax ay az a0 a1 a2 a3 a4 a5 a6 a7 a8 a9 ba:Int)(aa:Bool)(m':Mem),Mem.le (Mem.off ae af) m'→(∀(b o:Nat)(u:Value),m' b o=some u→ae b o=some u∨af b∨Mem.free ae
 b)→∀(cs:List Value)(a:Option Addr)(c d:Nat)(aq:Option Addr)(ar au:Nat),R (agg (Array.mk (Zak ax ay az a0 a1 a2 a3 a4 a5 a6 a7 a8 a9 ba aa))) m' [cs] [slice a c d,slice aq ar au]→
 ZaS (ZaB bX bG bH bI aW aZ bD aX aY bC mkb b bg bh)∧([none,none]:List (Option Tok))=[none,none]∧∃(n':Nat),n' < bd∧I [int i64 (IntKind.wrap i64 (n+(1:Int)))]
 [Zak ax ay az a0 a1 a2 a3 a4 a5 a6 a7 a8 a9 ba aa,cs] [slice a c d,slice aq ar au] m' n'))) (chk (Nat.beq (List.length cs) 15&&Zcq cs) (Box.mk mkb [slice t0a t0n t0c,slice t1a t1n t1c] 98 2 false
 true=Box.mk mkb [slice t0a t0n t0c,slice t1a t1n t1c] 98 2 false true∧R (agg (Array.mk cs)) m' [bt] [slice a bb c,slice bm bc bn])))
theorem ZdZ(p0b p0o:Nat)(bX bG bH bI aW aZ bD:Int)(aX:Option Addr)(aY bC mkb:Nat)(t0a:Option Addr)(t0n t0c:Nat)(t1a:Option Addr)(t1n t1c:Nat)(m:Mem)(Y:Nat→Prop)(R:RTY)(h:ZcE p0b p0o bX bG bH bI aW aZ bD aX aY bC mkb t0a t0n t0c t1a t1n t1c m Y R):CXY Try.prog 142 #[.pointer (some ⟨p0b,p0o,none⟩),.agg #[.int .u8 bX,.int .u64 bG,.int .u64 bH,.int .u64 bI,.int .u64 aW,.int .i64 aZ,.int .i64 bD,.slice aX aY bC]] m Y [⟨mkb,[.slice t0a t0n t0c,.slice t1a t1n t1c],98,2,false,true⟩] [⟨.slice t0a t0n t0c,4⟩,⟨.slice t1a t1n t1c,7⟩] R:=
 ZaL (E:=Ze7) Zaz mix Try.func142 [.v (.pointer (some ⟨p0b,p0o,none⟩)),.v (.agg #[.int .u8 bX,.int .u64 bG,.int .u64 bH,.int .u64 bI,.int .u64 aW,.int .i64 aZ,.int .i64 bD,.slice aX aY bC])] [⟨mkb,[.slice t0a t0n t0c,.slice t1a t1n t1c],98,2,false,true⟩] [900,901] [⟨.slice t0a t0n t0c,4⟩,⟨.slice t1a t1n t1c,7⟩] (by decide) (by kernel_rfl) (Eq.mp (by kernel_rfl) h)
end Go.Proofs.Ytplacemlpkhmfaa
