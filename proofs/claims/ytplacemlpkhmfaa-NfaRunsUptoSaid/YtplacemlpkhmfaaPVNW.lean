/- Part of the proof: conditions and contracts of functions of this program. No condition of its own. -/
import Derived.Test.YtplacemlpkhmfaaPEnv
import Derived.Test.YtplacemlpkhmfaaMc
import Derived.Test.YtplacemlpkhmfaaPC17RC
import Derived.Test.YtplacemlpkhmfaaMr
import Derived.Test.YtplacemlpkhmfaaPVNU
set_option linter.unusedVariables false
namespace Go.Proofs.Ytplacemlpkhmfaa
open Go Go.Eng Go.Proofs Go.RowKit
open Go.Value (int slice agg)
open Go.IntKind (u8 u64 i64)
set_option maxRecDepth 100000
noncomputable def Zk7:Env:={ EB with
 loops:=(fun i=>bif Nat.beq i 3 then⟨[(7,.int .i64),(27,.int .i64)],[],[],false⟩ else⟨[],[],[],false⟩)
 joins:=(fun i=>bif Nat.beq i 7 then some [(6,.bool)]else none)
 frzNew:=[3] }
def ZfK(aL:Option Addr)(aA aM:Nat)(aK:Option Addr)(aB aN:Nat)(aG:Option Addr)(aD aJ:Nat)(aH:Option Addr)(aE aI:Nat)(aC:Bool)(p1 p2:Int)(m:Mem)(R:RT):Prop:=
 ∀(b:Nat)(m':Mem),Mem.le m m'→Mem.reads m' b 0 [slice aL aA aM,slice aK aB aN,slice aG aD aJ,slice aH aE aI,Value.bool aC]→(((0:Int)≤if IntKind.wrap i64 (p1+(1:
 Int)) < (↑aB:Int)then IntKind.wrap i64 (p1+(1:Int))else(↑aB:Int))∧(if IntKind.wrap i64 (p1+(1:Int)) < (↑aB:Int)then IntKind.wrap i64 (p1+(1:Int))else(↑aB:Int))≤(↑aN:Int))∧
 ∃(I:IT),(∃(n:Nat),I [int i64 (IntKind.wrap i64 ((↑aD:Int)+(↑aE:Int))),int i64 0] [] [] m' n)∧∀(n n_1:Int)(m'_1:Mem)(n_2:Nat),Mem.le m' m'_1→I [int i64 n,int i64 n_1] [] [] m'_1 n_2→
 br (decide (n_1 < (↑(Int.toNat (if IntKind.wrap i64 (p1+(1:Int)) < (↑aB:Int)then IntKind.wrap i64 (p1+(1:Int))else(↑aB:Int)) - 0):Int))) (∃(b_1:Nat),∃(o:Nat),Za2 aK 0 aN 1=some
 (Addr.mk b_1 o none)∧Zac n_1 (Int.toNat (if IntKind.wrap i64 (p1+(1:Int)) < (↑aB:Int)then IntKind.wrap i64 (p1+(1:Int))else(↑aB:Int)) - 0)∧∃(v:Value),m'_1 b_1 (o+Int.toNat n_1*1) =
 some v∧chk (Zc8 v) ([some (Box.mk b [slice aL aA aM,slice aK aB aN,slice aG aD aJ,slice aH aE aI,Value.bool aC] 26 5 true true)]=[some (Box.mk b [slice aL aA aM,
 slice aK aB aN,slice aG aD aJ,slice aH aE aI,Value.bool aC] 26 5 true true)]∧∃(n':Nat),n' < n_2∧I [int i64 (IntKind.wrap i64 (n+(↑(slN v):Int))),int i64 (IntKind.wrap i64
 (n_1+(1:Int)))] [] [] m'_1 n')) (∃(b_1:Bool),br (decide ((↑aA:Int)≤p1)) (br (decide ((↑aB:Int)≤p1)) ([some (Box.mk b [slice aL aA aM,slice aK aB aN,slice aG aD aJ,
 slice aH aE aI,Value.bool aC] 26 5 true true)]=[some (Box.mk b [slice aL aA aM,slice aK aB aN,slice aG aD aJ,slice aH aE aI,Value.bool aC] 26 5 true true)]∧
 [Value.bool (decide (n≤p2))]=[Value.bool b_1]) ([some (Box.mk b [slice aL aA aM,slice aK aB aN,slice aG aD aJ,slice aH aE aI,Value.bool aC] 26 5 true true)]=[some (Box.mk
 b [slice aL aA aM,slice aK aB aN,slice aG aD aJ,slice aH aE aI,Value.bool aC] 26 5 true true)]∧[Value.bool false]=[Value.bool b_1])) ([some (Box.mk b [slice aL aA
 aM,slice aK aB aN,slice aG aD aJ,slice aH aE aI,Value.bool aC] 26 5 true true)]=[some (Box.mk b [slice aL aA aM,slice aK aB aN,slice aG aD aJ,slice
 aH aE aI,Value.bool aC] 26 5 true true)]∧[Value.bool false]=[Value.bool b_1])∧∃(m'':Mem),Mem.le m m''∧Mem.le m'' m'_1∧R (Value.bool b_1) m'' [])
theorem Zje(aL:Option Addr)(aA aM:Nat)(aK:Option Addr)(aB aN:Nat)(aG:Option Addr)(aD aJ:Nat)(aH:Option Addr)(aE aI:Nat)(aC:Bool)(p1 p2:Int)(m:Mem)(R:RT)(h:ZfK aL aA aM aK aB aN aG aD aJ aH aE aI aC p1 p2 m R):CX Try.prog 10 #[.agg #[.slice aL aA aM,.slice aK aB aN,.slice aG aD aJ,.slice aH aE aI,.bool aC],.int .i64 p1,.int .i64 p2] m [] R:=
 Zaj (E:=Zk7) Zaw mix Try.func10 [.v (.agg #[.slice aL aA aM,.slice aK aB aN,.slice aG aD aJ,.slice aH aE aI,.bool aC]),.v (.int .i64 p1),.v (.int .i64 p2)] [] (by kernel_rfl) (Eq.mp (by kernel_rfl) h)
noncomputable def Zjf:Env:={ EB with
 loops:=(fun i=>bif Nat.beq i 3 then⟨[(20,.int .i64)],[3],[(29,256)],false⟩ else bif Nat.beq i 8 then⟨[(35,.int .i64)],[3],[(44,1)],false⟩ else⟨[],[],[],false⟩)
 dr:=(fun i=>bif Nat.beq i 1 then[⟨0,[1],[],none,[],[]⟩,⟨1,[1],[],none,[0],[]⟩,⟨2,[],[],none,[0,1],[]⟩,⟨3,[1],[],none,[],[]⟩,⟨4,[1],[],none,[3],[]⟩,⟨5,[],[],none,[0,1,2,3,4],[2]⟩,⟨6,[1],[],none,[],[]⟩,⟨7,[1],[],none,[6],[]⟩,⟨8,[],[],none,[0,1,2,3,4,5,6,7],[]⟩,⟨9,[3],[3],none,[],[]⟩,⟨10,[3],[3],none,[0,1,2,3,4,5,6,7,8,9],[]⟩]else bif Nat.beq i 5 then[⟨0,[3],[],none,[],[]⟩,⟨1,[3],[],none,[0],[]⟩,⟨2,[5],[],none,[],[]⟩,⟨3,[],[],none,[2],[]⟩,⟨4,[28],[28],none,[2,3],[3]⟩,⟨5,[28],[],some 29,[0,1,2,3,4],[4]⟩,⟨6,[3],[],none,[0,1,2,3,4,5],[]⟩,⟨7,[3],[3],none,[0,1,2,3,4,5,6],[]⟩]else bif Nat.beq i 10 then[⟨0,[3],[],none,[],[]⟩,⟨1,[3],[],none,[0],[]⟩,⟨2,[],[],none,[],[]⟩,⟨3,[],[],none,[2],[]⟩,⟨4,[43],[43],none,[2,3],[3]⟩,⟨5,[43],[],some 44,[0,1,2,3,4],[4]⟩,⟨6,[3],[],none,[0,1,2,3,4,5],[]⟩,⟨7,[3],[3],none,[0,1,2,3,4,5,6],[]⟩]else[])
 tokOf:=(fun i=>bif Nat.beq i 29 then 29 else bif Nat.beq i 44 then 44 else 0)
 frzNew:=[1] }
def Ze9(aL:Option Addr)(aA aM:Nat)(aK:Option Addr)(aB aN:Nat)(aG:Option Addr)(aD aJ:Nat)(aH:Option Addr)(aE aI:Nat)(aC:Bool)(m:Mem)(R:RT):Prop:=
 ∀(b:Nat)(m':Mem),Mem.le m m'→Mem.reads m' b 0 [slice aL aA aM,slice aK aB aN,slice aG aD aJ,slice aH aE aI,Value.bool aC]→∀(ao:Nat),∃(f:Fx),∃(R_1:RT),R_1
 = f 2 [slice aG aD aJ] m'∧CX Try.prog 44 (Array.mk [slice aG aD aJ]) m' [] R_1∧ZaA Shape.slice R_1∧∀(a:Option Addr)(n c:Nat)(ag:Mem),Mem.le m' ag→R_1 (slice a n c) ag []→∃(R_2:
 RT),R_2=f 5 [slice aH aE aI] ag∧CX Try.prog 44 (Array.mk [slice aH aE aI]) ag [] R_2∧ZaA Shape.slice R_2∧∀(au:Option Addr)(av aw:Nat)(ar:Mem),Mem.le ag ar→R_2 (slice au av aw) ar
 []→∀(ad:Nat)(M:Mem),Mem.le m' M→Mem.le ag M→Mem.le ar M→∃(I:IT),(∃(ah:Nat),I [int i64 0] [[slice none 0 0,slice none 0 0,slice a n c,slice au av aw,Value.bool aC]] [slice none 0 0] M ah)∧∀
 (n:Int) (cs:List Value) (a:Option Addr) (ah c:Nat) (m':Mem) (ax:Nat),Mem.le M m'→I [int i64 n] [cs] [slice a ah c] m' ax→br (decide (n < (↑aA:Int))) (∃(ak:Nat),∃(o:Nat),aL=some
 (Addr.mk ak o none)∧Zac n aA∧∃(v:Value),∃(ab:Value),∃(ap:Value),∃(aq:Value),Mem.reads m' ak (o+Int.toNat n*4) [v,ab,ap,aq]∧∀(ae:Nat),chk (Value.oneCell' v&&(Value.oneCell' ab &&
 (Value.oneCell' ap&&(Value.oneCell' aq&&true)))) (∃(f:Fx),Eng.ZsM cs 0 fun(ac:Value)=>∃(R:RT),R=f 3 [agg (Array.mk [v,ab,ap,aq])] m'∧CX Try.prog 99 (Array.mk [agg (Array.mk [v,ab,ap,aq])]) m'
 [] R∧ZaA Shape.cells R∧∀(ai:List Value)(aa:Mem),Mem.le m' aa→R (agg (Array.mk ai)) aa []→chk (Nat.beq (List.length ai) 256&&true) (∀(aj:Nat),Mem.free aa aj→chk (Zc8 ac&&true) ((Tok.mk (slice a
 ah c) 256=Tok.mk ac 256∨ac=slice none 0 0∨slC ac < slN ac+1)∧∃(xs:List Value),∃(ys:List Value),List.length xs=slN ac*256∧List.length ys=1*256∧rowRd (Mem.add aa aj (List.append ai []))
 (slA ac) xs∧rowRd (Mem.add aa aj (List.append ai [])) (some (Addr.mk aj 0 none)) ys∧(∀(u:Value),u∈ys→Value.oneCell' u=true)∧(slN ac+1)*2048≤140737488355328∧slN ac+1≤9223372036854775807∧∀
 (a':Option Addr) (c':Nat) (af:Mem),Mem.le (Mem.add aa aj (List.append ai [])) af→rowRd af a' (List.append xs ys)→chk (Nat.ble 1 (List.length cs)) (∀(M:Mem),Mem.le m' M→Mem.le aa M→Mem.le (Mem.add aa
 aj (List.append ai [])) M→Mem.le af M→[some (Box.mk ad [] 79 5 false true),some (Box.mk ad [] 79 5 false true),some (Box.mk ao [slice none 0 0,slice none 0 0,slice none 0 0,slice none 0 0,Value.bool false] 79
 5 false true),some (Box.mk b [slice aL aA aM,slice aK aB aN,slice aG aD aJ,slice aH aE aI,Value.bool aC] 26 5 true true)]=[some (Box.mk ad [] 79 5 false true),some (Box.mk
 ad [] 79 5 false true),some (Box.mk ao [slice none 0 0,slice none 0 0,slice none 0 0,slice none 0 0,Value.bool false] 79 5 false true),some (Box.mk b [slice aL aA aM,slice aK aB aN,slice aG
 aD aJ,slice aH aE aI,Value.bool aC] 26 5 true true)]∧∃(n':Nat),n' < ax∧I [int i64 (IntKind.wrap i64 (n+(1:Int)))] [Zan cs 0 [slice a' (slN ac+1) c']] [slice a' (slN ac+1) c'] M
 n'))))) (∃(I:IT),(∃(n:Nat),I [int i64 0] [cs] [slice none 0 0] m' n)∧∀(n:Int)(cs:List Value)(ay:Option Addr)(az a0:Nat)(aa:Mem)(a1:Nat),Mem.le m' aa→I [int i64 n] [cs] [slice ay az a0] aa
 a1→br (decide (n < (↑aB:Int))) (∃(ak:Nat),∃(o:Nat),aK=some (Addr.mk ak o none)∧Zac n aB∧∃(v:Value),aa ak (o+Int.toNat n*1)=some v∧∃(f:Fx),Eng.ZsM cs 1 fun(ab:Value)=>
 ∃(R:RT),R=f 3 [v] aa∧CX Try.prog 44 (Array.mk [v]) aa [] R∧ZaA Shape.slice R∧∀(al:Option Addr)(am an:Nat)(m':Mem),Mem.le aa m'→R (slice al am an) m' []→∀(ae:Nat),Mem.free m' ae→chk (Zc8
 ab&&true) ((Tok.mk (slice ay az a0) 1=Tok.mk ab 1∨ab=slice none 0 0∨slC ab < slN ab+1)∧∃(xs:List Value),∃(ys:List Value),List.length xs=slN ab*1∧List.length ys=1*1∧rowRd (Mem.add m' ae
 [slice al am an]) (slA ab) xs∧rowRd (Mem.add m' ae [slice al am an]) (some (Addr.mk ae 0 none)) ys∧(∀(u:Value),u∈ys→Value.oneCell' u=true)∧(slN ab+1)*24≤140737488355328∧slN ab+1 ≤
 9223372036854775807∧∀(a':Option Addr)(c':Nat)(af:Mem),Mem.le (Mem.add m' ae [slice al am an]) af→rowRd af a' (List.append xs ys)→chk (Nat.ble 2 (List.length cs)) (∀(M:Mem),Mem.le aa M→Mem.le m' M→
 Mem.le (Mem.add m' ae [slice al am an]) M→Mem.le af M→[some (Box.mk ad [] 79 5 false true),some (Box.mk ad [] 79 5 false true),some (Box.mk ao [slice none 0 0,slice none 0 0,slice none 0 0,slice none 0 0,
 Value.bool false] 79 5 false true),some (Box.mk b [slice aL aA aM,slice aK aB aN,slice aG aD aJ,slice aH aE aI,Value.bool aC] 26 5 true true)]=[some (Box.mk ad [] 79 5 false
 true),some (Box.mk ad [] 79 5 false true),some (Box.mk ao [slice none 0 0,slice none 0 0,slice none 0 0,slice none 0 0,Value.bool false] 79 5 false true),some (Box.mk b [slice aL aA aM,slice aK aB
 aN,slice aG aD aJ,slice aH aE aI,Value.bool aC] 26 5 true true)]∧[some (Tok.mk (slice a ah c) 256)]=[some (Tok.mk (slice a ah c) 256)]∧∃(n':Nat),n' < a1∧I [int i64 (IntKind.wrap i64
 (n+(1:Int)))] [Zan cs 1 [slice a' (slN ab+1) c']] [slice a' (slN ab+1) c'] M n'))) (chk (Nat.beq (List.length cs) 5&&Zcu cs) (∃(m'':Mem),Mem.le m m''∧Mem.le m'' aa∧R (agg (Array.mk cs)) m'' [])))
theorem Zib(aL:Option Addr)(aA aM:Nat)(aK:Option Addr)(aB aN:Nat)(aG:Option Addr)(aD aJ:Nat)(aH:Option Addr)(aE aI:Nat)(aC:Bool)(m:Mem)(R:RT)(h:Ze9 aL aA aM aK aB aN aG aD aJ aH aE aI aC m R):CX Try.prog 43 #[.agg #[.slice aL aA aM,.slice aK aB aN,.slice aG aD aJ,.slice aH aE aI,.bool aC]] m [] R:=
 Zaj (E:=Zjf) Zaw mix Try.func43 [.v (.agg #[.slice aL aA aM,.slice aK aB aN,.slice aG aD aJ,.slice aH aE aI,.bool aC])] [] (by kernel_rfl) (Eq.mp (by kernel_rfl) h)
noncomputable def ZmJ:Env:={ EB with
 joins:=(fun i=>bif Nat.beq i 2 then some [(4,.bool)]else none)
 frzNew:=[2,3] }
def ZgV(aL:Option Addr)(aA aM:Nat)(aK:Option Addr)(aB aN:Nat)(aG:Option Addr)(aD aJ:Nat)(aH:Option Addr)(aE aI:Nat)(aC:Bool)(bX:Option Addr)(bY bZ:Nat)(cA:Option Addr)(cB cC:Nat)(cD:Option Addr)(cE cF:Nat)(cG:Option Addr)(cH cI:Nat)(aX:Bool)(m:Mem)(R:RT):Prop:=
 ∀(b:Nat)(m':Mem),Mem.le m m'→Mem.reads m' b 0 [slice aL aA aM,slice aK aB aN,slice aG aD aJ,slice aH aE aI,Value.bool aC]→∀(ak:Nat)(an:Mem),Mem.le m' an→
 Mem.reads an ak 0 [slice bX bY bZ,slice cA cB cC,slice cD cE cF,slice cG cH cI,Value.bool aX]→∃(R_1:RT),True∧CX Try.prog 43 (Array.mk [agg (Array.mk [slice aL aA
 aM,slice aK aB aN,slice aG aD aJ,slice aH aE aI,Value.bool aC])]) an [] R_1∧ZaA (Shape.agg [Shape.slice,Shape.slice,Shape.slice,Shape.slice,Shape.bool]) R_1∧∀(a:Option
 Addr) (n c:Nat) (aa:Option Addr) (ab ac:Nat) (ad:Option Addr) (ae af:Nat) (ag:Option Addr) (ah ai:Nat) (aj:Bool) (m':Mem),Mem.le an m'→R_1 (agg (Array.mk [slice a n c,slice aa ab ac,slice ad ae
 af,slice ag ah ai,Value.bool aj])) m' []→∀(al:Nat),∃(am:Bool),(∃(R:RT),True∧CX Try.prog 102 (Array.mk [slice a n c,slice bX bY bZ]) m' [] R∧ZaA Shape.bool R∧∀(aq:Bool)(ao:Mem),
 Mem.le m' ao→R (Value.bool aq) ao []→br aq (∃(R:RT),True∧CX Try.prog 72 (Array.mk [slice aa ab ac,slice cA cB cC,Value.func (Fn.func 23) (Array.mk []) (Array.mk [])]) ao [] R∧ZaA Shape.bool R∧∀
 (ar:Bool) (m':Mem),Mem.le ao m'→R (Value.bool ar) m' []→br ar (∃(R:RT),True∧CX Try.prog 23 (Array.mk [slice ad ae af,slice cD cE cF]) m' [] R∧ZaA Shape.bool R∧∀(au:Bool)(ap:Mem),
 Mem.le m' ap→R (Value.bool au) ap []→br au (∃(R:RT),True∧CX Try.prog 23 (Array.mk [slice ag ah ai,slice cG cH cI]) ap [] R∧ZaA Shape.bool R∧∀(av:Bool)(m':Mem),Mem.le ap m'→R (Value.bool
 av) m' []→br av ([some (Box.mk al [slice a n c,slice aa ab ac,slice ad ae af,slice ag ah ai,Value.bool aj] 79 5 false true),some (Box.mk ak [slice bX bY bZ,slice cA cB cC,slice cD cE
 cF,slice cG cH cI,Value.bool aX] 79 5 true true),some (Box.mk b [slice aL aA aM,slice aK aB aN,slice aG aD aJ,slice aH aE aI,Value.bool aC] 26 5 true true)] =
 [some (Box.mk al [slice a n c,slice aa ab ac,slice ad ae af,slice ag ah ai,Value.bool aj] 79 5 false true),some (Box.mk ak [slice bX bY bZ,slice cA cB cC,slice cD cE cF,slice cG
 cH cI,Value.bool aX] 79 5 true true),some (Box.mk b [slice aL aA aM,slice aK aB aN,slice aG aD aJ,slice aH aE aI,Value.bool aC] 26 5 true true)]∧[Value.bool (aj ==
 aX)]=[Value.bool am]) ([some (Box.mk al [slice a n c,slice aa ab ac,slice ad ae af,slice ag ah ai,Value.bool aj] 79 5 false true),some (Box.mk ak [slice bX bY bZ,slice cA cB cC,slice cD
 cE cF,slice cG cH cI,Value.bool aX] 79 5 true true),some (Box.mk b [slice aL aA aM,slice aK aB aN,slice aG aD aJ,slice aH aE aI,Value.bool aC] 26 5 true
 true)]=[some (Box.mk al [slice a n c,slice aa ab ac,slice ad ae af,slice ag ah ai,Value.bool aj] 79 5 false true),some (Box.mk ak [slice bX bY bZ,slice cA cB cC,slice cD cE cF,slice
 cG cH cI,Value.bool aX] 79 5 true true),some (Box.mk b [slice aL aA aM,slice aK aB aN,slice aG aD aJ,slice aH aE aI,Value.bool aC] 26 5 true true)]∧[Value.bool
 false]=[Value.bool am])) ([some (Box.mk al [slice a n c,slice aa ab ac,slice ad ae af,slice ag ah ai,Value.bool aj] 79 5 false true),some (Box.mk ak [slice bX bY bZ,slice cA cB cC,slice cD
 cE cF,slice cG cH cI,Value.bool aX] 79 5 true true),some (Box.mk b [slice aL aA aM,slice aK aB aN,slice aG aD aJ,slice aH aE aI,Value.bool aC] 26 5 true
 true)]=[some (Box.mk al [slice a n c,slice aa ab ac,slice ad ae af,slice ag ah ai,Value.bool aj] 79 5 false true),some (Box.mk ak [slice bX bY bZ,slice cA cB cC,slice cD cE cF,slice
 cG cH cI,Value.bool aX] 79 5 true true),some (Box.mk b [slice aL aA aM,slice aK aB aN,slice aG aD aJ,slice aH aE aI,Value.bool aC] 26 5 true true)]∧[Value.bool
 false]=[Value.bool am])) ([some (Box.mk al [slice a n c,slice aa ab ac,slice ad ae af,slice ag ah ai,Value.bool aj] 79 5 false true),some (Box.mk ak [slice bX bY bZ,slice cA cB cC,slice cD
 cE cF,slice cG cH cI,Value.bool aX] 79 5 true true),some (Box.mk b [slice aL aA aM,slice aK aB aN,slice aG aD aJ,slice aH aE aI,Value.bool aC] 26 5 true
 true)]=[some (Box.mk al [slice a n c,slice aa ab ac,slice ad ae af,slice ag ah ai,Value.bool aj] 79 5 false true),some (Box.mk ak [slice bX bY bZ,slice cA cB cC,slice cD cE cF,slice
 cG cH cI,Value.bool aX] 79 5 true true),some (Box.mk b [slice aL aA aM,slice aK aB aN,slice aG aD aJ,slice aH aE aI,Value.bool aC] 26 5 true true)]∧[Value.bool
 false]=[Value.bool am])) ([some (Box.mk al [slice a n c,slice aa ab ac,slice ad ae af,slice ag ah ai,Value.bool aj] 79 5 false true),some (Box.mk ak [slice bX bY bZ,slice cA cB cC,slice cD
 cE cF,slice cG cH cI,Value.bool aX] 79 5 true true),some (Box.mk b [slice aL aA aM,slice aK aB aN,slice aG aD aJ,slice aH aE aI,Value.bool aC] 26 5 true
 true)]=[some (Box.mk al [slice a n c,slice aa ab ac,slice ad ae af,slice ag ah ai,Value.bool aj] 79 5 false true),some (Box.mk ak [slice bX bY bZ,slice cA cB cC,slice cD cE cF,slice
 cG cH cI,Value.bool aX] 79 5 true true),some (Box.mk b [slice aL aA aM,slice aK aB aN,slice aG aD aJ,slice aH aE aI,Value.bool aC] 26 5 true true)]∧[Value.bool
 false]=[Value.bool am]))∧∃(m'':Mem),Mem.le m m''∧Mem.le m'' m'∧R (Value.bool am) m'' []
theorem Zk8(aL:Option Addr)(aA aM:Nat)(aK:Option Addr)(aB aN:Nat)(aG:Option Addr)(aD aJ:Nat)(aH:Option Addr)(aE aI:Nat)(aC:Bool)(bX:Option Addr)(bY bZ:Nat)(cA:Option Addr)(cB cC:Nat)(cD:Option Addr)(cE cF:Nat)(cG:Option Addr)(cH cI:Nat)(aX:Bool)(m:Mem)(R:RT)(h:ZgV aL aA aM aK aB aN aG aD aJ aH aE aI aC bX bY bZ cA cB cC cD cE cF cG cH cI aX m R):CX Try.prog 46 #[.agg #[.slice aL aA aM,.slice aK aB aN,.slice aG aD aJ,.slice aH aE aI,.bool aC],.agg #[.slice bX bY bZ,.slice cA cB cC,.slice cD cE cF,.slice cG cH cI,.bool aX]] m [] R:=
 Zaj (E:=ZmJ) Zaw mix Try.func46 [.v (.agg #[.slice aL aA aM,.slice aK aB aN,.slice aG aD aJ,.slice aH aE aI,.bool aC]),.v (.agg #[.slice bX bY bZ,.slice cA cB cC,.slice cD cE cF,.slice cG cH cI,.bool aX])] [] (by kernel_rfl) (Eq.mp (by kernel_rfl) h)
noncomputable def Zk9:Env:={ EB with
 loops:=(fun i=>bif Nat.beq i 2 then⟨[(9,.int .i64)],[],[],false⟩ else bif Nat.beq i 7 then⟨[(27,.int .i64)],[],[],false⟩ else bif Nat.beq i 10 then⟨[(33,.int .i64)],[],[],false⟩ else⟨[],[],[],false⟩)
 tokOf:=(fun i=>bif Nat.beq i 25 then 25 else 0)
 frzNew:=[1]
 thaw:=true
 stAt:=(fun i=>bif Nat.beq i 16 then some 999 else bif Nat.beq i 38 then some 999 else none)
 tails:=true }
def ZfL(aL:Option Addr)(aA aM:Nat)(aK:Option Addr)(aB aN:Nat)(aG:Option Addr)(aD aJ:Nat)(aH:Option Addr)(aE aI:Nat)(aC:Bool)(m:Mem)(Y:Nat→Prop)(R:RTY):Prop:=
 ∀(b:Nat)(m':Mem),Mem.le m m'→Mem.reads m' b 0 [slice aL aA aM,slice aK aB aN,slice aG aD aJ,slice aH aE aI,Value.bool aC]→Mem.free m b→(∀(b' o:Nat)(u:Value),
 m' b' o=some u→m b' o=some u∨b'=b)→∃(I:IT),(∃(n:Nat),I [int i64 0] [] [] m' n)∧∀(n:Int)(m':Mem)(ai:Nat),True→I [int i64 n] [] [] m' ai→br (decide (n < (↑aA:Int))) (∃(aa:Nat),
 ∃(o:Nat),aL=some (Addr.mk aa o none)∧Zac n aA∧(∃(vs:List Value),List.length vs=4∧Mem.reads m' aa (o+Int.toNat n*4) vs)∧Mem.free (Mem.off m Y) aa∧true=true∧b≠aa∧[some (Box.mk b
 [slice aL aA aM,slice aK aB aN,slice aG aD aJ,slice aH aE aI,Value.bool aC] 26 5 true true)]=[some (Box.mk b [slice aL aA aM,slice aK aB aN,slice aG
 aD aJ,slice aH aE aI,Value.bool aC] 26 5 true true)]∧∃(n':Nat),n' < ai∧I [int i64 (IntKind.wrap i64 (n+(1:Int)))] [] [] (Mem.upd m' aa (o+Int.toNat n*4) [int u64 0,int u64 0,int u64
 0,int u64 0]) n') (∀(aa:Nat),Mem.free m' aa→br (Nat.beq aB 0) (∃(I:IT),(∃(n:Nat),I [int i64 0] [] [] (Mem.add m' aa [slice aG aD aJ,slice aH aE aI]) n)∧∀(n:Int)(m':Mem) (ae:
 Nat),True→I [int i64 n] [] [] m' ae→br (decide (n < (↑(2:Nat):Int))) (∃(af:Nat),∃(o:Nat),some (Addr.mk aa 0 none)=some (Addr.mk af o none)∧Zac n 2∧∃(v:Value),m' af (o+Int.toNat n*1) =
 some v∧chk (Zc8 v) (∃(ad:IT),(∃(n:Nat),ad [int i64 0] [] [] m' n)∧∀(ab:Int)(m':Mem)(ag:Nat),True→ad [int i64 ab] [] [] m' ag→br (decide (ab < (↑(slN v):Int))) (chk (Zc8 v) (∃(ac:Nat),∃
 (o:Nat),slA v=some (Addr.mk ac o none)∧Zac ab (slN v)∧(∃(vs:List Value),List.length vs=1∧Mem.reads m' ac (o+Int.toNat ab*1) vs)∧Mem.free (Mem.off m Y) ac∧true=true∧aa≠ac∧b≠ac∧
 [some (Box.mk aa [slice aG aD aJ,slice aH aE aI] 24 2 true true),some (Box.mk b [slice aL aA aM,slice aK aB aN,slice aG aD aJ,slice aH aE aI,Value.bool aC]
 26 5 true true)]=[some (Box.mk aa [slice aG aD aJ,slice aH aE aI] 24 2 true true),some (Box.mk b [slice aL aA aM,slice aK aB aN,slice aG aD aJ,slice aH aE aI,
 Value.bool aC] 26 5 true true)]∧([none]:List (Option Tok))=[none]∧∃(n':Nat),n' < ag∧ad [int i64 (IntKind.wrap i64 (ab+(1:Int)))] [] [] (Mem.upd m' ac (o+Int.toNat ab*1) [int i64 (-7:Int)]) n'))
 ([some (Box.mk aa [slice aG aD aJ,slice aH aE aI] 24 2 true true),some (Box.mk b [slice aL aA aM,slice aK aB aN,slice aG aD aJ,slice aH aE aI,Value.bool aC]
 26 5 true true)]=[some (Box.mk aa [slice aG aD aJ,slice aH aE aI] 24 2 true true),some (Box.mk b [slice aL aA aM,slice aK aB aN,slice aG aD aJ,slice aH aE aI,
 Value.bool aC] 26 5 true true)]∧([none]:List (Option Tok))=[none]∧∃(n':Nat),n' < ae∧I [int i64 (IntKind.wrap i64 (n+(1:Int)))] [] [] m' n'))) (R (Value.tuple (Array.mk [])) m' [] [])) ((slice (some
 (Addr.mk aa 0 none)) 2 2=slice none 0 0∨2 < 2+aB)∧∃(xs:List Value),∃(ys:List Value),List.length xs=2*1∧List.length ys=aB*1∧rowRd (Mem.add m' aa [slice aG aD aJ,slice aH
 aE aI]) (some (Addr.mk aa 0 none)) xs∧rowRd (Mem.add m' aa [slice aG aD aJ,slice aH aE aI]) aK ys∧(∀(u:Value),u∈ys→Value.oneCell' u=true)∧(2+aB)*24≤140737488355328∧
 2+aB≤9223372036854775807∧∀(a':Option Addr)(c':Nat)(ah:Mem),Mem.le (Mem.add m' aa [slice aG aD aJ,slice aH aE aI]) ah→rowRd ah a' (List.append xs ys)→TokFact (Mem.add m' aa
 [slice aG aD aJ,slice aH aE aI]) (some (Addr.mk aa 0 none)) a' (2+aB) c'→∃(I:IT),(∃(n:Nat),I [int i64 0] [] [] ah n)∧∀(n:Int)(m':Mem)(ae:Nat),True→I [int i64 n] [] [] m'
 ae→br (decide (n < (↑(2+aB):Int))) (∃(af:Nat),∃(o:Nat),a'=some (Addr.mk af o none)∧Zac n (2+aB)∧∃(v:Value),m' af (o+Int.toNat n*1)=some v∧chk (Zc8 v) (∃(ad:IT),(∃(n:
 Nat),ad [int i64 0] [] [] m' n)∧∀(ab:Int)(m':Mem)(ag:Nat),True→ad [int i64 ab] [] [] m' ag→br (decide (ab < (↑(slN v):Int))) (chk (Zc8 v) (∃(ac:Nat),∃(o:Nat),slA v=some (Addr.mk ac o none)
 ∧ Zac ab (slN v)∧(∃(vs:List Value),List.length vs=1∧Mem.reads m' ac (o+Int.toNat ab*1) vs)∧Mem.free (Mem.off m Y) ac∧true=true∧aa≠ac∧b≠ac∧[some (Box.mk aa [slice aG aD aJ,
 slice aH aE aI] 24 2 true true),some (Box.mk b [slice aL aA aM,slice aK aB aN,slice aG aD aJ,slice aH aE aI,Value.bool aC] 26 5 true true)]=[some (Box.mk aa [slice
 aG aD aJ,slice aH aE aI] 24 2 true true),some (Box.mk b [slice aL aA aM,slice aK aB aN,slice aG aD aJ,slice aH aE aI,Value.bool aC] 26 5 true true)]∧[some
 (Tok.mk (slice a' (2+aB) c') 1)]=[some (Tok.mk (slice a' (2+aB) c') 1)]∧∃(n':Nat),n' < ag∧ad [int i64 (IntKind.wrap i64 (ab+(1:Int)))] [] [] (Mem.upd m' ac (o+Int.toNat ab*1) [int i64 (-7:
 Int)]) n')) ([some (Box.mk aa [slice aG aD aJ,slice aH aE aI] 24 2 true true),some (Box.mk b [slice aL aA aM,slice aK aB aN,slice aG aD aJ,slice aH aE aI,
 Value.bool aC] 26 5 true true)]=[some (Box.mk aa [slice aG aD aJ,slice aH aE aI] 24 2 true true),some (Box.mk b [slice aL aA aM,slice aK aB aN,slice aG aD aJ,slice
 aH aE aI,Value.bool aC] 26 5 true true)]∧[some (Tok.mk (slice a' (2+aB) c') 1)]=[some (Tok.mk (slice a' (2+aB) c') 1)]∧∃(n':Nat),n' < ae∧I [int i64 (IntKind.wrap i64 (n+(1:Int)))]
 [] [] m' n'))) (R (Value.tuple (Array.mk [])) m' [] [])))
theorem Zic(aL:Option Addr)(aA aM:Nat)(aK:Option Addr)(aB aN:Nat)(aG:Option Addr)(aD aJ:Nat)(aH:Option Addr)(aE aI:Nat)(aC:Bool)(m:Mem)(Y:Nat→Prop)(R:RTY)(h:ZfL aL aA aM aK aB aN aG aD aJ aH aE aI aC m Y R):CXY Try.prog 50 #[.agg #[.slice aL aA aM,.slice aK aB aN,.slice aG aD aJ,.slice aH aE aI,.bool aC]] m Y [] [] R:=
 ZaL (E:=Zk9) Zaw mix Try.func50 [.v (.agg #[.slice aL aA aM,.slice aK aB aN,.slice aG aD aJ,.slice aH aE aI,.bool aC])] [] [] [] (by decide) (by kernel_rfl) (Eq.mp (by kernel_rfl) h)
end Go.Proofs.Ytplacemlpkhmfaa
set_option linter.unusedVariables false
set_option linter.unusedSimpArgs false
namespace Go.Proofs.Ytplacemlpkhmfaa
open Go Go.Eng Go.Rx Go.Proofs Go.RowKit
set_option maxRecDepth 100000
structure NfW (A:Nf)(m:Mem)(sa:Option Addr)(fa:Option Addr)(fc:Nat)(xa:Option Addr)(ya:Option Addr)(vs:List Value):Prop where
 sets:rowRd m sa (ZbC A.sets)
 row:rowRd m fa vs
 len:vs.length=A.fol.length
 cap:A.fol.length≤fc
 fol:∀(i:Nat)(v:Value)(l:List Int),vs[i]?=some v→A.fol[i]?=some l→∃a c,v=.slice a l.length c∧rowRd m a (Zap l)∧l.length≤1048576
 first:rowRd m xa (Zap A.first)
 last:rowRd m ya (Zap A.last)
 sl:A.sets.length≤1048576
 fl:A.fol.length≤1048576
 xl:A.first.length≤1048576
 yl:A.last.length≤1048576
 ok:∀q∈A.sets,QOk q
abbrev VN(A:Nf)(sa:Option Addr)(sc:Nat)(fa:Option Addr)(fc:Nat)(xa:Option Addr)(xc:Nat)(ya:Option Addr)(yc:Nat):Value:=.agg #[.slice sa A.sets.length sc,.slice fa A.fol.length fc,.slice xa A.first.length xc,.slice ya A.last.length yc,.bool A.empty]
theorem NfW.mono{A:Nf}{m M:Mem}{sa:Option Addr}{fa:Option Addr}{fc:Nat}{xa:Option Addr}{ya:Option Addr}{vs:List Value}(h:NfW A m sa fa fc xa ya vs)(k:m.le M):NfW A M sa fa fc xa ya vs:=
 {h with
  sets:=h.sets.mono k
  row:=h.row.mono k
  fol:=fun i v l hv hl=>by
   obtain⟨a,c,e,h1,h2⟩:=h.fol i v l hv hl
   exact⟨a,c,e,h1.mono k,h2⟩
  first:=h.first.mono k
  last:=h.last.mono k }
def ZvD(A:Nf)(k:Nat):Nat:=A.first.length+A.last.length+((A.fol.take k).map List.length).sum
def Zqa(A:Nf):Bool:=decide (A.sets.length≤60)&&(decide (A.fol.length≤60)&&decide (ZvD A (min 61 A.fol.length)≤1000))
theorem Zsy{A:Nf}{k:Nat}{l:List Int}(h:A.fol[k]?=some l):ZvD A (k+1)=ZvD A k+l.length:=by
 unfold ZvD
 rw[List.take_add_one,h]
 simp;omega
theorem Zsz{A:Nf}{m:Mem}{sa:Option Addr}{sc:Nat}{fa:Option Addr}{fc:Nat}{xa:Option Addr}{xc:Nat}{ya:Option Addr}{yc:Nat}{vs:List Value}(h:NfW A m sa fa fc xa ya vs)(hs:Zqa A=true):NfR false A (VN A sa sc fa fc xa xc ya yc) m∧A.fol.length≤60:=by
 unfold Zqa at hs
 simp only[Bool.and_eq_true,decide_eq_true_eq]at hs
 obtain⟨h1,h2,h3⟩:=hs
 rw[show min 61 A.fol.length=A.fol.length by omega]at h3
 unfold ZvD at h3
 rw[List.take_length]at h3
 refine⟨⟨_,_,_,_,rfl,⟨sa,sc,rfl,h.sets,by omega,fun e=>by cases e⟩,⟨fa,fc,vs,rfl,h.row,h.len,by omega,fun i v l hv hl=>?_⟩,⟨xa,xc,rfl,h.first,by omega,fun e=>by cases e⟩,⟨ya,yc,rfl,h.last,by omega,fun e=>by cases e⟩⟩,h2⟩
 obtain⟨a,c,e,h4,_⟩:=h.fol i v l hv hl
 have:l.length≤(A.fol.map List.length).sum:=by
  have hm:l.length∈A.fol.map List.length:=List.mem_map.2 ⟨l,List.mem_of_getElem? hl,rfl⟩
  generalize A.fol.map List.length=L at hm
  induction L with
  | nil=>cases hm
  | cons x L ih=>
   rw[List.sum_cons]
   rcases List.mem_cons.1 hm with rfl|hm
   ·omega
   ·have:=ih hm;omega
 exact⟨a,c,e,h4,by omega,fun e=>by cases e⟩
theorem Zwz{l:List Nat}{n:Nat}(h:∀x∈l,x≤n):l.sum≤l.length*n:=by
 induction l with
 | nil=>simp
 | cons x l ih=>
  have h1:=h x (by simp)
  have h2:=ih fun y hy=>h y (by simp[hy])
  rw[List.sum_cons,List.length_cons,Nat.add_mul];omega
theorem Zuf(A:Nf)(sa:Option Addr)(sc:Nat)(fa:Option Addr)(fc:Nat)(xa:Option Addr)(xc:Nat)(ya:Option Addr)(yc:Nat)(vs:List Value)(m:Mem)(h:NfW A m sa fa fc xa ya vs):CX Try.prog 10 #[VN A sa sc fa fc xa xc ya yc,.int .i64 60,.int .i64 1000] m [] (Ret (.bool (Zqa A))):=by
 apply Zje
 unfold ZfK
 intro b m1 aZ _
 have dU:=h.xl
 have dG:=h.yl
 have f8:=h.fl
 have ge:=h.cap
 have wV:IntKind.i64.wrap ((60:Int)+1)=61:=rfl
 have hM:(if IntKind.i64.wrap ((60:Int)+1) < (A.fol.length:Int)then IntKind.i64.wrap ((60:Int)+1)else(A.fol.length:Int))=((min 61 A.fol.length:Nat):Int):=by
  rw[wV];split <;> omega
 simp only[hM]
 generalize wW:min 61 A.fol.length=M at *
 have tp:∀k,k≤M→ZvD A k≤70000000:=fun k hk=>by
  unfold ZvD
  have:=Zwz (l:=(A.fol.take k).map List.length) (n:=1048576) (by
   intro x hx
   obtain⟨l,hl,rfl⟩:=List.mem_map.1 hx
   obtain⟨i,hi⟩:=List.getElem?_of_mem (List.mem_of_mem_take hl)
   obtain⟨v,hv⟩:=Zak (l:=vs) (k:=i) (by have:=(List.getElem?_eq_some_iff.1 hi).1;have:=h.len;omega)
   obtain⟨_,_,_,_,h5⟩:=h.fol i v l hv hi
   exact h5)
  have h6:((A.fol.take k).map List.length).length≤61:=by simp;omega
  have h7:((A.fol.take k).map List.length).length*1048576≤61*1048576:=Nat.mul_le_mul_right _ h6
  omega
 have h0:ZvD A 0=A.first.length+A.last.length:=by simp[ZvD]
 refine⟨⟨by omega,by omega⟩,fun xs _ _ m' q=>∃k:Nat,k≤M∧xs=[.int .i64 (ZvD A k),.int .i64 k]∧m.le m'∧q=M - k,⟨_,0,by omega,?_,aZ,rfl⟩,?_⟩
 ·rw[Zat (by omega) (by omega),h0];rfl
 rintro s z m2 q bO ⟨k,hk,hx,dD,hq⟩
 simp only[List.cons.injEq,Value.int.injEq,true_and,and_true]at hx
 obtain⟨rfl,rfl⟩:=hx
 subst hq
 simp only[Int.toNat_natCast,Nat.sub_zero]
 refine Zab (fun bK=>?_) (fun cL=>?_)
 ·have aY:k < M:=by have:=of_decide_eq_true bK;omega
  obtain⟨l,hl⟩:=Zak (l:=A.fol) (k:=k) (by omega)
  obtain⟨u,hu⟩:=Zak (l:=vs) (k:=k) (by have:=h.len;omega)
  obtain⟨la,lc,rfl,_,h5⟩:=h.fol k u l hu hl
  obtain⟨fb,fo,eU,dH⟩:=Za6 (h.row.mono dD) hu
  have tq:=tp k hk
  refine⟨fb,fo,eU,⟨by omega,by omega⟩,_,dH,Zaa rfl ⟨trivial,_,by omega,k+1,aY,?_,dD,rfl⟩⟩
  rw[Zsy hl]
  simp only[slN]
  rw[Zat (by omega) (by omega),Zat (by omega) (by omega)];rfl
 ·have:k=M:=by have:=of_decide_eq_false cL;omega
  subst this
  refine⟨Zqa A,?_,Zag dD rfl⟩
  unfold Zqa
  rw[wW]
  refine Zab (fun h1=>?_) (fun h1=>?_)
  ·have h1':A.sets.length≤60:=by have:=of_decide_eq_true h1;omega
   refine Zab (fun h2=>?_) (fun h2=>?_)
   ·have h2':A.fol.length≤60:=by have:=of_decide_eq_true h2;omega
    refine⟨by trivial,congrArg (fun z=>[Value.bool z]) ?_⟩
    simp only[h1',h2',decide_true,Bool.true_and]
    rw[decide_eq_decide];omega
   ·have h2':¬A.fol.length≤60:=by have:=of_decide_eq_false h2;omega
    exact⟨by trivial,by simp[h2']⟩
  ·have h1':¬A.sets.length≤60:=by have:=of_decide_eq_false h1;omega
   exact⟨by trivial,by simp[h1']⟩
theorem Zla{A:Nf}:∀(v:Value)(m':Mem) (css:List (List Value)),RefR A v m'→Shape.fits (.agg [.slice,.slice,.slice,.slice,.bool]) v=true:=by
 rintro v m' css ⟨s,f,x,y,rfl,⟨_,_,rfl,_⟩,⟨_,_,_,rfl,_⟩,⟨_,_,rfl,_⟩,⟨_,_,rfl,_⟩⟩;rfl
theorem ZoR(l:List QS)(q:QS):Zdq (l++[q])=Zdq l++ZbD q:=by simp[Zdq]
set_option maxHeartbeats 800000 in
theorem ZoS{st:Bool}(A:Nf)(nK:∀q∈A.sets,QOk q)(v:Value)(m:Mem)(h:NfR st A v m):CX Try.prog 43 #[v] m [] (fun v m' _=>RefR A v m'):=by
 obtain⟨s,f,x,y,rfl,⟨sa,sc,rfl,hs,dK,iq⟩,⟨fa,fc,vs,rfl,hf,eR,f8,eF⟩,⟨xa,xc,rfl,hx,dU,fX⟩,⟨ya,yc,rfl,hy,dG,gj⟩⟩:=h
 apply Zib
 unfold Ze9
 intro b0 m1 aZ _ b1
 refine⟨fun i _ _=>if i=2 then(fun v m' _=>SlI st A.first v m')else(fun v m' _=>SlI st A.last v m'),?_⟩
 refine⟨_,rfl,ZkV A.first _ m1 ⟨xa,xc,rfl,hx.mono aZ,dU,fX⟩,Za7,fun a3 n3 c3 m3 bR jr=>?_⟩
 refine⟨_,rfl,ZkV A.last _ m3 ⟨ya,yc,rfl,(hy.mono aZ).mono bR,dG,gj⟩,Za7,fun a4 n4 c4 m4 cT jW=>?_⟩
 have jr:SlI st A.first (.slice a3 n3 c3) m3:=jr
 have jW:SlI st A.last (.slice a4 n4 c4) m4:=jW
 intro b2 M fK jo jU
 have jZ:m.le M:=Mem.le_trans aZ fK
 refine⟨fun xs css tvs m' q=>∃(k:Nat)(a:Option Addr)(c:Nat),k≤A.sets.length∧xs=[.int .i64 k]∧css=[[.slice a k c,.slice none 0 0,.slice a3 n3 c3,.slice a4 n4 c4,.bool A.empty]]∧tvs=[.slice a k c]∧M.le m'∧rowRd m' a (Zdq (A.sets.take k))∧q=A.sets.length - k,
  ⟨_,0,none,0,by omega,rfl,rfl,rfl,Mem.le_refl _,.inl rfl,rfl⟩,?_⟩
 rintro z cs a n c m5 q _ ⟨k,a',c',hk,hz,bT,dC,cV,bU,hq⟩
 obtain rfl:z=k:=by simpa using hz
 obtain rfl:cs=_:=by simpa using bT
 simp only[List.cons.injEq,Value.slice.injEq,and_true]at dC
 obtain⟨rfl,rfl,rfl⟩:=dC
 subst hq
 refine Zab (fun bK=>?_) (fun cL=>?_)
 ·have aY:n < A.sets.length:=by have:=of_decide_eq_true bK;omega
  obtain⟨qq,jY⟩:=Zak aY
  obtain⟨sb,so,iP,eI⟩:=ZgF (hs.mono (Mem.le_trans jZ cV)) jY
  have pv:=nK qq (List.mem_of_getElem? jY)
  refine⟨sb,so,iP,⟨by omega,by omega⟩,_,_,_,_,(by rw[Int.toNat_natCast];exact eI),fun b4=>Zaa rfl ⟨fun _ _ _=>Ret (.agg (ZbD qq).toArray),Zas (v:=.slice a n c) rfl ⟨_,rfl,Zt9 qq pv m5,fun v _ _ h=>by rw[h];rfl,?_⟩⟩⟩
  intro cs1 m6 eJ hv
  have hv:Value.agg (Array.mk cs1)=.agg (ZbD qq).toArray:=hv
  simp only[Value.agg.injEq,Array.mk.injEq]at hv
  subst hv
  refine Zaa (by rw[Zbl];rfl) fun b5 jX=>Zaa rfl ?_
  have lF:=Mem.le_add jX (List.append (ZbD qq) [])
  have dJ:rowRd (m6.add b5 (List.append (ZbD qq) [])) (some ⟨b5,0,none⟩) (ZbD qq):=.inr ⟨b5,0,rfl,fun j u hj=>by rw[Nat.zero_add,Mem.add_same];show((ZbD qq)++[])[j]?=_;rw[List.append_nil];exact hj⟩
  refine⟨.inl rfl,Zdq (A.sets.take n),ZbD qq,by rw[ZlX];simp[slN];omega,by rw[Zbl],(bU.mono eJ).mono lF,dJ,ZlP qq,by simp only[slN];omega,by simp only[slN];omega,fun a7 c7 m7 iH nu=>Zaa rfl fun M2 ld oF s5 nq=>⟨by trivial,A.sets.length - (n+1),by omega,n+1,a7,c7,by omega,?_,rfl,rfl,Mem.le_trans cV ld,?_,rfl⟩⟩
  ·rw[Zat (by omega) (by omega)];rfl
  ·have e:Zdq (A.sets.take (n+1))=Zdq (A.sets.take n)++ZbD qq:=by rw[List.take_add_one,jY];exact ZoR _ _
   rw[e];exact nu.mono nq
 ·have:n=A.sets.length:=by have:=of_decide_eq_false cL;omega
  subst this
  rw[List.take_length]at bU
  refine⟨fun xs css tvs m' q=>∃(k:Nat)(a2:Option Addr)(c2:Nat),k≤A.fol.length∧xs=[.int .i64 k]∧css=[[.slice a A.sets.length c,.slice a2 k c2,.slice a3 n3 c3,.slice a4 n4 c4,.bool A.empty]]∧tvs=[.slice a2 k c2]∧m5.le m'∧(∃ws,rowRd m' a2 ws∧ws.length=k∧∀(i:Nat)(v:Value)(l:List Int),ws[i]?=some v→A.fol[i]?=some l→SlI false l v m')∧q=A.fol.length - k,
   ⟨_,0,none,0,by omega,rfl,rfl,rfl,Mem.le_refl _,⟨[],.inl rfl,rfl,fun i v l hv=>by simp at hv⟩,rfl⟩,?_⟩
  rintro z cs a6 n6 c6 m6 q _ ⟨k,a6',c6',hk,hz,bT,dC,eJ,⟨ws,dZ,dL,jS⟩,hq⟩
  obtain rfl:z=k:=by simpa using hz
  obtain rfl:cs=_:=by simpa using bT
  simp only[List.cons.injEq,Value.slice.injEq,and_true]at dC
  obtain⟨rfl,rfl,rfl⟩:=dC
  subst hq
  have nH:m.le m6:=Mem.le_trans jZ (Mem.le_trans cV eJ)
  refine Zab (fun bK=>?_) (fun cL=>?_)
  ·have aY:n6 < A.fol.length:=by have:=of_decide_eq_true bK;omega
   obtain⟨l,hl⟩:=Zak aY
   obtain⟨u,hu⟩:=Zak (l:=vs) (k:=n6) (by omega)
   obtain⟨fb,fo,eU,dH⟩:=Za6 (hf.mono nH) hu
   refine⟨fb,fo,eU,⟨by omega,by omega⟩,_,(by rw[Int.toNat_natCast];exact dH),fun _ _ _=>(fun v m' _=>SlI st l v m'),Zas (v:=.slice a6 n6 c6) rfl ⟨_,rfl,ZkV l u m6 ((eF n6 u l hu hl).mono nH),Za7,fun a8 n8 c8 m8 je tr b4 nt=>Zaa rfl ?_⟩⟩
   have tr:SlI st l (.slice a8 n8 c8) m8:=tr
   have tu:SlI false l (.slice a8 n8 c8) m8:=by
    obtain⟨a,c,e,g1,g2,_⟩:=tr
    exact⟨a,c,e,g1,g2,fun e=>by cases e⟩
   have iw:=Mem.le_add nt [Value.slice a8 n8 c8]
   refine⟨.inl rfl,ws,[.slice a8 n8 c8],by simp only[slN];omega,rfl,(dZ.mono je).mono iw,ZdB,by simp[Value.oneCell'],by simp only[slN];omega,by simp only[slN];omega,fun a7 c7 m7 iH nu=>Zaa rfl fun M2 ld oF s5 nq=>⟨by trivial,by trivial,A.fol.length - (n6+1),by omega,n6+1,a7,c7,by omega,?_,rfl,rfl,Mem.le_trans eJ ld,⟨ws++[.slice a8 n8 c8],nu.mono nq,by simp[dL],fun i v l' hv hl'=>?_⟩,rfl⟩⟩
   ·rw[Zat (by omega) (by omega)];rfl
   ·rw[List.getElem?_append]at hv
    split at hv
    ·exact(jS i v l' hv hl').mono ld
    ·rename_i cL
     have gd:i=n6:=by
      have:=(List.getElem?_eq_some_iff.1 hv).1
      simp at this;omega
     subst gd
     rw[dL,Nat.sub_self]at hv
     obtain rfl:Value.slice a8 n8 c8=v:=by simpa using hv
     obtain rfl:l=l':=by rw[hl]at hl';exact Option.some.inj hl'
     exact tu.mono oF
  ·have:n6=A.fol.length:=by have:=of_decide_eq_false cL;omega
   subst this
   have jT:=Mem.le_trans cV eJ
   have g3:SlI false A.first (.slice a3 n3 c3) m6:=by
    obtain⟨a,c,e,g1,g2,_⟩:=jr.mono (Mem.le_trans jo jT)
    exact⟨a,c,e,g1,g2,fun e=>by cases e⟩
   have g4:SlI false A.last (.slice a4 n4 c4) m6:=by
    obtain⟨a,c,e,g1,g2,_⟩:=jW.mono (Mem.le_trans jU jT)
    exact⟨a,c,e,g1,g2,fun e=>by cases e⟩
   exact Zaa rfl ⟨m6,nH,Mem.le_refl _,_,_,_,_,rfl,⟨a,c,rfl,bU.mono eJ,dK⟩,⟨a6,c6,ws,rfl,dZ,dL,f8,jS⟩,g3,g4⟩
theorem ZvE(l r:List (List Int))(v w:Value)(m:Mem)(hl:FolR false l v m)(hr:FolR false r w m):CX Try.prog 72 #[v,w,.func (.func 23) #[] #[]] m [] (Ret (.bool (decide (l=r)))):=Zvm l r v w m hl hr
theorem Zm9{st:Bool}(A B:Nf)(hA:∀q∈A.sets,QOk q)(hB:∀q∈B.sets,QOk q)(v w:Value)(m:Mem)(h:NfR st A v m)(k:RefR B w m):CX Try.prog 46 #[v,w] m [] (Ret (.bool (decide (A=B)))):=by
 have h':=h
 obtain⟨s,f,x,y,rfl,⟨sa,sc,rfl,hs,dK,iq⟩,⟨fa,fc,vs,rfl,hf⟩,⟨xa,xc,rfl,hx,dU,fX⟩,⟨ya,yc,rfl,hy,dG,gj⟩⟩:=h
 obtain⟨s',f',x',y',rfl,⟨sa',sc',rfl,hs',sF⟩,hf',⟨xa',xc',rfl,hx',sG,sH⟩,⟨ya',yc',rfl,hy',sI,sJ⟩⟩:=k
 obtain⟨fa',fc',vs',rfl,sK⟩:=id hf'
 apply Zk8
 unfold ZgV
 intro b m1 aZ _ b1 m2 bO _
 have dD:=Mem.le_trans aZ bO
 refine Zaq (ZoS A hA _ m2 (h'.mono dD)) Zla ?_
 rintro a n c a1 n1 c1 a2 n2 c2 a3 n3 c3 e m3 bR ⟨t1,t2,t3,t4,hv,⟨ua,uc,rfl,hu,xO⟩,uU,⟨va,vc,rfl,nM,jL,_⟩,⟨wa,wc,rfl,sP,oG,_⟩⟩
 obtain⟨ga,gc,gs,rfl,k7⟩:=id uU
 simp only[Value.agg.injEq,Array.mk.injEq,List.cons.injEq,Value.slice.injEq,Value.bool.injEq,true_and,and_true]at hv
 obtain⟨⟨rfl,rfl,rfl⟩,⟨rfl,rfl,rfl⟩,⟨rfl,rfl,rfl⟩,⟨rfl,rfl,rfl⟩,rfl⟩:=hv
 have gH:=Mem.le_trans dD bR
 intro b3
 obtain⟨As,Af,A1,A2,Ae⟩:=A
 obtain⟨Bs,Bf,B1,B2,Be⟩:=B
 refine⟨decide ((⟨As,Af,A1,A2,Ae⟩:Nf)=⟨Bs,Bf,B1,B2,Be⟩),?_,Zag gH rfl⟩
 refine Zah (Zwy As Bs hA hB _ _ _ _ m3 hu (hs'.mono gH) dK) fun m4 cT=>?_
 have jm:=Mem.le_trans gH cT
 refine Zab (fun e1=>?_) (fun e1=>⟨by trivial,by simp[show ¬As=Bs by simpa using e1]⟩)
 refine Zah (ZvE Af Bf _ _ m4 (uU.mono cT) (hf'.mono jm)) fun m5 cV=>?_
 have jG:=Mem.le_trans jm cV
 have lK:=Mem.le_trans cT cV
 refine Zab (fun e2=>?_) (fun e2=>⟨by trivial,by simp[show ¬Af=Bf by simpa using e2]⟩)
 refine Zah (ZkU A1 B1 _ _ _ _ m5 (nM.mono lK) (hx'.mono jG) dU) fun m6 eJ=>?_
 have nH:=Mem.le_trans jG eJ
 refine Zab (fun e3=>?_) (fun e3=>⟨by trivial,by simp[show ¬A1=B1 by simpa using e3]⟩)
 refine Zah (ZkU A2 B2 _ _ _ _ m6 ((sP.mono lK).mono eJ) (hy'.mono nH) dG) fun m7 iH=>?_
 refine Zab (fun e4=>⟨by trivial,?_⟩) (fun e4=>⟨by trivial,by simp[show ¬A2=B2 by simpa using e4]⟩)
 refine congrArg (fun z=>[Value.bool z]) ?_
 rw[Bool.eq_iff_iff]
 simp[of_decide_eq_true e1,of_decide_eq_true e2,of_decide_eq_true e3,of_decide_eq_true e4]
end Go.Proofs.Ytplacemlpkhmfaa
set_option linter.unusedVariables false
set_option linter.unusedSimpArgs false
namespace Go.Proofs.Ytplacemlpkhmfaa
open Go Go.Eng Go.Rx Go.Proofs Go.RowKit
set_option maxRecDepth 100000
def ZxP(_:Nat)(s:List Int)(cell tok:Value)(m:Mem):Prop:=SlI false s cell m∧tok=.slice none 0 0
theorem ZwA(A:Nf)(cb:Nat)(base:Mem):ZxD A 81 [] [.pointer (some ⟨cb,0,none⟩)] cb (fun _ _ l=>l) ZxP base:=by
 rintro s n l la lc ca cn cc ta tn tc m hb ⟨_,ht⟩ hl eA _ hn
 simp only[Value.slice.injEq]at ht
 obtain⟨rfl,rfl,rfl⟩:=ht
 apply Zk0
 unfold Zia
 exact⟨rfl,rfl,Mem.le_refl _,_,_,_,_,_,_,rfl,rfl,⟨la,lc,rfl,hl,eA,fun h=>by cases h⟩,rfl⟩
def ZvT(l:List Int)(e:Int):Value→Mem→List (List Value)→Prop:=fun v m' _=>∃w,v=.tuple #[w,.int .i64 e]∧SlI false l w m'
theorem Zb7{l:List Int}{e:Int}:∀(v:Value)(m':Mem) (css:List (List Value)),ZvT l e v m' css→Shape.fits (.tup [.slice,.int .i64]) v=true:=by
 rintro v m' css ⟨w,rfl,a,c,rfl,_⟩;rfl
theorem ZvF{stt:Bool}(A:Nf)(hq:∀q∈A.sets,QOk q)(v:Value)(bs:List Nat)(ba:Option Addr)(bc:Nat)(m:Mem)(h:NfR stt A v m)(hb:Byt m ba bs):
  CX Try.prog 29 #[v,.slice ba bs.length bc] m [] (ZvT (if A.runE bs.length=0 then A.run bs [-1]else[]) (A.runE bs.length)):=by
 have h':=h
 obtain⟨s,f,x,y,rfl,⟨sa,sc,rfl,hs',dK,iq⟩,⟨fa,fc,vs,rfl,hf,eR,f8,eF⟩,⟨xa,xc,rfl,hx,dU,fX⟩,⟨ya,yc,rfl,hy,dG,gj⟩⟩:=h
 apply Zp5
 unfold ZlY
 intro b m1 aZ _ _ _ b1
 have fV:SlI false [] (.slice none 0 0) m1:=⟨none,0,rfl,.inl rfl,by simp,fun _ _=>rfl⟩
 refine ZmI (Ztl A hq _ bs ba bc false 81 [] [.pointer (some ⟨b1,0,none⟩)] b1 (fun _ _ l=>l) ZxP (fun j s a b m m' h hm=>⟨h.1.mono hm,h.2⟩) [] none 0 0 none 0 0 m1 (ZwA A b1 m1) (h'.mono aZ) (hb.mono aZ) ⟨fV,rfl⟩) (by rintro v m' css tvs ⟨rfl,_⟩;rfl) ?_
 rintro n m2 lz _ cs a c d ⟨hn,bO,j,a1,n1,c1,a2,n2,c2,bT,dC,dF,_⟩
 simp only[Value.int.injEq,true_and]at hn
 subst hn
 obtain rfl:cs=[.slice a1 n1 c1]:=by simpa using bT
 refine Zas (v:=.slice a1 n1 c1) rfl ⟨m2,Mem.le_trans aZ bO,Mem.le_refl _,_,rfl,?_⟩
 rw[ZqO]at dF
 exact dF
def ZxQ(j:Nat)(s:List Int)(cell tok:Value)(m:Mem):Prop:=SlI false s cell m∧tok=cell∧s.length≤j∧j≤4097
theorem ZsA{stt:Bool}(A:Nf)(hA:A.Ok)(cb b:Nat)(v0 v1 v2 v3:Value)(base:Mem)(hb:base.reads b 0 [v0,v1,v2,v3,.bool A.empty])(h:NfR stt A (.agg #[v0,v1,v2,v3,.bool A.empty]) base):ZxD A 82 [] [.pointer (some ⟨b,0,none⟩),.pointer (some ⟨cb,0,none⟩)] cb (fun s n l=>if A.accepts l then s++[(n:Int)]else s) ZxQ base:=by
 rintro s n l la lc ca cn cc ta tn tc m uV ⟨⟨sa,sc,qD,bU,bN,_⟩,ht,iq,lO⟩ hl eA jQ hn
 simp only[Value.slice.injEq]at ht qD
 obtain⟨rfl,rfl,rfl⟩:=ht
 obtain⟨rfl,rfl,rfl⟩:=qD
 apply Zg5
 unfold ZeX
 refine⟨v0,v1,v2,v3,.bool A.empty,hb.mono uV,?_⟩
 refine Zah (Zl1 A hA _ l la lc m (h.mono uV) hl eA jQ) fun m1 aZ=>Zab (fun ha=>?_) (fun ha=>?_)
 ·intro b3 fW
  have cP:=Mem.le_add fW [Value.int .i64 (n:Int)]
  refine⟨.inl rfl,Zap s,[.int .i64 (n:Int)],by rw[ZbS,Nat.mul_one],rfl,(bU.mono aZ).mono cP,ZdB,by simp[Value.oneCell'],by omega,by omega,fun a' c' m2 bO gJ _=>⟨rfl,rfl,Mem.le_trans aZ (Mem.le_trans cP bO),_,_,_,_,_,_,rfl,rfl,?_⟩⟩
  simp only[ha,if_true]
  refine⟨⟨a',c',by simp,?_,by rw[List.length_append,List.length_singleton];omega,fun h=>by cases h⟩,rfl,by rw[List.length_append,List.length_singleton];omega,by omega⟩
  rw[ZkE];exact gJ
 ·refine⟨rfl,rfl,aZ,_,_,_,_,_,_,rfl,rfl,?_⟩
  simp only[ha]
  exact⟨⟨_,_,rfl,bU.mono aZ,bN,fun h=>by cases h⟩,rfl,by simp;omega,by omega⟩
theorem Zid{stt:Bool}(A:Nf)(hA:A.right=true)(hq:∀q∈A.sets,QOk q)(v:Value)(bs:List Nat)(ba:Option Addr)(bc:Nat)(m:Mem)(h:NfR stt A v m)(hb:Byt m ba bs):
  CX Try.prog 30 #[v,.slice ba bs.length bc] m [] (ZvT (if A.runE bs.length=0 then A.search bs else[]) (A.runE bs.length)):=by
 have h':=h
 obtain⟨s,f,x,y,rfl,⟨sa,sc,rfl,hs',dK,iq⟩,⟨fa,fc,vs,rfl,hf,eR,f8,eF⟩,⟨xa,xc,rfl,hx,dU,fX⟩,⟨ya,yc,rfl,hy,dG,gj⟩⟩:=h
 apply ZgS
 unfold Zeo
 intro b m1 aZ uW _ _ b1
 have fV:SlI false [] (.slice none 0 0) m1:=⟨none,0,rfl,.inl rfl,by simp,fun _ _=>rfl⟩
 refine ZmI (Ztl A hq _ bs ba bc true 82 [] [.pointer (some ⟨b,0,none⟩),.pointer (some ⟨b1,0,none⟩)] b1 (fun s n l=>if A.accepts l then s++[(n:Int)]else s) ZxQ (fun j s a b m m' h hm=>⟨h.1.mono hm,h.2⟩) [] none 0 0 none 0 0 m1 (ZsA A (ZdI.1 hA) b1 b _ _ _ _ m1 uW (h'.mono aZ)) (h'.mono aZ) (hb.mono aZ) ⟨fV,rfl,by simp,by omega⟩) (by rintro v m' css tvs ⟨rfl,_⟩;rfl) ?_
 rintro n m2 lz _ cs a c d ⟨hn,bO,j,a1,n1,c1,a2,n2,c2,bT,dC,dF,_⟩
 simp only[Value.int.injEq,true_and]at hn
 subst hn
 obtain rfl:cs=[.slice a1 n1 c1]:=by simpa using bT
 refine Zas (v:=.slice a1 n1 c1) rfl ⟨m2,Mem.le_trans aZ bO,Mem.le_refl _,_,rfl,?_⟩
 exact dF
theorem ZmK{stt:Bool}(A:Nf)(hA:A.right=false)(v:Value)(bs:List Nat)(ba:Option Addr)(bc:Nat)(m:Mem)(h:NfR stt A v m):
  CX Try.prog 30 #[v,.slice ba bs.length bc] m [] (ZvT [] 171):=by
 have h':=h
 obtain⟨s,f,x,y,rfl,⟨sa,sc,rfl,hs',dK,iq⟩,⟨fa,fc,vs,rfl,hf,eR,f8,eF⟩,⟨xa,xc,rfl,hx,dU,fX⟩,⟨ya,yc,rfl,hy,dG,gj⟩⟩:=h
 apply ZgS
 unfold Zeo
 intro b m1 aZ uW _ _ b1
 have jk:CXY Try.prog 80 #[.agg #[.slice sa A.sets.length sc,.slice fa A.fol.length fc,.slice xa A.first.length xc,.slice ya A.last.length yc,.bool A.empty],.slice ba bs.length bc,.bool true,.func (.func 82) #[] #[.pointer (some ⟨b,0,none⟩),.pointer (some ⟨b1,0,none⟩)]] m1 (fun k=>(Tok.mk (.slice none 0 0) 1).blk=some k) [⟨b1,[.slice none 0 0],24,1,false,true⟩] [⟨.slice none 0 0,1⟩]
   (fun v m' css tvs=>v=.int .i64 171∧m1.le m'∧css=[[.slice none 0 0]]):=by
  apply ZjZ (p3fi:=[]) (p3ca:=[.pointer (some ⟨b,0,none⟩),.pointer (some ⟨b1,0,none⟩)])
  unfold ZiD
  intro b3 m3 bR _ _ _
  exact Zah (Ziz A _ m3 ((h'.mono aZ).mono bR)) fun m4 cT=>ZbW (by rw[hA];rfl) ⟨rfl,rfl,Mem.le_trans bR cT,rfl⟩
 refine ZmI jk (by rintro v m' css tvs ⟨rfl,_⟩;rfl) ?_
 rintro n m2 lz _ cs a c d ⟨hn,bO,bT⟩
 simp only[Value.int.injEq,true_and]at hn
 subst hn
 obtain rfl:cs=[.slice none 0 0]:=by simpa using bT
 exact Zas (v:=.slice none 0 0) rfl ⟨m2,Mem.le_trans aZ bO,Mem.le_refl _,_,rfl,none,0,rfl,.inl rfl,by simp,fun _ _=>rfl⟩
theorem Zj4{stt:Bool}(A:Nf)(hq:∀q∈A.sets,QOk q)(v:Value)(bs:List Nat)(ba:Option Addr)(bc:Nat)(m:Mem)(h:NfR stt A v m)(hb:Byt m ba bs)(bN:bs.length≤4096):
  CX Try.prog 18 #[v,.slice ba bs.length bc] m [] (Ret (.tuple #[.bool (A.right&&A.matches bs),.int .i64 (if A.right then 0 else 171)])):=by
 have h':=h
 obtain⟨s,f,x,y,rfl,⟨sa,sc,rfl,hs',dK,iq⟩,⟨fa,fc,vs,rfl,hf,eR,f8,eF⟩,⟨xa,xc,rfl,hx,dU,fX⟩,⟨ya,yc,rfl,hy,dG,gj⟩⟩:=h
 apply Zjb
 unfold ZfI
 intro b m1 aZ _
 refine Zaq (ZvF A hq _ bs ba bc m1 (h'.mono aZ) (hb.mono aZ)) Zb7 ?_
 rintro a n c e m2 bO ⟨w,hv,a',c',rfl,bU,hl,_⟩
 simp only[Value.tuple.injEq,Array.mk.injEq,List.cons.injEq,Value.slice.injEq,Value.int.injEq,true_and,and_true]at hv
 obtain⟨⟨rfl,rfl,rfl⟩,rfl⟩:=hv
 have js:=Mem.le_trans aZ bO
 by_cases hr:A.right=true
 ·have he:A.runE bs.length=0:=by unfold Nf.runE;rw[if_neg (by rw[hr];simp),if_neg (by omega)]
  simp only[he,if_true]at bU hl ⊢
  have hA:=ZdI.1 hr
  refine⟨A.matches bs,0,ZbW rfl ?_,Zag js ?_⟩
  ·refine Zah (Zl1 A hA _ _ a c m2 (h'.mono js) bU hl (Zf7 hA bs _ (Zfk A))) fun m3 bR=>?_
   first|exact⟨rfl,rfl⟩|exact⟨by trivial,rfl⟩
  ·rw[hr];rfl
 ·have hr':A.right=false:=by simpa using hr
  have he:A.runE bs.length=171:=by unfold Nf.runE;rw[if_pos hr']
  refine⟨false,171,Zbe (by rw[he];rfl) ?_,Zag js ?_⟩
  ·rw[he];first|exact⟨rfl,rfl⟩|exact⟨by trivial,rfl⟩
  ·rw[hr'];rfl
end Go.Proofs.Ytplacemlpkhmfaa
set_option linter.unusedVariables false
set_option linter.unusedSimpArgs false
namespace Go.Proofs.Ytplacemlpkhmfaa
open Go Go.Eng Go.Rx Go.Proofs Go.RowKit
set_option maxRecDepth 100000
theorem ZsB(f i:Nat)(h:i < 448)(b T cap:Nat)(m:Mem):CX Try.prog 115 #[.pointer (some ⟨b,0,none⟩),.int .i64 i] m [⟨b,bwL f,T,cap,false,true⟩] (fun v _ css=>v=.bool (f.testBit i)∧css=[bwL f]):=by
 apply Zga
 unfold Zdz
 have hq:IntKind.i64.wrap (Int.tdiv (i:Int) 64)=((i / 64:Nat):Int):=by rw[Zw2];exact Zat (by omega) (by omega)
 simp only[hq,Int.toNat_natCast,Nat.mul_one]
 have gG:(wdN f (i / 64)).testBit (i % 64)=f.testBit i:=by
  rw[ZlG,show 64*(i / 64)+i % 64=i by omega];simp;omega
 refine⟨by omega,⟨by omega,by omega⟩,Zas (by rw[Nat.zero_add];exact ZhD (by omega)) ⟨by omega,Zaa rfl ⟨by rw[Zvr];omega,by trivial,m,Mem.le_refl _,Mem.le_refl _,?_,by trivial⟩⟩⟩
 rw[Zvr,Int.toNat_natCast,Nat.min_eq_left (by omega)]
 simp only[intOf]
 rw[ZmY _ _ (ZiW _ _),gG]
def TailOf(a3:Option Addr)(n1 c1:Nat)(a:Option Addr)(n c:Nat):Prop:=n≤c∧((∃k,k≤n1∧n1≤c1∧a=Za2 a3 k c1 1∧n=n1 - k∧c=c1 - k∧(k=0∨∃b o,a3=some ⟨b,o,none⟩))∨c=0)
theorem TailOf.self{a:Option Addr}{n c:Nat}(h:n≤c):TailOf a n c a n c:=⟨h,.inl ⟨0,Nat.zero_le _,h,by simp[Za2],rfl,rfl,.inl rfl⟩⟩
theorem TailOf.pop{a3:Option Addr}{n1 c1:Nat}{b o:Nat}{n c:Nat}(h:TailOf a3 n1 c1 (some ⟨b,o,none⟩) n c)(hn:0 < n):TailOf a3 n1 c1 (Za2 (some ⟨b,o,none⟩) 1 c 1) (n - 1) (c - 1):=by
 obtain⟨ic,h|h⟩:=h
 ·obtain⟨k,h1,h2,h3,h4,h5,h6⟩:=h
  refine⟨by omega,?_⟩
  by_cases hc:c=1
  ·exact .inr (by omega)
  ·left
   refine⟨k+1,by omega,h2,?_,by omega,by omega,.inr ?_⟩
   ·have e1:Za2 (some (Addr.mk b o none)) 1 c 1=some ⟨b,o+1,none⟩:=by
     simp only[Za2,Nat.beq,cond_false,Zar hc,Option.map_some,Nat.mul_one]
     rw[ZaS]
    rw[e1]
    by_cases hk:k=0
    ·subst hk
     have e2:a3=some ⟨b,o,none⟩:=by simpa[Za2]using h3.symm
     rw[e2]
     simp only[Za2,Zar (show 0+1≠0 by omega),Zar (show c1≠0+1 by omega),cond_false,Option.map_some]
     rw[ZaS]
    ·obtain⟨b',o',rfl⟩:=h6.resolve_left hk
     have e2:Za2 (some (Addr.mk b' o' none)) k c1 1=some ⟨b',o'+k,none⟩:=by
      simp only[Za2,Zar hk,Zar (show c1≠k by omega),cond_false,Option.map_some,Nat.mul_one]
      rw[ZaS]
     rw[e2]at h3
     simp only[Option.some.injEq,Addr.mk.injEq,and_true]at h3
     obtain⟨rfl,rfl⟩:=h3
     simp only[Za2,Zar (show k+1≠0 by omega),Zar (show c1≠k+1 by omega),cond_false,Option.map_some,Nat.mul_one]
     rw[ZaS,Nat.add_assoc]
   ·by_cases hk:k=0
    ·subst hk
     exact⟨b,o,by simpa[Za2]using h3.symm⟩
    ·exact h6.resolve_left hk
 ·omega
theorem Zug{m:Mem}{b o c:Nat}{x:Int}{l:List Int}(h:m.reads b o (Zap (x::l)))(hc:(x::l).length≤c):rowRd m (Za2 (some ⟨b,o,none⟩) 1 c 1) (Zap l):=by
 cases l with
 | nil=>exact .inl rfl
 | cons y l=>
  simp only[List.length_cons]at hc
  have e1:Za2 (some (Addr.mk b o none)) 1 c 1=some ⟨b,o+1,none⟩:=by
   simp only[Za2,Nat.beq,cond_false,Zar (show c≠1 by omega),Option.map_some,Nat.mul_one]
   rw[ZaS]
  rw[e1]
  refine .inr ⟨b,o+1,rfl,fun j v hj=>?_⟩
  have:=h (j+1) v (by simpa[Zap]using hj)
  rwa [show o+1+j=o+(j+1) by omega]
theorem Zqb(l:List Int)(a:Option Addr)(c:Nat)(m:Mem)(h1:rowRd m a (Zap l))(h2:l.length≤1000000):CXT Try.prog 44 #[.slice a l.length c] m 1 (fun v m' _=>∃a c,v=.slice a l.length c∧rowRd m' a (Zap l)∧l.length≤c):=by
 apply ZbT
 unfold Zbg
 refine Zab (fun hn=>?_) (fun hn=>⟨⟨rfl,Int.le_refl _,by decide,by decide⟩,fun b hb=>⟨.inl rfl,[],Zap l,rfl,by rw[ZbS];omega,.inl rfl,h1,fun u hu=>?_,by omega,by omega,fun a' c' m' hm' hr j7=>⟨rfl,a',c',by rw[Nat.zero_add],hr,by rw[Nat.zero_add]at j7;exact j7.1⟩⟩⟩)
 ·have:=ZiA h1 hn
  obtain rfl:l=[]:=by simpa[Zap]using this
  exact⟨rfl,none,0,rfl,.inl rfl,Nat.le_refl _⟩
 ·obtain⟨i,_,rfl⟩:=List.mem_map.1 hu
  rfl
theorem Zl2{st:Bool}(A:Nf)(hA:A.Ok)(v:Value)(m:Mem)(h:NfR st A v m):CX Try.prog 69 #[v] m [] (fun v _ _=>∃f:Nat,v=bwV f∧∀i,f.testBit i=true↔A.Reach i):=by
 have hn:=hA.n
 have bN:=hA.len
 obtain⟨s,f,x,y,rfl,⟨sa,sc,rfl,hs',dK,iq⟩,⟨fa,fc,vs,rfl,hf,eR,f8,eF⟩,⟨xa,xc,rfl,hx,dU,fX⟩,⟨ya,yc,rfl,hy,dG,gj⟩⟩:=h
 apply Zjc
 unfold ZfJ
 intro b m1 aZ _ _ _ b1 b2
 refine⟨_,Zqb A.first xa xc m1 (hx.mono aZ) dU,(by rintro v m' css ⟨a,c,rfl,_⟩;rfl),?_⟩
 rintro a n c m2 bO ⟨a',c',hv,bU,ic⟩
 simp only[Value.slice.injEq]at hv
 obtain⟨rfl,rfl,rfl⟩:=hv
 have dD:=Mem.le_trans aZ bO
 refine⟨fun xs css tvs m' q=>∃(todo:List Int)(f:Nat)(a:Option Addr)(c:Nat)(a3:Option Addr)(n1 c1:Nat),xs=[.slice a todo.length c]∧css=[bwL f]∧tvs=[.slice a3 n1 c1]∧m2.le m'∧rowRd m' a (Zap todo)∧TailOf a3 n1 c1 a todo.length c∧Seek A todo f∧todo.length+1000001*Zmp f≤1000000000∧q=todo.length+1000001*Zmp f,
  ⟨_,A.first,0,a,c,a,A.first.length,c,rfl,by rw[ZjE],rfl,Mem.le_refl _,bU,TailOf.self ic,Seek.start hA,by have:=Zsa 0;omega,rfl⟩,?_⟩
 rintro a n c cs a3 n1 c1 m3 q _ ⟨todo,f,a',c',a3',n1',c1',hx,bT,dC,bR,i6,jF,jJ,nw,hq⟩
 simp only[List.cons.injEq,Value.slice.injEq,and_true]at hx dC
 obtain⟨rfl,rfl,rfl⟩:=hx
 obtain⟨rfl,rfl,rfl⟩:=dC
 obtain rfl:cs=bwL f:=by simpa using bT
 subst hq
 have gH:=Mem.le_trans dD bR
 refine Zab (fun tw=>?_) (fun tw=>?_)
 ·have gu:0 < todo.length:=by have:=of_decide_eq_true tw;omega
  obtain⟨p,rest,rfl⟩:∃p rest,todo=p::rest:=by
   cases todo with
   | nil=>simp at gu
   | cons p rest=>exact⟨p,rest,rfl⟩
  rcases i6 with h0|⟨tb,to_,rfl,cO⟩
  ·simp[Zap]at h0
  have hp:=jJ.rng p (by simp)
  obtain⟨i,rfl⟩:∃i:Nat,p=i:=⟨p.toNat,by omega⟩
  have hi:i < A.fol.length:=by have:=hp.2.1;unfold Nf.top at this;omega
  have ls:=cO 0 (.int .i64 (i:Int)) rfl
  have iK:=jF.pop gu
  have gk:=Zug cO jF.1
  have lC:((i:Int)::rest).length - 1=rest.length:=by simp
  have i9:((i:Int)::rest).length=rest.length+1:=by simp
  simp only[show Int.toNat 1=1 from rfl]
  refine⟨tb,to_,rfl,⟨by omega,by omega⟩,_,ls,⟨by omega,by omega⟩,?_⟩
  refine⟨_,trivial,ZsB f i (by omega) b2 100 7 m3,(by rintro v m' css ⟨rfl,_⟩;rfl),?_⟩
  rintro bb m4 cT cs4 ⟨gC,tx⟩
  simp only[Value.bool.injEq]at gC
  subst gC
  obtain rfl:cs4=bwL f:=by simpa using tx
  refine Zab (fun hb=>?_) (fun hb=>?_)
  ·have hb':f.testBit i=false:=by simpa using hb
   refine⟨_,trivial,ZjQ f i (by omega) b2 100 7 [] [] m4 (by omega),fun v _ _ h=>by rw[h.1];rfl,fun m5 cV cs5 jp=>?_⟩
   have mj:=jp.2
   simp only[List.nil_append,List.append_nil]at mj
   obtain rfl:cs5=bwL (f|||2 ^ i):=by simpa using mj
   obtain⟨l,hl⟩:=Zak hi
   obtain⟨u,hu⟩:=Zak (l:=vs) (k:=i) (by omega)
   have lK:=Mem.le_trans cT cV
   obtain⟨la,lc,rfl,oE,eA,_⟩:=(eF _ u l hu hl).mono (Mem.le_trans gH lK)
   obtain⟨fb,fo,eU,dH⟩:=Za6 (hf.mono (Mem.le_trans gH lK)) hu
   have iL:=jJ.take hA (by simpa using hl)
   simp only[Int.toNat_natCast]at iL
   have i4:=ZpG (by omega) hb'
   refine Zaa rfl ⟨fb,fo,eU,⟨by show(0:Int)≤i;omega,by show(i:Int) < (A.fol.length:Nat);omega⟩,.slice la l.length lc,(show m5 fb (fo+(i:Int).toNat*1)=_ from dH),Zaa rfl (Zab (fun hz=>?_) (fun hz=>?_))⟩
   ·have ni:l=[]:=List.eq_nil_of_length_eq_zero (Nat.eq_of_beq_eq_true hz)
    subst ni
    rw[List.append_nil]at iL
    refine Zaa (by rw[Nat.ble_eq];exact iK.1) ⟨by trivial,by trivial,_,?_,rest,f|||2 ^ i,_,_,_,_,_,by rw[lC],rfl,rfl,Mem.le_trans bR lK,gk.mono lK,by rw[←lC];exact iK,iL,?_,rfl⟩
    ·rw[i9];omega
    ·rw[i9]at nw;omega
   ·have ni:l.length≠0:=fun e=>by simp only[slN]at hz;rw[e]at hz;cases hz
    refine⟨?_,Zap rest,Zap l,by rw[ZbS,lC];omega,by rw[ZbS];exact(Nat.mul_one _).symm,gk.mono lK,oE,fun u hu=>?_,?_,?_,fun a' c' m6 eJ nJ j7=>?_⟩
    ·obtain⟨wX,hk|hk⟩:=iK
     ·obtain⟨k,k1,k2,k3,k4,k5,_⟩:=hk
      exact .inl ⟨a3,n1,c1,k,rfl,k1,by rw[k3,k4,k5]⟩
     ·refine .inr (.inr ?_)
      rw[hk];show 0 < _+l.length;omega
    ·obtain⟨z,_,rfl⟩:=List.mem_map.1 hu
     rfl
    ·rw[lC];show(rest.length+l.length)*8≤_
     rw[i9]at nw;omega
    ·rw[lC];show rest.length+l.length≤_
     rw[i9]at nw;omega
    ·have jA:((i:Int)::rest).length - 1+slN (.slice la l.length lc)=(rest++l).length:=by rw[lC,List.length_append];rfl
     rw[jA]at j7
     refine⟨by trivial,by trivial,_,?_,rest++l,f|||2 ^ i,a',c',a',(rest++l).length,c',by rw[jA],rfl,by rw[jA],Mem.le_trans bR (Mem.le_trans lK eJ),by rw[ZkE];exact nJ,TailOf.self j7.1,iL,?_,rfl⟩
     ·rw[i9,List.length_append];omega
     ·rw[i9]at nw;rw[List.length_append];omega
  ·have hb':f.testBit i=true:=by simpa using hb
   refine⟨by trivial,by trivial,_,?_,rest,f,_,_,_,_,_,by rw[lC],rfl,rfl,Mem.le_trans bR cT,gk.mono cT,by rw[←lC];exact iK,jJ.skip (by simpa using hb'),?_,rfl⟩
   ·rw[i9];omega
   ·rw[i9]at nw;omega
 ·have h0:todo=[]:=List.eq_nil_of_length_eq_zero (by have:=of_decide_eq_false tw;omega)
  subst h0
  exact Zaa rfl ⟨m3,gH,Mem.le_refl _,f,rfl,jJ.done hA⟩
theorem ZvG(f g j:Nat):wdN (f&&&g) j=wdN f j&&&wdN g j:=by
 apply Nat.eq_of_testBit_eq
 intro k
 simp only[ZlG,Nat.testBit_and]
 cases decide (k < 64) <;> simp
theorem ZsC(a b:Nat)(ha:a < 18446744073709551616)(hb:b < 18446744073709551616):IntKind.u64.wrap ((BitVec.ofInt 64 (a:Int)&&&BitVec.ofInt 64 (b:Int)).toNat:Int)=((a&&&b:Nat):Int):=by
 rw[BitVec.toNat_and,Zxb a ha,Zxb b hb]
 exact Zs2 _ (Nat.lt_of_le_of_lt Nat.and_le_left ha)
open Classical in
noncomputable def Zo9(A:Nf):List Int:=((List.range 448).filter fun i=>decide (A.Reach i∧A.turn.Reach i)).map fun i:Nat=>(i:Int)
theorem ZxY(f g:Nat):∀j,j < 7→IntKind.u64.wrap ((BitVec.ofInt 64 ((wdN f j:Nat):Int)&&&BitVec.ofInt 64 ((wdN g j:Nat):Int)).toNat:Int)=((wdN (f&&&g) j:Nat):Int):=by
 intro j _
 rw[ZsC _ _ (ZiW _ _) (ZiW _ _),ZvG]
def ZwB(f g k:Nat):List Value:=(List.range 7).map fun j=>.int .u64 ((if j < k then wdN (f&&&g) j else wdN f j:Nat):Int)
theorem Zuh{f g k j:Nat}(h:j < 7):(ZwB f g k)[j]?=some (.int .u64 ((if j < k then wdN (f&&&g) j else wdN f j:Nat):Int)):=by
 simp[ZwB,h]
theorem ZsD{f g k:Nat}(h:k < 7):Zan (ZwB f g k) k [.int .u64 ((wdN (f&&&g) k:Nat):Int)]=ZwB f g (k+1):=by
 have:k=0∨k=1∨k=2∨k=3∨k=4∨k=5∨k=6:=by omega
 rcases this with rfl|rfl|rfl|rfl|rfl|rfl|rfl <;> rfl
theorem Zfw{A:Nf}{e:Int}:∀(v:Value)(m':Mem) (css:List (List Value)),NfE A e v m' css→Shape.fits (.tup [.agg [.slice,.slice,.slice,.slice,.bool],.int .i64]) v=true:=by
 rintro v m' css ⟨w,rfl,s,f,x,y,rfl,⟨_,_,rfl,_⟩,⟨_,_,_,rfl,_⟩,⟨_,_,rfl,_⟩,⟨_,_,rfl,_⟩⟩;rfl
theorem Ztp{φ:Nat→Prop}:∀(v:Value)(m':Mem) (css:List (List Value)),(∃f:Nat,v=bwV f∧φ f)→Shape.fits (.agg [.int .u64,.int .u64,.int .u64,.int .u64,.int .u64,.int .u64,.int .u64]) v=true:=by
 rintro v m' css ⟨f,rfl,_⟩;rfl
theorem Zqc{st:Bool}(A:Nf)(v:Value)(m:Mem)(h:NfR st A v m)(hr:A.right=true):CX Try.prog 20 #[v] m [] (ZvT (Zo9 A) 0):=by
 have h':=h
 have hA:=ZdI.1 hr
 obtain⟨s,f,x,y,rfl,⟨sa,sc,rfl,hs',dK,iq⟩,⟨fa,fc,vs,rfl,hf,eR,f8,eF⟩,⟨xa,xc,rfl,hx,dU,fX⟩,⟨ya,yc,rfl,hy,dG,gj⟩⟩:=h
 apply Zj0
 unfold ZgT
 intro b m1 aZ _
 refine Zaq (Zl0 A _ m1 (h'.mono aZ) hr) (fun v m' _ ⟨w,h1,h2⟩=>by rw[h1];exact congrArg (·&&true) (Zuc w m' [] h2)) ?_
 rintro a0 n0 c0 a1 n1 c1 a2 n2 c2 a3 n3 c3 b5 e m2 bO ⟨w,hv,lf⟩
 simp only[Value.tuple.injEq,Array.mk.injEq,List.cons.injEq,Value.int.injEq,true_and,and_true]at hv
 obtain⟨rfl,rfl⟩:=hv
 have dD:=Mem.le_trans aZ bO
 intro b2
 refine Zbe rfl ⟨fun i _ _=>if i=1 then(fun v _ _=>∃f:Nat,v=bwV f∧∀i,f.testBit i=true↔A.Reach i)else(fun v _ _=>∃f:Nat,v=bwV f∧∀i,f.testBit i=true↔A.turn.Reach i),?_⟩
 refine⟨_,rfl,Zl2 A hA _ m2 (h'.mono dD),Ztp,fun k0 k1 k2 k3 k4 k5 k6 m3 bR jr=>?_⟩
 obtain⟨f1,lE,kV⟩:∃f:Nat,_=bwV f∧∀i,f.testBit i=true↔A.Reach i:=jr
 simp only[bwV,Value.agg.injEq,Array.mk.injEq,List.cons.injEq,Value.int.injEq,true_and,and_true]at lE
 obtain⟨rfl,rfl,rfl,rfl,rfl,rfl,rfl⟩:=lE
 refine⟨_,rfl,Zl2 A.turn (Zs8 hA) _ m3 (lf.mono bR),Ztp,fun k0 k1 k2 k3 k4 k5 k6 m4 cT jW=>?_⟩
 obtain⟨f2,jR,qL⟩:∃f:Nat,_=bwV f∧∀i,f.testBit i=true↔A.turn.Reach i:=jW
 simp only[bwV,Value.agg.injEq,Array.mk.injEq,List.cons.injEq,Value.int.injEq,true_and,and_true]at jR
 obtain⟨rfl,rfl,rfl,rfl,rfl,rfl,rfl⟩:=jR
 intro b3 b4 M eQ jo jU
 have jZ:=Mem.le_trans dD eQ
 refine⟨fun xs css _ m' q=>∃k:Nat,k≤7∧xs=[.int .i64 k]∧css=[ZwB f1 f2 k]∧M.le m'∧q=7 - k,⟨_,0,by omega,rfl,rfl,Mem.le_refl _,rfl⟩,?_⟩
 rintro z cs m5 q cV ⟨k,hk,hz,bT,_,hq⟩
 obtain rfl:z=k:=by simpa using hz
 obtain rfl:cs=ZwB f1 f2 k:=by simpa using bT
 subst hq
 refine Zab (fun bK=>?_) (fun cL=>?_)
 ·have aY:k < 7:=by have:=of_decide_eq_true bK;omega
  have h1:=Zuh (f:=f1) (g:=f2) (k:=k) aY
  rw[if_neg (by omega)]at h1
  have h2:=ZhD (f:=f2) aY
  simp only[Int.toNat_natCast,Nat.zero_add,Nat.mul_one]
  refine⟨⟨by omega,by omega⟩,Zas h1 ⟨⟨by omega,by omega⟩,Zas h2 (Zaa rfl ⟨⟨by omega,by omega⟩,Zaa (by rw[Nat.ble_eq];simp[ZwB];omega) ⟨by trivial,_,by omega,k+1,by omega,by rw[Zat (by omega) (by omega)];rfl,?_,cV,rfl⟩⟩)⟩⟩
  simp only[intOf]
  rw[ZxY f1 f2 k aY,ZsD aY]
 ·have:k=7:=by have:=of_decide_eq_false cL;omega
  subst this
  intro m6 eJ sX
  refine Zaq (Zk4 (f1&&&f2) b3 0 m6 sX) Za7 ?_
  intro a7 n7 c7 m7 iH nI
  refine⟨m7,Mem.le_trans jZ (Mem.le_trans cV (Mem.le_trans eJ iH)),Mem.le_refl _,_,rfl,?_⟩
  have e:Zo9 A=Zb0 (f1&&&f2):=by
   classical
   unfold Zo9 Zb0 Zcp
   congr 1
   apply List.filter_congr
   intro i _
   rw[Bool.eq_iff_iff,Nat.testBit_and,Bool.and_eq_true,kV,qL]
   exact @decide_eq_true_iff _ _
  rw[e]
  obtain⟨aa,cc,g1,g2,g3,_⟩:=(show SlI true (Zb0 (f1&&&f2)) _ _ from nI)
  exact⟨aa,cc,g1,g2,g3,fun h=>by cases h⟩
theorem Zqd{st:Bool}(A:Nf)(v:Value)(m:Mem)(h:NfR st A v m)(hr:A.right=false):CX Try.prog 20 #[v] m [] (ZvT [] 171):=by
 have h':=h
 obtain⟨s,f,x,y,rfl,⟨sa,sc,rfl,hs',dK,iq⟩,⟨fa,fc,vs,rfl,hf,eR,f8,eF⟩,⟨xa,xc,rfl,hx,dU,fX⟩,⟨ya,yc,rfl,hy,dG,gj⟩⟩:=h
 apply Zj0
 unfold ZgT
 intro b m1 aZ _
 refine Zaq (ZlZ A _ m1 (h'.mono aZ) hr) Zfw ?_
 rintro a0 n0 c0 a1 n1 c1 a2 n2 c2 a3 n3 c3 b5 e m2 bO ⟨w,hv,lf⟩
 simp only[Value.tuple.injEq,Array.mk.injEq,List.cons.injEq,Value.int.injEq,true_and,and_true]at hv
 obtain⟨rfl,rfl⟩:=hv
 intro b2
 exact ZbW rfl ⟨_,Mem.le_trans aZ bO,Mem.le_refl _,_,rfl,none,0,rfl,.inl rfl,by simp,fun _ _=>rfl⟩
end Go.Proofs.Ytplacemlpkhmfaa
set_option linter.unusedVariables false
set_option linter.unusedSimpArgs false
namespace Go.Proofs.Ytplacemlpkhmfaa
open Go Go.Eng Go.Rx Go.Proofs Go.RowKit
set_option maxRecDepth 100000
theorem ZsE{c:Bool}{p q:Prop}(h1:c=true→p)(h2:c=false→q):bif c then p else q:=by
 cases c with
 | true=>exact h1 rfl
 | false=>exact h2 rfl
theorem Zui{l:List Nat}{x n:Nat}(hl:l.length=n)(hb:(Nat.beq (n*1) 1&&Nat.beq (x*1) 0)=true):([[.int .i64 1]]:List (List Value))=[ZaT (l.set x 1)]:=by
 rw[Nat.mul_one,Nat.mul_one,Bool.and_eq_true]at hb
 obtain rfl:=Nat.eq_of_beq_eq_true hb.1
 obtain rfl:=Nat.eq_of_beq_eq_true hb.2
 match l,hl with
 | [y],_=>rfl
theorem Zra{l:List Nat}{x n:Nat}(hl:l.length=n)(hx:x < n):Nat.ble (x*1+1) (ZaT l).length=true∧[Zan (ZaT l) (x*1) [.int .i64 1]]=[ZaT (l.set x 1)]:=by
 rw[Nat.mul_one]
 refine⟨by rw[Zcj,hl,Nat.ble_eq];omega,?_⟩
 rw[Zf8 (by rw[Zcj];omega)]
 have:=Zk6 l x 1
 rw[show(Value.int .i64 ((1:Nat):Int))=.int .i64 1 from rfl]at this
 rw[this]
theorem ZoT{m:Mem}{a:Option Addr}{bs:List Nat}(h:Byt m a bs){k ch:Nat}(hc:bs[k]?=some ch):∃b o,a=some ⟨b,o,none⟩∧m b (o+k*1)=some (.int .u8 ch)∧ch < 256:=by
 rcases h.1 with h0|⟨bb,bo,nF,nG⟩
 ·rw[h0]at hc;simp at hc
 ·have:=nG k (.int .u8 ch) (by simp[hc])
  exact⟨bb,bo,nF,by rwa [Nat.mul_one],h.2 ch (List.mem_of_getElem? hc)⟩
theorem Zgg{A:Nf}(hA:A.Ok){l:List Int}(h:A.states l=true):l.length≤1000000:=by
 have h1:=Zce.1 h
 have key:∀(l:List Int)(lo hi:Int),l.Pairwise (· < ·)→(∀x∈l,lo < x∧x≤hi)→lo≤hi→(l.length:Int)≤hi - lo:=by
  intro l
  induction l with
  | nil=>intro lo hi _ _ h;simp;omega
  | cons p l ih=>
   intro lo hi hp hb h
   rw[List.pairwise_cons]at hp
   have h0:=hb p (by simp)
   have:=ih p hi hp.2 (fun x hx=>⟨hp.1 x hx,(hb x (by simp[hx])).2⟩) h0.2
   simp;omega
 have:=key l (-2) A.top h1.1 h1.2 (by unfold Nf.top;omega)
 have:=hA.n
 unfold Nf.top at *;omega
theorem Zrb(A:Nf)(nK:∀q∈A.sets,QOk q)(v:Value)(bs:List Nat)(ba:Option Addr)(bc:Nat)(m:Mem)(h:RefR A v m)(hb:Byt m ba bs):
  CX Try.prog 53 #[v,.slice ba bs.length bc] m [] (ZvT (if A.runE bs.length=0 then A.run bs [-1]else[]) (A.runE bs.length)):=by
 have h':=h
 obtain⟨s,f,x,y,rfl,⟨sa,sc,rfl,hs,dK⟩,⟨fa,fc,vs,rfl,hf,eR,f8,eF⟩,⟨xa,xc,rfl,hx,dU,fX⟩,⟨ya,yc,rfl,hy,dG,gj⟩⟩:=h
 apply Zmq
 unfold ZhO
 intro b m1 aZ _
 refine Zah (Zsx A nK _ m1 (h'.mono aZ)) fun m2 bO=>Zab (fun h1=>?_) (fun h1=>?_)
 ·have he:A.runE bs.length=171:=by unfold Nf.runE;rw[if_pos (by simpa using h1)]
  rw[he]
  exact⟨m2,Mem.le_trans aZ bO,Mem.le_refl _,_,rfl,none,0,rfl,.inl rfl,by simp,fun e=>by cases e⟩
 have hr:A.right=true:=by simpa using h1
 have hA:=ZdI.1 hr
 have dD:=Mem.le_trans aZ bO
 refine Zab (fun h2=>?_) (fun h2=>?_)
 ·have h2':4096 < bs.length:=by have:=of_decide_eq_true h2;omega
  have he:A.runE bs.length=3:=by unfold Nf.runE;rw[hr,if_pos h2'];rfl
  rw[he]
  exact⟨m2,dD,Mem.le_refl _,_,rfl,none,0,rfl,.inl rfl,by simp,fun e=>by cases e⟩
 have h2':bs.length≤4096:=by have:=of_decide_eq_false h2;omega
 have he:A.runE bs.length=0:=by unfold Nf.runE;rw[if_neg (by rw[hr];simp),if_neg (by omega)]
 rw[he]
 simp only[if_true]
 intro b2 gN
 have wY:=Mem.le_add gN [Value.int .i64 (-1)]
 have dJ:rowRd (m2.add b2 [.int .i64 (-1)]) (some ⟨b2,0,none⟩) (Zap [-1]):=ZdB
 refine⟨fun xs css tvs m' q=>∃(k:Nat)(a:Option Addr)(c:Nat),k≤bs.length∧xs=[.slice a (A.part bs 0 k).length c,.int .i64 k]∧m2.le m'∧rowRd m' a (Zap (A.part bs 0 k))∧q=bs.length - k,⟨_,0,some ⟨b2,0,none⟩,1,Nat.zero_le _,by rw[Zdj A bs (Nat.le_refl _)];rfl,wY,by rw[Zdj A bs (Nat.le_refl _)];exact dJ,rfl⟩,?_⟩
 rintro a n c z m3 q _ ⟨k,a',c',hk,iO,bR,bU,hq⟩
 simp only[List.cons.injEq,Value.slice.injEq,Value.int.injEq,true_and,and_true]at iO
 obtain⟨⟨rfl,rfl,rfl⟩,rfl⟩:=iO
 subst hq
 have gH:=Mem.le_trans dD bR
 have bV:=ZjM hA bs 0 k
 refine Zab (fun bK=>?_) (fun cL=>?_)
 ·have aY:k < bs.length:=by have:=of_decide_eq_true bK;omega
  obtain⟨ch,iy⟩:=Zak aY
  obtain⟨bb,bo,nF,cO,i8⟩:=ZoT (hb.mono gH) iy
  refine⟨fun _ _ _=>(fun v m' _=>SlI true (A.step (A.part bs 0 k) ch) v m'),bb,bo,nF,⟨by omega,by omega⟩,_,(by rw[Int.toNat_natCast];exact cO),_,rfl,Zq9 A hA _ (A.part bs 0 k) a c ch i8 m3 (h'.mono gH) bU (Zgg hA bV) bV,Za7,fun a4 n4 c4 m4 cT hR M fK eQ=>?_⟩
  obtain⟨_,_,e1,r1,_⟩:=hR
  simp only[Value.slice.injEq,true_and]at e1
  obtain⟨rfl,rfl,rfl⟩:=e1
  have hn:=ZhN A (Nat.zero_le k) iy
  exact⟨by trivial,_,by omega,k+1,a4,c4,aY,by rw[hn,Zat (by omega) (by omega)];rfl,Mem.le_trans bR fK,by rw[hn];exact r1.mono eQ,rfl⟩
 ·have:k=bs.length:=by have:=of_decide_eq_false cL;omega
  subst this
  have e:A.part bs 0 bs.length=A.run bs [-1]:=by unfold Nf.part;rw[List.drop_zero,List.take_length]
  rw[e]at bU bV ⊢
  exact⟨m3,gH,Mem.le_refl _,_,rfl,a,c,rfl,bU,Zgg hA bV,fun e=>by cases e⟩
set_option maxHeartbeats 1600000 in
theorem Zqe(A:Nf)(nK:∀q∈A.sets,QOk q)(v:Value)(bs:List Nat)(ba:Option Addr)(bc:Nat)(m:Mem)(h:RefR A v m)(hb:Byt m ba bs)(oJ:bs.length≤4096)(hr:A.right=true):
  CX Try.prog 54 #[v,.slice ba bs.length bc] m [] (ZvT (A.search bs) 0):=by
 have h':=h
 have hA:=ZdI.1 hr
 obtain⟨s,f,x,y,rfl,⟨sa,sc,rfl,hs,dK⟩,⟨fa,fc,vs,rfl,hf,eR,f8,eF⟩,⟨xa,xc,rfl,hx,dU,fX⟩,⟨ya,yc,rfl,hy,dG,gj⟩⟩:=h
 apply ZhP
 unfold ZeP
 intro b m1 aZ _
 have he:A.runE bs.length=0:=by unfold Nf.runE;rw[if_neg (by rw[hr];simp),if_neg (by omega)]
 refine Zaq (Zrb A nK _ bs ba bc m1 (h'.mono aZ) (hb.mono aZ)) Zb7 ?_
 rintro a n c e m2 bO ⟨w,hv,_⟩
 simp only[Value.tuple.injEq,Array.mk.injEq,List.cons.injEq,Value.int.injEq,true_and,and_true]at hv
 obtain⟨_,rfl⟩:=hv
 rw[he]
 have dD:=Mem.le_trans aZ bO
 have dZ:IntKind.i64.wrap ((bs.length:Int)+1)=((bs.length+1:Nat):Int):=by rw[Zat (by omega) (by omega)];rfl
 simp only[dZ,Int.toNat_natCast]
 refine Zuz rfl ⟨⟨by omega,by omega,by omega,by omega⟩,fun b1=>?_⟩
 refine⟨fun xs css _ m' q=>∃i:Nat,i≤bs.length+1∧xs=[.int .i64 i]∧css=[ZaT (Zcf (Zdy A bs i 0) (bs.length+1))]∧m2.le m'∧q=bs.length+1 - i,⟨_,0,Nat.zero_le _,rfl,by rw[Zk5,Zom],Mem.le_refl _,rfl⟩,?_⟩
 rintro z cs m3 q _ ⟨i,hi,hz,bT,bR,hq⟩
 obtain rfl:z=i:=by simpa using hz
 obtain rfl:cs=ZaT (Zcf (Zdy A bs i 0) (bs.length+1)):=by simpa using bT
 subst hq
 have gH:=Mem.le_trans dD bR
 refine Zab (fun bK=>?_) (fun cL=>?_)
 ·have aY:i≤bs.length:=by have:=of_decide_eq_true bK;omega
  intro b2 gN
  have wZ:=Mem.le_add gN [Value.int .i64 (-1)]
  have dJ:rowRd (m3.add b2 [.int .i64 (-1)]) (some ⟨b2,0,none⟩) (Zap [-1]):=ZdB
  refine⟨fun xs css tvs m' q=>∃(k:Nat)(a:Option Addr)(c:Nat),i≤k∧k≤bs.length+1∧xs=[.slice a (A.part bs i (min k bs.length)).length c,.int .i64 k]∧css=[ZaT (Zcf (Zdy A bs i k) (bs.length+1))]∧m3.le m'∧rowRd m' a (Zap (A.part bs i (min k bs.length)))∧q=bs.length+1 - k,
   ⟨_,i,some ⟨b2,0,none⟩,1,Nat.le_refl _,by omega,by rw[Zdj A bs (by omega)];rfl,by rw[ZpH],wZ,by rw[Zdj A bs (by omega)];exact dJ,rfl⟩,?_⟩
  rintro a n c z cs m4 q _ ⟨k,a',c',qJ,hk,iO,bT,cT,bU,hq⟩
  simp only[List.cons.injEq,Value.slice.injEq,Value.int.injEq,true_and,and_true]at iO
  obtain⟨⟨rfl,rfl,rfl⟩,rfl⟩:=iO
  obtain rfl:cs=ZaT (Zcf (Zdy A bs i k) (bs.length+1)):=by simpa using bT
  subst hq
  have jm:=Mem.le_trans gH cT
  have bV:=ZjM hA bs i (min k bs.length)
  have dL:IntKind.i64.wrap ((k:Int)+1)=((k+1:Nat):Int):=by rw[Zat (by omega) (by omega)];rfl
  refine Zab (fun dY=>?_) (fun fZ=>?_)
  ·have cQ:k≤bs.length:=by have:=of_decide_eq_true dY;omega
   rw[show min k bs.length=k by omega]at bU bV ⊢
   have fin:∀(cc:List (List Value)) (m5:Mem),m3.le m5→rowRd m5 a (Zap (A.part bs i k))→m.le m5→cc=[ZaT (Zcf (Zdy A bs i (k+1)) (bs.length+1))]→br (decide ((k:Int) < (bs.length:Int)))
     (∃f:Fx,∃b4 o,ba=some ⟨b4,o,none⟩∧Zac (k:Int) bs.length∧∃v:Value,m5 b4 (o+k*1)=some v∧∃R:Value→Mem→List (List Value)→Prop,R=f 6 [.agg #[.slice sa A.sets.length sc,.slice fa A.fol.length fc,.slice xa A.first.length xc,.slice ya A.last.length yc,.bool A.empty],.slice a (A.part bs i k).length c,v] m5∧CX Try.prog 48 (Array.mk [.agg (Array.mk [.slice sa A.sets.length sc,.slice fa A.fol.length fc,.slice xa A.first.length xc,.slice ya A.last.length yc,.bool A.empty]),.slice a (A.part bs i k).length c,v]) m5 [] R∧(∀(v:Value)(m':Mem) (css:List (List Value)),R v m' css→Shape.fits .slice v=true)∧∀(a4:Option Addr)(n4 c4:Nat)(m6:Mem),m5.le m6→R (.slice a4 n4 c4) m6 []→∀M:Mem,m5.le M→m6.le M→True∧∃n',n' < bs.length+1 - k∧∃(k':Nat)(a':Option Addr)(c':Nat),i≤k'∧k'≤bs.length+1∧([.slice a4 n4 c4,.int .i64 (IntKind.i64.wrap ((k:Int)+1))]:List Value)=[.slice a' (A.part bs i (min k' bs.length)).length c',.int .i64 k']∧cc=[ZaT (Zcf (Zdy A bs i k') (bs.length+1))]∧m3.le M∧rowRd M a' (Zap (A.part bs i (min k' bs.length)))∧n'=bs.length+1 - k')
     (True∧∃n',n' < bs.length+1 - k∧∃(k':Nat)(a':Option Addr)(c':Nat),i≤k'∧k'≤bs.length+1∧([.slice a (A.part bs i k).length c,.int .i64 (IntKind.i64.wrap ((k:Int)+1))]:List Value)=[.slice a' (A.part bs i (min k' bs.length)).length c',.int .i64 k']∧cc=[ZaT (Zcf (Zdy A bs i k') (bs.length+1))]∧m3.le m5∧rowRd m5 a' (Zap (A.part bs i (min k' bs.length)))∧n'=bs.length+1 - k'):=by
    rintro cc m5 cV jK jG rfl
    refine Zab (fun h3=>?_) (fun h3=>?_)
    ·have h3':k < bs.length:=by have:=of_decide_eq_true h3;omega
     obtain⟨ch,iy⟩:=Zak h3'
     obtain⟨bb,bo,nF,cO,i8⟩:=ZoT (hb.mono jG) iy
     refine⟨fun _ _ _=>(fun v m' _=>SlI true (A.step (A.part bs i k) ch) v m'),bb,bo,nF,⟨by omega,by omega⟩,_,cO,_,rfl,Zq9 A hA _ (A.part bs i k) a c ch i8 m5 (h'.mono jG) jK (Zgg hA bV) bV,Za7,fun a4 n4 c4 m6 eJ hR M fK eQ=>?_⟩
     obtain⟨_,_,e1,r1,_⟩:=hR
     simp only[Value.slice.injEq,true_and]at e1
     obtain⟨rfl,rfl,rfl⟩:=e1
     have hn:=ZhN A qJ iy
     have ik:min (k+1) bs.length=k+1:=by omega
     exact⟨trivial,_,by omega,k+1,a4,c4,by omega,by omega,by rw[ik,hn,dL],rfl,Mem.le_trans cV fK,by rw[ik,hn];exact r1.mono eQ,rfl⟩
    ·have h3':k=bs.length:=by have:=of_decide_eq_false h3;omega
     have ik:min (k+1) bs.length=k:=by omega
     exact⟨trivial,_,by omega,k+1,a,c,by omega,by omega,by rw[ik,dL],rfl,cV,by rw[ik];exact jK,rfl⟩
   refine Zah (Zj3 A hA _ (A.part bs i k) a c m4 (h'.mono jm) bU (Zgg hA bV) bV) fun m5 cV=>Zab (fun h4=>?_) (fun h4=>?_)
   ·refine⟨⟨by omega,by omega⟩,?_⟩
    have kJ:=Zsc (n:=bs.length+1) qJ (by omega) h4
    have iQ:[ZaT ((Zcf (Zdy A bs i k) (bs.length+1)).set k 1)]=[ZaT (Zcf (Zdy A bs i (k+1)) (bs.length+1))]:=by rw[kJ]
    have hf:=fun cc=>fin cc m5 (Mem.le_trans cT cV) (bU.mono cV) (Mem.le_trans jm cV)
    exact ZsE (fun hb=>hf _ ((Zui (ZbN _ _) hb).trans iQ)) (fun _=>Zaa (Zra (ZbN _ _) (by omega)).1 (hf _ ((Zra (ZbN _ _) (by omega)).2.trans iQ)))
   ·have iQ:=ZpJ (n:=bs.length+1) (k:=k) (i:=i) (s:=bs) (A:=A) h4
    have hf:=fin [ZaT (Zcf (Zdy A bs i k) (bs.length+1))] m5 (Mem.le_trans cT cV) (bU.mono cV) (Mem.le_trans jm cV) (by rw[iQ])
    exact hf
  ·have:k=bs.length+1:=by have:=of_decide_eq_false fZ;omega
   subst this
   exact⟨by trivial,_,by omega,i+1,by omega,by rw[Zat (by omega) (by omega)];rfl,by rw[ZpI],Mem.le_trans bR cT,rfl⟩
 ·have:i=bs.length+1:=by have:=of_decide_eq_false cL;omega
  subst this
  intro m4 cT nt
  have bU:rowRd m4 (some ⟨b1,0,none⟩) (ZaT (Zcf (Zdy A bs (bs.length+1) 0) (bs.length+1))):=.inr ⟨b1,0,rfl,nt⟩
  refine Zaq (Zm8 (Zdy A bs (bs.length+1) 0) (bs.length+1) _ _ m4 bU (by omega)) Za7 ?_
  intro a5 n5 c5 m5 cV hR
  rw[Zon hA]at hR
  obtain⟨aa,cc,g1,g2,g3,_⟩:=hR
  exact⟨m5,Mem.le_trans gH (Mem.le_trans cT cV),Mem.le_refl _,_,rfl,aa,cc,g1,g2,g3,fun e=>by cases e⟩
end Go.Proofs.Ytplacemlpkhmfaa
set_option linter.unusedVariables false
namespace Go.Proofs.Ytplacemlpkhmfaa
open Go Go.Eng Go.Proofs Go.RowKit
open Go.Value (int slice agg)
open Go.IntKind (u8 u64 i64)
set_option maxRecDepth 100000
end Go.Proofs.Ytplacemlpkhmfaa
