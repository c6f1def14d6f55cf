/- Part of the proof: conditions and contracts of functions of this program. No condition of its own. -/
import Derived.Test.YtplacemlpkhmfaaPEnv
import Derived.Test.YtplacemlpkhmfaaMc
import Derived.Test.YtplacemlpkhmfaaPC17RC
set_option linter.unusedVariables false
namespace Go.Proofs.Ytplacemlpkhmfaa
open Go Go.Eng Go.Proofs Go.RowKit
open Go.Value (int slice agg)
open Go.IntKind (u8 u64 i64)
set_option maxRecDepth 100000
noncomputable def Zkg:Env:={ EB with
 loops:=(fun i=>bif Nat.beq i 3 then⟨[(7,.int .i64),(27,.int .i64)],[],[],false⟩ else⟨[],[],[],false⟩)
 joins:=(fun i=>bif Nat.beq i 7 then some [(6,.bool)]else none)
 frzNew:=[3] }
def Zfl(aJ:Option Addr)(aB aL:Nat)(aK:Option Addr)(aC aM:Nat)(aH:Option Addr)(aD aI:Nat)(aF:Option Addr)(aE aG:Nat)(aA:Bool)(p1 p2:Int)(m:Mem)(R:RT):Prop:=
 ∀(b:Nat)(m':Mem),Mem.le m m'→Mem.reads m' b 0 [slice aJ aB aL,slice aK aC aM,slice aH aD aI,slice aF aE aG,Value.bool aA]→(((0:Int)≤if IntKind.wrap i64 (p1+(1:
 Int)) < (↑aC:Int)then IntKind.wrap i64 (p1+(1:Int))else(↑aC:Int))∧(if IntKind.wrap i64 (p1+(1:Int)) < (↑aC:Int)then IntKind.wrap i64 (p1+(1:Int))else(↑aC:Int))≤(↑aM:Int))∧
 ∃(I:IT),(∃(n:Nat),I [int i64 (IntKind.wrap i64 ((↑aD:Int)+(↑aE:Int))),int i64 0] [] [] m' n)∧∀(n n_1:Int)(m'_1:Mem)(n_2:Nat),Mem.le m' m'_1→I [int i64 n,int i64 n_1] [] [] m'_1 n_2→
 br (decide (n_1 < (↑(Int.toNat (if IntKind.wrap i64 (p1+(1:Int)) < (↑aC:Int)then IntKind.wrap i64 (p1+(1:Int))else(↑aC:Int)) - 0):Int))) (∃(b_1:Nat),∃(o:Nat),ZeO aK 0 aM 1=some
 (Addr.mk b_1 o none)∧Zag n_1 (Int.toNat (if IntKind.wrap i64 (p1+(1:Int)) < (↑aC:Int)then IntKind.wrap i64 (p1+(1:Int))else(↑aC:Int)) - 0)∧∃(v:Value),m'_1 b_1 (o+Int.toNat n_1*1) =
 some v∧chk (Zdm v) ([some (Box.mk b [slice aJ aB aL,slice aK aC aM,slice aH aD aI,slice aF aE aG,Value.bool aA] 26 5 true true)]=[some (Box.mk b [slice aJ aB aL,
 slice aK aC aM,slice aH aD aI,slice aF aE aG,Value.bool aA] 26 5 true true)]∧∃(n':Nat),n' < n_2∧I [int i64 (IntKind.wrap i64 (n+(↑(slN v):Int))),int i64 (IntKind.wrap i64
 (n_1+(1:Int)))] [] [] m'_1 n')) (∃(b_1:Bool),br (decide ((↑aB:Int)≤p1)) (br (decide ((↑aC:Int)≤p1)) ([some (Box.mk b [slice aJ aB aL,slice aK aC aM,slice aH aD aI,
 slice aF aE aG,Value.bool aA] 26 5 true true)]=[some (Box.mk b [slice aJ aB aL,slice aK aC aM,slice aH aD aI,slice aF aE aG,Value.bool aA] 26 5 true true)]∧
 [Value.bool (decide (n≤p2))]=[Value.bool b_1]) ([some (Box.mk b [slice aJ aB aL,slice aK aC aM,slice aH aD aI,slice aF aE aG,Value.bool aA] 26 5 true true)]=[some (Box.mk
 b [slice aJ aB aL,slice aK aC aM,slice aH aD aI,slice aF aE aG,Value.bool aA] 26 5 true true)]∧[Value.bool false]=[Value.bool b_1])) ([some (Box.mk b [slice aJ aB
 aL,slice aK aC aM,slice aH aD aI,slice aF aE aG,Value.bool aA] 26 5 true true)]=[some (Box.mk b [slice aJ aB aL,slice aK aC aM,slice aH aD aI,slice
 aF aE aG,Value.bool aA] 26 5 true true)]∧[Value.bool false]=[Value.bool b_1])∧∃(m'':Mem),Mem.le m m''∧Mem.le m'' m'_1∧R (Value.bool b_1) m'' [])
theorem Ziz(aJ:Option Addr)(aB aL:Nat)(aK:Option Addr)(aC aM:Nat)(aH:Option Addr)(aD aI:Nat)(aF:Option Addr)(aE aG:Nat)(aA:Bool)(p1 p2:Int)(m:Mem)(R:RT)(h:Zfl aJ aB aL aK aC aM aH aD aI aF aE aG aA p1 p2 m R):CX Try.prog 10 #[.agg #[.slice aJ aB aL,.slice aK aC aM,.slice aH aD aI,.slice aF aE aG,.bool aA],.int .i64 p1,.int .i64 p2] m [] R:=
 Zal (E:=Zkg) Zaz mix Try.func10 [.v (.agg #[.slice aJ aB aL,.slice aK aC aM,.slice aH aD aI,.slice aF aE aG,.bool aA]),.v (.int .i64 p1),.v (.int .i64 p2)] [] (by kernel_rfl) (Eq.mp (by kernel_rfl) h)
noncomputable def ZiA:Env:={ EB with
 loops:=(fun i=>bif Nat.beq i 3 then⟨[(20,.int .i64)],[3],[(29,256)],false⟩ else bif Nat.beq i 8 then⟨[(35,.int .i64)],[3],[(44,1)],false⟩ else⟨[],[],[],false⟩)
 dr:=(fun i=>bif Nat.beq i 1 then[⟨0,[1],[],none,[],[]⟩,⟨1,[1],[],none,[0],[]⟩,⟨2,[],[],none,[0,1],[]⟩,⟨3,[1],[],none,[],[]⟩,⟨4,[1],[],none,[3],[]⟩,⟨5,[],[],none,[0,1,2,3,4],[2]⟩,⟨6,[1],[],none,[],[]⟩,⟨7,[1],[],none,[6],[]⟩,⟨8,[],[],none,[0,1,2,3,4,5,6,7],[]⟩,⟨9,[3],[3],none,[],[]⟩,⟨10,[3],[3],none,[0,1,2,3,4,5,6,7,8,9],[]⟩]else bif Nat.beq i 5 then[⟨0,[3],[],none,[],[]⟩,⟨1,[3],[],none,[0],[]⟩,⟨2,[5],[],none,[],[]⟩,⟨3,[],[],none,[2],[]⟩,⟨4,[28],[28],none,[2,3],[3]⟩,⟨5,[28],[],some 29,[0,1,2,3,4],[4]⟩,⟨6,[3],[],none,[0,1,2,3,4,5],[]⟩,⟨7,[3],[3],none,[0,1,2,3,4,5,6],[]⟩]else bif Nat.beq i 10 then[⟨0,[3],[],none,[],[]⟩,⟨1,[3],[],none,[0],[]⟩,⟨2,[],[],none,[],[]⟩,⟨3,[],[],none,[2],[]⟩,⟨4,[43],[43],none,[2,3],[3]⟩,⟨5,[43],[],some 44,[0,1,2,3,4],[4]⟩,⟨6,[3],[],none,[0,1,2,3,4,5],[]⟩,⟨7,[3],[3],none,[0,1,2,3,4,5,6],[]⟩]else[])
 tokOf:=(fun i=>bif Nat.beq i 29 then 29 else bif Nat.beq i 44 then 44 else 0)
 frzNew:=[1] }
def ZeM(aJ:Option Addr)(aB aL:Nat)(aK:Option Addr)(aC aM:Nat)(aH:Option Addr)(aD aI:Nat)(aF:Option Addr)(aE aG:Nat)(aA:Bool)(m:Mem)(R:RT):Prop:=
 ∀(b:Nat)(m':Mem),Mem.le m m'→Mem.reads m' b 0 [slice aJ aB aL,slice aK aC aM,slice aH aD aI,slice aF aE aG,Value.bool aA]→∀(ao:Nat),∃(f:Fx),∃(R_1:RT),R_1
 = f 2 [slice aH aD aI] m'∧CX Try.prog 44 (Array.mk [slice aH aD aI]) m' [] R_1∧ZaF Shape.slice R_1∧∀(a:Option Addr)(n c:Nat)(ag:Mem),Mem.le m' ag→R_1 (slice a n c) ag []→∃(R_2:
 RT),R_2=f 5 [slice aF aE aG] ag∧CX Try.prog 44 (Array.mk [slice aF aE aG]) ag [] R_2∧ZaF Shape.slice R_2∧∀(au:Option Addr)(av aw:Nat)(ar:Mem),Mem.le ag ar→R_2 (slice au av aw) ar
 []→∀(ad:Nat)(M:Mem),Mem.le m' M→Mem.le ag M→Mem.le ar M→∃(I:IT),(∃(ah:Nat),I [int i64 0] [[slice none 0 0,slice none 0 0,slice a n c,slice au av aw,Value.bool aA]] [slice none 0 0] M ah)∧∀
 (n:Int) (cs:List Value) (a:Option Addr) (ah c:Nat) (m':Mem) (ax:Nat),Mem.le M m'→I [int i64 n] [cs] [slice a ah c] m' ax→br (decide (n < (↑aB:Int))) (∃(ak:Nat),∃(o:Nat),aJ=some
 (Addr.mk ak o none)∧Zag n aB∧∃(v:Value),∃(ab:Value),∃(ap:Value),∃(aq:Value),Mem.reads m' ak (o+Int.toNat n*4) [v,ab,ap,aq]∧∀(ae:Nat),chk (Value.oneCell' v&&(Value.oneCell' ab &&
 (Value.oneCell' ap&&(Value.oneCell' aq&&true)))) (∃(f:Fx),Eng.Zrv cs 0 fun(ac:Value)=>∃(R:RT),R=f 3 [agg (Array.mk [v,ab,ap,aq])] m'∧CX Try.prog 99 (Array.mk [agg (Array.mk [v,ab,ap,aq])]) m'
 [] R∧ZaF Shape.cells R∧∀(ai:List Value)(aa:Mem),Mem.le m' aa→R (agg (Array.mk ai)) aa []→chk (Nat.beq (List.length ai) 256&&true) (∀(aj:Nat),Mem.free aa aj→chk (Zdm ac&&true) ((Tok.mk (slice a
 ah c) 256=Tok.mk ac 256∨ac=slice none 0 0∨slC ac < slN ac+1)∧∃(xs:List Value),∃(ys:List Value),List.length xs=slN ac*256∧List.length ys=1*256∧rowRd (Mem.add aa aj (List.append ai []))
 (slA ac) xs∧rowRd (Mem.add aa aj (List.append ai [])) (some (Addr.mk aj 0 none)) ys∧(∀(u:Value),u∈ys→Value.oneCell' u=true)∧(slN ac+1)*2048≤140737488355328∧slN ac+1≤9223372036854775807∧∀
 (a':Option Addr) (c':Nat) (af:Mem),Mem.le (Mem.add aa aj (List.append ai [])) af→rowRd af a' (List.append xs ys)→chk (Nat.ble 1 (List.length cs)) (∀(M:Mem),Mem.le m' M→Mem.le aa M→Mem.le (Mem.add aa
 aj (List.append ai [])) M→Mem.le af M→[some (Box.mk ad [] 79 5 false true),some (Box.mk ad [] 79 5 false true),some (Box.mk ao [slice none 0 0,slice none 0 0,slice none 0 0,slice none 0 0,Value.bool false] 79
 5 false true),some (Box.mk b [slice aJ aB aL,slice aK aC aM,slice aH aD aI,slice aF aE aG,Value.bool aA] 26 5 true true)]=[some (Box.mk ad [] 79 5 false true),some (Box.mk
 ad [] 79 5 false true),some (Box.mk ao [slice none 0 0,slice none 0 0,slice none 0 0,slice none 0 0,Value.bool false] 79 5 false true),some (Box.mk b [slice aJ aB aL,slice aK aC aM,slice aH
 aD aI,slice aF aE aG,Value.bool aA] 26 5 true true)]∧∃(n':Nat),n' < ax∧I [int i64 (IntKind.wrap i64 (n+(1:Int)))] [Zan cs 0 [slice a' (slN ac+1) c']] [slice a' (slN ac+1) c'] M
 n'))))) (∃(I:IT),(∃(n:Nat),I [int i64 0] [cs] [slice none 0 0] m' n)∧∀(n:Int)(cs:List Value)(ay:Option Addr)(az a0:Nat)(aa:Mem)(a1:Nat),Mem.le m' aa→I [int i64 n] [cs] [slice ay az a0] aa
 a1→br (decide (n < (↑aC:Int))) (∃(ak:Nat),∃(o:Nat),aK=some (Addr.mk ak o none)∧Zag n aC∧∃(v:Value),aa ak (o+Int.toNat n*1)=some v∧∃(f:Fx),Eng.Zrv cs 1 fun(ab:Value)=>
 ∃(R:RT),R=f 3 [v] aa∧CX Try.prog 44 (Array.mk [v]) aa [] R∧ZaF Shape.slice R∧∀(al:Option Addr)(am an:Nat)(m':Mem),Mem.le aa m'→R (slice al am an) m' []→∀(ae:Nat),Mem.free m' ae→chk (Zdm
 ab&&true) ((Tok.mk (slice ay az a0) 1=Tok.mk ab 1∨ab=slice none 0 0∨slC ab < slN ab+1)∧∃(xs:List Value),∃(ys:List Value),List.length xs=slN ab*1∧List.length ys=1*1∧rowRd (Mem.add m' ae
 [slice al am an]) (slA ab) xs∧rowRd (Mem.add m' ae [slice al am an]) (some (Addr.mk ae 0 none)) ys∧(∀(u:Value),u∈ys→Value.oneCell' u=true)∧(slN ab+1)*24≤140737488355328∧slN ab+1 ≤
 9223372036854775807∧∀(a':Option Addr)(c':Nat)(af:Mem),Mem.le (Mem.add m' ae [slice al am an]) af→rowRd af a' (List.append xs ys)→chk (Nat.ble 2 (List.length cs)) (∀(M:Mem),Mem.le aa M→Mem.le m' M→
 Mem.le (Mem.add m' ae [slice al am an]) M→Mem.le af M→[some (Box.mk ad [] 79 5 false true),some (Box.mk ad [] 79 5 false true),some (Box.mk ao [slice none 0 0,slice none 0 0,slice none 0 0,slice none 0 0,
 Value.bool false] 79 5 false true),some (Box.mk b [slice aJ aB aL,slice aK aC aM,slice aH aD aI,slice aF aE aG,Value.bool aA] 26 5 true true)]=[some (Box.mk ad [] 79 5 false
 true),some (Box.mk ad [] 79 5 false true),some (Box.mk ao [slice none 0 0,slice none 0 0,slice none 0 0,slice none 0 0,Value.bool false] 79 5 false true),some (Box.mk b [slice aJ aB aL,slice aK aC
 aM,slice aH aD aI,slice aF aE aG,Value.bool aA] 26 5 true true)]∧[some (Tok.mk (slice a ah c) 256)]=[some (Tok.mk (slice a ah c) 256)]∧∃(n':Nat),n' < a1∧I [int i64 (IntKind.wrap i64
 (n+(1:Int)))] [Zan cs 1 [slice a' (slN ab+1) c']] [slice a' (slN ab+1) c'] M n'))) (chk (Nat.beq (List.length cs) 5&&Zcq cs) (∃(m'':Mem),Mem.le m m''∧Mem.le m'' aa∧R (agg (Array.mk cs)) m'' [])))
theorem ZhC(aJ:Option Addr)(aB aL:Nat)(aK:Option Addr)(aC aM:Nat)(aH:Option Addr)(aD aI:Nat)(aF:Option Addr)(aE aG:Nat)(aA:Bool)(m:Mem)(R:RT)(h:ZeM aJ aB aL aK aC aM aH aD aI aF aE aG aA m R):CX Try.prog 43 #[.agg #[.slice aJ aB aL,.slice aK aC aM,.slice aH aD aI,.slice aF aE aG,.bool aA]] m [] R:=
 Zal (E:=ZiA) Zaz mix Try.func43 [.v (.agg #[.slice aJ aB aL,.slice aK aC aM,.slice aH aD aI,.slice aF aE aG,.bool aA])] [] (by kernel_rfl) (Eq.mp (by kernel_rfl) h)
noncomputable def ZlT:Env:={ EB with
 joins:=(fun i=>bif Nat.beq i 2 then some [(4,.bool)]else none)
 frzNew:=[2,3] }
def Zgt(aJ:Option Addr)(aB aL:Nat)(aK:Option Addr)(aC aM:Nat)(aH:Option Addr)(aD aI:Nat)(aF:Option Addr)(aE aG:Nat)(aA:Bool)(bJ:Option Addr)(bK bL:Nat)(bM:Option Addr)(bN bO:Nat)(bP:Option Addr)(bQ bR:Nat)(bS:Option Addr)(bT bU:Nat)(aW:Bool)(m:Mem)(R:RT):Prop:=
 ∀(b:Nat)(m':Mem),Mem.le m m'→Mem.reads m' b 0 [slice aJ aB aL,slice aK aC aM,slice aH aD aI,slice aF aE aG,Value.bool aA]→∀(ak:Nat)(an:Mem),Mem.le m' an→
 Mem.reads an ak 0 [slice bJ bK bL,slice bM bN bO,slice bP bQ bR,slice bS bT bU,Value.bool aW]→∃(R_1:RT),True∧CX Try.prog 43 (Array.mk [agg (Array.mk [slice aJ aB
 aL,slice aK aC aM,slice aH aD aI,slice aF aE aG,Value.bool aA])]) an [] R_1∧ZaF (Shape.agg [Shape.slice,Shape.slice,Shape.slice,Shape.slice,Shape.bool]) R_1∧∀(a:Option
 Addr) (n c:Nat) (aa:Option Addr) (ab ac:Nat) (ad:Option Addr) (ae af:Nat) (ag:Option Addr) (ah ai:Nat) (aj:Bool) (m':Mem),Mem.le an m'→R_1 (agg (Array.mk [slice a n c,slice aa ab ac,slice ad ae
 af,slice ag ah ai,Value.bool aj])) m' []→∀(al:Nat),∃(am:Bool),(∃(R:RT),True∧CX Try.prog 102 (Array.mk [slice a n c,slice bJ bK bL]) m' [] R∧ZaF Shape.bool R∧∀(aq:Bool)(ao:Mem),
 Mem.le m' ao→R (Value.bool aq) ao []→br aq (∃(R:RT),True∧CX Try.prog 72 (Array.mk [slice aa ab ac,slice bM bN bO,Value.func (Fn.func 23) (Array.mk []) (Array.mk [])]) ao [] R∧ZaF Shape.bool R∧∀
 (ar:Bool) (m':Mem),Mem.le ao m'→R (Value.bool ar) m' []→br ar (∃(R:RT),True∧CX Try.prog 23 (Array.mk [slice ad ae af,slice bP bQ bR]) m' [] R∧ZaF Shape.bool R∧∀(au:Bool)(ap:Mem),
 Mem.le m' ap→R (Value.bool au) ap []→br au (∃(R:RT),True∧CX Try.prog 23 (Array.mk [slice ag ah ai,slice bS bT bU]) ap [] R∧ZaF Shape.bool R∧∀(av:Bool)(m':Mem),Mem.le ap m'→R (Value.bool
 av) m' []→br av ([some (Box.mk al [slice a n c,slice aa ab ac,slice ad ae af,slice ag ah ai,Value.bool aj] 79 5 false true),some (Box.mk ak [slice bJ bK bL,slice bM bN bO,slice bP bQ
 bR,slice bS bT bU,Value.bool aW] 79 5 true true),some (Box.mk b [slice aJ aB aL,slice aK aC aM,slice aH aD aI,slice aF aE aG,Value.bool aA] 26 5 true true)] =
 [some (Box.mk al [slice a n c,slice aa ab ac,slice ad ae af,slice ag ah ai,Value.bool aj] 79 5 false true),some (Box.mk ak [slice bJ bK bL,slice bM bN bO,slice bP bQ bR,slice bS
 bT bU,Value.bool aW] 79 5 true true),some (Box.mk b [slice aJ aB aL,slice aK aC aM,slice aH aD aI,slice aF aE aG,Value.bool aA] 26 5 true true)]∧[Value.bool (aj ==
 aW)]=[Value.bool am]) ([some (Box.mk al [slice a n c,slice aa ab ac,slice ad ae af,slice ag ah ai,Value.bool aj] 79 5 false true),some (Box.mk ak [slice bJ bK bL,slice bM bN bO,slice bP
 bQ bR,slice bS bT bU,Value.bool aW] 79 5 true true),some (Box.mk b [slice aJ aB aL,slice aK aC aM,slice aH aD aI,slice aF aE aG,Value.bool aA] 26 5 true
 true)]=[some (Box.mk al [slice a n c,slice aa ab ac,slice ad ae af,slice ag ah ai,Value.bool aj] 79 5 false true),some (Box.mk ak [slice bJ bK bL,slice bM bN bO,slice bP bQ bR,slice
 bS bT bU,Value.bool aW] 79 5 true true),some (Box.mk b [slice aJ aB aL,slice aK aC aM,slice aH aD aI,slice aF aE aG,Value.bool aA] 26 5 true true)]∧[Value.bool
 false]=[Value.bool am])) ([some (Box.mk al [slice a n c,slice aa ab ac,slice ad ae af,slice ag ah ai,Value.bool aj] 79 5 false true),some (Box.mk ak [slice bJ bK bL,slice bM bN bO,slice bP
 bQ bR,slice bS bT bU,Value.bool aW] 79 5 true true),some (Box.mk b [slice aJ aB aL,slice aK aC aM,slice aH aD aI,slice aF aE aG,Value.bool aA] 26 5 true
 true)]=[some (Box.mk al [slice a n c,slice aa ab ac,slice ad ae af,slice ag ah ai,Value.bool aj] 79 5 false true),some (Box.mk ak [slice bJ bK bL,slice bM bN bO,slice bP bQ bR,slice
 bS bT bU,Value.bool aW] 79 5 true true),some (Box.mk b [slice aJ aB aL,slice aK aC aM,slice aH aD aI,slice aF aE aG,Value.bool aA] 26 5 true true)]∧[Value.bool
 false]=[Value.bool am])) ([some (Box.mk al [slice a n c,slice aa ab ac,slice ad ae af,slice ag ah ai,Value.bool aj] 79 5 false true),some (Box.mk ak [slice bJ bK bL,slice bM bN bO,slice bP
 bQ bR,slice bS bT bU,Value.bool aW] 79 5 true true),some (Box.mk b [slice aJ aB aL,slice aK aC aM,slice aH aD aI,slice aF aE aG,Value.bool aA] 26 5 true
 true)]=[some (Box.mk al [slice a n c,slice aa ab ac,slice ad ae af,slice ag ah ai,Value.bool aj] 79 5 false true),some (Box.mk ak [slice bJ bK bL,slice bM bN bO,slice bP bQ bR,slice
 bS bT bU,Value.bool aW] 79 5 true true),some (Box.mk b [slice aJ aB aL,slice aK aC aM,slice aH aD aI,slice aF aE aG,Value.bool aA] 26 5 true true)]∧[Value.bool
 false]=[Value.bool am])) ([some (Box.mk al [slice a n c,slice aa ab ac,slice ad ae af,slice ag ah ai,Value.bool aj] 79 5 false true),some (Box.mk ak [slice bJ bK bL,slice bM bN bO,slice bP
 bQ bR,slice bS bT bU,Value.bool aW] 79 5 true true),some (Box.mk b [slice aJ aB aL,slice aK aC aM,slice aH aD aI,slice aF aE aG,Value.bool aA] 26 5 true
 true)]=[some (Box.mk al [slice a n c,slice aa ab ac,slice ad ae af,slice ag ah ai,Value.bool aj] 79 5 false true),some (Box.mk ak [slice bJ bK bL,slice bM bN bO,slice bP bQ bR,slice
 bS bT bU,Value.bool aW] 79 5 true true),some (Box.mk b [slice aJ aB aL,slice aK aC aM,slice aH aD aI,slice aF aE aG,Value.bool aA] 26 5 true true)]∧[Value.bool
 false]=[Value.bool am]))∧∃(m'':Mem),Mem.le m m''∧Mem.le m'' m'∧R (Value.bool am) m'' []
theorem Zkh(aJ:Option Addr)(aB aL:Nat)(aK:Option Addr)(aC aM:Nat)(aH:Option Addr)(aD aI:Nat)(aF:Option Addr)(aE aG:Nat)(aA:Bool)(bJ:Option Addr)(bK bL:Nat)(bM:Option Addr)(bN bO:Nat)(bP:Option Addr)(bQ bR:Nat)(bS:Option Addr)(bT bU:Nat)(aW:Bool)(m:Mem)(R:RT)(h:Zgt aJ aB aL aK aC aM aH aD aI aF aE aG aA bJ bK bL bM bN bO bP bQ bR bS bT bU aW m R):CX Try.prog 46 #[.agg #[.slice aJ aB aL,.slice aK aC aM,.slice aH aD aI,.slice aF aE aG,.bool aA],.agg #[.slice bJ bK bL,.slice bM bN bO,.slice bP bQ bR,.slice bS bT bU,.bool aW]] m [] R:=
 Zal (E:=ZlT) Zaz mix Try.func46 [.v (.agg #[.slice aJ aB aL,.slice aK aC aM,.slice aH aD aI,.slice aF aE aG,.bool aA]),.v (.agg #[.slice bJ bK bL,.slice bM bN bO,.slice bP bQ bR,.slice bS bT bU,.bool aW])] [] (by kernel_rfl) (Eq.mp (by kernel_rfl) h)
noncomputable def Zki:Env:={ EB with
 loops:=(fun i=>bif Nat.beq i 2 then⟨[(9,.int .i64)],[],[],false⟩ else bif Nat.beq i 7 then⟨[(27,.int .i64)],[],[],false⟩ else bif Nat.beq i 10 then⟨[(33,.int .i64)],[],[],false⟩ else⟨[],[],[],false⟩)
 tokOf:=(fun i=>bif Nat.beq i 25 then 25 else 0)
 frzNew:=[1]
 thaw:=true
 stAt:=(fun i=>bif Nat.beq i 16 then some 999 else bif Nat.beq i 38 then some 999 else none)
 tails:=true }
def Zfm(aJ:Option Addr)(aB aL:Nat)(aK:Option Addr)(aC aM:Nat)(aH:Option Addr)(aD aI:Nat)(aF:Option Addr)(aE aG:Nat)(aA:Bool)(m:Mem)(Y:Nat→Prop)(R:RTY):Prop:=
 ∀(b:Nat)(m':Mem),Mem.le m m'→Mem.reads m' b 0 [slice aJ aB aL,slice aK aC aM,slice aH aD aI,slice aF aE aG,Value.bool aA]→Mem.free m b→(∀(b' o:Nat)(u:Value),
 m' b' o=some u→m b' o=some u∨b'=b)→∃(I:IT),(∃(n:Nat),I [int i64 0] [] [] m' n)∧∀(n:Int)(m':Mem)(ai:Nat),True→I [int i64 n] [] [] m' ai→br (decide (n < (↑aB:Int))) (∃(aa:Nat),
 ∃(o:Nat),aJ=some (Addr.mk aa o none)∧Zag n aB∧(∃(vs:List Value),List.length vs=4∧Mem.reads m' aa (o+Int.toNat n*4) vs)∧Mem.free (Mem.off m Y) aa∧true=true∧b≠aa∧[some (Box.mk b
 [slice aJ aB aL,slice aK aC aM,slice aH aD aI,slice aF aE aG,Value.bool aA] 26 5 true true)]=[some (Box.mk b [slice aJ aB aL,slice aK aC aM,slice aH
 aD aI,slice aF aE aG,Value.bool aA] 26 5 true true)]∧∃(n':Nat),n' < ai∧I [int i64 (IntKind.wrap i64 (n+(1:Int)))] [] [] (Mem.upd m' aa (o+Int.toNat n*4) [int u64 0,int u64 0,int u64
 0,int u64 0]) n') (∀(aa:Nat),Mem.free m' aa→br (Nat.beq aC 0) (∃(I:IT),(∃(n:Nat),I [int i64 0] [] [] (Mem.add m' aa [slice aH aD aI,slice aF aE aG]) n)∧∀(n:Int)(m':Mem) (ae:
 Nat),True→I [int i64 n] [] [] m' ae→br (decide (n < (↑(2:Nat):Int))) (∃(af:Nat),∃(o:Nat),some (Addr.mk aa 0 none)=some (Addr.mk af o none)∧Zag n 2∧∃(v:Value),m' af (o+Int.toNat n*1) =
 some v∧chk (Zdm v) (∃(ad:IT),(∃(n:Nat),ad [int i64 0] [] [] m' n)∧∀(ab:Int)(m':Mem)(ag:Nat),True→ad [int i64 ab] [] [] m' ag→br (decide (ab < (↑(slN v):Int))) (chk (Zdm v) (∃(ac:Nat),∃
 (o:Nat),slA v=some (Addr.mk ac o none)∧Zag ab (slN v)∧(∃(vs:List Value),List.length vs=1∧Mem.reads m' ac (o+Int.toNat ab*1) vs)∧Mem.free (Mem.off m Y) ac∧true=true∧aa≠ac∧b≠ac∧
 [some (Box.mk aa [slice aH aD aI,slice aF aE aG] 24 2 true true),some (Box.mk b [slice aJ aB aL,slice aK aC aM,slice aH aD aI,slice aF aE aG,Value.bool aA]
 26 5 true true)]=[some (Box.mk aa [slice aH aD aI,slice aF aE aG] 24 2 true true),some (Box.mk b [slice aJ aB aL,slice aK aC aM,slice aH aD aI,slice aF aE aG,
 Value.bool aA] 26 5 true true)]∧([none]:List (Option Tok))=[none]∧∃(n':Nat),n' < ag∧ad [int i64 (IntKind.wrap i64 (ab+(1:Int)))] [] [] (Mem.upd m' ac (o+Int.toNat ab*1) [int i64 (-7:Int)]) n'))
 ([some (Box.mk aa [slice aH aD aI,slice aF aE aG] 24 2 true true),some (Box.mk b [slice aJ aB aL,slice aK aC aM,slice aH aD aI,slice aF aE aG,Value.bool aA]
 26 5 true true)]=[some (Box.mk aa [slice aH aD aI,slice aF aE aG] 24 2 true true),some (Box.mk b [slice aJ aB aL,slice aK aC aM,slice aH aD aI,slice aF aE aG,
 Value.bool aA] 26 5 true true)]∧([none]:List (Option Tok))=[none]∧∃(n':Nat),n' < ae∧I [int i64 (IntKind.wrap i64 (n+(1:Int)))] [] [] m' n'))) (R (Value.tuple (Array.mk [])) m' [] [])) ((slice (some
 (Addr.mk aa 0 none)) 2 2=slice none 0 0∨2 < 2+aC)∧∃(xs:List Value),∃(ys:List Value),List.length xs=2*1∧List.length ys=aC*1∧rowRd (Mem.add m' aa [slice aH aD aI,slice aF
 aE aG]) (some (Addr.mk aa 0 none)) xs∧rowRd (Mem.add m' aa [slice aH aD aI,slice aF aE aG]) aK ys∧(∀(u:Value),u∈ys→Value.oneCell' u=true)∧(2+aC)*24≤140737488355328∧
 2+aC≤9223372036854775807∧∀(a':Option Addr)(c':Nat)(ah:Mem),Mem.le (Mem.add m' aa [slice aH aD aI,slice aF aE aG]) ah→rowRd ah a' (List.append xs ys)→TokFact (Mem.add m' aa
 [slice aH aD aI,slice aF aE aG]) (some (Addr.mk aa 0 none)) a' (2+aC) c'→∃(I:IT),(∃(n:Nat),I [int i64 0] [] [] ah n)∧∀(n:Int)(m':Mem)(ae:Nat),True→I [int i64 n] [] [] m'
 ae→br (decide (n < (↑(2+aC):Int))) (∃(af:Nat),∃(o:Nat),a'=some (Addr.mk af o none)∧Zag n (2+aC)∧∃(v:Value),m' af (o+Int.toNat n*1)=some v∧chk (Zdm v) (∃(ad:IT),(∃(n:
 Nat),ad [int i64 0] [] [] m' n)∧∀(ab:Int)(m':Mem)(ag:Nat),True→ad [int i64 ab] [] [] m' ag→br (decide (ab < (↑(slN v):Int))) (chk (Zdm v) (∃(ac:Nat),∃(o:Nat),slA v=some (Addr.mk ac o none)
 ∧ Zag ab (slN v)∧(∃(vs:List Value),List.length vs=1∧Mem.reads m' ac (o+Int.toNat ab*1) vs)∧Mem.free (Mem.off m Y) ac∧true=true∧aa≠ac∧b≠ac∧[some (Box.mk aa [slice aH aD aI,
 slice aF aE aG] 24 2 true true),some (Box.mk b [slice aJ aB aL,slice aK aC aM,slice aH aD aI,slice aF aE aG,Value.bool aA] 26 5 true true)]=[some (Box.mk aa [slice
 aH aD aI,slice aF aE aG] 24 2 true true),some (Box.mk b [slice aJ aB aL,slice aK aC aM,slice aH aD aI,slice aF aE aG,Value.bool aA] 26 5 true true)]∧[some
 (Tok.mk (slice a' (2+aC) c') 1)]=[some (Tok.mk (slice a' (2+aC) c') 1)]∧∃(n':Nat),n' < ag∧ad [int i64 (IntKind.wrap i64 (ab+(1:Int)))] [] [] (Mem.upd m' ac (o+Int.toNat ab*1) [int i64 (-7:
 Int)]) n')) ([some (Box.mk aa [slice aH aD aI,slice aF aE aG] 24 2 true true),some (Box.mk b [slice aJ aB aL,slice aK aC aM,slice aH aD aI,slice aF aE aG,
 Value.bool aA] 26 5 true true)]=[some (Box.mk aa [slice aH aD aI,slice aF aE aG] 24 2 true true),some (Box.mk b [slice aJ aB aL,slice aK aC aM,slice aH aD aI,slice
 aF aE aG,Value.bool aA] 26 5 true true)]∧[some (Tok.mk (slice a' (2+aC) c') 1)]=[some (Tok.mk (slice a' (2+aC) c') 1)]∧∃(n':Nat),n' < ae∧I [int i64 (IntKind.wrap i64 (n+(1:Int)))]
 [] [] m' n'))) (R (Value.tuple (Array.mk [])) m' [] [])))
theorem ZhD(aJ:Option Addr)(aB aL:Nat)(aK:Option Addr)(aC aM:Nat)(aH:Option Addr)(aD aI:Nat)(aF:Option Addr)(aE aG:Nat)(aA:Bool)(m:Mem)(Y:Nat→Prop)(R:RTY)(h:Zfm aJ aB aL aK aC aM aH aD aI aF aE aG aA m Y R):CXY Try.prog 50 #[.agg #[.slice aJ aB aL,.slice aK aC aM,.slice aH aD aI,.slice aF aE aG,.bool aA]] m Y [] [] R:=
 ZaL (E:=Zki) Zaz mix Try.func50 [.v (.agg #[.slice aJ aB aL,.slice aK aC aM,.slice aH aD aI,.slice aF aE aG,.bool aA])] [] [] [] (by decide) (by kernel_rfl) (Eq.mp (by kernel_rfl) h)
noncomputable def Zkj:Env:={ EB with
 loops:=(fun i=>bif Nat.beq i 12 then⟨[(109,.int .i64)],[],[],false⟩ else⟨[],[],[],false⟩)
 joins:=(fun i=>bif Nat.beq i 9 then some [(106,.bool)]else none)
 dr:=(fun i=>bif Nat.beq i 4 then[⟨0,[4],[],none,[],[]⟩,⟨1,[],[],none,[0],[]⟩,⟨2,[9],[],none,[],[]⟩,⟨3,[],[],none,[0,1,2],[1]⟩,⟨4,[],[],none,[0,1,2,3],[]⟩,⟨5,[],[],none,[0,1,2,3,4],[]⟩,⟨6,[4],[],none,[0,1,2,3,4,5],[3]⟩,⟨7,[5],[],none,[0,1,2,3,4,5],[3]⟩,⟨8,[],[],none,[0,1,2,3,4,5,6,7],[3]⟩,⟨9,[4],[],none,[0,1,2,3,4,5],[3]⟩,⟨10,[5],[],none,[0,1,2,3,4,5],[3]⟩,⟨11,[],[],none,[0,1,2,3,4,5,6,7,8,10],[8]⟩,⟨12,[],[],none,[0,1,2,3,4,5,6,7,8,9,10,11],[11]⟩,⟨13,[],[],none,[0,1,2,3,4,5,6,7,8,9,10,11,12],[]⟩,⟨14,[],[],none,[0,1,2,3,4,5,6,7,8,9,10,11,12,13],[]⟩,⟨15,[],[],none,[0,1,2,3,4,5,6,7,8,9,10,11,12,13,14],[]⟩,⟨16,[10],[],none,[0,1,2,3,4,5,6,7,8,9,10,11,12,13,14,15],[12]⟩,⟨17,[9],[],none,[0,1,2,3,4,5,6,7,8,9,10,11,12,13,14,15],[12]⟩,⟨18,[],[],none,[0,1,2,3,4,5,6,7,8,9,10,11,12,13,14,15,16,17],[12]⟩,⟨19,[],[],none,[0,1,2,3,4,5,6,7,8,9,10,11,12,13,14,15,16,17,18],[]⟩,⟨20,[],[],none,[0,1,2,3,4,5,6,7,8,9,10,11,12,13,14,15,16,17,18,19],[]⟩]else[])
 frzNew:=[4,5]
 thaw:=true
 stAt:=(fun i=>bif Nat.beq i 114 then some 999 else none)
 gb:=true
 lentC:=(fun i=>bif Nat.beq i 121 then some []else none) }
abbrev ZiB:Option Addr→Nat→Nat→Option Addr→Nat→Nat→Option Addr→Nat→Nat→Option Addr→Nat→Nat→Bool→Nat→Option Box:=fun(a:Option Addr)(n c:Nat)(aa:Option Addr) (ab ac:
 Nat) (ad:Option Addr) (ae af:Nat) (ag:Option Addr) (ah ai:Nat) (b:Bool) (ak:Nat)=>some (Box.mk ak [slice a n c,slice aa ab ac,slice ad ae af,slice ag ah ai,Value.bool b] 26 5 false true)
abbrev ZiC:Option Addr→Nat→Nat→Option Addr→Nat→Nat→Option Addr→Nat→Nat→Option Addr→Nat→Nat→Bool→Nat→Option Box:=fun(a:Option Addr)(n c:Nat)(aa:Option Addr) (ab ac:
 Nat) (ad:Option Addr) (ae af:Nat) (ag:Option Addr) (ah ai:Nat) (b:Bool) (ak:Nat)=>some (Box.mk ak [slice a n c,slice aa ab ac,slice ad ae af,slice ag ah ai,Value.bool b] 79 5 false true)
abbrev Zfn:Option Addr→Nat→Nat→Option Addr→Nat→Nat→Option Addr→Nat→Nat→Option Addr→Nat→Nat→Bool→Nat→Option Box:=fun(bJ:Option Addr)(bK bL:Nat) (bM:Option
 Addr) (bN bO:Nat) (bP:Option Addr) (bQ bR:Nat) (bS:Option Addr) (bT bU:Nat) (aW:Bool) (b:Nat)=>some (Box.mk b [slice bJ bK bL,slice bM bN bO,slice bP
 bQ bR,slice bS bT bU,Value.bool aW] 26 5 true true)
abbrev ZaD:Option Addr→Nat→Nat→Option Addr→Nat→Nat→Option Addr→Nat→Nat→Option Addr→Nat→Nat→Bool→Option Addr→Nat→Nat→Option Addr→Nat→Nat→Option Addr→Nat→Nat→Option
 Addr→Nat→Nat→Bool→Nat→Nat→Option Addr→Nat→Nat→Option Addr→Nat→Nat→Option Addr→Nat→Nat→Option Addr→Nat→Nat→Bool→Nat→Option Addr→Nat→Nat→Option Addr→Nat→Nat→Option Addr
 → Nat→Nat→Option Addr→Nat→Nat→Bool→Nat→List (Option Box):=fun(aJ:Option Addr)(aB aL:Nat)(aK:Option Addr)(aC aM:Nat)(aH:Option Addr)(aD aI:Nat) (aF:Option
 Addr) (aE aG:Nat) (aA:Bool) (bJ:Option Addr) (bK bL:Nat) (bM:Option Addr) (bN bO:Nat) (bP:Option Addr) (bQ bR:Nat) (bS:Option Addr) (bT bU:Nat) (aW:
 Bool) (b ak:Nat) (a:Option Addr) (n c:Nat) (aa:Option Addr) (ab ac:Nat) (ad:Option Addr) (ae af:Nat) (ag:Option Addr) (ah ai:Nat) (aj:Bool) (a2:Nat) (cp:Option Addr) (am an:Nat) (cq:Option
 Addr) (ap aq:Nat) (al:Option Addr) (ar au:Nat) (ao:Option Addr) (av aw:Nat) (ax:Bool) (a3:Nat)=>[ZiB cp am an cq ap aq al ar au ao av aw ax a3,ZiC a n c aa ab ac ad ae af ag ah ai
 aj a2,Zfn bJ bK bL bM bN bO bP bQ bR bS bT bU aW ak,Zfn aJ aB aL aK aC aM aH aD aI aF aE aG aA b]
def Zfo(aJ:Option Addr)(aB aL:Nat)(aK:Option Addr)(aC aM:Nat)(aH:Option Addr)(aD aI:Nat)(aF:Option Addr)(aE aG:Nat)(aA:Bool)(bJ:Option Addr)(bK bL:Nat)(bM:Option Addr)(bN bO:Nat)(bP:Option Addr)(bQ bR:Nat)(bS:Option Addr)(bT bU:Nat)(aW:Bool)(p2a:Option Addr)(p2n p2c:Nat)(p3:Int)(m:Mem)(R:RT):Prop:=
 ∀(b:Nat)(m':Mem),Mem.le m m'→Mem.reads m' b 0 [slice aJ aB aL,slice aK aC aM,slice aH aD aI,slice aF aE aG,Value.bool aA]→Mem.free m b→(∀(b' o:Nat)(u:Value),
 m' b' o=some u→m b' o=some u∨b'=b)→∀(ak:Nat)(bi:Mem),Mem.le m' bi→Mem.reads bi ak 0 [slice bJ bK bL,slice bM bN bO,slice bP bQ bR,slice bS bT bU,Value.bool
 aW]→Mem.free m' ak→(∀(b' o:Nat)(u:Value),bi b' o=some u→m' b' o=some u∨b'=ak)→∃(R_1:RT),True∧CX Try.prog 43 (Array.mk [agg (Array.mk [slice aJ aB aL,slice aK aC aM,
 slice aH aD aI,slice aF aE aG,Value.bool aA])]) bi [] R_1∧ZaF (Shape.agg [Shape.slice,Shape.slice,Shape.slice,Shape.slice,Shape.bool]) R_1∧∀(a:Option Addr)(n c:Nat) (aa:Option
 Addr) (ab ac:Nat) (ad:Option Addr) (ae af:Nat) (ag:Option Addr) (ah ai:Nat) (aj:Bool) (m':Mem),Mem.le bi m'→R_1 (agg (Array.mk [slice a n c,slice aa ab ac,slice ad ae af,slice ag ah ai,Value.bool
 aj])) m' []→∀(a2:Nat),∃(R_2:RT),True∧CX Try.prog 26 (Array.mk [agg (Array.mk [slice aJ aB aL,slice aK aC aM,slice aH aD aI,slice aF aE aG,Value.bool aA])]) m' [] R_2
 ∧ ZaF (Shape.agg [Shape.slice,Shape.slice,Shape.slice,Shape.slice,Shape.bool]) R_2∧∀(al:Option Addr)(am an:Nat)(ao:Option Addr)(ap aq:Nat)(ay:Option Addr)(ar au:Nat)(az:Option Addr) (av aw:
 Nat) (ax:Bool) (bk:Mem),Mem.le m' bk→R_2 (agg (Array.mk [slice al am an,slice ao ap aq,slice ay ar au,slice az av aw,Value.bool ax])) bk []→∀(a3:Nat),∃(R_3:RT),True∧CX Try.prog 44 (Array.mk [slice
 p2a p2n p2c]) bk [] R_3∧ZaF Shape.slice R_3∧∀(bb:Option Addr)(bc bd:Nat)(m':Mem),Mem.le bk m'→R_3 (slice bb bc bd) m' []→∃(f:Fx),∃(R_4:RT),R_4=f 1 [agg (Array.mk [slice aJ aB aL,
 slice aK aC aM,slice aH aD aI,slice aF aE aG,Value.bool aA])] m'∧CX Try.prog 21 (Array.mk [agg (Array.mk [slice aJ aB aL,slice aK aC aM,slice aH aD aI,
 slice aF aE aG,Value.bool aA])]) m' [] R_4∧ZaF Shape.bool R_4∧∀(ce:Bool)(a9:Mem),Mem.le m' a9→R_4 (Value.bool ce) a9 []→∃(R_5:RT),R_5=f 3 [agg (Array.mk [slice a n c,slice aa ab ac,
 slice ad ae af,slice ag ah ai,Value.bool aj])] a9∧CX Try.prog 45 (Array.mk [agg (Array.mk [slice a n c,slice aa ab ac,slice ad ae af,slice ag ah ai,Value.bool aj])]) a9 [] R_5∧ZaF Shape.bool R_5∧∀(cf:
 Bool) (a5:Mem),Mem.le a9 a5→R_5 (Value.bool cf) a5 []→br (!ce == cf) (∀(M:Mem),Mem.le m' M→Mem.le a9 M→Mem.le a5 M→Mem.le a5 M→Mem.le a5 M→Mem.le a5 M→Mem.le a5 M→∃(m'':Mem),Mem.le m m''∧
 Mem.le m'' M∧R (Value.bool false) m'' []) (∃(R_6:RT),R_6=f 8 [agg (Array.mk [slice aJ aB aL,slice aK aC aM,slice aH aD aI,slice aF aE aG,Value.bool aA]),agg (Array.mk
 [slice bJ bK bL,slice bM bN bO,slice bP bQ bR,slice bS bT bU,Value.bool aW])] a5∧CX Try.prog 22 (Array.mk [agg (Array.mk [slice aJ aB aL,slice aK aC aM,
 slice aH aD aI,slice aF aE aG,Value.bool aA]),agg (Array.mk [slice bJ bK bL,slice bM bN bO,slice bP bQ bR,slice bS bT bU,Value.bool aW])]) a5 [] R_6∧
 ZaF Shape.bool R_6∧∀(cg:Bool)(be:Mem),Mem.le a5 be→R_6 (Value.bool cg) be []→∃(R_7:RT),R_7=f 11 [agg (Array.mk [slice bJ bK bL,slice bM bN bO,slice bP bQ bR,slice bS
 bT bU,Value.bool aW])] be∧CX Try.prog 43 (Array.mk [agg (Array.mk [slice bJ bK bL,slice bM bN bO,slice bP bQ bR,slice bS bT bU,Value.bool aW])]) be [] R_7∧ZaF
 (Shape.agg [Shape.slice,Shape.slice,Shape.slice,Shape.slice,Shape.bool]) R_7∧∀(bn:Option Addr)(bo bp:Nat)(bq:Option Addr)(bs bt:Nat)(bu:Option Addr)(bv bw:Nat)(bx:Option Addr)(bz ca:Nat)
 (cb:Bool) (bf:Mem),Mem.le be bf→R_7 (agg (Array.mk [slice bn bo bp,slice bq bs bt,slice bu bv bw,slice bx bz ca,Value.bool cb])) bf []→∃(R_8:RT),R_8=f 12 [agg (Array.mk [slice aJ aB aL,slice
 aK aC aM,slice aH aD aI,slice aF aE aG,Value.bool aA]),agg (Array.mk [slice bn bo bp,slice bq bs bt,slice bu bv bw,slice bx bz ca,Value.bool cb])] bf∧CX Try.prog 46 (Array.mk [agg
 (Array.mk [slice aJ aB aL,slice aK aC aM,slice aH aD aI,slice aF aE aG,Value.bool aA]),agg (Array.mk [slice bn bo bp,slice bq bs bt,slice bu bv bw,slice bx bz ca,Value.bool
 cb])]) bf [] R_8∧ZaF Shape.bool R_8∧∀(ch:Bool)(ba:Mem),Mem.le bf ba→R_8 (Value.bool ch) ba []→br (!cg == ch) (∀(M:Mem),Mem.le m' M→Mem.le a9 M→Mem.le a5 M→Mem.le be M→Mem.le bf M→Mem.le ba
 M→Mem.le ba M→∃(m'':Mem),Mem.le m m''∧Mem.le m'' M∧R (Value.bool false) m'' []) (∃(R_9:RT),R_9=f 18 [agg (Array.mk [slice al am an,slice ao ap aq,slice ay ar au,slice az av aw,Value.bool ax]),agg
 (Array.mk [slice a n c,slice aa ab ac,slice ad ae af,slice ag ah ai,Value.bool aj])] ba∧CX Try.prog 46 (Array.mk [agg (Array.mk [slice al am an,slice ao ap aq,slice ay ar au,slice az av aw,Value.bool ax]),agg
 (Array.mk [slice a n c,slice aa ab ac,slice ad ae af,slice ag ah ai,Value.bool aj])]) ba [] R_9∧ZaF Shape.bool R_9∧∀(ci:Bool)(cc:Mem),Mem.le ba cc→R_9 (Value.bool ci) cc []→∀(M:Mem),Mem.le m' M→
 Mem.le a9 M→Mem.le a5 M→Mem.le be M→Mem.le bf M→Mem.le ba M→Mem.le cc M→br (!ci) (∃(m'':Mem),Mem.le m m''∧Mem.le m'' M∧R (Value.bool false) m'' []) (∃(R_10:RT),True∧CX Try.prog 27 (Array.mk
 [agg (Array.mk [slice al am an,slice ao ap aq,slice ay ar au,slice az av aw,Value.bool ax]),slice bb bc bd,int u8 p3]) M [] R_10∧ZaF (Shape.tup [Shape.slice,Shape.int i64]) R_10∧∀(cd:Option Addr) (bg cj:
 Nat) (ck:Int) (m':Mem),Mem.le M m'→R_10 (Value.tuple (Array.mk [slice cd bg cj,int i64 ck])) m' []→∃(R_11:RT),True∧CX Try.prog 28 (Array.mk [agg (Array.mk [slice al am an,slice ao ap aq,slice ay ar au,
 slice az av aw,Value.bool ax]),slice bb bc bd]) m' [] R_11∧ZaF (Shape.tup [Shape.bool,Shape.int i64]) R_11∧∀(bl:Bool)(cl:Int)(bm:Mem),Mem.le m' bm→R_11 (Value.tuple (Array.mk [Value.bool bl,int i64
 cl])) bm []→∃(R_12:RT),True∧CX Try.prog 47 (Array.mk [agg (Array.mk [slice a n c,slice aa ab ac,slice ad ae af,slice ag ah ai,Value.bool aj]),slice p2a p2n p2c]) bm [] R_12∧ZaF (Shape.int i64) R_12∧∀
 (bh:Int) (m':Mem),Mem.le bm m'→R_12 (int i64 bh) m' []→∃(a4:Bool),br (!ck == bh) (ZaS (ZaD aJ aB aL aK aC aM aH aD aI aF aE aG aA bJ bK bL bM
 bN bO bP bQ bR bS bT bU aW b ak a n c aa ab ac ad ae af ag ah ai aj a2 al am an ao ap aq ay ar au az av aw ax a3)∧[Value.bool true]=[Value.bool a4]) (br (!cl == bh) (ZaS (ZaD
 aJ aB aL aK aC aM aH aD aI aF aE aG aA bJ bK bL bM bN bO bP bQ bR bS bT bU aW b ak a n c aa ab ac ad ae af ag ah ai aj a2 al am an ao ap aq ay
 ar au az av aw ax a3)∧[Value.bool true]=[Value.bool a4]) (br (bh == (0:Int)) (∃(R:RT),True∧CX Try.prog 48 (Array.mk [agg (Array.mk [slice a n c,slice aa ab ac,slice ad ae af,slice ag ah ai,Value.bool
 aj]),slice p2a p2n p2c,int u8 p3]) m' [] R∧ZaF Shape.slice R∧∀(cm:Option Addr)(a7 cn:Nat)(a0:Mem),Mem.le m' a0→R (slice cm a7 cn) a0 []→∃(R:RT),True∧CX Try.prog 23 (Array.mk [slice cd bg cj,
 slice cm a7 cn]) a0 [] R∧ZaF Shape.bool R∧∀(a1:Bool)(m':Mem),Mem.le a0 m'→R (Value.bool a1) m' []→br (!a1) (ZaS (ZaD aJ aB aL aK aC aM aH aD aI aF aE aG
 aA bJ bK bL bM bN bO bP bQ bR bS bT bU aW b ak a n c aa ab ac ad ae af ag ah ai aj a2 al am an ao ap aq ay ar au az av aw ax a3)∧[Value.bool true]=[Value.bool a4]) (∃(R:
 RT),True∧CX Try.prog 49 (Array.mk [agg (Array.mk [slice a n c,slice aa ab ac,slice ad ae af,slice ag ah ai,Value.bool aj]),slice p2a p2n p2c]) m' [] R∧ZaF Shape.bool R∧∀(a8:Bool)(a6:Mem),Mem.le m' a6
 → R (Value.bool a8) a6 []→br (!bl == a8) (ZaS (ZaD aJ aB aL aK aC aM aH aD aI aF aE aG aA bJ bK bL bM bN bO bP bQ bR bS bT bU
 aW b ak a n c aa ab ac ad ae af ag ah ai aj a2 al am an ao ap aq ay ar au az av aw ax a3)∧[Value.bool true]=[Value.bool a4]) (br (!bh == (0:Int)) (br (!(↑bg:Int) == (0:Int)) (ZaS (ZaD aJ
 aB aL aK aC aM aH aD aI aF aE aG aA bJ bK bL bM bN bO bP bQ bR bS bT bU aW b ak a n c aa ab ac ad ae af ag ah ai aj a2 al am an ao ap aq ay ar au
 az av aw ax a3)∧[Value.bool true]=[Value.bool a4]) (br bl (ZaS (ZaD aJ aB aL aK aC aM aH aD aI aF aE aG aA bJ bK bL bM bN bO bP bQ bR
 bS bT bU aW b ak a n c aa ab ac ad ae af ag ah ai aj a2 al am an ao ap aq ay ar au az av aw ax a3)∧[Value.bool true]=[Value.bool a4]) (∃(R:RT),True∧CX Try.prog 23 (Array.mk [slice bb bc bd,slice
 p2a p2n p2c]) a6 [] R∧ZaF Shape.bool R∧∀(bj:Bool)(m':Mem),Mem.le a6 m'→R (Value.bool bj) m' []→ZaS (ZaD aJ aB aL aK aC aM aH aD aI aF aE aG aA bJ
 bK bL bM bN bO bP bQ bR bS bT bU aW b ak a n c aa ab ac ad ae af ag ah ai aj a2 al am an ao ap aq ay ar au az av aw ax a3)∧[Value.bool !bj]=[Value.bool a4]))) (∃(R:RT),True∧
 CX Try.prog 23 (Array.mk [slice bb bc bd,slice p2a p2n p2c]) a6 [] R∧ZaF Shape.bool R∧∀(bj:Bool)(m':Mem),Mem.le a6 m'→R (Value.bool bj) m' []→ZaS (ZaD aJ aB aL aK aC aM
 aH aD aI aF aE aG aA bJ bK bL bM bN bO bP bQ bR bS bT bU aW b ak a n c aa ab ac ad ae af ag ah ai aj a2 al am an ao ap aq ay ar au az av aw ax a3)∧[Value.bool
 !bj]=[Value.bool a4])))) (br (!bh == (0:Int)) (br (!(↑bg:Int) == (0:Int)) (ZaS (ZaD aJ aB aL aK aC aM aH aD aI aF aE aG aA bJ bK bL bM bN bO
 bP bQ bR bS bT bU aW b ak a n c aa ab ac ad ae af ag ah ai aj a2 al am an ao ap aq ay ar au az av aw ax a3)∧[Value.bool true]=[Value.bool a4]) (br bl (ZaS (ZaD aJ aB aL
 aK aC aM aH aD aI aF aE aG aA bJ bK bL bM bN bO bP bQ bR bS bT bU aW b ak a n c aa ab ac ad ae af ag ah ai aj a2 al am an ao ap aq ay ar au az av aw ax
 a3)∧[Value.bool true]=[Value.bool a4]) (∃(R:RT),True∧CX Try.prog 23 (Array.mk [slice bb bc bd,slice p2a p2n p2c]) m' [] R∧ZaF Shape.bool R∧∀(a1:Bool)(a0:Mem),Mem.le m' a0→R (Value.bool a1) a0 []
 → ZaS (ZaD aJ aB aL aK aC aM aH aD aI aF aE aG aA bJ bK bL bM bN bO bP bQ bR bS bT bU aW b ak a n c aa ab ac ad ae af ag ah ai aj
 a2 al am an ao ap aq ay ar au az av aw ax a3)∧[Value.bool !a1]=[Value.bool a4]))) (∃(R:RT),True∧CX Try.prog 23 (Array.mk [slice bb bc bd,slice p2a p2n p2c]) m' [] R∧ZaF Shape.bool R∧∀(a1:Bool) (a0:
 Mem),Mem.le m' a0→R (Value.bool a1) a0 []→ZaS (ZaD aJ aB aL aK aC aM aH aD aI aF aE aG aA bJ bK bL bM bN bO bP bQ bR bS bT bU
 aW b ak a n c aa ab ac ad ae af ag ah ai aj a2 al am an ao ap aq ay ar au az av aw ax a3)∧[Value.bool !a1]=[Value.bool a4]))))∧br a4 (∃(m'':Mem),Mem.le m m''∧Mem.le m'' m'∧R (Value.bool false) m'' []) (∃
 (I:IT),(∃(n:Nat),I [int i64 0] [] [] m' n)∧∀(a7:Int)(m':Mem)(co:Nat),True→I [int i64 a7] [] [] m' co→br (decide (a7 < (↑bg:Int))) (∃(a1:Nat),∃(o:Nat),cd=some (Addr.mk a1 o none)∧
 Zag a7 bg∧(∃(vs:List Value),List.length vs=1∧Mem.reads m' a1 (o+Int.toNat a7*1) vs)∧Mem.free m a1∧true=true∧ak≠a1∧b≠a1∧ZaS (ZaD aJ aB aL aK aC aM aH
 aD aI aF aE aG aA bJ bK bL bM bN bO bP bQ bR bS bT bU aW b ak a n c aa ab ac ad ae af ag ah ai aj a2 al am an ao ap aq ay ar au az av aw ax a3)∧∃(n':Nat),n' <
 co∧I [int i64 (IntKind.wrap i64 (a7+(1:Int)))] [] [] (Mem.upd m' a1 (o+Int.toNat a7*1) [int i64 (-7:Int)]) n') (∃(R_13:RT),True∧CX Try.prog 46 (Array.mk [agg (Array.mk [slice al am an,slice ao ap aq,
 slice ay ar au,slice az av aw,Value.bool ax]),agg (Array.mk [slice a n c,slice aa ab ac,slice ad ae af,slice ag ah ai,Value.bool aj])]) m' [] R_13∧ZaF Shape.bool R_13∧∀(a1:Bool)(a0:Mem),Mem.le m' a0→
 R_13 (Value.bool a1) a0 []→br (!a1) (∃(m'':Mem),Mem.le m m''∧Mem.le m'' a0∧R (Value.bool false) m'' []) (∃(Y:Nat→Prop),∃(R_14:Value→Mem→List (List Value)→List Value→Prop),CXY Try.prog 50
 (Array.mk [agg (Array.mk [slice al am an,slice ao ap aq,slice ay ar au,slice az av aw,Value.bool ax])]) a0 Y [] [] R_14∧(∀(t:Tok),t∈[]→∀(b:Nat),Tok.blk t=some b→Y b)∧(∀(a8:Nat),Y a8→(∃(t:
 Tok),t∈[]∧Tok.blk t=some a8)∨Mem.free m a8∧(∃(o:Nat),∃(v:Value),a0 a8 o=some v)∧ak≠a8∧b≠a8∧True)∧(∀(v:Value)(m':Mem) (css:List (List Value)) (tvs:List Value),R_14 v m' css tvs
 → Shape.fits (Shape.tup []) v=true)∧∀(m':Mem),Mem.le (Mem.off a0 Y) m'→(∀(b o:Nat)(u:Value),m' b o=some u→a0 b o=some u∨Y b∨Mem.free a0 b)→R_14 (Value.tuple (Array.mk [])) m' [] []→∃(R_15
 : RT),True∧CX Try.prog 46 (Array.mk [agg (Array.mk [slice aJ aB aL,slice aK aC aM,slice aH aD aI,slice aF aE aG,Value.bool aA]),agg (Array.mk [slice a n c,slice aa ab ac,
 slice ad ae af,slice ag ah ai,Value.bool aj])]) m' [] R_15∧ZaF Shape.bool R_15∧∀(b:Bool)(a6:Mem),Mem.le m' a6→R_15 (Value.bool b) a6 []→∃(m'':Mem),Mem.le m m''∧Mem.le m'' a6∧R (Value.bool b)
 m'' []))))))
theorem ZiD(aJ:Option Addr)(aB aL:Nat)(aK:Option Addr)(aC aM:Nat)(aH:Option Addr)(aD aI:Nat)(aF:Option Addr)(aE aG:Nat)(aA:Bool)(bJ:Option Addr)(bK bL:Nat)(bM:Option Addr)(bN bO:Nat)(bP:Option Addr)(bQ bR:Nat)(bS:Option Addr)(bT bU:Nat)(aW:Bool)(p2a:Option Addr)(p2n p2c:Nat)(p3:Int)(m:Mem)(R:RT)(h:Zfo aJ aB aL aK aC aM aH aD aI aF aE aG aA bJ bK bL bM bN bO bP bQ bR bS bT bU aW p2a p2n p2c p3 m R):CX Try.prog 11 #[.agg #[.slice aJ aB aL,.slice aK aC aM,.slice aH aD aI,.slice aF aE aG,.bool aA],.agg #[.slice bJ bK bL,.slice bM bN bO,.slice bP bQ bR,.slice bS bT bU,.bool aW],.slice p2a p2n p2c,.int .u8 p3] m [] R:=
 Zal (E:=Zkj) Zaz mix Try.func11 [.v (.agg #[.slice aJ aB aL,.slice aK aC aM,.slice aH aD aI,.slice aF aE aG,.bool aA]),.v (.agg #[.slice bJ bK bL,.slice bM bN bO,.slice bP bQ bR,.slice bS bT bU,.bool aW]),.v (.slice p2a p2n p2c),.v (.int .u8 p3)] [] (by kernel_rfl) (Eq.mp (by kernel_rfl) h)
noncomputable def ZgE:Env:={ EB with
 joins:=(fun i=>bif Nat.beq i 1 then some [(8,.bool)]else none)
 frzNew:=[4,5] }
def Zdj(aJ:Option Addr)(aB aL:Nat)(aK:Option Addr)(aC aM:Nat)(aH:Option Addr)(aD aI:Nat)(aF:Option Addr)(aE aG:Nat)(aA:Bool)(bJ:Option Addr)(bK bL:Nat)(bM:Option Addr)(bN bO:Nat)(bP:Option Addr)(bQ bR:Nat)(bS:Option Addr)(bT bU:Nat)(aW:Bool)(p2a:Option Addr)(p2n p2c:Nat)(p3:Int)(m:Mem)(R:RT):Prop:=
 ∀(b:Nat)(m':Mem),Mem.le m m'→Mem.reads m' b 0 [slice aJ aB aL,slice aK aC aM,slice aH aD aI,slice aF aE aG,Value.bool aA]→∀(aa:Nat)(ae:Mem),Mem.le m' ae→
 Mem.reads ae aa 0 [slice bJ bK bL,slice bM bN bO,slice bP bQ bR,slice bS bT bU,Value.bool aW]→∃(ad:Bool),(∃(R:RT),True∧CX Try.prog 10 (Array.mk [agg (Array.mk [slice
 aJ aB aL,slice aK aC aM,slice aH aD aI,slice aF aE aG,Value.bool aA]),int i64 60,int i64 1000]) ae [] R∧ZaF Shape.bool R∧∀(ag:Bool)(m':Mem),Mem.le ae m'→R
 (Value.bool ag) m' []→br (!ag) (∃(R:RT),True∧CX Try.prog 12 (Array.mk []) m' [] R∧ZaF Shape.bool R∧∀(af:Bool)(ab:Mem),Mem.le m' ab→R (Value.bool af) ab []→[some (Box.mk aa [slice bJ bK
 bL,slice bM bN bO,slice bP bQ bR,slice bS bT bU,Value.bool aW] 26 5 true true),some (Box.mk b [slice aJ aB aL,slice aK aC aM,slice aH aD aI,slice aF
 aE aG,Value.bool aA] 26 5 true true)]=[some (Box.mk aa [slice bJ bK bL,slice bM bN bO,slice bP bQ bR,slice bS bT bU,Value.bool aW] 26 5 true true),some (Box.mk b
 [slice aJ aB aL,slice aK aC aM,slice aH aD aI,slice aF aE aG,Value.bool aA] 26 5 true true)]∧[Value.bool af]=[Value.bool ad]) (∃(R:RT),True∧CX Try.prog 10 (Array.mk
 [agg (Array.mk [slice bJ bK bL,slice bM bN bO,slice bP bQ bR,slice bS bT bU,Value.bool aW]),int i64 60,int i64 1000]) m' [] R∧ZaF Shape.bool R∧∀(af:Bool)(ab:Mem),
 Mem.le m' ab→R (Value.bool af) ab []→br (!af) (∃(R:RT),True∧CX Try.prog 12 (Array.mk []) ab [] R∧ZaF Shape.bool R∧∀(ac:Bool)(m':Mem),Mem.le ab m'→R (Value.bool ac) m' []→[some (Box.mk aa [slice
 bJ bK bL,slice bM bN bO,slice bP bQ bR,slice bS bT bU,Value.bool aW] 26 5 true true),some (Box.mk b [slice aJ aB aL,slice aK aC aM,slice aH aD aI,
 slice aF aE aG,Value.bool aA] 26 5 true true)]=[some (Box.mk aa [slice bJ bK bL,slice bM bN bO,slice bP bQ bR,slice bS bT bU,Value.bool aW] 26 5 true true),some
 (Box.mk b [slice aJ aB aL,slice aK aC aM,slice aH aD aI,slice aF aE aG,Value.bool aA] 26 5 true true)]∧[Value.bool ac]=[Value.bool ad]) (br (decide ((↑p2n:Int) > (70:
 Int))) (∃(R:RT),True∧CX Try.prog 12 (Array.mk []) ab [] R∧ZaF Shape.bool R∧∀(ac:Bool)(m':Mem),Mem.le ab m'→R (Value.bool ac) m' []→[some (Box.mk aa [slice bJ bK bL,slice bM bN
 bO,slice bP bQ bR,slice bS bT bU,Value.bool aW] 26 5 true true),some (Box.mk b [slice aJ aB aL,slice aK aC aM,slice aH aD aI,slice aF aE aG,Value.bool
 aA] 26 5 true true)]=[some (Box.mk aa [slice bJ bK bL,slice bM bN bO,slice bP bQ bR,slice bS bT bU,Value.bool aW] 26 5 true true),some (Box.mk b [slice aJ aB aL,
 slice aK aC aM,slice aH aD aI,slice aF aE aG,Value.bool aA] 26 5 true true)]∧[Value.bool ac]=[Value.bool ad]) (∃(R:RT),True∧CX Try.prog 11 (Array.mk [agg (Array.mk [slice aJ
 aB aL,slice aK aC aM,slice aH aD aI,slice aF aE aG,Value.bool aA]),agg (Array.mk [slice bJ bK bL,slice bM bN bO,slice bP bQ bR,slice bS bT
 bU,Value.bool aW]),slice p2a p2n p2c,int u8 p3]) ab [] R∧ZaF Shape.bool R∧∀(ac:Bool)(m':Mem),Mem.le ab m'→R (Value.bool ac) m' []→br ac (∃(R:RT),True∧CX Try.prog 12 (Array.mk []) m' [] R∧
 ZaF Shape.bool R∧∀(ah:Bool)(ai:Mem),Mem.le m' ai→R (Value.bool ah) ai []→[some (Box.mk aa [slice bJ bK bL,slice bM bN bO,slice bP bQ bR,slice bS bT bU,Value.bool
 aW] 26 5 true true),some (Box.mk b [slice aJ aB aL,slice aK aC aM,slice aH aD aI,slice aF aE aG,Value.bool aA] 26 5 true true)]=[some (Box.mk aa [slice bJ bK bL,
 slice bM bN bO,slice bP bQ bR,slice bS bT bU,Value.bool aW] 26 5 true true),some (Box.mk b [slice aJ aB aL,slice aK aC aM,slice aH aD aI,slice aF aE
 aG,Value.bool aA] 26 5 true true)]∧[Value.bool ah]=[Value.bool ad]) ([some (Box.mk aa [slice bJ bK bL,slice bM bN bO,slice bP bQ bR,slice bS bT bU,Value.bool aW] 26 5
 true true),some (Box.mk b [slice aJ aB aL,slice aK aC aM,slice aH aD aI,slice aF aE aG,Value.bool aA] 26 5 true true)]=[some (Box.mk aa [slice bJ bK bL,slice bM
 bN bO,slice bP bQ bR,slice bS bT bU,Value.bool aW] 26 5 true true),some (Box.mk b [slice aJ aB aL,slice aK aC aM,slice aH aD aI,slice aF aE aG,
 Value.bool aA] 26 5 true true)]∧[Value.bool false]=[Value.bool ad])))))∧∃(m'':Mem),Mem.le m m''∧Mem.le m'' ae∧R (Value.bool ad) m'' []
theorem ZfS(aJ:Option Addr)(aB aL:Nat)(aK:Option Addr)(aC aM:Nat)(aH:Option Addr)(aD aI:Nat)(aF:Option Addr)(aE aG:Nat)(aA:Bool)(bJ:Option Addr)(bK bL:Nat)(bM:Option Addr)(bN bO:Nat)(bP:Option Addr)(bQ bR:Nat)(bS:Option Addr)(bT bU:Nat)(aW:Bool)(p2a:Option Addr)(p2n p2c:Nat)(p3:Int)(m:Mem)(R:RT)(h:Zdj aJ aB aL aK aC aM aH aD aI aF aE aG aA bJ bK bL bM bN bO bP bQ bR bS bT bU aW p2a p2n p2c p3 m R):CX Try.prog 3 #[.agg #[.slice aJ aB aL,.slice aK aC aM,.slice aH aD aI,.slice aF aE aG,.bool aA],.agg #[.slice bJ bK bL,.slice bM bN bO,.slice bP bQ bR,.slice bS bT bU,.bool aW],.slice p2a p2n p2c,.int .u8 p3] m [] R:=
 Zal (E:=ZgE) Zaz mix Try.func3 [.v (.agg #[.slice aJ aB aL,.slice aK aC aM,.slice aH aD aI,.slice aF aE aG,.bool aA]),.v (.agg #[.slice bJ bK bL,.slice bM bN bO,.slice bP bQ bR,.slice bS bT bU,.bool aW]),.v (.slice p2a p2n p2c),.v (.int .u8 p3)] [] (by kernel_rfl) (Eq.mp (by kernel_rfl) h)
end Go.Proofs.Ytplacemlpkhmfaa
set_option linter.unusedVariables false
set_option linter.unusedSimpArgs false
namespace Go.Proofs.Ytplacemlpkhmfaa
open Go Go.Eng Go.Rx Go.Proofs Go.RowKit
set_option maxRecDepth 100000
structure NfW (A:Nf)(m:Mem)(sa:Option Addr)(fa:Option Addr)(fc:Nat)(xa:Option Addr)(ya:Option Addr)(vs:List Value):Prop where
 sets:rowRd m sa (Zby A.sets)
 row:rowRd m fa vs
 len:vs.length=A.fol.length
 cap:A.fol.length≤fc
 fol:∀(i:Nat)(v:Value)(l:List Int),vs[i]?=some v→A.fol[i]?=some l→∃a c,v=.slice a l.length c∧rowRd m a (Zaq l)∧l.length≤1048576
 first:rowRd m xa (Zaq A.first)
 last:rowRd m ya (Zaq A.last)
 sl:A.sets.length≤1048576
 fl:A.fol.length≤1048576
 xl:A.first.length≤1048576
 yl:A.last.length≤1048576
 ok:∀q∈A.sets,QOk q
abbrev VN(A:Nf)(sa:Option Addr)(sc:Nat)(fa:Option Addr)(fc:Nat)(xa:Option Addr)(xc:Nat)(ya:Option Addr)(yc:Nat):Value:=.agg #[.slice sa A.sets.length sc,.slice fa A.fol.length fc,.slice xa A.first.length xc,.slice ya A.last.length yc,.bool A.empty]
theorem NfW.mono{A:Nf}{m M:Mem}{sa:Option Addr}{fa:Option Addr}{fc:Nat}{xa:Option Addr}{ya:Option Addr}{vs:List Value}(h:NfW A m sa fa fc xa ya vs)(k:m.le M):NfW A M sa fa fc xa ya vs:=
 {h with
  sets:=h.sets.mono k
  row:=h.row.mono k
  fol:=fun i v l hv hl=>by
   obtain⟨a,c,e,h1,h2⟩:=h.fol i v l hv hl
   exact⟨a,c,e,h1.mono k,h2⟩
  first:=h.first.mono k
  last:=h.last.mono k }
def Zt8(A:Nf)(k:Nat):Nat:=A.first.length+A.last.length+((A.fol.take k).map List.length).sum
def Zpa(A:Nf):Bool:=decide (A.sets.length≤60)&&(decide (A.fol.length≤60)&&decide (Zt8 A (min 61 A.fol.length)≤1000))
theorem Zro{A:Nf}{k:Nat}{l:List Int}(h:A.fol[k]?=some l):Zt8 A (k+1)=Zt8 A k+l.length:=by
 unfold Zt8
 rw[List.take_add_one,h]
 simp;omega
theorem ZnY{A:Nf}{m:Mem}{sa:Option Addr}{sc:Nat}{fa:Option Addr}{fc:Nat}{xa:Option Addr}{xc:Nat}{ya:Option Addr}{yc:Nat}{vs:List Value}(h:NfW A m sa fa fc xa ya vs)(hs:Zpa A=true):NfR false A (VN A sa sc fa fc xa xc ya yc) m∧A.fol.length≤60:=by
 unfold Zpa at hs
 simp only[Bool.and_eq_true,decide_eq_true_eq]at hs
 obtain⟨h1,h2,h3⟩:=hs
 rw[show min 61 A.fol.length=A.fol.length by omega]at h3
 unfold Zt8 at h3
 rw[List.take_length]at h3
 refine⟨⟨_,_,_,_,rfl,⟨sa,sc,rfl,h.sets,by omega,fun e=>by cases e⟩,⟨fa,fc,vs,rfl,h.row,h.len,by omega,fun i v l hv hl=>?_⟩,⟨xa,xc,rfl,h.first,by omega,fun e=>by cases e⟩,⟨ya,yc,rfl,h.last,by omega,fun e=>by cases e⟩⟩,h2⟩
 obtain⟨a,c,e,h4,_⟩:=h.fol i v l hv hl
 have:l.length≤(A.fol.map List.length).sum:=by
  have hm:l.length∈A.fol.map List.length:=List.mem_map.2 ⟨l,List.mem_of_getElem? hl,rfl⟩
  generalize A.fol.map List.length=L at hm
  induction L with
  | nil=>cases hm
  | cons x L ih=>
   rw[List.sum_cons]
   rcases List.mem_cons.1 hm with rfl|hm
   ·omega
   ·have:=ih hm;omega
 exact⟨a,c,e,h4,by omega,fun e=>by cases e⟩
theorem ZuZ{l:List Nat}{n:Nat}(h:∀x∈l,x≤n):l.sum≤l.length*n:=by
 induction l with
 | nil=>simp
 | cons x l ih=>
  have h1:=h x (by simp)
  have h2:=ih fun y hy=>h y (by simp[hy])
  rw[List.sum_cons,List.length_cons,Nat.add_mul];omega
theorem Zp2(A:Nf)(sa:Option Addr)(sc:Nat)(fa:Option Addr)(fc:Nat)(xa:Option Addr)(xc:Nat)(ya:Option Addr)(yc:Nat)(vs:List Value)(m:Mem)(h:NfW A m sa fa fc xa ya vs):CX Try.prog 10 #[VN A sa sc fa fc xa xc ya yc,.int .i64 60,.int .i64 1000] m [] (Ret (.bool (Zpa A))):=by
 apply Ziz
 unfold Zfl
 intro b m1 bE _
 have eD:=h.xl
 have dD:=h.yl
 have gZ:=h.fl
 have fS:=h.cap
 have vN:IntKind.i64.wrap ((60:Int)+1)=61:=rfl
 have hM:(if IntKind.i64.wrap ((60:Int)+1) < (A.fol.length:Int)then IntKind.i64.wrap ((60:Int)+1)else(A.fol.length:Int))=((min 61 A.fol.length:Nat):Int):=by
  rw[vN];split <;> omega
 simp only[hM]
 generalize vO:min 61 A.fol.length=M at *
 have r9:∀k,k≤M→Zt8 A k≤70000000:=fun k hk=>by
  unfold Zt8
  have:=ZuZ (l:=(A.fol.take k).map List.length) (n:=1048576) (by
   intro x hx
   obtain⟨l,hl,rfl⟩:=List.mem_map.1 hx
   obtain⟨i,hi⟩:=List.getElem?_of_mem (List.mem_of_mem_take hl)
   obtain⟨v,hv⟩:=Zam (l:=vs) (k:=i) (by have:=(List.getElem?_eq_some_iff.1 hi).1;have:=h.len;omega)
   obtain⟨_,_,_,_,h5⟩:=h.fol i v l hv hi
   exact h5)
  have h6:((A.fol.take k).map List.length).length≤61:=by simp;omega
  have h7:((A.fol.take k).map List.length).length*1048576≤61*1048576:=Nat.mul_le_mul_right _ h6
  omega
 have h0:Zt8 A 0=A.first.length+A.last.length:=by simp[Zt8]
 refine⟨⟨by omega,by omega⟩,fun xs _ _ m' q=>∃k:Nat,k≤M∧xs=[.int .i64 (Zt8 A k),.int .i64 k]∧m.le m'∧q=M - k,⟨_,0,by omega,?_,bE,rfl⟩,?_⟩
 ·rw[Zau (by omega) (by omega),h0];rfl
 rintro s z m2 q bZ ⟨k,hk,hx,dE,hq⟩
 simp only[List.cons.injEq,Value.int.injEq,true_and,and_true]at hx
 obtain⟨rfl,rfl⟩:=hx
 subst hq
 simp only[Int.toNat_natCast,Nat.sub_zero]
 refine Zab (fun bV=>?_) (fun cM=>?_)
 ·have bF:k < M:=by have:=of_decide_eq_true bV;omega
  obtain⟨l,hl⟩:=Zam (l:=A.fol) (k:=k) (by omega)
  obtain⟨u,hu⟩:=Zam (l:=vs) (k:=k) (by have:=h.len;omega)
  obtain⟨la,lc,rfl,_,h5⟩:=h.fol k u l hu hl
  obtain⟨fb,fo,gE,eA⟩:=ZbX (h.row.mono dE) hu
  have se:=r9 k hk
  refine⟨fb,fo,gE,⟨by omega,by omega⟩,_,eA,Zaa rfl ⟨trivial,_,by omega,k+1,bF,?_,dE,rfl⟩⟩
  rw[Zro hl]
  simp only[slN]
  rw[Zau (by omega) (by omega),Zau (by omega) (by omega)];rfl
 ·have:k=M:=by have:=of_decide_eq_false cM;omega
  subst this
  refine⟨Zpa A,?_,Zad dE rfl⟩
  unfold Zpa
  rw[vO]
  refine Zab (fun h1=>?_) (fun h1=>?_)
  ·have h1':A.sets.length≤60:=by have:=of_decide_eq_true h1;omega
   refine Zab (fun h2=>?_) (fun h2=>?_)
   ·have h2':A.fol.length≤60:=by have:=of_decide_eq_true h2;omega
    refine⟨by trivial,congrArg (fun z=>[Value.bool z]) ?_⟩
    simp only[h1',h2',decide_true,Bool.true_and]
    rw[decide_eq_decide];omega
   ·have h2':¬A.fol.length≤60:=by have:=of_decide_eq_false h2;omega
    exact⟨by trivial,by simp[h2']⟩
  ·have h1':¬A.sets.length≤60:=by have:=of_decide_eq_false h1;omega
   exact⟨by trivial,by simp[h1']⟩
theorem Zmg{A:Nf}:∀(v:Value)(m':Mem) (css:List (List Value)),RefR A v m'→Shape.fits (.agg [.slice,.slice,.slice,.slice,.bool]) v=true:=by
 rintro v m' css ⟨s,f,x,y,rfl,⟨_,_,rfl,_⟩,⟨_,_,_,rfl,_⟩,⟨_,_,rfl,_⟩,⟨_,_,rfl,_⟩⟩;rfl
theorem ZnZ(l:List QS)(q:QS):Zc7 (l++[q])=Zc7 l++Zbz q:=by simp[Zc7]
set_option maxHeartbeats 800000 in
theorem Zkk{st:Bool}(A:Nf)(o7:∀q∈A.sets,QOk q)(v:Value)(m:Mem)(h:NfR st A v m):CX Try.prog 43 #[v] m [] (fun v m' _=>RefR A v m'):=by
 obtain⟨s,f,x,y,rfl,⟨sa,sc,rfl,hs,dP,iN⟩,⟨fa,fc,vs,rfl,hf,f9,gZ,fW⟩,⟨xa,xc,rfl,hx,eD,gz⟩,⟨ya,yc,rfl,hy,dD,hH⟩⟩:=h
 apply ZhC
 unfold ZeM
 intro b0 m1 bE _ b1
 refine⟨fun i _ _=>if i=2 then(fun v m' _=>SlI st A.first v m')else(fun v m' _=>SlI st A.last v m'),?_⟩
 refine⟨_,rfl,Zhy A.first _ m1 ⟨xa,xc,rfl,hx.mono bE,eD,gz⟩,ZbH,fun a3 n3 c3 m3 cD kO=>?_⟩
 refine⟨_,rfl,Zhy A.last _ m3 ⟨ya,yc,rfl,(hy.mono bE).mono cD,dD,hH⟩,ZbH,fun a4 n4 c4 m4 cZ kP=>?_⟩
 have kO:SlI st A.first (.slice a3 n3 c3) m3:=kO
 have kP:SlI st A.last (.slice a4 n4 c4) m4:=kP
 intro b2 M gt kq ly
 have lz:m.le M:=Mem.le_trans bE gt
 refine⟨fun xs css tvs m' q=>∃(k:Nat)(a:Option Addr)(c:Nat),k≤A.sets.length∧xs=[.int .i64 k]∧css=[[.slice a k c,.slice none 0 0,.slice a3 n3 c3,.slice a4 n4 c4,.bool A.empty]]∧tvs=[.slice a k c]∧M.le m'∧rowRd m' a (Zc7 (A.sets.take k))∧q=A.sets.length - k,
  ⟨_,0,none,0,by omega,rfl,rfl,rfl,Mem.le_refl _,.inl rfl,rfl⟩,?_⟩
 rintro z cs a n c m5 q _ ⟨k,a',c',hk,hz,cG,dA,dB,cV,hq⟩
 obtain rfl:z=k:=by simpa using hz
 obtain rfl:cs=_:=by simpa using cG
 simp only[List.cons.injEq,Value.slice.injEq,and_true]at dA
 obtain⟨rfl,rfl,rfl⟩:=dA
 subst hq
 refine Zab (fun bV=>?_) (fun cM=>?_)
 ·have bF:n < A.sets.length:=by have:=of_decide_eq_true bV;omega
  obtain⟨qq,jq⟩:=Zam bF
  obtain⟨sb,so,iA,eB⟩:=Zgi (hs.mono (Mem.le_trans lz dB)) jq
  have oq:=o7 qq (List.mem_of_getElem? jq)
  refine⟨sb,so,iA,⟨by omega,by omega⟩,_,_,_,_,(by rw[Int.toNat_natCast];exact eB),fun b4=>Zaa rfl ⟨fun _ _ _=>Ret (.agg (Zbz qq).toArray),Zat (v:=.slice a n c) rfl ⟨_,rfl,ZsL qq oq m5,fun v _ _ h=>by rw[h];rfl,?_⟩⟩⟩
  intro cs1 m6 gd hv
  have hv:Value.agg (Array.mk cs1)=.agg (Zbz qq).toArray:=hv
  simp only[Value.agg.injEq,Array.mk.injEq]at hv
  subst hv
  refine Zaa (by rw[Zbe];rfl) fun b5 kR=>Zaa rfl ?_
  have kM:=Mem.le_add kR (List.append (Zbz qq) [])
  have dZ:rowRd (m6.add b5 (List.append (Zbz qq) [])) (some ⟨b5,0,none⟩) (Zbz qq):=.inr ⟨b5,0,rfl,fun j u hj=>by rw[Nat.zero_add,Mem.add_same];show((Zbz qq)++[])[j]?=_;rw[List.append_nil];exact hj⟩
  refine⟨.inl rfl,Zc7 (A.sets.take n),Zbz qq,by rw[Zlc];simp[slN];omega,by rw[Zbe],(cV.mono gd).mono kM,dZ,Zk4 qq,by simp only[slN];omega,by simp only[slN];omega,fun a7 c7 m7 jC mz=>Zaa rfl fun M2 kt ng rS mw=>⟨by trivial,A.sets.length - (n+1),by omega,n+1,a7,c7,by omega,?_,rfl,rfl,Mem.le_trans dB kt,?_,rfl⟩⟩
  ·rw[Zau (by omega) (by omega)];rfl
  ·have e:Zc7 (A.sets.take (n+1))=Zc7 (A.sets.take n)++Zbz qq:=by rw[List.take_add_one,jq];exact ZnZ _ _
   rw[e];exact mz.mono mw
 ·have:n=A.sets.length:=by have:=of_decide_eq_false cM;omega
  subst this
  rw[List.take_length]at cV
  refine⟨fun xs css tvs m' q=>∃(k:Nat)(a2:Option Addr)(c2:Nat),k≤A.fol.length∧xs=[.int .i64 k]∧css=[[.slice a A.sets.length c,.slice a2 k c2,.slice a3 n3 c3,.slice a4 n4 c4,.bool A.empty]]∧tvs=[.slice a2 k c2]∧m5.le m'∧(∃ws,rowRd m' a2 ws∧ws.length=k∧∀(i:Nat)(v:Value)(l:List Int),ws[i]?=some v→A.fol[i]?=some l→SlI false l v m')∧q=A.fol.length - k,
   ⟨_,0,none,0,by omega,rfl,rfl,rfl,Mem.le_refl _,⟨[],.inl rfl,rfl,fun i v l hv=>by simp at hv⟩,rfl⟩,?_⟩
  rintro z cs a6 n6 c6 m6 q _ ⟨k,a6',c6',hk,hz,cG,dA,gd,⟨ws,eF,dQ,ko⟩,hq⟩
  obtain rfl:z=k:=by simpa using hz
  obtain rfl:cs=_:=by simpa using cG
  simp only[List.cons.injEq,Value.slice.injEq,and_true]at dA
  obtain⟨rfl,rfl,rfl⟩:=dA
  subst hq
  have mF:m.le m6:=Mem.le_trans lz (Mem.le_trans dB gd)
  refine Zab (fun bV=>?_) (fun cM=>?_)
  ·have bF:n6 < A.fol.length:=by have:=of_decide_eq_true bV;omega
   obtain⟨l,hl⟩:=Zam bF
   obtain⟨u,hu⟩:=Zam (l:=vs) (k:=n6) (by omega)
   obtain⟨fb,fo,gE,eA⟩:=ZbX (hf.mono mF) hu
   refine⟨fb,fo,gE,⟨by omega,by omega⟩,_,(by rw[Int.toNat_natCast];exact eA),fun _ _ _=>(fun v m' _=>SlI st l v m'),Zat (v:=.slice a6 n6 c6) rfl ⟨_,rfl,Zhy l u m6 ((fW n6 u l hu hl).mono mF),ZbH,fun a8 n8 c8 m8 j6 sg b4 oS=>Zaa rfl ?_⟩⟩
   have sg:SlI st l (.slice a8 n8 c8) m8:=sg
   have si:SlI false l (.slice a8 n8 c8) m8:=by
    obtain⟨a,c,e,g1,g2,_⟩:=sg
    exact⟨a,c,e,g1,g2,fun e=>by cases e⟩
   have ij:=Mem.le_add oS [Value.slice a8 n8 c8]
   refine⟨.inl rfl,ws,[.slice a8 n8 c8],by simp only[slN];omega,rfl,(eF.mono j6).mono ij,Zgq,by simp[Value.oneCell'],by simp only[slN];omega,by simp only[slN];omega,fun a7 c7 m7 jC mz=>Zaa rfl fun M2 kt ng rS mw=>⟨by trivial,by trivial,A.fol.length - (n6+1),by omega,n6+1,a7,c7,by omega,?_,rfl,rfl,Mem.le_trans gd kt,⟨ws++[.slice a8 n8 c8],mz.mono mw,by simp[dQ],fun i v l' hv hl'=>?_⟩,rfl⟩⟩
   ·rw[Zau (by omega) (by omega)];rfl
   ·rw[List.getElem?_append]at hv
    split at hv
    ·exact(ko i v l' hv hl').mono kt
    ·rename_i cM
     have gu:i=n6:=by
      have:=(List.getElem?_eq_some_iff.1 hv).1
      simp at this;omega
     subst gu
     rw[dQ,Nat.sub_self]at hv
     obtain rfl:Value.slice a8 n8 c8=v:=by simpa using hv
     obtain rfl:l=l':=by rw[hl]at hl';exact Option.some.inj hl'
     exact si.mono ng
  ·have:n6=A.fol.length:=by have:=of_decide_eq_false cM;omega
   subst this
   have mq:=Mem.le_trans dB gd
   have g3:SlI false A.first (.slice a3 n3 c3) m6:=by
    obtain⟨a,c,e,g1,g2,_⟩:=kO.mono (Mem.le_trans kq mq)
    exact⟨a,c,e,g1,g2,fun e=>by cases e⟩
   have g4:SlI false A.last (.slice a4 n4 c4) m6:=by
    obtain⟨a,c,e,g1,g2,_⟩:=kP.mono (Mem.le_trans ly mq)
    exact⟨a,c,e,g1,g2,fun e=>by cases e⟩
   exact Zaa rfl ⟨m6,mF,Mem.le_refl _,_,_,_,_,rfl,⟨a,c,rfl,cV.mono gd,dP⟩,⟨a6,c6,ws,rfl,eF,dQ,gZ,ko⟩,g3,g4⟩
theorem Zt9(l r:List (List Int))(v w:Value)(m:Mem)(hl:FolR false l v m)(hr:FolR false r w m):CX Try.prog 72 #[v,w,.func (.func 23) #[] #[]] m [] (Ret (.bool (decide (l=r)))):=ZtW l r v w m hl hr
theorem Zkl{st:Bool}(A B:Nf)(hA:∀q∈A.sets,QOk q)(hB:∀q∈B.sets,QOk q)(v w:Value)(m:Mem)(h:NfR st A v m)(k:RefR B w m):CX Try.prog 46 #[v,w] m [] (Ret (.bool (decide (A=B)))):=by
 have h':=h
 obtain⟨s,f,x,y,rfl,⟨sa,sc,rfl,hs,dP,iN⟩,⟨fa,fc,vs,rfl,hf⟩,⟨xa,xc,rfl,hx,eD,gz⟩,⟨ya,yc,rfl,hy,dD,hH⟩⟩:=h
 obtain⟨s',f',x',y',rfl,⟨sa',sc',rfl,hs',oA⟩,hf',⟨xa',xc',rfl,hx',oB,oC⟩,⟨ya',yc',rfl,hy',oD,oE⟩⟩:=k
 obtain⟨fa',fc',vs',rfl,rI⟩:=id hf'
 apply Zkh
 unfold Zgt
 intro b m1 bE _ b1 m2 bZ _
 have dE:=Mem.le_trans bE bZ
 refine Zas (Zkk A hA _ m2 (h'.mono dE)) Zmg ?_
 rintro a n c a1 n1 c1 a2 n2 c2 a3 n3 c3 e m3 cD ⟨t1,t2,t3,t4,hv,⟨ua,uc,rfl,hu,ww⟩,tQ,⟨va,vc,rfl,vP,jk,_⟩,⟨wa,wc,rfl,rB,rY,_⟩⟩
 obtain⟨ga,gc,gs,rfl,tr⟩:=id tQ
 simp only[Value.agg.injEq,Array.mk.injEq,List.cons.injEq,Value.slice.injEq,Value.bool.injEq,true_and,and_true]at hv
 obtain⟨⟨rfl,rfl,rfl⟩,⟨rfl,rfl,rfl⟩,⟨rfl,rfl,rfl⟩,⟨rfl,rfl,rfl⟩,rfl⟩:=hv
 have iB:=Mem.le_trans dE cD
 intro b3
 obtain⟨As,Af,A1,A2,Ae⟩:=A
 obtain⟨Bs,Bf,B1,B2,Be⟩:=B
 refine⟨decide ((⟨As,Af,A1,A2,Ae⟩:Nf)=⟨Bs,Bf,B1,B2,Be⟩),?_,Zad iB rfl⟩
 refine Zah (ZuY As Bs hA hB _ _ _ _ m3 hu (hs'.mono iB) dP) fun m4 cZ=>?_
 have iC:=Mem.le_trans iB cZ
 refine Zab (fun e1=>?_) (fun e1=>⟨by trivial,by simp[show ¬As=Bs by simpa using e1]⟩)
 refine Zah (Zt9 Af Bf _ _ m4 (tQ.mono cZ) (hf'.mono iC)) fun m5 dB=>?_
 have iD:=Mem.le_trans iC dB
 have nj:=Mem.le_trans cZ dB
 refine Zab (fun e2=>?_) (fun e2=>⟨by trivial,by simp[show ¬Af=Bf by simpa using e2]⟩)
 refine Zah (Ziu A1 B1 _ _ _ _ m5 (vP.mono nj) (hx'.mono iD) eD) fun m6 gd=>?_
 have mF:=Mem.le_trans iD gd
 refine Zab (fun e3=>?_) (fun e3=>⟨by trivial,by simp[show ¬A1=B1 by simpa using e3]⟩)
 refine Zah (Ziu A2 B2 _ _ _ _ m6 ((rB.mono nj).mono gd) (hy'.mono mF) dD) fun m7 jC=>?_
 refine Zab (fun e4=>⟨by trivial,?_⟩) (fun e4=>⟨by trivial,by simp[show ¬A2=B2 by simpa using e4]⟩)
 refine congrArg (fun z=>[Value.bool z]) ?_
 rw[Bool.eq_iff_iff]
 simp[of_decide_eq_true e1,of_decide_eq_true e2,of_decide_eq_true e3,of_decide_eq_true e4]
end Go.Proofs.Ytplacemlpkhmfaa
set_option linter.unusedVariables false
namespace Go.Proofs.Ytplacemlpkhmfaa
open Go Go.Eng Go.Proofs Go.RowKit
open Go.Value (int slice agg)
open Go.IntKind (u8 u64 i64)
set_option maxRecDepth 100000
noncomputable def Zkm:Env:={ EB with
 frzNew:=[2] }
def Zfp(aJ:Option Addr)(aB aL:Nat)(aK:Option Addr)(aC aM:Nat)(aH:Option Addr)(aD aI:Nat)(aF:Option Addr)(aE aG:Nat)(aA:Bool)(p1a:Option Addr)(p1n p1c:Nat)(m:Mem)(R:RT):Prop:=
 ∀(b:Nat)(m':Mem),Mem.le m m'→Mem.reads m' b 0 [slice aJ aB aL,slice aK aC aM,slice aH aD aI,slice aF aE aG,Value.bool aA]→∃(R_1:RT),True∧CX Try.prog 78
 (Array.mk [agg (Array.mk [slice aJ aB aL,slice aK aC aM,slice aH aD aI,slice aF aE aG,Value.bool aA]),slice p1a p1n p1c]) m' [] R_1∧ZaF (Shape.int i64) R_1∧∀(n:Int)
 (m'_1:Mem),Mem.le m' m'_1→R_1 (int i64 n) m'_1 []→br (!n == (0:Int)) (∃(m'':Mem),Mem.le m m''∧Mem.le m'' m'_1∧R (Value.tuple (Array.mk [Value.bool false,int i64 n])) m'' []) (∃(R_2:RT),True∧CX
 Try.prog 68 (Array.mk [agg (Array.mk [slice aJ aB aL,slice aK aC aM,slice aH aD aI,slice aF aE aG,Value.bool aA]),slice p1a p1n p1c]) m'_1 [] R_2∧ZaF Shape.bool R_2∧∀(b:
 Bool) (m':Mem),Mem.le m'_1 m'→R_2 (Value.bool b) m' []→∃(m'':Mem),Mem.le m m''∧Mem.le m'' m'∧R (Value.tuple (Array.mk [Value.bool b,int i64 0])) m'' [])
theorem ZiE(aJ:Option Addr)(aB aL:Nat)(aK:Option Addr)(aC aM:Nat)(aH:Option Addr)(aD aI:Nat)(aF:Option Addr)(aE aG:Nat)(aA:Bool)(p1a:Option Addr)(p1n p1c:Nat)(m:Mem)(R:RT)(h:Zfp aJ aB aL aK aC aM aH aD aI aF aE aG aA p1a p1n p1c m R):CX Try.prog 28 #[.agg #[.slice aJ aB aL,.slice aK aC aM,.slice aH aD aI,.slice aF aE aG,.bool aA],.slice p1a p1n p1c] m [] R:=
 Zal (E:=Zkm) Zaz mix Try.func28 [.v (.agg #[.slice aJ aB aL,.slice aK aC aM,.slice aH aD aI,.slice aF aE aG,.bool aA]),.v (.slice p1a p1n p1c)] [] (by kernel_rfl) (Eq.mp (by kernel_rfl) h)
end Go.Proofs.Ytplacemlpkhmfaa
