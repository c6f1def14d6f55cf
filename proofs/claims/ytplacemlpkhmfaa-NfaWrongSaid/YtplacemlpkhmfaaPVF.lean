/- Part of the proof: conditions and contracts of functions of this program. No condition of its own. -/
import Derived.Test.YtplacemlpkhmfaaPEnv
set_option linter.unusedVariables false
namespace Go.Proofs.Ytplacemlpkhmfaa
open Go Go.Eng Go.Proofs Go.RowKit
open Go.Value (int slice agg)
open Go.IntKind (u8 u64 i64)
set_option maxRecDepth 100000
noncomputable def Zl0:Env:={ EB with
 loops:=(fun i=>bif Nat.beq i 4 then⟨[(3,.slice),(4,.int .i64),(5,.int .i64),(22,.int .i64)],[],[(40,8)],false⟩ else bif Nat.beq i 32 then⟨[(195,.int .i64)],[13],[],false⟩ else⟨[],[],[],false⟩)
 joins:=(fun i=>bif Nat.beq i 12 then some [(48,.bool)]else bif Nat.beq i 14 then some [(74,.bool)]else bif Nat.beq i 16 then some [(100,.bool)]else bif Nat.beq i 19 then some [(123,.bool)]else bif Nat.beq i 21 then some [(161,.bool)]else none)
 dr:=(fun i=>bif Nat.beq i 13 then[⟨0,[],[],none,[],[]⟩,⟨1,[],[],none,[],[]⟩,⟨2,[],[],none,[1],[]⟩,⟨3,[],[],none,[],[]⟩,⟨4,[],[],none,[3],[]⟩,⟨5,[],[],none,[0,1,2,3,4],[]⟩,⟨6,[],[],none,[],[]⟩,⟨7,[],[],none,[],[]⟩,⟨8,[],[],none,[7],[]⟩,⟨9,[],[],none,[6,7,8],[]⟩,⟨10,[],[],none,[6,7,8,9],[]⟩,⟨11,[],[],none,[],[]⟩,⟨12,[],[],none,[],[]⟩,⟨13,[],[],none,[12],[]⟩,⟨14,[],[],none,[11,12,13],[]⟩,⟨15,[],[],none,[11,12,13,14],[]⟩,⟨16,[],[],none,[6,7,8,9,10,11,12,13,14,15],[]⟩,⟨17,[72],[72],none,[6,7,8,9,10,11,12,13,14,15,16],[16]⟩,⟨18,[72],[],some 40,[0,1,2,3,4,5,6,7,8,9,10,11,12,13,14,15,16,17],[17]⟩,⟨19,[],[],none,[0,1,2,3,4,5,6,7,8,9,10,11,12,13,14,15,16,17,18],[]⟩]else bif Nat.beq i 15 then[⟨0,[],[],none,[],[]⟩,⟨1,[],[],none,[],[]⟩,⟨2,[],[],none,[1],[]⟩,⟨3,[],[],none,[],[]⟩,⟨4,[],[],none,[3],[]⟩,⟨5,[],[],none,[0,1,2,3,4],[]⟩,⟨6,[],[],none,[],[]⟩,⟨7,[],[],none,[],[]⟩,⟨8,[],[],none,[7],[]⟩,⟨9,[],[],none,[6,7,8],[]⟩,⟨10,[],[],none,[6,7,8,9],[]⟩,⟨11,[],[],none,[],[]⟩,⟨12,[],[],none,[],[]⟩,⟨13,[],[],none,[12],[]⟩,⟨14,[],[],none,[11,12,13],[]⟩,⟨15,[],[],none,[11,12,13,14],[]⟩,⟨16,[],[],none,[6,7,8,9,10,11,12,13,14,15],[]⟩,⟨17,[98],[98],none,[6,7,8,9,10,11,12,13,14,15,16],[16]⟩,⟨18,[98],[],some 40,[0,1,2,3,4,5,6,7,8,9,10,11,12,13,14,15,16,17],[17]⟩,⟨19,[],[],none,[0,1,2,3,4,5,6,7,8,9,10,11,12,13,14,15,16,17,18],[]⟩]else bif Nat.beq i 20 then[⟨0,[7],[],none,[],[]⟩,⟨1,[7],[],none,[0],[]⟩,⟨2,[],[],none,[0,1],[]⟩,⟨3,[],[],none,[0,1,2],[]⟩,⟨4,[7],[],none,[],[]⟩,⟨5,[7],[],none,[4],[]⟩,⟨6,[],[],none,[4,5],[]⟩,⟨7,[],[],none,[4,5,6],[]⟩,⟨8,[],[],none,[0,1,2,3],[]⟩,⟨9,[],[],none,[0,1,2,3,4,5,6,7,8],[]⟩]else[])
 tokOf:=(fun i=>bif Nat.beq i 40 then 40 else bif Nat.beq i 47 then 40 else bif Nat.beq i 73 then 40 else bif Nat.beq i 99 then 40 else 0)
 thaw:=true
 stAt:=(fun i=>bif Nat.beq i 120 then some 40 else bif Nat.beq i 183 then some 40 else none) }
abbrev ZeB:Nat→Option Box:=fun(b:Nat)=>some (Box.mk b [int u8 0,int u64 0,int u64 0,int u64 0,int u64 0,int i64 0,int i64 0,slice none 0 0] 41 8 false true)
abbrev Za1:Nat→List (Option Box):=fun(b:Nat)=>[ZeB b]
abbrev ZaK:Nat→Value→Value→Value→Nat→List (Option Box):=fun(b:Nat)(v ae ag:Value)(be:Nat)=>[some (Box.mk be [v,ae,ag] 106 3 false true),ZeB b]
abbrev Zkp:Nat→Nat→List (Option Box):=fun(b be:Nat)=>[some (Box.mk be [] 41 8 false true),ZeB b]
def ZgM(p0a:Option Addr)(p0n p0c:Nat)(m:Mem)(R:RT):Prop:=
 ∀(b:Nat),(((0:Int)≤if(25:Int) < (↑p0n:Int)then(25:Int)else(↑p0n:Int))∧(if(25:Int) < (↑p0n:Int)then(25:Int)else(↑p0n:Int))≤(↑p0c:Int))∧∃(I:IT),(∃(n:Nat),I [slice none 0
 0,int i64 1,int i64 0,int i64 0] [] [slice none 0 0] m n)∧∀(a:Option Addr)(n c:Nat)(a4 a5 a2:Int)(ad:Option Addr)(aa ac:Nat)(m':Mem)(a6:Nat),True→I [slice a n c,int i64 a4,int i64 a5,int
 i64 a2] [] [slice ad aa ac] m' a6→br (decide (a2 < (↑(Int.toNat (if(25:Int) < (↑p0n:Int)then(25:Int)else(↑p0n:Int)) - 0):Int))) (∃(be:Nat),∃(o:Nat),ZbS p0a 0 p0c 3=some (Addr.mk be o none)
 ∧ Zaf a2 (Int.toNat (if(25:Int) < (↑p0n:Int)then(25:Int)else(↑p0n:Int)) - 0)∧∃(v:Value),∃(ae:Value),∃(ag:Value),Mem.reads m' be (o+Int.toNat a2*3) [v,ae,ag]∧∀(a1:Nat),chk
 (Value.oneCell' v&&(Value.oneCell' ae&&(Value.oneCell' ag&&true))) (chk (Zbn u8 v&&decide (u8=u8)) ((12:Int)≠(0:Int)∧br (decide (Int.tmod (RowKit.intOf v) (12:Int) < (4:Int))) (∃(R:RT),True∧
 CX Try.prog 64 (Array.mk [ae]) m' [] R∧ZaJ Shape.str R∧∀(s:ByteArray)(ab:Mem),Mem.le m' ab→R (Value.string s) ab []→∃(R:RT),True∧CX Try.prog 63 (Array.mk [Value.string s]) ab [] R∧ZaJ (shT) R∧
 ∀(af ah ai aj ak al am:Int)(bk:Option Addr)(an a3:Nat)(m':Mem),Mem.le ab m'→R (agg (Array.mk [int u8 af,int u64 ah,int u64 ai,int u64 aj,int u64 ak,int i64 al,int i64 am,slice bk an a3])) m' []→∀
 (aq:Nat),Mem.free m' aq→(Tok.mk (slice ad aa ac) 8=Tok.mk (slice a n c) 8∨slice a n c=slice none 0 0∨c < n+1)∧∃(xs:List Value),∃(ys:List Value),List.length xs=n*8∧List.length ys=1*8∧
 rowRd (Mem.add m' aq [int u8 af,int u64 ah,int u64 ai,int u64 aj,int u64 ak,int i64 al,int i64 am,slice bk an a3]) a xs∧rowRd (Mem.add m' aq [int u8 af,int u64 ah,int u64 ai,int u64 aj,int u64 ak,int i64
 al,int i64 am,slice bk an a3]) (some (Addr.mk aq 0 none)) ys∧(∀(u:Value),u∈ys→Value.oneCell' u=true)∧(n+1)*80≤140737488355328∧n+1≤9223372036854775807∧∀(a':Option Addr)(c':Nat) (a7:
 Mem),Mem.le (Mem.add m' aq [int u8 af,int u64 ah,int u64 ai,int u64 aj,int u64 ak,int i64 al,int i64 am,slice bk an a3]) a7→rowRd a7 a' (List.append xs ys)→TokFact (Mem.add m' aq [int u8 af,int u64 ah,int
 u64 ai,int u64 aj,int u64 ak,int i64 al,int i64 am,slice bk an a3]) a a' (n+1) c'→Zas (Za1 b)∧∃(n':Nat),n' < a6∧I [slice a' (n+1) c',int i64 a4,int i64 a5,int i64 (IntKind.wrap i64 (a2
 + (1:Int)))] [] [slice a' (n+1) c'] a7 n') (br (Int.tmod (RowKit.intOf v) (12:Int) == (4:Int)) (∀(aq:Nat),Mem.free m' aq→(Tok.mk (slice ad aa ac) 8=Tok.mk (slice a n c) 8∨slice a n c=slice none 0 0∨
 c < n+1)∧∃(xs:List Value),∃(ys:List Value),List.length xs=n*8∧List.length ys=1*8∧rowRd (Mem.add m' aq [int u8 1,int u64 0,int u64 0,int u64 0,int u64 0,int i64 0,int i64 0,slice none 0 0])
 a xs∧rowRd (Mem.add m' aq [int u8 1,int u64 0,int u64 0,int u64 0,int u64 0,int i64 0,int i64 0,slice none 0 0]) (some (Addr.mk aq 0 none)) ys∧(∀(u:Value),u∈ys→Value.oneCell' u=true)∧(n+1)*80
 ≤ 140737488355328∧n+1≤9223372036854775807∧∀(a':Option Addr)(c':Nat)(ab:Mem),Mem.le (Mem.add m' aq [int u8 1,int u64 0,int u64 0,int u64 0,int u64 0,int i64 0,int i64 0,slice none 0 0]) ab→
 rowRd ab a' (List.append xs ys)→TokFact (Mem.add m' aq [int u8 1,int u64 0,int u64 0,int u64 0,int u64 0,int i64 0,int i64 0,slice none 0 0]) a a' (n+1) c'→Zas (Za1 b)∧∃(n':Nat),n' < a6∧
 I [slice a' (n+1) c',int i64 a4,int i64 a5,int i64 (IntKind.wrap i64 (a2+(1:Int)))] [] [slice a' (n+1) c'] ab n') (∃(aq:Bool),br (decide (Int.tmod (RowKit.intOf v) (12:Int) < (7:Int))) (Zas
 (ZaK b v ae ag a1)∧[some (Tok.mk (slice ad aa ac) 8)]=[some (Tok.mk (slice ad aa ac) 8)]∧[Value.bool (decide ((↑n:Int) > (1:Int)))]=[Value.bool aq]) (Zas (ZaK b v ae ag a1)∧[some
 (Tok.mk (slice ad aa ac) 8)]=[some (Tok.mk (slice ad aa ac) 8)]∧[Value.bool false]=[Value.bool aq])∧br aq (∃(f:Fx),((0:Int)≤IntKind.wrap i64 ((↑n:Int) - (2:Int))∧IntKind.wrap i64 ((↑n:Int) - (2:
 Int))≤(↑c:Int))∧((0:Int)≤IntKind.wrap i64 ((↑n:Int) - (2:Int))∧IntKind.wrap i64 ((↑n:Int) - (2:Int))≤(↑(Int.toNat (IntKind.wrap i64 ((↑n:Int) - (2:Int)))):Int))∧∃(bf:Nat),∃(o:Nat),a
 = some (Addr.mk bf o none)∧Zaf (IntKind.wrap i64 ((↑n:Int) - (2:Int))) n∧∃(v:Value),∃(ao:Value),∃(ar:Value),∃(au:Value),∃(av:Value),∃(aw:Value),∃(ax:Value),∃(ay:Value),
 Mem.reads m' bf (o+Int.toNat (IntKind.wrap i64 ((↑n:Int) - (2:Int)))*8) [v,ao,ar,au,av,aw,ax,ay]∧∃(bd:Nat),∃(o:Nat),a=some (Addr.mk bd o none)∧Zaf (IntKind.wrap i64 ((↑n:Int) - (1:
 Int))) n∧∃(a8:Value),∃(a9:Value),∃(ba:Value),∃(bb:Value),∃(bc:Value),∃(bg:Value),∃(bh:Value),∃(bi:Value),Mem.reads m' bd (o+Int.toNat (IntKind.wrap i64 ((↑n:Int) - (1:Int)))*8)
 [a8,a9,ba,bb,bc,bg,bh,bi]∧∃(R:RT),R=f 16 [int u8 3,agg (Array.mk [v,ao,ar,au,av,aw,ax,ay]),agg (Array.mk [a8,a9,ba,bb,bc,bg,bh,bi])] m'∧CX Try.prog 65 (Array.mk [int u8 3,agg (Array.mk
 [v,ao,ar,au,av,aw,ax,ay]),agg (Array.mk [a8,a9,ba,bb,bc,bg,bh,bi])]) m' [] R∧ZaJ (shT) R∧∀(af ah ai aj ak al am:Int)(ap:Option Addr)(an c:Nat)(ab:Mem),Mem.le m' ab→R (agg (Array.mk
 [int u8 af,int u64 ah,int u64 ai,int u64 aj,int u64 ak,int i64 al,int i64 am,slice ap an c])) ab []→∀(a0:Nat),Mem.free ab a0→(Tok.mk (slice ad aa ac) 8=Tok.mk (slice (ZbS a 0 (Int.toNat (IntKind.wrap
 i64 ((↑n:Int) - (2:Int)))) 8) (Int.toNat (IntKind.wrap i64 ((↑n:Int) - (2:Int))) - 0) (Int.toNat (IntKind.wrap i64 ((↑n:Int) - (2:Int))) - 0)) 8∨slice (ZbS a 0 (Int.toNat (IntKind.wrap i64 ((↑n:Int) -
 (2:Int)))) 8) (Int.toNat (IntKind.wrap i64 ((↑n:Int) - (2:Int))) - 0) (Int.toNat (IntKind.wrap i64 ((↑n:Int) - (2:Int))) - 0)=slice none 0 0∨Int.toNat (IntKind.wrap i64 ((↑n:Int) - (2:Int))) - 0 <
 Int.toNat (IntKind.wrap i64 ((↑n:Int) - (2:Int))) - 0+1)∧∃(xs:List Value),∃(ys:List Value),List.length xs=(Int.toNat (IntKind.wrap i64 ((↑n:Int) - (2:Int))) - 0)*8∧List.length ys=1*8∧
 rowRd (Mem.add ab a0 [int u8 af,int u64 ah,int u64 ai,int u64 aj,int u64 ak,int i64 al,int i64 am,slice ap an c]) (ZbS a 0 (Int.toNat (IntKind.wrap i64 ((↑n:Int) - (2:Int)))) 8) xs∧rowRd (Mem.add ab a0
 [int u8 af,int u64 ah,int u64 ai,int u64 aj,int u64 ak,int i64 al,int i64 am,slice ap an c]) (some (Addr.mk a0 0 none)) ys∧(∀(u:Value),u∈ys→Value.oneCell' u=true)∧(Int.toNat (IntKind.wrap i64 ((↑n:
 Int) - (2:Int))) - 0+1)*80≤140737488355328∧Int.toNat (IntKind.wrap i64 ((↑n:Int) - (2:Int))) - 0+1≤9223372036854775807∧∀(a':Option Addr)(c':Nat)(a7:Mem),Mem.le (Mem.add ab a0 [int u8 af,
 int u64 ah,int u64 ai,int u64 aj,int u64 ak,int i64 al,int i64 am,slice ap an c]) a7→rowRd a7 a' (List.append xs ys)→TokFact (Mem.add ab a0 [int u8 af,int u64 ah,int u64 ai,int u64 aj,int u64 ak,int i64
 al,int i64 am,slice ap an c]) (ZbS a 0 (Int.toNat (IntKind.wrap i64 ((↑n:Int) - (2:Int)))) 8) a' (Int.toNat (IntKind.wrap i64 ((↑n:Int) - (2:Int))) - 0+1) c'→∀(M:Mem),Mem.le m' M→Mem.le ab M→
 Mem.le (Mem.add ab a0 [int u8 af,int u64 ah,int u64 ai,int u64 aj,int u64 ak,int i64 al,int i64 am,slice ap an c]) M→Mem.le a7 M→Zas (Za1 b)∧∃(n':Nat),n' < a6∧I [slice a' (Int.toNat
 (IntKind.wrap i64 ((↑n:Int) - (2:Int))) - 0+1) c',int i64 a4,int i64 a5,int i64 (IntKind.wrap i64 (a2+(1:Int)))] [] [slice a' (Int.toNat (IntKind.wrap i64 ((↑n:Int) - (2:Int))) - 0+1) c'] M n') (∃(bf
 : Bool),br (decide (Int.tmod (RowKit.intOf v) (12:Int) < (9:Int))) (Zas (ZaK b v ae ag a1)∧[some (Tok.mk (slice ad aa ac) 8)]=[some (Tok.mk (slice ad aa ac) 8)]∧[Value.bool (decide ((↑n:Int) >
 (1:Int)))]=[Value.bool bf]) (Zas (ZaK b v ae ag a1)∧[some (Tok.mk (slice ad aa ac) 8)]=[some (Tok.mk (slice ad aa ac) 8)]∧[Value.bool false]=[Value.bool bf])∧br bf (∃(f:Fx),((0:Int) ≤
 IntKind.wrap i64 ((↑n:Int) - (2:Int))∧IntKind.wrap i64 ((↑n:Int) - (2:Int))≤(↑c:Int))∧((0:Int)≤IntKind.wrap i64 ((↑n:Int) - (2:Int))∧IntKind.wrap i64 ((↑n:Int) - (2:Int))≤(↑(Int.toNat
 (IntKind.wrap i64 ((↑n:Int) - (2:Int)))):Int))∧∃(bd:Nat),∃(o:Nat),a=some (Addr.mk bd o none)∧Zaf (IntKind.wrap i64 ((↑n:Int) - (2:Int))) n∧∃(v:Value),∃(ao:Value),∃(ar:Value),∃
 (au:Value),∃(av:Value),∃(aw:Value),∃(ax:Value),∃(ay:Value),Mem.reads m' bd (o+Int.toNat (IntKind.wrap i64 ((↑n:Int) - (2:Int)))*8) [v,ao,ar,au,av,aw,ax,ay]∧∃(a0:Nat),∃(o:Nat),
 a=some (Addr.mk a0 o none)∧Zaf (IntKind.wrap i64 ((↑n:Int) - (1:Int))) n∧∃(a8:Value),∃(a9:Value),∃(ba:Value),∃(bb:Value),∃(bc:Value),∃(bg:Value),∃(bh:Value),∃(bi:Value),
 Mem.reads m' a0 (o+Int.toNat (IntKind.wrap i64 ((↑n:Int) - (1:Int)))*8) [a8,a9,ba,bb,bc,bg,bh,bi]∧∃(R:RT),R=f 16 [int u8 4,agg (Array.mk [v,ao,ar,au,av,aw,ax,ay]),agg (Array.mk [a8,a9,
 ba,bb,bc,bg,bh,bi])] m'∧CX Try.prog 65 (Array.mk [int u8 4,agg (Array.mk [v,ao,ar,au,av,aw,ax,ay]),agg (Array.mk [a8,a9,ba,bb,bc,bg,bh,bi])]) m' [] R∧ZaJ (shT) R∧∀(af ah ai aj ak al am:
 Int) (ap:Option Addr) (an c:Nat) (ab:Mem),Mem.le m' ab→R (agg (Array.mk [int u8 af,int u64 ah,int u64 ai,int u64 aj,int u64 ak,int i64 al,int i64 am,slice ap an c])) ab []→∀(az:Nat),Mem.free ab az
 → (Tok.mk (slice ad aa ac) 8=Tok.mk (slice (ZbS a 0 (Int.toNat (IntKind.wrap i64 ((↑n:Int) - (2:Int)))) 8) (Int.toNat (IntKind.wrap i64 ((↑n:Int) - (2:Int))) - 0) (Int.toNat (IntKind.wrap i64 ((↑n:Int) -
 (2:Int))) - 0)) 8∨slice (ZbS a 0 (Int.toNat (IntKind.wrap i64 ((↑n:Int) - (2:Int)))) 8) (Int.toNat (IntKind.wrap i64 ((↑n:Int) - (2:Int))) - 0) (Int.toNat (IntKind.wrap i64 ((↑n:Int) - (2:Int))) - 0)
 = slice none 0 0∨Int.toNat (IntKind.wrap i64 ((↑n:Int) - (2:Int))) - 0 < Int.toNat (IntKind.wrap i64 ((↑n:Int) - (2:Int))) - 0+1)∧∃(xs:List Value),∃(ys:List Value),List.length xs=(Int.toNat
 (IntKind.wrap i64 ((↑n:Int) - (2:Int))) - 0)*8∧List.length ys=1*8∧rowRd (Mem.add ab az [int u8 af,int u64 ah,int u64 ai,int u64 aj,int u64 ak,int i64 al,int i64 am,slice ap an c]) (ZbS a 0
 (Int.toNat (IntKind.wrap i64 ((↑n:Int) - (2:Int)))) 8) xs∧rowRd (Mem.add ab az [int u8 af,int u64 ah,int u64 ai,int u64 aj,int u64 ak,int i64 al,int i64 am,slice ap an c]) (some (Addr.mk az 0 none)) ys∧(∀
 (u:Value),u∈ys→Value.oneCell' u=true)∧(Int.toNat (IntKind.wrap i64 ((↑n:Int) - (2:Int))) - 0+1)*80≤140737488355328∧Int.toNat (IntKind.wrap i64 ((↑n:Int) - (2:Int))) - 0+1 ≤
 9223372036854775807∧∀(a':Option Addr)(c':Nat)(a7:Mem),Mem.le (Mem.add ab az [int u8 af,int u64 ah,int u64 ai,int u64 aj,int u64 ak,int i64 al,int i64 am,slice ap an c]) a7→rowRd a7 a' (List.append
 xs ys)→TokFact (Mem.add ab az [int u8 af,int u64 ah,int u64 ai,int u64 aj,int u64 ak,int i64 al,int i64 am,slice ap an c]) (ZbS a 0 (Int.toNat (IntKind.wrap i64 ((↑n:Int) - (2:Int)))) 8) a' (Int.toNat
 (IntKind.wrap i64 ((↑n:Int) - (2:Int))) - 0+1) c'→∀(M:Mem),Mem.le m' M→Mem.le ab M→Mem.le (Mem.add ab az [int u8 af,int u64 ah,int u64 ai,int u64 aj,int u64 ak,int i64 al,int i64 am,slice ap an
 c]) M→Mem.le a7 M→Zas (Za1 b)∧∃(n':Nat),n' < a6∧I [slice a' (Int.toNat (IntKind.wrap i64 ((↑n:Int) - (2:Int))) - 0+1) c',int i64 a4,int i64 a5,int i64 (IntKind.wrap i64 (a2+(1:
 Int)))] [] [slice a' (Int.toNat (IntKind.wrap i64 ((↑n:Int) - (2:Int))) - 0+1) c'] M n') (∃(bd:Bool),br (Int.tmod (RowKit.intOf v) (12:Int) == (9:Int)) (br (decide ((↑n:Int) > (0:Int))) (Zas
 (ZaK b v ae ag a1)∧[some (Tok.mk (slice ad aa ac) 8)]=[some (Tok.mk (slice ad aa ac) 8)]∧[Value.bool (decide (a5 < (9:Int)))]=[Value.bool bd]) (Zas (ZaK b v ae ag a1)∧[some (Tok.mk
 (slice ad aa ac) 8)]=[some (Tok.mk (slice ad aa ac) 8)]∧[Value.bool false]=[Value.bool bd])) (Zas (ZaK b v ae ag a1)∧[some (Tok.mk (slice ad aa ac) 8)]=[some (Tok.mk (slice ad aa ac) 8)]∧
 [Value.bool false]=[Value.bool bd])∧br bd (∃(a0:Nat),∃(o:Nat),a=some (Addr.mk a0 o none)∧Zaf (IntKind.wrap i64 ((↑n:Int) - (1:Int))) n∧∃(v:Value),∃(ao:Value),∃(ar:Value),∃(au:
 Value),∃(av:Value),∃(aw:Value),∃(ax:Value),∃(ay:Value),Mem.reads m' a0 (o+Int.toNat (IntKind.wrap i64 ((↑n:Int) - (1:Int)))*8) [v,ao,ar,au,av,aw,ax,ay]∧∃(R:RT),True∧CX Try.prog 66
 (Array.mk [agg (Array.mk [v,ao,ar,au,av,aw,ax,ay])]) m' [] R∧ZaJ (shT) R∧∀(af ah ai aj ak al am:Int)(ap:Option Addr)(an a3:Nat)(ab:Mem),Mem.le m' ab→R (agg (Array.mk [int u8 af,int u64 ah,
 int u64 ai,int u64 aj,int u64 ak,int i64 al,int i64 am,slice ap an a3])) ab []→∃(az:Nat),∃(o:Nat),a=some (Addr.mk az o none)∧Zaf (IntKind.wrap i64 ((↑n:Int) - (1:Int))) n∧slice ad aa ac =
 slice (some (Addr.mk az 0 none)) aa ac∧o+Int.toNat (IntKind.wrap i64 ((↑n:Int) - (1:Int)))*8+8≤aa*8∧Zas (Za1 b)∧∃(n':Nat),n' < a6∧I [slice a n c,int i64 a4,int i64 (IntKind.wrap
 i64 (a5+(1:Int))),int i64 (IntKind.wrap i64 (a2+(1:Int)))] [] [slice ad aa ac] (Mem.upd ab az (o+Int.toNat (IntKind.wrap i64 ((↑n:Int) - (1:Int)))*8) [int u8 af,int u64 ah,int u64 ai,int u64 aj,int
 u64 ak,int i64 al,int i64 am,slice ap an a3]) n') (∃(a0:Bool),br (decide (Int.tmod (RowKit.intOf v) (12:Int) > (9:Int))) (br (decide ((↑n:Int) > (0:Int))) (∃(az:Nat),∃(o:Nat),a=some (Addr.mk az
 o none)∧Zaf (IntKind.wrap i64 ((↑n:Int) - (1:Int))) n∧∃(ao:Value),m' az (o+Int.toNat (IntKind.wrap i64 ((↑n:Int) - (1:Int)))*8+0)=some ao∧chk (Zbn u8 ao&&decide (u8=u8)) (Zas
 (ZaK b v ae ag a1)∧[some (Tok.mk (slice ad aa ac) 8)]=[some (Tok.mk (slice ad aa ac) 8)]∧[Value.bool !RowKit.intOf ao == (1:Int)]=[Value.bool a0])) (Zas (ZaK b v ae ag a1)∧[some
 (Tok.mk (slice ad aa ac) 8)]=[some (Tok.mk (slice ad aa ac) 8)]∧[Value.bool false]=[Value.bool a0])) (Zas (ZaK b v ae ag a1)∧[some (Tok.mk (slice ad aa ac) 8)]=[some (Tok.mk (slice ad aa ac) 8)]∧
 [Value.bool false]=[Value.bool a0])∧br a0 (chk (Zbn u8 ae&&decide (u8=u8)) ((3:Int)≠(0:Int)∧chk (Zbn u8 ag&&decide (u8=u8)) ((4:Int)≠(0:Int)∧∃(az:Bool),br (decide (IntKind.wrap i64
 (Int.tmod (RowKit.intOf ag) (4:Int)) < IntKind.wrap i64 (Int.tmod (RowKit.intOf ae) (3:Int)))) (Zas (ZaK b v ae ag a1)∧[some (Tok.mk (slice ad aa ac) 8)]=[some (Tok.mk (slice ad aa ac) 8)]∧
 [Value.bool true]=[Value.bool az]) (br (IntKind.wrap i64 (Int.tmod (RowKit.intOf ag) (4:Int)) == (0:Int)) (Zas (ZaK b v ae ag a1)∧[some (Tok.mk (slice ad aa ac) 8)]=[some (Tok.mk (slice ad aa ac)
 8)]∧[Value.bool true]=[Value.bool az]) (br (IntKind.wrap i64 (Int.tmod (RowKit.intOf ae) (3:Int)) == (1:Int)) (Zas (ZaK b v ae ag a1)∧[some (Tok.mk (slice ad aa ac) 8)]=[some (Tok.mk (slice ad
 aa ac) 8)]∧[Value.bool (IntKind.wrap i64 (Int.tmod (RowKit.intOf ag) (4:Int)) == (1:Int))]=[Value.bool az]) (Zas (ZaK b v ae ag a1)∧[some (Tok.mk (slice ad aa ac) 8)]=[some (Tok.mk (slice ad aa
 ac) 8)]∧[Value.bool false]=[Value.bool az])))∧br az (br (decide (IntKind.wrap i64 (a4*if(1:Int) > if(-1:Int) > IntKind.wrap i64 (Int.tmod (RowKit.intOf ae) (3:Int))then(-1:Int)else IntKind.wrap i64
 (Int.tmod (RowKit.intOf ae) (3:Int))then(1:Int)else if(-1:Int) > IntKind.wrap i64 (Int.tmod (RowKit.intOf ae) (3:Int))then(-1:Int)else IntKind.wrap i64 (Int.tmod (RowKit.intOf ae) (3:Int)))≤(16:
 Int))) (∃(bl:Nat),∃(o:Nat),a=some (Addr.mk bl o none)∧Zaf (IntKind.wrap i64 ((↑n:Int) - (1:Int))) n∧∃(v:Value),∃(ao:Value),∃(ar:Value),∃(au:Value),∃(av:Value),∃(aw:Value),∃
 (ax:Value),∃(ay:Value),Mem.reads m' bl (o+Int.toNat (IntKind.wrap i64 ((↑n:Int) - (1:Int)))*8) [v,ao,ar,au,av,aw,ax,ay]∧∃(R:RT),True∧CX Try.prog 67 (Array.mk [agg (Array.mk [v,ao,ar,au,
 av,aw,ax,ay]),int i64 (IntKind.wrap i64 (Int.tmod (RowKit.intOf ae) (3:Int))),int i64 (-1:Int)]) m' [] R∧ZaJ (shT) R∧∀(af ah ai aj ak al am:Int)(ap:Option Addr)(an a3:Nat)(ab:Mem),Mem.le m' ab
 → R (agg (Array.mk [int u8 af,int u64 ah,int u64 ai,int u64 aj,int u64 ak,int i64 al,int i64 am,slice ap an a3])) ab []→∃(bj:Nat),∃(o:Nat),a=some (Addr.mk bj o none)∧Zaf (IntKind.wrap i64 ((↑n:
 Int) - (1:Int))) n∧slice ad aa ac=slice (some (Addr.mk bj 0 none)) aa ac∧o+Int.toNat (IntKind.wrap i64 ((↑n:Int) - (1:Int)))*8+8≤aa*8∧Zas (Za1 b)∧∃(n':Nat),n' < a6∧I [slice a
 n c,int i64 (IntKind.wrap i64 (a4*if(1:Int) > if(-1:Int) > IntKind.wrap i64 (Int.tmod (RowKit.intOf ae) (3:Int))then(-1:Int)else IntKind.wrap i64 (Int.tmod (RowKit.intOf ae) (3:Int))then(1:Int)
 else if(-1:Int) > IntKind.wrap i64 (Int.tmod (RowKit.intOf ae) (3:Int))then(-1:Int)else IntKind.wrap i64 (Int.tmod (RowKit.intOf ae) (3:Int)))),int i64 a5,int i64 (IntKind.wrap i64 (a2+(1:Int)))] []
 [slice ad aa ac] (Mem.upd ab bj (o+Int.toNat (IntKind.wrap i64 ((↑n:Int) - (1:Int)))*8) [int u8 af,int u64 ah,int u64 ai,int u64 aj,int u64 ak,int i64 al,int i64 am,slice ap an a3]) n') (Zas
 (Za1 b)∧∃(n':Nat),n' < a6∧I [slice a n c,int i64 a4,int i64 a5,int i64 (IntKind.wrap i64 (a2+(1:Int)))] [] [slice ad aa ac] m' n')) (br (decide (IntKind.wrap i64 (a4*if(1:Int) > if
 IntKind.wrap i64 (Int.tmod (RowKit.intOf ag) (4:Int)) > IntKind.wrap i64 (Int.tmod (RowKit.intOf ae) (3:Int))then IntKind.wrap i64 (Int.tmod (RowKit.intOf ag) (4:Int))else IntKind.wrap i64 (Int.tmod
 (RowKit.intOf ae) (3:Int))then(1:Int)else if IntKind.wrap i64 (Int.tmod (RowKit.intOf ag) (4:Int)) > IntKind.wrap i64 (Int.tmod (RowKit.intOf ae) (3:Int))then IntKind.wrap i64 (Int.tmod (RowKit.intOf ag) (4
 : Int))else IntKind.wrap i64 (Int.tmod (RowKit.intOf ae) (3:Int)))≤(16:Int))) (∃(bl:Nat),∃(o:Nat),a=some (Addr.mk bl o none)∧Zaf (IntKind.wrap i64 ((↑n:Int) - (1:Int))) n∧∃(v:Value),∃
 (ao:Value),∃(ar:Value),∃(au:Value),∃(av:Value),∃(aw:Value),∃(ax:Value),∃(ay:Value),Mem.reads m' bl (o+Int.toNat (IntKind.wrap i64 ((↑n:Int) - (1:Int)))*8) [v,ao,ar,au,av,aw,ax,
 ay]∧∃(R:RT),True∧CX Try.prog 67 (Array.mk [agg (Array.mk [v,ao,ar,au,av,aw,ax,ay]),int i64 (IntKind.wrap i64 (Int.tmod (RowKit.intOf ae) (3:Int))),int i64 (IntKind.wrap i64 (Int.tmod (RowKit.intOf ag)
 (4:Int)))]) m' [] R∧ZaJ (shT) R∧∀(af ah ai aj ak al am:Int)(ap:Option Addr)(an a3:Nat)(ab:Mem),Mem.le m' ab→R (agg (Array.mk [int u8 af,int u64 ah,int u64 ai,int u64 aj,int u64 ak,int i64 al,
 int i64 am,slice ap an a3])) ab []→∃(bj:Nat),∃(o:Nat),a=some (Addr.mk bj o none)∧Zaf (IntKind.wrap i64 ((↑n:Int) - (1:Int))) n∧slice ad aa ac=slice (some (Addr.mk bj 0 none)) aa ac∧o +
 Int.toNat (IntKind.wrap i64 ((↑n:Int) - (1:Int)))*8+8≤aa*8∧Zas (Za1 b)∧∃(n':Nat),n' < a6∧I [slice a n c,int i64 (IntKind.wrap i64 (a4*if(1:Int) > if IntKind.wrap i64 (Int.tmod
 (RowKit.intOf ag) (4:Int)) > IntKind.wrap i64 (Int.tmod (RowKit.intOf ae) (3:Int))then IntKind.wrap i64 (Int.tmod (RowKit.intOf ag) (4:Int))else IntKind.wrap i64 (Int.tmod (RowKit.intOf ae) (3:Int))then(1:
 Int)else if IntKind.wrap i64 (Int.tmod (RowKit.intOf ag) (4:Int)) > IntKind.wrap i64 (Int.tmod (RowKit.intOf ae) (3:Int))then IntKind.wrap i64 (Int.tmod (RowKit.intOf ag) (4:Int))else IntKind.wrap i64 (Int.tmod
 (RowKit.intOf ae) (3:Int)))),int i64 a5,int i64 (IntKind.wrap i64 (a2+(1:Int)))] [] [slice ad aa ac] (Mem.upd ab bj (o+Int.toNat (IntKind.wrap i64 ((↑n:Int) - (1:Int)))*8) [int u8 af,int u64 ah,int u64
 ai,int u64 aj,int u64 ak,int i64 al,int i64 am,slice ap an a3]) n') (Zas (Za1 b)∧∃(n':Nat),n' < a6∧I [slice a n c,int i64 a4,int i64 a5,int i64 (IntKind.wrap i64 (a2+(1:Int)))] [] [slice
 ad aa ac] m' n'))))) (Zas (Za1 b)∧∃(n':Nat),n' < a6∧I [slice a n c,int i64 a4,int i64 a5,int i64 (IntKind.wrap i64 (a2+(1:Int)))] [] [slice ad aa ac] m' n'))))))))) (br ((↑n:Int) == (0:
 Int)) (∃(R_1:RT),True∧CX Try.prog 63 (Array.mk [Value.string (ByteArray.mk (Array.mk [(97:UInt8)]))]) m' [] R_1∧ZaJ (shT) R_1∧∀(n af ah ai aj ak al:Int)(a:Option Addr)(am c:Nat)(ab:Mem),Mem.le
 m' ab→R_1 (agg (Array.mk [int u8 n,int u64 af,int u64 ah,int u64 ai,int u64 aj,int i64 ak,int i64 al,slice a am c])) ab []→∃(m'':Mem),Mem.le m m''∧Mem.le m'' ab∧R (agg (Array.mk [int u8 n,int u64 af,
 int u64 ah,int u64 ai,int u64 aj,int i64 ak,int i64 al,slice a am c])) m'' []) (∃(be:Nat),∃(o:Nat),a=some (Addr.mk be o none)∧Zaf (0:Int) n∧∃(v:Value),∃(ae:Value),∃(ag:Value),∃(ao:
 Value),∃(ar:Value),∃(au:Value),∃(av:Value),∃(aw:Value),Mem.reads m' be (o+0) [v,ae,ag,ao,ar,au,av,aw]∧∀(a1:Nat),chk (Value.oneCell' v&&(Value.oneCell' ae&&(Value.oneCell' ag &&
 (Value.oneCell' ao&&(Value.oneCell' ar&&(Value.oneCell' au&&(Value.oneCell' av&&(Value.oneCell' aw&&true)))))))) (((0:Int)≤(1:Int)∧(1:Int)≤(↑n:Int))∧∃(I:IT),(∃(n:Nat),I [int i64 0] [[v,
 ae,ag,ao,ar,au,av,aw]] [] m' n)∧∀(af:Int)(cs:List Value)(m':Mem)(ah:Nat),True→I [int i64 af] [cs] [] m' ah→br (decide (af < (↑(n - Int.toNat (1:Int)):Int))) (∃(aq:Nat),∃(o:Nat),
 ZbS a (Int.toNat (1:Int)) c 8=some (Addr.mk aq o none)∧Zaf af (n - Int.toNat (1:Int))∧∃(v:Value),∃(ax:Value),∃(ay:Value),∃(a8:Value),∃(a9:Value),∃(ba:Value),∃(bb:Value),∃(bc
 : Value),Mem.reads m' aq (o+Int.toNat af*8) [v,ax,ay,a8,a9,ba,bb,bc]∧∀(bf:Nat),chk (Value.oneCell' v&&(Value.oneCell' ax&&(Value.oneCell' ay&&(Value.oneCell' a8&&(Value.oneCell' a9 &&
 (Value.oneCell' ba&&(Value.oneCell' bb&&(Value.oneCell' bc&&true)))))))) (∃(R:RT),True∧CX Try.prog 65 (Array.mk [int u8 4,agg (Array.mk cs),agg (Array.mk [v,ax,ay,a8,a9,ba,bb,bc])]) m' [] R∧ZaJ
 (shT) R∧∀(n ai aj ak al am an:Int)(a:Option Addr)(bm c:Nat)(ab:Mem),Mem.le m' ab→R (agg (Array.mk [int u8 n,int u64 ai,int u64 aj,int u64 ak,int u64 al,int i64 am,int i64 an,slice a bm c])) ab []
 → Zas (Zkp b a1)∧[some (Tok.mk (slice ad aa ac) 8)]=[some (Tok.mk (slice ad aa ac) 8)]∧∃(n':Nat),n' < ah∧I [int i64 (IntKind.wrap i64 (af+(1:Int)))] [[int u8 n,int u64 ai,int u64 aj,int
 u64 ak,int u64 al,int i64 am,int i64 an,slice a bm c]] [] ab n')) (chk (Nat.beq (List.length cs) 8&&Zc8 cs) (∃(m'':Mem),Mem.le m m''∧Mem.le m'' m'∧R (agg (Array.mk cs)) m'' [])))))
theorem Zkq(p0a:Option Addr)(p0n p0c:Nat)(m:Mem)(R:RT)(h:ZgM p0a p0n p0c m R):CX Try.prog 15 #[.slice p0a p0n p0c] m [] R:=
 Zal (E:=Zl0) ZaC mix Try.func15 [.v (.slice p0a p0n p0c)] [] (by kernel_rfl) (Eq.mp (by kernel_rfl) h)
end Go.Proofs.Ytplacemlpkhmfaa

