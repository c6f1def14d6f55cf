/- Part of the proof: conditions and contracts of functions of this program. No condition of its own. -/
import Derived.Test.YtgclajkldphoaaaGreatPEnv
set_option linter.unusedVariables false
set_option linter.unusedSimpArgs false
set_option linter.unusedSectionVars false
namespace Go.Proofs.YtgclajkldphoaaaGreat
open Go Go.Eng Go.Proofs Go.RowKit
open Go.Value (int slice agg bool string tuple func)
open Go.IntKind (u8 u64 i64)
set_option maxRecDepth 100000
noncomputable def Znd:Env:={ EB with
 loops:=(λi=>bif Nat.beq i 4 then⟨[(3,.slice),(4,.int .i64),(5,.int .i64),(22,.int .i64)],[],[(40,8)],false⟩ else bif Nat.beq i 32 then⟨[(195,.int .i64)],[13],[],false⟩ else⟨[],[],[],false⟩)
 joins:=(λi=>bif Nat.beq i 12 then some [(48,.bool)]else bif Nat.beq i 14 then some [(74,.bool)]else bif Nat.beq i 16 then some [(100,.bool)]else bif Nat.beq i 19 then some [(123,.bool)]else bif Nat.beq i 21 then some [(161,.bool)]else none)
 dr:=(λi=>bif Nat.beq i 13 then[⟨0,[],[],none,[],[]⟩,⟨1,[],[],none,[],[]⟩,⟨2,[],[],none,[1],[]⟩,⟨3,[],[],none,[],[]⟩,⟨4,[],[],none,[3],[]⟩,⟨5,[],[],none,[0,1,2,3,4],[]⟩,⟨6,[],[],none,[],[]⟩,⟨7,[],[],none,[],[]⟩,⟨8,[],[],none,[7],[]⟩,⟨9,[],[],none,[6,7,8],[]⟩,⟨10,[],[],none,[6,7,8,9],[]⟩,⟨11,[],[],none,[],[]⟩,⟨12,[],[],none,[],[]⟩,⟨13,[],[],none,[12],[]⟩,⟨14,[],[],none,[11,12,13],[]⟩,⟨15,[],[],none,[11,12,13,14],[]⟩,⟨16,[],[],none,[6,7,8,9,10,11,12,13,14,15],[]⟩,⟨17,[72],[72],none,[6,7,8,9,10,11,12,13,14,15,16],[16]⟩,⟨18,[72],[],some 40,rg 0 18,[17]⟩,⟨19,[],[],none,rg 0 19,[]⟩]else bif Nat.beq i 15 then[⟨0,[],[],none,[],[]⟩,⟨1,[],[],none,[],[]⟩,⟨2,[],[],none,[1],[]⟩,⟨3,[],[],none,[],[]⟩,⟨4,[],[],none,[3],[]⟩,⟨5,[],[],none,[0,1,2,3,4],[]⟩,⟨6,[],[],none,[],[]⟩,⟨7,[],[],none,[],[]⟩,⟨8,[],[],none,[7],[]⟩,⟨9,[],[],none,[6,7,8],[]⟩,⟨10,[],[],none,[6,7,8,9],[]⟩,⟨11,[],[],none,[],[]⟩,⟨12,[],[],none,[],[]⟩,⟨13,[],[],none,[12],[]⟩,⟨14,[],[],none,[11,12,13],[]⟩,⟨15,[],[],none,[11,12,13,14],[]⟩,⟨16,[],[],none,[6,7,8,9,10,11,12,13,14,15],[]⟩,⟨17,[98],[98],none,[6,7,8,9,10,11,12,13,14,15,16],[16]⟩,⟨18,[98],[],some 40,rg 0 18,[17]⟩,⟨19,[],[],none,rg 0 19,[]⟩]else bif Nat.beq i 20 then[⟨0,[7],[],none,[],[]⟩,⟨1,[7],[],none,[0],[]⟩,⟨2,[],[],none,[0,1],[]⟩,⟨3,[],[],none,[0,1,2],[]⟩,⟨4,[7],[],none,[],[]⟩,⟨5,[7],[],none,[4],[]⟩,⟨6,[],[],none,[4,5],[]⟩,⟨7,[],[],none,[4,5,6],[]⟩,⟨8,[],[],none,[0,1,2,3],[]⟩,⟨9,[],[],none,[0,1,2,3,4,5,6,7,8],[]⟩]else[])
 tokOf:=(λi=>bif Nat.beq i 40 then 40 else bif Nat.beq i 47 then 40 else bif Nat.beq i 73 then 40 else bif Nat.beq i 99 then 40 else 0)
 thaw:=true
 stAt:=(λi=>bif Nat.beq i 120 then some 40 else bif Nat.beq i 183 then some 40 else none) }
abbrev Zfk:Nat->Option Box:=λ(b:Nat)=>some (Box.mk b [int u8 0,int u64 0,int u64 0,int u64 0,int u64 0,int i64 0,int i64 0,slice none 0 0] 30 8 false true)
abbrev Za7:Nat->List (Option Box):=λ(b:Nat)=>[Zfk b]
abbrev ZaF:Nat->Value->Value->Value->Nat->List (Option Box):=λ(b:Nat)(v ae ag:Value)(be:Nat)=>[some (Box.mk be [v,ae,ag] 66 3 false true),Zfk b]
abbrev Zli:Nat->Nat->List (Option Box):=λ(b be:Nat)=>[some (Box.mk be [] 30 8 false true),Zfk b]
def Zhz(p0a:Option Addr)(p0n p0c:Nat)(m:Mem)(R:RT):Prop:=
 ∀(b:Nat),(((0:Int)<=if(25:Int) < (↑p0n:Int)then(25:Int)else(↑p0n:Int))/\(if(25:Int) < (↑p0n:Int)then(25:Int)else(↑p0n:Int))<=(↑p0c:Int))/\∃(I:IT),(∃(n:Nat),I [slice none 0
 0,int i64 1,int i64 0,int i64 0] [] [slice none 0 0] m n)/\∀(a:Option Addr)(n c:Nat)(a4 a5 a2:Int)(ad:Option Addr)(aa ac:Nat)(m':Mem)(a6:Nat),True->I [slice a n c,int i64 a4,int i64 a5,int
 i64 a2] [] [slice ad aa ac] m' a6->br (decide (a2 < (↑(Int.toNat (if(25:Int) < (↑p0n:Int)then(25:Int)else(↑p0n:Int)) - 0):Int))) (∃(be:Nat),∃(o:Nat),Za0 p0a 0 p0c 3=some (Addr.mk be o none)
 /\ Zag a2 (Int.toNat (if(25:Int) < (↑p0n:Int)then(25:Int)else(↑p0n:Int)) - 0)/\∃(v:Value),∃(ae:Value),∃(ag:Value),Mem.reads m' be (o+Int.toNat a2*3) [v,ae,ag]/\∀(a1:Nat),chk
 (Value.oneCell' v&&(Value.oneCell' ae&&(Value.oneCell' ag&&true))) (chk (ZaS u8 v&&decide (u8=u8)) ((12:Int)≠(0:Int)/\br (decide (Int.tmod (RowKit.intOf v) (12:Int) < (4:Int))) (∃(R:RT),True/\
 CX Tryz.prog 28 (Array.mk [ae]) m' [] R/\Zaz Shape.str R/\∀(s:ByteArray)(ab:Mem),Mem.le m' ab->R (string s) ab []->∃(R:RT),True/\CX Tryz.prog 27 (Array.mk [string s]) ab [] R/\Zaz (shT) R/\∀(af ah
 ai aj ak al am:Int) (bk:Option Addr) (an a3:Nat) (m':Mem),Mem.le ab m'->R (agg (Array.mk [int u8 af,int u64 ah,int u64 ai,int u64 aj,int u64 ak,int i64 al,int i64 am,slice bk an a3])) m' []->∀(aq:
 Nat),Mem.free m' aq->(Tok.mk (slice ad aa ac) 8=Tok.mk (slice a n c) 8\/slice a n c=slice none 0 0\/c < n+1)/\∃(xs:List Value),∃(ys:List Value),List.length xs=n*8/\List.length ys=1*8/\rowRd
 (Mem.add m' aq [int u8 af,int u64 ah,int u64 ai,int u64 aj,int u64 ak,int i64 al,int i64 am,slice bk an a3]) a xs/\rowRd (Mem.add m' aq [int u8 af,int u64 ah,int u64 ai,int u64 aj,int u64 ak,int i64 al,int
 i64 am,slice bk an a3]) (some (Addr.mk aq 0 none)) ys/\(∀(u:Value),u∈ys->Value.oneCell' u=true)/\(n+1)*80<=140737488355328/\n+1<=9223372036854775807/\∀(a':Option Addr)(c':Nat)(a7:Mem),
 Mem.le (Mem.add m' aq [int u8 af,int u64 ah,int u64 ai,int u64 aj,int u64 ak,int i64 al,int i64 am,slice bk an a3]) a7->rowRd a7 a' (List.append xs ys)->TokFact (Mem.add m' aq [int u8 af,int u64 ah,int u64
 ai,int u64 aj,int u64 ak,int i64 al,int i64 am,slice bk an a3]) a a' (n+1) c'->ZaG (Za7 b)/\∃(n':Nat),n' < a6/\I [slice a' (n+1) c',int i64 a4,int i64 a5,int i64 (IntKind.wrap i64 (a2 +
 (1:Int)))] [] [slice a' (n+1) c'] a7 n') (br (Int.tmod (RowKit.intOf v) (12:Int) == (4:Int)) (∀(aq:Nat),Mem.free m' aq->(Tok.mk (slice ad aa ac) 8=Tok.mk (slice a n c) 8\/slice a n c=slice none 0 0\/c
 < n+1)/\∃(xs:List Value),∃(ys:List Value),List.length xs=n*8/\List.length ys=1*8/\rowRd (Mem.add m' aq [int u8 1,int u64 0,int u64 0,int u64 0,int u64 0,int i64 0,int i64 0,slice none 0 0]) a
 xs/\rowRd (Mem.add m' aq [int u8 1,int u64 0,int u64 0,int u64 0,int u64 0,int i64 0,int i64 0,slice none 0 0]) (some (Addr.mk aq 0 none)) ys/\(∀(u:Value),u∈ys->Value.oneCell' u=true)/\(n+1)*80 <=
 140737488355328/\n+1<=9223372036854775807/\∀(a':Option Addr)(c':Nat)(ab:Mem),Mem.le (Mem.add m' aq [int u8 1,int u64 0,int u64 0,int u64 0,int u64 0,int i64 0,int i64 0,slice none 0 0]) ab->rowRd
 ab a' (List.append xs ys)->TokFact (Mem.add m' aq [int u8 1,int u64 0,int u64 0,int u64 0,int u64 0,int i64 0,int i64 0,slice none 0 0]) a a' (n+1) c'->ZaG (Za7 b)/\∃(n':Nat),n' < a6/\I
 [slice a' (n+1) c',int i64 a4,int i64 a5,int i64 (IntKind.wrap i64 (a2+(1:Int)))] [] [slice a' (n+1) c'] ab n') (∃(aq:Bool),br (decide (Int.tmod (RowKit.intOf v) (12:Int) < (7:Int))) (ZaG
 (ZaF b v ae ag a1)/\[some (Tok.mk (slice ad aa ac) 8)]=[some (Tok.mk (slice ad aa ac) 8)]/\[bool (decide ((↑n:Int) > (1:Int)))]=[bool aq]) (ZaG (ZaF b v ae ag a1)/\[some (Tok.mk (slice
 ad aa ac) 8)]=[some (Tok.mk (slice ad aa ac) 8)]/\[bool false]=[bool aq])/\br aq (∃(f:Fx),((0:Int)<=IntKind.wrap i64 ((↑n:Int) - (2:Int))/\IntKind.wrap i64 ((↑n:Int) - (2:Int))<=(↑c:Int))/\((0
 : Int)<=IntKind.wrap i64 ((↑n:Int) - (2:Int))/\IntKind.wrap i64 ((↑n:Int) - (2:Int))<=(↑(Int.toNat (IntKind.wrap i64 ((↑n:Int) - (2:Int)))):Int))/\∃(bf:Nat),∃(o:Nat),a=some (Addr.mk bf o
 none)/\Zag (IntKind.wrap i64 ((↑n:Int) - (2:Int))) n/\∃(v:Value),∃(ao:Value),∃(ar:Value),∃(au:Value),∃(av:Value),∃(aw:Value),∃(ax:Value),∃(ay:Value),Mem.reads m' bf (o +
 Int.toNat (IntKind.wrap i64 ((↑n:Int) - (2:Int)))*8) [v,ao,ar,au,av,aw,ax,ay]/\∃(bd:Nat),∃(o:Nat),a=some (Addr.mk bd o none)/\Zag (IntKind.wrap i64 ((↑n:Int) - (1:Int))) n/\∃(a8:
 Value),∃(a9:Value),∃(ba:Value),∃(bb:Value),∃(bc:Value),∃(bg:Value),∃(bh:Value),∃(bi:Value),Mem.reads m' bd (o+Int.toNat (IntKind.wrap i64 ((↑n:Int) - (1:Int)))*8) [a8,a9,ba,bb,
 bc,bg,bh,bi]/\∃(R:RT),R=f 16 [int u8 3,agg (Array.mk [v,ao,ar,au,av,aw,ax,ay]),agg (Array.mk [a8,a9,ba,bb,bc,bg,bh,bi])] m'/\CX Tryz.prog 29 (Array.mk [int u8 3,agg (Array.mk [v,ao,ar,au,
 av,aw,ax,ay]),agg (Array.mk [a8,a9,ba,bb,bc,bg,bh,bi])]) m' [] R/\Zaz (shT) R/\∀(af ah ai aj ak al am:Int)(ap:Option Addr)(an c:Nat)(ab:Mem),Mem.le m' ab->R (agg (Array.mk [int u8 af,int u64
 ah,int u64 ai,int u64 aj,int u64 ak,int i64 al,int i64 am,slice ap an c])) ab []->∀(a0:Nat),Mem.free ab a0->(Tok.mk (slice ad aa ac) 8=Tok.mk (slice (Za0 a 0 (Int.toNat (IntKind.wrap i64 ((↑n:Int) -
 (2:Int)))) 8) (Int.toNat (IntKind.wrap i64 ((↑n:Int) - (2:Int))) - 0) (Int.toNat (IntKind.wrap i64 ((↑n:Int) - (2:Int))) - 0)) 8\/slice (Za0 a 0 (Int.toNat (IntKind.wrap i64 ((↑n:Int) - (2:Int)))) 8)
 (Int.toNat (IntKind.wrap i64 ((↑n:Int) - (2:Int))) - 0) (Int.toNat (IntKind.wrap i64 ((↑n:Int) - (2:Int))) - 0)=slice none 0 0\/Int.toNat (IntKind.wrap i64 ((↑n:Int) - (2:Int))) - 0 < Int.toNat
 (IntKind.wrap i64 ((↑n:Int) - (2:Int))) - 0+1)/\∃(xs:List Value),∃(ys:List Value),List.length xs=(Int.toNat (IntKind.wrap i64 ((↑n:Int) - (2:Int))) - 0)*8/\List.length ys=1*8/\rowRd (Mem.add
 ab a0 [int u8 af,int u64 ah,int u64 ai,int u64 aj,int u64 ak,int i64 al,int i64 am,slice ap an c]) (Za0 a 0 (Int.toNat (IntKind.wrap i64 ((↑n:Int) - (2:Int)))) 8) xs/\rowRd (Mem.add ab a0 [int u8 af,int
 u64 ah,int u64 ai,int u64 aj,int u64 ak,int i64 al,int i64 am,slice ap an c]) (some (Addr.mk a0 0 none)) ys/\(∀(u:Value),u∈ys->Value.oneCell' u=true)/\(Int.toNat (IntKind.wrap i64 ((↑n:Int) - (2:
 Int))) - 0+1)*80<=140737488355328/\Int.toNat (IntKind.wrap i64 ((↑n:Int) - (2:Int))) - 0+1<=9223372036854775807/\∀(a':Option Addr)(c':Nat)(a7:Mem),Mem.le (Mem.add ab a0 [int u8 af,int u64 ah,
 int u64 ai,int u64 aj,int u64 ak,int i64 al,int i64 am,slice ap an c]) a7->rowRd a7 a' (List.append xs ys)->TokFact (Mem.add ab a0 [int u8 af,int u64 ah,int u64 ai,int u64 aj,int u64 ak,int i64 al,int i64
 am,slice ap an c]) (Za0 a 0 (Int.toNat (IntKind.wrap i64 ((↑n:Int) - (2:Int)))) 8) a' (Int.toNat (IntKind.wrap i64 ((↑n:Int) - (2:Int))) - 0+1) c'->∀(M:Mem),Mem.le m' M->Mem.le ab M->Mem.le (Mem.add
 ab a0 [int u8 af,int u64 ah,int u64 ai,int u64 aj,int u64 ak,int i64 al,int i64 am,slice ap an c]) M->Mem.le a7 M->ZaG (Za7 b)/\∃(n':Nat),n' < a6/\I [slice a' (Int.toNat (IntKind.wrap i64
 ((↑n:Int) - (2:Int))) - 0+1) c',int i64 a4,int i64 a5,int i64 (IntKind.wrap i64 (a2+(1:Int)))] [] [slice a' (Int.toNat (IntKind.wrap i64 ((↑n:Int) - (2:Int))) - 0+1) c'] M n') (∃(bf:Bool),br
 (decide (Int.tmod (RowKit.intOf v) (12:Int) < (9:Int))) (ZaG (ZaF b v ae ag a1)/\[some (Tok.mk (slice ad aa ac) 8)]=[some (Tok.mk (slice ad aa ac) 8)]/\[bool (decide ((↑n:Int) > (1:Int)))] =
 [bool bf]) (ZaG (ZaF b v ae ag a1)/\[some (Tok.mk (slice ad aa ac) 8)]=[some (Tok.mk (slice ad aa ac) 8)]/\[bool false]=[bool bf])/\br bf (∃(f:Fx),((0:Int)<=IntKind.wrap i64 ((↑n:Int) - (2:
 Int))/\IntKind.wrap i64 ((↑n:Int) - (2:Int))<=(↑c:Int))/\((0:Int)<=IntKind.wrap i64 ((↑n:Int) - (2:Int))/\IntKind.wrap i64 ((↑n:Int) - (2:Int))<=(↑(Int.toNat (IntKind.wrap i64 ((↑n:Int) - (2:
 Int)))):Int))/\∃(bd:Nat),∃(o:Nat),a=some (Addr.mk bd o none)/\Zag (IntKind.wrap i64 ((↑n:Int) - (2:Int))) n/\∃(v:Value),∃(ao:Value),∃(ar:Value),∃(au:Value),∃(av:Value),∃(aw:
 Value),∃(ax:Value),∃(ay:Value),Mem.reads m' bd (o+Int.toNat (IntKind.wrap i64 ((↑n:Int) - (2:Int)))*8) [v,ao,ar,au,av,aw,ax,ay]/\∃(a0:Nat),∃(o:Nat),a=some (Addr.mk a0 o none)/\Zag
 (IntKind.wrap i64 ((↑n:Int) - (1:Int))) n/\∃(a8:Value),∃(a9:Value),∃(ba:Value),∃(bb:Value),∃(bc:Value),∃(bg:Value),∃(bh:Value),∃(bi:Value),Mem.reads m' a0 (o+Int.toNat
 (IntKind.wrap i64 ((↑n:Int) - (1:Int)))*8) [a8,a9,ba,bb,bc,bg,bh,bi]/\∃(R:RT),R=f 16 [int u8 4,agg (Array.mk [v,ao,ar,au,av,aw,ax,ay]),agg (Array.mk [a8,a9,ba,bb,bc,bg,bh,bi])] m'/\
 CX Tryz.prog 29 (Array.mk [int u8 4,agg (Array.mk [v,ao,ar,au,av,aw,ax,ay]),agg (Array.mk [a8,a9,ba,bb,bc,bg,bh,bi])]) m' [] R/\Zaz (shT) R/\∀(af ah ai aj ak al am:Int)(ap:Option Addr) (an c:
 Nat) (ab:Mem),Mem.le m' ab->R (agg (Array.mk [int u8 af,int u64 ah,int u64 ai,int u64 aj,int u64 ak,int i64 al,int i64 am,slice ap an c])) ab []->∀(az:Nat),Mem.free ab az->(Tok.mk (slice ad aa ac) 8 =
 Tok.mk (slice (Za0 a 0 (Int.toNat (IntKind.wrap i64 ((↑n:Int) - (2:Int)))) 8) (Int.toNat (IntKind.wrap i64 ((↑n:Int) - (2:Int))) - 0) (Int.toNat (IntKind.wrap i64 ((↑n:Int) - (2:Int))) - 0)) 8\/slice
 (Za0 a 0 (Int.toNat (IntKind.wrap i64 ((↑n:Int) - (2:Int)))) 8) (Int.toNat (IntKind.wrap i64 ((↑n:Int) - (2:Int))) - 0) (Int.toNat (IntKind.wrap i64 ((↑n:Int) - (2:Int))) - 0)=slice none 0 0\/Int.toNat
 (IntKind.wrap i64 ((↑n:Int) - (2:Int))) - 0 < Int.toNat (IntKind.wrap i64 ((↑n:Int) - (2:Int))) - 0+1)/\∃(xs:List Value),∃(ys:List Value),List.length xs=(Int.toNat (IntKind.wrap i64 ((↑n:Int) - (2
 : Int))) - 0)*8/\List.length ys=1*8/\rowRd (Mem.add ab az [int u8 af,int u64 ah,int u64 ai,int u64 aj,int u64 ak,int i64 al,int i64 am,slice ap an c]) (Za0 a 0 (Int.toNat (IntKind.wrap i64 ((↑n:Int)
 - (2:Int)))) 8) xs/\rowRd (Mem.add ab az [int u8 af,int u64 ah,int u64 ai,int u64 aj,int u64 ak,int i64 al,int i64 am,slice ap an c]) (some (Addr.mk az 0 none)) ys/\(∀(u:Value),u∈ys->Value.oneCell' u =
 true)/\(Int.toNat (IntKind.wrap i64 ((↑n:Int) - (2:Int))) - 0+1)*80<=140737488355328/\Int.toNat (IntKind.wrap i64 ((↑n:Int) - (2:Int))) - 0+1<=9223372036854775807/\∀(a':Option Addr)(c':Nat) (a7
 : Mem),Mem.le (Mem.add ab az [int u8 af,int u64 ah,int u64 ai,int u64 aj,int u64 ak,int i64 al,int i64 am,slice ap an c]) a7->rowRd a7 a' (List.append xs ys)->TokFact (Mem.add ab az [int u8 af,int u64 ah,int
 u64 ai,int u64 aj,int u64 ak,int i64 al,int i64 am,slice ap an c]) (Za0 a 0 (Int.toNat (IntKind.wrap i64 ((↑n:Int) - (2:Int)))) 8) a' (Int.toNat (IntKind.wrap i64 ((↑n:Int) - (2:Int))) - 0+1) c'->∀(M
 : Mem),Mem.le m' M->Mem.le ab M->Mem.le (Mem.add ab az [int u8 af,int u64 ah,int u64 ai,int u64 aj,int u64 ak,int i64 al,int i64 am,slice ap an c]) M->Mem.le a7 M->ZaG (Za7 b)/\∃(n':Nat),n'
 < a6/\I [slice a' (Int.toNat (IntKind.wrap i64 ((↑n:Int) - (2:Int))) - 0+1) c',int i64 a4,int i64 a5,int i64 (IntKind.wrap i64 (a2+(1:Int)))] [] [slice a' (Int.toNat (IntKind.wrap i64 ((↑n:Int) - (2:
 Int))) - 0+1) c'] M n') (∃(bd:Bool),br (Int.tmod (RowKit.intOf v) (12:Int) == (9:Int)) (br (decide ((↑n:Int) > (0:Int))) (ZaG (ZaF b v ae ag a1)/\[some (Tok.mk (slice ad aa ac) 8)]=[some
 (Tok.mk (slice ad aa ac) 8)]/\[bool (decide (a5 < (9:Int)))]=[bool bd]) (ZaG (ZaF b v ae ag a1)/\[some (Tok.mk (slice ad aa ac) 8)]=[some (Tok.mk (slice ad aa ac) 8)]/\[bool false]=[bool bd]))
 (ZaG (ZaF b v ae ag a1)/\[some (Tok.mk (slice ad aa ac) 8)]=[some (Tok.mk (slice ad aa ac) 8)]/\[bool false]=[bool bd])/\br bd (∃(a0:Nat),∃(o:Nat),a=some (Addr.mk a0 o none)/\Zag
 (IntKind.wrap i64 ((↑n:Int) - (1:Int))) n/\∃(v:Value),∃(ao:Value),∃(ar:Value),∃(au:Value),∃(av:Value),∃(aw:Value),∃(ax:Value),∃(ay:Value),Mem.reads m' a0 (o+Int.toNat (IntKind.wrap
 i64 ((↑n:Int) - (1:Int)))*8) [v,ao,ar,au,av,aw,ax,ay]/\∃(R:RT),True/\CX Tryz.prog 30 (Array.mk [agg (Array.mk [v,ao,ar,au,av,aw,ax,ay])]) m' [] R/\Zaz (shT) R/\∀(af ah ai aj ak al am:Int)
 (ap:Option Addr) (an a3:Nat) (ab:Mem),Mem.le m' ab->R (agg (Array.mk [int u8 af,int u64 ah,int u64 ai,int u64 aj,int u64 ak,int i64 al,int i64 am,slice ap an a3])) ab []->∃(az:Nat),∃(o:Nat),a =
 some (Addr.mk az o none)/\Zag (IntKind.wrap i64 ((↑n:Int) - (1:Int))) n/\slice ad aa ac=slice (some (Addr.mk az 0 none)) aa ac/\o+Int.toNat (IntKind.wrap i64 ((↑n:Int) - (1:Int)))*8+8<=aa*8/\
 ZaG (Za7 b)/\∃(n':Nat),n' < a6/\I [slice a n c,int i64 a4,int i64 (IntKind.wrap i64 (a5+(1:Int))),int i64 (IntKind.wrap i64 (a2+(1:Int)))] [] [slice ad aa ac] (Mem.upd ab az (o+Int.toNat
 (IntKind.wrap i64 ((↑n:Int) - (1:Int)))*8) [int u8 af,int u64 ah,int u64 ai,int u64 aj,int u64 ak,int i64 al,int i64 am,slice ap an a3]) n') (∃(a0:Bool),br (decide (Int.tmod (RowKit.intOf v) (12:Int)
 > (9:Int))) (br (decide ((↑n:Int) > (0:Int))) (∃(az:Nat),∃(o:Nat),a=some (Addr.mk az o none)/\Zag (IntKind.wrap i64 ((↑n:Int) - (1:Int))) n/\∃(ao:Value),m' az (o+Int.toNat (IntKind.wrap
 i64 ((↑n:Int) - (1:Int)))*8+0)=some ao/\chk (ZaS u8 ao&&decide (u8=u8)) (ZaG (ZaF b v ae ag a1)/\[some (Tok.mk (slice ad aa ac) 8)]=[some (Tok.mk (slice ad aa ac) 8)]/\[bool
 !RowKit.intOf ao == (1:Int)]=[bool a0])) (ZaG (ZaF b v ae ag a1)/\[some (Tok.mk (slice ad aa ac) 8)]=[some (Tok.mk (slice ad aa ac) 8)]/\[bool false]=[bool a0])) (ZaG (ZaF b v ae ag
 a1)/\[some (Tok.mk (slice ad aa ac) 8)]=[some (Tok.mk (slice ad aa ac) 8)]/\[bool false]=[bool a0])/\br a0 (chk (ZaS u8 ae&&decide (u8=u8)) ((3:Int)≠(0:Int)/\chk (ZaS u8 ag&&decide (u8=u8)) ((4
 : Int)≠(0:Int)/\∃(az:Bool),br (decide (IntKind.wrap i64 (Int.tmod (RowKit.intOf ag) (4:Int)) < IntKind.wrap i64 (Int.tmod (RowKit.intOf ae) (3:Int)))) (ZaG (ZaF b v ae ag a1)/\[some (Tok.mk
 (slice ad aa ac) 8)]=[some (Tok.mk (slice ad aa ac) 8)]/\[bool true]=[bool az]) (br (IntKind.wrap i64 (Int.tmod (RowKit.intOf ag) (4:Int)) == (0:Int)) (ZaG (ZaF b v ae ag a1)/\[some (Tok.mk (slice
 ad aa ac) 8)]=[some (Tok.mk (slice ad aa ac) 8)]/\[bool true]=[bool az]) (br (IntKind.wrap i64 (Int.tmod (RowKit.intOf ae) (3:Int)) == (1:Int)) (ZaG (ZaF b v ae ag a1)/\[some (Tok.mk (slice ad aa
 ac) 8)]=[some (Tok.mk (slice ad aa ac) 8)]/\[bool (IntKind.wrap i64 (Int.tmod (RowKit.intOf ag) (4:Int)) == (1:Int))]=[bool az]) (ZaG (ZaF b v ae ag a1)/\[some (Tok.mk (slice ad aa ac) 8)]=[some
 (Tok.mk (slice ad aa ac) 8)]/\[bool false]=[bool az])))/\br az (br (decide (IntKind.wrap i64 (a4*if(1:Int) > if(-1:Int) > IntKind.wrap i64 (Int.tmod (RowKit.intOf ae) (3:Int))then(-1:Int)else
 IntKind.wrap i64 (Int.tmod (RowKit.intOf ae) (3:Int))then(1:Int)else if(-1:Int) > IntKind.wrap i64 (Int.tmod (RowKit.intOf ae) (3:Int))then(-1:Int)else IntKind.wrap i64 (Int.tmod (RowKit.intOf ae) (3:
 Int)))<=(16:Int))) (∃(bl:Nat),∃(o:Nat),a=some (Addr.mk bl o none)/\Zag (IntKind.wrap i64 ((↑n:Int) - (1:Int))) n/\∃(v:Value),∃(ao:Value),∃(ar:Value),∃(au:Value),∃(av:Value),∃
 (aw:Value),∃(ax:Value),∃(ay:Value),Mem.reads m' bl (o+Int.toNat (IntKind.wrap i64 ((↑n:Int) - (1:Int)))*8) [v,ao,ar,au,av,aw,ax,ay]/\∃(R:RT),True/\CX Tryz.prog 31 (Array.mk [agg (Array.mk
 [v,ao,ar,au,av,aw,ax,ay]),int i64 (IntKind.wrap i64 (Int.tmod (RowKit.intOf ae) (3:Int))),int i64 (-1:Int)]) m' [] R/\Zaz (shT) R/\∀(af ah ai aj ak al am:Int)(ap:Option Addr)(an a3:Nat) (ab:
 Mem),Mem.le m' ab->R (agg (Array.mk [int u8 af,int u64 ah,int u64 ai,int u64 aj,int u64 ak,int i64 al,int i64 am,slice ap an a3])) ab []->∃(bj:Nat),∃(o:Nat),a=some (Addr.mk bj o none)/\Zag
 (IntKind.wrap i64 ((↑n:Int) - (1:Int))) n/\slice ad aa ac=slice (some (Addr.mk bj 0 none)) aa ac/\o+Int.toNat (IntKind.wrap i64 ((↑n:Int) - (1:Int)))*8+8<=aa*8/\ZaG (Za7 b)/\∃(n':
 Nat),n' < a6/\I [slice a n c,int i64 (IntKind.wrap i64 (a4*if(1:Int) > if(-1:Int) > IntKind.wrap i64 (Int.tmod (RowKit.intOf ae) (3:Int))then(-1:Int)else IntKind.wrap i64 (Int.tmod (RowKit.intOf ae) (3
 : Int))then(1:Int)else if(-1:Int) > IntKind.wrap i64 (Int.tmod (RowKit.intOf ae) (3:Int))then(-1:Int)else IntKind.wrap i64 (Int.tmod (RowKit.intOf ae) (3:Int)))),int i64 a5,int i64 (IntKind.wrap i64
 (a2+(1:Int)))] [] [slice ad aa ac] (Mem.upd ab bj (o+Int.toNat (IntKind.wrap i64 ((↑n:Int) - (1:Int)))*8) [int u8 af,int u64 ah,int u64 ai,int u64 aj,int u64 ak,int i64 al,int i64 am,slice ap an a3])
 n') (ZaG (Za7 b)/\∃(n':Nat),n' < a6/\I [slice a n c,int i64 a4,int i64 a5,int i64 (IntKind.wrap i64 (a2+(1:Int)))] [] [slice ad aa ac] m' n')) (br (decide (IntKind.wrap i64 (a4*if(1:Int) >
 if IntKind.wrap i64 (Int.tmod (RowKit.intOf ag) (4:Int)) > IntKind.wrap i64 (Int.tmod (RowKit.intOf ae) (3:Int))then IntKind.wrap i64 (Int.tmod (RowKit.intOf ag) (4:Int))else IntKind.wrap i64 (Int.tmod
 (RowKit.intOf ae) (3:Int))then(1:Int)else if IntKind.wrap i64 (Int.tmod (RowKit.intOf ag) (4:Int)) > IntKind.wrap i64 (Int.tmod (RowKit.intOf ae) (3:Int))then IntKind.wrap i64 (Int.tmod (RowKit.intOf ag) (4
 : Int))else IntKind.wrap i64 (Int.tmod (RowKit.intOf ae) (3:Int)))<=(16:Int))) (∃(bl:Nat),∃(o:Nat),a=some (Addr.mk bl o none)/\Zag (IntKind.wrap i64 ((↑n:Int) - (1:Int))) n/\∃(v:Value),∃
 (ao:Value),∃(ar:Value),∃(au:Value),∃(av:Value),∃(aw:Value),∃(ax:Value),∃(ay:Value),Mem.reads m' bl (o+Int.toNat (IntKind.wrap i64 ((↑n:Int) - (1:Int)))*8) [v,ao,ar,au,av,aw,ax,
 ay]/\∃(R:RT),True/\CX Tryz.prog 31 (Array.mk [agg (Array.mk [v,ao,ar,au,av,aw,ax,ay]),int i64 (IntKind.wrap i64 (Int.tmod (RowKit.intOf ae) (3:Int))),int i64 (IntKind.wrap i64 (Int.tmod (RowKit.intOf
 ag) (4:Int)))]) m' [] R/\Zaz (shT) R/\∀(af ah ai aj ak al am:Int)(ap:Option Addr)(an a3:Nat)(ab:Mem),Mem.le m' ab->R (agg (Array.mk [int u8 af,int u64 ah,int u64 ai,int u64 aj,int u64 ak,int i64
 al,int i64 am,slice ap an a3])) ab []->∃(bj:Nat),∃(o:Nat),a=some (Addr.mk bj o none)/\Zag (IntKind.wrap i64 ((↑n:Int) - (1:Int))) n/\slice ad aa ac=slice (some (Addr.mk bj 0 none)) aa ac/\o +
 Int.toNat (IntKind.wrap i64 ((↑n:Int) - (1:Int)))*8+8<=aa*8/\ZaG (Za7 b)/\∃(n':Nat),n' < a6/\I [slice a n c,int i64 (IntKind.wrap i64 (a4*if(1:Int) > if IntKind.wrap i64 (Int.tmod
 (RowKit.intOf ag) (4:Int)) > IntKind.wrap i64 (Int.tmod (RowKit.intOf ae) (3:Int))then IntKind.wrap i64 (Int.tmod (RowKit.intOf ag) (4:Int))else IntKind.wrap i64 (Int.tmod (RowKit.intOf ae) (3:Int))then(1:
 Int)else if IntKind.wrap i64 (Int.tmod (RowKit.intOf ag) (4:Int)) > IntKind.wrap i64 (Int.tmod (RowKit.intOf ae) (3:Int))then IntKind.wrap i64 (Int.tmod (RowKit.intOf ag) (4:Int))else IntKind.wrap i64 (Int.tmod
 (RowKit.intOf ae) (3:Int)))),int i64 a5,int i64 (IntKind.wrap i64 (a2+(1:Int)))] [] [slice ad aa ac] (Mem.upd ab bj (o+Int.toNat (IntKind.wrap i64 ((↑n:Int) - (1:Int)))*8) [int u8 af,int u64 ah,int u64
 ai,int u64 aj,int u64 ak,int i64 al,int i64 am,slice ap an a3]) n') (ZaG (Za7 b)/\∃(n':Nat),n' < a6/\I [slice a n c,int i64 a4,int i64 a5,int i64 (IntKind.wrap i64 (a2+(1:Int)))] [] [slice
 ad aa ac] m' n'))))) (ZaG (Za7 b)/\∃(n':Nat),n' < a6/\I [slice a n c,int i64 a4,int i64 a5,int i64 (IntKind.wrap i64 (a2+(1:Int)))] [] [slice ad aa ac] m' n'))))))))) (br ((↑n:Int) == (0:
 Int)) (∃(R_1:RT),True/\CX Tryz.prog 27 (Array.mk [string (ByteArray.mk (Array.mk [(97:UInt8)]))]) m' [] R_1/\Zaz (shT) R_1/\∀(n af ah ai aj ak al:Int)(a:Option Addr)(am c:Nat)(ab:Mem),Mem.le m' ab
 -> R_1 (agg (Array.mk [int u8 n,int u64 af,int u64 ah,int u64 ai,int u64 aj,int i64 ak,int i64 al,slice a am c])) ab []->∃(m'':Mem),Mem.le m m''/\Mem.le m'' ab/\R (agg (Array.mk [int u8 n,int u64 af,int
 u64 ah,int u64 ai,int u64 aj,int i64 ak,int i64 al,slice a am c])) m'' []) (∃(be:Nat),∃(o:Nat),a=some (Addr.mk be o none)/\Zag (0:Int) n/\∃(v:Value),∃(ae:Value),∃(ag:Value),∃(ao:
 Value),∃(ar:Value),∃(au:Value),∃(av:Value),∃(aw:Value),Mem.reads m' be (o+0) [v,ae,ag,ao,ar,au,av,aw]/\∀(a1:Nat),chk (Value.oneCell' v&&(Value.oneCell' ae&&(Value.oneCell' ag &&
 (Value.oneCell' ao&&(Value.oneCell' ar&&(Value.oneCell' au&&(Value.oneCell' av&&(Value.oneCell' aw&&true)))))))) (((0:Int)<=(1:Int)/\(1:Int)<=(↑n:Int))/\∃(I:IT),(∃(n:Nat),I [int i64 0] [[v,
 ae,ag,ao,ar,au,av,aw]] [] m' n)/\∀(af:Int)(cs:List Value)(m':Mem)(ah:Nat),True->I [int i64 af] [cs] [] m' ah->br (decide (af < (↑(n - Int.toNat (1:Int)):Int))) (∃(aq:Nat),∃(o:Nat),
 Za0 a (Int.toNat (1:Int)) c 8=some (Addr.mk aq o none)/\Zag af (n - Int.toNat (1:Int))/\∃(v:Value),∃(ax:Value),∃(ay:Value),∃(a8:Value),∃(a9:Value),∃(ba:Value),∃(bb:Value),∃(bc
 : Value),Mem.reads m' aq (o+Int.toNat af*8) [v,ax,ay,a8,a9,ba,bb,bc]/\∀(bf:Nat),chk (Value.oneCell' v&&(Value.oneCell' ax&&(Value.oneCell' ay&&(Value.oneCell' a8&&(Value.oneCell' a9 &&
 (Value.oneCell' ba&&(Value.oneCell' bb&&(Value.oneCell' bc&&true)))))))) (∃(R:RT),True/\CX Tryz.prog 29 (Array.mk [int u8 4,agg (Array.mk cs),agg (Array.mk [v,ax,ay,a8,a9,ba,bb,bc])]) m' [] R/\Zaz
 (shT) R/\∀(n ai aj ak al am an:Int)(a:Option Addr)(bm c:Nat)(ab:Mem),Mem.le m' ab->R (agg (Array.mk [int u8 n,int u64 ai,int u64 aj,int u64 ak,int u64 al,int i64 am,int i64 an,slice a bm c])) ab []
 -> ZaG (Zli b a1)/\[some (Tok.mk (slice ad aa ac) 8)]=[some (Tok.mk (slice ad aa ac) 8)]/\∃(n':Nat),n' < ah/\I [int i64 (IntKind.wrap i64 (af+(1:Int)))] [[int u8 n,int u64 ai,int u64 aj,int
 u64 ak,int u64 al,int i64 am,int i64 an,slice a bm c]] [] ab n')) (chk (Nat.beq (List.length cs) 8&&ZeL cs) (∃(m'':Mem),Mem.le m m''/\Mem.le m'' m'/\R (agg (Array.mk cs)) m'' [])))))
theorem Zlj(p0a:Option Addr)(p0n p0c:Nat)(m:Mem)(R:RT)(h:Zhz p0a p0n p0c m R):CX Tryz.prog 5 #[.slice p0a p0n p0c] m [] R:=
 Zah (E:=Znd) Zay mix Tryz.func5 [.v (.slice p0a p0n p0c)] [] (by kernel_rfl) (Eq.mp (by kernel_rfl) h)
noncomputable def Zlk:Env:={ EB with
 frzNew:=[1] }
def Zgu(aG aD aI aJ aK aE aH:Int)(aB:Option Addr)(aA aC:Nat)(m:Mem)(R:RT):Prop:=
 ∀(b:Nat)(m':Mem),Mem.le m m'->Mem.reads m' b 0 [int u8 aG,int u64 aD,int u64 aI,int u64 aJ,int u64 aK,int i64 aE,int i64 aH,slice aB aA aC]->∀(b b:Nat),Mem.free m' b->∃(m'':
 Mem),Mem.le m m''/\Mem.le m'' (Mem.add m' b [int u8 aG,int u64 aD,int u64 aI,int u64 aJ,int u64 aK,int i64 aE,int i64 aH,slice aB aA aC])/\R (agg (Array.mk [int u8 6,int u64 0,int u64
 0,int u64 0,int u64 0,int i64 0,int i64 0,slice (some (Addr.mk b 0 none)) 1 1])) m'' []
theorem Zjv(aG aD aI aJ aK aE aH:Int)(aB:Option Addr)(aA aC:Nat)(m:Mem)(R:RT)(h:Zgu aG aD aI aJ aK aE aH aB aA aC m R):CX Tryz.prog 30 #[.agg #[.int .u8 aG,.int .u64 aD,.int .u64 aI,.int .u64 aJ,.int .u64 aK,.int .i64 aE,.int .i64 aH,.slice aB aA aC]] m [] R:=
 Zah (E:=Zlk) Zay mix Tryz.func30 [.v (.agg #[.int .u8 aG,.int .u64 aD,.int .u64 aI,.int .u64 aJ,.int .u64 aK,.int .i64 aE,.int .i64 aH,.slice aB aA aC])] [] (by kernel_rfl) (Eq.mp (by kernel_rfl) h)
noncomputable def Zpp:Env:={ EB with
 frzNew:=[3] }
def Zio(aG aD aI aJ aK aE aH:Int)(aB:Option Addr)(aA aC:Nat)(p1 p2:Int)(m:Mem)(R:RT):Prop:=
 ∀(b:Nat)(m':Mem),Mem.le m m'->Mem.reads m' b 0 [int u8 aG,int u64 aD,int u64 aI,int u64 aJ,int u64 aK,int i64 aE,int i64 aH,slice aB aA aC]->∀(b b:Nat),Mem.free m' b->∃(m'':
 Mem),Mem.le m m''/\Mem.le m'' (Mem.add m' b [int u8 aG,int u64 aD,int u64 aI,int u64 aJ,int u64 aK,int i64 aE,int i64 aH,slice aB aA aC])/\R (agg (Array.mk [int u8 5,int u64 0,int u64
 0,int u64 0,int u64 0,int i64 p1,int i64 p2,slice (some (Addr.mk b 0 none)) 1 1])) m'' []
theorem Zne(aG aD aI aJ aK aE aH:Int)(aB:Option Addr)(aA aC:Nat)(p1 p2:Int)(m:Mem)(R:RT)(h:Zio aG aD aI aJ aK aE aH aB aA aC p1 p2 m R):CX Tryz.prog 31 #[.agg #[.int .u8 aG,.int .u64 aD,.int .u64 aI,.int .u64 aJ,.int .u64 aK,.int .i64 aE,.int .i64 aH,.slice aB aA aC],.int .i64 p1,.int .i64 p2] m [] R:=
 Zah (E:=Zpp) Zay mix Tryz.func31 [.v (.agg #[.int .u8 aG,.int .u64 aD,.int .u64 aI,.int .u64 aJ,.int .u64 aK,.int .i64 aE,.int .i64 aH,.slice aB aA aC]),.v (.int .i64 p1),.v (.int .i64 p2)] [] (by kernel_rfl) (Eq.mp (by kernel_rfl) h)
noncomputable def Zip:Env:=EB
def ZeT(p0:Int)(m:Mem)(R:RT):Prop:=
 ∀(b:Nat),Mem.free m b->(12:Int)≠(0:Int)/\Zag (Int.tmod p0 (12:Int)) 12/\Eng.Zum [string (ByteArray.mk (Array.mk [(97:UInt8)])),string (ByteArray.mk (Array.mk [(98:UInt8)])),string (ByteArray.mk
 (Array.mk [(97:UInt8),(98:UInt8)])),string (ByteArray.mk (Array.mk [(97:UInt8)])),string (ByteArray.mk (Array.mk [(98:UInt8)])),string (ByteArray.mk (Array.mk [(99:UInt8)])),string (ByteArray.mk (Array.mk
 [(97:UInt8),(98:UInt8),(99:UInt8)])),string (ByteArray.mk (Array.mk [(98:UInt8),(99:UInt8)])),string (ByteArray.mk (Array.mk [(10:UInt8)])),string (ByteArray.mk (Array.mk [(0:UInt8),(255:
 UInt8)])),string (ByteArray.mk (Array.mk [(97:UInt8)])),string (ByteArray.mk (Array.mk [(98:UInt8)]))] (Int.toNat (Int.tmod p0 (12:Int))*1) λ(v:Value)=>∃(m'':Mem),Mem.le m m''/\Mem.le m'' (Mem.add
 m b [string (ByteArray.mk (Array.mk [(97:UInt8)])),string (ByteArray.mk (Array.mk [(98:UInt8)])),string (ByteArray.mk (Array.mk [(97:UInt8),(98:UInt8)])),string (ByteArray.mk (Array.mk [(97:UInt8)])),
 string (ByteArray.mk (Array.mk [(98:UInt8)])),string (ByteArray.mk (Array.mk [(99:UInt8)])),string (ByteArray.mk (Array.mk [(97:UInt8),(98:UInt8),(99:UInt8)])),string (ByteArray.mk (Array.mk [(98:
 UInt8),(99:UInt8)])),string (ByteArray.mk (Array.mk [(10:UInt8)])),string (ByteArray.mk (Array.mk [(0:UInt8),(255:UInt8)])),string (ByteArray.mk (Array.mk [(97:UInt8)])),string (ByteArray.mk (Array.mk
 [(98:UInt8)]))])/\R v m'' []
theorem ZhP(p0:Int)(m:Mem)(R:RT)(h:ZeT p0 m R):CX Tryz.prog 28 #[.int .u8 p0] m [] R:=
 Zah (E:=Zip) Zay mix Tryz.func28 [.v (.int .u8 p0)] [] (by kernel_rfl) (Eq.mp (by kernel_rfl) h)
noncomputable def Zll:Env:={ EB with
 loops:=(λi=>bif Nat.beq i 3 then⟨[(7,.int .i64)],[3],[],false⟩ else⟨[],[],[],false⟩)
 dr:=(λi=>bif Nat.beq i 5 then[⟨0,[],[],none,[],[]⟩,⟨1,[],[],none,[],[]⟩,⟨2,[],[],none,[0,1],[]⟩,⟨3,[],[],none,[0,1,2],[]⟩,⟨4,[3],[],none,[0,1,2,3],[]⟩,⟨5,[3],[],none,[0,1,2,3,4],[]⟩,⟨6,[],[],none,[],[]⟩,⟨7,[],[],none,[],[]⟩,⟨8,[],[],none,[6,7],[]⟩,⟨9,[],[],none,[6,7,8],[]⟩,⟨10,[],[],none,[6,7,8,9],[]⟩,⟨11,[],[],none,[0,1,2,3,4,5,6,7,8,9,10],[]⟩,⟨12,[3],[],none,rg 0 12,[]⟩,⟨13,[3],[3],none,rg 0 13,[]⟩]else[]) }
def Zgv(p0:ByteArray)(m:Mem)(R:RT):Prop:=
 ∀(b b_1:Nat),∃(I:IT),(∃(n:Nat),I [int i64 0] [[int u64 0,int u64 0,int u64 0,int u64 0]] [] m n)/\∀(n:Int)(cs:List Value)(m':Mem)(n_1:Nat),Mem.le m m'->I [int i64 n] [cs] [] m' n_1->br
 (decide (n < (↑(ByteArray.size p0):Int))) (Zag n (ByteArray.size p0)/\(64:Int)≠(0:Int)/\Zag (IntKind.wrap u8 (Int.tdiv (ZnG p0 (Int.toNat n)) (64:Int))) 4/\Eng.Zum cs (0+Int.toNat (IntKind.wrap
 u8 (Int.tdiv (ZnG p0 (Int.toNat n)) (64:Int)))*1) λ(v:Value)=>Zag n (ByteArray.size p0)/\(64:Int)≠(0:Int)/\(0:Int)<=Int.tmod (ZnG p0 (Int.toNat n)) (64:Int)/\chk (ZaS u64 v&&decide
 (u64=u64)) (Zag (IntKind.wrap u8 (Int.tdiv (ZnG p0 (Int.toNat n)) (64:Int))) 4/\chk (Nat.ble (0+Int.toNat (IntKind.wrap u8 (Int.tdiv (ZnG p0 (Int.toNat n)) (64:Int)))*1+1) (List.length cs)) ([some
 (Box.mk b_1 [] 27 4 false true),some (Box.mk b [int u8 0,int u64 0,int u64 0,int u64 0,int u64 0,int i64 0,int i64 0,slice none 0 0] 30 8 false true)]=[some (Box.mk b_1 [] 27 4 false true),some (Box.mk b [int
 u8 0,int u64 0,int u64 0,int u64 0,int u64 0,int i64 0,int i64 0,slice none 0 0] 30 8 false true)]/\∃(n':Nat),n' < n_1/\I [int i64 (IntKind.wrap i64 (n+(1:Int)))] [ZaH cs (0+Int.toNat (IntKind.wrap
 u8 (Int.tdiv (ZnG p0 (Int.toNat n)) (64:Int)))*1) [int u64 (IntKind.wrap u64 (↑(BitVec.toNat (BitVec.ofInt 64 (RowKit.intOf v)|||BitVec.ofInt 64 (IntKind.wrap u64 ((1:Int)*(2:Int) ^ min (Int.toNat
 (Int.tmod (ZnG p0 (Int.toNat n)) (64:Int))) 64)))):Int))]] [] m' n'))) (chk (Nat.beq (List.length cs) 4&&true) (chk (Nat.beq (List.length (List.append cs (List.drop (1+List.length cs) [int u8 2,int u64 0,int
 u64 0,int u64 0,int u64 0,int i64 0,int i64 0,slice none 0 0]))) (nat_lit 7)&&ZeL (List.append cs (List.drop (1+List.length cs) [int u8 2,int u64 0,int u64 0,int u64 0,int u64 0,int i64 0,int i64 0,
 slice none 0 0]))) (∃(m'':Mem),Mem.le m m''/\Mem.le m'' m'/\R (agg (Array.mk (ZaH [int u8 2,int u64 0,int u64 0,int u64 0,int u64 0,int i64 0,int i64 0,slice none 0 0] 1 cs))) m'' [])))
theorem Zjw(p0:ByteArray)(m:Mem)(R:RT)(h:Zgv p0 m R):CX Tryz.prog 27 #[.string p0] m [] R:=
 Zah (E:=Zll) Zay mix Tryz.func27 [.v (.string p0)] [] (by kernel_rfl) (Eq.mp (by kernel_rfl) h)
noncomputable def Zlm:Env:={ EB with
 loops:=(λi=>bif Nat.beq i 3 then⟨[(7,.slice),(14,.int .i64)],[],[(30,8)],false⟩ else⟨[],[],[],false⟩)
 joins:=(λi=>bif Nat.beq i 8 then some [(31,.bool)]else none)
 tokOf:=(λi=>bif Nat.beq i 21 then 30 else bif Nat.beq i 30 then 30 else 0)
 frzNew:=[4,5] }
def Zgw(p0 aU aO aP aQ aR aS aT:Int)(aM:Option Addr)(aL aN:Nat)(aY aZ bA bB bC bD bE:Int)(bS:Option Addr)(bT bU:Nat)(m:Mem)(R:RT):Prop:=
 ∀(b:Nat)(m':Mem),Mem.le m m'->Mem.reads m' b 0 [int u8 aU,int u64 aO,int u64 aP,int u64 aQ,int u64 aR,int i64 aS,int i64 aT,slice aM aL aN]->∀(ac:Nat)(ai:Mem),Mem.le m' ai->
 Mem.reads ai ac 0 [int u8 aY,int u64 aZ,int u64 bA,int u64 bB,int u64 bC,int i64 bD,int i64 bE,slice bS bT bU]->∀(ad ab:Nat),Mem.free ai ab->∃(I:IT),(∃(n:Nat),I [slice none 0
 0,int i64 0] [] [slice none 0 0] (Mem.add ai ab [int u8 aU,int u64 aO,int u64 aP,int u64 aQ,int u64 aR,int i64 aS,int i64 aT,slice aM aL aN,int u8 aY,int u64 aZ,int u64 bA,int
 u64 bB,int u64 bC,int i64 bD,int i64 bE,slice bS bT bU]) n)/\∀(a:Option Addr)(n c:Nat)(aa:Int)(ae:Option Addr)(af ag:Nat)(m':Mem)(ak:Nat),Mem.le (Mem.add ai ab [int u8 aU,
 int u64 aO,int u64 aP,int u64 aQ,int u64 aR,int i64 aS,int i64 aT,slice aM aL aN,int u8 aY,int u64 aZ,int u64 bA,int u64 bB,int u64 bC,int i64 bD,int i64 bE,slice bS
 bT bU]) m'->I [slice a n c,int i64 aa] [] [slice ae af ag] m' ak->br (decide (aa < (↑(2:Nat):Int))) (Zag aa 2/\chk (Nat.ble (Int.toNat aa*8) (1+1+1+1+1+1+1+1)) (∀(al:Nat),chk
 (Nat.beq (List.length (List.take 8 (List.drop (Int.toNat aa*8) [int u8 aU,int u64 aO,int u64 aP,int u64 aQ,int u64 aR,int i64 aS,int i64 aT,slice aM aL aN,int u8 aY,int u64 aZ,int
 u64 bA,int u64 bB,int u64 bC,int i64 bD,int i64 bE,slice bS bT bU]))) 8&&ZeL (List.take 8 (List.drop (Int.toNat aa*8) [int u8 aU,int u64 aO,int u64 aP,int u64 aQ,int u64 aR,
 int i64 aS,int i64 aT,slice aM aL aN,int u8 aY,int u64 aZ,int u64 bA,int u64 bB,int u64 bC,int i64 bD,int i64 bE,slice bS bT bU]))) (Eng.Zum (List.take 8 (List.drop
 (Int.toNat aa*8) [int u8 aU,int u64 aO,int u64 aP,int u64 aQ,int u64 aR,int i64 aS,int i64 aT,slice aM aL aN,int u8 aY,int u64 aZ,int u64 bA,int u64 bB,int u64 bC,int i64
 bD,int i64 bE,slice bS bT bU])) 0 λ(v:Value)=>chk (ZaS u8 v&&decide (u8=u8)) (br (RowKit.intOf v == p0) (Eng.Zum (List.take 8 (List.drop (Int.toNat aa*8) [int u8 aU,int u64 aO,int
 u64 aP,int u64 aQ,int u64 aR,int i64 aS,int i64 aT,slice aM aL aN,int u8 aY,int u64 aZ,int u64 bA,int u64 bB,int u64 bC,int i64 bD,int i64 bE,slice bS bT bU])) 7
 λ(v:Value)=>chk (Zel v&&true) ((Tok.mk (slice ae af ag) 8=Tok.mk (slice a n c) 8\/slice a n c=slice none 0 0\/c < n+slN v)/\∃(xs:List Value),∃(ys:List Value),List.length xs=n*8/\
 List.length ys=slN v*8/\rowRd m' a xs/\rowRd m' (slA v) ys/\(∀(u:Value),u∈ys->Value.oneCell' u=true)/\(n+slN v)*80<=140737488355328/\n+slN v<=9223372036854775807/\∀(a':Option Addr) (c':
 Nat) (ah:Mem),Mem.le m' ah->rowRd ah a' (List.append xs ys)->[some (Box.mk ab [int u8 aU,int u64 aO,int u64 aP,int u64 aQ,int u64 aR,int i64 aS,int i64 aT,slice aM aL aN,int u8 aY,
 int u64 aZ,int u64 bA,int u64 bB,int u64 bC,int i64 bD,int i64 bE,slice bS bT bU] 30 16 true true),some (Box.mk ad [int u8 0,int u64 0,int u64 0,int u64 0,int u64 0,int i64 0,int i64 0,
 slice none 0 0] 30 8 false true),some (Box.mk ac [int u8 aY,int u64 aZ,int u64 bA,int u64 bB,int u64 bC,int i64 bD,int i64 bE,slice bS bT bU] 30 8 true true),some (Box.mk b [int u8 aU,
 int u64 aO,int u64 aP,int u64 aQ,int u64 aR,int i64 aS,int i64 aT,slice aM aL aN] 30 8 true true)]=[some (Box.mk ab [int u8 aU,int u64 aO,int u64 aP,int u64 aQ,int u64 aR,int
 i64 aS,int i64 aT,slice aM aL aN,int u8 aY,int u64 aZ,int u64 bA,int u64 bB,int u64 bC,int i64 bD,int i64 bE,slice bS bT bU] 30 16 true true),some (Box.mk ad [int u8 0,int
 u64 0,int u64 0,int u64 0,int u64 0,int i64 0,int i64 0,slice none 0 0] 30 8 false true),some (Box.mk ac [int u8 aY,int u64 aZ,int u64 bA,int u64 bB,int u64 bC,int i64 bD,int i64 bE,slice
 bS bT bU] 30 8 true true),some (Box.mk b [int u8 aU,int u64 aO,int u64 aP,int u64 aQ,int u64 aR,int i64 aS,int i64 aT,slice aM aL aN] 30 8 true true)]/\∃(n':Nat),n' < ak/\I
 [slice a' (n+slN v) c',int i64 (IntKind.wrap i64 (aa+(1:Int)))] [] [slice a' (n+slN v) c'] ah n')) (∃(am:Bool),br (p0 == (3:Int)) (Eng.Zum (List.take 8 (List.drop (Int.toNat aa*8) [int u8 aU,int u64
 aO,int u64 aP,int u64 aQ,int u64 aR,int i64 aS,int i64 aT,slice aM aL aN,int u8 aY,int u64 aZ,int u64 bA,int u64 bB,int u64 bC,int i64 bD,int i64 bE,slice bS bT
 bU])) 0 λ(v:Value)=>chk (ZaS u8 v&&decide (u8=u8)) ([some (Box.mk al (List.take 8 (List.drop (Int.toNat aa*8) [int u8 aU,int u64 aO,int u64 aP,int u64 aQ,int u64 aR,int i64 aS,int i64
 aT,slice aM aL aN,int u8 aY,int u64 aZ,int u64 bA,int u64 bB,int u64 bC,int i64 bD,int i64 bE,slice bS bT bU])) 30 8 false true),some (Box.mk ab [int u8 aU,int u64 aO,
 int u64 aP,int u64 aQ,int u64 aR,int i64 aS,int i64 aT,slice aM aL aN,int u8 aY,int u64 aZ,int u64 bA,int u64 bB,int u64 bC,int i64 bD,int i64 bE,slice bS bT bU] 30
 16 true true),some (Box.mk ad [int u8 0,int u64 0,int u64 0,int u64 0,int u64 0,int i64 0,int i64 0,slice none 0 0] 30 8 false true),some (Box.mk ac [int u8 aY,int u64 aZ,int u64 bA,int u64 bB,int
 u64 bC,int i64 bD,int i64 bE,slice bS bT bU] 30 8 true true),some (Box.mk b [int u8 aU,int u64 aO,int u64 aP,int u64 aQ,int u64 aR,int i64 aS,int i64 aT,slice aM aL aN]
 30 8 true true)]=[some (Box.mk al (List.take 8 (List.drop (Int.toNat aa*8) [int u8 aU,int u64 aO,int u64 aP,int u64 aQ,int u64 aR,int i64 aS,int i64 aT,slice aM aL aN,int u8 aY,int
 u64 aZ,int u64 bA,int u64 bB,int u64 bC,int i64 bD,int i64 bE,slice bS bT bU])) 30 8 false true),some (Box.mk ab [int u8 aU,int u64 aO,int u64 aP,int u64 aQ,int u64 aR,int i64
 aS,int i64 aT,slice aM aL aN,int u8 aY,int u64 aZ,int u64 bA,int u64 bB,int u64 bC,int i64 bD,int i64 bE,slice bS bT bU] 30 16 true true),some (Box.mk ad [int u8 0,int u64
 0,int u64 0,int u64 0,int u64 0,int i64 0,int i64 0,slice none 0 0] 30 8 false true),some (Box.mk ac [int u8 aY,int u64 aZ,int u64 bA,int u64 bB,int u64 bC,int i64 bD,int i64 bE,slice bS
 bT bU] 30 8 true true),some (Box.mk b [int u8 aU,int u64 aO,int u64 aP,int u64 aQ,int u64 aR,int i64 aS,int i64 aT,slice aM aL aN] 30 8 true true)]/\[some (Tok.mk (slice ae af ag)
 8)]=[some (Tok.mk (slice ae af ag) 8)]/\[bool (RowKit.intOf v == (1:Int))]=[bool am])) ([some (Box.mk al (List.take 8 (List.drop (Int.toNat aa*8) [int u8 aU,int u64 aO,int u64 aP,int u64 aQ,int u64
 aR,int i64 aS,int i64 aT,slice aM aL aN,int u8 aY,int u64 aZ,int u64 bA,int u64 bB,int u64 bC,int i64 bD,int i64 bE,slice bS bT bU])) 30 8 false true),some (Box.mk ab
 [int u8 aU,int u64 aO,int u64 aP,int u64 aQ,int u64 aR,int i64 aS,int i64 aT,slice aM aL aN,int u8 aY,int u64 aZ,int u64 bA,int u64 bB,int u64 bC,int i64 bD,int i64 bE,
 slice bS bT bU] 30 16 true true),some (Box.mk ad [int u8 0,int u64 0,int u64 0,int u64 0,int u64 0,int i64 0,int i64 0,slice none 0 0] 30 8 false true),some (Box.mk ac [int u8 aY,int u64 aZ,int
 u64 bA,int u64 bB,int u64 bC,int i64 bD,int i64 bE,slice bS bT bU] 30 8 true true),some (Box.mk b [int u8 aU,int u64 aO,int u64 aP,int u64 aQ,int u64 aR,int i64 aS,int i64
 aT,slice aM aL aN] 30 8 true true)]=[some (Box.mk al (List.take 8 (List.drop (Int.toNat aa*8) [int u8 aU,int u64 aO,int u64 aP,int u64 aQ,int u64 aR,int i64 aS,int i64 aT,slice aM
 aL aN,int u8 aY,int u64 aZ,int u64 bA,int u64 bB,int u64 bC,int i64 bD,int i64 bE,slice bS bT bU])) 30 8 false true),some (Box.mk ab [int u8 aU,int u64 aO,int u64 aP,int
 u64 aQ,int u64 aR,int i64 aS,int i64 aT,slice aM aL aN,int u8 aY,int u64 aZ,int u64 bA,int u64 bB,int u64 bC,int i64 bD,int i64 bE,slice bS bT bU] 30 16 true true),
 some (Box.mk ad [int u8 0,int u64 0,int u64 0,int u64 0,int u64 0,int i64 0,int i64 0,slice none 0 0] 30 8 false true),some (Box.mk ac [int u8 aY,int u64 aZ,int u64 bA,int u64 bB,int u64 bC,int
 i64 bD,int i64 bE,slice bS bT bU] 30 8 true true),some (Box.mk b [int u8 aU,int u64 aO,int u64 aP,int u64 aQ,int u64 aR,int i64 aS,int i64 aT,slice aM aL aN] 30 8 true
 true)]/\[some (Tok.mk (slice ae af ag) 8)]=[some (Tok.mk (slice ae af ag) 8)]/\[bool false]=[bool am])/\br am ([some (Box.mk ab [int u8 aU,int u64 aO,int u64 aP,int u64 aQ,int u64 aR,int i64 aS,
 int i64 aT,slice aM aL aN,int u8 aY,int u64 aZ,int u64 bA,int u64 bB,int u64 bC,int i64 bD,int i64 bE,slice bS bT bU] 30 16 true true),some (Box.mk ad [int u8 0,int u64 0,
 int u64 0,int u64 0,int u64 0,int i64 0,int i64 0,slice none 0 0] 30 8 false true),some (Box.mk ac [int u8 aY,int u64 aZ,int u64 bA,int u64 bB,int u64 bC,int i64 bD,int i64 bE,slice bS
 bT bU] 30 8 true true),some (Box.mk b [int u8 aU,int u64 aO,int u64 aP,int u64 aQ,int u64 aR,int i64 aS,int i64 aT,slice aM aL aN] 30 8 true true)]=[some (Box.mk ab [int u8 aU,
 int u64 aO,int u64 aP,int u64 aQ,int u64 aR,int i64 aS,int i64 aT,slice aM aL aN,int u8 aY,int u64 aZ,int u64 bA,int u64 bB,int u64 bC,int i64 bD,int i64 bE,slice bS
 bT bU] 30 16 true true),some (Box.mk ad [int u8 0,int u64 0,int u64 0,int u64 0,int u64 0,int i64 0,int i64 0,slice none 0 0] 30 8 false true),some (Box.mk ac [int u8 aY,int u64 aZ,int u64 bA,int
 u64 bB,int u64 bC,int i64 bD,int i64 bE,slice bS bT bU] 30 8 true true),some (Box.mk b [int u8 aU,int u64 aO,int u64 aP,int u64 aQ,int u64 aR,int i64 aS,int i64 aT,slice aM
 aL aN] 30 8 true true)]/\∃(n':Nat),n' < ak/\I [slice a n c,int i64 (IntKind.wrap i64 (aa+(1:Int)))] [] [slice ae af ag] m' n') (chk (Nat.beq (List.length (List.take 8 (List.drop (Int.toNat aa*8) [int
 u8 aU,int u64 aO,int u64 aP,int u64 aQ,int u64 aR,int i64 aS,int i64 aT,slice aM aL aN,int u8 aY,int u64 aZ,int u64 bA,int u64 bB,int u64 bC,int i64 bD,int i64 bE,
 slice bS bT bU]))) 8&&true) (∀(aj:Nat),Mem.free m' aj->(Tok.mk (slice ae af ag) 8=Tok.mk (slice a n c) 8\/slice a n c=slice none 0 0\/c < n+1)/\∃(xs:List Value),∃(ys:List Value),
 List.length xs=n*8/\List.length ys=1*8/\rowRd (Mem.add m' aj (List.append (List.take 8 (List.drop (Int.toNat aa*8) [int u8 aU,int u64 aO,int u64 aP,int u64 aQ,int u64 aR,int i64 aS,int i64
 aT,slice aM aL aN,int u8 aY,int u64 aZ,int u64 bA,int u64 bB,int u64 bC,int i64 bD,int i64 bE,slice bS bT bU])) [])) a xs/\rowRd (Mem.add m' aj (List.append (List.take 8
 (List.drop (Int.toNat aa*8) [int u8 aU,int u64 aO,int u64 aP,int u64 aQ,int u64 aR,int i64 aS,int i64 aT,slice aM aL aN,int u8 aY,int u64 aZ,int u64 bA,int u64 bB,int u64
 bC,int i64 bD,int i64 bE,slice bS bT bU])) [])) (some (Addr.mk aj 0 none)) ys/\(∀(u:Value),u∈ys->Value.oneCell' u=true)/\(n+1)*80<=140737488355328/\n+1<=9223372036854775807/\∀(a'
 : Option Addr) (c':Nat) (ah:Mem),Mem.le (Mem.add m' aj (List.append (List.take 8 (List.drop (Int.toNat aa*8) [int u8 aU,int u64 aO,int u64 aP,int u64 aQ,int u64 aR,int i64 aS,int i64 aT,slice
 aM aL aN,int u8 aY,int u64 aZ,int u64 bA,int u64 bB,int u64 bC,int i64 bD,int i64 bE,slice bS bT bU])) [])) ah->rowRd ah a' (List.append xs ys)->[some (Box.mk ab [int u8 aU,
 int u64 aO,int u64 aP,int u64 aQ,int u64 aR,int i64 aS,int i64 aT,slice aM aL aN,int u8 aY,int u64 aZ,int u64 bA,int u64 bB,int u64 bC,int i64 bD,int i64 bE,slice bS
 bT bU] 30 16 true true),some (Box.mk ad [int u8 0,int u64 0,int u64 0,int u64 0,int u64 0,int i64 0,int i64 0,slice none 0 0] 30 8 false true),some (Box.mk ac [int u8 aY,int u64 aZ,int u64 bA,int
 u64 bB,int u64 bC,int i64 bD,int i64 bE,slice bS bT bU] 30 8 true true),some (Box.mk b [int u8 aU,int u64 aO,int u64 aP,int u64 aQ,int u64 aR,int i64 aS,int i64 aT,slice aM
 aL aN] 30 8 true true)]=[some (Box.mk ab [int u8 aU,int u64 aO,int u64 aP,int u64 aQ,int u64 aR,int i64 aS,int i64 aT,slice aM aL aN,int u8 aY,int u64 aZ,int u64 bA,int
 u64 bB,int u64 bC,int i64 bD,int i64 bE,slice bS bT bU] 30 16 true true),some (Box.mk ad [int u8 0,int u64 0,int u64 0,int u64 0,int u64 0,int i64 0,int i64 0,slice none 0 0] 30 8 false
 true),some (Box.mk ac [int u8 aY,int u64 aZ,int u64 bA,int u64 bB,int u64 bC,int i64 bD,int i64 bE,slice bS bT bU] 30 8 true true),some (Box.mk b [int u8 aU,int u64 aO,int u64 aP,
 int u64 aQ,int u64 aR,int i64 aS,int i64 aT,slice aM aL aN] 30 8 true true)]/\∃(n':Nat),n' < ak/\I [slice a' (n+1) c',int i64 (IntKind.wrap i64 (aa+(1:Int)))] [] [slice a' (n+1) c']
 ah n'))))))) (br ((↑n:Int) == (0:Int)) (∃(m'':Mem),Mem.le m m''/\Mem.le m'' m'/\R (agg (Array.mk [int u8 1,int u64 0,int u64 0,int u64 0,int u64 0,int i64 0,int i64 0,slice none 0 0])) m'' []) (br ((↑n
 : Int) == (1:Int)) (∃(b:Nat),∃(o:Nat),a=some (Addr.mk b o none)/\Zag (0:Int) n/\∃(v:Value),∃(an:Value),∃(ao:Value),∃(ap:Value),∃(aq:Value),∃(ar:Value),∃(au:Value),∃(av:
 Value),Mem.reads m' b (o+0) [v,an,ao,ap,aq,ar,au,av]/\chk (Value.oneCell' v&&(Value.oneCell' an&&(Value.oneCell' ao&&(Value.oneCell' ap&&(Value.oneCell' aq&&(Value.oneCell' ar&&(Value.oneCell' au
 && (Value.oneCell' av&&true)))))))) (∃(m'':Mem),Mem.le m m''/\Mem.le m'' m'/\R (agg (Array.mk [v,an,ao,ap,aq,ar,au,av])) m'' [])) (∃(m'':Mem),Mem.le m m''/\Mem.le m'' m'/\R (agg (Array.mk [int u8
 p0,int u64 0,int u64 0,int u64 0,int u64 0,int i64 0,int i64 0,slice a n c])) m'' [])))
theorem Zjx(p0 aU aO aP aQ aR aS aT:Int)(aM:Option Addr)(aL aN:Nat)(aY aZ bA bB bC bD bE:Int)(bS:Option Addr)(bT bU:Nat)(m:Mem)(R:RT)(h:Zgw p0 aU aO aP aQ aR aS aT aM aL aN aY aZ bA bB bC bD bE bS bT bU m R):CX Tryz.prog 29 #[.int .u8 p0,.agg #[.int .u8 aU,.int .u64 aO,.int .u64 aP,.int .u64 aQ,.int .u64 aR,.int .i64 aS,.int .i64 aT,.slice aM aL aN],.agg #[.int .u8 aY,.int .u64 aZ,.int .u64 bA,.int .u64 bB,.int .u64 bC,.int .i64 bD,.int .i64 bE,.slice bS bT bU]] m [] R:=
 Zah (E:=Zlm) Zay mix Tryz.func29 [.v (.int .u8 p0),.v (.agg #[.int .u8 aU,.int .u64 aO,.int .u64 aP,.int .u64 aQ,.int .u64 aR,.int .i64 aS,.int .i64 aT,.slice aM aL aN]),.v (.agg #[.int .u8 aY,.int .u64 aZ,.int .u64 bA,.int .u64 bB,.int .u64 bC,.int .i64 bD,.int .i64 bE,.slice bS bT bU])] [] (by kernel_rfl) (Eq.mp (by kernel_rfl) h)
end Go.Proofs.YtgclajkldphoaaaGreat