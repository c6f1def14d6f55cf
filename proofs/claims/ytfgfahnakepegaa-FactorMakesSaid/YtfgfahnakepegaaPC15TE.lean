/- Part of the proof: conditions and contracts of functions of this program. No condition of its own. -/
import Derived.Test.YtfgfahnakepegaaPEnv
import Derived.Test.YtfgfahnakepegaaPC15TB
set_option linter.unusedVariables false
namespace Go.Proofs.Ytfgfahnakepegaa
open Go Go.Eng Go.Proofs Go.RowKit
open Go.Value (int slice agg bool string tuple func)
open Go.IntKind (u8 u64 i64)
set_option maxRecDepth 100000
noncomputable def ZoC:Env:={ EB with
 loops:=(λi=>bif Nat.beq i 4 then⟨[(5,.slice),(8,.int .i64)],[],[(33,260)],false⟩ else bif Nat.beq i 9 then⟨[(6,.slice),(9,.bool),(10,.int .i64)],[],[(64,260)],false⟩ else⟨[],[],[],false⟩)
 joins:=(λi=>bif Nat.beq i 12 then some [(54,.bool)]else bif Nat.beq i 13 then some [(9,.bool)]else none)
 dr:=(λi=>bif Nat.beq i 11 then[⟨0,[],[],none,[],[]⟩,⟨1,[],[],none,[],[]⟩,⟨2,[],[],none,[0,1],[]⟩,⟨3,[],[],none,[0,1,2],[]⟩,⟨4,[3],[],none,[],[]⟩,⟨5,[3],[],none,[4],[]⟩,⟨6,[],[],none,[0,1,2,3,4,5],[]⟩,⟨7,[11],[11],none,[],[]⟩,⟨8,[11],[11],none,[0,1,2,3,4,5,6,7],[]⟩]else bif Nat.beq i 17 then[⟨0,[],[],none,[],[]⟩,⟨1,[12],[],none,[],[]⟩,⟨2,[79],[79],none,[1],[]⟩,⟨3,[79],[],some 76,[0,1,2],[2]⟩,⟨4,[],[],none,[],[]⟩,⟨5,[3],[],none,[],[]⟩,⟨6,[3],[],none,[5],[]⟩,⟨7,[],[],none,[4,5,6],[]⟩,⟨8,[],[],some 76,[0,1,2,3,4,5,6,7],[3]⟩,⟨9,[],[],none,[0,1,2,3,4,5,6,7,8],[]⟩]else[])
 tokOf:=(λi=>bif Nat.beq i 33 then 33 else bif Nat.beq i 64 then 64 else bif Nat.beq i 69 then 33 else bif Nat.beq i 76 then 76 else bif Nat.beq i 80 then 76 else bif Nat.beq i 85 then 76 else 0)
 frzNew:=[3]
 tails:=true
 capF:=true }
abbrev ZcV:List Value:=[int i64 2,int i64 0,int i64 0,int i64 0,int i64 0,int i64 0,int i64 0,int i64 0,int i64 0,int i64 0,int i64 0,int i64 0,int i64 0,int i64 0,int i64 0,int i64 0,int
 i64 0,int i64 0,int i64 0,int i64 0,int i64 0,int i64 0,int i64 0,int i64 0,int i64 0,int i64 0,int i64 0,int i64 0,int i64 0,int i64 0,int i64 0,int i64 0,int i64 0,int i64 0,int i64 0,int i64 0,int
 i64 0,int i64 0,int i64 0,int i64 0,int i64 0,int i64 0,int i64 0,int i64 0,int i64 0,int i64 0,int i64 0,int i64 0,int i64 0,int i64 0,int i64 0,int i64 0,int i64 0,int i64 0,int i64 0,int i64 0,int
 i64 0,int i64 0,int i64 0,int i64 0,int i64 0,int i64 0,int i64 0,int i64 0,int i64 0,int i64 0,int i64 0,int i64 0,int i64 0,int i64 0,int i64 0,int i64 0,int i64 0,int i64 0,int i64 0,int i64 0,int
 i64 0,int i64 0,int i64 0,int i64 0,int i64 0,int i64 0,int i64 0,int i64 0,int i64 0,int i64 0,int i64 0,int i64 0,int i64 0,int i64 0,int i64 0,int i64 0,int i64 0,int i64 0,int i64 0,int i64 0,int
 i64 0,int i64 0,int i64 0,int i64 0,int i64 0,int i64 0,int i64 0,int i64 0,int i64 0,int i64 0,int i64 0,int i64 0,int i64 0,int i64 0,int i64 0,int i64 0,int i64 0,int i64 0,int i64 0,int i64 0,int
 i64 0,int i64 0,int i64 0,int i64 0,int i64 0,int i64 0,int i64 0,int i64 0,int i64 0,int i64 0,int i64 0,int i64 0,int i64 0,int i64 0,int i64 0,int i64 0,int i64 0,int i64 0,int i64 0,int i64 0,int
 i64 0,int i64 0,int i64 0,int i64 0,int i64 0,int i64 0,int i64 0,int i64 0,int i64 0,int i64 0,int i64 0,int i64 0,int i64 0,int i64 0,int i64 0,int i64 0,int i64 0,int i64 0,int i64 0,int i64 0,int
 i64 0,int i64 0,int i64 0,int i64 0,int i64 0,int i64 0,int i64 0,int i64 0,int i64 0,int i64 0,int i64 0,int i64 0,int i64 0,int i64 0,int i64 0,int i64 0,int i64 0,int i64 0,int i64 0,int i64 0,int
 i64 0,int i64 0,int i64 0,int i64 0,int i64 0,int i64 0,int i64 0,int i64 0,int i64 0,int i64 0,int i64 0,int i64 0,int i64 0,int i64 0,int i64 0,int i64 0,int i64 0,int i64 0,int i64 0,int i64 0,int
 i64 0,int i64 0,int i64 0,int i64 0,int i64 0,int i64 0,int i64 0,int i64 0,int i64 0,int i64 0,int i64 0,int i64 0,int i64 0,int i64 0,int i64 0,int i64 0,int i64 0,int i64 0,int i64 0,int i64 0,int
 i64 0,int i64 0,int i64 0,int i64 0,int i64 0,int i64 0,int i64 0,int i64 0,int i64 0,int i64 0,int i64 0,int i64 0,int i64 0,int i64 0,int i64 0,int i64 0,int i64 0,int i64 0,int i64 0,int i64 0,int
 i64 0,int i64 0,int i64 0,int i64 0,int i64 0,int i64 0,int i64 0,int i64 0,int i64 0,int i64 0,int i64 0,int i64 0,int i64 0,int i64 0,int i64 0,int i64 0,int i64 0,int i64 0,int i64 0,int i64 0,int
 i64 0,int i64 0,int i64 0,slice none 0 0]
abbrev Zhu:Int->Int->Int->Int->Nat->Option Box:=λ(aN aK aL aM:Int)(b:Nat)=>some (Box.mk b [int i64 aN,int i64 aK,int i64 aL,int i64 aM] 72 4 true true)
abbrev ZeJ:Int->Int->Int->Int->Nat->List (Option Box):=λ(aN aK aL aM:Int)(b:Nat)=>[Zhu aN aK aL aM b]
abbrev Zhv:List Value->Nat->Option Box:=λ(cs:List Value)(b:Nat)=>some (Box.mk b cs 70 260 false true)
abbrev ZdG:Int->Int->Int->Int->Nat->List Value->Nat->List (Option Box):=λ(aN aK aL aM:Int)(b:Nat)(cs:List Value)(ap:Nat)=>[Zhv cs ap,Zhv cs ap,
 Zhu aN aK aL aM b]
def Zhw(p0a:Option Addr)(p0n p0c:Nat)(aN aK aL aM:Int)(m:Mem)(R:RT):Prop:=
 ∀(b:Nat)(m':Mem),Mem.le m m'->Mem.reads m' b 0 [int i64 aN,int i64 aK,int i64 aL,int i64 aM]->∃(ap:Nat),∃(o:Nat),p0a=some (Addr.mk ap o none)/\Zad aK p0n/\∃(vs:List Value),
 List.length vs=260/\Mem.reads m' ap (o+Int.toNat aK*260) vs/\∃(R_1:RT),True/\CX Try.prog 63 (Array.mk [agg (Array.mk vs)]) m' [] R_1/\Zau Shape.slice R_1/\∀(a:Option Addr)(n c:Nat)(au:Mem),
 Mem.le m' au->R_1 (slice a n c) au []->∃(I:IT),(∃(n:Nat),I [slice none 0 0,int i64 0] [] [slice none 0 0] au n)/\∀(al:Option Addr)(ab c:Nat)(aq:Int)(ad:Option Addr)(ae af:Nat)(m':Mem) (a2:
 Nat),Mem.le au m'->I [slice al ab c,int i64 aq] [] [slice ad ae af] m' a2->br (decide (aq < aM)) (∃(am:Nat),∃(o:Nat),a=some (Addr.mk am o none)/\Zad aq n/\∃(vs:List Value),List.length vs=256
 /\ Mem.reads m' am (o+Int.toNat aq*256) vs/\chk (Nat.beq (List.length vs) 256&&true) (chk (Nat.beq (List.length (List.append vs (List.drop (1+List.length vs) ZcV))) (nat_lit 259)&&true) (∀(ac:
 Nat),Mem.free m' ac->((∃(a:Option Addr),∃(n:Nat),∃(ak:Nat),∃(k:Nat),Tok.mk (slice ad ae af) 260=Tok.mk (slice a n ak) 260/\k<=n/\slice al ab c=slice (ZaM a k ak 260) (n - k) (ak - k))\/slice
 al ab c=slice none 0 0\/c < ab+1)/\∃(xs:List Value),∃(ys:List Value),List.length xs=ab*260/\List.length ys=1*260/\rowRd (Mem.add m' ac (int i64 2::List.append (List.append vs (List.drop (1 +
 List.length vs) ZcV)) [])) al xs/\rowRd (Mem.add m' ac (int i64 2::List.append (List.append vs (List.drop (1+List.length vs) ZcV)) [])) (some (Addr.mk ac 0 none)) ys/\(∀(u:Value),u∈ys->
 Value.oneCell' u=true)/\(ab+1)*2096<=140737488355328/\ab+1<=9223372036854775807/\∀(a':Option Addr)(c':Nat)(ag:Mem),Mem.le (Mem.add m' ac (int i64 2::List.append (List.append vs (List.drop (1 +
 List.length vs) ZcV)) [])) ag->rowRd ag a' (List.append xs ys)->ab+1<=c'->Zaz (ZeJ aN aK aL aM b)/\∃(n':Nat),n' < a2/\I [slice a' (ab+1) c',int i64 (IntKind.wrap i64 (aq +
 (1:Int)))] [] [slice a' (ab+1) c'] ag n'))) (∃(I:IT),(∃(n:Nat),I [slice none 0 0,bool false,int i64 aK] [] [slice none 0 0] m' n)/\∀(a:Option Addr)(n ak:Nat)(am:Bool)(ao:Int) (ah:Option
 Addr) (ai aj:Nat) (ag:Mem) (ax:Nat),Mem.le m' ag->I [slice a n ak,bool am,int i64 ao] [] [slice ah ai aj] ag ax->br (decide (ao < aL)) (∃(f:Fx),∃(ac:Nat),∃(o:Nat),p0a=some (Addr.mk ac o none)
 /\ Zad ao p0n/\∃(vs:List Value),List.length vs=260/\Mem.reads ag ac (o+Int.toNat ao*260) vs/\∃(R:RT),R=f 6 [agg (Array.mk vs),int i64 aM] ag/\CX Try.prog 122 (Array.mk [agg (Array.mk vs),int
 i64 aM]) ag [] R/\Zau Shape.cells R/\∀(cs:List Value)(m':Mem),Mem.le ag m'->R (agg (Array.mk cs)) m' []->∀(av:Nat),chk (Nat.beq (List.length cs) 260&&ZbA cs) (∀(M:Mem),Mem.le ag M->Mem.le m' M
 -> ∃(ay:Bool),(Eng.Zvl cs 0 λ(v:Value)=>chk (ZaG i64 v&&decide (i64=i64)) (br (RowKit.intOf v == (1:Int)) (Zaz (ZdG aN aK aL aM b cs av)/\[some (Tok.mk (slice ah ai aj) 260),
 some (Tok.mk (slice ad ae af) 260)]=[some (Tok.mk (slice ah ai aj) 260),some (Tok.mk (slice ad ae af) 260)]/\[bool am]=[bool ay]) (Zaz (ZdG aN aK aL aM b cs av)/\[some (Tok.mk (slice ah ai
 aj) 260),some (Tok.mk (slice ad ae af) 260)]=[some (Tok.mk (slice ah ai aj) 260),some (Tok.mk (slice ad ae af) 260)]/\[bool false]=[bool ay])))/\br ay (Zaz (ZeJ aN aK aL aM b)/\[some
 (Tok.mk (slice ad ae af) 260)]=[some (Tok.mk (slice ad ae af) 260)]/\∃(n':Nat),n' < ax/\I [slice a n ak,bool am,int i64 (IntKind.wrap i64 (ao+(1:Int)))] [] [slice ah ai aj] M n') (∃(az:Bool),br am
 (Zaz (ZdG aN aK aL aM b cs av)/\[some (Tok.mk (slice ah ai aj) 260),some (Tok.mk (slice ad ae af) 260)]=[some (Tok.mk (slice ah ai aj) 260),some (Tok.mk (slice ad ae af) 260)]/\[bool true] =
 [bool az]) (Eng.Zvl cs 0 λ(v:Value)=>chk (ZaG i64 v&&decide (i64=i64)) (Zaz (ZdG aN aK aL aM b cs av)/\[some (Tok.mk (slice ah ai aj) 260),some (Tok.mk (slice ad ae af) 260)]=[some
 (Tok.mk (slice ah ai aj) 260),some (Tok.mk (slice ad ae af) 260)]/\[bool (RowKit.intOf v == (1:Int))]=[bool az]))/\chk (Nat.beq (List.length cs) 260&&true) (∀(ar:Nat),Mem.free M ar->((∃(a3:Option Addr),
 ∃(a0:Nat),∃(c:Nat),∃(k:Nat),Tok.mk (slice ah ai aj) 260=Tok.mk (slice a3 a0 c) 260/\k<=a0/\slice a n ak=slice (ZaM a3 k c 260) (a0 - k) (c - k))\/slice a n ak=slice none 0 0\/ak < n+1)/\∃
 (xs:List Value),∃(ys:List Value),List.length xs=n*260/\List.length ys=1*260/\rowRd (Mem.add M ar (List.append cs [])) a xs/\rowRd (Mem.add M ar (List.append cs [])) (some (Addr.mk ar 0 none)) ys/\(∀
 (u:Value),u∈ys->Value.oneCell' u=true)/\(n+1)*2096<=140737488355328/\n+1<=9223372036854775807/\∀(a':Option Addr)(c':Nat)(m':Mem),Mem.le (Mem.add M ar (List.append cs [])) m'->rowRd m' a'
 (List.append xs ys)->n+1<=c'->Zaz (ZeJ aN aK aL aM b)/\[some (Tok.mk (slice ad ae af) 260)]=[some (Tok.mk (slice ad ae af) 260)]/\∃(n':Nat),n' < ax/\I [slice a' (n+1) c',bool az,
 int i64 (IntKind.wrap i64 (ao+(1:Int)))] [] [slice a' (n+1) c'] m' n')))) (∃(R_2:RT),True/\CX Try.prog 119 (Array.mk [slice a n ak]) ag [] R_2/\Zau Shape.cells R_2/\∀(cs:List Value)(m':Mem),Mem.le
 ag m'->R_2 (agg (Array.mk cs)) m' []->chk (Nat.beq (List.length cs) 260&&true) (∀(b:Nat),Mem.free m' b->((∃(a:Option Addr),∃(n:Nat),∃(a1:Nat),∃(k:Nat),Tok.mk (slice ad ae af) 260=Tok.mk (slice
 a n a1) 260/\k<=n/\slice al ab c=slice (ZaM a k a1 260) (n - k) (a1 - k))\/slice al ab c=slice none 0 0\/c < ab+1)/\∃(xs:List Value),∃(ys:List Value),List.length xs=ab*260/\List.length ys=1
 * 260/\rowRd (Mem.add m' b (List.append cs [])) al xs/\rowRd (Mem.add m' b (List.append cs [])) (some (Addr.mk b 0 none)) ys/\(∀(u:Value),u∈ys->Value.oneCell' u=true)/\(ab+1)*2096<=140737488355328/\ab
 + 1<=9223372036854775807/\∀(a':Option Addr)(c':Nat)(aw:Mem),Mem.le (Mem.add m' b (List.append cs [])) aw->rowRd aw a' (List.append xs ys)->ab+1<=c'->∃(R_3:RT),True/\CX Try.prog 118 (Array.mk
 [slice a' (ab+1) c']) aw [] R_3/\Zau Shape.cells R_3/\∀(cs:List Value)(m':Mem),Mem.le aw m'->R_3 (agg (Array.mk cs)) m' []->∀(b:Nat),chk (Nat.beq (List.length cs) 260&&ZbA cs) (∀(b:Nat),
 Mem.free m' b->((0:Int)<=aK/\aK<=(↑p0c:Int))/\br (Nat.beq (Int.toNat aK - 0) 0) (chk (Nat.beq (List.length cs) 260&&true) (∀(ac:Nat),Mem.free (Mem.add m' b []) ac->(slice (some (Addr.mk b 0 none))
 0 0=slice none 0 0\/0 < 0+1)/\∃(xs:List Value),∃(ys:List Value),List.length xs=0*260/\List.length ys=1*260/\rowRd (Mem.add (Mem.add m' b []) ac (List.append cs [])) (some (Addr.mk b 0 none)) xs/\
 rowRd (Mem.add (Mem.add m' b []) ac (List.append cs [])) (some (Addr.mk ac 0 none)) ys/\(∀(u:Value),u∈ys->Value.oneCell' u=true)/\(0+1)*2096<=140737488355328/\0+1<=9223372036854775807/\∀(a':
 Option Addr) (c':Nat) (aa:Mem),Mem.le (Mem.add (Mem.add m' b []) ac (List.append cs [])) aa->rowRd aa a' (List.append xs ys)->0+1<=c'->((0:Int)<=aL/\aL<=(↑p0n:Int))/\br (Nat.beq (p0n - Int.toNat
 aL) 0) (chk (Nat.ble 1 c') (∀(M:Mem),Mem.le (Mem.add m' b []) M->Mem.le (Mem.add (Mem.add m' b []) ac (List.append cs [])) M->Mem.le aa M->Mem.le aa M->∃(m'':Mem),Mem.le m m''/\Mem.le m'' M/\R (slice a'
 1 c') m'' [])) (((∃(a:Option Addr),∃(n:Nat),∃(c:Nat),∃(k:Nat),Tok.mk (slice a' 1 c') 260=Tok.mk (slice a n c) 260/\k<=n/\slice a' 1 c'=slice (ZaM a k c 260) (n - k) (c - k))\/slice a' 1 c' =
 slice none 0 0\/c' < 1+(p0n - Int.toNat aL))/\∃(xs:List Value),∃(ys:List Value),List.length xs=1*260/\List.length ys=(p0n - Int.toNat aL)*260/\rowRd aa a' xs/\rowRd aa (ZaM p0a (Int.toNat
 aL) p0c 260) ys/\(∀(u:Value),u∈ys->Value.oneCell' u=true)/\(1+(p0n - Int.toNat aL))*2096<=140737488355328/\1+(p0n - Int.toNat aL)<=9223372036854775807/\∀(a':Option Addr)(c':Nat) (an:
 Mem),Mem.le aa an->rowRd an a' (List.append xs ys)->1+(p0n - Int.toNat aL)<=c'->∀(M:Mem),Mem.le (Mem.add m' b []) M->Mem.le (Mem.add (Mem.add m' b []) ac (List.append cs [])) M->Mem.le aa M->Mem.le an M
 -> ∃(m'':Mem),Mem.le m m''/\Mem.le m'' M/\R (slice a' (1+(p0n - Int.toNat aL)) c') m'' []))) ((slice (some (Addr.mk b 0 none)) 0 0=slice none 0 0\/0 < 0+(Int.toNat aK - 0))/\∃(xs:List Value),∃(ys:
 List Value),List.length xs=0*260/\List.length ys=(Int.toNat aK - 0)*260/\rowRd (Mem.add m' b []) (some (Addr.mk b 0 none)) xs/\rowRd (Mem.add m' b []) (ZaM p0a 0 p0c 260) ys/\(∀(u:Value),u∈ys->
 Value.oneCell' u=true)/\(0+(Int.toNat aK - 0))*2096<=140737488355328/\0+(Int.toNat aK - 0)<=9223372036854775807/\∀(a':Option Addr)(c':Nat)(aa:Mem),Mem.le (Mem.add m' b []) aa->rowRd aa a'
 (List.append xs ys)->0+(Int.toNat aK - 0)<=c'->chk (Nat.beq (List.length cs) 260&&true) (∀(b:Nat),Mem.free aa b->((∃(a:Option Addr),∃(n:Nat),∃(c:Nat),∃(k:Nat),Tok.mk (slice a' (0 +
 (Int.toNat aK - 0)) c') 260=Tok.mk (slice a n c) 260/\k<=n/\slice a' (0+(Int.toNat aK - 0)) c'=slice (ZaM a k c 260) (n - k) (c - k))\/slice a' (0+(Int.toNat aK - 0)) c'=slice none 0 0\/c' < 0 +
 (Int.toNat aK - 0)+1)/\∃(xs:List Value),∃(ys:List Value),List.length xs=(0+(Int.toNat aK - 0))*260/\List.length ys=1*260/\rowRd (Mem.add aa b (List.append cs [])) a' xs/\rowRd (Mem.add aa b
 (List.append cs [])) (some (Addr.mk b 0 none)) ys/\(∀(u:Value),u∈ys->Value.oneCell' u=true)/\(0+(Int.toNat aK - 0)+1)*2096<=140737488355328/\0+(Int.toNat aK - 0)+1<=9223372036854775807/\∀
 (a':Option Addr) (c':Nat) (m':Mem),Mem.le (Mem.add aa b (List.append cs [])) m'->rowRd m' a' (List.append xs ys)->0+(Int.toNat aK - 0)+1<=c'->((0:Int)<=aL/\aL<=(↑p0n:Int))/\br (Nat.beq (p0n
 - Int.toNat aL) 0) (chk (Nat.ble (0+(Int.toNat aK - 0)+1) c') (∀(M:Mem),Mem.le aa M->Mem.le (Mem.add aa b (List.append cs [])) M->Mem.le m' M->Mem.le m' M->∃(m'':Mem),Mem.le m m''/\Mem.le m'' M/\R
 (slice a' (0+(Int.toNat aK - 0)+1) c') m'' [])) (((∃(a:Option Addr),∃(n:Nat),∃(c:Nat),∃(k:Nat),Tok.mk (slice a' (0+(Int.toNat aK - 0)+1) c') 260=Tok.mk (slice a n c) 260/\k<=n/\slice a'
 (0+(Int.toNat aK - 0)+1) c'=slice (ZaM a k c 260) (n - k) (c - k))\/slice a' (0+(Int.toNat aK - 0)+1) c'=slice none 0 0\/c' < 0+(Int.toNat aK - 0)+1+(p0n - Int.toNat aL))/\∃(xs:List
 Value),∃(ys:List Value),List.length xs=(0+(Int.toNat aK - 0)+1)*260/\List.length ys=(p0n - Int.toNat aL)*260/\rowRd m' a' xs/\rowRd m' (ZaM p0a (Int.toNat aL) p0c 260) ys/\(∀(u:Value),u
 ∈ ys->Value.oneCell' u=true)/\(0+(Int.toNat aK - 0)+1+(p0n - Int.toNat aL))*2096<=140737488355328/\0+(Int.toNat aK - 0)+1+(p0n - Int.toNat aL)<=9223372036854775807/\∀(a':Option Addr) (c'
 : Nat) (an:Mem),Mem.le m' an->rowRd an a' (List.append xs ys)->0+(Int.toNat aK - 0)+1+(p0n - Int.toNat aL)<=c'->∀(M:Mem),Mem.le aa M->Mem.le (Mem.add aa b (List.append cs [])) M->Mem.le m' M->
 Mem.le an M->∃(m'':Mem),Mem.le m m''/\Mem.le m'' M/\R (slice a' (0+(Int.toNat aK - 0)+1+(p0n - Int.toNat aL)) c') m'' [])))))))
theorem Zmz(p0a:Option Addr)(p0n p0c:Nat)(aN aK aL aM:Int)(m:Mem)(R:RT)(h:Zhw p0a p0n p0c aN aK aL aM m R):CX Try.prog 108 #[.slice p0a p0n p0c,.agg #[.int .i64 aN,.int .i64 aK,.int .i64 aL,.int .i64 aM]] m [] R:=
 Zaf (E:=ZoC) ZaH mix Try.func108 [.v (.slice p0a p0n p0c),.v (.agg #[.int .i64 aN,.int .i64 aK,.int .i64 aL,.int .i64 aM])] [] (by kernel_rfl) (Eq.mp (by kernel_rfl) h)
noncomputable def ZhR:Env:={ EB with
 dr:=(λi=>bif Nat.beq i 7 then[⟨0,[],[],none,[],[]⟩,⟨1,[],[],none,[0],[]⟩,⟨2,[],[],none,[0,1],[]⟩,⟨3,[2],[],none,[],[]⟩,⟨4,[2],[],none,[3],[]⟩,⟨5,[2],[],none,[],[]⟩,⟨6,[2],[],none,[5],[]⟩,⟨7,[],[],none,[0,1,2,3,4,5,6],[]⟩,⟨8,[4],[4],none,[0,1,2,3,4,5,6,7],[]⟩]else[])
 frzNew:=[2] }
def ZdY(p0:List Value)(p1a:Option Addr)(p1n p1c:Nat)(m:Mem)(R:RT):Prop:=
 chk (Nat.beq (List.length p0) 260) (∀(b:Nat)(m':Mem),Mem.le m m'->Mem.reads m' b 0 p0->∀(b:Nat),Eng.Zvl p0 0 λ(v:Value)=>chk (ZaG i64 v&&decide (i64=i64)) (br (RowKit.intOf v == (3:Int)) (∃
 (R_1:RT),True/\CX Try.prog 118 (Array.mk [slice p1a p1n p1c]) m' [] R_1/\Zau Shape.cells R_1/\∀(cs:List Value)(m'_1:Mem),Mem.le m' m'_1->R_1 (agg (Array.mk cs)) m'_1 []->chk (Nat.beq (List.length cs) 260
 && ZbA cs) (∃(m'':Mem),Mem.le m m''/\Mem.le m'' m'_1/\R (agg (Array.mk cs)) m'' [])) (chk (ZaG i64 v&&decide (i64=i64)) (br (RowKit.intOf v == (4:Int)) (∃(R_1:RT),True/\CX Try.prog 119 (Array.mk
 [slice p1a p1n p1c]) m' [] R_1/\Zau Shape.cells R_1/\∀(cs:List Value)(m'_1:Mem),Mem.le m' m'_1->R_1 (agg (Array.mk cs)) m'_1 []->chk (Nat.beq (List.length cs) 260&&ZbA cs) (∃(m'':Mem),Mem.le m m''/\
 Mem.le m'' m'_1/\R (agg (Array.mk cs)) m'' [])) (chk (ZaG i64 v&&decide (i64=i64)) (br (RowKit.intOf v == (5:Int)) (∃(f:Fx),∃(b:Nat),∃(o:Nat),p1a=some (Addr.mk b o none)/\Zad (0:Int) p1n/\
 ∃(vs:List Value),List.length vs=260/\Mem.reads m' b (o+0) vs/\Eng.Zvl p0 257 λ(v:Value)=>Eng.Zvl p0 258 λ(v_1:Value)=>∃(R_1:RT),R_1=f 7 [agg (Array.mk vs),v,v_1] m'/\CX Try.prog 120
 (Array.mk [agg (Array.mk vs),v,v_1]) m' [] R_1/\Zau Shape.cells R_1/\∀(cs:List Value)(m'_1:Mem),Mem.le m' m'_1->R_1 (agg (Array.mk cs)) m'_1 []->chk (Nat.beq (List.length cs) 260&&ZbA cs) (∀(M:Mem),
 Mem.le m' M->Mem.le m'_1 M->∃(m'':Mem),Mem.le m m''/\Mem.le m'' M/\R (agg (Array.mk cs)) m'' [])) (chk (ZaG i64 v&&decide (i64=i64)) (br (RowKit.intOf v == (6:Int)) (∃(b:Nat),∃(o:Nat),p1a=some
 (Addr.mk b o none)/\Zad (0:Int) p1n/\∃(vs:List Value),List.length vs=260/\Mem.reads m' b (o+0) vs/\∃(R_1:RT),True/\CX Try.prog 121 (Array.mk [agg (Array.mk vs)]) m' [] R_1/\Zau Shape.cells R_1/\
 ∀(cs:List Value)(m'_1:Mem),Mem.le m' m'_1->R_1 (agg (Array.mk cs)) m'_1 []->chk (Nat.beq (List.length cs) 260&&ZbA cs) (∃(m'':Mem),Mem.le m m''/\Mem.le m'' m'_1/\R (agg (Array.mk cs)) m'' [])) (chk
 (Nat.beq (List.length p0) 260&&ZbA p0) (∃(m'':Mem),Mem.le m m''/\Mem.le m'' m'/\R (agg (Array.mk p0)) m'' []))))))))))
theorem ZgC(p0:List Value)(p1a:Option Addr)(p1n p1c:Nat)(m:Mem)(R:RT)(h:ZdY p0 p1a p1n p1c m R):CX Try.prog 107 #[.agg p0.toArray,.slice p1a p1n p1c] m [] R:=
 Zaf (E:=ZhR) ZaH mix Try.func107 [.v (.agg p0.toArray),.v (.slice p1a p1n p1c)] [] (by kernel_rfl) (Eq.mp (by kernel_rfl) h)
noncomputable def ZoD:Env:={ EB with
 loops:=(λi=>bif Nat.beq i 7 then⟨[(2,.int .i64),(7,.slice),(8,.int .i64)],[],[(66,260)],false⟩ else⟨[],[],[],false⟩)
 joins:=(λi=>bif Nat.beq i 1 then some [(18,.bool)]else bif Nat.beq i 10 then some [(55,.bool)]else none)
 dr:=(λi=>bif Nat.beq i 2 then[⟨0,[3],[],none,[],[]⟩,⟨1,[3],[],none,[],[]⟩,⟨2,[3],[],none,[1],[]⟩,⟨3,[4],[],none,[],[]⟩,⟨4,[],[],none,[1,2,3],[]⟩,⟨5,[],[],none,[0,1,2,3,4],[4]⟩,⟨6,[6],[6],none,[0,1,2,3,4,5],[]⟩]else bif Nat.beq i 11 then[⟨0,[],[],none,[],[]⟩,⟨1,[3],[],none,[],[]⟩,⟨2,[3],[],none,[1],[]⟩,⟨3,[],[],none,[],[]⟩,⟨4,[],[],none,[1,2,3],[]⟩,⟨5,[],[],none,[1,2,3,4],[]⟩,⟨6,[4],[],none,[],[]⟩,⟨7,[],[],none,[],[]⟩,⟨8,[],[],none,[1,2,3,4,5,6,7],[]⟩,⟨9,[65],[65],none,[1,2,3,4,5,6,7,8],[8]⟩,⟨10,[65],[],some 66,[0,1,2,3,4,5,6,7,8,9],[9]⟩,⟨11,[],[],none,[0,1,2,3,4,5,6,7,8,9,10],[]⟩]else[])
 tokOf:=(λi=>bif Nat.beq i 66 then 66 else bif Nat.beq i 74 then 66 else 0)
 frzNew:=[3,4] }
abbrev ZmA:List Value:=[int i64 0,int i64 0,int i64 0,int i64 0,int i64 0,int i64 0,int i64 0,int i64 0,int i64 0,int i64 0,int i64 0,int i64 0,int i64 0,int i64 0,int i64 0,int i64 0,int
 i64 0,int i64 0,int i64 0,int i64 0,int i64 0,int i64 0,int i64 0,int i64 0,int i64 0,int i64 0,int i64 0,int i64 0,int i64 0,int i64 0,int i64 0,int i64 0,int i64 0,int i64 0,int i64 0,int i64 0,int
 i64 0,int i64 0,int i64 0,int i64 0,int i64 0,int i64 0,int i64 0,int i64 0,int i64 0,int i64 0,int i64 0,int i64 0,int i64 0,int i64 0,int i64 0,int i64 0,int i64 0,int i64 0,int i64 0,int i64 0,int
 i64 0,int i64 0,int i64 0,int i64 0,int i64 0,int i64 0,int i64 0,int i64 0,int i64 0,int i64 0,int i64 0,int i64 0,int i64 0,int i64 0,int i64 0,int i64 0,int i64 0,int i64 0,int i64 0,int i64 0,int
 i64 0,int i64 0,int i64 0,int i64 0,int i64 0,int i64 0,int i64 0,int i64 0,int i64 0,int i64 0,int i64 0,int i64 0,int i64 0,int i64 0,int i64 0,int i64 0,int i64 0,int i64 0,int i64 0,int i64 0,int
 i64 0,int i64 0,int i64 0,int i64 0,int i64 0,int i64 0,int i64 0,int i64 0,int i64 0,int i64 0,int i64 0,int i64 0,int i64 0,int i64 0,int i64 0,int i64 0,int i64 0,int i64 0,int i64 0,int i64 0,int
 i64 0,int i64 0,int i64 0,int i64 0,int i64 0,int i64 0,int i64 0,int i64 0,int i64 0,int i64 0,int i64 0,int i64 0,int i64 0,int i64 0,int i64 0,int i64 0,int i64 0,int i64 0,int i64 0,int i64 0,int
 i64 0,int i64 0,int i64 0,int i64 0,int i64 0,int i64 0,int i64 0,int i64 0,int i64 0,int i64 0,int i64 0,int i64 0,int i64 0,int i64 0,int i64 0,int i64 0,int i64 0,int i64 0,int i64 0,int i64 0,int
 i64 0,int i64 0,int i64 0,int i64 0,int i64 0,int i64 0,int i64 0,int i64 0,int i64 0,int i64 0,int i64 0,int i64 0,int i64 0,int i64 0,int i64 0,int i64 0,int i64 0,int i64 0,int i64 0,int i64 0,int
 i64 0,int i64 0,int i64 0,int i64 0,int i64 0,int i64 0,int i64 0,int i64 0,int i64 0,int i64 0,int i64 0,int i64 0,int i64 0,int i64 0,int i64 0,int i64 0,int i64 0,int i64 0,int i64 0,int i64 0,int
 i64 0,int i64 0,int i64 0,int i64 0,int i64 0,int i64 0,int i64 0,int i64 0,int i64 0,int i64 0,int i64 0,int i64 0,int i64 0,int i64 0,int i64 0,int i64 0,int i64 0,int i64 0,int i64 0,int i64 0,int
 i64 0,int i64 0,int i64 0,int i64 0,int i64 0,int i64 0,int i64 0,int i64 0,int i64 0,int i64 0,int i64 0,int i64 0,int i64 0,int i64 0,int i64 0,int i64 0,int i64 0,int i64 0,int i64 0,int i64 0,int
 i64 0,int i64 0,int i64 0,int i64 0,int i64 0,int i64 0,int i64 0,int i64 0,int i64 0,int i64 0,int i64 0,int i64 0,int i64 0,int i64 0,int i64 0,int i64 0,int i64 0,int i64 0,int i64 0,int i64 0,int
 i64 0,int i64 0,int i64 0,slice none 0 0]
abbrev ZmB:Nat->Option Box:=λ(b:Nat)=>some (Box.mk b ZmA 70 260 false true)
abbrev ZmC:Int->Int->Int->Int->Nat->Option Box:=λ(aN aK aL aM:Int)(b:Nat)=>some (Box.mk b [int i64 aN,int i64 aK,int i64 aL,int i64 aM] 72 4 true true)
abbrev ZmD:List Value->Nat->Option Box:=λ(p0:List Value)(b:Nat)=>some (Box.mk b p0 70 260 true true)
abbrev Zbg:List Value->Int->Int->Int->Int->Nat->Nat->Nat->List (Option Box):=λ(p0:List Value)(aN aK aL aM:Int)(b ah ai:Nat)=>[ZmB ai,ZmC aN aK aL
 aM ah,ZmD p0 b]
def Zhx(p0:List Value)(aN aK aL aM p2:Int)(m:Mem)(R:RT):Prop:=
 chk (Nat.beq (List.length p0) 260) (∀(b:Nat)(m':Mem),Mem.le m m'->Mem.reads m' b 0 p0->∀(ah:Nat)(ak:Mem),Mem.le m' ak->Mem.reads ak ah 0 [int i64 aN,int i64 aK,int i64 aL,int i64 aM]->∀(ai
 : Nat),∃(aq:Bool),(Eng.Zvl p0 0 λ(v:Value)=>chk (ZaG i64 v&&decide (i64=i64)) (br (RowKit.intOf v == (4:Int)) (Zaz (Zbg p0 aN aK aL aM b ah ai)/\[bool (p2 == aN)]=[bool
 aq]) (Zaz (Zbg p0 aN aK aL aM b ah ai)/\[bool false]=[bool aq])))/\br aq (∃(f:Fx),Eng.Zvl p0 259 λ(v:Value)=>∃(R_1:RT),R_1=f 4 [v,agg (Array.mk [int i64 aN,int i64 aK,
 int i64 aL,int i64 aM])] ak/\CX Try.prog 108 (Array.mk [v,agg (Array.mk [int i64 aN,int i64 aK,int i64 aL,int i64 aM])]) ak [] R_1/\Zau Shape.slice R_1/\∀(a:Option Addr)(n c:Nat)(m':Mem),
 Mem.le ak m'->R_1 (slice a n c) m' []->∃(R_2:RT),R_2=f 5 [agg (Array.mk p0),slice a n c] m'/\CX Try.prog 107 (Array.mk [agg (Array.mk p0),slice a n c]) m' [] R_2/\Zau Shape.cells R_2/\∀(cs:List Value)
 (aa:Mem),Mem.le m' aa->R_2 (agg (Array.mk cs)) aa []->chk (Nat.beq (List.length cs) 260&&ZbA cs) (∀(M:Mem),Mem.le ak M->Mem.le m' M->Mem.le aa M->∃(m'':Mem),Mem.le m m''/\Mem.le m'' M/\R (agg
 (Array.mk cs)) m'' [])) (Eng.Zvl p0 0 λ(v:Value)=>chk (ZaG i64 v&&decide (i64=i64)) (br (RowKit.intOf v == (4:Int)) (∃(I:IT),(∃(n:Nat),I [int i64 (IntKind.wrap i64 (p2+(1:Int))),slice none 0
 0,int i64 0] [] [slice none 0 0] ak n)/\∀(n:Int)(a:Option Addr)(ab c:Nat)(ad:Int)(ae:Option Addr)(af ag:Nat)(m':Mem)(am:Nat),Mem.le ak m'->I [int i64 n,slice a ab c,int i64 ad] [] [slice ae
 af ag] m' am->Eng.Zvl p0 259 λ(v:Value)=>chk (Zcn v) (br (decide (ad < (↑(slN v):Int))) (Eng.Zvl p0 259 λ(v:Value)=>chk (Zcn v) (∃(ap:Nat),∃(o:Nat),slA v=some (Addr.mk ap o none)/\Zad
 ad (slN v)/\∃(vs:List Value),List.length vs=260/\Mem.reads m' ap (o+Int.toNat ad*260) vs/\∃(R:RT),True/\CX Try.prog 80 (Array.mk [agg (Array.mk vs)]) m' [] R/\Zau Shape.slice R/\∀(ar:Option Addr)
 (al au:Nat) (aa:Mem),Mem.le m' aa->R (slice ar al au) aa []->∃(an:Bool),br (decide (aN ≥ n)) (Zaz (Zbg p0 aN aK aL aM b ah ai)/\[some (Tok.mk (slice ae af ag) 260)]=[some (Tok.mk
 (slice ae af ag) 260)]/\[bool (decide (aN < IntKind.wrap i64 (n+(↑al:Int))))]=[bool an]) (Zaz (Zbg p0 aN aK aL aM b ah ai)/\[some (Tok.mk (slice ae af ag) 260)]=[some (Tok.mk (slice ae
 af ag) 260)]/\[bool false]=[bool an])/\br an (∃(f:Fx),Eng.Zvl p0 259 λ(v:Value)=>chk (Zcn v) (∃(aj:Nat),∃(o:Nat),slA v=some (Addr.mk aj o none)/\Zad ad (slN v)/\∃(vs:List Value),
 List.length vs=260/\Mem.reads aa aj (o+Int.toNat ad*260) vs/\∃(R:RT),R=f 8 [agg (Array.mk vs),agg (Array.mk [int i64 aN,int i64 aK,int i64 aL,int i64 aM]),int i64 n] aa/\CX Try.prog 82
 (Array.mk [agg (Array.mk vs),agg (Array.mk [int i64 aN,int i64 aK,int i64 aL,int i64 aM]),int i64 n]) aa [] R/\Zau Shape.cells R/\∀(cs:List Value)(m':Mem),Mem.le aa m'->R (agg (Array.mk cs)) m'
 []->chk (Nat.beq (List.length cs) 260&&true) (∀(ac:Nat),Mem.free m' ac->(Tok.mk (slice ae af ag) 260=Tok.mk (slice a ab c) 260\/slice a ab c=slice none 0 0\/c < ab+1)/\∃(xs:List Value),∃(ys:List
 Value),List.length xs=ab*260/\List.length ys=1*260/\rowRd (Mem.add m' ac (List.append cs [])) a xs/\rowRd (Mem.add m' ac (List.append cs [])) (some (Addr.mk ac 0 none)) ys/\(∀(u:Value),u∈ys->
 Value.oneCell' u=true)/\(ab+1)*2096<=140737488355328/\ab+1<=9223372036854775807/\∀(a':Option Addr)(c':Nat)(ao:Mem),Mem.le (Mem.add m' ac (List.append cs [])) ao->rowRd ao a' (List.append xs ys)->
 ∀(M:Mem),Mem.le aa M->Mem.le m' M->Mem.le (Mem.add m' ac (List.append cs [])) M->Mem.le ao M->Zaz (Zbg p0 aN aK aL aM b ah ai)/\∃(n':Nat),n' < am/\I [int i64 (IntKind.wrap i64 (n +
 (↑al:Int))),slice a' (ab+1) c',int i64 (IntKind.wrap i64 (ad+(1:Int)))] [] [slice a' (ab+1) c'] M n'))) (Eng.Zvl p0 259 λ(v:Value)=>chk (Zcn v) (∃(aj:Nat),∃(o:Nat),slA v=some (Addr.mk aj o
 none)/\Zad ad (slN v)/\∃(vs:List Value),List.length vs=260/\Mem.reads aa aj (o+Int.toNat ad*260) vs/\chk (Nat.beq (List.length vs) 260&&true) (∀(ac:Nat),Mem.free aa ac->(Tok.mk (slice ae af ag)
 260=Tok.mk (slice a ab c) 260\/slice a ab c=slice none 0 0\/c < ab+1)/\∃(xs:List Value),∃(ys:List Value),List.length xs=ab*260/\List.length ys=1*260/\rowRd (Mem.add aa ac (List.append vs []))
 a xs/\rowRd (Mem.add aa ac (List.append vs [])) (some (Addr.mk ac 0 none)) ys/\(∀(u:Value),u∈ys->Value.oneCell' u=true)/\(ab+1)*2096<=140737488355328/\ab+1<=9223372036854775807/\∀(a':Option
 Addr) (c':Nat) (m':Mem),Mem.le (Mem.add aa ac (List.append vs [])) m'->rowRd m' a' (List.append xs ys)->Zaz (Zbg p0 aN aK aL aM b ah ai)/\∃(n':Nat),n' < am/\I [int i64 (IntKind.wrap i64
 (n+(↑al:Int))),slice a' (ab+1) c',int i64 (IntKind.wrap i64 (ad+(1:Int)))] [] [slice a' (ab+1) c'] m' n'))))) (∃(R_1:RT),True/\CX Try.prog 107 (Array.mk [agg (Array.mk p0),slice a ab c]) m' [] R_1/\
 Zau Shape.cells R_1/\∀(cs:List Value)(aa:Mem),Mem.le m' aa->R_1 (agg (Array.mk cs)) aa []->chk (Nat.beq (List.length cs) 260&&ZbA cs) (∃(m'':Mem),Mem.le m m''/\Mem.le m'' aa/\R (agg (Array.mk cs))
 m'' [])))) (∃(I:IT),(∃(n:Nat),I [int i64 p2,slice none 0 0,int i64 0] [] [slice none 0 0] ak n)/\∀(n:Int)(a:Option Addr)(ab c:Nat)(ad:Int)(ae:Option Addr)(af ag:Nat)(m':Mem)(am:Nat),
 Mem.le ak m'->I [int i64 n,slice a ab c,int i64 ad] [] [slice ae af ag] m' am->Eng.Zvl p0 259 λ(v:Value)=>chk (Zcn v) (br (decide (ad < (↑(slN v):Int))) (Eng.Zvl p0 259 λ(v:Value)=>chk (Zcn v) (∃
 (ap:Nat),∃(o:Nat),slA v=some (Addr.mk ap o none)/\Zad ad (slN v)/\∃(vs:List Value),List.length vs=260/\Mem.reads m' ap (o+Int.toNat ad*260) vs/\∃(R:RT),True/\CX Try.prog 80 (Array.mk [agg
 (Array.mk vs)]) m' [] R/\Zau Shape.slice R/\∀(ar:Option Addr)(al au:Nat)(aa:Mem),Mem.le m' aa->R (slice ar al au) aa []->∃(an:Bool),br (decide (aN ≥ n)) (Zaz (Zbg p0 aN aK aL aM
 b ah ai)/\[some (Tok.mk (slice ae af ag) 260)]=[some (Tok.mk (slice ae af ag) 260)]/\[bool (decide (aN < IntKind.wrap i64 (n+(↑al:Int))))]=[bool an]) (Zaz (Zbg p0 aN aK aL aM b ah ai)/\
 [some (Tok.mk (slice ae af ag) 260)]=[some (Tok.mk (slice ae af ag) 260)]/\[bool false]=[bool an])/\br an (∃(f:Fx),Eng.Zvl p0 259 λ(v:Value)=>chk (Zcn v) (∃(aj:Nat),∃(o:Nat),slA v=some
 (Addr.mk aj o none)/\Zad ad (slN v)/\∃(vs:List Value),List.length vs=260/\Mem.reads aa aj (o+Int.toNat ad*260) vs/\∃(R:RT),R=f 8 [agg (Array.mk vs),agg (Array.mk [int i64 aN,int i64 aK,int
 i64 aL,int i64 aM]),int i64 n] aa/\CX Try.prog 82 (Array.mk [agg (Array.mk vs),agg (Array.mk [int i64 aN,int i64 aK,int i64 aL,int i64 aM]),int i64 n]) aa [] R/\Zau Shape.cells R/\∀(cs:List
 Value) (m':Mem),Mem.le aa m'->R (agg (Array.mk cs)) m' []->chk (Nat.beq (List.length cs) 260&&true) (∀(ac:Nat),Mem.free m' ac->(Tok.mk (slice ae af ag) 260=Tok.mk (slice a ab c) 260\/slice a ab c=slice
 none 0 0\/c < ab+1)/\∃(xs:List Value),∃(ys:List Value),List.length xs=ab*260/\List.length ys=1*260/\rowRd (Mem.add m' ac (List.append cs [])) a xs/\rowRd (Mem.add m' ac (List.append cs [])) (some
 (Addr.mk ac 0 none)) ys/\(∀(u:Value),u∈ys->Value.oneCell' u=true)/\(ab+1)*2096<=140737488355328/\ab+1<=9223372036854775807/\∀(a':Option Addr)(c':Nat)(ao:Mem),Mem.le (Mem.add m' ac
 (List.append cs [])) ao->rowRd ao a' (List.append xs ys)->∀(M:Mem),Mem.le aa M->Mem.le m' M->Mem.le (Mem.add m' ac (List.append cs [])) M->Mem.le ao M->Zaz (Zbg p0 aN aK aL aM b ah ai)/\∃
 (n':Nat),n' < am/\I [int i64 (IntKind.wrap i64 (n+(↑al:Int))),slice a' (ab+1) c',int i64 (IntKind.wrap i64 (ad+(1:Int)))] [] [slice a' (ab+1) c'] M n'))) (Eng.Zvl p0 259 λ(v:Value)=>chk (Zcn
 v) (∃(aj:Nat),∃(o:Nat),slA v=some (Addr.mk aj o none)/\Zad ad (slN v)/\∃(vs:List Value),List.length vs=260/\Mem.reads aa aj (o+Int.toNat ad*260) vs/\chk (Nat.beq (List.length vs) 260&&true)
 (∀(ac:Nat),Mem.free aa ac->(Tok.mk (slice ae af ag) 260=Tok.mk (slice a ab c) 260\/slice a ab c=slice none 0 0\/c < ab+1)/\∃(xs:List Value),∃(ys:List Value),List.length xs=ab*260/\List.length
 ys=1*260/\rowRd (Mem.add aa ac (List.append vs [])) a xs/\rowRd (Mem.add aa ac (List.append vs [])) (some (Addr.mk ac 0 none)) ys/\(∀(u:Value),u∈ys->Value.oneCell' u=true)/\(ab+1)*2096 <=
 140737488355328/\ab+1<=9223372036854775807/\∀(a':Option Addr)(c':Nat)(m':Mem),Mem.le (Mem.add aa ac (List.append vs [])) m'->rowRd m' a' (List.append xs ys)->Zaz (Zbg p0 aN aK aL aM
 b ah ai)/\∃(n':Nat),n' < am/\I [int i64 (IntKind.wrap i64 (n+(↑al:Int))),slice a' (ab+1) c',int i64 (IntKind.wrap i64 (ad+(1:Int)))] [] [slice a' (ab+1) c'] m' n'))))) (∃(R_1:RT),True/\CX
 Try.prog 107 (Array.mk [agg (Array.mk p0),slice a ab c]) m' [] R_1/\Zau Shape.cells R_1/\∀(cs:List Value)(aa:Mem),Mem.le m' aa->R_1 (agg (Array.mk cs)) aa []->chk (Nat.beq (List.length cs) 260&&ZbA cs)
 (∃(m'':Mem),Mem.le m m''/\Mem.le m'' aa/\R (agg (Array.mk cs)) m'' [])))))))
theorem ZmE(p0:List Value)(aN aK aL aM p2:Int)(m:Mem)(R:RT)(h:Zhx p0 aN aK aL aM p2 m R):CX Try.prog 82 #[.agg p0.toArray,.agg #[.int .i64 aN,.int .i64 aK,.int .i64 aL,.int .i64 aM],.int .i64 p2] m [] R:=
 Zaf (E:=ZoD) ZaH mix Try.func82 [.v (.agg p0.toArray),.v (.agg #[.int .i64 aN,.int .i64 aK,.int .i64 aL,.int .i64 aM]),.v (.int .i64 p2)] [] (by kernel_rfl) (Eq.mp (by kernel_rfl) h)
noncomputable def ZmF:Env:={ EB with
 joins:=(λi=>bif Nat.beq i 1 then some [(2,.bool)]else none)
 frzNew:=[1] }
def ZfZ(p0:List Value)(m:Mem)(R:RT):Prop:=
 chk (Nat.beq (List.length p0) 260) (∀(b:Nat)(m':Mem),Mem.le m m'->Mem.reads m' b 0 p0->∃(b_1:Bool),(∃(R:RT),True/\CX Try.prog 79 (Array.mk [agg (Array.mk p0)]) m' [] R/\Zau Shape.bool R/\∀(b_2:
 Bool) (m'_1:Mem),Mem.le m' m'_1->R (bool b_2) m'_1 []->br b_2 (∃(R:RT),True/\CX Try.prog 44 (Array.mk [agg (Array.mk p0)]) m'_1 [] R/\Zau (Shape.int i64) R/\∀(n:Int)(m':Mem),Mem.le m'_1 m'->R (int
 i64 n) m' []->[some (Box.mk b p0 70 260 true true)]=[some (Box.mk b p0 70 260 true true)]/\[bool (decide (n<=(120:Int)))]=[bool b_1]) ([some (Box.mk b p0 70 260 true true)]=[some (Box.mk b p0 70 260 true
 true)]/\[bool false]=[bool b_1]))/\∃(m'':Mem),Mem.le m m''/\Mem.le m'' m'/\R (bool b_1) m'' [])
theorem Zke(p0:List Value)(m:Mem)(R:RT)(h:ZfZ p0 m R):CX Try.prog 40 #[.agg p0.toArray] m [] R:=
 Zaf (E:=ZmF) ZaH mix Try.func40 [.v (.agg p0.toArray)] [] (by kernel_rfl) (Eq.mp (by kernel_rfl) h)
noncomputable def ZqS:Env:={ EB with
 loops:=(λi=>bif Nat.beq i 3 then⟨[(7,.int .i64)],[4],[],false⟩ else⟨[],[],[],false⟩)
 dr:=(λi=>bif Nat.beq i 5 then[⟨0,[],[],none,[],[]⟩,⟨1,[],[],none,[],[]⟩,⟨2,[],[],none,[0,1],[]⟩,⟨3,[],[],none,[0,1,2],[]⟩,⟨4,[3],[],none,[],[]⟩,⟨5,[],[],none,[0,1,2,3,4],[]⟩]else[])
 frzNew:=[2,3] }
abbrev Zfx:List Value:=[int i64 0,int i64 0,int i64 0,int i64 0,int i64 0,int i64 0,int i64 0,int i64 0,int i64 0,int i64 0,int i64 0,int i64 0,int i64 0,int i64 0,int i64 0,int i64 0,int
 i64 0,int i64 0,int i64 0,int i64 0,int i64 0,int i64 0,int i64 0,int i64 0,int i64 0,int i64 0,int i64 0,int i64 0,int i64 0,int i64 0,int i64 0,int i64 0,int i64 0,int i64 0,int i64 0,int i64 0,int
 i64 0,int i64 0,int i64 0,int i64 0,int i64 0,int i64 0,int i64 0,int i64 0,int i64 0,int i64 0,int i64 0,int i64 0,int i64 0,int i64 0,int i64 0,int i64 0,int i64 0,int i64 0,int i64 0,int i64 0,int
 i64 0,int i64 0,int i64 0,int i64 0,int i64 0,int i64 0,int i64 0,int i64 0,int i64 0,int i64 0,int i64 0,int i64 0,int i64 0,int i64 0,int i64 0,int i64 0,int i64 0,int i64 0,int i64 0,int i64 0,int
 i64 0,int i64 0,int i64 0,int i64 0,int i64 0,int i64 0,int i64 0,int i64 0,int i64 0,int i64 0,int i64 0,int i64 0,int i64 0,int i64 0,int i64 0,int i64 0,int i64 0,int i64 0,int i64 0,int i64 0,int
 i64 0,int i64 0,int i64 0,int i64 0,int i64 0,int i64 0,int i64 0,int i64 0,int i64 0,int i64 0,int i64 0,int i64 0,int i64 0,int i64 0,int i64 0,int i64 0,int i64 0,int i64 0,int i64 0,int i64 0,int
 i64 0,int i64 0,int i64 0,int i64 0,int i64 0,int i64 0,int i64 0,int i64 0,int i64 0,int i64 0,int i64 0,int i64 0,int i64 0,int i64 0,int i64 0,int i64 0,int i64 0,int i64 0,int i64 0,int i64 0,int
 i64 0,int i64 0,int i64 0,int i64 0,int i64 0,int i64 0,int i64 0,int i64 0,int i64 0,int i64 0,int i64 0,int i64 0,int i64 0,int i64 0,int i64 0,int i64 0,int i64 0,int i64 0,int i64 0,int i64 0,int
 i64 0,int i64 0,int i64 0,int i64 0,int i64 0,int i64 0,int i64 0,int i64 0,int i64 0,int i64 0,int i64 0,int i64 0,int i64 0,int i64 0,int i64 0,int i64 0,int i64 0,int i64 0,int i64 0,int i64 0,int
 i64 0,int i64 0,int i64 0,int i64 0,int i64 0,int i64 0,int i64 0,int i64 0,int i64 0,int i64 0,int i64 0,int i64 0,int i64 0,int i64 0,int i64 0,int i64 0,int i64 0,int i64 0,int i64 0,int i64 0,int
 i64 0,int i64 0,int i64 0,int i64 0,int i64 0,int i64 0,int i64 0,int i64 0,int i64 0,int i64 0,int i64 0,int i64 0,int i64 0,int i64 0,int i64 0,int i64 0,int i64 0,int i64 0,int i64 0,int i64 0,int
 i64 0,int i64 0,int i64 0,int i64 0,int i64 0,int i64 0,int i64 0,int i64 0,int i64 0,int i64 0,int i64 0,int i64 0,int i64 0,int i64 0,int i64 0,int i64 0,int i64 0,int i64 0,int i64 0,int i64 0,int
 i64 0,int i64 0,int i64 0,int i64 0,int i64 0,int i64 0,int i64 0,int i64 0,int i64 0,int i64 0,int i64 0,int i64 0,int i64 0,int i64 0,int i64 0,int i64 0,int i64 0,int i64 0,int i64 0,int i64 0,int
 i64 0,int i64 0,int i64 0,slice none 0 0]
abbrev ZoE:Int->Int->Int->Int->Nat->Option Box:=λ(aN aK aL aM:Int)(b:Nat)=>some (Box.mk b [int i64 aN,int i64 aK,int i64 aL,int i64 aM] 72 4 true true)
abbrev ZoF:List Value->Nat->Option Box:=λ(p0:List Value)(b:Nat)=>some (Box.mk b p0 70 260 true true)
abbrev ZoG:List Value->Int->Int->Int->Int->Nat->Nat->Nat->List (Option Box):=λ(p0:List Value)(aN aK aL aM:Int)(b b_1 b_2:Nat)=>[some (Box.mk b_2 [] 70 260 false true),
 ZoE aN aK aL aM b_1,ZoF p0 b]
def Zi0(p0:List Value)(aN aK aL aM:Int)(m:Mem)(R:RT):Prop:=
 chk (Nat.beq (List.length p0) 260) (∀(b:Nat)(m':Mem),Mem.le m m'->Mem.reads m' b 0 p0->∀(b_1:Nat)(m'_1:Mem),Mem.le m' m'_1->Mem.reads m'_1 b_1 0 [int i64 aN,int i64 aK,int i64 aL,int i64 aM]
 -> ∀(b_2:Nat),∃(R_1:RT),True/\CX Try.prog 41 (Array.mk [agg (Array.mk p0)]) m'_1 [] R_1/\Zau Shape.slice R_1/\∀(a:Option Addr)(n c:Nat)(m':Mem),Mem.le m'_1 m'->R_1 (slice a n c) m' []->∃(I:IT),
 (∃(n:Nat),I [int i64 0] [Zfx] [] m' n)/\∀(n_1:Int)(cs:List Value)(m'_2:Mem)(n_2:Nat),Mem.le m' m'_2->I [int i64 n_1] [cs] [] m'_2 n_2->br (decide (n_1 < (↑n:Int))) (∃(b_3:Nat),∃(o:
 Nat),a=some (Addr.mk b_3 o none)/\Zad n_1 n/\∃(v:Value),∃(v_1:Value),∃(v_2:Value),∃(v_3:Value),Mem.reads m'_2 b_3 (o+Int.toNat n_1*4) [v,v_1,v_2,v_3]/\∃(b_4:Bool),EqIs Try.prog 72
 (agg (Array.mk [v,v_1,v_2,v_3])) (agg (Array.mk [int i64 aN,int i64 aK,int i64 aL,int i64 aM])) b_4/\br b_4 (∃(R_2:RT),True/\CX Try.prog 82 (Array.mk [agg (Array.mk p0),agg (Array.mk [int i64 aN,
 int i64 aK,int i64 aL,int i64 aM]),int i64 0]) m'_2 [] R_2/\Zau Shape.cells R_2/\∀(cs:List Value)(m':Mem),Mem.le m'_2 m'->R_2 (agg (Array.mk cs)) m' []->chk (Nat.beq (List.length cs) 260&&ZbA
 cs) (∃(m'':Mem),Mem.le m m''/\Mem.le m'' m'/\R (tuple (Array.mk [agg (Array.mk cs),int i64 0])) m'' [])) (Zaz (ZoG p0 aN aK aL aM b b_1 b_2)/\∃(n':Nat),n' < n_2/\I [int i64 (IntKind.wrap
 i64 (n_1+(1:Int)))] [cs] [] m'_2 n')) (∃(m'':Mem),Mem.le m m''/\Mem.le m'' m'_2/\R (tuple (Array.mk [agg (Array.mk Zfx),int i64 150])) m'' []))
theorem ZoH(p0:List Value)(aN aK aL aM:Int)(m:Mem)(R:RT)(h:Zi0 p0 aN aK aL aM m R):CX Try.prog 42 #[.agg p0.toArray,.agg #[.int .i64 aN,.int .i64 aK,.int .i64 aL,.int .i64 aM]] m [] R:=
 Zaf (E:=ZqS) ZaH mix Try.func42 [.v (.agg p0.toArray),.v (.agg #[.int .i64 aN,.int .i64 aK,.int .i64 aL,.int .i64 aM])] [] (by kernel_rfl) (Eq.mp (by kernel_rfl) h)
end Go.Proofs.Ytfgfahnakepegaa
set_option linter.unusedVariables false
set_option linter.unusedSimpArgs false
namespace Go.Proofs.Ytfgfahnakepegaa
open Go Go.Eng Go.Rx Go.Proofs Go.RowKit
set_option maxRecDepth 100000
theorem ZnL{L:List C4}:∀(v:Value)(m':Mem) (css:List (List Value)),ZAv L v m' css->Shape.fits .slice v=true:=λv _ _ ⟨_,_,h,_⟩=>by rw[h];rfl
theorem ZmG{m:Mem}{b:Nat}{cs:List Value}:rowRd (m.add b cs) (some ⟨b,0,none⟩) cs:=.inr ⟨b,0,rfl,λj u hj=>by rw[Nat.zero_add,Mem.add_same];exact hj⟩
theorem Zvf(t:T)(cs:List Value)(m:Mem)(hr:RefT m t cs):CX Try.prog 40 #[.agg cs.toArray] m [] (Ret (.bool (T.rgt t))):=by
 apply Zke
 unfold ZfZ
 refine hr.chk λb m1 aO _=>⟨T.rgt t,Zak (ZgA t cs m1 (hr.mono aO)) λm2 aP=>Zab (λh=>Zc4 (Zo9 t cs m2 (hr.mono (mLt aO aP))) λm3 aX=>⟨by trivial,?_⟩) (λh=>⟨by trivial,?_⟩),Zaj aO rfl⟩
 ·unfold T.rgt;rw[h];rfl
 ·unfold T.rgt;rw[h];rfl
theorem Zpa{t:T}(hz:t.nodes.length<=300):t.cuts.length<=90000:=by
 have h:=ZwD (t:=t) (n:=299) (by omega)
 omega
set_option maxHeartbeats 1600000 in
theorem ZnM(t:T)(cs:List Value)(m:Mem)(hr:RefT m t cs)(hz:t.nodes.length<=300):CX Try.prog 41 #[.agg cs.toArray] m [] (ZAv t.cuts):=by
 apply Zmv
 unfold Zht
 have bN:=Zpa hz
 have iC:=Zs7 t
 refine hr.chk λb m1 aO _=>Zag (ZtG t cs m1 (hr.mono aO) (by omega)) ZdX ?_
 rintro a n c m2 aP ⟨aa,ca,ass,hv,uT,vG⟩
 simp only[Value.slice.injEq]at hv
 obtain⟨rfl,rfl,rfl⟩:=hv
 have bY:=mLt aO aP
 refine⟨λxs _ tvs m' q=>∃(j:Nat)(P:List C4)(a1:Option Addr)(c1:Nat),j<=t.alts.length/\xs=[.slice a1 P.length c1,.int .i64 j]/\tvs=[.slice a1 P.length c1]/\rowRd m' a1 (Za9 P)/\P++Ze6 j (t.alts.drop j)=t.cuts/\q=t.alts.length - j,⟨_,0,[],none,0,Nat.zero_le _,rfl,rfl,.inl rfl,rfl,rfl⟩,?_⟩
 rintro a1 n1 c1 z a2 n2 c2 m3 q aX ⟨j,P,a3,c3,hj,bB,cF,aR,hP,hq⟩
 simp only[List.cons.injEq,Value.slice.injEq,Value.int.injEq,true_and,and_true]at bB cF
 obtain⟨⟨rfl,rfl,rfl⟩,rfl⟩:=bB
 obtain⟨rfl,rfl,rfl⟩:=cF
 subst hq
 have bT:=mLt bY aX
 refine ZbF (λaS=>?_) (λbR=>?_)
 ·have aQ:j < t.alts.length:=by omega
  obtain⟨al,pT⟩:=ZaY aQ
  obtain⟨b0,o0,csa,rfl,bC,zn⟩:=Zb1 uT vG pT
  have dB:Zad (j:Int) t.alts.length:=⟨by omega,by omega⟩
  obtain⟨_,_,sa,sc,sss,rfl,zo,vH,sA⟩:=ZaX.1 zn
  have zp:IntKind.i64.wrap ((j:Int)+1)=((j+1:Nat):Int):=by rw[ZaA (by omega) (by omega)];rfl
  simp only[zp,Int.toNat_natCast]
  rw[ZrR pT]at hP
  have wG:=ZlT t
  have AP:=ZuE (List.mem_of_getElem? pT)
  have bJ:al.subs.length<=300:=by omega
  refine⟨b0,o0,rfl,dB,_,Zfw (bC.mono aX) (Zqg _ _ _ _ _ _ _),λxs _ tvs m' q=>∃(f:Nat)(P:List C4)(a1:Option Addr)(c1:Nat),f<=al.subs.length/\xs=[.slice a1 P.length c1,.int .i64 f]/\tvs=[.slice a1 P.length c1]/\rowRd m' a1 (Za9 P)/\P++(ZeG j f (al.subs.drop f)++Ze6 (j+1) (t.alts.drop (j+1)))=t.cuts/\q=al.subs.length - f,⟨_,0,P,_,_,Nat.zero_le _,rfl,rfl,aR,hP,rfl⟩,?_⟩
  clear hP aR
  rintro a4 n4 c4 z a5 n5 c5 m4 q bK ⟨f,P2,a6,c6,hf,bB,cF,aR,hP,hq⟩
  simp only[List.cons.injEq,Value.slice.injEq,Value.int.injEq,true_and,and_true]at bB cF
  obtain⟨⟨rfl,rfl,rfl⟩,rfl⟩:=bB
  obtain⟨rfl,rfl,rfl⟩:=cF
  subst hq
  have gA:=mLt bT bK
  have zq:IntKind.i64.wrap ((f:Int)+1)=((f+1:Nat):Int):=by rw[ZaA (by omega) (by omega)];rfl
  have vI:IntKind.i64.wrap ((f:Int)+2)=((f+1+1:Nat):Int):=by rw[ZaA (by omega) (by omega)];omega
  simp only[zq,vI]
  refine Zaa rfl (ZbF (λeK=>?_) (λmS=>?_))
  ·have iE:f < al.subs.length:=by simp only[slN]at eK;omega
   obtain⟨x,hx⟩:=ZaY iE
   rw[ZrQ hx,List.append_assoc]at hP
   refine⟨λxs _ tvs m' q=>∃(to:Nat)(P:List C4)(a1:Option Addr)(c1:Nat),f+1<=to/\to<=al.subs.length/\xs=[.slice a1 P.length c1,.int .i64 (to+1:Nat)]/\tvs=[.slice a1 P.length c1]/\rowRd m' a1 (Za9 P)/\P++(runE j f ((Zao x).take (ZmU (seg al.subs f to))) (to+1) (al.subs.drop to)++(ZeG j (f+1) (al.subs.drop (f+1))++Ze6 (j+1) (t.alts.drop (j+1))))=t.cuts/\q=al.subs.length - to,⟨_,f+1,P2,_,_,Nat.le_refl _,iE,rfl,rfl,aR,hP,rfl⟩,?_⟩
   clear hP aR
   rintro a7 n7 c7 z a8 n8 c8 m5 q cU ⟨to,P3,a9,c9,uB,uW,bB,cF,aR,hP,hq⟩
   simp only[List.cons.injEq,Value.slice.injEq,Value.int.injEq,true_and,and_true]at bB cF
   obtain⟨⟨rfl,rfl,rfl⟩,rfl⟩:=bB
   obtain⟨rfl,rfl,rfl⟩:=cF
   subst hq
   have AQ:=mLt gA cU
   have zr:IntKind.i64.wrap (((to+1:Nat):Int)+1)=((to+1+1:Nat):Int):=by rw[ZaA (by omega) (by omega)];omega
   simp only[zr]
   refine Zaa rfl (ZbF (λvJ=>?_) (λvK=>?_))
   ·have sB:to < al.subs.length:=by simp only[slN]at vJ;omega
    obtain⟨y,hy⟩:=ZaY sB
    rw[ZwG hx uB hy]at hP
    have vL:=ZqQ (zo.mono (mLt aX (mLt bK cU))) (vH.mono (mLt aX (mLt bK cU))) (i:=f) (n:=to+1) (c:=sc) (by omega) (by omega) sA
    rw[Zg8 (by omega) hx]at vL hP
    have dX:(x::seg al.subs (f+1) (to+1)).length=to+1 - f:=by rw[<-Zg8 (by omega) hx,ZvL (by omega)]
    have aU:=Zsq x (seg al.subs (f+1) (to+1)) _ _ (sc - f) m5 vL.1 vL.2 (by omega)
    rw[dX]at aU
    refine Zaa rfl ⟨⟨by omega,by simp only[slC];omega⟩,⟨by omega,by omega⟩,?_⟩
    simp only[Int.toNat_natCast]
    refine Zc4 aU λm6 dU=>ZbF (λfV=>λb6 lX=>?_) (λfV=>?_)
    ·rw[if_pos (by omega)]at hP
     have AR:P3.length+1<=t.cuts.length:=by
      rw[<-hP]
      simp only[List.length_append,List.length_cons,List.length_nil];omega
     refine⟨.inl trivial,Za9 P3,ZcJ ⟨j,f,to+1,ZmU (x::seg al.subs (f+1) (to+1))⟩,ZeH _,rfl,(aR.mono dU).mono (Mem.le_add lX _),ZmG,ZwR _,by omega,by omega,λa10 c10 m7 dA eW=>⟨by trivial,by trivial,al.subs.length - (to+1),by omega,to+1,P3++[⟨j,f,to+1,ZmU (x::seg al.subs (f+1) (to+1))⟩],a10,c10,by omega,by omega,?_,?_,?_,?_,rfl⟩⟩
     ·rw[List.length_append];rfl
     ·rw[List.length_append];rfl
     ·rw[ZfQ];exact eW
     ·rw[<-hP,Zg8 (by omega) hx,List.append_assoc,List.append_assoc]
    ·rw[if_neg (by omega),List.nil_append]at hP
     exact⟨by trivial,by trivial,al.subs.length - (to+1),by omega,to+1,P3,_,_,by omega,by omega,rfl,rfl,aR.mono dU,by rw[Zg8 (by omega) hx];exact hP,rfl⟩
   ·have:to=al.subs.length:=by simp only[slN]at vK;omega
    subst this
    rw[Zyl (Nat.le_refl _),List.nil_append]at hP
    exact⟨by trivial,by trivial,al.subs.length - (f+1),by omega,f+1,P3,_,_,iE,rfl,rfl,aR,hP,rfl⟩
  ·have:f=al.subs.length:=by simp only[slN]at mS;omega
   subst this
   rw[List.drop_length,show ZeG j al.subs.length []=[] from rfl,List.nil_append]at hP
   exact⟨by trivial,t.alts.length - (j+1),by omega,j+1,P2,_,_,aQ,rfl,rfl,aR,hP,rfl⟩
 ·have:j=t.alts.length:=by omega
  subst this
  rw[List.drop_length,show Ze6 t.alts.length []=[] from rfl,List.append_nil]at hP
  subst hP
  exact⟨m3,bT,Mem.le_refl _,_,_,rfl,aR⟩
end Go.Proofs.Ytfgfahnakepegaa
set_option linter.unusedVariables false
set_option linter.unusedSimpArgs false
namespace Go.Proofs.Ytfgfahnakepegaa
open Go Go.Eng Go.Rx Go.Proofs Go.RowKit
set_option maxRecDepth 100000
theorem Zw2{m:Mem}{x:T}{cs:List Value}(h:RefT m x cs):∀u∈Zao x,OkN u.k u.s0 u.s1 u.s2 u.s3 u.mn u.mx:=by
 obtain⟨aZ,_,a,c,css,_,_,bP,_⟩:=ZaX.1 h
 intro u hu
 unfold Zao at hu
 split at hu
 ·simp at hu;subst hu;exact aZ
 ·split at hu
  ·exact(bP.reps u ((List.takeWhile_sublist _).mem hu)).1
  ·simp at hu
theorem Zw3(q:QS):List.drop (1+(ZaI q).length) ZcV=[.int .i64 0,.int .i64 0,.slice none 0 0]:=by rw[Zam];rfl
theorem Zvg{m m':Mem}{x u:T}{cs:List Value}(h:RefT m x cs)(hu:u∈Zao x)(hg:x.good=true):RefT m' u (rcs 2 u.q 0 0 none 0 0):=by
 have h1:=ZdV hg u hu
 have h2:=Zjs h1.1 h1.2
 have h3:=(Zal h1.1).1
 have eJ:u.mn=0/\u.mx=0:=by
  unfold T.right at h3
  simp only[h1.2]at h3
  simp at h3
  exact h3.1.1
 refine ZaX.2 ⟨Zw2 h u hu,by rw[h2.1];simp,none,0,[],?_,.inl rfl,?_,?_⟩
 ·rw[h1.2,eJ.1,eJ.2,h2.1];rfl
 ·rw[h2.1];simp[RefAt]
 ·rw[h2.1];simp
theorem ZjF{L:List T}{k:C4}(hf:Fit L k)(hg:∀x∈L,x.good=true){i:Nat}{x:T}(h1:k.f<=i)(h2:i < k.t)(hx:L[i]?=some x):x.good=true/\k.n<=(Zao x).length:=⟨hg x (List.mem_of_getElem? hx),hf.head i x h1 h2 hx⟩
theorem ib(k:Int)(b:Bool){K:List Value}:(k == 1)=b->([Value.bool (intOf (.int .i64 k) == 1)]=[Value.bool b]):=λh=>by show[Value.bool (k == 1)]=_;rw[h]
theorem ZBp{x y:Nat}{A B:Prop}(ht:x=y->A)(hf:¬x=y->B):br (Nat.beq x y) A B:=Zab (λh=>ht (Nat.eq_of_beq_eq_true h)) (λh=>hf λe=>by rw[e]at h;simp at h)
def Zdc(L:List T)(k:C4)(i:Nat):List T:=(seg L k.f i).map (Zbm k.n)
theorem ZnN{L:List T}{k:C4}{i:Nat}{x:T}(h:k.f<=i)(hx:L[i]?=some x):Zdc L k (i+1)=Zdc L k i++[Zbm k.n x]:=by
 unfold Zdc
 rw[Ztp h hx,List.map_append];rfl
theorem ZmH:∀(e:Bool)(l:List T),(Zcs e l).length<=l.length
 | _,[]=>Nat.le_refl _
 | e,x::l=>by
  rw[Zcs]
  split
  ·have:=ZmH (e||x.k == 1) l
   simp only[List.length_cons];omega
  ·have:=ZmH (e||x.k == 1) l
   simp only[List.length_cons];omega
set_option maxHeartbeats 4000000 in
theorem Zw4(L:List T)(css:List (List Value))(a:Option Addr)(c:Nat)(k:C4)(m:Mem)(hr:rowRd m a css.flatten)(bP:RefAt m L css)(bM:L.length<=c)(hg:∀x∈L,x.good=true)(bA:szL L<=300)(hf:Fit L k):
  CX Try.prog 108 #[.slice a L.length c,k.v] m [] (Zsp (ZhH L k)):=by
 apply Zmz
 unfold Zhw
 have tl:∀(v:Value),Zcn v=true->TokTail ⟨v,260⟩ v 260:=λv h=>TokTail.refl v 260 h
 have gE:=ZbN L
 have h2:=hf.two
 have bE:=hf.le
 have fV:=hf.pos
 obtain⟨x0,gC⟩:=ZaY (l:=L) (k:=k.f) (by omega)
 obtain⟨mN,lT⟩:=ZjF hf hg (Nat.le_refl _) (by omega) gC
 obtain⟨b0,o0,cs0,rfl,eA,pR⟩:=Zb1 hr bP gC
 have rJ:=Zin (l:=(Zao x0).take k.n) λx hx=>ZdV mN x (List.mem_of_mem_take hx)
 have zt:=Zbz (List.mem_of_getElem? gC)
 have zm:=ZlH x0
 intro b m1 aO _
 have vM:Zad (k.f:Nat) L.length:=⟨by omega,by omega⟩
 simp only[Int.toNat_natCast]
 refine⟨b0,o0,rfl,vM,cs0,pR.len,eA.mono aO,Zag (Zmx x0 cs0 m1 (pR.mono aO)) ZgB ?_⟩
 rintro a3 n3 c3 m2 aP ⟨ah,ch,hv,xg⟩
 simp only[Value.slice.injEq]at hv
 obtain⟨rfl,rfl,rfl⟩:=hv
 have bY:=mLt aO aP
 refine⟨λxs _ tvs m' q=>∃(i:Nat)(a1:Option Addr)(c1:Nat) (R:List (List Value)),i<=k.n/\xs=[.slice a1 i c1,.int .i64 i]/\tvs=[.slice a1 i c1]/\rowRd m' a1 R.flatten/\RefAt m' ((Zao x0).take i) R/\q=k.n - i,⟨_,0,none,0,[],Nat.zero_le _,rfl,rfl,.inl rfl,by simp[RefAt],rfl⟩,?_⟩
 rintro a4 n4 c4 z a5 n5 c5 m3 q aX ⟨i,a6,c6,R,hi,bB,cF,aR,hR,hq⟩
 simp only[List.cons.injEq,Value.slice.injEq,Value.int.injEq,true_and,and_true]at bB cF
 obtain⟨⟨rfl,rfl,rfl⟩,rfl⟩:=bB
 obtain⟨rfl,rfl,rfl⟩:=cF
 subst hq
 have bT:=mLt bY aX
 have iH:=hR.len
 rw[List.length_take,Nat.min_eq_left (by omega)]at iH
 have fJ:=ZbU hR.all
 refine ZbF (λaS=>?_) (λbR=>?_)
 ·have aQ:n5 < k.n:=by omega
  obtain⟨u,hu⟩:=ZaY (l:=Zao x0) (k:=n5) (by omega)
  have zu:=List.mem_of_getElem? hu
  obtain⟨b7,o7,rfl,vN⟩:=Zmw (xg.mono aX) hu
  have hw:IntKind.i64.wrap ((n5:Int)+1)=((n5+1:Nat):Int):=by rw[ZaA (by omega) (by omega)];rfl
  simp only[hw,Int.toNat_natCast]
  refine⟨b7,o7,rfl,⟨by omega,by omega⟩,ZaI u.q,Zam _,vN,Zaa (by rw[Zam];rfl) ?_⟩
  rw[Zw3]
  have fH:RefT m3 u (rcs 2 u.q 0 0 none 0 0):=Zvg (pR.mono bT) zu mN
  refine Zaa (by simp[Zam]) λb8 pU=>⟨.inl (tl _ rfl),R.flatten,rcs 2 u.q 0 0 none 0 0,by rw[fJ,iH],by rw[Ze8],aR.mono (Mem.le_add pU _),(Zdb:rowRd (m3.add b8 (List.append (rcs 2 u.q 0 0 none 0 0) [])) _ _),Zqh _ _ _ _ _ _ _,by omega,by omega,λa9 c9 m4 bK kU _=>⟨by trivial,k.n - (n5+1),by omega,n5+1,a9,c9,R++[rcs 2 u.q 0 0 none 0 0],by omega,rfl,rfl,ZdF kU,?_,rfl⟩⟩
  have e:(Zao x0).take (n5+1)=(Zao x0).take n5++[u]:=by rw[List.take_add_one,hu];rfl
  rw[e]
  have xi:=mLt (Mem.le_add pU _) bK
  exact(hR.mono xi).append (RefAt.one (fH.mono xi))
 have lO:n5=k.n:=by omega
 subst lO
 have gN:∀x∈seg L k.f k.t,x.good=true/\k.n<=(Zao x).length:=λx hx=>by
  obtain⟨i,h1,h2,h3⟩:=Zs9 hx
  exact ZjF hf hg h1 h2 h3
 have qI:=Zgp hf.pos gN
 have pK:szL (seg L k.f k.t)<=szL L:=by
  have h1:=Zcy (L.take k.t) k.f
  have h2:=Zcy L k.t
  unfold seg
  omega
 refine⟨λxs _ tvs m' q=>∃(i:Nat)(a1:Option Addr)(c1:Nat) (Q:List (List Value)),k.f<=i/\i<=k.t/\xs=[.slice a1 (Zcs false (Zdc L k i)).length c1,.bool ((Zdc L k i).any λy=>y.k == 1),.int .i64 i]/\tvs=[.slice a1 (Zcs false (Zdc L k i)).length c1]/\rowRd m' a1 Q.flatten/\RefAt m' (Zcs false (Zdc L k i)) Q/\q=k.t - i,⟨_,k.f,none,0,[],Nat.le_refl _,by omega,?_,?_,.inl rfl,?_,rfl⟩,?_⟩
 ·have:Zdc L k k.f=[]:=by unfold Zdc seg;rw[List.drop_eq_nil_of_le (by rw[List.length_take];omega)];rfl
  rw[this];rfl
 ·have:Zdc L k k.f=[]:=by unfold Zdc seg;rw[List.drop_eq_nil_of_le (by rw[List.length_take];omega)];rfl
  rw[this];rfl
 ·have:Zdc L k k.f=[]:=by unfold Zdc seg;rw[List.drop_eq_nil_of_le (by rw[List.length_take];omega)];rfl
  rw[this];simp[Zcs,RefAt]
 rintro a7 n7 c7 bb z a8 n8 c8 m4 q bK ⟨i,a9,c9,Q,eX,fT,bB,cF,dO,hQ,hq⟩
 simp only[List.cons.injEq,Value.slice.injEq,Value.int.injEq,Value.bool.injEq,true_and,and_true]at bB cF
 obtain⟨⟨rfl,rfl,rfl⟩,rfl,rfl⟩:=bB
 obtain⟨rfl,rfl,rfl⟩:=cF
 subst hq
 have gA:=mLt bT bK
 have xj:=hQ.len
 have zv:=ZbU hQ.all
 have yn:=ZmH false (Zdc L k i)
 have zw:(Zdc L k i).length=i - k.f:=by unfold Zdc;rw[List.length_map,ZvL (by omega)]
 refine ZbF (λaS=>?_) (λbR=>?_)
 ·have aQ:i < k.t:=by omega
  obtain⟨y,hy⟩:=ZaY (l:=L) (k:=i) (by omega)
  obtain⟨zx,zy⟩:=ZjF hf hg eX aQ hy
  obtain⟨by',oy,csy,e0,vO,jX⟩:=Zb1 hr bP hy
  cases e0
  have sT:=Zbz (List.mem_of_getElem? hy)
  have hw:IntKind.i64.wrap ((i:Int)+1)=((i+1:Nat):Int):=by rw[ZaA (by omega) (by omega)];rfl
  simp only[hw,Int.toNat_natCast]
  refine⟨λ_ _ _=>ZtQ (Zbm k.n y),b0,o0,rfl,⟨by omega,by omega⟩,csy,jX.len,vO.mono gA,_,rfl,Zw1 y csy k.n m4 (jX.mono gA) zx (by omega) zy,Zbf,Zhn λcsl m5 cU hl b5=>hl.chk1 λM jG zA=>?_⟩
  have zB:=hl.mono zA
  have nX:=Zjv (Zbm k.n y) false (Zdc L k i)
  rw[<-ZnN eX hy]at nX
  have eM:(Zdc L k (i+1)).any (λy=>y.k == 1)=((Zdc L k i).any (λy=>y.k == 1)||(Zbm k.n y).k == 1):=by
   rw[ZnN eX hy,List.any_append];simp
  generalize hA:(Zdc L k i).any (λy=>y.k == 1)=A at *
  refine⟨(Zbm k.n y).k == 1&&A,Zas hl.at0 (Zaa rfl (ZdE (λh1=>⟨by trivial,by trivial,?_⟩) (λh1=>⟨by trivial,by trivial,?_⟩))),Zab (λhb=>?_) (λhb=>?_)⟩
  ·have h1:(Zbm k.n y).k=1:=h1
   rw[h1];simp
  ·have h1:¬(Zbm k.n y).k=1:=h1
   have:((Zbm k.n y).k == 1)=false:=by simpa using h1
   rw[this];rfl
  ·simp only[Bool.and_eq_true]at hb
   rw[if_neg (by
    have h1:(Zbm k.n y).k=1:=by simpa using hb.1
    rw[h1,hb.2];simp),List.append_nil]at nX
   rw[hb.2]at eM
   exact⟨by trivial,by trivial,k.t - (i+1),by omega,i+1,_,_,Q,by omega,by omega,by rw[nX,eM,hb.2];rfl,by rw[nX],dO.mono jG,by rw[nX];exact hQ.mono jG,rfl⟩
  ·rw[if_pos (by
    rcases Bool.and_eq_false_iff.1 hb with h1|h1
    ·left;simpa using h1
    ·right;rw[h1];rfl)]at nX
   have gJ:=congrArg List.length nX
   simp only[List.length_append,List.length_cons,List.length_nil]at gJ
   refine⟨A||(Zbm k.n y).k == 1,Zab (λh1=>⟨by trivial,by trivial,by rw[h1];rfl⟩) (λh1=>Zas hl.at0 (Zaa rfl ⟨by trivial,by trivial,by rw[h1];rfl⟩)),hl.chk2 λb6 lX=>⟨.inl (tl _ rfl),Q.flatten,csl,by rw[zv,xj],by rw[hl.len],(dO.mono jG).mono (Mem.le_add lX _),Zdb,hl.one,by omega,by omega,λa10 c10 m6 dU vP _=>⟨by trivial,by trivial,k.t - (i+1),by omega,i+1,a10,c10,Q++[csl],by omega,by omega,?_,?_,ZdF vP,?_,rfl⟩⟩⟩
   ·rw[gJ,eM]
   ·rw[gJ]
   ·rw[nX]
    have qN:=mLt (Mem.le_add lX _) dU
    exact(hQ.mono (mLt jG qN)).append (RefAt.one (zB.mono qN))
 have qO:i=k.t:=by omega
 subst qO
 have kE:=ZlG (e:=false) (l:=Zdc L k k.t) λx hx=>(qI.1 x hx).1
 have lP:∀y∈Zcs false (Zdc L k k.t),y.good=true:=λy hy=>(qI.1 y (Zgo hy)).1
 have bS:Zcs false (Zdc L k k.t)≠[]:=by
  obtain⟨y,l,fN⟩:∃y l,Zdc L k k.t=y::l:=by
   unfold Zdc
   rw[Zg8 (by omega) gC]
   exact⟨_,_,rfl⟩
  rw[fN]
  exact Zs6 rfl
 have zC:szL (Zdc L k k.t)<=szL (seg L k.f k.t):=qI.2.1
 have r9:=ZyQ (Zcs false (Zdc L k k.t)) Q a8 c8 m4 dO hQ lP (by have:=kE.2;omega) bS
 have ha:=Ze5 lP
 have has:=ha.sz
 have eT:=kE.2
 refine Zag r9 Zbf (Zhn λcso m5 cU ho=>ho.chk2 λb5 qM=>⟨.inl (tl _ rfl),R.flatten,cso,by rw[fJ,iH],by rw[ho.len],(aR.mono (mLt bK cU)).mono (Mem.le_add qM _),Zdb,ho.one,by omega,by omega,λa10 c10 m6 dU vP _=>?_⟩)
 have qN:=mLt (Mem.le_add qM _) dU
 have dG:∀x∈(Zao x0).take k.n,x.good=true:=λx hx=>(ZdV mN x (List.mem_of_mem_take hx)).1
 have aV:∀x∈(Zao x0).take k.n++[Zee (Zcs false (Zdc L k k.t))],x.good=true:=λx hx=>by
  rcases List.mem_append.1 hx with hx|hx
  ·exact dG x hx
  ·rw[List.mem_singleton]at hx;subst hx;exact ha.good
 have pV:RefAt m6 ((Zao x0).take k.n++[Zee (Zcs false (Zdc L k k.t))]) (R++[cso]):=(hR.mono (mLt bK (mLt cU qN))).append (RefAt.one (ho.mono qN))
 have lH:=ZtE _ _ a10 c10 m6 (ZdF vP) pV aV (by
  rw[Zce,Zdy]
  have:=rJ.1
  rw[List.length_take]at this
  omega)
 have dH:ZjK ((Zao x0).take k.n++[Zee (Zcs false (Zdc L k k.t))])=ZvG L k:=by
  unfold ZvG
  rw[gC];rfl
 rw[dH,List.length_append,List.length_take,Nat.min_eq_left lT,List.length_cons,List.length_nil,Nat.zero_add]at lH
 refine Zag lH Zbf (Zhn λcsn m7 dA hn b6=>hn.chk1 λb7 fR=>⟨⟨by omega,by omega⟩,?_⟩)
 have lI:m.le m7:=mLt gA (mLt cU (mLt qN dA))
 have pE:=bP.take k.f
 have vQ:=bP.drop k.t
 have xk:=bP.len
 have eR:(css.take k.f).flatten.length=k.f*260:=by rw[ZbU λcs cI=>bP.all cs (List.mem_of_mem_take cI),List.length_take,Nat.min_eq_left (by omega)]
 have pD:(css.drop k.t).flatten.length=(L.length - k.t)*260:=by rw[ZbU λcs cI=>bP.all cs (List.mem_of_mem_drop cI),List.length_drop,xk]
 have tq:=ZqQ (hr.mono lI) (bP.mono lI) (i:=0) (n:=k.f) (c:=c) (by omega) (by omega) bM
 rw[List.drop_zero]at tq
 have pW:=ZqQ (hr.mono lI) (bP.mono lI) (i:=k.t) (n:=L.length) (c:=c) (by omega) (Nat.le_refl _) bM
 rw[show css.take L.length=css from by rw[<-xk,List.take_length]]at pW
 have fin:∀(M:Mem)(aa:Option Addr)(n cc:Nat),m7.le M->n=(ZhH L k).length->rowRd M aa ((css.take k.f++[csn])++css.drop k.t).flatten->∃m'',m.le m''/\m''.le M/\Zsp (ZhH L k) (.slice aa n cc) m'' []:=λM aa n cc hM hn' lN=>by
  subst hn'
  refine⟨M,mLt lI hM,Mem.le_refl _,aa,cc,_,rfl,lN,?_⟩
  have e:ZhH L k=(L.take k.f++[ZvG L k])++L.drop k.t:=by unfold ZhH;simp
  rw[e]
  exact((pE.mono (mLt lI hM)).append (RefAt.one (hn.mono hM))).append (vQ.mono (mLt lI hM))
 have zD:(ZhH L k).length=k.f+1+(L.length - k.t):=by unfold ZhH;simp;omega
 refine ZBp (λtr=>?_) (λtr=>?_)
 ·have tr:k.f=0:=by omega
  refine hn.chk2 λb8 pU=>⟨.inr (by omega),[],csn,rfl,by rw[hn.len],.inl rfl,Zdb,hn.one,by omega,by omega,λa11 c11 m8 iO tu sw=>⟨⟨by omega,by omega⟩,ZBp (λhd=>Zaa (by simpa using sw) λM dS eC fQ _=>?_) (λhd=>⟨.inl (tl _ rfl),csn,(css.drop k.t).flatten,by rw[hn.len],pD,tu,?_,?_,by omega,by omega,λa12 c12 m9 pX tw xl M dS eC fQ jG=>?_⟩)⟩⟩
  ·refine fin M a11 1 c11 (mLt (Mem.le_add fR _) dS) (by omega) ?_
   have e1:css.drop k.t=[]:=List.drop_eq_nil_of_le (by omega)
   rw[tr,e1]
   simpa using tu.mono fQ
  ·exact pW.1.mono (mLt (Mem.le_add fR _) (mLt (Mem.le_add pU _) iO))
  ·exact λu hu=>Zfs vQ u hu
  ·refine fin M a12 _ c12 (mLt (Mem.le_add fR _) dS) (by omega) ?_
   rw[tr]
   have:=tw.mono jG
   simpa using this
 ·refine⟨.inr (by omega),[],(css.take k.f).flatten,by simp,by simpa using eR,.inl rfl,tq.1.mono (Mem.le_add fR _),Zfs pE,by omega,by omega,λa11 c11 m8 iO tu sw=>hn.chk2 λb8 pU=>⟨.inl (tl _ rfl),(css.take k.f).flatten,csn,by simpa using eR,by rw[hn.len],tu.mono (Mem.le_add pU _),Zdb,hn.one,by omega,by omega,λa12 c12 m9 pX tw xl=>⟨⟨by omega,by omega⟩,ZBp (λhd=>Zaa (by simpa using xl) λM dS eC fQ _=>?_) (λhd=>⟨.inl (tl _ rfl),(css.take k.f).flatten++csn,(css.drop k.t).flatten,by rw[List.length_append,eR,hn.len];omega,pD,tw,?_,?_,by omega,by omega,λa13 c13 m10 pY vR zE M dS eC fQ jG=>?_⟩)⟩⟩⟩
  ·refine fin M a12 _ c12 (mLt (Mem.le_add fR _) (mLt iO dS)) (by omega) ?_
   have e1:css.drop k.t=[]:=List.drop_eq_nil_of_le (by omega)
   rw[e1,List.append_nil]
   exact ZdF (tw.mono fQ)
  ·exact pW.1.mono (mLt (Mem.le_add fR _) (mLt iO (mLt (Mem.le_add pU _) pX)))
  ·exact λu hu=>Zfs vQ u hu
  ·refine fin M a13 _ c13 (mLt (Mem.le_add fR _) (mLt iO dS)) (by omega) ?_
   rw[List.flatten_append,List.flatten_append,List.flatten_singleton]
   exact vR.mono jG
end Go.Proofs.Ytfgfahnakepegaa
set_option linter.unusedVariables false
set_option linter.unusedSimpArgs false
namespace Go.Proofs.Ytfgfahnakepegaa
open Go Go.Eng Go.Rx Go.Proofs Go.RowKit
set_option maxRecDepth 100000
theorem Zi1(t:T)(cs:List Value)(L:List T)(css:List (List Value))(a:Option Addr)(c:Nat)(m:Mem)(hr:RefT m t cs)(hg:t.good=true)(aR:rowRd m a css.flatten)(bP:RefAt m L css)(hL:∀x∈L,x.good=true)(AS:∀x∈L,x.er=x)(hs:szL L<=9000)
  (h4:t.k=4->L≠[]) (h5:t.k=5->∃o,L=[o]/\o.k≠1) (h6:t.k=6->∃o,L=[o]) (zF:t.k=1\/t.k=2->L=[]):
  CX Try.prog 107 #[.agg cs.toArray,.slice a L.length c] m [] (ZtQ (t.built L)):=by
 apply ZgC
 unfold ZdY
 have eT:=ZcU hg
 have zG:=ZkO (Zal hg).1
 refine hr.chk λb m1 aO _ b1=>Zas hr.at0 (Zaa rfl (ZdE (λh=>?_) (λh=>Zaa rfl (ZdE (λh'=>?_) (λh'=>Zaa rfl (ZdE (λh''=>?_) (λh''=>Zaa rfl (ZdE (λh3=>?_) (λh3=>hr.chk1 (Zaj aO ?_))))))))))
 ·have h:t.k=3:=h
  refine Zag (ZtE L css a c m1 (aR.mono aO) (bP.mono aO) hL hs) Zbf (Zhn λcs2 m2 aP h2=>h2.chk1 ⟨m2,mLt aO aP,Mem.le_refl _,cs2,rfl,?_⟩)
  unfold T.built
  rw[if_pos h];exact h2
 ·have h':t.k=4:=h'
  refine Zag (ZyQ L css a c m1 (aR.mono aO) (bP.mono aO) hL hs (h4 h')) Zbf (Zhn λcs2 m2 aP h2=>h2.chk1 ⟨m2,mLt aO aP,Mem.le_refl _,cs2,rfl,?_⟩)
  unfold T.built
  rw[if_neg (by omega),if_pos h'];exact h2
 ·have h'':t.k=5:=h''
  obtain⟨o,rfl,ho⟩:=h5 h''
  have hb:=(eT.2.2.1 h'').2
  obtain⟨b0,o0,cso,rfl,bC,kC⟩:=Zb1 aR bP (i:=0) (t:=o) rfl
  have hz:=eT.2.2.2.2.2.1 (by omega)
  rw[Zdy]at hs
  obtain⟨_,_,ta,tc,tss,e0,_⟩:=ZaX.1 hr
  have qG:cs[257]?=some (.int .i64 t.mn):=by rw[e0];exact Zwy _ _ _ _ _ _ _
  have lS:cs[258]?=some (.int .i64 t.mx):=by rw[e0];exact Zwz _ _ _ _ _ _ _
  refine⟨λ_ _ _=>ZtQ (ZbV 5 t.mn t.mx none 0 [o]),b0,o0,rfl,⟨by omega,by simp⟩,cso,kC.len,by simpa using bC.mono aO,Zas qG (Zas lS ⟨_,rfl,Zve o cso t.mn t.mx m1 (kC.mono aO) (hL o (by simp)) hs hb ho,Zbf,Zhn λcs2 m2 aP h2=>h2.chk1 λM dS eC=>⟨M,mLt aO dS,Mem.le_refl _,cs2,rfl,?_⟩⟩)⟩
  unfold T.built
  rw[if_neg (by omega),if_neg (by omega),h'',hz.1,hz.2.1,hz.2.2.1,hz.2.2.2]
  exact h2.mono eC
 ·have h3:t.k=6:=h3
  obtain⟨o,rfl⟩:=h6 h3
  obtain⟨b0,o0,cso,rfl,bC,kC⟩:=Zb1 aR bP (i:=0) (t:=o) rfl
  have hz:=eT.2.2.2.2.2.1 (by omega)
  have dU:=eT.2.2.2.2.2.2 (by omega)
  rw[Zdy]at hs
  refine⟨b0,o0,rfl,⟨by omega,by simp⟩,cso,kC.len,by simpa using bC.mono aO,Zag (ZqO o cso m1 (kC.mono aO) (hL o (by simp)) hs) Zbf (Zhn λcs2 m2 aP h2=>h2.chk1 ⟨m2,mLt aO aP,Mem.le_refl _,cs2,rfl,?_⟩)⟩
  unfold T.built
  rw[if_neg (by omega),if_neg (by omega),h3,hz.1,hz.2.1,hz.2.2.1,hz.2.2.2,dU.1,dU.2]
  exact h2
 ·have e3:¬t.k=3:=h
  have e4:¬t.k=4:=h'
  have e5:¬t.k=5:=h''
  have e6:¬t.k=6:=h3
  have mZ:t.k=1\/t.k=2:=by
   rcases zG with h|h|h|h|⟨h,_⟩|⟨h,_⟩
   ·exact .inl h
   ·exact .inr h
   all_goals omega
  have bJ:=eT.2.2.2.2.1 mZ
  have hb:=ZeT hg
  rw[bJ,List.map_nil]at hb
  rw[zF mZ,hb]
  exact⟨cs,rfl,(Zg6 t cs).2 hr⟩
theorem Zw5{c:C4}{l:List T}{i n:Nat}{x:T}(h:Zep c (Zax l) n)(hx:l[i]?=some x):Zep c x.alts (n+(Zax (l.take i)).length):=by
 intro j al hj hn
 refine h ((Zax (l.take i)).length+j) al ?_ (by omega)
 have e:Zax l=Zax (l.take i)++Zax (l.drop i):=by rw[<-Zdl,List.take_append_drop]
 rw[e,ZrD hx,List.getElem?_append_right (by omega),show(Zax (l.take i)).length+j - (Zax (l.take i)).length=j by omega,List.getElem?_append_left (List.getElem?_eq_some_iff.1 hj).1]
 exact hj
theorem Zhy{c:C4}:∀(l:List T)(n:Nat),(ZbY c l n).length=l.length
 | [],_=>rfl
 | t::l,n=>by rw[ZbY,List.length_cons,Zhy l,List.length_cons]
set_option maxHeartbeats 4000000 in
theorem Zsr(c:C4):∀(t:T)(cs:List Value)(n:Nat)(m:Mem),RefT m t cs->t.good=true->t.nodes.length<=300->n+t.nodes.length<=10000->Zep c t.alts n->
  CX Try.prog 82 #[.agg cs.toArray,c.v,.int .i64 n] m [] (ZtQ (t.cutAt c n).1):=by
 intro t
 induction hN:SizeOf.sizeOf t using Nat.strongRecOn generalizing t with
 | ind N ih=>
 intro cs n m hr hg hz hn bZ
 have pR:=hr
 obtain⟨aZ,aU,a,cc,css,ecs,aR,bP,bM⟩:=ZaX.1 hr
 have fY:=(Zal hg).2
 have eT:=ZcU hg
 have bA:=Zcr t
 have pS:=Zeo t
 have sC:=ZbN t.subs
 have dX:cs[259]?=some (.slice a t.subs.length cc):=by rw[ecs];exact Zqg _ _ _ _ _ _ _
 have tx:=ZuJ (c:=c) (n:=n) hg
 apply ZmE
 unfold Zhx
 refine hr.chk λb m1 aO _ b1 m2 aP _ b2=>?_
 have bY:=mLt aO aP
 refine⟨t.k == 4&&n == c.a,Zas hr.at0 (Zaa rfl (ZdE (λh=>⟨by trivial,?_⟩) (λh=>⟨by trivial,?_⟩))),Zab (λhb=>?_) (λhb=>?_)⟩
 ·have h:t.k=4:=h
  have e:(((n:Nat):Int) == ((c.a:Nat):Int))=(n == c.a):=by rw[Bool.eq_iff_iff];simp only[beq_iff_eq];omega
  rw[e,h];rfl
 ·have h:¬t.k=4:=h
  have:(t.k == 4)=false:=by simpa using h
  rw[this];rfl
 ·simp only[Bool.and_eq_true,beq_iff_eq]at hb
  have hf:=ZdW bZ hb.1 hb.2
  have ho:=Znl fY hf
  rw[if_pos hb]at tx
  have qs:=ho.sz
  have rz:∀x∈(ZhH t.subs c).map T.er,x.good=true:=λx hx=>by
   obtain⟨y,hy,rfl⟩:=List.mem_map.1 hx
   rw[Zcv];exact ho.good y hy
  refine⟨λi _ _=>bif Nat.beq i 4 then Zsp (ZhH t.subs c)else ZtQ (Zee (ZhH t.subs c)),Zas dX ⟨_,rfl,Zw4 t.subs css a cc c m2 (aR.mono bY) (bP.mono bY) bM fY (by omega) hf,ZdX,?_⟩⟩
  rintro a5 n5 c5 m3 aX ⟨ax,cx,xss,hv,cW,fL⟩
  simp only[Value.slice.injEq]at hv
  obtain⟨rfl,rfl,rfl⟩:=hv
  have bT:=mLt bY aX
  have sD:t.built ((ZhH t.subs c).map T.er)=Zee (ZhH t.subs c):=by
   unfold T.built
   rw[if_neg (by omega),if_pos hb.1,<-ZkQ]
  have sE:=Zi1 t cs ((ZhH t.subs c).map T.er) xss a5 c5 m3 (hr.mono bT) hg cW (fL.of_er (by rw[List.map_map];exact(List.map_congr_left λz _=>Zef z).symm)) rz (λx hx=>by
   obtain⟨y,hy,rfl⟩:=List.mem_map.1 hx
   exact Zef y) (by rw[Zeg (l':=ZhH t.subs c) (by rw[List.map_map];exact List.map_congr_left λz _=>Zef z)];omega) (λ_=>by
    have:=ho.ne
    simpa using this) (λh=>by omega) (λh=>by omega) (λh=>by omega)
  rw[sD,List.length_map]at sE
  refine⟨_,rfl,sE,Zbf,Zhn λcs2 m4 bK h4=>h4.chk1 λM dS eC fQ=>⟨M,mLt bY dS,Mem.le_refl _,cs2,rfl,?_⟩⟩
  rw[tx]
  exact h4.mono fQ
 ·have dR:¬(t.k=4/\n=c.a):=λe=>by rw[e.1,e.2]at hb;simp at hb
  rw[if_neg dR]at tx
  have nW:=Zgq bZ
  have lZ:(if t.k=4 then n+1 else n)<=n+1:=by split <;> omega
  have zH:t.k=4->IntKind.i64.wrap ((n:Int)+1)=(((if t.k=4 then n+1 else n:Nat)):Int):=λh=>by rw[if_pos h,ZaA (by omega) (by omega)];rfl
  have vS:¬t.k=4->(n:Int)=(((if t.k=4 then n+1 else n:Nat)):Int):=λh=>by rw[if_neg h]
  have hl:=Zip (c:=c) t.subs _ fY nW
  rw[Zjz _ _ fY]at hl
  generalize bS:(if t.k=4 then n+1 else n)=n1 at *
  have sF:∀i,n1+(Zax (t.subs.take i)).length<=20000:=λi=>by
   have:=Zmy t.subs i
   omega
  refine Zas hr.at0 (Zaa rfl (ZdE (λh4=>?_) (λh4=>?_)))
  all_goals
   have h4':=h4
   refine⟨λxs _ tvs m' q=>∃(i:Nat)(a1:Option Addr)(c1:Nat) (R:List (List Value)),i<=t.subs.length/\xs=[.int .i64 (n1+(Zax (t.subs.take i)).length:Nat),.slice a1 i c1,.int .i64 i]/\tvs=[.slice a1 i c1]/\rowRd m' a1 R.flatten/\RefAt m' (ZbY c (t.subs.take i) n1) R/\q=t.subs.length - i,⟨_,0,none,0,[],Nat.zero_le _,by first|(rw[zH h4'];rfl)|(rw[vS h4'];rfl),rfl,.inl rfl,by simp[ZbY,RefAt],rfl⟩,?_⟩
   rintro z1 a1 k1 c1 z2 a2 k2 c2 m3 q aX ⟨i,a3,c3,R,hi,bB,cF,cG,hR,hq⟩
   simp only[List.cons.injEq,Value.slice.injEq,Value.int.injEq,true_and,and_true]at bB cF
   obtain⟨rfl,⟨rfl,rfl,rfl⟩,rfl⟩:=bB
   obtain⟨rfl,rfl,rfl⟩:=cF
   subst hq
   have bT:=mLt bY aX
   have iH:=hR.len
   rw[Zhy,List.length_take,Nat.min_eq_left hi]at iH
   have xm:=ZbU hR.all
   have AT:=sF k2
   have zI:=sF (k2+1)
   refine Zas dX (Zaa rfl (ZbF (λaS=>Zas dX (Zaa rfl ?_)) (λbR=>?_)))
   ·have aQ:k2 < t.subs.length:=by simp only[slN]at aS;omega
    obtain⟨x,hx⟩:=ZaY aQ
    have cN:=List.mem_of_getElem? hx
    obtain⟨b0,o0,csx,rfl,bC,bW⟩:=Zb1 aR bP hx
    have bB:=Zbz cN
    have gY:=Zdk cN
    have dB:Zad (k2:Int) (slN (.slice (some ⟨b0,o0,none⟩) t.subs.length cc)):=⟨by omega,by simp only[slN];omega⟩
    have hw:IntKind.i64.wrap ((k2:Int)+1)=((k2+1:Nat):Int):=by rw[ZaA (by omega) (by omega)];rfl
    have cM:=ZjA hx
    have bX:=congrArg List.length cM
    rw[List.length_append]at bX
    have fB:IntKind.i64.wrap (((n1+(Zax (t.subs.take k2)).length:Nat):Int)+(x.alts.length:Nat))=((n1+(Zax (t.subs.take (k2+1))).length:Nat):Int):=by rw[ZaA (by omega) (by omega),bX];omega
    have sq:=Zoe (c:=c) (n:=n1) hx
    simp only[hw,Int.toNat_natCast]
    refine⟨b0,o0,rfl,dB,csx,bW.len,bC.mono bT,Zag (ZtG x csx m3 (bW.mono bT) (by omega)) ZdX ?_⟩
    rintro a6 n6 c6 m4 bK ⟨ax,cx,xss,hv,_,_⟩
    simp only[Value.slice.injEq]at hv
    obtain⟨rfl,rfl,rfl⟩:=hv
    simp only[fB]
    have gA:=mLt bT bK
    refine⟨decide (n1+(Zax (t.subs.take k2)).length<=c.a/\c.a < n1+(Zax (t.subs.take k2)).length+x.alts.length),ZbF (λh1=>⟨by trivial,by trivial,?_⟩) (λh1=>⟨by trivial,by trivial,?_⟩),ZbF (λlO=>?_) (λlO=>Zas dX (Zaa rfl ?_))⟩
    ·show[Value.bool (decide _)]=[Value.bool (decide _)]
     congr 2
     exact decide_eq_decide.2 (by rw[bX];omega)
    ·show[Value.bool false]=[Value.bool (decide _)]
     congr 2
     exact(decide_eq_false (by omega)).symm
    ·have rh:ZhI c x (n1+(Zax (t.subs.take k2)).length)=(x.cutAt c (n1+(Zax (t.subs.take k2)).length)).1:=by unfold ZhI;rw[if_pos lO]
     refine⟨λ_ _ _=>ZtQ (ZhI c x (n1+(Zax (t.subs.take k2)).length)),Zas dX (Zaa rfl ⟨b0,o0,rfl,dB,csx,bW.len,bC.mono gA,_,rfl,?_,Zbf,Zhn λcs5 m5 cU h5=>h5.chk2 λb7 fR=>⟨.inl trivial,R.flatten,cs5,by rw[xm,iH],by rw[h5.len],(cG.mono (mLt bK cU)).mono (Mem.le_add fR _),Zdb,h5.one,by omega,by omega,λa7 c7 m7 dA eW M dS eC fQ jG=>⟨by trivial,t.subs.length - (k2+1),by omega,k2+1,a7,c7,R++[cs5],by omega,rfl,rfl,(ZdF eW).mono jG,?_,rfl⟩⟩⟩)⟩
     ·rw[rh]
      exact ih _ (by omega) x rfl csx _ m4 (bW.mono gA) (fY x cN) (by omega) (by have:=Zmy t.subs k2;have h1:=ZdB (t.subs.take k2);have h2:=Zcy t.subs k2;have h3:x.nodes.length<=szL (t.subs.drop k2):=Zbz (List.mem_of_getElem? (i:=0) (by rw[List.getElem?_drop];exact hx));omega) (Zw5 nW hx)
     ·rw[sq]
      have xn:=mLt (Mem.le_add fR _) dA
      exact(hR.mono (mLt bK dS)).append (RefAt.one (h5.mono eC))
    ·have rh:ZhI c x (n1+(Zax (t.subs.take k2)).length)=x.er:=by unfold ZhI;rw[if_neg lO]
     refine⟨b0,o0,rfl,dB,csx,bW.len,bC.mono gA,bW.chk2 λb7 fR=>⟨.inl trivial,R.flatten,csx,by rw[xm,iH],by rw[bW.len],(cG.mono bK).mono (Mem.le_add fR _),Zdb,bW.one,by omega,by omega,λa7 c7 m7 dA eW=>⟨by trivial,t.subs.length - (k2+1),by omega,k2+1,a7,c7,R++[csx],by omega,rfl,rfl,ZdF eW,?_,rfl⟩⟩⟩
     rw[sq,rh]
     have tz:=mLt (Mem.le_add fR _) dA
     exact(hR.mono (mLt bK tz)).append (RefAt.one ((Zg6 x csx).2 (bW.mono (mLt gA tz))))
   ·have:k2=t.subs.length:=by simp only[slN]at bR;omega
    subst this
    rw[List.take_length]at hR
    have sE:=Zi1 t cs (ZbY c t.subs n1) R a2 c2 m3 (hr.mono bT) hg cG hR (λx hx=>(hl.2.1 x hx).1) (λx hx=>(hl.2.1 x hx).2) (by have:=hl.2.2.1;omega) (λh e=>by
     have:=eT.2.1 h
     rw[e]at hl
     simp at hl;omega) (λh=>by
     obtain⟨⟨x,hx,fM⟩,_⟩:=eT.2.2.1 h
     have h1:=hl.2.2.2.2 (λy hy=>by rw[hx]at hy;simp at hy;subst hy;exact fM)
     rw[hx]at h1 ⊢
     exact⟨_,rfl,h1 _ (by simp[ZbY])⟩) (λh=>by
     obtain⟨x,hx⟩:=eT.2.2.2.1 h
     rw[hx];exact⟨_,rfl⟩) (λh=>by rw[eT.2.2.2.2.1 h];rfl)
    rw[Zhy]at sE
    refine Zag sE Zbf (Zhn λcs4 m4 bK h4=>h4.chk1 ⟨m4,mLt bT bK,Mem.le_refl _,cs4,rfl,?_⟩)
    rw[tx];exact h4
end Go.Proofs.Ytfgfahnakepegaa
