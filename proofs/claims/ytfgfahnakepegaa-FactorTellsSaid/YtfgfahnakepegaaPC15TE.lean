/- Part of the proof: conditions and contracts of functions of this program. No condition of its own. -/
import Derived.Test.YtfgfahnakepegaaPEnv
import Derived.Test.YtfgfahnakepegaaPC15TB
set_option linter.unusedVariables false
namespace Go.Proofs.Ytfgfahnakepegaa
open Go Go.Eng Go.Proofs Go.RowKit
open Go.Value (int slice agg bool string tuple func)
open Go.IntKind (u8 u64 i64)
set_option maxRecDepth 100000
noncomputable def Zpi:Env:={ EB with
 loops:=(λi=>bif Nat.beq i 4 then⟨[(5,.slice),(8,.int .i64)],[],[(33,260)],false⟩ else bif Nat.beq i 9 then⟨[(6,.slice),(9,.bool),(10,.int .i64)],[],[(64,260)],false⟩ else⟨[],[],[],false⟩)
 joins:=(λi=>bif Nat.beq i 12 then some [(54,.bool)]else bif Nat.beq i 13 then some [(9,.bool)]else none)
 dr:=(λi=>bif Nat.beq i 11 then[⟨0,[],[],none,[],[]⟩,⟨1,[],[],none,[],[]⟩,⟨2,[],[],none,[0,1],[]⟩,⟨3,[],[],none,[0,1,2],[]⟩,⟨4,[3],[],none,[],[]⟩,⟨5,[3],[],none,[4],[]⟩,⟨6,[],[],none,[0,1,2,3,4,5],[]⟩,⟨7,[11],[11],none,[],[]⟩,⟨8,[11],[11],none,[0,1,2,3,4,5,6,7],[]⟩]else bif Nat.beq i 17 then[⟨0,[],[],none,[],[]⟩,⟨1,[12],[],none,[],[]⟩,⟨2,[79],[79],none,[1],[]⟩,⟨3,[79],[],some 76,[0,1,2],[2]⟩,⟨4,[],[],none,[],[]⟩,⟨5,[3],[],none,[],[]⟩,⟨6,[3],[],none,[5],[]⟩,⟨7,[],[],none,[4,5,6],[]⟩,⟨8,[],[],some 76,[0,1,2,3,4,5,6,7],[3]⟩,⟨9,[],[],none,[0,1,2,3,4,5,6,7,8],[]⟩]else[])
 tokOf:=(λi=>bif Nat.beq i 33 then 33 else bif Nat.beq i 64 then 64 else bif Nat.beq i 69 then 33 else bif Nat.beq i 76 then 76 else bif Nat.beq i 80 then 76 else bif Nat.beq i 85 then 76 else 0)
 frzNew:=[3]
 tails:=true
 capF:=true }
abbrev Zc7:List Value:=[int i64 2,int i64 0,int i64 0,int i64 0,int i64 0,int i64 0,int i64 0,int i64 0,int i64 0,int i64 0,int i64 0,int i64 0,int i64 0,int i64 0,int i64 0,int i64 0,int
 i64 0,int i64 0,int i64 0,int i64 0,int i64 0,int i64 0,int i64 0,int i64 0,int i64 0,int i64 0,int i64 0,int i64 0,int i64 0,int i64 0,int i64 0,int i64 0,int i64 0,int i64 0,int i64 0,int i64 0,int
 i64 0,int i64 0,int i64 0,int i64 0,int i64 0,int i64 0,int i64 0,int i64 0,int i64 0,int i64 0,int i64 0,int i64 0,int i64 0,int i64 0,int i64 0,int i64 0,int i64 0,int i64 0,int i64 0,int i64 0,int
 i64 0,int i64 0,int i64 0,int i64 0,int i64 0,int i64 0,int i64 0,int i64 0,int i64 0,int i64 0,int i64 0,int i64 0,int i64 0,int i64 0,int i64 0,int i64 0,int i64 0,int i64 0,int i64 0,int i64 0,int
 i64 0,int i64 0,int i64 0,int i64 0,int i64 0,int i64 0,int i64 0,int i64 0,int i64 0,int i64 0,int i64 0,int i64 0,int i64 0,int i64 0,int i64 0,int i64 0,int i64 0,int i64 0,int i64 0,int i64 0,int
 i64 0,int i64 0,int i64 0,int i64 0,int i64 0,int i64 0,int i64 0,int i64 0,int i64 0,int i64 0,int i64 0,int i64 0,int i64 0,int i64 0,int i64 0,int i64 0,int i64 0,int i64 0,int i64 0,int i64 0,int
 i64 0,int i64 0,int i64 0,int i64 0,int i64 0,int i64 0,int i64 0,int i64 0,int i64 0,int i64 0,int i64 0,int i64 0,int i64 0,int i64 0,int i64 0,int i64 0,int i64 0,int i64 0,int i64 0,int i64 0,int
 i64 0,int i64 0,int i64 0,int i64 0,int i64 0,int i64 0,int i64 0,int i64 0,int i64 0,int i64 0,int i64 0,int i64 0,int i64 0,int i64 0,int i64 0,int i64 0,int i64 0,int i64 0,int i64 0,int i64 0,int
 i64 0,int i64 0,int i64 0,int i64 0,int i64 0,int i64 0,int i64 0,int i64 0,int i64 0,int i64 0,int i64 0,int i64 0,int i64 0,int i64 0,int i64 0,int i64 0,int i64 0,int i64 0,int i64 0,int i64 0,int
 i64 0,int i64 0,int i64 0,int i64 0,int i64 0,int i64 0,int i64 0,int i64 0,int i64 0,int i64 0,int i64 0,int i64 0,int i64 0,int i64 0,int i64 0,int i64 0,int i64 0,int i64 0,int i64 0,int i64 0,int
 i64 0,int i64 0,int i64 0,int i64 0,int i64 0,int i64 0,int i64 0,int i64 0,int i64 0,int i64 0,int i64 0,int i64 0,int i64 0,int i64 0,int i64 0,int i64 0,int i64 0,int i64 0,int i64 0,int i64 0,int
 i64 0,int i64 0,int i64 0,int i64 0,int i64 0,int i64 0,int i64 0,int i64 0,int i64 0,int i64 0,int i64 0,int i64 0,int i64 0,int i64 0,int i64 0,int i64 0,int i64 0,int i64 0,int i64 0,int i64 0,int
 i64 0,int i64 0,int i64 0,int i64 0,int i64 0,int i64 0,int i64 0,int i64 0,int i64 0,int i64 0,int i64 0,int i64 0,int i64 0,int i64 0,int i64 0,int i64 0,int i64 0,int i64 0,int i64 0,int i64 0,int
 i64 0,int i64 0,int i64 0,slice none 0 0]
abbrev ZhR:Int->Int->Int->Int->Nat->Option Box:=λ(aO aK aL aN:Int)(b:Nat)=>some (Box.mk b [int i64 aO,int i64 aK,int i64 aL,int i64 aN] 72 4 true true)
abbrev ZeV:Int->Int->Int->Int->Nat->List (Option Box):=λ(aO aK aL aN:Int)(b:Nat)=>[ZhR aO aK aL aN b]
abbrev ZhS:List Value->Nat->Option Box:=λ(cs:List Value)(b:Nat)=>some (Box.mk b cs 70 260 false true)
abbrev ZdU:Int->Int->Int->Int->Nat->List Value->Nat->List (Option Box):=λ(aO aK aL aN:Int)(b:Nat)(cs:List Value)(ap:Nat)=>[ZhS cs ap,ZhS cs ap,
 ZhR aO aK aL aN b]
def ZhT(p0a:Option Addr)(p0n p0c:Nat)(aO aK aL aN:Int)(m:Mem)(R:RT):Prop:=
 ∀(b:Nat)(m':Mem),Mem.le m m'->Mem.reads m' b 0 [int i64 aO,int i64 aK,int i64 aL,int i64 aN]->∃(ap:Nat),∃(o:Nat),p0a=some (Addr.mk ap o none)/\Zae aK p0n/\∃(vs:List Value),
 List.length vs=260/\Mem.reads m' ap (o+Int.toNat aK*260) vs/\∃(R_1:RT),True/\CX Try.prog 63 (Array.mk [agg (Array.mk vs)]) m' [] R_1/\Zat Shape.slice R_1/\∀(a:Option Addr)(n c:Nat)(au:Mem),
 Mem.le m' au->R_1 (slice a n c) au []->∃(I:IT),(∃(n:Nat),I [slice none 0 0,int i64 0] [] [slice none 0 0] au n)/\∀(al:Option Addr)(ab c:Nat)(aq:Int)(ad:Option Addr)(ae af:Nat)(m':Mem) (a2:
 Nat),Mem.le au m'->I [slice al ab c,int i64 aq] [] [slice ad ae af] m' a2->br (decide (aq < aN)) (∃(am:Nat),∃(o:Nat),a=some (Addr.mk am o none)/\Zae aq n/\∃(vs:List Value),List.length vs=256
 /\ Mem.reads m' am (o+Int.toNat aq*256) vs/\chk (Nat.beq (List.length vs) 256&&true) (chk (Nat.beq (List.length (List.append vs (List.drop (1+List.length vs) Zc7))) (nat_lit 259)&&true) (∀(ac:
 Nat),Mem.free m' ac->((∃(a:Option Addr),∃(n:Nat),∃(ak:Nat),∃(k:Nat),Tok.mk (slice ad ae af) 260=Tok.mk (slice a n ak) 260/\k<=n/\slice al ab c=slice (ZaQ a k ak 260) (n - k) (ak - k))\/slice
 al ab c=slice none 0 0\/c < ab+1)/\∃(xs:List Value),∃(ys:List Value),List.length xs=ab*260/\List.length ys=1*260/\rowRd (Mem.add m' ac (int i64 2::List.append (List.append vs (List.drop (1 +
 List.length vs) Zc7)) [])) al xs/\rowRd (Mem.add m' ac (int i64 2::List.append (List.append vs (List.drop (1+List.length vs) Zc7)) [])) (some (Addr.mk ac 0 none)) ys/\(∀(u:Value),u∈ys->
 Value.oneCell' u=true)/\(ab+1)*2096<=140737488355328/\ab+1<=9223372036854775807/\∀(a':Option Addr)(c':Nat)(ag:Mem),Mem.le (Mem.add m' ac (int i64 2::List.append (List.append vs (List.drop (1 +
 List.length vs) Zc7)) [])) ag->rowRd ag a' (List.append xs ys)->ab+1<=c'->Zau (ZeV aO aK aL aN b)/\∃(n':Nat),n' < a2/\I [slice a' (ab+1) c',int i64 (IntKind.wrap i64 (aq +
 (1:Int)))] [] [slice a' (ab+1) c'] ag n'))) (∃(I:IT),(∃(n:Nat),I [slice none 0 0,bool false,int i64 aK] [] [slice none 0 0] m' n)/\∀(a:Option Addr)(n ak:Nat)(am:Bool)(ao:Int) (ah:Option
 Addr) (ai aj:Nat) (ag:Mem) (ax:Nat),Mem.le m' ag->I [slice a n ak,bool am,int i64 ao] [] [slice ah ai aj] ag ax->br (decide (ao < aL)) (∃(f:Fx),∃(ac:Nat),∃(o:Nat),p0a=some (Addr.mk ac o none)
 /\ Zae ao p0n/\∃(vs:List Value),List.length vs=260/\Mem.reads ag ac (o+Int.toNat ao*260) vs/\∃(R:RT),R=f 6 [agg (Array.mk vs),int i64 aN] ag/\CX Try.prog 122 (Array.mk [agg (Array.mk vs),int
 i64 aN]) ag [] R/\Zat Shape.cells R/\∀(cs:List Value)(m':Mem),Mem.le ag m'->R (agg (Array.mk cs)) m' []->∀(av:Nat),chk (Nat.beq (List.length cs) 260&&ZbC cs) (∀(M:Mem),Mem.le ag M->Mem.le m' M
 -> ∃(ay:Bool),(Eng.Zv0 cs 0 λ(v:Value)=>chk (ZaD i64 v&&decide (i64=i64)) (br (RowKit.intOf v == (1:Int)) (Zau (ZdU aO aK aL aN b cs av)/\[some (Tok.mk (slice ah ai aj) 260),
 some (Tok.mk (slice ad ae af) 260)]=[some (Tok.mk (slice ah ai aj) 260),some (Tok.mk (slice ad ae af) 260)]/\[bool am]=[bool ay]) (Zau (ZdU aO aK aL aN b cs av)/\[some (Tok.mk (slice ah ai
 aj) 260),some (Tok.mk (slice ad ae af) 260)]=[some (Tok.mk (slice ah ai aj) 260),some (Tok.mk (slice ad ae af) 260)]/\[bool false]=[bool ay])))/\br ay (Zau (ZeV aO aK aL aN b)/\[some
 (Tok.mk (slice ad ae af) 260)]=[some (Tok.mk (slice ad ae af) 260)]/\∃(n':Nat),n' < ax/\I [slice a n ak,bool am,int i64 (IntKind.wrap i64 (ao+(1:Int)))] [] [slice ah ai aj] M n') (∃(az:Bool),br am
 (Zau (ZdU aO aK aL aN b cs av)/\[some (Tok.mk (slice ah ai aj) 260),some (Tok.mk (slice ad ae af) 260)]=[some (Tok.mk (slice ah ai aj) 260),some (Tok.mk (slice ad ae af) 260)]/\[bool true] =
 [bool az]) (Eng.Zv0 cs 0 λ(v:Value)=>chk (ZaD i64 v&&decide (i64=i64)) (Zau (ZdU aO aK aL aN b cs av)/\[some (Tok.mk (slice ah ai aj) 260),some (Tok.mk (slice ad ae af) 260)]=[some
 (Tok.mk (slice ah ai aj) 260),some (Tok.mk (slice ad ae af) 260)]/\[bool (RowKit.intOf v == (1:Int))]=[bool az]))/\chk (Nat.beq (List.length cs) 260&&true) (∀(ar:Nat),Mem.free M ar->((∃(a3:Option Addr),
 ∃(a0:Nat),∃(c:Nat),∃(k:Nat),Tok.mk (slice ah ai aj) 260=Tok.mk (slice a3 a0 c) 260/\k<=a0/\slice a n ak=slice (ZaQ a3 k c 260) (a0 - k) (c - k))\/slice a n ak=slice none 0 0\/ak < n+1)/\∃
 (xs:List Value),∃(ys:List Value),List.length xs=n*260/\List.length ys=1*260/\rowRd (Mem.add M ar (List.append cs [])) a xs/\rowRd (Mem.add M ar (List.append cs [])) (some (Addr.mk ar 0 none)) ys/\(∀
 (u:Value),u∈ys->Value.oneCell' u=true)/\(n+1)*2096<=140737488355328/\n+1<=9223372036854775807/\∀(a':Option Addr)(c':Nat)(m':Mem),Mem.le (Mem.add M ar (List.append cs [])) m'->rowRd m' a'
 (List.append xs ys)->n+1<=c'->Zau (ZeV aO aK aL aN b)/\[some (Tok.mk (slice ad ae af) 260)]=[some (Tok.mk (slice ad ae af) 260)]/\∃(n':Nat),n' < ax/\I [slice a' (n+1) c',bool az,
 int i64 (IntKind.wrap i64 (ao+(1:Int)))] [] [slice a' (n+1) c'] m' n')))) (∃(R_2:RT),True/\CX Try.prog 119 (Array.mk [slice a n ak]) ag [] R_2/\Zat Shape.cells R_2/\∀(cs:List Value)(m':Mem),Mem.le
 ag m'->R_2 (agg (Array.mk cs)) m' []->chk (Nat.beq (List.length cs) 260&&true) (∀(b:Nat),Mem.free m' b->((∃(a:Option Addr),∃(n:Nat),∃(a1:Nat),∃(k:Nat),Tok.mk (slice ad ae af) 260=Tok.mk (slice
 a n a1) 260/\k<=n/\slice al ab c=slice (ZaQ a k a1 260) (n - k) (a1 - k))\/slice al ab c=slice none 0 0\/c < ab+1)/\∃(xs:List Value),∃(ys:List Value),List.length xs=ab*260/\List.length ys=1
 * 260/\rowRd (Mem.add m' b (List.append cs [])) al xs/\rowRd (Mem.add m' b (List.append cs [])) (some (Addr.mk b 0 none)) ys/\(∀(u:Value),u∈ys->Value.oneCell' u=true)/\(ab+1)*2096<=140737488355328/\ab
 + 1<=9223372036854775807/\∀(a':Option Addr)(c':Nat)(aw:Mem),Mem.le (Mem.add m' b (List.append cs [])) aw->rowRd aw a' (List.append xs ys)->ab+1<=c'->∃(R_3:RT),True/\CX Try.prog 118 (Array.mk
 [slice a' (ab+1) c']) aw [] R_3/\Zat Shape.cells R_3/\∀(cs:List Value)(m':Mem),Mem.le aw m'->R_3 (agg (Array.mk cs)) m' []->∀(b:Nat),chk (Nat.beq (List.length cs) 260&&ZbC cs) (∀(b:Nat),
 Mem.free m' b->((0:Int)<=aK/\aK<=(↑p0c:Int))/\br (Nat.beq (Int.toNat aK - 0) 0) (chk (Nat.beq (List.length cs) 260&&true) (∀(ac:Nat),Mem.free (Mem.add m' b []) ac->(slice (some (Addr.mk b 0 none))
 0 0=slice none 0 0\/0 < 0+1)/\∃(xs:List Value),∃(ys:List Value),List.length xs=0*260/\List.length ys=1*260/\rowRd (Mem.add (Mem.add m' b []) ac (List.append cs [])) (some (Addr.mk b 0 none)) xs/\
 rowRd (Mem.add (Mem.add m' b []) ac (List.append cs [])) (some (Addr.mk ac 0 none)) ys/\(∀(u:Value),u∈ys->Value.oneCell' u=true)/\(0+1)*2096<=140737488355328/\0+1<=9223372036854775807/\∀(a':
 Option Addr) (c':Nat) (aa:Mem),Mem.le (Mem.add (Mem.add m' b []) ac (List.append cs [])) aa->rowRd aa a' (List.append xs ys)->0+1<=c'->((0:Int)<=aL/\aL<=(↑p0n:Int))/\br (Nat.beq (p0n - Int.toNat
 aL) 0) (chk (Nat.ble 1 c') (∀(M:Mem),Mem.le (Mem.add m' b []) M->Mem.le (Mem.add (Mem.add m' b []) ac (List.append cs [])) M->Mem.le aa M->Mem.le aa M->∃(m'':Mem),Mem.le m m''/\Mem.le m'' M/\R (slice a'
 1 c') m'' [])) (((∃(a:Option Addr),∃(n:Nat),∃(c:Nat),∃(k:Nat),Tok.mk (slice a' 1 c') 260=Tok.mk (slice a n c) 260/\k<=n/\slice a' 1 c'=slice (ZaQ a k c 260) (n - k) (c - k))\/slice a' 1 c' =
 slice none 0 0\/c' < 1+(p0n - Int.toNat aL))/\∃(xs:List Value),∃(ys:List Value),List.length xs=1*260/\List.length ys=(p0n - Int.toNat aL)*260/\rowRd aa a' xs/\rowRd aa (ZaQ p0a (Int.toNat
 aL) p0c 260) ys/\(∀(u:Value),u∈ys->Value.oneCell' u=true)/\(1+(p0n - Int.toNat aL))*2096<=140737488355328/\1+(p0n - Int.toNat aL)<=9223372036854775807/\∀(a':Option Addr)(c':Nat) (an:
 Mem),Mem.le aa an->rowRd an a' (List.append xs ys)->1+(p0n - Int.toNat aL)<=c'->∀(M:Mem),Mem.le (Mem.add m' b []) M->Mem.le (Mem.add (Mem.add m' b []) ac (List.append cs [])) M->Mem.le aa M->Mem.le an M
 -> ∃(m'':Mem),Mem.le m m''/\Mem.le m'' M/\R (slice a' (1+(p0n - Int.toNat aL)) c') m'' []))) ((slice (some (Addr.mk b 0 none)) 0 0=slice none 0 0\/0 < 0+(Int.toNat aK - 0))/\∃(xs:List Value),∃(ys:
 List Value),List.length xs=0*260/\List.length ys=(Int.toNat aK - 0)*260/\rowRd (Mem.add m' b []) (some (Addr.mk b 0 none)) xs/\rowRd (Mem.add m' b []) (ZaQ p0a 0 p0c 260) ys/\(∀(u:Value),u∈ys->
 Value.oneCell' u=true)/\(0+(Int.toNat aK - 0))*2096<=140737488355328/\0+(Int.toNat aK - 0)<=9223372036854775807/\∀(a':Option Addr)(c':Nat)(aa:Mem),Mem.le (Mem.add m' b []) aa->rowRd aa a'
 (List.append xs ys)->0+(Int.toNat aK - 0)<=c'->chk (Nat.beq (List.length cs) 260&&true) (∀(b:Nat),Mem.free aa b->((∃(a:Option Addr),∃(n:Nat),∃(c:Nat),∃(k:Nat),Tok.mk (slice a' (0 +
 (Int.toNat aK - 0)) c') 260=Tok.mk (slice a n c) 260/\k<=n/\slice a' (0+(Int.toNat aK - 0)) c'=slice (ZaQ a k c 260) (n - k) (c - k))\/slice a' (0+(Int.toNat aK - 0)) c'=slice none 0 0\/c' < 0 +
 (Int.toNat aK - 0)+1)/\∃(xs:List Value),∃(ys:List Value),List.length xs=(0+(Int.toNat aK - 0))*260/\List.length ys=1*260/\rowRd (Mem.add aa b (List.append cs [])) a' xs/\rowRd (Mem.add aa b
 (List.append cs [])) (some (Addr.mk b 0 none)) ys/\(∀(u:Value),u∈ys->Value.oneCell' u=true)/\(0+(Int.toNat aK - 0)+1)*2096<=140737488355328/\0+(Int.toNat aK - 0)+1<=9223372036854775807/\∀
 (a':Option Addr) (c':Nat) (m':Mem),Mem.le (Mem.add aa b (List.append cs [])) m'->rowRd m' a' (List.append xs ys)->0+(Int.toNat aK - 0)+1<=c'->((0:Int)<=aL/\aL<=(↑p0n:Int))/\br (Nat.beq (p0n
 - Int.toNat aL) 0) (chk (Nat.ble (0+(Int.toNat aK - 0)+1) c') (∀(M:Mem),Mem.le aa M->Mem.le (Mem.add aa b (List.append cs [])) M->Mem.le m' M->Mem.le m' M->∃(m'':Mem),Mem.le m m''/\Mem.le m'' M/\R
 (slice a' (0+(Int.toNat aK - 0)+1) c') m'' [])) (((∃(a:Option Addr),∃(n:Nat),∃(c:Nat),∃(k:Nat),Tok.mk (slice a' (0+(Int.toNat aK - 0)+1) c') 260=Tok.mk (slice a n c) 260/\k<=n/\slice a'
 (0+(Int.toNat aK - 0)+1) c'=slice (ZaQ a k c 260) (n - k) (c - k))\/slice a' (0+(Int.toNat aK - 0)+1) c'=slice none 0 0\/c' < 0+(Int.toNat aK - 0)+1+(p0n - Int.toNat aL))/\∃(xs:List
 Value),∃(ys:List Value),List.length xs=(0+(Int.toNat aK - 0)+1)*260/\List.length ys=(p0n - Int.toNat aL)*260/\rowRd m' a' xs/\rowRd m' (ZaQ p0a (Int.toNat aL) p0c 260) ys/\(∀(u:Value),u
 ∈ ys->Value.oneCell' u=true)/\(0+(Int.toNat aK - 0)+1+(p0n - Int.toNat aL))*2096<=140737488355328/\0+(Int.toNat aK - 0)+1+(p0n - Int.toNat aL)<=9223372036854775807/\∀(a':Option Addr) (c'
 : Nat) (an:Mem),Mem.le m' an->rowRd an a' (List.append xs ys)->0+(Int.toNat aK - 0)+1+(p0n - Int.toNat aL)<=c'->∀(M:Mem),Mem.le aa M->Mem.le (Mem.add aa b (List.append cs [])) M->Mem.le m' M->
 Mem.le an M->∃(m'':Mem),Mem.le m m''/\Mem.le m'' M/\R (slice a' (0+(Int.toNat aK - 0)+1+(p0n - Int.toNat aL)) c') m'' [])))))))
theorem Zm9(p0a:Option Addr)(p0n p0c:Nat)(aO aK aL aN:Int)(m:Mem)(R:RT)(h:ZhT p0a p0n p0c aO aK aL aN m R):CX Try.prog 108 #[.slice p0a p0n p0c,.agg #[.int .i64 aO,.int .i64 aK,.int .i64 aL,.int .i64 aN]] m [] R:=
 Zad (E:=Zpi) ZaE mix Try.func108 [.v (.slice p0a p0n p0c),.v (.agg #[.int .i64 aO,.int .i64 aK,.int .i64 aL,.int .i64 aN])] [] (by kernel_rfl) (Eq.mp (by kernel_rfl) h)
noncomputable def Zii:Env:={ EB with
 dr:=(λi=>bif Nat.beq i 7 then[⟨0,[],[],none,[],[]⟩,⟨1,[],[],none,[0],[]⟩,⟨2,[],[],none,[0,1],[]⟩,⟨3,[2],[],none,[],[]⟩,⟨4,[2],[],none,[3],[]⟩,⟨5,[2],[],none,[],[]⟩,⟨6,[2],[],none,[5],[]⟩,⟨7,[],[],none,[0,1,2,3,4,5,6],[]⟩,⟨8,[4],[4],none,[0,1,2,3,4,5,6,7],[]⟩]else[])
 frzNew:=[2] }
def Zed(p0:List Value)(p1a:Option Addr)(p1n p1c:Nat)(m:Mem)(R:RT):Prop:=
 chk (Nat.beq (List.length p0) 260) (∀(b:Nat)(m':Mem),Mem.le m m'->Mem.reads m' b 0 p0->∀(b:Nat),Eng.Zv0 p0 0 λ(v:Value)=>chk (ZaD i64 v&&decide (i64=i64)) (br (RowKit.intOf v == (3:Int)) (∃
 (R_1:RT),True/\CX Try.prog 118 (Array.mk [slice p1a p1n p1c]) m' [] R_1/\Zat Shape.cells R_1/\∀(cs:List Value)(m'_1:Mem),Mem.le m' m'_1->R_1 (agg (Array.mk cs)) m'_1 []->chk (Nat.beq (List.length cs) 260
 && ZbC cs) (∃(m'':Mem),Mem.le m m''/\Mem.le m'' m'_1/\R (agg (Array.mk cs)) m'' [])) (chk (ZaD i64 v&&decide (i64=i64)) (br (RowKit.intOf v == (4:Int)) (∃(R_1:RT),True/\CX Try.prog 119 (Array.mk
 [slice p1a p1n p1c]) m' [] R_1/\Zat Shape.cells R_1/\∀(cs:List Value)(m'_1:Mem),Mem.le m' m'_1->R_1 (agg (Array.mk cs)) m'_1 []->chk (Nat.beq (List.length cs) 260&&ZbC cs) (∃(m'':Mem),Mem.le m m''/\
 Mem.le m'' m'_1/\R (agg (Array.mk cs)) m'' [])) (chk (ZaD i64 v&&decide (i64=i64)) (br (RowKit.intOf v == (5:Int)) (∃(f:Fx),∃(b:Nat),∃(o:Nat),p1a=some (Addr.mk b o none)/\Zae (0:Int) p1n/\
 ∃(vs:List Value),List.length vs=260/\Mem.reads m' b (o+0) vs/\Eng.Zv0 p0 257 λ(v:Value)=>Eng.Zv0 p0 258 λ(v_1:Value)=>∃(R_1:RT),R_1=f 7 [agg (Array.mk vs),v,v_1] m'/\CX Try.prog 120
 (Array.mk [agg (Array.mk vs),v,v_1]) m' [] R_1/\Zat Shape.cells R_1/\∀(cs:List Value)(m'_1:Mem),Mem.le m' m'_1->R_1 (agg (Array.mk cs)) m'_1 []->chk (Nat.beq (List.length cs) 260&&ZbC cs) (∀(M:Mem),
 Mem.le m' M->Mem.le m'_1 M->∃(m'':Mem),Mem.le m m''/\Mem.le m'' M/\R (agg (Array.mk cs)) m'' [])) (chk (ZaD i64 v&&decide (i64=i64)) (br (RowKit.intOf v == (6:Int)) (∃(b:Nat),∃(o:Nat),p1a=some
 (Addr.mk b o none)/\Zae (0:Int) p1n/\∃(vs:List Value),List.length vs=260/\Mem.reads m' b (o+0) vs/\∃(R_1:RT),True/\CX Try.prog 121 (Array.mk [agg (Array.mk vs)]) m' [] R_1/\Zat Shape.cells R_1/\
 ∀(cs:List Value)(m'_1:Mem),Mem.le m' m'_1->R_1 (agg (Array.mk cs)) m'_1 []->chk (Nat.beq (List.length cs) 260&&ZbC cs) (∃(m'':Mem),Mem.le m m''/\Mem.le m'' m'_1/\R (agg (Array.mk cs)) m'' [])) (chk
 (Nat.beq (List.length p0) 260&&ZbC p0) (∃(m'':Mem),Mem.le m m''/\Mem.le m'' m'/\R (agg (Array.mk p0)) m'' []))))))))))
theorem ZgX(p0:List Value)(p1a:Option Addr)(p1n p1c:Nat)(m:Mem)(R:RT)(h:Zed p0 p1a p1n p1c m R):CX Try.prog 107 #[.agg p0.toArray,.slice p1a p1n p1c] m [] R:=
 Zad (E:=Zii) ZaE mix Try.func107 [.v (.agg p0.toArray),.v (.slice p1a p1n p1c)] [] (by kernel_rfl) (Eq.mp (by kernel_rfl) h)
noncomputable def Zpj:Env:={ EB with
 loops:=(λi=>bif Nat.beq i 7 then⟨[(2,.int .i64),(7,.slice),(8,.int .i64)],[],[(66,260)],false⟩ else⟨[],[],[],false⟩)
 joins:=(λi=>bif Nat.beq i 1 then some [(18,.bool)]else bif Nat.beq i 10 then some [(55,.bool)]else none)
 dr:=(λi=>bif Nat.beq i 2 then[⟨0,[3],[],none,[],[]⟩,⟨1,[3],[],none,[],[]⟩,⟨2,[3],[],none,[1],[]⟩,⟨3,[4],[],none,[],[]⟩,⟨4,[],[],none,[1,2,3],[]⟩,⟨5,[],[],none,[0,1,2,3,4],[4]⟩,⟨6,[6],[6],none,[0,1,2,3,4,5],[]⟩]else bif Nat.beq i 11 then[⟨0,[],[],none,[],[]⟩,⟨1,[3],[],none,[],[]⟩,⟨2,[3],[],none,[1],[]⟩,⟨3,[],[],none,[],[]⟩,⟨4,[],[],none,[1,2,3],[]⟩,⟨5,[],[],none,[1,2,3,4],[]⟩,⟨6,[4],[],none,[],[]⟩,⟨7,[],[],none,[],[]⟩,⟨8,[],[],none,[1,2,3,4,5,6,7],[]⟩,⟨9,[65],[65],none,[1,2,3,4,5,6,7,8],[8]⟩,⟨10,[65],[],some 66,[0,1,2,3,4,5,6,7,8,9],[9]⟩,⟨11,[],[],none,[0,1,2,3,4,5,6,7,8,9,10],[]⟩]else[])
 tokOf:=(λi=>bif Nat.beq i 66 then 66 else bif Nat.beq i 74 then 66 else 0)
 frzNew:=[3,4] }
abbrev Zna:List Value:=[int i64 0,int i64 0,int i64 0,int i64 0,int i64 0,int i64 0,int i64 0,int i64 0,int i64 0,int i64 0,int i64 0,int i64 0,int i64 0,int i64 0,int i64 0,int i64 0,int
 i64 0,int i64 0,int i64 0,int i64 0,int i64 0,int i64 0,int i64 0,int i64 0,int i64 0,int i64 0,int i64 0,int i64 0,int i64 0,int i64 0,int i64 0,int i64 0,int i64 0,int i64 0,int i64 0,int i64 0,int
 i64 0,int i64 0,int i64 0,int i64 0,int i64 0,int i64 0,int i64 0,int i64 0,int i64 0,int i64 0,int i64 0,int i64 0,int i64 0,int i64 0,int i64 0,int i64 0,int i64 0,int i64 0,int i64 0,int i64 0,int
 i64 0,int i64 0,int i64 0,int i64 0,int i64 0,int i64 0,int i64 0,int i64 0,int i64 0,int i64 0,int i64 0,int i64 0,int i64 0,int i64 0,int i64 0,int i64 0,int i64 0,int i64 0,int i64 0,int i64 0,int
 i64 0,int i64 0,int i64 0,int i64 0,int i64 0,int i64 0,int i64 0,int i64 0,int i64 0,int i64 0,int i64 0,int i64 0,int i64 0,int i64 0,int i64 0,int i64 0,int i64 0,int i64 0,int i64 0,int i64 0,int
 i64 0,int i64 0,int i64 0,int i64 0,int i64 0,int i64 0,int i64 0,int i64 0,int i64 0,int i64 0,int i64 0,int i64 0,int i64 0,int i64 0,int i64 0,int i64 0,int i64 0,int i64 0,int i64 0,int i64 0,int
 i64 0,int i64 0,int i64 0,int i64 0,int i64 0,int i64 0,int i64 0,int i64 0,int i64 0,int i64 0,int i64 0,int i64 0,int i64 0,int i64 0,int i64 0,int i64 0,int i64 0,int i64 0,int i64 0,int i64 0,int
 i64 0,int i64 0,int i64 0,int i64 0,int i64 0,int i64 0,int i64 0,int i64 0,int i64 0,int i64 0,int i64 0,int i64 0,int i64 0,int i64 0,int i64 0,int i64 0,int i64 0,int i64 0,int i64 0,int i64 0,int
 i64 0,int i64 0,int i64 0,int i64 0,int i64 0,int i64 0,int i64 0,int i64 0,int i64 0,int i64 0,int i64 0,int i64 0,int i64 0,int i64 0,int i64 0,int i64 0,int i64 0,int i64 0,int i64 0,int i64 0,int
 i64 0,int i64 0,int i64 0,int i64 0,int i64 0,int i64 0,int i64 0,int i64 0,int i64 0,int i64 0,int i64 0,int i64 0,int i64 0,int i64 0,int i64 0,int i64 0,int i64 0,int i64 0,int i64 0,int i64 0,int
 i64 0,int i64 0,int i64 0,int i64 0,int i64 0,int i64 0,int i64 0,int i64 0,int i64 0,int i64 0,int i64 0,int i64 0,int i64 0,int i64 0,int i64 0,int i64 0,int i64 0,int i64 0,int i64 0,int i64 0,int
 i64 0,int i64 0,int i64 0,int i64 0,int i64 0,int i64 0,int i64 0,int i64 0,int i64 0,int i64 0,int i64 0,int i64 0,int i64 0,int i64 0,int i64 0,int i64 0,int i64 0,int i64 0,int i64 0,int i64 0,int
 i64 0,int i64 0,int i64 0,int i64 0,int i64 0,int i64 0,int i64 0,int i64 0,int i64 0,int i64 0,int i64 0,int i64 0,int i64 0,int i64 0,int i64 0,int i64 0,int i64 0,int i64 0,int i64 0,int i64 0,int
 i64 0,int i64 0,int i64 0,slice none 0 0]
abbrev Znb:Nat->Option Box:=λ(b:Nat)=>some (Box.mk b Zna 70 260 false true)
abbrev Znc:Int->Int->Int->Int->Nat->Option Box:=λ(aO aK aL aN:Int)(b:Nat)=>some (Box.mk b [int i64 aO,int i64 aK,int i64 aL,int i64 aN] 72 4 true true)
abbrev Znd:List Value->Nat->Option Box:=λ(p0:List Value)(b:Nat)=>some (Box.mk b p0 70 260 true true)
abbrev Zbq:List Value->Int->Int->Int->Int->Nat->Nat->Nat->List (Option Box):=λ(p0:List Value)(aO aK aL aN:Int)(b ah ai:Nat)=>[Znb ai,Znc aO aK aL
 aN ah,Znd p0 b]
def ZhU(p0:List Value)(aO aK aL aN p2:Int)(m:Mem)(R:RT):Prop:=
 chk (Nat.beq (List.length p0) 260) (∀(b:Nat)(m':Mem),Mem.le m m'->Mem.reads m' b 0 p0->∀(ah:Nat)(ak:Mem),Mem.le m' ak->Mem.reads ak ah 0 [int i64 aO,int i64 aK,int i64 aL,int i64 aN]->∀(ai
 : Nat),∃(aq:Bool),(Eng.Zv0 p0 0 λ(v:Value)=>chk (ZaD i64 v&&decide (i64=i64)) (br (RowKit.intOf v == (4:Int)) (Zau (Zbq p0 aO aK aL aN b ah ai)/\[bool (p2 == aO)]=[bool
 aq]) (Zau (Zbq p0 aO aK aL aN b ah ai)/\[bool false]=[bool aq])))/\br aq (∃(f:Fx),Eng.Zv0 p0 259 λ(v:Value)=>∃(R_1:RT),R_1=f 4 [v,agg (Array.mk [int i64 aO,int i64 aK,
 int i64 aL,int i64 aN])] ak/\CX Try.prog 108 (Array.mk [v,agg (Array.mk [int i64 aO,int i64 aK,int i64 aL,int i64 aN])]) ak [] R_1/\Zat Shape.slice R_1/\∀(a:Option Addr)(n c:Nat)(m':Mem),
 Mem.le ak m'->R_1 (slice a n c) m' []->∃(R_2:RT),R_2=f 5 [agg (Array.mk p0),slice a n c] m'/\CX Try.prog 107 (Array.mk [agg (Array.mk p0),slice a n c]) m' [] R_2/\Zat Shape.cells R_2/\∀(cs:List Value)
 (aa:Mem),Mem.le m' aa->R_2 (agg (Array.mk cs)) aa []->chk (Nat.beq (List.length cs) 260&&ZbC cs) (∀(M:Mem),Mem.le ak M->Mem.le m' M->Mem.le aa M->∃(m'':Mem),Mem.le m m''/\Mem.le m'' M/\R (agg
 (Array.mk cs)) m'' [])) (Eng.Zv0 p0 0 λ(v:Value)=>chk (ZaD i64 v&&decide (i64=i64)) (br (RowKit.intOf v == (4:Int)) (∃(I:IT),(∃(n:Nat),I [int i64 (IntKind.wrap i64 (p2+(1:Int))),slice none 0
 0,int i64 0] [] [slice none 0 0] ak n)/\∀(n:Int)(a:Option Addr)(ab c:Nat)(ad:Int)(ae:Option Addr)(af ag:Nat)(m':Mem)(am:Nat),Mem.le ak m'->I [int i64 n,slice a ab c,int i64 ad] [] [slice ae
 af ag] m' am->Eng.Zv0 p0 259 λ(v:Value)=>chk (Zcy v) (br (decide (ad < (↑(slN v):Int))) (Eng.Zv0 p0 259 λ(v:Value)=>chk (Zcy v) (∃(ap:Nat),∃(o:Nat),slA v=some (Addr.mk ap o none)/\Zae
 ad (slN v)/\∃(vs:List Value),List.length vs=260/\Mem.reads m' ap (o+Int.toNat ad*260) vs/\∃(R:RT),True/\CX Try.prog 80 (Array.mk [agg (Array.mk vs)]) m' [] R/\Zat Shape.slice R/\∀(ar:Option Addr)
 (al au:Nat) (aa:Mem),Mem.le m' aa->R (slice ar al au) aa []->∃(an:Bool),br (decide (aO ≥ n)) (Zau (Zbq p0 aO aK aL aN b ah ai)/\[some (Tok.mk (slice ae af ag) 260)]=[some (Tok.mk
 (slice ae af ag) 260)]/\[bool (decide (aO < IntKind.wrap i64 (n+(↑al:Int))))]=[bool an]) (Zau (Zbq p0 aO aK aL aN b ah ai)/\[some (Tok.mk (slice ae af ag) 260)]=[some (Tok.mk (slice ae
 af ag) 260)]/\[bool false]=[bool an])/\br an (∃(f:Fx),Eng.Zv0 p0 259 λ(v:Value)=>chk (Zcy v) (∃(aj:Nat),∃(o:Nat),slA v=some (Addr.mk aj o none)/\Zae ad (slN v)/\∃(vs:List Value),
 List.length vs=260/\Mem.reads aa aj (o+Int.toNat ad*260) vs/\∃(R:RT),R=f 8 [agg (Array.mk vs),agg (Array.mk [int i64 aO,int i64 aK,int i64 aL,int i64 aN]),int i64 n] aa/\CX Try.prog 82
 (Array.mk [agg (Array.mk vs),agg (Array.mk [int i64 aO,int i64 aK,int i64 aL,int i64 aN]),int i64 n]) aa [] R/\Zat Shape.cells R/\∀(cs:List Value)(m':Mem),Mem.le aa m'->R (agg (Array.mk cs)) m'
 []->chk (Nat.beq (List.length cs) 260&&true) (∀(ac:Nat),Mem.free m' ac->(Tok.mk (slice ae af ag) 260=Tok.mk (slice a ab c) 260\/slice a ab c=slice none 0 0\/c < ab+1)/\∃(xs:List Value),∃(ys:List
 Value),List.length xs=ab*260/\List.length ys=1*260/\rowRd (Mem.add m' ac (List.append cs [])) a xs/\rowRd (Mem.add m' ac (List.append cs [])) (some (Addr.mk ac 0 none)) ys/\(∀(u:Value),u∈ys->
 Value.oneCell' u=true)/\(ab+1)*2096<=140737488355328/\ab+1<=9223372036854775807/\∀(a':Option Addr)(c':Nat)(ao:Mem),Mem.le (Mem.add m' ac (List.append cs [])) ao->rowRd ao a' (List.append xs ys)->
 ∀(M:Mem),Mem.le aa M->Mem.le m' M->Mem.le (Mem.add m' ac (List.append cs [])) M->Mem.le ao M->Zau (Zbq p0 aO aK aL aN b ah ai)/\∃(n':Nat),n' < am/\I [int i64 (IntKind.wrap i64 (n +
 (↑al:Int))),slice a' (ab+1) c',int i64 (IntKind.wrap i64 (ad+(1:Int)))] [] [slice a' (ab+1) c'] M n'))) (Eng.Zv0 p0 259 λ(v:Value)=>chk (Zcy v) (∃(aj:Nat),∃(o:Nat),slA v=some (Addr.mk aj o
 none)/\Zae ad (slN v)/\∃(vs:List Value),List.length vs=260/\Mem.reads aa aj (o+Int.toNat ad*260) vs/\chk (Nat.beq (List.length vs) 260&&true) (∀(ac:Nat),Mem.free aa ac->(Tok.mk (slice ae af ag)
 260=Tok.mk (slice a ab c) 260\/slice a ab c=slice none 0 0\/c < ab+1)/\∃(xs:List Value),∃(ys:List Value),List.length xs=ab*260/\List.length ys=1*260/\rowRd (Mem.add aa ac (List.append vs []))
 a xs/\rowRd (Mem.add aa ac (List.append vs [])) (some (Addr.mk ac 0 none)) ys/\(∀(u:Value),u∈ys->Value.oneCell' u=true)/\(ab+1)*2096<=140737488355328/\ab+1<=9223372036854775807/\∀(a':Option
 Addr) (c':Nat) (m':Mem),Mem.le (Mem.add aa ac (List.append vs [])) m'->rowRd m' a' (List.append xs ys)->Zau (Zbq p0 aO aK aL aN b ah ai)/\∃(n':Nat),n' < am/\I [int i64 (IntKind.wrap i64
 (n+(↑al:Int))),slice a' (ab+1) c',int i64 (IntKind.wrap i64 (ad+(1:Int)))] [] [slice a' (ab+1) c'] m' n'))))) (∃(R_1:RT),True/\CX Try.prog 107 (Array.mk [agg (Array.mk p0),slice a ab c]) m' [] R_1/\
 Zat Shape.cells R_1/\∀(cs:List Value)(aa:Mem),Mem.le m' aa->R_1 (agg (Array.mk cs)) aa []->chk (Nat.beq (List.length cs) 260&&ZbC cs) (∃(m'':Mem),Mem.le m m''/\Mem.le m'' aa/\R (agg (Array.mk cs))
 m'' [])))) (∃(I:IT),(∃(n:Nat),I [int i64 p2,slice none 0 0,int i64 0] [] [slice none 0 0] ak n)/\∀(n:Int)(a:Option Addr)(ab c:Nat)(ad:Int)(ae:Option Addr)(af ag:Nat)(m':Mem)(am:Nat),
 Mem.le ak m'->I [int i64 n,slice a ab c,int i64 ad] [] [slice ae af ag] m' am->Eng.Zv0 p0 259 λ(v:Value)=>chk (Zcy v) (br (decide (ad < (↑(slN v):Int))) (Eng.Zv0 p0 259 λ(v:Value)=>chk (Zcy v) (∃
 (ap:Nat),∃(o:Nat),slA v=some (Addr.mk ap o none)/\Zae ad (slN v)/\∃(vs:List Value),List.length vs=260/\Mem.reads m' ap (o+Int.toNat ad*260) vs/\∃(R:RT),True/\CX Try.prog 80 (Array.mk [agg
 (Array.mk vs)]) m' [] R/\Zat Shape.slice R/\∀(ar:Option Addr)(al au:Nat)(aa:Mem),Mem.le m' aa->R (slice ar al au) aa []->∃(an:Bool),br (decide (aO ≥ n)) (Zau (Zbq p0 aO aK aL aN
 b ah ai)/\[some (Tok.mk (slice ae af ag) 260)]=[some (Tok.mk (slice ae af ag) 260)]/\[bool (decide (aO < IntKind.wrap i64 (n+(↑al:Int))))]=[bool an]) (Zau (Zbq p0 aO aK aL aN b ah ai)/\
 [some (Tok.mk (slice ae af ag) 260)]=[some (Tok.mk (slice ae af ag) 260)]/\[bool false]=[bool an])/\br an (∃(f:Fx),Eng.Zv0 p0 259 λ(v:Value)=>chk (Zcy v) (∃(aj:Nat),∃(o:Nat),slA v=some
 (Addr.mk aj o none)/\Zae ad (slN v)/\∃(vs:List Value),List.length vs=260/\Mem.reads aa aj (o+Int.toNat ad*260) vs/\∃(R:RT),R=f 8 [agg (Array.mk vs),agg (Array.mk [int i64 aO,int i64 aK,int
 i64 aL,int i64 aN]),int i64 n] aa/\CX Try.prog 82 (Array.mk [agg (Array.mk vs),agg (Array.mk [int i64 aO,int i64 aK,int i64 aL,int i64 aN]),int i64 n]) aa [] R/\Zat Shape.cells R/\∀(cs:List
 Value) (m':Mem),Mem.le aa m'->R (agg (Array.mk cs)) m' []->chk (Nat.beq (List.length cs) 260&&true) (∀(ac:Nat),Mem.free m' ac->(Tok.mk (slice ae af ag) 260=Tok.mk (slice a ab c) 260\/slice a ab c=slice
 none 0 0\/c < ab+1)/\∃(xs:List Value),∃(ys:List Value),List.length xs=ab*260/\List.length ys=1*260/\rowRd (Mem.add m' ac (List.append cs [])) a xs/\rowRd (Mem.add m' ac (List.append cs [])) (some
 (Addr.mk ac 0 none)) ys/\(∀(u:Value),u∈ys->Value.oneCell' u=true)/\(ab+1)*2096<=140737488355328/\ab+1<=9223372036854775807/\∀(a':Option Addr)(c':Nat)(ao:Mem),Mem.le (Mem.add m' ac
 (List.append cs [])) ao->rowRd ao a' (List.append xs ys)->∀(M:Mem),Mem.le aa M->Mem.le m' M->Mem.le (Mem.add m' ac (List.append cs [])) M->Mem.le ao M->Zau (Zbq p0 aO aK aL aN b ah ai)/\∃
 (n':Nat),n' < am/\I [int i64 (IntKind.wrap i64 (n+(↑al:Int))),slice a' (ab+1) c',int i64 (IntKind.wrap i64 (ad+(1:Int)))] [] [slice a' (ab+1) c'] M n'))) (Eng.Zv0 p0 259 λ(v:Value)=>chk (Zcy
 v) (∃(aj:Nat),∃(o:Nat),slA v=some (Addr.mk aj o none)/\Zae ad (slN v)/\∃(vs:List Value),List.length vs=260/\Mem.reads aa aj (o+Int.toNat ad*260) vs/\chk (Nat.beq (List.length vs) 260&&true)
 (∀(ac:Nat),Mem.free aa ac->(Tok.mk (slice ae af ag) 260=Tok.mk (slice a ab c) 260\/slice a ab c=slice none 0 0\/c < ab+1)/\∃(xs:List Value),∃(ys:List Value),List.length xs=ab*260/\List.length
 ys=1*260/\rowRd (Mem.add aa ac (List.append vs [])) a xs/\rowRd (Mem.add aa ac (List.append vs [])) (some (Addr.mk ac 0 none)) ys/\(∀(u:Value),u∈ys->Value.oneCell' u=true)/\(ab+1)*2096 <=
 140737488355328/\ab+1<=9223372036854775807/\∀(a':Option Addr)(c':Nat)(m':Mem),Mem.le (Mem.add aa ac (List.append vs [])) m'->rowRd m' a' (List.append xs ys)->Zau (Zbq p0 aO aK aL aN
 b ah ai)/\∃(n':Nat),n' < am/\I [int i64 (IntKind.wrap i64 (n+(↑al:Int))),slice a' (ab+1) c',int i64 (IntKind.wrap i64 (ad+(1:Int)))] [] [slice a' (ab+1) c'] m' n'))))) (∃(R_1:RT),True/\CX
 Try.prog 107 (Array.mk [agg (Array.mk p0),slice a ab c]) m' [] R_1/\Zat Shape.cells R_1/\∀(cs:List Value)(aa:Mem),Mem.le m' aa->R_1 (agg (Array.mk cs)) aa []->chk (Nat.beq (List.length cs) 260&&ZbC cs)
 (∃(m'':Mem),Mem.le m m''/\Mem.le m'' aa/\R (agg (Array.mk cs)) m'' [])))))))
theorem Zne(p0:List Value)(aO aK aL aN p2:Int)(m:Mem)(R:RT)(h:ZhU p0 aO aK aL aN p2 m R):CX Try.prog 82 #[.agg p0.toArray,.agg #[.int .i64 aO,.int .i64 aK,.int .i64 aL,.int .i64 aN],.int .i64 p2] m [] R:=
 Zad (E:=Zpj) ZaE mix Try.func82 [.v (.agg p0.toArray),.v (.agg #[.int .i64 aO,.int .i64 aK,.int .i64 aL,.int .i64 aN]),.v (.int .i64 p2)] [] (by kernel_rfl) (Eq.mp (by kernel_rfl) h)
noncomputable def Znf:Env:={ EB with
 joins:=(λi=>bif Nat.beq i 1 then some [(2,.bool)]else none)
 frzNew:=[1] }
def Zgf(p0:List Value)(m:Mem)(R:RT):Prop:=
 chk (Nat.beq (List.length p0) 260) (∀(b:Nat)(m':Mem),Mem.le m m'->Mem.reads m' b 0 p0->∃(b_1:Bool),(∃(R:RT),True/\CX Try.prog 79 (Array.mk [agg (Array.mk p0)]) m' [] R/\Zat Shape.bool R/\∀(b_2:
 Bool) (m'_1:Mem),Mem.le m' m'_1->R (bool b_2) m'_1 []->br b_2 (∃(R:RT),True/\CX Try.prog 44 (Array.mk [agg (Array.mk p0)]) m'_1 [] R/\Zat (Shape.int i64) R/\∀(n:Int)(m':Mem),Mem.le m'_1 m'->R (int
 i64 n) m' []->[some (Box.mk b p0 70 260 true true)]=[some (Box.mk b p0 70 260 true true)]/\[bool (decide (n<=(120:Int)))]=[bool b_1]) ([some (Box.mk b p0 70 260 true true)]=[some (Box.mk b p0 70 260 true
 true)]/\[bool false]=[bool b_1]))/\∃(m'':Mem),Mem.le m m''/\Mem.le m'' m'/\R (bool b_1) m'' [])
theorem ZkJ(p0:List Value)(m:Mem)(R:RT)(h:Zgf p0 m R):CX Try.prog 40 #[.agg p0.toArray] m [] R:=
 Zad (E:=Znf) ZaE mix Try.func40 [.v (.agg p0.toArray)] [] (by kernel_rfl) (Eq.mp (by kernel_rfl) h)
noncomputable def Zpk:Env:={ EB with
 loops:=(λi=>bif Nat.beq i 5 then⟨[(5,.int .i64),(7,.int .i64)],[4],[],false⟩ else⟨[],[],[],false⟩)
 joins:=(λi=>bif Nat.beq i 9 then some [(61,.bool)]else none)
 dr:=(λi=>bif Nat.beq i 8 then[⟨0,[1],[],none,[],[]⟩,⟨1,[],[],none,[0],[]⟩,⟨2,[1],[],none,[],[]⟩,⟨3,[8],[],none,[],[]⟩,⟨4,[],[],none,[0,1,2,3],[1]⟩,⟨5,[],[],none,[0,1,2,3,4],[4]⟩,⟨6,[],[],none,[0,1,2,3,4,5],[]⟩,⟨7,[],[],none,[0,1,2,3,4,5,6],[]⟩]else[])
 frzNew:=[1] }
abbrev Zng:Value->Value->Value->Value->Nat->Option Box:=λ(v aa ab ac:Value)(b:Nat)=>some (Box.mk b [v,aa,ab,ac] 72 4 false true)
abbrev Znh:Nat->List Value->Option Box:=λ(b:Nat)(cs:List Value)=>some (Box.mk b cs 72 4 false true)
abbrev ZhV:Nat->Option Box:=λ(b:Nat)=>some (Box.mk b [int i64 0,int i64 0,int i64 0,int i64 0] 72 4 false true)
abbrev ZhW:List Value->Nat->Option Box:=λ(p0:List Value)(b:Nat)=>some (Box.mk b p0 70 260 true true)
abbrev Zcx:List Value->Nat->Nat->Nat->List Value->Value->Value->Value->Value->Nat->List (Option Box):=λ(p0:List Value)(b ad ae:Nat)(cs:List Value)(v aa ab ac:Value)(an:Nat)=>
 [Zng v aa ab ac an,Znh ae cs,ZhV ad,ZhW p0 b]
abbrev ZhX:List Value->Nat->Nat->Nat->List (Option Box):=λ(p0:List Value)(b ad ae:Nat)=>[some (Box.mk ae [] 72 4 false true),ZhV ad,ZhW p0 b]
def ZhY(p0:List Value)(m:Mem)(R:RT):Prop:=
 chk (Nat.beq (List.length p0) 260) (∀(b:Nat)(m':Mem),Mem.le m m'->Mem.reads m' b 0 p0->∀(ad ae:Nat),∃(R_1:RT),True/\CX Try.prog 41 (Array.mk [agg (Array.mk p0)]) m' [] R_1/\Zat Shape.slice R_1/\∀(a
 : Option Addr) (n c:Nat) (am:Mem),Mem.le m' am->R_1 (slice a n c) am []->∃(I:IT),(∃(n:Nat),I [int i64 0,int i64 0] [[int i64 0,int i64 0,int i64 0,int i64 0]] [] am n)/\∀(ak ag:Int) (cs:List
 Value) (m':Mem) (ao:Nat),Mem.le am m'->I [int i64 ak,int i64 ag] [cs] [] m' ao->br (decide (ag < (↑n:Int))) (∃(an:Nat),∃(o:Nat),a=some (Addr.mk an o none)/\Zae ag n/\∃(v:Value),∃(aa:
 Value),∃(ab:Value),∃(ac:Value),Mem.reads m' an (o+Int.toNat ag*4) [v,aa,ab,ac]/\∀(ah:Nat),chk (Value.oneCell' v&&(Value.oneCell' aa&&(Value.oneCell' ab&&(Value.oneCell' ac&&true)))) (∃(f:
 Fx),∃(R:RT),R=f 1 [agg (Array.mk p0)] m'/\CX Try.prog 44 (Array.mk [agg (Array.mk p0)]) m' [] R/\Zat (Shape.int i64) R/\∀(n:Int)(ai:Mem),Mem.le m' ai->R (int i64 n) ai []->∃(R:RT),R=f 4 [agg
 (Array.mk p0),agg (Array.mk [v,aa,ab,ac]),int i64 0] ai/\CX Try.prog 82 (Array.mk [agg (Array.mk p0),agg (Array.mk [v,aa,ab,ac]),int i64 0]) ai [] R/\Zat Shape.cells R/\∀(ap:List Value)(aj:Mem),
 Mem.le ai aj->R (agg (Array.mk ap)) aj []->∃(R:RT),R=f 5 [agg (Array.mk ap)] aj/\CX Try.prog 44 (Array.mk [agg (Array.mk ap)]) aj [] R/\Zat (Shape.int i64) R/\∀(al:Int)(aq:Mem),Mem.le aj aq->R (int
 i64 al) aq []->∀(M:Mem),Mem.le m' M->Mem.le ai M->Mem.le aj M->Mem.le aq M->∃(af:Bool),br (decide (IntKind.wrap i64 (n - al) > ak)) (Zau (Zcx p0 b ad ae cs v aa ab ac ah)/\[bool true]=[bool
 af]) (br (decide (IntKind.wrap i64 (n - al) > (0:Int))) (br (IntKind.wrap i64 (n - al) == ak) (Eng.Zv0 cs 0 λ(ar:Value)=>chk (ZaD i64 v&&ZaD i64 ar) (br (RowKit.intOf v == RowKit.intOf ar) (Eng.Zv0 cs 1
 λ(au:Value)=>chk (ZaD i64 aa&&ZaD i64 au) (br (RowKit.intOf aa == RowKit.intOf au) (Eng.Zv0 cs 2 λ(av:Value)=>chk (ZaD i64 ab&&ZaD i64 av) (Zau (Zcx p0 b ad ae cs v aa ab ac ah)/\
 [bool (decide (RowKit.intOf ab > RowKit.intOf av))]=[bool af])) (Zau (Zcx p0 b ad ae cs v aa ab ac ah)/\[bool false]=[bool af]))) (Zau (Zcx p0 b ad ae cs v aa ab ac ah)/\[bool false] =
 [bool af]))) (Zau (Zcx p0 b ad ae cs v aa ab ac ah)/\[bool false]=[bool af])) (Zau (Zcx p0 b ad ae cs v aa ab ac ah)/\[bool false]=[bool af]))/\br af (chk (Value.oneCell' v &&
 (Value.oneCell' aa&&(Value.oneCell' ab&&(Value.oneCell' ac&&true)))) (Zau (ZhX p0 b ad ae)/\∃(n':Nat),n' < ao/\I [int i64 (IntKind.wrap i64 (n - al)),int i64 (IntKind.wrap i64 (ag+(1:
 Int)))] [[v,aa,ab,ac]] [] M n')) (Zau (ZhX p0 b ad ae)/\∃(n':Nat),n' < ao/\I [int i64 ak,int i64 (IntKind.wrap i64 (ag+(1:Int)))] [cs] [] M n'))) (chk (Nat.beq (List.length cs) 4&&ZbC cs)
 (∃(m'':Mem),Mem.le m m''/\Mem.le m'' m'/\R (tuple (Array.mk [agg (Array.mk cs),int i64 ak])) m'' [])))
theorem Zni(p0:List Value)(m:Mem)(R:RT)(h:ZhY p0 m R):CX Try.prog 60 #[.agg p0.toArray] m [] R:=
 Zad (E:=Zpk) ZaE mix Try.func60 [.v (.agg p0.toArray)] [] (by kernel_rfl) (Eq.mp (by kernel_rfl) h)
noncomputable def Znj:Env:={ EB with
 loops:=(λi=>bif Nat.beq i 2 then⟨[(4,.slice)],[1,3],[(19,4)],false⟩ else⟨[],[],[],false⟩)
 dr:=(λi=>bif Nat.beq i 4 then[⟨0,[],[],none,[],[]⟩,⟨1,[1],[],none,[],[]⟩,⟨2,[],[],none,[0],[]⟩,⟨3,[3],[3],none,[0,1,2],[]⟩]else[])
 tokOf:=(λi=>bif Nat.beq i 19 then 19 else 0) }
abbrev ZkK:List Value:=[int i64 0,int i64 0,int i64 0,int i64 0,int i64 0,int i64 0,int i64 0,int i64 0,int i64 0,int i64 0,int i64 0,int i64 0,int i64 0,int i64 0,int i64 0,int i64 0,int
 i64 0,int i64 0,int i64 0,int i64 0,int i64 0,int i64 0,int i64 0,int i64 0,int i64 0,int i64 0,int i64 0,int i64 0,int i64 0,int i64 0,int i64 0,int i64 0,int i64 0,int i64 0,int i64 0,int i64 0,int
 i64 0,int i64 0,int i64 0,int i64 0,int i64 0,int i64 0,int i64 0,int i64 0,int i64 0,int i64 0,int i64 0,int i64 0,int i64 0,int i64 0,int i64 0,int i64 0,int i64 0,int i64 0,int i64 0,int i64 0,int
 i64 0,int i64 0,int i64 0,int i64 0,int i64 0,int i64 0,int i64 0,int i64 0,int i64 0,int i64 0,int i64 0,int i64 0,int i64 0,int i64 0,int i64 0,int i64 0,int i64 0,int i64 0,int i64 0,int i64 0,int
 i64 0,int i64 0,int i64 0,int i64 0,int i64 0,int i64 0,int i64 0,int i64 0,int i64 0,int i64 0,int i64 0,int i64 0,int i64 0,int i64 0,int i64 0,int i64 0,int i64 0,int i64 0,int i64 0,int i64 0,int
 i64 0,int i64 0,int i64 0,int i64 0,int i64 0,int i64 0,int i64 0,int i64 0,int i64 0,int i64 0,int i64 0,int i64 0,int i64 0,int i64 0,int i64 0,int i64 0,int i64 0,int i64 0,int i64 0,int i64 0,int
 i64 0,int i64 0,int i64 0,int i64 0,int i64 0,int i64 0,int i64 0,int i64 0,int i64 0,int i64 0,int i64 0,int i64 0,int i64 0,int i64 0,int i64 0,int i64 0,int i64 0,int i64 0,int i64 0,int i64 0,int
 i64 0,int i64 0,int i64 0,int i64 0,int i64 0,int i64 0,int i64 0,int i64 0,int i64 0,int i64 0,int i64 0,int i64 0,int i64 0,int i64 0,int i64 0,int i64 0,int i64 0,int i64 0,int i64 0,int i64 0,int
 i64 0,int i64 0,int i64 0,int i64 0,int i64 0,int i64 0,int i64 0,int i64 0,int i64 0,int i64 0,int i64 0,int i64 0,int i64 0,int i64 0,int i64 0,int i64 0,int i64 0,int i64 0,int i64 0,int i64 0,int
 i64 0,int i64 0,int i64 0,int i64 0,int i64 0,int i64 0,int i64 0,int i64 0,int i64 0,int i64 0,int i64 0,int i64 0,int i64 0,int i64 0,int i64 0,int i64 0,int i64 0,int i64 0,int i64 0,int i64 0,int
 i64 0,int i64 0,int i64 0,int i64 0,int i64 0,int i64 0,int i64 0,int i64 0,int i64 0,int i64 0,int i64 0,int i64 0,int i64 0,int i64 0,int i64 0,int i64 0,int i64 0,int i64 0,int i64 0,int i64 0,int
 i64 0,int i64 0,int i64 0,int i64 0,int i64 0,int i64 0,int i64 0,int i64 0,int i64 0,int i64 0,int i64 0,int i64 0,int i64 0,int i64 0,int i64 0,int i64 0,int i64 0,int i64 0,int i64 0,int i64 0,int
 i64 0,int i64 0,int i64 0,int i64 0,int i64 0,int i64 0,int i64 0,int i64 0,int i64 0,int i64 0,int i64 0,int i64 0,int i64 0,int i64 0,int i64 0,int i64 0,int i64 0,int i64 0,int i64 0,int i64 0,int
 i64 0,int i64 0,int i64 0,slice none 0 0]
abbrev ZkL:Nat->Nat->List (Option Box):=λ(b b_1:Nat)=>[some (Box.mk b_1 [] 70 260 false true),some (Box.mk b [] 70 260 false true)]
def Zgg(p0:List Value)(m:Mem)(R:RT):Prop:=
 chk (Nat.beq (List.length p0) 260) (∀(b b_1:Nat),∃(I:IT),(∃(n:Nat),I [slice none 0 0] [p0,ZkK] [slice none 0 0] m n)/\∀(a:Option Addr)(n c:Nat)(cs cs_1:List Value)(a_1:Option Addr)
 (n_1 c_1:Nat) (m':Mem) (n_2:Nat),Mem.le m m'->I [slice a n c] [cs,cs_1] [slice a_1 n_1 c_1] m' n_2->∃(R_1:RT),True/\CX Try.prog 60 (Array.mk [agg (Array.mk cs)]) m' [] R_1/\Zat (Shape.tup [Shape.agg
 [Shape.int i64,Shape.int i64,Shape.int i64,Shape.int i64],Shape.int i64]) R_1/\∀(n_3 n_4 n_5 n_6 n_7:Int)(m'_1:Mem),Mem.le m' m'_1->R_1 (tuple (Array.mk [agg (Array.mk [int i64 n_3,int i64 n_4,int i64
 n_5,int i64 n_6]),int i64 n_7])) m'_1 []->∀(b_2:Nat),br (n_7 == (0:Int)) (chk (Nat.beq (List.length cs) 260&&ZbC cs) (∃(m'':Mem),Mem.le m m''/\Mem.le m'' m'_1/\R (tuple (Array.mk [slice a n c,agg
 (Array.mk cs)])) m'' [])) (∀(b_3:Nat),Mem.free m'_1 b_3->(Tok.mk (slice a_1 n_1 c_1) 4=Tok.mk (slice a n c) 4\/slice a n c=slice none 0 0\/c < n+1)/\∃(xs:List Value),∃(ys:List Value),List.length xs
 = n*4/\List.length ys=1*4/\rowRd (Mem.add m'_1 b_3 [int i64 n_3,int i64 n_4,int i64 n_5,int i64 n_6]) a xs/\rowRd (Mem.add m'_1 b_3 [int i64 n_3,int i64 n_4,int i64 n_5,int i64 n_6]) (some (Addr.mk b_3 0
 none)) ys/\(∀(u:Value),u∈ys->Value.oneCell' u=true)/\(n+1)*32<=140737488355328/\n+1<=9223372036854775807/\∀(a':Option Addr)(c':Nat)(m':Mem),Mem.le (Mem.add m'_1 b_3 [int i64 n_3,int i64
 n_4,int i64 n_5,int i64 n_6]) m'->rowRd m' a' (List.append xs ys)->∃(R:RT),True/\CX Try.prog 82 (Array.mk [agg (Array.mk cs),agg (Array.mk [int i64 n_3,int i64 n_4,int i64 n_5,int i64 n_6]),int i64 0]) m'
 [] R/\Zat Shape.cells R/\∀(cs:List Value)(m'_2:Mem),Mem.le m' m'_2->R (agg (Array.mk cs)) m'_2 []->chk (Nat.beq (List.length cs) 260&&ZbC cs) (Zau (ZkL b b_1)/\∃(n':Nat),n' < n_2/\I
 [slice a' (n+1) c'] [cs,cs_1] [slice a' (n+1) c'] m'_2 n')))
theorem ZkM(p0:List Value)(m:Mem)(R:RT)(h:Zgg p0 m R):CX Try.prog 59 #[.agg p0.toArray] m [] R:=
 Zad (E:=Znj) ZaE mix Try.func59 [.v (.agg p0.toArray)] [] (by kernel_rfl) (Eq.mp (by kernel_rfl) h)
end Go.Proofs.Ytfgfahnakepegaa
set_option linter.unusedVariables false
set_option linter.unusedSimpArgs false
namespace Go.Proofs.Ytfgfahnakepegaa
open Go Go.Eng Go.Rx Go.Proofs Go.RowKit
set_option maxRecDepth 100000
theorem Zop{L:List C4}:∀(v:Value)(m':Mem) (css:List (List Value)),ZA2 L v m' css->Shape.fits .slice v=true:=λv _ _ ⟨_,_,h,_⟩=>by rw[h];rfl
theorem ZpN{m:Mem}{b:Nat}{cs:List Value}:rowRd (m.add b cs) (some ⟨b,0,none⟩) cs:=.inr ⟨b,0,rfl,λj u hj=>by rw[Nat.zero_add,Mem.add_same];exact hj⟩
theorem Zrw(t:T)(cs:List Value)(m:Mem)(hr:RefT m t cs):CX Try.prog 40 #[.agg cs.toArray] m [] (Ret (.bool (T.rgt t))):=by
 apply ZkJ
 unfold Zgf
 refine hr.chk λb m1 aM _=>⟨T.rgt t,Zai (ZgV t cs m1 (hr.mono aM)) λm2 aP=>Zab (λh=>Zdh (ZpM t cs m2 (hr.mono (mLt aM aP))) λm3 aX=>⟨by trivial,?_⟩) (λh=>⟨by trivial,?_⟩),Zah aM rfl⟩
 ·unfold T.rgt;rw[h];rfl
 ·unfold T.rgt;rw[h];rfl
theorem ZpO{t:T}(hz:t.nodes.length<=300):t.cuts.length<=90000:=by
 have h:=Zxh (t:=t) (n:=299) (by omega)
 omega
set_option maxHeartbeats 1600000 in
theorem Zoq(t:T)(cs:List Value)(m:Mem)(hr:RefT m t cs)(hz:t.nodes.length<=300):CX Try.prog 41 #[.agg cs.toArray] m [] (ZA2 t.cuts):=by
 apply Zm7
 unfold ZhP
 have bO:=ZpO hz
 have iI:=ZtK t
 refine hr.chk λb m1 aM _=>Zag (Zuo t cs m1 (hr.mono aM) (by omega)) Zec ?_
 rintro a n c m2 aP ⟨aa,ca,ass,hv,uS,vJ⟩
 simp only[Value.slice.injEq]at hv
 obtain⟨rfl,rfl,rfl⟩:=hv
 have bY:=mLt aM aP
 refine⟨λxs _ tvs m' q=>∃(j:Nat)(P:List C4)(a1:Option Addr)(c1:Nat),j<=t.alts.length/\xs=[.slice a1 P.length c1,.int .i64 j]/\tvs=[.slice a1 P.length c1]/\rowRd m' a1 (ZaP P)/\P++Zfj j (t.alts.drop j)=t.cuts/\q=t.alts.length - j,⟨_,0,[],none,0,Nat.zero_le _,rfl,rfl,.inl rfl,rfl,rfl⟩,?_⟩
 rintro a1 n1 c1 z a2 n2 c2 m3 q aX ⟨j,P,a3,c3,hj,aZ,cA,aR,hP,hq⟩
 simp only[List.cons.injEq,Value.slice.injEq,Value.int.injEq,true_and,and_true]at aZ cA
 obtain⟨⟨rfl,rfl,rfl⟩,rfl⟩:=aZ
 obtain⟨rfl,rfl,rfl⟩:=cA
 subst hq
 have bT:=mLt bY aX
 refine ZbD (λaS=>?_) (λbM=>?_)
 ·have aQ:j < t.alts.length:=by omega
  obtain⟨al,p6⟩:=Za7 aQ
  obtain⟨b0,o0,csa,rfl,bA,zl⟩:=Zcd uS vJ p6
  have dB:Zae (j:Int) t.alts.length:=⟨by omega,by omega⟩
  obtain⟨_,_,sa,sc,sss,rfl,zm,vK,sD⟩:=Za6.1 zl
  have zn:IntKind.i64.wrap ((j:Int)+1)=((j+1:Nat):Int):=by rw[ZaB (by omega) (by omega)];rfl
  simp only[zn,Int.toNat_natCast]
  rw[Zsx p6]at hP
  have wQ:=Zmr t
  have AK:=Zvi (List.mem_of_getElem? p6)
  have bK:al.subs.length<=300:=by omega
  refine⟨b0,o0,rfl,dB,_,ZfM (bA.mono aX) (ZqU _ _ _ _ _ _ _),λxs _ tvs m' q=>∃(f:Nat)(P:List C4)(a1:Option Addr)(c1:Nat),f<=al.subs.length/\xs=[.slice a1 P.length c1,.int .i64 f]/\tvs=[.slice a1 P.length c1]/\rowRd m' a1 (ZaP P)/\P++(ZeT j f (al.subs.drop f)++Zfj (j+1) (t.alts.drop (j+1)))=t.cuts/\q=al.subs.length - f,⟨_,0,P,_,_,Nat.zero_le _,rfl,rfl,aR,hP,rfl⟩,?_⟩
  clear hP aR
  rintro a4 n4 c4 z a5 n5 c5 m4 q bG ⟨f,P2,a6,c6,hf,aZ,cA,aR,hP,hq⟩
  simp only[List.cons.injEq,Value.slice.injEq,Value.int.injEq,true_and,and_true]at aZ cA
  obtain⟨⟨rfl,rfl,rfl⟩,rfl⟩:=aZ
  obtain⟨rfl,rfl,rfl⟩:=cA
  subst hq
  have gB:=mLt bT bG
  have zo:IntKind.i64.wrap ((f:Int)+1)=((f+1:Nat):Int):=by rw[ZaB (by omega) (by omega)];rfl
  have vL:IntKind.i64.wrap ((f:Int)+2)=((f+1+1:Nat):Int):=by rw[ZaB (by omega) (by omega)];omega
  simp only[zo,vL]
  refine Zaa rfl (ZbD (λeK=>?_) (λmY=>?_))
  ·have iM:f < al.subs.length:=by simp only[slN]at eK;omega
   obtain⟨x,hx⟩:=Za7 iM
   rw[Zsw hx,List.append_assoc]at hP
   refine⟨λxs _ tvs m' q=>∃(to:Nat)(P:List C4)(a1:Option Addr)(c1:Nat),f+1<=to/\to<=al.subs.length/\xs=[.slice a1 P.length c1,.int .i64 (to+1:Nat)]/\tvs=[.slice a1 P.length c1]/\rowRd m' a1 (ZaP P)/\P++(runE j f ((Zan x).take (Zny (seg al.subs f to))) (to+1) (al.subs.drop to)++(ZeT j (f+1) (al.subs.drop (f+1))++Zfj (j+1) (t.alts.drop (j+1))))=t.cuts/\q=al.subs.length - to,⟨_,f+1,P2,_,_,Nat.le_refl _,iM,rfl,rfl,aR,hP,rfl⟩,?_⟩
   clear hP aR
   rintro a7 n7 c7 z a8 n8 c8 m5 q dA ⟨to,P3,a9,c9,uz,uV,aZ,cA,aR,hP,hq⟩
   simp only[List.cons.injEq,Value.slice.injEq,Value.int.injEq,true_and,and_true]at aZ cA
   obtain⟨⟨rfl,rfl,rfl⟩,rfl⟩:=aZ
   obtain⟨rfl,rfl,rfl⟩:=cA
   subst hq
   have AL:=mLt gB dA
   have zp:IntKind.i64.wrap (((to+1:Nat):Int)+1)=((to+1+1:Nat):Int):=by rw[ZaB (by omega) (by omega)];omega
   simp only[zp]
   refine Zaa rfl (ZbD (λvM=>?_) (λvN=>?_))
   ·have sE:to < al.subs.length:=by simp only[slN]at vM;omega
    obtain⟨y,hy⟩:=Za7 sE
    rw[Zxk hx uz hy]at hP
    have vO:=Zru (zm.mono (mLt aX (mLt bG dA))) (vK.mono (mLt aX (mLt bG dA))) (i:=f) (n:=to+1) (c:=sc) (by omega) (by omega) sD
    rw[Zhv (by omega) hx]at vO hP
    have dS:(x::seg al.subs (f+1) (to+1)).length=to+1 - f:=by rw[<-Zhv (by omega) hx,Zwq (by omega)]
    have aU:=Zs4 x (seg al.subs (f+1) (to+1)) _ _ (sc - f) m5 vO.1 vO.2 (by omega)
    rw[dS]at aU
    refine Zaa rfl ⟨⟨by omega,by simp only[slC];omega⟩,⟨by omega,by omega⟩,?_⟩
    simp only[Int.toNat_natCast]
    refine Zdh aU λm6 eA=>ZbD (λiD=>λb6 jG=>?_) (λiD=>?_)
    ·rw[if_pos (by omega)]at hP
     have xp:P3.length+1<=t.cuts.length:=by
      rw[<-hP]
      simp only[List.length_append,List.length_cons,List.length_nil];omega
     refine⟨.inl trivial,ZaP P3,ZcI ⟨j,f,to+1,Zny (x::seg al.subs (f+1) (to+1))⟩,Zc6 _,rfl,(aR.mono eA).mono (Mem.le_add jG _),ZpN,ZvG _,by omega,by omega,λa10 c10 m7 cT eW=>⟨by trivial,by trivial,al.subs.length - (to+1),by omega,to+1,P3++[⟨j,f,to+1,Zny (x::seg al.subs (f+1) (to+1))⟩],a10,c10,by omega,by omega,?_,?_,?_,?_,rfl⟩⟩
     ·rw[List.length_append];rfl
     ·rw[List.length_append];rfl
     ·rw[Zdd];exact eW
     ·rw[<-hP,Zhv (by omega) hx,List.append_assoc,List.append_assoc]
    ·rw[if_neg (by omega),List.nil_append]at hP
     exact⟨by trivial,by trivial,al.subs.length - (to+1),by omega,to+1,P3,_,_,by omega,by omega,rfl,rfl,aR.mono eA,by rw[Zhv (by omega) hx];exact hP,rfl⟩
   ·have:to=al.subs.length:=by simp only[slN]at vN;omega
    subst this
    rw[Zy0 (Nat.le_refl _),List.nil_append]at hP
    exact⟨by trivial,by trivial,al.subs.length - (f+1),by omega,f+1,P3,_,_,iM,rfl,rfl,aR,hP,rfl⟩
  ·have:f=al.subs.length:=by simp only[slN]at mY;omega
   subst this
   rw[List.drop_length,show ZeT j al.subs.length []=[] from rfl,List.nil_append]at hP
   exact⟨by trivial,t.alts.length - (j+1),by omega,j+1,P2,_,_,aQ,rfl,rfl,aR,hP,rfl⟩
 ·have:j=t.alts.length:=by omega
  subst this
  rw[List.drop_length,show Zfj t.alts.length []=[] from rfl,List.append_nil]at hP
  subst hP
  exact⟨m3,bT,Mem.le_refl _,_,_,rfl,aR⟩
end Go.Proofs.Ytfgfahnakepegaa
set_option linter.unusedVariables false
set_option linter.unusedSimpArgs false
namespace Go.Proofs.Ytfgfahnakepegaa
open Go Go.Eng Go.Rx Go.Proofs Go.RowKit
set_option maxRecDepth 100000
theorem ZxH{m:Mem}{x:T}{cs:List Value}(h:RefT m x cs):∀u∈Zan x,OkN u.k u.s0 u.s1 u.s2 u.s3 u.mn u.mx:=by
 obtain⟨bC,_,a,c,css,_,_,bQ,_⟩:=Za6.1 h
 intro u hu
 unfold Zan at hu
 split at hu
 ·simp at hu;subst hu;exact bC
 ·split at hu
  ·exact(bQ.reps u ((List.takeWhile_sublist _).mem hu)).1
  ·simp at hu
theorem ZxI(q:QS):List.drop (1+(ZaH q).length) Zc7=[.int .i64 0,.int .i64 0,.slice none 0 0]:=by rw[Zal];rfl
theorem ZvT{m m':Mem}{x u:T}{cs:List Value}(h:RefT m x cs)(hu:u∈Zan x)(hg:x.good=true):RefT m' u (rcs 2 u.q 0 0 none 0 0):=by
 have h1:=Zd9 hg u hu
 have h2:=ZjS h1.1 h1.2
 have h3:=(Zam h1.1).1
 have eJ:u.mn=0/\u.mx=0:=by
  unfold T.right at h3
  simp only[h1.2]at h3
  simp at h3
  exact h3.1.1
 refine Za6.2 ⟨ZxH h u hu,by rw[h2.1];simp,none,0,[],?_,.inl rfl,?_,?_⟩
 ·rw[h1.2,eJ.1,eJ.2,h2.1];rfl
 ·rw[h2.1];simp[RefAt]
 ·rw[h2.1];simp
theorem Zj7{L:List T}{k:C4}(hf:Fit L k)(hg:∀x∈L,x.good=true){i:Nat}{x:T}(h1:k.f<=i)(h2:i < k.t)(hx:L[i]?=some x):x.good=true/\k.n<=(Zan x).length:=⟨hg x (List.mem_of_getElem? hx),hf.head i x h1 h2 hx⟩
theorem ib(k:Int)(b:Bool){K:List Value}:(k == 1)=b->([Value.bool (intOf (.int .i64 k) == 1)]=[Value.bool b]):=λh=>by show[Value.bool (k == 1)]=_;rw[h]
theorem ZBW{x y:Nat}{A B:Prop}(ht:x=y->A)(hf:¬x=y->B):br (Nat.beq x y) A B:=Zab (λh=>ht (Nat.eq_of_beq_eq_true h)) (λh=>hf λe=>by rw[e]at h;simp at h)
def Zdp(L:List T)(k:C4)(i:Nat):List T:=(seg L k.f i).map (Zbw k.n)
theorem Zor{L:List T}{k:C4}{i:Nat}{x:T}(h:k.f<=i)(hx:L[i]?=some x):Zdp L k (i+1)=Zdp L k i++[Zbw k.n x]:=by
 unfold Zdp
 rw[Zt2 h hx,List.map_append];rfl
theorem Znk:∀(e:Bool)(l:List T),(ZcC e l).length<=l.length
 | _,[]=>Nat.le_refl _
 | e,x::l=>by
  rw[ZcC]
  split
  ·have:=Znk (e||x.k == 1) l
   simp only[List.length_cons];omega
  ·have:=Znk (e||x.k == 1) l
   simp only[List.length_cons];omega
set_option maxHeartbeats 4000000 in
theorem ZxJ(L:List T)(css:List (List Value))(a:Option Addr)(c:Nat)(k:C4)(m:Mem)(hr:rowRd m a css.flatten)(bQ:RefAt m L css)(bN:L.length<=c)(hg:∀x∈L,x.good=true)(bB:szL L<=300)(hf:Fit L k):
  CX Try.prog 108 #[.slice a L.length c,k.v] m [] (Zs3 (Zh8 L k)):=by
 apply Zm9
 unfold ZhT
 have tl:∀(v:Value),Zcy v=true->TokTail ⟨v,260⟩ v 260:=λv h=>TokTail.refl v 260 h
 have gF:=ZbY L
 have h2:=hf.two
 have bE:=hf.le
 have iD:=hf.pos
 obtain⟨x0,gC⟩:=Za7 (l:=L) (k:=k.f) (by omega)
 obtain⟨mA,lY⟩:=Zj7 hf hg (Nat.le_refl _) (by omega) gC
 obtain⟨b0,o0,cs0,rfl,dN,pY⟩:=Zcd hr bQ gC
 have rO:=ZiP (l:=(Zan x0).take k.n) λx hx=>Zd9 mA x (List.mem_of_mem_take hx)
 have zq:=ZbL (List.mem_of_getElem? gC)
 have vu:=ZgI x0
 intro b m1 aM _
 have vP:Zae (k.f:Nat) L.length:=⟨by omega,by omega⟩
 simp only[Int.toNat_natCast]
 refine⟨b0,o0,rfl,vP,cs0,pY.len,dN.mono aM,Zag (Zj6 x0 cs0 m1 (pY.mono aM)) Ze7 ?_⟩
 rintro a3 n3 c3 m2 aP ⟨ah,ch,hv,xn⟩
 simp only[Value.slice.injEq]at hv
 obtain⟨rfl,rfl,rfl⟩:=hv
 have bY:=mLt aM aP
 refine⟨λxs _ tvs m' q=>∃(i:Nat)(a1:Option Addr)(c1:Nat) (R:List (List Value)),i<=k.n/\xs=[.slice a1 i c1,.int .i64 i]/\tvs=[.slice a1 i c1]/\rowRd m' a1 R.flatten/\RefAt m' ((Zan x0).take i) R/\q=k.n - i,⟨_,0,none,0,[],Nat.zero_le _,rfl,rfl,.inl rfl,by simp[RefAt],rfl⟩,?_⟩
 rintro a4 n4 c4 z a5 n5 c5 m3 q aX ⟨i,a6,c6,R,hi,aZ,cA,aR,hR,hq⟩
 simp only[List.cons.injEq,Value.slice.injEq,Value.int.injEq,true_and,and_true]at aZ cA
 obtain⟨⟨rfl,rfl,rfl⟩,rfl⟩:=aZ
 obtain⟨rfl,rfl,rfl⟩:=cA
 subst hq
 have bT:=mLt bY aX
 have iO:=hR.len
 rw[List.length_take,Nat.min_eq_left (by omega)]at iO
 have fK:=Zb4 hR.all
 refine ZbD (λaS=>?_) (λbM=>?_)
 ·have aQ:n5 < k.n:=by omega
  obtain⟨u,hu⟩:=Za7 (l:=Zan x0) (k:=n5) (by omega)
  have zr:=List.mem_of_getElem? hu
  obtain⟨b7,o7,rfl,vQ⟩:=Zjr (xn.mono aX) hu
  have hw:IntKind.i64.wrap ((n5:Int)+1)=((n5+1:Nat):Int):=by rw[ZaB (by omega) (by omega)];rfl
  simp only[hw,Int.toNat_natCast]
  refine⟨b7,o7,rfl,⟨by omega,by omega⟩,ZaH u.q,Zal _,vQ,Zaa (by rw[Zal];rfl) ?_⟩
  rw[ZxI]
  have fI:RefT m3 u (rcs 2 u.q 0 0 none 0 0):=ZvT (pY.mono bT) zr mA
  refine Zaa (by simp[Zal]) λb8 p7=>⟨.inl (tl _ rfl),R.flatten,rcs 2 u.q 0 0 none 0 0,by rw[fK,iO],by rw[Zfm],aR.mono (Mem.le_add p7 _),(Zdo:rowRd (m3.add b8 (List.append (rcs 2 u.q 0 0 none 0 0) [])) _ _),ZqV _ _ _ _ _ _ _,by omega,by omega,λa9 c9 m4 bG kZ _=>⟨by trivial,k.n - (n5+1),by omega,n5+1,a9,c9,R++[rcs 2 u.q 0 0 none 0 0],by omega,rfl,rfl,ZdT kZ,?_,rfl⟩⟩
  have e:(Zan x0).take (n5+1)=(Zan x0).take n5++[u]:=by rw[List.take_add_one,hu];rfl
  rw[e]
  have xq:=mLt (Mem.le_add p7 _) bG
  exact(hR.mono xq).append (RefAt.one (fI.mono xq))
 have lV:n5=k.n:=by omega
 subst lV
 have gP:∀x∈seg L k.f k.t,x.good=true/\k.n<=(Zan x).length:=λx hx=>by
  obtain⟨i,h1,h2,h3⟩:=ZtM hx
  exact Zj7 hf hg h1 h2 h3
 have qN:=ZgH hf.pos gP
 have pO:szL (seg L k.f k.t)<=szL L:=by
  have h1:=ZcK (L.take k.t) k.f
  have h2:=ZcK L k.t
  unfold seg
  omega
 refine⟨λxs _ tvs m' q=>∃(i:Nat)(a1:Option Addr)(c1:Nat) (Q:List (List Value)),k.f<=i/\i<=k.t/\xs=[.slice a1 (ZcC false (Zdp L k i)).length c1,.bool ((Zdp L k i).any λy=>y.k == 1),.int .i64 i]/\tvs=[.slice a1 (ZcC false (Zdp L k i)).length c1]/\rowRd m' a1 Q.flatten/\RefAt m' (ZcC false (Zdp L k i)) Q/\q=k.t - i,⟨_,k.f,none,0,[],Nat.le_refl _,by omega,?_,?_,.inl rfl,?_,rfl⟩,?_⟩
 ·have:Zdp L k k.f=[]:=by unfold Zdp seg;rw[List.drop_eq_nil_of_le (by rw[List.length_take];omega)];rfl
  rw[this];rfl
 ·have:Zdp L k k.f=[]:=by unfold Zdp seg;rw[List.drop_eq_nil_of_le (by rw[List.length_take];omega)];rfl
  rw[this];rfl
 ·have:Zdp L k k.f=[]:=by unfold Zdp seg;rw[List.drop_eq_nil_of_le (by rw[List.length_take];omega)];rfl
  rw[this];simp[ZcC,RefAt]
 rintro a7 n7 c7 bb z a8 n8 c8 m4 q bG ⟨i,a9,c9,Q,eX,fU,aZ,cA,dM,hQ,hq⟩
 simp only[List.cons.injEq,Value.slice.injEq,Value.int.injEq,Value.bool.injEq,true_and,and_true]at aZ cA
 obtain⟨⟨rfl,rfl,rfl⟩,rfl,rfl⟩:=aZ
 obtain⟨rfl,rfl,rfl⟩:=cA
 subst hq
 have gB:=mLt bT bG
 have zt:=hQ.len
 have zu:=Zb4 hQ.all
 have yn:=Znk false (Zdp L k i)
 have zv:(Zdp L k i).length=i - k.f:=by unfold Zdp;rw[List.length_map,Zwq (by omega)]
 refine ZbD (λaS=>?_) (λbM=>?_)
 ·have aQ:i < k.t:=by omega
  obtain⟨y,hy⟩:=Za7 (l:=L) (k:=i) (by omega)
  obtain⟨zw,zx⟩:=Zj7 hf hg eX aQ hy
  obtain⟨by',oy,csy,e0,vR,kD⟩:=Zcd hr bQ hy
  cases e0
  have sT:=ZbL (List.mem_of_getElem? hy)
  have hw:IntKind.i64.wrap ((i:Int)+1)=((i+1:Nat):Int):=by rw[ZaB (by omega) (by omega)];rfl
  simp only[hw,Int.toNat_natCast]
  refine⟨λ_ _ _=>Zuk (Zbw k.n y),b0,o0,rfl,⟨by omega,by omega⟩,csy,kD.len,vR.mono gB,_,rfl,ZxG y csy k.n m4 (kD.mono gB) zw (by omega) zx,Zbk,ZgW λcsl m5 dA hl b5=>hl.chk1 λM jP zy=>?_⟩
  have zA:=hl.mono zy
  have oF:=ZjV (Zbw k.n y) false (Zdp L k i)
  rw[<-Zor eX hy]at oF
  have eL:(Zdp L k (i+1)).any (λy=>y.k == 1)=((Zdp L k i).any (λy=>y.k == 1)||(Zbw k.n y).k == 1):=by
   rw[Zor eX hy,List.any_append];simp
  generalize hA:(Zdp L k i).any (λy=>y.k == 1)=A at *
  refine⟨(Zbw k.n y).k == 1&&A,Zar hl.at0 (Zaa rfl (ZdA (λh1=>⟨by trivial,by trivial,?_⟩) (λh1=>⟨by trivial,by trivial,?_⟩))),Zab (λhb=>?_) (λhb=>?_)⟩
  ·have h1:(Zbw k.n y).k=1:=h1
   rw[h1];simp
  ·have h1:¬(Zbw k.n y).k=1:=h1
   have:((Zbw k.n y).k == 1)=false:=by simpa using h1
   rw[this];rfl
  ·simp only[Bool.and_eq_true]at hb
   rw[if_neg (by
    have h1:(Zbw k.n y).k=1:=by simpa using hb.1
    rw[h1,hb.2];simp),List.append_nil]at oF
   rw[hb.2]at eL
   exact⟨by trivial,by trivial,k.t - (i+1),by omega,i+1,_,_,Q,by omega,by omega,by rw[oF,eL,hb.2];rfl,by rw[oF],dM.mono jP,by rw[oF];exact hQ.mono jP,rfl⟩
  ·rw[if_pos (by
    rcases Bool.and_eq_false_iff.1 hb with h1|h1
    ·left;simpa using h1
    ·right;rw[h1];rfl)]at oF
   have gL:=congrArg List.length oF
   simp only[List.length_append,List.length_cons,List.length_nil]at gL
   refine⟨A||(Zbw k.n y).k == 1,Zab (λh1=>⟨by trivial,by trivial,by rw[h1];rfl⟩) (λh1=>Zar hl.at0 (Zaa rfl ⟨by trivial,by trivial,by rw[h1];rfl⟩)),hl.chk2 λb6 jG=>⟨.inl (tl _ rfl),Q.flatten,csl,by rw[zu,zt],by rw[hl.len],(dM.mono jP).mono (Mem.le_add jG _),Zdo,hl.one,by omega,by omega,λa10 c10 m6 eA vS _=>⟨by trivial,by trivial,k.t - (i+1),by omega,i+1,a10,c10,Q++[csl],by omega,by omega,?_,?_,ZdT vS,?_,rfl⟩⟩⟩
   ·rw[gL,eL]
   ·rw[gL]
   ·rw[oF]
    have qS:=mLt (Mem.le_add jG _) eA
    exact(hQ.mono (mLt jP qS)).append (RefAt.one (zA.mono qS))
 have qT:i=k.t:=by omega
 subst qT
 have iJ:=Zme (e:=false) (l:=Zdp L k k.t) λx hx=>(qN.1 x hx).1
 have lW:∀y∈ZcC false (Zdp L k k.t),y.good=true:=λy hy=>(qN.1 y (ZgG hy)).1
 have bS:ZcC false (Zdp L k k.t)≠[]:=by
  obtain⟨y,l,fQ⟩:∃y l,Zdp L k k.t=y::l:=by
   unfold Zdp
   rw[Zhv (by omega) gC]
   exact⟨_,_,rfl⟩
  rw[fQ]
  exact ZtJ rfl
 have zB:szL (Zdp L k k.t)<=szL (seg L k.f k.t):=qN.2.1
 have sf:=Zzw (ZcC false (Zdp L k k.t)) Q a8 c8 m4 dM hQ lW (by have:=iJ.2;omega) bS
 have ha:=Zfi lW
 have has:=ha.sz
 have eT:=iJ.2
 refine Zag sf Zbk (ZgW λcso m5 dA ho=>ho.chk2 λb5 qR=>⟨.inl (tl _ rfl),R.flatten,cso,by rw[fK,iO],by rw[ho.len],(aR.mono (mLt bG dA)).mono (Mem.le_add qR _),Zdo,ho.one,by omega,by omega,λa10 c10 m6 eA vS _=>?_⟩)
 have qS:=mLt (Mem.le_add qR _) eA
 have dF:∀x∈(Zan x0).take k.n,x.good=true:=λx hx=>(Zd9 mA x (List.mem_of_mem_take hx)).1
 have aV:∀x∈(Zan x0).take k.n++[Zeq (ZcC false (Zdp L k k.t))],x.good=true:=λx hx=>by
  rcases List.mem_append.1 hx with hx|hx
  ·exact dF x hx
  ·rw[List.mem_singleton]at hx;subst hx;exact ha.good
 have p8:RefAt m6 ((Zan x0).take k.n++[Zeq (ZcC false (Zdp L k k.t))]) (R++[cso]):=(hR.mono (mLt bG (mLt dA qS))).append (RefAt.one (ho.mono qS))
 have lN:=Zul _ _ a10 c10 m6 (ZdT vS) p8 aV (by
  rw[Zcn,ZdN]
  have:=rO.1
  rw[List.length_take]at this
  omega)
 have dG:Zkc ((Zan x0).take k.n++[Zeq (ZcC false (Zdp L k k.t))])=Zwl L k:=by
  unfold Zwl
  rw[gC];rfl
 rw[dG,List.length_append,List.length_take,Nat.min_eq_left lY,List.length_cons,List.length_nil,Nat.zero_add]at lN
 refine Zag lN Zbk (ZgW λcsn m7 cT hn b6=>hn.chk1 λb7 gS=>⟨⟨by omega,by omega⟩,?_⟩)
 have lO:m.le m7:=mLt gB (mLt dA (mLt qS cT))
 have pI:=bQ.take k.f
 have vT:=bQ.drop k.t
 have xr:=bQ.len
 have eR:(css.take k.f).flatten.length=k.f*260:=by rw[Zb4 λcs cJ=>bQ.all cs (List.mem_of_mem_take cJ),List.length_take,Nat.min_eq_left (by omega)]
 have pH:(css.drop k.t).flatten.length=(L.length - k.t)*260:=by rw[Zb4 λcs cJ=>bQ.all cs (List.mem_of_mem_drop cJ),List.length_drop,xr]
 have p9:=Zru (hr.mono lO) (bQ.mono lO) (i:=0) (n:=k.f) (c:=c) (by omega) (by omega) bN
 rw[List.drop_zero]at p9
 have qp:=Zru (hr.mono lO) (bQ.mono lO) (i:=k.t) (n:=L.length) (c:=c) (by omega) (Nat.le_refl _) bN
 rw[show css.take L.length=css from by rw[<-xr,List.take_length]]at qp
 have fin:∀(M:Mem)(aa:Option Addr)(n cc:Nat),m7.le M->n=(Zh8 L k).length->rowRd M aa ((css.take k.f++[csn])++css.drop k.t).flatten->∃m'',m.le m''/\m''.le M/\Zs3 (Zh8 L k) (.slice aa n cc) m'' []:=λM aa n cc hM hn' lU=>by
  subst hn'
  refine⟨M,mLt lO hM,Mem.le_refl _,aa,cc,_,rfl,lU,?_⟩
  have e:Zh8 L k=(L.take k.f++[Zwl L k])++L.drop k.t:=by unfold Zh8;simp
  rw[e]
  exact((pI.mono (mLt lO hM)).append (RefAt.one (hn.mono hM))).append (vT.mono (mLt lO hM))
 have zC:(Zh8 L k).length=k.f+1+(L.length - k.t):=by unfold Zh8;simp;omega
 refine ZBW (λtn=>?_) (λtn=>?_)
 ·have tn:k.f=0:=by omega
  refine hn.chk2 λb8 p7=>⟨.inr (by omega),[],csn,rfl,by rw[hn.len],.inl rfl,Zdo,hn.one,by omega,by omega,λa11 c11 m8 fA tp sA=>⟨⟨by omega,by omega⟩,ZBW (λhd=>Zaa (by simpa using sA) λM dP dY eZ _=>?_) (λhd=>⟨.inl (tl _ rfl),csn,(css.drop k.t).flatten,by rw[hn.len],pH,tp,?_,?_,by omega,by omega,λa12 c12 m9 xt tq xu M dP dY eZ jP=>?_⟩)⟩⟩
  ·refine fin M a11 1 c11 (mLt (Mem.le_add gS _) dP) (by omega) ?_
   have e1:css.drop k.t=[]:=List.drop_eq_nil_of_le (by omega)
   rw[tn,e1]
   simpa using tp.mono eZ
  ·exact qp.1.mono (mLt (Mem.le_add gS _) (mLt (Mem.le_add p7 _) fA))
  ·exact λu hu=>ZfI vT u hu
  ·refine fin M a12 _ c12 (mLt (Mem.le_add gS _) dP) (by omega) ?_
   rw[tn]
   have:=tq.mono jP
   simpa using this
 ·refine⟨.inr (by omega),[],(css.take k.f).flatten,by simp,by simpa using eR,.inl rfl,p9.1.mono (Mem.le_add gS _),ZfI pI,by omega,by omega,λa11 c11 m8 fA tp sA=>hn.chk2 λb8 p7=>⟨.inl (tl _ rfl),(css.take k.f).flatten,csn,by simpa using eR,by rw[hn.len],tp.mono (Mem.le_add p7 _),Zdo,hn.one,by omega,by omega,λa12 c12 m9 xt tq xu=>⟨⟨by omega,by omega⟩,ZBW (λhd=>Zaa (by simpa using xu) λM dP dY eZ _=>?_) (λhd=>⟨.inl (tl _ rfl),(css.take k.f).flatten++csn,(css.drop k.t).flatten,by rw[List.length_append,eR,hn.len];omega,pH,tq,?_,?_,by omega,by omega,λa13 c13 m10 iP vU zD M dP dY eZ jP=>?_⟩)⟩⟩⟩
  ·refine fin M a12 _ c12 (mLt (Mem.le_add gS _) (mLt fA dP)) (by omega) ?_
   have e1:css.drop k.t=[]:=List.drop_eq_nil_of_le (by omega)
   rw[e1,List.append_nil]
   exact ZdT (tq.mono eZ)
  ·exact qp.1.mono (mLt (Mem.le_add gS _) (mLt fA (mLt (Mem.le_add p7 _) xt)))
  ·exact λu hu=>ZfI vT u hu
  ·refine fin M a13 _ c13 (mLt (Mem.le_add gS _) (mLt fA dP)) (by omega) ?_
   rw[List.flatten_append,List.flatten_append,List.flatten_singleton]
   exact vU.mono jP
end Go.Proofs.Ytfgfahnakepegaa
set_option linter.unusedVariables false
set_option linter.unusedSimpArgs false
namespace Go.Proofs.Ytfgfahnakepegaa
open Go Go.Eng Go.Rx Go.Proofs Go.RowKit
set_option maxRecDepth 100000
theorem Zjs(t:T)(cs:List Value)(L:List T)(css:List (List Value))(a:Option Addr)(c:Nat)(m:Mem)(hr:RefT m t cs)(hg:t.good=true)(aR:rowRd m a css.flatten)(bQ:RefAt m L css)(hL:∀x∈L,x.good=true)(AM:∀x∈L,x.er=x)(hs:szL L<=9000)
  (h4:t.k=4->L≠[]) (h5:t.k=5->∃o,L=[o]/\o.k≠1) (h6:t.k=6->∃o,L=[o]) (zE:t.k=1\/t.k=2->L=[]):
  CX Try.prog 107 #[.agg cs.toArray,.slice a L.length c] m [] (Zuk (t.built L)):=by
 apply ZgX
 unfold Zed
 have eT:=Zc5 hg
 have zF:=Zll (Zam hg).1
 refine hr.chk λb m1 aM _ b1=>Zar hr.at0 (Zaa rfl (ZdA (λh=>?_) (λh=>Zaa rfl (ZdA (λh'=>?_) (λh'=>Zaa rfl (ZdA (λh''=>?_) (λh''=>Zaa rfl (ZdA (λh3=>?_) (λh3=>hr.chk1 (Zah aM ?_))))))))))
 ·have h:t.k=3:=h
  refine Zag (Zul L css a c m1 (aR.mono aM) (bQ.mono aM) hL hs) Zbk (ZgW λcs2 m2 aP h2=>h2.chk1 ⟨m2,mLt aM aP,Mem.le_refl _,cs2,rfl,?_⟩)
  unfold T.built
  rw[if_pos h];exact h2
 ·have h':t.k=4:=h'
  refine Zag (Zzw L css a c m1 (aR.mono aM) (bQ.mono aM) hL hs (h4 h')) Zbk (ZgW λcs2 m2 aP h2=>h2.chk1 ⟨m2,mLt aM aP,Mem.le_refl _,cs2,rfl,?_⟩)
  unfold T.built
  rw[if_neg (by omega),if_pos h'];exact h2
 ·have h'':t.k=5:=h''
  obtain⟨o,rfl,ho⟩:=h5 h''
  have hb:=(eT.2.2.1 h'').2
  obtain⟨b0,o0,cso,rfl,bA,kJ⟩:=Zcd aR bQ (i:=0) (t:=o) rfl
  have hz:=eT.2.2.2.2.2.1 (by omega)
  rw[ZdN]at hs
  obtain⟨_,_,ta,tc,tss,e0,_⟩:=Za6.1 hr
  have qJ:cs[257]?=some (.int .i64 t.mn):=by rw[e0];exact Zxb _ _ _ _ _ _ _
  have lX:cs[258]?=some (.int .i64 t.mx):=by rw[e0];exact Zxc _ _ _ _ _ _ _
  refine⟨λ_ _ _=>Zuk (Zb5 5 t.mn t.mx none 0 [o]),b0,o0,rfl,⟨by omega,by simp⟩,cso,kJ.len,by simpa using bA.mono aM,Zar qJ (Zar lX ⟨_,rfl,ZvS o cso t.mn t.mx m1 (kJ.mono aM) (hL o (by simp)) hs hb ho,Zbk,ZgW λcs2 m2 aP h2=>h2.chk1 λM dP dY=>⟨M,mLt aM dP,Mem.le_refl _,cs2,rfl,?_⟩⟩)⟩
  unfold T.built
  rw[if_neg (by omega),if_neg (by omega),h'',hz.1,hz.2.1,hz.2.2.1,hz.2.2.2]
  exact h2.mono dY
 ·have h3:t.k=6:=h3
  obtain⟨o,rfl⟩:=h6 h3
  obtain⟨b0,o0,cso,rfl,bA,kJ⟩:=Zcd aR bQ (i:=0) (t:=o) rfl
  have hz:=eT.2.2.2.2.2.1 (by omega)
  have eA:=eT.2.2.2.2.2.2 (by omega)
  rw[ZdN]at hs
  refine⟨b0,o0,rfl,⟨by omega,by simp⟩,cso,kJ.len,by simpa using bA.mono aM,Zag (Zrs o cso m1 (kJ.mono aM) (hL o (by simp)) hs) Zbk (ZgW λcs2 m2 aP h2=>h2.chk1 ⟨m2,mLt aM aP,Mem.le_refl _,cs2,rfl,?_⟩)⟩
  unfold T.built
  rw[if_neg (by omega),if_neg (by omega),h3,hz.1,hz.2.1,hz.2.2.1,hz.2.2.2,eA.1,eA.2]
  exact h2
 ·have e3:¬t.k=3:=h
  have e4:¬t.k=4:=h'
  have e5:¬t.k=5:=h''
  have e6:¬t.k=6:=h3
  have nG:t.k=1\/t.k=2:=by
   rcases zF with h|h|h|h|⟨h,_⟩|⟨h,_⟩
   ·exact .inl h
   ·exact .inr h
   all_goals omega
  have bK:=eT.2.2.2.2.1 nG
  have hb:=Ze5 hg
  rw[bK,List.map_nil]at hb
  rw[zE nG,hb]
  exact⟨cs,rfl,(ZfU t cs).2 hr⟩
theorem ZxK{c:C4}{l:List T}{i n:Nat}{x:T}(h:ZeB c (ZaA l) n)(hx:l[i]?=some x):ZeB c x.alts (n+(ZaA (l.take i)).length):=by
 intro j al hj hn
 refine h ((ZaA (l.take i)).length+j) al ?_ (by omega)
 have e:ZaA l=ZaA (l.take i)++ZaA (l.drop i):=by rw[<-Zdz,List.take_append_drop]
 rw[e,Zsk hx,List.getElem?_append_right (by omega),show(ZaA (l.take i)).length+j - (ZaA (l.take i)).length=j by omega,List.getElem?_append_left (List.getElem?_eq_some_iff.1 hj).1]
 exact hj
theorem ZhZ{c:C4}:∀(l:List T)(n:Nat),(Zb9 c l n).length=l.length
 | [],_=>rfl
 | t::l,n=>by rw[Zb9,List.length_cons,ZhZ l,List.length_cons]
set_option maxHeartbeats 4000000 in
theorem Zos(c:C4):∀(t:T)(cs:List Value)(n:Nat)(m:Mem),RefT m t cs->t.good=true->t.nodes.length<=300->n+t.nodes.length<=10000->ZeB c t.alts n->
  CX Try.prog 82 #[.agg cs.toArray,c.v,.int .i64 n] m [] (Zuk (t.cutAt c n).1):=by
 intro t
 induction hN:SizeOf.sizeOf t using Nat.strongRecOn generalizing t with
 | ind N ih=>
 intro cs n m hr hg hz hn cB
 have pY:=hr
 obtain⟨bC,aU,a,cc,css,ecs,aR,bQ,bN⟩:=Za6.1 hr
 have fZ:=(Zam hg).2
 have eT:=Zc5 hg
 have bB:=Zcr t
 have pZ:=ZeA t
 have sF:=ZbY t.subs
 have dS:cs[259]?=some (.slice a t.subs.length cc):=by rw[ecs];exact ZqU _ _ _ _ _ _ _
 have tr:=Zvn (c:=c) (n:=n) hg
 apply Zne
 unfold ZhU
 refine hr.chk λb m1 aM _ b1 m2 aP _ b2=>?_
 have bY:=mLt aM aP
 refine⟨t.k == 4&&n == c.a,Zar hr.at0 (Zaa rfl (ZdA (λh=>⟨by trivial,?_⟩) (λh=>⟨by trivial,?_⟩))),Zab (λhb=>?_) (λhb=>?_)⟩
 ·have h:t.k=4:=h
  have e:(((n:Nat):Int) == ((c.a:Nat):Int))=(n == c.a):=by rw[Bool.eq_iff_iff];simp only[beq_iff_eq];omega
  rw[e,h];rfl
 ·have h:¬t.k=4:=h
  have:(t.k == 4)=false:=by simpa using h
  rw[this];rfl
 ·simp only[Bool.and_eq_true,beq_iff_eq]at hb
  have hf:=Zea cB hb.1 hb.2
  have ho:=ZnZ fZ hf
  rw[if_pos hb]at tr
  have qw:=ho.sz
  have rE:∀x∈(Zh8 t.subs c).map T.er,x.good=true:=λx hx=>by
   obtain⟨y,hy,rfl⟩:=List.mem_map.1 hx
   rw[Zcw];exact ho.good y hy
  refine⟨λi _ _=>bif Nat.beq i 4 then Zs3 (Zh8 t.subs c)else Zuk (Zeq (Zh8 t.subs c)),Zar dS ⟨_,rfl,ZxJ t.subs css a cc c m2 (aR.mono bY) (bQ.mono bY) bN fZ (by omega) hf,Zec,?_⟩⟩
  rintro a5 n5 c5 m3 aX ⟨ax,cx,xss,hv,cS,fN⟩
  simp only[Value.slice.injEq]at hv
  obtain⟨rfl,rfl,rfl⟩:=hv
  have bT:=mLt bY aX
  have vV:t.built ((Zh8 t.subs c).map T.er)=Zeq (Zh8 t.subs c):=by
   unfold T.built
   rw[if_neg (by omega),if_pos hb.1,<-Zln]
  have sG:=Zjs t cs ((Zh8 t.subs c).map T.er) xss a5 c5 m3 (hr.mono bT) hg cS (fN.of_er (by rw[List.map_map];exact(List.map_congr_left λz _=>Zd8 z).symm)) rE (λx hx=>by
   obtain⟨y,hy,rfl⟩:=List.mem_map.1 hx
   exact Zd8 y) (by rw[Zer (l':=Zh8 t.subs c) (by rw[List.map_map];exact List.map_congr_left λz _=>Zd8 z)];omega) (λ_=>by
    have:=ho.ne
    simpa using this) (λh=>by omega) (λh=>by omega) (λh=>by omega)
  rw[vV,List.length_map]at sG
  refine⟨_,rfl,sG,Zbk,ZgW λcs2 m4 bG h4=>h4.chk1 λM dP dY eZ=>⟨M,mLt bY dP,Mem.le_refl _,cs2,rfl,?_⟩⟩
  rw[tr]
  exact h4.mono eZ
 ·have eG:¬(t.k=4/\n=c.a):=λe=>by rw[e.1,e.2]at hb;simp at hb
  rw[if_neg eG]at tr
  have oE:=ZgJ cB
  have mF:(if t.k=4 then n+1 else n)<=n+1:=by split <;> omega
  have zG:t.k=4->IntKind.i64.wrap ((n:Int)+1)=(((if t.k=4 then n+1 else n:Nat)):Int):=λh=>by rw[if_pos h,ZaB (by omega) (by omega)];rfl
  have vW:¬t.k=4->(n:Int)=(((if t.k=4 then n+1 else n:Nat)):Int):=λh=>by rw[if_neg h]
  have hl:=ZiR (c:=c) t.subs _ fZ oE
  rw[Zj0 _ _ fZ]at hl
  generalize bS:(if t.k=4 then n+1 else n)=n1 at *
  have sH:∀i,n1+(ZaA (t.subs.take i)).length<=20000:=λi=>by
   have:=Zm8 t.subs i
   omega
  refine Zar hr.at0 (Zaa rfl (ZdA (λh4=>?_) (λh4=>?_)))
  all_goals
   have h4':=h4
   refine⟨λxs _ tvs m' q=>∃(i:Nat)(a1:Option Addr)(c1:Nat) (R:List (List Value)),i<=t.subs.length/\xs=[.int .i64 (n1+(ZaA (t.subs.take i)).length:Nat),.slice a1 i c1,.int .i64 i]/\tvs=[.slice a1 i c1]/\rowRd m' a1 R.flatten/\RefAt m' (Zb9 c (t.subs.take i) n1) R/\q=t.subs.length - i,⟨_,0,none,0,[],Nat.zero_le _,by first|(rw[zG h4'];rfl)|(rw[vW h4'];rfl),rfl,.inl rfl,by simp[Zb9,RefAt],rfl⟩,?_⟩
   rintro z1 a1 k1 c1 z2 a2 k2 c2 m3 q aX ⟨i,a3,c3,R,hi,aZ,cA,cI,hR,hq⟩
   simp only[List.cons.injEq,Value.slice.injEq,Value.int.injEq,true_and,and_true]at aZ cA
   obtain⟨rfl,⟨rfl,rfl,rfl⟩,rfl⟩:=aZ
   obtain⟨rfl,rfl,rfl⟩:=cA
   subst hq
   have bT:=mLt bY aX
   have iO:=hR.len
   rw[ZhZ,List.length_take,Nat.min_eq_left hi]at iO
   have xv:=Zb4 hR.all
   have AN:=sH k2
   have zH:=sH (k2+1)
   refine Zar dS (Zaa rfl (ZbD (λaS=>Zar dS (Zaa rfl ?_)) (λbM=>?_)))
   ·have aQ:k2 < t.subs.length:=by simp only[slN]at aS;omega
    obtain⟨x,hx⟩:=Za7 aQ
    have cN:=List.mem_of_getElem? hx
    obtain⟨b0,o0,csx,rfl,bA,bX⟩:=Zcd aR bQ hx
    have aZ:=ZbL cN
    have iA:=Zdy cN
    have dB:Zae (k2:Int) (slN (.slice (some ⟨b0,o0,none⟩) t.subs.length cc)):=⟨by omega,by simp only[slN];omega⟩
    have hw:IntKind.i64.wrap ((k2:Int)+1)=((k2+1:Nat):Int):=by rw[ZaB (by omega) (by omega)];rfl
    have cM:=Zj1 hx
    have bZ:=congrArg List.length cM
    rw[List.length_append]at bZ
    have fW:IntKind.i64.wrap (((n1+(ZaA (t.subs.take k2)).length:Nat):Int)+(x.alts.length:Nat))=((n1+(ZaA (t.subs.take (k2+1))).length:Nat):Int):=by rw[ZaB (by omega) (by omega),bZ];omega
    have su:=ZoU (c:=c) (n:=n1) hx
    simp only[hw,Int.toNat_natCast]
    refine⟨b0,o0,rfl,dB,csx,bX.len,bA.mono bT,Zag (Zuo x csx m3 (bX.mono bT) (by omega)) Zec ?_⟩
    rintro a6 n6 c6 m4 bG ⟨ax,cx,xss,hv,_,_⟩
    simp only[Value.slice.injEq]at hv
    obtain⟨rfl,rfl,rfl⟩:=hv
    simp only[fW]
    have gB:=mLt bT bG
    refine⟨decide (n1+(ZaA (t.subs.take k2)).length<=c.a/\c.a < n1+(ZaA (t.subs.take k2)).length+x.alts.length),ZbD (λh1=>⟨by trivial,by trivial,?_⟩) (λh1=>⟨by trivial,by trivial,?_⟩),ZbD (λlV=>?_) (λlV=>Zar dS (Zaa rfl ?_))⟩
    ·show[Value.bool (decide _)]=[Value.bool (decide _)]
     congr 2
     exact decide_eq_decide.2 (by rw[bZ];omega)
    ·show[Value.bool false]=[Value.bool (decide _)]
     congr 2
     exact(decide_eq_false (by omega)).symm
    ·have rn:Zh9 c x (n1+(ZaA (t.subs.take k2)).length)=(x.cutAt c (n1+(ZaA (t.subs.take k2)).length)).1:=by unfold Zh9;rw[if_pos lV]
     refine⟨λ_ _ _=>Zuk (Zh9 c x (n1+(ZaA (t.subs.take k2)).length)),Zar dS (Zaa rfl ⟨b0,o0,rfl,dB,csx,bX.len,bA.mono gB,_,rfl,?_,Zbk,ZgW λcs5 m5 dA h5=>h5.chk2 λb7 gS=>⟨.inl trivial,R.flatten,cs5,by rw[xv,iO],by rw[h5.len],(cI.mono (mLt bG dA)).mono (Mem.le_add gS _),Zdo,h5.one,by omega,by omega,λa7 c7 m7 cT eW M dP dY eZ jP=>⟨by trivial,t.subs.length - (k2+1),by omega,k2+1,a7,c7,R++[cs5],by omega,rfl,rfl,(ZdT eW).mono jP,?_,rfl⟩⟩⟩)⟩
     ·rw[rn]
      exact ih _ (by omega) x rfl csx _ m4 (bX.mono gB) (fZ x cN) (by omega) (by have:=Zm8 t.subs k2;have h1:=ZdQ (t.subs.take k2);have h2:=ZcK t.subs k2;have h3:x.nodes.length<=szL (t.subs.drop k2):=ZbL (List.mem_of_getElem? (i:=0) (by rw[List.getElem?_drop];exact hx));omega) (ZxK oE hx)
     ·rw[su]
      have xw:=mLt (Mem.le_add gS _) cT
      exact(hR.mono (mLt bG dP)).append (RefAt.one (h5.mono dY))
    ·have rn:Zh9 c x (n1+(ZaA (t.subs.take k2)).length)=x.er:=by unfold Zh9;rw[if_neg lV]
     refine⟨b0,o0,rfl,dB,csx,bX.len,bA.mono gB,bX.chk2 λb7 gS=>⟨.inl trivial,R.flatten,csx,by rw[xv,iO],by rw[bX.len],(cI.mono bG).mono (Mem.le_add gS _),Zdo,bX.one,by omega,by omega,λa7 c7 m7 cT eW=>⟨by trivial,t.subs.length - (k2+1),by omega,k2+1,a7,c7,R++[csx],by omega,rfl,rfl,ZdT eW,?_,rfl⟩⟩⟩
     rw[su,rn]
     have mD:=mLt (Mem.le_add gS _) cT
     exact(hR.mono (mLt bG mD)).append (RefAt.one ((ZfU x csx).2 (bX.mono (mLt gB mD))))
   ·have:k2=t.subs.length:=by simp only[slN]at bM;omega
    subst this
    rw[List.take_length]at hR
    have sG:=Zjs t cs (Zb9 c t.subs n1) R a2 c2 m3 (hr.mono bT) hg cI hR (λx hx=>(hl.2.1 x hx).1) (λx hx=>(hl.2.1 x hx).2) (by have:=hl.2.2.1;omega) (λh e=>by
     have:=eT.2.1 h
     rw[e]at hl
     simp at hl;omega) (λh=>by
     obtain⟨⟨x,hx,fP⟩,_⟩:=eT.2.2.1 h
     have h1:=hl.2.2.2.2 (λy hy=>by rw[hx]at hy;simp at hy;subst hy;exact fP)
     rw[hx]at h1 ⊢
     exact⟨_,rfl,h1 _ (by simp[Zb9])⟩) (λh=>by
     obtain⟨x,hx⟩:=eT.2.2.2.1 h
     rw[hx];exact⟨_,rfl⟩) (λh=>by rw[eT.2.2.2.2.1 h];rfl)
    rw[ZhZ]at sG
    refine Zag sG Zbk (ZgW λcs4 m4 bG h4=>h4.chk1 ⟨m4,mLt bT bG,Mem.le_refl _,cs4,rfl,?_⟩)
    rw[tr];exact h4
end Go.Proofs.Ytfgfahnakepegaa
