/- Part of the proof: conditions and contracts of functions of this program. No condition of its own. -/
import Derived.Test.YtgclajkldphoaaaPEnv
import Derived.Test.YtgclajkldphoaaaMc
set_option linter.unusedVariables false
namespace Go.Proofs.Ytgclajkldphoaaa
open Go Go.Eng Go.Proofs Go.RowKit
open Go.Value (int slice agg bool string tuple func)
open Go.IntKind (u8 u64 i64)
set_option maxRecDepth 100000
noncomputable def Zfv:Env:={ EB with
 loops:=(λi=>bif Nat.beq i 6 then⟨[(32,.int .i64)],[8],[(39,8)],false⟩ else bif Nat.beq i 12 then⟨[(61,.int .i64)],[54],[],false⟩ else⟨[],[],[],false⟩)
 joins:=(λi=>bif Nat.beq i 18 then some [(127,.bool)]else bif Nat.beq i 26 then some [(6,.bool)]else none)
 dr:=(λi=>bif Nat.beq i 7 then[⟨0,[8],[],none,[],[]⟩,⟨1,[8],[],none,[0],[]⟩,⟨2,[],[],none,[],[]⟩,⟨3,[],[],none,[2],[2]⟩,⟨4,[38],[38],none,[2,3],[3]⟩,⟨5,[38],[],some 39,[0,1,2,3,4],[4]⟩,⟨6,[8],[],none,[0,1,2,3,4,5],[]⟩,⟨7,[8],[8],none,[0,1,2,3,4,5,6],[]⟩]else bif Nat.beq i 9 then[⟨0,[],[],none,[],[]⟩,⟨1,[7],[],none,[],[]⟩,⟨2,[44],[44],none,[1],[]⟩,⟨3,[44],[44],none,[1,2],[2]⟩,⟨4,[8],[],none,[],[]⟩,⟨5,[7],[],none,[],[]⟩,⟨6,[],[],none,[1,2,3,5],[3]⟩,⟨7,[49],[49],none,[0,1,2,3,4,5,6],[6]⟩,⟨8,[],[],none,[],[]⟩,⟨9,[],[],none,[8],[]⟩,⟨10,[49],[],none,[0,1,2,3,4,5,6,7,8,9],[]⟩,⟨11,[49],[],none,[0,1,2,3,4,5,6,7,8,9,10],[7]⟩,⟨12,[9],[9],none,[],[]⟩,⟨13,[9],[9],none,rg 0 13,[]⟩]else bif Nat.beq i 21 then[⟨0,[7],[],none,[],[]⟩,⟨1,[54],[],none,[],[]⟩,⟨2,[54],[],none,[1],[]⟩,⟨3,[],[],none,[],[]⟩,⟨4,[],[],none,[3],[]⟩,⟨5,[],[],none,[0,1,2,3,4],[]⟩,⟨6,[],[],none,[0,1,2,3,4,5],[]⟩,⟨7,[],[],none,[0,1,2,3,4,5,6],[]⟩,⟨8,[],[],none,[0,1,2,3,4,5,6],[]⟩,⟨9,[],[],none,[0,1,2,3,4,5,6,7],[]⟩,⟨10,[],[],none,[0,1,2,3,4,5,6,7,8,9],[]⟩]else bif Nat.beq i 22 then[⟨0,[7],[],none,[],[]⟩,⟨1,[54],[],none,[],[]⟩,⟨2,[54],[],none,[1],[]⟩,⟨3,[],[],none,[],[]⟩,⟨4,[],[],none,[3],[]⟩,⟨5,[],[],none,[0,1,2,3,4],[]⟩,⟨6,[],[],none,[0,1,2,3,4,5],[]⟩,⟨7,[],[],none,[0,1,2,3,4,5,6],[]⟩,⟨8,[],[],none,[0,1,2,3,4,5,6],[]⟩,⟨9,[],[],none,[0,1,2,3,4,5,6,7],[]⟩,⟨10,[],[],none,[0,1,2,3,4,5,6,7,8,9],[]⟩]else[])
 tokOf:=(λi=>bif Nat.beq i 39 then 39 else 0)
 gb:=true
 cuts:=λi=>bif Nat.beq i 20 then some ⟨[],[],[],false⟩ else none }
abbrev Zbx:Int->Int->Int->Int->Int->Int->Int->Option Addr->Nat->Nat->Nat->Option Box:=λ(n aa ab ac ad ae af:Int)(a:Option Addr)(ag c b:Nat)=>some (Box.mk b [int u8 n,int u64
 aa,int u64 ab,int u64 ac,int u64 ad,int i64 ae,int i64 af,slice a ag c] 29 8 false true)
abbrev ZeU:Int->Int->Int->Int->Int->Int->Int->Option Addr->Nat->Nat->Nat->Nat->List (Option Box):=λ(n aa ab ac ad ae af:Int)(a:Option Addr)(ag c b bc:Nat)=>[some (Box.mk bc []
 29 8 false true),Zbx n aa ab ac ad ae af a ag c b]
abbrev ZeV:List Value:=[int u8 0,int u8 0,int u8 0,int u8 0,int u8 0,int u8 0,int u8 0,int u8 0,int u8 0,int u8 0,int u8 0,int u8 0,int u8 0,int u8 0,int u8 0,int u8 0,int u8 0,int u8
 0,int u8 0,int u8 0,int u8 0,int u8 0,int u8 0,int u8 0,int u8 0,int u8 0,int u8 0,int u8 0,int u8 0,int u8 0,int u8 0,int u8 0,int u8 0,int u8 0,int u8 0,int u8 0,int u8 0,int u8 0,int u8 0,int u8
 0,int u8 0,int u8 0,int u8 0,int u8 0,int u8 0,int u8 0,int u8 0,int u8 0,int u8 0,int u8 0,int u8 0,int u8 0,int u8 0,int u8 0,int u8 0,int u8 0,int u8 0,int u8 0,int u8 0,int u8 0,int u8 0,int u8
 0,int u8 0,int u8 0,int u8 0,int u8 0,int u8 0,int u8 0,int u8 0,int u8 0,int u8 0,int u8 0,int u8 0,int u8 0,int u8 0,int u8 0,int u8 0,int u8 0,int u8 0,int u8 0,int u8 0,int u8 0,int u8 0,int u8
 0,int u8 0,int u8 0,int u8 0,int u8 0,int u8 0,int u8 0,int u8 0,int u8 0,int u8 0,int u8 0,int u8 0,int u8 0,int u8 0,int u8 0,int u8 0,int u8 0,int u8 0,int u8 0,int u8 0,int u8 0,int u8 0,int u8
 0,int u8 0,int u8 0,int u8 0,int u8 0,int u8 0,int u8 0,int u8 0,int u8 0,int u8 0,int u8 0,int u8 0,int u8 0,int u8 0,int u8 0,int u8 0,int u8 0,int u8 0,int u8 0,int u8 0,int u8 0,int u8 0,int u8
 0,int u8 0,int u8 0,int u8 0,int u8 0,int u8 0,int u8 0,int u8 0,int u8 0,int u8 0,int u8 0,int u8 0,int u8 0,int u8 0,int u8 0,int u8 0,int u8 0,int u8 0,int u8 0,int u8 0,int u8 0,int u8 0,int u8
 0,int u8 0,int u8 0,int u8 0,int u8 0,int u8 0,int u8 0,int u8 0,int u8 0,int u8 0,int u8 0,int u8 0,int u8 0,int u8 0,int u8 0,int u8 0,int u8 0,int u8 0,int u8 0,int u8 0,int u8 0,int u8 0,int u8
 0,int u8 0,int u8 0,int u8 0,int u8 0,int u8 0,int u8 0,int u8 0,int u8 0,int u8 0,int u8 0,int u8 0,int u8 0,int u8 0,int u8 0,int u8 0,int u8 0,int u8 0,int u8 0,int u8 0,int u8 0,int u8 0,int u8
 0,int u8 0,int u8 0,int u8 0,int u8 0,int u8 0,int u8 0,int u8 0,int u8 0,int u8 0,int u8 0,int u8 0,int u8 0,int u8 0,int u8 0,int u8 0,int u8 0,int u8 0,int u8 0,int u8 0,int u8 0,int u8 0,int u8
 0,int u8 0,int u8 0,int u8 0,int u8 0,int u8 0,int u8 0,int u8 0,int u8 0,int u8 0,int u8 0,int u8 0,int u8 0,int u8 0,int u8 0,int u8 0,int u8 0,int u8 0,int u8 0,int u8 0,int u8 0,int u8 0,int u8
 0,int u8 0,int u8 0,int u8 0,int u8 0,int u8 0,int u8 0,int u8 0,int u8 0,int u8 0,int u8 0,int u8 0,int u8 0,int u8 0,int u8 0,int u8 0,int u8 0,int u8 0,int u8 0,int u8 0,int u8 0,int u8 0,int u8
 0,int u8 0,int u8 0,int u8 0,int u8 0,int u8 0,int u8 0,int u8 0,int u8 0,int u8 0,int u8 0,int u8 0,int u8 0,int u8 0,int u8 0,int u8 0,int u8 0,int u8 0,int u8 0,int u8 0,int u8 0,int u8 0,int u8
 0,int u8 0,int u8 0,int u8 0,int u8 0,int u8 0,int u8 0,int u8 0,int u8 0,int u8 0,int u8 0,int u8 0,int u8 0,int u8 0,int u8 0,int u8 0,int u8 0,int u8 0,int u8 0,int u8 0,int u8 0,int u8 0,int u8
 0,int u8 0,int u8 0,int u8 0,int u8 0,int u8 0,int u8 0,int u8 0,int u8 0,int u8 0,int u8 0,int u8 0,int u8 0,int u8 0,int u8 0,int u8 0,int u8 0,int u8 0,int u8 0,int u8 0,int u8 0,int u8 0,int u8
 0,int u8 0,int u8 0,int u8 0,int u8 0,int u8 0,int u8 0,int u8 0,int u8 0,int u8 0,int u8 0,int u8 0,int u8 0,int u8 0,int u8 0,int u8 0,int u8 0,int u8 0,int u8 0,int u8 0,int u8 0,int u8 0,int u8
 0,int u8 0,int u8 0,int u8 0,int u8 0,int u8 0,int u8 0,int u8 0,int u8 0,int u8 0,int u8 0,int u8 0,int u8 0,int u8 0,int u8 0,int u8 0,int u8 0,int u8 0,int u8 0,int u8 0,int u8 0,int u8 0,int u8
 0,int u8 0,int u8 0,int u8 0,int u8 0,int u8 0,int u8 0,int u8 0,int u8 0,int u8 0,int u8 0,int u8 0,int u8 0,int u8 0,int u8 0,int u8 0,int u8 0,int u8 0,int u8 0,int u8 0,int u8 0,int u8 0,int u8
 0,int u8 0,int u8 0,int u8 0,int u8 0,int u8 0,int u8 0,int u8 0,int u8 0,int u8 0,int u8 0,int u8 0,int u8 0,int u8 0,int u8 0,int u8 0,int u8 0,int u8 0,int u8 0,int u8 0,int u8 0,int u8 0,int u8
 0,int u8 0,int u8 0,int u8 0,int u8 0,int u8 0,int u8 0,int u8 0,int u8 0,int u8 0,int u8 0,int u8 0,int u8 0,int u8 0,int u8 0,int u8 0,int u8 0,int u8 0,int u8 0,int u8 0,int u8 0,int u8 0,int u8
 0,int u8 0,int u8 0,int u8 0,int u8 0,int u8 0,int u8 0,int u8 0,int u8 0,int u8 0,int u8 0,int u8 0,int u8 0,int u8 0,int u8 0,int u8 0,int u8 0,int u8 0,int u8 0,int u8 0,int u8 0,int u8 0,int u8
 0,int u8 0,int u8 0,int u8 0,int u8 0,int u8 0,int u8 0,int u8 0,int u8 0,int u8 0,int u8 0,int u8 0,int u8 0,int u8 0,int u8 0,int u8 0,int u8 0,int u8 0,int u8 0,int u8 0,int u8 0,int u8 0,int u8
 0,int u8 0,int u8 0,int u8 0,int u8 0,int u8 0,int u8 0,int u8 0,int u8 0,int u8 0,int u8 0,int u8 0,int u8 0,int u8 0,int u8 0,int u8 0,int u8 0,int u8 0,int u8 0,int u8 0,int u8 0,int u8 0,int u8
 0,int u8 0,int u8 0,int u8 0,int u8 0,int u8 0,int u8 0,int u8 0,int u8 0,int u8 0,int u8 0,int u8 0]
abbrev ZeW(p1 n aa ab ac ad ae af:Int)(a:Option Addr)(ag c:Nat)(cs:List Value)(a7 ax a9 ah ai aj ak:Int)(bb:Option Addr)(al ay:Nat)(ar au av am an ao ap:Int)(bg:Option Addr)(aq
 aw:Nat) (az:Int) (b:Nat):Option Box:=some (Box.mk b (List.take 9 (List.drop (Int.toNat az*9) (List.append (Zah (Zah [int u8 0,int u64 0,int u64 0,int u64 0,int u64 0,int i64 0,int i64 0,slice
 none 0 0,int i64 0] 0 (List.take 8 (List.drop (Int.toNat (Int.tmod p1 (4:Int))*8) (int u8 0::int u64 0::int u64 0::int u64 0::int u64 0::int i64 0::int i64 0::slice none 0 0::int u8 a7::int u64 ax
 :: int u64 a9::int u64 ah::int u64 ai::int i64 aj::int i64 ak::slice bb al ay::List.append cs [int u8 ar,int u64 au,int u64 av,int u64 am,int u64 an,int i64 ao,int i64 ap,slice bg aq aw])))) 8 [int
 i64 140]) [int u8 n,int u64 aa,int u64 ab,int u64 ac,int u64 ad,int i64 ae,int i64 af,slice a ag c,int i64 3]))) 37 9 false true)
abbrev Zb7:Int->Int->Int->Int->Int->Int->Int->Int->Option Addr->Nat->Nat->List Value->Int->Int->Int->Int->Int->Int->Int->Option Addr->Nat->Nat->Int->Int->Int->Int->Int->Int->
 Int->Option Addr->Nat->Nat->Nat->Option Box:=λ(p1 n aa ab ac ad ae af:Int)(a:Option Addr)(ag c:Nat)(cs:List Value)(a7 ax a9 ah ai aj ak:Int)(bb:Option Addr)(al ay:Nat) (ar au av am an ao ap
 : Int) (bg:Option Addr) (aq aw b:Nat)=>some (Box.mk b (List.append (Zah (Zah [int u8 0,int u64 0,int u64 0,int u64 0,int u64 0,int i64 0,int i64 0,slice none 0 0,int i64 0] 0 (List.take 8 (List.drop
 (Int.toNat (Int.tmod p1 (4:Int))*8) (int u8 0::int u64 0::int u64 0::int u64 0::int u64 0::int i64 0::int i64 0::slice none 0 0::int u8 a7::int u64 ax::int u64 a9::int u64 ah::int u64 ai ::
 int i64 aj::int i64 ak::slice bb al ay::List.append cs [int u8 ar,int u64 au,int u64 av,int u64 am,int u64 an,int i64 ao,int i64 ap,slice bg aq aw])))) 8 [int i64 140]) [int u8 n,int u64 aa,int u64 ab,
 int u64 ac,int u64 ad,int i64 ae,int i64 af,slice a ag c,int i64 3]) 37 18 true true)
abbrev Zc7:Nat->List Value->Option Box:=λ(b:Nat)(cs:List Value)=>some (Box.mk b cs 5 513 false true)
abbrev ZaW:Int->Int->Int->Int->Int->Int->Int->Option Addr->Nat->Nat->Nat->Option Box:=λ(n aa ab ac ad ae af:Int)(a:Option Addr)(ag c b:Nat)=>some (Box.mk b [int u8 n,int u64
 aa,int u64 ab,int u64 ac,int u64 ad,int i64 ae,int i64 af,slice a ag c] 29 8 true true)
abbrev Zb8:List Value->Int->Int->Int->Int->Int->Int->Int->Option Addr->Nat->Nat->Int->Int->Int->Int->Int->Int->Int->Option Addr->Nat->Nat->Nat->Option Box:=λ(cs:List Value)
 (n aa ab ac ad ae af:Int) (a:Option Addr) (ag c:Nat) (a7 ax a9 ah ai aj ak:Int) (bb:Option Addr) (al ay b:Nat)=>some (Box.mk b (int u8 0::int u64 0::int u64 0::int u64 0::int u64 0::int i64 0 ::
 int i64 0::slice none 0 0::int u8 n::int u64 aa::int u64 ab::int u64 ac::int u64 ad::int i64 ae::int i64 af::slice a ag c::List.append cs [int u8 a7,int u64 ax,int u64 a9,int u64 ah,int u64 ai,
 int i64 aj,int i64 ak,slice bb al ay]) 29 32 true true)
abbrev ZaX:Int->List Value->Int->Int->Int->Int->Int->Int->Int->Option Addr->Nat->Nat->Int->Int->Int->Int->Int->Int->Int->Option Addr->Nat->Nat->Nat->Option Box:=λ(p1:Int)
 (cs:List Value) (n aa ab ac ad ae af:Int) (a:Option Addr) (ag c:Nat) (a7 ax a9 ah ai aj ak:Int) (bb:Option Addr) (al ay b:Nat)=>some (Box.mk b (List.take 8 (List.drop (Int.toNat (Int.tmod p1 (4:Int)) *
 8) (int u8 0::int u64 0::int u64 0::int u64 0::int u64 0::int i64 0::int i64 0::slice none 0 0::int u8 n::int u64 aa::int u64 ab::int u64 ac::int u64 ad::int i64 ae::int i64 af::slice a ag
 c::List.append cs [int u8 a7,int u64 ax,int u64 a9,int u64 ah,int u64 ai,int i64 aj,int i64 ak,slice bb al ay]))) 29 8 false true)
abbrev Zb9:Nat->List Value->Option Box:=λ(b:Nat)(cs:List Value)=>some (Box.mk b cs 29 8 false true)
abbrev Za2:Int->Int->Int->Int->Int->Int->Int->Int->Option Addr->Nat->Nat->Nat->Nat->List Value->Nat->Int->Int->Int->Int->Int->Int->Int->Option Addr->Nat->Nat->Int->Int->Int->
 Int->Int->Int->Int->Option Addr->Nat->Nat->Nat->Nat->Nat->Nat->Int->List Value->Nat->List (Option Box):=λ(p1 n aa ab ac ad ae af:Int)(a:Option Addr)(ag c b bc:Nat)(cs:List Value)(a5:Nat)
 (a7 ax a9 ah ai aj ak:Int) (bb:Option Addr) (al ay:Nat) (ar au av am an ao ap:Int) (bg:Option Addr) (aq aw bf bd a8 be:Nat) (az:Int) (bh:List Value) (bi:Nat)=>[ZeW p1 n aa ab ac ad ae
 af a ag c cs a7 ax a9 ah ai aj ak bb al ay ar au av am an ao ap bg aq aw az bi,Zb7 p1 n aa ab ac ad ae af a ag c cs a7 ax a9 ah ai aj ak bb al ay ar au av am an ao ap bg aq aw be,Zc7 a8
 bh,ZaW n aa ab ac ad ae af a ag c a5,ZaW n aa ab ac ad ae af a ag c a5,Zb8 cs a7 ax a9 ah ai aj ak bb al ay ar au av am an ao ap bg aq aw bf,ZaX p1 cs a7
 ax a9 ah ai aj ak bb al ay ar au av am an ao ap bg aq aw bd,ZaX p1 cs a7 ax a9 ah ai aj ak bb al ay ar au av am an ao ap bg aq aw bd,Zb9 bc cs,Zbx n aa ab ac ad ae af a ag
 c b]
abbrev ZaC:Int->Int->Int->Int->Int->Int->Int->Int->Option Addr->Nat->Nat->Nat->Nat->List Value->Nat->Int->Int->Int->Int->Int->Int->Int->Option Addr->Nat->Nat->Int->Int->Int->
 Int->Int->Int->Int->Option Addr->Nat->Nat->Nat->Nat->Nat->Nat->List Value->List (Option Box):=λ(p1 n aa ab ac ad ae af:Int)(a:Option Addr)(ag c b bc:Nat)(cs:List Value)(a5:Nat) (a7 ax a9
 ah ai aj ak:Int) (bb:Option Addr) (al ay:Nat) (ar au av am an ao ap:Int) (bg:Option Addr) (aq aw bf bd a8 be:Nat) (bh:List Value)=>[Zb7 p1 n aa ab ac ad ae af a ag c cs a7 ax a9 ah ai aj
 ak bb al ay ar au av am an ao ap bg aq aw be,Zc7 a8 bh,ZaW n aa ab ac ad ae af a ag c a5,ZaW n aa ab ac ad ae af a ag c a5,Zb8 cs a7 ax a9 ah ai aj ak bb
 al ay ar au av am an ao ap bg aq aw bf,ZaX p1 cs a7 ax a9 ah ai aj ak bb al ay ar au av am an ao ap bg aq aw bd,ZaX p1 cs a7 ax a9 ah ai aj ak bb al ay ar au av am an ao ap bg aq aw bd,
 Zb9 bc cs,Zbx n aa ab ac ad ae af a ag c b]
abbrev Zet:Int->Int->Int->Int->Int->Int->Int->Int->Option Addr->Nat->Nat->Nat->Nat->List Value->Nat->Int->Int->Int->Int->Int->Int->Int->Option Addr->Nat->Nat->Int->Int->Int->
 Int->Int->Int->Int->Option Addr->Nat->Nat->Nat->Nat->Nat->Nat->List (Option Box):=λ(p1 n aa ab ac ad ae af:Int)(a:Option Addr)(ag c b bc:Nat)(cs:List Value)(a5:Nat) (a7 ax a9 ah ai aj ak:
 Int) (bb:Option Addr) (al ay:Nat) (ar au av am an ao ap:Int) (bg:Option Addr) (aq aw bf bd a8 be:Nat)=>[Zb7 p1 n aa ab ac ad ae af a ag c cs a7 ax a9 ah ai aj ak bb al ay ar au av am an ao ap
 bg aq aw be,some (Box.mk a8 [] 5 513 false true),ZaW n aa ab ac ad ae af a ag c a5,ZaW n aa ab ac ad ae af a ag c a5,Zb8 cs a7 ax a9 ah ai aj ak bb al ay ar au av am an
 ao ap bg aq aw bf,ZaX p1 cs a7 ax a9 ah ai aj ak bb al ay ar au av am an ao ap bg aq aw bd,ZaX p1 cs a7 ax a9 ah ai aj ak bb al ay ar au av am an ao ap bg aq aw bd,Zb9 bc
 cs,Zbx n aa ab ac ad ae af a ag c b]
def Zc8(p0a:Option Addr)(p0n p0c:Nat)(p1 p2:Int)(m:Mem)(R:RT):Prop:=
 ∃(R_1:RT),True/\CX Try.prog 8 (Array.mk []) m [] R_1/\ZaQ Shape.bool R_1/\∀(b:Bool)(m':Mem),Mem.le m m'->R_1 (bool b) m' []->br (!b) (∃(m'':Mem),Mem.le m m''/\Mem.le m'' m'/\R (bool false) m'' [])
 (∃(R_2:RT),True/\CX Try.prog 9 (Array.mk [slice p0a p0n p0c]) m' [] R_2/\ZaQ (shT) R_2/\∀(n aa ab ac ad ae af:Int)(a:Option Addr)(ag c:Nat)(bw:Mem),Mem.le m' bw->R_2 (agg (Array.mk [int u8 n,int
 u64 aa,int u64 ab,int u64 ac,int u64 ad,int i64 ae,int i64 af,slice a ag c])) bw []->∀(b bc:Nat),∃(I:IT),(∃(n:Nat),I [int i64 0] [[int u8 3,int u64 0,int u64 0,int u64 0,int u64 0,int i64 0,int
 i64 0,slice none 0 0]] [slice none 0 0] bw n)/\∀(a7:Int)(cs:List Value)(a6:Option Addr)(ax ay:Nat)(m':Mem)(a9:Nat),Mem.le bw m'->I [int i64 a7] [cs] [slice a6 ax ay] m' a9->br (decide (a7 < (10:
 Int))) (∃(f:Fx),Eng.Zqm cs 7 λ(v:Value)=>∃(R:RT),R=f 2 [int u8 97] m'/\CX Try.prog 11 (Array.mk [int u8 97]) m' [] R/\ZaQ (shT) R/\∀(ah ai aj ak al ar au:Int)(cd:Option Addr)(av aw:Nat)
 (bl:Mem),Mem.le m' bl->R (agg (Array.mk [int u8 ah,int u64 ai,int u64 aj,int u64 ak,int u64 al,int i64 ar,int i64 au,slice cd av aw])) bl []->∃(R:RT),R=f 3 [agg (Array.mk [int u8 ah,int u64 ai,int
 u64 aj,int u64 ak,int u64 al,int i64 ar,int i64 au,slice cd av aw])] bl/\CX Try.prog 10 (Array.mk [agg (Array.mk [int u8 ah,int u64 ai,int u64 aj,int u64 ak,int u64 al,int i64 ar,int i64 au,slice cd av
 aw])]) bl [] R/\ZaQ (shT) R/\∀(am an ao ap aq az a0:Int)(bq:Option Addr)(a1 a2:Nat)(bk:Mem),Mem.le bl bk->R (agg (Array.mk [int u8 am,int u64 an,int u64 ao,int u64 ap,int u64 aq,int i64 az,int i64
 a0,slice bq a1 a2])) bk []->∀(a5:Nat),Mem.free bk a5->chk (ZdI v&&true) ((Tok.mk (slice a6 ax ay) 8=Tok.mk v 8\/v=slice none 0 0\/slC v < slN v+1)/\∃(xs:List Value),∃(ys:List Value),
 List.length xs=slN v*8/\List.length ys=1*8/\rowRd (Mem.add bk a5 [int u8 am,int u64 an,int u64 ao,int u64 ap,int u64 aq,int i64 az,int i64 a0,slice bq a1 a2]) (slA v) xs/\rowRd (Mem.add bk a5 [int u8
 am,int u64 an,int u64 ao,int u64 ap,int u64 aq,int i64 az,int i64 a0,slice bq a1 a2]) (some (Addr.mk a5 0 none)) ys/\(∀(u:Value),u∈ys->Value.oneCell' u=true)/\(slN v+1)*80<=140737488355328/\slN v
 + 1<=9223372036854775807/\∀(a':Option Addr)(c':Nat)(bj:Mem),Mem.le (Mem.add bk a5 [int u8 am,int u64 an,int u64 ao,int u64 ap,int u64 aq,int i64 az,int i64 a0,slice bq a1 a2]) bj->rowRd bj a'
 (List.append xs ys)->chk (Nat.ble 8 (List.length cs)) (∀(M:Mem),Mem.le m' M->Mem.le bl M->Mem.le bk M->Mem.le (Mem.add bk a5 [int u8 am,int u64 an,int u64 ao,int u64 ap,int u64 aq,int i64 az,int i64 a0,
 slice bq a1 a2]) M->Mem.le bj M->ZaM (ZeU n aa ab ac ad ae af a ag c b bc)/\∃(n':Nat),n' < a9/\I [int i64 (IntKind.wrap i64 (a7+(1:Int)))] [Zah cs 7 [slice a' (slN v+1) c']] [slice a'
 (slN v+1) c'] M n'))) (∃(f:Fx),∀(a5:Nat),Mem.free m' a5->∃(R_3:RT),R_3=f 3 [slice (some (Addr.mk a5 0 none)) 1 1] (Mem.add m' a5 [int u8 n,int u64 aa,int u64 ab,int u64 ac,int u64 ad,int i64 ae,
 int i64 af,slice a ag c])/\CX Try.prog 12 (Array.mk [slice (some (Addr.mk a5 0 none)) 1 1]) (Mem.add m' a5 [int u8 n,int u64 aa,int u64 ab,int u64 ac,int u64 ad,int i64 ae,int i64 af,slice a ag c]) [] R_3/\
 ZaQ (shT) R_3/\∀(ah ai aj ak al ar au:Int)(a4:Option Addr)(av aw:Nat)(bl:Mem),Mem.le (Mem.add m' a5 [int u8 n,int u64 aa,int u64 ab,int u64 ac,int u64 ad,int i64 ae,int i64 af,slice a ag c]) bl->
 R_3 (agg (Array.mk [int u8 ah,int u64 ai,int u64 aj,int u64 ak,int u64 al,int i64 ar,int i64 au,slice a4 av aw])) bl []->∃(R_4:RT),R_4=f 6 [agg (Array.mk [int u8 n,int u64 aa,int u64 ab,int u64 ac,int
 u64 ad,int i64 ae,int i64 af,slice a ag c]),int i64 2,int i64 1] bl/\CX Try.prog 13 (Array.mk [agg (Array.mk [int u8 n,int u64 aa,int u64 ab,int u64 ac,int u64 ad,int i64 ae,int i64 af,slice a ag c]),int
 i64 2,int i64 1]) bl [] R_4/\ZaQ (shT) R_4/\∀(am an ao ap aq az a0:Int)(a3:Option Addr)(a1 a2:Nat)(bk:Mem),Mem.le bl bk->R_4 (agg (Array.mk [int u8 am,int u64 an,int u64 ao,int u64 ap,int u64 aq,
 int i64 az,int i64 a0,slice a3 a1 a2])) bk []->chk (Nat.beq (List.length cs) 8&&true) (∀(bf:Nat),Mem.free bk bf->(4:Int)≠(0:Int)/\Zag (Int.tmod p1 (4:Int)) 4/\chk (Nat.ble (Int.toNat (Int.tmod p1
 (4:Int))*8) (List.length (List.append cs [int u8 am,int u64 an,int u64 ao,int u64 ap,int u64 aq,int i64 az,int i64 a0,slice a3 a1 a2])+1+1+1+1+1+1+1+1)) (∀(bd:Nat),chk (Nat.beq
 (List.length (List.take 8 (List.drop (Int.toNat (Int.tmod p1 (4:Int))*8) (int u8 0::int u64 0::int u64 0::int u64 0::int u64 0::int i64 0::int i64 0::slice none 0 0::int u8 ah::int u64 ai::int
 u64 aj::int u64 ak::int u64 al::int i64 ar::int i64 au::slice a4 av aw::List.append cs [int u8 am,int u64 an,int u64 ao,int u64 ap,int u64 aq,int i64 az,int i64 a0,slice a3 a1 a2])))) 8&&Zgl
 (List.take 8 (List.drop (Int.toNat (Int.tmod p1 (4:Int))*8) (int u8 0::int u64 0::int u64 0::int u64 0::int u64 0::int i64 0::int i64 0::slice none 0 0::int u8 ah::int u64 ai::int u64 aj::int
 u64 ak::int u64 al::int i64 ar::int i64 au::slice a4 av aw::List.append cs [int u8 am,int u64 an,int u64 ao,int u64 ap,int u64 aq,int i64 az,int i64 a0,slice a3 a1 a2])))) (∀(M:Mem),Mem.le m' M->
 Mem.le (Mem.add m' a5 [int u8 n,int u64 aa,int u64 ab,int u64 ac,int u64 ad,int i64 ae,int i64 af,slice a ag c]) M->Mem.le bl M->Mem.le bk M->Mem.le (Mem.add bk bf (int u8 0::int u64 0::int u64 0::int
 u64 0::int u64 0::int i64 0::int i64 0::slice none 0 0::int u8 ah::int u64 ai::int u64 aj::int u64 ak::int u64 al::int i64 ar::int i64 au::slice a4 av aw::List.append cs [int u8 am,int u64 an,
 int u64 ao,int u64 ap,int u64 aq,int i64 az,int i64 a0,slice a3 a1 a2])) M->((0:Int)<=(513:Int)/\(513:Int)<=(513:Int)/\(513:Int)*(↑(1:Nat):Int)<=(281474976710656:Int)/\(513:Int) <=
 (9223372036854775807:Int))/\∀(a8:Nat),chk (Nat.beq (List.length (List.take 8 (List.drop (Int.toNat (Int.tmod p1 (4:Int))*8) (int u8 0::int u64 0::int u64 0::int u64 0::int u64 0::int i64 0::int
 i64 0::slice none 0 0::int u8 ah::int u64 ai::int u64 aj::int u64 ak::int u64 al::int i64 ar::int i64 au::slice a4 av aw::List.append cs [int u8 am,int u64 an,int u64 ao,int u64 ap,int u64 aq,
 int i64 az,int i64 a0,slice a3 a1 a2])))) 8&&true) (chk (Nat.ble 9 (List.length (Zah [int u8 0,int u64 0,int u64 0,int u64 0,int u64 0,int i64 0,int i64 0,slice none 0 0,int i64 0] 0 (List.take 8
 (List.drop (Int.toNat (Int.tmod p1 (4:Int))*8) (int u8 0::int u64 0::int u64 0::int u64 0::int u64 0::int i64 0::int i64 0::slice none 0 0::int u8 ah::int u64 ai::int u64 aj::int u64 ak::int
 u64 al::int i64 ar::int i64 au::slice a4 av aw::List.append cs [int u8 am,int u64 an,int u64 ao,int u64 ap,int u64 aq,int i64 az,int i64 a0,slice a3 a1 a2])))))) (chk (Nat.beq (List.length (Zah (Zah
 [int u8 0,int u64 0,int u64 0,int u64 0,int u64 0,int i64 0,int i64 0,slice none 0 0,int i64 0] 0 (List.take 8 (List.drop (Int.toNat (Int.tmod p1 (4:Int))*8) (int u8 0::int u64 0::int u64 0::int u64 0
 :: int u64 0::int i64 0::int i64 0::slice none 0 0::int u8 ah::int u64 ai::int u64 aj::int u64 ak::int u64 al::int i64 ar::int i64 au::slice a4 av aw::List.append cs [int u8 am,int u64 an,int
 u64 ao,int u64 ap,int u64 aq,int i64 az,int i64 a0,slice a3 a1 a2])))) 8 [int i64 140])) 9&&true) (∀(be:Nat),Mem.free M be->∃(I:IT),(∃(ba:Nat),I [int i64 0] [ZeV] [] (Mem.add M be
 (List.append (Zah (Zah [int u8 0,int u64 0,int u64 0,int u64 0,int u64 0,int i64 0,int i64 0,slice none 0 0,int i64 0] 0 (List.take 8 (List.drop (Int.toNat (Int.tmod p1 (4:Int))*8) (int u8 0::int u64
 0::int u64 0::int u64 0::int u64 0::int i64 0::int i64 0::slice none 0 0::int u8 ah::int u64 ai::int u64 aj::int u64 ak::int u64 al::int i64 ar::int i64 au::slice a4 av aw::List.append cs
 [int u8 am,int u64 an,int u64 ao,int u64 ap,int u64 aq,int i64 az,int i64 a0,slice a3 a1 a2])))) 8 [int i64 140]) [int u8 n,int u64 aa,int u64 ab,int u64 ac,int u64 ad,int i64 ae,int i64 af,slice a ag c,
 int i64 3])) ba)/\∀(ba:Int)(bh:List Value)(m':Mem)(ch:Nat),Mem.le (Mem.add M be (List.append (Zah (Zah [int u8 0,int u64 0,int u64 0,int u64 0,int u64 0,int i64 0,int i64 0,slice none 0 0,int
 i64 0] 0 (List.take 8 (List.drop (Int.toNat (Int.tmod p1 (4:Int))*8) (int u8 0::int u64 0::int u64 0::int u64 0::int u64 0::int i64 0::int i64 0::slice none 0 0::int u8 ah::int u64 ai::int u64 aj
 :: int u64 ak::int u64 al::int i64 ar::int i64 au::slice a4 av aw::List.append cs [int u8 am,int u64 an,int u64 ao,int u64 ap,int u64 aq,int i64 az,int i64 a0,slice a3 a1 a2])))) 8 [int i64 140]) [int
 u8 n,int u64 aa,int u64 ab,int u64 ac,int u64 ad,int i64 ae,int i64 af,slice a ag c,int i64 3])) m'->I [int i64 ba] [bh] [] m' ch->br (decide (ba < (↑(2:Nat):Int))) (∃(J:JT),(Zag ba 2/\chk
 (Nat.ble (Int.toNat ba*9+9) (List.length (List.append (Zah (Zah [int u8 0,int u64 0,int u64 0,int u64 0,int u64 0,int i64 0,int i64 0,slice none 0 0,int i64 0] 0 (List.take 8 (List.drop (Int.toNat
 (Int.tmod p1 (4:Int))*8) (int u8 0::int u64 0::int u64 0::int u64 0::int u64 0::int i64 0::int i64 0::slice none 0 0::int u8 ah::int u64 ai::int u64 aj::int u64 ak::int u64 al::int i64 ar
 :: int i64 au::slice a4 av aw::List.append cs [int u8 am,int u64 an,int u64 ao,int u64 ap,int u64 aq,int i64 az,int i64 a0,slice a3 a1 a2])))) 8 [int i64 140]) [int u8 n,int u64 aa,int u64 ab,int u64 ac,
 int u64 ad,int i64 ae,int i64 af,slice a ag c,int i64 3]))) (∀(bi:Nat),chk (Nat.beq (List.length (List.take 9 (List.drop (Int.toNat ba*9) (List.append (Zah (Zah [int u8 0,int u64 0,int u64 0,int u64
 0,int u64 0,int i64 0,int i64 0,slice none 0 0,int i64 0] 0 (List.take 8 (List.drop (Int.toNat (Int.tmod p1 (4:Int))*8) (int u8 0::int u64 0::int u64 0::int u64 0::int u64 0::int i64 0::int i64 0 ::
 slice none 0 0::int u8 ah::int u64 ai::int u64 aj::int u64 ak::int u64 al::int i64 ar::int i64 au::slice a4 av aw::List.append cs [int u8 am,int u64 an,int u64 ao,int u64 ap,int u64 aq,int i64 az,
 int i64 a0,slice a3 a1 a2])))) 8 [int i64 140]) [int u8 n,int u64 aa,int u64 ab,int u64 ac,int u64 ad,int i64 ae,int i64 af,slice a ag c,int i64 3])))) 9&&Zgl (List.take 9 (List.drop (Int.toNat ba*9)
 (List.append (Zah (Zah [int u8 0,int u64 0,int u64 0,int u64 0,int u64 0,int i64 0,int i64 0,slice none 0 0,int i64 0] 0 (List.take 8 (List.drop (Int.toNat (Int.tmod p1 (4:Int))*8) (int u8 0::int u64
 0::int u64 0::int u64 0::int u64 0::int i64 0::int i64 0::slice none 0 0::int u8 ah::int u64 ai::int u64 aj::int u64 ak::int u64 al::int i64 ar::int i64 au::slice a4 av aw::List.append cs
 [int u8 am,int u64 an,int u64 ao,int u64 ap,int u64 aq,int i64 az,int i64 a0,slice a3 a1 a2])))) 8 [int i64 140]) [int u8 n,int u64 aa,int u64 ab,int u64 ac,int u64 ad,int i64 ae,int i64 af,slice a ag c,
 int i64 3])))) (chk (Nat.ble 8 (List.length (List.take 9 (List.drop (Int.toNat ba*9) (List.append (Zah (Zah [int u8 0,int u64 0,int u64 0,int u64 0,int u64 0,int i64 0,int i64 0,slice none 0 0,int i64 0]
 0 (List.take 8 (List.drop (Int.toNat (Int.tmod p1 (4:Int))*8) (int u8 0::int u64 0::int u64 0::int u64 0::int u64 0::int i64 0::int i64 0::slice none 0 0::int u8 ah::int u64 ai::int u64 aj::int
 u64 ak::int u64 al::int i64 ar::int i64 au::slice a4 av aw::List.append cs [int u8 am,int u64 an,int u64 ao,int u64 ap,int u64 aq,int i64 az,int i64 a0,slice a3 a1 a2])))) 8 [int i64 140]) [int u8 n,
 int u64 aa,int u64 ab,int u64 ac,int u64 ad,int i64 ae,int i64 af,slice a ag c,int i64 3]))))) (∃(R_5:RT),True/\CX Try.prog 14 (Array.mk [agg (Array.mk (List.take 8 (List.take 9 (List.drop (Int.toNat ba*9)
 (List.append (Zah (Zah [int u8 0,int u64 0,int u64 0,int u64 0,int u64 0,int i64 0,int i64 0,slice none 0 0,int i64 0] 0 (List.take 8 (List.drop (Int.toNat (Int.tmod p1 (4:Int))*8) (int u8 0::int u64
 0::int u64 0::int u64 0::int u64 0::int i64 0::int i64 0::slice none 0 0::int u8 ah::int u64 ai::int u64 aj::int u64 ak::int u64 al::int i64 ar::int i64 au::slice a4 av aw::List.append cs
 [int u8 am,int u64 an,int u64 ao,int u64 ap,int u64 aq,int i64 az,int i64 a0,slice a3 a1 a2])))) 8 [int i64 140]) [int u8 n,int u64 aa,int u64 ab,int u64 ac,int u64 ad,int i64 ae,int i64 af,slice a ag c,
 int i64 3]))))),slice (some (Addr.mk a8 0 none)) (Int.toNat (513:Int)) (Int.toNat (513:Int)),int i64 (-1:Int)]) m' [] R_5/\ZaQ (Shape.tup [Shape.slice,Shape.int i64]) R_5/\∀(ce:Option Addr)(bx cf:Nat)
 (bn:Int) (bj:Mem),Mem.le m' bj->R_5 (tuple (Array.mk [slice ce bx cf,int i64 bn])) bj []->chk (Nat.ble 8 (List.length (List.take 9 (List.drop (Int.toNat ba*9) (List.append (Zah (Zah [int u8 0,int u64 0,
 int u64 0,int u64 0,int u64 0,int i64 0,int i64 0,slice none 0 0,int i64 0] 0 (List.take 8 (List.drop (Int.toNat (Int.tmod p1 (4:Int))*8) (int u8 0::int u64 0::int u64 0::int u64 0::int u64 0::int
 i64 0::int i64 0::slice none 0 0::int u8 ah::int u64 ai::int u64 aj::int u64 ak::int u64 al::int i64 ar::int i64 au::slice a4 av aw::List.append cs [int u8 am,int u64 an,int u64 ao,int u64 ap,
 int u64 aq,int i64 az,int i64 a0,slice a3 a1 a2])))) 8 [int i64 140]) [int u8 n,int u64 aa,int u64 ab,int u64 ac,int u64 ad,int i64 ae,int i64 af,slice a ag c,int i64 3]))))) (∃(R_6:RT),True/\CX Try.prog
 15 (Array.mk [agg (Array.mk (List.take 8 (List.take 9 (List.drop (Int.toNat ba*9) (List.append (Zah (Zah [int u8 0,int u64 0,int u64 0,int u64 0,int u64 0,int i64 0,int i64 0,slice none 0 0,int i64 0] 0
 (List.take 8 (List.drop (Int.toNat (Int.tmod p1 (4:Int))*8) (int u8 0::int u64 0::int u64 0::int u64 0::int u64 0::int i64 0::int i64 0::slice none 0 0::int u8 ah::int u64 ai::int u64 aj::int
 u64 ak::int u64 al::int i64 ar::int i64 au::slice a4 av aw::List.append cs [int u8 am,int u64 an,int u64 ao,int u64 ap,int u64 aq,int i64 az,int i64 a0,slice a3 a1 a2])))) 8 [int i64 140]) [int u8 n,
 int u64 aa,int u64 ab,int u64 ac,int u64 ad,int i64 ae,int i64 af,slice a ag c,int i64 3]))))),slice (some (Addr.mk a8 0 none)) (Int.toNat (513:Int)) (Int.toNat (513:Int))]) bj [] R_6/\ZaQ (Shape.tup
 [Shape.slice,Shape.int i64]) R_6/\∀(da:Option Addr)(bz cg:Nat)(bo:Int)(m':Mem),Mem.le bj m'->R_6 (tuple (Array.mk [slice da bz cg,int i64 bo])) m' []->chk (Nat.ble 8 (List.length (List.take 9
 (List.drop (Int.toNat ba*9) (List.append (Zah (Zah [int u8 0,int u64 0,int u64 0,int u64 0,int u64 0,int i64 0,int i64 0,slice none 0 0,int i64 0] 0 (List.take 8 (List.drop (Int.toNat (Int.tmod p1 (4:
 Int))*8) (int u8 0::int u64 0::int u64 0::int u64 0::int u64 0::int i64 0::int i64 0::slice none 0 0::int u8 ah::int u64 ai::int u64 aj::int u64 ak::int u64 al::int i64 ar::int i64 au ::
 slice a4 av aw::List.append cs [int u8 am,int u64 an,int u64 ao,int u64 ap,int u64 aq,int i64 az,int i64 a0,slice a3 a1 a2])))) 8 [int i64 140]) [int u8 n,int u64 aa,int u64 ab,int u64 ac,int u64 ad,int
 i64 ae,int i64 af,slice a ag c,int i64 3]))))) (∃(R_7:RT),True/\CX Try.prog 16 (Array.mk [agg (Array.mk (List.take 8 (List.take 9 (List.drop (Int.toNat ba*9) (List.append (Zah (Zah [int u8 0,int u64 0,
 int u64 0,int u64 0,int u64 0,int i64 0,int i64 0,slice none 0 0,int i64 0] 0 (List.take 8 (List.drop (Int.toNat (Int.tmod p1 (4:Int))*8) (int u8 0::int u64 0::int u64 0::int u64 0::int u64 0::int
 i64 0::int i64 0::slice none 0 0::int u8 ah::int u64 ai::int u64 aj::int u64 ak::int u64 al::int i64 ar::int i64 au::slice a4 av aw::List.append cs [int u8 am,int u64 an,int u64 ao,int u64 ap,
 int u64 aq,int i64 az,int i64 a0,slice a3 a1 a2])))) 8 [int i64 140]) [int u8 n,int u64 aa,int u64 ab,int u64 ac,int u64 ad,int i64 ae,int i64 af,slice a ag c,int i64 3]))))),slice (some (Addr.mk a8 0 none))
 (Int.toNat (513:Int)) (Int.toNat (513:Int))]) m' [] R_7/\ZaQ (Shape.tup [Shape.slice,Shape.int i64]) R_7/\∀(db:Option Addr)(bs ca:Nat)(bt:Int)(bm:Mem),Mem.le m' bm->R_7 (tuple (Array.mk [slice db
 bs ca,int i64 bt])) bm []->chk (Nat.ble 8 (List.length (List.take 9 (List.drop (Int.toNat ba*9) (List.append (Zah (Zah [int u8 0,int u64 0,int u64 0,int u64 0,int u64 0,int i64 0,int i64 0,slice none 0
 0,int i64 0] 0 (List.take 8 (List.drop (Int.toNat (Int.tmod p1 (4:Int))*8) (int u8 0::int u64 0::int u64 0::int u64 0::int u64 0::int i64 0::int i64 0::slice none 0 0::int u8 ah::int u64 ai::int
 u64 aj::int u64 ak::int u64 al::int i64 ar::int i64 au::slice a4 av aw::List.append cs [int u8 am,int u64 an,int u64 ao,int u64 ap,int u64 aq,int i64 az,int i64 a0,slice a3 a1 a2])))) 8 [int i64 140])
 [int u8 n,int u64 aa,int u64 ab,int u64 ac,int u64 ad,int i64 ae,int i64 af,slice a ag c,int i64 3]))))) (∃(R_8:RT),True/\CX Try.prog 17 (Array.mk [agg (Array.mk (List.take 8 (List.take 9 (List.drop
 (Int.toNat ba*9) (List.append (Zah (Zah [int u8 0,int u64 0,int u64 0,int u64 0,int u64 0,int i64 0,int i64 0,slice none 0 0,int i64 0] 0 (List.take 8 (List.drop (Int.toNat (Int.tmod p1 (4:Int))*8)
 (int u8 0::int u64 0::int u64 0::int u64 0::int u64 0::int i64 0::int i64 0::slice none 0 0::int u8 ah::int u64 ai::int u64 aj::int u64 ak::int u64 al::int i64 ar::int i64 au::slice a4 av
 aw::List.append cs [int u8 am,int u64 an,int u64 ao,int u64 ap,int u64 aq,int i64 az,int i64 a0,slice a3 a1 a2])))) 8 [int i64 140]) [int u8 n,int u64 aa,int u64 ab,int u64 ac,int u64 ad,int i64 ae,int
 i64 af,slice a ag c,int i64 3]))))),slice (some (Addr.mk a8 0 none)) (Int.toNat (513:Int)) (Int.toNat (513:Int))]) bm [] R_8/\ZaQ (Shape.tup [Shape.int i64,Shape.int i64]) R_8/\∀(bu bv:Int)(m':Mem),
 Mem.le bm m'->R_8 (tuple (Array.mk [int i64 bu,int i64 bv])) m' []->∃(bp:Bool),(Eng.Zqm (List.take 9 (List.drop (Int.toNat ba*9) (List.append (Zah (Zah [int u8 0,int u64 0,int u64 0,int u64 0,int u64
 0,int i64 0,int i64 0,slice none 0 0,int i64 0] 0 (List.take 8 (List.drop (Int.toNat (Int.tmod p1 (4:Int))*8) (int u8 0::int u64 0::int u64 0::int u64 0::int u64 0::int i64 0::int i64 0::slice none
 0 0::int u8 ah::int u64 ai::int u64 aj::int u64 ak::int u64 al::int i64 ar::int i64 au::slice a4 av aw::List.append cs [int u8 am,int u64 an,int u64 ao,int u64 ap,int u64 aq,int i64 az,int i64
 a0,slice a3 a1 a2])))) 8 [int i64 140]) [int u8 n,int u64 aa,int u64 ab,int u64 ac,int u64 ad,int i64 ae,int i64 af,slice a ag c,int i64 3]))) 8 λ(v:Value)=>chk (ZaS i64 v) (br (!bn == RowKit.intOf v)
 (ZaM (Za2 p1 n aa ab ac ad ae af a ag c b bc cs a5 ah ai aj ak al ar au a4 av aw am an ao ap aq az a0 a3 a1 a2 bf bd a8 be ba bh bi)/\[some (Tok.mk (slice a6 ax ay) 8)]=[some (Tok.mk (slice a6 ax
 ay) 8)]/\[bool true]=[bool bp]) (Eng.Zqm (List.take 9 (List.drop (Int.toNat ba*9) (List.append (Zah (Zah [int u8 0,int u64 0,int u64 0,int u64 0,int u64 0,int i64 0,int i64 0,slice none 0 0,int i64
 0] 0 (List.take 8 (List.drop (Int.toNat (Int.tmod p1 (4:Int))*8) (int u8 0::int u64 0::int u64 0::int u64 0::int u64 0::int i64 0::int i64 0::slice none 0 0::int u8 ah::int u64 ai::int u64 aj ::
 int u64 ak::int u64 al::int i64 ar::int i64 au::slice a4 av aw::List.append cs [int u8 am,int u64 an,int u64 ao,int u64 ap,int u64 aq,int i64 az,int i64 a0,slice a3 a1 a2])))) 8 [int i64 140]) [int u8
 n,int u64 aa,int u64 ab,int u64 ac,int u64 ad,int i64 ae,int i64 af,slice a ag c,int i64 3]))) 8 λ(v:Value)=>chk (ZaS i64 v) (br (!bo == RowKit.intOf v) (ZaM (Za2 p1 n aa ab ac ad ae
 af a ag c b bc cs a5 ah ai aj ak al ar au a4 av aw am an ao ap aq az a0 a3 a1 a2 bf bd a8 be ba bh bi)/\[some (Tok.mk (slice a6 ax ay) 8)]=[some (Tok.mk (slice a6 ax ay) 8)]/\[bool true]=[bool bp]) (Eng.Zqm
 (List.take 9 (List.drop (Int.toNat ba*9) (List.append (Zah (Zah [int u8 0,int u64 0,int u64 0,int u64 0,int u64 0,int i64 0,int i64 0,slice none 0 0,int i64 0] 0 (List.take 8 (List.drop (Int.toNat
 (Int.tmod p1 (4:Int))*8) (int u8 0::int u64 0::int u64 0::int u64 0::int u64 0::int i64 0::int i64 0::slice none 0 0::int u8 ah::int u64 ai::int u64 aj::int u64 ak::int u64 al::int i64 ar
 :: int i64 au::slice a4 av aw::List.append cs [int u8 am,int u64 an,int u64 ao,int u64 ap,int u64 aq,int i64 az,int i64 a0,slice a3 a1 a2])))) 8 [int i64 140]) [int u8 n,int u64 aa,int u64 ab,int u64 ac,
 int u64 ad,int i64 ae,int i64 af,slice a ag c,int i64 3]))) 8 λ(v:Value)=>chk (ZaS i64 v) (br (!bt == RowKit.intOf v) (ZaM (Za2 p1 n aa ab ac ad ae af a ag c b bc cs a5 ah ai aj ak al ar
 au a4 av aw am an ao ap aq az a0 a3 a1 a2 bf bd a8 be ba bh bi)/\[some (Tok.mk (slice a6 ax ay) 8)]=[some (Tok.mk (slice a6 ax ay) 8)]/\[bool true]=[bool bp]) (Eng.Zqm (List.take 9 (List.drop (Int.toNat ba*9)
 (List.append (Zah (Zah [int u8 0,int u64 0,int u64 0,int u64 0,int u64 0,int i64 0,int i64 0,slice none 0 0,int i64 0] 0 (List.take 8 (List.drop (Int.toNat (Int.tmod p1 (4:Int))*8) (int u8 0::int u64
 0::int u64 0::int u64 0::int u64 0::int i64 0::int i64 0::slice none 0 0::int u8 ah::int u64 ai::int u64 aj::int u64 ak::int u64 al::int i64 ar::int i64 au::slice a4 av aw::List.append cs
 [int u8 am,int u64 an,int u64 ao,int u64 ap,int u64 aq,int i64 az,int i64 a0,slice a3 a1 a2])))) 8 [int i64 140]) [int u8 n,int u64 aa,int u64 ab,int u64 ac,int u64 ad,int i64 ae,int i64 af,slice a ag c,
 int i64 3]))) 8 λ(v:Value)=>chk (ZaS i64 v) (br (!bv == RowKit.intOf v) (ZaM (Za2 p1 n aa ab ac ad ae af a ag c b bc cs a5 ah ai aj ak al ar au a4 av aw am an ao ap aq az a0 a3 a1 a2 bf bd a8
 be ba bh bi)/\[some (Tok.mk (slice a6 ax ay) 8)]=[some (Tok.mk (slice a6 ax ay) 8)]/\[bool true]=[bool bp]) (ZaM (Za2 p1 n aa ab ac ad ae af a ag c b bc cs a5 ah ai aj ak al ar au a4 av aw am an
 ao ap aq az a0 a3 a1 a2 bf bd a8 be ba bh bi)/\[some (Tok.mk (slice a6 ax ay) 8)]=[some (Tok.mk (slice a6 ax ay) 8)]/\[bool !IntKind.wrap i64 (IntKind.wrap i64 (IntKind.wrap i64 ((↑bx:Int)+(↑bz:Int))+(↑bs:
 Int))+bu) == (0:Int)]=[bool bp])))))))))/\br bp (∃(m'':Mem),Mem.le m m''/\Mem.le m'' m'/\R (bool false) m'' []) (ZaM (ZaC p1 n aa ab ac ad ae af a ag c b bc cs a5 ah ai aj ak al ar au a4
 av aw am an ao ap aq az a0 a3 a1 a2 bf bd a8 be bh)/\[some (Tok.mk (slice a6 ax ay) 8)]=[some (Tok.mk (slice a6 ax ay) 8)]/\J [] [] [] m'))))))))/\∀(bj:Mem),Mem.le m' bj->J [] [] [] bj->ZaM
 (Zet p1 n aa ab ac ad ae af a ag c b bc cs a5 ah ai aj ak al ar au a4 av aw am an ao ap aq az a0 a3 a1 a2 bf bd a8 be)/\[some (Tok.mk (slice a6 ax ay) 8)]=[some (Tok.mk (slice a6 ax ay) 8)]/\∃(n':
 Nat),n' < ch/\I [int i64 (IntKind.wrap i64 (ba+(1:Int)))] [bh] [] bj n') (∃(f:Fx),((0:Int)<=(3:Int)/\(3:Int)<=(↑(Int.toNat (513:Int)):Int))/\∃(R_5:RT),R_5=f 5 [agg (Array.mk [int u8 n,int
 u64 aa,int u64 ab,int u64 ac,int u64 ad,int i64 ae,int i64 af,slice a ag c]),slice (Zbk (some (Addr.mk a8 0 none)) 0 (Int.toNat (513:Int)) 1) 3 513,int i64 (if(-1:Int) < p2 then(-1:Int)else p2)] m'/\
 CX Try.prog 14 (Array.mk [agg (Array.mk [int u8 n,int u64 aa,int u64 ab,int u64 ac,int u64 ad,int i64 ae,int i64 af,slice a ag c]),slice (Zbk (some (Addr.mk a8 0 none)) 0 (Int.toNat (513:Int)) 1) 3 513,int
 i64 (if(-1:Int) < p2 then(-1:Int)else p2)]) m' [] R_5/\ZaQ (Shape.tup [Shape.slice,Shape.int i64]) R_5/\∀(ce:Option Addr)(bx cf:Nat)(bn:Int)(bj:Mem),Mem.le m' bj->R_5 (tuple (Array.mk [slice ce
 bx cf,int i64 bn])) bj []->∀(M:Mem),Mem.le m' M->Mem.le bj M->∃(f:Fx),((0:Int)<=(3:Int)/\(3:Int)<=(↑(Int.toNat (513:Int)):Int))/\∃(R_6:RT),R_6=f 5 [agg (Array.mk [int u8 n,int u64 aa,
 int u64 ab,int u64 ac,int u64 ad,int i64 ae,int i64 af,slice a ag c]),slice (Zbk (some (Addr.mk a8 0 none)) 0 (Int.toNat (513:Int)) 1) 3 513,int i64 (if(4:Int) > p2 then(4:Int)else p2)] M/\CX
 Try.prog 14 (Array.mk [agg (Array.mk [int u8 n,int u64 aa,int u64 ab,int u64 ac,int u64 ad,int i64 ae,int i64 af,slice a ag c]),slice (Zbk (some (Addr.mk a8 0 none)) 0 (Int.toNat (513:Int)) 1) 3 513,int
 i64 (if(4:Int) > p2 then(4:Int)else p2)]) M [] R_6/\ZaQ (Shape.tup [Shape.slice,Shape.int i64]) R_6/\∀(dc:Option Addr)(bz cg:Nat)(bo:Int)(m':Mem),Mem.le M m'->R_6 (tuple (Array.mk [slice dc bz
 cg,int i64 bo])) m' []->∀(cb:Mem),Mem.le M cb->Mem.le m' cb->∃(R_7:RT),True/\CX Try.prog 18 (Array.mk [agg (Array.mk [int u8 n,int u64 aa,int u64 ab,int u64 ac,int u64 ad,int i64 ae,int i64 af,slice
 a ag c])]) cb [] R_7/\ZaQ (shT) R_7/\∀(bs bt bu bv ci cj ck:Int)(cl:Option Addr)(cm ca:Nat)(m':Mem),Mem.le cb m'->R_7 (agg (Array.mk [int u8 bs,int u64 bt,int u64 bu,int u64 bv,int u64 ci,int i64
 cj,int i64 ck,slice cl cm ca])) m' []->∃(R_8:RT),True/\CX Try.prog 17 (Array.mk [agg (Array.mk [int u8 bs,int u64 bt,int u64 bu,int u64 bv,int u64 ci,int i64 cj,int i64 ck,slice cl cm ca]),slice none 0
 0]) m' [] R_8/\ZaQ (Shape.tup [Shape.int i64,Shape.int i64]) R_8/\∀(dd cn:Int)(bm:Mem),Mem.le m' bm->R_8 (tuple (Array.mk [int i64 dd,int i64 cn])) bm []->∃(R_9:RT),True/\CX Try.prog 18 (Array.mk [agg
 (Array.mk [int u8 n,int u64 aa,int u64 ab,int u64 ac,int u64 ad,int i64 ae,int i64 af,slice a ag c])]) bm [] R_9/\ZaQ (shT) R_9/\∀(co cp cq cr ct cu cv:Int)(cw:Option Addr)(cx cy:Nat)(m':Mem),
 Mem.le bm m'->R_9 (agg (Array.mk [int u8 co,int u64 cp,int u64 cq,int u64 cr,int u64 ct,int i64 cu,int i64 cv,slice cw cx cy])) m' []->∃(R_10:RT),True/\CX Try.prog 19 (Array.mk [agg (Array.mk [bool false,
 bool false,int u8 co,int u64 cp,int u64 cq,int u64 cr,int u64 ct,int i64 cu,int i64 cv,slice cw cx cy])]) m' [] R_10/\ZaQ (Shape.int i64) R_10/\∀(cz:Int)(cc:Mem),Mem.le m' cc->R_10 (int i64 cz) cc []
 -> br (!cz == (0:Int)) (∃(bi:Bool),br (bn == (2:Int)) (br (bo == (2:Int)) (ZaM (ZaC p1 n aa ab ac ad ae af a ag c b bc cs a5 ah ai aj ak al ar au a4 av aw am an ao ap aq az a0 a3 a1 a2 bf bd
 a8 be bh)/\[some (Tok.mk (slice a6 ax ay) 8)]=[some (Tok.mk (slice a6 ax ay) 8)]/\[bool ((2:Int) == (2:Int))]=[bool bi]) (ZaM (ZaC p1 n aa ab ac ad ae af a ag c b bc cs a5 ah ai aj ak al ar
 au a4 av aw am an ao ap aq az a0 a3 a1 a2 bf bd a8 be bh)/\[some (Tok.mk (slice a6 ax ay) 8)]=[some (Tok.mk (slice a6 ax ay) 8)]/\[bool false]=[bool bi])) (ZaM (ZaC p1 n aa ab ac ad ae af a ag c
 b bc cs a5 ah ai aj ak al ar au a4 av aw am an ao ap aq az a0 a3 a1 a2 bf bd a8 be bh)/\[some (Tok.mk (slice a6 ax ay) 8)]=[some (Tok.mk (slice a6 ax ay) 8)]/\[bool false]=[bool bi])/\∃(m'':Mem),Mem.le m m''
 /\ Mem.le m'' cc/\R (bool bi) m'' []) (∃(bi:Bool),br (bn == (2:Int)) (br (bo == (2:Int)) (ZaM (ZaC p1 n aa ab ac ad ae af a ag c b bc cs a5 ah ai aj ak al ar au a4 av aw am an ao ap aq az a0
 a3 a1 a2 bf bd a8 be bh)/\[some (Tok.mk (slice a6 ax ay) 8)]=[some (Tok.mk (slice a6 ax ay) 8)]/\[bool (cn == (2:Int))]=[bool bi]) (ZaM (ZaC p1 n aa ab ac ad ae af a ag c b bc cs a5 ah ai aj
 ak al ar au a4 av aw am an ao ap aq az a0 a3 a1 a2 bf bd a8 be bh)/\[some (Tok.mk (slice a6 ax ay) 8)]=[some (Tok.mk (slice a6 ax ay) 8)]/\[bool false]=[bool bi])) (ZaM (ZaC p1 n aa ab ac ad ae
 af a ag c b bc cs a5 ah ai aj ak al ar au a4 av aw am an ao ap aq az a0 a3 a1 a2 bf bd a8 be bh)/\[some (Tok.mk (slice a6 ax ay) 8)]=[some (Tok.mk (slice a6 ax ay) 8)]/\[bool false]=[bool bi])/\∃(m'':Mem),
 Mem.le m m''/\Mem.le m'' cc/\R (bool bi) m'' []))))))))))
theorem ZeX(p0a:Option Addr)(p0n p0c:Nat)(p1 p2:Int)(m:Mem)(R:RT)(h:Zc8 p0a p0n p0c p1 p2 m R):CX Try.prog 3 #[.slice p0a p0n p0c,.int .u8 p1,.int .i64 p2] m [] R:=
 Zak (E:=Zfv) ZaR mix Try.func3 [.v (.slice p0a p0n p0c),.v (.int .u8 p1),.v (.int .i64 p2)] [] (by kernel_rfl) (Eq.mp (by kernel_rfl) h)
end Go.Proofs.Ytgclajkldphoaaa
set_option linter.unusedVariables false
namespace Go.Proofs.Ytgclajkldphoaaa
open Go Go.Eng Go.Proofs Go.RowKit
open Go.Value (int slice agg bool string tuple func)
open Go.IntKind (u8 u64 i64)
set_option maxRecDepth 100000
noncomputable def ZdW:Env:={ EB with
 loops:=(λi=>bif Nat.beq i 7 then⟨[(46,.int .i64)],[14,100000],[(59,1),(900,2)],false⟩ else⟨[],[],[],false⟩)
 dr:=(λi=>bif Nat.beq i 1 then[⟨0,[3],[],none,[],[]⟩,⟨1,[],[],none,[],[]⟩,⟨2,[],[],none,[1],[]⟩,⟨3,[],[],none,[1,2],[]⟩,⟨4,[100000],[],none,[1,2,3],[]⟩,⟨5,[],[],none,[0,1,2,3,4],[]⟩,⟨6,[14],[14],none,[0,1,2,3,4,5],[]⟩,⟨7,[14],[],none,[0,1,2,3,4,5,6],[]⟩]else bif Nat.beq i 5 then[⟨0,[],[],none,[],[]⟩,⟨1,[],[],none,[],[]⟩,⟨2,[],[],none,[1],[]⟩,⟨3,[],[],none,[1,2],[]⟩,⟨4,[100000],[],none,[1,2,3],[]⟩,⟨5,[],[],none,[],[]⟩,⟨6,[39],[39],none,[5],[5]⟩,⟨7,[39],[],some 900,[1,2,3,4,5,6],[6]⟩,⟨8,[],[],none,[0,1,2,3,4,5,6,7],[]⟩,⟨9,[],[],none,[0,1,2,3,4,5,6,7,8],[]⟩,⟨10,[100000],[100000],none,[0,1,2,3,4,5,6,7,8,9],[]⟩]else[])
 tokOf:=(λi=>bif Nat.beq i 40 then 900 else bif Nat.beq i 59 then 59 else 0)
 borrow:=(λi=>bif Nat.beq i 57 then[100000]else[])
 hint:=(λi=>bif Nat.beq i 11 then some 100000 else bif Nat.beq i 17 then some 100000 else bif Nat.beq i 21 then some 100000 else bif Nat.beq i 28 then some 100000 else bif Nat.beq i 36 then some 100000 else bif Nat.beq i 42 then some 100000 else none)
 frzNew:=[3]
 last:=(λi=>bif Nat.beq i 9 then true else false)
 mix:=(λi=>bif Nat.beq i 9 then some ([0,1,2,3,4,5,6],[7,8,9,10,11,12])else none)
 frz:=[14]
 thaw:=true
 kF:=true
 cuts:=λi=>bif Nat.beq i 6 then some ⟨[],[14,100000],[(900,2)],false⟩ else none
 lentC:=(λi=>bif Nat.beq i 57 then some [(900,2)]else none) }
def Zcm(bD bE bF bG bH bI bJ:Int)(aR:Option Addr)(aQ aS:Nat)(f0 f3:Value)(f1:Int)(fb:Nat)(t0a:Option Addr)(t0n t0c:Nat)(m:Mem)(Y:Nat->Prop)(R:RTY):Prop:=
 ∀(b:Nat)(m':Mem),Mem.le m m'->Mem.reads m' b 0 [int u8 bD,int u64 bE,int u64 bF,int u64 bG,int u64 bH,int i64 bI,int i64 bJ,slice aR aQ aS]->Mem.free m b->(∀(b' o:Nat) (u:
 Value),m' b' o=some u->m b' o=some u\/b'=b)->Mem.k m b=none->fb=fb/\∀(ae:Nat),fb=fb/\fb=fb/\1+1<=1+1+1+1/\∃(J:JT),br (bD == (6:Int)) (fb=fb/\∃(f:Fx),fb=fb/\∃(R:
 RT),R=f 5 [] m'/\CX Try.prog 21 (Array.mk []) m' [] R/\ZaQ (Shape.agg [Shape.int i64,Shape.int i64]) R/\∀(n ad:Int)(aa:Mem),Mem.le m' aa->R (agg (Array.mk [int i64 n,int i64 ad])) aa []->∀(af:Nat),
 Mem.free aa af->(Tok.mk (slice t0a t0n t0c) 2=Tok.mk (slice t0a t0n t0c) 2\/slice t0a t0n t0c=slice none 0 0\/t0c < t0n+1)/\∃(xs:List Value),∃(ys:List Value),List.length xs=t0n*2/\List.length ys =
 1*2/\rowRd (Mem.add aa af [int i64 n,int i64 ad]) t0a xs/\rowRd (Mem.add aa af [int i64 n,int i64 ad]) (some (Addr.mk af 0 none)) ys/\(∀(u:Value),u∈ys->Value.oneCell' u=true)/\(t0n+1)*16 <=
 140737488355328/\t0n+1<=9223372036854775807/\∀(a':Option Addr)(c':Nat)(al:Mem),Mem.le (Mem.add aa af [int i64 n,int i64 ad]) al->rowRd al a' (List.append xs ys)->TokFact (Mem.add aa af [int i64 n,int
 i64 ad]) t0a a' (t0n+1) c'->fb=fb/\2+1<=1+1+1+1/\∀(M:Mem),Mem.le m' M->Mem.le aa M->Mem.le (Mem.add aa af [int i64 n,int i64 ad]) M->Mem.le al M->[some (Box.mk ae [] 130 11 false true),some
 (Box.mk b [int u8 bD,int u64 bE,int u64 bF,int u64 bG,int u64 bH,int i64 bI,int i64 bJ,slice aR aQ aS] 29 8 true true),some (Box.mk fb [] 92 4 false true)]=[some (Box.mk ae [] 130 11
 false true),some (Box.mk b [int u8 bD,int u64 bE,int u64 bF,int u64 bG,int u64 bH,int i64 bI,int i64 bJ,slice aR aQ aS] 29 8 true true),some (Box.mk fb [] 92 4 false true)]/\([none]:
 List (Option Tok))=[none]/\J [] [[int u8 bD,int u64 bE,int u64 bF,int u64 bG,int u64 bH,int i64 bI,int i64 bJ,slice aR aQ aS,int i64 f1,int i64 (↑t0n:Int),slice none 0 0],[f0,int
 i64 (IntKind.wrap i64 (f1+(1:Int))),slice a' (t0n+1) c',f3]] [slice a' (t0n+1) c'] M) ([some (Box.mk ae [] 130 11 false true),some (Box.mk b [int u8 bD,int u64 bE,int u64 bF,int u64 bG,int u64
 bH,int i64 bI,int i64 bJ,slice aR aQ aS] 29 8 true true),some (Box.mk fb [] 92 4 false true)]=[some (Box.mk ae [] 130 11 false true),some (Box.mk b [int u8 bD,int u64 bE,int u64 bF,int u64
 bG,int u64 bH,int i64 bI,int i64 bJ,slice aR aQ aS] 29 8 true true),some (Box.mk fb [] 92 4 false true)]/\([none]:List (Option Tok))=[none]/\J [] [[int u8 bD,int u64 bE,int u64 bF,
 int u64 bG,int u64 bH,int i64 bI,int i64 bJ,slice aR aQ aS,int i64 f1,int i64 0,slice none 0 0],[f0,int i64 (IntKind.wrap i64 (f1+(1:Int))),slice t0a t0n t0c,f3]] [slice t0a t0n t0c] m')
 /\ ∀(cs aw:List Value)(a:Option Addr)(n c:Nat)(m':Mem),True->J [] [cs,aw] [slice a n c] m'->∃(I:IT),(∃(ad:Nat),I [int i64 0] [cs,aw] [slice none 0 0,slice a n c] m' ad)/\∀(n:Int) (cs am:
 List Value) (a:Option Addr) (ad c:Nat) (ah:Option Addr) (ai aj:Nat) (m':Mem) (ax:Nat),True->I [int i64 n] [cs,am] [slice a ad c,slice ah ai aj] m' ax->br (decide (n < (↑aQ:Int))) (∃(af:Nat),∃
 (o:Nat),aR=some (Addr.mk af o none)/\Zag n aQ/\∃(v:Value),∃(an:Value),∃(ao:Value),∃(ap:Value),∃(aq:Value),∃(ar:Value),∃(au:Value),∃(av:Value),Mem.reads m' af (o +
 Int.toNat n*8) [v,an,ao,ap,aq,ar,au,av]/\∀(a1:Nat),chk (Value.oneCell' v&&(Value.oneCell' an&&(Value.oneCell' ao&&(Value.oneCell' ap&&(Value.oneCell' aq&&(Value.oneCell' ar&&(Value.oneCell' au
 && (Value.oneCell' av&&true)))))))) (Eng.Zqm cs 10 λ(ac:Value)=>∃(ak:Nat->Prop),∃(R:Value->Mem->List (List Value)->List Value->Prop),CXY Try.prog 69 (Array.mk [Value.pointer (some (Addr.mk fb 0
 none)),agg (Array.mk [v,an,ao,ap,aq,ar,au,av])]) m' ak [Box.mk fb am 92 4 false true] [Tok.mk (slice ah ai aj) 2] R/\(∀(t:Tok),t∈[Tok.mk (slice ah ai aj) 2]->∀(b:Nat),Tok.blk t=some b->ak b)/\(∀
 (ab:Nat),ak ab->(∃(t:Tok),t∈[Tok.mk (slice ah ai aj) 2]/\Tok.blk t=some ab)\/(Mem.free (Mem.off m Y) ab/\Mem.k (Mem.off m Y) ab=none)/\((∃(o:Nat),∃(v:Value),m' ab o=some v)\/∃(e:List
 (Value×Value)),Mem.k m' ab=some e)/\b≠ab/\Tok.blk (Tok.mk (slice a ad c) 1)≠some ab/\True)/\(∀(v:Value)(m':Mem) (css:List (List Value)) (tvs:List Value),R v m' css tvs->Shape.fits Shape.ptr v =
 true)/\∀(ab o:Nat)(aa:Mem),Mem.le (Mem.off m' ak) aa->(NewM m' aa λ(b:Nat)=>ak b\/Mem.free m' b)->∀(ay:List Value)(az:Option Addr)(a0 d:Nat),R (Value.pointer (some (Addr.mk ab o none))) aa
 [ay] [slice az a0 d]->∀(ag:Nat),Mem.free aa ag->chk (ZdI ac&&true) ((Tok.mk (slice a ad c) 1=Tok.mk ac 1\/ac=slice none 0 0\/slC ac < slN ac+1)/\∃(xs:List Value),∃(ys:List Value),List.length xs
 = slN ac*1/\List.length ys=1*1/\rowRd (Mem.add aa ag [Value.pointer (some (Addr.mk ab o none))]) (slA ac) xs/\rowRd (Mem.add aa ag [Value.pointer (some (Addr.mk ab o none))]) (some (Addr.mk ag 0 none)) ys/\(∀
 (u:Value),u∈ys->Value.oneCell' u=true)/\(slN ac+1)*8<=140737488355328/\slN ac+1<=9223372036854775807/\∀(a':Option Addr)(c':Nat)(m':Mem),Mem.le (Mem.add aa ag [Value.pointer (some (Addr.mk ab
 o none))]) m'->rowRd m' a' (List.append xs ys)->TokFact (Mem.add aa ag [Value.pointer (some (Addr.mk ab o none))]) (slA ac) a' (slN ac+1) c'->chk (Nat.ble 11 (List.length cs)) ([some (Box.mk ae [] 130 11 false
 true),some (Box.mk b [int u8 bD,int u64 bE,int u64 bF,int u64 bG,int u64 bH,int i64 bI,int i64 bJ,slice aR aQ aS] 29 8 true true),some (Box.mk fb [] 92 4 false true)]=[some (Box.mk ae
 [] 130 11 false true),some (Box.mk b [int u8 bD,int u64 bE,int u64 bF,int u64 bG,int u64 bH,int i64 bI,int i64 bJ,slice aR aQ aS] 29 8 true true),some (Box.mk fb [] 92 4 false true)]/\
 ([none,none]:List (Option Tok))=[none,none]/\∃(n':Nat),n' < ax/\I [int i64 (IntKind.wrap i64 (n+(1:Int)))] [Zah cs 10 [slice a' (slN ac+1) c'],ay] [slice a' (slN ac+1) c',slice az a0 d] m'
 n')))) (Box.mk fb [f0,int i64 f1,slice t0a t0n t0c,f3] 92 4 false true=Box.mk fb [f0,int i64 f1,slice t0a t0n t0c,f3] 92 4 false true/\(Mem.free m' ae->Mem.k m' ae=none->R (Value.pointer (some (Addr.mk ae 0
 none))) (Mem.add m' ae cs) [am] [slice ah ai aj]))
theorem Zdf(bD bE bF bG bH bI bJ:Int)(aR:Option Addr)(aQ aS:Nat)(f0 f3:Value)(f1:Int)(fb:Nat)(t0a:Option Addr)(t0n t0c:Nat)(m:Mem)(Y:Nat->Prop)(R:RTY)(h:Zcm bD bE bF bG bH bI bJ aR aQ aS f0 f3 f1 fb t0a t0n t0c m Y R):CXY Try.prog 69 #[.pointer (some ⟨fb,0,none⟩),.agg #[.int .u8 bD,.int .u64 bE,.int .u64 bF,.int .u64 bG,.int .u64 bH,.int .i64 bI,.int .i64 bJ,.slice aR aQ aS]] m Y [⟨fb,[f0,.int .i64 f1,.slice t0a t0n t0c,f3],92,4,false,true⟩] [⟨.slice t0a t0n t0c,2⟩] R:=
 Zb1 (E:=ZdW) ZaR mix Try.func69 [.v (.pointer (some ⟨fb,0,none⟩)),.v (.agg #[.int .u8 bD,.int .u64 bE,.int .u64 bF,.int .u64 bG,.int .u64 bH,.int .i64 bI,.int .i64 bJ,.slice aR aQ aS])] [⟨fb,[f0,.int .i64 f1,.slice t0a t0n t0c,f3],92,4,false,true⟩] [900] [⟨.slice t0a t0n t0c,2⟩] (by decide) (by kernel_rfl) (Eq.mp (by kernel_rfl) h)
noncomputable def ZmY:Env:={ EB with
 frzNew:=[2]
 frz:=[20]
 thaw:=true
 kF:=true
 lentC:=(λi=>bif Nat.beq i 24 then some [(900,2)]else none) }
def ZgV(aE aJ aH aI aK aD aG:Int)(aB:Option Addr)(aA aC:Nat)(p1a:Option Addr)(p1n p1c:Nat)(m:Mem)(R:RT):Prop:=
 ∀(b:Nat)(m':Mem),Mem.le m m'->Mem.reads m' b 0 [int u8 aE,int u64 aJ,int u64 aH,int u64 aI,int u64 aK,int i64 aD,int i64 aG,slice aB aA aC]->Mem.free m b->(∀(b' o:Nat) (u:
 Value),m' b' o=some u->m b' o=some u\/b'=b)->Mem.k m b=none->∃(R_1:RT),True/\CX Try.prog 19 (Array.mk [agg (Array.mk [bool false,bool false,int u8 aE,int u64 aJ,int u64 aH,int u64 aI,int
 u64 aK,int i64 aD,int i64 aG,slice aB aA aC])]) m' [] R_1/\ZaQ (Shape.int i64) R_1/\∀(n:Int)(m'_1:Mem),Mem.le m' m'_1->R_1 (int i64 n) m'_1 []->br (!n == (0:Int)) (∃(m'':Mem),Mem.le m
 m''/\Mem.le m'' m'_1/\R (tuple (Array.mk [Value.pointer none,Value.pointer none,int i64 140])) m'' []) (br (decide ((↑p1n:Int) > (512:Int))) (∃(m'':Mem),Mem.le m m''/\Mem.le m'' m'_1/\R (tuple (Array.mk
 [Value.pointer none,Value.pointer none,int i64 3])) m'' []) (∀(b_1:Nat),Mem.free m'_1 b_1->Mem.k m'_1 b_1=none->∀(b_2:Nat),∃(Y:Nat->Prop),∃(R_2:Value->Mem->List (List Value)->List Value->Prop),
 CXY Try.prog 69 (Array.mk [Value.pointer (some (Addr.mk b_2 0 none)),agg (Array.mk [int u8 aE,int u64 aJ,int u64 aH,int u64 aI,int u64 aK,int i64 aD,int i64 aG,slice aB aA aC])]) (Mem.updK
 m'_1 b_1 []) Y [Box.mk b_2 [slice p1a p1n p1c,int i64 0,slice none 0 0,Value.map (some b_1)] 92 4 false true] [Tok.mk (slice none 0 0) 2] R_2/\(∀(t:Tok),t∈[Tok.mk (slice none 0 0) 2]->∀(b:Nat),Tok.blk t =
 some b->Y b)/\(∀(b_3:Nat),Y b_3->(∃(t:Tok),t∈[Tok.mk (slice none 0 0) 2]/\Tok.blk t=some b_3)\/(Mem.free m b_3/\Mem.k m b_3=none)/\((∃(o:Nat),∃(v:Value),(Mem.updK m'_1 b_1 []) b_3 o=some
 v)\/∃(e:List (Value×Value)),Mem.k (Mem.updK m'_1 b_1 []) b_3=some e)/\b≠b_3/\True)/\(∀(v:Value)(m':Mem) (css:List (List Value)) (tvs:List Value),R_2 v m' css tvs->Shape.fits Shape.ptr v=true)
 /\ ∀(b o:Nat)(m':Mem),Mem.le (Mem.off (Mem.updK m'_1 b_1 []) Y) m'->(NewM (Mem.updK m'_1 b_1 []) m' λ(b:Nat)=>Y b\/Mem.free (Mem.updK m'_1 b_1 []) b)->∀(cs:List Value)(a:Option Addr)(c d:Nat),
 R_2 (Value.pointer (some (Addr.mk b o none))) m' [cs] [slice a c d]->Mem.free m' b_2->Mem.k m' b_2=none->∃(m'':Mem),Mem.le m m''/\Mem.le m'' (Mem.add m' b_2 cs)/\R (tuple (Array.mk [Value.pointer (some
 (Addr.mk b_2 0 none)),Value.pointer (some (Addr.mk b o none)),int i64 0])) m'' []))
theorem Zk5(aE aJ aH aI aK aD aG:Int)(aB:Option Addr)(aA aC:Nat)(p1a:Option Addr)(p1n p1c:Nat)(m:Mem)(R:RT)(h:ZgV aE aJ aH aI aK aD aG aB aA aC p1a p1n p1c m R):CX Try.prog 42 #[.agg #[.int .u8 aE,.int .u64 aJ,.int .u64 aH,.int .u64 aI,.int .u64 aK,.int .i64 aD,.int .i64 aG,.slice aB aA aC],.slice p1a p1n p1c] m [] R:=
 Zak (E:=ZmY) ZaR mix Try.func42 [.v (.agg #[.int .u8 aE,.int .u64 aJ,.int .u64 aH,.int .u64 aI,.int .u64 aK,.int .i64 aD,.int .i64 aG,.slice aB aA aC]),.v (.slice p1a p1n p1c)] [] (by kernel_rfl) (Eq.mp (by kernel_rfl) h)
noncomputable def Zk6:Env:={ EB with
 joins:=(λi=>bif Nat.beq i 4 then some [(22,.bool)]else none)
 frzNew:=[3]
 thaw:=true
 lentC:=(λi=>bif Nat.beq i 34 then some []else none) }
def Zf6(aE aJ aH aI aK aD aG:Int)(aB:Option Addr)(aA aC:Nat)(p1a:Option Addr)(p1n p1c:Nat)(p2:Int)(m:Mem)(R:RT):Prop:=
 ∀(b:Nat)(m':Mem),Mem.le m m'->Mem.reads m' b 0 [int u8 aE,int u64 aJ,int u64 aH,int u64 aI,int u64 aK,int i64 aD,int i64 aG,slice aB aA aC]->Mem.free m b->(∀(b' o:Nat) (u:
 Value),m' b' o=some u->m b' o=some u\/b'=b)->∃(R_1:RT),True/\CX Try.prog 42 (Array.mk [agg (Array.mk [int u8 aE,int u64 aJ,int u64 aH,int u64 aI,int u64 aK,int i64 aD,int i64 aG,slice
 aB aA aC]),slice p1a p1n p1c]) m' [] R_1/\ZaQ (Shape.tup [Shape.any,Shape.any,Shape.int i64]) R_1/\∀(v v_1:Value)(n:Int)(m'_1:Mem),Mem.le m' m'_1->R_1 (tuple (Array.mk [v,v_1,int i64 n]))
 m'_1 []->br (!n == (0:Int)) (∃(m'':Mem),Mem.le m m''/\Mem.le m'' m'_1/\R (tuple (Array.mk [slice none 0 0,int i64 n])) m'' []) (∃(b_1:Bool),br (decide (p2 < (0:Int))) ([some (Box.mk b [int u8 aE,int
 u64 aJ,int u64 aH,int u64 aI,int u64 aK,int i64 aD,int i64 aG,slice aB aA aC] 29 8 true true)]=[some (Box.mk b [int u8 aE,int u64 aJ,int u64 aH,int u64 aI,int u64 aK,int i64
 aD,int i64 aG,slice aB aA aC] 29 8 true true)]/\[bool true]=[bool b_1]) ([some (Box.mk b [int u8 aE,int u64 aJ,int u64 aH,int u64 aI,int u64 aK,int i64 aD,int i64 aG,slice aB
 aA aC] 29 8 true true)]=[some (Box.mk b [int u8 aE,int u64 aJ,int u64 aH,int u64 aI,int u64 aK,int i64 aD,int i64 aG,slice aB aA aC] 29 8 true true)]/\[bool (decide (p2 > (↑p1n:
 Int)))]=[bool b_1])/\br b_1 (∃(m'':Mem),Mem.le m m''/\Mem.le m'' m'_1/\R (tuple (Array.mk [slice none 0 0,int i64 2])) m'' []) (∃(Y:Nat->Prop),∃(R_2:Value->Mem->List (List Value)->List Value->
 Prop),CXY Try.prog 44 (Array.mk [v,v_1,int i64 0,int i64 p2]) m'_1 Y [] [] R_2/\(∀(t:Tok),t∈[]->∀(b:Nat),Tok.blk t=some b->Y b)/\(∀(b_2:Nat),Y b_2->(∃(t:Tok),t∈[]/\Tok.blk t=some b_2)\/
 (Mem.free m b_2/\Mem.k m b_2=none)/\((∃(o:Nat),∃(v:Value),m'_1 b_2 o=some v)\/∃(e:List (Value×Value)),Mem.k m'_1 b_2=some e)/\b≠b_2/\True)/\(∀(v:Value)(m':Mem) (css:List (List Value))
 (tvs:List Value),R_2 v m' css tvs->Shape.fits Shape.slice v=true)/\∀(a:Option Addr)(n c:Nat)(m':Mem),Mem.le (Mem.off m'_1 Y) m'->(NewM m'_1 m' λ(b:Nat)=>Y b\/Mem.free m'_1 b)->R_2 (slice a n
 c) m' [] []->∃(R_3:RT),True/\CX Try.prog 43 (Array.mk [slice a n c]) m' [] R_3/\ZaQ Shape.slice R_3/\∀(a:Option Addr)(n c:Nat)(m'_2:Mem),Mem.le m' m'_2->R_3 (slice a n c) m'_2 []->∃(m'':Mem),
 Mem.le m m''/\Mem.le m'' m'_2/\R (tuple (Array.mk [slice a n c,int i64 0])) m'' []))
theorem Zjr(aE aJ aH aI aK aD aG:Int)(aB:Option Addr)(aA aC:Nat)(p1a:Option Addr)(p1n p1c:Nat)(p2:Int)(m:Mem)(R:RT)(h:Zf6 aE aJ aH aI aK aD aG aB aA aC p1a p1n p1c p2 m R):CX Try.prog 14 #[.agg #[.int .u8 aE,.int .u64 aJ,.int .u64 aH,.int .u64 aI,.int .u64 aK,.int .i64 aD,.int .i64 aG,.slice aB aA aC],.slice p1a p1n p1c,.int .i64 p2] m [] R:=
 Zak (E:=Zk6) ZaR mix Try.func14 [.v (.agg #[.int .u8 aE,.int .u64 aJ,.int .u64 aH,.int .u64 aI,.int .u64 aK,.int .i64 aD,.int .i64 aG,.slice aB aA aC]),.v (.slice p1a p1n p1c),.v (.int .i64 p2)] [] (by kernel_rfl) (Eq.mp (by kernel_rfl) h)
noncomputable def Zk7:Env:={ EB with
 frzNew:=[2]
 thaw:=true
 lentC:=(λi=>bif Nat.beq i 21 then some []else bif Nat.beq i 30 then some []else none) }
def Zf7(aE aJ aH aI aK aD aG:Int)(aB:Option Addr)(aA aC:Nat)(p1a:Option Addr)(p1n p1c:Nat)(m:Mem)(R:RT):Prop:=
 ∀(b:Nat)(m':Mem),Mem.le m m'->Mem.reads m' b 0 [int u8 aE,int u64 aJ,int u64 aH,int u64 aI,int u64 aK,int i64 aD,int i64 aG,slice aB aA aC]->Mem.free m b->(∀(b' o:Nat) (u:
 Value),m' b' o=some u->m b' o=some u\/b'=b)->∃(R_1:RT),True/\CX Try.prog 42 (Array.mk [agg (Array.mk [int u8 aE,int u64 aJ,int u64 aH,int u64 aI,int u64 aK,int i64 aD,int i64 aG,slice
 aB aA aC]),slice p1a p1n p1c]) m' [] R_1/\ZaQ (Shape.tup [Shape.any,Shape.any,Shape.int i64]) R_1/\∀(v v_1:Value)(n:Int)(m'_1:Mem),Mem.le m' m'_1->R_1 (tuple (Array.mk [v,v_1,int i64 n]))
 m'_1 []->br (!n == (0:Int)) (∃(m'':Mem),Mem.le m m''/\Mem.le m'' m'_1/\R (tuple (Array.mk [slice none 0 0,int i64 n])) m'' []) (∃(Y:Nat->Prop),∃(R_2:Value->Mem->List (List Value)->List Value->
 Prop),CXY Try.prog 44 (Array.mk [v,v_1,int i64 0,int i64 0]) m'_1 Y [] [] R_2/\(∀(t:Tok),t∈[]->∀(b:Nat),Tok.blk t=some b->Y b)/\(∀(b_1:Nat),Y b_1->(∃(t:Tok),t∈[]/\Tok.blk t=some b_1)\/
 (Mem.free m b_1/\Mem.k m b_1=none)/\((∃(o:Nat),∃(v:Value),m'_1 b_1 o=some v)\/∃(e:List (Value×Value)),Mem.k m'_1 b_1=some e)/\b≠b_1/\True)/\(∀(v:Value)(m':Mem) (css:List (List Value))
 (tvs:List Value),R_2 v m' css tvs->Shape.fits Shape.slice v=true)/\∀(a:Option Addr)(n c:Nat)(m':Mem),Mem.le (Mem.off m'_1 Y) m'->(NewM m'_1 m' λ(b:Nat)=>Y b\/Mem.free m'_1 b)->R_2 (slice a n
 c) m' [] []->∃(R_3:RT),True/\CX Try.prog 45 (Array.mk [slice a n c,int i64 (↑p1n:Int)]) m' [] R_3/\ZaQ Shape.bool R_3/\∀(b_1:Bool)(m'_2:Mem),Mem.le m' m'_2->R_3 (bool b_1) m'_2 []->br (!b_1) (∃(m''
 : Mem),Mem.le m m''/\Mem.le m'' m'_2/\R (tuple (Array.mk [slice none 0 0,int i64 141])) m'' []) (∃(Y:Nat->Prop),∃(R_4:Value->Mem->List (List Value)->List Value->Prop),CXY Try.prog 46 (Array.mk [v,v_1,
 int i64 0,int i64 (↑p1n:Int)]) m'_2 Y [] [] R_4/\(∀(t:Tok),t∈[]->∀(b:Nat),Tok.blk t=some b->Y b)/\(∀(b_2:Nat),Y b_2->(∃(t:Tok),t∈[]/\Tok.blk t=some b_2)\/(Mem.free m b_2/\Mem.k m b_2 =
 none)/\((∃(o:Nat),∃(v:Value),m'_2 b_2 o=some v)\/∃(e:List (Value×Value)),Mem.k m'_2 b_2=some e)/\b≠b_2/\True)/\(∀(v:Value)(m':Mem) (css:List (List Value)) (tvs:List Value),R_4 v m'
 css tvs->Shape.fits (Shape.int i64) v=true)/\∀(n:Int)(m':Mem),Mem.le (Mem.off m'_2 Y) m'->(NewM m'_2 m' λ(b:Nat)=>Y b\/Mem.free m'_2 b)->R_4 (int i64 n) m' [] []->chk (Zce v) (chk (Zce v) (∃
 (v_2:Value),m' (Ziz v) (ZiA v+2)=some v_2/\∃(m'':Mem),Mem.le m m''/\Mem.le m'' m'/\R (tuple (Array.mk [v_2,int i64 0])) m'' []))))
theorem Zjs(aE aJ aH aI aK aD aG:Int)(aB:Option Addr)(aA aC:Nat)(p1a:Option Addr)(p1n p1c:Nat)(m:Mem)(R:RT)(h:Zf7 aE aJ aH aI aK aD aG aB aA aC p1a p1n p1c m R):CX Try.prog 15 #[.agg #[.int .u8 aE,.int .u64 aJ,.int .u64 aH,.int .u64 aI,.int .u64 aK,.int .i64 aD,.int .i64 aG,.slice aB aA aC],.slice p1a p1n p1c] m [] R:=
 Zak (E:=Zk7) ZaR mix Try.func15 [.v (.agg #[.int .u8 aE,.int .u64 aJ,.int .u64 aH,.int .u64 aI,.int .u64 aK,.int .i64 aD,.int .i64 aG,.slice aB aA aC]),.v (.slice p1a p1n p1c)] [] (by kernel_rfl) (Eq.mp (by kernel_rfl) h)
noncomputable def Zjt:Env:={ EB with
 frzNew:=[2]
 thaw:=true
 lentC:=(λi=>bif Nat.beq i 27 then some []else bif Nat.beq i 36 then some []else none) }
def Zfb(aE aJ aH aI aK aD aG:Int)(aB:Option Addr)(aA aC:Nat)(p1a:Option Addr)(p1n p1c:Nat)(m:Mem)(R:RT):Prop:=
 ∀(b:Nat)(m':Mem),Mem.le m m'->Mem.reads m' b 0 [int u8 aE,int u64 aJ,int u64 aH,int u64 aI,int u64 aK,int i64 aD,int i64 aG,slice aB aA aC]->Mem.free m b->(∀(b' o:Nat) (u:
 Value),m' b' o=some u->m b' o=some u\/b'=b)->∃(R_1:RT),True/\CX Try.prog 42 (Array.mk [agg (Array.mk [int u8 aE,int u64 aJ,int u64 aH,int u64 aI,int u64 aK,int i64 aD,int i64 aG,slice
 aB aA aC]),slice p1a p1n p1c]) m' [] R_1/\ZaQ (Shape.tup [Shape.any,Shape.any,Shape.int i64]) R_1/\∀(v v_1:Value)(n:Int)(m'_1:Mem),Mem.le m' m'_1->R_1 (tuple (Array.mk [v,v_1,int i64 n]))
 m'_1 []->br (!n == (0:Int)) (∃(m'':Mem),Mem.le m m''/\Mem.le m'' m'_1/\R (tuple (Array.mk [int i64 0,int i64 n])) m'' []) (br (!aE == (5:Int)) (∃(m'':Mem),Mem.le m m''/\Mem.le m'' m'_1/\R (tuple
 (Array.mk [int i64 0,int i64 2])) m'' []) (∃(Y:Nat->Prop),∃(R_2:Value->Mem->List (List Value)->List Value->Prop),CXY Try.prog 44 (Array.mk [v,v_1,int i64 0,int i64 0]) m'_1 Y [] [] R_2/\(∀(t:Tok),t
 ∈ []->∀(b:Nat),Tok.blk t=some b->Y b)/\(∀(b_1:Nat),Y b_1->(∃(t:Tok),t∈[]/\Tok.blk t=some b_1)\/(Mem.free m b_1/\Mem.k m b_1=none)/\((∃(o:Nat),∃(v:Value),m'_1 b_1 o=some v)\/∃(e:
 List (Value×Value)),Mem.k m'_1 b_1=some e)/\b≠b_1/\True)/\(∀(v:Value)(m':Mem) (css:List (List Value)) (tvs:List Value),R_2 v m' css tvs->Shape.fits Shape.slice v=true)/\∀(a:Option Addr) (n c
 : Nat) (m':Mem),Mem.le (Mem.off m'_1 Y) m'->(NewM m'_1 m' λ(b:Nat)=>Y b\/Mem.free m'_1 b)->R_2 (slice a n c) m' [] []->∃(R_3:RT),True/\CX Try.prog 45 (Array.mk [slice a n c,int i64 (↑p1n:Int)]) m'
 [] R_3/\ZaQ Shape.bool R_3/\∀(b_1:Bool)(m'_2:Mem),Mem.le m' m'_2->R_3 (bool b_1) m'_2 []->br (!b_1) (∃(m'':Mem),Mem.le m m''/\Mem.le m'' m'_2/\R (tuple (Array.mk [int i64 0,int i64 141])) m'' []) (∃
 (Y:Nat->Prop),∃(R_4:Value->Mem->List (List Value)->List Value->Prop),CXY Try.prog 46 (Array.mk [v,v_1,int i64 0,int i64 (↑p1n:Int)]) m'_2 Y [] [] R_4/\(∀(t:Tok),t∈[]->∀(b:Nat),Tok.blk t =
 some b->Y b)/\(∀(b_2:Nat),Y b_2->(∃(t:Tok),t∈[]/\Tok.blk t=some b_2)\/(Mem.free m b_2/\Mem.k m b_2=none)/\((∃(o:Nat),∃(v:Value),m'_2 b_2 o=some v)\/∃(e:List (Value×Value)),Mem.k
 m'_2 b_2=some e)/\b≠b_2/\True)/\(∀(v:Value)(m':Mem) (css:List (List Value)) (tvs:List Value),R_4 v m' css tvs->Shape.fits (Shape.int i64) v=true)/\∀(n:Int)(m':Mem),Mem.le (Mem.off m'_2 Y) m'
 -> (NewM m'_2 m' λ(b:Nat)=>Y b\/Mem.free m'_2 b)->R_4 (int i64 n) m' [] []->∃(m'':Mem),Mem.le m m''/\Mem.le m'' m'/\R (tuple (Array.mk [int i64 n,int i64 0])) m'' [])))
theorem ZhT(aE aJ aH aI aK aD aG:Int)(aB:Option Addr)(aA aC:Nat)(p1a:Option Addr)(p1n p1c:Nat)(m:Mem)(R:RT)(h:Zfb aE aJ aH aI aK aD aG aB aA aC p1a p1n p1c m R):CX Try.prog 17 #[.agg #[.int .u8 aE,.int .u64 aJ,.int .u64 aH,.int .u64 aI,.int .u64 aK,.int .i64 aD,.int .i64 aG,.slice aB aA aC],.slice p1a p1n p1c] m [] R:=
 Zak (E:=Zjt) ZaR mix Try.func17 [.v (.agg #[.int .u8 aE,.int .u64 aJ,.int .u64 aH,.int .u64 aI,.int .u64 aK,.int .i64 aD,.int .i64 aG,.slice aB aA aC]),.v (.slice p1a p1n p1c)] [] (by kernel_rfl) (Eq.mp (by kernel_rfl) h)
noncomputable def ZgW:Env:={ EB with
 loops:=(λi=>bif Nat.beq i 6 then⟨[(8,.slice),(25,.int .i64)],[],[(40,1)],false⟩ else⟨[],[],[],false⟩)
 tokOf:=(λi=>bif Nat.beq i 40 then 40 else 0)
 frzNew:=[2] }
def ZdR(aE aJ aH aI aK aD aG:Int)(aB:Option Addr)(aA aC:Nat)(p1a:Option Addr)(p1n p1c:Nat)(m:Mem)(R:RT):Prop:=
 ∀(b:Nat)(m':Mem),Mem.le m m'->Mem.reads m' b 0 [int u8 aE,int u64 aJ,int u64 aH,int u64 aI,int u64 aK,int i64 aD,int i64 aG,slice aB aA aC]->∃(R_1:RT),True/\CX Try.prog 15
 (Array.mk [agg (Array.mk [int u8 aE,int u64 aJ,int u64 aH,int u64 aI,int u64 aK,int i64 aD,int i64 aG,slice aB aA aC]),slice p1a p1n p1c]) m' [] R_1/\ZaQ (Shape.tup [Shape.slice,
 Shape.int i64]) R_1/\∀(a:Option Addr)(n c:Nat)(ai:Int)(ac:Mem),Mem.le m' ac->R_1 (tuple (Array.mk [slice a n c,int i64 ai])) ac []->br (!ai == (0:Int)) (∃(m'':Mem),Mem.le m m''/\Mem.le m'' ac/\R
 (tuple (Array.mk [slice none 0 0,int i64 ai])) m'' []) (∃(bs:ByteArray),ByteArray.size bs=p1n/\rowRd ac p1a (Zaz bs)/\∀(ad:Nat),Mem.free ac ad->∃(I:IT),(∃(n:Nat),I [slice (some (Addr.mk ad 0
 none)) 1 1,int i64 0] [] [slice none 0 0] (Mem.add ac ad [string bs]) n)/\∀(ae:Option Addr)(ab c:Nat)(af:Int)(ak:Option Addr)(al am:Nat)(m':Mem)(an:Nat),Mem.le (Mem.add ac ad [string bs]) m'->I
 [slice ae ab c,int i64 af] [] [slice ak al am] m' an->br (decide (af < (↑n:Int))) (∃(ao:Nat),∃(o:Nat),a=some (Addr.mk ao o none)/\Zag af n/\∃(v:Value),∃(aa:Value),Mem.reads m' ao (o +
 Int.toNat af*2) [v,aa]/\∀(ap:Nat),chk (Value.oneCell' v&&(Value.oneCell' aa&&true)) (chk (ZaS i64 v&&decide (i64=i64)) (chk (ZaS i64 aa&&decide (i64=i64)) ((((0:Int)<=if(0:Int) >
 RowKit.intOf aa then(0:Int)else RowKit.intOf aa)/\(if(0:Int) > RowKit.intOf aa then(0:Int)else RowKit.intOf aa)<=(↑p1c:Int))/\(((0:Int)<=if(0:Int) > RowKit.intOf v then(0:Int)else RowKit.intOf
 v)/\(if(0:Int) > RowKit.intOf v then(0:Int)else RowKit.intOf v)<=(↑(Int.toNat (if(0:Int) > RowKit.intOf aa then(0:Int)else RowKit.intOf aa)):Int))/\∃(ag:ByteArray),ByteArray.size ag=Int.toNat
 (if(0:Int) > RowKit.intOf aa then(0:Int)else RowKit.intOf aa) - Int.toNat (if(0:Int) > RowKit.intOf v then(0:Int)else RowKit.intOf v)/\rowRd m' (Zbk p1a (Int.toNat (if(0:Int) > RowKit.intOf v then
 (0:Int)else RowKit.intOf v)) p1c 1) (Zaz ag)/\∀(ah:Nat),Mem.free m' ah->(Tok.mk (slice ak al am) 1=Tok.mk (slice ae ab c) 1\/slice ae ab c=slice none 0 0\/c < ab+1)/\∃(xs:List Value),∃(ys:
 List Value),List.length xs=ab*1/\List.length ys=1*1/\rowRd (Mem.add m' ah [string ag]) ae xs/\rowRd (Mem.add m' ah [string ag]) (some (Addr.mk ah 0 none)) ys/\(∀(u:Value),u∈ys->Value.oneCell' u =
 true)/\(ab+1)*16<=140737488355328/\ab+1<=9223372036854775807/\∀(a':Option Addr)(c':Nat)(aj:Mem),Mem.le (Mem.add m' ah [string ag]) aj->rowRd aj a' (List.append xs ys)->[some (Box.mk ad [string bs]
 9 1 true true),some (Box.mk b [int u8 aE,int u64 aJ,int u64 aH,int u64 aI,int u64 aK,int i64 aD,int i64 aG,slice aB aA aC] 29 8 true true)]=[some (Box.mk ad [string bs] 9 1 true true),
 some (Box.mk b [int u8 aE,int u64 aJ,int u64 aH,int u64 aI,int u64 aK,int i64 aD,int i64 aG,slice aB aA aC] 29 8 true true)]/\∃(n':Nat),n' < an/\I [slice a' (ab+1) c',int i64
 (IntKind.wrap i64 (af+(1:Int)))] [] [slice a' (ab+1) c'] aj n')))) (∃(m'':Mem),Mem.le m m''/\Mem.le m'' m'/\R (tuple (Array.mk [slice ae ab c,int i64 0])) m'' []))
theorem Zgh(aE aJ aH aI aK aD aG:Int)(aB:Option Addr)(aA aC:Nat)(p1a:Option Addr)(p1n p1c:Nat)(m:Mem)(R:RT)(h:ZdR aE aJ aH aI aK aD aG aB aA aC p1a p1n p1c m R):CX Try.prog 16 #[.agg #[.int .u8 aE,.int .u64 aJ,.int .u64 aH,.int .u64 aI,.int .u64 aK,.int .i64 aD,.int .i64 aG,.slice aB aA aC],.slice p1a p1n p1c] m [] R:=
 Zak (E:=ZgW) ZaR mix Try.func16 [.v (.agg #[.int .u8 aE,.int .u64 aJ,.int .u64 aH,.int .u64 aI,.int .u64 aK,.int .i64 aD,.int .i64 aG,.slice aB aA aC]),.v (.slice p1a p1n p1c)] [] (by kernel_rfl) (Eq.mp (by kernel_rfl) h)
end Go.Proofs.Ytgclajkldphoaaa
