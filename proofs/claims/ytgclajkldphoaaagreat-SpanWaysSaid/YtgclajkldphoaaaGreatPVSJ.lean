/- Part of the proof: conditions and contracts of functions of this program. No condition of its own. -/
import Derived.Test.YtgclajkldphoaaaGreatPEnv
set_option linter.unusedVariables false
set_option linter.unusedSimpArgs false
set_option linter.unusedSectionVars false
namespace Go.Proofs.YtgclajkldphoaaaGreat
open Go Go.Eng Go.Proofs Go.RowKit
open Go.Value (int slice agg bool string tuple func)
open Go.IntKind (u8 u64 i64)
set_option maxRecDepth 100000
noncomputable def ZlF:Env:={ EB with
 loops:=(λi=>bif Nat.beq i 5 then⟨[(108,.int .i64)],[],[],false⟩ else⟨[],[],[],false⟩)
 joins:=(λi=>bif Nat.beq i 8 then some [(129,.bool)]else none)
 dr:=(λi=>bif Nat.beq i 2 then[⟨0,[1],[],none,[],[]⟩,⟨1,[2],[],none,[],[]⟩,⟨2,[24],[24],none,[0,1],[]⟩,⟨3,[24],[24],none,[0,1,2],[2]⟩,⟨4,[2],[],none,[],[]⟩,⟨5,[3],[],none,[],[]⟩,⟨6,[28],[28],none,[4,5],[]⟩,⟨7,[28],[28],none,[0,1,2,3,4,5,6],[3,6]⟩,⟨8,[4],[4],none,[],[]⟩,⟨9,[5],[5],none,[],[]⟩,⟨10,[4],[4],none,[0,1,2,3,4,5,6,7,8,9],[]⟩,⟨11,[5],[5],none,[0,1,2,3,4,5,6,7,8,9,10],[]⟩]else bif Nat.beq i 4 then[⟨0,[1],[],none,[],[]⟩,⟨1,[4],[],none,[],[]⟩,⟨2,[34],[34],none,[0,1],[]⟩,⟨3,[34],[34],none,[0,1,2],[2]⟩,⟨4,[],[],none,[0,1,2,3],[3]⟩,⟨5,[3],[],none,[],[]⟩,⟨6,[5],[],none,[],[]⟩,⟨7,[39],[39],none,[5,6],[]⟩,⟨8,[39],[39],none,[0,1,2,3,4,5,6,7],[4,7]⟩,⟨9,[],[],none,[0,1,2,3,4,5,6,7,8],[8]⟩,⟨10,[42],[42],none,[0,1,2,3,4,5,6,7,8,9],[9]⟩,⟨11,[42],[42],none,[0,1,2,3,4,5,6,7,8,9,10],[10]⟩,⟨12,[],[],none,[],[]⟩,⟨13,[],[],none,[],[]⟩,⟨14,[46],[46],none,[12,13],[]⟩,⟨15,[46],[],none,rg 0 15,[]⟩,⟨16,[4],[],none,[],[]⟩,⟨17,[1],[],none,[],[]⟩,⟨18,[50],[50],none,[16,17],[]⟩,⟨19,[50],[50],none,rg 0 12++[16,17,18],[11,18]⟩,⟨20,[],[],none,rg 0 12++rg 16 4,[19]⟩,⟨21,[5],[],none,[],[]⟩,⟨22,[3],[],none,[],[]⟩,⟨23,[55],[55],none,[21,22],[]⟩,⟨24,[55],[55],none,rg 0 12++rg 16 8,[20,23]⟩,⟨25,[],[],none,rg 0 12++rg 16 9,[24]⟩,⟨26,[58],[58],none,rg 0 12++rg 16 10,[25]⟩,⟨27,[58],[58],none,rg 0 12++rg 16 11,[26]⟩,⟨28,[],[],none,[],[]⟩,⟨29,[],[],none,[],[]⟩,⟨30,[62],[62],none,[28,29],[]⟩,⟨31,[62],[],none,rg 0 12++rg 16 15,[]⟩,⟨32,[6],[],none,[],[]⟩,⟨33,[],[],none,rg 0 12++rg 16 12++[32],[27]⟩,⟨34,[6],[],none,[],[]⟩,⟨35,[],[],none,rg 0 12++rg 16 12++[32,33,34],[33]⟩,⟨36,[68],[68],none,rg 0 12++rg 16 12++rg 32 4,[35]⟩,⟨37,[68],[68],none,rg 0 12++rg 16 12++rg 32 5,[36]⟩,⟨38,[],[],none,[],[]⟩,⟨39,[],[],none,[],[]⟩,⟨40,[72],[72],none,[38,39],[]⟩,⟨41,[72],[],none,rg 0 12++rg 16 12++rg 32 9,[]⟩,⟨42,[1],[],none,[],[]⟩,⟨43,[2],[],none,[],[]⟩,⟨44,[76],[76],none,[42,43],[]⟩,⟨45,[76],[76],none,rg 0 12++rg 16 12++rg 32 6++[42,43,44],[37,44]⟩,⟨46,[],[],none,rg 0 12++rg 16 12++rg 32 6++rg 42 4,[45]⟩,⟨47,[],[],none,rg 0 12++rg 16 12++rg 32 6++rg 42 5,[46]⟩,⟨48,[],[],none,[],[]⟩,⟨49,[81],[81],none,[48],[]⟩,⟨50,[81],[],none,rg 0 12++rg 16 12++rg 32 6++rg 42 8,[]⟩,⟨51,[6],[],none,[],[]⟩,⟨52,[],[],none,rg 0 12++rg 16 12++rg 32 6++rg 42 6++[51],[47]⟩,⟨53,[],[],none,rg 0 12++rg 16 12++rg 32 6++rg 42 6++[51,52],[52]⟩,⟨54,[],[],none,[],[]⟩,⟨55,[87],[87],none,[54],[]⟩,⟨56,[87],[],none,rg 0 12++rg 16 12++rg 32 6++rg 42 6++rg 51 5,[]⟩,⟨57,[6],[],none,[],[]⟩,⟨58,[],[],none,rg 0 12++rg 16 12++rg 32 6++rg 42 6++[51,52,53,57],[53]⟩,⟨59,[],[],none,rg 0 12++rg 16 12++rg 32 6++rg 42 6++[51,52,53,57,58],[58]⟩,⟨60,[],[],none,[],[]⟩,⟨61,[93],[93],none,[60],[]⟩,⟨62,[93],[],none,rg 0 12++rg 16 12++rg 32 6++rg 42 6++[51,52,53]++rg 57 5,[]⟩,⟨63,[1],[],none,[],[]⟩,⟨64,[],[],none,rg 0 12++rg 16 12++rg 32 6++rg 42 6++[51,52,53,57,58,59,63],[59]⟩,⟨65,[2],[],none,[],[]⟩,⟨66,[98],[98],none,rg 0 12++rg 16 12++rg 32 6++rg 42 6++[51,52,53,57,58,59,63,64,65],[64]⟩,⟨67,[98],[98],none,rg 0 12++rg 16 12++rg 32 6++rg 42 6++[51,52,53,57,58,59]++rg 63 4,[66]⟩,⟨68,[],[],none,rg 0 12++rg 16 12++rg 32 6++rg 42 6++[51,52,53,57,58,59]++rg 63 5,[67]⟩,⟨69,[],[],none,rg 0 12++rg 16 12++rg 32 6++rg 42 6++[51,52,53,57,58,59]++rg 63 6,[68]⟩,⟨70,[],[],none,[],[]⟩,⟨71,[],[],none,[],[]⟩,⟨72,[104],[104],none,[70,71],[]⟩,⟨73,[104],[],none,rg 0 12++rg 16 12++rg 32 6++rg 42 6++[51,52,53,57,58,59]++rg 63 10,[]⟩,⟨74,[106],[106],none,rg 0 74,[14,30,40,49,55,61,69,72]⟩,⟨75,[106],[],none,rg 0 75,[]⟩,⟨76,[],[],none,[],[]⟩]else bif Nat.beq i 13 then[⟨0,[1],[],none,[],[]⟩,⟨1,[1],[],none,[],[]⟩,⟨2,[153],[153],none,[0,1],[]⟩,⟨3,[153],[153],none,[0,1,2],[2]⟩,⟨4,[1],[],none,[],[]⟩,⟨5,[156],[156],none,[0,1,2,3,4],[3]⟩,⟨6,[156],[156],none,[0,1,2,3,4,5],[5]⟩,⟨7,[],[],none,[0,1,2,3,4,5,6],[6]⟩,⟨8,[159],[159],none,[],[]⟩,⟨9,[159],[],none,[8],[]⟩,⟨10,[159],[159],none,[0,1,2,3,4,5,6,7,8,9],[7,8]⟩,⟨11,[],[],none,[0,1,2,3,4,5,6,7,8,9,10],[]⟩,⟨12,[],[],none,rg 0 12,[]⟩,⟨13,[],[],none,rg 0 12,[]⟩,⟨14,[],[],none,rg 0 13,[]⟩,⟨15,[],[],none,rg 0 15,[]⟩]else bif Nat.beq i 14 then[⟨0,[1],[],none,[],[]⟩,⟨1,[4],[],none,[],[]⟩,⟨2,[167],[167],none,[0,1],[]⟩,⟨3,[167],[167],none,[0,1,2],[2]⟩,⟨4,[],[],none,[0,1,2,3],[3]⟩,⟨5,[3],[],none,[],[]⟩,⟨6,[5],[],none,[],[]⟩,⟨7,[172],[172],none,[5,6],[]⟩,⟨8,[172],[172],none,[0,1,2,3,4,5,6,7],[4,7]⟩,⟨9,[],[],none,[0,1,2,3,4,5,6,7,8],[8]⟩,⟨10,[175],[175],none,[0,1,2,3,4,5,6,7,8,9],[9]⟩,⟨11,[175],[175],none,[0,1,2,3,4,5,6,7,8,9,10],[10]⟩,⟨12,[177],[177],none,[],[]⟩,⟨13,[177],[],none,[12],[]⟩,⟨14,[177],[177],none,rg 0 14,[11,12]⟩,⟨15,[],[],none,rg 0 15,[]⟩,⟨16,[],[],none,rg 0 16,[]⟩,⟨17,[],[],none,rg 0 16,[]⟩,⟨18,[],[],none,rg 0 17,[]⟩,⟨19,[],[],none,rg 0 19,[]⟩]else[])
 gb:=true }
abbrev Zad:Int->Int->Int->Int->Int->Int->Int->Option Addr->Nat->Nat->Int->Int->Int->Int->Int->Int->Int->Option Addr->Nat->Nat->List Value:=λ(n aa ab ac ad ae af:Int) (a:Option
 Addr) (ag c:Nat) (ah ai aj ak al am an:Int) (bb:Option Addr) (ao ap:Nat)=>[int u8 n,int u64 aa,int u64 ab,int u64 ac,int u64 ad,int i64 ae,int i64 af,slice a ag c,int u8 ah,int u64 ai,int u64 aj,int
 u64 ak,int u64 al,int i64 am,int i64 an,slice bb ao ap]
abbrev Zaw:Int->Int->Int->Int->Int->Int->Int->Option Addr->Nat->Nat->Int->Int->Int->Int->Int->Int->Int->Option Addr->Nat->Nat->List Value:=λ(n aa ab ac ad ae af:Int) (a:Option
 Addr) (ag c:Nat) (ah ai aj ak al am an:Int) (bb:Option Addr) (ao ap:Nat)=>[int u8 ah,int u64 ai,int u64 aj,int u64 ak,int u64 al,int i64 am,int i64 an,slice bb ao ap,int u8 n,int u64 aa,int u64 ab,
 int u64 ac,int u64 ad,int i64 ae,int i64 af,slice a ag c]
abbrev ZaZ(n aa ab ac ad ae af:Int)(a:Option Addr)(ag c b:Nat)(ah ai aj ak al am an:Int)(bb:Option Addr)(ao ap ez:Nat)(ar au av aw ax ay az:Int)(bx:Option Addr)(a0 a1 e0:Nat)(a2 a3
 a4 a5 a6 a7 a8:Int) (aq:Option Addr) (a9 ba bw:Nat) (bc bd be bf bg bh bi:Int) (ci:Option Addr) (bj bk ca:Nat) (bl bm bn bo bp bq bs:Int) (hh:Option Addr) (bt bu dt:Nat) (dw dx dy dz d0 d1 d2:Int)
 (bv:Option Addr) (d3 d4 du:Nat):List Value:=[int u8 n,int u64 aa,int u64 ab,int u64 ac,int u64 ad,int i64 ae,int i64 af,slice a ag c,string (ByteArray.mk (Array.mk [(97:UInt8),(98:UInt8),(99:
 UInt8)])),slice (some (Addr.mk b 0 none)) 2 2,int u8 ah,int u64 ai,int u64 aj,int u64 ak,int u64 al,int i64 am,int i64 an,slice bb ao ap,string (ByteArray.mk (Array.mk [(97:UInt8),(98:UInt8),(99:
 UInt8)])),slice (some (Addr.mk ez 0 none)) 2 2,int u8 ar,int u64 au,int u64 av,int u64 aw,int u64 ax,int i64 ay,int i64 az,slice bx a0 a1,string (ByteArray.mk (Array.mk [(97:UInt8),(97:UInt8)])),slice
 (some (Addr.mk e0 0 none)) 2 2,int u8 a2,int u64 a3,int u64 a4,int u64 a5,int u64 a6,int i64 a7,int i64 a8,slice aq a9 ba,string (ByteArray.mk (Array.mk [(97:UInt8),(98:UInt8)])),slice (some (Addr.mk bw 0
 none)) 1 1,int u8 bc,int u64 bd,int u64 be,int u64 bf,int u64 bg,int i64 bh,int i64 bi,slice ci bj bk,string (ByteArray.mk (Array.mk [])),slice (some (Addr.mk ca 0 none)) 1 1,int u8 bl,int u64 bm,int u64
 bn,int u64 bo,int u64 bp,int i64 bq,int i64 bs,slice hh bt bu,string (ByteArray.mk (Array.mk [])),slice (some (Addr.mk dt 0 none)) 1 1,int u8 dw,int u64 dx,int u64 dy,int u64 dz,int u64 d0,int i64 d1,int
 i64 d2,slice bv d3 d4,string (ByteArray.mk (Array.mk [(97:UInt8),(98:UInt8)])),slice (some (Addr.mk du 0 none)) 2 2]
abbrev ZjH:Int->Int->Int->Int->Int->Int->Int->Option Addr->Nat->Nat->Nat->Int->Int->Int->Int->Int->Int->Int->Option Addr->Nat->Nat->Nat->Int->Int->Int->Int->Int->Int->Int->
 Option Addr->Nat->Nat->Nat->Int->Int->Int->Int->Int->Int->Int->Option Addr->Nat->Nat->Nat->Int->Int->Int->Int->Int->Int->Int->Option Addr->Nat->Nat->Nat->Int->Int->Int->Int->Int->Int->Int
 -> Option Addr->Nat->Nat->Nat->Int->Int->Int->Int->Int->Int->Int->Option Addr->Nat->Nat->Nat->Int->Nat->Option Box:=λ(n aa ab ac ad ae af:Int)(a:Option Addr)(ag c b:Nat) (ah ai aj ak al am
 an:Int) (bb:Option Addr) (ao ap ez:Nat) (ar au av aw ax ay az:Int) (bx:Option Addr) (a0 a1 e0:Nat) (a2 a3 a4 a5 a6 a7 a8:Int) (aq:Option Addr) (a9 ba bw:Nat) (bc bd be bf bg bh bi:Int) (ci:Option
 Addr) (bj bk ca:Nat) (bl bm bn bo bp bq bs:Int) (hh:Option Addr) (bt bu dt:Nat) (dw dx dy dz d0 d1 d2:Int) (bv:Option Addr) (d3 d4 du:Nat) (dc:Int) (fv:Nat)=>some (Box.mk fv (List.take 10 (List.drop
 (Int.toNat dc*10) (ZaZ n aa ab ac ad ae af a ag c b ah ai aj ak al am an bb ao ap ez ar au av aw ax ay az bx a0 a1 e0 a2 a3 a4 a5 a6 a7 a8 aq a9 ba bw bc bd be bf bg bh bi ci bj bk ca bl bm bn bo bp bq bs
 hh bt bu dt dw dx dy dz d0 d1 d2 bv d3 d4 du))) 56 10 false true)
abbrev Zai:Int->Int->Int->Int->Int->Int->Int->Option Addr->Nat->Nat->Int->Int->Int->Int->Int->Int->Int->Option Addr->Nat->Nat->Nat->Option Box:=λ(n aa ab ac ad ae af:Int) (a:
 Option Addr) (ag c:Nat) (ah ai aj ak al am an:Int) (bb:Option Addr) (ao ap b:Nat)=>some (Box.mk b (Zad n aa ab ac ad ae af a ag c ah ai aj ak al am an bb ao ap) 30 16 true true)
abbrev ZgC:Nat->Option Box:=λ(b:Nat)=>some (Box.mk b [int i64 0,int i64 1,int i64 1,int i64 3] 51 4 true true)
abbrev ZaK:Int->Int->Int->Int->Int->Int->Int->Option Addr->Nat->Nat->Int->Int->Int->Int->Int->Int->Int->Option Addr->Nat->Nat->Nat->Option Box:=λ(n aa ab ac ad ae af:Int) (a:
 Option Addr) (ag c:Nat) (ah ai aj ak al am an:Int) (bb:Option Addr) (ao ap b:Nat)=>some (Box.mk b (Zaw n aa ab ac ad ae af a ag c ah ai aj ak al am an bb ao ap) 30 16 true true)
abbrev ZgD:Nat->Option Box:=λ(b:Nat)=>some (Box.mk b [int i64 0,int i64 2,int i64 2,int i64 3] 51 4 true true)
abbrev ZgE:Nat->Option Box:=λ(b:Nat)=>some (Box.mk b [int i64 0,int i64 2,int i64 2,int i64 2] 51 4 true true)
abbrev ZgF:Nat->Option Box:=λ(b:Nat)=>some (Box.mk b [int i64 1,int i64 2,int i64 0,int i64 1] 51 4 true true)
abbrev ZfY:Int->Int->Int->Int->Int->Int->Int->Option Addr->Nat->Nat->Nat->Int->Int->Int->Int->Int->Int->Int->Option Addr->Nat->Nat->Nat->Int->Int->Int->Int->Int->Int->Int->
 Option Addr->Nat->Nat->Nat->Int->Int->Int->Int->Int->Int->Int->Option Addr->Nat->Nat->Nat->Int->Int->Int->Int->Int->Int->Int->Option Addr->Nat->Nat->Nat->Int->Int->Int->Int->Int->Int->Int
 -> Option Addr->Nat->Nat->Nat->Int->Int->Int->Int->Int->Int->Int->Option Addr->Nat->Nat->Nat->Nat->Option Box:=λ(n aa ab ac ad ae af:Int)(a:Option Addr)(ag c b:Nat) (ah ai aj ak al am an:
 Int) (bb:Option Addr) (ao ap ez:Nat) (ar au av aw ax ay az:Int) (bx:Option Addr) (a0 a1 e0:Nat) (a2 a3 a4 a5 a6 a7 a8:Int) (aq:Option Addr) (a9 ba bw:Nat) (bc bd be bf bg bh bi:Int) (ci:Option Addr)
 (bj bk ca:Nat) (bl bm bn bo bp bq bs:Int) (hh:Option Addr) (bt bu dt:Nat) (dw dx dy dz d0 d1 d2:Int) (bv:Option Addr) (d3 d4 du fv:Nat)=>some (Box.mk fv (ZaZ n aa ab ac ad ae af a ag c b ah ai
 aj ak al am an bb ao ap ez ar au av aw ax ay az bx a0 a1 e0 a2 a3 a4 a5 a6 a7 a8 aq a9 ba bw bc bd be bf bg bh bi ci bj bk ca bl bm bn bo bp bq bs hh bt bu dt dw dx dy dz d0 d1 d2 bv d3 d4 du) 56 70 true true)
abbrev Zap:Int->Int->Int->Int->Int->Int->Int->Option Addr->Nat->Nat->Nat->Option Box:=λ(n aa ab ac ad ae af:Int)(a:Option Addr)(ag c b:Nat)=>some (Box.mk b [int u8 n,int u64 aa,
 int u64 ab,int u64 ac,int u64 ad,int i64 ae,int i64 af,slice a ag c] 30 8 false true)
abbrev ZfZ(n aa ab ac ad ae af:Int)(a:Option Addr)(ag c:Nat)(ah ai aj ak al am an:Int)(bb:Option Addr)(ao ap:Nat)(ar au av aw ax ay az:Int)(bx:Option Addr)(a0 a1 b ez e0 bw:Nat)
 (a2 a3 a4 a5 a6 a7 a8:Int) (aq:Option Addr) (a9 ba ca:Nat) (bc bd be bf bg bh bi:Int) (ci:Option Addr) (bj bk dt du:Nat) (bl bm bn bo bp bq bs:Int) (hh:Option Addr) (bt bu fv db:Nat) (dw dx dy dz d0 d1
 d2:Int) (bv:Option Addr) (d3 d4 ed:Nat) (dc d5 d6 d7 d8 d9 ea:Int) (kh:Option Addr) (eb ec dd:Nat) (hj hk hl hm hn ho hp:Int) (kw:Option Addr) (hq hr cb en:Nat) (ee ef eg eh ei ej ek:Int) (ki:
 Option Addr) (el em ex:Nat) (cj ck cl cm cn co cp:Int) (bz:Option Addr) (cq cr de:Nat) (hu hv hw hx hy hz h0:Int) (kx:Option Addr) (h1 h2 cc:Nat) (eo ep eq er es et eu:Int) (kj:Option Addr) (ev ew:
 Nat) (g6 g7 g8 g9 ha hb hc:Int) (kk:Option Addr) (hd he dp:Nat) (e1 e2 e3 e4 e5 e6 e7:Int) (ky:Option Addr) (e8 e9 cd ey:Nat) (df dg dh di dj dk dl:Int) (kz:Option Addr) (dm dn ce:Nat) (fa fb fc fd fe
 ff fg:Int) (k0:Option Addr) (fh fi cf:Nat) (fj fk fl fm fn fo fp:Int) (ds:Option Addr) (fq fr cg:Nat) (cs ct cu cv cw cx cy:Int) (kl:Option Addr) (cz da dq:Nat) (h9 ia ib ic ie ig ih:Int) (k1:
 Option Addr) (ii ij ch hf:Nat) (jf:Int) (ft:Nat):List (Option Box):=[ZjH hj hk hl hm hn ho hp kw hq hr cb hu hv hw hx hy hz h0 kx h1 h2 cc e1 e2 e3 e4 e5 e6 e7 ky e8 e9 cd df dg dh di dj dk dl kz dm
 dn ce fa fb fc fd fe ff fg k0 fh fi cf fj fk fl fm fn fo fp ds fq fr cg h9 ia ib ic ie ig ih k1 ii ij ch jf ft,Zai n aa ab ac ad ae af a ag c a2 a3 a4 a5 a6 a7 a8 aq a9 ba db,Zai n aa ab ac ad ae
 af a ag c a2 a3 a4 a5 a6 a7 a8 aq a9 ba db,Zai ar au av aw ax ay az bx a0 a1 bc bd be bf bg bh bi ci bj bk ed,Zai ar au av aw ax ay az bx a0 a1 bc bd be bf bg bh bi ci bj bk ed,Zai dw
 dx dy dz d0 d1 d2 bv d3 d4 dc d5 d6 d7 d8 d9 ea kh eb ec dd,Zai dw dx dy dz d0 d1 d2 bv d3 d4 dc d5 d6 d7 d8 d9 ea kh eb ec dd,ZgC cb,ZaK n aa ab ac ad ae af a ag c a2 a3 a4 a5 a6 a7
 a8 aq a9 ba en,ZaK n aa ab ac ad ae af a ag c a2 a3 a4 a5 a6 a7 a8 aq a9 ba en,ZaK ar au av aw ax ay az bx a0 a1 bc bd be bf bg bh bi ci bj bk ex,ZaK ar au av aw ax ay az bx a0 a1 bc
 bd be bf bg bh bi ci bj bk ex,Zai ee ef eg eh ei ej ek ki el em cj ck cl cm cn co cp bz cq cr de,Zai ee ef eg eh ei ej ek ki el em cj ck cl cm cn co cp bz cq cr de,ZgD cc,
 Zai eo ep eq er es et eu kj ev ew g6 g7 g8 g9 ha hb hc kk hd he dp,Zai eo ep eq er es et eu kj ev ew g6 g7 g8 g9 ha hb hc kk hd he dp,ZgE cd,Zai n aa ab ac ad ae af a ag c
 ah ai aj ak al am an bb ao ap ey,Zai n aa ab ac ad ae af a ag c ah ai aj ak al am an bb ao ap ey,some (Box.mk ce [int i64 1,int i64 2] 51 2 true true),some (Box.mk cf [int i64 (-1:Int),int i64 (-1:
 Int)] 51 2 true true),some (Box.mk cg [int i64 0,int i64 0] 51 2 true true),ZaK ah ai aj ak al am an bb ao ap cs ct cu cv cw cx cy kl cz da dq,ZaK ah ai aj ak al am an bb ao ap cs ct cu cv cw
 cx cy kl cz da dq,ZgF ch,ZfY hj hk hl hm hn ho hp kw hq hr cb hu hv hw hx hy hz h0 kx h1 h2 cc e1 e2 e3 e4 e5 e6 e7 ky e8 e9 cd df dg dh di dj dk dl kz dm dn ce fa fb fc fd fe ff fg k0 fh fi cf
 fj fk fl fm fn fo fp ds fq fr cg h9 ia ib ic ie ig ih k1 ii ij ch hf,Zap bl bm bn bo bp bq bs hh bt bu fv,Zai n aa ab ac ad ae af a ag c ah ai aj ak al am an bb ao ap bw,Zai n aa ab
 ac ad ae af a ag c ah ai aj ak al am an bb ao ap bw,Zai ah ai aj ak al am an bb ao ap ar au av aw ax ay az bx a0 a1 ca,Zai ah ai aj ak al am an bb ao ap ar au av aw ax ay az bx a0 a1 ca,
 Zap a2 a3 a4 a5 a6 a7 a8 aq a9 ba dt,Zap bc bd be bf bg bh bi ci bj bk du,Zap a2 a3 a4 a5 a6 a7 a8 aq a9 ba dt,Zap bc bd be bf bg bh bi ci bj bk du,Zap ar
 au av aw ax ay az bx a0 a1 e0,Zap ah ai aj ak al am an bb ao ap ez,Zap n aa ab ac ad ae af a ag c b]
abbrev ZiL(n aa ab ac ad ae af:Int)(a:Option Addr)(ag c:Nat)(ah ai aj ak al am an:Int)(bb:Option Addr)(ao ap:Nat)(ar au av aw ax ay az:Int)(bx:Option Addr)(a0 a1 b ez e0 bw:Nat)
 (a2 a3 a4 a5 a6 a7 a8:Int) (aq:Option Addr) (a9 ba ca:Nat) (bc bd be bf bg bh bi:Int) (ci:Option Addr) (bj bk dt du:Nat) (bl bm bn bo bp bq bs:Int) (hh:Option Addr) (bt bu fv db:Nat) (dw dx dy dz d0 d1
 d2:Int) (bv:Option Addr) (d3 d4 ed:Nat) (dc d5 d6 d7 d8 d9 ea:Int) (kh:Option Addr) (eb ec dd:Nat) (hj hk hl hm hn ho hp:Int) (kw:Option Addr) (hq hr cb en:Nat) (ee ef eg eh ei ej ek:Int) (ki:
 Option Addr) (el em ex:Nat) (cj ck cl cm cn co cp:Int) (bz:Option Addr) (cq cr de:Nat) (hu hv hw hx hy hz h0:Int) (kx:Option Addr) (h1 h2 cc:Nat) (eo ep eq er es et eu:Int) (kj:Option Addr) (ev ew:
 Nat) (g6 g7 g8 g9 ha hb hc:Int) (kk:Option Addr) (hd he dp:Nat) (e1 e2 e3 e4 e5 e6 e7:Int) (ky:Option Addr) (e8 e9 cd ey:Nat) (df dg dh di dj dk dl:Int) (kz:Option Addr) (dm dn ce:Nat) (fa fb fc fd fe
 ff fg:Int) (k0:Option Addr) (fh fi cf:Nat) (fj fk fl fm fn fo fp:Int) (ds:Option Addr) (fq fr cg:Nat) (cs ct cu cv cw cx cy:Int) (kl:Option Addr) (cz da dq:Nat) (h9 ia ib ic ie ig ih:Int) (k1:
 Option Addr) (ii ij ch hf:Nat):List (Option Box):=[Zai n aa ab ac ad ae af a ag c a2 a3 a4 a5 a6 a7 a8 aq a9 ba db,Zai n aa ab ac ad ae af a ag c a2 a3 a4 a5 a6 a7 a8 aq a9 ba db,
 Zai ar au av aw ax ay az bx a0 a1 bc bd be bf bg bh bi ci bj bk ed,Zai ar au av aw ax ay az bx a0 a1 bc bd be bf bg bh bi ci bj bk ed,Zai dw dx dy dz d0 d1 d2 bv d3 d4 dc d5 d6 d7 d8
 d9 ea kh eb ec dd,Zai dw dx dy dz d0 d1 d2 bv d3 d4 dc d5 d6 d7 d8 d9 ea kh eb ec dd,ZgC cb,ZaK n aa ab ac ad ae af a ag c a2 a3 a4 a5 a6 a7 a8 aq a9 ba en,ZaK n aa ab ac
 ad ae af a ag c a2 a3 a4 a5 a6 a7 a8 aq a9 ba en,ZaK ar au av aw ax ay az bx a0 a1 bc bd be bf bg bh bi ci bj bk ex,ZaK ar au av aw ax ay az bx a0 a1 bc bd be bf bg bh bi ci bj bk ex,
 Zai ee ef eg eh ei ej ek ki el em cj ck cl cm cn co cp bz cq cr de,Zai ee ef eg eh ei ej ek ki el em cj ck cl cm cn co cp bz cq cr de,ZgD cc,Zai eo ep eq er es et eu kj ev
 ew g6 g7 g8 g9 ha hb hc kk hd he dp,Zai eo ep eq er es et eu kj ev ew g6 g7 g8 g9 ha hb hc kk hd he dp,ZgE cd,Zai n aa ab ac ad ae af a ag c ah ai aj ak al am an bb ao ap ey,
 Zai n aa ab ac ad ae af a ag c ah ai aj ak al am an bb ao ap ey,some (Box.mk ce [int i64 1,int i64 2] 51 2 true true),some (Box.mk cf [int i64 (-1:Int),int i64 (-1:Int)] 51 2 true true),some (Box.mk
 cg [int i64 0,int i64 0] 51 2 true true),ZaK ah ai aj ak al am an bb ao ap cs ct cu cv cw cx cy kl cz da dq,ZaK ah ai aj ak al am an bb ao ap cs ct cu cv cw cx cy kl cz da dq,ZgF ch,
 ZfY hj hk hl hm hn ho hp kw hq hr cb hu hv hw hx hy hz h0 kx h1 h2 cc e1 e2 e3 e4 e5 e6 e7 ky e8 e9 cd df dg dh di dj dk dl kz dm dn ce fa fb fc fd fe ff fg k0 fh fi cf fj fk fl fm fn fo fp ds fq fr cg h9 ia
 ib ic ie ig ih k1 ii ij ch hf,Zap bl bm bn bo bp bq bs hh bt bu fv,Zai n aa ab ac ad ae af a ag c ah ai aj ak al am an bb ao ap bw,Zai n aa ab ac ad ae af a ag c ah ai aj ak al am an
 bb ao ap bw,Zai ah ai aj ak al am an bb ao ap ar au av aw ax ay az bx a0 a1 ca,Zai ah ai aj ak al am an bb ao ap ar au av aw ax ay az bx a0 a1 ca,Zap a2 a3 a4 a5 a6 a7 a8 aq a9 ba
 dt,Zap bc bd be bf bg bh bi ci bj bk du,Zap a2 a3 a4 a5 a6 a7 a8 aq a9 ba dt,Zap bc bd be bf bg bh bi ci bj bk du,Zap ar au av aw ax ay az bx a0 a1 e0,Zap
 ah ai aj ak al am an bb ao ap ez,Zap n aa ab ac ad ae af a ag c b]
abbrev ZcL:Int->Int->Int->Int->Int->Int->Int->Option Addr->Nat->Nat->List Value:=λ(n aa ab ac ad ae af:Int)(a:Option Addr)(ag c:Nat)=>[int u8 n,int u64 aa,int u64 ab,int u64 ac,
 int u64 ad,int i64 ae,int i64 af,slice a ag c,int u8 n,int u64 aa,int u64 ab,int u64 ac,int u64 ad,int i64 ae,int i64 af,slice a ag c]
def ZgG  (m:Mem)(R:RT):Prop:=
 ∃(R_1:RT),True/\CX Tryz.prog 18 (Array.mk [int u8 97]) m [] R_1/\Zaz (shT) R_1/\∀(n aa ab ac ad ae af:Int)(a:Option Addr)(ag c:Nat)(m':Mem),Mem.le m m'->R_1 (agg (Array.mk [int u8 n,int u64 aa,
 int u64 ab,int u64 ac,int u64 ad,int i64 ae,int i64 af,slice a ag c])) m' []->∃(R_2:RT),True/\CX Tryz.prog 18 (Array.mk [int u8 98]) m' [] R_2/\Zaz (shT) R_2/\∀(ah ai aj ak al am an:Int) (aq:Option
 Addr) (ao ap:Nat) (km:Mem),Mem.le m' km->R_2 (agg (Array.mk [int u8 ah,int u64 ai,int u64 aj,int u64 ak,int u64 al,int i64 am,int i64 an,slice aq ao ap])) km []->∃(R_3:RT),True/\CX Tryz.prog 18
 (Array.mk [int u8 99]) km [] R_3/\Zaz (shT) R_3/\∀(ar au av aw ax ay az:Int)(bv:Option Addr)(a0 a1:Nat)(m':Mem),Mem.le km m'->R_3 (agg (Array.mk [int u8 ar,int u64 au,int u64 av,int u64 aw,int u64
 ax,int i64 ay,int i64 az,slice bv a0 a1])) m' []->∀(b ez e0:Nat),∃(f:Fx),∀(bw:Nat),Mem.free m' bw->∃(R_4:RT),R_4=f 3 [slice (some (Addr.mk bw 0 none)) 2 2] (Mem.add m' bw (Zad n aa ab
 ac ad ae af a ag c ah ai aj ak al am an aq ao ap))/\CX Tryz.prog 19 (Array.mk [slice (some (Addr.mk bw 0 none)) 2 2]) (Mem.add m' bw (Zad n aa ab ac ad ae af a ag c ah ai aj ak al am an aq ao ap)) [] R_4/\
 Zaz (shT) R_4/\∀(a2 a3 a4 a5 a6 a7 a8:Int)(bz:Option Addr)(a9 ba:Nat)(kn:Mem),Mem.le (Mem.add m' bw (Zad n aa ab ac ad ae af a ag c ah ai aj ak al am an aq ao ap)) kn->R_4 (agg (Array.mk [int
 u8 a2,int u64 a3,int u64 a4,int u64 a5,int u64 a6,int i64 a7,int i64 a8,slice bz a9 ba])) kn []->∀(ca:Nat),Mem.free m' ca->∀(V:Mem),Mem.le m' V->Mem.le kn V->Mem.le (Mem.add m' ca (Zad ah
 ai aj ak al am an aq ao ap ar au av aw ax ay az bv a0 a1)) V->∃(R_5:RT),R_5=f 7 [slice (some (Addr.mk ca 0 none)) 2 2] V/\CX Tryz.prog 19 (Array.mk [slice (some (Addr.mk ca 0 none)) 2 2]) V [] R_5/\Zaz (shT)
 R_5/\∀(bc bd be bf bg bh bi:Int)(ds:Option Addr)(bj bk:Nat)(k2:Mem),Mem.le V k2->R_5 (agg (Array.mk [int u8 bc,int u64 bd,int u64 be,int u64 bf,int u64 bg,int i64 bh,int i64 bi,slice ds bj bk])) k2
 []->∀(dt du:Nat)(M:Mem),Mem.le m' M->Mem.le (Mem.add m' bw (Zad n aa ab ac ad ae af a ag c ah ai aj ak al am an aq ao ap)) M->Mem.le kn M->Mem.le (Mem.add m' ca (Zad ah ai aj ak al am an
 aq ao ap ar au av aw ax ay az bv a0 a1)) M->Mem.le k2 M->∃(R_6:RT),True/\CX Tryz.prog 20 (Array.mk [agg (Array.mk [int u8 n,int u64 aa,int u64 ab,int u64 ac,int u64 ad,int i64 ae,int i64 af,slice a ag c]),
 int i64 0,int i64 (-1:Int)]) M [] R_6/\Zaz (shT) R_6/\∀(bl bm bn bo bp bq bs:Int)(dv:Option Addr)(bt bu:Nat)(m':Mem),Mem.le M m'->R_6 (agg (Array.mk [int u8 bl,int u64 bm,int u64 bn,int u64 bo,
 int u64 bp,int i64 bq,int i64 bs,slice dv bt bu])) m' []->∀(fv:Nat),∃(f:Fx),∀(db:Nat),Mem.free m' db->∃(R_7:RT),R_7=f 3 [slice (some (Addr.mk db 0 none)) 2 2] (Mem.add m' db (Zad n aa
 ab ac ad ae af a ag c a2 a3 a4 a5 a6 a7 a8 bz a9 ba))/\CX Tryz.prog 22 (Array.mk [slice (some (Addr.mk db 0 none)) 2 2]) (Mem.add m' db (Zad n aa ab ac ad ae af a ag c a2 a3 a4 a5 a6 a7 a8 bz a9 ba)) [] R_7
 /\ Zaz (shT) R_7/\∀(dw dx dy dz d0 d1 d2:Int)(k3:Option Addr)(d3 d4:Nat)(iy:Mem),Mem.le (Mem.add m' db (Zad n aa ab ac ad ae af a ag c a2 a3 a4 a5 a6 a7 a8 bz a9 ba)) iy->R_7 (agg (Array.mk
 [int u8 dw,int u64 dx,int u64 dy,int u64 dz,int u64 d0,int i64 d1,int i64 d2,slice k3 d3 d4])) iy []->∃(R_8:RT),R_8=f 4 [agg (Array.mk [int u8 dw,int u64 dx,int u64 dy,int u64 dz,int u64 d0,int i64
 d1,int i64 d2,slice k3 d3 d4])] iy/\CX Tryz.prog 21 (Array.mk [agg (Array.mk [int u8 dw,int u64 dx,int u64 dy,int u64 dz,int u64 d0,int i64 d1,int i64 d2,slice k3 d3 d4])]) iy [] R_8/\Zaz (shT) R_8/\∀(dc
 d5 d6 d7 d8 d9 ea:Int) (hi:Option Addr) (eb ec:Nat) (ko:Mem),Mem.le iy ko->R_8 (agg (Array.mk [int u8 dc,int u64 d5,int u64 d6,int u64 d7,int u64 d8,int i64 d9,int i64 ea,slice hi eb ec])) ko []->∀(ed
 : Nat),Mem.free m' ed->∀(V:Mem),Mem.le m' V->Mem.le ko V->Mem.le (Mem.add m' ed (Zad ar au av aw ax ay az bv a0 a1 bc bd be bf bg bh bi ds bj bk)) V->∃(R_9:RT),R_9=f 8 [slice (some (Addr.mk ed
 0 none)) 2 2] V/\CX Tryz.prog 22 (Array.mk [slice (some (Addr.mk ed 0 none)) 2 2]) V [] R_9/\Zaz (shT) R_9/\∀(hj hk hl hm hn ho hp:Int)(k4:Option Addr)(hq hr:Nat)(iz:Mem),Mem.le V iz->R_9 (agg
 (Array.mk [int u8 hj,int u64 hk,int u64 hl,int u64 hm,int u64 hn,int i64 ho,int i64 hp,slice k4 hq hr])) iz []->∃(R_10:RT),R_10=f 9 [agg (Array.mk [int u8 hj,int u64 hk,int u64 hl,int u64 hm,int u64
 hn,int i64 ho,int i64 hp,slice k4 hq hr])] iz/\CX Tryz.prog 21 (Array.mk [agg (Array.mk [int u8 hj,int u64 hk,int u64 hl,int u64 hm,int u64 hn,int i64 ho,int i64 hp,slice k4 hq hr])]) iz [] R_10/\Zaz (shT)
 R_10/\∀(ee ef eg eh ei ej ek:Int)(hs:Option Addr)(el em:Nat)(ht:Mem),Mem.le iz ht->R_10 (agg (Array.mk [int u8 ee,int u64 ef,int u64 eg,int u64 eh,int u64 ei,int i64 ej,int i64 ek,slice hs el em]))
 ht []->∀(dd:Nat),Mem.free ht dd->∃(R_11:RT),R_11=f 11 [slice (some (Addr.mk dd 0 none)) 2 2] (Mem.add ht dd (Zad dc d5 d6 d7 d8 d9 ea hi eb ec ee ef eg eh ei ej ek hs el em))/\CX Tryz.prog 19
 (Array.mk [slice (some (Addr.mk dd 0 none)) 2 2]) (Mem.add ht dd (Zad dc d5 d6 d7 d8 d9 ea hi eb ec ee ef eg eh ei ej ek hs el em)) [] R_11/\Zaz (shT) R_11/\∀(cj ck cl cm cn co cp:Int) (fw:Option
 Addr) (cq cr:Nat) (kp:Mem),Mem.le (Mem.add ht dd (Zad dc d5 d6 d7 d8 d9 ea hi eb ec ee ef eg eh ei ej ek hs el em)) kp->R_11 (agg (Array.mk [int u8 cj,int u64 ck,int u64 cl,int u64 cm,int u64 cn,
 int i64 co,int i64 cp,slice fw cq cr])) kp []->∀(cb:Nat),Mem.free m' cb->∀(en:Nat),Mem.free m' en->∀(V:Mem),Mem.le m' V->Mem.le kp V->Mem.le (Mem.add m' en (Zaw n aa ab ac ad ae af a ag c
 a2 a3 a4 a5 a6 a7 a8 bz a9 ba)) V->∃(R_12:RT),R_12=f 19 [slice (some (Addr.mk en 0 none)) 2 2] V/\CX Tryz.prog 22 (Array.mk [slice (some (Addr.mk en 0 none)) 2 2]) V [] R_12/\Zaz (shT) R_12/\∀(hu hv hw hx hy
 hz h0:Int) (k5:Option Addr) (h1 h2:Nat) (i0:Mem),Mem.le V i0->R_12 (agg (Array.mk [int u8 hu,int u64 hv,int u64 hw,int u64 hx,int u64 hy,int i64 hz,int i64 h0,slice k5 h1 h2])) i0 []->∃(R_13:RT),
 R_13=f 20 [agg (Array.mk [int u8 hu,int u64 hv,int u64 hw,int u64 hx,int u64 hy,int i64 hz,int i64 h0,slice k5 h1 h2])] i0/\CX Tryz.prog 21 (Array.mk [agg (Array.mk [int u8 hu,int u64 hv,int u64 hw,int u64
 hx,int u64 hy,int i64 hz,int i64 h0,slice k5 h1 h2])]) i0 [] R_13/\Zaz (shT) R_13/\∀(eo ep eq er es et eu:Int)(h3:Option Addr)(ev ew:Nat)(kq:Mem),Mem.le i0 kq->R_13 (agg (Array.mk [int u8 eo,int
 u64 ep,int u64 eq,int u64 er,int u64 es,int i64 et,int i64 eu,slice h3 ev ew])) kq []->∀(ex:Nat),Mem.free m' ex->∀(V:Mem),Mem.le m' V->Mem.le kq V->Mem.le (Mem.add m' ex (Zaw ar au av aw ax
 ay az bv a0 a1 bc bd be bf bg bh bi ds bj bk)) V->∃(R_14:RT),R_14=f 24 [slice (some (Addr.mk ex 0 none)) 2 2] V/\CX Tryz.prog 22 (Array.mk [slice (some (Addr.mk ex 0 none)) 2 2]) V [] R_14/\Zaz (shT) R_14/\∀
 (g6 g7 g8 g9 ha hb hc:Int) (k6:Option Addr) (hd he:Nat) (i1:Mem),Mem.le V i1->R_14 (agg (Array.mk [int u8 g6,int u64 g7,int u64 g8,int u64 g9,int u64 ha,int i64 hb,int i64 hc,slice k6 hd he])) i1 []->∃
 (R_15:RT),R_15=f 25 [agg (Array.mk [int u8 g6,int u64 g7,int u64 g8,int u64 g9,int u64 ha,int i64 hb,int i64 hc,slice k6 hd he])] i1/\CX Tryz.prog 21 (Array.mk [agg (Array.mk [int u8 g6,int u64 g7,int u64
 g8,int u64 g9,int u64 ha,int i64 hb,int i64 hc,slice k6 hd he])]) i1 [] R_15/\Zaz (shT) R_15/\∀(e1 e2 e3 e4 e5 e6 e7:Int)(h4:Option Addr)(e8 e9:Nat)(h5:Mem),Mem.le i1 h5->R_15 (agg (Array.mk [int
 u8 e1,int u64 e2,int u64 e3,int u64 e4,int u64 e5,int i64 e6,int i64 e7,slice h4 e8 e9])) h5 []->∀(de:Nat),Mem.free h5 de->∃(R_16:RT),R_16=f 27 [slice (some (Addr.mk de 0 none)) 2 2] (Mem.add h5 de
 (Zad eo ep eq er es et eu h3 ev ew e1 e2 e3 e4 e5 e6 e7 h4 e8 e9))/\CX Tryz.prog 19 (Array.mk [slice (some (Addr.mk de 0 none)) 2 2]) (Mem.add h5 de (Zad eo ep eq er es et eu h3 ev ew e1 e2 e3 e4
 e5 e6 e7 h4 e8 e9)) [] R_16/\Zaz (shT) R_16/\∀(df dg dh di dj dk dl:Int)(fx:Option Addr)(dm dn:Nat)(i2:Mem),Mem.le (Mem.add h5 de (Zad eo ep eq er es et eu h3 ev ew e1 e2 e3 e4 e5 e6 e7 h4 e8
 e9)) i2->R_16 (agg (Array.mk [int u8 df,int u64 dg,int u64 dh,int u64 di,int u64 dj,int i64 dk,int i64 dl,slice fx dm dn])) i2 []->∀(cc:Nat),Mem.free m' cc->∃(R_17:RT),R_17=f 33 [agg (Array.mk [int
 u8 bl,int u64 bm,int u64 bn,int u64 bo,int u64 bp,int i64 bq,int i64 bs,slice dv bt bu])] i2/\CX Tryz.prog 21 (Array.mk [agg (Array.mk [int u8 bl,int u64 bm,int u64 bn,int u64 bo,int u64 bp,int i64 bq,int
 i64 bs,slice dv bt bu])]) i2 [] R_17/\Zaz (shT) R_17/\∀(fa fb fc fd fe ff fg:Int)(h6:Option Addr)(fh fi:Nat)(i3:Mem),Mem.le i2 i3->R_17 (agg (Array.mk [int u8 fa,int u64 fb,int u64 fc,int u64 fd,
 int u64 fe,int i64 ff,int i64 fg,slice h6 fh fi])) i3 []->∃(R_18:RT),R_18=f 35 [agg (Array.mk [int u8 bl,int u64 bm,int u64 bn,int u64 bo,int u64 bp,int i64 bq,int i64 bs,slice dv bt bu])] i3/\CX
 Tryz.prog 21 (Array.mk [agg (Array.mk [int u8 bl,int u64 bm,int u64 bn,int u64 bo,int u64 bp,int i64 bq,int i64 bs,slice dv bt bu])]) i3 [] R_18/\Zaz (shT) R_18/\∀(fj fk fl fm fn fo fp:Int) (h7:Option
 Addr) (fq fr:Nat) (h8:Mem),Mem.le i3 h8->R_18 (agg (Array.mk [int u8 fj,int u64 fk,int u64 fl,int u64 fm,int u64 fn,int i64 fo,int i64 fp,slice h7 fq fr])) h8 []->∀(dp:Nat),Mem.free h8 dp->∃(R_19:
 RT),R_19=f 37 [slice (some (Addr.mk dp 0 none)) 2 2] (Mem.add h8 dp (Zad fa fb fc fd fe ff fg h6 fh fi fj fk fl fm fn fo fp h7 fq fr))/\CX Tryz.prog 19 (Array.mk [slice (some (Addr.mk dp 0 none)) 2 2])
 (Mem.add h8 dp (Zad fa fb fc fd fe ff fg h6 fh fi fj fk fl fm fn fo fp h7 fq fr)) [] R_19/\Zaz (shT) R_19/\∀(cs ct cu cv cw cx cy:Int)(fy:Option Addr)(cz da:Nat)(kr:Mem),Mem.le (Mem.add h8 dp
 (Zad fa fb fc fd fe ff fg h6 fh fi fj fk fl fm fn fo fp h7 fq fr)) kr->R_19 (agg (Array.mk [int u8 cs,int u64 ct,int u64 cu,int u64 cv,int u64 cw,int i64 cx,int i64 cy,slice fy cz da])) kr []->∀(cd
 : Nat),Mem.free m' cd->∀(ey:Nat),Mem.free m' ey->∀(V:Mem),Mem.le m' V->Mem.le kr V->Mem.le (Mem.add m' ey (Zad n aa ab ac ad ae af a ag c ah ai aj ak al am an aq ao ap)) V->∃(R_20:RT),R_20 =
 f 45 [slice (some (Addr.mk ey 0 none)) 2 2] V/\CX Tryz.prog 22 (Array.mk [slice (some (Addr.mk ey 0 none)) 2 2]) V [] R_20/\Zaz (shT) R_20/\∀(h9 ia ib ic ie ig ih:Int)(k7:Option Addr)(ii ij:Nat)(i4:Mem),
 Mem.le V i4->R_20 (agg (Array.mk [int u8 h9,int u64 ia,int u64 ib,int u64 ic,int u64 ie,int i64 ig,int i64 ih,slice k7 ii ij])) i4 []->∃(R_21:RT),R_21=f 46 [agg (Array.mk [int u8 h9,int u64 ia,int u64
 ib,int u64 ic,int u64 ie,int i64 ig,int i64 ih,slice k7 ii ij])] i4/\CX Tryz.prog 21 (Array.mk [agg (Array.mk [int u8 h9,int u64 ia,int u64 ib,int u64 ic,int u64 ie,int i64 ig,int i64 ih,slice k7 ii ij])])
 i4 [] R_21/\Zaz (shT) R_21/\∀(jf k8 k9 la lb lc ld:Int)(lf:Option Addr)(lg lh:Nat)(i5:Mem),Mem.le i4 i5->R_21 (agg (Array.mk [int u8 jf,int u64 k8,int u64 k9,int u64 la,int u64 lb,int i64 lc,int
 i64 ld,slice lf lg lh])) i5 []->∃(R_22:RT),R_22=f 47 [agg (Array.mk [int u8 jf,int u64 k8,int u64 k9,int u64 la,int u64 lb,int i64 lc,int i64 ld,slice lf lg lh]),int i64 0,int i64 (-1:Int)] i5/\CX
 Tryz.prog 20 (Array.mk [agg (Array.mk [int u8 jf,int u64 k8,int u64 k9,int u64 la,int u64 lb,int i64 lc,int i64 ld,slice lf lg lh]),int i64 0,int i64 (-1:Int)]) i5 [] R_22/\Zaz (shT) R_22/\∀(fz f0 f1 f2
 f3 f4 f5:Int) (f6:Option Addr) (f7 f8:Nat) (i6:Mem),Mem.le i5 i6->R_22 (agg (Array.mk [int u8 fz,int u64 f0,int u64 f1,int u64 f2,int u64 f3,int i64 f4,int i64 f5,slice f6 f7 f8])) i6 []->∀(ce:Nat),
 Mem.free m' ce->∃(R_23:RT),R_23=f 52 [agg (Array.mk [int u8 bl,int u64 bm,int u64 bn,int u64 bo,int u64 bp,int i64 bq,int i64 bs,slice dv bt bu])] i6/\CX Tryz.prog 21 (Array.mk [agg (Array.mk [int u8 bl,
 int u64 bm,int u64 bn,int u64 bo,int u64 bp,int i64 bq,int i64 bs,slice dv bt bu])]) i6 [] R_23/\Zaz (shT) R_23/\∀(li lj lk ll lm ln lo:Int)(lp:Option Addr)(lq lr:Nat)(i7:Mem),Mem.le i6 i7->R_23
 (agg (Array.mk [int u8 li,int u64 lj,int u64 lk,int u64 ll,int u64 lm,int i64 ln,int i64 lo,slice lp lq lr])) i7 []->∃(R_24:RT),R_24=f 53 [agg (Array.mk [int u8 li,int u64 lj,int u64 lk,int u64 ll,int
 u64 lm,int i64 ln,int i64 lo,slice lp lq lr]),int i64 0,int i64 (-1:Int)] i7/\CX Tryz.prog 20 (Array.mk [agg (Array.mk [int u8 li,int u64 lj,int u64 lk,int u64 ll,int u64 lm,int i64 ln,int i64 lo,slice lp
 lq lr]),int i64 0,int i64 (-1:Int)]) i7 [] R_24/\Zaz (shT) R_24/\∀(f9 ga gb gc gd ge gf:Int)(gg:Option Addr)(gh gi:Nat)(i8:Mem),Mem.le i7 i8->R_24 (agg (Array.mk [int u8 f9,int u64 ga,int u64 gb,
 int u64 gc,int u64 gd,int i64 ge,int i64 gf,slice gg gh gi])) i8 []->∀(cf:Nat),Mem.free m' cf->∃(R_25:RT),R_25=f 58 [agg (Array.mk [int u8 bl,int u64 bm,int u64 bn,int u64 bo,int u64 bp,int i64 bq,
 int i64 bs,slice dv bt bu])] i8/\CX Tryz.prog 21 (Array.mk [agg (Array.mk [int u8 bl,int u64 bm,int u64 bn,int u64 bo,int u64 bp,int i64 bq,int i64 bs,slice dv bt bu])]) i8 [] R_25/\Zaz (shT) R_25/\∀(ls lt
 lu lv lw lx ly:Int) (lz:Option Addr) (l0 l1:Nat) (i9:Mem),Mem.le i8 i9->R_25 (agg (Array.mk [int u8 ls,int u64 lt,int u64 lu,int u64 lv,int u64 lw,int i64 lx,int i64 ly,slice lz l0 l1])) i9 []->∃(R_26
 : RT),R_26=f 59 [agg (Array.mk [int u8 ls,int u64 lt,int u64 lu,int u64 lv,int u64 lw,int i64 lx,int i64 ly,slice lz l0 l1]),int i64 1,int i64 2] i9/\CX Tryz.prog 20 (Array.mk [agg (Array.mk [int u8 ls,int
 u64 lt,int u64 lu,int u64 lv,int u64 lw,int i64 lx,int i64 ly,slice lz l0 l1]),int i64 1,int i64 2]) i9 [] R_26/\Zaz (shT) R_26/\∀(gj gk gl gm gn go gp:Int)(gq:Option Addr)(gr gs:Nat)(ja:Mem),
 Mem.le i9 ja->R_26 (agg (Array.mk [int u8 gj,int u64 gk,int u64 gl,int u64 gm,int u64 gn,int i64 go,int i64 gp,slice gq gr gs])) ja []->∀(cg:Nat),Mem.free m' cg->∃(R_27:RT),R_27=f 64 [agg (Array.mk
 [int u8 n,int u64 aa,int u64 ab,int u64 ac,int u64 ad,int i64 ae,int i64 af,slice a ag c])] ja/\CX Tryz.prog 21 (Array.mk [agg (Array.mk [int u8 n,int u64 aa,int u64 ab,int u64 ac,int u64 ad,int i64 ae,int
 i64 af,slice a ag c])]) ja [] R_27/\Zaz (shT) R_27/\∀(ik il im io ip iq ir:Int)(it:Option Addr)(iu iv:Nat)(iw:Mem),Mem.le ja iw->R_27 (agg (Array.mk [int u8 ik,int u64 il,int u64 im,int u64 io,int
 u64 ip,int i64 iq,int i64 ir,slice it iu iv])) iw []->∀(dq:Nat),Mem.free iw dq->∃(R_28:RT),R_28=f 67 [slice (some (Addr.mk dq 0 none)) 2 2] (Mem.add iw dq (Zaw ah ai aj ak al am an aq ao ap ik
 il im io ip iq ir it iu iv))/\CX Tryz.prog 22 (Array.mk [slice (some (Addr.mk dq 0 none)) 2 2]) (Mem.add iw dq (Zaw ah ai aj ak al am an aq ao ap ik il im io ip iq ir it iu iv)) [] R_28/\Zaz (shT) R_28/\∀
 (l2 l3 l4 l5 l6 l7 l8:Int) (l9:Option Addr) (ma mb:Nat) (jb:Mem),Mem.le (Mem.add iw dq (Zaw ah ai aj ak al am an aq ao ap ik il im io ip iq ir it iu iv)) jb->R_28 (agg (Array.mk [int u8 l2,int u64
 l3,int u64 l4,int u64 l5,int u64 l6,int i64 l7,int i64 l8,slice l9 ma mb])) jb []->∃(R_29:RT),R_29=f 68 [agg (Array.mk [int u8 l2,int u64 l3,int u64 l4,int u64 l5,int u64 l6,int i64 l7,int i64 l8,
 slice l9 ma mb])] jb/\CX Tryz.prog 21 (Array.mk [agg (Array.mk [int u8 l2,int u64 l3,int u64 l4,int u64 l5,int u64 l6,int i64 l7,int i64 l8,slice l9 ma mb])]) jb [] R_29/\Zaz (shT) R_29/\∀(mc md mf mg mh mi
 mj:Int) (ml:Option Addr) (mm mn:Nat) (jc:Mem),Mem.le jb jc->R_29 (agg (Array.mk [int u8 mc,int u64 md,int u64 mf,int u64 mg,int u64 mh,int i64 mi,int i64 mj,slice ml mm mn])) jc []->∃(R_30:RT),R_30
 = f 69 [agg (Array.mk [int u8 mc,int u64 md,int u64 mf,int u64 mg,int u64 mh,int i64 mi,int i64 mj,slice ml mm mn]),int i64 0,int i64 (-1:Int)] jc/\CX Tryz.prog 20 (Array.mk [agg (Array.mk [int u8 mc,int
 u64 md,int u64 mf,int u64 mg,int u64 mh,int i64 mi,int i64 mj,slice ml mm mn]),int i64 0,int i64 (-1:Int)]) jc [] R_30/\Zaz (shT) R_30/\∀(gt gu gv gw gx gy gz:Int)(g0:Option Addr)(g1 g2:Nat) (ks:
 Mem),Mem.le jc ks->R_30 (agg (Array.mk [int u8 gt,int u64 gu,int u64 gv,int u64 gw,int u64 gx,int i64 gy,int i64 gz,slice g0 g1 g2])) ks []->∀(ch:Nat),Mem.free m' ch->∀(V:Mem),Mem.le m' V->Mem.le
 (Mem.add m' cb [int i64 0,int i64 1,int i64 1,int i64 3]) V->Mem.le (Mem.add m' cc [int i64 0,int i64 2,int i64 2,int i64 3]) V->Mem.le (Mem.add m' cd [int i64 0,int i64 2,int i64 2,int i64 2]) V->Mem.le
 (Mem.add m' ce [int i64 1,int i64 2]) V->Mem.le (Mem.add m' cf [int i64 (-1:Int),int i64 (-1:Int)]) V->Mem.le (Mem.add m' cg [int i64 0,int i64 0]) V->Mem.le ks V->Mem.le (Mem.add m' ch [int i64 1,int i64 2,
 int i64 0,int i64 1]) V->∀(hf:Nat),Mem.free V hf->∀(M:Mem),Mem.le m' M->Mem.le (Mem.add m' db (Zad n aa ab ac ad ae af a ag c a2 a3 a4 a5 a6 a7 a8 bz a9 ba)) M->Mem.le iy M->Mem.le ko M->Mem.le
 (Mem.add m' ed (Zad ar au av aw ax ay az bv a0 a1 bc bd be bf bg bh bi ds bj bk)) M->Mem.le iz M->Mem.le ht M->Mem.le (Mem.add ht dd (Zad dc d5 d6 d7 d8 d9 ea hi eb ec ee ef eg eh ei ej ek hs el
 em)) M->Mem.le kp M->Mem.le (Mem.add m' cb [int i64 0,int i64 1,int i64 1,int i64 3]) M->Mem.le (Mem.add m' en (Zaw n aa ab ac ad ae af a ag c a2 a3 a4 a5 a6 a7 a8 bz a9 ba)) M->Mem.le i0 M->Mem.le kq
 M->Mem.le (Mem.add m' ex (Zaw ar au av aw ax ay az bv a0 a1 bc bd be bf bg bh bi ds bj bk)) M->Mem.le i1 M->Mem.le h5 M->Mem.le (Mem.add h5 de (Zad eo ep eq er es et eu h3 ev ew e1 e2 e3 e4 e5
 e6 e7 h4 e8 e9)) M->Mem.le i2 M->Mem.le (Mem.add m' cc [int i64 0,int i64 2,int i64 2,int i64 3]) M->Mem.le i3 M->Mem.le h8 M->Mem.le (Mem.add h8 dp (Zad fa fb fc fd fe ff fg h6 fh fi fj fk fl fm fn
 fo fp h7 fq fr)) M->Mem.le kr M->Mem.le (Mem.add m' cd [int i64 0,int i64 2,int i64 2,int i64 2]) M->Mem.le (Mem.add m' ey (Zad n aa ab ac ad ae af a ag c ah ai aj ak al am an aq ao ap)) M->Mem.le i4 M
 -> Mem.le i5 M->Mem.le i6 M->Mem.le (Mem.add m' ce [int i64 1,int i64 2]) M->Mem.le i7 M->Mem.le i8 M->Mem.le (Mem.add m' cf [int i64 (-1:Int),int i64 (-1:Int)]) M->Mem.le i9 M->Mem.le ja M->Mem.le (Mem.add
 m' cg [int i64 0,int i64 0]) M->Mem.le iw M->Mem.le (Mem.add iw dq (Zaw ah ai aj ak al am an aq ao ap ik il im io ip iq ir it iu iv)) M->Mem.le jb M->Mem.le jc M->Mem.le ks M->Mem.le (Mem.add m' ch
 [int i64 1,int i64 2,int i64 0,int i64 1]) M->Mem.le (Mem.add V hf (ZaZ cj ck cl cm cn co cp fw cq cr cb df dg dh di dj dk dl fx dm dn cc cs ct cu cv cw cx cy fy cz da cd fz f0 f1 f2 f3 f4 f5 f6 f7 f8 ce
 f9 ga gb gc gd ge gf gg gh gi cf gj gk gl gm gn go gp gq gr gs cg gt gu gv gw gx gy gz g0 g1 g2 ch)) M->∃(I:IT),(∃(n:Nat),I [int i64 0] [] [] M n)/\∀(fs:Int)(m':Mem)(ot:Nat),Mem.le M m'->I [int i64
 fs] [] [] m' ot->br (decide (fs < (↑(7:Nat):Int))) (Zag fs 7/\chk (Nat.ble (Int.toNat fs*10) (1+1+1+1+1+1+1+1+1+1+1+1+1+1+1+1+1+1+1+1+1+1+1+1+1+1+1+1+1
 + 1+1+1+1+1+1+1+1+1+1+1+1+1+1+1+1+1+1+1+1+1+1+1+1+1+1+1+1+1+1+1)) (∀(ft:Nat),chk (Nat.beq (List.length (List.take 10 (List.drop (Int.toNat fs*10)
 (ZaZ cj ck cl cm cn co cp fw cq cr cb df dg dh di dj dk dl fx dm dn cc cs ct cu cv cw cx cy fy cz da cd fz f0 f1 f2 f3 f4 f5 f6 f7 f8 ce f9 ga gb gc gd ge gf gg gh gi cf gj gk gl gm gn go gp gq gr gs cg gt gu
 gv gw gx gy gz g0 g1 g2 ch)))) 10&&ZeL (List.take 10 (List.drop (Int.toNat fs*10) (ZaZ cj ck cl cm cn co cp fw cq cr cb df dg dh di dj dk dl fx dm dn cc cs ct cu cv cw cx cy fy cz da cd fz f0 f1 f2 f3
 f4 f5 f6 f7 f8 ce f9 ga gb gc gd ge gf gg gh gi cf gj gk gl gm gn go gp gq gr gs cg gt gu gv gw gx gy gz g0 g1 g2 ch)))) (chk (Nat.ble 8 (List.length (List.take 10 (List.drop (Int.toNat fs*10) (ZaZ cj ck cl
 cm cn co cp fw cq cr cb df dg dh di dj dk dl fx dm dn cc cs ct cu cv cw cx cy fy cz da cd fz f0 f1 f2 f3 f4 f5 f6 f7 f8 ce f9 ga gb gc gd ge gf gg gh gi cf gj gk gl gm gn go gp gq gr gs cg gt gu gv gw gx gy gz g0 g1 g2
 ch))))) (Eng.Zum (List.take 10 (List.drop (Int.toNat fs*10) (ZaZ cj ck cl cm cn co cp fw cq cr cb df dg dh di dj dk dl fx dm dn cc cs ct cu cv cw cx cy fy cz da cd fz f0 f1 f2 f3 f4 f5 f6 f7 f8 ce f9 ga gb
 gc gd ge gf gg gh gi cf gj gk gl gm gn go gp gq gr gs cg gt gu gv gw gx gy gz g0 g1 g2 ch))) 8 λ(v:Value)=>chk (ZlO v) (∀(g4 jg:Nat),Mem.free m' g4->ByteArray.size (Zcz v)<=jg->∃(R_31:RT),True/\CX
 Tryz.prog 10 (Array.mk [agg (Array.mk (List.take 8 (List.take 10 (List.drop (Int.toNat fs*10) (ZaZ cj ck cl cm cn co cp fw cq cr cb df dg dh di dj dk dl fx dm dn cc cs ct cu cv cw cx cy fy cz da cd fz f0 f1
 f2 f3 f4 f5 f6 f7 f8 ce f9 ga gb gc gd ge gf gg gh gi cf gj gk gl gm gn go gp gq gr gs cg gt gu gv gw gx gy gz g0 g1 g2 ch))))),slice (some (Addr.mk g4 0 none)) (ByteArray.size (Zcz v)) jg]) (Mem.add m' g4 (ZaI
 (Zcz v))) [] R_31/\Zaz (Shape.tup [Shape.slice,Shape.int i64]) R_31/\∀(ou:Option Addr)(jh ji:Nat)(jj:Int)(g3:Mem),Mem.le (Mem.add m' g4 (ZaI (Zcz v))) g3->R_31 (tuple (Array.mk [slice ou jh
 ji,int i64 jj])) g3 []->∃(hg:Bool),br (!jj == (0:Int)) (ZaG (ZfZ n aa ab ac ad ae af a ag c ah ai aj ak al am an aq ao ap ar au av aw ax ay az bv a0 a1 b ez e0 bw a2 a3 a4 a5 a6 a7 a8 bz a9 ba ca
 bc bd be bf bg bh bi ds bj bk dt du bl bm bn bo bp bq bs dv bt bu fv db dc d5 d6 d7 d8 d9 ea hi eb ec ed ee ef eg eh ei ej ek hs el em dd cj ck cl cm cn co cp fw cq cr cb en eo ep eq er es et eu h3 ev ew ex e1 e2 e3 e4
 e5 e6 e7 h4 e8 e9 de df dg dh di dj dk dl fx dm dn cc fa fb fc fd fe ff fg h6 fh fi fj fk fl fm fn fo fp h7 fq fr dp cs ct cu cv cw cx cy fy cz da cd ey fz f0 f1 f2 f3 f4 f5 f6 f7 f8 ce f9 ga gb gc gd ge gf gg gh gi cf
 gj gk gl gm gn go gp gq gr gs cg ik il im io ip iq ir it iu iv dq gt gu gv gw gx gy gz g0 g1 g2 ch hf fs ft)/\[bool true]=[bool hg]) (Eng.Zum (List.take 10 (List.drop (Int.toNat fs*10) (ZaZ cj ck cl cm
 cn co cp fw cq cr cb df dg dh di dj dk dl fx dm dn cc cs ct cu cv cw cx cy fy cz da cd fz f0 f1 f2 f3 f4 f5 f6 f7 f8 ce f9 ga gb gc gd ge gf gg gh gi cf gj gk gl gm gn go gp gq gr gs cg gt gu gv gw gx gy gz g0 g1 g2
 ch))) 9 λ(v:Value)=>∃(R:RT),True/\CX Tryz.prog 23 (Array.mk [slice ou jh ji,v]) g3 [] R/\Zaz Shape.bool R/\∀(g5:Bool)(m':Mem),Mem.le g3 m'->R (bool g5) m' []->ZaG (ZfZ n aa ab ac
 ad ae af a ag c ah ai aj ak al am an aq ao ap ar au av aw ax ay az bv a0 a1 b ez e0 bw a2 a3 a4 a5 a6 a7 a8 bz a9 ba ca bc bd be bf bg bh bi ds bj bk dt du bl bm bn bo bp bq bs dv bt bu fv db dc d5 d6 d7 d8 d9 ea hi eb
 ec ed ee ef eg eh ei ej ek hs el em dd cj ck cl cm cn co cp fw cq cr cb en eo ep eq er es et eu h3 ev ew ex e1 e2 e3 e4 e5 e6 e7 h4 e8 e9 de df dg dh di dj dk dl fx dm dn cc fa fb fc fd fe ff fg h6 fh fi fj fk fl fm fn
 fo fp h7 fq fr dp cs ct cu cv cw cx cy fy cz da cd ey fz f0 f1 f2 f3 f4 f5 f6 f7 f8 ce f9 ga gb gc gd ge gf gg gh gi cf gj gk gl gm gn go gp gq gr gs cg ik il im io ip iq ir it iu iv dq gt gu gv gw gx gy gz g0 g1 g2 ch
 hf fs ft)/\[bool !g5]=[bool hg])/\br hg (∃(m'':Mem),Mem.le m m''/\Mem.le m'' g3/\R (bool false) m'' []) (ZaG (ZiL n aa ab ac ad ae af a ag c ah ai aj ak al am an aq ao ap ar au av aw ax ay az bv
 a0 a1 b ez e0 bw a2 a3 a4 a5 a6 a7 a8 bz a9 ba ca bc bd be bf bg bh bi ds bj bk dt du bl bm bn bo bp bq bs dv bt bu fv db dc d5 d6 d7 d8 d9 ea hi eb ec ed ee ef eg eh ei ej ek hs el em dd cj ck cl cm cn co cp fw cq cr
 cb en eo ep eq er es et eu h3 ev ew ex e1 e2 e3 e4 e5 e6 e7 h4 e8 e9 de df dg dh di dj dk dl fx dm dn cc fa fb fc fd fe ff fg h6 fh fi fj fk fl fm fn fo fp h7 fq fr dp cs ct cu cv cw cx cy fy cz da cd ey fz f0 f1 f2 f3
 f4 f5 f6 f7 f8 ce f9 ga gb gc gd ge gf gg gh gi cf gj gk gl gm gn go gp gq gr gs cg ik il im io ip iq ir it iu iv dq gt gu gv gw gx gy gz g0 g1 g2 ch hf)/\∃(n':Nat),n' < ot/\I [int i64 (IntKind.wrap i64 (fs+(1:
 Int)))] [] [] g3 n')))))) (∃(R_31:RT),True/\CX Tryz.prog 21 (Array.mk [agg (Array.mk [int u8 bl,int u64 bm,int u64 bn,int u64 bo,int u64 bp,int i64 bq,int i64 bs,slice dv bt bu])]) m' [] R_31/\Zaz (shT)
 R_31/\∀(jh jj ov ow ox oy oz:Int)(pa:Option Addr)(pb jg:Nat)(g3:Mem),Mem.le m' g3->R_31 (agg (Array.mk [int u8 jh,int u64 jj,int u64 ov,int u64 ow,int u64 ox,int i64 oy,int i64 oz,slice pa pb jg]))
 g3 []->∃(R_32:RT),True/\CX Tryz.prog 20 (Array.mk [agg (Array.mk [int u8 jh,int u64 jj,int u64 ov,int u64 ow,int u64 ox,int i64 oy,int i64 oz,slice pa pb jg]),int i64 0,int i64 (-1:Int)]) g3 [] R_32/\
 Zaz (shT) R_32/\∀(pc pd pe pf pg ph pi:Int)(pj:Option Addr)(pk ji:Nat)(m':Mem),Mem.le g3 m'->R_32 (agg (Array.mk [int u8 pc,int u64 pd,int u64 pe,int u64 pf,int u64 pg,int i64 ph,int i64 pi,slice
 pj pk ji])) m' []->∀(b:Nat),Mem.free m' b->∃(R_33:RT),True/\CX Tryz.prog 10 (Array.mk [agg (Array.mk [int u8 pc,int u64 pd,int u64 pe,int u64 pf,int u64 pg,int i64 ph,int i64 pi,slice pj pk ji]),slice
 (some (Addr.mk b 0 none)) 1 1]) (Mem.add m' b [int u8 98]) [] R_33/\Zaz (Shape.tup [Shape.slice,Shape.int i64]) R_33/\∀(qj:Option Addr)(qk ql:Nat)(pl:Int)(jk:Mem),Mem.le (Mem.add m' b [int u8 98]) jk->
 R_33 (tuple (Array.mk [slice qj qk ql,int i64 pl])) jk []->∀(b:Nat),Mem.free jk b->∃(R_34:RT),True/\CX Tryz.prog 22 (Array.mk [slice (some (Addr.mk b 0 none)) 2 2]) (Mem.add jk b (Zaw ah ai aj ak
 al am an aq ao ap bl bm bn bo bp bq bs dv bt bu)) [] R_34/\Zaz (shT) R_34/\∀(pm pn po pp pq pr ps:Int)(pt:Option Addr)(pu pv:Nat)(m':Mem),Mem.le (Mem.add jk b (Zaw ah ai aj ak al am an aq ao
 ap bl bm bn bo bp bq bs dv bt bu)) m'->R_34 (agg (Array.mk [int u8 pm,int u64 pn,int u64 po,int u64 pp,int u64 pq,int i64 pr,int i64 ps,slice pt pu pv])) m' []->∀(b:Nat),Mem.free m' b->∃(R_35:RT),True
 /\ CX Tryz.prog 12 (Array.mk [agg (Array.mk [int u8 pm,int u64 pn,int u64 po,int u64 pp,int u64 pq,int i64 pr,int i64 ps,slice pt pu pv]),slice (some (Addr.mk b 0 none)) 3 3,int i64 0]) (Mem.add m' b [int u8 97,
 int u8 97,int u8 98]) [] R_35/\Zaz (Shape.tup [Shape.slice,Shape.int i64]) R_35/\∀(pw:Option Addr)(px py:Nat)(pz:Int)(fu:Mem),Mem.le (Mem.add m' b [int u8 97,int u8 97,int u8 98]) fu->R_35 (tuple
 (Array.mk [slice pw px py,int i64 pz])) fu []->∃(f:Fx),∀(b:Nat),Mem.free fu b->∃(R_36:RT),R_36=f 3 [slice (some (Addr.mk b 0 none)) 2 2] (Mem.add fu b (ZcL n aa ab ac ad ae af a ag c))/\CX
 Tryz.prog 19 (Array.mk [slice (some (Addr.mk b 0 none)) 2 2]) (Mem.add fu b (ZcL n aa ab ac ad ae af a ag c)) [] R_36/\Zaz (shT) R_36/\∀(jl jm jn jo jp jq jr:Int)(js:Option Addr)(jt ju:Nat) (m':
 Mem),Mem.le (Mem.add fu b (ZcL n aa ab ac ad ae af a ag c)) m'->R_36 (agg (Array.mk [int u8 jl,int u64 jm,int u64 jn,int u64 jo,int u64 jp,int i64 jq,int i64 jr,slice js jt ju])) m' []->∀(ft:
 Nat),Mem.free m' ft->∃(R_37:RT),R_37=f 6 [slice (some (Addr.mk ft 0 none)) 2 2] (Mem.add m' ft (Zaw n aa ab ac ad ae af a ag c jl jm jn jo jp jq jr js jt ju))/\CX Tryz.prog 22 (Array.mk [slice (some
 (Addr.mk ft 0 none)) 2 2]) (Mem.add m' ft (Zaw n aa ab ac ad ae af a ag c jl jm jn jo jp jq jr js jt ju)) [] R_37/\Zaz (shT) R_37/\∀(mo mp mq mr ms mt mu:Int)(mv:Option Addr)(mw mx:Nat) (jd:
 Mem),Mem.le (Mem.add m' ft (Zaw n aa ab ac ad ae af a ag c jl jm jn jo jp jq jr js jt ju)) jd->R_37 (agg (Array.mk [int u8 mo,int u64 mp,int u64 mq,int u64 mr,int u64 ms,int i64 mt,int i64 mu,slice
 mv mw mx])) jd []->∃(R_38:RT),R_38=f 7 [agg (Array.mk [int u8 mo,int u64 mp,int u64 mq,int u64 mr,int u64 ms,int i64 mt,int i64 mu,slice mv mw mx]),int i64 0,int i64 (-1:Int)] jd/\CX Tryz.prog 20
 (Array.mk [agg (Array.mk [int u8 mo,int u64 mp,int u64 mq,int u64 mr,int u64 ms,int i64 mt,int i64 mu,slice mv mw mx]),int i64 0,int i64 (-1:Int)]) jd [] R_38/\Zaz (shT) R_38/\∀(mz na nb nc nd ne nf:
 Int) (ng:Option Addr) (nh ni:Nat) (kt:Mem),Mem.le jd kt->R_38 (agg (Array.mk [int u8 mz,int u64 na,int u64 nb,int u64 nc,int u64 nd,int i64 ne,int i64 nf,slice ng nh ni])) kt []->∀(g4:Nat),Mem.free
 fu g4->∀(V:Mem),Mem.le fu V->Mem.le kt V->Mem.le (Mem.add fu g4 [int u8 97,int u8 97,int u8 97]) V->∃(R_39:RT),R_39=f 10 [agg (Array.mk [int u8 mz,int u64 na,int u64 nb,int u64 nc,int u64 nd,int i64
 ne,int i64 nf,slice ng nh ni]),slice (some (Addr.mk g4 0 none)) 3 3] V/\CX Tryz.prog 24 (Array.mk [agg (Array.mk [int u8 mz,int u64 na,int u64 nb,int u64 nc,int u64 nd,int i64 ne,int i64 nf,slice ng nh ni]),
 slice (some (Addr.mk g4 0 none)) 3 3]) V [] R_39/\Zaz (Shape.tup [Shape.int i64,Shape.int i64]) R_39/\∀(qa qb:Int)(nj:Mem),Mem.le V nj->R_39 (tuple (Array.mk [int i64 qa,int i64 qb])) nj []->∀(M:Mem),
 Mem.le fu M->Mem.le (Mem.add fu b (ZcL n aa ab ac ad ae af a ag c)) M->Mem.le m' M->Mem.le (Mem.add m' ft (Zaw n aa ab ac ad ae af a ag c jl jm jn jo jp jq jr js jt ju)) M->Mem.le jd M->
 Mem.le kt M->Mem.le (Mem.add fu g4 [int u8 97,int u8 97,int u8 97]) M->Mem.le nj M->∃(f:Fx),∀(b:Nat),Mem.free M b->∃(R_40:RT),R_40=f 3 [slice (some (Addr.mk b 0 none)) 2 2] (Mem.add M b
 (Zad n aa ab ac ad ae af a ag c a2 a3 a4 a5 a6 a7 a8 bz a9 ba))/\CX Tryz.prog 22 (Array.mk [slice (some (Addr.mk b 0 none)) 2 2]) (Mem.add M b (Zad n aa ab ac ad ae af a ag c a2 a3 a4 a5 a6 a7 a8
 bz a9 ba)) [] R_40/\Zaz (shT) R_40/\∀(nk nl nm nn np nq nr:Int)(ns:Option Addr)(nt nu:Nat)(m':Mem),Mem.le (Mem.add M b (Zad n aa ab ac ad ae af a ag c a2 a3 a4 a5 a6 a7 a8 bz a9 ba)) m'->R_40
 (agg (Array.mk [int u8 nk,int u64 nl,int u64 nm,int u64 nn,int u64 np,int i64 nq,int i64 nr,slice ns nt nu])) m' []->∃(R_41:RT),R_41=f 4 [agg (Array.mk [int u8 nk,int u64 nl,int u64 nm,int u64 nn,int
 u64 np,int i64 nq,int i64 nr,slice ns nt nu])] m'/\CX Tryz.prog 21 (Array.mk [agg (Array.mk [int u8 nk,int u64 nl,int u64 nm,int u64 nn,int u64 np,int i64 nq,int i64 nr,slice ns nt nu])]) m' [] R_41/\Zaz
 (shT) R_41/\∀(jv jw jx jy jz j0 j1:Int)(j2:Option Addr)(j3 j4:Nat)(ku:Mem),Mem.le m' ku->R_41 (agg (Array.mk [int u8 jv,int u64 jw,int u64 jx,int u64 jy,int u64 jz,int i64 j0,int i64 j1,slice j2 j3
 j4])) ku []->∀(hg:Nat),Mem.free M hg->∀(V:Mem),Mem.le M V->Mem.le ku V->Mem.le (Mem.add M hg (Zad ar au av aw ax ay az bv a0 a1 bc bd be bf bg bh bi ds bj bk)) V->∃(R_42:RT),R_42=f 8 [slice
 (some (Addr.mk hg 0 none)) 2 2] V/\CX Tryz.prog 22 (Array.mk [slice (some (Addr.mk hg 0 none)) 2 2]) V [] R_42/\Zaz (shT) R_42/\∀(nv nw nx ny nz oa ob:Int)(oc:Option Addr)(od oe:Nat)(je:Mem),Mem.le V je
 -> R_42 (agg (Array.mk [int u8 nv,int u64 nw,int u64 nx,int u64 ny,int u64 nz,int i64 oa,int i64 ob,slice oc od oe])) je []->∃(R_43:RT),R_43=f 9 [agg (Array.mk [int u8 nv,int u64 nw,int u64 nx,int u64
 ny,int u64 nz,int i64 oa,int i64 ob,slice oc od oe])] je/\CX Tryz.prog 21 (Array.mk [agg (Array.mk [int u8 nv,int u64 nw,int u64 nx,int u64 ny,int u64 nz,int i64 oa,int i64 ob,slice oc od oe])]) je [] R_43/\
 Zaz (shT) R_43/\∀(j5 j6 j7 j8 j9 ka kb:Int)(kc:Option Addr)(kd ke:Nat)(ix:Mem),Mem.le je ix->R_43 (agg (Array.mk [int u8 j5,int u64 j6,int u64 j7,int u64 j8,int u64 j9,int i64 ka,int i64 kb,slice
 kc kd ke])) ix []->∀(g5:Nat),Mem.free ix g5->∃(R_44:RT),R_44=f 11 [slice (some (Addr.mk g5 0 none)) 2 2] (Mem.add ix g5 (Zad jv jw jx jy jz j0 j1 j2 j3 j4 j5 j6 j7 j8 j9 ka kb kc kd ke))/\CX
 Tryz.prog 19 (Array.mk [slice (some (Addr.mk g5 0 none)) 2 2]) (Mem.add ix g5 (Zad jv jw jx jy jz j0 j1 j2 j3 j4 j5 j6 j7 j8 j9 ka kb kc kd ke)) [] R_44/\Zaz (shT) R_44/\∀(og oh oi oj ok ol om:Int) (oo
 : Option Addr) (op oq:Nat) (kv:Mem),Mem.le (Mem.add ix g5 (Zad jv jw jx jy jz j0 j1 j2 j3 j4 j5 j6 j7 j8 j9 ka kb kc kd ke)) kv->R_44 (agg (Array.mk [int u8 og,int u64 oh,int u64 oi,int u64 oj,int
 u64 ok,int i64 ol,int i64 om,slice oo op oq])) kv []->∀(kf:Nat),Mem.free M kf->∀(V:Mem),Mem.le M V->Mem.le kv V->Mem.le (Mem.add M kf [int u8 97,int u8 98,int u8 99]) V->∃(R_45:RT),R_45=f 14 [agg
 (Array.mk [int u8 og,int u64 oh,int u64 oi,int u64 oj,int u64 ok,int i64 ol,int i64 om,slice oo op oq]),slice (some (Addr.mk kf 0 none)) 3 3] V/\CX Tryz.prog 25 (Array.mk [agg (Array.mk [int u8 og,int u64 oh,
 int u64 oi,int u64 oj,int u64 ok,int i64 ol,int i64 om,slice oo op oq]),slice (some (Addr.mk kf 0 none)) 3 3]) V [] R_45/\Zaz (Shape.tup [Shape.slice,Shape.int i64]) R_45/\∀(qc:Option Addr)(qd qe:Nat)
 (qf:Int) (os:Mem),Mem.le V os->R_45 (tuple (Array.mk [slice qc qd qe,int i64 qf])) os []->∀(dr:Mem),Mem.le M dr->Mem.le (Mem.add M b (Zad n aa ab ac ad ae af a ag c a2 a3 a4 a5 a6 a7 a8 bz a9
 ba)) dr->Mem.le m' dr->Mem.le ku dr->Mem.le (Mem.add M hg (Zad ar au av aw ax ay az bv a0 a1 bc bd be bf bg bh bi ds bj bk)) dr->Mem.le je dr->Mem.le ix dr->Mem.le (Mem.add ix g5 (Zad jv jw
 jx jy jz j0 j1 j2 j3 j4 j5 j6 j7 j8 j9 ka kb kc kd ke)) dr->Mem.le kv dr->Mem.le (Mem.add M kf [int u8 97,int u8 98,int u8 99]) dr->Mem.le os dr->br (pl == (141:Int)) (br (IntKind.wrap i64 (IntKind.wrap i64 (pz
 + qb)+qf) == (0:Int)) (∀(b:Nat),Mem.free dr b->∃(R_46:RT),True/\CX Tryz.prog 16 (Array.mk [slice pw px py,slice (some (Addr.mk b 0 none)) 3 3]) (Mem.add dr b [int i64 2,int i64 1,int i64 0]) [] R_46/\
 Zaz Shape.bool R_46/\∀(qg:Bool)(m':Mem),Mem.le (Mem.add dr b [int i64 2,int i64 1,int i64 0]) m'->R_46 (bool qg) m' []->br qg (br (qa == (2:Int)) (∀(b:Nat),Mem.free m' b->∃(R_47:RT),True/\CX
 Tryz.prog 26 (Array.mk [slice qc qd qe,slice (some (Addr.mk b 0 none)) 3 3]) (Mem.add m' b [string (ByteArray.mk (Array.mk [(97:UInt8),(98:UInt8),(99:UInt8)])),string (ByteArray.mk (Array.mk [(97:UInt8)])),
 string (ByteArray.mk (Array.mk [(98:UInt8),(99:UInt8)]))]) [] R_47/\Zaz Shape.bool R_47/\∀(qh:Bool)(kg:Mem),Mem.le (Mem.add m' b [string (ByteArray.mk (Array.mk [(97:UInt8),(98:UInt8),(99:
 UInt8)])),string (ByteArray.mk (Array.mk [(97:UInt8)])),string (ByteArray.mk (Array.mk [(98:UInt8),(99:UInt8)]))]) kg->R_47 (bool qh) kg []->br qh (∃(R_48:RT),True/\CX Tryz.prog 17 (Array.mk []) kg []
 R_48/\Zaz (Shape.agg [Shape.int i64,Shape.int i64]) R_48/\∀(n qi:Int)(m':Mem),Mem.le kg m'->R_48 (agg (Array.mk [int i64 n,int i64 qi])) m' []->∃(b:Bool),EqIs Tryz.prog 51 (agg (Array.mk [int i64 n,
 int i64 qi])) (agg (Array.mk [int i64 (-1:Int),int i64 (-1:Int)])) b/\∃(m'':Mem),Mem.le m m''/\Mem.le m'' m'/\R (bool b) m'' []) (∃(m'':Mem),Mem.le m m''/\Mem.le m'' kg/\R (bool false) m'' [])) (∃(m''
 : Mem),Mem.le m m''/\Mem.le m'' m'/\R (bool false) m'' [])) (∃(m'':Mem),Mem.le m m''/\Mem.le m'' m'/\R (bool false) m'' [])) (∃(m'':Mem),Mem.le m m''/\Mem.le m'' dr/\R (bool false) m'' [])) (∃(m'':
 Mem),Mem.le m m''/\Mem.le m'' dr/\R (bool false) m'' []))
theorem ZjI  (m:Mem)(R:RT)(h:ZgG  m R):CX Tryz.prog 4 #[] m [] R:=
 Zah (E:=ZlF) Zay mix Tryz.func4 [] [] (by kernel_rfl) (Eq.mp (by kernel_rfl) h)
noncomputable def Zcy:Env:={ EB with
 loops:=(λi=>bif Nat.beq i 4 then⟨[(13,.int .i64)],[],[],false⟩ else⟨[],[],[],false⟩)
 dr:=(λi=>bif Nat.beq i 6 then[⟨0,[],[],none,[],[]⟩,⟨1,[],[],none,[],[]⟩,⟨2,[],[],none,[0,1],[]⟩,⟨3,[],[],none,[0,1,2],[]⟩,⟨4,[],[],none,[],[]⟩,⟨5,[],[],none,[],[]⟩,⟨6,[],[],none,[4,5],[]⟩,⟨7,[],[],none,[4,5,6],[]⟩,⟨8,[],[],none,[0,1,2,3,4,5,6,7],[]⟩]else[]) }
def Zbn(p0a:Option Addr)(p0n p0c:Nat)(p1a:Option Addr)(p1n p1c:Nat)(m:Mem)(R:RT):Prop:=
 br (!(↑p0n:Int) == (↑p1n:Int)) (∃(m'':Mem),Mem.le m m''/\Mem.le m'' m/\R (bool false) m'' []) (∃(I:IT),(∃(n:Nat),I [int i64 0] [] [] m n)/\∀(n:Int)(m':Mem)(n_1:Nat),Mem.le m m'->I [int i64
 n] [] [] m' n_1->br (decide (n < (↑p0n:Int))) (∃(b:Nat),∃(o:Nat),p0a=some (Addr.mk b o none)/\Zag n p0n/\∃(v:Value),m' b (o+Int.toNat n*1)=some v/\∃(b:Nat),∃(o:Nat),p1a=some
 (Addr.mk b o none)/\Zag n p1n/\∃(v_1:Value),m' b (o+Int.toNat n*1)=some v_1/\chk (ZlO v&&ZlO v_1) (br (!ByteArray.toList (Zcz v) == ByteArray.toList (Zcz v_1)) (∃(m'':Mem),Mem.le m m''/\
 Mem.le m'' m'/\R (bool false) m'' []) (∃(n':Nat),n' < n_1/\I [int i64 (IntKind.wrap i64 (n+(1:Int)))] [] [] m' n'))) (∃(m'':Mem),Mem.le m m''/\Mem.le m'' m'/\R (bool true) m'' []))
theorem Zci(p0a:Option Addr)(p0n p0c:Nat)(p1a:Option Addr)(p1n p1c:Nat)(m:Mem)(R:RT)(h:Zbn p0a p0n p0c p1a p1n p1c m R):CX Tryz.prog 26 #[.slice p0a p0n p0c,.slice p1a p1n p1c] m [] R:=
 Zah (E:=Zcy) Zay mix Tryz.func26 [.v (.slice p0a p0n p0c),.v (.slice p1a p1n p1c)] [] (by kernel_rfl) (Eq.mp (by kernel_rfl) h)
end Go.Proofs.YtgclajkldphoaaaGreat